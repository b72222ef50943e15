/-
  The walk of the law FnExactHornerTerm.
-/
import Derived.Test.YtaeeipojnfooeaaHorn
import Derived.Test.YtaeeipojnfooeaaUTerm
import Derived.Test.YtaeeipojnfooeaaUMTerm
import Derived.Test.YtaeeipojnfooeaaUSS
import Derived.Test.YtaeeipojnfooeaaCon2
import Derived.Test.YtaeeipojnfooeaaUMark
import Derived.Deep.RegionHeld2
namespace Go.Proofs.Ytaeeipojnfooeaa
open Go.RowKit
set_option linter.unusedVariables false
theorem U_spec_HornerTerm {w : World} {p0 : List Int} {v0 : Value} (g0 : Giv w .ints (intsD p0) v0) : Calls Try.prog 45 #[v0] w fun e w' => ∃ us, e = .returned (.agg us.toArray) ∧ FreshL w' w.heap.size (tmC (hornT p0)) us ∧ Below w.heap.size w w' :=
  con_ag (con_HornS p0 (by have := g0.2.2.1; rw [szD_intsEq] at this; omega)) (rpd_cons (rpd_one g0.2.2.2) (rpd_nil _))
theorem U_impl_HornerTerm {w : World} {p0 : List Int} {v0 : Value} (g0 : Giv w .ints (intsD p0) v0) : Calls Try.prog 46 #[v0] w fun e w' => ∃ us, e = .returned (.agg us.toArray) ∧ FreshL w' w.heap.size (tmC (hornT p0)) us ∧ Below w.heap.size w w' :=
  con_ag (con_HornI p0 (by have := g0.2.2.1; rw [szD_intsEq] at this; omega)) (rpd_cons (rpd_one g0.2.2.2) (rpd_nil _))
set_option maxRecDepth 100000 in
set_option maxHeartbeats 8000000 in
theorem top_FnExactHornerTerm (w : World) (v0 : Value) (h0 : Arg w .ints v0) : Calls Try.prog 11 #[v0] w fun e w' => e = .returned (.bool true) ∧ Below w.heap.size w w' := by
  obtain ⟨ds0, hc0, hr0, hs0⟩ := h0
  obtain ⟨p0, rfl⟩ := ints_of hc0
  obtain ⟨a_p0, n_p0, c_p0, rfl⟩ := rep_sl hc0 hr0
  obtain rfl : n_p0 = p0.length := by obtain ⟨_, _, e, _⟩ := hr0.ints; injection e
  have hB := Below.refl w.heap.size w
  by_cases hlen0 : 1048576 < p0.length
  case pos =>
    have hlen0' : (1048576 : Int) < (p0.length : Int) := by omega
    go_enter Try.func11, Try.ntmps11
    go_wp2
    go_ret
    exact ⟨rfl, hB⟩
  have hlen0' : ¬ (1048576 : Int) < (p0.length : Int) := by omega
  have hz0 : szD (intsD p0) ≤ 1048576 := by rw [szD_intsEq]; omega
  go_enter Try.func11, Try.ntmps11
  go_wp2_with fail
  refine (U_toIntS ⟨hc0, hs0, hz0, hr0.later hB hB.size⟩).mono ?_
  rintro e w1 ⟨a_t0w0, n_t0w0, c_t0w0, rfl, hf, hb⟩
  have hs1z := hb.size
  replace hB := hB.trans (hb.mono hB.size)
  have hot0w0 := hf.ownR
  clear hf hb
  go_wp2_with fail
  refine (U_spec_HornerTerm ⟨hc0, hs0, hz0, hot0w0.repw.first⟩).mono ?_
  rintro e w2 ⟨us_w0, rfl, hf_w0, hb⟩
  have hs2z := hb.size
  replace hB := hB.trans (hb.mono hB.size)
  replace hot0w0 := hot0w0.step hb
  have hcr_w0 := (horn_fit p0).1
  obtain ⟨i0_w0, s1_w0, s2_w0, i3_w0, i4_w0, a5_w0, n5_w0, c5_w0, i6_w0, a7_w0, n7_w0, c7_w0, a8_w0, n8_w0, c8_w0, rfl⟩ := shape_Term hcr_w0 hf_w0.rep
  have how0 := hf_w0.ownR
  clear hf_w0
  clear hb
  have ha1 := (Below.refl w2.heap.size w2).alloc (Nat.le_refl _) (.cells #[.int .i64 i0_w0, .string s1_w0, .string s2_w0, .int .i64 i3_w0, .int .i64 i4_w0, .slice a5_w0 n5_w0 c5_w0, .int .i64 i6_w0, .slice a7_w0 n7_w0 c7_w0, .slice a8_w0 n8_w0 c8_w0] 56)
  have hsa1 : w2.heap.size + 1 ≤ (w2.alloc (.cells #[.int .i64 i0_w0, .string s1_w0, .string s2_w0, .int .i64 i3_w0, .int .i64 i4_w0, .slice a5_w0 n5_w0 c5_w0, .int .i64 i6_w0, .slice a7_w0 n7_w0 c7_w0, .slice a8_w0 n8_w0 c8_w0] 56)).heap.size := by simp
  replace hB := hB.trans (ha1.mono hB.size)
  replace hot0w0 := hot0w0.step ha1
  replace how0 := how0.step ha1
  have hXw0 := Blk.new w2 56 #[.int .i64 i0_w0, .string s1_w0, .string s2_w0, .int .i64 i3_w0, .int .i64 i4_w0, .slice a5_w0 n5_w0 c5_w0, .int .i64 i6_w0, .slice a7_w0 n7_w0 c7_w0, .slice a8_w0 n8_w0 c8_w0]
  have hXcw0 := hXw0.cell
  clear hot0w0
  go_wp2_with fail
  refine (U_toIntS ⟨hc0, hs0, hz0, hr0.later hB hB.size⟩).mono ?_
  rintro e w3 ⟨a_x0, n_x0, c_x0, rfl, hf, hb⟩
  have hs3z := hb.size
  simp only [World.size_alloc] at hs3z
  replace hB := hB.trans (hb.mono hB.size)
  replace hXw0 := hXw0.step hb
  replace hXcw0 := hXw0.cell
  replace how0 := how0.step hb
  have hox0 := hf.ownR
  have hlx0 : (w2.alloc (.cells #[.int .i64 i0_w0, .string s1_w0, .string s2_w0, .int .i64 i3_w0, .int .i64 i4_w0, .slice a5_w0 n5_w0 c5_w0, .int .i64 i6_w0, .slice a7_w0 n7_w0 c7_w0, .slice a8_w0 n8_w0 c8_w0] 56)).heap.size ≤ w3.heap.size := hb.size
  simp only [World.size_alloc] at hlx0 hox0
  clear hf hb
  go_wp2_with fail
  refine (U_impl_HornerTerm ⟨hc0, hs0, hz0, hox0.repw.first⟩).mono ?_
  rintro e w4 ⟨us_g0, rfl, hf_g0, hb⟩
  have hs4z := hb.size
  replace hB := hB.trans (hb.mono hB.size)
  replace hXw0 := hXw0.step hb
  replace hXcw0 := hXw0.cell
  replace how0 := how0.step hb
  replace hox0 := hox0.step hb
  have hcr_g0 := (horn_fit p0).1
  obtain ⟨i0_g0, s1_g0, s2_g0, i3_g0, i4_g0, a5_g0, n5_g0, c5_g0, i6_g0, a7_g0, n7_g0, c7_g0, a8_g0, n8_g0, c8_g0, rfl⟩ := shape_Term hcr_g0 hf_g0.rep
  have hog0 := hf_g0.ownR
  clear hf_g0
  clear hb
  have ha2 := (Below.refl w4.heap.size w4).alloc (Nat.le_refl _) (.cells #[.int .i64 i0_g0, .string s1_g0, .string s2_g0, .int .i64 i3_g0, .int .i64 i4_g0, .slice a5_g0 n5_g0 c5_g0, .int .i64 i6_g0, .slice a7_g0 n7_g0 c7_g0, .slice a8_g0 n8_g0 c8_g0] 56)
  have hsa2 : w4.heap.size + 1 ≤ (w4.alloc (.cells #[.int .i64 i0_g0, .string s1_g0, .string s2_g0, .int .i64 i3_g0, .int .i64 i4_g0, .slice a5_g0 n5_g0 c5_g0, .int .i64 i6_g0, .slice a7_g0 n7_g0 c7_g0, .slice a8_g0 n8_g0 c8_g0] 56)).heap.size := by simp
  replace hB := hB.trans (ha2.mono hB.size)
  replace hXw0 := hXw0.step ha2
  replace hXcw0 := hXw0.cell
  replace how0 := how0.step ha2
  replace hox0 := hox0.step ha2
  replace hog0 := hog0.step ha2
  have hXg0 := Blk.new w4 56 #[.int .i64 i0_g0, .string s1_g0, .string s2_g0, .int .i64 i3_g0, .int .i64 i4_g0, .slice a5_g0 n5_g0 c5_g0, .int .i64 i6_g0, .slice a7_g0 n7_g0 c7_g0, .slice a8_g0 n8_g0 c8_g0]
  have hXcg0 := hXg0.cell
  go_wp2_with fail
  refine (U_eqsTerm hcr_g0 hog0.repw how0.repw).mono ?_
  rintro e w5 ⟨rfl, hb⟩
  have hs5z := hb.size
  simp only [World.size_alloc] at hs5z
  replace hB := hB.trans (hb.mono hB.size)
  replace hXw0 := hXw0.step hb
  replace hXcw0 := hXw0.cell
  replace hXg0 := hXg0.step hb
  replace hXcg0 := hXg0.cell
  replace how0 := how0.step hb
  replace hox0 := hox0.step hb
  replace hog0 := hog0.step hb
  clear hb
  go_wp2_with fail
  refine (U_toIntS ⟨hc0, hs0, hz0, hr0.later hB hB.size⟩).mono ?_
  rintro e w6 ⟨a_ux0, n_ux0, c_ux0, rfl, hf, hb⟩
  have hs6z := hb.size
  replace hB := hB.trans (hb.mono hB.size)
  replace hXw0 := hXw0.step hb
  replace hXcw0 := hXw0.cell
  replace hXg0 := hXg0.step hb
  replace hXcg0 := hXg0.cell
  replace how0 := how0.step hb
  replace hox0 := hox0.step hb
  replace hog0 := hog0.step hb
  have houx0 := hf.ownR
  clear hf hb
  go_wp2_with fail
  refine (U_eqsIntS hc0 hox0.repw.first houx0.repw.first).mono ?_
  rintro e w7 ⟨rfl, hb⟩
  have hs7z := hb.size
  replace hB := hB.trans (hb.mono hB.size)
  replace hXw0 := hXw0.step hb
  replace hXcw0 := hXw0.cell
  replace hXg0 := hXg0.step hb
  replace hXcg0 := hXg0.cell
  replace how0 := how0.step hb
  replace hox0 := hox0.step hb
  replace hog0 := hog0.step hb
  replace houx0 := houx0.step hb
  clear hb
  clear houx0
  have hbdx0 : cntD (intsD p0) ≤ 20971520 := by have := cntD_bd hc0; omega
  go_wp2_with fail
  refine (UR_markIntS hc0 hox0 (by omega) (by omega)).mono ?_
  rintro e w8 ⟨rfl, ho', hg⟩
  have hs8z := hg.size
  replace hB := hB.trans (hg.below (by omega) hB.size)
  replace hXw0 := hg.blk (by omega) hXw0
  replace hXcw0 := hXw0.cell
  replace hXg0 := hg.blk (by omega) hXg0
  replace hXcg0 := hXg0.cell
  replace how0 := how0.chg hg (by omega)
  replace hog0 := hog0.chg hg (by omega)
  replace hox0 := ho'
  clear hg ho'
  have hnkx0 : ¬ (1 + ((cntD (intsD p0) : Nat) : Int)) < 0 := by omega
  clear hox0
  go_wp2_with fail
  refine (U_eqsTerm hcr_g0 hog0.repw how0.repw).mono ?_
  rintro e w9 ⟨rfl, hb⟩
  have hs9z := hb.size
  replace hB := hB.trans (hb.mono hB.size)
  replace hXw0 := hXw0.step hb
  replace hXcw0 := hXw0.cell
  replace hXg0 := hXg0.step hb
  replace hXcg0 := hXg0.cell
  replace how0 := how0.step hb
  replace hog0 := hog0.step hb
  clear hb
  have hbdg0 : cntS (tmC (hornT p0)) ≤ 17592186044416 := (horn_fit p0).2
  go_wp2_with fail
  refine (UR_markTerm hcr_g0 hog0 (by omega) (by omega)).mono ?_
  rintro e w10 ⟨rfl, ho', hg⟩
  have hs10z := hg.size
  replace hB := hB.trans (hg.below (by omega) hB.size)
  replace hXw0 := hg.blk (by omega) hXw0
  replace hXcw0 := hXw0.cell
  replace hXg0 := hg.blk (by omega) hXg0
  replace hXcg0 := hXg0.cell
  replace how0 := how0.chg hg (by omega)
  replace hog0 := ho'
  clear hg ho'
  have hnmg0 : ¬ (1 + ((cntS (tmC (hornT p0)) : Nat) : Int)) < 0 := by omega
  go_wp2_with fail
  refine (U_heldTerm hcr_g0 hog0.repw (by omega) (by omega)).mono ?_
  rintro e w11 ⟨rfl, hb⟩
  have hs11z := hb.size
  replace hB := hB.trans (hb.mono hB.size)
  replace hXw0 := hXw0.step hb
  replace hXcw0 := hXw0.cell
  replace hXg0 := hXg0.step hb
  replace hXcg0 := hXg0.cell
  replace how0 := how0.step hb
  replace hog0 := hog0.step hb
  clear hb
  go_wp2_with fail
  refine (U_toIntS ⟨hc0, hs0, hz0, hr0.later hB hB.size⟩).mono ?_
  rintro e w12 ⟨a_t0h0, n_t0h0, c_t0h0, rfl, hf, hb⟩
  have hs12z := hb.size
  replace hB := hB.trans (hb.mono hB.size)
  replace hXw0 := hXw0.step hb
  replace hXcw0 := hXw0.cell
  replace hXg0 := hXg0.step hb
  replace hXcg0 := hXg0.cell
  replace how0 := how0.step hb
  replace hog0 := hog0.step hb
  have hot0h0 := hf.ownR
  clear hf hb
  go_wp2_with fail
  refine (U_impl_HornerTerm ⟨hc0, hs0, hz0, hot0h0.repw.first⟩).mono ?_
  rintro e w13 ⟨us_h0, rfl, hf_h0, hb⟩
  have hs13z := hb.size
  replace hB := hB.trans (hb.mono hB.size)
  replace hXw0 := hXw0.step hb
  replace hXcw0 := hXw0.cell
  replace hXg0 := hXg0.step hb
  replace hXcg0 := hXg0.cell
  replace how0 := how0.step hb
  replace hog0 := hog0.step hb
  replace hot0h0 := hot0h0.step hb
  have hcr_h0 := (horn_fit p0).1
  obtain ⟨i0_h0, s1_h0, s2_h0, i3_h0, i4_h0, a5_h0, n5_h0, c5_h0, i6_h0, a7_h0, n7_h0, c7_h0, a8_h0, n8_h0, c8_h0, rfl⟩ := shape_Term hcr_h0 hf_h0.rep
  have hoh0 := hf_h0.ownR
  clear hf_h0
  clear hb
  have ha3 := (Below.refl w13.heap.size w13).alloc (Nat.le_refl _) (.cells #[.int .i64 i0_h0, .string s1_h0, .string s2_h0, .int .i64 i3_h0, .int .i64 i4_h0, .slice a5_h0 n5_h0 c5_h0, .int .i64 i6_h0, .slice a7_h0 n7_h0 c7_h0, .slice a8_h0 n8_h0 c8_h0] 56)
  have hsa3 : w13.heap.size + 1 ≤ (w13.alloc (.cells #[.int .i64 i0_h0, .string s1_h0, .string s2_h0, .int .i64 i3_h0, .int .i64 i4_h0, .slice a5_h0 n5_h0 c5_h0, .int .i64 i6_h0, .slice a7_h0 n7_h0 c7_h0, .slice a8_h0 n8_h0 c8_h0] 56)).heap.size := by simp
  replace hB := hB.trans (ha3.mono hB.size)
  replace hXw0 := hXw0.step ha3
  replace hXcw0 := hXw0.cell
  replace hXg0 := hXg0.step ha3
  replace hXcg0 := hXg0.cell
  replace how0 := how0.step ha3
  replace hog0 := hog0.step ha3
  replace hot0h0 := hot0h0.step ha3
  replace hoh0 := hoh0.step ha3
  have hXh0 := Blk.new w13 56 #[.int .i64 i0_h0, .string s1_h0, .string s2_h0, .int .i64 i3_h0, .int .i64 i4_h0, .slice a5_h0 n5_h0 c5_h0, .int .i64 i6_h0, .slice a7_h0 n7_h0 c7_h0, .slice a8_h0 n8_h0 c8_h0]
  have hXch0 := hXh0.cell
  clear hot0h0
  go_wp2_with fail
  refine (U_eqsTerm hcr_h0 hoh0.repw how0.repw).mono ?_
  rintro e w14 ⟨rfl, hb⟩
  have hs14z := hb.size
  simp only [World.size_alloc] at hs14z
  replace hB := hB.trans (hb.mono hB.size)
  replace hXw0 := hXw0.step hb
  replace hXcw0 := hXw0.cell
  replace hXg0 := hXg0.step hb
  replace hXcg0 := hXg0.cell
  replace hXh0 := hXh0.step hb
  replace hXch0 := hXh0.cell
  replace how0 := how0.step hb
  replace hog0 := hog0.step hb
  replace hoh0 := hoh0.step hb
  clear hb
  go_wp2_with fail
  refine (U_heldTerm hcr_g0 hog0.repw (by omega) (by omega)).mono ?_
  rintro e w15 ⟨rfl, hb⟩
  have hs15z := hb.size
  replace hB := hB.trans (hb.mono hB.size)
  replace hXw0 := hXw0.step hb
  replace hXcw0 := hXw0.cell
  replace hXg0 := hXg0.step hb
  replace hXcg0 := hXg0.cell
  replace hXh0 := hXh0.step hb
  replace hXch0 := hXh0.cell
  replace how0 := how0.step hb
  replace hog0 := hog0.step hb
  replace hoh0 := hoh0.step hb
  clear hb
  go_wp2
  go_ret
  exact ⟨rfl, hB⟩
end Go.Proofs.Ytaeeipojnfooeaa
