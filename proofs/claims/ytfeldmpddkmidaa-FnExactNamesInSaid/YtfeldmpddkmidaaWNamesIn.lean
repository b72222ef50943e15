/-
  The walk of the law FnExactNamesIn.
-/
import Derived.Test.YtfeldmpddkmidaaNames
import Derived.Test.YtfeldmpddkmidaaUTerm
import Derived.Test.YtfeldmpddkmidaaUMTerm
import Derived.Test.YtfeldmpddkmidaaUSS
import Derived.Test.YtfeldmpddkmidaaCon2
import Derived.Test.YtfeldmpddkmidaaUMark
import Derived.Deep.RegionHeld2
namespace Go.Proofs.Ytfeldmpddkmidaa
open Go.RowKit
set_option linter.unusedVariables false
theorem U_spec_NamesIn {w : World} {p0 : Tm} {vs0 : List Value} (g0 : GivL w K.tm.fields (tmC p0) vs0) : Calls Try.prog 56 #[.agg vs0.toArray] w fun e w' => ∃ a n c, e = .returned (.slice a n c) ∧ Fresh w' w.heap.size (strsD (namesT p0)) (.slice a n c) ∧ Below w.heap.size w w' := by
  refine (con_one (con_NamesS p0 (Nat.le_trans g0.2.2.1 (by omega))) (rpd_cons (rpd_ag g0.2.2.2) (rpd_nil _))).mono ?_
  rintro e w' ⟨u, rfl, hf, hb⟩
  obtain ⟨a, c, rfl⟩ := fresh_rows (show Fresh w' w.heap.size (.rows _ _ _) u from hf)
  exact ⟨a, _, c, rfl, hf, hb⟩
theorem U_impl_NamesIn {w : World} {p0 : Tm} {vs0 : List Value} (g0 : GivL w K.tm.fields (tmC p0) vs0) : Calls Try.prog 57 #[.agg vs0.toArray] w fun e w' => ∃ a n c, e = .returned (.slice a n c) ∧ Fresh w' w.heap.size (strsD (namesT p0)) (.slice a n c) ∧ Below w.heap.size w w' := by
  refine (con_one (con_NamesI p0 (Nat.le_trans g0.2.2.1 (by omega))) (rpd_cons (rpd_ag g0.2.2.2) (rpd_nil _))).mono ?_
  rintro e w' ⟨u, rfl, hf, hb⟩
  obtain ⟨a, c, rfl⟩ := fresh_rows (show Fresh w' w.heap.size (.rows _ _ _) u from hf)
  exact ⟨a, _, c, rfl, hf, hb⟩
set_option maxRecDepth 100000 in
set_option maxHeartbeats 8000000 in
theorem top_FnExactNamesIn (w : World) (cs0 : Array Value) (h0 : ArgS w K.tm.fields cs0) : Calls Try.prog 10 #[.agg cs0] w fun e w' => e = .returned (.bool true) ∧ Below w.heap.size w w' := by
  obtain ⟨ds0, hc0, hr0, hs0⟩ := h0
  obtain ⟨p0, rfl⟩ := tm_of hc0
  obtain ⟨vs0, rfl⟩ : ∃ vs : List Value, cs0 = vs.toArray := ⟨cs0.toList, by simp⟩
  replace hr0 : RepVs w w.heap.size (tmC p0) vs0 := hr0
  obtain ⟨i0_p0, s1_p0, s2_p0, i3_p0, i4_p0, a5_p0, n5_p0, c5_p0, i6_p0, a7_p0, n7_p0, c7_p0, a8_p0, n8_p0, c8_p0, rfl⟩ := shape_Term hc0 hr0
  have hB := Below.refl w.heap.size w
  have ha1 := (Below.refl w.heap.size w).alloc (Nat.le_refl _) (.cells #[.int .i64 i0_p0, .string s1_p0, .string s2_p0, .int .i64 i3_p0, .int .i64 i4_p0, .slice a5_p0 n5_p0 c5_p0, .int .i64 i6_p0, .slice a7_p0 n7_p0 c7_p0, .slice a8_p0 n8_p0 c8_p0] 69)
  have hsa1 : w.heap.size + 1 ≤ (w.alloc (.cells #[.int .i64 i0_p0, .string s1_p0, .string s2_p0, .int .i64 i3_p0, .int .i64 i4_p0, .slice a5_p0 n5_p0 c5_p0, .int .i64 i6_p0, .slice a7_p0 n7_p0 c7_p0, .slice a8_p0 n8_p0 c8_p0] 69)).heap.size := by simp
  replace hB := hB.trans (ha1.mono hB.size)
  have hXA0 := Blk.new w 69 #[.int .i64 i0_p0, .string s1_p0, .string s2_p0, .int .i64 i3_p0, .int .i64 i4_p0, .slice a5_p0 n5_p0 c5_p0, .int .i64 i6_p0, .slice a7_p0 n7_p0 c7_p0, .slice a8_p0 n8_p0 c8_p0]
  have hXcA0 := hXA0.cell
  go_enter Try.func10, Try.ntmps10
  go_wp2_with fail
  refine (U_szTerm hc0 hs0 (hr0.later hB hB.size) (by omega) (by omega)).mono ?_
  rintro e w1 ⟨rfl, hb⟩
  have hs1z := hb.size
  simp only [World.size_alloc] at hs1z
  replace hB := hB.trans (hb.mono hB.size)
  replace hXA0 := hXA0.step hb
  replace hXcA0 := hXA0.cell
  by_cases hfit0 : ((szL (tmC p0) : Nat) : Int) ≤ 1048576
  case neg =>
    have HE := Lib.hid (szR_out (1048576) (szL (tmC p0)) (by omega))
    rw [HE.out]
    go_wp2
    go_ret
    exact ⟨rfl, hB⟩
  have HE0 := Lib.hid (szR_in (1048576) (szL (tmC p0)) hfit0)
  have hnn0 : ¬ 1048576 - ((szL (tmC p0) : Nat) : Int) < 0 := by omega
  have hz0 : szL (tmC p0) ≤ 1048576 := by omega
  rw [HE0.out]
  clear hb
  go_wp2_with fail
  refine (U_toTerm ⟨hc0, hs0, hz0, hr0.later hB hB.size⟩).mono ?_
  rintro e w2 ⟨us, rfl, hf, hb⟩
  have hs2z := hb.size
  replace hB := hB.trans (hb.mono hB.size)
  replace hXA0 := hXA0.step hb
  replace hXcA0 := hXA0.cell
  obtain ⟨i0_t0w0, s1_t0w0, s2_t0w0, i3_t0w0, i4_t0w0, a5_t0w0, n5_t0w0, c5_t0w0, i6_t0w0, a7_t0w0, n7_t0w0, c7_t0w0, a8_t0w0, n8_t0w0, c8_t0w0, rfl⟩ := shape_Term hc0 hf.rep
  have hot0w0 := hf.ownR
  clear hf hb
  go_wp2_with fail
  refine (U_spec_NamesIn ⟨hc0, hs0, hz0, hot0w0.repw⟩).mono ?_
  rintro e w3 ⟨a_w0, n_w0, c_w0, rfl, hf_w0, hb⟩
  have hs3z := hb.size
  replace hB := hB.trans (hb.mono hB.size)
  replace hXA0 := hXA0.step hb
  replace hXcA0 := hXA0.cell
  replace hot0w0 := hot0w0.step hb
  have hcr_w0 := (names_fit hz0).1
  have how0 := hf_w0.ownR
  clear hf_w0
  clear hb
  clear hot0w0
  go_wp2_with fail
  refine (U_toTerm ⟨hc0, hs0, hz0, hr0.later hB hB.size⟩).mono ?_
  rintro e w4 ⟨us, rfl, hf, hb⟩
  have hs4z := hb.size
  replace hB := hB.trans (hb.mono hB.size)
  replace hXA0 := hXA0.step hb
  replace hXcA0 := hXA0.cell
  replace how0 := how0.step hb
  obtain ⟨i0_x0, s1_x0, s2_x0, i3_x0, i4_x0, a5_x0, n5_x0, c5_x0, i6_x0, a7_x0, n7_x0, c7_x0, a8_x0, n8_x0, c8_x0, rfl⟩ := shape_Term hc0 hf.rep
  have hox0 := hf.ownR
  clear hf hb
  have ha2 := (Below.refl w4.heap.size w4).alloc (Nat.le_refl _) (.cells #[.int .i64 i0_x0, .string s1_x0, .string s2_x0, .int .i64 i3_x0, .int .i64 i4_x0, .slice a5_x0 n5_x0 c5_x0, .int .i64 i6_x0, .slice a7_x0 n7_x0 c7_x0, .slice a8_x0 n8_x0 c8_x0] 74)
  have hsa2 : w4.heap.size + 1 ≤ (w4.alloc (.cells #[.int .i64 i0_x0, .string s1_x0, .string s2_x0, .int .i64 i3_x0, .int .i64 i4_x0, .slice a5_x0 n5_x0 c5_x0, .int .i64 i6_x0, .slice a7_x0 n7_x0 c7_x0, .slice a8_x0 n8_x0 c8_x0] 74)).heap.size := by simp
  replace hB := hB.trans (ha2.mono hB.size)
  replace hXA0 := hXA0.step ha2
  replace hXcA0 := hXA0.cell
  replace how0 := how0.step ha2
  replace hox0 := hox0.step ha2
  have hXx0 := Blk.new w4 74 #[.int .i64 i0_x0, .string s1_x0, .string s2_x0, .int .i64 i3_x0, .int .i64 i4_x0, .slice a5_x0 n5_x0 c5_x0, .int .i64 i6_x0, .slice a7_x0 n7_x0 c7_x0, .slice a8_x0 n8_x0 c8_x0]
  have hXcx0 := hXx0.cell
  go_wp2_with fail
  refine (U_impl_NamesIn ⟨hc0, hs0, hz0, hox0.repw⟩).mono ?_
  rintro e w5 ⟨a_g0, n_g0, c_g0, rfl, hf_g0, hb⟩
  have hs5z := hb.size
  simp only [World.size_alloc] at hs5z
  replace hB := hB.trans (hb.mono hB.size)
  replace hXA0 := hXA0.step hb
  replace hXcA0 := hXA0.cell
  replace hXx0 := hXx0.step hb
  replace hXcx0 := hXx0.cell
  replace how0 := how0.step hb
  replace hox0 := hox0.step hb
  have hcr_g0 := (names_fit hz0).1
  have hog0 := hf_g0.ownR
  simp only [World.size_alloc] at hog0
  clear hf_g0
  clear hb
  go_wp2_with fail
  refine (U_eqsStringS hcr_g0 hog0.repw.first how0.repw.first).mono ?_
  rintro e w6 ⟨rfl, hb⟩
  have hs6z := hb.size
  replace hB := hB.trans (hb.mono hB.size)
  replace hXA0 := hXA0.step hb
  replace hXcA0 := hXA0.cell
  replace hXx0 := hXx0.step hb
  replace hXcx0 := hXx0.cell
  replace how0 := how0.step hb
  replace hox0 := hox0.step hb
  replace hog0 := hog0.step hb
  clear hb
  go_wp2_with fail
  go_region_held2 (fun W => (∀ i, W.cell? ⟨w.heap.size, i, none⟩ = (#[.int .i64 i0_p0, .string s1_p0, .string s2_p0, .int .i64 i3_p0, .int .i64 i4_p0, .slice a5_p0 n5_p0 c5_p0, .int .i64 i6_p0, .slice a7_p0 n7_p0 c7_p0, .slice a8_p0 n8_p0 c8_p0] : Array Value)[i]?) ∧ (∀ i, W.cell? ⟨w4.heap.size, i, none⟩ = (#[.int .i64 i0_x0, .string s1_x0, .string s2_x0, .int .i64 i3_x0, .int .i64 i4_x0, .slice a5_x0 n5_x0 c5_x0, .int .i64 i6_x0, .slice a7_x0 n7_x0 c7_x0, .slice a8_x0 n8_x0 c8_x0] : Array Value)[i]?))
    (first | exact ⟨hXA0_2.cell, hXx0_2.cell⟩ | exact ⟨hXA0_1.cell, hXx0_1.cell⟩ | exact ⟨hXA0.drew.cell, hXx0.drew.cell⟩)
    (first
      | (go_at_call 53; refine (U_toTerm (ds := (tmC p0)) ?_).mono ?_; exact ⟨hc0, hs0, hz0, hr0.later hB.drew hB.drew.size⟩
         rintro e w7 ⟨us, rfl, hf1, hb1⟩
         have hXA0_1 := hXA0.drew.step hb1
         have hXx0_1 := hXx0.drew.step hb1
         have hB_1 := hB.drew.trans (hb1.mono hB.drew.size)
         have how0_1 := how0.drew.step hb1
         have hox0_1 := hox0.drew.step hb1
         have hog0_1 := hog0.drew.step hb1
         have hs7z : w6.heap.size ≤ w7.heap.size := hb1.size
         obtain ⟨i0_ux0, s1_ux0, s2_ux0, i3_ux0, i4_ux0, a5_ux0, n5_ux0, c5_ux0, i6_ux0, a7_ux0, n7_ux0, c7_ux0, a8_ux0, n8_ux0, c8_ux0, rfl⟩ := shape_Term hc0 hf1.rep)
      | (go_at_call 55; refine (U_eqsTerm hc0 ?_ ?_).mono ?_; exact hox0_1.repw; exact hf1.rep
         rintro e w8 ⟨rfl, hb2⟩
         have hXA0_2 := hXA0_1.step hb2
         have hXx0_2 := hXx0_1.step hb2
         have hB_2 := hB_1.trans (hb2.mono hB_1.size)
         have how0_2 := how0_1.step hb2
         have hox0_2 := hox0_1.step hb2
         have hog0_2 := hog0_1.step hb2
         have hs8z : w7.heap.size ≤ w8.heap.size := hb2.size))
  replace hB := hB_2
  replace hXA0 := hXA0_2
  replace hXcA0 := hXA0.cell
  replace hXx0 := hXx0_2
  replace hXcx0 := hXx0.cell
  replace how0 := how0_2
  replace hox0 := hox0_2
  replace hog0 := hog0_2
  clear hB_1 hB_2 hb1 hb2 hf1 hXA0_1 hXA0_2 hXx0_1 hXx0_2 how0_1 how0_2 hox0_1 hox0_2 hog0_1 hog0_2
  have hbdx0 : cntS (tmC p0) ≤ 20971520 := by have := cntS_bd hc0; omega
  go_wp2_with fail
  refine (UR_markTerm hc0 hox0 (by omega) (by omega)).mono ?_
  rintro e w9 ⟨rfl, ho', hg⟩
  have hs9z := hg.size
  replace hB := hB.trans (hg.below (by omega) hB.size)
  replace hXA0 := hg.blk (by omega) hXA0
  replace hXcA0 := hXA0.cell
  replace hXx0 := hg.blk (by omega) hXx0
  replace hXcx0 := hXx0.cell
  replace how0 := how0.chg hg (by omega)
  replace hog0 := hog0.chg hg (by omega)
  replace hox0 := ho'
  clear hg ho'
  have hnkx0 : ¬ (1 + ((cntS (tmC p0) : Nat) : Int)) < 0 := by omega
  clear hox0
  go_wp2_with fail
  refine (U_eqsStringS hcr_g0 hog0.repw.first how0.repw.first).mono ?_
  rintro e w10 ⟨rfl, hb⟩
  have hs10z := hb.size
  replace hB := hB.trans (hb.mono hB.size)
  replace hXA0 := hXA0.step hb
  replace hXcA0 := hXA0.cell
  replace hXx0 := hXx0.step hb
  replace hXcx0 := hXx0.cell
  replace how0 := how0.step hb
  replace hog0 := hog0.step hb
  clear hb
  have hbdg0 : cntD (strsD (namesT p0)) ≤ 17592186044416 := (names_fit hz0).2
  go_wp2_with fail
  refine (UR_markStringS hcr_g0 hog0 (by omega) (by omega)).mono ?_
  rintro e w11 ⟨rfl, ho', hg⟩
  have hs11z := hg.size
  replace hB := hB.trans (hg.below (by omega) hB.size)
  replace hXA0 := hg.blk (by omega) hXA0
  replace hXcA0 := hXA0.cell
  replace hXx0 := hg.blk (by omega) hXx0
  replace hXcx0 := hXx0.cell
  replace how0 := how0.chg hg (by omega)
  replace hog0 := ho'
  clear hg ho'
  have hnmg0 : ¬ (1 + ((cntD (strsD (namesT p0)) : Nat) : Int)) < 0 := by omega
  go_wp2_with fail
  refine (U_heldStringS hcr_g0 hog0.repw.first (by omega) (by omega)).mono ?_
  rintro e w12 ⟨rfl, hb⟩
  have hs12z := hb.size
  replace hB := hB.trans (hb.mono hB.size)
  replace hXA0 := hXA0.step hb
  replace hXcA0 := hXA0.cell
  replace hXx0 := hXx0.step hb
  replace hXcx0 := hXx0.cell
  replace how0 := how0.step hb
  replace hog0 := hog0.step hb
  clear hb
  go_wp2_with fail
  refine (U_toTerm ⟨hc0, hs0, hz0, hr0.later hB hB.size⟩).mono ?_
  rintro e w13 ⟨us, rfl, hf, hb⟩
  have hs13z := hb.size
  replace hB := hB.trans (hb.mono hB.size)
  replace hXA0 := hXA0.step hb
  replace hXcA0 := hXA0.cell
  replace hXx0 := hXx0.step hb
  replace hXcx0 := hXx0.cell
  replace how0 := how0.step hb
  replace hog0 := hog0.step hb
  obtain ⟨i0_t0h0, s1_t0h0, s2_t0h0, i3_t0h0, i4_t0h0, a5_t0h0, n5_t0h0, c5_t0h0, i6_t0h0, a7_t0h0, n7_t0h0, c7_t0h0, a8_t0h0, n8_t0h0, c8_t0h0, rfl⟩ := shape_Term hc0 hf.rep
  have hot0h0 := hf.ownR
  clear hf hb
  go_wp2_with fail
  refine (U_impl_NamesIn ⟨hc0, hs0, hz0, hot0h0.repw⟩).mono ?_
  rintro e w14 ⟨a_h0, n_h0, c_h0, rfl, hf_h0, hb⟩
  have hs14z := hb.size
  replace hB := hB.trans (hb.mono hB.size)
  replace hXA0 := hXA0.step hb
  replace hXcA0 := hXA0.cell
  replace hXx0 := hXx0.step hb
  replace hXcx0 := hXx0.cell
  replace how0 := how0.step hb
  replace hog0 := hog0.step hb
  replace hot0h0 := hot0h0.step hb
  have hcr_h0 := (names_fit hz0).1
  have hoh0 := hf_h0.ownR
  clear hf_h0
  clear hb
  clear hot0h0
  go_wp2_with fail
  refine (U_eqsStringS hcr_h0 hoh0.repw.first how0.repw.first).mono ?_
  rintro e w15 ⟨rfl, hb⟩
  have hs15z := hb.size
  replace hB := hB.trans (hb.mono hB.size)
  replace hXA0 := hXA0.step hb
  replace hXcA0 := hXA0.cell
  replace hXx0 := hXx0.step hb
  replace hXcx0 := hXx0.cell
  replace how0 := how0.step hb
  replace hog0 := hog0.step hb
  replace hoh0 := hoh0.step hb
  clear hb
  go_wp2_with fail
  refine (U_heldStringS hcr_g0 hog0.repw.first (by omega) (by omega)).mono ?_
  rintro e w16 ⟨rfl, hb⟩
  have hs16z := hb.size
  replace hB := hB.trans (hb.mono hB.size)
  replace hXA0 := hXA0.step hb
  replace hXcA0 := hXA0.cell
  replace hXx0 := hXx0.step hb
  replace hXcx0 := hXx0.cell
  replace how0 := how0.step hb
  replace hog0 := hog0.step hb
  replace hoh0 := hoh0.step hb
  clear hb
  go_wp2
  go_ret
  exact ⟨rfl, hB⟩
end Go.Proofs.Ytfeldmpddkmidaa
