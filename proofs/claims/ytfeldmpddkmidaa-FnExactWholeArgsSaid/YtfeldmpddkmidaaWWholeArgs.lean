/-
  The walk of the law FnExactWholeArgs.
-/
import Derived.Test.YtfeldmpddkmidaaWhole
import Derived.Test.YtfeldmpddkmidaaUSL
import Derived.Test.YtfeldmpddkmidaaUSS
import Derived.Test.YtfeldmpddkmidaaCon2
import Derived.Test.YtfeldmpddkmidaaUMark
import Derived.Deep.RegionHeld2
namespace Go.Proofs.Ytfeldmpddkmidaa
open Go.RowKit
set_option linter.unusedVariables false
theorem U_spec_WholeArgs {w : World} {p0 : List Pm} {v0 : Value} (g0 : Giv w .param (pmsD p0) v0) {p1 : List Int} {v1 : Value} (g1 : Giv w .ints (intsD p1) v1) {p2 : List Int} {v2 : Value} (g2 : Giv w .ints (intsD p2) v2) : Calls Try.prog 36 #[v0, v1, v2] w fun e w' => ∃ a n c, e = .returned (.tuple #[.slice a n c, .bool (whOk p0 p1 p2)]) ∧ Fresh w' w.heap.size (intsD (whR p0 p1 p2)) (.slice a n c) ∧ Below w.heap.size w w' := by
  refine (con_ff (con_WholeS p0 p1 p2 (Nat.le_trans g0.2.2.1 (by omega)) (by have := g1.2.2.1; rw [szD_intsEq] at this; omega) (by have := g2.2.2.1; rw [szD_intsEq] at this; omega)) (rpd_cons (rpd_one g0.2.2.2) (rpd_cons (rpd_one g1.2.2.2) (rpd_cons (rpd_one g2.2.2.2) (rpd_nil _))))).mono ?_
  rintro e w' ⟨v, u, rfl, hf, hg, hb⟩
  obtain rfl := fresh_bool hg
  obtain ⟨a, c, rfl⟩ := fresh_rows (show Fresh w' w.heap.size (.rows _ _ _) v from hf)
  exact ⟨a, _, c, rfl, hf, hb⟩
theorem U_impl_WholeArgs {w : World} {p0 : List Pm} {v0 : Value} (g0 : Giv w .param (pmsD p0) v0) {p1 : List Int} {v1 : Value} (g1 : Giv w .ints (intsD p1) v1) {p2 : List Int} {v2 : Value} (g2 : Giv w .ints (intsD p2) v2) : Calls Try.prog 38 #[v0, v1, v2] w fun e w' => ∃ a n c, e = .returned (.tuple #[.slice a n c, .bool (whOk p0 p1 p2)]) ∧ Fresh w' w.heap.size (intsD (whR p0 p1 p2)) (.slice a n c) ∧ Below w.heap.size w w' := by
  refine (con_ff (con_WholeI p0 p1 p2 (Nat.le_trans g0.2.2.1 (by omega))) (rpd_cons (rpd_one g0.2.2.2) (rpd_cons (rpd_one g1.2.2.2) (rpd_cons (rpd_one g2.2.2.2) (rpd_nil _))))).mono ?_
  rintro e w' ⟨v, u, rfl, hf, hg, hb⟩
  obtain rfl := fresh_bool hg
  obtain ⟨a, c, rfl⟩ := fresh_rows (show Fresh w' w.heap.size (.rows _ _ _) v from hf)
  exact ⟨a, _, c, rfl, hf, hb⟩
set_option maxRecDepth 100000 in
set_option maxHeartbeats 8000000 in
theorem top_FnExactWholeArgs (w : World) (v0 : Value) (h0 : Arg w .param v0) (v1 : Value) (h1 : Arg w .ints v1) (v2 : Value) (h2 : Arg w .ints v2) : Calls Try.prog 6 #[v0, v1, v2] w fun e w' => e = .returned (.bool true) ∧ Below w.heap.size w w' := by
  obtain ⟨ds0, hc0, hr0, hs0⟩ := h0
  obtain ⟨p0, rfl⟩ := pms_of hc0
  obtain ⟨a_p0, n_p0, c_p0, rfl⟩ := rep_sl hc0 hr0
  obtain ⟨ds1, hc1, hr1, hs1⟩ := h1
  obtain ⟨p1, rfl⟩ := ints_of hc1
  obtain ⟨a_p1, n_p1, c_p1, rfl⟩ := rep_sl hc1 hr1
  obtain rfl : n_p1 = p1.length := by obtain ⟨_, _, e, _⟩ := hr1.ints; injection e
  obtain ⟨ds2, hc2, hr2, hs2⟩ := h2
  obtain ⟨p2, rfl⟩ := ints_of hc2
  obtain ⟨a_p2, n_p2, c_p2, rfl⟩ := rep_sl hc2 hr2
  obtain rfl : n_p2 = p2.length := by obtain ⟨_, _, e, _⟩ := hr2.ints; injection e
  have hB := Below.refl w.heap.size w
  by_cases hlen1 : 1048576 < p1.length
  case pos =>
    have hlen1' : (1048576 : Int) < (p1.length : Int) := by omega
    go_enter Try.func6, Try.ntmps6
    go_wp2
    go_ret
    exact ⟨rfl, hB⟩
  have hlen1' : ¬ (1048576 : Int) < (p1.length : Int) := by omega
  have hz1 : szD (intsD p1) ≤ 1048576 := by rw [szD_intsEq]; omega
  by_cases hlen2 : 1048576 < p2.length
  case pos =>
    have hlen2' : (1048576 : Int) < (p2.length : Int) := by omega
    go_enter Try.func6, Try.ntmps6
    go_wp2
    go_ret
    exact ⟨rfl, hB⟩
  have hlen2' : ¬ (1048576 : Int) < (p2.length : Int) := by omega
  have hz2 : szD (intsD p2) ≤ 1048576 := by rw [szD_intsEq]; omega
  go_enter Try.func6, Try.ntmps6
  go_wp2_with fail
  refine (U_szParamS hc0 hs0 (hr0.later hB hB.size) (by omega) (by omega)).mono ?_
  rintro e w1 ⟨rfl, hb⟩
  have hs1z := hb.size
  replace hB := hB.trans (hb.mono hB.size)
  by_cases hfit0 : ((szD (pmsD p0) : Nat) : Int) ≤ 1048576
  case neg =>
    have HE := Lib.hid (szR_out (1048576) (szD (pmsD p0)) (by omega))
    rw [HE.out]
    go_wp2
    go_ret
    exact ⟨rfl, hB⟩
  have HE0 := Lib.hid (szR_in (1048576) (szD (pmsD p0)) hfit0)
  have hnn0 : ¬ 1048576 - ((szD (pmsD p0) : Nat) : Int) < 0 := by omega
  have hz0 : szD (pmsD p0) ≤ 1048576 := by omega
  rw [HE0.out]
  clear hb
  go_wp2_with fail
  refine (U_toParamS ⟨hc0, hs0, hz0, hr0.later hB hB.size⟩).mono ?_
  rintro e w2 ⟨a_t0w0, n_t0w0, c_t0w0, rfl, hf, hb⟩
  have hs2z := hb.size
  replace hB := hB.trans (hb.mono hB.size)
  have hot0w0 := hf.ownR
  clear hf hb
  go_wp2_with fail
  refine (U_toIntS ⟨hc1, hs1, hz1, hr1.later hB hB.size⟩).mono ?_
  rintro e w3 ⟨a_t1w0, n_t1w0, c_t1w0, rfl, hf, hb⟩
  have hs3z := hb.size
  replace hB := hB.trans (hb.mono hB.size)
  replace hot0w0 := hot0w0.step hb
  have hot1w0 := hf.ownR
  clear hf hb
  go_wp2_with fail
  refine (U_toIntS ⟨hc2, hs2, hz2, hr2.later hB hB.size⟩).mono ?_
  rintro e w4 ⟨a_t2w0, n_t2w0, c_t2w0, rfl, hf, hb⟩
  have hs4z := hb.size
  replace hB := hB.trans (hb.mono hB.size)
  replace hot0w0 := hot0w0.step hb
  replace hot1w0 := hot1w0.step hb
  have hot2w0 := hf.ownR
  clear hf hb
  go_wp2_with fail
  refine (U_spec_WholeArgs ⟨hc0, hs0, hz0, hot0w0.repw.first⟩ ⟨hc1, hs1, hz1, hot1w0.repw.first⟩ ⟨hc2, hs2, hz2, hot2w0.repw.first⟩).mono ?_
  rintro e w5 ⟨a_w0, n_w0, c_w0, rfl, hf_w0, hb⟩
  have hs5z := hb.size
  replace hB := hB.trans (hb.mono hB.size)
  replace hot0w0 := hot0w0.step hb
  replace hot1w0 := hot1w0.step hb
  replace hot2w0 := hot2w0.step hb
  have hcr_w0 := (wh_fit (as1 := p1) (bs := p2) hz0).1
  have how0 := hf_w0.ownR
  clear hf_w0
  clear hb
  clear hot0w0
  clear hot1w0
  clear hot2w0
  go_wp2_with fail
  refine (U_toParamS ⟨hc0, hs0, hz0, hr0.later hB hB.size⟩).mono ?_
  rintro e w6 ⟨a_x0, n_x0, c_x0, rfl, hf, hb⟩
  have hs6z := hb.size
  replace hB := hB.trans (hb.mono hB.size)
  replace how0 := how0.step hb
  have hox0 := hf.ownR
  clear hf hb
  go_wp2_with fail
  refine (U_toIntS ⟨hc1, hs1, hz1, hr1.later hB hB.size⟩).mono ?_
  rintro e w7 ⟨a_x1, n_x1, c_x1, rfl, hf, hb⟩
  have hs7z := hb.size
  replace hB := hB.trans (hb.mono hB.size)
  replace how0 := how0.step hb
  replace hox0 := hox0.step hb
  have hox1 := hf.ownR
  clear hf hb
  go_wp2_with fail
  refine (U_toIntS ⟨hc2, hs2, hz2, hr2.later hB hB.size⟩).mono ?_
  rintro e w8 ⟨a_x2, n_x2, c_x2, rfl, hf, hb⟩
  have hs8z := hb.size
  replace hB := hB.trans (hb.mono hB.size)
  replace how0 := how0.step hb
  replace hox0 := hox0.step hb
  replace hox1 := hox1.step hb
  have hox2 := hf.ownR
  clear hf hb
  go_wp2_with fail
  refine (U_impl_WholeArgs ⟨hc0, hs0, hz0, hox0.repw.first⟩ ⟨hc1, hs1, hz1, hox1.repw.first⟩ ⟨hc2, hs2, hz2, hox2.repw.first⟩).mono ?_
  rintro e w9 ⟨a_g0, n_g0, c_g0, rfl, hf_g0, hb⟩
  have hs9z := hb.size
  replace hB := hB.trans (hb.mono hB.size)
  replace how0 := how0.step hb
  replace hox0 := hox0.step hb
  replace hox1 := hox1.step hb
  replace hox2 := hox2.step hb
  have hcr_g0 := (wh_fit (as1 := p1) (bs := p2) hz0).1
  have hog0 := hf_g0.ownR
  clear hf_g0
  clear hb
  go_wp2_with fail
  refine (U_eqsIntS hcr_g0 hog0.repw.first how0.repw.first).mono ?_
  rintro e w10 ⟨rfl, hb⟩
  have hs10z := hb.size
  replace hB := hB.trans (hb.mono hB.size)
  replace how0 := how0.step hb
  replace hox0 := hox0.step hb
  replace hox1 := hox1.step hb
  replace hox2 := hox2.step hb
  replace hog0 := hog0.step hb
  clear hb
  go_wp2_with fail
  refine (U_toParamS ⟨hc0, hs0, hz0, hr0.later hB hB.size⟩).mono ?_
  rintro e w11 ⟨a_ux0, n_ux0, c_ux0, rfl, hf, hb⟩
  have hs11z := hb.size
  replace hB := hB.trans (hb.mono hB.size)
  replace how0 := how0.step hb
  replace hox0 := hox0.step hb
  replace hox1 := hox1.step hb
  replace hox2 := hox2.step hb
  replace hog0 := hog0.step hb
  have houx0 := hf.ownR
  clear hf hb
  go_wp2_with fail
  refine (U_eqsParamS hc0 hox0.repw.first houx0.repw.first).mono ?_
  rintro e w12 ⟨rfl, hb⟩
  have hs12z := hb.size
  replace hB := hB.trans (hb.mono hB.size)
  replace how0 := how0.step hb
  replace hox0 := hox0.step hb
  replace hox1 := hox1.step hb
  replace hox2 := hox2.step hb
  replace hog0 := hog0.step hb
  replace houx0 := houx0.step hb
  clear hb
  clear houx0
  go_wp2_with fail
  refine (U_toIntS ⟨hc1, hs1, hz1, hr1.later hB hB.size⟩).mono ?_
  rintro e w13 ⟨a_ux1, n_ux1, c_ux1, rfl, hf, hb⟩
  have hs13z := hb.size
  replace hB := hB.trans (hb.mono hB.size)
  replace how0 := how0.step hb
  replace hox0 := hox0.step hb
  replace hox1 := hox1.step hb
  replace hox2 := hox2.step hb
  replace hog0 := hog0.step hb
  have houx1 := hf.ownR
  clear hf hb
  go_wp2_with fail
  refine (U_eqsIntS hc1 hox1.repw.first houx1.repw.first).mono ?_
  rintro e w14 ⟨rfl, hb⟩
  have hs14z := hb.size
  replace hB := hB.trans (hb.mono hB.size)
  replace how0 := how0.step hb
  replace hox0 := hox0.step hb
  replace hox1 := hox1.step hb
  replace hox2 := hox2.step hb
  replace hog0 := hog0.step hb
  replace houx1 := houx1.step hb
  clear hb
  clear houx1
  go_wp2_with fail
  refine (U_toIntS ⟨hc2, hs2, hz2, hr2.later hB hB.size⟩).mono ?_
  rintro e w15 ⟨a_ux2, n_ux2, c_ux2, rfl, hf, hb⟩
  have hs15z := hb.size
  replace hB := hB.trans (hb.mono hB.size)
  replace how0 := how0.step hb
  replace hox0 := hox0.step hb
  replace hox1 := hox1.step hb
  replace hox2 := hox2.step hb
  replace hog0 := hog0.step hb
  have houx2 := hf.ownR
  clear hf hb
  go_wp2_with fail
  refine (U_eqsIntS hc2 hox2.repw.first houx2.repw.first).mono ?_
  rintro e w16 ⟨rfl, hb⟩
  have hs16z := hb.size
  replace hB := hB.trans (hb.mono hB.size)
  replace how0 := how0.step hb
  replace hox0 := hox0.step hb
  replace hox1 := hox1.step hb
  replace hox2 := hox2.step hb
  replace hog0 := hog0.step hb
  replace houx2 := houx2.step hb
  clear hb
  clear houx2
  have hbdx0 : cntD (pmsD p0) ≤ 20971520 := by have := cntD_bd hc0; omega
  go_wp2_with fail
  refine (UR_markParamS hc0 hox0 (by omega) (by omega)).mono ?_
  rintro e w17 ⟨rfl, ho', hg⟩
  have hs17z := hg.size
  replace hB := hB.trans (hg.below (by omega) hB.size)
  replace how0 := how0.chg hg (by omega)
  replace hox1 := hox1.chg hg (by omega)
  replace hox2 := hox2.chg hg (by omega)
  replace hog0 := hog0.chg hg (by omega)
  replace hox0 := ho'
  clear hg ho'
  have hnkx0 : ¬ (1 + ((cntD (pmsD p0) : Nat) : Int)) < 0 := by omega
  clear hox0
  have hbdx1 : cntD (intsD p1) ≤ 20971520 := by have := cntD_bd hc1; omega
  go_wp2_with fail
  refine (UR_markIntS hc1 hox1 (by omega) (by omega)).mono ?_
  rintro e w18 ⟨rfl, ho', hg⟩
  have hs18z := hg.size
  replace hB := hB.trans (hg.below (by omega) hB.size)
  replace how0 := how0.chg hg (by omega)
  replace hox2 := hox2.chg hg (by omega)
  replace hog0 := hog0.chg hg (by omega)
  replace hox1 := ho'
  clear hg ho'
  have hnkx1 : ¬ (1 + (cntD (pmsD p0) : Nat) + ((cntD (intsD p1) : Nat) : Int)) < 0 := by omega
  clear hox1
  have hbdx2 : cntD (intsD p2) ≤ 20971520 := by have := cntD_bd hc2; omega
  go_wp2_with fail
  refine (UR_markIntS hc2 hox2 (by omega) (by omega)).mono ?_
  rintro e w19 ⟨rfl, ho', hg⟩
  have hs19z := hg.size
  replace hB := hB.trans (hg.below (by omega) hB.size)
  replace how0 := how0.chg hg (by omega)
  replace hog0 := hog0.chg hg (by omega)
  replace hox2 := ho'
  clear hg ho'
  have hnkx2 : ¬ (1 + (cntD (pmsD p0) : Nat) + (cntD (intsD p1) : Nat) + ((cntD (intsD p2) : Nat) : Int)) < 0 := by omega
  clear hox2
  go_wp2_with fail
  refine (U_eqsIntS hcr_g0 hog0.repw.first how0.repw.first).mono ?_
  rintro e w20 ⟨rfl, hb⟩
  have hs20z := hb.size
  replace hB := hB.trans (hb.mono hB.size)
  replace how0 := how0.step hb
  replace hog0 := hog0.step hb
  clear hb
  have hbdg0 : cntD (intsD (whR p0 p1 p2)) ≤ 17592186044416 := (wh_fit (as1 := p1) (bs := p2) hz0).2
  go_wp2_with fail
  refine (UR_markIntS hcr_g0 hog0 (by omega) (by omega)).mono ?_
  rintro e w21 ⟨rfl, ho', hg⟩
  have hs21z := hg.size
  replace hB := hB.trans (hg.below (by omega) hB.size)
  replace how0 := how0.chg hg (by omega)
  replace hog0 := ho'
  clear hg ho'
  have hnmg0 : ¬ (1 + ((cntD (intsD (whR p0 p1 p2)) : Nat) : Int)) < 0 := by omega
  go_wp2_with fail
  refine (U_heldIntS hcr_g0 hog0.repw.first (by omega) (by omega)).mono ?_
  rintro e w22 ⟨rfl, hb⟩
  have hs22z := hb.size
  replace hB := hB.trans (hb.mono hB.size)
  replace how0 := how0.step hb
  replace hog0 := hog0.step hb
  clear hb
  go_wp2_with fail
  refine (U_toParamS ⟨hc0, hs0, hz0, hr0.later hB hB.size⟩).mono ?_
  rintro e w23 ⟨a_t0h0, n_t0h0, c_t0h0, rfl, hf, hb⟩
  have hs23z := hb.size
  replace hB := hB.trans (hb.mono hB.size)
  replace how0 := how0.step hb
  replace hog0 := hog0.step hb
  have hot0h0 := hf.ownR
  clear hf hb
  go_wp2_with fail
  refine (U_toIntS ⟨hc1, hs1, hz1, hr1.later hB hB.size⟩).mono ?_
  rintro e w24 ⟨a_t1h0, n_t1h0, c_t1h0, rfl, hf, hb⟩
  have hs24z := hb.size
  replace hB := hB.trans (hb.mono hB.size)
  replace how0 := how0.step hb
  replace hog0 := hog0.step hb
  replace hot0h0 := hot0h0.step hb
  have hot1h0 := hf.ownR
  clear hf hb
  go_wp2_with fail
  refine (U_toIntS ⟨hc2, hs2, hz2, hr2.later hB hB.size⟩).mono ?_
  rintro e w25 ⟨a_t2h0, n_t2h0, c_t2h0, rfl, hf, hb⟩
  have hs25z := hb.size
  replace hB := hB.trans (hb.mono hB.size)
  replace how0 := how0.step hb
  replace hog0 := hog0.step hb
  replace hot0h0 := hot0h0.step hb
  replace hot1h0 := hot1h0.step hb
  have hot2h0 := hf.ownR
  clear hf hb
  go_wp2_with fail
  refine (U_impl_WholeArgs ⟨hc0, hs0, hz0, hot0h0.repw.first⟩ ⟨hc1, hs1, hz1, hot1h0.repw.first⟩ ⟨hc2, hs2, hz2, hot2h0.repw.first⟩).mono ?_
  rintro e w26 ⟨a_h0, n_h0, c_h0, rfl, hf_h0, hb⟩
  have hs26z := hb.size
  replace hB := hB.trans (hb.mono hB.size)
  replace how0 := how0.step hb
  replace hog0 := hog0.step hb
  replace hot0h0 := hot0h0.step hb
  replace hot1h0 := hot1h0.step hb
  replace hot2h0 := hot2h0.step hb
  have hcr_h0 := (wh_fit (as1 := p1) (bs := p2) hz0).1
  have hoh0 := hf_h0.ownR
  clear hf_h0
  clear hb
  clear hot0h0
  clear hot1h0
  clear hot2h0
  go_wp2_with fail
  refine (U_eqsIntS hcr_h0 hoh0.repw.first how0.repw.first).mono ?_
  rintro e w27 ⟨rfl, hb⟩
  have hs27z := hb.size
  replace hB := hB.trans (hb.mono hB.size)
  replace how0 := how0.step hb
  replace hog0 := hog0.step hb
  replace hoh0 := hoh0.step hb
  clear hb
  go_wp2_with fail
  refine (U_heldIntS hcr_g0 hog0.repw.first (by omega) (by omega)).mono ?_
  rintro e w28 ⟨rfl, hb⟩
  have hs28z := hb.size
  replace hB := hB.trans (hb.mono hB.size)
  replace how0 := how0.step hb
  replace hog0 := hog0.step hb
  replace hoh0 := hoh0.step hb
  clear hb
  go_wp2
  go_ret
  exact ⟨rfl, hB⟩
end Go.Proofs.Ytfeldmpddkmidaa
