/-
  The walk of the law FnExactSplitParams.
-/
import Derived.Test.YtfeldmpddkmidaaSplit
import Derived.Test.YtfeldmpddkmidaaUSL
import Derived.Test.YtfeldmpddkmidaaCon2
import Derived.Test.YtfeldmpddkmidaaUMark
import Derived.Deep.RegionHeld2
namespace Go.Proofs.Ytfeldmpddkmidaa
open Go.RowKit
set_option linter.unusedVariables false
theorem U_spec_SplitParams {w : World} {p0 : List Pm} {v0 : Value} (g0 : Giv w .param (pmsD p0) v0) : Calls Try.prog 26 #[v0] w fun e w' => ∃ a1 n1 c1 a2 n2 c2, e = .returned (.tuple #[.slice a1 n1 c1, .slice a2 n2 c2]) ∧ OwnR w' w.heap.size w'.heap.size [(pmsD (spL false p0 p0.length)), (pmsD (spL true p0 p0.length))] [.slice a1 n1 c1, .slice a2 n2 c2] ∧ Below w.heap.size w w' := by
  refine (con_oo (con_SplitS p0 (Nat.le_trans g0.2.2.1 (by omega))) (rpd_cons (rpd_one g0.2.2.2) (rpd_nil _))).mono ?_
  rintro e w' ⟨v, u, rfl, hf, hb⟩
  obtain ⟨a1, n1, c1, rfl⟩ := rep_rows ⟨_, _, _, rfl⟩ hf.fst.repw.first
  obtain ⟨a2, n2, c2, rfl⟩ := rep_rows ⟨_, _, _, rfl⟩ hf.snd.repw.first
  exact ⟨a1, n1, c1, a2, n2, c2, rfl, hf, hb⟩
theorem U_impl_SplitParams {w : World} {p0 : List Pm} {v0 : Value} (g0 : Giv w .param (pmsD p0) v0) : Calls Try.prog 27 #[v0] w fun e w' => ∃ a1 n1 c1 a2 n2 c2, e = .returned (.tuple #[.slice a1 n1 c1, .slice a2 n2 c2]) ∧ OwnR w' w.heap.size w'.heap.size [(pmsD (spL false p0 p0.length)), (pmsD (spL true p0 p0.length))] [.slice a1 n1 c1, .slice a2 n2 c2] ∧ Below w.heap.size w w' := by
  refine (con_oo (con_SplitI p0 (Nat.le_trans g0.2.2.1 (by omega))) (rpd_cons (rpd_one g0.2.2.2) (rpd_nil _))).mono ?_
  rintro e w' ⟨v, u, rfl, hf, hb⟩
  obtain ⟨a1, n1, c1, rfl⟩ := rep_rows ⟨_, _, _, rfl⟩ hf.fst.repw.first
  obtain ⟨a2, n2, c2, rfl⟩ := rep_rows ⟨_, _, _, rfl⟩ hf.snd.repw.first
  exact ⟨a1, n1, c1, a2, n2, c2, rfl, hf, hb⟩
set_option maxRecDepth 100000 in
set_option maxHeartbeats 8000000 in
theorem top_FnExactSplitParams (w : World) (v0 : Value) (h0 : Arg w .param v0) : Calls Try.prog 4 #[v0] w fun e w' => e = .returned (.bool true) ∧ Below w.heap.size w w' := by
  obtain ⟨ds0, hc0, hr0, hs0⟩ := h0
  obtain ⟨p0, rfl⟩ := pms_of hc0
  obtain ⟨a_p0, n_p0, c_p0, rfl⟩ := rep_sl hc0 hr0
  have hB := Below.refl w.heap.size w
  go_enter Try.func4, Try.ntmps4
  go_wp2_with fail
  refine (U_szParamS hc0 hs0 (hr0.later hB hB.size) (by omega) (by omega)).mono ?_
  rintro e w1 ⟨rfl, hb⟩
  have hs1z := hb.size
  replace hB := hB.trans (hb.mono hB.size)
  by_cases hfit0 : ((szD (pmsD p0) : Nat) : Int) ≤ 1048576
  case neg =>
    have HE := Lib.hid (szR_out (1048576) (szD (pmsD p0)) (by omega))
    rw [HE.out]
    go_wp2
    go_ret
    exact ⟨rfl, hB⟩
  have HE0 := Lib.hid (szR_in (1048576) (szD (pmsD p0)) hfit0)
  have hnn0 : ¬ 1048576 - ((szD (pmsD p0) : Nat) : Int) < 0 := by omega
  have hz0 : szD (pmsD p0) ≤ 1048576 := by omega
  rw [HE0.out]
  clear hb
  go_wp2_with fail
  refine (U_toParamS ⟨hc0, hs0, hz0, hr0.later hB hB.size⟩).mono ?_
  rintro e w2 ⟨a_t0w0, n_t0w0, c_t0w0, rfl, hf, hb⟩
  have hs2z := hb.size
  replace hB := hB.trans (hb.mono hB.size)
  have hot0w0 := hf.ownR
  clear hf hb
  go_wp2_with fail
  refine (U_spec_SplitParams ⟨hc0, hs0, hz0, hot0w0.repw.first⟩).mono ?_
  rintro e w3 ⟨a_w0, n_w0, c_w0, a_w1, n_w1, c_w1, rfl, hp, hb⟩
  have hs3z := hb.size
  replace hB := hB.trans (hb.mono hB.size)
  replace hot0w0 := hot0w0.step hb
  have hpw0 := hp
  clear hp hb
  have hcr_w0 := (split_fit (b := false) hc0 hz0).1
  have how0 := hpw0.fst
  have hcr_w1 := (split_fit (b := true) hc0 hz0).1
  have how1 := hpw0.snd
  clear hot0w0
  go_wp2_with fail
  refine (U_toParamS ⟨hc0, hs0, hz0, hr0.later hB hB.size⟩).mono ?_
  rintro e w4 ⟨a_x0, n_x0, c_x0, rfl, hf, hb⟩
  have hs4z := hb.size
  replace hB := hB.trans (hb.mono hB.size)
  replace how0 := how0.step hb
  replace how1 := how1.step hb
  replace hpw0 := hpw0.step hb
  have hox0 := hf.ownR
  clear hf hb
  go_wp2_with fail
  refine (U_impl_SplitParams ⟨hc0, hs0, hz0, hox0.repw.first⟩).mono ?_
  rintro e w5 ⟨a_g0, n_g0, c_g0, a_g1, n_g1, c_g1, rfl, hp, hb⟩
  have hs5z := hb.size
  replace hB := hB.trans (hb.mono hB.size)
  replace how0 := how0.step hb
  replace how1 := how1.step hb
  replace hox0 := hox0.step hb
  replace hpw0 := hpw0.step hb
  have hpg0 := hp
  clear hp hb
  have hcr_g0 := (split_fit (b := false) hc0 hz0).1
  have hog0 := hpg0.fst
  have hcr_g1 := (split_fit (b := true) hc0 hz0).1
  have hog1 := hpg0.snd
  go_wp2_with fail
  refine (U_eqsParamS hcr_g0 hog0.repw.first how0.repw.first).mono ?_
  rintro e w6 ⟨rfl, hb⟩
  have hs6z := hb.size
  replace hB := hB.trans (hb.mono hB.size)
  replace how0 := how0.step hb
  replace how1 := how1.step hb
  replace hox0 := hox0.step hb
  replace hog0 := hog0.step hb
  replace hog1 := hog1.step hb
  replace hpw0 := hpw0.step hb
  replace hpg0 := hpg0.step hb
  clear hb
  go_wp2_with fail
  refine (U_eqsParamS hcr_g1 hog1.repw.first how1.repw.first).mono ?_
  rintro e w7 ⟨rfl, hb⟩
  have hs7z := hb.size
  replace hB := hB.trans (hb.mono hB.size)
  replace how0 := how0.step hb
  replace how1 := how1.step hb
  replace hox0 := hox0.step hb
  replace hog0 := hog0.step hb
  replace hog1 := hog1.step hb
  replace hpw0 := hpw0.step hb
  replace hpg0 := hpg0.step hb
  clear hb
  go_wp2_with fail
  refine (U_toParamS ⟨hc0, hs0, hz0, hr0.later hB hB.size⟩).mono ?_
  rintro e w8 ⟨a_ux0, n_ux0, c_ux0, rfl, hf, hb⟩
  have hs8z := hb.size
  replace hB := hB.trans (hb.mono hB.size)
  replace how0 := how0.step hb
  replace how1 := how1.step hb
  replace hox0 := hox0.step hb
  replace hog0 := hog0.step hb
  replace hog1 := hog1.step hb
  replace hpw0 := hpw0.step hb
  replace hpg0 := hpg0.step hb
  have houx0 := hf.ownR
  clear hf hb
  go_wp2_with fail
  refine (U_eqsParamS hc0 hox0.repw.first houx0.repw.first).mono ?_
  rintro e w9 ⟨rfl, hb⟩
  have hs9z := hb.size
  replace hB := hB.trans (hb.mono hB.size)
  replace how0 := how0.step hb
  replace how1 := how1.step hb
  replace hox0 := hox0.step hb
  replace hog0 := hog0.step hb
  replace hog1 := hog1.step hb
  replace houx0 := houx0.step hb
  replace hpw0 := hpw0.step hb
  replace hpg0 := hpg0.step hb
  clear hb
  clear houx0
  have hbdx0 : cntD (pmsD p0) ≤ 20971520 := by have := cntD_bd hc0; omega
  go_wp2_with fail
  refine (UR_markParamS hc0 hox0 (by omega) (by omega)).mono ?_
  rintro e w10 ⟨rfl, ho', hg⟩
  have hs10z := hg.size
  replace hB := hB.trans (hg.below (by omega) hB.size)
  replace how0 := how0.chg hg (by omega)
  replace how1 := how1.chg hg (by omega)
  replace hog0 := hog0.chg hg (by omega)
  replace hog1 := hog1.chg hg (by omega)
  replace hpw0 := hpw0.chg hg (by omega)
  replace hpg0 := hpg0.chg hg (by omega)
  replace hox0 := ho'
  clear hg ho'
  have hnkx0 : ¬ (1 + ((cntD (pmsD p0) : Nat) : Int)) < 0 := by omega
  clear hox0
  go_wp2_with fail
  refine (U_eqsParamS hcr_g0 hog0.repw.first how0.repw.first).mono ?_
  rintro e w11 ⟨rfl, hb⟩
  have hs11z := hb.size
  replace hB := hB.trans (hb.mono hB.size)
  replace how0 := how0.step hb
  replace how1 := how1.step hb
  replace hog0 := hog0.step hb
  replace hog1 := hog1.step hb
  replace hpw0 := hpw0.step hb
  replace hpg0 := hpg0.step hb
  clear hb
  go_wp2_with fail
  refine (U_eqsParamS hcr_g1 hog1.repw.first how1.repw.first).mono ?_
  rintro e w12 ⟨rfl, hb⟩
  have hs12z := hb.size
  replace hB := hB.trans (hb.mono hB.size)
  replace how0 := how0.step hb
  replace how1 := how1.step hb
  replace hog0 := hog0.step hb
  replace hog1 := hog1.step hb
  replace hpw0 := hpw0.step hb
  replace hpg0 := hpg0.step hb
  clear hb
  have hbdg0 : cntD (pmsD (spL false p0 p0.length)) ≤ 17592186044416 := (split_fit (b := false) hc0 hz0).2
  go_wp2_with fail
  refine (mark_fst (fun f a b => markParamS_all _ hcr_g0 _ f _ _ a b (by omega) (by omega)) hpg0).mono ?_
  rintro e w13 ⟨rfl, ho', hg⟩
  have hs13z := hg.size
  replace hB := hB.trans (hg.below (by omega) hB.size)
  replace how0 := how0.chg hg (by omega)
  replace how1 := how1.chg hg (by omega)
  replace hpw0 := hpw0.chg hg (by omega)
  replace hpg0 := ho'
  replace hog0 := hpg0.fst
  replace hog1 := hpg0.snd
  clear hg ho'
  have hnmg0 : ¬ (1 + ((cntD (pmsD (spL false p0 p0.length)) : Nat) : Int)) < 0 := by omega
  have hbdg1 : cntD (pmsD (spL true p0 p0.length)) ≤ 17592186044416 := (split_fit (b := true) hc0 hz0).2
  go_wp2_with fail
  refine (mark_snd (fun f a b => markParamS_all _ hcr_g1 _ f _ _ a b (by omega) (by omega)) hpg0).mono ?_
  rintro e w14 ⟨rfl, ho', hg⟩
  have hs14z := hg.size
  replace hB := hB.trans (hg.below (by omega) hB.size)
  replace how0 := how0.chg hg (by omega)
  replace how1 := how1.chg hg (by omega)
  replace hpw0 := hpw0.chg hg (by omega)
  replace hpg0 := ho'
  replace hog0 := hpg0.fst
  replace hog1 := hpg0.snd
  clear hg ho'
  have hnmg1 : ¬ (1 + (cntD (pmsD (spL false p0 p0.length)) : Nat) + ((cntD (pmsD (spL true p0 p0.length)) : Nat) : Int)) < 0 := by omega
  go_wp2_with fail
  refine (U_heldParamS hcr_g0 hog0.repw.first (by omega) (by omega)).mono ?_
  rintro e w15 ⟨rfl, hb⟩
  have hs15z := hb.size
  replace hB := hB.trans (hb.mono hB.size)
  replace how0 := how0.step hb
  replace how1 := how1.step hb
  replace hog0 := hog0.step hb
  replace hog1 := hog1.step hb
  replace hpw0 := hpw0.step hb
  replace hpg0 := hpg0.step hb
  clear hb
  go_wp2_with fail
  refine (U_heldParamS hcr_g1 hog1.repw.first (by omega) (by omega)).mono ?_
  rintro e w16 ⟨rfl, hb⟩
  have hs16z := hb.size
  replace hB := hB.trans (hb.mono hB.size)
  replace how0 := how0.step hb
  replace how1 := how1.step hb
  replace hog0 := hog0.step hb
  replace hog1 := hog1.step hb
  replace hpw0 := hpw0.step hb
  replace hpg0 := hpg0.step hb
  clear hb
  go_wp2_with fail
  refine (U_toParamS ⟨hc0, hs0, hz0, hr0.later hB hB.size⟩).mono ?_
  rintro e w17 ⟨a_t0h0, n_t0h0, c_t0h0, rfl, hf, hb⟩
  have hs17z := hb.size
  replace hB := hB.trans (hb.mono hB.size)
  replace how0 := how0.step hb
  replace how1 := how1.step hb
  replace hog0 := hog0.step hb
  replace hog1 := hog1.step hb
  replace hpw0 := hpw0.step hb
  replace hpg0 := hpg0.step hb
  have hot0h0 := hf.ownR
  clear hf hb
  go_wp2_with fail
  refine (U_impl_SplitParams ⟨hc0, hs0, hz0, hot0h0.repw.first⟩).mono ?_
  rintro e w18 ⟨a_h0, n_h0, c_h0, a_h1, n_h1, c_h1, rfl, hp, hb⟩
  have hs18z := hb.size
  replace hB := hB.trans (hb.mono hB.size)
  replace how0 := how0.step hb
  replace how1 := how1.step hb
  replace hog0 := hog0.step hb
  replace hog1 := hog1.step hb
  replace hot0h0 := hot0h0.step hb
  replace hpw0 := hpw0.step hb
  replace hpg0 := hpg0.step hb
  have hph0 := hp
  clear hp hb
  have hcr_h0 := (split_fit (b := false) hc0 hz0).1
  have hoh0 := hph0.fst
  have hcr_h1 := (split_fit (b := true) hc0 hz0).1
  have hoh1 := hph0.snd
  clear hot0h0
  go_wp2_with fail
  refine (U_eqsParamS hcr_h0 hoh0.repw.first how0.repw.first).mono ?_
  rintro e w19 ⟨rfl, hb⟩
  have hs19z := hb.size
  replace hB := hB.trans (hb.mono hB.size)
  replace how0 := how0.step hb
  replace how1 := how1.step hb
  replace hog0 := hog0.step hb
  replace hog1 := hog1.step hb
  replace hoh0 := hoh0.step hb
  replace hoh1 := hoh1.step hb
  replace hpw0 := hpw0.step hb
  replace hpg0 := hpg0.step hb
  replace hph0 := hph0.step hb
  clear hb
  go_wp2_with fail
  refine (U_eqsParamS hcr_h1 hoh1.repw.first how1.repw.first).mono ?_
  rintro e w20 ⟨rfl, hb⟩
  have hs20z := hb.size
  replace hB := hB.trans (hb.mono hB.size)
  replace how0 := how0.step hb
  replace how1 := how1.step hb
  replace hog0 := hog0.step hb
  replace hog1 := hog1.step hb
  replace hoh0 := hoh0.step hb
  replace hoh1 := hoh1.step hb
  replace hpw0 := hpw0.step hb
  replace hpg0 := hpg0.step hb
  replace hph0 := hph0.step hb
  clear hb
  go_wp2_with fail
  refine (U_heldParamS hcr_g0 hog0.repw.first (by omega) (by omega)).mono ?_
  rintro e w21 ⟨rfl, hb⟩
  have hs21z := hb.size
  replace hB := hB.trans (hb.mono hB.size)
  replace how0 := how0.step hb
  replace how1 := how1.step hb
  replace hog0 := hog0.step hb
  replace hog1 := hog1.step hb
  replace hoh0 := hoh0.step hb
  replace hoh1 := hoh1.step hb
  replace hpw0 := hpw0.step hb
  replace hpg0 := hpg0.step hb
  replace hph0 := hph0.step hb
  clear hb
  go_wp2_with fail
  refine (U_heldParamS hcr_g1 hog1.repw.first (by omega) (by omega)).mono ?_
  rintro e w22 ⟨rfl, hb⟩
  have hs22z := hb.size
  replace hB := hB.trans (hb.mono hB.size)
  replace how0 := how0.step hb
  replace how1 := how1.step hb
  replace hog0 := hog0.step hb
  replace hog1 := hog1.step hb
  replace hoh0 := hoh0.step hb
  replace hoh1 := hoh1.step hb
  replace hpw0 := hpw0.step hb
  replace hpg0 := hpg0.step hb
  replace hph0 := hph0.step hb
  clear hb
  go_wp2
  go_ret
  exact ⟨rfl, hB⟩
end Go.Proofs.Ytfeldmpddkmidaa
