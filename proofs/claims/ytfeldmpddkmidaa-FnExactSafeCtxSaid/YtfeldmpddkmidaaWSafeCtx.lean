/-
  The walk of the law FnExactSafeCtx.
-/
import Derived.Test.YtfeldmpddkmidaaSafe
import Derived.Test.YtfeldmpddkmidaaUSL
import Derived.Test.YtfeldmpddkmidaaUMark
import Derived.Deep.RegionHeld2
namespace Go.Proofs.Ytfeldmpddkmidaa
open Go.RowKit
set_option linter.unusedVariables false
theorem U_spec_SafeCtx {w : World} {p0 : List Tg} {v0 : Value} (g0 : Giv w .typing (tgsD p0) v0) (p1 : Int) (g1 : (Lit.int .i64 p1).wf = true) : Calls Try.prog 30 #[v0, .int .i64 p1] w fun e w' => ∃ a n c, e = .returned (.slice a n c) ∧ Fresh w' w.heap.size (tgsD (safeTg p0 p1 p0.length)) (.slice a n c) ∧ Below w.heap.size w w' := by
  refine (con_one (con_SafeCtxS p0 p1 (Nat.le_trans g0.2.2.1 (by omega))) (rpd_cons (rpd_one g0.2.2.2) (rpd_cons (rpd_int _) (rpd_nil _)))).mono ?_
  rintro e w' ⟨u, rfl, hf, hb⟩
  obtain ⟨a, c, rfl⟩ := fresh_rows (show Fresh w' w.heap.size (.rows _ _ _) u from hf)
  exact ⟨a, _, c, rfl, hf, hb⟩
theorem U_impl_SafeCtx {w : World} {p0 : List Tg} {v0 : Value} (g0 : Giv w .typing (tgsD p0) v0) (p1 : Int) (g1 : (Lit.int .i64 p1).wf = true) : Calls Try.prog 32 #[v0, .int .i64 p1] w fun e w' => ∃ a n c, e = .returned (.slice a n c) ∧ Fresh w' w.heap.size (tgsD (safeTg p0 p1 p0.length)) (.slice a n c) ∧ Below w.heap.size w w' := by
  refine (con_one (con_SafeCtxI p0 p1 (Nat.le_trans g0.2.2.1 (by omega))) (rpd_cons (rpd_one g0.2.2.2) (rpd_cons (rpd_int _) (rpd_nil _)))).mono ?_
  rintro e w' ⟨u, rfl, hf, hb⟩
  obtain ⟨a, c, rfl⟩ := fresh_rows (show Fresh w' w.heap.size (.rows _ _ _) u from hf)
  exact ⟨a, _, c, rfl, hf, hb⟩
set_option maxRecDepth 100000 in
set_option maxHeartbeats 8000000 in
theorem top_FnExactSafeCtx (w : World) (v0 : Value) (h0 : Arg w .typing v0) (p1 : Int) (wf1 : (Lit.int .i64 p1).wf = true) : Calls Try.prog 5 #[v0, .int .i64 p1] w fun e w' => e = .returned (.bool true) ∧ Below w.heap.size w w' := by
  obtain ⟨ds0, hc0, hr0, hs0⟩ := h0
  obtain ⟨p0, rfl⟩ := tgs_of hc0
  obtain ⟨a_p0, n_p0, c_p0, rfl⟩ := rep_sl hc0 hr0
  have hB := Below.refl w.heap.size w
  go_enter Try.func5, Try.ntmps5
  go_wp2_with fail
  refine (U_szTypingS hc0 hs0 (hr0.later hB hB.size) (by omega) (by omega)).mono ?_
  rintro e w1 ⟨rfl, hb⟩
  have hs1z := hb.size
  replace hB := hB.trans (hb.mono hB.size)
  by_cases hfit0 : ((szD (tgsD p0) : Nat) : Int) ≤ 1048576
  case neg =>
    have HE := Lib.hid (szR_out (1048576) (szD (tgsD p0)) (by omega))
    rw [HE.out]
    go_wp2
    go_ret
    exact ⟨rfl, hB⟩
  have HE0 := Lib.hid (szR_in (1048576) (szD (tgsD p0)) hfit0)
  have hnn0 : ¬ 1048576 - ((szD (tgsD p0) : Nat) : Int) < 0 := by omega
  have hz0 : szD (tgsD p0) ≤ 1048576 := by omega
  rw [HE0.out]
  clear hb
  go_wp2_with fail
  refine (U_toTypingS ⟨hc0, hs0, hz0, hr0.later hB hB.size⟩).mono ?_
  rintro e w2 ⟨a_t0w0, n_t0w0, c_t0w0, rfl, hf, hb⟩
  have hs2z := hb.size
  replace hB := hB.trans (hb.mono hB.size)
  have hot0w0 := hf.ownR
  clear hf hb
  go_wp2_with fail
  refine (U_spec_SafeCtx ⟨hc0, hs0, hz0, hot0w0.repw.first⟩ p1 wf1).mono ?_
  rintro e w3 ⟨a_w0, n_w0, c_w0, rfl, hf_w0, hb⟩
  have hs3z := hb.size
  replace hB := hB.trans (hb.mono hB.size)
  replace hot0w0 := hot0w0.step hb
  have hcr_w0 := (safe_fit (n := p1) hc0 hz0).1
  have how0 := hf_w0.ownR
  clear hf_w0
  clear hb
  clear hot0w0
  go_wp2_with fail
  refine (U_toTypingS ⟨hc0, hs0, hz0, hr0.later hB hB.size⟩).mono ?_
  rintro e w4 ⟨a_x0, n_x0, c_x0, rfl, hf, hb⟩
  have hs4z := hb.size
  replace hB := hB.trans (hb.mono hB.size)
  replace how0 := how0.step hb
  have hox0 := hf.ownR
  clear hf hb
  go_wp2_with fail
  refine (U_impl_SafeCtx ⟨hc0, hs0, hz0, hox0.repw.first⟩ p1 wf1).mono ?_
  rintro e w5 ⟨a_g0, n_g0, c_g0, rfl, hf_g0, hb⟩
  have hs5z := hb.size
  replace hB := hB.trans (hb.mono hB.size)
  replace how0 := how0.step hb
  replace hox0 := hox0.step hb
  have hcr_g0 := (safe_fit (n := p1) hc0 hz0).1
  have hog0 := hf_g0.ownR
  clear hf_g0
  clear hb
  go_wp2_with fail
  refine (U_eqsTypingS hcr_g0 hog0.repw.first how0.repw.first).mono ?_
  rintro e w6 ⟨rfl, hb⟩
  have hs6z := hb.size
  replace hB := hB.trans (hb.mono hB.size)
  replace how0 := how0.step hb
  replace hox0 := hox0.step hb
  replace hog0 := hog0.step hb
  clear hb
  go_wp2_with fail
  refine (U_toTypingS ⟨hc0, hs0, hz0, hr0.later hB hB.size⟩).mono ?_
  rintro e w7 ⟨a_ux0, n_ux0, c_ux0, rfl, hf, hb⟩
  have hs7z := hb.size
  replace hB := hB.trans (hb.mono hB.size)
  replace how0 := how0.step hb
  replace hox0 := hox0.step hb
  replace hog0 := hog0.step hb
  have houx0 := hf.ownR
  clear hf hb
  go_wp2_with fail
  refine (U_eqsTypingS hc0 hox0.repw.first houx0.repw.first).mono ?_
  rintro e w8 ⟨rfl, hb⟩
  have hs8z := hb.size
  replace hB := hB.trans (hb.mono hB.size)
  replace how0 := how0.step hb
  replace hox0 := hox0.step hb
  replace hog0 := hog0.step hb
  replace houx0 := houx0.step hb
  clear hb
  clear houx0
  have hbdx0 : cntD (tgsD p0) ≤ 20971520 := by have := cntD_bd hc0; omega
  go_wp2_with fail
  refine (UR_markTypingS hc0 hox0 (by omega) (by omega)).mono ?_
  rintro e w9 ⟨rfl, ho', hg⟩
  have hs9z := hg.size
  replace hB := hB.trans (hg.below (by omega) hB.size)
  replace how0 := how0.chg hg (by omega)
  replace hog0 := hog0.chg hg (by omega)
  replace hox0 := ho'
  clear hg ho'
  have hnkx0 : ¬ (1 + ((cntD (tgsD p0) : Nat) : Int)) < 0 := by omega
  clear hox0
  go_wp2_with fail
  refine (U_eqsTypingS hcr_g0 hog0.repw.first how0.repw.first).mono ?_
  rintro e w10 ⟨rfl, hb⟩
  have hs10z := hb.size
  replace hB := hB.trans (hb.mono hB.size)
  replace how0 := how0.step hb
  replace hog0 := hog0.step hb
  clear hb
  have hbdg0 : cntD (tgsD (safeTg p0 p1 p0.length)) ≤ 17592186044416 := (safe_fit (n := p1) hc0 hz0).2
  go_wp2_with fail
  refine (UR_markTypingS hcr_g0 hog0 (by omega) (by omega)).mono ?_
  rintro e w11 ⟨rfl, ho', hg⟩
  have hs11z := hg.size
  replace hB := hB.trans (hg.below (by omega) hB.size)
  replace how0 := how0.chg hg (by omega)
  replace hog0 := ho'
  clear hg ho'
  have hnmg0 : ¬ (1 + ((cntD (tgsD (safeTg p0 p1 p0.length)) : Nat) : Int)) < 0 := by omega
  go_wp2_with fail
  refine (U_heldTypingS hcr_g0 hog0.repw.first (by omega) (by omega)).mono ?_
  rintro e w12 ⟨rfl, hb⟩
  have hs12z := hb.size
  replace hB := hB.trans (hb.mono hB.size)
  replace how0 := how0.step hb
  replace hog0 := hog0.step hb
  clear hb
  go_wp2_with fail
  refine (U_toTypingS ⟨hc0, hs0, hz0, hr0.later hB hB.size⟩).mono ?_
  rintro e w13 ⟨a_t0h0, n_t0h0, c_t0h0, rfl, hf, hb⟩
  have hs13z := hb.size
  replace hB := hB.trans (hb.mono hB.size)
  replace how0 := how0.step hb
  replace hog0 := hog0.step hb
  have hot0h0 := hf.ownR
  clear hf hb
  go_wp2_with fail
  refine (U_impl_SafeCtx ⟨hc0, hs0, hz0, hot0h0.repw.first⟩ p1 wf1).mono ?_
  rintro e w14 ⟨a_h0, n_h0, c_h0, rfl, hf_h0, hb⟩
  have hs14z := hb.size
  replace hB := hB.trans (hb.mono hB.size)
  replace how0 := how0.step hb
  replace hog0 := hog0.step hb
  replace hot0h0 := hot0h0.step hb
  have hcr_h0 := (safe_fit (n := p1) hc0 hz0).1
  have hoh0 := hf_h0.ownR
  clear hf_h0
  clear hb
  clear hot0h0
  go_wp2_with fail
  refine (U_eqsTypingS hcr_h0 hoh0.repw.first how0.repw.first).mono ?_
  rintro e w15 ⟨rfl, hb⟩
  have hs15z := hb.size
  replace hB := hB.trans (hb.mono hB.size)
  replace how0 := how0.step hb
  replace hog0 := hog0.step hb
  replace hoh0 := hoh0.step hb
  clear hb
  go_wp2_with fail
  refine (U_heldTypingS hcr_g0 hog0.repw.first (by omega) (by omega)).mono ?_
  rintro e w16 ⟨rfl, hb⟩
  have hs16z := hb.size
  replace hB := hB.trans (hb.mono hB.size)
  replace how0 := how0.step hb
  replace hog0 := hog0.step hb
  replace hoh0 := hoh0.step hb
  clear hb
  go_wp2
  go_ret
  exact ⟨rfl, hB⟩
end Go.Proofs.Ytfeldmpddkmidaa
