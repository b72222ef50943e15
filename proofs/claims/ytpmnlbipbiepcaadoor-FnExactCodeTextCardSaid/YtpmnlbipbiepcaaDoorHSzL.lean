/-
  Sizes of lists of structs that came in.
-/
import Derived.Test.YtpmnlbipbiepcaaDoorHSzTy
namespace Go.Proofs.YtpmnlbipbiepcaaDoor
open Go.RowKit
set_option linter.unusedVariables false
theorem szL_of_ints : ∀ (F : List CK) (cs : List D), (∀ c ∈ F, c = CK.int) → ConfL cs F → szL cs = 0
  | [], cs, _, h => by
    cases cs with
    | nil => rfl
    | cons x xs => unfold ConfL at h; obtain ⟨c, r, e, _⟩ := h; cases e
  | c :: F, cs, hF, h => by
    cases cs with
    | nil => rfl
    | cons x xs =>
      unfold ConfL at h
      obtain ⟨c', r, e, h1, h2⟩ := h
      injection e with e1 e2
      subst e1 e2
      have := hF c (List.mem_cons_self ..)
      subst this
      obtain ⟨n, rfl⟩ := conf_int h1
      rw [szL, szL_of_ints F xs (fun c hc => hF c (List.mem_cons_of_mem _ hc)) h2]; rfl
set_option maxHeartbeats 1000000 in
theorem szInstrS_all : ∀ d, Conf d (.sl .instr) → StrB d → SzInstrS d := by
  refine D.ind (fun h => by unfold Conf at h; exact h.elim) (fun n h => by unfold Conf at h; cases h) (fun b h => by unfold Conf at h; cases h) (fun s h => by unfold Conf at h; cases h) fun sz n cs ih h hsb => ?_
  unfold Conf at h
  obtain ⟨k0, e, hsz, hl, hm, hcs⟩ := h
  injection e with e
  subst e
  intro v S w left hv hS h0 h1
  obtain ⟨a, cap, rfl, hnc, hcm, _, hsl⟩ := hv.slc
  clear hsl
  unfold maxLen at hm hcm
  have hz : szL cs = 0 := szL_of_ints _ _ (fun c hc => by
    rw [List.mem_flatten] at hc
    obtain ⟨l, hl, hc⟩ := hc
    rw [List.eq_of_mem_replicate hl] at hc
    simpa [K.fields] using hc) hcs
  have hszn : szD (.rows sz n cs) = n := by simp only [szD, hz]; omega
  by_cases hn : (n : Int) ≤ left
  case neg =>
    have HE := Lib.hid (show szR left (szD (.rows sz n cs)) = -1 from szR_out _ _ (by rw [hszn]; omega))
    have hneg : left - (n : Int) < 0 := by omega
    clear hszn ih hcs hz hl hsb hsz
    go_enter Tryd.func7, Tryd.ntmps7
    go_wp2
    go_ret
    exact ⟨by rw [HE.out]; rfl, Below.refl _ _⟩
  have HE := Lib.hid (show szR left (szD (.rows sz n cs)) = left - n from by rw [szR_in _ _ (by rw [hszn]; omega), hszn])
  have hnn : ¬ left - (n : Int) < 0 := by omega
  clear hszn ih hcs hz hl hsb hsz
  go_enter Tryd.func7, Tryd.ntmps7
  go_wp2
  go_ret
  exact ⟨by rw [HE.out]; rfl, Below.refl _ _⟩
end Go.Proofs.YtpmnlbipbiepcaaDoor
