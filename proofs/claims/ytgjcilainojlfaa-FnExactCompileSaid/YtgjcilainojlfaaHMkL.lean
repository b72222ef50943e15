/-
  Marks on lists of structs.
-/
import Derived.Test.YtgjcilainojlfaaHMkTy
namespace Go.Proofs.Ytgjcilainojlfaa
open Go.RowKit
set_option linter.unusedVariables false
set_option maxRecDepth 100000 in
set_option maxHeartbeats 4000000 in
theorem markInstrS_all : ∀ d, Conf d (.sl .instr) → MarkInstrS d := by
  refine D.ind (fun d hd h => by rcases hd with rfl | ⟨_, rfl⟩ <;> (unfold Conf at h; exact h.elim)) (fun n h => by unfold Conf at h; cases h) (fun b h => by unfold Conf at h; cases h) (fun s h => by unfold Conf at h; cases h) fun sz n cs ih h => ?_
  unfold Conf at h
  obtain ⟨k0, e, hsz, hl, hm, hcs⟩ := h
  injection e with e
  subst e
  obtain rfl : sz = 2 := hsz
  intro v fp w c0 ho hnd hc0 hlim
  have hr := OwnV.rep _ _ _ ho (OwnV.lt _ _ _ ho)
  obtain ⟨a, cap, rfl, hnc, hcm, _, hsl⟩ := hr.slc
  have HSL : Hid (∀ k, k < n → ∃ b off, a = some ⟨b, off, none⟩) := Lib.hid fun k hk => by obtain ⟨b, off, _, h1, _⟩ := hsl k hk; exact ⟨b, off, h1⟩
  clear hsl hr
  unfold maxLen at hm hcm
  have hcn : cntD (.rows 2 n cs) = cntL cs := by simp only [cntD]
  have hmk : markD (.rows 2 n cs) c0 = .rows 2 n (markL cs c0) := by simp only [markD]
  rw [hcn] at hlim ⊢
  rw [hmk]
  have IH := Lib.hid ih
  have HCS := Lib.hid hcs
  have HL := Lib.hid hl
  have HO := Lib.hid ho
  clear ih hcs hl hcn hmk ho
  go_enter Try.func23, Try.ntmps23
  go_wp2
  go_loopw [1, 5] (fun q i wr => ∃ (k : Nat) (c : Int) (A : List D), k ≤ n ∧ i = .int .i64 k ∧ q = .int .i64 c ∧ 0 ≤ c ∧ Hid (c = c0 + cntL (cs.take (k * 2))) ∧ Hid (A = markL (cs.take (k * 2)) c0) ∧ Hid (OwnV wr (.rows 2 n (A ++ cs.drop (k * 2))) (.slice a n cap) fp) ∧ Only fp w wr) (fun _ i _ => n - (intOf i).toNat)
  case atStart => exact ⟨0, c0, [], Nat.zero_le _, rfl, rfl, hc0, by simp [Hid, cntL], by simp [Hid, markL], by simpa [Hid] using HO.out, Only.refl _ _⟩
  case round =>
    obtain ⟨k, c, A, hk, rfl, rfl, hcp, HC, HA, HO1, hW0⟩ := hrel
    by_cases hlt : k < n
    case neg =>
      have hT : cs.take (k * 2) = cs := List.take_of_length_le (by rw [HL.out]; exact Nat.mul_le_mul_right _ (by omega))
      have hDr : cs.drop (k * 2) = [] := List.drop_of_length_le (by rw [HL.out]; exact Nat.mul_le_mul_right _ (by omega))
      have HF : Hid (c = c0 + cntL cs) := by have := HC.out; rw [hT] at this; exact this
      have HO2 : Hid (OwnV wr (.rows 2 n (markL cs c0)) (.slice a n cap) fp) := by have h1 := HO1.out; rw [hDr, List.append_nil, HA.out, hT] at h1; exact h1
      clear hT hDr HO1 HA HC HO
      go_wp2
      go_ret
      exact ⟨ret_int HF.out, HO2.out, hW0⟩
    obtain ⟨b, off, rfl⟩ := HSL.out k hlt
    obtain ⟨i0, i1, hrow⟩ := conf_instr (conf_row n K.instr.fields cs k HCS.out hlt)
    replace hrow : rowAt 2 cs k = [.int i0, .int i1] := hrow
    have hAl : A.length = k * 2 := by rw [HA.out, markL_len, List.length_take, HL.out]; exact Nat.min_eq_left (Nat.mul_le_mul_right _ (by omega))
    obtain ⟨C, HCd⟩ : ∃ C, Hid (C = cs.drop ((k + 1) * 2)) := ⟨_, rfl⟩
    have hO0 : OwnV wr (.rows 2 n (A ++ ([.int i0, .int i1] ++ C))) (.slice (some ⟨b, off, none⟩) n cap) fp := by
      have h1 := HO1.out; rw [drop_rowAt, hrow, ← HCd.out] at h1; exact h1
    have hct : cntL (cs.take ((k + 1) * 2)) = cntL (cs.take (k * 2)) + cntL [.int i0, .int i1] := by rw [take_rowAt, hrow, cntL_append]
    have hcr : cntL [.int i0, .int i1] = 1 + 1 := by simp [cntL, cntD]
    have hcb : c + cntL [.int i0, .int i1] ≤ 140737488351232 := by have h1 := cntL_take_le cs ((k + 1) * 2); rw [hct] at h1; have h2 := HC.out; omega
    rw [hcr] at hcb
    have HCT := Lib.hid hct
    have HCR := Lib.hid hcr
    have HROW := Lib.hid hrow
    have HAL := Lib.hid hAl
    clear hct hcr hrow hAl HO1
    have hi1 : (k : Int) < (n : Int) := by omega
    obtain ⟨u0_0, f0_0, c0_0, z0_0, hbm0_0, ho0_0, hfn0_0, hsb0_0, hpt0_0⟩ := OwnV.mid hO0 hnd HAL.out 0 (by simp)
    simp only [Nat.add_zero] at c0_0 z0_0
    have HPT0_0 := Lib.hid hpt0_0
    have HSB0_0 := Lib.hid hsb0_0
    clear hpt0_0 hsb0_0
    obtain ⟨u1_0, f1_0, c1_0, z1_0, hbm0_1, ho1_0, hfn1_0, hsb1_0, hpt1_0⟩ := OwnV.mid hO0 hnd HAL.out 1 (by simp)
    have HPT1_0 := Lib.hid hpt1_0
    have HSB1_0 := Lib.hid hsb1_0
    clear hpt1_0 hsb1_0
    have hOs0 : OwnV ((wr.setCell ⟨b, off + k * 2, none⟩ (.int .i64 (c))).setCell ⟨b, off + k * 2 + 1, none⟩ (.int .i64 (c + 1))) (.rows 2 n (A ++ ([.int (c), .int (c + 1)] ++ C))) (.slice (some ⟨b, off, none⟩) n cap) fp := ((hO0.put hnd HAL.out 0 (by simp) rfl (.int (c)) (.int .i64 (c)) (fun _ => own_int _ _)).put hnd HAL.out 1 (by simp) rfl (.int (c + 1)) (.int .i64 (c + 1)) (fun _ => own_int _ _))
    have HOS := Lib.hid hOs0
    have hbm : b ∈ fp := hbm0_0
    go_wp2
    go_roundw
    case rel =>
      refine ⟨k + 1, _, A ++ [.int (c), .int (c + 1)], by omega, by go_num, rfl, by omega, ?_, ?_, ?_, ?_⟩
      · show _ = _; rw [HCT.out, HCR.out]; have := HC.out; omega
      · show _ = _; rw [take_rowAt, HROW.out, markL_append, ← HA.out, ← HC.out]; simp [markL, markD, cntD]
      · show OwnV _ _ _ _; rw [List.append_assoc, ← HCd.out]; exact HOS.out
      · repeat (refine Only.setCell ?_ hbm _)
        exact hW0
    case measure => simp [intOf]; omega
set_option maxRecDepth 100000 in
set_option maxHeartbeats 4000000 in
theorem heldInstrS_all : ∀ d, Conf d (.sl .instr) → HeldInstrS d := by
  refine D.ind (fun d hd h => by rcases hd with rfl | ⟨_, rfl⟩ <;> (unfold Conf at h; exact h.elim)) (fun n h => by unfold Conf at h; cases h) (fun b h => by unfold Conf at h; cases h) (fun s h => by unfold Conf at h; cases h) fun sz n cs ih h => ?_
  unfold Conf at h
  obtain ⟨k0, e, hsz, hl, hm, hcs⟩ := h
  injection e with e
  subst e
  obtain rfl : sz = 2 := hsz
  intro v S w c0 hv hS hc0 hlim
  have hcn : cntD (.rows 2 n cs) = cntL cs := by simp only [cntD]
  have hmk : markD (.rows 2 n cs) c0 = .rows 2 n (markL cs c0) := by simp only [markD]
  rw [hcn] at hlim ⊢
  rw [hmk] at hv
  obtain ⟨a, cap, rfl, hnc, hcm, _, hsl⟩ := hv.slc
  clear hsl
  unfold maxLen at hm hcm
  have IH := Lib.hid ih
  have HCS := Lib.hid hcs
  have HL := Lib.hid hl
  have HV := Lib.hid hv
  clear ih hcs hl hcn hmk hv
  go_enter Try.func24, Try.ntmps24
  go_wp2
  go_loopw [1, 5] (fun q i wr => ∃ (k : Nat) (c : Int), k ≤ n ∧ i = .int .i64 k ∧ q = .int .i64 c ∧ 0 ≤ c ∧ Hid (c = c0 + cntL (cs.take (k * 2))) ∧ Below w.heap.size w wr) (fun _ i _ => n - (intOf i).toNat)
  case atStart => exact ⟨0, c0, Nat.zero_le _, rfl, rfl, hc0, by simp [Hid, cntL], Below.refl _ _⟩
  case round =>
    obtain ⟨k, c, hk, rfl, rfl, hcp, HC, hb⟩ := hrel
    by_cases hlt : k < n
    case neg =>
      have HF : Hid (c = c0 + cntL cs) := by have := HC.out; rw [List.take_of_length_le (by rw [HL.out]; exact Nat.mul_le_mul_right _ (by omega))] at this; exact this
      go_wp2
      go_ret
      exact ⟨ret_int HF.out, hb⟩
    obtain ⟨b, off, rv, rfl, hbS, hcells, hrep⟩ := HV.out.row k hlt
    obtain ⟨i0, i1, hrow⟩ := conf_instr (conf_row n K.instr.fields cs k HCS.out hlt)
    replace hrow : rowAt 2 cs k = [.int i0, .int i1] := hrow
    have hct : cntL (cs.take ((k + 1) * 2)) = cntL (cs.take (k * 2)) + cntL [.int i0, .int i1] := by rw [take_rowAt, hrow, cntL_append]
    have hcr : cntL [.int i0, .int i1] = 1 + 1 := by simp [cntL, cntD]
    have hcb : c + cntL [.int i0, .int i1] ≤ 140737488351232 := by have h1 := cntL_take_le cs ((k + 1) * 2); rw [hct] at h1; have h2 := HC.out; omega
    rw [hcr] at hcb
    rw [rowAt_markL, hrow, ← HC.out] at hrep
    have hmr : markL [.int i0, .int i1] c = [.int (c), .int (c + 1)] := by simp [markL, markD, cntD]
    rw [hmr] at hrep
    simp only [RepVs, RepV] at hrep
    obtain ⟨z0, q0, rfl, rfl, z1, q1, rfl, rfl, rfl⟩ := hrep
    have c0 := hcells 0 (by simp)
    have c1 := hcells 1 (by simp)
    simp at c0 c1
    replace c0 := (hb.cell (p := ⟨b, off + k * 2, none⟩) (World.block_lt_of_cell? w _ c0)).trans c0
    replace c1 := (hb.cell (p := ⟨b, off + k * 2 + 1, none⟩) (World.block_lt_of_cell? w _ c1)).trans c1
    have HCT := Lib.hid hct
    have HCR := Lib.hid hcr
    clear hct hcr hmr hrow hcells
    have hi1 : (k : Int) < (n : Int) := by omega
    go_wp2
    go_roundw
    case rel => exact ⟨k + 1, _, by omega, by go_num, rfl, by omega, by show _ = _; rw [HCT.out, HCR.out]; have := HC.out; omega, hb⟩
    case measure => simp [intOf]; omega
end Go.Proofs.Ytgjcilainojlfaa
