/-
  Marks on terms.
-/
import Derived.Test.YtgjcilainojlfaaHMkTy
namespace Go.Proofs.Ytgjcilainojlfaa
open Go.RowKit
set_option linter.unusedVariables false
set_option maxRecDepth 100000 in
set_option maxHeartbeats 4000000 in
theorem markTermS_all : ∀ d, Conf d (.sl .tm) → MarkTermS d := by
  refine D.ind (fun d hd h => by rcases hd with rfl | ⟨_, rfl⟩ <;> (unfold Conf at h; exact h.elim)) (fun n h => by unfold Conf at h; cases h) (fun b h => by unfold Conf at h; cases h) (fun s h => by unfold Conf at h; cases h) fun sz n cs ih h => ?_
  unfold Conf at h
  obtain ⟨k0, e, hsz, hl, hm, hcs⟩ := h
  injection e with e
  subst e
  obtain rfl : sz = 9 := hsz
  intro v fp w c0 ho hnd hc0 hlim
  have hr := OwnV.rep _ _ _ ho (OwnV.lt _ _ _ ho)
  obtain ⟨a, cap, rfl, hnc, hcm, _, hsl⟩ := hr.slc
  have HSL : Hid (∀ k, k < n → ∃ b off, a = some ⟨b, off, none⟩) := Lib.hid fun k hk => by obtain ⟨b, off, _, h1, _⟩ := hsl k hk; exact ⟨b, off, h1⟩
  clear hsl hr
  unfold maxLen at hm hcm
  have hcn : cntD (.rows 9 n cs) = cntL cs := by simp only [cntD]
  have hmk : markD (.rows 9 n cs) c0 = .rows 9 n (markL cs c0) := by simp only [markD]
  rw [hcn] at hlim ⊢
  rw [hmk]
  have IH := Lib.hid ih
  have HCS := Lib.hid hcs
  have HL := Lib.hid hl
  have HO := Lib.hid ho
  clear ih hcs hl hcn hmk ho
  go_enter Try.func37, Try.ntmps37
  go_wp2
  go_loopw [1, 5] (fun q i wr => ∃ (k : Nat) (c : Int) (A : List D), k ≤ n ∧ i = .int .i64 k ∧ q = .int .i64 c ∧ 0 ≤ c ∧ Hid (c = c0 + cntL (cs.take (k * 9))) ∧ Hid (A = markL (cs.take (k * 9)) c0) ∧ Hid (OwnV wr (.rows 9 n (A ++ cs.drop (k * 9))) (.slice a n cap) fp) ∧ Only fp w wr) (fun _ i _ => n - (intOf i).toNat)
  case atStart => exact ⟨0, c0, [], Nat.zero_le _, rfl, rfl, hc0, by simp [Hid, cntL], by simp [Hid, markL], by simpa [Hid] using HO.out, Only.refl _ _⟩
  case round =>
    obtain ⟨k, c, A, hk, rfl, rfl, hcp, HC, HA, HO1, hW0⟩ := hrel
    by_cases hlt : k < n
    case neg =>
      have hT : cs.take (k * 9) = cs := List.take_of_length_le (by rw [HL.out]; exact Nat.mul_le_mul_right _ (by omega))
      have hDr : cs.drop (k * 9) = [] := List.drop_of_length_le (by rw [HL.out]; exact Nat.mul_le_mul_right _ (by omega))
      have HF : Hid (c = c0 + cntL cs) := by have := HC.out; rw [hT] at this; exact this
      have HO2 : Hid (OwnV wr (.rows 9 n (markL cs c0)) (.slice a n cap) fp) := by have h1 := HO1.out; rw [hDr, List.append_nil, HA.out, hT] at h1; exact h1
      clear hT hDr HO1 HA HC HO
      go_wp2
      go_ret
      exact ⟨ret_int HF.out, HO2.out, hW0⟩
    obtain ⟨b, off, rfl⟩ := HSL.out k hlt
    obtain ⟨i0, s1, s2, i3, i4, d5, i6, d7, d8, hrow, cf5, cf7, cf8⟩ := conf_tm (conf_row n K.tm.fields cs k HCS.out hlt)
    replace hrow : rowAt 9 cs k = [.int i0, .str s1, .str s2, .int i3, .int i4, d5, .int i6, d7, d8] := hrow
    have hAl : A.length = k * 9 := by rw [HA.out, markL_len, List.length_take, HL.out]; exact Nat.min_eq_left (Nat.mul_le_mul_right _ (by omega))
    obtain ⟨C, HCd⟩ : ∃ C, Hid (C = cs.drop ((k + 1) * 9)) := ⟨_, rfl⟩
    have hO0 : OwnV wr (.rows 9 n (A ++ ([.int i0, .str s1, .str s2, .int i3, .int i4, d5, .int i6, d7, d8] ++ C))) (.slice (some ⟨b, off, none⟩) n cap) fp := by
      have h1 := HO1.out; rw [drop_rowAt, hrow, ← HCd.out] at h1; exact h1
    have hct : cntL (cs.take ((k + 1) * 9)) = cntL (cs.take (k * 9)) + cntL [.int i0, .str s1, .str s2, .int i3, .int i4, d5, .int i6, d7, d8] := by rw [take_rowAt, hrow, cntL_append]
    have hcr : cntL [.int i0, .str s1, .str s2, .int i3, .int i4, d5, .int i6, d7, d8] = 1 + 1 + 1 + 1 + 1 + cntD d5 + 1 + cntD d7 + cntD d8 := by simp [cntL, cntD]; omega
    have hcb : c + cntL [.int i0, .str s1, .str s2, .int i3, .int i4, d5, .int i6, d7, d8] ≤ 140737488351232 := by have h1 := cntL_take_le cs ((k + 1) * 9); rw [hct] at h1; have h2 := HC.out; omega
    rw [hcr] at hcb
    have HCT := Lib.hid hct
    have HCR := Lib.hid hcr
    have HROW := Lib.hid hrow
    have HAL := Lib.hid hAl
    have HD5 := Lib.hid (markTypeS_all d5 cf5)
    have HD7 := Lib.hid (markTypeS_all d7 cf7)
    have HD8 := Lib.hid (IH.out d8 (rowAt_mem 9 k cs d8 (by rw [hrow]; simp)) cf8)
    clear hct hcr hrow hAl HO1 cf5 cf7 cf8
    have hi1 : (k : Int) < (n : Int) := by omega
    obtain ⟨u0_0, f0_0, c0_0, z0_0, hbm0_0, ho0_0, hfn0_0, hsb0_0, hpt0_0⟩ := OwnV.mid hO0 hnd HAL.out 0 (by simp)
    simp only [Nat.add_zero] at c0_0 z0_0
    have HPT0_0 := Lib.hid hpt0_0
    have HSB0_0 := Lib.hid hsb0_0
    clear hpt0_0 hsb0_0
    obtain ⟨u1_0, f1_0, c1_0, z1_0, hbm0_1, ho1_0, hfn1_0, hsb1_0, hpt1_0⟩ := OwnV.mid hO0 hnd HAL.out 1 (by simp)
    have HPT1_0 := Lib.hid hpt1_0
    have HSB1_0 := Lib.hid hsb1_0
    clear hpt1_0 hsb1_0
    obtain ⟨u2_0, f2_0, c2_0, z2_0, hbm0_2, ho2_0, hfn2_0, hsb2_0, hpt2_0⟩ := OwnV.mid hO0 hnd HAL.out 2 (by simp)
    have HPT2_0 := Lib.hid hpt2_0
    have HSB2_0 := Lib.hid hsb2_0
    clear hpt2_0 hsb2_0
    obtain ⟨u3_0, f3_0, c3_0, z3_0, hbm0_3, ho3_0, hfn3_0, hsb3_0, hpt3_0⟩ := OwnV.mid hO0 hnd HAL.out 3 (by simp)
    have HPT3_0 := Lib.hid hpt3_0
    have HSB3_0 := Lib.hid hsb3_0
    clear hpt3_0 hsb3_0
    obtain ⟨u4_0, f4_0, c4_0, z4_0, hbm0_4, ho4_0, hfn4_0, hsb4_0, hpt4_0⟩ := OwnV.mid hO0 hnd HAL.out 4 (by simp)
    have HPT4_0 := Lib.hid hpt4_0
    have HSB4_0 := Lib.hid hsb4_0
    clear hpt4_0 hsb4_0
    obtain ⟨u5_0, f5_0, c5_0, z5_0, hbm0_5, ho5_0, hfn5_0, hsb5_0, hpt5_0⟩ := OwnV.mid hO0 hnd HAL.out 5 (by simp)
    have HPT5_0 := Lib.hid hpt5_0
    have HSB5_0 := Lib.hid hsb5_0
    clear hpt5_0 hsb5_0
    obtain ⟨u6_0, f6_0, c6_0, z6_0, hbm0_6, ho6_0, hfn6_0, hsb6_0, hpt6_0⟩ := OwnV.mid hO0 hnd HAL.out 6 (by simp)
    have HPT6_0 := Lib.hid hpt6_0
    have HSB6_0 := Lib.hid hsb6_0
    clear hpt6_0 hsb6_0
    obtain ⟨u7_0, f7_0, c7_0, z7_0, hbm0_7, ho7_0, hfn7_0, hsb7_0, hpt7_0⟩ := OwnV.mid hO0 hnd HAL.out 7 (by simp)
    have HPT7_0 := Lib.hid hpt7_0
    have HSB7_0 := Lib.hid hsb7_0
    clear hpt7_0 hsb7_0
    obtain ⟨u8_0, f8_0, c8_0, z8_0, hbm0_8, ho8_0, hfn8_0, hsb8_0, hpt8_0⟩ := OwnV.mid hO0 hnd HAL.out 8 (by simp)
    have HPT8_0 := Lib.hid hpt8_0
    have HSB8_0 := Lib.hid hsb8_0
    clear hpt8_0 hsb8_0
    go_wp2_with fail
    have hOs0 : OwnV (wr.setCell ⟨b, off + k * 9, none⟩ (.int .i64 (c))) (.rows 9 n (A ++ ([.int (c), .str s1, .str s2, .int i3, .int i4, d5, .int i6, d7, d8] ++ C))) (.slice (some ⟨b, off, none⟩) n cap) fp := (hO0.put hnd HAL.out 0 (by simp) rfl (.int (c)) (.int .i64 (c)) (fun _ => own_int _ _))
    have hWs0 : Only fp w (wr.setCell ⟨b, off + k * 9, none⟩ (.int .i64 (c))) := by
      repeat (refine Only.setCell ?_ hbm0_1 _)
      exact hW0
    refine (laws_markText (c + 1) _ (by omega)).mono ?_
    rintro e w1 ⟨rfl, hb1⟩
    have hO1 := hOs0.later hb1
    have hW1 := hWs0.trans (Only.of_below hb1)
    obtain ⟨u1_1, f1_1, c1_1, z1_1, hbm1_1, ho1_1, hfn1_1, hsb1_1, hpt1_1⟩ := OwnV.mid hO1 hnd HAL.out 1 (by simp)
    have HPT1_1 := Lib.hid hpt1_1
    have HSB1_1 := Lib.hid hsb1_1
    clear hpt1_1 hsb1_1
    obtain ⟨u2_1, f2_1, c2_1, z2_1, hbm1_2, ho2_1, hfn2_1, hsb2_1, hpt2_1⟩ := OwnV.mid hO1 hnd HAL.out 2 (by simp)
    have HPT2_1 := Lib.hid hpt2_1
    have HSB2_1 := Lib.hid hsb2_1
    clear hpt2_1 hsb2_1
    obtain ⟨u3_1, f3_1, c3_1, z3_1, hbm1_3, ho3_1, hfn3_1, hsb3_1, hpt3_1⟩ := OwnV.mid hO1 hnd HAL.out 3 (by simp)
    have HPT3_1 := Lib.hid hpt3_1
    have HSB3_1 := Lib.hid hsb3_1
    clear hpt3_1 hsb3_1
    obtain ⟨u4_1, f4_1, c4_1, z4_1, hbm1_4, ho4_1, hfn4_1, hsb4_1, hpt4_1⟩ := OwnV.mid hO1 hnd HAL.out 4 (by simp)
    have HPT4_1 := Lib.hid hpt4_1
    have HSB4_1 := Lib.hid hsb4_1
    clear hpt4_1 hsb4_1
    obtain ⟨u5_1, f5_1, c5_1, z5_1, hbm1_5, ho5_1, hfn5_1, hsb5_1, hpt5_1⟩ := OwnV.mid hO1 hnd HAL.out 5 (by simp)
    have HPT5_1 := Lib.hid hpt5_1
    have HSB5_1 := Lib.hid hsb5_1
    clear hpt5_1 hsb5_1
    obtain ⟨u6_1, f6_1, c6_1, z6_1, hbm1_6, ho6_1, hfn6_1, hsb6_1, hpt6_1⟩ := OwnV.mid hO1 hnd HAL.out 6 (by simp)
    have HPT6_1 := Lib.hid hpt6_1
    have HSB6_1 := Lib.hid hsb6_1
    clear hpt6_1 hsb6_1
    obtain ⟨u7_1, f7_1, c7_1, z7_1, hbm1_7, ho7_1, hfn7_1, hsb7_1, hpt7_1⟩ := OwnV.mid hO1 hnd HAL.out 7 (by simp)
    have HPT7_1 := Lib.hid hpt7_1
    have HSB7_1 := Lib.hid hsb7_1
    clear hpt7_1 hsb7_1
    obtain ⟨u8_1, f8_1, c8_1, z8_1, hbm1_8, ho8_1, hfn8_1, hsb8_1, hpt8_1⟩ := OwnV.mid hO1 hnd HAL.out 8 (by simp)
    have HPT8_1 := Lib.hid hpt8_1
    have HSB8_1 := Lib.hid hsb8_1
    clear hpt8_1 hsb8_1
    go_wp2_with fail
    have hOs1 : OwnV (w1.setCell ⟨b, off + k * 9 + 1, none⟩ (.string (mtF (c + 1)))) (.rows 9 n (A ++ ([.int (c), .str (mtF (c + 1)), .str s2, .int i3, .int i4, d5, .int i6, d7, d8] ++ C))) (.slice (some ⟨b, off, none⟩) n cap) fp := (hO1.put hnd HAL.out 1 (by simp) rfl (.str (mtF (c + 1))) (.string (mtF (c + 1))) (fun _ => own_str _ _))
    have hWs1 : Only fp w (w1.setCell ⟨b, off + k * 9 + 1, none⟩ (.string (mtF (c + 1)))) := by
      repeat (refine Only.setCell ?_ hbm1_2 _)
      exact hW1
    refine (laws_markText (c + 1 + 1) _ (by omega)).mono ?_
    rintro e w2 ⟨rfl, hb2⟩
    have hO2 := hOs1.later hb2
    have hW2 := hWs1.trans (Only.of_below hb2)
    obtain ⟨u2_2, f2_2, c2_2, z2_2, hbm2_2, ho2_2, hfn2_2, hsb2_2, hpt2_2⟩ := OwnV.mid hO2 hnd HAL.out 2 (by simp)
    have HPT2_2 := Lib.hid hpt2_2
    have HSB2_2 := Lib.hid hsb2_2
    clear hpt2_2 hsb2_2
    obtain ⟨u3_2, f3_2, c3_2, z3_2, hbm2_3, ho3_2, hfn3_2, hsb3_2, hpt3_2⟩ := OwnV.mid hO2 hnd HAL.out 3 (by simp)
    have HPT3_2 := Lib.hid hpt3_2
    have HSB3_2 := Lib.hid hsb3_2
    clear hpt3_2 hsb3_2
    obtain ⟨u4_2, f4_2, c4_2, z4_2, hbm2_4, ho4_2, hfn4_2, hsb4_2, hpt4_2⟩ := OwnV.mid hO2 hnd HAL.out 4 (by simp)
    have HPT4_2 := Lib.hid hpt4_2
    have HSB4_2 := Lib.hid hsb4_2
    clear hpt4_2 hsb4_2
    obtain ⟨u5_2, f5_2, c5_2, z5_2, hbm2_5, ho5_2, hfn5_2, hsb5_2, hpt5_2⟩ := OwnV.mid hO2 hnd HAL.out 5 (by simp)
    have HPT5_2 := Lib.hid hpt5_2
    have HSB5_2 := Lib.hid hsb5_2
    clear hpt5_2 hsb5_2
    obtain ⟨u6_2, f6_2, c6_2, z6_2, hbm2_6, ho6_2, hfn6_2, hsb6_2, hpt6_2⟩ := OwnV.mid hO2 hnd HAL.out 6 (by simp)
    have HPT6_2 := Lib.hid hpt6_2
    have HSB6_2 := Lib.hid hsb6_2
    clear hpt6_2 hsb6_2
    obtain ⟨u7_2, f7_2, c7_2, z7_2, hbm2_7, ho7_2, hfn7_2, hsb7_2, hpt7_2⟩ := OwnV.mid hO2 hnd HAL.out 7 (by simp)
    have HPT7_2 := Lib.hid hpt7_2
    have HSB7_2 := Lib.hid hsb7_2
    clear hpt7_2 hsb7_2
    obtain ⟨u8_2, f8_2, c8_2, z8_2, hbm2_8, ho8_2, hfn8_2, hsb8_2, hpt8_2⟩ := OwnV.mid hO2 hnd HAL.out 8 (by simp)
    have HPT8_2 := Lib.hid hpt8_2
    have HSB8_2 := Lib.hid hsb8_2
    clear hpt8_2 hsb8_2
    go_wp2_with fail
    have hOs2 : OwnV (((w2.setCell ⟨b, off + k * 9 + 2, none⟩ (.string (mtF (c + 1 + 1)))).setCell ⟨b, off + k * 9 + 3, none⟩ (.int .i64 (c + 1 + 1 + 1))).setCell ⟨b, off + k * 9 + 4, none⟩ (.int .i64 (c + 1 + 1 + 1 + 1))) (.rows 9 n (A ++ ([.int (c), .str (mtF (c + 1)), .str (mtF (c + 1 + 1)), .int (c + 1 + 1 + 1), .int (c + 1 + 1 + 1 + 1), d5, .int i6, d7, d8] ++ C))) (.slice (some ⟨b, off, none⟩) n cap) fp := (((hO2.put hnd HAL.out 2 (by simp) rfl (.str (mtF (c + 1 + 1))) (.string (mtF (c + 1 + 1))) (fun _ => own_str _ _)).put hnd HAL.out 3 (by simp) rfl (.int (c + 1 + 1 + 1)) (.int .i64 (c + 1 + 1 + 1)) (fun _ => own_int _ _)).put hnd HAL.out 4 (by simp) rfl (.int (c + 1 + 1 + 1 + 1)) (.int .i64 (c + 1 + 1 + 1 + 1)) (fun _ => own_int _ _))
    have hWs2 : Only fp w (((w2.setCell ⟨b, off + k * 9 + 2, none⟩ (.string (mtF (c + 1 + 1)))).setCell ⟨b, off + k * 9 + 3, none⟩ (.int .i64 (c + 1 + 1 + 1))).setCell ⟨b, off + k * 9 + 4, none⟩ (.int .i64 (c + 1 + 1 + 1 + 1))) := by
      repeat (refine Only.setCell ?_ hbm2_5 _)
      exact hW2
    obtain ⟨us5, fs5, cs5, zs5, _, hos5, hfs5, hss5, hps5⟩ := OwnV.mid hOs2 hnd HAL.out 5 (by simp)
    obtain rfl : us5 = u5_2 := by
      have h := cs5; simp [go_sem, c5_2] at h; exact h.symm
    refine (HD5.out us5 fs5 _ _ hos5 hfs5 (by omega) (by omega)).mono ?_
    rintro e w3 ⟨rfl, hmk3, how3⟩
    have hO3 : OwnV w3 (.rows 9 n (A ++ ([.int (c), .str (mtF (c + 1)), .str (mtF (c + 1 + 1)), .int (c + 1 + 1 + 1), .int (c + 1 + 1 + 1 + 1), markD d5 (c + 1 + 1 + 1 + 1 + 1), .int i6, d7, d8] ++ C))) (.slice (some ⟨b, off, none⟩) n cap) fp := hps5 _ _ how3 hmk3
    have hW3 := hWs2.trans (how3.mono hss5)
    obtain ⟨u6_3, f6_3, c6_3, z6_3, hbm3_6, ho6_3, hfn6_3, hsb6_3, hpt6_3⟩ := OwnV.mid hO3 hnd HAL.out 6 (by simp)
    have HPT6_3 := Lib.hid hpt6_3
    have HSB6_3 := Lib.hid hsb6_3
    clear hpt6_3 hsb6_3
    obtain ⟨u7_3, f7_3, c7_3, z7_3, hbm3_7, ho7_3, hfn7_3, hsb7_3, hpt7_3⟩ := OwnV.mid hO3 hnd HAL.out 7 (by simp)
    have HPT7_3 := Lib.hid hpt7_3
    have HSB7_3 := Lib.hid hsb7_3
    clear hpt7_3 hsb7_3
    obtain ⟨u8_3, f8_3, c8_3, z8_3, hbm3_8, ho8_3, hfn8_3, hsb8_3, hpt8_3⟩ := OwnV.mid hO3 hnd HAL.out 8 (by simp)
    have HPT8_3 := Lib.hid hpt8_3
    have HSB8_3 := Lib.hid hsb8_3
    clear hpt8_3 hsb8_3
    go_wp2_with fail
    have hOs3 : OwnV (w3.setCell ⟨b, off + k * 9 + 6, none⟩ (.int .i64 (c + 1 + 1 + 1 + 1 + 1 + (cntD d5 : Int)))) (.rows 9 n (A ++ ([.int (c), .str (mtF (c + 1)), .str (mtF (c + 1 + 1)), .int (c + 1 + 1 + 1), .int (c + 1 + 1 + 1 + 1), markD d5 (c + 1 + 1 + 1 + 1 + 1), .int (c + 1 + 1 + 1 + 1 + 1 + (cntD d5 : Int)), d7, d8] ++ C))) (.slice (some ⟨b, off, none⟩) n cap) fp := (hO3.put hnd HAL.out 6 (by simp) rfl (.int (c + 1 + 1 + 1 + 1 + 1 + (cntD d5 : Int))) (.int .i64 (c + 1 + 1 + 1 + 1 + 1 + (cntD d5 : Int))) (fun _ => own_int _ _))
    have hWs3 : Only fp w (w3.setCell ⟨b, off + k * 9 + 6, none⟩ (.int .i64 (c + 1 + 1 + 1 + 1 + 1 + (cntD d5 : Int)))) := by
      repeat (refine Only.setCell ?_ hbm3_7 _)
      exact hW3
    obtain ⟨us7, fs7, cs7, zs7, _, hos7, hfs7, hss7, hps7⟩ := OwnV.mid hOs3 hnd HAL.out 7 (by simp)
    obtain rfl : us7 = u7_3 := by
      have h := cs7; simp [go_sem, c7_3] at h; exact h.symm
    refine (HD7.out us7 fs7 _ _ hos7 hfs7 (by omega) (by omega)).mono ?_
    rintro e w4 ⟨rfl, hmk4, how4⟩
    have hO4 : OwnV w4 (.rows 9 n (A ++ ([.int (c), .str (mtF (c + 1)), .str (mtF (c + 1 + 1)), .int (c + 1 + 1 + 1), .int (c + 1 + 1 + 1 + 1), markD d5 (c + 1 + 1 + 1 + 1 + 1), .int (c + 1 + 1 + 1 + 1 + 1 + (cntD d5 : Int)), markD d7 (c + 1 + 1 + 1 + 1 + 1 + (cntD d5 : Int) + 1), d8] ++ C))) (.slice (some ⟨b, off, none⟩) n cap) fp := hps7 _ _ how4 hmk4
    have hW4 := hWs3.trans (how4.mono hss7)
    obtain ⟨u8_4, f8_4, c8_4, z8_4, hbm4_8, ho8_4, hfn8_4, hsb8_4, hpt8_4⟩ := OwnV.mid hO4 hnd HAL.out 8 (by simp)
    have HPT8_4 := Lib.hid hpt8_4
    have HSB8_4 := Lib.hid hsb8_4
    clear hpt8_4 hsb8_4
    go_wp2_with fail
    have hOs4 : OwnV w4 (.rows 9 n (A ++ ([.int (c), .str (mtF (c + 1)), .str (mtF (c + 1 + 1)), .int (c + 1 + 1 + 1), .int (c + 1 + 1 + 1 + 1), markD d5 (c + 1 + 1 + 1 + 1 + 1), .int (c + 1 + 1 + 1 + 1 + 1 + (cntD d5 : Int)), markD d7 (c + 1 + 1 + 1 + 1 + 1 + (cntD d5 : Int) + 1), d8] ++ C))) (.slice (some ⟨b, off, none⟩) n cap) fp := hO4
    have hWs4 : Only fp w w4 := by
      repeat (refine Only.setCell ?_ hbm4_8 _)
      exact hW4
    obtain ⟨us8, fs8, cs8, zs8, _, hos8, hfs8, hss8, hps8⟩ := OwnV.mid hOs4 hnd HAL.out 8 (by simp)
    obtain rfl : us8 = u8_4 := by
      have h := cs8; rw [c8_4] at h; injection h with h; exact h.symm
    refine (HD8.out us8 fs8 _ _ hos8 hfs8 (by omega) (by omega)).mono ?_
    rintro e w5 ⟨rfl, hmk5, how5⟩
    have hO5 : OwnV w5 (.rows 9 n (A ++ ([.int (c), .str (mtF (c + 1)), .str (mtF (c + 1 + 1)), .int (c + 1 + 1 + 1), .int (c + 1 + 1 + 1 + 1), markD d5 (c + 1 + 1 + 1 + 1 + 1), .int (c + 1 + 1 + 1 + 1 + 1 + (cntD d5 : Int)), markD d7 (c + 1 + 1 + 1 + 1 + 1 + (cntD d5 : Int) + 1), markD d8 (c + 1 + 1 + 1 + 1 + 1 + (cntD d5 : Int) + 1 + (cntD d7 : Int))] ++ C))) (.slice (some ⟨b, off, none⟩) n cap) fp := hps8 _ _ how5 hmk5
    have hW5 := hWs4.trans (how5.mono hss8)
    have hOs5 : OwnV w5 (.rows 9 n (A ++ ([.int (c), .str (mtF (c + 1)), .str (mtF (c + 1 + 1)), .int (c + 1 + 1 + 1), .int (c + 1 + 1 + 1 + 1), markD d5 (c + 1 + 1 + 1 + 1 + 1), .int (c + 1 + 1 + 1 + 1 + 1 + (cntD d5 : Int)), markD d7 (c + 1 + 1 + 1 + 1 + 1 + (cntD d5 : Int) + 1), markD d8 (c + 1 + 1 + 1 + 1 + 1 + (cntD d5 : Int) + 1 + (cntD d7 : Int))] ++ C))) (.slice (some ⟨b, off, none⟩) n cap) fp := hO5
    have HOS := Lib.hid hOs5
    have hbm : b ∈ fp := hbm0_0
    go_wp2
    go_roundw
    case rel =>
      refine ⟨k + 1, _, A ++ [.int (c), .str (mtF (c + 1)), .str (mtF (c + 1 + 1)), .int (c + 1 + 1 + 1), .int (c + 1 + 1 + 1 + 1), markD d5 (c + 1 + 1 + 1 + 1 + 1), .int (c + 1 + 1 + 1 + 1 + 1 + (cntD d5 : Int)), markD d7 (c + 1 + 1 + 1 + 1 + 1 + (cntD d5 : Int) + 1), markD d8 (c + 1 + 1 + 1 + 1 + 1 + (cntD d5 : Int) + 1 + (cntD d7 : Int))], by omega, by go_num, rfl, by omega, ?_, ?_, ?_, ?_⟩
      · show _ = _; rw [HCT.out, HCR.out]; have := HC.out; omega
      · show _ = _; rw [take_rowAt, HROW.out, markL_append, ← HA.out, ← HC.out]; simp [markL, markD, cntD]
      · show OwnV _ _ _ _; rw [List.append_assoc, ← HCd.out]; exact HOS.out
      · repeat (refine Only.setCell ?_ hbm _)
        exact hW5
    case measure => simp [intOf]; omega
end Go.Proofs.Ytgjcilainojlfaa
