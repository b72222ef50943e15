/-
  Marks on texts, numbers, truth values.
-/
import Derived.Test.YtfeldmpddkmidaaHMkTy
import Derived.Test.YtfeldmpddkmidaaConfS
namespace Go.Proofs.Ytfeldmpddkmidaa
open Go.RowKit
set_option linter.unusedVariables false
set_option linter.unusedSimpArgs false
def MarkstringS (d : D) : Prop := ∀ (v : Value) (fp : List Nat) (w : World) (c : Int), OwnV w d v fp → fp.Nodup → 0 ≤ c → c + cntD d ≤ 140737488351232 →
  Calls Try.prog 60 #[v, .int .i64 c] w fun e w' => e = .returned (.int .i64 (c + cntD d)) ∧ OwnV w' (markD d c) v fp ∧ Only fp w w'
def HeldstringS (d : D) : Prop := ∀ (v : Value) (S : Nat) (w : World) (c : Int), RepV w S (markD d c) v → S ≤ w.heap.size → 0 ≤ c → c + cntD d ≤ 140737488351232 →
  Calls Try.prog 61 #[v, .int .i64 c] w fun e w' => e = .returned (.int .i64 (c + cntD d)) ∧ Below w.heap.size w w'
def MarkintS (d : D) : Prop := ∀ (v : Value) (fp : List Nat) (w : World) (c : Int), OwnV w d v fp → fp.Nodup → 0 ≤ c → c + cntD d ≤ 140737488351232 →
  Calls Try.prog 40 #[v, .int .i64 c] w fun e w' => e = .returned (.int .i64 (c + cntD d)) ∧ OwnV w' (markD d c) v fp ∧ Only fp w w'
def HeldintS (d : D) : Prop := ∀ (v : Value) (S : Nat) (w : World) (c : Int), RepV w S (markD d c) v → S ≤ w.heap.size → 0 ≤ c → c + cntD d ≤ 140737488351232 →
  Calls Try.prog 41 #[v, .int .i64 c] w fun e w' => e = .returned (.int .i64 (c + cntD d)) ∧ Below w.heap.size w w'
set_option maxRecDepth 100000 in
set_option maxHeartbeats 4000000 in
theorem markstringS_all : ∀ d, Conf d (.sl .strs) → MarkstringS d := by
  refine D.ind (fun n h => by unfold Conf at h; cases h) (fun b h => by unfold Conf at h; cases h) (fun s h => by unfold Conf at h; cases h) fun sz n cs ih h => ?_
  unfold Conf at h
  obtain ⟨k0, e, hsz, hl, hm, hcs⟩ := h
  injection e with e
  subst e
  obtain rfl : sz = 1 := hsz
  intro v fp w c0 ho hnd hc0 hlim
  have hr := OwnV.rep _ _ _ ho (OwnV.lt _ _ _ ho)
  obtain ⟨a, cap, rfl, hnc, hcm, _, hsl⟩ := hr.slc
  have HSL : Hid (∀ k, k < n → ∃ b off, a = some ⟨b, off, none⟩) := Lib.hid fun k hk => by obtain ⟨b, off, _, h1, _⟩ := hsl k hk; exact ⟨b, off, h1⟩
  clear hsl hr
  unfold maxLen at hm hcm
  have hcn : cntD (.rows 1 n cs) = cntL cs := by simp only [cntD]
  have hmk : markD (.rows 1 n cs) c0 = .rows 1 n (markL cs c0) := by simp only [markD]
  rw [hcn] at hlim ⊢
  rw [hmk]
  have IH := Lib.hid ih
  have HCS := Lib.hid hcs
  have HL := Lib.hid hl
  have HO := Lib.hid ho
  clear ih hcs hl hcn hmk ho
  go_enter Try.func60, Try.ntmps60
  go_wp2
  go_loopw [1, 5] (fun q i wr => ∃ (k : Nat) (c : Int) (A : List D), k ≤ n ∧ i = .int .i64 k ∧ q = .int .i64 c ∧ 0 ≤ c ∧ Hid (c = c0 + cntL (cs.take (k * 1))) ∧ Hid (A = markL (cs.take (k * 1)) c0) ∧ Hid (OwnV wr (.rows 1 n (A ++ cs.drop (k * 1))) (.slice a n cap) fp) ∧ Only fp w wr) (fun _ i _ => n - (intOf i).toNat)
  case atStart => exact ⟨0, c0, [], Nat.zero_le _, rfl, rfl, hc0, by simp [Hid, cntL], by simp [Hid, markL], by simpa [Hid] using HO.out, Only.refl _ _⟩
  case round =>
    obtain ⟨k, c, A, hk, rfl, rfl, hcp, HC, HA, HO1, hW0⟩ := hrel
    by_cases hlt : k < n
    case neg =>
      have hT : cs.take (k * 1) = cs := List.take_of_length_le (by rw [HL.out]; exact Nat.mul_le_mul_right _ (by omega))
      have hDr : cs.drop (k * 1) = [] := List.drop_of_length_le (by rw [HL.out]; exact Nat.mul_le_mul_right _ (by omega))
      have HF : Hid (c = c0 + cntL cs) := by have := HC.out; rw [hT] at this; exact this
      have HO2 : Hid (OwnV wr (.rows 1 n (markL cs c0)) (.slice a n cap) fp) := by have h1 := HO1.out; rw [hDr, List.append_nil, HA.out, hT] at h1; exact h1
      clear hT hDr HO1 HA HC HO
      go_wp2
      go_ret
      exact ⟨ret_int HF.out, HO2.out, hW0⟩
    obtain ⟨b, off, rfl⟩ := HSL.out k hlt
    obtain ⟨s0, hrow⟩ := conf_strs (conf_row n K.strs.fields cs k HCS.out hlt)
    replace hrow : rowAt 1 cs k = [.str s0] := hrow
    have hAl : A.length = k * 1 := by rw [HA.out, markL_len, List.length_take, HL.out]; exact Nat.min_eq_left (Nat.mul_le_mul_right _ (by omega))
    obtain ⟨C, HCd⟩ : ∃ C, Hid (C = cs.drop ((k + 1) * 1)) := ⟨_, rfl⟩
    have hO0 : OwnV wr (.rows 1 n (A ++ ([.str s0] ++ C))) (.slice (some ⟨b, off, none⟩) n cap) fp := by
      have h1 := HO1.out; rw [drop_rowAt, hrow, ← HCd.out] at h1; exact h1
    have hct : cntL (cs.take ((k + 1) * 1)) = cntL (cs.take (k * 1)) + cntL [.str s0] := by rw [take_rowAt, hrow, cntL_append]
    have hcr : cntL [.str s0] = 1 := by simp [cntL, cntD]
    have hcb : c + cntL [.str s0] ≤ 140737488351232 := by have h1 := cntL_take_le cs ((k + 1) * 1); rw [hct] at h1; have h2 := HC.out; omega
    rw [hcr] at hcb
    have HCT := Lib.hid hct
    have HCR := Lib.hid hcr
    have HROW := Lib.hid hrow
    have HAL := Lib.hid hAl
    clear hct hcr hrow hAl HO1
    have hi1 : (k : Int) < (n : Int) := by omega
    obtain ⟨u0_0, f0_0, c0_0, z0_0, hbm0_0, ho0_0, hfn0_0, hsb0_0, hpt0_0⟩ := OwnV.mid hO0 hnd HAL.out 0 (by simp)
    simp only [Nat.add_zero, Nat.mul_one] at c0_0 z0_0
    have HPT0_0 := Lib.hid hpt0_0
    have HSB0_0 := Lib.hid hsb0_0
    clear hpt0_0 hsb0_0
    go_wp2_with fail
    have hOs0 : OwnV wr (.rows 1 n (A ++ ([.str s0] ++ C))) (.slice (some ⟨b, off, none⟩) n cap) fp := by have h := hO0; simpa only [Nat.mul_one, Nat.add_zero, List.set_cons_zero] using h
    have hWs0 : Only fp w wr := by
      repeat (refine Only.setCell ?_ hbm0_0 _)
      exact hW0
    refine (laws_markText (c) _ (by omega)).mono ?_
    rintro e w1 ⟨rfl, hb1⟩
    have hO1 := hOs0.later hb1
    have hW1 := hWs0.trans (Only.of_below hb1)
    obtain ⟨u0_1, f0_1, c0_1, z0_1, hbm1_0, ho0_1, hfn0_1, hsb0_1, hpt0_1⟩ := OwnV.mid hO1 hnd HAL.out 0 (by simp)
    simp only [Nat.add_zero, Nat.mul_one] at c0_1 z0_1
    have HPT0_1 := Lib.hid hpt0_1
    have HSB0_1 := Lib.hid hsb0_1
    clear hpt0_1 hsb0_1
    have hOs1 : OwnV (w1.setCell ⟨b, off + k, none⟩ (.string (mtF (c)))) (.rows 1 n (A ++ ([.str (mtF (c))] ++ C))) (.slice (some ⟨b, off, none⟩) n cap) fp := by have h := (hO1.put hnd HAL.out 0 (by simp) rfl (.str (mtF (c))) (.string (mtF (c))) (fun _ => own_str _ _)); simpa only [Nat.mul_one, Nat.add_zero, List.set_cons_zero] using h
    have HOS := Lib.hid hOs1
    have hbm : b ∈ fp := hbm0_0
    go_wp2
    go_roundw
    case rel =>
      refine ⟨k + 1, _, A ++ [.str (mtF (c))], by omega, by go_num, rfl, by omega, ?_, ?_, ?_, ?_⟩
      · show _ = _; rw [HCT.out, HCR.out]; have := HC.out; omega
      · show _ = _; rw [take_rowAt, HROW.out, markL_append, ← HA.out, ← HC.out]; simp [markL, markD, cntD]
      · show OwnV _ _ _ _; rw [List.append_assoc, ← HCd.out]; exact HOS.out
      · repeat (refine Only.setCell ?_ hbm _)
        exact hW1
    case measure => simp [intOf]; omega
set_option maxRecDepth 100000 in
set_option maxHeartbeats 4000000 in
theorem heldstringS_all : ∀ d, Conf d (.sl .strs) → HeldstringS d := by
  refine D.ind (fun n h => by unfold Conf at h; cases h) (fun b h => by unfold Conf at h; cases h) (fun s h => by unfold Conf at h; cases h) fun sz n cs ih h => ?_
  unfold Conf at h
  obtain ⟨k0, e, hsz, hl, hm, hcs⟩ := h
  injection e with e
  subst e
  obtain rfl : sz = 1 := hsz
  intro v S w c0 hv hS hc0 hlim
  have hcn : cntD (.rows 1 n cs) = cntL cs := by simp only [cntD]
  have hmk : markD (.rows 1 n cs) c0 = .rows 1 n (markL cs c0) := by simp only [markD]
  rw [hcn] at hlim ⊢
  rw [hmk] at hv
  obtain ⟨a, cap, rfl, hnc, hcm, _, hsl⟩ := hv.slc
  clear hsl
  unfold maxLen at hm hcm
  have IH := Lib.hid ih
  have HCS := Lib.hid hcs
  have HL := Lib.hid hl
  have HV := Lib.hid hv
  clear ih hcs hl hcn hmk hv
  go_enter Try.func61, Try.ntmps61
  go_wp2
  go_loopw [1, 5] (fun q i wr => ∃ (k : Nat) (c : Int), k ≤ n ∧ i = .int .i64 k ∧ q = .int .i64 c ∧ 0 ≤ c ∧ Hid (c = c0 + cntL (cs.take (k * 1))) ∧ Below w.heap.size w wr) (fun _ i _ => n - (intOf i).toNat)
  case atStart => exact ⟨0, c0, Nat.zero_le _, rfl, rfl, hc0, by simp [Hid, cntL], Below.refl _ _⟩
  case round =>
    obtain ⟨k, c, hk, rfl, rfl, hcp, HC, hb⟩ := hrel
    by_cases hlt : k < n
    case neg =>
      have HF : Hid (c = c0 + cntL cs) := by have := HC.out; rw [List.take_of_length_le (by rw [HL.out]; exact Nat.mul_le_mul_right _ (by omega))] at this; exact this
      go_wp2
      go_ret
      exact ⟨ret_int HF.out, hb⟩
    obtain ⟨b, off, rv, rfl, hbS, hcells, hrep⟩ := HV.out.row k hlt
    obtain ⟨s0, hrow⟩ := conf_strs (conf_row n K.strs.fields cs k HCS.out hlt)
    replace hrow : rowAt 1 cs k = [.str s0] := hrow
    have hct : cntL (cs.take ((k + 1) * 1)) = cntL (cs.take (k * 1)) + cntL [.str s0] := by rw [take_rowAt, hrow, cntL_append]
    have hcr : cntL [.str s0] = 1 := by simp [cntL, cntD]
    have hcb : c + cntL [.str s0] ≤ 140737488351232 := by have h1 := cntL_take_le cs ((k + 1) * 1); rw [hct] at h1; have h2 := HC.out; omega
    rw [hcr] at hcb
    rw [rowAt_markL, hrow, ← HC.out] at hrep
    have hmr : markL [.str s0] c = [.str (mtF (c))] := by simp [markL, markD, cntD]
    rw [hmr] at hrep
    simp only [RepVs, RepV] at hrep
    obtain ⟨z0, q0, rfl, rfl, rfl⟩ := hrep
    have c0 := hcells 0 (by simp)
    simp at c0
    replace c0 := (hb.cell (p := ⟨b, off + k, none⟩) (World.block_lt_of_cell? w _ c0)).trans c0
    have HCT := Lib.hid hct
    have HCR := Lib.hid hcr
    clear hct hcr hmr hrow hcells
    have hi1 : (k : Int) < (n : Int) := by omega
    go_wp2_with fail
    go_region_with (go_at_call 82; refine (laws_markText (c) _ (by omega)).mono ?_; rintro e w1 ⟨rfl, hb1⟩; have c0w1 := (hb1.cell (p := ⟨b, off + k, none⟩) (World.block_lt_of_cell? _ _ c0)).trans c0)
    all_goals
      have hB1 := ((hb).drew).trans (hb1.mono hb.size)
      have hne1 : ((mtF (c)).toList == (mtF (c)).toList) = true := by simp
      go_wp2
      go_roundw
      case rel => exact ⟨k + 1, _, by omega, by go_num, rfl, by omega, by show _ = _; rw [HCT.out, HCR.out]; have := HC.out; omega, hB1⟩
      case measure => simp [intOf]; omega
set_option maxRecDepth 100000 in
set_option maxHeartbeats 4000000 in
theorem markintS_all : ∀ d, Conf d (.sl .ints) → MarkintS d := by
  refine D.ind (fun n h => by unfold Conf at h; cases h) (fun b h => by unfold Conf at h; cases h) (fun s h => by unfold Conf at h; cases h) fun sz n cs ih h => ?_
  unfold Conf at h
  obtain ⟨k0, e, hsz, hl, hm, hcs⟩ := h
  injection e with e
  subst e
  obtain rfl : sz = 1 := hsz
  intro v fp w c0 ho hnd hc0 hlim
  have hr := OwnV.rep _ _ _ ho (OwnV.lt _ _ _ ho)
  obtain ⟨a, cap, rfl, hnc, hcm, _, hsl⟩ := hr.slc
  have HSL : Hid (∀ k, k < n → ∃ b off, a = some ⟨b, off, none⟩) := Lib.hid fun k hk => by obtain ⟨b, off, _, h1, _⟩ := hsl k hk; exact ⟨b, off, h1⟩
  clear hsl hr
  unfold maxLen at hm hcm
  have hcn : cntD (.rows 1 n cs) = cntL cs := by simp only [cntD]
  have hmk : markD (.rows 1 n cs) c0 = .rows 1 n (markL cs c0) := by simp only [markD]
  rw [hcn] at hlim ⊢
  rw [hmk]
  have IH := Lib.hid ih
  have HCS := Lib.hid hcs
  have HL := Lib.hid hl
  have HO := Lib.hid ho
  clear ih hcs hl hcn hmk ho
  go_enter Try.func40, Try.ntmps40
  go_wp2
  go_loopw [1, 5] (fun q i wr => ∃ (k : Nat) (c : Int) (A : List D), k ≤ n ∧ i = .int .i64 k ∧ q = .int .i64 c ∧ 0 ≤ c ∧ Hid (c = c0 + cntL (cs.take (k * 1))) ∧ Hid (A = markL (cs.take (k * 1)) c0) ∧ Hid (OwnV wr (.rows 1 n (A ++ cs.drop (k * 1))) (.slice a n cap) fp) ∧ Only fp w wr) (fun _ i _ => n - (intOf i).toNat)
  case atStart => exact ⟨0, c0, [], Nat.zero_le _, rfl, rfl, hc0, by simp [Hid, cntL], by simp [Hid, markL], by simpa [Hid] using HO.out, Only.refl _ _⟩
  case round =>
    obtain ⟨k, c, A, hk, rfl, rfl, hcp, HC, HA, HO1, hW0⟩ := hrel
    by_cases hlt : k < n
    case neg =>
      have hT : cs.take (k * 1) = cs := List.take_of_length_le (by rw [HL.out]; exact Nat.mul_le_mul_right _ (by omega))
      have hDr : cs.drop (k * 1) = [] := List.drop_of_length_le (by rw [HL.out]; exact Nat.mul_le_mul_right _ (by omega))
      have HF : Hid (c = c0 + cntL cs) := by have := HC.out; rw [hT] at this; exact this
      have HO2 : Hid (OwnV wr (.rows 1 n (markL cs c0)) (.slice a n cap) fp) := by have h1 := HO1.out; rw [hDr, List.append_nil, HA.out, hT] at h1; exact h1
      clear hT hDr HO1 HA HC HO
      go_wp2
      go_ret
      exact ⟨ret_int HF.out, HO2.out, hW0⟩
    obtain ⟨b, off, rfl⟩ := HSL.out k hlt
    obtain ⟨i0, hrow⟩ := conf_ints (conf_row n K.ints.fields cs k HCS.out hlt)
    replace hrow : rowAt 1 cs k = [.int i0] := hrow
    have hAl : A.length = k * 1 := by rw [HA.out, markL_len, List.length_take, HL.out]; exact Nat.min_eq_left (Nat.mul_le_mul_right _ (by omega))
    obtain ⟨C, HCd⟩ : ∃ C, Hid (C = cs.drop ((k + 1) * 1)) := ⟨_, rfl⟩
    have hO0 : OwnV wr (.rows 1 n (A ++ ([.int i0] ++ C))) (.slice (some ⟨b, off, none⟩) n cap) fp := by
      have h1 := HO1.out; rw [drop_rowAt, hrow, ← HCd.out] at h1; exact h1
    have hct : cntL (cs.take ((k + 1) * 1)) = cntL (cs.take (k * 1)) + cntL [.int i0] := by rw [take_rowAt, hrow, cntL_append]
    have hcr : cntL [.int i0] = 1 := by simp [cntL, cntD]
    have hcb : c + cntL [.int i0] ≤ 140737488351232 := by have h1 := cntL_take_le cs ((k + 1) * 1); rw [hct] at h1; have h2 := HC.out; omega
    rw [hcr] at hcb
    have HCT := Lib.hid hct
    have HCR := Lib.hid hcr
    have HROW := Lib.hid hrow
    have HAL := Lib.hid hAl
    clear hct hcr hrow hAl HO1
    have hi1 : (k : Int) < (n : Int) := by omega
    obtain ⟨u0_0, f0_0, c0_0, z0_0, hbm0_0, ho0_0, hfn0_0, hsb0_0, hpt0_0⟩ := OwnV.mid hO0 hnd HAL.out 0 (by simp)
    simp only [Nat.add_zero, Nat.mul_one] at c0_0 z0_0
    have HPT0_0 := Lib.hid hpt0_0
    have HSB0_0 := Lib.hid hsb0_0
    clear hpt0_0 hsb0_0
    have hOs0 : OwnV (wr.setCell ⟨b, off + k, none⟩ (.int .i64 (c))) (.rows 1 n (A ++ ([.int (c)] ++ C))) (.slice (some ⟨b, off, none⟩) n cap) fp := by have h := (hO0.put hnd HAL.out 0 (by simp) rfl (.int (c)) (.int .i64 (c)) (fun _ => own_int _ _)); simpa only [Nat.mul_one, Nat.add_zero, List.set_cons_zero] using h
    have HOS := Lib.hid hOs0
    have hbm : b ∈ fp := hbm0_0
    go_wp2
    go_roundw
    case rel =>
      refine ⟨k + 1, _, A ++ [.int (c)], by omega, by go_num, rfl, by omega, ?_, ?_, ?_, ?_⟩
      · show _ = _; rw [HCT.out, HCR.out]; have := HC.out; omega
      · show _ = _; rw [take_rowAt, HROW.out, markL_append, ← HA.out, ← HC.out]; simp [markL, markD, cntD]
      · show OwnV _ _ _ _; rw [List.append_assoc, ← HCd.out]; exact HOS.out
      · repeat (refine Only.setCell ?_ hbm _)
        exact hW0
    case measure => simp [intOf]; omega
set_option maxRecDepth 100000 in
set_option maxHeartbeats 4000000 in
theorem heldintS_all : ∀ d, Conf d (.sl .ints) → HeldintS d := by
  refine D.ind (fun n h => by unfold Conf at h; cases h) (fun b h => by unfold Conf at h; cases h) (fun s h => by unfold Conf at h; cases h) fun sz n cs ih h => ?_
  unfold Conf at h
  obtain ⟨k0, e, hsz, hl, hm, hcs⟩ := h
  injection e with e
  subst e
  obtain rfl : sz = 1 := hsz
  intro v S w c0 hv hS hc0 hlim
  have hcn : cntD (.rows 1 n cs) = cntL cs := by simp only [cntD]
  have hmk : markD (.rows 1 n cs) c0 = .rows 1 n (markL cs c0) := by simp only [markD]
  rw [hcn] at hlim ⊢
  rw [hmk] at hv
  obtain ⟨a, cap, rfl, hnc, hcm, _, hsl⟩ := hv.slc
  clear hsl
  unfold maxLen at hm hcm
  have IH := Lib.hid ih
  have HCS := Lib.hid hcs
  have HL := Lib.hid hl
  have HV := Lib.hid hv
  clear ih hcs hl hcn hmk hv
  go_enter Try.func41, Try.ntmps41
  go_wp2
  go_loopw [1, 5] (fun q i wr => ∃ (k : Nat) (c : Int), k ≤ n ∧ i = .int .i64 k ∧ q = .int .i64 c ∧ 0 ≤ c ∧ Hid (c = c0 + cntL (cs.take (k * 1))) ∧ Below w.heap.size w wr) (fun _ i _ => n - (intOf i).toNat)
  case atStart => exact ⟨0, c0, Nat.zero_le _, rfl, rfl, hc0, by simp [Hid, cntL], Below.refl _ _⟩
  case round =>
    obtain ⟨k, c, hk, rfl, rfl, hcp, HC, hb⟩ := hrel
    by_cases hlt : k < n
    case neg =>
      have HF : Hid (c = c0 + cntL cs) := by have := HC.out; rw [List.take_of_length_le (by rw [HL.out]; exact Nat.mul_le_mul_right _ (by omega))] at this; exact this
      go_wp2
      go_ret
      exact ⟨ret_int HF.out, hb⟩
    obtain ⟨b, off, rv, rfl, hbS, hcells, hrep⟩ := HV.out.row k hlt
    obtain ⟨i0, hrow⟩ := conf_ints (conf_row n K.ints.fields cs k HCS.out hlt)
    replace hrow : rowAt 1 cs k = [.int i0] := hrow
    have hct : cntL (cs.take ((k + 1) * 1)) = cntL (cs.take (k * 1)) + cntL [.int i0] := by rw [take_rowAt, hrow, cntL_append]
    have hcr : cntL [.int i0] = 1 := by simp [cntL, cntD]
    have hcb : c + cntL [.int i0] ≤ 140737488351232 := by have h1 := cntL_take_le cs ((k + 1) * 1); rw [hct] at h1; have h2 := HC.out; omega
    rw [hcr] at hcb
    rw [rowAt_markL, hrow, ← HC.out] at hrep
    have hmr : markL [.int i0] c = [.int (c)] := by simp [markL, markD, cntD]
    rw [hmr] at hrep
    simp only [RepVs, RepV] at hrep
    obtain ⟨z0, q0, rfl, rfl, rfl⟩ := hrep
    have c0 := hcells 0 (by simp)
    simp at c0
    replace c0 := (hb.cell (p := ⟨b, off + k, none⟩) (World.block_lt_of_cell? w _ c0)).trans c0
    have HCT := Lib.hid hct
    have HCR := Lib.hid hcr
    clear hct hcr hmr hrow hcells
    have hi1 : (k : Int) < (n : Int) := by omega
    go_wp2
    go_roundw
    case rel => exact ⟨k + 1, _, by omega, by go_num, rfl, by omega, by show _ = _; rw [HCT.out, HCR.out]; have := HC.out; omega, hb⟩
    case measure => simp [intOf]; omega
end Go.Proofs.Ytfeldmpddkmidaa
