/-
  Marks: the laws' own markTypeS.
-/
import Derived.Test.YtgjcilainojlfaaMark
import Derived.Test.YtgjcilainojlfaaRng
import Derived.Deep.RegionWith
namespace Go.Proofs.Ytgjcilainojlfaa
open Go.RowKit
set_option linter.unusedVariables false
def MarkTypeS (d : D) : Prop := ∀ (v : Value) (fp : List Nat) (w : World) (c : Int), OwnV w d v fp → fp.Nodup → 0 ≤ c → c + cntD d ≤ 140737488351232 →
  Calls Try.prog 67 #[v, .int .i64 c] w fun e w' => e = .returned (.int .i64 (c + cntD d)) ∧ OwnV w' (markD d c) v fp ∧ Only fp w w'
def MarkTermS (d : D) : Prop := ∀ (v : Value) (fp : List Nat) (w : World) (c : Int), OwnV w d v fp → fp.Nodup → 0 ≤ c → c + cntD d ≤ 140737488351232 →
  Calls Try.prog 37 #[v, .int .i64 c] w fun e w' => e = .returned (.int .i64 (c + cntD d)) ∧ OwnV w' (markD d c) v fp ∧ Only fp w w'
def MarkInstrS (d : D) : Prop := ∀ (v : Value) (fp : List Nat) (w : World) (c : Int), OwnV w d v fp → fp.Nodup → 0 ≤ c → c + cntD d ≤ 140737488351232 →
  Calls Try.prog 23 #[v, .int .i64 c] w fun e w' => e = .returned (.int .i64 (c + cntD d)) ∧ OwnV w' (markD d c) v fp ∧ Only fp w w'
def HeldInstrS (d : D) : Prop := ∀ (v : Value) (S : Nat) (w : World) (c : Int), RepV w S (markD d c) v → S ≤ w.heap.size → 0 ≤ c → c + cntD d ≤ 140737488351232 →
  Calls Try.prog 24 #[v, .int .i64 c] w fun e w' => e = .returned (.int .i64 (c + cntD d)) ∧ Below w.heap.size w w'
set_option maxRecDepth 100000 in
set_option maxHeartbeats 4000000 in
theorem markTypeS_all : ∀ d, Conf d (.sl .ty) → MarkTypeS d := by
  refine D.ind (fun d hd h => by rcases hd with rfl | ⟨_, rfl⟩ <;> (unfold Conf at h; exact h.elim)) (fun n h => by unfold Conf at h; cases h) (fun b h => by unfold Conf at h; cases h) (fun s h => by unfold Conf at h; cases h) fun sz n cs ih h => ?_
  unfold Conf at h
  obtain ⟨k0, e, hsz, hl, hm, hcs⟩ := h
  injection e with e
  subst e
  obtain rfl : sz = 2 := hsz
  intro v fp w c0 ho hnd hc0 hlim
  have hr := OwnV.rep _ _ _ ho (OwnV.lt _ _ _ ho)
  obtain ⟨a, cap, rfl, hnc, hcm, _, hsl⟩ := hr.slc
  have HSL : Hid (∀ k, k < n → ∃ b off, a = some ⟨b, off, none⟩) := Lib.hid fun k hk => by obtain ⟨b, off, _, h1, _⟩ := hsl k hk; exact ⟨b, off, h1⟩
  clear hsl hr
  unfold maxLen at hm hcm
  have hcn : cntD (.rows 2 n cs) = cntL cs := by simp only [cntD]
  have hmk : markD (.rows 2 n cs) c0 = .rows 2 n (markL cs c0) := by simp only [markD]
  rw [hcn] at hlim ⊢
  rw [hmk]
  have IH := Lib.hid ih
  have HCS := Lib.hid hcs
  have HL := Lib.hid hl
  have HO := Lib.hid ho
  clear ih hcs hl hcn hmk ho
  go_enter Try.func67, Try.ntmps67
  go_wp2
  go_loopw [1, 5] (fun q i wr => ∃ (k : Nat) (c : Int) (A : List D), k ≤ n ∧ i = .int .i64 k ∧ q = .int .i64 c ∧ 0 ≤ c ∧ Hid (c = c0 + cntL (cs.take (k * 2))) ∧ Hid (A = markL (cs.take (k * 2)) c0) ∧ Hid (OwnV wr (.rows 2 n (A ++ cs.drop (k * 2))) (.slice a n cap) fp) ∧ Only fp w wr) (fun _ i _ => n - (intOf i).toNat)
  case atStart => exact ⟨0, c0, [], Nat.zero_le _, rfl, rfl, hc0, by simp [Hid, cntL], by simp [Hid, markL], by simpa [Hid] using HO.out, Only.refl _ _⟩
  case round =>
    obtain ⟨k, c, A, hk, rfl, rfl, hcp, HC, HA, HO1, hW0⟩ := hrel
    by_cases hlt : k < n
    case neg =>
      have hT : cs.take (k * 2) = cs := List.take_of_length_le (by rw [HL.out]; exact Nat.mul_le_mul_right _ (by omega))
      have hDr : cs.drop (k * 2) = [] := List.drop_of_length_le (by rw [HL.out]; exact Nat.mul_le_mul_right _ (by omega))
      have HF : Hid (c = c0 + cntL cs) := by have := HC.out; rw [hT] at this; exact this
      have HO2 : Hid (OwnV wr (.rows 2 n (markL cs c0)) (.slice a n cap) fp) := by have h1 := HO1.out; rw [hDr, List.append_nil, HA.out, hT] at h1; exact h1
      clear hT hDr HO1 HA HC HO
      go_wp2
      go_ret
      exact ⟨ret_int HF.out, HO2.out, hW0⟩
    obtain ⟨b, off, rfl⟩ := HSL.out k hlt
    obtain ⟨i0, d1, hrow, cf1⟩ := conf_ty (conf_row n K.ty.fields cs k HCS.out hlt)
    replace hrow : rowAt 2 cs k = [.int i0, d1] := hrow
    have hAl : A.length = k * 2 := by rw [HA.out, markL_len, List.length_take, HL.out]; exact Nat.min_eq_left (Nat.mul_le_mul_right _ (by omega))
    obtain ⟨C, HCd⟩ : ∃ C, Hid (C = cs.drop ((k + 1) * 2)) := ⟨_, rfl⟩
    have hO0 : OwnV wr (.rows 2 n (A ++ ([.int i0, d1] ++ C))) (.slice (some ⟨b, off, none⟩) n cap) fp := by
      have h1 := HO1.out; rw [drop_rowAt, hrow, ← HCd.out] at h1; exact h1
    have hct : cntL (cs.take ((k + 1) * 2)) = cntL (cs.take (k * 2)) + cntL [.int i0, d1] := by rw [take_rowAt, hrow, cntL_append]
    have hcr : cntL [.int i0, d1] = 1 + cntD d1 := by simp [cntL, cntD]
    have hcb : c + cntL [.int i0, d1] ≤ 140737488351232 := by have h1 := cntL_take_le cs ((k + 1) * 2); rw [hct] at h1; have h2 := HC.out; omega
    rw [hcr] at hcb
    have HCT := Lib.hid hct
    have HCR := Lib.hid hcr
    have HROW := Lib.hid hrow
    have HAL := Lib.hid hAl
    have HD1 := Lib.hid (IH.out d1 (rowAt_mem 2 k cs d1 (by rw [hrow]; simp)) cf1)
    clear hct hcr hrow hAl HO1 cf1
    have hi1 : (k : Int) < (n : Int) := by omega
    obtain ⟨u0_0, f0_0, c0_0, z0_0, hbm0_0, ho0_0, hfn0_0, hsb0_0, hpt0_0⟩ := OwnV.mid hO0 hnd HAL.out 0 (by simp)
    simp only [Nat.add_zero] at c0_0 z0_0
    have HPT0_0 := Lib.hid hpt0_0
    have HSB0_0 := Lib.hid hsb0_0
    clear hpt0_0 hsb0_0
    obtain ⟨u1_0, f1_0, c1_0, z1_0, hbm0_1, ho1_0, hfn1_0, hsb1_0, hpt1_0⟩ := OwnV.mid hO0 hnd HAL.out 1 (by simp)
    have HPT1_0 := Lib.hid hpt1_0
    have HSB1_0 := Lib.hid hsb1_0
    clear hpt1_0 hsb1_0
    go_wp2_with fail
    have hOs0 : OwnV (wr.setCell ⟨b, off + k * 2, none⟩ (.int .i64 (c))) (.rows 2 n (A ++ ([.int (c), d1] ++ C))) (.slice (some ⟨b, off, none⟩) n cap) fp := (hO0.put hnd HAL.out 0 (by simp) rfl (.int (c)) (.int .i64 (c)) (fun _ => own_int _ _))
    have hWs0 : Only fp w (wr.setCell ⟨b, off + k * 2, none⟩ (.int .i64 (c))) := by
      repeat (refine Only.setCell ?_ hbm0_1 _)
      exact hW0
    obtain ⟨us1, fs1, cs1, zs1, _, hos1, hfs1, hss1, hps1⟩ := OwnV.mid hOs0 hnd HAL.out 1 (by simp)
    obtain rfl : us1 = u1_0 := by
      have h := cs1; simp [go_sem, c1_0] at h; exact h.symm
    refine (HD1.out us1 fs1 _ _ hos1 hfs1 (by omega) (by omega)).mono ?_
    rintro e w1 ⟨rfl, hmk1, how1⟩
    have hO1 : OwnV w1 (.rows 2 n (A ++ ([.int (c), markD d1 (c + 1)] ++ C))) (.slice (some ⟨b, off, none⟩) n cap) fp := hps1 _ _ how1 hmk1
    have hW1 := hWs0.trans (how1.mono hss1)
    have hOs1 : OwnV w1 (.rows 2 n (A ++ ([.int (c), markD d1 (c + 1)] ++ C))) (.slice (some ⟨b, off, none⟩) n cap) fp := hO1
    have HOS := Lib.hid hOs1
    have hbm : b ∈ fp := hbm0_0
    go_wp2
    go_roundw
    case rel =>
      refine ⟨k + 1, _, A ++ [.int (c), markD d1 (c + 1)], by omega, by go_num, rfl, by omega, ?_, ?_, ?_, ?_⟩
      · show _ = _; rw [HCT.out, HCR.out]; have := HC.out; omega
      · show _ = _; rw [take_rowAt, HROW.out, markL_append, ← HA.out, ← HC.out]; simp [markL, markD, cntD]
      · show OwnV _ _ _ _; rw [List.append_assoc, ← HCd.out]; exact HOS.out
      · repeat (refine Only.setCell ?_ hbm _)
        exact hW1
    case measure => simp [intOf]; omega
end Go.Proofs.Ytgjcilainojlfaa
