/-
  Rows of one cell.
-/
import Derived.Test.YtlmnfemobajmlaaDoorConf
import Derived.Test.YtlmnfemobajmlaaDoorHMkTy
import Derived.Test.YtlmnfemobajmlaaDoorUMark
import Derived.Test.YtlmnfemobajmlaaDoorStrs
namespace Go.Proofs.YtlmnfemobajmlaaDoor
open Go.RowKit
set_option linter.unusedVariables false
set_option linter.unusedSimpArgs false
theorem conf_strs {ds : List D} (h : ConfL ds K.strs.fields) : ∃ s0, ds = [.str s0] := by
  have hl := ConfL.len _ _ h
  match ds, hl with
  | [x0], _ =>
    have h0 : Conf x0 .str := ConfL.mem _ _ h 0 (by simp) (by simp [K.fields])
    obtain ⟨s0, rfl⟩ := conf_str h0
    exact ⟨s0, rfl⟩
theorem conf_ints {ds : List D} (h : ConfL ds K.ints.fields) : ∃ i0, ds = [.int i0] := by
  have hl := ConfL.len _ _ h
  match ds, hl with
  | [x0], _ =>
    have h0 : Conf x0 .int := ConfL.mem _ _ h 0 (by simp) (by simp [K.fields])
    obtain ⟨i0, rfl⟩ := conf_int h0
    exact ⟨i0, rfl⟩
theorem conf_bools {ds : List D} (h : ConfL ds K.bools.fields) : ∃ b0, ds = [.bool b0] := by
  have hl := ConfL.len _ _ h
  match ds, hl with
  | [x0], _ =>
    have h0 : Conf x0 .bool := ConfL.mem _ _ h 0 (by simp) (by simp [K.fields])
    obtain ⟨b0, rfl⟩ := conf_bool h0
    exact ⟨b0, rfl⟩
end Go.Proofs.YtlmnfemobajmlaaDoor
/-
  Marks on texts, numbers, truth values.
-/
namespace Go.Proofs.YtlmnfemobajmlaaDoor
open Go.RowKit
set_option linter.unusedVariables false
set_option linter.unusedSimpArgs false
def MarkintS (d : D) : Prop := ∀ (v : Value) (fp : List Nat) (w : World) (c : Int), OwnV w d v fp → fp.Nodup → 0 ≤ c → c + cntD d ≤ 140737488351232 →
  Calls Tryd.prog 11 #[v, .int .i64 c] w fun e w' => e = .returned (.int .i64 (c + cntD d)) ∧ OwnV w' (markD d c) v fp ∧ Only fp w w'
set_option maxRecDepth 100000 in
set_option maxHeartbeats 4000000 in
theorem markintS_all : ∀ d, Conf d (.sl .ints) → MarkintS d := by
  refine D.ind (fun d hd h => by rcases hd with rfl | ⟨_, rfl⟩ <;> (unfold Conf at h; exact h.elim)) (fun n h => by unfold Conf at h; cases h) (fun b h => by unfold Conf at h; cases h) (fun s h => by unfold Conf at h; cases h) fun sz n cs ih h => ?_
  unfold Conf at h
  obtain ⟨k0, e, hsz, hl, hm, hcs⟩ := h
  injection e with e
  subst e
  obtain rfl : sz = 1 := hsz
  intro v fp w c0 ho hnd hc0 hlim
  have hr := OwnV.rep _ _ _ ho (OwnV.lt _ _ _ ho)
  obtain ⟨a, cap, rfl, hnc, hcm, _, hsl⟩ := hr.slc
  have HSL : Hid (∀ k, k < n → ∃ b off, a = some ⟨b, off, none⟩) := Lib.hid fun k hk => by obtain ⟨b, off, _, h1, _⟩ := hsl k hk; exact ⟨b, off, h1⟩
  clear hsl hr
  unfold maxLen at hm hcm
  have hcn : cntD (.rows 1 n cs) = cntL cs := by simp only [cntD]
  have hmk : markD (.rows 1 n cs) c0 = .rows 1 n (markL cs c0) := by simp only [markD]
  rw [hcn] at hlim ⊢
  rw [hmk]
  have IH := Lib.hid ih
  have HCS := Lib.hid hcs
  have HL := Lib.hid hl
  have HO := Lib.hid ho
  clear ih hcs hl hcn hmk ho
  go_enter Tryd.func11, Tryd.ntmps11
  go_wp2
  go_loopw [1, 5] (fun q i wr => ∃ (k : Nat) (c : Int) (A : List D), k ≤ n ∧ i = .int .i64 k ∧ q = .int .i64 c ∧ 0 ≤ c ∧ Hid (c = c0 + cntL (cs.take (k * 1))) ∧ Hid (A = markL (cs.take (k * 1)) c0) ∧ Hid (OwnV wr (.rows 1 n (A ++ cs.drop (k * 1))) (.slice a n cap) fp) ∧ Only fp w wr) (fun _ i _ => n - (intOf i).toNat)
  case atStart => exact ⟨0, c0, [], Nat.zero_le _, rfl, rfl, hc0, by simp [Hid, cntL], by simp [Hid, markL], by simpa [Hid] using HO.out, Only.refl _ _⟩
  case round =>
    obtain ⟨k, c, A, hk, rfl, rfl, hcp, HC, HA, HO1, hW0⟩ := hrel
    by_cases hlt : k < n
    case neg =>
      have hT : cs.take (k * 1) = cs := List.take_of_length_le (by rw [HL.out]; exact Nat.mul_le_mul_right _ (by omega))
      have hDr : cs.drop (k * 1) = [] := List.drop_of_length_le (by rw [HL.out]; exact Nat.mul_le_mul_right _ (by omega))
      have HF : Hid (c = c0 + cntL cs) := by have := HC.out; rw [hT] at this; exact this
      have HO2 : Hid (OwnV wr (.rows 1 n (markL cs c0)) (.slice a n cap) fp) := by have h1 := HO1.out; rw [hDr, List.append_nil, HA.out, hT] at h1; exact h1
      clear hT hDr HO1 HA HC HO
      go_wp2
      go_ret
      exact ⟨ret_int HF.out, HO2.out, hW0⟩
    obtain ⟨b, off, rfl⟩ := HSL.out k hlt
    obtain ⟨i0, hrow⟩ := conf_ints (conf_row n K.ints.fields cs k HCS.out hlt)
    replace hrow : rowAt 1 cs k = [.int i0] := hrow
    have hAl : A.length = k * 1 := by rw [HA.out, markL_len, List.length_take, HL.out]; exact Nat.min_eq_left (Nat.mul_le_mul_right _ (by omega))
    obtain ⟨C, HCd⟩ : ∃ C, Hid (C = cs.drop ((k + 1) * 1)) := ⟨_, rfl⟩
    have hO0 : OwnV wr (.rows 1 n (A ++ ([.int i0] ++ C))) (.slice (some ⟨b, off, none⟩) n cap) fp := by
      have h1 := HO1.out; rw [drop_rowAt, hrow, ← HCd.out] at h1; exact h1
    have hct : cntL (cs.take ((k + 1) * 1)) = cntL (cs.take (k * 1)) + cntL [.int i0] := by rw [take_rowAt, hrow, cntL_append]
    have hcr : cntL [.int i0] = 1 := by simp [cntL, cntD]
    have hcb : c + cntL [.int i0] ≤ 140737488351232 := by have h1 := cntL_take_le cs ((k + 1) * 1); rw [hct] at h1; have h2 := HC.out; omega
    rw [hcr] at hcb
    have HCT := Lib.hid hct
    have HCR := Lib.hid hcr
    have HROW := Lib.hid hrow
    have HAL := Lib.hid hAl
    clear hct hcr hrow hAl HO1
    have hi1 : (k : Int) < (n : Int) := by omega
    obtain ⟨u0_0, f0_0, c0_0, z0_0, hbm0_0, ho0_0, hfn0_0, hsb0_0, hpt0_0⟩ := OwnV.mid hO0 hnd HAL.out 0 (by simp)
    simp only [Nat.add_zero, Nat.mul_one] at c0_0 z0_0
    have HPT0_0 := Lib.hid hpt0_0
    have HSB0_0 := Lib.hid hsb0_0
    clear hpt0_0 hsb0_0
    have hOs0 : OwnV (wr.setCell ⟨b, off + k, none⟩ (.int .i64 (c))) (.rows 1 n (A ++ ([.int (c)] ++ C))) (.slice (some ⟨b, off, none⟩) n cap) fp := by have h := (hO0.put hnd HAL.out 0 (by simp) rfl (.int (c)) (.int .i64 (c)) (fun _ => own_int _ _)); simpa only [Nat.mul_one, Nat.add_zero, List.set_cons_zero] using h
    have HOS := Lib.hid hOs0
    have hbm : b ∈ fp := hbm0_0
    go_wp2
    go_roundw
    case rel =>
      refine ⟨k + 1, _, A ++ [.int (c)], by omega, by go_num, rfl, by omega, ?_, ?_, ?_, ?_⟩
      · show _ = _; rw [HCT.out, HCR.out]; have := HC.out; omega
      · show _ = _; rw [take_rowAt, HROW.out, markL_append, ← HA.out, ← HC.out]; simp [markL, markD, cntD]
      · show OwnV _ _ _ _; rw [List.append_assoc, ← HCd.out]; exact HOS.out
      · repeat (refine Only.setCell ?_ hbm _)
        exact hW0
    case measure => simp [intOf]; omega
end Go.Proofs.YtlmnfemobajmlaaDoor
/-
  Slices of texts, numbers.
-/
namespace Go.Proofs.YtlmnfemobajmlaaDoor
open Go.RowKit
set_option linter.unusedVariables false
theorem U_toIntS {d : D} {v : Value} {w : World} (g : Giv w .ints d v) :
    Calls Tryd.prog 7 #[v] w fun e w' => ∃ a n c, e = .returned (.slice a n c) ∧ Fresh w' w.heap.size d (.slice a n c) ∧ Below w.heap.size w w' := by
  obtain ⟨hc, _, hz, hr⟩ := g
  obtain ⟨ns, rfl⟩ := ints_of hc
  refine (laws_toIntS ns _ w.heap.size w hr (Nat.le_refl _) (by have := szD_ints ns; omega)).mono ?_
  rintro e w' ⟨u, rfl, hf, hb⟩
  have h := hf.rep
  obtain ⟨a, n, c, rfl⟩ := rep_sl hc h
  exact ⟨a, n, c, rfl, hf, hb⟩
theorem U_eqsIntS {d : D} {v u : Value} {w : World} (hc : Conf d (.sl .ints)) (hr : RepV w w.heap.size d v) (hr' : RepV w w.heap.size d u) :
    Calls Tryd.prog 10 #[v, u] w fun e w' => e = .returned (.bool true) ∧ Below w.heap.size w w' := by
  obtain ⟨ns, rfl⟩ := ints_of hc
  have h := laws_eqIntS ns ns _ _ w.heap.size w.heap.size w hr hr'
  rwa [show eqI ns ns = true by unfold eqI; simp] at h
theorem UR_markIntS {d : D} {v : Value} {lo hi : Nat} {w : World} {c : Int} (hc : Conf d (.sl .ints)) (ho : OwnR w lo hi [d] [v]) (h0 : 0 ≤ c) (h1 : c + cntD d ≤ 140737488351232) :
    Calls Tryd.prog 11 #[v, .int .i64 c] w fun e w' => e = .returned (.int .i64 (c + cntD d)) ∧ OwnR w' lo hi [markD d c] [v] ∧ Chg lo hi w w' := by
  obtain ⟨fp, ho, hn, hr⟩ := own_one ho
  refine (markintS_all _ hc v fp w c ho hn h0 h1).mono ?_
  rintro e w' ⟨rfl, ho', hw⟩
  exact ⟨rfl, one_own ho' hn hr, hw.chg hr⟩
end Go.Proofs.YtlmnfemobajmlaaDoor
