/-
  Sizes of terms that came in.
-/
import Derived.Test.YtpoemjeelbmpkaaGreatHSzTy
import Derived.Test.YtpoemjeelbmpkaaGreatHToTy
import Derived.Test.YtpoemjeelbmpkaaGreatHEqTy
namespace Go.Proofs.YtpoemjeelbmpkaaGreat
open Go.RowKit
set_option linter.unusedVariables false
set_option maxHeartbeats 1000000 in
theorem szTerm_of (i0 : Int) (s1 : ByteArray) (s2 : ByteArray) (i3 : Int) (i4 : Int) (d5 : D) (i6 : Int) (d7 : D) (d8 : D) (v5 : Value) (v7 : Value) (v8 : Value) (S : Nat) (w : World) (left : Int) (hs5 : SzTypeS d5) (hv5 : RepV w S d5 v5) (hs7 : SzTypeS d7) (hv7 : RepV w S d7 v7) (hs8 : SzTermS d8) (hv8 : RepV w S d8 v8) (hS : S ≤ w.heap.size) (h0 : 0 ≤ left) (h1 : left ≤ 1048576) (hl1 : s1.size ≤ maxLen) (hl2 : s2.size ≤ maxLen) :
    Calls Tryz.prog 4 #[.agg #[.int .i64 i0, .string s1, .string s2, .int .i64 i3, .int .i64 i4, v5, .int .i64 i6, v7, v8], .int .i64 left] w fun e w' => e = .returned (.int .i64 (szR left (szL [.int i0, .str s1, .str s2, .int i3, .int i4, d5, .int i6, d7, d8]))) ∧ Below w.heap.size w w' := by
  have hsum : szL [.int i0, .str s1, .str s2, .int i3, .int i4, d5, .int i6, d7, d8] = s1.size + s2.size + szD d5 + szD d7 + szD d8 := by simp [szL, szD]; omega
  have HSUM := Lib.hid hsum
  clear hsum
  unfold maxLen at hl1
  unfold maxLen at hl2
  have HS5 := Lib.hid hs5
  clear hs5
  have HS7 := Lib.hid hs7
  clear hs7
  have HS8 := Lib.hid hs8
  clear hs8
  have hB0 : Below w.heap.size w (w.alloc (.cells #[.int .i64 i0, .string s1, .string s2, .int .i64 i3, .int .i64 i4, v5, .int .i64 i6, v7, v8] 27)) := (Below.refl _ _).alloc (Nat.le_refl _) _
  have hX0 : Blk (w.alloc (.cells #[.int .i64 i0, .string s1, .string s2, .int .i64 i3, .int .i64 i4, v5, .int .i64 i6, v7, v8] 27)) w.heap.size 27 #[.int .i64 i0, .string s1, .string s2, .int .i64 i3, .int .i64 i4, v5, .int .i64 i6, v7, v8] := Blk.new _ _ _
  by_cases hc0 : (s1.size : Int) ≤ left
  case neg =>
    have HF := Lib.hid (szR_out left (szL [.int i0, .str s1, .str s2, .int i3, .int i4, d5, .int i6, d7, d8]) (by rw [HSUM.out]; omega))
    have hng : left - (s1.size : Int) < 0 := by omega
    go_enter Tryz.func4, Tryz.ntmps4
    go_wp2
    go_ret
    exact ⟨by rw [HF.out]; rfl, hB0⟩
  have hn0 : ¬ left - (s1.size : Int) < 0 := by omega
  by_cases hc1 : (s2.size : Int) ≤ left - (s1.size : Int)
  case neg =>
    have HF := Lib.hid (szR_out left (szL [.int i0, .str s1, .str s2, .int i3, .int i4, d5, .int i6, d7, d8]) (by rw [HSUM.out]; omega))
    have hng : left - (s1.size : Int) - (s2.size : Int) < 0 := by omega
    go_enter Tryz.func4, Tryz.ntmps4
    go_wp2
    go_ret
    exact ⟨by rw [HF.out]; rfl, hB0⟩
  have hn1 : ¬ left - (s1.size : Int) - (s2.size : Int) < 0 := by omega
  go_enter Tryz.func4, Tryz.ntmps4
  go_wp2_with fail
  refine (szType_of i4 d5 v5 S _ _ HS5.out (hv5.later (hB0.mono hS) (Nat.le_refl _)) (Nat.le_trans hS hB0.size) (by omega) (by omega) ).mono ?_
  rintro e w3 ⟨rfl, hb3⟩
  have hB3 := hB0.trans (hb3.mono hB0.size)
  have hX3 := hX0.below hb3 hX0.lt
  have y3_6 := hX3.cell 6
  simp at y3_6
  have y3_7 := hX3.cell 7
  simp at y3_7
  have y3_8 := hX3.cell 8
  simp at y3_8
  have hq2 : szL [.int i4, d5] = szD d5 := by simp [szL, szD]
  rw [hq2]
  clear hq2
  by_cases hc2 : ((szD d5) : Int) ≤ left - (s1.size : Int) - (s2.size : Int)
  case neg =>
    have HF := Lib.hid (szR_out left (szL [.int i0, .str s1, .str s2, .int i3, .int i4, d5, .int i6, d7, d8]) (by rw [HSUM.out]; omega))
    have HE := Lib.hid (szR_out (left - (s1.size : Int) - (s2.size : Int)) (szD d5) (by omega))
    rw [HE.out]
    go_wp2
    go_ret
    exact ⟨by rw [HF.out]; rfl, hB3⟩
  have HE2 := Lib.hid (szR_in (left - (s1.size : Int) - (s2.size : Int)) (szD d5) hc2)
  rw [HE2.out]
  have hn2 : ¬ left - (s1.size : Int) - (s2.size : Int) - ((szD d5) : Int) < 0 := by omega
  go_wp2_with fail
  refine (szType_of i6 d7 v7 S _ _ HS7.out (hv7.later (hB3.mono hS) (Nat.le_refl _)) (Nat.le_trans hS hB3.size) (by omega) (by omega) ).mono ?_
  rintro e w4 ⟨rfl, hb4⟩
  have hB4 := hB3.trans (hb4.mono hB3.size)
  have hX4 := hX3.below hb4 hX3.lt
  have y4_8 := hX4.cell 8
  simp at y4_8
  have hq3 : szL [.int i6, d7] = szD d7 := by simp [szL, szD]
  rw [hq3]
  clear hq3
  by_cases hc3 : ((szD d7) : Int) ≤ left - (s1.size : Int) - (s2.size : Int) - (szD d5 : Int)
  case neg =>
    have HF := Lib.hid (szR_out left (szL [.int i0, .str s1, .str s2, .int i3, .int i4, d5, .int i6, d7, d8]) (by rw [HSUM.out]; omega))
    have HE := Lib.hid (szR_out (left - (s1.size : Int) - (s2.size : Int) - (szD d5 : Int)) (szD d7) (by omega))
    rw [HE.out]
    go_wp2
    go_ret
    exact ⟨by rw [HF.out]; rfl, hB4⟩
  have HE3 := Lib.hid (szR_in (left - (s1.size : Int) - (s2.size : Int) - (szD d5 : Int)) (szD d7) hc3)
  rw [HE3.out]
  have hn3 : ¬ left - (s1.size : Int) - (s2.size : Int) - (szD d5 : Int) - ((szD d7) : Int) < 0 := by omega
  go_wp2_with fail
  refine (HS8.out v8 S _ _ (hv8.later (hB4.mono hS) (Nat.le_refl _)) (Nat.le_trans hS hB4.size) (by omega) (by omega)).mono ?_
  rintro e w5 ⟨rfl, hb5⟩
  have hB5 := hB4.trans (hb5.mono hB4.size)
  have hX5 := hX4.below hb5 hX4.lt
  by_cases hc4 : ((szD d8) : Int) ≤ left - (s1.size : Int) - (s2.size : Int) - (szD d5 : Int) - (szD d7 : Int)
  case neg =>
    have HF := Lib.hid (szR_out left (szL [.int i0, .str s1, .str s2, .int i3, .int i4, d5, .int i6, d7, d8]) (by rw [HSUM.out]; omega))
    have HE := Lib.hid (szR_out (left - (s1.size : Int) - (s2.size : Int) - (szD d5 : Int) - (szD d7 : Int)) (szD d8) (by omega))
    rw [HE.out]
    go_wp2
    go_ret
    exact ⟨by rw [HF.out]; rfl, hB5⟩
  have HE4 := Lib.hid (szR_in (left - (s1.size : Int) - (s2.size : Int) - (szD d5 : Int) - (szD d7 : Int)) (szD d8) hc4)
  rw [HE4.out]
  have hn4 : ¬ left - (s1.size : Int) - (s2.size : Int) - (szD d5 : Int) - (szD d7 : Int) - ((szD d8) : Int) < 0 := by omega
  have HF := Lib.hid (szR_in left (szL [.int i0, .str s1, .str s2, .int i3, .int i4, d5, .int i6, d7, d8]) (by rw [HSUM.out]; omega))
  go_wp2
  go_ret
  exact ⟨ret_int (by rw [HF.out, HSUM.out] <;> omega), hB5⟩
set_option maxHeartbeats 1000000 in
theorem szTermS_all : ∀ d, Conf d (.sl .tm) → StrB d → SzTermS d := by
  refine D.ind (fun d hd h => by rcases hd with rfl | ⟨_, rfl⟩ <;> (unfold Conf at h; exact h.elim)) (fun n h => by unfold Conf at h; cases h) (fun b h => by unfold Conf at h; cases h) (fun s h => by unfold Conf at h; cases h) fun sz n cs ih h hsb => ?_
  unfold Conf at h
  obtain ⟨k0, e, hsz, hl, hm, hcs⟩ := h
  injection e with e
  subst e
  obtain rfl : sz = 9 := hsz
  intro v S w left hv hS h0 h1
  obtain ⟨a, cap, rfl, hnc, hcm, _, hsl⟩ := hv.slc
  clear hsl
  unfold maxLen at hm hcm
  have hszn : szD (.rows 9 n cs) = n + szL cs := by simp only [szD]
  by_cases hn : (n : Int) ≤ left
  case neg =>
    have HE := Lib.hid (show szR left (szD (.rows 9 n cs)) = -1 from szR_out _ _ (by rw [hszn]; omega))
    have hneg : left - (n : Int) < 0 := by omega
    clear hszn ih hcs
    go_enter Tryz.func10, Tryz.ntmps10
    go_wp2
    go_ret
    exact ⟨by rw [HE.out]; rfl, Below.refl _ _⟩
  have hnn : ¬ left - (n : Int) < 0 := by omega
  have hnf : decide (left - (n : Int) < 0) = false := by simpa using hnn
  unfold StrB at hsb
  have HSZ := Lib.hid hszn
  have IH := Lib.hid ih
  have HCS := Lib.hid hcs
  have HV := Lib.hid hv
  have HL := Lib.hid hl
  have HSB := Lib.hid hsb
  clear ih hcs hszn hv hl hsb
  go_enter Tryz.func10, Tryz.ntmps10
  go_wp2
  go_loopw [1, 5] (fun l i wr => ∃ k : Nat, k ≤ n ∧ i = .int .i64 k ∧ l = .int .i64 (left - n - szL (cs.take (k * 9))) ∧ 0 ≤ left - n - szL (cs.take (k * 9)) ∧ Below w.heap.size w wr) (fun _ i _ => n - (intOf i).toNat)
  case atStart => exact ⟨0, Nat.zero_le _, rfl, by simp [szL], by simp [szL]; omega, Below.refl _ _⟩
  case round =>
    obtain ⟨k, hk, rfl, rfl, hpos, hb⟩ := hrel
    by_cases hlt : k < n
    case neg =>
      have HT := Lib.hid (show cs.take (k * 9) = cs by
        apply List.take_of_length_le
        rw [HL.out]; exact Nat.mul_le_mul_right _ (by omega))
      have HF := Lib.hid (show szR left (szD (.rows 9 n cs)) = left - n - szL cs by
        have h2 := hpos
        rw [HT.out] at h2
        rw [szR_in _ _ (by rw [HSZ.out]; omega), HSZ.out]; omega)
      go_wp2
      go_ret
      exact ⟨by rw [HF.out, HT.out]; rfl, hb⟩
    obtain ⟨b, off, rv, rfl, hbS, hcells, hrep⟩ := HV.out.row k hlt
    obtain ⟨i0, s1, s2, i3, i4, d5, i6, d7, d8, hrow, cf5, cf7, cf8⟩ := conf_tm (conf_row n K.tm.fields cs k HCS.out hlt)
    replace hrow : rowAt 9 cs k = [.int i0, .str s1, .str s2, .int i3, .int i4, d5, .int i6, d7, d8] := hrow
    rw [hrow] at hrep
    simp only [RepVs, RepV] at hrep
    obtain ⟨z0, q0, rfl, rfl, z1, q1, rfl, rfl, z2, q2, rfl, rfl, z3, q3, rfl, rfl, z4, q4, rfl, rfl, v5, q5, rfl, hv5, z6, q6, rfl, rfl, v7, q7, rfl, hv7, v8, q8, rfl, hv8, rfl⟩ := hrep
    have c0 := hcells 0 (by simp)
    have c1 := hcells 1 (by simp)
    have c2 := hcells 2 (by simp)
    have c3 := hcells 3 (by simp)
    have c4 := hcells 4 (by simp)
    have c5 := hcells 5 (by simp)
    have c6 := hcells 6 (by simp)
    have c7 := hcells 7 (by simp)
    have c8 := hcells 8 (by simp)
    simp at c0 c1 c2 c3 c4 c5 c6 c7 c8
    replace c0 := (hb.cell (p := ⟨b, off + k * 9, none⟩) (World.block_lt_of_cell? w _ c0)).trans c0
    replace c1 := (hb.cell (p := ⟨b, off + k * 9 + 1, none⟩) (World.block_lt_of_cell? w _ c1)).trans c1
    replace c2 := (hb.cell (p := ⟨b, off + k * 9 + 2, none⟩) (World.block_lt_of_cell? w _ c2)).trans c2
    replace c3 := (hb.cell (p := ⟨b, off + k * 9 + 3, none⟩) (World.block_lt_of_cell? w _ c3)).trans c3
    replace c4 := (hb.cell (p := ⟨b, off + k * 9 + 4, none⟩) (World.block_lt_of_cell? w _ c4)).trans c4
    replace c5 := (hb.cell (p := ⟨b, off + k * 9 + 5, none⟩) (World.block_lt_of_cell? w _ c5)).trans c5
    replace c6 := (hb.cell (p := ⟨b, off + k * 9 + 6, none⟩) (World.block_lt_of_cell? w _ c6)).trans c6
    replace c7 := (hb.cell (p := ⟨b, off + k * 9 + 7, none⟩) (World.block_lt_of_cell? w _ c7)).trans c7
    replace c8 := (hb.cell (p := ⟨b, off + k * 9 + 8, none⟩) (World.block_lt_of_cell? w _ c8)).trans c8
    clear hcells
    have hrs : szL [.int i0, .str s1, .str s2, .int i3, .int i4, d5, .int i6, d7, d8] = s1.size + s2.size + szD d5 + szD d7 + szD d8 := by simp [szL, szD]; omega
    have hnext := Lib.hid (show szL (cs.take ((k + 1) * 9)) = szL (cs.take (k * 9)) + szL [.int i0, .str s1, .str s2, .int i3, .int i4, d5, .int i6, d7, d8] by rw [take_rowAt, hrow, szL_append])
    have HRS := Lib.hid hrs
    have hsb5 := StrBL.mem cs d5 (rowAt_mem 9 k cs d5 (by rw [hrow]; simp)) HSB.out
    have HD5 := Lib.hid (szTypeS_all d5 cf5 hsb5)
    clear hsb5
    have hsb7 := StrBL.mem cs d7 (rowAt_mem 9 k cs d7 (by rw [hrow]; simp)) HSB.out
    have HD7 := Lib.hid (szTypeS_all d7 cf7 hsb7)
    clear hsb7
    have hsb8 := StrBL.mem cs d8 (rowAt_mem 9 k cs d8 (by rw [hrow]; simp)) HSB.out
    have HD8 := Lib.hid (IH.out d8 (rowAt_mem 9 k cs d8 (by rw [hrow]; simp)) cf8 hsb8)
    clear hsb8
    have wf1 : s1.size ≤ maxLen := StrBL.mem cs (.str s1) (rowAt_mem 9 k cs (.str s1) (by rw [hrow]; simp)) HSB.out
    have wf2 : s2.size ≤ maxLen := StrBL.mem cs (.str s2) (rowAt_mem 9 k cs (.str s2) (by rw [hrow]; simp)) HSB.out
    have hSw : S ≤ wr.heap.size := Nat.le_trans hS hb.size
    clear hrow hrs cf5 cf7 cf8
    have hle := szL_take_le cs ((k + 1) * 9)
    rw [hnext.out] at hle
    by_cases hfit : (szL [.int i0, .str s1, .str s2, .int i3, .int i4, d5, .int i6, d7, d8] : Int) ≤ left - n - szL (cs.take (k * 9))
    · have HE := Lib.hid (szR_in _ _ hfit)
      have hnn2 : ¬ left - n - szL (cs.take (k * 9)) - (szL [.int i0, .str s1, .str s2, .int i3, .int i4, d5, .int i6, d7, d8] : Int) < 0 := by omega
      clear hle
      go_wp2_with fail
      refine (szTerm_of i0 s1 s2 i3 i4 d5 i6 d7 d8 v5 v7 v8 S wr _ HD5.out (hv5.later (hb.mono hS) (Nat.le_refl _)) HD7.out (hv7.later (hb.mono hS) (Nat.le_refl _)) HD8.out (hv8.later (hb.mono hS) (Nat.le_refl _)) hSw hpos (by omega) wf1 wf2).mono ?_
      rintro e w1 ⟨rfl, hb1⟩
      rw [HE.out]
      go_wp2
      go_roundw
      case rel => exact ⟨k + 1, by omega, by go_num, by rw [hnext.out]; go_num, by rw [hnext.out]; omega, hb.trans (hb1.mono hb.size)⟩
      case measure => simp [intOf]; omega
    · have HE := Lib.hid (szR_out (left - n - szL (cs.take (k * 9))) (szL [.int i0, .str s1, .str s2, .int i3, .int i4, d5, .int i6, d7, d8]) (by omega))
      have HF := Lib.hid (show szR left (szD (.rows 9 n cs)) = -1 from szR_out _ _ (by rw [HSZ.out]; omega))
      clear hle
      go_wp2_with fail
      refine (szTerm_of i0 s1 s2 i3 i4 d5 i6 d7 d8 v5 v7 v8 S wr _ HD5.out (hv5.later (hb.mono hS) (Nat.le_refl _)) HD7.out (hv7.later (hb.mono hS) (Nat.le_refl _)) HD8.out (hv8.later (hb.mono hS) (Nat.le_refl _)) hSw hpos (by omega) wf1 wf2).mono ?_
      rintro e w1 ⟨rfl, hb1⟩
      rw [HE.out]
      go_wp2
      go_ret
      exact ⟨by rw [HF.out]; rfl, hb.trans (hb1.mono hb.size)⟩
end Go.Proofs.YtpoemjeelbmpkaaGreat
/-
  Copies of terms.
-/
namespace Go.Proofs.YtpoemjeelbmpkaaGreat
open Go.RowKit
set_option linter.unusedVariables false
set_option maxHeartbeats 2000000 in
theorem toTerm_of (i0 : Int) (s1 : ByteArray) (s2 : ByteArray) (i3 : Int) (i4 : Int) (d5 : D) (i6 : Int) (d7 : D) (d8 : D) (v5 : Value) (v7 : Value) (v8 : Value) (S : Nat) (w : World) (hs5 : ToTypeS d5) (hv5 : RepV w S d5 v5) (hs7 : ToTypeS d7) (hv7 : RepV w S d7 v7) (hs8 : ToTermS d8) (hv8 : RepV w S d8 v8) (hS : S ≤ w.heap.size) (hz : szL [.int i0, .str s1, .str s2, .int i3, .int i4, d5, .int i6, d7, d8] ≤ 1048576) :
    Calls Tryz.prog 6 #[.agg #[.int .i64 i0, .string s1, .string s2, .int .i64 i3, .int .i64 i4, v5, .int .i64 i6, v7, v8]] w fun e w' => ∃ a5 n5 c5 a7 n7 c7 a8 n8 c8, e = .returned (.agg #[.int .i64 i0, .string s1, .string s2, .int .i64 i3, .int .i64 i4, .slice a5 n5 c5, .int .i64 i6, .slice a7 n7 c7, .slice a8 n8 c8]) ∧ FreshL w' w.heap.size [.int i0, .str s1, .str s2, .int i3, .int i4, d5, .int i6, d7, d8] [.int .i64 i0, .string s1, .string s2, .int .i64 i3, .int .i64 i4, .slice a5 n5 c5, .int .i64 i6, .slice a7 n7 c7, .slice a8 n8 c8] ∧ Below w.heap.size w w' := by
  have hsum : szL [.int i0, .str s1, .str s2, .int i3, .int i4, d5, .int i6, d7, d8] = s1.size + s2.size + szD d5 + szD d7 + szD d8 := by simp [szL, szD]; omega
  have hz5 : szD d5 ≤ 1048576 := by omega
  have hz7 : szD d7 ≤ 1048576 := by omega
  have hz8 : szD d8 ≤ 1048576 := by omega
  have HS5 := Lib.hid hs5
  clear hs5
  have HS7 := Lib.hid hs7
  clear hs7
  have HS8 := Lib.hid hs8
  clear hs8
  clear hsum hz
  have hB0 : Below w.heap.size w (((w.alloc (.cells #[.int .i64 i0, .string s1, .string s2, .int .i64 i3, .int .i64 i4, v5, .int .i64 i6, v7, v8] 27)).alloc (.cells #[.int .i64 0, .string ⟨#[]⟩, .string ⟨#[]⟩, .int .i64 0, .int .i64 0, .slice none 0 0, .int .i64 0, .slice none 0 0, .slice none 0 0] 35)).alloc (.cells #[.int .i64 i0, .string s1, .string s2, .int .i64 i3, .int .i64 0, .slice none 0 0, .int .i64 0, .slice none 0 0, .slice none 0 0] 35)) := (((Below.refl _ _).alloc (Nat.le_refl _) _).alloc (by simp) _).alloc (by simp <;> omega) _
  have hX0 : Blk (((w.alloc (.cells #[.int .i64 i0, .string s1, .string s2, .int .i64 i3, .int .i64 i4, v5, .int .i64 i6, v7, v8] 27)).alloc (.cells #[.int .i64 0, .string ⟨#[]⟩, .string ⟨#[]⟩, .int .i64 0, .int .i64 0, .slice none 0 0, .int .i64 0, .slice none 0 0, .slice none 0 0] 35)).alloc (.cells #[.int .i64 i0, .string s1, .string s2, .int .i64 i3, .int .i64 0, .slice none 0 0, .int .i64 0, .slice none 0 0, .slice none 0 0] 35)) w.heap.size 27 #[.int .i64 i0, .string s1, .string s2, .int .i64 i3, .int .i64 i4, v5, .int .i64 i6, v7, v8] := ((Blk.new w _ _).alloc _).alloc _
  have hR0 : Blk (((w.alloc (.cells #[.int .i64 i0, .string s1, .string s2, .int .i64 i3, .int .i64 i4, v5, .int .i64 i6, v7, v8] 27)).alloc (.cells #[.int .i64 0, .string ⟨#[]⟩, .string ⟨#[]⟩, .int .i64 0, .int .i64 0, .slice none 0 0, .int .i64 0, .slice none 0 0, .slice none 0 0] 35)).alloc (.cells #[.int .i64 i0, .string s1, .string s2, .int .i64 i3, .int .i64 0, .slice none 0 0, .int .i64 0, .slice none 0 0, .slice none 0 0] 35)) (w.heap.size + 1) 35 #[.int .i64 0, .string ⟨#[]⟩, .string ⟨#[]⟩, .int .i64 0, .int .i64 0, .slice none 0 0, .int .i64 0, .slice none 0 0, .slice none 0 0] := by
    have := (Blk.new (w.alloc (.cells #[.int .i64 i0, .string s1, .string s2, .int .i64 i3, .int .i64 i4, v5, .int .i64 i6, v7, v8] 27)) 35 #[.int .i64 0, .string ⟨#[]⟩, .string ⟨#[]⟩, .int .i64 0, .int .i64 0, .slice none 0 0, .int .i64 0, .slice none 0 0, .slice none 0 0]).alloc (.cells #[.int .i64 i0, .string s1, .string s2, .int .i64 i3, .int .i64 0, .slice none 0 0, .int .i64 0, .slice none 0 0, .slice none 0 0] 35)
    rwa [World.size_alloc] at this
  have hO0 : Blk (((w.alloc (.cells #[.int .i64 i0, .string s1, .string s2, .int .i64 i3, .int .i64 i4, v5, .int .i64 i6, v7, v8] 27)).alloc (.cells #[.int .i64 0, .string ⟨#[]⟩, .string ⟨#[]⟩, .int .i64 0, .int .i64 0, .slice none 0 0, .int .i64 0, .slice none 0 0, .slice none 0 0] 35)).alloc (.cells #[.int .i64 i0, .string s1, .string s2, .int .i64 i3, .int .i64 0, .slice none 0 0, .int .i64 0, .slice none 0 0, .slice none 0 0] 35)) (w.heap.size + 1 + 1) 35 #[.int .i64 i0, .string s1, .string s2, .int .i64 i3, .int .i64 0, .slice none 0 0, .int .i64 0, .slice none 0 0, .slice none 0 0] := by
    have := Blk.new ((w.alloc (.cells #[.int .i64 i0, .string s1, .string s2, .int .i64 i3, .int .i64 i4, v5, .int .i64 i6, v7, v8] 27)).alloc (.cells #[.int .i64 0, .string ⟨#[]⟩, .string ⟨#[]⟩, .int .i64 0, .int .i64 0, .slice none 0 0, .int .i64 0, .slice none 0 0, .slice none 0 0] 35)) 35 #[.int .i64 i0, .string s1, .string s2, .int .i64 i3, .int .i64 0, .slice none 0 0, .int .i64 0, .slice none 0 0, .slice none 0 0]
    rwa [World.size_alloc, World.size_alloc] at this
  go_enter Tryz.func6, Tryz.ntmps6
  go_wp2_with fail
  refine (toType_of i4 d5 v5 S _ HS5.out (hv5.later (hB0.mono hS) (Nat.le_refl _)) (Nat.le_trans hS hB0.size) (by simp [szL, szD]; omega)).mono ?_
  rintro e w1 ⟨a5, n5, c5, rfl, hf1, hb1⟩
  have hB1 := hB0.trans (hb1.mono hB0.size)
  have hX1 := hX0.below hb1 hX0.lt
  have hR1 := hR0.below hb1 hR0.lt
  have hO1 := hO0.below hb1 hO0.lt
  have hA0 : FreshL (((w.alloc (.cells #[.int .i64 i0, .string s1, .string s2, .int .i64 i3, .int .i64 i4, v5, .int .i64 i6, v7, v8] 27)).alloc (.cells #[.int .i64 0, .string ⟨#[]⟩, .string ⟨#[]⟩, .int .i64 0, .int .i64 0, .slice none 0 0, .int .i64 0, .slice none 0 0, .slice none 0 0] 35)).alloc (.cells #[.int .i64 i0, .string s1, .string s2, .int .i64 i3, .int .i64 0, .slice none 0 0, .int .i64 0, .slice none 0 0, .slice none 0 0] 35)) (w.heap.size + 1 + 1 + 1) [.int i0, .str s1, .str s2, .int i3] [.int .i64 i0, .string s1, .string s2, .int .i64 i3] := ((((FreshL.nil _ _).cell (own_int _ _)).cell (own_str _ _)).cell (own_str _ _)).cell (own_int _ _)
  have hA1 : FreshL w1 (w.heap.size + 1 + 1 + 1) [.int i0, .str s1, .str s2, .int i3, .int i4, d5] [.int .i64 i0, .string s1, .string s2, .int .i64 i3, .int .i64 i4, .slice a5 n5 c5] := FreshL.append hA0 hb1 (by have := hO0.lt; omega) hf1
  have x1_0 := hX1.cell 0
  have o1_0 := hO1.cell 0
  have r1_0 := hR1.cell 0
  have of1_0 := hO1.frozen 0
  have rf1_0 := hR1.frozen 0
  have x1_1 := hX1.cell 1
  have o1_1 := hO1.cell 1
  have r1_1 := hR1.cell 1
  have of1_1 := hO1.frozen 1
  have rf1_1 := hR1.frozen 1
  have x1_2 := hX1.cell 2
  have o1_2 := hO1.cell 2
  have r1_2 := hR1.cell 2
  have of1_2 := hO1.frozen 2
  have rf1_2 := hR1.frozen 2
  have x1_3 := hX1.cell 3
  have o1_3 := hO1.cell 3
  have r1_3 := hR1.cell 3
  have of1_3 := hO1.frozen 3
  have rf1_3 := hR1.frozen 3
  have x1_4 := hX1.cell 4
  have o1_4 := hO1.cell 4
  have r1_4 := hR1.cell 4
  have of1_4 := hO1.frozen 4
  have rf1_4 := hR1.frozen 4
  have x1_5 := hX1.cell 5
  have o1_5 := hO1.cell 5
  have r1_5 := hR1.cell 5
  have of1_5 := hO1.frozen 5
  have rf1_5 := hR1.frozen 5
  have x1_6 := hX1.cell 6
  have o1_6 := hO1.cell 6
  have r1_6 := hR1.cell 6
  have of1_6 := hO1.frozen 6
  have rf1_6 := hR1.frozen 6
  have x1_7 := hX1.cell 7
  have o1_7 := hO1.cell 7
  have r1_7 := hR1.cell 7
  have of1_7 := hO1.frozen 7
  have rf1_7 := hR1.frozen 7
  have x1_8 := hX1.cell 8
  have o1_8 := hO1.cell 8
  have r1_8 := hR1.cell 8
  have of1_8 := hO1.frozen 8
  have rf1_8 := hR1.frozen 8
  simp at x1_0 o1_0 r1_0 x1_1 o1_1 r1_1 x1_2 o1_2 r1_2 x1_3 o1_3 r1_3 x1_4 o1_4 r1_4 x1_5 o1_5 r1_5 x1_6 o1_6 r1_6 x1_7 o1_7 r1_7 x1_8 o1_8 r1_8
  go_wp2_with fail
  have hBs1 : Below w.heap.size w ((w1.setCell ⟨w.heap.size + 1 + 1, 4, none⟩ (.int .i64 i4)).setCell ⟨w.heap.size + 1 + 1, 5, none⟩ (.slice a5 n5 c5)) := by
    repeat (refine Below.setCell ?_ (by simp <;> omega) _)
    exact hB1
  have hXs1 : Blk ((w1.setCell ⟨w.heap.size + 1 + 1, 4, none⟩ (.int .i64 i4)).setCell ⟨w.heap.size + 1 + 1, 5, none⟩ (.slice a5 n5 c5)) w.heap.size 27 #[.int .i64 i0, .string s1, .string s2, .int .i64 i3, .int .i64 i4, v5, .int .i64 i6, v7, v8] := by
    repeat (refine Blk.far ?_ (by simp <;> omega) _)
    exact hX1
  have hRs1 : Blk ((w1.setCell ⟨w.heap.size + 1 + 1, 4, none⟩ (.int .i64 i4)).setCell ⟨w.heap.size + 1 + 1, 5, none⟩ (.slice a5 n5 c5)) (w.heap.size + 1) 35 #[.int .i64 0, .string ⟨#[]⟩, .string ⟨#[]⟩, .int .i64 0, .int .i64 0, .slice none 0 0, .int .i64 0, .slice none 0 0, .slice none 0 0] := by
    repeat (refine Blk.far ?_ (by simp) _)
    exact hR1
  have hOs1 : Blk ((w1.setCell ⟨w.heap.size + 1 + 1, 4, none⟩ (.int .i64 i4)).setCell ⟨w.heap.size + 1 + 1, 5, none⟩ (.slice a5 n5 c5)) (w.heap.size + 1 + 1) 35 #[.int .i64 i0, .string s1, .string s2, .int .i64 i3, .int .i64 i4, .slice a5 n5 c5, .int .i64 0, .slice none 0 0, .slice none 0 0] := ((hO1.set_ 4 (.int .i64 i4)).set_ 5 (.slice a5 n5 c5))
  refine (toType_of i6 d7 v7 S _ HS7.out (hv7.later (hBs1.mono hS) (Nat.le_refl _)) (Nat.le_trans hS hBs1.size) (by simp [szL, szD]; omega)).mono ?_
  rintro e w2 ⟨a7, n7, c7, rfl, hf2, hb2⟩
  have hB2 := hBs1.trans (hb2.mono hBs1.size)
  have hX2 := hXs1.below hb2 hXs1.lt
  have hR2 := hRs1.below hb2 hRs1.lt
  have hO2 := hOs1.below hb2 hOs1.lt
  have hAs1 : FreshL ((w1.setCell ⟨w.heap.size + 1 + 1, 4, none⟩ (.int .i64 i4)).setCell ⟨w.heap.size + 1 + 1, 5, none⟩ (.slice a5 n5 c5)) (w.heap.size + 1 + 1 + 1) [.int i0, .str s1, .str s2, .int i3, .int i4, d5] [.int .i64 i0, .string s1, .string s2, .int .i64 i3, .int .i64 i4, .slice a5 n5 c5] := by
    refine FreshL.only (fp := [w.heap.size + 1, w.heap.size + 1 + 1]) (hA1) ?_ (by simp)
    repeat (refine Only.setCell ?_ (by simp) _)
    exact Only.refl _ _
  have hA2 : FreshL w2 (w.heap.size + 1 + 1 + 1) [.int i0, .str s1, .str s2, .int i3, .int i4, d5, .int i6, d7] [.int .i64 i0, .string s1, .string s2, .int .i64 i3, .int .i64 i4, .slice a5 n5 c5, .int .i64 i6, .slice a7 n7 c7] := FreshL.append hAs1 hb2 (by have := hOs1.lt; omega) hf2
  have x2_0 := hX2.cell 0
  have o2_0 := hO2.cell 0
  have r2_0 := hR2.cell 0
  have of2_0 := hO2.frozen 0
  have rf2_0 := hR2.frozen 0
  have x2_1 := hX2.cell 1
  have o2_1 := hO2.cell 1
  have r2_1 := hR2.cell 1
  have of2_1 := hO2.frozen 1
  have rf2_1 := hR2.frozen 1
  have x2_2 := hX2.cell 2
  have o2_2 := hO2.cell 2
  have r2_2 := hR2.cell 2
  have of2_2 := hO2.frozen 2
  have rf2_2 := hR2.frozen 2
  have x2_3 := hX2.cell 3
  have o2_3 := hO2.cell 3
  have r2_3 := hR2.cell 3
  have of2_3 := hO2.frozen 3
  have rf2_3 := hR2.frozen 3
  have x2_4 := hX2.cell 4
  have o2_4 := hO2.cell 4
  have r2_4 := hR2.cell 4
  have of2_4 := hO2.frozen 4
  have rf2_4 := hR2.frozen 4
  have x2_5 := hX2.cell 5
  have o2_5 := hO2.cell 5
  have r2_5 := hR2.cell 5
  have of2_5 := hO2.frozen 5
  have rf2_5 := hR2.frozen 5
  have x2_6 := hX2.cell 6
  have o2_6 := hO2.cell 6
  have r2_6 := hR2.cell 6
  have of2_6 := hO2.frozen 6
  have rf2_6 := hR2.frozen 6
  have x2_7 := hX2.cell 7
  have o2_7 := hO2.cell 7
  have r2_7 := hR2.cell 7
  have of2_7 := hO2.frozen 7
  have rf2_7 := hR2.frozen 7
  have x2_8 := hX2.cell 8
  have o2_8 := hO2.cell 8
  have r2_8 := hR2.cell 8
  have of2_8 := hO2.frozen 8
  have rf2_8 := hR2.frozen 8
  simp at x2_0 o2_0 r2_0 x2_1 o2_1 r2_1 x2_2 o2_2 r2_2 x2_3 o2_3 r2_3 x2_4 o2_4 r2_4 x2_5 o2_5 r2_5 x2_6 o2_6 r2_6 x2_7 o2_7 r2_7 x2_8 o2_8 r2_8
  go_wp2_with fail
  have hBs2 : Below w.heap.size w ((w2.setCell ⟨w.heap.size + 1 + 1, 6, none⟩ (.int .i64 i6)).setCell ⟨w.heap.size + 1 + 1, 7, none⟩ (.slice a7 n7 c7)) := by
    repeat (refine Below.setCell ?_ (by simp <;> omega) _)
    exact hB2
  have hXs2 : Blk ((w2.setCell ⟨w.heap.size + 1 + 1, 6, none⟩ (.int .i64 i6)).setCell ⟨w.heap.size + 1 + 1, 7, none⟩ (.slice a7 n7 c7)) w.heap.size 27 #[.int .i64 i0, .string s1, .string s2, .int .i64 i3, .int .i64 i4, v5, .int .i64 i6, v7, v8] := by
    repeat (refine Blk.far ?_ (by simp <;> omega) _)
    exact hX2
  have hRs2 : Blk ((w2.setCell ⟨w.heap.size + 1 + 1, 6, none⟩ (.int .i64 i6)).setCell ⟨w.heap.size + 1 + 1, 7, none⟩ (.slice a7 n7 c7)) (w.heap.size + 1) 35 #[.int .i64 0, .string ⟨#[]⟩, .string ⟨#[]⟩, .int .i64 0, .int .i64 0, .slice none 0 0, .int .i64 0, .slice none 0 0, .slice none 0 0] := by
    repeat (refine Blk.far ?_ (by simp) _)
    exact hR2
  have hOs2 : Blk ((w2.setCell ⟨w.heap.size + 1 + 1, 6, none⟩ (.int .i64 i6)).setCell ⟨w.heap.size + 1 + 1, 7, none⟩ (.slice a7 n7 c7)) (w.heap.size + 1 + 1) 35 #[.int .i64 i0, .string s1, .string s2, .int .i64 i3, .int .i64 i4, .slice a5 n5 c5, .int .i64 i6, .slice a7 n7 c7, .slice none 0 0] := ((hO2.set_ 6 (.int .i64 i6)).set_ 7 (.slice a7 n7 c7))
  refine (HS8.out v8 S _ (hv8.later (hBs2.mono hS) (Nat.le_refl _)) (Nat.le_trans hS hBs2.size) hz8).mono ?_
  rintro e w3 ⟨a8, n8, c8, rfl, hf3, hb3⟩
  have hB3 := hBs2.trans (hb3.mono hBs2.size)
  have hX3 := hXs2.below hb3 hXs2.lt
  have hR3 := hRs2.below hb3 hRs2.lt
  have hO3 := hOs2.below hb3 hOs2.lt
  have hAs2 : FreshL ((w2.setCell ⟨w.heap.size + 1 + 1, 6, none⟩ (.int .i64 i6)).setCell ⟨w.heap.size + 1 + 1, 7, none⟩ (.slice a7 n7 c7)) (w.heap.size + 1 + 1 + 1) [.int i0, .str s1, .str s2, .int i3, .int i4, d5, .int i6, d7] [.int .i64 i0, .string s1, .string s2, .int .i64 i3, .int .i64 i4, .slice a5 n5 c5, .int .i64 i6, .slice a7 n7 c7] := by
    refine FreshL.only (fp := [w.heap.size + 1, w.heap.size + 1 + 1]) (hA2) ?_ (by simp)
    repeat (refine Only.setCell ?_ (by simp) _)
    exact Only.refl _ _
  have hA3 : FreshL w3 (w.heap.size + 1 + 1 + 1) [.int i0, .str s1, .str s2, .int i3, .int i4, d5, .int i6, d7, d8] [.int .i64 i0, .string s1, .string s2, .int .i64 i3, .int .i64 i4, .slice a5 n5 c5, .int .i64 i6, .slice a7 n7 c7, .slice a8 n8 c8] := FreshL.append hAs2 hb3 (by have := hOs2.lt; omega) (FreshL.one hf3)
  have x3_0 := hX3.cell 0
  have o3_0 := hO3.cell 0
  have r3_0 := hR3.cell 0
  have of3_0 := hO3.frozen 0
  have rf3_0 := hR3.frozen 0
  have x3_1 := hX3.cell 1
  have o3_1 := hO3.cell 1
  have r3_1 := hR3.cell 1
  have of3_1 := hO3.frozen 1
  have rf3_1 := hR3.frozen 1
  have x3_2 := hX3.cell 2
  have o3_2 := hO3.cell 2
  have r3_2 := hR3.cell 2
  have of3_2 := hO3.frozen 2
  have rf3_2 := hR3.frozen 2
  have x3_3 := hX3.cell 3
  have o3_3 := hO3.cell 3
  have r3_3 := hR3.cell 3
  have of3_3 := hO3.frozen 3
  have rf3_3 := hR3.frozen 3
  have x3_4 := hX3.cell 4
  have o3_4 := hO3.cell 4
  have r3_4 := hR3.cell 4
  have of3_4 := hO3.frozen 4
  have rf3_4 := hR3.frozen 4
  have x3_5 := hX3.cell 5
  have o3_5 := hO3.cell 5
  have r3_5 := hR3.cell 5
  have of3_5 := hO3.frozen 5
  have rf3_5 := hR3.frozen 5
  have x3_6 := hX3.cell 6
  have o3_6 := hO3.cell 6
  have r3_6 := hR3.cell 6
  have of3_6 := hO3.frozen 6
  have rf3_6 := hR3.frozen 6
  have x3_7 := hX3.cell 7
  have o3_7 := hO3.cell 7
  have r3_7 := hR3.cell 7
  have of3_7 := hO3.frozen 7
  have rf3_7 := hR3.frozen 7
  have x3_8 := hX3.cell 8
  have o3_8 := hO3.cell 8
  have r3_8 := hR3.cell 8
  have of3_8 := hO3.frozen 8
  have rf3_8 := hR3.frozen 8
  simp at x3_0 o3_0 r3_0 x3_1 o3_1 r3_1 x3_2 o3_2 r3_2 x3_3 o3_3 r3_3 x3_4 o3_4 r3_4 x3_5 o3_5 r3_5 x3_6 o3_6 r3_6 x3_7 o3_7 r3_7 x3_8 o3_8 r3_8
  go_wp2
  refine bodyPost_ret (v := .agg #[.int .i64 i0, .string s1, .string s2, .int .i64 i3, .int .i64 i4, .slice a5 n5 c5, .int .i64 i6, .slice a7 n7 c7, .slice a8 n8 c8]) (by simp [results, Tryz.results6, go_sem, r3_0, r3_1, r3_2, r3_3, r3_4, r3_5, r3_6, r3_7, r3_8]) rfl ⟨_, _, _, _, _, _, _, _, _, rfl, ?_, ?_⟩
  · exact (hA3.only (fp := [w.heap.size + 1, w.heap.size + 1 + 1]) (by
      repeat (refine Only.setCell ?_ (by simp) _)
      exact Only.refl _ _) (by simp)).down (by omega)
  · repeat (refine Below.setCell ?_ (by simp <;> omega) _)
    exact hB3
theorem info_implTerm : (Tryz.prog.info? 35).map (fun i => (i.zero, i.size, i.bytes)) = some (some (.agg #[.int .i64 0, .string ⟨#[]⟩, .string ⟨#[]⟩, .int .i64 0, .int .i64 0, .slice none 0 0, .int .i64 0, .slice none 0 0, .slice none 0 0]), 9, 136) := by kernel_rfl
set_option maxHeartbeats 2000000 in
theorem toTermS_all : ∀ d, Conf d (.sl .tm) → ToTermS d := by
  refine D.ind (fun d hd h => by rcases hd with rfl | ⟨_, rfl⟩ <;> (unfold Conf at h; exact h.elim)) (fun n h => by unfold Conf at h; cases h) (fun b h => by unfold Conf at h; cases h) (fun s h => by unfold Conf at h; cases h) fun sz n cs ih h => ?_
  unfold Conf at h
  obtain ⟨k0, e, hsz, hl, hm, hcs⟩ := h
  injection e with e
  subst e
  obtain rfl : sz = 9 := hsz
  intro v S w hv hS hz
  obtain ⟨a, cap, rfl, hnc, hcm, _, hsl⟩ := hv.slc
  clear hsl
  have hzn : szD (.rows 9 n cs) = n + szL cs := by simp only [szD]
  rw [hzn] at hz
  have hn20 : n ≤ 1048576 := by omega
  unfold maxLen at hm hcm
  obtain ⟨i0, hi, hz0, hz1, hz2⟩ := info_parts info_implTerm
  have hmk := fun W => run_make_rowN (P := Tryz.prog) 33 35 i0 _ Tryz.underlying33 hi hz0 .i64 .i64 n n (Nat.le_refl _) (by rw [hz2]; omega) (by omega) W
  rw [hz1] at hmk
  have IH := Lib.hid ih
  have HCS := Lib.hid hcs
  have HV := Lib.hid hv
  have HL := Lib.hid hl
  have HZ := Lib.hid hz
  clear ih hcs hv hl hi hz0 hz1 hz2 hz hzn
  go_enter Tryz.func14, Tryz.ntmps14
  go_wp2
  go_loopw [4] (fun i wr => ∃ k : Nat, k ≤ n ∧ i = .int .i64 k ∧ (∃ vs : List Value, vs.length = k * 9 ∧ Blk wr w.heap.size 35 (vs ++ (List.replicate (n - k) ([.int .i64 0, .string ⟨#[]⟩, .string ⟨#[]⟩, .int .i64 0, .int .i64 0, .slice none 0 0, .int .i64 0, .slice none 0 0, .slice none 0 0] : List Value)).flatten).toArray ∧ FreshL wr (w.heap.size + 1) (cs.take (k * 9)) vs) ∧ Below w.heap.size w wr) (fun i _ => n - (intOf i).toNat)
  case atStart =>
    refine ⟨0, Nat.zero_le _, rfl, ⟨[], by simp, ?_, by simpa using FreshL.nil _ _⟩, (Below.refl _ _).alloc (Nat.le_refl _) _⟩
    have hfl := madeCells_flat #[.int .i64 0, .string ⟨#[]⟩, .string ⟨#[]⟩, .int .i64 0, .int .i64 0, .slice none 0 0, .int .i64 0, .slice none 0 0, .slice none 0 0] (by simp) n
    simp only [List.nil_append, Nat.sub_zero]
    have e1 : madeCells #[.int .i64 0, .string ⟨#[]⟩, .string ⟨#[]⟩, .int .i64 0, .int .i64 0, .slice none 0 0, .int .i64 0, .slice none 0 0, .slice none 0 0] (n * 9) = ((List.replicate n ([.int .i64 0, .string ⟨#[]⟩, .string ⟨#[]⟩, .int .i64 0, .int .i64 0, .slice none 0 0, .int .i64 0, .slice none 0 0, .slice none 0 0] : List Value)).flatten).toArray := hfl
    rw [← e1]
    exact Blk.new _ _ _
  case round =>
    obtain ⟨k, hk, rfl, ⟨vs, hvl, hB, hFr⟩, hb⟩ := hrel
    by_cases hlt : k < n
    case neg =>
      have hB2 : Blk wr w.heap.size 35 vs.toArray := by rw [show n - k = 0 by omega] at hB; simpa using hB
      have hFr2 : FreshL wr (w.heap.size + 1) cs vs := by rw [List.take_of_length_le (by rw [HL.out]; exact Nat.mul_le_mul_right _ (by omega))] at hFr; exact hFr
      clear hB hFr hvl
      go_wp2
      go_ret
      obtain ⟨fp, ho, hnd, hkk⟩ := hFr2
      exact ⟨_, _, _, rfl, own_of_blk hB2 ho hnd (fun k hm => by have := hkk k hm; omega) (fun hm => by have := hkk _ hm; omega) HL.out (by unfold maxLen; omega) (Nat.le_refl _), hb⟩
    obtain ⟨b, off, rv, rfl, hbS, hcells, hrep⟩ := HV.out.row k hlt
    obtain ⟨i0, s1, s2, i3, i4, d5, i6, d7, d8, hrow, cf5, cf7, cf8⟩ := conf_tm (conf_row n K.tm.fields cs k HCS.out hlt)
    replace hrow : rowAt 9 cs k = [.int i0, .str s1, .str s2, .int i3, .int i4, d5, .int i6, d7, d8] := hrow
    rw [hrow] at hrep
    simp only [RepVs, RepV] at hrep
    obtain ⟨z0, q0, rfl, rfl, z1, q1, rfl, rfl, z2, q2, rfl, rfl, z3, q3, rfl, rfl, z4, q4, rfl, rfl, v5, q5, rfl, hv5, z6, q6, rfl, rfl, v7, q7, rfl, hv7, v8, q8, rfl, hv8, rfl⟩ := hrep
    have c0 := hcells 0 (by simp)
    have c1 := hcells 1 (by simp)
    have c2 := hcells 2 (by simp)
    have c3 := hcells 3 (by simp)
    have c4 := hcells 4 (by simp)
    have c5 := hcells 5 (by simp)
    have c6 := hcells 6 (by simp)
    have c7 := hcells 7 (by simp)
    have c8 := hcells 8 (by simp)
    simp at c0 c1 c2 c3 c4 c5 c6 c7 c8
    replace c0 := (hb.cell (p := ⟨b, off + k * 9, none⟩) (World.block_lt_of_cell? w _ c0)).trans c0
    replace c1 := (hb.cell (p := ⟨b, off + k * 9 + 1, none⟩) (World.block_lt_of_cell? w _ c1)).trans c1
    replace c2 := (hb.cell (p := ⟨b, off + k * 9 + 2, none⟩) (World.block_lt_of_cell? w _ c2)).trans c2
    replace c3 := (hb.cell (p := ⟨b, off + k * 9 + 3, none⟩) (World.block_lt_of_cell? w _ c3)).trans c3
    replace c4 := (hb.cell (p := ⟨b, off + k * 9 + 4, none⟩) (World.block_lt_of_cell? w _ c4)).trans c4
    replace c5 := (hb.cell (p := ⟨b, off + k * 9 + 5, none⟩) (World.block_lt_of_cell? w _ c5)).trans c5
    replace c6 := (hb.cell (p := ⟨b, off + k * 9 + 6, none⟩) (World.block_lt_of_cell? w _ c6)).trans c6
    replace c7 := (hb.cell (p := ⟨b, off + k * 9 + 7, none⟩) (World.block_lt_of_cell? w _ c7)).trans c7
    replace c8 := (hb.cell (p := ⟨b, off + k * 9 + 8, none⟩) (World.block_lt_of_cell? w _ c8)).trans c8
    clear hcells
    have hnext := Lib.hid (show cs.take ((k + 1) * 9) = cs.take (k * 9) ++ [.int i0, .str s1, .str s2, .int i3, .int i4, d5, .int i6, d7, d8] by rw [take_rowAt, hrow])
    have HD5 := Lib.hid (toTypeS_all d5 cf5)
    have hw5 := hv5.later (hb.mono hS) (Nat.le_refl _)
    have HD7 := Lib.hid (toTypeS_all d7 cf7)
    have hw7 := hv7.later (hb.mono hS) (Nat.le_refl _)
    have HD8 := Lib.hid (IH.out d8 (rowAt_mem 9 k cs d8 (by rw [hrow]; simp)) cf8)
    have hw8 := hv8.later (hb.mono hS) (Nat.le_refl _)
    have hzr : szL [.int i0, .str s1, .str s2, .int i3, .int i4, d5, .int i6, d7, d8] ≤ 1048576 := by
      have h1 := szL_take_le cs ((k + 1) * 9)
      rw [hnext.out, szL_append] at h1
      have h2 := HZ.out; omega
    have HZR := Lib.hid hzr
    have hSw : S ≤ wr.heap.size := Nat.le_trans hS hb.size
    clear hrow hzr cf5 cf7 cf8
    have hi1 : (k : Int) < (n : Int) := by omega
    have HVL := Lib.hid hvl
    have HB := Lib.hid hB
    clear hB hvl
    go_wp2_with fail
    refine (toTerm_of i0 s1 s2 i3 i4 d5 i6 d7 d8 v5 v7 v8 S wr HD5.out hw5 HD7.out hw7 HD8.out hw8 hSw HZR.out).mono ?_
    rintro e w1 ⟨a5, n5, c5, a7, n7, c7, a8, n8, c8, rfl, hf1, hb1⟩
    have hB1 := HB.out.below hb1 HB.out.lt
    have hsplit : vs ++ (List.replicate (n - k) ([.int .i64 0, .string ⟨#[]⟩, .string ⟨#[]⟩, .int .i64 0, .int .i64 0, .slice none 0 0, .int .i64 0, .slice none 0 0, .slice none 0 0] : List Value)).flatten = vs ++ (([.int .i64 0, .string ⟨#[]⟩, .string ⟨#[]⟩, .int .i64 0, .int .i64 0, .slice none 0 0, .int .i64 0, .slice none 0 0, .slice none 0 0] : List Value) ++ (List.replicate (n - (k + 1)) ([.int .i64 0, .string ⟨#[]⟩, .string ⟨#[]⟩, .int .i64 0, .int .i64 0, .slice none 0 0, .int .i64 0, .slice none 0 0, .slice none 0 0] : List Value)).flatten) := by
      rw [show n - k = (n - (k + 1)) + 1 by omega, List.replicate_succ, List.flatten_cons]
    rw [hsplit] at hB1
    have g0 : w1.cell? ⟨w.heap.size, k * 9, none⟩ = some (.int .i64 0) := by
      have := hB1.cell (k * 9)
      rw [this]; simp [HVL.out]
    have z0 := hB1.frozen (k * 9)
    have g1 : w1.cell? ⟨w.heap.size, k * 9 + 1, none⟩ = some (.string ⟨#[]⟩) := by
      have := hB1.cell (k * 9 + 1)
      rw [this]; simp [HVL.out]
    have z1 := hB1.frozen (k * 9 + 1)
    have g2 : w1.cell? ⟨w.heap.size, k * 9 + 2, none⟩ = some (.string ⟨#[]⟩) := by
      have := hB1.cell (k * 9 + 2)
      rw [this]; simp [HVL.out]
    have z2 := hB1.frozen (k * 9 + 2)
    have g3 : w1.cell? ⟨w.heap.size, k * 9 + 3, none⟩ = some (.int .i64 0) := by
      have := hB1.cell (k * 9 + 3)
      rw [this]; simp [HVL.out]
    have z3 := hB1.frozen (k * 9 + 3)
    have g4 : w1.cell? ⟨w.heap.size, k * 9 + 4, none⟩ = some (.int .i64 0) := by
      have := hB1.cell (k * 9 + 4)
      rw [this]; simp [HVL.out]
    have z4 := hB1.frozen (k * 9 + 4)
    have g5 : w1.cell? ⟨w.heap.size, k * 9 + 5, none⟩ = some (.slice none 0 0) := by
      have := hB1.cell (k * 9 + 5)
      rw [this]; simp [HVL.out]
    have z5 := hB1.frozen (k * 9 + 5)
    have g6 : w1.cell? ⟨w.heap.size, k * 9 + 6, none⟩ = some (.int .i64 0) := by
      have := hB1.cell (k * 9 + 6)
      rw [this]; simp [HVL.out]
    have z6 := hB1.frozen (k * 9 + 6)
    have g7 : w1.cell? ⟨w.heap.size, k * 9 + 7, none⟩ = some (.slice none 0 0) := by
      have := hB1.cell (k * 9 + 7)
      rw [this]; simp [HVL.out]
    have z7 := hB1.frozen (k * 9 + 7)
    have g8 : w1.cell? ⟨w.heap.size, k * 9 + 8, none⟩ = some (.slice none 0 0) := by
      have := hB1.cell (k * 9 + 8)
      rw [this]; simp [HVL.out]
    have z8 := hB1.frozen (k * 9 + 8)
    have HSET : Hid (∀ W : World, Blk W w.heap.size 35 (vs ++ (([.int .i64 0, .string ⟨#[]⟩, .string ⟨#[]⟩, .int .i64 0, .int .i64 0, .slice none 0 0, .int .i64 0, .slice none 0 0, .slice none 0 0] : List Value) ++ (List.replicate (n - (k + 1)) ([.int .i64 0, .string ⟨#[]⟩, .string ⟨#[]⟩, .int .i64 0, .int .i64 0, .slice none 0 0, .int .i64 0, .slice none 0 0, .slice none 0 0] : List Value)).flatten)).toArray → Blk ((((((((((W.setCell ⟨w.heap.size, k * 9, none⟩ (.int .i64 i0)).setCell ⟨w.heap.size, k * 9 + 1, none⟩ (.string s1)).setCell ⟨w.heap.size, k * 9 + 2, none⟩ (.string s2)).setCell ⟨w.heap.size, k * 9 + 3, none⟩ (.int .i64 i3)).setCell ⟨w.heap.size, k * 9 + 4, none⟩ (.int .i64 i4)).setCell ⟨w.heap.size, k * 9 + 5, none⟩ (.slice a5 n5 c5)).setCell ⟨w.heap.size, k * 9 + 6, none⟩ (.int .i64 i6)).setCell ⟨w.heap.size, k * 9 + 7, none⟩ (.slice a7 n7 c7)).setCell ⟨w.heap.size, k * 9 + 8, none⟩ (.slice a8 n8 c8))) w.heap.size 35 ((vs ++ ([.int .i64 i0, .string s1, .string s2, .int .i64 i3, .int .i64 i4, .slice a5 n5 c5, .int .i64 i6, .slice a7 n7 c7, .slice a8 n8 c8] : List Value)) ++ (List.replicate (n - (k + 1)) ([.int .i64 0, .string ⟨#[]⟩, .string ⟨#[]⟩, .int .i64 0, .int .i64 0, .slice none 0 0, .int .i64 0, .slice none 0 0, .slice none 0 0] : List Value)).flatten).toArray) := Lib.hid fun W hW => by
      have h1 := (((((((((hW.set_ (k * 9) (.int .i64 i0)).set_ (k * 9 + 1) (.string s1)).set_ (k * 9 + 2) (.string s2)).set_ (k * 9 + 3) (.int .i64 i3)).set_ (k * 9 + 4) (.int .i64 i4)).set_ (k * 9 + 5) (.slice a5 n5 c5)).set_ (k * 9 + 6) (.int .i64 i6)).set_ (k * 9 + 7) (.slice a7 n7 c7)).set_ (k * 9 + 8) (.slice a8 n8 c8))
      simp only [List.setIfInBounds_toArray] at h1
      have h2 := setRow_mid [.int .i64 i0, .string s1, .string s2, .int .i64 i3, .int .i64 i4, .slice a5 n5 c5, .int .i64 i6, .slice a7 n7 c7, .slice a8 n8 c8] vs [.int .i64 0, .string ⟨#[]⟩, .string ⟨#[]⟩, .int .i64 0, .int .i64 0, .slice none 0 0, .int .i64 0, .slice none 0 0, .slice none 0 0] (List.replicate (n - (k + 1)) ([.int .i64 0, .string ⟨#[]⟩, .string ⟨#[]⟩, .int .i64 0, .int .i64 0, .slice none 0 0, .int .i64 0, .slice none 0 0, .slice none 0 0] : List Value)).flatten rfl
      simp only [setRow] at h2
      rw [HVL.out] at h2
      rw [List.append_assoc, ← h2]
      exact h1
    have HB1 := Lib.hid hB1
    clear hB1 hsplit
    go_wp2
    go_roundw
    case rel =>
      refine ⟨k + 1, by omega, by go_num, ⟨vs ++ [.int .i64 i0, .string s1, .string s2, .int .i64 i3, .int .i64 i4, .slice a5 n5 c5, .int .i64 i6, .slice a7 n7 c7, .slice a8 n8 c8], by rw [List.length_append, HVL.out]; simp [Nat.succ_mul], HSET.out _ HB1.out, ?_⟩, ?_⟩
      · rw [hnext.out]
        refine FreshL.only (fp := [w.heap.size]) (FreshL.append hFr hb1 (by have := HB.out.lt; omega) hf1) ?_ (by simp)
        repeat (refine Only.setCell ?_ (by simp) _)
        exact Only.refl _ _
      · repeat (refine Below.setCell ?_ (by simp) _)
        exact hb.trans (hb1.mono hb.size)
    case measure => simp [intOf]; omega
end Go.Proofs.YtpoemjeelbmpkaaGreat
/-
  Equality of terms.
-/
namespace Go.Proofs.YtpoemjeelbmpkaaGreat
open Go.RowKit
set_option linter.unusedVariables false
set_option maxHeartbeats 1000000 in
theorem eqTerm_of (i0x : Int) (s1x : ByteArray) (s2x : ByteArray) (i3x : Int) (i4x : Int) (d5x : D) (i6x : Int) (d7x : D) (d8x : D) (i0y : Int) (s1y : ByteArray) (s2y : ByteArray) (i3y : Int) (i4y : Int) (d5y : D) (i6y : Int) (d7y : D) (d8y : D) (v5x : Value) (v7x : Value) (v8x : Value) (v5y : Value) (v7y : Value) (v8y : Value) (S S' : Nat) (w : World) (hs5 : EqTypeS d5x) (cf5 : Conf d5y (.sl .ty)) (hv5x : RepV w S d5x v5x) (hv5y : RepV w S' d5y v5y) (hs7 : EqTypeS d7x) (cf7 : Conf d7y (.sl .ty)) (hv7x : RepV w S d7x v7x) (hv7y : RepV w S' d7y v7y) (hs8 : EqTermS d8x) (cf8 : Conf d8y (.sl .tm)) (hv8x : RepV w S d8x v8x) (hv8y : RepV w S' d8y v8y) (hS : S ≤ w.heap.size) (hS' : S' ≤ w.heap.size) :
    Calls Tryz.prog 8 #[.agg #[.int .i64 i0x, .string s1x, .string s2x, .int .i64 i3x, .int .i64 i4x, v5x, .int .i64 i6x, v7x, v8x], .agg #[.int .i64 i0y, .string s1y, .string s2y, .int .i64 i3y, .int .i64 i4y, v5y, .int .i64 i6y, v7y, v8y]] w fun e w' => e = .returned (.bool (eqL [.int i0x, .str s1x, .str s2x, .int i3x, .int i4x, d5x, .int i6x, d7x, d8x] [.int i0y, .str s1y, .str s2y, .int i3y, .int i4y, d5y, .int i6y, d7y, d8y])) ∧ Below w.heap.size w w' := by
  have HS5 := Lib.hid hs5
  clear hs5
  have HS7 := Lib.hid hs7
  clear hs7
  have HS8 := Lib.hid hs8
  clear hs8
  have hB0 : Below w.heap.size w ((w.alloc (.cells #[.int .i64 i0x, .string s1x, .string s2x, .int .i64 i3x, .int .i64 i4x, v5x, .int .i64 i6x, v7x, v8x] 35)).alloc (.cells #[.int .i64 i0y, .string s1y, .string s2y, .int .i64 i3y, .int .i64 i4y, v5y, .int .i64 i6y, v7y, v8y] 35)) := ((Below.refl _ _).alloc (Nat.le_refl _) _).alloc (by simp) _
  have hX0 : Blk ((w.alloc (.cells #[.int .i64 i0x, .string s1x, .string s2x, .int .i64 i3x, .int .i64 i4x, v5x, .int .i64 i6x, v7x, v8x] 35)).alloc (.cells #[.int .i64 i0y, .string s1y, .string s2y, .int .i64 i3y, .int .i64 i4y, v5y, .int .i64 i6y, v7y, v8y] 35)) w.heap.size 35 #[.int .i64 i0x, .string s1x, .string s2x, .int .i64 i3x, .int .i64 i4x, v5x, .int .i64 i6x, v7x, v8x] := (Blk.new w _ _).alloc _
  have hY0 : Blk ((w.alloc (.cells #[.int .i64 i0x, .string s1x, .string s2x, .int .i64 i3x, .int .i64 i4x, v5x, .int .i64 i6x, v7x, v8x] 35)).alloc (.cells #[.int .i64 i0y, .string s1y, .string s2y, .int .i64 i3y, .int .i64 i4y, v5y, .int .i64 i6y, v7y, v8y] 35)) (w.heap.size + 1) 35 #[.int .i64 i0y, .string s1y, .string s2y, .int .i64 i3y, .int .i64 i4y, v5y, .int .i64 i6y, v7y, v8y] := by simpa using Blk.new (w.alloc (.cells #[.int .i64 i0x, .string s1x, .string s2x, .int .i64 i3x, .int .i64 i4x, v5x, .int .i64 i6x, v7x, v8x] 35)) 35 #[.int .i64 i0y, .string s1y, .string s2y, .int .i64 i3y, .int .i64 i4y, v5y, .int .i64 i6y, v7y, v8y]
  by_cases hc0 : i0x = i0y
  case neg =>
    have HF := Lib.hid (show eqL [.int i0x, .str s1x, .str s2x, .int i3x, .int i4x, d5x, .int i6x, d7x, d8x] [.int i0y, .str s1y, .str s2y, .int i3y, .int i4y, d5y, .int i6y, d7y, d8y] = false from eqL_f (by intro h; apply hc0; simp at h; simp [h]))
    have ht0_0 : (i0x != i0y) = true := by simp [hc0]
    clear hc0
    go_enter Tryz.func8, Tryz.ntmps8
    go_wp2
    go_ret
    exact ⟨by rw [HF.out]; rfl, hB0⟩
  have ht0_0 : (i0x != i0y) = false := by simp [hc0]
  have HC0 := Lib.hid hc0
  clear hc0
  by_cases hc1 : s1x = s1y
  case neg =>
    have HF := Lib.hid (show eqL [.int i0x, .str s1x, .str s2x, .int i3x, .int i4x, d5x, .int i6x, d7x, d8x] [.int i0y, .str s1y, .str s2y, .int i3y, .int i4y, d5y, .int i6y, d7y, d8y] = false from eqL_f (by intro h; apply hc1; simp at h; simp [h]))
    have ht1_0 : (s1x.toList == s1y.toList) = false := (Lib.bytes_beq_false_iff _ _).2 hc1
    clear hc1
    go_enter Tryz.func8, Tryz.ntmps8
    go_wp2
    go_ret
    exact ⟨by rw [HF.out]; rfl, hB0⟩
  have ht1_0 : (s1x.toList == s1y.toList) = true := (Lib.bytes_beq_iff _ _).2 hc1
  have HC1 := Lib.hid hc1
  clear hc1
  by_cases hc2 : s2x = s2y
  case neg =>
    have HF := Lib.hid (show eqL [.int i0x, .str s1x, .str s2x, .int i3x, .int i4x, d5x, .int i6x, d7x, d8x] [.int i0y, .str s1y, .str s2y, .int i3y, .int i4y, d5y, .int i6y, d7y, d8y] = false from eqL_f (by intro h; apply hc2; simp at h; simp [h]))
    have ht2_0 : (s2x.toList == s2y.toList) = false := (Lib.bytes_beq_false_iff _ _).2 hc2
    clear hc2
    go_enter Tryz.func8, Tryz.ntmps8
    go_wp2
    go_ret
    exact ⟨by rw [HF.out]; rfl, hB0⟩
  have ht2_0 : (s2x.toList == s2y.toList) = true := (Lib.bytes_beq_iff _ _).2 hc2
  have HC2 := Lib.hid hc2
  clear hc2
  by_cases hc3 : i3x = i3y
  case neg =>
    have HF := Lib.hid (show eqL [.int i0x, .str s1x, .str s2x, .int i3x, .int i4x, d5x, .int i6x, d7x, d8x] [.int i0y, .str s1y, .str s2y, .int i3y, .int i4y, d5y, .int i6y, d7y, d8y] = false from eqL_f (by intro h; apply hc3; simp at h; simp [h]))
    have ht3_0 : (i3x != i3y) = true := by simp [hc3]
    clear hc3
    go_enter Tryz.func8, Tryz.ntmps8
    go_wp2
    go_ret
    exact ⟨by rw [HF.out]; rfl, hB0⟩
  have ht3_0 : (i3x != i3y) = false := by simp [hc3]
  have HC3 := Lib.hid hc3
  clear hc3
  go_enter Tryz.func8, Tryz.ntmps8
  go_wp2_with fail
  refine (eqType_of i4x d5x i4y d5y v5x v5y S S' _ HS5.out cf5 (hv5x.later (hB0.mono hS) (Nat.le_refl _)) (hv5y.later (hB0.mono hS') (Nat.le_refl _)) (Nat.le_trans hS hB0.size) (Nat.le_trans hS' hB0.size)).mono ?_
  rintro e w1 ⟨rfl, hb1⟩
  have hB1 := hB0.trans (hb1.mono hB0.size)
  have hX1 := hX0.below hb1 hX0.lt
  have hY1 := hY0.below hb1 hY0.lt
  have x1_6 := hX1.cell 6
  simp at x1_6
  have y1_6 := hY1.cell 6
  simp at y1_6
  have x1_7 := hX1.cell 7
  simp at x1_7
  have y1_7 := hY1.cell 7
  simp at y1_7
  have x1_8 := hX1.cell 8
  simp at x1_8
  have y1_8 := hY1.cell 8
  simp at y1_8
  by_cases hc4 : [.int i4x, d5x] = [.int i4y, d5y]
  case neg =>
    have HF := Lib.hid (show eqL [.int i0x, .str s1x, .str s2x, .int i3x, .int i4x, d5x, .int i6x, d7x, d8x] [.int i0y, .str s1y, .str s2y, .int i3y, .int i4y, d5y, .int i6y, d7y, d8y] = false from eqL_f (by intro h; apply hc4; simp at h; simp [h]))
    rw [eqL_f hc4]
    clear hc4
    go_wp2
    go_ret
    exact ⟨by rw [HF.out]; rfl, hB1⟩
  rw [eqL_t hc4]
  have HC4 := Lib.hid hc4
  clear hc4
  go_wp2_with fail
  refine (eqType_of i6x d7x i6y d7y v7x v7y S S' _ HS7.out cf7 (hv7x.later (hB1.mono hS) (Nat.le_refl _)) (hv7y.later (hB1.mono hS') (Nat.le_refl _)) (Nat.le_trans hS hB1.size) (Nat.le_trans hS' hB1.size)).mono ?_
  rintro e w2 ⟨rfl, hb2⟩
  have hB2 := hB1.trans (hb2.mono hB1.size)
  have hX2 := hX1.below hb2 hX1.lt
  have hY2 := hY1.below hb2 hY1.lt
  have x2_8 := hX2.cell 8
  simp at x2_8
  have y2_8 := hY2.cell 8
  simp at y2_8
  by_cases hc6 : [.int i6x, d7x] = [.int i6y, d7y]
  case neg =>
    have HF := Lib.hid (show eqL [.int i0x, .str s1x, .str s2x, .int i3x, .int i4x, d5x, .int i6x, d7x, d8x] [.int i0y, .str s1y, .str s2y, .int i3y, .int i4y, d5y, .int i6y, d7y, d8y] = false from eqL_f (by intro h; apply hc6; simp at h; simp [h]))
    rw [eqL_f hc6]
    clear hc6
    go_wp2
    go_ret
    exact ⟨by rw [HF.out]; rfl, hB2⟩
  rw [eqL_t hc6]
  have HC6 := Lib.hid hc6
  clear hc6
  go_wp2_with fail
  refine (HS8.out d8y v8x v8y S S' _ cf8 (hv8x.later (hB2.mono hS) (Nat.le_refl _)) (hv8y.later (hB2.mono hS') (Nat.le_refl _)) (Nat.le_trans hS hB2.size) (Nat.le_trans hS' hB2.size)).mono ?_
  rintro e w3 ⟨rfl, hb3⟩
  have hB3 := hB2.trans (hb3.mono hB2.size)
  have hX3 := hX2.below hb3 hX2.lt
  have hY3 := hY2.below hb3 hY2.lt
  by_cases hc8 : d8x = d8y
  case neg =>
    have HF := Lib.hid (show eqL [.int i0x, .str s1x, .str s2x, .int i3x, .int i4x, d5x, .int i6x, d7x, d8x] [.int i0y, .str s1y, .str s2y, .int i3y, .int i4y, d5y, .int i6y, d7y, d8y] = false from eqL_f (by intro h; apply hc8; simp at h; simp [h]))
    rw [eqD_f hc8]
    clear hc8
    go_wp2
    go_ret
    exact ⟨by rw [HF.out]; rfl, hB3⟩
  rw [eqD_t hc8]
  have HC8 := Lib.hid hc8
  clear hc8
  have HF := Lib.hid (show eqL [.int i0x, .str s1x, .str s2x, .int i3x, .int i4x, d5x, .int i6x, d7x, d8x] [.int i0y, .str s1y, .str s2y, .int i3y, .int i4y, d5y, .int i6y, d7y, d8y] = true from eqL_t (by
    have g0 := HC0.out
    have g1 := HC1.out
    have g2 := HC2.out
    have g3 := HC3.out
    have g4 := HC4.out
    have g5 := HC6.out
    have g6 := HC8.out
    try simp at g0
    try simp at g1
    try simp at g2
    try simp at g3
    try simp at g4
    try simp at g5
    try simp at g6
    simp [g0, g1, g2, g3, g4, g5, g6]))
  go_wp2
  go_ret
  exact ⟨by rw [HF.out]; rfl, hB3⟩
set_option maxHeartbeats 2000000 in
theorem eqTermS_all : ∀ d, Conf d (.sl .tm) → EqTermS d := by
  refine D.ind (fun d hd h => by rcases hd with rfl | ⟨_, rfl⟩ <;> (unfold Conf at h; exact h.elim)) (fun n h => by unfold Conf at h; cases h) (fun b h => by unfold Conf at h; cases h) (fun s h => by unfold Conf at h; cases h) fun sz n cs ih h => ?_
  unfold Conf at h
  obtain ⟨k0, e, hsz, hl, hm, hcs⟩ := h
  injection e with e
  subst e
  obtain rfl : sz = 9 := hsz
  intro d' v u S S' w h' hv hu hS hS'
  obtain ⟨n', cs', hde, hl', hm', hcs'⟩ := conf_sl h'
  obtain rfl : d' = .rows 9 n' cs' := hde
  replace hl' : cs'.length = n' * 9 := hl'
  obtain ⟨a, cap, rfl, hnc, hcm, _, hsl⟩ := hv.slc
  obtain ⟨a', cap', rfl, hnc', hcm', _, hsl'⟩ := hu.slc
  clear hsl hsl' h'
  unfold maxLen at hm hm' hcm hcm'
  by_cases hnn : n = n'
  case neg =>
    have HF := Lib.hid (show eqD (.rows 9 n cs) (.rows 9 n' cs') = false from eqD_f (by intro h; injection h with _ h1 _; exact hnn h1))
    have hne : ((n : Int) != (n' : Int)) = true := by simp; omega
    clear ih hcs hcs' hnn hl hl'
    go_enter Tryz.func18, Tryz.ntmps18
    go_wp2
    go_ret
    exact ⟨by rw [HF.out]; rfl, Below.refl _ _⟩
  subst hnn
  have hne : ((n : Int) != (n : Int)) = false := by simp
  have IH := Lib.hid ih
  have HCS := Lib.hid hcs
  have HV := Lib.hid hv
  have HL := Lib.hid hl
  have HCS' := Lib.hid hcs'
  have HU := Lib.hid hu
  have HL' := Lib.hid hl'
  clear ih hcs hv hl hcs' hu hl'
  go_enter Tryz.func18, Tryz.ntmps18
  go_wp2
  go_loopw [5] (fun i wr => ∃ k : Nat, k ≤ n ∧ i = .int .i64 k ∧ Hid (cs.take (k * 9) = cs'.take (k * 9)) ∧ Below w.heap.size w wr) (fun i _ => n - (intOf i).toNat)
  case atStart => exact ⟨0, Nat.zero_le _, rfl, by simp [Hid], Below.refl _ _⟩
  case round =>
    obtain ⟨k, hk, rfl, HQ, hb⟩ := hrel
    by_cases hlt : k < n
    case neg =>
      have HF := Lib.hid (show eqD (.rows 9 n cs) (.rows 9 n cs') = true from eqD_t (by
        have h1 := HQ.out
        rw [List.take_of_length_le (by rw [HL.out]; exact Nat.mul_le_mul_right _ (by omega)), List.take_of_length_le (by rw [HL'.out]; exact Nat.mul_le_mul_right _ (by omega))] at h1
        rw [h1]))
      go_wp2
      go_ret
      exact ⟨by rw [HF.out]; rfl, hb⟩
    obtain ⟨b, off, rv, rfl, hbS, hcells, hrep⟩ := HV.out.row k hlt
    obtain ⟨b', off', rv', rfl, hbS', hcells', hrep'⟩ := HU.out.row k hlt
    obtain ⟨i0x, s1x, s2x, i3x, i4x, d5x, i6x, d7x, d8x, hrowx, cf5x, cf7x, cf8x⟩ := conf_tm (conf_row n K.tm.fields cs k HCS.out hlt)
    obtain ⟨i0y, s1y, s2y, i3y, i4y, d5y, i6y, d7y, d8y, hrowy, cf5y, cf7y, cf8y⟩ := conf_tm (conf_row n K.tm.fields cs' k HCS'.out hlt)
    replace hrowx : rowAt 9 cs k = [.int i0x, .str s1x, .str s2x, .int i3x, .int i4x, d5x, .int i6x, d7x, d8x] := hrowx
    replace hrowy : rowAt 9 cs' k = [.int i0y, .str s1y, .str s2y, .int i3y, .int i4y, d5y, .int i6y, d7y, d8y] := hrowy
    rw [hrowx] at hrep
    rw [hrowy] at hrep'
    simp only [RepVs, RepV] at hrep hrep'
    obtain ⟨z0x, q0x, rfl, rfl, z1x, q1x, rfl, rfl, z2x, q2x, rfl, rfl, z3x, q3x, rfl, rfl, z4x, q4x, rfl, rfl, v5x, q5x, rfl, hv5x, z6x, q6x, rfl, rfl, v7x, q7x, rfl, hv7x, v8x, q8x, rfl, hv8x, rfl⟩ := hrep
    obtain ⟨z0y, q0y, rfl, rfl, z1y, q1y, rfl, rfl, z2y, q2y, rfl, rfl, z3y, q3y, rfl, rfl, z4y, q4y, rfl, rfl, v5y, q5y, rfl, hv5y, z6y, q6y, rfl, rfl, v7y, q7y, rfl, hv7y, v8y, q8y, rfl, hv8y, rfl⟩ := hrep'
    have c0 := hcells 0 (by simp)
    have e0 := hcells' 0 (by simp)
    have c1 := hcells 1 (by simp)
    have e1 := hcells' 1 (by simp)
    have c2 := hcells 2 (by simp)
    have e2 := hcells' 2 (by simp)
    have c3 := hcells 3 (by simp)
    have e3 := hcells' 3 (by simp)
    have c4 := hcells 4 (by simp)
    have e4 := hcells' 4 (by simp)
    have c5 := hcells 5 (by simp)
    have e5 := hcells' 5 (by simp)
    have c6 := hcells 6 (by simp)
    have e6 := hcells' 6 (by simp)
    have c7 := hcells 7 (by simp)
    have e7 := hcells' 7 (by simp)
    have c8 := hcells 8 (by simp)
    have e8 := hcells' 8 (by simp)
    simp at c0 e0 c1 e1 c2 e2 c3 e3 c4 e4 c5 e5 c6 e6 c7 e7 c8 e8
    replace c0 := (hb.cell (p := ⟨b, off + k * 9, none⟩) (World.block_lt_of_cell? w _ c0)).trans c0
    replace e0 := (hb.cell (p := ⟨b', off' + k * 9, none⟩) (World.block_lt_of_cell? w _ e0)).trans e0
    replace c1 := (hb.cell (p := ⟨b, off + k * 9 + 1, none⟩) (World.block_lt_of_cell? w _ c1)).trans c1
    replace e1 := (hb.cell (p := ⟨b', off' + k * 9 + 1, none⟩) (World.block_lt_of_cell? w _ e1)).trans e1
    replace c2 := (hb.cell (p := ⟨b, off + k * 9 + 2, none⟩) (World.block_lt_of_cell? w _ c2)).trans c2
    replace e2 := (hb.cell (p := ⟨b', off' + k * 9 + 2, none⟩) (World.block_lt_of_cell? w _ e2)).trans e2
    replace c3 := (hb.cell (p := ⟨b, off + k * 9 + 3, none⟩) (World.block_lt_of_cell? w _ c3)).trans c3
    replace e3 := (hb.cell (p := ⟨b', off' + k * 9 + 3, none⟩) (World.block_lt_of_cell? w _ e3)).trans e3
    replace c4 := (hb.cell (p := ⟨b, off + k * 9 + 4, none⟩) (World.block_lt_of_cell? w _ c4)).trans c4
    replace e4 := (hb.cell (p := ⟨b', off' + k * 9 + 4, none⟩) (World.block_lt_of_cell? w _ e4)).trans e4
    replace c5 := (hb.cell (p := ⟨b, off + k * 9 + 5, none⟩) (World.block_lt_of_cell? w _ c5)).trans c5
    replace e5 := (hb.cell (p := ⟨b', off' + k * 9 + 5, none⟩) (World.block_lt_of_cell? w _ e5)).trans e5
    replace c6 := (hb.cell (p := ⟨b, off + k * 9 + 6, none⟩) (World.block_lt_of_cell? w _ c6)).trans c6
    replace e6 := (hb.cell (p := ⟨b', off' + k * 9 + 6, none⟩) (World.block_lt_of_cell? w _ e6)).trans e6
    replace c7 := (hb.cell (p := ⟨b, off + k * 9 + 7, none⟩) (World.block_lt_of_cell? w _ c7)).trans c7
    replace e7 := (hb.cell (p := ⟨b', off' + k * 9 + 7, none⟩) (World.block_lt_of_cell? w _ e7)).trans e7
    replace c8 := (hb.cell (p := ⟨b, off + k * 9 + 8, none⟩) (World.block_lt_of_cell? w _ c8)).trans c8
    replace e8 := (hb.cell (p := ⟨b', off' + k * 9 + 8, none⟩) (World.block_lt_of_cell? w _ e8)).trans e8
    clear hcells hcells'
    have HD5 := Lib.hid (eqTypeS_all d5x cf5x)
    have hw5x := hv5x.later (hb.mono hS) (Nat.le_refl _)
    have hw5y := hv5y.later (hb.mono hS') (Nat.le_refl _)
    clear hv5x hv5y
    have HD7 := Lib.hid (eqTypeS_all d7x cf7x)
    have hw7x := hv7x.later (hb.mono hS) (Nat.le_refl _)
    have hw7y := hv7y.later (hb.mono hS') (Nat.le_refl _)
    clear hv7x hv7y
    have HD8 := Lib.hid (IH.out d8x (rowAt_mem 9 k cs d8x (by rw [hrowx]; simp)) cf8x)
    have hw8x := hv8x.later (hb.mono hS) (Nat.le_refl _)
    have hw8y := hv8y.later (hb.mono hS') (Nat.le_refl _)
    clear hv8x hv8y
    have hi1 : (k : Int) < (n : Int) := by omega
    have hSw : S ≤ wr.heap.size := Nat.le_trans hS hb.size
    have hSw' : S' ≤ wr.heap.size := Nat.le_trans hS' hb.size
    have HR : Hid (∀ q : Bool, q = true ∨ q = false) := Lib.hid fun q => by cases q <;> simp
    go_wp2_with fail
    go_region_with (go_at_call 8; refine (eqTerm_of i0x s1x s2x i3x i4x d5x i6x d7x d8x i0y s1y s2y i3y i4y d5y i6y d7y d8y v5x v7x v8x v5y v7y v8y S S' _ ?_ ?_ ?_ ?_ ?_ ?_ ?_ ?_ ?_ ?_ ?_ ?_ ?_ ?_).mono ?_; exact HD5.out; exact cf5y; exact hw5x.same rfl; exact hw5y.same rfl; exact HD7.out; exact cf7y; exact hw7x.same rfl; exact hw7y.same rfl; exact HD8.out; exact cf8y; exact hw8x.same rfl; exact hw8y.same rfl; exact hSw; exact hSw'; rintro e w1 ⟨rfl, hb1⟩)
    all_goals
      by_cases hdd : ([.int i0x, .str s1x, .str s2x, .int i3x, .int i4x, d5x, .int i6x, d7x, d8x] : List D) = [.int i0y, .str s1y, .str s2y, .int i3y, .int i4y, d5y, .int i6y, d7y, d8y]
      · rw [eqL_t hdd]
        have HQ2 : Hid (cs.take ((k + 1) * 9) = cs'.take ((k + 1) * 9)) := Lib.hid (by rw [take_rowAt, take_rowAt, HQ.out, hrowx, hrowy, hdd])
        clear hdd hrowx hrowy HQ
        go_wp2
        go_roundw
        case rel => exact ⟨k + 1, by omega, by go_num, HQ2, hb.drew.trans (hb1.mono hb.size)⟩
        case measure => simp [intOf]; omega
      · rw [eqL_f hdd]
        have HF := Lib.hid (show eqD (.rows 9 n cs) (.rows 9 n cs') = false from eqD_f (by intro h; injection h with _ _ h2; subst h2; exact hdd (hrowx.symm.trans hrowy)))
        clear hdd hrowx hrowy HQ
        go_wp2
        go_ret
        exact ⟨by rw [HF.out]; rfl, hb.drew.trans (hb1.mono hb.size)⟩
end Go.Proofs.YtpoemjeelbmpkaaGreat
