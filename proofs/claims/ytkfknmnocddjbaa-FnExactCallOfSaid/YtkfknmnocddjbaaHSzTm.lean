/-
  Sizes of terms that came in.
-/
import Derived.Test.YtkfknmnocddjbaaHSzTy
namespace Go.Proofs.Ytkfknmnocddjbaa
open Go.RowKit
set_option linter.unusedVariables false
set_option maxHeartbeats 1000000 in
theorem szTerm_of (i0 : Int) (s1 : ByteArray) (s2 : ByteArray) (i3 : Int) (i4 : Int) (d5 : D) (i6 : Int) (d7 : D) (d8 : D) (v5 : Value) (v7 : Value) (v8 : Value) (S : Nat) (w : World) (left : Int) (hs5 : SzTypeS d5) (hv5 : RepV w S d5 v5) (hs7 : SzTypeS d7) (hv7 : RepV w S d7 v7) (hs8 : SzTermS d8) (hv8 : RepV w S d8 v8) (hS : S ≤ w.heap.size) (h0 : 0 ≤ left) (h1 : left ≤ 1048576) (hl1 : s1.size ≤ maxLen) (hl2 : s2.size ≤ maxLen) :
    Calls Try.prog 11 #[.agg #[.int .i64 i0, .string s1, .string s2, .int .i64 i3, .int .i64 i4, v5, .int .i64 i6, v7, v8], .int .i64 left] w fun e w' => e = .returned (.int .i64 (szR left (szL [.int i0, .str s1, .str s2, .int i3, .int i4, d5, .int i6, d7, d8]))) ∧ Below w.heap.size w w' := by
  have hsum : szL [.int i0, .str s1, .str s2, .int i3, .int i4, d5, .int i6, d7, d8] = s1.size + s2.size + szD d5 + szD d7 + szD d8 := by simp [szL, szD]; omega
  have HSUM := Lib.hid hsum
  clear hsum
  unfold maxLen at hl1
  unfold maxLen at hl2
  have HS5 := Lib.hid hs5
  clear hs5
  have HS7 := Lib.hid hs7
  clear hs7
  have HS8 := Lib.hid hs8
  clear hs8
  have hB0 : Below w.heap.size w (w.alloc (.cells #[.int .i64 i0, .string s1, .string s2, .int .i64 i3, .int .i64 i4, v5, .int .i64 i6, v7, v8] 28)) := (Below.refl _ _).alloc (Nat.le_refl _) _
  have hX0 : Blk (w.alloc (.cells #[.int .i64 i0, .string s1, .string s2, .int .i64 i3, .int .i64 i4, v5, .int .i64 i6, v7, v8] 28)) w.heap.size 28 #[.int .i64 i0, .string s1, .string s2, .int .i64 i3, .int .i64 i4, v5, .int .i64 i6, v7, v8] := Blk.new _ _ _
  by_cases hc0 : (s1.size : Int) ≤ left
  case neg =>
    have HF := Lib.hid (szR_out left (szL [.int i0, .str s1, .str s2, .int i3, .int i4, d5, .int i6, d7, d8]) (by rw [HSUM.out]; omega))
    have hng : left - (s1.size : Int) < 0 := by omega
    go_enter Try.func11, Try.ntmps11
    go_wp2
    go_ret
    exact ⟨by rw [HF.out]; rfl, hB0⟩
  have hn0 : ¬ left - (s1.size : Int) < 0 := by omega
  by_cases hc1 : (s2.size : Int) ≤ left - (s1.size : Int)
  case neg =>
    have HF := Lib.hid (szR_out left (szL [.int i0, .str s1, .str s2, .int i3, .int i4, d5, .int i6, d7, d8]) (by rw [HSUM.out]; omega))
    have hng : left - (s1.size : Int) - (s2.size : Int) < 0 := by omega
    go_enter Try.func11, Try.ntmps11
    go_wp2
    go_ret
    exact ⟨by rw [HF.out]; rfl, hB0⟩
  have hn1 : ¬ left - (s1.size : Int) - (s2.size : Int) < 0 := by omega
  go_enter Try.func11, Try.ntmps11
  go_wp2_with fail
  refine (szType_of i4 d5 v5 S _ _ HS5.out (hv5.later (hB0.mono hS) (Nat.le_refl _)) (Nat.le_trans hS hB0.size) (by omega) (by omega) ).mono ?_
  rintro e w3 ⟨rfl, hb3⟩
  have hB3 := hB0.trans (hb3.mono hB0.size)
  have hX3 := hX0.below hb3 hX0.lt
  have y3_6 := hX3.cell 6
  simp at y3_6
  have y3_7 := hX3.cell 7
  simp at y3_7
  have y3_8 := hX3.cell 8
  simp at y3_8
  have hq2 : szL [.int i4, d5] = szD d5 := by simp [szL, szD]
  rw [hq2]
  clear hq2
  by_cases hc2 : ((szD d5) : Int) ≤ left - (s1.size : Int) - (s2.size : Int)
  case neg =>
    have HF := Lib.hid (szR_out left (szL [.int i0, .str s1, .str s2, .int i3, .int i4, d5, .int i6, d7, d8]) (by rw [HSUM.out]; omega))
    have HE := Lib.hid (szR_out (left - (s1.size : Int) - (s2.size : Int)) (szD d5) (by omega))
    rw [HE.out]
    go_wp2
    go_ret
    exact ⟨by rw [HF.out]; rfl, hB3⟩
  have HE2 := Lib.hid (szR_in (left - (s1.size : Int) - (s2.size : Int)) (szD d5) hc2)
  rw [HE2.out]
  have hn2 : ¬ left - (s1.size : Int) - (s2.size : Int) - ((szD d5) : Int) < 0 := by omega
  go_wp2_with fail
  refine (szType_of i6 d7 v7 S _ _ HS7.out (hv7.later (hB3.mono hS) (Nat.le_refl _)) (Nat.le_trans hS hB3.size) (by omega) (by omega) ).mono ?_
  rintro e w4 ⟨rfl, hb4⟩
  have hB4 := hB3.trans (hb4.mono hB3.size)
  have hX4 := hX3.below hb4 hX3.lt
  have y4_8 := hX4.cell 8
  simp at y4_8
  have hq3 : szL [.int i6, d7] = szD d7 := by simp [szL, szD]
  rw [hq3]
  clear hq3
  by_cases hc3 : ((szD d7) : Int) ≤ left - (s1.size : Int) - (s2.size : Int) - (szD d5 : Int)
  case neg =>
    have HF := Lib.hid (szR_out left (szL [.int i0, .str s1, .str s2, .int i3, .int i4, d5, .int i6, d7, d8]) (by rw [HSUM.out]; omega))
    have HE := Lib.hid (szR_out (left - (s1.size : Int) - (s2.size : Int) - (szD d5 : Int)) (szD d7) (by omega))
    rw [HE.out]
    go_wp2
    go_ret
    exact ⟨by rw [HF.out]; rfl, hB4⟩
  have HE3 := Lib.hid (szR_in (left - (s1.size : Int) - (s2.size : Int) - (szD d5 : Int)) (szD d7) hc3)
  rw [HE3.out]
  have hn3 : ¬ left - (s1.size : Int) - (s2.size : Int) - (szD d5 : Int) - ((szD d7) : Int) < 0 := by omega
  go_wp2_with fail
  refine (HS8.out v8 S _ _ (hv8.later (hB4.mono hS) (Nat.le_refl _)) (Nat.le_trans hS hB4.size) (by omega) (by omega)).mono ?_
  rintro e w5 ⟨rfl, hb5⟩
  have hB5 := hB4.trans (hb5.mono hB4.size)
  have hX5 := hX4.below hb5 hX4.lt
  by_cases hc4 : ((szD d8) : Int) ≤ left - (s1.size : Int) - (s2.size : Int) - (szD d5 : Int) - (szD d7 : Int)
  case neg =>
    have HF := Lib.hid (szR_out left (szL [.int i0, .str s1, .str s2, .int i3, .int i4, d5, .int i6, d7, d8]) (by rw [HSUM.out]; omega))
    have HE := Lib.hid (szR_out (left - (s1.size : Int) - (s2.size : Int) - (szD d5 : Int) - (szD d7 : Int)) (szD d8) (by omega))
    rw [HE.out]
    go_wp2
    go_ret
    exact ⟨by rw [HF.out]; rfl, hB5⟩
  have HE4 := Lib.hid (szR_in (left - (s1.size : Int) - (s2.size : Int) - (szD d5 : Int) - (szD d7 : Int)) (szD d8) hc4)
  rw [HE4.out]
  have hn4 : ¬ left - (s1.size : Int) - (s2.size : Int) - (szD d5 : Int) - (szD d7 : Int) - ((szD d8) : Int) < 0 := by omega
  have HF := Lib.hid (szR_in left (szL [.int i0, .str s1, .str s2, .int i3, .int i4, d5, .int i6, d7, d8]) (by rw [HSUM.out]; omega))
  go_wp2
  go_ret
  exact ⟨ret_int (by rw [HF.out, HSUM.out] <;> omega), hB5⟩
set_option maxHeartbeats 1000000 in
theorem szTermS_all : ∀ d, Conf d (.sl .tm) → StrB d → SzTermS d := by
  refine D.ind (fun d hd h => by rcases hd with rfl | ⟨_, rfl⟩ <;> (unfold Conf at h; exact h.elim)) (fun n h => by unfold Conf at h; cases h) (fun b h => by unfold Conf at h; cases h) (fun s h => by unfold Conf at h; cases h) fun sz n cs ih h hsb => ?_
  unfold Conf at h
  obtain ⟨k0, e, hsz, hl, hm, hcs⟩ := h
  injection e with e
  subst e
  obtain rfl : sz = 9 := hsz
  intro v S w left hv hS h0 h1
  obtain ⟨a, cap, rfl, hnc, hcm, _, hsl⟩ := hv.slc
  clear hsl
  unfold maxLen at hm hcm
  have hszn : szD (.rows 9 n cs) = n + szL cs := by simp only [szD]
  by_cases hn : (n : Int) ≤ left
  case neg =>
    have HE := Lib.hid (show szR left (szD (.rows 9 n cs)) = -1 from szR_out _ _ (by rw [hszn]; omega))
    have hneg : left - (n : Int) < 0 := by omega
    clear hszn ih hcs
    go_enter Try.func56, Try.ntmps56
    go_wp2
    go_ret
    exact ⟨by rw [HE.out]; rfl, Below.refl _ _⟩
  have hnn : ¬ left - (n : Int) < 0 := by omega
  have hnf : decide (left - (n : Int) < 0) = false := by simpa using hnn
  unfold StrB at hsb
  have HSZ := Lib.hid hszn
  have IH := Lib.hid ih
  have HCS := Lib.hid hcs
  have HV := Lib.hid hv
  have HL := Lib.hid hl
  have HSB := Lib.hid hsb
  clear ih hcs hszn hv hl hsb
  go_enter Try.func56, Try.ntmps56
  go_wp2
  go_loopw [1, 5] (fun l i wr => ∃ k : Nat, k ≤ n ∧ i = .int .i64 k ∧ l = .int .i64 (left - n - szL (cs.take (k * 9))) ∧ 0 ≤ left - n - szL (cs.take (k * 9)) ∧ Below w.heap.size w wr) (fun _ i _ => n - (intOf i).toNat)
  case atStart => exact ⟨0, Nat.zero_le _, rfl, by simp [szL], by simp [szL]; omega, Below.refl _ _⟩
  case round =>
    obtain ⟨k, hk, rfl, rfl, hpos, hb⟩ := hrel
    by_cases hlt : k < n
    case neg =>
      have HT := Lib.hid (show cs.take (k * 9) = cs by
        apply List.take_of_length_le
        rw [HL.out]; exact Nat.mul_le_mul_right _ (by omega))
      have HF := Lib.hid (show szR left (szD (.rows 9 n cs)) = left - n - szL cs by
        have h2 := hpos
        rw [HT.out] at h2
        rw [szR_in _ _ (by rw [HSZ.out]; omega), HSZ.out]; omega)
      go_wp2
      go_ret
      exact ⟨by rw [HF.out, HT.out]; rfl, hb⟩
    obtain ⟨b, off, rv, rfl, hbS, hcells, hrep⟩ := HV.out.row k hlt
    obtain ⟨i0, s1, s2, i3, i4, d5, i6, d7, d8, hrow, cf5, cf7, cf8⟩ := conf_tm (conf_row n K.tm.fields cs k HCS.out hlt)
    replace hrow : rowAt 9 cs k = [.int i0, .str s1, .str s2, .int i3, .int i4, d5, .int i6, d7, d8] := hrow
    rw [hrow] at hrep
    simp only [RepVs, RepV] at hrep
    obtain ⟨z0, q0, rfl, rfl, z1, q1, rfl, rfl, z2, q2, rfl, rfl, z3, q3, rfl, rfl, z4, q4, rfl, rfl, v5, q5, rfl, hv5, z6, q6, rfl, rfl, v7, q7, rfl, hv7, v8, q8, rfl, hv8, rfl⟩ := hrep
    have c0 := hcells 0 (by simp)
    have c1 := hcells 1 (by simp)
    have c2 := hcells 2 (by simp)
    have c3 := hcells 3 (by simp)
    have c4 := hcells 4 (by simp)
    have c5 := hcells 5 (by simp)
    have c6 := hcells 6 (by simp)
    have c7 := hcells 7 (by simp)
    have c8 := hcells 8 (by simp)
    simp at c0 c1 c2 c3 c4 c5 c6 c7 c8
    replace c0 := (hb.cell (p := ⟨b, off + k * 9, none⟩) (World.block_lt_of_cell? w _ c0)).trans c0
    replace c1 := (hb.cell (p := ⟨b, off + k * 9 + 1, none⟩) (World.block_lt_of_cell? w _ c1)).trans c1
    replace c2 := (hb.cell (p := ⟨b, off + k * 9 + 2, none⟩) (World.block_lt_of_cell? w _ c2)).trans c2
    replace c3 := (hb.cell (p := ⟨b, off + k * 9 + 3, none⟩) (World.block_lt_of_cell? w _ c3)).trans c3
    replace c4 := (hb.cell (p := ⟨b, off + k * 9 + 4, none⟩) (World.block_lt_of_cell? w _ c4)).trans c4
    replace c5 := (hb.cell (p := ⟨b, off + k * 9 + 5, none⟩) (World.block_lt_of_cell? w _ c5)).trans c5
    replace c6 := (hb.cell (p := ⟨b, off + k * 9 + 6, none⟩) (World.block_lt_of_cell? w _ c6)).trans c6
    replace c7 := (hb.cell (p := ⟨b, off + k * 9 + 7, none⟩) (World.block_lt_of_cell? w _ c7)).trans c7
    replace c8 := (hb.cell (p := ⟨b, off + k * 9 + 8, none⟩) (World.block_lt_of_cell? w _ c8)).trans c8
    clear hcells
    have hrs : szL [.int i0, .str s1, .str s2, .int i3, .int i4, d5, .int i6, d7, d8] = s1.size + s2.size + szD d5 + szD d7 + szD d8 := by simp [szL, szD]; omega
    have hnext := Lib.hid (show szL (cs.take ((k + 1) * 9)) = szL (cs.take (k * 9)) + szL [.int i0, .str s1, .str s2, .int i3, .int i4, d5, .int i6, d7, d8] by rw [take_rowAt, hrow, szL_append])
    have HRS := Lib.hid hrs
    have hsb5 := StrBL.mem cs d5 (rowAt_mem 9 k cs d5 (by rw [hrow]; simp)) HSB.out
    have HD5 := Lib.hid (szTypeS_all d5 cf5 hsb5)
    clear hsb5
    have hsb7 := StrBL.mem cs d7 (rowAt_mem 9 k cs d7 (by rw [hrow]; simp)) HSB.out
    have HD7 := Lib.hid (szTypeS_all d7 cf7 hsb7)
    clear hsb7
    have hsb8 := StrBL.mem cs d8 (rowAt_mem 9 k cs d8 (by rw [hrow]; simp)) HSB.out
    have HD8 := Lib.hid (IH.out d8 (rowAt_mem 9 k cs d8 (by rw [hrow]; simp)) cf8 hsb8)
    clear hsb8
    have wf1 : s1.size ≤ maxLen := StrBL.mem cs (.str s1) (rowAt_mem 9 k cs (.str s1) (by rw [hrow]; simp)) HSB.out
    have wf2 : s2.size ≤ maxLen := StrBL.mem cs (.str s2) (rowAt_mem 9 k cs (.str s2) (by rw [hrow]; simp)) HSB.out
    have hSw : S ≤ wr.heap.size := Nat.le_trans hS hb.size
    clear hrow hrs cf5 cf7 cf8
    have hle := szL_take_le cs ((k + 1) * 9)
    rw [hnext.out] at hle
    by_cases hfit : (szL [.int i0, .str s1, .str s2, .int i3, .int i4, d5, .int i6, d7, d8] : Int) ≤ left - n - szL (cs.take (k * 9))
    · have HE := Lib.hid (szR_in _ _ hfit)
      have hnn2 : ¬ left - n - szL (cs.take (k * 9)) - (szL [.int i0, .str s1, .str s2, .int i3, .int i4, d5, .int i6, d7, d8] : Int) < 0 := by omega
      clear hle
      go_wp2_with fail
      refine (szTerm_of i0 s1 s2 i3 i4 d5 i6 d7 d8 v5 v7 v8 S wr _ HD5.out (hv5.later (hb.mono hS) (Nat.le_refl _)) HD7.out (hv7.later (hb.mono hS) (Nat.le_refl _)) HD8.out (hv8.later (hb.mono hS) (Nat.le_refl _)) hSw hpos (by omega) wf1 wf2).mono ?_
      rintro e w1 ⟨rfl, hb1⟩
      rw [HE.out]
      go_wp2
      go_roundw
      case rel => exact ⟨k + 1, by omega, by go_num, by rw [hnext.out]; go_num, by rw [hnext.out]; omega, hb.trans (hb1.mono hb.size)⟩
      case measure => simp [intOf]; omega
    · have HE := Lib.hid (szR_out (left - n - szL (cs.take (k * 9))) (szL [.int i0, .str s1, .str s2, .int i3, .int i4, d5, .int i6, d7, d8]) (by omega))
      have HF := Lib.hid (show szR left (szD (.rows 9 n cs)) = -1 from szR_out _ _ (by rw [HSZ.out]; omega))
      clear hle
      go_wp2_with fail
      refine (szTerm_of i0 s1 s2 i3 i4 d5 i6 d7 d8 v5 v7 v8 S wr _ HD5.out (hv5.later (hb.mono hS) (Nat.le_refl _)) HD7.out (hv7.later (hb.mono hS) (Nat.le_refl _)) HD8.out (hv8.later (hb.mono hS) (Nat.le_refl _)) hSw hpos (by omega) wf1 wf2).mono ?_
      rintro e w1 ⟨rfl, hb1⟩
      rw [HE.out]
      go_wp2
      go_ret
      exact ⟨by rw [HF.out]; rfl, hb.trans (hb1.mono hb.size)⟩
end Go.Proofs.Ytkfknmnocddjbaa
