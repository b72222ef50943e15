/-
  Equality of terms.
-/
import Derived.Test.YtlmnfemobajmlaaDoorHEqTy
namespace Go.Proofs.YtlmnfemobajmlaaDoor
open Go.RowKit
set_option linter.unusedVariables false
set_option maxHeartbeats 1000000 in
theorem eqTerm_of (i0x : Int) (s1x : ByteArray) (s2x : ByteArray) (i3x : Int) (i4x : Int) (d5x : D) (i6x : Int) (d7x : D) (d8x : D) (i0y : Int) (s1y : ByteArray) (s2y : ByteArray) (i3y : Int) (i4y : Int) (d5y : D) (i6y : Int) (d7y : D) (d8y : D) (v5x : Value) (v7x : Value) (v8x : Value) (v5y : Value) (v7y : Value) (v8y : Value) (S S' : Nat) (w : World) (hs5 : EqTypeS d5x) (cf5 : Conf d5y (.sl .ty)) (hv5x : RepV w S d5x v5x) (hv5y : RepV w S' d5y v5y) (hs7 : EqTypeS d7x) (cf7 : Conf d7y (.sl .ty)) (hv7x : RepV w S d7x v7x) (hv7y : RepV w S' d7y v7y) (hs8 : EqTermS d8x) (cf8 : Conf d8y (.sl .tm)) (hv8x : RepV w S d8x v8x) (hv8y : RepV w S' d8y v8y) (hS : S ≤ w.heap.size) (hS' : S' ≤ w.heap.size) :
    Calls Tryd.prog 9 #[.agg #[.int .i64 i0x, .string s1x, .string s2x, .int .i64 i3x, .int .i64 i4x, v5x, .int .i64 i6x, v7x, v8x], .agg #[.int .i64 i0y, .string s1y, .string s2y, .int .i64 i3y, .int .i64 i4y, v5y, .int .i64 i6y, v7y, v8y]] w fun e w' => e = .returned (.bool (eqL [.int i0x, .str s1x, .str s2x, .int i3x, .int i4x, d5x, .int i6x, d7x, d8x] [.int i0y, .str s1y, .str s2y, .int i3y, .int i4y, d5y, .int i6y, d7y, d8y])) ∧ Below w.heap.size w w' := by
  have HS5 := Lib.hid hs5
  clear hs5
  have HS7 := Lib.hid hs7
  clear hs7
  have HS8 := Lib.hid hs8
  clear hs8
  have hB0 : Below w.heap.size w ((w.alloc (.cells #[.int .i64 i0x, .string s1x, .string s2x, .int .i64 i3x, .int .i64 i4x, v5x, .int .i64 i6x, v7x, v8x] 28)).alloc (.cells #[.int .i64 i0y, .string s1y, .string s2y, .int .i64 i3y, .int .i64 i4y, v5y, .int .i64 i6y, v7y, v8y] 28)) := ((Below.refl _ _).alloc (Nat.le_refl _) _).alloc (by simp) _
  have hX0 : Blk ((w.alloc (.cells #[.int .i64 i0x, .string s1x, .string s2x, .int .i64 i3x, .int .i64 i4x, v5x, .int .i64 i6x, v7x, v8x] 28)).alloc (.cells #[.int .i64 i0y, .string s1y, .string s2y, .int .i64 i3y, .int .i64 i4y, v5y, .int .i64 i6y, v7y, v8y] 28)) w.heap.size 28 #[.int .i64 i0x, .string s1x, .string s2x, .int .i64 i3x, .int .i64 i4x, v5x, .int .i64 i6x, v7x, v8x] := (Blk.new w _ _).alloc _
  have hY0 : Blk ((w.alloc (.cells #[.int .i64 i0x, .string s1x, .string s2x, .int .i64 i3x, .int .i64 i4x, v5x, .int .i64 i6x, v7x, v8x] 28)).alloc (.cells #[.int .i64 i0y, .string s1y, .string s2y, .int .i64 i3y, .int .i64 i4y, v5y, .int .i64 i6y, v7y, v8y] 28)) (w.heap.size + 1) 28 #[.int .i64 i0y, .string s1y, .string s2y, .int .i64 i3y, .int .i64 i4y, v5y, .int .i64 i6y, v7y, v8y] := by simpa using Blk.new (w.alloc (.cells #[.int .i64 i0x, .string s1x, .string s2x, .int .i64 i3x, .int .i64 i4x, v5x, .int .i64 i6x, v7x, v8x] 28)) 28 #[.int .i64 i0y, .string s1y, .string s2y, .int .i64 i3y, .int .i64 i4y, v5y, .int .i64 i6y, v7y, v8y]
  by_cases hc0 : i0x = i0y
  case neg =>
    have HF := Lib.hid (show eqL [.int i0x, .str s1x, .str s2x, .int i3x, .int i4x, d5x, .int i6x, d7x, d8x] [.int i0y, .str s1y, .str s2y, .int i3y, .int i4y, d5y, .int i6y, d7y, d8y] = false from eqL_f (by intro h; apply hc0; simp at h; simp [h]))
    have ht0_0 : (i0x != i0y) = true := by simp [hc0]
    clear hc0
    go_enter Tryd.func9, Tryd.ntmps9
    go_wp2
    go_ret
    exact ⟨by rw [HF.out]; rfl, hB0⟩
  have ht0_0 : (i0x != i0y) = false := by simp [hc0]
  have HC0 := Lib.hid hc0
  clear hc0
  by_cases hc1 : s1x = s1y
  case neg =>
    have HF := Lib.hid (show eqL [.int i0x, .str s1x, .str s2x, .int i3x, .int i4x, d5x, .int i6x, d7x, d8x] [.int i0y, .str s1y, .str s2y, .int i3y, .int i4y, d5y, .int i6y, d7y, d8y] = false from eqL_f (by intro h; apply hc1; simp at h; simp [h]))
    have ht1_0 : (s1x.toList == s1y.toList) = false := (Lib.bytes_beq_false_iff _ _).2 hc1
    clear hc1
    go_enter Tryd.func9, Tryd.ntmps9
    go_wp2
    go_ret
    exact ⟨by rw [HF.out]; rfl, hB0⟩
  have ht1_0 : (s1x.toList == s1y.toList) = true := (Lib.bytes_beq_iff _ _).2 hc1
  have HC1 := Lib.hid hc1
  clear hc1
  by_cases hc2 : s2x = s2y
  case neg =>
    have HF := Lib.hid (show eqL [.int i0x, .str s1x, .str s2x, .int i3x, .int i4x, d5x, .int i6x, d7x, d8x] [.int i0y, .str s1y, .str s2y, .int i3y, .int i4y, d5y, .int i6y, d7y, d8y] = false from eqL_f (by intro h; apply hc2; simp at h; simp [h]))
    have ht2_0 : (s2x.toList == s2y.toList) = false := (Lib.bytes_beq_false_iff _ _).2 hc2
    clear hc2
    go_enter Tryd.func9, Tryd.ntmps9
    go_wp2
    go_ret
    exact ⟨by rw [HF.out]; rfl, hB0⟩
  have ht2_0 : (s2x.toList == s2y.toList) = true := (Lib.bytes_beq_iff _ _).2 hc2
  have HC2 := Lib.hid hc2
  clear hc2
  by_cases hc3 : i3x = i3y
  case neg =>
    have HF := Lib.hid (show eqL [.int i0x, .str s1x, .str s2x, .int i3x, .int i4x, d5x, .int i6x, d7x, d8x] [.int i0y, .str s1y, .str s2y, .int i3y, .int i4y, d5y, .int i6y, d7y, d8y] = false from eqL_f (by intro h; apply hc3; simp at h; simp [h]))
    have ht3_0 : (i3x != i3y) = true := by simp [hc3]
    clear hc3
    go_enter Tryd.func9, Tryd.ntmps9
    go_wp2
    go_ret
    exact ⟨by rw [HF.out]; rfl, hB0⟩
  have ht3_0 : (i3x != i3y) = false := by simp [hc3]
  have HC3 := Lib.hid hc3
  clear hc3
  go_enter Tryd.func9, Tryd.ntmps9
  go_wp2_with fail
  refine (eqType_of i4x d5x i4y d5y v5x v5y S S' _ HS5.out cf5 (hv5x.later (hB0.mono hS) (Nat.le_refl _)) (hv5y.later (hB0.mono hS') (Nat.le_refl _)) (Nat.le_trans hS hB0.size) (Nat.le_trans hS' hB0.size)).mono ?_
  rintro e w1 ⟨rfl, hb1⟩
  have hB1 := hB0.trans (hb1.mono hB0.size)
  have hX1 := hX0.below hb1 hX0.lt
  have hY1 := hY0.below hb1 hY0.lt
  have x1_6 := hX1.cell 6
  simp at x1_6
  have y1_6 := hY1.cell 6
  simp at y1_6
  have x1_7 := hX1.cell 7
  simp at x1_7
  have y1_7 := hY1.cell 7
  simp at y1_7
  have x1_8 := hX1.cell 8
  simp at x1_8
  have y1_8 := hY1.cell 8
  simp at y1_8
  by_cases hc4 : [.int i4x, d5x] = [.int i4y, d5y]
  case neg =>
    have HF := Lib.hid (show eqL [.int i0x, .str s1x, .str s2x, .int i3x, .int i4x, d5x, .int i6x, d7x, d8x] [.int i0y, .str s1y, .str s2y, .int i3y, .int i4y, d5y, .int i6y, d7y, d8y] = false from eqL_f (by intro h; apply hc4; simp at h; simp [h]))
    rw [eqL_f hc4]
    clear hc4
    go_wp2
    go_ret
    exact ⟨by rw [HF.out]; rfl, hB1⟩
  rw [eqL_t hc4]
  have HC4 := Lib.hid hc4
  clear hc4
  go_wp2_with fail
  refine (eqType_of i6x d7x i6y d7y v7x v7y S S' _ HS7.out cf7 (hv7x.later (hB1.mono hS) (Nat.le_refl _)) (hv7y.later (hB1.mono hS') (Nat.le_refl _)) (Nat.le_trans hS hB1.size) (Nat.le_trans hS' hB1.size)).mono ?_
  rintro e w2 ⟨rfl, hb2⟩
  have hB2 := hB1.trans (hb2.mono hB1.size)
  have hX2 := hX1.below hb2 hX1.lt
  have hY2 := hY1.below hb2 hY1.lt
  have x2_8 := hX2.cell 8
  simp at x2_8
  have y2_8 := hY2.cell 8
  simp at y2_8
  by_cases hc6 : [.int i6x, d7x] = [.int i6y, d7y]
  case neg =>
    have HF := Lib.hid (show eqL [.int i0x, .str s1x, .str s2x, .int i3x, .int i4x, d5x, .int i6x, d7x, d8x] [.int i0y, .str s1y, .str s2y, .int i3y, .int i4y, d5y, .int i6y, d7y, d8y] = false from eqL_f (by intro h; apply hc6; simp at h; simp [h]))
    rw [eqL_f hc6]
    clear hc6
    go_wp2
    go_ret
    exact ⟨by rw [HF.out]; rfl, hB2⟩
  rw [eqL_t hc6]
  have HC6 := Lib.hid hc6
  clear hc6
  go_wp2_with fail
  refine (HS8.out d8y v8x v8y S S' _ cf8 (hv8x.later (hB2.mono hS) (Nat.le_refl _)) (hv8y.later (hB2.mono hS') (Nat.le_refl _)) (Nat.le_trans hS hB2.size) (Nat.le_trans hS' hB2.size)).mono ?_
  rintro e w3 ⟨rfl, hb3⟩
  have hB3 := hB2.trans (hb3.mono hB2.size)
  have hX3 := hX2.below hb3 hX2.lt
  have hY3 := hY2.below hb3 hY2.lt
  by_cases hc8 : d8x = d8y
  case neg =>
    have HF := Lib.hid (show eqL [.int i0x, .str s1x, .str s2x, .int i3x, .int i4x, d5x, .int i6x, d7x, d8x] [.int i0y, .str s1y, .str s2y, .int i3y, .int i4y, d5y, .int i6y, d7y, d8y] = false from eqL_f (by intro h; apply hc8; simp at h; simp [h]))
    rw [eqD_f hc8]
    clear hc8
    go_wp2
    go_ret
    exact ⟨by rw [HF.out]; rfl, hB3⟩
  rw [eqD_t hc8]
  have HC8 := Lib.hid hc8
  clear hc8
  have HF := Lib.hid (show eqL [.int i0x, .str s1x, .str s2x, .int i3x, .int i4x, d5x, .int i6x, d7x, d8x] [.int i0y, .str s1y, .str s2y, .int i3y, .int i4y, d5y, .int i6y, d7y, d8y] = true from eqL_t (by
    have g0 := HC0.out
    have g1 := HC1.out
    have g2 := HC2.out
    have g3 := HC3.out
    have g4 := HC4.out
    have g5 := HC6.out
    have g6 := HC8.out
    try simp at g0
    try simp at g1
    try simp at g2
    try simp at g3
    try simp at g4
    try simp at g5
    try simp at g6
    simp [g0, g1, g2, g3, g4, g5, g6]))
  go_wp2
  go_ret
  exact ⟨by rw [HF.out]; rfl, hB3⟩
set_option maxHeartbeats 2000000 in
theorem eqTermS_all : ∀ d, Conf d (.sl .tm) → EqTermS d := by
  refine D.ind (fun d hd h => by rcases hd with rfl | ⟨_, rfl⟩ <;> (unfold Conf at h; exact h.elim)) (fun n h => by unfold Conf at h; cases h) (fun b h => by unfold Conf at h; cases h) (fun s h => by unfold Conf at h; cases h) fun sz n cs ih h => ?_
  unfold Conf at h
  obtain ⟨k0, e, hsz, hl, hm, hcs⟩ := h
  injection e with e
  subst e
  obtain rfl : sz = 9 := hsz
  intro d' v u S S' w h' hv hu hS hS'
  obtain ⟨n', cs', hde, hl', hm', hcs'⟩ := conf_sl h'
  obtain rfl : d' = .rows 9 n' cs' := hde
  replace hl' : cs'.length = n' * 9 := hl'
  obtain ⟨a, cap, rfl, hnc, hcm, _, hsl⟩ := hv.slc
  obtain ⟨a', cap', rfl, hnc', hcm', _, hsl'⟩ := hu.slc
  clear hsl hsl' h'
  unfold maxLen at hm hm' hcm hcm'
  by_cases hnn : n = n'
  case neg =>
    have HF := Lib.hid (show eqD (.rows 9 n cs) (.rows 9 n' cs') = false from eqD_f (by intro h; injection h with _ h1 _; exact hnn h1))
    have hne : ((n : Int) != (n' : Int)) = true := by simp; omega
    clear ih hcs hcs' hnn hl hl'
    go_enter Tryd.func42, Tryd.ntmps42
    go_wp2
    go_ret
    exact ⟨by rw [HF.out]; rfl, Below.refl _ _⟩
  subst hnn
  have hne : ((n : Int) != (n : Int)) = false := by simp
  have IH := Lib.hid ih
  have HCS := Lib.hid hcs
  have HV := Lib.hid hv
  have HL := Lib.hid hl
  have HCS' := Lib.hid hcs'
  have HU := Lib.hid hu
  have HL' := Lib.hid hl'
  clear ih hcs hv hl hcs' hu hl'
  go_enter Tryd.func42, Tryd.ntmps42
  go_wp2
  go_loopw [5] (fun i wr => ∃ k : Nat, k ≤ n ∧ i = .int .i64 k ∧ Hid (cs.take (k * 9) = cs'.take (k * 9)) ∧ Below w.heap.size w wr) (fun i _ => n - (intOf i).toNat)
  case atStart => exact ⟨0, Nat.zero_le _, rfl, by simp [Hid], Below.refl _ _⟩
  case round =>
    obtain ⟨k, hk, rfl, HQ, hb⟩ := hrel
    by_cases hlt : k < n
    case neg =>
      have HF := Lib.hid (show eqD (.rows 9 n cs) (.rows 9 n cs') = true from eqD_t (by
        have h1 := HQ.out
        rw [List.take_of_length_le (by rw [HL.out]; exact Nat.mul_le_mul_right _ (by omega)), List.take_of_length_le (by rw [HL'.out]; exact Nat.mul_le_mul_right _ (by omega))] at h1
        rw [h1]))
      go_wp2
      go_ret
      exact ⟨by rw [HF.out]; rfl, hb⟩
    obtain ⟨b, off, rv, rfl, hbS, hcells, hrep⟩ := HV.out.row k hlt
    obtain ⟨b', off', rv', rfl, hbS', hcells', hrep'⟩ := HU.out.row k hlt
    obtain ⟨i0x, s1x, s2x, i3x, i4x, d5x, i6x, d7x, d8x, hrowx, cf5x, cf7x, cf8x⟩ := conf_tm (conf_row n K.tm.fields cs k HCS.out hlt)
    obtain ⟨i0y, s1y, s2y, i3y, i4y, d5y, i6y, d7y, d8y, hrowy, cf5y, cf7y, cf8y⟩ := conf_tm (conf_row n K.tm.fields cs' k HCS'.out hlt)
    replace hrowx : rowAt 9 cs k = [.int i0x, .str s1x, .str s2x, .int i3x, .int i4x, d5x, .int i6x, d7x, d8x] := hrowx
    replace hrowy : rowAt 9 cs' k = [.int i0y, .str s1y, .str s2y, .int i3y, .int i4y, d5y, .int i6y, d7y, d8y] := hrowy
    rw [hrowx] at hrep
    rw [hrowy] at hrep'
    simp only [RepVs, RepV] at hrep hrep'
    obtain ⟨z0x, q0x, rfl, rfl, z1x, q1x, rfl, rfl, z2x, q2x, rfl, rfl, z3x, q3x, rfl, rfl, z4x, q4x, rfl, rfl, v5x, q5x, rfl, hv5x, z6x, q6x, rfl, rfl, v7x, q7x, rfl, hv7x, v8x, q8x, rfl, hv8x, rfl⟩ := hrep
    obtain ⟨z0y, q0y, rfl, rfl, z1y, q1y, rfl, rfl, z2y, q2y, rfl, rfl, z3y, q3y, rfl, rfl, z4y, q4y, rfl, rfl, v5y, q5y, rfl, hv5y, z6y, q6y, rfl, rfl, v7y, q7y, rfl, hv7y, v8y, q8y, rfl, hv8y, rfl⟩ := hrep'
    have c0 := hcells 0 (by simp)
    have e0 := hcells' 0 (by simp)
    have c1 := hcells 1 (by simp)
    have e1 := hcells' 1 (by simp)
    have c2 := hcells 2 (by simp)
    have e2 := hcells' 2 (by simp)
    have c3 := hcells 3 (by simp)
    have e3 := hcells' 3 (by simp)
    have c4 := hcells 4 (by simp)
    have e4 := hcells' 4 (by simp)
    have c5 := hcells 5 (by simp)
    have e5 := hcells' 5 (by simp)
    have c6 := hcells 6 (by simp)
    have e6 := hcells' 6 (by simp)
    have c7 := hcells 7 (by simp)
    have e7 := hcells' 7 (by simp)
    have c8 := hcells 8 (by simp)
    have e8 := hcells' 8 (by simp)
    simp at c0 e0 c1 e1 c2 e2 c3 e3 c4 e4 c5 e5 c6 e6 c7 e7 c8 e8
    replace c0 := (hb.cell (p := ⟨b, off + k * 9, none⟩) (World.block_lt_of_cell? w _ c0)).trans c0
    replace e0 := (hb.cell (p := ⟨b', off' + k * 9, none⟩) (World.block_lt_of_cell? w _ e0)).trans e0
    replace c1 := (hb.cell (p := ⟨b, off + k * 9 + 1, none⟩) (World.block_lt_of_cell? w _ c1)).trans c1
    replace e1 := (hb.cell (p := ⟨b', off' + k * 9 + 1, none⟩) (World.block_lt_of_cell? w _ e1)).trans e1
    replace c2 := (hb.cell (p := ⟨b, off + k * 9 + 2, none⟩) (World.block_lt_of_cell? w _ c2)).trans c2
    replace e2 := (hb.cell (p := ⟨b', off' + k * 9 + 2, none⟩) (World.block_lt_of_cell? w _ e2)).trans e2
    replace c3 := (hb.cell (p := ⟨b, off + k * 9 + 3, none⟩) (World.block_lt_of_cell? w _ c3)).trans c3
    replace e3 := (hb.cell (p := ⟨b', off' + k * 9 + 3, none⟩) (World.block_lt_of_cell? w _ e3)).trans e3
    replace c4 := (hb.cell (p := ⟨b, off + k * 9 + 4, none⟩) (World.block_lt_of_cell? w _ c4)).trans c4
    replace e4 := (hb.cell (p := ⟨b', off' + k * 9 + 4, none⟩) (World.block_lt_of_cell? w _ e4)).trans e4
    replace c5 := (hb.cell (p := ⟨b, off + k * 9 + 5, none⟩) (World.block_lt_of_cell? w _ c5)).trans c5
    replace e5 := (hb.cell (p := ⟨b', off' + k * 9 + 5, none⟩) (World.block_lt_of_cell? w _ e5)).trans e5
    replace c6 := (hb.cell (p := ⟨b, off + k * 9 + 6, none⟩) (World.block_lt_of_cell? w _ c6)).trans c6
    replace e6 := (hb.cell (p := ⟨b', off' + k * 9 + 6, none⟩) (World.block_lt_of_cell? w _ e6)).trans e6
    replace c7 := (hb.cell (p := ⟨b, off + k * 9 + 7, none⟩) (World.block_lt_of_cell? w _ c7)).trans c7
    replace e7 := (hb.cell (p := ⟨b', off' + k * 9 + 7, none⟩) (World.block_lt_of_cell? w _ e7)).trans e7
    replace c8 := (hb.cell (p := ⟨b, off + k * 9 + 8, none⟩) (World.block_lt_of_cell? w _ c8)).trans c8
    replace e8 := (hb.cell (p := ⟨b', off' + k * 9 + 8, none⟩) (World.block_lt_of_cell? w _ e8)).trans e8
    clear hcells hcells'
    have HD5 := Lib.hid (eqTypeS_all d5x cf5x)
    have hw5x := hv5x.later (hb.mono hS) (Nat.le_refl _)
    have hw5y := hv5y.later (hb.mono hS') (Nat.le_refl _)
    clear hv5x hv5y
    have HD7 := Lib.hid (eqTypeS_all d7x cf7x)
    have hw7x := hv7x.later (hb.mono hS) (Nat.le_refl _)
    have hw7y := hv7y.later (hb.mono hS') (Nat.le_refl _)
    clear hv7x hv7y
    have HD8 := Lib.hid (IH.out d8x (rowAt_mem 9 k cs d8x (by rw [hrowx]; simp)) cf8x)
    have hw8x := hv8x.later (hb.mono hS) (Nat.le_refl _)
    have hw8y := hv8y.later (hb.mono hS') (Nat.le_refl _)
    clear hv8x hv8y
    have hi1 : (k : Int) < (n : Int) := by omega
    have hSw : S ≤ wr.heap.size := Nat.le_trans hS hb.size
    have hSw' : S' ≤ wr.heap.size := Nat.le_trans hS' hb.size
    have HR : Hid (∀ q : Bool, q = true ∨ q = false) := Lib.hid fun q => by cases q <;> simp
    go_wp2_with fail
    go_region_with (go_at_call 9; refine (eqTerm_of i0x s1x s2x i3x i4x d5x i6x d7x d8x i0y s1y s2y i3y i4y d5y i6y d7y d8y v5x v7x v8x v5y v7y v8y S S' _ ?_ ?_ ?_ ?_ ?_ ?_ ?_ ?_ ?_ ?_ ?_ ?_ ?_ ?_).mono ?_; exact HD5.out; exact cf5y; exact hw5x.same rfl; exact hw5y.same rfl; exact HD7.out; exact cf7y; exact hw7x.same rfl; exact hw7y.same rfl; exact HD8.out; exact cf8y; exact hw8x.same rfl; exact hw8y.same rfl; exact hSw; exact hSw'; rintro e w1 ⟨rfl, hb1⟩)
    all_goals
      by_cases hdd : ([.int i0x, .str s1x, .str s2x, .int i3x, .int i4x, d5x, .int i6x, d7x, d8x] : List D) = [.int i0y, .str s1y, .str s2y, .int i3y, .int i4y, d5y, .int i6y, d7y, d8y]
      · rw [eqL_t hdd]
        have HQ2 : Hid (cs.take ((k + 1) * 9) = cs'.take ((k + 1) * 9)) := Lib.hid (by rw [take_rowAt, take_rowAt, HQ.out, hrowx, hrowy, hdd])
        clear hdd hrowx hrowy HQ
        go_wp2
        go_roundw
        case rel => exact ⟨k + 1, by omega, by go_num, HQ2, hb.drew.trans (hb1.mono hb.size)⟩
        case measure => simp [intOf]; omega
      · rw [eqL_f hdd]
        have HF := Lib.hid (show eqD (.rows 9 n cs) (.rows 9 n cs') = false from eqD_f (by intro h; injection h with _ _ h2; subst h2; exact hdd (hrowx.symm.trans hrowy)))
        clear hdd hrowx hrowy HQ
        go_wp2
        go_ret
        exact ⟨by rw [HF.out]; rfl, hb.drew.trans (hb1.mono hb.size)⟩
end Go.Proofs.YtlmnfemobajmlaaDoor
