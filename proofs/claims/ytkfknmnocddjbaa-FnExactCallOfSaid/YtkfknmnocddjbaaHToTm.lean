/-
  Copies of terms.
-/
import Derived.Test.YtkfknmnocddjbaaHToTy
namespace Go.Proofs.Ytkfknmnocddjbaa
open Go.RowKit
set_option linter.unusedVariables false
set_option maxHeartbeats 2000000 in
theorem toTerm_of (i0 : Int) (s1 : ByteArray) (s2 : ByteArray) (i3 : Int) (i4 : Int) (d5 : D) (i6 : Int) (d7 : D) (d8 : D) (v5 : Value) (v7 : Value) (v8 : Value) (S : Nat) (w : World) (hs5 : ToTypeS d5) (hv5 : RepV w S d5 v5) (hs7 : ToTypeS d7) (hv7 : RepV w S d7 v7) (hs8 : ToTermS d8) (hv8 : RepV w S d8 v8) (hS : S ≤ w.heap.size) (hz : szL [.int i0, .str s1, .str s2, .int i3, .int i4, d5, .int i6, d7, d8] ≤ 1048576) :
    Calls Try.prog 14 #[.agg #[.int .i64 i0, .string s1, .string s2, .int .i64 i3, .int .i64 i4, v5, .int .i64 i6, v7, v8]] w fun e w' => ∃ a5 n5 c5 a7 n7 c7 a8 n8 c8, e = .returned (.agg #[.int .i64 i0, .string s1, .string s2, .int .i64 i3, .int .i64 i4, .slice a5 n5 c5, .int .i64 i6, .slice a7 n7 c7, .slice a8 n8 c8]) ∧ FreshL w' w.heap.size [.int i0, .str s1, .str s2, .int i3, .int i4, d5, .int i6, d7, d8] [.int .i64 i0, .string s1, .string s2, .int .i64 i3, .int .i64 i4, .slice a5 n5 c5, .int .i64 i6, .slice a7 n7 c7, .slice a8 n8 c8] ∧ Below w.heap.size w w' := by
  have hsum : szL [.int i0, .str s1, .str s2, .int i3, .int i4, d5, .int i6, d7, d8] = s1.size + s2.size + szD d5 + szD d7 + szD d8 := by simp [szL, szD]; omega
  have hz5 : szD d5 ≤ 1048576 := by omega
  have hz7 : szD d7 ≤ 1048576 := by omega
  have hz8 : szD d8 ≤ 1048576 := by omega
  have HS5 := Lib.hid hs5
  clear hs5
  have HS7 := Lib.hid hs7
  clear hs7
  have HS8 := Lib.hid hs8
  clear hs8
  clear hsum hz
  have hB0 : Below w.heap.size w (((w.alloc (.cells #[.int .i64 i0, .string s1, .string s2, .int .i64 i3, .int .i64 i4, v5, .int .i64 i6, v7, v8] 28)).alloc (.cells #[.int .i64 0, .string ⟨#[]⟩, .string ⟨#[]⟩, .int .i64 0, .int .i64 0, .slice none 0 0, .int .i64 0, .slice none 0 0, .slice none 0 0] 36)).alloc (.cells #[.int .i64 i0, .string s1, .string s2, .int .i64 i3, .int .i64 0, .slice none 0 0, .int .i64 0, .slice none 0 0, .slice none 0 0] 36)) := (((Below.refl _ _).alloc (Nat.le_refl _) _).alloc (by simp) _).alloc (by simp <;> omega) _
  have hX0 : Blk (((w.alloc (.cells #[.int .i64 i0, .string s1, .string s2, .int .i64 i3, .int .i64 i4, v5, .int .i64 i6, v7, v8] 28)).alloc (.cells #[.int .i64 0, .string ⟨#[]⟩, .string ⟨#[]⟩, .int .i64 0, .int .i64 0, .slice none 0 0, .int .i64 0, .slice none 0 0, .slice none 0 0] 36)).alloc (.cells #[.int .i64 i0, .string s1, .string s2, .int .i64 i3, .int .i64 0, .slice none 0 0, .int .i64 0, .slice none 0 0, .slice none 0 0] 36)) w.heap.size 28 #[.int .i64 i0, .string s1, .string s2, .int .i64 i3, .int .i64 i4, v5, .int .i64 i6, v7, v8] := ((Blk.new w _ _).alloc _).alloc _
  have hR0 : Blk (((w.alloc (.cells #[.int .i64 i0, .string s1, .string s2, .int .i64 i3, .int .i64 i4, v5, .int .i64 i6, v7, v8] 28)).alloc (.cells #[.int .i64 0, .string ⟨#[]⟩, .string ⟨#[]⟩, .int .i64 0, .int .i64 0, .slice none 0 0, .int .i64 0, .slice none 0 0, .slice none 0 0] 36)).alloc (.cells #[.int .i64 i0, .string s1, .string s2, .int .i64 i3, .int .i64 0, .slice none 0 0, .int .i64 0, .slice none 0 0, .slice none 0 0] 36)) (w.heap.size + 1) 36 #[.int .i64 0, .string ⟨#[]⟩, .string ⟨#[]⟩, .int .i64 0, .int .i64 0, .slice none 0 0, .int .i64 0, .slice none 0 0, .slice none 0 0] := by
    have := (Blk.new (w.alloc (.cells #[.int .i64 i0, .string s1, .string s2, .int .i64 i3, .int .i64 i4, v5, .int .i64 i6, v7, v8] 28)) 36 #[.int .i64 0, .string ⟨#[]⟩, .string ⟨#[]⟩, .int .i64 0, .int .i64 0, .slice none 0 0, .int .i64 0, .slice none 0 0, .slice none 0 0]).alloc (.cells #[.int .i64 i0, .string s1, .string s2, .int .i64 i3, .int .i64 0, .slice none 0 0, .int .i64 0, .slice none 0 0, .slice none 0 0] 36)
    rwa [World.size_alloc] at this
  have hO0 : Blk (((w.alloc (.cells #[.int .i64 i0, .string s1, .string s2, .int .i64 i3, .int .i64 i4, v5, .int .i64 i6, v7, v8] 28)).alloc (.cells #[.int .i64 0, .string ⟨#[]⟩, .string ⟨#[]⟩, .int .i64 0, .int .i64 0, .slice none 0 0, .int .i64 0, .slice none 0 0, .slice none 0 0] 36)).alloc (.cells #[.int .i64 i0, .string s1, .string s2, .int .i64 i3, .int .i64 0, .slice none 0 0, .int .i64 0, .slice none 0 0, .slice none 0 0] 36)) (w.heap.size + 1 + 1) 36 #[.int .i64 i0, .string s1, .string s2, .int .i64 i3, .int .i64 0, .slice none 0 0, .int .i64 0, .slice none 0 0, .slice none 0 0] := by
    have := Blk.new ((w.alloc (.cells #[.int .i64 i0, .string s1, .string s2, .int .i64 i3, .int .i64 i4, v5, .int .i64 i6, v7, v8] 28)).alloc (.cells #[.int .i64 0, .string ⟨#[]⟩, .string ⟨#[]⟩, .int .i64 0, .int .i64 0, .slice none 0 0, .int .i64 0, .slice none 0 0, .slice none 0 0] 36)) 36 #[.int .i64 i0, .string s1, .string s2, .int .i64 i3, .int .i64 0, .slice none 0 0, .int .i64 0, .slice none 0 0, .slice none 0 0]
    rwa [World.size_alloc, World.size_alloc] at this
  go_enter Try.func14, Try.ntmps14
  go_wp2_with fail
  refine (toType_of i4 d5 v5 S _ HS5.out (hv5.later (hB0.mono hS) (Nat.le_refl _)) (Nat.le_trans hS hB0.size) (by simp [szL, szD]; omega)).mono ?_
  rintro e w1 ⟨a5, n5, c5, rfl, hf1, hb1⟩
  have hB1 := hB0.trans (hb1.mono hB0.size)
  have hX1 := hX0.below hb1 hX0.lt
  have hR1 := hR0.below hb1 hR0.lt
  have hO1 := hO0.below hb1 hO0.lt
  have hA0 : FreshL (((w.alloc (.cells #[.int .i64 i0, .string s1, .string s2, .int .i64 i3, .int .i64 i4, v5, .int .i64 i6, v7, v8] 28)).alloc (.cells #[.int .i64 0, .string ⟨#[]⟩, .string ⟨#[]⟩, .int .i64 0, .int .i64 0, .slice none 0 0, .int .i64 0, .slice none 0 0, .slice none 0 0] 36)).alloc (.cells #[.int .i64 i0, .string s1, .string s2, .int .i64 i3, .int .i64 0, .slice none 0 0, .int .i64 0, .slice none 0 0, .slice none 0 0] 36)) (w.heap.size + 1 + 1 + 1) [.int i0, .str s1, .str s2, .int i3] [.int .i64 i0, .string s1, .string s2, .int .i64 i3] := ((((FreshL.nil _ _).cell (own_int _ _)).cell (own_str _ _)).cell (own_str _ _)).cell (own_int _ _)
  have hA1 : FreshL w1 (w.heap.size + 1 + 1 + 1) [.int i0, .str s1, .str s2, .int i3, .int i4, d5] [.int .i64 i0, .string s1, .string s2, .int .i64 i3, .int .i64 i4, .slice a5 n5 c5] := FreshL.append hA0 hb1 (by have := hO0.lt; omega) hf1
  have x1_0 := hX1.cell 0
  have o1_0 := hO1.cell 0
  have r1_0 := hR1.cell 0
  have of1_0 := hO1.frozen 0
  have rf1_0 := hR1.frozen 0
  have x1_1 := hX1.cell 1
  have o1_1 := hO1.cell 1
  have r1_1 := hR1.cell 1
  have of1_1 := hO1.frozen 1
  have rf1_1 := hR1.frozen 1
  have x1_2 := hX1.cell 2
  have o1_2 := hO1.cell 2
  have r1_2 := hR1.cell 2
  have of1_2 := hO1.frozen 2
  have rf1_2 := hR1.frozen 2
  have x1_3 := hX1.cell 3
  have o1_3 := hO1.cell 3
  have r1_3 := hR1.cell 3
  have of1_3 := hO1.frozen 3
  have rf1_3 := hR1.frozen 3
  have x1_4 := hX1.cell 4
  have o1_4 := hO1.cell 4
  have r1_4 := hR1.cell 4
  have of1_4 := hO1.frozen 4
  have rf1_4 := hR1.frozen 4
  have x1_5 := hX1.cell 5
  have o1_5 := hO1.cell 5
  have r1_5 := hR1.cell 5
  have of1_5 := hO1.frozen 5
  have rf1_5 := hR1.frozen 5
  have x1_6 := hX1.cell 6
  have o1_6 := hO1.cell 6
  have r1_6 := hR1.cell 6
  have of1_6 := hO1.frozen 6
  have rf1_6 := hR1.frozen 6
  have x1_7 := hX1.cell 7
  have o1_7 := hO1.cell 7
  have r1_7 := hR1.cell 7
  have of1_7 := hO1.frozen 7
  have rf1_7 := hR1.frozen 7
  have x1_8 := hX1.cell 8
  have o1_8 := hO1.cell 8
  have r1_8 := hR1.cell 8
  have of1_8 := hO1.frozen 8
  have rf1_8 := hR1.frozen 8
  simp at x1_0 o1_0 r1_0 x1_1 o1_1 r1_1 x1_2 o1_2 r1_2 x1_3 o1_3 r1_3 x1_4 o1_4 r1_4 x1_5 o1_5 r1_5 x1_6 o1_6 r1_6 x1_7 o1_7 r1_7 x1_8 o1_8 r1_8
  go_wp2_with fail
  have hBs1 : Below w.heap.size w ((w1.setCell ⟨w.heap.size + 1 + 1, 4, none⟩ (.int .i64 i4)).setCell ⟨w.heap.size + 1 + 1, 5, none⟩ (.slice a5 n5 c5)) := by
    repeat (refine Below.setCell ?_ (by simp <;> omega) _)
    exact hB1
  have hXs1 : Blk ((w1.setCell ⟨w.heap.size + 1 + 1, 4, none⟩ (.int .i64 i4)).setCell ⟨w.heap.size + 1 + 1, 5, none⟩ (.slice a5 n5 c5)) w.heap.size 28 #[.int .i64 i0, .string s1, .string s2, .int .i64 i3, .int .i64 i4, v5, .int .i64 i6, v7, v8] := by
    repeat (refine Blk.far ?_ (by simp <;> omega) _)
    exact hX1
  have hRs1 : Blk ((w1.setCell ⟨w.heap.size + 1 + 1, 4, none⟩ (.int .i64 i4)).setCell ⟨w.heap.size + 1 + 1, 5, none⟩ (.slice a5 n5 c5)) (w.heap.size + 1) 36 #[.int .i64 0, .string ⟨#[]⟩, .string ⟨#[]⟩, .int .i64 0, .int .i64 0, .slice none 0 0, .int .i64 0, .slice none 0 0, .slice none 0 0] := by
    repeat (refine Blk.far ?_ (by simp) _)
    exact hR1
  have hOs1 : Blk ((w1.setCell ⟨w.heap.size + 1 + 1, 4, none⟩ (.int .i64 i4)).setCell ⟨w.heap.size + 1 + 1, 5, none⟩ (.slice a5 n5 c5)) (w.heap.size + 1 + 1) 36 #[.int .i64 i0, .string s1, .string s2, .int .i64 i3, .int .i64 i4, .slice a5 n5 c5, .int .i64 0, .slice none 0 0, .slice none 0 0] := ((hO1.set_ 4 (.int .i64 i4)).set_ 5 (.slice a5 n5 c5))
  refine (toType_of i6 d7 v7 S _ HS7.out (hv7.later (hBs1.mono hS) (Nat.le_refl _)) (Nat.le_trans hS hBs1.size) (by simp [szL, szD]; omega)).mono ?_
  rintro e w2 ⟨a7, n7, c7, rfl, hf2, hb2⟩
  have hB2 := hBs1.trans (hb2.mono hBs1.size)
  have hX2 := hXs1.below hb2 hXs1.lt
  have hR2 := hRs1.below hb2 hRs1.lt
  have hO2 := hOs1.below hb2 hOs1.lt
  have hAs1 : FreshL ((w1.setCell ⟨w.heap.size + 1 + 1, 4, none⟩ (.int .i64 i4)).setCell ⟨w.heap.size + 1 + 1, 5, none⟩ (.slice a5 n5 c5)) (w.heap.size + 1 + 1 + 1) [.int i0, .str s1, .str s2, .int i3, .int i4, d5] [.int .i64 i0, .string s1, .string s2, .int .i64 i3, .int .i64 i4, .slice a5 n5 c5] := by
    refine FreshL.only (fp := [w.heap.size + 1, w.heap.size + 1 + 1]) (hA1) ?_ (by simp)
    repeat (refine Only.setCell ?_ (by simp) _)
    exact Only.refl _ _
  have hA2 : FreshL w2 (w.heap.size + 1 + 1 + 1) [.int i0, .str s1, .str s2, .int i3, .int i4, d5, .int i6, d7] [.int .i64 i0, .string s1, .string s2, .int .i64 i3, .int .i64 i4, .slice a5 n5 c5, .int .i64 i6, .slice a7 n7 c7] := FreshL.append hAs1 hb2 (by have := hOs1.lt; omega) hf2
  have x2_0 := hX2.cell 0
  have o2_0 := hO2.cell 0
  have r2_0 := hR2.cell 0
  have of2_0 := hO2.frozen 0
  have rf2_0 := hR2.frozen 0
  have x2_1 := hX2.cell 1
  have o2_1 := hO2.cell 1
  have r2_1 := hR2.cell 1
  have of2_1 := hO2.frozen 1
  have rf2_1 := hR2.frozen 1
  have x2_2 := hX2.cell 2
  have o2_2 := hO2.cell 2
  have r2_2 := hR2.cell 2
  have of2_2 := hO2.frozen 2
  have rf2_2 := hR2.frozen 2
  have x2_3 := hX2.cell 3
  have o2_3 := hO2.cell 3
  have r2_3 := hR2.cell 3
  have of2_3 := hO2.frozen 3
  have rf2_3 := hR2.frozen 3
  have x2_4 := hX2.cell 4
  have o2_4 := hO2.cell 4
  have r2_4 := hR2.cell 4
  have of2_4 := hO2.frozen 4
  have rf2_4 := hR2.frozen 4
  have x2_5 := hX2.cell 5
  have o2_5 := hO2.cell 5
  have r2_5 := hR2.cell 5
  have of2_5 := hO2.frozen 5
  have rf2_5 := hR2.frozen 5
  have x2_6 := hX2.cell 6
  have o2_6 := hO2.cell 6
  have r2_6 := hR2.cell 6
  have of2_6 := hO2.frozen 6
  have rf2_6 := hR2.frozen 6
  have x2_7 := hX2.cell 7
  have o2_7 := hO2.cell 7
  have r2_7 := hR2.cell 7
  have of2_7 := hO2.frozen 7
  have rf2_7 := hR2.frozen 7
  have x2_8 := hX2.cell 8
  have o2_8 := hO2.cell 8
  have r2_8 := hR2.cell 8
  have of2_8 := hO2.frozen 8
  have rf2_8 := hR2.frozen 8
  simp at x2_0 o2_0 r2_0 x2_1 o2_1 r2_1 x2_2 o2_2 r2_2 x2_3 o2_3 r2_3 x2_4 o2_4 r2_4 x2_5 o2_5 r2_5 x2_6 o2_6 r2_6 x2_7 o2_7 r2_7 x2_8 o2_8 r2_8
  go_wp2_with fail
  have hBs2 : Below w.heap.size w ((w2.setCell ⟨w.heap.size + 1 + 1, 6, none⟩ (.int .i64 i6)).setCell ⟨w.heap.size + 1 + 1, 7, none⟩ (.slice a7 n7 c7)) := by
    repeat (refine Below.setCell ?_ (by simp <;> omega) _)
    exact hB2
  have hXs2 : Blk ((w2.setCell ⟨w.heap.size + 1 + 1, 6, none⟩ (.int .i64 i6)).setCell ⟨w.heap.size + 1 + 1, 7, none⟩ (.slice a7 n7 c7)) w.heap.size 28 #[.int .i64 i0, .string s1, .string s2, .int .i64 i3, .int .i64 i4, v5, .int .i64 i6, v7, v8] := by
    repeat (refine Blk.far ?_ (by simp <;> omega) _)
    exact hX2
  have hRs2 : Blk ((w2.setCell ⟨w.heap.size + 1 + 1, 6, none⟩ (.int .i64 i6)).setCell ⟨w.heap.size + 1 + 1, 7, none⟩ (.slice a7 n7 c7)) (w.heap.size + 1) 36 #[.int .i64 0, .string ⟨#[]⟩, .string ⟨#[]⟩, .int .i64 0, .int .i64 0, .slice none 0 0, .int .i64 0, .slice none 0 0, .slice none 0 0] := by
    repeat (refine Blk.far ?_ (by simp) _)
    exact hR2
  have hOs2 : Blk ((w2.setCell ⟨w.heap.size + 1 + 1, 6, none⟩ (.int .i64 i6)).setCell ⟨w.heap.size + 1 + 1, 7, none⟩ (.slice a7 n7 c7)) (w.heap.size + 1 + 1) 36 #[.int .i64 i0, .string s1, .string s2, .int .i64 i3, .int .i64 i4, .slice a5 n5 c5, .int .i64 i6, .slice a7 n7 c7, .slice none 0 0] := ((hO2.set_ 6 (.int .i64 i6)).set_ 7 (.slice a7 n7 c7))
  refine (HS8.out v8 S _ (hv8.later (hBs2.mono hS) (Nat.le_refl _)) (Nat.le_trans hS hBs2.size) hz8).mono ?_
  rintro e w3 ⟨a8, n8, c8, rfl, hf3, hb3⟩
  have hB3 := hBs2.trans (hb3.mono hBs2.size)
  have hX3 := hXs2.below hb3 hXs2.lt
  have hR3 := hRs2.below hb3 hRs2.lt
  have hO3 := hOs2.below hb3 hOs2.lt
  have hAs2 : FreshL ((w2.setCell ⟨w.heap.size + 1 + 1, 6, none⟩ (.int .i64 i6)).setCell ⟨w.heap.size + 1 + 1, 7, none⟩ (.slice a7 n7 c7)) (w.heap.size + 1 + 1 + 1) [.int i0, .str s1, .str s2, .int i3, .int i4, d5, .int i6, d7] [.int .i64 i0, .string s1, .string s2, .int .i64 i3, .int .i64 i4, .slice a5 n5 c5, .int .i64 i6, .slice a7 n7 c7] := by
    refine FreshL.only (fp := [w.heap.size + 1, w.heap.size + 1 + 1]) (hA2) ?_ (by simp)
    repeat (refine Only.setCell ?_ (by simp) _)
    exact Only.refl _ _
  have hA3 : FreshL w3 (w.heap.size + 1 + 1 + 1) [.int i0, .str s1, .str s2, .int i3, .int i4, d5, .int i6, d7, d8] [.int .i64 i0, .string s1, .string s2, .int .i64 i3, .int .i64 i4, .slice a5 n5 c5, .int .i64 i6, .slice a7 n7 c7, .slice a8 n8 c8] := FreshL.append hAs2 hb3 (by have := hOs2.lt; omega) (FreshL.one hf3)
  have x3_0 := hX3.cell 0
  have o3_0 := hO3.cell 0
  have r3_0 := hR3.cell 0
  have of3_0 := hO3.frozen 0
  have rf3_0 := hR3.frozen 0
  have x3_1 := hX3.cell 1
  have o3_1 := hO3.cell 1
  have r3_1 := hR3.cell 1
  have of3_1 := hO3.frozen 1
  have rf3_1 := hR3.frozen 1
  have x3_2 := hX3.cell 2
  have o3_2 := hO3.cell 2
  have r3_2 := hR3.cell 2
  have of3_2 := hO3.frozen 2
  have rf3_2 := hR3.frozen 2
  have x3_3 := hX3.cell 3
  have o3_3 := hO3.cell 3
  have r3_3 := hR3.cell 3
  have of3_3 := hO3.frozen 3
  have rf3_3 := hR3.frozen 3
  have x3_4 := hX3.cell 4
  have o3_4 := hO3.cell 4
  have r3_4 := hR3.cell 4
  have of3_4 := hO3.frozen 4
  have rf3_4 := hR3.frozen 4
  have x3_5 := hX3.cell 5
  have o3_5 := hO3.cell 5
  have r3_5 := hR3.cell 5
  have of3_5 := hO3.frozen 5
  have rf3_5 := hR3.frozen 5
  have x3_6 := hX3.cell 6
  have o3_6 := hO3.cell 6
  have r3_6 := hR3.cell 6
  have of3_6 := hO3.frozen 6
  have rf3_6 := hR3.frozen 6
  have x3_7 := hX3.cell 7
  have o3_7 := hO3.cell 7
  have r3_7 := hR3.cell 7
  have of3_7 := hO3.frozen 7
  have rf3_7 := hR3.frozen 7
  have x3_8 := hX3.cell 8
  have o3_8 := hO3.cell 8
  have r3_8 := hR3.cell 8
  have of3_8 := hO3.frozen 8
  have rf3_8 := hR3.frozen 8
  simp at x3_0 o3_0 r3_0 x3_1 o3_1 r3_1 x3_2 o3_2 r3_2 x3_3 o3_3 r3_3 x3_4 o3_4 r3_4 x3_5 o3_5 r3_5 x3_6 o3_6 r3_6 x3_7 o3_7 r3_7 x3_8 o3_8 r3_8
  go_wp2
  refine bodyPost_ret (v := .agg #[.int .i64 i0, .string s1, .string s2, .int .i64 i3, .int .i64 i4, .slice a5 n5 c5, .int .i64 i6, .slice a7 n7 c7, .slice a8 n8 c8]) (by simp [results, Try.results14, go_sem, r3_0, r3_1, r3_2, r3_3, r3_4, r3_5, r3_6, r3_7, r3_8]) rfl ⟨_, _, _, _, _, _, _, _, _, rfl, ?_, ?_⟩
  · exact (hA3.only (fp := [w.heap.size + 1, w.heap.size + 1 + 1]) (by
      repeat (refine Only.setCell ?_ (by simp) _)
      exact Only.refl _ _) (by simp)).down (by omega)
  · repeat (refine Below.setCell ?_ (by simp <;> omega) _)
    exact hB3
theorem info_implTerm : (Try.prog.info? 36).map (fun i => (i.zero, i.size, i.bytes)) = some (some (.agg #[.int .i64 0, .string ⟨#[]⟩, .string ⟨#[]⟩, .int .i64 0, .int .i64 0, .slice none 0 0, .int .i64 0, .slice none 0 0, .slice none 0 0]), 9, 136) := by kernel_rfl
set_option maxHeartbeats 2000000 in
theorem toTermS_all : ∀ d, Conf d (.sl .tm) → ToTermS d := by
  refine D.ind (fun d hd h => by rcases hd with rfl | ⟨_, rfl⟩ <;> (unfold Conf at h; exact h.elim)) (fun n h => by unfold Conf at h; cases h) (fun b h => by unfold Conf at h; cases h) (fun s h => by unfold Conf at h; cases h) fun sz n cs ih h => ?_
  unfold Conf at h
  obtain ⟨k0, e, hsz, hl, hm, hcs⟩ := h
  injection e with e
  subst e
  obtain rfl : sz = 9 := hsz
  intro v S w hv hS hz
  obtain ⟨a, cap, rfl, hnc, hcm, _, hsl⟩ := hv.slc
  clear hsl
  have hzn : szD (.rows 9 n cs) = n + szL cs := by simp only [szD]
  rw [hzn] at hz
  have hn20 : n ≤ 1048576 := by omega
  unfold maxLen at hm hcm
  obtain ⟨i0, hi, hz0, hz1, hz2⟩ := info_parts info_implTerm
  have hmk := fun W => run_make_rowN (P := Try.prog) 34 36 i0 _ Try.underlying34 hi hz0 .i64 .i64 n n (Nat.le_refl _) (by rw [hz2]; omega) (by omega) W
  rw [hz1] at hmk
  have IH := Lib.hid ih
  have HCS := Lib.hid hcs
  have HV := Lib.hid hv
  have HL := Lib.hid hl
  have HZ := Lib.hid hz
  clear ih hcs hv hl hi hz0 hz1 hz2 hz hzn
  go_enter Try.func61, Try.ntmps61
  go_wp2
  go_loopw [4] (fun i wr => ∃ k : Nat, k ≤ n ∧ i = .int .i64 k ∧ (∃ vs : List Value, vs.length = k * 9 ∧ Blk wr w.heap.size 36 (vs ++ (List.replicate (n - k) ([.int .i64 0, .string ⟨#[]⟩, .string ⟨#[]⟩, .int .i64 0, .int .i64 0, .slice none 0 0, .int .i64 0, .slice none 0 0, .slice none 0 0] : List Value)).flatten).toArray ∧ FreshL wr (w.heap.size + 1) (cs.take (k * 9)) vs) ∧ Below w.heap.size w wr) (fun i _ => n - (intOf i).toNat)
  case atStart =>
    refine ⟨0, Nat.zero_le _, rfl, ⟨[], by simp, ?_, by simpa using FreshL.nil _ _⟩, (Below.refl _ _).alloc (Nat.le_refl _) _⟩
    have hfl := madeCells_flat #[.int .i64 0, .string ⟨#[]⟩, .string ⟨#[]⟩, .int .i64 0, .int .i64 0, .slice none 0 0, .int .i64 0, .slice none 0 0, .slice none 0 0] (by simp) n
    simp only [List.nil_append, Nat.sub_zero]
    have e1 : madeCells #[.int .i64 0, .string ⟨#[]⟩, .string ⟨#[]⟩, .int .i64 0, .int .i64 0, .slice none 0 0, .int .i64 0, .slice none 0 0, .slice none 0 0] (n * 9) = ((List.replicate n ([.int .i64 0, .string ⟨#[]⟩, .string ⟨#[]⟩, .int .i64 0, .int .i64 0, .slice none 0 0, .int .i64 0, .slice none 0 0, .slice none 0 0] : List Value)).flatten).toArray := hfl
    rw [← e1]
    exact Blk.new _ _ _
  case round =>
    obtain ⟨k, hk, rfl, ⟨vs, hvl, hB, hFr⟩, hb⟩ := hrel
    by_cases hlt : k < n
    case neg =>
      have hB2 : Blk wr w.heap.size 36 vs.toArray := by rw [show n - k = 0 by omega] at hB; simpa using hB
      have hFr2 : FreshL wr (w.heap.size + 1) cs vs := by rw [List.take_of_length_le (by rw [HL.out]; exact Nat.mul_le_mul_right _ (by omega))] at hFr; exact hFr
      clear hB hFr hvl
      go_wp2
      go_ret
      obtain ⟨fp, ho, hnd, hkk⟩ := hFr2
      exact ⟨_, _, _, rfl, own_of_blk hB2 ho hnd (fun k hm => by have := hkk k hm; omega) (fun hm => by have := hkk _ hm; omega) HL.out (by unfold maxLen; omega) (Nat.le_refl _), hb⟩
    obtain ⟨b, off, rv, rfl, hbS, hcells, hrep⟩ := HV.out.row k hlt
    obtain ⟨i0, s1, s2, i3, i4, d5, i6, d7, d8, hrow, cf5, cf7, cf8⟩ := conf_tm (conf_row n K.tm.fields cs k HCS.out hlt)
    replace hrow : rowAt 9 cs k = [.int i0, .str s1, .str s2, .int i3, .int i4, d5, .int i6, d7, d8] := hrow
    rw [hrow] at hrep
    simp only [RepVs, RepV] at hrep
    obtain ⟨z0, q0, rfl, rfl, z1, q1, rfl, rfl, z2, q2, rfl, rfl, z3, q3, rfl, rfl, z4, q4, rfl, rfl, v5, q5, rfl, hv5, z6, q6, rfl, rfl, v7, q7, rfl, hv7, v8, q8, rfl, hv8, rfl⟩ := hrep
    have c0 := hcells 0 (by simp)
    have c1 := hcells 1 (by simp)
    have c2 := hcells 2 (by simp)
    have c3 := hcells 3 (by simp)
    have c4 := hcells 4 (by simp)
    have c5 := hcells 5 (by simp)
    have c6 := hcells 6 (by simp)
    have c7 := hcells 7 (by simp)
    have c8 := hcells 8 (by simp)
    simp at c0 c1 c2 c3 c4 c5 c6 c7 c8
    replace c0 := (hb.cell (p := ⟨b, off + k * 9, none⟩) (World.block_lt_of_cell? w _ c0)).trans c0
    replace c1 := (hb.cell (p := ⟨b, off + k * 9 + 1, none⟩) (World.block_lt_of_cell? w _ c1)).trans c1
    replace c2 := (hb.cell (p := ⟨b, off + k * 9 + 2, none⟩) (World.block_lt_of_cell? w _ c2)).trans c2
    replace c3 := (hb.cell (p := ⟨b, off + k * 9 + 3, none⟩) (World.block_lt_of_cell? w _ c3)).trans c3
    replace c4 := (hb.cell (p := ⟨b, off + k * 9 + 4, none⟩) (World.block_lt_of_cell? w _ c4)).trans c4
    replace c5 := (hb.cell (p := ⟨b, off + k * 9 + 5, none⟩) (World.block_lt_of_cell? w _ c5)).trans c5
    replace c6 := (hb.cell (p := ⟨b, off + k * 9 + 6, none⟩) (World.block_lt_of_cell? w _ c6)).trans c6
    replace c7 := (hb.cell (p := ⟨b, off + k * 9 + 7, none⟩) (World.block_lt_of_cell? w _ c7)).trans c7
    replace c8 := (hb.cell (p := ⟨b, off + k * 9 + 8, none⟩) (World.block_lt_of_cell? w _ c8)).trans c8
    clear hcells
    have hnext := Lib.hid (show cs.take ((k + 1) * 9) = cs.take (k * 9) ++ [.int i0, .str s1, .str s2, .int i3, .int i4, d5, .int i6, d7, d8] by rw [take_rowAt, hrow])
    have HD5 := Lib.hid (toTypeS_all d5 cf5)
    have hw5 := hv5.later (hb.mono hS) (Nat.le_refl _)
    have HD7 := Lib.hid (toTypeS_all d7 cf7)
    have hw7 := hv7.later (hb.mono hS) (Nat.le_refl _)
    have HD8 := Lib.hid (IH.out d8 (rowAt_mem 9 k cs d8 (by rw [hrow]; simp)) cf8)
    have hw8 := hv8.later (hb.mono hS) (Nat.le_refl _)
    have hzr : szL [.int i0, .str s1, .str s2, .int i3, .int i4, d5, .int i6, d7, d8] ≤ 1048576 := by
      have h1 := szL_take_le cs ((k + 1) * 9)
      rw [hnext.out, szL_append] at h1
      have h2 := HZ.out; omega
    have HZR := Lib.hid hzr
    have hSw : S ≤ wr.heap.size := Nat.le_trans hS hb.size
    clear hrow hzr cf5 cf7 cf8
    have hi1 : (k : Int) < (n : Int) := by omega
    have HVL := Lib.hid hvl
    have HB := Lib.hid hB
    clear hB hvl
    go_wp2_with fail
    refine (toTerm_of i0 s1 s2 i3 i4 d5 i6 d7 d8 v5 v7 v8 S wr HD5.out hw5 HD7.out hw7 HD8.out hw8 hSw HZR.out).mono ?_
    rintro e w1 ⟨a5, n5, c5, a7, n7, c7, a8, n8, c8, rfl, hf1, hb1⟩
    have hB1 := HB.out.below hb1 HB.out.lt
    have hsplit : vs ++ (List.replicate (n - k) ([.int .i64 0, .string ⟨#[]⟩, .string ⟨#[]⟩, .int .i64 0, .int .i64 0, .slice none 0 0, .int .i64 0, .slice none 0 0, .slice none 0 0] : List Value)).flatten = vs ++ (([.int .i64 0, .string ⟨#[]⟩, .string ⟨#[]⟩, .int .i64 0, .int .i64 0, .slice none 0 0, .int .i64 0, .slice none 0 0, .slice none 0 0] : List Value) ++ (List.replicate (n - (k + 1)) ([.int .i64 0, .string ⟨#[]⟩, .string ⟨#[]⟩, .int .i64 0, .int .i64 0, .slice none 0 0, .int .i64 0, .slice none 0 0, .slice none 0 0] : List Value)).flatten) := by
      rw [show n - k = (n - (k + 1)) + 1 by omega, List.replicate_succ, List.flatten_cons]
    rw [hsplit] at hB1
    have g0 : w1.cell? ⟨w.heap.size, k * 9, none⟩ = some (.int .i64 0) := by
      have := hB1.cell (k * 9)
      rw [this]; simp [HVL.out]
    have z0 := hB1.frozen (k * 9)
    have g1 : w1.cell? ⟨w.heap.size, k * 9 + 1, none⟩ = some (.string ⟨#[]⟩) := by
      have := hB1.cell (k * 9 + 1)
      rw [this]; simp [HVL.out]
    have z1 := hB1.frozen (k * 9 + 1)
    have g2 : w1.cell? ⟨w.heap.size, k * 9 + 2, none⟩ = some (.string ⟨#[]⟩) := by
      have := hB1.cell (k * 9 + 2)
      rw [this]; simp [HVL.out]
    have z2 := hB1.frozen (k * 9 + 2)
    have g3 : w1.cell? ⟨w.heap.size, k * 9 + 3, none⟩ = some (.int .i64 0) := by
      have := hB1.cell (k * 9 + 3)
      rw [this]; simp [HVL.out]
    have z3 := hB1.frozen (k * 9 + 3)
    have g4 : w1.cell? ⟨w.heap.size, k * 9 + 4, none⟩ = some (.int .i64 0) := by
      have := hB1.cell (k * 9 + 4)
      rw [this]; simp [HVL.out]
    have z4 := hB1.frozen (k * 9 + 4)
    have g5 : w1.cell? ⟨w.heap.size, k * 9 + 5, none⟩ = some (.slice none 0 0) := by
      have := hB1.cell (k * 9 + 5)
      rw [this]; simp [HVL.out]
    have z5 := hB1.frozen (k * 9 + 5)
    have g6 : w1.cell? ⟨w.heap.size, k * 9 + 6, none⟩ = some (.int .i64 0) := by
      have := hB1.cell (k * 9 + 6)
      rw [this]; simp [HVL.out]
    have z6 := hB1.frozen (k * 9 + 6)
    have g7 : w1.cell? ⟨w.heap.size, k * 9 + 7, none⟩ = some (.slice none 0 0) := by
      have := hB1.cell (k * 9 + 7)
      rw [this]; simp [HVL.out]
    have z7 := hB1.frozen (k * 9 + 7)
    have g8 : w1.cell? ⟨w.heap.size, k * 9 + 8, none⟩ = some (.slice none 0 0) := by
      have := hB1.cell (k * 9 + 8)
      rw [this]; simp [HVL.out]
    have z8 := hB1.frozen (k * 9 + 8)
    have HSET : Hid (∀ W : World, Blk W w.heap.size 36 (vs ++ (([.int .i64 0, .string ⟨#[]⟩, .string ⟨#[]⟩, .int .i64 0, .int .i64 0, .slice none 0 0, .int .i64 0, .slice none 0 0, .slice none 0 0] : List Value) ++ (List.replicate (n - (k + 1)) ([.int .i64 0, .string ⟨#[]⟩, .string ⟨#[]⟩, .int .i64 0, .int .i64 0, .slice none 0 0, .int .i64 0, .slice none 0 0, .slice none 0 0] : List Value)).flatten)).toArray → Blk ((((((((((W.setCell ⟨w.heap.size, k * 9, none⟩ (.int .i64 i0)).setCell ⟨w.heap.size, k * 9 + 1, none⟩ (.string s1)).setCell ⟨w.heap.size, k * 9 + 2, none⟩ (.string s2)).setCell ⟨w.heap.size, k * 9 + 3, none⟩ (.int .i64 i3)).setCell ⟨w.heap.size, k * 9 + 4, none⟩ (.int .i64 i4)).setCell ⟨w.heap.size, k * 9 + 5, none⟩ (.slice a5 n5 c5)).setCell ⟨w.heap.size, k * 9 + 6, none⟩ (.int .i64 i6)).setCell ⟨w.heap.size, k * 9 + 7, none⟩ (.slice a7 n7 c7)).setCell ⟨w.heap.size, k * 9 + 8, none⟩ (.slice a8 n8 c8))) w.heap.size 36 ((vs ++ ([.int .i64 i0, .string s1, .string s2, .int .i64 i3, .int .i64 i4, .slice a5 n5 c5, .int .i64 i6, .slice a7 n7 c7, .slice a8 n8 c8] : List Value)) ++ (List.replicate (n - (k + 1)) ([.int .i64 0, .string ⟨#[]⟩, .string ⟨#[]⟩, .int .i64 0, .int .i64 0, .slice none 0 0, .int .i64 0, .slice none 0 0, .slice none 0 0] : List Value)).flatten).toArray) := Lib.hid fun W hW => by
      have h1 := (((((((((hW.set_ (k * 9) (.int .i64 i0)).set_ (k * 9 + 1) (.string s1)).set_ (k * 9 + 2) (.string s2)).set_ (k * 9 + 3) (.int .i64 i3)).set_ (k * 9 + 4) (.int .i64 i4)).set_ (k * 9 + 5) (.slice a5 n5 c5)).set_ (k * 9 + 6) (.int .i64 i6)).set_ (k * 9 + 7) (.slice a7 n7 c7)).set_ (k * 9 + 8) (.slice a8 n8 c8))
      simp only [List.setIfInBounds_toArray] at h1
      have h2 := setRow_mid [.int .i64 i0, .string s1, .string s2, .int .i64 i3, .int .i64 i4, .slice a5 n5 c5, .int .i64 i6, .slice a7 n7 c7, .slice a8 n8 c8] vs [.int .i64 0, .string ⟨#[]⟩, .string ⟨#[]⟩, .int .i64 0, .int .i64 0, .slice none 0 0, .int .i64 0, .slice none 0 0, .slice none 0 0] (List.replicate (n - (k + 1)) ([.int .i64 0, .string ⟨#[]⟩, .string ⟨#[]⟩, .int .i64 0, .int .i64 0, .slice none 0 0, .int .i64 0, .slice none 0 0, .slice none 0 0] : List Value)).flatten rfl
      simp only [setRow] at h2
      rw [HVL.out] at h2
      rw [List.append_assoc, ← h2]
      exact h1
    have HB1 := Lib.hid hB1
    clear hB1 hsplit
    go_wp2
    go_roundw
    case rel =>
      refine ⟨k + 1, by omega, by go_num, ⟨vs ++ [.int .i64 i0, .string s1, .string s2, .int .i64 i3, .int .i64 i4, .slice a5 n5 c5, .int .i64 i6, .slice a7 n7 c7, .slice a8 n8 c8], by rw [List.length_append, HVL.out]; simp [Nat.succ_mul], HSET.out _ HB1.out, ?_⟩, ?_⟩
      · rw [hnext.out]
        refine FreshL.only (fp := [w.heap.size]) (FreshL.append hFr hb1 (by have := HB.out.lt; omega) hf1) ?_ (by simp)
        repeat (refine Only.setCell ?_ (by simp) _)
        exact Only.refl _ _
      · repeat (refine Below.setCell ?_ (by simp) _)
        exact hb.trans (hb1.mono hb.size)
    case measure => simp [intOf]; omega
end Go.Proofs.Ytkfknmnocddjbaa
