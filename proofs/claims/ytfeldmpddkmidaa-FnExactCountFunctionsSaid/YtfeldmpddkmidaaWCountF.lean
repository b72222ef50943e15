/-
  The law of CountFunctions.
-/
import Derived.Test.YtfeldmpddkmidaaCountF
import Derived.Test.YtfeldmpddkmidaaUTerm
import Derived.Deep.RegionHeld2
namespace Go.Proofs.Ytfeldmpddkmidaa
open Go.RowKit
set_option maxRecDepth 100000 in
set_option maxHeartbeats 1000000 in
theorem top_FnExactCountFunctions (w : World) (cs : Array Value) (h : ArgS w K.tm.fields cs) : Calls Try.prog 9 #[.agg cs] w fun e w' => e = .returned (.bool true) ∧ Below w.heap.size w w' := by
  obtain ⟨ds, hc, hr, hs⟩ := h
  obtain ⟨a0, rfl⟩ := tm_of hc
  obtain ⟨vs, rfl⟩ : ∃ vs : List Value, cs = vs.toArray := ⟨cs.toList, by simp⟩
  replace hr : RepVs w w.heap.size (tmC a0) vs := hr
  obtain ⟨i0, s1, s2, i3, i4, a5, n5, c5, i6, a7, n7, c7, a8, n8, c8, rfl⟩ := shape_Term hc hr
  have hB : Below w.heap.size w (w.alloc (.cells #[.int .i64 i0, .string s1, .string s2, .int .i64 i3, .int .i64 i4, .slice a5 n5 c5, .int .i64 i6, .slice a7 n7 c7, .slice a8 n8 c8] 69)) := (Below.refl _ _).alloc (Nat.le_refl _) _
  have hX := Blk.new w 69 #[.int .i64 i0, .string s1, .string s2, .int .i64 i3, .int .i64 i4, .slice a5 n5 c5, .int .i64 i6, .slice a7 n7 c7, .slice a8 n8 c8]
  go_enter Try.func9, Try.ntmps9
  go_wp2_with fail
  refine (U_szTerm hc hs (hr.later hB hB.size) (by omega) (by omega)).mono ?_
  rintro e w1 ⟨rfl, hb⟩
  replace hB := hB.trans (hb.mono hB.size)
  replace hX := hX.step hb
  have hXc := hX.cell
  by_cases hfit : (szL (tmC a0) : Int) ≤ 1048576
  case neg =>
    have HE := Lib.hid (szR_out 1048576 (szL (tmC a0)) (by omega))
    rw [HE.out]
    go_wp2
    go_ret
    exact ⟨rfl, hB⟩
  have HE := Lib.hid (szR_in 1048576 (szL (tmC a0)) hfit)
  have hnn : ¬ 1048576 - (szL (tmC a0) : Int) < 0 := by omega
  have hz : szL (tmC a0) ≤ 1048576 := by omega
  rw [HE.out]
  go_wp2_with fail
  refine (U_toTerm ⟨hc, hs, hz, hr.later hB hB.size⟩).mono ?_
  rintro e w2 ⟨us, rfl, hf, hb⟩
  replace hB := hB.trans (hb.mono hB.size)
  replace hX := hX.step hb
  replace hXc := hX.cell
  obtain ⟨i0', s1', s2', i3', i4', a5', n5', c5', i6', a7', n7', c7', a8', n8', c8', rfl⟩ := shape_Term hc hf.rep
  go_wp2_with fail
  refine (U_spec_CountFunctions ⟨hc, hs, hz, hf.rep⟩).mono ?_
  rintro e w3 ⟨rfl, hb⟩
  replace hB := hB.trans (hb.mono hB.size)
  replace hX := hX.step hb
  replace hXc := hX.cell
  clear hf
  go_wp2_with fail
  refine (U_toTerm ⟨hc, hs, hz, hr.later hB hB.size⟩).mono ?_
  rintro e w4 ⟨us, rfl, hf, hb⟩
  replace hB := hB.trans (hb.mono hB.size)
  replace hX := hX.step hb
  replace hXc := hX.cell
  obtain ⟨i0', s1', s2', i3', i4', a5', n5', c5', i6', a7', n7', c7', a8', n8', c8', rfl⟩ := shape_Term hc hf.rep
  go_wp2_with fail
  have hY := Blk.new w4 74 #[.int .i64 i0', .string s1', .string s2', .int .i64 i3', .int .i64 i4', .slice a5' n5' c5', .int .i64 i6', .slice a7' n7' c7', .slice a8' n8' c8']
  have ha := (Below.refl w4.heap.size w4).alloc (Nat.le_refl _) (.cells #[.int .i64 i0', .string s1', .string s2', .int .i64 i3', .int .i64 i4', .slice a5' n5' c5', .int .i64 i6', .slice a7' n7' c7', .slice a8' n8' c8'] 74)
  replace hB := hB.trans (ha.mono hB.size)
  replace hX := hX.step ha
  replace hf := hf.later ha
  refine (U_impl_CountFunctions ⟨hc, hs, hz, hf.rep⟩).mono ?_
  rintro e w5 ⟨rfl, hb⟩
  replace hB := hB.trans (hb.mono hB.size)
  replace hX := hX.step hb
  replace hXc := hX.cell
  replace hY := hY.step hb
  have hYc := hY.cell
  replace hf := hf.later hb
  go_wp2_with fail
  go_region_held2 (fun W => (∀ i, W.cell? ⟨w.heap.size, i, none⟩ = (#[.int .i64 i0, .string s1, .string s2, .int .i64 i3, .int .i64 i4, .slice a5 n5 c5, .int .i64 i6, .slice a7 n7 c7, .slice a8 n8 c8] : Array Value)[i]?) ∧ (∀ i, W.cell? ⟨w4.heap.size, i, none⟩ = (#[.int .i64 i0', .string s1', .string s2', .int .i64 i3', .int .i64 i4', .slice a5' n5' c5', .int .i64 i6', .slice a7' n7' c7', .slice a8' n8' c8'] : Array Value)[i]?))
    (first | exact ⟨hX2.cell, hY2.cell⟩ | exact ⟨hX1.cell, hY1.cell⟩ | exact ⟨hX.drew.cell, hY.drew.cell⟩)
    (first
      | (go_at_call 53; refine (U_toTerm (ds := tmC a0) ?_).mono ?_; exact ⟨hc, hs, hz, hr.later hB.drew hB.drew.size⟩
         rintro e w6 ⟨us, rfl, hf1, hb1⟩
         have hX1 := hX.drew.step hb1
         have hY1 := hY.drew.step hb1
         have hB1 := hB.drew.trans (hb1.mono hB.drew.size)
         replace hf := hf.drew.later hb1
         obtain ⟨i0'', s1'', s2'', i3'', i4'', a5'', n5'', c5'', i6'', a7'', n7'', c7'', a8'', n8'', c8'', rfl⟩ := shape_Term hc hf1.rep)
      | (go_at_call 55; refine (U_eqsTerm hc ?_ ?_).mono ?_; exact hf.rep; exact hf1.rep
         rintro e w7 ⟨rfl, hb2⟩
         have hX2 := hX1.step hb2
         have hY2 := hY1.step hb2
         have hB2 := hB1.trans (hb2.mono hB1.size)))
  go_wp2
  go_ret
  exact ⟨rfl, hB2⟩
end Go.Proofs.Ytfeldmpddkmidaa
