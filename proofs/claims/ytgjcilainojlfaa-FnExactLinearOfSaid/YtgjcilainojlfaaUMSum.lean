/-
  Marks on a Sum.
-/
import Derived.Test.YtgjcilainojlfaaUMark
import Derived.Test.YtgjcilainojlfaaUSum
import Derived.Test.YtgjcilainojlfaaHMkL
namespace Go.Proofs.Ytgjcilainojlfaa
open Go.RowKit
set_option linter.unusedVariables false
set_option linter.unusedSimpArgs false
set_option maxRecDepth 100000 in
set_option maxHeartbeats 1000000 in
theorem U_markSum {ds : List D} {vs : List Value} {fp : List Nat} {w : World} {c : Int} (hc : ConfL ds [.int, .sl .item]) (ho : OwnVs w ds vs fp) (hn : fp.Nodup) (h0 : 0 ≤ c) (h1 : c + cntS ds ≤ 140737488351232) :
    Calls Try.prog 13 #[.agg vs.toArray, .int .i64 c] w fun e w' => e = .returned (.int .i64 (c + cntS ds)) ∧ OwnVs w' (markS ds c) vs fp ∧ Only fp w w' := by
  obtain ⟨i0, d1, rfl, cf1⟩ := cf_Sum hc
  have hr : RepVs w w.heap.size _ vs := OwnVs.rep _ _ _ ho (OwnVs.lt _ _ _ ho)
  obtain ⟨v0, r0, rfl, q0, hr0⟩ := hr.cons1
  obtain rfl := rep_int q0
  obtain ⟨v1, r1, rfl, q1, hr1⟩ := hr0.cons1
  obtain rfl := hr1.nil1
  obtain ⟨a1, n1, c1, rfl⟩ := rep_sl cf1 q1
  have hsum : cntS [.int i0, d1] = cntD d1 := by simp [cntS, sc_int, sc_str, sc_bool, scal_sl cf1]
  rw [hsum] at h1 ⊢
  have hmk : markS [.int i0, d1] c = [.int i0, markD d1 (c)] := by simp [markS, sc_int, sc_str, sc_bool, scal_sl cf1]
  rw [hmk]
  clear hsum hmk hr
  have hflt := OwnVs.lt _ _ _ ho
  have hX0 := Blk.new w 31 #[.int .i64 i0, .slice a1 n1 c1]
  have hw0 : Only fp w (w.alloc (.cells #[.int .i64 i0, .slice a1 n1 c1] 31)) := Only.of_below ((Below.refl _ _).alloc (Nat.le_refl _) _)
  have hO0 : OwnVs (w.alloc (.cells #[.int .i64 i0, .slice a1 n1 c1] 31)) [.int i0, d1] [.int .i64 i0, .slice a1 n1 c1] fp := OwnVs.keep (by simp) _ _ _ (fun k hk => Below.heap_alloc w _ k (hflt k hk)) ho
  have hXc0 := hX0.cell
  have CF1 := Lib.hid cf1
  clear ho cf1 q1 hc
  go_enter Try.func13, Try.ntmps13
  go_wp2_with fail
  obtain ⟨f0, hq0, hfn0, hfs0, hput0, _⟩ := OwnVs.at_ _ _ _ 1 (by simp) (by simp) hO0 hn
  replace hq0 : OwnV _ d1 (.slice a1 n1 c1) f0 := hq0
  refine ((markItemS_all d1 CF1.out) _ f0 _ _ hq0 hfn0 (by omega) (by omega)).mono ?_
  rintro e w1 ⟨rfl, hm1, hw1⟩
  have hO1 : OwnVs w1 [.int i0, markD d1 (c)] [.int .i64 i0, .slice a1 n1 c1] fp := hput0 w1 _ hw1.size (fun x hx hxf => hw1.block x (by have := hflt x hx; simp; omega) hxf) hm1
  have hX1 : Blk w1 w.heap.size 31 #[.int .i64 i0, .slice a1 n1 c1] := (hw1.block _ hX0.lt (fun h => by have := hflt _ (hfs0 _ h); omega)).trans hX0
  have hXc1 := hX1.cell
  replace hw1 := hw0.trans (hw1.mono hfs0)
  clear hXc0 hput0 hm1
  go_wp2
  go_ret
  exact ⟨ret_int (by omega), hO1, hw1⟩
set_option maxRecDepth 100000 in
set_option maxHeartbeats 1000000 in
theorem U_heldSum {ds : List D} {vs : List Value} {w : World} {c : Int} (hc : ConfL ds [.int, .sl .item]) (hr : RepVs w w.heap.size (markS ds c) vs) (h0 : 0 ≤ c) (h1 : c + cntS ds ≤ 140737488351232) :
    Calls Try.prog 14 #[.agg vs.toArray, .int .i64 c] w fun e w' => e = .returned (.int .i64 (c + cntS ds)) ∧ Below w.heap.size w w' := by
  obtain ⟨i0, d1, rfl, cf1⟩ := cf_Sum hc
  have hsum : cntS [.int i0, d1] = cntD d1 := by simp [cntS, sc_int, sc_str, sc_bool, scal_sl cf1]
  rw [hsum] at h1 ⊢
  have hmk : markS [.int i0, d1] c = [.int i0, markD d1 (c)] := by simp [markS, sc_int, sc_str, sc_bool, scal_sl cf1]
  rw [hmk] at hr
  obtain ⟨v0, r0, rfl, q0, hr0⟩ := hr.cons1
  obtain rfl := rep_int q0
  obtain ⟨v1, r1, rfl, q1, hr1⟩ := hr0.cons1
  obtain rfl := hr1.nil1
  obtain ⟨a1, n1, c1, rfl⟩ := rep_rows (conf_markD cf1 _) q1
  clear hsum hmk
  have CF1 := Lib.hid cf1
  clear hc cf1
  have hX0 := Blk.new w 31 #[.int .i64 i0, .slice a1 n1 c1]
  have hb0 : Below w.heap.size w (w.alloc (.cells #[.int .i64 i0, .slice a1 n1 c1] 31)) := (Below.refl _ _).alloc (Nat.le_refl _) _
  have hXc0 := hX0.cell
  go_enter Try.func14, Try.ntmps14
  go_wp2_with fail
  refine ((heldItemS_all d1 CF1.out) _ w.heap.size _ _ (q1.later hb0 (Nat.le_refl _)) hb0.size (by omega) (by omega)).mono ?_
  rintro e w1 ⟨rfl, hb1⟩
  have hX1 := hX0.step hb1
  have hXc1 := hX1.cell
  replace hb1 := hb0.trans (hb1.mono hb0.size)
  clear hXc0
  go_wp2
  go_ret
  exact ⟨ret_int (by omega), hb1⟩
end Go.Proofs.Ytgjcilainojlfaa
