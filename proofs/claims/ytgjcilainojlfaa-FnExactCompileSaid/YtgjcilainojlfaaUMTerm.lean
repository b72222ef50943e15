/-
  Marks on a Type.
-/
import Derived.Test.YtgjcilainojlfaaUBase
import Derived.Test.YtgjcilainojlfaaHSzTy
import Derived.Test.YtgjcilainojlfaaHToTy
import Derived.Test.YtgjcilainojlfaaHEqTy
import Derived.Test.YtgjcilainojlfaaUMark
import Derived.Test.YtgjcilainojlfaaHMkTy
import Derived.Test.YtgjcilainojlfaaUTerm
import Derived.Test.YtgjcilainojlfaaHMkTm
/-
  The laws' own helpers on a Type.
-/
namespace Go.Proofs.Ytgjcilainojlfaa
open Go.RowKit
set_option linter.unusedVariables false
theorem cf_Type {ds : List D} (h : ConfL ds K.ty.fields) : ∃ i0 d1, ds = [.int i0, d1] ∧ Conf d1 (.sl .ty) := by
  have hl := ConfL.len _ _ h
  match ds, hl with
  | [x0, x1], _ =>
    have h0 : Conf x0 .int := ConfL.mem _ _ h 0 (by simp) (by simp [K.fields])
    obtain ⟨i0, rfl⟩ := conf_int h0
    have h1 : Conf x1 (.sl .ty) := ConfL.mem _ _ h 1 (by simp) (by simp [K.fields])
    exact ⟨i0, x1, rfl, h1⟩
end Go.Proofs.Ytgjcilainojlfaa
namespace Go.Proofs.Ytgjcilainojlfaa
open Go.RowKit
set_option linter.unusedVariables false
set_option linter.unusedSimpArgs false
set_option maxRecDepth 100000 in
set_option maxHeartbeats 1000000 in
theorem U_markType {ds : List D} {vs : List Value} {fp : List Nat} {w : World} {c : Int} (hc : ConfL ds K.ty.fields) (ho : OwnVs w ds vs fp) (hn : fp.Nodup) (h0 : 0 ≤ c) (h1 : c + cntS ds ≤ 140737488351232) :
    Calls Try.prog 36 #[.agg vs.toArray, .int .i64 c] w fun e w' => e = .returned (.int .i64 (c + cntS ds)) ∧ OwnVs w' (markS ds c) vs fp ∧ Only fp w w' := by
  obtain ⟨i0, d1, rfl, cf1⟩ := cf_Type hc
  have hr : RepVs w w.heap.size _ vs := OwnVs.rep _ _ _ ho (OwnVs.lt _ _ _ ho)
  obtain ⟨v0, r0, rfl, q0, hr0⟩ := hr.cons1
  obtain rfl := rep_int q0
  obtain ⟨v1, r1, rfl, q1, hr1⟩ := hr0.cons1
  obtain rfl := hr1.nil1
  obtain ⟨a1, n1, c1, rfl⟩ := rep_sl cf1 q1
  have hsum : cntS [.int i0, d1] = cntD d1 := by simp [cntS, sc_int, sc_str, sc_bool, scal_sl cf1]
  rw [hsum] at h1 ⊢
  have hmk : markS [.int i0, d1] c = [.int i0, markD d1 (c)] := by simp [markS, sc_int, sc_str, sc_bool, scal_sl cf1]
  rw [hmk]
  clear hsum hmk hr
  have hflt := OwnVs.lt _ _ _ ho
  have hX0 := Blk.new w 36 #[.int .i64 i0, .slice a1 n1 c1]
  have hw0 : Only fp w (w.alloc (.cells #[.int .i64 i0, .slice a1 n1 c1] 36)) := Only.of_below ((Below.refl _ _).alloc (Nat.le_refl _) _)
  have hO0 : OwnVs (w.alloc (.cells #[.int .i64 i0, .slice a1 n1 c1] 36)) [.int i0, d1] [.int .i64 i0, .slice a1 n1 c1] fp := OwnVs.keep (by simp) _ _ _ (fun k hk => Below.heap_alloc w _ k (hflt k hk)) ho
  have hXc0 := hX0.cell
  have CF1 := Lib.hid cf1
  clear ho cf1 q1 hc
  go_enter Try.func36, Try.ntmps36
  go_wp2_with fail
  obtain ⟨f0, hq0, hfn0, hfs0, hput0, _⟩ := OwnVs.at_ _ _ _ 1 (by simp) (by simp) hO0 hn
  replace hq0 : OwnV _ d1 (.slice a1 n1 c1) f0 := hq0
  refine ((markTypeS_all d1 CF1.out) _ f0 _ _ hq0 hfn0 (by omega) (by omega)).mono ?_
  rintro e w1 ⟨rfl, hm1, hw1⟩
  have hO1 : OwnVs w1 [.int i0, markD d1 (c)] [.int .i64 i0, .slice a1 n1 c1] fp := hput0 w1 _ hw1.size (fun x hx hxf => hw1.block x (by have := hflt x hx; simp; omega) hxf) hm1
  have hX1 : Blk w1 w.heap.size 36 #[.int .i64 i0, .slice a1 n1 c1] := (hw1.block _ hX0.lt (fun h => by have := hflt _ (hfs0 _ h); omega)).trans hX0
  have hXc1 := hX1.cell
  replace hw1 := hw0.trans (hw1.mono hfs0)
  clear hXc0 hput0 hm1
  go_wp2
  go_ret
  exact ⟨ret_int (by omega), hO1, hw1⟩
theorem cfl_Type {i : Int} {d : D} (h : Conf d (.sl .ty)) : ConfL [.int i, d] K.ty.fields := by
  simp only [K.fields, ConfL]
  exact ⟨_, _, rfl, by unfold Conf; rfl, _, _, rfl, h, rfl⟩
theorem own_ty {w : World} {i : Int} {d : D} {v : Value} {f : List Nat} (h : OwnV w d v f) : OwnVs w [.int i, d] [.int .i64 i, v] f := by
  unfold OwnVs OwnVs OwnVs
  exact ⟨_, _, [], f, rfl, rfl, by unfold OwnV; exact ⟨rfl, rfl⟩, _, _, f, [], rfl, by simp, h, rfl, rfl⟩
theorem ty_own {w : World} {i : Int} {d : D} {v : Value} {f : List Nat} (h : OwnVs w [.int i, d] [.int .i64 i, v] f) : OwnV w d v f := by
  unfold OwnVs OwnVs OwnVs at h
  obtain ⟨v1, r1, f1, f2, e1, e2, h1, v2, r2, f3, f4, e3, e4, h2, e5, e6⟩ := h
  unfold OwnV at h1
  obtain ⟨rfl, rfl⟩ := h1
  simp at e1
  subst e1
  simp at e3
  obtain ⟨rfl, _⟩ := e3
  subst e6 e4 e2
  simpa using h2
theorem cntS_ty {i : Int} {d : D} (h : Conf d (.sl .ty)) : cntS [.int i, d] = cntD d := by simp [cntS, sc_int, sc_str, sc_bool, scal_sl h]
theorem markS_ty {i : Int} {d : D} {c : Int} (h : Conf d (.sl .ty)) : markS [.int i, d] c = [.int i, markD d c] := by simp [markS, sc_int, sc_str, sc_bool, scal_sl h]
end Go.Proofs.Ytgjcilainojlfaa
/-
  Marks on a Term.
-/
namespace Go.Proofs.Ytgjcilainojlfaa
open Go.RowKit
set_option linter.unusedVariables false
set_option linter.unusedSimpArgs false
set_option maxRecDepth 100000 in
set_option maxHeartbeats 1000000 in
theorem U_markTerm {ds : List D} {vs : List Value} {fp : List Nat} {w : World} {c : Int} (hc : ConfL ds K.tm.fields) (ho : OwnVs w ds vs fp) (hn : fp.Nodup) (h0 : 0 ≤ c) (h1 : c + cntS ds ≤ 140737488351232) :
    Calls Try.prog 12 #[.agg vs.toArray, .int .i64 c] w fun e w' => e = .returned (.int .i64 (c + cntS ds)) ∧ OwnVs w' (markS ds c) vs fp ∧ Only fp w w' := by
  obtain ⟨i0, s1, s2, i3, i4, d5, i6, d7, d8, rfl, cf5, cf7, cf8⟩ := cf_Term hc
  have hr : RepVs w w.heap.size _ vs := OwnVs.rep _ _ _ ho (OwnVs.lt _ _ _ ho)
  obtain ⟨v0, r0, rfl, q0, hr0⟩ := hr.cons1
  obtain rfl := rep_int q0
  obtain ⟨v1, r1, rfl, q1, hr1⟩ := hr0.cons1
  obtain rfl := rep_str q1
  obtain ⟨v2, r2, rfl, q2, hr2⟩ := hr1.cons1
  obtain rfl := rep_str q2
  obtain ⟨v3, r3, rfl, q3, hr3⟩ := hr2.cons1
  obtain rfl := rep_int q3
  obtain ⟨v4, r4, rfl, q4, hr4⟩ := hr3.cons1
  obtain rfl := rep_int q4
  obtain ⟨v5, r5, rfl, q5, hr5⟩ := hr4.cons1
  obtain ⟨v6, r6, rfl, q6, hr6⟩ := hr5.cons1
  obtain rfl := rep_int q6
  obtain ⟨v7, r7, rfl, q7, hr7⟩ := hr6.cons1
  obtain ⟨v8, r8, rfl, q8, hr8⟩ := hr7.cons1
  obtain rfl := hr8.nil1
  obtain ⟨a5, n5, c5, rfl⟩ := rep_sl cf5 q5
  obtain ⟨a7, n7, c7, rfl⟩ := rep_sl cf7 q7
  obtain ⟨a8, n8, c8, rfl⟩ := rep_sl cf8 q8
  have hsum : cntS [.int i0, .str s1, .str s2, .int i3, .int i4, d5, .int i6, d7, d8] = cntD d5 + cntD d7 + cntD d8 := by simp [cntS, sc_int, sc_str, sc_bool, scal_sl cf5, scal_sl cf7, scal_sl cf8]; omega
  rw [hsum] at h1 ⊢
  have hmk : markS [.int i0, .str s1, .str s2, .int i3, .int i4, d5, .int i6, d7, d8] c = [.int i0, .str s1, .str s2, .int i3, .int i4, markD d5 (c), .int i6, markD d7 (c + cntD d5), markD d8 (c + cntD d5 + cntD d7)] := by simp [markS, sc_int, sc_str, sc_bool, scal_sl cf5, scal_sl cf7, scal_sl cf8]
  rw [hmk]
  clear hsum hmk hr
  have hflt := OwnVs.lt _ _ _ ho
  have hX0 := Blk.new w 39 #[.int .i64 i0, .string s1, .string s2, .int .i64 i3, .int .i64 i4, .slice a5 n5 c5, .int .i64 i6, .slice a7 n7 c7, .slice a8 n8 c8]
  have hw0 : Only fp w (w.alloc (.cells #[.int .i64 i0, .string s1, .string s2, .int .i64 i3, .int .i64 i4, .slice a5 n5 c5, .int .i64 i6, .slice a7 n7 c7, .slice a8 n8 c8] 39)) := Only.of_below ((Below.refl _ _).alloc (Nat.le_refl _) _)
  have hO0 : OwnVs (w.alloc (.cells #[.int .i64 i0, .string s1, .string s2, .int .i64 i3, .int .i64 i4, .slice a5 n5 c5, .int .i64 i6, .slice a7 n7 c7, .slice a8 n8 c8] 39)) [.int i0, .str s1, .str s2, .int i3, .int i4, d5, .int i6, d7, d8] [.int .i64 i0, .string s1, .string s2, .int .i64 i3, .int .i64 i4, .slice a5 n5 c5, .int .i64 i6, .slice a7 n7 c7, .slice a8 n8 c8] fp := OwnVs.keep (by simp) _ _ _ (fun k hk => Below.heap_alloc w _ k (hflt k hk)) ho
  have hXc0 := hX0.cell
  have CF5 := Lib.hid cf5
  have CF7 := Lib.hid cf7
  have CF8 := Lib.hid cf8
  clear ho cf5 q5 cf7 q7 cf8 q8 hc
  go_enter Try.func12, Try.ntmps12
  go_wp2_with fail
  obtain ⟨f0, hq0, hfn0, hfs0, hput0, _⟩ := OwnVs.at_ _ _ _ 5 (by simp) (by simp) hO0 hn
  replace hq0 : OwnV _ d5 (.slice a5 n5 c5) f0 := hq0
  refine (U_markType (ds := [.int i4, d5]) (fp := f0) (cfl_Type CF5.out) (own_ty hq0) hfn0 (by omega) (by rw [cntS_ty CF5.out]; omega)).mono ?_
  rw [cntS_ty CF5.out, markS_ty CF5.out]
  rintro e w1 ⟨rfl, hm1', hw1⟩
  have hm1 := ty_own hm1'
  have hO1 : OwnVs w1 [.int i0, .str s1, .str s2, .int i3, .int i4, markD d5 (c), .int i6, d7, d8] [.int .i64 i0, .string s1, .string s2, .int .i64 i3, .int .i64 i4, .slice a5 n5 c5, .int .i64 i6, .slice a7 n7 c7, .slice a8 n8 c8] fp := hput0 w1 _ hw1.size (fun x hx hxf => hw1.block x (by have := hflt x hx; simp; omega) hxf) hm1
  have hX1 : Blk w1 w.heap.size 39 #[.int .i64 i0, .string s1, .string s2, .int .i64 i3, .int .i64 i4, .slice a5 n5 c5, .int .i64 i6, .slice a7 n7 c7, .slice a8 n8 c8] := (hw1.block _ hX0.lt (fun h => by have := hflt _ (hfs0 _ h); omega)).trans hX0
  have hXc1 := hX1.cell
  replace hw1 := hw0.trans (hw1.mono hfs0)
  clear hXc0 hput0 hm1
  go_wp2_with fail
  obtain ⟨f1, hq1, hfn1, hfs1, hput1, _⟩ := OwnVs.at_ _ _ _ 7 (by simp) (by simp) hO1 hn
  replace hq1 : OwnV _ d7 (.slice a7 n7 c7) f1 := hq1
  refine (U_markType (ds := [.int i6, d7]) (fp := f1) (cfl_Type CF7.out) (own_ty hq1) hfn1 (by omega) (by rw [cntS_ty CF7.out]; omega)).mono ?_
  rw [cntS_ty CF7.out, markS_ty CF7.out]
  rintro e w2 ⟨rfl, hm2', hw2⟩
  have hm2 := ty_own hm2'
  have hO2 : OwnVs w2 [.int i0, .str s1, .str s2, .int i3, .int i4, markD d5 (c), .int i6, markD d7 (c + cntD d5), d8] [.int .i64 i0, .string s1, .string s2, .int .i64 i3, .int .i64 i4, .slice a5 n5 c5, .int .i64 i6, .slice a7 n7 c7, .slice a8 n8 c8] fp := hput1 w2 _ hw2.size (fun x hx hxf => hw2.block x (by have := hflt x hx; have := hw1.size; omega) hxf) hm2
  have hX2 : Blk w2 w.heap.size 39 #[.int .i64 i0, .string s1, .string s2, .int .i64 i3, .int .i64 i4, .slice a5 n5 c5, .int .i64 i6, .slice a7 n7 c7, .slice a8 n8 c8] := (hw2.block _ hX1.lt (fun h => by have := hflt _ (hfs1 _ h); omega)).trans hX1
  have hXc2 := hX2.cell
  replace hw2 := hw1.trans (hw2.mono hfs1)
  clear hXc1 hput1 hm2
  go_wp2_with fail
  obtain ⟨f2, hq2, hfn2, hfs2, hput2, _⟩ := OwnVs.at_ _ _ _ 8 (by simp) (by simp) hO2 hn
  replace hq2 : OwnV _ d8 (.slice a8 n8 c8) f2 := hq2
  refine ((markTermS_all d8 CF8.out) _ f2 _ _ hq2 hfn2 (by omega) (by omega)).mono ?_
  rintro e w3 ⟨rfl, hm3, hw3⟩
  have hO3 : OwnVs w3 [.int i0, .str s1, .str s2, .int i3, .int i4, markD d5 (c), .int i6, markD d7 (c + cntD d5), markD d8 (c + cntD d5 + cntD d7)] [.int .i64 i0, .string s1, .string s2, .int .i64 i3, .int .i64 i4, .slice a5 n5 c5, .int .i64 i6, .slice a7 n7 c7, .slice a8 n8 c8] fp := hput2 w3 _ hw3.size (fun x hx hxf => hw3.block x (by have := hflt x hx; have := hw2.size; omega) hxf) hm3
  have hX3 : Blk w3 w.heap.size 39 #[.int .i64 i0, .string s1, .string s2, .int .i64 i3, .int .i64 i4, .slice a5 n5 c5, .int .i64 i6, .slice a7 n7 c7, .slice a8 n8 c8] := (hw3.block _ hX2.lt (fun h => by have := hflt _ (hfs2 _ h); omega)).trans hX2
  have hXc3 := hX3.cell
  replace hw3 := hw2.trans (hw3.mono hfs2)
  clear hXc2 hput2 hm3
  go_wp2
  go_ret
  exact ⟨ret_int (by omega), hO3, hw3⟩
end Go.Proofs.Ytgjcilainojlfaa
