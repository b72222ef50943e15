/-
  Reading of numbers and cutting of texts: the program's side.
-/
import Derived.Test.YtlmiakgannpocaaDoorPna
import Derived.Test.YtlmiakgannpocaaDoorJop
import Derived.Lib.SmallJoins
namespace Go.Proofs.YtlmiakgannpocaaDoor
open Go.RowKit
set_option linter.unusedVariables false
set_option linter.unusedSimpArgs false
set_option maxRecDepth 20000
theorem cut_below {w : World} {n : Nat} : Below w.heap.size w (w.drewN n) := ⟨rfl, rfl, rfl, Nat.le_refl _, fun j hj => rfl⟩
theorem raw_FmtI (v : Int) (h0 : -9223372036854775808 ≤ v) (h1 : v ≤ 9223372036854775807) (w : World) (hg : GI w) :
    Calls Tryd.prog 37 #[.int .i64 v] w fun e w' => e = .returned (.string ⟨(Lib.itoa v).toArray⟩) ∧ Below w.heap.size w w' := by
  go_enter Tryd.func37, Tryd.ntmps37
  go_wp2_with fail
  refine (Tryd.YtlmiakgannpocaaDoorstrconv_Itoa v h0 h1 w hg.2.1).mono ?_
  rintro e w' ⟨rfl, k, os, rfl⟩
  go_wp2
  go_ret
  exact ⟨rfl, fmt_below⟩
theorem raw_within (v : Int) (w : World) (hg : GI w) :
    Calls Tryd.prog 41 #[.int .i64 v, .int .i64 0, .int .i64 999999] w fun e w' => e = .returned (.bool (decide (0 ≤ v) && decide (v ≤ 999999))) ∧ Below w.heap.size w w' := by
  refine (con_one (con_within v 0 999999) (rpd_cons (rpd_int _) (rpd_cons (rpd_int _) (rpd_cons (rpd_int _) (rpd_nil _))))).mono ?_
  rintro e w' ⟨u, rfl, hu, hb⟩
  obtain rfl := fresh_bool hu
  exact ⟨rfl, hb⟩
theorem raw_readInt (s : ByteArray) (hz : s.size ≤ 1000000000) (w : World) (hg : GI w) :
    Calls Tryd.prog 34 #[.string s, .int .i64 0, .int .i64 999999] w fun e w' => e = .returned (.tuple #[.int .i64 (niI s), .bool (noI s)]) ∧ Below w.heap.size w w' := by
  go_enter Tryd.func34, Tryd.ntmps34
  go_wp2_with fail
  cases h : Lib.atoiAll s.data.toList with
  | «syntax» =>
    obtain ⟨ev, hv, hev⟩ := (hg.2.2 rfl).2.1
    refine (Tryd.YtlmiakgannpocaaDoorstrconv_Atoi_syntax s (by omega) h ev w hv hev).mono ?_
    rintro e w' ⟨N, rfl, _, _, hb⟩
    go_wp2
    go_ret2
    exact ⟨by rw [niI, noI, h]; rfl, hb⟩
  | range =>
    obtain ⟨ev, hv, hev⟩ := (hg.2.2 rfl).2.2
    refine (Tryd.YtlmiakgannpocaaDoorstrconv_Atoi_range s (by omega) h ev w hv hev).mono ?_
    rintro e w' ⟨N, rfl, _, _, hb⟩
    go_wp2
    go_ret2
    exact ⟨by rw [niI, noI, h]; rfl, hb⟩
  | ok v =>
    have hbd := Lib.atoiAll_bounds h
    refine (Tryd.YtlmiakgannpocaaDoorstrconv_Atoi_ok s (by omega) v h w).mono ?_
    rintro e w' ⟨rfl, hw'⟩
    have hb : Below w.heap.size w w' := by
      rcases hw' with rfl | ⟨t, rfl⟩
      · exact Below.refl _ _
      · exact Joins.below_bytesWorld _ _ _ _ (Nat.le_refl _)
    clear hw'
    have hg' := GI_bel hg hb
    go_wp2_with fail
    refine (raw_FmtI v hbd.1 hbd.2 w' hg').mono ?_
    rintro e w2 ⟨rfl, hb2⟩
    have hb02 := hb.trans (hb2.mono hb.size)
    have hg2 := GI_bel hg' hb2
    have hn1 : niI s = if Lib.itoa v = s.data.toList ∧ 0 ≤ v ∧ v ≤ 999999 then v else 0 := by rw [niI, h]
    have hn2 : noI s = decide (Lib.itoa v = s.data.toList ∧ 0 ≤ v ∧ v ≤ 999999) := by rw [noI, h]
    by_cases he : Lib.itoa v = s.data.toList
    · have hq : (Lib.itoa v == s.toList) = true := by
        rw [he]; exact beq_iff_eq.2 (ByteArray.toList_eq s).symm
      go_wp2_with fail
      refine (raw_within v w2 hg2).mono ?_
      rintro e w3 ⟨rfl, hb3⟩
      have hb03 := hb02.trans (hb3.mono (hb02.size))
      by_cases hw : 0 ≤ v ∧ v ≤ 999999
      · have hd1 : (decide (0 ≤ v) && decide (v ≤ 999999)) = true := by simp [hw]
        rw [if_pos ⟨he, hw⟩] at hn1
        rw [decide_eq_true ⟨he, hw⟩] at hn2
        go_wp2
        go_ret2
        exact ⟨by rw [hn1, hn2]; rfl, hb03⟩
      · have hd1 : (decide (0 ≤ v) && decide (v ≤ 999999)) = false := by
          rw [Bool.eq_false_iff]; intro h'; simp at h'; exact hw h'
        rw [if_neg (fun h' => hw h'.2)] at hn1
        rw [decide_eq_false (fun h' => hw h'.2)] at hn2
        go_wp2
        go_ret2
        exact ⟨by rw [hn1, hn2]; rfl, hb03⟩
    · have hq : (Lib.itoa v == s.toList) = false := by
        rw [Bool.eq_false_iff]; intro h'; exact he ((beq_iff_eq.1 h').trans (ByteArray.toList_eq s))
      rw [if_neg (fun h' => he h'.1)] at hn1
      rw [decide_eq_false (fun h' => he h'.1)] at hn2
      go_wp2
      go_ret2
      exact ⟨by rw [hn1, hn2]; rfl, hb02⟩
theorem raw_PN (s : ByteArray) (hz : s.size ≤ 1000000000) (w : World) (hg : GI w) :
    Calls Tryd.prog 24 #[.string s] w fun e w' => e = .returned (.tuple #[.int .i64 (niI s), .bool (noI s)]) ∧ Below w.heap.size w w' := by
  go_enter Tryd.func24, Tryd.ntmps24
  go_wp2_with fail
  refine (raw_readInt s hz w hg).mono ?_
  rintro e w' ⟨rfl, hb⟩
  go_wp2
  go_ret2
  exact ⟨rfl, hb⟩
theorem freshL_nil (w : World) (B : Nat) : FreshL w B [] [] := ⟨[], by unfold OwnVs; exact ⟨rfl, rfl⟩, by simp, by simp⟩
theorem freshL_prim {w : World} {B : Nat} {d : D} {v : Value} {ds : List D} {vs : List Value} (hp : OwnV w d v []) (h : FreshL w B ds vs) : FreshL w B (d :: ds) (v :: vs) := by
  obtain ⟨fp, h1, h2, h3⟩ := h
  exact ⟨fp, by unfold OwnVs; exact ⟨v, vs, [], fp, rfl, rfl, hp, h1⟩, h2, h3⟩
theorem ov_i (w : World) (n : Int) : OwnV w (.int n) (.int .i64 n) [] := by unfold OwnV; exact ⟨rfl, rfl⟩
theorem ov_b (w : World) (n : Bool) : OwnV w (.bool n) (.bool n) [] := by unfold OwnV; exact ⟨rfl, rfl⟩
theorem ov_s (w : World) (n : ByteArray) : OwnV w (.str n) (.string n) [] := by unfold OwnV; exact ⟨rfl, rfl⟩
theorem rpd_istr {w : World} {n : ByteArray} {v : Value} (h : RepPD w (.one (.str n)) v) : v = .string n := by unfold RepPD RepV at h; exact h
theorem con_PNI (s : ByteArray) (hz : s.size ≤ 1000000000) : Con Tryd.prog 24 [.one (.str s)] [.one (.int (niI s)), .one (.bool (noI s))] := by
  refine ⟨⟨_, rfl, by kernel_rfl, by kernel_rfl⟩, fun w us hg hu => ?_⟩
  obtain ⟨v, r, rfl, h1, h2⟩ := rpd_c hu
  obtain rfl := rpd_n h2
  obtain rfl := rpd_istr h1
  refine (raw_PN s hz w hg).mono ?_
  rintro e w' ⟨rfl, hb⟩
  exact ⟨hb, [.int .i64 (niI s), .bool (noI s)], rfl, by simpa [flatD] using freshL_prim (ov_i _ _) (freshL_prim (ov_b _ _) (freshL_nil _ _))⟩
def cutA (s : ByteArray) (c : UInt8) : ByteArray := ⟨(Lib.cut s.data.toList [c]).1.toArray⟩
def cutZ (s : ByteArray) (c : UInt8) : ByteArray := ⟨(Lib.cut s.data.toList [c]).2.1.toArray⟩
def cutO (s : ByteArray) (c : UInt8) : Bool := (Lib.cut s.data.toList [c]).2.2
theorem con_Cut (s : ByteArray) (c : UInt8) (hz : s.size ≤ 1000000000) : Con Tryd.prog 20 [.one (.str s), .one (.str ⟨#[c]⟩)] [.one (.str (cutA s c)), .one (.str (cutZ s c)), .one (.bool (cutO s c))] := by
  refine ⟨⟨_, rfl, by kernel_rfl, by kernel_rfl⟩, fun w us hg hu => ?_⟩
  obtain ⟨v, r, rfl, h1, h2⟩ := rpd_c hu
  obtain ⟨v2, r2, rfl, h3, h4⟩ := rpd_c h2
  obtain rfl := rpd_n h4
  obtain rfl := rpd_istr h1
  obtain rfl := rpd_istr h3
  obtain ⟨m, hm⟩ := (hg.2.2 rfl).1
  refine (Tryd.YtlmiakgannpocaaDoorstrings_Cut s ⟨#[c]⟩ m w (by omega) hm).mono ?_
  rintro e w' ⟨rfl, n, rfl⟩
  exact ⟨cut_below, [.string (cutA s c), .string (cutZ s c), .bool (cutO s c)], rfl, by simpa [flatD] using freshL_prim (ov_s _ _) (freshL_prim (ov_s _ _) (freshL_prim (ov_b _ _) (freshL_nil _ _)))⟩
end Go.Proofs.YtlmiakgannpocaaDoor
