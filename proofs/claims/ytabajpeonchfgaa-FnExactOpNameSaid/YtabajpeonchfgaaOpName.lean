/-
  OpName of the program and of the reference return the same text; the law says so.
-/
import Derived.Test.YtabajpeonchfgaaRng
namespace Go.Proofs.Ytabajpeonchfgaa
open Go.RowKit
def opNameF (n : Int) : ByteArray := if n = 1 then ⟨#[43]⟩ else if n = 2 then ⟨#[45]⟩ else if n = 3 then ⟨#[42]⟩ else if n = 4 then ⟨#[61]⟩ else if n = 5 then ⟨#[60]⟩ else if n = 6 then ⟨#[38]⟩ else if n = 7 then ⟨#[124]⟩ else if n = 8 then ⟨#[33]⟩ else ⟨#[]⟩
theorem opNameF_other (n : Int) (h : n < 1 ∨ 8 < n) : opNameF n = ⟨#[]⟩ := by unfold opNameF; rw [if_neg (by omega)]; rw [if_neg (by omega)]; rw [if_neg (by omega)]; rw [if_neg (by omega)]; rw [if_neg (by omega)]; rw [if_neg (by omega)]; rw [if_neg (by omega)]; rw [if_neg (by omega)]
theorem impl_OpName (n : Int) (w : World) :
    Calls Try.prog 14 #[.int .i64 n] w fun e w' => e = .returned (.string (opNameF n)) ∧ Below w.heap.size w w' := by
  by_cases h : 1 ≤ n ∧ n ≤ 8
  · obtain ⟨h1, h2⟩ := h
    rcases (show n = 1 ∨ n = 2 ∨ n = 3 ∨ n = 4 ∨ n = 5 ∨ n = 6 ∨ n = 7 ∨ n = 8 by omega) with rfl | rfl | rfl | rfl | rfl | rfl | rfl | rfl
    all_goals
      go_enter Try.func14, Try.ntmps14
      go_wp2_with (first | (go_at_call 22; refine (within_t _ _ _ _ (by omega) (by omega)).mono ?_; rintro e w' ⟨rfl, rfl⟩) | go_in)
      go_ret
      exact ⟨rfl, (Below.refl _ _).alloc (Nat.le_refl _) _⟩
  · have hx : n < 1 ∨ 8 < n := by omega
    have HF := Lib.hid (opNameF_other n hx)
    go_enter Try.func14, Try.ntmps14
    go_wp2_with (go_at_call 22; refine (within_f _ _ _ _ hx).mono ?_; rintro e w' ⟨rfl, rfl⟩)
    go_ret
    exact ⟨by rw [HF.out]; rfl, Below.refl _ _⟩

theorem spec_OpName (n : Int) (w : World) :
    Calls Try.prog 13 #[.int .i64 n] w fun e w' => e = .returned (.string (opNameF n)) ∧ Below w.heap.size w w' := by
  by_cases h : 1 ≤ n ∧ n ≤ 8
  · obtain ⟨h1, h2⟩ := h
    rcases (show n = 1 ∨ n = 2 ∨ n = 3 ∨ n = 4 ∨ n = 5 ∨ n = 6 ∨ n = 7 ∨ n = 8 by omega) with rfl | rfl | rfl | rfl | rfl | rfl | rfl | rfl
    all_goals
      go_enter Try.func13, Try.ntmps13
      go_wp2_with (first | (go_at_call 21; refine (l1In_t _ _ _ _ (by omega) (by omega)).mono ?_; rintro e w' ⟨rfl, rfl⟩) | go_in)
      go_ret
      exact ⟨rfl, (Below.refl _ _).alloc (Nat.le_refl _) _⟩
  · have hx : n < 1 ∨ 8 < n := by omega
    have HF := Lib.hid (opNameF_other n hx)
    go_enter Try.func13, Try.ntmps13
    go_wp2_with (go_at_call 21; refine (l1In_f _ _ _ _ hx).mono ?_; rintro e w' ⟨rfl, rfl⟩)
    go_ret
    exact ⟨by rw [HF.out]; rfl, Below.refl _ _⟩
theorem law_FnExactOpName (n : Int) (_h : (Lit.int .i64 n).wf = true) (w : World) :
    Calls Try.prog 5 #[.int .i64 n] w fun e w' => e = .returned (.bool true) ∧ Below w.heap.size w w' := by
  go_enter Try.func5, Try.ntmps5
  go_wp2_with fail
  refine (spec_OpName n _).mono ?_
  rintro e w1 ⟨rfl, hb1⟩
  go_wp2_with fail
  refine (impl_OpName n _).mono ?_
  rintro e w2 ⟨rfl, hb2⟩
  go_wp2
  go_ret
  exact ⟨rfl, hb1.trans (hb2.mono hb1.size)⟩
end Go.Proofs.Ytabajpeonchfgaa
