/-
  ExampleText of the program and of the reference return the same text; the law says so.
-/
import Derived.Test.YtabajpeonchfgaaRng
namespace Go.Proofs.Ytabajpeonchfgaa
open Go.RowKit
def exTextF (n : Int) : ByteArray := if n = 1 then ⟨#[60, 40, 92, 120, 58, 73, 46, 126, 40, 40, 114, 101, 99, 32, 112, 32, 110, 58, 73, 62, 60, 73, 62, 46, 40, 105, 102, 32, 40, 110, 61, 48, 41, 32, 60, 49, 62, 32, 60, 40, 120, 42, 126, 40, 112, 32, 40, 110, 45, 49, 41, 41, 41, 62, 41, 41, 32, 51, 41, 41, 62]⟩ else if n = 2 then ⟨#[40, 108, 101, 116, 32, 99, 61, 60, 40, 49, 43, 50, 41, 62, 32, 60, 40, 126, 99, 42, 126, 99, 41, 62, 41]⟩ else if n = 3 then ⟨#[60, 40, 92, 121, 58, 73, 46, 126, 40, 40, 92, 122, 58, 60, 73, 62, 46, 60, 40, 92, 121, 58, 73, 46, 40, 126, 122, 43, 121, 41, 41, 62, 41, 32, 60, 121, 62, 41, 41, 62]⟩ else if n = 4 then ⟨#[40, 40, 114, 117, 110, 32, 60, 40, 92, 120, 58, 73, 46, 40, 120, 43, 126, 40, 108, 105, 102, 116, 32, 40, 50, 42, 51, 41, 41, 41, 41, 62, 41, 32, 49, 41]⟩ else if n = 5 then ⟨#[40, 114, 117, 110, 32, 60, 40, 114, 117, 110, 32, 60, 53, 62, 41, 62, 41]⟩ else if n = 6 then ⟨#[40, 108, 101, 116, 32, 110, 61, 55, 32, 60, 126, 40, 105, 102, 32, 40, 110, 60, 53, 41, 32, 60, 48, 62, 32, 60, 40, 49, 43, 126, 40, 108, 105, 102, 116, 32, 110, 41, 41, 62, 41, 62, 41]⟩ else ⟨#[]⟩
theorem exTextF_other (n : Int) (h : n < 1 ∨ 6 < n) : exTextF n = ⟨#[]⟩ := by unfold exTextF; rw [if_neg (by omega)]; rw [if_neg (by omega)]; rw [if_neg (by omega)]; rw [if_neg (by omega)]; rw [if_neg (by omega)]; rw [if_neg (by omega)]
theorem impl_ExampleText (n : Int) (w : World) :
    Calls Try.prog 18 #[.int .i64 n] w fun e w' => e = .returned (.string (exTextF n)) ∧ Below w.heap.size w w' := by
  by_cases h : 1 ≤ n ∧ n ≤ 6
  · obtain ⟨h1, h2⟩ := h
    rcases (show n = 1 ∨ n = 2 ∨ n = 3 ∨ n = 4 ∨ n = 5 ∨ n = 6 by omega) with rfl | rfl | rfl | rfl | rfl | rfl
    all_goals
      go_enter Try.func18, Try.ntmps18
      go_wp2_with (first | (go_at_call 22; refine (within_t _ _ _ _ (by omega) (by omega)).mono ?_; rintro e w' ⟨rfl, rfl⟩) | go_in)
      go_ret
      exact ⟨rfl, (Below.refl _ _).alloc (Nat.le_refl _) _⟩
  · have hx : n < 1 ∨ 6 < n := by omega
    have HF := Lib.hid (exTextF_other n hx)
    go_enter Try.func18, Try.ntmps18
    go_wp2_with (go_at_call 22; refine (within_f _ _ _ _ hx).mono ?_; rintro e w' ⟨rfl, rfl⟩)
    go_ret
    exact ⟨by rw [HF.out]; rfl, (Below.refl _ _).alloc (Nat.le_refl _) _⟩

theorem spec_ExampleText (n : Int) (w : World) :
    Calls Try.prog 17 #[.int .i64 n] w fun e w' => e = .returned (.string (exTextF n)) ∧ w = w' := by
  by_cases h : 1 ≤ n ∧ n ≤ 6
  · obtain ⟨h1, h2⟩ := h
    rcases (show n = 1 ∨ n = 2 ∨ n = 3 ∨ n = 4 ∨ n = 5 ∨ n = 6 by omega) with rfl | rfl | rfl | rfl | rfl | rfl
    all_goals
      go_enter Try.func17, Try.ntmps17
      go_wp2
      go_ret
      exact ⟨rfl, rfl⟩
  · have hx : n < 1 ∨ 6 < n := by omega
    have HF := Lib.hid (exTextF_other n hx)
    have g0 : (n == 1) = false := by simp; omega
    have g1 : (n == 2) = false := by simp; omega
    have g2 : (n == 3) = false := by simp; omega
    have g3 : (n == 4) = false := by simp; omega
    have g4 : (n == 5) = false := by simp; omega
    have g5 : (n == 6) = false := by simp; omega
    go_enter Try.func17, Try.ntmps17
    go_wp2
    go_ret
    exact ⟨by rw [HF.out]; rfl, rfl⟩
theorem law_FnExactExampleText (n : Int) (_h : (Lit.int .i64 n).wf = true) (w : World) :
    Calls Try.prog 7 #[.int .i64 n] w fun e w' => e = .returned (.bool true) ∧ Below w.heap.size w w' := by
  go_enter Try.func7, Try.ntmps7
  go_wp2_with fail
  refine (spec_ExampleText n _).mono ?_
  rintro e w1 ⟨rfl, rfl⟩
  go_wp2_with fail
  refine (impl_ExampleText n _).mono ?_
  rintro e w2 ⟨rfl, hb2⟩
  go_wp2
  go_ret
  exact ⟨rfl, hb2⟩
end Go.Proofs.Ytabajpeonchfgaa
