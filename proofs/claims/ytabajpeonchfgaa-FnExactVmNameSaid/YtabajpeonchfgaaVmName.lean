/-
  VmName of the program and of the reference return the same text; the law says so.
-/
import Derived.Test.YtabajpeonchfgaaRng
namespace Go.Proofs.Ytabajpeonchfgaa
open Go.RowKit
def vmNameF (n : Int) : ByteArray := if n = 0 then ⟨#[98, 97, 100]⟩ else if n = 1 then ⟨#[100, 111, 110, 101]⟩ else if n = 2 then ⟨#[102, 117, 101, 108]⟩ else if n = 3 then ⟨#[116, 121, 112, 101]⟩ else if n = 4 then ⟨#[102, 97, 117, 108, 116]⟩ else ⟨#[63]⟩
theorem vmNameF_other (n : Int) (h : n < 0 ∨ 4 < n) : vmNameF n = ⟨#[63]⟩ := by unfold vmNameF; rw [if_neg (by omega)]; rw [if_neg (by omega)]; rw [if_neg (by omega)]; rw [if_neg (by omega)]; rw [if_neg (by omega)]
theorem impl_VmName (n : Int) (w : World) :
    Calls Try.prog 12 #[.int .i64 n] w fun e w' => e = .returned (.string (vmNameF n)) ∧ Below w.heap.size w w' := by
  by_cases h : 0 ≤ n ∧ n ≤ 4
  · obtain ⟨h1, h2⟩ := h
    rcases (show n = 0 ∨ n = 1 ∨ n = 2 ∨ n = 3 ∨ n = 4 by omega) with rfl | rfl | rfl | rfl | rfl
    all_goals
      go_enter Try.func12, Try.ntmps12
      go_wp2_with (first | (go_at_call 22; refine (within_t _ _ _ _ (by omega) (by omega)).mono ?_; rintro e w' ⟨rfl, rfl⟩) | go_in)
      go_ret
      exact ⟨rfl, (Below.refl _ _).alloc (Nat.le_refl _) _⟩
  · have hx : n < 0 ∨ 4 < n := by omega
    have HF := Lib.hid (vmNameF_other n hx)
    go_enter Try.func12, Try.ntmps12
    go_wp2_with (go_at_call 22; refine (within_f _ _ _ _ hx).mono ?_; rintro e w' ⟨rfl, rfl⟩)
    go_ret
    exact ⟨by rw [HF.out]; rfl, Below.refl _ _⟩

theorem spec_VmName (n : Int) (w : World) :
    Calls Try.prog 11 #[.int .i64 n] w fun e w' => e = .returned (.string (vmNameF n)) ∧ Below w.heap.size w w' := by
  by_cases h : 0 ≤ n ∧ n ≤ 4
  · obtain ⟨h1, h2⟩ := h
    rcases (show n = 0 ∨ n = 1 ∨ n = 2 ∨ n = 3 ∨ n = 4 by omega) with rfl | rfl | rfl | rfl | rfl
    all_goals
      go_enter Try.func11, Try.ntmps11
      go_wp2_with (first | (go_at_call 21; refine (l1In_t _ _ _ _ (by omega) (by omega)).mono ?_; rintro e w' ⟨rfl, rfl⟩) | go_in)
      go_ret
      exact ⟨rfl, (Below.refl _ _).alloc (Nat.le_refl _) _⟩
  · have hx : n < 0 ∨ 4 < n := by omega
    have HF := Lib.hid (vmNameF_other n hx)
    go_enter Try.func11, Try.ntmps11
    go_wp2_with (go_at_call 21; refine (l1In_f _ _ _ _ hx).mono ?_; rintro e w' ⟨rfl, rfl⟩)
    go_ret
    exact ⟨by rw [HF.out]; rfl, Below.refl _ _⟩
theorem law_FnExactVmName (n : Int) (_h : (Lit.int .i64 n).wf = true) (w : World) :
    Calls Try.prog 4 #[.int .i64 n] w fun e w' => e = .returned (.bool true) ∧ Below w.heap.size w w' := by
  go_enter Try.func4, Try.ntmps4
  go_wp2_with fail
  refine (spec_VmName n _).mono ?_
  rintro e w1 ⟨rfl, hb1⟩
  go_wp2_with fail
  refine (impl_VmName n _).mono ?_
  rintro e w2 ⟨rfl, hb2⟩
  go_wp2
  go_ret
  exact ⟨rfl, hb1.trans (hb2.mono hb1.size)⟩
end Go.Proofs.Ytabajpeonchfgaa
