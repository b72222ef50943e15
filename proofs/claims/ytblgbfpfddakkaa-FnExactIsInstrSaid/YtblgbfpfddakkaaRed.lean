/-
  Numbers of the language: Reduce and isNumber of the program and of the reference; PowerValue.
-/
import Derived.Test.YtblgbfpfddakkaaBase
import Derived.Test.YtblgbfpfddakkaaRng
namespace Go.Proofs.Ytblgbfpfddakkaa
open Go.RowKit

theorem tmod_m (n : Int) : n.tmod 10007 = if 0 ≤ n then n % 10007 else -((-n) % 10007) := by
  split
  · rename_i h; exact Int.tmod_eq_emod_of_nonneg h
  · rename_i h
    have : n.tmod 10007 = -((-n).tmod 10007) := by rw [Int.neg_tmod]; omega
    rw [this, Int.tmod_eq_emod_of_nonneg (by omega)]

theorem impl_Reduce (n : Int) (w : World) :
    Calls Try.prog 39 #[.int .i64 n] w fun e w' => e = .returned (.int .i64 (n % 10007)) ∧ w = w' := by
  have h := tmod_m n
  have hb : -10006 ≤ n.tmod 10007 ∧ n.tmod 10007 ≤ 10006 := by rw [h]; split <;> omega
  have HH := Lib.hid h
  clear h
  go_enter Try.func39, Try.ntmps39
  go_wp2
  go_ret
  exact ⟨ret_int (by rw [HH.out]; split <;> omega), rfl⟩
theorem spec_Reduce (n : Int) (w : World) :
    Calls Try.prog 37 #[.int .i64 n] w fun e w' => e = .returned (.int .i64 (n % 10007)) ∧ w = w' := by
  have h := tmod_m n
  have hb : -10006 ≤ n.tmod 10007 ∧ n.tmod 10007 ≤ 10006 := by rw [h]; split <;> omega
  have HH := Lib.hid h
  clear h
  go_enter Try.func37, Try.ntmps37
  go_wp2
  all_goals
    have h := HH.out
    go_ret
    exact ⟨ret_int (by split at h <;> omega), rfl⟩

theorem isNumber_t (n : Int) (w : World) (h1 : 0 ≤ n) (h2 : n ≤ 10006) :
    Calls Try.prog 31 #[.int .i64 n] w fun e w' => e = .returned (.bool true) ∧ w = w' := by
  go_enter Try.func31, Try.ntmps31
  go_wp2_with (go_at_call 32; refine (within_t _ _ _ _ h1 h2).mono ?_; rintro e w' ⟨rfl, rfl⟩)
  go_ret
  exact ⟨rfl, rfl⟩
theorem isNumber_f (n : Int) (w : World) (h : n < 0 ∨ 10006 < n) :
    Calls Try.prog 31 #[.int .i64 n] w fun e w' => e = .returned (.bool false) ∧ w = w' := by
  go_enter Try.func31, Try.ntmps31
  go_wp2_with (go_at_call 32; refine (within_f _ _ _ _ h).mono ?_; rintro e w' ⟨rfl, rfl⟩)
  go_ret
  exact ⟨rfl, rfl⟩
theorem l27Num_t (n : Int) (w : World) (h1 : 0 ≤ n) (h2 : n ≤ 10006) :
    Calls Try.prog 36 #[.int .i64 n] w fun e w' => e = .returned (.bool true) ∧ w = w' := by
  go_enter Try.func36, Try.ntmps36
  go_wp2_with (go_at_call 30; refine (l1In_t _ _ _ _ h1 h2).mono ?_; rintro e w' ⟨rfl, rfl⟩)
  go_ret
  exact ⟨rfl, rfl⟩
theorem l27Num_f (n : Int) (w : World) (h : n < 0 ∨ 10006 < n) :
    Calls Try.prog 36 #[.int .i64 n] w fun e w' => e = .returned (.bool false) ∧ w = w' := by
  go_enter Try.func36, Try.ntmps36
  go_wp2_with (go_at_call 30; refine (l1In_f _ _ _ _ h).mono ?_; rintro e w' ⟨rfl, rfl⟩)
  go_ret
  exact ⟨rfl, rfl⟩
end Go.Proofs.Ytblgbfpfddakkaa
