/-
  PowerValue of the program and of the reference return the same number; the law says so.
-/
import Derived.Test.YtabajpeonchfgaaRed
namespace Go.Proofs.Ytabajpeonchfgaa
open Go.RowKit
def powF (x : Int) : Nat → Int
  | 0 => 1
  | k + 1 => (powF x k * x) % 10007
theorem powF_bd (x : Int) (k : Nat) : 0 ≤ powF x k ∧ powF x k ≤ 10006 := by
  cases k with
  | zero => simp [powF]
  | succ k => simp only [powF]; omega
def powV (n x : Int) : Int := if 0 ≤ n ∧ n ≤ 20 ∧ 0 ≤ x ∧ x ≤ 10006 then powF x n.toNat else 0
theorem mul_bd {a b : Int} (h : 0 ≤ a ∧ a ≤ 10006) (h' : 0 ≤ b ∧ b ≤ 10006) : 0 ≤ a * b ∧ a * b ≤ 100120036 := by
  refine ⟨Int.mul_nonneg h.1 h'.1, ?_⟩
  have := Int.mul_le_mul h.2 h'.2 h'.1 (by omega)
  omega
theorem impl_PowerValue (n x : Int) (w : World) :
    Calls Try.prog 20 #[.int .i64 n, .int .i64 x] w fun e w' => e = .returned (.int .i64 (powV n x)) ∧ w = w' := by
  by_cases hn : 0 ≤ n ∧ n ≤ 20
  · obtain ⟨h1, h2⟩ := hn
    by_cases hx : 0 ≤ x ∧ x ≤ 10006
    · obtain ⟨h3, h4⟩ := hx
      have HE := Lib.hid (show powV n x = powF x n.toNat by unfold powV; rw [if_pos ⟨h1, h2, h3, h4⟩])
      go_enter Try.func20, Try.ntmps20
      go_wp2_with (first | (go_at_call 22; refine (within_t _ _ _ _ h1 h2).mono ?_; rintro e w' ⟨rfl, rfl⟩) | (go_at_call 29; refine (isNumber_t _ _ h3 h4).mono ?_; rintro e w' ⟨rfl, rfl⟩))
      go_loop [5, 15] (fun o i => ∃ k : Nat, (k : Int) ≤ n ∧ i = .int .i64 k ∧ o = .int .i64 (powF x k)) (fun _ i => (n - intOf i).toNat)
      case atStart => exact ⟨0, by omega, rfl, rfl⟩
      case round =>
        obtain ⟨k, hk, rfl, rfl⟩ := hrel
        by_cases hlt : (k : Int) < n
        · have hb := mul_bd (powF_bd x k) ⟨h3, h4⟩
          have hs := Lib.hid (show powF x (k + 1) = (powF x k * x) % 10007 from rfl)
          go_wp2_with (go_at_call 30; refine (impl_Reduce _ _).mono ?_; rintro e w' ⟨rfl, rfl⟩)
          go_round
          case rel => exact ⟨k + 1, by omega, by go_num, by rw [hs.out]⟩
          case measure => simp [intOf]; omega
        · have HK := Lib.hid (show n.toNat = k by omega)
          go_wp2
          go_ret
          exact ⟨ret_int (by rw [HE.out, HK.out]), rfl⟩
    · have HE := Lib.hid (show powV n x = 0 by unfold powV; rw [if_neg (by omega)])
      have hx' : x < 0 ∨ 10006 < x := by omega
      go_enter Try.func20, Try.ntmps20
      go_wp2_with (first | (go_at_call 22; refine (within_t _ _ _ _ h1 h2).mono ?_; rintro e w' ⟨rfl, rfl⟩) | (go_at_call 29; refine (isNumber_f _ _ hx').mono ?_; rintro e w' ⟨rfl, rfl⟩))
      go_ret
      exact ⟨ret_int HE.out.symm, rfl⟩
  · have HE := Lib.hid (show powV n x = 0 by unfold powV; rw [if_neg (by omega)])
    have hn' : n < 0 ∨ 20 < n := by omega
    go_enter Try.func20, Try.ntmps20
    go_wp2_with (first | (go_at_call 22; refine (within_f _ _ _ _ hn').mono ?_; rintro e w' ⟨rfl, rfl⟩))
    go_ret
    exact ⟨ret_int HE.out.symm, rfl⟩
theorem spec_PowerValue (n x : Int) (w : World) :
    Calls Try.prog 19 #[.int .i64 n, .int .i64 x] w fun e w' => e = .returned (.int .i64 (powV n x)) ∧ w = w' := by
  by_cases hn : 0 ≤ n ∧ n ≤ 20
  · obtain ⟨h1, h2⟩ := hn
    by_cases hx : 0 ≤ x ∧ x ≤ 10006
    · obtain ⟨h3, h4⟩ := hx
      have HE := Lib.hid (show powV n x = powF x n.toNat by unfold powV; rw [if_pos ⟨h1, h2, h3, h4⟩])
      go_enter Try.func19, Try.ntmps19
      go_wp2_with (first | (go_at_call 21; refine (l1In_t _ _ _ _ h1 h2).mono ?_; rintro e w' ⟨rfl, rfl⟩) | (go_at_call 27; refine (l27Num_t _ _ h3 h4).mono ?_; rintro e w' ⟨rfl, rfl⟩))
      go_loop [5, 6] (fun o i => ∃ k : Nat, (k : Int) ≤ n ∧ i = .int .i64 k ∧ o = .int .i64 (powF x k)) (fun _ i => (n - intOf i).toNat)
      case atStart => exact ⟨0, by omega, rfl, rfl⟩
      case round =>
        obtain ⟨k, hk, rfl, rfl⟩ := hrel
        by_cases hlt : (k : Int) < n
        · have hb := mul_bd ⟨h3, h4⟩ (powF_bd x k)
          have hs := Lib.hid (show powF x (k + 1) = (x * powF x k) % 10007 by rw [powF, Int.mul_comm])
          go_wp2_with (go_at_call 28; refine (spec_Reduce _ _).mono ?_; rintro e w' ⟨rfl, rfl⟩)
          go_round
          case rel => exact ⟨k + 1, by omega, by go_num, by rw [hs.out]⟩
          case measure => simp [intOf]; omega
        · have HK := Lib.hid (show n.toNat = k by omega)
          go_wp2
          go_ret
          exact ⟨ret_int (by rw [HE.out, HK.out]), rfl⟩
    · have HE := Lib.hid (show powV n x = 0 by unfold powV; rw [if_neg (by omega)])
      have hx' : x < 0 ∨ 10006 < x := by omega
      go_enter Try.func19, Try.ntmps19
      go_wp2_with (first | (go_at_call 21; refine (l1In_t _ _ _ _ h1 h2).mono ?_; rintro e w' ⟨rfl, rfl⟩) | (go_at_call 27; refine (l27Num_f _ _ hx').mono ?_; rintro e w' ⟨rfl, rfl⟩))
      go_ret
      exact ⟨ret_int HE.out.symm, rfl⟩
  · have HE := Lib.hid (show powV n x = 0 by unfold powV; rw [if_neg (by omega)])
    have hn' : n < 0 ∨ 20 < n := by omega
    go_enter Try.func19, Try.ntmps19
    go_wp2_with (first | (go_at_call 21; refine (l1In_f _ _ _ _ hn').mono ?_; rintro e w' ⟨rfl, rfl⟩))
    go_ret
    exact ⟨ret_int HE.out.symm, rfl⟩
theorem law_FnExactPowerValue (n : Int) (_h : (Lit.int .i64 n).wf = true) (x : Int) (_h2 : (Lit.int .i64 x).wf = true) (w : World) :
    Calls Try.prog 8 #[.int .i64 n, .int .i64 x] w fun e w' => e = .returned (.bool true) ∧ Below w.heap.size w w' := by
  go_enter Try.func8, Try.ntmps8
  go_wp2_with fail
  refine (spec_PowerValue n x _).mono ?_
  rintro e w1 ⟨rfl, rfl⟩
  go_wp2_with fail
  refine (impl_PowerValue n x _).mono ?_
  rintro e w2 ⟨rfl, rfl⟩
  go_wp2
  go_ret
  exact ⟨rfl, Below.refl _ _⟩
end Go.Proofs.Ytabajpeonchfgaa
