/-
  HashText of the program and of the reference return the same hash; the law says so.
-/
import Derived.Test.YtabajpeonchfgaaRows
import Derived.WalkKit
import Derived.Lib.Hide
namespace Go.Proofs.Ytabajpeonchfgaa
open Go.RowKit

def hashF (l : List UInt8) : Int := l.foldl (fun h c => (31 * h + (c.toNat : Int)) % 1000003) 7
theorem hashF_bd (l : List UInt8) : 0 ≤ hashF l ∧ hashF l ≤ 1000002 := by
  unfold hashF
  have : ∀ (l : List UInt8) (a : Int), 0 ≤ a ∧ a ≤ 1000002 → 0 ≤ l.foldl (fun h c => (31 * h + (c.toNat : Int)) % 1000003) a ∧ l.foldl (fun h c => (31 * h + (c.toNat : Int)) % 1000003) a ≤ 1000002 := by
    intro l
    induction l with
    | nil => intro a h; simpa using h
    | cons c l ih => intro a h; simp only [List.foldl_cons]; exact ih _ (by omega)
  exact this l 7 (by omega)
theorem hash_take_snoc (s : ByteArray) (k : Nat) (h : k < s.size) : s.data.toList.take (k + 1) = s.data.toList.take k ++ [s[k]] := by
  rw [List.take_succ_eq_append_getElem (by simpa using h)]; rfl
theorem hashF_snoc (s : ByteArray) (k : Nat) (h : k < s.size) : hashF (s.data.toList.take (k + 1)) = (31 * hashF (s.data.toList.take k) + (s[k].toNat : Int)) % 1000003 := by
  rw [hash_take_snoc s k h]; unfold hashF; rw [List.foldl_append]; rfl

set_option maxHeartbeats 400000 in
theorem impl_HashText (s : ByteArray) (w : World) (hs : s.size ≤ 140737488351232) :
    Calls Try.prog 10 #[.string s] w fun e w' => e = .returned (.int .i64 (hashF s.data.toList)) ∧ w = w' := by
  go_enter Try.func10, Try.ntmps10
  go_wp2
  go_loop [3, 4, 7] (fun h _ i => ∃ k : Nat, k ≤ s.size ∧ i = .int .i64 k ∧ h = .int .i64 (hashF (s.data.toList.take k))) (fun _ _ i => s.size - (intOf i).toNat)
  case atStart => exact ⟨0, Nat.zero_le _, rfl, rfl⟩
  case round =>
    obtain ⟨k, hk, rfl, rfl⟩ := hrel
    have hb := hashF_bd (s.data.toList.take k)
    by_cases hlt : k < s.size
    · have HS := Lib.hid (hashF_snoc s k hlt)
      have hc : (s[k].toNat : Int) ≤ 255 := by have := s[k].toNat_lt; omega
      go_wp2
      go_round
      case rel => exact ⟨k + 1, by omega, by go_num, by rw [HS.out]⟩
      case measure => simp [intOf]; omega
    · have HE := Lib.hid (show s.data.toList.take k = s.data.toList from List.take_of_length_le (by simp; omega))
      go_wp2
      go_ret
      rw [HE.out]
      exact ⟨rfl, rfl⟩
set_option maxHeartbeats 400000 in
theorem spec_HashText (s : ByteArray) (w : World) (hs : s.size ≤ 140737488351232) :
    Calls Try.prog 9 #[.string s] w fun e w' => e = .returned (.int .i64 (hashF s.data.toList)) ∧ w = w' := by
  go_enter Try.func9, Try.ntmps9
  go_wp2
  go_loop [3, 4] (fun h i => ∃ k : Nat, k ≤ s.size ∧ i = .int .i64 k ∧ h = .int .i64 (hashF (s.data.toList.take k))) (fun _ i => s.size - (intOf i).toNat)
  case atStart => exact ⟨0, Nat.zero_le _, rfl, rfl⟩
  case round =>
    obtain ⟨k, hk, rfl, rfl⟩ := hrel
    have hb := hashF_bd (s.data.toList.take k)
    by_cases hlt : k < s.size
    · have HS := Lib.hid (hashF_snoc s k hlt)
      have hc : (s[k].toNat : Int) ≤ 255 := by have := s[k].toNat_lt; omega
      go_wp2
      go_round
      case rel => exact ⟨k + 1, by omega, by go_num, by rw [HS.out]⟩
      case measure => simp [intOf]; omega
    · have HE := Lib.hid (show s.data.toList.take k = s.data.toList from List.take_of_length_le (by simp; omega))
      go_wp2
      go_ret
      rw [HE.out]
      exact ⟨rfl, rfl⟩

theorem fits63 : (140737488351232 : Nat) ≤ maxLen := by unfold maxLen; omega
theorem law_HashText (s : ByteArray) (_hs : s.size ≤ maxLen) (w : World) :
    Calls Try.prog 3 #[.string s] w fun e w' => e = .returned (.bool true) ∧ Below w.heap.size w w' := by
  by_cases h : 1048576 < s.size
  · go_enter Try.func3, Try.ntmps3
    go_wp2
    go_ret
    exact ⟨rfl, Below.refl _ _⟩
  · go_enter Try.func3, Try.ntmps3
    go_wp2_with fail
    refine (spec_HashText s _ (by omega)).mono ?_
    rintro e w' ⟨rfl, rfl⟩
    go_wp2_with fail
    refine (impl_HashText s _ (by omega)).mono ?_
    rintro e w' ⟨rfl, rfl⟩
    go_wp2
    go_ret
    exact ⟨rfl, Below.refl _ _⟩
end Go.Proofs.Ytabajpeonchfgaa
