/-
  OpNumber of the program and of the reference return the same number; the law says so.
-/
import Derived.Test.YtabajpeonchfgaaRng
import Derived.Test.YtabajpeonchfgaaIdx
namespace Go.Proofs.Ytabajpeonchfgaa
open Go.RowKit
def opsL : List ByteArray := [⟨#[43]⟩, ⟨#[45]⟩, ⟨#[42]⟩, ⟨#[61]⟩, ⟨#[60]⟩, ⟨#[38]⟩, ⟨#[124]⟩, ⟨#[33]⟩]
theorem idxFrom_bd (s : ByteArray) : ∀ (ss : List ByteArray) (k : Nat), -1 ≤ idxFrom s ss k ∧ idxFrom s ss k ≤ (k : Int) + ss.length
  | [], k => by simp [idxFrom]
  | x :: r, k => by
    have := idxFrom_bd s r (k + 1)
    simp only [idxFrom, List.length_cons]
    split <;> omega
theorem idxF_bd (ss : List ByteArray) (s : ByteArray) : -1 ≤ idxF ss s ∧ idxF ss s ≤ (ss.length : Int) := by
  have := idxFrom_bd s ss 0
  unfold idxF; omega
theorem rep_new_strs (w : World) (ss : List ByteArray) (t : TypeId) (hm : ss.length ≤ maxLen) : RepV (w.alloc (.cells (ss.map Value.string).toArray t)) (w.heap.size + 1) (strsD ss) (.slice (some ⟨w.heap.size, 0, none⟩) ss.length ss.length) := by
  unfold strsD RepV
  refine ⟨_, _, rfl, Nat.le_refl _, hm, by simp, .inr ⟨_, _, rfl, by omega, RepL.of _ _ fun i hi => ?_⟩⟩
  simp at hi
  refine ⟨.string ss[i], ?_, by simp [RepV]⟩
  rw [cell_of_row _ _ _ _ _ _ (heap_alloc_new w _)]
  simp [hi]
theorem impl_operations (w : World) : Calls Try.prog 24 #[] w fun e w' => ∃ v, e = .returned v ∧ RepV w' w'.heap.size (strsD opsL) v ∧ Below w.heap.size w w' := by
  go_enter Try.func24, Try.ntmps24
  go_wp2
  go_ret
  exact ⟨_, rfl, by simpa [opsL] using rep_new_strs w opsL 9 (by decide), (Below.refl _ _).alloc (Nat.le_refl _) _⟩
theorem spec_l21Ops (w : World) : Calls Try.prog 23 #[] w fun e w' => ∃ v, e = .returned v ∧ RepV w' w'.heap.size (strsD opsL) v ∧ Below w.heap.size w w' := by
  go_enter Try.func23, Try.ntmps23
  go_wp2
  go_ret
  exact ⟨_, rfl, by simpa [opsL] using rep_new_strs w opsL 9 (by decide), (Below.refl _ _).alloc (Nat.le_refl _) _⟩
theorem impl_OpNumber (s : ByteArray) (w : World) : Calls Try.prog 16 #[.string s] w fun e w' => e = .returned (.int .i64 (idxF opsL s + 1)) ∧ Below w.heap.size w w' := by
  have hb := idxF_bd opsL s
  have hl : (opsL.length : Int) = 8 := rfl
  have hb2 : idxF opsL s ≤ 8 := by omega
  clear hl
  go_enter Try.func16, Try.ntmps16
  go_wp2_with fail
  refine (impl_operations _).mono ?_
  rintro e w1 ⟨v, rfl, hr, hb1⟩
  go_wp2_with fail
  refine (slices_Index_string opsL s v _ _ hr).mono ?_
  rintro e w2 ⟨rfl, rfl⟩
  go_wp2
  go_ret
  exact ⟨rfl, hb1⟩
theorem spec_OpNumber (s : ByteArray) (w : World) : Calls Try.prog 15 #[.string s] w fun e w' => e = .returned (.int .i64 (idxF opsL s + 1)) ∧ Below w.heap.size w w' := by
  have hb := idxF_bd opsL s
  have hl : (opsL.length : Int) = 8 := rfl
  have hb2 : idxF opsL s ≤ 8 := by omega
  clear hl
  go_enter Try.func15, Try.ntmps15
  go_wp2_with fail
  refine (spec_l21Ops _).mono ?_
  rintro e w1 ⟨v, rfl, hr, hb1⟩
  go_wp2_with fail
  refine (spec_IndexOf opsL s v _ _ hr).mono ?_
  rintro e w2 ⟨rfl, rfl⟩
  go_wp2
  go_ret
  exact ⟨rfl, hb1⟩
theorem law_FnExactOpNumber (n : ByteArray) (_h : n.size ≤ maxLen) (w : World) :
    Calls Try.prog 6 #[.string n] w fun e w' => e = .returned (.bool true) ∧ Below w.heap.size w w' := by
  by_cases h : 1048576 < n.size
  · go_enter Try.func6, Try.ntmps6
    go_wp2
    go_ret
    exact ⟨rfl, Below.refl _ _⟩
  go_enter Try.func6, Try.ntmps6
  go_wp2_with fail
  refine (spec_OpNumber n _).mono ?_
  rintro e w1 ⟨rfl, hb1⟩
  go_wp2_with fail
  refine (impl_OpNumber n _).mono ?_
  rintro e w2 ⟨rfl, hb2⟩
  go_wp2
  go_ret
  exact ⟨rfl, hb1.trans (hb2.mono hb1.size)⟩
end Go.Proofs.Ytabajpeonchfgaa
