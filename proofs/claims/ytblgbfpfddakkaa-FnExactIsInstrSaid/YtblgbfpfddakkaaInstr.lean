/-
  IsInstr of the program and of the reference: an instruction's number and argument lie in their bounds.
-/
import Derived.Test.YtblgbfpfddakkaaRed
import Derived.Test.YtblgbfpfddakkaaHToL
import Derived.Test.YtblgbfpfddakkaaArg
namespace Go.Proofs.Ytblgbfpfddakkaa
open Go.RowKit
def inB (x lo hi : Int) : Bool := decide (lo ≤ x ∧ x ≤ hi)
theorem within_b (x lo hi : Int) (w : World) : Calls Try.prog 32 #[.int .i64 x, .int .i64 lo, .int .i64 hi] w fun e w' => e = .returned (.bool (inB x lo hi)) ∧ w = w' := by
  by_cases h : lo ≤ x ∧ x ≤ hi
  · rw [show inB x lo hi = true by simp [inB, h]]; exact within_t x lo hi w h.1 h.2
  · rw [show inB x lo hi = false by simp [inB]; omega]; exact within_f x lo hi w (by omega)
theorem isNumber_b (x : Int) (w : World) : Calls Try.prog 31 #[.int .i64 x] w fun e w' => e = .returned (.bool (inB x 0 10006)) ∧ w = w' := by
  by_cases h : 0 ≤ x ∧ x ≤ 10006
  · rw [show inB x 0 10006 = true by simp [inB, h]]; exact isNumber_t x w h.1 h.2
  · rw [show inB x 0 10006 = false by simp [inB]; omega]; exact isNumber_f x w (by omega)
theorem l1In_b (x lo hi : Int) (w : World) : Calls Try.prog 30 #[.int .i64 x, .int .i64 lo, .int .i64 hi] w fun e w' => e = .returned (.bool (inB x lo hi)) ∧ w = w' := by
  by_cases h : lo ≤ x ∧ x ≤ hi
  · rw [show inB x lo hi = true by simp [inB, h]]; exact l1In_t x lo hi w h.1 h.2
  · rw [show inB x lo hi = false by simp [inB]; omega]; exact l1In_f x lo hi w (by omega)
def instrHi (op : Int) : Int := if op = 1 then 10006 else if op = 2 then 1 else if op = 4 then 8 else 299
def instrF (op a : Int) : Bool := if 1 ≤ op ∧ op ≤ 8 then inB a (if op = 4 then 1 else 0) (instrHi op) else inB op 9 12 && decide (a = 0)
theorem instrF_other (op a : Int) (h : op < 1 ∨ 8 < op) : instrF op a = (inB op 9 12 && decide (a = 0)) := by unfold instrF; rw [if_neg (by omega)]
set_option maxHeartbeats 1000000 in
theorem impl_IsInstr (op a : Int) (w : World) : Calls Try.prog 12 #[.agg #[.int .i64 op, .int .i64 a]] w fun e w' => e = .returned (.bool (instrF op a)) ∧ Below w.heap.size w w' := by
  by_cases h : 1 ≤ op ∧ op ≤ 8
  · obtain ⟨h1, h2⟩ := h
    rcases (show op = 1 ∨ op = 2 ∨ op = 3 ∨ op = 4 ∨ op = 5 ∨ op = 6 ∨ op = 7 ∨ op = 8 by omega) with rfl | rfl | rfl | rfl | rfl | rfl | rfl | rfl
    all_goals
      go_enter Try.func12, Try.ntmps12
      go_wp2_with (first | (go_at_call 31; refine (isNumber_b _ _).mono ?_; rintro e w' ⟨rfl, rfl⟩) | (go_at_call 32; refine (within_b _ _ _ _).mono ?_; rintro e w' ⟨rfl, rfl⟩))
      go_ret
      exact ⟨rfl, (Below.refl _ _).alloc (Nat.le_refl _) _⟩
  · have hx : op < 1 ∨ 8 < op := by omega
    have HF := Lib.hid (instrF_other op a hx)
    have e1 : (op == 1) = false := by simp; omega
    have e2 : (op == 2) = false := by simp; omega
    have e3 : (op == 3) = false := by simp; omega
    have e4 : (op == 4) = false := by simp; omega
    have e5 : (op == 5) = false := by simp; omega
    have e6 : (op == 6) = false := by simp; omega
    have e7 : (op == 7) = false := by simp; omega
    have e8 : (op == 8) = false := by simp; omega
    by_cases hi : 9 ≤ op ∧ op ≤ 12
    · have H1 := Lib.hid (show inB op 9 12 = true by simp [inB, hi])
      obtain ⟨i1, i2⟩ := hi
      by_cases ha : a = 0
      · subst ha
        go_enter Try.func12, Try.ntmps12
        go_wp2_with (go_at_call 32; refine (within_t _ _ _ _ i1 i2).mono ?_; rintro e w' ⟨rfl, rfl⟩)
        go_ret
        exact ⟨by rw [HF.out, H1.out]; rfl, (Below.refl _ _).alloc (Nat.le_refl _) _⟩
      · have a0 : (a == 0) = false := by simp [ha]
        have HA := Lib.hid ha
        clear ha
        go_enter Try.func12, Try.ntmps12
        go_wp2_with (go_at_call 32; refine (within_t _ _ _ _ i1 i2).mono ?_; rintro e w' ⟨rfl, rfl⟩)
        go_ret
        exact ⟨by rw [HF.out, H1.out]; simp [HA.out], (Below.refl _ _).alloc (Nat.le_refl _) _⟩
    · have H1 := Lib.hid (show inB op 9 12 = false by simp [inB]; omega)
      have i1 : op < 9 ∨ 12 < op := by omega
      clear hi
      go_enter Try.func12, Try.ntmps12
      go_wp2_with (go_at_call 32; refine (within_f _ _ _ _ i1).mono ?_; rintro e w' ⟨rfl, rfl⟩)
      go_ret
      exact ⟨by rw [HF.out, H1.out]; rfl, (Below.refl _ _).alloc (Nat.le_refl _) _⟩
set_option maxHeartbeats 1000000 in
theorem spec_IsInstr (op a : Int) (w : World) : Calls Try.prog 10 #[.agg #[.int .i64 op, .int .i64 a]] w fun e w' => e = .returned (.bool (instrF op a)) ∧ Below w.heap.size w w' := by
  by_cases h : 1 ≤ op ∧ op ≤ 8
  · obtain ⟨h1, h2⟩ := h
    rcases (show op = 1 ∨ op = 2 ∨ op = 3 ∨ op = 4 ∨ op = 5 ∨ op = 6 ∨ op = 7 ∨ op = 8 by omega) with rfl | rfl | rfl | rfl | rfl | rfl | rfl | rfl
    all_goals
      go_enter Try.func10, Try.ntmps10
      go_wp2_with (go_at_call 30; refine (l1In_b _ _ _ _).mono ?_; rintro e w' ⟨rfl, rfl⟩)
      go_ret
      exact ⟨rfl, (Below.refl _ _).alloc (Nat.le_refl _) _⟩
  · have hx : op < 1 ∨ 8 < op := by omega
    have HF := Lib.hid (instrF_other op a hx)
    have e1 : (op == 1) = false := by simp; omega
    have e2 : (op == 2) = false := by simp; omega
    have e3 : (op == 3) = false := by simp; omega
    have e4 : (op == 4) = false := by simp; omega
    have e5 : (op == 5) = false := by simp; omega
    have e6 : (op == 6) = false := by simp; omega
    have e7 : (op == 7) = false := by simp; omega
    have e8 : (op == 8) = false := by simp; omega
    by_cases hi : 9 ≤ op ∧ op ≤ 12
    · have H1 := Lib.hid (show inB op 9 12 = true by simp [inB, hi])
      obtain ⟨i1, i2⟩ := hi
      by_cases ha : a = 0
      · subst ha
        go_enter Try.func10, Try.ntmps10
        go_wp2_with (go_at_call 30; refine (l1In_t _ _ _ _ i1 i2).mono ?_; rintro e w' ⟨rfl, rfl⟩)
        go_ret
        exact ⟨by rw [HF.out, H1.out]; rfl, (Below.refl _ _).alloc (Nat.le_refl _) _⟩
      · have a0 : (a == 0) = false := by simp [ha]
        have HA := Lib.hid ha
        clear ha
        go_enter Try.func10, Try.ntmps10
        go_wp2_with (go_at_call 30; refine (l1In_t _ _ _ _ i1 i2).mono ?_; rintro e w' ⟨rfl, rfl⟩)
        go_ret
        exact ⟨by rw [HF.out, H1.out]; simp [HA.out], (Below.refl _ _).alloc (Nat.le_refl _) _⟩
    · have H1 := Lib.hid (show inB op 9 12 = false by simp [inB]; omega)
      have i1 : op < 9 ∨ 12 < op := by omega
      clear hi
      go_enter Try.func10, Try.ntmps10
      go_wp2_with (go_at_call 30; refine (l1In_f _ _ _ _ i1).mono ?_; rintro e w' ⟨rfl, rfl⟩)
      go_ret
      exact ⟨by rw [HF.out, H1.out]; rfl, (Below.refl _ _).alloc (Nat.le_refl _) _⟩
theorem law_FnExactIsInstr (op a : Int) (w : World) : Calls Try.prog 3 #[.agg #[.int .i64 op, .int .i64 a]] w fun e w' => e = .returned (.bool true) ∧ Below w.heap.size w w' := by
  go_enter Try.func3, Try.ntmps3
  go_wp2_with fail
  refine (toInstr_of op a (w.heap.size + 1) _ (by simp) (by simp [szL, szD])).mono ?_
  rintro e w1 ⟨rfl, hf1, hb1⟩
  have hb2 := ((Below.refl _ _).alloc (Nat.le_refl _) _).trans (hb1.mono (by simp))
  have hc1 := hb1.cell (p := ⟨w.heap.size, 0, none⟩) (by simp)
  have hc2 := hb1.cell (p := ⟨w.heap.size, 0 + 1, none⟩) (by simp)
  rw [cell_of_row _ _ _ _ _ _ (heap_alloc_new w _)] at hc1 hc2
  simp at hc1 hc2
  clear hb1 hf1
  go_wp2_with fail
  refine (spec_IsInstr op a _).mono ?_
  rintro e w2 ⟨rfl, hb3⟩
  have hb4 := hb2.trans (hb3.mono hb2.size)
  have hl : w.heap.size < w1.heap.size := World.block_lt_of_cell? w1 _ hc1
  have hd1 := (hb3.cell (p := ⟨w.heap.size, 0, none⟩) hl).trans hc1
  have hd2 := (hb3.cell (p := ⟨w.heap.size, 1, none⟩) hl).trans hc2
  clear hc1 hc2 hb2 hb3 hl
  go_wp2_with fail
  refine (toInstr_of op a _ _ (Nat.le_refl _) (by simp [szL, szD])).mono ?_
  rintro e w3 ⟨rfl, hf3, hb5⟩
  have hb6 := hb4.trans (hb5.mono hb4.size)
  go_wp2_with fail
  refine (impl_IsInstr op a _).mono ?_
  rintro e w4 ⟨rfl, hb7⟩
  go_wp2
  go_ret
  exact ⟨rfl, hb6.trans (hb7.mono hb6.size)⟩
theorem top_FnExactIsInstr (w : World) (cs : Array Value) (h : ArgS w [.int, .int] cs) : Calls Try.prog 3 #[.agg cs] w fun e w' => e = .returned (.bool true) ∧ Below w.heap.size w w' := by
  obtain ⟨a, b, rfl⟩ := argS_ints2 h
  exact law_FnExactIsInstr a b w
end Go.Proofs.Ytblgbfpfddakkaa
