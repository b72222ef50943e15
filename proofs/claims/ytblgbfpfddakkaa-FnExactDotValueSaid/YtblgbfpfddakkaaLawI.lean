/-
  The laws over slices of numbers: CountRule, HornerValue, DotValue.
-/
import Derived.Test.YtblgbfpfddakkaaCoef
import Derived.Test.YtblgbfpfddakkaaArg
namespace Go.Proofs.Ytblgbfpfddakkaa
open Go.RowKit
theorem law_FnExactCountRule (ns : List Int) (v : Value) (r : Int) (S : Nat) (w : World) (hv : RepV w S (intsD ns) v) (hS : S ≤ w.heap.size) :
    Calls Try.prog 4 #[v, .int .i64 r] w fun e w' => e = .returned (.bool true) ∧ Below w.heap.size w w' := by
  have hk := hv
  obtain ⟨a, cap, rfl, hl, hm, hc⟩ := hv.ints
  clear hc
  by_cases h : 1048576 < ns.length
  · have h' : (1048576 : Int) < (ns.length : Int) := by omega
    go_enter Try.func4, Try.ntmps4
    go_wp2
    go_ret
    exact ⟨rfl, Below.refl _ _⟩
  · have h' : ¬ (1048576 : Int) < (ns.length : Int) := by omega
    have heq : eqI ns ns = true := by unfold eqI; simp
    go_enter Try.func4, Try.ntmps4
    go_wp2_with fail
    refine (laws_toIntS ns _ S _ hk hS (by omega)).mono ?_
    rintro e w1 ⟨u1, rfl, hf1, hb1⟩
    go_wp2_with fail
    refine (spec_CountRule ns r _ _ _ hf1.rep).mono ?_
    rintro e w2 ⟨rfl, rfl⟩
    go_wp2_with fail
    refine (laws_toIntS ns _ S _ (hk.later (hb1.mono hS) (Nat.le_refl _)) (Nat.le_trans hS hb1.size) (by omega)).mono ?_
    rintro e w3 ⟨u2, rfl, hf2, hb2⟩
    go_wp2_with fail
    refine (impl_CountRule ns r _ _ _ hf2.rep).mono ?_
    rintro e w4 ⟨rfl, rfl⟩
    go_wp2_with fail
    have hb12 := hb1.trans (hb2.mono hb1.size)
    refine (laws_toIntS ns _ S _ (hk.later (hb12.mono hS) (Nat.le_refl _)) (Nat.le_trans hS hb12.size) (by omega)).mono ?_
    rintro e w5 ⟨u3, rfl, hf3, hb3⟩
    go_wp2_with fail
    refine (laws_eqIntS ns ns _ _ _ _ _ (hf2.later hb3).rep hf3.rep).mono ?_
    rintro e w6 ⟨rfl, hb4⟩
    go_wp2
    go_ret
    have hb123 := hb12.trans (hb3.mono hb12.size)
    exact ⟨rfl, hb123.trans (hb4.mono hb123.size)⟩
theorem law_FnExactHornerValue (ns : List Int) (v : Value) (r : Int) (S : Nat) (w : World) (hv : RepV w S (intsD ns) v) (hS : S ≤ w.heap.size) :
    Calls Try.prog 5 #[v, .int .i64 r] w fun e w' => e = .returned (.bool true) ∧ Below w.heap.size w w' := by
  have hk := hv
  obtain ⟨a, cap, rfl, hl, hm, hc⟩ := hv.ints
  clear hc
  by_cases h : 1048576 < ns.length
  · have h' : (1048576 : Int) < (ns.length : Int) := by omega
    go_enter Try.func5, Try.ntmps5
    go_wp2
    go_ret
    exact ⟨rfl, Below.refl _ _⟩
  · have h' : ¬ (1048576 : Int) < (ns.length : Int) := by omega
    have heq : eqI ns ns = true := by unfold eqI; simp
    go_enter Try.func5, Try.ntmps5
    go_wp2_with fail
    refine (laws_toIntS ns _ S _ hk hS (by omega)).mono ?_
    rintro e w1 ⟨u1, rfl, hf1, hb1⟩
    go_wp2_with fail
    refine (spec_HornerValue ns r _ _ _ hf1.rep (Nat.le_refl _)).mono ?_
    rintro e w2 ⟨rfl, hc1⟩
    have hb2 := hb1.trans (hc1.mono hb1.size)
    clear hb1 hc1 hf1
    go_wp2_with fail
    refine (laws_toIntS ns _ S _ (hk.later (hb2.mono hS) (Nat.le_refl _)) (Nat.le_trans hS hb2.size) (by omega)).mono ?_
    rintro e w3 ⟨u2, rfl, hf2, hc2⟩
    have hb3 := hb2.trans (hc2.mono hb2.size)
    clear hb2 hc2
    go_wp2_with fail
    refine (impl_HornerValue ns r _ _ _ hf2.rep).mono ?_
    rintro e w4 ⟨rfl, rfl⟩
    go_wp2_with fail
    refine (laws_toIntS ns _ S _ (hk.later (hb3.mono hS) (Nat.le_refl _)) (Nat.le_trans hS hb3.size) (by omega)).mono ?_
    rintro e w5 ⟨u3, rfl, hf3, hc3⟩
    have hb4 := hb3.trans (hc3.mono hb3.size)
    go_wp2_with fail
    refine (laws_eqIntS ns ns _ _ _ _ _ (hf2.later hc3).rep hf3.rep).mono ?_
    rintro e w6 ⟨rfl, hc4⟩
    go_wp2
    go_ret
    exact ⟨rfl, hb4.trans (hc4.mono hb4.size)⟩
theorem law_FnExactDotValue (ns ms : List Int) (v u : Value) (S : Nat) (w : World) (hv : RepV w S (intsD ns) v) (hu : RepV w S (intsD ms) u) (hS : S ≤ w.heap.size) :
    Calls Try.prog 6 #[v, u] w fun e w' => e = .returned (.bool true) ∧ Below w.heap.size w w' := by
  have hk := hv
  have hj := hu
  obtain ⟨a, cap, rfl, hl, hm, hc⟩ := hv.ints
  obtain ⟨a', cap', rfl, hl', hm', hc'⟩ := hu.ints
  clear hc hc'
  by_cases h : 1048576 < ns.length
  · have h' : (1048576 : Int) < (ns.length : Int) := by omega
    go_enter Try.func6, Try.ntmps6
    go_wp2
    go_ret
    exact ⟨rfl, Below.refl _ _⟩
  · have h' : ¬ (1048576 : Int) < (ns.length : Int) := by omega
    by_cases g : 1048576 < ms.length
    · have g' : (1048576 : Int) < (ms.length : Int) := by omega
      go_enter Try.func6, Try.ntmps6
      go_wp2
      go_ret
      exact ⟨rfl, Below.refl _ _⟩
    · have g' : ¬ (1048576 : Int) < (ms.length : Int) := by omega
      have heq : eqI ns ns = true := by unfold eqI; simp
      have heq' : eqI ms ms = true := by unfold eqI; simp
      go_enter Try.func6, Try.ntmps6
      go_wp2_with fail
      refine (laws_toIntS ns _ S _ hk hS (by omega)).mono ?_
      rintro e w1 ⟨u1, rfl, hf1, hb1⟩
      go_wp2_with fail
      refine (laws_toIntS ms _ S _ (hj.later (hb1.mono hS) (Nat.le_refl _)) (Nat.le_trans hS hb1.size) (by omega)).mono ?_
      rintro e w2 ⟨u2, rfl, hf2, hc1⟩
      have hb2 := hb1.trans (hc1.mono hb1.size)
      go_wp2_with fail
      refine (spec_DotValue ns ms _ _ _ _ _ (hf1.later hc1).rep hf2.rep).mono ?_
      rintro e w3 ⟨rfl, hc2⟩
      have hb3 := hb2.trans (hc2.mono hb2.size)
      clear hb1 hc1 hf1 hb2 hc2 hf2
      go_wp2_with fail
      refine (laws_toIntS ns _ S _ (hk.later (hb3.mono hS) (Nat.le_refl _)) (Nat.le_trans hS hb3.size) (by omega)).mono ?_
      rintro e w4 ⟨u3, rfl, hf3, hc3⟩
      have hb4 := hb3.trans (hc3.mono hb3.size)
      clear hb3
      go_wp2_with fail
      refine (laws_toIntS ms _ S _ (hj.later (hb4.mono hS) (Nat.le_refl _)) (Nat.le_trans hS hb4.size) (by omega)).mono ?_
      rintro e w5 ⟨u4, rfl, hf4, hc4⟩
      have hb5 := hb4.trans (hc4.mono hb4.size)
      replace hf3 := hf3.later hc4
      clear hb4 hc3 hc4
      go_wp2_with fail
      refine (impl_DotValue ns ms _ _ _ _ _ hf3.rep hf4.rep).mono ?_
      rintro e w6 ⟨rfl, rfl⟩
      go_wp2_with fail
      refine (laws_toIntS ns _ S _ (hk.later (hb5.mono hS) (Nat.le_refl _)) (Nat.le_trans hS hb5.size) (by omega)).mono ?_
      rintro e w7 ⟨u5, rfl, hf5, hc5⟩
      have hb6 := hb5.trans (hc5.mono hb5.size)
      replace hf3 := hf3.later hc5
      replace hf4 := hf4.later hc5
      clear hb5 hc5
      go_wp2_with fail
      refine (laws_eqIntS ns ns _ _ _ _ _ hf3.rep hf5.rep).mono ?_
      rintro e w8 ⟨rfl, hc6⟩
      have hb7 := hb6.trans (hc6.mono hb6.size)
      replace hf4 := hf4.later hc6
      clear hb6 hc6 hf3 hf5
      go_wp2_with fail
      refine (laws_toIntS ms _ S _ (hj.later (hb7.mono hS) (Nat.le_refl _)) (Nat.le_trans hS hb7.size) (by omega)).mono ?_
      rintro e w9 ⟨u6, rfl, hf6, hc7⟩
      have hb8 := hb7.trans (hc7.mono hb7.size)
      replace hf4 := hf4.later hc7
      clear hb7 hc7
      go_wp2_with fail
      refine (laws_eqIntS ms ms _ _ _ _ _ hf4.rep hf6.rep).mono ?_
      rintro e w10 ⟨rfl, hc8⟩
      go_wp2
      go_ret
      exact ⟨rfl, hb8.trans (hc8.mono hb8.size)⟩
theorem top_FnExactCountRule (w : World) (v : Value) (h : Arg w .ints v) (r : Int) (_h : (Lit.int .i64 r).wf = true) : Calls Try.prog 4 #[v, .int .i64 r] w fun e w' => e = .returned (.bool true) ∧ Below w.heap.size w w' := by
  obtain ⟨ns, hv⟩ := isInts h
  exact law_FnExactCountRule ns v r _ w hv (Nat.le_refl _)
theorem top_FnExactHornerValue (w : World) (v : Value) (h : Arg w .ints v) (r : Int) (_h : (Lit.int .i64 r).wf = true) : Calls Try.prog 5 #[v, .int .i64 r] w fun e w' => e = .returned (.bool true) ∧ Below w.heap.size w w' := by
  obtain ⟨ns, hv⟩ := isInts h
  exact law_FnExactHornerValue ns v r _ w hv (Nat.le_refl _)
theorem top_FnExactDotValue (w : World) (v : Value) (h : Arg w .ints v) (u : Value) (h' : Arg w .ints u) : Calls Try.prog 6 #[v, u] w fun e w' => e = .returned (.bool true) ∧ Below w.heap.size w w' := by
  obtain ⟨ns, hv⟩ := isInts h
  obtain ⟨ms, hu⟩ := isInts h'
  exact law_FnExactDotValue ns ms v u _ w hv hu (Nat.le_refl _)
end Go.Proofs.Ytblgbfpfddakkaa
