/-
  slices.Backward over a list of parameters: its function value, and that value's body: it hands the elements to the loop's rounds, the last one first.
-/
import Derived.Test.YtkfknmnocddjbaaNc
import Derived.Test.YtkfknmnocddjbaaDat
import Derived.RangeFuncNested
import Derived.RangeFuncBound
import Derived.RangeFuncBox
import Derived.Shelf.Abstract
import Derived.Shelf.RegionOpen
import Derived.WalkKit
import Derived.OwnWalkIn
import Derived.TacticsInMore
import Derived.LoopNIn
import Derived.LoopIn
namespace Go.Proofs.Ytkfknmnocddjbaa
open Go.RowKit Go.Shelf
attribute [local go_sem] Oper.semAt_some
set_option linter.unusedVariables false
set_option linter.unusedSimpArgs false
theorem back0 (n : Nat) (a : Option Addr) (len cap : Nat) (w : World) :
    CallsIn Fence.wide n Try.prog 63 #[.slice a len cap] w fun e w' => e = .returned (.func (.func 131) #[] #[.pointer (some ⟨w.heap.size, 0, none⟩)]) ∧ w' = w.alloc (.cells #[.slice a len cap] 38) := by
  refine callsIn_of_wp Try.func63 rfl trivial ?_ rfl
  simp only [Try.ntmps63, List.size_toArray, List.length_cons, List.length_nil, Nat.reduceAdd, Nat.reduceSub, Array.replicate_succ, Array.replicate_zero, List.push_toArray, List.append_toArray, List.nil_append, List.cons_append]
  gi_wp2
  go_ret
  exact ⟨rfl, rfl⟩
set_option maxRecDepth 100000 in
set_option maxHeartbeats 2000000 in
theorem back1 (m l Bs n cap : Nat) (a : Option Addr) (hm : 1 ≤ m) (hn : n ≤ 1000000000) (J : Nat → World → Prop) (E : Nat → ByteArray × Int × Value × Bool)
    (hc : ∀ k W, J k W → W.cell? ⟨Bs, 0, none⟩ = some (.slice a n cap))
    (hr : ∀ k W, J k W → ∀ j, j < n → ∃ b off, a = some ⟨b, off, none⟩ ∧ W.cell? ⟨b, off + j * 4, none⟩ = some (.string (E j).1) ∧ W.cell? ⟨b, off + j * 4 + 1, none⟩ = some (.int .i64 (E j).2.1) ∧ W.cell? ⟨b, off + j * 4 + 2, none⟩ = some (E j).2.2.1 ∧ W.cell? ⟨b, off + j * 4 + 3, none⟩ = some (.bool (E j).2.2.2))
    (hY : ∀ k W, J k W → k < n → YieldAt Fence.wide (m - 1) Try.prog l #[.int .i64 ((n - 1 - k : Nat) : Int), .agg #[.string (E (n - 1 - k)).1, .int .i64 (E (n - 1 - k)).2.1, (E (n - 1 - k)).2.2.1, .bool (E (n - 1 - k)).2.2.2]] W fun e W' => e = .returned (.bool true) ∧ J (k + 1) W')
    (W : World) (h0 : J 0 W) :
    CallsIn Fence.wide m Try.prog 131 #[.func (.yield l) #[] #[], .pointer (some ⟨Bs, 0, none⟩)] W fun e W' => (∃ v, e = .returned v) ∧ J n W' := by
  refine callsIn_of_wp Try.func131 rfl trivial ?_ rfl
  simp only [Try.ntmps131, List.size_toArray, List.length_cons, List.length_nil, Nat.reduceAdd, Nat.reduceSub, Array.replicate_succ, Array.replicate_zero, List.push_toArray, List.append_toArray, List.nil_append, List.cons_append]
  have hcW := hc 0 W h0
  gi_wp2
  gi_loopw [3] (fun i wr => ∃ k : Nat, k ≤ n ∧ i = .int .i64 ((n : Int) - 1 - k) ∧ J k wr)
    (fun i _ => (intOf i + 1).toNat)
  case atStart => exact ⟨0, Nat.zero_le _, by simp, h0⟩
  case round =>
    obtain ⟨k, hk, rfl, hJs⟩ := hrel
    have hcx := hc k wr hJs
    by_cases hlt : k < n
    · obtain ⟨b, off, rfl, c0, c1, c2, c3⟩ := hr k wr hJs (n - 1 - k) (by omega)
      have hi : ((n : Int) - 1 - k) = ((n - 1 - k : Nat) : Int) := by omega
      rw [hi]
      obtain ⟨fn, tmps, assign, body, hy, hR⟩ := hY k wr hJs hlt
      generalize hq : n - 1 - k = q at *
      gi_wp2
      refine hR.mono ?_
      rintro e W3 ⟨rfl, hJ3⟩
      gi_wp2
      go_roundw
      case rel => exact ⟨k + 1, by omega, by simp; omega, hJ3⟩
      case measure => simp [intOf]
    · obtain rfl : k = n := by omega
      gi_wp2
      go_end0
      exact ⟨⟨_, rfl⟩, hJs⟩
end Go.Proofs.Ytkfknmnocddjbaa
