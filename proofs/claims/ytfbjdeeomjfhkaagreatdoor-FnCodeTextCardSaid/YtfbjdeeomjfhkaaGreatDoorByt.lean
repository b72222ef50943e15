/-
  An argument that is a slice of bytes.
-/
import Derived.Test.YtfbjdeeomjfhkaaGreatDoorCox
import Derived.ChangeSlices
namespace Go.Proofs.YtfbjdeeomjfhkaaGreatDoor
open Go.RowKit
set_option linter.unusedVariables false
set_option linter.unusedSimpArgs false
def BArg (w : World) (v : Value) : Prop := ∃ zs : List Int, RepV w w.heap.size (bytD zs) v ∧ zs.length ≤ maxLen ∧ ∀ n ∈ zs, 0 ≤ n ∧ n < 256
theorem repVs_byt (w : World) (S : Nat) : ∀ zs : List Int, RepVs w S (zs.map D.byt) (zs.map (Value.int .u8))
  | [] => by unfold RepVs; rfl
  | z :: zs => by
    rw [List.map_cons, List.map_cons]
    unfold RepVs
    exact ⟨_, _, rfl, by unfold RepV; rfl, repVs_byt w S zs⟩
theorem barg {H : Type} {enc : TypeId × Value → H} {w : World} {base : Nat} {spare : Nat → Bool} {held : Bool} {fuel : Nat} {a : Option Addr} {l c : Nat} {x : DataW H × List MemPlace}
    (hf : DataW.trod enc Tryz.prog w base spare held fuel 22 (Value.slice a l c).cells.toList = some x) : BArg w (.slice a l c) := by
  rcases ChangeShapes.open_ints Tryz.underlying22 Tryz.underlying5 (by kernel_rfl) hf with ⟨h, _⟩ | ⟨a', len, cap, zs, h, hb, hl, hm, hz, _, hc, hw⟩
  · have h' : [Value.slice a l c] = [.slice none 0 0] := h
    simp only [List.cons.injEq, Value.slice.injEq, and_true] at h'
    obtain ⟨rfl, rfl, rfl⟩ := h'
    refine ⟨[], ?_, Nat.zero_le _, by simp⟩
    unfold bytD RepV
    exact ⟨_, _, rfl, Nat.le_refl _, Nat.zero_le _, rfl, .inl rfl⟩
  · have h' : [Value.slice a l c] = [.slice (some a') len cap] := h
    simp only [List.cons.injEq, Value.slice.injEq, and_true] at h'
    obtain ⟨rfl, rfl, rfl⟩ := h'
    have hlz : l ≤ zs.length := by rw [hz]; split <;> omega
    refine ⟨zs.take l, ?_, by rw [List.length_take]; omega, fun n hn => ?_⟩
    · have hlen : (zs.take l).length = l := by rw [List.length_take]; omega
      unfold bytD RepV
      rw [hlen]
      refine ⟨_, _, rfl, hl, hm, by rw [List.length_map, hlen]; omega, ?_⟩
      rcases Nat.eq_zero_or_pos l with h0 | h0
      · exact .inl h0
      · right
        have h1 := hc 0 (by omega)
        have h3 : a'.add 0 = a' := by simp [Addr.add]
        rw [h3] at h1
        have h4 := World.cell?_spot h1
        have h5 := World.block_lt_of_cell? w _ h1
        obtain ⟨b, off, s⟩ := a'
        have hs : s = none := by simpa using h4
        subst hs
        refine ⟨b, off, (zs.take l).map (Value.int .u8), rfl, h5, fun i hi => ?_, repVs_byt _ _ _⟩
        have hi' : i < l := by rw [List.length_map, hlen] at hi; exact hi
        have h6 := hc i (by omega)
        rw [show (⟨b, off, none⟩ : Addr).add i = ⟨b, off + i, none⟩ by unfold Addr.add; simp] at h6
        rw [h6]
        simp [List.getD_eq_getElem?_getD, List.getElem?_eq_getElem (show i < zs.length by omega)]
    · have h7 : (decide ((0 : Int) ≤ n) && decide (n ≤ 255)) = true := hw n (List.mem_of_mem_take hn)
      simp only [Bool.and_eq_true, decide_eq_true_eq] at h7
      omega
end Go.Proofs.YtfbjdeeomjfhkaaGreatDoor
