/-
  Lists of texts: the laws' copies and comparison.
-/
import Derived.Test.YtfeldmpddkmidaaInts
import Derived.Lib.SlicesS
namespace Go.Proofs.Ytfeldmpddkmidaa
open Go.RowKit
theorem string_info : (Try.prog.info? 9).map (fun i => (i.zero, i.size, i.bytes)) = some (some (.string ⟨#[]⟩), 1, 16) := by kernel_rfl
theorem ownVs_strs (w : World) : ∀ ns : List ByteArray, OwnVs w (ns.map .str) (ns.map Value.string) []
  | [] => by unfold OwnVs; exact ⟨rfl, rfl⟩
  | n :: ns => by
    simp only [List.map_cons]
    unfold OwnVs
    exact ⟨_, _, [], [], rfl, rfl, by unfold OwnV; exact ⟨rfl, rfl⟩, ownVs_strs w ns⟩

/-- Two lists are one: what the law's test of two slices says. -/
def eqSt (a b : List ByteArray) : Bool := decide (a = b)
set_option maxHeartbeats 400000 in
theorem laws_eqStringS (ns ms : List ByteArray) (v u : Value) (S S' : Nat) (w : World) (hv : RepV w S (strsD ns) v) (hu : RepV w S' (strsD ms) u) :
    Calls Try.prog 58 #[v, u] w fun e w' => e = .returned (.bool (eqSt ns ms)) ∧ Below w.heap.size w w' := by
  obtain ⟨a, cap, rfl, hl, hm, hc⟩ := hv.strs
  obtain ⟨a', cap', rfl, hl', hm', hc'⟩ := hu.strs
  unfold maxLen at hm hm'
  by_cases hlen : ns.length = ms.length
  · have hne : ((ns.length : Int) != (ms.length : Int)) = false := by simp; omega
    have HL := Lib.hid hlen
    clear hlen
    go_enter Try.func58, Try.ntmps58
    go_wp2
    go_loopw [5] (fun i wr => ∃ k : Nat, k ≤ ns.length ∧ i = .int .i64 k ∧ Hid (ns.take k = ms.take k) ∧ Below w.heap.size w wr) (fun i _ => ns.length - (intOf i).toNat)
    case atStart => exact ⟨0, Nat.zero_le _, rfl, rfl, Below.refl _ _⟩
    case round =>
      obtain ⟨k, hk, rfl, HT, hb⟩ := hrel
      by_cases hlt : k < ns.length
      · have hlt' : k < ms.length := by have := HL.out; omega
        obtain ⟨b, off, rfl, hbS, hcell⟩ := hc k hlt
        obtain ⟨b', off', rfl, hbS', hcell'⟩ := hc' k hlt'
        clear hc hc'
        have hcr : wr.cell? ⟨b, off + k, none⟩ = some (.string ns[k]) := (hb.cell (p := ⟨b, off + k, none⟩) (World.block_lt_of_cell? w _ hcell)).trans hcell
        have hcr' : wr.cell? ⟨b', off' + k, none⟩ = some (.string ms[k]) := (hb.cell (p := ⟨b', off' + k, none⟩) (World.block_lt_of_cell? w _ hcell')).trans hcell'
        clear hcell hcell'
        have hi1 : (k : Int) < (ns.length : Int) := by omega
        have hi2 : (k : Int) < (ms.length : Int) := by omega
        by_cases he : ns[k] = ms[k]
        · have hx : (ns[k].toList == ms[k].toList) = true := by rw [he]; simp
          have HT2 : Hid (ns.take (k + 1) = ms.take (k + 1)) := Lib.hid (by rw [List.take_succ_eq_append_getElem hlt, List.take_succ_eq_append_getElem hlt', HT.out, he])
          clear he HT
          go_wp2_with fail
          go_quiet (fail)
          go_wp2
          go_roundw
          case rel => exact ⟨k + 1, by omega, by go_num, HT2, Below.drewN' hb _⟩
          case measure => simp [intOf]; omega
        · have hx : (ns[k].toList == ms[k].toList) = false := (Lib.bytes_beq_false_iff _ _).2 he
          have HE := Lib.hid (show eqSt ns ms = false by unfold eqSt; simp only [decide_eq_false_iff_not]; intro h; subst h; exact he rfl)
          clear he
          go_wp2_with fail
          go_quiet (fail)
          go_wp2
          go_ret
          exact ⟨by rw [HE.out]; rfl, Below.drewN' hb _⟩
      · have HE := Lib.hid (show eqSt ns ms = true by unfold eqSt; simp only [decide_eq_true_eq]; have h1 := HT.out; rw [List.take_of_length_le (by omega), List.take_of_length_le (by have := HL.out; omega)] at h1; exact h1)
        clear hc hc' HT
        go_wp2
        go_ret
        exact ⟨by rw [HE.out]; rfl, hb⟩
  · have hne : ((ns.length : Int) != (ms.length : Int)) = true := by simp; omega
    have HE := Lib.hid (show eqSt ns ms = false by unfold eqSt; simp only [decide_eq_false_iff_not]; intro h; subst h; exact hlen rfl)
    clear hlen hc hc'
    go_enter Try.func58, Try.ntmps58
    go_wp2
    go_ret
    exact ⟨by rw [HE.out]; rfl, Below.refl _ _⟩
end Go.Proofs.Ytfeldmpddkmidaa
