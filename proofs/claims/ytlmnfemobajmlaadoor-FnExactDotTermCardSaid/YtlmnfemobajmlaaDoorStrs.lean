/-
  Slices of numbers: the law's copies and tests (toIntS, eqIntS).
-/
import Derived.Test.YtlmnfemobajmlaaDoorBase
import Derived.Test.YtlmnfemobajmlaaDoorRng
import Derived.Deep.QuietTactic
import Derived.BigQuiet
import Derived.Lib.SlicesS
namespace Go.Proofs.YtlmnfemobajmlaaDoor
open Go.RowKit

theorem int_info : (Tryd.prog.info? 3).map (fun i => (i.zero, i.size, i.bytes)) = some (some (.int .i64 0), 1, 8) := by kernel_rfl

theorem ownVs_ints (w : World) : ∀ ns : List Int, OwnVs w (ns.map .int) (ns.map (Value.int .i64)) []
  | [] => by unfold OwnVs; exact ⟨rfl, rfl⟩
  | n :: ns => by
    simp only [List.map_cons]
    unfold OwnVs
    exact ⟨_, _, [], [], rfl, rfl, by unfold OwnV; exact ⟨rfl, rfl⟩, ownVs_ints w ns⟩

/-- The first k of the list, the rest still the zero. -/
def fillV (vs : List Value) (z : Value) (k : Nat) : List Value := vs.take k ++ List.replicate (vs.length - k) z
theorem fillV_at (vs : List Value) (z : Value) (k : Nat) (h : k < vs.length) : (fillV vs z k).toArray[k]? = some z := by
  have e2 : List.replicate (vs.length - k) z = z :: List.replicate (vs.length - (k + 1)) z := by
    rw [show vs.length - k = (vs.length - (k + 1)) + 1 from by omega, List.replicate_succ]
  simp [fillV, e2, Nat.min_eq_left (Nat.le_of_lt h)]
theorem fillV_set (vs : List Value) (z : Value) (k : Nat) (h : k < vs.length) : (fillV vs z k).toArray.setIfInBounds k vs[k] = (fillV vs z (k + 1)).toArray := by
  have e2 : List.replicate (vs.length - k) z = z :: List.replicate (vs.length - (k + 1)) z := by
    rw [show vs.length - k = (vs.length - (k + 1)) + 1 from by omega, List.replicate_succ]
  have e3 : (vs.take k).length = k := by simp; omega
  rw [fillV, fillV, List.take_succ_eq_append_getElem h, e2, List.setIfInBounds_toArray, List.set_append, if_neg (by omega), e3, Nat.sub_self, List.set_cons_zero, List.append_assoc]
  rfl
theorem fillV_all (vs : List Value) (z : Value) (k : Nat) (h : k = vs.length) : fillV vs z k = vs := by subst h; simp [fillV]
theorem fillV_none (vs : List Value) (z : Value) : (fillV vs z 0).toArray = madeCells #[z] vs.length := by
  have := madeCells_flat #[z] (by simp) vs.length
  simp only [List.size_toArray, List.length_cons, List.length_nil, Nat.zero_add, Nat.mul_one] at this
  rw [this]
  simp [fillV]

set_option maxHeartbeats 400000 in
theorem laws_toIntS (ns : List Int) (v : Value) (S : Nat) (w : World) (hv : RepV w S (intsD ns) v) (hS : S ≤ w.heap.size) (hn : ns.length ≤ 1048576) :
    Calls Tryd.prog 7 #[v] w fun e w' => ∃ u, e = .returned u ∧ Fresh w' w.heap.size (intsD ns) u ∧ Below w.heap.size w w' := by
  obtain ⟨a, cap, rfl, hl, hm, hc⟩ := hv.ints
  obtain ⟨i0, hi, hz0, hz1, hz2⟩ := info_parts int_info
  have hmk := fun W => run_make_rowN (P := Tryd.prog) 22 3 i0 _ Tryd.underlying22 hi hz0 .i64 .i64 ns.length ns.length (Nat.le_refl _) (by rw [hz2]; omega) (by omega) W
  rw [hz1] at hmk
  clear hi hz0 hz1 hz2 hm hl
  go_enter Tryd.func7, Tryd.ntmps7
  go_wp2
  obtain ⟨vs, hvs⟩ : ∃ vs, vs = ns.map (Value.int .i64) := ⟨_, rfl⟩
  have hvl : vs.length = ns.length := by simp [hvs]
  have HVS := Lib.hid hvs
  clear hvs
  have HVL := Lib.hid hvl
  clear hvl
  go_loopw [4] (fun i wr => ∃ k : Nat, k ≤ ns.length ∧ i = .int .i64 k ∧ Blk wr w.heap.size 3 (fillV vs (.int .i64 0) k).toArray ∧ Below w.heap.size w wr) (fun i _ => ns.length - (intOf i).toNat)
  case atStart => exact ⟨0, Nat.zero_le _, rfl, by rw [fillV_none, HVL.out]; exact Blk.new _ _ _, (Below.refl _ _).alloc (Nat.le_refl _) _⟩
  case round =>
    obtain ⟨k, hk, rfl, hB, hb⟩ := hrel
    by_cases hlt : k < ns.length
    · obtain ⟨b, off, rfl, hbS, hcell⟩ := hc k hlt
      clear hc
      have hcr : wr.cell? ⟨b, off + k, none⟩ = some (.int .i64 ns[k]) := (hb.cell (p := ⟨b, off + k, none⟩) (by show b < _; omega)).trans hcell
      have hd := (hB.cell k).trans (fillV_at vs _ k (by rw [HVL.out]; exact hlt))
      have hfz := hB.frozen k
      have hset : Blk (wr.setCell ⟨w.heap.size, k, none⟩ (.int .i64 ns[k])) w.heap.size 3 (fillV vs (.int .i64 0) (k + 1)).toArray := by
        have h1 : k < vs.length := by rw [HVL.out]; exact hlt
        have h2 : vs[k] = .int .i64 ns[k] := by simp [HVS.out]
        rw [← fillV_set vs _ k h1, h2]
        exact hB.set_ k _
      clear hB
      go_wp2
      go_roundw
      case rel => exact ⟨k + 1, by omega, by go_num, hset, hb.setCell (Nat.le_refl _) _⟩
      case measure => simp [intOf]; omega
    · clear hc
      have hB2 : Blk wr w.heap.size 3 vs.toArray := by rw [fillV_all vs _ k (by rw [HVL.out]; omega)] at hB; exact hB
      clear hB
      go_wp2
      go_ret
      have ho := ownVs_ints wr ns
      rw [← HVS.out] at ho
      exact ⟨_, rfl, own_of_blk hB2 ho (by simp) (by simp) (by simp) (by simp) (by unfold maxLen; omega) (Nat.le_refl _), hb⟩

/-- Two lists are one: what the law's test of two slices says. -/
def eqI (a b : List Int) : Bool := decide (a = b)
set_option maxHeartbeats 400000 in
theorem laws_eqIntS (ns ms : List Int) (v u : Value) (S S' : Nat) (w : World) (hv : RepV w S (intsD ns) v) (hu : RepV w S' (intsD ms) u) :
    Calls Tryd.prog 10 #[v, u] w fun e w' => e = .returned (.bool (eqI ns ms)) ∧ Below w.heap.size w w' := by
  obtain ⟨a, cap, rfl, hl, hm, hc⟩ := hv.ints
  obtain ⟨a', cap', rfl, hl', hm', hc'⟩ := hu.ints
  unfold maxLen at hm hm'
  by_cases hlen : ns.length = ms.length
  · have hne : ((ns.length : Int) != (ms.length : Int)) = false := by simp; omega
    have HL := Lib.hid hlen
    clear hlen
    go_enter Tryd.func10, Tryd.ntmps10
    go_wp2
    go_loopw [5] (fun i wr => ∃ k : Nat, k ≤ ns.length ∧ i = .int .i64 k ∧ Hid (ns.take k = ms.take k) ∧ Below w.heap.size w wr) (fun i _ => ns.length - (intOf i).toNat)
    case atStart => exact ⟨0, Nat.zero_le _, rfl, rfl, Below.refl _ _⟩
    case round =>
      obtain ⟨k, hk, rfl, HT, hb⟩ := hrel
      by_cases hlt : k < ns.length
      · have hlt' : k < ms.length := by have := HL.out; omega
        obtain ⟨b, off, rfl, hbS, hcell⟩ := hc k hlt
        obtain ⟨b', off', rfl, hbS', hcell'⟩ := hc' k hlt'
        clear hc hc'
        have hcr : wr.cell? ⟨b, off + k, none⟩ = some (.int .i64 ns[k]) := (hb.cell (p := ⟨b, off + k, none⟩) (World.block_lt_of_cell? w _ hcell)).trans hcell
        have hcr' : wr.cell? ⟨b', off' + k, none⟩ = some (.int .i64 ms[k]) := (hb.cell (p := ⟨b', off' + k, none⟩) (World.block_lt_of_cell? w _ hcell')).trans hcell'
        clear hcell hcell'
        have hi1 : (k : Int) < (ns.length : Int) := by omega
        have hi2 : (k : Int) < (ms.length : Int) := by omega
        by_cases he : ns[k] = ms[k]
        · have hx : (ns[k] != ms[k]) = false := by simp [he]
          have HT2 : Hid (ns.take (k + 1) = ms.take (k + 1)) := Lib.hid (by rw [List.take_succ_eq_append_getElem hlt, List.take_succ_eq_append_getElem hlt', HT.out, he])
          clear he HT
          go_wp2_with fail
          go_quiet (fail)
          go_wp2
          go_roundw
          case rel => exact ⟨k + 1, by omega, by go_num, HT2, Below.drewN' hb _⟩
          case measure => simp [intOf]; omega
        · have hx : (ns[k] != ms[k]) = true := by simp [he]
          have HE := Lib.hid (show eqI ns ms = false by unfold eqI; simp only [decide_eq_false_iff_not]; intro h; subst h; exact he rfl)
          clear he
          go_wp2_with fail
          go_quiet (fail)
          go_wp2
          go_ret
          exact ⟨by rw [HE.out]; rfl, Below.drewN' hb _⟩
      · have HE := Lib.hid (show eqI ns ms = true by unfold eqI; simp only [decide_eq_true_eq]; have h1 := HT.out; rw [List.take_of_length_le (by omega), List.take_of_length_le (by have := HL.out; omega)] at h1; exact h1)
        clear hc hc' HT
        go_wp2
        go_ret
        exact ⟨by rw [HE.out]; rfl, hb⟩
  · have hne : ((ns.length : Int) != (ms.length : Int)) = true := by simp; omega
    have HE := Lib.hid (show eqI ns ms = false by unfold eqI; simp only [decide_eq_false_iff_not]; intro h; subst h; exact hlen rfl)
    clear hlen hc hc'
    go_enter Tryd.func10, Tryd.ntmps10
    go_wp2
    go_ret
    exact ⟨by rw [HE.out]; rfl, Below.refl _ _⟩
end Go.Proofs.YtlmnfemobajmlaaDoor
/-
  Lists of texts: the laws' copies and comparison.
-/
namespace Go.Proofs.YtlmnfemobajmlaaDoor
open Go.RowKit
theorem string_info : (Tryd.prog.info? 9).map (fun i => (i.zero, i.size, i.bytes)) = some (some (.string ⟨#[]⟩), 1, 16) := by kernel_rfl
theorem ownVs_strs (w : World) : ∀ ns : List ByteArray, OwnVs w (ns.map .str) (ns.map Value.string) []
  | [] => by unfold OwnVs; exact ⟨rfl, rfl⟩
  | n :: ns => by
    simp only [List.map_cons]
    unfold OwnVs
    exact ⟨_, _, [], [], rfl, rfl, by unfold OwnV; exact ⟨rfl, rfl⟩, ownVs_strs w ns⟩

/-- Two lists are one: what the law's test of two slices says. -/
def eqSt (a b : List ByteArray) : Bool := decide (a = b)
end Go.Proofs.YtlmnfemobajmlaaDoor
