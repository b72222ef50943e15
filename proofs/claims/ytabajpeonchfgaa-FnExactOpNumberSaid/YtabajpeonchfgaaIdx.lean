/-
  The index of a text in a list of texts: IndexOf of the reference and slices.Index; OpNumber.
-/
import Derived.Test.YtabajpeonchfgaaBase
import Derived.Lib.SlicesS
namespace Go.Proofs.Ytabajpeonchfgaa
open Go.RowKit

/-- The first place of s in the list, from place k on; -1 if there is none. -/
def idxFrom (s : ByteArray) : List ByteArray → Nat → Int
  | [], _ => -1
  | x :: r, k => if x = s then k else idxFrom s r (k + 1)
def idxF (ss : List ByteArray) (s : ByteArray) : Int := idxFrom s ss 0
theorem idxFrom_eq (s : ByteArray) : ∀ (ss : List ByteArray) (k j : Nat) (hj : j < ss.length), (∀ i (hi : i < j), ss[i] ≠ s) → ss[j] = s → idxFrom s ss k = ((k + j : Nat) : Int)
  | x :: r, k, 0, _, _, h => by simp at h; simp [idxFrom, h]
  | x :: r, k, j + 1, hj, h0, h => by
    have h1 := h0 0 (by omega)
    simp at h1 h
    rw [idxFrom, if_neg h1, idxFrom_eq s r (k + 1) j (by simpa using hj) (fun i hi => by have := h0 (i + 1) (by omega); simpa using this) h]
    congr 1; omega
theorem idxFrom_none (s : ByteArray) : ∀ (ss : List ByteArray) (k : Nat), (∀ i (hi : i < ss.length), ss[i] ≠ s) → idxFrom s ss k = -1
  | [], _, _ => rfl
  | x :: r, k, h => by
    have h1 := h 0 (by simp)
    simp at h1
    rw [idxFrom, if_neg h1]
    exact idxFrom_none s r (k + 1) (fun i hi => by have := h (i + 1) (by simpa using hi); simpa using this)
theorem idxF_at (ss : List ByteArray) (s : ByteArray) (j : Nat) (hj : j < ss.length) (h0 : ∀ i (hi : i < j), ss[i] ≠ s) (h : ss[j] = s) : idxF ss s = (j : Int) := by
  unfold idxF; rw [idxFrom_eq s ss 0 j hj h0 h]; congr 1; omega
theorem idxF_none (ss : List ByteArray) (s : ByteArray) (h : ∀ i (hi : i < ss.length), ss[i] ≠ s) : idxF ss s = -1 := idxFrom_none s ss 0 h

set_option maxHeartbeats 400000 in
theorem spec_IndexOf (ss : List ByteArray) (s : ByteArray) (v : Value) (S : Nat) (w : World) (hv : RepV w S (strsD ss) v) :
    Calls Try.prog 25 #[v, .string s] w fun e w' => e = .returned (.int .i64 (idxF ss s)) ∧ w = w' := by
  obtain ⟨a, cap, rfl, hl, hm, hc⟩ := hv.strs
  unfold maxLen at hm
  go_enter Try.func25, Try.ntmps25
  go_wp2
  go_loop [5] (fun i => ∃ k : Nat, k ≤ ss.length ∧ i = .int .i64 k ∧ Hid (∀ i (_ : i < k) (h : i < ss.length), ss[i] ≠ s)) (fun i => ss.length - (intOf i).toNat)
  case atStart => exact ⟨0, Nat.zero_le _, rfl, fun i hi => absurd hi (by omega)⟩
  case round =>
    obtain ⟨k, hk, rfl, HN⟩ := hrel
    by_cases hlt : k < ss.length
    · obtain ⟨b, off, rfl, hb, hcell⟩ := hc k hlt
      clear hc
      by_cases he : ss[k] = s
      · have HE := Lib.hid (idxF_at ss s k hlt (fun i hi => HN.out i hi (by omega)) he)
        have hb1 : (ss[k].toList == s.toList) = true := (Lib.bytes_beq_iff _ _).2 he
        have hb2 : (s.toList == ss[k].toList) = true := (Lib.bytes_beq_iff _ _).2 he.symm
        clear he
        go_wp2
        go_ret
        rw [HE.out]
        exact ⟨rfl, rfl⟩
      · have hb1 : (ss[k].toList == s.toList) = false := (Lib.bytes_beq_false_iff _ _).2 he
        have hb2 : (s.toList == ss[k].toList) = false := (Lib.bytes_beq_false_iff _ _).2 (fun h => he h.symm)
        have HN2 : Hid (∀ i (_ : i < k + 1) (h : i < ss.length), ss[i] ≠ s) := Lib.hid fun i hi h => by
          by_cases hik : i = k
          · subst hik; exact he
          · exact HN.out i (by omega) h
        clear he HN
        go_wp2
        go_round
        case rel => exact ⟨k + 1, by omega, by go_num, HN2⟩
        case measure => simp [intOf]; omega
    · have HE := Lib.hid (idxF_none ss s (fun i hi => HN.out i (by omega) hi))
      clear HN hc
      go_wp2
      go_ret
      rw [HE.out]
      exact ⟨rfl, rfl⟩

set_option maxHeartbeats 400000 in
theorem slices_Index_string (ss : List ByteArray) (s : ByteArray) (v : Value) (S : Nat) (w : World) (hv : RepV w S (strsD ss) v) :
    Calls Try.prog 26 #[v, .string s] w fun e w' => e = .returned (.int .i64 (idxF ss s)) ∧ w = w' := by
  obtain ⟨a, cap, rfl, hl, hm, hc⟩ := hv.strs
  unfold maxLen at hm
  go_enter Try.func26, Try.ntmps26
  go_wp2
  go_loop [8] (fun i => ∃ k : Nat, k ≤ ss.length ∧ i = .int .i64 k ∧ Hid (∀ i (_ : i < k) (h : i < ss.length), ss[i] ≠ s)) (fun i => ss.length - (intOf i).toNat)
  case atStart => exact ⟨0, Nat.zero_le _, rfl, fun i hi => absurd hi (by omega)⟩
  case round =>
    obtain ⟨k, hk, rfl, HN⟩ := hrel
    by_cases hlt : k < ss.length
    · obtain ⟨b, off, rfl, hb, hcell⟩ := hc k hlt
      clear hc
      by_cases he : ss[k] = s
      · have HE := Lib.hid (idxF_at ss s k hlt (fun i hi => HN.out i hi (by omega)) he)
        have hb1 : (ss[k].toList == s.toList) = true := (Lib.bytes_beq_iff _ _).2 he
        have hb2 : (s.toList == ss[k].toList) = true := (Lib.bytes_beq_iff _ _).2 he.symm
        clear he
        go_wp2
        go_ret
        rw [HE.out]
        exact ⟨rfl, rfl⟩
      · have hb1 : (ss[k].toList == s.toList) = false := (Lib.bytes_beq_false_iff _ _).2 he
        have hb2 : (s.toList == ss[k].toList) = false := (Lib.bytes_beq_false_iff _ _).2 (fun h => he h.symm)
        have HN2 : Hid (∀ i (_ : i < k + 1) (h : i < ss.length), ss[i] ≠ s) := Lib.hid fun i hi h => by
          by_cases hik : i = k
          · subst hik; exact he
          · exact HN.out i (by omega) h
        clear he HN
        go_wp2
        go_round
        case rel => exact ⟨k + 1, by omega, by go_num, HN2⟩
        case measure => simp [intOf]; omega
    · have HE := Lib.hid (idxF_none ss s (fun i hi => HN.out i (by omega) hi))
      clear HN hc
      go_wp2
      go_ret
      rw [HE.out]
      exact ⟨rfl, rfl⟩
end Go.Proofs.Ytabajpeonchfgaa
