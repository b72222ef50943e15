/-
  The reader of types reads what the writer writes: plain laws.
-/
import Derived.Test.YtepjbiffebbelaaPtq
namespace Go.Proofs.Ytepjbiffebbelaa
open Go.RowKit
set_option linter.unusedVariables false
set_option linter.unusedSimpArgs false
set_option maxRecDepth 20000
theorem ct_hit (c : UInt8) (r : List UInt8) : ct c (c :: r) = (true, r) := by rw [ct_cons, if_pos rfl]
theorem ct_off {c x : UInt8} (r : List UInt8) (h : ¬ x = c) : (ct c (x :: r)).1 = false := by rw [ct_cons, if_neg h]
theorem rd_full : ∀ (d : Nat) (t : Ty) (r : List UInt8), depT t ≤ d → formT t = true → rdI d (txT t ++ r) = ⟨t, true, r⟩ := by
  intro d
  induction d with
  | zero => intro t r h; cases t; rw [depT] at h; omega
  | succ d ih =>
    intro t r hd hf
    obtain ⟨k, xs⟩ := t
    rw [formT, Bool.and_eq_true] at hf
    obtain ⟨hs, hc⟩ := hf
    rw [depT] at hd
    unfold shB at hc
    by_cases k1 : k = 1
    · subst k1
      rw [if_pos (Or.inl rfl), decide_eq_true_eq] at hc
      obtain rfl : xs = [] := List.eq_nil_of_length_eq_zero (by omega)
      rw [txT, if_pos rfl, rdI, List.cons_append, ct_hit, if_pos rfl]
      rfl
    by_cases k2 : k = 2
    · subst k2
      rw [if_pos (Or.inr rfl), decide_eq_true_eq] at hc
      obtain rfl : xs = [] := List.eq_nil_of_length_eq_zero (by omega)
      rw [txT, if_neg (by decide), if_pos rfl, rdI, List.cons_append, ct_off _ (by decide), if_neg (by simp), ct_hit, if_pos rfl]
      rfl
    rw [if_neg (by omega)] at hc
    by_cases k3 : k = 3
    · subst k3
      rw [if_pos rfl, decide_eq_true_eq] at hc
      match xs, hc with
      | [a, b], _ =>
        rw [formTs, formTs, formTs, Bool.and_true, Bool.and_eq_true] at hs
        rw [depTs, depTs, depTs] at hd
        have e : txT (.mk 3 [a, b]) ++ r = 40 :: (txT a ++ 62 :: (txT b ++ 41 :: r)) := by simp [txT, txTs]
        rw [e, rdI, ct_off _ (by decide), if_neg (by simp), ct_off _ (by decide), if_neg (by simp), ct_hit, if_pos rfl, ih a _ (by omega) hs.1]
        simp only [if_true, ct_hit, ih b _ (by omega) hs.2, Bool.and_true]
        rfl
      | [], h => simp at h
      | [_], h => simp at h
      | _ :: _ :: _ :: _, h => simp at h; omega
    · rw [if_neg k3] at hc
      by_cases k4 : k = 4
      · subst k4
        rw [if_pos rfl, decide_eq_true_eq] at hc
        match xs, hc with
        | [a], _ =>
          rw [formTs, formTs, Bool.and_true] at hs
          rw [depTs, depTs] at hd
          have e : txT (.mk 4 [a]) ++ r = 60 :: (txT a ++ 62 :: r) := by simp [txT, txTs]
          rw [e, rdI, ct_off _ (by decide), if_neg (by simp), ct_off _ (by decide), if_neg (by simp), ct_off _ (by decide), if_neg (by simp), ct_hit, if_pos rfl, ih a _ (by omega) hs]
          simp only [if_true, ct_hit, Bool.and_true]
          rfl
        | [], h => simp at h
        | _ :: _ :: _, h => simp at h; omega
      · rw [if_neg k4] at hc; cases hc
theorem pt_fmt (t : Ty) : ptB (fmT t) = vTy t ∧ (vTy t = true → ptT (fmT t) = t) := by
  by_cases hv : vTy t = true
  · have h := hv
    unfold vTy at h
    simp only [Bool.and_eq_true, decide_eq_true_eq] at h
    have e := rd_full 8 t [] (by omega) h.2.2
    rw [List.append_nil] at e
    have hf : fmT t = txT t := if_pos hv
    have hb : ptB (fmT t) = true := by
      unfold ptB; rw [hf, e]; simp [hf]
    refine ⟨hb.trans hv.symm, fun _ => ?_⟩
    unfold ptT
    rw [if_pos hb, hf, e]
  · have hf : fmT t = [] := if_neg hv
    have hb : ptB (fmT t) = false := by rw [hf]; rfl
    rw [Bool.not_eq_true] at hv
    exact ⟨hb.trans hv.symm, fun h => by rw [hv] at h; cases h⟩
theorem pt_sound {l : List UInt8} (h : ptB l = true) : fmT (ptT l) = l := by
  unfold ptT
  rw [if_pos h]
  unfold ptB at h
  simp only [Bool.and_eq_true, decide_eq_true_eq] at h
  exact h.2
mutual
theorem txT_ln3 : ∀ t : Ty, (txT t).length ≤ 3 * szT t
  | .mk k xs => by
    have h := txTs_ln3 xs
    rw [txT, szT]
    split
    · simp; omega
    split
    · simp; omega
    split
    · simp only [List.length_append, List.length_cons, List.length_nil]; omega
    · simp only [List.length_append, List.length_cons, List.length_nil]; omega
theorem txTs_ln3 : ∀ xs : List Ty, ((txTs xs).getD 0 []).length + ((txTs xs).getD 1 []).length ≤ 3 * szTs xs
  | [] => by simp [txTs]
  | x :: xs => by
    have h := txT_ln3 x
    have h2 := txTs_ln3 xs
    rw [txTs, szTs]
    simp only [List.getD_cons_zero, List.getD_cons_succ]
    omega
end
theorem fmT_len (t : Ty) : (fmT t).length ≤ 90 := by
  unfold fmT
  split
  · rename_i h
    unfold vTy at h
    simp only [Bool.and_eq_true, decide_eq_true_eq] at h
    have := txT_ln3 t
    omega
  · simp
end Go.Proofs.Ytepjbiffebbelaa
