/-
  The text of a type, and how it is read: plain laws. No function of the program is walked here.
-/
import Derived.Test.YtepjbiffebbelaaAll
import Derived.Test.YtepjbiffebbelaaMk
namespace Go.Proofs.Ytepjbiffebbelaa
open Go.RowKit
set_option linter.unusedVariables false
set_option linter.unusedSimpArgs false
set_option maxRecDepth 20000
def bs (l : List UInt8) : ByteArray := ⟨l.toArray⟩
theorem bs_inj {a b : List UInt8} (h : bs a = bs b) : a = b := by injection h with h; simpa using congrArg Array.toList h
def tyI : Ty := .mk 1 []
def tyB : Ty := .mk 2 []
def tyF (a b : Ty) : Ty := .mk 3 [a, b]
def tyG (a : Ty) : Ty := .mk 4 [a]
/-! ## The text -/
mutual
def txT : Ty → List UInt8
  | .mk k xs => if k = 1 then [73] else if k = 2 then [66] else if k = 3 then [40] ++ ((txTs xs).getD 0 [] ++ [62] ++ (txTs xs).getD 1 [] ++ [41]) else [60] ++ ((txTs xs).getD 0 [] ++ [62])
def txTs : List Ty → List (List UInt8)
  | [] => []
  | x :: r => txT x :: txTs r
end
def fmT (t : Ty) : List UInt8 := if vTy t = true then txT t else []
/-! ## The program's reader -/
def ct (c : UInt8) : List UInt8 → Bool × List UInt8
  | [] => (false, [])
  | x :: r => if x = c then (true, r) else (false, x :: r)
theorem ct_cons (c x : UInt8) (r : List UInt8) : ct c (x :: r) = if x = c then (true, r) else (false, x :: r) := rfl
theorem ct_no {c : UInt8} {l : List UInt8} (h : (ct c l).1 = false) : (ct c l).2 = l := by
  cases l with
  | nil => rfl
  | cons x r => rw [ct_cons] at h ⊢; split <;> first | rfl | (rename_i e; rw [if_pos e] at h; cases h)
theorem ct_yes {c : UInt8} {l : List UInt8} (h : (ct c l).1 = true) : l = c :: (ct c l).2 := by
  cases l with
  | nil => cases h
  | cons x r => rw [ct_cons] at h ⊢; split <;> first | (rename_i e; rw [e]; done) | (rename_i e; rw [if_neg e] at h; cases h)
theorem ct_len (c : UInt8) (l : List UInt8) : (ct c l).2.length ≤ l.length := by
  cases l with
  | nil => simp [ct]
  | cons x r => rw [ct_cons]; split <;> simp
structure RI where
  t : Ty
  ok : Bool
  l : List UInt8
def rdI : Nat → List UInt8 → RI
  | 0, l => ⟨ty0, false, l⟩
  | d + 1, l =>
    if (ct 73 l).1 = true then ⟨tyI, true, (ct 73 l).2⟩
    else if (ct 66 l).1 = true then ⟨tyB, true, (ct 66 l).2⟩
    else if (ct 40 l).1 = true then
      if (rdI d (ct 40 l).2).ok = true then
        if (ct 62 (rdI d (ct 40 l).2).l).1 = true then
          ⟨tyF (rdI d (ct 40 l).2).t (rdI d (ct 62 (rdI d (ct 40 l).2).l).2).t,
            (rdI d (ct 62 (rdI d (ct 40 l).2).l).2).ok && (ct 41 (rdI d (ct 62 (rdI d (ct 40 l).2).l).2).l).1,
            if (rdI d (ct 62 (rdI d (ct 40 l).2).l).2).ok = true then (ct 41 (rdI d (ct 62 (rdI d (ct 40 l).2).l).2).l).2 else (rdI d (ct 62 (rdI d (ct 40 l).2).l).2).l⟩
        else ⟨ty0, false, (rdI d (ct 40 l).2).l⟩
      else ⟨ty0, false, (rdI d (ct 40 l).2).l⟩
    else if (ct 60 l).1 = true then
      ⟨tyG (rdI d (ct 60 l).2).t, (rdI d (ct 60 l).2).ok && (ct 62 (rdI d (ct 60 l).2).l).1, if (rdI d (ct 60 l).2).ok = true then (ct 62 (rdI d (ct 60 l).2).l).2 else (rdI d (ct 60 l).2).l⟩
    else ⟨ty0, false, l⟩
/-! ## The reference's reader: where it stands, and whether it failed -/
def tk (s : List UInt8) (c : UInt8) (at_ : Nat) : Bool := decide (s[at_]? = some c)
structure RS where
  t : Ty
  at_ : Nat
  bad : Bool
def rdS (s : List UInt8) : Nat → Nat → RS
  | 0, i => ⟨ty0, i, true⟩
  | d + 1, i =>
    if tk s 73 i = true then ⟨tyI, i + 1, false⟩
    else if tk s 66 i = true then ⟨tyB, i + 1, false⟩
    else if tk s 60 i = true then
      let a := rdS s d (i + 1)
      if a.bad = true then ⟨tyG a.t, a.at_, true⟩
      else if tk s 62 a.at_ = true then ⟨tyG a.t, a.at_ + 1, false⟩ else ⟨tyG a.t, a.at_, true⟩
    else if tk s 40 i = true then
      let a := rdS s d (i + 1)
      if a.bad = true then ⟨ty0, a.at_, true⟩
      else if tk s 62 a.at_ = true then
        let b := rdS s d (a.at_ + 1)
        if b.bad = true then ⟨tyF a.t b.t, b.at_, true⟩
        else if tk s 41 b.at_ = true then ⟨tyF a.t b.t, b.at_ + 1, false⟩ else ⟨tyF a.t b.t, b.at_, true⟩
      else ⟨ty0, a.at_, true⟩
    else ⟨ty0, i, true⟩
theorem tk_ct (s : List UInt8) (c : UInt8) (i : Nat) : tk s c i = (ct c (s.drop i)).1 := by
  unfold tk
  by_cases h : i < s.length
  · rw [List.drop_eq_getElem_cons h, List.getElem?_eq_getElem h]
    rw [ct_cons]
    by_cases e : s[i] = c
    · rw [if_pos e, e]; simp
    · rw [if_neg e]; simpa using e
  · rw [List.drop_eq_nil_of_le (by omega), List.getElem?_eq_none (by omega)]; rfl
theorem tk_lt {s : List UInt8} {c : UInt8} {i : Nat} (h : tk s c i = true) : i < s.length ∧ (ct c (s.drop i)).2 = s.drop (i + 1) := by
  have h' := h
  unfold tk at h
  have h1 : s[i]? = some c := of_decide_eq_true h
  obtain ⟨hlt, he⟩ := List.getElem?_eq_some_iff.1 h1
  refine ⟨hlt, ?_⟩
  rw [List.drop_eq_getElem_cons hlt]
  rw [ct_cons, if_pos he]
theorem rd_same (s : List UInt8) : ∀ d i, i ≤ s.length → (rdS s d i).at_ ≤ s.length ∧ (rdI d (s.drop i)).ok = !(rdS s d i).bad ∧ ((rdS s d i).bad = false → (rdS s d i).t = (rdI d (s.drop i)).t ∧ (rdI d (s.drop i)).l = s.drop (rdS s d i).at_)
  | 0, i, hi => ⟨hi, rfl, fun h => by cases h⟩
  | d + 1, i, hi => by
    unfold rdI rdS
    rw [← tk_ct, ← tk_ct, ← tk_ct, ← tk_ct]
    by_cases h1 : tk s 73 i = true
    · rw [if_pos h1, if_pos h1]
      exact ⟨(tk_lt h1).1, rfl, fun _ => ⟨rfl, (tk_lt h1).2⟩⟩
    rw [if_neg h1, if_neg h1]
    by_cases h2 : tk s 66 i = true
    · rw [if_pos h2, if_pos h2]
      exact ⟨(tk_lt h2).1, rfl, fun _ => ⟨rfl, (tk_lt h2).2⟩⟩
    rw [if_neg h2, if_neg h2]
    by_cases h3 : tk s 60 i = true
    · have h4 : ¬ tk s 40 i = true := fun h4 => by
        unfold tk at h3 h4
        have e3 : s[i]? = some 60 := of_decide_eq_true h3
        have e4 : s[i]? = some 40 := of_decide_eq_true h4
        rw [e3] at e4; exact absurd e4 (by decide)
      rw [if_pos h3, if_neg h4, if_pos h3, (tk_lt h3).2]
      obtain ⟨a1, a2, a3⟩ := rd_same s d (i + 1) (tk_lt h3).1
      cases hb : (rdS s d (i + 1)).bad
      · obtain ⟨a4, a5⟩ := a3 hb
        simp only [hb, Bool.not_false] at a2
        simp only [hb, a2, Bool.true_and, if_true, Bool.false_eq_true, if_false, a5, ← tk_ct]
        by_cases h5 : tk s 62 (rdS s d (i + 1)).at_ = true
        · rw [if_pos h5]
          exact ⟨(tk_lt h5).1, h5, fun _ => ⟨by rw [a4], (tk_lt h5).2⟩⟩
        · rw [if_neg h5]
          exact ⟨a1, by simpa using h5, fun h => by cases h⟩
      · simp only [hb, Bool.not_true] at a2
        simp only [hb, a2, Bool.false_and, if_true, Bool.false_eq_true, if_false]
        exact ⟨a1, rfl, fun h => by cases h⟩
    rw [if_neg h3]
    by_cases h4 : tk s 40 i = true
    · rw [if_pos h4, if_pos h4, (tk_lt h4).2]
      obtain ⟨a1, a2, a3⟩ := rd_same s d (i + 1) (tk_lt h4).1
      cases hb : (rdS s d (i + 1)).bad
      · obtain ⟨a4, a5⟩ := a3 hb
        simp only [hb, Bool.not_false] at a2
        simp only [hb, a2, if_true, Bool.false_eq_true, if_false, a5, ← tk_ct]
        by_cases h5 : tk s 62 (rdS s d (i + 1)).at_ = true
        · rw [if_pos h5, if_pos h5, (tk_lt h5).2]
          obtain ⟨b1, b2, b3⟩ := rd_same s d _ (tk_lt h5).1
          cases hc : (rdS s d ((rdS s d (i + 1)).at_ + 1)).bad
          · obtain ⟨b4, b5⟩ := b3 hc
            simp only [hc, Bool.not_false] at b2
            simp only [hc, b2, Bool.true_and, if_true, Bool.false_eq_true, if_false, b5, ← tk_ct]
            by_cases h6 : tk s 41 (rdS s d ((rdS s d (i + 1)).at_ + 1)).at_ = true
            · rw [if_pos h6]
              exact ⟨(tk_lt h6).1, h6, fun _ => ⟨by rw [a4, b4], (tk_lt h6).2⟩⟩
            · rw [if_neg h6]
              exact ⟨b1, by simpa using h6, fun h => by cases h⟩
          · simp only [hc, Bool.not_true] at b2
            simp only [hc, b2, Bool.false_and, if_true, Bool.false_eq_true, if_false]
            exact ⟨b1, rfl, fun h => by cases h⟩
        · rw [if_neg h5, if_neg h5]
          exact ⟨a1, rfl, fun h => by cases h⟩
      · simp only [hb, Bool.not_true] at a2
        simp only [hb, a2, if_true, Bool.false_eq_true, if_false]
        exact ⟨a1, rfl, fun h => by cases h⟩
    · rw [if_neg h4, if_neg h4, if_neg h3]
      exact ⟨hi, rfl, fun h => by cases h⟩
/-- What is read is the text of the type. -/
theorem rd_text : ∀ d l, (rdI d l).ok = true → l = txT (rdI d l).t ++ (rdI d l).l
  | 0, l, h => by cases h
  | d + 1, l, h => by
    unfold rdI at h ⊢
    by_cases h1 : (ct 73 l).1 = true
    · rw [if_pos h1] at h ⊢
      exact ct_yes h1
    rw [if_neg h1] at h ⊢
    by_cases h2 : (ct 66 l).1 = true
    · rw [if_pos h2] at h ⊢
      exact ct_yes h2
    rw [if_neg h2] at h ⊢
    by_cases h3 : (ct 40 l).1 = true
    · rw [if_pos h3] at h ⊢
      by_cases ha : (rdI d (ct 40 l).2).ok = true
      · rw [if_pos ha] at h ⊢
        by_cases h5 : (ct 62 (rdI d (ct 40 l).2).l).1 = true
        · rw [if_pos h5] at h ⊢
          simp only [Bool.and_eq_true] at h
          simp only [if_pos h.1]
          have e1 := rd_text d _ ha
          have e2 := rd_text d _ h.1
          have e3 := ct_yes h3
          have e4 := ct_yes h5
          have e5 := ct_yes h.2
          show l = txT (tyF _ _) ++ _
          have et : ∀ a b, txT (tyF a b) = [40] ++ (txT a ++ [62] ++ txT b ++ [41]) := fun a b => by simp [tyF, txT, txTs]
          rw [et]
          conv => lhs; rw [e3, e1, e4, e2, e5]
          simp only [List.append_assoc, List.cons_append, List.nil_append]
        · rw [if_neg h5] at h; cases h
      · rw [if_neg ha] at h; cases h
    rw [if_neg h3] at h ⊢
    by_cases h4 : (ct 60 l).1 = true
    · rw [if_pos h4] at h ⊢
      simp only [Bool.and_eq_true] at h
      simp only [if_pos h.1]
      have e1 := rd_text d _ h.1
      have e3 := ct_yes h4
      have e4 := ct_yes h.2
      have et : ∀ a, txT (tyG a) = [60] ++ (txT a ++ [62]) := fun a => by simp [tyG, txT, txTs]
      show l = txT (tyG _) ++ _
      rw [et]
      conv => lhs; rw [e3, e1, e4]
      simp only [List.append_assoc, List.cons_append, List.nil_append]
    · rw [if_neg h4] at h; cases h
/-- What ParseType answers. -/
def ptB (l : List UInt8) : Bool := (rdI 8 l).ok && decide (fmT (rdI 8 l).t = l)
def ptT (l : List UInt8) : Ty := if ptB l = true then (rdI 8 l).t else ty0
theorem ptS (l : List UInt8) : (!(rdS l 8 0).bad && (decide ((rdS l 8 0).at_ = l.length) && decide (fmT (rdS l 8 0).t = l))) = ptB l ∧ ((rdS l 8 0).bad = false → (rdS l 8 0).t = (rdI 8 l).t) := by
  obtain ⟨h1, h2, h3⟩ := rd_same l 8 0 (Nat.zero_le _)
  rw [List.drop_zero] at h2 h3
  refine ⟨?_, fun hb => (h3 hb).1⟩
  unfold ptB
  rw [h2]
  cases hb : (rdS l 8 0).bad
  · obtain ⟨h4, h5⟩ := h3 hb
    rw [h4]
    simp only [Bool.not_false, Bool.true_and]
    by_cases hf : fmT (rdI 8 l).t = l
    · have hok : (rdI 8 l).ok = true := by rw [h2, hb]; rfl
      have ht := rd_text 8 l hok
      have hv : (rdI 8 l).l = [] := by
        unfold fmT at hf
        split at hf
        · rw [hf] at ht
          simpa using ht
        · subst hf
          exact (List.append_eq_nil_iff.1 ht.symm).2
      rw [h5] at hv
      have : (rdS l 8 0).at_ = l.length := by
        have := List.drop_eq_nil_iff.1 hv
        omega
      rw [decide_eq_true this, Bool.true_and]
    · rw [decide_eq_false hf, Bool.and_false]
  · rfl
end Go.Proofs.Ytepjbiffebbelaa
