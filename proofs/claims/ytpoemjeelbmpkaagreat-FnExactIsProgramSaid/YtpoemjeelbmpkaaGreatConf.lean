/-
  The kinds of the program's data, sizes, marks and equality of what memory reads as: plain words, no walk.
-/
import Derived.Test.YtpoemjeelbmpkaaGreatBase
namespace Go.Proofs.YtpoemjeelbmpkaaGreat
open Go.RowKit

theorem D.ind {p : D → Prop} (ha : ∀ d, d = .any ∨ (∃ n, d = .byt n) → p d) (hi : ∀ n, p (.int n)) (hb : ∀ b, p (.bool b)) (hs : ∀ s, p (.str s)) (hr : ∀ sz n cs, (∀ d ∈ cs, p d) → p (.rows sz n cs)) : ∀ d, p d
  | .int n => hi n
  | .bool b => hb b
  | .str s => hs s
  | .any => ha _ (.inl rfl)
  | .byt n => ha _ (.inr ⟨n, rfl⟩)
  | .rows sz n cs => hr sz n cs (go cs)
where go : ∀ cs : List D, ∀ d ∈ cs, p d
  | [], _, h => by simp at h
  | c :: cs, d, h => by
    rcases List.mem_cons.1 h with e | h
    · rw [e]; exact D.ind ha hi hb hs hr c
    · exact go cs d h

/-- The kinds of a slice's elements. -/
inductive K where
  | ty | tm | typing | param | item | instr | entry | shape | strs | ints | bools
/-- The kinds of a cell. -/
inductive CK where
  | int | bool | str
  | sl (k : K)
def K.fields : K → List CK
  | .ty => [.int, .sl .ty]
  | .tm => [.int, .str, .str, .int, .int, .sl .ty, .int, .sl .ty, .sl .tm]
  | .typing => [.str, .int, .sl .ty, .int]
  | .param => [.str, .int, .sl .ty, .bool]
  | .item => [.str, .int]
  | .instr => [.int, .int]
  | .entry => [.int, .str, .str, .int, .int, .sl .ty, .int, .sl .ty, .sl .tm, .sl .instr]
  | .shape => [.bool, .int, .int, .int]
  | .strs => [.str]
  | .ints => [.int]
  | .bools => [.bool]

mutual
/-- d is of the cell kind. -/
def Conf : D → CK → Prop
  | .int _, c => c = .int
  | .bool _, c => c = .bool
  | .str _, c => c = .str
  | .any, _ => False
  | .byt _, _ => False
  | .rows sz n cs, c => ∃ k, c = .sl k ∧ sz = k.fields.length ∧ cs.length = n * sz ∧ n ≤ maxLen ∧ ConfL cs (List.replicate n k.fields).flatten
def ConfL : List D → List CK → Prop
  | [], ks => ks = []
  | d :: ds, ks => ∃ c r, ks = c :: r ∧ Conf d c ∧ ConfL ds r
end

mutual
/-- Every text fits a length. -/
def StrB : D → Prop
  | .int _ => True
  | .bool _ => True
  | .str s => s.size ≤ maxLen
  | .any => True
  | .byt _ => True
  | .rows _ _ cs => StrBL cs
def StrBL : List D → Prop
  | [] => True
  | d :: ds => StrB d ∧ StrBL ds
end
theorem StrBL.mem : ∀ (ds : List D) (d : D), d ∈ ds → StrBL ds → StrB d
  | x :: ds, d, hm, h => by
    unfold StrBL at h
    rcases List.mem_cons.1 hm with rfl | hm
    · exact h.1
    · exact StrBL.mem ds d hm h.2
theorem StrBL.append : ∀ (a b : List D), StrBL a → StrBL b → StrBL (a ++ b)
  | [], b, _, h => h
  | x :: a, b, h, h' => by
    unfold StrBL at h
    rw [List.cons_append]; unfold StrBL
    exact ⟨h.1, StrBL.append a b h.2 h'⟩
theorem ConfL.len : ∀ (ds : List D) (ks : List CK), ConfL ds ks → ds.length = ks.length
  | [], ks, h => by unfold ConfL at h; subst h; rfl
  | d :: ds, ks, h => by
    unfold ConfL at h
    obtain ⟨c, r, rfl, _, h2⟩ := h
    simp [ConfL.len ds r h2]
theorem ConfL.append : ∀ (a b : List D) (u v : List CK), ConfL a u → ConfL b v → ConfL (a ++ b) (u ++ v)
  | [], b, u, v, h, h' => by unfold ConfL at h; subst h; exact h'
  | d :: a, b, u, v, h, h' => by
    unfold ConfL at h
    obtain ⟨x, r, rfl, hd, h2⟩ := h
    rw [List.cons_append, List.cons_append]
    unfold ConfL
    exact ⟨x, r ++ v, rfl, hd, ConfL.append a b r v h2 h'⟩
theorem ConfL.split : ∀ (ds : List D) (k1 k2 : List CK), ConfL ds (k1 ++ k2) → ConfL (ds.take k1.length) k1 ∧ ConfL (ds.drop k1.length) k2
  | ds, [], k2, h => by simp at h ⊢; exact ⟨by unfold ConfL; rfl, h⟩
  | [], c :: k1, k2, h => by unfold ConfL at h; simp at h
  | d :: ds, c :: k1, k2, h => by
    rw [List.cons_append] at h
    unfold ConfL at h
    obtain ⟨c', r, e, hd, h2⟩ := h
    simp only [List.cons.injEq] at e
    obtain ⟨rfl, rfl⟩ := e
    obtain ⟨a, b⟩ := ConfL.split ds k1 k2 h2
    exact ⟨by rw [List.length_cons, List.take_succ_cons]; unfold ConfL; exact ⟨_, _, rfl, hd, a⟩, by simpa using b⟩
theorem ConfL.mem : ∀ (ds : List D) (ks : List CK), ConfL ds ks → ∀ i (hi : i < ds.length) (hk : i < ks.length), Conf ds[i] ks[i]
  | d :: ds, ks, h, i, hi, hk => by
    unfold ConfL at h
    obtain ⟨c, r, rfl, hd, h2⟩ := h
    match i, hi, hk with
    | 0, _, _ => exact hd
    | i + 1, hi, hk => exact ConfL.mem ds r h2 i (by simpa using hi) (by simpa using hk)

/-- The k-th row of sz cells. -/
def rowAt {α : Type} (sz : Nat) (cs : List α) (k : Nat) : List α := (cs.drop (k * sz)).take sz
theorem rowAt_mem {α : Type} (sz k : Nat) (cs : List α) (x : α) (h : x ∈ rowAt sz cs k) : x ∈ cs := List.mem_of_mem_drop (List.mem_of_mem_take h)
theorem take_rowAt {α : Type} (sz k : Nat) (cs : List α) : cs.take ((k + 1) * sz) = cs.take (k * sz) ++ rowAt sz cs k := by
  rw [Nat.succ_mul, rowAt, List.take_add]

theorem conf_row : ∀ (n : Nat) (F : List CK) (cs : List D) (k : Nat), ConfL cs (List.replicate n F).flatten → k < n → ConfL (rowAt F.length cs k) F
  | n + 1, F, cs, 0, h, _ => by
    rw [List.replicate_succ, List.flatten_cons] at h
    have := (ConfL.split cs F _ h).1
    simpa [rowAt] using this
  | n + 1, F, cs, k + 1, h, hk => by
    rw [List.replicate_succ, List.flatten_cons] at h
    have := conf_row n F (cs.drop F.length) k (ConfL.split cs F _ h).2 (by omega)
    simp only [rowAt, List.drop_drop] at this ⊢
    rw [show (k + 1) * F.length = F.length + k * F.length by rw [Nat.succ_mul, Nat.add_comm]]
    exact this

theorem RepVs.take {w : World} {S : Nat} : ∀ (n : Nat) (cs : List D) (vs : List Value), RepVs w S cs vs → RepVs w S (cs.take n) (vs.take n)
  | 0, cs, vs, _ => by simp; unfold RepVs; rfl
  | n + 1, [], vs, h => by unfold RepVs at h; subst h; simp; unfold RepVs; rfl
  | n + 1, d :: cs, vs, h => by
    unfold RepVs at h
    obtain ⟨v, r, rfl, h1, h2⟩ := h
    simp only [List.take_succ_cons]
    unfold RepVs
    exact ⟨_, _, rfl, h1, RepVs.take n cs r h2⟩
theorem RepVs.drop {w : World} {S : Nat} : ∀ (n : Nat) (cs : List D) (vs : List Value), RepVs w S cs vs → RepVs w S (cs.drop n) (vs.drop n)
  | 0, cs, vs, h => by simpa using h
  | n + 1, [], vs, h => by unfold RepVs at h; subst h; simp; unfold RepVs; rfl
  | n + 1, d :: cs, vs, h => by
    unfold RepVs at h
    obtain ⟨v, r, rfl, h1, h2⟩ := h
    simpa using RepVs.drop n cs r h2
theorem Cells.row {w : World} {b off : Nat} {vs : List Value} (h : Cells w b off vs) (sz k : Nat) : Cells w b (off + k * sz) (rowAt sz vs k) := by
  intro i hi
  simp only [rowAt, List.length_take, List.length_drop] at hi
  have := h (k * sz + i) (by omega)
  rw [show off + k * sz + i = off + (k * sz + i) by omega, this]
  simp [rowAt]

/-- The k-th element of a slice that reads as data: its address, its cells' values, and what they read as. -/
theorem RepV.row {w : World} {S sz n : Nat} {cs : List D} {a : Option Addr} {cap : Nat} (h : RepV w S (.rows sz n cs) (.slice a n cap)) (k : Nat) (hk : k < n) :
    ∃ b off rv, a = some ⟨b, off, none⟩ ∧ b < S ∧ Cells w b (off + k * sz) rv ∧ RepVs w S (rowAt sz cs k) rv := by
  obtain ⟨a', cap', e, _, _, hl, hr⟩ := h.slc
  injection e with e1 e2 e3
  subst e1
  obtain ⟨b, off, vs, ha, hb, _, hrv, hc⟩ := hr k hk
  exact ⟨b, off, rowAt sz vs k, ha, hb, hc.row sz k, (hrv.drop (k * sz)).take sz⟩

mutual
/-- How many elements and letters. -/
def szD : D → Nat
  | .int _ => 0
  | .bool _ => 0
  | .str s => s.size
  | .any => 0
  | .byt _ => 0
  | .rows _ n cs => n + szL cs
def szL : List D → Nat
  | [] => 0
  | d :: ds => szD d + szL ds
end
theorem szL_append : ∀ (a b : List D), szL (a ++ b) = szL a + szL b
  | [], b => by simp [szL]
  | d :: a, b => by simp [szL, szL_append a b]; omega
/-- What is left of a bound behind a size; -1 if it is passed. -/
def szR (left : Int) (s : Nat) : Int := if (s : Int) ≤ left then left - s else -1
theorem szR_in (left : Int) (s : Nat) (h : (s : Int) ≤ left) : szR left s = left - s := if_pos h
theorem szR_out (left : Int) (s : Nat) (h : left < s) : szR left s = -1 := if_neg (by omega)
theorem szL_take_le : ∀ (cs : List D) (n : Nat), szL (cs.take n) ≤ szL cs
  | [], n => by simp [szL]
  | d :: cs, 0 => by simp [szL]
  | d :: cs, n + 1 => by simp only [List.take_succ_cons, szL]; have := szL_take_le cs n; omega
end Go.Proofs.YtpoemjeelbmpkaaGreat
/-
  Which rows the kinds have.
-/
namespace Go.Proofs.YtpoemjeelbmpkaaGreat
open Go.RowKit
set_option linter.unusedVariables false

theorem conf_int {x : D} (h : Conf x .int) : ∃ n, x = .int n := by
  match x, h with
  | .int m, _ => exact ⟨m, rfl⟩
  | .any, h => unfold Conf at h; exact h.elim
  | .byt _, h => unfold Conf at h; exact h.elim
  | .bool _, h => unfold Conf at h; cases h
  | .str _, h => unfold Conf at h; cases h
  | .rows _ _ _, h => unfold Conf at h; obtain ⟨k, e, _⟩ := h; cases e
theorem conf_str {x : D} (h : Conf x .str) : ∃ s, x = .str s := by
  match x, h with
  | .str s, _ => exact ⟨s, rfl⟩
  | .any, h => unfold Conf at h; exact h.elim
  | .byt _, h => unfold Conf at h; exact h.elim
  | .bool _, h => unfold Conf at h; cases h
  | .int _, h => unfold Conf at h; cases h
  | .rows _ _ _, h => unfold Conf at h; obtain ⟨k, e, _⟩ := h; cases e

theorem conf_sl {x : D} {k : K} (h : Conf x (.sl k)) : ∃ n cs, x = .rows k.fields.length n cs ∧ cs.length = n * k.fields.length ∧ n ≤ maxLen ∧ ConfL cs (List.replicate n k.fields).flatten := by
  match x, h with
  | .rows sz n cs, h =>
    unfold Conf at h
    obtain ⟨k', e, rfl, h1, h2, h3⟩ := h
    injection e with e
    subst e
    exact ⟨n, cs, rfl, h1, h2, h3⟩
  | .any, h => unfold Conf at h; exact h.elim
  | .byt _, h => unfold Conf at h; exact h.elim
  | .bool _, h => unfold Conf at h; cases h
  | .str s, h => unfold Conf at h; cases h
  | .int _, h => unfold Conf at h; cases h

/-- Are two readings one? -/
noncomputable def eqD (a b : D) : Bool := @decide (a = b) (Classical.propDecidable _)
theorem eqD_t {a b : D} (h : a = b) : eqD a b = true := by unfold eqD; simp [h]
theorem eqD_f {a b : D} (h : a ≠ b) : eqD a b = false := by unfold eqD; simp [h]
noncomputable def eqL (a b : List D) : Bool := @decide (a = b) (Classical.propDecidable _)
theorem eqL_t {a b : List D} (h : a = b) : eqL a b = true := by unfold eqL; simp [h]
theorem eqL_f {a b : List D} (h : a ≠ b) : eqL a b = false := by unfold eqL; simp [h]
theorem conf_ty {ds : List D} (h : ConfL ds K.ty.fields) : ∃ i0 d1, ds = [.int i0, d1] ∧ Conf d1 (.sl .ty) := by
  have hl := ConfL.len _ _ h
  match ds, hl with
  | [x0, x1], _ =>
    have h0 : Conf x0 .int := ConfL.mem _ _ h 0 (by simp) (by simp [K.fields])
    obtain ⟨i0, rfl⟩ := conf_int h0
    have h1 : Conf x1 (.sl .ty) := ConfL.mem _ _ h 1 (by simp) (by simp [K.fields])
    exact ⟨i0, x1, rfl, h1⟩
theorem conf_tm {ds : List D} (h : ConfL ds K.tm.fields) : ∃ i0 s1 s2 i3 i4 d5 i6 d7 d8, ds = [.int i0, .str s1, .str s2, .int i3, .int i4, d5, .int i6, d7, d8] ∧ Conf d5 (.sl .ty) ∧ Conf d7 (.sl .ty) ∧ Conf d8 (.sl .tm) := by
  have hl := ConfL.len _ _ h
  match ds, hl with
  | [x0, x1, x2, x3, x4, x5, x6, x7, x8], _ =>
    have h0 : Conf x0 .int := ConfL.mem _ _ h 0 (by simp) (by simp [K.fields])
    obtain ⟨i0, rfl⟩ := conf_int h0
    have h1 : Conf x1 .str := ConfL.mem _ _ h 1 (by simp) (by simp [K.fields])
    obtain ⟨s1, rfl⟩ := conf_str h1
    have h2 : Conf x2 .str := ConfL.mem _ _ h 2 (by simp) (by simp [K.fields])
    obtain ⟨s2, rfl⟩ := conf_str h2
    have h3 : Conf x3 .int := ConfL.mem _ _ h 3 (by simp) (by simp [K.fields])
    obtain ⟨i3, rfl⟩ := conf_int h3
    have h4 : Conf x4 .int := ConfL.mem _ _ h 4 (by simp) (by simp [K.fields])
    obtain ⟨i4, rfl⟩ := conf_int h4
    have h5 : Conf x5 (.sl .ty) := ConfL.mem _ _ h 5 (by simp) (by simp [K.fields])
    have h6 : Conf x6 .int := ConfL.mem _ _ h 6 (by simp) (by simp [K.fields])
    obtain ⟨i6, rfl⟩ := conf_int h6
    have h7 : Conf x7 (.sl .ty) := ConfL.mem _ _ h 7 (by simp) (by simp [K.fields])
    have h8 : Conf x8 (.sl .tm) := ConfL.mem _ _ h 8 (by simp) (by simp [K.fields])
    exact ⟨i0, s1, s2, i3, i4, x5, i6, x7, x8, rfl, h5, h7, h8⟩
end Go.Proofs.YtpoemjeelbmpkaaGreat
