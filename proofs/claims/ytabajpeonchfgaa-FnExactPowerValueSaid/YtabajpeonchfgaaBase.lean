/-
  Plain words for memory that reads as data: cells, rows of cells, owned rows; what keeps them. No function of the program is walked here.
-/
import Derived.Test.YtabajpeonchfgaaRows
import Derived.WalkKit
import Derived.WalkLawsBesides
import Derived.Lib.Hide
namespace Go.Proofs.Ytabajpeonchfgaa
open Go.RowKit

/-- What a cell holds: a number, a truth value, a text, or a slice of 'n' elements of 'sz' cells each, all cells in order. -/
inductive D where
  | int (n : Int)
  | bool (b : Bool)
  | str (s : ByteArray)
  | rows (sz n : Nat) (cs : List D)

mutual
/-- The value v reads as d; all memory that is read lies in blocks below S. -/
def RepV (w : World) (S : Nat) : D → Value → Prop
  | .int n, v => v = .int .i64 n
  | .bool b, v => v = .bool b
  | .str s, v => v = .string s
  | .rows sz n cs, v => ∃ a cap, v = .slice a n cap ∧ n ≤ cap ∧ cap ≤ maxLen ∧ cs.length = n * sz ∧ (n = 0 ∨ ∃ b off, a = some ⟨b, off, none⟩ ∧ b < S ∧ RepL w S b off cs)
/-- The cells from ⟨b, off⟩ on read as the list. -/
def RepL (w : World) (S : Nat) (b off : Nat) : List D → Prop
  | [] => True
  | d :: cs => (∃ v, w.cell? ⟨b, off, none⟩ = some v ∧ RepV w S d v) ∧ RepL w S b (off + 1) cs
end

mutual
theorem RepV.mono {w w' : World} {S S' : Nat} (hS : S ≤ S') (hw : ∀ k, k < S → w'.heap[k]? = w.heap[k]?) : ∀ (d : D) (v : Value), RepV w S d v → RepV w' S' d v
  | .int n, v, h => by unfold RepV at h ⊢; exact h
  | .bool b, v, h => by unfold RepV at h ⊢; exact h
  | .str s, v, h => by unfold RepV at h ⊢; exact h
  | .rows sz n cs, v, h => by
    unfold RepV at h ⊢
    obtain ⟨a, cap, h1, h2, h3, h4, h5⟩ := h
    refine ⟨a, cap, h1, h2, h3, h4, ?_⟩
    rcases h5 with h5 | ⟨b, off, ha, hb, hl⟩
    · exact .inl h5
    · exact .inr ⟨b, off, ha, by omega, RepL.mono hS hw b off hb cs hl⟩
theorem RepL.mono {w w' : World} {S S' : Nat} (hS : S ≤ S') (hw : ∀ k, k < S → w'.heap[k]? = w.heap[k]?) (b off : Nat) (hb : b < S) : ∀ (cs : List D), RepL w S b off cs → RepL w' S' b off cs
  | [], _ => by unfold RepL; trivial
  | d :: cs, h => by
    unfold RepL at h ⊢
    obtain ⟨⟨v, hc, hv⟩, h2⟩ := h
    exact ⟨⟨v, by rw [World.cell?_of_block (w := w) (hw b hb)]; exact hc, RepV.mono hS hw d v hv⟩, RepL.mono hS hw b (off + 1) hb cs h2⟩
end

theorem RepV.below {w w' : World} {S : Nat} {d : D} {v : Value} (h : RepV w S d v) (hb : Below S w w') : RepV w' S d v :=
  RepV.mono (Nat.le_refl _) hb.block d v h
theorem RepV.up {w : World} {S S' : Nat} {d : D} {v : Value} (h : RepV w S d v) (hS : S ≤ S') : RepV w S' d v :=
  RepV.mono hS (fun _ _ => rfl) d v h
theorem RepV.later {w w' : World} {S S' : Nat} {d : D} {v : Value} (h : RepV w S d v) (hb : Below S w w') (hS : S ≤ S') : RepV w' S' d v :=
  RepV.mono hS hb.block d v h

theorem RepL.get {w : World} {S b : Nat} : ∀ (cs : List D) (off i : Nat) (hi : i < cs.length), RepL w S b off cs → ∃ v, w.cell? ⟨b, off + i, none⟩ = some v ∧ RepV w S cs[i] v
  | d :: cs, off, 0, _, h => by unfold RepL at h; exact h.1
  | d :: cs, off, i + 1, hi, h => by
    unfold RepL at h
    have := RepL.get cs (off + 1) i (by simpa using hi) h.2
    rw [show off + (i + 1) = off + 1 + i from by omega]
    exact this

theorem RepL.of {w : World} {S b : Nat} : ∀ (cs : List D) (off : Nat), (∀ i (hi : i < cs.length), ∃ v, w.cell? ⟨b, off + i, none⟩ = some v ∧ RepV w S cs[i] v) → RepL w S b off cs
  | [], off, _ => by unfold RepL; trivial
  | d :: cs, off, h => by
    unfold RepL
    refine ⟨h 0 (by simp), RepL.of cs (off + 1) fun i hi => ?_⟩
    have := h (i + 1) (by simpa using hi)
    rw [show off + 1 + i = off + (i + 1) from by omega]
    exact this

/-- A slice that reads as 'n' rows. -/
theorem RepV.slc {w : World} {S sz n : Nat} {cs : List D} {v : Value} (h : RepV w S (.rows sz n cs) v) :
    ∃ a cap, v = .slice a n cap ∧ n ≤ cap ∧ cap ≤ maxLen ∧ cs.length = n * sz ∧
      ∀ k, k < n → ∃ b off, a = some ⟨b, off, none⟩ ∧ b < S ∧ ∀ j (_ : j < sz) (hi : k * sz + j < cs.length), ∃ u, w.cell? ⟨b, off + (k * sz + j), none⟩ = some u ∧ RepV w S cs[k * sz + j] u := by
  unfold RepV at h
  obtain ⟨a, cap, h1, h2, h3, h4, h5⟩ := h
  refine ⟨a, cap, h1, h2, h3, h4, fun k hk => ?_⟩
  rcases h5 with h5 | ⟨b, off, ha, hb, hl⟩
  · omega
  · exact ⟨b, off, ha, hb, fun j _ hi => RepL.get cs off _ hi hl⟩

/-! texts and numbers -/
def strsD (ss : List ByteArray) : D := .rows 1 ss.length (ss.map .str)
def intsD (ns : List Int) : D := .rows 1 ns.length (ns.map .int)

theorem RepV.strs {w : World} {S : Nat} {ss : List ByteArray} {v : Value} (h : RepV w S (strsD ss) v) :
    ∃ a cap, v = .slice a ss.length cap ∧ ss.length ≤ cap ∧ cap ≤ maxLen ∧
      ∀ k (hk : k < ss.length), ∃ b off, a = some ⟨b, off, none⟩ ∧ b < S ∧ w.cell? ⟨b, off + k, none⟩ = some (.string ss[k]) := by
  obtain ⟨a, cap, h1, h2, h3, h4, h5⟩ := h.slc
  refine ⟨a, cap, h1, h2, h3, fun k hk => ?_⟩
  obtain ⟨b, off, ha, hb, hc⟩ := h5 k hk
  obtain ⟨u, hu, hr⟩ := hc 0 (by omega) (by simp; omega)
  simp [RepV] at hr
  subst hr
  exact ⟨b, off, ha, hb, by simpa using hu⟩

theorem RepV.ints {w : World} {S : Nat} {ns : List Int} {v : Value} (h : RepV w S (intsD ns) v) :
    ∃ a cap, v = .slice a ns.length cap ∧ ns.length ≤ cap ∧ cap ≤ maxLen ∧
      ∀ k (hk : k < ns.length), ∃ b off, a = some ⟨b, off, none⟩ ∧ b < S ∧ w.cell? ⟨b, off + k, none⟩ = some (.int .i64 ns[k]) := by
  obtain ⟨a, cap, h1, h2, h3, h4, h5⟩ := h.slc
  refine ⟨a, cap, h1, h2, h3, fun k hk => ?_⟩
  obtain ⟨b, off, ha, hb, hc⟩ := h5 k hk
  obtain ⟨u, hu, hr⟩ := hc 0 (by omega) (by simp; omega)
  simp [RepV] at hr
  subst hr
  exact ⟨b, off, ha, hb, by simpa using hu⟩
end Go.Proofs.Ytabajpeonchfgaa
