/-
  What a law's argument is, in plain words on memory.
-/
import Derived.Test.YtepjbiffebbelaaPar
import Derived.Test.YtepjbiffebbelaaTree
namespace Go.Proofs.Ytepjbiffebbelaa
open Go.RowKit Go.ChangeShapes Go.WideShapes Go.Deep
/-- The value is a slice of elements of the kind. -/
def Arg (w : World) (k : K) (v : Value) : Prop := ∃ d, Conf d (.sl k) ∧ RepV w w.heap.size d v ∧ StrB d
/-- The cells are a struct of these fields. -/
def ArgS (w : World) (F : List CK) (cs : Array Value) : Prop := ∃ ds, ConfL ds F ∧ RepVs w w.heap.size ds cs.toList ∧ StrBL ds
section
variable {H : Type} {enc : TypeId × Value → H} {P : Program} {w : World} {base : Nat} {spare : Nat → Bool} {held : Bool} {fuel : Nat} {t : TypeId} {x : DataW H × List MemPlace}
theorem arg_sl {k : K} {a : Option Addr} {l c : Nat} (h : OpenSl enc P w base spare held k t fuel) (hf : DataW.trod enc P w base spare held fuel t (Value.slice a l c).cells.toList = some x) : Arg w k (.slice a l c) := by
  obtain ⟨v, d, he, h1, h2, h3⟩ := h _ _ hf
  simp [Value.cells] at he
  subst he
  exact ⟨d, h1, h2, h3⟩
theorem arg_st {F : List CK} {cs : Array Value} (h : OpenEl enc P w base spare held F t fuel) (hf : DataW.trod enc P w base spare held fuel t (Value.agg cs).cells.toList = some x) : ArgS w F cs := h _ _ hf
end
theorem ints_list : ∀ (cs : List D) (n : Nat), ConfL cs (List.replicate n [CK.int]).flatten → ∃ ns : List Int, cs = ns.map .int
  | [], n, h => ⟨[], rfl⟩
  | d :: cs, 0, h => by simp at h; unfold ConfL at h; obtain ⟨c, r, e, _⟩ := h; simp at e
  | d :: cs, n + 1, h => by
    rw [List.replicate_succ, List.flatten_cons, List.cons_append, List.nil_append] at h
    unfold ConfL at h
    obtain ⟨c, r, e, h1, h2⟩ := h
    simp only [List.cons.injEq] at e
    obtain ⟨rfl, rfl⟩ := e
    obtain ⟨ns, rfl⟩ := ints_list cs n h2
    cases d <;> simp [Conf] at h1
    exact ⟨_ :: ns, rfl⟩
theorem ints_of {d : D} (h1 : Conf d (.sl .ints)) : ∃ ns, d = intsD ns := by
  have h0 : ∃ sz n cs, d = .rows sz n cs := by
    cases d <;> simp [Conf] at h1 ⊢
  obtain ⟨sz, n, cs, rfl⟩ := h0
  unfold Conf at h1
  obtain ⟨k, e, h1', h3, h4, h5⟩ := h1
  simp at e
  subst e
  subst h1'
  obtain ⟨ns, rfl⟩ := ints_list cs n (by simpa [K.fields] using h5)
  refine ⟨ns, ?_⟩
  have : n = ns.length := by simp [K.fields] at h3; omega
  subst this
  rfl
theorem isInts {w : World} {v : Value} (h : Arg w .ints v) : ∃ ns, RepV w w.heap.size (intsD ns) v := by
  obtain ⟨d, h1, h2, _⟩ := h
  have h0 : ∃ sz n cs, d = .rows sz n cs := by
    cases d <;> simp [Conf] at h1 ⊢
  obtain ⟨sz, n, cs, rfl⟩ := h0
  unfold Conf at h1
  obtain ⟨k, e, h1', h3, h4, h5⟩ := h1
  simp at e
  subst e
  subst h1'
  obtain ⟨ns, rfl⟩ := ints_list cs n (by simpa [K.fields] using h5)
  refine ⟨ns, ?_⟩
  have : n = ns.length := by simp [K.fields] at h3; omega
  subst this
  exact h2
theorem strs_list : ∀ (cs : List D) (n : Nat), ConfL cs (List.replicate n [CK.str]).flatten → ∃ ns : List ByteArray, cs = ns.map .str
  | [], n, h => ⟨[], rfl⟩
  | d :: cs, 0, h => by simp at h; unfold ConfL at h; obtain ⟨c, r, e, _⟩ := h; simp at e
  | d :: cs, n + 1, h => by
    rw [List.replicate_succ, List.flatten_cons, List.cons_append, List.nil_append] at h
    unfold ConfL at h
    obtain ⟨c, r, e, h1, h2⟩ := h
    simp only [List.cons.injEq] at e
    obtain ⟨rfl, rfl⟩ := e
    obtain ⟨ns, rfl⟩ := strs_list cs n h2
    cases d <;> simp [Conf] at h1
    exact ⟨_ :: ns, rfl⟩
theorem strs_of {d : D} (h1 : Conf d (.sl .strs)) : ∃ ns, d = strsD ns := by
  have h0 : ∃ sz n cs, d = .rows sz n cs := by
    cases d <;> simp [Conf] at h1 ⊢
  obtain ⟨sz, n, cs, rfl⟩ := h0
  unfold Conf at h1
  obtain ⟨k, e, h1', h3, h4, h5⟩ := h1
  simp at e
  subst e
  subst h1'
  obtain ⟨ns, rfl⟩ := strs_list cs n (by simpa [K.fields] using h5)
  refine ⟨ns, ?_⟩
  have : n = ns.length := by simp [K.fields] at h3; omega
  subst this
  rfl
theorem szD_ints (ns : List Int) : ns.length ≤ szD (intsD ns) := by unfold intsD; rw [szD]; omega
theorem szD_strs (ns : List ByteArray) : ns.length ≤ szD (strsD ns) := by unfold strsD; rw [szD]; omega
theorem isStrs {w : World} {v : Value} (h : Arg w .strs v) : ∃ ns, RepV w w.heap.size (strsD ns) v ∧ StrB (strsD ns) := by
  obtain ⟨d, h1, h2, hs⟩ := h
  have h0 : ∃ sz n cs, d = .rows sz n cs := by
    cases d <;> simp [Conf] at h1 ⊢
  obtain ⟨sz, n, cs, rfl⟩ := h0
  unfold Conf at h1
  obtain ⟨k, e, h1', h3, h4, h5⟩ := h1
  simp at e
  subst e
  subst h1'
  obtain ⟨ns, rfl⟩ := strs_list cs n (by simpa [K.fields] using h5)
  have : n = ns.length := by simp [K.fields] at h3; omega
  subst this
  exact ⟨ns, h2, hs⟩
/-- Two numbers. -/
theorem argS_ints2 {w : World} {cs : Array Value} (h : ArgS w [.int, .int] cs) : ∃ a b, cs = #[.int .i64 a, .int .i64 b] := by
  obtain ⟨ds, h1, h2, _⟩ := h
  match ds, h1 with
  | [d0, d1], h1 =>
    unfold ConfL ConfL ConfL at h1
    obtain ⟨_, _, e, c0, _, _, e', c1, e2⟩ := h1
    subst e'
    simp at e
    obtain ⟨rfl, rfl, rfl⟩ := e
    cases d0 <;> simp [Conf] at c0
    cases d1 <;> simp [Conf] at c1
    simp only [RepVs, RepV] at h2
    obtain ⟨_, _, e, rfl, _, _, rfl, rfl, rfl⟩ := h2
    exact ⟨_, _, by cases cs; simp at e; subst e; rfl⟩
  | [], h1 => unfold ConfL at h1; simp at h1
  | [d0], h1 => unfold ConfL ConfL at h1; obtain ⟨_, _, e, _, rfl⟩ := h1; simp at e
  | d0 :: d1 :: d2 :: ds, h1 => have := h1.len; simp at this
end Go.Proofs.Ytepjbiffebbelaa
