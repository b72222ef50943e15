/-
  Marks on structs: their slices' cells alone; ranges of blocks; changes in a range.
-/
import Derived.Test.YtepjbiffebbelaaUBase
import Derived.Test.YtepjbiffebbelaaMark
namespace Go.Proofs.Ytepjbiffebbelaa
open Go.RowKit
set_option linter.unusedVariables false

/-- The marks in the slices of a struct. -/
def cntS : List D → Nat
  | [] => 0
  | d :: ds => (if isScal d = true then 0 else cntD d) + cntS ds
def markS : List D → Int → List D
  | [], _ => []
  | d :: ds, c => (if isScal d = true then d else markD d c) :: markS ds (c + (if isScal d = true then 0 else cntD d : Nat))
theorem cntS_le : ∀ ds, cntS ds ≤ cntL ds
  | [] => Nat.le_refl _
  | d :: ds => by
    have := cntS_le ds
    unfold cntS cntL
    split <;> omega
theorem sc_int (n : Int) : isScal (.int n) = true := rfl
theorem sc_str (n : ByteArray) : isScal (.str n) = true := rfl
theorem sc_bool (n : Bool) : isScal (.bool n) = true := rfl
theorem scal_sl {d : D} {k : K} (h : Conf d (.sl k)) : isScal d = false := by
  obtain ⟨n, cs, rfl, _⟩ := conf_sl h
  rfl

theorem conf_markD {k : K} {d : D} (h : Conf d (.sl k)) (c : Int) : ∃ sz n cs, markD d c = .rows sz n cs := by
  obtain ⟨n, cs, rfl, _⟩ := conf_sl h
  exact ⟨_, _, _, by rw [markD]⟩
theorem rep_rows {w : World} {S : Nat} {d : D} {v : Value} (hd : ∃ sz n cs, d = .rows sz n cs) (h : RepV w S d v) : ∃ a n c, v = .slice a n c := by
  obtain ⟨sz, n, cs, rfl⟩ := hd
  unfold RepV at h
  obtain ⟨a, c, e, _⟩ := h
  exact ⟨a, n, c, e⟩
theorem K.fields_le (k : K) : k.fields.length ≤ 10 := by cases k <;> decide
mutual
theorem cntD_bd0 : ∀ (d : D) (c : CK), Conf d c → cntD d ≤ (if isScal d = true then 1 else 0) + 10 * szD d
  | .int _, _, _ => by simp [cntD, isScal]
  | .bool _, _, _ => by simp [cntD, isScal]
  | .str _, _, _ => by simp [cntD, isScal]
  | .any, _, h => by unfold Conf at h; exact h.elim
  | .byt _, _, h => by unfold Conf at h; exact h.elim
  | .rows sz n cs, c, h => by
    unfold Conf at h
    obtain ⟨k, e, h1, h2, h3, h4⟩ := h
    have h5 := cntL_bd0 cs _ h4
    have h6 := K.fields_le k
    have h7 : n * sz ≤ n * 10 := Nat.mul_le_mul_left n (by omega)
    simp only [cntD, szD, isScal]
    simp
    omega
theorem cntL_bd0 : ∀ (ds : List D) (cs : List CK), ConfL ds cs → cntL ds ≤ ds.length + 10 * szL ds
  | [], _, _ => by simp [cntL]
  | d :: ds, cs, h => by
    unfold ConfL at h
    obtain ⟨c, r, rfl, h1, h2⟩ := h
    have h3 := cntD_bd0 d c h1
    have h4 := cntL_bd0 ds r h2
    simp only [cntL, szL, List.length_cons]
    split at h3 <;> omega
end
theorem cntD_bd {d : D} {k : K} (h : Conf d (.sl k)) : cntD d ≤ 10 * szD d := by
  have h1 := cntD_bd0 d _ h
  rw [scal_sl h] at h1
  simpa using h1
theorem cntS_bd : ∀ {ds : List D} {F : List CK}, ConfL ds F → cntS ds ≤ 10 * szL ds
  | [], _, _ => by simp [cntS]
  | d :: ds, F, h => by
    unfold ConfL at h
    obtain ⟨c, r, rfl, h1, h2⟩ := h
    have h3 := cntD_bd0 d c h1
    have h4 := cntS_bd h2
    simp only [cntS, szL]
    split
    · omega
    · rename_i hs; rw [if_neg hs] at h3; omega
/-- The world has turned in the blocks from lo on, ahead of hi, alone (and there are new ones). -/
structure Chg (lo hi : Nat) (w w' : World) : Prop where
  os : w'.os = w.os
  tape : w'.tape = w.tape
  output : w'.output = w.output
  size : w.heap.size ≤ w'.heap.size
  block : ∀ k, k < w.heap.size → (k < lo ∨ hi ≤ k) → w'.heap[k]? = w.heap[k]?
theorem Only.chg {fp : List Nat} {w w' : World} {lo hi : Nat} (h : Only fp w w') (hf : ∀ k ∈ fp, lo ≤ k ∧ k < hi) : Chg lo hi w w' :=
  ⟨h.os, h.tape, h.output, h.size, fun k hk hn => h.block k hk fun hm => by have := hf k hm; omega⟩
theorem Chg.below {lo hi B : Nat} {w w' : World} (h : Chg lo hi w w') (h1 : B ≤ lo) (h2 : B ≤ w.heap.size) : Below B w w' :=
  ⟨h.os, h.tape, h.output, h.size, fun k hk => h.block k (by omega) (.inl (by omega))⟩
theorem Chg.blk {lo hi g : Nat} {w w' : World} {t : TypeId} {cs : Array Value} (h : Chg lo hi w w') (hg : g < lo ∨ hi ≤ g) (hb : Blk w g t cs) : Blk w' g t cs :=
  (h.block g hb.lt hg).trans hb
/-- Owned data in a range of blocks. -/
def OwnR (w : World) (lo hi : Nat) (ds : List D) (vs : List Value) : Prop := ∃ fp, OwnVs w ds vs fp ∧ fp.Nodup ∧ ∀ k ∈ fp, lo ≤ k ∧ k < hi
theorem FreshL.ownR {w : World} {B : Nat} {ds : List D} {vs : List Value} (h : FreshL w B ds vs) : OwnR w B w.heap.size ds vs := by
  obtain ⟨fp, h1, h2, h3⟩ := h
  exact ⟨fp, h1, h2, fun k hk => ⟨h3 k hk, OwnVs.lt _ _ _ h1 k hk⟩⟩
theorem OwnR.chg {w w' : World} {lo hi lo' hi' : Nat} {ds : List D} {vs : List Value} (h : OwnR w lo hi ds vs) (hc : Chg lo' hi' w w') (hd : hi ≤ lo' ∨ hi' ≤ lo) : OwnR w' lo hi ds vs := by
  obtain ⟨fp, h1, h2, h3⟩ := h
  refine ⟨fp, OwnVs.keep hc.size ds vs fp (fun k hk => hc.block k (OwnVs.lt _ _ _ h1 k hk) ?_) h1, h2, h3⟩
  have := h3 k hk
  omega
theorem OwnR.step {w w' : World} {lo hi : Nat} {ds : List D} {vs : List Value} (h : OwnR w lo hi ds vs) (hb : Below w.heap.size w w') : OwnR w' lo hi ds vs := by
  obtain ⟨fp, h1, h2, h3⟩ := h
  exact ⟨fp, OwnVs.keep hb.size ds vs fp (fun k hk => hb.block k (OwnVs.lt _ _ _ h1 k hk)) h1, h2, h3⟩
theorem OwnR.drew {w : World} {lo hi : Nat} {ds : List D} {vs : List Value} (h : OwnR w lo hi ds vs) : OwnR w.drew lo hi ds vs := h.step (Below.refl _ _).drew
theorem OwnR.rep {w : World} {lo hi S : Nat} {ds : List D} {vs : List Value} (h : OwnR w lo hi ds vs) (hS : hi ≤ S) : RepVs w S ds vs := by
  obtain ⟨fp, h1, h2, h3⟩ := h
  exact OwnVs.rep _ _ _ h1 fun k hk => by have := h3 k hk; omega
theorem OwnR.repw {w : World} {lo hi : Nat} {ds : List D} {vs : List Value} (h : OwnR w lo hi ds vs) : RepVs w w.heap.size ds vs := by
  obtain ⟨fp, h1, h2, h3⟩ := h
  exact OwnVs.rep _ _ _ h1 fun k hk => OwnVs.lt _ _ _ h1 k hk
/-- One slice as a list of one. -/
theorem Fresh.ownR {w : World} {B : Nat} {d : D} {v : Value} (h : Fresh w B d v) : OwnR w B w.heap.size [d] [v] := (FreshL.one h).ownR
theorem RepVs.first {w : World} {S : Nat} {d : D} {v : Value} (h : RepVs w S [d] [v]) : RepV w S d v := by
  obtain ⟨_, _, e, h, _⟩ := h.cons1
  injection e with e1 e2
  subst e1
  exact h
theorem GivL.ownR {w w' : World} {F : List CK} {ds : List D} {vs us : List Value} {lo hi : Nat} (h : GivL w F ds vs) (hf : OwnR w' lo hi ds us) : GivL w' F ds us := ⟨h.1, h.2.1, h.2.2.1, hf.repw⟩
theorem Giv.ownR {w w' : World} {k : K} {d : D} {v u : Value} {lo hi : Nat} (h : Giv w k d v) (hf : OwnR w' lo hi [d] [u]) : Giv w' k d u := ⟨h.1, h.2.1, h.2.2.1, hf.repw.first⟩
/-- A slice's mark by its range. -/
theorem own_one {w : World} {lo hi : Nat} {d : D} {v : Value} (h : OwnR w lo hi [d] [v]) : ∃ fp, OwnV w d v fp ∧ fp.Nodup ∧ ∀ k ∈ fp, lo ≤ k ∧ k < hi := by
  obtain ⟨fp, h1, h2, h3⟩ := h
  unfold OwnVs at h1
  obtain ⟨v', r, f1, f2, e1, e2, h4, h5⟩ := h1
  unfold OwnVs at h5
  obtain ⟨rfl, rfl⟩ := h5
  simp at e1 e2
  subst e1
  subst e2
  exact ⟨fp, h4, h2, h3⟩
theorem one_own {w : World} {lo hi : Nat} {d : D} {v : Value} {fp : List Nat} (h : OwnV w d v fp) (hn : fp.Nodup) (hr : ∀ k ∈ fp, lo ≤ k ∧ k < hi) : OwnR w lo hi [d] [v] := by
  refine ⟨fp, ?_, hn, hr⟩
  unfold OwnVs
  exact ⟨v, [], fp, [], rfl, by simp, h, by unfold OwnVs; exact ⟨rfl, rfl⟩⟩
end Go.Proofs.Ytepjbiffebbelaa
