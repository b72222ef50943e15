/-
  Blocks that are no cells turn (the record of a loop over a function): what the picture says stays so.
-/
import Derived.Test.YtkfknmnocddjbaaPtr
import Derived.RangeFuncIn
import Derived.RangeFuncCalls
import Derived.RangeFuncLeaves
namespace Go.Proofs.Ytkfknmnocddjbaa
open Go.RowKit
set_option linter.unusedVariables false
set_option linter.unusedSimpArgs false
/-- No block of cells has turned; what was none is none still. -/
structure Nc (w w' : World) : Prop where
  size : w.heap.size ≤ w'.heap.size
  cel : ∀ (k : Nat) (cs : Array Value) (T : TypeId) (fr : Nat × Nat), w.heap[k]? = some (.cells cs T fr) → w'.heap[k]? = some (.cells cs T fr)
  non : ∀ (k : Nat) (o : Obj), w.heap[k]? = some o → o.isCells = false → ∃ o' : Obj, w'.heap[k]? = some o' ∧ o'.isCells = false
theorem Nc.cell {w w' : World} (h : Nc w w') {a : Addr} {v : Value} (hc : w.cell? a = some v) : w'.cell? a = some v := by
  unfold World.cell? at hc ⊢
  split at hc
  · rename_i cs T fr hh
    rw [h.cel _ _ _ _ hh]; exact hc
  · cases hc
theorem Nc.frozen {w w' : World} (h : Nc w w') {b o : Nat} (hb : b < w.heap.size) (hf : w.frozen? ⟨b, o, none⟩ = false) : w'.frozen? ⟨b, o, none⟩ = false := by
  obtain ⟨x, hx⟩ : ∃ x, w.heap[b]? = some x := ⟨_, Array.getElem?_eq_getElem hb⟩
  cases hc : x.isCells with
  | true =>
    cases x <;> simp only [Obj.isCells] at hc <;> first | (cases hc; done) | skip
    rename_i cs T fr
    have := h.cel _ _ _ _ hx
    simp only [World.frozen?, hx, this] at hf ⊢
    exact hf
  | false =>
    obtain ⟨o', h1, h2⟩ := h.non _ _ hx hc
    unfold World.frozen?
    simp only [h1]
    cases o' <;> first | rfl | (simp [Obj.isCells] at h2)
theorem Nc.cells {w w' : World} (h : Nc w w') {b off : Nat} {vs : List Value} (hc : Cells w b off vs) : Cells w' b off vs := fun i hi => h.cell (hc i hi)
theorem Nc.blk {w w' : World} (h : Nc w w') {g : Nat} {T : TypeId} {cs : Array Value} (hc : Blk w g T cs) : Blk w' g T cs := h.cel _ _ _ _ hc
mutual
theorem RepP.nc {w w' : World} (hn : Nc w w') {S : Nat → Prop} : ∀ (d : D) (v : Value), RepP w S d v → RepP w' S d v
  | .int n, v, h => by unfold RepP at h ⊢; exact h
  | .bool b, v, h => by unfold RepP at h ⊢; exact h
  | .str s, v, h => by unfold RepP at h ⊢; exact h
  | .any, v, h => by unfold RepP at h ⊢; exact h
  | .byt n, v, h => by unfold RepP at h ⊢; exact h
  | .rows sz n cs, v, h => by
    unfold RepP at h ⊢
    obtain ⟨a, cap, h1, h2, h3, h4, h5⟩ := h
    refine ⟨a, cap, h1, h2, h3, h4, ?_⟩
    rcases h5 with h5 | ⟨b, off, vs, ha, hb, hc, hl⟩
    · exact .inl h5
    · exact .inr ⟨b, off, vs, ha, hb, hn.cells hc, RepPs.nc hn cs vs hl⟩
theorem RepPs.nc {w w' : World} (hn : Nc w w') {S : Nat → Prop} : ∀ (cs : List D) (vs : List Value), RepPs w S cs vs → RepPs w' S cs vs
  | [], _, h => by unfold RepPs at h ⊢; exact h
  | d :: cs, vs, h => by
    unfold RepPs at h ⊢
    obtain ⟨v, r, e, hv, h2⟩ := h
    exact ⟨v, r, e, RepP.nc hn d v hv, RepPs.nc hn cs r h2⟩
end
mutual
theorem OwnV.nc {w w' : World} (hn : Nc w w') : ∀ (d : D) (v : Value) (fp : List Nat), OwnV w d v fp → OwnV w' d v fp
  | .int n, v, fp, h => by unfold OwnV at h ⊢; exact h
  | .bool b, v, fp, h => by unfold OwnV at h ⊢; exact h
  | .str s, v, fp, h => by unfold OwnV at h ⊢; exact h
  | .any, v, fp, h => by unfold OwnV at h ⊢; exact h
  | .byt n, v, fp, h => by unfold OwnV at h ⊢; exact h
  | .rows sz n cs, v, fp, h => by
    unfold OwnV at h ⊢
    obtain ⟨a, cap, h1, h2, h3, h4, h5⟩ := h
    refine ⟨a, cap, h1, h2, h3, h4, ?_⟩
    rcases h5 with h5 | ⟨b, off, vs, f, ha, hb, hf, hz, hc, hl⟩
    · exact .inl h5
    · exact .inr ⟨b, off, vs, f, ha, Nat.lt_of_lt_of_le hb hn.size, hf, fun o => hn.frozen hb (hz o), hn.cells hc, OwnVs.nc hn cs vs f hl⟩
theorem OwnVs.nc {w w' : World} (hn : Nc w w') : ∀ (cs : List D) (vs : List Value) (fp : List Nat), OwnVs w cs vs fp → OwnVs w' cs vs fp
  | [], _, _, h => by unfold OwnVs at h ⊢; exact h
  | d :: cs, vs, fp, h => by
    unfold OwnVs at h ⊢
    obtain ⟨v, r, f1, f2, e1, e2, hv, h2⟩ := h
    exact ⟨v, r, f1, f2, e1, e2, OwnV.nc hn d v f1 hv, OwnVs.nc hn cs r f2 h2⟩
end
theorem ownR.nc {w w' : World} (hn : Nc w w') {T : TypeId} {sz n : Nat} {v : Value} {vs : List Value} (h : ownR w T sz v n vs) : ownR w' T sz v n vs := by
  refine ⟨h.1, ?_⟩
  rcases h.2 with h2 | ⟨g, o, cap, cur, h1, h2, h3⟩
  · exact .inl h2
  · exact .inr ⟨g, o, cap, cur, h1, hn.cel _ _ _ _ h2, h3⟩
mutual
theorem RV.nc {w w' : World} (hn : Nc w w') {nx : Nat} {G : Gh} {owf : Nat → Option OwnI} : ∀ (v : AV) (u : Value), RV G w owf nx v u → RV G w' owf nx v u
  | .i n, u, h => by unfold RV at h ⊢; exact h
  | .b n, u, h => by unfold RV at h ⊢; exact h
  | .s n, u, h => by unfold RV at h ⊢; exact h
  | .y n, u, h => by unfold RV at h ⊢; exact h
  | .nl _, u, h => by unfold RV at h ⊢; exact h
  | .x _, u, h => by unfold RV at h ⊢; exact h
  | .sl o, u, h => by unfold RV at h ⊢; exact h
  | .sp o d, u, h => by unfold RV at h ⊢; exact ⟨h.1, h.2.1, fun I hI => RepP.nc hn _ _ (h.2.2 I hI)⟩
  | .br d, u, h => by unfold RV at h ⊢; exact RepP.nc hn _ _ h
  | .cl d, u, h => by unfold RV at h ⊢; exact ⟨h.1, RepP.nc hn _ _ h.2⟩
  | .bx b off, u, h => by unfold RV at h ⊢; exact h
  | .eb d k off, u, h => by
    unfold RV at h ⊢
    obtain ⟨sz, n, cs, a, o0, len, cap, h1, h2, h3, h4⟩ := h
    exact ⟨sz, n, cs, a, o0, len, cap, h1, h2, RepP.nc hn _ _ h3, h4⟩
  | .eo o k off, u, h => by unfold RV at h ⊢; exact h
  | .fn f cap, u, h => by
    unfold RV at h ⊢
    obtain ⟨us, e, h⟩ := h
    exact ⟨us, e, RVs.nc hn cap us h⟩
  | .ag cs, u, h => by
    unfold RV at h ⊢
    obtain ⟨us, e, h⟩ := h
    exact ⟨us, e, RVs.nc hn cs us h⟩
  | .tu cs, u, h => by
    unfold RV at h ⊢
    obtain ⟨us, e, h⟩ := h
    exact ⟨us, e, RVs.nc hn cs us h⟩
  | .rp cs, u, h => by
    unfold RV at h ⊢
    obtain ⟨g, us, T, e, hg, hB, h⟩ := h
    exact ⟨g, us, T, e, hg, hn.blk hB, RVs.nc hn cs us h⟩
  | .un, u, h => by unfold RV; trivial
theorem RVs.nc {w w' : World} (hn : Nc w w') {nx : Nat} {G : Gh} {owf : Nat → Option OwnI} : ∀ (v : List AV) (u : List Value), RVs G w owf nx v u → RVs G w' owf nx v u
  | [], u, h => by unfold RVs at h ⊢; exact h
  | a :: l, u, h => by
    unfold RVs at h ⊢
    obtain ⟨x, r, e, h1, h2⟩ := h
    exact ⟨x, r, e, RV.nc hn a x h1, RVs.nc hn l r h2⟩
end
theorem Res.nc {w0 : World0} {Z : Nat → Prop} {w w' : World} (hn : Nc w w') {B : List Nat} {v : Value} {I : OwnI} (h : Res w0 Z w B v I) : Res w0 Z w' B v I := by
  obtain ⟨h1, h2, h3, h4⟩ := h
  refine ⟨fun k hk => ⟨(h1 k hk).1, Nat.lt_of_lt_of_le (h1 k hk).2 hn.size⟩, RepP.nc hn _ _ h2, fun hd => ⟨OwnV.nc hn _ _ _ (h3 hd).1, (h3 hd).2⟩, fun T hT => ?_⟩
  obtain ⟨sz, n, cs, vs, q1, q2, q3, q4, q5, q6⟩ := h4 T hT
  refine ⟨sz, n, cs, vs, q1, q2.nc hn, RepPs.nc hn _ _ q3, q4, q5, fun hd => ?_⟩
  obtain ⟨fp, r1, r2⟩ := q6 hd
  exact ⟨fp, OwnVs.nc hn _ _ _ r1, r2⟩
theorem Rel.nc {w0 : World0} {G : Gh} {s : AS} {a : Act} {w w' : World} (h : Rel w0 G s a w) (hn : Nc w w') (hb : Bel w0.wr w0.toWorld w') : Rel w0 G s a w' := by
  refine ⟨h.nt, h.df, fun t v ht => ?_, fun b cs hb' => ?_, h.inj, fun o I ho => ?_, h.dis, hb, fun k hk => Nat.lt_of_lt_of_le (h.zl k hk) hn.size, h.pb, h.zz⟩
  · obtain ⟨u, h1, h2⟩ := h.tm t v ht
    exact ⟨u, h1, RV.nc hn _ _ h2⟩
  · obtain ⟨h1, h2, us, T, h3, h4⟩ := h.bx b cs hb'
    exact ⟨h1, h2, us, T, hn.blk h3, RVs.nc hn _ _ h4⟩
  · obtain ⟨h1, h2, h3⟩ := h.own o I ho
    exact ⟨h1, h2.nc hn, h3⟩
/-- Another activation with temporaries of its own: what speaks of memory holds on. -/
theorem Rel.act {w0 : World0} {G : Gh} {s : AS} {a a' : Act} {w : World} (h : Rel w0 G s a w) (tm : List (Nat × AV)) (hn : a'.tmps.size = s.nt) (hd : a'.defers = []) (ht : ∀ t v, look tm t = some v → ∃ u, a'.tmps[t]? = some u ∧ RV G w s.owf s.nx v u) :
    Rel w0 G { s with tm := tm } a' w := ⟨hn, hd, ht, h.bx, h.inj, h.own, h.dis, h.bel, h.zl, h.pb, h.zz⟩
end Go.Proofs.Ytkfknmnocddjbaa
