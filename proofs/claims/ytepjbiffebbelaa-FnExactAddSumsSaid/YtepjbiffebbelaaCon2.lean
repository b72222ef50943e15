/-
  Contracts with two results, used on memory.
-/
import Derived.Test.YtepjbiffebbelaaLst
namespace Go.Proofs.Ytepjbiffebbelaa
open Go.RowKit
set_option linter.unusedVariables false
set_option linter.unusedSimpArgs false
theorem OwnVs.cons1 {w : World} {d : D} {ds : List D} {vs : List Value} {fp : List Nat} (h : OwnVs w (d :: ds) vs fp) : ∃ v r f g, vs = v :: r ∧ fp = f ++ g ∧ OwnV w d v f ∧ OwnVs w ds r g := by
  unfold OwnVs at h
  obtain ⟨v, r, f, g, h1, h2, h3, h4⟩ := h
  exact ⟨v, r, f, g, h1, h2, h3, h4⟩
theorem OwnR.two {w : World} {lo hi : Nat} {d1 d2 : D} {u1 u2 : Value} (h : OwnR w lo hi [d1, d2] [u1, u2]) : ∃ f g, OwnV w d1 u1 f ∧ OwnV w d2 u2 g ∧ f.Nodup ∧ g.Nodup ∧ (∀ k ∈ f, k ∉ g) ∧ (∀ k ∈ f, lo ≤ k ∧ k < hi) ∧ ∀ k ∈ g, lo ≤ k ∧ k < hi := by
  obtain ⟨fp, ho, hn, hr⟩ := h
  obtain ⟨v, r, f, g', e, rfl, h1, h2⟩ := ho.cons1
  injection e with e1 e2
  subst e1 e2
  obtain ⟨v, r, g, g'', e, rfl, h3, h4⟩ := h2.cons1
  injection e with e1 e2
  subst e1 e2
  unfold OwnVs at h4
  obtain ⟨-, rfl⟩ := h4
  simp only [List.append_nil] at hn hr
  have hd := List.nodup_append.1 hn
  exact ⟨f, g, h1, h3, hd.1, hd.2.1, fun k hk hg => hd.2.2 k hk k hg rfl, fun k hk => hr k (List.mem_append_left _ hk), fun k hk => hr k (List.mem_append_right _ hk)⟩
theorem OwnR.mk2 {w : World} {lo hi : Nat} {d1 d2 : D} {u1 u2 : Value} {f g : List Nat} (h1 : OwnV w d1 u1 f) (h2 : OwnV w d2 u2 g) (hf : f.Nodup) (hg : g.Nodup) (hd : ∀ k ∈ f, k ∉ g) (hrf : ∀ k ∈ f, lo ≤ k ∧ k < hi) (hrg : ∀ k ∈ g, lo ≤ k ∧ k < hi) : OwnR w lo hi [d1, d2] [u1, u2] := by
  refine ⟨f ++ g, ?_, List.nodup_append.2 ⟨hf, hg, fun x hx y hy e => hd x hx (e ▸ hy)⟩, fun k hk => ?_⟩
  · have h3 : OwnVs w [d2] [u2] (g ++ []) := by unfold OwnVs; exact ⟨u2, [], g, [], rfl, rfl, h2, by unfold OwnVs; exact ⟨rfl, rfl⟩⟩
    rw [List.append_nil] at h3
    unfold OwnVs
    exact ⟨u1, [u2], f, g, rfl, rfl, h1, h3⟩
  · rcases List.mem_append.1 hk with h | h
    · exact hrf k h
    · exact hrg k h
theorem OwnR.fst {w : World} {lo hi : Nat} {d1 d2 : D} {u1 u2 : Value} (h : OwnR w lo hi [d1, d2] [u1, u2]) : OwnR w lo hi [d1] [u1] := by
  obtain ⟨f, g, h1, h2, hf, hg, hd, hrf, hrg⟩ := h.two
  exact one_own h1 hf hrf
theorem OwnR.snd {w : World} {lo hi : Nat} {d1 d2 : D} {u1 u2 : Value} (h : OwnR w lo hi [d1, d2] [u1, u2]) : OwnR w lo hi [d2] [u2] := by
  obtain ⟨f, g, h1, h2, hf, hg, hd, hrf, hrg⟩ := h.two
  exact one_own h2 hg hrg
theorem mark_fst {P : Program} {F : FuncId} {args : Array Value} {w : World} {lo hi : Nat} {d1 d2 d' : D} {u1 u2 r : Value} (hm : ∀ f, OwnV w d1 u1 f → f.Nodup → Calls P F args w fun e w' => e = .returned r ∧ OwnV w' d' u1 f ∧ Only f w w') (h : OwnR w lo hi [d1, d2] [u1, u2]) :
    Calls P F args w fun e w' => e = .returned r ∧ OwnR w' lo hi [d', d2] [u1, u2] ∧ Chg lo hi w w' := by
  obtain ⟨f, g, h1, h2, hf, hg, hd, hrf, hrg⟩ := h.two
  refine (hm f h1 hf).mono ?_
  rintro e w' ⟨rfl, ho', hw⟩
  have h2' := OwnV.keep hw.size d2 u2 g (fun k hk => hw.block k (OwnV.lt d2 u2 g h2 k hk) fun hkf => hd k hkf hk) h2
  exact ⟨rfl, OwnR.mk2 ho' h2' hf hg hd hrf hrg, hw.chg hrf⟩
theorem mark_snd {P : Program} {F : FuncId} {args : Array Value} {w : World} {lo hi : Nat} {d1 d2 d' : D} {u1 u2 r : Value} (hm : ∀ f, OwnV w d2 u2 f → f.Nodup → Calls P F args w fun e w' => e = .returned r ∧ OwnV w' d' u2 f ∧ Only f w w') (h : OwnR w lo hi [d1, d2] [u1, u2]) :
    Calls P F args w fun e w' => e = .returned r ∧ OwnR w' lo hi [d1, d'] [u1, u2] ∧ Chg lo hi w w' := by
  obtain ⟨f, g, h1, h2, hf, hg, hd, hrf, hrg⟩ := h.two
  refine (hm g h2 hg).mono ?_
  rintro e w' ⟨rfl, ho', hw⟩
  have h1' := OwnV.keep hw.size d1 u1 f (fun k hk => hw.block k (OwnV.lt d1 u1 f h1 k hk) fun hkg => hd k hk hkg) h1
  exact ⟨rfl, OwnR.mk2 h1' ho' hf hg hd hrf hrg, hw.chg hrg⟩
/-! the forms of two results -/
theorem con_oo {P : Program} {f : FuncId} {ps : List PD} {d1 d2 : D} (h : Con P f ps [.one d1, .one d2]) {w : World} {us : List Value} (hu : RepPDs w ps us) (hg : GI w := by first | assumption | exact ⟨fun k hk => by simp [GBl] at hk, trivial⟩) : Calls P f us.toArray w fun e w' => ∃ u1 u2, e = .returned (.tuple #[u1, u2]) ∧ OwnR w' w.heap.size w'.heap.size [d1, d2] [u1, u2] ∧ Below w.heap.size w w' :=
  (h.2 w us hg hu).mono fun e w' ⟨hb, vs, he, hf⟩ => by
    have hl : vs.length = 2 := by obtain ⟨fp, ho, _⟩ := hf; exact OwnVs.len _ _ _ ho
    match vs, hl with
    | [u1, u2], _ => exact ⟨u1, u2, he, FreshL.ownR (by simpa [flatD] using hf), hb⟩
theorem freshL_take {w : World} {B : Nat} {a b : List D} {u v : List Value} (hl : u.length = a.length) (h : FreshL w B (a ++ b) (u ++ v)) : FreshL w B a u ∧ FreshL w B b v := by
  obtain ⟨fp, ho, hn, hB⟩ := h
  have : ∀ (a : List D) (u : List Value) (fp : List Nat), u.length = a.length → OwnVs w (a ++ b) (u ++ v) fp → ∃ f g, fp = f ++ g ∧ OwnVs w a u f ∧ OwnVs w b v g := by
    intro a
    induction a with
    | nil =>
      intro u fp hl ho
      cases u with
      | nil => exact ⟨[], fp, rfl, by unfold OwnVs; exact ⟨rfl, rfl⟩, ho⟩
      | cons _ _ => simp at hl
    | cons d a ih =>
      intro u fp hl ho
      cases u with
      | nil => simp at hl
      | cons x u =>
        obtain ⟨v', r, f, g, e, rfl, h1, h2⟩ := ho.cons1
        rw [List.cons_append] at e
        injection e with e1 e2
        subst e1 e2
        obtain ⟨f2, g2, rfl, h3, h4⟩ := ih u g (by simpa using hl) h2
        exact ⟨f ++ f2, g2, by rw [List.append_assoc], by unfold OwnVs; exact ⟨x, u, f, f2, rfl, rfl, h1, h3⟩, h4⟩
  obtain ⟨f, g, rfl, h1, h2⟩ := this a u fp hl ho
  have hd := List.nodup_append.1 hn
  exact ⟨⟨f, h1, hd.1, fun k hk => hB k (List.mem_append_left _ hk)⟩, ⟨g, h2, hd.2.1, fun k hk => hB k (List.mem_append_right _ hk)⟩⟩
theorem con_ao {P : Program} {f : FuncId} {ps : List PD} {ds : List D} {d : D} (h : Con P f ps [.ag ds, .one d]) {w : World} {us : List Value} (hu : RepPDs w ps us) (hg : GI w := by first | assumption | exact ⟨fun k hk => by simp [GBl] at hk, trivial⟩) : Calls P f us.toArray w fun e w' => ∃ vs u, e = .returned (.tuple #[.agg vs.toArray, u]) ∧ FreshL w' w.heap.size ds vs ∧ Fresh w' w.heap.size d u ∧ Below w.heap.size w w' :=
  (h.2 w us hg hu).mono fun e w' ⟨hb, vs, he, hf⟩ => by
    have hl : vs.length = (ds ++ [d]).length := by obtain ⟨fp, ho, _⟩ := hf; have := OwnVs.len _ _ _ ho; simpa [flatD] using this
    have hl' : vs.length = ds.length + 1 := by simpa using hl
    obtain ⟨us', u, rfl, hl2⟩ : ∃ us' u, vs = us' ++ [u] ∧ us'.length = ds.length :=
      ⟨vs.take ds.length, vs[ds.length]'(by omega), by rw [← List.take_succ_eq_append_getElem (by omega), List.take_of_length_le (by omega)], by rw [List.length_take]; omega⟩
    have hf' : FreshL w' w.heap.size (ds ++ [d]) (us' ++ [u]) := by simpa [flatD] using hf
    obtain ⟨h1, h2⟩ := freshL_take hl2 hf'
    refine ⟨us', u, ?_, h1, h2.first, hb⟩
    rw [he]
    simp only [packV, retV, ← hl2, List.take_left', List.drop_left', List.take_append_of_le_length (Nat.le_refl _), List.take_length, List.headD_cons]
theorem con_ff {P : Program} {f : FuncId} {ps : List PD} {d1 d2 : D} (h : Con P f ps [.one d1, .one d2]) {w : World} {us : List Value} (hu : RepPDs w ps us) (hg : GI w := by first | assumption | exact ⟨fun k hk => by simp [GBl] at hk, trivial⟩) : Calls P f us.toArray w fun e w' => ∃ u1 u2, e = .returned (.tuple #[u1, u2]) ∧ Fresh w' w.heap.size d1 u1 ∧ Fresh w' w.heap.size d2 u2 ∧ Below w.heap.size w w' :=
  (h.2 w us hg hu).mono fun e w' ⟨hb, vs, he, hf⟩ => by
    have hl : vs.length = 2 := by obtain ⟨fp, ho, _⟩ := hf; exact OwnVs.len _ _ _ ho
    match vs, hl with
    | [u1, u2], _ =>
      have hf' : FreshL w' w.heap.size ([d1] ++ [d2]) ([u1] ++ [u2]) := by simpa [flatD] using hf
      obtain ⟨h1, h2⟩ := freshL_take rfl hf'
      exact ⟨u1, u2, he, h1.first, h2.first, hb⟩
end Go.Proofs.Ytepjbiffebbelaa
