/-
  Appended rows, on the abstract picture.
-/
import Derived.Test.YtaeeipojnfooeaaAI7
namespace Go.Proofs.Ytaeeipojnfooeaa
open Go.RowKit
set_option linter.unusedVariables false
set_option linter.unusedSimpArgs false

def tRow (P : Program) (t : TypeId) : Option (TypeId × Nat × Nat) :=
  match P.underlying t with
  | some (.slice e) => match P.info? e with
    | some i => match i.zero with
      | some z => if z.cells.size = i.size ∧ 0 < i.size then some (e, i.size, i.bytes) else none
      | none => none
    | none => none
  | _ => none
theorem tRow_ok {P : Program} {t T : TypeId} {sz bytes : Nat} (h : tRow P t = some (T, sz, bytes)) : ∃ i z, P.underlying t = some (.slice T) ∧ P.info? T = some i ∧ i.zero = some z ∧ i.size = sz ∧ i.bytes = bytes ∧ z.cells.size = sz ∧ 0 < sz := by
  unfold tRow at h
  split at h
  · rename_i e hu
    split at h
    · rename_i i hi
      split at h
      · rename_i z hz
        split at h
        · rename_i hc
          simp only [Option.some.injEq, Prod.mk.injEq] at h
          obtain ⟨rfl, rfl, rfl⟩ := h
          exact ⟨i, z, hu, hi, hz, rfl, rfl, hc.1, hc.2⟩
        · cases h
      · cases h
    · cases h
  · cases h
theorem row_shape {w : World} {base sz n : Nat} {T : TypeId} {v : Value} {vs : List Value} (h : w.ownsRow base T sz v n vs) : ∃ a cap, v = .slice a n cap ∧ n ≤ cap ∧ cap ≤ maxLen ∧ (∀ k ∈ rowB v, k < w.heap.size ∧ base ≤ k) ∧
    ((rowB v = [] ∧ n = 0) ∨ ∃ g, a = some ⟨g, 0, none⟩ ∧ rowB v = [g] ∧ Cells w g 0 vs ∧ ∀ o, w.frozen? ⟨g, o, none⟩ = false) := by
  rcases h.2 with ⟨rfl, rfl⟩ | ⟨g, cap, cur, rfl, hg, hh, hnc, hcm, hcs, ht⟩
  · exact ⟨none, 0, rfl, Nat.le_refl _, Nat.zero_le _, by simp [rowB], .inl ⟨rfl, rfl⟩⟩
  · refine ⟨_, cap, rfl, hnc, hcm, ?_, .inr ⟨g, rfl, rfl, fun i hi => ?_, fun o => Blk.frozen (w := w) (t := T) (cs := cur) hh o⟩⟩
    · intro k hk
      simp only [rowB, List.mem_singleton] at hk
      subst hk
      exact ⟨Blk.lt (w := w) (t := T) (cs := cur) hh, hg⟩
    · rw [cell_of_row w g _ cur T _ hh]
      have h9 : (List.take (n * sz) cur.toList)[i]? = some vs[i] := by rw [ht]; exact List.getElem?_eq_getElem hi
      rw [List.getElem?_take] at h9
      split at h9
      · simpa using h9
      · cases h9
theorem row_rep {w : World} {S : Nat → Prop} {base sz n : Nat} {T : TypeId} {v : Value} {vs : List Value} {cs : List D} (h : w.ownsRow base T sz v n vs) (hr : RepPs w S cs vs) (hS : ∀ k ∈ rowB v, S k) : RepP w S (.rows sz n cs) v := by
  obtain ⟨a, cap, rfl, h1, h2, h3, h4⟩ := row_shape h
  unfold RepP
  refine ⟨a, cap, rfl, h1, h2, by rw [← hr.len, h.1], ?_⟩
  rcases h4 with ⟨_, h5⟩ | ⟨g, rfl, h6, h7, h8⟩
  · exact .inl h5
  · exact .inr ⟨g, 0, vs, rfl, hS g (by rw [h6]; simp), h7, hr⟩
theorem row_own {w : World} {base sz n : Nat} {T : TypeId} {v : Value} {vs : List Value} {cs : List D} {fp : List Nat} (h : w.ownsRow base T sz v n vs) (hr : OwnVs w cs vs fp) : OwnV w (.rows sz n cs) v (rowB v ++ fp) := by
  have hl := OwnVs.len _ _ _ hr
  obtain ⟨a, cap, e, h1, h2, h3, h4⟩ := row_shape h
  have hcl : cs.length = n * sz := by rw [← hl, h.1]
  rcases h4 with ⟨h5, h0⟩ | ⟨g, rfl, h6, h7, h8⟩
  · subst h0
    have hcs : cs = [] := List.eq_nil_of_length_eq_zero (by simpa using hcl)
    subst hcs
    unfold OwnVs at hr
    rw [h5, hr.2]
    unfold OwnV
    exact ⟨a, cap, e, h1, h2, hcl, .inl ⟨rfl, rfl⟩⟩
  · rw [h6]
    unfold OwnV
    exact ⟨_, cap, e, h1, h2, hcl, .inr ⟨g, 0, vs, fp, rfl, (h3 g (by rw [h6]; simp)).1, rfl, h8, h7, hr⟩⟩
theorem cells_add {w : World} {g o : Nat} {us : List Value} (h : Cells w g o us) : ∀ j u, us[j]? = some u → w.cell? ((⟨g, o, none⟩ : Addr).add j) = some u := fun j u hj => by
  obtain ⟨hlt, e⟩ := List.getElem?_eq_some_iff.1 hj
  rw [add_addr, h j hlt, e]
/-- An append, run: what comes of it, and where it lies. -/
theorem app_run {P : Program} {w : World} {base n m sz bytes : Nat} {t T : TypeId} {v y : Value} {vs us : List Value} (ht : tRow P t = some (T, sz, bytes)) (h1 : w.ownsRow base T sz v n vs) (ty : TypeId) {a : Option Addr} {c : Nat} (hy : y = .slice a m c)
    (hul : us.length = m * sz) (hc : ∀ b, a = some b → ∀ j u, us[j]? = some u → w.cell? (b.add j) = some u) (hn : a = none → m = 0) (hone : ∀ u ∈ us, u.oneCell' = true) (h63 : n + m ≤ maxLen) (hby : (n + m) * bytes ≤ 140737488355328) (hbase : base ≤ w.heap.size) :
    ∃ v' w', (Builtin.append_ #[t, t] ty #[v, y]).run P w = .ok v' w' ∧ w'.ownsRow base T sz v' (n + m) (vs ++ us) ∧ w.grownBy w' v.ownBlock ∧ ∀ k ∈ rowB v', k ∈ rowB v ∨ k = w.heap.size := by
  obtain ⟨i, z, hu, hi, hz, hsz, hbs, hzs, hpos⟩ := tRow_ok ht
  subst hy
  cases a with
  | none =>
    obtain rfl := hn rfl
    have hus : us = [] := List.eq_nil_of_length_eq_zero (by simpa using hul)
    subst hus
    obtain ⟨a', cap, rfl, h2, h3, h4, h5⟩ := row_shape h1
    refine ⟨_, w, ?_, by simpa using h1, ⟨rfl, rfl, rfl, Nat.le_refl _, fun _ _ _ => rfl⟩, fun k hk => .inl hk⟩
    simp only [Builtin.append_]
    have e1 : (#[t, t] : Array TypeId)[0]? = some t := rfl
    have e2 : (#[t, t] : Array TypeId)[1]? = some t := rfl
    have e3 : (#[Value.slice a' n cap, Value.slice none 0 c] : Array Value)[0]? = some (.slice a' n cap) := rfl
    have e4 : (#[Value.slice a' n cap, Value.slice none 0 c] : Array Value)[1]? = some (.slice none 0 c) := rfl
    simp [Sem.run_bind, und_run hu, sizeOf, typeInfo, program, Sem.run, hi, Sem.run_pure, Builtin.lenOf, Builtin.firstCells, h2, storeCells]
    cases a' <;> simp [Sem.run_bind, Sem.run_pure, storeCells]
  | some ad =>
    have hnews := hc ad rfl
    obtain ⟨v', w', hr, ho, hg, _⟩ := run_append_own (P := P) w base t ty T i z sz bytes hu hi hz hsz hbs hzs hpos v n vs h1 ad m c us hul hnews hone h63 hby hbase
    refine ⟨v', w', hr, ho, hg, ?_⟩
    subst hsz
    subst hbs
    have h63' : n + m ≤ 9223372036854775807 := by simp only [maxLen] at h63; omega
    rcases h1.2 with ⟨rfl, rfl⟩ | ⟨g, cap, cur, rfl, hbg, hgg, hnc, hcm, hcs, htake⟩
    · by_cases hm : m = 0
      · subst hm
        rcases ho.2 with ⟨rfl, _⟩ | ⟨g', cap', cur', rfl, _, hh', hnc', _, _, _⟩
        · simp [rowB]
        · have hus : us = [] := List.eq_nil_of_length_eq_zero (by simpa using hul)
          subst hus
          have hx : vs = [] := List.eq_nil_of_length_eq_zero (by simpa using h1.1)
          subst hx
          simp [Builtin.append_, run_underlying hu, sizeOf, typeInfo, hi, Builtin.lenOf, Builtin.firstCells, loadCells, loadCellsFrom] at hr
      · have h := run_append_nil (P := P) w t ty T i z hu hi hz ad m c us hul hnews (by omega) (by omega) (by have hb := hby; simp only [Nat.zero_add] at hb; omega)
        rw [hr] at h
        injection h with e1 e2
        rw [e1]
        intro k hk
        simp only [rowB, List.mem_singleton] at hk
        exact .inr hk
    · by_cases hroom : n + m ≤ cap
      · have hfit : n * i.size + us.length ≤ cur.size := by rw [hul, hcs, ← Nat.add_mul]; exact Nat.mul_le_mul_right _ hroom
        have h := run_append_room (P := P) w t ty T i hu hi g n cap cur hgg ad m c us hul hnews hone hroom hfit
        rw [hr] at h
        injection h with e1 e2
        rw [e1]
        intro k hk
        exact .inl hk
      · have holds : ∀ j u, vs[j]? = some u → w.cell? ((⟨g, 0, none⟩ : Addr).add j) = some u := h1.cells (g := g) rfl
        have h := run_append_grow (P := P) w t ty T i z hu hi hz ⟨g, 0, none⟩ n cap vs h1.1 holds ad m c us hul hnews (by omega) (by omega) (growslice_fits (by omega) hby)
        rw [hr] at h
        injection h with e1 e2
        rw [e1]
        intro k hk
        simp only [rowB, List.mem_singleton] at hk
        exact .inr hk
end Go.Proofs.Ytaeeipojnfooeaa
