/-
  A list under construction: 'out = append(out, x)', the elements' own blocks and the row's.
-/
import Derived.Test.YtepjbiffebbelaaUMark
import Derived.Laws.AppendOwn
namespace Go.Proofs.Ytepjbiffebbelaa
open Go.RowKit
set_option linter.unusedVariables false

def rowB : Value → List Nat
  | .slice (some a) _ _ => [a.block]
  | _ => []
/-- The value is a slice of n elements (of sz cells each) that read as ds; its row and all that they own lie in blocks from lo on, ahead of hi. -/
def Bld (w : World) (lo hi : Nat) (T : TypeId) (sz n : Nat) (ds : List D) (v : Value) : Prop :=
  ∃ vs fp, w.ownsRow lo T sz v n vs ∧ OwnVs w ds vs fp ∧ (rowB v ++ fp).Nodup ∧ ∀ k ∈ rowB v ++ fp, lo ≤ k ∧ k < hi ∧ k < w.heap.size
theorem OwnV.one {w : World} {d : D} {v : Value} {fp : List Nat} (h : OwnV w d v fp) : v.oneCell' = true := by
  cases d
  · unfold OwnV at h; rw [h.1]; rfl
  · unfold OwnV at h; rw [h.1]; rfl
  · unfold OwnV at h; rw [h.1]; rfl
  · unfold OwnV at h; obtain ⟨a, c, e, _⟩ := h; rw [e]; rfl
  · unfold OwnV at h; exact h.1
  · unfold OwnV at h; rw [h.1]; rfl
theorem OwnVs.one {w : World} : ∀ (ds : List D) (vs : List Value) (fp : List Nat), OwnVs w ds vs fp → ∀ v ∈ vs, v.oneCell' = true
  | [], vs, fp, h => by unfold OwnVs at h; rw [h.1]; simp
  | d :: ds, vs, fp, h => by
    unfold OwnVs at h
    obtain ⟨v, r, f1, f2, rfl, rfl, h1, h2⟩ := h
    intro u hu
    rcases List.mem_cons.1 hu with rfl | hu
    · exact h1.one
    · exact OwnVs.one ds r f2 h2 u hu
theorem Bld.nil (w : World) (lo hi : Nat) (T : TypeId) (sz : Nat) : Bld w lo hi T sz 0 [] (.slice none 0 0) :=
  ⟨[], [], ⟨by simp, .inl ⟨rfl, rfl⟩⟩, by unfold OwnVs; exact ⟨rfl, rfl⟩, by simp [rowB], by simp [rowB]⟩
theorem Bld.empty {w : World} {lo hi : Nat} {T : TypeId} (sz : Nat) (h1 : lo ≤ w.heap.size) (h2 : w.heap.size < hi) : Bld (w.alloc (.cells #[] T)) lo hi T sz 0 [] (.slice (some ⟨w.heap.size, 0, none⟩) 0 0) :=
  ⟨[], [], ⟨by simp, .inr ⟨_, 0, #[], rfl, h1, heap_alloc_new _ _, Nat.le_refl _, by unfold maxLen; omega, by simp, by simp⟩⟩, by unfold OwnVs; exact ⟨rfl, rfl⟩, by simp [rowB], by simp [rowB]; omega⟩
theorem Bld.keep {w w' : World} {lo hi : Nat} {T : TypeId} {sz n : Nat} {ds : List D} {v : Value} (h : Bld w lo hi T sz n ds v) (hs : w.heap.size ≤ w'.heap.size) (hb : ∀ k, lo ≤ k → k < hi → k < w.heap.size → w'.heap[k]? = w.heap[k]?) : Bld w' lo hi T sz n ds v := by
  obtain ⟨vs, fp, h1, h2, h3, h4⟩ := h
  refine ⟨vs, fp, ⟨h1.1, ?_⟩, OwnVs.keep hs ds vs fp (fun k hk => ?_) h2, h3, fun k hk => ?_⟩
  · rcases h1.2 with h | ⟨g, cap, cur, rfl, hg, hh, r⟩
    · exact .inl h
    · have := h4 g (by simp [rowB])
      exact .inr ⟨g, cap, cur, rfl, hg, (hb g this.1 this.2.1 this.2.2).trans hh, r⟩
  · have := h4 k (by simp [hk]); exact hb k this.1 this.2.1 this.2.2
  · have := h4 k hk; omega
theorem Bld.step {w w' : World} {lo hi : Nat} {T : TypeId} {sz n : Nat} {ds : List D} {v : Value} (h : Bld w lo hi T sz n ds v) (hb : Below w.heap.size w w') : Bld w' lo hi T sz n ds v :=
  h.keep hb.size fun k _ _ hk => hb.block k hk
theorem Bld.up {w : World} {lo hi lo' hi' : Nat} {T : TypeId} {sz n : Nat} {ds : List D} {v : Value} (h : Bld w lo hi T sz n ds v) (h1 : lo' ≤ lo) (h2 : hi ≤ hi') : Bld w lo' hi' T sz n ds v := by
  obtain ⟨vs, fp, ⟨h3, h4⟩, h5, h6, h7⟩ := h
  refine ⟨vs, fp, ⟨h3, ?_⟩, h5, h6, fun k hk => by have := h7 k hk; omega⟩
  rcases h4 with h | ⟨g, cap, cur, e, hg, r⟩
  · exact .inl h
  · exact .inr ⟨g, cap, cur, e, by omega, r⟩
theorem Bld.shape {w : World} {lo hi : Nat} {T : TypeId} {sz n : Nat} {ds : List D} {v : Value} (h : Bld w lo hi T sz n ds v) : ∃ a c, v = .slice a n c := by
  obtain ⟨vs, fp, ⟨h3, h4⟩, _⟩ := h
  rcases h4 with ⟨rfl, rfl⟩ | ⟨g, cap, cur, e, _⟩
  · exact ⟨none, 0, rfl⟩
  · exact ⟨_, _, e⟩
theorem Bld.fresh {w : World} {lo hi : Nat} {T : TypeId} {sz n : Nat} {ds : List D} {v : Value} (h : Bld w lo hi T sz n ds v) : Fresh w lo (.rows sz n ds) v := by
  obtain ⟨vs, fp, ⟨h3, h4⟩, h5, h6, h7⟩ := h
  have hl := OwnVs.len _ _ _ h5
  rcases h4 with ⟨rfl, rfl⟩ | ⟨g, cap, cur, rfl, hg, hh, hnc, hcm, hcs, ht⟩
  · refine ⟨[], ?_, by simp, by simp⟩
    unfold OwnV
    exact ⟨none, 0, rfl, Nat.le_refl _, Nat.zero_le _, by omega, .inl ⟨rfl, rfl⟩⟩
  · by_cases h0 : n = 0
    · subst h0
      refine ⟨[], ?_, by simp, by simp⟩
      unfold OwnV
      exact ⟨_, cap, rfl, Nat.zero_le _, hcm, by omega, .inl ⟨rfl, rfl⟩⟩
    · refine ⟨g :: fp, ?_, h6, fun k hk => (h7 k hk).1⟩
      unfold OwnV
      refine ⟨_, cap, rfl, hnc, hcm, by omega, .inr ⟨g, 0, vs, fp, rfl, (h7 g (by simp [rowB])).2.2, rfl, fun o => ?_, fun i hi => ?_, h5⟩⟩
      · exact Blk.frozen (w := w) (t := T) (cs := cur) hh o
      · rw [cell_of_row w g _ cur T _ hh]
        have h8 : vs[i]? = some vs[i] := List.getElem?_eq_getElem hi
        have h9 : (List.take (n * sz) cur.toList)[i]? = some vs[i] := by rw [ht]; exact h8
        rw [List.getElem?_take] at h9
        split at h9
        · simpa using h9
        · cases h9

/-- Where an appended row lies: where it lay, or in a new block. -/
theorem app_where {P : Program} {W : World} {lo n sz bytes : Nat} {T : TypeId} {v : Value} {vs : List Value} (h1 : W.ownsRow lo T sz v n vs) (t ty : TypeId) (ht : P.underlying t = some (.slice T)) {i : TypeInfo} {z : Value}
    (hi : P.info? T = some i) (hz0 : i.zero = some z) (hz1 : i.size = sz) (hz2 : i.bytes = bytes) {a : Addr} {us : List Value} (hul : us.length = sz) (hnews : ∀ j u, us[j]? = some u → W.cell? (a.add j) = some u) (hone : ∀ u ∈ us, u.oneCell' = true)
    (h63 : n + 1 ≤ maxLen) (hby : (n + 1) * bytes ≤ 140737488355328) {v' : Value} {w' : World} (hr : (Builtin.append_ #[t, t] ty #[v, .slice (some a) 1 1]).run P W = .ok v' w') :
    ∃ g cap, v' = .slice (some ⟨g, 0, none⟩) (n + 1) cap ∧ (some g = v.ownBlock ∨ g = W.heap.size) := by
  subst hz1
  subst hz2
  have h63' : ((n + 1 : Nat) : Int) ≤ 9223372036854775807 := by simp only [maxLen] at h63; omega
  rcases h1.2 with ⟨rfl, rfl⟩ | ⟨g, cap, cur, rfl, hbg, hg, hnc, hcm, hcs, htake⟩
  · have h := run_append_nil (P := P) W t ty T i z ht hi hz0 a 1 1 us (by omega) hnews (by omega) (by simp) (by omega)
    rw [hr] at h
    injection h with e1 e2
    exact ⟨_, _, by rw [e1], .inr rfl⟩
  · by_cases hroom : n + 1 ≤ cap
    · have h := run_append_room (P := P) W t ty T i ht hi g n cap cur hg a 1 1 us (by omega) hnews hone hroom (by rw [hcs, hul]; have := Nat.mul_le_mul_right i.size hroom; rw [Nat.succ_mul] at this; exact this)
      rw [hr] at h
      injection h with e1 e2
      exact ⟨_, _, e1, .inl rfl⟩
    · have h := run_append_grow (P := P) W t ty T i z ht hi hz0 ⟨g, 0, none⟩ n cap vs h1.1 (h1.cells (g := g) rfl) a 1 1 us (by omega) hnews (by omega) h63' (growslice_fits (by omega) hby)
      rw [hr] at h
      injection h with e1 e2
      exact ⟨_, _, e1, .inr rfl⟩
theorem Bld.app {P : Program} {w : World} {lo hi B : Nat} {T : TypeId} {sz n : Nat} {ds : List D} {v : Value} (h : Bld w lo hi T sz n ds v) {es : List D} {us : List Value} (hf : FreshL w B es us) (hhi : hi ≤ B) (hul : us.length = sz)
    (t ty : TypeId) (ht : P.underlying t = some (.slice T)) {z : Value} {bytes : Nat} (hi' : (P.info? T).map (fun i => (i.zero, i.size, i.bytes)) = some (some z, sz, bytes)) (hzs : z.cells.size = sz) (hsz : 0 < sz)
    (h63 : n + 1 ≤ maxLen) (hby : (n + 1) * bytes ≤ 140737488355328) (hlo : lo ≤ w.heap.size) (hlB : lo ≤ B) (et : TypeId) :
    ∃ v' w', (Builtin.append_ #[t, t] ty #[v, .slice (some ⟨w.heap.size, 0, none⟩) 1 1]).run P (w.alloc (.cells us.toArray et)) = .ok v' w' ∧ Bld w' lo w'.heap.size T sz (n + 1) (ds ++ es) v' ∧ (∃ a c, v' = .slice a (n + 1) c) ∧
      (w.alloc (.cells us.toArray et)).grownBy w' v.ownBlock ∧ w.heap.size < w'.heap.size := by
  obtain ⟨i, hi1, hz0, hz1, hz2⟩ := info_parts hi'
  obtain ⟨vs, fp, h1, h2, h3, h4⟩ := h
  obtain ⟨fq, g1, g2, g3⟩ := hf
  have hal : w.heap.size ≤ (w.alloc (.cells us.toArray et)).heap.size := by simp
  have hk0 : ∀ k, k < w.heap.size → (w.alloc (.cells us.toArray et)).heap[k]? = w.heap[k]? := fun k hk => heap_alloc_old w _ hk
  have h1' : (w.alloc (.cells us.toArray et)).ownsRow lo T sz v n vs := by
    refine ⟨h1.1, ?_⟩
    rcases h1.2 with h | ⟨g, cap, cur, rfl, hg, hh, r⟩
    · exact .inl h
    · exact .inr ⟨g, cap, cur, rfl, hg, (hk0 g (h4 g (by simp [rowB])).2.2).trans hh, r⟩
  have h2' : OwnVs (w.alloc (.cells us.toArray et)) ds vs fp := OwnVs.keep hal ds vs fp (fun k hk => hk0 k (h4 k (by simp [hk])).2.2) h2
  have g1' : OwnVs (w.alloc (.cells us.toArray et)) es us fq := OwnVs.keep hal es us fq (fun k hk => hk0 k (OwnVs.lt _ _ _ g1 k hk)) g1
  have hnews : ∀ j u, us[j]? = some u → (w.alloc (.cells us.toArray et)).cell? ((⟨w.heap.size, 0, none⟩ : Addr).add j) = some u := fun j u hj => by
    have : ((⟨w.heap.size, 0, none⟩ : Addr).add j) = ⟨w.heap.size, j, none⟩ := by unfold Addr.add; split <;> simp_all
    rw [this, cell_of_row _ _ j _ _ _ (heap_alloc_new w _)]; simpa using hj
  obtain ⟨v', w', hr, ho, hgr, -⟩ := run_append_own (P := P) (w.alloc (.cells us.toArray et)) lo t ty T i z sz bytes ht hi1 hz0 hz1 hz2 hzs hsz v n vs h1' ⟨w.heap.size, 0, none⟩ 1 1 us (by omega) hnews
    (OwnVs.one _ _ _ g1) h63 hby (Nat.le_trans hlo hal)
  obtain ⟨gr, capr, hv', hgw⟩ := app_where h1' t ty ht hi1 hz0 hz1 hz2 hul hnews (OwnVs.one _ _ _ g1) h63 hby hr
  have hsz' : w.heap.size < w'.heap.size := by have := hgr.size; simp at this; omega
  -- the inner blocks are as they were: none is the row's
  have hin : ∀ k ∈ fp ++ fq, k < w.heap.size ∧ some k ≠ v.ownBlock := by
    intro k hk
    rcases List.mem_append.1 hk with hk | hk
    · refine ⟨(h4 k (by simp [hk])).2.2, fun e => ?_⟩
      have : k ∈ rowB v := by
        unfold Value.ownBlock at e
        split at e
        · simp at e; subst e; simp [rowB]
        · cases e
      obtain ⟨_, _, hd⟩ := List.nodup_append.1 h3
      exact hd k this k hk rfl
    · refine ⟨OwnVs.lt _ _ _ g1 k hk, fun e => ?_⟩
      have : k ∈ rowB v := by
        unfold Value.ownBlock at e
        split at e
        · simp at e; subst e; simp [rowB]
        · cases e
      have h5 := h4 k (by simp [this])
      have h6 := g3 k hk
      omega
  have hkk : ∀ k ∈ fp ++ fq, w'.heap[k]? = (w.alloc (.cells us.toArray et)).heap[k]? := fun k hk => hgr.block k (by have := (hin k hk).1; omega) (hin k hk).2
  have hO : OwnVs w' (ds ++ es) (vs ++ us) (fp ++ fq) :=
    OwnVs.append _ _ _ _ _ _ (OwnVs.keep hgr.size ds vs fp (fun k hk => hkk k (by simp [hk])) h2') (OwnVs.keep hgr.size es us fq (fun k hk => hkk k (by simp [hk])) g1')
  have hfpq : (fp ++ fq).Nodup := by
    obtain ⟨_, hn, _⟩ := List.nodup_append.1 h3
    refine List.nodup_append.2 ⟨hn, g2, fun a ha b hb e => ?_⟩
    have h5 := h4 a (by simp [ha])
    have h6 := g3 b hb
    omega
  subst hv'
  have hgr2 : gr < w'.heap.size ∧ lo ≤ gr := by
    rcases ho.2 with ⟨e, h0⟩ | ⟨g, cap, cur, e, hg, hh, _⟩
    · omega
    · injection e with e1 e2 e3
      injection e1 with e1
      injection e1 with e1 e2 e3
      subst e1
      exact ⟨Blk.lt (w := w') (t := T) (cs := cur) hh, hg⟩
  refine ⟨_, w', hr, ⟨vs ++ us, fp ++ fq, ho, hO, ?_, ?_⟩, ⟨_, _, rfl⟩, hgr, hsz'⟩
  · simp only [rowB]
    refine List.nodup_append.2 ⟨by simp, hfpq, fun a ha b hb e => ?_⟩
    simp at ha
    subst ha
    subst e
    have h5 := hin _ hb
    rcases hgw with h | h
    · exact h5.2 h
    · simp at h; omega
  · intro k hk
    rcases List.mem_append.1 hk with hk | hk
    · simp [rowB] at hk
      subst hk
      omega
    · have h5 := (hin k hk).1
      have h6 : lo ≤ k := by
        rcases List.mem_append.1 hk with hk | hk
        · exact (h4 k (by simp [hk])).1
        · have := g3 k hk; omega
      omega
theorem Bld.own_ge {w : World} {lo hi : Nat} {T : TypeId} {sz n : Nat} {ds : List D} {v : Value} (h : Bld w lo hi T sz n ds v) (k : Nat) (hk : some k = v.ownBlock) : lo ≤ k ∧ k < hi := by
  obtain ⟨vs, fp, h1, h2, h3, h4⟩ := h
  have : k ∈ rowB v := by
    unfold Value.ownBlock at hk
    split at hk
    · simp at hk; subst hk; simp [rowB]
    · cases hk
  exact ⟨(h4 k (by simp [this])).1, (h4 k (by simp [this])).2.1⟩
theorem Bld.drew {w : World} {lo hi : Nat} {T : TypeId} {sz n : Nat} {ds : List D} {v : Value} (h : Bld w lo hi T sz n ds v) : Bld w.drew lo hi T sz n ds v := h.step (Below.refl _ _).drew
/-- What 'out = append(out, x)' needs of the element's type. -/
structure RowT (P : Program) (t T : TypeId) (sz bytes : Nat) : Prop where
  under : P.underlying t = some (.slice T)
  info : ∃ z, (P.info? T).map (fun i => (i.zero, i.size, i.bytes)) = some (some z, sz, bytes) ∧ z.cells.size = sz
  pos : 0 < sz
/-- The append, as an operation. -/
theorem wp_bld {P : Program} {o : Oper} {a : Act} {w : World} {K : Act → World → Prop} {Q : Exit → Act → World → Prop} {s x : Operand} {t : TypeId}
    (hop : o.op = Op.call { callee := Callee.builtin Builtin.append, args := #[s, x], argTypes := #[t, t] })
    {lo hi B : Nat} {T : TypeId} {sz n bytes : Nat} {ds : List D} {v : Value} (h : Bld w lo hi T sz n ds v) {es : List D} {us : List Value} (hf : FreshL w B es us) (hhi : hi ≤ B) (hul : us.length = sz)
    (R : RowT P t T sz bytes) (h63 : n + 1 ≤ maxLen) (hby : (n + 1) * bytes ≤ 140737488355328) (hlo : lo ≤ w.heap.size) (hlB : lo ≤ B) {et : TypeId}
    (hs : a.eval s = v) (hx : a.eval x = .slice (some ⟨w.heap.size, 0, none⟩) 1 1)
    (hK : ∀ a' c' w', Bld w' lo w'.heap.size T sz (n + 1) (ds ++ es) (.slice a' (n + 1) c') → Chg lo hi w w' → w.heap.size < w'.heap.size → K (a.put o.dst (.slice a' (n + 1) c')) w') :
    Oper.wp P o a (w.alloc (.cells us.toArray et)) K Q := by
  obtain ⟨ht, ⟨z, hz, hzs⟩, hsz⟩ := R
  obtain ⟨v', w', hr, hB, ⟨a', c', rfl⟩, hg, hlt⟩ := h.app hf hhi hul t o.type ht hz hzs hsz h63 hby hlo hlB et
  unfold Oper.wp execOp
  simp only [hop, resolve, invoke, builtin, Sem.run_bind, Sem.run_pure, Result.andThen_ok, List.map_toArray, List.map_cons, List.map_nil, hs, hx, hr]
  exact hK _ _ _ hB ⟨hg.os, hg.tape, hg.output, Nat.le_of_lt hlt, fun k hk hn => (hg.block k (by simp; omega) (fun e => by have := h.own_ge k e; omega)).trans (heap_alloc_old w _ hk)⟩ hlt
theorem step_bld {P : Program} {ops : Array Oper} {o : Oper} {a : Act} {w : World} {K : Act → World → Prop} {Q : Exit → Act → World → Prop} {E : Prop} {s x : Operand} {t : TypeId} (hg : o.guard = none)
    (hop : o.op = Op.call { callee := Callee.builtin Builtin.append, args := #[s, x], argTypes := #[t, t] })
    {lo hi B : Nat} {T : TypeId} {sz n bytes : Nat} {ds : List D} {v : Value} (h : Bld w lo hi T sz n ds v) {es : List D} {us : List Value} (hf : FreshL w B es us) (hhi : hi ≤ B) (hul : us.length = sz)
    (R : RowT P t T sz bytes) (h63 : n + 1 ≤ maxLen) (hby : (n + 1) * bytes ≤ 140737488355328) (hlo : lo ≤ w.heap.size) (hlB : lo ≤ B) {et : TypeId}
    (hs : a.eval s = v) (hx : a.eval x = .slice (some ⟨w.heap.size, 0, none⟩) 1 1)
    (hK : ∀ a' c' w', Bld w' lo w'.heap.size T sz (n + 1) (ds ++ es) (.slice a' (n + 1) c') → Chg lo hi w w' → w.heap.size < w'.heap.size → K (a.put o.dst (.slice a' (n + 1) c')) w') :
    if Region.wanted o (yielded ops a.tmps) = true then Oper.wp P o a (w.alloc (.cells us.toArray et)) K Q else E := by
  rw [if_pos (by simp [Region.wanted, hg])]
  exact wp_bld hop h hf hhi hul R h63 hby hlo hlB hs hx hK
end Go.Proofs.Ytepjbiffebbelaa
