/-
  Structs and rows that are built, on the abstract picture.
-/
import Derived.Test.YtaeeipojnfooeaaAI2
namespace Go.Proofs.Ytaeeipojnfooeaa
open Go.RowKit
set_option linter.unusedVariables false
set_option linter.unusedSimpArgs false

def AV.cells : AV → List AV
  | .ag cs => cs
  | v => [v]
def AV.one : AV → Bool
  | .ag _ | .tu _ | .un => false
  | _ => true
def AV.whole : AV → Bool
  | .ag cs => cs.all AV.one
  | v => v.one
theorem one_ok {base nx : Nat} {G : Gh} {w : World} {owf : Nat → Option OwnI} {v : AV} {u : Value} (h : RV base G w owf nx v u) (h1 : v.one = true) : u.oneCell' = true := by
  cases v <;> simp only [AV.one] at h1 <;> first | (cases h1; done) | skip
  case br d =>
    unfold RV at h
    cases d <;> unfold RepP at h
    · rw [h]; rfl
    · rw [h]; rfl
    · rw [h]; rfl
    · obtain ⟨a, c, e, _⟩ := h; rw [e]; rfl
  all_goals unfold RV at h
  case sl => exact h.2.1
  case sp => exact h.2.1
  case eo => exact h.2.1
  case bx => rw [h.2]; rfl
  case eb =>
    obtain ⟨sz, n, cs, a, o0, len, cap, _, rfl, _⟩ := h
    rfl
  case fn => obtain ⟨us, rfl, _⟩ := h; rfl
  case x => rw [h.1]; exact h.2
  all_goals (rw [h]; rfl)
theorem one_cells {u : Value} (h : u.oneCell' = true) : u.cells = #[u] := by
  cases u <;> first | rfl | cases h

def setRowG {α : Type} (l : List α) (p : Nat) : List α → List α
  | [] => l
  | v :: vs => setRowG (l.set p v) (p + 1) vs
theorem RVs.set {base nx : Nat} {G : Gh} {w : World} {owf : Nat → Option OwnI} {a : AV} {x : Value} (hx : RV base G w owf nx a x) : ∀ (v : List AV) (u : List Value) (i : Nat), RVs base G w owf nx v u → RVs base G w owf nx (v.set i a) (u.set i x)
  | [], u, i, h => by unfold RVs at h; subst h; simp; unfold RVs; rfl
  | c :: v, u, 0, h => by
    unfold RVs at h
    obtain ⟨y, r, rfl, h1, h2⟩ := h
    simp only [List.set_cons_zero]; unfold RVs
    exact ⟨_, _, rfl, hx, h2⟩
  | c :: v, u, i + 1, h => by
    unfold RVs at h
    obtain ⟨y, r, rfl, h1, h2⟩ := h
    simp only [List.set_cons_succ]; unfold RVs
    exact ⟨_, _, rfl, h1, RVs.set hx v r i h2⟩
theorem RVs.setRow {base nx : Nat} {G : Gh} {w : World} {owf : Nat → Option OwnI} : ∀ (b : List AV) (y : List Value) (v : List AV) (u : List Value) (i : Nat), RVs base G w owf nx v u → RVs base G w owf nx b y → RVs base G w owf nx (setRowG v i b) (setRowG u i y)
  | [], y, v, u, i, h, h' => by unfold RVs at h'; subst h'; exact h
  | c :: b, y, v, u, i, h, h' => by
    unfold RVs at h'
    obtain ⟨x, r, rfl, h1, h2⟩ := h'
    exact RVs.setRow b r (v.set i c) (u.set i x) (i + 1) (RVs.set h1 v u i h) h2
theorem setRowG_len {α : Type} : ∀ (b l : List α) (i : Nat), (setRowG l i b).length = l.length
  | [], l, i => rfl
  | c :: b, l, i => by rw [setRowG, setRowG_len b]; simp
theorem foldl_set : ∀ (b : List Value) (n : Nat) (l : List Value) (off : Nat), (b.zipIdx n).foldl (fun (cs : Array Value) (x : Value × Nat) => cs.setIfInBounds (off + x.2) x.1) l.toArray = (setRowG l (off + n) b).toArray
  | [], n, l, off => rfl
  | c :: b, n, l, off => by
    rw [List.zipIdx_cons, List.foldl_cons]
    have : l.toArray.setIfInBounds (off + n) c = (l.set (off + n) c).toArray := by simp
    simp only [this]
    rw [foldl_set b (n + 1) (l.set (off + n) c) off]
    rfl

def xFill (place : Nat → Option (Nat × Nat)) (cells : List AV) : List (Nat × AV) → Option (List AV)
  | [] => some cells
  | (i, v) :: r => match place i with
    | some (off, size) => if v.cells.length = size ∧ off + size ≤ cells.length ∧ v.whole = true then xFill place (setRowG cells off v.cells) r else none
    | none => none
theorem cells_ok {base nx : Nat} {G : Gh} {w : World} {owf : Nat → Option OwnI} {v : AV} {u : Value} (h : RV base G w owf nx v u) (h1 : v.whole = true) : RVs base G w owf nx v.cells u.cells.toList ∧ ∀ x ∈ u.cells, x.oneCell' = true := by
  have key : v.one = true → v.cells = [v] → RVs base G w owf nx v.cells u.cells.toList ∧ ∀ x ∈ u.cells, x.oneCell' = true := fun h2 e => by
    have h3 := one_ok h h2
    rw [e, one_cells h3]
    refine ⟨?_, by simp [h3]⟩
    unfold RVs RVs
    exact ⟨u, [], rfl, h, rfl⟩
  cases v <;> first | (exact key h1 rfl) | skip
  rename_i cs
  unfold RV at h
  obtain ⟨us, rfl, h⟩ := h
  refine ⟨by simpa [AV.cells, Value.cells] using h, fun x hx => ?_⟩
  simp only [Value.cells, List.mem_toArray] at hx
  obtain ⟨i, hi, rfl⟩ := List.mem_iff_getElem.1 hx
  have hi' : i < cs.length := by rw [← RVs.len _ _ h]; exact hi
  obtain ⟨y, hy, h2⟩ := RVs.get cs us i cs[i] h (List.getElem?_eq_getElem hi')
  rw [List.getElem?_eq_getElem hi] at hy
  injection hy with hy
  rw [hy]
  exact one_ok h2 (by simp only [AV.whole, List.all_eq_true] at h1; exact h1 _ (List.getElem_mem hi'))
theorem fill_ok {base nx : Nat} {G : Gh} {w : World} {owf : Nat → Option OwnI} {place : Nat → Option (Nat × Nat)} : ∀ (ps : List (Nat × AV)) (qs : List (Nat × Value)) (cells cs' : List AV) (us : List Value), RVs base G w owf nx cells us →
    (ps.length = qs.length ∧ ∀ (j : Nat) (p : Nat × AV) (q : Nat × Value), ps[j]? = some p → qs[j]? = some q → p.1 = q.1 ∧ RV base G w owf nx p.2 q.2) → xFill place cells ps = some cs' → ∃ us', Instr.fill place us.toArray qs = some us'.toArray ∧ RVs base G w owf nx cs' us'
  | [], [], cells, cs', us, h, _, hf => by
    unfold xFill at hf
    injection hf with hf; subst hf
    exact ⟨us, rfl, h⟩
  | [], q :: qs, cells, cs', us, h, hh, hf => by simp at hh
  | p :: ps, [], cells, cs', us, h, hh, hf => by simp at hh
  | (i, v) :: ps, (j, u) :: qs, cells, cs', us, h, ⟨hl, hh⟩, hf => by
    obtain ⟨e, hv⟩ := hh 0 (i, v) (j, u) rfl rfl
    simp only at e hv
    subst e
    unfold xFill at hf
    unfold Instr.fill
    split at hf
    · rename_i off size hp
      rw [hp]
      simp only
      split at hf
      · rename_i hc
        obtain ⟨h1, h2, h3⟩ := hc
        have hcv := (cells_ok hv h3).1
        have hl1 := RVs.len _ _ hcv
        have hl2 := RVs.len _ _ h
        have hsz : u.cells.size = size := by rw [← h1, ← hl1]; simp
        rw [if_neg (by rw [hsz]; simp; omega)]
        have e3 : (u.cells.zipIdx.foldl (fun cs x => cs.setIfInBounds (off + x.2) x.1) us.toArray) = (setRowG us off u.cells.toList).toArray := by
          rw [← Array.foldl_toList, Array.toList_zipIdx]
          exact foldl_set u.cells.toList 0 us off
        have e4 : (u.cells.zipIdx.foldl (fun cs (x : Value × Nat) => match x with | (c, j) => cs.setIfInBounds (off + j) c) us.toArray) = (setRowG us off u.cells.toList).toArray := e3
        rw [e4]
        exact fill_ok ps qs _ cs' _ (RVs.setRow _ _ _ _ off h hcv) ⟨by simpa using hl, fun (j : Nat) (p : Nat × AV) (q : Nat × Value) hp hq => hh (j + 1) p q (by simpa using hp) (by simpa using hq)⟩ hf
      · cases hf
    · cases hf

/-- Which cells of a type are slices, and of how many cells their elements are. -/
def tPos (P : Program) : Nat → TypeId → List (Option Nat)
  | 0, _ => [none]
  | f + 1, t => match P.underlying t with
    | some (.struct fs) => fs.toList.flatMap fun x => tPos P f x.type
    | some (.slice e) => [(P.info? e).map (·.size)]
    | _ => [none]
def zAV : Option Nat → Value → AV
  | some sz, .slice none 0 0 => .nl sz
  | _, v => cav v
/-- The cells of a type's zero value. -/
def tZero (P : Program) (t : TypeId) : Option (List AV) :=
  match (P.info? t).bind (·.zero) with
  | some z => if (tPos P 8 t).length = z.cells.size then some (List.zipWith zAV (tPos P 8 t) z.cells.toList) else none
  | none => none
theorem zAV_ok {base nx : Nat} {G : Gh} {w : World} {owf : Nat → Option OwnI} (q : Option Nat) (v : Value) : RV base G w owf nx (zAV q v) v := by
  unfold zAV
  split
  · unfold RV; rfl
  · exact cav_ok v
theorem zAVs_ok {base nx : Nat} {G : Gh} {w : World} {owf : Nat → Option OwnI} : ∀ (qs : List (Option Nat)) (vs : List Value), qs.length = vs.length → RVs base G w owf nx (List.zipWith zAV qs vs) vs
  | [], [], _ => by unfold List.zipWith RVs; rfl
  | q :: qs, v :: vs, h => by unfold List.zipWith RVs; exact ⟨v, vs, rfl, zAV_ok q v, zAVs_ok qs vs (by simpa using h)⟩
/-- The places of a struct's fields, and the cells of its zero value. -/
def tBuild (P : Program) (t : TypeId) : Option (List (Nat × Nat) × List AV) :=
  match P.underlying t, tZero P t with
  | some (.struct fs), some z => (fs.toList.mapM fun f => (P.info? f.type).map fun i => (f.offset, i.size)).map fun ps => (ps, z)
  | _, _ => none
theorem tZero_ok {P : Program} {t : TypeId} {zs : List AV} (h : tZero P t = some zs) : ∃ z, (P.info? t).bind (·.zero) = some z ∧ ∀ {base nx : Nat} {G : Gh} {w : World} {owf : Nat → Option OwnI}, RVs base G w owf nx zs z.cells.toList := by
  unfold tZero at h
  split at h
  · rename_i z hz
    split at h
    · rename_i hl
      injection h with h
      subst h
      exact ⟨z, hz, zAVs_ok _ _ (by simpa using hl)⟩
    · cases h
  · cases h
theorem zero_run {P : Program} {t : TypeId} {z : Value} (h : (P.info? t).bind (·.zero) = some z) (w : World) : (zeroValue t).run P w = .ok z w := by
  cases hi : P.info? t with
  | none => rw [hi] at h; cases h
  | some i =>
    rw [hi] at h
    unfold zeroValue typeInfo
    simp only [program, Sem.run_bind, Sem.run, Result.andThen_ok, hi, Sem.run_pure]
    simp only [Option.bind_some] at h
    rw [h]
    simp [Sem.run_pure]
theorem mapM_run {P : Program} {w : World} {α β : Type} (f : α → Sem β) (g : α → Option β) : ∀ (l : List α) (r : List β), (∀ a b, g a = some b → (f a).run P w = .ok b w) → l.mapM g = some r → (l.mapM f).run P w = .ok r w
  | [], r, hf, h => by
    simp at h; subst h
    simp [Sem.run_pure]
  | a :: l, r, hf, h => by
    rw [List.mapM_cons] at h ⊢
    cases ha : g a with
    | none => rw [ha] at h; cases h
    | some b =>
      rw [ha] at h
      cases hl : l.mapM g with
      | none => rw [hl] at h; cases h
      | some rs =>
        rw [hl] at h
        injection h with h
        subst h
        simp only [Sem.run_bind, hf a b ha, Result.andThen_ok, mapM_run f g l rs hf hl, Sem.run_pure]
theorem cavs_ok {base nx : Nat} {G : Gh} {w : World} {owf : Nat → Option OwnI} : ∀ (l : List Value), RVs base G w owf nx (l.map cav) l
  | [] => by simp; unfold RVs; rfl
  | v :: l => by simp only [List.map_cons]; unfold RVs; exact ⟨v, l, rfl, cav_ok v, cavs_ok l⟩
def xBuild (P : Program) (t : TypeId) (ps : List (Nat × AV)) (k : AV → Prop) : Prop :=
  match tBuild P t with
  | some (pl, z) => match xFill (pl[·]?) z ps with
    | some cs => k (.ag cs)
    | none => False
  | none => False
theorem xBuild_ok {P : Program} {base nx : Nat} {G : Gh} {w : World} {owf : Nat → Option OwnI} {t : TypeId} {ps : List (Nat × AV)} {qs : Array (Nat × Value)}
    (hh : ps.length = qs.toList.length ∧ ∀ (j : Nat) (p : Nat × AV) (q : Nat × Value), ps[j]? = some p → qs.toList[j]? = some q → p.1 = q.1 ∧ RV base G w owf nx p.2 q.2) {k : AV → Prop} (hk : xBuild P t ps k) :
    ∃ av v, k av ∧ RV base G w owf nx av v ∧ Yl P w (Instr.build t qs) v := by
  unfold xBuild at hk
  cases ht : tBuild P t with
  | none => rw [ht] at hk; exact hk.elim
  | some q =>
    obtain ⟨pl, z⟩ := q
    rw [ht] at hk
    simp only at hk
    unfold tBuild at ht
    split at ht
    · rename_i fs zs h1 h2'
      cases hm : (fs.toList.mapM fun f => (P.info? f.type).map fun i => (f.offset, i.size)) with
      | none => rw [hm] at ht; cases ht
      | some pls =>
        rw [hm] at ht
        simp only [Option.map_some, Option.some.injEq, Prod.mk.injEq] at ht
        obtain ⟨rfl, rfl⟩ := ht
        cases hx : xFill (pls[·]?) zs ps with
        | none => rw [hx] at hk; exact hk.elim
        | some cs =>
          rw [hx] at hk
          obtain ⟨z', h2, hzr⟩ := tZero_ok h2'
          obtain ⟨us', hf, hr⟩ := fill_ok ps qs.toList _ cs _ hzr hh hx
          refine ⟨_, _, hk, by unfold RV; exact ⟨us', rfl, hr⟩, fun w' _ => ?_⟩
          unfold Instr.build
          simp only [Sem.run_bind, zero_run h2, Result.andThen_ok, und_run h1, Sem.run_pure]
          rw [Array.mapM_eq_mapM_toList]
          have hmr := mapM_run (P := P) (w := w') (fun (f : Field) => (do pure (f.offset, ← sizeOf f.type) : Sem (Nat × Nat))) (fun f => (P.info? f.type).map fun i => (f.offset, i.size)) fs.toList pls (fun f b hb => by
            cases hi : P.info? f.type with
            | none => rw [hi] at hb; cases hb
            | some i =>
              rw [hi] at hb
              injection hb with hb; subst hb
              unfold sizeOf typeInfo
              simp [program, Sem.run_bind, Sem.run, hi, Sem.run_pure]) hm
          simp only [map_eq_pure_bind, Sem.run_bind, hmr, Result.andThen_ok, Sem.run_pure]
          have hpl : (fun (x : Nat) => pls.toArray[x]?) = (fun (x : Nat) => pls[x]?) := by funext x; simp
          have hz : z'.cells.toList.toArray = z'.cells := by simp
          rw [hpl, ← hz, hf]
          simp [Sem.run_pure]
    · cases ht
end Go.Proofs.Ytaeeipojnfooeaa
