/-
  New rows and appended rows, on the abstract picture.
-/
import Derived.Test.YtaeeipojnfooeaaAI6
namespace Go.Proofs.Ytaeeipojnfooeaa
open Go.RowKit
set_option linter.unusedVariables false
set_option linter.unusedSimpArgs false

/-! ## Cells as data -/
def cD (s : AS) : AV → Option D
  | .i n => some (.int n)
  | .b n => some (.bool n)
  | .s n => some (.str n)
  | .nl sz => some (.rows sz 0 [])
  | .br d => some d
  | .sl o => (s.owf o).map (·.d)
  | _ => none
def cDs (s : AS) : List AV → Option (List D)
  | [] => some []
  | a :: r => match cD s a, cDs s r with
    | some d, some ds => some (d :: ds)
    | _, _ => none
def eatsOf : List AV → List Nat
  | [] => []
  | .sl o :: r => o :: eatsOf r
  | _ :: r => eatsOf r
def dpOf (s : AS) : AV → Bool
  | .br _ => false
  | .sl o => match s.owf o with | some I => I.deep | none => false
  | _ => true
theorem oneOf {base nx : Nat} {G : Gh} {w : World} {owf : Nat → Option OwnI} {s : AS} {a : AV} {u : Value} {d : D} (h : RV base G w owf nx a u) (hd : cD s a = some d) : u.oneCell' = true := by
  refine one_ok h ?_
  cases a <;> simp only [cD] at hd <;> first | rfl | cases hd
theorem cells_rep {w0 : World0} {G : Gh} {s : AS} {a : Act} {w : World} (h : Rel w0 G s a w) : ∀ (cs : List AV) (us : List Value) (ds : List D), RVs w0.heap.size G w s.owf s.nx cs us → cDs s cs = some ds →
    RepPs w (fun k => k < w0.heap.size ∨ k ∈ (eatsOf cs).flatMap G.B) ds us ∧ (∀ u ∈ us, u.oneCell' = true) ∧ (∀ o ∈ eatsOf cs, ∃ I, s.owf o = some I) ∧ ds.length = cs.length
  | [], us, ds, hr, hd => by
    unfold RVs at hr; subst hr
    unfold cDs at hd; injection hd with hd; subst hd
    exact ⟨by unfold RepPs; rfl, by simp, by simp [eatsOf], rfl⟩
  | c :: cs, us, ds, hr, hd => by
    unfold RVs at hr
    obtain ⟨u, r, rfl, h1, h2⟩ := hr
    unfold cDs at hd
    split at hd
    · rename_i d ds' e1 e2
      injection hd with hd; subst hd
      obtain ⟨h3, h4, h5, h6⟩ := cells_rep h cs r ds' h2 e2
      have hsub : ∀ k, (k < w0.heap.size ∨ k ∈ (eatsOf cs).flatMap G.B) → (k < w0.heap.size ∨ k ∈ (eatsOf (c :: cs)).flatMap G.B) := fun k hk => hk.imp id fun hk => by
        cases c <;> first | exact hk | (simp only [eatsOf, List.flatMap_cons, List.mem_append]; exact .inr hk)
      refine ⟨?_, fun x hx => ?_, fun o ho => ?_, by simp [h6]⟩
      · unfold RepPs
        refine ⟨u, r, rfl, ?_, RepPs.mono hsub (fun _ _ => rfl) _ _ h3⟩
        cases c <;> simp only [cD] at e1 <;> first | (cases e1; done) | skip
        case i => injection e1 with e1; subst e1; unfold RV at h1; unfold RepP; exact h1
        case b => injection e1 with e1; subst e1; unfold RV at h1; unfold RepP; exact h1
        case s => injection e1 with e1; subst e1; unfold RV at h1; unfold RepP; exact h1
        case nl => injection e1 with e1; subst e1; unfold RV at h1; subst h1; unfold RepP; exact ⟨none, 0, rfl, by simp, by simp, by simp, .inl rfl⟩
        case br => injection e1 with e1; subst e1; unfold RV at h1; exact RepP.mono (fun _ hk => .inl hk) (fun _ _ => rfl) _ _ h1
        case sl o =>
          cases hI : s.owf o with
          | none => rw [hI] at e1; cases e1
          | some I =>
            rw [hI] at e1
            injection e1 with e1; subst e1
            unfold RV at h1
            rw [h1.2.2 I hI]
            exact RepP.mono (fun k hk => hk.imp id fun hk => by simp only [eatsOf, List.flatMap_cons, List.mem_append]; exact .inl hk) (fun _ _ => rfl) _ _ (h.own o I hI).2.1.2.1
      · rcases List.mem_cons.1 hx with rfl | hx
        · exact oneOf h1 e1
        · exact h4 x hx
      · cases c <;> simp only [eatsOf] at ho <;> first | exact h5 o ho | skip
        rename_i o'
        rcases List.mem_cons.1 ho with rfl | ho
        · simp only [cD] at e1
          cases hI : s.owf o with
          | none => rw [hI] at e1; cases e1
          | some I => exact ⟨I, rfl⟩
        · exact h5 o ho
    · cases hd
theorem cells_own {w0 : World0} {G : Gh} {s : AS} {a : Act} {w : World} (h : Rel w0 G s a w) : ∀ (cs : List AV) (us : List Value) (ds : List D), RVs w0.heap.size G w s.owf s.nx cs us → cDs s cs = some ds → (eatsOf cs).Nodup → cs.all (dpOf s) = true →
    OwnVs w ds us ((eatsOf cs).flatMap G.B) ∧ ((eatsOf cs).flatMap G.B).Nodup
  | [], us, ds, hr, hd, _, _ => by
    unfold RVs at hr; subst hr
    unfold cDs at hd; injection hd with hd; subst hd
    exact ⟨by unfold OwnVs; exact ⟨rfl, rfl⟩, by simp [eatsOf]⟩
  | c :: cs, us, ds, hr, hd, hn, hdp => by
    unfold RVs at hr
    obtain ⟨u, r, rfl, h1, h2⟩ := hr
    unfold cDs at hd
    split at hd
    · rename_i d ds' e1 e2
      injection hd with hd; subst hd
      simp only [List.all_cons, Bool.and_eq_true] at hdp
      have easy : eatsOf (c :: cs) = eatsOf cs → OwnV w d u [] → OwnVs w (d :: ds') (u :: r) ((eatsOf (c :: cs)).flatMap G.B) ∧ ((eatsOf (c :: cs)).flatMap G.B).Nodup := fun e ho => by
        rw [e] at hn ⊢
        obtain ⟨h3, h4⟩ := cells_own h cs r ds' h2 e2 hn hdp.2
        refine ⟨?_, h4⟩
        unfold OwnVs
        exact ⟨u, r, [], _, rfl, rfl, ho, h3⟩
      cases c <;> simp only [cD] at e1 <;> first | (cases e1; done) | skip
      case i => injection e1 with e1; subst e1; unfold RV at h1; exact easy rfl (by unfold OwnV; exact ⟨h1, rfl⟩)
      case b => injection e1 with e1; subst e1; unfold RV at h1; exact easy rfl (by unfold OwnV; exact ⟨h1, rfl⟩)
      case s => injection e1 with e1; subst e1; unfold RV at h1; exact easy rfl (by unfold OwnV; exact ⟨h1, rfl⟩)
      case nl => injection e1 with e1; subst e1; unfold RV at h1; exact easy rfl (by unfold OwnV; subst h1; exact ⟨none, 0, rfl, by simp, by simp, by simp, .inl ⟨rfl, rfl⟩⟩)
      case br => simp [dpOf] at hdp
      case sl o =>
        cases hI : s.owf o with
        | none => rw [hI] at e1; cases e1
        | some I =>
          rw [hI] at e1
          injection e1 with e1; subst e1
          unfold RV at h1
          simp only [eatsOf] at hn ⊢
          obtain ⟨n1, n2⟩ := List.nodup_cons.1 hn
          obtain ⟨h3, h4⟩ := cells_own h cs r ds' h2 e2 n2 hdp.2
          have hdeep : I.deep = true := by have := hdp.1; simpa [dpOf, hI] using this
          obtain ⟨_, ⟨_, _, hown, _⟩, _⟩ := h.own o I hI
          obtain ⟨h5, h6⟩ := hown hdeep
          obtain ⟨_, _, hlive, _⟩ := cells_rep h cs r ds' h2 e2
          refine ⟨?_, ?_⟩
          · rw [List.flatMap_cons]
            unfold OwnVs
            exact ⟨u, r, _, _, rfl, rfl, by rw [h1.2.2 I hI]; exact h5, h3⟩
          · rw [List.flatMap_cons]
            refine List.nodup_append.2 ⟨h6, h4, fun x hx y hy e => ?_⟩
            subst e
            obtain ⟨o', ho', hxo⟩ := List.mem_flatMap.1 hy
            obtain ⟨I', hI'⟩ := hlive o' ho'
            exact h.dis o o' I I' hI hI' (fun e => n1 (e ▸ ho')) x hx hxo
    · cases hd
def xRow (P : Program) (s : AS) (t : TypeId) (n : Nat) (ps : List (Nat × AV)) (K : AV → AS → Prop) : Prop :=
  match tElem P t with
  | some (e, sz) => match xFill (fun i => some (i * sz, sz)) (List.replicate (n * sz) .un) ps with
    | some cs => match cDs s cs with
      | some ds => (n ≤ 1000000 ∧ n * sz ≤ 16777216 ∧ (n = 0 ∨ (tZero P e).isSome = true) ∧ (eatsOf cs).Nodup) ∧ K (.sl s.nx) (s.mk' (eatsOf cs) ⟨.rows sz n ds, some e, cs.all (dpOf s)⟩)
      | none => False
    | none => False
  | none => False
theorem replicate_un {base nx : Nat} {G : Gh} {w : World} {owf : Nat → Option OwnI} : ∀ (n : Nat) (us : List Value), us.length = n → RVs base G w owf nx (List.replicate n .un) us
  | 0, us, h => by unfold List.replicate RVs; exact List.eq_nil_of_length_eq_zero h
  | n + 1, u :: us, h => by
    rw [List.replicate_succ]; unfold RVs
    exact ⟨u, us, rfl, by unfold RV; trivial, replicate_un n us (by simpa using h)⟩
theorem xFill_len {place : Nat → Option (Nat × Nat)} : ∀ (ps : List (Nat × AV)) (cells cs : List AV), xFill place cells ps = some cs → cs.length = cells.length
  | [], cells, cs, h => by unfold xFill at h; injection h with h; rw [h]
  | (i, v) :: ps, cells, cs, h => by
    unfold xFill at h
    split at h
    · split at h
      · rw [xFill_len ps _ cs h, setRowG_len]
      · cases h
    · cases h
theorem xRow_ok {P : Program} {w0 : World0} {G : Gh} {s : AS} {a : Act} {w : World} (h : Rel w0 G s a w) {t : TypeId} {n : Nat} {ps : List (Nat × AV)} {qs : Array (Nat × Value)}
    (hh : ps.length = qs.toList.length ∧ ∀ (j : Nat) (p : Nat × AV) (q : Nat × Value), ps[j]? = some p → qs.toList[j]? = some q → p.1 = q.1 ∧ RV w0.heap.size G w s.owf s.nx p.2 q.2) {K : AV → AS → Prop} (hk : xRow P s t n ps K) :
    ∃ av v s' G' w', K av s' ∧ (Instr.buildSlice t n qs).run P w = .ok v w' ∧ Below w.heap.size w w' ∧ Rel w0 G' s' a w' ∧ RV w0.heap.size G' w' s'.owf s'.nx av v := by
  unfold xRow at hk
  split at hk
  · rename_i e sz ht
    split at hk
    · rename_i cs hf
      split at hk
      · rename_i ds hd
        obtain ⟨⟨hn1, hn2, hz, hnd⟩, hk⟩ := hk
        unfold tElem at ht
        split at ht
        · rename_i e' hu
          cases hi : P.info? e' with
          | none => rw [hi] at ht; cases ht
          | some i =>
            rw [hi] at ht
            simp only [Option.map_some, Option.some.injEq, Prod.mk.injEq] at ht
            obtain ⟨rfl, rfl⟩ := ht
            -- the cells before they are filled
            have hz' : ∃ zc : Array Value, (n * i.size = 0 ∧ zc = #[]) ∨ (n * i.size ≠ 0 ∧ ∃ z, (zeroValue e').run P w = .ok z w ∧ zc = z.cells) := by
              by_cases h0 : n * i.size = 0
              · exact ⟨#[], .inl ⟨h0, rfl⟩⟩
              · have hn0 : n ≠ 0 := fun e => h0 (by rw [e, Nat.zero_mul])
                obtain ⟨zs, hzs⟩ := Option.isSome_iff_exists.1 (hz.resolve_left hn0)
                obtain ⟨z, hz1, _⟩ := tZero_ok hzs
                exact ⟨z.cells, .inr ⟨h0, z, zero_run hz1 w, rfl⟩⟩
            obtain ⟨zc, hzc⟩ := hz'
            have hlen0 : ((Array.range (n * i.size)).map (zc[· % zc.size]!)).toList.length = n * i.size := by simp
            obtain ⟨us', hf', hr⟩ := fill_ok ps qs.toList _ cs _ (replicate_un (base := w0.heap.size) (nx := s.nx) (G := G) (w := w) (owf := s.owf) _ _ hlen0) hh hf
            have hul : us'.length = n * i.size := by rw [RVs.len _ _ hr, xFill_len _ _ _ hf]; simp
            obtain ⟨hrep, hone, hlive, hdl⟩ := cells_rep h cs us' ds hr hd
            have hbs := h.bel.size
            have hBlt : ∀ k ∈ (eatsOf cs).flatMap G.B, (w0.heap.size ≤ k ∨ w0.mv k) ∧ k < w.heap.size := fun k hk => by
              obtain ⟨o, ho, hko⟩ := List.mem_flatMap.1 hk
              obtain ⟨I, hI⟩ := hlive o ho
              exact (h.own o I hI).2.1.1 k hko
            have hkk : ∀ k, k < w.heap.size → (w.alloc (.cells us'.toArray e')).heap[k]? = w.heap[k]? := fun k hk => heap_alloc_old w _ hk
            have hblk := Blk.new w e' us'.toArray
            have hcells : Cells (w.alloc (.cells us'.toArray e')) w.heap.size 0 us' := hblk.cells
            have hnm : n ≤ maxLen := by unfold maxLen; omega
            have hds : ds.length = n * i.size := by rw [hdl, ← RVs.len _ _ hr, hul]
            have hrep' : RepPs (w.alloc (.cells us'.toArray e')) (fun k => k < w0.heap.size ∨ k ∈ (eatsOf cs).flatMap G.B) ds us' := RepPs.mono (fun _ hk => hk) (fun k hk => hkk k (hk.elim (fun h => by omega) (fun h => (hBlt k h).2))) _ _ hrep
            have hbel : Below w.heap.size w (w.alloc (.cells us'.toArray e')) := (Below.refl _ _).alloc (Nat.le_refl _) _
            have hR : Res w0.heap.size w0.mv (w.alloc (.cells us'.toArray e')) (w.heap.size :: (eatsOf cs).flatMap G.B) (.slice (some ⟨w.heap.size, 0, none⟩) n n) ⟨.rows i.size n ds, some e', cs.all (dpOf s)⟩ := by
              have hdeep : cs.all (dpOf s) = true → OwnVs (w.alloc (.cells us'.toArray e')) ds us' ((eatsOf cs).flatMap G.B) ∧ ((eatsOf cs).flatMap G.B).Nodup := fun hdp => by
                obtain ⟨h5, h6⟩ := cells_own h cs us' ds hr hd hnd hdp
                exact ⟨OwnVs.keep (by simp) _ _ _ (fun k hk => hkk k (hBlt k hk).2) h5, h6⟩
              refine ⟨fun k hk => ?_, ?_, fun hdp => ?_, fun T hT => ?_⟩
              · rcases List.mem_cons.1 hk with rfl | hk
                · exact ⟨.inl hbs, by simp⟩
                · have := hBlt k hk; exact ⟨this.1, by simp; omega⟩
              · unfold RepP
                exact ⟨_, _, rfl, Nat.le_refl _, hnm, hds, .inr ⟨w.heap.size, 0, us', rfl, .inr (by simp), hcells, RepPs.mono (fun k hk => hk.imp id fun hk => by simp [hk]) (fun _ _ => rfl) _ _ hrep'⟩⟩
              · obtain ⟨h5, h6⟩ := hdeep hdp
                refine ⟨?_, List.nodup_cons.2 ⟨fun hk => absurd (hBlt _ hk).2 (by omega), h6⟩⟩
                unfold OwnV
                exact ⟨_, _, rfl, Nat.le_refl _, hnm, hds, .inr ⟨w.heap.size, 0, us', _, rfl, by simp, rfl, hblk.frozen, hcells, h5⟩⟩
              · injection hT with hT; subst hT
                have hnot : ∀ k, k ∈ (eatsOf cs).flatMap G.B → k ∉ rowB (.slice (some ⟨w.heap.size, 0, none⟩) n n) := fun k hk1 hk2 => by
                  simp only [rowB, List.mem_singleton] at hk2
                  have := (hBlt k hk1).2
                  omega
                refine ⟨i.size, n, ds, us', rfl, ⟨hul, .inr ⟨w.heap.size, n, us'.toArray, rfl, hbs, hblk, Nat.le_refl _, hnm, by simp [hul], by simp [← hul]⟩⟩, RepPs.mono (fun k hk1 => hk1.imp id fun hk2 => ⟨List.mem_cons_of_mem _ hk2, hnot k hk2⟩) (fun _ _ => rfl) _ _ hrep', by simp [rowB], hone, fun hdp => ?_⟩
                obtain ⟨h5, h6⟩ := hdeep hdp
                exact ⟨_, h5, h6, fun k hk1 => ⟨List.mem_cons_of_mem _ hk1, hnot k hk1⟩⟩
            have hbx : ∀ b cs', look s.bx b = some cs' → G.β b ∉ w.heap.size :: (eatsOf cs).flatMap G.B := fun b cs' hl hkb => by
              obtain ⟨_, _, _, _, h3, _⟩ := h.bx b cs' hl
              rcases List.mem_cons.1 hkb with e | hkb
              · have := h3.lt; omega
              · obtain ⟨o, ho, hko⟩ := List.mem_flatMap.1 hkb
                obtain ⟨I, hI⟩ := hlive o ho
                exact (h.own o I hI).2.2 b cs' hl hko
            have hdis : ∀ o I, s.owf o = some I → o ∉ eatsOf cs → ∀ k ∈ G.B o, k ∉ w.heap.size :: (eatsOf cs).flatMap G.B := fun o I ho hno k hk hkb => by
              rcases List.mem_cons.1 hkb with e | hkb
              · have := ((h.own o I ho).2.1.1 k hk).2; omega
              · obtain ⟨o', ho', hko⟩ := List.mem_flatMap.1 hkb
                obtain ⟨I', hI'⟩ := hlive o' ho'
                exact h.dis o o' I I' ho hI' (fun e => hno (e ▸ ho')) k hk hko
            obtain ⟨h7, h8⟩ := h.own' (w' := w.alloc (.cells us'.toArray e')) (eats := eatsOf cs) (h.bel.trans (hbel.mono hbs)) hbel.size (fun k hk _ => hkk k hk) hR rfl hbx hdis
            refine ⟨_, _, _, _, _, hk, ?_, hbel, h7, h8⟩
            unfold Instr.buildSlice newRow
            have hlim : ¬ (n * i.size > 2 ^ 24) := by omega
            have e5 : ((Array.range (n * i.size)).map (zc[· % zc.size]!)).toList.toArray = (Array.range (n * i.size)).map (zc[· % zc.size]!) := rfl
            rw [e5] at hf'
            rcases hzc with ⟨h0, rfl⟩ | ⟨h0, z, hzr, rfl⟩
            · simp only [Sem.run_bind, und_run hu, Result.andThen_ok, sizeOf, typeInfo, program, Sem.run, hi, Sem.run_pure, if_neg hlim, if_pos h0, hf']
              rfl
            · simp only [Sem.run_bind, und_run hu, Result.andThen_ok, sizeOf, typeInfo, program, Sem.run, hi, Sem.run_pure, if_neg hlim, if_neg h0, hzr, hf']
              rfl
        · cases ht
      · exact hk.elim
    · exact hk.elim
  · exact hk.elim
end Go.Proofs.Ytaeeipojnfooeaa
