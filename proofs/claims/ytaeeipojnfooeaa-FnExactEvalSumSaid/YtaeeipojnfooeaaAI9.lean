/-
  Appends and stores, on the abstract picture.
-/
import Derived.Test.YtaeeipojnfooeaaAI8
namespace Go.Proofs.Ytaeeipojnfooeaa
open Go.RowKit
set_option linter.unusedVariables false
set_option linter.unusedSimpArgs false

def D.prim : D → Bool
  | .rows _ _ _ => false
  | _ => true
/-- The row that is appended to: what goes into the new one, and what it holds. -/
def appL (s : AS) (T : TypeId) (sz : Nat) : AV → Option (List Nat × Nat × List D × Bool)
  | .nl _ => some ([], 0, [], true)
  | .sl o => match s.owf o with
    | some ⟨.rows sz' n cs, some T', dp⟩ => if sz' = sz ∧ T' = T then some ([o], n, cs, dp) else none
    | _ => none
  | _ => none
/-- What is appended: one's own row is used up; other rows are copied. -/
def appR (s : AS) (sz : Nat) : AV → Option (List Nat × Nat × List D × Bool)
  | .sl p => match s.owf p with
    | some ⟨.rows sz' m ds, some _, dp⟩ => if sz' = sz then some ([p], m, ds, dp) else none
    | some ⟨.rows sz' m ds, none, dp⟩ => if sz' = sz then some ([], m, ds, true) else none
    | _ => none
  | .nl _ => some ([], 0, [], true)
  | .br (.rows sz' m ds) => if sz' = sz then some ([], m, ds, true) else none
  | .sp o (.rows sz' m ds) => match s.owf o with
    | some _ => if sz' = sz then some ([], m, ds, true) else none
    | none => none
  | _ => none
def xApp (P : Program) (s : AS) (t : TypeId) (x y : AV) (K : AV → AS → Prop) : Prop :=
  match tRow P t with
  | some (T, sz, bytes) => match appL s T sz x, appR s sz y with
    | some (e1, n, cs, dp), some (e2, m, ds, dp') => (e2 = [] → ∀ d ∈ ds, d.prim = true) ∧ (∀ o ∈ e1, o ∉ e2) ∧ (n + m ≤ maxLen ∧ (n + m) * bytes ≤ 140737488355328) ∧ K (.sl s.nx) (s.mk' (e1 ++ e2) ⟨.rows sz (n + m) (cs ++ ds), some T, dp && dp'⟩)
    | _, _ => False
  | none => False
/-- What an appending knows of one side. -/
structure Side (w0 : World0) (G : Gh) (s : AS) (w : World) (e : List Nat) (v : Value) (n sz : Nat) (cs : List D) (vs : List Value) (dp : Bool) (F : List Nat) : Prop where
  rep : RepPs w (fun k => k < w0.heap.size ∨ k ∈ F) cs vs
  one : ∀ u ∈ vs, u.oneCell' = true
  len : vs.length = n * sz
  sub : ∀ k ∈ F, (∃ o ∈ e, k ∈ G.B o) ∧ k ∉ rowB v
  row : e ≠ [] → ∀ k ∈ rowB v, ∃ o ∈ e, k ∈ G.B o
  own : dp = true → OwnVs w cs vs F ∧ F.Nodup
theorem appL_ok {w0 : World0} {G : Gh} {s : AS} {a : Act} {w : World} (h : Rel w0 G s a w) {T : TypeId} {sz : Nat} {x : AV} {u : Value} (hx : RV w0.heap.size G w s.owf s.nx x u) {e : List Nat} {n : Nat} {cs : List D} {dp : Bool} (hl : appL s T sz x = some (e, n, cs, dp)) :
    ∃ vs F, w.ownsRow w0.heap.size T sz u n vs ∧ Side w0 G s w e u n sz cs vs dp F ∧ (∀ o ∈ e, ∃ I, s.owf o = some I) ∧ (e = [] → rowB u = []) ∧ cs.length = n * sz := by
  cases x <;> simp only [appL] at hl <;> first | (cases hl; done) | skip
  case nl q =>
    simp only [Option.some.injEq, Prod.mk.injEq] at hl
    obtain ⟨rfl, rfl, rfl, rfl⟩ := hl
    unfold RV at hx; subst hx
    exact ⟨[], [], World.ownsRow_nil w _ _ _, ⟨by unfold RepPs; rfl, by simp, by simp, by simp, by simp, fun _ => ⟨by unfold OwnVs; exact ⟨rfl, rfl⟩, by simp⟩⟩, by simp, fun _ => rfl, by simp⟩
  case sl o =>
    split at hl
    · rename_i sz' n' cs' T' dp'' hI
      split at hl
      · rename_i hc
        obtain ⟨rfl, rfl⟩ := hc
        simp only [Option.some.injEq, Prod.mk.injEq] at hl
        obtain ⟨rfl, rfl, rfl, rfl⟩ := hl
        unfold RV at hx
        obtain ⟨_, ⟨hB, _, _, hap⟩, _⟩ := h.own o _ hI
        obtain ⟨sz2, n2, cs2, vs, e1, h1, h2, h3, h4, h5⟩ := hap _ rfl
        simp only [D.rows.injEq] at e1
        obtain ⟨rfl, rfl, rfl⟩ := e1
        rw [hx.2.2 _ hI]
        have hcl : cs'.length = n' * sz' := by rw [← h2.len, h1.1]
        cases dp'' with
        | false =>
          refine ⟨vs, (G.B o).filter (fun k => !decide (k ∈ rowB (G.root o))), h1, ⟨RepPs.mono (fun k hk => hk.imp id fun hk => by simp [hk.1, hk.2]) (fun _ _ => rfl) _ _ h2, h4, h1.1, fun k hk => ?_, fun _ k hk => ⟨o, by simp, h3 k hk⟩, fun hd => by cases hd⟩, fun o' ho' => ?_, by simp, hcl⟩
          · simp only [List.mem_filter, Bool.not_eq_true', decide_eq_false_iff_not] at hk
            exact ⟨⟨o, by simp, hk.1⟩, hk.2⟩
          · simp only [List.mem_singleton] at ho'; subst ho'; exact ⟨_, hI⟩
        | true =>
          obtain ⟨fp, h6, h7, h8⟩ := h5 rfl
          refine ⟨vs, fp, h1, ⟨OwnVs.p _ _ _ h6 (fun k hk => .inr hk), h4, h1.1, fun k hk => ⟨⟨o, by simp, (h8 k hk).1⟩, (h8 k hk).2⟩, fun _ k hk => ⟨o, by simp, h3 k hk⟩, fun _ => ⟨h6, h7⟩⟩, fun o' ho' => ?_, by simp, hcl⟩
          simp only [List.mem_singleton] at ho'; subst ho'; exact ⟨_, hI⟩
      · cases hl
    · cases hl
theorem prim_own {w : World} {S : Nat → Prop} : ∀ {ds : List D} {vs : List Value}, RepPs w S ds vs → (∀ d ∈ ds, d.prim = true) → OwnVs w ds vs [] ∧ ∀ u ∈ vs, u.oneCell' = true
  | [], vs, h, _ => by unfold RepPs at h; subst h; exact ⟨by unfold OwnVs; exact ⟨rfl, rfl⟩, by simp⟩
  | d :: ds, vs, h, hp => by
    unfold RepPs at h
    obtain ⟨v, r, rfl, h1, h2⟩ := h
    obtain ⟨h3, h4⟩ := prim_own h2 (fun d' hd => hp d' (by simp [hd]))
    have hd := hp d (by simp)
    have key : OwnV w d v [] ∧ v.oneCell' = true := by
      cases d <;> simp only [D.prim] at hd <;> first | (cases hd; done) | skip
      all_goals (unfold RepP at h1; subst h1; exact ⟨by unfold OwnV; exact ⟨rfl, rfl⟩, rfl⟩)
    refine ⟨by unfold OwnVs; exact ⟨v, r, [], [], rfl, rfl, key.1, h3⟩, fun u hu => ?_⟩
    rcases List.mem_cons.1 hu with rfl | hu
    · exact key.2
    · exact h4 u hu
theorem appR_ok {w0 : World0} {G : Gh} {s : AS} {a : Act} {w : World} (h : Rel w0 G s a w) {sz : Nat} {x : AV} {u : Value} (hx : RV w0.heap.size G w s.owf s.nx x u) {e : List Nat} {m : Nat} {ds : List D} {dp : Bool} (hl : appR s sz x = some (e, m, ds, dp))
    (hp : e = [] → ∀ d ∈ ds, d.prim = true) :
    ∃ a' c us F, u = .slice a' m c ∧ (∀ b, a' = some b → ∀ j z, us[j]? = some z → w.cell? (b.add j) = some z) ∧ (a' = none → m = 0) ∧ Side w0 G s w e u m sz ds us dp F ∧ (∀ o ∈ e, ∃ I, s.owf o = some I) ∧ ds.length = m * sz := by
  have copy : ∀ {S : Nat → Prop}, RepP w S (.rows sz m ds) u → e = [] → dp = true →
      ∃ a' c us F, u = .slice a' m c ∧ (∀ b, a' = some b → ∀ j z, us[j]? = some z → w.cell? (b.add j) = some z) ∧ (a' = none → m = 0) ∧ Side w0 G s w e u m sz ds us dp F ∧ (∀ o ∈ e, ∃ I, s.owf o = some I) ∧ ds.length = m * sz := by
    intro S hr he hd
    subst he
    obtain ⟨a', c, rfl, h1, h2, h3⟩ := hr.shape
    by_cases hm : m = 0
    · subst hm
      have hds : ds = [] := List.eq_nil_of_length_eq_zero (by simpa using h3)
      subst hds
      exact ⟨a', c, [], [], rfl, by simp, fun _ => rfl, ⟨by unfold RepPs; rfl, by simp, by simp, by simp, by simp, fun _ => ⟨by unfold OwnVs; exact ⟨rfl, rfl⟩, by simp⟩⟩, by simp, by simp⟩
    · obtain ⟨b, off, vs, rfl, hS, hc, hrs, hvl, _⟩ := hr.cell (k := 0) (by omega)
      obtain ⟨h4, h5⟩ := prim_own hrs (hp rfl)
      refine ⟨_, c, vs, [], rfl, fun b' hb' => ?_, by simp, ⟨OwnVs.p _ _ _ h4 (by simp), h5, hvl, by simp, by simp, fun _ => ⟨h4, by simp⟩⟩, by simp, h3⟩
      injection hb' with hb'
      subst hb'
      exact cells_add hc
  cases x <;> simp only [appR] at hl <;> first | (cases hl; done) | skip
  case nl q =>
    simp only [Option.some.injEq, Prod.mk.injEq] at hl
    obtain ⟨rfl, rfl, rfl, rfl⟩ := hl
    unfold RV at hx; subst hx
    refine copy (S := fun _ => True) ?_ rfl rfl
    unfold RepP
    exact ⟨none, 0, rfl, by simp, by simp, by simp, .inl rfl⟩
  case br d =>
    cases d <;> simp only at hl <;> first | (cases hl; done) | skip
    split at hl
    · rename_i hc
      subst hc
      simp only [Option.some.injEq, Prod.mk.injEq] at hl
      obtain ⟨rfl, rfl, rfl, rfl⟩ := hl
      unfold RV at hx
      exact copy hx rfl rfl
    · cases hl
  case sp o d =>
    cases d <;> simp only at hl <;> first | (cases hl; done) | skip
    split at hl
    · rename_i I hI
      split at hl
      · rename_i hc
        subst hc
        simp only [Option.some.injEq, Prod.mk.injEq] at hl
        obtain ⟨rfl, rfl, rfl, rfl⟩ := hl
        unfold RV at hx
        exact copy (hx.2.2 _ hI) rfl rfl
      · cases hl
    · cases hl
  case sl p =>
    split at hl
    · rename_i sz' m' ds' T' dp' hI
      split at hl
      · rename_i hc
        subst hc
        simp only [Option.some.injEq, Prod.mk.injEq] at hl
        obtain ⟨rfl, rfl, rfl, rfl⟩ := hl
        obtain ⟨vs, F, h1, h2, h3, h4, h5⟩ := appL_ok h hx (T := T') (sz := sz') (e := [p]) (n := m') (cs := ds') (dp := dp') (by simp only [appL, hI]; simp)
        obtain ⟨a', cap, rfl, h6, h7, h8, h9⟩ := row_shape h1
        refine ⟨a', cap, vs, F, rfl, fun b hb => ?_, fun hn => ?_, h2, h3, h5⟩
        · rcases h9 with ⟨h10, h11⟩ | ⟨g, rfl, _, h11, _⟩
          · subst h11
            have : vs = [] := List.eq_nil_of_length_eq_zero (by simpa using h1.1)
            subst this
            simp
          · injection hb with hb
            subst hb
            exact cells_add h11
        · subst hn
          rcases h9 with ⟨h10, h11⟩ | ⟨g, h10, _⟩
          · exact h11
          · cases h10
      · cases hl
    · rename_i sz' m' ds' dp' hI
      split at hl
      · rename_i hc
        subst hc
        simp only [Option.some.injEq, Prod.mk.injEq] at hl
        obtain ⟨rfl, rfl, rfl, rfl⟩ := hl
        unfold RV at hx
        obtain ⟨_, ⟨_, hrep, _⟩, _⟩ := h.own p _ hI
        rw [hx.2.2 _ hI]
        rw [hx.2.2 _ hI] at copy
        exact copy hrep rfl rfl
      · cases hl
    · cases hl
theorem xApp_ok {P : Program} {w0 : World0} {G : Gh} {s : AS} {a : Act} {w : World} (h : Rel w0 G s a w) {t ty : TypeId} {x y : AV} {u z : Value} (hx : RV w0.heap.size G w s.owf s.nx x u) (hy : RV w0.heap.size G w s.owf s.nx y z) {K : AV → AS → Prop} (hk : xApp P s t x y K) :
    ∃ av v s' G' w', K av s' ∧ (Builtin.append_ #[t, t] ty #[u, z]).run P w = .ok v w' ∧ Rel w0 G' s' a w' ∧ RV w0.heap.size G' w' s'.owf s'.nx av v := by
  unfold xApp at hk
  split at hk
  · rename_i T sz bytes ht
    split at hk
    · rename_i e1 n cs dp e2 m ds dp' hl hr
      obtain ⟨hp, hne, ⟨h63, hby⟩, hk⟩ := hk
      obtain ⟨vs, F1, hrow, S1, l1, n1, c1⟩ := appL_ok h hx hl
      obtain ⟨a', c, us, F2, rfl, hc, hn, S2, l2, c2⟩ := appR_ok h hy hr hp
      have hbs := h.bel.size
      obtain ⟨v', w', hrun, hown, hg, hwh⟩ := app_run (P := P) ht hrow ty rfl S2.len hc hn S2.one h63 hby hbs
      refine ⟨_, v', _, G.own s.nx (rowB v' ++ (F1 ++ F2)) v', w', hk, hrun, ?_⟩
      -- the inner blocks are as they were
      have hB1 : ∀ o ∈ e1, ∀ k ∈ G.B o, (w0.heap.size ≤ k ∨ w0.mv k) ∧ k < w.heap.size := fun o ho k hk => by
        obtain ⟨I, hI⟩ := l1 o ho; exact (h.own o I hI).2.1.1 k hk
      have hB2 : ∀ o ∈ e2, ∀ k ∈ G.B o, (w0.heap.size ≤ k ∨ w0.mv k) ∧ k < w.heap.size := fun o ho k hk => by
        obtain ⟨I, hI⟩ := l2 o ho; exact (h.own o I hI).2.1.1 k hk
      have hrow0 : ∀ k ∈ rowB u, k < w.heap.size ∧ w0.heap.size ≤ k := by
        obtain ⟨_, _, _, _, _, h9, _⟩ := row_shape hrow
        exact h9
      have hrowB : ∀ k, some k = u.ownBlock → k ∈ rowB u := fun k e => by
        unfold Value.ownBlock at e
        split at e
        · simp at e; subst e; simp [rowB]
        · cases e
      have hrow1 : ∀ k ∈ rowB u, ∃ o ∈ e1, k ∈ G.B o := fun k hk => S1.row (fun e => by rw [n1 e] at hk; cases hk) k hk
      have hF1 : ∀ k ∈ F1, k < w.heap.size ∧ (w0.heap.size ≤ k ∨ w0.mv k) ∧ k ∉ rowB u := fun k hk => by
        obtain ⟨⟨o, ho, hko⟩, h2⟩ := S1.sub k hk
        have := hB1 o ho k hko
        exact ⟨this.2, this.1, h2⟩
      have hF2 : ∀ k ∈ F2, k < w.heap.size ∧ (w0.heap.size ≤ k ∨ w0.mv k) ∧ k ∉ rowB u := fun k hk => by
        obtain ⟨⟨o, ho, hko⟩, h2⟩ := S2.sub k hk
        have := hB2 o ho k hko
        refine ⟨this.2, this.1, fun hk' => ?_⟩
        obtain ⟨o', ho', hko'⟩ := hrow1 k hk'
        obtain ⟨I, hI⟩ := l2 o ho
        obtain ⟨I', hI'⟩ := l1 o' ho'
        exact h.dis o' o I' I hI' hI (fun e => hne o' ho' (e ▸ ho)) k hko' hko
      have hkeep : ∀ k, k < w.heap.size → k ∉ rowB u → w'.heap[k]? = w.heap[k]? := fun k hk hn => hg.block k hk fun e => hn (hrowB k e)
      have hbase : ∀ k, k < w0.heap.size → w'.heap[k]? = w.heap[k]? := fun k hk => hkeep k (by omega) fun hk' => by
        have := (hrow0 k hk').2
        omega
      have hrep : RepPs w' (fun k => k < w0.heap.size ∨ (k ∈ F1 ++ F2)) (cs ++ ds) (vs ++ us) := by
        refine RepPs.append _ _ _ _ (RepPs.mono (fun k hk => hk.imp id fun hk => by simp [hk]) (fun k hk => hk.elim (hbase k) (fun hk => hkeep k (hF1 k hk).1 (hF1 k hk).2.2)) _ _ S1.rep) (RepPs.mono (fun k hk => hk.imp id fun hk => by simp [hk]) (fun k hk => hk.elim (hbase k) (fun hk => hkeep k (hF2 k hk).1 (hF2 k hk).2.2)) _ _ S2.rep)
      have hdeep : (dp && dp') = true → OwnVs w' (cs ++ ds) (vs ++ us) (F1 ++ F2) ∧ (F1 ++ F2).Nodup := fun hd => by
        simp only [Bool.and_eq_true] at hd
        obtain ⟨h1, h2⟩ := S1.own hd.1
        obtain ⟨h3, h4⟩ := S2.own hd.2
        refine ⟨OwnVs.append _ _ _ _ _ _ (OwnVs.keep hg.size _ _ _ (fun k hk => hkeep k (hF1 k hk).1 (hF1 k hk).2.2) h1) (OwnVs.keep hg.size _ _ _ (fun k hk => hkeep k (hF2 k hk).1 (hF2 k hk).2.2) h3), List.nodup_append.2 ⟨h2, h4, fun k hk k' hk' e => ?_⟩⟩
        subst e
        obtain ⟨⟨o, ho, hko⟩, _⟩ := S1.sub k hk
        obtain ⟨⟨o', ho', hko'⟩, _⟩ := S2.sub k hk'
        obtain ⟨I, hI⟩ := l1 o ho
        obtain ⟨I', hI'⟩ := l2 o' ho'
        exact h.dis o o' I I' hI hI' (fun e => hne o ho (e ▸ ho')) k hko hko'
      obtain ⟨a2, cap2, ev, r1, r2, r3, r4⟩ := row_shape hown
      have hFn : ∀ k ∈ F1 ++ F2, k ∉ rowB v' := fun k hk hk' => by
        have h1 : k < w.heap.size ∧ k ∉ rowB u := by
          rcases List.mem_append.1 hk with hk | hk
          · exact ⟨(hF1 k hk).1, (hF1 k hk).2.2⟩
          · exact ⟨(hF2 k hk).1, (hF2 k hk).2.2⟩
        rcases hwh k hk' with h2 | h2
        · exact h1.2 h2
        · omega
      have hrowN : (rowB v').Nodup := by
        subst ev
        cases a2 <;> simp [rowB]
      have hR : Res w0.heap.size w0.mv w' (rowB v' ++ (F1 ++ F2)) v' ⟨.rows sz (n + m) (cs ++ ds), some T, dp && dp'⟩ := by
        refine ⟨fun k hk => ?_, row_rep hown (RepPs.mono (fun k hk => hk.imp id fun hk => List.mem_append.2 (.inr hk)) (fun _ _ => rfl) _ _ hrep) (fun k hk => .inr (List.mem_append.2 (.inl hk))), fun hd => ?_, fun T' hT => ?_⟩
        · rcases List.mem_append.1 hk with hk | hk
          · exact ⟨.inl (r3 k hk).2, (r3 k hk).1⟩
          · have hs := hg.size
            rcases List.mem_append.1 hk with hk | hk
            · exact ⟨(hF1 k hk).2.1, by have := (hF1 k hk).1; omega⟩
            · exact ⟨(hF2 k hk).2.1, by have := (hF2 k hk).1; omega⟩
        · obtain ⟨h1, h2⟩ := hdeep hd
          exact ⟨row_own hown h1, List.nodup_append.2 ⟨hrowN, h2, fun k hk k' hk' e => hFn k' hk' (e ▸ hk)⟩⟩
        · injection hT with hT; subst hT
          refine ⟨sz, n + m, cs ++ ds, vs ++ us, rfl, hown, RepPs.mono (fun k hk => hk.imp id fun hk => ⟨List.mem_append.2 (.inr hk), hFn k hk⟩) (fun _ _ => rfl) _ _ hrep, fun k hk => List.mem_append.2 (.inl hk), fun q hq => ?_, fun hd => ?_⟩
          · rcases List.mem_append.1 hq with hq | hq
            · exact S1.one q hq
            · exact S2.one q hq
          · obtain ⟨h1, h2⟩ := hdeep hd
            exact ⟨_, h1, h2, fun k hk => ⟨List.mem_append.2 (.inr hk), hFn k hk⟩⟩
      have hin : ∀ k ∈ rowB v' ++ (F1 ++ F2), k = w.heap.size ∨ ∃ o ∈ e1 ++ e2, k ∈ G.B o := fun k hk => by
        rcases List.mem_append.1 hk with hk | hk
        · rcases hwh k hk with h1 | h1
          · obtain ⟨o, ho, hko⟩ := hrow1 k h1
            exact .inr ⟨o, by simp [ho], hko⟩
          · exact .inl h1
        · rcases List.mem_append.1 hk with hk | hk
          · obtain ⟨⟨o, ho, hko⟩, _⟩ := S1.sub k hk
            exact .inr ⟨o, by simp [ho], hko⟩
          · obtain ⟨⟨o, ho, hko⟩, _⟩ := S2.sub k hk
            exact .inr ⟨o, by simp [ho], hko⟩
      have hlive : ∀ o ∈ e1 ++ e2, ∃ I, s.owf o = some I := fun o ho => by
        rcases List.mem_append.1 ho with ho | ho
        · exact l1 o ho
        · exact l2 o ho
      refine h.own' (eats := e1 ++ e2) ⟨hg.os.trans h.bel.os, hg.tape.trans h.bel.tape, hg.output.trans h.bel.output, Nat.le_trans hbs hg.size, fun k hk => (hbase k hk).trans (h.bel.block k hk)⟩ hg.size (fun k hk hn => hkeep k hk fun hk' => ?_) hR (by rw [ev]; rfl) (fun b cs' hl' hkb => ?_) (fun o I ho hno k hk hkb => ?_)
      · obtain ⟨o, ho, hko⟩ := hrow1 k hk'
        obtain ⟨I, hI⟩ := l1 o ho
        exact hn o I (by simp [ho]) hI hko
      · obtain ⟨_, _, _, _, h3, _⟩ := h.bx b cs' hl'
        rcases hin _ hkb with e | ⟨o, ho, hko⟩
        · have := h3.lt; omega
        · obtain ⟨I, hI⟩ := hlive o ho
          exact (h.own o I hI).2.2 b cs' hl' hko
      · rcases hin _ hkb with e | ⟨o', ho', hko⟩
        · have := ((h.own o I ho).2.1.1 k hk).2; omega
        · obtain ⟨I', hI'⟩ := hlive o' ho'
          exact h.dis o o' I I' ho hI' (fun e => hno (e ▸ ho')) k hk hko
    · exact hk.elim
  · exact hk.elim

/-! ## Stores into boxes -/
def tSize (P : Program) (t : TypeId) : Option Nat := (P.info? t).map (·.size)
def xStore (P : Program) (s : AS) (t : TypeId) (x y : AV) (K : AS → Prop) : Prop :=
  match x with
  | .bx b off => match look s.bx b, tSize P t with
    | some cs, some n => (y.whole = true ∧ y.cells.length = n ∧ off + n ≤ cs.length) ∧ K (s.setb b (setRowG cs off y.cells))
    | _, _ => False
  | _ => False
theorem storeCells_run {P : Program} {T : TypeId} {g off : Nat} : ∀ (vs : List Value) (i : Nat) (us : List Value) (w : World), Blk w g T us.toArray → off + i + vs.length ≤ us.length → (∀ v ∈ vs, v.oneCell' = true) →
    ∃ w', (storeCells ⟨g, off, none⟩ vs i).run P w = .ok () w' ∧ Blk w' g T (setRowG us (off + i) vs).toArray ∧ Only [g] w w'
  | [], i, us, w, hB, _, _ => ⟨w, by simp [storeCells, Sem.run_pure], hB, Only.refl _ _⟩
  | v :: vs, i, us, w, hB, hl, ho => by
    simp only [List.length_cons] at hl
    have h1 := hB.set_ (off + i) v
    have e1 : us.toArray.setIfInBounds (off + i) v = (us.set (off + i) v).toArray := by simp
    rw [e1] at h1
    obtain ⟨w', h2, h3, h4⟩ := storeCells_run (P := P) (T := T) (g := g) (off := off) vs (i + 1) (us.set (off + i) v) _ h1 (by simp; omega) (fun x hx => ho x (by simp [hx]))
    have hlt : off + i < us.length := by omega
    refine ⟨w', ?_, h3, ((Only.refl _ w).setCell (p := ⟨g, off + i, none⟩) (by simp) v).trans h4⟩
    simp only [storeCells, Sem.run_bind, add_addr]
    rw [run_store P w ⟨g, off + i, none⟩ v _ (ho v (by simp)), hB.cell, hB.frozen]
    simp only [List.getElem?_toArray, List.getElem?_eq_getElem hlt, Bool.false_eq_true, if_false, Result.andThen_ok]
    exact h2
theorem xStore_ok {P : Program} {w0 : World0} {G : Gh} {s : AS} {a : Act} {w : World} (h : Rel w0 G s a w) {t : TypeId} {x y : AV} {u z : Value} (hx : RV w0.heap.size G w s.owf s.nx x u) (hy : RV w0.heap.size G w s.owf s.nx y z) {K : AS → Prop} (hk : xStore P s t x y K) :
    ∃ s' w', K s' ∧ (Instr.storeAt t u z).run P w = .ok () w' ∧ Rel w0 G s' a w' := by
  cases x <;> simp only [xStore] at hk <;> first | exact hk.elim | skip
  rename_i b off
  split at hk
  · rename_i cs n hl ht
    obtain ⟨⟨h1, h2, h3⟩, hk⟩ := hk
    obtain ⟨_, hbb, us, T, hB, hr⟩ := h.bx b cs hl
    unfold RV at hx
    obtain ⟨_, rfl⟩ := hx
    obtain ⟨h4, h5⟩ := cells_ok hy h1
    have hzl : z.cells.toList.length = n := by rw [RVs.len _ _ h4, h2]
    obtain ⟨w', h6, h7, h8⟩ := storeCells_run (P := P) (T := T) (g := G.β b) (off := off) z.cells.toList 0 us w hB (by rw [RVs.len _ _ hr]; omega) (fun v hv => h5 v (by simpa using hv))
    refine ⟨_, w', hk, ?_, h.setb hl (RVs.setRow _ _ _ _ off hr h4) h7 h8⟩
    unfold Instr.storeAt Instr.sureAddr storeVar
    unfold tSize at ht
    cases hi : P.info? t with
    | none => rw [hi] at ht; cases ht
    | some i =>
      rw [hi] at ht
      injection ht with ht
      have hsz : z.cells.size = i.size := by simpa [ht] using hzl
      simp only [Sem.run_bind, Sem.run_pure, Result.andThen_ok, sizeOf, typeInfo, program, Sem.run, hi, hsz, ne_eq, not_true, if_false]
      exact h6
  · exact hk.elim
end Go.Proofs.Ytaeeipojnfooeaa
