/-
  Blocks that are no cells turn (the record of a loop over a function): what the picture says stays so.
-/
import Derived.Test.YtlmnfemobajmlaaDoorPtr
import Derived.RangeFuncIn
import Derived.RangeFuncCalls
import Derived.RangeFuncLeaves
import Derived.RangeFuncNested
import Derived.Test.YtlmnfemobajmlaaDoorDat
import Derived.RangeFuncBound
import Derived.RangeFuncBox
import Derived.Shelf.Abstract
import Derived.Shelf.RegionOpen
import Derived.WalkKit
import Derived.OwnWalkIn
import Derived.TacticsInMore
import Derived.LoopNIn
import Derived.LoopIn
namespace Go.Proofs.YtlmnfemobajmlaaDoor
open Go.RowKit
set_option linter.unusedVariables false
set_option linter.unusedSimpArgs false
/-- No block of cells has turned; what was none is none still. -/
structure Nc (w w' : World) : Prop where
  size : w.heap.size ≤ w'.heap.size
  cel : ∀ (k : Nat) (cs : Array Value) (T : TypeId) (fr : Nat × Nat), w.heap[k]? = some (.cells cs T fr) → w'.heap[k]? = some (.cells cs T fr)
  non : ∀ (k : Nat) (o : Obj), w.heap[k]? = some o → o.isCells = false → ∃ o' : Obj, w'.heap[k]? = some o' ∧ o'.isCells = false
theorem Nc.cell {w w' : World} (h : Nc w w') {a : Addr} {v : Value} (hc : w.cell? a = some v) : w'.cell? a = some v := by
  unfold World.cell? at hc ⊢
  split at hc
  · rename_i cs T fr hh
    rw [h.cel _ _ _ _ hh]; exact hc
  · cases hc
theorem Nc.frozen {w w' : World} (h : Nc w w') {b o : Nat} (hb : b < w.heap.size) (hf : w.frozen? ⟨b, o, none⟩ = false) : w'.frozen? ⟨b, o, none⟩ = false := by
  obtain ⟨x, hx⟩ : ∃ x, w.heap[b]? = some x := ⟨_, Array.getElem?_eq_getElem hb⟩
  cases hc : x.isCells with
  | true =>
    cases x <;> simp only [Obj.isCells] at hc <;> first | (cases hc; done) | skip
    rename_i cs T fr
    have := h.cel _ _ _ _ hx
    simp only [World.frozen?, hx, this] at hf ⊢
    exact hf
  | false =>
    obtain ⟨o', h1, h2⟩ := h.non _ _ hx hc
    unfold World.frozen?
    simp only [h1]
    cases o' <;> first | rfl | (simp [Obj.isCells] at h2)
theorem Nc.cells {w w' : World} (h : Nc w w') {b off : Nat} {vs : List Value} (hc : Cells w b off vs) : Cells w' b off vs := fun i hi => h.cell (hc i hi)
theorem Nc.blk {w w' : World} (h : Nc w w') {g : Nat} {T : TypeId} {cs : Array Value} (hc : Blk w g T cs) : Blk w' g T cs := h.cel _ _ _ _ hc
mutual
theorem RepP.nc {w w' : World} (hn : Nc w w') {S : Nat → Prop} : ∀ (d : D) (v : Value), RepP w S d v → RepP w' S d v
  | .int n, v, h => by unfold RepP at h ⊢; exact h
  | .bool b, v, h => by unfold RepP at h ⊢; exact h
  | .str s, v, h => by unfold RepP at h ⊢; exact h
  | .any, v, h => by unfold RepP at h ⊢; exact h
  | .byt n, v, h => by unfold RepP at h ⊢; exact h
  | .rows sz n cs, v, h => by
    unfold RepP at h ⊢
    obtain ⟨a, cap, h1, h2, h3, h4, h5⟩ := h
    refine ⟨a, cap, h1, h2, h3, h4, ?_⟩
    rcases h5 with h5 | ⟨b, off, vs, ha, hb, hc, hl⟩
    · exact .inl h5
    · exact .inr ⟨b, off, vs, ha, hb, hn.cells hc, RepPs.nc hn cs vs hl⟩
theorem RepPs.nc {w w' : World} (hn : Nc w w') {S : Nat → Prop} : ∀ (cs : List D) (vs : List Value), RepPs w S cs vs → RepPs w' S cs vs
  | [], _, h => by unfold RepPs at h ⊢; exact h
  | d :: cs, vs, h => by
    unfold RepPs at h ⊢
    obtain ⟨v, r, e, hv, h2⟩ := h
    exact ⟨v, r, e, RepP.nc hn d v hv, RepPs.nc hn cs r h2⟩
end
mutual
theorem OwnV.nc {w w' : World} (hn : Nc w w') : ∀ (d : D) (v : Value) (fp : List Nat), OwnV w d v fp → OwnV w' d v fp
  | .int n, v, fp, h => by unfold OwnV at h ⊢; exact h
  | .bool b, v, fp, h => by unfold OwnV at h ⊢; exact h
  | .str s, v, fp, h => by unfold OwnV at h ⊢; exact h
  | .any, v, fp, h => by unfold OwnV at h ⊢; exact h
  | .byt n, v, fp, h => by unfold OwnV at h ⊢; exact h
  | .rows sz n cs, v, fp, h => by
    unfold OwnV at h ⊢
    obtain ⟨a, cap, h1, h2, h3, h4, h5⟩ := h
    refine ⟨a, cap, h1, h2, h3, h4, ?_⟩
    rcases h5 with h5 | ⟨b, off, vs, f, ha, hb, hf, hz, hc, hl⟩
    · exact .inl h5
    · exact .inr ⟨b, off, vs, f, ha, Nat.lt_of_lt_of_le hb hn.size, hf, fun o => hn.frozen hb (hz o), hn.cells hc, OwnVs.nc hn cs vs f hl⟩
theorem OwnVs.nc {w w' : World} (hn : Nc w w') : ∀ (cs : List D) (vs : List Value) (fp : List Nat), OwnVs w cs vs fp → OwnVs w' cs vs fp
  | [], _, _, h => by unfold OwnVs at h ⊢; exact h
  | d :: cs, vs, fp, h => by
    unfold OwnVs at h ⊢
    obtain ⟨v, r, f1, f2, e1, e2, hv, h2⟩ := h
    exact ⟨v, r, f1, f2, e1, e2, OwnV.nc hn d v f1 hv, OwnVs.nc hn cs r f2 h2⟩
end
theorem ownR.nc {w w' : World} (hn : Nc w w') {T : TypeId} {sz n : Nat} {v : Value} {vs : List Value} (h : ownR w T sz v n vs) : ownR w' T sz v n vs := by
  refine ⟨h.1, ?_⟩
  rcases h.2 with h2 | ⟨g, o, cap, cur, h1, h2, h3⟩
  · exact .inl h2
  · exact .inr ⟨g, o, cap, cur, h1, hn.cel _ _ _ _ h2, h3⟩
mutual
theorem RV.nc {w w' : World} (hn : Nc w w') {nx : Nat} {G : Gh} {owf : Nat → Option OwnI} : ∀ (v : AV) (u : Value), RV G w owf nx v u → RV G w' owf nx v u
  | .i n, u, h => by unfold RV at h ⊢; exact h
  | .b n, u, h => by unfold RV at h ⊢; exact h
  | .s n, u, h => by unfold RV at h ⊢; exact h
  | .y n, u, h => by unfold RV at h ⊢; exact h
  | .nl _, u, h => by unfold RV at h ⊢; exact h
  | .x _, u, h => by unfold RV at h ⊢; exact h
  | .sl o, u, h => by unfold RV at h ⊢; exact h
  | .sp o d, u, h => by unfold RV at h ⊢; exact ⟨h.1, h.2.1, fun I hI => RepP.nc hn _ _ (h.2.2 I hI)⟩
  | .br d, u, h => by unfold RV at h ⊢; exact RepP.nc hn _ _ h
  | .cl d, u, h => by unfold RV at h ⊢; exact ⟨h.1, RepP.nc hn _ _ h.2⟩
  | .bx b off, u, h => by unfold RV at h ⊢; exact h
  | .eb d k off, u, h => by
    unfold RV at h ⊢
    obtain ⟨sz, n, cs, a, o0, len, cap, h1, h2, h3, h4⟩ := h
    exact ⟨sz, n, cs, a, o0, len, cap, h1, h2, RepP.nc hn _ _ h3, h4⟩
  | .eo o k off, u, h => by unfold RV at h ⊢; exact h
  | .fn f cap, u, h => by
    unfold RV at h ⊢
    obtain ⟨us, e, h⟩ := h
    exact ⟨us, e, RVs.nc hn cap us h⟩
  | .ag cs, u, h => by
    unfold RV at h ⊢
    obtain ⟨us, e, h⟩ := h
    exact ⟨us, e, RVs.nc hn cs us h⟩
  | .tu cs, u, h => by
    unfold RV at h ⊢
    obtain ⟨us, e, h⟩ := h
    exact ⟨us, e, RVs.nc hn cs us h⟩
  | .rp cs, u, h => by
    unfold RV at h ⊢
    obtain ⟨g, us, T, e, hg, hB, h⟩ := h
    exact ⟨g, us, T, e, hg, hn.blk hB, RVs.nc hn cs us h⟩
  | .un, u, h => by unfold RV; trivial
theorem RVs.nc {w w' : World} (hn : Nc w w') {nx : Nat} {G : Gh} {owf : Nat → Option OwnI} : ∀ (v : List AV) (u : List Value), RVs G w owf nx v u → RVs G w' owf nx v u
  | [], u, h => by unfold RVs at h ⊢; exact h
  | a :: l, u, h => by
    unfold RVs at h ⊢
    obtain ⟨x, r, e, h1, h2⟩ := h
    exact ⟨x, r, e, RV.nc hn a x h1, RVs.nc hn l r h2⟩
end
theorem Res.nc {w0 : World0} {Z : Nat → Prop} {w w' : World} (hn : Nc w w') {B : List Nat} {v : Value} {I : OwnI} (h : Res w0 Z w B v I) : Res w0 Z w' B v I := by
  obtain ⟨h1, h2, h3, h4⟩ := h
  refine ⟨fun k hk => ⟨(h1 k hk).1, Nat.lt_of_lt_of_le (h1 k hk).2 hn.size⟩, RepP.nc hn _ _ h2, fun hd => ⟨OwnV.nc hn _ _ _ (h3 hd).1, (h3 hd).2⟩, fun T hT => ?_⟩
  obtain ⟨sz, n, cs, vs, q1, q2, q3, q4, q5, q6⟩ := h4 T hT
  refine ⟨sz, n, cs, vs, q1, q2.nc hn, RepPs.nc hn _ _ q3, q4, q5, fun hd => ?_⟩
  obtain ⟨fp, r1, r2⟩ := q6 hd
  exact ⟨fp, OwnVs.nc hn _ _ _ r1, r2⟩
theorem Rel.nc {w0 : World0} {G : Gh} {s : AS} {a : Act} {w w' : World} (h : Rel w0 G s a w) (hn : Nc w w') (hb : Bel w0.wr w0.toWorld w') : Rel w0 G s a w' := by
  refine ⟨h.nt, h.df, fun t v ht => ?_, fun b cs hb' => ?_, h.inj, fun o I ho => ?_, h.dis, hb, fun k hk => Nat.lt_of_lt_of_le (h.zl k hk) hn.size, h.pb, h.zz⟩
  · obtain ⟨u, h1, h2⟩ := h.tm t v ht
    exact ⟨u, h1, RV.nc hn _ _ h2⟩
  · obtain ⟨h1, h2, us, T, h3, h4⟩ := h.bx b cs hb'
    exact ⟨h1, h2, us, T, hn.blk h3, RVs.nc hn _ _ h4⟩
  · obtain ⟨h1, h2, h3⟩ := h.own o I ho
    exact ⟨h1, h2.nc hn, h3⟩
/-- Another activation with temporaries of its own: what speaks of memory holds on. -/
theorem Rel.act {w0 : World0} {G : Gh} {s : AS} {a a' : Act} {w : World} (h : Rel w0 G s a w) (tm : List (Nat × AV)) (hn : a'.tmps.size = s.nt) (hd : a'.defers = []) (ht : ∀ t v, look tm t = some v → ∃ u, a'.tmps[t]? = some u ∧ RV G w s.owf s.nx v u) :
    Rel w0 G { s with tm := tm } a' w := ⟨hn, hd, ht, h.bx, h.inj, h.own, h.dis, h.bel, h.zl, h.pb, h.zz⟩
end Go.Proofs.YtlmnfemobajmlaaDoor
/-
  From a walk to the same walk within a round of a loop over a function; from memory to a picture and back, for a part of a function.
-/
namespace Go.Proofs.YtlmnfemobajmlaaDoor
open Go.RowKit
set_option linter.unusedVariables false
set_option linter.unusedSimpArgs false
def wideR (r : Option Nat) : Fence := { Fence.wide with round := r }
/-- The same temporaries; more that is deferred. -/
def Rl (ds : List Deferred) (a a' : Act) : Prop := a'.tmps = a.tmps ∧ a'.defers = a.defers ++ ds
theorem Rl.put {ds : List Deferred} {a a' : Act} (h : Rl ds a a') (d : Option Tmp) (v : Value) : Rl ds (a.put d v) (a'.put d v) := by
  obtain ⟨h1, h2⟩ := h
  cases d <;> simp [Act.put, Rl, h1, h2]
theorem op_bridge {r : Option Nat} {n : Nat} {P : Program} {ds : List Deferred} {o : Oper} {a a' : Act} {w : World} {next next' : Act → World → Prop} {Q Q' : Exit → Act → World → Prop}
    (hd : ∀ c, o.op ≠ .defer c) (hr : Rl ds a a') (hn : ∀ b b' w, Rl ds b b' → next b w → next' b' w) (hq : ∀ e b b' w, Rl ds b b' → Q e b w → Q' e b' w) (h : o.wp P a w next Q) : o.wpIn (wideR r) n P a' w next' Q' := by
  have hev : a'.eval = a.eval := by funext x; cases x <;> simp [Act.eval, hr.1]
  refine ⟨fun _ _ => trivial, ?_⟩
  have hs : o.semAt (wideR r).round a'.eval = execOp a.eval o := by
    rw [hev]
    cases r with
    | none => rfl
    | some l => exact Oper.semAt_some l _ o hd
  rw [hs]
  unfold Oper.wp at h
  have hlo : LetsOut Q → LetsOut Q' := fun ⟨b, w, hb⟩ => ⟨{ b with defers := b.defers ++ ds }, w, hq .outgrown b { b with defers := b.defers ++ ds } w ⟨rfl, rfl⟩ hb⟩
  cases hx : (execOp a.eval o).run P w with
  | ok nx w1 =>
    rw [hx] at h
    cases nx <;> first | exact h.elim | skip
    case value v => exact hn _ _ _ (hr.put _ _) h
    case skip => exact hn _ _ _ (hr.put _ _) h
    case defer d => exact hn _ _ _ (Rl.put (a := { a with defers := d :: a.defers }) (a' := { a' with defers := d :: a'.defers }) ⟨hr.1, by simp [hr.2]⟩ _ _) h
    case enter f args =>
      refine ⟨fun hh => by simp [wideR, Fence.wide] at hh, ?_⟩
      have h2 : CallsIn (wideR r) (n - 1) P f args w1 (fun
        | .returned v, w'' => next (a.put o.dst v) w''
        | .panicked chain, w'' => Q (.panic chain) a w''
        | .outgrown, _ => LetsOut Q) := (callsIn_wide (n := n - 1)).2 h
      refine h2.mono fun e w2 he => ?_
      cases e with
      | returned v => exact hn _ _ _ (hr.put _ _) he
      | panicked c => exact hq _ _ _ _ hr he
      | outgrown => exact hlo he
    case row row args =>
      refine ⟨fun hh => by simp [wideR, Fence.wide] at hh, fun c cs _ => ?_⟩
      have h2 : Rows P row args w1 (fun v w'' => next (a.put o.dst v) w'') := h
      obtain ⟨v, w2, q1, q2⟩ := h2 c cs
      exact ⟨v, w2, hn _ _ _ (hr.put _ _) q1, stepsIn_wide.2 q2⟩
  | halt hh w1 =>
    rw [hx] at h
    cases hh <;> first | exact h.elim | exact hq _ _ _ _ hr h
theorem list_bridge {r : Option Nat} {n : Nat} {P : Program} {ds : List Deferred} {ops : Array Oper} {Q Q' : Exit → Act → World → Prop} (hO : ¬ LetsOut Q) (hq : ∀ e b b' w, Rl ds b b' → Q e b w → Q' e b' w) :
    ∀ (rest : List Oper), (∀ o ∈ rest, ∀ c, o.op ≠ .defer c) → ∀ (a a' : Act) (w : World), Rl ds a a' → wpList P ops Q rest a w → wpListIn (wideR r) n P ops Q' rest a' w
  | [], _, a, a', w, hr, h => hq _ _ _ _ hr h
  | o :: rest, hd, a, a', w, hr, h => by
    unfold wpList at h
    unfold wpListIn
    rw [hr.1]
    have ih := list_bridge (r := r) (n := n) (P := P) (ops := ops) hO hq rest (fun o' ho => hd o' (List.mem_cons_of_mem _ ho))
    split
    · rename_i hw
      rw [if_pos hw] at h
      rcases h with h | ⟨_, h⟩
      · exact op_bridge (hd o List.mem_cons_self) hr (fun b b' w hb h => ih b b' w hb h) hq h
      · exact (hO h).elim
    · rename_i hw
      rw [if_neg hw] at h
      exact ⟨fun _ _ => trivial, ih _ _ _ (hr.put _ _) h⟩
theorem look_zip {α : Type} : ∀ {ts : List Nat} {vs : List α} {t : Nat} {v : α}, look (ts.zip vs) t = some v → ∃ i : Nat, ts[i]? = some t ∧ vs[i]? = some v
  | [], _, t, v, h => by simp [look] at h
  | _ :: _, [], t, v, h => by simp [look] at h
  | a :: ts, b :: vs, t, v, h => by
    rw [List.zip_cons_cons, look_cons] at h
    split at h
    · rename_i e
      injection h with h
      subst e h
      exact ⟨0, rfl, rfl⟩
    · obtain ⟨i, h1, h2⟩ := look_zip h
      exact ⟨i + 1, by simpa using h1, by simpa using h2⟩
theorem look_app {α : Type} : ∀ {l r : List (Nat × α)} {t : Nat} {v : α}, look (l ++ r) t = some v → look l t = some v ∨ look r t = some v
  | [], r, t, v, h => .inr h
  | (k, x) :: l, r, t, v, h => by
    rw [List.cons_append, look_cons] at h
    rw [look_cons]
    split at h
    · rename_i e; rw [if_pos e]; exact .inl h
    · rename_i e; rw [if_neg e]; exact look_app h
/-- Memory as a picture: values of these kinds in these temporaries; others are known as they are. -/
theorem rel_ofP {w : World} {us : List Value} {fp fw : List Nat} {S : Nat → Prop} {args : List PA} (hg : GI w) (hgs : ∀ k ∈ GBl, S k) (hS : ∀ k, S k → k < w.heap.size ∧ k ∉ fp) (hu : RepPAs w S args us fp fw) (hnd : fp.Nodup) {a : Act} {nt : Nat} (hnt : a.tmps.size = nt) (hdf : a.defers = [])
    (ts : List Nat) (hts : ∀ (i : Nat) (u : Value), us[i]? = some u → ∃ t, ts[i]? = some t ∧ a.tmps[t]? = some u) (ex : List (Nat × Value)) (hex : ∀ p ∈ ex, a.tmps[p.1]? = some p.2 ∧ p.2.oneCell' = true) :
    ∃ (w0 : World0) (G : Gh), w0.toWorld = w ∧ (w0.mv = fun k => k ∈ fp) ∧ (w0.wr = fun k => k ∈ fp) ∧ (w0.pb = fun i => (ptrs args us).getD i 0) ∧ w0.zs = S ∧ G.Z = S ∧
      Rel w0 G { (mkPs ⟨nt, [], [], [], 0, []⟩ args).2 with tm := ts.zip (mkPs ⟨nt, [], [], [], 0, []⟩ args).1 ++ ex.map fun p => (p.1, AV.x p.2) } a w := by
  have hrel0 : Rel ⟨w, fun k => k ∈ fp, fun k => k ∈ fp, fun i => (ptrs args us).getD i 0, S, fun _ h => h, fun _ h => h, GI_st hg (fun k hk => (hS k (hgs k hk)).2), hgs⟩ ⟨fun _ => [], fun _ => undef, fun _ => 0, S⟩ ⟨nt, [], [], [], 0, []⟩ a w :=
    ⟨hnt, hdf, fun t v ht => (by cases ht), fun b cs hb => (by cases hb), fun _ _ _ _ hb => (by cases hb), fun o I ho => (by cases ho), fun _ _ _ _ ho => (by cases ho), Bel.refl _ _, fun k hk => (hS k hk).1, fun _ _ hb => (by simp at hb), fun _ hk => hk, fun _ hk => .inl hk⟩
  obtain ⟨G', hm, hrv⟩ := mkPs_ok args us fp fw _ _ hrel0 hu rfl hnd (fun k hk => ⟨fun hz => (hS k hz).2 hk, .inr hk⟩) (fun k hk => .inr (fws_sub args hu k hk)) (fun k hk => ⟨fun b cs hb => (by cases hb), fun o I ho => (by cases ho)⟩) (fun i g hi => by
    show (ptrs args us).getD (0 + i) 0 = g
    rw [Nat.zero_add, List.getD_eq_getElem?_getD, hi]; rfl)
  have hr1 := hm.rel
  refine ⟨_, G', rfl, rfl, rfl, rfl, rfl, hm.z, ⟨hr1.nt, hdf, fun t v ht => ?_, hr1.bx, hr1.inj, hr1.own, hr1.dis, hr1.bel, hr1.zl, hr1.pb, hr1.zz⟩⟩
  rcases look_app ht with ht | ht
  · obtain ⟨i, h1, h2⟩ := look_zip ht
    obtain ⟨x, h3, h4⟩ := RVs.get _ _ i v hrv h2
    obtain ⟨t', h5, h6⟩ := hts i x h3
    rw [h1] at h5
    injection h5 with h5
    subst h5
    exact ⟨x, h6, h4⟩
  · have key : ∀ (l : List (Nat × Value)), (∀ p ∈ l, p ∈ ex) → look (l.map fun p => (p.1, AV.x p.2)) t = some v → ∃ p ∈ ex, p.1 = t ∧ v = .x p.2 := by
      intro l
      induction l with
      | nil => intro _ h; cases h
      | cons p l ih =>
        intro hl h
        rw [List.map_cons, look_cons] at h
        split at h
        · rename_i e
          injection h with h
          exact ⟨p, hl p List.mem_cons_self, e.symm, h.symm⟩
        · exact ih (fun q hq => hl q (List.mem_cons_of_mem _ hq)) h
    obtain ⟨p, hp, rfl, rfl⟩ := key ex (fun _ h => h) ht
    obtain ⟨q1, q2⟩ := hex p hp
    exact ⟨p.2, q1, by unfold RV; exact ⟨rfl, q2⟩⟩
/-- .. and back: what is in the structs that were pointed to. -/
theorem out_ofP {w0 : World0} {G : Gh} {s : AS} {a : Act} {w' : World} (hr : Rel w0 G s a w') {outs : List (List CD)} {gs : List Nat} (hout : rOs s s.pb outs) (hnb : s.pb.Nodup) (hnd : (eOs s s.pb outs).Nodup) (hlen : outs.length = gs.length) (hpb : w0.pb = fun i => gs.getD i 0) :
    ∃ f fw, OutP w' G.Z gs outs f fw ∧ f.Nodup ∧ ∀ k ∈ f, (¬ G.Z k ∧ (w0.heap.size ≤ k ∨ w0.mv k)) ∧ k < w'.heap.size := by
  obtain ⟨f2, w2, p1, p2, p3, p4⟩ := rOs_own hr hout hnb hnd
  have hpo : s.pb.length = outs.length := by
    have : ∀ (bs : List Nat) (outs : List (List CD)), rOs s bs outs → bs.length = outs.length := by
      intro bs
      induction bs with
      | nil => intro o h; cases o <;> first | rfl | exact h.elim
      | cons b bs ih => intro o h; cases o <;> first | exact h.elim | (simp only [List.length_cons, ih _ h.2])
    exact this _ _ hout
  have hpb2 : s.pb.map G.β = gs := by
    refine List.ext_getElem (by rw [List.length_map, hpo, hlen]) fun i hi1 hi2 => ?_
    rw [List.getElem_map]
    have := (hr.pb i _ (List.getElem?_eq_getElem (by simpa using hi1))).2
    rw [← this, hpb]
    show gs.getD i 0 = _
    rw [List.getD_eq_getElem?_getD, List.getElem?_eq_getElem hi2]; rfl
  rw [hpb2] at p1
  exact ⟨f2, w2, p1, p2, fun k hk => Fr.lt hr (p3 k hk)⟩
theorem ownCs_o {w : World} {S : Nat → Prop} : ∀ {ds : List D} {vs : List Value} {f : List Nat}, OwnVs w ds vs f → OwnCs w S (ds.map CD.o) vs f []
  | [], vs, f, h => by unfold OwnVs at h; rw [List.map_nil]; unfold OwnCs; exact ⟨h.1, h.2, rfl⟩
  | d :: ds, vs, f, h => by
    unfold OwnVs at h
    obtain ⟨v, r, f1, f2, e1, e2, h1, h2⟩ := h
    rw [List.map_cons]
    unfold OwnCs
    exact ⟨v, r, f1, f2, [], [], e1, e2, rfl, by unfold OwnC; exact ⟨h1, rfl⟩, ownCs_o h2⟩
theorem o_ownCs {w : World} {S : Nat → Prop} : ∀ {ds : List D} {vs : List Value} {f fw : List Nat}, OwnCs w S (ds.map CD.o) vs f fw → OwnVs w ds vs f
  | [], vs, f, fw, h => by rw [List.map_nil] at h; unfold OwnCs at h; unfold OwnVs; exact ⟨h.1, h.2.1⟩
  | d :: ds, vs, f, fw, h => by
    rw [List.map_cons] at h
    unfold OwnCs at h
    obtain ⟨v, r, f1, f2, _, _, e1, e2, _, h1, h2⟩ := h
    unfold OwnVs
    unfold OwnC at h1
    exact ⟨v, r, f1, f2, e1, e2, h1.1, o_ownCs h2⟩
theorem ptr_in {w : World} {S : Nat → Prop} {ds : List D} {v : Value} {f fw : List Nat} {B : Nat} (h : RepPA w S (.p (ds.map CD.o)) v f fw) (hv : v = .pointer (some ⟨B, 0, none⟩)) : ∃ T us g, Blk w B T us.toArray ∧ OwnVs w ds us g ∧ f = B :: g := by
  unfold RepPA at h
  obtain ⟨b, T, us, f', fw', e1, e2, e3, e4, _⟩ := h
  subst hv
  injection e1 with e1
  injection e1 with e1
  injection e1 with e1
  subst e1
  exact ⟨T, us, f', e2, o_ownCs e3, e4⟩
theorem ptr_two {w : World} {S : Nat → Prop} {ds es : List D} {fp fw : List Nat} {A B : Nat} (h : RepPAs w S [.p (ds.map CD.o), .p (es.map CD.o)] [.pointer (some ⟨A, 0, none⟩), .pointer (some ⟨B, 0, none⟩)] fp fw) :
    ∃ T us f T' us' f', Blk w A T us.toArray ∧ OwnVs w ds us f ∧ Blk w B T' us'.toArray ∧ OwnVs w es us' f' ∧ fp = (A :: f) ++ (B :: f') := by
  unfold RepPAs RepPAs RepPAs at h
  obtain ⟨v, r, f, g, fw1, fw2, e1, e2, _, q1, v2, r2, f2, g2, fw3, fw4, e3, e4, _, q2, q3, q4, _⟩ := h
  injection e1 with e1 e1'
  rw [← e1'] at e3
  injection e3 with e3 e3'
  obtain ⟨T, us, f1, h1, h2, h3⟩ := ptr_in q1 e1.symm
  obtain ⟨T', us', f1', h4, h5, h6⟩ := ptr_in q2 e3.symm
  exact ⟨T, us, f1, T', us', f1', h1, h2, h4, h5, by rw [e2, e4, h3, h6, q4, List.append_nil]⟩
theorem ptr_mk {w : World} {S : Nat → Prop} {ds : List D} {B : Nat} {T : TypeId} {us : List Value} {f : List Nat} (h1 : Blk w B T us.toArray) (h2 : OwnVs w ds us f) : ∃ fw, RepPA w S (.p (ds.map CD.o)) (.pointer (some ⟨B, 0, none⟩)) (B :: f) fw :=
  ⟨_, by unfold RepPA; exact ⟨B, T, us, f, [], rfl, h1, ownCs_o h2, rfl, rfl⟩⟩
theorem ptr_three {w : World} {S : Nat → Prop} {p q r : PA} {u v x : Value} {f g h fw gw hw : List Nat} (h1 : RepPA w S p u f fw) (h2 : RepPA w S q v g gw) (h3 : RepPA w S r x h hw) : RepPAs w S [p, q, r] [u, v, x] (f ++ (g ++ h)) (fw ++ (gw ++ hw)) := by
  unfold RepPAs RepPAs RepPAs RepPAs
  exact ⟨u, _, f, g ++ h, fw, gw ++ hw, rfl, rfl, rfl, h1, v, _, g, h, gw, hw, rfl, rfl, rfl, h2, x, [], h, [], hw, [], rfl, by simp, by simp, h3, rfl, rfl, rfl⟩
theorem out_three {w : World} {S : Nat → Prop} {ds es : List D} {cs : List CD} {A B C : Nat} {fo fw : List Nat} (h : OutP w S [A, B, C] [ds.map CD.o, es.map CD.o, cs] fo fw) :
    ∃ T us f T' us' f' g, Blk w A T us.toArray ∧ OwnVs w ds us f ∧ Blk w B T' us'.toArray ∧ OwnVs w es us' f' ∧ fo = (A :: f) ++ ((B :: f') ++ g) := by
  unfold OutP OutP OutP at h
  obtain ⟨T, us, f1, f2, fw1, fw2, h1, h2, h3, _, T', us', f3, f4, fw3, fw4, h4, h5, h6, _, T2, us2, f5, f6, fw5, fw6, h7, h8, h9, _, _⟩ := h
  exact ⟨T, us, f1, T', us', f3, f4, h1, o_ownCs h2, h4, o_ownCs h5, by rw [h3, h6]; simp⟩
/-- Operations of a round, by a picture. -/
theorem ops_in {r : Option Nat} {n id : Nat} {P : Program} {ops : List Oper} {s : AS} {Qe : QE} {w0 : World0} {G : Gh} {a : Act} {w : World} {Q' : Exit → Act → World → Prop} (h : SW P [.ops ops ops] s Qe) (hr : Rel w0 G s a w) (hd : ∀ o ∈ ops, ∀ c, o.op ≠ .defer c) (hQe : ∀ e s, Qe e s → e = .normal)
    (hK : ∀ G' s' a' w', Rel w0 G' s' a' w' → Qe .normal s' → Q' .normal a' w') : (Code.region id ops.toArray false).wpIn (wideR r) n P Q' a w := by
  have hx : XOps P ops ops s (SX (fun s => Qe .normal s) [] Qe) := h
  have h1 := hx w0 G a w hr
  refine wpIn_region_list (list_bridge (ds := []) ?_ ?_ ops hd a a w ⟨rfl, by simp⟩ h1)
  · rintro ⟨b, w', G', s', hr', hq⟩
    exact absurd (hQe _ _ (SX_nil hq)) (by simp)
  · rintro e b b' w' ⟨q1, q2⟩ ⟨G', s', hr', hq⟩
    have hq' := SX_nil hq
    obtain rfl := hQe _ _ hq'
    have : b' = b := by cases b; cases b'; simp at q1 q2; rw [q1, q2]
    rw [this]
    exact hK G' s' b w' hr' hq'
/-- A loop over a function, whose rounds never leave it. -/
theorem rf_law {n : Nat} {P : Program} {g : Operand} {ps : Array Tmp} {asg body : Code} {Q : Exit → Act → World → Prop} {a : Act} {w : World} {gf : Nat} {lb : Array Value} (h1 : 1 ≤ n) (hg : a.eval g = .func (.func gf) #[] lb) (eg : ∀ args w, (callFunc gf args).run P w = .ok (.enter gf args) w)
    (K : Loop → World → Prop)
    (hit : ∀ fn, CallsIn Fence.wide (n - 1) P gf (#[.func (.yield (w.heap.size + 1)) #[] #[]] ++ lb) ((w.alloc (.deferred (some []))).alloc (.loop { state := .ready, pending := none, fn, tmps := a.tmps, params := ps, assign := asg, body, defers := w.heap.size })) fun e W' => (∃ v, e = .returned v) ∧ K { state := .ready, pending := none, fn, tmps := a.tmps, params := ps, assign := asg, body, defers := w.heap.size } W')
    (hK : ∀ rec W', K rec W' → W'.heap[w.heap.size + 1]? = some (.loop rec))
    (hdone : ∀ rec W', K rec W' → Q .normal { a with defers := { target := .collected w.heap.size, args := #[] } :: a.defers } (W'.putObj (w.heap.size + 1) (.loop { rec with state := .exhausted }))) : (Code.rangeFunc g ps asg body).wpIn Fence.wide n P Q a w := by
  refine wpIn_rangeFunc ?_
  intro fn hfn
  refine ⟨w.heap.size + 1, [{ target := .collected w.heap.size, args := #[] }], ((w.alloc (.deferred (some []))).alloc (.loop { state := .ready, pending := none, fn, tmps := a.tmps, params := ps, assign := asg, body, defers := w.heap.size })), { target := .fn (.func gf) lb, args := #[.func (.yield (w.heap.size + 1)) #[] #[]] }, ((w.alloc (.deferred (some []))).alloc (.loop { state := .ready, pending := none, fn, tmps := a.tmps, params := ps, assign := asg, body, defers := w.heap.size })), gf,
    #[.func (.yield (w.heap.size + 1)) #[] #[]] ++ lb, ((w.alloc (.deferred (some []))).alloc (.loop { state := .ready, pending := none, fn, tmps := a.tmps, params := ps, assign := asg, body, defers := w.heap.size })), run_enterLoop_outer _ _ _ _ _, ?_, ?_, ?_, fun _ => h1, ?_⟩
  · simp only [resolve, hg]
    simp [go_sem]
  · intro f' hf'; exact trivial
  · simp [invoke, go_sem, eg]
  · refine (hit fn).mono ?_
    rintro e W2 ⟨⟨v, rfl⟩, hk⟩
    exact ⟨none, _, run_endLoop (P := P) (hK _ W2 hk) (by simp), hdone _ W2 hk⟩
theorem nc_put {W : World} {l : Nat} {o o' : Obj} (hl : W.heap[l]? = some o) (ho : o.isCells = false) (ho' : o'.isCells = false) : Nc W (W.putObj l o') := by
  have hlt := (Array.getElem?_eq_some_iff.1 hl).1
  refine ⟨by simp, fun k cs T fr hk => ?_, fun k x hk hx => ?_⟩
  · rw [World.putObj_heap_other (fun e => by subst e; rw [hl] at hk; injection hk with hk; subst hk; simp [Obj.isCells] at ho)]; exact hk
  · by_cases e : k = l
    · subst e; exact ⟨o', World.putObj_heap_same hlt, ho'⟩
    · exact ⟨x, (World.putObj_heap_other e).trans hk, hx⟩
theorem OwnCs.nc {w w' : World} (hn : Nc w w') {S : Nat → Prop} : ∀ {cs : List CD} {us : List Value} {f fw : List Nat}, OwnCs w S cs us f fw → OwnCs w' S cs us f fw
  | [], us, f, fw, h => by unfold OwnCs at h ⊢; exact h
  | c :: cs, us, f, fw, h => by
    unfold OwnCs at h ⊢
    obtain ⟨v, r, f1, g, fw1, fw2, e1, e2, e3, h1, h2⟩ := h
    refine ⟨v, r, f1, g, fw1, fw2, e1, e2, e3, ?_, OwnCs.nc hn h2⟩
    cases c with
    | o d => unfold OwnC at h1 ⊢; exact ⟨OwnV.nc hn _ _ _ h1.1, h1.2⟩
    | a T d =>
      unfold OwnC at h1 ⊢
      obtain ⟨sz, n, cs, vs, fp, q1, q2, q3, q4⟩ := h1
      exact ⟨sz, n, cs, vs, fp, q1, q2.nc hn, OwnVs.nc hn _ _ _ q3, q4⟩
    | q T d =>
      unfold OwnC at h1 ⊢
      obtain ⟨sz, n, cs, vs, q1, q2, q3, q4⟩ := h1
      exact ⟨sz, n, cs, vs, q1, q2.nc hn, RepPs.nc hn _ _ q3, q4⟩
    | r d => unfold OwnC at h1 ⊢; exact ⟨RepP.nc hn _ _ h1.1, h1.2⟩
    | k d => unfold OwnC at h1 ⊢; exact ⟨⟨h1.1.1, RepP.nc hn _ _ h1.1.2⟩, h1.2⟩
theorem ptr_nc {w w' : World} (hn : Nc w w') {S : Nat → Prop} {cs : List CD} {v : Value} {f fw : List Nat} (h : RepPA w S (.p cs) v f fw) : RepPA w' S (.p cs) v f fw := by
  unfold RepPA at h ⊢
  obtain ⟨g, T, us, f', fw', e1, e2, e3, e4⟩ := h
  exact ⟨g, T, us, f', fw', e1, hn.blk e2, e3.nc hn, e4⟩
theorem setRowG_at {α : Type} : ∀ (b l : List α) (p : Nat), p + b.length ≤ l.length → setRowG l p b = l.take p ++ (b ++ l.drop (p + b.length))
  | [], l, p, _ => by simp [setRowG]
  | v :: vs, l, p, h => by
    rw [List.length_cons] at h
    unfold setRowG
    rw [setRowG_at vs (l.set p v) (p + 1) (by rw [List.length_set]; omega)]
    have h1 : (l.set p v).take (p + 1) = l.take p ++ [v] := by
      rw [List.set_eq_take_append_cons_drop, if_pos (by omega), List.take_append, List.length_take, Nat.min_eq_left (by omega), List.take_of_length_le (by rw [List.length_take]; omega), Nat.add_sub_cancel_left]
      rfl
    have h2 : (l.set p v).drop (p + 1 + vs.length) = l.drop (p + (v :: vs).length) := by
      rw [List.drop_set_of_lt (by omega), List.length_cons]
      congr 1
      omega
    rw [h1, h2]
    simp
theorem setRowG_all {α : Type} (b l : List α) (h : b.length = l.length) : setRowG l 0 b = b := by
  rw [setRowG_at b l 0 (by omega)]
  simp [h]
end Go.Proofs.YtlmnfemobajmlaaDoor
/-
  slices.Backward over a list of parameters: its function value, and that value's body: it hands the elements to the loop's rounds, the last one first.
-/
namespace Go.Proofs.YtlmnfemobajmlaaDoor
open Go.RowKit Go.Shelf
attribute [local go_sem] Oper.semAt_some
set_option linter.unusedVariables false
set_option linter.unusedSimpArgs false
theorem back0 (n : Nat) (a : Option Addr) (len cap : Nat) (w : World) :
    CallsIn Fence.wide n Tryd.prog 72 #[.slice a len cap] w fun e w' => e = .returned (.func (.func 90) #[] #[.pointer (some ⟨w.heap.size, 0, none⟩)]) ∧ w' = w.alloc (.cells #[.slice a len cap] 53) := by
  refine callsIn_of_wp Tryd.func72 rfl trivial ?_ rfl
  simp only [Tryd.ntmps72, List.size_toArray, List.length_cons, List.length_nil, Nat.reduceAdd, Nat.reduceSub, Array.replicate_succ, Array.replicate_zero, List.push_toArray, List.append_toArray, List.nil_append, List.cons_append]
  gi_wp2
  go_ret
  exact ⟨rfl, rfl⟩
set_option maxRecDepth 100000 in
set_option maxHeartbeats 2000000 in
theorem back1 (m l Bs n cap : Nat) (a : Option Addr) (hm : 1 ≤ m) (hn : n ≤ 1000000000) (J : Nat → World → Prop) (E : Nat → ByteArray × Int × Value × Bool)
    (hc : ∀ k W, J k W → W.cell? ⟨Bs, 0, none⟩ = some (.slice a n cap))
    (hr : ∀ k W, J k W → ∀ j, j < n → ∃ b off, a = some ⟨b, off, none⟩ ∧ W.cell? ⟨b, off + j * 4, none⟩ = some (.string (E j).1) ∧ W.cell? ⟨b, off + j * 4 + 1, none⟩ = some (.int .i64 (E j).2.1) ∧ W.cell? ⟨b, off + j * 4 + 2, none⟩ = some (E j).2.2.1 ∧ W.cell? ⟨b, off + j * 4 + 3, none⟩ = some (.bool (E j).2.2.2))
    (hY : ∀ k W, J k W → k < n → YieldAt Fence.wide (m - 1) Tryd.prog l #[.int .i64 ((n - 1 - k : Nat) : Int), .agg #[.string (E (n - 1 - k)).1, .int .i64 (E (n - 1 - k)).2.1, (E (n - 1 - k)).2.2.1, .bool (E (n - 1 - k)).2.2.2]] W fun e W' => e = .returned (.bool true) ∧ J (k + 1) W')
    (W : World) (h0 : J 0 W) :
    CallsIn Fence.wide m Tryd.prog 90 #[.func (.yield l) #[] #[], .pointer (some ⟨Bs, 0, none⟩)] W fun e W' => (∃ v, e = .returned v) ∧ J n W' := by
  refine callsIn_of_wp Tryd.func90 rfl trivial ?_ rfl
  simp only [Tryd.ntmps90, List.size_toArray, List.length_cons, List.length_nil, Nat.reduceAdd, Nat.reduceSub, Array.replicate_succ, Array.replicate_zero, List.push_toArray, List.append_toArray, List.nil_append, List.cons_append]
  have hcW := hc 0 W h0
  gi_wp2
  gi_loopw [3] (fun i wr => ∃ k : Nat, k ≤ n ∧ i = .int .i64 ((n : Int) - 1 - k) ∧ J k wr)
    (fun i _ => (intOf i + 1).toNat)
  case atStart => exact ⟨0, Nat.zero_le _, by simp, h0⟩
  case round =>
    obtain ⟨k, hk, rfl, hJs⟩ := hrel
    have hcx := hc k wr hJs
    by_cases hlt : k < n
    · obtain ⟨b, off, rfl, c0, c1, c2, c3⟩ := hr k wr hJs (n - 1 - k) (by omega)
      have hi : ((n : Int) - 1 - k) = ((n - 1 - k : Nat) : Int) := by omega
      rw [hi]
      obtain ⟨fn, tmps, assign, body, hy, hR⟩ := hY k wr hJs hlt
      generalize hq : n - 1 - k = q at *
      gi_wp2
      refine hR.mono ?_
      rintro e W3 ⟨rfl, hJ3⟩
      gi_wp2
      go_roundw
      case rel => exact ⟨k + 1, by omega, by simp; omega, hJ3⟩
      case measure => simp [intOf]
    · obtain rfl : k = n := by omega
      gi_wp2
      go_end0
      exact ⟨⟨_, rfl⟩, hJs⟩
end Go.Proofs.YtlmnfemobajmlaaDoor
