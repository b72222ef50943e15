/-
  Statements on the abstract picture: lists of operations in order.
-/
import Derived.Test.YtaeeipojnfooeaaAI9
namespace Go.Proofs.Ytaeeipojnfooeaa
open Go.RowKit
set_option linter.unusedVariables false
set_option linter.unusedSimpArgs false

/-- An operation that turns what was there. -/
def lateOp (o : Oper) : Bool :=
  match o.op with
  | .store _ _ _ => true
  | .call c => match c.callee with | .builtin .append => true | _ => false
  | _ => false
def xO (P : Program) (s : AS) (o : Oper) (K : AS → Prop) : Prop :=
  match o.op with
  | .alloc t => match tZero P t with | some zs => K ((s.box zs).pt o.dst (.bx s.nx 0)) | none => False
  | .box t x => (s.ev x).whole = true ∧ K ((s.box (s.ev x).cells).pt o.dst (.bx s.nx 0))
  | .buildSlice t n ps => xRow P s t n (ps.toList.map fun q => (q.1, s.ev q.2)) fun av s' => K (s'.pt o.dst av)
  | .store t x y => xStore P s t (s.ev x) (s.ev y) fun s' => K (s'.pt o.dst .un)
  | .call c => match c.callee with
    | .builtin .append => match c.args.toList, c.argTypes.toList with
      | [x, y], [t, t'] => t' = t ∧ xApp P s t (s.ev x) (s.ev y) fun av s' => K (s'.pt o.dst av)
      | _, _ => False
    | .value f => match s.ev f with
      | .fn F cap => XCall P s F (c.args.toList.map s.ev ++ cap) fun av s' => K (s'.pt o.dst av)
      | _ => False
    | _ => xP P s o.op fun av => K (s.pt o.dst av)
  | _ => xP P s o.op fun av => K (s.pt o.dst av)
/-- What holds behind. -/
def Aft (w0 : World0) (late : Bool) (w : World) (K : AS → Prop) (a' : Act) (w' : World) : Prop := (late = false → Below w.heap.size w w') ∧ ∃ G' s', Rel w0 G' s' a' w' ∧ K s'
theorem alloc_run {P : Program} {t : TypeId} {z : Value} (h : (P.info? t).bind (·.zero) = some z) (w : World) : (Instr.alloc t true (.tuple #[])).run P w = .ok (.pointer (some ⟨w.heap.size, 0, none⟩)) (w.alloc (.cells z.cells t)) := by
  unfold Instr.alloc newVar newRow
  simp only [Sem.run_bind, zero_run h, Result.andThen_ok]
  rfl
theorem toList_arr {α : Type} (x : Array α) : x.toList.toArray = x := rfl
theorem xP_wp {P : Program} {w0 : World0} {G : Gh} {s : AS} {a : Act} {w : World} (h : Rel w0 G s a w) {o : Oper} {K : AS → Prop} (hk : xP P s o.op fun av => K (s.pt o.dst av)) {late : Bool} {Q : Exit → Act → World → Prop} : o.wp P a w (Aft w0 late w K) Q := by
  obtain ⟨av, v, h1, h2, h3⟩ := xP_ok h hk
  unfold Oper.wp
  rw [h3 w (Below.refl _ _)]
  exact ⟨fun _ => Below.refl _ _, _, _, h.pt o.dst h2, h1⟩
theorem xO_ok {P : Program} {w0 : World0} {G : Gh} {s : AS} {a : Act} {w : World} (h : Rel w0 G s a w) {o : Oper} {K : AS → Prop} (hk : xO P s o K) {Q : Exit → Act → World → Prop} : o.wp P a w (Aft w0 (lateOp o) w K) Q := by
  obtain ⟨dst, op, type, pos, after, guard⟩ := o
  have key : ∀ op' : Op, xP P s op' (fun av => K (s.pt dst av)) → Oper.wp P ⟨dst, op', type, pos, after, guard⟩ a w (Aft w0 (lateOp ⟨dst, op', type, pos, after, guard⟩) w K) Q := fun op' hk => xP_wp (o := ⟨dst, op', type, pos, after, guard⟩) (K := K) h hk
  cases op with
  | alloc t =>
    simp only [xO] at hk
    split at hk
    · rename_i zs hz
      obtain ⟨z, h1, h2⟩ := tZero_ok hz
      obtain ⟨h3, h4⟩ := h.box (us := z.cells.toList) h2 t
      unfold Oper.wp
      simp only [execOp, Sem.run_bind, alloc_run h1, Result.andThen_ok, Sem.run_pure]
      exact ⟨fun _ => (Below.refl _ _).alloc (Nat.le_refl _) _, _, _, h3.pt dst h4, hk⟩
    · exact hk.elim
  | box t x =>
    simp only [xO] at hk
    obtain ⟨h1, hk⟩ := hk
    obtain ⟨h2, _⟩ := cells_ok (h.ev x) h1
    obtain ⟨h3, h4⟩ := h.box h2 t
    unfold Oper.wp
    have hr : (Instr.box t (a.eval x)).run P w = .ok (.pointer (some ⟨w.heap.size, 0, none⟩)) (w.alloc (.cells (a.eval x).cells t)) := rfl
    simp only [execOp, Sem.run_bind, hr, Result.andThen_ok, Sem.run_pure]
    exact ⟨fun _ => (Below.refl _ _).alloc (Nat.le_refl _) _, _, _, h3.pt dst h4, hk⟩
  | buildSlice t n ps =>
    simp only [xO] at hk
    obtain ⟨av, v, s', G', w', h1, h2, h3, h4, h5⟩ := xRow_ok (qs := ps.map fun q => (q.1, a.eval q.2)) h ⟨by simp, fun j p q hp hq => by
      simp only [List.getElem?_map, Array.toList_map] at hp hq
      cases hz : ps.toList[j]? with
      | none => rw [hz] at hp; cases hp
      | some z =>
        rw [hz] at hp hq
        injection hp with hp
        injection hq with hq
        subst hp; subst hq
        exact ⟨rfl, h.ev _⟩⟩ hk
    unfold Oper.wp
    simp only [execOp, Sem.run_bind, h2, Result.andThen_ok, Sem.run_pure]
    exact ⟨fun _ => h3, _, _, h4.pt dst h5, h1⟩
  | store t x y =>
    simp only [xO] at hk
    obtain ⟨s', w', h1, h2, h3⟩ := xStore_ok h (h.ev x) (h.ev y) hk
    unfold Oper.wp
    simp only [execOp, Sem.run_bind, h2, Result.andThen_ok, Sem.run_pure]
    exact ⟨fun e => (by cases e), _, _, h3.pt dst (by unfold RV; trivial), h1⟩
  | call c =>
    obtain ⟨callee, args, tys⟩ := c
    cases callee with
    | builtin b =>
      by_cases hb : b = .append
      · subst hb
        simp only [xO] at hk
        split at hk
        · rename_i x y t t' e1 e2
          obtain ⟨rfl, hk⟩ := hk
          have ea : args = #[x, y] := Array.ext' e1
          have et : tys = #[t', t'] := Array.ext' e2
          subst ea; subst et
          obtain ⟨av, v, s', G', w', h1, h2, h3, h4⟩ := xApp_ok (ty := type) h (h.ev x) (h.ev y) hk
          unfold Oper.wp
          have hr : (execOp a.eval ⟨dst, .call { callee := .builtin .append, args := #[x, y], argTypes := #[t', t'] }, type, pos, after, guard⟩).run P w = .ok (.value v) w' := by
            simp [execOp, resolve, invoke, builtin, Sem.run_bind, Sem.run_pure, h2]
          rw [hr]
          exact ⟨fun e => (by cases e), _, _, h3.pt dst h4, h1⟩
        · exact hk.elim
      · refine xP_wp (o := ⟨dst, .call ⟨.builtin b, args, tys⟩, type, pos, after, guard⟩) (K := K) h ?_
        cases b <;> first | exact absurd rfl hb | exact hk
    | invoke r m => exact xP_wp (o := ⟨dst, .call ⟨.invoke r m, args, tys⟩, type, pos, after, guard⟩) (K := K) h hk
    | value f =>
      simp only [xO] at hk
      have hf := h.ev f
      cases hv : s.ev f <;> rw [hv] at hk hf <;> simp only at hk <;> first | exact hk.elim | skip
      rename_i F cap
      unfold RV at hf
      obtain ⟨us, hu, hr⟩ := hf
      have hargs : RVs w0.heap.size G w s.owf s.nx (args.toList.map s.ev ++ cap) (args.toList.map a.eval ++ us) := (h.evs args.toList).append _ _ _ _ hr
      have hc := XCall_ok h hargs hk
      obtain ⟨ps, rs, _, hcon, _⟩ := hk
      obtain ⟨⟨fn, hfn, hbody, hname⟩, _⟩ := hcon
      unfold Oper.wp
      have hrun : (execOp a.eval ⟨dst, .call { callee := .value f, args := args, argTypes := tys }, type, pos, after, guard⟩).run P w = .ok (.enter F (args.toList.map a.eval ++ us).toArray) w := by
        have e1 : ((#[] : Array Value) ++ args.map a.eval) ++ us.toArray = (args.toList.map a.eval ++ us).toArray := by
          apply Array.ext'; simp
        simp only [execOp, resolve, Deferred.ofValue, hu, pure_bind, invoke, e1, callFunc, Sem.run_bind, program, Sem.run, Result.andThen_ok, hfn, hname, hbody, Bool.false_eq_true, if_false, Sem.run_pure]
      rw [hrun]
      refine hc.mono fun e w' ⟨hb, v, av, s', G', he, h1, h2, h3⟩ => ?_
      subst he
      exact ⟨fun _ => hb, _, _, h2.pt dst h3, h1⟩
  | _ => exact key _ hk

/-- A truth value that is known by now. -/
def AS.kn (s : AS) (t : Tmp) (b : Bool) : AS := { s with tm := (t, .b b) :: s.tm }
theorem Rel.kn {w0 : World0} {G : Gh} {s : AS} {a : Act} {w : World} (h : Rel w0 G s a w) {t : Tmp} {b : Bool} (hl : look s.tm t = some (.b b)) : Rel w0 G (s.kn t b) a w := by
  refine ⟨h.nt, h.df, fun t' v ht => ?_, h.bx, h.inj, h.own, h.dis, h.bel⟩
  unfold AS.kn at ht
  simp only at ht
  rw [look_cons] at ht
  split at ht
  · rename_i e
    subst e
    injection ht with ht
    subst ht
    exact h.tm _ _ hl
  · exact h.tm _ _ ht
def xG (P : Program) (ops : List Oper) (s : AS) (o : Oper) (K : AS → Prop) : Prop :=
  match o.guard with
  | none => xO P s o K
  | some (g, want) => match (ops[g]?).bind (·.dst) with
    | some t => match look s.tm t with
      | some (.b x) => (x = want → xO P (s.kn t want) o K) ∧ (x = !want → K ((s.kn t (!want)).pt o.dst .un))
      | _ => False
    | none => False
def xL (P : Program) (ops : List Oper) : List Oper → AS → (AS → Prop) → Prop
  | [], s, K => K s
  | o :: rest, s, K => xG P ops s o fun s' => xL P ops rest s' K
theorem wanted_none {o : Oper} (h : o.guard = none) (y : Nat → Option Bool) : Region.wanted o y = true := by simp [Region.wanted, h]
theorem xG_ok {P : Program} {w0 : World0} {G : Gh} {s : AS} {a : Act} {w : World} (h : Rel w0 G s a w) {ops : List Oper} {o : Oper} {K : AS → Prop} (hk : xG P ops s o K) {Q : Exit → Act → World → Prop} {K' : Act → World → Prop} (hK : ∀ a' w', Aft w0 (lateOp o) w K a' w' → K' a' w') :
    if Region.wanted o (yielded ops.toArray a.tmps) = true then o.wp P a w K' Q else K' (a.put o.dst undef) w := by
  unfold xG at hk
  cases hg : o.guard with
  | none =>
    rw [hg] at hk
    rw [if_pos (wanted_none hg _)]
    exact Oper.wp_mono hK (xO_ok h hk)
  | some q =>
    obtain ⟨g, want⟩ := q
    rw [hg] at hk
    simp only at hk
    split at hk
    · rename_i t ht
      split at hk
      · rename_i x hx
        obtain ⟨u, hu, hr⟩ := h.tm t _ hx
        unfold RV at hr
        subst hr
        have hy : yielded ops.toArray a.tmps g = some x := by
          unfold yielded
          have : (ops.toArray[g]?).bind (·.dst) = some t := by simpa using ht
          rw [this]
          simp [hu]
        have hw : Region.wanted o (yielded ops.toArray a.tmps) = decide (x = want) := by
          simp only [Region.wanted, hg, hy]
          cases x <;> cases want <;> rfl
        rw [hw]
        by_cases hxw : x = want
        · rw [if_pos (by simp [hxw])]
          exact Oper.wp_mono hK (xO_ok (h.kn (hxw ▸ hx)) (hk.1 hxw))
        · rw [if_neg (by simp [hxw])]
          have hx2 : x = !want := by cases x <;> cases want <;> simp_all
          exact hK _ _ ⟨fun _ => Below.refl _ _, _, _, (h.kn (hx2 ▸ hx)).pt o.dst (by unfold RV; trivial), hk.2 hx2⟩
      · exact hk.elim
    · exact hk.elim
theorem xL_ok {P : Program} {w0 : World0} {ops : List Oper} {Q : Exit → Act → World → Prop} {K : AS → Prop} (hQ : ∀ G s a w, Rel w0 G s a w → K s → Q .normal a w) : ∀ (l : List Oper) {G : Gh} {s : AS} {a : Act} {w : World}, Rel w0 G s a w → xL P ops l s K → wpList P ops.toArray Q l a w
  | [], G, s, a, w, h, hk => hQ G s a w h hk
  | o :: rest, G, s, a, w, h, hk => by
    have := xG_ok (Q := Q) (K' := wpList P ops.toArray Q rest) h hk fun a' w' ⟨_, G', s', h1, h2⟩ => xL_ok hQ rest h1 h2
    unfold wpList
    split
    · rename_i hw; rw [if_pos hw] at this; exact .inl this
    · rename_i hw; rw [if_neg hw] at this; exact this
end Go.Proofs.Ytaeeipojnfooeaa
