/-
  slices.Grow of nothing: an empty slice with room behind it.
-/
import Derived.Test.YtgjcilainojlfaaAI17
import Derived.Lib.AppendZeros
namespace Go.Proofs.Ytgjcilainojlfaa
open Go.RowKit
set_option linter.unusedVariables false
set_option linter.unusedSimpArgs false
set_option maxRecDepth 20000
/-- A function that grows nothing by n. -/
def GrowC (P : Program) (F : FuncId) (T : TypeId) (sz : Nat) : Prop :=
  (∃ fn, P.funcs[F]? = some fn ∧ fn.body.isNone = false ∧ (fn.name == "runtime.NumGoroutine") = false) ∧
  ∀ (n : Nat) (w : World), n ≤ 1000000000 → Calls P F #[.slice none 0 0, .int .i64 n] w fun e w' => ∃ v, e = .returned v ∧ w'.ownsRow w.heap.size T sz v 0 [] ∧ Below w.heap.size w w'
theorem sw_callG {P : Program} {all rest : List Oper} {st : List It} {dst : Option Tmp} {f : Operand} {args : Array Operand} {tys : Array TypeId} {ty : TypeId} {pos : String} {af : Array Edge} {gd : Option (Nat × Bool)} {s : AS} {Q : QE} {F : FuncId} {T : TypeId} {sz n : Nat}
    {y : Operand} (hc : GrowC P F T sz) (hf : s.ev f = .fn F []) (ha : args.toList = [.const (.slice none 0 0), y]) (hy : s.ev y = .i n) (hn : n ≤ 1000000000)
    (h : SW P (.ops all rest :: st) ((s.mk' [] ⟨.rows sz 0 [], some T, true⟩).pt dst (.sl s.nx)) Q) :
    SW P (.ex all ⟨dst, .call ⟨.value f, args, tys⟩, ty, pos, af, gd⟩ rest :: st) s Q := fun w0 G a w hr => by
  have hfv := hr.ev f
  rw [hf] at hfv
  unfold RV at hfv
  obtain ⟨us, hu, hrs⟩ := hfv
  unfold RVs at hrs
  subst hrs
  have hv2 := hr.ev y
  rw [hy] at hv2
  unfold RV at hv2
  have e1 : args.toList.map a.eval = [.slice none 0 0, .int .i64 n] := by rw [ha]; simp only [List.map_cons, List.map_nil, hv2]; rfl
  obtain ⟨⟨fn, hfn, hbody, hname⟩, hcon⟩ := hc
  have hcall := hcon n w hn
  show (Oper.mk dst (.call ⟨.value f, args, tys⟩) ty pos af gd).wp P a w _ _
  unfold Oper.wp
  have hrun : (execOp a.eval ⟨dst, .call { callee := .value f, args := args, argTypes := tys }, ty, pos, af, gd⟩).run P w = .ok (.enter F #[.slice none 0 0, .int .i64 n]) w := by
    have e4 : ((#[] : Array Value) ++ args.map a.eval) ++ ([] : List Value).toArray = #[.slice none 0 0, .int .i64 n] := by
      apply Array.ext'; simp [e1]
    simp only [execOp, resolve, Deferred.ofValue, hu, pure_bind, invoke, e4, callFunc, Sem.run_bind, program, Sem.run, Result.andThen_ok, hfn, hname, hbody, Bool.false_eq_true, if_false, Sem.run_pure]
  rw [hrun]
  refine hcall.mono fun e w' ⟨v, he, hown, hb⟩ => ?_
  subst he
  have hbs := hr.bel.size
  have h' := hr.later hb
  have hown' := ownsRow_r hown
  have hge : ∀ k ∈ rowR v, w.heap.size ≤ k := fun k hk => by
    rcases hown.2 with ⟨rfl, _⟩ | ⟨g, cap, cur, rfl, hg, _⟩
    · simp [rowR] at hk
    · cases cap with
      | zero => simp [rowR] at hk
      | succ c => simp [rowR] at hk; omega
  obtain ⟨a2, cap2, ev, q1, q2, hlt, _⟩ := row_shape hown'
  have hrow : ∀ k ∈ rowR v, k < w'.heap.size ∧ w.heap.size ≤ k := fun k hk => ⟨(hlt k hk).1, hge k hk⟩
  have hrn : (rowR v).Nodup := by
    subst ev
    cases a2 <;> cases cap2 <;> simp [rowR]
  have hO : OwnVs w' [] [] [] := by unfold OwnVs; exact ⟨rfl, rfl⟩
  have hP : ∀ S : Nat → Prop, RepPs w' S [] [] := fun S => by unfold RepPs; rfl
  have hR : Res w0 G.Z w' (rowR v) v ⟨.rows sz 0 [], some T, true⟩ := by
    refine ⟨fun k hk => ⟨⟨fun hz => absurd (hr.zl _ hz) (Nat.not_lt.2 (hrow k hk).2), .inl (Nat.le_trans hbs (hrow k hk).2)⟩, (hrow k hk).1⟩, row_rep hown' (hP _) (fun k hk => .inr hk), fun _ => ⟨by have := row_own hown' hO; simpa using this, hrn⟩, fun T' hT => ?_⟩
    injection hT with hT
    subst hT
    exact ⟨sz, 0, [], [], rfl, hown', hP _, fun k hk => ⟨hk, .inl (Nat.le_trans hbs (hrow k hk).2)⟩, by simp, fun _ => ⟨[], hO, by simp, by simp⟩⟩
  obtain ⟨h3, h4⟩ := h'.own' (w' := w') (eats := []) h'.bel (Nat.le_refl _) (fun _ _ _ => rfl) hR (by rw [ev]; rfl) (fun b cs hl hk => by
    obtain ⟨_, _, _, _, h7, _⟩ := hr.bx b cs hl
    have := h7.lt
    have := (hrow _ hk).2
    omega) (fun o I ho _ k hk hk' => by
    have := ((hr.own o I ho).2.1.1 k hk).2
    have := (hrow k hk').2
    omega)
  exact h w0 _ _ w' (h3.pt dst h4)
end Go.Proofs.Ytgjcilainojlfaa
