/-
  Contracts with results that are known to be there only; what a call draws.
-/
import Derived.Test.YtpoemjeelbmpkaaGreatAI17
import Derived.Test.YtpoemjeelbmpkaaGreatPtr
/-
  A struct is moved out of a row of one's own: its slices get numbers of their own, the row keeps dead cells in their places.
-/
namespace Go.Proofs.YtpoemjeelbmpkaaGreat
open Go.RowKit
set_option linter.unusedVariables false
set_option linter.unusedSimpArgs false
end Go.Proofs.YtpoemjeelbmpkaaGreat

namespace Go.Proofs.YtpoemjeelbmpkaaGreat
open Go.RowKit
set_option linter.unusedVariables false
set_option linter.unusedSimpArgs false
/-- For some x of I: what a call gives, and what is then in the structs that its arguments point to. -/
def ConX (P : Program) (f : FuncId) (args : List PA) {ι : Type} (I : ι → Prop) (outs : ι → List (List CD)) (rs : ι → List RD) : Prop :=
  (∃ fn, P.funcs[f]? = some fn ∧ fn.body.isNone = false ∧ (fn.name == "runtime.NumGoroutine") = false) ∧
  ∀ w us fp fw S, GI w → (∀ k ∈ GBl, S k) → (∀ k, S k → k < w.heap.size ∧ k ∉ fp) → RepPAs w S args us fp fw → fp.Nodup → Calls P f us.toArray w fun e w' => ∃ X, I X ∧ (Bel (· ∈ fp) w w' ∧ ∃ S' vs f1 f2 fw1 fw2,
    ((∀ k, S k → S' k) ∧ (∀ k, S' k → S k ∨ k ∈ fp ∨ w.heap.size ≤ k) ∧ ∀ k, S' k → k < w'.heap.size ∧ k ∉ f1 ++ f2) ∧ e = .returned (retV (packR (rs X) vs)) ∧ OwnCs w' S' (flatR (rs X)) vs f1 fw1 ∧ OutP w' S' (ptrs args us) (outs X) f2 fw2 ∧
    (f1 ++ f2).Nodup ∧ (∀ k ∈ f1 ++ f2, k < w'.heap.size ∧ (k ∈ fp ∨ w.heap.size ≤ k)) ∧ ∀ k ∈ fw1 ++ fw2, k ∈ fp ∨ w.heap.size ≤ k)
theorem callX_ok {P : Program} {ι : Type} {I : ι → Prop} {w0 : World0} {G : Gh} {s t : AS} {a : Act} {w : World} (h : Rel w0 G s a w) {F : FuncId} {cap : List AV} {args : Array Operand} {tys : Array TypeId} {f : Operand} {dst : Option Tmp} {ty : TypeId} {pos : String} {af : Array Edge} {gd : Option (Nat × Bool)} {ps : List PA} {outs : ι → List (List CD)} {rs : ι → List RD} {e b : List Nat}
    (hc : ConX P F ps I outs rs) (hf : s.ev f = .fn F cap) (he : ePs s (args.toList.map s.ev ++ cap) ps = e) (hb : bPs (args.toList.map s.ev ++ cap) ps = b)
    (htt : (t = (s.kl e).kb b ∧ ∀ x, I x → ((flatR (rs x)).all noC && (outs x).all fun cs => cs.all noC) = true) ∨ t = s.em) (ha : mPs t s (args.toList.map s.ev ++ cap) ps) (hne : e.Nodup) (hnb : b.Nodup) {Q : Exit → Act → World → Prop} {K : Act → World → Prop}
    (hK : ∀ x, I x → ∀ a' w', ((e = [] ∧ b = [] → Below w.heap.size w w') ∧ ∃ G', Rel w0 G' ((aftS s e b (outs x) (rs x)).pt dst (aftV s e b (rs x))) a' w') → K a' w') :
    (Oper.mk dst (.call ⟨.value f, args, tys⟩) ty pos af gd).wp P a w K Q := by
  obtain ⟨G, h, hq⟩ := h.flq
  have hfv := h.ev f
  rw [hf] at hfv
  unfold RV at hfv
  obtain ⟨us, hu, hr⟩ := hfv
  have hargs : RVs G w s.owf s.nx (args.toList.map s.ev ++ cap) (args.toList.map a.eval ++ us) := (h.evs args.toList).append _ _ _ _ hr
  have hrel0 : Rel w0 { G with Z := G.Z } ((s.kl e).kb b) a w := by
    have := (h.aft (e := e) (b := b) (fp := []) (fw := []) (w' := w) (Z1 := G.Z) (Bel.refl _ _) (by simp) (by simp) (fun _ h => h) (fun _ h => .inl h) h.zl)
    exact this
  have hrt : Rel w0 G t a w ∧ t.nx = s.nx ∧ (∀ o I, t.owf o = some I → s.owf o = some I) ∧ ∀ k, Reach G t k → G.Z k ∨ ((∃ o I, s.owf o = some I ∧ o ∉ e ∧ k ∈ G.B o) ∨ ∃ x cs, look s.bx x = some cs ∧ x ∉ b ∧ G.β x = k) := by
    rcases htt with ⟨rfl, _⟩ | rfl
    · refine ⟨hrel0, rfl, fun o I ho => (kl_owf ho).1, fun k hk => ?_⟩
      rcases hk with hk | ⟨o, I, ho, hk⟩ | ⟨x, cs, hx, hk⟩
      · exact .inl hk
      · obtain ⟨h1, h2⟩ := kl_owf (s := s) (l := e) ho
        exact .inr (.inl ⟨o, I, h1, h2, hk⟩)
      · unfold AS.kb at hx
        simp only at hx
        rw [look_rmBs] at hx
        split at hx
        · cases hx
        · rename_i hn; exact .inr (.inr ⟨x, cs, hx, hn, hk⟩)
    · exact ⟨h.em, rfl, em_owf, fun k hk => .inl (reach_em hk)⟩
  obtain ⟨hrt1, hrt2, hrt3, hrt4⟩ := hrt
  obtain ⟨fp, fw, hrep, hnd, hfr, hfw, hptr, hlive⟩ := mPs_own h hq hrt1 hrt2 hrt3 ps hargs ha (by rw [he]; exact hne) (by rw [hb]; exact hnb)
  rw [he, hb] at hfr
  rw [hb] at hptr hlive
  have hS : ∀ k, Reach G t k → k < w.heap.size ∧ k ∉ fp := fun k hk => by
    refine ⟨hrt1.reach k hk, fun hk' => ?_⟩
    have h1 := hfr k hk'
    rcases hrt4 k hk with hz | ⟨o, I, ho, hno, hk⟩ | ⟨x, cs, hx, hnx, rfl⟩
    · exact (Fr.lt h h1).1.1 hz
    · exact Fr.ne h h1 (.inl ⟨o, List.mem_cons_self, I, ho, hk⟩ : Fr G s [o] [] k) (fun q hq hq' => hno (List.mem_singleton.1 hq' ▸ hq)) (by simp)
    · exact Fr.ne h h1 (.inr ⟨x, List.mem_cons_self, cs, hx, rfl⟩ : Fr G s [] [x] _) (by simp) (fun q hq hq' => hnx (List.mem_singleton.1 hq' ▸ hq))
  obtain ⟨⟨fn, hfn, hbody, hname⟩, hcon⟩ := hc
  have hcall := hcon w _ _ _ _ (w0.gi w h.bel.size h.bel.block) (fun k hk => .inl (h.zz.1 k (w0.gz k hk))) hS hrep hnd
  unfold Oper.wp
  have hrun : (execOp a.eval ⟨dst, .call { callee := .value f, args := args, argTypes := tys }, ty, pos, af, gd⟩).run P w = .ok (.enter F (args.toList.map a.eval ++ us).toArray) w := by
    have e1 : ((#[] : Array Value) ++ args.map a.eval) ++ us.toArray = (args.toList.map a.eval ++ us).toArray := by
      apply Array.ext'; simp
    simp only [execOp, resolve, Deferred.ofValue, hu, pure_bind, invoke, e1, callFunc, Sem.run_bind, program, Sem.run, Result.andThen_ok, hfn, hname, hbody, Bool.false_eq_true, if_false, Sem.run_pure]
  rw [hrun]
  refine hcall.mono fun en w' ⟨X, hX, hbel, S', vs, f1, f2, fw1, fw2, ⟨hs1, hs2, hs3⟩, hen, hown, hout, hnd2, hsub, hsubw⟩ => ?_
  subst hen
  have hbs := h.bel.size
  have hbz := hbel.size
  rw [hptr] at hout
  -- what is frozen now
  obtain ⟨Z1, z1, z2, z3, z4, z5⟩ : ∃ Z1 : Nat → Prop, (∀ k, G.Z k → Z1 k) ∧ (∀ k, Z1 k → G.Z k ∨ k ∈ fp ∨ w.heap.size ≤ k) ∧ (∀ k, Z1 k → k < w'.heap.size ∧ k ∉ f1 ++ f2) ∧ OwnCs w' Z1 (flatR (rs X)) vs f1 fw1 ∧ OutP w' Z1 (b.map G.β) (outs X) f2 fw2 := by
    rcases htt with ⟨_, hno⟩ | rfl
    · have hno := hno X hX
      simp only [Bool.and_eq_true] at hno
      exact ⟨G.Z, fun _ h => h, fun _ h => .inl h, fun k hk => ⟨Nat.lt_of_lt_of_le (h.zl k hk) hbz, (hs3 k (hs1 k (.inl hk))).2⟩, nos_own hno.1 hown, noO_own hno.2 hout⟩
    · exact ⟨S', fun k hk => hs1 k (.inl hk), fun k hk => (hs2 k hk).imp reach_em id, hs3, hown, hout⟩
  have hr1 := h.aft (e := e) (b := b) (fw := fp) hbel hfr (fun k hk => ⟨hk, (Fr.lt h (hfr k hk)).1.2.imp id (w0.mw k)⟩) z1 z2 (fun k hk => (z3 k hk).1)
  have hfree : ∀ k ∈ f1 ++ f2, (¬ Z1 k ∧ (w0.heap.size ≤ k ∨ w0.mv k)) ∧ (∀ x cs, look ((s.kl e).kb b).bx x = some cs → G.β x ≠ k) ∧ ∀ o I, ((s.kl e).kb b).owf o = some I → k ∉ G.B o := fun k hk => by
    obtain ⟨q1, q2⟩ := hsub k hk
    refine ⟨⟨fun hz => (z3 k hz).2 hk, ?_⟩, fun x cs hx e2 => ?_, fun o I ho hko => ?_⟩
    · rcases q2 with q2 | q2
      · exact (Fr.lt h (hfr k q2)).1.2
      · exact .inl (by omega)
    · unfold AS.kb at hx
      simp only at hx
      rw [look_rmBs] at hx
      split at hx
      · cases hx
      · rename_i hn
        rcases q2 with q2 | q2
        · exact Fr.ne h (hfr k q2) (.inr ⟨x, List.mem_cons_self, cs, hx, e2⟩ : Fr G s [] [x] k) (by simp) (fun q hq hq' => hn (List.mem_singleton.1 hq' ▸ hq))
        · obtain ⟨_, _, _, _, h7, _⟩ := h.bx x cs hx
          have := h7.lt; omega
    · obtain ⟨h1, h2⟩ := kl_owf (s := s) (l := e) ho
      rcases q2 with q2 | q2
      · exact Fr.ne h (hfr k q2) (.inl ⟨o, List.mem_cons_self, I, h1, hko⟩ : Fr G s [o] [] k) (fun q hq hq' => h2 (List.mem_singleton.1 hq' ▸ hq)) (by simp)
      · have := ((h.own o I h1).2.1.1 k hko).2; omega
  have hwr : ∀ k ∈ fw1 ++ fw2, w0.heap.size ≤ k ∨ w0.wr k := fun k hk => (hsubw k hk).elim (fun h1 => (Fr.lt h (hfr k h1)).1.2.imp id (w0.mw k)) (fun h1 => .inl (by omega))
  obtain ⟨d1, d2, d3⟩ := List.nodup_append.1 hnd2
  obtain ⟨G', m1, m2, m3, m4, m5, m6, m7, m8, m9⟩ := mkC_ok (flatR (rs X)) vs f1 fw1 { G with Z := Z1 } _ hr1 z4 (fun _ h => h) d1 (fun k hk => (hfree k (by simp [hk])).1) (fun k hk => hwr k (by simp [hk])) (fun k hk => (hfree k (by simp [hk])).2)
  obtain ⟨G2, r1, r2⟩ := mkO_ok b (outs X) f2 fw2 G' (mkC ((s.kl e).kb b) (flatR (rs X))).2 (β0 := G.β) m1 (by rw [m4]; exact z5) (fun x hx => by
      obtain ⟨cs, hl⟩ := hlive x hx
      obtain ⟨q1, q2, us', T, q3, q4⟩ := h.bx x cs hl
      refine ⟨Nat.lt_of_lt_of_le q1 m7, m8 x q1, ?_, ?_, q2.2⟩
      · rw [m5]
        show look (rmBs b _) x = none
        rw [look_rmBs, if_pos hx]
      · rw [m4]
        intro hz
        have key : ∀ (gs : List Nat) (ou : List (List CD)) (f fw : List Nat), OutP w' Z1 gs ou f fw → ∀ g ∈ gs, g ∈ f := by
          intro gs
          induction gs with
          | nil => intro _ _ _ _ g hg; cases hg
          | cons g gs ih =>
            intro ou f fw ho q hq
            cases ou with
            | nil => unfold OutP at ho; exact ho.elim
            | cons cs ou =>
              unfold OutP at ho
              obtain ⟨_, _, _, f2', _, _, _, _, rfl, _, h5⟩ := ho
              rcases List.mem_cons.1 hq with rfl | hq
              · simp
              · simp [ih _ _ _ h5 q hq]
        exact (z3 _ hz).2 (List.mem_append.2 (.inr (key _ _ _ _ z5 _ (List.mem_map.2 ⟨x, hx, rfl⟩))))) d2 (fun k hk => by rw [m4]; exact (hfree k (by simp [hk])).1) (fun k hk => hwr k (by simp [hk])) (fun k hk => by
      obtain ⟨_, q1, q2⟩ := hfree k (by simp [hk])
      refine ⟨fun x cs hx => ?_, fun o I ho hk' => ?_⟩
      · rw [m5] at hx
        rw [m8 x (hr1.bx x cs hx).1]
        exact q1 x cs hx
      · rcases m9 o I ho with ⟨q3, q4⟩ | q
        · exact q2 o I q3 (q4 ▸ hk')
        · exact d3 k (q k hk') k hk rfl)
  have hbl : e = [] ∧ b = [] → Below w.heap.size w w' := fun ⟨he0, hb0⟩ => ⟨hbel.os, hbel.tape, hbel.output, hbel.size, fun k hk => hbel.block k hk fun hk' => by
    have h1 := hfr k hk'
    rw [he0, hb0] at h1
    rcases h1 with ⟨o, ho, _⟩ | ⟨x, hx, _⟩
    · cases ho
    · cases hx⟩
  exact hK X hX _ w' ⟨hbl, G2, r1.pt dst (r2 _ _ (ret_ok (packR_ok (rs X) _ _ m2 (mkC_len _ _))))⟩
theorem conX_P {P : Program} {f : FuncId} {args : List PA} {outs : List (List CD)} {rs : List RD} (h : ConP P f args outs rs) : ConX P f args (fun _ : Unit => True) (fun _ => outs) (fun _ => rs) :=
  ⟨h.1, fun w us fp fw S a b c d e => (h.2 w us fp fw S a b c d e).mono fun _ _ hx => ⟨(), trivial, hx⟩⟩
/-- Drawn calls by a contract of one outcome; what is shared may be given back: of a function that takes nothing over (B), of one that does (R). -/
theorem sw_callDPB {P : Program} {all : List Oper} {r : OrdT} {st : List It} {dst : Option Tmp} {f : Operand} {args : Array Operand} {tys : Array TypeId} {ty : TypeId} {pos : String} {af : Array Edge} {gd : Option (Nat × Bool)} {s : AS} {Q : QE} {F : FuncId} {cap : List AV} {ps : List PA} {outs : List (List CD)} {rs : List RD}
    (hc : ConP P F ps outs rs) (hf : s.ev f = .fn F cap) (he : ePs s (args.toList.map s.ev ++ cap) ps = []) (hb : bPs (args.toList.map s.ev ++ cap) ps = []) (ha : mPs s.em s (args.toList.map s.ev ++ cap) ps)
    (h : SW P (.dr all r :: st) ((aftS s [] [] outs rs).pt dst (aftV s [] [] rs)) Q) : SW P (.dg all ⟨dst, .call ⟨.value f, args, tys⟩, ty, pos, af, gd⟩ false r :: st) s Q := fun w0 G a w hr =>
  callX_ok hr (conX_P hc) hf he hb (.inr rfl) ha List.nodup_nil List.nodup_nil fun x hx a' w' ⟨hbl, G', hr'⟩ => ⟨⟨fun _ => hbl ⟨rfl, rfl⟩, hr'.bel⟩, h w0 G' a' w' hr'⟩
/-- An owned slice is only read from now on. -/
theorem sw_fzE {P : Program} {Q : QE} {all rest : List Oper} {op : Oper} {st : List It} {s : AS} (o : Nat) {I : OwnI} (hI : s.owf o = some I) (h : SW P (.ex all op rest :: st) (s.fz o I.d) Q) : SW P (.ex all op rest :: st) s Q := fun w0 G a w hr => h w0 _ a w (hr.fz hI)
theorem sw_fzG {P : Program} {Q : QE} {all : List Oper} {op : Oper} {b : Bool} {r : OrdT} {st : List It} {s : AS} (o : Nat) {I : OwnI} (hI : s.owf o = some I) (h : SW P (.dg all op b r :: st) (s.fz o I.d) Q) : SW P (.dg all op b r :: st) s Q := fun w0 G a w hr => h w0 _ a w (hr.fz hI)
/-! ## Bytes, and what draws from them -/
end Go.Proofs.YtpoemjeelbmpkaaGreat
