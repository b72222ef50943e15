/-
  Contracts of functions that take slices over: what an argument owns may be part of the result.
-/
import Derived.Test.YtaeeipojnfooeaaAI16
namespace Go.Proofs.Ytaeeipojnfooeaa
open Go.RowKit
set_option linter.unusedVariables false
set_option linter.unusedSimpArgs false
/-- An argument: only read, or taken over: a cell, a struct's cells. -/
inductive MA where
  | b (p : PD)
  | m (d : D)
  | g (ds : List D)
def RepMA (w : World) : MA → Value → List Nat → Prop
  | .b p, v, f => RepPD w p v ∧ f = []
  | .m d, v, f => OwnV w d v f
  | .g ds, v, f => ∃ vs, v = .agg vs.toArray ∧ OwnVs w ds vs f
def RepMAs (w : World) : List MA → List Value → List Nat → Prop
  | [], us, fp => us = [] ∧ fp = []
  | p :: ps, us, fp => ∃ v r f g, us = v :: r ∧ fp = f ++ g ∧ RepMA w p v f ∧ RepMAs w ps r g
def ConM (P : Program) (f : FuncId) (args : List MA) (rs : List PD) : Prop :=
  (∃ fn, P.funcs[f]? = some fn ∧ fn.body.isNone = false ∧ (fn.name == "runtime.NumGoroutine") = false) ∧
  ∀ w us fp, RepMAs w args us fp → fp.Nodup → Calls P f us.toArray w fun e w' => Below w.heap.size w w' ∧ ∃ vs fp', e = .returned (retV (packV rs vs)) ∧ OwnVs w' (flatD rs) vs fp' ∧ fp'.Nodup ∧ ∀ k ∈ fp', k ∈ fp ∨ w.heap.size ≤ k
/-! ## From a run to a contract -/
def flatM : List MA → List D
  | [] => []
  | .b _ :: r => flatM r
  | .m d :: r => d :: flatM r
  | .g ds :: r => ds ++ flatM r
def packM : List MA → List AV → List AV
  | [], _ => []
  | .b p :: r, us => argA p :: packM r us
  | .m _ :: r, us => us.headD .un :: packM r us.tail
  | .g ds :: r, us => .ag (us.take ds.length) :: packM r (us.drop ds.length)
def numT : Nat → List AV → List (Nat × AV)
  | _, [] => []
  | i, a :: r => (i, a) :: numT (i + 1) r
theorem repM_flat {w : World} : ∀ (args : List MA) (us : List Value) (fp : List Nat), RepMAs w args us fp → ∃ vs, OwnVs w (flatM args) vs fp ∧ ∀ (G : Gh) (owf : Nat → Option OwnI) (nx : Nat) (avs : List AV), RVs w.heap.size G w owf nx avs vs → RVs w.heap.size G w owf nx (packM args avs) us
  | [], us, fp, h => by
    unfold RepMAs at h
    obtain ⟨rfl, rfl⟩ := h
    exact ⟨[], by unfold flatM OwnVs; exact ⟨rfl, rfl⟩, fun G owf nx avs h => by unfold packM RVs; rfl⟩
  | .b p :: r, us, fp, h => by
    unfold RepMAs RepMA at h
    obtain ⟨v, us', f, g, rfl, rfl, ⟨h1, rfl⟩, h2⟩ := h
    obtain ⟨vs, h3, h4⟩ := repM_flat r us' g h2
    exact ⟨vs, by unfold flatM; simpa using h3, fun G owf nx avs h => by unfold packM RVs; exact ⟨v, us', rfl, argA_ok h1, h4 G owf nx avs h⟩⟩
  | .m d :: r, us, fp, h => by
    unfold RepMAs RepMA at h
    obtain ⟨v, us', f, g, rfl, rfl, h1, h2⟩ := h
    obtain ⟨vs, h3, h4⟩ := repM_flat r us' g h2
    refine ⟨v :: vs, by unfold flatM OwnVs; exact ⟨v, vs, f, g, rfl, rfl, h1, h3⟩, fun G owf nx avs h => ?_⟩
    match avs, h with
    | [], h => unfold RVs at h; cases h
    | x :: xs, h =>
      unfold RVs at h
      obtain ⟨u, r', e, h5, h6⟩ := h
      injection e with e1 e2
      subst e1 e2
      unfold packM RVs
      exact ⟨v, us', rfl, h5, h4 G owf nx xs h6⟩
  | .g ds :: r, us, fp, h => by
    unfold RepMAs RepMA at h
    obtain ⟨v, us', f, g, rfl, rfl, ⟨ws, rfl, h1⟩, h2⟩ := h
    obtain ⟨vs, h3, h4⟩ := repM_flat r us' g h2
    have hl := OwnVs.len _ _ _ h1
    refine ⟨ws ++ vs, by unfold flatM; exact OwnVs.append _ _ _ _ _ _ h1 h3, fun G owf nx avs h => ?_⟩
    unfold packM RVs
    have h7 := h.take ds.length
    have h8 := h.drop ds.length
    rw [List.take_left' hl] at h7
    rw [List.drop_left' hl] at h8
    exact ⟨_, us', rfl, by unfold RV; exact ⟨ws, rfl, h7⟩, h4 G owf nx _ h8⟩
theorem numT_look {base nx : Nat} {G : Gh} {w : World} {owf : Nat → Option OwnI} : ∀ (avs : List AV) (us : List Value) (i t : Nat) (v : AV), RVs base G w owf nx avs us → look (numT i avs) t = some v → i ≤ t ∧ ∃ u, us[t - i]? = some u ∧ RV base G w owf nx v u
  | [], us, i, t, v, h, hl => by cases hl
  | p :: ps, us, i, t, v, h, hl => by
    unfold RVs at h
    obtain ⟨u, r, rfl, h1, h2⟩ := h
    unfold numT at hl
    rw [look_cons] at hl
    split at hl
    · rename_i e
      subst e
      injection hl with hl
      subst hl
      exact ⟨Nat.le_refl _, u, by simp, h1⟩
    · obtain ⟨h3, u', h4, h5⟩ := numT_look ps r (i + 1) t v h2 hl
      refine ⟨by omega, u', ?_, h5⟩
      have : t - i = (t - (i + 1)) + 1 := by omega
      rw [this]; simpa using h4
theorem RepMAs.len {w : World} : ∀ {ps : List MA} {us : List Value} {fp : List Nat}, RepMAs w ps us fp → us.length = ps.length
  | [], us, fp, h => by unfold RepMAs at h; rw [h.1]; rfl
  | p :: ps, us, fp, h => by
    unfold RepMAs at h
    obtain ⟨u, r, f, g, rfl, _, _, h2⟩ := h
    simp [RepMAs.len h2]
def s0M (nt : Nat) (args : List MA) : AS := { (mkR ⟨nt, [], [], [], 0⟩ (flatM args)).2 with tm := numT 0 (packM args (mkR ⟨nt, [], [], [], 0⟩ (flatM args)).1) }
theorem con_ofM {P : Program} {f : FuncId} {fn : Func} {c : Code} {args : List MA} {rs : List PD} (hf : P.funcs[f]? = some fn) (hb : fn.body = some c) (hn : (fn.name == "runtime.NumGoroutine") = false) (hnt : args.length ≤ fn.ntmps)
    (h : XW P c (s0M fn.ntmps args) fun e s => (e = .ret ∨ e = .normal) ∧ xRet P fn s rs) : ConM P f args rs := by
  refine ⟨⟨fn, hf, by simp [hb], hn⟩, fun w us fp hu hnd => calls_of_wp hf hb ?_⟩
  have hlen := hu.len
  obtain ⟨vs, hown, hpk⟩ := repM_flat args us fp hu
  have hrel0 : Rel ⟨w, fun k => k ∈ fp⟩ ⟨fun _ => [], fun _ => undef, fun _ => 0⟩ ⟨fn.ntmps, [], [], [], 0⟩ { tmps := us.toArray ++ Array.replicate (fn.ntmps - us.toArray.size) undef, defers := [] } w :=
    ⟨by simp; omega, rfl, fun t v ht => (by cases ht), fun b cs hb => (by cases hb), fun _ _ _ _ hb => (by cases hb), fun o I ho => (by cases ho), fun _ _ _ _ ho => (by cases ho), Below.refl _ _⟩
  obtain ⟨G', hr1, hrv, _⟩ := mkR_ok (flatM args) vs fp _ _ hrel0 hown hnd (fun k hk => .inr hk) (fun k hk => ⟨fun b cs hb => (by cases hb), fun o I ho => (by cases ho)⟩)
  have hpk' := hpk G' _ _ _ hrv
  have hrel : Rel ⟨w, fun k => k ∈ fp⟩ G' (s0M fn.ntmps args) { tmps := us.toArray ++ Array.replicate (fn.ntmps - us.toArray.size) undef, defers := [] } w := by
    refine ⟨hr1.nt, rfl, fun t v ht => ?_, hr1.bx, hr1.inj, hr1.own, hr1.dis, hr1.bel⟩
    obtain ⟨_, u, hu', hv⟩ := numT_look _ us 0 t v hpk' ht
    refine ⟨u, ?_, hv⟩
    have hlt : t < us.length := by
      simp only [Nat.sub_zero] at hu'
      exact (List.getElem?_eq_some_iff.1 hu').1
    rw [Array.getElem?_append_left (by simpa using hlt)]
    simpa using hu'
  refine wp_mono (h ⟨w, fun k => k ∈ fp⟩ _ _ w hrel) fun e a' w' ⟨G', s', hr', he, hret, hnd⟩ => ?_
  have hpost : a'.defers = [] ∧ ∃ v, (results fn a'.tmps).run P w' = .ok v w' ∧ (Below w.heap.size w w' ∧ ∃ vs fp', (Ending.returned v) = .returned (retV (packV rs vs)) ∧ OwnVs w' (flatD rs) vs fp' ∧ fp'.Nodup ∧ ∀ k ∈ fp', k ∈ fp ∨ w.heap.size ≤ k) := by
    obtain ⟨avs, hav⟩ := rPs_some hret
    obtain ⟨us', h1, h2⟩ := ress_run hr' _ _ hav
    obtain ⟨vs, h3, h4, h5⟩ := rPs_own hr' hav h2 hret
    refine ⟨hr'.df, retV us', ?_, hr'.bel, vs, _, by rw [← h3], h4, flat_nodup hr' _ hnd h5, fun k hk => ?_⟩
    · rw [results_eq, Array.mapM_eq_mapM_toList]
      simp only [map_eq_pure_bind, Sem.run_bind, h1, Result.andThen_ok, Sem.run_pure]
      match us' with
      | [] => rfl
      | [u] => rfl
      | u :: u2 :: r => simp [retV]
    · obtain ⟨o, ho, hko⟩ := List.mem_flatMap.1 hk
      obtain ⟨I, hI, _⟩ := h5 o ho
      exact ((hr'.own o I hI).2.1.1 k hko).1.symm
  rcases he with rfl | rfl <;> exact hpost
theorem con_runM {P : Program} {f : FuncId} {fn : Func} {c : Code} {args : List MA} {rs : List PD} (hf : P.funcs[f]? = some fn) (hb : fn.body = some c) (hn : (fn.name == "runtime.NumGoroutine") = false) (hnt : args.length ≤ fn.ntmps)
    (h : xRun P 400 [.code c] (s0M fn.ntmps args) (fQ P fn rs)) : ConM P f args rs :=
  con_ofM hf hb hn hnt (XW_of_SW (sw_run 400 _ _ _ h))
/-! ## Calls -/
def mA (s : AS) : AV → MA → Prop
  | a, .b p => aA s a p
  | a, .m d => rD s a d
  | .ag cs, .g ds => rDs s cs ds
  | _, .g _ => False
def mAs (s : AS) : List AV → List MA → Prop
  | [], [] => True
  | a :: r, p :: ps => mA s a p ∧ mAs s r ps
  | _, _ => False
def eatM : List AV → List MA → List Nat
  | a :: r, .m _ :: ps => eatsOf [a] ++ eatM r ps
  | .ag cs :: r, .g _ :: ps => eatsOf cs ++ eatM r ps
  | _ :: r, _ :: ps => eatM r ps
  | _, _ => []
def AS.kl (s : AS) (l : List Nat) : AS := { s with ow := kill l s.ow }
theorem kl_owf {s : AS} {l : List Nat} {o : Nat} {I : OwnI} (h : (s.kl l).owf o = some I) : s.owf o = some I ∧ o ∉ l := by
  unfold AS.kl AS.owf at h
  simp only at h
  rw [look_kill] at h
  split at h
  · cases h
  · rename_i hn; exact ⟨h, hn⟩
theorem Rel.kl {w0 : World0} {G : Gh} {s : AS} {a : Act} {w : World} (h : Rel w0 G s a w) (l : List Nat) : Rel w0 G (s.kl l) a w := by
  have ht : ∀ o I', o < s.nx → (s.kl l).owf o = some I' → s.owf o = some I' ∧ G.root o = G.root o ∧ G.B o = G.B o ∧ ∀ k ∈ G.B o, w.heap[k]? = w.heap[k]? := fun o I' _ ho => ⟨(kl_owf ho).1, rfl, rfl, fun _ _ => rfl⟩
  refine ⟨h.nt, h.df, fun t x hx => ?_, fun b cs hb => ?_, h.inj, fun o I ho => h.own o I (kl_owf ho).1, fun o o' I I' ho ho' => h.dis o o' I I' (kl_owf ho).1 (kl_owf ho').1, h.bel⟩
  · obtain ⟨u, hu, hr⟩ := h.tm t x hx
    exact ⟨u, hu, RV.turn (Nat.le_refl _) (fun _ _ => rfl) (fun _ _ => rfl) ht x u hr⟩
  · obtain ⟨h1, h2, us, T, h3, h4⟩ := h.bx b cs hb
    exact ⟨h1, h2, us, T, h3, RVs.turn (Nat.le_refl _) (fun _ _ => rfl) (fun _ _ => rfl) ht _ _ h4⟩
theorem mAs_own {w0 : World0} {G : Gh} {s : AS} {a : Act} {w : World} (h : Rel w0 G s a w) : ∀ (l : List AV) (ps : List MA) (us : List Value), RVs w0.heap.size G w s.owf s.nx l us → mAs s l ps → RepMAs w ps us ((eatM l ps).flatMap G.B) ∧ ∀ o ∈ eatM l ps, ∃ I, s.owf o = some I ∧ I.deep = true
  | [], [], us, hr, _ => by unfold RVs at hr; subst hr; exact ⟨by unfold RepMAs; exact ⟨rfl, rfl⟩, by simp [eatM]⟩
  | [], _ :: _, us, hr, hm => hm.elim
  | _ :: _, [], us, hr, hm => hm.elim
  | x :: l, .b p :: ps, us, hr, hm => by
    unfold RVs at hr
    obtain ⟨u, r, rfl, h1, h2⟩ := hr
    obtain ⟨h3, h4⟩ := mAs_own h l ps r h2 hm.2
    have e : eatM (x :: l) (.b p :: ps) = eatM l ps := by cases x <;> rfl
    rw [e]
    exact ⟨by unfold RepMAs RepMA; exact ⟨u, r, [], _, rfl, rfl, ⟨AArg.ok h (aA_ok hm.1) h1, rfl⟩, h3⟩, h4⟩
  | x :: l, .m d :: ps, us, hr, hm => by
    unfold RVs at hr
    obtain ⟨u, r, rfl, h1, h2⟩ := hr
    obtain ⟨h3, h4⟩ := mAs_own h l ps r h2 hm.2
    obtain ⟨h5, h6⟩ := rD_own h h1 hm.1
    have e : eatM (x :: l) (.m d :: ps) = eatsOf [x] ++ eatM l ps := by cases x <;> rfl
    rw [e, List.flatMap_append]
    refine ⟨by unfold RepMAs RepMA; exact ⟨u, r, _, _, rfl, rfl, h5, h3⟩, fun o ho => ?_⟩
    rcases List.mem_append.1 ho with ho | ho
    · exact h6 o ho
    · exact h4 o ho
  | x :: l, .g ds :: ps, us, hr, hm => by
    unfold RVs at hr
    obtain ⟨u, r, rfl, h1, h2⟩ := hr
    obtain ⟨h3, h4⟩ := mAs_own h l ps r h2 hm.2
    cases x <;> first | exact hm.1.elim | skip
    rename_i cs
    unfold RV at h1
    obtain ⟨ws, rfl, h1⟩ := h1
    obtain ⟨h5, h6⟩ := rDs_own h h1 hm.1
    have e : eatM (.ag cs :: l) (.g ds :: ps) = eatsOf cs ++ eatM l ps := rfl
    rw [e, List.flatMap_append]
    refine ⟨by unfold RepMAs RepMA; exact ⟨_, r, _, _, rfl, rfl, ⟨ws, rfl, h5⟩, h3⟩, fun o ho => ?_⟩
    rcases List.mem_append.1 ho with ho | ho
    · exact h6 o ho
    · exact h4 o ho
theorem callM_ok {P : Program} {w0 : World0} {G : Gh} {s : AS} {a : Act} {w : World} (h : Rel w0 G s a w) {F : FuncId} {cap : List AV} {args : Array Operand} {tys : Array TypeId} {f : Operand} {dst : Option Tmp} {ty : TypeId} {pos : String} {af : Array Edge} {gd : Option (Nat × Bool)} {ps : List MA} {rs : List PD}
    (hc : ConM P F ps rs) (hf : s.ev f = .fn F cap) (ha : mAs s (args.toList.map s.ev ++ cap) ps) (hnd : (eatM (args.toList.map s.ev ++ cap) ps).Nodup) (ho : okR rs) {Q : Exit → Act → World → Prop} {K : Act → World → Prop}
    (hK : ∀ a' w', Below w.heap.size w w' → (∃ G', Rel w0 G' ((mkR (s.kl (eatM (args.toList.map s.ev ++ cap) ps)) (flatD rs)).2.pt dst (retA (packA rs (mkR (s.kl (eatM (args.toList.map s.ev ++ cap) ps)) (flatD rs)).1))) a' w') → K a' w') :
    (Oper.mk dst (.call ⟨.value f, args, tys⟩) ty pos af gd).wp P a w K Q := by
  have hfv := h.ev f
  rw [hf] at hfv
  unfold RV at hfv
  obtain ⟨us, hu, hr⟩ := hfv
  have hargs : RVs w0.heap.size G w s.owf s.nx (args.toList.map s.ev ++ cap) (args.toList.map a.eval ++ us) := (h.evs args.toList).append _ _ _ _ hr
  obtain ⟨hrep, hlive⟩ := mAs_own h _ _ _ hargs ha
  obtain ⟨⟨fn, hfn, hbody, hname⟩, hcon⟩ := hc
  have hcall := hcon w _ _ hrep (flat_nodup h _ hnd hlive)
  unfold Oper.wp
  have hrun : (execOp a.eval ⟨dst, .call { callee := .value f, args := args, argTypes := tys }, ty, pos, af, gd⟩).run P w = .ok (.enter F (args.toList.map a.eval ++ us).toArray) w := by
    have e1 : ((#[] : Array Value) ++ args.map a.eval) ++ us.toArray = (args.toList.map a.eval ++ us).toArray := by
      apply Array.ext'; simp
    simp only [execOp, resolve, Deferred.ofValue, hu, pure_bind, invoke, e1, callFunc, Sem.run_bind, program, Sem.run, Result.andThen_ok, hfn, hname, hbody, Bool.false_eq_true, if_false, Sem.run_pure]
  rw [hrun]
  refine hcall.mono fun e w' ⟨hb, vs, fp', he, hown, hn', hsub⟩ => ?_
  subst he
  have h' := (h.later hb).kl (eatM (args.toList.map s.ev ++ cap) ps)
  have hbs := h.bel.size
  have hbsz := hb.size
  obtain ⟨G', h5, h6, _⟩ := mkR_ok (flatD rs) vs fp' G _ h' hown hn' (fun k hk => by
    rcases hsub k hk with h1 | h1
    · obtain ⟨o, ho, hko⟩ := List.mem_flatMap.1 h1
      obtain ⟨I, hI, _⟩ := hlive o ho
      exact ((h.own o I hI).2.1.1 k hko).1
    · exact .inl (Nat.le_trans hbs h1)) (fun k hk => ⟨fun b cs hl e => by
      rcases hsub k hk with h1 | h1
      · obtain ⟨o, ho, hko⟩ := List.mem_flatMap.1 h1
        obtain ⟨I, hI, _⟩ := hlive o ho
        exact (h.own o I hI).2.2 b cs hl (e ▸ hko)
      · obtain ⟨_, _, _, _, h7, _⟩ := h.bx b cs hl
        have := h7.lt
        omega, fun o I hI hk' => by
      obtain ⟨hI, hno⟩ := kl_owf hI
      rcases hsub k hk with h1 | h1
      · obtain ⟨o', ho', hko⟩ := List.mem_flatMap.1 h1
        obtain ⟨I', hI', _⟩ := hlive o' ho'
        exact h.dis o o' I I' hI hI' (fun e => hno (e ▸ ho')) k hk' hko
      · have := ((h.own o I hI).2.1.1 k hk').2
        omega⟩)
  exact hK _ w' hb ⟨G', h5.pt dst (ret_ok (pack_ok rs _ _ h6 (mkR_len _ _) (okR_ok ho)))⟩
theorem sw_callM {P : Program} {all rest : List Oper} {st : List It} {dst : Option Tmp} {f : Operand} {args : Array Operand} {tys : Array TypeId} {ty : TypeId} {pos : String} {af : Array Edge} {gd : Option (Nat × Bool)} {s : AS} {Q : QE} {F : FuncId} {cap : List AV} {ps : List MA} {rs : List PD}
    (hc : ConM P F ps rs) (hf : s.ev f = .fn F cap) (ha : mAs s (args.toList.map s.ev ++ cap) ps) (hnd : (eatM (args.toList.map s.ev ++ cap) ps).Nodup) (ho : okR rs)
    (h : SW P (.ops all rest :: st) ((mkR (s.kl (eatM (args.toList.map s.ev ++ cap) ps)) (flatD rs)).2.pt dst (retA (packA rs (mkR (s.kl (eatM (args.toList.map s.ev ++ cap) ps)) (flatD rs)).1))) Q) :
    SW P (.ex all ⟨dst, .call ⟨.value f, args, tys⟩, ty, pos, af, gd⟩ rest :: st) s Q := fun w0 G a w hr =>
  callM_ok hr hc hf ha hnd ho fun a' w' hb ⟨G', hr'⟩ => h w0 G' a' w' hr'
theorem sw_callDM {P : Program} {all : List Oper} {r : OrdT} {st : List It} {dst : Option Tmp} {f : Operand} {args : Array Operand} {tys : Array TypeId} {ty : TypeId} {pos : String} {af : Array Edge} {gd : Option (Nat × Bool)} {s : AS} {Q : QE} {F : FuncId} {cap : List AV} {ps : List MA} {rs : List PD}
    (hc : ConM P F ps rs) (hf : s.ev f = .fn F cap) (ha : mAs s (args.toList.map s.ev ++ cap) ps) (hnd : (eatM (args.toList.map s.ev ++ cap) ps).Nodup) (ho : okR rs)
    (h : SW P (.dr all r :: st) ((mkR (s.kl (eatM (args.toList.map s.ev ++ cap) ps)) (flatD rs)).2.pt dst (retA (packA rs (mkR (s.kl (eatM (args.toList.map s.ev ++ cap) ps)) (flatD rs)).1))) Q) :
    SW P (.dg all ⟨dst, .call ⟨.value f, args, tys⟩, ty, pos, af, gd⟩ false r :: st) s Q := fun w0 G a w hr =>
  callM_ok hr hc hf ha hnd ho fun a' w' hb ⟨G', hr'⟩ => ⟨fun _ => hb, h w0 G' a' w' hr'⟩
end Go.Proofs.Ytaeeipojnfooeaa
