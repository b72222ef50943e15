/-
  A function's contract from the picture of its body.
-/
import Derived.Test.YtaeeipojnfooeaaAI11
namespace Go.Proofs.Ytaeeipojnfooeaa
open Go.RowKit
set_option linter.unusedVariables false
set_option linter.unusedSimpArgs false

theorem eatsOf_app : ∀ a b : List AV, eatsOf (a ++ b) = eatsOf a ++ eatsOf b
  | [], b => rfl
  | c :: a, b => by
    have := eatsOf_app a b
    cases c <;> simp [eatsOf, this]
theorem flat_nodup {w0 : World0} {G : Gh} {s : AS} {a : Act} {w : World} (h : Rel w0 G s a w) : ∀ (l : List Nat), l.Nodup → (∀ o ∈ l, ∃ I, s.owf o = some I ∧ I.deep = true) → (l.flatMap G.B).Nodup
  | [], _, _ => by simp
  | o :: l, hn, hl => by
    obtain ⟨n1, n2⟩ := List.nodup_cons.1 hn
    rw [List.flatMap_cons]
    obtain ⟨I, hI, hd⟩ := hl o (by simp)
    refine List.nodup_append.2 ⟨((h.own o I hI).2.1.2.2.1 hd).2, flat_nodup h l n2 (fun o ho => hl o (by simp [ho])), fun k hk k' hk' e => ?_⟩
    subst e
    obtain ⟨o', ho', hko⟩ := List.mem_flatMap.1 hk'
    obtain ⟨I', hI', _⟩ := hl o' (by simp [ho'])
    exact h.dis o o' I I' hI hI' (fun e => n1 (e ▸ ho')) k hk hko
theorem rD_own {w0 : World0} {G : Gh} {s : AS} {a : Act} {w : World} (h : Rel w0 G s a w) {c : AV} {u : Value} {d : D} (hr : RV w0.heap.size G w s.owf s.nx c u) (hd : rD s c d) : OwnV w d u ((eatsOf [c]).flatMap G.B) ∧ ∀ o ∈ eatsOf [c], ∃ I, s.owf o = some I ∧ I.deep = true := by
  cases c <;> simp only [rD] at hd <;> first | exact hd.elim | skip
  case i n => cases d <;> simp only [rD] at hd <;> first | exact hd.elim | skip
              subst hd; unfold RV at hr; exact ⟨by unfold OwnV; exact ⟨hr, rfl⟩, by simp [eatsOf]⟩
  case b n => cases d <;> simp only [rD] at hd <;> first | exact hd.elim | skip
              subst hd; unfold RV at hr; exact ⟨by unfold OwnV; exact ⟨hr, rfl⟩, by simp [eatsOf]⟩
  case s n => cases d <;> simp only [rD] at hd <;> first | exact hd.elim | skip
              subst hd; unfold RV at hr; exact ⟨by unfold OwnV; exact ⟨hr, rfl⟩, by simp [eatsOf]⟩
  case nl sz =>
    cases d <;> simp only [rD] at hd <;> first | exact hd.elim | skip
    obtain ⟨rfl, rfl⟩ := hd
    unfold RV at hr; subst hr
    exact ⟨by unfold OwnV; exact ⟨none, 0, rfl, by simp, by simp, by simp, .inl ⟨rfl, rfl⟩⟩, by simp [eatsOf]⟩
  case sl o =>
    cases hI : s.owf o with
    | none => rw [hI] at hd; exact hd.elim
    | some I =>
      rw [hI] at hd
      obtain ⟨h1, rfl⟩ := hd
      unfold RV at hr
      rw [hr.2.2 I hI]
      refine ⟨by simpa [eatsOf] using ((h.own o I hI).2.1.2.2.1 h1).1, fun o' ho' => ?_⟩
      simp only [eatsOf, List.mem_singleton] at ho'
      subst ho'
      exact ⟨I, hI, h1⟩
theorem eats_cons (c : AV) (l : List AV) : eatsOf (c :: l) = eatsOf [c] ++ eatsOf l := eatsOf_app [c] l
theorem rDs_own {w0 : World0} {G : Gh} {s : AS} {a : Act} {w : World} (h : Rel w0 G s a w) : ∀ {cs : List AV} {us : List Value} {ds : List D}, RVs w0.heap.size G w s.owf s.nx cs us → rDs s cs ds → OwnVs w ds us ((eatsOf cs).flatMap G.B) ∧ ∀ o ∈ eatsOf cs, ∃ I, s.owf o = some I ∧ I.deep = true
  | [], us, [], hr, _ => by unfold RVs at hr; subst hr; exact ⟨by unfold OwnVs; exact ⟨rfl, rfl⟩, by simp [eatsOf]⟩
  | [], us, d :: ds, hr, hd => hd.elim
  | c :: cs, us, [], hr, hd => hd.elim
  | c :: cs, us, d :: ds, hr, hd => by
    unfold RVs at hr
    obtain ⟨u, r, rfl, h1, h2⟩ := hr
    obtain ⟨h3, h4⟩ := rD_own h h1 hd.1
    obtain ⟨h5, h6⟩ := rDs_own h h2 hd.2
    rw [eats_cons, List.flatMap_append]
    refine ⟨by unfold OwnVs; exact ⟨u, r, _, _, rfl, rfl, h3, h5⟩, fun o ho => ?_⟩
    rcases List.mem_append.1 ho with ho | ho
    · exact h4 o ho
    · exact h6 o ho
theorem rPs_own {w0 : World0} {G : Gh} {s : AS} {a : Act} {w : World} (h : Rel w0 G s a w) : ∀ {l : List (Option AV)} {avs : List AV} {us : List Value} {rs : List PD}, l = avs.map some → RVs w0.heap.size G w s.owf s.nx avs us → rPs s l rs →
    ∃ vs, us = packV rs vs ∧ OwnVs w (flatD rs) vs ((eatsOf (flatA l)).flatMap G.B) ∧ ∀ o ∈ eatsOf (flatA l), ∃ I, s.owf o = some I ∧ I.deep = true
  | [], [], us, rs, e, hr, hp => by
    unfold RVs at hr; subst hr
    cases rs with
    | nil => exact ⟨[], rfl, by unfold flatD OwnVs; exact ⟨rfl, rfl⟩, by simp [flatA, eatsOf]⟩
    | cons _ _ => simp [rPs] at hp
  | [], _ :: _, us, rs, e, hr, hp => by cases e
  | _ :: _, [], us, rs, e, hr, hp => by cases e
  | x :: l, v :: avs, us, rs, e, hr, hp => by
    simp only [List.map_cons, List.cons.injEq] at e
    obtain ⟨rfl, e⟩ := e
    unfold RVs at hr
    obtain ⟨u, r, rfl, h1, h2⟩ := hr
    cases rs with
    | nil => cases v <;> simp [rPs] at hp
    | cons p ps =>
      cases p with
      | one d =>
        have hp' : rD s v d ∧ rPs s l ps := by cases v <;> first | exact hp | (simp [rPs] at hp; exact hp)
        obtain ⟨h3, h4⟩ := rD_own h h1 hp'.1
        obtain ⟨vs, h5, h6, h7⟩ := rPs_own h e h2 hp'.2
        have hfl : flatA (some v :: l) = v :: flatA l := by
          cases v <;> first | rfl | (have := hp'.1; simp [rD] at this)
        rw [hfl, eats_cons, List.flatMap_append]
        refine ⟨u :: vs, by rw [h5]; rfl, by unfold flatD OwnVs; exact ⟨u, vs, _, _, rfl, rfl, h3, h6⟩, fun o ho => ?_⟩
        rcases List.mem_append.1 ho with ho | ho
        · exact h4 o ho
        · exact h7 o ho
      | ag ds =>
        cases v <;> first | (simp [rPs] at hp; done) | skip
        rename_i cs
        simp only [rPs] at hp
        unfold RV at h1
        obtain ⟨us', rfl, h1⟩ := h1
        obtain ⟨h3, h4⟩ := rDs_own h h1 hp.1
        obtain ⟨vs, h5, h6, h7⟩ := rPs_own h e h2 hp.2
        have hl : us'.length = ds.length := OwnVs.len _ _ _ h3
        have hfl : flatA (some (.ag cs) :: l) = cs ++ flatA l := rfl
        rw [hfl, eatsOf_app, List.flatMap_append]
        refine ⟨us' ++ vs, ?_, by unfold flatD; exact OwnVs.append _ _ _ _ _ _ h3 h6, fun o ho => ?_⟩
        · unfold packV
          rw [← hl, List.take_left', List.drop_left', h5] <;> rfl
        · rcases List.mem_append.1 ho with ho | ho
          · exact h4 o ho
          · exact h7 o ho
      | byt n => cases v <;> simp [rPs] at hp
      | fn f c => cases v <;> simp [rPs] at hp
      | rf c => cases v <;> simp [rPs] at hp
def resV (a : Act) : ResultVar → Sem Value
  | .tmp t => pure (a.tmps.getD t undef)
  | .cell x t => do loadVar t (← asAddr (a.tmps.getD x undef))
theorem results_eq (fn : Func) (a : Act) : results fn a.tmps = (do let vs ← fn.results.mapM (resV a); pure (if h : vs.size = 1 then vs[0] else .tuple vs)) := by
  have e : (fun (x : ResultVar) => (match x with | .tmp t => pure (a.tmps.getD t undef) | .cell x t => do loadVar t (← asAddr (a.tmps.getD x undef)) : Sem Value)) = resV a := by funext x; cases x <;> rfl
  rw [← e]; rfl
theorem res_run {P : Program} {w0 : World0} {G : Gh} {s : AS} {a : Act} {w : World} (h : Rel w0 G s a w) {r : ResultVar} {av : AV} (hr : xRes P s r = some av) :
    ∃ u, (resV a r).run P w = .ok u w ∧ RV w0.heap.size G w s.owf s.nx av u := by
  cases r with
  | tmp t =>
    obtain ⟨u, hu, hv⟩ := h.tm t av hr
    exact ⟨u, by simp [resV, Sem.run_pure, Array.getD_eq_getD_getElem?, hu], hv⟩
  | cell x T =>
    simp only [xRes] at hr
    split at hr
    · rename_i b hb
      obtain ⟨u, hu, hv⟩ := h.tm x _ hb
      unfold RV at hv
      obtain ⟨_, rfl⟩ := hv
      have hx : a.tmps.getD x undef = .pointer (some ⟨G.β b, 0, none⟩) := by simp [Array.getD_eq_getD_getElem?, hu]
      have hload : ∀ v, (Instr.loadAt T (.pointer (some ⟨G.β b, 0, none⟩))).run P w = .ok v w → (do loadVar T (← asAddr (a.tmps.getD x undef)) : Sem Value).run P w = .ok v w := fun v hv => by
        rw [hx]
        simp only [asAddr, Sem.run_bind, Sem.run_pure, Result.andThen_ok]
        simpa only [Instr.loadAt, Instr.sureAddr, Sem.run_bind, Sem.run_pure, Result.andThen_ok] using hv
      split at hr
      · rename_i v ht hl
        injection hr with hr
        subst hr
        obtain ⟨_, _, us, T', hB, hrs⟩ := h.bx b _ hl
        obtain ⟨av', u, e, h1, h2⟩ := xSub_ok (P := P) (T := T) ht hrs (g := G.β b) (o0 := 0) (off := 0) (fun w' hb => (hB.below hb hB.lt).cells) (k := fun z => z = v) (by simp [xSub])
        subst e
        exact ⟨u, hload u (by simpa using h2 w (Below.refl _ _)), h1⟩
      · rename_i n cs ht hl
        split at hr
        · rename_i hn
          injection hr with hr
          subst hr
          obtain ⟨_, _, us, T', hB, hrs⟩ := h.bx b _ hl
          obtain ⟨av', u, e, h1, h2⟩ := xSub_ok (P := P) (T := T) ht hrs (g := G.β b) (o0 := 0) (off := 0) (fun w' hb => (hB.below hb hB.lt).cells) (k := fun z => z = .ag cs) ⟨by omega, by rw [List.drop_zero, ← hn, List.take_length]⟩
          subst e
          exact ⟨u, hload u (by simpa using h2 w (Below.refl _ _)), h1⟩
        · cases hr
      · cases hr
    · cases hr
theorem rPs_some {s : AS} : ∀ {l : List (Option AV)} {rs : List PD}, rPs s l rs → ∃ avs : List AV, l = avs.map some
  | [], rs, _ => ⟨[], rfl⟩
  | none :: l, rs, h => by cases rs <;> simp [rPs] at h
  | some v :: l, rs, h => by
    have : ∃ ps, rPs s l ps := by
      cases rs with
      | nil => cases v <;> simp [rPs] at h
      | cons p ps => cases p <;> cases v <;> simp only [rPs] at h <;> first | exact h.elim | exact ⟨ps, h.2⟩
    obtain ⟨ps, hps⟩ := this
    obtain ⟨avs, e⟩ := rPs_some hps
    exact ⟨v :: avs, by rw [e]; rfl⟩
theorem ress_run {P : Program} {w0 : World0} {G : Gh} {s : AS} {a : Act} {w : World} (h : Rel w0 G s a w) : ∀ (l : List ResultVar) (avs : List AV), l.map (xRes P s) = avs.map some →
    ∃ us, (l.mapM (resV a)).run P w = .ok us w ∧ RVs w0.heap.size G w s.owf s.nx avs us
  | [], [], _ => ⟨[], by simp [Sem.run_pure], by unfold RVs; rfl⟩
  | [], _ :: _, e => by cases e
  | _ :: _, [], e => by cases e
  | r :: l, v :: avs, e => by
    simp only [List.map_cons, List.cons.injEq] at e
    obtain ⟨u, h1, h2⟩ := res_run h e.1
    obtain ⟨us, h3, h4⟩ := ress_run h l avs e.2
    refine ⟨u :: us, ?_, by unfold RVs; exact ⟨u, us, rfl, h2, h4⟩⟩
    rw [List.mapM_cons]
    simp only [Sem.run_bind, h1, Result.andThen_ok, h3, Sem.run_pure]
mutual
theorem argA_ok {w : World} {G : Gh} {owf : Nat → Option OwnI} {nx : Nat} : ∀ {p : PD} {u : Value}, RepPD w p u → RV w.heap.size G w owf nx (argA p) u
  | .one d, u, h => by unfold RepPD at h; unfold argA; exact avB_ok (RepV.p _ _ h)
  | .ag ds, u, h => by
    unfold RepPD at h
    obtain ⟨vs, rfl, h⟩ := h
    unfold argA RV
    exact ⟨vs, rfl, RVs.of_rep (S := (· < w.heap.size)) (fun d v hd => avB_ok hd) (RepVs.p _ _ h)⟩
  | .byt n, u, h => by unfold RepPD at h; unfold argA RV; exact h
  | .fn f c, u, h => by
    unfold RepPD at h
    obtain ⟨us, rfl, h⟩ := h
    unfold argA RV
    exact ⟨us, rfl, argAs_ok h⟩
  | .rf c, u, h => by unfold argA RV; trivial
theorem argAs_ok {w : World} {G : Gh} {owf : Nat → Option OwnI} {nx : Nat} : ∀ {p : List PD} {u : List Value}, RepPDs w p u → RVs w.heap.size G w owf nx (argAs p) u
  | [], u, h => by unfold RepPDs at h; unfold argAs RVs; exact h
  | p :: ps, u, h => by
    unfold RepPDs at h
    obtain ⟨v, r, rfl, h1, h2⟩ := h
    unfold argAs RVs
    exact ⟨v, r, rfl, argA_ok h1, argAs_ok h2⟩
end
theorem argT_look {w : World} {G : Gh} {owf : Nat → Option OwnI} {nx : Nat} : ∀ (ps : List PD) (us : List Value) (i t : Nat) (v : AV), RepPDs w ps us → look (argT i ps) t = some v → i ≤ t ∧ ∃ u, us[t - i]? = some u ∧ RV w.heap.size G w owf nx v u
  | [], us, i, t, v, h, hl => by cases hl
  | p :: ps, us, i, t, v, h, hl => by
    unfold RepPDs at h
    obtain ⟨u, r, rfl, h1, h2⟩ := h
    unfold argT at hl
    rw [look_cons] at hl
    split at hl
    · rename_i e
      subst e
      injection hl with hl
      subst hl
      exact ⟨Nat.le_refl _, u, by simp, argA_ok h1⟩
    · obtain ⟨h3, u', h4, h5⟩ := argT_look ps r (i + 1) t v h2 hl
      refine ⟨by omega, u', ?_, h5⟩
      have : t - i = (t - (i + 1)) + 1 := by omega
      rw [this]; simpa using h4
theorem RepPDs.len {w : World} : ∀ {ps : List PD} {us : List Value}, RepPDs w ps us → us.length = ps.length
  | [], us, h => by unfold RepPDs at h; subst h; rfl
  | p :: ps, us, h => by
    unfold RepPDs at h
    obtain ⟨u, r, rfl, _, h2⟩ := h
    simp [RepPDs.len h2]
theorem con_of {P : Program} {f : FuncId} {fn : Func} {c : Code} {args rs : List PD} (hf : P.funcs[f]? = some fn) (hb : fn.body = some c) (hn : (fn.name == "runtime.NumGoroutine") = false) (hnt : args.length ≤ fn.ntmps)
    (h : XW P c ⟨fn.ntmps, argT 0 args, [], [], 0⟩ fun e s => (e = .ret ∨ e = .normal) ∧ xRet P fn s rs) : Con P f args rs := by
  refine ⟨⟨fn, hf, by simp [hb], hn⟩, fun w us hu => calls_of_wp hf hb ?_⟩
  have hlen := RepPDs.len hu
  have hrel : Rel ⟨w, fun _ => False⟩ ⟨fun _ => [], fun _ => undef, fun _ => 0⟩ ⟨fn.ntmps, argT 0 args, [], [], 0⟩ { tmps := us.toArray ++ Array.replicate (fn.ntmps - us.toArray.size) undef, defers := [] } w := by
    refine ⟨by simp; omega, rfl, fun t v ht => ?_, fun b cs hb => (by cases hb), fun _ _ _ _ hb => (by cases hb), fun o I ho => (by cases ho), fun _ _ _ _ ho => (by cases ho), Below.refl _ _⟩
    obtain ⟨_, u, hu', hv⟩ := argT_look args us 0 t v hu ht
    refine ⟨u, ?_, hv⟩
    have hlt : t < us.length := by
      simp only [Nat.sub_zero] at hu'
      exact (List.getElem?_eq_some_iff.1 hu').1
    rw [Array.getElem?_append_left (by simpa using hlt)]
    simpa using hu'
  refine wp_mono (h ⟨w, fun _ => False⟩ _ _ w hrel) fun e a' w' ⟨G', s', hr', he, hret, hnd⟩ => ?_
  have hpost : a'.defers = [] ∧ ∃ v, (results fn a'.tmps).run P w' = .ok v w' ∧ (Below w.heap.size w w' ∧ ∃ vs, (Ending.returned v) = .returned (retV (packV rs vs)) ∧ FreshL w' w.heap.size (flatD rs) vs) := by
    obtain ⟨avs, hav⟩ := rPs_some hret
    obtain ⟨us', h1, h2⟩ := ress_run hr' _ _ hav
    obtain ⟨vs, h3, h4, h5⟩ := rPs_own hr' hav h2 hret
    refine ⟨hr'.df, retV us', ?_, hr'.bel, vs, by rw [← h3], _, h4, flat_nodup hr' _ hnd h5, fun k hk => ?_⟩
    · rw [results_eq, Array.mapM_eq_mapM_toList]
      simp only [map_eq_pure_bind, Sem.run_bind, h1, Result.andThen_ok, Sem.run_pure]
      match us' with
      | [] => rfl
      | [u] => rfl
      | u :: u2 :: r => simp [retV]
    · obtain ⟨o, ho, hko⟩ := List.mem_flatMap.1 hk
      obtain ⟨I, hI, _⟩ := h5 o ho
      exact ((hr'.own o I hI).2.1.1 k hko).1.resolve_right id
  rcases he with rfl | rfl <;> exact hpost
end Go.Proofs.Ytaeeipojnfooeaa
