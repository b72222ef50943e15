/-
  A row that a function changes in place and gives back (flat rows: cells that own nothing).
-/
import Derived.Test.YtepjbiffebbelaaDat
namespace Go.Proofs.Ytepjbiffebbelaa
open Go.RowKit
set_option linter.unusedVariables false
set_option linter.unusedSimpArgs false
set_option maxRecDepth 20000
def flatD' : List D → Prop
  | [] => True
  | d :: ds => d.prim = true ∧ flatD' ds
def ConW (P : Program) (f : FuncId) (T : TypeId) (d d' : D) (ps : List PD) : Prop :=
  (∃ fn, P.funcs[f]? = some fn ∧ fn.body.isNone = false ∧ (fn.name == "runtime.NumGoroutine") = false) ∧
  ∀ w v us fp fw S, GI w → (∀ k ∈ GBl, S k) → (∀ k, S k → k < w.heap.size ∧ k ∉ fp) → RepPAs w S (.m (.a T d) :: ps.map PA.b) (v :: us) fp fw → fp.Nodup → Calls P f (v :: us).toArray w fun e w' =>
    e = .returned (.tuple #[]) ∧ Bel (· ∈ fp) w w' ∧ ∃ fp', OwnVs w' [d'] [v] fp' ∧ fp'.Nodup ∧ ∀ j ∈ fp', j ∈ fp
theorem ownVs_flat {w : World} : ∀ {ds : List D} {vs : List Value} {fp : List Nat}, flatD' ds → OwnVs w ds vs fp → fp = []
  | [], vs, fp, _, h => by unfold OwnVs at h; exact h.2
  | d :: ds, vs, fp, hf, h => by
    unfold OwnVs at h
    obtain ⟨v, r, f1, f2, rfl, rfl, h1, h2⟩ := h
    have e1 : f1 = [] := by
      have := hf.1
      cases d <;> first | (unfold OwnV at h1; exact h1.2) | (simp [D.prim] at this)
    rw [e1, ownVs_flat hf.2 h2]; rfl
/-- The picture in which such a function begins. -/
def s0W (nt : Nat) (args : List PA) : AS := { s0P nt args with pb := [0] }
def xRetW (s : AS) (d' : D) : Prop := match s.pb with
  | [b] => match s.owf b with
    | some I => I.deep = true ∧ I.d = d'
    | none => False
  | _ => False
theorem mkPs_b : ∀ (ps : List PD) (s : AS), (mkPs s (ps.map PA.b)).2 = s
  | [], s => rfl
  | p :: ps, s => by
    rw [List.map_cons]
    unfold mkPs mkPA
    exact mkPs_b ps s
theorem nPs_b : ∀ (ps : List PD), nPs (ps.map PA.b) = 0
  | [] => rfl
  | p :: ps => by rw [List.map_cons]; unfold nPs nP; rw [nPs_b ps]
theorem con_ofW {P : Program} {f : FuncId} {fn : Func} {c : Code} {T : TypeId} {d d' : D} {ps : List PD} (hf : P.funcs[f]? = some fn) (hb : fn.body = some c) (hn : (fn.name == "runtime.NumGoroutine") = false) (hnt : ps.length + 1 ≤ fn.ntmps) (hres : fn.results = #[])
    (hfl : ∃ sz n cs, d' = .rows sz n cs ∧ flatD' cs)
    (h : XW P c (s0W fn.ntmps (.m (.a T d) :: ps.map PA.b)) fun e s => (e = .ret ∨ e = .normal) ∧ xRetW s d') : ConW P f T d d' ps := by
  refine ⟨⟨fn, hf, by simp [hb], hn⟩, fun w v us fp fw S hg hgs hS hu hnd => calls_of_wp hf hb ?_⟩
  have hlen := hu.len
  simp only [List.length_cons, List.length_map] at hlen
  have hrel0 : Rel ⟨w, fun k => k ∈ fp, fun k => k ∈ fp, fun _ => 0, fun _ => none, S, fun _ h => h, fun _ h => h, GI_st hg (fun k hk => (hS k (hgs k hk)).2), hgs⟩ ⟨fun _ => [], fun _ => undef, fun _ => 0, S⟩ ⟨fn.ntmps, [], [], [], 0, []⟩ { tmps := (v :: us).toArray ++ Array.replicate (fn.ntmps - (v :: us).toArray.size) undef, defers := [] } w :=
    ⟨by simp; omega, rfl, fun t v ht => (by cases ht), fun b cs hb => (by cases hb), fun _ _ _ _ hb => (by cases hb), fun o I ho => (by cases ho), fun _ _ _ _ ho => (by cases ho), Bel.refl _ _, fun k hk => (hS k hk).1, fun _ _ hb => (by simp at hb), fun _ hk => hk, fun _ hk => .inl hk⟩
  have hpl := ptrs_len (.m (.a T d) :: ps.map PA.b) hu
  have hn0 : nPs (.m (.a T d) :: ps.map PA.b) = 0 := by unfold nPs nP; rw [nPs_b ps]
  obtain ⟨G', hm, hrv⟩ := mkPs_ok (fun _ => rfl) (.m (.a T d) :: ps.map PA.b) (v :: us) fp fw _ _ hrel0 hu rfl hnd (fun k hk => ⟨fun hz => (hS k hz).2 hk, .inr hk⟩) (fun k hk => .inr (fws_sub (.m (.a T d) :: ps.map PA.b) hu k hk)) (fun k hk => ⟨fun b cs hb => (by cases hb), fun o I ho => (by cases ho)⟩) (fun i g hi => by
    rw [List.getElem?_eq_none (by omega)] at hi; cases hi)
  have hr1 := hm.rel
  -- the row's number is 0, its value v
  have he2 : (mkPs ⟨fn.ntmps, [], [], [], 0, []⟩ (.m (.a T d) :: ps.map PA.b)).2 = (⟨fn.ntmps, [], [], [], 0, []⟩ : AS).mk' [] ⟨d, some T, true⟩ := by
    unfold mkPs mkPA mkC mkC
    exact mkPs_b ps _
  have he1 : ∃ r, (mkPs ⟨fn.ntmps, [], [], [], 0, []⟩ (.m (.a T d) :: ps.map PA.b)).1 = .sl 0 :: r := by
    unfold mkPs mkPA mkC mkC; exact ⟨_, rfl⟩
  obtain ⟨r, he1⟩ := he1
  have ho0 : (mkPs ⟨fn.ntmps, [], [], [], 0, []⟩ (.m (.a T d) :: ps.map PA.b)).2.owf 0 = some ⟨d, some T, true⟩ := by rw [he2]; rfl
  have hnx : 0 < (mkPs ⟨fn.ntmps, [], [], [], 0, []⟩ (.m (.a T d) :: ps.map PA.b)).2.nx := by rw [he2]; show 0 < 0 + 1; omega
  have hroot : G'.root 0 = v := by
    have h1 := hrv
    rw [he1] at h1
    unfold RVs at h1
    obtain ⟨u, r', e, h2, _⟩ := h1
    injection e with e1 e2
    unfold RV at h2
    rw [e1]
    exact (h2.2.2 _ ho0).symm
  have hrel : Rel ⟨w, fun k => k ∈ fp, fun k => k ∈ fp, fun _ => G'.β 0, fun _ => some v, S, fun _ h => h, fun _ h => h, GI_st hg (fun k hk => (hS k (hgs k hk)).2), hgs⟩ G' (s0W fn.ntmps (.m (.a T d) :: ps.map PA.b)) { tmps := (v :: us).toArray ++ Array.replicate (fn.ntmps - (v :: us).toArray.size) undef, defers := [] } w := by
    refine ⟨hr1.nt, rfl, fun t v' ht => ?_, hr1.bx, hr1.inj, hr1.own, hr1.dis, hr1.bel, hr1.zl, fun i b hb => ?_, hr1.zz⟩
    · obtain ⟨_, u, hu', hv⟩ := numT_look _ (v :: us) 0 t v' hrv ht
      refine ⟨u, ?_, hv⟩
      have hlt : t < (v :: us).length := by
        simp only [Nat.sub_zero] at hu'
        exact (List.getElem?_eq_some_iff.1 hu').1
      rw [Array.getElem?_append_left (by simpa using hlt)]
      simpa using hu'
    · have hb' : ([0] : List Nat)[i]? = some b := hb
      have : b = 0 := by
        cases i with
        | zero => simpa using hb'.symm
        | succ i => simp at hb'
      subst this
      exact ⟨hnx, rfl, fun v' hv' => by injection hv' with hv'; rw [← hv']; exact hroot⟩
  refine wp_mono (h _ _ _ w hrel) fun e a' w' ⟨G2, s', hr', he, hret⟩ => ?_
  obtain ⟨sz, n, cs, rfl, hfl⟩ := hfl
  unfold xRetW at hret
  split at hret
  · rename_i b hpb
    split at hret
    · rename_i I hI
      obtain ⟨hdeep, hId⟩ := hret
      obtain ⟨_, hRes, _⟩ := hr'.own b I hI
      have hrt : G2.root b = v := (hr'.pb 0 b (by rw [hpb]; rfl)).2.2 v rfl
      obtain ⟨hO, hnd2⟩ := hRes.2.2.1 hdeep
      rw [hId, hrt] at hO
      have hfp' : ∃ fp', OwnV w' (.rows sz n cs) v fp' ∧ fp'.Nodup ∧ ∀ j ∈ fp', j ∈ fp := by
        have hO' := hO
        unfold OwnV at hO
        obtain ⟨a, cap, hv, hnc, hcm, hcl, hO⟩ := hO
        rcases Nat.eq_zero_or_pos n with h0 | h0
        · exact ⟨[], by unfold OwnV; exact ⟨a, cap, hv, hnc, hcm, hcl, .inl ⟨h0, rfl⟩⟩, List.nodup_nil, by simp⟩
        · rcases hO with ⟨h1, _⟩ | ⟨g, off, vs, f', ha, _, hB, _, _, hvs⟩
          · omega
          · refine ⟨G2.B b, hO', hnd2, fun j hj => ?_⟩
            rw [ownVs_flat hfl hvs] at hB
            rw [hB] at hj
            obtain rfl := List.mem_singleton.1 hj
            unfold RepPAs at hu
            obtain ⟨v0, r0, f1, f2, w1, w2, e0, hfp0, _, hA, _⟩ := hu
            injection e0 with e0 _
            subst e0
            unfold RepPA OwnC at hA
            obtain ⟨_, _, _, _, fq, _, _, _, hf1, _⟩ := hA
            rw [hfp0, hf1, hv, ha]
            obtain ⟨cap', rfl⟩ : ∃ c', cap = c' + 1 := ⟨cap - 1, by omega⟩
            simp [rowR]
      obtain ⟨fp', q1, q2, q3⟩ := hfp'
      have hpost : a'.defers = [] ∧ ∃ u, (results fn a'.tmps).run P w' = .ok u w' ∧ ((Ending.returned u) = .returned (.tuple #[]) ∧ Bel (· ∈ fp) w w' ∧ ∃ fp', OwnVs w' [.rows sz n cs] [v] fp' ∧ fp'.Nodup ∧ ∀ j ∈ fp', j ∈ fp) := by
        refine ⟨hr'.df, .tuple #[], results_none hres _ _ _, rfl, hr'.bel, fp', ?_, q2, q3⟩
        unfold OwnVs OwnVs
        exact ⟨v, [], fp', [], rfl, by simp, q1, rfl, rfl⟩
      rcases he with rfl | rfl <;> exact hpost
    · exact hret.elim
  · exact hret.elim
def fQW (d' : D) (e : Exit) (s : AS) : Prop := (e = .ret ∨ e = .normal) ∧ xRetW s d'
theorem fQW_panic {d' : D} : ∀ c s, ¬ fQW d' (.panic c) s := fun c s h => by rcases h.1 with h | h <;> cases h
theorem con_runW {P : Program} {f : FuncId} {fn : Func} {c : Code} {T : TypeId} {d d' : D} {ps : List PD} (hf : P.funcs[f]? = some fn) (hb : fn.body = some c) (hn : (fn.name == "runtime.NumGoroutine") = false) (hnt : ps.length + 1 ≤ fn.ntmps) (hres : fn.results = #[])
    (hfl : ∃ sz n cs, d' = .rows sz n cs ∧ flatD' cs) (h : xRun P 400 [.code c] (s0W fn.ntmps (.m (.a T d) :: ps.map PA.b)) (fQW d')) : ConW P f T d d' ps :=
  con_ofW hf hb hn hnt hres hfl (XW_of_SW (sw_run 400 _ _ _ h))
theorem ePs_b (s : AS) : ∀ (l : List AV) (ps : List PD), ePs s l (ps.map PA.b) = []
  | [], [] => rfl
  | [], _ :: _ => rfl
  | a :: l, [] => rfl
  | a :: l, p :: ps => by
    rw [List.map_cons]
    unfold ePs
    rw [ePs_b s l ps]
    cases a <;> rfl
theorem bPs_b : ∀ (l : List AV) (ps : List PD), bPs l (ps.map PA.b) = []
  | [], [] => rfl
  | [], _ :: _ => rfl
  | a :: l, [] => rfl
  | a :: l, p :: ps => by
    rw [List.map_cons]
    unfold bPs
    rw [bPs_b l ps]
    cases a <;> rfl
theorem sw_callW {P : Program} {all rest : List Oper} {st : List It} {dst : Option Tmp} {f : Operand} {args : Array Operand} {tys : Array TypeId} {ty : TypeId} {pos : String} {af : Array Edge} {gd : Option (Nat × Bool)} {s : AS} {Q : QE} {F : FuncId} {o : Nat} {ys : List AV} {T : TypeId} {d d' : D} {ps : List PD}
    (hc : ConW P F T d d' ps) (hf : s.ev f = .fn F []) (ha : args.toList.map s.ev = .sl o :: ys) (hI : s.owf o = some ⟨d, some T, true⟩) (hs : shp2 d d') (hys : mPs ((s.kl [o]).kb []) s ys (ps.map PA.b))
    (h : SW P (.ops all rest :: st) ((s.lend [.sl o] [d']).pt dst (.tu [])) Q) :
    SW P (.ex all ⟨dst, .call ⟨.value f, args, tys⟩, ty, pos, af, gd⟩ rest :: st) s Q := fun w0 G a w hr => by
  have hfv := hr.ev f
  rw [hf] at hfv
  unfold RV at hfv
  obtain ⟨us, hu, hrs⟩ := hfv
  unfold RVs at hrs
  subst hrs
  have hargs := hr.evs args.toList
  rw [ha] at hargs
  have he : ePs s (.sl o :: ys) (.m (.a T d) :: ps.map PA.b) = [o] := by unfold ePs eP eC; rw [ePs_b]; rfl
  have hb : bPs (.sl o :: ys) (.m (.a T d) :: ps.map PA.b) = [] := by unfold bPs bP; rw [bPs_b]; rfl
  have hrt1 : Rel w0 { G with Z := G.Z } ((s.kl [o]).kb []) a w :=
    (hr.aft (e := [o]) (b := []) (fp := []) (fw := []) (w' := w) (Z1 := G.Z) (Bel.refl _ _) (by simp) (by simp) (fun _ h => h) (fun _ h => .inl h) hr.zl)
  have hm : mPs ((s.kl [o]).kb []) s (.sl o :: ys) (.m (.a T d) :: ps.map PA.b) := by
    unfold mPs
    refine ⟨?_, hys⟩
    show (match s.owf o with | some I => (I.ap = some T ∧ I.deep = true) ∧ I.d = d | none => False)
    rw [hI]; exact ⟨⟨rfl, rfl⟩, rfl⟩
  obtain ⟨fp, fw, hrep, hnd, hfr, hfw, hptr, hlive⟩ := mPs_own hr hrt1 rfl (fun o I ho => (kl_owf ho).1) (.m (.a T d) :: ps.map PA.b) hargs hm (by rw [he]; simp) (by rw [hb]; exact List.nodup_nil)
  rw [he, hb] at hfr
  have hargs' := hargs
  unfold RVs at hargs'
  obtain ⟨v, r, e1, hv1, hv2⟩ := hargs'
  rw [e1] at hrep
  have hS : ∀ k, Reach G ((s.kl [o]).kb []) k → k < w.heap.size ∧ k ∉ fp := fun k hk => by
    refine ⟨hrt1.reach k hk, fun hk' => ?_⟩
    have h1 := hfr k hk'
    rcases hk with hz | ⟨o', I, ho, hk⟩ | ⟨x, cs, hx, rfl⟩
    · exact (Fr.lt hr h1).1.1 hz
    · obtain ⟨q1, q2⟩ := kl_owf (s := s) (l := [o]) ho
      exact Fr.ne hr h1 (.inl ⟨o', List.mem_cons_self, I, q1, hk⟩ : Fr G s [o'] [] k) (fun q hq hq' => q2 (List.mem_singleton.1 hq' ▸ hq)) (by simp)
    · unfold AS.kb at hx
      simp only at hx
      rw [look_rmBs] at hx
      split at hx
      · cases hx
      · exact Fr.ne hr h1 (.inr ⟨x, List.mem_cons_self, cs, hx, rfl⟩ : Fr G s [] [x] _) (by simp) (by simp)
  obtain ⟨⟨fn, hfn, hbody, hname⟩, hcon⟩ := hc
  have hcall := hcon w v r fp fw _ (w0.gi w hr.bel.size hr.bel.block) (fun k hk => .inl (hr.zz.1 k (w0.gz k hk))) hS hrep hnd
  show (Oper.mk dst (.call ⟨.value f, args, tys⟩) ty pos af gd).wp P a w _ _
  unfold Oper.wp
  have hrun : (execOp a.eval ⟨dst, .call { callee := .value f, args := args, argTypes := tys }, ty, pos, af, gd⟩).run P w = .ok (.enter F (v :: r).toArray) w := by
    have e4 : ((#[] : Array Value) ++ args.map a.eval) ++ ([] : List Value).toArray = (v :: r).toArray := by
      apply Array.ext'; simp [e1]
    simp only [execOp, resolve, Deferred.ofValue, hu, pure_bind, invoke, e4, callFunc, Sem.run_bind, program, Sem.run, Result.andThen_ok, hfn, hname, hbody, Bool.false_eq_true, if_false, Sem.run_pure]
  rw [hrun]
  refine hcall.mono fun e w' ⟨hen, hbl, fp', hw, hn, hsub⟩ => ?_
  subst hen
  have hdd : rDs s [.sl o] [d] := ⟨by cases d <;> (show (match s.owf o with | some I => I.deep = true ∧ I.d = _ | none => False); rw [hI]; exact ⟨rfl, rfl⟩), trivial⟩
  obtain ⟨G', hr'⟩ := hr.lend (l := [.sl o]) (vs := [v]) (ds := [d]) (es := [d']) (by unfold RVs RVs; exact ⟨v, [], rfl, hv1, rfl⟩) hdd ⟨hs, trivial⟩ (by simp [eatsOf]) (fun k hk => by simpa [eatsOf] using hfr k hk) hbl hw hn hsub
  exact h w0 G' _ w' (hr'.pt dst (by unfold RV; exact ⟨[], rfl, by unfold RVs; rfl⟩))
end Go.Proofs.Ytepjbiffebbelaa
