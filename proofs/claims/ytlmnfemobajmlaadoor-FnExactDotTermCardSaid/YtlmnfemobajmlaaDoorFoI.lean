/-
  FunctionOf of both sides: a function of each parameter around a term.
-/
import Derived.Test.YtlmnfemobajmlaaDoorMk
import Derived.Test.YtlmnfemobajmlaaDoorTmC
import Derived.Test.YtlmnfemobajmlaaDoorDat
import Derived.Test.YtlmnfemobajmlaaDoorLst
import Derived.Test.YtlmnfemobajmlaaDoorRfA
namespace Go.Proofs.YtlmnfemobajmlaaDoor
open Go.RowKit
set_option linter.unusedVariables false
set_option linter.unusedSimpArgs false
set_option maxRecDepth 20000
def foT : List Pm → Tm → Tm
  | [], e => e
  | p :: ps, e => tLam p.name p.ty (foT ps e)
/-- What is there when k parameters, the last ones, are round it. -/
def foK (ps : List Pm) (e : Tm) (k : Nat) : Tm := foT (ps.drop (ps.length - k)) e
theorem foK_0 (ps : List Pm) (e : Tm) : foK ps e 0 = e := by rw [foK, Nat.sub_zero, List.drop_length]; rfl
theorem foK_n (ps : List Pm) (e : Tm) : foK ps e ps.length = foT ps e := by rw [foK, Nat.sub_self, List.drop_zero]
theorem foK_s (ps : List Pm) (e : Tm) (k : Nat) (hk : k < ps.length) : foK ps e (k + 1) = tLam ps[ps.length - 1 - k]!.name ps[ps.length - 1 - k]!.ty (foK ps e k) := by
  rw [foK, show ps.length - (k + 1) = ps.length - 1 - k by omega, List.drop_eq_getElem_cons (by omega), getElem!_pos ps _ (by omega), foT, foK, show ps.length - 1 - k + 1 = ps.length - k by omega]
theorem sz_foT : ∀ (ps : List Pm) (e : Tm), szL (tmC (foT ps e)) ≤ ps.length + (szL (flC pmC ps) + szL (tmC e))
  | [], e => by rw [foT]; omega
  | p :: ps, e => by
    have h := sz_foT ps e
    rw [foT, sz_tLam, flC, szL_append, List.length_cons]
    have : szL (pmC p) = p.name.size + szL (tyC p.ty) := by rw [tyC_eq, pmC]; simp only [szL, szD] <;> omega
    omega
theorem sz_foK (ps : List Pm) (e : Tm) (k : Nat) : szL (tmC (foK ps e k)) ≤ ps.length + (szL (flC pmC ps) + szL (tmC e)) := by
  have h := sz_foT (ps.drop (ps.length - k)) e
  have h2 : szL (flC pmC (ps.drop (ps.length - k))) ≤ szL (flC pmC ps) := by
    have h3 : flC pmC ps = flC pmC (ps.take (ps.length - k)) ++ flC pmC (ps.drop (ps.length - k)) := by rw [← flC_app, List.take_append_drop]
    rw [h3, szL_append]; omega
  rw [← foK, List.length_drop] at h
  omega
theorem szL_flk {α : Type} [Inhabited α] (c : α → List D) : ∀ (xs : List α) (k : Nat), k < xs.length → szL (c xs[k]!) ≤ szL (flC c xs)
  | x :: xs, 0, _ => by rw [flC, szL_append]; simp
  | x :: xs, k + 1, h => by
    have := szL_flk c xs k (by simpa using h)
    rw [flC, szL_append]
    simp only [List.getElem!_cons_succ]
    omega
theorem sz_pmty (ps : List Pm) (k : Nat) (hk : k < ps.length) : szL (tyC ps[k]!.ty) ≤ szL (flC pmC ps) := by
  have h := szL_flk pmC ps k hk
  have : szL (pmC ps[k]!) = ps[k]!.name.size + szL (tyC ps[k]!.ty) := by rw [tyC_eq, pmC]; simp only [szL, szD] <;> omega
  omega
theorem sz_pmsD (ps : List Pm) : szD (pmsD ps) = ps.length + szL (flC pmC ps) := rfl
theorem foT_fit {ps : List Pm} {e : Tm} (h0 : szD (pmsD ps) ≤ 2000000) (h1 : szL (tmC e) ≤ 2000000) : ConfL (tmC (foT ps e)) K.tm.fields ∧ cntS (tmC (foT ps e)) ≤ 17592186044416 := by
  have h := sz_foT ps e
  rw [sz_pmsD] at h0
  have hc := conf_tmS (t := foT ps e) (by omega)
  have := cntS_bd hc
  exact ⟨hc, by omega⟩
end Go.Proofs.YtlmnfemobajmlaaDoor
/-
  FunctionOf of the program: a loop over the parameters, from the last one to the first.
-/
namespace Go.Proofs.YtlmnfemobajmlaaDoor
open Go.RowKit
set_option linter.unusedVariables false
set_option linter.unusedSimpArgs false
set_option maxRecDepth 20000
/-- Between two rounds: the term that is being made, in its box; the result's box; what is only read is as it was. -/
structure JB (S : Nat → Prop) (w w1 : World) (X : List Nat) (B5 B4 : Nat) (t : Tm) (W : World) : Prop where
  mem : ∃ us5 f5 us4 f4 T5 T4, Blk W B5 T5 us5.toArray ∧ OwnVs W (tmC t) us5 f5 ∧ Blk W B4 T4 us4.toArray ∧ OwnVs W (tmC t0) us4 f4 ∧ ((B5 :: f5) ++ (B4 :: f4)).Nodup ∧ ∀ j ∈ (B5 :: f5) ++ (B4 :: f4), (¬ S j ∧ w.heap.size ≤ j) ∧ j < W.heap.size ∧ j ∉ X
  bel : Below w.heap.size w W
  frz : ∀ k, S k → W.heap[k]? = w1.heap[k]?
  siz : w1.heap.size ≤ W.heap.size
theorem JB.keep {S : Nat → Prop} {w w1 : World} {X : List Nat} {B5 B4 : Nat} {t : Tm} {W W' : World} (h : JB S w w1 X B5 B4 t W) (hb : Below w.heap.size w W') (hs : W.heap.size ≤ W'.heap.size) (hk : ∀ k, (S k ∨ (w.heap.size ≤ k ∧ ¬ S k ∧ k ∉ X)) → k < W.heap.size → W'.heap[k]? = W.heap[k]?) (hS : ∀ k, S k → k < w1.heap.size) : JB S w w1 X B5 B4 t W' := by
  obtain ⟨us5, f5, us4, f4, T5, T4, h1, h2, h3, h4, h5, h6⟩ := h.mem
  have hq : ∀ j ∈ (B5 :: f5) ++ (B4 :: f4), W'.heap[j]? = W.heap[j]? := fun j hj => hk j (.inr ⟨(h6 j hj).1.2, (h6 j hj).1.1, (h6 j hj).2.2⟩) (h6 j hj).2.1
  refine ⟨⟨us5, f5, us4, f4, T5, T4, ?_, h2.keep hs _ _ _ (fun k hk => hq k (by simp [hk])), ?_, h4.keep hs _ _ _ (fun k hk => hq k (by simp [hk])), h5, fun j hj => ⟨(h6 j hj).1, Nat.lt_of_lt_of_le (h6 j hj).2.1 hs, (h6 j hj).2.2⟩⟩, hb, fun k hk' => (hk k (.inl hk') (Nat.lt_of_lt_of_le (hS k hk') h.siz)).trans (h.frz k hk'), Nat.le_trans h.siz hs⟩
  · unfold Blk at h1 ⊢; rw [hq B5 (by simp)]; exact h1
  · unfold Blk at h3 ⊢; rw [hq B4 (by simp)]; exact h3
theorem xw_in {n : Nat} {P : Program} {c : Code} {s S' : AS} {w0 : World0} {G : Gh} {a : Act} {w : World} {K : Act → World → Prop} {Q : Exit → Act → World → Prop} (h : XW P c s (qK S')) (hr : Rel w0 G s a w) (hK : ∀ G' a' w', Rel w0 G' S' a' w' → K a' w') : c.wpIn Fence.wide n P (Exit.then K Q) a w :=
  wpIn_mono (wpIn_wide.2 (h w0 G a w hr)) fun e a' w' ⟨G', s', hr', he, ρ, hsub⟩ => by
    subst he
    obtain ⟨G2, h2⟩ := hr'.sub hsub
    exact hK G2 a' w' h2
theorem enters131 {P : Program} {f : Nat} {fn : Func} (h : P.funcs[f]? = some fn) (hb : fn.body.isNone = false) (hn : (fn.name == "runtime.NumGoroutine") = false) (args : Array Value) (w : World) : (callFunc f args).run P w = .ok (.enter f args) w := by
  simp only [callFunc, Sem.run_bind, program, Sem.run, Result.andThen_ok, h, hn, hb, Bool.false_eq_true, if_false, Sem.run_pure]
set_option maxHeartbeats 1000000 in
theorem con_FoI (ps : List Pm) (e : Tm) (h0 : szD (pmsD ps) ≤ 10000000) (h1 : szL (tmC e) ≤ 10000000) : Con Tryd.prog 40 [.one (pmsD ps), .ag (tmC e)] [.ag (tmC (foT ps e))] := by
  rw [sz_pmsD] at h0
  have hco := con_ownT e (by omega)
  refine ⟨⟨_, Tryd.func40, rfl, rfl⟩, fun w us hg hu => callsIn_wide.1 (callsIn_of_wp_marks (n := 10) Tryd.func40 rfl trivial ?_)⟩
  have hlen := RepPDs.len hu
  have hu' : RepPAs w (fun k => k < w.heap.size) [.b (.one (pmsD ps)), .b (.ag (tmC e))] us [] [] := by
    have hx := RepPDs.x hu
    unfold RepXs RepXs RepXs at hx
    obtain ⟨v, r, rfl, q1, v2, r2, rfl, q2, rfl⟩ := hx
    unfold RepPAs RepPAs RepPAs
    exact ⟨v, _, [], [], [], [], rfl, rfl, rfl, by unfold RepPA; exact ⟨q1, rfl, rfl⟩, v2, [], [], [], [], [], rfl, rfl, rfl, by unfold RepPA; exact ⟨q2, rfl, rfl⟩, rfl, rfl, rfl⟩
  obtain ⟨w0, G, e1, e2, e3, e4, e5, e6, hrel⟩ := rel_ofP (w := w) (us := us) (fp := []) (fw := []) (S := fun k => k < w.heap.size) (args := [.b (.one (pmsD ps)), .b (.ag (tmC e))]) hg (fun k hk => hg.1 k hk) (fun k hk => ⟨hk, by simp⟩) hu' List.nodup_nil (a := { tmps := us.toArray ++ Array.replicate (21 - us.toArray.size) undef, defers := [] }) (nt := 21) (by simp [hlen]) rfl [0, 1] (fun i u hi => by
    have hi2 := (List.getElem?_eq_some_iff.1 hi).1
    rw [hlen] at hi2
    refine ⟨i, ?_, ?_⟩
    · match i, hi2 with
      | 0, _ => rfl
      | 1, _ => rfl
    · rw [Array.getElem?_append_left (by simp [hlen]; simpa using hi2)]
      simpa using hi) [] (by simp)
  simp only [mkPs, mkPA, List.zip_cons_cons, List.zip_nil_left, List.map_nil, List.append_nil, argA, avB] at hrel
  refine wpIn_seq (xw_in (S' := ⟨21, [(0, .br (pmsD ps)), (3, .bx 0 0), (4, .bx 1 0)], [(0, (tmC e).map avB), (1, [.i 0, .s ⟨#[]⟩, .s ⟨#[]⟩, .i 0, .i 0, .nl 2, .i 0, .nl 2, .nl 9])], [], 2, []⟩) (XW_of_SW (sw_run 200 _ _ _ ?_)) hrel fun G1 a1 w1 hr1 => ?_)
  · simp only [tysD, tmsD, eq_self, xRun, vE, isCutO, gN, isPick, isCall, AS.pt, AS.ev, AS.box, look, avB, AV.cells, AV.whole, AV.one, td0, td1, td2, td3, td4, td5, td6, Option.getD, Option.isSome, List.map, List.all, ↓reduceIte, Nat.reduceLT, Nat.reduceAdd, Nat.zero_add, true_and, Bool.and_true, Bool.false_eq_true, Nat.succ_ne_zero, tmC_eq, pmsD]
    exact ⟨rfl, id, by simp only [Sub, subT, subB, subO, subP, inj, AV.ren, AV.rens, AV.lt, AV.lts, eq_self, look, td0, td1, td2, td3, td4, td5, td6, List.map, List.mem_cons, List.not_mem_nil, List.nodup_cons, List.nodup_nil, ↓reduceIte, Nat.reduceLT, Nat.reduceEqDiff, not_false_eq_true, or_false, id_eq, reduceCtorEq, and_self]⟩
  refine wpIn_seq (xw_in (S' := ⟨21, [(0, .br (pmsD ps)), (5, .bx 0 0), (4, .bx 1 0)], [(0, [.i e.kind, .s e.name, .s e.other, .i e.n, .i e.ty.kind, .sl 2, .i e.res.kind, .sl 3, .sl 4]), (1, [.i 0, .s ⟨#[]⟩, .s ⟨#[]⟩, .i 0, .i 0, .nl 2, .i 0, .nl 2, .nl 9])], [(2, some ⟨.rows 2 e.ty.args.length (tysC e.ty.args), none, true⟩), (3, some ⟨.rows 2 e.res.args.length (tysC e.res.args), none, true⟩), (4, some ⟨.rows 9 e.args.length (tmsC e.args), none, true⟩)], 5, []⟩) (XW_of_SW (sw_run 200 _ _ _ ?_)) hr1 fun G2 a2 w2 hr2 => ?_)
  · simp only [tysD, tmsD, eq_self, xRun, vE, vP, vSub, vLoad, isCutO, gN, isPick, isCall, AS.pt, AS.ev, look, avB, td0, td1, td2, td3, td4, td5, td6, Option.getD, List.map, List.take, List.drop, List.length, ↓reduceIte, Nat.reduceLT, Nat.reduceAdd, Nat.zero_add, true_and, Bool.false_eq_true, Nat.succ_ne_zero, Nat.le_refl, tmC_eq, pmsD]
    refine sw_call (hco) rfl (aAs_ok ?_) ?_ (sw_run 200 _ _ _ ?_)
    · simp only [aAs, aA, aDs, aD, tysD, tmsD, AS.ev, look, Option.getD, List.map, List.append_nil, ↓reduceIte, eq_self, and_self, tmC_eq]
    · simp only [okR]
    simp only [mkR, flatD, packA, retA, tysD, tmsD, eq_self, xRun, vE, vStore, isCutO, gN, isPick, isCall, AS.pt, AS.ev, AS.box, AS.setb, AS.mk', kill, look, setRowG, AV.cells, AV.whole, AV.one, td0, td1, td2, td3, td4, td5, td6, Option.getD, Option.isSome, List.take, List.length, List.set, List.foldr, List.all, List.append_nil, ↓reduceIte, Nat.reduceLT, Nat.reduceAdd, Nat.reduceEqDiff, Nat.zero_add, true_and, Bool.and_true, Bool.false_eq_true, and_self, Nat.le_refl, tmC_eq]
    exact ⟨rfl, rnL [(0, 5)], by simp only [Sub, subT, subB, subO, subP, inj, AV.ren, AV.rens, AV.lt, AV.lts, eq_self, AS.owf, look, td0, td1, td2, td3, td4, td5, td6, Option.bind, Option.getD, List.map, List.mem_cons, List.not_mem_nil, List.nodup_cons, List.nodup_nil, ↓reduceIte, Nat.reduceLT, Nat.reduceEqDiff, not_false_eq_true, or_false, id_eq, reduceCtorEq, and_self, Nat.succ_ne_zero, rnL]⟩
  clear hr1 hrel hu' hu hlen
  -- what is there ahead of the loop
  obtain ⟨v0, hv0, hrv0⟩ := hr2.tm 0 (.br (pmsD ps)) rfl
  obtain ⟨u5, hu5, hru5⟩ := hr2.tm 5 (.bx 0 0) rfl
  obtain ⟨u4, hu4, hru4⟩ := hr2.tm 4 (.bx 1 0) rfl
  have hru5' := hru5
  have hru4' := hru4
  unfold RV at hru5' hru4' hrv0
  obtain ⟨_, hu5e⟩ := hru5'
  obtain ⟨_, hu4e⟩ := hru4'
  generalize hB5 : G2.β 0 = B5 at hu5e
  generalize hB4 : G2.β 1 = B4 at hu4e
  subst hu5e hu4e
  obtain ⟨S, hSe⟩ : ∃ S : Nat → Prop, S = G2.Z := ⟨_, rfl⟩
  obtain ⟨fp, fw, hrep, hnd, hfr, hfw, hptr, hlive⟩ := mPs_own hr2 hr2.em rfl (fun o I h => by cases h) [.p ((tmC e).map CD.o), .p ((tmC t0).map CD.o)] (l := [.bx 0 0, .bx 1 0]) (us := [.pointer (some ⟨B5, 0, none⟩), .pointer (some ⟨B4, 0, none⟩)]) (by unfold RVs RVs RVs; exact ⟨_, _, rfl, hru5, _, _, rfl, hru4, rfl⟩) (by simp only [rC, rCs, AS.em, mPs, mP, tysD, tmsD, rD, eq_self, AS.owf, look, td0, td1, td2, td3, td4, td5, td6, Option.bind, List.map, ↓reduceIte, Nat.reduceEqDiff, id_eq, and_self, Nat.succ_ne_zero, tmC_eq, t0, ty0, e0, mk_kind, mk_name, mk_other, mk_n, mk_ty, mk_res, mk_args, tyk, tya, tysC, tmsC, List.length_nil]) (by simp only [eC, eCs, ePs, eP, tysD, tmsD, eq_self, look, td0, td1, td2, td3, td4, td5, td6, List.map, List.mem_cons, List.not_mem_nil, List.nodup_cons, List.nodup_nil, List.nil_append, List.cons_append, List.append_nil, ↓reduceIte, Nat.reduceEqDiff, not_false_eq_true, or_false, and_self, Nat.succ_ne_zero, tmC_eq, t0, ty0, e0, mk_kind, mk_name, mk_other, mk_n, mk_ty, mk_res, mk_args, tyk, tya, tysC, tmsC, List.length_nil]) (by simp only [bPs, bP, td0, td1, td2, td3, td4, td5, td6, List.mem_cons, List.not_mem_nil, List.nodup_cons, List.nodup_nil, List.nil_append, List.cons_append, List.append_nil, not_false_eq_true, or_false, reduceCtorEq, and_self])
  obtain ⟨T5, us5, f5, T4, us4, f4, m1, m2, m3, m4, rfl⟩ := ptr_two hrep
  have hfl : ∀ j ∈ (B5 :: f5) ++ (B4 :: f4), (¬ S j ∧ w.heap.size ≤ j) ∧ j < w2.heap.size := fun j hj => by
    obtain ⟨⟨q1, q2⟩, q3⟩ := Fr.lt hr2 (hfr j hj)
    rw [hSe]
    refine ⟨⟨q1, ?_⟩, q3⟩
    rcases q2 with q2 | q2
    · rw [← e1]; exact q2
    · rw [e2] at q2; simp at q2
  have hbel2 : Below w.heap.size w w2 := by
    have := hr2.bel.below (fun k hk => by rw [e3] at hk; simp at hk)
    rw [← e1]; exact this
  have hJ0 : ∀ X : List Nat, (∀ x ∈ X, w2.heap.size ≤ x) → JB S w w2 X B5 B4 e w2 := fun X hX =>
    ⟨⟨us5, f5, us4, f4, T5, T4, m1, m2, m3, m4, hnd, fun j hj => ⟨(hfl j hj).1, (hfl j hj).2, fun hjx => by have := hX j hjx; have := (hfl j hj).2; omega⟩⟩, hbel2, fun _ _ => rfl, Nat.le_refl _⟩
  have hSl : ∀ k, S k → k < w2.heap.size := fun k hk => hr2.zl k (by rw [← hSe]; exact hk)
  have hSg : ∀ k ∈ GBl, S k := fun k hk => by rw [hSe]; exact hr2.zz.1 k (w0.gz k hk)
  rw [← hSe] at hrv0
  have hnt2 := hr2.nt
  have hdf2 := hr2.df
  clear hfr hfw hptr hlive hrep hru5 hru4 hr2 m1 m2 m3 m4 hnd hfl
  -- the list in memory
  obtain ⟨a, cap, hv0e, hnc, hcm, hfl, hcells⟩ : ∃ a cap, v0 = .slice a ps.length cap ∧ ps.length ≤ cap ∧ cap ≤ maxLen ∧ (flC pmC ps).length = ps.length * 4 ∧ (ps.length = 0 ∨ ∃ b off vs, a = some ⟨b, off, none⟩ ∧ S b ∧ Cells w2 b off vs ∧ RepPs w2 S (flC pmC ps) vs) := by
    unfold pmsD RepP at hrv0; exact hrv0
  subst hv0e
  have hE : ∀ j, ∃ v, j < ps.length → ∃ b off, a = some ⟨b, off, none⟩ ∧ S b ∧ Cells w2 b (off + j * 4) [.string ps[j]!.name, .int .i64 ps[j]!.ty.kind, v, .bool ps[j]!.dyn] ∧ RepP w2 S (tysD ps[j]!.ty.args) v := fun j => by
    by_cases hj : j < ps.length
    case neg => exact ⟨undef, fun h => absurd h hj⟩
    rcases hcells with hc | ⟨b, off, vs, ha, hb, hc, hv⟩
    · omega
    have hr := (hv.drop (j * 4)).take 4
    have hrow := flC_row (c := pmC) (n := 4) pmC_len ps j hj
    rw [rowAt] at hrow
    rw [hrow] at hr
    have hcr := hc.row 4 j
    rw [rowAt] at hcr
    unfold pmC at hr
    unfold RepPs RepPs RepPs RepPs RepPs at hr
    obtain ⟨x0, _, r0, p0, x1, _, rfl, p1, x2, _, rfl, p2, x3, _, rfl, p3, rfl⟩ := hr
    unfold RepP at p0 p1 p3
    subst p0 p1 p3
    rw [r0] at hcr
    exact ⟨x2, fun _ => ⟨b, off, ha, hb, hcr, p2⟩⟩
  obtain ⟨E, hE⟩ := Classical.axiomOfChoice hE
  -- the loop's value
  refine wpIn_seq (wpIn_seq (wpIn_region_list ?_))
  show wpListIn Fence.wide 10 Tryd.prog _ _ [_, _] a2 w2
  unfold wpListIn
  rw [if_pos (wanted_none rfl _)]
  have hev0 : a2.eval (.tmp 0) = .slice a ps.length cap := by simp only [Act.eval, Array.getD_eq_getD_getElem?, hv0, Option.getD_some]
  have hs0 : ∀ (o : Oper), Oper.semAt (Fence.wide).round a2.eval o = execOp a2.eval o := fun o => rfl
  refine ⟨fun _ _ => trivial, ?_⟩
  rw [hs0]
  simp only [execOp, hev0, Sem.run_pure, Oper.uponIn_value]
  obtain ⟨a3, ha3⟩ : ∃ a3, a3 = a2.put (some 10) (.slice a ps.length cap) := ⟨_, rfl⟩
  rw [← ha3]
  have ht3 : a3.tmps = a2.tmps.setIfInBounds 10 (.slice a ps.length cap) := by rw [ha3]; rfl
  have hd3 : a3.defers = [] := by rw [ha3]; exact hdf2
  have hev10 : a3.eval (.tmp 10) = .slice a ps.length cap := by
    have : a2.tmps.size = 21 := hnt2
    simp only [Act.eval, Array.getD_eq_getD_getElem?, ht3]
    rw [Array.getElem?_setIfInBounds_self_of_lt (by omega)]; rfl
  unfold wpListIn
  rw [if_pos (wanted_none rfl _)]
  refine ⟨fun _ _ => trivial, ?_⟩
  have hs1 : ∀ (o : Oper), Oper.semAt (Fence.wide).round a3.eval o = execOp a3.eval o := fun o => rfl
  rw [hs1]
  have hrun : ∀ (o : Oper) (ty : TypeId) (pos : String) (af : Array Edge), o = ⟨some 11, .call { callee := .value (.func 72), args := #[.tmp 10], argTypes := #[53] }, ty, pos, af, none⟩ → (execOp a3.eval o).run Tryd.prog w2 = .ok (.enter 72 #[.slice a ps.length cap]) w2 := fun o ty pos af e => by
    subst e
    have hef : a3.eval (.func 72) = .func (.func 72) #[] #[] := rfl
    simp only [execOp, resolve, Deferred.ofValue, hef, pure_bind, invoke, enters131 Tryd.func72 rfl rfl]
    simp [hev10]
  rw [hrun _ _ _ _ rfl]
  refine ⟨fun h => by simp [Fence.wide] at h, (back0 9 a ps.length cap w2).mono ?_⟩
  rintro e w3 ⟨rfl, hw3⟩
  show wpListIn Fence.wide 10 Tryd.prog _ _ [] _ w3
  obtain ⟨a4, ha4⟩ : ∃ a4, a4 = a3.put (some 11) (.func (.func 90) #[] #[.pointer (some ⟨w2.heap.size, 0, none⟩)]) := ⟨_, rfl⟩
  rw [← ha4]
  have ht4 : a4.tmps = a3.tmps.setIfInBounds 11 (.func (.func 90) #[] #[.pointer (some ⟨w2.heap.size, 0, none⟩)]) := by rw [ha4]; rfl
  have hd4 : a4.defers = [] := by rw [ha4]; exact hd3
  have hnt4 : a4.tmps.size = 21 := by rw [ht4, ht3]; simpa using hnt2
  have hg4 : a4.eval (.tmp 11) = .func (.func 90) #[] #[.pointer (some ⟨w2.heap.size, 0, none⟩)] := by
    have : a2.tmps.size = 21 := hnt2
    simp only [Act.eval, Array.getD_eq_getD_getElem?, ht4]
    rw [Array.getElem?_setIfInBounds_self_of_lt (by rw [ht3]; simp; omega)]; rfl
  have h54 : a4.tmps[5]? = some (.pointer (some ⟨B5, 0, none⟩)) := by rw [ht4, ht3, Array.getElem?_setIfInBounds_ne (by decide), Array.getElem?_setIfInBounds_ne (by decide)]; exact hu5
  have h44 : a4.tmps[4]? = some (.pointer (some ⟨B4, 0, none⟩)) := by rw [ht4, ht3, Array.getElem?_setIfInBounds_ne (by decide), Array.getElem?_setIfInBounds_ne (by decide)]; exact hu4
  have hBs : Blk w3 w2.heap.size 53 #[.slice a ps.length cap] := by rw [hw3]; exact World.alloc_heap_new w2 _
  have hb3 : Below w2.heap.size w2 w3 := by rw [hw3]; exact (Below.refl _ w2).alloc (Nat.le_refl _) _
  have hsz3 : w3.heap.size = w2.heap.size + 1 := by rw [hw3, World.size_alloc]
  clear ha3 ha4 hs0 hs1 hrun hev0 hev10 ht3 ht4 hd3 hdf2 hnt2 hu5 hu4 hv0 hrv0 hcells hw3
  show Code.wpIn _ _ _ _ _ a4 w3
  obtain ⟨X, hX⟩ : ∃ X : List Nat, X = [w2.heap.size, w3.heap.size, w3.heap.size + 1] := ⟨_, rfl⟩
  have hXs : ∀ x ∈ X, w2.heap.size ≤ x := fun x hx => by rw [hX] at hx; simp at hx; rcases hx with h | h | h <;> omega
  have hJ0 := hJ0 X hXs
  refine wpIn_block ?_
  refine rf_law (by decide) hg4 (enters131 Tryd.func90 rfl rfl) (fun rec W => JB S w w2 X B5 B4 (foT ps e) W ∧ W.heap[w3.heap.size + 1]? = some (.loop rec) ∧ W.heap[w3.heap.size]? = some (.deferred (some [])) ∧ Blk W w2.heap.size 53 #[.slice a ps.length cap]) ?_ (fun fn W h => h.2.1) ?_
  · intro fn
    generalize hrec : (Loop.mk LoopState.ready none fn a4.tmps #[12, 13] _ _ w3.heap.size : Loop) = rec
    have hst : rec.state = .ready := by rw [← hrec]
    refine (back1 9 (w3.heap.size + 1) w2.heap.size ps.length cap a (by decide) (by omega) (fun k W => JB S w w2 X B5 B4 (foK ps e k) W ∧ W.heap[w3.heap.size + 1]? = some (.loop rec) ∧ W.heap[w3.heap.size]? = some (.deferred (some [])) ∧ Blk W w2.heap.size 53 #[.slice a ps.length cap]) (fun j => (ps[j]!.name, ps[j]!.ty.kind, E j, ps[j]!.dyn)) ?hc ?hr ?hY _ ?h0).mono ?_
    case hc =>
      intro k W ⟨_, _, _, h⟩
      rw [h.cell]; rfl
    case hr =>
      intro k W ⟨h, _⟩ j hj
      obtain ⟨b, off, q1, q2, q3, _⟩ := hE j hj
      have q4 := q3.keep (h.frz b q2)
      have c0 := q4 0 (by simp)
      have c1 := q4 1 (by simp)
      have c2 := q4 2 (by simp)
      have c3 := q4 3 (by simp)
      exact ⟨b, off, q1, by simpa using c0, by simpa using c1, by simpa using c2, by simpa using c3⟩
    case h0 =>
      have k1 : Below w3.heap.size w3 ((w3.alloc (.deferred (some []))).alloc (.loop rec)) := ((Below.refl _ w3).alloc (Nat.le_refl _) _).alloc (by simp) _
      refine ⟨?_, ?_, ?_, ?_⟩
      · rw [foK_0]
        have hb03 := hb3.trans (k1.mono hb3.size)
        refine hJ0.keep (hbel2.trans (hb03.mono hbel2.size)) hb03.size (fun k _ hk => hb03.block k hk) hSl
      · have := World.alloc_heap_new (w3.alloc (.deferred (some []))) (.loop rec)
        rwa [World.size_alloc] at this
      · rw [Below.heap_alloc _ _ _ (by simp)]; exact World.alloc_heap_new w3 _
      · unfold Blk at hBs ⊢; rw [k1.block _ (by omega)]; exact hBs
    case hY =>
      intro k W ⟨hJ, hl, hD, hB⟩ hlt
      have hy := run_yield (P := Tryd.prog) (args := #[.int .i64 ((ps.length - 1 - k : Nat) : Int), .agg #[.string ps[ps.length - 1 - k]!.name, .int .i64 ps[ps.length - 1 - k]!.ty.kind, E (ps.length - 1 - k), .bool ps[ps.length - 1 - k]!.dyn]]) hl (by rw [← hrec]; rfl)
      have hrs := hrec
      rw [← hrec] at hy
      refine ⟨fn, _, _, _, hy, roundIn_of_wpIn trivial ?_⟩
      obtain ⟨b, off, ha, hSb, hcl, hrp⟩ := hE (ps.length - 1 - k) (by omega)
      have hst1 := foK_s ps e k hlt
      have hty := sz_pmty ps (ps.length - 1 - k) (by omega)
      generalize hp : ps[ps.length - 1 - k]! = p at *
      generalize hva : E (ps.length - 1 - k) = va at *
      generalize hix : ((ps.length - 1 - k : Nat) : Int) = ix at *
      show Code.wpIn (wideR (some (w3.heap.size + 1))) _ _ _ _ _ W
      generalize hb0 : Act.mk _ [] = b0
      have hbt : b0.tmps = (a4.tmps.setIfInBounds 12 (.int .i64 ix)).setIfInBounds 13 (.agg #[.string p.name, .int .i64 p.ty.kind, va, .bool p.dyn]) := by rw [← hb0]; simp
      have hb13 : b0.tmps[13]? = some (.agg #[.string p.name, .int .i64 p.ty.kind, va, .bool p.dyn]) := by rw [hbt, Array.getElem?_setIfInBounds_self_of_lt (by simp; omega)]
      have hb5 : b0.tmps[5]? = some (.pointer (some ⟨B5, 0, none⟩)) := by rw [hbt, Array.getElem?_setIfInBounds_ne (by decide), Array.getElem?_setIfInBounds_ne (by decide)]; exact h54
      have hb4 : b0.tmps[4]? = some (.pointer (some ⟨B4, 0, none⟩)) := by rw [hbt, Array.getElem?_setIfInBounds_ne (by decide), Array.getElem?_setIfInBounds_ne (by decide)]; exact h44
      have hbn : b0.tmps.size = 21 := by rw [hbt]; simpa using hnt4
      have hbd : b0.defers = [] := by rw [← hb0]
      clear hb0 hbt hy
      have hgW : GI W := GI_bel hg hJ.bel
      have hrpW : RepP W S (tysD p.ty.args) va := RepP.mono (fun _ h => h) (fun k hk => hJ.frz k hk) _ _ hrp
      -- the assignment to the loop's variable
      obtain ⟨y0, H, y1, y2, y3, y4, y5, y6, hrel⟩ := rel_ofP (w := W) (us := [.agg #[.string p.name, .int .i64 p.ty.kind, va, .bool p.dyn]]) (fp := []) (fw := []) (S := S) (args := [.b (.ag (pmC p))]) hgW hSg (fun k hk => ⟨Nat.lt_of_lt_of_le (hSl k hk) hJ.siz, by simp⟩) (by
        unfold RepPAs RepPAs
        refine ⟨_, _, [], [], [], [], rfl, rfl, rfl, ?_, rfl, rfl, rfl⟩
        unfold RepPA RepX pmC
        refine ⟨⟨[.string p.name, .int .i64 p.ty.kind, va, .bool p.dyn], rfl, ?_⟩, rfl, rfl⟩
        unfold RepPs RepPs RepPs RepPs RepPs
        exact ⟨_, _, rfl, by unfold RepP; rfl, _, _, rfl, by unfold RepP; rfl, _, _, rfl, hrpW, _, _, rfl, by unfold RepP; rfl, rfl⟩) List.nodup_nil (a := b0) (nt := 21) hbn hbd [13] (fun i u hi => by
        match i, hi with
        | 0, hi => simp at hi; subst hi; exact ⟨13, rfl, hb13⟩) [(5, .pointer (some ⟨B5, 0, none⟩)), (4, .pointer (some ⟨B4, 0, none⟩))] (by
        intro q hq
        simp at hq
        rcases hq with rfl | rfl
        · exact ⟨hb5, rfl⟩
        · exact ⟨hb4, rfl⟩)
      simp only [mkPs, mkPA, List.zip_cons_cons, List.zip_nil_left, List.map_cons, List.map_nil, List.nil_append, List.cons_append, argA, avB, pmC, tysD] at hrel
      refine ops_in (Qe := qK ⟨21, [(7, .bx 0 0), (5, .x (.pointer (some ⟨B5, 0, none⟩))), (4, .x (.pointer (some ⟨B4, 0, none⟩)))], [(0, [.s p.name, .i p.ty.kind, .br (tysD p.ty.args), .b p.dyn])], [], 1, []⟩) (sw_run 200 _ _ _ ?_) hrel (by intro o ho c; simp at ho; rcases ho with rfl | rfl <;> simp) (fun e s h => h.1) ?_
      · simp only [tysD, eq_self, xRun, vE, vStore, isCutO, gN, isPick, isCall, AS.pt, AS.ev, AS.box, AS.setb, look, setRowG, AV.cells, AV.whole, AV.one, td0, td1, td2, td3, td4, td5, td6, Option.getD, Option.isSome, List.length, List.set, List.all, ↓reduceIte, Nat.reduceLT, Nat.reduceAdd, Nat.reduceEqDiff, Nat.zero_add, true_and, Bool.and_true, Bool.false_eq_true, and_self, Nat.le_refl, tysD]
        exact ⟨rfl, id, by simp only [Sub, subT, subB, subO, subP, inj, AV.ren, AV.rens, AV.lt, AV.lts, eq_self, look, td0, td1, td2, td3, td4, td5, td6, List.map, List.not_mem_nil, List.nodup_cons, List.nodup_nil, ↓reduceIte, Nat.reduceLT, Nat.reduceEqDiff, not_false_eq_true, id_eq, and_self]⟩
      rintro H' s' b1 V1 hr' ⟨_, ρ, hsub⟩
      obtain ⟨H2, hr2⟩ := hr'.sub hsub
      clear hr' hsub
      obtain ⟨u7, k7, hr7⟩ := hr2.tm 7 (.bx 0 0) rfl
      obtain ⟨_, k5, hr5⟩ := hr2.tm 5 (.x (.pointer (some ⟨B5, 0, none⟩))) rfl
      obtain ⟨_, k4, hr4⟩ := hr2.tm 4 (.x (.pointer (some ⟨B4, 0, none⟩))) rfl
      unfold RV at hr5 hr4
      obtain ⟨rfl, _⟩ := hr5
      obtain ⟨rfl, _⟩ := hr4
      have hr7' := hr7
      unfold RV at hr7'
      obtain ⟨_, hu7⟩ := hr7'
      generalize hg7 : H2.β 0 = g7 at hu7
      subst hu7
      obtain ⟨f7, fw7, hrep7, hnd7, hfr7, _, _, _⟩ := mPs_own hr2 hr2.em rfl (fun o I h => by cases h) [.p [.o (.str p.name), .o (.int p.ty.kind), .r (tysD p.ty.args), .o (.bool p.dyn)]] (l := [.bx 0 0]) (us := [.pointer (some ⟨g7, 0, none⟩)]) (by unfold RVs RVs; exact ⟨_, _, rfl, hr7, rfl⟩) (by simp only [rC, rCs, mPs, mP, aD, tysD, rD, eq_self, look, td0, td1, td2, td3, td4, td5, td6, ↓reduceIte, and_self, tysD]) (by simp only [eC, eCs, ePs, eP, tysD, eq_self, look, td0, td1, td2, td3, td4, td5, td6, List.nodup_nil, List.append_nil, ↓reduceIte]) (by simp only [bPs, bP, td0, td1, td2, td3, td4, td5, td6, List.not_mem_nil, List.nodup_cons, List.nodup_nil, List.append_nil, not_false_eq_true, and_self])
      have hVb : Below W.heap.size W V1 := by
        have := hr2.bel.below (fun k hk => by rw [y3] at hk; simp at hk)
        rw [y1] at this; exact this
      obtain ⟨S2, hS2⟩ : ∃ S2 : Nat → Prop, S2 = H2.Z := ⟨_, rfl⟩
      have hrep7' : RepPA V1 S2 (.p [.o (.str p.name), .o (.int p.ty.kind), .r (tysD p.ty.args), .o (.bool p.dyn)]) (.pointer (some ⟨g7, 0, none⟩)) f7 fw7 := by
        unfold RepPAs RepPAs at hrep7
        obtain ⟨v, r, f, g, fw1, fw2, q1, q2, q3, q4, q5, q6, q7⟩ := hrep7
        injection q1 with q1 _
        subst q1 q2 q3 q6 q7
        rw [List.append_nil, List.append_nil]
        unfold RepPA at q4 ⊢
        obtain ⟨z1, z2, z3, z4, z5, z6, z7, z8, z9⟩ := q4
        exact ⟨z1, z2, z3, z4, z5, z6, z7, by rw [hS2]; exact owns_em z8, z9⟩
      have hS12 : ∀ k, S k → S2 k := fun k hk => by rw [hS2]; exact hr2.zz.1 k (by rw [y5]; exact hk)
      have hS21 : ∀ k, S2 k → S k ∨ W.heap.size ≤ k := fun k hk => by
        rw [hS2] at hk
        rcases hr2.zz.2 k hk with h | h | h
        · rw [y5] at h; exact .inl h
        · rw [y2] at h; simp at h
        · rw [y1] at h; exact .inr h
      have hS2l : ∀ k, S2 k → k < V1.heap.size := fun k hk => hr2.zl k (by rw [← hS2]; exact hk)
      have hf7 : ∀ k ∈ f7, ¬ S2 k ∧ W.heap.size ≤ k ∧ k < V1.heap.size := fun k hk => by
        obtain ⟨⟨q1, q2⟩, q3⟩ := Fr.lt hr2 (hfr7 k hk)
        rw [hS2]
        refine ⟨q1, ?_, q3⟩
        rcases q2 with q2 | q2
        · rw [← y1]; exact q2
        · rw [y2] at q2; simp at q2
      have hn1 := hr2.nt
      have hd1 := hr2.df
      clear hfr7 hrep7 hr7 hr2 hrel y1 y2 y3 y4 y5 y6
      have hWs : w3.heap.size + 1 < W.heap.size := (Array.getElem?_eq_some_iff.1 hl).1
      have hl1 : V1.heap[w3.heap.size + 1]? = some (.loop rec) := (hVb.block _ hWs).trans hl
      show ∃ w₂, _
      refine ⟨_, run_beginRound hl1 hst, ?_⟩
      obtain ⟨V2, hV2⟩ : ∃ V2, V2 = V1.putObj (w3.heap.size + 1) (.loop { rec with state := .busy }) := ⟨_, rfl⟩
      rw [← hV2]
      have hnc : Nc V1 V2 := by rw [hV2]; exact nc_put hl1 rfl rfl
      have hV2s : V2.heap.size = V1.heap.size := by rw [hV2]; simp
      have hV2o : ∀ j, j ≠ w3.heap.size + 1 → V2.heap[j]? = V1.heap[j]? := fun j hj => by rw [hV2]; exact World.putObj_heap_other hj
      have hV2l : V2.heap[w3.heap.size + 1]? = some (.loop { rec with state := .busy }) := by rw [hV2]; exact World.putObj_heap_same (Array.getElem?_eq_some_iff.1 hl1).1
      have hlX : w3.heap.size + 1 ∈ X := by rw [hX]; simp
      have hVw : ∀ j, j < W.heap.size → j ≠ w3.heap.size + 1 → V2.heap[j]? = W.heap[j]? := fun j h1 h2 => (hV2o j h2).trans (hVb.block j h1)
      have hSw : ∀ k, S k → k < w2.heap.size ∧ k < W.heap.size ∧ k ≠ w3.heap.size + 1 := fun k hk => by
        have := hSl k hk; have := hJ.siz; exact ⟨by omega, by omega, by omega⟩
      have hbelV : Below w.heap.size w V2 := by
        have := (hJ.bel.trans (hVb.mono hJ.bel.size))
        refine ⟨?_, ?_, ?_, ?_, fun k hk => ?_⟩
        · rw [hV2]; exact this.os
        · rw [hV2]; exact this.tape
        · rw [hV2]; exact this.output
        · rw [hV2s]; exact this.size
        · rw [hV2o k (by have := hbel2.size; omega)]; exact this.block k hk
      clear hV2
      obtain ⟨us5, f5, us4, f4, T5, T4, n1, n2, n3, n4, n5, n6⟩ := hJ.mem
      have hq : ∀ j ∈ (B5 :: f5) ++ (B4 :: f4), V2.heap[j]? = W.heap[j]? := fun j hj => hVw j (n6 j hj).2.1 (fun e => (n6 j hj).2.2 (e ▸ hlX))
      have hsV : W.heap.size ≤ V2.heap.size := by rw [hV2s]; exact hVb.size
      have n1' : Blk V2 B5 T5 us5.toArray := by unfold Blk at n1 ⊢; rw [hq B5 (by simp)]; exact n1
      have n3' : Blk V2 B4 T4 us4.toArray := by unfold Blk at n3 ⊢; rw [hq B4 (by simp)]; exact n3
      have n2' := n2.keep hsV _ _ _ (fun k hk => hq k (by simp [hk]))
      have n4' := n4.keep hsV _ _ _ (fun k hk => hq k (by simp [hk]))
      obtain ⟨fw5, r5⟩ := ptr_mk (S := S2) n1' n2'
      obtain ⟨fw4, r4⟩ := ptr_mk (S := S2) n3' n4'
      have hrepB := ptr_three r5 r4 (ptr_nc hnc hrep7')
      have hnB : ((B5 :: f5) ++ ((B4 :: f4) ++ f7)).Nodup := by
        have hnd7' := hnd7
        rw [← List.append_assoc]
        refine List.nodup_append.2 ⟨n5, hnd7', fun x hx y hy e => ?_⟩
        have := (n6 x hx).2.1
        have := (hf7 y hy).2.1
        omega
      have hfB : ∀ j ∈ (B5 :: f5) ++ ((B4 :: f4) ++ f7), ¬ S2 j ∧ w.heap.size ≤ j ∧ j < V2.heap.size ∧ j ∉ X := fun j hj => by
        rw [← List.append_assoc] at hj
        rcases List.mem_append.1 hj with hj | hj
        · obtain ⟨⟨q1, q2⟩, q3, q4⟩ := n6 j hj
          exact ⟨fun h => (hS21 j h).elim q1 (fun h => by omega), q2, by omega, q4⟩
        · obtain ⟨q1, q2, q3⟩ := hf7 j hj
          have := hJ.bel.size
          refine ⟨q1, by omega, by omega, fun hx => ?_⟩
          rw [hX] at hx
          simp at hx
          omega
      obtain ⟨z0, I, x1, x2, x3, x4, x5, x6, hrel⟩ := rel_ofP (w := V2) (GI_bel hg hbelV) (fun k hk => hS12 k (hSg k hk)) (fun k hk => ⟨by rw [hV2s]; exact hS2l k hk, fun hkf => (hfB k hkf).1 hk⟩) hrepB hnB (a := b1) (nt := 21) hn1 hd1 [5, 4, 7] (fun i u hi => by
        match i, hi with
        | 0, hi => simp at hi; subst hi; exact ⟨5, rfl, k5⟩
        | 1, hi => simp at hi; subst hi; exact ⟨4, rfl, k4⟩
        | 2, hi => simp at hi; subst hi; exact ⟨7, rfl, k7⟩) [] (by simp)
      have hsz := sz_foK ps e k
      simp only [mkPs, mkPA, mkC, tysD, tmsD, AS.box, AS.mk', kill, avB, td0, td1, td2, td3, td4, td5, td6, List.map, List.foldr, List.nil_append, List.cons_append, List.append_nil, Nat.reduceAdd, Nat.zero_add, tmC_eq, t0, ty0, e0, mk_kind, mk_name, mk_other, mk_n, mk_ty, mk_res, mk_args, tyk, tya, tysC, tmsC, List.length_nil, tysD, List.zip_cons_cons, List.zip_nil_left] at hrel
      refine wpIn_block (ops_in (Qe := fun e' s => e' = .normal ∧ rOs s s.pb [(tmC (foK ps e (k + 1))).map CD.o, (tmC t0).map CD.o, [.o (.str p.name), .o (.int p.ty.kind), .r (tysD p.ty.args), .o (.bool p.dyn)]] ∧ s.pb.Nodup ∧ (eOs s s.pb [(tmC (foK ps e (k + 1))).map CD.o, (tmC t0).map CD.o, [.o (.str p.name), .o (.int p.ty.kind), .r (tysD p.ty.args), .o (.bool p.dyn)]]).Nodup) (sw_run 200 _ _ _ ?_) hrel (by intro o ho c; simp at ho; rcases ho with rfl | rfl | rfl | rfl | rfl | rfl | rfl <;> simp) (fun e s h => h.1) ?_)
      · simp only [tysD, eq_self, xRun, vE, vP, vSub, vLoad, vFld, isCutO, gN, isPick, isCall, AS.pt, AS.ev, look, td0, td1, td2, td3, td4, td5, td6, Option.getD, Option.isSome, List.take, List.drop, List.length, List.getElem?_cons_zero, ↓reduceIte, Nat.reduceLT, Nat.reduceAdd, Nat.reduceLeDiff, Nat.reduceEqDiff, Nat.zero_add, Nat.add_zero, ne_eq, not_false_eq_true, true_and, Bool.false_eq_true, Nat.succ_ne_zero, Nat.le_refl]
        refine sw_callM (con_tmLam p.name p.ty (foK ps e k) (by omega)) rfl ?_ ?_ ?_ (sw_run 200 _ _ _ ?_)
        · simp only [aA, aDs, aD, mAs, mA, AS.kl, eatM, tysD, tmsD, rD, rDs, eq_self, AS.ev, AS.owf, kill, look, eatsOf, td0, td1, td2, td3, td4, td5, td6, Option.bind, Option.getD, List.map, List.foldr, List.append_nil, ↓reduceIte, Nat.reduceEqDiff, id_eq, reduceCtorEq, and_self, tmC_eq, tyC_eq, tysD]
        · simp only [eatM, tysD, tmsD, eq_self, AS.ev, look, eatsOf, td0, td1, td2, td3, td4, td5, td6, Option.getD, List.map, List.mem_cons, List.not_mem_nil, List.nodup_cons, List.nodup_nil, List.append_nil, ↓reduceIte, Nat.reduceEqDiff, not_false_eq_true, or_false, reduceCtorEq, and_self, tmC_eq, tyC_eq, tysD]
        · simp only [okR, td0, td1, td2, td3, td4, td5, td6]
        rw [hst1]
        simp only [rOs, rC, rCs, eOs, eC, eCs, aD, AS.kl, eatM, mkR, flatD, packA, retA, tysD, tmsD, rD, eq_self, xRun, vE, vStore, isCutO, gN, isPick, isCall, AS.pt, AS.ev, AS.setb, AS.mk', AS.owf, kill, look, setRowG, AV.cells, AV.whole, AV.one, eatsOf, td0, td1, td2, td3, td4, td5, td6, Option.bind, Option.getD, List.map, List.take, List.length, List.set, List.foldr, List.all, List.mem_cons, List.not_mem_nil, List.nodup_cons, List.nodup_nil, List.nil_append, List.cons_append, List.append_nil, ↓reduceIte, Nat.reduceLT, Nat.reduceAdd, Nat.reduceEqDiff, Nat.zero_add, not_false_eq_true, or_false, Bool.and_true, Bool.false_eq_true, id_eq, and_self, Nat.succ_ne_zero, Nat.le_refl, tLam, ty0, e0, tmC_eq, tyC_eq, mk_kind, mk_name, mk_other, mk_n, mk_ty, mk_res, mk_args, tyk, tya, tysC, List.length_cons, List.length_nil, tmsC, tysD, t0]
      rintro I' s' b2 V3 hr' ⟨_, hout, hnb, hnd⟩
      obtain ⟨fo, fwo, hO, hfoN, hfo⟩ := out_ofP hr' hout hnb hnd (gs := [B5, B4, g7]) rfl x4
      obtain ⟨T, us, f, T', us', f', gg, j1, j2, j3, j4, rfl⟩ := out_three hO
      have hbV : Bel (fun k => k ∈ (B5 :: f5) ++ ((B4 :: f4) ++ f7)) V2 V3 := by
        have := hr'.bel
        rw [x1, x3] at this; exact this
      have hS3 : ∀ j, S j → ¬ j ∈ (B5 :: f) ++ ((B4 :: f') ++ gg) := fun j hj hm => (hfo j hm).1.1 (hr'.zz.1 j (by rw [x5]; exact hS12 j hj))
      have hfo2 : ∀ j ∈ (B5 :: f) ++ ((B4 :: f') ++ gg), w.heap.size ≤ j ∧ j < V3.heap.size ∧ j ∉ X := fun j hj => by
        obtain ⟨⟨_, q2⟩, q3⟩ := hfo j hj
        rw [x1, x2] at q2
        rcases q2 with q2 | q2
        · have := hbelV.size
          refine ⟨by omega, q3, fun hx => ?_⟩
          rw [hX] at hx
          simp at hx
          omega
        · exact ⟨(hfB j q2).2.1, q3, (hfB j q2).2.2.2⟩
      have hXk : ∀ j ∈ X, V3.heap[j]? = V2.heap[j]? := fun j hj => hbV.block j (by rw [hX] at hj; simp at hj; omega) (fun h => (hfB j h).2.2.2 hj)
      have hSk : ∀ j, S j → V3.heap[j]? = V2.heap[j]? := fun j hj => hbV.block j (by have := hSw j hj; omega) (fun h => (hfB j h).1 (hS12 j hj))
      have hl3 : V3.heap[w3.heap.size + 1]? = some (.loop { rec with state := .busy }) := (hXk _ hlX).trans hV2l
      clear hr' hout hO hfo
      show ∃ v w', _
      refine ⟨_, _, run_endRound none hl3, rfl, ?_⟩
      have hre : ({ rec with state := if (none : Option Code).isNone then LoopState.ready else LoopState.done, pending := none } : Loop) = rec := by rw [← hrec]; rfl
      have hre2 : ({ ({ rec with state := LoopState.busy } : Loop) with state := if (none : Option Code).isNone then LoopState.ready else LoopState.done, pending := none } : Loop) = rec := by rw [← hrec]; rfl
      rw [hre2]
      obtain ⟨V4, hV4⟩ : ∃ V4, V4 = V3.putObj (w3.heap.size + 1) (.loop rec) := ⟨_, rfl⟩
      rw [← hV4]
      have hnc4 : Nc V3 V4 := by rw [hV4]; exact nc_put hl3 rfl rfl
      have hV4s : V4.heap.size = V3.heap.size := by rw [hV4]; simp
      have hV4o : ∀ j, j ≠ w3.heap.size + 1 → V4.heap[j]? = V3.heap[j]? := fun j hj => by rw [hV4]; exact World.putObj_heap_other hj
      have hsz3 : V2.heap.size ≤ V3.heap.size := hbV.size
      refine ⟨⟨⟨us, f, us', f', T, T', hnc4.blk j1, OwnVs.nc hnc4 _ _ _ j2, hnc4.blk j3, OwnVs.nc hnc4 _ _ _ j4, ?_, fun j hj => ?_⟩, ?_, fun j hj => ?_, ?_⟩, ?_, ?_, ?_⟩
      · rw [← List.append_assoc] at hfoN
        exact (List.nodup_append.1 hfoN).1
      · have hj' : j ∈ (B5 :: f) ++ ((B4 :: f') ++ gg) := by rw [← List.append_assoc]; exact List.mem_append.2 (.inl hj)
        obtain ⟨q1, q2, q3⟩ := hfo2 j hj'
        exact ⟨⟨fun h => hS3 j h hj', q1⟩, by rw [hV4s]; exact q2, q3⟩
      · refine ⟨?_, ?_, ?_, ?_, fun j hj => ?_⟩
        · rw [hV4]; exact hbV.os.trans hbelV.os
        · rw [hV4]; exact hbV.tape.trans hbelV.tape
        · rw [hV4]; exact hbV.output.trans hbelV.output
        · rw [hV4s]; exact Nat.le_trans hbelV.size hsz3
        · have := hbel2.size
          rw [hV4o j (by omega), hbV.block j (by have := hbelV.size; omega) (fun h => by have := (hfB j h).2.1; omega)]
          exact hbelV.block j hj
      · obtain ⟨q1, q2, q3⟩ := hSw j hj
        rw [hV4o j q3, hSk j hj, hVw j q2 q3]
        exact hJ.frz j hj
      · rw [hV4s]; exact Nat.le_trans hJ.siz (Nat.le_trans hsV hsz3)
      · rw [hV4]; exact World.putObj_heap_same (Array.getElem?_eq_some_iff.1 hl3).1
      · rw [hV4o _ (by omega), hXk _ (by rw [hX]; simp), hVw _ (by omega) (by omega)]; exact hD
      · unfold Blk at hB ⊢
        rw [hV4o _ (by omega), hXk _ (by rw [hX]; simp), hVw _ (by omega) (by omega)]; exact hB
    · rintro e' W' ⟨he, h1', h2', h3'⟩
      rw [foK_n] at h1'
      exact ⟨he, h1', h2', h3'⟩
  intro rec W' ⟨hJ, hl, hD, _⟩
  show Code.wpIn Fence.wide 10 Tryd.prog (Code.seq _ Code.ret) _ _ _
  obtain ⟨V, hV⟩ : ∃ V, V = W'.putObj (w3.heap.size + 1) (.loop { rec with state := .exhausted }) := ⟨_, rfl⟩
  rw [← hV]
  have hnc : Nc W' V := by rw [hV]; exact nc_put hl rfl rfl
  have hVs : V.heap.size = W'.heap.size := by rw [hV]; simp
  have hVo : ∀ j, j ≠ w3.heap.size + 1 → V.heap[j]? = W'.heap[j]? := fun j hj => by rw [hV]; exact World.putObj_heap_other hj
  have hDl : w3.heap.size + 1 < W'.heap.size := (Array.getElem?_eq_some_iff.1 hl).1
  obtain ⟨us5, f5, us4, f4, T5, T4, n1, n2, n3, n4, n5, n6⟩ := hJ.mem
  have n1' := hnc.blk n1
  have n2' := OwnVs.nc hnc _ _ _ n2
  have n3' := hnc.blk n3
  have hbV : Below w.heap.size w V := by
    refine ⟨?_, ?_, ?_, ?_, fun j hj => ?_⟩
    · rw [hV]; exact hJ.bel.os
    · rw [hV]; exact hJ.bel.tape
    · rw [hV]; exact hJ.bel.output
    · rw [hVs]; exact hJ.bel.size
    · have := hbel2.size
      rw [hVo j (by omega)]; exact hJ.bel.block j hj
  clear hV
  have hl5 : us5.length = 9 := by rw [n2'.len, tmC_len]
  have hl4 : us4.length = 9 := by rw [n4.len, tmC_len]
  have hone5 : ∀ v ∈ us5, v.oneCell' = true := OwnVs.one _ _ _ n2'
  obtain ⟨V', hs1, hs2, hs3⟩ := storeE_run (P := Tryd.prog) (t := 28) (m := 9) (by kernel_rfl) (g := B4) (off := 0) (T := T4) (us := us4) (z := .agg us5.toArray) n3' (by simpa [Value.cells] using hl5) (by omega) (by simpa [Value.cells] using hone5)
  have hld : (Instr.loadAt 28 (.pointer (some ⟨B5, 0, none⟩))).run Tryd.prog V = .ok (.agg us5.toArray) V := loadAt_run (m := some 9) (by kernel_rfl) (fun j hj => by rw [n1'.cell]; simp) _ ⟨hl5, rfl⟩
  have hcl : (Value.agg us5.toArray).cells.toList = us5 := rfl
  rw [hcl, setRowG_all us5 us4 (by omega)] at hs2
  have h5 : a4.eval (.tmp 5) = .pointer (some ⟨B5, 0, none⟩) := by simp only [Act.eval, Array.getD_eq_getD_getElem?, h54, Option.getD_some]
  have hDV : V'.heap[w3.heap.size]? = some (.deferred (some [])) := by
    rw [hs3.block _ (by omega) (by
      have := (n6 B4 (by simp)).2.2
      intro h; simp at h; rw [hX] at this; simp at this; omega), hVo _ (by omega)]; exact hD
  refine wpIn_seq (wpIn_region_list (list_bridge (r := none) (P := Tryd.prog) (ds := [{ target := .collected w3.heap.size, args := #[] }]) (Q := fun e b w => e = .normal ∧ b.tmps.size = 21 ∧ b.defers = [] ∧ b.tmps[4]? = some (.pointer (some ⟨B4, 0, none⟩)) ∧ w = V') ?_ ?_ _ ?_ a4 _ V ⟨rfl, by simp [hd4]⟩ ?_))
  · rintro ⟨b, w', h, _⟩; cases h
  · rintro e b b' w' ⟨q1, q2⟩ ⟨rfl, q3, q4, q5, rfl⟩
    refine wpIn_ret ?_
    rw [q4] at q2
    show LeavesInM _ _ _ _ _ _ b'.defers _ _
    rw [q2, q1]
    refine ⟨by simp, .inl ⟨_, _, rfl, run_takeDeferred hDV, ?_⟩⟩
    have hB4n : B4 ≠ w3.heap.size := fun h => by
      have := (n6 B4 (by simp)).2.2
      rw [hX] at this; simp at this; omega
    refine ⟨.agg us5.toArray, ?_, ?_, us5, (by show Ending.returned (Value.agg us5.toArray) = Ending.returned (Value.agg (us5.take (tmC (foT ps e)).length).toArray); rw [List.take_of_length_le (by rw [tmC_len]; omega)]), f5, ?_, ?_, fun j hj => (n6 j (by simp [hj])).1.2⟩
    · refine results_cell_row (p := 4) (ty := 28) rfl b.tmps _ B4 T4 us5.toArray (0, 0) _ (by simp only [Array.getD_eq_getD_getElem?, q5, Option.getD_some]) ?_ Tryd.underlying28 rfl ?_
      · rw [World.putObj_heap_other hB4n]; exact hs2
      · rw [show us5.toArray.size = 9 by simpa using hl5]; kernel_rfl
    · refine ⟨hs3.os.trans hbV.os, hs3.tape.trans hbV.tape, hs3.output.trans hbV.output, ?_, fun j hj => ?_⟩
      · have := hbV.size; have := hs3.size
        simp; omega
      · have := (n6 B4 (by simp)).1.2
        have := hbel2.size
        have := hbV.size
        rw [World.putObj_heap_other (by omega), hs3.block j (by omega) (by intro h; simp at h; omega)]
        exact hbV.block j hj
    · rw [show flatD [PD.ag (tmC (foT ps e))] = tmC (foT ps e) by simp [flatD]]
      have hnd4 : Nc w' (w'.putObj w3.heap.size (.deferred none)) := nc_put hDV rfl rfl
      refine OwnVs.nc hnd4 _ _ _ (n2'.keep hs3.size _ _ _ fun k hk => hs3.block k (by have := (n6 k (by simp [hk])).2.1; omega) (fun h => ?_))
      exact (List.nodup_append.1 n5).2.2 k (List.mem_cons_of_mem _ hk) B4 List.mem_cons_self (List.mem_singleton.1 h)
    · have := (List.nodup_append.1 n5).1
      exact (List.nodup_cons.1 this).2
  · intro o ho c; simp at ho; rcases ho with rfl | rfl <;> simp
  · show wpList Tryd.prog _ _ [_, _] a4 V
    unfold wpList
    rw [if_pos (wanted_none rfl _)]
    refine .inl ?_
    unfold Oper.wp
    simp only [execOp, h5, Sem.run_bind, hld, Result.andThen_ok, Sem.run_pure, Oper.upon_value]
    obtain ⟨a5, ha5⟩ : ∃ a5, a5 = a4.put (some 20) (.agg us5.toArray) := ⟨_, rfl⟩
    rw [← ha5]
    have ht5 : a5.tmps = a4.tmps.setIfInBounds 20 (.agg us5.toArray) := by rw [ha5]; rfl
    have h20 : a5.eval (.tmp 20) = .agg us5.toArray := by
      simp only [Act.eval, Array.getD_eq_getD_getElem?, ht5]
      rw [Array.getElem?_setIfInBounds_self_of_lt (by omega)]; rfl
    have h44' : a5.tmps[4]? = some (.pointer (some ⟨B4, 0, none⟩)) := by rw [ht5, Array.getElem?_setIfInBounds_ne (by decide)]; exact h44
    have h4 : a5.eval (.tmp 4) = .pointer (some ⟨B4, 0, none⟩) := by simp only [Act.eval, Array.getD_eq_getD_getElem?, h44', Option.getD_some]
    unfold wpList
    rw [if_pos (wanted_none rfl _)]
    refine .inl ?_
    unfold Oper.wp
    simp only [execOp, h20, h4, Sem.run_bind, hs1, Result.andThen_ok, Sem.run_pure]
    exact ⟨rfl, by show a5.tmps.size = 21; rw [ht5]; simpa using hnt4, by show a5.defers = []; rw [ha5]; exact hd4, h44', rfl⟩
end Go.Proofs.YtlmnfemobajmlaaDoor
