/-
  Contracts of functions in plain data, and calls on the abstract picture.
-/
import Derived.Test.YtaeeipojnfooeaaAI5
namespace Go.Proofs.Ytaeeipojnfooeaa
open Go.RowKit
set_option linter.unusedVariables false
set_option linter.unusedSimpArgs false

theorem Rel.later {w0 : World0} {G : Gh} {s : AS} {a : Act} {w w' : World} (h : Rel w0 G s a w) (hb : Below w.heap.size w w') : Rel w0 G s a w' := by
  have hbs := h.bel.size
  have hbase : ∀ k, k < w0.heap.size → w'.heap[k]? = w.heap[k]? := fun k hk' => hb.block k (by omega)
  have hBo : ∀ o I', s.owf o = some I' → ∀ k ∈ G.B o, w'.heap[k]? = w.heap[k]? := fun o I' ho k hk' => hb.block k ((h.own o I' ho).2.1.1 k hk').2
  have hturn : ∀ o I', o < s.nx → s.owf o = some I' → s.owf o = some I' ∧ G.root o = G.root o ∧ G.B o = G.B o ∧ ∀ k ∈ G.B o, w'.heap[k]? = w.heap[k]? := fun o I' _ ho => ⟨ho, rfl, rfl, hBo o I' ho⟩
  refine ⟨h.nt, h.df, fun t x ht => ?_, fun b' cs' hl => ?_, h.inj, fun o I' ho => ?_, h.dis, h.bel.trans (hb.mono hbs)⟩
  · obtain ⟨u, hu, hr'⟩ := h.tm t x ht
    exact ⟨u, hu, RV.turn (Nat.le_refl _) hbase (fun _ _ => rfl) hturn x u hr'⟩
  · obtain ⟨h1, h2, us', T', h3, h4⟩ := h.bx b' cs' hl
    exact ⟨h1, h2, us', T', h3.below hb h3.lt, RVs.turn (Nat.le_refl _) hbase (fun _ _ => rfl) hturn _ _ h4⟩
  · obtain ⟨h1, h2, h3⟩ := h.own o I' ho
    exact ⟨h1, h2.keep hb.size hbase (hBo o I' ho), h3⟩

/-! ## Contracts -/
/-- Plain data of an argument or a result. -/
inductive PD where
  | one (d : D)
  | ag (ds : List D)
  | byt (n : Int)
  | fn (f : FuncId) (cap : List PD)
  | rf (cs : List PD)
mutual
def RepPD (w : World) : PD → Value → Prop
  | .one d, v => RepV w w.heap.size d v
  | .ag ds, v => ∃ vs, v = .agg vs.toArray ∧ RepVs w w.heap.size ds vs
  | .byt n, v => v = .int .u8 n
  | .fn f cap, v => ∃ us, v = .func (.func f) #[] us.toArray ∧ RepPDs w cap us
  | .rf cs, v => ∃ g vs T, v = .pointer (some ⟨g, 0, none⟩) ∧ Blk w g T vs.toArray ∧ RepPDs w cs vs
def RepPDs (w : World) : List PD → List Value → Prop
  | [], vs => vs = []
  | p :: ps, vs => ∃ v r, vs = v :: r ∧ RepPD w p v ∧ RepPDs w ps r
end
def flatD : List PD → List D
  | [] => []
  | .one d :: r => d :: flatD r
  | .ag ds :: r => ds ++ flatD r
  | _ :: r => flatD r
def packV : List PD → List Value → List Value
  | [], _ => []
  | .one _ :: r, us => us.headD undef :: packV r us.tail
  | .ag ds :: r, us => .agg (us.take ds.length).toArray :: packV r (us.drop ds.length)
  | _ :: r, us => undef :: packV r us
def packA : List PD → List AV → List AV
  | [], _ => []
  | .one _ :: r, us => us.headD .un :: packA r us.tail
  | .ag ds :: r, us => .ag (us.take ds.length) :: packA r (us.drop ds.length)
  | _ :: r, us => .un :: packA r us
def retV : List Value → Value
  | [v] => v
  | vs => .tuple vs.toArray
def retA : List AV → AV
  | [v] => v
  | vs => .tu vs
/-- What a call gives: new memory, all of it its own. -/
def Con (P : Program) (f : FuncId) (args rs : List PD) : Prop :=
  (∃ fn, P.funcs[f]? = some fn ∧ fn.body.isNone = false ∧ (fn.name == "runtime.NumGoroutine") = false) ∧
  ∀ w us, RepPDs w args us → Calls P f us.toArray w fun e w' => Below w.heap.size w w' ∧ ∃ vs, e = .returned (retV (packV rs vs)) ∧ FreshL w' w.heap.size (flatD rs) vs

/-! ## From the picture to plain data -/
def aD (s : AS) : AV → D → Prop
  | .i n, .int m => n = m
  | .b n, .bool m => n = m
  | .s n, .str m => n = m
  | .nl _, .rows _ n cs => n = 0 ∧ cs = []
  | .br e, d => e = d
  | .sp o e, d => (s.owf o).isSome = true ∧ e = d
  | .sl o, d => match s.owf o with | some I => I.d = d | none => False
  | _, _ => False
def aDs (s : AS) : List AV → List D → Prop
  | [], [] => True
  | a :: r, d :: ds => aD s a d ∧ aDs s r ds
  | _, _ => False
mutual
inductive AArg (s : AS) : AV → PD → Prop
  | one {a d} (h : aD s a d) : AArg s a (.one d)
  | ag {cs ds} (h : aDs s cs ds) : AArg s (.ag cs) (.ag ds)
  | byt {n} : AArg s (.y n) (.byt n)
  | fn {f c p} (h : AArgs s c p) : AArg s (.fn f c) (.fn f p)
  | rf {b cs ps} (h1 : look s.bx b = some cs) (h2 : AArgs s cs ps) : AArg s (.bx b 0) (.rf ps)
inductive AArgs (s : AS) : List AV → List PD → Prop
  | nil : AArgs s [] []
  | cons {a p as' ps} (h : AArg s a p) (h2 : AArgs s as' ps) : AArgs s (a :: as') (p :: ps)
end
theorem aD_ok {w0 : World0} {G : Gh} {s : AS} {a : Act} {w : World} (h : Rel w0 G s a w) {x : AV} {u : Value} (hx : RV w0.heap.size G w s.owf s.nx x u) {d : D} (hd : aD s x d) : RepV w w.heap.size d u := by
  cases x <;> simp only [aD] at hd <;> first | exact hd.elim | skip
  case i n => cases d <;> simp only [aD] at hd <;> first | exact hd.elim | skip
              subst hd; unfold RV at hx; unfold RepV; exact hx
  case b n => cases d <;> simp only [aD] at hd <;> first | exact hd.elim | skip
              subst hd; unfold RV at hx; unfold RepV; exact hx
  case s n => cases d <;> simp only [aD] at hd <;> first | exact hd.elim | skip
              subst hd; unfold RV at hx; unfold RepV; exact hx
  case nl sz =>
    cases d <;> simp only [aD] at hd <;> first | exact hd.elim | skip
    obtain ⟨rfl, rfl⟩ := hd
    unfold RV at hx; subst hx; unfold RepV
    exact ⟨none, 0, rfl, by simp, by simp, by simp, .inl rfl⟩
  case br e => subst hd; exact RepP.v _ _ (rd_ok h hx rfl)
  case sp o e =>
    obtain ⟨h1, rfl⟩ := hd
    obtain ⟨I, hI⟩ := Option.isSome_iff_exists.1 h1
    exact RepP.v _ _ (rd_ok h hx (by simp only [AS.rd, hI, Option.map_some]))
  case sl o =>
    cases hI : s.owf o with
    | none => rw [hI] at hd; exact hd.elim
    | some I =>
      rw [hI] at hd
      simp only at hd
      subst hd
      exact RepP.v _ _ (rd_ok h hx (by simp only [AS.rd, hI, Option.map_some]))
theorem aDs_ok {w0 : World0} {G : Gh} {s : AS} {a : Act} {w : World} (h : Rel w0 G s a w) : ∀ {xs : List AV} {us : List Value}, RVs w0.heap.size G w s.owf s.nx xs us → ∀ {ds : List D}, aDs s xs ds → RepVs w w.heap.size ds us
  | [], us, hx, [], hd => by unfold RVs at hx; unfold RepVs; exact hx
  | [], us, hx, d :: ds, hd => hd.elim
  | x :: xs, us, hx, [], hd => hd.elim
  | x :: xs, us, hx, d :: ds, hd => by
    unfold RVs at hx
    obtain ⟨u, r, rfl, h1, h2⟩ := hx
    unfold RepVs
    exact ⟨u, r, rfl, aD_ok h h1 hd.1, aDs_ok h h2 hd.2⟩
mutual
theorem AArg.ok {w0 : World0} {G : Gh} {s : AS} {a : Act} {w : World} (h : Rel w0 G s a w) {x : AV} {p : PD} (hp : AArg s x p) {u : Value} (hx : RV w0.heap.size G w s.owf s.nx x u) : RepPD w p u := by
  cases hp with
  | one hd => unfold RepPD; exact aD_ok h hx hd
  | ag hd => unfold RV at hx; obtain ⟨us, rfl, hr⟩ := hx; unfold RepPD; exact ⟨us, rfl, aDs_ok h hr hd⟩
  | byt => unfold RV at hx; unfold RepPD; exact hx
  | fn hc => unfold RV at hx; obtain ⟨us, rfl, hr⟩ := hx; unfold RepPD; exact ⟨us, rfl, AArgs.ok h hc hr⟩
  | rf h1 h2 =>
    obtain ⟨_, _, us, T, hB, hr⟩ := h.bx _ _ h1
    unfold RV at hx; unfold RepPD
    exact ⟨_, us, T, hx.2, hB, AArgs.ok h h2 hr⟩
theorem AArgs.ok {w0 : World0} {G : Gh} {s : AS} {a : Act} {w : World} (h : Rel w0 G s a w) {xs : List AV} {ps : List PD} (hp : AArgs s xs ps) {us : List Value} (hx : RVs w0.heap.size G w s.owf s.nx xs us) : RepPDs w ps us := by
  cases hp with
  | nil => unfold RVs at hx; unfold RepPDs; exact hx
  | cons h1 h2 =>
    unfold RVs at hx
    obtain ⟨u, r, rfl, h3, h4⟩ := hx
    unfold RepPDs
    exact ⟨u, r, rfl, AArg.ok h h1 h3, AArgs.ok h h2 h4⟩
end

/-! ## Results -/
def mkR : AS → List D → List AV × AS
  | s, [] => ([], s)
  | s, d :: ds => match d with
    | .int n => let r := mkR s ds; (.i n :: r.1, r.2)
    | .bool n => let r := mkR s ds; (.b n :: r.1, r.2)
    | .str n => let r := mkR s ds; (.s n :: r.1, r.2)
    | .rows sz n cs => let r := mkR (s.mk' [] ⟨.rows sz n cs, none, true⟩) ds; (.sl s.nx :: r.1, r.2)
theorem mkR_nx : ∀ (ds : List D) (s : AS), s.nx ≤ (mkR s ds).2.nx
  | [], s => Nat.le_refl _
  | .int _ :: ds, s => mkR_nx ds s
  | .bool _ :: ds, s => mkR_nx ds s
  | .str _ :: ds, s => mkR_nx ds s
  | .rows sz n cs :: ds, s => Nat.le_trans (Nat.le_succ _) (mkR_nx ds (s.mk' [] ⟨.rows sz n cs, none, true⟩))
theorem mkR_ok {w0 : World0} {a : Act} {w : World} : ∀ (ds : List D) (us : List Value) (fp : List Nat) (G : Gh) (s : AS), Rel w0 G s a w → OwnVs w ds us fp → fp.Nodup → (∀ k ∈ fp, w0.heap.size ≤ k ∨ w0.mv k) → (∀ k ∈ fp, (∀ b cs, look s.bx b = some cs → G.β b ≠ k) ∧ ∀ o I, s.owf o = some I → k ∉ G.B o) →
    ∃ G', Rel w0 G' (mkR s ds).2 a w ∧ RVs w0.heap.size G' w (mkR s ds).2.owf (mkR s ds).2.nx (mkR s ds).1 us ∧ (∀ v u, RV w0.heap.size G w s.owf s.nx v u → RV w0.heap.size G' w (mkR s ds).2.owf (mkR s ds).2.nx v u)
  | [], us, fp, G, s, h, ho, hn, hb, hf => by
    unfold OwnVs at ho
    obtain ⟨rfl, rfl⟩ := ho
    exact ⟨G, h, by unfold mkR RVs; rfl, fun v u hv => hv⟩
  | d :: ds, us, fp, G, s, h, ho, hn, hb, hf => by
    unfold OwnVs at ho
    obtain ⟨v, r, f1, f2, rfl, rfl, h1, h2⟩ := ho
    obtain ⟨n1, n2, n3⟩ := List.nodup_append.1 hn
    have prim : ∀ (av : AV), (∀ {G nx owf}, RV w0.heap.size G w owf nx av v) → mkR s (d :: ds) = (av :: (mkR s ds).1, (mkR s ds).2) → ∃ G', Rel w0 G' (mkR s (d :: ds)).2 a w ∧ RVs w0.heap.size G' w (mkR s (d :: ds)).2.owf (mkR s (d :: ds)).2.nx (mkR s (d :: ds)).1 (v :: r) ∧ (∀ v u, RV w0.heap.size G w s.owf s.nx v u → RV w0.heap.size G' w (mkR s (d :: ds)).2.owf (mkR s (d :: ds)).2.nx v u) := by
      intro av hav e
      obtain ⟨G', h3, h4, h5⟩ := mkR_ok ds r f2 G s h h2 n2 (fun k hk => hb k (by simp [hk])) (fun k hk => hf k (by simp [hk]))
      rw [e]
      exact ⟨G', h3, by unfold RVs; exact ⟨v, r, rfl, hav, h4⟩, h5⟩
    cases d with
    | int n => unfold OwnV at h1; exact prim (.i n) (fun {_ _ _} => by unfold RV; exact h1.1) rfl
    | bool n => unfold OwnV at h1; exact prim (.b n) (fun {_ _ _} => by unfold RV; exact h1.1) rfl
    | str n => unfold OwnV at h1; exact prim (.s n) (fun {_ _ _} => by unfold RV; exact h1.1) rfl
    | rows sz n cs =>
      have hlt := OwnV.lt _ _ _ h1
      have hR : Res w0.heap.size w0.mv w f1 v ⟨.rows sz n cs, none, true⟩ :=
        ⟨fun k hk => ⟨hb k (by simp [hk]), hlt k hk⟩, OwnV.p _ _ _ h1 (fun k hk => .inr hk), fun _ => ⟨h1, n1⟩, fun T hT => by cases hT⟩
      obtain ⟨h3, h4⟩ := h.own' (eats := []) (I := ⟨.rows sz n cs, none, true⟩) h.bel (Nat.le_refl _) (fun _ _ _ => rfl) hR h1.one (fun b cs' hl hk => (hf _ (by simp [hk])).1 b cs' hl rfl)
        (fun o I ho _ k hk hk' => (hf k (by simp [hk'])).2 o I ho hk)
      have hkeep : ∀ x u, RV w0.heap.size G w s.owf s.nx x u → RV w0.heap.size (G.own s.nx f1 v) w (s.mk' [] ⟨.rows sz n cs, none, true⟩).owf (s.mk' [] ⟨.rows sz n cs, none, true⟩).nx x u := fun x u hx => by
        refine RV.turn (G := G) (G' := G.own s.nx f1 v) (owf := s.owf) (owf' := (s.mk' [] ⟨.rows sz n cs, none, true⟩).owf) (nx := s.nx) (Nat.le_succ _) (fun _ _ => rfl) (fun _ _ => rfl) (fun o I ho hI => ?_) x u hx
        have hne : o ≠ s.nx := Nat.ne_of_lt ho
        rw [mk'_owf, if_neg hne, if_neg (by simp)] at hI
        exact ⟨hI, upd_ne _ _ hne, upd_ne _ _ hne, fun _ _ => rfl⟩
      obtain ⟨G', h5, h6, h7⟩ := mkR_ok ds r f2 (G.own s.nx f1 v) _ h3 h2 n2 (fun k hk => hb k (by simp [hk])) (fun k hk => by
        obtain ⟨q1, q2⟩ := hf k (by simp [hk])
        refine ⟨q1, fun o I ho => ?_⟩
        by_cases hne : o = s.nx
        · subst hne
          simp only [Gh.own, upd_eq]
          exact fun hk' => n3 k hk' k hk rfl
        · rw [mk'_owf, if_neg hne, if_neg (by simp)] at ho
          simp only [Gh.own, upd_ne _ _ hne]
          exact q2 o I ho)
      exact ⟨G', h5, by
        have e : (mkR s (.rows sz n cs :: ds)).1 = .sl s.nx :: (mkR (s.mk' [] ⟨.rows sz n cs, none, true⟩) ds).1 := rfl
        rw [e]; unfold RVs
        exact ⟨v, r, rfl, h7 _ _ h4, h6⟩, fun x u hx => h7 _ _ (hkeep x u hx)⟩
theorem pack_ok {base nx : Nat} {G : Gh} {w : World} {owf : Nat → Option OwnI} : ∀ (rs : List PD) (as' : List AV) (us : List Value), RVs base G w owf nx as' us → as'.length = (flatD rs).length → (∀ r ∈ rs, (∃ d, r = .one d) ∨ ∃ ds, r = .ag ds) → RVs base G w owf nx (packA rs as') (packV rs us)
  | [], as', us, h, hl, hr => by unfold packA packV RVs; rfl
  | .one d :: rs, as', us, h, hl, hr => by
    match as', us, h with
    | [], us, h => simp [flatD] at hl
    | x :: xs, us, h =>
      unfold RVs at h
      obtain ⟨u, r, rfl, h1, h2⟩ := h
      unfold packA packV RVs
      exact ⟨u, _, rfl, h1, pack_ok rs xs r h2 (by simpa [flatD] using hl) (fun r hr' => hr r (by simp [hr']))⟩
  | .ag ds :: rs, as', us, h, hl, hr => by
    unfold packA packV RVs
    refine ⟨_, _, rfl, by unfold RV; exact ⟨_, rfl, h.take _⟩, pack_ok rs _ _ (h.drop _) (by simp [flatD] at hl ⊢; omega) (fun r hr' => hr r (by simp [hr']))⟩
  | .byt n :: rs, as', us, h, hl, hr => by rcases hr (.byt n) (by simp) with ⟨d, e⟩ | ⟨d, e⟩ <;> cases e
  | .fn f c :: rs, as', us, h, hl, hr => by rcases hr (.fn f c) (by simp) with ⟨d, e⟩ | ⟨d, e⟩ <;> cases e
  | .rf c :: rs, as', us, h, hl, hr => by rcases hr (.rf c) (by simp) with ⟨d, e⟩ | ⟨d, e⟩ <;> cases e
theorem mkR_len : ∀ (ds : List D) (s : AS), (mkR s ds).1.length = ds.length
  | [], s => rfl
  | .int _ :: ds, s => by simp [mkR, mkR_len ds s]
  | .bool _ :: ds, s => by simp [mkR, mkR_len ds s]
  | .str _ :: ds, s => by simp [mkR, mkR_len ds s]
  | .rows sz n cs :: ds, s => by simp [mkR, mkR_len ds _]
theorem ret_ok {base nx : Nat} {G : Gh} {w : World} {owf : Nat → Option OwnI} : ∀ {l : List AV} {us : List Value}, RVs base G w owf nx l us → RV base G w owf nx (retA l) (retV us)
  | [], us, h => by unfold RVs at h; subst h; unfold retA retV RV; exact ⟨[], rfl, by unfold RVs; rfl⟩
  | [x], us, h => by
    unfold RVs RVs at h
    obtain ⟨u, r, rfl, h1, rfl⟩ := h
    exact h1
  | x :: y :: l, us, h => by
    have h' := h
    unfold RVs RVs at h
    obtain ⟨u, r, rfl, h1, u2, r2, rfl, h2, h3⟩ := h
    unfold retA retV RV
    exact ⟨_, rfl, h'⟩
/-- A call, on the picture. -/
def XCall (P : Program) (s : AS) (f : FuncId) (as' : List AV) (K : AV → AS → Prop) : Prop :=
  ∃ ps rs, AArgs s as' ps ∧ Con P f ps rs ∧ (∀ r ∈ rs, (∃ d, r = .one d) ∨ ∃ ds, r = .ag ds) ∧ K (retA (packA rs (mkR s (flatD rs)).1)) (mkR s (flatD rs)).2
theorem XCall_ok {P : Program} {w0 : World0} {G : Gh} {s : AS} {a : Act} {w : World} (h : Rel w0 G s a w) {f : FuncId} {xs : List AV} {us : List Value} (hx : RVs w0.heap.size G w s.owf s.nx xs us) {K : AV → AS → Prop} (hk : XCall P s f xs K) :
    Calls P f us.toArray w fun e w' => Below w.heap.size w w' ∧ ∃ v av s' G', e = .returned v ∧ K av s' ∧ Rel w0 G' s' a w' ∧ RV w0.heap.size G' w' s'.owf s'.nx av v := by
  obtain ⟨ps, rs, h1, h2, h3, h4⟩ := hk
  refine (h2.2 w us (AArgs.ok h h1 hx)).mono fun e w' ⟨hb, vs, he, hf⟩ => ⟨hb, ?_⟩
  obtain ⟨fp, ho, hn, hB⟩ := hf
  have h' := h.later hb
  have hbs := h.bel.size
  obtain ⟨G', h5, h6, _⟩ := mkR_ok (flatD rs) vs fp G s h' ho hn (fun k hk => .inl (Nat.le_trans hbs (hB k hk))) (fun k hk => ⟨fun b cs hl e => by
    obtain ⟨_, _, _, _, h7, _⟩ := h.bx b cs hl
    have := h7.lt
    have := hB k hk
    omega, fun o I hI hk' => by
    have := ((h.own o I hI).2.1.1 k hk').2
    have := hB k hk
    omega⟩)
  exact ⟨_, _, _, G', he, h4, h5, ret_ok (pack_ok rs _ _ h6 (mkR_len _ _) h3)⟩
end Go.Proofs.Ytaeeipojnfooeaa
