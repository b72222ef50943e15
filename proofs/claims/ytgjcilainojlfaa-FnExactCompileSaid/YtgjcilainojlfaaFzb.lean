/-
  A box that is only read from now on; a call that turns one cell of a struct and leaves the other as it is.
-/
import Derived.Test.YtgjcilainojlfaaCox
namespace Go.Proofs.Ytgjcilainojlfaa
open Go.RowKit
set_option linter.unusedVariables false
set_option linter.unusedSimpArgs false
def AV.fzb (b : Nat) (d : D) : AV → AV
  | .bx b' off => if b' = b then .eb d 0 off else .bx b' off
  | v => v
def fzbT (b : Nat) (d : D) : List (Nat × AV) → List (Nat × AV)
  | [] => []
  | (t, v) :: r => (t, v.fzb b d) :: fzbT b d r
def AS.fzb (s : AS) (b : Nat) (ds : List D) : AS := { s with tm := fzbT b (.rows ds.length 1 ds) s.tm, bx := rmB b s.bx }
theorem fzbT_look {b : Nat} {d : D} : ∀ {l : List (Nat × AV)} {t : Nat} {v : AV}, look (fzbT b d l) t = some v → ∃ v', look l t = some v' ∧ v = v'.fzb b d
  | [], t, v, h => by cases h
  | (k, x) :: l, t, v, h => by
    unfold fzbT at h
    rw [look_cons] at h ⊢
    split at h
    · rename_i e; injection h with h; exact ⟨x, by rw [if_pos e], h.symm⟩
    · rename_i e; rw [if_neg e]; exact fzbT_look h
theorem Rel.fzb {w0 : World0} {G : Gh} {s : AS} {a : Act} {w : World} (h : Rel w0 G s a w) {b : Nat} {cs : List AV} {ds : List D} (hb : look s.bx b = some cs) (hd : frzDs cs = some ds) : Rel w0 { G with Z := fun k => G.Z k ∨ k = G.β b } (s.fzb b ds) a w := by
  obtain ⟨hbn, hbb, us, T, hB, hr⟩ := h.bx b cs hb
  have hlt := hB.lt
  have hrep : RepPs w (fun k => G.Z k ∨ k = G.β b) ds us := RepPs.mono (fun k hk => .inl hk) (fun _ _ => rfl) _ _ (frz_rep (fun _ _ => rfl) hr hd)
  have hlen : ds.length = us.length := (frz_one hd).2.trans (RVs.len _ _ hr).symm
  have hw : ∀ v u, RV G w s.owf s.nx v u → RV { G with Z := fun k => G.Z k ∨ k = G.β b } w s.owf s.nx v u := fun v u hv => RV.wide (G := G) (G' := { G with Z := fun k => G.Z k ∨ k = G.β b }) (fun k hk => Or.inl hk) rfl rfl (fun _ _ hk => Or.inr hk) v u hv
  have hws : ∀ v u, RVs G w s.owf s.nx v u → RVs { G with Z := fun k => G.Z k ∨ k = G.β b } w s.owf s.nx v u := fun v u hv => RVs.wide (G := G) (G' := { G with Z := fun k => G.Z k ∨ k = G.β b }) (fun k hk => Or.inl hk) rfl rfl (fun _ _ hk => Or.inr hk) v u hv
  have hlk : ∀ b' cs', look (s.fzb b ds).bx b' = some cs' → b' ≠ b ∧ look s.bx b' = some cs' := fun b' cs' hl => by
    have hl' : look (rmB b s.bx) b' = some cs' := hl
    rw [look_rmB] at hl'
    split at hl'
    · cases hl'
    · rename_i e; exact ⟨e, hl'⟩
  refine ⟨h.nt, h.df, fun t x ht => ?_, fun b' cs' hl => ?_, fun b1 b2 c1 c2 h1 h2 e => h.inj b1 b2 c1 c2 (hlk b1 c1 h1).2 (hlk b2 c2 h2).2 e, fun o I ho => ?_, h.dis, h.bel, fun k hk => hk.elim (h.zl k) fun e => e ▸ hlt, h.pb, fun k hk => .inl (h.zz.1 k hk), fun k hk => hk.elim (h.zz.2 k) fun e => ?_⟩
  · obtain ⟨x', hx, rfl⟩ := fzbT_look ht
    obtain ⟨u, hu, hv⟩ := h.tm t x' hx
    refine ⟨u, hu, ?_⟩
    have hgen : RV { G with Z := fun k => G.Z k ∨ k = G.β b } w s.owf s.nx x' u := hw x' u hv
    cases x' <;> first | exact hgen | skip
    rename_i b' off
    show RV { G with Z := fun k => G.Z k ∨ k = G.β b } w s.owf s.nx (if b' = b then .eb (.rows ds.length 1 ds) 0 off else .bx b' off) u
    split
    · rename_i e
      subst e
      unfold RV at hv ⊢
      refine ⟨ds.length, 1, ds, G.β b', 0, 1, 1, rfl, by rw [hv.2]; simp, ?_, by omega⟩
      unfold RepP
      refine ⟨some ⟨G.β b', 0, none⟩, 1, rfl, Nat.le_refl _, by unfold maxLen; omega, by simp, .inr ⟨G.β b', 0, us, rfl, .inr rfl, ?_, hrep⟩⟩
      exact hB.cells
    · exact hgen
  · obtain ⟨e, hl⟩ := hlk b' cs' hl
    obtain ⟨q1, q2, us', T', q3, q4⟩ := h.bx b' cs' hl
    exact ⟨q1, ⟨fun hz => hz.elim q2.1 fun e2 => e (h.inj b' b cs' cs hl hb e2), q2.2⟩, us', T', q3, hws _ _ q4⟩
  · obtain ⟨q1, q2, q3⟩ := h.own o I ho
    exact ⟨q1, q2.z (fun k hk => .inl hk) (fun k hk hz => hz.elim (q2.1 k hk).1.1 fun e => q3 b cs hb (e ▸ hk)), fun b' cs' hl => q3 b' cs' (hlk b' cs' hl).2⟩
  · subst e
    exact hbb.2.elim (fun e => .inr (.inr e)) fun e => .inr (.inl (w0.wm _ e))
theorem sw_fzB {P : Program} {Q : QE} {c : Code} {st : List It} {s : AS} (b : Nat) {cs : List AV} {ds : List D} (hb : look s.bx b = some cs) (hd : frzDs cs = some ds) (h : SW P (.code c :: st) (s.fzb b ds) Q) : SW P (.code c :: st) s Q := fun w0 G a w hr => h w0 _ a w (hr.fzb hb hd)
def aftV2 (s : AS) (a b o : Nat) (T : TypeId) (d : D) : AS := { (((s.kl [a]).kb [b]).mk' [] ⟨d, some T, true⟩) with bx := (b, [.sl s.nx, .sl o]) :: (((s.kl [a]).kb [b]).mk' [] ⟨d, some T, true⟩).bx }
theorem callV_ok {P : Program} {w0 : World0} {G : Gh} {s : AS} {a' : Act} {w : World} (h : Rel w0 G s a' w) {F : FuncId} {args : Array Operand} {tys : Array TypeId} {f : Operand} {dst : Option Tmp} {ty : TypeId} {pos : String} {af : Array Edge} {gd : Option (Nat × Bool)} {a b o : Nat} {k : Int} {T : TypeId} {d d' : D} {I : OwnI} {ys : List AV} {ps : List PD}
    (hc : ∀ x : Value, x.oneCell' = true → ConP P F (.p [.a T d, .v x] :: ps.map PA.b) [[.a T d', .v x]] [.one (.o (.int k))]) (hf : s.ev f = .fn F []) (ha : args.toList.map s.ev = .bx b 0 :: ys) (hb : look s.bx b = some [.sl a, .sl o]) (hI : s.owf a = some ⟨d, some T, true⟩) (hO : s.owf o = some I) (hao : o ≠ a)
    (hys : mPs { ((s.kl [a]).kb [b]) with pb := s.pb ++ [o] } s ys (ps.map PA.b)) {Q : Exit → Act → World → Prop} {K : Act → World → Prop} (hK : ∀ a2 w', (∃ G', Rel w0 G' ((aftV2 s a b o T d').pt dst (.i k)) a2 w') → K a2 w') : (Oper.mk dst (.call ⟨.value f, args, tys⟩) ty pos af gd).wp P a' w K Q := by
  obtain ⟨hon, hoR, _⟩ := h.own o I hO
  obtain ⟨hbn, hbb, us, TT, hB, hr⟩ := h.bx b _ hb
  unfold RVs RVs at hr
  obtain ⟨u1, r1, rfl, hu1, u2, r2, rfl, hu2, hr3⟩ := hr
  have hu2' := hu2
  unfold RV at hu2'
  have e2 : u2 = G.root o := hu2'.2.2 I hO
  subst e2
  have hone : (G.root o).oneCell' = true := hu2'.2.1
  obtain ⟨s1, hs1⟩ : ∃ s1 : AS, s1 = { s with bx := (b, [.sl a, .x (G.root o)]) :: s.bx, pb := s.pb ++ [o] } := ⟨_, rfl⟩
  obtain ⟨w1, hw1⟩ : ∃ w1 : World0, w1 = { w0 with pb := upd w0.pb s.pb.length (G.β o), pv := upd w0.pv s.pb.length (some (G.root o)) } := ⟨_, rfl⟩
  have hlk : ∀ b' cs', look s1.bx b' = some cs' → ∃ cs2, look s.bx b' = some cs2 := fun b' cs' hl => by
    rw [hs1] at hl
    simp only [look_cons] at hl
    split at hl
    · rename_i e; exact ⟨_, e ▸ hb⟩
    · exact ⟨cs', hl⟩
  have hr1 : Rel w1 G s1 a' w := by
    subst hs1 hw1
    refine ⟨h.nt, h.df, h.tm, fun b' cs' hl => ?_, fun b1 b2 c1 c2 h1 h2 e => ?_, fun q J hq => ?_, h.dis, h.bel, h.zl, fun i q hq => ?_, h.zz⟩
    · simp only [look_cons] at hl
      split at hl
      · rename_i e
        subst e
        injection hl with hl
        subst hl
        exact ⟨hbn, hbb, _, TT, hB, by unfold RVs RVs; exact ⟨u1, _, rfl, hu1, _, _, rfl, by unfold RV; exact ⟨rfl, hone⟩, hr3⟩⟩
      · exact h.bx b' cs' hl
    · obtain ⟨d1, h1'⟩ := hlk b1 c1 h1
      obtain ⟨d2, h2'⟩ := hlk b2 c2 h2
      exact h.inj b1 b2 d1 d2 h1' h2' e
    · obtain ⟨q1, q2, q3⟩ := h.own q J hq
      exact ⟨q1, q2, fun b' cs' hl => by obtain ⟨c1, h1⟩ := hlk b' cs' hl; exact q3 b' c1 h1⟩
    · simp only at hq
      rw [List.getElem?_append] at hq
      split at hq
      · rename_i hlt
        obtain ⟨q1, q2, q3⟩ := h.pb i q hq
        refine ⟨q1, ?_, fun v hv => ?_⟩
        · show upd w0.pb s.pb.length (G.β o) i = G.β q
          rw [upd_ne _ _ (by omega)]; exact q2
        · have hv' : upd w0.pv s.pb.length (some (G.root o)) i = some v := hv
          rw [upd_ne _ _ (by omega)] at hv'
          exact q3 v hv'
      · rename_i hge
        have hi0 : i - s.pb.length = 0 := by
          rcases Nat.eq_zero_or_pos (i - s.pb.length) with e | e
          · exact e
          · rw [List.getElem?_eq_none (by simp; omega)] at hq; cases hq
        rw [hi0] at hq
        simp at hq
        subst hq
        have hi : i = s.pb.length := by omega
        subst hi
        refine ⟨hon, ?_, fun v hv => ?_⟩
        · show upd w0.pb s.pb.length (G.β o) s.pb.length = G.β o
          rw [upd_eq]
        · have hv' : upd w0.pv s.pb.length (some (G.root o)) s.pb.length = some v := hv
          rw [upd_eq] at hv'
          injection hv'
  have hev : ∀ x, s1.ev x = s.ev x := fun x => by subst hs1; cases x <;> rfl
  have hmap : args.toList.map s1.ev = .bx b 0 :: ys := by rw [show s1.ev = s.ev from funext hev]; exact ha
  have hl1 : look s1.bx b = some [.sl a, .x (G.root o)] := by subst hs1; simp [look_cons]
  have hI1 : s1.owf a = some ⟨d, some T, true⟩ := by subst hs1; exact hI
  have he : ePs s1 (args.toList.map s1.ev ++ []) (.p [.a T d, .v (G.root o)] :: ps.map PA.b) = [a] := by
    rw [List.append_nil, hmap]
    unfold ePs eP
    rw [hl1]
    have e0 : ∀ (l : List AV) (ps : List PD), ePs s1 l (ps.map PA.b) = [] := by
      intro l
      induction l with
      | nil => intro ps; cases ps <;> rfl
      | cons x l ih =>
        intro ps
        cases ps with
        | nil => rfl
        | cons p ps =>
          rw [List.map_cons]; unfold ePs; rw [ih ps]; cases x <;> rfl
    rw [e0]
    rfl
  have hbp : bPs (args.toList.map s1.ev ++ []) (.p [.a T d, .v (G.root o)] :: ps.map PA.b) = [b] := by
    rw [List.append_nil, hmap]
    unfold bPs bP
    have e0 : ∀ (l : List AV) (ps : List PD), bPs l (ps.map PA.b) = [] := by
      intro l
      induction l with
      | nil => intro ps; cases ps <;> rfl
      | cons x l ih =>
        intro ps
        cases ps with
        | nil => rfl
        | cons p ps =>
          rw [List.map_cons]; unfold bPs; rw [ih ps]; cases x <;> rfl
    rw [e0]
    rfl
  have hrm : ∀ l : List (Nat × List AV), rmBs [b] ((b, [.sl a, .x (G.root o)]) :: l) = rmBs [b] l := fun l => by
    show rmB b ((b, [.sl a, .x (G.root o)]) :: l) = rmB b l
    unfold rmB
    rw [if_pos rfl]
    cases l <;> rfl
  have hm : mPs ((s1.kl [a]).kb [b]) s1 (args.toList.map s1.ev ++ []) (.p [.a T d, .v (G.root o)] :: ps.map PA.b) := by
    rw [List.append_nil, hmap]
    unfold mPs
    refine ⟨⟨rfl, ?_⟩, ?_⟩
    · rw [hl1]
      refine ⟨?_, rfl, trivial⟩
      show (match s1.owf a with | some I => (I.ap = some T ∧ I.deep = true) ∧ I.d = d | none => False)
      rw [hI1]; exact ⟨⟨rfl, rfl⟩, rfl⟩
    · have e1 : ∀ (l : List AV) (ps : List PD), mPs { ((s.kl [a]).kb [b]) with pb := s.pb ++ [o] } s l (ps.map PA.b) → mPs ((s1.kl [a]).kb [b]) s1 l (ps.map PA.b) := by
        intro l
        induction l with
        | nil => intro ps hp; cases ps with
          | nil => exact trivial
          | cons p ps => exact hp.elim
        | cons x l ih =>
          intro ps hp
          cases ps with
          | nil => exact hp.elim
          | cons p ps =>
            rw [List.map_cons] at hp ⊢
            unfold mPs at hp ⊢
            refine ⟨?_, ih ps hp.2⟩
            have hx : aA { ((s.kl [a]).kb [b]) with pb := s.pb ++ [o] } x p := by cases x <;> exact hp.1
            have hx' : aA ((s1.kl [a]).kb [b]) x p := by
              have : ((s1.kl [a]).kb [b]) = { ((s.kl [a]).kb [b]) with pb := s.pb ++ [o] } := by
                subst hs1
                unfold AS.kl AS.kb
                simp only [hrm]
              rw [this]
              exact hx
            cases x <;> exact hx'
      exact e1 ys ps hys
  refine callP_ok hr1 (hc (G.root o) hone) (by rw [hev]; exact hf) he hbp (.inl ⟨rfl, rfl⟩) hm (by simp) (by simp) fun a2 w' ⟨G', hr'⟩ => hK a2 w' ⟨G', ?_⟩
  -- back
  have hS1 : ((aftS s1 [a] [b] [[.a T d', .v (G.root o)]] [.one (.o (.int k))]).pt dst (aftV s1 [a] [b] [.one (.o (.int k))])) = { ((aftV2 s a b o T d').pt dst (.i k)) with bx := (b, [.sl s.nx, .x (G.root o)]) :: (((s.kl [a]).kb [b]).mk' [] ⟨d', some T, true⟩).bx, pb := s.pb ++ [o] } := by
    subst hs1
    have ex : aftS { s with bx := (b, [.sl a, .x (G.root o)]) :: s.bx, pb := s.pb ++ [o] } [a] [b] [[.a T d', .v (G.root o)]] [.one (.o (.int k))] = { (aftV2 s a b o T d') with bx := (b, [.sl s.nx, .x (G.root o)]) :: (((s.kl [a]).kb [b]).mk' [] ⟨d', some T, true⟩).bx, pb := s.pb ++ [o] } := by
      unfold aftS aftV2 AS.kl AS.kb AS.mk'
      simp only [flatR, mkC, mkO, hrm]
      rfl
    rw [ex]
    have ev : aftV { s with bx := (b, [.sl a, .x (G.root o)]) :: s.bx, pb := s.pb ++ [o] } [a] [b] [.one (.o (.int k))] = .i k := rfl
    rw [ev]
    cases dst with
    | none => rfl
    | some t => unfold AS.pt; simp only; split <;> (rename_i hh; first | rfl | (simp_all))
  rw [hS1] at hr'
  obtain ⟨S2, hS2⟩ : ∃ S2, S2 = (aftV2 s a b o T d').pt dst (.i k) := ⟨_, rfl⟩
  have hbx2 : S2.bx = (b, [.sl s.nx, .sl o]) :: (((s.kl [a]).kb [b]).mk' [] ⟨d', some T, true⟩).bx := by
    subst hS2; cases dst with
    | none => rfl
    | some t => unfold AS.pt; simp only; split <;> rfl
  have hpb2 : S2.pb = s.pb := by
    subst hS2; cases dst with
    | none => rfl
    | some t => unfold AS.pt; simp only; split <;> rfl
  have hnx2 : S2.nx = s.nx + 1 := by
    subst hS2; cases dst with
    | none => rfl
    | some t => unfold AS.pt; simp only; split <;> rfl
  have howf2 : S2.owf o = some I := by
    have e0 : S2.ow = (((s.kl [a]).kb [b]).mk' [] ⟨d', some T, true⟩).ow := by
      subst hS2; cases dst with
      | none => rfl
      | some t => unfold AS.pt; simp only; split <;> rfl
    unfold AS.owf
    rw [e0]
    show (look ((s.nx, some _) :: (a, none) :: s.ow) o).bind id = some I
    rw [look_cons, if_neg (by omega), look_cons, if_neg hao]
    exact hO
  rw [← hS2] at hr' ⊢
  have hroot : G'.root o = G.root o := by
    have hq : ({ S2 with bx := (b, [.sl s.nx, .x (G.root o)]) :: (((s.kl [a]).kb [b]).mk' [] ⟨d', some T, true⟩).bx, pb := s.pb ++ [o] } : AS).pb[s.pb.length]? = some o := by simp
    refine (hr'.pb _ _ hq).2.2 (G.root o) ?_
    subst hw1
    show upd w0.pv s.pb.length (some (G.root o)) s.pb.length = _
    rw [upd_eq]
  have hlk2 : ∀ b' cs', look S2.bx b' = some cs' → ∃ cs2, look ((b, [AV.sl s.nx, AV.x (G.root o)]) :: (((s.kl [a]).kb [b]).mk' [] ⟨d', some T, true⟩).bx) b' = some cs2 := fun b' cs' hl => by
    rw [hbx2, look_cons] at hl
    rw [look_cons]
    split at hl
    · rename_i e; rw [if_pos e]; exact ⟨_, rfl⟩
    · rename_i e; rw [if_neg e]; exact ⟨cs', hl⟩
  have hbel := hr'.bel
  refine ⟨hr'.nt, hr'.df, hr'.tm, fun b' cs' hl => ?_, fun b1 b2 c1 c2 h1 h2 e => ?_, fun q J hq => ?_, hr'.dis, by subst hw1; exact hbel, hr'.zl, fun i q hq => ?_, by have := hr'.zz; subst hw1; exact this⟩
  · have hl0 := hl
    rw [hbx2, look_cons] at hl
    split at hl
    · rename_i e
      subst e
      injection hl with hl
      subst hl
      obtain ⟨q1, q2, us', T', q3, q4⟩ := hr'.bx b' [.sl s.nx, .x (G.root o)] (by simp only [look_cons, if_true])
      refine ⟨q1, by subst hw1; exact q2, us', T', q3, ?_⟩
      unfold RVs RVs at q4 ⊢
      obtain ⟨v1, r1, e1, g1, v2, r2, e2, g2, g3⟩ := q4
      refine ⟨v1, r1, e1, g1, v2, r2, e2, ?_, g3⟩
      unfold RV at g2 ⊢
      refine ⟨by show o < S2.nx; rw [hnx2]; omega, by rw [g2.1]; exact hone, fun J hJ => ?_⟩
      rw [g2.1, hroot]
    · rename_i e
      obtain ⟨q1, q2, us', T', q3, q4⟩ := hr'.bx b' cs' (by simp only [look_cons, if_neg e]; exact hl)
      exact ⟨q1, by subst hw1; exact q2, us', T', q3, q4⟩
  · obtain ⟨d1, h1'⟩ := hlk2 b1 c1 h1
    obtain ⟨d2, h2'⟩ := hlk2 b2 c2 h2
    exact hr'.inj b1 b2 d1 d2 h1' h2' e
  · obtain ⟨q1, q2, q3⟩ := hr'.own q J hq
    refine ⟨q1, by subst hw1; exact q2, fun b' cs' hl => ?_⟩
    obtain ⟨c1, h1⟩ := hlk2 b' cs' hl
    exact q3 b' c1 h1
  · rw [hpb2] at hq
    have hlt : i < s.pb.length := by
      rcases Nat.lt_or_ge i s.pb.length with h1 | h1
      · exact h1
      · rw [List.getElem?_eq_none h1] at hq; cases hq
    obtain ⟨q1, q2, q3⟩ := hr'.pb i q (by show (s.pb ++ [o])[i]? = some q; rw [List.getElem?_append_left hlt]; exact hq)
    subst hw1
    refine ⟨q1, ?_, fun v hv => q3 v ?_⟩
    · have : upd w0.pb s.pb.length (G.β o) i = G'.β q := q2
      rw [upd_ne _ _ (by omega)] at this
      exact this
    · show upd w0.pv s.pb.length (some (G.root o)) i = some v
      rw [upd_ne _ _ (by omega)]; exact hv
theorem sw_callV {P : Program} {all rest : List Oper} {st : List It} {dst : Option Tmp} {f : Operand} {args : Array Operand} {tys : Array TypeId} {ty : TypeId} {pos : String} {af : Array Edge} {gd : Option (Nat × Bool)} {s : AS} {Q : QE} {F : FuncId} {a b o : Nat} {k : Int} {T : TypeId} {d d' : D} {I : OwnI} {ys : List AV} {ps : List PD}
    (hc : ∀ x : Value, x.oneCell' = true → ConP P F (.p [.a T d, .v x] :: ps.map PA.b) [[.a T d', .v x]] [.one (.o (.int k))]) (hf : s.ev f = .fn F []) (ha : args.toList.map s.ev = .bx b 0 :: ys) (hb : look s.bx b = some [.sl a, .sl o]) (hI : s.owf a = some ⟨d, some T, true⟩) (hO : s.owf o = some I) (hao : o ≠ a)
    (hys : mPs { ((s.kl [a]).kb [b]) with pb := s.pb ++ [o] } s ys (ps.map PA.b)) (h : SW P (.ops all rest :: st) ((aftV2 s a b o T d').pt dst (.i k)) Q) : SW P (.ex all ⟨dst, .call ⟨.value f, args, tys⟩, ty, pos, af, gd⟩ rest :: st) s Q := fun w0 G a' w hr =>
  callV_ok hr hc hf ha hb hI hO hao hys fun a2 w' ⟨G', hr'⟩ => h w0 G' a2 w' hr'
theorem sw_callDV {P : Program} {all : List Oper} {r : OrdT} {st : List It} {dst : Option Tmp} {f : Operand} {args : Array Operand} {tys : Array TypeId} {ty : TypeId} {pos : String} {af : Array Edge} {gd : Option (Nat × Bool)} {s : AS} {Q : QE} {F : FuncId} {a b o : Nat} {k : Int} {T : TypeId} {d d' : D} {I : OwnI} {ys : List AV} {ps : List PD}
    (hc : ∀ x : Value, x.oneCell' = true → ConP P F (.p [.a T d, .v x] :: ps.map PA.b) [[.a T d', .v x]] [.one (.o (.int k))]) (hf : s.ev f = .fn F []) (ha : args.toList.map s.ev = .bx b 0 :: ys) (hb : look s.bx b = some [.sl a, .sl o]) (hI : s.owf a = some ⟨d, some T, true⟩) (hO : s.owf o = some I) (hao : o ≠ a)
    (hys : mPs { ((s.kl [a]).kb [b]) with pb := s.pb ++ [o] } s ys (ps.map PA.b)) (hl : lateOp ⟨dst, .call ⟨.value f, args, tys⟩, ty, pos, af, gd⟩ = true) (h : SW P (.dr all r :: st) ((aftV2 s a b o T d').pt dst (.i k)) Q) : SW P (.dg all ⟨dst, .call ⟨.value f, args, tys⟩, ty, pos, af, gd⟩ false r :: st) s Q := fun w0 G a' w hr =>
  callV_ok hr hc hf ha hb hI hO hao hys fun a2 w' ⟨G', hr'⟩ => ⟨⟨fun e => (by rw [hl] at e; cases e), hr'.bel⟩, h w0 G' a2 w' hr'⟩
end Go.Proofs.Ytgjcilainojlfaa
