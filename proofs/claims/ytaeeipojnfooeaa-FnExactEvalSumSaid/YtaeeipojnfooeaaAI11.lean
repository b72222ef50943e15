/-
  Code on the abstract picture: sequences, tests, blocks, loops; a function's contract from its body.
-/
import Derived.Test.YtaeeipojnfooeaaAI10
namespace Go.Proofs.Ytaeeipojnfooeaa
open Go.RowKit
set_option linter.unusedVariables false
set_option linter.unusedSimpArgs false

/-- What holds at an exit. -/
def Lft (w0 : World0) (Q : Exit → AS → Prop) : Exit → Act → World → Prop := fun e a w => ∃ G s, Rel w0 G s a w ∧ Q e s
/-- The code, from the picture s on, comes to exits as Q says. -/
def XW (P : Program) (c : Code) (s : AS) (Q : Exit → AS → Prop) : Prop := ∀ w0 G a w, Rel w0 G s a w → c.wp P (Lft w0 Q) a w
def qSeq (k : AS → Prop) (Q : Exit → AS → Prop) : Exit → AS → Prop
  | .normal, s => k s
  | e, s => Q e s
def qBlk (id : Nat) (Q : Exit → AS → Prop) : Exit → AS → Prop
  | .exit id', s => if id' = id then Q .normal s else Q (.exit id') s
  | e, s => Q e s
def qB (v : AV) (x y : Prop) : Prop := match v with | .b t => (t = true → x) ∧ (t = false → y) | _ => False
def xC (P : Program) : Code → AS → (Exit → AS → Prop) → Prop
  | .skip, s, Q => Q .normal s
  | .region id ops d, s, Q => if d = true then XW P (.region id ops d) s Q else xL P ops.toList ops.toList s (Q .normal)
  | .seq x y, s, Q => xC P x s (qSeq (fun s' => xC P y s' Q) Q)
  | .cond c x y, s, Q => qB (s.ev c) (xC P x s Q) (xC P y s Q)
  | .block id x, s, Q => xC P x s (qBlk id Q)
  | .exit id, s, Q => Q (.exit id) s
  | .ret, s, Q => Q .ret s
  | .loop x, s, Q => XW P (.loop x) s Q
  | _, _, _ => False
theorem xC_ok {P : Program} : ∀ (c : Code) (s : AS) (Q : Exit → AS → Prop), xC P c s Q → XW P c s Q
  | .skip, s, Q, h => fun w0 G a w hr => wp_skip ⟨G, s, hr, h⟩
  | .ret, s, Q, h => fun w0 G a w hr => wp_ret ⟨G, s, hr, h⟩
  | .exit id, s, Q, h => fun w0 G a w hr => wp_exit ⟨G, s, hr, h⟩
  | .loop x, s, Q, h => h
  | .region id ops d, s, Q, h => fun w0 G a w hr => by
    unfold xC at h
    by_cases hd : d = true
    · rw [if_pos hd] at h; exact h w0 G a w hr
    · rw [if_neg hd] at h
      have : d = false := by cases d <;> simp_all
      subst this
      exact wp_region_list (xL_ok (ops := ops.toList) (fun G s a w hr hk => ⟨G, s, hr, hk⟩) ops.toList hr h)
  | .seq x y, s, Q, h => fun w0 G a w hr => by
    refine wp_seq (wp_mono (xC_ok x s _ h w0 G a w hr) fun e a' w' ⟨G', s', hr', hq⟩ => ?_)
    cases e <;> first | exact xC_ok y s' Q hq w0 G' a' w' hr' | exact ⟨G', s', hr', hq⟩
  | .cond c x y, s, Q, h => fun w0 G a w hr => by
    unfold xC qB at h
    have hc := hr.ev c
    cases hv : s.ev c <;> rw [hv] at h hc <;> simp only at h <;> first | exact h.elim | skip
    rename_i t
    unfold RV at hc
    exact wp_cond_split hc (fun ht => xC_ok x s Q (h.1 ht) w0 G a w hr) (fun ht => xC_ok y s Q (h.2 ht) w0 G a w hr)
  | .block id x, s, Q, h => fun w0 G a w hr => by
    refine wp_block (wp_mono (xC_ok x s _ h w0 G a w hr) fun e a' w' ⟨G', s', hr', hq⟩ => ?_)
    cases e
    case exit id2 _x =>
      simp only [qBlk] at hq
      unfold Exit.inBlock
      by_cases hid : id2 = id
      · simp only [hid, if_true] at hq ⊢; exact ⟨G', s', hr', hq⟩
      · simp only [hid, if_false] at hq ⊢; exact ⟨G', s', hr', hq⟩
    all_goals exact ⟨G', s', hr', hq⟩
  | .rangeFunc _ _ _ _, s, Q, h => by unfold xC at h; exact h.elim
  | .scope _, s, Q, h => by unfold xC at h; exact h.elim
  | .label _, s, Q, h => by unfold xC at h; exact h.elim
  | .goto _, s, Q, h => by unfold xC at h; exact h.elim
  | .refuse _, s, Q, h => by unfold xC at h; exact h.elim
theorem XW.mono {P : Program} {c : Code} {s : AS} {Q Q' : Exit → AS → Prop} (h : XW P c s Q) (hq : ∀ e s, Q e s → Q' e s) : XW P c s Q' := fun w0 G a w hr =>
  wp_mono (h w0 G a w hr) fun e a' w' ⟨G', s', hr', h'⟩ => ⟨G', s', hr', hq e s' h'⟩

/-! ## A picture that says less, with other numbers -/
mutual
def AV.ren (ρ : Nat → Nat) : AV → AV
  | .sl o => .sl (ρ o)
  | .sp o d => .sp (ρ o) d
  | .bx q off => .bx (ρ q) off
  | .eo o k off => .eo (ρ o) k off
  | .fn f cap => .fn f (AV.rens ρ cap)
  | .ag cs => .ag (AV.rens ρ cs)
  | .tu vs => .tu (AV.rens ρ vs)
  | v => v
def AV.rens (ρ : Nat → Nat) : List AV → List AV
  | [] => []
  | a :: r => AV.ren ρ a :: AV.rens ρ r
end
mutual
def AV.lt (n : Nat) : AV → Prop
  | .sl o => o < n
  | .sp o _ => o < n
  | .bx q _ => q < n
  | .eo o _ _ => o < n
  | .fn _ cap => AV.lts n cap
  | .ag cs => AV.lts n cs
  | .tu vs => AV.lts n vs
  | _ => True
def AV.lts (n : Nat) : List AV → Prop
  | [] => True
  | a :: r => AV.lt n a ∧ AV.lts n r
end
mutual
theorem RV.ren {base nx nx' : Nat} {G : Gh} {w : World} {owf owf' : Nat → Option OwnI} {ρ : Nat → Nat} (ho : ∀ o I, owf' o = some I → owf (ρ o) = some I) : ∀ (v : AV) (u : Value), v.lt nx' → RV base G w owf nx (v.ren ρ) u → RV base ⟨fun o => G.B (ρ o), fun o => G.root (ρ o), fun b => G.β (ρ b)⟩ w owf' nx' v u
  | .i _, u, hl, h => by unfold AV.ren at h; unfold RV at h ⊢; exact h
  | .b _, u, hl, h => by unfold AV.ren at h; unfold RV at h ⊢; exact h
  | .s _, u, hl, h => by unfold AV.ren at h; unfold RV at h ⊢; exact h
  | .y _, u, hl, h => by unfold AV.ren at h; unfold RV at h ⊢; exact h
  | .nl _, u, hl, h => by unfold AV.ren at h; unfold RV at h ⊢; exact h
  | .x _, u, hl, h => by unfold AV.ren at h; unfold RV at h ⊢; exact h
  | .br _, u, hl, h => by unfold AV.ren at h; unfold RV at h ⊢; exact h
  | .eb _ _ _, u, hl, h => by unfold AV.ren at h; unfold RV at h ⊢; exact h
  | .un, u, hl, h => by unfold RV; trivial
  | .sl o, u, hl, h => by unfold AV.ren at h; unfold AV.lt at hl; unfold RV at h ⊢; exact ⟨hl, h.2.1, fun I hI => h.2.2 I (ho o I hI)⟩
  | .sp o d, u, hl, h => by unfold AV.ren at h; unfold AV.lt at hl; unfold RV at h ⊢; exact ⟨hl, h.2.1, fun I hI => h.2.2 I (ho o I hI)⟩
  | .bx b off, u, hl, h => by unfold AV.ren at h; unfold AV.lt at hl; unfold RV at h ⊢; exact ⟨hl, h.2⟩
  | .eo o k off, u, hl, h => by unfold AV.ren at h; unfold AV.lt at hl; unfold RV at h ⊢; exact ⟨hl, h.2.1, fun I hI => h.2.2 I (ho o I hI)⟩
  | .fn f cap, u, hl, h => by
    unfold AV.ren at h; unfold AV.lt at hl; unfold RV at h ⊢
    obtain ⟨us, e, h⟩ := h
    exact ⟨us, e, RVs.ren ho cap us hl h⟩
  | .ag cap, u, hl, h => by
    unfold AV.ren at h; unfold AV.lt at hl; unfold RV at h ⊢
    obtain ⟨us, e, h⟩ := h
    exact ⟨us, e, RVs.ren ho cap us hl h⟩
  | .tu cap, u, hl, h => by
    unfold AV.ren at h; unfold AV.lt at hl; unfold RV at h ⊢
    obtain ⟨us, e, h⟩ := h
    exact ⟨us, e, RVs.ren ho cap us hl h⟩
theorem RVs.ren {base nx nx' : Nat} {G : Gh} {w : World} {owf owf' : Nat → Option OwnI} {ρ : Nat → Nat} (ho : ∀ o I, owf' o = some I → owf (ρ o) = some I) : ∀ (v : List AV) (u : List Value), AV.lts nx' v → RVs base G w owf nx (AV.rens ρ v) u → RVs base ⟨fun o => G.B (ρ o), fun o => G.root (ρ o), fun b => G.β (ρ b)⟩ w owf' nx' v u
  | [], u, hl, h => by unfold AV.rens at h; unfold RVs at h ⊢; exact h
  | a :: r, u, hl, h => by
    unfold AV.rens at h; unfold AV.lts at hl; unfold RVs at h ⊢
    obtain ⟨x, r', e, h1, h2⟩ := h
    exact ⟨x, r', e, RV.ren ho a x hl.1 h1, RVs.ren ho r r' hl.2 h2⟩
end
def subT (ρ : Nat → Nat) (s : AS) (n : Nat) : List (Nat × AV) → Prop
  | [] => True
  | (t, v) :: r => (look s.tm t = some (v.ren ρ) ∧ v.lt n) ∧ subT ρ s n r
def subB (ρ : Nat → Nat) (s : AS) (n : Nat) : List (Nat × List AV) → Prop
  | [] => True
  | (b, cs) :: r => (look s.bx (ρ b) = some (AV.rens ρ cs) ∧ AV.lts n cs ∧ b < n) ∧ subB ρ s n r
def subO (ρ : Nat → Nat) (s : AS) (n : Nat) : List (Nat × Option OwnI) → Prop
  | [] => True
  | (o, I) :: r => (s.owf (ρ o) = I ∧ o < n) ∧ subO ρ s n r
def inj (ρ : Nat → Nat) (l : List Nat) : Prop := (l.map ρ).Nodup
def Sub (ρ : Nat → Nat) (s' s : AS) : Prop :=
  s'.nt = s.nt ∧ subT ρ s s'.nx s'.tm ∧ subB ρ s s'.nx s'.bx ∧ subO ρ s s'.nx s'.ow ∧ inj ρ (s'.bx.map (·.1)) ∧ inj ρ (s'.ow.map (·.1))
theorem subT_look {ρ : Nat → Nat} {s : AS} {n : Nat} : ∀ {l : List (Nat × AV)}, subT ρ s n l → ∀ {t v}, look l t = some v → look s.tm t = some (v.ren ρ) ∧ v.lt n
  | [], _, t, v, h => by cases h
  | (t', v') :: r, h, t, v, hl => by
    rw [look_cons] at hl
    split at hl
    · rename_i e; subst e; injection hl with hl; subst hl; exact h.1
    · exact subT_look h.2 hl
theorem subB_look {ρ : Nat → Nat} {s : AS} {n : Nat} : ∀ {l : List (Nat × List AV)}, subB ρ s n l → ∀ {t v}, look l t = some v → look s.bx (ρ t) = some (AV.rens ρ v) ∧ AV.lts n v ∧ t < n
  | [], _, t, v, h => by cases h
  | (t', v') :: r, h, t, v, hl => by
    rw [look_cons] at hl
    split at hl
    · rename_i e; subst e; injection hl with hl; subst hl; exact h.1
    · exact subB_look h.2 hl
theorem subO_look {ρ : Nat → Nat} {s : AS} {n : Nat} : ∀ {l : List (Nat × Option OwnI)}, subO ρ s n l → ∀ {t v}, look l t = some v → s.owf (ρ t) = v ∧ t < n
  | [], _, t, v, h => by cases h
  | (t', v') :: r, h, t, v, hl => by
    rw [look_cons] at hl
    split at hl
    · rename_i e; subst e; injection hl with hl; subst hl; exact h.1
    · exact subO_look h.2 hl
theorem look_mem {α : Type} : ∀ {l : List (Nat × α)} {t : Nat} {v : α}, look l t = some v → t ∈ l.map (·.1)
  | [], t, v, h => by cases h
  | (t', v') :: r, t, v, hl => by
    rw [look_cons] at hl
    split at hl
    · rename_i e; simp [e]
    · simp [look_mem hl]
theorem inj_eq {ρ : Nat → Nat} : ∀ {l : List Nat}, inj ρ l → ∀ {a b}, a ∈ l → b ∈ l → ρ a = ρ b → a = b
  | [], _, a, b, ha, _, _ => by cases ha
  | c :: r, h, a, b, ha, hb, e => by
    unfold inj at h
    rw [List.map_cons] at h
    obtain ⟨h1, h2⟩ := List.nodup_cons.1 h
    rcases List.mem_cons.1 ha with e1 | ha2
    · rcases List.mem_cons.1 hb with e2 | hb2
      · rw [e1, e2]
      · rw [e1] at e; exact absurd (List.mem_map.2 ⟨b, hb2, e.symm⟩) h1
    · rcases List.mem_cons.1 hb with e2 | hb2
      · rw [e2] at e; exact absurd (List.mem_map.2 ⟨a, ha2, e⟩) h1
      · exact inj_eq (l := r) h2 ha2 hb2 e
theorem Rel.sub {w0 : World0} {G : Gh} {s s' : AS} {a : Act} {w : World} {ρ : Nat → Nat} (h : Rel w0 G s a w) (hs : Sub ρ s' s) : ∃ G', Rel w0 G' s' a w := by
  obtain ⟨h1, h2, h3, h4, h5, h6⟩ := hs
  have ho : ∀ o I, s'.owf o = some I → s.owf (ρ o) = some I ∧ o < s'.nx ∧ o ∈ s'.ow.map (·.1) := fun o I hI => by
    unfold AS.owf at hI
    cases hl : look s'.ow o with
    | none => rw [hl] at hI; cases hI
    | some J =>
      rw [hl] at hI
      obtain ⟨h7, h8⟩ := subO_look h4 hl
      have hJ : J = some I := hI
      exact ⟨h7.trans hJ, h8, look_mem hl⟩
  have ho' : ∀ o I, s'.owf o = some I → s.owf (ρ o) = some I := fun o I hI => (ho o I hI).1
  refine ⟨⟨fun o => G.B (ρ o), fun o => G.root (ρ o), fun b => G.β (ρ b)⟩, h.nt.trans h1.symm, h.df, fun t v ht => ?_, fun b cs hb => ?_, fun b b' cs cs' hb hb' e => ?_, fun o I hI => ?_, fun o o' I I' hI hI' hne => ?_, h.bel⟩
  · obtain ⟨h7, h8⟩ := subT_look h2 ht
    obtain ⟨u, hu, hr⟩ := h.tm t _ h7
    exact ⟨u, hu, RV.ren ho' v u h8 hr⟩
  · obtain ⟨h7, h8, h9⟩ := subB_look h3 hb
    obtain ⟨_, q2, us, T, q3, q4⟩ := h.bx _ _ h7
    exact ⟨h9, q2, us, T, q3, RVs.ren ho' cs us h8 q4⟩
  · obtain ⟨h7, _⟩ := subB_look h3 hb
    obtain ⟨h8, _⟩ := subB_look h3 hb'
    exact inj_eq h5 (look_mem hb) (look_mem hb') (h.inj _ _ _ _ h7 h8 e)
  · obtain ⟨h7, h8, _⟩ := ho o I hI
    obtain ⟨_, q2, q3⟩ := h.own _ _ h7
    exact ⟨h8, q2, fun b cs hb => q3 _ _ (subB_look h3 hb).1⟩
  · obtain ⟨h7, _, h8⟩ := ho o I hI
    obtain ⟨h9, _, h10⟩ := ho o' I' hI'
    exact h.dis _ _ I I' h7 h9 fun e => hne (inj_eq h6 h8 h10 e)
theorem XW.sub {P : Program} {c : Code} {s s' : AS} {Q : Exit → AS → Prop} (ρ : Nat → Nat) (hs : Sub ρ s' s) (h : XW P c s' Q) : XW P c s Q := fun w0 G a w hr =>
  let ⟨G', hr'⟩ := hr.sub hs
  h w0 G' a w hr'

/-! ## Loops -/
theorem xloop {P : Program} {x : Code} {s : AS} {Q : Exit → AS → Prop} {ι : Type} (S : ι → AS) (μ : ι → Nat) (ρ0 : Nat → Nat) (i0 : ι) (h0 : Sub ρ0 (S i0) s)
    (hround : ∀ i, xC P x (S i) (qSeq (fun s' => ∃ j ρ, μ j < μ i ∧ Sub ρ (S j) s') Q)) : XW P (.loop x) s Q := by
  intro w0 G a w hr
  obtain ⟨G0, hr0⟩ := hr.sub h0
  have hmin : ∀ (a : Act) (w : World), (∃ i G, Rel w0 G (S i) a w) → ∃ n, (∃ i G, Rel w0 G (S i) a w ∧ μ i = n) ∧ ∀ m, (∃ i G, Rel w0 G (S i) a w ∧ μ i = m) → n ≤ m := by
    intro a w ⟨i, G, h⟩
    have : ∀ k, ∀ i G, Rel w0 G (S i) a w → μ i ≤ k → ∃ n, (∃ i G, Rel w0 G (S i) a w ∧ μ i = n) ∧ ∀ m, (∃ i G, Rel w0 G (S i) a w ∧ μ i = m) → n ≤ m := by
      intro k
      induction k with
      | zero => intro i G h hk; exact ⟨μ i, ⟨i, G, h, rfl⟩, fun m _ => by omega⟩
      | succ k ih =>
        intro i G h hk
        by_cases hx : ∃ i' G', Rel w0 G' (S i') a w ∧ μ i' ≤ k
        · obtain ⟨i', G', h', hk'⟩ := hx
          exact ih i' G' h' hk'
        · refine ⟨μ i, ⟨i, G, h, rfl⟩, fun m ⟨i', G', h', hm⟩ => ?_⟩
          by_cases hm2 : m ≤ k
          · exact absurd ⟨i', G', h', by omega⟩ hx
          · omega
    exact this (μ i) i G h (Nat.le_refl _)
  classical
  let ν : Act → World → Nat := fun a w => if h : ∃ i G, Rel w0 G (S i) a w then (hmin a w h).choose else 0
  have hν : ∀ a w, (h : ∃ i G, Rel w0 G (S i) a w) → (∃ i G, Rel w0 G (S i) a w ∧ μ i = ν a w) ∧ ∀ i G, Rel w0 G (S i) a w → ν a w ≤ μ i := fun a w h => by
    have h1 : ν a w = (hmin a w h).choose := dif_pos h
    obtain ⟨h2, h3⟩ := (hmin a w h).choose_spec
    rw [h1]
    exact ⟨h2, fun i G hr => h3 _ ⟨i, G, hr, rfl⟩⟩
  refine wp_loop (fun a w => ∃ i G, Rel w0 G (S i) a w) ν ⟨i0, G0, hr0⟩ fun a w hI => ?_
  obtain ⟨⟨i, G, hri, hi⟩, _⟩ := hν a w hI
  refine wp_mono (xC_ok x (S i) _ (hround i) w0 G a w hri) fun e a' w' ⟨G', s', hr', hq⟩ => ?_
  cases e <;> first | exact ⟨G', s', hr', hq⟩ | skip
  obtain ⟨j, ρ, hlt, hsub⟩ := hq
  obtain ⟨G2, hr2⟩ := hr'.sub hsub
  have h2 : ∃ i G, Rel w0 G (S i) a' w' := ⟨j, G2, hr2⟩
  exact ⟨h2, by have := (hν a' w' h2).2 j G2 hr2; omega⟩
/-- A cut: go on from a picture that says less. -/
theorem xcut {P : Program} {c : Code} {s : AS} {Q : Exit → AS → Prop} (s' : AS) (ρ : Nat → Nat) (hs : Sub ρ s' s) (h : XW P c s' Q) : XW P c s Q := h.sub ρ hs

/-! ## A function's contract -/
mutual
def argA : PD → AV
  | .one d => avB d
  | .ag ds => .ag (ds.map avB)
  | .byt n => .y n
  | .fn f c => .fn f (argAs c)
  | .rf _ => .un
def argAs : List PD → List AV
  | [] => []
  | p :: ps => argA p :: argAs ps
end
def argT : Nat → List PD → List (Nat × AV)
  | _, [] => []
  | i, p :: ps => (i, argA p) :: argT (i + 1) ps
def rD (s : AS) : AV → D → Prop
  | .i n, .int m => n = m
  | .b n, .bool m => n = m
  | .s n, .str m => n = m
  | .nl _, .rows _ n cs => n = 0 ∧ cs = []
  | .sl o, d => match s.owf o with | some I => I.deep = true ∧ I.d = d | none => False
  | _, _ => False
def rDs (s : AS) : List AV → List D → Prop
  | [], [] => True
  | a :: r, d :: ds => rD s a d ∧ rDs s r ds
  | _, _ => False
def xRes (P : Program) (s : AS) : ResultVar → Option AV
  | .tmp t => look s.tm t
  | .cell a T => match look s.tm a with
    | some (.bx b 0) => match tAgg P T, look s.bx b with
      | some none, some [v] => some v
      | some (some n), some cs => if cs.length = n then some (.ag cs) else none
      | _, _ => none
    | _ => none
/-- What is returned is new, and reads as wanted. -/
def rPs (s : AS) : List (Option AV) → List PD → Prop
  | [], [] => True
  | some v :: r, .one d :: ps => rD s v d ∧ rPs s r ps
  | some (.ag cs) :: r, .ag ds :: ps => rDs s cs ds ∧ rPs s r ps
  | _, _ => False
def flatA : List (Option AV) → List AV
  | [] => []
  | some (.ag cs) :: r => cs ++ flatA r
  | some v :: r => v :: flatA r
  | none :: r => flatA r
def xRet (P : Program) (fn : Func) (s : AS) (rs : List PD) : Prop :=
  rPs s (fn.results.toList.map (xRes P s)) rs ∧ (eatsOf (flatA (fn.results.toList.map (xRes P s)))).Nodup
end Go.Proofs.Ytaeeipojnfooeaa
