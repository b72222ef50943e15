/-
  The rules of a run: calls, loops, drawn orders, cuts; nil taken as an owned slice.
-/
import Derived.Test.YtaeeipojnfooeaaAI14
namespace Go.Proofs.Ytaeeipojnfooeaa
open Go.RowKit
set_option linter.unusedVariables false
set_option linter.unusedSimpArgs false

theorem SXe_panic {Q : QE} {c : List PanicEntry} {s : AS} (h : ¬ Q (.panic c) s) : ∀ (b : List (Nat × (AS → Prop))), ¬ SXe b Q (.panic c) s
  | [] => h
  | _ :: b => SXe_panic h b
theorem sw_drawn {P : Program} {id : Nat} {ops : Array Oper} {st : List It} {s : AS} {Q : QE} (ord : OrdT) (hm : P.follows .mixedOrders = true) (hQ : ∀ c s, ¬ Q (.panic c) s) (hc : (Region.noSelect ops && (wellOrd ord && !isAlt ord) && chkOrd ops ord ops.size (Array.replicate ops.size false)) = true)
    (h : SW P (.dr ops.toList ord :: st) s Q) : SW P (.code (.region id ops true) :: st) s Q := fun w0 G a w hr => by
  simp only [Bool.and_eq_true] at hc
  refine wp_drawn hm hc.1.1 (fun c a w ⟨_, s, _, hq⟩ => SXe_panic (hQ c s) _ hq) (by rw [Bool.and_eq_true]; exact hc.1.2) hc.2 ?_
  exact h w0 G a w.drew (hr.later (Below.refl _ _).drew)
mutual
def aA (s : AS) : AV → PD → Prop
  | .ag cs, .ag ds => aDs s cs ds
  | .y n, .byt m => n = m
  | .fn f c, .fn g ps => f = g ∧ aAs s c ps
  | a, .one d => aD s a d
  | _, _ => False
def aAs (s : AS) : List AV → List PD → Prop
  | [], [] => True
  | a :: r, p :: ps => aA s a p ∧ aAs s r ps
  | _, _ => False
end
mutual
theorem aA_ok {s : AS} : ∀ {a : AV} {p : PD}, aA s a p → AArg s a p
  | .fn f c, .fn g ps, h => by
    unfold aA at h
    obtain ⟨rfl, h⟩ := h
    exact .fn (aAs_ok h)
  | .i _, .fn _ _, h => by unfold aA at h; exact h.elim
  | .b _, .fn _ _, h => by unfold aA at h; exact h.elim
  | .s _, .fn _ _, h => by unfold aA at h; exact h.elim
  | .y _, .fn _ _, h => by unfold aA at h; exact h.elim
  | .nl _, .fn _ _, h => by unfold aA at h; exact h.elim
  | .x _, .fn _ _, h => by unfold aA at h; exact h.elim
  | .sl _, .fn _ _, h => by unfold aA at h; exact h.elim
  | .sp _ _, .fn _ _, h => by unfold aA at h; exact h.elim
  | .br _, .fn _ _, h => by unfold aA at h; exact h.elim
  | .bx _ _, .fn _ _, h => by unfold aA at h; exact h.elim
  | .eb _ _ _, .fn _ _, h => by unfold aA at h; exact h.elim
  | .eo _ _ _, .fn _ _, h => by unfold aA at h; exact h.elim
  | .ag _, .fn _ _, h => by unfold aA at h; exact h.elim
  | .tu _, .fn _ _, h => by unfold aA at h; exact h.elim
  | .un, .fn _ _, h => by unfold aA at h; exact h.elim
  | a, .one d, h => by cases a <;> (unfold aA at h; exact .one h)
  | a, .ag ds, h => by cases a <;> unfold aA at h <;> first | exact h.elim | exact .ag h
  | a, .byt m, h => by cases a <;> unfold aA at h <;> first | exact h.elim | (subst h; exact .byt)
  | a, .rf c, h => by cases a <;> (unfold aA at h; exact h.elim)
theorem aAs_ok {s : AS} : ∀ {l : List AV} {ps : List PD}, aAs s l ps → AArgs s l ps
  | [], [], _ => .nil
  | a :: r, p :: ps, h => by unfold aAs at h; exact .cons (aA_ok h.1) (aAs_ok h.2)
  | [], _ :: _, h => by unfold aAs at h; exact h.elim
  | _ :: _, [], h => by unfold aAs at h; exact h.elim
end
/-- The results of a call are values or structs. -/
def okR : List PD → Prop
  | [] => True
  | .one _ :: r => okR r
  | .ag _ :: r => okR r
  | _ => False
theorem okR_ok : ∀ {rs : List PD}, okR rs → ∀ r ∈ rs, (∃ d, r = .one d) ∨ ∃ ds, r = .ag ds
  | [], _, r, hr => by cases hr
  | .one d :: l, h, r, hr => by
    rcases List.mem_cons.1 hr with rfl | hr
    · exact .inl ⟨d, rfl⟩
    · exact okR_ok (rs := l) h r hr
  | .ag ds :: l, h, r, hr => by
    rcases List.mem_cons.1 hr with rfl | hr
    · exact .inr ⟨ds, rfl⟩
    · exact okR_ok (rs := l) h r hr
theorem xcall_o {P : Program} {dst : Option Tmp} {f : Operand} {args : Array Operand} {tys : Array TypeId} {ty : TypeId} {pos : String} {af : Array Edge} {gd : Option (Nat × Bool)} {s : AS} {F : FuncId} {cap : List AV} {ps rs : List PD} {K : AS → Prop}
    (hf : s.ev f = .fn F cap) (hc : Con P F ps rs) (ha : AArgs s (args.toList.map s.ev ++ cap) ps) (ho : okR rs) (h : K ((mkR s (flatD rs)).2.pt dst (retA (packA rs (mkR s (flatD rs)).1)))) : xO P s ⟨dst, .call ⟨.value f, args, tys⟩, ty, pos, af, gd⟩ K := by
  simp only [xO]
  rw [hf]
  exact ⟨ps, rs, ha, hc, okR_ok ho, h⟩
/-- A call, by its contract. -/
theorem sw_call {P : Program} {all rest : List Oper} {st : List It} {dst : Option Tmp} {f : Operand} {args : Array Operand} {tys : Array TypeId} {ty : TypeId} {pos : String} {af : Array Edge} {gd : Option (Nat × Bool)} {s : AS} {Q : QE} {F : FuncId} {cap : List AV} {ps rs : List PD}
    (hc : Con P F ps rs) (hf : s.ev f = .fn F cap) (ha : AArgs s (args.toList.map s.ev ++ cap) ps) (ho : okR rs) (h : SW P (.ops all rest :: st) ((mkR s (flatD rs)).2.pt dst (retA (packA rs (mkR s (flatD rs)).1))) Q) :
    SW P (.ex all ⟨dst, .call ⟨.value f, args, tys⟩, ty, pos, af, gd⟩ rest :: st) s Q :=
  xex_of (xcall_o (K := fun s' => XOps P all rest s' (SX (SWb P st Q).2 (SWb P st Q).1 Q)) hf hc ha ho h)
theorem sw_callD {P : Program} {all : List Oper} {r : OrdT} {st : List It} {dst : Option Tmp} {f : Operand} {args : Array Operand} {tys : Array TypeId} {ty : TypeId} {pos : String} {af : Array Edge} {gd : Option (Nat × Bool)} {s : AS} {Q : QE} {F : FuncId} {cap : List AV} {ps rs : List PD}
    (hc : Con P F ps rs) (hf : s.ev f = .fn F cap) (ha : AArgs s (args.toList.map s.ev ++ cap) ps) (ho : okR rs) (h : SW P (.dr all r :: st) ((mkR s (flatD rs)).2.pt dst (retA (packA rs (mkR s (flatD rs)).1))) Q) :
    SW P (.dg all ⟨dst, .call ⟨.value f, args, tys⟩, ty, pos, af, gd⟩ false r :: st) s Q :=
  dg_eff (xcall_o (K := fun s' => XDr P all r s' (SX (SWb P st Q).2 (SWb P st Q).1 Q)) hf hc ha ho h)
theorem XOps.sub {P : Program} {all rest : List Oper} {s s' : AS} {Q : QE} {ρ : Nat → Nat} (hs : Sub ρ s' s) (h : XOps P all rest s' Q) : XOps P all rest s Q := fun w0 G a w hr =>
  let ⟨G', hr'⟩ := hr.sub hs
  h w0 G' a w hr'
/-- Behind a fork: go on from one picture for all its ways. -/
theorem sw_cutm {P : Program} {Q : QE} {c : Code} {st : List It} {s s' : AS} (h : SW P (.code c :: st) s' Q) (ρ : Nat → Nat) (hs : Sub ρ s' s) : SW P (.cut :: .code c :: st) s Q := XW.sub ρ hs h
/-- A drawn region with forks: 'cut' stands behind it. -/
theorem sw_drawnC {P : Program} {id : Nat} {ops : Array Oper} {st : List It} {s : AS} {Q : QE} (ord : OrdT) (hm : P.follows .mixedOrders = true) (hQ : ∀ c s, ¬ Q (.panic c) s) (hc : (Region.noSelect ops && (wellOrd ord && !isAlt ord) && chkOrd ops ord ops.size (Array.replicate ops.size false)) = true)
    (h : SW P (.dr ops.toList ord :: .cut :: st) s Q) : SW P (.code (.region id ops true) :: st) s Q := sw_drawn (st := st) ord hm hQ hc h
/-- A cut ahead of code. -/
theorem sw_cut {P : Program} {Q : QE} {c : Code} {st : List It} {s : AS} (s' : AS) (ρ : Nat → Nat) (hs : Sub ρ s' s) (h : SW P (.code c :: st) s' Q) : SW P (.code c :: st) s Q := XW.sub ρ hs h
def qLp {ι : Type} (P : Program) (I : ι → Prop) (S : ι → AS) (μ : ι → Nat) (i : ι) (st : List It) (Q : QE) : QE := fun e s' => match e with
  | .normal => ∃ (j : ι) (ρ : Nat → Nat), I j ∧ μ j < μ i ∧ Sub ρ (S j) s'
  | .exit id => (popTo id st).isSome = true ∧ SW P ((popTo id st).getD []) s' Q
  | .ret => Q .ret s'
  | _ => False
theorem sw_loop {P : Program} {x : Code} {st : List It} {s : AS} {Q : QE} {ι : Type} (I : ι → Prop) (S : ι → AS) (μ : ι → Nat) (i0 : ι) (ρ0 : Nat → Nat) (hI : I i0) (h0 : Sub ρ0 (S i0) s)
    (hr : ∀ i, I i → SW P [.code x] (S i) (qLp P I S μ i st Q)) : SW P (.code (.loop x) :: st) s Q := by
  intro w0 G a w hrel
  obtain ⟨G0, hr0⟩ := hrel.sub h0
  have hmin : ∀ (a : Act) (w : World), (∃ i G, I i ∧ Rel w0 G (S i) a w) → ∃ n, (∃ i G, (I i ∧ Rel w0 G (S i) a w) ∧ μ i = n) ∧ ∀ m, (∃ i G, (I i ∧ Rel w0 G (S i) a w) ∧ μ i = m) → n ≤ m := by
    intro a w ⟨i, G, h⟩
    have : ∀ k, ∀ i G, I i ∧ Rel w0 G (S i) a w → μ i ≤ k → ∃ n, (∃ i G, (I i ∧ Rel w0 G (S i) a w) ∧ μ i = n) ∧ ∀ m, (∃ i G, (I i ∧ Rel w0 G (S i) a w) ∧ μ i = m) → n ≤ m := by
      intro k
      induction k with
      | zero => intro i G h hk; exact ⟨μ i, ⟨i, G, h, rfl⟩, fun m _ => by omega⟩
      | succ k ih =>
        intro i G h hk
        by_cases hx : ∃ i' G', (I i' ∧ Rel w0 G' (S i') a w) ∧ μ i' ≤ k
        · obtain ⟨i', G', h', hk'⟩ := hx
          exact ih i' G' h' hk'
        · refine ⟨μ i, ⟨i, G, h, rfl⟩, fun m ⟨i', G', h', hm⟩ => ?_⟩
          by_cases hm2 : m ≤ k
          · exact absurd ⟨i', G', h', by omega⟩ hx
          · omega
    exact this (μ i) i G h (Nat.le_refl _)
  classical
  let ν : Act → World → Nat := fun a w => if h : ∃ i G, I i ∧ Rel w0 G (S i) a w then (hmin a w h).choose else 0
  have hν : ∀ a w, (h : ∃ i G, I i ∧ Rel w0 G (S i) a w) → (∃ i G, (I i ∧ Rel w0 G (S i) a w) ∧ μ i = ν a w) ∧ ∀ i G, I i ∧ Rel w0 G (S i) a w → ν a w ≤ μ i := fun a w h => by
    have h1 : ν a w = (hmin a w h).choose := dif_pos h
    obtain ⟨h2, h3⟩ := (hmin a w h).choose_spec
    rw [h1]
    exact ⟨h2, fun i G hr => h3 _ ⟨i, G, hr, rfl⟩⟩
  refine wp_loop (fun a w => ∃ i G, I i ∧ Rel w0 G (S i) a w) ν ⟨i0, G0, hI, hr0⟩ fun a w hII => ?_
  obtain ⟨⟨i, G, hri, hi⟩, _⟩ := hν a w hII
  refine wp_mono (XW_of_SW (hr i hri.1) w0 G a w hri.2) fun e a' w' ⟨G', s', hr', hq⟩ => ?_
  cases e
  case normal =>
    obtain ⟨j, ρ, hIj, hlt, hsub⟩ := hq
    obtain ⟨G2, hr2⟩ := hr'.sub hsub
    have h2 : ∃ i G, I i ∧ Rel w0 G (S i) a' w' := ⟨j, G2, hIj, hr2⟩
    exact ⟨h2, by have := (hν a' w' h2).2 j G2 ⟨hIj, hr2⟩; omega⟩
  case exit id _x =>
    obtain ⟨h1, h2⟩ := hq
    obtain ⟨st', hst⟩ := Option.isSome_iff_exists.1 h1
    rw [hst] at h2
    exact ⟨G', s', hr', SX_pop hst h2⟩
  case ret =>
    have hq' : Q .ret s' := hq
    exact ⟨G', s', hr', SX_ret hq' _⟩
  all_goals exact hq.elim
theorem res_nil (base : Nat) (M : Nat → Prop) (w : World) (sz : Nat) (T : TypeId) : Res base M w [] (.slice none 0 0) ⟨.rows sz 0 [], some T, true⟩ := by
  refine ⟨by simp, ?_, fun _ => ⟨?_, by simp⟩, fun T' hT => ?_⟩
  · unfold RepP; exact ⟨none, 0, rfl, by simp, by simp, by simp, .inl rfl⟩
  · unfold OwnV; exact ⟨none, 0, rfl, by simp, by simp, by simp, .inl ⟨rfl, rfl⟩⟩
  · exact ⟨sz, 0, [], [], rfl, World.ownsRow_nil w _ _ _, by unfold RepPs; rfl, by simp [rowB], by simp, fun _ => ⟨[], by unfold OwnVs; exact ⟨rfl, rfl⟩, by simp, by simp⟩⟩
/-- nil in a box's cell, as an owned slice. -/
theorem sw_ownB {P : Program} {Q : QE} {c : Code} {st : List It} {s : AS} (b i : Nat) (T : TypeId) {cs : List AV} {sz : Nat} (h1 : look s.bx b = some cs) (h2 : cs[i]? = some (.nl sz))
    (h : SW P (.code c :: st) ((s.mk' [] ⟨.rows sz 0 [], some T, true⟩).setb b (cs.set i (.sl s.nx))) Q) : SW P (.code c :: st) s Q := fun w0 G a w hr => by
  obtain ⟨h3, h4⟩ := hr.own' (w' := w) (eats := []) hr.bel (Nat.le_refl _) (fun _ _ _ => rfl) (res_nil w0.heap.size w0.mv w sz T) rfl (fun _ _ _ => by simp) (fun _ _ _ _ _ _ => by simp)
  have h1' : look (s.mk' [] ⟨.rows sz 0 [], some T, true⟩).bx b = some cs := h1
  obtain ⟨q1, q2, us, T', hB, hrs⟩ := h3.bx b cs h1'
  obtain ⟨u, hu, hv⟩ := RVs.get cs us i _ hrs h2
  unfold RV at hv
  subst hv
  have hrs' := RVs.set h4 cs us i hrs
  have e : us.set i (.slice none 0 0) = us := by
    obtain ⟨hlt, hx⟩ := List.getElem?_eq_some_iff.1 hu
    rw [← hx]; exact List.set_getElem_self hlt
  rw [e] at hrs'
  exact h w0 _ a w (h3.setb h1' hrs' hB (Only.refl _ _))
/-- nil in a temporary, as an owned slice. -/
theorem sw_ownT {P : Program} {Q : QE} {c : Code} {st : List It} {s : AS} (t : Nat) (T : TypeId) {sz : Nat} (h1 : look s.tm t = some (.nl sz))
    (h : SW P (.code c :: st) { (s.mk' [] ⟨.rows sz 0 [], some T, true⟩) with tm := (t, .sl s.nx) :: s.tm } Q) : SW P (.code c :: st) s Q := fun w0 G a w hr => by
  obtain ⟨h3, h4⟩ := hr.own' (w' := w) (eats := []) hr.bel (Nat.le_refl _) (fun _ _ _ => rfl) (res_nil w0.heap.size w0.mv w sz T) rfl (fun _ _ _ => by simp) (fun _ _ _ _ _ _ => by simp)
  obtain ⟨u, hu, hv⟩ := hr.tm t _ h1
  unfold RV at hv
  subst hv
  refine h w0 _ a w ⟨h3.nt, h3.df, fun t' v ht => ?_, h3.bx, h3.inj, h3.own, h3.dis, h3.bel⟩
  simp only at ht
  rw [look_cons] at ht
  split at ht
  · rename_i e
    subst e
    injection ht with ht
    subst ht
    exact ⟨_, hu, h4⟩
  · exact h3.tm t' v ht
/-- The end of a function: what it returns. -/
def fQ (P : Program) (fn : Func) (rs : List PD) (e : Exit) (s : AS) : Prop := (e = .ret ∨ e = .normal) ∧ xRet P fn s rs
theorem fQ_panic {P : Program} {fn : Func} {rs : List PD} : ∀ c s, ¬ fQ P fn rs (.panic c) s := fun c s h => by rcases h.1 with h | h <;> cases h
theorem con_run {P : Program} {f : FuncId} {fn : Func} {c : Code} {args rs : List PD} (hf : P.funcs[f]? = some fn) (hb : fn.body = some c) (hn : (fn.name == "runtime.NumGoroutine") = false) (hnt : args.length ≤ fn.ntmps)
    (h : xRun P 400 [.code c] ⟨fn.ntmps, argT 0 args, [], [], 0⟩ (fQ P fn rs)) : Con P f args rs :=
  con_of hf hb hn hnt (XW_of_SW (sw_run 400 _ _ _ h))
theorem qLp_panic {ι : Type} {P : Program} {I : ι → Prop} {S : ι → AS} {μ : ι → Nat} {i : ι} {st : List It} {Q : QE} : ∀ c s, ¬ qLp P I S μ i st Q (.panic c) s := fun c s h => h
end Go.Proofs.Ytaeeipojnfooeaa
