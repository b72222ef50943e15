import Derived.Test.YtaidalilfmjfgaaGreatAI13
import Derived.OrdersHeld
namespace Go.Proofs.YtaidalilfmjfgaaGreat
open Go.RowKit
set_option linter.unusedVariables false
set_option linter.unusedSimpArgs false
def aF4 (w:World):World→Prop:=fun w'=>Below w.heap.size w w'
def CV (ops:Array Oper) (i:Nat):Bool:=match ops[i]? with | some o=>Hc o | none=>false
def Fc (P : Program) (ops : Array Oper) (S : World → Prop) (Q : Exit → Act → World → Prop) : Nat → Array Bool → Act → World → Prop
  | 0, listed, a, w => Region.ready .any ops listed = [] ∧ Q .normal a w
  | f + 1, listed, a, w => (Region.ready .any ops listed = [] → Q .normal a w) ∧
    ∀ i ∈ Region.ready .any ops listed, wpOp P ops Q i (fun a' w' => ((CV ops i = false → Below w.heap.size w w') ∧ S w') ∧ Fc P ops S Q f (listed.setIfInBounds i true) a' w') a w
theorem GU {P:Program} {ops:Array Oper} {S:World→Prop} {Q:Exit→Act→World→Prop}:∀ (f:Nat) (listed:Array Bool) (a:Act) (w:World),Fc P ops S Q f listed a w→wpAny P .any ops Q f listed a w
 | 0,_,_,_,h=>h
 | f+1,_,_,_,h=>⟨h.1,fun i hi=>wpOp_mono (fun a' w' h'=>GU f _ a' w' h'.2) (h.2 i hi)⟩
def MW (ops:Array Oper) (listed:Array Bool) (i:Nat):Nat→Nat→Bool
 | 0,_=>false
 | n+1,j=>match ops[j]? with
  | some o=>o.after.any fun e=>Region.binds .any e && (e.on == i || (!listed.getD e.on true && MW ops listed i n e.on))
  | none=>false
def PI (ops:Array Oper) (base listed:Array Bool):Prop:=base.size=listed.size∧∀ k,listed.getD k false=true→base.getD k false=true∨∀ o,ops[k]? = some o→∀ e ∈ o.after,Region.binds .any e=true→listed.getD e.on false=true
theorem NQ {ops:Array Oper} {base listed:Array Bool} {i:Nat} (hs:PI ops base listed) (hi:listed.getD i false=false):∀ (n j:Nat),MW ops base i n j=true→j ∉ Region.ready .any ops listed∧(base.getD j true=false→listed.getD j false=false)
 | 0,j,h=>by cases h
 | n+1,j,h=>by
  unfold MW at h
  cases ho:ops[j]? with
  | none=>rw [ho] at h;cases h
  | some o =>
   rw [ho] at h
   simp only at h
   obtain ⟨e,he,hb⟩:=Array.any_eq_true'.1 h
   simp only [Bool.and_eq_true,Bool.or_eq_true,beq_iff_eq,Bool.not_eq_true'] at hb
   have hon:listed.getD e.on false=false:=by
    rcases hb.2 with h1 | ⟨h1,h2⟩
    ·rw [h1];exact hi
    ·exact (NQ hs hi n e.on h2).2 h1
   refine ⟨fun hr => ?_,fun hbase => ?_⟩
   ·obtain ⟨_,o',ho',hall⟩:=mem_ready.1 hr
    rw [ho] at ho'
    injection ho' with ho'
    subst ho'
    have:=hall e he hb.1
    rw [hon] at this
    cases this
   ·cases hl:listed.getD j false with
    | false=>rfl
    | true =>
     rcases hs.2 j hl with h1 | h1
     ·have h2:base.getD j false=false:=by
       rcases Nat.lt_or_ge j base.size with h' | h'
       ·simp [h'] at hbase ⊢; exact hbase
       ·simp [Array.getElem?_eq_none h']
      rw [h2] at h1;cases h1
     ·have:=h1 o ho e he hb.1
      rw [hon] at this;cases this
theorem PI.set {ops:Array Oper} {base listed:Array Bool} (hs:PI ops base listed) {j:Nat} (hj:j ∈ Region.ready .any ops listed):PI ops base (listed.setIfInBounds j true):=by
 obtain ⟨hju,oj,hoj,hall⟩:=mem_ready.1 hj
 refine ⟨by simp [hs.1],fun k hk => ?_⟩
 by_cases hkj:j=k
 ·subst hkj
  right
  intro o ho e he hb
  rw [hoj] at ho
  injection ho with ho
  subst ho
  exact getD_set_true (hall e he hb)
 ·rw [getD_set_ne false hkj] at hk
  rcases hs.2 k hk with h1 | h1
  ·exact .inl h1
  ·exact .inr fun o ho e he hb=>getD_set_true (h1 o ho e he hb)
theorem Lp {P : Program} {ops : Array Oper} {S : World → Prop} {Q : Exit → Act → World → Prop} {i : Nat} {oi : Oper} {v : Value} (hi : ops[i]? = some oi) (hsel : ∀ (j : Nat) (o : Oper) cs b, ops[j]? = some o → o.op ≠ .select cs b)
    (hQ : ∀ c a w, Q (.panic c) (a.put oi.dst v) w → Q (.panic c) a w) (base : Array Bool) (hlate : ∀ j, base.getD j true = false → CV ops j = true → j ≠ i → MW ops base i ops.size j = true) :
    ∀ (fuel : Nat) (listed : Array Bool) (a : Act) (w : World), PI ops base listed → (∀ k, base.getD k false = true → listed.getD k false = true) →
      (∀ j oj, ops[j]? = some oj → j ≠ i → listed.getD j true = false → (∀ e ∈ oj.after, Region.binds .any e = true → e.on ≠ i) → oi.apart ops oj = true) →
      i ∈ Region.ready .any ops listed → YieldsIf P ops (aF4 w) oi v a → S w →
      Fc P ops S Q fuel (listed.setIfInBounds i true) (a.put oi.dst v) w → CV ops i = false → Fc P ops S Q (fuel + 1) listed a w := by
  intro fuel
  induction fuel with
  | zero =>
    intro listed a w hs hsub _ hr hy hS H hli
    refine ⟨fun h => (by rw [h] at hr; cases hr), fun j hj => ?_⟩
    by_cases hji : j = i
    · subst hji; exact hy.wpOp hi (Below.refl _ _) ⟨⟨fun _ => Below.refl _ _, hS⟩, H⟩
    · have := ready_mono hj hji
      rw [H.1] at this
      cases this
  | succ fuel ih =>
    intro listed a w hs hsub hfree hr hy hS H hli
    refine ⟨fun h => (by rw [h] at hr; cases hr), fun j hj => ?_⟩
    by_cases hji : j = i
    · subst hji; exact hy.wpOp hi (Below.refl _ _) ⟨⟨fun _ => Below.refl _ _, hS⟩, H⟩
    · have h1 := H.2 j (ready_mono hj hji)
      obtain ⟨hjun, oj, hoj, hall⟩ := mem_ready.1 hj
      have hiun : listed.getD i false = false := by
        have h0 := (mem_ready.1 hr).1
        rcases Nat.lt_or_ge i listed.size with h' | h'
        · simp [h'] at h0 ⊢; exact h0
        · simp [Array.getElem?_eq_none h']
      have hnot : ∀ e ∈ oj.after, Region.binds .any e = true → e.on ≠ i := fun e he hb heq => by
        have h1 := hall e he hb
        rw [heq, hiun] at h1; cases h1
      have hbj : base.getD j true = false := by
        cases hbb : base.getD j true with
        | false => rfl
        | true =>
          exfalso
          rcases Nat.lt_or_ge j base.size with h' | h'
          · have h2 : base.getD j false = true := by simp [h'] at hbb ⊢; exact hbb
            have h3 := hsub j h2
            have h4 : j < listed.size := by rw [← hs.1]; exact h'
            simp [h4] at hjun h3
            rw [hjun] at h3; cases h3
          · have h4 : listed.size ≤ j := by rw [← hs.1]; exact h'
            simp [Array.getElem?_eq_none h4] at hjun
      have hlj : CV ops j = false := by
        cases hl : CV ops j with
        | false => rfl
        | true => exact absurd hj (NQ hs hiun ops.size j (hlate j hbj hl hji)).1
      have h2 := wpOp_putIf hoj (hfree j oj hoj hji hjun hnot) (fun cs b => hsel i oi cs b hi) (fun cs b => hsel j oj cs b hoj) hQ hy h1
      have hfree' : ∀ k ok, ops[k]? = some ok → k ≠ i → (listed.setIfInBounds j true).getD k true = false →
          (∀ e ∈ ok.after, Region.binds .any e = true → e.on ≠ i) → oi.apart ops ok = true := fun k ok hk hki hun hno => by
        refine hfree k ok hk hki ?_ hno
        by_cases hjk : j = k
        · subst hjk; exact hjun
        · rw [getD_set_ne true hjk] at hun; exact hun
      refine wpOp_mono (fun a' w' h3 => ⟨⟨fun _ => h3.2.1.1 hlj, h3.2.1.2⟩, ?_⟩) h2
      have hb := h3.2.1.1 hlj
      have hy' : YieldsIf P ops (aF4 w') oi v a' := by
        rcases h3.1 with ⟨hw, hv⟩ | ⟨hw, hv⟩
        · exact .inl ⟨hw, fun w2 hb2 => hv w2 (hb.trans (hb2.mono hb.size))⟩
        · exact .inr ⟨hw, hv⟩
      refine ih (listed.setIfInBounds j true) a' w' (hs.set hj) (fun k hk => getD_set_true (hsub k hk)) hfree' (ready_mono hr (Ne.symm hji)) hy' h3.2.1.2 ?_ hli
      rw [Array.setIfInBounds_comm _ _ hji]
      exact h3.2.2
def SR (o:Oper):Bool:=match o.op with | .move _=>true | .nilCheck _=>true | .fieldAddr _ _ _=>true | _=>false
def JE (ops:Array Oper) (i:Nat):Bool:=match ops[i]? with | some o=>SR o | none=>false
def Px (o:Oper) (w:World):World→Prop:=fun w'=>SR o=true∨Below w.heap.size w w'
theorem Nv {P:Program} {ops:Array Oper} {o:Oper} {v:Value} {a:Act} {w:World} {i:Nat} (hi:ops[i]? = some o) (hp:JE ops i=true) (h:YieldsIf P ops (Px o w) o v a):YieldsIf P ops (fun _=>True) o v a:=by
 unfold JE at hp
 rw [hi] at hp
 exact h.imp (fun ⟨hw,hv⟩=>⟨hw,fun w2 _=>hv w2 (.inl hp)⟩) id
theorem MD {P:Program} {ops:Array Oper} {o:Oper} {v:Value} {a:Act} {w:World} (h:YieldsIf P ops (Px o w) o v a):YieldsIf P ops (aF4 w) o v a :=
 h.imp (fun ⟨hw,hv⟩=>⟨hw,fun w2 h2=>hv w2 (.inr h2)⟩) id
theorem FP {P : Program} {ops : Array Oper} {S : World → Prop} {Q : Exit → Act → World → Prop} {i : Nat} {oi : Oper} {v : Value} (hi : ops[i]? = some oi) (hsel : ∀ (j : Nat) (o : Oper) cs b, ops[j]? = some o → o.op ≠ .select cs b)
    (hQ : ∀ c a w, Q (.panic c) (a.put oi.dst v) w → Q (.panic c) a w) (base : Array Bool) :
    ∀ (fuel : Nat) (listed : Array Bool) (a : Act) (w : World), PI ops base listed → (∀ k, base.getD k false = true → listed.getD k false = true) →
      (∀ j oj, ops[j]? = some oj → j ≠ i → listed.getD j true = false → (∀ e ∈ oj.after, Region.binds .any e = true → e.on ≠ i) → oi.apart ops oj = true) →
      i ∈ Region.ready .any ops listed → YieldsIf P ops S oi v a → S w →
      Fc P ops S Q fuel (listed.setIfInBounds i true) (a.put oi.dst v) w → CV ops i = false → Fc P ops S Q (fuel + 1) listed a w := by
  intro fuel
  induction fuel with
  | zero =>
    intro listed a w hs hsub _ hr hy hS H hli
    refine ⟨fun h => (by rw [h] at hr; cases hr), fun j hj => ?_⟩
    by_cases hji : j = i
    · subst hji; exact hy.wpOp hi hS ⟨⟨fun _ => Below.refl _ _, hS⟩, H⟩
    · have := ready_mono hj hji
      rw [H.1] at this
      cases this
  | succ fuel ih =>
    intro listed a w hs hsub hfree hr hy hS H hli
    refine ⟨fun h => (by rw [h] at hr; cases hr), fun j hj => ?_⟩
    by_cases hji : j = i
    · subst hji; exact hy.wpOp hi hS ⟨⟨fun _ => Below.refl _ _, hS⟩, H⟩
    · have h1 := H.2 j (ready_mono hj hji)
      obtain ⟨hjun, oj, hoj, hall⟩ := mem_ready.1 hj
      have hiun : listed.getD i false = false := by
        have h0 := (mem_ready.1 hr).1
        rcases Nat.lt_or_ge i listed.size with h' | h'
        · simp [h'] at h0 ⊢; exact h0
        · simp [Array.getElem?_eq_none h']
      have hnot : ∀ e ∈ oj.after, Region.binds .any e = true → e.on ≠ i := fun e he hb heq => by
        have h1 := hall e he hb
        rw [heq, hiun] at h1; cases h1
      have hbj : base.getD j true = false := by
        cases hbb : base.getD j true with
        | false => rfl
        | true =>
          exfalso
          rcases Nat.lt_or_ge j base.size with h' | h'
          · have h2 : base.getD j false = true := by simp [h'] at hbb ⊢; exact hbb
            have h3 := hsub j h2
            have h4 : j < listed.size := by rw [← hs.1]; exact h'
            simp [h4] at hjun h3
            rw [hjun] at h3; cases h3
          · have h4 : listed.size ≤ j := by rw [← hs.1]; exact h'
            simp [Array.getElem?_eq_none h4] at hjun
      have h2 := wpOp_putIf hoj (hfree j oj hoj hji hjun hnot) (fun cs b => hsel i oi cs b hi) (fun cs b => hsel j oj cs b hoj) hQ hy h1
      have hfree' : ∀ k ok, ops[k]? = some ok → k ≠ i → (listed.setIfInBounds j true).getD k true = false →
          (∀ e ∈ ok.after, Region.binds .any e = true → e.on ≠ i) → oi.apart ops ok = true := fun k ok hk hki hun hno => by
        refine hfree k ok hk hki ?_ hno
        by_cases hjk : j = k
        · subst hjk; exact hjun
        · rw [getD_set_ne true hjk] at hun; exact hun
      refine wpOp_mono (fun a' w' h3 => ⟨h3.2.1, ?_⟩) h2
      have hy' : YieldsIf P ops S oi v a' := h3.1
      refine ih (listed.setIfInBounds j true) a' w' (hs.set hj) (fun k hk => getD_set_true (hsub k hk)) hfree' (ready_mono hr (Ne.symm hji)) hy' h3.2.1.2 ?_ hli
      rw [Array.setIfInBounds_comm _ _ hji]
      exact h3.2.2
inductive AN where
 | nil
 | cons (i:Nat) (take:Bool) (r:AN)
 | fork (l:AN)
 | alt (i:Nat) (r l:AN)
 | last
def LG:AN→List Nat
 | .alt i _ l=>i :: LG l
 | _=>[]
def Ag (ops : Array Oper) : AN → Nat → Array Bool → Bool
  | .nil, _, listed => (Region.ready .any ops listed).isEmpty
  | .cons i true r, n, listed => match n with
    | 0 => false
    | n + 1 => (Region.ready .any ops listed).contains i && Region.free .any ops listed i && !CV ops i &&
      (JE ops i || (List.range ops.size).all fun j => listed.getD j true || !CV ops j || j == i || MW ops listed i ops.size j) && Ag ops r n (listed.setIfInBounds i true)
  | .cons i false r, n, listed => match n with
    | 0 => false
    | n + 1 => (Region.ready .any ops listed == [i]) && Ag ops r n (listed.setIfInBounds i true)
  | .fork l, n, listed => match n with
    | 0 => false
    | n + 1 => !(Region.ready .any ops listed).isEmpty && ((Region.ready .any ops listed).all fun i => (LG l).contains i) && Ag ops l n listed
  | .alt i r l, n, listed => Ag ops r n (listed.setIfInBounds i true) && Ag ops l n listed
  | .last, _, _ => true
def EF:AN→Bool
 | .alt _ _ _=>true
 | .last=>true
 | _=>false
def Fm (P:Program) (ops:Array Oper) (S:World→Prop) (Q:Exit→Act→World→Prop):AN→Act→World→Prop
 | .nil,a,w=>Q .normal a w
 | .cons i true r,a,w=>∃ o v,ops[i]? = some o∧YieldsIf P ops (Px o w) o v a∧Fm P ops S Q r (a.put o.dst v) w
 | .cons i false r,a,w=>wpOp P ops Q i (fun a' w'=>((CV ops i=false→Below w.heap.size w w')∧S w')∧Fm P ops S Q r a' w') a w
 | .fork l,a,w=>Fm P ops S Q l a w
 | .alt i r l,a,w=>wpOp P ops Q i (fun a' w'=>((CV ops i=false→Below w.heap.size w w')∧S w')∧Fm P ops S Q r a' w') a w∧Fm P ops S Q l a w
 | .last,a,w=>True
def Ae:AN→Bool
 | .nil=>true
 | .cons _ _ r=>Ae r && !EF r
 | .fork l=>Ae l && EF l
 | .alt _ r l=>Ae r && !EF r && Ae l && EF l
 | .last=>true
theorem DR {P:Program} {ops:Array Oper} {S:World→Prop} {Q:Exit→Act→World→Prop} (hs:Region.noSelect ops=true) (hQ:∀ c a w,¬ Q (.panic c) a w):∀ (ord:AN) (n:Nat) (listed:Array Bool) (a:Act) (w:World),
  Ae ord=true→Ag ops ord n listed=true→S w→Fm P ops S Q ord a w→(EF ord=false→Fc P ops S Q n listed a w)∧(EF ord=true→∀ i ∈ LG ord,wpOp P ops Q i (fun a' w'=>((CV ops i=false→Below w.heap.size w w')∧S w')∧Fc P ops S Q n (listed.setIfInBounds i true) a' w') a w)
 | .nil,n,listed,a,w,hw,hc,hS,h=>by
  refine ⟨fun _ => ?_,fun e=>by cases e⟩
  have hr:Region.ready .any ops listed=[]:=by
   unfold Ag at hc
   simpa using hc
  cases n with
  | zero=>exact ⟨hr,h⟩
  | succ n=>exact ⟨fun _=>h,by rw [hr];simp⟩
 | .cons i b r,0,listed,a,w,hw,hc,hS,h=>by cases b <;> (unfold Ag at hc;cases hc)
 | .cons i true r,n+1,listed,a,w,hw,hc,hS,h=>by
  refine ⟨fun _ => ?_,fun e=>by cases e⟩
  unfold Ae at hw
  simp only [Bool.and_eq_true,Bool.not_eq_true'] at hw
  unfold Ag at hc
  simp only [Bool.and_eq_true,Bool.not_eq_true'] at hc
  obtain ⟨⟨⟨⟨h1,h2⟩,h3⟩,h4⟩,h5⟩:=hc
  obtain ⟨o,v,ho,hy,hk⟩:=h
  cases hp:JE ops i with
  | true=>exact FP ho (Region.noSelect_spec hs) (fun c a w hp=>absurd hp (hQ _ _ _)) listed n listed a w ⟨rfl,fun k hk => .inl hk⟩ (fun k hk=>hk) (Region.free_spec ho h2) (by simpa using h1) ((Nv ho hp hy).imp (fun h=>⟨h.1,fun w2 _=>h.2 w2 trivial⟩) id) hS ((DR hs hQ r n _ _ w hw.1 h5 hS hk).1 hw.2) h3
  | false =>
  rw [hp,Bool.false_or] at h4
  refine Lp ho (Region.noSelect_spec hs) (fun c a w hp=>absurd hp (hQ _ _ _)) listed (fun j hj hl hne => ?_) n listed a w ⟨rfl,fun k hk => .inl hk⟩ (fun k hk=>hk) (Region.free_spec ho h2) (by simpa using h1) (MD hy) hS ((DR hs hQ r n _ _ w hw.1 h5 hS hk).1 hw.2) h3
  have hlt:j<ops.size:=by
   unfold CV at hl
   cases hoj:ops[j]? with
   | none=>rw [hoj] at hl;cases hl
   | some oj=>exact (Array.getElem?_eq_some_iff.1 hoj).1
  have:=List.all_eq_true.1 h4 j (List.mem_range.2 hlt)
  simp only [hj,hl,Bool.not_true,Bool.false_or,Bool.or_eq_true,beq_iff_eq] at this
  exact this.resolve_left hne
 | .cons i false r,n+1,listed,a,w,hw,hc,hS,h=>by
  refine ⟨fun _ => ?_,fun e=>by cases e⟩
  unfold Ae at hw
  simp only [Bool.and_eq_true,Bool.not_eq_true'] at hw
  unfold Ag at hc
  simp only [Bool.and_eq_true,beq_iff_eq] at hc
  refine ⟨fun h0=>(by rw [hc.1] at h0;cases h0),fun j hj => ?_⟩
  rw [hc.1] at hj
  simp only [List.mem_singleton] at hj
  subst hj
  exact wpOp_mono (fun a' w' h'=>⟨h'.1,(DR hs hQ r n _ a' w' hw.1 hc.2 h'.1.2 h'.2).1 hw.2⟩) h
 | .fork l,0,listed,a,w,hw,hc,hS,h=>by unfold Ag at hc;cases hc
 | .fork l,n+1,listed,a,w,hw,hc,hS,h=>by
  refine ⟨fun _ => ?_,fun e=>by cases e⟩
  unfold Ae at hw
  simp only [Bool.and_eq_true] at hw
  unfold Ag at hc
  simp only [Bool.and_eq_true,Bool.not_eq_true'] at hc
  refine ⟨fun h0=>(by rw [h0] at hc;simp at hc),fun j hj => ?_⟩
  have hm:=List.all_eq_true.1 hc.1.2 j hj
  exact (DR hs hQ l n listed a w hw.1 hc.2 hS h).2 hw.2 j (by simpa using hm)
 | .alt i r l,n,listed,a,w,hw,hc,hS,h=>by
  refine ⟨fun e=>(by cases e),fun _ j hj => ?_⟩
  unfold Ae at hw
  simp only [Bool.and_eq_true,Bool.not_eq_true'] at hw
  obtain ⟨⟨⟨w1,w2⟩,w3⟩,w4⟩:=hw
  unfold Ag at hc
  simp only [Bool.and_eq_true] at hc
  unfold LG at hj
  rcases List.mem_cons.1 hj with e | hj
  ·subst e
   exact wpOp_mono (fun a' w' h'=>⟨h'.1,(DR hs hQ r n _ a' w' w1 hc.1 h'.1.2 h'.2).1 w2⟩) h.1
  ·exact (DR hs hQ l n listed a w w3 hc.2 hS h.2).2 w4 j hj
 | .last,n,listed,a,w,hw,hc,hS,h=>⟨fun e=>(by cases e),fun _ j hj=>(by cases hj)⟩
def LD (ops:Array Oper):List Nat→Array Bool→Bool
 | [],_=>true
 | i :: r,listed=>(Region.ready .any ops listed).contains i && Region.free .any ops listed i && !CV ops i && LD ops r (listed.setIfInBounds i true)
def aDh:List Nat→Array Bool→Array Bool
 | [],listed=>listed
 | i :: r,listed=>aDh r (listed.setIfInBounds i true)
def PJ (P:Program) (ops:Array Oper) (S:World→Prop) (K:Act→Prop):List Nat→Act→Prop
 | [],a=>K a
 | i :: r,a=>∃ o v,ops[i]? = some o∧YieldsIf P ops S o v a∧PJ P ops S K r (a.put o.dst v)
theorem Pb {P:Program} {ops:Array Oper} {S:World→Prop} {Q:Exit→Act→World→Prop} (hs:Region.noSelect ops=true) (hQ:∀ c a w,¬ Q (.panic c) a w) {w:World} (hS:S w) {n:Nat}:∀ (pre:List Nat) (listed:Array Bool) (a:Act),
  LD ops pre listed=true→PJ P ops S (fun a'=>Fc P ops S Q n (aDh pre listed) a' w) pre a→Fc P ops S Q (pre.length+n) listed a w
 | [],listed,a,_,h=>by rw [List.length_nil,Nat.zero_add];exact h
 | i :: r,listed,a,hc,h=>by
  unfold LD at hc
  simp only [Bool.and_eq_true,Bool.not_eq_true'] at hc
  obtain ⟨⟨⟨h1,h2⟩,h3⟩,h4⟩:=hc
  obtain ⟨o,v,ho,hy,hk⟩:=h
  rw [List.length_cons,show r.length+1+n=(r.length+n)+1 by omega]
  exact FP ho (Region.noSelect_spec hs) (fun c a w hp=>absurd hp (hQ _ _ _)) listed _ listed a w ⟨rfl,fun k hk => .inl hk⟩ (fun k hk=>hk) (Region.free_spec ho h2) (by simpa using h1) hy hS (Pb hs hQ hS r _ _ h4 hk) h3
theorem Vn {P:Program} {id:Nat} {ops:Array Oper} {S:World→Prop} {Q:Exit→Act→World→Prop} {a:Act} {w:World} (hm:P.follows .mixedOrders=true) (hs:Region.noSelect ops=true) (hQ:∀ c a w,¬ Q (.panic c) a w) {ord:AN} (hw:(Ae ord && !EF ord)=true) (hc:Ag ops ord ops.size (Array.replicate ops.size false)=true)
  (hS:S w.drew) (h:Fm P ops S Q ord a w.drew):(Code.region id ops true).wp P Q a w:=by
 simp only [Bool.and_eq_true,Bool.not_eq_true'] at hw
 exact wp_region_any hm (GU _ _ _ _ ((DR hs hQ ord _ _ a w.drew hw.1 hc hS h).1 hw.2))
theorem Tr {P:Program} {id:Nat} {ops:Array Oper} {S:World→Prop} {Q:Exit→Act→World→Prop} {a:Act} {w:World} {pre:List Nat} (hm:P.follows .mixedOrders=true) (hs:Region.noSelect ops=true) (hQ:∀ c a w,¬ Q (.panic c) a w) {ord:AN} (hw:(Ae ord && !EF ord)=true) (hp:LD ops pre (Array.replicate ops.size false)=true) (hl:pre.length≤ops.size)
  (hc:Ag ops ord (ops.size-pre.length) (aDh pre (Array.replicate ops.size false))=true) (hS:S w.drew) (h:PJ P ops S (fun a'=>Fm P ops S Q ord a' w.drew) pre a):(Code.region id ops true).wp P Q a w:=by
 simp only [Bool.and_eq_true,Bool.not_eq_true'] at hw
 have hk:∀ (l:List Nat) (b:Act),PJ P ops S (fun a'=>Fm P ops S Q ord a' w.drew) l b→PJ P ops S (fun a'=>Fc P ops S Q (ops.size-pre.length) (aDh pre (Array.replicate ops.size false)) a' w.drew) l b:=by
  intro l
  induction l with
  | nil=>intro b hb;exact (DR hs hQ ord _ _ b w.drew hw.1 hc hS hb).1 hw.2
  | cons i r ih=>intro b ⟨o,v,h1,h2,h3⟩;exact ⟨o,v,h1,h2,ih _ h3⟩
 have:=Pb (n:=ops.size-pre.length) hs hQ hS pre (Array.replicate ops.size false) a hp (hk pre a h)
 rw [show pre.length+(ops.size-pre.length)=ops.size by omega] at this
 exact wp_region_any hm (GU _ _ _ _ this)
end Go.Proofs.YtaidalilfmjfgaaGreat
