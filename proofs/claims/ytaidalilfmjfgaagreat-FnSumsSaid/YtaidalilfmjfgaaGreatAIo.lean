import Derived.Test.YtaidalilfmjfgaaGreatAI13
import Derived.OrdersHeld
namespace Go.Proofs.YtaidalilfmjfgaaGreat
open Go.RowKit
set_option linter.unusedVariables false
set_option linter.unusedSimpArgs false
def Stay (w:World):World→Prop:=fun w'=>Below w.heap.size w w'
def lateAt (ops:Array Oper) (i:Nat):Bool:=match ops[i]? with | some o=>lateOp o | none=>false
def wpAnyB (P : Program) (ops : Array Oper) (S : World → Prop) (Q : Exit → Act → World → Prop) : Nat → Array Bool → Act → World → Prop
  | 0, listed, a, w => Region.ready .any ops listed = [] ∧ Q .normal a w
  | f + 1, listed, a, w => (Region.ready .any ops listed = [] → Q .normal a w) ∧
    ∀ i ∈ Region.ready .any ops listed, wpOp P ops Q i (fun a' w' => ((lateAt ops i = false → Below w.heap.size w w') ∧ S w') ∧ wpAnyB P ops S Q f (listed.setIfInBounds i true) a' w') a w
theorem wpAny_of_B {P:Program} {ops:Array Oper} {S:World→Prop} {Q:Exit→Act→World→Prop}:∀ (f:Nat) (listed:Array Bool) (a:Act) (w:World),wpAnyB P ops S Q f listed a w→wpAny P .any ops Q f listed a w
 | 0,_,_,_,h=>h
 | f+1,_,_,_,h=>⟨h.1,fun i hi=>wpOp_mono (fun a' w' h'=>wpAny_of_B f _ a' w' h'.2) (h.2 i hi)⟩
def waits (ops : Array Oper) (listed : Array Bool) (i : Nat) : Nat → Nat → Bool
  | 0, _ => false
  | n + 1, j => match ops[j]? with
    | some o => o.after.any fun e => Region.binds .any e && (e.on == i || (!listed.getD e.on true && waits ops listed i n e.on))
    | none => false
def ShutB (ops:Array Oper) (base listed:Array Bool):Prop:=base.size=listed.size∧∀ k,listed.getD k false=true→base.getD k false=true∨∀ o,ops[k]? = some o→∀ e ∈ o.after,Region.binds .any e=true→listed.getD e.on false=true
theorem waits_ok {ops : Array Oper} {base listed : Array Bool} {i : Nat} (hs : ShutB ops base listed) (hi : listed.getD i false = false) : ∀ (n j : Nat), waits ops base i n j = true → j ∉ Region.ready .any ops listed ∧ (base.getD j true = false → listed.getD j false = false)
  | 0, j, h => by cases h
  | n + 1, j, h => by
    unfold waits at h
    cases ho : ops[j]? with
    | none => rw [ho] at h; cases h
    | some o =>
      rw [ho] at h
      simp only at h
      obtain ⟨e, he, hb⟩ := Array.any_eq_true'.1 h
      simp only [Bool.and_eq_true, Bool.or_eq_true, beq_iff_eq, Bool.not_eq_true'] at hb
      have hon : listed.getD e.on false = false := by
        rcases hb.2 with h1 | ⟨h1, h2⟩
        · rw [h1]; exact hi
        · exact (waits_ok hs hi n e.on h2).2 h1
      refine ⟨fun hr => ?_, fun hbase => ?_⟩
      · obtain ⟨_, o', ho', hall⟩ := mem_ready.1 hr
        rw [ho] at ho'
        injection ho' with ho'
        subst ho'
        have := hall e he hb.1
        rw [hon] at this
        cases this
      · cases hl : listed.getD j false with
        | false => rfl
        | true =>
          rcases hs.2 j hl with h1 | h1
          · have h2 : base.getD j false = false := by
              rcases Nat.lt_or_ge j base.size with h' | h'
              · simp [h'] at hbase ⊢; exact hbase
              · simp [Array.getElem?_eq_none h']
            rw [h2] at h1; cases h1
          · have := h1 o ho e he hb.1
            rw [hon] at this; cases this
theorem ShutB.set {ops:Array Oper} {base listed:Array Bool} (hs:ShutB ops base listed) {j:Nat} (hj:j ∈ Region.ready .any ops listed):ShutB ops base (listed.setIfInBounds j true):=by
 obtain ⟨hju,oj,hoj,hall⟩:=mem_ready.1 hj
 refine ⟨by simp [hs.1],fun k hk => ?_⟩
 by_cases hkj:j=k
 ·subst hkj
  right
  intro o ho e he hb
  rw [hoj] at ho
  injection ho with ho
  subst ho
  exact getD_set_true (hall e he hb)
 ·rw [getD_set_ne false hkj] at hk
  rcases hs.2 k hk with h1 | h1
  ·exact .inl h1
  ·exact .inr fun o ho e he hb=>getD_set_true (h1 o ho e he hb)
theorem wpAnyB_first {P : Program} {ops : Array Oper} {S : World → Prop} {Q : Exit → Act → World → Prop} {i : Nat} {oi : Oper} {v : Value} (hi : ops[i]? = some oi) (hsel : ∀ (j : Nat) (o : Oper) cs b, ops[j]? = some o → o.op ≠ .select cs b)
    (hQ : ∀ c a w, Q (.panic c) (a.put oi.dst v) w → Q (.panic c) a w) (base : Array Bool) (hlate : ∀ j, base.getD j true = false → lateAt ops j = true → j ≠ i → waits ops base i ops.size j = true) :
    ∀ (fuel : Nat) (listed : Array Bool) (a : Act) (w : World), ShutB ops base listed → (∀ k, base.getD k false = true → listed.getD k false = true) →
      (∀ j oj, ops[j]? = some oj → j ≠ i → listed.getD j true = false → (∀ e ∈ oj.after, Region.binds .any e = true → e.on ≠ i) → oi.apart ops oj = true) →
      i ∈ Region.ready .any ops listed → YieldsIf P ops (Stay w) oi v a → S w →
      wpAnyB P ops S Q fuel (listed.setIfInBounds i true) (a.put oi.dst v) w → lateAt ops i = false → wpAnyB P ops S Q (fuel + 1) listed a w := by
  intro fuel
  induction fuel with
  | zero =>
    intro listed a w hs hsub _ hr hy hS H hli
    refine ⟨fun h => (by rw [h] at hr; cases hr), fun j hj => ?_⟩
    by_cases hji : j = i
    · subst hji; exact hy.wpOp hi (Below.refl _ _) ⟨⟨fun _ => Below.refl _ _, hS⟩, H⟩
    · have := ready_mono hj hji
      rw [H.1] at this
      cases this
  | succ fuel ih =>
    intro listed a w hs hsub hfree hr hy hS H hli
    refine ⟨fun h => (by rw [h] at hr; cases hr), fun j hj => ?_⟩
    by_cases hji : j = i
    · subst hji; exact hy.wpOp hi (Below.refl _ _) ⟨⟨fun _ => Below.refl _ _, hS⟩, H⟩
    · have h1 := H.2 j (ready_mono hj hji)
      obtain ⟨hjun, oj, hoj, hall⟩ := mem_ready.1 hj
      have hiun : listed.getD i false = false := by
        have h0 := (mem_ready.1 hr).1
        rcases Nat.lt_or_ge i listed.size with h' | h'
        · simp [h'] at h0 ⊢; exact h0
        · simp [Array.getElem?_eq_none h']
      have hnot : ∀ e ∈ oj.after, Region.binds .any e = true → e.on ≠ i := fun e he hb heq => by
        have h1 := hall e he hb
        rw [heq, hiun] at h1; cases h1
      have hbj : base.getD j true = false := by
        cases hbb : base.getD j true with
        | false => rfl
        | true =>
          exfalso
          rcases Nat.lt_or_ge j base.size with h' | h'
          · have h2 : base.getD j false = true := by simp [h'] at hbb ⊢; exact hbb
            have h3 := hsub j h2
            have h4 : j < listed.size := by rw [← hs.1]; exact h'
            simp [h4] at hjun h3
            rw [hjun] at h3; cases h3
          · have h4 : listed.size ≤ j := by rw [← hs.1]; exact h'
            simp [Array.getElem?_eq_none h4] at hjun
      have hlj : lateAt ops j = false := by
        cases hl : lateAt ops j with
        | false => rfl
        | true => exact absurd hj (waits_ok hs hiun ops.size j (hlate j hbj hl hji)).1
      have h2 := wpOp_putIf hoj (hfree j oj hoj hji hjun hnot) (fun cs b => hsel i oi cs b hi) (fun cs b => hsel j oj cs b hoj) hQ hy h1
      have hfree' : ∀ k ok, ops[k]? = some ok → k ≠ i → (listed.setIfInBounds j true).getD k true = false →
          (∀ e ∈ ok.after, Region.binds .any e = true → e.on ≠ i) → oi.apart ops ok = true := fun k ok hk hki hun hno => by
        refine hfree k ok hk hki ?_ hno
        by_cases hjk : j = k
        · subst hjk; exact hjun
        · rw [getD_set_ne true hjk] at hun; exact hun
      refine wpOp_mono (fun a' w' h3 => ⟨⟨fun _ => h3.2.1.1 hlj, h3.2.1.2⟩, ?_⟩) h2
      have hb := h3.2.1.1 hlj
      have hy' : YieldsIf P ops (Stay w') oi v a' := by
        rcases h3.1 with ⟨hw, hv⟩ | ⟨hw, hv⟩
        · exact .inl ⟨hw, fun w2 hb2 => hv w2 (hb.trans (hb2.mono hb.size))⟩
        · exact .inr ⟨hw, hv⟩
      refine ih (listed.setIfInBounds j true) a' w' (hs.set hj) (fun k hk => getD_set_true (hsub k hk)) hfree' (ready_mono hr (Ne.symm hji)) hy' h3.2.1.2 ?_ hli
      rw [Array.setIfInBounds_comm _ _ hji]
      exact h3.2.2
def pureO (o:Oper):Bool:=match o.op with | .move _=>true | .nilCheck _=>true | .fieldAddr _ _ _=>true | _=>false
def pureAt (ops:Array Oper) (i:Nat):Bool:=match ops[i]? with | some o=>pureO o | none=>false
def StayO (o:Oper) (w:World):World→Prop:=fun w'=>pureO o=true∨Below w.heap.size w w'
theorem yields_pure {P:Program} {ops:Array Oper} {o:Oper} {v:Value} {a:Act} {w:World} {i:Nat} (hi:ops[i]? = some o) (hp:pureAt ops i=true) (h:YieldsIf P ops (StayO o w) o v a):YieldsIf P ops (fun _=>True) o v a:=by
 unfold pureAt at hp
 rw [hi] at hp
 exact h.imp (fun ⟨hw,hv⟩=>⟨hw,fun w2 _=>hv w2 (.inl hp)⟩) id
theorem yields_stay {P:Program} {ops:Array Oper} {o:Oper} {v:Value} {a:Act} {w:World} (h:YieldsIf P ops (StayO o w) o v a):YieldsIf P ops (Stay w) o v a :=
 h.imp (fun ⟨hw,hv⟩=>⟨hw,fun w2 h2=>hv w2 (.inr h2)⟩) id
theorem wpAnyB_firstP {P : Program} {ops : Array Oper} {S : World → Prop} {Q : Exit → Act → World → Prop} {i : Nat} {oi : Oper} {v : Value} (hi : ops[i]? = some oi) (hsel : ∀ (j : Nat) (o : Oper) cs b, ops[j]? = some o → o.op ≠ .select cs b)
    (hQ : ∀ c a w, Q (.panic c) (a.put oi.dst v) w → Q (.panic c) a w) (base : Array Bool) :
    ∀ (fuel : Nat) (listed : Array Bool) (a : Act) (w : World), ShutB ops base listed → (∀ k, base.getD k false = true → listed.getD k false = true) →
      (∀ j oj, ops[j]? = some oj → j ≠ i → listed.getD j true = false → (∀ e ∈ oj.after, Region.binds .any e = true → e.on ≠ i) → oi.apart ops oj = true) →
      i ∈ Region.ready .any ops listed → YieldsIf P ops S oi v a → S w →
      wpAnyB P ops S Q fuel (listed.setIfInBounds i true) (a.put oi.dst v) w → lateAt ops i = false → wpAnyB P ops S Q (fuel + 1) listed a w := by
  intro fuel
  induction fuel with
  | zero =>
    intro listed a w hs hsub _ hr hy hS H hli
    refine ⟨fun h => (by rw [h] at hr; cases hr), fun j hj => ?_⟩
    by_cases hji : j = i
    · subst hji; exact hy.wpOp hi hS ⟨⟨fun _ => Below.refl _ _, hS⟩, H⟩
    · have := ready_mono hj hji
      rw [H.1] at this
      cases this
  | succ fuel ih =>
    intro listed a w hs hsub hfree hr hy hS H hli
    refine ⟨fun h => (by rw [h] at hr; cases hr), fun j hj => ?_⟩
    by_cases hji : j = i
    · subst hji; exact hy.wpOp hi hS ⟨⟨fun _ => Below.refl _ _, hS⟩, H⟩
    · have h1 := H.2 j (ready_mono hj hji)
      obtain ⟨hjun, oj, hoj, hall⟩ := mem_ready.1 hj
      have hiun : listed.getD i false = false := by
        have h0 := (mem_ready.1 hr).1
        rcases Nat.lt_or_ge i listed.size with h' | h'
        · simp [h'] at h0 ⊢; exact h0
        · simp [Array.getElem?_eq_none h']
      have hnot : ∀ e ∈ oj.after, Region.binds .any e = true → e.on ≠ i := fun e he hb heq => by
        have h1 := hall e he hb
        rw [heq, hiun] at h1; cases h1
      have hbj : base.getD j true = false := by
        cases hbb : base.getD j true with
        | false => rfl
        | true =>
          exfalso
          rcases Nat.lt_or_ge j base.size with h' | h'
          · have h2 : base.getD j false = true := by simp [h'] at hbb ⊢; exact hbb
            have h3 := hsub j h2
            have h4 : j < listed.size := by rw [← hs.1]; exact h'
            simp [h4] at hjun h3
            rw [hjun] at h3; cases h3
          · have h4 : listed.size ≤ j := by rw [← hs.1]; exact h'
            simp [Array.getElem?_eq_none h4] at hjun
      have h2 := wpOp_putIf hoj (hfree j oj hoj hji hjun hnot) (fun cs b => hsel i oi cs b hi) (fun cs b => hsel j oj cs b hoj) hQ hy h1
      have hfree' : ∀ k ok, ops[k]? = some ok → k ≠ i → (listed.setIfInBounds j true).getD k true = false →
          (∀ e ∈ ok.after, Region.binds .any e = true → e.on ≠ i) → oi.apart ops ok = true := fun k ok hk hki hun hno => by
        refine hfree k ok hk hki ?_ hno
        by_cases hjk : j = k
        · subst hjk; exact hjun
        · rw [getD_set_ne true hjk] at hun; exact hun
      refine wpOp_mono (fun a' w' h3 => ⟨h3.2.1, ?_⟩) h2
      have hy' : YieldsIf P ops S oi v a' := h3.1
      refine ih (listed.setIfInBounds j true) a' w' (hs.set hj) (fun k hk => getD_set_true (hsub k hk)) hfree' (ready_mono hr (Ne.symm hji)) hy' h3.2.1.2 ?_ hli
      rw [Array.setIfInBounds_comm _ _ hji]
      exact h3.2.2
inductive OrdT where
 | nil
 | cons (i:Nat) (take:Bool) (r:OrdT)
 | fork (l:OrdT)
 | alt (i:Nat) (r l:OrdT)
 | last
def altsOf:OrdT→List Nat
 | .alt i _ l=>i :: altsOf l
 | _=>[]
def chkOrd (ops : Array Oper) : OrdT → Nat → Array Bool → Bool
  | .nil, _, listed => (Region.ready .any ops listed).isEmpty
  | .cons i true r, n, listed => match n with
    | 0 => false
    | n + 1 => (Region.ready .any ops listed).contains i && Region.free .any ops listed i && !lateAt ops i &&
      (pureAt ops i || (List.range ops.size).all fun j => listed.getD j true || !lateAt ops j || j == i || waits ops listed i ops.size j) && chkOrd ops r n (listed.setIfInBounds i true)
  | .cons i false r, n, listed => match n with
    | 0 => false
    | n + 1 => (Region.ready .any ops listed == [i]) && chkOrd ops r n (listed.setIfInBounds i true)
  | .fork l, n, listed => match n with
    | 0 => false
    | n + 1 => !(Region.ready .any ops listed).isEmpty && ((Region.ready .any ops listed).all fun i => (altsOf l).contains i) && chkOrd ops l n listed
  | .alt i r l, n, listed => chkOrd ops r n (listed.setIfInBounds i true) && chkOrd ops l n listed
  | .last, _, _ => true
def isAlt:OrdT→Bool
 | .alt _ _ _=>true
 | .last=>true
 | _=>false
def wpOrd (P:Program) (ops:Array Oper) (S:World→Prop) (Q:Exit→Act→World→Prop):OrdT→Act→World→Prop
 | .nil,a,w=>Q .normal a w
 | .cons i true r,a,w=>∃ o v,ops[i]? = some o∧YieldsIf P ops (StayO o w) o v a∧wpOrd P ops S Q r (a.put o.dst v) w
 | .cons i false r,a,w=>wpOp P ops Q i (fun a' w'=>((lateAt ops i=false→Below w.heap.size w w')∧S w')∧wpOrd P ops S Q r a' w') a w
 | .fork l,a,w=>wpOrd P ops S Q l a w
 | .alt i r l,a,w=>wpOp P ops Q i (fun a' w'=>((lateAt ops i=false→Below w.heap.size w w')∧S w')∧wpOrd P ops S Q r a' w') a w∧wpOrd P ops S Q l a w
 | .last,a,w=>True
def wellOrd:OrdT→Bool
 | .nil=>true
 | .cons _ _ r=>wellOrd r && !isAlt r
 | .fork l=>wellOrd l && isAlt l
 | .alt _ r l=>wellOrd r && !isAlt r && wellOrd l && isAlt l
 | .last=>true
theorem wpOrd_ok {P : Program} {ops : Array Oper} {S : World → Prop} {Q : Exit → Act → World → Prop} (hs : Region.noSelect ops = true) (hQ : ∀ c a w, ¬ Q (.panic c) a w) : ∀ (ord : OrdT) (n : Nat) (listed : Array Bool) (a : Act) (w : World),
    wellOrd ord = true → chkOrd ops ord n listed = true → S w → wpOrd P ops S Q ord a w → (isAlt ord = false → wpAnyB P ops S Q n listed a w) ∧ (isAlt ord = true → ∀ i ∈ altsOf ord, wpOp P ops Q i (fun a' w' => ((lateAt ops i = false → Below w.heap.size w w') ∧ S w') ∧ wpAnyB P ops S Q n (listed.setIfInBounds i true) a' w') a w)
  | .nil, n, listed, a, w, hw, hc, hS, h => by
    refine ⟨fun _ => ?_, fun e => by cases e⟩
    have hr : Region.ready .any ops listed = [] := by
      unfold chkOrd at hc
      simpa using hc
    cases n with
    | zero => exact ⟨hr, h⟩
    | succ n => exact ⟨fun _ => h, by rw [hr]; simp⟩
  | .cons i b r, 0, listed, a, w, hw, hc, hS, h => by cases b <;> (unfold chkOrd at hc; cases hc)
  | .cons i true r, n + 1, listed, a, w, hw, hc, hS, h => by
    refine ⟨fun _ => ?_, fun e => by cases e⟩
    unfold wellOrd at hw
    simp only [Bool.and_eq_true, Bool.not_eq_true'] at hw
    unfold chkOrd at hc
    simp only [Bool.and_eq_true, Bool.not_eq_true'] at hc
    obtain ⟨⟨⟨⟨h1, h2⟩, h3⟩, h4⟩, h5⟩ := hc
    obtain ⟨o, v, ho, hy, hk⟩ := h
    cases hp : pureAt ops i with
    | true => exact wpAnyB_firstP ho (Region.noSelect_spec hs) (fun c a w hp => absurd hp (hQ _ _ _)) listed n listed a w ⟨rfl, fun k hk => .inl hk⟩ (fun k hk => hk) (Region.free_spec ho h2) (by simpa using h1) ((yields_pure ho hp hy).imp (fun h => ⟨h.1, fun w2 _ => h.2 w2 trivial⟩) id) hS ((wpOrd_ok hs hQ r n _ _ w hw.1 h5 hS hk).1 hw.2) h3
    | false =>
    rw [hp, Bool.false_or] at h4
    refine wpAnyB_first ho (Region.noSelect_spec hs) (fun c a w hp => absurd hp (hQ _ _ _)) listed (fun j hj hl hne => ?_) n listed a w ⟨rfl, fun k hk => .inl hk⟩ (fun k hk => hk) (Region.free_spec ho h2) (by simpa using h1) (yields_stay hy) hS ((wpOrd_ok hs hQ r n _ _ w hw.1 h5 hS hk).1 hw.2) h3
    have hlt : j < ops.size := by
      unfold lateAt at hl
      cases hoj : ops[j]? with
      | none => rw [hoj] at hl; cases hl
      | some oj => exact (Array.getElem?_eq_some_iff.1 hoj).1
    have := List.all_eq_true.1 h4 j (List.mem_range.2 hlt)
    simp only [hj, hl, Bool.not_true, Bool.false_or, Bool.or_eq_true, beq_iff_eq] at this
    exact this.resolve_left hne
  | .cons i false r, n + 1, listed, a, w, hw, hc, hS, h => by
    refine ⟨fun _ => ?_, fun e => by cases e⟩
    unfold wellOrd at hw
    simp only [Bool.and_eq_true, Bool.not_eq_true'] at hw
    unfold chkOrd at hc
    simp only [Bool.and_eq_true, beq_iff_eq] at hc
    refine ⟨fun h0 => (by rw [hc.1] at h0; cases h0), fun j hj => ?_⟩
    rw [hc.1] at hj
    simp only [List.mem_singleton] at hj
    subst hj
    exact wpOp_mono (fun a' w' h' => ⟨h'.1, (wpOrd_ok hs hQ r n _ a' w' hw.1 hc.2 h'.1.2 h'.2).1 hw.2⟩) h
  | .fork l, 0, listed, a, w, hw, hc, hS, h => by unfold chkOrd at hc; cases hc
  | .fork l, n + 1, listed, a, w, hw, hc, hS, h => by
    refine ⟨fun _ => ?_, fun e => by cases e⟩
    unfold wellOrd at hw
    simp only [Bool.and_eq_true] at hw
    unfold chkOrd at hc
    simp only [Bool.and_eq_true, Bool.not_eq_true'] at hc
    refine ⟨fun h0 => (by rw [h0] at hc; simp at hc), fun j hj => ?_⟩
    have hm := List.all_eq_true.1 hc.1.2 j hj
    exact (wpOrd_ok hs hQ l n listed a w hw.1 hc.2 hS h).2 hw.2 j (by simpa using hm)
  | .alt i r l, n, listed, a, w, hw, hc, hS, h => by
    refine ⟨fun e => (by cases e), fun _ j hj => ?_⟩
    unfold wellOrd at hw
    simp only [Bool.and_eq_true, Bool.not_eq_true'] at hw
    obtain ⟨⟨⟨w1, w2⟩, w3⟩, w4⟩ := hw
    unfold chkOrd at hc
    simp only [Bool.and_eq_true] at hc
    unfold altsOf at hj
    rcases List.mem_cons.1 hj with e | hj
    · subst e
      exact wpOp_mono (fun a' w' h' => ⟨h'.1, (wpOrd_ok hs hQ r n _ a' w' w1 hc.1 h'.1.2 h'.2).1 w2⟩) h.1
    · exact (wpOrd_ok hs hQ l n listed a w w3 hc.2 hS h.2).2 w4 j hj
  | .last, n, listed, a, w, hw, hc, hS, h => ⟨fun e => (by cases e), fun _ j hj => (by cases hj)⟩
theorem wp_drawn {P:Program} {id:Nat} {ops:Array Oper} {S:World→Prop} {Q:Exit→Act→World→Prop} {a:Act} {w:World} (hm:P.follows .mixedOrders=true) (hs:Region.noSelect ops=true) (hQ:∀ c a w,¬ Q (.panic c) a w) {ord:OrdT} (hw:(wellOrd ord && !isAlt ord)=true) (hc:chkOrd ops ord ops.size (Array.replicate ops.size false)=true)
  (hS:S w.drew) (h:wpOrd P ops S Q ord a w.drew):(Code.region id ops true).wp P Q a w:=by
 simp only [Bool.and_eq_true,Bool.not_eq_true'] at hw
 exact wp_region_any hm (wpAny_of_B _ _ _ _ ((wpOrd_ok hs hQ ord _ _ a w.drew hw.1 hc hS h).1 hw.2))
end Go.Proofs.YtaidalilfmjfgaaGreat
