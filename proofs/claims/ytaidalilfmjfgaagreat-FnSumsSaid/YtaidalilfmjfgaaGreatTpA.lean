import Derived.Test.YtaidalilfmjfgaaGreatTmB
import Derived.Test.YtaidalilfmjfgaaGreatSafe
namespace Go.Proofs.YtaidalilfmjfgaaGreat
open Go.RowKit
set_option linter.unusedVariables false
set_option linter.unusedSimpArgs false
def z0:Ty:=.mk 0 []
def tI:Ty:=.mk 1 []
def tB:Ty:=.mk 2 []
def vd (t:Ty):Ty:=if vTy t=true then t else z0
def oEq:ByteArray:=⟨#[61]⟩
def oLt:ByteArray:=⟨#[60]⟩
def oAnd:ByteArray:=⟨#[38]⟩
def oOr:ByteArray:=⟨#[124]⟩
def oNot:ByteArray:=⟨#[33]⟩
def oAdd:ByteArray:=⟨#[43]⟩
def oSub:ByteArray:=⟨#[45]⟩
def oMul:ByteArray:=⟨#[42]⟩
def inT (s:ByteArray):Ty:=if s=oEq∨s=oLt then tI else if s=oAnd∨s=oOr∨s=oNot then tB else tI
def outT (s:ByteArray):Ty:=if s=oEq∨s=oLt then tB else if s=oAnd∨s=oOr∨s=oNot then tB else tI
def opI (s:ByteArray) (l:List Ty):Ty:=if l.all (fun t=>eqTy t (inT s))=true then outT s else z0
def wantK (s:ByteArray):Int:=if s=oAnd∨s=oOr∨s=oNot then 2 else 1
def opS (s:ByteArray) (l:List Ty):Ty × Bool:=if l.all (fun t=>decide (t.kind=wantK s))=true then (if s=oAdd∨s=oSub∨s=oMul then tI else tB,true) else (z0,false)
def codeF (t:Ty):Ty:=if t.kind=4 then t.args[0]! else z0
abbrev TF:=List Tg→Int→Ty
abbrev SF:=List Tg→Int→Ty × Bool
instance : Inhabited TF := ⟨fun _ _ => z0⟩
instance : Inhabited SF := ⟨fun _ _ => (z0, false)⟩
def vrF (s:ByteArray) (ctx:List Tg) (n:Int):Ty:=if 0≤lastTg ctx s ctx.length then (if (ctx[(lastTg ctx s ctx.length).toNat]!).level=n then (ctx[(lastTg ctx s ctx.length).toNat]!).ty else z0) else z0
def fmF (k:Int) (nm ot:ByteArray) (ty rs:Ty) (fs:List TF) (ctx:List Tg) (n:Int):Ty :=
 if k=1 then vrF nm ctx n
 else if k=2 then tI
 else if k=3 then tB
 else if k=4 then opI nm (fs.map fun f=>f ctx n)
 else if k=5 then (if eqTy ((fs[0]!) ctx n) tB=true then (if eqTy ((fs[1]!) ctx n) ((fs[2]!) ctx n)=true then (fs[1]!) ctx n else z0) else z0)
 else if k=7 then (if ((fs[0]!) ctx n).kind=3 then (if eqTy ((fs[0]!) ctx n).args[0]! ((fs[1]!) ctx n)=true then ((fs[0]!) ctx n).args[1]! else z0) else z0)
 else if k=6 then (if ((fs[0]!) (ctx++[⟨nm,ty,n⟩]) n).kind=0 then z0 else .mk 3 [ty,(fs[0]!) (ctx++[⟨nm,ty,n⟩]) n])
 else if k=8 then (if ((fs[0]!) ctx n).kind=0 then z0 else (fs[1]!) (ctx++[⟨nm,(fs[0]!) ctx n,n⟩]) n)
 else if k=9 then (if eqTy ((fs[0]!) (ctx++[⟨nm,.mk 3 [ty,rs],n⟩,⟨ot,ty,n⟩]) n) rs=true then .mk 3 [ty,rs] else z0)
 else if k=10 then (if ((fs[0]!) ctx (n+1)).kind=0 then z0 else .mk 4 [(fs[0]!) ctx (n+1)])
 else if k=11 then codeF ((fs[0]!) ctx (n-1))
 else if k=12 then codeF ((fs[0]!) (safeTg ctx n ctx.length) n)
 else if k=13 then (if isBaseT ((fs[0]!) ctx n)=true then .mk 4 [(fs[0]!) ctx n] else z0)
 else z0
mutual
def tyT:Tm→TF
 | .mk k nm ot _ ty rs args=>fun ctx n=>vd (fmF k nm ot ty rs (tyTs args) ctx n)
def tyTs:List Tm→List TF
 | []=>[]
 | a :: l=>tyT a :: tyTs l
end
theorem tyTs_map:∀ l,tyTs l=l.map tyT
 | []=>rfl
 | a :: l=>by rw [tyTs,tyTs_map l];rfl
theorem tyT_eq (e:Tm) (ctx:List Tg) (n:Int):tyT e ctx n=vd (fmF e.kind e.name e.other e.ty e.res (e.args.map tyT) ctx n):=by
 obtain ⟨k,nm,ot,m,ty,rs,args⟩:=e
 rw [tyT,tyTs_map];rfl
def no2:Ty × Bool:=(z0,false)
def smF (k : Int) (nm ot : ByteArray) (ty rs : Ty) (fs : List SF) (ctx : List Tg) (n : Int) : Ty × Bool :=
  if k = 1 then (if lastTg ctx nm ctx.length < 0 then no2 else if (ctx[(lastTg ctx nm ctx.length).toNat]!).level = n then ((ctx[(lastTg ctx nm ctx.length).toNat]!).ty, true) else no2)
  else if k = 2 then (tI, true)
  else if k = 3 then (tB, true)
  else if k = 6 then (.mk 3 [ty, ((fs[0]!) (ctx ++ [⟨nm, ty, n⟩]) n).1], ((fs[0]!) (ctx ++ [⟨nm, ty, n⟩]) n).2)
  else if k = 8 then (if ((fs[0]!) ctx n).2 = true then (fs[1]!) (ctx ++ [⟨nm, ((fs[0]!) ctx n).1, n⟩]) n else no2)
  else if k = 9 then (.mk 3 [ty, rs], ((fs[0]!) (ctx ++ [⟨nm, .mk 3 [ty, rs], n⟩, ⟨ot, ty, n⟩]) n).2 && eqTy ((fs[0]!) (ctx ++ [⟨nm, .mk 3 [ty, rs], n⟩, ⟨ot, ty, n⟩]) n).1 rs)
  else if k = 10 then (if ((fs[0]!) ctx (n + 1)).2 = true then (.mk 4 [((fs[0]!) ctx (n + 1)).1], true) else no2)
  else if k = 11 then (if ((fs[0]!) ctx (n - 1)).2 = true then (if ((fs[0]!) ctx (n - 1)).1.kind = 4 then (((fs[0]!) ctx (n - 1)).1.args[0]!, true) else no2) else no2)
  else if k = 12 then (if ((fs[0]!) (safeTg ctx n ctx.length) n).2 = true then (if ((fs[0]!) (safeTg ctx n ctx.length) n).1.kind = 4 then (((fs[0]!) (safeTg ctx n ctx.length) n).1.args[0]!, true) else no2) else no2)
  else if k = 13 then (if ((fs[0]!) ctx n).2 = true then (.mk 4 [((fs[0]!) ctx n).1], isBaseT ((fs[0]!) ctx n).1) else no2)
  else if (fs.map fun f => (f ctx n).2).all id = true then
    (if k = 4 then opS nm (fs.map fun f => (f ctx n).1)
     else if k = 5 then (((fs[1]!) ctx n).1, decide (((fs[0]!) ctx n).1.kind = 2) && eqTy ((fs[1]!) ctx n).1 ((fs[2]!) ctx n).1)
     else if ((fs[0]!) ctx n).1.kind = 3 then (if eqTy ((fs[0]!) ctx n).1.args[0]! ((fs[1]!) ctx n).1 = true then (((fs[0]!) ctx n).1.args[1]!, true) else no2) else no2)
  else no2
def vd2 (r:Ty × Bool):Ty × Bool:=if r.2=true then (if vTy r.1=true then (r.1,true) else no2) else no2
mutual
def tyS:Tm→SF
 | .mk k nm ot _ ty rs args=>fun ctx n=>vd2 (smF k nm ot ty rs (tySs args) ctx n)
def tySs:List Tm→List SF
 | []=>[]
 | a :: l=>tyS a :: tySs l
end
theorem tySs_map:∀ l,tySs l=l.map tyS
 | []=>rfl
 | a :: l=>by rw [tySs,tySs_map l];rfl
theorem tyS_eq (e:Tm) (ctx:List Tg) (n:Int):tyS e ctx n=vd2 (smF e.kind e.name e.other e.ty e.res (e.args.map tyS) ctx n):=by
 obtain ⟨k,nm,ot,m,ty,rs,args⟩:=e
 rw [tyS,tySs_map];rfl
mutual
theorem eqTy_ok : ∀ t u : Ty, eqTy t u = true → t = u
  | .mk k xs, .mk j ys, h => by
    rw [eqTy] at h
    simp only [Bool.and_eq_true, decide_eq_true_eq] at h
    rw [h.1, eqTys_ok xs ys h.2]
theorem eqTys_ok : ∀ xs ys : List Ty, eqTys xs ys = true → xs = ys
  | [], [], _ => rfl
  | [], _ :: _, h => by simp [eqTys] at h
  | _ :: _, [], h => by simp [eqTys] at h
  | x :: xs, y :: ys, h => by
    rw [eqTys] at h
    simp only [Bool.and_eq_true] at h
    rw [eqTy_ok x y h.1, eqTys_ok xs ys h.2]
end
theorem eqTy_iff (t u:Ty):eqTy t u=true ↔ t=u:=⟨eqTy_ok t u,fun h=>h ▸ eqTy_refl t⟩
instance : DecidableEq Ty := fun t u => decidable_of_iff (eqTy t u = true) (eqTy_iff t u)
theorem v_form {t:Ty} (h:vTy t=true):formT t=true:=by
 unfold vTy at h;simp only [Bool.and_eq_true] at h;exact h.2.2
theorem f_kind {t : Ty} (h : formT t = true) : (t.kind = 1 ∧ t.args = []) ∨ (t.kind = 2 ∧ t.args = []) ∨ (t.kind = 3 ∧ ∃ a b, t.args = [a, b] ∧ formT a = true ∧ formT b = true) ∨ (t.kind = 4 ∧ ∃ a, t.args = [a] ∧ formT a = true) := by
  obtain ⟨k, xs⟩ := t
  rw [formT] at h
  simp only [Bool.and_eq_true] at h
  obtain ⟨h1, h2⟩ := h
  show (k = 1 ∧ xs = []) ∨ (k = 2 ∧ xs = []) ∨ (k = 3 ∧ ∃ a b, xs = [a, b] ∧ _) ∨ (k = 4 ∧ ∃ a, xs = [a] ∧ _)
  unfold shB at h2
  split at h2
  · rename_i hk
    have : xs = [] := List.eq_nil_of_length_eq_zero (by simpa using h2)
    rcases hk with hk | hk
    · exact .inl ⟨hk, this⟩
    · exact .inr (.inl ⟨hk, this⟩)
  · split at h2
    · rename_i hk
      have hl : xs.length = 2 := by have := of_decide_eq_true h2; omega
      match xs, hl with
      | [a, b], _ =>
        simp only [formTs, Bool.and_eq_true] at h1
        exact .inr (.inr (.inl ⟨hk, a, b, rfl, h1.1, h1.2.1⟩))
    · split at h2
      · rename_i hk
        have hl : xs.length = 1 := by have := of_decide_eq_true h2; omega
        match xs, hl with
        | [a], _ =>
          simp only [formTs, Bool.and_eq_true] at h1
          exact .inr (.inr (.inr ⟨hk, a, rfl, h1.1⟩))
      · cases h2
theorem f_ne {t:Ty} (h:formT t=true):t.kind≠0:=by
 rcases f_kind h with h | h | h | h <;> omega
theorem f_z0:formT z0=false:=by simp [z0,formT,formTs,shB]
theorem v_z0:vTy z0=false:=by unfold vTy;rw [f_z0,Bool.and_false,Bool.and_false]
theorem ty_ext {t:Ty} {k:Int} {xs:List Ty} (h:t.kind=k) (hx:t.args=xs):t = .mk k xs:=by obtain ⟨k',xs'⟩:=t;subst h;subst hx;rfl
theorem v_tI:vTy tI=true:=by decide
theorem v_tB:vTy tB=true:=by decide
theorem vd_z0:vd z0=z0:=by unfold vd;rw [v_z0];rfl
theorem vd_cases (t:Ty):vd t=z0∨(vTy (vd t)=true∧vd t=t):=by
 unfold vd
 split
 ·rename_i h;exact .inr ⟨h,rfl⟩
 ·exact .inl rfl
theorem tyT_cases (e:Tm) (ctx:List Tg) (n:Int):tyT e ctx n=z0∨vTy (tyT e ctx n)=true:=by
 rw [tyT_eq];exact (vd_cases _).imp id fun h=>h.1
def rr (t:Ty):Ty × Bool:=(t,decide (t.kind≠0))
theorem rr_z0:rr z0=no2:=rfl
theorem rr_v {t:Ty} (h:vTy t=true):rr t=(t,true):=by unfold rr;rw [decide_eq_true (f_ne (v_form h))]
theorem vd2_no:vd2 no2=rr (vd z0):=by rw [vd_z0];rfl
theorem vd2_t (t:Ty):vd2 (t,true)=rr (vd t):=by
 unfold vd2 vd
 simp only [if_true]
 split
 ·rename_i h;exact (rr_v h).symm
 ·rfl
theorem vd2_rr {t:Ty} (h:t=z0∨vTy t=true):vd2 (rr t)=rr (vd t):=by
 rcases h with rfl | h
 ·rw [rr_z0,vd2_no]
 ·rw [rr_v h,vd2_t]
theorem fm_facts {e:Tm} (h:isFm e=true):(e.args.length:Int)=arF 0 e.kind e.name∧(e.kind=4→0<opAr e.name)∧(e.kind=9→vTy e.res=true)∧(e.kind=9→vTy e.ty=true)∧(e.kind=6→vTy e.ty=true)∧1≤e.kind∧e.kind≤13:=by
 rw [isFm_eq] at h
 simp only [Bool.and_eq_true,decide_eq_true_eq] at h
 obtain ⟨ha,hn,_⟩:=h
 refine ⟨ha, ?_⟩
 unfold isNm at hn
 rcases k_cases e.kind with h | h | h | h | h | h | h | h | h | h | h | h | h | ⟨g1,g2,g3,g4,g5,g6,g7,g8,g9,g10,g11,g12,g13⟩
 case inr.inr.inr.inr.inr.inr.inr.inr.inr.inr.inr.inr.inr =>
  simp only [g1,g2,g3,g4,g5,g6,g7,g8,g9,g10,g11,g12,g13,if_false] at hn
  rw [rg_out _ g1 g2 g3 g4 g5 g6 g7 g8 g9 g10 g11 g12 g13] at hn
  cases hn
 case inr.inr.inr.inl =>
  simp only [h,if_true,if_false,Int.reduceEq] at hn ⊢
  simp only [decide_eq_true_eq] at hn
  exact ⟨fun _=>hn,fun h=>by simp at h,fun h=>by simp at h,fun h=>by simp at h,by omega,by omega⟩
 case inr.inr.inr.inr.inr.inl =>
  simp only [h,if_true,if_false,Int.reduceEq] at hn ⊢
  simp only [Bool.and_eq_true] at hn
  exact ⟨fun h=>by simp at h,fun h=>by simp at h,fun h=>by simp at h,fun _=>hn.2,by omega,by omega⟩
 case inr.inr.inr.inr.inr.inr.inr.inr.inl =>
  simp only [h,if_true,if_false,Int.reduceEq] at hn ⊢
  simp only [Bool.and_eq_true] at hn
  exact ⟨fun h=>by simp at h,fun _=>hn.2.2.2.2,fun _=>hn.2.2.2.1,fun h=>by simp at h,by omega,by omega⟩
 all_goals exact ⟨fun h'=>by omega,fun h'=>by omega,fun h'=>by omega,fun h'=>by omega,by omega,by omega⟩
def Zv (t:Ty):Prop:=t=z0∨vTy t=true
theorem zv_I {t:Ty} (h:Zv t):eqTy t tI=decide (t.kind=1):=by
 rcases h with rfl | h
 ·rfl
 ·by_cases hk:t.kind=1
  ·rcases f_kind (v_form h) with ⟨_,h2⟩ | ⟨h1,_⟩ | ⟨h1,_⟩ | ⟨h1,_⟩
   ·rw [ty_ext hk h2];rfl
   all_goals omega
  ·rw [decide_eq_false hk]
   cases he:eqTy t tI with
   | false=>rfl
   | true=>exact absurd (by rw [eqTy_ok _ _ he];rfl) hk
theorem zv_B {t:Ty} (h:Zv t):eqTy t tB=decide (t.kind=2):=by
 rcases h with rfl | h
 ·rfl
 ·by_cases hk:t.kind=2
  ·rcases f_kind (v_form h) with ⟨h1,_⟩ | ⟨_,h2⟩ | ⟨h1,_⟩ | ⟨h1,_⟩
   ·omega
   ·rw [ty_ext hk h2];rfl
   all_goals omega
  ·rw [decide_eq_false hk]
   cases he:eqTy t tB with
   | false=>rfl
   | true=>exact absurd (by rw [eqTy_ok _ _ he];rfl) hk
theorem zv_ne {t:Ty} (h:Zv t) (hk:t.kind≠0):vTy t=true:=h.resolve_left fun e=>hk (by rw [e];rfl)
theorem all_same {l:List Ty} (hl:∀ t ∈ l,Zv t) {u:Ty} {k:Int} (hu:∀ t,Zv t→eqTy t u=decide (t.kind=k)):l.all (fun t=>eqTy t u)=l.all (fun t=>decide (t.kind=k)):=by
 induction l with
 | nil=>rfl
 | cons x l ih=>rw [List.all_cons,List.all_cons,hu x (hl x (by simp)),ih fun t ht=>hl t (by simp [ht])]
theorem op_same {s : ByteArray} (hs : 0 < opAr s) {l : List Ty} (hl : ∀ t ∈ l, Zv t) : vd2 (if (l.map fun t => decide (t.kind ≠ 0)).all id = true then opS s l else no2) = rr (vd (opI s l)) := by
  have hall : ∀ k : Int, k ≠ 0 → l.all (fun t => decide (t.kind = k)) = true → (l.map fun t => decide (t.kind ≠ 0)).all id = true := fun k hk h => by
    rw [List.all_map, List.all_eq_true]
    intro t ht
    have := List.all_eq_true.1 h t ht
    simp only [decide_eq_true_eq] at this
    simp only [Function.comp, id]
    rw [decide_eq_true (by omega)]
  have key : ∀ (u : Ty) (k : Int) (o : Ty), k ≠ 0 → (∀ t, Zv t → eqTy t u = decide (t.kind = k)) → vTy o = true → inT s = u → outT s = o → wantK s = k → (if s = oAdd ∨ s = oSub ∨ s = oMul then tI else tB) = o → vd2 (if (l.map fun t => decide (t.kind ≠ 0)).all id = true then opS s l else no2) = rr (vd (opI s l)) := by
    intro u k o hk hu ho h1 h2 h3 h4
    unfold opS opI
    rw [h1, h2, h3, h4, all_same hl hu]
    cases hA : l.all (fun t => decide (t.kind = k)) with
    | true => rw [if_pos (hall k hk hA), if_pos rfl, if_pos rfl, vd2_t]
    | false =>
      simp only [Bool.false_eq_true, if_false]
      split <;> exact vd2_no
  unfold opAr at hs
  by_cases h1 : s = ⟨#[43]⟩
  · subst h1; exact key tI 1 tI (by omega) (fun t h => zv_I h) v_tI (by decide) (by decide) (by decide) (by decide)
  by_cases h2 : s = ⟨#[45]⟩
  · subst h2; exact key tI 1 tI (by omega) (fun t h => zv_I h) v_tI (by decide) (by decide) (by decide) (by decide)
  by_cases h3 : s = ⟨#[42]⟩
  · subst h3; exact key tI 1 tI (by omega) (fun t h => zv_I h) v_tI (by decide) (by decide) (by decide) (by decide)
  by_cases h4 : s = ⟨#[61]⟩
  · subst h4; exact key tI 1 tB (by omega) (fun t h => zv_I h) v_tB (by decide) (by decide) (by decide) (by decide)
  by_cases h5 : s = ⟨#[60]⟩
  · subst h5; exact key tI 1 tB (by omega) (fun t h => zv_I h) v_tB (by decide) (by decide) (by decide) (by decide)
  by_cases h6 : s = ⟨#[38]⟩
  · subst h6; exact key tB 2 tB (by omega) (fun t h => zv_B h) v_tB (by decide) (by decide) (by decide) (by decide)
  by_cases h7 : s = ⟨#[124]⟩
  · subst h7; exact key tB 2 tB (by omega) (fun t h => zv_B h) v_tB (by decide) (by decide) (by decide) (by decide)
  by_cases h8 : s = ⟨#[33]⟩
  · subst h8; exact key tB 2 tB (by omega) (fun t h => zv_B h) v_tB (by decide) (by decide) (by decide) (by decide)
  simp only [h1, h2, h3, h4, h5, h6, h7, h8, if_false] at hs
  omega
theorem zv_tyT (e:Tm) (ctx:List Tg) (n:Int):Zv (tyT e ctx n):=tyT_cases e ctx n
theorem rr_1 (t:Ty):(rr t).1=t:=rfl
theorem rr_2 (t:Ty):(rr t).2=decide (t.kind≠0):=rfl
theorem bang0 {α:Type} [Inhabited α] (a:α) (l:List α):(a :: l)[0]! = a:=rfl
theorem bang1 {α:Type} [Inhabited α] (a b:α) (l:List α):(a :: b :: l)[1]! = b:=rfl
theorem bang2 {α:Type} [Inhabited α] (a b c:α) (l:List α):(a :: b :: c :: l)[2]! = c:=rfl
theorem len1 {α:Type} {l:List α} (h:l.length=1):∃ a,l=[a]:=by
 match l,h with
 | [a],_=>exact ⟨a,rfl⟩
theorem len2 {α:Type} {l:List α} (h:l.length=2):∃ a b,l=[a,b]:=by
 match l,h with
 | [a,b],_=>exact ⟨a,b,rfl⟩
theorem len3 {α:Type} {l:List α} (h:l.length=3):∃ a b c,l=[a,b,c]:=by
 match l,h with
 | [a,b,c],_=>exact ⟨a,b,c,rfl⟩
theorem ty_same : ∀ e : Tm, allTm isFm e = true → ∀ ctx n, tyS e ctx n = rr (tyT e ctx n) := by
  refine Tm.ind fun e ih h ctx n => ?_
  rw [allTm_eq, Bool.and_eq_true] at h
  obtain ⟨hl, h4, h9, _, _, hk1, hk2⟩ := fm_facts h.1
  have hpart : ∀ x ∈ e.args, allTm isFm x = true := by
    have key : ∀ (l : List Tm), allTms isFm l = true → ∀ x ∈ l, allTm isFm x = true := by
      intro l
      induction l with
      | nil => intro _ x hx; cases hx
      | cons y l ih =>
        intro h x hx
        rw [allTms, Bool.and_eq_true] at h
        rcases List.mem_cons.1 hx with rfl | hx
        · exact h.1
        · exact ih h.2 x hx
    exact key _ h.2
  have hs : ∀ x ∈ e.args, ∀ ctx n, tyS x ctx n = rr (tyT x ctx n) := fun x hx => ih x hx (hpart x hx)
  rw [tyS_eq, tyT_eq]
  unfold arF at hl
  have hK : e.kind = 1 ∨ e.kind = 2 ∨ e.kind = 3 ∨ e.kind = 4 ∨ e.kind = 5 ∨ e.kind = 6 ∨ e.kind = 7 ∨ e.kind = 8 ∨ e.kind = 9 ∨ e.kind = 10 ∨ e.kind = 11 ∨ e.kind = 12 ∨ e.kind = 13 := by omega
  generalize hA : e.args = A at *
  rcases hK with hk | hk | hk | hk | hk | hk | hk | hk | hk | hk | hk | hk | hk
  · simp only [smF, fmF, hk, if_true, vrF]
    by_cases h1 : lastTg ctx e.name ctx.length < 0
    · rw [if_pos h1, if_neg (by omega), vd2_no]
    · rw [if_neg h1, if_pos (show 0 ≤ lastTg ctx e.name ctx.length by omega)]
      by_cases h2 : (ctx[(lastTg ctx e.name ctx.length).toNat]!).level = n
      · rw [if_pos h2, if_pos h2]; exact vd2_t _
      · rw [if_neg h2, if_neg h2]; exact vd2_no
  · simp only [smF, fmF, hk, if_true, if_false, Int.reduceEq]; exact vd2_t _
  · simp only [smF, fmF, hk, if_true, if_false, Int.reduceEq]; exact vd2_t _
  · simp only [smF, fmF, hk, if_true, if_false, Int.reduceEq]
    have e1 : ((A.map tyS).map fun f => (f ctx n).2) = (A.map fun a => tyT a ctx n).map fun t => decide (t.kind ≠ 0) := by
      rw [List.map_map, List.map_map]
      exact List.map_congr_left fun a ha => by simp only [Function.comp]; rw [hs a ha]; rfl
    have e2 : ((A.map tyS).map fun f => (f ctx n).1) = A.map fun a => tyT a ctx n := by
      rw [List.map_map]
      exact List.map_congr_left fun a ha => by simp only [Function.comp]; rw [hs a ha]; rfl
    have e3 : ((A.map tyT).map fun f => f ctx n) = A.map fun a => tyT a ctx n := by rw [List.map_map]; rfl
    rw [e1, e2, e3]
    exact op_same (h4 hk) fun t ht => by
      obtain ⟨a, _, rfl⟩ := List.mem_map.1 ht
      exact zv_tyT a ctx n
  · simp only [hk, if_true, if_false, Int.reduceEq] at hl
    obtain ⟨x, y, z, rfl⟩ := len3 (show A.length = 3 by omega)
    have hx := hs x (by simp) ctx n
    have hy := hs y (by simp) ctx n
    have hzz := hs z (by simp) ctx n
    simp only [smF, fmF, hk, if_true, if_false, Int.reduceEq, List.map_cons, List.map_nil, bang0, bang1, bang2, hx, hy, hzz, rr_1, rr_2, List.all_cons, List.all_nil, id, Bool.and_true, Bool.and_eq_true, decide_eq_true_eq]
    have zx := zv_tyT x ctx n
    have zy := zv_tyT y ctx n
    have zz := zv_tyT z ctx n
    rw [zv_B zx]
    generalize tyT x ctx n = a at *
    generalize tyT y ctx n = b at *
    generalize tyT z ctx n = c at *
    by_cases h2 : a.kind = 2
    · by_cases hbc : eqTy b c = true
      · have hbc' := eqTy_ok _ _ hbc
        subst hbc'
        simp only [h2, hbc, decide_true, if_true]
        by_cases hb : b.kind ≠ 0
        · rw [if_pos ⟨by decide, hb, hb⟩]; exact vd2_t _
        · rw [if_neg (fun h => hb h.2.1)]
          have : b = z0 := zy.resolve_right fun hv => hb (f_ne (v_form hv))
          rw [this]; exact vd2_no
      · simp only [h2, hbc, decide_true, if_true, Bool.false_eq_true, if_false]
        split
        · exact vd2_no
        · exact vd2_no
    · simp only [h2, decide_false, Bool.false_eq_true, if_false, Bool.false_and]
      split
      · exact vd2_no
      · exact vd2_no
  · simp only [hk, if_true, if_false, Int.reduceEq] at hl
    obtain ⟨x, rfl⟩ := len1 (show A.length = 1 by omega)
    have hx := hs x (by simp) (ctx ++ [⟨e.name, e.ty, n⟩]) n
    simp only [smF, fmF, hk, if_true, if_false, Int.reduceEq, List.map_cons, List.map_nil, bang0, hx, rr_1, rr_2]
    generalize tyT x (ctx ++ [⟨e.name, e.ty, n⟩]) n = b
    by_cases hb : b.kind = 0
    · simp only [hb, ne_eq, not_true_eq_false, decide_false, if_true]
      exact vd2_no
    · simp only [hb, ne_eq, not_false_eq_true, decide_true, if_false]
      exact vd2_t _
  · simp only [hk, if_true, if_false, Int.reduceEq] at hl
    obtain ⟨x, y, rfl⟩ := len2 (show A.length = 2 by omega)
    have hx := hs x (by simp) ctx n
    have hy := hs y (by simp) ctx n
    simp only [smF, fmF, hk, if_true, if_false, Int.reduceEq, List.map_cons, List.map_nil, bang0, bang1, hx, hy, rr_1, rr_2, List.all_cons, List.all_nil, id, Bool.and_true, Bool.and_eq_true, decide_eq_true_eq]
    have zx := zv_tyT x ctx n
    have zy := zv_tyT y ctx n
    generalize tyT x ctx n = a at *
    generalize tyT y ctx n = b at *
    by_cases h3 : a.kind = 3
    · have hv := zv_ne zx (by omega)
      rcases f_kind (v_form hv) with ⟨q, _⟩ | ⟨q, _⟩ | ⟨_, u, v, hu, fu, fv⟩ | ⟨q, _⟩
      · omega
      · omega
      · simp only [h3, if_true, hu, bang0, bang1]
        by_cases hub : eqTy u b = true
        · have := eqTy_ok _ _ hub
          subst this
          simp only [hub, if_true]
          rw [if_pos ⟨by decide, f_ne fu⟩]
          exact vd2_t _
        · simp only [hub, Bool.false_eq_true, if_false]
          split
          · exact vd2_no
          · exact vd2_no
      · omega
    · simp only [h3, if_false]
      split
      · exact vd2_no
      · exact vd2_no
  · simp only [hk, if_true, if_false, Int.reduceEq] at hl
    obtain ⟨x, y, rfl⟩ := len2 (show A.length = 2 by omega)
    have hx := hs x (by simp) ctx n
    have hy := fun c => hs y (by simp) c n
    simp only [smF, fmF, hk, if_true, if_false, Int.reduceEq, List.map_cons, List.map_nil, bang0, bang1, hx, hy, rr_1, rr_2, decide_eq_true_eq]
    by_cases h0 : (tyT x ctx n).kind = 0
    · simp only [h0, ne_eq, not_true_eq_false, if_true, if_false]
      exact vd2_no
    · simp only [h0, ne_eq, not_false_eq_true, if_true, if_false]
      exact vd2_rr (zv_tyT y _ n)
  · simp only [hk, if_true, if_false, Int.reduceEq] at hl
    obtain ⟨x, rfl⟩ := len1 (show A.length = 1 by omega)
    have hx := hs x (by simp) (ctx ++ [⟨e.name, .mk 3 [e.ty, e.res], n⟩, ⟨e.other, e.ty, n⟩]) n
    have hv := h9 hk
    simp only [smF, fmF, hk, if_true, if_false, Int.reduceEq, List.map_cons, List.map_nil, bang0, hx, rr_1, rr_2]
    generalize tyT x (ctx ++ [⟨e.name, .mk 3 [e.ty, e.res], n⟩, ⟨e.other, e.ty, n⟩]) n = b
    by_cases hb : eqTy b e.res = true
    · have := eqTy_ok _ _ hb
      subst this
      rw [if_pos hb, hb, decide_eq_true (f_ne (v_form hv))]
      exact vd2_t _
    · rw [if_neg hb]
      simp only [hb, Bool.and_false]
      exact vd2_no
  · simp only [hk, if_true, if_false, Int.reduceEq] at hl
    obtain ⟨x, rfl⟩ := len1 (show A.length = 1 by omega)
    have hx := hs x (by simp) ctx (n + 1)
    simp only [smF, fmF, hk, if_true, if_false, Int.reduceEq, List.map_cons, List.map_nil, bang0, hx, rr_1, rr_2, decide_eq_true_eq]
    by_cases h0 : (tyT x ctx (n + 1)).kind = 0
    · simp only [h0, ne_eq, not_true_eq_false, if_true, if_false]
      exact vd2_no
    · simp only [h0, ne_eq, not_false_eq_true, if_true, if_false]
      exact vd2_t _
  · simp only [hk, if_true, if_false, Int.reduceEq] at hl
    obtain ⟨x, rfl⟩ := len1 (show A.length = 1 by omega)
    have hx := hs x (by simp) ctx (n - 1)
    simp only [smF, fmF, hk, if_true, if_false, Int.reduceEq, List.map_cons, List.map_nil, bang0, hx, rr_1, rr_2, decide_eq_true_eq, codeF]
    by_cases h0 : (tyT x ctx (n - 1)).kind = 4
    · simp only [h0, ne_eq, if_true, Int.reduceEq, not_false_eq_true]
      exact vd2_t _
    · simp only [h0, if_false]
      split <;> exact vd2_no
  · simp only [hk, if_true, if_false, Int.reduceEq] at hl
    obtain ⟨x, rfl⟩ := len1 (show A.length = 1 by omega)
    have hx := hs x (by simp) (safeTg ctx n ctx.length) n
    simp only [smF, fmF, hk, if_true, if_false, Int.reduceEq, List.map_cons, List.map_nil, bang0, hx, rr_1, rr_2, decide_eq_true_eq, codeF]
    by_cases h0 : (tyT x (safeTg ctx n ctx.length) n).kind = 4
    · simp only [h0, ne_eq, if_true, Int.reduceEq, not_false_eq_true]
      exact vd2_t _
    · simp only [h0, if_false]
      split <;> exact vd2_no
  · simp only [hk, if_true, if_false, Int.reduceEq] at hl
    obtain ⟨x, rfl⟩ := len1 (show A.length = 1 by omega)
    have hx := hs x (by simp) ctx n
    simp only [smF, fmF, hk, if_true, if_false, Int.reduceEq, List.map_cons, List.map_nil, bang0, hx, rr_1, rr_2, decide_eq_true_eq]
    have zx := zv_tyT x ctx n
    generalize tyT x ctx n = b at *
    by_cases h0 : b.kind = 0
    · have hb : isBaseT b = false := by unfold isBaseT; rw [h0]; rfl
      simp only [h0, hb, ne_eq, not_true_eq_false, if_false, Bool.false_eq_true]
      exact vd2_no
    · simp only [h0, ne_eq, not_false_eq_true, if_true]
      cases isBaseT b with
      | true => simp only [if_true]; exact vd2_t _
      | false => simp only [Bool.false_eq_true, if_false]; exact vd2_no
end Go.Proofs.YtaidalilfmjfgaaGreat
