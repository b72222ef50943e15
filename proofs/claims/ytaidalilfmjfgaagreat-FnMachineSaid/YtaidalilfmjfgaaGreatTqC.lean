import Derived.Test.YtaidalilfmjfgaaGreatSafe
import Derived.Test.YtaidalilfmjfgaaGreatClo
import Derived.Test.YtaidalilfmjfgaaGreatStaged
import Derived.Test.YtaidalilfmjfgaaGreatCode
import Derived.Test.YtaidalilfmjfgaaGreatTvA
namespace Go.Proofs.YtaidalilfmjfgaaGreat
open Go.Proofs.Tryz
open Go.RowKit
set_option linter.unusedVariables false
set_option linter.unusedSimpArgs false
def z0:Ty:=.mk 0 []
def tIq:Ty:=.mk 1 []
def tB:Ty:=.mk 2 []
def vd (t:Ty):Ty:=if vTy t=true then t else z0
def oEq:ByteArray:=⟨#[61]⟩
def oLt:ByteArray:=⟨#[60]⟩
def aBC:ByteArray:=⟨#[38]⟩
def oOr:ByteArray:=⟨#[124]⟩
def aCm:ByteArray:=⟨#[33]⟩
def YQ:ByteArray:=⟨#[43]⟩
def aAL:ByteArray:=⟨#[45]⟩
def YX:ByteArray:=⟨#[42]⟩
def inT (s:ByteArray):Ty:=if s=oEq∨s=oLt then tIq else if s=aBC∨s=oOr∨s=aCm then tB else tIq
def aIN (s:ByteArray):Ty:=if s=oEq∨s=oLt then tB else if s=aBC∨s=oOr∨s=aCm then tB else tIq
def opI (s:ByteArray) (l:List Ty):Ty:=if l.all (fun t=>Da t (inT s))=true then aIN s else z0
def PR (s:ByteArray):Int:=if s=aBC∨s=oOr∨s=aCm then 2 else 1
def opS (s:ByteArray) (l:List Ty):Ty × Bool:=if l.all (fun t=>decide (t.kind=PR s))=true then (if s=YQ∨s=aAL∨s=YX then tIq else tB,true) else (z0,false)
def Ln (t:Ty):Ty:=if t.kind=4 then t.args[0]! else z0
abbrev TF:=List Tg→Int→Ty
abbrev SF:=List Tg→Int→Ty × Bool
instance : Inhabited TF := ⟨fun _ _ => z0⟩
instance : Inhabited SF := ⟨fun _ _ => (z0, false)⟩
def vrF (s:ByteArray) (ctx:List Tg) (n:Int):Ty:=if 0≤BH ctx s ctx.length then (if (ctx[(BH ctx s ctx.length).toNat]!).level=n then (ctx[(BH ctx s ctx.length).toNat]!).ty else z0) else z0
def fmF (k:Int) (nm ot:ByteArray) (ty rs:Ty) (fs:List TF) (ctx:List Tg) (n:Int):Ty :=
 if k=1 then vrF nm ctx n
 else if k=2 then tIq
 else if k=3 then tB
 else if k=4 then opI nm (fs.map fun f=>f ctx n)
 else if k=5 then (if Da ((fs[0]!) ctx n) tB=true then (if Da ((fs[1]!) ctx n) ((fs[2]!) ctx n)=true then (fs[1]!) ctx n else z0) else z0)
 else if k=7 then (if ((fs[0]!) ctx n).kind=3 then (if Da ((fs[0]!) ctx n).args[0]! ((fs[1]!) ctx n)=true then ((fs[0]!) ctx n).args[1]! else z0) else z0)
 else if k=6 then (if ((fs[0]!) (ctx++[⟨nm,ty,n⟩]) n).kind=0 then z0 else .mk 3 [ty,(fs[0]!) (ctx++[⟨nm,ty,n⟩]) n])
 else if k=8 then (if ((fs[0]!) ctx n).kind=0 then z0 else (fs[1]!) (ctx++[⟨nm,(fs[0]!) ctx n,n⟩]) n)
 else if k=9 then (if Da ((fs[0]!) (ctx++[⟨nm,.mk 3 [ty,rs],n⟩,⟨ot,ty,n⟩]) n) rs=true then .mk 3 [ty,rs] else z0)
 else if k=10 then (if ((fs[0]!) ctx (n+1)).kind=0 then z0 else .mk 4 [(fs[0]!) ctx (n+1)])
 else if k=11 then Ln ((fs[0]!) ctx (n-1))
 else if k=12 then Ln ((fs[0]!) (Bp ctx n ctx.length) n)
 else if k=13 then (if Dg ((fs[0]!) ctx n)=true then .mk 4 [(fs[0]!) ctx n] else z0)
 else z0
mutual
def tyT:Tm→TF
 | .mk k nm ot _ ty rs args=>fun ctx n=>vd (fmF k nm ot ty rs (aEa args) ctx n)
def aEa:List Tm→List TF
 | []=>[]
 | a :: l=>tyT a :: aEa l
end
theorem NP:∀ l,aEa l=l.map tyT
 | []=>rfl
 | a :: l=>by rw [aEa,NP l];rfl
theorem XP (e:Tm) (ctx:List Tg) (n:Int):tyT e ctx n=vd (fmF e.kind e.name e.other e.ty e.res (e.args.map tyT) ctx n):=by
 obtain ⟨k,nm,ot,m,ty,rs,args⟩:=e
 rw [tyT,NP];rfl
def no2:Ty × Bool:=(z0,false)
def smF (k : Int) (nm ot : ByteArray) (ty rs : Ty) (fs : List SF) (ctx : List Tg) (n : Int) : Ty × Bool :=
  if k = 1 then (if BH ctx nm ctx.length < 0 then no2 else if (ctx[(BH ctx nm ctx.length).toNat]!).level = n then ((ctx[(BH ctx nm ctx.length).toNat]!).ty, true) else no2)
  else if k = 2 then (tIq, true)
  else if k = 3 then (tB, true)
  else if k = 6 then (.mk 3 [ty, ((fs[0]!) (ctx ++ [⟨nm, ty, n⟩]) n).1], ((fs[0]!) (ctx ++ [⟨nm, ty, n⟩]) n).2)
  else if k = 8 then (if ((fs[0]!) ctx n).2 = true then (fs[1]!) (ctx ++ [⟨nm, ((fs[0]!) ctx n).1, n⟩]) n else no2)
  else if k = 9 then (.mk 3 [ty, rs], ((fs[0]!) (ctx ++ [⟨nm, .mk 3 [ty, rs], n⟩, ⟨ot, ty, n⟩]) n).2 && Da ((fs[0]!) (ctx ++ [⟨nm, .mk 3 [ty, rs], n⟩, ⟨ot, ty, n⟩]) n).1 rs)
  else if k = 10 then (if ((fs[0]!) ctx (n + 1)).2 = true then (.mk 4 [((fs[0]!) ctx (n + 1)).1], true) else no2)
  else if k = 11 then (if ((fs[0]!) ctx (n - 1)).2 = true then (if ((fs[0]!) ctx (n - 1)).1.kind = 4 then (((fs[0]!) ctx (n - 1)).1.args[0]!, true) else no2) else no2)
  else if k = 12 then (if ((fs[0]!) (Bp ctx n ctx.length) n).2 = true then (if ((fs[0]!) (Bp ctx n ctx.length) n).1.kind = 4 then (((fs[0]!) (Bp ctx n ctx.length) n).1.args[0]!, true) else no2) else no2)
  else if k = 13 then (if ((fs[0]!) ctx n).2 = true then (.mk 4 [((fs[0]!) ctx n).1], Dg ((fs[0]!) ctx n).1) else no2)
  else if (fs.map fun f => (f ctx n).2).all id = true then
    (if k = 4 then opS nm (fs.map fun f => (f ctx n).1)
     else if k = 5 then (((fs[1]!) ctx n).1, decide (((fs[0]!) ctx n).1.kind = 2) && Da ((fs[1]!) ctx n).1 ((fs[2]!) ctx n).1)
     else if ((fs[0]!) ctx n).1.kind = 3 then (if Da ((fs[0]!) ctx n).1.args[0]! ((fs[1]!) ctx n).1 = true then (((fs[0]!) ctx n).1.args[1]!, true) else no2) else no2)
  else no2
def vd2 (r:Ty × Bool):Ty × Bool:=if r.2=true then (if vTy r.1=true then (r.1,true) else no2) else no2
mutual
def tyS:Tm→SF
 | .mk k nm ot _ ty rs args=>fun ctx n=>vd2 (smF k nm ot ty rs (aEh args) ctx n)
def aEh:List Tm→List SF
 | []=>[]
 | a :: l=>tyS a :: aEh l
end
theorem NT:∀ l,aEh l=l.map tyS
 | []=>rfl
 | a :: l=>by rw [aEh,NT l];rfl
theorem Xx (e:Tm) (ctx:List Tg) (n:Int):tyS e ctx n=vd2 (smF e.kind e.name e.other e.ty e.res (e.args.map tyS) ctx n):=by
 obtain ⟨k,nm,ot,m,ty,rs,args⟩:=e
 rw [tyS,NT];rfl
mutual
theorem FE:∀ t u:Ty,Da t u=true→t=u
 | .mk k xs,.mk j ys,h=>by
  rw [Da] at h
  simp only [Bool.and_eq_true,decide_eq_true_eq] at h
  rw [h.1,Oo xs ys h.2]
theorem Oo:∀ xs ys:List Ty,Fn xs ys=true→xs=ys
 | [],[],_=>rfl
 | [],_ :: _,h=>by simp [Fn] at h
 | _ :: _,[],h=>by simp [Fn] at h
 | x :: xs,y :: ys,h=>by
  rw [Fn] at h
  simp only [Bool.and_eq_true] at h
  rw [FE x y h.1,Oo xs ys h.2]
end
theorem VS (t u:Ty):Da t u=true ↔ t=u:=⟨FE t u,fun h=>h ▸ HV t⟩
instance : DecidableEq Ty := fun t u => decidable_of_iff (Da t u = true) (VS t u)
theorem ER {t:Ty} (h:vTy t=true):BE t=true:=by
 unfold vTy at h;simp only [Bool.and_eq_true] at h;exact h.2.2
theorem FY {t:Ty} (h:BE t=true):(t.kind=1∧t.args=[])∨(t.kind=2∧t.args=[])∨(t.kind=3∧∃ a b,t.args=[a,b]∧BE a=true∧BE b=true)∨(t.kind=4∧∃ a,t.args=[a]∧BE a=true):=by
 obtain ⟨k,xs⟩:=t
 rw [BE] at h
 simp only [Bool.and_eq_true] at h
 obtain ⟨h1,h2⟩:=h
 show (k=1∧xs=[])∨(k=2∧xs=[])∨(k=3∧∃ a b,xs=[a,b]∧_)∨(k=4∧∃ a,xs=[a]∧_)
 unfold shB at h2
 split at h2
 ·rename_i hk
  have:xs=[]:=List.eq_nil_of_length_eq_zero (by simpa using h2)
  rcases hk with hk | hk
  ·exact .inl ⟨hk,this⟩
  ·exact .inr (.inl ⟨hk,this⟩)
 ·split at h2
  ·rename_i hk
   have hl:xs.length=2:=by have:=of_decide_eq_true h2;omega
   match xs,hl with
   | [a,b],_ =>
    simp only [Dc,Bool.and_eq_true] at h1
    exact .inr (.inr (.inl ⟨hk,a,b,rfl,h1.1,h1.2.1⟩))
  ·split at h2
   ·rename_i hk
    have hl:xs.length=1:=by have:=of_decide_eq_true h2;omega
    match xs,hl with
    | [a],_ =>
     simp only [Dc,Bool.and_eq_true] at h1
     exact .inr (.inr (.inr ⟨hk,a,rfl,h1.1⟩))
   ·cases h2
theorem aFn {t:Ty} (h:BE t=true):t.kind≠0:=by
 rcases FY h with h | h | h | h <;> omega
theorem aJr:BE z0=false:=by simp [z0,BE,Dc,shB]
theorem aJC:vTy z0=false:=by unfold vTy;rw [aJr,Bool.and_false,Bool.and_false]
theorem IV {t:Ty} {k:Int} {xs:List Ty} (h:t.kind=k) (hx:t.args=xs):t = .mk k xs:=by obtain ⟨k',xs'⟩:=t;subst h;subst hx;rfl
theorem aBB:vTy tIq=true:=by decide
theorem Yq:vTy tB=true:=by decide
theorem aFr:vd z0=z0:=by unfold vd;rw [aJC];rfl
theorem VN (t:Ty):vd t=z0∨(vTy (vd t)=true∧vd t=t):=by
 unfold vd
 split
 ·rename_i h;exact .inr ⟨h,rfl⟩
 ·exact .inl rfl
theorem Ts (e:Tm) (ctx:List Tg) (n:Int):tyT e ctx n=z0∨vTy (tyT e ctx n)=true:=by
 rw [XP];exact (VN _).imp id fun h=>h.1
def rr (t:Ty):Ty × Bool:=(t,decide (t.kind≠0))
theorem aHc:rr z0=no2:=rfl
theorem aJe {t:Ty} (h:vTy t=true):rr t=(t,true):=by unfold rr;rw [decide_eq_true (aFn (ER h))]
theorem CG:vd2 no2=rr (vd z0):=by rw [aFr];rfl
theorem Ha (t:Ty):vd2 (t,true)=rr (vd t):=by
 unfold vd2 vd
 simp only [if_true]
 split
 ·rename_i h;exact (aJe h).symm
 ·rfl
theorem aCc {t:Ty} (h:t=z0∨vTy t=true):vd2 (rr t)=rr (vd t):=by
 rcases h with rfl | h
 ·rw [aHc,CG]
 ·rw [aJe h,Ha]
theorem Ok {e:Tm} (h:EO e=true):(e.args.length:Int)=arF 0 e.kind e.name∧(e.kind=4→0<CQ e.name)∧(e.kind=9→vTy e.res=true)∧(e.kind=9→vTy e.ty=true)∧(e.kind=6→vTy e.ty=true)∧1≤e.kind∧e.kind≤13:=by
 rw [Gy] at h
 simp only [Bool.and_eq_true,decide_eq_true_eq] at h
 obtain ⟨ha,hn,_⟩:=h
 refine ⟨ha, ?_⟩
 unfold WP at hn
 rcases GX e.kind with h | h | h | h | h | h | h | h | h | h | h | h | h | ⟨g1,g2,g3,g4,g5,g6,g7,g8,g9,g10,g11,g12,g13⟩
 case inr.inr.inr.inr.inr.inr.inr.inr.inr.inr.inr.inr.inr =>
  simp only [g1,g2,g3,g4,g5,g6,g7,g8,g9,g10,g11,g12,g13,if_false] at hn
  rw [Tn _ g1 g2 g3 g4 g5 g6 g7 g8 g9 g10 g11 g12 g13] at hn
  cases hn
 case inr.inr.inr.inl =>
  simp only [h,if_true,if_false,Int.reduceEq] at hn ⊢
  simp only [decide_eq_true_eq] at hn
  exact ⟨fun _=>hn,fun h=>by simp at h,fun h=>by simp at h,fun h=>by simp at h,by omega,by omega⟩
 case inr.inr.inr.inr.inr.inl =>
  simp only [h,if_true,if_false,Int.reduceEq] at hn ⊢
  simp only [Bool.and_eq_true] at hn
  exact ⟨fun h=>by simp at h,fun h=>by simp at h,fun h=>by simp at h,fun _=>hn.2,by omega,by omega⟩
 case inr.inr.inr.inr.inr.inr.inr.inr.inl =>
  simp only [h,if_true,if_false,Int.reduceEq] at hn ⊢
  simp only [Bool.and_eq_true] at hn
  exact ⟨fun h=>by simp at h,fun _=>hn.2.2.2.2,fun _=>hn.2.2.2.1,fun h=>by simp at h,by omega,by omega⟩
 all_goals exact ⟨fun h'=>by omega,fun h'=>by omega,fun h'=>by omega,fun h'=>by omega,by omega,by omega⟩
def Zv (t:Ty):Prop:=t=z0∨vTy t=true
theorem aDN {t:Ty} (h:Zv t):Da t tIq=decide (t.kind=1):=by
 rcases h with rfl | h
 ·rfl
 ·by_cases hk:t.kind=1
  ·rcases FY (ER h) with ⟨_,h2⟩ | ⟨h1,_⟩ | ⟨h1,_⟩ | ⟨h1,_⟩
   ·rw [IV hk h2];rfl
   all_goals omega
  ·rw [decide_eq_false hk]
   cases he:Da t tIq with
   | false=>rfl
   | true=>exact absurd (by rw [FE _ _ he];rfl) hk
theorem aEl {t:Ty} (h:Zv t):Da t tB=decide (t.kind=2):=by
 rcases h with rfl | h
 ·rfl
 ·by_cases hk:t.kind=2
  ·rcases FY (ER h) with ⟨h1,_⟩ | ⟨_,h2⟩ | ⟨h1,_⟩ | ⟨h1,_⟩
   ·omega
   ·rw [IV hk h2];rfl
   all_goals omega
  ·rw [decide_eq_false hk]
   cases he:Da t tB with
   | false=>rfl
   | true=>exact absurd (by rw [FE _ _ he];rfl) hk
theorem Pz {t:Ty} (h:Zv t) (hk:t.kind≠0):vTy t=true:=h.resolve_left fun e=>hk (by rw [e];rfl)
theorem WF {l:List Ty} (hl:∀ t ∈ l,Zv t) {u:Ty} {k:Int} (hu:∀ t,Zv t→Da t u=decide (t.kind=k)):l.all (fun t=>Da t u)=l.all (fun t=>decide (t.kind=k)):=by
 induction l with
 | nil=>rfl
 | cons x l ih=>rw [List.all_cons,List.all_cons,hu x (hl x (by simp)),ih fun t ht=>hl t (by simp [ht])]
theorem ZI {s:ByteArray} (hs:0<CQ s) {l:List Ty} (hl:∀ t ∈ l,Zv t):vd2 (if (l.map fun t=>decide (t.kind≠0)).all id=true then opS s l else no2)=rr (vd (opI s l)):=by
 have hall:∀ k:Int,k≠0→l.all (fun t=>decide (t.kind=k))=true→(l.map fun t=>decide (t.kind≠0)).all id=true:=fun k hk h=>by
  rw [List.all_map,List.all_eq_true]
  intro t ht
  have:=List.all_eq_true.1 h t ht
  simp only [decide_eq_true_eq] at this
  simp only [Function.comp,id]
  rw [decide_eq_true (by omega)]
 have key:∀ (u:Ty) (k:Int) (o:Ty),k≠0→(∀ t,Zv t→Da t u=decide (t.kind=k))→vTy o=true→inT s=u→aIN s=o→PR s=k→(if s=YQ∨s=aAL∨s=YX then tIq else tB)=o→vd2 (if (l.map fun t=>decide (t.kind≠0)).all id=true then opS s l else no2)=rr (vd (opI s l)):=by
  intro u k o hk hu ho h1 h2 h3 h4
  unfold opS opI
  rw [h1,h2,h3,h4,WF hl hu]
  cases hA:l.all (fun t=>decide (t.kind=k)) with
  | true=>rw [if_pos (hall k hk hA),if_pos rfl,if_pos rfl,Ha]
  | false =>
   simp only [Bool.false_eq_true,if_false]
   split <;> exact CG
 unfold CQ at hs
 by_cases h1:s=⟨#[43]⟩
 ·subst h1;exact key tIq 1 tIq (by omega) (fun t h=>aDN h) aBB (by decide) (by decide) (by decide) (by decide)
 by_cases h2:s=⟨#[45]⟩
 ·subst h2;exact key tIq 1 tIq (by omega) (fun t h=>aDN h) aBB (by decide) (by decide) (by decide) (by decide)
 by_cases h3:s=⟨#[42]⟩
 ·subst h3;exact key tIq 1 tIq (by omega) (fun t h=>aDN h) aBB (by decide) (by decide) (by decide) (by decide)
 by_cases h4:s=⟨#[61]⟩
 ·subst h4;exact key tIq 1 tB (by omega) (fun t h=>aDN h) Yq (by decide) (by decide) (by decide) (by decide)
 by_cases h5:s=⟨#[60]⟩
 ·subst h5;exact key tIq 1 tB (by omega) (fun t h=>aDN h) Yq (by decide) (by decide) (by decide) (by decide)
 by_cases h6:s=⟨#[38]⟩
 ·subst h6;exact key tB 2 tB (by omega) (fun t h=>aEl h) Yq (by decide) (by decide) (by decide) (by decide)
 by_cases h7:s=⟨#[124]⟩
 ·subst h7;exact key tB 2 tB (by omega) (fun t h=>aEl h) Yq (by decide) (by decide) (by decide) (by decide)
 by_cases h8:s=⟨#[33]⟩
 ·subst h8;exact key tB 2 tB (by omega) (fun t h=>aEl h) Yq (by decide) (by decide) (by decide) (by decide)
 simp only [h1,h2,h3,h4,h5,h6,h7,h8,if_false] at hs
 omega
theorem Gg (e:Tm) (ctx:List Tg) (n:Int):Zv (tyT e ctx n):=Ts e ctx n
theorem Lc (t:Ty):(rr t).1=t:=rfl
theorem Mp (t:Ty):(rr t).2=decide (t.kind≠0):=rfl
theorem Jb {α:Type} [Inhabited α] (a:α) (l:List α):(a :: l)[0]! = a:=rfl
theorem Vb {α:Type} [Inhabited α] (a b:α) (l:List α):(a :: b :: l)[1]! = b:=rfl
theorem aHA {α:Type} [Inhabited α] (a b c:α) (l:List α):(a :: b :: c :: l)[2]! = c:=rfl
theorem aBf {α:Type} {l:List α} (h:l.length=1):∃ a,l=[a]:=by
 match l,h with
 | [a],_=>exact ⟨a,rfl⟩
theorem aHN {α:Type} {l:List α} (h:l.length=2):∃ a b,l=[a,b]:=by
 match l,h with
 | [a,b],_=>exact ⟨a,b,rfl⟩
theorem aI3 {α:Type} {l:List α} (h:l.length=3):∃ a b c,l=[a,b,c]:=by
 match l,h with
 | [a,b,c],_=>exact ⟨a,b,c,rfl⟩
theorem NB:∀ e:Tm,Bn EO e=true→∀ ctx n,tyS e ctx n=rr (tyT e ctx n):=by
 refine Tm.ind fun e ih h ctx n => ?_
 rw [Cv,Bool.and_eq_true] at h
 obtain ⟨hl,h4,h9,_,_,hk1,hk2⟩:=Ok h.1
 have hpart:∀ x ∈ e.args,Bn EO x=true:=by
  have key:∀ (l:List Tm),BV EO l=true→∀ x ∈ l,Bn EO x=true:=by
   intro l
   induction l with
   | nil=>intro _ x hx;cases hx
   | cons y l ih =>
    intro h x hx
    rw [BV,Bool.and_eq_true] at h
    rcases List.mem_cons.1 hx with rfl | hx
    ·exact h.1
    ·exact ih h.2 x hx
  exact key _ h.2
 have hs:∀ x ∈ e.args,∀ ctx n,tyS x ctx n=rr (tyT x ctx n):=fun x hx=>ih x hx (hpart x hx)
 rw [Xx,XP]
 unfold arF at hl
 have hK:e.kind=1∨e.kind=2∨e.kind=3∨e.kind=4∨e.kind=5∨e.kind=6∨e.kind=7∨e.kind=8∨e.kind=9∨e.kind=10∨e.kind=11∨e.kind=12∨e.kind=13:=by omega
 generalize hA:e.args=A at *
 rcases hK with hk | hk | hk | hk | hk | hk | hk | hk | hk | hk | hk | hk | hk
 ·simp only [smF,fmF,hk,if_true,vrF]
  by_cases h1:BH ctx e.name ctx.length<0
  ·rw [if_pos h1,if_neg (by omega),CG]
  ·rw [if_neg h1,if_pos (show 0≤BH ctx e.name ctx.length by omega)]
   by_cases h2:(ctx[(BH ctx e.name ctx.length).toNat]!).level=n
   ·rw [if_pos h2,if_pos h2];exact Ha _
   ·rw [if_neg h2,if_neg h2];exact CG
 ·simp only [smF,fmF,hk,if_true,if_false,Int.reduceEq];exact Ha _
 ·simp only [smF,fmF,hk,if_true,if_false,Int.reduceEq];exact Ha _
 ·simp only [smF,fmF,hk,if_true,if_false,Int.reduceEq]
  have e1:((A.map tyS).map fun f=>(f ctx n).2)=(A.map fun a=>tyT a ctx n).map fun t=>decide (t.kind≠0):=by
   rw [List.map_map,List.map_map]
   exact List.map_congr_left fun a ha=>by simp only [Function.comp];rw [hs a ha];rfl
  have e2:((A.map tyS).map fun f=>(f ctx n).1)=A.map fun a=>tyT a ctx n:=by
   rw [List.map_map]
   exact List.map_congr_left fun a ha=>by simp only [Function.comp];rw [hs a ha];rfl
  have e3:((A.map tyT).map fun f=>f ctx n)=A.map fun a=>tyT a ctx n:=by rw [List.map_map];rfl
  rw [e1,e2,e3]
  exact ZI (h4 hk) fun t ht=>by
   obtain ⟨a,_,rfl⟩:=List.mem_map.1 ht
   exact Gg a ctx n
 ·simp only [hk,if_true,if_false,Int.reduceEq] at hl
  obtain ⟨x,y,z,rfl⟩:=aI3 (show A.length=3 by omega)
  have hx:=hs x (by simp) ctx n
  have hy:=hs y (by simp) ctx n
  have hzz:=hs z (by simp) ctx n
  simp only [smF,fmF,hk,if_true,if_false,Int.reduceEq,List.map_cons,List.map_nil,Jb,Vb,aHA,hx,hy,hzz,Lc,Mp,List.all_cons,List.all_nil,id,Bool.and_true,Bool.and_eq_true,decide_eq_true_eq]
  have zx:=Gg x ctx n
  have zy:=Gg y ctx n
  have zz:=Gg z ctx n
  rw [aEl zx]
  generalize tyT x ctx n=a at *
  generalize tyT y ctx n=b at *
  generalize tyT z ctx n=c at *
  by_cases h2:a.kind=2
  ·by_cases hbc:Da b c=true
   ·have hbc':=FE _ _ hbc
    subst hbc'
    simp only [h2,hbc,decide_true,if_true]
    by_cases hb:b.kind≠0
    ·rw [if_pos ⟨by decide,hb,hb⟩];exact Ha _
    ·rw [if_neg (fun h=>hb h.2.1)]
     have:b=z0:=zy.resolve_right fun hv=>hb (aFn (ER hv))
     rw [this];exact CG
   ·simp only [h2,hbc,decide_true,if_true,Bool.false_eq_true,if_false]
    split
    ·exact CG
    ·exact CG
  ·simp only [h2,decide_false,Bool.false_eq_true,if_false,Bool.false_and]
   split
   ·exact CG
   ·exact CG
 ·simp only [hk,if_true,if_false,Int.reduceEq] at hl
  obtain ⟨x,rfl⟩:=aBf (show A.length=1 by omega)
  have hx:=hs x (by simp) (ctx++[⟨e.name,e.ty,n⟩]) n
  simp only [smF,fmF,hk,if_true,if_false,Int.reduceEq,List.map_cons,List.map_nil,Jb,hx,Lc,Mp]
  generalize tyT x (ctx++[⟨e.name,e.ty,n⟩]) n=b
  by_cases hb:b.kind=0
  ·simp only [hb,ne_eq,not_true_eq_false,decide_false,if_true]
   exact CG
  ·simp only [hb,ne_eq,not_false_eq_true,decide_true,if_false]
   exact Ha _
 ·simp only [hk,if_true,if_false,Int.reduceEq] at hl
  obtain ⟨x,y,rfl⟩:=aHN (show A.length=2 by omega)
  have hx:=hs x (by simp) ctx n
  have hy:=hs y (by simp) ctx n
  simp only [smF,fmF,hk,if_true,if_false,Int.reduceEq,List.map_cons,List.map_nil,Jb,Vb,hx,hy,Lc,Mp,List.all_cons,List.all_nil,id,Bool.and_true,Bool.and_eq_true,decide_eq_true_eq]
  have zx:=Gg x ctx n
  have zy:=Gg y ctx n
  generalize tyT x ctx n=a at *
  generalize tyT y ctx n=b at *
  by_cases h3:a.kind=3
  ·have hv:=Pz zx (by omega)
   rcases FY (ER hv) with ⟨q,_⟩ | ⟨q,_⟩ | ⟨_,u,v,hu,fu,fv⟩ | ⟨q,_⟩
   ·omega
   ·omega
   ·simp only [h3,if_true,hu,Jb,Vb]
    by_cases hub:Da u b=true
    ·have:=FE _ _ hub
     subst this
     simp only [hub,if_true]
     rw [if_pos ⟨by decide,aFn fu⟩]
     exact Ha _
    ·simp only [hub,Bool.false_eq_true,if_false]
     split
     ·exact CG
     ·exact CG
   ·omega
  ·simp only [h3,if_false]
   split
   ·exact CG
   ·exact CG
 ·simp only [hk,if_true,if_false,Int.reduceEq] at hl
  obtain ⟨x,y,rfl⟩:=aHN (show A.length=2 by omega)
  have hx:=hs x (by simp) ctx n
  have hy:=fun c=>hs y (by simp) c n
  simp only [smF,fmF,hk,if_true,if_false,Int.reduceEq,List.map_cons,List.map_nil,Jb,Vb,hx,hy,Lc,Mp,decide_eq_true_eq]
  by_cases h0:(tyT x ctx n).kind=0
  ·simp only [h0,ne_eq,not_true_eq_false,if_true,if_false]
   exact CG
  ·simp only [h0,ne_eq,not_false_eq_true,if_true,if_false]
   exact aCc (Gg y _ n)
 ·simp only [hk,if_true,if_false,Int.reduceEq] at hl
  obtain ⟨x,rfl⟩:=aBf (show A.length=1 by omega)
  have hx:=hs x (by simp) (ctx++[⟨e.name,.mk 3 [e.ty,e.res],n⟩,⟨e.other,e.ty,n⟩]) n
  have hv:=h9 hk
  simp only [smF,fmF,hk,if_true,if_false,Int.reduceEq,List.map_cons,List.map_nil,Jb,hx,Lc,Mp]
  generalize tyT x (ctx++[⟨e.name,.mk 3 [e.ty,e.res],n⟩,⟨e.other,e.ty,n⟩]) n=b
  by_cases hb:Da b e.res=true
  ·have:=FE _ _ hb
   subst this
   rw [if_pos hb,hb,decide_eq_true (aFn (ER hv))]
   exact Ha _
  ·rw [if_neg hb]
   simp only [hb,Bool.and_false]
   exact CG
 ·simp only [hk,if_true,if_false,Int.reduceEq] at hl
  obtain ⟨x,rfl⟩:=aBf (show A.length=1 by omega)
  have hx:=hs x (by simp) ctx (n+1)
  simp only [smF,fmF,hk,if_true,if_false,Int.reduceEq,List.map_cons,List.map_nil,Jb,hx,Lc,Mp,decide_eq_true_eq]
  by_cases h0:(tyT x ctx (n+1)).kind=0
  ·simp only [h0,ne_eq,not_true_eq_false,if_true,if_false]
   exact CG
  ·simp only [h0,ne_eq,not_false_eq_true,if_true,if_false]
   exact Ha _
 ·simp only [hk,if_true,if_false,Int.reduceEq] at hl
  obtain ⟨x,rfl⟩:=aBf (show A.length=1 by omega)
  have hx:=hs x (by simp) ctx (n-1)
  simp only [smF,fmF,hk,if_true,if_false,Int.reduceEq,List.map_cons,List.map_nil,Jb,hx,Lc,Mp,decide_eq_true_eq,Ln]
  by_cases h0:(tyT x ctx (n-1)).kind=4
  ·simp only [h0,ne_eq,if_true,Int.reduceEq,not_false_eq_true]
   exact Ha _
  ·simp only [h0,if_false]
   split <;> exact CG
 ·simp only [hk,if_true,if_false,Int.reduceEq] at hl
  obtain ⟨x,rfl⟩:=aBf (show A.length=1 by omega)
  have hx:=hs x (by simp) (Bp ctx n ctx.length) n
  simp only [smF,fmF,hk,if_true,if_false,Int.reduceEq,List.map_cons,List.map_nil,Jb,hx,Lc,Mp,decide_eq_true_eq,Ln]
  by_cases h0:(tyT x (Bp ctx n ctx.length) n).kind=4
  ·simp only [h0,ne_eq,if_true,Int.reduceEq,not_false_eq_true]
   exact Ha _
  ·simp only [h0,if_false]
   split <;> exact CG
 ·simp only [hk,if_true,if_false,Int.reduceEq] at hl
  obtain ⟨x,rfl⟩:=aBf (show A.length=1 by omega)
  have hx:=hs x (by simp) ctx n
  simp only [smF,fmF,hk,if_true,if_false,Int.reduceEq,List.map_cons,List.map_nil,Jb,hx,Lc,Mp,decide_eq_true_eq]
  have zx:=Gg x ctx n
  generalize tyT x ctx n=b at *
  by_cases h0:b.kind=0
  ·have hb:Dg b=false:=by unfold Dg;rw [h0];rfl
   simp only [h0,hb,ne_eq,not_true_eq_false,if_false,Bool.false_eq_true]
   exact CG
  ·simp only [h0,ne_eq,not_false_eq_true,if_true]
   cases Dg b with
   | true=>simp only [if_true];exact Ha _
   | false=>simp only [Bool.false_eq_true,if_false];exact CG
set_option maxRecDepth 20000
mutual
theorem II:∀ t:Ty,szL (tyC t)+1=szT t
 | .mk k xs=>by
  have:=TB xs
  rw [szT]
  simp only [tyC,szL,szD]
  omega
theorem TB:∀ xs:List Ty,szL (Ai xs)+xs.length=GL xs
 | []=>rfl
 | x :: xs=>by
  have h1:=II x
  have h2:=TB xs
  rw [Ai,Ah,GL,List.length_cons];omega
end
theorem Xz {t:Ty} (h:vTy t=true):szL (tyC t)≤29:=by
 have:=II t
 unfold vTy at h
 simp only [Bool.and_eq_true,decide_eq_true_eq] at h
 omega
theorem Ew {t:Ty} (h:Zv t):szL (tyC t)≤29:=by
 rcases h with rfl | h
 ·exact Nat.zero_le _
 ·exact Xz h
def DG (ctx:List Tg) (e:Tm):Prop:=ctx.length+szL (flC tgC ctx)+200 * (szL (tmC e)+1)≤1000000000
theorem aEi {e:Tm} {k:Nat} (h:k<e.args.length):szL (tmC e.args[k]!)+1≤szL (tmC e):=by
 have:=Bv e.args k h
 rw [BM e];omega
theorem Lo (g:Tg):szL (tgC g)=g.name.size+szL (tyC g.ty):=by
 rw [Au];simp only [tgC,szL,szD,GB];try omega
theorem DG.part {ctx:List Tg} {e x:Tm} (h:DG ctx e) (hx:szL (tmC x)+1≤szL (tmC e)):DG ctx x:=by unfold DG at *; omega
theorem DG.bind {ctx gs:List Tg} {e x:Tm} (h:DG ctx e) (hx:szL (tmC x)+1≤szL (tmC e)) (hg:gs.length+szL (flC tgC gs)≤200):DG (ctx++gs) x:=by
 unfold DG at *
 rw [AM,Ah,List.length_append];omega
theorem RY (xs:List Tg) (n:Int):∀ k,k≤xs.length→(Bp xs n k).length+szL (flC tgC (Bp xs n k))≤k+szL (flC tgC (xs.take k))
 | 0,_=>Nat.le_refl _
 | k+1,h=>by
  have ih:=RY xs n k (by omega)
  rw [Bp,AH xs k (by omega),AM,Ah,AA]
  split
  ·rw [AM,Ah,AA,List.length_append];simp only [List.length_cons,List.length_nil];omega
  ·omega
theorem DG.safe {ctx:List Tg} {e x:Tm} {n:Int} (h:DG ctx e) (hx:szL (tmC x)+1≤szL (tmC e)):DG (Bp ctx n ctx.length) x:=by
 have:=RY ctx n ctx.length (Nat.le_refl _)
 rw [List.take_length] at this
 unfold DG at *
 omega
theorem TL {ctx:List Tg} {i:Nat} (h:i<ctx.length):szL (tyC (ctx[i]!).ty)≤szL (flC tgC ctx):=by
 have h1:=QU tgC ctx ctx[i]! (Ab h)
 rw [Lo] at h1;omega
theorem KF (xs:List Tg) (s:ByteArray):∀ k,k≤xs.length → -1≤BH xs s k∧BH xs s k<k
 | 0,_=>by rw [BH];omega
 | k+1,h=>by
  have:=KF xs s k (by omega)
  rw [BH];split <;> omega
theorem VI {s:ByteArray} (h:nmB s=true):s.size≤4:=by
 unfold nmB at h;simp only [Bool.and_eq_true,decide_eq_true_eq] at h;omega
theorem Vc {e:Tm} (h:EO e=true):(e.kind=6→nmB e.name=true)∧(e.kind=8→nmB e.name=true)∧(e.kind=9→nmB e.name=true∧nmB e.other=true):=by
 rw [Gy] at h
 simp only [Bool.and_eq_true,decide_eq_true_eq] at h
 obtain ⟨_,hn,_⟩:=h
 unfold WP at hn
 refine ⟨fun hk => ?_,fun hk => ?_,fun hk => ?_⟩
 all_goals simp only [hk,if_true,if_false,Int.reduceEq,Bool.and_eq_true] at hn
 ·exact hn.1
 ·exact hn
 ·exact ⟨hn.1,hn.2.1⟩
theorem BX {α β:Type} [Inhabited α] [Inhabited β] (f:α→β) (l:List α) (i:Nat) (h:i<l.length):(l.map f)[i]! = f l[i]! := AU f h
theorem UI {e:Tm} {k:Nat} {n m:Int} (h:rgL e n) (hk:k<e.args.length) (hm:n-1≤m∧m≤n+1):rgL e.args[k]! m:=by
 have:=aEi hk
 unfold rgL at *; omega
theorem Ko {p:Tm→Bool} {e:Tm} {k:Nat} (h:Bn p e=true) (hk:k<e.args.length):Bn p e.args[k]! = true:=by
 have key:∀ (l:List Tm),BV p l=true→∀ x ∈ l,Bn p x=true:=by
  intro l
  induction l with
  | nil=>intro _ x hx;cases hx
  | cons y l ih =>
   intro h x hx
   rw [BV,Bool.and_eq_true] at h
   rcases List.mem_cons.1 hx with rfl | hx
   ·exact h.1
   ·exact ih h.2 x hx
 rw [Cv,Bool.and_eq_true] at h
 exact key _ h.2 _ (Ab hk)
theorem LT (a b:Ty):szL (tyC (.mk 3 [a,b]))=szL (tyC a)+szL (tyC b)+2:=by
 have h:=II (.mk 3 [a,b])
 have ha:=II a
 have hb:=II b
 rw [szT,GL,GL,GL] at h;omega
theorem Iq (a:Ty):szL (tyC (.mk 4 [a]))=szL (tyC a)+1:=by
 have h:=II (.mk 4 [a])
 have ha:=II a
 rw [szT,GL,GL] at h;omega
theorem Pq {t:Ty} (h:Zv t):szL (tyC (Ln t))≤29:=by
 have h0:=Ew (t:=z0) (.inl rfl)
 unfold Ln
 split
 ·rename_i hk
  have hv:=Pz h (by omega)
  rcases FY (ER hv) with ⟨q,_⟩ | ⟨q,_⟩ | ⟨q,_⟩ | ⟨_,u,hu,_⟩
  ·omega
  ·omega
  ·omega
  ·have h1:=Xz hv
   rw [IV hk hu,Iq] at h1
   rw [hu]
   show szL (tyC u)≤29
   omega
 ·exact h0
theorem XM {p:Prop} [Decidable p] {a b:Ty} {n:Nat} (ha:szL (tyC a)≤n) (hb:szL (tyC b)≤n):szL (tyC (if p then a else b))≤n:=by
 split
 ·exact ha
 ·exact hb
def lvB (e:Tm):Bool:=Bn EO e && Jx okB e 0
def toB (e:Tm):Bool:=lvB e && decide ((tyT e [] 0).kind≠0)
theorem rg0 {e:Tm} (hz:szL (tmC e)≤2000000):rgL e 0:=by unfold rgL;omega
theorem WG:Con prog 202 [] [.ag (tyC tB)]:=by
 refine Af func202 rfl rfl (by simp [ntmps202]) ?_
 refine byP (fc ntmps202 results202) ?_
 exact ⟨rfl,rfl,rfl⟩
theorem Vu:Con prog 201 [] [.ag (tyC tIq)]:=by
 refine Af func201 rfl rfl (by simp [ntmps201]) ?_
 refine byP (fc ntmps201 results201) ?_
 exact ⟨rfl,rfl,rfl⟩
theorem Ib:Bc prog 202 [] [] [.ag [.r (.int 2),.r (.rows 2 0 [])]]:=Jj WG trivial
theorem LZ:Bc prog 201 [] [] [.ag [.r (.int 1),.r (.rows 2 0 [])]]:=Jj Vu trivial
theorem Gw (xs:List Tg) (g:Tg) (hl:xs.length≤2000000000):Bc prog 257 [.b (.one (.rows 4 xs.length (flC tgC xs))),.b (.one (.str g.name)),.b (.ag [.int g.ty.kind,.rows 2 g.ty.args.length (Ai g.ty.args)]),.b (.one (.int g.level))] [] [.one (.r (.rows 4 (xs++[g]).length (flC tgC (xs++[g]))))]:=by
 rw [List.length_append,AM,AA]
 simp only [tgC,GB,List.length_cons,List.length_nil,Nat.zero_add]
 refine BZ [0,1,2,3,4,5] func257 rfl rfl (by simp [ntmps257]) rfl ?_
 refine byP (fc ntmps257 results257) ?_
 exact ⟨⟨fun _ _=>trivial,by unfold maxLen;omega,by omega⟩,fun o h=>by omega,by unfold maxLen;omega,by omega⟩
set_option maxHeartbeats 2000000 in
theorem ZC (s:ByteArray) (l:List Ty) (hl:l.length≤2000000000):Bc prog 267 [.b (.one (.str s)),.b (.one (.rows 2 l.length (Ai l)))] [] [.ag [.r (.int (opS s l).1.kind),.r (.rows 2 (opS s l).1.args.length (Ai (opS s l).1.args))],.one (.r (.bool (opS s l).2))]:=by
 by_cases c1:s=⟨#[38]⟩∨s=⟨#[124]⟩∨s=⟨#[33]⟩
 ·have e1:PR s=2:=by unfold PR aBC oOr aCm;rw [if_pos c1]
  have n1:(s=⟨#[43]⟩)=False:=eq_false (by rintro rfl;revert c1;decide)
  have n2:(s=⟨#[45]⟩)=False:=eq_false (by rintro rfl;revert c1;decide)
  have n3:(s=⟨#[42]⟩)=False:=eq_false (by rintro rfl;revert c1;decide)
  have e2:(if s=YQ∨s=aAL∨s=YX then tIq else tB)=tB:=by
   rw [if_neg];rintro (h | h | h)
   ·exact of_eq_false n1 h
   ·exact of_eq_false n2 h
   ·exact of_eq_false n3 h
  unfold opS
  rw [e1,e2]
  rcases pc (s=⟨#[38]⟩) with h1 | h1
  all_goals rcases pc (s=⟨#[124]⟩) with h2 | h2
  all_goals rcases pc (s=⟨#[33]⟩) with h3 | h3
  all_goals try (exfalso;exact c1.elim (of_eq_false h1) fun q=>q.elim (of_eq_false h2) (of_eq_false h3))
  all_goals
   refine Ad func267 rfl rfl (by simp [ntmps267]) rfl ?_
   refine byP (fc h1 (fc h2 (fc h3 (fc ntmps267 results267)))) ?_
   refine Al (fun k:Nat=>k≤l.length∧(l.take k).all (fun t=>decide (t.kind=2))=true) (fun k=>⟨44,[(7,.i k),(1,.br (.rows 2 l.length (Ai l))),(0,.s s),(6,.i 2),(5,.b false),(4,.bx 0 0)],[(0,[.i 0,.nl 2])],[],1,[]⟩) (fun k=>l.length-k) 0 id ⟨Nat.zero_le _,rfl⟩ (byP Int.natCast_zero tI) ?_
   rintro k ⟨hk,hall⟩
   by_cases hlt:k<l.length
   ·have hi:(k:Int)<(l.length:Int):=by omega
    have hR:=Ax l k hlt
    rw [Au] at hR
    have hst:(l.take (k+1)).all (fun t=>decide (t.kind=2))=decide ((l[k]!).kind=2):=by rw [AH l k hlt,List.all_append,hall];simp
    by_cases hb:(l[k]!).kind=2
    ·rw [decide_eq_true hb] at hst
     refine rG (fc hi (fc hR hb)) ?_
     exact ⟨by unfold inI;omega,k+1,id,⟨by omega,hst⟩,by omega,byQ tI⟩
    ·have hf:l.all (fun t=>decide (t.kind=2))=false:=by
      rw [List.all_eq_false]
      exact ⟨l[k]!,Ab hlt,by simpa using hb⟩
     rw [hf]
     refine rG (fc hi (fc hR (fc hb (fc ntmps267 results267)))) ?_
     exact ⟨rfl,rfl,rfl⟩
   ·have hi:¬ (k:Int)<(l.length:Int):=by omega
    obtain rfl:k=l.length:=by omega
    rw [List.take_length] at hall
    rw [hall]
    refine rG hi ?_
    refine rG (fc n1 (fc n2 n3)) ?_
    refine KR Ib ?_
    refine rG (fc ntmps267 results267) ?_
    exact ⟨rfl,rfl⟩
 ·have e1:PR s=1:=by unfold PR aBC oOr aCm;rw [if_neg c1]
  have h1:(s=⟨#[38]⟩)=False:=eq_false fun h=>c1 (.inl h)
  have h2:(s=⟨#[124]⟩)=False:=eq_false fun h=>c1 (.inr (.inl h))
  have h3:(s=⟨#[33]⟩)=False:=eq_false fun h=>c1 (.inr (.inr h))
  unfold opS
  rw [e1]
  by_cases c2:s=⟨#[43]⟩∨s=⟨#[45]⟩∨s=⟨#[42]⟩
  ·have e2:(if s=YQ∨s=aAL∨s=YX then tIq else tB)=tIq:=by unfold YQ aAL YX;rw [if_pos c2]
   rw [e2]
   rcases pc (s=⟨#[43]⟩) with n1 | n1
   all_goals rcases pc (s=⟨#[45]⟩) with n2 | n2
   all_goals rcases pc (s=⟨#[42]⟩) with n3 | n3
   all_goals try (exfalso;exact c2.elim (of_eq_false n1) fun q=>q.elim (of_eq_false n2) (of_eq_false n3))
   all_goals
    refine Ad func267 rfl rfl (by simp [ntmps267]) rfl ?_
    refine byP (fc h1 (fc h2 (fc h3 (fc ntmps267 results267)))) ?_
    refine Al (fun k:Nat=>k≤l.length∧(l.take k).all (fun t=>decide (t.kind=1))=true) (fun k=>⟨44,[(7,.i k),(1,.br (.rows 2 l.length (Ai l))),(0,.s s),(6,.i 1),(5,.b false),(4,.bx 0 0)],[(0,[.i 0,.nl 2])],[],1,[]⟩) (fun k=>l.length-k) 0 id ⟨Nat.zero_le _,rfl⟩ (byP Int.natCast_zero tI) ?_
    rintro k ⟨hk,hall⟩
    by_cases hlt:k<l.length
    ·have hi:(k:Int)<(l.length:Int):=by omega
     have hR:=Ax l k hlt
     rw [Au] at hR
     have hst:(l.take (k+1)).all (fun t=>decide (t.kind=1))=decide ((l[k]!).kind=1):=by rw [AH l k hlt,List.all_append,hall];simp
     by_cases hb:(l[k]!).kind=1
     ·rw [decide_eq_true hb] at hst
      refine rG (fc hi (fc hR hb)) ?_
      exact ⟨by unfold inI;omega,k+1,id,⟨by omega,hst⟩,by omega,byQ tI⟩
     ·have hf:l.all (fun t=>decide (t.kind=1))=false:=by
       rw [List.all_eq_false]
       exact ⟨l[k]!,Ab hlt,by simpa using hb⟩
      rw [hf]
      refine rG (fc hi (fc hR (fc hb (fc ntmps267 results267)))) ?_
      exact ⟨rfl,rfl,rfl⟩
    ·have hi:¬ (k:Int)<(l.length:Int):=by omega
     obtain rfl:k=l.length:=by omega
     rw [List.take_length] at hall
     rw [hall]
     refine rG hi ?_
     refine rG (fc n1 (fc n2 n3)) ?_
     refine KR LZ ?_
     refine rG (fc ntmps267 results267) ?_
     exact ⟨rfl,rfl⟩
  ·have e2:(if s=YQ∨s=aAL∨s=YX then tIq else tB)=tB:=by unfold YQ aAL YX;rw [if_neg c2]
   have n1:(s=⟨#[43]⟩)=False:=eq_false fun h=>c2 (.inl h)
   have n2:(s=⟨#[45]⟩)=False:=eq_false fun h=>c2 (.inr (.inl h))
   have n3:(s=⟨#[42]⟩)=False:=eq_false fun h=>c2 (.inr (.inr h))
   rw [e2]
   refine Ad func267 rfl rfl (by simp [ntmps267]) rfl ?_
   refine byP (fc h1 (fc h2 (fc h3 (fc ntmps267 results267)))) ?_
   refine Al (fun k:Nat=>k≤l.length∧(l.take k).all (fun t=>decide (t.kind=1))=true) (fun k=>⟨44,[(7,.i k),(1,.br (.rows 2 l.length (Ai l))),(0,.s s),(6,.i 1),(5,.b false),(4,.bx 0 0)],[(0,[.i 0,.nl 2])],[],1,[]⟩) (fun k=>l.length-k) 0 id ⟨Nat.zero_le _,rfl⟩ (byP Int.natCast_zero tI) ?_
   rintro k ⟨hk,hall⟩
   by_cases hlt:k<l.length
   ·have hi:(k:Int)<(l.length:Int):=by omega
    have hR:=Ax l k hlt
    rw [Au] at hR
    have hst:(l.take (k+1)).all (fun t=>decide (t.kind=1))=decide ((l[k]!).kind=1):=by rw [AH l k hlt,List.all_append,hall];simp
    by_cases hb:(l[k]!).kind=1
    ·rw [decide_eq_true hb] at hst
     refine rG (fc hi (fc hR hb)) ?_
     exact ⟨by unfold inI;omega,k+1,id,⟨by omega,hst⟩,by omega,byQ tI⟩
    ·have hf:l.all (fun t=>decide (t.kind=1))=false:=by
      rw [List.all_eq_false]
      exact ⟨l[k]!,Ab hlt,by simpa using hb⟩
     rw [hf]
     refine rG (fc hi (fc hR (fc hb (fc ntmps267 results267)))) ?_
     exact ⟨rfl,rfl,rfl⟩
   ·have hi:¬ (k:Int)<(l.length:Int):=by omega
    obtain rfl:k=l.length:=by omega
    rw [List.take_length] at hall
    rw [hall]
    refine rG hi ?_
    refine rG (fc n1 (fc n2 n3)) ?_
    refine KR Ib ?_
    refine rG (fc ntmps267 results267) ?_
    exact ⟨rfl,rfl⟩
def FoS (e:Tm) (l:List Ty) (r:Ty × Bool):Prop:=Bc prog 236 [.b (.ag (tmC e)),.b (.one (.rows 2 l.length (Ai l)))] [] [.ag [.r (.int r.1.kind),.r (.rows 2 r.1.args.length (Ai r.1.args))],.one (.r (.bool r.2))]
theorem aAy (e:Tm) (l:List Ty) (hl:l.length≤2000000000) (hk:e.kind=4):FoS e l (opS e.name l):=by
 have hO:=ZC e.name l hl
 unfold FoS
 generalize opS e.name l=r at *
 obtain ⟨T,b⟩:=r
 simp only at hO ⊢
 refine Ad func236 rfl rfl (by simp [ntmps236]) rfl ?_
 refine byP (fc hk (fc ntmps236 results236)) ?_
 refine KR hO ?_
 exact rG (fc ntmps236 results236) tI
theorem aAI (e:Tm) (l:List Ty) (hl:l.length=3) (hv:∀ t ∈ l,vTy t=true) (hk:e.kind=5):FoS e l (l[1]!,decide ((l[0]!).kind=2) && Da l[1]! l[2]!):=by
 obtain ⟨x,y,z,rfl⟩:=aI3 hl
 have hE:=FU y z (by have:=Xz (hv y (by simp));omega)
 have r0:rowAt 2 (Ai [x,y,z]) 0=tyC x:=by rw [Ax [x,y,z] 0 (by simp)];rfl
 have r1:rowAt 2 (Ai [x,y,z]) 1=tyC y:=by rw [Ax [x,y,z] 1 (by simp)];rfl
 have r2:rowAt 2 (Ai [x,y,z]) 2=tyC z:=by rw [Ax [x,y,z] 2 (by simp)];rfl
 rw [Au] at r0 r1 r2
 have i0:((0:Int)<(([x,y,z]:List Ty).length:Int)):=by simp
 have i1:((1:Int)<(([x,y,z]:List Ty).length:Int)):=by simp
 have i2:((2:Int)<(([x,y,z]:List Ty).length:Int)):=by simp
 rw [Au] at hE
 rw [Au] at hE
 simp only [GB] at hE
 show FoS e [x,y,z] (y,decide (x.kind=2) && Da y z)
 unfold FoS
 by_cases h2:x.kind=2
 ·rw [decide_eq_true h2,Bool.true_and]
  generalize Da y z=b at *
  refine Ad func236 rfl rfl (by simp [ntmps236]) rfl ?_
  refine byP (fc hk (fc ntmps236 results236)) ?_
  refine Ac (oT [0,1,2,3,4,5,6,7,8,9,10,11,12,13,14] (.cons 15 false (.fork (.alt 16 (.cons 17 false (.cons 18 true .nil)) (.alt 17 (oT [16,18] .nil) .last))))) (by kernel_rfl) Ar (by kernel_rfl) ?_
  refine rG (fc i0 (fc i1 (fc i2 (fc r0 (fc r1 (fc r2 h2)))))) ?_
  repeat' (with_reducible apply And.intro)
  all_goals
   refine KD hE ?_
  all_goals
   refine rG (fc ntmps236 results236) ?_
  exact Fi
 ·rw [decide_eq_false h2,Bool.false_and]
  refine Ad func236 rfl rfl (by simp [ntmps236]) rfl ?_
  refine byP (fc hk (fc ntmps236 results236)) ?_
  refine Ac (oT [0,1,2,3,4,5,6,7,8,9,10,11,12,13,14] (.cons 15 false (.fork (.alt 16 (.cons 17 false (.cons 18 true .nil)) (.alt 17 (oT [16,18] .nil) .last))))) (by kernel_rfl) Ar (by kernel_rfl) ?_
  refine rG (fc i0 (fc i1 (fc i2 (fc r0 (fc r1 (fc r2 (fc h2 (fc ntmps236 results236)))))))) ?_
  exact Fi
theorem ZR (e:Tm) (l:List Ty) (hl:l.length=2) (hv:∀ t ∈ l,vTy t=true) (hk:e.kind=7):FoS e l (if (l[0]!).kind=3 then (if Da (l[0]!).args[0]! l[1]! = true then ((l[0]!).args[1]!,true) else no2) else no2):=by
 obtain ⟨x,y,rfl⟩:=aHN hl
 have r0:rowAt 2 (Ai [x,y]) 0=tyC x:=by rw [Ax [x,y] 0 (by simp)];rfl
 have r1:rowAt 2 (Ai [x,y]) 1=tyC y:=by rw [Ax [x,y] 1 (by simp)];rfl
 rw [Au] at r0 r1
 have i0:((0:Int)<(([x,y]:List Ty).length:Int)):=by simp
 have i1:((1:Int)<(([x,y]:List Ty).length:Int)):=by simp
 show FoS e [x,y] (if x.kind=3 then (if Da x.args[0]! y=true then (x.args[1]!,true) else no2) else no2)
 unfold FoS
 by_cases h3:x.kind=3
 case neg =>
  rw [if_neg h3]
  refine Ad func236 rfl rfl (by simp [ntmps236]) rfl ?_
  refine byP (fc hk (fc ntmps236 results236)) ?_
  refine Ac (oT [0,1,2,3,4,5,6,7,8,9,10,11,12,13,14] (.cons 15 false (.cons 16 true .nil))) (by kernel_rfl) Ar (by kernel_rfl) ?_
  refine rG (fc i0 (fc i1 (fc r0 (fc r1 (fc h3 (fc ntmps236 results236)))))) ?_
  exact ⟨⟨rfl,rfl,rfl⟩,rfl⟩
 rw [if_pos h3]
 have hvx:=hv x (by simp)
 obtain ⟨u,v,hu⟩:∃ u v,x.args=[u,v]:=by
  rcases FY (ER hvx) with ⟨q,_⟩ | ⟨q,_⟩ | ⟨_,u,v,hu,_⟩ | ⟨q,_⟩
  ·omega
  ·omega
  ·exact ⟨u,v,hu⟩
  ·omega
 have hsz:=Xz hvx
 rw [IV h3 hu,LT] at hsz
 have s0:rowAt 2 (Ai [u,v]) 0=tyC u:=by rw [Ax [u,v] 0 (by simp)];rfl
 have s1:rowAt 2 (Ai [u,v]) 1=tyC v:=by rw [Ax [u,v] 1 (by simp)];rfl
 have hE:=FU u y (by omega)
 have hO:=Jj (Ba v (by omega)) trivial
 rw [Au] at hE hO s0 s1
 rw [Au] at hE
 simp only [GB] at hE
 simp only [List.map,toR,GB] at hO
 rw [hu] at r0
 rw [show (if Da x.args[0]! y=true then (x.args[1]!,true) else no2)=(if Da u y=true then (v,true) else no2) from by rw [hu];rfl]
 have j0:((0:Int)<(([u,v]:List Ty).length:Int)):=by simp
 have j1:((1:Int)<(([u,v]:List Ty).length:Int)):=by simp
 by_cases b1:Da u y=true
 case neg =>
  rw [if_neg b1]
  rw [show Da u y=false by simpa using b1] at hE
  refine Ad func236 rfl rfl (by simp [ntmps236]) rfl ?_
  refine byP (fc hk (fc ntmps236 results236)) ?_
  refine Ac (oT [0,1,2,3,4,5,6,7,8,9,10,11,12,13,14] (.cons 15 false (.cons 16 true .nil))) (by kernel_rfl) Ar (by kernel_rfl) ?_
  refine rG (fc i0 (fc i1 (fc r0 (fc r1 (fc h3 (fc j0 (fc j1 (fc s0 s1)))))))) ?_
  refine KD hE ?_
  refine rG (fc ntmps236 results236) ?_
  exact ⟨⟨rfl,rfl,rfl⟩,rfl⟩
 case pos =>
  rw [if_pos b1]
  rw [b1] at hE
  refine Ad func236 rfl rfl (by simp [ntmps236]) rfl ?_
  refine byP (fc hk (fc ntmps236 results236)) ?_
  refine Ac (oT [0,1,2,3,4,5,6,7,8,9,10,11,12,13,14] (.cons 15 false (.cons 16 true .nil))) (by kernel_rfl) Ar (by kernel_rfl) ?_
  refine rG (fc i0 (fc i1 (fc r0 (fc r1 (fc h3 (fc j0 (fc j1 (fc s0 s1)))))))) ?_
  refine KD hE ?_
  refine rG (fc i0 (fc i1 (fc r0 (fc r1 (fc h3 (fc j0 (fc j1 (fc s0 s1)))))))) ?_
  refine KR hO ?_
  exact rG (fc ntmps236 results236) tI
theorem RK (e:Tm) (ctx:List Tg) (n:Int) (T:Ty) (b:Bool) (hz:szL (tyC T)≤1000000000) (hS:Bc prog 174 [.b (.one (.rows 4 ctx.length (flC tgC ctx))),.b (.ag (tmC e)),.b (.one (.int n))] [] [.ag [.r (.int T.kind),.r (.rows 2 T.args.length (Ai T.args))],.one (.r (.bool b))]):Bc prog 87 [.b (.one (.rows 4 ctx.length (flC tgC ctx))),.b (.ag (tmC e)),.b (.one (.int n))] [] [.ag [.r (.int (vd2 (T,b)).1.kind),.r (.rows 2 (vd2 (T,b)).1.args.length (Ai (vd2 (T,b)).1.args))],.one (.r (.bool (vd2 (T,b)).2))]:=by
 have hV:=EQ T hz
 rw [Ak] at hS
 rw [Au] at hV
 unfold vd2
 cases b with
 | false =>
  simp only [Bool.false_eq_true,if_false]
  refine Ad func87 rfl rfl (by simp [ntmps87]) rfl ?_
  refine byP (fc ntmps87 results87) ?_
  refine KR hS ?_
  refine rG (fc ntmps87 results87) ?_
  exact ⟨⟨rfl,rfl,rfl⟩,rfl⟩
 | true =>
  simp only [if_true]
  cases hv:vTy T with
  | false =>
   rw [hv] at hV
   simp only [Bool.false_eq_true,if_false]
   refine Ad func87 rfl rfl (by simp [ntmps87]) rfl ?_
   refine byP (fc ntmps87 results87) ?_
   refine KR hS ?_
   refine rQ ?_
   refine Kc hV ?_
   refine rG (fc ntmps87 results87) ?_
   exact ⟨⟨rfl,rfl,rfl⟩,rfl⟩
  | true =>
   rw [hv] at hV
   simp only [if_true]
   refine Ad func87 rfl rfl (by simp [ntmps87]) rfl ?_
   refine byP (fc ntmps87 results87) ?_
   refine KR hS ?_
   refine rQ ?_
   refine Kc hV ?_
   exact rG (fc ntmps87 results87) tI
def BiS (e:Tm) (ctx:List Tg) (n:Int) (T:Ty) (b:Bool):Prop:=Bc prog 234 [.b (.one (.rows 4 ctx.length (flC tgC ctx))),.b (.ag (tmC e)),.b (.one (.int n))] [] [.ag [.r (.int T.kind),.r (.rows 2 T.args.length (Ai T.args))],.one (.r (.bool b))]
set_option maxHeartbeats 4000000 in
theorem YH (e:Tm) (ctx:List Tg) (n:Int) (hk:e.kind=6) (hl:e.args.length=1) (hc:DG ctx e) (hy:szL (tyC e.ty)≤1000000) (B:Ty) (zB:Zv B) (h0:Bc prog 87 [.b (.one (.rows 4 (ctx++[(⟨e.name,e.ty,n⟩:Tg)]).length (flC tgC (ctx++[(⟨e.name,e.ty,n⟩:Tg)])))),.b (.ag (tmC e.args[0]!)),.b (.one (.int n))] [] [.ag [.r (.int B.kind),.r (.rows 2 B.args.length (Ai B.args))],.one (.r (.bool (decide (B.kind≠0))))]):BiS e ctx n (.mk 3 [e.ty,B]) (decide (B.kind≠0)):=by
 have hcl:ctx.length≤1000000000∧szL (flC tgC ctx)≤1000000000:=by
  unfold DG at hc;omega
 unfold BiS
 have i0:(0:Int)<(e.args.length:Int):=by omega
 have r0:=Aj e.args 0 (by omega)
 have hW:=Gw ctx ⟨e.name,e.ty,n⟩ (by omega)
 have hO:=Jj (In e.ty B (by omega) (by have:=Ew zB;omega)) trivial
 simp only at hW
 generalize ctx++[(⟨e.name,e.ty,n⟩:Tg)]=ctx' at *
 rw [Au,Au] at hO
 simp only [List.map_cons,List.map_nil,toR,GB,tyC,List.length_cons,List.length_nil,Nat.zero_add,Nat.reduceAdd] at hO
 rw [Ak] at h0
 generalize decide (B.kind≠0)=b at *
 refine Ad func234 rfl rfl (by simp [ntmps234]) rfl ?_
 refine byP (fc hk (fc ntmps234 results234)) ?_
 refine Ac (oT [0,1,2,3,4,5,7,8,9,10,11] (.fork (.alt 6 (.fork (.alt 12 (oT [13,14] (.fork (.alt 15 (oF [16,17] (.cons 18 true .nil)) (.alt 16 (.fork (.alt 15 (.cons 17 false (.cons 18 true .nil)) (.alt 17 (oT [15,18] .nil) .last))) .last)))) (.alt 16 (.cons 12 false (oT [13,14] (.fork (.alt 15 (.cons 17 false (.cons 18 true .nil)) (.alt 17 (oT [15,18] .nil) .last))))) .last))) (.alt 16 (oF [6,12] (oT [13,14] (.fork (.alt 15 (.cons 17 false (.cons 18 true .nil)) (.alt 17 (oT [15,18] .nil) .last))))) .last)))) (by kernel_rfl) Ar (by kernel_rfl) ?_
 refine rG (fc i0 r0) ?_
 repeat' (with_reducible apply And.intro)
 all_goals
  refine KB hW ?_
  refine rG (fc i0 r0) ?_
 repeat' (with_reducible apply And.intro)
 all_goals
  refine KB h0 ?_
 all_goals
  refine rG hk ?_
 repeat' (with_reducible apply And.intro)
 all_goals
  refine KR hO ?_
 all_goals
  refine rG (fc ntmps234 results234) ?_
 repeat' (with_reducible apply And.intro)
 all_goals first | exact tI | rfl
set_option maxHeartbeats 4000000 in
theorem aAT (e:Tm) (ctx:List Tg) (n:Int) (hk:e.kind=8) (hl:e.args.length=2) (hc:DG ctx e) (A:Ty) (zA:Zv A) (h0:Bc prog 87 [.b (.one (.rows 4 ctx.length (flC tgC ctx))),.b (.ag (tmC e.args[0]!)),.b (.one (.int n))] [] [.ag [.r (.int A.kind),.r (.rows 2 A.args.length (Ai A.args))],.one (.r (.bool (decide (A.kind≠0))))]) (B:Ty) (h1:Bc prog 87 [.b (.one (.rows 4 (ctx++[(⟨e.name,A,n⟩:Tg)]).length (flC tgC (ctx++[(⟨e.name,A,n⟩:Tg)])))),.b (.ag (tmC e.args[1]!)),.b (.one (.int n))] [] [.ag [.r (.int B.kind),.r (.rows 2 B.args.length (Ai B.args))],.one (.r (.bool (decide (B.kind≠0))))]):BiS e ctx n (if A.kind≠0 then B else z0) (if A.kind≠0 then decide (B.kind≠0) else false):=by
 have hcl:ctx.length≤1000000000∧szL (flC tgC ctx)≤1000000000:=by
  unfold DG at hc;omega
 unfold BiS
 have i0:(0:Int)<(e.args.length:Int):=by omega
 have r0:=Aj e.args 0 (by omega)
 have i1:(1:Int)<(e.args.length:Int):=by omega
 have r1:=Aj e.args 1 (by omega)
 have hW:=Gw ctx ⟨e.name,A,n⟩ (by omega)
 simp only at hW
 generalize ctx++[(⟨e.name,A,n⟩:Tg)]=ctx' at *
 rw [Ak] at h0 h1
 generalize decide (B.kind≠0)=b at *
 by_cases hb:A.kind≠0
 case neg =>
  rw [if_neg hb,if_neg hb]
  rw [decide_eq_false hb] at h0
  refine Ad func234 rfl rfl (by simp [ntmps234]) rfl ?_
  refine byP (fc hk (fc i0 (fc r0 (fc ntmps234 results234)))) ?_
  refine KR h0 ?_
  refine rG (fc ntmps234 results234) ?_
  repeat' (with_reducible apply And.intro)
  all_goals first | exact tI | rfl
 rw [if_pos hb,if_pos hb]
 rw [decide_eq_true hb] at h0
 refine Ad func234 rfl rfl (by simp [ntmps234]) rfl ?_
 refine byP (fc hk (fc i0 (fc r0 (fc ntmps234 results234)))) ?_
 refine KR h0 ?_
 refine rQ ?_
 refine Ac (oT [0,1,2,3,4,6,7,8,9,10] (.fork (.alt 5 (.fork (.alt 11 (oT [12,13] (.fork (.alt 14 (oF [15,16] (.cons 17 true .nil)) (.alt 15 (.fork (.alt 14 (.cons 16 false (.cons 17 true .nil)) (.alt 16 (oT [14,17] .nil) .last))) .last)))) (.alt 15 (.cons 11 false (oT [12,13] (.fork (.alt 14 (.cons 16 false (.cons 17 true .nil)) (.alt 16 (oT [14,17] .nil) .last))))) .last))) (.alt 15 (oF [5,11] (oT [12,13] (.fork (.alt 14 (.cons 16 false (.cons 17 true .nil)) (.alt 16 (oT [14,17] .nil) .last))))) .last)))) (by kernel_rfl) Ar (by kernel_rfl) ?_
 refine rG (fc i1 r1) ?_
 repeat' (with_reducible apply And.intro)
 all_goals
  refine KB hW ?_
  refine rG (fc i1 r1) ?_
 repeat' (with_reducible apply And.intro)
 all_goals
  refine KB h1 ?_
 all_goals
  refine rG (fc ntmps234 results234) ?_
 repeat' (with_reducible apply And.intro)
 all_goals first | exact tI | rfl
set_option maxHeartbeats 4000000 in
theorem YO (e:Tm) (ctx:List Tg) (n:Int) (hk:e.kind=9) (hl:e.args.length=1) (hc:DG ctx e) (hy:szL (tyC e.ty)≤1000000) (hy2:szL (tyC e.res)≤1000000) (B:Ty) (zB:Zv B) (h0:Bc prog 87 [.b (.one (.rows 4 (ctx++[(⟨e.name,.mk 3 [e.ty,e.res],n⟩:Tg),⟨e.other,e.ty,n⟩]).length (flC tgC (ctx++[(⟨e.name,.mk 3 [e.ty,e.res],n⟩:Tg),⟨e.other,e.ty,n⟩])))),.b (.ag (tmC e.args[0]!)),.b (.one (.int n))] [] [.ag [.r (.int B.kind),.r (.rows 2 B.args.length (Ai B.args))],.one (.r (.bool (decide (B.kind≠0))))]):BiS e ctx n (.mk 3 [e.ty,e.res]) (decide (B.kind≠0) && Da B e.res):=by
 have hcl:ctx.length≤1000000000∧szL (flC tgC ctx)≤1000000000:=by
  unfold DG at hc;omega
 unfold BiS
 have i0:(0:Int)<(e.args.length:Int):=by omega
 have r0:=Aj e.args 0 (by omega)
 have hW:=Gw ctx ⟨e.name,.mk 3 [e.ty,e.res],n⟩ (by omega)
 have hW2:=Gw (ctx++[⟨e.name,.mk 3 [e.ty,e.res],n⟩]) ⟨e.other,e.ty,n⟩ (by simp;omega)
 have hO:=Jj (In e.ty e.res (by omega) (by omega)) trivial
 have hE:=FU B e.res (by have:=Ew zB;omega)
 rw [List.append_assoc,show [(⟨e.name,.mk 3 [e.ty,e.res],n⟩:Tg)]++[⟨e.other,e.ty,n⟩]=[⟨e.name,.mk 3 [e.ty,e.res],n⟩,⟨e.other,e.ty,n⟩] from rfl] at hW2
 simp only at hW hW2
 generalize ctx++[(⟨e.name,.mk 3 [e.ty,e.res],n⟩:Tg),⟨e.other,e.ty,n⟩]=ctx2 at *
 generalize ctx++[(⟨e.name,.mk 3 [e.ty,e.res],n⟩:Tg)]=ctx1 at *
 rw [show (Ty.mk 3 [e.ty,e.res]).kind=3 from rfl,show (Ty.mk 3 [e.ty,e.res]).args=[e.ty,e.res] from rfl] at hW
 simp only [List.length_cons,List.length_nil,Nat.zero_add,Nat.reduceAdd] at hW
 rw [Au,Au] at hO
 simp only [List.map_cons,List.map_nil,toR,GB,tyC,List.length_cons,List.length_nil,Nat.zero_add,Nat.reduceAdd] at hO
 rw [Ak] at h0
 rw [Au] at hE
 rw [Au] at hE
 simp only [GB] at hE
 generalize Da B e.res=c at *
 by_cases hb:B.kind≠0
 case pos =>
  rw [decide_eq_true hb] at h0 ⊢
  rw [Bool.true_and]
  refine Ad func234 rfl rfl (by simp [ntmps234]) rfl ?_
  refine byP (fc hk (fc ntmps234 results234)) ?_
  refine KR hO ?_
  refine rQ ?_
  refine Ac (oT [0,1,2,3,4,6,7,8,9,10,12,13,14,15,16] (.fork (.alt 5 (.fork (.alt 11 (.fork (.alt 17 (oT [18,19] (.fork (.alt 20 (oF [21,22] (.cons 23 true .nil)) (.alt 21 (.fork (.alt 20 (.cons 22 false (.cons 23 true .nil)) (.alt 22 (oT [20,23] .nil) .last))) .last)))) (.alt 21 (.cons 17 false (oT [18,19] (.fork (.alt 20 (.cons 22 false (.cons 23 true .nil)) (.alt 22 (oT [20,23] .nil) .last))))) .last))) (.alt 21 (oF [11,17] (oT [18,19] (.fork (.alt 20 (.cons 22 false (.cons 23 true .nil)) (.alt 22 (oT [20,23] .nil) .last))))) .last))) (.alt 21 (oF [5,11,17] (oT [18,19] (.fork (.alt 20 (.cons 22 false (.cons 23 true .nil)) (.alt 22 (oT [20,23] .nil) .last))))) .last)))) (by kernel_rfl) Ar (by kernel_rfl) ?_
  refine rG (fc i0 r0) ?_
  repeat' (with_reducible apply And.intro)
  all_goals
   refine KB hW ?_
  all_goals
   refine rG (fc i0 r0) ?_
   repeat' (with_reducible apply And.intro)
  all_goals
   refine KB hW2 ?_
  all_goals
   refine rG (fc i0 r0) ?_
   repeat' (with_reducible apply And.intro)
  all_goals
   refine KB h0 ?_
  all_goals
   refine rQ ?_
   repeat' (with_reducible apply And.intro)
  all_goals
   refine Ac (oT [0,1,2,3,4,5] (.cons 6 false (.fork (.alt 7 (.cons 8 false (.cons 9 true .nil)) (.alt 8 (oT [7,9] .nil) .last))))) (by kernel_rfl) Ar (by kernel_rfl) ?_
   refine rQ ?_
   repeat' (with_reducible apply And.intro)
  all_goals
   refine KD hE ?_
  all_goals
   refine rG (fc ntmps234 results234) ?_
  repeat' (with_reducible apply And.intro)
  all_goals first | exact tI | rfl
 case neg =>
  rw [decide_eq_false hb] at h0 ⊢
  rw [Bool.false_and]
  refine Ad func234 rfl rfl (by simp [ntmps234]) rfl ?_
  refine byP (fc hk (fc ntmps234 results234)) ?_
  refine KR hO ?_
  refine rQ ?_
  refine Ac (oT [0,1,2,3,4,6,7,8,9,10,12,13,14,15,16] (.fork (.alt 5 (.fork (.alt 11 (.fork (.alt 17 (oT [18,19] (.fork (.alt 20 (oF [21,22] (.cons 23 true .nil)) (.alt 21 (.fork (.alt 20 (.cons 22 false (.cons 23 true .nil)) (.alt 22 (oT [20,23] .nil) .last))) .last)))) (.alt 21 (.cons 17 false (oT [18,19] (.fork (.alt 20 (.cons 22 false (.cons 23 true .nil)) (.alt 22 (oT [20,23] .nil) .last))))) .last))) (.alt 21 (oF [11,17] (oT [18,19] (.fork (.alt 20 (.cons 22 false (.cons 23 true .nil)) (.alt 22 (oT [20,23] .nil) .last))))) .last))) (.alt 21 (oF [5,11,17] (oT [18,19] (.fork (.alt 20 (.cons 22 false (.cons 23 true .nil)) (.alt 22 (oT [20,23] .nil) .last))))) .last)))) (by kernel_rfl) Ar (by kernel_rfl) ?_
  refine rG (fc i0 r0) ?_
  repeat' (with_reducible apply And.intro)
  all_goals
   refine KB hW ?_
  all_goals
   refine rG (fc i0 r0) ?_
   repeat' (with_reducible apply And.intro)
  all_goals
   refine KB hW2 ?_
  all_goals
   refine rG (fc i0 r0) ?_
   repeat' (with_reducible apply And.intro)
  all_goals
   refine KB h0 ?_
  all_goals
   refine rQ ?_
   repeat' (with_reducible apply And.intro)
  all_goals
   refine Ac (oT [0,1,2,3,4,5] (.cons 6 false (.fork (.alt 7 (.cons 8 false (.cons 9 true .nil)) (.alt 8 (oT [7,9] .nil) .last))))) (by kernel_rfl) Ar (by kernel_rfl) ?_
   refine rG (fc ntmps234 results234) ?_
   repeat' (with_reducible apply And.intro)
  repeat' (with_reducible apply And.intro)
  all_goals first | exact tI | rfl
end Go.Proofs.YtaidalilfmjfgaaGreat
