import Derived.Test.YtaidalilfmjfgaaGreatMaH
import Derived.Test.YtaidalilfmjfgaaGreatTvA
import Derived.Test.YtaidalilfmjfgaaGreatCode
import Derived.Test.YtaidalilfmjfgaaGreatRn
import Derived.Test.YtaidalilfmjfgaaGreatDrg
import Derived.Test.YtaidalilfmjfgaaGreatFvS
namespace Go.Proofs.YtaidalilfmjfgaaGreat
open Go.Proofs.Tryz
open Go.RowKit
set_option linter.unusedVariables false
set_option linter.unusedSimpArgs false
theorem aAn {C:List Ins} {q:Nat} {w:Vl} (hq:C[q]! = ⟨10,0⟩) (r n:Nat):(Jt C r n ⟨q,[w],[],[]⟩).s=2∨(Jt C r n ⟨q,[w],[],[]⟩=(if w.f=true then ⟨1,0,true,n+1⟩ else ⟨1,w.n,false,n+1⟩)):=by
 have hl:q<C.length:=by
  by_cases h:q<C.length
  ·exact h
  ·rw [getElem!_neg C q h] at hq
   exact absurd (congrArg Ins.op hq) (by decide)
 cases r with
 | zero=>left;rw [Jt]
 | succ r =>
  right
  have e:exM (pcM ⟨q,[w],[],[]⟩ ((q:Int)+1)) (.num 0) ⟨10,0⟩=(1,⟨(q:Int)+1,[w],[],[]⟩,w):=rfl
  rw [Jt]
  simp only [Int.toNat_natCast]
  rw [hq,e,if_neg (by omega),if_neg (by simp only;decide),if_pos rfl]
theorem aCA {e v:Tm} (hok:(cmR e).2=true) (hm:Ms e v) (hv:vlB v=true) (hs:(Qp (cmR e).1 3000).s≠2):(Qp (cmR e).1 3000).s=1∧(Qp (cmR e).1 3000).f = !(decide (v.kind=2) || decide (v.kind=3))∧((Qp (cmR e).1 3000).f=false→(Qp (cmR e).1 3000).n=v.n):=by
 obtain ⟨hp,hf,q,hseg,hq⟩:=XQ hok
 have hins:=(aCt e).1
 have hlen:=Ry e
 obtain ⟨w,hr,hw⟩:=Yp hm hv hp hf hseg hq
 have hc:Hp (cmR e).1=true:=by
  unfold Hp
  rw [Bool.and_eq_true]
  exact ⟨decide_eq_true hlen,List.all_eq_true.2 hins⟩
 generalize (cmR e).1=C at *
 have hO:Qp C 3000=Jt C 3000 0 ⟨0,[],[],[]⟩:=by
  unfold Qp
  rw [hc];rfl
 rw [hO] at hs ⊢
 have hcase:((v.kind=2∨v.kind=3)∧w = .num v.n)∨((v.kind=6∨v.kind=9)∧w.f=true):=by
  cases hw with
  | num hk _ _=>exact .inl ⟨hk,rfl⟩
  | @fn t0 ns r vals c rc p hk _ _ _ _ _ _ _ _ _ =>
   have:=(Dw (e:=t0) r (by omega)).1
   exact .inr ⟨by omega,rfl⟩
 rcases aCe hr 3000 0 with h2 | ⟨r',n',h2⟩
 ·exact absurd h2 hs
 rcases aAn (w:=w) hq r' n' with h3 | h3
 ·exact absurd (by rw [h2];exact h3) hs
 rw [h2,h3]
 rcases hcase with ⟨hk,rfl⟩ | ⟨hk,hf⟩
 ·have hd:(decide (v.kind=2) || decide (v.kind=3))=true:=by simpa using hk
  rw [hd,IG,QQ]
  exact ⟨rfl,rfl,fun _=>rfl⟩
 ·have hd:(decide (v.kind=2) || decide (v.kind=3))=false:=by
   rw [decide_eq_false (by omega),decide_eq_false (by omega)];rfl
  rw [hd,if_pos hf]
  exact ⟨rfl,rfl,fun h=>by cases h⟩
def shN (t:Tm):Bool:=decide ((t.args.length:Int)=arF (-1) t.kind t.name) && ((!decide (t.kind=3) || (decide (0≤t.n) && decide (t.n≤1))) && ((!decide (t.kind=4) || decide (0<CQ t.name)) && (decide (t.name.size≤24) && (decide (t.other.size≤24) && (decide (szL (tyC t.ty)≤30) && decide (szL (tyC t.res)≤30))))))
structure Sh (t:Tm):Prop where
 ar:(t.args.length:Int)=arF (-1) t.kind t.name
 b3:t.kind=3→0≤t.n∧t.n≤1
 o4:t.kind=4→0<CQ t.name
 nm:t.name.size≤24
 ot:t.other.size≤24
 ty:szL (tyC t.ty)≤30
 rs:szL (tyC t.res)≤30
theorem RX {t:Tm}:shN t=true ↔ Sh t:=by
 unfold shN
 simp only [Bool.and_eq_true,Bool.or_eq_true,Bool.not_eq_true',decide_eq_true_eq,decide_eq_false_iff_not]
 constructor
 ·rintro ⟨h1,h2,h3,h4,h5,h6,h7⟩
  exact ⟨h1,fun h=>h2.resolve_left (fun g=>g h),fun h=>h3.resolve_left (fun g=>g h),h4,h5,h6,h7⟩
 ·rintro ⟨h1,h2,h3,h4,h5,h6,h7⟩
  refine ⟨h1, ?_, ?_,h4,h5,h6,h7⟩
  ·by_cases h:t.kind=3
   ·exact .inr (h2 h)
   ·exact .inl h
  ·by_cases h:t.kind=4
   ·exact .inr (h3 h)
   ·exact .inl h
def ShT (t:Tm):Prop:=Bn shN t=true
theorem On {p:Tm→Bool} {t:Tm} (h:p t=true) (ha:∀ x ∈ t.args,Bn p x=true):Bn p t=true:=by
 rw [Cv,h,Bool.true_and]
 have key:∀ l:List Tm,(∀ x ∈ l,Bn p x=true)→BV p l=true:=by
  intro l
  induction l with
  | nil=>intro _;rfl
  | cons x l ih=>intro h;rw [BV,h x (by simp),Bool.true_and];exact ih fun y hy=>h y (by simp [hy])
 exact key _ ha
theorem Pt {p q:Tm→Bool} (h:∀ t,p t=true→q t=true):∀ t,Bn p t=true→Bn q t=true:=by
 refine Tm.ind fun t ih hp => ?_
 obtain ⟨h1,h2⟩:=Fw hp
 exact On (h t h1) fun x hx=>ih x hx (h2 x hx)
theorem ShT.sh {t:Tm} (h:ShT t):Sh t:=RX.1 (Fw h).1
theorem ShT.arg {t:Tm} (h:ShT t):∀ x ∈ t.args,ShT x:=(Fw h).2
theorem MN {t:Tm} (h:Sh t) (ha:∀ x ∈ t.args,ShT x):ShT t:=On (RX.2 h) ha
theorem El {t:Tm} (h:Sh t):(t.kind=1∨t.kind=2∨t.kind=3→t.args.length=0)∧(t.kind=4→t.args.length=1∨t.args.length=2)∧(t.kind=5→t.args.length=3)∧(t.kind=6∨t.kind=9∨t.kind=10∨t.kind=11∨t.kind=12∨t.kind=13→t.args.length=1)∧(t.kind=7∨t.kind=8→t.args.length=2)∧1≤t.kind∧t.kind≤13:=by
 have ha:=h.ar
 have h4:=h.o4
 have ho:CQ t.name=0∨CQ t.name=1∨CQ t.name=2:=by
  unfold CQ
  repeat' split
  all_goals simp
 unfold arF at ha
 have hk:(t.args.length:Int) ≠ -1:=by omega
 refine ⟨fun h => ?_,fun h => ?_,fun h => ?_,fun h => ?_,fun h => ?_, ?_, ?_⟩
 ·rcases h with h | h | h <;> simp only [h,if_true,if_false,Int.reduceEq] at ha <;> omega
 ·have:=h4 h
  simp only [h,if_true,if_false,Int.reduceEq] at ha
  omega
 ·simp only [h,if_true,if_false,Int.reduceEq] at ha;omega
 ·rcases h with h | h | h | h | h | h <;> simp only [h,if_true,if_false,Int.reduceEq] at ha <;> omega
 ·rcases h with h | h <;> simp only [h,if_true,if_false,Int.reduceEq] at ha <;> omega
 ·refine Int.not_lt.1 fun g => ?_
  rw [if_neg (by omega),if_neg (by omega),if_neg (by omega),if_neg (by omega),if_neg (by omega),if_neg (by omega),if_neg (by omega),if_neg (by omega),if_neg (by omega),if_neg (by omega),if_neg (by omega),if_neg (by omega),if_neg (by omega)] at ha
  exact hk ha
 ·refine Int.not_lt.1 fun g => ?_
  rw [if_neg (by omega),if_neg (by omega),if_neg (by omega),if_neg (by omega),if_neg (by omega),if_neg (by omega),if_neg (by omega),if_neg (by omega),if_neg (by omega),if_neg (by omega),if_neg (by omega),if_neg (by omega),if_neg (by omega)] at ha
  exact hk ha
theorem XR (t:Ty):szL (tyC t)=t.args.length+szL (Ai t.args):=by
 obtain ⟨k,xs⟩:=t
 simp [tyC,szL,szD,Ty.args]
mutual
theorem Xs:∀ t:Ty,szL (tyC t)+1≤szT t
 | .mk k xs=>by
  have h:=Sw xs
  rw [XR,szT]
  show xs.length+szL (Ai xs)+1≤_
  omega
theorem Sw:∀ xs:List Ty,xs.length+szL (Ai xs)≤GL xs
 | []=>by simp [Ai,szL,GL]
 | x :: xs=>by
  have h1:=Xs x
  have h2:=Sw xs
  rw [GL,Ai,Ah,List.length_cons]
  omega
end
theorem Ta {t:Ty} (h:vTy t=true):szL (tyC t)≤30:=by
 unfold vTy at h
 rw [Bool.and_eq_true] at h
 have h1:=of_decide_eq_true h.1
 have h2:=Xs t
 omega
theorem Lg {s:ByteArray} (h:nmB s=true):s.size≤24:=by
 unfold nmB at h
 simp only [Bool.and_eq_true,decide_eq_true_eq] at h
 omega
theorem ZW {s:ByteArray} (h:0<CQ s):s.size≤24:=by
 rw [← Rv h]
 unfold opB
 repeat' split
 all_goals decide
theorem Rz {a:Ty} (h:Da a (.mk 0 [])=true):szL (tyC a)≤30:=by
 rw [Yi,Bool.and_eq_true] at h
 have h2:=h.2
 have hn:(Ty.mk 0 []).args=[]:=rfl
 rw [hn] at h2
 rw [XR]
 cases ha:a.args with
 | nil=>simp [Ai,szL]
 | cons x l=>rw [ha] at h2;simp [Fo] at h2
theorem aHt {t:Tm} (h:EO t=true):shN t=true:=by
 have h2:=h
 rw [YP,Bool.and_eq_true] at h2
 have har:=of_decide_eq_true h2.2
 rw [Gy] at h
 simp only [Bool.and_eq_true,decide_eq_true_eq] at h
 obtain ⟨_,hn,h3,h4,h5,h6,h7⟩:=h
 have e0:(⟨#[]⟩:ByteArray).size≤24:=by decide
 unfold WP at hn
 unfold wN at h3
 unfold wO at h4
 unfold wT at h6
 unfold wR at h7
 refine RX.2 ⟨har,fun hk => ?_,fun hk => ?_, ?_, ?_, ?_, ?_⟩
 ·simp only [hk,if_true,if_false,Int.reduceEq] at hn
  unfold rgB at hn
  simpa only [Bool.and_eq_true,decide_eq_true_eq] using hn
 ·simp only [hk,if_true,if_false,Int.reduceEq] at hn
  exact of_decide_eq_true hn
 ·by_cases k1:t.kind=1
  ·simp only [k1,if_true,if_false,Int.reduceEq] at hn;exact Lg hn
  by_cases k8:t.kind=8
  ·simp only [k8,if_true,if_false,Int.reduceEq] at hn;exact Lg hn
  by_cases k4:t.kind=4
  ·simp only [k4,if_true,if_false,Int.reduceEq] at hn;exact ZW (of_decide_eq_true hn)
  by_cases k6:t.kind=6
  ·simp only [k6,if_true,if_false,Int.reduceEq,Bool.and_eq_true] at hn;exact Lg hn.1
  by_cases k9:t.kind=9
  ·simp only [k9,if_true,if_false,Int.reduceEq,Bool.and_eq_true] at hn;exact Lg hn.1
  rw [if_neg k1,if_neg k8,if_neg k4,if_neg k6,if_neg k9] at h3
  rw [h3];exact e0
 ·by_cases k9:t.kind=9
  ·simp only [k9,if_true,if_false,Int.reduceEq,Bool.and_eq_true] at hn;exact Lg hn.2.1
  rw [if_neg k9] at h4
  rw [h4];exact e0
 ·by_cases k6:t.kind=6
  ·simp only [k6,if_true,if_false,Int.reduceEq,Bool.and_eq_true] at hn;exact Ta hn.2
  by_cases k9:t.kind=9
  ·simp only [k9,if_true,if_false,Int.reduceEq,Bool.and_eq_true] at hn;exact Ta hn.2.2.2.1
  rw [if_neg k6,if_neg k9] at h6
  exact Rz h6
 ·by_cases k9:t.kind=9
  ·simp only [k9,if_true,if_false,Int.reduceEq,Bool.and_eq_true] at hn;exact Ta hn.2.2.2.2
  rw [if_neg k9] at h7
  exact Rz h7
theorem aCR {t:Tm} (h:Bn EO t=true):ShT t:=Pt (fun _=>aHt) t h
mutual
theorem DW:∀ t:Tm,ShT t→szL (tmC t)+1≤110 * nT t
 | .mk k s o n ty r xs,h=>by
  have hs:=h.sh
  have h1:=hs.nm;have h2:=hs.ot;have h3:=hs.ty;have h4:=hs.rs
  have h5:=Xc xs h.arg
  rw [BM,nT]
  show s.size+o.size+szL (tyC ty)+szL (tyC r)+(xs.length+szL (Av xs))+1≤_
  simp only [Tm.name,Tm.other,Tm.ty,Tm.res] at h1 h2 h3 h4
  omega
theorem Xc:∀ xs:List Tm,(∀ x ∈ xs,ShT x)→xs.length+szL (Av xs)≤110 * nTs xs
 | [],_=>by simp [Av,szL,nTs]
 | x :: xs,h=>by
  have h1:=DW x (h x (by simp))
  have h2:=Xc xs fun y hy=>h y (by simp [hy])
  rw [nTs,Av,Ah,List.length_cons]
  omega
end
theorem LK (t:Tm):1≤nT t:=by rw [Ik];omega
theorem Cg {t:Tm} {k:Nat} (h:k<t.args.length):nT t.args[k]! < nT t:=by
 rw [Ik t]
 have h1:=Kr t.args k h
 have h2:=HB t.args (k+1)
 omega
theorem SH:∀ (l:List Tm) (k:Nat) (x:Tm),k<l.length→nTs (l.set k x)+nT l[k]! = nTs l+nT x
 | [],k,x,h=>by simp at h
 | a :: l,0,x,h=>by simp only [List.set_cons_zero,nTs,List.getElem!_cons_zero];omega
 | a :: l,k+1,x,h=>by
  have:=SH l k x (by simpa using h)
  simp only [List.set_cons_succ,nTs,List.getElem!_cons_succ];omega
theorem Rp (e:Tm) (k:Nat) (x:Tm) (h:k<e.args.length):nT (EC e k x)+nT e.args[k]! = nT e+nT x:=by
 have:=SH e.args k x h
 rw [Ik (EC e k x),Ik e]
 unfold EC
 simp only [AJ]
 omega
theorem SC {e:Tm} (h:ShT e) {k:Nat} {x:Tm} (hx:ShT x):ShT (EC e k x):=by
 have hs:=h.sh
 refine MN ⟨?_,hs.b3,hs.o4,hs.nm,hs.ot,hs.ty,hs.rs⟩ fun y hy => ?_
 ·unfold EC
  simp only [AJ,Bf,Bd,List.length_set]
  exact hs.ar
 ·rcases List.mem_or_eq_of_mem_set hy with h1 | h1
  ·exact h.arg y h1
  ·rw [h1];exact hx
def k9 (t:Tm):Bool:=decide (t.kind≤9)
def K9 (t:Tm):Prop:=Bn k9 t=true
theorem K9.k {t:Tm} (h:K9 t):t.kind≤9:=of_decide_eq_true (Fw h).1
theorem K9.arg {t:Tm} (h:K9 t):∀ x ∈ t.args,K9 x:=(Fw h).2
theorem TR {e:Tm} {x:ByteArray} {u:Tm} (h:¬ (e.kind=1∧e.name=x)):(sbT e x u).kind=e.kind∧(sbT e x u).name=e.name∧(sbT e x u).other=e.other∧(sbT e x u).n=e.n∧(sbT e x u).ty=e.ty∧(sbT e x u).res=e.res∧(sbT e x u).args=pick (bdP e.kind e.args.length) (OB x (bdN e.kind e.name e.other e.args.length)) 0 e.args (e.args.map fun a=>sbT a x u):=by
 rw [Fb,if_neg h]
 exact ⟨rfl,rfl,rfl,rfl,rfl,rfl,rfl⟩
theorem Hu (p:Int) (h:Bool) (f:Tm→Tm):∀ (l:List Tm) (i:Int) (k:Nat),k<l.length→(pick p h i l (l.map f))[k]! = if i+(k:Int)=p∧h=true then l[k]! else f l[k]!
 | [],i,k,hk=>by simp at hk
 | a :: l,i,0,_=>by
  rw [List.map_cons,pick,List.getElem!_cons_zero,List.getElem!_cons_zero,Int.natCast_zero,Int.add_zero]
 | a :: l,i,k+1,hk=>by
  rw [List.map_cons,pick,List.getElem!_cons_succ,List.getElem!_cons_succ,Hu p h f l (i+1) k (by simpa using hk)]
  rw [show i+((k+1:Nat):Int)=i+1+(k:Int) by omega]
theorem IM (p:Int) (h:Bool) (f:Tm→Tm) (l:List Tm) (i:Int):(pick p h i l (l.map f)).length=l.length:=by
 have:=Hx p h l i id f
 rwa [List.map_id] at this
theorem Uj {l:List Tm} {x:Tm} (h:x ∈ l):∃ k,k<l.length∧x=l[k]! := by
 obtain ⟨k,hk,rfl⟩:=List.getElem_of_mem h
 exact ⟨k,hk,(getElem!_pos l k hk).symm⟩
theorem WW {x:ByteArray} {u:Tm} (hu:K9 u):∀ e:Tm,K9 e→K9 (sbT e x u):=by
 refine Tm.ind fun e ih he => ?_
 by_cases h:e.kind=1∧e.name=x
 ·rw [Fb,if_pos h];exact hu
 obtain ⟨a1,_,_,_,_,_,a7⟩:=TR (u:=u) h
 refine On (show decide _=true from decide_eq_true (by rw [a1];exact he.k)) fun y hy => ?_
 rw [a7] at hy
 obtain ⟨k,hk,rfl⟩:=Uj hy
 rw [IM] at hk
 rw [Hu _ _ _ _ _ _ hk]
 split
 ·exact he.arg _ (Ab hk)
 ·exact ih _ (Ab hk) (he.arg _ (Ab hk))
theorem ST {ns:List ByteArray} {p:Int} {L:List (List ByteArray)} {y:ByteArray}:∀ k,y ∈ frU ns p L k→∃ i,i<k∧y ∈ (if (i:Int)=p then woL ns L[i]! else L[i]!)
 | 0,h=>by rw [frU] at h;cases h
 | k+1,h=>by
  rw [frU,Oh] at h
  rcases h with h | h
  ·obtain ⟨i,h1,h2⟩:=ST k h
   exact ⟨i,by omega,h2⟩
  ·exact ⟨k,by omega,h⟩
theorem SS {t:Tm} (hk:t.kind≠1) {y:ByteArray} (hy:y ∈ AE t):∃ i,i<t.args.length∧y ∈ AE t.args[i]! ∧ ¬ ((i:Int)=bdP t.kind t.args.length∧y ∈ bdN t.kind t.name t.other t.args.length):=by
 rw [CW,frF,if_neg hk] at hy
 obtain ⟨i,h1,h2⟩:=ST _ hy
 rw [List.length_map] at h1
 rw [List.length_map,AU AE h1] at h2
 refine ⟨i,h1, ?_⟩
 split at h2
 ·rename_i hp
  rw [RM] at h2
  exact ⟨h2.1,fun h=>h2.2 h.2⟩
 ·rename_i hp
  exact ⟨h2,fun h=>hp h.1⟩
theorem Kh {t:Tm} (hk:t.kind≠1) {i:Nat} (hi:i<t.args.length) {y:ByteArray} (hy:y ∈ AE t.args[i]!) (hn:¬ ((i:Int)=bdP t.kind t.args.length∧y ∈ bdN t.kind t.name t.other t.args.length)):y ∈ AE t:=(Ef hk hi hy).resolve_right hn
theorem JK {x:ByteArray} {u:Tm}:∀ e:Tm,∀ y ∈ AE (sbT e x u),(y ∈ AE e∧y≠x)∨y ∈ AE u:=by
 refine Tm.ind fun e ih y hy => ?_
 by_cases h:e.kind=1∧e.name=x
 ·rw [Fb,if_pos h] at hy;exact .inr hy
 obtain ⟨a1,a2,a3,_,_,_,a7⟩:=TR (u:=u) h
 by_cases hk:e.kind=1
 ·have hn:e.name≠x:=fun g=>h ⟨hk,g⟩
  rw [CW,frF,a1,if_pos hk,a2,List.mem_singleton] at hy
  left
  rw [CW,frF,if_pos hk,hy]
  exact ⟨by simp,hn⟩
 obtain ⟨i,hi,h1,h2⟩:=SS (by rw [a1];exact hk) hy
 have hl:(sbT e x u).args.length=e.args.length:=by rw [a7,IM]
 rw [hl] at hi h2
 rw [a1,a2,a3] at h2
 rw [a7,Hu _ _ _ _ _ _ hi,Int.zero_add] at h1
 split at h1
 ·rename_i hp
  refine .inl ⟨Kh hk hi h1 h2,fun e2=>h2 ⟨hp.1, ?_⟩⟩
  rw [e2];exact Dz.1 hp.2
 ·rcases ih _ (Ab hi) y h1 with h3 | h3
  ·exact .inl ⟨Kh hk hi h3.1 h2,h3.2⟩
  ·exact .inr h3
def Clo (t:Tm):Prop:=AE t=[]
theorem Dv {t:Tm}:Clo t ↔ ∀ y,y ∉ AE t:=List.eq_nil_iff_forall_not_mem
theorem DY {t:Tm} (h:Clo t) {i:Nat} (hi:i<t.args.length) (hp:(i:Int)≠bdP t.kind t.args.length):Clo t.args[i]! := by
 rw [Dv] at h ⊢
 intro y hy
 by_cases hk:t.kind=1
 ·exact h t.name (by rw [CW,frF,if_pos hk];simp)
 ·exact h y (Kh hk hi hy fun g=>hp g.1)
theorem Wr {e x:Tm} {k:Nat} (h:Clo e) (hk:e.kind≠1) (hx:Clo x):Clo (EC e k x):=by
 rw [Dv] at h ⊢
 intro y hy
 by_cases hl:k<e.args.length
 ·obtain ⟨i,hi,h1,h2⟩:=SS (by exact hk) hy
  have hL:=Pg e k x
  rw [hL] at hi
  rw [Sb e k x i hl] at h1
  split at h1
  ·exact Dv.1 hx y h1
  ·refine h y (Kh hk hi h1 ?_)
   rw [← hL];exact h2
 ·have:EC e k x=e:=by
   unfold EC
   rw [List.set_eq_of_length_le (by omega)]
   obtain ⟨k,nm,ot,n,ty,rs,args⟩:=e
   rfl
  rw [this] at hy
  exact h y hy
theorem DL {k:Int} {n:Nat} (h:k=4∨k=5∨k=7∨k=10∨k=12∨k=13):bdP k n = -1:=by
 unfold bdP
 rw [if_neg (by omega),if_neg (by omega),if_neg (by omega)]
theorem Yo {e x:Tm} {k:Nat} (h:K9 e) (hx:K9 x):K9 (EC e k x):=by
 refine On (show decide _=true from decide_eq_true h.k) fun y hy => ?_
 rcases List.mem_or_eq_of_mem_set hy with h1 | h1
 ·exact h.arg y h1
 ·rw [h1];exact hx
theorem aBK {t:Tm} (h:t.args.length=1):t.args[0]! ∈ t.args:=Ab (by omega)
theorem QS {f:Tm} (hc:Clo f) (hk:f.kind=6∨f.kind=9) (hl:f.args.length=1):∀ y ∈ AE f.args[0]!,y=f.name∨(f.kind=9∧y=f.other):=fun y hy=>by
 rcases Ef (by omega) (show 0<f.args.length by omega) hy with h | ⟨_,h⟩
 ·exact absurd h (Dv.1 hc y)
 ·unfold bdN at h
  rcases hk with hk | hk
  ·rw [if_pos ⟨hk,hl⟩] at h
   exact .inl (by simpa using h)
  ·rw [if_neg (by omega),if_neg (by omega),if_pos ⟨hk,hl⟩] at h
   simp only [List.mem_cons,List.not_mem_nil,or_false] at h
   exact h.imp id fun h=>⟨hk,h⟩
theorem aDc:∀ e e':Tm,stT e=some e'→ShT e→K9 e→Clo e→K9 e'∧Clo e':=by
 refine Tm.ind fun e ih e' hs hS h9 hc => ?_
 rw [Hm] at hs
 unfold stF at hs
 obtain ⟨l1,l4,l5,l6,l7,_,_⟩:=El hS.sh
 have inner:∀ k,((e.args.map stT)[k]!).map (EC e k)=some e'→(e.kind=4∨e.kind=7∨e.kind=5∨(e.kind=8∧k=0))→K9 e'∧Clo e':=fun k h hkd=>by
  obtain ⟨hk,x,hx,rfl⟩:=map_set h
  have hp:(k:Int)≠bdP e.kind e.args.length:=by
   rcases hkd with h | h | h | h
   ·rw [DL (.inl h)];omega
   ·rw [DL (by omega)];omega
   ·rw [DL (by omega)];omega
   ·unfold bdP
    rw [if_neg (by omega),if_pos ⟨h.1,l7 (.inr h.1)⟩];omega
  obtain ⟨q1,q2⟩:=ih _ (Ab hk) x hx (hS.arg _ (Ab hk)) (h9.arg _ (Ab hk)) (DY hc hk hp)
  exact ⟨Yo h9 q1,Wr hc (by omega) q2⟩
 split at hs
 ·cases hs
 split at hs
 ·rename_i h4
  split at hs
  ·exact inner 0 hs (.inl h4)
  split at hs
  ·exact inner 1 hs (.inl h4)
  split at hs
  ·injection hs with hs
   subst hs
   unfold opv
   split
   ·exact ⟨rfl,rfl⟩
   ·exact ⟨rfl,rfl⟩
  ·cases hs
 split at hs
 ·rename_i _ h7
  have hl:=l7 (.inl h7)
  split at hs
  ·exact inner 0 hs (.inr (.inl h7))
  split at hs
  ·exact inner 1 hs (.inr (.inl h7))
  have m0:=Ab (show 0<e.args.length by omega)
  have m1:=Ab (show 1<e.args.length by omega)
  have c0:=DY hc (show 0<e.args.length by omega) (by rw [DL (by omega)];omega)
  have c1:=DY hc (show 1<e.args.length by omega) (by rw [DL (by omega)];omega)
  have s0:=hS.arg _ m0
  have n0:=h9.arg _ m0
  have n1:=h9.arg _ m1
  split at hs
  ·rename_i h6
   injection hs with hs
   subst hs
   have hl0:=(El s0.sh).2.2.2.1 (.inl h6)
   refine ⟨WW n1 _ (n0.arg _ (aBK hl0)),Dv.2 fun y hy => ?_⟩
   rcases JK _ y hy with h | h
   ·rcases QS c0 (.inl h6) hl0 y h.1 with g | g
    ·exact h.2 g
    ·omega
   ·exact Dv.1 c1 y h
  split at hs
  ·rename_i h9'
   injection hs with hs
   subst hs
   have hl0:=(El s0.sh).2.2.2.1 (.inr (.inl h9'))
   refine ⟨WW n1 _ (WW n0 _ (n0.arg _ (aBK hl0))),Dv.2 fun y hy => ?_⟩
   rcases JK _ y hy with h | h
   ·rcases JK _ y h.1 with g | g
    ·rcases QS c0 (.inr h9') hl0 y g.1 with r | r
     ·exact g.2 r
     ·exact h.2 r.2
    ·exact Dv.1 c0 y g
   ·exact Dv.1 c1 y h
  ·cases hs
 split at hs
 ·rename_i _ _ h5
  have hl:=l5 h5
  split at hs
  ·exact inner 0 hs (.inr (.inr (.inl h5)))
  split at hs
  ·rename_i h3
   injection hs with hs
   subst hs
   have b:=(hS.arg _ (Ab (show 0<e.args.length by omega))).sh.b3 h3
   have hlt:(2-(e.args[0]!).n).toNat<e.args.length:=by omega
   exact ⟨h9.arg _ (Ab hlt),DY hc hlt (by rw [DL (by omega)];omega)⟩
  ·cases hs
 split at hs
 ·rename_i _ _ _ h8
  have hl:=l7 (.inr h8)
  split at hs
  ·exact inner 0 hs (.inr (.inr (.inr ⟨h8,rfl⟩)))
  injection hs with hs
  subst hs
  have hP:bdP e.kind e.args.length=1:=by
   unfold bdP
   rw [if_neg (by omega),if_pos ⟨h8,hl⟩]
  have hN:bdN e.kind e.name e.other e.args.length=[e.name]:=by
   unfold bdN
   rw [if_neg (by omega),if_pos ⟨h8,hl⟩]
  have c0:=DY hc (show 0<e.args.length by omega) (by rw [hP];omega)
  refine ⟨WW (h9.arg _ (Ab (by omega))) _ (h9.arg _ (Ab (by omega))),Dv.2 fun y hy => ?_⟩
  rcases JK _ y hy with h | h
  ·rcases Ef (by omega) (show 1<e.args.length by omega) h.1 with g | ⟨_,g⟩
   ·exact Dv.1 hc y g
   ·rw [hN,List.mem_singleton] at g
    exact h.2 g
  ·exact Dv.1 c0 y h
 ·cases hs
theorem aAk {a b c:Tm} (h:Ms a b) (hs:stT b=some c):Ms a c:=by
 induction h with
 | done t=>exact .step hs (.done _)
 | step h _ ih=>exact .step h (ih hs)
def nmk (k:Nat):ByteArray:=(⟨#[118]⟩:ByteArray)++IW k
def aJd:List UInt8→Nat:=List.foldl (fun a c=>a * 10+(c.toNat-48)) 0
theorem NO:∀ n:Nat,aJd (Lib.decDigits n)=n:=by
 intro n
 induction n using Nat.strongRecOn with
 | _ n ih =>
  rw [Lib.decDigits]
  split
  ·rename_i h
   show (0 * 10+((UInt8.ofNat (48+n)).toNat-48))=n
   rw [UInt8.toNat_ofNat_of_lt' (by show _<256;omega)]
   omega
  ·rename_i h
   have:=ih (n / 10) (by omega)
   unfold aJd at this ⊢
   rw [List.foldl_append,this]
   show (n / 10 * 10+((UInt8.ofNat (48+n % 10)).toNat-48))=n
   rw [UInt8.toNat_ofNat_of_lt' (by show _<256;omega)]
   omega
theorem Vr {a b:Nat} (h:IW a=IW b):a=b:=by
 have h1:(IW a).data.toList=(IW b).data.toList:=by rw [h]
 have h2:Lib.decDigits a=Lib.decDigits b:=h1
 rw [← NO a,h2,NO]
theorem aAd {a b:Nat} (h:nmk a=nmk b):a=b:=by
 have h1:(nmk a).data.toList=(nmk b).data.toList:=by rw [h]
 unfold nmk at h1
 rw [ByteArray.data_append,ByteArray.data_append,Array.toList_append,Array.toList_append] at h1
 have h2:=List.append_cancel_left h1
 refine Vr ?_
 have e:∀ s:ByteArray,s=⟨s.data.toList.toArray⟩:=fun s=>by simp
 rw [e (IW a),e (IW b),h2]
theorem OH {α:Type} [DecidableEq α]:∀ (l xs:List α),l.Nodup→(∀ x ∈ l,x ∈ xs)→l.length≤xs.length
 | [],xs,_,_=>Nat.zero_le _
 | a :: l,xs,hn,hs=>by
  rw [List.nodup_cons] at hn
  have ha:=hs a (by simp)
  have h1:=OH l (xs.erase a) hn.2 fun x hx=>(List.mem_erase_of_ne (fun e=>hn.1 (by rw [← e];exact hx))).2 (hs x (by simp [hx]))
  have h2:=List.length_erase_of_mem ha
  have h3:=List.length_pos_of_mem ha
  rw [List.length_cons];omega
theorem Vi {xs:List ByteArray} {k:Nat} (h:∀ j,1≤j→j<k→nmk j ∈ xs):k≤xs.length+1:=by
 have h1:=OH ((List.range (k-1)).map fun j=>nmk (j+1)) xs (by
  rw [List.nodup_iff_pairwise_ne,List.pairwise_map]
  refine (List.nodup_iff_pairwise_ne.1 List.nodup_range).imp fun {a b} hab e=>hab ?_
  have:=aAd e
  omega) fun x hx=>by
  obtain ⟨j,hj,rfl⟩:=List.mem_map.1 hx
  have:=List.mem_range.1 hj
  exact h (j+1) (by omega) (by omega)
 rw [List.length_map,List.length_range] at h1
 omega
theorem aCF (k:Nat) (h:k≤1000000):(nmk k).size≤24:=by
 have:=Kj k h
 unfold nmk
 rw [ByteArray.size_append]
 have:(⟨#[118]⟩:ByteArray).size=1:=rfl
 omega
theorem MQ {l:List Tm} (k:Nat) (x:Tm) {j:Nat} (h:j<l.length):(l.set k x)[j]! = if j=k then x else l[j]! := by
 rw [getElem!_pos (l.set k x) j (by rw [List.length_set];exact h),getElem!_pos l j h]
 by_cases e:j=k
 ·subst e;rw [if_pos rfl,List.getElem_set_self]
 ·rw [if_neg e,List.getElem_set_ne (fun g=>e g.symm)]
theorem HR {α:Type}:∀ (v a b c:List α),v.length=b.length→Aw (a++(b++c)) a.length v=a++(v++c)
 | [],a,b,c,h=>by
  have:b=[]:=List.eq_nil_of_length_eq_zero h.symm
  subst this;rfl
 | y :: v,a,[],c,h=>by simp at h
 | y :: v,a,z :: b,c,h=>by
  rw [Aw]
  have e1:(a++(z :: b++c)).set a.length y=(a++[y])++(b++c):=by
   rw [List.set_append_right _ _ (Nat.le_refl _)];simp
  have e2:a.length+1=(a++[y]).length:=by simp
  rw [e1,e2,HR v (a++[y]) b c (by simpa using h)]
  simp
theorem Tc (t:Tm):(tmC t).length=9:=by rw [Ak];rfl
theorem Sf:∀ l:List Tm,(Av l).length=l.length * 9
 | []=>rfl
 | x :: l=>by rw [Av,List.length_append,Tc,Sf l,List.length_cons];omega
theorem JN:∀ a b:List Tm,Av (a++b)=Av a++Av b
 | [],b=>by simp [Av]
 | x :: a,b=>by rw [List.cons_append,Av,Av,JN a b,List.append_assoc]
theorem QP (l:List Tm) (k:Nat) (x:Tm) (h:k<l.length):Aw (Av l) (k * 9) (tmC x)=Av (l.set k x):=by
 have e:l=l.take k++(l[k]! :: l.drop (k+1)):=by
  rw [getElem!_pos l k h,← List.drop_eq_getElem_cons h,List.take_append_drop]
 have hl:(l.take k).length=k:=by rw [List.length_take];omega
 have e2:l.set k x=l.take k++(x :: l.drop (k+1)):=by
  conv=>lhs;rw [e]
  rw [List.set_append_right _ _ (by omega),hl,Nat.sub_self,List.set_cons_zero]
 rw [e2]
 conv=>lhs;rw [e]
 rw [JN,JN,Av,Av]
 have e3:k * 9=(Av (l.take k)).length:=by rw [Sf,hl]
 rw [e3,HR _ _ _ _ (by rw [Tc,Tc])]
theorem De (l:List Tm) (k:Nat) (t:Tm) (h:k<l.length):((((((((((Av l).set (k * 9) (D.int t.kind)).set (k * 9+1) (D.str t.name)).set (k * 9+1+1) (D.str t.other)).set (k * 9+1+1+1) (D.int t.n)).set (k * 9+1+1+1+1) (D.int t.ty.kind)).set (k * 9+1+1+1+1+1) (D.rows 2 t.ty.args.length (Ai t.ty.args))).set (k * 9+1+1+1+1+1+1) (D.int t.res.kind)).set (k * 9+1+1+1+1+1+1+1) (D.rows 2 t.res.args.length (Ai t.res.args))).set (k * 9+1+1+1+1+1+1+1+1) (D.rows 9 t.args.length (Av t.args)))=Av (l.set k t):=by
 have:=QP l k t h
 rw [Ak] at this
 simp only [Aw] at this
 exact this
theorem QG (acc cs:List ByteArray):∀ k,(uni acc cs k).length≤acc.length+k
 | 0=>by rw [uni];omega
 | k+1=>by
  have:=QG acc cs k
  rw [uni,aCC]
  split
  ·omega
  ·rw [List.length_append,List.length_singleton];omega
theorem NX (a b:List ByteArray):(Ml a b).length≤a.length+b.length:=by
 have:=QG [] (a++b) (a++b).length
 rw [Ml]
 rw [List.length_append] at this
 simpa using this
theorem aCs (ns xs:List ByteArray):(woL ns xs).length≤xs.length:=by rw [woL];exact List.length_filter_le _ _
theorem RG (ns:List ByteArray) (p:Int) (l:List Tm) (h:∀ x ∈ l,(AE x).length≤nT x):∀ k,k≤l.length→(frU ns p (l.map AE) k).length≤nTs (l.take k)
 | 0,_=>by rw [frU];exact Nat.zero_le _
 | k+1,hk=>by
  have h1:=RG ns p l h k (by omega)
  have h2:=h _ (Ab (show k<l.length by omega))
  have h3:=NX (frU ns p (l.map AE) k) (if (k:Int)=p then woL ns (l.map AE)[k]! else (l.map AE)[k]!)
  have h4:(if (k:Int)=p then woL ns (l.map AE)[k]! else (l.map AE)[k]!).length≤(AE l[k]!).length:=by
   rw [AU AE (by omega)]
   split
   ·exact aCs _ _
   ·exact Nat.le_refl _
  rw [frU,Kr l k (by omega)]
  omega
theorem KP:∀ t:Tm,(AE t).length≤nT t:=by
 refine Tm.ind fun t ih => ?_
 rw [CW,frF]
 split
 ·rw [List.length_singleton];exact LK t
 ·have:=RG (bdN t.kind t.name t.other (t.args.map AE).length) (bdP t.kind (t.args.map AE).length) t.args ih (t.args.map AE).length (by rw [List.length_map];exact Nat.le_refl _)
  rw [List.length_map,List.take_length] at this
  rw [Ik,List.length_map]
  omega
structure SuI (e:Tm) (x:ByteArray) (u t:Tm):Prop where
 sh:ShT t
 n:nT t≤nT e * nT u
 cl:Clo u→t=sbT e x u
structure FrI (e:Tm) (near:List ByteArray) (nm ot:ByteArray) (l:List Tm):Prop where
 sh:ShT (.mk e.kind nm ot e.n e.ty e.res l)
 len:l.length=e.args.length
 n:∀ k,k<e.args.length→nT l[k]! ≤ nT e.args[k]!
 cl:near=[]→nm=e.name∧ot=e.other∧l=e.args
theorem Tw {e:Tm} (h:ShT e) (near:List ByteArray):FrI e near e.name e.other e.args:=by
 refine ⟨?_,rfl,fun _ _=>Nat.le_refl _,fun _=>⟨rfl,rfl,rfl⟩⟩
 obtain ⟨k,nm,ot,n,ty,rs,args⟩:=e
 exact h
theorem FrI.arg {e:Tm} {near:List ByteArray} {nm ot:ByteArray} {l:List Tm} (h:FrI e near nm ot l) {k:Nat} (hk:k<l.length):ShT l[k]! := h.sh.arg _ (by rw [AJ];exact Ab hk)
theorem FrI.turn {e:Tm} {near:List ByteArray} {nm ot:ByteArray} {l:List Tm} (h:FrI e near nm ot l) (hk:e.kind≠4) {p:Nat} (hp:p<e.args.length) {y x:ByteArray} (hy:y.size≤24) {t:Tm} (ht:SuI l[p]! x (aBg y) t) (hne:near≠[]) (b:Bool):FrI e near (if b=true then y else nm) (if b=true then ot else y) (l.set p t):=by
 have hs:=h.sh.sh
 have hl:=h.len
 refine ⟨MN ⟨?_,hs.b3, ?_, ?_, ?_,hs.ty,hs.rs⟩ fun z hz => ?_,by rw [List.length_set];exact hl,fun k hk => ?_,fun hn=>absurd hn hne⟩
 ·have:=hs.ar
  simp only [AJ,Bf,Bd,List.length_set] at this ⊢
  unfold arF at this ⊢
  rw [if_neg hk] at this ⊢
  exact this
 ·intro h4;exact absurd h4 hk
 ·show (if b=true then y else nm).size≤24
  split
  ·exact hy
  ·exact hs.nm
 ·show (if b=true then ot else y).size≤24
  split
  ·exact hs.ot
  ·exact hy
 ·rw [AJ] at hz
  rcases List.mem_or_eq_of_mem_set hz with h1 | h1
  ·exact h.sh.arg z (by rw [AJ];exact h1)
  ·rw [h1];exact ht.sh
 ·rw [MQ p t (by omega)]
  have h1:=h.n k hk
  split
  ·rename_i e1
   subst e1
   have h2:=ht.n
   have h3:nT (aBg y)=1:=rfl
   rw [h3] at h2
   omega
  ·exact h1
structure SuL (l0:List Tm) (x:ByteArray) (u:Tm) (p:Int) (hid:Bool) (k:Nat) (l:List Tm):Prop where
 len:l.length=l0.length
 le:k≤l0.length
 done:∀ j,j<k→if (j:Int)=p∧hid=true then l[j]! = l0[j]! else SuI l0[j]! x u l[j]!
 rest:∀ j,k≤j→j<l0.length→l[j]! = l0[j]!
theorem Sl (l0:List Tm) (x:ByteArray) (u:Tm) (p:Int) (hid:Bool):SuL l0 x u p hid 0 l0:=⟨rfl,Nat.zero_le _,fun j hj=>absurd hj (by omega),fun _ _ _=>rfl⟩
theorem SuL.skip {l0 l:List Tm} {x:ByteArray} {u:Tm} {p:Int} {hid:Bool} {k:Nat} (h:SuL l0 x u p hid k l) (hk:k<l0.length) (hc:(k:Int)=p∧hid=true):SuL l0 x u p hid (k+1) l:=by
 refine ⟨h.len,by omega,fun j hj => ?_,fun j hj=>h.rest j (by omega)⟩
 by_cases e:j=k
 ·subst e
  rw [if_pos hc]
  exact h.rest j (Nat.le_refl _) hk
 ·exact h.done j (by omega)
theorem SuL.put {l0 l:List Tm} {x:ByteArray} {u:Tm} {p:Int} {hid:Bool} {k:Nat} (h:SuL l0 x u p hid k l) (hk:k<l0.length) (hc:¬ ((k:Int)=p∧hid=true)) {t:Tm} (ht:SuI l[k]! x u t):SuL l0 x u p hid (k+1) (l.set k t):=by
 have hl:=h.len
 refine ⟨by rw [List.length_set];exact hl,by omega,fun j hj => ?_,fun j hj hj2 => ?_⟩
 ·rw [MQ k t (by omega)]
  by_cases e:j=k
  ·subst e
   rw [if_neg hc,if_pos rfl,← h.rest j (Nat.le_refl _) hk]
   exact ht
  ·rw [if_neg e]
   exact h.done j (by omega)
 ·rw [MQ k t (by omega),if_neg (by omega)]
  exact h.rest j (by omega) hj2
theorem ME:∀ (l m:List Tm) (c:Nat),l.length=m.length→(∀ k,k<m.length→nT l[k]! ≤ nT m[k]! * c)→nTs l≤nTs m * c
 | [],[],c,_,_=>by simp [nTs]
 | [],b :: m,c,h,_=>by simp at h
 | a :: l,[],c,h,_=>by simp at h
 | a :: l,b :: m,c,h,hh=>by
  have h0:=hh 0 (by simp)
  have h1:=ME l m c (by simpa using h) fun k hk=>by simpa using hh (k+1) (by simpa using hk)
  simp only [List.getElem!_cons_zero] at h0
  rw [nTs,nTs,Nat.add_mul]
  omega
theorem Ma {e u:Tm} {x:ByteArray} {nm ot:ByteArray} {l0 l:List Tm} (hv:¬ (e.kind=1∧e.name=x)) (h:FrI e (AE u) nm ot l0) (hL:SuL l0 x u (bdP e.kind e.args.length) (OB x (bdN e.kind e.name e.other e.args.length)) l0.length l):SuI e x u (.mk e.kind nm ot e.n e.ty e.res l):=by
 have hl:=hL.len
 have h0:=h.len
 have hu:=LK u
 have hs:=h.sh.sh
 refine ⟨MN ⟨?_,hs.b3,hs.o4,hs.nm,hs.ot,hs.ty,hs.rs⟩ fun z hz => ?_, ?_,fun hc => ?_⟩
 ·have:=hs.ar
  simp only [AJ,Bf,Bd] at this ⊢
  omega
 ·rw [AJ] at hz
  obtain ⟨k,hk,rfl⟩:=Uj hz
  have h1:=hL.done k (by omega)
  split at h1
  ·rw [h1];exact h.arg (by omega)
  ·exact h1.sh
 ·rw [Ik,Ik e]
  simp only [AJ]
  have h1:=ME l e.args (nT u) (by omega) fun k hk=>by
   have h2:=hL.done k (by omega)
   have h3:=h.n k hk
   split at h2
   ·rw [h2]
    exact Nat.le_trans h3 (Nat.le_mul_of_pos_right _ hu)
   ·exact Nat.le_trans h2.n (Nat.mul_le_mul_right _ h3)
  rw [Nat.add_mul]
  omega
 ·obtain ⟨rfl,rfl,rfl⟩:=h.cl hc
  rw [Fb,if_neg hv]
  congr 1
  refine List.ext_getElem (by rw [IM];exact hl) fun k h1 h2 => ?_
  rw [← getElem!_pos l k h1,← getElem!_pos _ k h2,Hu _ _ _ _ _ _ (by omega),Int.zero_add]
  have h3:=hL.done k (by omega)
  split at h3
  ·rename_i hc2;rw [if_pos hc2];exact h3
  ·rename_i hc2;rw [if_neg hc2];exact h3.cl hc
def IJ (e:Tm):Bool:=kdR e.kind || (decide (e.kind=10) && (Jx okB e.args[0]! 1 && Jx Qe e.args[0]! 1))
theorem FX {t:Tm} (h:K9 t):IJ t=vlB t:=by
 have hk:=h.k
 unfold IJ vlB kdR
 rw [show decide (t.kind=10)=false from decide_eq_false (by omega),Bool.false_and,Bool.or_false,Bool.or_assoc,Bool.or_assoc]
structure StI (e t:Tm) (r:Int):Prop where
 sh:ShT t
 n:nT t≤nT e * 160000
 rr:0≤r∧r≤8
 st:r≠0→K9 e→Clo e→stT e=some t
theorem DT {e:Tm} (h:ShT e):StI e e 0:=⟨h,by omega,by omega,fun h=>absurd rfl h⟩
structure AtI (e:Tm) (k:Nat) (t:Tm) (r:Int):Prop where
 rr:0≤r∧r≤8
 no:r=0→t=e
 yes:r≠0→∃ y,StI e.args[k]! y r∧t=EC e k y
theorem aDX {e y:Tm} {k:Nat} (hk:k<e.args.length) (hkd:e.kind=4∨e.kind=7∨((e.kind=5∨e.kind=8)∧k=0)) (hS:ShT e) (h9:K9 e) (hb:∀ j,j<k→IJ e.args[j]! = true) (hn:IJ e.args[k]! = false) (hy:stT e.args[k]! = some y):stT e=some (EC e k y):=by
 obtain ⟨l1,l4,l5,l6,l7,_,_⟩:=El hS.sh
 have v:=FX (h9.arg _ (Ab hk))
 rw [hn] at v
 have hm:(e.args.map stT)[k]! = some y:=by rw [AU stT hk];exact hy
 have hk2:k=0∨k=1:=by
  rcases hkd with h | h | h
  ·have:=l4 h;omega
  ·have:=l7 (.inl h);omega
  ·exact .inl h.2
 have v0:k=1→vlB e.args[0]! = true:=fun h=>by
  rw [← FX (h9.arg _ (Ab (by omega)))];exact hb 0 (by omega)
 rw [Hm]
 unfold stF
 have hne:¬ vlB e=true:=fun h=>by have:=Ja h;omega
 rw [if_neg hne]
 rcases hkd with h | h | ⟨h,h0⟩
 ·rw [if_pos h]
  rcases hk2 with rfl | rfl
  ·rw [if_pos v.symm,hm];rfl
  ·rw [if_neg (by rw [v0 rfl];decide),if_pos ⟨by have:=l4 h;omega,v.symm⟩,hm];rfl
 ·rw [if_neg (by omega),if_pos h]
  rcases hk2 with rfl | rfl
  ·rw [if_pos v.symm,hm];rfl
  ·rw [if_neg (by rw [v0 rfl];decide),if_pos v.symm,hm];rfl
 ·subst h0
  rw [if_neg (by omega),if_neg (by omega)]
  rcases h with h | h
  ·rw [if_pos h,if_pos v.symm,hm];rfl
  ·rw [if_neg (by omega),if_pos h,if_pos v.symm,hm];rfl
theorem RN {e t:Tm} {r:Int} {k:Nat} (hk:k<e.args.length) (hkd:e.kind≤9→e.kind=4∨e.kind=7∨((e.kind=5∨e.kind=8)∧k=0)) (hS:ShT e) (hb:∀ j,j<k→IJ e.args[j]! = true) (hn:IJ e.args[k]! = false) (h:AtI e k t r):StI e t r:=by
 by_cases hr:r=0
 ·rw [h.no hr,hr];exact DT hS
 obtain ⟨y,h1,rfl⟩:=h.yes hr
 refine ⟨SC hS h1.sh, ?_,h.rr,fun _ h9 hc => ?_⟩
 ·have a1:=Rp e k y hk
  have a2:=h1.n
  have a3:=Cg hk
  omega
 ·have hkd:=hkd h9.k
  refine aDX hk hkd hS h9 hb hn (h1.st hr (h9.arg _ (Ab hk)) (DY hc hk ?_))
  rcases hkd with h | h | h
  ·rw [DL (.inl h)];omega
  ·rw [DL (by omega)];omega
  ·unfold bdP
   rw [if_neg (by omega)]
   split
   ·omega
   ·rw [if_neg (by omega)];omega
theorem aDw {e:Tm} (hS:ShT e) (h4:e.kind=4) (hw:∀ j,j<e.args.length→(e.args[j]!).kind=KN e.name):StI e (opv e.name (e.args[0]!).n (if e.args.length=2 then (e.args[1]!).n else 0)) 1:=by
 obtain ⟨l1,l4,l5,l6,l7,_,_⟩:=El hS.sh
 have hl:=l4 h4
 have e24:(⟨#[]⟩:ByteArray).size≤24:=by decide
 have t30:szL (tyC (.mk 0 []))≤30:=by decide
 have key:∀ n:Int,ShT (tIn n)∧(0≤n∧n≤1→ShT (tBo n)):=fun n=>⟨MN ⟨rfl,fun h=>absurd (show (2:Int)=3 from h) (by decide),fun h=>absurd (show (2:Int)=4 from h) (by decide),e24,e24,t30,t30⟩ fun x hx=>(by cases hx),fun hb=>MN ⟨rfl,fun _=>hb,fun h=>absurd (show (3:Int)=4 from h) (by decide),e24,e24,t30,t30⟩ fun x hx=>(by cases hx)⟩
 refine ⟨?_, ?_,by omega,fun _ h9 hc => ?_⟩
 ·unfold opv
  split
  ·exact (key _).1
  ·rename_i hno
   refine (key _).2 ?_
   simp only [not_or] at hno
   have hb:∀ b:Bool,0≤bI b∧bI b≤1:=fun b=>by cases b <;> exact ⟨by decide,by decide⟩
   generalize (e.args[0]!).n=m1
   generalize (if e.args.length=2 then (e.args[1]!).n else 0)=m2
   unfold apV
   split
   ·unfold apW
    rw [if_neg hno.1,if_neg hno.2.1,if_neg hno.2.2]
    repeat' split
    all_goals first | exact hb _ | omega
   ·omega
 ·have:nT (opv e.name (e.args[0]!).n (if e.args.length=2 then (e.args[1]!).n else 0))=1:=by
   unfold opv
   split <;> rfl
  have:=LK e
  omega
 ·rw [Hm]
  unfold stF
  have hv:∀ j,j<e.args.length→vlB e.args[j]! = true:=fun j hj=>by
   have:=hw j hj
   unfold KN at this
   unfold vlB
   split at this
   ·rw [this];rfl
   ·rw [this];rfl
  rw [if_neg (fun h=>by have:=Ja h;omega),if_pos h4,if_neg (by rw [hv 0 (by omega)];decide),if_neg (fun h=>by rw [hv 1 (by omega)] at h;exact absurd h.2 (by decide)),if_pos]
  rw [List.all_eq_true]
  intro a ha
  obtain ⟨j,hj,rfl⟩:=Uj ha
  exact decide_eq_true (hw j hj)
theorem Xw {a b c:Nat} (ha:a≤400) (hb:b≤c):a * b≤c * 160000:=by
 have h1:=Nat.mul_le_mul_right b ha
 have h2:=Nat.mul_le_mul_left 400 hb
 omega
theorem Gl {e:Tm} (hS:ShT e) (h7:e.kind=7∨e.kind=8):e.args.length=2∧ShT e.args[0]! ∧ ShT e.args[1]! ∧ nT e.args[0]! < nT e∧nT e.args[1]! < nT e:=by
 have hl:=(El hS.sh).2.2.2.2.1 h7
 exact ⟨hl,hS.arg _ (Ab (by omega)),hS.arg _ (Ab (by omega)),Cg (by omega),Cg (by omega)⟩
theorem Vp {e t:Tm} (hS:ShT e) (hn:nT e≤400) (h7:e.kind=7) (hr:∀ j,j<2→IJ e.args[j]! = true) (h6:(e.args[0]!).kind=6) (h:SuI (e.args[0]!).args[0]! (e.args[0]!).name e.args[1]! t):StI e t 3:=by
 obtain ⟨hl,s0,s1,n0,n1⟩:=Gl hS (.inl h7)
 have hl0:=(El s0.sh).2.2.2.1 (.inl h6)
 have nb:=Cg (t:=e.args[0]!) (k:=0) (by omega)
 refine ⟨h.sh,Nat.le_trans h.n (Xw (by omega) (by omega)),by omega,fun _ h9 hc => ?_⟩
 have c1:=DY hc (show 1<e.args.length by omega) (by rw [DL (by omega)];omega)
 have v0:=FX (h9.arg _ (Ab (show 0<e.args.length by omega)))
 have v1:=FX (h9.arg _ (Ab (show 1<e.args.length by omega)))
 rw [hr 0 (by omega)] at v0
 rw [hr 1 (by omega)] at v1
 rw [Hm]
 unfold stF
 rw [if_neg (fun h=>by have:=Ja h;omega),if_neg (by omega),if_pos h7,if_neg (by rw [← v0];decide),if_neg (by rw [← v1];decide),if_pos h6,h.cl c1]
theorem Wh {e t1 t:Tm} (hS:ShT e) (hn:nT e≤400) (h7:e.kind=7) (hr:∀ j,j<2→IJ e.args[j]! = true) (h9':(e.args[0]!).kind=9) (h1:SuI (e.args[0]!).args[0]! (e.args[0]!).name e.args[0]! t1) (h:SuI t1 (e.args[0]!).other e.args[1]! t):StI e t 4:=by
 obtain ⟨hl,s0,s1,n0,n1⟩:=Gl hS (.inl h7)
 have hl0:=(El s0.sh).2.2.2.1 (.inr (.inl h9'))
 have nb:=Cg (t:=e.args[0]!) (k:=0) (by omega)
 refine ⟨h.sh, ?_,by omega,fun _ h9 hc => ?_⟩
 ·have a1:=h1.n
  have a2:nT (e.args[0]!).args[0]! * nT e.args[0]! ≤ 400 * 400:=Nat.mul_le_mul (by omega) (by omega)
  have a3:nT t1 * nT e.args[1]! ≤ 160000 * nT e:=Nat.mul_le_mul (by omega) (by omega)
  have a4:=h.n
  omega
 have c1:=DY hc (show 1<e.args.length by omega) (by rw [DL (by omega)];omega)
 have c0:=DY hc (show 0<e.args.length by omega) (by rw [DL (by omega)];omega)
 have v0:=FX (h9.arg _ (Ab (show 0<e.args.length by omega)))
 have v1:=FX (h9.arg _ (Ab (show 1<e.args.length by omega)))
 rw [hr 0 (by omega)] at v0
 rw [hr 1 (by omega)] at v1
 rw [Hm]
 unfold stF
 rw [if_neg (fun h=>by have:=Ja h;omega),if_neg (by omega),if_pos h7,if_neg (by rw [← v0];decide),if_neg (by rw [← v1];decide),if_neg (by omega),if_pos h9',h.cl c1,h1.cl c0]
theorem aBy {e:Tm} (hS:ShT e) (h5:e.kind=5) (hr:IJ e.args[0]! = true) (h3:(e.args[0]!).kind=3):((2:Int)-(e.args[0]!).n).toNat<e.args.length∧(0:Int)≤(2:Int)-(e.args[0]!).n∧(2:Int)-(e.args[0]!).n<(e.args.length:Int)∧StI e e.args[((2:Int)-(e.args[0]!).n).toNat]! 2:=by
 have hl:=(El hS.sh).2.2.1 h5
 have b:=(hS.arg _ (Ab (show 0<e.args.length by omega))).sh.b3 h3
 have hlt:((2:Int)-(e.args[0]!).n).toNat<e.args.length:=by omega
 refine ⟨hlt,by omega,by omega,hS.arg _ (Ab hlt), ?_,by omega,fun _ h9 hc => ?_⟩
 ·have:=Cg hlt;omega
 have v0:=FX (h9.arg _ (Ab (show 0<e.args.length by omega)))
 rw [hr] at v0
 rw [Hm]
 unfold stF
 rw [if_neg (fun h=>by have:=Ja h;omega),if_neg (by omega),if_neg (by omega),if_pos h5,if_neg (by rw [← v0];decide),if_pos h3]
 rfl
theorem Yb {e t:Tm} (hS:ShT e) (hn:nT e≤400) (h8:e.kind=8) (hr:IJ e.args[0]! = true) (h:SuI e.args[1]! e.name e.args[0]! t):StI e t 5:=by
 obtain ⟨hl,s0,s1,n0,n1⟩:=Gl hS (.inr h8)
 refine ⟨h.sh,Nat.le_trans h.n (Xw (by omega) (by omega)),by omega,fun _ h9 hc => ?_⟩
 have c0:=DY hc (show 0<e.args.length by omega) (by
  unfold bdP
  rw [if_neg (by omega),if_pos ⟨h8,hl⟩];omega)
 have v0:=FX (h9.arg _ (Ab (show 0<e.args.length by omega)))
 rw [hr] at v0
 rw [Hm]
 unfold stF
 rw [if_neg (fun h=>by have:=Ja h;omega),if_neg (by omega),if_neg (by omega),if_neg (by omega),if_pos h8,if_neg (by rw [← v0];decide),h.cl c0]
theorem MP {e t:Tm} {r:Int} (hk:10≤e.kind) (hr:0≤r∧r≤8) (hs:ShT t) (hn:nT t≤nT e * 160000):StI e t r:=⟨hs,hn,hr,fun _ h9 _=>by have:=h9.k;omega⟩
set_option maxRecDepth 20000
theorem Bw {P:Program} {ι:Type} {I:ι→Prop} {all:List Oper} {r:AN} {st:List It} {dst:Option Tmp} {f:Operand} {args:Array Operand} {tys:Array TypeId} {ty:TypeId} {pos:String} {af:Array Edge} {gd:Option (Nat × Bool)} {s:AS} {Q:QE} {F:FuncId} {cap:List AV} {ps:List PA} {outs:ι→List (List CD)} {rs:ι→List RD}
  (hc:Bz P F ps I outs rs) (hf:s.ev f = .fn F cap) (he:ePs s (args.toList.map s.ev++cap) ps=[]) (hb:bPs (args.toList.map s.ev++cap) ps=[]) (ha:mPs s.em s (args.toList.map s.ev++cap) ps)
  (h:∀ x,I x→SW P (.dr all r :: st) ((Eh s [] [] (outs x) (rs x)).pt dst (En s [] [] (rs x))) Q):SW P (.dg all ⟨dst,.call ⟨.value f,args,tys⟩,ty,pos,af,gd⟩ false r :: st) s Q:=fun w0 G a w hr =>
 Ff hr hc hf he hb (.inr rfl) ha List.nodup_nil List.nodup_nil fun x hx a' w' ⟨hbl,G',hr'⟩=>⟨⟨fun _=>hbl ⟨rfl,rfl⟩,hr'.bel⟩,h x hx w0 G' a' w' hr'⟩
theorem TX:∀ t:Tm,szL (tmC t)≤1000000000000→Con prog 89 [.ag (tmC t)] [.one (.int (nT t))]:=by
 refine Tm.ind fun t ih hz => ?_
 obtain ⟨h5,h7,h8⟩:=CJ hz
 have hE:((nTs t.args:Int)+1)=(nT t:Int):=by have:=Ik t;omega
 refine Af func89 rfl rfl (by simp [ntmps89]) ?_
 refine byP (fc ntmps89 results89) ?_
 refine Al (fun k:Nat=>k≤t.args.length) (fun k=>⟨21,[(4,.i k),(3,.i ((nTs (t.args.take k):Int)+1)),(1,.bx 0 0)],[(0,[.i t.kind,.s t.name,.s t.other,.i t.n,.i t.ty.kind,.br (.rows 2 t.ty.args.length (Ai t.ty.args)),.i t.res.kind,.br (.rows 2 t.res.args.length (Ai t.res.args)),.br (.rows 9 t.args.length (Av t.args))])],[],1,[]⟩) (fun k=>t.args.length-k) 0 id (Nat.zero_le _) ?_ ?_
 ·exact byP (fc Int.natCast_zero (show ((nTs []:Int)+1)=1 from rfl)) tI
 rintro k hk
 by_cases hlt:k<t.args.length
 ·have hi:(k:Int)<(t.args.length:Int):=by omega
  have hR:=Aj t.args k hlt
  have hs:=Bv t.args k hlt
  have hm:=Ab hlt
  have hc:=ih _ hm (by omega)
  have hn:=Kr t.args k hlt
  have hq:(nTs (t.args.take k):Int)+1+(nT t.args[k]! : Int)=(nTs (t.args.take (k+1)):Int)+1:=by omega
  have hb:=HB t.args (k+1)
  have hb2:=Pf t.args
  rw [Ak] at hc hR
  refine rG (fc hi hR) ?_
  refine Kc hc ?_
  refine rG hq ?_
  exact ⟨by unfold inI;omega,by unfold inI;omega,k+1,id,by omega,by omega,byP Bx tI⟩
 ·have hi:¬ (k:Int)<(t.args.length:Int):=by omega
  obtain rfl:k=t.args.length:=by omega
  rw [List.take_length]
  refine rG hi ?_
  exact rG (fc hE (fc ntmps89 results89)) tI
theorem Is (t:Tm) (hz:szL (tmC t)≤1000000000):Bc prog 88 [.b (.ag (tmC t))] [] [tmA t]:=by
 obtain ⟨h5,h7,h8⟩:=CJ hz
 have hT:Bc prog 175 [.b (.ag [.int t.ty.kind,.rows 2 t.ty.args.length (Ai t.ty.args)])] [] [tyZ t.ty]:=by
  have:=Vm (Ba t.ty h5)
  rw [Au] at this
  exact this
 have hU:Bc prog 175 [.b (.ag [.int t.res.kind,.rows 2 t.res.args.length (Ai t.res.args)])] [] [tyZ t.res]:=by
  have:=Vm (Ba t.res h7)
  rw [Au] at this
  exact this
 unfold tyZ at hT hU
 unfold tmA
 refine Ad func88 rfl rfl (by simp [ntmps88]) rfl ?_
 refine byP (fc ntmps88 results88) ?_
 refine Cs ⟨39,[(3,.bx 2 0),(1,.bx 0 0),(2,.bx 1 0)],[(0,[.i t.kind,.s t.name,.s t.other,.i t.n,.i t.ty.kind,.br (.rows 2 t.ty.args.length (Ai t.ty.args)),.i t.res.kind,.br (.rows 2 t.res.args.length (Ai t.res.args)),.br (.rows 9 t.args.length (Av t.args))]),(1,[.i 0,.s ⟨#[]⟩,.s ⟨#[]⟩,.i 0,.i 0,.nl 2,.i 0,.nl 2,.nl 9]),
   (2,[.i t.kind,.s t.name,.s t.other,.i t.n,.i t.ty.kind,.br (.rows 2 t.ty.args.length (Ai t.ty.args)),.i t.res.kind,.br (.rows 2 t.res.args.length (Ai t.res.args)),.nl 9])],[],3,[]⟩ (oT [0,1,2,3,4,5,6,7,8,9,11,12] (.fork (.alt 10 (.fork (.alt 13 (.cons 14 true (oF [15,16] .nil)) (.alt 15 (.cons 13 false (.cons 14 true (.cons 16 false .nil))) .last))) (.alt 15 (oF [10,13] (.cons 14 true (.cons 16 false .nil))) .last)))) (by kernel_rfl) (by kernel_rfl) ?_ ?_
 ·refine rQ ?_
  repeat' (with_reducible apply And.intro)
  all_goals
   refine KB hT ?_
   refine rQ ?_
   repeat' (with_reducible apply And.intro)
  all_goals
   refine KB hU ?_
   refine rQ ?_
   refine ⟨rfl,id, ?_⟩
   exact byQ tI
 refine rQ ?_
 refine FK 2 8 29 rfl rfl ?_
 refine byQ ?_
 refine Al (fun k:Nat=>k≤t.args.length) (fun k=>⟨39,[(4,.i k),(3,.bx 2 0),(1,.bx 0 0),(2,.bx 1 0)],[(0,[.i t.kind,.s t.name,.s t.other,.i t.n,.i t.ty.kind,.br (.rows 2 t.ty.args.length (Ai t.ty.args)),.i t.res.kind,.br (.rows 2 t.res.args.length (Ai t.res.args)),.br (.rows 9 t.args.length (Av t.args))]),(1,[.i 0,.s ⟨#[]⟩,.s ⟨#[]⟩,.i 0,.i 0,.nl 2,.i 0,.nl 2,.nl 9]),
   (2,[.i t.kind,.s t.name,.s t.other,.i t.n,.i t.ty.kind,.br (.rows 2 t.ty.args.length (Ai t.ty.args)),.i t.res.kind,.br (.rows 2 t.res.args.length (Ai t.res.args)),.sl 3])],[(3,some ⟨.rows 9 k (Av (t.args.take k)),some 29,false⟩)],4,[]⟩) (fun k=>t.args.length-k) 0 id (Nat.zero_le _) ?_ ?_
 ·exact byP (fc Int.natCast_zero (show Av []=[] from rfl)) tI
 rintro k hk
 by_cases hlt:k<t.args.length
 ·have hi:(k:Int)<(t.args.length:Int):=by omega
  have hR:=Aj t.args k hlt
  have hs:=Bv t.args k hlt
  have hm:=Ab hlt
  have hc:=Fs (Dh t.args[k]! (by omega))
  have hst:=GS t.args k hlt
  have hd:=Ak t.args[k]!
  unfold tmZ at hc
  rw [Ak] at hc hR hst
  refine rG (fc hi hR) ?_
  refine Ac (oT [0,1,2,3,4,5,6] (oF [7,8,9] (.cons 10 true (.cons 11 false .nil)))) (by kernel_rfl) AD (by kernel_rfl) ?_
  refine rG (fc hi hR) ?_
  refine KB hc ?_
  refine rQ ?_
  refine ⟨⟨fun o ho=>by omega,by unfold maxLen;omega,by omega⟩,by unfold inI;omega,k+1,rnL [(3,5)],by omega,by omega, ?_⟩
  exact byP (fc Bx hst) tI
 ·have hi:¬ (k:Int)<(t.args.length:Int):=by omega
  obtain rfl:k=t.args.length:=by omega
  rw [List.take_length]
  refine rG hi ?_
  refine rG (fc ntmps88 results88) ?_
  exact Fi
theorem Fh (e:Tm) (hz:szL (tmC e)≤100000000) (ht:e.kind=10→e.args.length=1):Con prog 90 [.ag (tmC e)] [.one (.bool (IJ e))]:=by
 have hs:=Bv e.args 0
 have hz8:=(Cq (t:=e) (B:=100000000) hz).2.2
 have hR:=Aj e.args 0
 obtain ⟨R,hR0⟩:∃ R,R=IJ e:=⟨_,rfl⟩
 rw [← hR0]
 unfold IJ at hR0
 rcases VU e.kind with hk | hk | hk | hk | hk | ⟨h2,h3,h6,h9,h10⟩
 case inr.inr.inr.inr.inl =>
  obtain ⟨a,ha⟩:=List.length_eq_one_iff.1 (ht hk)
  have hlt:0<e.args.length:=by rw [ha];simp
  have hti:(0:Int)<(e.args.length:Int):=by omega
  have hs1:=hs hlt
  have hR1:=hR hlt
  have h0:e.args[0]! = a:=by rw [ha];rfl
  have hO:=OL e (by omega) 0 (XB (by omega) 0 (by omega))
  have hM:=Qm e.args[0]! (by omega) 1 (XB (by omega) 1 (by omega))
  have hoe:Jx okB e 0=Jx okB a 1:=by
   rw [Mw,hk,ha]
   show ((decide ((0:Int)≤0) && decide ((0:Int)≤2)) && EI okB [a] (plF 10 0))=_
   rw [EI,EI,Bool.and_true]
   rfl
  rw [hoe] at hO
  rw [h0] at hM hR1 hR0
  rw [hk] at hR0
  generalize Jx okB a 1=c at *
  generalize Jx Qe a 1=d at *
  have hRc:R=(c && d):=by rw [hR0];simp [kdR]
  rw [hRc]
  cases c
  case false =>
   refine Af func90 rfl rfl (by simp [ntmps90]) ?_
   refine byP (fc hk (fc ntmps90 results90)) ?_
   refine As (hO) rfl (Am ?_) ?_ (Aa 200 _ _ _ ?_)
   ·exact byP hk tI
   ·simp only [okR]
   exact byP (fc hk (fc ntmps90 results90)) tI
  refine Af func90 rfl rfl (by simp [ntmps90]) ?_
  refine byP (fc hk (fc ntmps90 results90)) ?_
  refine As (hO) rfl (Am ?_) ?_ (Aa 200 _ _ _ ?_)
  ·exact byP hk tI
  ·simp only [okR]
  refine byP (fc hk (fc hti (fc hR1 (fc ntmps90 results90)))) ?_
  refine As (hM) rfl (Am ?_) ?_ (Aa 200 _ _ _ ?_)
  ·exact byP hk tI
  ·simp only [okR]
  exact byP (fc hk (fc ntmps90 results90)) tI
 case inr.inr.inr.inr.inr =>
  have hRf:R=false:=by rw [hR0];simp [kdR,h2,h3,h6,h9,h10]
  rw [hRf]
  refine Af func90 rfl rfl (by simp [ntmps90]) ?_
  exact byP (fc h2 (fc h3 (fc h6 (fc h9 (fc h10 (fc ntmps90 results90)))))) tI
 all_goals
  have hRb:R=true:=by rw [hR0,hk];simp [kdR]
  rw [hRb]
  refine Af func90 rfl rfl (by simp [ntmps90]) ?_
  exact byP (fc hk (fc ntmps90 results90)) tI
theorem Qj (a b:List ByteArray) (ha:sL a≤100000000) (hb:sL b≤100000000):Bc prog 219 [.b (.one (Bl a)),.b (.one (Bl b))] [] [.one (.a 9 (Bl (Ml a b)))]:=by
 have hla:a.length≤sL a:=by rw [sL];omega
 have hlb:b.length≤sL b:=by rw [sL];omega
 have h0:sL []=0:=rfl
 have hsa:=Iw [] a a.length (Nat.le_refl _)
 rw [Pk]
 refine Ad func219 rfl rfl (by simp [ntmps219]) rfl ?_
 refine byP (fc ntmps219 results219) ?_
 refine Al (fun k:Nat=>k≤(a).length) (fun k=>⟨50,[(6,.i k),(0,.br (.rows 1 a.length (a.map D.str))),(1,.br (.rows 1 b.length (b.map D.str))),(5,.sl 0)],[],[(0,some ⟨.rows 1 (uni [] a k).length ((uni [] a k).map D.str),some 9,true⟩)],1,[]⟩) (fun k=>(a).length-k) 0 id (Nat.zero_le _) ?_ ?_
 ·exact byP uni.eq_1 tI
 ·rintro k hk
  refine Aa 200 _ _ _ ?_
  by_cases hlt:k<(a).length
  ·have hi:(k:Int)<((a).length:Int):=by omega
   have hR:=Cc a k hlt
   have hsz:=Iw [] a k hk
   have hlu:(uni [] a k).length≤sL (uni [] a k):=by rw [sL];omega
   have hct:=BU (uni [] a k) (a)[k]! (by omega)
   have hst:uni [] a (k+1)=if 0≤fi (a)[k]! (uni [] a k) 0 then uni [] a k else uni [] a k++[(a)[k]!]:=rfl
   refine byP (fc hi hR) ?_
   refine As (hct) rfl (Am ?_) ?_ (Aa 200 _ _ _ ?_)
   ·exact byQ tI
   ·simp only [okR]
   by_cases hc:0≤fi (a)[k]! (uni [] a k) 0
   ·have hc2:¬ fi (a)[k]! (uni [] a k) 0<0:=by omega
    rw [if_pos hc] at hst
    refine byP hc2 ?_
    refine ⟨by unfold inI;omega,k+1,id,by omega,by omega, ?_⟩
    exact byP hst tI
   ·have hc2:fi (a)[k]! (uni [] a k) 0<0:=by omega
    rw [if_neg hc] at hst
    refine byP (fc hi (fc hR hc2)) ?_
    refine ⟨⟨fun _ d hd=>by rw [hd];rfl,fun o ho=>by omega,by unfold maxLen;omega,by omega⟩,by unfold inI;omega,k+1,rnL [(0,2)],by omega,by omega, ?_⟩
    simp only [push_cast,Sub,EG,EL,ED,EH,inj,AV.ren,AV.rens,AV.lt,AV.lts,↓reduceIte,Nat.reduceLT,Nat.reduceAdd,Nat.reduceMul,Nat.reduceLeDiff,Nat.reduceEqDiff,reduceCtorEq,Int.reduceLT,Int.reduceLE,Int.reduceEq,Int.reduceNe,Int.reduceAdd,Int.reduceSub,Int.reduceMul,Int.reduceNeg,Int.reduceToNat,Nat.reduceSub,rnL,Bx,hst,List.length_append,List.map_append,List.length_cons,List.length_nil,List.map_cons,List.map_nil]
  ·have hi:¬ (k:Int)<((a).length:Int):=by omega
   obtain rfl:k=(a).length:=by omega
   refine byP hi ?_
   refine rQ ?_
   refine Al (fun k:Nat=>k≤(b).length) (fun k=>⟨50,[(7,.i k),(0,.br (.rows 1 a.length (a.map D.str))),(1,.br (.rows 1 b.length (b.map D.str))),(5,.sl 0)],[],[(0,some ⟨.rows 1 (uni (uni [] a a.length) b k).length ((uni (uni [] a a.length) b k).map D.str),some 9,true⟩)],1,[]⟩) (fun k=>(b).length-k) 0 id (Nat.zero_le _) ?_ ?_
   ·exact byP uni.eq_1 tI
   ·rintro k hk
    refine Aa 200 _ _ _ ?_
    by_cases hlt:k<(b).length
    ·have hi:(k:Int)<((b).length:Int):=by omega
     have hR:=Cc b k hlt
     have hsz:=Iw (uni [] a a.length) b k hk
     have hlu:(uni (uni [] a a.length) b k).length≤sL (uni (uni [] a a.length) b k):=by rw [sL];omega
     have hct:=BU (uni (uni [] a a.length) b k) (b)[k]! (by omega)
     have hst:uni (uni [] a a.length) b (k+1)=if 0≤fi (b)[k]! (uni (uni [] a a.length) b k) 0 then uni (uni [] a a.length) b k else uni (uni [] a a.length) b k++[(b)[k]!]:=rfl
     refine byP (fc hi hR) ?_
     refine As (hct) rfl (Am ?_) ?_ (Aa 200 _ _ _ ?_)
     ·exact byQ tI
     ·simp only [okR]
     by_cases hc:0≤fi (b)[k]! (uni (uni [] a a.length) b k) 0
     ·have hc2:¬ fi (b)[k]! (uni (uni [] a a.length) b k) 0<0:=by omega
      rw [if_pos hc] at hst
      refine byP hc2 ?_
      refine ⟨by unfold inI;omega,k+1,id,by omega,by omega, ?_⟩
      exact byP hst tI
     ·have hc2:fi (b)[k]! (uni (uni [] a a.length) b k) 0<0:=by omega
      rw [if_neg hc] at hst
      refine byP (fc hi (fc hR hc2)) ?_
      refine ⟨⟨fun _ d hd=>by rw [hd];rfl,fun o ho=>by omega,by unfold maxLen;omega,by omega⟩,by unfold inI;omega,k+1,rnL [(0,2)],by omega,by omega, ?_⟩
      simp only [push_cast,Sub,EG,EL,ED,EH,inj,AV.ren,AV.rens,AV.lt,AV.lts,↓reduceIte,Nat.reduceLT,Nat.reduceAdd,Nat.reduceMul,Nat.reduceLeDiff,Nat.reduceEqDiff,reduceCtorEq,Int.reduceLT,Int.reduceLE,Int.reduceEq,Int.reduceNe,Int.reduceAdd,Int.reduceSub,Int.reduceMul,Int.reduceNeg,Int.reduceToNat,Nat.reduceSub,rnL,Bx,hst,List.length_append,List.map_append,List.length_cons,List.length_nil,List.map_cons,List.map_nil]
    ·have hi:¬ (k:Int)<((b).length:Int):=by omega
     obtain rfl:k=(b).length:=by omega
     refine byP hi ?_
     exact rG (fc ntmps219 results219) tI
def aJB (xs:List ByteArray) (y:ByteArray):Prop:=y.size≤24
def aIU (_:ByteArray):List (List CD):=[]
def aI1 (y:ByteArray):List RD:=[.one (.o (.str y))]
theorem aII (xs:List ByteArray):(∀ y,aIU y=[])∧(∀ y,aI1 y=[.one (.o (.str y))]):=⟨fun _=>rfl,fun _=>rfl⟩
theorem Rr (xs:List ByteArray) (hl:xs.length≤900000):Bz prog 278 [.b (.one (.rows 1 xs.length (xs.map D.str)))] (aJB xs) aIU aI1:=by
 refine AF func278 rfl rfl (by simp [ntmps278]) (fun _ _=>rfl) ?_
 refine byP (fc ntmps278 results278) ?_
 refine Al (fun k:Nat=>1≤k∧∀ j,1≤j→j<k→nmk j ∈ xs) (fun k=>⟨15,[(3,.i k),(0,.br (.rows 1 xs.length (xs.map D.str)))],[],[],0,[]⟩) (fun k=>xs.length+2-k) 1 id ⟨Nat.le_refl _,fun j h1 h2=>by omega⟩ ?_ ?_
 ·exact byP (show ((1:Nat):Int)=1 from rfl) tI
 rintro k ⟨hk,hin⟩
 have hle:=Vi hin
 have hF:=Kq k (by omega)
 rw [Int.toNat_natCast] at hF
 have hz:=aCF k (by omega)
 have hzl:=Kj k (by omega)
 have hn:(⟨#[118]⟩:ByteArray)++IW k=nmk k:=rfl
 have hmx:(⟨#[118]⟩:ByteArray).size+(IW k).size≤maxLen:=by
  have:(⟨#[118]⟩:ByteArray).size=1:=rfl
  unfold maxLen;omega
 have hI:=BU xs (nmk k) (by omega)
 simp only [Bl] at hI
 refine rQ ?_
 refine Kc hF ?_
 refine rG (fc hn hmx) ?_
 refine Kc hI ?_
 by_cases hneg:fi (nmk k) xs 0<0
 ·refine rG (fc hneg (fc ntmps278 results278)) ?_
  refine ⟨.inl rfl,nmk k,hz, ?_⟩
  exact byP (fc (aII xs) (fc ntmps278 results278)) tI
 ·have hm:nmk k ∈ xs:=(Lt (nmk k) xs 0 (Int.le_refl _)).1 (by omega)
  refine rG hneg ?_
  exact ⟨by unfold inI;omega,k+1,id,⟨by omega,fun j h1 h2=>by
   by_cases e:j=k
   ·rw [e];exact hm
   ·exact hin j h1 (by omega)⟩,by omega,byP Bx tI⟩
end Go.Proofs.YtaidalilfmjfgaaGreat
