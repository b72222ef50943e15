import Derived.Test.YtaidalilfmjfgaaGreatTmB
import Derived.Test.YtaidalilfmjfgaaGreatInsV
import Derived.Test.YtaidalilfmjfgaaGreatClo
import Derived.Test.YtaidalilfmjfgaaGreatFv
namespace Go.Proofs.YtaidalilfmjfgaaGreat
open Go.Proofs.Tryz
open Go.RowKit
set_option linter.unusedVariables false
set_option linter.unusedSimpArgs false
def Er (s:AS) (a b o:Nat) (T:TypeId) (d:D):AS:={ (((s.kl [a]).kb [b]).mk' [] ⟨d,some T,true⟩) with bx:=(b,[.sl s.nx,.sl o]) :: (((s.kl [a]).kb [b]).mk' [] ⟨d,some T,true⟩).bx }
theorem Vo {P:Program} {w0:Aq} {G:Gh} {s:AS} {a':Act} {w:World} (h:Rel w0 G s a' w) {F:FuncId} {args:Array Operand} {tys:Array TypeId} {f:Operand} {dst:Option Tmp} {ty:TypeId} {pos:String} {af:Array Edge} {gd:Option (Nat × Bool)} {a b o:Nat} {k:Int} {T:TypeId} {d d':D} {I:Cb} {ys:List AV} {ps:List PD}
  (hc:∀ x:Value,x.oneCell'=true→Bc P F (.p [.a T d,.v x] :: ps.map PA.b) [[.a T d',.v x]] [.one (.o (.int k))]) (hf:s.ev f = .fn F []) (ha:args.toList.map s.ev = .bx b 0 :: ys) (hb:AO s.bx b=some [.sl a,.sl o]) (hI:s.owf a=some ⟨d,some T,true⟩) (hO:s.owf o=some I) (hao:o≠a)
  (hys:mPs { ((s.kl [a]).kb [b]) with pb:=s.pb++[o] } s ys (ps.map PA.b)) {Q:Exit→Act→World→Prop} {K:Act→World→Prop} (hK:∀ a2 w',(∃ G',Rel w0 G' ((Er s a b o T d').pt dst (.i k)) a2 w')→K a2 w'):(Oper.mk dst (.call ⟨.value f,args,tys⟩) ty pos af gd).wp P a' w K Q:=by
 obtain ⟨hon,hoR,_⟩:=h.own o I hO
 obtain ⟨hbn,hbb,us,TT,hB,hr⟩:=h.bx b _ hb
 unfold RVs RVs at hr
 obtain ⟨u1,r1,rfl,hu1,u2,r2,rfl,hu2,hr3⟩:=hr
 have hu2':=hu2
 unfold RV at hu2'
 have e2:u2=G.root o:=hu2'.2.2 I hO
 subst e2
 have hone:(G.root o).oneCell'=true:=hu2'.2.1
 obtain ⟨s1,hs1⟩:∃ s1:AS,s1={ s with bx:=(b,[.sl a,.x (G.root o)]) :: s.bx,pb:=s.pb++[o] }:=⟨_,rfl⟩
 obtain ⟨w1,hw1⟩:∃ w1:Aq,w1={ w0 with pb:=upd w0.pb s.pb.length (G.β o),pv:=upd w0.pv s.pb.length (some (G.root o)) }:=⟨_,rfl⟩
 have hlk:∀ b' cs',AO s1.bx b'=some cs'→∃ cs2,AO s.bx b'=some cs2:=fun b' cs' hl=>by
  rw [hs1] at hl
  simp only [Az] at hl
  split at hl
  ·rename_i e;exact ⟨_,e ▸ hb⟩
  ·exact ⟨cs',hl⟩
 have hr1:Rel w1 G s1 a' w:=by
  subst hs1 hw1
  refine ⟨h.nt,h.df,h.tm,fun b' cs' hl => ?_,fun b1 b2 c1 c2 h1 h2 e => ?_,fun q J hq => ?_,h.dis,h.bel,h.zl,fun i q hq => ?_,h.zz⟩
  ·simp only [Az] at hl
   split at hl
   ·rename_i e
    subst e
    injection hl with hl
    subst hl
    exact ⟨hbn,hbb,_,TT,hB,by unfold RVs RVs;exact ⟨u1,_,rfl,hu1,_,_,rfl,by unfold RV;exact ⟨rfl,hone⟩,hr3⟩⟩
   ·exact h.bx b' cs' hl
  ·obtain ⟨d1,h1'⟩:=hlk b1 c1 h1
   obtain ⟨d2,h2'⟩:=hlk b2 c2 h2
   exact h.inj b1 b2 d1 d2 h1' h2' e
  ·obtain ⟨q1,q2,q3⟩:=h.own q J hq
   exact ⟨q1,q2,fun b' cs' hl=>by obtain ⟨c1,h1⟩:=hlk b' cs' hl;exact q3 b' c1 h1⟩
  ·simp only at hq
   rw [List.getElem?_append] at hq
   split at hq
   ·rename_i hlt
    obtain ⟨q1,q2,q3⟩:=h.pb i q hq
    refine ⟨q1, ?_,fun v hv => ?_⟩
    ·show upd w0.pb s.pb.length (G.β o) i=G.β q
     rw [AQ _ _ (by omega)];exact q2
    ·have hv':upd w0.pv s.pb.length (some (G.root o)) i=some v:=hv
     rw [AQ _ _ (by omega)] at hv'
     exact q3 v hv'
   ·rename_i hge
    have hi0:i-s.pb.length=0:=by
     rcases Nat.eq_zero_or_pos (i-s.pb.length) with e | e
     ·exact e
     ·rw [List.getElem?_eq_none (by simp;omega)] at hq;cases hq
    rw [hi0] at hq
    simp at hq
    subst hq
    have hi:i=s.pb.length:=by omega
    subst hi
    refine ⟨hon, ?_,fun v hv => ?_⟩
    ·show upd w0.pb s.pb.length (G.β o) s.pb.length=G.β o
     rw [Bu]
    ·have hv':upd w0.pv s.pb.length (some (G.root o)) s.pb.length=some v:=hv
     rw [Bu] at hv'
     injection hv'
 have hev:∀ x,s1.ev x=s.ev x:=fun x=>by subst hs1;cases x <;> rfl
 have hmap:args.toList.map s1.ev = .bx b 0 :: ys:=by rw [show s1.ev=s.ev from funext hev];exact ha
 have hl1:AO s1.bx b=some [.sl a,.x (G.root o)]:=by subst hs1;simp [Az]
 have hI1:s1.owf a=some ⟨d,some T,true⟩:=by subst hs1;exact hI
 have he:ePs s1 (args.toList.map s1.ev++[]) (.p [.a T d,.v (G.root o)] :: ps.map PA.b)=[a]:=by
  rw [List.append_nil,hmap]
  unfold ePs eP
  rw [hl1]
  have e0:∀ (l:List AV) (ps:List PD),ePs s1 l (ps.map PA.b)=[]:=by
   intro l
   induction l with
   | nil=>intro ps;cases ps <;> rfl
   | cons x l ih =>
    intro ps
    cases ps with
    | nil=>rfl
    | cons p ps =>
     rw [List.map_cons];unfold ePs;rw [ih ps];cases x <;> rfl
  rw [e0]
  rfl
 have hbp:bPs (args.toList.map s1.ev++[]) (.p [.a T d,.v (G.root o)] :: ps.map PA.b)=[b]:=by
  rw [List.append_nil,hmap]
  unfold bPs bP
  have e0:∀ (l:List AV) (ps:List PD),bPs l (ps.map PA.b)=[]:=by
   intro l
   induction l with
   | nil=>intro ps;cases ps <;> rfl
   | cons x l ih =>
    intro ps
    cases ps with
    | nil=>rfl
    | cons p ps =>
     rw [List.map_cons];unfold bPs;rw [ih ps];cases x <;> rfl
  rw [e0]
  rfl
 have hrm:∀ l:List (Nat × List AV),EW [b] ((b,[.sl a,.x (G.root o)]) :: l)=EW [b] l:=fun l=>by
  show rmB b ((b,[.sl a,.x (G.root o)]) :: l)=rmB b l
  unfold rmB
  rw [if_pos rfl]
  cases l <;> rfl
 have hm:mPs ((s1.kl [a]).kb [b]) s1 (args.toList.map s1.ev++[]) (.p [.a T d,.v (G.root o)] :: ps.map PA.b):=by
  rw [List.append_nil,hmap]
  unfold mPs
  refine ⟨⟨rfl, ?_⟩, ?_⟩
  ·rw [hl1]
   refine ⟨?_,rfl,trivial⟩
   show (match s1.owf a with | some I=>(I.ap=some T∧I.deep=true)∧I.d=d | none=>False)
   rw [hI1];exact ⟨⟨rfl,rfl⟩,rfl⟩
  ·have e1:∀ (l:List AV) (ps:List PD),mPs { ((s.kl [a]).kb [b]) with pb:=s.pb++[o] } s l (ps.map PA.b)→mPs ((s1.kl [a]).kb [b]) s1 l (ps.map PA.b):=by
    intro l
    induction l with
    | nil=>intro ps hp;cases ps with
     | nil=>exact trivial
     | cons p ps=>exact hp.elim
    | cons x l ih =>
     intro ps hp
     cases ps with
     | nil=>exact hp.elim
     | cons p ps =>
      rw [List.map_cons] at hp ⊢
      unfold mPs at hp ⊢
      refine ⟨?_,ih ps hp.2⟩
      have hx:aA { ((s.kl [a]).kb [b]) with pb:=s.pb++[o] } x p:=by cases x <;> exact hp.1
      have hx':aA ((s1.kl [a]).kb [b]) x p:=by
       have:((s1.kl [a]).kb [b])={ ((s.kl [a]).kb [b]) with pb:=s.pb++[o] }:=by
        subst hs1
        unfold AS.kl AS.kb
        simp only [hrm]
       rw [this]
       exact hx
      cases x <;> exact hx'
   exact e1 ys ps hys
 refine KY hr1 (hc (G.root o) hone) (by rw [hev];exact hf) he hbp (.inl ⟨rfl,rfl⟩) hm (by simp) (by simp) fun a2 w' ⟨G',hr'⟩=>hK a2 w' ⟨G', ?_⟩
 have hS1:((Eh s1 [a] [b] [[.a T d',.v (G.root o)]] [.one (.o (.int k))]).pt dst (En s1 [a] [b] [.one (.o (.int k))]))={ ((Er s a b o T d').pt dst (.i k)) with bx:=(b,[.sl s.nx,.x (G.root o)]) :: (((s.kl [a]).kb [b]).mk' [] ⟨d',some T,true⟩).bx,pb:=s.pb++[o] }:=by
  subst hs1
  have ex:Eh { s with bx:=(b,[.sl a,.x (G.root o)]) :: s.bx,pb:=s.pb++[o] } [a] [b] [[.a T d',.v (G.root o)]] [.one (.o (.int k))]={ (Er s a b o T d') with bx:=(b,[.sl s.nx,.x (G.root o)]) :: (((s.kl [a]).kb [b]).mk' [] ⟨d',some T,true⟩).bx,pb:=s.pb++[o] }:=by
   unfold Eh Er AS.kl AS.kb AS.mk'
   simp only [Br,mkC,mkO,hrm]
   rfl
  rw [ex]
  have ev:En { s with bx:=(b,[.sl a,.x (G.root o)]) :: s.bx,pb:=s.pb++[o] } [a] [b] [.one (.o (.int k))] = .i k:=rfl
  rw [ev]
  cases dst with
  | none=>rfl
  | some t=>unfold AS.pt;simp only;split <;> (rename_i hh;first | rfl | (simp_all))
 rw [hS1] at hr'
 obtain ⟨S2,hS2⟩:∃ S2,S2=(Er s a b o T d').pt dst (.i k):=⟨_,rfl⟩
 have hbx2:S2.bx=(b,[.sl s.nx,.sl o]) :: (((s.kl [a]).kb [b]).mk' [] ⟨d',some T,true⟩).bx:=by
  subst hS2;cases dst with
  | none=>rfl
  | some t=>unfold AS.pt;simp only;split <;> rfl
 have hpb2:S2.pb=s.pb:=by
  subst hS2;cases dst with
  | none=>rfl
  | some t=>unfold AS.pt;simp only;split <;> rfl
 have hnx2:S2.nx=s.nx+1:=by
  subst hS2;cases dst with
  | none=>rfl
  | some t=>unfold AS.pt;simp only;split <;> rfl
 have howf2:S2.owf o=some I:=by
  have e0:S2.ow=(((s.kl [a]).kb [b]).mk' [] ⟨d',some T,true⟩).ow:=by
   subst hS2;cases dst with
   | none=>rfl
   | some t=>unfold AS.pt;simp only;split <;> rfl
  unfold AS.owf
  rw [e0]
  show (AO ((s.nx,some _) :: (a,none) :: s.ow) o).bind id=some I
  rw [Az,if_neg (by omega),Az,if_neg hao]
  exact hO
 rw [← hS2] at hr' ⊢
 have hroot:G'.root o=G.root o:=by
  have hq:({ S2 with bx:=(b,[.sl s.nx,.x (G.root o)]) :: (((s.kl [a]).kb [b]).mk' [] ⟨d',some T,true⟩).bx,pb:=s.pb++[o] }:AS).pb[s.pb.length]? = some o:=by simp
  refine (hr'.pb _ _ hq).2.2 (G.root o) ?_
  subst hw1
  show upd w0.pv s.pb.length (some (G.root o)) s.pb.length=_
  rw [Bu]
 have hlk2:∀ b' cs',AO S2.bx b'=some cs'→∃ cs2,AO ((b,[AV.sl s.nx,AV.x (G.root o)]) :: (((s.kl [a]).kb [b]).mk' [] ⟨d',some T,true⟩).bx) b'=some cs2:=fun b' cs' hl=>by
  rw [hbx2,Az] at hl
  rw [Az]
  split at hl
  ·rename_i e;rw [if_pos e];exact ⟨_,rfl⟩
  ·rename_i e;rw [if_neg e];exact ⟨cs',hl⟩
 have hbel:=hr'.bel
 refine ⟨hr'.nt,hr'.df,hr'.tm,fun b' cs' hl => ?_,fun b1 b2 c1 c2 h1 h2 e => ?_,fun q J hq => ?_,hr'.dis,by subst hw1;exact hbel,hr'.zl,fun i q hq => ?_,by have:=hr'.zz;subst hw1;exact this⟩
 ·have hl0:=hl
  rw [hbx2,Az] at hl
  split at hl
  ·rename_i e
   subst e
   injection hl with hl
   subst hl
   obtain ⟨q1,q2,us',T',q3,q4⟩:=hr'.bx b' [.sl s.nx,.x (G.root o)] (by simp only [Az,if_true])
   refine ⟨q1,by subst hw1;exact q2,us',T',q3, ?_⟩
   unfold RVs RVs at q4 ⊢
   obtain ⟨v1,r1,e1,g1,v2,r2,e2,g2,g3⟩:=q4
   refine ⟨v1,r1,e1,g1,v2,r2,e2, ?_,g3⟩
   unfold RV at g2 ⊢
   refine ⟨by show o<S2.nx;rw [hnx2];omega,by rw [g2.1];exact hone,fun J hJ => ?_⟩
   rw [g2.1,hroot]
  ·rename_i e
   obtain ⟨q1,q2,us',T',q3,q4⟩:=hr'.bx b' cs' (by simp only [Az,if_neg e];exact hl)
   exact ⟨q1,by subst hw1;exact q2,us',T',q3,q4⟩
 ·obtain ⟨d1,h1'⟩:=hlk2 b1 c1 h1
  obtain ⟨d2,h2'⟩:=hlk2 b2 c2 h2
  exact hr'.inj b1 b2 d1 d2 h1' h2' e
 ·obtain ⟨q1,q2,q3⟩:=hr'.own q J hq
  refine ⟨q1,by subst hw1;exact q2,fun b' cs' hl => ?_⟩
  obtain ⟨c1,h1⟩:=hlk2 b' cs' hl
  exact q3 b' c1 h1
 ·rw [hpb2] at hq
  have hlt:i<s.pb.length:=by
   rcases Nat.lt_or_ge i s.pb.length with h1 | h1
   ·exact h1
   ·rw [List.getElem?_eq_none h1] at hq;cases hq
  obtain ⟨q1,q2,q3⟩:=hr'.pb i q (by show (s.pb++[o])[i]? = some q;rw [List.getElem?_append_left hlt];exact hq)
  subst hw1
  refine ⟨q1, ?_,fun v hv=>q3 v ?_⟩
  ·have:upd w0.pb s.pb.length (G.β o) i=G'.β q:=q2
   rw [AQ _ _ (by omega)] at this
   exact this
  ·show upd w0.pv s.pb.length (some (G.root o)) i=some v
   rw [AQ _ _ (by omega)];exact hv
theorem Cz {P:Program} {all rest:List Oper} {st:List It} {dst:Option Tmp} {f:Operand} {args:Array Operand} {tys:Array TypeId} {ty:TypeId} {pos:String} {af:Array Edge} {gd:Option (Nat × Bool)} {s:AS} {Q:QE} {F:FuncId} {a b o:Nat} {k:Int} {T:TypeId} {d d':D} {I:Cb} {ys:List AV} {ps:List PD}
  (hc:∀ x:Value,x.oneCell'=true→Bc P F (.p [.a T d,.v x] :: ps.map PA.b) [[.a T d',.v x]] [.one (.o (.int k))]) (hf:s.ev f = .fn F []) (ha:args.toList.map s.ev = .bx b 0 :: ys) (hb:AO s.bx b=some [.sl a,.sl o]) (hI:s.owf a=some ⟨d,some T,true⟩) (hO:s.owf o=some I) (hao:o≠a)
  (hys:mPs { ((s.kl [a]).kb [b]) with pb:=s.pb++[o] } s ys (ps.map PA.b)) (h:SW P (.ops all rest :: st) ((Er s a b o T d').pt dst (.i k)) Q):SW P (.ex all ⟨dst,.call ⟨.value f,args,tys⟩,ty,pos,af,gd⟩ rest :: st) s Q:=fun w0 G a' w hr =>
 Vo hr hc hf ha hb hI hO hao hys fun a2 w' ⟨G',hr'⟩=>h w0 G' a2 w' hr'
set_option maxRecDepth 20000
mutual
def Ut (m:Int):Ty→Bool
 | .mk k xs=>Ki m xs || decide (k=m)
def Ki (m:Int):List Ty→Bool
 | []=>false
 | x :: xs=>Ut m x || Ki m xs
end
theorem PS (m:Int) (xs:List Ty) (k:Nat) (h:k<xs.length):Ki m (xs.drop k)=(Ut m xs[k]! || Ki m (xs.drop (k+1))):=by
 rw [List.drop_eq_getElem_cons h,Ki,getElem!_pos xs k h]
theorem Md (m:Int):∀ t:Ty,szL (tyC t)≤1000000000→Con prog 216 [.ag (tyC t),.one (.int m)] [.one (.bool (Ut m t))]:=by
 refine Ty.ind fun kd xs ih hz => ?_
 have hz':xs.length+szL (Ai xs)≤1000000000:=by simpa [tyC,szL,szD] using hz
 have hT:Ut m (.mk kd xs)=(Ki m xs || decide (kd=m)):=by rw [Ut]
 rw [hT]
 refine Af func216 rfl rfl (by simp [ntmps216]) ?_
 refine byP (fc ntmps216 tyC.eq_1) ?_
 refine Al (fun k:Nat=>k≤xs.length∧Ki m (xs.drop k)=Ki m xs) (fun k=>⟨24,[(5,.i k),(1,.i m),(2,.bx 0 0)],[(0,[.i kd,.br (.rows 2 xs.length (Ai xs))])],[],1,[]⟩) (fun k=>xs.length-k) 0 id ⟨Nat.zero_le _,rfl⟩ ?_ ?_
 ·exact byQ tI
 ·rintro k ⟨hk,hf⟩
  refine Aa 200 _ _ _ ?_
  by_cases hlt:k<xs.length
  ·have hi:(k:Int)<(xs.length:Int):=by omega
   have hR:=Ax xs k hlt
   have hm:=Ab hlt
   have hs:=Dy xs k hlt
   have hrec:=ih _ hm (by omega)
   rw [PS m xs k hlt] at hf
   obtain ⟨b,hb⟩:∃ b,b=Ut m xs[k]! := ⟨_,rfl⟩
   rw [← hb] at hrec hf
   refine byP (fc hi hR) ?_
   refine As (hrec) rfl (Am ?_) ?_ (Aa 200 _ _ _ ?_)
   ·exact byQ tI
   ·simp only [okR]
   cases b
   ·rw [Bool.false_or] at hf
    refine byQ ?_
    refine ⟨by unfold inI;omega,k+1,id,⟨by omega,hf⟩,by omega, ?_⟩
    exact byQ tI
   ·rw [Bool.true_or] at hf
    simp only [push_cast,↓reduceIte,Nat.reduceLT,reduceCtorEq,← hf,Bool.true_or,results216]
  ·have hi:¬ (k:Int)<(xs.length:Int):=by omega
   rw [List.drop_of_length_le (by omega),Ki] at hf
   rw [← hf,Bool.false_or]
   refine byP hi ?_
   exact rG results216 tI
def pnS (t:Tm):Bool:=if t.kind<10 then (if Ut 4 t.ty=true then false else !Ut 4 t.res) else false
theorem MT:∀ t:Tm,szL (tmC t)≤1000000000→Con prog 138 [.ag (tmC t)] [.one (.bool (Bn pnS t))]:=by
 refine Tm.ind fun t ih hz => ?_
 have hT:Bn pnS t=(BV pnS t.args && pnS t):=by rw [Cv,Bool.and_comm]
 rw [hT]
 have hY:=Md 4 t.ty (Cq hz).1
 have hR:=Md 4 t.res (Cq hz).2.1
 have hz8:=(Cq hz).2.2
 unfold pnS
 generalize Ut 4 t.ty=c at *
 generalize Ut 4 t.res=d at *
 change Con _ _ _ [.one (.bool (BV pnS t.args && _))]
 clear hT
 refine Af func138 rfl rfl (by simp [ntmps138]) ?_
 refine byP ntmps138 ?_
 refine Al (fun k:Nat=>k≤t.args.length∧BV pnS (t.args.drop k)=BV pnS t.args) (fun k=>⟨33,[(3,.i k),(1,.bx 0 0)],[(0,[.i t.kind,.s t.name,.s t.other,.i t.n,.i t.ty.kind,.br (.rows 2 t.ty.args.length (Ai t.ty.args)),.i t.res.kind,.br (.rows 2 t.res.args.length (Ai t.res.args)),.br (.rows 9 t.args.length (Av t.args))])],[],1,[]⟩) (fun k=>t.args.length-k) 0 id ⟨Nat.zero_le _,rfl⟩ ?_ ?_
 ·exact byQ tI
 ·rintro k ⟨hk,hf⟩
  refine Aa 200 _ _ _ ?_
  by_cases hlt:k<t.args.length
  ·have hi:(k:Int)<(t.args.length:Int):=by omega
   have hR':=Aj t.args k hlt
   have hm:=Ab hlt
   have hs:=Bv t.args k hlt
   have hrec:=ih _ hm (by omega)
   rw [IE pnS t.args k hlt] at hf
   obtain ⟨b,hb⟩:∃ b,b=Bn pnS t.args[k]! := ⟨_,rfl⟩
   rw [← hb] at hrec hf
   refine byP (fc hi hR') ?_
   refine As (hrec) rfl (Am ?_) ?_ (Aa 200 _ _ _ ?_)
   ·exact byQ tI
   ·simp only [okR]
   cases b
   ·rw [Bool.false_and] at hf
    simp only [push_cast,↓reduceIte,Nat.reduceLT,reduceCtorEq,← hf,results138]
   ·refine byQ ?_
    refine ⟨by unfold inI;omega,k+1,id,⟨by omega,by simpa using hf⟩,by omega, ?_⟩
    exact byQ tI
  ·have hi:¬ (k:Int)<(t.args.length:Int):=by omega
   rw [List.drop_of_length_le (by omega),BV] at hf
   rw [← hf,Bool.true_and]
   refine byP hi ?_
   refine Aa 200 _ _ _ ?_
   rcases pc (t.kind<10) with h1 | h1
   ·refine byP h1 ?_
    refine As (hY) rfl (Am ?_) ?_ (Aa 200 _ _ _ ?_)
    ·exact byQ tI
    ·simp only [okR]
    cases c
    ·refine byQ ?_
     refine As (hR) rfl (Am ?_) ?_ (Aa 200 _ _ _ ?_)
     ·exact byQ tI
     ·simp only [okR]
     cases d
     all_goals simp only [push_cast,↓reduceIte,Nat.reduceLT,Nat.reduceEqDiff,reduceCtorEq,results138]
    ·exact byP results138 tI
   ·exact byP (fc h1 results138) tI
theorem LL (t:Tm) (hz:szL (tmC t)≤1000000000):Con prog 60 [.ag (tmC t)] [.one (.bool (Bn EO t && Bn pnS t))]:=by
 have h1:=FD t hz
 have h2:=MT t hz
 generalize Bn EO t=a at *
 generalize Bn pnS t=b at *
 cases a
 all_goals
  refine Af func60 rfl rfl (by simp [ntmps60]) ?_
  refine byP ntmps60 ?_
  refine As (h1) rfl (Am ?_) ?_ (Aa 200 _ _ _ ?_)
  ·exact byQ tI
  ·simp only [okR]
  try simp only [push_cast,↓reduceIte,Nat.reduceLT,Nat.reduceAdd,Nat.reduceEqDiff,reduceCtorEq,results60]
 ·refine Kc h2 ?_
  exact rG results60 tI
def plT (t:Tm):Bool:=Bn EO t && Bn pnS t
structure Wt where
 pl:Int
 nms:List ByteArray
 body:Tm
 deriving Inhabited
def wtC (x:Wt):List D:=[.int x.pl,.rows 1 x.nms.length (x.nms.map D.str),.int x.body.kind,.str x.body.name,.str x.body.other,.int x.body.n,.int x.body.ty.kind,.rows 2 x.body.ty.args.length (Ai x.body.ty.args),.int x.body.res.kind,.rows 2 x.body.res.args.length (Ai x.body.res.args),.rows 9 x.body.args.length (Av x.body.args)]
theorem ZO (x:Wt):(wtC x).length=11:=rfl
structure CS where
 code:List Ins
 q:List Wt
 deriving Inhabited
def csP (T:TypeId) (s:CS):List CD:=[.a 37 (.rows 2 s.code.length (flC Bk s.code)),.q T (.rows 11 s.q.length (flC wtC s.q))]
def Be (s:CS) (op a:Int):CS:=⟨s.code++[⟨op,a⟩],s.q⟩
def Db (s:CS) (k:Nat) (a:Int):CS:=⟨s.code.set k ⟨(s.code[k]!).op,a⟩,s.q⟩
def SO (s:CS) (x:Wt):CS:=⟨s.code,s.q++[x]⟩
def lsN (xs:List ByteArray) (x:ByteArray):Nat→Int
 | 0 => -1
 | k+1=>if xs[k]! = x then (k:Int) else lsN xs x k
def plN (xs:List ByteArray) (x:ByteArray):Int:=(xs.length:Int)-1-lsN xs x xs.length
abbrev CF:=List ByteArray→CS→CS
instance : Inhabited CF := ⟨fun _ s => s⟩
def Ep (fs:List CF) (nms:List ByteArray) (s:CS):CS:=fs.foldl (fun s f=>f nms s) s
def ifF (fs:List CF) (nms:List ByteArray) (s:CS):CS :=
 let s1:=Be ((fs[0]!) nms s) 6 0
 let s2:=Be ((fs[1]!) nms s1) 5 0
 let s3:=(fs[2]!) nms (Db s2 (((fs[0]!) nms s).code.length) s2.code.length)
 Db s3 (((fs[1]!) nms s1).code.length) s3.code.length
def cpF (k:Int) (nm ot:ByteArray) (n:Int) (args:List Tm) (fs:List CF) (nms:List ByteArray) (s:CS):CS :=
 if k=2 then Be s 1 n
 else if k=3 then Be s 2 n
 else if k=1 then Be s 3 (plN nms nm)
 else if k=4 then Be (Ep fs nms s) 4 (fi nm Kp 0+1)
 else if k=5 then ifF fs nms s
 else if k=6 then SO (Be s 7 0) ⟨s.code.length,nms++[nm],args[0]!⟩
 else if k=9 then SO (Be s 8 0) ⟨s.code.length,nms++[nm,ot],args[0]!⟩
 else if k=7 then Be ((fs[1]!) nms ((fs[0]!) nms s)) 9 0
 else if k=8 then Be ((fs[1]!) (nms++[nm]) (Be ((fs[0]!) nms s) 11 0)) 12 0
 else s
mutual
def cpT:Tm→CF
 | .mk k nm ot n _ _ args=>cpF k nm ot n args (aEv args)
def aEv:List Tm→List CF
 | []=>[]
 | a :: l=>cpT a :: aEv l
end
theorem NG:∀ l,aEv l=l.map cpT
 | []=>rfl
 | a :: l=>by rw [aEv,NG l];rfl
theorem DU (e:Tm):cpT e=cpF e.kind e.name e.other e.n e.args (e.args.map cpT):=by
 obtain ⟨k,nm,ot,n,ty,rs,args⟩:=e
 rw [cpT,NG];rfl
def cmL:Nat→Nat→CS→CS
 | 0,_,s=>s
 | f+1,i,s=>if i<s.q.length∧s.code.length≤300 then cmL f (i+1) (Be (cpT (s.q[i]!).body (s.q[i]!).nms (Db s (s.q[i]!).pl.toNat s.code.length)) 10 0) else s
def cmS (e:Tm):CS:=cmL 400 0 (Be (cpT e [] ⟨[],[]⟩) 10 0)
def PQ (e:Tm) (names:List ByteArray) (s:CS):Prop:=szL (tmC e)≤2000000∧names.length+2 * (szL (tmC e)+1)≤10000000∧s.code.length+2 * (szL (tmC e)+1)≤10000000∧s.q.length+2 * (szL (tmC e)+1)≤10000000000
theorem Ra (a:Int):∀ (l:List Ins) (k:Nat),k<l.length→(flC Bk l).set (k * 2+1) (.int a)=flC Bk (l.set k ⟨(l[k]!).op,a⟩)
 | [],k,h=>by simp at h
 | x :: l,0,_=>rfl
 | x :: l,k+1,h=>by
  have ih:=Ra a l k (by simpa using h)
  show (D.int x.op :: D.int x.a :: flC Bk l).set ((k+1) * 2+1) (.int a)=D.int x.op :: D.int x.a :: flC Bk (l.set k ⟨((x :: l)[k+1]!).op,a⟩)
  rw [show (k+1) * 2+1=(k * 2+1)+1+1 by omega,List.set_cons_succ,List.set_cons_succ,ih,List.getElem!_cons_succ]
theorem Kw (s:CS) (k:Nat) (a:Int) (h:k<s.code.length):(flC Bk s.code).set (k * 2+1) (.int a)=flC Bk (Db s k a).code:=Ra a s.code k h
theorem aBz (s:ByteArray) (xs:List ByteArray) (hs:xs.length≤1000):inI (fi s xs 0+1):=by
 have:=OA s xs 0 (by omega)
 unfold inI;omega
theorem Lx (s:CS) (x:Wt):(SO s x).code=s.code:=rfl
theorem CO (T:TypeId) (s:CS):csP T s=[.a 37 (.rows 2 s.code.length (flC Bk s.code)),.q T (.rows 11 s.q.length (flC wtC s.q))]:=rfl
theorem Ca {e:Tm} (h:plT e=true):∀ x ∈ e.args,plT x=true:=by
 obtain ⟨k,s,o,n,ty,r,xs⟩:=e
 unfold plT at h
 simp only [Bool.and_eq_true,Bn] at h
 have key:∀ (p:Tm→Bool) (l:List Tm),BV p l=true→∀ x ∈ l,Bn p x=true:=by
  intro p l
  induction l with
  | nil=>intro _ x hx;cases hx
  | cons y l ih =>
   intro h x hx
   rw [BV,Bool.and_eq_true] at h
   rcases List.mem_cons.1 hx with rfl | hx
   ·exact h.1
   ·exact ih h.2 x hx
 intro x hx
 unfold plT
 rw [key _ _ h.1.2 x hx,key _ _ h.2.2 x hx];rfl
theorem BO {e:Tm} (h:plT e=true):(e.kind=1∨e.kind=2∨e.kind=3∨e.kind=4∨e.kind=5∨e.kind=6∨e.kind=7∨e.kind=8∨e.kind=9)∧(e.kind=5→e.args.length=3)∧(e.kind=6→e.args.length=1)∧(e.kind=7→e.args.length=2)∧(e.kind=8→e.args.length=2)∧(e.kind=9→e.args.length=1):=by
 unfold plT at h
 rw [Bool.and_eq_true,Cv,Cv,Bool.and_eq_true,Bool.and_eq_true] at h
 obtain ⟨⟨h1,_⟩,h2,_⟩:=h
 have hk:e.kind<10:=by
  unfold pnS at h2
  split at h2
  ·assumption
  ·cases h2
 rw [Gy] at h1
 simp only [Bool.and_eq_true,decide_eq_true_eq] at h1
 obtain ⟨ha,hn,_⟩:=h1
 unfold WP at hn
 unfold arF at ha
 rcases GX e.kind with h | h | h | h | h | h | h | h | h | h | h | h | h | ⟨g1,g2,g3,g4,g5,g6,g7,g8,g9,g10,g11,g12,g13⟩
 case inr.inr.inr.inr.inr.inr.inr.inr.inr.inr.inr.inr.inr =>
  simp only [g1,g2,g3,g4,g5,g6,g7,g8,g9,g10,g11,g12,g13,if_false] at hn
  rw [Tn _ g1 g2 g3 g4 g5 g6 g7 g8 g9 g10 g11 g12 g13] at hn
  cases hn
 all_goals
  simp only [h,if_true,if_false,Int.reduceEq] at ha
  omega
structure Gr (b:Nat) (J:Wt→Prop) (s s':CS):Prop where
 code:s.code.length≤s'.code.length∧s'.code.length≤s.code.length+b
 q:s.q.length≤s'.q.length∧s'.q.length≤s.q.length+b
 nw:∀ x ∈ s'.q,x ∈ s.q∨(J x∧0≤x.pl∧x.pl<(s'.code.length:Int))
theorem Gr.refl (b:Nat) (J:Wt→Prop) (s:CS):Gr b J s s:=⟨⟨Nat.le_refl _,Nat.le_add_right _ _⟩,⟨Nat.le_refl _,Nat.le_add_right _ _⟩,fun x hx => .inl hx⟩
theorem Gr.trans {b1 b2:Nat} {J:Wt→Prop} {s1 s2 s3:CS} (h:Gr b1 J s1 s2) (k:Gr b2 J s2 s3):Gr (b1+b2) J s1 s3:=by
 have c1:=h.code;have c2:=k.code;have q1:=h.q;have q2:=k.q
 refine ⟨⟨by omega,by omega⟩,⟨by omega,by omega⟩,fun x hx => ?_⟩
 rcases k.nw x hx with hx | hx
 ·rcases h.nw x hx with hx | ⟨h1,h2,h3⟩
  ·exact .inl hx
  ·exact .inr ⟨h1,h2,by omega⟩
 ·exact .inr hx
theorem Gr.le {b b':Nat} {J:Wt→Prop} {s s':CS} (h:Gr b J s s') (hb:b≤b'):Gr b' J s s' :=
 ⟨⟨h.code.1,by have:=h.code.2;omega⟩,⟨h.q.1,by have:=h.q.2;omega⟩,h.nw⟩
theorem Bi (s:CS) (op a:Int):(Be s op a).code.length=s.code.length+1:=by unfold Be;simp
theorem CB (s:CS) (op a:Int):(Be s op a).q=s.q:=rfl
theorem Cd (s:CS) (k:Nat) (a:Int):(Db s k a).code.length=s.code.length:=by unfold Db;simp
theorem Hh (s:CS) (k:Nat) (a:Int):(Db s k a).q=s.q:=rfl
theorem UA (s:CS) (x:Wt):(SO s x).code.length=s.code.length:=rfl
theorem Ob (s:CS) (x:Wt):(SO s x).q=s.q++[x]:=rfl
theorem ES (s:CS) (op a:Int) (J:Wt→Prop):Gr 1 J s (Be s op a) :=
 ⟨by rw [Bi];omega,by rw [CB];omega,fun x hx => .inl hx⟩
theorem XU (s:CS) (k:Nat) (a:Int) (J:Wt→Prop):Gr 0 J s (Db s k a) :=
 ⟨by rw [Cd];omega,by rw [Hh];omega,fun x hx => .inl hx⟩
theorem XH (s:CS) (x:Wt) (J:Wt→Prop) (h:J x) (h1:0≤x.pl) (h2:x.pl<(s.code.length:Int)):Gr 1 J s (SO s x) :=
 ⟨by rw [UA];omega,by rw [Ob,List.length_append];simp,fun y hy=>by
  rw [Ob,List.mem_append,List.mem_singleton] at hy
  rcases hy with hy | rfl
  ·exact .inl hy
  ·exact .inr ⟨h,h1,h2⟩⟩
def aEp (L:Nat) (x:Wt):Prop:=plT x.body=true∧Cov x.nms x.body∧szL (tmC x.body)≤2000000∧x.nms.length+2 * (szL (tmC x.body)+1)≤L
theorem sz1 {e:Tm} (h:e.args.length=1):szL (tmC e.args[0]!)+1≤szL (tmC e):=by
 obtain ⟨k,s,o,n,ty,r,xs⟩:=e
 match xs,h with
 | [a],_ =>
  have h:=BM (.mk k s o n ty r [a])
  simp only [AJ,Av,Ah,List.length_cons] at h
  show szL (tmC a)+1≤szL (tmC (.mk k s o n ty r [a]))
  omega
theorem sz2 {e:Tm} (h:e.args.length=2):szL (tmC e.args[0]!)+szL (tmC e.args[1]!)+2≤szL (tmC e):=by
 obtain ⟨k,s,o,n,ty,r,xs⟩:=e
 match xs,h with
 | [a,b],_ =>
  have h:=BM (.mk k s o n ty r [a,b])
  simp only [AJ,Av,Ah,List.length_cons] at h
  show szL (tmC a)+szL (tmC b)+2≤szL (tmC (.mk k s o n ty r [a,b]))
  omega
theorem sz3 {e:Tm} (h:e.args.length=3):szL (tmC e.args[0]!)+szL (tmC e.args[1]!)+szL (tmC e.args[2]!)+3≤szL (tmC e):=by
 obtain ⟨k,s,o,n,ty,r,xs⟩:=e
 match xs,h with
 | [a,b,c],_ =>
  have h:=BM (.mk k s o n ty r [a,b,c])
  simp only [AJ,Av,Ah,List.length_cons] at h
  show szL (tmC a)+szL (tmC b)+szL (tmC c)+3≤szL (tmC (.mk k s o n ty r [a,b,c]))
  omega
theorem szK {e:Tm} {k:Nat} (h:k<e.args.length):szL (tmC e.args[k]!)+1≤szL (tmC e):=by
 have:=Bv e.args k h
 rw [BM e];omega
theorem aDH {L:Nat} {pl:Int} {nms:List ByteArray} {b:Tm} (h1:plT b=true) (h2:Cov nms b) (h3:szL (tmC b)≤2000000) (h4:nms.length+2 * (szL (tmC b)+1)≤L):aEp L ⟨pl,nms,b⟩:=⟨h1,h2,h3,h4⟩
theorem Bm {names:List ByteArray} {e:Tm} (h:Cov names e) (hk:e.kind=4∨e.kind=5∨e.kind=7) {i:Nat} (hi:i<e.args.length):Cov names e.args[i]! := by
 refine h.part (by omega) hi ?_
 unfold bdP
 rw [if_neg (by omega),if_neg (by omega),if_neg (by omega)];omega
theorem RI {names:List ByteArray} {e:Tm} (h:Cov names e) (hk:e.kind=6) (hl:e.args.length=1):Cov (names++[e.name]) e.args[0]! := by
 have:=h.bind (by omega) (i:=0) (by omega)
 unfold bdN at this
 rwa [if_pos ⟨hk,hl⟩] at this
theorem SL {names:List ByteArray} {e:Tm} (h:Cov names e) (hk:e.kind=9) (hl:e.args.length=1):Cov (names++[e.name,e.other]) e.args[0]! := by
 have:=h.bind (by omega) (i:=0) (by omega)
 unfold bdN at this
 rwa [if_neg (by omega),if_neg (by omega),if_pos ⟨hk,hl⟩] at this
theorem HC {names:List ByteArray} {e:Tm} (h:Cov names e) (hk:e.kind=8) (hl:e.args.length=2):Cov names e.args[0]! := by
 refine h.part (by omega) (by omega) ?_
 unfold bdP
 rw [if_neg (by omega),if_pos ⟨hk,hl⟩];omega
theorem HO {names:List ByteArray} {e:Tm} (h:Cov names e) (hk:e.kind=8) (hl:e.args.length=2):Cov (names++[e.name]) e.args[1]! := by
 have:=h.bind (by omega) (i:=1) (by omega)
 unfold bdN at this
 rwa [if_neg (by omega),if_pos ⟨hk,hl⟩] at this
theorem Sy (fs:List CF) (f:CF) (names:List ByteArray) (s:CS):Ep (fs++[f]) names s=f names (Ep fs names s):=by unfold Ep;rw [List.foldl_append];rfl
theorem Dq (e:Tm) (names:List ByteArray) (s:CS) {k:Nat} (h:k<e.args.length):Ep ((e.args.take (k+1)).map cpT) names s=cpT e.args[k]! names (Ep ((e.args.take k).map cpT) names s):=by
 rw [AH e.args k h,List.map_append,List.map_cons,List.map_nil,Sy]
theorem IZ (L:Nat):∀ e:Tm,szL (tmC e)≤2000000→∀ names s,plT e=true→Cov names e→names.length+2 * (szL (tmC e)+1)≤L→Gr (2 * (szL (tmC e)+1)) (aEp L) s (cpT e names s):=by
 refine Tm.ind fun e ih hz names s hp hc hL => ?_
 obtain ⟨hk,k5,k6,k7,k8,k9⟩:=BO hp
 have hpa:=Ca hp
 rw [DU,cpF]
 by_cases g2:e.kind=2
 ·rw [if_pos g2];exact (ES ..).le (by omega)
 rw [if_neg g2]
 by_cases g3:e.kind=3
 ·rw [if_pos g3];exact (ES ..).le (by omega)
 rw [if_neg g3]
 by_cases g1:e.kind=1
 ·rw [if_pos g1];exact (ES ..).le (by omega)
 rw [if_neg g1]
 by_cases g4:e.kind=4
 ·rw [if_pos g4]
  have key:∀ k,k≤e.args.length→Gr (2 * (k+szL (Av (e.args.take k)))) (aEp L) s (Ep ((e.args.take k).map cpT) names s):=by
   intro k
   induction k with
   | zero=>intro _;exact Gr.refl _ _ _
   | succ k ihk =>
    intro hk
    have h1:=ihk (by omega)
    have hs:=szK (e:=e) (k:=k) (by omega)
    have h2:=ih _ (Ab (show k<e.args.length by omega)) (by omega) names (Ep ((e.args.take k).map cpT) names s) (hpa _ (Ab (by omega))) (Bm hc (.inl g4) (by omega)) (by omega)
    rw [Dq e names s (by omega)]
    refine (h1.trans h2).le ?_
    rw [AH e.args k (by omega),At,At,AM,Ah,AA]
    omega
  have h:=key e.args.length (Nat.le_refl _)
  rw [List.take_length] at h
  refine (h.trans (ES ..)).le ?_
  rw [BM e];omega
 rw [if_neg g4]
 by_cases g5:e.kind=5
 ·have hl:=k5 g5
  rw [if_pos g5,ifF]
  rw [AU cpT (by omega),AU cpT (by omega),AU cpT (by omega)]
  have hs:=sz3 hl
  have a1:=fun s'=>ih _ (Ab (show 0<e.args.length by omega)) (by omega) names s' (hpa _ (Ab (by omega))) (Bm hc (.inr (.inl g5)) (by omega)) (by omega)
  have a2:=fun s'=>ih _ (Ab (show 1<e.args.length by omega)) (by omega) names s' (hpa _ (Ab (by omega))) (Bm hc (.inr (.inl g5)) (by omega)) (by omega)
  have a3:=fun s'=>ih _ (Ab (show 2<e.args.length by omega)) (by omega) names s' (hpa _ (Ab (by omega))) (Bm hc (.inr (.inl g5)) (by omega)) (by omega)
  exact ((((((a1 _).trans (ES ..)).trans (a2 _)).trans (ES ..)).trans (XU ..)).trans (a3 _) |>.trans (XU ..)).le (by omega)
 rw [if_neg g5]
 by_cases g6:e.kind=6
 ·have hl:=k6 g6
  have hs:=sz1 hl
  rw [if_pos g6]
  refine ((ES s 7 0 _).trans (XH _ _ _ (aDH (hpa _ (Ab (by omega))) (RI hc g6 hl) (by omega) (by simp only [List.length_append,List.length_cons,List.length_nil];omega)) (Int.natCast_nonneg _) (by rw [Bi];show (s.code.length:Int)<_;omega))).le (by omega)
 rw [if_neg g6]
 by_cases g9:e.kind=9
 ·have hl:=k9 g9
  have hs:=sz1 hl
  rw [if_pos g9]
  refine ((ES s 8 0 _).trans (XH _ _ _ (aDH (hpa _ (Ab (by omega))) (SL hc g9 hl) (by omega) (by simp only [List.length_append,List.length_cons,List.length_nil];omega)) (Int.natCast_nonneg _) (by rw [Bi];show (s.code.length:Int)<_;omega))).le (by omega)
 rw [if_neg g9]
 by_cases g7:e.kind=7
 ·have hl:=k7 g7
  have hs:=sz2 hl
  rw [if_pos g7,AU cpT (by omega),AU cpT (by omega)]
  have a1:=fun s'=>ih _ (Ab (show 0<e.args.length by omega)) (by omega) names s' (hpa _ (Ab (by omega))) (Bm hc (.inr (.inr g7)) (by omega)) (by omega)
  have a2:=fun s'=>ih _ (Ab (show 1<e.args.length by omega)) (by omega) names s' (hpa _ (Ab (by omega))) (Bm hc (.inr (.inr g7)) (by omega)) (by omega)
  exact (((a1 _).trans (a2 _)).trans (ES ..)).le (by omega)
 rw [if_neg g7]
 have g8:e.kind=8:=by omega
 have hl:=k8 g8
 have hs:=sz2 hl
 rw [if_pos g8,AU cpT (by omega),AU cpT (by omega)]
 have a1:=fun s'=>ih _ (Ab (show 0<e.args.length by omega)) (by omega) names s' (hpa _ (Ab (by omega))) (HC hc g8 hl) (by omega)
 have a2:=fun s'=>ih _ (Ab (show 1<e.args.length by omega)) (by omega) (names++[e.name]) s' (hpa _ (Ab (by omega))) (HO hc g8 hl) (by simp only [List.length_append,List.length_cons,List.length_nil];omega)
 exact ((((a1 _).trans (ES ..)).trans (a2 _)).trans (ES ..)).le (by omega)
end Go.Proofs.YtaidalilfmjfgaaGreat
