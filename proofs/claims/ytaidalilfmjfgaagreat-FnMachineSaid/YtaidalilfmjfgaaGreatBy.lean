import Derived.Test.YtaidalilfmjfgaaGreatConR
import Derived.Test.YtaidalilfmjfgaaGreatTmC
namespace Go.Proofs.YtaidalilfmjfgaaGreat
open Go.RowKit
set_option linter.unusedVariables false
set_option linter.unusedSimpArgs false
def AV.rpb (b:Nat) (cs:List AV):AV→AV
 | .bx b' 0=>if b'=b then .rp cs else .bx b' 0
 | v=>v
def AV.fzc (b:Nat) (cs:List AV) (d:D):AV→AV
 | .bx b' off=>if b'=b then .eb d 0 off else .bx b' off
 | .fn f cap => .fn f (cap.map (AV.rpb b cs))
 | v=>v
def Xv (b:Nat) (cs:List AV) (d:D):List (Nat × AV)→List (Nat × AV)
 | []=>[]
 | (t,v) :: r=>(t,v.fzc b cs d) :: Xv b cs d r
def AS.fzc (s:AS) (b:Nat) (cs:List AV) (ds:List D):AS:={ s with tm:=Xv b cs (.rows ds.length 1 ds) s.tm,bx:=rmB b s.bx }
theorem Lk {b:Nat} {cs:List AV} {d:D}:∀ {l:List (Nat × AV)} {t:Nat} {v:AV},AO (Xv b cs d l) t=some v→∃ v',AO l t=some v'∧v=v'.fzc b cs d
 | [],t,v,h=>by cases h
 | (k,x) :: l,t,v,h=>by
  unfold Xv at h
  rw [Az] at h ⊢
  split at h
  ·rename_i e;injection h with h;exact ⟨x,by rw [if_pos e],h.symm⟩
  ·rename_i e;rw [if_neg e];exact Lk h
theorem Rel.fzc {w0:Aq} {G:Gh} {s:AS} {a:Act} {w:World} (h:Rel w0 G s a w) {b:Nat} {cs:List AV} {ds:List D} (hb:AO s.bx b=some cs) (hd:FI cs=some ds):Rel w0 { G with Z:=fun k=>G.Z k∨k=G.β b } (s.fzc b cs ds) a w:=by
 obtain ⟨hbn,hbb,us,T,hB,hr⟩:=h.bx b cs hb
 have hlt:=hB.lt
 have hrep:An w (fun k=>G.Z k∨k=G.β b) ds us:=An.mono (fun k hk => .inl hk) (fun _ _=>rfl) _ _ (MY (fun _ _=>rfl) hr hd)
 have hlen:ds.length=us.length:=(JL hd).2.trans (RVs.len _ _ hr).symm
 have hw:∀ v u,RV G w s.owf s.nx v u→RV { G with Z:=fun k=>G.Z k∨k=G.β b } w s.owf s.nx v u:=fun v u hv=>RV.wide (G:=G) (G':={ G with Z:=fun k=>G.Z k∨k=G.β b }) (fun k hk=>Or.inl hk) rfl rfl (fun _ _ hk=>Or.inr hk) v u hv
 have hws:∀ v u,RVs G w s.owf s.nx v u→RVs { G with Z:=fun k=>G.Z k∨k=G.β b } w s.owf s.nx v u:=fun v u hv=>RVs.wide (G:=G) (G':={ G with Z:=fun k=>G.Z k∨k=G.β b }) (fun k hk=>Or.inl hk) rfl rfl (fun _ _ hk=>Or.inr hk) v u hv
 have hlk:∀ b' cs',AO (s.fzc b cs ds).bx b'=some cs'→b'≠b∧AO s.bx b'=some cs':=fun b' cs' hl=>by
  have hl':AO (rmB b s.bx) b'=some cs':=hl
  rw [Hz] at hl'
  split at hl'
  ·cases hl'
  ·rename_i e;exact ⟨e,hl'⟩
 have hrp:∀ v u,RV G w s.owf s.nx v u→RV { G with Z:=fun k=>G.Z k∨k=G.β b } w s.owf s.nx (v.rpb b cs) u:=fun v u hv=>by
  have hgen:=hw v u hv
  cases v <;> first | exact hgen | skip
  rename_i b' off
  cases off with
  | succ n=>exact hgen
  | zero =>
   show RV { G with Z:=fun k=>G.Z k∨k=G.β b } w s.owf s.nx (if b'=b then .rp cs else .bx b' 0) u
   split
   ·rename_i e
    subst e
    unfold RV at hv ⊢
    exact ⟨G.β b',us,T,hv.2,.inr rfl,hB,hws _ _ hr⟩
   ·exact hgen
 have hrps:∀ l us,RVs G w s.owf s.nx l us→RVs { G with Z:=fun k=>G.Z k∨k=G.β b } w s.owf s.nx (l.map (AV.rpb b cs)) us:=by
  intro l
  induction l with
  | nil=>intro us h;unfold RVs at h;rw [List.map_nil];unfold RVs;exact h
  | cons x l ih =>
   intro us h
   unfold RVs at h
   obtain ⟨u,r,e,h1,h2⟩:=h
   rw [List.map_cons];unfold RVs
   exact ⟨u,r,e,hrp x u h1,ih r h2⟩
 refine ⟨h.nt,h.df,fun t x ht => ?_,fun b' cs' hl => ?_,fun b1 b2 c1 c2 h1 h2 e=>h.inj b1 b2 c1 c2 (hlk b1 c1 h1).2 (hlk b2 c2 h2).2 e,fun o I ho => ?_,h.dis,h.bel,fun k hk=>hk.elim (h.zl k) fun e=>e ▸ hlt,h.pb,fun k hk => .inl (h.zz.1 k hk),fun k hk=>hk.elim (h.zz.2 k) fun e => ?_⟩
 ·obtain ⟨x',hx,rfl⟩:=Lk ht
  obtain ⟨u,hu,hv⟩:=h.tm t x' hx
  refine ⟨u,hu, ?_⟩
  have hgen:RV { G with Z:=fun k=>G.Z k∨k=G.β b } w s.owf s.nx x' u:=hw x' u hv
  cases x' <;> first | exact hgen | skip
  case bx b' off =>
   show RV { G with Z:=fun k=>G.Z k∨k=G.β b } w s.owf s.nx (if b'=b then .eb (.rows ds.length 1 ds) 0 off else .bx b' off) u
   split
   ·rename_i e
    subst e
    unfold RV at hv ⊢
    refine ⟨ds.length,1,ds,G.β b',0,1,1,rfl,by rw [hv.2];simp, ?_,by omega⟩
    unfold AW
    refine ⟨some ⟨G.β b',0,none⟩,1,rfl,Nat.le_refl _,by unfold maxLen;omega,by simp,.inr ⟨G.β b',0,us,rfl,.inr rfl, ?_,hrep⟩⟩
    exact hB.cells
   ·exact hgen
  case fn f cap =>
   show RV { G with Z:=fun k=>G.Z k∨k=G.β b } w s.owf s.nx (.fn f (cap.map (AV.rpb b cs))) u
   unfold RV at hv ⊢
   obtain ⟨vs,e,hv⟩:=hv
   exact ⟨vs,e,hrps _ _ hv⟩
 ·obtain ⟨e,hl⟩:=hlk b' cs' hl
  obtain ⟨q1,q2,us',T',q3,q4⟩:=h.bx b' cs' hl
  exact ⟨q1,⟨fun hz=>hz.elim q2.1 fun e2=>e (h.inj b' b cs' cs hl hb e2),q2.2⟩,us',T',q3,hws _ _ q4⟩
 ·obtain ⟨q1,q2,q3⟩:=h.own o I ho
  exact ⟨q1,q2.z (fun k hk => .inl hk) (fun k hk hz=>hz.elim (q2.1 k hk).1.1 fun e=>q3 b cs hb (e ▸ hk)),fun b' cs' hl=>q3 b' cs' (hlk b' cs' hl).2⟩
 ·subst e
  exact hbb.2.elim (fun e => .inr (.inr e)) fun e => .inr (.inl (w0.wm _ e))
theorem DQ {P:Program} {Q:QE} {c:Code} {st:List It} {s:AS} (b:Nat) {cs:List AV} {ds:List D} (hb:AO s.bx b=some cs) (hd:FI cs=some ds) (h:SW P (.code c :: st) (s.fzc b cs ds) Q):SW P (.code c :: st) s Q:=fun w0 G a w hr=>h w0 _ a w (hr.fzc hb hd)
def AS.rpe (s:AS) (t:Nat) (ds:List D):AS:={ s with tm:=(t,.eb (.rows ds.length 1 ds) 0 0) :: s.tm }
theorem byP {F p q:Prop} (f:F) (h:q) (e:F→p=q:=by
 intro hf
 simp only [push_cast,hf,Sub,EG,EL,ED,EH,inj,AV.ren,AV.rens,AV.lt,AV.lts,↓reduceIte,Nat.reduceLT,Nat.reduceAdd,Nat.reduceMul,Nat.reduceLeDiff,Nat.reduceEqDiff,reduceCtorEq,Int.reduceLT,Int.reduceLE,Int.reduceEq,Int.reduceNe,Int.reduceAdd,Int.reduceSub,Int.reduceMul,Int.reduceNeg,Int.reduceToNat,Nat.reduceSub,s0P,Gx,EN,mkC,fQF,fQP,CC,rRs,rOs,rC,rCs,eRs,eOs,eC,eCs,AS.em,AS.fzL,AS.fzN,AS.fz,fzT,fzB,AV.fz,AV.fzs,Eh,En,AS.kb,EW,rmB,mkO,BN,Br,mPs,mP,ePs,eP,bPs,bP,nPs,nP,aAs,aA,aDs,aD,rnL,Bx,Ak,Au,AS.fzc,Xv,AV.fzc,AV.rpb,AS.rpe,toR,okR] <;> exact rfl):p:=e f ▸ h
theorem byQ {p q:Prop} (h:q) (e:p=q:=by
 simp only [push_cast,Sub,EG,EL,ED,EH,inj,AV.ren,AV.rens,AV.lt,AV.lts,↓reduceIte,Nat.reduceLT,Nat.reduceAdd,Nat.reduceMul,Nat.reduceLeDiff,Nat.reduceEqDiff,reduceCtorEq,Int.reduceLT,Int.reduceLE,Int.reduceEq,Int.reduceNe,Int.reduceAdd,Int.reduceSub,Int.reduceMul,Int.reduceNeg,Int.reduceToNat,Nat.reduceSub,s0P,Gx,EN,mkC,fQF,fQP,CC,rRs,rOs,rC,rCs,eRs,eOs,eC,eCs,AS.em,AS.fzL,AS.fzN,AS.fz,fzT,fzB,AV.fz,AV.fzs,Eh,En,AS.kb,EW,rmB,mkO,BN,Br,mPs,mP,ePs,eP,bPs,bP,nPs,nP,aAs,aA,aDs,aD,rnL,Bx,Ak,Au,AS.fzc,Xv,AV.fzc,AV.rpb,AS.rpe,toR,okR] <;> exact rfl):p:=e ▸ h
theorem fc {a b:Prop} (h:a) (k:b):a∧b:=⟨h,k⟩
variable {P:Program} {s:AS} {Q:QE} {ι:Type} {I:ι→Prop} {all rest:List Oper} {r:AN} {st:List It} {dst:Option Tmp} {f:Operand} {args:Array Operand} {tys:Array TypeId} {ty:TypeId} {pos:String} {af:Array Edge} {gd:Option (Nat × Bool)} {F:FuncId} {ps rs:List PD} {pp:List PA} {outs:List (List CD)} {rr:List RD} {ox:ι→List (List CD)} {rx:ι→List RD} {e b:List Nat} {q E:Prop}
theorem rG (f:E) (h:q) (e:E→Ct P 200 st s Q=q:=by
 intro hf
 simp only [push_cast,hf,Sub,EG,EL,ED,EH,inj,AV.ren,AV.rens,AV.lt,AV.lts,↓reduceIte,Nat.reduceLT,Nat.reduceAdd,Nat.reduceMul,Nat.reduceLeDiff,Nat.reduceEqDiff,reduceCtorEq,Int.reduceLT,Int.reduceLE,Int.reduceEq,Int.reduceNe,Int.reduceAdd,Int.reduceSub,Int.reduceMul,Int.reduceNeg,Int.reduceToNat,Nat.reduceSub,s0P,Gx,EN,mkC,fQF,fQP,CC,rRs,rOs,rC,rCs,eRs,eOs,eC,eCs,AS.em,AS.fzL,AS.fzN,AS.fz,fzT,fzB,AV.fz,AV.fzs,Eh,En,AS.kb,EW,rmB,mkO,BN,Br,mPs,mP,ePs,eP,bPs,bP,nPs,nP,aAs,aA,aDs,aD,rnL,Bx,Ak,Au,AS.fzc,Xv,AV.fzc,AV.rpb,AS.rpe,toR,okR] <;> exact rfl):SW P st s Q:=Aa 200 _ _ _ (e f ▸ h)
theorem rQ (h:q) (e:Ct P 200 st s Q=q:=by
 simp only [push_cast,Sub,EG,EL,ED,EH,inj,AV.ren,AV.rens,AV.lt,AV.lts,↓reduceIte,Nat.reduceLT,Nat.reduceAdd,Nat.reduceMul,Nat.reduceLeDiff,Nat.reduceEqDiff,reduceCtorEq,Int.reduceLT,Int.reduceLE,Int.reduceEq,Int.reduceNe,Int.reduceAdd,Int.reduceSub,Int.reduceMul,Int.reduceNeg,Int.reduceToNat,Nat.reduceSub,s0P,Gx,EN,mkC,fQF,fQP,CC,rRs,rOs,rC,rCs,eRs,eOs,eC,eCs,AS.em,AS.fzL,AS.fzN,AS.fz,fzT,fzB,AV.fz,AV.fzs,Eh,En,AS.kb,EW,rmB,mkO,BN,Br,mPs,mP,ePs,eP,bPs,bP,nPs,nP,aAs,aA,aDs,aD,rnL,Bx,Ak,Au,AS.fzc,Xv,AV.fzc,AV.rpb,AS.rpe,toR,okR] <;> exact rfl):SW P st s Q:=Aa 200 _ _ _ (e ▸ h)
theorem Kc (hc:Con P F ps rs) (h:SW P (.ops all rest :: st) ((mkR s (CL rs)).2.pt dst (QD (FZ rs (mkR s (CL rs)).1))) Q) (hf:s.ev f = .fn F []:=by rfl) (ha:aAs s (args.toList.map s.ev++[]) ps:=by exact byQ True.intro) (ho:okR rs:=by exact byQ True.intro):SW P (.ex all ⟨dst,.call ⟨.value f,args,tys⟩,ty,pos,af,gd⟩ rest :: st) s Q:=As hc hf (Am ha) ho h
theorem KD (hc:Con P F ps rs) (h:SW P (.dr all r :: st) ((mkR s (CL rs)).2.pt dst (QD (FZ rs (mkR s (CL rs)).1))) Q) (hf:s.ev f = .fn F []:=by rfl) (ha:aAs s (args.toList.map s.ev++[]) ps:=by exact byQ True.intro) (ho:okR rs:=by exact byQ True.intro):SW P (.dg all ⟨dst,.call ⟨.value f,args,tys⟩,ty,pos,af,gd⟩ false r :: st) s Q:=AR hc hf (Am ha) ho h
theorem KR (hc:Bc P F pp outs rr) (h:SW P (.ops all rest :: st) ((Eh s e b outs rr).pt dst (En s e b rr)) Q) (hf:s.ev f = .fn F []:=by rfl) (he:ePs s (args.toList.map s.ev++[]) pp=e:=by rfl) (hb:bPs (args.toList.map s.ev++[]) pp=b:=by rfl) (ha:mPs s.em s (args.toList.map s.ev++[]) pp:=by exact byQ True.intro) (hne:e.Nodup:=by exact byQ True.intro) (hnb:b.Nodup:=by exact byQ True.intro):SW P (.ex all ⟨dst,.call ⟨.value f,args,tys⟩,ty,pos,af,gd⟩ rest :: st) s Q:=Bo hc hf he hb ha hne hnb h
theorem KX (k:E) (hc:Bz P F pp I ox rx) (h:∀ x,I x→SW P (.ops all rest :: st) ((Eh s e b (ox x) (rx x)).pt dst (En s e b (rx x))) Q) (hf:s.ev f = .fn F []:=by rfl) (he:ePs s (args.toList.map s.ev++[]) pp=e:=by rfl) (hb:bPs (args.toList.map s.ev++[]) pp=b:=by rfl) (ha:E→mPs s.em s (args.toList.map s.ev++[]) pp:=by intro k;exact byP k True.intro) (hne:E→e.Nodup:=by intro k;exact byP k True.intro) (hnb:E→b.Nodup:=by intro k;exact byP k True.intro):SW P (.ex all ⟨dst,.call ⟨.value f,args,tys⟩,ty,pos,af,gd⟩ rest :: st) s Q:=Bh hc hf he hb (ha k) (hne k) (hnb k) h
theorem KB (hc:Bc P F pp outs rr) (h:SW P (.dr all r :: st) ((Eh s [] [] outs rr).pt dst (En s [] [] rr)) Q) (hf:s.ev f = .fn F []:=by rfl) (he:ePs s (args.toList.map s.ev++[]) pp=[]:=by rfl) (hb:bPs (args.toList.map s.ev++[]) pp=[]:=by rfl) (ha:mPs s.em s (args.toList.map s.ev++[]) pp:=by exact byQ True.intro):SW P (.dg all ⟨dst,.call ⟨.value f,args,tys⟩,ty,pos,af,gd⟩ false r :: st) s Q:=Bq hc hf he hb ha h
theorem Fi (h:q:=by
 repeat' (with_reducible apply And.intro)
 all_goals first | exact True.intro | rfl):q:=h
def oT:List Nat→AN→AN
 | [],r=>r
 | i :: l,r => .cons i true (oT l r)
def oF:List Nat→AN→AN
 | [],r=>r
 | i :: l,r => .cons i false (oF l r)
attribute [push_cast] oT oF
theorem tI:True:=True.intro
end Go.Proofs.YtaidalilfmjfgaaGreat
