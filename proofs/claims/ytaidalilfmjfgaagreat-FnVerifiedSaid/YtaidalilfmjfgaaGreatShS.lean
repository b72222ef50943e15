import Derived.Test.YtaidalilfmjfgaaGreatShI
import Derived.Test.YtaidalilfmjfgaaGreatBy
namespace Go.Proofs.YtaidalilfmjfgaaGreat
open Go.RowKit
set_option linter.unusedVariables false
set_option linter.unusedSimpArgs false
set_option maxRecDepth 20000
def runC (code:List Ins) (st:Srch):List CD:=[.r (inssD code),.a 109 (shpsD st.sh),.a 3 (intsD st.todo),.o (.bool st.bad)]
def knS (x:Shp):Shp:=⟨true,x.h,x.d,x.b⟩
theorem give_len (n:Nat) (st:Srch) (y:Der):(give n st y).sh.length=st.sh.length∧(give n st y).todo.length≤st.todo.length+1:=by
 unfold give
 repeat' split
 all_goals simp
theorem con_takes (x:Ins) (h:insB x=true):Con Tryz.prog 153 [.ag (insC x)] [.one (.int (popF x)),.one (.int (pushF x))]:=by
 obtain ⟨h1,h2,h3,h4⟩:=ins_cases h
 obtain ⟨op,a⟩:=x
 simp only at h1 h2 h3 h4
 by_cases h4o:op=4
 ·subst h4o
  have hn:=con_OpNameS a (h3 rfl)
  have ha:=con_OpArS (opB a)
  rw [op_pop (h3 rfl)] at ha
  refine con_run Tryz.func153 rfl rfl (by simp [Tryz.ntmps153]) ?_
  refine byP (fc insC.eq_1 Tryz.ntmps153) ?_
  refine sw_call (hn) rfl (aAs_ok ?_) ?_ (sw_run 200 _ _ _ ?_)
  ·exact byQ True.intro
  ·simp only [okR]
  refine byQ ?_
  refine sw_call (ha) rfl (aAs_ok ?_) ?_ (sw_run 200 _ _ _ ?_)
  ·exact byQ True.intro
  ·simp only [okR]
  exact byP (fc popF.eq_1 (fc pushF.eq_1 Tryz.results153)) True.intro
 ·rcases (show op=1∨op=2∨op=3∨op=5∨op=6∨op=7∨op=8∨op=9∨op=10∨op=11∨op=12 by omega) with rfl | rfl | rfl | rfl | rfl | rfl | rfl | rfl | rfl | rfl | rfl
  all_goals
   refine con_run Tryz.func153 rfl rfl (by simp [Tryz.ntmps153]) ?_
   exact byP (fc insC.eq_1 (fc popF.eq_1 (fc pushF.eq_1 (fc Tryz.ntmps153 Tryz.results153)))) True.intro
theorem con_fits (x:Ins) (s:Shp) (h:insB x=true):Con Tryz.prog 152 [.ag (insC x),.ag (shpC s)] [.one (.bool (fitF x s))]:=by
 obtain ⟨h1,h2,h3,h4⟩:=ins_cases h
 have ht:=con_takes x h
 obtain ⟨op,a⟩:=x
 obtain ⟨k,sh,d,b⟩:=s
 simp only at h1 h2 h3 h4
 unfold fitF
 generalize popF ⟨op,a⟩=q at *
 simp only [insC,shpC] at ht ⊢
 rcases h1 with rfl | rfl | rfl | rfl | rfl | rfl | rfl | rfl | rfl | rfl | rfl | rfl
 all_goals
  simp only [Int.reduceEq,if_true,if_false]
  refine con_run Tryz.func152 rfl rfl (by simp [Tryz.ntmps152]) ?_
  refine byP Tryz.ntmps152 ?_
  refine sw_call (ht) rfl (aAs_ok ?_) ?_ (sw_run 200 _ _ _ ?_)
  ·exact byQ True.intro
  ·simp only [okR]
  exact byP Tryz.results152 True.intro
theorem give_far {n:Nat} {st:Srch} {y:Der} (h:(n:Int)≤y.p):give n st y=⟨st.sh,st.todo,true⟩:=by unfold give;rw [if_pos h]
theorem give_new {n:Nat} {st:Srch} {y:Der} (h:¬ (n:Int)≤y.p) (h2:st.sh[y.p.toNat]!.known=false):give n st y=⟨st.sh.set y.p.toNat y.s,st.todo++[y.p],st.bad⟩:=by unfold give;rw [if_neg h,if_pos h2]
theorem give_eq {n:Nat} {st:Srch} {y:Der} (h:¬ (n:Int)≤y.p) (h2:st.sh[y.p.toNat]!.known=true) (h3:st.sh[y.p.toNat]! = y.s):give n st y=st:=by unfold give;rw [if_neg h,if_neg (by rw [h2];simp),if_pos h3]
theorem give_ne {n:Nat} {st:Srch} {y:Der} (h:¬ (n:Int)≤y.p) (h2:st.sh[y.p.toNat]!.known=true) (h3:st.sh[y.p.toNat]! ≠ y.s):give n st y=⟨st.sh,st.todo,true⟩:=by unfold give;rw [if_neg h,if_neg (by rw [h2];simp),if_neg h3]
theorem con_Give (code:List Ins) (st:Srch) (p:Int) (x:Shp) (hp:0≤p) (hs:st.sh.length=code.length) (ht:st.todo.length≤1000000) :
  ConP Tryz.prog 74 [.p (runC code st),.b (.one (.int p)),.b (.ag (shpC x))] [runC code (give code.length st ⟨p,knS x⟩)] []:=by
 obtain ⟨sh,todo,bd⟩:=st
 obtain ⟨k,h,d,b⟩:=x
 simp only at hs ht
 by_cases h1:(code.length:Int)≤p
 ·rw [give_far h1]
  refine con_runP Tryz.func74 rfl rfl (by simp [Tryz.ntmps74]) rfl ?_
  exact byP (fc runC.eq_1 (fc shpsD.eq_1 (fc inssD.eq_1 (fc shpC.eq_1 (fc h1 (fc Tryz.ntmps74 Tryz.results74)))))) True.intro
 have hpo:p<(sh.length:Int):=by omega
 have hR:=flC_row shpC_len sh p.toNat (by omega)
 have hset:=flC_set shpC_len sh p.toNat ⟨true,h,d,b⟩ (by omega)
 simp only [shpC] at hR
 simp only [shpC,setRowG] at hset
 obtain ⟨o1,ho⟩:∃ o1,o1=sh[p.toNat]! := ⟨_,rfl⟩
 rw [← ho] at hR
 obtain ⟨ok,oh,od,ob⟩:=o1
 simp only at hR
 cases ok
 case false =>
  rw [give_new h1 (by simp only;rw [← ho])]
  refine con_runP Tryz.func74 rfl rfl (by simp [Tryz.ntmps74]) rfl ?_
  refine byP (fc runC.eq_1 (fc shpsD.eq_1 (fc inssD.eq_1 (fc shpC.eq_1 (fc h1 (fc hp (fc hpo (fc hR Tryz.ntmps74)))))))) ?_
  refine sw_drawn (.cons 0 true (.cons 4 true (.cons 5 true (.cons 1 false (.cons 2 true (.cons 3 true (.cons 6 true (.cons 7 false (.nil))))))))) (by kernel_rfl) fQP_panic (by kernel_rfl) (sw_run 200 _ _ _ ?_)
  simp only [push_cast,fQP,xRetP,rRs,rOs,rC,rCs,eRs,eOs,eC,eCs,aD,↓reduceIte,Nat.reduceLT,Nat.reduceAdd,Nat.reduceLeDiff,Nat.reduceEqDiff,reduceCtorEq,knS,hp,hpo,hset,List.length_set,List.length_append,List.map_append,Tryz.results74]
  exact ⟨fun e=>e.elim,fun o ho=>by omega,by unfold maxLen;omega,by omega⟩
 case true =>
  by_cases heq:(⟨true,oh,od,ob⟩:Shp)=⟨true,h,d,b⟩
  ·rw [give_eq h1 (by simp only;rw [← ho]) (by simp only [knS];rw [← ho];exact heq)]
   injection heq with _ e1 e2 e3
   subst e1 e2 e3
   refine con_runP Tryz.func74 rfl rfl (by simp [Tryz.ntmps74]) rfl ?_
   refine byP (fc runC.eq_1 (fc shpsD.eq_1 (fc inssD.eq_1 (fc shpC.eq_1 (fc h1 (fc hp (fc hpo (fc hR Tryz.ntmps74)))))))) ?_
   refine sw_drawn (.cons 0 true (.cons 4 true (.cons 7 true (.cons 1 false (.cons 2 true (.cons 3 true (.cons 5 true (.cons 6 true (.cons 8 true (.cons 9 true (.nil))))))))))) (by kernel_rfl) fQP_panic (by kernel_rfl) (sw_run 200 _ _ _ ?_)
   refine byP (fc hp (fc hpo (fc hR Tryz.results74))) ?_
   exact ⟨by kernel_rfl,rfl⟩
  ·rw [give_ne h1 (by simp only;rw [← ho]) (by simp only [knS];rw [← ho];exact heq)]
   have e4:(decide (oh=h) && (decide (od=d) && decide (ob=b)))=false:=by
    rw [Bool.eq_false_iff]
    intro e
    simp only [Bool.and_eq_true,decide_eq_true_eq] at e
    apply heq
    rw [e.1,e.2.1,e.2.2]
   refine con_runP Tryz.func74 rfl rfl (by simp [Tryz.ntmps74]) rfl ?_
   refine byP (fc runC.eq_1 (fc shpsD.eq_1 (fc inssD.eq_1 (fc shpC.eq_1 (fc h1 (fc hp (fc hpo (fc hR Tryz.ntmps74)))))))) ?_
   refine sw_drawn (.cons 0 true (.cons 4 true (.cons 7 true (.cons 1 false (.cons 2 true (.cons 3 true (.cons 5 true (.cons 6 true (.cons 8 true (.cons 9 true (.nil))))))))))) (by kernel_rfl) fQP_panic (by kernel_rfl) (sw_run 200 _ _ _ ?_)
   refine byP (fc hp (fc hpo (fc hR (fc e4 Tryz.results74)))) ?_
   exact ⟨by kernel_rfl,rfl⟩
theorem aft_known {x:Ins} {s:Shp} (hk:s.known=true):knS (aftF x s)=aftF x s:=by unfold knS aftF;rw [hk]
theorem con_Next (code:List Ins) (st:Srch) (p:Int) (hx:insB code[p.toNat]! = true) (hp:0≤p∧p<code.length) (hn:code.length≤1000000) (hs:st.sh.length=code.length) (ht:st.todo.length≤999990) (hk:st.sh[p.toNat]!.known=true)
  (hh : -1000000≤st.sh[p.toNat]!.h∧st.sh[p.toNat]!.h≤1000000) (hd : -1000000≤st.sh[p.toNat]!.d∧st.sh[p.toNat]!.d≤1000000) :
  ConP Tryz.prog 75 [.p (runC code st),.b (.one (.int p))] [runC code (nextS code st p)] []:=by
 have hfit:=con_fits code[p.toNat]! st.sh[p.toNat]! hx
 have htk:=con_takes code[p.toNat]! hx
 have hbit:=con_bitS
 have hRs:=flC_row shpC_len st.sh p.toNat (by omega)
 have hRc:=flC_row insC_len code p.toNat (by omega)
 have hp0:=hp.1
 have hp1:=hp.2
 have hp2:p<(st.sh.length:Int):=by omega
 have hG1:∀ (q:Int) (y:Shp),0≤q→ConP Tryz.prog 74 [.p (runC code st),.b (.one (.int q)),.b (.ag (shpC y))] [runC code (give code.length st ⟨q,knS y⟩)] []:=fun q y hq=>con_Give code st q y hq hs (by omega)
 have hG2:∀ (z:Der) (q:Int) (y:Shp),0≤q→ConP Tryz.prog 74 [.p (runC code (give code.length st z)),.b (.one (.int q)),.b (.ag (shpC y))] [runC code (give code.length (give code.length st z) ⟨q,knS y⟩)] []:=fun z q y hq=>con_Give code _ q y hq (by rw [(give_len _ _ _).1,hs]) (by have:=(give_len code.length st z).2;omega)
 unfold nextS
 generalize es:st.sh[p.toNat]! = s at *
 generalize ex:code[p.toNat]! = x at *
 obtain ⟨h1,h2,h3,h4⟩:=ins_cases hx
 have hpb:=popF_rng x
 have hub:=pushF_rng x
 have hfe:fitF x s=true∨fitF x s=false:=by cases fitF x s <;> simp
 rcases hfe with hfe | hfe
 case inr =>
  rw [if_neg (by rw [hfe];simp)]
  rw [hfe] at hfit
  obtain ⟨op,a⟩:=x
  obtain ⟨kk,sh,d,b⟩:=s
  simp only [insC,shpC] at hfit hRs hRc hk
  refine con_runP Tryz.func75 rfl rfl (by simp [Tryz.ntmps75]) rfl ?_
  refine byP (fc runC.eq_1 (fc shpsD.eq_1 (fc inssD.eq_1 (fc hp0 (fc hp1 (fc hp2 (fc hRs (fc hRc Tryz.ntmps75)))))))) ?_
  refine sw_call (hfit) rfl (aAs_ok ?_) ?_ (sw_run 200 _ _ _ ?_)
  ·exact byQ True.intro
  ·simp only [okR]
  exact byP Tryz.results75 True.intro
 rw [if_pos hfe]
 rw [hfe] at hfit
 have hka:knS (aftF x s)=aftF x s:=aft_known hk
 have haf:aftF x s=⟨s.known,s.h+(pushF x-popF x),if x.op=11 then s.d+1 else if x.op=12 then s.d-1 else s.d,s.b⟩:=rfl
 have hki:knS ⟨false,0,s.d+1+(if x.op=8 then 1 else 0),s.d+1+(if x.op=8 then 1 else 0)⟩=insF x s:=rfl
 have hF1:=hG1 (p+1) (aftF x s) (by omega)
 have hF2:=hG1 x.a (aftF x s) h2.1
 have hF3:=hG1 x.a ⟨false,0,s.d+1+(if x.op=8 then 1 else 0),s.d+1+(if x.op=8 then 1 else 0)⟩ h2.1
 have hF4:=hG2 ⟨x.a,aftF x s⟩ (p+1) (aftF x s) (by omega)
 have hF5:=hG2 ⟨x.a,insF x s⟩ (p+1) (aftF x s) (by omega)
 rw [hka] at hF1 hF2 hF4 hF5
 rw [hki] at hF3
 have hW:(folS p x s).foldl (give code.length) st=(if x.op=10 then st else if x.op=5 then give code.length st ⟨x.a,aftF x s⟩ else if x.op=6 then give code.length (give code.length st ⟨x.a,aftF x s⟩) ⟨p+1,aftF x s⟩ else if x.op=7∨x.op=8 then give code.length (give code.length st ⟨x.a,insF x s⟩) ⟨p+1,aftF x s⟩ else give code.length st ⟨p+1,aftF x s⟩):=by
  unfold folS
  repeat' split
  all_goals rfl
 rw [hW]
 generalize give code.length (give code.length st ⟨x.a,aftF x s⟩) ⟨p+1,aftF x s⟩=g4 at *
 generalize give code.length (give code.length st ⟨x.a,insF x s⟩) ⟨p+1,aftF x s⟩=g5 at *
 generalize give code.length st ⟨p+1,aftF x s⟩=g1 at *
 generalize give code.length st ⟨x.a,aftF x s⟩=g2 at *
 generalize give code.length st ⟨x.a,insF x s⟩=g3 at *
 rw [haf] at hF1 hF2 hF4 hF5
 generalize popF x=q at *
 generalize pushF x=u at *
 obtain ⟨op,a⟩:=x
 obtain ⟨kk,sh,d,b⟩:=s
 simp only at h1 h2 h3 h4 hh hd hk
 have i1:inI (sh-q):=by unfold inI;omega
 have i2:inI (sh-q+u):=by unfold inI;omega
 have i3:inI (d+1):=by unfold inI;omega
 have i4:inI (d-1):=by unfold inI;omega
 have i5:inI (p+1):=by unfold inI;omega
 have i6:inI (d+1+1):=by unfold inI;omega
 have i7:inI (d+1+0):=by unfold inI;omega
 have e1:sh+(u-q)=sh-q+u:=by omega
 rw [e1] at hF1 hF2 hF4 hF5
 simp only [insC,shpC] at hfit htk hRs hRc hF1 hF2 hF3 hF4 hF5
 rcases h1 with rfl | rfl | rfl | rfl | rfl | rfl | rfl | rfl | rfl | rfl | rfl | rfl
 ·simp only [Int.reduceEq,or_self,if_false] at hF1 hF2 hF3 hF4 hF5 ⊢
  refine con_runP Tryz.func75 rfl rfl (by simp [Tryz.ntmps75]) rfl ?_
  refine byP (fc runC.eq_1 (fc shpsD.eq_1 (fc inssD.eq_1 (fc hp0 (fc hp1 (fc hp2 (fc hRs (fc hRc Tryz.ntmps75)))))))) ?_
  refine sw_call (hfit) rfl (aAs_ok ?_) ?_ (sw_run 200 _ _ _ ?_)
  ·exact byQ True.intro
  ·simp only [okR]
  refine byQ ?_
  refine sw_call (htk) rfl (aAs_ok ?_) ?_ (sw_run 200 _ _ _ ?_)
  ·exact byQ True.intro
  ·simp only [okR]
  refine byP (fc i1 (fc i2 i5)) ?_
  refine sw_callPR (hF1) rfl rfl rfl ?_ ?_ ?_ (sw_run 200 _ _ _ ?_)
  ·exact byP (fc runC.eq_1 (fc shpsD.eq_1 inssD.eq_1)) True.intro
  ·exact byP (fc runC.eq_1 (fc shpsD.eq_1 inssD.eq_1)) True.intro
  ·exact byP (fc runC.eq_1 (fc shpsD.eq_1 inssD.eq_1)) True.intro
  exact byP (fc runC.eq_1 (fc shpsD.eq_1 (fc inssD.eq_1 Tryz.results75))) True.intro
 ·simp only [Int.reduceEq,or_self,if_false] at hF1 hF2 hF3 hF4 hF5 ⊢
  refine con_runP Tryz.func75 rfl rfl (by simp [Tryz.ntmps75]) rfl ?_
  refine byP (fc runC.eq_1 (fc shpsD.eq_1 (fc inssD.eq_1 (fc hp0 (fc hp1 (fc hp2 (fc hRs (fc hRc Tryz.ntmps75)))))))) ?_
  refine sw_call (hfit) rfl (aAs_ok ?_) ?_ (sw_run 200 _ _ _ ?_)
  ·exact byQ True.intro
  ·simp only [okR]
  refine byQ ?_
  refine sw_call (htk) rfl (aAs_ok ?_) ?_ (sw_run 200 _ _ _ ?_)
  ·exact byQ True.intro
  ·simp only [okR]
  refine byP (fc i1 (fc i2 i5)) ?_
  refine sw_callPR (hF1) rfl rfl rfl ?_ ?_ ?_ (sw_run 200 _ _ _ ?_)
  ·exact byP (fc runC.eq_1 (fc shpsD.eq_1 inssD.eq_1)) True.intro
  ·exact byP (fc runC.eq_1 (fc shpsD.eq_1 inssD.eq_1)) True.intro
  ·exact byP (fc runC.eq_1 (fc shpsD.eq_1 inssD.eq_1)) True.intro
  exact byP (fc runC.eq_1 (fc shpsD.eq_1 (fc inssD.eq_1 Tryz.results75))) True.intro
 ·simp only [Int.reduceEq,or_self,if_false] at hF1 hF2 hF3 hF4 hF5 ⊢
  refine con_runP Tryz.func75 rfl rfl (by simp [Tryz.ntmps75]) rfl ?_
  refine byP (fc runC.eq_1 (fc shpsD.eq_1 (fc inssD.eq_1 (fc hp0 (fc hp1 (fc hp2 (fc hRs (fc hRc Tryz.ntmps75)))))))) ?_
  refine sw_call (hfit) rfl (aAs_ok ?_) ?_ (sw_run 200 _ _ _ ?_)
  ·exact byQ True.intro
  ·simp only [okR]
  refine byQ ?_
  refine sw_call (htk) rfl (aAs_ok ?_) ?_ (sw_run 200 _ _ _ ?_)
  ·exact byQ True.intro
  ·simp only [okR]
  refine byP (fc i1 (fc i2 i5)) ?_
  refine sw_callPR (hF1) rfl rfl rfl ?_ ?_ ?_ (sw_run 200 _ _ _ ?_)
  ·exact byP (fc runC.eq_1 (fc shpsD.eq_1 inssD.eq_1)) True.intro
  ·exact byP (fc runC.eq_1 (fc shpsD.eq_1 inssD.eq_1)) True.intro
  ·exact byP (fc runC.eq_1 (fc shpsD.eq_1 inssD.eq_1)) True.intro
  exact byP (fc runC.eq_1 (fc shpsD.eq_1 (fc inssD.eq_1 Tryz.results75))) True.intro
 ·simp only [Int.reduceEq,or_self,if_false] at hF1 hF2 hF3 hF4 hF5 ⊢
  refine con_runP Tryz.func75 rfl rfl (by simp [Tryz.ntmps75]) rfl ?_
  refine byP (fc runC.eq_1 (fc shpsD.eq_1 (fc inssD.eq_1 (fc hp0 (fc hp1 (fc hp2 (fc hRs (fc hRc Tryz.ntmps75)))))))) ?_
  refine sw_call (hfit) rfl (aAs_ok ?_) ?_ (sw_run 200 _ _ _ ?_)
  ·exact byQ True.intro
  ·simp only [okR]
  refine byQ ?_
  refine sw_call (htk) rfl (aAs_ok ?_) ?_ (sw_run 200 _ _ _ ?_)
  ·exact byQ True.intro
  ·simp only [okR]
  refine byP (fc i1 (fc i2 i5)) ?_
  refine sw_callPR (hF1) rfl rfl rfl ?_ ?_ ?_ (sw_run 200 _ _ _ ?_)
  ·exact byP (fc runC.eq_1 (fc shpsD.eq_1 inssD.eq_1)) True.intro
  ·exact byP (fc runC.eq_1 (fc shpsD.eq_1 inssD.eq_1)) True.intro
  ·exact byP (fc runC.eq_1 (fc shpsD.eq_1 inssD.eq_1)) True.intro
  exact byP (fc runC.eq_1 (fc shpsD.eq_1 (fc inssD.eq_1 Tryz.results75))) True.intro
 ·simp only [Int.reduceEq,or_self,if_true,if_false] at hF1 hF2 hF3 hF4 hF5 ⊢
  refine con_runP Tryz.func75 rfl rfl (by simp [Tryz.ntmps75]) rfl ?_
  refine byP (fc runC.eq_1 (fc shpsD.eq_1 (fc inssD.eq_1 (fc hp0 (fc hp1 (fc hp2 (fc hRs (fc hRc Tryz.ntmps75)))))))) ?_
  refine sw_call (hfit) rfl (aAs_ok ?_) ?_ (sw_run 200 _ _ _ ?_)
  ·exact byQ True.intro
  ·simp only [okR]
  refine byQ ?_
  refine sw_call (htk) rfl (aAs_ok ?_) ?_ (sw_run 200 _ _ _ ?_)
  ·exact byQ True.intro
  ·simp only [okR]
  refine byP (fc i1 i2) ?_
  refine sw_callPR (hF2) rfl rfl rfl ?_ ?_ ?_ (sw_run 200 _ _ _ ?_)
  ·exact byP (fc runC.eq_1 (fc shpsD.eq_1 inssD.eq_1)) True.intro
  ·exact byP (fc runC.eq_1 (fc shpsD.eq_1 inssD.eq_1)) True.intro
  ·exact byP (fc runC.eq_1 (fc shpsD.eq_1 inssD.eq_1)) True.intro
  exact byP (fc runC.eq_1 (fc shpsD.eq_1 (fc inssD.eq_1 Tryz.results75))) True.intro
 ·simp only [Int.reduceEq,or_self,if_true,if_false] at hF1 hF2 hF3 hF4 hF5 ⊢
  refine con_runP Tryz.func75 rfl rfl (by simp [Tryz.ntmps75]) rfl ?_
  refine byP (fc runC.eq_1 (fc shpsD.eq_1 (fc inssD.eq_1 (fc hp0 (fc hp1 (fc hp2 (fc hRs (fc hRc Tryz.ntmps75)))))))) ?_
  refine sw_call (hfit) rfl (aAs_ok ?_) ?_ (sw_run 200 _ _ _ ?_)
  ·exact byQ True.intro
  ·simp only [okR]
  refine byQ ?_
  refine sw_call (htk) rfl (aAs_ok ?_) ?_ (sw_run 200 _ _ _ ?_)
  ·exact byQ True.intro
  ·simp only [okR]
  refine byP (fc i1 i2) ?_
  refine sw_callPR (hF2) rfl rfl rfl ?_ ?_ ?_ (sw_run 200 _ _ _ ?_)
  ·exact byP (fc runC.eq_1 (fc shpsD.eq_1 inssD.eq_1)) True.intro
  ·exact byP (fc runC.eq_1 (fc shpsD.eq_1 inssD.eq_1)) True.intro
  ·exact byP (fc runC.eq_1 (fc shpsD.eq_1 inssD.eq_1)) True.intro
  refine byP (fc runC.eq_1 (fc shpsD.eq_1 (fc inssD.eq_1 i5))) ?_
  refine sw_callPR (hF4) rfl rfl rfl ?_ ?_ ?_ (sw_run 200 _ _ _ ?_)
  ·exact byP (fc runC.eq_1 (fc shpsD.eq_1 inssD.eq_1)) True.intro
  ·exact byP (fc runC.eq_1 (fc shpsD.eq_1 inssD.eq_1)) True.intro
  ·exact byP (fc runC.eq_1 (fc shpsD.eq_1 inssD.eq_1)) True.intro
  exact byP (fc runC.eq_1 (fc shpsD.eq_1 (fc inssD.eq_1 Tryz.results75))) True.intro
 ·simp only [Int.reduceEq,or_false,if_true,if_false] at hF1 hF2 hF3 hF4 hF5 ⊢
  refine con_runP Tryz.func75 rfl rfl (by simp [Tryz.ntmps75]) rfl ?_
  refine byP (fc runC.eq_1 (fc shpsD.eq_1 (fc inssD.eq_1 (fc hp0 (fc hp1 (fc hp2 (fc hRs (fc hRc Tryz.ntmps75)))))))) ?_
  refine sw_call (hfit) rfl (aAs_ok ?_) ?_ (sw_run 200 _ _ _ ?_)
  ·exact byQ True.intro
  ·simp only [okR]
  refine byQ ?_
  refine sw_call (htk) rfl (aAs_ok ?_) ?_ (sw_run 200 _ _ _ ?_)
  ·exact byQ True.intro
  ·simp only [okR]
  refine byP (fc i1 i2) ?_
  refine sw_drawn (.cons 0 true (.cons 1 true (.cons 2 true (.cons 3 true (.cons 4 true (.cons 5 true (.cons 6 false (.cons 7 true (.cons 8 true (.nil)))))))))) (by kernel_rfl) fQP_panic (by kernel_rfl) (sw_run 200 _ _ _ ?_)
  refine byP i3 ?_
  refine sw_callD (hbit false) rfl (aAs_ok ?_) ?_ (sw_run 200 _ _ _ ?_)
  ·exact byQ True.intro
  ·simp only [okR]
  refine byP i7 ?_
  refine sw_callPR (hF3) rfl rfl rfl ?_ ?_ ?_ (sw_run 200 _ _ _ ?_)
  ·exact byP (fc runC.eq_1 (fc shpsD.eq_1 inssD.eq_1)) True.intro
  ·exact byP (fc runC.eq_1 (fc shpsD.eq_1 inssD.eq_1)) True.intro
  ·exact byP (fc runC.eq_1 (fc shpsD.eq_1 inssD.eq_1)) True.intro
  refine byP (fc runC.eq_1 (fc shpsD.eq_1 (fc inssD.eq_1 i5))) ?_
  refine sw_callPR (hF5) rfl rfl rfl ?_ ?_ ?_ (sw_run 200 _ _ _ ?_)
  ·exact byP (fc runC.eq_1 (fc shpsD.eq_1 inssD.eq_1)) True.intro
  ·exact byP (fc runC.eq_1 (fc shpsD.eq_1 inssD.eq_1)) True.intro
  ·exact byP (fc runC.eq_1 (fc shpsD.eq_1 inssD.eq_1)) True.intro
  exact byP (fc runC.eq_1 (fc shpsD.eq_1 (fc inssD.eq_1 Tryz.results75))) True.intro
 ·simp only [Int.reduceEq,or_true,if_true,if_false] at hF1 hF2 hF3 hF4 hF5 ⊢
  refine con_runP Tryz.func75 rfl rfl (by simp [Tryz.ntmps75]) rfl ?_
  refine byP (fc runC.eq_1 (fc shpsD.eq_1 (fc inssD.eq_1 (fc hp0 (fc hp1 (fc hp2 (fc hRs (fc hRc Tryz.ntmps75)))))))) ?_
  refine sw_call (hfit) rfl (aAs_ok ?_) ?_ (sw_run 200 _ _ _ ?_)
  ·exact byQ True.intro
  ·simp only [okR]
  refine byQ ?_
  refine sw_call (htk) rfl (aAs_ok ?_) ?_ (sw_run 200 _ _ _ ?_)
  ·exact byQ True.intro
  ·simp only [okR]
  refine byP (fc i1 i2) ?_
  refine sw_drawn (.cons 0 true (.cons 1 true (.cons 2 true (.cons 3 true (.cons 4 true (.cons 5 true (.cons 6 false (.cons 7 true (.cons 8 true (.nil)))))))))) (by kernel_rfl) fQP_panic (by kernel_rfl) (sw_run 200 _ _ _ ?_)
  refine byP i3 ?_
  refine sw_callD (hbit true) rfl (aAs_ok ?_) ?_ (sw_run 200 _ _ _ ?_)
  ·exact byQ True.intro
  ·simp only [okR]
  refine byP i6 ?_
  refine sw_callPR (hF3) rfl rfl rfl ?_ ?_ ?_ (sw_run 200 _ _ _ ?_)
  ·exact byP (fc runC.eq_1 (fc shpsD.eq_1 inssD.eq_1)) True.intro
  ·exact byP (fc runC.eq_1 (fc shpsD.eq_1 inssD.eq_1)) True.intro
  ·exact byP (fc runC.eq_1 (fc shpsD.eq_1 inssD.eq_1)) True.intro
  refine byP (fc runC.eq_1 (fc shpsD.eq_1 (fc inssD.eq_1 i5))) ?_
  refine sw_callPR (hF5) rfl rfl rfl ?_ ?_ ?_ (sw_run 200 _ _ _ ?_)
  ·exact byP (fc runC.eq_1 (fc shpsD.eq_1 inssD.eq_1)) True.intro
  ·exact byP (fc runC.eq_1 (fc shpsD.eq_1 inssD.eq_1)) True.intro
  ·exact byP (fc runC.eq_1 (fc shpsD.eq_1 inssD.eq_1)) True.intro
  exact byP (fc runC.eq_1 (fc shpsD.eq_1 (fc inssD.eq_1 Tryz.results75))) True.intro
 ·simp only [Int.reduceEq,or_self,if_false] at hF1 hF2 hF3 hF4 hF5 ⊢
  refine con_runP Tryz.func75 rfl rfl (by simp [Tryz.ntmps75]) rfl ?_
  refine byP (fc runC.eq_1 (fc shpsD.eq_1 (fc inssD.eq_1 (fc hp0 (fc hp1 (fc hp2 (fc hRs (fc hRc Tryz.ntmps75)))))))) ?_
  refine sw_call (hfit) rfl (aAs_ok ?_) ?_ (sw_run 200 _ _ _ ?_)
  ·exact byQ True.intro
  ·simp only [okR]
  refine byQ ?_
  refine sw_call (htk) rfl (aAs_ok ?_) ?_ (sw_run 200 _ _ _ ?_)
  ·exact byQ True.intro
  ·simp only [okR]
  refine byP (fc i1 (fc i2 i5)) ?_
  refine sw_callPR (hF1) rfl rfl rfl ?_ ?_ ?_ (sw_run 200 _ _ _ ?_)
  ·exact byP (fc runC.eq_1 (fc shpsD.eq_1 inssD.eq_1)) True.intro
  ·exact byP (fc runC.eq_1 (fc shpsD.eq_1 inssD.eq_1)) True.intro
  ·exact byP (fc runC.eq_1 (fc shpsD.eq_1 inssD.eq_1)) True.intro
  exact byP (fc runC.eq_1 (fc shpsD.eq_1 (fc inssD.eq_1 Tryz.results75))) True.intro
 ·simp only [Int.reduceEq,or_self,if_true,if_false] at hF1 hF2 hF3 hF4 hF5 ⊢
  refine con_runP Tryz.func75 rfl rfl (by simp [Tryz.ntmps75]) rfl ?_
  refine byP (fc runC.eq_1 (fc shpsD.eq_1 (fc inssD.eq_1 (fc hp0 (fc hp1 (fc hp2 (fc hRs (fc hRc Tryz.ntmps75)))))))) ?_
  refine sw_call (hfit) rfl (aAs_ok ?_) ?_ (sw_run 200 _ _ _ ?_)
  ·exact byQ True.intro
  ·simp only [okR]
  refine byQ ?_
  refine sw_call (htk) rfl (aAs_ok ?_) ?_ (sw_run 200 _ _ _ ?_)
  ·exact byQ True.intro
  ·simp only [okR]
  exact byP (fc i1 (fc i2 Tryz.results75)) True.intro
 ·simp only [Int.reduceEq,or_self,if_true,if_false] at hF1 hF2 hF3 hF4 hF5 ⊢
  refine con_runP Tryz.func75 rfl rfl (by simp [Tryz.ntmps75]) rfl ?_
  refine byP (fc runC.eq_1 (fc shpsD.eq_1 (fc inssD.eq_1 (fc hp0 (fc hp1 (fc hp2 (fc hRs (fc hRc Tryz.ntmps75)))))))) ?_
  refine sw_call (hfit) rfl (aAs_ok ?_) ?_ (sw_run 200 _ _ _ ?_)
  ·exact byQ True.intro
  ·simp only [okR]
  refine byQ ?_
  refine sw_call (htk) rfl (aAs_ok ?_) ?_ (sw_run 200 _ _ _ ?_)
  ·exact byQ True.intro
  ·simp only [okR]
  refine byP (fc i1 (fc i2 (fc i3 i5))) ?_
  refine sw_callPR (hF1) rfl rfl rfl ?_ ?_ ?_ (sw_run 200 _ _ _ ?_)
  ·exact byP (fc runC.eq_1 (fc shpsD.eq_1 inssD.eq_1)) True.intro
  ·exact byP (fc runC.eq_1 (fc shpsD.eq_1 inssD.eq_1)) True.intro
  ·exact byP (fc runC.eq_1 (fc shpsD.eq_1 inssD.eq_1)) True.intro
  exact byP (fc runC.eq_1 (fc shpsD.eq_1 (fc inssD.eq_1 Tryz.results75))) True.intro
 ·simp only [Int.reduceEq,or_self,if_true,if_false] at hF1 hF2 hF3 hF4 hF5 ⊢
  refine con_runP Tryz.func75 rfl rfl (by simp [Tryz.ntmps75]) rfl ?_
  refine byP (fc runC.eq_1 (fc shpsD.eq_1 (fc inssD.eq_1 (fc hp0 (fc hp1 (fc hp2 (fc hRs (fc hRc Tryz.ntmps75)))))))) ?_
  refine sw_call (hfit) rfl (aAs_ok ?_) ?_ (sw_run 200 _ _ _ ?_)
  ·exact byQ True.intro
  ·simp only [okR]
  refine byQ ?_
  refine sw_call (htk) rfl (aAs_ok ?_) ?_ (sw_run 200 _ _ _ ?_)
  ·exact byQ True.intro
  ·simp only [okR]
  refine byP (fc i1 (fc i2 (fc i4 i5))) ?_
  refine sw_callPR (hF1) rfl rfl rfl ?_ ?_ ?_ (sw_run 200 _ _ _ ?_)
  ·exact byP (fc runC.eq_1 (fc shpsD.eq_1 inssD.eq_1)) True.intro
  ·exact byP (fc runC.eq_1 (fc shpsD.eq_1 inssD.eq_1)) True.intro
  ·exact byP (fc runC.eq_1 (fc shpsD.eq_1 inssD.eq_1)) True.intro
  exact byP (fc runC.eq_1 (fc shpsD.eq_1 (fc inssD.eq_1 Tryz.results75))) True.intro
def bdS (f:Nat) (s:Shp):Prop:=(-(4 * (1000-(f:Int)))≤s.h∧s.h≤4 * (1000-(f:Int)))∧(-(4 * (1000-(f:Int)))≤s.d∧s.d≤4 * (1000-(f:Int)))
structure WS (n f:Nat) (st:Srch):Prop where
 len:st.sh.length=n
 td:∀ p ∈ st.todo,0≤p∧p<n∧st.sh[p.toNat]!.known=true
 bd:∀ k,k<n→bdS f st.sh[k]!
theorem WS.mono {n f:Nat} {st:Srch} (h:WS n (f+1) st):WS n f st:=by
 refine ⟨h.len,h.td,fun k hk => ?_⟩
 obtain ⟨h1,h2⟩:=h.bd k hk
 exact ⟨by omega,by omega⟩
theorem give_w {n f:Nat} {st:Srch} {y:Der} (h:WS n f st) (hy:bdD f y):WS n f (give n st y):=by
 obtain ⟨h1,h2,h3,h4⟩:=hy
 unfold give
 split
 ·exact ⟨h.len,h.td,h.bd⟩
 ·rename_i c1
  have hlt:y.p.toNat<st.sh.length:=by rw [h.len];omega
  split
  ·refine ⟨by simp [h.len],fun p hp => ?_,fun k hk => ?_⟩
   ·rw [get_set _ _ _ _ hlt]
    rcases List.mem_append.1 hp with hp | hp
    ·obtain ⟨a1,a2,a3⟩:=h.td p hp
     exact ⟨a1,a2,by split;exact h2;exact a3⟩
    ·simp only [List.mem_singleton] at hp
     subst hp
     exact ⟨h1.1,by omega,by rw [if_pos rfl];exact h2⟩
   ·rw [get_set _ _ _ _ hlt]
    split
    ·exact ⟨h3,h4⟩
    ·exact h.bd k hk
  ·split
   ·exact h
   ·exact ⟨h.len,h.td,h.bd⟩
theorem gives_w {n f : Nat} : ∀ (ys : List Der) {st : Srch}, WS n f st → (∀ y ∈ ys, bdD f y) → WS n f (ys.foldl (give n) st) ∧ (ys.foldl (give n) st).todo.length ≤ st.todo.length + ys.length
  | [], st, h, _ => ⟨h, Nat.le_refl _⟩
  | y :: ys, st, h, hy => by
    obtain ⟨h1, h2⟩ := gives_w ys (give_w h (hy y (by simp))) (fun z hz => hy z (by simp [hz]))
    have := (give_len n st y).2
    exact ⟨h1, by simp only [List.foldl_cons, List.length_cons]; omega⟩
theorem folS_len (p:Int) (x:Ins) (s:Shp):(folS p x s).length≤2:=by
 unfold folS
 repeat' split
 all_goals simp
theorem next_w {code:List Ins} {f:Nat} {st:Srch} {p:Int} (hf:f+1≤1000) (hx:insB code[p.toNat]! = true) (hn:code.length≤300) (h:WS code.length (f+1) st) (hp:0≤p∧p<code.length∧st.sh[p.toNat]!.known=true) :
  WS code.length f (nextS code st p)∧(nextS code st p).todo.length≤st.todo.length+2:=by
 unfold nextS
 split
 ·obtain ⟨b1,b2⟩:=h.bd p.toNat (by omega)
  have hl:=folS_len p code[p.toNat]! st.sh[p.toNat]!
  obtain ⟨h1,h2⟩:=gives_w (f:=f) (folS p code[p.toNat]! st.sh[p.toNat]!) h.mono (fun y hy=>fol_bd hf hx ⟨⟨hp.1,by simp only;omega⟩,hp.2.2,b1,b2⟩ (by omega) y (fol_mem.1 hy))
  exact ⟨h1,by omega⟩
 ·exact ⟨⟨h.len,h.td,h.mono.bd⟩,by simp⟩
theorem cutD_ints (p:Int) (r:List Int):cutD (.rows 1 (p :: r).length ((p :: r).map D.int)) 1 (p :: r).length = .rows 1 r.length (r.map D.int):=by
 simp [cutD,List.take_of_length_le]
theorem goS_bad {code:List Ins} {f:Nat} {sh:List Shp} {todo:List Int}:goS code (f+1) ⟨sh,todo,true⟩=some none:=by unfold goS;rw [if_pos rfl]
theorem goS_nil {code:List Ins} {f:Nat} {sh:List Shp}:goS code (f+1) ⟨sh,[],false⟩=some (some sh):=by unfold goS;rw [if_neg (by simp)]
theorem goS_cons {code:List Ins} {f:Nat} {sh:List Shp} {p:Int} {r:List Int}:goS code (f+1) ⟨sh,p :: r,false⟩=goS code f (nextS code ⟨sh,r,false⟩ p):=by
 conv=>lhs;unfold goS
 simp
theorem con_ShapesS (code : List Ins) (hl : code.length ≤ 1000000000) : Con Tryz.prog 18 [.one (inssD code)] [.one (shpsD ((shpR code).getD [])), .one (.bool (shpR code).isSome)] := by
  have hA := con_l23Code code hl
  have hb := okA_of (code := code)
  obtain ⟨R, hR⟩ : ∃ R, R = shpR code := ⟨_, rfl⟩
  rw [← hR]
  unfold shpR at hR
  generalize codeB code = b at *
  simp only [inssD] at hA
  cases b
  case false =>
    rw [if_neg (by simp)] at hR
    subst hR
    refine con_run Tryz.func18 rfl rfl (by simp [Tryz.ntmps18]) ?_
    refine byP (fc inssD.eq_1 Tryz.ntmps18) ?_
    refine sw_call (hA) rfl (aAs_ok ?_) ?_ (sw_run 200 _ _ _ ?_)
    · exact byQ True.intro
    · simp only [okR]
    simp only [push_cast, ↓reduceIte, Nat.reduceLT, Nat.reduceEqDiff, reduceCtorEq, shpsD, flC, Tryz.results18]
  obtain ⟨hok, hlen, hall⟩ := hb rfl
  by_cases h0 : 0 < code.length
  case neg =>
    rw [if_neg (by simp [h0])] at hR
    subst hR
    have hzi : ((code.length : Nat) : Int) = 0 := by omega
    refine con_run Tryz.func18 rfl rfl (by simp [Tryz.ntmps18]) ?_
    refine byP (fc inssD.eq_1 Tryz.ntmps18) ?_
    refine sw_call (hA) rfl (aAs_ok ?_) ?_ (sw_run 200 _ _ _ ?_)
    · exact byQ True.intro
    · simp only [okR]
    simp only [push_cast, ↓reduceIte, Nat.reduceLT, Nat.reduceEqDiff, reduceCtorEq, hzi, shpsD, flC, Tryz.results18]
  rw [if_pos ⟨rfl, h0⟩] at hR
  have hgo := shRes_goS hok
  rw [← hR] at hgo
  have hzi : (((code.length : Nat) : Int) = 0) = False := eq_false (by omega)
  have hn1 : (code.length : Int) ≤ 1000000 := by omega
  have hG := con_Give code ⟨zeros code.length, [], false⟩ 0 ⟨false, 0, 0, 0⟩ (by omega) (zeros_len _) (by simp)
  rw [show knS ⟨false, 0, 0, 0⟩ = s0 from rfl] at hG
  have hW0 : WS code.length (3 * code.length + 3) (give code.length ⟨zeros code.length, [], false⟩ ⟨0, s0⟩) := give_w ⟨zeros_len _, by simp, fun k hk => by rw [zeros_at _ _ hk]; exact ⟨by simp only [zS]; omega, by simp only [zS]; omega⟩⟩ ⟨⟨by decide, by decide⟩, rfl, by simp only [s0]; omega, by simp only [s0]; omega⟩
  have hL0 := (give_len code.length ⟨zeros code.length, [], false⟩ ⟨0, s0⟩).2
  simp only [shpC, runC, shpsD, intsD, inssD, List.length_nil, List.map_nil, zeros_len] at hG
  simp only [List.length_nil] at hL0
  generalize give code.length ⟨zeros code.length, [], false⟩ ⟨0, s0⟩ = g0 at *
  refine con_run Tryz.func18 rfl rfl (by simp [Tryz.ntmps18]) ?_
  refine byP (fc inssD.eq_1 Tryz.ntmps18) ?_
  refine sw_call (hA) rfl (aAs_ok ?_) ?_ (sw_run 200 _ _ _ ?_)
  · exact byQ True.intro
  · simp only [okR]
  refine byP (fc hzi (fc hn1 flC_zeros)) ?_
  refine sw_callPR (hG) rfl rfl rfl ?_ ?_ ?_ (sw_run 200 _ _ _ ?_)
  · exact byQ True.intro
  · exact byQ True.intro
  · exact byQ True.intro
  refine byP shpsD.eq_1 ?_
  refine sw_loop (fun i : Nat × Srch => goS code i.1 i.2 = some R ∧ i.1 ≤ 1000 ∧ WS code.length i.1 i.2 ∧ (i.2.todo.length : Int) ≤ 4 * (1000 - (i.1 : Int)) + 400)
    (fun i => ⟨63, [(0, .br (.rows 2 code.length (flC insC code))), (4, .bx 0 0)], [(0, [.br (.rows 2 code.length (flC insC code)), .sl 1, .sl 2, .b i.2.bad])], [(1, some ⟨.rows 4 i.2.sh.length (flC shpC i.2.sh), some 109, true⟩), (2, some ⟨.rows 1 i.2.todo.length (i.2.todo.map D.int), some 3, true⟩)], 3, []⟩)
    (fun i => i.1) (3 * code.length + 3, g0) (rnL [(0, 1), (1, 2), (2, 3)]) ⟨hgo, by simp only; omega, hW0, by simp only; omega⟩ ?_ ?_
  · exact byQ True.intro
  · rintro ⟨f, sh, todo, bd⟩ ⟨hgo, hf, hW, hll⟩
    simp only at hgo hf hll ⊢
    obtain ⟨f, rfl⟩ : ∃ g, f = g + 1 := by
      cases f with
      | zero => cases hgo
      | succ g => exact ⟨g, rfl⟩
    refine sw_run 200 _ _ _ ?_
    have hlen0 := hW.len
    simp only at hlen0
    cases bd with
    | true =>
      rw [goS_bad] at hgo
      simp only [Option.some.injEq] at hgo
      subst hgo
      have hpq : (0 : Int) < (todo.length : Int) ∨ ¬ (0 : Int) < (todo.length : Int) := Classical.em _
      rcases hpq with hpq | hpq
      all_goals
        refine byP hpq ?_
        refine sw_run 200 _ _ _ ?_
        simp only [push_cast, ↓reduceIte, Nat.reduceLT, Nat.reduceAdd, Nat.reduceEqDiff, reduceCtorEq, flC, Tryz.results18]
    | false =>
      cases todo with
      | nil =>
        rw [goS_nil] at hgo
        simp only [Option.some.injEq] at hgo
        subst hgo
        refine byQ ?_
        refine sw_run 200 _ _ _ ?_
        exact byP Tryz.results18 True.intro
      | cons p r =>
        rw [goS_cons] at hgo
        obtain ⟨hp0, hp1, hpk⟩ := hW.td p (by simp)
        simp only at hpk
        have hx := hall p.toNat (by omega)
        obtain ⟨b1, b2⟩ := hW.bd p.toNat (by omega)
        simp only at b1 b2
        have hN := con_Next code ⟨sh, r, false⟩ p hx ⟨hp0, hp1⟩ (by omega) hlen0 (by simp only [List.length_cons] at hll ⊢; omega) hpk (by simp only; omega) (by simp only; omega)
        have hWn := next_w (st := ⟨sh, r, false⟩) hf hx hlen ⟨hlen0, fun q hq => hW.td q (by simp [hq]), hW.bd⟩ ⟨hp0, hp1, hpk⟩
        obtain ⟨hWn, hLn⟩ := hWn
        simp only at hLn
        simp only [runC, shpsD, intsD, inssD] at hN
        generalize nextS code ⟨sh, r, false⟩ p = g1 at *
        have hpos : (0 : Int) < ((p :: r).length : Int) := by simp only [List.length_cons]; omega
        have hle1 : (1 : Int) ≤ ((p :: r).length : Int) := by omega
        have hR0 : rowAt 1 ((p :: r).map D.int) 0 = [.int p] := by
          have := ints_row (p :: r) 0 (by simp)
          simpa using this
        have hcut := cutD_ints p r
        have hll' : (r.length : Int) + 1 ≤ 4 * (1000 - ((f + 1 : Nat) : Int)) + 400 := by simpa using hll
        generalize p :: r = list at *
        refine byP (fc hpos hR0) ?_
        refine sw_cutR 2 rfl rfl ?_ ?_ (sw_run 200 _ _ _ ?_)
        · exact byQ True.intro
        · exact byP hle1 True.intro
        refine byP hcut ?_
        refine sw_callPR (hN) rfl rfl rfl ?_ ?_ ?_ (sw_run 200 _ _ _ ?_)
        · exact byQ True.intro
        · exact byQ True.intro
        · exact byQ True.intro
        refine byQ ?_
        refine ⟨(f, g1), rnL [(0, 0), (1, 4), (2, 5)], ⟨hgo, by simp only; omega, hWn, by simp only; omega⟩, by simp only; omega, ?_⟩
        exact byQ True.intro
end Go.Proofs.YtaidalilfmjfgaaGreat
