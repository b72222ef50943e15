import Derived.Test.YtaidalilfmjfgaaGreatDrj
namespace Go.Proofs.YtaidalilfmjfgaaGreat
open Go.RowKit
set_option linter.unusedVariables false
set_option linter.unusedSimpArgs false
set_option maxRecDepth 20000
set_option maxHeartbeats 16000000 in
theorem con_gen0 (zs:List Int) (hz:BytOk zs) (d:Int) (hd:d<2) (dn:Nat) (ctx:List Tg) (t:Ty) (n:Int) (i:Nat) (h:Int) (hc:Cx 40 ctx) (hf:formT t=true) (ht:tsz t+dn≤20) (hn0:0≤n) (hn:n+dn≤1000) (hi:i≤zs.length):ConX Tryz.prog 205 [.p (curA zs i h),.b (.one (.rows 4 ctx.length (flC tgC ctx))),.b (.ag [.int t.kind,.rows 2 t.args.length (tysC t.args)]),.b (.one (.int n)),.b (.one (.int d))] (tmI zs (gsz (tsz t) dn)) (tmO zs) tmZs:=by
 have hO3:=fun i hi h=>con_Once zs hz 3 (by decide) (by decide) i hi h
 have hO4:=fun i hi h=>con_Once zs hz 4 (by decide) (by decide) i hi h
 have hzt:szL (tyC t)=tsz t:=rfl
 have hsm9:=con_small zs hz (tsz t) t (Nat.le_refl _) (by omega) hf n hn0 (by omega)
 have g7:=gsz_7 (tsz t) dn
 have g2:=gsz_p dn
 have g10:=gsz_s (tsz t) dn
 have hKn:=fun i hi h=>con_known zs hz 40 ctx t n (hc.mono (by omega)) (by omega) (by omega) i hi h
 refine con_runXF [0,1,2,3,4,5,6,7,8,9,10,11,12] Tryz.func205 rfl rfl (by simp [Tryz.ntmps205]) (fun _ _=>rfl) ?_
 refine byP (fc (drZ zs) (fc Tryz.ntmps205 Tryz.results205)) ?_
 refine sw_callXR (hO3 i hi h) rfl rfl rfl (byP (drZ zs) True.intro) (byP (drZ zs) True.intro) (byP (drZ zs) True.intro) ?_
 rintro ⟨b1,j1,q1⟩ hj1
 have hj1':j1≤zs.length:=hj1
 cases b1
 ·refine sw_run 200 _ _ _ (byP (drZ zs) ?_)
  refine sw_callXR (hKn j1 hj1' q1) rfl rfl rfl (byP (drZ zs) True.intro) (byP (drZ zs) True.intro) (byP (drZ zs) True.intro) ?_
  rintro ⟨e,ok,j2,q2⟩ ⟨he,hj2⟩
  simp only at he hj2
  cases ok
  ·refine sw_run 200 _ _ _ (byP (fc (knF zs) (fc (drZ zs) (fc (eq_true hd) (fc Tryz.ntmps205 Tryz.results205)))) ?_)
   refine sw_callXR (hsm9 j2 hj2 q2) rfl rfl rfl (byP (drZ zs) True.intro) (byP (drZ zs) True.intro) (byP (drZ zs) True.intro) ?_
   rintro ⟨x,j3,q3⟩ ⟨hx,hj3⟩
   simp only at hx hj3
   refine sw_run 200 _ _ _ (byP (fc (drZ zs) (fc Tryz.ntmps205 Tryz.results205)) ?_)
   refine ⟨.inl rfl,(x,j3,q3),⟨by show szL (tmC x)≤_;omega,hj3⟩, ?_⟩
   refine byP (fc (drZ zs) (fc tmF (fc mkF (fc Tryz.ntmps205 Tryz.results205)))) ?_
   repeat' (with_reducible apply And.intro)
   all_goals first | exact True.intro | rfl
  ·refine sw_run 200 _ _ _ (byP (fc (knF zs) (fc (drZ zs) (fc Tryz.ntmps205 Tryz.results205))) ?_)
   refine ⟨.inl rfl,(e,j2,q2),⟨by show szL (tmC e)≤_;omega,hj2⟩, ?_⟩
   refine byP (fc (drZ zs) (fc tmF (fc mkF (fc Tryz.ntmps205 Tryz.results205)))) ?_
   repeat' (with_reducible apply And.intro)
   all_goals first | exact True.intro | rfl
 ·refine sw_run 200 _ _ _ (byP (fc (drZ zs) (fc (eq_true hd) (fc Tryz.ntmps205 Tryz.results205))) ?_)
  refine sw_callXR (hsm9 j1 hj1' q1) rfl rfl rfl (byP (drZ zs) True.intro) (byP (drZ zs) True.intro) (byP (drZ zs) True.intro) ?_
  rintro ⟨x,j3,q3⟩ ⟨hx,hj3⟩
  simp only at hx hj3
  refine sw_run 200 _ _ _ (byP (fc (drZ zs) (fc Tryz.ntmps205 Tryz.results205)) ?_)
  refine ⟨.inl rfl,(x,j3,q3),⟨by show szL (tmC x)≤_;omega,hj3⟩, ?_⟩
  refine byP (fc (drZ zs) (fc tmF (fc mkF (fc Tryz.ntmps205 Tryz.results205)))) ?_
  repeat' (with_reducible apply And.intro)
  all_goals first | exact True.intro | rfl
set_option maxHeartbeats 16000000 in
theorem con_genS (zs:List Int) (hz:BytOk zs) (d:Nat) (hd:d≤4) (hG:GenC zs (d+1)) (ctx:List Tg) (t:Ty) (n:Int) (i:Nat) (h:Int) (hc:Cx (38-d) ctx) (hf:formT t=true) (ht:tsz t+(d+2)≤20) (hn0:0≤n) (hn:n+(d+2)≤1000) (hi:i≤zs.length):ConX Tryz.prog 205 [.p (curA zs i h),.b (.one (.rows 4 ctx.length (flC tgC ctx))),.b (.ag [.int t.kind,.rows 2 t.args.length (tysC t.args)]),.b (.one (.int n)),.b (.one (.int ((d:Int)+2)))] (tmI zs (gsz (tsz t) (d+2))) (tmO zs) tmZs:=by
 have hO3:=fun i hi h=>con_Once zs hz 3 (by decide) (by decide) i hi h
 have hO4:=fun i hi h=>con_Once zs hz 4 (by decide) (by decide) i hi h
 have hP2:∀ (i:Nat),i≤zs.length→∀ h:Int,ConX Tryz.prog 145 [.p (curA zs i h),.b (.one (.rows 1 2 [.str ⟨#[120]⟩,.str ⟨#[121]⟩]))] (txI zs [⟨#[120]⟩,⟨#[121]⟩]) (txO zs) txR:=fun i hi h=>con_Pick zs hz [⟨#[120]⟩,⟨#[121]⟩] (by decide) (by decide) i hi h
 have hzt:szL (tyC t)=tsz t:=rfl
 have hs:(d:Int)+2-1=(d:Int)+1:=by omega
 have hin:inI ((d:Int)+1):=by unfold inI;omega
 have hlt:¬ (d:Int)+2<2:=by omega
 have e2:(d:Int)+2=((d+1:Nat):Int)+1:=by omega
 have g0:gsz (tsz t) (d+2)=4 * gsz (tsz t) (d+1):=gsz_S (tsz t) (d+1)
 have g1:=gsz_7 (tsz t) (d+1)
 have g2:=gsz_p (d+1)
 have g7:=gsz_b (tsz t) (d+1) (by omega) (by omega)
 have g10:=gsz_s (tsz t) (d+1)
 have hc1:Cx (40-(d+1)) ctx:=hc.mono (by omega)
 have hBase:=fun i hi h=>con_base9 zs hz (d+1) (by omega) hG ctx t n i h hc1 (by omega) hn0 (by omega) hi
 have hAny:=fun i hi h=>con_any9 zs hz (d+1) (by omega) hG ctx t n i h (hc.mono (by omega)) hf (by omega) hn0 (by omega) hi
 rw [← e2] at hBase hAny
 have hKn:=fun i hi h=>con_known zs hz 40 ctx t n (hc.mono (by omega)) (by omega) (by omega) i hi h
 refine con_runXF [0,1,2,3,4,5,6,7,8,9,10,11,12] Tryz.func205 rfl rfl (by simp [Tryz.ntmps205]) (fun _ _=>rfl) ?_
 refine byP (fc (drZ zs) (fc Tryz.ntmps205 Tryz.results205)) ?_
 refine sw_callXR (hO3 i hi h) rfl rfl rfl (byP (drZ zs) True.intro) (byP (drZ zs) True.intro) (byP (drZ zs) True.intro) ?_
 rintro ⟨b1,j1,q1⟩ hj1
 have hj1':j1≤zs.length:=hj1
 cases b1
 ·refine sw_run 200 _ _ _ (byP (drZ zs) ?_)
  refine sw_callXR (hKn j1 hj1' q1) rfl rfl rfl (byP (drZ zs) True.intro) (byP (drZ zs) True.intro) (byP (drZ zs) True.intro) ?_
  rintro ⟨e,ok,j2,q2⟩ ⟨he,hj2⟩
  simp only at he hj2
  cases ok
  ·refine sw_run 200 _ _ _ (byP (fc (knF zs) (fc (drZ zs) (fc hlt (fc Tryz.ntmps205 Tryz.results205)))) ?_)
   refine sw_callXR (hO3 j2 hj2 q2) rfl rfl rfl (byP (drZ zs) True.intro) (byP (drZ zs) True.intro) (byP (drZ zs) True.intro) ?_
   rintro ⟨b2,k1,r1⟩ hk1
   have hk1':k1≤zs.length:=hk1
   cases b2
   ·rcases g_kind hf with g | g | g | g
    ·refine sw_run 200 _ _ _ (byP (fc (drZ zs) (fc g.1 (fc Tryz.ntmps205 Tryz.results205))) ?_)
     rw [g.1] at hBase
     refine sw_callXR (hBase k1 hk1' r1) rfl rfl rfl (byP (drZ zs) True.intro) (byP (drZ zs) True.intro) (byP (drZ zs) True.intro) ?_
     rintro ⟨x,k2,r2⟩ ⟨hx,hk2⟩
     simp only at hx hk2
     refine sw_run 200 _ _ _ (byP (fc (drZ zs) (fc Tryz.ntmps205 Tryz.results205)) ?_)
     refine ⟨.inl rfl,(x,k2,r2),⟨by show szL (tmC x)≤_;omega,hk2⟩, ?_⟩
     refine byP (fc (drZ zs) (fc tmF (fc mkF (fc Tryz.ntmps205 Tryz.results205)))) ?_
     repeat' (with_reducible apply And.intro)
     all_goals first | exact True.intro | rfl
    ·refine sw_run 200 _ _ _ (byP (fc (drZ zs) (fc g.1 (fc Tryz.ntmps205 Tryz.results205))) ?_)
     rw [g.1] at hBase
     refine sw_callXR (hBase k1 hk1' r1) rfl rfl rfl (byP (drZ zs) True.intro) (byP (drZ zs) True.intro) (byP (drZ zs) True.intro) ?_
     rintro ⟨x,k2,r2⟩ ⟨hx,hk2⟩
     simp only at hx hk2
     refine sw_run 200 _ _ _ (byP (fc (drZ zs) (fc Tryz.ntmps205 Tryz.results205)) ?_)
     refine ⟨.inl rfl,(x,k2,r2),⟨by show szL (tmC x)≤_;omega,hk2⟩, ?_⟩
     refine byP (fc (drZ zs) (fc tmF (fc mkF (fc Tryz.ntmps205 Tryz.results205)))) ?_
     repeat' (with_reducible apply And.intro)
     all_goals first | exact True.intro | rfl
    ·obtain ⟨hk,hl,hf0,hf1,hsz⟩:=g
     have i0:(0:Int)<(t.args.length:Int):=by omega
     have i1:(1:Int)<(t.args.length:Int):=by omega
     have r0:=tysC_row' t.args 0 (by omega)
     have r1':=tysC_row' t.args 1 (by omega)
     have hza:tsz t=2+(tsz t.args[0]! + tsz t.args[1]!):=hsz
     have hza0:szL (tyC t.args[0]!)=tsz t.args[0]! := rfl
     have ga:=gsz_m (show tsz t.args[1]! ≤ tsz t by omega) (d+1)
     refine sw_run 200 _ _ _ (byP (fc (drZ zs) (fc hk (fc Tryz.ntmps205 Tryz.results205))) ?_)
     refine sw_fzE 4 rfl ?_
     refine byQ ?_
     refine sw_callXR (hP2 k1 hk1' r1) rfl rfl rfl (byP (drZ zs) True.intro) (byP (drZ zs) True.intro) (byP (drZ zs) True.intro) ?_
     rintro ⟨s,k2,r2⟩ ⟨hsm,hk2⟩
     simp only at hsm hk2
     have s1:s.size≤1:=by
      simp only [List.mem_cons,List.not_mem_nil,or_false] at hsm
      rcases hsm with rfl | rfl <;> decide
     have hW:=con_withZ ctx s t.args[0]! n (by have:=hc.1;omega)
     have hX:=fun i hi h=>hG (ctx++[(⟨s,t.args[0]!,n⟩:Tg)]) t.args[1]! n i h ((cx_app (g:=⟨s,t.args[0]!,n⟩) hc ⟨s1,hf0,by simp only;omega⟩).mono (by omega)) hf1 (by omega) hn0 (by omega) hi
     generalize ctx++[(⟨s,t.args[0]!,n⟩:Tg)]=ctx' at *
     refine sw_run 200 _ _ _ (byP (fc (drZ zs) (fc hk (fc Tryz.ntmps205 Tryz.results205))) ?_)
     refine sw_fzC 1 rfl rfl ?_
     refine sw_drawnS [1,2,3,4,8,9,10,11,14,15,16,17] (.cons 0 true (.cons 5 true (.cons 6 true (.cons 7 true (.cons 12 true (.cons 18 true (.cons 19 true (.cons 20 true (.cons 13 false (.cons 21 false (.cons 22 false (.cons 23 false (.nil))))))))))))) (by kernel_rfl) fQXF_panic (by kernel_rfl) ?_ ?_
     ·exact byP (fc prF (fc i0 (fc i1 (fc r0 r1')))) True.intro
     refine sw_run 200 _ _ _ (byP (fc prF (fc i0 (fc i1 (fc r0 (fc r1' (fc hs (fc hin (fc Tryz.ntmps205 Tryz.results205)))))))) ?_)
     refine sw_callDPB (cap:=[]) (hW) rfl rfl rfl (byQ True.intro) ?_
     refine sw_run 200 _ _ _ (byP (fc hs hin) ?_)
     refine sw_callDXR (hX k2 hk2 r2) rfl rfl rfl (byP (drZ zs) True.intro) (byP (drZ zs) True.intro) (byP (drZ zs) True.intro) rfl ?_
     rintro ⟨x,k3,r3⟩ ⟨hx,hk3⟩
     simp only at hx hk3
     refine sw_run 200 _ _ _ (byP (drZ zs) ?_)
     refine sw_callDPB (cap:=[]) (con_lamZ s t.args[0]! x (by omega) (by omega)) rfl rfl rfl (byP (tmC_eq) True.intro) ?_
     refine sw_run 200 _ _ _ (byP (fc (drZ zs) (fc tmF (fc mkF (fc Tryz.ntmps205 Tryz.results205)))) ?_)
     refine ⟨.inl rfl,(tLam s t.args[0]! x,k3,r3),⟨?_,hk3⟩, ?_⟩
     ·show szL (tmC _)≤_
      rw [sz_lam]
      omega
     refine byP (fc (drZ zs) (fc tmF (fc mkF (fc Tryz.ntmps205 Tryz.results205)))) ?_
     repeat' (with_reducible apply And.intro)
     all_goals first | exact True.intro | rfl
    ·obtain ⟨hk,hl,hf0,hsz⟩:=g
     have i0:(0:Int)<(t.args.length:Int):=by omega
     have r0:=tysC_row' t.args 0 (by omega)
     have hza:tsz t=1+tsz t.args[0]! := hsz
     have ga:=gsz_m (show tsz t.args[0]! ≤ tsz t by omega) (d+1)
     have n1:inI (n+1):=by unfold inI;omega
     have hIB:=con_IsBase t.args[0]!
     rw [tyC_eq] at hIB
     have hX:=fun i hi h=>hG ctx t.args[0]! n i h hc1 hf0 (by omega) hn0 (by omega) hi
     have hY:=fun i hi h=>hG ctx t.args[0]! (n+1) i h hc1 hf0 (by omega) (by omega) (by omega) hi
     generalize isBaseT t.args[0]! = bb at *
     refine sw_run 200 _ _ _ (byP (fc (drZ zs) (fc hk (fc i0 (fc r0 (fc Tryz.ntmps205 Tryz.results205))))) ?_)
     refine sw_call (hIB) rfl (aAs_ok (byQ True.intro)) (byQ True.intro) ?_
     cases bb
     ·refine sw_run 200 _ _ _ (byP (fc i0 (fc r0 (fc n1 (fc hs hin)))) ?_)
      refine sw_callXR (hY k1 hk1' r1) rfl rfl rfl (byP (drZ zs) True.intro) (byP (drZ zs) True.intro) (byP (drZ zs) True.intro) ?_
      rintro ⟨x,k2,r2⟩ ⟨hx,hk2⟩
      simp only at hx hk2
      refine sw_run 200 _ _ _ (byP (drZ zs) ?_)
      refine sw_fzE 4 rfl ?_
      refine byQ ?_
      refine sw_callPR (con_node1 10 x (by omega)) rfl rfl rfl (byQ True.intro) (byQ True.intro) (byQ True.intro) ?_
      refine sw_run 200 _ _ _ (byP (fc (drZ zs) (fc tmF (fc mkF (fc Tryz.ntmps205 Tryz.results205)))) ?_)
      refine ⟨.inl rfl,(tNode 10 [x],k2,r2),⟨?_,hk2⟩, ?_⟩
      ·show szL (tmC _)≤_
       rw [sz_node]
       rw [tmL1]
       simp only [List.length_cons,List.length_nil]
       omega
      refine byP (fc (drZ zs) (fc tmF (fc mkF (fc Tryz.ntmps205 Tryz.results205)))) ?_
      repeat' (with_reducible apply And.intro)
      all_goals first | exact True.intro | rfl
     ·refine sw_run 200 _ _ _ (byP (fc i0 r0) ?_)
      refine sw_callXR (hO4 k1 hk1' r1) rfl rfl rfl (byP (drZ zs) True.intro) (byP (drZ zs) True.intro) (byP (drZ zs) True.intro) ?_
      rintro ⟨b3,k4,r4⟩ hk4
      have hk4':k4≤zs.length:=hk4
      cases b3
      ·refine sw_run 200 _ _ _ (byP (fc (drZ zs) (fc i0 (fc r0 (fc n1 (fc hs hin))))) ?_)
       refine sw_callXR (hY k4 hk4' r4) rfl rfl rfl (byP (drZ zs) True.intro) (byP (drZ zs) True.intro) (byP (drZ zs) True.intro) ?_
       rintro ⟨x,k2,r2⟩ ⟨hx,hk2⟩
       simp only at hx hk2
       refine sw_run 200 _ _ _ (byP (drZ zs) ?_)
       refine sw_fzE 4 rfl ?_
       refine byQ ?_
       refine sw_callPR (con_node1 10 x (by omega)) rfl rfl rfl (byQ True.intro) (byQ True.intro) (byQ True.intro) ?_
       refine sw_run 200 _ _ _ (byP (fc (drZ zs) (fc tmF (fc mkF (fc Tryz.ntmps205 Tryz.results205)))) ?_)
       refine ⟨.inl rfl,(tNode 10 [x],k2,r2),⟨?_,hk2⟩, ?_⟩
       ·show szL (tmC _)≤_
        rw [sz_node]
        rw [tmL1]
        simp only [List.length_cons,List.length_nil]
        omega
       refine byP (fc (drZ zs) (fc tmF (fc mkF (fc Tryz.ntmps205 Tryz.results205)))) ?_
       repeat' (with_reducible apply And.intro)
       all_goals first | exact True.intro | rfl
      ·refine sw_run 200 _ _ _ (byP (fc (drZ zs) (fc i0 (fc r0 (fc n1 (fc hs hin))))) ?_)
       refine sw_callXR (hX k4 hk4' r4) rfl rfl rfl (byP (drZ zs) True.intro) (byP (drZ zs) True.intro) (byP (drZ zs) True.intro) ?_
       rintro ⟨x,k2,r2⟩ ⟨hx,hk2⟩
       simp only at hx hk2
       refine sw_run 200 _ _ _ (byP (drZ zs) ?_)
       refine sw_fzE 4 rfl ?_
       refine byQ ?_
       refine sw_callPR (con_node1 13 x (by omega)) rfl rfl rfl (byQ True.intro) (byQ True.intro) (byQ True.intro) ?_
       refine sw_run 200 _ _ _ (byP (fc (drZ zs) (fc tmF (fc mkF (fc Tryz.ntmps205 Tryz.results205)))) ?_)
       refine ⟨.inl rfl,(tNode 13 [x],k2,r2),⟨?_,hk2⟩, ?_⟩
       ·show szL (tmC _)≤_
        rw [sz_node]
        rw [tmL1]
        simp only [List.length_cons,List.length_nil]
        omega
       refine byP (fc (drZ zs) (fc tmF (fc mkF (fc Tryz.ntmps205 Tryz.results205)))) ?_
       repeat' (with_reducible apply And.intro)
       all_goals first | exact True.intro | rfl
   ·refine sw_run 200 _ _ _ (byP (fc (drZ zs) (fc Tryz.ntmps205 Tryz.results205)) ?_)
    refine sw_callXR (hAny k1 hk1' r1) rfl rfl rfl (byP (drZ zs) True.intro) (byP (drZ zs) True.intro) (byP (drZ zs) True.intro) ?_
    rintro ⟨x,k2,r2⟩ ⟨hx,hk2⟩
    simp only at hx hk2
    refine sw_run 200 _ _ _ (byP (fc (drZ zs) (fc Tryz.ntmps205 Tryz.results205)) ?_)
    refine ⟨.inl rfl,(x,k2,r2),⟨by show szL (tmC x)≤_;omega,hk2⟩, ?_⟩
    refine byP (fc (drZ zs) (fc tmF (fc mkF (fc Tryz.ntmps205 Tryz.results205)))) ?_
    repeat' (with_reducible apply And.intro)
    all_goals first | exact True.intro | rfl
  ·refine sw_run 200 _ _ _ (byP (fc (knF zs) (fc (drZ zs) (fc Tryz.ntmps205 Tryz.results205))) ?_)
   refine ⟨.inl rfl,(e,j2,q2),⟨by show szL (tmC e)≤_;omega,hj2⟩, ?_⟩
   refine byP (fc (drZ zs) (fc tmF (fc mkF (fc Tryz.ntmps205 Tryz.results205)))) ?_
   repeat' (with_reducible apply And.intro)
   all_goals first | exact True.intro | rfl
 ·refine sw_run 200 _ _ _ (byP (fc (drZ zs) (fc hlt (fc Tryz.ntmps205 Tryz.results205))) ?_)
  refine sw_callXR (hO3 j1 hj1' q1) rfl rfl rfl (byP (drZ zs) True.intro) (byP (drZ zs) True.intro) (byP (drZ zs) True.intro) ?_
  rintro ⟨b2,k1,r1⟩ hk1
  have hk1':k1≤zs.length:=hk1
  cases b2
  ·rcases g_kind hf with g | g | g | g
   ·refine sw_run 200 _ _ _ (byP (fc (drZ zs) (fc g.1 (fc Tryz.ntmps205 Tryz.results205))) ?_)
    rw [g.1] at hBase
    refine sw_callXR (hBase k1 hk1' r1) rfl rfl rfl (byP (drZ zs) True.intro) (byP (drZ zs) True.intro) (byP (drZ zs) True.intro) ?_
    rintro ⟨x,k2,r2⟩ ⟨hx,hk2⟩
    simp only at hx hk2
    refine sw_run 200 _ _ _ (byP (fc (drZ zs) (fc Tryz.ntmps205 Tryz.results205)) ?_)
    refine ⟨.inl rfl,(x,k2,r2),⟨by show szL (tmC x)≤_;omega,hk2⟩, ?_⟩
    refine byP (fc (drZ zs) (fc tmF (fc mkF (fc Tryz.ntmps205 Tryz.results205)))) ?_
    repeat' (with_reducible apply And.intro)
    all_goals first | exact True.intro | rfl
   ·refine sw_run 200 _ _ _ (byP (fc (drZ zs) (fc g.1 (fc Tryz.ntmps205 Tryz.results205))) ?_)
    rw [g.1] at hBase
    refine sw_callXR (hBase k1 hk1' r1) rfl rfl rfl (byP (drZ zs) True.intro) (byP (drZ zs) True.intro) (byP (drZ zs) True.intro) ?_
    rintro ⟨x,k2,r2⟩ ⟨hx,hk2⟩
    simp only at hx hk2
    refine sw_run 200 _ _ _ (byP (fc (drZ zs) (fc Tryz.ntmps205 Tryz.results205)) ?_)
    refine ⟨.inl rfl,(x,k2,r2),⟨by show szL (tmC x)≤_;omega,hk2⟩, ?_⟩
    refine byP (fc (drZ zs) (fc tmF (fc mkF (fc Tryz.ntmps205 Tryz.results205)))) ?_
    repeat' (with_reducible apply And.intro)
    all_goals first | exact True.intro | rfl
   ·obtain ⟨hk,hl,hf0,hf1,hsz⟩:=g
    have i0:(0:Int)<(t.args.length:Int):=by omega
    have i1:(1:Int)<(t.args.length:Int):=by omega
    have r0:=tysC_row' t.args 0 (by omega)
    have r1':=tysC_row' t.args 1 (by omega)
    have hza:tsz t=2+(tsz t.args[0]! + tsz t.args[1]!):=hsz
    have hza0:szL (tyC t.args[0]!)=tsz t.args[0]! := rfl
    have ga:=gsz_m (show tsz t.args[1]! ≤ tsz t by omega) (d+1)
    refine sw_run 200 _ _ _ (byP (fc (drZ zs) (fc hk (fc Tryz.ntmps205 Tryz.results205))) ?_)
    refine sw_fzE 3 rfl ?_
    refine byQ ?_
    refine sw_callXR (hP2 k1 hk1' r1) rfl rfl rfl (byP (drZ zs) True.intro) (byP (drZ zs) True.intro) (byP (drZ zs) True.intro) ?_
    rintro ⟨s,k2,r2⟩ ⟨hsm,hk2⟩
    simp only at hsm hk2
    have s1:s.size≤1:=by
     simp only [List.mem_cons,List.not_mem_nil,or_false] at hsm
     rcases hsm with rfl | rfl <;> decide
    have hW:=con_withZ ctx s t.args[0]! n (by have:=hc.1;omega)
    have hX:=fun i hi h=>hG (ctx++[(⟨s,t.args[0]!,n⟩:Tg)]) t.args[1]! n i h ((cx_app (g:=⟨s,t.args[0]!,n⟩) hc ⟨s1,hf0,by simp only;omega⟩).mono (by omega)) hf1 (by omega) hn0 (by omega) hi
    generalize ctx++[(⟨s,t.args[0]!,n⟩:Tg)]=ctx' at *
    refine sw_run 200 _ _ _ (byP (fc (drZ zs) (fc hk (fc Tryz.ntmps205 Tryz.results205))) ?_)
    refine sw_fzC 1 rfl rfl ?_
    refine sw_drawnS [1,2,3,4,8,9,10,11,14,15,16,17] (.cons 0 true (.cons 5 true (.cons 6 true (.cons 7 true (.cons 12 true (.cons 18 true (.cons 19 true (.cons 20 true (.cons 13 false (.cons 21 false (.cons 22 false (.cons 23 false (.nil))))))))))))) (by kernel_rfl) fQXF_panic (by kernel_rfl) ?_ ?_
    ·exact byP (fc prF (fc i0 (fc i1 (fc r0 r1')))) True.intro
    refine sw_run 200 _ _ _ (byP (fc prF (fc i0 (fc i1 (fc r0 (fc r1' (fc hs (fc hin (fc Tryz.ntmps205 Tryz.results205)))))))) ?_)
    refine sw_callDPB (cap:=[]) (hW) rfl rfl rfl (byQ True.intro) ?_
    refine sw_run 200 _ _ _ (byP (fc hs hin) ?_)
    refine sw_callDXR (hX k2 hk2 r2) rfl rfl rfl (byP (drZ zs) True.intro) (byP (drZ zs) True.intro) (byP (drZ zs) True.intro) rfl ?_
    rintro ⟨x,k3,r3⟩ ⟨hx,hk3⟩
    simp only at hx hk3
    refine sw_run 200 _ _ _ (byP (drZ zs) ?_)
    refine sw_callDPB (cap:=[]) (con_lamZ s t.args[0]! x (by omega) (by omega)) rfl rfl rfl (byP (tmC_eq) True.intro) ?_
    refine sw_run 200 _ _ _ (byP (fc (drZ zs) (fc tmF (fc mkF (fc Tryz.ntmps205 Tryz.results205)))) ?_)
    refine ⟨.inl rfl,(tLam s t.args[0]! x,k3,r3),⟨?_,hk3⟩, ?_⟩
    ·show szL (tmC _)≤_
     rw [sz_lam]
     omega
    refine byP (fc (drZ zs) (fc tmF (fc mkF (fc Tryz.ntmps205 Tryz.results205)))) ?_
    repeat' (with_reducible apply And.intro)
    all_goals first | exact True.intro | rfl
   ·obtain ⟨hk,hl,hf0,hsz⟩:=g
    have i0:(0:Int)<(t.args.length:Int):=by omega
    have r0:=tysC_row' t.args 0 (by omega)
    have hza:tsz t=1+tsz t.args[0]! := hsz
    have ga:=gsz_m (show tsz t.args[0]! ≤ tsz t by omega) (d+1)
    have n1:inI (n+1):=by unfold inI;omega
    have hIB:=con_IsBase t.args[0]!
    rw [tyC_eq] at hIB
    have hX:=fun i hi h=>hG ctx t.args[0]! n i h hc1 hf0 (by omega) hn0 (by omega) hi
    have hY:=fun i hi h=>hG ctx t.args[0]! (n+1) i h hc1 hf0 (by omega) (by omega) (by omega) hi
    generalize isBaseT t.args[0]! = bb at *
    refine sw_run 200 _ _ _ (byP (fc (drZ zs) (fc hk (fc i0 (fc r0 (fc Tryz.ntmps205 Tryz.results205))))) ?_)
    refine sw_call (hIB) rfl (aAs_ok (byQ True.intro)) (byQ True.intro) ?_
    cases bb
    ·refine sw_run 200 _ _ _ (byP (fc i0 (fc r0 (fc n1 (fc hs hin)))) ?_)
     refine sw_callXR (hY k1 hk1' r1) rfl rfl rfl (byP (drZ zs) True.intro) (byP (drZ zs) True.intro) (byP (drZ zs) True.intro) ?_
     rintro ⟨x,k2,r2⟩ ⟨hx,hk2⟩
     simp only at hx hk2
     refine sw_run 200 _ _ _ (byP (drZ zs) ?_)
     refine sw_fzE 3 rfl ?_
     refine byQ ?_
     refine sw_callPR (con_node1 10 x (by omega)) rfl rfl rfl (byQ True.intro) (byQ True.intro) (byQ True.intro) ?_
     refine sw_run 200 _ _ _ (byP (fc (drZ zs) (fc tmF (fc mkF (fc Tryz.ntmps205 Tryz.results205)))) ?_)
     refine ⟨.inl rfl,(tNode 10 [x],k2,r2),⟨?_,hk2⟩, ?_⟩
     ·show szL (tmC _)≤_
      rw [sz_node]
      rw [tmL1]
      simp only [List.length_cons,List.length_nil]
      omega
     refine byP (fc (drZ zs) (fc tmF (fc mkF (fc Tryz.ntmps205 Tryz.results205)))) ?_
     repeat' (with_reducible apply And.intro)
     all_goals first | exact True.intro | rfl
    ·refine sw_run 200 _ _ _ (byP (fc i0 r0) ?_)
     refine sw_callXR (hO4 k1 hk1' r1) rfl rfl rfl (byP (drZ zs) True.intro) (byP (drZ zs) True.intro) (byP (drZ zs) True.intro) ?_
     rintro ⟨b3,k4,r4⟩ hk4
     have hk4':k4≤zs.length:=hk4
     cases b3
     ·refine sw_run 200 _ _ _ (byP (fc (drZ zs) (fc i0 (fc r0 (fc n1 (fc hs hin))))) ?_)
      refine sw_callXR (hY k4 hk4' r4) rfl rfl rfl (byP (drZ zs) True.intro) (byP (drZ zs) True.intro) (byP (drZ zs) True.intro) ?_
      rintro ⟨x,k2,r2⟩ ⟨hx,hk2⟩
      simp only at hx hk2
      refine sw_run 200 _ _ _ (byP (drZ zs) ?_)
      refine sw_fzE 3 rfl ?_
      refine byQ ?_
      refine sw_callPR (con_node1 10 x (by omega)) rfl rfl rfl (byQ True.intro) (byQ True.intro) (byQ True.intro) ?_
      refine sw_run 200 _ _ _ (byP (fc (drZ zs) (fc tmF (fc mkF (fc Tryz.ntmps205 Tryz.results205)))) ?_)
      refine ⟨.inl rfl,(tNode 10 [x],k2,r2),⟨?_,hk2⟩, ?_⟩
      ·show szL (tmC _)≤_
       rw [sz_node]
       rw [tmL1]
       simp only [List.length_cons,List.length_nil]
       omega
      refine byP (fc (drZ zs) (fc tmF (fc mkF (fc Tryz.ntmps205 Tryz.results205)))) ?_
      repeat' (with_reducible apply And.intro)
      all_goals first | exact True.intro | rfl
     ·refine sw_run 200 _ _ _ (byP (fc (drZ zs) (fc i0 (fc r0 (fc n1 (fc hs hin))))) ?_)
      refine sw_callXR (hX k4 hk4' r4) rfl rfl rfl (byP (drZ zs) True.intro) (byP (drZ zs) True.intro) (byP (drZ zs) True.intro) ?_
      rintro ⟨x,k2,r2⟩ ⟨hx,hk2⟩
      simp only at hx hk2
      refine sw_run 200 _ _ _ (byP (drZ zs) ?_)
      refine sw_fzE 3 rfl ?_
      refine byQ ?_
      refine sw_callPR (con_node1 13 x (by omega)) rfl rfl rfl (byQ True.intro) (byQ True.intro) (byQ True.intro) ?_
      refine sw_run 200 _ _ _ (byP (fc (drZ zs) (fc tmF (fc mkF (fc Tryz.ntmps205 Tryz.results205)))) ?_)
      refine ⟨.inl rfl,(tNode 13 [x],k2,r2),⟨?_,hk2⟩, ?_⟩
      ·show szL (tmC _)≤_
       rw [sz_node]
       rw [tmL1]
       simp only [List.length_cons,List.length_nil]
       omega
      refine byP (fc (drZ zs) (fc tmF (fc mkF (fc Tryz.ntmps205 Tryz.results205)))) ?_
      repeat' (with_reducible apply And.intro)
      all_goals first | exact True.intro | rfl
  ·refine sw_run 200 _ _ _ (byP (fc (drZ zs) (fc Tryz.ntmps205 Tryz.results205)) ?_)
   refine sw_callXR (hAny k1 hk1' r1) rfl rfl rfl (byP (drZ zs) True.intro) (byP (drZ zs) True.intro) (byP (drZ zs) True.intro) ?_
   rintro ⟨x,k2,r2⟩ ⟨hx,hk2⟩
   simp only at hx hk2
   refine sw_run 200 _ _ _ (byP (fc (drZ zs) (fc Tryz.ntmps205 Tryz.results205)) ?_)
   refine ⟨.inl rfl,(x,k2,r2),⟨by show szL (tmC x)≤_;omega,hk2⟩, ?_⟩
   refine byP (fc (drZ zs) (fc tmF (fc mkF (fc Tryz.ntmps205 Tryz.results205)))) ?_
   repeat' (with_reducible apply And.intro)
   all_goals first | exact True.intro | rfl
theorem con_gen (zs : List Int) (hz : BytOk zs) : ∀ d : Nat, d ≤ 6 → GenC zs d
  | 0, _ => fun ctx t n i h hc hf ht hn0 hn hi => con_gen0 zs hz 0 (by decide) 0 ctx t n i h hc hf ht hn0 hn hi
  | 1, _ => fun ctx t n i h hc hf ht hn0 hn hi => con_gen0 zs hz 1 (by decide) 1 ctx t n i h (hc.mono (by omega)) hf ht hn0 hn hi
  | d + 2, hd => fun ctx t n i h hc hf ht hn0 hn hi => by
    have := con_genS zs hz d (by omega) (con_gen zs hz (d + 1) (by omega)) ctx t n i h (hc.mono (by omega)) hf ht hn0 (by omega) hi
    exact this
end Go.Proofs.YtaidalilfmjfgaaGreat
