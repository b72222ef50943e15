import Derived.Test.YtaidalilfmjfgaaGreatCpP
namespace Go.Proofs.YtaidalilfmjfgaaGreat
open Go.RowKit
set_option linter.unusedVariables false
set_option linter.unusedSimpArgs false
set_option maxRecDepth 20000
theorem row9 (a b c d e f g h i:D):rowAt 9 [a,b,c,d,e,f,g,h,i] 0=[a,b,c,d,e,f,g,h,i]:=rfl
def CpI (e:Tm):Prop:=∀ names s,Room e names s→plT e=true→Cov names e→ConP Tryz.prog 58 [.p (csP 96 s),.b (.one (strsD names)),.b (.ag (tmC e))] [csP 96 (cpT e names s)] []
theorem con_cp7 (e:Tm) (ih:∀ x ∈ e.args,CpI x) (names:List ByteArray) (s:CS) (hr:Room e names s) (hp:plT e=true) (hc:Cov names e) (hk:e.kind=7):ConP Tryz.prog 58 [.p (csP 96 s),.b (.one (strsD names)),.b (.ag (tmC e))] [csP 96 (cpT e names s)] []:=by
 obtain ⟨hz,h1,h2,h3⟩:=hr
 obtain ⟨_,k5,k6,k7,k8,k9⟩:=pl_kind hp
 have hpa:=pl_args hp
 have hl:=k7 hk
 have hs:=sz2 hl
 have hT:cpT e names s=putC (cpT e.args[1]! names (cpT e.args[0]! names s)) 9 0:=by
  rw [cpT_eq,cpF,if_neg (by omega),if_neg (by omega),if_neg (by omega),if_neg (by omega),if_neg (by omega),if_neg (by omega),if_neg (by omega),if_pos hk,map_bang cpT (by omega),map_bang cpT (by omega)]
 have i0:(0:Int)<(e.args.length:Int):=by omega
 have m0:=mem_bang (show 0<e.args.length by omega)
 have r0:=tmsC_row' e.args 0 (by omega)
 have g0:=cp_gr 10000000 e.args[0]! (by omega) names s (hpa _ m0) (cov_same hc (.inr (.inr hk)) (by omega)) (by (try simp only [List.length_append,List.length_cons,List.length_nil]);omega)
 have q0:=g0.code;have p0:=g0.q
 have c0:=ih _ m0 names s ⟨by omega,by (try simp only [List.length_append,List.length_cons,List.length_nil]);omega,by omega,by omega⟩ (hpa _ m0) (cov_same hc (.inr (.inr hk)) (by omega))
 obtain ⟨s1,e0⟩:∃ s1,s1=cpT e.args[0]! names s:=⟨_,rfl⟩
 rw [← e0] at q0 p0 c0
 simp only [strsD,csP_eq] at c0
 have i1:(1:Int)<(e.args.length:Int):=by omega
 have m1:=mem_bang (show 1<e.args.length by omega)
 have r1:=tmsC_row' e.args 1 (by omega)
 have g1:=cp_gr 10000000 e.args[1]! (by omega) names s1 (hpa _ m1) (cov_same hc (.inr (.inr hk)) (by omega)) (by (try simp only [List.length_append,List.length_cons,List.length_nil]);omega)
 have q1:=g1.code;have p1:=g1.q
 have c1:=ih _ m1 names s1 ⟨by omega,by (try simp only [List.length_append,List.length_cons,List.length_nil]);omega,by omega,by omega⟩ (hpa _ m1) (cov_same hc (.inr (.inr hk)) (by omega))
 obtain ⟨s2,e1⟩:∃ s2,s2=cpT e.args[1]! names s1:=⟨_,rfl⟩
 rw [← e1] at q1 p1 c1
 simp only [strsD,csP_eq] at c1
 have hP:=con_putC s2 9 0 (by omega)
 rw [hT,← e0,← e1]
 simp only [csP_eq,putC_q]
 refine con_runP Tryz.func58 rfl rfl (by simp [Tryz.ntmps58]) rfl ?_
 simp only [push_cast,s0P,mkPs,mkPA,mkC,↓reduceIte,Nat.reduceLT,Nat.reduceAdd,Nat.reduceEqDiff,reduceCtorEq,Int.reduceEq,tmC_eq,hk,i0,r0,Tryz.ntmps58]
 refine sw_callPR (c0) rfl rfl rfl ?_ ?_ ?_ (sw_run 200 _ _ _ ?_)
 ·simp only [push_cast,mPs,mP,rCs,rC,aA,aDs,aD,AS.em,↓reduceIte,Nat.reduceEqDiff,reduceCtorEq,tmC_eq]
 ·simp only [push_cast,eCs,eC,ePs,eP,↓reduceIte,Nat.reduceEqDiff,reduceCtorEq,tmC_eq]
 ·simp only [push_cast,bPs,bP,↓reduceIte,Nat.reduceEqDiff,tmC_eq]
 simp only [push_cast,mkC,eC,eCs,aftS,aftV,AS.kb,rmBs,rmB,mkO,packRA,flatR,ePs,eP,bPs,bP,↓reduceIte,Nat.reduceLT,Nat.reduceAdd,Nat.reduceEqDiff,reduceCtorEq,Int.reduceLE,tmC_eq,i1,r1]
 refine sw_callPR (c1) rfl rfl rfl ?_ ?_ ?_ (sw_run 200 _ _ _ ?_)
 ·simp only [push_cast,mPs,mP,rCs,rC,aA,aDs,aD,AS.em,↓reduceIte,Nat.reduceEqDiff,tmC_eq]
 ·simp only [push_cast,eCs,eC,ePs,eP,↓reduceIte,Nat.reduceEqDiff,tmC_eq]
 ·simp only [push_cast,bPs,bP,↓reduceIte,Nat.reduceEqDiff,tmC_eq]
 simp only [push_cast,mkC,eC,eCs,aftS,aftV,AS.kb,rmBs,rmB,mkO,packRA,flatR,ePs,eP,bPs,bP,↓reduceIte,Nat.reduceLT,Nat.reduceAdd,Nat.reduceEqDiff,reduceCtorEq,tmC_eq]
 refine sw_callV (hP) rfl rfl rfl rfl rfl (by decide) ?_ (sw_run 200 _ _ _ ?_)
 ·simp only [push_cast,AS.kb,rmBs,rmB,mPs,mP,aA,aD,↓reduceIte,Nat.reduceEqDiff]
 simp only [push_cast,fQP,xRetP,rRs,rOs,rC,rCs,eRs,eOs,eC,eCs,AS.kb,rmBs,rmB,↓reduceIte,Nat.reduceLT,Nat.reduceAdd,Nat.reduceEqDiff,reduceCtorEq,aftV2,Tryz.results58]
theorem con_cp5 (e:Tm) (ih:∀ x ∈ e.args,CpI x) (names:List ByteArray) (s:CS) (hr:Room e names s) (hp:plT e=true) (hc:Cov names e) (hk:e.kind=5):ConP Tryz.prog 58 [.p (csP 96 s),.b (.one (strsD names)),.b (.ag (tmC e))] [csP 96 (cpT e names s)] []:=by
 obtain ⟨hz,h1,h2,h3⟩:=hr
 obtain ⟨_,k5,k6,k7,k8,k9⟩:=pl_kind hp
 have hpa:=pl_args hp
 have hl:=k5 hk
 have hs:=sz3 hl
 have i0:(0:Int)<(e.args.length:Int):=by omega
 have m0:=mem_bang (show 0<e.args.length by omega)
 have r0:=tmsC_row' e.args 0 (by omega)
 have g0:=cp_gr 10000000 e.args[0]! (by omega) names s (hpa _ m0) (cov_same hc (.inr (.inl hk)) (by omega)) (by (try simp only [List.length_append,List.length_cons,List.length_nil]);omega)
 have q0:=g0.code;have p0:=g0.q
 have c0:=ih _ m0 names s ⟨by omega,by (try simp only [List.length_append,List.length_cons,List.length_nil]);omega,by omega,by omega⟩ (hpa _ m0) (cov_same hc (.inr (.inl hk)) (by omega))
 obtain ⟨s1,e0⟩:∃ s1,s1=cpT e.args[0]! names s:=⟨_,rfl⟩
 rw [← e0] at q0 p0 c0
 simp only [strsD,csP_eq] at c0
 have i1:(1:Int)<(e.args.length:Int):=by omega
 have m1:=mem_bang (show 1<e.args.length by omega)
 have r1:=tmsC_row' e.args 1 (by omega)
 have l1:=putC_len s1 6 0
 have l1q:(putC s1 6 0).q.length=s1.q.length:=rfl
 have g1:=cp_gr 10000000 e.args[1]! (by omega) names (putC s1 6 0) (hpa _ m1) (cov_same hc (.inr (.inl hk)) (by omega)) (by (try simp only [List.length_append,List.length_cons,List.length_nil]);omega)
 have q1:=g1.code;have p1:=g1.q
 have c1:=ih _ m1 names (putC s1 6 0) ⟨by omega,by (try simp only [List.length_append,List.length_cons,List.length_nil]);omega,by omega,by omega⟩ (hpa _ m1) (cov_same hc (.inr (.inl hk)) (by omega))
 obtain ⟨s2,e1⟩:∃ s2,s2=cpT e.args[1]! names (putC s1 6 0):=⟨_,rfl⟩
 rw [← e1] at q1 p1 c1
 simp only [strsD,csP_eq,putC_q] at c1
 have i2:(2:Int)<(e.args.length:Int):=by omega
 have m2:=mem_bang (show 2<e.args.length by omega)
 have r2:=tmsC_row' e.args 2 (by omega)
 have l2:=putC_len s2 5 0
 have l2q:(putC s2 5 0).q.length=s2.q.length:=rfl
 have l3:=setA_len (putC s2 5 0) s1.code.length (putC s2 5 0).code.length
 have l3q:(setA (putC s2 5 0) s1.code.length (putC s2 5 0).code.length).q.length=(putC s2 5 0).q.length:=rfl
 have g2:=cp_gr 10000000 e.args[2]! (by omega) names (setA (putC s2 5 0) s1.code.length (putC s2 5 0).code.length) (hpa _ m2) (cov_same hc (.inr (.inl hk)) (by omega)) (by (try simp only [List.length_append,List.length_cons,List.length_nil]);omega)
 have q2:=g2.code;have p2:=g2.q
 have c2:=ih _ m2 names (setA (putC s2 5 0) s1.code.length (putC s2 5 0).code.length) ⟨by omega,by (try simp only [List.length_append,List.length_cons,List.length_nil]);omega,by omega,by omega⟩ (hpa _ m2) (cov_same hc (.inr (.inl hk)) (by omega))
 obtain ⟨s3,e2⟩:∃ s3,s3=cpT e.args[2]! names (setA (putC s2 5 0) s1.code.length (putC s2 5 0).code.length):=⟨_,rfl⟩
 rw [← e2] at q2 p2 c2
 simp only [strsD,csP_eq,putC_q,setA_q,setA_len] at c2
 have hT:cpT e names s=setA s3 s2.code.length s3.code.length:=by
  rw [cpT_eq,cpF,if_neg (by omega),if_neg (by omega),if_neg (by omega),if_neg (by omega),if_pos hk,ifF,map_bang cpT (by omega),map_bang cpT (by omega),map_bang cpT (by omega),← e0,← e1,← e2]
 have hP1:=con_putC s1 6 0 (by omega)
 have hP2:=con_putC s2 5 0 (by omega)
 have b1:(s1.code.length:Int)<((putC s2 5 0).code.length:Int):=by omega
 have b2:(s2.code.length:Int)<(s3.code.length:Int):=by omega
 have w1:=set_code (putC s2 5 0) s1.code.length (putC s2 5 0).code.length (by omega)
 have w2:=set_code s3 s2.code.length s3.code.length (by omega)
 rw [hT]
 simp only [csP_eq,setA_q,setA_len]
 refine con_runP Tryz.func58 rfl rfl (by simp [Tryz.ntmps58]) rfl ?_
 simp only [push_cast,s0P,mkPs,mkPA,mkC,↓reduceIte,Nat.reduceLT,Nat.reduceAdd,Nat.reduceEqDiff,reduceCtorEq,Int.reduceEq,tmC_eq,hk,i0,r0,Tryz.ntmps58]
 refine sw_callPR (c0) rfl rfl rfl ?_ ?_ ?_ (sw_run 200 _ _ _ ?_)
 ·simp only [push_cast,mPs,mP,rCs,rC,aA,aDs,aD,AS.em,↓reduceIte,Nat.reduceEqDiff,reduceCtorEq,tmC_eq]
 ·simp only [push_cast,eCs,eC,ePs,eP,↓reduceIte,Nat.reduceEqDiff,reduceCtorEq,tmC_eq]
 ·simp only [push_cast,bPs,bP,↓reduceIte,Nat.reduceEqDiff,tmC_eq]
 simp only [push_cast,mkC,eC,eCs,aftS,aftV,AS.kb,rmBs,rmB,mkO,packRA,flatR,ePs,eP,bPs,bP,↓reduceIte,Nat.reduceLT,Nat.reduceAdd,Nat.reduceEqDiff,reduceCtorEq,tmC_eq]
 refine sw_callV (hP1) rfl rfl rfl rfl rfl (by decide) ?_ (sw_run 200 _ _ _ ?_)
 ·simp only [push_cast,AS.kb,rmBs,rmB,mPs,mP,aA,aD,↓reduceIte,Nat.reduceEqDiff]
 simp only [push_cast,AS.kb,rmBs,rmB,↓reduceIte,Nat.reduceLT,Nat.reduceAdd,Nat.reduceEqDiff,reduceCtorEq,Int.reduceLE,aftV2,tmC_eq,i1,r1]
 refine sw_callPR (c1) rfl rfl rfl ?_ ?_ ?_ (sw_run 200 _ _ _ ?_)
 ·simp only [push_cast,mPs,mP,rCs,rC,aA,aDs,aD,AS.em,↓reduceIte,Nat.reduceEqDiff,tmC_eq]
 ·simp only [push_cast,eCs,eC,ePs,eP,↓reduceIte,Nat.reduceEqDiff,tmC_eq]
 ·simp only [push_cast,bPs,bP,↓reduceIte,Nat.reduceEqDiff,tmC_eq]
 simp only [push_cast,mkC,eC,eCs,aftS,aftV,AS.kb,rmBs,rmB,mkO,packRA,flatR,ePs,eP,bPs,bP,↓reduceIte,Nat.reduceLT,Nat.reduceAdd,Nat.reduceEqDiff,reduceCtorEq,tmC_eq]
 refine sw_callV (hP2) rfl rfl rfl rfl rfl (by decide) ?_ (sw_run 200 _ _ _ ?_)
 ·simp only [push_cast,AS.kb,rmBs,rmB,mPs,mP,aA,aD,↓reduceIte,Nat.reduceEqDiff]
 simp only [push_cast,AS.kb,rmBs,rmB,↓reduceIte,Nat.reduceLT,Nat.reduceAdd,Nat.reduceEqDiff,aftV2]
 refine sw_drawn (.cons 0 true (.cons 1 true (.cons 2 true (.cons 3 true (.cons 4 true (.cons 5 true (.cons 6 true (.cons 7 true (.cons 8 true (.cons 9 true (.cons 10 true (.cons 11 true (.cons 12 false (.nil)))))))))))))) (by kernel_rfl) fQP_panic (by kernel_rfl) (sw_run 200 _ _ _ ?_)
 simp only [push_cast,↓reduceIte,Nat.reduceLT,Nat.reduceAdd,Nat.reduceEqDiff,reduceCtorEq,Int.reduceLE,Int.reduceToNat,tmC_eq,i2,r2,b1,w1]
 refine sw_callPR (c2) rfl rfl rfl ?_ ?_ ?_ (sw_run 200 _ _ _ ?_)
 ·simp only [push_cast,mPs,mP,rCs,rC,aA,aDs,aD,AS.em,↓reduceIte,Nat.reduceEqDiff,tmC_eq]
 ·simp only [push_cast,eCs,eC,ePs,eP,↓reduceIte,Nat.reduceEqDiff,tmC_eq]
 ·simp only [push_cast,bPs,bP,↓reduceIte,Nat.reduceEqDiff,tmC_eq]
 simp only [push_cast,mkC,eC,eCs,aftS,aftV,AS.kb,rmBs,rmB,mkO,packRA,flatR,ePs,eP,bPs,bP,↓reduceIte,Nat.reduceLT,Nat.reduceAdd,Nat.reduceEqDiff,tmC_eq]
 refine sw_drawn (.cons 0 true (.cons 1 true (.cons 2 true (.cons 3 true (.cons 4 true (.cons 5 true (.cons 6 true (.cons 7 true (.cons 8 true (.cons 9 true (.cons 10 true (.cons 11 true (.cons 12 false (.nil)))))))))))))) (by kernel_rfl) fQP_panic (by kernel_rfl) (sw_run 200 _ _ _ ?_)
 simp only [push_cast,fQP,xRetP,rRs,rOs,rC,rCs,eRs,eOs,eC,eCs,↓reduceIte,Nat.reduceLT,Nat.reduceAdd,Nat.reduceEqDiff,reduceCtorEq,b2,w2,Tryz.results58]
theorem con_cp4 (e : Tm) (ih : ∀ x ∈ e.args, CpI x) (names : List ByteArray) (s : CS) (hr : Room e names s) (hp : plT e = true) (hc : Cov names e) (hk : e.kind = 4) : ConP Tryz.prog 58 [.p (csP 96 s), .b (.one (strsD names)), .b (.ag (tmC e))] [csP 96 (cpT e names s)] [] := by
  obtain ⟨hz, h1, h2, h3⟩ := hr
  obtain ⟨_, k5, k6, k7, k8, k9⟩ := pl_kind hp
  have hpa := pl_args hp
  have hT : cpT e names s = putC (allF ((e.args.take e.args.length).map cpT) names s) 4 (fi e.name opsL 0 + 1) := by
    rw [cpT_eq, cpF, if_neg (by omega), if_neg (by omega), if_neg (by omega), if_pos hk, List.take_length]
  have hO := con_onI e.name
  have key : ∀ k, k ≤ e.args.length → (allF ((e.args.take k).map cpT) names s).code.length ≤ s.code.length + 2 * (k + szL (tmsC (e.args.take k))) ∧ (allF ((e.args.take k).map cpT) names s).q.length ≤ s.q.length + 2 * (k + szL (tmsC (e.args.take k))) := by
    intro k
    induction k with
    | zero => intro _; exact ⟨Nat.le_add_right _ _, Nat.le_add_right _ _⟩
    | succ k ihk =>
      intro hk'
      have a1 := ihk (by omega)
      have a2 := szK (e := e) (k := k) (by omega)
      have a3 := cp_gr 10000000 e.args[k]! (by omega) names (allF ((e.args.take k).map cpT) names s) (hpa _ (mem_bang (by omega))) (cov_same hc (.inl hk) (by omega)) (by omega)
      have a4 := a3.code; have a5 := a3.q
      rw [allF_step e names s (by omega), take_snoc e.args k (by omega), tmsC_flat, flC_app, szL_append, flC_one, ← tmsC_flat]
      omega
  have tsz : ∀ k, k ≤ e.args.length → szL (tmsC (e.args.take k)) ≤ szL (tmsC e.args) := fun k hk' => by
    have e0 : szL (tmsC e.args) = szL (tmsC (e.args.take k)) + szL (tmsC (e.args.drop k)) := by rw [tmsC_flat, tmsC_flat, tmsC_flat, ← szL_append, ← flC_app, List.take_append_drop]
    omega
  have hz9 := szL_tm e
  have hP := con_putC (allF ((e.args.take e.args.length).map cpT) names s) 4 (fi e.name opsL 0 + 1) (by have := key e.args.length (Nat.le_refl _); have := tsz e.args.length (Nat.le_refl _); omega)
  rw [hT]
  simp only [csP_eq, putC_q]
  refine con_runP Tryz.func58 rfl rfl (by simp [Tryz.ntmps58]) rfl ?_
  simp only [push_cast, s0P, mkPs, mkPA, mkC, ↓reduceIte, Nat.reduceLT, Nat.reduceAdd, Nat.reduceEqDiff, Int.reduceEq, tmC_eq, hk, Tryz.ntmps58]
  refine sw_loop (fun k : Nat => k ≤ e.args.length) (fun k => ⟨209, [(51, .i k), (50, .i e.args.length), (49, .br (.rows 9 e.args.length (tmsC e.args))), (5, .bx 3 0), (0, .bx 2 0), (1, (.br (.rows 1 names.length (names.map D.str))))], [(3, [.i 4, .s e.name, .s e.other, .i e.n, .i e.ty.kind, .br (.rows 2 e.ty.args.length (tysC e.ty.args)), .i e.res.kind, .br (.rows 2 e.res.args.length (tysC e.res.args)), .br (.rows 9 e.args.length (tmsC e.args))]), (2, [.sl 0, .sl 1])], [(1, some ⟨.rows 11 (allF ((e.args.take k).map cpT) names s).q.length (flC wtC (allF ((e.args.take k).map cpT) names s).q), some 96, false⟩), (0, some ⟨.rows 2 (allF ((e.args.take k).map cpT) names s).code.length (flC insC (allF ((e.args.take k).map cpT) names s).code), some 37, true⟩)], 4, [2]⟩) (fun k => e.args.length - k) 0 id (Nat.zero_le _) ?_ ?_
  · simp only [push_cast, Sub, subT, subB, subO, subP, inj, AV.ren, AV.rens, AV.lt, AV.lts, ↓reduceIte, Nat.reduceLT, Nat.reduceEqDiff, reduceCtorEq, allF, List.map_nil, List.foldl_nil]
  · rintro k hk0
    refine sw_run 200 _ _ _ ?_
    by_cases hlt : k < e.args.length
    · have hi : (k : Int) < (e.args.length : Int) := by omega
      have hR := tmsC_row' e.args k hlt
      have a2 := szK (e := e) (k := k) hlt
      have a3 := key k hk0
      have a4 := tsz k hk0
      have hst := allF_step e names s hlt
      have a5 := tsz (k + 1) (by omega)
      rw [take_snoc e.args k hlt, tmsC_flat, flC_app, szL_append, flC_one, ← tmsC_flat] at a5
      have c0 := ih _ (mem_bang hlt) names (allF ((e.args.take k).map cpT) names s) ⟨by omega, by omega, by omega, by omega⟩ (hpa _ (mem_bang hlt)) (cov_same hc (.inl hk) hlt)
      rw [← hst] at c0
      simp only [strsD, csP_eq] at c0
      simp only [push_cast, ↓reduceIte, Nat.reduceLT, Nat.reduceAdd, Nat.reduceEqDiff, reduceCtorEq, hi, hR, tmC_eq]
      refine sw_callPR (c0) rfl rfl rfl ?_ ?_ ?_ (sw_run 200 _ _ _ ?_)
      · simp only [push_cast, mPs, mP, rCs, rC, aA, aDs, aD, AS.em, ↓reduceIte, Nat.reduceEqDiff, reduceCtorEq, tmC_eq]
      · simp only [push_cast, eCs, eC, ePs, eP, ↓reduceIte, Nat.reduceEqDiff, reduceCtorEq, tmC_eq]
      · simp only [push_cast, bPs, bP, ↓reduceIte, Nat.reduceEqDiff, tmC_eq]
      simp only [push_cast, mkC, eC, eCs, aftS, aftV, AS.kb, rmBs, rmB, mkO, packRA, flatR, ePs, eP, bPs, bP, ↓reduceIte, Nat.reduceLT, Nat.reduceAdd, Nat.reduceEqDiff]
      refine ⟨by unfold inI; omega, k + 1, rnL [(0, 5), (1, 6)], by omega, by omega, ?_⟩
      simp only [push_cast, Sub, subT, subB, subO, subP, inj, AV.ren, AV.rens, AV.lt, AV.lts, ↓reduceIte, Nat.reduceLT, Nat.reduceEqDiff, reduceCtorEq, rnL, cast1]
    · have hi : ¬ (k : Int) < (e.args.length : Int) := by omega
      obtain rfl : k = e.args.length := by omega
      simp only [push_cast, ↓reduceIte, Nat.reduceLT, Nat.reduceEqDiff, hi]
      refine sw_run 200 _ _ _ ?_
      simp only [push_cast, ↓reduceIte, Nat.reduceLT, Nat.reduceEqDiff, reduceCtorEq]
      refine sw_call (hO) rfl (aAs_ok ?_) ?_ (sw_run 200 _ _ _ ?_)
      · simp only [push_cast, aAs, aA, aD, ↓reduceIte]
      · simp only [okR]
      simp only [push_cast, ↓reduceIte, Nat.reduceLT]
      refine sw_callV (hP) rfl rfl rfl rfl rfl (by decide) ?_ (sw_run 200 _ _ _ ?_)
      · simp only [push_cast, AS.kb, rmBs, rmB, mPs, mP, aA, aD, ↓reduceIte, Nat.reduceEqDiff]
      simp only [push_cast, fQP, xRetP, rRs, rOs, rC, rCs, eRs, eOs, eC, eCs, AS.kb, rmBs, rmB, ↓reduceIte, Nat.reduceLT, Nat.reduceAdd, Nat.reduceEqDiff, reduceCtorEq, aftV2, Tryz.results58]
theorem con_cp8 (e:Tm) (ih:∀ x ∈ e.args,CpI x) (names:List ByteArray) (s:CS) (hr:Room e names s) (hp:plT e=true) (hc:Cov names e) (hk:e.kind=8):ConP Tryz.prog 58 [.p (csP 96 s),.b (.one (strsD names)),.b (.ag (tmC e))] [csP 96 (cpT e names s)] []:=by
 obtain ⟨hz,h1,h2,h3⟩:=hr
 obtain ⟨_,k5,k6,k7,k8,k9⟩:=pl_kind hp
 have hpa:=pl_args hp
 have hl:=k8 hk
 have hs:=sz2 hl
 have hT:cpT e names s=putC (cpT e.args[1]! (names++[e.name]) (putC (cpT e.args[0]! names s) 11 0)) 12 0:=by
  rw [cpT_eq,cpF,if_neg (by omega),if_neg (by omega),if_neg (by omega),if_neg (by omega),if_neg (by omega),if_neg (by omega),if_neg (by omega),if_neg (by omega),if_pos hk,map_bang cpT (by omega),map_bang cpT (by omega)]
 have i0:(0:Int)<(e.args.length:Int):=by omega
 have m0:=mem_bang (show 0<e.args.length by omega)
 have r0:=tmsC_row' e.args 0 (by omega)
 have g0:=cp_gr 10000000 e.args[0]! (by omega) names s (hpa _ m0) (cov_let0 hc hk hl) (by (try simp only [List.length_append,List.length_cons,List.length_nil]);omega)
 have q0:=g0.code;have p0:=g0.q
 have c0:=ih _ m0 names s ⟨by omega,by (try simp only [List.length_append,List.length_cons,List.length_nil]);omega,by omega,by omega⟩ (hpa _ m0) (cov_let0 hc hk hl)
 obtain ⟨s1,e0⟩:∃ s1,s1=cpT e.args[0]! names s:=⟨_,rfl⟩
 rw [← e0] at q0 p0 c0
 simp only [strsD,csP_eq] at c0
 have i1:(1:Int)<(e.args.length:Int):=by omega
 have m1:=mem_bang (show 1<e.args.length by omega)
 have r1:=tmsC_row' e.args 1 (by omega)
 have l1:=putC_len s1 11 0
 have l1q:(putC s1 11 0).q.length=s1.q.length:=rfl
 have g1:=cp_gr 10000000 e.args[1]! (by omega) (names++[e.name]) (putC s1 11 0) (hpa _ m1) (cov_let1 hc hk hl) (by (try simp only [List.length_append,List.length_cons,List.length_nil]);omega)
 have q1:=g1.code;have p1:=g1.q
 have c1:=ih _ m1 (names++[e.name]) (putC s1 11 0) ⟨by omega,by (try simp only [List.length_append,List.length_cons,List.length_nil]);omega,by omega,by omega⟩ (hpa _ m1) (cov_let1 hc hk hl)
 obtain ⟨s2,e1⟩:∃ s2,s2=cpT e.args[1]! (names++[e.name]) (putC s1 11 0):=⟨_,rfl⟩
 rw [← e1] at q1 p1 c1
 simp only [strsD,csP_eq,putC_q] at c1
 have hP1:=con_putC s1 11 0 (by omega)
 have hP2:=con_putC s2 12 0 (by omega)
 have hN:=con_CloneN names (by omega)
 simp only [List.length_append,List.length_cons,List.length_nil,List.map_append,List.map_cons,List.map_nil] at c1
 rw [hT,← e0,← e1]
 simp only [csP_eq,putC_q]
 refine con_runP Tryz.func58 rfl rfl (by simp [Tryz.ntmps58]) rfl ?_
 simp only [push_cast,s0P,mkPs,mkPA,mkC,↓reduceIte,Nat.reduceLT,Nat.reduceAdd,Nat.reduceEqDiff,reduceCtorEq,Int.reduceEq,tmC_eq,hk,i0,r0,Tryz.ntmps58]
 refine sw_callPR (c0) rfl rfl rfl ?_ ?_ ?_ (sw_run 200 _ _ _ ?_)
 ·simp only [push_cast,mPs,mP,rCs,rC,aA,aDs,aD,AS.em,↓reduceIte,Nat.reduceEqDiff,reduceCtorEq,tmC_eq]
 ·simp only [push_cast,eCs,eC,ePs,eP,↓reduceIte,Nat.reduceEqDiff,reduceCtorEq,tmC_eq]
 ·simp only [push_cast,bPs,bP,↓reduceIte,Nat.reduceEqDiff,tmC_eq]
 simp only [push_cast,mkC,eC,eCs,aftS,aftV,AS.kb,rmBs,rmB,mkO,packRA,flatR,ePs,eP,bPs,bP,↓reduceIte,Nat.reduceLT,Nat.reduceAdd,Nat.reduceEqDiff,reduceCtorEq,tmC_eq]
 refine sw_callV (hP1) rfl rfl rfl rfl rfl (by decide) ?_ (sw_run 200 _ _ _ ?_)
 ·simp only [push_cast,AS.kb,rmBs,rmB,mPs,mP,aA,aD,↓reduceIte,Nat.reduceEqDiff]
 simp only [push_cast,AS.kb,rmBs,rmB,↓reduceIte,Nat.reduceLT,Nat.reduceAdd,Nat.reduceEqDiff,aftV2]
 refine sw_fzB 3 rfl rfl ?_
 refine sw_drawnS [3,4,7,8,9,10] (.cons 0 true (.cons 1 true (.fork (.alt 2 (.cons 5 false (.cons 6 false (.cons 11 false (.nil)))) (.alt 5 (.cons 2 false (.cons 6 false (.cons 11 false (.nil)))) (.last)))))) (by kernel_rfl) fQP_panic (by kernel_rfl) ?_ (sw_run 200 _ _ _ ?_)
 ·simp only [push_cast,rmB,↓reduceIte,Nat.reduceLT,Nat.reduceAdd,Nat.reduceEqDiff,Int.reduceLE,preC,stbO,AS.fzb,fzbT,AV.fzb,rmB,row9,tmC_eq,i1,r1]
 simp only [push_cast,rmB,↓reduceIte,Nat.reduceLT,Nat.reduceAdd,Nat.reduceLeDiff,Nat.reduceEqDiff,reduceCtorEq,Int.reduceLE,preS,AS.fzb,fzbT,AV.fzb,rmB,row9,tmC_eq,i1,r1]
 refine ⟨?_, ?_⟩
 all_goals
  refine sw_callDPB (cap:=[]) (hN) rfl rfl rfl ?_ (sw_run 200 _ _ _ ?_)
  ·simp only [push_cast,AS.em,mPs,mP,aA,aD,↓reduceIte,Nat.reduceEqDiff]
  simp only [push_cast,mkC,aftS,aftV,AS.kb,rmBs,mkO,packRA,flatR,↓reduceIte,Nat.reduceLT,Nat.reduceAdd,Nat.reduceLeDiff,Nat.reduceEqDiff,reduceCtorEq]
  refine ⟨⟨fun _ d hd=>by rw [hd];rfl,fun o ho=>by omega,by unfold maxLen;omega,by omega⟩, ?_⟩
  refine sw_fzG 9 rfl ?_
  simp only [push_cast,AS.fz,fzT,fzB,AV.fz,AV.fzs,↓reduceIte,Nat.reduceEqDiff]
  refine sw_callDPR (cap:=[]) (c1) rfl rfl rfl ?_ ?_ ?_ rfl (sw_run 200 _ _ _ ?_)
  ·simp only [push_cast,rC,rCs,AS.em,mPs,mP,aA,aDs,aD,↓reduceIte,Nat.reduceEqDiff,tmC_eq]
  ·simp only [push_cast,eC,eCs,ePs,eP,↓reduceIte,Nat.reduceEqDiff,tmC_eq]
  ·simp only [push_cast,bPs,bP,↓reduceIte,Nat.reduceEqDiff,tmC_eq]
  simp only [push_cast,mkC,eC,eCs,aftS,aftV,AS.kb,rmBs,rmB,mkO,packRA,flatR,ePs,eP,bPs,bP,↓reduceIte,Nat.reduceLT,Nat.reduceAdd,Nat.reduceEqDiff,reduceCtorEq,tmC_eq]
  refine sw_callV (hP2) rfl rfl rfl rfl rfl (by decide) ?_ (sw_run 200 _ _ _ ?_)
  ·simp only [push_cast,AS.kb,rmBs,rmB,mPs,mP,aA,aD,↓reduceIte]
  simp only [push_cast,fQP,xRetP,rRs,rOs,rC,rCs,eRs,eOs,eC,eCs,AS.kb,rmBs,rmB,↓reduceIte,Nat.reduceLT,Nat.reduceAdd,Nat.reduceEqDiff,reduceCtorEq,aftV2,Tryz.results58]
theorem con_cp6 (e:Tm) (ih:∀ x ∈ e.args,CpI x) (names:List ByteArray) (s:CS) (hr:Room e names s) (hp:plT e=true) (hc:Cov names e) (hk:e.kind=6):ConP Tryz.prog 58 [.p (csP 96 s),.b (.one (strsD names)),.b (.ag (tmC e))] [csP 96 (cpT e names s)] []:=by
 obtain ⟨hz,h1,h2,h3⟩:=hr
 obtain ⟨_,k5,k6,k7,k8,k9⟩:=pl_kind hp
 have hpa:=pl_args hp
 have hl:=k6 hk
 have hs:=sz1 hl
 have i0:(0:Int)<(e.args.length:Int):=by omega
 have r0:=tmsC_row' e.args 0 (by omega)
 have hT:cpT e names s=addQ (putC s 7 0) ⟨s.code.length,names++[e.name],e.args[0]!⟩:=by
  rw [cpT_eq,cpF,if_neg (by omega),if_neg (by omega),if_neg (by omega),if_neg (by omega),if_neg (by omega),if_pos hk]
 have hP1:=con_putC s 7 0 (by omega)
 have hN:=con_CloneN names (by omega)
 have hW:flC wtC (s.q++[⟨s.code.length,names++[e.name],e.args[0]!⟩])=flC wtC s.q++wtC ⟨s.code.length,names++[e.name],e.args[0]!⟩:=by rw [flC_app,flC_one]
 rw [hT]
 simp only [csP_eq,putC_q,addQ_q,addQ_code,hW,wtC,List.length_append,List.length_cons,List.length_nil,List.map_append,List.map_cons,List.map_nil,Nat.zero_add]
 refine con_runP Tryz.func58 rfl rfl (by simp [Tryz.ntmps58]) rfl ?_
 simp only [push_cast,s0P,mkPs,mkPA,mkC,↓reduceIte,Nat.reduceLT,Nat.reduceAdd,Nat.reduceEqDiff,Int.reduceEq,tmC_eq,hk,Tryz.ntmps58]
 refine sw_fzB 3 rfl rfl ?_
 refine sw_drawnS [9,10,13,14,15,16] (.cons 0 true (.cons 1 true (.cons 2 true (.cons 3 true (.cons 5 true (.cons 7 true (.fork (.alt 4 (.fork (.alt 6 (.fork (.alt 8 (.cons 11 false (.cons 12 false (.cons 17 true (.cons 18 false (.cons 19 false (.cons 20 true (.cons 21 true (.cons 22 false (.nil))))))))) (.alt 11 (.cons 8 false (.cons 12 false (.cons 17 true (.cons 18 false (.cons 19 false (.cons 20 true (.cons 21 true (.cons 22 false (.nil))))))))) (.last)))) (.alt 11 (.cons 6 false (.cons 8 false (.cons 12 false (.cons 17 true (.cons 18 false (.cons 19 false (.cons 20 true (.cons 21 true (.cons 22 false (.nil)))))))))) (.last)))) (.alt 6 (.fork (.alt 4 (.fork (.alt 8 (.cons 11 false (.cons 12 false (.cons 17 true (.cons 18 false (.cons 19 false (.cons 20 true (.cons 21 true (.cons 22 false (.nil))))))))) (.alt 11 (.cons 8 false (.cons 12 false (.cons 17 true (.cons 18 false (.cons 19 false (.cons 20 true (.cons 21 true (.cons 22 false (.nil))))))))) (.last)))) (.alt 8 (.fork (.alt 4 (.cons 11 false (.cons 12 false (.cons 17 true (.cons 18 false (.cons 19 false (.cons 20 true (.cons 21 true (.cons 22 false (.nil))))))))) (.alt 11 (.fork (.alt 4 (.cons 12 false (.cons 17 true (.cons 18 false (.cons 19 false (.cons 20 true (.cons 21 true (.cons 22 false (.nil)))))))) (.alt 12 (.cons 4 true (.cons 17 true (.cons 18 false (.cons 19 false (.cons 20 true (.cons 21 true (.cons 22 false (.nil)))))))) (.last)))) (.last)))) (.alt 11 (.fork (.alt 4 (.cons 8 false (.cons 12 false (.cons 17 true (.cons 18 false (.cons 19 false (.cons 20 true (.cons 21 true (.cons 22 false (.nil))))))))) (.alt 8 (.fork (.alt 4 (.cons 12 false (.cons 17 true (.cons 18 false (.cons 19 false (.cons 20 true (.cons 21 true (.cons 22 false (.nil)))))))) (.alt 12 (.cons 4 true (.cons 17 true (.cons 18 false (.cons 19 false (.cons 20 true (.cons 21 true (.cons 22 false (.nil)))))))) (.last)))) (.last)))) (.last))))) (.alt 11 (.fork (.alt 4 (.cons 6 false (.cons 8 false (.cons 12 false (.cons 17 true (.cons 18 false (.cons 19 false (.cons 20 true (.cons 21 true (.cons 22 false (.nil)))))))))) (.alt 6 (.fork (.alt 4 (.cons 8 false (.cons 12 false (.cons 17 true (.cons 18 false (.cons 19 false (.cons 20 true (.cons 21 true (.cons 22 false (.nil))))))))) (.alt 8 (.fork (.alt 4 (.cons 12 false (.cons 17 true (.cons 18 false (.cons 19 false (.cons 20 true (.cons 21 true (.cons 22 false (.nil)))))))) (.alt 12 (.cons 4 true (.cons 17 true (.cons 18 false (.cons 19 false (.cons 20 true (.cons 21 true (.cons 22 false (.nil)))))))) (.last)))) (.last)))) (.last)))) (.last))))))))))) (by kernel_rfl) fQP_panic (by kernel_rfl) ?_ (sw_run 200 _ _ _ ?_)
 ·simp only [push_cast,rmB,↓reduceIte,Nat.reduceLT,Nat.reduceAdd,Nat.reduceEqDiff,preC,stbO,AS.fzb,fzbT,AV.fzb,rmB,row9,tmC_eq,i0,r0]
 simp only [push_cast,rmB,↓reduceIte,Nat.reduceLT,Nat.reduceAdd,Nat.reduceLeDiff,Nat.reduceEqDiff,reduceCtorEq,preS,AS.fzb,fzbT,AV.fzb,rmB,row9,tmC_eq,i0,r0]
 repeat' (with_reducible apply And.intro)
 all_goals
  refine sw_callDV (hP1) rfl rfl rfl rfl rfl (by decide) ?_ rfl (sw_run 200 _ _ _ ?_)
  ·simp only [push_cast,AS.kb,rmBs,rmB,mPs,mP,aA,aD,↓reduceIte]
  simp only [push_cast,AS.kb,rmBs,rmB,↓reduceIte,Nat.reduceLT,Nat.reduceAdd,Nat.reduceLeDiff,Nat.reduceEqDiff,aftV2]
 repeat' (with_reducible apply And.intro)
 all_goals
  refine sw_callDPB (cap:=[]) (hN) rfl rfl rfl ?_ (sw_run 200 _ _ _ ?_)
  ·simp only [push_cast,AS.em,mPs,mP,aA,aD,↓reduceIte,Nat.reduceEqDiff]
  simp only [push_cast,mkC,fQP,xRetP,rRs,rOs,rC,rCs,eRs,eOs,eC,eCs,aftS,aftV,AS.kb,rmBs,mkO,packRA,flatR,↓reduceIte,Nat.reduceLT,Nat.reduceAdd,Nat.reduceLeDiff,Nat.reduceEqDiff,reduceCtorEq,Tryz.results58]
 repeat' (with_reducible apply And.intro)
 all_goals first | (intro h;exact h.elim) | (intro o ho;omega) | (unfold maxLen;omega) | omega
theorem con_cp9 (e:Tm) (ih:∀ x ∈ e.args,CpI x) (names:List ByteArray) (s:CS) (hr:Room e names s) (hp:plT e=true) (hc:Cov names e) (hk:e.kind=9):ConP Tryz.prog 58 [.p (csP 96 s),.b (.one (strsD names)),.b (.ag (tmC e))] [csP 96 (cpT e names s)] []:=by
 obtain ⟨hz,h1,h2,h3⟩:=hr
 obtain ⟨_,k5,k6,k7,k8,k9⟩:=pl_kind hp
 have hpa:=pl_args hp
 have hl:=k9 hk
 have hs:=sz1 hl
 have i0:(0:Int)<(e.args.length:Int):=by omega
 have r0:=tmsC_row' e.args 0 (by omega)
 have hT:cpT e names s=addQ (putC s 8 0) ⟨s.code.length,names++[e.name,e.other],e.args[0]!⟩:=by
  rw [cpT_eq,cpF,if_neg (by omega),if_neg (by omega),if_neg (by omega),if_neg (by omega),if_neg (by omega),if_neg (by omega),if_pos hk]
 have hP1:=con_putC s 8 0 (by omega)
 have hN:=con_CloneN names (by omega)
 have hW:flC wtC (s.q++[⟨s.code.length,names++[e.name,e.other],e.args[0]!⟩])=flC wtC s.q++wtC ⟨s.code.length,names++[e.name,e.other],e.args[0]!⟩:=by rw [flC_app,flC_one]
 rw [hT]
 simp only [csP_eq,putC_q,addQ_q,addQ_code,hW,wtC,List.length_append,List.length_cons,List.length_nil,List.map_append,List.map_cons,List.map_nil,Nat.zero_add]
 refine con_runP Tryz.func58 rfl rfl (by simp [Tryz.ntmps58]) rfl ?_
 simp only [push_cast,s0P,mkPs,mkPA,mkC,↓reduceIte,Nat.reduceLT,Nat.reduceAdd,Nat.reduceEqDiff,Int.reduceEq,tmC_eq,hk,Tryz.ntmps58]
 refine sw_fzB 3 rfl rfl ?_
 refine sw_drawnS [9,10,11,12,15,16,17,18] (.cons 0 true (.cons 1 true (.cons 2 true (.cons 3 true (.cons 5 true (.cons 7 true (.fork (.alt 4 (.fork (.alt 6 (.fork (.alt 8 (.cons 13 false (.cons 14 false (.cons 19 true (.cons 20 false (.cons 21 false (.cons 22 true (.cons 23 true (.cons 24 false (.nil))))))))) (.alt 13 (.cons 8 false (.cons 14 false (.cons 19 true (.cons 20 false (.cons 21 false (.cons 22 true (.cons 23 true (.cons 24 false (.nil))))))))) (.last)))) (.alt 13 (.cons 6 false (.cons 8 false (.cons 14 false (.cons 19 true (.cons 20 false (.cons 21 false (.cons 22 true (.cons 23 true (.cons 24 false (.nil)))))))))) (.last)))) (.alt 6 (.fork (.alt 4 (.fork (.alt 8 (.cons 13 false (.cons 14 false (.cons 19 true (.cons 20 false (.cons 21 false (.cons 22 true (.cons 23 true (.cons 24 false (.nil))))))))) (.alt 13 (.cons 8 false (.cons 14 false (.cons 19 true (.cons 20 false (.cons 21 false (.cons 22 true (.cons 23 true (.cons 24 false (.nil))))))))) (.last)))) (.alt 8 (.fork (.alt 4 (.cons 13 false (.cons 14 false (.cons 19 true (.cons 20 false (.cons 21 false (.cons 22 true (.cons 23 true (.cons 24 false (.nil))))))))) (.alt 13 (.fork (.alt 4 (.cons 14 false (.cons 19 true (.cons 20 false (.cons 21 false (.cons 22 true (.cons 23 true (.cons 24 false (.nil)))))))) (.alt 14 (.cons 4 true (.cons 19 true (.cons 20 false (.cons 21 false (.cons 22 true (.cons 23 true (.cons 24 false (.nil)))))))) (.last)))) (.last)))) (.alt 13 (.fork (.alt 4 (.cons 8 false (.cons 14 false (.cons 19 true (.cons 20 false (.cons 21 false (.cons 22 true (.cons 23 true (.cons 24 false (.nil))))))))) (.alt 8 (.fork (.alt 4 (.cons 14 false (.cons 19 true (.cons 20 false (.cons 21 false (.cons 22 true (.cons 23 true (.cons 24 false (.nil)))))))) (.alt 14 (.cons 4 true (.cons 19 true (.cons 20 false (.cons 21 false (.cons 22 true (.cons 23 true (.cons 24 false (.nil)))))))) (.last)))) (.last)))) (.last))))) (.alt 13 (.fork (.alt 4 (.cons 6 false (.cons 8 false (.cons 14 false (.cons 19 true (.cons 20 false (.cons 21 false (.cons 22 true (.cons 23 true (.cons 24 false (.nil)))))))))) (.alt 6 (.fork (.alt 4 (.cons 8 false (.cons 14 false (.cons 19 true (.cons 20 false (.cons 21 false (.cons 22 true (.cons 23 true (.cons 24 false (.nil))))))))) (.alt 8 (.fork (.alt 4 (.cons 14 false (.cons 19 true (.cons 20 false (.cons 21 false (.cons 22 true (.cons 23 true (.cons 24 false (.nil)))))))) (.alt 14 (.cons 4 true (.cons 19 true (.cons 20 false (.cons 21 false (.cons 22 true (.cons 23 true (.cons 24 false (.nil)))))))) (.last)))) (.last)))) (.last)))) (.last))))))))))) (by kernel_rfl) fQP_panic (by kernel_rfl) ?_ (sw_run 200 _ _ _ ?_)
 ·simp only [push_cast,rmB,↓reduceIte,Nat.reduceLT,Nat.reduceAdd,Nat.reduceEqDiff,preC,stbO,AS.fzb,fzbT,AV.fzb,rmB,row9,tmC_eq,i0,r0]
 simp only [push_cast,rmB,↓reduceIte,Nat.reduceLT,Nat.reduceAdd,Nat.reduceLeDiff,Nat.reduceEqDiff,reduceCtorEq,preS,AS.fzb,fzbT,AV.fzb,rmB,row9,tmC_eq,i0,r0]
 repeat' (with_reducible apply And.intro)
 all_goals
  refine sw_callDV (hP1) rfl rfl rfl rfl rfl (by decide) ?_ rfl (sw_run 200 _ _ _ ?_)
  ·simp only [push_cast,AS.kb,rmBs,rmB,mPs,mP,aA,aD,↓reduceIte]
  simp only [push_cast,AS.kb,rmBs,rmB,↓reduceIte,Nat.reduceLT,Nat.reduceAdd,Nat.reduceLeDiff,Nat.reduceEqDiff,aftV2]
 repeat' (with_reducible apply And.intro)
 all_goals
  refine sw_callDPB (cap:=[]) (hN) rfl rfl rfl ?_ (sw_run 200 _ _ _ ?_)
  ·simp only [push_cast,AS.em,mPs,mP,aA,aD,↓reduceIte,Nat.reduceEqDiff]
  simp only [push_cast,mkC,fQP,xRetP,rRs,rOs,rC,rCs,eRs,eOs,eC,eCs,aftS,aftV,AS.kb,rmBs,mkO,packRA,flatR,↓reduceIte,Nat.reduceLT,Nat.reduceAdd,Nat.reduceLeDiff,Nat.reduceEqDiff,reduceCtorEq,Tryz.results58]
 repeat' (with_reducible apply And.intro)
 all_goals first | (intro h;exact h.elim) | (intro o ho;omega) | (unfold maxLen;omega) | omega
theorem con_cpI:∀ e:Tm,CpI e:=by
 refine Tm.ind fun e ih names s hr hp hc => ?_
 obtain ⟨hk,_⟩:=pl_kind hp
 rcases hk with h | h | h | h | h | h | h | h | h
 ·exact con_cp1 e names s hr h (hc.var h)
 ·exact con_cp2 e names s hr h
 ·exact con_cp3 e names s hr h
 ·exact con_cp4 e ih names s hr hp hc h
 ·exact con_cp5 e ih names s hr hp hc h
 ·exact con_cp6 e ih names s hr hp hc h
 ·exact con_cp7 e ih names s hr hp hc h
 ·exact con_cp8 e ih names s hr hp hc h
 ·exact con_cp9 e ih names s hr hp hc h
end Go.Proofs.YtaidalilfmjfgaaGreat
