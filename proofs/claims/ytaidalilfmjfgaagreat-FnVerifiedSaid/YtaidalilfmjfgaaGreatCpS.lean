import Derived.Test.YtaidalilfmjfgaaGreatCpP
import Derived.Test.YtaidalilfmjfgaaGreatBy
namespace Go.Proofs.YtaidalilfmjfgaaGreat
open Go.RowKit
set_option linter.unusedVariables false
set_option linter.unusedSimpArgs false
set_option maxRecDepth 20000
theorem con_putS (s:CS) (op a:Int) (hl:s.code.length≤100000000) (x:Value) (hx:x.oneCell'=true):ConP Tryz.prog 63 (.p [.a 37 (.rows 2 s.code.length (flC insC s.code)),.v x] :: [PD.one (.int op),PD.one (.int a)].map PA.b) [[.a 37 (.rows 2 (putC s op a).code.length (flC insC (putC s op a).code)),.v x]] [.one (.o (.int s.code.length))]:=by
 have hA:flC insC (putC s op a).code=flC insC s.code++[.int op,.int a]:=by unfold putC;rw [flC_app,flC_one];rfl
 rw [hA,putC_len]
 simp only [List.map]
 refine con_runP Tryz.func63 rfl rfl (by simp [Tryz.ntmps63]) rfl ?_
 refine byP (fc Tryz.ntmps63 Tryz.results63) ?_
 exact ⟨⟨fun h=>h.elim,fun o ho=>by omega,by unfold maxLen;omega,by omega⟩,by unfold inI;omega,by omega⟩
theorem con_NamesL (a b:List ByteArray) (ha:a.length≤100000000) (hb:b.length≤100000000):Con Tryz.prog 142 [.one (.rows 1 a.length (a.map D.str)),.one (.rows 1 b.length (b.map D.str))] [.one (.rows 1 (a++b).length ((a++b).map D.str))]:=by
 have hp:∀ d ∈ a.map D.str,d.prim=true:=prim_strs a
 have hp2:∀ d ∈ b.map D.str,d.prim=true:=prim_strs b
 rw [List.length_append,List.map_append]
 refine con_run Tryz.func142 rfl rfl (by simp [Tryz.ntmps142]) ?_
 refine byP (fc Tryz.ntmps142 Tryz.results142) ?_
 refine ⟨⟨fun _=>hp,fun _ _=>trivial,by unfold maxLen;omega,by omega⟩,fun _=>hp2,fun _ _=>trivial,by unfold maxLen;omega,by omega⟩
theorem con_Place (names:List ByteArray) (x:ByteArray) (hl:names.length≤100000000) (hin:x ∈ names):Con Tryz.prog 140 [.one (strsD names),.one (.str x)] [.one (.int (plN names x))]:=by
 have hpos:0<names.length:=List.length_pos_of_mem hin
 refine con_run Tryz.func140 rfl rfl (by simp [Tryz.ntmps140]) ?_
 refine byP Tryz.ntmps140 ?_
 refine ⟨by unfold inI;omega, ?_⟩
 refine sw_loop (fun k:Nat=>k<names.length∧x ∈ names.take (k+1)∧lsN names x (k+1)=lsN names x names.length) (fun k=>⟨24,[(5,.i k),(0,(.br (.rows 1 names.length (names.map D.str)))),(1,.s x)],[],[],0,[]⟩) (fun k=>k) (names.length-1) id ⟨by omega, ?_, ?_⟩ ?_ ?_
 ·rw [List.take_of_length_le (by omega)];exact hin
 ·rw [show names.length-1+1=names.length by omega]
 ·exact byP (show ((names.length-1:Nat):Int)=(names.length:Int)-1 by omega) True.intro
 ·rintro k ⟨hk0,hm,hlk⟩
  refine sw_run 200 _ _ _ ?_
  have hi:(k:Int)<(names.length:Int):=by omega
  have hR:=strs_row names k hk0
  by_cases he:names[k]! = x
  ·rw [lsN,if_pos he] at hlk
   have hpl:(names.length:Int)-1-(k:Int)=plN names x:=by unfold plN;rw [← hlk]
   refine byP (fc hi (fc hR (fc he (fc hpl Tryz.results140)))) ?_
   exact ⟨by unfold inI;omega,by rw [← hpl];unfold inI;omega⟩
  ·rw [lsN,if_neg he] at hlk
   have hm':x ∈ names.take k:=by
    rw [take_snoc names k hk0,List.mem_append,List.mem_singleton] at hm
    exact hm.resolve_right fun h=>he h.symm
   have hk1:0<k:=by
    rcases Nat.eq_zero_or_pos k with e0 | e0
    ·subst e0;simp at hm'
    ·exact e0
   refine byP (fc hi (fc hR he)) ?_
   refine ⟨by unfold inI;omega,k-1,id,⟨by omega,by rw [show k-1+1=k by omega];exact hm',by rw [show k-1+1=k by omega];exact hlk⟩,by omega, ?_⟩
   exact byP (show ((k-1:Nat):Int)=(k:Int)-1 by omega) True.intro
theorem con_onS (s:ByteArray):Con Tryz.prog 143 [.one (.str s)] [.one (.int (fi s opsL 0+1))]:=by
 have hin:=on_rng s opsL (by decide)
 have h:=con_IndexOfS opsL s (by decide)
 refine con_run Tryz.func143 rfl rfl (by simp [Tryz.ntmps143]) ?_
 refine byP Tryz.ntmps143 ?_
 refine sw_call (con_opsS) rfl (aAs_ok ?_) ?_ (sw_run 200 _ _ _ ?_)
 ·simp only [aAs,List.map,List.append_nil]
 ·simp only [okR]
 refine byQ ?_
 refine sw_call (h) rfl (aAs_ok ?_) ?_ (sw_run 200 _ _ _ ?_)
 ·exact byQ True.intro
 ·simp only [okR]
 exact byP (fc hin Tryz.results143) True.intro
def CpSp (e:Tm):Prop:=∀ names s,Room e names s→plT e=true→Cov names e→ConP Tryz.prog 62 [.p (csP 104 s),.b (.ag (tmC e)),.b (.one (strsD names))] [csP 104 (cpT e names s)] []
theorem con_cs2 (e:Tm) (names:List ByteArray) (s:CS) (hr:Room e names s) (hk:e.kind=2):ConP Tryz.prog 62 [.p (csP 104 s),.b (.ag (tmC e)),.b (.one (strsD names))] [csP 104 (cpT e names s)] []:=by
 obtain ⟨hz,h1,h2,h3⟩:=hr
 have hT:cpT e names s=putC s 1 e.n:=by rw [cpT_eq,cpF,if_pos hk]
 have hP:=con_putS s 1 e.n (by omega)
 rw [hT]
 simp only [csP_eq,putC_q]
 refine con_runP Tryz.func62 rfl rfl (by simp [Tryz.ntmps62]) rfl ?_
 refine byP (fc hk Tryz.ntmps62) ?_
 refine sw_callV (hP) rfl rfl rfl rfl rfl (by decide) ?_ (sw_run 200 _ _ _ ?_)
 ·exact byQ True.intro
 exact byP (fc aftV2.eq_1 Tryz.results62) True.intro
theorem con_cs3 (e:Tm) (names:List ByteArray) (s:CS) (hr:Room e names s) (hk:e.kind=3):ConP Tryz.prog 62 [.p (csP 104 s),.b (.ag (tmC e)),.b (.one (strsD names))] [csP 104 (cpT e names s)] []:=by
 obtain ⟨hz,h1,h2,h3⟩:=hr
 have hT:cpT e names s=putC s 2 e.n:=by rw [cpT_eq,cpF,if_neg (by omega),if_pos hk]
 have hP:=con_putS s 2 e.n (by omega)
 rw [hT]
 simp only [csP_eq,putC_q]
 refine con_runP Tryz.func62 rfl rfl (by simp [Tryz.ntmps62]) rfl ?_
 refine byP (fc hk Tryz.ntmps62) ?_
 refine sw_callV (hP) rfl rfl rfl rfl rfl (by decide) ?_ (sw_run 200 _ _ _ ?_)
 ·exact byQ True.intro
 exact byP (fc aftV2.eq_1 Tryz.results62) True.intro
theorem con_cs1 (e:Tm) (names:List ByteArray) (s:CS) (hr:Room e names s) (hk:e.kind=1) (hin:e.name ∈ names):ConP Tryz.prog 62 [.p (csP 104 s),.b (.ag (tmC e)),.b (.one (strsD names))] [csP 104 (cpT e names s)] []:=by
 obtain ⟨hz,h1,h2,h3⟩:=hr
 have hT:cpT e names s=putC s 3 (plN names e.name):=by rw [cpT_eq,cpF,if_neg (by omega),if_neg (by omega),if_pos hk]
 have hP:=con_putS s 3 (plN names e.name) (by omega)
 have hL:=con_Place names e.name (by omega) hin
 simp only [strsD] at hL
 rw [hT]
 simp only [csP_eq,putC_q]
 refine con_runP Tryz.func62 rfl rfl (by simp [Tryz.ntmps62]) rfl ?_
 refine byP (fc hk Tryz.ntmps62) ?_
 refine sw_call (hL) rfl (aAs_ok ?_) ?_ (sw_run 200 _ _ _ ?_)
 ·exact byQ True.intro
 ·simp only [okR]
 refine byQ ?_
 refine sw_callV (hP) rfl rfl rfl rfl rfl (by decide) ?_ (sw_run 200 _ _ _ ?_)
 ·exact byQ True.intro
 exact byP (fc aftV2.eq_1 Tryz.results62) True.intro
theorem con_IfS (e:Tm) (ih:∀ x ∈ e.args,CpSp x) (names:List ByteArray) (s:CS) (hr:Room e names s) (hp:plT e=true) (hc:Cov names e) (hk:e.kind=5):ConP Tryz.prog 141 [.p (csP 104 s),.b (.ag (tmC e)),.b (.one (strsD names))] [csP 104 (cpT e names s)] []:=by
 obtain ⟨hz,h1,h2,h3⟩:=hr
 obtain ⟨_,k5,k6,k7,k8,k9⟩:=pl_kind hp
 have hpa:=pl_args hp
 have hl:=k5 hk
 have hs:=sz3 hl
 have i0:(0:Int)<(e.args.length:Int):=by omega
 have m0:=mem_bang (show 0<e.args.length by omega)
 have r0:=tmsC_row' e.args 0 (by omega)
 have g0:=cp_gr 10000000 e.args[0]! (by omega) names s (hpa _ m0) (cov_same hc (.inr (.inl hk)) (by omega)) (by (try simp only [List.length_append,List.length_cons,List.length_nil]);omega)
 have q0:=g0.code;have p0:=g0.q
 have c0:=ih _ m0 names s ⟨by omega,by (try simp only [List.length_append,List.length_cons,List.length_nil]);omega,by omega,by omega⟩ (hpa _ m0) (cov_same hc (.inr (.inl hk)) (by omega))
 obtain ⟨s1,e0⟩:∃ s1,s1=cpT e.args[0]! names s:=⟨_,rfl⟩
 rw [← e0] at q0 p0 c0
 simp only [strsD,csP_eq] at c0
 have i1:(1:Int)<(e.args.length:Int):=by omega
 have m1:=mem_bang (show 1<e.args.length by omega)
 have r1:=tmsC_row' e.args 1 (by omega)
 have l1:=putC_len s1 6 0
 have l1q:(putC s1 6 0).q.length=s1.q.length:=rfl
 have g1:=cp_gr 10000000 e.args[1]! (by omega) names (putC s1 6 0) (hpa _ m1) (cov_same hc (.inr (.inl hk)) (by omega)) (by (try simp only [List.length_append,List.length_cons,List.length_nil]);omega)
 have q1:=g1.code;have p1:=g1.q
 have c1:=ih _ m1 names (putC s1 6 0) ⟨by omega,by (try simp only [List.length_append,List.length_cons,List.length_nil]);omega,by omega,by omega⟩ (hpa _ m1) (cov_same hc (.inr (.inl hk)) (by omega))
 obtain ⟨s2,e1⟩:∃ s2,s2=cpT e.args[1]! names (putC s1 6 0):=⟨_,rfl⟩
 rw [← e1] at q1 p1 c1
 simp only [strsD,csP_eq,putC_q] at c1
 have i2:(2:Int)<(e.args.length:Int):=by omega
 have m2:=mem_bang (show 2<e.args.length by omega)
 have r2:=tmsC_row' e.args 2 (by omega)
 have l2:=putC_len s2 5 0
 have l2q:(putC s2 5 0).q.length=s2.q.length:=rfl
 have l3:=setA_len (putC s2 5 0) s1.code.length (putC s2 5 0).code.length
 have l3q:(setA (putC s2 5 0) s1.code.length (putC s2 5 0).code.length).q.length=(putC s2 5 0).q.length:=rfl
 have g2:=cp_gr 10000000 e.args[2]! (by omega) names (setA (putC s2 5 0) s1.code.length (putC s2 5 0).code.length) (hpa _ m2) (cov_same hc (.inr (.inl hk)) (by omega)) (by (try simp only [List.length_append,List.length_cons,List.length_nil]);omega)
 have q2:=g2.code;have p2:=g2.q
 have c2:=ih _ m2 names (setA (putC s2 5 0) s1.code.length (putC s2 5 0).code.length) ⟨by omega,by (try simp only [List.length_append,List.length_cons,List.length_nil]);omega,by omega,by omega⟩ (hpa _ m2) (cov_same hc (.inr (.inl hk)) (by omega))
 obtain ⟨s3,e2⟩:∃ s3,s3=cpT e.args[2]! names (setA (putC s2 5 0) s1.code.length (putC s2 5 0).code.length):=⟨_,rfl⟩
 rw [← e2] at q2 p2 c2
 simp only [strsD,csP_eq,putC_q,setA_q,setA_len] at c2
 have hT:cpT e names s=setA s3 s2.code.length s3.code.length:=by
  rw [cpT_eq,cpF,if_neg (by omega),if_neg (by omega),if_neg (by omega),if_neg (by omega),if_pos hk,ifF,map_bang cpT (by omega),map_bang cpT (by omega),map_bang cpT (by omega),← e0,← e1,← e2]
 have hP1:=con_putS s1 6 0 (by omega)
 have hP2:=con_putS s2 5 0 (by omega)
 have b1:(s1.code.length:Int)<((putC s2 5 0).code.length:Int):=by omega
 have b2:(s2.code.length:Int)<(s3.code.length:Int):=by omega
 have w1:=set_code (putC s2 5 0) s1.code.length (putC s2 5 0).code.length (by omega)
 have w2:=set_code s3 s2.code.length s3.code.length (by omega)
 rw [hT]
 simp only [csP_eq,setA_q,setA_len]
 refine con_runP Tryz.func141 rfl rfl (by simp [Tryz.ntmps141]) rfl ?_
 refine byP (fc hk (fc i0 (fc r0 Tryz.ntmps141))) ?_
 refine sw_callPR (c0) rfl rfl rfl ?_ ?_ ?_ (sw_run 200 _ _ _ ?_)
 ·exact byQ True.intro
 ·exact byQ True.intro
 ·exact byQ True.intro
 refine byQ ?_
 refine sw_callV (hP1) rfl rfl rfl rfl rfl (by decide) ?_ (sw_run 200 _ _ _ ?_)
 ·exact byQ True.intro
 refine byP (fc aftV2.eq_1 (fc i1 r1)) ?_
 refine sw_callPR (c1) rfl rfl rfl ?_ ?_ ?_ (sw_run 200 _ _ _ ?_)
 ·exact byQ True.intro
 ·exact byQ True.intro
 ·exact byQ True.intro
 refine byQ ?_
 refine sw_callV (hP2) rfl rfl rfl rfl rfl (by decide) ?_ (sw_run 200 _ _ _ ?_)
 ·exact byQ True.intro
 refine byP aftV2.eq_1 ?_
 refine sw_drawn (.cons 0 true (.cons 1 true (.cons 2 true (.cons 3 true (.cons 4 true (.cons 5 true (.cons 6 true (.cons 7 true (.cons 8 true (.cons 9 true (.cons 10 true (.cons 11 true (.cons 12 false (.nil)))))))))))))) (by kernel_rfl) fQP_panic (by kernel_rfl) (sw_run 200 _ _ _ ?_)
 refine byP (fc i2 (fc r2 (fc b1 w1))) ?_
 refine sw_callPR (c2) rfl rfl rfl ?_ ?_ ?_ (sw_run 200 _ _ _ ?_)
 ·exact byQ True.intro
 ·exact byQ True.intro
 ·exact byQ True.intro
 refine byQ ?_
 refine sw_drawn (.cons 0 true (.cons 1 true (.cons 2 true (.cons 3 true (.cons 4 true (.cons 5 true (.cons 6 true (.cons 7 true (.cons 8 true (.cons 9 true (.cons 10 true (.cons 11 true (.cons 12 false (.nil)))))))))))))) (by kernel_rfl) fQP_panic (by kernel_rfl) (sw_run 200 _ _ _ ?_)
 exact byP (fc b2 (fc w2 Tryz.results141)) True.intro
theorem con_cs5 (e:Tm) (ih:∀ x ∈ e.args,CpSp x) (names:List ByteArray) (s:CS) (hr:Room e names s) (hp:plT e=true) (hc:Cov names e) (hk:e.kind=5):ConP Tryz.prog 62 [.p (csP 104 s),.b (.ag (tmC e)),.b (.one (strsD names))] [csP 104 (cpT e names s)] []:=by
 have c0:=con_IfS e ih names s hr hp hc hk
 obtain ⟨hz,h1,h2,h3⟩:=hr
 obtain ⟨_,k5,k6,k7,k8,k9⟩:=pl_kind hp
 have hpa:=pl_args hp
 simp only [strsD,csP_eq] at c0
 simp only [csP_eq]
 refine con_runP Tryz.func62 rfl rfl (by simp [Tryz.ntmps62]) rfl ?_
 refine byP (fc hk Tryz.ntmps62) ?_
 refine sw_callPR (c0) rfl rfl rfl ?_ ?_ ?_ (sw_run 200 _ _ _ ?_)
 ·exact byP hk True.intro
 ·exact byP hk True.intro
 ·exact byP hk True.intro
 exact byP Tryz.results62 True.intro
theorem con_cs4 (e : Tm) (ih : ∀ x ∈ e.args, CpSp x) (names : List ByteArray) (s : CS) (hr : Room e names s) (hp : plT e = true) (hc : Cov names e) (hk : e.kind = 4) : ConP Tryz.prog 62 [.p (csP 104 s), .b (.ag (tmC e)), .b (.one (strsD names))] [csP 104 (cpT e names s)] [] := by
  obtain ⟨hz, h1, h2, h3⟩ := hr
  obtain ⟨_, k5, k6, k7, k8, k9⟩ := pl_kind hp
  have hpa := pl_args hp
  have hO := con_onS e.name
  have hT : cpT e names s = putC (allF ((e.args.take e.args.length).map cpT) names s) 4 (fi e.name opsL 0 + 1) := by
    rw [cpT_eq, cpF, if_neg (by omega), if_neg (by omega), if_neg (by omega), if_pos hk, List.take_length]
  have key : ∀ k, k ≤ e.args.length → (allF ((e.args.take k).map cpT) names s).code.length ≤ s.code.length + 2 * (k + szL (tmsC (e.args.take k))) ∧ (allF ((e.args.take k).map cpT) names s).q.length ≤ s.q.length + 2 * (k + szL (tmsC (e.args.take k))) := by
    intro k
    induction k with
    | zero => intro _; exact ⟨Nat.le_add_right _ _, Nat.le_add_right _ _⟩
    | succ k ihk =>
      intro hk'
      have a1 := ihk (by omega)
      have a2 := szK (e := e) (k := k) (by omega)
      have a3 := cp_gr 10000000 e.args[k]! (by omega) names (allF ((e.args.take k).map cpT) names s) (hpa _ (mem_bang (by omega))) (cov_same hc (by simp [hk]) (by omega)) (by omega)
      have a4 := a3.code; have a5 := a3.q
      rw [allF_step e names s (by omega), take_snoc e.args k (by omega), tmsC_flat, flC_app, szL_append, flC_one, ← tmsC_flat]
      omega
  have tsz : ∀ k, k ≤ e.args.length → szL (tmsC (e.args.take k)) ≤ szL (tmsC e.args) := fun k hk' => by
    have e0 : szL (tmsC e.args) = szL (tmsC (e.args.take k)) + szL (tmsC (e.args.drop k)) := by rw [tmsC_flat, tmsC_flat, tmsC_flat, ← szL_append, ← flC_app, List.take_append_drop]
    omega
  have hz9 := szL_tm e
  have hP := con_putS (allF ((e.args.take e.args.length).map cpT) names s) 4 (fi e.name opsL 0 + 1) (by have := key e.args.length (Nat.le_refl _); have := tsz e.args.length (Nat.le_refl _); omega)
  rw [hT]
  simp only [csP_eq, putC_q]
  refine con_runP Tryz.func62 rfl rfl (by simp [Tryz.ntmps62]) rfl ?_
  refine byP (fc hk Tryz.ntmps62) ?_
  refine sw_loop (fun k : Nat => k ≤ e.args.length) (fun k => ⟨136, [(8, .i k), (4, .bx 3 0), (0, .bx 2 0), (2, (.br (.rows 1 names.length (names.map D.str))))], [(3, [.i 4, .s e.name, .s e.other, .i e.n, .i e.ty.kind, .br (.rows 2 e.ty.args.length (tysC e.ty.args)), .i e.res.kind, .br (.rows 2 e.res.args.length (tysC e.res.args)), .br (.rows 9 e.args.length (tmsC e.args))]), (2, [.sl 0, .sl 1])], [(1, some ⟨.rows 11 (allF ((e.args.take k).map cpT) names s).q.length (flC wtC (allF ((e.args.take k).map cpT) names s).q), some 104, false⟩), (0, some ⟨.rows 2 (allF ((e.args.take k).map cpT) names s).code.length (flC insC (allF ((e.args.take k).map cpT) names s).code), some 37, true⟩)], 4, [2]⟩) (fun k => e.args.length - k) 0 id (Nat.zero_le _) ?_ ?_
  · simp only [push_cast, Sub, subT, subB, subO, subP, inj, AV.ren, AV.rens, AV.lt, AV.lts, ↓reduceIte, Nat.reduceLT, Nat.reduceEqDiff, reduceCtorEq, allF, List.map_nil, List.foldl_nil]
  · rintro k hk0
    refine sw_run 200 _ _ _ ?_
    by_cases hlt : k < e.args.length
    · have hi : (k : Int) < (e.args.length : Int) := by omega
      have hR := tmsC_row' e.args k hlt
      have a2 := szK (e := e) (k := k) hlt
      have a3 := key k hk0
      have a4 := tsz k hk0
      have hst := allF_step e names s hlt
      have a5 := tsz (k + 1) (by omega)
      rw [take_snoc e.args k hlt, tmsC_flat, flC_app, szL_append, flC_one, ← tmsC_flat] at a5
      have c0 := ih _ (mem_bang hlt) names (allF ((e.args.take k).map cpT) names s) ⟨by omega, by omega, by omega, by omega⟩ (hpa _ (mem_bang hlt)) (cov_same hc (by simp [hk]) hlt)
      rw [← hst] at c0
      simp only [strsD, csP_eq] at c0
      refine byP (fc hi hR) ?_
      refine sw_callPR (c0) rfl rfl rfl ?_ ?_ ?_ (sw_run 200 _ _ _ ?_)
      · exact byQ True.intro
      · exact byQ True.intro
      · exact byQ True.intro
      refine byQ ?_
      refine ⟨by unfold inI; omega, k + 1, rnL [(0, 4), (1, 5)], by omega, by omega, ?_⟩
      exact byQ True.intro
    · have hi : ¬ (k : Int) < (e.args.length : Int) := by omega
      obtain rfl : k = e.args.length := by omega
      refine byP hi ?_
      refine sw_run 200 _ _ _ ?_
      refine byQ ?_
      refine sw_call (hO) rfl (aAs_ok ?_) ?_ (sw_run 200 _ _ _ ?_)
      · exact byQ True.intro
      · simp only [okR]
      refine byQ ?_
      refine sw_callV (hP) rfl rfl rfl rfl rfl (by decide) ?_ (sw_run 200 _ _ _ ?_)
      · exact byQ True.intro
      exact byP (fc aftV2.eq_1 Tryz.results62) True.intro
theorem con_cs7 (e : Tm) (ih : ∀ x ∈ e.args, CpSp x) (names : List ByteArray) (s : CS) (hr : Room e names s) (hp : plT e = true) (hc : Cov names e) (hk : e.kind = 7) : ConP Tryz.prog 62 [.p (csP 104 s), .b (.ag (tmC e)), .b (.one (strsD names))] [csP 104 (cpT e names s)] [] := by
  obtain ⟨hz, h1, h2, h3⟩ := hr
  obtain ⟨_, k5, k6, k7, k8, k9⟩ := pl_kind hp
  have hpa := pl_args hp
  have hl := k7 hk
  have hT : cpT e names s = putC (allF ((e.args.take e.args.length).map cpT) names s) 9 0 := by
    rw [cpT_eq, cpF, if_neg (by omega), if_neg (by omega), if_neg (by omega), if_neg (by omega), if_neg (by omega), if_neg (by omega), if_neg (by omega), if_pos hk, map_bang cpT (by omega), map_bang cpT (by omega)]
    have e2 := allF_step e names s (k := 1) (by omega)
    have e1 := allF_step e names s (k := 0) (by omega)
    rw [hl, e2, e1]
    rfl
  have key : ∀ k, k ≤ e.args.length → (allF ((e.args.take k).map cpT) names s).code.length ≤ s.code.length + 2 * (k + szL (tmsC (e.args.take k))) ∧ (allF ((e.args.take k).map cpT) names s).q.length ≤ s.q.length + 2 * (k + szL (tmsC (e.args.take k))) := by
    intro k
    induction k with
    | zero => intro _; exact ⟨Nat.le_add_right _ _, Nat.le_add_right _ _⟩
    | succ k ihk =>
      intro hk'
      have a1 := ihk (by omega)
      have a2 := szK (e := e) (k := k) (by omega)
      have a3 := cp_gr 10000000 e.args[k]! (by omega) names (allF ((e.args.take k).map cpT) names s) (hpa _ (mem_bang (by omega))) (cov_same hc (by simp [hk]) (by omega)) (by omega)
      have a4 := a3.code; have a5 := a3.q
      rw [allF_step e names s (by omega), take_snoc e.args k (by omega), tmsC_flat, flC_app, szL_append, flC_one, ← tmsC_flat]
      omega
  have tsz : ∀ k, k ≤ e.args.length → szL (tmsC (e.args.take k)) ≤ szL (tmsC e.args) := fun k hk' => by
    have e0 : szL (tmsC e.args) = szL (tmsC (e.args.take k)) + szL (tmsC (e.args.drop k)) := by rw [tmsC_flat, tmsC_flat, tmsC_flat, ← szL_append, ← flC_app, List.take_append_drop]
    omega
  have hz9 := szL_tm e
  have hP := con_putS (allF ((e.args.take e.args.length).map cpT) names s) 9 0 (by have := key e.args.length (Nat.le_refl _); have := tsz e.args.length (Nat.le_refl _); omega)
  rw [hT]
  simp only [csP_eq, putC_q]
  refine con_runP Tryz.func62 rfl rfl (by simp [Tryz.ntmps62]) rfl ?_
  refine byP (fc hk Tryz.ntmps62) ?_
  refine sw_loop (fun k : Nat => k ≤ e.args.length) (fun k => ⟨136, [(8, .i k), (4, .bx 3 0), (0, .bx 2 0), (2, (.br (.rows 1 names.length (names.map D.str))))], [(3, [.i 7, .s e.name, .s e.other, .i e.n, .i e.ty.kind, .br (.rows 2 e.ty.args.length (tysC e.ty.args)), .i e.res.kind, .br (.rows 2 e.res.args.length (tysC e.res.args)), .br (.rows 9 e.args.length (tmsC e.args))]), (2, [.sl 0, .sl 1])], [(1, some ⟨.rows 11 (allF ((e.args.take k).map cpT) names s).q.length (flC wtC (allF ((e.args.take k).map cpT) names s).q), some 104, false⟩), (0, some ⟨.rows 2 (allF ((e.args.take k).map cpT) names s).code.length (flC insC (allF ((e.args.take k).map cpT) names s).code), some 37, true⟩)], 4, [2]⟩) (fun k => e.args.length - k) 0 id (Nat.zero_le _) ?_ ?_
  · simp only [push_cast, Sub, subT, subB, subO, subP, inj, AV.ren, AV.rens, AV.lt, AV.lts, ↓reduceIte, Nat.reduceLT, Nat.reduceEqDiff, reduceCtorEq, allF, List.map_nil, List.foldl_nil]
  · rintro k hk0
    refine sw_run 200 _ _ _ ?_
    by_cases hlt : k < e.args.length
    · have hi : (k : Int) < (e.args.length : Int) := by omega
      have hR := tmsC_row' e.args k hlt
      have a2 := szK (e := e) (k := k) hlt
      have a3 := key k hk0
      have a4 := tsz k hk0
      have hst := allF_step e names s hlt
      have a5 := tsz (k + 1) (by omega)
      rw [take_snoc e.args k hlt, tmsC_flat, flC_app, szL_append, flC_one, ← tmsC_flat] at a5
      have c0 := ih _ (mem_bang hlt) names (allF ((e.args.take k).map cpT) names s) ⟨by omega, by omega, by omega, by omega⟩ (hpa _ (mem_bang hlt)) (cov_same hc (by simp [hk]) hlt)
      rw [← hst] at c0
      simp only [strsD, csP_eq] at c0
      refine byP (fc hi hR) ?_
      refine sw_callPR (c0) rfl rfl rfl ?_ ?_ ?_ (sw_run 200 _ _ _ ?_)
      · exact byQ True.intro
      · exact byQ True.intro
      · exact byQ True.intro
      refine byQ ?_
      refine ⟨by unfold inI; omega, k + 1, rnL [(0, 4), (1, 5)], by omega, by omega, ?_⟩
      exact byQ True.intro
    · have hi : ¬ (k : Int) < (e.args.length : Int) := by omega
      obtain rfl : k = e.args.length := by omega
      refine byP hi ?_
      refine sw_run 200 _ _ _ ?_
      refine byQ ?_
      refine sw_callV (hP) rfl rfl rfl rfl rfl (by decide) ?_ (sw_run 200 _ _ _ ?_)
      · exact byQ True.intro
      exact byP (fc aftV2.eq_1 Tryz.results62) True.intro
theorem con_cs8 (e:Tm) (ih:∀ x ∈ e.args,CpSp x) (names:List ByteArray) (s:CS) (hr:Room e names s) (hp:plT e=true) (hc:Cov names e) (hk:e.kind=8):ConP Tryz.prog 62 [.p (csP 104 s),.b (.ag (tmC e)),.b (.one (strsD names))] [csP 104 (cpT e names s)] []:=by
 obtain ⟨hz,h1,h2,h3⟩:=hr
 obtain ⟨_,k5,k6,k7,k8,k9⟩:=pl_kind hp
 have hpa:=pl_args hp
 have hl:=k8 hk
 have hs:=sz2 hl
 have hT:cpT e names s=putC (cpT e.args[1]! (names++[e.name]) (putC (cpT e.args[0]! names s) 11 0)) 12 0:=by
  rw [cpT_eq,cpF,if_neg (by omega),if_neg (by omega),if_neg (by omega),if_neg (by omega),if_neg (by omega),if_neg (by omega),if_neg (by omega),if_neg (by omega),if_pos hk,map_bang cpT (by omega),map_bang cpT (by omega)]
 have i0:(0:Int)<(e.args.length:Int):=by omega
 have m0:=mem_bang (show 0<e.args.length by omega)
 have r0:=tmsC_row' e.args 0 (by omega)
 have g0:=cp_gr 10000000 e.args[0]! (by omega) names s (hpa _ m0) (cov_let0 hc hk hl) (by (try simp only [List.length_append,List.length_cons,List.length_nil]);omega)
 have q0:=g0.code;have p0:=g0.q
 have c0:=ih _ m0 names s ⟨by omega,by (try simp only [List.length_append,List.length_cons,List.length_nil]);omega,by omega,by omega⟩ (hpa _ m0) (cov_let0 hc hk hl)
 obtain ⟨s1,e0⟩:∃ s1,s1=cpT e.args[0]! names s:=⟨_,rfl⟩
 rw [← e0] at q0 p0 c0
 simp only [strsD,csP_eq] at c0
 have i1:(1:Int)<(e.args.length:Int):=by omega
 have m1:=mem_bang (show 1<e.args.length by omega)
 have r1:=tmsC_row' e.args 1 (by omega)
 have l1:=putC_len s1 11 0
 have l1q:(putC s1 11 0).q.length=s1.q.length:=rfl
 have g1:=cp_gr 10000000 e.args[1]! (by omega) (names++[e.name]) (putC s1 11 0) (hpa _ m1) (cov_let1 hc hk hl) (by (try simp only [List.length_append,List.length_cons,List.length_nil]);omega)
 have q1:=g1.code;have p1:=g1.q
 have c1:=ih _ m1 (names++[e.name]) (putC s1 11 0) ⟨by omega,by (try simp only [List.length_append,List.length_cons,List.length_nil]);omega,by omega,by omega⟩ (hpa _ m1) (cov_let1 hc hk hl)
 obtain ⟨s2,e1⟩:∃ s2,s2=cpT e.args[1]! (names++[e.name]) (putC s1 11 0):=⟨_,rfl⟩
 rw [← e1] at q1 p1 c1
 simp only [strsD,csP_eq,putC_q] at c1
 have hP1:=con_putS s1 11 0 (by omega)
 have hP2:=con_putS s2 12 0 (by omega)
 have hN:=con_NamesL names [e.name] (by omega) (by simp)
 simp only [List.length_append,List.length_cons,List.length_nil,List.map_append,List.map_cons,List.map_nil,Nat.zero_add] at c1 hN
 rw [hT,← e0,← e1]
 simp only [csP_eq,putC_q]
 refine con_runP Tryz.func62 rfl rfl (by simp [Tryz.ntmps62]) rfl ?_
 refine byP (fc hk (fc i0 (fc r0 Tryz.ntmps62))) ?_
 refine sw_callPR (c0) rfl rfl rfl ?_ ?_ ?_ (sw_run 200 _ _ _ ?_)
 ·exact byQ True.intro
 ·exact byQ True.intro
 ·exact byQ True.intro
 refine byQ ?_
 refine sw_callV (hP1) rfl rfl rfl rfl rfl (by decide) ?_ (sw_run 200 _ _ _ ?_)
 ·exact byQ True.intro
 refine byP aftV2.eq_1 ?_
 refine sw_drawn (.cons 0 true (.cons 1 true (.cons 2 true (.cons 3 true (.cons 4 true (.cons 5 true (.cons 6 true (.cons 7 true (.cons 8 false (.cons 9 false (.cons 10 false (.nil)))))))))))) (by kernel_rfl) fQP_panic (by kernel_rfl) (sw_run 200 _ _ _ ?_)
 refine byP (fc i1 r1) ?_
 refine sw_callD (hN) rfl (aAs_ok ?_) ?_ (sw_run 200 _ _ _ ?_)
 ·exact byQ True.intro
 ·simp only [okR]
 refine byQ ?_
 refine sw_fzG 8 rfl ?_
 refine byQ ?_
 refine sw_callDPR (cap:=[]) (c1) rfl rfl rfl ?_ ?_ ?_ rfl (sw_run 200 _ _ _ ?_)
 ·exact byQ True.intro
 ·exact byQ True.intro
 ·exact byQ True.intro
 refine byQ ?_
 refine sw_callV (hP2) rfl rfl rfl rfl rfl (by decide) ?_ (sw_run 200 _ _ _ ?_)
 ·exact byQ True.intro
 exact byP (fc aftV2.eq_1 Tryz.results62) True.intro
theorem con_cs6 (e:Tm) (ih:∀ x ∈ e.args,CpSp x) (names:List ByteArray) (s:CS) (hr:Room e names s) (hp:plT e=true) (hc:Cov names e) (hk:e.kind=6):ConP Tryz.prog 62 [.p (csP 104 s),.b (.ag (tmC e)),.b (.one (strsD names))] [csP 104 (cpT e names s)] []:=by
 obtain ⟨hz,h1,h2,h3⟩:=hr
 obtain ⟨_,k5,k6,k7,k8,k9⟩:=pl_kind hp
 have hpa:=pl_args hp
 have hl:=k6 hk
 have hs:=sz1 hl
 have i0:(0:Int)<(e.args.length:Int):=by omega
 have r0:=tmsC_row' e.args 0 (by omega)
 have hT:cpT e names s=addQ (putC s 7 0) ⟨s.code.length,names++[e.name],e.args[0]!⟩:=by
  rw [cpT_eq,cpF,if_neg (by omega),if_neg (by omega),if_neg (by omega),if_neg (by omega),if_neg (by omega),if_pos hk]
 have hP1:=con_putS s 7 0 (by omega)
 have hN:=con_NamesL names [e.name] (by omega) (by simp)
 have hW:flC wtC (s.q++[⟨s.code.length,names++[e.name],e.args[0]!⟩])=flC wtC s.q++wtC ⟨s.code.length,names++[e.name],e.args[0]!⟩:=by rw [flC_app,flC_one]
 simp only [List.length_append,List.length_cons,List.length_nil,List.map_append,List.map_cons,List.map_nil,Nat.zero_add] at hN
 rw [hT]
 simp only [csP_eq,putC_q,addQ_q,addQ_code,hW,wtC,List.length_append,List.length_cons,List.length_nil,List.map_append,List.map_cons,List.map_nil,Nat.zero_add]
 refine con_runP Tryz.func62 rfl rfl (by simp [Tryz.ntmps62]) rfl ?_
 refine byP (fc hk Tryz.ntmps62) ?_
 refine sw_callV (hP1) rfl rfl rfl rfl rfl (by decide) ?_ (sw_run 200 _ _ _ ?_)
 ·exact byQ True.intro
 refine byP aftV2.eq_1 ?_
 refine sw_drawn (.cons 0 true (.cons 1 true (.cons 2 true (.cons 3 true (.cons 4 true (.cons 5 true (.cons 6 true (.cons 7 true (.cons 8 true (.cons 11 true (.cons 12 true (.cons 13 true (.cons 14 true (.cons 9 false (.cons 10 false (.cons 15 true (.cons 16 false (.cons 17 false (.cons 18 true (.cons 19 true (.cons 20 false (.nil)))))))))))))))))))))) (by kernel_rfl) fQP_panic (by kernel_rfl) (sw_run 200 _ _ _ ?_)
 refine byP (fc i0 r0) ?_
 refine sw_callD (hN) rfl (aAs_ok ?_) ?_ (sw_run 200 _ _ _ ?_)
 ·exact byQ True.intro
 ·simp only [okR]
 refine byP Tryz.results62 ?_
 repeat' (with_reducible apply And.intro)
 all_goals first | (intro h;exact h.elim) | (intro o ho;omega) | (unfold maxLen;omega) | omega
theorem con_cs9 (e:Tm) (ih:∀ x ∈ e.args,CpSp x) (names:List ByteArray) (s:CS) (hr:Room e names s) (hp:plT e=true) (hc:Cov names e) (hk:e.kind=9):ConP Tryz.prog 62 [.p (csP 104 s),.b (.ag (tmC e)),.b (.one (strsD names))] [csP 104 (cpT e names s)] []:=by
 obtain ⟨hz,h1,h2,h3⟩:=hr
 obtain ⟨_,k5,k6,k7,k8,k9⟩:=pl_kind hp
 have hpa:=pl_args hp
 have hl:=k9 hk
 have hs:=sz1 hl
 have i0:(0:Int)<(e.args.length:Int):=by omega
 have r0:=tmsC_row' e.args 0 (by omega)
 have hT:cpT e names s=addQ (putC s 8 0) ⟨s.code.length,names++[e.name,e.other],e.args[0]!⟩:=by
  rw [cpT_eq,cpF,if_neg (by omega),if_neg (by omega),if_neg (by omega),if_neg (by omega),if_neg (by omega),if_neg (by omega),if_pos hk]
 have hP1:=con_putS s 8 0 (by omega)
 have hN:=con_NamesL names [e.name,e.other] (by omega) (by simp)
 have hW:flC wtC (s.q++[⟨s.code.length,names++[e.name,e.other],e.args[0]!⟩])=flC wtC s.q++wtC ⟨s.code.length,names++[e.name,e.other],e.args[0]!⟩:=by rw [flC_app,flC_one]
 simp only [List.length_append,List.length_cons,List.length_nil,List.map_append,List.map_cons,List.map_nil,Nat.zero_add,Nat.reduceAdd] at hN
 rw [hT]
 simp only [csP_eq,putC_q,addQ_q,addQ_code,hW,wtC,List.length_append,List.length_cons,List.length_nil,List.map_append,List.map_cons,List.map_nil,Nat.zero_add,Nat.reduceAdd]
 refine con_runP Tryz.func62 rfl rfl (by simp [Tryz.ntmps62]) rfl ?_
 refine byP (fc hk Tryz.ntmps62) ?_
 refine sw_callV (hP1) rfl rfl rfl rfl rfl (by decide) ?_ (sw_run 200 _ _ _ ?_)
 ·exact byQ True.intro
 refine byP aftV2.eq_1 ?_
 refine sw_drawn (.cons 0 true (.cons 1 true (.cons 2 true (.cons 3 true (.cons 4 true (.cons 5 true (.cons 6 true (.cons 7 true (.cons 8 true (.cons 9 true (.cons 10 true (.cons 13 true (.cons 14 true (.cons 15 true (.cons 16 true (.cons 11 false (.cons 12 false (.cons 17 true (.cons 18 false (.cons 19 false (.cons 20 true (.cons 21 true (.cons 22 false (.nil)))))))))))))))))))))))) (by kernel_rfl) fQP_panic (by kernel_rfl) (sw_run 200 _ _ _ ?_)
 refine byP (fc i0 r0) ?_
 refine sw_callD (hN) rfl (aAs_ok ?_) ?_ (sw_run 200 _ _ _ ?_)
 ·exact byQ True.intro
 ·simp only [okR]
 refine byP Tryz.results62 ?_
 repeat' (with_reducible apply And.intro)
 all_goals first | (intro h;exact h.elim) | (intro o ho;omega) | (unfold maxLen;omega) | omega
theorem con_cpS:∀ e:Tm,CpSp e:=by
 refine Tm.ind fun e ih names s hr hp hc => ?_
 obtain ⟨hk,_⟩:=pl_kind hp
 rcases hk with h | h | h | h | h | h | h | h | h
 ·exact con_cs1 e names s hr h (hc.var h)
 ·exact con_cs2 e names s hr h
 ·exact con_cs3 e names s hr h
 ·exact con_cs4 e ih names s hr hp hc h
 ·exact con_cs5 e ih names s hr hp hc h
 ·exact con_cs6 e ih names s hr hp hc h
 ·exact con_cs7 e ih names s hr hp hc h
 ·exact con_cs8 e ih names s hr hp hc h
 ·exact con_cs9 e ih names s hr hp hc h
end Go.Proofs.YtaidalilfmjfgaaGreat
