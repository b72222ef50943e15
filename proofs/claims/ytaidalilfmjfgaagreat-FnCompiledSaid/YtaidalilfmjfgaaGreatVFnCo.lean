import Derived.Test.YtaidalilfmjfgaaGreatVFnC
namespace Go.Proofs.YtaidalilfmjfgaaGreat
open Go.RowKit
set_option linter.unusedVariables false
set_option linter.unusedSimpArgs false
set_option maxRecDepth 20000
theorem nM_snoc (l:List Ins) (k:Nat) (h:k<l.length):nM (l.take (k+1))=nM (l.take k)+(if mkB (l[k]!).op=true then 1 else 0):=by
 rw [take_snoc l k h,nM_app]
 generalize l[k]! = x
 unfold nM
 by_cases hm:mkB x.op=true
 ·rw [if_pos hm];simp [List.countP_cons,hm]
 ·rw [if_neg hm];simp [List.countP_cons,hm]
theorem nM_len (l:List Ins):nM l≤l.length:=by
 unfold nM
 have:=List.countP_le_length (p:=mkB) (l:=l.map Ins.op)
 simpa using this
set_option maxHeartbeats 16000000 in
theorem con_FnCompiled (zs:List Int) (hz:∀ n ∈ zs,0≤n∧n<256):Con Tryz.prog 3 [.one (bytD zs)] [.one (.bool true)]:=by
 have hb:=con_bigB zs
 show Con Tryz.prog 3 [.one (.rows 1 zs.length (zs.map D.byt))] [.one (.bool true)]
 by_cases hbig:1048576<(zs.length:Int)
 ·rw [decide_eq_true hbig] at hb
  refine con_run Tryz.func3 rfl rfl (by simp [Tryz.ntmps3]) ?_
  refine byP (fc Tryz.ntmps3 Tryz.results3) ?_
  refine sw_call (hb) rfl (aAs_ok (byQ True.intro)) (byQ True.intro) ?_
  exact sw_run 200 _ _ _ (byP (fc Tryz.ntmps3 Tryz.results3) True.intro)
 rw [decide_eq_false hbig] at hb
 have hok:BytOk zs:=⟨by omega,hz⟩
 have hD1:ConX Tryz.prog 8 [.b (.one (.rows 1 zs.length (zs.map D.byt)))] (dmI 200000) dmO dmR:=con_drawC zs hok
 have hD2:ConX Tryz.prog 11 [.b (.one (.rows 1 zs.length (zs.map D.byt)))] (dmI 1100) dmO dmR:=con_drawF zs hok
 refine con_run Tryz.func3 rfl rfl (by simp [Tryz.ntmps3]) ?_
 refine byP (fc Tryz.ntmps3 Tryz.results3) ?_
 refine sw_call (hb) rfl (aAs_ok (byQ True.intro)) (byQ True.intro) ?_
 refine sw_run 200 _ _ _ (byQ ?_)
 refine sw_callXR (hD1) rfl rfl rfl (byP (dmF zs) True.intro) (byP (dmF zs) True.intro) (byP (dmF zs) True.intro) ?_
 rintro e he
 have he':szL (tmC e)≤200000:=he
 have hCI:=con_CompI e (by omega)
 have hCS:=con_CompS e (by omega)
 have hlaw:=cm_law e
 have hlen:=cm_len e
 have hF:=con_cntI e (by omega)
 have hSame:=con_sameC (cmR e).1 (by omega)
 have hcle:=cF_le e
 rw [tmC_eq] at hCI hCS hF
 simp only [inssD] at hCI hCS
 generalize (cmR e).2=ok at *
 generalize (cmR e).1=L at *
 obtain ⟨hins,hend⟩:=hlaw
 refine sw_run 200 _ _ _ (byP (fc (dmF zs) (drZ zs)) ?_)
 refine sw_call (hCI) rfl (aAs_ok (byQ True.intro)) (byQ True.intro) ?_
 refine sw_run 200 _ _ _ (byQ ?_)
 refine sw_call (hCS) rfl (aAs_ok (byQ True.intro)) (byQ True.intro) ?_
 refine sw_run 200 _ _ _ (byQ ?_)
 refine sw_callXR (hD2) rfl rfl rfl (byP (dmF zs) True.intro) (byP (dmF zs) True.intro) (byP (dmF zs) True.intro) ?_
 rintro u hu
 have hu':szL (tmC u)≤1100:=hu
 have hUI:=con_cntI u (by omega)
 have hUS:=con_cntS u (by omega)
 rw [tmC_eq] at hUI hUS
 refine sw_run 200 _ _ _ (byP (fc (dmF zs) (drZ zs)) ?_)
 refine sw_drawn (.cons 0 true (.cons 1 true (.cons 2 true (.cons 3 true (.cons 4 true (.cons 5 true (.cons 6 false (.cons 7 true (.cons 8 true (.cons 9 true (.cons 10 true (.cons 12 true (.cons 11 false (.cons 13 false (.cons 14 true (.cons 15 true (.nil))))))))))))))))) (by kernel_rfl) fQ_panic (by kernel_rfl) ?_
 refine sw_run 200 _ _ _ (byQ ?_)
 refine sw_callD (hSame) rfl (aAs_ok (byQ True.intro)) (byQ True.intro) ?_
 refine sw_run 200 _ _ _ (byQ ?_)
 refine sw_callD (hUI) rfl (aAs_ok (byQ True.intro)) (byQ True.intro) ?_
 refine sw_run 200 _ _ _ (byQ ?_)
 refine sw_callD (hUS) rfl (aAs_ok (byQ True.intro)) (byQ True.intro) ?_
 refine sw_run 200 _ _ _ (byQ ?_)
 refine sw_fz 1 rfl ?_
 refine byQ ?_
 refine sw_loop (fun k:Nat=>k≤L.length) (fun k=>⟨94,[(10,.i k),(9,.i (nM (L.take k))),(5,.b ok),(4,.br (.rows 2 L.length (flC insC L))),(3,.bx 0 0)],[(0,[.i e.kind,.s e.name,.s e.other,.i e.n,.i e.ty.kind,.br (.rows 2 e.ty.args.length (tysC e.ty.args)),.i e.res.kind,.br (.rows 2 e.res.args.length (tysC e.res.args)),.br (.rows 9 e.args.length (tmsC e.args))])],[],4,[]⟩) (fun k=>L.length-k) 0 id (Nat.zero_le _) ?_ ?_
 ·exact byP (fc Int.natCast_zero (show nM []=0 from rfl)) True.intro
 rintro k hk
 by_cases hlt:k<L.length
 ·have hi:(k:Int)<(L.length:Int):=by omega
  have k0:0≤(k:Int):=by omega
  have hR:rowAt 2 (flC insC L) k=[.int (L[k]!).op,.int (L[k]!).a]:=flC_row insC_len L k hlt
  have hI:Con Tryz.prog 15 [.ag [.int (L[k]!).op,.int (L[k]!).a]] [.one (.bool (insB L[k]!))]:=con_IsInstrS L[k]!
  rw [hins _ (mem_bang hlt)] at hI
  have hst:=nM_snoc L k hlt
  have hnl:=nM_len (L.take k)
  have htl:(L.take k).length=k:=by rw [List.length_take];omega
  have hmb:mkB (L[k]!).op=(decide ((L[k]!).op=7) || decide ((L[k]!).op=8)):=rfl
  generalize L[k]! = x at *
  rcases pc (x.op=7) with h7 | h7
  ·rw [show mkB x.op=true from by rw [hmb,of_eq_true h7];rfl,if_pos rfl] at hst
   have hq:(nM (L.take k):Int)+1=(nM (L.take (k+1)):Int):=by omega
   refine sw_run 200 _ _ _ (byP (fc hi (fc hR h7)) ?_)
   refine ⟨by unfold inI;omega, ?_⟩
   refine sw_call (hI) rfl (aAs_ok (byQ True.intro)) (byQ True.intro) ?_
   refine sw_run 200 _ _ _ (byP hq ?_)
   exact ⟨by unfold inI;omega,k+1,id,by omega,by omega,byP cast1 True.intro⟩
  ·rcases pc (x.op=8) with h8 | h8
   ·rw [show mkB x.op=true from by rw [hmb,of_eq_true h8];rfl,if_pos rfl] at hst
    have hq:(nM (L.take k):Int)+1=(nM (L.take (k+1)):Int):=by omega
    refine sw_run 200 _ _ _ (byP (fc hi (fc hR (fc h7 h8))) ?_)
    refine ⟨by unfold inI;omega, ?_⟩
    refine sw_call (hI) rfl (aAs_ok (byQ True.intro)) (byQ True.intro) ?_
    refine sw_run 200 _ _ _ (byP hq ?_)
    exact ⟨by unfold inI;omega,k+1,id,by omega,by omega,byP cast1 True.intro⟩
   ·rw [show mkB x.op=false from by rw [hmb,decide_eq_false (of_eq_false h7),decide_eq_false (of_eq_false h8)];rfl,if_neg (by decide)] at hst
    have hq:nM (L.take (k+1))=nM (L.take k):=by omega
    refine sw_run 200 _ _ _ (byP (fc hi (fc hR (fc h7 h8))) ?_)
    refine sw_call (hI) rfl (aAs_ok (byQ True.intro)) (byQ True.intro) ?_
    refine sw_run 200 _ _ _ (byQ ?_)
    exact ⟨by unfold inI;omega,k+1,id,by omega,by omega,byP (fc cast1 hq) True.intro⟩
 ·have hi:¬ (k:Int)<(L.length:Int):=by omega
  obtain rfl:k=L.length:=by omega
  rw [List.take_length]
  refine sw_run 200 _ _ _ (byP hi ?_)
  refine sw_run 200 _ _ _ ?_
  cases ok
  ·exact byP (fc Tryz.ntmps3 Tryz.results3) True.intro
  ·obtain ⟨hn,l,hl⟩:=hend rfl
   rw [hn]
   have hpos:0<(L.length:Int):=by rw [hl,List.length_append];simp only [List.length_cons,List.length_nil];omega
   have h1:((L.length:Int)-1).toNat=l.length:=by rw [hl,List.length_append];simp only [List.length_cons,List.length_nil];omega
   have h2:0≤(L.length:Int)-1:=by omega
   have h3:(L.length:Int)-1<(L.length:Int):=by omega
   have hin:inI ((L.length:Int)-1):=by unfold inI;omega
   have hR:rowAt 2 (flC insC L) l.length=[.int 10,.int 0]:=by
    have:=flC_row insC_len L l.length (by rw [hl,List.length_append];simp only [List.length_cons,List.length_nil];omega)
    rw [this,hl,at_end];rfl
   refine byQ ?_
   refine sw_call (hF) rfl (aAs_ok (byQ True.intro)) (byQ True.intro) ?_
   exact sw_run 200 _ _ _ (byP (fc hpos (fc h1 (fc h2 (fc h3 (fc hin (fc hR (fc Tryz.ntmps3 Tryz.results3))))))) True.intro)
theorem top_FnCompiled (w:World) (v:Value) (h:BArg w v):Calls Tryz.prog 3 #[v] w fun e w'=>e = .returned (.bool true)∧Below w.heap.size w w':=by
 obtain ⟨zs,hr,_,hz⟩:=h
 exact lp_top (con_FnCompiled zs hz) (rpd_cons (rpd_one hr) (rpd_nil _))
end Go.Proofs.YtaidalilfmjfgaaGreat
