import Derived.Test.YtaidalilfmjfgaaGreatVmF
import Derived.Test.YtaidalilfmjfgaaGreatVmU
import Derived.Test.YtaidalilfmjfgaaGreatBy
import Derived.Test.YtaidalilfmjfgaaGreatShI
import Derived.Test.YtaidalilfmjfgaaGreatShS
import Derived.Test.YtaidalilfmjfgaaGreatCox
import Derived.ChangeSlices
import Derived.Test.YtaidalilfmjfgaaGreatLp
import Derived.Test.YtaidalilfmjfgaaGreatVee
import Derived.Test.YtaidalilfmjfgaaGreatVeC
namespace Go.Proofs.YtaidalilfmjfgaaGreat
open Go.RowKit
set_option linter.unusedVariables false
set_option linter.unusedSimpArgs false
theorem codeB_at {code:List Ins} (h:codeB code=true) {k:Nat} (hk:k<code.length):insB code[k]! = true:=by
 unfold codeB at h
 simp only [Bool.and_eq_true] at h
 exact List.all_eq_true.1 h.2 _ (mem_bang hk)
theorem GM0:GM 0 ⟨0,[],[],[]⟩:=⟨by simp,by simp,by simp,by simp,by simp,by simp,by simp⟩
def tlM (m:Mch) (x:Ins):Vl:=if x.op=10 then rtV m else .num 0
set_option maxRecDepth 20000 in
theorem con_do1 (m:Mch) (a:Int) (hm:SzM m):ConP Tryz.prog 77 [.p (mcS m 0),.b (.ag (insC ⟨1,a⟩))] [mcS (exM m (.num 0) ⟨1,a⟩).2.1 (exM m (.num 0) ⟨1,a⟩).1] [.ag (vlQ (tlM m ⟨1,a⟩))]:=by
 have hst:=hm.st
 have hnm:=hm.nm
 have hfr:=hm.fr
 have ht:tlM m ⟨1,a⟩ = .num 0:=by unfold tlM;simp only;rw [if_neg (by decide)]
 rw [ht]
 have he:exM m (.num 0) ⟨1,a⟩=(0,pushM m (.num a),.num 0):=by unfold exM;simp only;rw [if_pos (by decide)]
 rw [he]
 have hU:=con_pushS m 0 (.num a) (by omega)
 unfold mcS vlQ at hU
 unfold mcS vlQ
 simp only [nm_m,nm_f,nm_r,nm_c,List.length_nil,flC,insC] at hU ⊢
 refine con_runP Tryz.func77 rfl rfl (by simp [Tryz.ntmps77]) rfl ?_
 refine byP Tryz.ntmps77 ?_
 refine sw_callPR (hU) rfl rfl rfl ?_ ?_ ?_ (sw_run 200 _ _ _ ?_)
 ·exact byQ True.intro
 ·exact byQ True.intro
 ·exact byQ True.intro
 exact byP Tryz.results77 True.intro
set_option maxRecDepth 20000 in
theorem con_do2 (m:Mch) (a:Int) (hm:SzM m):ConP Tryz.prog 77 [.p (mcS m 0),.b (.ag (insC ⟨2,a⟩))] [mcS (exM m (.num 0) ⟨2,a⟩).2.1 (exM m (.num 0) ⟨2,a⟩).1] [.ag (vlQ (tlM m ⟨2,a⟩))]:=by
 have hst:=hm.st
 have hnm:=hm.nm
 have hfr:=hm.fr
 have ht:tlM m ⟨2,a⟩ = .num 0:=by unfold tlM;simp only;rw [if_neg (by decide)]
 rw [ht]
 have he:exM m (.num 0) ⟨2,a⟩=(0,pushM m (.num a),.num 0):=by unfold exM;simp only;rw [if_pos (by decide)]
 rw [he]
 have hU:=con_pushS m 0 (.num a) (by omega)
 unfold mcS vlQ at hU
 unfold mcS vlQ
 simp only [nm_m,nm_f,nm_r,nm_c,List.length_nil,flC,insC] at hU ⊢
 refine con_runP Tryz.func77 rfl rfl (by simp [Tryz.ntmps77]) rfl ?_
 refine byP Tryz.ntmps77 ?_
 refine sw_callPR (hU) rfl rfl rfl ?_ ?_ ?_ (sw_run 200 _ _ _ ?_)
 ·exact byQ True.intro
 ·exact byQ True.intro
 ·exact byQ True.intro
 exact byP Tryz.results77 True.intro
set_option maxRecDepth 20000 in
theorem con_do3 (m:Mch) (a:Int) (hm:SzM m) (ha:0≤a∧a≤299):ConP Tryz.prog 77 [.p (mcS m 0),.b (.ag (insC ⟨3,a⟩))] [mcS (exM m (.num 0) ⟨3,a⟩).2.1 (exM m (.num 0) ⟨3,a⟩).1] [.ag (vlQ (tlM m ⟨3,a⟩))]:=by
 have hst:=hm.st
 have hnm:=hm.nm
 have hfr:=hm.fr
 have ht:tlM m ⟨3,a⟩ = .num 0:=by unfold tlM;simp only;rw [if_neg (by decide)]
 rw [ht]
 have he:(exM m (.num 0) ⟨3,a⟩).1=(varM m a).1∧(exM m (.num 0) ⟨3,a⟩).2.1=(varM m a).2:=by
  unfold exM
  simp only
  rw [if_neg (by decide)]
  rw [if_pos (by decide)]
  (try unfold varM)
  (try unfold unlM)
  (try unfold bndM)
  (try unfold unbM)
  (repeat' split) <;> exact ⟨rfl,rfl⟩
 rw [he.1,he.2]
 have hU:=con_varS m a hm ha
 generalize varM m a=q at hU ⊢
 unfold mcS at hU
 unfold mcS vlQ
 simp only [nm_m,nm_f,nm_r,nm_c,List.length_nil,flC,insC] at hU ⊢
 refine con_runP Tryz.func77 rfl rfl (by simp [Tryz.ntmps77]) rfl ?_
 refine byP Tryz.ntmps77 ?_
 refine sw_callPR (hU) rfl rfl rfl ?_ ?_ ?_ (sw_run 200 _ _ _ ?_)
 ·exact byQ True.intro
 ·exact byQ True.intro
 ·exact byQ True.intro
 exact byP Tryz.results77 True.intro
set_option maxRecDepth 20000 in
theorem con_do4 (m:Mch) (a:Int) (hm:SzM m) (ha:1≤a∧a≤8):ConP Tryz.prog 77 [.p (mcS m 0),.b (.ag (insC ⟨4,a⟩))] [mcS (exM m (.num 0) ⟨4,a⟩).2.1 (exM m (.num 0) ⟨4,a⟩).1] [.ag (vlQ (tlM m ⟨4,a⟩))]:=by
 have hst:=hm.st
 have hnm:=hm.nm
 have hfr:=hm.fr
 have ht:tlM m ⟨4,a⟩ = .num 0:=by unfold tlM;simp only;rw [if_neg (by decide)]
 rw [ht]
 have he:(exM m (.num 0) ⟨4,a⟩).1=(opM m (opB a)).1∧(exM m (.num 0) ⟨4,a⟩).2.1=(opM m (opB a)).2:=by
  unfold exM
  simp only
  rw [if_neg (by decide)]
  rw [if_neg (by decide)]
  rw [if_pos (by decide)]
  (try unfold varM)
  (try unfold unlM)
  (try unfold bndM)
  (try unfold unbM)
  (repeat' split) <;> exact ⟨rfl,rfl⟩
 rw [he.1,he.2]
 have hU:=con_opS m a (by omega) ha
 generalize opM m (opB a)=q at hU ⊢
 unfold mcS at hU
 unfold mcS vlQ
 simp only [nm_m,nm_f,nm_r,nm_c,List.length_nil,flC,insC] at hU ⊢
 refine con_runP Tryz.func77 rfl rfl (by simp [Tryz.ntmps77]) rfl ?_
 refine byP Tryz.ntmps77 ?_
 refine sw_callPR (hU) rfl rfl rfl ?_ ?_ ?_ (sw_run 200 _ _ _ ?_)
 ·exact byQ True.intro
 ·exact byQ True.intro
 ·exact byQ True.intro
 exact byP Tryz.results77 True.intro
set_option maxRecDepth 20000 in
theorem con_do5 (m:Mch) (a:Int) (hm:SzM m):ConP Tryz.prog 77 [.p (mcS m 0),.b (.ag (insC ⟨5,a⟩))] [mcS (exM m (.num 0) ⟨5,a⟩).2.1 (exM m (.num 0) ⟨5,a⟩).1] [.ag (vlQ (tlM m ⟨5,a⟩))]:=by
 have hst:=hm.st
 have hnm:=hm.nm
 have hfr:=hm.fr
 have ht:tlM m ⟨5,a⟩ = .num 0:=by unfold tlM;simp only;rw [if_neg (by decide)]
 rw [ht]
 unfold exM
 simp only
 rw [if_neg (by decide)]
 rw [if_neg (by decide)]
 rw [if_neg (by decide)]
 rw [if_pos (by decide)]
 unfold mcS vlQ
 simp only [pcM,nm_m,nm_f,nm_r,nm_c,List.length_nil,flC,insC]
 refine con_runP Tryz.func77 rfl rfl (by simp [Tryz.ntmps77]) rfl ?_
 exact byP (fc Tryz.ntmps77 Tryz.results77) True.intro
set_option maxRecDepth 20000 in
theorem con_do6 (m:Mch) (a:Int) (hm:SzM m):ConP Tryz.prog 77 [.p (mcS m 0),.b (.ag (insC ⟨6,a⟩))] [mcS (exM m (.num 0) ⟨6,a⟩).2.1 (exM m (.num 0) ⟨6,a⟩).1] [.ag (vlQ (tlM m ⟨6,a⟩))]:=by
 have hst:=hm.st
 have hnm:=hm.nm
 have hfr:=hm.fr
 have ht:tlM m ⟨6,a⟩ = .num 0:=by unfold tlM;simp only;rw [if_neg (by decide)]
 rw [ht]
 have he:(exM m (.num 0) ⟨6,a⟩).1=(unlM m a).1∧(exM m (.num 0) ⟨6,a⟩).2.1=(unlM m a).2:=by
  unfold exM
  simp only
  rw [if_neg (by decide)]
  rw [if_neg (by decide)]
  rw [if_neg (by decide)]
  rw [if_neg (by decide)]
  rw [if_pos (by decide)]
  (try unfold varM)
  (try unfold unlM)
  (try unfold bndM)
  (try unfold unbM)
  (repeat' split) <;> exact ⟨rfl,rfl⟩
 rw [he.1,he.2]
 have hU:=con_unlS m a hst
 generalize unlM m a=q at hU ⊢
 unfold mcS at hU
 unfold mcS vlQ
 simp only [nm_m,nm_f,nm_r,nm_c,List.length_nil,flC,insC] at hU ⊢
 refine con_runP Tryz.func77 rfl rfl (by simp [Tryz.ntmps77]) rfl ?_
 refine byP Tryz.ntmps77 ?_
 refine sw_callPR (hU) rfl rfl rfl ?_ ?_ ?_ (sw_run 200 _ _ _ ?_)
 ·exact byQ True.intro
 ·exact byQ True.intro
 ·exact byQ True.intro
 exact byP Tryz.results77 True.intro
set_option maxRecDepth 20000 in
theorem con_do7 (m:Mch) (a:Int) (hm:SzM m):ConP Tryz.prog 77 [.p (mcS m 0),.b (.ag (insC ⟨7,a⟩))] [mcS (exM m (.num 0) ⟨7,a⟩).2.1 (exM m (.num 0) ⟨7,a⟩).1] [.ag (vlQ (tlM m ⟨7,a⟩))]:=by
 have hst:=hm.st
 have hnm:=hm.nm
 have hfr:=hm.fr
 have ht:tlM m ⟨7,a⟩ = .num 0:=by unfold tlM;simp only;rw [if_neg (by decide)]
 rw [ht]
 unfold exM
 simp only
 rw [if_neg (by decide)]
 rw [if_neg (by decide)]
 rw [if_neg (by decide)]
 rw [if_neg (by decide)]
 rw [if_neg (by decide)]
 rw [if_pos (by decide)]
 have hb:decide ((7:Int)=8)=false:=by decide
 (try rw [hb])
 (try rw [show decide True=true from rfl])
 have hU:=con_pushS m 0 (.fn false a m.nm) (by omega)
 unfold mcS vlQ at hU
 unfold mcS vlQ
 simp only [fn_m,fn_f,fn_r,fn_c,nm_m,nm_f,nm_r,nm_c,List.length_nil,flC,insC] at hU ⊢
 refine con_runP Tryz.func77 rfl rfl (by simp [Tryz.ntmps77]) rfl ?_
 refine byP Tryz.ntmps77 ?_
 refine sw_drawn (.cons 0 true (.cons 1 true (.cons 2 true (.cons 3 true (.cons 4 true (.cons 5 true (.cons 6 true (.cons 7 true (.cons 8 true (.cons 9 true (.cons 10 true (.cons 11 false (.nil))))))))))))) (by kernel_rfl) fQP_panic (by kernel_rfl) (sw_run 200 _ _ _ ?_)
 refine byQ ?_
 refine sw_callDPR (cap:=[]) (hU) rfl rfl rfl ?_ ?_ ?_ rfl (sw_run 200 _ _ _ ?_)
 ·exact byQ True.intro
 ·exact byQ True.intro
 ·exact byQ True.intro
 exact byP Tryz.results77 True.intro
set_option maxRecDepth 20000 in
theorem con_do8 (m:Mch) (a:Int) (hm:SzM m):ConP Tryz.prog 77 [.p (mcS m 0),.b (.ag (insC ⟨8,a⟩))] [mcS (exM m (.num 0) ⟨8,a⟩).2.1 (exM m (.num 0) ⟨8,a⟩).1] [.ag (vlQ (tlM m ⟨8,a⟩))]:=by
 have hst:=hm.st
 have hnm:=hm.nm
 have hfr:=hm.fr
 have ht:tlM m ⟨8,a⟩ = .num 0:=by unfold tlM;simp only;rw [if_neg (by decide)]
 rw [ht]
 unfold exM
 simp only
 rw [if_neg (by decide)]
 rw [if_neg (by decide)]
 rw [if_neg (by decide)]
 rw [if_neg (by decide)]
 rw [if_neg (by decide)]
 rw [if_pos (by decide)]
 have hb:decide ((8:Int)=8)=true:=by decide
 (try rw [hb])
 (try rw [show decide True=true from rfl])
 have hU:=con_pushS m 0 (.fn true a m.nm) (by omega)
 unfold mcS vlQ at hU
 unfold mcS vlQ
 simp only [fn_m,fn_f,fn_r,fn_c,nm_m,nm_f,nm_r,nm_c,List.length_nil,flC,insC] at hU ⊢
 refine con_runP Tryz.func77 rfl rfl (by simp [Tryz.ntmps77]) rfl ?_
 refine byP Tryz.ntmps77 ?_
 refine sw_drawn (.cons 0 true (.cons 1 true (.cons 2 true (.cons 3 true (.cons 4 true (.cons 5 true (.cons 6 true (.cons 7 true (.cons 8 true (.cons 9 true (.cons 10 true (.cons 11 false (.nil))))))))))))) (by kernel_rfl) fQP_panic (by kernel_rfl) (sw_run 200 _ _ _ ?_)
 refine byQ ?_
 refine sw_callDPR (cap:=[]) (hU) rfl rfl rfl ?_ ?_ ?_ rfl (sw_run 200 _ _ _ ?_)
 ·exact byQ True.intro
 ·exact byQ True.intro
 ·exact byQ True.intro
 exact byP Tryz.results77 True.intro
set_option maxRecDepth 20000 in
theorem con_do9 (m:Mch) (a:Int) (hm:SzM m):ConP Tryz.prog 77 [.p (mcS m 0),.b (.ag (insC ⟨9,a⟩))] [mcS (exM m (.num 0) ⟨9,a⟩).2.1 (exM m (.num 0) ⟨9,a⟩).1] [.ag (vlQ (tlM m ⟨9,a⟩))]:=by
 have hst:=hm.st
 have hnm:=hm.nm
 have hfr:=hm.fr
 have ht:tlM m ⟨9,a⟩ = .num 0:=by unfold tlM;simp only;rw [if_neg (by decide)]
 rw [ht]
 have he:(exM m (.num 0) ⟨9,a⟩).1=(callM m).1∧(exM m (.num 0) ⟨9,a⟩).2.1=(callM m).2:=by
  unfold exM
  simp only
  rw [if_neg (by decide)]
  rw [if_neg (by decide)]
  rw [if_neg (by decide)]
  rw [if_neg (by decide)]
  rw [if_neg (by decide)]
  rw [if_neg (by decide)]
  rw [if_pos (by decide)]
  (try unfold varM)
  (try unfold unlM)
  (try unfold bndM)
  (try unfold unbM)
  (repeat' split) <;> exact ⟨rfl,rfl⟩
 rw [he.1,he.2]
 have hU:=con_callS m hst (fun v hv=>hm.ct v hv) hfr
 generalize callM m=q at hU ⊢
 unfold mcS at hU
 unfold mcS vlQ
 simp only [nm_m,nm_f,nm_r,nm_c,List.length_nil,flC,insC] at hU ⊢
 refine con_runP Tryz.func77 rfl rfl (by simp [Tryz.ntmps77]) rfl ?_
 refine byP Tryz.ntmps77 ?_
 refine sw_callPR (hU) rfl rfl rfl ?_ ?_ ?_ (sw_run 200 _ _ _ ?_)
 ·exact byQ True.intro
 ·exact byQ True.intro
 ·exact byQ True.intro
 exact byP Tryz.results77 True.intro
set_option maxRecDepth 20000 in
theorem con_do10 (m:Mch) (a:Int) (hm:SzM m):ConP Tryz.prog 77 [.p (mcS m 0),.b (.ag (insC ⟨10,a⟩))] [mcS (exM m (.num 0) ⟨10,a⟩).2.1 (exM m (.num 0) ⟨10,a⟩).1] [.ag (vlQ (tlM m ⟨10,a⟩))]:=by
 have hst:=hm.st
 have hnm:=hm.nm
 have hfr:=hm.fr
 unfold exM
 simp only
 rw [if_neg (by decide)]
 rw [if_neg (by decide)]
 rw [if_neg (by decide)]
 rw [if_neg (by decide)]
 rw [if_neg (by decide)]
 rw [if_neg (by decide)]
 rw [if_neg (by decide)]
 rw [if_pos (by decide)]
 have ht:tlM m ⟨10,a⟩=rtV m:=by unfold tlM;rw [if_pos rfl]
 rw [ht]
 have hU:=con_retS m hst hfr (fun f hf=>hm.fs f hf)
 generalize retM m (.num 0)=q at hU ⊢
 generalize rtV m=v at hU ⊢
 unfold mcS vlQ at hU ⊢
 simp only [insC] at hU ⊢
 refine con_runP Tryz.func77 rfl rfl (by simp [Tryz.ntmps77]) rfl ?_
 refine byP Tryz.ntmps77 ?_
 refine sw_callPR (hU) rfl rfl rfl ?_ ?_ ?_ (sw_run 200 _ _ _ ?_)
 ·exact byQ True.intro
 ·exact byQ True.intro
 ·exact byQ True.intro
 exact byP Tryz.results77 True.intro
set_option maxRecDepth 20000 in
theorem con_do11 (m:Mch) (a:Int) (hm:SzM m):ConP Tryz.prog 77 [.p (mcS m 0),.b (.ag (insC ⟨11,a⟩))] [mcS (exM m (.num 0) ⟨11,a⟩).2.1 (exM m (.num 0) ⟨11,a⟩).1] [.ag (vlQ (tlM m ⟨11,a⟩))]:=by
 have hst:=hm.st
 have hnm:=hm.nm
 have hfr:=hm.fr
 have ht:tlM m ⟨11,a⟩ = .num 0:=by unfold tlM;simp only;rw [if_neg (by decide)]
 rw [ht]
 have he:(exM m (.num 0) ⟨11,a⟩).1=(bndM m).1∧(exM m (.num 0) ⟨11,a⟩).2.1=(bndM m).2:=by
  unfold exM
  simp only
  rw [if_neg (by decide)]
  rw [if_neg (by decide)]
  rw [if_neg (by decide)]
  rw [if_neg (by decide)]
  rw [if_neg (by decide)]
  rw [if_neg (by decide)]
  rw [if_neg (by decide)]
  rw [if_neg (by decide)]
  rw [if_pos (by decide)]
  (try unfold varM)
  (try unfold unlM)
  (try unfold bndM)
  (try unfold unbM)
  (repeat' split) <;> exact ⟨rfl,rfl⟩
 rw [he.1,he.2]
 have hU:=con_bndS m hst hnm
 generalize bndM m=q at hU ⊢
 unfold mcS at hU
 unfold mcS vlQ
 simp only [nm_m,nm_f,nm_r,nm_c,List.length_nil,flC,insC] at hU ⊢
 refine con_runP Tryz.func77 rfl rfl (by simp [Tryz.ntmps77]) rfl ?_
 refine byP Tryz.ntmps77 ?_
 refine sw_callPR (hU) rfl rfl rfl ?_ ?_ ?_ (sw_run 200 _ _ _ ?_)
 ·exact byQ True.intro
 ·exact byQ True.intro
 ·exact byQ True.intro
 exact byP Tryz.results77 True.intro
set_option maxRecDepth 20000 in
theorem con_do12 (m:Mch) (a:Int) (hm:SzM m):ConP Tryz.prog 77 [.p (mcS m 0),.b (.ag (insC ⟨12,a⟩))] [mcS (exM m (.num 0) ⟨12,a⟩).2.1 (exM m (.num 0) ⟨12,a⟩).1] [.ag (vlQ (tlM m ⟨12,a⟩))]:=by
 have hst:=hm.st
 have hnm:=hm.nm
 have hfr:=hm.fr
 have ht:tlM m ⟨12,a⟩ = .num 0:=by unfold tlM;simp only;rw [if_neg (by decide)]
 rw [ht]
 have he:(exM m (.num 0) ⟨12,a⟩).1=(unbM m).1∧(exM m (.num 0) ⟨12,a⟩).2.1=(unbM m).2:=by
  unfold exM
  simp only
  rw [if_neg (by decide)]
  rw [if_neg (by decide)]
  rw [if_neg (by decide)]
  rw [if_neg (by decide)]
  rw [if_neg (by decide)]
  rw [if_neg (by decide)]
  rw [if_neg (by decide)]
  rw [if_neg (by decide)]
  rw [if_neg (by decide)]
  (try unfold varM)
  (try unfold unlM)
  (try unfold bndM)
  (try unfold unbM)
  (repeat' split) <;> exact ⟨rfl,rfl⟩
 rw [he.1,he.2]
 have hU:=con_unbS m hnm
 generalize unbM m=q at hU ⊢
 unfold mcS at hU
 unfold mcS vlQ
 simp only [nm_m,nm_f,nm_r,nm_c,List.length_nil,flC,insC] at hU ⊢
 refine con_runP Tryz.func77 rfl rfl (by simp [Tryz.ntmps77]) rfl ?_
 refine byP Tryz.ntmps77 ?_
 refine sw_callPR (hU) rfl rfl rfl ?_ ?_ ?_ (sw_run 200 _ _ _ ?_)
 ·exact byQ True.intro
 ·exact byQ True.intro
 ·exact byQ True.intro
 exact byP Tryz.results77 True.intro
theorem con_do (m:Mch) (x:Ins) (hm:SzM m) (hx:insB x=true):ConP Tryz.prog 77 [.p (mcS m 0),.b (.ag (insC x))] [mcS (exM m (.num 0) x).2.1 (exM m (.num 0) x).1] [.ag (vlQ (tlM m x))]:=by
 obtain ⟨ho,ha,h4,h38⟩:=ins_cases hx
 obtain ⟨op,a⟩:=x
 simp only at ho ha h4 h38
 rcases ho with rfl | rfl | rfl | rfl | rfl | rfl | rfl | rfl | rfl | rfl | rfl | rfl
 ·exact con_do1 m a hm
 ·exact con_do2 m a hm
 ·exact con_do3 m a hm ⟨ha.1,h38 (by omega)⟩
 ·exact con_do4 m a hm (h4 rfl)
 ·exact con_do5 m a hm
 ·exact con_do6 m a hm
 ·exact con_do7 m a hm
 ·exact con_do8 m a hm
 ·exact con_do9 m a hm
 ·exact con_do10 m a hm
 ·exact con_do11 m a hm
 ·exact con_do12 m a hm
theorem tl_ok (m:Mch) (x:Ins) (hx:insB x=true):((exM m (.num 0) x).1=1→tlM m x=(exM m (.num 0) x).2.2)∧((exM m (.num 0) x).1≠0→(exM m (.num 0) x).1≠1→(tlM m x).f=false):=by
 unfold tlM
 by_cases h:x.op=10
 ·rw [if_pos h]
  have e:exM m (.num 0) x=retM m (.num 0):=by
   unfold exM
   rw [if_neg (by omega),if_neg (by omega),if_neg (by omega),if_neg (by omega),if_neg (by omega),if_neg (by omega),if_neg (by omega),if_pos h]
  rw [e]
  unfold retM rtV
  split
  ·exact ⟨fun h=>(by simp at h),fun _ _=>rfl⟩
  ·split
   ·exact ⟨fun _=>rfl,fun _ h=>absurd rfl h⟩
   ·exact ⟨fun h=>(by simp at h),fun h _=>absurd rfl h⟩
 ·rw [if_neg h]
  refine ⟨fun h1 => ?_,fun _ _=>rfl⟩
  unfold exM at h1 ⊢
  split
  ·rfl
  rename_i n1;rw [if_neg n1] at h1
  split
  ·split <;> rfl
  rename_i n2;rw [if_neg n2] at h1
  split
  ·rfl
  rename_i n3;rw [if_neg n3] at h1
  split
  ·rfl
  rename_i n4;rw [if_neg n4] at h1
  split
  ·split
   ·rfl
   split
   ·rfl
   split <;> rfl
  rename_i n5;rw [if_neg n5] at h1
  split
  ·rfl
  rename_i n6;rw [if_neg n6] at h1
  split
  ·rfl
  split
  ·split <;> rfl
  ·split <;> rfl
set_option maxRecDepth 20000 in
theorem con_RunS (code : List Ins) (fuel : Int) (hl : code.length ≤ 1000000000) : Con Tryz.prog 23 [.one (inssD code), .one (.int fuel)] [.ag (otC (runO code fuel))] := by
  have hA := con_l23Code code hl
  have hW := con_l1In fuel 0 3000
  unfold runO
  cases hc : codeB code with
  | false =>
    rw [hc] at hA
    rw [if_neg (by simp)]
    simp only [inssD, otC] at hA ⊢
    refine con_run Tryz.func23 rfl rfl (by simp [Tryz.ntmps23]) ?_
    refine byP Tryz.ntmps23 ?_
    refine sw_call (hA) rfl (aAs_ok ?_) ?_ (sw_run 200 _ _ _ ?_)
    · exact byQ True.intro
    · simp only [okR]
    exact byP Tryz.results23 True.intro
  | true =>
    rw [hc] at hA
    cases hw : (decide (0 ≤ fuel) && decide (fuel ≤ 3000)) with
    | false =>
      rw [hw] at hW
      rw [if_neg (by simp)]
      simp only [inssD, otC] at hA ⊢
      refine con_run Tryz.func23 rfl rfl (by simp [Tryz.ntmps23]) ?_
      refine byP Tryz.ntmps23 ?_
      refine sw_call (hA) rfl (aAs_ok ?_) ?_ (sw_run 200 _ _ _ ?_)
      · exact byQ True.intro
      · simp only [okR]
      refine byQ ?_
      refine sw_call (hW) rfl (aAs_ok ?_) ?_ (sw_run 200 _ _ _ ?_)
      · exact byQ True.intro
      · simp only [okR]
      exact byP Tryz.results23 True.intro
    | true =>
      rw [hw] at hW
      rw [if_pos (by simp)]
      simp only [Bool.and_eq_true, decide_eq_true_eq] at hw
      obtain ⟨F, hF⟩ : ∃ F : Nat, fuel = (F : Int) := ⟨fuel.toNat, by omega⟩
      subst hF
      rw [Int.toNat_natCast]
      have hF3 : F ≤ 3000 := by omega
      obtain ⟨R, hR⟩ : ∃ R, R = runM code F 0 ⟨0, [], [], []⟩ := ⟨_, rfl⟩
      rw [← hR]
      simp only [inssD, otC] at hA ⊢
      refine con_run Tryz.func23 rfl rfl (by simp [Tryz.ntmps23]) ?_
      refine byP Tryz.ntmps23 ?_
      refine sw_call (hA) rfl (aAs_ok ?_) ?_ (sw_run 200 _ _ _ ?_)
      · exact byQ True.intro
      · simp only [okR]
      refine byQ ?_
      refine sw_call (hW) rfl (aAs_ok ?_) ?_ (sw_run 200 _ _ _ ?_)
      · exact byQ True.intro
      · simp only [okR]
      refine byQ ?_
      refine sw_brB 1 1 rfl rfl ?_
      refine sw_brB 1 2 rfl rfl ?_
      refine sw_brB 1 3 rfl rfl ?_
      refine sw_loop (fun i : Nat × Mch => i.1 ≤ F ∧ GM i.1 i.2 ∧ runM code (F - i.1) i.1 i.2 = R)
        (fun i => ⟨83, [(6, .i i.1), (5, .bx 1 0), (4, .bx 0 0), (0, .br (.rows 2 code.length (flC insC code))), (1, .i F)], [(0, [.i 0, .i 0, .b false, .i 0]), (1, [.i i.2.pc, .br (.rows 4 i.2.st.length (flC vlS i.2.st)), .br (.rows 4 i.2.nm.length (flC vlS i.2.nm)), .br (.rows 3 i.2.fr.length (flC frS i.2.fr)), .i 0])], [], 2, []⟩)
        (fun i => F - i.1) (0, ⟨0, [], [], []⟩) id ⟨Nat.zero_le _, GM0, by rw [Nat.sub_zero]; exact hR.symm⟩ ?_ ?_
      · simp only [push_cast, Sub, subT, subB, subO, subP, inj, AV.ren, AV.rens, AV.lt, AV.lts, ↓reduceIte, Nat.reduceLT, Nat.reduceEqDiff, reduceCtorEq, flC]
      · rintro ⟨k, m⟩ ⟨hk, hm, hrun⟩
        simp only at hk hm hrun
        refine sw_run 200 _ _ _ ?_
        by_cases hkf : k = F
        · have hkf' : ((k : Int) = (F : Int)) = True := eq_true (by omega)
          rw [hkf, Nat.sub_self] at hrun
          subst hrun
          exact byP (fc hkf (fc runM.eq_1 Tryz.results23)) True.intro
        · have hkf' : ((k : Int) = (F : Int)) = False := eq_false (by omega)
          obtain ⟨r, hr⟩ : ∃ r, F - k = r + 1 := ⟨F - k - 1, by omega⟩
          rw [hr] at hrun
          unfold runM at hrun
          by_cases hpc : (code.length : Int) ≤ m.pc
          · rw [if_pos hpc] at hrun
            subst hrun
            exact byP (fc hkf' (fc hpc Tryz.results23)) True.intro
          · rw [if_neg hpc] at hrun
            have h0 := hm.pc
            have hlt : m.pc.toNat < code.length := by omega
            have hpp : m.pc < (code.length : Int) := by omega
            have i0 : inI (m.pc + 1) := by unfold inI; omega
            have hsz : SzM (pcM m (m.pc + 1)) := by
              have q := hm.sz (by omega)
              exact ⟨⟨by unfold pcM; simp only; omega, by unfold pcM; simp only; omega⟩, q.st, q.nm, q.fr, q.ct, q.fs⟩
            have hX := con_do (pcM m (m.pc + 1)) code[m.pc.toNat]! hsz (codeB_at hc hlt)
            have ht := tl_ok (pcM m (m.pc + 1)) code[m.pc.toNat]! (codeB_at hc hlt)
            have hg := ex_ok hm (codeB_at hc hlt) (.num 0)
            have hrow := flC_row insC_len code m.pc.toNat hlt
            generalize exM (pcM m (m.pc + 1)) (.num 0) code[m.pc.toNat]! = e at hX hg ht hrun
            generalize tlM (pcM m (m.pc + 1)) code[m.pc.toNat]! = v at hX ht
            generalize code[m.pc.toNat]! = x at hX hrow
            obtain ⟨es, em, ed⟩ := e
            simp only at hX hg ht hrun
            unfold mcS vlQ at hX
            simp only [insC, pcM] at hX hrow
            refine byP (fc hkf' (fc hpc (fc h0.1 (fc hpp (fc hrow i0))))) ?_
            refine sw_callPR hX rfl rfl rfl ?_ ?_ ?_ (sw_run 200 _ _ _ ?_)
            · exact byQ True.intro
            · exact byQ True.intro
            · exact byQ True.intro
            have i1 : inI ((k : Int) + 1) := by unfold inI; omega
            by_cases e0 : es = 0
            · rw [if_pos e0] at hrun
              subst e0
              refine byP i1 ?_
              refine ⟨(k + 1, em), id, ⟨by omega, hg rfl, by rw [← hrun]; congr 1; omega⟩, by simp only; omega, ?_⟩
              exact byQ True.intro
            · rw [if_neg e0] at hrun
              have e0' : (es = 0) = False := eq_false e0
              by_cases e1 : es = 1
              · rw [if_pos e1] at hrun
                subst e1
                have hv := ht.1 rfl
                subst hv
                cases hf : v.f with
                | true =>
                  rw [if_pos hf] at hrun
                  subst hrun
                  refine byQ ?_
                  refine sw_drawn (.cons 0 true (.cons 1 true (.cons 2 true (.cons 3 true (.cons 4 true (.cons 5 true (.cons 6 true (.cons 7 true (.cons 8 true (.cons 9 false (.nil))))))))))) (by kernel_rfl) (fun _ _ h => False.elim h) (by kernel_rfl) (sw_run 200 _ _ _ ?_)
                  exact byP (fc i1 Tryz.results23) True.intro
                | false =>
                  rw [if_neg (by rw [hf]; simp)] at hrun
                  subst hrun
                  exact byP (fc (mn_eq hf) (fc i1 Tryz.results23)) True.intro
              · rw [if_neg e1] at hrun
                have e1' : (es = 1) = False := eq_false e1
                have hvf := ht.2 e0 e1
                subst hrun
                refine byP (fc e0' e1') ?_
                refine sw_drawn (.cons 0 true (.cons 1 true (.cons 2 true (.cons 3 true (.cons 4 true (.cons 5 true (.cons 6 true (.cons 7 true (.cons 8 true (.cons 9 false (.nil))))))))))) (by kernel_rfl) (fun _ _ h => False.elim h) (by kernel_rfl) (sw_run 200 _ _ _ ?_)
                exact byP (fc hvf (fc i1 Tryz.results23)) True.intro
theorem rch_b {code : List Ins} {p : Int} {s : Shp} (h : Rch code p s) : 0 ≤ s.b ∧ s.b ≤ s.d := by
  induction h with
  | base => exact ⟨by decide, by decide⟩
  | step h h1 h2 hy ih =>
    rename_i p s y
    generalize code[p.toNat]! = x at *
    have hA : 0 ≤ (aftF x s).b ∧ (aftF x s).b ≤ (aftF x s).d := by
      unfold aftF
      simp only
      refine ⟨ih.1, ?_⟩
      split
      · omega
      · split
        · rename_i h11 h12
          unfold mayF at h2
          split at h2
          · cases h2
          · rw [if_neg (by omega)] at h2
            simp only [h12, if_true, decide_eq_true_eq] at h2
            omega
        · exact ih.2
    have hI : 0 ≤ (insF x s).b ∧ (insF x s).b ≤ (insF x s).d := by
      unfold insF
      simp only
      refine ⟨?_, Int.le_refl _⟩
      split <;> omega
    unfold folI at hy
    repeat' split at hy
    · cases hy
    · simp only [List.mem_singleton] at hy; subst hy; exact hA
    · simp only [List.mem_cons, List.not_mem_nil, or_false] at hy
      rcases hy with rfl | rfl
      · exact hA
      · exact hA
    · simp only [List.mem_cons, List.not_mem_nil, or_false] at hy
      rcases hy with rfl | rfl
      · exact hA
      · exact hI
    · simp only [List.mem_singleton] at hy; subst hy; exact hA
inductive VT (code:List Ins):Vl→Prop
 | num (a:Int):VT code (.num a)
 | fn (r:Bool) (p:Int) (c:List Vl) (hr:Rch code p ⟨true,0,(c.length:Int)+1+(if r=true then 1 else 0),(c.length:Int)+1+(if r=true then 1 else 0)⟩) (hc:∀ v ∈ c,VT code v):VT code (.fn r p c)
structure MT (code:List Ins) (m:Mch):Prop where
 at_:∃ b,Rch code m.pc ⟨true,m.st.length,m.nm.length,b⟩
 st:∀ v ∈ m.st,VT code v
 nm:∀ v ∈ m.nm,VT code v
 fr:∀ f ∈ m.fr,(∃ b,Rch code f.pc ⟨true,(f.st.length:Int)+1,f.nm.length,b⟩)∧(∀ v ∈ f.st,VT code v)∧∀ v ∈ f.nm,VT code v
theorem vt_bang {code:List Ins} {l:List Vl} (h:∀ v ∈ l,VT code v) (k:Nat):VT code l[k]! := by
 by_cases hk:k<l.length
 ·exact h _ (mem_bang hk)
 ·rw [getElem!_neg l k hk];exact .num 0
theorem shp_ext {s t:Shp} (h1:s.known=t.known) (h2:s.h=t.h) (h3:s.d=t.d) (h4:s.b=t.b):s=t:=by
 obtain ⟨a,b,c,d⟩:=s;obtain ⟨a',b',c',d'⟩:=t
 simp only at h1 h2 h3 h4;subst h1;subst h2;subst h3;subst h4;rfl
set_option maxHeartbeats 4000000 in
theorem ve_step {code : List Ins} (hg : GoodC code) (hi : ∀ x ∈ code, insB x = true) {m : Mch} (h : MT code m) : m.pc < code.length ∧ 0 ≤ m.pc ∧ ((exM (pcM m (m.pc + 1)) (.num 0) code[m.pc.toNat]!).1 = 0 ∨ (exM (pcM m (m.pc + 1)) (.num 0) code[m.pc.toNat]!).1 = 1 ∨ (exM (pcM m (m.pc + 1)) (.num 0) code[m.pc.toNat]!).1 = 3) ∧ ((exM (pcM m (m.pc + 1)) (.num 0) code[m.pc.toNat]!).1 = 0 → MT code (exM (pcM m (m.pc + 1)) (.num 0) code[m.pc.toNat]!).2.1) := by
  obtain ⟨⟨b, hat⟩, hst, hnm, hfr⟩ := h
  have hok : okA code := fun x hx => (ins_cases (hi x hx)).2.1.1
  obtain ⟨hlt, hmay, _⟩ := hg _ _ hat
  obtain ⟨_, _, hp0⟩ := hat.ok hok
  have hbd := rch_b hat
  have hxm : code[m.pc.toNat]! ∈ code := mem_bang (by omega)
  have hx := hi _ hxm
  have hstep : ∀ y ∈ folI m.pc code[m.pc.toNat]! ⟨true, m.st.length, m.nm.length, b⟩, Rch code y.p y.s := fun y hy => .step hat hlt hmay hy
  refine ⟨hlt, hp0, ?_⟩
  generalize code[m.pc.toNat]! = x at *
  obtain ⟨op, a⟩ := x
  obtain ⟨ho, ha, h4, h38⟩ := ins_cases hx
  simp only at ho ha h4 h38 hbd
  have hpop := may_h hmay
  simp only at hpop
  have tl : ∀ k, (m.st.take (m.st.length - k)).length = m.st.length - k := fun k => by rw [List.length_take]; omega
  have tk : ∀ k, ∀ v ∈ m.st.take (m.st.length - k), VT code v := fun k v hv => hst v (List.mem_of_mem_take hv)
  have tp : ∀ k, ∀ v ∈ topM m k, VT code v := fun k v hv => hst v (List.mem_of_mem_drop hv)
  have tpc : ∀ k, topM (pcM m (m.pc + 1)) k = topM m k := fun k => rfl
  rcases ho with rfl | rfl | rfl | rfl | rfl | rfl | rfl | rfl | rfl | rfl | rfl | rfl
  · refine ⟨.inl rfl, fun _ => ⟨⟨b, ?_⟩, fun v hv => ?_, hnm, hfr⟩⟩
    · have := hstep ⟨m.pc + 1, aftF ⟨1, a⟩ ⟨true, m.st.length, m.nm.length, b⟩⟩ (by simp [folI])
      have e : (aftF ⟨1, a⟩ ⟨true, m.st.length, m.nm.length, b⟩) = ⟨true, ((m.st ++ [Vl.num a]).length : Int), m.nm.length, b⟩ := shp_ext rfl (by simp [aftF, pushF, popF]) rfl rfl
      rw [e] at this; exact this
    · rcases List.mem_append.1 hv with hv | hv
      · exact hst v hv
      · rw [List.mem_singleton.1 hv]; exact .num a
  · refine ⟨.inl rfl, fun _ => ⟨⟨b, ?_⟩, fun v hv => ?_, hnm, hfr⟩⟩
    · have := hstep ⟨m.pc + 1, aftF ⟨2, a⟩ ⟨true, m.st.length, m.nm.length, b⟩⟩ (by simp [folI])
      have e : (aftF ⟨2, a⟩ ⟨true, m.st.length, m.nm.length, b⟩) = ⟨true, ((m.st ++ [Vl.num a]).length : Int), m.nm.length, b⟩ := shp_ext rfl (by simp [aftF, pushF, popF]) rfl rfl
      rw [e] at this; exact this
    · rcases List.mem_append.1 hv with hv | hv
      · exact hst v hv
      · rw [List.mem_singleton.1 hv]; exact .num a
  · have hv3 : a < (m.nm.length : Int) := by
      unfold mayF at hmay
      split at hmay
      · cases hmay
      · simpa using hmay
    have hn : ¬ (pcM m (m.pc + 1)).nm.length ≤ a.toNat := by show ¬ m.nm.length ≤ a.toNat; omega
    have hE : exM (pcM m (m.pc + 1)) (.num 0) ⟨3, a⟩ = (0, pushM (pcM m (m.pc + 1)) (m.nm[m.nm.length - 1 - a.toNat]!), .num 0) := by
      unfold exM
      rw [if_neg (by simp), if_pos rfl, if_neg hn]; rfl
    rw [hE]
    refine ⟨.inl rfl, fun _ => ⟨⟨b, ?_⟩, fun v hv => ?_, hnm, hfr⟩⟩
    · have := hstep ⟨m.pc + 1, aftF ⟨3, a⟩ ⟨true, m.st.length, m.nm.length, b⟩⟩ (by simp [folI])
      have e : (aftF ⟨3, a⟩ ⟨true, m.st.length, m.nm.length, b⟩) = ⟨true, ((m.st ++ [m.nm[m.nm.length - 1 - a.toNat]!]).length : Int), m.nm.length, b⟩ := shp_ext rfl (by simp [aftF, pushF, popF]) rfl rfl
      rw [e] at this; exact this
    · rcases List.mem_append.1 hv with hv | hv
      · exact hst v hv
      · rw [List.mem_singleton.1 hv]; exact vt_bang hnm _
  · have h8 := h4 rfl
    have hop := op_pop h8
    have hpf : popF ⟨4, a⟩ = opAr (opB a) := by rw [hop]; simp [popF]
    rw [hpf] at hpop
    have har : opAr (opB a) = 1 ∨ opAr (opB a) = 2 := by rw [hop]; split <;> simp
    have hE : exM (pcM m (m.pc + 1)) (.num 0) ⟨4, a⟩ = ((opM (pcM m (m.pc + 1)) (opB a)).1, (opM (pcM m (m.pc + 1)) (opB a)).2, .num 0) := by
      unfold exM
      rw [if_neg (by simp), if_neg (by simp), if_pos rfl]
    rw [hE]
    have hlt' : ¬ (pcM m (m.pc + 1)).st.length < (opAr (opB a)).toNat := by show ¬ m.st.length < _; omega
    unfold opM
    rw [if_neg hlt']
    split
    · exact ⟨.inr (.inr rfl), fun h => by cases h⟩
    · refine ⟨.inl rfl, fun _ => ⟨⟨b, ?_⟩, fun v hv => ?_, hnm, hfr⟩⟩
      · have := hstep ⟨m.pc + 1, aftF ⟨4, a⟩ ⟨true, m.st.length, m.nm.length, b⟩⟩ (by simp [folI])
        rw [show (aftF ⟨4, a⟩ ⟨true, (m.st.length : Int), m.nm.length, b⟩) = ⟨true, (((pushM (popM (pcM m (m.pc + 1)) (opAr (opB a)).toNat) (Vl.num (apV (opB a) ((topM (pcM m (m.pc + 1)) (opAr (opB a)).toNat)[0]!).n (if opAr (opB a) = 2 then ((topM (pcM m (m.pc + 1)) (opAr (opB a)).toNat)[1]!).n else 0)))).st.length : Nat) : Int), m.nm.length, b⟩ from shp_ext rfl (by
          show (m.st.length : Int) + (pushF ⟨4, a⟩ - popF ⟨4, a⟩) = (((m.st.take (m.st.length - (opAr (opB a)).toNat)) ++ [_]).length : Nat)
          rw [hpf, List.length_append, tl]
          have : pushF ⟨4, a⟩ = 1 := by simp [pushF]
          simp only [List.length_cons, List.length_nil]
          omega) rfl rfl] at this
        exact this
      · rcases List.mem_append.1 hv with hv | hv
        · exact tk _ v hv
        · rw [List.mem_singleton.1 hv]; exact .num _
  · refine ⟨.inl rfl, fun _ => ⟨⟨b, ?_⟩, hst, hnm, hfr⟩⟩
    have := hstep ⟨a, aftF ⟨5, a⟩ ⟨true, m.st.length, m.nm.length, b⟩⟩ (by simp [folI])
    rw [show (aftF ⟨5, a⟩ ⟨true, (m.st.length : Int), m.nm.length, b⟩) = ⟨true, m.st.length, m.nm.length, b⟩ from shp_ext rfl (by simp [aftF, pushF, popF]) rfl rfl] at this
    exact this
  · have hp1 : popF ⟨6, a⟩ = 1 := by simp [popF]
    rw [hp1] at hpop
    have hlt' : ¬ (pcM m (m.pc + 1)).st.length < 1 := by show ¬ m.st.length < 1; omega
    have e : (aftF ⟨6, a⟩ ⟨true, (m.st.length : Int), m.nm.length, b⟩) = ⟨true, ((m.st.take (m.st.length - 1)).length : Int), m.nm.length, b⟩ := shp_ext rfl (by
      show (m.st.length : Int) + (pushF ⟨6, a⟩ - popF ⟨6, a⟩) = ((m.st.take (m.st.length - 1)).length : Int)
      rw [hp1, tl]
      have : pushF ⟨6, a⟩ = 0 := by simp [pushF]
      omega) rfl rfl
    have s1 := hstep ⟨m.pc + 1, aftF ⟨6, a⟩ ⟨true, m.st.length, m.nm.length, b⟩⟩ (by simp [folI])
    have s2 := hstep ⟨a, aftF ⟨6, a⟩ ⟨true, m.st.length, m.nm.length, b⟩⟩ (by simp [folI])
    rw [e] at s1 s2
    have hE : exM (pcM m (m.pc + 1)) (.num 0) ⟨6, a⟩ = (if ((topM m 1)[0]!).f = true then (3, popM (pcM m (m.pc + 1)) 1, .num 0) else if ((topM m 1)[0]!).n = 0 then (0, pcM (popM (pcM m (m.pc + 1)) 1) a, .num 0) else (0, popM (pcM m (m.pc + 1)) 1, .num 0)) := by
      unfold exM
      rw [if_neg (by simp), if_neg (by simp), if_neg (by simp), if_neg (by simp), if_pos rfl, if_neg hlt']; rfl
    rw [hE]
    split
    · exact ⟨.inr (.inr rfl), fun h => by cases h⟩
    · split
      · exact ⟨.inl rfl, fun _ => ⟨⟨b, s2⟩, tk 1, hnm, hfr⟩⟩
      · exact ⟨.inl rfl, fun _ => ⟨⟨b, s1⟩, tk 1, hnm, hfr⟩⟩
  · have hE : exM (pcM m (m.pc + 1)) (.num 0) ⟨7, a⟩ = (0, pushM (pcM m (m.pc + 1)) (.fn false a m.nm), .num 0) := by
      unfold exM
      rw [if_neg (by simp), if_neg (by simp), if_neg (by simp), if_neg (by simp), if_neg (by simp), if_pos (.inl rfl)]; rfl
    rw [hE]
    have s2 := hstep ⟨a, insF ⟨7, a⟩ ⟨true, m.st.length, m.nm.length, b⟩⟩ (by simp [folI])
    refine ⟨.inl rfl, fun _ => ⟨⟨b, ?_⟩, fun v hv => ?_, hnm, hfr⟩⟩
    · have := hstep ⟨m.pc + 1, aftF ⟨7, a⟩ ⟨true, m.st.length, m.nm.length, b⟩⟩ (by simp [folI])
      have e : (aftF ⟨7, a⟩ ⟨true, m.st.length, m.nm.length, b⟩) = ⟨true, ((m.st ++ [Vl.fn false a m.nm]).length : Int), m.nm.length, b⟩ := shp_ext rfl (by simp [aftF, pushF, popF]) rfl rfl
      rw [e] at this; exact this
    · rcases List.mem_append.1 hv with hv | hv
      · exact hst v hv
      · rw [List.mem_singleton.1 hv]
        refine .fn false a m.nm ?_ hnm
        rw [show (insF ⟨7, a⟩ ⟨true, (m.st.length : Int), m.nm.length, b⟩) = ⟨true, 0, (m.nm.length : Int) + 1 + (if false = true then 1 else 0), (m.nm.length : Int) + 1 + (if false = true then 1 else 0)⟩ from shp_ext rfl rfl (by simp [insF]) (by simp [insF])] at s2
        exact s2
  · have hE : exM (pcM m (m.pc + 1)) (.num 0) ⟨8, a⟩ = (0, pushM (pcM m (m.pc + 1)) (.fn true a m.nm), .num 0) := by
      unfold exM
      rw [if_neg (by simp), if_neg (by simp), if_neg (by simp), if_neg (by simp), if_neg (by simp), if_pos (.inr rfl)]; rfl
    rw [hE]
    have s2 := hstep ⟨a, insF ⟨8, a⟩ ⟨true, m.st.length, m.nm.length, b⟩⟩ (by simp [folI])
    refine ⟨.inl rfl, fun _ => ⟨⟨b, ?_⟩, fun v hv => ?_, hnm, hfr⟩⟩
    · have := hstep ⟨m.pc + 1, aftF ⟨8, a⟩ ⟨true, m.st.length, m.nm.length, b⟩⟩ (by simp [folI])
      have e : (aftF ⟨8, a⟩ ⟨true, m.st.length, m.nm.length, b⟩) = ⟨true, ((m.st ++ [Vl.fn true a m.nm]).length : Int), m.nm.length, b⟩ := shp_ext rfl (by simp [aftF, pushF, popF]) rfl rfl
      rw [e] at this; exact this
    · rcases List.mem_append.1 hv with hv | hv
      · exact hst v hv
      · rw [List.mem_singleton.1 hv]
        refine .fn true a m.nm ?_ hnm
        rw [show (insF ⟨8, a⟩ ⟨true, (m.st.length : Int), m.nm.length, b⟩) = ⟨true, 0, (m.nm.length : Int) + 1 + (if true = true then 1 else 0), (m.nm.length : Int) + 1 + (if true = true then 1 else 0)⟩ from shp_ext rfl rfl (by simp [insF]) (by simp [insF])] at s2
        exact s2
  · have hp2 : popF ⟨9, a⟩ = 2 := by simp [popF]
    rw [hp2] at hpop
    have hlt' : ¬ (pcM m (m.pc + 1)).st.length < 2 := by show ¬ m.st.length < 2; omega
    have hE : exM (pcM m (m.pc + 1)) (.num 0) ⟨9, a⟩ = ((callM (pcM m (m.pc + 1))).1, (callM (pcM m (m.pc + 1))).2, .num 0) := by
      unfold exM
      rw [if_neg (by simp), if_neg (by simp), if_neg (by simp), if_neg (by simp), if_neg (by simp), if_neg (by simp), if_pos rfl]
    rw [hE]
    unfold callM
    rw [if_neg hlt']
    have s1 := hstep ⟨m.pc + 1, aftF ⟨9, a⟩ ⟨true, m.st.length, m.nm.length, b⟩⟩ (by simp [folI])
    have e : (aftF ⟨9, a⟩ ⟨true, (m.st.length : Int), m.nm.length, b⟩) = ⟨true, ((m.st.take (m.st.length - 2)).length : Int) + 1, m.nm.length, b⟩ := shp_ext rfl (by
      show (m.st.length : Int) + (pushF ⟨9, a⟩ - popF ⟨9, a⟩) = ((m.st.take (m.st.length - 2)).length : Int) + 1
      rw [hp2, tl]
      have : pushF ⟨9, a⟩ = 1 := by simp [pushF]
      omega) rfl rfl
    rw [e] at s1
    rw [tpc]
    have v0 := vt_bang (tp 2) 0
    have v1 := vt_bang (tp 2) 1
    generalize (topM m 2)[0]! = f at *
    generalize (topM m 2)[1]! = x at *
    split
    · exact ⟨.inr (.inr rfl), fun h => by cases h⟩
    · rename_i hf
      refine ⟨.inl rfl, fun _ => ?_⟩
      cases v0 with
      | num n => exact absurd rfl hf
      | fn r p c hr hc =>
        refine ⟨⟨(c.length : Int) + 1 + (if r = true then 1 else 0), ?_⟩, fun v hv => (by cases hv), fun v hv => ?_, fun g hg => ?_⟩
        · have hr0 := hr
          have e2 : (⟨true, 0, (c.length : Int) + 1 + (if r = true then 1 else 0), (c.length : Int) + 1 + (if r = true then 1 else 0)⟩ : Shp) = ⟨true, (([] : List Vl).length : Int), ((callN (.fn r p c) x).length : Int), (c.length : Int) + 1 + (if r = true then 1 else 0)⟩ := shp_ext rfl rfl (by
            cases r <;> simp [callN, Vl.r, Vl.c] <;> omega) rfl
          rw [e2] at hr0
          exact hr0
        · have hv' : v ∈ callN (.fn r p c) x := hv
          unfold callN at hv'
          rcases List.mem_append.1 hv' with hv' | hv'
          · split at hv'
            · rcases List.mem_append.1 hv' with hv' | hv'
              · exact hc v hv'
              · rw [List.mem_singleton.1 hv']
                exact .fn r p c hr hc
            · exact hc v hv'
          · rw [List.mem_singleton.1 hv']; exact v1
        · rcases List.mem_append.1 hg with hg | hg
          · exact hfr g hg
          · rw [List.mem_singleton.1 hg]
            exact ⟨⟨b, s1⟩, tk 2, hnm⟩
  · have hh1 : m.st.length = 1 := by
      unfold mayF at hmay
      split at hmay
      · cases hmay
      · rename_i hh
        simp only [true_and, not_or, ne_eq, Decidable.not_not] at hh
        have := hh.2
        omega
    have hE : exM (pcM m (m.pc + 1)) (.num 0) ⟨10, a⟩ = retM (pcM m (m.pc + 1)) (.num 0) := by
      unfold exM
      rw [if_neg (by simp), if_neg (by simp), if_neg (by simp), if_neg (by simp), if_neg (by simp), if_neg (by simp), if_neg (by simp), if_pos rfl]
    rw [hE]
    unfold retM
    rw [if_neg (by show ¬ m.st.length ≠ 1; omega)]
    split
    · exact ⟨.inr (.inl rfl), fun h => by cases h⟩
    · rename_i hf0
      have hf0' : m.fr.length ≠ 0 := hf0
      have hmem : m.fr[m.fr.length - 1]! ∈ m.fr := mem_bang (by omega)
      obtain ⟨⟨b', q1⟩, q2, q3⟩ := hfr _ hmem
      refine ⟨.inl rfl, fun _ => ⟨⟨b', ?_⟩, fun v hv => ?_, q3, fun g hg => hfr g (List.mem_of_mem_take hg)⟩⟩
      · have e : (⟨true, ((m.fr[m.fr.length - 1]!).st.length : Int) + 1, ((m.fr[m.fr.length - 1]!).nm.length : Int), b'⟩ : Shp) = ⟨true, (((m.fr[m.fr.length - 1]!).st ++ [m.st[0]!]).length : Int), (m.fr[m.fr.length - 1]!).nm.length, b'⟩ := shp_ext rfl (by simp) rfl rfl
        rw [e] at q1
        exact q1
      · rcases List.mem_append.1 hv with hv | hv
        · exact q2 v hv
        · rw [List.mem_singleton.1 hv]; exact vt_bang hst _
  · have hp1 : popF ⟨11, a⟩ = 1 := by simp [popF]
    rw [hp1] at hpop
    have hlt' : ¬ (pcM m (m.pc + 1)).st.length < 1 := by show ¬ m.st.length < 1; omega
    have hE : exM (pcM m (m.pc + 1)) (.num 0) ⟨11, a⟩ = ((0 : Int), nmM (popM (pcM m (m.pc + 1)) 1) (m.nm ++ [(topM m 1)[0]!]), Vl.num 0) := by
      unfold exM
      rw [if_neg (by simp), if_neg (by simp), if_neg (by simp), if_neg (by simp), if_neg (by simp), if_neg (by simp), if_neg (by simp), if_neg (by simp), if_pos rfl, if_neg hlt']; rfl
    rw [hE]
    have s1 := hstep ⟨m.pc + 1, aftF ⟨11, a⟩ ⟨true, m.st.length, m.nm.length, b⟩⟩ (by simp [folI])
    have e : (aftF ⟨11, a⟩ ⟨true, (m.st.length : Int), m.nm.length, b⟩) = ⟨true, ((m.st.take (m.st.length - 1)).length : Int), ((m.nm ++ [(topM m 1)[0]!]).length : Int), b⟩ := shp_ext rfl (by
      show (m.st.length : Int) + (pushF ⟨11, a⟩ - popF ⟨11, a⟩) = ((m.st.take (m.st.length - 1)).length : Int)
      rw [hp1, tl]
      have : pushF ⟨11, a⟩ = 0 := by simp [pushF]
      omega) (by simp [aftF]) rfl
    rw [e] at s1
    refine ⟨.inl rfl, fun _ => ⟨⟨b, s1⟩, tk 1, fun v hv => ?_, hfr⟩⟩
    rcases List.mem_append.1 hv with hv | hv
    · exact hnm v hv
    · rw [List.mem_singleton.1 hv]; exact vt_bang (tp 1) 0
  · have hlb : b < (m.nm.length : Int) := by
      unfold mayF at hmay
      split at hmay
      · cases hmay
      · simpa using hmay
    have hn0 : ¬ (pcM m (m.pc + 1)).nm.length = 0 := by show ¬ m.nm.length = 0; omega
    have hE : exM (pcM m (m.pc + 1)) (.num 0) ⟨12, a⟩ = (0, nmM (pcM m (m.pc + 1)) (m.nm.take (m.nm.length - 1)), .num 0) := by
      unfold exM
      rw [if_neg (by simp), if_neg (by simp), if_neg (by simp), if_neg (by simp), if_neg (by simp), if_neg (by simp), if_neg (by simp), if_neg (by simp), if_neg (by simp), if_neg hn0]; rfl
    rw [hE]
    have s1 := hstep ⟨m.pc + 1, aftF ⟨12, a⟩ ⟨true, m.st.length, m.nm.length, b⟩⟩ (by simp [folI])
    have e : (aftF ⟨12, a⟩ ⟨true, (m.st.length : Int), m.nm.length, b⟩) = ⟨true, (m.st.length : Int), ((m.nm.take (m.nm.length - 1)).length : Int), b⟩ := shp_ext rfl (by simp [aftF, pushF, popF]) (by
      rw [List.length_take]; simp [aftF]; omega) rfl
    rw [e] at s1
    exact ⟨.inl rfl, fun _ => ⟨⟨b, s1⟩, hst, fun v hv => hnm v (List.mem_of_mem_take hv), hfr⟩⟩
theorem ve_run {code : List Ins} (hg : GoodC code) (hi : ∀ x ∈ code, insB x = true) : ∀ (r n : Nat) (m : Mch), MT code m → (runM code r n m).s ≠ 0 ∧ (runM code r n m).s ≠ 4
  | 0, n, m, _ => by rw [runM]; exact ⟨by simp, by simp⟩
  | r + 1, n, m, h => by
    obtain ⟨h1, h2, h3, h4⟩ := ve_step hg hi h
    rw [runM, if_neg (by omega)]
    split
    · rename_i e
      exact ve_run hg hi r (n + 1) _ (h4 e)
    · rename_i e0
      split
      · split
        · exact ⟨by simp, by simp⟩
        · exact ⟨by simp, by simp⟩
      · rename_i e1
        rcases h3 with h3 | h3 | h3
        · exact absurd h3 e0
        · exact absurd h3 e1
        · simp only [h3]; exact ⟨by simp, by simp⟩
theorem mt_start {code:List Ins}:MT code ⟨0,[],[],[]⟩:=⟨⟨0,.base⟩,fun v hv=>(by cases hv),fun v hv=>(by cases hv),fun f hf=>(by cases hf)⟩
theorem ve_law {code : List Ins} (h : (shpR code).isSome = true) : (runO code 600).s ≠ 0 ∧ (runO code 600).s ≠ 4 := by
  unfold shpR at h
  split at h
  · rename_i hc
    obtain ⟨ho, hl, hx⟩ := okA_of hc.1
    have hi : ∀ x ∈ code, insB x = true := fun x hm => by
      obtain ⟨k, hk, rfl⟩ := List.mem_iff_getElem.mp hm
      have := hx k hk
      rwa [getElem!_pos code k hk] at this
    have hr := (shRes_goI ho).2
    cases hs : shRes code with
    | none => rw [hs] at h; cases h
    | some T =>
      rw [hs] at hr
      unfold runO
      rw [hc.1]
      exact ve_run hr.1 hi 600 0 _ mt_start
  · cases h
set_option maxRecDepth 20000
def mhF:List Shp→Int→Int
 | [],m=>m
 | x :: xs,m=>mhF xs (if m<x.h then x.h else m)
theorem mhF_step (xs:List Shp) (k:Nat) (m:Int) (h:k<xs.length):mhF (xs.drop k) m=mhF (xs.drop (k+1)) (if m<xs[k]!.h then xs[k]!.h else m):=by
 rw [List.drop_eq_getElem_cons h,getElem!_pos xs k h];rfl
theorem mhF_end (xs:List Shp) (k:Nat) (m:Int) (h:xs.length≤k):mhF (xs.drop k) m=m:=by rw [List.drop_of_length_le h];rfl
def mxR (code:List Ins):Int:=match shpR code with | none => -1 | some T=>mhF T 0
theorem shpR_len {code:List Ins} {T:List Shp} (h:shpR code=some T):T.length=code.length:=by
 unfold shpR at h
 split at h
 ·rename_i hc
  have:=(shRes_goI (okA_of hc.1).1).2
  rw [h] at this
  exact this.2.1
 ·cases h
theorem con_mx (a b:Int):Con Tryz.prog 76 [.one (.int a),.one (.int b)] [.one (.int (if a<b then b else a))]:=by
 by_cases h:b<a
 ·rw [if_neg (by omega)]
  refine con_run Tryz.func76 rfl rfl (by simp [Tryz.ntmps76]) ?_
  exact byP (fc h (fc Tryz.ntmps76 Tryz.results76)) True.intro
 ·have e:(if a<b then b else a)=b:=by split <;> omega
  rw [e]
  refine con_run Tryz.func76 rfl rfl (by simp [Tryz.ntmps76]) ?_
  exact byP (fc h (fc Tryz.ntmps76 Tryz.results76)) True.intro
theorem con_VerifyI (code:List Ins) (hl:code.length≤1000000000):Con Tryz.prog 20 [.one (inssD code)] [.one (.bool (shpR code).isSome)]:=by
 have hc:=con_ShapesI code hl
 generalize shpR code=R at *
 simp only [inssD,shpsD] at hc
 refine con_run Tryz.func20 rfl rfl (by simp [Tryz.ntmps20]) ?_
 refine byP (fc inssD.eq_1 (fc Tryz.ntmps20 Tryz.results20)) ?_
 refine sw_call (hc) rfl (aAs_ok ?_) ?_ (sw_run 200 _ _ _ ?_)
 ·exact byQ True.intro
 ·simp only [okR]
 exact byP (fc Tryz.ntmps20 Tryz.results20) True.intro
theorem con_MaxI (code : List Ins) (hl : code.length ≤ 1000000000) : Con Tryz.prog 21 [.one (inssD code)] [.one (.int (mxR code))] := by
  have hc := con_ShapesI code hl
  have hln := fun T (h : shpR code = some T) => shpR_len h
  unfold mxR
  generalize shpR code = R at *
  simp only [inssD, shpsD] at hc
  cases R with
  | none =>
    refine con_run Tryz.func21 rfl rfl (by simp [Tryz.ntmps21]) ?_
    refine byP (fc inssD.eq_1 (fc Tryz.ntmps21 Tryz.results21)) ?_
    refine sw_call (hc) rfl (aAs_ok ?_) ?_ (sw_run 200 _ _ _ ?_)
    · exact byQ True.intro
    · simp only [okR]
    exact byP (fc Tryz.ntmps21 Tryz.results21) True.intro
  | some T =>
    have hT := hln T rfl
    have hTl : (T.length : Int) ≤ 1000000000 := by omega
    refine con_run Tryz.func21 rfl rfl (by simp [Tryz.ntmps21]) ?_
    refine byP (fc inssD.eq_1 (fc Tryz.ntmps21 Tryz.results21)) ?_
    refine sw_call (hc) rfl (aAs_ok ?_) ?_ (sw_run 200 _ _ _ ?_)
    · exact byQ True.intro
    · simp only [okR]
    refine byP (fc Tryz.ntmps21 Tryz.results21) ?_
    refine sw_loop (fun i : Nat × Int => i.1 ≤ T.length ∧ mhF (T.drop i.1) i.2 = mhF T 0) (fun i => ⟨27, [(17, .i i.1), (16, .i T.length), (15, .sl 0), (5, .i i.2)], [], [(0, some ⟨.rows 4 T.length (flC shpC T), none, true⟩)], 1, []⟩) (fun i => T.length - i.1) (0, 0) id ⟨Nat.zero_le _, rfl⟩ ?_ ?_
    · exact byQ True.intro
    · rintro ⟨k, m⟩ ⟨hk, hm⟩
      simp only at hk hm ⊢
      refine sw_run 200 _ _ _ ?_
      by_cases hlt : k < T.length
      · have hi : (k : Int) < (T.length : Int) := by omega
        have hr := flC_row shpC_len T k hlt
        simp only [shpC] at hr
        rw [mhF_step T k m hlt] at hm
        refine byP (fc hi hr) ?_
        skip
        refine ⟨by unfold inI; omega, (k + 1, if m < T[k]!.h then T[k]!.h else m), id, ⟨by simp only; omega, hm⟩, by simp only; omega, ?_⟩
        exact byQ True.intro
      · have hi : ¬ (k : Int) < (T.length : Int) := by omega
        rw [mhF_end T k m (by omega)] at hm
        refine byP hi ?_
        refine sw_run 200 _ _ _ ?_
        exact byP (fc hm (fc Tryz.ntmps21 Tryz.results21)) True.intro
theorem con_MaxS (code : List Ins) (hl : code.length ≤ 1000000000) : Con Tryz.prog 22 [.one (inssD code)] [.one (.int (mxR code))] := by
  have hc := con_ShapesS code hl
  have hln := fun T (h : shpR code = some T) => shpR_len h
  unfold mxR
  generalize shpR code = R at *
  simp only [inssD, shpsD] at hc
  cases R with
  | none =>
    refine con_run Tryz.func22 rfl rfl (by simp [Tryz.ntmps22]) ?_
    refine byP (fc inssD.eq_1 (fc Tryz.ntmps22 Tryz.results22)) ?_
    refine sw_call (hc) rfl (aAs_ok ?_) ?_ (sw_run 200 _ _ _ ?_)
    · exact byQ True.intro
    · simp only [okR]
    exact byP (fc Tryz.ntmps22 Tryz.results22) True.intro
  | some T =>
    have hT := hln T rfl
    have hTl : (T.length : Int) ≤ 1000000000 := by omega
    refine con_run Tryz.func22 rfl rfl (by simp [Tryz.ntmps22]) ?_
    refine byP (fc inssD.eq_1 (fc Tryz.ntmps22 Tryz.results22)) ?_
    refine sw_call (hc) rfl (aAs_ok ?_) ?_ (sw_run 200 _ _ _ ?_)
    · exact byQ True.intro
    · simp only [okR]
    refine byP (fc Tryz.ntmps22 Tryz.results22) ?_
    refine sw_loop (fun i : Nat × Int => i.1 ≤ T.length ∧ mhF (T.drop i.1) i.2 = mhF T 0) (fun i => ⟨28, [(6, .i i.1), (3, .sl 0), (5, .i i.2)], [], [(0, some ⟨.rows 4 T.length (flC shpC T), none, true⟩)], 1, []⟩) (fun i => T.length - i.1) (0, 0) id ⟨Nat.zero_le _, rfl⟩ ?_ ?_
    · exact byQ True.intro
    · rintro ⟨k, m⟩ ⟨hk, hm⟩
      simp only at hk hm ⊢
      refine sw_run 200 _ _ _ ?_
      by_cases hlt : k < T.length
      · have hi : (k : Int) < (T.length : Int) := by omega
        have hr := flC_row shpC_len T k hlt
        simp only [shpC] at hr
        rw [mhF_step T k m hlt] at hm
        refine byP (fc hi hr) ?_
        refine sw_call (con_mx m T[k]!.h) rfl (aAs_ok ?_) ?_ (sw_run 200 _ _ _ ?_)
        · exact byQ True.intro
        · simp only [okR]
        refine byQ ?_
        refine ⟨by unfold inI; omega, (k + 1, if m < T[k]!.h then T[k]!.h else m), id, ⟨by simp only; omega, hm⟩, by simp only; omega, ?_⟩
        exact byQ True.intro
      · have hi : ¬ (k : Int) < (T.length : Int) := by omega
        rw [mhF_end T k m (by omega)] at hm
        refine byP hi ?_
        refine sw_run 200 _ _ _ ?_
        exact byP (fc hm (fc Tryz.ntmps22 Tryz.results22)) True.intro
def BArg (w:World) (v:Value):Prop:=∃ zs:List Int,RepV w w.heap.size (bytD zs) v∧zs.length≤maxLen∧∀ n ∈ zs,0≤n∧n<256
theorem repVs_byt (w : World) (S : Nat) : ∀ zs : List Int, RepVs w S (zs.map D.byt) (zs.map (Value.int .u8))
  | [] => by unfold RepVs; rfl
  | z :: zs => by
    rw [List.map_cons, List.map_cons]
    unfold RepVs
    exact ⟨_, _, rfl, by unfold RepV; rfl, repVs_byt w S zs⟩
theorem barg {H:Type} {enc:TypeId × Value→H} {w:World} {base:Nat} {spare:Nat→Bool} {held:Bool} {fuel:Nat} {a:Option Addr} {l c:Nat} {x:DataW H × List MemPlace}
  (hf:DataW.trod enc Tryz.prog w base spare held fuel 22 (Value.slice a l c).cells.toList=some x):BArg w (.slice a l c):=by
 rcases ChangeShapes.open_ints Tryz.underlying22 Tryz.underlying5 (by kernel_rfl) hf with ⟨h,_⟩ | ⟨a',len,cap,zs,h,hb,hl,hm,hz,_,hc,hw⟩
 ·have h':[Value.slice a l c]=[.slice none 0 0]:=h
  simp only [List.cons.injEq,Value.slice.injEq,and_true] at h'
  obtain ⟨rfl,rfl,rfl⟩:=h'
  refine ⟨[], ?_,Nat.zero_le _,by simp⟩
  unfold bytD RepV
  exact ⟨_,_,rfl,Nat.le_refl _,Nat.zero_le _,rfl,.inl rfl⟩
 ·have h':[Value.slice a l c]=[.slice (some a') len cap]:=h
  simp only [List.cons.injEq,Value.slice.injEq,and_true] at h'
  obtain ⟨rfl,rfl,rfl⟩:=h'
  have hlz:l≤zs.length:=by rw [hz];split <;> omega
  refine ⟨zs.take l, ?_,by rw [List.length_take];omega,fun n hn => ?_⟩
  ·have hlen:(zs.take l).length=l:=by rw [List.length_take];omega
   unfold bytD RepV
   rw [hlen]
   refine ⟨_,_,rfl,hl,hm,by rw [List.length_map,hlen];omega, ?_⟩
   rcases Nat.eq_zero_or_pos l with h0 | h0
   ·exact .inl h0
   ·right
    have h1:=hc 0 (by omega)
    have h3:a'.add 0=a':=by simp [Addr.add]
    rw [h3] at h1
    have h4:=World.cell?_spot h1
    have h5:=World.block_lt_of_cell? w _ h1
    obtain ⟨b,off,s⟩:=a'
    have hs:s=none:=by simpa using h4
    subst hs
    refine ⟨b,off,(zs.take l).map (Value.int .u8),rfl,h5,fun i hi => ?_,repVs_byt _ _ _⟩
    have hi':i<l:=by rw [List.length_map,hlen] at hi;exact hi
    have h6:=hc i (by omega)
    rw [show (⟨b,off,none⟩:Addr).add i=⟨b,off+i,none⟩ by unfold Addr.add;simp] at h6
    rw [h6]
    simp [List.getD_eq_getElem?_getD,List.getElem?_eq_getElem (show i<zs.length by omega)]
  ·have h7:(decide ((0:Int)≤n) && decide (n≤255))=true:=hw n (List.mem_of_mem_take hn)
   simp only [Bool.and_eq_true,decide_eq_true_eq] at h7
   omega
theorem mhF_ge : ∀ (xs : List Shp) (m : Int), m ≤ mhF xs m
  | [], m => Int.le_refl _
  | x :: xs, m => by
    rw [mhF]
    have := mhF_ge xs (if m < x.h then x.h else m)
    split at this <;> split <;> omega
theorem mx_some (L:List Ins):decide (0≤mxR L)=(shpR L).isSome:=by
 unfold mxR
 cases shpR L with
 | none=>rfl
 | some T=>exact decide_eq_true (mhF_ge T 0)
theorem ver_of (e:Tm) (h:(cmR e).2=true):(shpR (cmR e).1).isSome=true:=by
 obtain ⟨h1,h2,h3,h4⟩:=vc_law e h
 unfold shpR
 have hc:codeB (cmR e).1=true:=by
  unfold codeB
  rw [Bool.and_eq_true]
  exact ⟨decide_eq_true h3,List.all_eq_true.2 h1⟩
 rw [if_pos ⟨hc,h2⟩,h4]
theorem con_bigV (zs:List Int):Con Tryz.prog 7 [.one (.rows 1 zs.length (zs.map D.byt))] [.one (.bool (decide (1048576<(zs.length:Int))))]:=by
 refine con_run Tryz.func7 rfl rfl (by simp [Tryz.ntmps7]) ?_
 exact byP (fc Tryz.ntmps7 Tryz.results7) True.intro
theorem con_sameSh (xs:List Shp) (hl:xs.length≤1000000000):Con Tryz.prog 19 [.one (.rows 4 xs.length (flC shpC xs)),.one (.rows 4 xs.length (flC shpC xs))] [.one (.bool true)]:=by
 refine con_run Tryz.func19 rfl rfl (by simp [Tryz.ntmps19]) ?_
 refine byP (fc Tryz.ntmps19 Tryz.results19) ?_
 refine sw_loop (fun k:Nat=>k≤xs.length) (fun k=>⟨26,[(5,.i k),(0,.br (.rows 4 xs.length (flC shpC xs))),(1,.br (.rows 4 xs.length (flC shpC xs)))],[],[],0,[]⟩) (fun k=>xs.length-k) 0 id (Nat.zero_le _) ?_ ?_
 ·exact byP Int.natCast_zero True.intro
 rintro k hk
 by_cases hlt:k<xs.length
 ·have hi:(k:Int)<(xs.length:Int):=by omega
  have hR:rowAt 4 (flC shpC xs) k=[.bool (xs[k]!).known,.int (xs[k]!).h,.int (xs[k]!).d,.int (xs[k]!).b]:=flC_row shpC_len xs k hlt
  refine sw_run 200 _ _ _ (byP hi ?_)
  refine sw_drawn (.cons 0 true (.cons 1 true (.cons 2 true (.cons 3 true (.cons 4 true (.cons 5 true (.cons 6 true (.cons 7 true (.cons 8 true (.nil)))))))))) (by kernel_rfl) qLp_panic (by kernel_rfl) ?_
  refine sw_run 200 _ _ _ (byP (fc hi hR) ?_)
  refine ⟨⟨by kernel_rfl,rfl⟩,by unfold inI;omega,k+1,id,by omega,by omega, ?_⟩
  exact byP cast1 True.intro
 ·have hi:¬ (k:Int)<(xs.length:Int):=by omega
  refine sw_run 200 _ _ _ (byP hi ?_)
  refine sw_run 200 _ _ _ ?_
  exact byP (fc Tryz.ntmps19 Tryz.results19) True.intro
set_option maxHeartbeats 16000000 in
theorem con_FnVerified (zs:List Int) (hz:∀ n ∈ zs,0≤n∧n<256):Con Tryz.prog 4 [.one (bytD zs)] [.one (.bool true)]:=by
 have hb:=con_bigV zs
 show Con Tryz.prog 4 [.one (.rows 1 zs.length (zs.map D.byt))] [.one (.bool true)]
 by_cases hbig:1048576<(zs.length:Int)
 ·rw [decide_eq_true hbig] at hb
  refine con_run Tryz.func4 rfl rfl (by simp [Tryz.ntmps4]) ?_
  refine byP (fc Tryz.ntmps4 Tryz.results4) ?_
  refine sw_call (hb) rfl (aAs_ok (byQ True.intro)) (byQ True.intro) ?_
  exact sw_run 200 _ _ _ (byP (fc Tryz.ntmps4 Tryz.results4) True.intro)
 rw [decide_eq_false hbig] at hb
 have hok:BytOk zs:=⟨by omega,hz⟩
 have hD1:ConX Tryz.prog 8 [.b (.one (.rows 1 zs.length (zs.map D.byt)))] (dmI 200000) dmO dmR:=con_drawC zs hok
 have hD2:ConX Tryz.prog 16 [.b (.one (.rows 1 zs.length (zs.map D.byt)))] vdI vdO vdR:=con_verD zs hok
 refine con_run Tryz.func4 rfl rfl (by simp [Tryz.ntmps4]) ?_
 refine byP (fc Tryz.ntmps4 Tryz.results4) ?_
 refine sw_call (hb) rfl (aAs_ok (byQ True.intro)) (byQ True.intro) ?_
 refine sw_run 200 _ _ _ (byQ ?_)
 refine sw_callXR (hD2) rfl rfl rfl (byP (dmF zs) True.intro) (byP (dmF zs) True.intro) (byP (dmF zs) True.intro) ?_
 rintro L hL
 have hL':L.length≤301:=hL
 have hSI:=con_ShapesI L (by omega)
 have hSS:=con_ShapesS L (by omega)
 have hVI:=con_VerifyI L (by omega)
 have hMI:=con_MaxI L (by omega)
 have hMS:=con_MaxS L (by omega)
 have hRS:=con_RunS L 600 (by omega)
 have hmx:=mx_some L
 have hve:=ve_law (code:=L)
 have hSame:∀ T,shpR L=some T→T.length≤1000:=fun T h=>by rw [shpR_len h];omega
 have hSm:=con_sameSh ((shpR L).getD []) (by
  cases hq:shpR L with
  | none=>exact Nat.zero_le _
  | some T=>have:=hSame T hq;show T.length≤_;omega)
 obtain ⟨b,hbb⟩:∃ b,b=(shpR L).isSome:=⟨_,rfl⟩
 rw [← hbb] at hSI hSS hVI hmx hve
 generalize (shpR L).getD []=T at hSI hSS hSm
 simp only [inssD,shpsD,otC] at hSI hSS hVI hMI hMS hRS
 generalize mxR L=mx at hMI hMS hmx
 generalize runO L 600=r at hRS hve
 refine sw_run 200 _ _ _ (byP vdG ?_)
 refine sw_call (hSI) rfl (aAs_ok (byQ True.intro)) (byQ True.intro) ?_
 refine sw_run 200 _ _ _ (byQ ?_)
 refine sw_call (hSS) rfl (aAs_ok (byQ True.intro)) (byQ True.intro) ?_
 refine sw_run 200 _ _ _ (byQ ?_)
 refine sw_call (hSm) rfl (aAs_ok (byQ True.intro)) (byQ True.intro) ?_
 refine sw_run 200 _ _ _ (byQ ?_)
 refine sw_call (hVI) rfl (aAs_ok (byQ True.intro)) (byQ True.intro) ?_
 refine sw_run 200 _ _ _ (byQ ?_)
 refine sw_call (hMI) rfl (aAs_ok (byQ True.intro)) (byQ True.intro) ?_
 refine sw_run 200 _ _ _ (byQ ?_)
 refine sw_call (hMS) rfl (aAs_ok (byQ True.intro)) (byQ True.intro) ?_
 refine sw_run 200 _ _ _ (byQ ?_)
 refine sw_call (hMI) rfl (aAs_ok (byQ True.intro)) (byQ True.intro) ?_
 refine sw_run 200 _ _ _ (byP hmx ?_)
 refine sw_call (hRS) rfl (aAs_ok (byQ True.intro)) (byQ True.intro) ?_
 have hC:∀ e:Tm,szL (tmC e)≤200000→ConP Tryz.prog 10 [.b (.ag [.int e.kind,.str e.name,.str e.other,.int e.n,.int e.ty.kind,.rows 2 e.ty.args.length (tysC e.ty.args),.int e.res.kind,.rows 2 e.res.args.length (tysC e.res.args),.rows 9 e.args.length (tmsC e.args)])] [] [.one (.a 37 (.rows 2 (cmR e).1.length (flC insC (cmR e).1))),.one (.o (.bool (cmR e).2))]:=fun e he=>by
  have h:=con_CompR e (by omega)
  rw [tmC_eq] at h
  exact h
 cases b
 ·refine sw_run 200 _ _ _ (byQ ?_)
  refine sw_callXR (hD1) rfl rfl rfl (byP (dmF zs) True.intro) (byP (dmF zs) True.intro) (byP (dmF zs) True.intro) ?_
  rintro e he
  have he':szL (tmC e)≤200000:=he
  have hCe:=hC e he'
  have hlen:=cm_len e
  have hvo:=ver_of e
  have hV2:=con_VerifyI (cmR e).1 (by omega)
  simp only [inssD] at hV2
  generalize (shpR (cmR e).1).isSome=s at *
  generalize (cmR e).2=ok at *
  generalize (cmR e).1=M at *
  refine sw_run 200 _ _ _ (byP (fc (dmF zs) (drZ zs)) ?_)
  refine sw_callP (hCe) rfl rfl rfl rfl (byQ True.intro) (byQ True.intro) (byQ True.intro) ?_
  cases ok
  ·exact sw_run 200 _ _ _ (byP (fc Tryz.ntmps4 Tryz.results4) True.intro)
  ·obtain rfl:=hvo rfl
   refine sw_run 200 _ _ _ (byQ ?_)
   refine sw_call (hV2) rfl (aAs_ok (byQ True.intro)) (byQ True.intro) ?_
   exact sw_run 200 _ _ _ (byP (fc Tryz.ntmps4 Tryz.results4) True.intro)
 ·obtain ⟨h0,h4⟩:=hve rfl
  refine sw_run 200 _ _ _ (byP (fc h0 h4) ?_)
  refine sw_callXR (hD1) rfl rfl rfl (byP (dmF zs) True.intro) (byP (dmF zs) True.intro) (byP (dmF zs) True.intro) ?_
  rintro e he
  have he':szL (tmC e)≤200000:=he
  have hCe:=hC e he'
  have hlen:=cm_len e
  have hvo:=ver_of e
  have hV2:=con_VerifyI (cmR e).1 (by omega)
  simp only [inssD] at hV2
  generalize (shpR (cmR e).1).isSome=s at *
  generalize (cmR e).2=ok at *
  generalize (cmR e).1=M at *
  refine sw_run 200 _ _ _ (byP (fc (dmF zs) (drZ zs)) ?_)
  refine sw_callP (hCe) rfl rfl rfl rfl (byQ True.intro) (byQ True.intro) (byQ True.intro) ?_
  cases ok
  ·exact sw_run 200 _ _ _ (byP (fc Tryz.ntmps4 Tryz.results4) True.intro)
  ·obtain rfl:=hvo rfl
   refine sw_run 200 _ _ _ (byQ ?_)
   refine sw_call (hV2) rfl (aAs_ok (byQ True.intro)) (byQ True.intro) ?_
   exact sw_run 200 _ _ _ (byP (fc Tryz.ntmps4 Tryz.results4) True.intro)
theorem top_FnVerified (w:World) (v:Value) (h:BArg w v):Calls Tryz.prog 4 #[v] w fun e w'=>e = .returned (.bool true)∧Below w.heap.size w w':=by
 obtain ⟨zs,hr,_,hz⟩:=h
 exact lp_top (con_FnVerified zs hz) (rpd_cons (rpd_one hr) (rpd_nil _))
end Go.Proofs.YtaidalilfmjfgaaGreat
