import Derived.Test.YtaidalilfmjfgaaGreatSuE
import Derived.Test.YtaidalilfmjfgaaGreatCox
import Derived.ChangeSlices
import Derived.Test.YtaidalilfmjfgaaGreatLp
import Derived.Test.YtaidalilfmjfgaaGreatSuD
import Derived.Test.YtaidalilfmjfgaaGreatEqT
namespace Go.Proofs.YtaidalilfmjfgaaGreat
open Go.RowKit
set_option linter.unusedVariables false
set_option linter.unusedSimpArgs false
set_option maxRecDepth 20000
theorem con_bodyT (e : Tm) (hz : szL (tmC e) ≤ 200000) : ∃ T : Ty, ConP Tryz.prog 125 [.b (.one (.rows 4 3 par3)), .b (.ag (tmC e))] [] [.ag [.r (.int T.kind), .r (.rows 2 T.args.length (tysC T.args))], .one (.r (.bool (bdB e)))] := by
  have hV := con_ValidS e (by omega)
  have hI := con_isBd e (by omega)
  have hT := con_tyS e ctx3 0
  unfold bdB
  rw [tmC_eq] at hV hI
  cases hv : vTm e with
  | false =>
    rw [hv] at hV
    rw [Bool.false_and]
    refine ⟨z0, ?_⟩
    refine con_runPF [0, 1, 2, 3, 4, 5, 6, 7, 8] Tryz.func125 rfl rfl (by simp [Tryz.ntmps125]) rfl ?_
    refine byP (fc Tryz.ntmps125 Tryz.results125) ?_
    refine sw_call (con_par3) rfl (aAs_ok (byQ True.intro)) (byQ True.intro) ?_
    refine sw_run 200 _ _ _ (byQ ?_)
    refine sw_call (hV) rfl (aAs_ok (byQ True.intro)) (byQ True.intro) ?_
    refine sw_run 200 _ _ _ (byP (fc Tryz.ntmps125 Tryz.results125) ?_)
    exact ⟨rfl, rfl, rfl⟩
  | true =>
    rw [hv] at hV
    rw [Bool.true_and]
    cases hi : allTm isBd e with
    | false =>
      rw [hi] at hI
      rw [Bool.false_and]
      refine ⟨z0, ?_⟩
      refine con_runPF [0, 1, 2, 3, 4, 5, 6, 7, 8] Tryz.func125 rfl rfl (by simp [Tryz.ntmps125]) rfl ?_
      refine byP (fc Tryz.ntmps125 Tryz.results125) ?_
      refine sw_call (con_par3) rfl (aAs_ok (byQ True.intro)) (byQ True.intro) ?_
      refine sw_run 200 _ _ _ (byQ ?_)
      refine sw_call (hV) rfl (aAs_ok (byQ True.intro)) (byQ True.intro) ?_
      refine sw_run 200 _ _ _ (byQ ?_)
      refine sw_call (hI) rfl (aAs_ok (byQ True.intro)) (byQ True.intro) ?_
      refine sw_run 200 _ _ _ (byP (fc Tryz.ntmps125 Tryz.results125) ?_)
      exact ⟨rfl, rfl, rfl⟩
    | true =>
      rw [hi] at hI
      rw [Bool.true_and]
      have hf : allTm isFm e = true := by
        unfold vTm at hv
        rw [Bool.and_eq_true] at hv
        exact hv.1
      replace hT := hT (by
        have h3 : szL (flC tgC ctx3) = 3 := by decide
        unfold CtxW
        rw [h3]
        show 3 + 3 + 200 * (szL (tmC e) + 1) ≤ 1000000000
        omega) (rg0 (by omega)) hf
      replace hT : ConP Tryz.prog 87 [.b (.one (.rows 4 3 [.str ⟨#[110]⟩, .int 1, .rows 2 0 [], .int 0, .str ⟨#[120]⟩, .int 1, .rows 2 0 [], .int 0, .str ⟨#[121]⟩, .int 1, .rows 2 0 [], .int 0])), .b (.ag (tmC e)), .b (.one (.int 0))] [] [.ag [.r (.int (tyT e ctx3 0).kind), .r (.rows 2 (tyT e ctx3 0).args.length (tysC (tyT e ctx3 0).args))], .one (.r (.bool (decide ((tyT e ctx3 0).kind ≠ 0))))] := hT
      refine ⟨tyT e ctx3 0, ?_⟩
      rw [tmC_eq] at hT
      generalize decide ((tyT e ctx3 0).kind ≠ 0) = b at *
      generalize tyT e ctx3 0 = T at *
      refine con_runPF [0, 1, 2, 3, 4, 5, 6, 7, 8] Tryz.func125 rfl rfl (by simp [Tryz.ntmps125]) rfl ?_
      refine byP (fc Tryz.ntmps125 Tryz.results125) ?_
      refine sw_call (con_par3) rfl (aAs_ok (byQ True.intro)) (byQ True.intro) ?_
      refine sw_run 200 _ _ _ (byQ ?_)
      refine sw_call (hV) rfl (aAs_ok (byQ True.intro)) (byQ True.intro) ?_
      refine sw_run 200 _ _ _ (byQ ?_)
      refine sw_call (hI) rfl (aAs_ok (byQ True.intro)) (byQ True.intro) ?_
      refine sw_run 200 _ _ _ (byQ ?_)
      refine sw_drawn (.cons 0 true (.cons 2 true (.fork (.alt 1 (.fork (.alt 3 (.cons 4 true (.cons 5 true (.fork (.alt 6 (.cons 7 false (.cons 8 false (.cons 9 true (.nil)))) (.alt 7 (.fork (.alt 6 (.cons 8 false (.cons 9 true (.nil))) (.alt 8 (.cons 6 true (.cons 9 true (.nil))) (.last)))) (.last)))))) (.alt 7 (.cons 3 false (.cons 4 true (.cons 5 true (.fork (.alt 6 (.cons 8 false (.cons 9 true (.nil))) (.alt 8 (.cons 6 true (.cons 9 true (.nil))) (.last))))))) (.last)))) (.alt 7 (.cons 1 false (.cons 3 false (.cons 4 true (.cons 5 true (.fork (.alt 6 (.cons 8 false (.cons 9 true (.nil))) (.alt 8 (.cons 6 true (.cons 9 true (.nil))) (.last)))))))) (.last)))))) (by kernel_rfl) fQF_panic (by kernel_rfl) ?_
      refine sw_run 200 _ _ _ (byQ ?_)
      repeat' (with_reducible apply And.intro)
      all_goals
        refine sw_callDPB (cap := []) (con_ctx3) rfl rfl rfl (byQ True.intro) ?_
        refine sw_run 200 _ _ _ (byQ ?_)
        repeat' (with_reducible apply And.intro)
      all_goals
        refine sw_callDPB (cap := []) (hT) rfl rfl rfl (byQ True.intro) ?_
        refine sw_run 200 _ _ _ (byP (fc Tryz.ntmps125 Tryz.results125) ?_)
      all_goals exact True.intro
theorem r3F:rowAt 1 [D.int 2,D.int 3,D.int 10006] 0=[D.int 2]∧rowAt 1 [D.int 2,D.int 3,D.int 10006] 1=[D.int 3]∧rowAt 1 [D.int 2,D.int 3,D.int 10006] 2=[D.int 10006]:=⟨rfl,rfl,rfl⟩
theorem con_fit3 (n:Int) (h:0≤n∧n≤10006):Con Tryz.prog 126 [.ag [.int 1,.rows 2 0 []],.one (.int n)] [.one (.bool true)]:=by
 have hI:=con_l1In n 0 10006
 rw [decide_eq_true h.1,decide_eq_true h.2] at hI
 simp only [Bool.and_self] at hI
 refine con_run Tryz.func126 rfl rfl (by simp [Tryz.ntmps126]) ?_
 refine byP (fc Tryz.ntmps126 Tryz.results126) ?_
 refine sw_call (hI) rfl (aAs_ok (byQ True.intro)) (byQ True.intro) ?_
 exact sw_run 200 _ _ _ (byP (fc Tryz.ntmps126 Tryz.results126) True.intro)
set_option maxHeartbeats 4000000 in
theorem con_EvB (e : Tm) (hz : szL (tmC e) ≤ 200000) : Con Tryz.prog 53 [.one (.rows 4 3 par3), .ag (tmC e), .one (.rows 1 3 [.int 2, .int 3, .int 10006])] [.one (.int (if bdB e = true then evT e env3 else 0)), .one (.bool (bdB e))] := by
  obtain ⟨T, hT⟩ := con_bodyT e hz
  have hF := con_fit3
  have hE := fun h : bdB e = true => con_evS e ctx3 env3 (bdy_of h) (by show 3 + szL (tmC e) ≤ 10000000; omega)
  have hE' : bdB e = true → Con Tryz.prog 127 [.ag (tmC e), .one (.rows 2 3 [.str ⟨#[110]⟩, .int 2, .str ⟨#[120]⟩, .int 3, .str ⟨#[121]⟩, .int 10006])] [.one (.int (evT e env3))] := hE
  clear hE
  rw [tmC_eq] at hT hE'
  cases hb : bdB e with
  | false =>
    rw [hb] at hT
    simp only [Bool.false_eq_true, if_false]
    refine con_run Tryz.func53 rfl rfl (by simp [Tryz.ntmps53]) ?_
    refine byP (fc Tryz.ntmps53 Tryz.results53) ?_
    refine sw_callPR (hT) rfl rfl rfl (byQ True.intro) (byQ True.intro) (byQ True.intro) ?_
    exact sw_run 200 _ _ _ (byP (fc Tryz.ntmps53 Tryz.results53) True.intro)
  | true =>
  rw [hb] at hT
  replace hE' := hE' hb
  simp only [if_true]
  generalize evT e env3 = v at *
  refine con_run Tryz.func53 rfl rfl (by simp [Tryz.ntmps53]) ?_
  refine byP (fc Tryz.ntmps53 Tryz.results53) ?_
  refine sw_callPR (hT) rfl rfl rfl (byQ True.intro) (byQ True.intro) (byQ True.intro) ?_
  refine sw_run 200 _ _ _ (byQ ?_)
  refine sw_rounds 4 (sw_run 200 _ _ _ ?_)
  refine byP (fc n3F (fc p3F (fc r3F qrF))) ?_
  refine sw_drawn (.cons 0 true (.cons 1 true (.cons 2 true (.cons 3 true (.cons 4 true (.cons 5 true (.cons 6 true (.cons 7 true (.cons 8 true (.cons 9 false (.cons 10 true (.nil)))))))))))) (by kernel_rfl) qR_panic (by kernel_rfl) ?_
  refine sw_run 200 _ _ _ (byP (fc n3F (fc p3F (fc r3F qrF))) ?_)
  repeat' (with_reducible apply And.intro)
  all_goals
    refine sw_callD (hF 2 (by omega)) rfl (aAs_ok (byQ True.intro)) (byQ True.intro) ?_
    refine sw_run 200 _ _ _ (byP (fc n3F (fc p3F (fc r3F qrF))) ?_)
    refine sw_drawn (.cons 0 true (.cons 1 true (.cons 2 true (.cons 3 true (.cons 4 true (.cons 5 true (.cons 6 true (.cons 7 true (.cons 8 true (.cons 9 true (.cons 10 true (.cons 11 false (.cons 12 false (.cons 13 true (.nil))))))))))))))) (by kernel_rfl) qR_panic (by kernel_rfl) ?_
    refine sw_run 200 _ _ _ (byP (fc n3F (fc p3F (fc r3F qrF))) ?_)
    repeat' (with_reducible apply And.intro)
  all_goals first
    | (intro h; exact h.elim)
    | (intro o a b; omega)
    | (intro o a; omega)
    | (unfold maxLen; omega)
    | omega
    | skip
  refine sw_run 200 _ _ _ (byP (fc n3F (fc p3F (fc r3F qrF))) ?_)
  refine sw_drawn (.cons 0 true (.cons 1 true (.cons 2 true (.cons 3 true (.cons 4 true (.cons 5 true (.cons 6 true (.cons 7 true (.cons 8 true (.cons 9 false (.cons 10 true (.nil)))))))))))) (by kernel_rfl) qR_panic (by kernel_rfl) ?_
  refine sw_run 200 _ _ _ (byP (fc n3F (fc p3F (fc r3F qrF))) ?_)
  repeat' (with_reducible apply And.intro)
  all_goals
    refine sw_callD (hF 3 (by omega)) rfl (aAs_ok (byQ True.intro)) (byQ True.intro) ?_
    refine sw_run 200 _ _ _ (byP (fc n3F (fc p3F (fc r3F qrF))) ?_)
    refine sw_drawn (.cons 0 true (.cons 1 true (.cons 2 true (.cons 3 true (.cons 4 true (.cons 5 true (.cons 6 true (.cons 7 true (.cons 8 true (.cons 9 true (.cons 10 true (.cons 11 false (.cons 12 false (.cons 13 true (.nil))))))))))))))) (by kernel_rfl) qR_panic (by kernel_rfl) ?_
    refine sw_run 200 _ _ _ (byP (fc n3F (fc p3F (fc r3F qrF))) ?_)
    repeat' (with_reducible apply And.intro)
  all_goals first
    | (intro h; exact h.elim)
    | (intro o a b; omega)
    | (intro o a; omega)
    | (unfold maxLen; omega)
    | omega
    | skip
  refine sw_run 200 _ _ _ (byP (fc n3F (fc p3F (fc r3F qrF))) ?_)
  refine sw_drawn (.cons 0 true (.cons 1 true (.cons 2 true (.cons 3 true (.cons 4 true (.cons 5 true (.cons 6 true (.cons 7 true (.cons 8 true (.cons 9 false (.cons 10 true (.nil)))))))))))) (by kernel_rfl) qR_panic (by kernel_rfl) ?_
  refine sw_run 200 _ _ _ (byP (fc n3F (fc p3F (fc r3F qrF))) ?_)
  repeat' (with_reducible apply And.intro)
  all_goals
    refine sw_callD (hF 10006 (by omega)) rfl (aAs_ok (byQ True.intro)) (byQ True.intro) ?_
    refine sw_run 200 _ _ _ (byP (fc n3F (fc p3F (fc r3F qrF))) ?_)
    refine sw_drawn (.cons 0 true (.cons 1 true (.cons 2 true (.cons 3 true (.cons 4 true (.cons 5 true (.cons 6 true (.cons 7 true (.cons 8 true (.cons 9 true (.cons 10 true (.cons 11 false (.cons 12 false (.cons 13 true (.nil))))))))))))))) (by kernel_rfl) qR_panic (by kernel_rfl) ?_
    refine sw_run 200 _ _ _ (byP (fc n3F (fc p3F (fc r3F qrF))) ?_)
    repeat' (with_reducible apply And.intro)
  all_goals first
    | (intro h; exact h.elim)
    | (intro o a b; omega)
    | (intro o a; omega)
    | (unfold maxLen; omega)
    | omega
    | skip
  refine sw_run 200 _ _ _ (byP (fc n3F (fc p3F (fc r3F qrF))) ?_)
  refine sw_run 200 _ _ _ (byQ ?_)
  refine sw_call (hE') rfl (aAs_ok (byQ True.intro)) (byQ True.intro) ?_
  exact sw_run 200 _ _ _ (byP (fc Tryz.ntmps53 Tryz.results53) True.intro)
def BArg (w:World) (v:Value):Prop:=∃ zs:List Int,RepV w w.heap.size (bytD zs) v∧zs.length≤maxLen∧∀ n ∈ zs,0≤n∧n<256
theorem repVs_byt (w : World) (S : Nat) : ∀ zs : List Int, RepVs w S (zs.map D.byt) (zs.map (Value.int .u8))
  | [] => by unfold RepVs; rfl
  | z :: zs => by
    rw [List.map_cons, List.map_cons]
    unfold RepVs
    exact ⟨_, _, rfl, by unfold RepV; rfl, repVs_byt w S zs⟩
theorem barg {H:Type} {enc:TypeId × Value→H} {w:World} {base:Nat} {spare:Nat→Bool} {held:Bool} {fuel:Nat} {a:Option Addr} {l c:Nat} {x:DataW H × List MemPlace}
  (hf:DataW.trod enc Tryz.prog w base spare held fuel 22 (Value.slice a l c).cells.toList=some x):BArg w (.slice a l c):=by
 rcases ChangeShapes.open_ints Tryz.underlying22 Tryz.underlying5 (by kernel_rfl) hf with ⟨h,_⟩ | ⟨a',len,cap,zs,h,hb,hl,hm,hz,_,hc,hw⟩
 ·have h':[Value.slice a l c]=[.slice none 0 0]:=h
  simp only [List.cons.injEq,Value.slice.injEq,and_true] at h'
  obtain ⟨rfl,rfl,rfl⟩:=h'
  refine ⟨[], ?_,Nat.zero_le _,by simp⟩
  unfold bytD RepV
  exact ⟨_,_,rfl,Nat.le_refl _,Nat.zero_le _,rfl,.inl rfl⟩
 ·have h':[Value.slice a l c]=[.slice (some a') len cap]:=h
  simp only [List.cons.injEq,Value.slice.injEq,and_true] at h'
  obtain ⟨rfl,rfl,rfl⟩:=h'
  have hlz:l≤zs.length:=by rw [hz];split <;> omega
  refine ⟨zs.take l, ?_,by rw [List.length_take];omega,fun n hn => ?_⟩
  ·have hlen:(zs.take l).length=l:=by rw [List.length_take];omega
   unfold bytD RepV
   rw [hlen]
   refine ⟨_,_,rfl,hl,hm,by rw [List.length_map,hlen];omega, ?_⟩
   rcases Nat.eq_zero_or_pos l with h0 | h0
   ·exact .inl h0
   ·right
    have h1:=hc 0 (by omega)
    have h3:a'.add 0=a':=by simp [Addr.add]
    rw [h3] at h1
    have h4:=World.cell?_spot h1
    have h5:=World.block_lt_of_cell? w _ h1
    obtain ⟨b,off,s⟩:=a'
    have hs:s=none:=by simpa using h4
    subst hs
    refine ⟨b,off,(zs.take l).map (Value.int .u8),rfl,h5,fun i hi => ?_,repVs_byt _ _ _⟩
    have hi':i<l:=by rw [List.length_map,hlen] at hi;exact hi
    have h6:=hc i (by omega)
    rw [show (⟨b,off,none⟩:Addr).add i=⟨b,off+i,none⟩ by unfold Addr.add;simp] at h6
    rw [h6]
    simp [List.getD_eq_getElem?_getD,List.getElem?_eq_getElem (show i<zs.length by omega)]
  ·have h7:(decide ((0:Int)≤n) && decide (n≤255))=true:=hw n (List.mem_of_mem_take hn)
   simp only [Bool.and_eq_true,decide_eq_true_eq] at h7
   omega
theorem sumT_sz (s : Sm) (h : szL (sumC s) ≤ 1000) : szL (tmC (sumT s)) ≤ 2000 := by
  cases hs : sumOk s with
  | false =>
    unfold sumT
    rw [hs, if_neg (show ¬ false = true by decide)]
    decide
  | true =>
    have h1 := parL_len s (sumOk_t hs).2.2
    have h2 := foT_sz (parL s) ((parL s).length - 1) (by omega)
    have h3 := szL_tms_take (parL s) ((parL s).length - 1 + 1)
    have h4 := parL_sz s
    have h5 := (sumOk_t hs).2.2
    unfold sumT
    rw [if_pos hs]
    omega
theorem lin_sz {t:Tm} (hz:szL (tmC t)≤100000000):szL (sumC (linR t).1)≤100000040:=by
 rw [linR]
 split
 ·have:=sz_lin lnI sz_opI t;omega
 ·show szL (sumC zeroS)≤_;rw [sz_zeroS];omega
mutual
theorem eqTm_rf : ∀ t : Tm, eqTm t t = true
  | .mk k s o n t r xs => by
    rw [eqTm, eqTy_refl, eqTy_refl, eqTms_rf xs]
    simp
theorem eqTms_rf:∀ xs:List Tm,eqTms xs xs=true
 | []=>by rw [eqTms]
 | x :: xs=>by rw [eqTms,eqTm_rf x,eqTms_rf xs];rfl
end
theorem con_bigS (zs:List Int):Con Tryz.prog 7 [.one (.rows 1 zs.length (zs.map D.byt))] [.one (.bool (decide (1048576<(zs.length:Int))))]:=by
 refine con_run Tryz.func7 rfl rfl (by simp [Tryz.ntmps7]) ?_
 exact byP (fc Tryz.ntmps7 Tryz.results7) True.intro
set_option maxHeartbeats 16000000 in
theorem con_FnSums (zs:List Int) (hz:∀ n ∈ zs,0≤n∧n<256):Con Tryz.prog 6 [.one (bytD zs)] [.one (.bool true)]:=by
 have hb:=con_bigS zs
 show Con Tryz.prog 6 [.one (.rows 1 zs.length (zs.map D.byt))] [.one (.bool true)]
 by_cases hbig:1048576<(zs.length:Int)
 ·rw [decide_eq_true hbig] at hb
  refine con_run Tryz.func6 rfl rfl (by simp [Tryz.ntmps6]) ?_
  refine byP (fc Tryz.ntmps6 Tryz.results6) ?_
  refine sw_call (hb) rfl (aAs_ok (byQ True.intro)) (byQ True.intro) ?_
  exact sw_run 200 _ _ _ (byP (fc Tryz.ntmps6 Tryz.results6) True.intro)
 rw [decide_eq_false hbig] at hb
 have hok:BytOk zs:=⟨by omega,hz⟩
 have hD1:ConX Tryz.prog 32 [.b (.one (.rows 1 zs.length (zs.map D.byt)))] s2I s2O s2R:=con_addD zs hok
 have hD2:ConX Tryz.prog 35 [.b (.one (.rows 1 zs.length (zs.map D.byt)))] snI snO snR:=con_scaD zs hok
 have hD3:ConX Tryz.prog 41 [.b (.one (.rows 1 zs.length (zs.map D.byt)))] s1I s1O s1R:=con_sumD zs hok
 have hD4:ConX Tryz.prog 46 [.b (.one (.rows 1 zs.length (zs.map D.byt)))] (dmI 200000) dmO dmR:=con_linD zs hok
 have hD5:ConX Tryz.prog 48 [.b (.one (.rows 1 zs.length (zs.map D.byt)))] seI seO seR:=con_evaD zs hok
 have hD6:ConX Tryz.prog 51 [.b (.one (.rows 1 zs.length (zs.map D.byt)))] s2I s2O s2R:=con_equD zs hok
 refine con_run Tryz.func6 rfl rfl (by simp [Tryz.ntmps6]) ?_
 refine byP (fc Tryz.ntmps6 Tryz.results6) ?_
 refine sw_call (hb) rfl (aAs_ok (byQ True.intro)) (byQ True.intro) ?_
 refine sw_run 200 _ _ _ (byQ ?_)
 refine sw_callXR (hD1) rfl rfl rfl (byP (dmF zs) True.intro) (byP (dmF zs) True.intro) (byP (dmF zs) True.intro) ?_
 rintro ⟨a,b⟩ ⟨ha,hbb⟩
 simp only at ha hbb
 have hAI:=con_AddI a b (by omega) (by omega)
 have hAS:=con_AddS a b (by omega) (by omega)
 have hBI:=con_AddI b a (by omega) (by omega)
 rw [(ad_comm b a).1,(ad_comm b a).2] at hBI
 have hs:=sz_ad a b
 have hE1:=con_EqSumI (adR a b) (adR a b) (by omega)
 rw [eqSm_refl] at hE1
 generalize adR a b=s at hAI hAS hBI hs hE1
 generalize adB a b=sb at hAI hAS hBI
 simp only [sumC,imsD] at hAI hAS hBI hE1
 refine sw_run 200 _ _ _ (byP (fc s2F (suF zs)) ?_)
 refine sw_call (hAI) rfl (aAs_ok (byQ True.intro)) (byQ True.intro) ?_
 refine sw_run 200 _ _ _ (byQ ?_)
 refine sw_call (hAS) rfl (aAs_ok (byQ True.intro)) (byQ True.intro) ?_
 refine sw_run 200 _ _ _ (byQ ?_)
 refine sw_callXR (hD2) rfl rfl rfl (byP (dmF zs) True.intro) (byP (dmF zs) True.intro) (byP (dmF zs) True.intro) ?_
 rintro ⟨c,n⟩ ⟨hc,hn⟩
 simp only at hc hn
 have hSI:=con_ScaleI c n (by omega)
 have hSS:=con_ScaleS c n (by omega)
 have hm:=sz_sc c n
 have hE2:=con_EqSumI (scR c n) (scR c n) (by omega)
 rw [eqSm_refl] at hE2
 have hI1:=con_IsSumI c (by omega)
 have hI2:=con_IsSumS c (by omega)
 generalize scR c n=m at hSI hSS hm hE2
 generalize sumOk c=cb at hSI hSS hI1 hI2
 simp only [sumC,imsD] at hSI hSS hE2 hI1 hI2
 refine sw_run 200 _ _ _ (byP (fc snF (suF zs)) ?_)
 refine sw_call (hSI) rfl (aAs_ok (byQ True.intro)) (byQ True.intro) ?_
 refine sw_run 200 _ _ _ (byQ ?_)
 refine sw_call (hSS) rfl (aAs_ok (byQ True.intro)) (byQ True.intro) ?_
 refine sw_run 200 _ _ _ (byQ ?_)
 refine sw_call (hBI) rfl (aAs_ok (byQ True.intro)) (byQ True.intro) ?_
 refine sw_run 200 _ _ _ (byQ ?_)
 refine sw_drawnK ⟨252,[(120,.b false),(0,.br (.rows 1 zs.length (zs.map D.byt)))],[],[],0,[]⟩ (.cons 0 true (.cons 1 true (.cons 2 true (.cons 3 true (.cons 4 true (.cons 5 true (.cons 6 false (.cons 7 true (.cons 8 true (.cons 9 true (.cons 10 true (.cons 11 true (.cons 12 true (.cons 13 true (.cons 14 true (.cons 15 true (.cons 16 true (.cons 17 false (.cons 18 true (.cons 19 true (.cons 20 true (.cons 21 true (.cons 22 true (.cons 23 true (.cons 24 true (.cons 25 true (.cons 26 true (.cons 27 true (.cons 28 false (.cons 29 true (.cons 30 true (.cons 31 true (.cons 32 true (.cons 34 true (.cons 33 false (.cons 35 false (.cons 36 true (.cons 37 true (.nil))))))))))))))))))))))))))))))))))))))) (by kernel_rfl) (by kernel_rfl) ?_ ?_
 ·refine sw_run 200 _ _ _ (byQ ?_)
  refine sw_callD (hE1) rfl (aAs_ok (byQ True.intro)) (byQ True.intro) ?_
  refine sw_run 200 _ _ _ (byQ ?_)
  refine sw_callD (hE2) rfl (aAs_ok (byQ True.intro)) (byQ True.intro) ?_
  refine sw_run 200 _ _ _ (byQ ?_)
  refine sw_callD (hE1) rfl (aAs_ok (byQ True.intro)) (byQ True.intro) ?_
  refine sw_run 200 _ _ _ (byQ ?_)
  refine sw_callD (hI1) rfl (aAs_ok (byQ True.intro)) (byQ True.intro) ?_
  refine sw_run 200 _ _ _ (byQ ?_)
  refine sw_callD (hI2) rfl (aAs_ok (byQ True.intro)) (byQ True.intro) ?_
  refine sw_run 200 _ _ _ (byQ ?_)
  exact ⟨rfl,id,byQ True.intro⟩
 refine sw_run 200 _ _ _ (byQ ?_)
 refine sw_callXR (hD3) rfl rfl rfl (byP (dmF zs) True.intro) (byP (dmF zs) True.intro) (byP (dmF zs) True.intro) ?_
 rintro x hx
 have hx:szL (sumC x)≤1000:=hx
 have hTI:=con_SumTermI x (by omega)
 have hTS:=con_SumTermS x (by omega)
 have hts:=sumT_sz x hx
 have hLI:=con_LinI (sumT x) (by omega)
 have hQ:=con_EqTmS (sumT x) (sumT x) (by omega)
 rw [eqTm_rf] at hQ
 have hIx:=con_IsSumS x (by omega)
 have hE3:=con_EqSumI x x (by omega)
 rw [eqSm_refl] at hE3
 obtain ⟨f1,f2⟩:=su_found x
 rw [f1] at hLI
 generalize hsx:(linR (sumT x)).1=y at *
 generalize sumT x=e at *
 generalize hbx:sumOk x=bx at *
 rw [tmC_eq] at hTI hTS hLI hQ
 simp only [sumC,imsD] at hTI hTS hLI hIx hE3
 refine sw_run 200 _ _ _ (byP (fc s1F (suF zs)) ?_)
 refine sw_call (hTI) rfl (aAs_ok (byQ True.intro)) (byQ True.intro) ?_
 refine sw_run 200 _ _ _ (byQ ?_)
 refine sw_call (hLI) rfl (aAs_ok (byQ True.intro)) (byQ True.intro) ?_
 refine sw_run 200 _ _ _ (byQ ?_)
 refine sw_drawnK ⟨252,[(149,.b false),(0,.br (.rows 1 zs.length (zs.map D.byt)))],[],[],0,[]⟩ (.cons 0 true (.cons 1 true (.cons 2 false (.cons 3 false (.cons 4 true (.cons 5 true (.cons 6 true (.cons 7 true (.cons 8 false (.cons 9 true (.cons 10 true (.cons 11 true (.cons 12 true (.cons 13 true (.cons 14 true (.cons 15 true (.cons 16 false (.cons 17 true (.cons 18 true (.cons 19 true (.nil))))))))))))))))))))) (by kernel_rfl) (by kernel_rfl) ?_ ?_
 ·refine sw_run 200 _ _ _ (byQ ?_)
  refine sw_callD (hTS) rfl (aAs_ok (byQ True.intro)) (byQ True.intro) ?_
  refine sw_run 200 _ _ _ (byQ ?_)
  refine sw_callD (hQ) rfl (aAs_ok (byQ True.intro)) (byQ True.intro) ?_
  refine sw_run 200 _ _ _ (byQ ?_)
  refine sw_callD (hIx) rfl (aAs_ok (byQ True.intro)) (byQ True.intro) ?_
  cases bx
  ·refine sw_run 200 _ _ _ (byQ ?_)
   exact ⟨rfl,id,byQ True.intro⟩
  ·have hyx:=f2 rfl
   subst hyx
   refine sw_run 200 _ _ _ (byQ ?_)
   refine sw_callD (hE3) rfl (aAs_ok (byQ True.intro)) (byQ True.intro) ?_
   refine sw_run 200 _ _ _ (byQ ?_)
   exact ⟨rfl,id,byQ True.intro⟩
 clear hTI hTS hLI hQ hIx hE3 f1 f2 hsx hbx hts hx y e bx
 refine sw_run 200 _ _ _ (byQ ?_)
 refine sw_callXR (hD4) rfl rfl rfl (byP (dmF zs) True.intro) (byP (dmF zs) True.intro) (byP (dmF zs) True.intro) ?_
 rintro f hf
 have hf:szL (tmC f)≤200000:=hf
 have hLI:=con_LinI f (by omega)
 have hLS:=con_LinS f (by omega)
 have hls:=lin_sz (t:=f) (by omega)
 have hEq:=con_EqSumI (linR f).1 (linR f).1 (by omega)
 rw [eqSm_refl] at hEq
 have hEv:Con Tryz.prog 49 [.ag (sumC (linR f).1),.one (.rows 1 3 [.str ⟨#[110]⟩,.str ⟨#[120]⟩,.str ⟨#[121]⟩]),.one (.rows 1 3 [.int 2,.int 3,.int 10006])] [.one (.int (evV (linR f).1 [⟨#[110]⟩,⟨#[120]⟩,⟨#[121]⟩] [2,3,10006])),.one (.bool (evOk (linR f).1 [⟨#[110]⟩,⟨#[120]⟩,⟨#[121]⟩] [2,3,10006]))]:=con_EvalI (linR f).1 [⟨#[110]⟩,⟨#[120]⟩,⟨#[121]⟩] [2,3,10006] (by omega) (by decide) (by decide)
 have hBo:Con Tryz.prog 53 [.one (.rows 4 3 [.str ⟨#[110]⟩,.int 1,.rows 2 0 [],.bool false,.str ⟨#[120]⟩,.int 1,.rows 2 0 [],.bool false,.str ⟨#[121]⟩,.int 1,.rows 2 0 [],.bool false]),.ag (tmC f),.one (.rows 1 3 [.int 2,.int 3,.int 10006])] [.one (.int (if bdB f=true then evT f env3 else 0)),.one (.bool (bdB f))]:=con_EvB f hf
 have hval:=su_value f
 generalize evT f env3=vb at *
 generalize bdB f=fb at *
 generalize evV (linR f).1 [⟨#[110]⟩,⟨#[120]⟩,⟨#[121]⟩] [2,3,10006]=va at *
 generalize evOk (linR f).1 [⟨#[110]⟩,⟨#[120]⟩,⟨#[121]⟩] [2,3,10006]=tb at *
 generalize (linR f).2=lb at *
 generalize (linR f).1=l at *
 rw [tmC_eq] at hLI hLS hBo
 simp only [sumC,imsD] at hLI hLS hEq hEv
 refine sw_run 200 _ _ _ (byP (fc (dmF zs) (drZ zs)) ?_)
 refine sw_call (hLI) rfl (aAs_ok (byQ True.intro)) (byQ True.intro) ?_
 refine sw_run 200 _ _ _ (byQ ?_)
 refine sw_call (hLS) rfl (aAs_ok (byQ True.intro)) (byQ True.intro) ?_
 refine sw_run 200 _ _ _ (byQ ?_)
 refine sw_callXR (hD5) rfl rfl rfl (byP (dmF zs) True.intro) (byP (dmF zs) True.intro) (byP (dmF zs) True.intro) ?_
 rintro ⟨u,ns,as1⟩ ⟨hu,hns,has⟩
 simp only at hu hns has
 have hVI:Con Tryz.prog 49 [.ag (sumC u),.one (.rows 1 ns.length (ns.map D.str)),.one (.rows 1 as1.length (as1.map D.int))] [.one (.int (evV u ns as1)),.one (.bool (evOk u ns as1))]:=con_EvalI u ns as1 (by omega) (by omega) (by omega)
 have hVS:Con Tryz.prog 50 [.ag (sumC u),.one (.rows 1 ns.length (ns.map D.str)),.one (.rows 1 as1.length (as1.map D.int))] [.one (.int (evV u ns as1)),.one (.bool (evOk u ns as1))]:=con_EvalS u ns as1 (by omega) (by omega) (by omega)
 generalize evV u ns as1=v1 at *
 generalize evOk u ns as1=o1 at *
 simp only [sumC,imsD] at hVI hVS
 refine sw_run 200 _ _ _ (byP (fc seF (suF zs)) ?_)
 refine sw_call (hVI) rfl (aAs_ok (byQ True.intro)) (byQ True.intro) ?_
 refine sw_run 200 _ _ _ (byQ ?_)
 refine sw_call (hVS) rfl (aAs_ok (byQ True.intro)) (byQ True.intro) ?_
 refine sw_run 200 _ _ _ (byQ ?_)
 refine sw_callXR (hD6) rfl rfl rfl (byP (dmF zs) True.intro) (byP (dmF zs) True.intro) (byP (dmF zs) True.intro) ?_
 rintro ⟨p,q⟩ ⟨hp,hq⟩
 simp only at hp hq
 have hPI:=con_EqSumI p q (by omega)
 have hPS:=con_EqSumS p q (by omega)
 generalize eqSm p q=pq at *
 simp only [sumC,imsD] at hPI hPS
 refine sw_run 200 _ _ _ (byP (fc s2F (suF zs)) ?_)
 refine sw_drawn (.cons 0 true (.cons 1 true (.cons 2 true (.cons 3 true (.cons 4 true (.cons 5 true (.cons 6 false (.cons 7 true (.cons 8 true (.cons 9 true (.cons 10 true (.cons 11 true (.cons 12 true (.cons 13 true (.cons 14 true (.cons 15 true (.cons 16 true (.cons 17 true (.cons 18 true (.cons 19 true (.cons 20 true (.cons 21 true (.cons 23 true (.cons 24 true (.cons 22 false (.cons 25 false (.cons 26 true (.cons 27 true (.nil))))))))))))))))))))))))))))) (by kernel_rfl) fQ_panic (by kernel_rfl) ?_
 refine sw_run 200 _ _ _ (byQ ?_)
 refine sw_callD (hEq) rfl (aAs_ok (byQ True.intro)) (byQ True.intro) ?_
 refine sw_run 200 _ _ _ (byQ ?_)
 refine sw_callD (hPI) rfl (aAs_ok (byQ True.intro)) (byQ True.intro) ?_
 refine sw_run 200 _ _ _ (byQ ?_)
 refine sw_callD (hPS) rfl (aAs_ok (byQ True.intro)) (byQ True.intro) ?_
 refine sw_run 200 _ _ _ (byQ ?_)
 refine sw_call (hEv) rfl (aAs_ok (byQ True.intro)) (byQ True.intro) ?_
 refine sw_run 200 _ _ _ (byQ ?_)
 refine sw_call (hBo) rfl (aAs_ok (byQ True.intro)) (byQ True.intro) ?_
 cases lb
 ·exact sw_run 200 _ _ _ (byP (fc Tryz.ntmps6 Tryz.results6) True.intro)
 cases tb
 ·exact sw_run 200 _ _ _ (byP (fc Tryz.ntmps6 Tryz.results6) True.intro)
 cases fb
 ·exact sw_run 200 _ _ _ (byP (fc Tryz.ntmps6 Tryz.results6) True.intro)
 obtain rfl:=hval rfl rfl
 exact sw_run 200 _ _ _ (byP (fc Tryz.ntmps6 Tryz.results6) True.intro)
theorem top_FnSums (w:World) (v:Value) (h:BArg w v):Calls Tryz.prog 6 #[v] w fun e w'=>e = .returned (.bool true)∧Below w.heap.size w w':=by
 obtain ⟨zs,hr,_,hz⟩:=h
 exact lp_top (con_FnSums zs hz) (rpd_cons (rpd_one hr) (rpd_nil _))
end Go.Proofs.YtaidalilfmjfgaaGreat
