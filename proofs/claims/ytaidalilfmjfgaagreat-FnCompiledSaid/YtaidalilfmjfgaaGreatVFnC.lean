import Derived.Test.YtaidalilfmjfgaaGreatPq
import Derived.Test.YtaidalilfmjfgaaGreatCox
import Derived.ChangeSlices
import Derived.Test.YtaidalilfmjfgaaGreatLp
import Derived.Test.YtaidalilfmjfgaaGreatCpM
import Derived.Test.YtaidalilfmjfgaaGreatCpN
import Derived.Test.YtaidalilfmjfgaaGreatInsV
namespace Go.Proofs.YtaidalilfmjfgaaGreat
open Go.RowKit
set_option linter.unusedVariables false
set_option linter.unusedSimpArgs false
set_option maxRecDepth 20000
theorem con_erZ (e:Tm) (he:szL (tmC e)≤1000000):ConP Tryz.prog 128 [.b (.ag [.int e.kind,.str e.name,.str e.other,.int e.n,.int e.ty.kind,.rows 2 e.ty.args.length (tysC e.ty.args),.int e.res.kind,.rows 2 e.res.args.length (tysC e.res.args),.rows 9 e.args.length (tmsC e.args)])] [] [tmZ (eraseT e)]:=by
 have:=conTm (con_EraseS e (by omega))
 rw [tmC_eq] at this
 exact this
set_option maxHeartbeats 4000000 in
theorem con_plain14 (zs:List Int) (hz:BytOk zs) (i:Nat) (hi:i≤zs.length) (h:Int):ConX Tryz.prog 130 [.p (curA zs i h)] (tmI zs 200000) (tmO zs) tmZs:=by
 have hB:=fun n hn hn2 i hi h=>con_Below zs hz n hn hn2 i hi h
 have cI:ConP Tryz.prog 201 [] [] [.ag [.r (.int 1),.r (.rows 2 0 [])]]:=con_gI
 refine con_runXF [0,1,2,3,4,5,6,7,8,9,10,11,12] Tryz.func130 rfl rfl (by simp [Tryz.ntmps130]) (fun _ _=>rfl) ?_
 refine byP (fc (drZ zs) (fc Tryz.ntmps130 Tryz.results130)) ?_
 refine sw_callPR (cI) rfl rfl rfl (byQ True.intro) (byQ True.intro) (byQ True.intro) ?_
 refine sw_run 200 _ _ _ (byQ ?_)
 refine sw_callXR (hB 3 (by decide) (by decide) i hi h) rfl rfl rfl (byP (drZ zs) True.intro) (byP (drZ zs) True.intro) (byP (drZ zs) True.intro) ?_
 rintro ⟨w,i3,h3⟩ ⟨hw,hi3⟩
 simp only at hw hi3
 obtain ⟨d,hd⟩:∃ d:Nat,3+w=(d:Int):=⟨(3+w).toNat,by omega⟩
 have hd5:d≤5:=by omega
 have hin:inI (d:Int):=by unfold inI;omega
 have z0:tsz gI=0:=rfl
 have hG:ConX Tryz.prog 205 [.p (curA zs i3 h3),.b (.one (.rows 4 0 [])),.b (.ag [.int 1,.rows 2 0 []]),.b (.one (.int 0)),.b (.one (.int d))] (tmI zs (gsz (tsz gI) d)) (tmO zs) tmZs:=con_gen zs hz d (by omega) [] gI 0 i3 h3 ⟨Nat.zero_le _,fun g hg=>by cases hg⟩ (by decide) (by omega) (Int.le_refl _) (by omega) hi3
 have hgb:=gsz_b (tsz gI) d (by omega) (by omega)
 refine sw_run 200 _ _ _ (byP (fc (drZ zs) (fc hd hin)) ?_)
 first | (refine sw_fzE 2 rfl ?_) | (refine sw_fzE 3 rfl ?_)
 refine byQ ?_
 refine sw_callXR (hG) rfl rfl rfl (byP (drZ zs) True.intro) (byP (drZ zs) True.intro) (byP (drZ zs) True.intro) ?_
 rintro ⟨e,i4,h4⟩ ⟨he,hi4⟩
 simp only at he hi4
 have her:=erase_szTm e
 refine sw_run 200 _ _ _ (byP (drZ zs) ?_)
 refine sw_callPR (con_erZ e (by omega)) rfl rfl rfl (byQ True.intro) (byQ True.intro) (byQ True.intro) ?_
 refine sw_run 200 _ _ _ (byP (fc (drZ zs) (fc Tryz.ntmps130 Tryz.results130)) ?_)
 refine ⟨.inl rfl,(eraseT e,i4,h4),⟨by show szL (tmC (eraseT e))≤200000;omega,hi4⟩, ?_⟩
 refine byP (fc (drZ zs) (fc tmF (fc mkF (fc Tryz.ntmps130 Tryz.results130)))) ?_
 repeat' (with_reducible apply And.intro)
 all_goals first | exact True.intro | rfl
set_option maxHeartbeats 4000000 in
theorem con_plain22 (zs:List Int) (hz:BytOk zs) (i:Nat) (hi:i≤zs.length) (h:Int):ConX Tryz.prog 54 [.p (curA zs i h)] (tmI zs 200000) (tmO zs) tmZs:=by
 have hO:=fun n hn hn2 i hi h=>con_Once zs hz n hn hn2 i hi h
 refine con_runXF [0,1,2,3,4,5,6,7,8,9,10,11,12] Tryz.func54 rfl rfl (by simp [Tryz.ntmps54]) (fun _ _=>rfl) ?_
 refine byP (fc (drZ zs) (fc Tryz.ntmps54 Tryz.results54)) ?_
 refine sw_callXR (hO 3 (by decide) (by decide) i hi h) rfl rfl rfl (byP (drZ zs) True.intro) (byP (drZ zs) True.intro) (byP (drZ zs) True.intro) ?_
 rintro ⟨b,i1,h1⟩ hi1
 have hi1':i1≤zs.length:=hi1
 cases b
 case true =>
  refine sw_run 200 _ _ _ (byP (drZ zs) ?_)
  refine sw_callXR (con_closed zs hz i1 hi1' h1) rfl rfl rfl (byP (drZ zs) True.intro) (byP (drZ zs) True.intro) (byP (drZ zs) True.intro) ?_
  rintro ⟨e,i4,h4⟩ ⟨he,hi4⟩
  simp only at he hi4
  have her:=erase_szTm e
  refine sw_run 200 _ _ _ (byP (drZ zs) ?_)
  refine sw_callPR (con_erZ e (by omega)) rfl rfl rfl (byQ True.intro) (byQ True.intro) (byQ True.intro) ?_
  refine sw_run 200 _ _ _ (byP (fc (drZ zs) (fc Tryz.ntmps54 Tryz.results54)) ?_)
  refine ⟨.inl rfl,(eraseT e,i4,h4),⟨by show szL (tmC (eraseT e))≤200000;omega,hi4⟩, ?_⟩
  refine byP (fc (drZ zs) (fc tmF (fc mkF (fc Tryz.ntmps54 Tryz.results54)))) ?_
  repeat' (with_reducible apply And.intro)
  all_goals first | exact True.intro | rfl
 case false =>
  refine sw_run 200 _ _ _ (byP (drZ zs) ?_)
  refine sw_callXR (hO 10 (by decide) (by decide) i1 hi1' h1) rfl rfl rfl (byP (drZ zs) True.intro) (byP (drZ zs) True.intro) (byP (drZ zs) True.intro) ?_
  rintro ⟨b2,i2,h2⟩ hi2
  have hi2':i2≤zs.length:=hi2
  cases b2
  case true =>
   refine sw_run 200 _ _ _ (byP (drZ zs) ?_)
   refine sw_callXR (con_bent zs hz i2 hi2' h2) rfl rfl rfl (byP (drZ zs) True.intro) (byP (drZ zs) True.intro) (byP (drZ zs) True.intro) ?_
   rintro ⟨e,i4,h4⟩ ⟨he,hi4⟩
   simp only at he hi4
   refine sw_run 200 _ _ _ (byP (fc (drZ zs) (fc Tryz.ntmps54 Tryz.results54)) ?_)
   refine ⟨.inl rfl,(e,i4,h4),⟨by show szL (tmC e)≤200000;omega,hi4⟩, ?_⟩
   refine byP (fc (drZ zs) (fc tmF (fc mkF (fc Tryz.ntmps54 Tryz.results54)))) ?_
   repeat' (with_reducible apply And.intro)
   all_goals first | exact True.intro | rfl
  case false =>
   refine sw_run 200 _ _ _ (byP (drZ zs) ?_)
   refine sw_callXR (con_plain14 zs hz i2 hi2' h2) rfl rfl rfl (byP (drZ zs) True.intro) (byP (drZ zs) True.intro) (byP (drZ zs) True.intro) ?_
   rintro ⟨e,i4,h4⟩ ⟨he,hi4⟩
   simp only at he hi4
   refine sw_run 200 _ _ _ (byP (fc (drZ zs) (fc Tryz.ntmps54 Tryz.results54)) ?_)
   refine ⟨.inl rfl,(e,i4,h4),⟨by show szL (tmC e)≤200000;omega,hi4⟩, ?_⟩
   refine byP (fc (drZ zs) (fc tmF (fc mkF (fc Tryz.ntmps54 Tryz.results54)))) ?_
   repeat' (with_reducible apply And.intro)
   all_goals first | exact True.intro | rfl
def dmI (m:Nat) (x:Tm):Prop:=szL (tmC x)≤m
def dmO (x:Tm):List (List CD):=[]
def dmR (x:Tm):List RD:=[tmZ x]
theorem dmF (zs:List Int):(∀ x,dmO x=[])∧(∀ x,dmR x=[tmZ x])∧bytD zs = .rows 1 zs.length (zs.map D.byt):=⟨fun _=>rfl,fun _=>rfl,rfl⟩
theorem con_drawC (zs:List Int) (hz:BytOk zs):ConX Tryz.prog 8 [.b (.one (bytD zs))] (dmI 200000) dmO dmR:=by
 refine con_runXF [0,1,2,3,4,5,6,7,8,9,10,11,12] Tryz.func8 rfl rfl (by simp [Tryz.ntmps8]) (fun _ _=>rfl) ?_
 refine byP (fc (dmF zs) (fc Tryz.ntmps8 Tryz.results8)) ?_
 refine sw_callN con_New rfl rfl hz.1 hz.2 fun h => ?_
 refine sw_run 200 _ _ _ (byP (fc (drZ zs) (dmF zs)) ?_)
 refine sw_callXR (con_plain22 zs hz 0 (Nat.zero_le _) h) rfl rfl rfl (byP (fc (drZ zs) Int.natCast_zero) True.intro) (byP (fc (drZ zs) Int.natCast_zero) True.intro) (byP (fc (drZ zs) Int.natCast_zero) True.intro) ?_
 rintro ⟨e,i4,h4⟩ ⟨he,hi4⟩
 simp only at he hi4
 refine sw_run 200 _ _ _ (byP (fc (drZ zs) (fc Tryz.ntmps8 Tryz.results8)) ?_)
 refine ⟨.inl rfl,e,he, ?_⟩
 refine byP (fc (dmF zs) (fc (drZ zs) (fc tmF (fc mkF (fc Tryz.ntmps8 Tryz.results8))))) ?_
 repeat' (with_reducible apply And.intro)
 all_goals first | exact True.intro | rfl
theorem con_drawF (zs:List Int) (hz:BytOk zs):ConX Tryz.prog 11 [.b (.one (bytD zs))] (dmI 1100) dmO dmR:=by
 refine con_runXF [0,1,2,3,4,5,6,7,8,9,10,11,12] Tryz.func11 rfl rfl (by simp [Tryz.ntmps11]) (fun _ _=>rfl) ?_
 refine byP (fc (dmF zs) (fc Tryz.ntmps11 Tryz.results11)) ?_
 refine sw_callN con_New rfl rfl hz.1 hz.2 fun h => ?_
 refine sw_run 200 _ _ _ (byP (fc (drZ zs) (dmF zs)) ?_)
 refine sw_callXR (con_bent zs hz 0 (Nat.zero_le _) h) rfl rfl rfl (byP (fc (drZ zs) Int.natCast_zero) True.intro) (byP (fc (drZ zs) Int.natCast_zero) True.intro) (byP (fc (drZ zs) Int.natCast_zero) True.intro) ?_
 rintro ⟨e,i4,h4⟩ ⟨he,hi4⟩
 simp only at he hi4
 refine sw_run 200 _ _ _ (byP (fc (drZ zs) (fc Tryz.ntmps11 Tryz.results11)) ?_)
 refine ⟨.inl rfl,e,he, ?_⟩
 refine byP (fc (dmF zs) (fc (drZ zs) (fc tmF (fc mkF (fc Tryz.ntmps11 Tryz.results11))))) ?_
 repeat' (with_reducible apply And.intro)
 all_goals first | exact True.intro | rfl
def BArg (w:World) (v:Value):Prop:=∃ zs:List Int,RepV w w.heap.size (bytD zs) v∧zs.length≤maxLen∧∀ n ∈ zs,0≤n∧n<256
theorem repVs_byt (w : World) (S : Nat) : ∀ zs : List Int, RepVs w S (zs.map D.byt) (zs.map (Value.int .u8))
  | [] => by unfold RepVs; rfl
  | z :: zs => by
    rw [List.map_cons, List.map_cons]
    unfold RepVs
    exact ⟨_, _, rfl, by unfold RepV; rfl, repVs_byt w S zs⟩
theorem barg {H:Type} {enc:TypeId × Value→H} {w:World} {base:Nat} {spare:Nat→Bool} {held:Bool} {fuel:Nat} {a:Option Addr} {l c:Nat} {x:DataW H × List MemPlace}
  (hf:DataW.trod enc Tryz.prog w base spare held fuel 22 (Value.slice a l c).cells.toList=some x):BArg w (.slice a l c):=by
 rcases ChangeShapes.open_ints Tryz.underlying22 Tryz.underlying5 (by kernel_rfl) hf with ⟨h,_⟩ | ⟨a',len,cap,zs,h,hb,hl,hm,hz,_,hc,hw⟩
 ·have h':[Value.slice a l c]=[.slice none 0 0]:=h
  simp only [List.cons.injEq,Value.slice.injEq,and_true] at h'
  obtain ⟨rfl,rfl,rfl⟩:=h'
  refine ⟨[], ?_,Nat.zero_le _,by simp⟩
  unfold bytD RepV
  exact ⟨_,_,rfl,Nat.le_refl _,Nat.zero_le _,rfl,.inl rfl⟩
 ·have h':[Value.slice a l c]=[.slice (some a') len cap]:=h
  simp only [List.cons.injEq,Value.slice.injEq,and_true] at h'
  obtain ⟨rfl,rfl,rfl⟩:=h'
  have hlz:l≤zs.length:=by rw [hz];split <;> omega
  refine ⟨zs.take l, ?_,by rw [List.length_take];omega,fun n hn => ?_⟩
  ·have hlen:(zs.take l).length=l:=by rw [List.length_take];omega
   unfold bytD RepV
   rw [hlen]
   refine ⟨_,_,rfl,hl,hm,by rw [List.length_map,hlen];omega, ?_⟩
   rcases Nat.eq_zero_or_pos l with h0 | h0
   ·exact .inl h0
   ·right
    have h1:=hc 0 (by omega)
    have h3:a'.add 0=a':=by simp [Addr.add]
    rw [h3] at h1
    have h4:=World.cell?_spot h1
    have h5:=World.block_lt_of_cell? w _ h1
    obtain ⟨b,off,s⟩:=a'
    have hs:s=none:=by simpa using h4
    subst hs
    refine ⟨b,off,(zs.take l).map (Value.int .u8),rfl,h5,fun i hi => ?_,repVs_byt _ _ _⟩
    have hi':i<l:=by rw [List.length_map,hlen] at hi;exact hi
    have h6:=hc i (by omega)
    rw [show (⟨b,off,none⟩:Addr).add i=⟨b,off+i,none⟩ by unfold Addr.add;simp] at h6
    rw [h6]
    simp [List.getD_eq_getElem?_getD,List.getElem?_eq_getElem (show i<zs.length by omega)]
  ·have h7:(decide ((0:Int)≤n) && decide (n≤255))=true:=hw n (List.mem_of_mem_take hn)
   simp only [Bool.and_eq_true,decide_eq_true_eq] at h7
   omega
mutual
theorem cF_le : ∀ e : Tm, cF e ≤ 1 + szL (tmC e)
  | .mk k s o n t r xs => by
    have h := cFs_le xs
    rw [cF, szL_tm]
    simp only [mk_args]
    split <;> omega
theorem cFs_le : ∀ xs : List Tm, cFs xs ≤ xs.length + szL (tmsC xs)
  | [] => Nat.zero_le _
  | x :: xs => by
    have h1 := cF_le x
    have h2 := cFs_le xs
    rw [cFs, tmsC, szL_append, List.length_cons]
    omega
end
theorem cFs_snoc (xs:List Tm) (k:Nat) (h:k<xs.length):cFs (xs.take (k+1))=cFs (xs.take k)+cF xs[k]! := by
 rw [take_snoc xs k h,cFs_app];rfl
theorem cFs_take (xs:List Tm) (k:Nat):cFs (xs.take k)≤cFs xs:=by
 have:=cFs_app (xs.take k) (xs.drop k)
 rw [List.take_append_drop] at this
 omega
theorem con_bigB (zs:List Int):Con Tryz.prog 7 [.one (.rows 1 zs.length (zs.map D.byt))] [.one (.bool (decide (1048576<(zs.length:Int))))]:=by
 refine con_run Tryz.func7 rfl rfl (by simp [Tryz.ntmps7]) ?_
 exact byP (fc Tryz.ntmps7 Tryz.results7) True.intro
theorem con_sameC (xs:List Ins) (hl:xs.length≤1000000000):Con Tryz.prog 12 [.one (.rows 2 xs.length (flC insC xs)),.one (.rows 2 xs.length (flC insC xs))] [.one (.bool true)]:=by
 refine con_run Tryz.func12 rfl rfl (by simp [Tryz.ntmps12]) ?_
 refine byP (fc Tryz.ntmps12 Tryz.results12) ?_
 refine sw_loop (fun k:Nat=>k≤xs.length) (fun k=>⟨26,[(5,.i k),(0,.br (.rows 2 xs.length (flC insC xs))),(1,.br (.rows 2 xs.length (flC insC xs)))],[],[],0,[]⟩) (fun k=>xs.length-k) 0 id (Nat.zero_le _) ?_ ?_
 ·exact byP Int.natCast_zero True.intro
 rintro k hk
 by_cases hlt:k<xs.length
 ·have hi:(k:Int)<(xs.length:Int):=by omega
  have hR:rowAt 2 (flC insC xs) k=[.int (xs[k]!).op,.int (xs[k]!).a]:=flC_row insC_len xs k hlt
  refine sw_run 200 _ _ _ (byP hi ?_)
  refine sw_drawn (.cons 0 true (.cons 1 true (.cons 2 true (.cons 3 true (.cons 4 true (.cons 5 true (.cons 6 true (.cons 7 true (.cons 8 true (.nil)))))))))) (by kernel_rfl) qLp_panic (by kernel_rfl) ?_
  refine sw_run 200 _ _ _ (byP (fc hi hR) ?_)
  refine ⟨⟨by kernel_rfl,rfl⟩,by unfold inI;omega,k+1,id,by omega,by omega, ?_⟩
  exact byP cast1 True.intro
 ·have hi:¬ (k:Int)<(xs.length:Int):=by omega
  refine sw_run 200 _ _ _ (byP hi ?_)
  refine sw_run 200 _ _ _ ?_
  exact byP (fc Tryz.ntmps12 Tryz.results12) True.intro
theorem con_bitC (b:Bool):Con Tryz.prog 147 [.one (.bool b)] [.one (.int (if b=true then 1 else 0))]:=by
 cases b
 ·rw [if_neg (by decide)]
  refine con_run Tryz.func147 rfl rfl (by simp [Tryz.ntmps147]) ?_
  exact byP (fc Tryz.ntmps147 Tryz.results147) True.intro
 ·rw [if_pos rfl]
  refine con_run Tryz.func147 rfl rfl (by simp [Tryz.ntmps147]) ?_
  exact byP (fc Tryz.ntmps147 Tryz.results147) True.intro
theorem con_bitD (b:Bool):Con Tryz.prog 67 [.one (.bool b)] [.one (.int (if b=true then 1 else 0))]:=by
 cases b
 ·rw [if_neg (by decide)]
  refine con_run Tryz.func67 rfl rfl (by simp [Tryz.ntmps67]) ?_
  exact byP (fc Tryz.ntmps67 Tryz.results67) True.intro
 ·rw [if_pos rfl]
  refine con_run Tryz.func67 rfl rfl (by simp [Tryz.ntmps67]) ?_
  exact byP (fc Tryz.ntmps67 Tryz.results67) True.intro
def isFB (e:Tm):Bool:=decide (e.kind=6) || decide (e.kind=9)
theorem cF_b (e:Tm):(cF e:Int)=(if isFB e=true then 1 else 0)+(cFs e.args:Int):=by
 rw [cF_eq]
 unfold isFB
 by_cases h6:e.kind=6
 ·simp [h6]
 ·by_cases h9:e.kind=9
  ·simp [h9]
  ·simp [h6,h9]
theorem con_cntA (e:Tm):Con Tryz.prog 66 [.ag [.int e.kind,.str e.name,.str e.other,.int e.n,.int e.ty.kind,.rows 2 e.ty.args.length (tysC e.ty.args),.int e.res.kind,.rows 2 e.res.args.length (tysC e.res.args),.rows 9 e.args.length (tmsC e.args)]] [.one (.bool (isFB e))]:=by
 have hbb:isFB e=(decide (e.kind=6) || decide (e.kind=9)):=rfl
 rcases pc (e.kind=6) with h6 | h6
 ·rw [show isFB e=true from by rw [hbb,of_eq_true h6];rfl]
  refine con_run Tryz.func66 rfl rfl (by simp [Tryz.ntmps66]) ?_
  exact byP (fc h6 (fc Tryz.ntmps66 Tryz.results66)) True.intro
 ·rcases pc (e.kind=9) with h9 | h9
  ·rw [show isFB e=true from by rw [hbb,of_eq_true h9];rfl]
   refine con_run Tryz.func66 rfl rfl (by simp [Tryz.ntmps66]) ?_
   exact byP (fc h6 (fc h9 (fc Tryz.ntmps66 Tryz.results66))) True.intro
  ·rw [show isFB e=false from by rw [hbb,decide_eq_false (of_eq_false h6),decide_eq_false (of_eq_false h9)];rfl]
   refine con_run Tryz.func66 rfl rfl (by simp [Tryz.ntmps66]) ?_
   exact byP (fc h6 (fc h9 (fc Tryz.ntmps66 Tryz.results66))) True.intro
theorem con_cntL:∀ e:Tm,szL (tmC e)≤1000000→Con Tryz.prog 65 [.ag (tmC e),.fn 66 []] [.one (.int (cF e))]:=by
 refine Tm.ind fun t ih hz => ?_
 have hA:=con_cntA t
 have hB:=con_bitC (isFB t)
 have hze:=szL_tm t
 have hcl:=cFs_le t.args
 have hfb:=cF_b t
 rw [hfb]
 have hb0:0≤(if isFB t=true then (1:Int) else 0)∧(if isFB t=true then (1:Int) else 0)≤1:=by split <;> omega
 generalize (if isFB t=true then (1:Int) else 0)=c at *
 generalize isFB t=b at *
 refine con_run Tryz.func65 rfl rfl (by simp [Tryz.ntmps65]) ?_
 refine byP (fc Tryz.ntmps65 Tryz.results65) ?_
 refine sw_call (hA) rfl (aAs_ok (byQ True.intro)) (byQ True.intro) ?_
 refine sw_run 200 _ _ _ (byQ ?_)
 refine sw_call (hB) rfl (aAs_ok (byQ True.intro)) (byQ True.intro) ?_
 refine sw_run 200 _ _ _ (byQ ?_)
 refine sw_loop (fun k:Nat=>k≤t.args.length) (fun k=>⟨26,[(15,.i k),(14,.i t.args.length),(13,.br (.rows 9 t.args.length (tmsC t.args))),(5,.i (c+(cFs (t.args.take k):Int))),(1,.fn 66 [])],[],[],0,[]⟩) (fun k=>t.args.length-k) 0 id (Nat.zero_le _) ?_ ?_
 ·refine byP (fc Int.natCast_zero (fc (show cFs []=0 from by rw [cFs]) (Int.add_zero c))) True.intro
 ·rintro k hk
  by_cases hlt:k<t.args.length
  ·have hi:(k:Int)<(t.args.length:Int):=by omega
   have hR:=tmsC_row' t.args k hlt
   have hs:=szL_tms' t.args k hlt
   have hrec:=ih _ (mem_bang hlt) (by omega)
   have hst:=cFs_snoc t.args k hlt
   have hle:=cFs_take t.args (k+1)
   have hl1:=cFs_take t.args k
   rw [tmC_eq] at hrec
   have hq:c+(cFs (t.args.take k):Int)+(cF t.args[k]! : Int)=c+(cFs (t.args.take (k+1)):Int):=by omega
   refine sw_run 200 _ _ _ (byP (fc hi hR) ?_)
   refine sw_call (hrec) rfl (aAs_ok (byQ True.intro)) (byQ True.intro) ?_
   refine sw_run 200 _ _ _ (byP hq ?_)
   exact ⟨by unfold inI;omega,by unfold inI;omega,k+1,id,by omega,by omega,byQ True.intro⟩
  ·have hi:¬ (k:Int)<(t.args.length:Int):=by omega
   obtain rfl:k=t.args.length:=by omega
   rw [List.take_length]
   refine sw_run 200 _ _ _ (byP hi ?_)
   refine sw_run 200 _ _ _ ?_
   exact byP (fc Tryz.ntmps65 Tryz.results65) True.intro
theorem con_cntI (e:Tm) (hz:szL (tmC e)≤1000000):Con Tryz.prog 13 [.ag (tmC e)] [.one (.int (cF e))]:=by
 have h:=con_cntL e hz
 rw [tmC_eq] at h
 refine con_run Tryz.func13 rfl rfl (by simp [Tryz.ntmps13]) ?_
 refine byP (fc Tryz.ntmps13 Tryz.results13) ?_
 refine sw_call (h) rfl (aAs_ok (byQ True.intro)) (byQ True.intro) ?_
 exact sw_run 200 _ _ _ (byP (fc Tryz.ntmps13 Tryz.results13) True.intro)
theorem con_cntS:∀ e:Tm,szL (tmC e)≤1000000→Con Tryz.prog 14 [.ag (tmC e)] [.one (.int (cF e))]:=by
 refine Tm.ind fun t ih hz => ?_
 have hB:=con_bitD (isFB t)
 have hze:=szL_tm t
 have hcl:=cFs_le t.args
 have hfb:=cF_b t
 rw [hfb]
 have hb0:0≤(if isFB t=true then (1:Int) else 0)∧(if isFB t=true then (1:Int) else 0)≤1:=by split <;> omega
 have hbb:isFB t=(decide (t.kind=6) || decide (t.kind=9)):=rfl
 generalize (if isFB t=true then (1:Int) else 0)=c at *
 generalize isFB t=b at *
 rcases pc (t.kind=6) with h6 | h6
 ·rw [show b=true from by rw [hbb,of_eq_true h6];rfl] at hB
  refine con_run Tryz.func14 rfl rfl (by simp [Tryz.ntmps14]) ?_
  refine byP (fc h6 (fc Tryz.ntmps14 Tryz.results14)) ?_
  refine sw_call (hB) rfl (aAs_ok (byQ True.intro)) (byQ True.intro) ?_
  refine sw_run 200 _ _ _ (byQ ?_)
  refine sw_loop (fun k:Nat=>k≤t.args.length) (fun k=>⟨30,[(4,.i k),(3,.i (c+(cFs (t.args.take k):Int))),(1,.bx 0 0)],[(0,[.i t.kind,.s t.name,.s t.other,.i t.n,.i t.ty.kind,.br (.rows 2 t.ty.args.length (tysC t.ty.args)),.i t.res.kind,.br (.rows 2 t.res.args.length (tysC t.res.args)),.br (.rows 9 t.args.length (tmsC t.args))])],[],1,[]⟩) (fun k=>t.args.length-k) 0 id (Nat.zero_le _) ?_ ?_
  ·exact byP (fc Int.natCast_zero (fc (show cFs []=0 from by rw [cFs]) (fc (Int.add_zero c) h6))) True.intro
  ·rintro k hk
   by_cases hlt:k<t.args.length
   ·have hi:(k:Int)<(t.args.length:Int):=by omega
    have k0:0≤(k:Int):=by omega
    have hR:=tmsC_row' t.args k hlt
    have hs:=szL_tms' t.args k hlt
    have hrec:=ih _ (mem_bang hlt) (by omega)
    have hst:=cFs_snoc t.args k hlt
    have hle:=cFs_take t.args (k+1)
    have hl1:=cFs_take t.args k
    rw [tmC_eq] at hrec
    have hq:c+(cFs (t.args.take k):Int)+(cF t.args[k]! : Int)=c+(cFs (t.args.take (k+1)):Int):=by omega
    refine sw_run 200 _ _ _ (byP (fc hi hR) ?_)
    refine sw_call (hrec) rfl (aAs_ok (byQ True.intro)) (byQ True.intro) ?_
    refine sw_run 200 _ _ _ (byP hq ?_)
    exact ⟨by unfold inI;omega,by unfold inI;omega,k+1,id,by omega,by omega,byP cast1 True.intro⟩
   ·have hi:¬ (k:Int)<(t.args.length:Int):=by omega
    obtain rfl:k=t.args.length:=by omega
    rw [List.take_length]
    refine sw_run 200 _ _ _ (byP hi ?_)
    refine sw_run 200 _ _ _ ?_
    exact byP (fc Tryz.ntmps14 Tryz.results14) True.intro
 rcases pc (t.kind=9) with h9 | h9
 ·rw [show b=true from by rw [hbb,of_eq_true h9];rfl] at hB
  refine con_run Tryz.func14 rfl rfl (by simp [Tryz.ntmps14]) ?_
  refine byP (fc h6 (fc h9 (fc Tryz.ntmps14 Tryz.results14))) ?_
  refine sw_call (hB) rfl (aAs_ok (byQ True.intro)) (byQ True.intro) ?_
  refine sw_run 200 _ _ _ (byQ ?_)
  refine sw_loop (fun k:Nat=>k≤t.args.length) (fun k=>⟨30,[(4,.i k),(3,.i (c+(cFs (t.args.take k):Int))),(1,.bx 0 0)],[(0,[.i t.kind,.s t.name,.s t.other,.i t.n,.i t.ty.kind,.br (.rows 2 t.ty.args.length (tysC t.ty.args)),.i t.res.kind,.br (.rows 2 t.res.args.length (tysC t.res.args)),.br (.rows 9 t.args.length (tmsC t.args))])],[],1,[]⟩) (fun k=>t.args.length-k) 0 id (Nat.zero_le _) ?_ ?_
  ·exact byP (fc Int.natCast_zero (fc (show cFs []=0 from by rw [cFs]) (fc (Int.add_zero c) (fc h6 h9)))) True.intro
  ·rintro k hk
   by_cases hlt:k<t.args.length
   ·have hi:(k:Int)<(t.args.length:Int):=by omega
    have k0:0≤(k:Int):=by omega
    have hR:=tmsC_row' t.args k hlt
    have hs:=szL_tms' t.args k hlt
    have hrec:=ih _ (mem_bang hlt) (by omega)
    have hst:=cFs_snoc t.args k hlt
    have hle:=cFs_take t.args (k+1)
    have hl1:=cFs_take t.args k
    rw [tmC_eq] at hrec
    have hq:c+(cFs (t.args.take k):Int)+(cF t.args[k]! : Int)=c+(cFs (t.args.take (k+1)):Int):=by omega
    refine sw_run 200 _ _ _ (byP (fc hi hR) ?_)
    refine sw_call (hrec) rfl (aAs_ok (byQ True.intro)) (byQ True.intro) ?_
    refine sw_run 200 _ _ _ (byP hq ?_)
    exact ⟨by unfold inI;omega,by unfold inI;omega,k+1,id,by omega,by omega,byP cast1 True.intro⟩
   ·have hi:¬ (k:Int)<(t.args.length:Int):=by omega
    obtain rfl:k=t.args.length:=by omega
    rw [List.take_length]
    refine sw_run 200 _ _ _ (byP hi ?_)
    refine sw_run 200 _ _ _ ?_
    exact byP (fc Tryz.ntmps14 Tryz.results14) True.intro
 ·rw [show b=false from by rw [hbb,decide_eq_false (of_eq_false h6),decide_eq_false (of_eq_false h9)];rfl] at hB
  refine con_run Tryz.func14 rfl rfl (by simp [Tryz.ntmps14]) ?_
  refine byP (fc h6 (fc h9 (fc Tryz.ntmps14 Tryz.results14))) ?_
  refine sw_call (hB) rfl (aAs_ok (byQ True.intro)) (byQ True.intro) ?_
  refine sw_run 200 _ _ _ (byQ ?_)
  refine sw_loop (fun k:Nat=>k≤t.args.length) (fun k=>⟨30,[(4,.i k),(3,.i (c+(cFs (t.args.take k):Int))),(1,.bx 0 0)],[(0,[.i t.kind,.s t.name,.s t.other,.i t.n,.i t.ty.kind,.br (.rows 2 t.ty.args.length (tysC t.ty.args)),.i t.res.kind,.br (.rows 2 t.res.args.length (tysC t.res.args)),.br (.rows 9 t.args.length (tmsC t.args))])],[],1,[]⟩) (fun k=>t.args.length-k) 0 id (Nat.zero_le _) ?_ ?_
  ·exact byP (fc Int.natCast_zero (fc (show cFs []=0 from by rw [cFs]) (fc (Int.add_zero c) (fc h6 h9)))) True.intro
  ·rintro k hk
   by_cases hlt:k<t.args.length
   ·have hi:(k:Int)<(t.args.length:Int):=by omega
    have k0:0≤(k:Int):=by omega
    have hR:=tmsC_row' t.args k hlt
    have hs:=szL_tms' t.args k hlt
    have hrec:=ih _ (mem_bang hlt) (by omega)
    have hst:=cFs_snoc t.args k hlt
    have hle:=cFs_take t.args (k+1)
    have hl1:=cFs_take t.args k
    rw [tmC_eq] at hrec
    have hq:c+(cFs (t.args.take k):Int)+(cF t.args[k]! : Int)=c+(cFs (t.args.take (k+1)):Int):=by omega
    refine sw_run 200 _ _ _ (byP (fc hi hR) ?_)
    refine sw_call (hrec) rfl (aAs_ok (byQ True.intro)) (byQ True.intro) ?_
    refine sw_run 200 _ _ _ (byP hq ?_)
    exact ⟨by unfold inI;omega,by unfold inI;omega,k+1,id,by omega,by omega,byP cast1 True.intro⟩
   ·have hi:¬ (k:Int)<(t.args.length:Int):=by omega
    obtain rfl:k=t.args.length:=by omega
    rw [List.take_length]
    refine sw_run 200 _ _ _ (byP hi ?_)
    refine sw_run 200 _ _ _ ?_
    exact byP (fc Tryz.ntmps14 Tryz.results14) True.intro
end Go.Proofs.YtaidalilfmjfgaaGreat
