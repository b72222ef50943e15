import Derived.Test.YtaidalilfmjfgaaGreatSuP
import Derived.Test.YtaidalilfmjfgaaGreatTpA
import Derived.Test.YtaidalilfmjfgaaGreatTqF
namespace Go.Proofs.YtaidalilfmjfgaaGreat
open Go.RowKit
set_option linter.unusedVariables false
set_option linter.unusedSimpArgs false
def isBd (e:Tm):Bool:=(decide (1≤e.kind) && decide (e.kind≤5)) || decide (e.kind=8)
def rgT (t:Ty) (v:Int):Prop:=(t=tI∧0≤v∧v≤10006)∨(t=tB∧0≤v∧v≤1)
def Mt (ctx:List Tg) (env:List Im):Prop:=ctx.length=env.length∧∀ k,k<ctx.length→(ctx[k]!).name=(env[k]!).name∧(ctx[k]!).level=0∧rgT (ctx[k]!).ty (env[k]!).coef
theorem rgT.bo {v:Int} (h:rgT tB v):v=0∨v=1:=by
 rcases h with ⟨h,_⟩ | ⟨_,h⟩
 ·exact absurd h (by decide)
 ·omega
theorem Mt.push {ctx:List Tg} {env:List Im} (h:Mt ctx env) (s:ByteArray) {t:Ty} {v:Int} (hv:rgT t v):Mt (ctx++[⟨s,t,0⟩]) (env++[⟨s,v⟩]):=by
 refine ⟨by simp [h.1],fun k hk => ?_⟩
 rw [List.length_append,List.length_cons,List.length_nil] at hk
 by_cases e:k<ctx.length
 ·rw [bang_app ctx _ k e,bang_app env _ k (by rw [← h.1];exact e)]
  exact h.2 k e
 ·obtain rfl:k=ctx.length:=by omega
  have e2:=bang_end env ⟨s,v⟩
  rw [← h.1] at e2
  rw [bang_end,e2]
  exact ⟨rfl,rfl,hv⟩
theorem lk_last {ctx : List Tg} {env : List Im} (s : ByteArray) (d : Int) : ∀ k, k ≤ ctx.length → (∀ j, j < ctx.length → (ctx[j]!).name = (env[j]!).name) → 0 ≤ lastTg ctx s k → (lastTg ctx s k).toNat < k ∧ lkK env s d k = (env[(lastTg ctx s k).toNat]!).coef
  | 0, _, _, h => by rw [lastTg] at h; omega
  | k + 1, hk, hn, h => by
    rw [lastTg] at h ⊢
    rw [lkK, ← hn k (by omega)]
    by_cases e : (ctx[k]!).name = s
    · rw [if_pos e, if_pos e]
      exact ⟨by omega, rfl⟩
    · rw [if_neg e] at h ⊢
      rw [if_neg e]
      obtain ⟨h1, h2⟩ := lk_last s d k (by omega) hn h
      exact ⟨by omega, h2⟩
theorem vd_ne {t:Ty} (h:(vd t).kind≠0):vd t=t:=by
 rcases vd_cases t with h1 | h1
 ·rw [h1] at h;exact absurd rfl h
 ·exact h1.2
theorem bI_rng (b:Bool):0≤bI b∧bI b≤1:=by cases b <;> decide
theorem ap_rng (s:ByteArray) (a b:Int) (hs:0<opAr s):rgT (outT s) (apV s a b):=by
 have key:∀ t:Ty,outT s=t→rgT t (apV s a b)→rgT (outT s) (apV s a b):=fun t h1 h2=>h1 ▸ h2
 unfold apV
 have z1:rgT tI 0:=.inl ⟨rfl,by omega⟩
 have z2:rgT tB 0:=.inr ⟨rfl,by omega⟩
 have hm:∀ m:Int,rgT tI (m % 10007):=fun m => .inl ⟨rfl,by omega⟩
 have hb:∀ b:Bool,rgT tB (bI b):=fun b => .inr ⟨rfl,bI_rng b⟩
 unfold opAr at hs
 by_cases h1:s=⟨#[43]⟩
 ·subst h1;split
  ·exact hm _
  ·exact z1
 by_cases h2:s=⟨#[45]⟩
 ·subst h2;split
  ·exact hm _
  ·exact z1
 by_cases h3:s=⟨#[42]⟩
 ·subst h3;split
  ·exact hm _
  ·exact z1
 by_cases h4:s=⟨#[61]⟩
 ·subst h4;split
  ·exact hb _
  ·exact z2
 by_cases h5:s=⟨#[60]⟩
 ·subst h5;split
  ·exact hb _
  ·exact z2
 by_cases h6:s=⟨#[38]⟩
 ·subst h6;split
  ·exact hb _
  ·exact z2
 by_cases h7:s=⟨#[124]⟩
 ·subst h7;split
  ·exact hb _
  ·exact z2
 by_cases h8:s=⟨#[33]⟩
 ·subst h8;split
  ·exact hb _
  ·exact z2
 simp only [h1,h2,h3,h4,h5,h6,h7,h8,if_false] at hs
 omega
structure Bdy (e:Tm) (ctx:List Tg) (env:List Im):Prop where
 bd:allTm isBd e=true
 fm:allTm isFm e=true
 mt:Mt ctx env
 ty:(tyT e ctx 0).kind≠0
theorem Bdy.mem {e:Tm} {ctx:List Tg} {env:List Im} (h:Bdy e ctx env):∀ x ∈ e.args,allTm isBd x=true∧allTm isFm x=true:=fun x hx=>by
 obtain ⟨h1,h2,_,_⟩:=h
 rw [allTm_eq,Bool.and_eq_true] at h1 h2
 exact ⟨allTms_mem h1.2 x hx,allTms_mem h2.2 x hx⟩
theorem Bdy.k {e:Tm} {ctx:List Tg} {env:List Im} (h:Bdy e ctx env):e.kind=1∨e.kind=2∨e.kind=3∨e.kind=4∨e.kind=5∨e.kind=8:=by
 obtain ⟨h1,_,_,_⟩:=h
 rw [allTm_eq,Bool.and_eq_true] at h1
 have:=h1.1
 unfold isBd at this
 simp only [Bool.or_eq_true,Bool.and_eq_true,decide_eq_true_eq] at this
 omega
theorem Bdy.t {e:Tm} {ctx:List Tg} {env:List Im} (h:Bdy e ctx env):tyT e ctx 0=fmF e.kind e.name e.other e.ty e.res (e.args.map tyT) ctx 0:=by
 have:=h.ty
 rw [tyT_eq] at this ⊢
 exact vd_ne this
theorem Bdy.f {e:Tm} {ctx:List Tg} {env:List Im} (h:Bdy e ctx env):isFm e=true:=by
 have:=h.fm
 rw [allTm_eq,Bool.and_eq_true] at this
 exact this.1
theorem Bdy.op {e:Tm} {ctx:List Tg} {env:List Im} (h:Bdy e ctx env) (hk:e.kind=4):(e.args.length=1∨e.args.length=2)∧tyT e ctx 0=outT e.name∧0<opAr e.name∧∀ x ∈ e.args,Bdy x ctx env∧tyT x ctx 0=inT e.name:=by
 have ht:=h.t
 have hne:=h.ty
 have hf:=fm_facts h.f
 have ha:=hf.1
 have hop:=hf.2.1 hk
 rw [ht] at hne ⊢
 unfold fmF at hne ⊢
 simp only [hk,Int.reduceEq,if_false,if_true] at hne ⊢
 unfold opI at hne ⊢
 have hr:=opAr_rng e.name
 have e1:arF 0 e.kind e.name=opAr e.name:=by rw [hk];rfl
 rw [e1] at ha
 split at hne
 ·rename_i hall
  rw [if_pos hall]
  refine ⟨by omega,rfl,hop,fun x hx => ?_⟩
  rw [List.map_map,List.all_map,List.all_eq_true] at hall
  have h1:=eqTy_ok _ _ (hall x hx)
  simp only [Function.comp] at h1
  obtain ⟨g1,g2⟩:=h.mem x hx
  refine ⟨⟨g1,g2,h.mt, ?_⟩,h1⟩
  rw [h1]
  unfold inT
  repeat' split
  all_goals decide
 ·exact absurd rfl hne
theorem Bdy.if_ {e:Tm} {ctx:List Tg} {env:List Im} (h:Bdy e ctx env) (hk:e.kind=5):∃ x y z,e.args=[x,y,z]∧Bdy x ctx env∧tyT x ctx 0=tB∧Bdy y ctx env∧Bdy z ctx env∧tyT y ctx 0=tyT e ctx 0∧tyT z ctx 0=tyT e ctx 0:=by
 have ht:=h.t
 have hne:=h.ty
 have ha:=(fm_facts h.f).1
 rw [hk] at ha
 have e1:arF 0 5 e.name=3:=rfl
 rw [e1] at ha
 obtain ⟨x,y,z,hA⟩:=len3 (show e.args.length=3 by omega)
 have hm:=h.mem
 rw [hA] at hm
 rw [ht] at hne ⊢
 unfold fmF at hne ⊢
 rw [hA] at hne ⊢
 simp only [hk,Int.reduceEq,if_false,if_true,List.map_cons,List.map_nil,bang0,bang1,bang2] at hne ⊢
 split at hne
 ·rename_i h1
  split at hne
  ·rename_i h2
   rw [if_pos h1,if_pos h2]
   have e1:=eqTy_ok _ _ h1
   have e2:=eqTy_ok _ _ h2
   obtain ⟨a1,a2⟩:=hm x (by simp)
   obtain ⟨b1,b2⟩:=hm y (by simp)
   obtain ⟨c1,c2⟩:=hm z (by simp)
   exact ⟨x,y,z,rfl,⟨a1,a2,h.mt,by rw [e1];decide⟩,e1,⟨b1,b2,h.mt,hne⟩,⟨c1,c2,h.mt,by rw [← e2];exact hne⟩,rfl,e2.symm⟩
  ·exact absurd rfl hne
 ·exact absurd rfl hne
theorem Bdy.let_ {e:Tm} {ctx:List Tg} {env:List Im} (h:Bdy e ctx env) (hk:e.kind=8):∃ x y,e.args=[x,y]∧Bdy x ctx env∧(tyT y (ctx++[⟨e.name,tyT x ctx 0,0⟩]) 0).kind≠0∧tyT e ctx 0=tyT y (ctx++[⟨e.name,tyT x ctx 0,0⟩]) 0∧∀ v,rgT (tyT x ctx 0) v→Bdy y (ctx++[⟨e.name,tyT x ctx 0,0⟩]) (env++[⟨e.name,v⟩]):=by
 have ht:=h.t
 have hne:=h.ty
 have ha:=(fm_facts h.f).1
 rw [hk] at ha
 have e1:arF 0 8 e.name=2:=rfl
 rw [e1] at ha
 obtain ⟨x,y,hA⟩:=len2 (show e.args.length=2 by omega)
 have hm:=h.mem
 rw [hA] at hm
 rw [ht] at hne ⊢
 unfold fmF at hne ⊢
 rw [hA] at hne ⊢
 simp only [hk,Int.reduceEq,if_false,if_true,List.map_cons,List.map_nil,bang0,bang1] at hne ⊢
 split at hne
 ·exact absurd rfl hne
 ·rename_i h1
  rw [if_neg h1]
  obtain ⟨a1,a2⟩:=hm x (by simp)
  obtain ⟨b1,b2⟩:=hm y (by simp)
  exact ⟨x,y,rfl,⟨a1,a2,h.mt,h1⟩,hne,rfl,fun v hv=>⟨b1,b2,h.mt.push e.name hv,hne⟩⟩
theorem ev_rng:∀ e:Tm,∀ ctx env,Bdy e ctx env→rgT (tyT e ctx 0) (evT e env):=by
 refine Tm.ind fun e ih ctx env h => ?_
 have hn:=fm_n h.f
 unfold rgB at hn
 simp only [Bool.and_eq_true,decide_eq_true_eq] at hn
 rcases h.k with hk | hk | hk | hk | hk | hk
 ·have hne:=h.ty
  have ht:=h.t
  rw [ht] at hne ⊢
  rw [evT_eq]
  unfold fmF at hne ⊢
  unfold evF
  simp only [hk,if_true] at hne ⊢
  unfold vrF at hne ⊢
  split at hne
  ·rename_i h1
   split at hne
   ·rename_i h2
    rw [if_pos h1,if_pos h2]
    obtain ⟨q1,q2⟩:=lk_last (env:=env) e.name e.n ctx.length (Nat.le_refl _) (fun j hj=>(h.mt.2 j hj).1) h1
    unfold lkE
    rw [← h.mt.1,q2]
    exact (h.mt.2 _ q1).2.2
   ·exact absurd rfl hne
  ·exact absurd rfl hne
 ·rw [h.t,evT_eq]
  unfold fmF evF
  simp only [hk,if_true,if_false,Int.reduceEq]
  rw [hk] at hn
  exact .inl ⟨rfl,hn.1.1,hn.1.2⟩
 ·rw [h.t,evT_eq]
  unfold fmF evF
  simp only [hk,if_true,if_false,Int.reduceEq]
  rw [hk] at hn
  exact .inr ⟨rfl,hn.1.1,hn.1.2⟩
 ·obtain ⟨_,h2,h3,_⟩:=h.op hk
  rw [h2,evT_eq]
  unfold evF
  simp only [hk,if_true,if_false,Int.reduceEq]
  exact ap_rng _ _ _ h3
 ·obtain ⟨x,y,z,hA,hx,tx,hy,hz,ty,tz⟩:=h.if_ hk
  have vx:=ih x (by rw [hA];simp) ctx env hx
  have vy:=ih y (by rw [hA];simp) ctx env hy
  have vz:=ih z (by rw [hA];simp) ctx env hz
  rw [tx] at vx
  rw [evT_eq]
  unfold evF
  rw [hA]
  simp only [hk,if_true,if_false,Int.reduceEq,List.map_cons,List.map_nil,bang0]
  rcases vx.bo with e0 | e0
  ·rw [e0]
   show rgT _ (evT z env)
   rw [← tz];exact vz
  ·rw [e0]
   show rgT _ (evT y env)
   rw [← ty];exact vy
 ·obtain ⟨x,y,hA,hx,hne,te,hy⟩:=h.let_ hk
  have vx:=ih x (by rw [hA];simp) ctx env hx
  have vy:=ih y (by rw [hA];simp) _ _ (hy _ vx)
  rw [te,evT_eq]
  unfold evF
  rw [hA]
  simp only [hk,if_true,if_false,Int.reduceEq,List.map_cons,List.map_nil,bang0,bang1]
  exact vy
set_option maxRecDepth 20000
def ctx3:List Tg:=[⟨⟨#[110]⟩,tI,0⟩,⟨⟨#[120]⟩,tI,0⟩,⟨⟨#[121]⟩,tI,0⟩]
theorem mt3:Mt ctx3 env3:=by
 refine ⟨rfl,fun k hk => ?_⟩
 have hk:k<3:=hk
 match k,hk with
 | 0,_=>exact ⟨rfl,rfl,.inl ⟨rfl,by decide⟩⟩
 | 1,_=>exact ⟨rfl,rfl,.inl ⟨rfl,by decide⟩⟩
 | 2,_=>exact ⟨rfl,rfl,.inl ⟨rfl,by decide⟩⟩
def bdB (e:Tm):Bool:=vTm e && (allTm isBd e && decide ((tyT e ctx3 0).kind≠0))
theorem bdy_of {e:Tm} (h:bdB e=true):Bdy e ctx3 env3:=by
 unfold bdB vTm at h
 simp only [Bool.and_eq_true,decide_eq_true_eq] at h
 exact ⟨h.2.1,h.1.1,mt3,h.2.2⟩
theorem allTms_ap (p:Tm→Bool):∀ a b:List Tm,allTms p (a++b)=(allTms p a && allTms p b)
 | [],b=>by rw [List.nil_append,allTms,Bool.true_and]
 | x :: a,b=>by rw [List.cons_append,allTms,allTms,allTms_ap p a b,Bool.and_assoc]
theorem rw9 (e:Tm) (k:Nat) (u:Tm) (hk:k<e.args.length) (hu:e.args[k]! = u):rowAt 9 (tmsC e.args) k=[.int u.kind,.str u.name,.str u.other,.int u.n,.int u.ty.kind,.rows 2 u.ty.args.length (tysC u.ty.args),.int u.res.kind,.rows 2 u.res.args.length (tysC u.res.args),.rows 9 u.args.length (tmsC u.args)]:=by
 have:=tmsC_row' e.args k hk
 rw [hu,tmC_eq] at this
 exact this
theorem con_isBd : ∀ t : Tm, szL (tmC t) ≤ 1000000000 → Con Tryz.prog 196 [.ag (tmC t)] [.one (.bool (allTm isBd t))] := by
  refine Tm.ind fun t ih hz => ?_
  have hze := szL_tm t
  have hI := con_l1In t.kind 1 5
  have hb : isBd t = ((decide (1 ≤ t.kind) && decide (t.kind ≤ 5)) || decide (t.kind = 8)) := rfl
  generalize (decide (1 ≤ t.kind) && decide (t.kind ≤ 5)) = q at hI hb
  refine con_run Tryz.func196 rfl rfl (by simp [Tryz.ntmps196]) ?_
  refine byP (fc Tryz.ntmps196 Tryz.results196) ?_
  refine sw_loop (fun k : Nat => k ≤ t.args.length ∧ allTms isBd (t.args.take k) = true) (fun k => ⟨26, [(3, .i k), (1, .bx 0 0)], [(0, [.i t.kind, .s t.name, .s t.other, .i t.n, .i t.ty.kind, .br (.rows 2 t.ty.args.length (tysC t.ty.args)), .i t.res.kind, .br (.rows 2 t.res.args.length (tysC t.res.args)), .br (.rows 9 t.args.length (tmsC t.args))])], [], 1, []⟩) (fun k => t.args.length - k) 0 id ⟨Nat.zero_le _, rfl⟩ ?_ ?_
  · exact byP Int.natCast_zero True.intro
  rintro k ⟨hk, hall⟩
  by_cases hlt : k < t.args.length
  · have hi : (k : Int) < (t.args.length : Int) := by omega
    have k0 : 0 ≤ (k : Int) := by omega
    have hR := tmsC_row' t.args k hlt
    have hs := szL_tms' t.args k hlt
    have hrec := ih _ (mem_bang hlt) (by omega)
    rw [tmC_eq] at hrec
    have hst : allTms isBd (t.args.take (k + 1)) = allTm isBd t.args[k]! := by
      rw [take_snoc t.args k hlt, allTms_ap, hall, Bool.true_and, allTms, allTms, Bool.and_true]
    cases hq : allTm isBd t.args[k]! with
    | true =>
      rw [hq] at hrec hst
      refine sw_run 200 _ _ _ (byP (fc hi hR) ?_)
      refine sw_call (hrec) rfl (aAs_ok (byQ True.intro)) (byQ True.intro) ?_
      refine sw_run 200 _ _ _ (byQ ?_)
      exact ⟨by unfold inI; omega, k + 1, id, ⟨by omega, hst⟩, by omega, byP cast1 True.intro⟩
    | false =>
      rw [hq] at hrec hst
      have hf : allTm isBd t = false := by
        rw [allTm_eq]
        have := allTms_ap isBd (t.args.take (k + 1)) (t.args.drop (k + 1))
        rw [List.take_append_drop, hst, Bool.false_and] at this
        rw [this, Bool.and_false]
      rw [hf]
      refine sw_run 200 _ _ _ (byP (fc hi hR) ?_)
      refine sw_call (hrec) rfl (aAs_ok (byQ True.intro)) (byQ True.intro) ?_
      exact sw_run 200 _ _ _ (byP (fc Tryz.ntmps196 Tryz.results196) True.intro)
  · have hi : ¬ (k : Int) < (t.args.length : Int) := by omega
    obtain rfl : k = t.args.length := by omega
    rw [List.take_length] at hall
    have hf : allTm isBd t = isBd t := by rw [allTm_eq, hall, Bool.and_true]
    rw [hf, hb]
    refine sw_run 200 _ _ _ (byP hi ?_)
    refine sw_run 200 _ _ _ ?_
    refine byQ ?_
    refine sw_call (hI) rfl (aAs_ok (byQ True.intro)) (byQ True.intro) ?_
    cases q
    · rw [Bool.false_or]
      exact sw_run 200 _ _ _ (byP (fc Tryz.ntmps196 Tryz.results196) True.intro)
    · rw [Bool.true_or]
      exact sw_run 200 _ _ _ (byP (fc Tryz.ntmps196 Tryz.results196) True.intro)
set_option maxHeartbeats 8000000 in
theorem con_evS : ∀ e : Tm, ∀ ctx env, Bdy e ctx env → env.length + szL (tmC e) ≤ 10000000 → Con Tryz.prog 127 [.ag (tmC e), .one (.rows 2 env.length (flC imC env))] [.one (.int (evT e env))] := by
  refine Tm.ind fun e ih ctx env h hz => ?_
  have hze := szL_tm e
  rw [evT_eq]
  unfold evF
  rcases h.k with hk | hk | hk | hk | hk | hk
  · simp only [hk, if_true]
    unfold lkE
    refine con_run Tryz.func127 rfl rfl (by simp [Tryz.ntmps127]) ?_
    refine byP (fc hk (fc Tryz.ntmps127 Tryz.results127)) ?_
    refine ⟨by unfold inI; omega, ?_⟩
    refine sw_loop (fun k : Nat => k ≤ env.length ∧ lkK env e.name e.n k = lkK env e.name e.n env.length) (fun k => ⟨101, [(5, .i ((k : Int) - 1)), (2, .bx 0 0), (1, .br (.rows 2 env.length (flC imC env)))], [(0, [.i e.kind, .s e.name, .s e.other, .i e.n, .i e.ty.kind, .br (.rows 2 e.ty.args.length (tysC e.ty.args)), .i e.res.kind, .br (.rows 2 e.res.args.length (tysC e.res.args)), .br (.rows 9 e.args.length (tmsC e.args))])], [], 1, []⟩) (fun k => k) env.length id ⟨Nat.le_refl _, rfl⟩ ?_ ?_
    · exact byP hk True.intro
    rintro k ⟨hkl, hlk⟩
    cases k with
    | zero =>
      rw [← hlk, lkK]
      have hn : ¬ (0 : Int) ≤ ((0 : Nat) : Int) - 1 := by omega
      refine sw_run 200 _ _ _ (byP hn ?_)
      refine sw_run 200 _ _ _ ?_
      exact byP (fc Tryz.ntmps127 Tryz.results127) True.intro
    | succ j =>
      rw [lkK] at hlk
      have e1 : ((j + 1 : Nat) : Int) - 1 = (j : Int) := by omega
      have h0 : (0 : Int) ≤ (j : Int) := by omega
      have hj : (j : Int) < (env.length : Int) := by omega
      have hR : rowAt 2 (flC imC env) j = [.str (env[j]!).name, .int (env[j]!).coef] := flC_row imC_len env j (by omega)
      simp only [e1]
      refine sw_run 200 _ _ _ (byP h0 ?_)
      refine sw_drawn (.cons 0 true (.cons 1 true (.cons 2 true (.cons 3 true (.cons 4 true (.cons 5 true (.cons 6 true (.cons 7 true (.nil))))))))) (by kernel_rfl) qLp_panic (by kernel_rfl) ?_
      by_cases he : (env[j]!).name = e.name
      · rw [if_pos he] at hlk
        rw [← hlk]
        exact sw_run 200 _ _ _ (byP (fc h0 (fc hj (fc hR (fc (eq_true he) (fc Tryz.ntmps127 Tryz.results127))))) True.intro)
      · rw [if_neg he] at hlk
        refine sw_run 200 _ _ _ (byP (fc h0 (fc hj (fc hR he))) ?_)
        exact ⟨by unfold inI; omega, j, id, ⟨by omega, hlk⟩, by omega, byQ True.intro⟩
  · simp only [hk, if_true, if_false, Int.reduceEq]
    refine con_run Tryz.func127 rfl rfl (by simp [Tryz.ntmps127]) ?_
    exact byP (fc hk (fc Tryz.ntmps127 Tryz.results127)) True.intro
  · simp only [hk, if_true, if_false, Int.reduceEq]
    refine con_run Tryz.func127 rfl rfl (by simp [Tryz.ntmps127]) ?_
    exact byP (fc hk (fc Tryz.ntmps127 Tryz.results127)) True.intro
  · simp only [hk, if_true, if_false, Int.reduceEq]
    obtain ⟨hl, _, _, hp⟩ := h.op hk
    have hA := fun a b => con_ApplyS e.name a b
    rcases hl with h1 | h2
    · obtain ⟨x, hx⟩ := len1 h1
      obtain ⟨bx, _⟩ := hp x (by rw [hx]; simp)
      have hsx : szL (tmC x) ≤ szL (tmC e) := by rw [szL_tm e, hx]; simp only [tmsC, List.append_nil]; omega
      have hX := ih x (by rw [hx]; simp) ctx env bx (by omega)
      have hR0 := rw9 e 0 x (by omega) (by rw [hx]; rfl)
      rw [tmC_eq] at hX
      have hv : apV e.name (((e.args.map evT)[0]!) env) (if 1 < (e.args.map evT).length then ((e.args.map evT)[1]!) env else 0) = apV e.name (evT x env) 0 := by rw [hx]; rfl
      rw [hv]
      replace hA := hA (evT x env) 0
      generalize evT x env = vx at *
      have l0 : (0 : Int) < (e.args.length : Int) := by omega
      have l1 : ¬ (1 : Int) < (e.args.length : Int) := by omega
      refine con_run Tryz.func127 rfl rfl (by simp [Tryz.ntmps127]) ?_
      refine byP (fc hk (fc hR0 (fc l0 (fc Tryz.ntmps127 Tryz.results127)))) ?_
      refine sw_call (hX) rfl (aAs_ok (byQ True.intro)) (byQ True.intro) ?_
      refine sw_run 200 _ _ _ (byP l1 ?_)
      refine sw_call (hA) rfl (aAs_ok (byQ True.intro)) (byQ True.intro) ?_
      exact sw_run 200 _ _ _ (byP (fc Tryz.ntmps127 Tryz.results127) True.intro)
    · obtain ⟨x, y, hx⟩ := len2 h2
      obtain ⟨bx, _⟩ := hp x (by rw [hx]; simp)
      obtain ⟨by', _⟩ := hp y (by rw [hx]; simp)
      have hsx : szL (tmC x) + szL (tmC y) ≤ szL (tmC e) := by rw [szL_tm e, hx]; simp only [tmsC, List.append_nil, szL_append]; omega
      have hX := ih x (by rw [hx]; simp) ctx env bx (by omega)
      have hY := ih y (by rw [hx]; simp) ctx env by' (by omega)
      have hR0 := rw9 e 0 x (by omega) (by rw [hx]; rfl)
      have hR1 := rw9 e 1 y (by omega) (by rw [hx]; rfl)
      rw [tmC_eq] at hX hY
      have hv : apV e.name (((e.args.map evT)[0]!) env) (if 1 < (e.args.map evT).length then ((e.args.map evT)[1]!) env else 0) = apV e.name (evT x env) (evT y env) := by rw [hx]; rfl
      rw [hv]
      replace hA := hA (evT x env) (evT y env)
      generalize evT x env = vx at *
      generalize evT y env = vy at *
      have l0 : (0 : Int) < (e.args.length : Int) := by omega
      have l1 : (1 : Int) < (e.args.length : Int) := by omega
      refine con_run Tryz.func127 rfl rfl (by simp [Tryz.ntmps127]) ?_
      refine byP (fc hk (fc hR0 (fc l0 (fc Tryz.ntmps127 Tryz.results127)))) ?_
      refine sw_call (hX) rfl (aAs_ok (byQ True.intro)) (byQ True.intro) ?_
      refine sw_run 200 _ _ _ (byP (fc l1 hR1) ?_)
      refine sw_call (hY) rfl (aAs_ok (byQ True.intro)) (byQ True.intro) ?_
      refine sw_run 200 _ _ _ (byQ ?_)
      refine sw_call (hA) rfl (aAs_ok (byQ True.intro)) (byQ True.intro) ?_
      exact sw_run 200 _ _ _ (byP (fc Tryz.ntmps127 Tryz.results127) True.intro)
  · simp only [hk, if_true, if_false, Int.reduceEq]
    obtain ⟨x, y, z, hx, bx, tx, by', bz, _, _⟩ := h.if_ hk
    have hsx : szL (tmC x) + szL (tmC y) + szL (tmC z) ≤ szL (tmC e) := by rw [szL_tm e, hx]; simp only [tmsC, List.append_nil, szL_append]; omega
    have hX := ih x (by rw [hx]; simp) ctx env bx (by omega)
    have hY := ih y (by rw [hx]; simp) ctx env by' (by omega)
    have hZ := ih z (by rw [hx]; simp) ctx env bz (by omega)
    have hlen : e.args.length = 3 := by rw [hx]; rfl
    have hR0 := rw9 e 0 x (by omega) (by rw [hx]; rfl)
    have hR1 := rw9 e 1 y (by omega) (by rw [hx]; rfl)
    have hR2 := rw9 e 2 z (by omega) (by rw [hx]; rfl)
    have vx := ev_rng x ctx env bx
    rw [tx] at vx
    rw [tmC_eq] at hX hY hZ
    have e0 : ((e.args.map evT)[0]!) env = evT x env := by rw [hx]; rfl
    have e1 : ((e.args.map evT)[1]!) env = evT y env := by rw [hx]; rfl
    have e2 : ((e.args.map evT)[2]!) env = evT z env := by rw [hx]; rfl
    have l0 : (0 : Int) < (e.args.length : Int) := by omega
    have l1 : (1 : Int) < (e.args.length : Int) := by omega
    have l2 : (2 : Int) < (e.args.length : Int) := by omega
    have in1 : inI 1 := by unfold inI; omega
    have in2 : inI 2 := by unfold inI; omega
    rw [e0]
    rcases vx.bo with hv | hv
    · rw [hv] at hX ⊢
      rw [show (((2 : Nat) : Int) - 0).toNat = 2 from rfl, e2]
      refine con_run Tryz.func127 rfl rfl (by simp [Tryz.ntmps127]) ?_
      refine byP (fc hk (fc Tryz.ntmps127 Tryz.results127)) ?_
      refine sw_drawn (.cons 0 true (.cons 1 true (.cons 2 true (.cons 3 true (.cons 4 true (.cons 5 true (.cons 6 true (.cons 11 true (.cons 7 false (.cons 8 true (.cons 9 true (.cons 10 true (.cons 12 false (.cons 13 true (.nil))))))))))))))) (by kernel_rfl) fQ_panic (by kernel_rfl) ?_
      refine sw_run 200 _ _ _ (byP (fc l0 hR0) ?_)
      refine sw_callD (hX) rfl (aAs_ok (byQ True.intro)) (byQ True.intro) ?_
      refine sw_run 200 _ _ _ (byP (fc l2 (fc hR2 in2)) ?_)
      refine sw_callD (hZ) rfl (aAs_ok (byQ True.intro)) (byQ True.intro) ?_
      exact sw_run 200 _ _ _ (byP (fc Tryz.ntmps127 Tryz.results127) True.intro)
    · rw [hv] at hX ⊢
      rw [show (((2 : Nat) : Int) - 1).toNat = 1 from rfl, e1]
      refine con_run Tryz.func127 rfl rfl (by simp [Tryz.ntmps127]) ?_
      refine byP (fc hk (fc Tryz.ntmps127 Tryz.results127)) ?_
      refine sw_drawn (.cons 0 true (.cons 1 true (.cons 2 true (.cons 3 true (.cons 4 true (.cons 5 true (.cons 6 true (.cons 11 true (.cons 7 false (.cons 8 true (.cons 9 true (.cons 10 true (.cons 12 false (.cons 13 true (.nil))))))))))))))) (by kernel_rfl) fQ_panic (by kernel_rfl) ?_
      refine sw_run 200 _ _ _ (byP (fc l0 hR0) ?_)
      refine sw_callD (hX) rfl (aAs_ok (byQ True.intro)) (byQ True.intro) ?_
      refine sw_run 200 _ _ _ (byP (fc l1 (fc hR1 in1)) ?_)
      refine sw_callD (hY) rfl (aAs_ok (byQ True.intro)) (byQ True.intro) ?_
      exact sw_run 200 _ _ _ (byP (fc Tryz.ntmps127 Tryz.results127) True.intro)
  · simp only [hk, if_true, if_false, Int.reduceEq]
    obtain ⟨x, y, hx, bx, _, _, by'⟩ := h.let_ hk
    have hsx : szL (tmC x) + szL (tmC y) + 2 ≤ szL (tmC e) := by rw [szL_tm e, hx]; simp only [tmsC, List.append_nil, szL_append, List.length_cons, List.length_nil]; omega
    have hX := ih x (by rw [hx]; simp) ctx env bx (by omega)
    have vx := ev_rng x ctx env bx
    have hY := ih y (by rw [hx]; simp) _ _ (by' _ vx) (by rw [List.length_append]; simp only [List.length_cons, List.length_nil]; omega)
    have hlen : e.args.length = 2 := by rw [hx]; rfl
    have hR0 := rw9 e 0 x (by omega) (by rw [hx]; rfl)
    have hR1 := rw9 e 1 y (by omega) (by rw [hx]; rfl)
    rw [tmC_eq] at hX hY
    have e0 : ((e.args.map evT)[0]!) env = evT x env := by rw [hx]; rfl
    have e1 : ∀ g, ((e.args.map evT)[1]!) g = evT y g := fun g => by rw [hx]; rfl
    have l0 : (0 : Int) < (e.args.length : Int) := by omega
    have l1 : (1 : Int) < (e.args.length : Int) := by omega
    rw [e0, e1]
    generalize evT x env = v at *
    generalize evT y (env ++ [⟨e.name, v⟩]) = w at *
    rw [flC_app, flC_one, List.length_append] at hY
    simp only [imC, List.length_cons, List.length_nil, Nat.zero_add] at hY
    refine con_run Tryz.func127 rfl rfl (by simp [Tryz.ntmps127]) ?_
    refine byP (fc hk (fc Tryz.ntmps127 Tryz.results127)) ?_
    refine ⟨⟨fun _ => prim_ims env, fun _ _ => True.intro, by unfold maxLen; omega, by omega⟩, ?_⟩
    refine sw_drawn (.cons 0 true (.cons 4 true (.cons 5 true (.cons 6 true (.cons 7 true (.cons 8 true (.cons 9 true (.cons 10 true (.cons 11 true (.fork (.alt 1 (.fork (.alt 2 (.fork (.alt 3 (.cons 12 false (.cons 13 true (.cons 14 false (.cons 15 false (.cons 16 false (.cons 17 true (.nil))))))) (.alt 12 (.cons 13 true (.fork (.alt 3 (.cons 14 false (.cons 15 false (.cons 16 false (.cons 17 true (.nil))))) (.alt 14 (.fork (.alt 3 (.cons 15 false (.cons 16 false (.cons 17 true (.nil)))) (.alt 15 (.cons 3 true (.cons 16 false (.cons 17 true (.nil)))) (.last)))) (.last))))) (.last)))) (.alt 12 (.cons 13 true (.fork (.alt 2 (.fork (.alt 3 (.cons 14 false (.cons 15 false (.cons 16 false (.cons 17 true (.nil))))) (.alt 14 (.fork (.alt 3 (.cons 15 false (.cons 16 false (.cons 17 true (.nil)))) (.alt 15 (.cons 3 true (.cons 16 false (.cons 17 true (.nil)))) (.last)))) (.last)))) (.alt 14 (.fork (.alt 2 (.fork (.alt 3 (.cons 15 false (.cons 16 false (.cons 17 true (.nil)))) (.alt 15 (.cons 3 true (.cons 16 false (.cons 17 true (.nil)))) (.last)))) (.alt 15 (.cons 2 true (.cons 3 true (.cons 16 false (.cons 17 true (.nil))))) (.last)))) (.last))))) (.last)))) (.alt 12 (.cons 13 true (.fork (.alt 1 (.fork (.alt 2 (.fork (.alt 3 (.cons 14 false (.cons 15 false (.cons 16 false (.cons 17 true (.nil))))) (.alt 14 (.fork (.alt 3 (.cons 15 false (.cons 16 false (.cons 17 true (.nil)))) (.alt 15 (.cons 3 true (.cons 16 false (.cons 17 true (.nil)))) (.last)))) (.last)))) (.alt 14 (.fork (.alt 2 (.fork (.alt 3 (.cons 15 false (.cons 16 false (.cons 17 true (.nil)))) (.alt 15 (.cons 3 true (.cons 16 false (.cons 17 true (.nil)))) (.last)))) (.alt 15 (.cons 2 true (.cons 3 true (.cons 16 false (.cons 17 true (.nil))))) (.last)))) (.last)))) (.alt 14 (.fork (.alt 1 (.fork (.alt 2 (.fork (.alt 3 (.cons 15 false (.cons 16 false (.cons 17 true (.nil)))) (.alt 15 (.cons 3 true (.cons 16 false (.cons 17 true (.nil)))) (.last)))) (.alt 15 (.cons 2 true (.cons 3 true (.cons 16 false (.cons 17 true (.nil))))) (.last)))) (.alt 15 (.cons 1 true (.cons 2 true (.cons 3 true (.cons 16 false (.cons 17 true (.nil)))))) (.last)))) (.last))))) (.last))))))))))))) (by kernel_rfl) fQ_panic (by kernel_rfl) ?_
    refine sw_run 200 _ _ _ (byP (fc l0 (fc l1 (fc hR0 hR1))) ?_)
    repeat' (with_reducible apply And.intro)
    all_goals
      refine sw_callD (hX) rfl (aAs_ok (byQ True.intro)) (byQ True.intro) ?_
      refine sw_run 200 _ _ _ (byP (fc l0 (fc l1 (fc hR0 hR1))) ?_)
    repeat' (with_reducible apply And.intro)
    all_goals first
      | (intro h; exact h.elim)
      | (intro o a b; omega)
      | (unfold maxLen; omega)
      | omega
      | (refine sw_callD (hY) rfl (aAs_ok (byQ True.intro)) (byQ True.intro) ?_
         exact sw_run 200 _ _ _ (byP (fc Tryz.ntmps127 Tryz.results127) True.intro)
         done)
def par3:List D:=[.str ⟨#[110]⟩,.int 1,.rows 2 0 [],.bool false,.str ⟨#[120]⟩,.int 1,.rows 2 0 [],.bool false,.str ⟨#[121]⟩,.int 1,.rows 2 0 [],.bool false]
theorem p3F:rowAt 4 par3 0=[.str ⟨#[110]⟩,.int 1,.rows 2 0 [],.bool false]∧rowAt 4 par3 1=[.str ⟨#[120]⟩,.int 1,.rows 2 0 [],.bool false]∧rowAt 4 par3 2=[.str ⟨#[121]⟩,.int 1,.rows 2 0 [],.bool false]:=⟨rfl,rfl,rfl⟩
theorem n3F:(0:Int)<3∧(1:Int)<3∧(2:Int)<3∧(0:Int)+1=1∧(1:Int)+1=2∧(2:Int)+1=3∧¬ (3:Int)<3∧inI 1∧inI 2∧inI 3:=by unfold inI;decide
theorem con_base1:Con Tryz.prog 248 [.ag [.int 1,.rows 2 0 []]] [.one (.bool true)]:=by
 refine con_run Tryz.func248 rfl rfl (by simp [Tryz.ntmps248]) ?_
 exact byP (fc Tryz.ntmps248 Tryz.results248) True.intro
theorem qrF:(∀ (x:Code) (st:List It) (Q:QE) (n:Nat) (s:AS),qR Tryz.prog x st Q (n+1) .normal s=SW Tryz.prog [.code x] s (qR Tryz.prog x st Q n))∧(∀ (x:Code) (st:List It) (Q:QE) (n id:Nat) (s:AS),qR Tryz.prog x st Q n (.exit id) s=((popTo id st).isSome=true∧SW Tryz.prog ((popTo id st).getD []) s Q))∧(∀ (x:Code) (st:List It) (Q:QE) (n:Nat) (s:AS),qR Tryz.prog x st Q n .ret s=Q .ret s) :=
 ⟨fun _ _ _ _ _=>qR_normal,fun _ _ _ _ _ _=>qR_exit,fun _ _ _ _ _=>qR_ret⟩
theorem con_par3:Con Tryz.prog 194 [.one (.rows 4 3 par3)] [.one (.bool true)]:=by
 have hN:∀ s:ByteArray,nmB s=true→Con Tryz.prog 108 [.one (.str s)] [.one (.bool true)]:=fun s h=>by
  have:=con_IsNameS s (by have:=nm_size h;omega)
  rw [h] at this;exact this
 have n1:=hN ⟨#[110]⟩ (by decide)
 have n2:=hN ⟨#[120]⟩ (by decide)
 have n3:=hN ⟨#[121]⟩ (by decide)
 have hI:∀ (xs:List ByteArray) (s:ByteArray),xs.length≤3→fi s xs 0 = -1→Con Tryz.prog 124 [.one (.rows 1 xs.length (xs.map D.str)),.one (.str s)] [.one (.int (-1))]:=fun xs s h hf=>by
  have:=con_IndexOfS xs s (by omega)
  rw [hf] at this;exact this
 have i1:=hI [] ⟨#[110]⟩ (by decide) (by decide)
 have i2:=hI [⟨#[110]⟩] ⟨#[120]⟩ (by decide) (by decide)
 have i3:=hI [⟨#[110]⟩,⟨#[120]⟩] ⟨#[121]⟩ (by decide) (by decide)
 simp only [List.length_cons,List.length_nil,List.map_cons,List.map_nil,Nat.zero_add,Nat.reduceAdd] at i1 i2 i3
 refine con_run Tryz.func194 rfl rfl (by simp [Tryz.ntmps194]) ?_
 refine byP (fc Tryz.ntmps194 Tryz.results194) ?_
 refine sw_rounds 4 (sw_run 200 _ _ _ ?_)
 refine byP (fc n3F p3F) ?_
 refine sw_call (n1) rfl (aAs_ok (byQ True.intro)) (byQ True.intro) ?_
 refine sw_run 200 _ _ _ (byP (fc n3F p3F) ?_)
 refine sw_call (con_base1) rfl (aAs_ok (byQ True.intro)) (byQ True.intro) ?_
 refine sw_run 200 _ _ _ (byP (fc n3F p3F) ?_)
 refine sw_call (i1) rfl (aAs_ok (byQ True.intro)) (byQ True.intro) ?_
 refine sw_run 200 _ _ _ (byP (fc n3F (fc p3F qrF)) ?_)
 repeat' (with_reducible apply And.intro)
 all_goals first
  | (intro h;exact h.elim)
  | (intro o a b;omega)
  | (unfold maxLen;omega)
  | omega
  | skip
 refine sw_run 200 _ _ _ (byP (fc n3F (fc p3F qrF)) ?_)
 refine sw_call (n2) rfl (aAs_ok (byQ True.intro)) (byQ True.intro) ?_
 refine sw_run 200 _ _ _ (byP (fc n3F p3F) ?_)
 refine sw_call (con_base1) rfl (aAs_ok (byQ True.intro)) (byQ True.intro) ?_
 refine sw_run 200 _ _ _ (byP (fc n3F p3F) ?_)
 refine sw_call (i2) rfl (aAs_ok (byQ True.intro)) (byQ True.intro) ?_
 refine sw_run 200 _ _ _ (byP (fc n3F (fc p3F qrF)) ?_)
 repeat' (with_reducible apply And.intro)
 all_goals first
  | (intro h;exact h.elim)
  | (intro o a b;omega)
  | (unfold maxLen;omega)
  | omega
  | skip
 refine sw_run 200 _ _ _ (byP (fc n3F (fc p3F qrF)) ?_)
 refine sw_call (n3) rfl (aAs_ok (byQ True.intro)) (byQ True.intro) ?_
 refine sw_run 200 _ _ _ (byP (fc n3F p3F) ?_)
 refine sw_call (con_base1) rfl (aAs_ok (byQ True.intro)) (byQ True.intro) ?_
 refine sw_run 200 _ _ _ (byP (fc n3F p3F) ?_)
 refine sw_call (i3) rfl (aAs_ok (byQ True.intro)) (byQ True.intro) ?_
 refine sw_run 200 _ _ _ (byP (fc n3F (fc p3F qrF)) ?_)
 repeat' (with_reducible apply And.intro)
 all_goals first
  | (intro h;exact h.elim)
  | (intro o a b;omega)
  | (unfold maxLen;omega)
  | omega
  | skip
 refine sw_run 200 _ _ _ (byP (fc n3F (fc p3F qrF)) ?_)
 exact sw_run 200 _ _ _ (byP (fc Tryz.ntmps194 Tryz.results194) True.intro)
theorem qR_panic {P:Program} {x:Code} {st:List It} {Q:QE} {n:Nat}:∀ c s,¬ qR P x st Q n (.panic c) s:=fun c s h=>by cases n <;> exact h
theorem con_ctx3:ConP Tryz.prog 197 [.b (.one (.rows 4 3 par3))] [] [.one (.r (.rows 4 3 [.str ⟨#[110]⟩,.int 1,.rows 2 0 [],.int 0,.str ⟨#[120]⟩,.int 1,.rows 2 0 [],.int 0,.str ⟨#[121]⟩,.int 1,.rows 2 0 [],.int 0]))]:=by
 refine con_runPF [0,1,2,3,4,5,6,7,8] Tryz.func197 rfl rfl (by simp [Tryz.ntmps197]) rfl ?_
 refine byP (fc Tryz.ntmps197 Tryz.results197) ?_
 refine sw_rounds 4 (sw_run 200 _ _ _ ?_)
 refine byP (fc n3F p3F) ?_
 refine sw_drawn (.cons 0 true (.cons 1 true (.cons 2 true (.cons 3 true (.cons 4 true (.cons 5 true (.cons 6 true (.cons 7 true (.cons 8 true (.cons 9 true (.cons 10 true (.cons 11 true (.cons 12 false (.cons 13 false (.cons 14 true (.nil)))))))))))))))) (by kernel_rfl) qR_panic (by kernel_rfl) ?_
 refine sw_run 200 _ _ _ (byP (fc n3F (fc p3F qrF)) ?_)
 repeat' (with_reducible apply And.intro)
 all_goals first
  | (intro h;exact h.elim)
  | (intro o a b;omega)
  | (intro o a;omega)
  | (unfold maxLen;omega)
  | omega
  | skip
 refine sw_run 200 _ _ _ (byP (fc n3F (fc p3F qrF)) ?_)
 refine sw_drawn (.cons 0 true (.cons 1 true (.cons 2 true (.cons 3 true (.cons 4 true (.cons 5 true (.cons 6 true (.cons 7 true (.cons 8 true (.cons 9 true (.cons 10 true (.cons 11 true (.cons 12 false (.cons 13 false (.cons 14 true (.nil)))))))))))))))) (by kernel_rfl) qR_panic (by kernel_rfl) ?_
 refine sw_run 200 _ _ _ (byP (fc n3F (fc p3F qrF)) ?_)
 repeat' (with_reducible apply And.intro)
 all_goals first
  | (intro h;exact h.elim)
  | (intro o a b;omega)
  | (intro o a;omega)
  | (unfold maxLen;omega)
  | omega
  | skip
 refine sw_run 200 _ _ _ (byP (fc n3F (fc p3F qrF)) ?_)
 refine sw_drawn (.cons 0 true (.cons 1 true (.cons 2 true (.cons 3 true (.cons 4 true (.cons 5 true (.cons 6 true (.cons 7 true (.cons 8 true (.cons 9 true (.cons 10 true (.cons 11 true (.cons 12 false (.cons 13 false (.cons 14 true (.nil)))))))))))))))) (by kernel_rfl) qR_panic (by kernel_rfl) ?_
 refine sw_run 200 _ _ _ (byP (fc n3F (fc p3F qrF)) ?_)
 repeat' (with_reducible apply And.intro)
 all_goals first
  | (intro h;exact h.elim)
  | (intro o a b;omega)
  | (intro o a;omega)
  | (unfold maxLen;omega)
  | omega
  | skip
 refine sw_run 200 _ _ _ (byP (fc n3F (fc p3F qrF)) ?_)
 exact sw_run 200 _ _ _ (byP (fc Tryz.ntmps197 Tryz.results197) True.intro)
end Go.Proofs.YtaidalilfmjfgaaGreat
