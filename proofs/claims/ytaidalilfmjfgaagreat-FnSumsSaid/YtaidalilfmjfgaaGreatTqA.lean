import Derived.Test.YtaidalilfmjfgaaGreatTmB
import Derived.Test.YtaidalilfmjfgaaGreatMk
import Derived.Test.YtaidalilfmjfgaaGreatBy
import Derived.Test.YtaidalilfmjfgaaGreatTpA
import Derived.Test.YtaidalilfmjfgaaGreatClo
import Derived.Test.YtaidalilfmjfgaaGreatStaged
import Derived.Test.YtaidalilfmjfgaaGreatTvA
namespace Go.Proofs.YtaidalilfmjfgaaGreat
open Go.RowKit
set_option linter.unusedVariables false
set_option linter.unusedSimpArgs false
set_option maxRecDepth 20000
def plF (k n:Int):Int:=if k=10 then n+1 else if k=11 then n-1 else n
def rgL (t:Tm) (m:Int):Prop := -(2000000000-(szL (tmC t):Int))≤m∧m≤2000000000-(szL (tmC t):Int)
theorem con_plS (t:Tm) (m:Int) (h : -3000000000≤m∧m≤3000000000):Con Tryz.prog 232 [.ag (tmC t),.one (.int m)] [.one (.int (plF t.kind m))]:=by
 have i1:inI (m+1):=by unfold inI;omega
 have i2:inI (m-1):=by unfold inI;omega
 unfold plF
 rcases pc (t.kind=10) with h1 | h1
 all_goals rcases pc (t.kind=11) with h2 | h2
 all_goals
  simp only [h1,h2,if_true,if_false]
  refine con_run Tryz.func232 rfl rfl (by simp [Tryz.ntmps232]) ?_
  exact byP (fc h1 (fc h2 (fc i1 (fc i2 (fc Tryz.ntmps232 Tryz.results232))))) True.intro
mutual
theorem szT_eq : ∀ t : Ty, szL (tyC t) + 1 = szT t
  | .mk k xs => by
    have := szTs_eq xs
    rw [szT]
    simp only [tyC, szL, szD]
    omega
theorem szTs_eq : ∀ xs : List Ty, szL (tysC xs) + xs.length = szTs xs
  | [] => rfl
  | x :: xs => by
    have h1 := szT_eq x
    have h2 := szTs_eq xs
    rw [tysC, szL_append, szTs, List.length_cons]; omega
end
theorem v_sz {t:Ty} (h:vTy t=true):szL (tyC t)≤29:=by
 have:=szT_eq t
 unfold vTy at h
 simp only [Bool.and_eq_true,decide_eq_true_eq] at h
 omega
theorem zv_sz {t:Ty} (h:Zv t):szL (tyC t)≤29:=by
 rcases h with rfl | h
 ·exact Nat.zero_le _
 ·exact v_sz h
def CtxW (ctx:List Tg) (e:Tm):Prop:=ctx.length+szL (flC tgC ctx)+200 * (szL (tmC e)+1)≤1000000000
theorem szK' {e:Tm} {k:Nat} (h:k<e.args.length):szL (tmC e.args[k]!)+1≤szL (tmC e):=by
 have:=szL_tms' e.args k h
 rw [szL_tm e];omega
theorem tgC_sz (g:Tg):szL (tgC g)=g.name.size+szL (tyC g.ty):=by
 rw [tyC_eq];simp only [tgC,szL,szD,tysD];try omega
theorem CtxW.part {ctx:List Tg} {e x:Tm} (h:CtxW ctx e) (hx:szL (tmC x)+1≤szL (tmC e)):CtxW ctx x:=by unfold CtxW at *; omega
theorem CtxW.bind {ctx gs:List Tg} {e x:Tm} (h:CtxW ctx e) (hx:szL (tmC x)+1≤szL (tmC e)) (hg:gs.length+szL (flC tgC gs)≤200):CtxW (ctx++gs) x:=by
 unfold CtxW at *
 rw [flC_app,szL_append,List.length_append];omega
theorem safe_sz (xs : List Tg) (n : Int) : ∀ k, k ≤ xs.length → (safeTg xs n k).length + szL (flC tgC (safeTg xs n k)) ≤ k + szL (flC tgC (xs.take k))
  | 0, _ => Nat.le_refl _
  | k + 1, h => by
    have ih := safe_sz xs n k (by omega)
    rw [safeTg, take_snoc xs k (by omega), flC_app, szL_append, flC_one]
    split
    · rw [flC_app, szL_append, flC_one, List.length_append]; simp only [List.length_cons, List.length_nil]; omega
    · omega
theorem CtxW.safe {ctx:List Tg} {e x:Tm} {n:Int} (h:CtxW ctx e) (hx:szL (tmC x)+1≤szL (tmC e)):CtxW (safeTg ctx n ctx.length) x:=by
 have:=safe_sz ctx n ctx.length (Nat.le_refl _)
 rw [List.take_length] at this
 unfold CtxW at *
 omega
theorem ctx_ty {ctx:List Tg} {i:Nat} (h:i<ctx.length):szL (tyC (ctx[i]!).ty)≤szL (flC tgC ctx):=by
 have h1:=szL_mem tgC ctx ctx[i]! (mem_bang h)
 rw [tgC_sz] at h1;omega
theorem last_rng (xs : List Tg) (s : ByteArray) : ∀ k, k ≤ xs.length → -1 ≤ lastTg xs s k ∧ lastTg xs s k < k
  | 0, _ => by rw [lastTg]; omega
  | k + 1, h => by
    have := last_rng xs s k (by omega)
    rw [lastTg]; split <;> omega
theorem nm_sz {s:ByteArray} (h:nmB s=true):s.size≤4:=by
 unfold nmB at h;simp only [Bool.and_eq_true,decide_eq_true_eq] at h;omega
theorem fm_names {e:Tm} (h:isFm e=true):(e.kind=6→nmB e.name=true)∧(e.kind=8→nmB e.name=true)∧(e.kind=9→nmB e.name=true∧nmB e.other=true):=by
 rw [isFm_eq] at h
 simp only [Bool.and_eq_true,decide_eq_true_eq] at h
 obtain ⟨_,hn,_⟩:=h
 unfold isNm at hn
 refine ⟨fun hk => ?_,fun hk => ?_,fun hk => ?_⟩
 all_goals simp only [hk,if_true,if_false,Int.reduceEq,Bool.and_eq_true] at hn
 ·exact hn.1
 ·exact hn
 ·exact ⟨hn.1,hn.2.1⟩
theorem mapT_bang {α β:Type} [Inhabited α] [Inhabited β] (f:α→β) (l:List α) (i:Nat) (h:i<l.length):(l.map f)[i]! = f l[i]! := map_bang f h
theorem rgL_part {e:Tm} {k:Nat} {n m:Int} (h:rgL e n) (hk:k<e.args.length) (hm:n-1≤m∧m≤n+1):rgL e.args[k]! m:=by
 have:=szK' hk
 unfold rgL at *; omega
theorem all_part {p : Tm → Bool} {e : Tm} {k : Nat} (h : allTm p e = true) (hk : k < e.args.length) : allTm p e.args[k]! = true := by
  have key : ∀ (l : List Tm), allTms p l = true → ∀ x ∈ l, allTm p x = true := by
    intro l
    induction l with
    | nil => intro _ x hx; cases hx
    | cons y l ih =>
      intro h x hx
      rw [allTms, Bool.and_eq_true] at h
      rcases List.mem_cons.1 hx with rfl | hx
      · exact h.1
      · exact ih h.2 x hx
  rw [allTm_eq, Bool.and_eq_true] at h
  exact key _ h.2 _ (mem_bang hk)
theorem fun_sz (a b:Ty):szL (tyC (.mk 3 [a,b]))=szL (tyC a)+szL (tyC b)+2:=by
 have h:=szT_eq (.mk 3 [a,b])
 have ha:=szT_eq a
 have hb:=szT_eq b
 rw [szT,szTs,szTs,szTs] at h;omega
theorem code_sz (a:Ty):szL (tyC (.mk 4 [a]))=szL (tyC a)+1:=by
 have h:=szT_eq (.mk 4 [a])
 have ha:=szT_eq a
 rw [szT,szTs,szTs] at h;omega
theorem codeF_sz {t:Ty} (h:Zv t):szL (tyC (codeF t))≤29:=by
 have h0:=zv_sz (t:=z0) (.inl rfl)
 unfold codeF
 split
 ·rename_i hk
  have hv:=zv_ne h (by omega)
  rcases f_kind (v_form hv) with ⟨q,_⟩ | ⟨q,_⟩ | ⟨q,_⟩ | ⟨_,u,hu,_⟩
  ·omega
  ·omega
  ·omega
  ·have h1:=v_sz hv
   rw [ty_ext hk hu,code_sz] at h1
   rw [hu]
   show szL (tyC u)≤29
   omega
 ·exact h0
theorem ite_sz {p:Prop} [Decidable p] {a b:Ty} {n:Nat} (ha:szL (tyC a)≤n) (hb:szL (tyC b)≤n):szL (tyC (if p then a else b))≤n:=by
 split
 ·exact ha
 ·exact hb
theorem rg0 {e:Tm} (hz:szL (tmC e)≤2000000):rgL e 0:=by unfold rgL;omega
theorem con_tybS:Con Tryz.prog 202 [] [.ag (tyC tB)]:=by
 refine con_run Tryz.func202 rfl rfl (by simp [Tryz.ntmps202]) ?_
 refine byP (fc Tryz.ntmps202 Tryz.results202) ?_
 exact ⟨rfl,rfl,rfl⟩
theorem con_tyiS:Con Tryz.prog 201 [] [.ag (tyC tI)]:=by
 refine con_run Tryz.func201 rfl rfl (by simp [Tryz.ntmps201]) ?_
 refine byP (fc Tryz.ntmps201 Tryz.results201) ?_
 exact ⟨rfl,rfl,rfl⟩
theorem con_tybSR:ConP Tryz.prog 202 [] [] [.ag [.r (.int 2),.r (.rows 2 0 [])]]:=conR con_tybS trivial
theorem con_tyiSR:ConP Tryz.prog 201 [] [] [.ag [.r (.int 1),.r (.rows 2 0 [])]]:=conR con_tyiS trivial
theorem con_withS (xs:List Tg) (g:Tg) (hl:xs.length≤2000000000):ConP Tryz.prog 257 [.b (.one (.rows 4 xs.length (flC tgC xs))),.b (.one (.str g.name)),.b (.ag [.int g.ty.kind,.rows 2 g.ty.args.length (tysC g.ty.args)]),.b (.one (.int g.level))] [] [.one (.r (.rows 4 (xs++[g]).length (flC tgC (xs++[g]))))]:=by
 rw [List.length_append,flC_app,flC_one]
 simp only [tgC,tysD,List.length_cons,List.length_nil,Nat.zero_add]
 refine con_runPF [0,1,2,3,4,5] Tryz.func257 rfl rfl (by simp [Tryz.ntmps257]) rfl ?_
 refine byP (fc Tryz.ntmps257 Tryz.results257) ?_
 exact ⟨⟨fun _ _=>trivial,by unfold maxLen;omega,by omega⟩,fun o h=>by omega,by unfold maxLen;omega,by omega⟩
set_option maxHeartbeats 2000000 in
theorem con_opS (s:ByteArray) (l:List Ty) (hl:l.length≤2000000000):ConP Tryz.prog 267 [.b (.one (.str s)),.b (.one (.rows 2 l.length (tysC l)))] [] [.ag [.r (.int (opS s l).1.kind),.r (.rows 2 (opS s l).1.args.length (tysC (opS s l).1.args))],.one (.r (.bool (opS s l).2))]:=by
 by_cases c1:s=⟨#[38]⟩∨s=⟨#[124]⟩∨s=⟨#[33]⟩
 ·have e1:wantK s=2:=by unfold wantK oAnd oOr oNot;rw [if_pos c1]
  have n1:(s=⟨#[43]⟩)=False:=eq_false (by rintro rfl;revert c1;decide)
  have n2:(s=⟨#[45]⟩)=False:=eq_false (by rintro rfl;revert c1;decide)
  have n3:(s=⟨#[42]⟩)=False:=eq_false (by rintro rfl;revert c1;decide)
  have e2:(if s=oAdd∨s=oSub∨s=oMul then tI else tB)=tB:=by
   rw [if_neg];rintro (h | h | h)
   ·exact of_eq_false n1 h
   ·exact of_eq_false n2 h
   ·exact of_eq_false n3 h
  unfold opS
  rw [e1,e2]
  rcases pc (s=⟨#[38]⟩) with h1 | h1
  all_goals rcases pc (s=⟨#[124]⟩) with h2 | h2
  all_goals rcases pc (s=⟨#[33]⟩) with h3 | h3
  all_goals try (exfalso;exact c1.elim (of_eq_false h1) fun q=>q.elim (of_eq_false h2) (of_eq_false h3))
  all_goals
   refine con_runP Tryz.func267 rfl rfl (by simp [Tryz.ntmps267]) rfl ?_
   refine byP (fc h1 (fc h2 (fc h3 (fc Tryz.ntmps267 Tryz.results267)))) ?_
   refine sw_loop (fun k:Nat=>k≤l.length∧(l.take k).all (fun t=>decide (t.kind=2))=true) (fun k=>⟨44,[(7,.i k),(1,.br (.rows 2 l.length (tysC l))),(0,.s s),(6,.i 2),(5,.b false),(4,.bx 0 0)],[(0,[.i 0,.nl 2])],[],1,[]⟩) (fun k=>l.length-k) 0 id ⟨Nat.zero_le _,rfl⟩ (byP Int.natCast_zero True.intro) ?_
   rintro k ⟨hk,hall⟩
   by_cases hlt:k<l.length
   ·have hi:(k:Int)<(l.length:Int):=by omega
    have hR:=tysC_row' l k hlt
    rw [tyC_eq] at hR
    have hst:(l.take (k+1)).all (fun t=>decide (t.kind=2))=decide ((l[k]!).kind=2):=by rw [take_snoc l k hlt,List.all_append,hall];simp
    by_cases hb:(l[k]!).kind=2
    ·rw [decide_eq_true hb] at hst
     refine sw_run 200 _ _ _ (byP (fc hi (fc hR hb)) ?_)
     exact ⟨by unfold inI;omega,k+1,id,⟨by omega,hst⟩,by omega,byQ True.intro⟩
    ·have hf:l.all (fun t=>decide (t.kind=2))=false:=by
      rw [List.all_eq_false]
      exact ⟨l[k]!,mem_bang hlt,by simpa using hb⟩
     rw [hf]
     refine sw_run 200 _ _ _ (byP (fc hi (fc hR (fc hb (fc Tryz.ntmps267 Tryz.results267)))) ?_)
     exact ⟨rfl,rfl,rfl⟩
   ·have hi:¬ (k:Int)<(l.length:Int):=by omega
    obtain rfl:k=l.length:=by omega
    rw [List.take_length] at hall
    rw [hall]
    refine sw_run 200 _ _ _ (byP hi ?_)
    refine sw_run 200 _ _ _ ?_
    refine byP (fc n1 (fc n2 n3)) ?_
    refine sw_callPR (con_tybSR) rfl rfl rfl (byQ True.intro) (byQ True.intro) (byQ True.intro) ?_
    refine sw_run 200 _ _ _ (byP (fc Tryz.ntmps267 Tryz.results267) ?_)
    exact ⟨rfl,rfl⟩
 ·have e1:wantK s=1:=by unfold wantK oAnd oOr oNot;rw [if_neg c1]
  have h1:(s=⟨#[38]⟩)=False:=eq_false fun h=>c1 (.inl h)
  have h2:(s=⟨#[124]⟩)=False:=eq_false fun h=>c1 (.inr (.inl h))
  have h3:(s=⟨#[33]⟩)=False:=eq_false fun h=>c1 (.inr (.inr h))
  unfold opS
  rw [e1]
  by_cases c2:s=⟨#[43]⟩∨s=⟨#[45]⟩∨s=⟨#[42]⟩
  ·have e2:(if s=oAdd∨s=oSub∨s=oMul then tI else tB)=tI:=by unfold oAdd oSub oMul;rw [if_pos c2]
   rw [e2]
   rcases pc (s=⟨#[43]⟩) with n1 | n1
   all_goals rcases pc (s=⟨#[45]⟩) with n2 | n2
   all_goals rcases pc (s=⟨#[42]⟩) with n3 | n3
   all_goals try (exfalso;exact c2.elim (of_eq_false n1) fun q=>q.elim (of_eq_false n2) (of_eq_false n3))
   all_goals
    refine con_runP Tryz.func267 rfl rfl (by simp [Tryz.ntmps267]) rfl ?_
    refine byP (fc h1 (fc h2 (fc h3 (fc Tryz.ntmps267 Tryz.results267)))) ?_
    refine sw_loop (fun k:Nat=>k≤l.length∧(l.take k).all (fun t=>decide (t.kind=1))=true) (fun k=>⟨44,[(7,.i k),(1,.br (.rows 2 l.length (tysC l))),(0,.s s),(6,.i 1),(5,.b false),(4,.bx 0 0)],[(0,[.i 0,.nl 2])],[],1,[]⟩) (fun k=>l.length-k) 0 id ⟨Nat.zero_le _,rfl⟩ (byP Int.natCast_zero True.intro) ?_
    rintro k ⟨hk,hall⟩
    by_cases hlt:k<l.length
    ·have hi:(k:Int)<(l.length:Int):=by omega
     have hR:=tysC_row' l k hlt
     rw [tyC_eq] at hR
     have hst:(l.take (k+1)).all (fun t=>decide (t.kind=1))=decide ((l[k]!).kind=1):=by rw [take_snoc l k hlt,List.all_append,hall];simp
     by_cases hb:(l[k]!).kind=1
     ·rw [decide_eq_true hb] at hst
      refine sw_run 200 _ _ _ (byP (fc hi (fc hR hb)) ?_)
      exact ⟨by unfold inI;omega,k+1,id,⟨by omega,hst⟩,by omega,byQ True.intro⟩
     ·have hf:l.all (fun t=>decide (t.kind=1))=false:=by
       rw [List.all_eq_false]
       exact ⟨l[k]!,mem_bang hlt,by simpa using hb⟩
      rw [hf]
      refine sw_run 200 _ _ _ (byP (fc hi (fc hR (fc hb (fc Tryz.ntmps267 Tryz.results267)))) ?_)
      exact ⟨rfl,rfl,rfl⟩
    ·have hi:¬ (k:Int)<(l.length:Int):=by omega
     obtain rfl:k=l.length:=by omega
     rw [List.take_length] at hall
     rw [hall]
     refine sw_run 200 _ _ _ (byP hi ?_)
     refine sw_run 200 _ _ _ ?_
     refine byP (fc n1 (fc n2 n3)) ?_
     refine sw_callPR (con_tyiSR) rfl rfl rfl (byQ True.intro) (byQ True.intro) (byQ True.intro) ?_
     refine sw_run 200 _ _ _ (byP (fc Tryz.ntmps267 Tryz.results267) ?_)
     exact ⟨rfl,rfl⟩
  ·have e2:(if s=oAdd∨s=oSub∨s=oMul then tI else tB)=tB:=by unfold oAdd oSub oMul;rw [if_neg c2]
   have n1:(s=⟨#[43]⟩)=False:=eq_false fun h=>c2 (.inl h)
   have n2:(s=⟨#[45]⟩)=False:=eq_false fun h=>c2 (.inr (.inl h))
   have n3:(s=⟨#[42]⟩)=False:=eq_false fun h=>c2 (.inr (.inr h))
   rw [e2]
   refine con_runP Tryz.func267 rfl rfl (by simp [Tryz.ntmps267]) rfl ?_
   refine byP (fc h1 (fc h2 (fc h3 (fc Tryz.ntmps267 Tryz.results267)))) ?_
   refine sw_loop (fun k:Nat=>k≤l.length∧(l.take k).all (fun t=>decide (t.kind=1))=true) (fun k=>⟨44,[(7,.i k),(1,.br (.rows 2 l.length (tysC l))),(0,.s s),(6,.i 1),(5,.b false),(4,.bx 0 0)],[(0,[.i 0,.nl 2])],[],1,[]⟩) (fun k=>l.length-k) 0 id ⟨Nat.zero_le _,rfl⟩ (byP Int.natCast_zero True.intro) ?_
   rintro k ⟨hk,hall⟩
   by_cases hlt:k<l.length
   ·have hi:(k:Int)<(l.length:Int):=by omega
    have hR:=tysC_row' l k hlt
    rw [tyC_eq] at hR
    have hst:(l.take (k+1)).all (fun t=>decide (t.kind=1))=decide ((l[k]!).kind=1):=by rw [take_snoc l k hlt,List.all_append,hall];simp
    by_cases hb:(l[k]!).kind=1
    ·rw [decide_eq_true hb] at hst
     refine sw_run 200 _ _ _ (byP (fc hi (fc hR hb)) ?_)
     exact ⟨by unfold inI;omega,k+1,id,⟨by omega,hst⟩,by omega,byQ True.intro⟩
    ·have hf:l.all (fun t=>decide (t.kind=1))=false:=by
      rw [List.all_eq_false]
      exact ⟨l[k]!,mem_bang hlt,by simpa using hb⟩
     rw [hf]
     refine sw_run 200 _ _ _ (byP (fc hi (fc hR (fc hb (fc Tryz.ntmps267 Tryz.results267)))) ?_)
     exact ⟨rfl,rfl,rfl⟩
   ·have hi:¬ (k:Int)<(l.length:Int):=by omega
    obtain rfl:k=l.length:=by omega
    rw [List.take_length] at hall
    rw [hall]
    refine sw_run 200 _ _ _ (byP hi ?_)
    refine sw_run 200 _ _ _ ?_
    refine byP (fc n1 (fc n2 n3)) ?_
    refine sw_callPR (con_tybSR) rfl rfl rfl (byQ True.intro) (byQ True.intro) (byQ True.intro) ?_
    refine sw_run 200 _ _ _ (byP (fc Tryz.ntmps267 Tryz.results267) ?_)
    exact ⟨rfl,rfl⟩
end Go.Proofs.YtaidalilfmjfgaaGreat
