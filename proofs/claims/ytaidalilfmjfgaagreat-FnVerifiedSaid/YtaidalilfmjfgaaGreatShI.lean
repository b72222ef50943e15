import Derived.Test.YtaidalilfmjfgaaGreatCdB
import Derived.Test.YtaidalilfmjfgaaGreatBy
namespace Go.Proofs.YtaidalilfmjfgaaGreat
open Go.RowKit
set_option linter.unusedVariables false
set_option linter.unusedSimpArgs false
set_option maxRecDepth 20000
theorem popF_rng (x:Ins):0≤popF x∧popF x≤2:=by
 unfold popF
 repeat' split
 all_goals omega
theorem pushF_rng (x:Ins):0≤pushF x∧pushF x≤1:=by
 unfold pushF
 split <;> omega
theorem con_taken (x:Ins) (h:insB x=true):Con Tryz.prog 151 [.ag (insC x)] [.one (.int (popF x)),.one (.int (pushF x))]:=by
 obtain ⟨h1,h2,h3,h4⟩:=ins_cases h
 obtain ⟨op,a⟩:=x
 simp only at h1 h2 h3 h4
 by_cases h4o:op=4
 ·subst h4o
  have hn:=con_OpNameI a (h3 rfl)
  have ha:=con_OpArI (opB a)
  rw [op_pop (h3 rfl)] at ha
  refine con_run Tryz.func151 rfl rfl (by simp [Tryz.ntmps151]) ?_
  refine byP (fc insC.eq_1 Tryz.ntmps151) ?_
  refine sw_call (hn) rfl (aAs_ok ?_) ?_ (sw_run 200 _ _ _ ?_)
  ·exact byQ True.intro
  ·simp only [okR]
  refine byQ ?_
  refine sw_call (ha) rfl (aAs_ok ?_) ?_ (sw_run 200 _ _ _ ?_)
  ·exact byQ True.intro
  ·simp only [okR]
  exact byP (fc popF.eq_1 (fc pushF.eq_1 Tryz.results151)) True.intro
 ·rcases (show op=1∨op=2∨op=3∨op=5∨op=6∨op=7∨op=8∨op=9∨op=10∨op=11∨op=12 by omega) with rfl | rfl | rfl | rfl | rfl | rfl | rfl | rfl | rfl | rfl | rfl
  all_goals
   refine con_run Tryz.func151 rfl rfl (by simp [Tryz.ntmps151]) ?_
   exact byP (fc insC.eq_1 (fc popF.eq_1 (fc pushF.eq_1 (fc Tryz.ntmps151 Tryz.results151)))) True.intro
theorem con_mayStand (x:Ins) (s:Shp) (h:insB x=true):Con Tryz.prog 71 [.ag (insC x),.ag (shpC s)] [.one (.bool (mayF x s))]:=by
 obtain ⟨h1,h2,h3,h4⟩:=ins_cases h
 have ht:=con_taken x h
 obtain ⟨op,a⟩:=x
 obtain ⟨k,sh,d,b⟩:=s
 simp only at h1 h2 h3 h4
 unfold mayF
 generalize popF ⟨op,a⟩=q at *
 simp only [insC,shpC] at ht ⊢
 rcases pc (sh<q) with hq | hq
 ·rw [if_pos (.inl (of_eq_true hq))]
  refine con_run Tryz.func71 rfl rfl (by simp [Tryz.ntmps71]) ?_
  refine byP Tryz.ntmps71 ?_
  refine sw_call (ht) rfl (aAs_ok ?_) ?_ (sw_run 200 _ _ _ ?_)
  ·exact byQ True.intro
  ·simp only [okR]
  exact byP (fc hq Tryz.results71) True.intro
 ·rcases pc (sh=1) with hs | hs
  all_goals
   rcases h1 with rfl | rfl | rfl | rfl | rfl | rfl | rfl | rfl | rfl | rfl | rfl | rfl
  all_goals
   simp only [hq,hs,ne_eq,not_false_eq_true,not_true_eq_false,Int.reduceEq,and_false,and_true,or_false,or_true,if_true,if_false]
   refine con_run Tryz.func71 rfl rfl (by simp [Tryz.ntmps71]) ?_
   refine byP Tryz.ntmps71 ?_
   refine sw_call (ht) rfl (aAs_ok ?_) ?_ (sw_run 200 _ _ _ ?_)
   ·exact byQ True.intro
   ·simp only [okR]
   exact byP (fc hq (fc hs Tryz.results71)) True.intro
theorem con_following (p:Int) (x:Ins) (s:Shp) (h:insB x=true) (hp : -1000000≤p∧p≤1000000) (hh : -1000000≤s.h∧s.h≤1000000) (hd : -1000000≤s.d∧s.d≤1000000):Con Tryz.prog 72 [.one (.int p),.ag (insC x),.ag (shpC s)] [.one (dersD (folI p x s))]:=by
 obtain ⟨h1,h2,h3,h4⟩:=ins_cases h
 have ht:=con_taken x h
 have hb:=con_bitI
 obtain ⟨op,a⟩:=x
 obtain ⟨k,sh,d,b⟩:=s
 simp only at h1 h2 h3 h4 hh hd
 have hpb:=popF_rng ⟨op,a⟩
 have hub:=pushF_rng ⟨op,a⟩
 unfold folI aftF insF
 generalize popF ⟨op,a⟩=q at *
 generalize pushF ⟨op,a⟩=u at *
 have i1:inI (u-q):=by unfold inI;omega
 have i2:inI (sh+(u-q)):=by unfold inI;omega
 have i3:inI (d+1):=by unfold inI;omega
 have i4:inI (d-1):=by unfold inI;omega
 have i5:inI (p+1):=by unfold inI;omega
 have i6:inI (d+1+1):=by unfold inI;omega
 have i7:inI (d+1+0):=by unfold inI;omega
 simp only [insC,shpC] at ht ⊢
 rcases h1 with rfl | rfl | rfl | rfl | rfl | rfl | rfl | rfl | rfl | rfl | rfl | rfl
 ·simp only [Int.reduceEq,or_self,if_false]
  refine con_run Tryz.func72 rfl rfl (by simp [Tryz.ntmps72]) ?_
  refine byP Tryz.ntmps72 ?_
  refine sw_call (ht) rfl (aAs_ok ?_) ?_ (sw_run 200 _ _ _ ?_)
  ·exact byQ True.intro
  ·simp only [okR]
  simp only [push_cast,↓reduceIte,Nat.reduceLT,Nat.reduceAdd,Nat.reduceLeDiff,Nat.reduceEqDiff,reduceCtorEq,Int.reduceEq,i1,i2,i5,dersD,flC,derC,Tryz.results72]
 ·simp only [Int.reduceEq,or_self,if_false]
  refine con_run Tryz.func72 rfl rfl (by simp [Tryz.ntmps72]) ?_
  refine byP Tryz.ntmps72 ?_
  refine sw_call (ht) rfl (aAs_ok ?_) ?_ (sw_run 200 _ _ _ ?_)
  ·exact byQ True.intro
  ·simp only [okR]
  simp only [push_cast,↓reduceIte,Nat.reduceLT,Nat.reduceAdd,Nat.reduceLeDiff,Nat.reduceEqDiff,reduceCtorEq,Int.reduceEq,i1,i2,i5,dersD,flC,derC,Tryz.results72]
 ·simp only [Int.reduceEq,or_self,if_false]
  refine con_run Tryz.func72 rfl rfl (by simp [Tryz.ntmps72]) ?_
  refine byP Tryz.ntmps72 ?_
  refine sw_call (ht) rfl (aAs_ok ?_) ?_ (sw_run 200 _ _ _ ?_)
  ·exact byQ True.intro
  ·simp only [okR]
  simp only [push_cast,↓reduceIte,Nat.reduceLT,Nat.reduceAdd,Nat.reduceLeDiff,Nat.reduceEqDiff,reduceCtorEq,Int.reduceEq,i1,i2,i5,dersD,flC,derC,Tryz.results72]
 ·simp only [Int.reduceEq,or_self,if_false]
  refine con_run Tryz.func72 rfl rfl (by simp [Tryz.ntmps72]) ?_
  refine byP Tryz.ntmps72 ?_
  refine sw_call (ht) rfl (aAs_ok ?_) ?_ (sw_run 200 _ _ _ ?_)
  ·exact byQ True.intro
  ·simp only [okR]
  simp only [push_cast,↓reduceIte,Nat.reduceLT,Nat.reduceAdd,Nat.reduceLeDiff,Nat.reduceEqDiff,reduceCtorEq,Int.reduceEq,i1,i2,i5,dersD,flC,derC,Tryz.results72]
 ·simp only [Int.reduceEq,or_self,if_true,if_false]
  refine con_run Tryz.func72 rfl rfl (by simp [Tryz.ntmps72]) ?_
  refine byP Tryz.ntmps72 ?_
  refine sw_call (ht) rfl (aAs_ok ?_) ?_ (sw_run 200 _ _ _ ?_)
  ·exact byQ True.intro
  ·simp only [okR]
  simp only [push_cast,↓reduceIte,Nat.reduceLT,Nat.reduceAdd,Nat.reduceLeDiff,Nat.reduceEqDiff,reduceCtorEq,Int.reduceEq,i1,i2,dersD,flC,derC,Tryz.results72]
 ·simp only [Int.reduceEq,or_self,if_true,if_false]
  refine con_run Tryz.func72 rfl rfl (by simp [Tryz.ntmps72]) ?_
  refine byP Tryz.ntmps72 ?_
  refine sw_call (ht) rfl (aAs_ok ?_) ?_ (sw_run 200 _ _ _ ?_)
  ·exact byQ True.intro
  ·simp only [okR]
  simp only [push_cast,↓reduceIte,Nat.reduceLT,Nat.reduceAdd,Nat.reduceMul,Nat.reduceLeDiff,Nat.reduceEqDiff,reduceCtorEq,Int.reduceEq,i1,i2,i5,dersD,flC,derC,Tryz.results72]
 ·simp only [Int.reduceEq,or_false,if_true,if_false]
  refine con_run Tryz.func72 rfl rfl (by simp [Tryz.ntmps72]) ?_
  refine byP Tryz.ntmps72 ?_
  refine sw_call (ht) rfl (aAs_ok ?_) ?_ (sw_run 200 _ _ _ ?_)
  ·exact byQ True.intro
  ·simp only [okR]
  simp only [push_cast,↓reduceIte,Nat.reduceLT,Nat.reduceAdd,Nat.reduceLeDiff,Nat.reduceEqDiff,reduceCtorEq,Int.reduceEq,i1,i2,dersD,flC,derC]
  refine sw_drawn (.cons 0 true (.cons 1 true (.cons 2 true (.cons 3 true (.cons 4 true (.cons 5 true (.cons 6 false (.cons 7 true (.cons 8 true (.nil)))))))))) (by kernel_rfl) fQ_panic (by kernel_rfl) (sw_run 200 _ _ _ ?_)
  refine byP i3 ?_
  refine sw_callD (hb false) rfl (aAs_ok ?_) ?_ (sw_run 200 _ _ _ ?_)
  ·exact byQ True.intro
  ·simp only [okR]
  exact byP (fc i5 (fc i7 Tryz.results72)) True.intro
 ·simp only [Int.reduceEq,or_true,if_true,if_false]
  refine con_run Tryz.func72 rfl rfl (by simp [Tryz.ntmps72]) ?_
  refine byP Tryz.ntmps72 ?_
  refine sw_call (ht) rfl (aAs_ok ?_) ?_ (sw_run 200 _ _ _ ?_)
  ·exact byQ True.intro
  ·simp only [okR]
  simp only [push_cast,↓reduceIte,Nat.reduceLT,Nat.reduceAdd,Nat.reduceLeDiff,Nat.reduceEqDiff,reduceCtorEq,Int.reduceEq,i1,i2,dersD,flC,derC]
  refine sw_drawn (.cons 0 true (.cons 1 true (.cons 2 true (.cons 3 true (.cons 4 true (.cons 5 true (.cons 6 false (.cons 7 true (.cons 8 true (.nil)))))))))) (by kernel_rfl) fQ_panic (by kernel_rfl) (sw_run 200 _ _ _ ?_)
  refine byP i3 ?_
  refine sw_callD (hb true) rfl (aAs_ok ?_) ?_ (sw_run 200 _ _ _ ?_)
  ·exact byQ True.intro
  ·simp only [okR]
  exact byP (fc i5 (fc i6 Tryz.results72)) True.intro
 ·simp only [Int.reduceEq,or_self,if_false]
  refine con_run Tryz.func72 rfl rfl (by simp [Tryz.ntmps72]) ?_
  refine byP Tryz.ntmps72 ?_
  refine sw_call (ht) rfl (aAs_ok ?_) ?_ (sw_run 200 _ _ _ ?_)
  ·exact byQ True.intro
  ·simp only [okR]
  simp only [push_cast,↓reduceIte,Nat.reduceLT,Nat.reduceAdd,Nat.reduceLeDiff,Nat.reduceEqDiff,reduceCtorEq,Int.reduceEq,i1,i2,i5,dersD,flC,derC,Tryz.results72]
 ·simp only [Int.reduceEq,or_self,if_true,if_false]
  refine con_run Tryz.func72 rfl rfl (by simp [Tryz.ntmps72]) ?_
  refine byP Tryz.ntmps72 ?_
  refine sw_call (ht) rfl (aAs_ok ?_) ?_ (sw_run 200 _ _ _ ?_)
  ·exact byQ True.intro
  ·simp only [okR]
  simp only [push_cast,↓reduceIte,Nat.reduceLT,Nat.reduceAdd,Nat.reduceLeDiff,Nat.reduceEqDiff,reduceCtorEq,Int.reduceEq,i1,i2,dersD,flC,Tryz.results72]
 ·simp only [Int.reduceEq,or_self,if_true,if_false]
  refine con_run Tryz.func72 rfl rfl (by simp [Tryz.ntmps72]) ?_
  refine byP Tryz.ntmps72 ?_
  refine sw_call (ht) rfl (aAs_ok ?_) ?_ (sw_run 200 _ _ _ ?_)
  ·exact byQ True.intro
  ·simp only [okR]
  simp only [push_cast,↓reduceIte,Nat.reduceLT,Nat.reduceAdd,Nat.reduceLeDiff,Nat.reduceEqDiff,reduceCtorEq,i1,i2,i3,i5,dersD,flC,derC,Tryz.results72]
 ·simp only [Int.reduceEq,or_self,if_true,if_false]
  refine con_run Tryz.func72 rfl rfl (by simp [Tryz.ntmps72]) ?_
  refine byP Tryz.ntmps72 ?_
  refine sw_call (ht) rfl (aAs_ok ?_) ?_ (sw_run 200 _ _ _ ?_)
  ·exact byQ True.intro
  ·simp only [okR]
  simp only [push_cast,↓reduceIte,Nat.reduceLT,Nat.reduceAdd,Nat.reduceLeDiff,Nat.reduceEqDiff,reduceCtorEq,Int.reduceEq,i1,i2,i4,i5,dersD,flC,derC,Tryz.results72]
theorem goI_cons {code:List Ins} {f:Nat} {out:List Shp} {d:Der} {r list:List Der} (h:list=d :: r):goI code (f+1) out list=if (code.length:Int)≤d.p then some none
  else if out[d.p.toNat]!.known=true then (if out[d.p.toNat]! = d.s then goI code f out r else some none)
  else if mayF code[d.p.toNat]! d.s=true then goI code f (out.set d.p.toNat d.s) (r++folI d.p code[d.p.toNat]! d.s)
  else some none:=by rw [h,goI]
theorem okA_of {code:List Ins} (h:codeB code=true):okA code∧code.length≤300∧∀ k,k<code.length→insB code[k]! = true:=by
 unfold codeB at h
 rw [Bool.and_eq_true,List.all_eq_true] at h
 exact ⟨fun x hx=>(ins_cases (h.2 x hx)).2.1.1,of_decide_eq_true h.1,fun k hk=>h.2 _ (mem_bang hk)⟩
def shpR (code:List Ins):Option (List Shp):=if codeB code=true∧0<code.length then shRes code else none
def bdD (f:Nat) (d:Der):Prop:=(0≤d.p∧d.p≤1000)∧d.s.known=true∧(-(4 * (1000-(f:Int)))≤d.s.h∧d.s.h≤4 * (1000-(f:Int)))∧(-(4 * (1000-(f:Int)))≤d.s.d∧d.s.d≤4 * (1000-(f:Int)))
theorem bdD.mono {f:Nat} {d:Der} (h:bdD (f+1) d):bdD f d:=by
 obtain ⟨h1,h2,h3,h4⟩:=h
 exact ⟨h1,h2,by omega,by omega⟩
theorem fol_bd {f:Nat} {p:Int} {x:Ins} {s:Shp} (hf:f+1≤1000) (hx:insB x=true) (h:bdD (f+1) ⟨p,s⟩) (hp:p<300):∀ y ∈ folI p x s,bdD f y:=by
 obtain ⟨h1,h2,h3,h4⟩:=h
 simp only at h1 h2 h3 h4
 obtain ⟨c1,c2,c3,c4⟩:=ins_cases hx
 have hq:=popF_rng x
 have hu:=pushF_rng x
 have haft:∀ q:Int,0≤q∧q≤1000→bdD f ⟨q,aftF x s⟩:=fun q hq'=>⟨hq',h2,by simp only [aftF];omega,by simp only [aftF];split <;> (try split) <;> omega⟩
 have hins:x.a≤299→bdD f ⟨x.a,insF x s⟩:=fun ha=>⟨⟨c2.1,by simp only;omega⟩,rfl,by simp only [insF];omega,by simp only [insF];split <;> omega⟩
 intro y hy
 unfold folI at hy
 repeat' split at hy
 ·cases hy
 ·simp only [List.mem_singleton] at hy;subst hy;exact haft _ (by omega)
 ·simp only [List.mem_cons,List.not_mem_nil,or_false] at hy
  rcases hy with rfl | rfl
  ·exact haft _ (by omega)
  ·exact haft _ (by omega)
 ·simp only [List.mem_cons,List.not_mem_nil,or_false] at hy
  rcases hy with rfl | rfl
  ·exact haft _ (by omega)
  ·exact hins (by omega)
 ·simp only [List.mem_singleton] at hy;subst hy;exact haft _ (by omega)
theorem flC_zeros (n : Nat) : repD n [.bool false, .int 0, .int 0, .int 0] = flC shpC (zeros n) := by
  induction n with
  | zero => rfl
  | succ n ih =>
    unfold repD zeros at ih ⊢
    rw [List.replicate_succ, List.replicate_succ, List.flatten_cons, ih, flC]; rfl
theorem zeros_len (n:Nat):(zeros n).length=n:=by simp [zeros]
theorem shpC_len (t:Shp):(shpC t).length=4:=rfl
theorem derC_len (t:Der):(derC t).length=5:=rfl
theorem setRowG_at {α : Type} : ∀ (us l : List α) (i : Nat), i + us.length ≤ l.length → setRowG l i us = l.take i ++ us ++ l.drop (i + us.length)
  | [], l, i, _ => by simp [setRowG]
  | u :: us, l, i, h => by
    simp only [List.length_cons] at h
    rw [setRowG, setRowG_at us (l.set i u) (i + 1) (by simp; omega)]
    rw [List.take_add_one, List.getElem?_set_self (by omega), List.take_set_of_le (Nat.le_refl i), List.drop_set_of_lt (by omega)]
    simp only [Option.toList_some, List.append_assoc, List.cons_append, List.nil_append, List.length_cons, Nat.add_assoc, Nat.add_comm 1]
theorem flC_set {α : Type} [Inhabited α] {c : α → List D} {n : Nat} (hc : ∀ x, (c x).length = n) : ∀ (xs : List α) (k : Nat) (x : α), k < xs.length → setRowG (flC c xs) (k * n) (c x) = flC c (xs.set k x)
  | [], k, x, h => by simp at h
  | y :: xs, 0, x, h => by
    rw [setRowG_at _ _ _ (by rw [flC, List.length_append, hc, hc]; omega), Nat.zero_mul, List.take_zero, List.nil_append, Nat.zero_add, flC, hc, ← hc y, List.drop_left]; rfl
  | y :: xs, k + 1, x, h => by
    have hk : k < xs.length := by simpa using h
    have ih := flC_set hc xs k x hk
    have hl := flC_len hc xs
    have hle : (k + 1) * n ≤ xs.length * n := Nat.mul_le_mul_right _ hk
    rw [Nat.succ_mul] at hle
    rw [setRowG_at _ _ _ (by rw [flC_len hc, hc, ← Nat.succ_mul]; exact Nat.mul_le_mul_right _ h)]
    rw [setRowG_at _ _ _ (by rw [hl, hc]; omega)] at ih
    rw [List.set_cons_succ, flC, flC, ← ih]
    have e : (k + 1) * n = (c y).length + k * n := by rw [hc, Nat.succ_mul]; omega
    rw [e, List.take_length_add_append, Nat.add_assoc, List.drop_length_add_append]
    simp only [List.append_assoc]
theorem cutD_tail {α:Type} {c:α→List D} {n:Nat} (hc:∀ x,(c x).length=n) (x:α) (xs:List α):cutD (.rows n (x :: xs).length (flC c (x :: xs))) 1 (x :: xs).length = .rows n xs.length (flC c xs):=by
 have hl:=flC_len hc xs
 simp only [cutD,flC,List.length_cons,Nat.add_sub_cancel,Nat.one_mul]
 rw [← hc x,List.drop_left,hc x,List.take_of_length_le (by rw [hl];exact Nat.le_refl _)]
theorem ders_prim (xs : List Der) : ∀ d ∈ flC derC xs, d.prim = true := by
  induction xs with
  | nil => intro d hd; cases hd
  | cons x xs ih =>
    intro d hd
    rw [flC] at hd
    rcases List.mem_append.1 hd with hd | hd
    · simp only [derC, List.mem_cons, List.not_mem_nil, or_false] at hd
      rcases hd with rfl | rfl | rfl | rfl | rfl <;> rfl
    · exact ih d hd
theorem con_ShapesI (code : List Ins) (hl : code.length ≤ 1000000000) : Con Tryz.prog 17 [.one (inssD code)] [.one (shpsD ((shpR code).getD [])), .one (.bool (shpR code).isSome)] := by
  have hA := con_areInstrs code hl
  have hb := okA_of (code := code)
  obtain ⟨R, hR⟩ : ∃ R, R = shpR code := ⟨_, rfl⟩
  rw [← hR]
  unfold shpR at hR
  generalize codeB code = b at *
  simp only [inssD] at hA
  cases b
  case false =>
    rw [if_neg (by simp)] at hR
    subst hR
    refine con_run Tryz.func17 rfl rfl (by simp [Tryz.ntmps17]) ?_
    refine byP (fc inssD.eq_1 Tryz.ntmps17) ?_
    refine sw_call (hA) rfl (aAs_ok ?_) ?_ (sw_run 200 _ _ _ ?_)
    · exact byQ True.intro
    · simp only [okR]
    simp only [push_cast, ↓reduceIte, Nat.reduceLT, Nat.reduceEqDiff, reduceCtorEq, shpsD, flC, Tryz.results17]
  obtain ⟨hok, hlen, hall⟩ := hb rfl
  by_cases h0 : 0 < code.length
  case neg =>
    rw [if_neg (by simp [h0])] at hR
    subst hR
    have hz : code.length = 0 := by omega
    have hzi : ((code.length : Nat) : Int) = 0 := by omega
    refine con_run Tryz.func17 rfl rfl (by simp [Tryz.ntmps17]) ?_
    refine byP (fc inssD.eq_1 Tryz.ntmps17) ?_
    refine sw_call (hA) rfl (aAs_ok ?_) ?_ (sw_run 200 _ _ _ ?_)
    · exact byQ True.intro
    · simp only [okR]
    simp only [push_cast, ↓reduceIte, Nat.reduceLT, Nat.reduceEqDiff, reduceCtorEq, hzi, shpsD, flC, Tryz.results17]
  rw [if_pos ⟨rfl, h0⟩] at hR
  have hgo := (shRes_goI hok).1
  rw [← hR] at hgo
  have hzi : (((code.length : Nat) : Int) = 0) = False := eq_false (by omega)
  have hn1 : (code.length : Int) ≤ 1000000 := by omega
  refine con_run Tryz.func17 rfl rfl (by simp [Tryz.ntmps17]) ?_
  refine byP (fc inssD.eq_1 Tryz.ntmps17) ?_
  refine sw_call (hA) rfl (aAs_ok ?_) ?_ (sw_run 200 _ _ _ ?_)
  · exact byQ True.intro
  · simp only [okR]
  refine byP (fc hzi (fc hn1 flC_zeros)) ?_
  refine sw_loop (fun i : Nat × List Shp × List Der => goI code i.1 i.2.1 i.2.2 = some R ∧ i.2.1.length = code.length ∧ i.1 ≤ 1000 ∧ (∀ d ∈ i.2.2, bdD i.1 d) ∧ (i.2.2.length : Int) ≤ 4 * (1000 - (i.1 : Int)) + 1)
    (fun i => ⟨88, [(0, .br (.rows 2 code.length (flC insC code))), (4, .sl 0), (5, .sl 1)], [], [(0, some ⟨.rows 4 i.2.1.length (flC shpC i.2.1), some 109, true⟩), (1, some ⟨.rows 5 i.2.2.length (flC derC i.2.2), some 111, true⟩)], 2, []⟩)
    (fun i => i.1) (3 * code.length + 2, zeros code.length, [⟨0, s0⟩]) id ⟨hgo, zeros_len _, by simp only; omega, ?_, by simp only [List.length_cons, List.length_nil]; omega⟩ ?_ ?_
  · intro d hd
    simp only [List.mem_singleton] at hd
    subst hd
    exact ⟨⟨by decide, by decide⟩, rfl, by simp only [s0]; omega, by simp only [s0]; omega⟩
  · simp only [push_cast, Sub, subT, subB, subO, subP, inj, AV.ren, AV.lt, ↓reduceIte, Nat.reduceLT, Nat.reduceEqDiff, reduceCtorEq, zeros_len, flC, derC, s0]
  · rintro ⟨f, out, list⟩ ⟨hgo, hol, hf, hbd, hll⟩
    simp only at hgo hol hf hbd hll ⊢
    obtain ⟨f, rfl⟩ : ∃ g, f = g + 1 := by
      cases f with
      | zero => cases hgo
      | succ g => exact ⟨g, rfl⟩
    refine sw_run 200 _ _ _ ?_
    cases list with
    | nil =>
      rw [goI] at hgo
      simp only [Option.some.injEq] at hgo
      subst hgo
      refine byQ ?_
      refine sw_run 200 _ _ _ ?_
      exact byP (fc shpsD.eq_1 Tryz.results17) True.intro
    | cons d r =>
      obtain ⟨hdp, hdk, hdh, hdd⟩ := hbd d (by simp)
      have hpos : (0 : Int) < ((d :: r).length : Int) := by simp only [List.length_cons]; omega
      have hR0 : rowAt 5 (flC derC (d :: r)) 0 = [.int d.p, .bool true, .int d.s.h, .int d.s.d, .int d.s.b] := by
        have := flC_row derC_len (d :: r) 0 (by simp)
        simpa [derC, hdk] using this
      have hcut := cutD_tail derC_len d r
      have hT : dersD (d :: r) = .rows 5 (d :: r).length (flC derC (d :: r)) := rfl
      have hle1 : (1 : Int) ≤ ((d :: r).length : Int) := by omega
      have hll' : (r.length : Int) + 1 ≤ 4 * (1000 - ((f + 1 : Nat) : Int)) + 1 := by simpa using hll
      generalize hls : d :: r = list at *
      refine byP (fc hpos hR0) ?_
      refine sw_cutR 1 rfl rfl ?_ ?_ (sw_run 200 _ _ _ ?_)
      · exact byQ True.intro
      · exact byP hle1 True.intro
      rw [goI_cons hls.symm] at hgo
      have hdp0 := hdp.1
      by_cases h1 : (code.length : Int) ≤ d.p
      · rw [if_pos h1] at hgo
        simp only [Option.some.injEq] at hgo
        subst hgo
        refine byP (fc hcut h1) ?_
        simp only [push_cast, ↓reduceIte, Nat.reduceEqDiff, shpsD, flC, Tryz.results17]
      rw [if_neg h1] at hgo
      have hpk : d.p.toNat < code.length := by omega
      have hpo : d.p < (out.length : Int) := by omega
      have hpc : d.p < (code.length : Int) := by omega
      have hRo := flC_row shpC_len out d.p.toNat (by omega)
      simp only [shpC] at hRo
      have hRc := flC_row insC_len code d.p.toNat hpk
      simp only [insC] at hRc
      have hx := hall _ hpk
      refine byP (fc hcut h1) ?_
      refine sw_drawn (.cons 0 true (.cons 1 true (.cons 2 true (.cons 3 true (.cons 4 true (.cons 5 true (.cons 6 true (.cons 7 true (.cons 8 true (.cons 9 true (.cons 10 true (.cons 11 true (.cons 12 true (.cons 13 true (.cons 14 true (.cons 15 true (.cons 16 true (.nil)))))))))))))))))) (by kernel_rfl) qLp_panic (by kernel_rfl) (sw_run 200 _ _ _ ?_)
      generalize ho : out[d.p.toNat]! = o1 at *
      obtain ⟨ok, oh, od, ob⟩ := o1
      cases ok
      case true =>
        simp only [if_true] at hgo
        by_cases heq : (⟨true, oh, od, ob⟩ : Shp) = d.s
        · rw [if_pos heq] at hgo
          have e1 : (oh = d.s.h) = True := eq_true (by rw [← heq])
          have e2 : (od = d.s.d) = True := eq_true (by rw [← heq])
          have e3 : (ob = d.s.b) = True := eq_true (by rw [← heq])
          refine byP (fc hdp0 (fc hpo (fc hRo (fc e1 (fc e2 e3))))) ?_
          refine ⟨⟨by kernel_rfl, rfl⟩, (f, out, r), rnL [(1, 3)], ⟨hgo, hol, by simp only; omega, fun z hz => (hbd z (by rw [← hls]; simp [hz])).mono, by simp only; omega⟩, by simp only; omega, ?_⟩
          exact byQ True.intro
        · rw [if_neg heq] at hgo
          simp only [Option.some.injEq] at hgo
          subst hgo
          have e4 : (decide (oh = d.s.h) && (decide (od = d.s.d) && decide (ob = d.s.b))) = false := by
            rw [Bool.eq_false_iff]
            intro e
            simp only [Bool.and_eq_true, decide_eq_true_eq] at e
            apply heq
            obtain ⟨dp, dk, dh, dd, db⟩ := d
            simp only at e hdk
            rw [e.1, e.2.1, e.2.2, hdk]
          simp only [push_cast, ↓reduceIte, Nat.reduceLT, Nat.reduceAdd, Nat.reduceEqDiff, reduceCtorEq, hdp0, hpo, hRo, e4, shpsD, flC, Tryz.results17]
          exact ⟨by kernel_rfl, rfl⟩
      case false =>
        simp only [Bool.false_eq_true, if_false] at hgo
        have hM := con_mayStand _ d.s hx
        have hF := con_following d.p _ d.s hx (by omega) (by omega) (by omega)
        simp only [insC, shpC, hdk] at hM hF
        refine byP (fc hdp0 (fc hpo hRo)) ?_
        refine sw_drawn (.cons 0 true (.cons 1 true (.cons 2 true (.cons 3 true (.cons 4 true (.cons 5 true (.cons 6 true (.cons 7 false (.cons 8 true (.cons 9 true (.nil))))))))))) (by kernel_rfl) qLp_panic (by kernel_rfl) (sw_run 200 _ _ _ ?_)
        refine byP (fc hdp0 (fc hpc hRc)) ?_
        refine sw_callD (hM) rfl (aAs_ok ?_) ?_ (sw_run 200 _ _ _ ?_)
        · exact byQ True.intro
        · simp only [okR]
        by_cases hm : mayF code[d.p.toNat]! d.s = true
        case neg =>
          rw [if_neg hm] at hgo
          simp only [Option.some.injEq] at hgo
          subst hgo
          have hm' : mayF code[d.p.toNat]! d.s = false := by simpa using hm
          rw [hm']
          simp only [push_cast, ↓reduceIte, Nat.reduceLT, Nat.reduceEqDiff, reduceCtorEq, shpsD, flC, Tryz.results17]
        rw [if_pos hm] at hgo
        rw [hm]
        have hset := flC_set shpC_len out d.p.toNat d.s (by omega)
        simp only [shpC, hdk, setRowG] at hset
        refine byP (fc hdp0 (fc hpo hset)) ?_
        refine sw_drawn (.cons 0 true (.cons 1 true (.cons 2 true (.cons 3 true (.cons 4 true (.cons 5 true (.cons 6 true (.cons 7 true (.cons 8 true (.cons 9 true (.cons 10 false (.cons 11 false (.cons 12 true (.nil)))))))))))))) (by kernel_rfl) qLp_panic (by kernel_rfl) (sw_run 200 _ _ _ ?_)
        refine byP (fc hdp0 (fc hpc hRc)) ?_
        simp only [dersD] at hF
        refine sw_callD (hF) rfl (aAs_ok ?_) ?_ (sw_run 200 _ _ _ ?_)
        · exact byQ True.intro
        · simp only [okR]
        have hfl := folI_len d.p code[d.p.toNat]! d.s
        refine byQ ?_
        refine ⟨⟨fun _ => ders_prim _, fun _ _ => trivial, by unfold maxLen; omega, by omega⟩, (f, out.set d.p.toNat d.s, r ++ folI d.p code[d.p.toNat]! d.s), rnL [(1, 5)], ⟨hgo, by simp only [List.length_set]; exact hol, by simp only; omega, fun z hz => ?_, by simp only [List.length_append]; omega⟩, by simp only; omega, ?_⟩
        · rcases List.mem_append.1 hz with hz | hz
          · exact (hbd z (by rw [← hls]; simp [hz])).mono
          · exact fol_bd (by omega) hx ⟨hdp, hdk, hdh, hdd⟩ (by omega) z hz
        · simp only [push_cast, Sub, subT, subB, subO, subP, inj, AV.ren, AV.lt, ↓reduceIte, Nat.reduceLT, Nat.reduceEqDiff, reduceCtorEq, rnL, List.length_set, List.length_append, flC_app]
end Go.Proofs.YtaidalilfmjfgaaGreat
