import Derived.Test.YtaidalilfmjfgaaGreatVmF
import Derived.Test.YtaidalilfmjfgaaGreatBy
namespace Go.Proofs.YtaidalilfmjfgaaGreat
open Go.RowKit
set_option linter.unusedVariables false
set_option linter.unusedSimpArgs false
theorem rowS1 (a:Vl):rowAt 4 (vlS a) 0=vlS a:=by
 unfold rowAt
 rw [Nat.zero_mul,List.drop_zero,List.take_of_length_le (by rw [vlS_len];exact Nat.le_refl _)]
theorem rowS2a (a b:Vl):rowAt 4 (vlS a++vlS b) 0=vlS a:=by
 unfold rowAt
 rw [Nat.zero_mul,List.drop_zero,List.take_append_of_le_length (by rw [vlS_len];exact Nat.le_refl _),List.take_of_length_le (by rw [vlS_len];exact Nat.le_refl _)]
theorem rowS2b (a b:Vl):rowAt 4 (vlS a++vlS b) 1=vlS b:=by
 unfold rowAt
 rw [Nat.one_mul,← vlS_len a,List.drop_left' rfl,vlS_len,List.take_of_length_le (by rw [vlS_len];exact Nat.le_refl _)]
theorem cutS_top (m:Mch) (k:Nat):cutD (.rows 4 m.st.length (flC vlS m.st)) (m.st.length-k) m.st.length = .rows 4 (topM m k).length (flC vlS (topM m k)):=by
 rw [cut_flC vlS_len,top_len]
 unfold topM
 rw [List.take_of_length_le (by rw [List.length_drop];exact Nat.le_refl _)]
theorem cutS_pop (m:Mch) (k:Nat):cutD (.rows 4 m.st.length (flC vlS m.st)) 0 (m.st.length-k) = .rows 4 (popM m k).st.length (flC vlS (popM m k).st):=by
 rw [cut_flC vlS_len,pop_len,List.drop_zero,Nat.sub_zero];rfl
set_option maxRecDepth 20000 in
theorem con_pushS (m:Mch) (s:Int) (v:Vl) (hl:m.st.length≤100000):ConP Tryz.prog 154 [.p (mcS m s),.g (vlQ v)] [mcS (pushM m v) s] []:=by
 have e1:=vlS_eq v
 unfold pushM mcS vlQ
 rw [flC_app,flC_one,e1,List.length_append,List.length_singleton]
 refine con_runPF [5] Tryz.func154 rfl rfl (by simp [Tryz.ntmps154]) rfl ?_
 refine byP Tryz.ntmps154 ?_
 refine sw_drawn (.cons 0 true (.cons 2 true (.cons 3 true (.cons 4 true (.cons 5 true (.fork (.alt 1 (.fork (.alt 6 (.cons 7 true (.cons 8 false (.cons 9 false (.cons 10 true (.cons 11 true (.cons 12 false (.nil))))))) (.alt 7 (.fork (.alt 6 (.cons 8 false (.cons 9 false (.cons 10 true (.cons 11 true (.cons 12 false (.nil)))))) (.alt 8 (.cons 6 false (.cons 9 false (.cons 10 true (.cons 11 true (.cons 12 false (.nil)))))) (.last)))) (.last)))) (.alt 7 (.fork (.alt 1 (.fork (.alt 6 (.cons 8 false (.cons 9 false (.cons 10 true (.cons 11 true (.cons 12 false (.nil)))))) (.alt 8 (.cons 6 false (.cons 9 false (.cons 10 true (.cons 11 true (.cons 12 false (.nil)))))) (.last)))) (.alt 8 (.cons 1 false (.cons 6 false (.cons 9 false (.cons 10 true (.cons 11 true (.cons 12 false (.nil))))))) (.last)))) (.last))))))))) (by kernel_rfl) fQF_panic (by kernel_rfl) (sw_run 200 _ _ _ ?_)
 refine byP Tryz.results154 ?_
 (try repeat' (with_reducible apply And.intro))
 all_goals first | (intro o h;first | trivial | (intro h2;omega) | omega) | (unfold maxLen;omega) | (unfold inI;omega) | omega | trivial
set_option maxRecDepth 10000 in
theorem con_popS0 (m:Mch) (k:Nat) (hl:m.st.length≤100000) (hk:k≤2) (h:m.st.length<k):ConP Tryz.prog 227 [.p (mcS m 0),.b (.one (.int (k:Int)))] [mcS m 4] [.one (.r (.rows 4 0 [])),.one (.o (.bool false))]:=by
 have h1:(m.st.length:Int)<(k:Int):=by omega
 unfold mcS
 refine con_runPF [1] Tryz.func227 rfl rfl (by simp [Tryz.ntmps227]) rfl ?_
 exact byP (fc h1 (fc Tryz.ntmps227 Tryz.results227)) True.intro
set_option maxRecDepth 10000 in
theorem con_popS1 (m:Mch) (k:Nat) (hl:m.st.length≤100000) (hk:k≤2) (h:k≤m.st.length):ConP Tryz.prog 227 [.p (mcS m 0),.b (.one (.int (k:Int)))] [mcS (popM m k) 0] [.one (.r (.rows 4 (topM m k).length (flC vlS (topM m k)))),.one (.o (.bool true))]:=by
 have h0:(m.st.length:Int)-(k:Int)=((m.st.length-k:Nat):Int):=by omega
 have h1:¬ (m.st.length:Int)<(k:Int):=by omega
 have h2:inI ((m.st.length-k:Nat):Int):=by unfold inI;omega
 have h3:((m.st.length-k:Nat):Int)≤(m.st.length:Int):=by omega
 have h4:(popM m k).pc=m.pc:=rfl
 have h5:(popM m k).nm=m.nm:=rfl
 have h6:(popM m k).fr=m.fr:=rfl
 have h7:=top_len m k
 have h8:=pop_len m k
 unfold mcS
 rw [h4,h5,h6]
 refine con_runPF [2,4] Tryz.func227 rfl rfl (by simp [Tryz.ntmps227]) rfl ?_
 refine byP (fc h1 Tryz.ntmps227) ?_
 refine sw_drawn (.cons 1 true (.cons 2 true (.cons 3 true (.cons 4 true (.cons 5 true (.cons 6 true (.cons 7 true (.cons 8 true (.cons 9 true (.cons 10 true (.cons 11 true (.cons 12 true (.cons 0 false (.cons 13 false (.cons 14 true (.nil)))))))))))))))) (by kernel_rfl) fQF_panic (by kernel_rfl) (sw_run 200 _ _ _ ?_)
 refine byP (fc h0 (fc h2 (fc h3 cutS_top))) ?_
 refine ⟨⟨fun _ _=>trivial,by unfold maxLen;omega,by omega⟩, ?_⟩
 refine sw_drawn (.cons 0 true (.cons 2 true (.cons 3 true (.cons 4 true (.cons 5 true (.cons 6 true (.cons 7 true (.cons 8 true (.cons 9 true (.cons 10 true (.cons 11 true (.cons 12 true (.cons 13 true (.cons 1 false (.cons 14 false (.cons 15 true (.cons 16 true (.cons 17 false (.nil))))))))))))))))))) (by kernel_rfl) fQF_panic (by kernel_rfl) (sw_run 200 _ _ _ ?_)
 refine byP (fc h0 (fc h2 (fc h3 (fc cutS_pop Tryz.results227)))) ?_
 (try repeat' (with_reducible apply And.intro))
 all_goals first | (intro o h;first | trivial | (intro h2;omega) | omega) | (unfold maxLen;omega) | (unfold inI;omega) | omega | trivial
set_option maxRecDepth 10000 in
theorem con_opS (m : Mch) (a : Int) (hl : m.st.length ≤ 100000) (ha8 : 1 ≤ a ∧ a ≤ 8) : ConP Tryz.prog 156 [.p (mcS m 0), .b (.one (.int a))] [mcS (opM m (opB a)).2 (opM m (opB a)).1] [] := by
  have hN := con_OpNameS a ha8
  have hs : opAr (opB a) = 1 ∨ opAr (opB a) = 2 := by rw [op_pop ha8]; split <;> simp
  generalize opB a = s at *
  have hO := con_OpArS s
  have hk : opAr s = ((opAr s).toNat : Int) := by omega
  rw [hk] at hO
  obtain ⟨k, hkk⟩ : ∃ k, k = (opAr s).toNat := ⟨_, rfl⟩
  unfold opM
  rw [← hkk] at hO ⊢
  by_cases h4 : m.st.length < k
  · rw [if_pos h4]
    have hP := con_popS0 m k hl (by omega) h4
    unfold mcS at hP ⊢
    simp only
    refine con_runP Tryz.func156 rfl rfl (by simp [Tryz.ntmps156]) rfl ?_
    simp only [push_cast, s0P, mkPs, mkPA, mkC, ↓reduceIte, Nat.reduceLT, Tryz.ntmps156]
    refine sw_call (hN) rfl (aAs_ok ?_) ?_ (sw_run 200 _ _ _ ?_)
    · simp only [push_cast, aAs, aA, aD, ↓reduceIte]
    · simp only [okR]
    simp only [push_cast, ↓reduceIte, Nat.reduceLT]
    refine sw_call (hO) rfl (aAs_ok ?_) ?_ (sw_run 200 _ _ _ ?_)
    · simp only [push_cast, aAs, aA, aD, ↓reduceIte]
    · simp only [okR]
    simp only [push_cast, ↓reduceIte, Nat.reduceLT, Nat.reduceEqDiff, reduceCtorEq]
    refine sw_callPR (hP) rfl rfl rfl ?_ ?_ ?_ (sw_run 200 _ _ _ ?_)
    · simp only [push_cast, rC, rCs, AS.em, mPs, mP, aA, aD, ↓reduceIte, Nat.reduceEqDiff]
    · simp only [push_cast, eC, eCs, ePs, eP, ↓reduceIte, Nat.reduceEqDiff]
    · simp only [push_cast, bPs, bP, ↓reduceIte, Nat.reduceEqDiff]
    simp only [push_cast, mkC, fQP, xRetP, rRs, rOs, rC, rCs, eRs, eOs, eC, eCs, aftS, aftV, AS.kb, rmBs, rmB, mkO, packRA, flatR, ePs, eP, bPs, bP, aD, ↓reduceIte, Nat.reduceLT, Nat.reduceEqDiff, reduceCtorEq, Tryz.results156]
  rw [if_neg h4]
  have hP := con_popS1 m k hl (by omega) (by omega)
  obtain ⟨m1, hm1⟩ : ∃ m1, m1 = popM m k := ⟨_, rfl⟩
  obtain ⟨tp, htp⟩ : ∃ tp, tp = topM m k := ⟨_, rfl⟩
  have htl : tp.length = k := by rw [htp, top_len]; omega
  have hml : m1.st.length ≤ 100000 := by rw [hm1, pop_len]; omega
  rw [← hm1, ← htp] at hP ⊢
  clear hm1 htp h4
  have hA := con_ApplyS s
  have mn : ∀ v : Vl, v.f = false → v.m = v.n := fun v hv => by cases v <;> first | rfl | cases hv
  rcases hs with h1 | h2
  · have hk1 : k = 1 := by rw [hkk, h1]; rfl
    subst hk1
    rw [vc1] at hO hP
    rw [list_one htl] at hP ⊢
    generalize tp[0]! = a at hP ⊢
    have e1 := vlS_eq a
    have hr := rowS1 a
    have e0 : [a][0]! = a := rfl
    simp only [flC_one, List.length_singleton] at hP
    have hn2 : ¬ opAr s = 2 := by omega
    simp only [List.any_cons, List.any_nil, Bool.or_false, hn2, if_false, e0]
    cases ha : a.f with
    | true =>
      rw [if_pos rfl]
      unfold mcS at hP ⊢
      simp only
      simp only [e1, ha] at hr hP
      refine con_runP Tryz.func156 rfl rfl (by simp [Tryz.ntmps156]) rfl ?_
      simp only [push_cast, s0P, mkPs, mkPA, mkC, ↓reduceIte, Nat.reduceLT, Tryz.ntmps156]
      refine sw_call (hN) rfl (aAs_ok ?_) ?_ (sw_run 200 _ _ _ ?_)
      · simp only [push_cast, aAs, aA, aD, ↓reduceIte]
      · simp only [okR]
      simp only [push_cast, ↓reduceIte, Nat.reduceLT]
      refine sw_call (hO) rfl (aAs_ok ?_) ?_ (sw_run 200 _ _ _ ?_)
      · simp only [push_cast, aAs, aA, aD, ↓reduceIte]
      · simp only [okR]
      simp only [push_cast, ↓reduceIte, Nat.reduceLT, Nat.reduceEqDiff, reduceCtorEq]
      refine sw_callPR (hP) rfl rfl rfl ?_ ?_ ?_ (sw_run 200 _ _ _ ?_)
      · simp only [push_cast, rC, rCs, AS.em, mPs, mP, aA, aD, ↓reduceIte, Nat.reduceEqDiff]
      · simp only [push_cast, eC, eCs, ePs, eP, ↓reduceIte, Nat.reduceEqDiff]
      · simp only [push_cast, bPs, bP, ↓reduceIte, Nat.reduceEqDiff]
      simp only [push_cast, mkC, eC, eCs, aftS, aftV, AS.kb, rmBs, rmB, mkO, packRA, flatR, ePs, eP, bPs, bP, ↓reduceIte, Nat.reduceLT, Nat.reduceAdd, Nat.reduceLeDiff, Nat.reduceEqDiff]
      refine sw_rounds 2 (sw_run 200 _ _ _ ?_)
      simp only [push_cast, fQP, xRetP, rRs, rOs, rC, rCs, eRs, eOs, eC, eCs, aD, ↓reduceIte, Nat.reduceLT, Nat.reduceAdd, Nat.reduceEqDiff, reduceCtorEq, Int.reduceLT, hr, vc1, qR_ret, Tryz.results156]
    | false =>
      rw [if_neg (by simp)]
      have hU := con_pushS m1 0 (.num (apV s a.n 0)) hml
      rw [mn a ha] at e1
      unfold mcS at hP hU ⊢
      unfold vlQ at hU
      simp only [nm_m, nm_f, nm_r, nm_c, List.length_nil, flC] at hU ⊢
      simp only [e1, ha] at hr hP
      refine con_runP Tryz.func156 rfl rfl (by simp [Tryz.ntmps156]) rfl ?_
      simp only [push_cast, s0P, mkPs, mkPA, mkC, ↓reduceIte, Nat.reduceLT, Tryz.ntmps156]
      refine sw_call (hN) rfl (aAs_ok ?_) ?_ (sw_run 200 _ _ _ ?_)
      · simp only [push_cast, aAs, aA, aD, ↓reduceIte]
      · simp only [okR]
      simp only [push_cast, ↓reduceIte, Nat.reduceLT]
      refine sw_call (hO) rfl (aAs_ok ?_) ?_ (sw_run 200 _ _ _ ?_)
      · simp only [push_cast, aAs, aA, aD, ↓reduceIte]
      · simp only [okR]
      simp only [push_cast, ↓reduceIte, Nat.reduceLT, Nat.reduceEqDiff, reduceCtorEq]
      refine sw_callPR (hP) rfl rfl rfl ?_ ?_ ?_ (sw_run 200 _ _ _ ?_)
      · simp only [push_cast, rC, rCs, AS.em, mPs, mP, aA, aD, ↓reduceIte, Nat.reduceEqDiff]
      · simp only [push_cast, eC, eCs, ePs, eP, ↓reduceIte, Nat.reduceEqDiff]
      · simp only [push_cast, bPs, bP, ↓reduceIte, Nat.reduceEqDiff]
      simp only [push_cast, mkC, eC, eCs, aftS, aftV, AS.kb, rmBs, rmB, mkO, packRA, flatR, ePs, eP, bPs, bP, ↓reduceIte, Nat.reduceLT, Nat.reduceAdd, Nat.reduceLeDiff, Nat.reduceEqDiff]
      refine sw_rounds 2 (sw_run 200 _ _ _ ?_)
      simp only [push_cast, ↓reduceIte, Nat.reduceLT, Nat.reduceEqDiff, Int.reduceLT, Int.reduceAdd, hr, vc1, vc2, in1, qR_normal]
      refine sw_run 200 _ _ _ ?_
      simp only [push_cast, ↓reduceIte, Nat.reduceLT, Nat.reduceEqDiff, Int.reduceLT, qR_exit]
      refine sw_run 200 _ _ _ ?_
      simp only [push_cast, ↓reduceIte]
      refine sw_drawn (.cons 0 true (.cons 2 true (.cons 3 true (.cons 4 true (.cons 5 true (.cons 6 true (.cons 7 true (.cons 1 false (.cons 8 false (.cons 9 true (.cons 10 true (.cons 11 true (.cons 12 true (.cons 13 true (.nil))))))))))))))) (by kernel_rfl) fQP_panic (by kernel_rfl) (sw_run 200 _ _ _ ?_)
      simp only [push_cast, ↓reduceIte, Nat.reduceLT, Nat.reduceEqDiff, Int.reduceLT, Int.reduceLE, vc2, rowAt]
      refine sw_callD (hN) rfl (aAs_ok ?_) ?_ (sw_run 200 _ _ _ ?_)
      · simp only [push_cast, aAs, aA, aD, ↓reduceIte, Nat.reduceEqDiff]
      · simp only [okR]
      simp only [push_cast, ↓reduceIte, Nat.reduceLT]
      refine sw_callD (hA a.n 0) rfl (aAs_ok ?_) ?_ (sw_run 200 _ _ _ ?_)
      · simp only [push_cast, aAs, aA, aD, ↓reduceIte, Nat.reduceEqDiff]
      · simp only [okR]
      simp only [push_cast, ↓reduceIte, Nat.reduceLT, Nat.reduceAdd, Nat.reduceLeDiff, Nat.reduceEqDiff, reduceCtorEq]
      refine sw_callPR (hU) rfl rfl rfl ?_ ?_ ?_ (sw_run 200 _ _ _ ?_)
      · simp only [push_cast, rC, rCs, AS.em, mPs, mP, aD, ↓reduceIte, Nat.reduceEqDiff]
      · simp only [push_cast, eC, eCs, ePs, eP, ↓reduceIte, Nat.reduceEqDiff]
      · simp only [push_cast, bPs, bP, ↓reduceIte, Nat.reduceEqDiff]
      simp only [push_cast, mkC, fQP, xRetP, rRs, rOs, rC, rCs, eRs, eOs, eC, eCs, aftS, aftV, AS.kb, rmBs, rmB, mkO, packRA, flatR, ePs, eP, bPs, bP, aD, ↓reduceIte, Nat.reduceLT, Nat.reduceEqDiff, reduceCtorEq, Tryz.results156]
  · have hk2 : k = 2 := by rw [hkk, h2]; rfl
    subst hk2
    rw [vc2] at hO hP
    rw [list_two htl] at hP ⊢
    generalize tp[0]! = a at hP ⊢
    generalize tp[1]! = b at hP ⊢
    have e1 := vlS_eq a
    have e2 := vlS_eq b
    have hr := rowS2a a b
    have hr2 := rowS2b a b
    have e0 : [a, b][0]! = a := rfl
    have e00 : [a, b][1]! = b := rfl
    have ef : flC vlS [a, b] = vlS a ++ vlS b := by simp only [flC, List.append_nil]
    rw [ef] at hP
    simp only [List.length_cons, List.length_nil, Nat.zero_add, Nat.reduceAdd] at hP
    simp only [List.any_cons, List.any_nil, Bool.or_false, h2, if_true, e0, e00]
    cases ha : a.f with
    | true =>
      rw [if_pos (by simp)]
      unfold mcS at hP ⊢
      simp only
      simp only [e1, e2, ha, List.cons_append, List.nil_append] at hr hr2 hP
      refine con_runP Tryz.func156 rfl rfl (by simp [Tryz.ntmps156]) rfl ?_
      simp only [push_cast, s0P, mkPs, mkPA, mkC, ↓reduceIte, Nat.reduceLT, Tryz.ntmps156]
      refine sw_call (hN) rfl (aAs_ok ?_) ?_ (sw_run 200 _ _ _ ?_)
      · simp only [push_cast, aAs, aA, aD, ↓reduceIte]
      · simp only [okR]
      simp only [push_cast, ↓reduceIte, Nat.reduceLT]
      refine sw_call (hO) rfl (aAs_ok ?_) ?_ (sw_run 200 _ _ _ ?_)
      · simp only [push_cast, aAs, aA, aD, ↓reduceIte]
      · simp only [okR]
      simp only [push_cast, ↓reduceIte, Nat.reduceLT, Nat.reduceEqDiff, reduceCtorEq]
      refine sw_callPR (hP) rfl rfl rfl ?_ ?_ ?_ (sw_run 200 _ _ _ ?_)
      · simp only [push_cast, rC, rCs, AS.em, mPs, mP, aA, aD, ↓reduceIte, Nat.reduceEqDiff]
      · simp only [push_cast, eC, eCs, ePs, eP, ↓reduceIte, Nat.reduceEqDiff]
      · simp only [push_cast, bPs, bP, ↓reduceIte, Nat.reduceEqDiff]
      simp only [push_cast, mkC, eC, eCs, aftS, aftV, AS.kb, rmBs, rmB, mkO, packRA, flatR, ePs, eP, bPs, bP, ↓reduceIte, Nat.reduceLT, Nat.reduceAdd, Nat.reduceLeDiff, Nat.reduceEqDiff]
      refine sw_rounds 2 (sw_run 200 _ _ _ ?_)
      simp only [push_cast, fQP, xRetP, rRs, rOs, rC, rCs, eRs, eOs, eC, eCs, aD, ↓reduceIte, Nat.reduceLT, Nat.reduceAdd, Nat.reduceEqDiff, reduceCtorEq, Int.reduceLT, hr, vc2, qR_ret, Tryz.results156]
    | false =>
      rw [mn a ha] at e1
      cases hb : b.f with
      | true =>
        rw [if_pos (by simp)]
        unfold mcS at hP ⊢
        simp only
        simp only [e1, e2, ha, hb, List.cons_append, List.nil_append] at hr hr2 hP
        refine con_runP Tryz.func156 rfl rfl (by simp [Tryz.ntmps156]) rfl ?_
        simp only [push_cast, s0P, mkPs, mkPA, mkC, ↓reduceIte, Nat.reduceLT, Tryz.ntmps156]
        refine sw_call (hN) rfl (aAs_ok ?_) ?_ (sw_run 200 _ _ _ ?_)
        · simp only [push_cast, aAs, aA, aD, ↓reduceIte]
        · simp only [okR]
        simp only [push_cast, ↓reduceIte, Nat.reduceLT]
        refine sw_call (hO) rfl (aAs_ok ?_) ?_ (sw_run 200 _ _ _ ?_)
        · simp only [push_cast, aAs, aA, aD, ↓reduceIte]
        · simp only [okR]
        simp only [push_cast, ↓reduceIte, Nat.reduceLT, Nat.reduceEqDiff, reduceCtorEq]
        refine sw_callPR (hP) rfl rfl rfl ?_ ?_ ?_ (sw_run 200 _ _ _ ?_)
        · simp only [push_cast, rC, rCs, AS.em, mPs, mP, aA, aD, ↓reduceIte, Nat.reduceEqDiff]
        · simp only [push_cast, eC, eCs, ePs, eP, ↓reduceIte, Nat.reduceEqDiff]
        · simp only [push_cast, bPs, bP, ↓reduceIte, Nat.reduceEqDiff]
        simp only [push_cast, mkC, eC, eCs, aftS, aftV, AS.kb, rmBs, rmB, mkO, packRA, flatR, ePs, eP, bPs, bP, ↓reduceIte, Nat.reduceLT, Nat.reduceAdd, Nat.reduceLeDiff, Nat.reduceEqDiff]
        refine sw_rounds 2 (sw_run 200 _ _ _ ?_)
        simp only [push_cast, ↓reduceIte, Nat.reduceLT, Nat.reduceEqDiff, Int.reduceLT, Int.reduceAdd, hr, vc2, in1, qR_normal]
        refine sw_run 200 _ _ _ ?_
        simp only [push_cast, fQP, xRetP, rRs, rOs, rC, rCs, eRs, eOs, eC, eCs, aD, ↓reduceIte, Nat.reduceLT, Nat.reduceAdd, Nat.reduceEqDiff, reduceCtorEq, Int.reduceLT, Int.reduceLE, hr2, vc2, qR_ret, Tryz.results156]
      | false =>
        rw [if_neg (by simp)]
        rw [mn b hb] at e2
        have hU := con_pushS m1 0 (.num (apV s a.n b.n)) hml
        unfold mcS at hP hU ⊢
        unfold vlQ at hU
        simp only [nm_m, nm_f, nm_r, nm_c, List.length_nil, flC] at hU ⊢
        simp only [e1, e2, ha, hb, List.cons_append, List.nil_append] at hr hr2 hP
        refine con_runP Tryz.func156 rfl rfl (by simp [Tryz.ntmps156]) rfl ?_
        simp only [push_cast, s0P, mkPs, mkPA, mkC, ↓reduceIte, Nat.reduceLT, Tryz.ntmps156]
        refine sw_call (hN) rfl (aAs_ok ?_) ?_ (sw_run 200 _ _ _ ?_)
        · simp only [push_cast, aAs, aA, aD, ↓reduceIte]
        · simp only [okR]
        simp only [push_cast, ↓reduceIte, Nat.reduceLT]
        refine sw_call (hO) rfl (aAs_ok ?_) ?_ (sw_run 200 _ _ _ ?_)
        · simp only [push_cast, aAs, aA, aD, ↓reduceIte]
        · simp only [okR]
        simp only [push_cast, ↓reduceIte, Nat.reduceLT, Nat.reduceEqDiff, reduceCtorEq]
        refine sw_callPR (hP) rfl rfl rfl ?_ ?_ ?_ (sw_run 200 _ _ _ ?_)
        · simp only [push_cast, rC, rCs, AS.em, mPs, mP, aA, aD, ↓reduceIte, Nat.reduceEqDiff]
        · simp only [push_cast, eC, eCs, ePs, eP, ↓reduceIte, Nat.reduceEqDiff]
        · simp only [push_cast, bPs, bP, ↓reduceIte, Nat.reduceEqDiff]
        simp only [push_cast, mkC, eC, eCs, aftS, aftV, AS.kb, rmBs, rmB, mkO, packRA, flatR, ePs, eP, bPs, bP, ↓reduceIte, Nat.reduceLT, Nat.reduceAdd, Nat.reduceLeDiff, Nat.reduceEqDiff]
        refine sw_rounds 2 (sw_run 200 _ _ _ ?_)
        simp only [push_cast, ↓reduceIte, Nat.reduceLT, Nat.reduceEqDiff, Int.reduceLT, Int.reduceAdd, hr, vc2, in1, qR_normal]
        refine sw_run 200 _ _ _ ?_
        simp only [push_cast, ↓reduceIte, Nat.reduceLT, Nat.reduceEqDiff, Int.reduceLT, Int.reduceLE, Int.reduceAdd, hr2, vc2, in2, qR_normal]
        refine sw_run 200 _ _ _ ?_
        simp only [push_cast, ↓reduceIte, Nat.reduceLT, Nat.reduceEqDiff, Int.reduceLT, qR_exit]
        refine sw_run 200 _ _ _ ?_
        simp only [push_cast, ↓reduceIte]
        refine sw_drawn (.cons 0 true (.cons 2 true (.cons 3 true (.cons 4 true (.cons 5 true (.cons 6 true (.cons 7 true (.cons 1 false (.cons 8 false (.cons 9 true (.cons 10 true (.cons 11 true (.cons 12 true (.cons 13 true (.nil))))))))))))))) (by kernel_rfl) fQP_panic (by kernel_rfl) (sw_run 200 _ _ _ ?_)
        simp only [push_cast, ↓reduceIte, Nat.reduceLT, Nat.reduceEqDiff, Int.reduceLT, Int.reduceLE, vc2, rowAt]
        refine sw_callD (hN) rfl (aAs_ok ?_) ?_ (sw_run 200 _ _ _ ?_)
        · simp only [push_cast, aAs, aA, aD, ↓reduceIte, Nat.reduceEqDiff]
        · simp only [okR]
        simp only [push_cast, ↓reduceIte, Nat.reduceLT]
        refine sw_callD (hA a.n b.n) rfl (aAs_ok ?_) ?_ (sw_run 200 _ _ _ ?_)
        · simp only [push_cast, aAs, aA, aD, ↓reduceIte, Nat.reduceEqDiff]
        · simp only [okR]
        simp only [push_cast, ↓reduceIte, Nat.reduceLT, Nat.reduceAdd, Nat.reduceLeDiff, Nat.reduceEqDiff, reduceCtorEq]
        refine sw_callPR (hU) rfl rfl rfl ?_ ?_ ?_ (sw_run 200 _ _ _ ?_)
        · simp only [push_cast, rC, rCs, AS.em, mPs, mP, aD, ↓reduceIte, Nat.reduceEqDiff]
        · simp only [push_cast, eC, eCs, ePs, eP, ↓reduceIte, Nat.reduceEqDiff]
        · simp only [push_cast, bPs, bP, ↓reduceIte, Nat.reduceEqDiff]
        simp only [push_cast, mkC, fQP, xRetP, rRs, rOs, rC, rCs, eRs, eOs, eC, eCs, aftS, aftV, AS.kb, rmBs, rmB, mkO, packRA, flatR, ePs, eP, bPs, bP, aD, ↓reduceIte, Nat.reduceLT, Nat.reduceEqDiff, reduceCtorEq, Tryz.results156]
def varM (m:Mch) (a:Int):Int × Mch:=if m.nm.length≤a.toNat then (4,m) else (0,pushM m (m.nm[m.nm.length-1-a.toNat]!))
def unlM (m:Mch) (a:Int):Int × Mch:=if m.st.length<1 then (4,m) else if ((topM m 1)[0]!).f=true then (3,popM m 1) else if ((topM m 1)[0]!).n=0 then (0,pcM (popM m 1) a) else (0,popM m 1)
def bndM (m:Mch):Int × Mch:=if m.st.length<1 then (4,m) else (0,nmM (popM m 1) (m.nm++[(topM m 1)[0]!]))
def unbM (m:Mch):Int × Mch:=if m.nm.length=0 then (4,m) else (0,nmM m (m.nm.take (m.nm.length-1)))
theorem mn_eq {v:Vl} (h:v.f=false):v.m=v.n:=by cases v <;> first | rfl | cases h
theorem mp_eq {v:Vl} (h:v.f=true):v.m=v.p:=by cases v <;> first | rfl | cases h
set_option maxRecDepth 20000 in
theorem con_varS (m:Mch) (a:Int) (hm:SzM m) (ha:0≤a∧a≤299):ConP Tryz.prog 155 [.p (mcS m 0),.b (.one (.int a))] [mcS (varM m a).2 (varM m a).1] []:=by
 have hst:=hm.st
 have hnm:=hm.nm
 unfold varM
 by_cases h:m.nm.length≤a.toNat
 ·rw [if_pos h]
  have h':(m.nm.length:Int)≤a:=by omega
  unfold mcS
  refine con_runP Tryz.func155 rfl rfl (by simp [Tryz.ntmps155]) rfl ?_
  exact byP (fc h' (fc Tryz.ntmps155 Tryz.results155)) True.intro
 ·rw [if_neg h]
  have h':¬ (m.nm.length:Int)≤a:=by omega
  have g0:(m.nm.length:Int)-1-a=((m.nm.length-1-a.toNat:Nat):Int):=by omega
  have g1:inI ((m.nm.length:Int)-1):=by unfold inI;omega
  have g2:inI ((m.nm.length-1-a.toNat:Nat):Int):=by unfold inI;omega
  have g3:((m.nm.length-1-a.toNat:Nat):Int)<(m.nm.length:Int):=by omega
  have hR:=flC_row vlS_len m.nm (m.nm.length-1-a.toNat) (by omega)
  generalize m.nm[m.nm.length-1-a.toNat]! = v at hR ⊢
  rw [vlS_eq] at hR
  have hU:=con_pushS m 0 v (by omega)
  unfold mcS vlQ at hU
  unfold mcS
  simp only at hU ⊢
  refine con_runP Tryz.func155 rfl rfl (by simp [Tryz.ntmps155]) rfl ?_
  refine byP (fc h' Tryz.ntmps155) ?_
  refine sw_drawn (.cons 0 true (.cons 1 true (.cons 2 true (.cons 3 true (.cons 4 true (.cons 5 true (.cons 6 true (.cons 7 true (.cons 8 true (.cons 9 true (.cons 10 true (.cons 11 true (.cons 12 true (.cons 13 true (.cons 14 true (.cons 15 false (.nil))))))))))))))))) (by kernel_rfl) fQP_panic (by kernel_rfl) (sw_run 200 _ _ _ ?_)
  refine byP (fc g0 (fc g1 (fc g2 (fc g3 hR)))) ?_
  refine sw_callDPR (cap:=[]) (hU) rfl rfl rfl ?_ ?_ ?_ rfl (sw_run 200 _ _ _ ?_)
  ·exact byQ True.intro
  ·exact byQ True.intro
  ·exact byQ True.intro
  exact byP Tryz.results155 True.intro
set_option maxRecDepth 20000 in
theorem con_unlS (m : Mch) (a : Int) (hl : m.st.length ≤ 90000) : ConP Tryz.prog 157 [.p (mcS m 0), .b (.one (.int a))] [mcS (unlM m a).2 (unlM m a).1] [] := by
  unfold unlM
  have hst := hl
  by_cases h : m.st.length < 1
  · rw [if_pos h]
    have hP := con_popS0 m 1 (by omega) (by omega) h
    rw [vc1] at hP
    unfold mcS at hP ⊢
    refine con_runP Tryz.func157 rfl rfl (by simp [Tryz.ntmps157]) rfl ?_
    refine byP Tryz.ntmps157 ?_
    refine sw_callPR (hP) rfl rfl rfl ?_ ?_ ?_ (sw_run 200 _ _ _ ?_)
    · exact byQ True.intro
    · exact byQ True.intro
    · exact byQ True.intro
    exact byP Tryz.results157 True.intro
  rw [if_neg h]
  have hP := con_popS1 m 1 (by omega) (by omega) (by omega)
  rw [vc1] at hP
  obtain ⟨tp, htp⟩ : ∃ tp, tp = topM m 1 := ⟨_, rfl⟩
  have htl : tp.length = 1 := by rw [htp, top_len]; omega
  rw [← htp] at hP ⊢
  rw [list_one htl] at hP ⊢
  generalize tp[0]! = v at hP ⊢
  have e0 : [v][0]! = v := rfl
  rw [e0]
  have hr := rowS1 v
  have e1 := vlS_eq v
  simp only [flC_one, List.length_singleton] at hP
  have pp : (popM m 1).pc = m.pc := rfl
  have pn : (popM m 1).nm = m.nm := rfl
  have pf : (popM m 1).fr = m.fr := rfl
  cases hv : v.f with
  | true =>
    rw [if_pos rfl]
    simp only [e1, hv] at hr hP
    unfold mcS at hP ⊢
    refine con_runP Tryz.func157 rfl rfl (by simp [Tryz.ntmps157]) rfl ?_
    refine byP Tryz.ntmps157 ?_
    refine sw_callPR (hP) rfl rfl rfl ?_ ?_ ?_ (sw_run 200 _ _ _ ?_)
    · exact byQ True.intro
    · exact byQ True.intro
    · exact byQ True.intro
    exact byP (fc hr (fc vc1 Tryz.results157)) True.intro
  | false =>
    rw [if_neg (by simp)]
    rw [mn_eq hv] at e1
    simp only [e1, hv] at hr hP
    by_cases hz : v.n = 0
    · rw [if_pos hz]
      simp only [hz] at hr hP
      unfold mcS at hP ⊢
      simp only [pcM]
      refine con_runP Tryz.func157 rfl rfl (by simp [Tryz.ntmps157]) rfl ?_
      refine byP Tryz.ntmps157 ?_
      refine sw_callPR (hP) rfl rfl rfl ?_ ?_ ?_ (sw_run 200 _ _ _ ?_)
      · exact byQ True.intro
      · exact byQ True.intro
      · exact byQ True.intro
      exact byP (fc hr (fc vc1 Tryz.results157)) True.intro
    · rw [if_neg hz]
      have hz' : (v.n = 0) = False := eq_false hz
      unfold mcS at hP ⊢
      refine con_runP Tryz.func157 rfl rfl (by simp [Tryz.ntmps157]) rfl ?_
      refine byP Tryz.ntmps157 ?_
      refine sw_callPR (hP) rfl rfl rfl ?_ ?_ ?_ (sw_run 200 _ _ _ ?_)
      · exact byQ True.intro
      · exact byQ True.intro
      · exact byQ True.intro
      exact byP (fc hr (fc vc1 (fc hz' Tryz.results157))) True.intro
set_option maxRecDepth 20000 in
theorem con_bndS (m:Mch) (hl:m.st.length≤90000) (hnm:m.nm.length≤90000):ConP Tryz.prog 160 [.p (mcS m 0)] [mcS (bndM m).2 (bndM m).1] []:=by
 unfold bndM
 have hst:=hl
 by_cases h:m.st.length<1
 ·rw [if_pos h]
  have hP:=con_popS0 m 1 (by omega) (by omega) h
  rw [vc1] at hP
  unfold mcS at hP ⊢
  refine con_runP Tryz.func160 rfl rfl (by simp [Tryz.ntmps160]) rfl ?_
  refine byP Tryz.ntmps160 ?_
  refine sw_callPR (hP) rfl rfl rfl ?_ ?_ ?_ (sw_run 200 _ _ _ ?_)
  ·exact byQ True.intro
  ·exact byQ True.intro
  ·exact byQ True.intro
  exact byP Tryz.results160 True.intro
 rw [if_neg h]
 have hP:=con_popS1 m 1 (by omega) (by omega) (by omega)
 rw [vc1] at hP
 obtain ⟨tp,htp⟩:∃ tp,tp=topM m 1:=⟨_,rfl⟩
 have htl:tp.length=1:=by rw [htp,top_len];omega
 rw [← htp] at hP ⊢
 rw [list_one htl] at hP ⊢
 generalize tp[0]! = v at hP ⊢
 have e0:[v][0]! = v:=rfl
 rw [e0]
 have hr:=rowS1 v
 have e1:=vlS_eq v
 simp only [flC_one,List.length_singleton] at hP
 have pp:(popM m 1).pc=m.pc:=rfl
 have pn:(popM m 1).nm=m.nm:=rfl
 have pf:(popM m 1).fr=m.fr:=rfl
 simp only [e1] at hr hP
 unfold mcS at hP ⊢
 simp only [nmM]
 rw [flC_app,flC_one,e1,List.length_append,List.length_singleton]
 rw [pp,pn,pf] at hP
 rw [pp,pf]
 refine con_runPF [4] Tryz.func160 rfl rfl (by simp [Tryz.ntmps160]) rfl ?_
 refine byP Tryz.ntmps160 ?_
 refine sw_callPR (hP) rfl rfl rfl ?_ ?_ ?_ (sw_run 200 _ _ _ ?_)
 ·exact byQ True.intro
 ·exact byQ True.intro
 ·exact byQ True.intro
 refine byQ ?_
 refine sw_drawn (.cons 0 true (.cons 2 true (.cons 3 true (.cons 4 true (.cons 5 true (.cons 7 true (.fork (.alt 1 (.fork (.alt 6 (.cons 8 true (.cons 9 true (.cons 10 false (.cons 11 false (.cons 12 true (.cons 13 true (.cons 14 false (.nil)))))))) (.alt 8 (.fork (.alt 6 (.cons 9 true (.cons 10 false (.cons 11 false (.cons 12 true (.cons 13 true (.cons 14 false (.nil))))))) (.alt 9 (.fork (.alt 6 (.cons 10 false (.cons 11 false (.cons 12 true (.cons 13 true (.cons 14 false (.nil)))))) (.alt 10 (.cons 6 false (.cons 11 false (.cons 12 true (.cons 13 true (.cons 14 false (.nil)))))) (.last)))) (.last)))) (.last)))) (.alt 8 (.fork (.alt 1 (.fork (.alt 6 (.cons 9 true (.cons 10 false (.cons 11 false (.cons 12 true (.cons 13 true (.cons 14 false (.nil))))))) (.alt 9 (.fork (.alt 6 (.cons 10 false (.cons 11 false (.cons 12 true (.cons 13 true (.cons 14 false (.nil)))))) (.alt 10 (.cons 6 false (.cons 11 false (.cons 12 true (.cons 13 true (.cons 14 false (.nil)))))) (.last)))) (.last)))) (.alt 9 (.fork (.alt 1 (.fork (.alt 6 (.cons 10 false (.cons 11 false (.cons 12 true (.cons 13 true (.cons 14 false (.nil)))))) (.alt 10 (.cons 6 false (.cons 11 false (.cons 12 true (.cons 13 true (.cons 14 false (.nil)))))) (.last)))) (.alt 10 (.cons 1 false (.cons 6 false (.cons 11 false (.cons 12 true (.cons 13 true (.cons 14 false (.nil))))))) (.last)))) (.last)))) (.last)))))))))) (by kernel_rfl) fQF_panic (by kernel_rfl) (sw_run 200 _ _ _ ?_)
 refine byP (fc hr (fc vc1 Tryz.results160)) ?_
 (try repeat' (with_reducible apply And.intro))
 all_goals first | (intro o h;first | trivial | (intro h2;omega) | omega) | (unfold maxLen;omega) | (unfold inI;omega) | omega | trivial
set_option maxRecDepth 20000 in
theorem con_unbS (m:Mch) (hnm:m.nm.length≤90000):ConP Tryz.prog 161 [.p (mcS m 0)] [mcS (unbM m).2 (unbM m).1] []:=by
 unfold unbM
 by_cases h:m.nm.length=0
 ·rw [if_pos h]
  have h':((m.nm.length:Int)=0)=True:=eq_true (by omega)
  unfold mcS
  refine con_runP Tryz.func161 rfl rfl (by simp [Tryz.ntmps161]) rfl ?_
  exact byP (fc h' (fc Tryz.ntmps161 Tryz.results161)) True.intro
 ·rw [if_neg h]
  have h':((m.nm.length:Int)=0)=False:=eq_false (by omega)
  have g0:(m.nm.length:Int)-1=((m.nm.length-1:Nat):Int):=by omega
  have g1:inI ((m.nm.length-1:Nat):Int):=by unfold inI;omega
  have g2:((m.nm.length-1:Nat):Int)≤(m.nm.length:Int):=by omega
  have hcut:=cut_flC vlS_len m.nm 0 (m.nm.length-1)
  rw [List.drop_zero,Nat.sub_zero] at hcut
  have htl:(m.nm.take (m.nm.length-1)).length=m.nm.length-1:=by rw [List.length_take];omega
  unfold mcS nmM
  simp only [htl]
  refine con_runPF [2] Tryz.func161 rfl rfl (by simp [Tryz.ntmps161]) rfl ?_
  refine byP (fc h' Tryz.ntmps161) ?_
  refine sw_drawn (.cons 0 true (.cons 2 true (.cons 3 true (.cons 4 true (.cons 5 true (.cons 6 true (.cons 7 true (.cons 8 true (.cons 9 true (.cons 10 true (.cons 11 true (.cons 12 true (.cons 1 false (.cons 13 false (.cons 14 true (.cons 15 true (.cons 16 false (.nil)))))))))))))))))) (by kernel_rfl) fQF_panic (by kernel_rfl) (sw_run 200 _ _ _ ?_)
  refine byP (fc g0 (fc g1 (fc g2 (fc hcut Tryz.results161)))) ?_
  (try repeat' (with_reducible apply And.intro))
  all_goals first | (intro o h;first | trivial | (intro h2;omega) | omega) | (unfold maxLen;omega) | (unfold inI;omega) | omega | trivial
def rtV (m:Mch):Vl:=if m.st.length≠1 then .num 0 else m.st[0]!
set_option maxRecDepth 20000 in
theorem con_retS (m:Mch) (hl:m.st.length≤90000) (hf:m.fr.length≤90000) (hfs:∀ f ∈ m.fr,f.st.length≤90000):ConP Tryz.prog 159 [.p (mcS m 0)] [mcS (retM m (.num 0)).2.1 (retM m (.num 0)).1] [.ag (vlQ (rtV m))]:=by
 unfold retM rtV
 by_cases h1:m.st.length≠1
 ·rw [if_pos h1,if_pos h1]
  have h1':((m.st.length:Int)≠1)=True:=eq_true (by omega)
  unfold mcS vlQ
  simp only [nm_m,nm_f,nm_r,nm_c,List.length_nil,flC]
  refine con_runP Tryz.func159 rfl rfl (by simp [Tryz.ntmps159]) rfl ?_
  exact byP (fc h1' (fc Tryz.ntmps159 Tryz.results159)) True.intro
 rw [if_neg h1,if_neg h1]
 have h1'':m.st.length=1:=by omega
 have hs:=list_one h1''
 obtain ⟨v,hv⟩:∃ v,v=m.st[0]! := ⟨_,rfl⟩
 rw [← hv] at hs ⊢
 obtain ⟨pc,st,nm,fr⟩:=m
 simp only at hs hf hfs ⊢
 subst hs
 clear h1 h1'' hl hv
 have hr:=rowS1 v
 have e1:=vlS_eq v
 have es:flC vlS [v]=vlS v:=flC_one _ _
 by_cases h2:fr.length=0
 ·obtain rfl:=List.eq_nil_of_length_eq_zero h2
  rw [if_pos h2]
  unfold mcS vlQ
  simp only [e1,List.length_cons,List.length_nil,Nat.zero_add,flC] at hr ⊢
  refine con_runP Tryz.func159 rfl rfl (by simp [Tryz.ntmps159]) rfl ?_
  exact byP (fc hr (fc vc1 (fc Tryz.ntmps159 Tryz.results159))) True.intro
 ·rw [if_neg h2]
  have h2':((fr.length:Int)=0)=False:=eq_false (by omega)
  have hk:fr.length-1<fr.length:=by omega
  have g0:(fr.length:Int)-1=((fr.length-1:Nat):Int):=by omega
  have g2:inI ((fr.length-1:Nat):Int):=by unfold inI;omega
  have g3:((fr.length-1:Nat):Int)<(fr.length:Int):=by omega
  have g4:((fr.length-1:Nat):Int)≤(fr.length:Int):=by omega
  have hR:=flC_row frS_len fr (fr.length-1) hk
  have hcut:=cut_flC frS_len fr 0 (fr.length-1)
  rw [List.drop_zero,Nat.sub_zero] at hcut
  have hfm:=hfs _ (mem_bang hk)
  generalize fr[fr.length-1]! = f at hR hfm ⊢
  obtain ⟨fp,fs,fn⟩:=f
  simp only at hfm ⊢
  have htl:(fr.take (fr.length-1)).length=fr.length-1:=by rw [List.length_take];omega
  have hU:=con_pushS ⟨fp,fs,fn,fr.take (fr.length-1)⟩ 0 v (by simp only;omega)
  unfold pushM mcS vlQ at hU
  unfold mcS vlQ
  simp only [htl] at hU ⊢
  simp only [frS,vsS] at hR
  simp only [es,e1,List.length_cons,List.length_nil,Nat.zero_add] at hr ⊢
  refine con_runP Tryz.func159 rfl rfl (by simp [Tryz.ntmps159]) rfl ?_
  refine byP (fc hr (fc hR (fc vc1 (fc h2' (fc g0 (fc g2 (fc g3 (fc g4 (fc hcut Tryz.ntmps159))))))))) ?_
  refine ⟨⟨fun _ _=>trivial,by unfold maxLen;omega,by omega⟩, ?_⟩
  refine sw_fzE 5 rfl ?_
  refine byQ ?_
  refine sw_callPR (hU) rfl rfl rfl ?_ ?_ ?_ (sw_run 200 _ _ _ ?_)
  ·exact byQ True.intro
  ·exact byQ True.intro
  ·exact byQ True.intro
  exact byP Tryz.results159 True.intro
end Go.Proofs.YtaidalilfmjfgaaGreat
