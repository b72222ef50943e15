/-
  The reference's machine: pushes, pops, operations.
-/
import Derived.Test.YtgjcilainojlfaaVmF
namespace Go.Proofs.Ytgjcilainojlfaa
open Go.RowKit
set_option linter.unusedVariables false
set_option linter.unusedSimpArgs false
theorem rowS1 (a : Vl) : rowAt 4 (vlS a) 0 = vlS a := by
  unfold rowAt
  rw [Nat.zero_mul, List.drop_zero, List.take_of_length_le (by rw [vlS_len]; exact Nat.le_refl _)]
theorem rowS2a (a b : Vl) : rowAt 4 (vlS a ++ vlS b) 0 = vlS a := by
  unfold rowAt
  rw [Nat.zero_mul, List.drop_zero, List.take_append_of_le_length (by rw [vlS_len]; exact Nat.le_refl _), List.take_of_length_le (by rw [vlS_len]; exact Nat.le_refl _)]
theorem rowS2b (a b : Vl) : rowAt 4 (vlS a ++ vlS b) 1 = vlS b := by
  unfold rowAt
  rw [Nat.one_mul, ← vlS_len a, List.drop_left' rfl, vlS_len, List.take_of_length_le (by rw [vlS_len]; exact Nat.le_refl _)]
theorem cutS_top (m : Mch) (k : Nat) : cutD (.rows 4 m.st.length (flC vlS m.st)) (m.st.length - k) m.st.length = .rows 4 (topM m k).length (flC vlS (topM m k)) := by
  rw [cut_flC vlS_len, top_len]
  unfold topM
  rw [List.take_of_length_le (by rw [List.length_drop]; exact Nat.le_refl _)]
theorem cutS_pop (m : Mch) (k : Nat) : cutD (.rows 4 m.st.length (flC vlS m.st)) 0 (m.st.length - k) = .rows 4 (popM m k).st.length (flC vlS (popM m k).st) := by
  rw [cut_flC vlS_len, pop_len, List.drop_zero, Nat.sub_zero]; rfl
set_option maxRecDepth 20000 in
theorem con_pushS (m : Mch) (s : Int) (v : Vl) (hl : m.st.length ≤ 100000) : ConP Try.prog 70 [.p (mcS m s), .g (vlQ v)] [mcS (pushM m v) s] [] := by
  have e1 := vlS_eq v
  unfold pushM mcS vlQ
  rw [flC_app, flC_one, e1, List.length_append, List.length_singleton]
  refine con_runPF [5] Try.func70 rfl rfl (by simp [Try.ntmps70]) rfl ?_
  simp only [s0P, mkPs, mkPA, mkC, numT, eq_self, xRun, vE, isCutO, gN, isPick, isCall, AS.pt, AS.ev, AS.box, look, avB, AV.cells, AV.whole, AV.one, td0, td1, td2, td3, td4, td5, td6, Option.getD, List.all, List.nil_append, ↓reduceIte, Nat.reduceLT, Nat.reduceAdd, Nat.zero_add, true_and, Bool.and_true, Bool.false_eq_true, Nat.succ_ne_zero, Try.ntmps70]
  refine sw_drawn (.cons 0 true (.cons 2 true (.cons 3 true (.cons 4 true (.cons 5 true (.fork (.alt 1 (.fork (.alt 6 (.cons 7 true (.cons 8 false (.cons 9 false (.cons 10 true (.cons 11 true (.cons 12 false (.nil))))))) (.alt 7 (.fork (.alt 6 (.cons 8 false (.cons 9 false (.cons 10 true (.cons 11 true (.cons 12 false (.nil)))))) (.alt 8 (.cons 6 false (.cons 9 false (.cons 10 true (.cons 11 true (.cons 12 false (.nil)))))) (.last)))) (.last)))) (.alt 7 (.fork (.alt 1 (.fork (.alt 6 (.cons 8 false (.cons 9 false (.cons 10 true (.cons 11 true (.cons 12 false (.nil)))))) (.alt 8 (.cons 6 false (.cons 9 false (.cons 10 true (.cons 11 true (.cons 12 false (.nil)))))) (.last)))) (.alt 8 (.cons 1 false (.cons 6 false (.cons 9 false (.cons 10 true (.cons 11 true (.cons 12 false (.nil))))))) (.last)))) (.last))))))))) (by kernel_rfl) fQF_panic (by kernel_rfl) (sw_run 200 _ _ _ ?_)
  simp only [fQF, fQP, xRetP, rRs, rOs, rC, rCs, eRs, eOs, eC, eCs, AS.fzL, AS.fzN, AS.fz, fzT, fzB, AV.fz, AV.fzs, aD, rD, eq_self, xRun, vE, vP, vSub, vLoad, vFld, vRow, vStore, vApp, apP, apC, isCl, xFill, appL, appR, gN, isPick, isCall, AS.pt, AS.ev, AS.setb, AS.mk', AS.owf, kill, look, setRowG, AV.cells, AV.whole, AV.one, cD, cDs, eatsOf, dpOf, td0, td1, td2, td3, td4, td5, td6, Option.bind, Option.getD, Option.isSome, List.map, List.take, List.drop, List.length, List.getElem?_cons_zero, List.getElem?_cons_succ, List.set, List.foldr, List.all, List.replicate, List.mem_cons, List.not_mem_nil, List.nodup_cons, List.nodup_nil, List.nil_append, List.cons_append, List.append_nil, ↓reduceIte, Nat.reduceLT, Nat.reduceAdd, Nat.reduceLeDiff, Nat.reduceEqDiff, Nat.zero_add, Nat.zero_mul, Nat.one_mul, ne_eq, not_false_eq_true, true_and, and_true, or_false, or_true, Bool.and_true, Bool.and_false, Bool.not_true, Bool.false_eq_true, id_eq, reduceCtorEq, and_self, Nat.succ_ne_zero, Nat.zero_le, Nat.le_refl, Nat.zero_add, List.nil_append, Try.results70]
  (try repeat' (with_reducible apply And.intro))
  all_goals first | (intro o h; first | trivial | (intro h2; omega) | omega) | (unfold maxLen; omega) | (unfold inI; omega) | omega | trivial
set_option maxRecDepth 10000 in
theorem con_popS0 (m : Mch) (k : Nat) (hl : m.st.length ≤ 100000) (hk : k ≤ 2) (h : m.st.length < k) : ConP Try.prog 122 [.p (mcS m 0), .b (.one (.int (k : Int)))] [mcS m 4] [.one (.r (.rows 4 0 [])), .one (.o (.bool false))] := by
  have h1 : (m.st.length : Int) < (k : Int) := by omega
  unfold mcS
  refine con_runPF [1] Try.func122 rfl rfl (by simp [Try.ntmps122]) rfl ?_
  simp only [s0P, mkPs, mkPA, mkC, fQF, fQP, xRetP, rRs, rOs, rC, rCs, eRs, eOs, eC, eCs, AS.fzL, AS.fzN, AS.fz, fzT, fzB, AV.fz, AV.fzs, aD, argA, numT, xRes, rD, eq_self, xRun, vE, vP, vSub, vLoad, vFld, vBin, vBinT, isAg, isBo, vLen, vRow, vStore, isCutO, xFill, isB, bv, gN, isPick, isCall, AS.pt, AS.ev, AS.box, AS.setb, AS.mk', AS.owf, AS.rd, kill, look, cav, avB, setRowG, AV.cells, AV.whole, AV.one, cDs, eatsOf, td0, td1, td2, td3, td4, td5, td6, Option.bind, Option.getD, Option.isSome, List.map, List.length, List.getElem?_cons_zero, List.getElem?_cons_succ, List.set, List.foldr, List.all, List.replicate, List.not_mem_nil, List.nodup_cons, List.nodup_nil, List.nil_append, List.append_nil, ↓reduceIte, Nat.reduceLT, Nat.reduceAdd, Nat.reduceEqDiff, Nat.zero_add, Nat.zero_mul, ne_eq, not_false_eq_true, or_false, or_true, Bool.false_eq_true, id_eq, reduceCtorEq, decide_true, and_self, Nat.succ_ne_zero, Nat.zero_le, Nat.le_refl, h1, Try.ntmps122, Try.results122]
set_option maxRecDepth 10000 in
theorem con_popS1 (m : Mch) (k : Nat) (hl : m.st.length ≤ 100000) (hk : k ≤ 2) (h : k ≤ m.st.length) : ConP Try.prog 122 [.p (mcS m 0), .b (.one (.int (k : Int)))] [mcS (popM m k) 0] [.one (.r (.rows 4 (topM m k).length (flC vlS (topM m k)))), .one (.o (.bool true))] := by
  have h0 : (m.st.length : Int) - (k : Int) = ((m.st.length - k : Nat) : Int) := by omega
  have h1 : ¬ (m.st.length : Int) < (k : Int) := by omega
  have h2 : inI ((m.st.length - k : Nat) : Int) := by unfold inI; omega
  have h3 : ((m.st.length - k : Nat) : Int) ≤ (m.st.length : Int) := by omega
  have h4 : (popM m k).pc = m.pc := rfl
  have h5 : (popM m k).nm = m.nm := rfl
  have h6 : (popM m k).fr = m.fr := rfl
  have h7 := top_len m k
  have h8 := pop_len m k
  unfold mcS
  rw [h4, h5, h6]
  refine con_runPF [2, 4] Try.func122 rfl rfl (by simp [Try.ntmps122]) rfl ?_
  simp only [s0P, mkPs, mkPA, mkC, argA, numT, eq_self, xRun, vE, vP, vSub, vLoad, vFld, vBin, vBinT, isAg, isBo, vLen, isCutO, isB, bv, gN, isPick, isCall, AS.pt, AS.ev, AS.box, AS.rd, look, cav, avB, td0, td1, td2, td3, td4, td5, td6, Option.getD, Option.isSome, List.getElem?_cons_zero, List.getElem?_cons_succ, List.nil_append, ↓reduceIte, Nat.reduceLT, Nat.reduceEqDiff, Nat.zero_add, ne_eq, not_false_eq_true, true_and, Bool.false_eq_true, reduceCtorEq, decide_false, Nat.succ_ne_zero, h1, Try.ntmps122]
  refine sw_drawn (.cons 1 true (.cons 2 true (.cons 3 true (.cons 4 true (.cons 5 true (.cons 6 true (.cons 7 true (.cons 8 true (.cons 9 true (.cons 10 true (.cons 11 true (.cons 12 true (.cons 0 false (.cons 13 false (.cons 14 true (.nil)))))))))))))))) (by kernel_rfl) fQF_panic (by kernel_rfl) (sw_run 200 _ _ _ ?_)
  simp only [eq_self, xRun, vE, vP, vSub, vLoad, vFld, vBin, vBinT, isAg, isBo, vLen, vCut, vSlc, vRow, vApp, apP, apC, isCl, xFill, appL, appR, ixL, ixH, gN, isPick, isCall, AS.pt, AS.ev, AS.mk', AS.owf, AS.rd, kill, look, cDs, eatsOf, td0, td1, td2, td3, td4, td5, td6, Option.bind, Option.getD, Option.map, Option.isSome, List.map, List.getElem?_cons_zero, List.getElem?_cons_succ, List.foldr, List.all, List.replicate, List.mem_cons, List.not_mem_nil, List.nodup_nil, List.nil_append, List.append_nil, ↓reduceIte, Nat.reduceLT, Nat.reduceAdd, Nat.reduceEqDiff, Nat.zero_add, Nat.zero_mul, ne_eq, not_false_eq_true, true_and, or_false, or_true, Bool.and_false, Bool.not_true, Bool.false_eq_true, id_eq, reduceCtorEq, Int.toNat_natCast, Int.le_refl, Int.natCast_nonneg, and_self, Nat.succ_ne_zero, Nat.zero_le, h0, h2, h3, cutS_top, Nat.zero_add, List.nil_append]
  refine ⟨⟨fun _ _ => trivial, by unfold maxLen; omega, by omega⟩, ?_⟩
  refine sw_drawn (.cons 0 true (.cons 2 true (.cons 3 true (.cons 4 true (.cons 5 true (.cons 6 true (.cons 7 true (.cons 8 true (.cons 9 true (.cons 10 true (.cons 11 true (.cons 12 true (.cons 13 true (.cons 1 false (.cons 14 false (.cons 15 true (.cons 16 true (.cons 17 false (.nil))))))))))))))))))) (by kernel_rfl) fQF_panic (by kernel_rfl) (sw_run 200 _ _ _ ?_)
  simp only [fQF, fQP, xRetP, rRs, rOs, rC, rCs, eRs, eOs, eC, eCs, AS.fzL, AS.fzN, AS.fz, fzT, fzB, AV.fz, AV.fzs, aD, xRes, rD, eq_self, xRun, vE, vP, vSub, vLoad, vFld, vBin, vBinT, isAg, isBo, vLen, vCut, vSlc, vRow, vStore, vApp, apP, apC, isCl, isCutO, xFill, appL, appR, ixL, ixH, gN, isPick, isCall, AS.pt, AS.ev, AS.setb, AS.mk', AS.owf, AS.rd, kill, look, cav, setRowG, AV.cells, AV.whole, AV.one, cDs, eatsOf, td0, td1, td2, td3, td4, td5, td6, Option.bind, Option.getD, Option.map, Option.isSome, List.map, List.length, List.getElem?_cons_zero, List.getElem?_cons_succ, List.set, List.foldr, List.all, List.replicate, List.mem_cons, List.not_mem_nil, List.nodup_cons, List.nodup_nil, List.nil_append, List.append_nil, ↓reduceIte, Nat.reduceLT, Nat.reduceAdd, Nat.reduceLeDiff, Nat.reduceEqDiff, Nat.zero_add, Nat.zero_mul, ne_eq, not_false_eq_true, true_and, and_true, or_false, or_true, Bool.and_false, Bool.not_true, Bool.false_eq_true, id_eq, reduceCtorEq, Int.toNat_natCast, Int.toNat_zero, Int.le_refl, Int.natCast_nonneg, and_self, Nat.succ_ne_zero, Nat.zero_le, h0, h2, h3, cutS_pop, Nat.zero_add, List.nil_append, Try.results122]
  (try repeat' (with_reducible apply And.intro))
  all_goals first | (intro o h; first | trivial | (intro h2; omega) | omega) | (unfold maxLen; omega) | (unfold inI; omega) | omega | trivial
set_option maxRecDepth 10000 in
theorem con_opS (m : Mch) (a : Int) (hl : m.st.length ≤ 100000) (ha8 : 1 ≤ a ∧ a ≤ 8) : ConP Try.prog 72 [.p (mcS m 0), .b (.one (.int a))] [mcS (opM m (opB a)).2 (opM m (opB a)).1] [] := by
  have hN := con_OpNameS a ha8
  have hs : opAr (opB a) = 1 ∨ opAr (opB a) = 2 := by rw [op_pop ha8]; split <;> simp
  generalize opB a = s at *
  have hO := con_OpArS s
  have hk : opAr s = ((opAr s).toNat : Int) := by omega
  rw [hk] at hO
  obtain ⟨k, hkk⟩ : ∃ k, k = (opAr s).toNat := ⟨_, rfl⟩
  unfold opM
  rw [← hkk] at hO ⊢
  by_cases h4 : m.st.length < k
  · rw [if_pos h4]
    have hP := con_popS0 m k hl (by omega) h4
    unfold mcS at hP ⊢
    simp only
    refine con_runP Try.func72 rfl rfl (by simp [Try.ntmps72]) rfl ?_
    simp only [s0P, mkPs, mkPA, mkC, argA, numT, eq_self, xRun, vE, vP, isCutO, gN, isPick, isCall, AS.pt, AS.ev, AS.box, look, avB, td0, td1, td2, td3, td4, td5, td6, Option.getD, List.nil_append, ↓reduceIte, Nat.reduceLT, Nat.zero_add, true_and, Bool.false_eq_true, Nat.succ_ne_zero, Try.ntmps72]
    refine sw_call (hN) rfl (aAs_ok ?_) ?_ (sw_run 200 _ _ _ ?_)
    · simp only [aAs, aA, aD, AS.ev, look, Option.getD, List.map, List.append_nil, ↓reduceIte, eq_self, and_self]
    · simp only [okR]
    simp only [mkR, flatD, packA, retA, List.headD_cons, eq_self, xRun, gN, isPick, isCall, AS.pt, td0, td1, td2, td3, td4, td5, td6, ↓reduceIte, Nat.reduceLT, Bool.false_eq_true]
    refine sw_call (hO) rfl (aAs_ok ?_) ?_ (sw_run 200 _ _ _ ?_)
    · simp only [aAs, aA, aD, AS.ev, look, Option.getD, List.map, List.append_nil, ↓reduceIte, eq_self, and_self]
    · simp only [okR]
    simp only [mkR, flatD, packA, retA, List.headD_cons, eq_self, xRun, vE, vP, isCutO, gN, isPick, isCall, AS.pt, AS.ev, look, td0, td1, td2, td3, td4, td5, td6, Option.getD, ↓reduceIte, Nat.reduceLT, Nat.reduceEqDiff, true_and, Bool.false_eq_true, reduceCtorEq]
    refine sw_callPR (hP) rfl rfl rfl ?_ ?_ ?_ (sw_run 200 _ _ _ ?_)
    · simp only [rC, rCs, AS.em, mPs, mP, aA, aD, rD, eq_self, AS.ev, look, td0, td1, td2, td3, td4, td5, td6, Option.getD, List.map, List.append_nil, ↓reduceIte, Nat.reduceEqDiff, and_self]
    · simp only [eC, eCs, ePs, eP, eq_self, AS.ev, look, td0, td1, td2, td3, td4, td5, td6, Option.getD, List.map, List.nodup_nil, List.append_nil, ↓reduceIte, Nat.reduceEqDiff]
    · simp only [bPs, bP, eq_self, AS.ev, look, td0, td1, td2, td3, td4, td5, td6, Option.getD, List.map, List.not_mem_nil, List.nodup_cons, List.nodup_nil, List.append_nil, ↓reduceIte, Nat.reduceEqDiff, not_false_eq_true, and_self]
    simp only [mkC, fQP, xRetP, rRs, rOs, rC, rCs, eRs, eOs, eC, eCs, aftS, aftV, AS.kb, rmBs, rmB, mkO, packRA, flatR, ePs, eP, bPs, bP, aD, AS.kl, retA, List.headD_cons, List.tail_cons, rD, eq_self, xRun, vE, vP, vNot, vExt, isCutO, isB, bv, gN, isPick, isCall, AS.pt, AS.ev, kill, look, avB, td0, td1, td2, td3, td4, td5, td6, Option.getD, Option.isSome, List.map, List.getElem?_cons_zero, List.getElem?_cons_succ, List.foldr, List.not_mem_nil, List.nodup_cons, List.nodup_nil, List.append_nil, ↓reduceIte, Nat.reduceLT, Nat.reduceEqDiff, not_false_eq_true, or_false, Bool.not_false, Bool.false_eq_true, reduceCtorEq, and_self, Try.results72]
  rw [if_neg h4]
  have hP := con_popS1 m k hl (by omega) (by omega)
  obtain ⟨m1, hm1⟩ : ∃ m1, m1 = popM m k := ⟨_, rfl⟩
  obtain ⟨tp, htp⟩ : ∃ tp, tp = topM m k := ⟨_, rfl⟩
  have htl : tp.length = k := by rw [htp, top_len]; omega
  have hml : m1.st.length ≤ 100000 := by rw [hm1, pop_len]; omega
  rw [← hm1, ← htp] at hP ⊢
  clear hm1 htp h4
  have hA := con_ApplyS s
  have mn : ∀ v : Vl, v.f = false → v.m = v.n := fun v hv => by cases v <;> first | rfl | cases hv
  rcases hs with h1 | h2
  · have hk1 : k = 1 := by rw [hkk, h1]; rfl
    subst hk1
    rw [c1] at hO hP
    rw [list_one htl] at hP ⊢
    generalize tp[0]! = a at hP ⊢
    have e1 := vlS_eq a
    have hr := rowS1 a
    have e0 : [a][0]! = a := rfl
    simp only [flC_one, List.length_singleton] at hP
    have hn2 : ¬ opAr s = 2 := by omega
    simp only [List.any_cons, List.any_nil, Bool.or_false, hn2, if_false, e0]
    cases ha : a.f with
    | true =>
      rw [if_pos rfl]
      unfold mcS at hP ⊢
      simp only
      simp only [e1, ha] at hr hP
      refine con_runP Try.func72 rfl rfl (by simp [Try.ntmps72]) rfl ?_
      simp only [s0P, mkPs, mkPA, mkC, argA, numT, eq_self, xRun, vE, vP, isCutO, gN, isPick, isCall, AS.pt, AS.ev, AS.box, look, avB, td0, td1, td2, td3, td4, td5, td6, Option.getD, List.nil_append, ↓reduceIte, Nat.reduceLT, Nat.zero_add, true_and, Bool.false_eq_true, Nat.succ_ne_zero, Try.ntmps72]
      refine sw_call (hN) rfl (aAs_ok ?_) ?_ (sw_run 200 _ _ _ ?_)
      · simp only [aAs, aA, aD, AS.ev, look, Option.getD, List.map, List.append_nil, ↓reduceIte, eq_self, and_self]
      · simp only [okR]
      simp only [mkR, flatD, packA, retA, List.headD_cons, eq_self, xRun, gN, isPick, isCall, AS.pt, td0, td1, td2, td3, td4, td5, td6, ↓reduceIte, Nat.reduceLT, Bool.false_eq_true]
      refine sw_call (hO) rfl (aAs_ok ?_) ?_ (sw_run 200 _ _ _ ?_)
      · simp only [aAs, aA, aD, AS.ev, look, Option.getD, List.map, List.append_nil, ↓reduceIte, eq_self, and_self]
      · simp only [okR]
      simp only [mkR, flatD, packA, retA, List.headD_cons, eq_self, xRun, vE, vP, isCutO, gN, isPick, isCall, AS.pt, AS.ev, look, td0, td1, td2, td3, td4, td5, td6, Option.getD, ↓reduceIte, Nat.reduceLT, Nat.reduceEqDiff, true_and, Bool.false_eq_true, reduceCtorEq]
      refine sw_callPR (hP) rfl rfl rfl ?_ ?_ ?_ (sw_run 200 _ _ _ ?_)
      · simp only [rC, rCs, AS.em, mPs, mP, aA, aD, rD, eq_self, AS.ev, look, td0, td1, td2, td3, td4, td5, td6, Option.getD, List.map, List.append_nil, ↓reduceIte, Nat.reduceEqDiff, and_self]
      · simp only [eC, eCs, ePs, eP, eq_self, AS.ev, look, td0, td1, td2, td3, td4, td5, td6, Option.getD, List.map, List.nodup_nil, List.append_nil, ↓reduceIte, Nat.reduceEqDiff]
      · simp only [bPs, bP, eq_self, AS.ev, look, td0, td1, td2, td3, td4, td5, td6, Option.getD, List.map, List.not_mem_nil, List.nodup_cons, List.nodup_nil, List.append_nil, ↓reduceIte, Nat.reduceEqDiff, not_false_eq_true, and_self]
      simp only [mkC, eC, eCs, aftS, aftV, AS.kb, rmBs, rmB, mkO, packRA, flatR, ePs, eP, bPs, bP, AS.kl, retA, List.headD_cons, List.tail_cons, eq_self, xRun, vE, vP, vNot, vExt, vRow, isCutO, xFill, isB, bv, gN, isPick, isCall, AS.pt, AS.ev, AS.mk', kill, look, cav, avB, setRowG, AV.cells, AV.whole, AV.one, cD, cDs, eatsOf, dpOf, td0, td1, td2, td3, td4, td5, td6, Option.getD, Option.isSome, List.map, List.length, List.getElem?_cons_zero, List.getElem?_cons_succ, List.set, List.foldr, List.all, List.replicate, List.nodup_nil, List.append_nil, ↓reduceIte, Nat.reduceLT, Nat.reduceAdd, Nat.reduceLeDiff, Nat.reduceEqDiff, Nat.zero_add, Nat.mul_one, true_and, or_true, Bool.and_true, Bool.not_true, Bool.false_eq_true, and_self, Nat.succ_ne_zero, Nat.le_refl]
      refine sw_rounds 2 (sw_run 200 _ _ _ ?_)
      simp only [fQP, xRetP, rRs, rOs, rC, rCs, eRs, eOs, eC, eCs, aD, rowD, rD, eq_self, xRun, vE, vP, vSub, vLoad, vFld, vIdx, vBin, vBinT, isAg, isBo, vStore, isCutO, isB, bv, gN, isPick, isCall, AS.pt, AS.ev, AS.setb, look, cav, avB, setRowG, AV.cells, AV.whole, AV.one, td0, td1, td2, td3, td4, td5, td6, Option.getD, Option.isSome, List.map, List.length, List.getElem?_cons_zero, List.set, List.not_mem_nil, List.nodup_cons, List.nodup_nil, List.append_nil, ↓reduceIte, Nat.reduceLT, Nat.reduceAdd, Nat.reduceEqDiff, Nat.zero_add, Nat.add_zero, ne_eq, not_false_eq_true, or_false, Bool.false_eq_true, reduceCtorEq, Int.reduceLT, Int.toNat_zero, Int.le_refl, decide_true, and_self, Nat.succ_ne_zero, Nat.le_refl, hr, c1, qR_ret, Try.results72]
    | false =>
      rw [if_neg (by simp)]
      have hU := con_pushS m1 0 (.num (apV s a.n 0)) hml
      rw [mn a ha] at e1
      unfold mcS at hP hU ⊢
      unfold vlQ at hU
      simp only [nm_m, nm_f, nm_r, nm_c, List.length_nil, flC] at hU ⊢
      simp only [e1, ha] at hr hP
      refine con_runP Try.func72 rfl rfl (by simp [Try.ntmps72]) rfl ?_
      simp only [s0P, mkPs, mkPA, mkC, argA, numT, eq_self, xRun, vE, vP, isCutO, gN, isPick, isCall, AS.pt, AS.ev, AS.box, look, avB, td0, td1, td2, td3, td4, td5, td6, Option.getD, List.nil_append, ↓reduceIte, Nat.reduceLT, Nat.zero_add, true_and, Bool.false_eq_true, Nat.succ_ne_zero, Try.ntmps72]
      refine sw_call (hN) rfl (aAs_ok ?_) ?_ (sw_run 200 _ _ _ ?_)
      · simp only [aAs, aA, aD, AS.ev, look, Option.getD, List.map, List.append_nil, ↓reduceIte, eq_self, and_self]
      · simp only [okR]
      simp only [mkR, flatD, packA, retA, List.headD_cons, eq_self, xRun, gN, isPick, isCall, AS.pt, td0, td1, td2, td3, td4, td5, td6, ↓reduceIte, Nat.reduceLT, Bool.false_eq_true]
      refine sw_call (hO) rfl (aAs_ok ?_) ?_ (sw_run 200 _ _ _ ?_)
      · simp only [aAs, aA, aD, AS.ev, look, Option.getD, List.map, List.append_nil, ↓reduceIte, eq_self, and_self]
      · simp only [okR]
      simp only [mkR, flatD, packA, retA, List.headD_cons, eq_self, xRun, vE, vP, isCutO, gN, isPick, isCall, AS.pt, AS.ev, look, td0, td1, td2, td3, td4, td5, td6, Option.getD, ↓reduceIte, Nat.reduceLT, Nat.reduceEqDiff, true_and, Bool.false_eq_true, reduceCtorEq]
      refine sw_callPR (hP) rfl rfl rfl ?_ ?_ ?_ (sw_run 200 _ _ _ ?_)
      · simp only [rC, rCs, AS.em, mPs, mP, aA, aD, rD, eq_self, AS.ev, look, td0, td1, td2, td3, td4, td5, td6, Option.getD, List.map, List.append_nil, ↓reduceIte, Nat.reduceEqDiff, and_self]
      · simp only [eC, eCs, ePs, eP, eq_self, AS.ev, look, td0, td1, td2, td3, td4, td5, td6, Option.getD, List.map, List.nodup_nil, List.append_nil, ↓reduceIte, Nat.reduceEqDiff]
      · simp only [bPs, bP, eq_self, AS.ev, look, td0, td1, td2, td3, td4, td5, td6, Option.getD, List.map, List.not_mem_nil, List.nodup_cons, List.nodup_nil, List.append_nil, ↓reduceIte, Nat.reduceEqDiff, not_false_eq_true, and_self]
      simp only [mkC, eC, eCs, aftS, aftV, AS.kb, rmBs, rmB, mkO, packRA, flatR, ePs, eP, bPs, bP, AS.kl, retA, List.headD_cons, List.tail_cons, eq_self, xRun, vE, vP, vNot, vExt, vRow, isCutO, xFill, isB, bv, gN, isPick, isCall, AS.pt, AS.ev, AS.mk', kill, look, cav, avB, setRowG, AV.cells, AV.whole, AV.one, cD, cDs, eatsOf, dpOf, td0, td1, td2, td3, td4, td5, td6, Option.getD, Option.isSome, List.map, List.length, List.getElem?_cons_zero, List.getElem?_cons_succ, List.set, List.foldr, List.all, List.replicate, List.nodup_nil, List.append_nil, ↓reduceIte, Nat.reduceLT, Nat.reduceAdd, Nat.reduceLeDiff, Nat.reduceEqDiff, Nat.zero_add, Nat.mul_one, true_and, or_true, Bool.and_true, Bool.not_true, Bool.false_eq_true, and_self, Nat.succ_ne_zero, Nat.le_refl]
      refine sw_rounds 2 (sw_run 200 _ _ _ ?_)
      simp only [rowD, eq_self, xRun, vE, vP, vSub, vLoad, vFld, vIdx, vBin, vBinT, isAg, isBo, vStore, vStE, primD, primDs, stDs, AS.setO, AV.unsp, AV.unsps, unspT, unspB, isCutO, isB, bv, gN, isPick, isCall, AS.pt, AS.ev, AS.owf, look, cav, avB, setRowG, AV.cells, td0, td1, td2, td3, td4, td5, td6, Option.bind, Option.getD, Option.isSome, List.map, List.length, List.getElem?_cons_zero, List.getElem?_cons_succ, List.set, ↓reduceIte, Nat.reduceLT, Nat.reduceEqDiff, Nat.zero_add, Nat.add_zero, ne_eq, not_false_eq_true, true_and, Bool.false_eq_true, id_eq, Int.reduceLT, Int.reduceAdd, Int.toNat_zero, Int.le_refl, decide_true, and_self, Nat.succ_ne_zero, Nat.le_refl, hr, c1, c2, in1, qR_normal]
      refine sw_run 200 _ _ _ ?_
      simp only [eq_self, xRun, vE, vP, vBin, vBinT, isAg, isBo, isCutO, isB, bv, gN, isPick, isCall, popTo, AS.pt, AS.ev, look, td0, td1, td2, td3, td4, td5, td6, Option.getD, Option.isSome, ↓reduceIte, Nat.reduceLT, Nat.reduceEqDiff, true_and, Bool.false_eq_true, Int.reduceLT, decide_false, qR_exit]
      refine sw_run 200 _ _ _ ?_
      simp only [eq_self, xRun, td0, td1, td2, td3, td4, td5, td6, ↓reduceIte]
      refine sw_drawn (.cons 0 true (.cons 2 true (.cons 3 true (.cons 4 true (.cons 5 true (.cons 6 true (.cons 7 true (.cons 1 false (.cons 8 false (.cons 9 true (.cons 10 true (.cons 11 true (.cons 12 true (.cons 13 true (.nil))))))))))))))) (by kernel_rfl) fQP_panic (by kernel_rfl) (sw_run 200 _ _ _ ?_)
      simp only [rowD, eq_self, xRun, vP, vSub, vLoad, vIdx, gN, isPick, isCall, AS.pt, AS.ev, AS.owf, look, cav, avO, avF, td0, td1, td2, td3, td4, td5, td6, Option.bind, Option.getD, Option.isSome, List.map, List.take, List.drop, List.getElem?_cons_zero, List.getElem?_cons_succ, ↓reduceIte, Nat.reduceLT, Nat.reduceEqDiff, true_and, Bool.false_eq_true, id_eq, Int.reduceLT, Int.reduceLE, Int.toNat_zero, Int.toNat_one, Int.le_refl, and_self, Nat.succ_ne_zero, c2, rowAt]
      refine sw_callD (hN) rfl (aAs_ok ?_) ?_ (sw_run 200 _ _ _ ?_)
      · simp only [aAs, aA, aD, AS.ev, look, Option.getD, List.map, List.append_nil, ↓reduceIte, Nat.reduceEqDiff, eq_self, and_self]
      · simp only [okR]
      simp only [mkR, flatD, packA, retA, List.headD_cons, eq_self, xRun, gN, isCall, AS.pt, td0, td1, td2, td3, td4, td5, td6, Option.getD, Option.isSome, List.getElem?_cons_zero, List.getElem?_cons_succ, ↓reduceIte, Nat.reduceLT, true_and]
      refine sw_callD (hA a.n 0) rfl (aAs_ok ?_) ?_ (sw_run 200 _ _ _ ?_)
      · simp only [aAs, aA, aD, AS.ev, look, Option.getD, List.map, List.append_nil, ↓reduceIte, Nat.reduceEqDiff, eq_self, and_self]
      · simp only [okR]
      simp only [mkR, flatD, packA, retA, List.headD_cons, List.tail_cons, eq_self, xRun, vE, vP, vExt, vBuild, isCutO, xFill, gN, isPick, isCall, AS.pt, AS.ev, look, setRowG, AV.cells, AV.whole, AV.one, td0, td1, td2, td3, td4, td5, td6, Option.getD, Option.isSome, List.map, List.length, List.getElem?_cons_zero, List.getElem?_cons_succ, List.set, ↓reduceIte, Nat.reduceLT, Nat.reduceAdd, Nat.reduceLeDiff, Nat.reduceEqDiff, Nat.zero_add, true_and, Bool.false_eq_true, reduceCtorEq, and_self]
      refine sw_callPR (hU) rfl rfl rfl ?_ ?_ ?_ (sw_run 200 _ _ _ ?_)
      · simp only [rC, rCs, AS.em, mPs, mP, aD, rD, eq_self, AS.ev, look, td0, td1, td2, td3, td4, td5, td6, Option.getD, List.map, List.append_nil, ↓reduceIte, Nat.reduceEqDiff, and_self]
      · simp only [eC, eCs, ePs, eP, eq_self, AS.ev, look, td0, td1, td2, td3, td4, td5, td6, Option.getD, List.map, List.nodup_nil, List.append_nil, ↓reduceIte, Nat.reduceEqDiff]
      · simp only [bPs, bP, eq_self, AS.ev, look, td0, td1, td2, td3, td4, td5, td6, Option.getD, List.map, List.not_mem_nil, List.nodup_cons, List.nodup_nil, List.append_nil, ↓reduceIte, Nat.reduceEqDiff, not_false_eq_true, and_self]
      simp only [mkC, fQP, xRetP, rRs, rOs, rC, rCs, eRs, eOs, eC, eCs, aftS, aftV, AS.kb, rmBs, rmB, mkO, packRA, flatR, ePs, eP, bPs, bP, aD, AS.kl, retA, rD, eq_self, xRun, AS.pt, AS.ev, kill, look, avB, td0, td1, td2, td3, td4, td5, td6, Option.getD, List.map, List.foldr, List.not_mem_nil, List.nodup_cons, List.nodup_nil, List.append_nil, ↓reduceIte, Nat.reduceLT, Nat.reduceEqDiff, not_false_eq_true, or_true, reduceCtorEq, and_self, Try.results72]
  · have hk2 : k = 2 := by rw [hkk, h2]; rfl
    subst hk2
    rw [c2] at hO hP
    rw [list_two htl] at hP ⊢
    generalize tp[0]! = a at hP ⊢
    generalize tp[1]! = b at hP ⊢
    have e1 := vlS_eq a
    have e2 := vlS_eq b
    have hr := rowS2a a b
    have hr2 := rowS2b a b
    have e0 : [a, b][0]! = a := rfl
    have e00 : [a, b][1]! = b := rfl
    have ef : flC vlS [a, b] = vlS a ++ vlS b := by simp only [flC, List.append_nil]
    rw [ef] at hP
    simp only [List.length_cons, List.length_nil, Nat.zero_add, Nat.reduceAdd] at hP
    simp only [List.any_cons, List.any_nil, Bool.or_false, h2, if_true, e0, e00]
    cases ha : a.f with
    | true =>
      rw [if_pos (by simp)]
      unfold mcS at hP ⊢
      simp only
      simp only [e1, e2, ha, List.cons_append, List.nil_append] at hr hr2 hP
      refine con_runP Try.func72 rfl rfl (by simp [Try.ntmps72]) rfl ?_
      simp only [s0P, mkPs, mkPA, mkC, argA, numT, eq_self, xRun, vE, vP, isCutO, gN, isPick, isCall, AS.pt, AS.ev, AS.box, look, avB, td0, td1, td2, td3, td4, td5, td6, Option.getD, List.nil_append, ↓reduceIte, Nat.reduceLT, Nat.zero_add, true_and, Bool.false_eq_true, Nat.succ_ne_zero, Try.ntmps72]
      refine sw_call (hN) rfl (aAs_ok ?_) ?_ (sw_run 200 _ _ _ ?_)
      · simp only [aAs, aA, aD, AS.ev, look, Option.getD, List.map, List.append_nil, ↓reduceIte, eq_self, and_self]
      · simp only [okR]
      simp only [mkR, flatD, packA, retA, List.headD_cons, eq_self, xRun, gN, isPick, isCall, AS.pt, td0, td1, td2, td3, td4, td5, td6, ↓reduceIte, Nat.reduceLT, Bool.false_eq_true]
      refine sw_call (hO) rfl (aAs_ok ?_) ?_ (sw_run 200 _ _ _ ?_)
      · simp only [aAs, aA, aD, AS.ev, look, Option.getD, List.map, List.append_nil, ↓reduceIte, eq_self, and_self]
      · simp only [okR]
      simp only [mkR, flatD, packA, retA, List.headD_cons, eq_self, xRun, vE, vP, isCutO, gN, isPick, isCall, AS.pt, AS.ev, look, td0, td1, td2, td3, td4, td5, td6, Option.getD, ↓reduceIte, Nat.reduceLT, Nat.reduceEqDiff, true_and, Bool.false_eq_true, reduceCtorEq]
      refine sw_callPR (hP) rfl rfl rfl ?_ ?_ ?_ (sw_run 200 _ _ _ ?_)
      · simp only [rC, rCs, AS.em, mPs, mP, aA, aD, rD, eq_self, AS.ev, look, td0, td1, td2, td3, td4, td5, td6, Option.getD, List.map, List.append_nil, ↓reduceIte, Nat.reduceEqDiff, and_self]
      · simp only [eC, eCs, ePs, eP, eq_self, AS.ev, look, td0, td1, td2, td3, td4, td5, td6, Option.getD, List.map, List.nodup_nil, List.append_nil, ↓reduceIte, Nat.reduceEqDiff]
      · simp only [bPs, bP, eq_self, AS.ev, look, td0, td1, td2, td3, td4, td5, td6, Option.getD, List.map, List.not_mem_nil, List.nodup_cons, List.nodup_nil, List.append_nil, ↓reduceIte, Nat.reduceEqDiff, not_false_eq_true, and_self]
      simp only [mkC, eC, eCs, aftS, aftV, AS.kb, rmBs, rmB, mkO, packRA, flatR, ePs, eP, bPs, bP, AS.kl, retA, List.headD_cons, List.tail_cons, eq_self, xRun, vE, vP, vNot, vExt, vRow, isCutO, xFill, isB, bv, gN, isPick, isCall, AS.pt, AS.ev, AS.mk', kill, look, cav, avB, setRowG, AV.cells, AV.whole, AV.one, cD, cDs, eatsOf, dpOf, td0, td1, td2, td3, td4, td5, td6, Option.getD, Option.isSome, List.map, List.length, List.getElem?_cons_zero, List.getElem?_cons_succ, List.set, List.foldr, List.all, List.replicate, List.nodup_nil, List.append_nil, ↓reduceIte, Nat.reduceLT, Nat.reduceAdd, Nat.reduceLeDiff, Nat.reduceEqDiff, Nat.zero_add, Nat.mul_one, true_and, or_true, Bool.and_true, Bool.not_true, Bool.false_eq_true, and_self, Nat.succ_ne_zero, Nat.le_refl]
      refine sw_rounds 2 (sw_run 200 _ _ _ ?_)
      simp only [fQP, xRetP, rRs, rOs, rC, rCs, eRs, eOs, eC, eCs, aD, rowD, rD, eq_self, xRun, vE, vP, vSub, vLoad, vFld, vIdx, vBin, vBinT, isAg, isBo, vStore, isCutO, isB, bv, gN, isPick, isCall, AS.pt, AS.ev, AS.setb, look, cav, avB, setRowG, AV.cells, AV.whole, AV.one, td0, td1, td2, td3, td4, td5, td6, Option.getD, Option.isSome, List.map, List.length, List.getElem?_cons_zero, List.set, List.not_mem_nil, List.nodup_cons, List.nodup_nil, List.append_nil, ↓reduceIte, Nat.reduceLT, Nat.reduceAdd, Nat.reduceEqDiff, Nat.zero_add, Nat.add_zero, ne_eq, not_false_eq_true, or_false, Bool.false_eq_true, reduceCtorEq, Int.reduceLT, Int.toNat_zero, Int.le_refl, decide_true, and_self, Nat.succ_ne_zero, Nat.le_refl, hr, c2, qR_ret, Try.results72]
    | false =>
      rw [mn a ha] at e1
      cases hb : b.f with
      | true =>
        rw [if_pos (by simp)]
        unfold mcS at hP ⊢
        simp only
        simp only [e1, e2, ha, hb, List.cons_append, List.nil_append] at hr hr2 hP
        refine con_runP Try.func72 rfl rfl (by simp [Try.ntmps72]) rfl ?_
        simp only [s0P, mkPs, mkPA, mkC, argA, numT, eq_self, xRun, vE, vP, isCutO, gN, isPick, isCall, AS.pt, AS.ev, AS.box, look, avB, td0, td1, td2, td3, td4, td5, td6, Option.getD, List.nil_append, ↓reduceIte, Nat.reduceLT, Nat.zero_add, true_and, Bool.false_eq_true, Nat.succ_ne_zero, Try.ntmps72]
        refine sw_call (hN) rfl (aAs_ok ?_) ?_ (sw_run 200 _ _ _ ?_)
        · simp only [aAs, aA, aD, AS.ev, look, Option.getD, List.map, List.append_nil, ↓reduceIte, eq_self, and_self]
        · simp only [okR]
        simp only [mkR, flatD, packA, retA, List.headD_cons, eq_self, xRun, gN, isPick, isCall, AS.pt, td0, td1, td2, td3, td4, td5, td6, ↓reduceIte, Nat.reduceLT, Bool.false_eq_true]
        refine sw_call (hO) rfl (aAs_ok ?_) ?_ (sw_run 200 _ _ _ ?_)
        · simp only [aAs, aA, aD, AS.ev, look, Option.getD, List.map, List.append_nil, ↓reduceIte, eq_self, and_self]
        · simp only [okR]
        simp only [mkR, flatD, packA, retA, List.headD_cons, eq_self, xRun, vE, vP, isCutO, gN, isPick, isCall, AS.pt, AS.ev, look, td0, td1, td2, td3, td4, td5, td6, Option.getD, ↓reduceIte, Nat.reduceLT, Nat.reduceEqDiff, true_and, Bool.false_eq_true, reduceCtorEq]
        refine sw_callPR (hP) rfl rfl rfl ?_ ?_ ?_ (sw_run 200 _ _ _ ?_)
        · simp only [rC, rCs, AS.em, mPs, mP, aA, aD, rD, eq_self, AS.ev, look, td0, td1, td2, td3, td4, td5, td6, Option.getD, List.map, List.append_nil, ↓reduceIte, Nat.reduceEqDiff, and_self]
        · simp only [eC, eCs, ePs, eP, eq_self, AS.ev, look, td0, td1, td2, td3, td4, td5, td6, Option.getD, List.map, List.nodup_nil, List.append_nil, ↓reduceIte, Nat.reduceEqDiff]
        · simp only [bPs, bP, eq_self, AS.ev, look, td0, td1, td2, td3, td4, td5, td6, Option.getD, List.map, List.not_mem_nil, List.nodup_cons, List.nodup_nil, List.append_nil, ↓reduceIte, Nat.reduceEqDiff, not_false_eq_true, and_self]
        simp only [mkC, eC, eCs, aftS, aftV, AS.kb, rmBs, rmB, mkO, packRA, flatR, ePs, eP, bPs, bP, AS.kl, retA, List.headD_cons, List.tail_cons, eq_self, xRun, vE, vP, vNot, vExt, vRow, isCutO, xFill, isB, bv, gN, isPick, isCall, AS.pt, AS.ev, AS.mk', kill, look, cav, avB, setRowG, AV.cells, AV.whole, AV.one, cD, cDs, eatsOf, dpOf, td0, td1, td2, td3, td4, td5, td6, Option.getD, Option.isSome, List.map, List.length, List.getElem?_cons_zero, List.getElem?_cons_succ, List.set, List.foldr, List.all, List.replicate, List.nodup_nil, List.append_nil, ↓reduceIte, Nat.reduceLT, Nat.reduceAdd, Nat.reduceLeDiff, Nat.reduceEqDiff, Nat.zero_add, Nat.mul_one, true_and, or_true, Bool.and_true, Bool.not_true, Bool.false_eq_true, and_self, Nat.succ_ne_zero, Nat.le_refl]
        refine sw_rounds 2 (sw_run 200 _ _ _ ?_)
        simp only [rowD, eq_self, xRun, vE, vP, vSub, vLoad, vFld, vIdx, vBin, vBinT, isAg, isBo, vStore, vStE, primD, primDs, stDs, AS.setO, AV.unsp, AV.unsps, unspT, unspB, isCutO, isB, bv, gN, isPick, isCall, AS.pt, AS.ev, AS.owf, look, cav, avB, setRowG, AV.cells, td0, td1, td2, td3, td4, td5, td6, Option.bind, Option.getD, Option.isSome, List.map, List.length, List.getElem?_cons_zero, List.getElem?_cons_succ, List.set, ↓reduceIte, Nat.reduceLT, Nat.reduceEqDiff, Nat.zero_add, Nat.add_zero, ne_eq, not_false_eq_true, true_and, Bool.false_eq_true, id_eq, Int.reduceLT, Int.reduceAdd, Int.toNat_zero, Int.le_refl, decide_true, and_self, Nat.succ_ne_zero, Nat.le_refl, hr, c2, in1, qR_normal]
        refine sw_run 200 _ _ _ ?_
        simp only [fQP, xRetP, rRs, rOs, rC, rCs, eRs, eOs, eC, eCs, aD, rowD, rD, eq_self, xRun, vE, vP, vSub, vLoad, vFld, vIdx, vBin, vBinT, isAg, isBo, vStore, isCutO, isB, bv, gN, isPick, isCall, AS.pt, AS.ev, AS.setb, look, cav, avB, setRowG, AV.cells, AV.whole, AV.one, td0, td1, td2, td3, td4, td5, td6, Option.getD, Option.isSome, List.map, List.length, List.getElem?_cons_zero, List.set, List.not_mem_nil, List.nodup_cons, List.nodup_nil, List.append_nil, ↓reduceIte, Nat.reduceLT, Nat.reduceAdd, Nat.reduceEqDiff, Nat.zero_add, Nat.add_zero, ne_eq, not_false_eq_true, or_false, Bool.false_eq_true, reduceCtorEq, Int.reduceLT, Int.reduceLE, Int.toNat_one, decide_true, and_self, Nat.succ_ne_zero, Nat.le_refl, hr2, c2, qR_ret, Try.results72]
      | false =>
        rw [if_neg (by simp)]
        rw [mn b hb] at e2
        have hU := con_pushS m1 0 (.num (apV s a.n b.n)) hml
        unfold mcS at hP hU ⊢
        unfold vlQ at hU
        simp only [nm_m, nm_f, nm_r, nm_c, List.length_nil, flC] at hU ⊢
        simp only [e1, e2, ha, hb, List.cons_append, List.nil_append] at hr hr2 hP
        refine con_runP Try.func72 rfl rfl (by simp [Try.ntmps72]) rfl ?_
        simp only [s0P, mkPs, mkPA, mkC, argA, numT, eq_self, xRun, vE, vP, isCutO, gN, isPick, isCall, AS.pt, AS.ev, AS.box, look, avB, td0, td1, td2, td3, td4, td5, td6, Option.getD, List.nil_append, ↓reduceIte, Nat.reduceLT, Nat.zero_add, true_and, Bool.false_eq_true, Nat.succ_ne_zero, Try.ntmps72]
        refine sw_call (hN) rfl (aAs_ok ?_) ?_ (sw_run 200 _ _ _ ?_)
        · simp only [aAs, aA, aD, AS.ev, look, Option.getD, List.map, List.append_nil, ↓reduceIte, eq_self, and_self]
        · simp only [okR]
        simp only [mkR, flatD, packA, retA, List.headD_cons, eq_self, xRun, gN, isPick, isCall, AS.pt, td0, td1, td2, td3, td4, td5, td6, ↓reduceIte, Nat.reduceLT, Bool.false_eq_true]
        refine sw_call (hO) rfl (aAs_ok ?_) ?_ (sw_run 200 _ _ _ ?_)
        · simp only [aAs, aA, aD, AS.ev, look, Option.getD, List.map, List.append_nil, ↓reduceIte, eq_self, and_self]
        · simp only [okR]
        simp only [mkR, flatD, packA, retA, List.headD_cons, eq_self, xRun, vE, vP, isCutO, gN, isPick, isCall, AS.pt, AS.ev, look, td0, td1, td2, td3, td4, td5, td6, Option.getD, ↓reduceIte, Nat.reduceLT, Nat.reduceEqDiff, true_and, Bool.false_eq_true, reduceCtorEq]
        refine sw_callPR (hP) rfl rfl rfl ?_ ?_ ?_ (sw_run 200 _ _ _ ?_)
        · simp only [rC, rCs, AS.em, mPs, mP, aA, aD, rD, eq_self, AS.ev, look, td0, td1, td2, td3, td4, td5, td6, Option.getD, List.map, List.append_nil, ↓reduceIte, Nat.reduceEqDiff, and_self]
        · simp only [eC, eCs, ePs, eP, eq_self, AS.ev, look, td0, td1, td2, td3, td4, td5, td6, Option.getD, List.map, List.nodup_nil, List.append_nil, ↓reduceIte, Nat.reduceEqDiff]
        · simp only [bPs, bP, eq_self, AS.ev, look, td0, td1, td2, td3, td4, td5, td6, Option.getD, List.map, List.not_mem_nil, List.nodup_cons, List.nodup_nil, List.append_nil, ↓reduceIte, Nat.reduceEqDiff, not_false_eq_true, and_self]
        simp only [mkC, eC, eCs, aftS, aftV, AS.kb, rmBs, rmB, mkO, packRA, flatR, ePs, eP, bPs, bP, AS.kl, retA, List.headD_cons, List.tail_cons, eq_self, xRun, vE, vP, vNot, vExt, vRow, isCutO, xFill, isB, bv, gN, isPick, isCall, AS.pt, AS.ev, AS.mk', kill, look, cav, avB, setRowG, AV.cells, AV.whole, AV.one, cD, cDs, eatsOf, dpOf, td0, td1, td2, td3, td4, td5, td6, Option.getD, Option.isSome, List.map, List.length, List.getElem?_cons_zero, List.getElem?_cons_succ, List.set, List.foldr, List.all, List.replicate, List.nodup_nil, List.append_nil, ↓reduceIte, Nat.reduceLT, Nat.reduceAdd, Nat.reduceLeDiff, Nat.reduceEqDiff, Nat.zero_add, Nat.mul_one, true_and, or_true, Bool.and_true, Bool.not_true, Bool.false_eq_true, and_self, Nat.succ_ne_zero, Nat.le_refl]
        refine sw_rounds 2 (sw_run 200 _ _ _ ?_)
        simp only [rowD, eq_self, xRun, vE, vP, vSub, vLoad, vFld, vIdx, vBin, vBinT, isAg, isBo, vStore, vStE, primD, primDs, stDs, AS.setO, AV.unsp, AV.unsps, unspT, unspB, isCutO, isB, bv, gN, isPick, isCall, AS.pt, AS.ev, AS.owf, look, cav, avB, setRowG, AV.cells, td0, td1, td2, td3, td4, td5, td6, Option.bind, Option.getD, Option.isSome, List.map, List.length, List.getElem?_cons_zero, List.getElem?_cons_succ, List.set, ↓reduceIte, Nat.reduceLT, Nat.reduceEqDiff, Nat.zero_add, Nat.add_zero, ne_eq, not_false_eq_true, true_and, Bool.false_eq_true, id_eq, Int.reduceLT, Int.reduceAdd, Int.toNat_zero, Int.le_refl, decide_true, and_self, Nat.succ_ne_zero, Nat.le_refl, hr, c2, in1, qR_normal]
        refine sw_run 200 _ _ _ ?_
        simp only [rowD, eq_self, xRun, vE, vP, vSub, vLoad, vFld, vIdx, vBin, vBinT, isAg, isBo, vStore, vStE, primD, primDs, stDs, AS.setO, AV.unsp, AV.unsps, unspT, unspB, isCutO, isB, bv, gN, isPick, isCall, AS.pt, AS.ev, AS.owf, look, cav, avB, setRowG, AV.cells, td0, td1, td2, td3, td4, td5, td6, Option.bind, Option.getD, Option.isSome, List.map, List.length, List.getElem?_cons_zero, List.getElem?_cons_succ, List.set, ↓reduceIte, Nat.reduceLT, Nat.reduceEqDiff, Nat.zero_add, Nat.add_zero, ne_eq, not_false_eq_true, true_and, Bool.false_eq_true, id_eq, Int.reduceLT, Int.reduceLE, Int.reduceAdd, Int.toNat_one, decide_true, and_self, Nat.succ_ne_zero, Nat.le_refl, hr2, c2, in2, qR_normal]
        refine sw_run 200 _ _ _ ?_
        simp only [eq_self, xRun, vE, vP, vBin, vBinT, isAg, isBo, isCutO, isB, bv, gN, isPick, isCall, popTo, AS.pt, AS.ev, look, td0, td1, td2, td3, td4, td5, td6, Option.getD, Option.isSome, ↓reduceIte, Nat.reduceLT, Nat.reduceEqDiff, true_and, Bool.false_eq_true, Int.reduceLT, decide_false, qR_exit]
        refine sw_run 200 _ _ _ ?_
        simp only [eq_self, xRun, td0, td1, td2, td3, td4, td5, td6, ↓reduceIte]
        refine sw_drawn (.cons 0 true (.cons 2 true (.cons 3 true (.cons 4 true (.cons 5 true (.cons 6 true (.cons 7 true (.cons 1 false (.cons 8 false (.cons 9 true (.cons 10 true (.cons 11 true (.cons 12 true (.cons 13 true (.nil))))))))))))))) (by kernel_rfl) fQP_panic (by kernel_rfl) (sw_run 200 _ _ _ ?_)
        simp only [rowD, eq_self, xRun, vP, vSub, vLoad, vIdx, gN, isPick, isCall, AS.pt, AS.ev, AS.owf, look, cav, avO, avF, td0, td1, td2, td3, td4, td5, td6, Option.bind, Option.getD, Option.isSome, List.map, List.take, List.drop, List.getElem?_cons_zero, List.getElem?_cons_succ, ↓reduceIte, Nat.reduceLT, Nat.reduceEqDiff, true_and, Bool.false_eq_true, id_eq, Int.reduceLT, Int.reduceLE, Int.toNat_zero, Int.toNat_one, Int.le_refl, and_self, Nat.succ_ne_zero, c2, rowAt]
        refine sw_callD (hN) rfl (aAs_ok ?_) ?_ (sw_run 200 _ _ _ ?_)
        · simp only [aAs, aA, aD, AS.ev, look, Option.getD, List.map, List.append_nil, ↓reduceIte, Nat.reduceEqDiff, eq_self, and_self]
        · simp only [okR]
        simp only [mkR, flatD, packA, retA, List.headD_cons, eq_self, xRun, gN, isCall, AS.pt, td0, td1, td2, td3, td4, td5, td6, Option.getD, Option.isSome, List.getElem?_cons_zero, List.getElem?_cons_succ, ↓reduceIte, Nat.reduceLT, true_and]
        refine sw_callD (hA a.n b.n) rfl (aAs_ok ?_) ?_ (sw_run 200 _ _ _ ?_)
        · simp only [aAs, aA, aD, AS.ev, look, Option.getD, List.map, List.append_nil, ↓reduceIte, Nat.reduceEqDiff, eq_self, and_self]
        · simp only [okR]
        simp only [mkR, flatD, packA, retA, List.headD_cons, List.tail_cons, eq_self, xRun, vE, vP, vExt, vBuild, isCutO, xFill, gN, isPick, isCall, AS.pt, AS.ev, look, setRowG, AV.cells, AV.whole, AV.one, td0, td1, td2, td3, td4, td5, td6, Option.getD, Option.isSome, List.map, List.length, List.getElem?_cons_zero, List.getElem?_cons_succ, List.set, ↓reduceIte, Nat.reduceLT, Nat.reduceAdd, Nat.reduceLeDiff, Nat.reduceEqDiff, Nat.zero_add, true_and, Bool.false_eq_true, reduceCtorEq, and_self]
        refine sw_callPR (hU) rfl rfl rfl ?_ ?_ ?_ (sw_run 200 _ _ _ ?_)
        · simp only [rC, rCs, AS.em, mPs, mP, aD, rD, eq_self, AS.ev, look, td0, td1, td2, td3, td4, td5, td6, Option.getD, List.map, List.append_nil, ↓reduceIte, Nat.reduceEqDiff, and_self]
        · simp only [eC, eCs, ePs, eP, eq_self, AS.ev, look, td0, td1, td2, td3, td4, td5, td6, Option.getD, List.map, List.nodup_nil, List.append_nil, ↓reduceIte, Nat.reduceEqDiff]
        · simp only [bPs, bP, eq_self, AS.ev, look, td0, td1, td2, td3, td4, td5, td6, Option.getD, List.map, List.not_mem_nil, List.nodup_cons, List.nodup_nil, List.append_nil, ↓reduceIte, Nat.reduceEqDiff, not_false_eq_true, and_self]
        simp only [mkC, fQP, xRetP, rRs, rOs, rC, rCs, eRs, eOs, eC, eCs, aftS, aftV, AS.kb, rmBs, rmB, mkO, packRA, flatR, ePs, eP, bPs, bP, aD, AS.kl, retA, rD, eq_self, xRun, AS.pt, AS.ev, kill, look, avB, td0, td1, td2, td3, td4, td5, td6, Option.getD, List.map, List.foldr, List.not_mem_nil, List.nodup_cons, List.nodup_nil, List.append_nil, ↓reduceIte, Nat.reduceLT, Nat.reduceEqDiff, not_false_eq_true, or_true, reduceCtorEq, and_self, Try.results72]
end Go.Proofs.Ytgjcilainojlfaa
/-
  The reference's machine: variables, jumps, calls, returns.
-/
namespace Go.Proofs.Ytgjcilainojlfaa
open Go.RowKit
set_option linter.unusedVariables false
set_option linter.unusedSimpArgs false
def varM (m : Mch) (a : Int) : Int × Mch := if m.nm.length ≤ a.toNat then (4, m) else (0, pushM m (m.nm[m.nm.length - 1 - a.toNat]!))
def unlM (m : Mch) (a : Int) : Int × Mch := if m.st.length < 1 then (4, m) else if ((topM m 1)[0]!).f = true then (3, popM m 1) else if ((topM m 1)[0]!).n = 0 then (0, pcM (popM m 1) a) else (0, popM m 1)
def bndM (m : Mch) : Int × Mch := if m.st.length < 1 then (4, m) else (0, nmM (popM m 1) (m.nm ++ [(topM m 1)[0]!]))
def unbM (m : Mch) : Int × Mch := if m.nm.length = 0 then (4, m) else (0, nmM m (m.nm.take (m.nm.length - 1)))
theorem mn_eq {v : Vl} (h : v.f = false) : v.m = v.n := by cases v <;> first | rfl | cases h
theorem mp_eq {v : Vl} (h : v.f = true) : v.m = v.p := by cases v <;> first | rfl | cases h
set_option maxRecDepth 20000 in
theorem con_varS (m : Mch) (a : Int) (hm : SzM m) (ha : 0 ≤ a ∧ a ≤ 299) : ConP Try.prog 71 [.p (mcS m 0), .b (.one (.int a))] [mcS (varM m a).2 (varM m a).1] [] := by
  have hst := hm.st
  have hnm := hm.nm
  unfold varM
  by_cases h : m.nm.length ≤ a.toNat
  · rw [if_pos h]
    have h' : (m.nm.length : Int) ≤ a := by omega
    unfold mcS
    refine con_runP Try.func71 rfl rfl (by simp [Try.ntmps71]) rfl ?_
    simp only [s0P, mkPs, mkPA, mkC, fQP, xRetP, rRs, rOs, rC, rCs, eRs, eOs, eC, eCs, aD, argA, numT, rD, eq_self, xRun, vE, vP, vSub, vLoad, vFld, vBin, vBinT, isAg, isBo, vLen, vStore, isCutO, isB, bv, gN, isPick, isCall, AS.pt, AS.ev, AS.box, AS.setb, AS.rd, look, cav, avB, setRowG, AV.cells, AV.whole, AV.one, td0, td1, td2, td3, td4, td5, td6, Option.getD, Option.isSome, List.map, List.length, List.getElem?_cons_zero, List.getElem?_cons_succ, List.set, List.not_mem_nil, List.nodup_cons, List.nodup_nil, List.nil_append, List.append_nil, ↓reduceIte, Nat.reduceLT, Nat.reduceAdd, Nat.reduceEqDiff, Nat.zero_add, ne_eq, not_false_eq_true, or_false, Bool.false_eq_true, reduceCtorEq, decide_true, and_self, Nat.succ_ne_zero, Nat.le_refl, h', Try.ntmps71, Try.results71]
  · rw [if_neg h]
    have h' : ¬ (m.nm.length : Int) ≤ a := by omega
    have g0 : (m.nm.length : Int) - 1 - a = ((m.nm.length - 1 - a.toNat : Nat) : Int) := by omega
    have g1 : inI ((m.nm.length : Int) - 1) := by unfold inI; omega
    have g2 : inI ((m.nm.length - 1 - a.toNat : Nat) : Int) := by unfold inI; omega
    have g3 : ((m.nm.length - 1 - a.toNat : Nat) : Int) < (m.nm.length : Int) := by omega
    have hR := flC_row vlS_len m.nm (m.nm.length - 1 - a.toNat) (by omega)
    generalize m.nm[m.nm.length - 1 - a.toNat]! = v at hR ⊢
    rw [vlS_eq] at hR
    have hU := con_pushS m 0 v (by omega)
    unfold mcS vlQ at hU
    unfold mcS
    simp only at hU ⊢
    refine con_runP Try.func71 rfl rfl (by simp [Try.ntmps71]) rfl ?_
    simp only [s0P, mkPs, mkPA, mkC, argA, numT, eq_self, xRun, vE, vP, vSub, vLoad, vFld, vBin, vBinT, isAg, isBo, vLen, isCutO, isB, bv, gN, isPick, isCall, AS.pt, AS.ev, AS.box, AS.rd, look, avB, td0, td1, td2, td3, td4, td5, td6, Option.getD, Option.isSome, List.getElem?_cons_zero, List.getElem?_cons_succ, List.nil_append, ↓reduceIte, Nat.reduceLT, Nat.reduceEqDiff, Nat.zero_add, ne_eq, not_false_eq_true, true_and, Bool.false_eq_true, reduceCtorEq, decide_false, Nat.succ_ne_zero, h', Try.ntmps71]
    refine sw_drawn (.cons 0 true (.cons 1 true (.cons 2 true (.cons 3 true (.cons 4 true (.cons 5 true (.cons 6 true (.cons 7 true (.cons 8 true (.cons 9 true (.cons 10 true (.cons 11 true (.cons 12 true (.cons 13 true (.cons 14 true (.cons 15 false (.nil))))))))))))))))) (by kernel_rfl) fQP_panic (by kernel_rfl) (sw_run 200 _ _ _ ?_)
    simp only [rowD, eq_self, xRun, vP, vSub, vLoad, vFld, vIdx, vBin, vBinT, isAg, isBo, vLen, gN, isPick, isCall, AS.pt, AS.ev, AS.rd, look, cav, avB, td0, td1, td2, td3, td4, td5, td6, Option.getD, Option.isSome, List.map, List.take, List.drop, List.length, List.getElem?_cons_zero, List.getElem?_cons_succ, ↓reduceIte, Nat.reduceLT, Nat.reduceAdd, Nat.reduceEqDiff, Nat.zero_add, ne_eq, not_false_eq_true, true_and, Bool.false_eq_true, reduceCtorEq, Int.toNat_natCast, Int.natCast_nonneg, and_self, Nat.succ_ne_zero, Nat.le_refl, g0, g1, g2, g3, hR]
    refine sw_callDPR (cap := []) (hU) rfl rfl rfl ?_ ?_ ?_ rfl (sw_run 200 _ _ _ ?_)
    · simp only [rC, rCs, AS.em, mPs, mP, aD, rD, eq_self, AS.ev, look, td0, td1, td2, td3, td4, td5, td6, Option.getD, List.map, List.append_nil, ↓reduceIte, Nat.reduceEqDiff, and_self]
    · simp only [eC, eCs, ePs, eP, eq_self, AS.ev, look, td0, td1, td2, td3, td4, td5, td6, Option.getD, List.map, List.nodup_nil, List.append_nil, ↓reduceIte, Nat.reduceEqDiff]
    · simp only [bPs, bP, eq_self, AS.ev, look, td0, td1, td2, td3, td4, td5, td6, Option.getD, List.map, List.not_mem_nil, List.nodup_cons, List.nodup_nil, List.append_nil, ↓reduceIte, Nat.reduceEqDiff, not_false_eq_true, and_self]
    simp only [mkC, fQP, xRetP, rRs, rOs, rC, rCs, eRs, eOs, eC, eCs, aftS, aftV, AS.kb, rmBs, rmB, mkO, packRA, flatR, ePs, eP, bPs, bP, aD, AS.kl, retA, rD, eq_self, xRun, AS.pt, AS.ev, kill, look, avB, td0, td1, td2, td3, td4, td5, td6, Option.getD, List.map, List.foldr, List.not_mem_nil, List.nodup_cons, List.nodup_nil, List.append_nil, ↓reduceIte, Nat.reduceLT, Nat.reduceEqDiff, not_false_eq_true, or_true, reduceCtorEq, and_self, Try.results71]
set_option maxRecDepth 20000 in
theorem con_unlS (m : Mch) (a : Int) (hl : m.st.length ≤ 90000) : ConP Try.prog 73 [.p (mcS m 0), .b (.one (.int a))] [mcS (unlM m a).2 (unlM m a).1] [] := by
  unfold unlM
  have hst := hl
  by_cases h : m.st.length < 1
  · rw [if_pos h]
    have hP := con_popS0 m 1 (by omega) (by omega) h
    rw [c1] at hP
    unfold mcS at hP ⊢
    refine con_runP Try.func73 rfl rfl (by simp [Try.ntmps73]) rfl ?_
    simp only [s0P, mkPs, mkPA, mkC, argA, numT, eq_self, xRun, vE, vP, isCutO, gN, isPick, isCall, AS.pt, AS.ev, AS.box, look, avB, td0, td1, td2, td3, td4, td5, td6, Option.getD, List.nil_append, ↓reduceIte, Nat.reduceLT, Nat.zero_add, true_and, Bool.false_eq_true, Try.ntmps73]
    refine sw_callPR (hP) rfl rfl rfl ?_ ?_ ?_ (sw_run 200 _ _ _ ?_)
    · simp only [rC, rCs, AS.em, mPs, mP, aA, aD, rD, eq_self, AS.ev, look, cav, td0, td1, td2, td3, td4, td5, td6, Option.getD, List.map, List.append_nil, ↓reduceIte, and_self]
    · simp only [eC, eCs, ePs, eP, eq_self, AS.ev, look, cav, td0, td1, td2, td3, td4, td5, td6, Option.getD, List.map, List.nodup_nil, List.append_nil, ↓reduceIte]
    · simp only [bPs, bP, eq_self, AS.ev, look, cav, td0, td1, td2, td3, td4, td5, td6, Option.getD, List.map, List.not_mem_nil, List.nodup_cons, List.nodup_nil, List.append_nil, ↓reduceIte, not_false_eq_true, and_self]
    simp only [mkC, fQP, xRetP, rRs, rOs, rC, rCs, eRs, eOs, eC, eCs, aftS, aftV, AS.kb, rmBs, rmB, mkO, packRA, flatR, ePs, eP, bPs, bP, aD, AS.kl, retA, List.headD_cons, List.tail_cons, rD, eq_self, xRun, vE, vP, vNot, vExt, isCutO, isB, bv, gN, isPick, isCall, AS.pt, AS.ev, kill, look, cav, avB, td0, td1, td2, td3, td4, td5, td6, Option.getD, Option.isSome, List.map, List.getElem?_cons_zero, List.getElem?_cons_succ, List.foldr, List.not_mem_nil, List.nodup_cons, List.nodup_nil, List.append_nil, ↓reduceIte, Nat.reduceLT, Nat.reduceEqDiff, not_false_eq_true, or_false, Bool.not_false, Bool.false_eq_true, reduceCtorEq, and_self, Try.results73]
  rw [if_neg h]
  have hP := con_popS1 m 1 (by omega) (by omega) (by omega)
  rw [c1] at hP
  obtain ⟨tp, htp⟩ : ∃ tp, tp = topM m 1 := ⟨_, rfl⟩
  have htl : tp.length = 1 := by rw [htp, top_len]; omega
  rw [← htp] at hP ⊢
  rw [list_one htl] at hP ⊢
  generalize tp[0]! = v at hP ⊢
  have e0 : [v][0]! = v := rfl
  rw [e0]
  have hr := rowS1 v
  have e1 := vlS_eq v
  simp only [flC_one, List.length_singleton] at hP
  have pp : (popM m 1).pc = m.pc := rfl
  have pn : (popM m 1).nm = m.nm := rfl
  have pf : (popM m 1).fr = m.fr := rfl
  cases hv : v.f with
  | true =>
    rw [if_pos rfl]
    simp only [e1, hv] at hr hP
    unfold mcS at hP ⊢
    refine con_runP Try.func73 rfl rfl (by simp [Try.ntmps73]) rfl ?_
    simp only [s0P, mkPs, mkPA, mkC, argA, numT, eq_self, xRun, vE, vP, isCutO, gN, isPick, isCall, AS.pt, AS.ev, AS.box, look, avB, td0, td1, td2, td3, td4, td5, td6, Option.getD, List.nil_append, ↓reduceIte, Nat.reduceLT, Nat.zero_add, true_and, Bool.false_eq_true, Try.ntmps73]
    refine sw_callPR (hP) rfl rfl rfl ?_ ?_ ?_ (sw_run 200 _ _ _ ?_)
    · simp only [rC, rCs, AS.em, mPs, mP, aA, aD, rD, eq_self, AS.ev, look, cav, td0, td1, td2, td3, td4, td5, td6, Option.getD, List.map, List.append_nil, ↓reduceIte, and_self]
    · simp only [eC, eCs, ePs, eP, eq_self, AS.ev, look, cav, td0, td1, td2, td3, td4, td5, td6, Option.getD, List.map, List.nodup_nil, List.append_nil, ↓reduceIte]
    · simp only [bPs, bP, eq_self, AS.ev, look, cav, td0, td1, td2, td3, td4, td5, td6, Option.getD, List.map, List.not_mem_nil, List.nodup_cons, List.nodup_nil, List.append_nil, ↓reduceIte, not_false_eq_true, and_self]
    simp only [mkC, fQP, xRetP, rRs, rOs, rC, rCs, eRs, eOs, eC, eCs, aftS, aftV, AS.kb, rmBs, rmB, mkO, packRA, flatR, ePs, eP, bPs, bP, aD, AS.kl, retA, List.headD_cons, List.tail_cons, rowD, rD, eq_self, xRun, vE, vP, vSub, vLoad, vFld, vIdx, vNot, vExt, vStore, isCutO, isB, bv, gN, isPick, isCall, AS.pt, AS.ev, AS.setb, kill, look, cav, avB, setRowG, AV.cells, AV.whole, AV.one, td0, td1, td2, td3, td4, td5, td6, Option.getD, Option.isSome, List.map, List.length, List.getElem?_cons_zero, List.getElem?_cons_succ, List.set, List.foldr, List.not_mem_nil, List.nodup_cons, List.nodup_nil, List.append_nil, ↓reduceIte, Nat.reduceLT, Nat.reduceAdd, Nat.reduceEqDiff, Nat.zero_add, Nat.add_zero, ne_eq, not_false_eq_true, or_true, Bool.not_true, Bool.false_eq_true, reduceCtorEq, Int.reduceLT, Int.toNat_zero, Int.le_refl, and_self, Nat.succ_ne_zero, Nat.le_refl, hr, c1, Try.results73]
  | false =>
    rw [if_neg (by simp)]
    rw [mn_eq hv] at e1
    simp only [e1, hv] at hr hP
    by_cases hz : v.n = 0
    · rw [if_pos hz]
      simp only [hz] at hr hP
      unfold mcS at hP ⊢
      simp only [pcM]
      refine con_runP Try.func73 rfl rfl (by simp [Try.ntmps73]) rfl ?_
      simp only [s0P, mkPs, mkPA, mkC, argA, numT, eq_self, xRun, vE, vP, isCutO, gN, isPick, isCall, AS.pt, AS.ev, AS.box, look, avB, td0, td1, td2, td3, td4, td5, td6, Option.getD, List.nil_append, ↓reduceIte, Nat.reduceLT, Nat.zero_add, true_and, Bool.false_eq_true, Try.ntmps73]
      refine sw_callPR (hP) rfl rfl rfl ?_ ?_ ?_ (sw_run 200 _ _ _ ?_)
      · simp only [rC, rCs, AS.em, mPs, mP, aA, aD, rD, eq_self, AS.ev, look, cav, td0, td1, td2, td3, td4, td5, td6, Option.getD, List.map, List.append_nil, ↓reduceIte, and_self]
      · simp only [eC, eCs, ePs, eP, eq_self, AS.ev, look, cav, td0, td1, td2, td3, td4, td5, td6, Option.getD, List.map, List.nodup_nil, List.append_nil, ↓reduceIte]
      · simp only [bPs, bP, eq_self, AS.ev, look, cav, td0, td1, td2, td3, td4, td5, td6, Option.getD, List.map, List.not_mem_nil, List.nodup_cons, List.nodup_nil, List.append_nil, ↓reduceIte, not_false_eq_true, and_self]
      simp only [mkC, fQP, xRetP, rRs, rOs, rC, rCs, eRs, eOs, eC, eCs, aftS, aftV, AS.kb, rmBs, rmB, mkO, packRA, flatR, ePs, eP, bPs, bP, aD, AS.kl, retA, List.headD_cons, List.tail_cons, rowD, rD, eq_self, xRun, vE, vP, vSub, vLoad, vFld, vIdx, vBin, vBinT, isAg, isBo, vNot, vExt, vStore, isCutO, isB, bv, gN, isPick, isCall, AS.pt, AS.ev, AS.setb, kill, look, cav, avB, setRowG, AV.cells, AV.whole, AV.one, td0, td1, td2, td3, td4, td5, td6, Option.getD, Option.isSome, List.map, List.length, List.getElem?_cons_zero, List.getElem?_cons_succ, List.set, List.foldr, List.not_mem_nil, List.nodup_cons, List.nodup_nil, List.append_nil, ↓reduceIte, Nat.reduceLT, Nat.reduceAdd, Nat.reduceLeDiff, Nat.reduceEqDiff, Nat.zero_add, Nat.add_zero, ne_eq, not_false_eq_true, or_true, Bool.not_true, Bool.false_eq_true, reduceCtorEq, Int.reduceLT, Int.toNat_zero, Int.le_refl, decide_true, and_self, Nat.succ_ne_zero, hr, c1, Try.results73]
    · rw [if_neg hz]
      have hz' : (v.n = 0) = False := eq_false hz
      unfold mcS at hP ⊢
      refine con_runP Try.func73 rfl rfl (by simp [Try.ntmps73]) rfl ?_
      simp only [s0P, mkPs, mkPA, mkC, argA, numT, eq_self, xRun, vE, vP, isCutO, gN, isPick, isCall, AS.pt, AS.ev, AS.box, look, avB, td0, td1, td2, td3, td4, td5, td6, Option.getD, List.nil_append, ↓reduceIte, Nat.reduceLT, Nat.zero_add, true_and, Bool.false_eq_true, Try.ntmps73]
      refine sw_callPR (hP) rfl rfl rfl ?_ ?_ ?_ (sw_run 200 _ _ _ ?_)
      · simp only [rC, rCs, AS.em, mPs, mP, aA, aD, rD, eq_self, AS.ev, look, cav, td0, td1, td2, td3, td4, td5, td6, Option.getD, List.map, List.append_nil, ↓reduceIte, and_self]
      · simp only [eC, eCs, ePs, eP, eq_self, AS.ev, look, cav, td0, td1, td2, td3, td4, td5, td6, Option.getD, List.map, List.nodup_nil, List.append_nil, ↓reduceIte]
      · simp only [bPs, bP, eq_self, AS.ev, look, cav, td0, td1, td2, td3, td4, td5, td6, Option.getD, List.map, List.not_mem_nil, List.nodup_cons, List.nodup_nil, List.append_nil, ↓reduceIte, not_false_eq_true, and_self]
      simp only [mkC, fQP, xRetP, rRs, rOs, rC, rCs, eRs, eOs, eC, eCs, aftS, aftV, AS.kb, rmBs, rmB, mkO, packRA, flatR, ePs, eP, bPs, bP, aD, AS.kl, retA, List.headD_cons, List.tail_cons, rowD, rD, eq_self, xRun, vE, vP, vSub, vLoad, vFld, vIdx, vBin, vBinT, isAg, isBo, vNot, vExt, isCutO, isB, bv, gN, isPick, isCall, AS.pt, AS.ev, kill, look, cav, avB, td0, td1, td2, td3, td4, td5, td6, Option.getD, Option.isSome, List.map, List.getElem?_cons_zero, List.getElem?_cons_succ, List.foldr, List.not_mem_nil, List.nodup_cons, List.nodup_nil, List.append_nil, ↓reduceIte, Nat.reduceLT, Nat.reduceEqDiff, Nat.zero_add, Nat.add_zero, ne_eq, not_false_eq_true, or_true, Bool.not_true, Bool.false_eq_true, reduceCtorEq, Int.reduceLT, Int.toNat_zero, Int.le_refl, decide_false, and_self, Nat.succ_ne_zero, hr, c1, hz', Try.results73]
set_option maxRecDepth 20000 in
theorem con_bndS (m : Mch) (hl : m.st.length ≤ 90000) (hnm : m.nm.length ≤ 90000) : ConP Try.prog 76 [.p (mcS m 0)] [mcS (bndM m).2 (bndM m).1] [] := by
  unfold bndM
  have hst := hl
  by_cases h : m.st.length < 1
  · rw [if_pos h]
    have hP := con_popS0 m 1 (by omega) (by omega) h
    rw [c1] at hP
    unfold mcS at hP ⊢
    refine con_runP Try.func76 rfl rfl (by simp [Try.ntmps76]) rfl ?_
    simp only [s0P, mkPs, mkPA, mkC, numT, eq_self, xRun, vE, vP, isCutO, gN, isPick, isCall, AS.pt, AS.ev, AS.box, look, avB, td0, td1, td2, td3, td4, td5, td6, Option.getD, List.nil_append, ↓reduceIte, Nat.reduceLT, Nat.zero_add, true_and, Bool.false_eq_true, Try.ntmps76]
    refine sw_callPR (hP) rfl rfl rfl ?_ ?_ ?_ (sw_run 200 _ _ _ ?_)
    · simp only [rC, rCs, AS.em, mPs, mP, aA, aD, rD, eq_self, AS.ev, look, cav, td0, td1, td2, td3, td4, td5, td6, Option.getD, List.map, List.append_nil, ↓reduceIte, and_self]
    · simp only [eC, eCs, ePs, eP, eq_self, AS.ev, look, cav, td0, td1, td2, td3, td4, td5, td6, Option.getD, List.map, List.nodup_nil, List.append_nil, ↓reduceIte]
    · simp only [bPs, bP, eq_self, AS.ev, look, cav, td0, td1, td2, td3, td4, td5, td6, Option.getD, List.map, List.not_mem_nil, List.nodup_cons, List.nodup_nil, List.append_nil, ↓reduceIte, not_false_eq_true, and_self]
    simp only [mkC, fQP, xRetP, rRs, rOs, rC, rCs, eRs, eOs, eC, eCs, aftS, aftV, AS.kb, rmBs, rmB, mkO, packRA, flatR, ePs, eP, bPs, bP, aD, AS.kl, retA, List.headD_cons, List.tail_cons, rD, eq_self, xRun, vE, vP, vExt, isCutO, isB, bv, gN, isPick, isCall, AS.pt, AS.ev, kill, look, cav, avB, td0, td1, td2, td3, td4, td5, td6, Option.getD, Option.isSome, List.map, List.getElem?_cons_zero, List.getElem?_cons_succ, List.foldr, List.not_mem_nil, List.nodup_cons, List.nodup_nil, List.append_nil, ↓reduceIte, Nat.reduceLT, Nat.reduceEqDiff, not_false_eq_true, or_true, Bool.false_eq_true, reduceCtorEq, and_self, Try.results76]
  rw [if_neg h]
  have hP := con_popS1 m 1 (by omega) (by omega) (by omega)
  rw [c1] at hP
  obtain ⟨tp, htp⟩ : ∃ tp, tp = topM m 1 := ⟨_, rfl⟩
  have htl : tp.length = 1 := by rw [htp, top_len]; omega
  rw [← htp] at hP ⊢
  rw [list_one htl] at hP ⊢
  generalize tp[0]! = v at hP ⊢
  have e0 : [v][0]! = v := rfl
  rw [e0]
  have hr := rowS1 v
  have e1 := vlS_eq v
  simp only [flC_one, List.length_singleton] at hP
  have pp : (popM m 1).pc = m.pc := rfl
  have pn : (popM m 1).nm = m.nm := rfl
  have pf : (popM m 1).fr = m.fr := rfl
  simp only [e1] at hr hP
  unfold mcS at hP ⊢
  simp only [nmM]
  rw [flC_app, flC_one, e1, List.length_append, List.length_singleton]
  rw [pp, pn, pf] at hP
  rw [pp, pf]
  refine con_runPF [4] Try.func76 rfl rfl (by simp [Try.ntmps76]) rfl ?_
  simp only [s0P, mkPs, mkPA, mkC, numT, eq_self, xRun, vE, vP, isCutO, gN, isPick, isCall, AS.pt, AS.ev, AS.box, look, avB, td0, td1, td2, td3, td4, td5, td6, Option.getD, List.nil_append, ↓reduceIte, Nat.reduceLT, Nat.zero_add, true_and, Bool.false_eq_true, Try.ntmps76]
  refine sw_callPR (hP) rfl rfl rfl ?_ ?_ ?_ (sw_run 200 _ _ _ ?_)
  · simp only [rC, rCs, AS.em, mPs, mP, aA, aD, rD, eq_self, AS.ev, look, cav, td0, td1, td2, td3, td4, td5, td6, Option.getD, List.map, List.append_nil, ↓reduceIte, and_self]
  · simp only [eC, eCs, ePs, eP, eq_self, AS.ev, look, cav, td0, td1, td2, td3, td4, td5, td6, Option.getD, List.map, List.nodup_nil, List.append_nil, ↓reduceIte]
  · simp only [bPs, bP, eq_self, AS.ev, look, cav, td0, td1, td2, td3, td4, td5, td6, Option.getD, List.map, List.not_mem_nil, List.nodup_cons, List.nodup_nil, List.append_nil, ↓reduceIte, not_false_eq_true, and_self]
  simp only [mkC, eC, eCs, aftS, aftV, AS.kb, rmBs, rmB, mkO, packRA, flatR, ePs, eP, bPs, bP, AS.kl, retA, List.headD_cons, List.tail_cons, eq_self, xRun, vE, vP, vExt, isCutO, isB, bv, gN, isPick, isCall, AS.pt, AS.ev, kill, look, cav, avB, td0, td1, td2, td3, td4, td5, td6, Option.getD, Option.isSome, List.map, List.getElem?_cons_zero, List.getElem?_cons_succ, List.foldr, List.append_nil, ↓reduceIte, Nat.reduceLT, Nat.reduceEqDiff, true_and, Bool.false_eq_true]
  refine sw_drawn (.cons 0 true (.cons 2 true (.cons 3 true (.cons 4 true (.cons 5 true (.cons 7 true (.fork (.alt 1 (.fork (.alt 6 (.cons 8 true (.cons 9 true (.cons 10 false (.cons 11 false (.cons 12 true (.cons 13 true (.cons 14 false (.nil)))))))) (.alt 8 (.fork (.alt 6 (.cons 9 true (.cons 10 false (.cons 11 false (.cons 12 true (.cons 13 true (.cons 14 false (.nil))))))) (.alt 9 (.fork (.alt 6 (.cons 10 false (.cons 11 false (.cons 12 true (.cons 13 true (.cons 14 false (.nil)))))) (.alt 10 (.cons 6 false (.cons 11 false (.cons 12 true (.cons 13 true (.cons 14 false (.nil)))))) (.last)))) (.last)))) (.last)))) (.alt 8 (.fork (.alt 1 (.fork (.alt 6 (.cons 9 true (.cons 10 false (.cons 11 false (.cons 12 true (.cons 13 true (.cons 14 false (.nil))))))) (.alt 9 (.fork (.alt 6 (.cons 10 false (.cons 11 false (.cons 12 true (.cons 13 true (.cons 14 false (.nil)))))) (.alt 10 (.cons 6 false (.cons 11 false (.cons 12 true (.cons 13 true (.cons 14 false (.nil)))))) (.last)))) (.last)))) (.alt 9 (.fork (.alt 1 (.fork (.alt 6 (.cons 10 false (.cons 11 false (.cons 12 true (.cons 13 true (.cons 14 false (.nil)))))) (.alt 10 (.cons 6 false (.cons 11 false (.cons 12 true (.cons 13 true (.cons 14 false (.nil)))))) (.last)))) (.alt 10 (.cons 1 false (.cons 6 false (.cons 11 false (.cons 12 true (.cons 13 true (.cons 14 false (.nil))))))) (.last)))) (.last)))) (.last)))))))))) (by kernel_rfl) fQF_panic (by kernel_rfl) (sw_run 200 _ _ _ ?_)
  simp only [fQF, fQP, xRetP, rRs, rOs, rC, rCs, eRs, eOs, eC, eCs, AS.fzL, AS.fzN, AS.fz, fzT, fzB, AV.fz, AV.fzs, aD, rowD, rD, eq_self, xRun, vE, vP, vSub, vLoad, vFld, vIdx, vRow, vStore, vApp, apP, apC, isCl, xFill, appL, appR, gN, isPick, isCall, AS.pt, AS.ev, AS.setb, AS.mk', AS.owf, kill, look, cav, avB, setRowG, AV.cells, AV.whole, AV.one, cD, cDs, eatsOf, dpOf, td0, td1, td2, td3, td4, td5, td6, Option.bind, Option.getD, Option.isSome, List.map, List.take, List.drop, List.length, List.getElem?_cons_zero, List.getElem?_cons_succ, List.set, List.foldr, List.all, List.replicate, List.mem_cons, List.not_mem_nil, List.nodup_cons, List.nodup_nil, List.nil_append, List.cons_append, List.append_nil, ↓reduceIte, Nat.reduceLT, Nat.reduceAdd, Nat.reduceLeDiff, Nat.reduceEqDiff, Nat.zero_add, Nat.zero_mul, Nat.one_mul, ne_eq, not_false_eq_true, true_and, and_true, or_false, or_true, Bool.and_true, Bool.and_false, Bool.not_true, Bool.false_eq_true, id_eq, reduceCtorEq, Int.reduceLT, Int.toNat_zero, Int.le_refl, and_self, Nat.succ_ne_zero, Nat.zero_le, Nat.le_refl, hr, c1, Nat.zero_add, List.nil_append, Try.results76]
  (try repeat' (with_reducible apply And.intro))
  all_goals first | (intro o h; first | trivial | (intro h2; omega) | omega) | (unfold maxLen; omega) | (unfold inI; omega) | omega | trivial
set_option maxRecDepth 20000 in
theorem con_unbS (m : Mch) (hnm : m.nm.length ≤ 90000) : ConP Try.prog 77 [.p (mcS m 0)] [mcS (unbM m).2 (unbM m).1] [] := by
  unfold unbM
  by_cases h : m.nm.length = 0
  · rw [if_pos h]
    have h' : ((m.nm.length : Int) = 0) = True := eq_true (by omega)
    unfold mcS
    refine con_runP Try.func77 rfl rfl (by simp [Try.ntmps77]) rfl ?_
    simp only [s0P, mkPs, mkPA, mkC, fQP, xRetP, rRs, rOs, rC, rCs, eRs, eOs, eC, eCs, aD, numT, rD, eq_self, xRun, vE, vP, vSub, vLoad, vFld, vBin, vBinT, isAg, isBo, vLen, vStore, isCutO, isB, bv, gN, isPick, isCall, AS.pt, AS.ev, AS.box, AS.setb, AS.rd, look, cav, avB, setRowG, AV.cells, AV.whole, AV.one, td0, td1, td2, td3, td4, td5, td6, Option.getD, Option.isSome, List.map, List.length, List.getElem?_cons_zero, List.getElem?_cons_succ, List.set, List.not_mem_nil, List.nodup_cons, List.nodup_nil, List.nil_append, List.append_nil, ↓reduceIte, Nat.reduceLT, Nat.reduceAdd, Nat.zero_add, ne_eq, not_false_eq_true, or_false, Bool.false_eq_true, reduceCtorEq, decide_true, and_self, Nat.succ_ne_zero, Nat.le_refl, h', Try.ntmps77, Try.results77]
  · rw [if_neg h]
    have h' : ((m.nm.length : Int) = 0) = False := eq_false (by omega)
    have g0 : (m.nm.length : Int) - 1 = ((m.nm.length - 1 : Nat) : Int) := by omega
    have g1 : inI ((m.nm.length - 1 : Nat) : Int) := by unfold inI; omega
    have g2 : ((m.nm.length - 1 : Nat) : Int) ≤ (m.nm.length : Int) := by omega
    have hcut := cut_flC vlS_len m.nm 0 (m.nm.length - 1)
    rw [List.drop_zero, Nat.sub_zero] at hcut
    have htl : (m.nm.take (m.nm.length - 1)).length = m.nm.length - 1 := by rw [List.length_take]; omega
    unfold mcS nmM
    simp only [htl]
    refine con_runPF [2] Try.func77 rfl rfl (by simp [Try.ntmps77]) rfl ?_
    simp only [s0P, mkPs, mkPA, mkC, numT, eq_self, xRun, vE, vP, vSub, vLoad, vFld, vBin, vBinT, isAg, isBo, vLen, isCutO, isB, bv, gN, isPick, isCall, AS.pt, AS.ev, AS.box, AS.rd, look, cav, avB, td0, td1, td2, td3, td4, td5, td6, Option.getD, Option.isSome, List.getElem?_cons_zero, List.getElem?_cons_succ, List.nil_append, ↓reduceIte, Nat.reduceLT, Nat.zero_add, ne_eq, not_false_eq_true, true_and, Bool.false_eq_true, decide_false, Nat.succ_ne_zero, h', Try.ntmps77]
    refine sw_drawn (.cons 0 true (.cons 2 true (.cons 3 true (.cons 4 true (.cons 5 true (.cons 6 true (.cons 7 true (.cons 8 true (.cons 9 true (.cons 10 true (.cons 11 true (.cons 12 true (.cons 1 false (.cons 13 false (.cons 14 true (.cons 15 true (.cons 16 false (.nil)))))))))))))))))) (by kernel_rfl) fQF_panic (by kernel_rfl) (sw_run 200 _ _ _ ?_)
    simp only [fQF, fQP, xRetP, rRs, rOs, rC, rCs, eRs, eOs, eC, eCs, AS.fzL, AS.fzN, AS.fz, fzT, fzB, AV.fz, AV.fzs, aD, rD, eq_self, xRun, vE, vP, vSub, vLoad, vFld, vBin, vBinT, isAg, isBo, vLen, vCut, vSlc, vRow, vStore, vApp, apP, apC, isCl, xFill, appL, appR, ixL, ixH, gN, isPick, isCall, AS.pt, AS.ev, AS.setb, AS.mk', AS.owf, AS.rd, kill, look, cav, setRowG, AV.cells, AV.whole, AV.one, cDs, eatsOf, td0, td1, td2, td3, td4, td5, td6, Option.bind, Option.getD, Option.map, Option.isSome, List.map, List.length, List.getElem?_cons_zero, List.getElem?_cons_succ, List.set, List.foldr, List.all, List.replicate, List.mem_cons, List.not_mem_nil, List.nodup_cons, List.nodup_nil, List.nil_append, List.append_nil, ↓reduceIte, Nat.reduceLT, Nat.reduceAdd, Nat.reduceLeDiff, Nat.reduceEqDiff, Nat.zero_add, Nat.zero_mul, ne_eq, not_false_eq_true, true_and, and_true, or_false, or_true, Bool.and_false, Bool.not_true, Bool.false_eq_true, id_eq, reduceCtorEq, Int.toNat_natCast, Int.toNat_zero, Int.le_refl, Int.natCast_nonneg, and_self, Nat.succ_ne_zero, Nat.zero_le, g0, g1, g2, hcut, Nat.zero_add, List.nil_append, Try.results77]
    (try repeat' (with_reducible apply And.intro))
    all_goals first | (intro o h; first | trivial | (intro h2; omega) | omega) | (unfold maxLen; omega) | (unfold inI; omega) | omega | trivial
def rtV (m : Mch) : Vl := if m.st.length ≠ 1 then .num 0 else m.st[0]!
set_option maxRecDepth 20000 in
theorem con_retS (m : Mch) (hl : m.st.length ≤ 90000) (hf : m.fr.length ≤ 90000) (hfs : ∀ f ∈ m.fr, f.st.length ≤ 90000) : ConP Try.prog 75 [.p (mcS m 0)] [mcS (retM m (.num 0)).2.1 (retM m (.num 0)).1] [.ag (vlQ (rtV m))] := by
  unfold retM rtV
  by_cases h1 : m.st.length ≠ 1
  · rw [if_pos h1, if_pos h1]
    have h1' : ((m.st.length : Int) ≠ 1) = True := eq_true (by omega)
    unfold mcS vlQ
    simp only [nm_m, nm_f, nm_r, nm_c, List.length_nil, flC]
    refine con_runP Try.func75 rfl rfl (by simp [Try.ntmps75]) rfl ?_
    simp only [s0P, mkPs, mkPA, mkC, fQP, xRetP, rRs, rOs, rC, rCs, eRs, eOs, eC, eCs, aD, numT, xRes, rD, eq_self, xRun, vE, vP, vSub, vLoad, vFld, vBin, vBinT, isAg, isBo, vLen, vBuild, vStore, isCutO, xFill, isB, bv, gN, isPick, isCall, AS.pt, AS.ev, AS.box, AS.setb, AS.rd, look, cav, avB, setRowG, AV.cells, AV.whole, AV.one, td0, td1, td2, td3, td4, td5, td6, Option.getD, Option.isSome, List.map, List.length, List.getElem?_cons_zero, List.getElem?_cons_succ, List.set, List.all, List.not_mem_nil, List.nodup_cons, List.nodup_nil, List.nil_append, List.append_nil, ↓reduceIte, Nat.reduceLT, Nat.reduceAdd, Nat.reduceEqDiff, Nat.zero_add, ne_eq, not_false_eq_true, or_false, Bool.and_true, Bool.false_eq_true, reduceCtorEq, decide_true, and_self, Nat.succ_ne_zero, Nat.le_refl, h1', Try.ntmps75, Try.results75]
  rw [if_neg h1, if_neg h1]
  have h1'' : m.st.length = 1 := by omega
  have hs := list_one h1''
  obtain ⟨v, hv⟩ : ∃ v, v = m.st[0]! := ⟨_, rfl⟩
  rw [← hv] at hs ⊢
  obtain ⟨pc, st, nm, fr⟩ := m
  simp only at hs hf hfs ⊢
  subst hs
  clear h1 h1'' hl hv
  have hr := rowS1 v
  have e1 := vlS_eq v
  have es : flC vlS [v] = vlS v := flC_one _ _
  by_cases h2 : fr.length = 0
  · obtain rfl := List.eq_nil_of_length_eq_zero h2
    rw [if_pos h2]
    unfold mcS vlQ
    simp only [e1, List.length_cons, List.length_nil, Nat.zero_add, flC] at hr ⊢
    refine con_runP Try.func75 rfl rfl (by simp [Try.ntmps75]) rfl ?_
    simp only [s0P, mkPs, mkPA, mkC, fQP, xRetP, rRs, rOs, rC, rCs, eRs, eOs, eC, eCs, aD, numT, rowD, xRes, rD, eq_self, xRun, vE, vP, vSub, vLoad, vFld, vIdx, vBin, vBinT, isAg, isBo, vLen, vStore, isCutO, isB, bv, gN, isPick, isCall, AS.pt, AS.ev, AS.box, AS.setb, AS.rd, look, cav, avB, setRowG, AV.cells, AV.whole, AV.one, td0, td1, td2, td3, td4, td5, td6, Option.getD, Option.isSome, List.map, List.take, List.drop, List.length, List.getElem?_cons_zero, List.getElem?_cons_succ, List.set, List.all, List.not_mem_nil, List.nodup_cons, List.nodup_nil, List.nil_append, List.append_nil, ↓reduceIte, Nat.reduceLT, Nat.reduceAdd, Nat.reduceEqDiff, Nat.zero_add, ne_eq, not_false_eq_true, not_true_eq_false, or_false, Bool.and_true, Bool.false_eq_true, reduceCtorEq, Int.reduceLT, Int.toNat_zero, Int.natCast_zero, Int.le_refl, decide_true, decide_false, and_self, Nat.succ_ne_zero, Nat.le_refl, hr, c1, Int.natCast_zero, Try.ntmps75, Try.results75]
  · rw [if_neg h2]
    have h2' : ((fr.length : Int) = 0) = False := eq_false (by omega)
    have hk : fr.length - 1 < fr.length := by omega
    have g0 : (fr.length : Int) - 1 = ((fr.length - 1 : Nat) : Int) := by omega
    have g2 : inI ((fr.length - 1 : Nat) : Int) := by unfold inI; omega
    have g3 : ((fr.length - 1 : Nat) : Int) < (fr.length : Int) := by omega
    have g4 : ((fr.length - 1 : Nat) : Int) ≤ (fr.length : Int) := by omega
    have hR := flC_row frS_len fr (fr.length - 1) hk
    have hcut := cut_flC frS_len fr 0 (fr.length - 1)
    rw [List.drop_zero, Nat.sub_zero] at hcut
    have hfm := hfs _ (mem_bang hk)
    generalize fr[fr.length - 1]! = f at hR hfm ⊢
    obtain ⟨fp, fs, fn⟩ := f
    simp only at hfm ⊢
    have htl : (fr.take (fr.length - 1)).length = fr.length - 1 := by rw [List.length_take]; omega
    have hU := con_pushS ⟨fp, fs, fn, fr.take (fr.length - 1)⟩ 0 v (by simp only; omega)
    unfold pushM mcS vlQ at hU
    unfold mcS vlQ
    simp only [htl] at hU ⊢
    simp only [frS, vsS] at hR
    simp only [es, e1, List.length_cons, List.length_nil, Nat.zero_add] at hr ⊢
    refine con_runP Try.func75 rfl rfl (by simp [Try.ntmps75]) rfl ?_
    simp only [s0P, mkPs, mkPA, mkC, numT, rowD, eq_self, xRun, vE, vP, vSub, vLoad, vFld, vIdx, vBin, vBinT, isAg, isBo, vLen, vCut, vSlc, vRow, vStore, vApp, apP, apC, isCl, isCutO, xFill, appL, appR, ixL, ixH, isB, bv, gN, isPick, isCall, AS.pt, AS.ev, AS.box, AS.setb, AS.mk', AS.owf, AS.rd, kill, look, cav, avB, setRowG, AV.cells, AV.whole, AV.one, cDs, eatsOf, td0, td1, td2, td3, td4, td5, td6, Option.bind, Option.getD, Option.map, Option.isSome, List.map, List.take, List.drop, List.length, List.getElem?_cons_zero, List.getElem?_cons_succ, List.set, List.foldr, List.all, List.replicate, List.mem_cons, List.not_mem_nil, List.nodup_nil, List.nil_append, List.append_nil, ↓reduceIte, Nat.reduceLT, Nat.reduceAdd, Nat.reduceLeDiff, Nat.reduceEqDiff, Nat.zero_add, Nat.add_zero, Nat.zero_mul, ne_eq, not_false_eq_true, not_true_eq_false, true_and, or_false, or_true, Bool.and_true, Bool.and_false, Bool.not_true, Bool.false_eq_true, id_eq, reduceCtorEq, Int.toNat_natCast, Int.reduceLT, Int.toNat_zero, Int.le_refl, Int.natCast_nonneg, decide_false, and_self, Nat.succ_ne_zero, Nat.zero_le, Nat.le_refl, hr, hR, c1, h2', g0, g2, g3, g4, hcut, Nat.zero_add, List.nil_append, Try.ntmps75]
    refine ⟨⟨fun _ _ => trivial, by unfold maxLen; omega, by omega⟩, ?_⟩
    refine sw_fzE 5 rfl ?_
    simp only [AS.fz, fzT, fzB, AV.fz, AV.fzs, eq_self, td0, td1, td2, td3, td4, td5, td6, ↓reduceIte, Nat.reduceEqDiff]
    refine sw_callPR (hU) rfl rfl rfl ?_ ?_ ?_ (sw_run 200 _ _ _ ?_)
    · simp only [rC, rCs, AS.em, mPs, mP, aD, rD, eq_self, AS.ev, look, td0, td1, td2, td3, td4, td5, td6, Option.getD, List.map, List.append_nil, ↓reduceIte, Nat.reduceEqDiff, and_self]
    · simp only [eC, eCs, ePs, eP, eq_self, AS.ev, look, td0, td1, td2, td3, td4, td5, td6, Option.getD, List.map, List.nodup_nil, List.append_nil, ↓reduceIte, Nat.reduceEqDiff]
    · simp only [bPs, bP, eq_self, AS.ev, look, td0, td1, td2, td3, td4, td5, td6, Option.getD, List.map, List.not_mem_nil, List.nodup_cons, List.nodup_nil, List.append_nil, ↓reduceIte, Nat.reduceEqDiff, not_false_eq_true, and_self]
    simp only [mkC, fQP, xRetP, rRs, rOs, rC, rCs, eRs, eOs, eC, eCs, aftS, aftV, AS.kb, rmBs, rmB, mkO, packRA, flatR, ePs, eP, bPs, bP, aD, AS.kl, retA, xRes, rD, eq_self, xRun, vE, vP, vSub, vLoad, vStore, isCutO, gN, isPick, isCall, AS.pt, AS.ev, AS.setb, kill, look, avB, setRowG, AV.cells, AV.whole, AV.one, td0, td1, td2, td3, td4, td5, td6, Option.getD, List.map, List.take, List.drop, List.length, List.set, List.foldr, List.all, List.not_mem_nil, List.nodup_cons, List.nodup_nil, List.append_nil, ↓reduceIte, Nat.reduceLT, Nat.reduceAdd, Nat.reduceEqDiff, Nat.zero_add, not_false_eq_true, or_false, Bool.and_true, Bool.false_eq_true, reduceCtorEq, and_self, Nat.succ_ne_zero, Nat.le_refl, Try.results75]
end Go.Proofs.Ytgjcilainojlfaa
