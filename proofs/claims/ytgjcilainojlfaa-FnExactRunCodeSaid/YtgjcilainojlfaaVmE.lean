/-
  The program's machine: operations, calls, returns, instructions.
-/
import Derived.Test.YtgjcilainojlfaaVmA
import Derived.Test.YtgjcilainojlfaaApO
namespace Go.Proofs.Ytgjcilainojlfaa
open Go.RowKit
set_option linter.unusedVariables false
set_option linter.unusedSimpArgs false
theorem c1 : ((1 : Nat) : Int) = 1 := rfl
theorem c2 : ((2 : Nat) : Int) = 2 := rfl
theorem in1 : inI 1 := by unfold inI; omega
theorem in2 : inI 2 := by unfold inI; omega
theorem list_one {α : Type} [Inhabited α] {l : List α} (h : l.length = 1) : l = [l[0]!] := by
  match l, h with
  | [a], _ => rfl
theorem list_two {α : Type} [Inhabited α] {l : List α} (h : l.length = 2) : l = [l[0]!, l[1]!] := by
  match l, h with
  | [a, b], _ => rfl
theorem row1 (a : Vl) : rowD (.rows 5 1 (vlI a)) 0 = vlI a := by
  unfold rowD rowAt
  simp only [Nat.zero_mul, List.drop_zero]
  rw [List.take_of_length_le (by rw [vlI_len]; exact Nat.le_refl _)]
theorem row2a (a b : Vl) : rowAt 5 (vlI a ++ vlI b) 0 = vlI a := by
  unfold rowAt
  rw [Nat.zero_mul, List.drop_zero, List.take_append_of_le_length (by rw [vlI_len]; exact Nat.le_refl _), List.take_of_length_le (by rw [vlI_len]; exact Nat.le_refl _)]
theorem row2b (a b : Vl) : rowAt 5 (vlI a ++ vlI b) 1 = vlI b := by
  unfold rowAt
  rw [Nat.one_mul, ← vlI_len a, List.drop_left' rfl, vlI_len, List.take_of_length_le (by rw [vlI_len]; exact Nat.le_refl _)]
/-- An operation: how it ends, the machine behind. -/
def opM (m : Mch) (s : ByteArray) : Int × Mch :=
  if m.st.length < (opAr s).toNat then (4, m)
  else if (topM m (opAr s).toNat).any Vl.f = true then (3, popM m (opAr s).toNat)
  else (0, pushM (popM m (opAr s).toNat) (.num (apV s ((topM m (opAr s).toNat)[0]!).n (if opAr s = 2 then ((topM m (opAr s).toNat)[1]!).n else 0))))
set_option maxRecDepth 10000 in
theorem con_operate (m : Mch) (d : Vl) (s : ByteArray) (hl : m.st.length ≤ 100000) (hs : opAr s = 1 ∨ opAr s = 2) : ConP Try.prog 82 [.p (mcI m d), .b (.one (.str s))] [mcI (opM m s).2 d] [.one (.o (.int (opM m s).1))] := by
  have hO := con_OpArI s
  have hk : opAr s = ((opAr s).toNat : Int) := by omega
  rw [hk] at hO
  obtain ⟨k, hkk⟩ : ∃ k, k = (opAr s).toNat := ⟨_, rfl⟩
  have hpc : (popM m k).pc = m.pc := rfl
  have hpn : (popM m k).nm = m.nm := rfl
  have hpf : (popM m k).fr = m.fr := rfl
  unfold opM
  rw [← hkk] at hO ⊢
  by_cases h4 : m.st.length < k
  · rw [if_pos h4]
    have hP := con_pop0 m d k hl (by omega) h4
    unfold mcI at hP ⊢
    simp only
    refine con_runP Try.func82 rfl rfl (by simp [Try.ntmps82]) rfl ?_
    simp only [s0P, mkPs, mkPA, mkC, argA, numT, eq_self, xRun, vE, vP, isCutO, gN, isPick, isCall, AS.pt, AS.ev, AS.box, AS.mk', kill, look, cav, avB, td0, td1, td2, td3, td4, td5, td6, Option.getD, List.foldr, List.nil_append, ↓reduceIte, Nat.reduceLT, Nat.reduceAdd, Nat.reduceEqDiff, Nat.zero_add, true_and, Bool.false_eq_true, reduceCtorEq, Nat.succ_ne_zero, Try.ntmps82]
    refine sw_call (hO) rfl (aAs_ok ?_) ?_ (sw_run 200 _ _ _ ?_)
    · simp only [aAs, aA, aD, AS.ev, look, Option.getD, List.map, List.append_nil, ↓reduceIte, eq_self, and_self]
    · simp only [okR]
    simp only [mkR, flatD, packA, retA, List.headD_cons, eq_self, xRun, gN, isPick, isCall, AS.pt, td0, td1, td2, td3, td4, td5, td6, ↓reduceIte, Nat.reduceLT, Bool.false_eq_true]
    refine sw_callPR (hP) rfl rfl rfl ?_ ?_ ?_ (sw_run 200 _ _ _ ?_)
    · simp only [rC, rCs, AS.em, mPs, mP, aA, aD, rD, eq_self, AS.ev, AS.owf, look, td0, td1, td2, td3, td4, td5, td6, Option.bind, Option.getD, List.map, List.append_nil, ↓reduceIte, Nat.reduceEqDiff, id_eq, and_self]
    · simp only [eC, eCs, ePs, eP, eq_self, AS.ev, look, td0, td1, td2, td3, td4, td5, td6, Option.getD, List.map, List.not_mem_nil, List.nodup_cons, List.nodup_nil, List.nil_append, List.append_nil, ↓reduceIte, Nat.reduceEqDiff, not_false_eq_true, and_self]
    · simp only [bPs, bP, eq_self, AS.ev, look, td0, td1, td2, td3, td4, td5, td6, Option.getD, List.map, List.not_mem_nil, List.nodup_cons, List.nodup_nil, List.append_nil, ↓reduceIte, Nat.reduceEqDiff, not_false_eq_true, and_self]
    simp only [mkC, fQP, xRetP, rRs, rOs, rC, rCs, eRs, eOs, eC, eCs, aftS, aftV, AS.kb, rmBs, rmB, mkO, packRA, flatR, ePs, eP, bPs, bP, aD, AS.kl, retA, List.headD_cons, List.tail_cons, xRes, rD, eq_self, xRun, vE, vP, vNot, vExt, isCutO, isB, bv, gN, isPick, isCall, AS.pt, AS.ev, AS.mk', AS.owf, kill, look, cav, avB, td0, td1, td2, td3, td4, td5, td6, Option.bind, Option.getD, Option.isSome, List.map, List.getElem?_cons_zero, List.getElem?_cons_succ, List.foldr, List.not_mem_nil, List.nodup_cons, List.nodup_nil, List.nil_append, List.append_nil, ↓reduceIte, Nat.reduceLT, Nat.reduceAdd, Nat.reduceEqDiff, not_false_eq_true, or_false, Bool.not_false, Bool.false_eq_true, id_eq, reduceCtorEq, and_self, Try.results82]
  rw [if_neg h4]
  have hP := con_pop1 m d k hl (by omega) (by omega)
  obtain ⟨m1, hm1⟩ : ∃ m1, m1 = popM m k := ⟨_, rfl⟩
  obtain ⟨tp, htp⟩ : ∃ tp, tp = topM m k := ⟨_, rfl⟩
  have htl : tp.length = k := by rw [htp, top_len]; omega
  have hml : m1.st.length ≤ 100000 := by rw [hm1, pop_len]; omega
  rw [← hm1, ← htp] at hP ⊢
  clear hm1 htp h4 hpc hpn hpf
  have hA := con_ApplyI s
  rcases hs with h1 | h2
  · have hk1 : k = 1 := by rw [hkk, h1]; rfl
    subst hk1
    rw [c1] at hO hP
    rw [list_one htl] at hP ⊢
    generalize tp[0]! = a at hP ⊢
    have e1 := vlI_eq a
    simp only [flC_one, List.length_singleton] at hP
    have hn2 : ¬ opAr s = 2 := by omega
    simp only [List.any_cons, List.any_nil, Bool.or_false, hn2, if_false]
    cases ha : a.f with
    | true =>
      rw [if_pos rfl]
      unfold mcI at hP ⊢
      simp only
      have hr := row1 a
      unfold rowD at hr
      simp only [e1, ha] at hr hP
      refine con_runP Try.func82 rfl rfl (by simp [Try.ntmps82]) rfl ?_
      simp only [s0P, mkPs, mkPA, mkC, argA, numT, eq_self, xRun, vE, vP, isCutO, gN, isPick, isCall, AS.pt, AS.ev, AS.box, AS.mk', kill, look, cav, avB, td0, td1, td2, td3, td4, td5, td6, Option.getD, List.foldr, List.nil_append, ↓reduceIte, Nat.reduceLT, Nat.reduceAdd, Nat.reduceEqDiff, Nat.zero_add, true_and, Bool.false_eq_true, reduceCtorEq, Nat.succ_ne_zero, Try.ntmps82]
      refine sw_call (hO) rfl (aAs_ok ?_) ?_ (sw_run 200 _ _ _ ?_)
      · simp only [aAs, aA, aD, AS.ev, look, Option.getD, List.map, List.append_nil, ↓reduceIte, eq_self, and_self]
      · simp only [okR]
      simp only [mkR, flatD, packA, retA, List.headD_cons, eq_self, xRun, gN, isPick, isCall, AS.pt, td0, td1, td2, td3, td4, td5, td6, ↓reduceIte, Nat.reduceLT, Bool.false_eq_true]
      refine sw_callPR (hP) rfl rfl rfl ?_ ?_ ?_ (sw_run 200 _ _ _ ?_)
      · simp only [rC, rCs, AS.em, mPs, mP, aA, aD, rD, eq_self, AS.ev, AS.owf, look, td0, td1, td2, td3, td4, td5, td6, Option.bind, Option.getD, List.map, List.append_nil, ↓reduceIte, Nat.reduceEqDiff, id_eq, and_self]
      · simp only [eC, eCs, ePs, eP, eq_self, AS.ev, look, td0, td1, td2, td3, td4, td5, td6, Option.getD, List.map, List.not_mem_nil, List.nodup_cons, List.nodup_nil, List.nil_append, List.append_nil, ↓reduceIte, Nat.reduceEqDiff, not_false_eq_true, and_self]
      · simp only [bPs, bP, eq_self, AS.ev, look, td0, td1, td2, td3, td4, td5, td6, Option.getD, List.map, List.not_mem_nil, List.nodup_cons, List.nodup_nil, List.append_nil, ↓reduceIte, Nat.reduceEqDiff, not_false_eq_true, and_self]
      simp only [mkC, eC, eCs, aftS, aftV, AS.kb, rmBs, rmB, mkO, packRA, flatR, ePs, eP, bPs, bP, AS.kl, retA, List.headD_cons, List.tail_cons, eq_self, xRun, vE, vP, vNot, vLen, vExt, vRow, isCutO, xFill, isB, bv, gN, isPick, isCall, AS.pt, AS.ev, AS.mk', AS.rd, kill, look, cav, avB, setRowG, AV.cells, AV.whole, AV.one, cD, cDs, eatsOf, dpOf, td0, td1, td2, td3, td4, td5, td6, Option.getD, Option.isSome, List.map, List.length, List.getElem?_cons_zero, List.getElem?_cons_succ, List.set, List.foldr, List.all, List.replicate, List.nodup_nil, List.nil_append, List.append_nil, ↓reduceIte, Nat.reduceLT, Nat.reduceAdd, Nat.reduceLeDiff, Nat.reduceEqDiff, Nat.zero_add, Nat.mul_one, true_and, or_true, Bool.and_true, Bool.not_true, Bool.false_eq_true, and_self, Nat.succ_ne_zero, Nat.le_refl]
      refine sw_rounds 2 (sw_run 200 _ _ _ ?_)
      simp only [fQP, xRetP, rRs, rOs, rC, rCs, eRs, eOs, eC, eCs, aD, rowD, xRes, rD, eq_self, xRun, vE, vP, vSub, vLoad, vFld, vIdx, vBin, vBinT, isAg, isBo, vStore, isCutO, isB, bv, gN, isPick, isCall, AS.pt, AS.ev, AS.box, AS.setb, AS.owf, look, cav, avB, setRowG, AV.cells, AV.whole, AV.one, td0, td1, td2, td3, td4, td5, td6, Option.bind, Option.getD, Option.isSome, List.map, List.take, List.drop, List.length, List.getElem?_cons_zero, List.getElem?_cons_succ, List.set, List.all, List.not_mem_nil, List.nodup_cons, List.nodup_nil, List.nil_append, List.append_nil, ↓reduceIte, Nat.reduceLT, Nat.reduceAdd, Nat.reduceEqDiff, Nat.zero_add, ne_eq, not_false_eq_true, or_false, Bool.and_true, Bool.false_eq_true, id_eq, reduceCtorEq, Int.reduceLT, Int.toNat_zero, Int.le_refl, decide_true, and_self, Nat.succ_ne_zero, Nat.le_refl, hr, c1, qR_ret, Try.results82]
    | false =>
      rw [if_neg (by simp)]
      have e0 : [a][0]! = a := rfl
      rw [e0]
      have hU := con_push m1 d (.num (apV s a.n 0)) hml
      unfold mcI at hP hU ⊢
      unfold vlP at hU
      simp only [nm_n, nm_f, nm_r, nm_p, nm_c, List.length_nil, flC] at hU ⊢
      have hr := row1 a
      unfold rowD at hr
      simp only [e1, ha] at hr hP
      refine con_runP Try.func82 rfl rfl (by simp [Try.ntmps82]) rfl ?_
      simp only [s0P, mkPs, mkPA, mkC, argA, numT, eq_self, xRun, vE, vP, isCutO, gN, isPick, isCall, AS.pt, AS.ev, AS.box, AS.mk', kill, look, cav, avB, td0, td1, td2, td3, td4, td5, td6, Option.getD, List.foldr, List.nil_append, ↓reduceIte, Nat.reduceLT, Nat.reduceAdd, Nat.reduceEqDiff, Nat.zero_add, true_and, Bool.false_eq_true, reduceCtorEq, Nat.succ_ne_zero, Try.ntmps82]
      refine sw_call (hO) rfl (aAs_ok ?_) ?_ (sw_run 200 _ _ _ ?_)
      · simp only [aAs, aA, aD, AS.ev, look, Option.getD, List.map, List.append_nil, ↓reduceIte, eq_self, and_self]
      · simp only [okR]
      simp only [mkR, flatD, packA, retA, List.headD_cons, eq_self, xRun, gN, isPick, isCall, AS.pt, td0, td1, td2, td3, td4, td5, td6, ↓reduceIte, Nat.reduceLT, Bool.false_eq_true]
      refine sw_callPR (hP) rfl rfl rfl ?_ ?_ ?_ (sw_run 200 _ _ _ ?_)
      · simp only [rC, rCs, AS.em, mPs, mP, aA, aD, rD, eq_self, AS.ev, AS.owf, look, td0, td1, td2, td3, td4, td5, td6, Option.bind, Option.getD, List.map, List.append_nil, ↓reduceIte, Nat.reduceEqDiff, id_eq, and_self]
      · simp only [eC, eCs, ePs, eP, eq_self, AS.ev, look, td0, td1, td2, td3, td4, td5, td6, Option.getD, List.map, List.not_mem_nil, List.nodup_cons, List.nodup_nil, List.nil_append, List.append_nil, ↓reduceIte, Nat.reduceEqDiff, not_false_eq_true, and_self]
      · simp only [bPs, bP, eq_self, AS.ev, look, td0, td1, td2, td3, td4, td5, td6, Option.getD, List.map, List.not_mem_nil, List.nodup_cons, List.nodup_nil, List.append_nil, ↓reduceIte, Nat.reduceEqDiff, not_false_eq_true, and_self]
      simp only [mkC, eC, eCs, aftS, aftV, AS.kb, rmBs, rmB, mkO, packRA, flatR, ePs, eP, bPs, bP, AS.kl, retA, List.headD_cons, List.tail_cons, eq_self, xRun, vE, vP, vNot, vLen, vExt, vRow, isCutO, xFill, isB, bv, gN, isPick, isCall, AS.pt, AS.ev, AS.mk', AS.rd, kill, look, cav, avB, setRowG, AV.cells, AV.whole, AV.one, cD, cDs, eatsOf, dpOf, td0, td1, td2, td3, td4, td5, td6, Option.getD, Option.isSome, List.map, List.length, List.getElem?_cons_zero, List.getElem?_cons_succ, List.set, List.foldr, List.all, List.replicate, List.nodup_nil, List.nil_append, List.append_nil, ↓reduceIte, Nat.reduceLT, Nat.reduceAdd, Nat.reduceLeDiff, Nat.reduceEqDiff, Nat.zero_add, Nat.mul_one, true_and, or_true, Bool.and_true, Bool.not_true, Bool.false_eq_true, and_self, Nat.succ_ne_zero, Nat.le_refl, c1]
      refine sw_rounds 2 (sw_run 200 _ _ _ ?_)
      simp only [rowD, eq_self, xRun, vE, vP, vSub, vLoad, vFld, vIdx, vBin, vBinT, isAg, isBo, vStore, vStE, primD, primDs, stDs, AS.setO, AV.unsp, AV.unsps, unspT, unspB, isCutO, isB, bv, gN, isPick, isCall, AS.pt, AS.ev, AS.box, AS.setb, AS.owf, look, cav, avB, setRowG, AV.cells, AV.whole, AV.one, td0, td1, td2, td3, td4, td5, td6, Option.bind, Option.getD, Option.isSome, List.map, List.take, List.drop, List.length, List.getElem?_cons_zero, List.getElem?_cons_succ, List.set, List.all, ↓reduceIte, Nat.reduceLT, Nat.reduceAdd, Nat.reduceEqDiff, Nat.zero_add, Nat.add_zero, ne_eq, not_false_eq_true, true_and, Bool.and_true, Bool.false_eq_true, id_eq, Int.reduceLT, Int.reduceAdd, Int.toNat_zero, Int.le_refl, decide_true, and_self, Nat.succ_ne_zero, Nat.le_refl, hr, c1, c2, in1, qR_normal]
      refine sw_run 200 _ _ _ ?_
      simp only [eq_self, xRun, vE, vP, vBin, vBinT, isAg, isBo, isCutO, isB, bv, gN, isPick, isCall, popTo, AS.pt, AS.ev, look, td0, td1, td2, td3, td4, td5, td6, Option.getD, Option.isSome, ↓reduceIte, Nat.reduceLT, Nat.reduceEqDiff, true_and, Bool.false_eq_true, Int.reduceLT, decide_false, qR_exit]
      refine sw_run 200 _ _ _ ?_
      simp only [eq_self, xRun, td0, td1, td2, td3, td4, td5, td6, ↓reduceIte]
      refine sw_drawn (.cons 0 true (.cons 1 true (.cons 2 true (.cons 3 true (.cons 4 true (.cons 5 true (.cons 6 true (.cons 7 false (.cons 8 true (.cons 9 true (.cons 10 true (.cons 11 true (.cons 12 true (.nil)))))))))))))) (by kernel_rfl) fQP_panic (by kernel_rfl) (sw_run 200 _ _ _ ?_)
      simp only [rowD, eq_self, xRun, vP, vSub, vLoad, vIdx, gN, isPick, isCall, AS.pt, AS.ev, AS.owf, look, cav, avO, avF, td0, td1, td2, td3, td4, td5, td6, Option.bind, Option.getD, Option.isSome, List.map, List.take, List.drop, List.getElem?_cons_zero, List.getElem?_cons_succ, ↓reduceIte, Nat.reduceLT, Nat.reduceEqDiff, true_and, Bool.false_eq_true, id_eq, Int.reduceLT, Int.reduceLE, Int.toNat_zero, Int.toNat_one, Int.le_refl, and_self, Nat.succ_ne_zero, c2, rowAt]
      refine sw_callD (hA a.n 0) rfl (aAs_ok ?_) ?_ (sw_run 200 _ _ _ ?_)
      · simp only [aAs, aA, aD, AS.ev, look, Option.getD, List.map, List.append_nil, ↓reduceIte, Nat.reduceEqDiff, eq_self, and_self]
      · simp only [okR]
      simp only [mkR, flatD, packA, retA, List.headD_cons, List.tail_cons, eq_self, xRun, vE, vP, vExt, vBuild, isCutO, xFill, gN, isPick, isCall, AS.pt, AS.ev, look, setRowG, AV.cells, AV.whole, AV.one, td0, td1, td2, td3, td4, td5, td6, Option.getD, Option.isSome, List.map, List.length, List.getElem?_cons_zero, List.getElem?_cons_succ, List.set, ↓reduceIte, Nat.reduceLT, Nat.reduceAdd, Nat.reduceLeDiff, Nat.reduceEqDiff, Nat.zero_add, true_and, Bool.false_eq_true, reduceCtorEq, and_self]
      refine sw_callPR (hU) rfl rfl rfl ?_ ?_ ?_ (sw_run 200 _ _ _ ?_)
      · simp only [rC, rCs, AS.em, mPs, mP, aD, rD, eq_self, AS.ev, AS.owf, look, td0, td1, td2, td3, td4, td5, td6, Option.bind, Option.getD, List.map, List.append_nil, ↓reduceIte, Nat.reduceEqDiff, id_eq, and_self]
      · simp only [eC, eCs, ePs, eP, eq_self, AS.ev, look, td0, td1, td2, td3, td4, td5, td6, Option.getD, List.map, List.not_mem_nil, List.nodup_cons, List.nodup_nil, List.nil_append, List.append_nil, ↓reduceIte, Nat.reduceEqDiff, not_false_eq_true, and_self]
      · simp only [bPs, bP, eq_self, AS.ev, look, td0, td1, td2, td3, td4, td5, td6, Option.getD, List.map, List.not_mem_nil, List.nodup_cons, List.nodup_nil, List.append_nil, ↓reduceIte, Nat.reduceEqDiff, not_false_eq_true, and_self]
      simp only [mkC, fQP, xRetP, rRs, rOs, rC, rCs, eRs, eOs, eC, eCs, aftS, aftV, AS.kb, rmBs, rmB, mkO, packRA, flatR, ePs, eP, bPs, bP, aD, AS.kl, retA, xRes, rD, eq_self, xRun, vE, vP, isCutO, gN, isPick, isCall, AS.pt, AS.ev, AS.mk', AS.owf, kill, look, cav, avB, td0, td1, td2, td3, td4, td5, td6, Option.bind, Option.getD, List.map, List.foldr, List.not_mem_nil, List.nodup_cons, List.nodup_nil, List.nil_append, List.append_nil, ↓reduceIte, Nat.reduceLT, Nat.reduceAdd, Nat.reduceEqDiff, not_false_eq_true, or_false, Bool.false_eq_true, id_eq, reduceCtorEq, and_self, Try.results82]
  · have hk2 : k = 2 := by rw [hkk, h2]; rfl
    subst hk2
    rw [c2] at hO hP
    rw [list_two htl] at hP ⊢
    generalize tp[0]! = a at hP ⊢
    generalize tp[1]! = b at hP ⊢
    have e1 := vlI_eq a
    have e2 := vlI_eq b
    have hr := row2a a b
    have hr2 := row2b a b
    have e0 : [a, b][0]! = a := rfl
    have e00 : [a, b][1]! = b := rfl
    have ef : flC vlI [a, b] = vlI a ++ vlI b := by simp only [flC, List.append_nil]
    rw [ef] at hP
    simp only [List.length_cons, List.length_nil, Nat.zero_add, Nat.reduceAdd] at hP
    simp only [List.any_cons, List.any_nil, Bool.or_false, h2, if_true, e0, e00]
    cases ha : a.f with
    | true =>
      rw [if_pos (by simp)]
      unfold mcI at hP ⊢
      simp only
      simp only [e1, e2, ha, List.cons_append, List.nil_append] at hr hr2 hP
      refine con_runP Try.func82 rfl rfl (by simp [Try.ntmps82]) rfl ?_
      simp only [s0P, mkPs, mkPA, mkC, argA, numT, eq_self, xRun, vE, vP, isCutO, gN, isPick, isCall, AS.pt, AS.ev, AS.box, AS.mk', kill, look, cav, avB, td0, td1, td2, td3, td4, td5, td6, Option.getD, List.foldr, List.nil_append, ↓reduceIte, Nat.reduceLT, Nat.reduceAdd, Nat.reduceEqDiff, Nat.zero_add, true_and, Bool.false_eq_true, reduceCtorEq, Nat.succ_ne_zero, Try.ntmps82]
      refine sw_call (hO) rfl (aAs_ok ?_) ?_ (sw_run 200 _ _ _ ?_)
      · simp only [aAs, aA, aD, AS.ev, look, Option.getD, List.map, List.append_nil, ↓reduceIte, eq_self, and_self]
      · simp only [okR]
      simp only [mkR, flatD, packA, retA, List.headD_cons, eq_self, xRun, gN, isPick, isCall, AS.pt, td0, td1, td2, td3, td4, td5, td6, ↓reduceIte, Nat.reduceLT, Bool.false_eq_true]
      refine sw_callPR (hP) rfl rfl rfl ?_ ?_ ?_ (sw_run 200 _ _ _ ?_)
      · simp only [rC, rCs, AS.em, mPs, mP, aA, aD, rD, eq_self, AS.ev, AS.owf, look, td0, td1, td2, td3, td4, td5, td6, Option.bind, Option.getD, List.map, List.append_nil, ↓reduceIte, Nat.reduceEqDiff, id_eq, and_self]
      · simp only [eC, eCs, ePs, eP, eq_self, AS.ev, look, td0, td1, td2, td3, td4, td5, td6, Option.getD, List.map, List.not_mem_nil, List.nodup_cons, List.nodup_nil, List.nil_append, List.append_nil, ↓reduceIte, Nat.reduceEqDiff, not_false_eq_true, and_self]
      · simp only [bPs, bP, eq_self, AS.ev, look, td0, td1, td2, td3, td4, td5, td6, Option.getD, List.map, List.not_mem_nil, List.nodup_cons, List.nodup_nil, List.append_nil, ↓reduceIte, Nat.reduceEqDiff, not_false_eq_true, and_self]
      simp only [mkC, eC, eCs, aftS, aftV, AS.kb, rmBs, rmB, mkO, packRA, flatR, ePs, eP, bPs, bP, AS.kl, retA, List.headD_cons, List.tail_cons, eq_self, xRun, vE, vP, vNot, vLen, vExt, vRow, isCutO, xFill, isB, bv, gN, isPick, isCall, AS.pt, AS.ev, AS.mk', AS.rd, kill, look, cav, avB, setRowG, AV.cells, AV.whole, AV.one, cD, cDs, eatsOf, dpOf, td0, td1, td2, td3, td4, td5, td6, Option.getD, Option.isSome, List.map, List.length, List.getElem?_cons_zero, List.getElem?_cons_succ, List.set, List.foldr, List.all, List.replicate, List.nodup_nil, List.nil_append, List.append_nil, ↓reduceIte, Nat.reduceLT, Nat.reduceAdd, Nat.reduceLeDiff, Nat.reduceEqDiff, Nat.zero_add, Nat.mul_one, true_and, or_true, Bool.and_true, Bool.not_true, Bool.false_eq_true, and_self, Nat.succ_ne_zero, Nat.le_refl, c2]
      refine sw_rounds 2 (sw_run 200 _ _ _ ?_)
      simp only [fQP, xRetP, rRs, rOs, rC, rCs, eRs, eOs, eC, eCs, aD, rowD, xRes, rD, eq_self, xRun, vE, vP, vSub, vLoad, vFld, vIdx, vBin, vBinT, isAg, isBo, vStore, isCutO, isB, bv, gN, isPick, isCall, AS.pt, AS.ev, AS.box, AS.setb, AS.owf, look, cav, avB, setRowG, AV.cells, AV.whole, AV.one, td0, td1, td2, td3, td4, td5, td6, Option.bind, Option.getD, Option.isSome, List.map, List.take, List.drop, List.length, List.getElem?_cons_zero, List.getElem?_cons_succ, List.set, List.all, List.not_mem_nil, List.nodup_cons, List.nodup_nil, List.nil_append, List.append_nil, ↓reduceIte, Nat.reduceLT, Nat.reduceAdd, Nat.reduceEqDiff, Nat.zero_add, ne_eq, not_false_eq_true, or_false, Bool.and_true, Bool.false_eq_true, id_eq, reduceCtorEq, Int.reduceLT, Int.toNat_zero, Int.le_refl, decide_true, and_self, Nat.succ_ne_zero, Nat.le_refl, hr, c2, qR_ret, Try.results82]
    | false =>
      cases hb : b.f with
      | true =>
        rw [if_pos (by simp)]
        unfold mcI at hP ⊢
        simp only
        simp only [e1, e2, ha, hb, List.cons_append, List.nil_append] at hr hr2 hP
        refine con_runP Try.func82 rfl rfl (by simp [Try.ntmps82]) rfl ?_
        simp only [s0P, mkPs, mkPA, mkC, argA, numT, eq_self, xRun, vE, vP, isCutO, gN, isPick, isCall, AS.pt, AS.ev, AS.box, AS.mk', kill, look, cav, avB, td0, td1, td2, td3, td4, td5, td6, Option.getD, List.foldr, List.nil_append, ↓reduceIte, Nat.reduceLT, Nat.reduceAdd, Nat.reduceEqDiff, Nat.zero_add, true_and, Bool.false_eq_true, reduceCtorEq, Nat.succ_ne_zero, Try.ntmps82]
        refine sw_call (hO) rfl (aAs_ok ?_) ?_ (sw_run 200 _ _ _ ?_)
        · simp only [aAs, aA, aD, AS.ev, look, Option.getD, List.map, List.append_nil, ↓reduceIte, eq_self, and_self]
        · simp only [okR]
        simp only [mkR, flatD, packA, retA, List.headD_cons, eq_self, xRun, gN, isPick, isCall, AS.pt, td0, td1, td2, td3, td4, td5, td6, ↓reduceIte, Nat.reduceLT, Bool.false_eq_true]
        refine sw_callPR (hP) rfl rfl rfl ?_ ?_ ?_ (sw_run 200 _ _ _ ?_)
        · simp only [rC, rCs, AS.em, mPs, mP, aA, aD, rD, eq_self, AS.ev, AS.owf, look, td0, td1, td2, td3, td4, td5, td6, Option.bind, Option.getD, List.map, List.append_nil, ↓reduceIte, Nat.reduceEqDiff, id_eq, and_self]
        · simp only [eC, eCs, ePs, eP, eq_self, AS.ev, look, td0, td1, td2, td3, td4, td5, td6, Option.getD, List.map, List.not_mem_nil, List.nodup_cons, List.nodup_nil, List.nil_append, List.append_nil, ↓reduceIte, Nat.reduceEqDiff, not_false_eq_true, and_self]
        · simp only [bPs, bP, eq_self, AS.ev, look, td0, td1, td2, td3, td4, td5, td6, Option.getD, List.map, List.not_mem_nil, List.nodup_cons, List.nodup_nil, List.append_nil, ↓reduceIte, Nat.reduceEqDiff, not_false_eq_true, and_self]
        simp only [mkC, eC, eCs, aftS, aftV, AS.kb, rmBs, rmB, mkO, packRA, flatR, ePs, eP, bPs, bP, AS.kl, retA, List.headD_cons, List.tail_cons, eq_self, xRun, vE, vP, vNot, vLen, vExt, vRow, isCutO, xFill, isB, bv, gN, isPick, isCall, AS.pt, AS.ev, AS.mk', AS.rd, kill, look, cav, avB, setRowG, AV.cells, AV.whole, AV.one, cD, cDs, eatsOf, dpOf, td0, td1, td2, td3, td4, td5, td6, Option.getD, Option.isSome, List.map, List.length, List.getElem?_cons_zero, List.getElem?_cons_succ, List.set, List.foldr, List.all, List.replicate, List.nodup_nil, List.nil_append, List.append_nil, ↓reduceIte, Nat.reduceLT, Nat.reduceAdd, Nat.reduceLeDiff, Nat.reduceEqDiff, Nat.zero_add, Nat.mul_one, true_and, or_true, Bool.and_true, Bool.not_true, Bool.false_eq_true, and_self, Nat.succ_ne_zero, Nat.le_refl, c2]
        refine sw_rounds 2 (sw_run 200 _ _ _ ?_)
        simp only [rowD, eq_self, xRun, vE, vP, vSub, vLoad, vFld, vIdx, vBin, vBinT, isAg, isBo, vStore, vStE, primD, primDs, stDs, AS.setO, AV.unsp, AV.unsps, unspT, unspB, isCutO, isB, bv, gN, isPick, isCall, AS.pt, AS.ev, AS.box, AS.setb, AS.owf, look, cav, avB, setRowG, AV.cells, AV.whole, AV.one, td0, td1, td2, td3, td4, td5, td6, Option.bind, Option.getD, Option.isSome, List.map, List.take, List.drop, List.length, List.getElem?_cons_zero, List.getElem?_cons_succ, List.set, List.all, ↓reduceIte, Nat.reduceLT, Nat.reduceAdd, Nat.reduceEqDiff, Nat.zero_add, Nat.add_zero, ne_eq, not_false_eq_true, true_and, Bool.and_true, Bool.false_eq_true, id_eq, Int.reduceLT, Int.reduceAdd, Int.toNat_zero, Int.le_refl, decide_true, and_self, Nat.succ_ne_zero, Nat.le_refl, hr, c2, in1, qR_normal]
        refine sw_run 200 _ _ _ ?_
        simp only [fQP, xRetP, rRs, rOs, rC, rCs, eRs, eOs, eC, eCs, aD, rowD, xRes, rD, eq_self, xRun, vE, vP, vSub, vLoad, vFld, vIdx, vBin, vBinT, isAg, isBo, vStore, isCutO, isB, bv, gN, isPick, isCall, AS.pt, AS.ev, AS.box, AS.setb, AS.owf, look, cav, avB, setRowG, AV.cells, AV.whole, AV.one, td0, td1, td2, td3, td4, td5, td6, Option.bind, Option.getD, Option.isSome, List.map, List.take, List.drop, List.length, List.getElem?_cons_zero, List.getElem?_cons_succ, List.set, List.all, List.not_mem_nil, List.nodup_cons, List.nodup_nil, List.nil_append, List.append_nil, ↓reduceIte, Nat.reduceLT, Nat.reduceAdd, Nat.reduceEqDiff, Nat.zero_add, ne_eq, not_false_eq_true, or_false, Bool.and_true, Bool.false_eq_true, id_eq, reduceCtorEq, Int.reduceLT, Int.reduceLE, Int.toNat_one, decide_true, and_self, Nat.succ_ne_zero, Nat.le_refl, hr2, c2, qR_ret, Try.results82]
      | false =>
        rw [if_neg (by simp)]
        have hU := con_push m1 d (.num (apV s a.n b.n)) hml
        unfold mcI at hP hU ⊢
        unfold vlP at hU
        simp only [nm_n, nm_f, nm_r, nm_p, nm_c, List.length_nil, flC] at hU ⊢
        simp only [e1, e2, ha, hb, List.cons_append, List.nil_append] at hr hr2 hP
        refine con_runP Try.func82 rfl rfl (by simp [Try.ntmps82]) rfl ?_
        simp only [s0P, mkPs, mkPA, mkC, argA, numT, eq_self, xRun, vE, vP, isCutO, gN, isPick, isCall, AS.pt, AS.ev, AS.box, AS.mk', kill, look, cav, avB, td0, td1, td2, td3, td4, td5, td6, Option.getD, List.foldr, List.nil_append, ↓reduceIte, Nat.reduceLT, Nat.reduceAdd, Nat.reduceEqDiff, Nat.zero_add, true_and, Bool.false_eq_true, reduceCtorEq, Nat.succ_ne_zero, Try.ntmps82]
        refine sw_call (hO) rfl (aAs_ok ?_) ?_ (sw_run 200 _ _ _ ?_)
        · simp only [aAs, aA, aD, AS.ev, look, Option.getD, List.map, List.append_nil, ↓reduceIte, eq_self, and_self]
        · simp only [okR]
        simp only [mkR, flatD, packA, retA, List.headD_cons, eq_self, xRun, gN, isPick, isCall, AS.pt, td0, td1, td2, td3, td4, td5, td6, ↓reduceIte, Nat.reduceLT, Bool.false_eq_true]
        refine sw_callPR (hP) rfl rfl rfl ?_ ?_ ?_ (sw_run 200 _ _ _ ?_)
        · simp only [rC, rCs, AS.em, mPs, mP, aA, aD, rD, eq_self, AS.ev, AS.owf, look, td0, td1, td2, td3, td4, td5, td6, Option.bind, Option.getD, List.map, List.append_nil, ↓reduceIte, Nat.reduceEqDiff, id_eq, and_self]
        · simp only [eC, eCs, ePs, eP, eq_self, AS.ev, look, td0, td1, td2, td3, td4, td5, td6, Option.getD, List.map, List.not_mem_nil, List.nodup_cons, List.nodup_nil, List.nil_append, List.append_nil, ↓reduceIte, Nat.reduceEqDiff, not_false_eq_true, and_self]
        · simp only [bPs, bP, eq_self, AS.ev, look, td0, td1, td2, td3, td4, td5, td6, Option.getD, List.map, List.not_mem_nil, List.nodup_cons, List.nodup_nil, List.append_nil, ↓reduceIte, Nat.reduceEqDiff, not_false_eq_true, and_self]
        simp only [mkC, eC, eCs, aftS, aftV, AS.kb, rmBs, rmB, mkO, packRA, flatR, ePs, eP, bPs, bP, AS.kl, retA, List.headD_cons, List.tail_cons, eq_self, xRun, vE, vP, vNot, vLen, vExt, vRow, isCutO, xFill, isB, bv, gN, isPick, isCall, AS.pt, AS.ev, AS.mk', AS.rd, kill, look, cav, avB, setRowG, AV.cells, AV.whole, AV.one, cD, cDs, eatsOf, dpOf, td0, td1, td2, td3, td4, td5, td6, Option.getD, Option.isSome, List.map, List.length, List.getElem?_cons_zero, List.getElem?_cons_succ, List.set, List.foldr, List.all, List.replicate, List.nodup_nil, List.nil_append, List.append_nil, ↓reduceIte, Nat.reduceLT, Nat.reduceAdd, Nat.reduceLeDiff, Nat.reduceEqDiff, Nat.zero_add, Nat.mul_one, true_and, or_true, Bool.and_true, Bool.not_true, Bool.false_eq_true, and_self, Nat.succ_ne_zero, Nat.le_refl, c2]
        refine sw_rounds 2 (sw_run 200 _ _ _ ?_)
        simp only [rowD, eq_self, xRun, vE, vP, vSub, vLoad, vFld, vIdx, vBin, vBinT, isAg, isBo, vStore, vStE, primD, primDs, stDs, AS.setO, AV.unsp, AV.unsps, unspT, unspB, isCutO, isB, bv, gN, isPick, isCall, AS.pt, AS.ev, AS.box, AS.setb, AS.owf, look, cav, avB, setRowG, AV.cells, AV.whole, AV.one, td0, td1, td2, td3, td4, td5, td6, Option.bind, Option.getD, Option.isSome, List.map, List.take, List.drop, List.length, List.getElem?_cons_zero, List.getElem?_cons_succ, List.set, List.all, ↓reduceIte, Nat.reduceLT, Nat.reduceAdd, Nat.reduceEqDiff, Nat.zero_add, Nat.add_zero, ne_eq, not_false_eq_true, true_and, Bool.and_true, Bool.false_eq_true, id_eq, Int.reduceLT, Int.reduceAdd, Int.toNat_zero, Int.le_refl, decide_true, and_self, Nat.succ_ne_zero, Nat.le_refl, hr, c2, in1, qR_normal]
        refine sw_run 200 _ _ _ ?_
        simp only [rowD, eq_self, xRun, vE, vP, vSub, vLoad, vFld, vIdx, vBin, vBinT, isAg, isBo, vStore, vStE, primD, primDs, stDs, AS.setO, AV.unsp, AV.unsps, unspT, unspB, isCutO, isB, bv, gN, isPick, isCall, AS.pt, AS.ev, AS.box, AS.setb, AS.owf, look, cav, avB, setRowG, AV.cells, AV.whole, AV.one, td0, td1, td2, td3, td4, td5, td6, Option.bind, Option.getD, Option.isSome, List.map, List.take, List.drop, List.length, List.getElem?_cons_zero, List.getElem?_cons_succ, List.set, List.all, ↓reduceIte, Nat.reduceLT, Nat.reduceAdd, Nat.reduceEqDiff, Nat.zero_add, Nat.add_zero, ne_eq, not_false_eq_true, true_and, Bool.and_true, Bool.false_eq_true, id_eq, Int.reduceLT, Int.reduceLE, Int.reduceAdd, Int.toNat_one, decide_true, and_self, Nat.succ_ne_zero, Nat.le_refl, hr2, c2, in2, qR_normal]
        refine sw_run 200 _ _ _ ?_
        simp only [eq_self, xRun, vE, vP, vBin, vBinT, isAg, isBo, isCutO, isB, bv, gN, isPick, isCall, popTo, AS.pt, AS.ev, look, td0, td1, td2, td3, td4, td5, td6, Option.getD, Option.isSome, ↓reduceIte, Nat.reduceLT, Nat.reduceEqDiff, true_and, Bool.false_eq_true, Int.reduceLT, decide_false, qR_exit]
        refine sw_run 200 _ _ _ ?_
        simp only [eq_self, xRun, td0, td1, td2, td3, td4, td5, td6, ↓reduceIte]
        refine sw_drawn (.cons 0 true (.cons 1 true (.cons 2 true (.cons 3 true (.cons 4 true (.cons 5 true (.cons 6 true (.cons 7 false (.cons 8 true (.cons 9 true (.cons 10 true (.cons 11 true (.cons 12 true (.nil)))))))))))))) (by kernel_rfl) fQP_panic (by kernel_rfl) (sw_run 200 _ _ _ ?_)
        simp only [rowD, eq_self, xRun, vP, vSub, vLoad, vIdx, gN, isPick, isCall, AS.pt, AS.ev, AS.owf, look, cav, avO, avF, td0, td1, td2, td3, td4, td5, td6, Option.bind, Option.getD, Option.isSome, List.map, List.take, List.drop, List.getElem?_cons_zero, List.getElem?_cons_succ, ↓reduceIte, Nat.reduceLT, Nat.reduceEqDiff, true_and, Bool.false_eq_true, id_eq, Int.reduceLT, Int.reduceLE, Int.toNat_zero, Int.toNat_one, Int.le_refl, and_self, Nat.succ_ne_zero, c2, rowAt]
        refine sw_callD (hA a.n b.n) rfl (aAs_ok ?_) ?_ (sw_run 200 _ _ _ ?_)
        · simp only [aAs, aA, aD, AS.ev, look, Option.getD, List.map, List.append_nil, ↓reduceIte, Nat.reduceEqDiff, eq_self, and_self]
        · simp only [okR]
        simp only [mkR, flatD, packA, retA, List.headD_cons, List.tail_cons, eq_self, xRun, vE, vP, vExt, vBuild, isCutO, xFill, gN, isPick, isCall, AS.pt, AS.ev, look, setRowG, AV.cells, AV.whole, AV.one, td0, td1, td2, td3, td4, td5, td6, Option.getD, Option.isSome, List.map, List.length, List.getElem?_cons_zero, List.getElem?_cons_succ, List.set, ↓reduceIte, Nat.reduceLT, Nat.reduceAdd, Nat.reduceLeDiff, Nat.reduceEqDiff, Nat.zero_add, true_and, Bool.false_eq_true, reduceCtorEq, and_self]
        refine sw_callPR (hU) rfl rfl rfl ?_ ?_ ?_ (sw_run 200 _ _ _ ?_)
        · simp only [rC, rCs, AS.em, mPs, mP, aD, rD, eq_self, AS.ev, AS.owf, look, td0, td1, td2, td3, td4, td5, td6, Option.bind, Option.getD, List.map, List.append_nil, ↓reduceIte, Nat.reduceEqDiff, id_eq, and_self]
        · simp only [eC, eCs, ePs, eP, eq_self, AS.ev, look, td0, td1, td2, td3, td4, td5, td6, Option.getD, List.map, List.not_mem_nil, List.nodup_cons, List.nodup_nil, List.nil_append, List.append_nil, ↓reduceIte, Nat.reduceEqDiff, not_false_eq_true, and_self]
        · simp only [bPs, bP, eq_self, AS.ev, look, td0, td1, td2, td3, td4, td5, td6, Option.getD, List.map, List.not_mem_nil, List.nodup_cons, List.nodup_nil, List.append_nil, ↓reduceIte, Nat.reduceEqDiff, not_false_eq_true, and_self]
        simp only [mkC, fQP, xRetP, rRs, rOs, rC, rCs, eRs, eOs, eC, eCs, aftS, aftV, AS.kb, rmBs, rmB, mkO, packRA, flatR, ePs, eP, bPs, bP, aD, AS.kl, retA, xRes, rD, eq_self, xRun, vE, vP, isCutO, gN, isPick, isCall, AS.pt, AS.ev, AS.mk', AS.owf, kill, look, cav, avB, td0, td1, td2, td3, td4, td5, td6, Option.bind, Option.getD, List.map, List.foldr, List.not_mem_nil, List.nodup_cons, List.nodup_nil, List.nil_append, List.append_nil, ↓reduceIte, Nat.reduceLT, Nat.reduceAdd, Nat.reduceEqDiff, not_false_eq_true, or_false, Bool.false_eq_true, id_eq, reduceCtorEq, and_self, Try.results82]
end Go.Proofs.Ytgjcilainojlfaa
/-
  The program's machine: calls and returns.
-/
namespace Go.Proofs.Ytgjcilainojlfaa
open Go.RowKit
set_option linter.unusedVariables false
set_option linter.unusedSimpArgs false
theorem set_app {α : Type} (A zs : List α) (i : Nat) (x : α) : (A ++ zs).set (A.length + i) x = A ++ zs.set i x := by
  rw [List.set_append_right _ _ (by omega), Nat.add_sub_cancel_left]
theorem set5 (A : List D) (z1 z2 z3 z4 z5 a b c d e : D) (p : Nat) (hp : A.length = p) : setRowG (A ++ [z1, z2, z3, z4, z5]) p [a, b, c, d, e] = A ++ [a, b, c, d, e] := by
  subst hp
  have h0 := set_app A [z1, z2, z3, z4, z5] 0 a
  rw [Nat.add_zero] at h0
  simp only [setRowG, h0, set_app, Nat.add_assoc, Nat.reduceAdd, List.set_cons_zero, List.set_cons_succ]
def callN (f x : Vl) : List Vl := (if f.r = true then f.c ++ [f] else f.c) ++ [x]
/-- A call: how it ends, the machine behind. -/
def callM (m : Mch) : Int × Mch :=
  if m.st.length < 2 then (4, m)
  else if ((topM m 2)[0]!).f = false then (3, popM m 2)
  else (0, ⟨((topM m 2)[0]!).p, [], callN (topM m 2)[0]! (topM m 2)[1]!, m.fr ++ [⟨m.pc, (popM m 2).st, m.nm⟩]⟩)
set_option maxRecDepth 10000 in
theorem con_call (m : Mch) (d : Vl) (hl : m.st.length ≤ 100000) (hc : ∀ v ∈ m.st, v.c.length ≤ 100000) (hf : m.fr.length ≤ 100000) : ConP Try.prog 86 [.p (mcI m d)] [mcI (callM m).2 d] [.one (.o (.int (callM m).1))] := by
  unfold callM
  by_cases h4 : m.st.length < 2
  · rw [if_pos h4]
    have hP := con_pop0 m d 2 hl (by omega) h4
    rw [c2] at hP
    unfold mcI at hP ⊢
    simp only
    refine con_runP Try.func86 rfl rfl (by simp [Try.ntmps86]) rfl ?_
    simp only [s0P, mkPs, mkPA, mkC, numT, eq_self, xRun, vE, vP, isCutO, gN, isPick, isCall, AS.pt, AS.ev, AS.box, AS.mk', kill, look, cav, avB, td0, td1, td2, td3, td4, td5, td6, Option.getD, List.foldr, List.nil_append, ↓reduceIte, Nat.reduceLT, Nat.reduceAdd, Nat.zero_add, true_and, Bool.false_eq_true, reduceCtorEq, Try.ntmps86]
    refine sw_callPR (hP) rfl rfl rfl ?_ ?_ ?_ (sw_run 200 _ _ _ ?_)
    · simp only [rC, rCs, AS.em, mPs, mP, aA, aD, rD, eq_self, AS.ev, AS.owf, look, cav, td0, td1, td2, td3, td4, td5, td6, Option.bind, Option.getD, List.map, List.append_nil, ↓reduceIte, id_eq, and_self]
    · simp only [eC, eCs, ePs, eP, eq_self, AS.ev, look, cav, td0, td1, td2, td3, td4, td5, td6, Option.getD, List.map, List.not_mem_nil, List.nodup_cons, List.nodup_nil, List.nil_append, List.append_nil, ↓reduceIte, not_false_eq_true, and_self]
    · simp only [bPs, bP, eq_self, AS.ev, look, cav, td0, td1, td2, td3, td4, td5, td6, Option.getD, List.map, List.not_mem_nil, List.nodup_cons, List.nodup_nil, List.append_nil, ↓reduceIte, not_false_eq_true, and_self]
    simp only [mkC, fQP, xRetP, rRs, rOs, rC, rCs, eRs, eOs, eC, eCs, aftS, aftV, AS.kb, rmBs, rmB, mkO, packRA, flatR, ePs, eP, bPs, bP, aD, AS.kl, retA, List.headD_cons, List.tail_cons, xRes, rD, eq_self, xRun, vE, vP, vNot, vExt, isCutO, isB, bv, gN, isPick, isCall, AS.pt, AS.ev, AS.mk', AS.owf, kill, look, cav, avB, td0, td1, td2, td3, td4, td5, td6, Option.bind, Option.getD, Option.isSome, List.map, List.getElem?_cons_zero, List.getElem?_cons_succ, List.foldr, List.not_mem_nil, List.nodup_cons, List.nodup_nil, List.nil_append, List.append_nil, ↓reduceIte, Nat.reduceLT, Nat.reduceAdd, Nat.reduceEqDiff, not_false_eq_true, or_false, Bool.not_false, Bool.false_eq_true, id_eq, reduceCtorEq, and_self, Try.results86]
  rw [if_neg h4]
  have hP := con_pop1 m d 2 hl (by omega) (by omega)
  rw [c2] at hP
  obtain ⟨tp, htp⟩ : ∃ tp, tp = topM m 2 := ⟨_, rfl⟩
  have htl : tp.length = 2 := by rw [htp, top_len]; omega
  have hcc : ∀ v ∈ tp, v.c.length ≤ 100000 := fun v hv => hc v (by rw [htp] at hv; exact List.mem_of_mem_drop hv)
  have hpc : (popM m 2).pc = m.pc := rfl
  have hpn : (popM m 2).nm = m.nm := rfl
  have hpf : (popM m 2).fr = m.fr := rfl
  unfold mcI at hP
  rw [hpc, hpn, hpf] at hP
  rw [← htp] at hP ⊢
  rw [list_two htl] at hP hcc ⊢
  generalize tp[0]! = a at hP hcc ⊢
  generalize tp[1]! = b at hP hcc ⊢
  have e1 := vlI_eq a
  have e2 := vlI_eq b
  have hr := row2a a b
  have hr2 := row2b a b
  have e0 : [a, b][0]! = a := rfl
  have e00 : [a, b][1]! = b := rfl
  have ef : flC vlI [a, b] = vlI a ++ vlI b := by simp only [flC, List.append_nil]
  have hal := hcc a (by simp)
  rw [ef] at hP
  rw [e0, e00]
  simp only [List.length_cons, List.length_nil, Nat.zero_add, Nat.reduceAdd] at hP
  cases ha : a.f with
  | false =>
    rw [if_pos rfl]
    unfold mcI
    rw [hpc, hpn, hpf]
    simp only [e1, e2, ha, List.cons_append, List.nil_append] at hr hr2 hP
    refine con_runP Try.func86 rfl rfl (by simp [Try.ntmps86]) rfl ?_
    simp only [s0P, mkPs, mkPA, mkC, numT, eq_self, xRun, vE, vP, isCutO, gN, isPick, isCall, AS.pt, AS.ev, AS.box, AS.mk', kill, look, cav, avB, td0, td1, td2, td3, td4, td5, td6, Option.getD, List.foldr, List.nil_append, ↓reduceIte, Nat.reduceLT, Nat.reduceAdd, Nat.zero_add, true_and, Bool.false_eq_true, reduceCtorEq, Try.ntmps86]
    refine sw_callPR (hP) rfl rfl rfl ?_ ?_ ?_ (sw_run 200 _ _ _ ?_)
    · simp only [rC, rCs, AS.em, mPs, mP, aA, aD, rD, eq_self, AS.ev, AS.owf, look, cav, td0, td1, td2, td3, td4, td5, td6, Option.bind, Option.getD, List.map, List.append_nil, ↓reduceIte, id_eq, and_self]
    · simp only [eC, eCs, ePs, eP, eq_self, AS.ev, look, cav, td0, td1, td2, td3, td4, td5, td6, Option.getD, List.map, List.not_mem_nil, List.nodup_cons, List.nodup_nil, List.nil_append, List.append_nil, ↓reduceIte, not_false_eq_true, and_self]
    · simp only [bPs, bP, eq_self, AS.ev, look, cav, td0, td1, td2, td3, td4, td5, td6, Option.getD, List.map, List.not_mem_nil, List.nodup_cons, List.nodup_nil, List.append_nil, ↓reduceIte, not_false_eq_true, and_self]
    simp only [mkC, fQP, xRetP, rRs, rOs, rC, rCs, eRs, eOs, eC, eCs, aftS, aftV, AS.kb, rmBs, rmB, mkO, packRA, flatR, ePs, eP, bPs, bP, aD, AS.kl, retA, List.headD_cons, List.tail_cons, rowD, xRes, rD, eq_self, xRun, vE, vP, vSub, vLoad, vFld, vIdx, vNot, vExt, isCutO, isB, bv, gN, isPick, isCall, AS.pt, AS.ev, AS.mk', AS.owf, kill, look, cav, avB, td0, td1, td2, td3, td4, td5, td6, Option.bind, Option.getD, Option.isSome, List.map, List.getElem?_cons_zero, List.getElem?_cons_succ, List.foldr, List.not_mem_nil, List.nodup_cons, List.nodup_nil, List.nil_append, List.append_nil, ↓reduceIte, Nat.reduceLT, Nat.reduceAdd, Nat.reduceEqDiff, Nat.zero_add, ne_eq, not_false_eq_true, or_false, Bool.not_true, Bool.not_false, Bool.false_eq_true, id_eq, reduceCtorEq, Int.reduceLT, Int.toNat_zero, Int.le_refl, and_self, Nat.succ_ne_zero, hr, c2, Try.results86]
  | true =>
    rw [if_neg (by simp)]
    have hK := con_CloneV a.c (by omega)
    have hfa : flC frI (m.fr ++ [⟨m.pc, (popM m 2).st, m.nm⟩]) = flC frI m.fr ++ [.int m.pc, .rows 5 (popM m 2).st.length (flC vlI (popM m 2).st), .rows 5 m.nm.length (flC vlI m.nm)] := by rw [flC_app, flC_one]; rfl
    generalize (popM m 2).st = st2 at hP hfa ⊢
    unfold mcI
    simp only
    rw [hfa, List.length_append, List.length_singleton]
    simp only [flC, List.length_nil]
    have hl1 : (flC vlI a.c).length = a.c.length * 5 := flC_len vlI_len a.c
    have s1 := set5 (flC vlI a.c) (.int 0) (.bool false) (.bool false) (.int 0) (.rows 0 0 []) (.int b.n) (.bool b.f) (.bool b.r) (.int b.p) (.rows 5 b.c.length (flC vlI b.c)) _ hl1
    simp only [setRowG] at s1
    have i1 : ((a.c.length : Nat) : Int) < ((a.c.length + 1 : Nat) : Int) := by omega
    cases hrr : a.r with
    | false =>
      have hn : callN a b = a.c ++ [b] := by unfold callN; rw [hrr, if_neg (by simp)]
      rw [hn, flC_app, flC_one, e2, List.length_append, List.length_singleton]
      simp only [e1, e2, ha, hrr, List.cons_append, List.nil_append] at hr hr2 hP
      refine con_runPF [8] Try.func86 rfl rfl (by simp [Try.ntmps86]) rfl ?_
      simp only [s0P, mkPs, mkPA, mkC, numT, eq_self, xRun, vE, vP, isCutO, gN, isPick, isCall, AS.pt, AS.ev, AS.box, AS.mk', kill, look, cav, avB, td0, td1, td2, td3, td4, td5, td6, Option.getD, List.foldr, List.nil_append, ↓reduceIte, Nat.reduceLT, Nat.reduceAdd, Nat.zero_add, true_and, Bool.false_eq_true, reduceCtorEq, Try.ntmps86]
      refine sw_callPR (hP) rfl rfl rfl ?_ ?_ ?_ (sw_run 200 _ _ _ ?_)
      · simp only [rC, rCs, AS.em, mPs, mP, aA, aD, rD, eq_self, AS.ev, AS.owf, look, cav, td0, td1, td2, td3, td4, td5, td6, Option.bind, Option.getD, List.map, List.append_nil, ↓reduceIte, id_eq, and_self]
      · simp only [eC, eCs, ePs, eP, eq_self, AS.ev, look, cav, td0, td1, td2, td3, td4, td5, td6, Option.getD, List.map, List.not_mem_nil, List.nodup_cons, List.nodup_nil, List.nil_append, List.append_nil, ↓reduceIte, not_false_eq_true, and_self]
      · simp only [bPs, bP, eq_self, AS.ev, look, cav, td0, td1, td2, td3, td4, td5, td6, Option.getD, List.map, List.not_mem_nil, List.nodup_cons, List.nodup_nil, List.append_nil, ↓reduceIte, not_false_eq_true, and_self]
      simp only [mkC, eC, eCs, aftS, aftV, AS.kb, rmBs, rmB, mkO, packRA, flatR, ePs, eP, bPs, bP, AS.kl, retA, List.headD_cons, List.tail_cons, rowD, eq_self, xRun, vE, vP, vSub, vLoad, vFld, vIdx, vNot, vExt, isCutO, isB, bv, gN, isPick, isCall, AS.pt, AS.ev, AS.mk', kill, look, cav, avB, td0, td1, td2, td3, td4, td5, td6, Option.getD, Option.isSome, List.map, List.getElem?_cons_zero, List.getElem?_cons_succ, List.foldr, List.nil_append, List.append_nil, ↓reduceIte, Nat.reduceLT, Nat.reduceAdd, Nat.reduceEqDiff, Nat.zero_add, ne_eq, not_false_eq_true, true_and, Bool.not_true, Bool.false_eq_true, Int.reduceLT, Int.toNat_zero, Int.le_refl, and_self, Nat.succ_ne_zero, hr, c2]
      refine sw_drawn (.cons 0 true (.cons 1 true (.cons 2 true (.cons 3 true (.cons 4 true (.cons 5 true (.cons 6 true (.cons 7 true (.cons 8 true (.cons 9 true (.cons 10 true (.cons 11 true (.cons 12 true (.cons 13 true (.cons 14 true (.cons 15 true (.cons 16 true (.cons 17 true (.cons 18 false (.cons 19 false (.cons 20 true (.cons 21 true (.cons 22 false (.nil)))))))))))))))))))))))) (by kernel_rfl) fQF_panic (by kernel_rfl) (sw_run 200 _ _ _ ?_)
      simp only [rowD, eq_self, xRun, vE, vP, vSub, vLoad, vFld, vIdx, vBuild, vRow, vStore, vApp, apP, apC, isCl, isCutO, xFill, appL, appR, gN, isPick, isCall, AS.pt, AS.ev, AS.box, AS.setb, AS.mk', AS.owf, kill, look, cav, avB, setRowG, AV.cells, AV.whole, AV.one, cD, cDs, eatsOf, dpOf, td0, td1, td2, td3, td4, td5, td6, Option.bind, Option.getD, Option.isSome, List.map, List.take, List.drop, List.length, List.getElem?_cons_zero, List.getElem?_cons_succ, List.set, List.foldr, List.all, List.replicate, List.mem_cons, List.not_mem_nil, List.nodup_nil, List.nil_append, List.cons_append, ↓reduceIte, Nat.reduceLT, Nat.reduceAdd, Nat.reduceLeDiff, Nat.reduceEqDiff, Nat.zero_add, Nat.add_zero, Nat.zero_mul, Nat.one_mul, ne_eq, not_false_eq_true, true_and, or_false, or_true, Bool.and_true, Bool.and_false, Bool.false_eq_true, id_eq, reduceCtorEq, Int.reduceLT, Int.toNat_zero, Int.le_refl, and_self, Nat.succ_ne_zero, Nat.le_refl, hr, c2]
      refine ⟨⟨fun _ h => (by omega), by unfold maxLen; omega, by omega⟩, ?_⟩
      refine sw_callPR (hK) rfl rfl rfl ?_ ?_ ?_ (sw_run 200 _ _ _ ?_)
      · simp only [AS.em, mPs, mP, aA, aD, eq_self, AS.ev, look, td0, td1, td2, td3, td4, td5, td6, Option.getD, List.map, List.append_nil, ↓reduceIte, and_self]
      · simp only [ePs, eP, eq_self, AS.ev, look, td0, td1, td2, td3, td4, td5, td6, Option.getD, List.map, List.nodup_nil, List.append_nil, ↓reduceIte]
      · simp only [bPs, bP, eq_self, AS.ev, look, td0, td1, td2, td3, td4, td5, td6, Option.getD, List.map, List.nodup_nil, List.append_nil, ↓reduceIte]
      simp only [mkC, aftS, aftV, AS.kb, rmBs, mkO, packRA, flatR, ePs, eP, bPs, bP, AS.kl, retA, List.headD_cons, eq_self, xRun, vE, vP, vSub, vLoad, vFld, vStore, isCutO, isB, bv, gN, isPick, isCall, AS.pt, AS.ev, AS.setb, AS.mk', kill, look, setRowG, AV.cells, AV.whole, AV.one, td0, td1, td2, td3, td4, td5, td6, Option.getD, Option.isSome, List.map, List.length, List.getElem?_cons_zero, List.getElem?_cons_succ, List.set, List.foldr, List.append_nil, ↓reduceIte, Nat.reduceLT, Nat.reduceAdd, Nat.reduceLeDiff, Nat.reduceEqDiff, Nat.zero_add, ne_eq, not_false_eq_true, true_and, Bool.false_eq_true, and_self, Nat.succ_ne_zero]
      refine sw_drawn (.cons 0 true (.cons 1 true (.cons 2 true (.cons 3 true (.cons 4 true (.cons 5 true (.cons 6 true (.cons 7 true (.cons 8 false (.cons 9 false (.cons 12 true (.cons 13 true (.fork (.alt 10 (.fork (.alt 11 (.cons 14 false (.nil)) (.alt 14 (.cons 11 false (.nil)) (.last)))) (.alt 14 (.cons 10 true (.cons 11 false (.nil))) (.last)))))))))))))))) (by kernel_rfl) fQF_panic (by kernel_rfl) (sw_run 200 _ _ _ ?_)
      simp only [rowD, eq_self, xRun, vE, vP, vSub, vLoad, vFld, vIdx, vLen, vRow, vStore, vStE, frzD, frzDs, stDs, AS.setO, AV.unsp, AV.unsps, unspT, unspB, vApp, apP, apC, isCl, xFill, appL, appR, gN, isPick, isCall, AS.pt, AS.ev, AS.setb, AS.mk', AS.owf, AS.rd, kill, look, cav, cav0, avB, setRowG, AV.cells, AV.whole, AV.one, cD, cDs, eatsOf, dpOf, td0, td1, td2, td3, td4, td5, td6, Option.bind, Option.getD, Option.map, Option.isSome, List.map, List.take, List.drop, List.length, List.getElem?_cons_zero, List.getElem?_cons_succ, List.set, List.foldr, List.all, List.replicate, List.mem_cons, List.not_mem_nil, List.nodup_nil, List.nil_append, List.cons_append, ↓reduceIte, Nat.reduceLT, Nat.reduceAdd, Nat.reduceLeDiff, Nat.reduceEqDiff, Nat.zero_add, Nat.add_zero, Nat.zero_mul, Nat.one_mul, ne_eq, not_false_eq_true, true_and, and_true, or_false, or_true, Bool.and_true, Bool.false_eq_true, id_eq, reduceCtorEq, Int.toNat_natCast, Int.reduceLT, Int.reduceLE, Int.toNat_one, Int.natCast_nonneg, and_self, Nat.succ_ne_zero, Nat.le_refl, hr2, c2, i1, s1]
      refine ⟨⟨fun o h h2 => (by omega), by unfold maxLen; omega, by omega⟩, ?_⟩
      refine sw_drawn (.cons 0 true (.cons 1 true (.cons 2 true (.cons 4 true (.cons 5 true (.fork (.alt 3 (.cons 6 false (.cons 7 true (.cons 8 true (.cons 9 false (.nil))))) (.alt 6 (.cons 3 true (.cons 7 true (.cons 8 true (.cons 9 false (.nil))))) (.last))))))))) (by kernel_rfl) fQF_panic (by kernel_rfl) (sw_run 200 _ _ _ ?_)
      simp only [fQF, fQP, xRetP, rRs, rOs, rC, rCs, eRs, eOs, eC, eCs, AS.fzL, AS.fzN, AS.fz, fzT, fzB, AV.fz, AV.fzs, aD, xRes, rD, eq_self, xRun, vE, vP, vSub, vLoad, vFld, vStore, isCutO, gN, isPick, isCall, AS.pt, AS.ev, AS.setb, AS.owf, look, cav, setRowG, AV.cells, AV.whole, AV.one, td0, td1, td2, td3, td4, td5, td6, Option.bind, Option.getD, Option.isSome, List.map, List.length, List.getElem?_cons_zero, List.getElem?_cons_succ, List.set, List.not_mem_nil, List.nodup_cons, List.nodup_nil, List.nil_append, List.append_nil, ↓reduceIte, Nat.reduceLT, Nat.reduceAdd, Nat.reduceLeDiff, Nat.reduceEqDiff, Nat.zero_add, Nat.add_zero, ne_eq, not_false_eq_true, or_false, Bool.false_eq_true, id_eq, reduceCtorEq, and_self, Nat.succ_ne_zero, Try.results86]
    | true =>
      have hn : callN a b = (a.c ++ [a]) ++ [b] := by unfold callN; rw [hrr, if_pos rfl]
      have hl2 : (flC vlI a.c ++ vlI a).length = (a.c.length + 1) * 5 := by rw [List.length_append, hl1, vlI_len]; omega
      have s2 := set5 (flC vlI a.c) (.int 0) (.bool false) (.bool false) (.int 0) (.rows 0 0 []) (.int a.n) (.bool a.f) (.bool a.r) (.int a.p) (.rows 5 a.c.length (flC vlI a.c)) _ hl1
      have s3 := set5 (flC vlI a.c ++ vlI a) (.int 0) (.bool false) (.bool false) (.int 0) (.rows 0 0 []) (.int b.n) (.bool b.f) (.bool b.r) (.int b.p) (.rows 5 b.c.length (flC vlI b.c)) _ hl2
      simp only [setRowG] at s2 s3
      have i2 : ((a.c.length + 1 : Nat) : Int) < ((a.c.length + 1 + 1 : Nat) : Int) := by omega
      rw [hn, flC_app, flC_app, flC_one, flC_one, e2, List.length_append, List.length_append, List.length_singleton, List.length_singleton]
      simp only [e1, ha, hrr] at hr hr2 hP s2 s3 ⊢
      simp only [e2, List.cons_append, List.nil_append] at hr hr2 hP
      refine con_runPF [10] Try.func86 rfl rfl (by simp [Try.ntmps86]) rfl ?_
      simp only [s0P, mkPs, mkPA, mkC, numT, eq_self, xRun, vE, vP, isCutO, gN, isPick, isCall, AS.pt, AS.ev, AS.box, AS.mk', kill, look, cav, avB, td0, td1, td2, td3, td4, td5, td6, Option.getD, List.foldr, List.nil_append, ↓reduceIte, Nat.reduceLT, Nat.reduceAdd, Nat.zero_add, true_and, Bool.false_eq_true, reduceCtorEq, Try.ntmps86]
      refine sw_callPR (hP) rfl rfl rfl ?_ ?_ ?_ (sw_run 200 _ _ _ ?_)
      · simp only [rC, rCs, AS.em, mPs, mP, aA, aD, rD, eq_self, AS.ev, AS.owf, look, cav, td0, td1, td2, td3, td4, td5, td6, Option.bind, Option.getD, List.map, List.append_nil, ↓reduceIte, id_eq, and_self]
      · simp only [eC, eCs, ePs, eP, eq_self, AS.ev, look, cav, td0, td1, td2, td3, td4, td5, td6, Option.getD, List.map, List.not_mem_nil, List.nodup_cons, List.nodup_nil, List.nil_append, List.append_nil, ↓reduceIte, not_false_eq_true, and_self]
      · simp only [bPs, bP, eq_self, AS.ev, look, cav, td0, td1, td2, td3, td4, td5, td6, Option.getD, List.map, List.not_mem_nil, List.nodup_cons, List.nodup_nil, List.append_nil, ↓reduceIte, not_false_eq_true, and_self]
      simp only [mkC, eC, eCs, aftS, aftV, AS.kb, rmBs, rmB, mkO, packRA, flatR, ePs, eP, bPs, bP, AS.kl, retA, List.headD_cons, List.tail_cons, rowD, eq_self, xRun, vE, vP, vSub, vLoad, vFld, vIdx, vNot, vExt, isCutO, isB, bv, gN, isPick, isCall, AS.pt, AS.ev, AS.mk', kill, look, cav, avB, td0, td1, td2, td3, td4, td5, td6, Option.getD, Option.isSome, List.map, List.getElem?_cons_zero, List.getElem?_cons_succ, List.foldr, List.nil_append, List.append_nil, ↓reduceIte, Nat.reduceLT, Nat.reduceAdd, Nat.reduceEqDiff, Nat.zero_add, ne_eq, not_false_eq_true, true_and, Bool.not_true, Bool.false_eq_true, Int.reduceLT, Int.toNat_zero, Int.le_refl, and_self, Nat.succ_ne_zero, hr, c2]
      refine sw_drawn (.cons 0 true (.cons 1 true (.cons 2 true (.cons 3 true (.cons 4 true (.cons 5 true (.cons 6 true (.cons 7 true (.cons 8 true (.cons 9 true (.cons 10 true (.cons 11 true (.cons 12 true (.cons 13 true (.cons 14 true (.cons 15 true (.cons 16 true (.cons 17 true (.cons 18 false (.cons 19 false (.cons 20 true (.cons 21 true (.cons 22 false (.nil)))))))))))))))))))))))) (by kernel_rfl) fQF_panic (by kernel_rfl) (sw_run 200 _ _ _ ?_)
      simp only [rowD, eq_self, xRun, vE, vP, vSub, vLoad, vFld, vIdx, vBuild, vRow, vStore, vApp, apP, apC, isCl, isCutO, xFill, appL, appR, gN, isPick, isCall, AS.pt, AS.ev, AS.box, AS.setb, AS.mk', AS.owf, kill, look, cav, avB, setRowG, AV.cells, AV.whole, AV.one, cD, cDs, eatsOf, dpOf, td0, td1, td2, td3, td4, td5, td6, Option.bind, Option.getD, Option.isSome, List.map, List.take, List.drop, List.length, List.getElem?_cons_zero, List.getElem?_cons_succ, List.set, List.foldr, List.all, List.replicate, List.mem_cons, List.not_mem_nil, List.nodup_nil, List.nil_append, List.cons_append, ↓reduceIte, Nat.reduceLT, Nat.reduceAdd, Nat.reduceLeDiff, Nat.reduceEqDiff, Nat.zero_add, Nat.add_zero, Nat.zero_mul, Nat.one_mul, ne_eq, not_false_eq_true, true_and, or_false, or_true, Bool.and_true, Bool.and_false, Bool.false_eq_true, id_eq, reduceCtorEq, Int.reduceLT, Int.toNat_zero, Int.le_refl, and_self, Nat.succ_ne_zero, Nat.le_refl, hr, c2]
      refine ⟨⟨fun _ h => (by omega), by unfold maxLen; omega, by omega⟩, ?_⟩
      refine sw_callPR (hK) rfl rfl rfl ?_ ?_ ?_ (sw_run 200 _ _ _ ?_)
      · simp only [AS.em, mPs, mP, aA, aD, eq_self, AS.ev, look, td0, td1, td2, td3, td4, td5, td6, Option.getD, List.map, List.append_nil, ↓reduceIte, and_self]
      · simp only [ePs, eP, eq_self, AS.ev, look, td0, td1, td2, td3, td4, td5, td6, Option.getD, List.map, List.nodup_nil, List.append_nil, ↓reduceIte]
      · simp only [bPs, bP, eq_self, AS.ev, look, td0, td1, td2, td3, td4, td5, td6, Option.getD, List.map, List.nodup_nil, List.append_nil, ↓reduceIte]
      simp only [mkC, aftS, aftV, AS.kb, rmBs, mkO, packRA, flatR, ePs, eP, bPs, bP, AS.kl, retA, List.headD_cons, eq_self, xRun, vE, vP, vSub, vLoad, vFld, vStore, isCutO, isB, bv, gN, isPick, isCall, AS.pt, AS.ev, AS.setb, AS.mk', kill, look, setRowG, AV.cells, AV.whole, AV.one, td0, td1, td2, td3, td4, td5, td6, Option.getD, Option.isSome, List.map, List.length, List.getElem?_cons_zero, List.getElem?_cons_succ, List.set, List.foldr, List.append_nil, ↓reduceIte, Nat.reduceLT, Nat.reduceAdd, Nat.reduceLeDiff, Nat.reduceEqDiff, Nat.zero_add, ne_eq, not_false_eq_true, true_and, Bool.false_eq_true, and_self, Nat.succ_ne_zero]
      refine sw_drawn (.cons 0 true (.cons 1 true (.cons 2 true (.cons 3 true (.cons 4 true (.cons 5 true (.cons 6 false (.cons 7 false (.cons 10 true (.cons 11 true (.fork (.alt 8 (.fork (.alt 9 (.cons 12 false (.nil)) (.alt 12 (.cons 9 false (.nil)) (.last)))) (.alt 12 (.cons 8 true (.cons 9 false (.nil))) (.last)))))))))))))) (by kernel_rfl) fQF_panic (by kernel_rfl) (sw_run 200 _ _ _ ?_)
      simp only [eq_self, xRun, vE, vP, vSub, vLoad, vFld, vIdx, vLen, vRow, vStore, vStE, frzD, frzDs, stDs, AS.setO, AV.unsp, AV.unsps, unspT, unspB, vApp, apP, apC, isCl, xFill, appL, appR, gN, isPick, isCall, AS.pt, AS.ev, AS.setb, AS.mk', AS.owf, AS.rd, kill, look, cav, cav0, setRowG, AV.cells, AV.whole, AV.one, cD, cDs, eatsOf, dpOf, td0, td1, td2, td3, td4, td5, td6, Option.bind, Option.getD, Option.map, Option.isSome, List.map, List.take, List.drop, List.length, List.getElem?_cons_zero, List.getElem?_cons_succ, List.set, List.foldr, List.all, List.replicate, List.mem_cons, List.not_mem_nil, List.nodup_nil, List.nil_append, List.cons_append, ↓reduceIte, Nat.reduceLT, Nat.reduceAdd, Nat.reduceLeDiff, Nat.reduceEqDiff, Nat.zero_add, Nat.add_zero, Nat.zero_mul, Nat.one_mul, ne_eq, not_false_eq_true, true_and, and_true, or_false, or_true, Bool.and_true, Bool.false_eq_true, id_eq, reduceCtorEq, Int.toNat_natCast, Int.natCast_nonneg, and_self, Nat.succ_ne_zero, Nat.le_refl, i1, s2]
      refine ⟨⟨fun o h h2 => (by omega), by unfold maxLen; omega, by omega⟩, ?_⟩
      refine sw_drawn (.cons 0 true (.cons 1 true (.cons 2 true (.cons 3 true (.cons 4 true (.cons 5 true (.cons 6 true (.cons 7 true (.cons 8 false (.cons 9 false (.cons 12 true (.cons 13 true (.fork (.alt 10 (.fork (.alt 11 (.cons 14 false (.nil)) (.alt 14 (.cons 11 false (.nil)) (.last)))) (.alt 14 (.cons 10 true (.cons 11 false (.nil))) (.last)))))))))))))))) (by kernel_rfl) fQF_panic (by kernel_rfl) (sw_run 200 _ _ _ ?_)
      simp only [rowD, eq_self, xRun, vE, vP, vSub, vLoad, vFld, vIdx, vLen, vRow, vStore, vStE, frzD, frzDs, stDs, AS.setO, AV.unsp, AV.unsps, unspT, unspB, vApp, apP, apC, isCl, xFill, appL, appR, gN, isPick, isCall, AS.pt, AS.ev, AS.setb, AS.mk', AS.owf, AS.rd, kill, look, cav, cav0, avB, setRowG, AV.cells, AV.whole, AV.one, cD, cDs, eatsOf, dpOf, td0, td1, td2, td3, td4, td5, td6, Option.bind, Option.getD, Option.map, Option.isSome, List.map, List.take, List.drop, List.length, List.getElem?_cons_zero, List.getElem?_cons_succ, List.set, List.foldr, List.all, List.replicate, List.mem_cons, List.not_mem_nil, List.nodup_nil, List.nil_append, List.cons_append, ↓reduceIte, Nat.reduceLT, Nat.reduceAdd, Nat.reduceLeDiff, Nat.reduceEqDiff, Nat.zero_add, Nat.add_zero, Nat.zero_mul, Nat.one_mul, ne_eq, not_false_eq_true, true_and, and_true, or_false, or_true, Bool.and_true, Bool.false_eq_true, id_eq, reduceCtorEq, Int.toNat_natCast, Int.reduceLT, Int.reduceLE, Int.toNat_one, Int.natCast_nonneg, and_self, Nat.succ_ne_zero, Nat.le_refl, hr2, c2, i2, s3]
      refine ⟨⟨fun o h h2 => (by omega), by unfold maxLen; omega, by omega⟩, ?_⟩
      refine sw_drawn (.cons 0 true (.cons 1 true (.cons 2 true (.cons 4 true (.cons 5 true (.fork (.alt 3 (.cons 6 false (.cons 7 true (.cons 8 true (.cons 9 false (.nil))))) (.alt 6 (.cons 3 true (.cons 7 true (.cons 8 true (.cons 9 false (.nil))))) (.last))))))))) (by kernel_rfl) fQF_panic (by kernel_rfl) (sw_run 200 _ _ _ ?_)
      simp only [fQF, fQP, xRetP, rRs, rOs, rC, rCs, eRs, eOs, eC, eCs, AS.fzL, AS.fzN, AS.fz, fzT, fzB, AV.fz, AV.fzs, aD, xRes, rD, eq_self, xRun, vE, vP, vSub, vLoad, vFld, vStore, isCutO, gN, isPick, isCall, AS.pt, AS.ev, AS.setb, AS.owf, look, cav, setRowG, AV.cells, AV.whole, AV.one, td0, td1, td2, td3, td4, td5, td6, Option.bind, Option.getD, Option.isSome, List.map, List.length, List.getElem?_cons_zero, List.getElem?_cons_succ, List.set, List.not_mem_nil, List.nodup_cons, List.nodup_nil, List.nil_append, List.append_nil, ↓reduceIte, Nat.reduceLT, Nat.reduceAdd, Nat.reduceLeDiff, Nat.reduceEqDiff, Nat.zero_add, Nat.add_zero, ne_eq, not_false_eq_true, or_false, Bool.false_eq_true, id_eq, reduceCtorEq, and_self, Nat.succ_ne_zero, Try.results86]
end Go.Proofs.Ytgjcilainojlfaa
/-
  The program's machine: returns and instructions.
-/
namespace Go.Proofs.Ytgjcilainojlfaa
open Go.RowKit
set_option linter.unusedVariables false
set_option linter.unusedSimpArgs false
/-- A return: how it ends, the machine behind, the value that is told at the end. -/
def retM (m : Mch) (d : Vl) : Int × Mch × Vl :=
  if m.st.length ≠ 1 then (4, m, d)
  else if m.fr.length = 0 then (1, m, m.st[0]!)
  else (0, ⟨(m.fr[m.fr.length - 1]!).pc, (m.fr[m.fr.length - 1]!).st ++ [m.st[0]!], (m.fr[m.fr.length - 1]!).nm, m.fr.take (m.fr.length - 1)⟩, d)
set_option maxRecDepth 10000 in
theorem con_ret (m : Mch) (d : Vl) (hl : m.st.length ≤ 100000) (hf : m.fr.length ≤ 100000) (hfs : ∀ f ∈ m.fr, f.st.length ≤ 100000) : ConP Try.prog 87 [.p (mcI m d)] [mcI (retM m d).2.1 (retM m d).2.2] [.one (.o (.int (retM m d).1))] := by
  unfold retM
  by_cases h1 : m.st.length ≠ 1
  · rw [if_pos h1]
    have h1' : ((m.st.length : Int) ≠ 1) = True := eq_true (by omega)
    unfold mcI
    simp only
    refine con_runP Try.func87 rfl rfl (by simp [Try.ntmps87]) rfl ?_
    simp only [s0P, mkPs, mkPA, mkC, fQP, xRetP, rRs, rOs, rC, rCs, eRs, eOs, eC, eCs, aD, numT, xRes, rD, eq_self, xRun, vE, vP, vSub, vLoad, vFld, vBin, vBinT, isAg, isBo, vLen, isCutO, isB, bv, gN, isPick, isCall, AS.pt, AS.ev, AS.box, AS.mk', AS.owf, AS.rd, kill, look, cav, avB, td0, td1, td2, td3, td4, td5, td6, Option.bind, Option.getD, Option.isSome, List.map, List.getElem?_cons_zero, List.getElem?_cons_succ, List.foldr, List.not_mem_nil, List.nodup_cons, List.nodup_nil, List.nil_append, List.append_nil, ↓reduceIte, Nat.reduceLT, Nat.reduceAdd, Nat.zero_add, ne_eq, not_false_eq_true, or_false, Bool.false_eq_true, id_eq, reduceCtorEq, decide_true, and_self, Nat.succ_ne_zero, h1', Try.ntmps87, Try.results87]
  rw [if_neg h1]
  have h1'' : m.st.length = 1 := by omega
  have hs := list_one h1''
  obtain ⟨v, hv⟩ : ∃ v, v = m.st[0]! := ⟨_, rfl⟩
  rw [← hv] at hs ⊢
  obtain ⟨pc, st, nm, fr⟩ := m
  simp only at hs hf hfs ⊢
  subst hs
  clear h1 h1'' hl hv
  have hr := row1 v
  unfold rowD at hr
  have e1 := vlI_eq v
  have es : flC vlI [v] = vlI v := flC_one _ _
  by_cases h2 : fr.length = 0
  · obtain rfl := List.eq_nil_of_length_eq_zero h2
    rw [if_pos h2]
    unfold mcI
    simp only [e1, List.length_cons, List.length_nil, Nat.zero_add, flC] at hr ⊢
    refine con_runP Try.func87 rfl rfl (by simp [Try.ntmps87]) rfl ?_
    simp only [s0P, mkPs, mkPA, mkC, numT, eq_self, xRun, vE, vP, vSub, vLoad, vFld, vBin, vBinT, isAg, isBo, vLen, isCutO, isB, bv, gN, isPick, isCall, AS.pt, AS.ev, AS.box, AS.mk', AS.rd, kill, look, cav, avB, td0, td1, td2, td3, td4, td5, td6, Option.getD, Option.isSome, List.getElem?_cons_zero, List.getElem?_cons_succ, List.foldr, List.nil_append, List.append_nil, ↓reduceIte, Nat.reduceLT, Nat.reduceAdd, Nat.zero_add, ne_eq, not_false_eq_true, not_true_eq_false, true_and, Bool.false_eq_true, reduceCtorEq, decide_false, Nat.succ_ne_zero, c1, Try.ntmps87]
    refine sw_drawn (.cons 0 true (.cons 1 true (.cons 2 true (.cons 3 true (.cons 4 true (.cons 5 true (.cons 6 true (.cons 7 true (.cons 8 true (.fork (.alt 9 (.fork (.alt 10 (.fork (.alt 11 (.cons 12 false (.cons 13 false (.cons 14 true (.nil)))) (.alt 12 (.fork (.alt 11 (.cons 13 false (.cons 14 true (.nil))) (.alt 13 (.cons 11 true (.cons 14 true (.nil))) (.last)))) (.last)))) (.alt 12 (.fork (.alt 10 (.fork (.alt 11 (.cons 13 false (.cons 14 true (.nil))) (.alt 13 (.cons 11 true (.cons 14 true (.nil))) (.last)))) (.alt 13 (.cons 10 true (.cons 11 true (.cons 14 true (.nil)))) (.last)))) (.last)))) (.alt 12 (.fork (.alt 9 (.fork (.alt 10 (.fork (.alt 11 (.cons 13 false (.cons 14 true (.nil))) (.alt 13 (.cons 11 true (.cons 14 true (.nil))) (.last)))) (.alt 13 (.cons 10 true (.cons 11 true (.cons 14 true (.nil)))) (.last)))) (.alt 13 (.cons 9 true (.cons 10 true (.cons 11 true (.cons 14 true (.nil))))) (.last)))) (.last))))))))))))) (by kernel_rfl) fQP_panic (by kernel_rfl) (sw_run 200 _ _ _ ?_)
    simp only [fQP, xRetP, rRs, rOs, rC, rCs, eRs, eOs, eC, eCs, aD, rowD, xRes, rD, eq_self, xRun, vE, vP, vSub, vLoad, vFld, vIdx, vBin, vBinT, isAg, isBo, vLen, vStore, isCutO, isB, bv, gN, isPick, isCall, AS.pt, AS.ev, AS.box, AS.setb, AS.owf, AS.rd, look, cav, avB, setRowG, AV.cells, AV.whole, AV.one, td0, td1, td2, td3, td4, td5, td6, Option.bind, Option.getD, Option.map, Option.isSome, List.map, List.take, List.drop, List.length, List.getElem?_cons_zero, List.getElem?_cons_succ, List.set, List.all, List.not_mem_nil, List.nodup_cons, List.nodup_nil, List.nil_append, List.append_nil, ↓reduceIte, Nat.reduceLT, Nat.reduceAdd, Nat.reduceEqDiff, Nat.zero_add, ne_eq, not_false_eq_true, true_and, and_true, or_false, Bool.and_true, Bool.false_eq_true, id_eq, reduceCtorEq, Int.reduceLT, Int.reduceSub, Int.reduceNeg, Int.toNat_zero, Int.natCast_zero, Int.le_refl, decide_true, and_self, Nat.succ_ne_zero, Nat.le_refl, hr, c1, Try.results87]
    unfold inI; omega
  · rw [if_neg h2]
    have hk : fr.length - 1 < fr.length := by omega
    have g0 : (fr.length : Int) - 1 = ((fr.length - 1 : Nat) : Int) := by omega
    have g1 : ¬ ((fr.length - 1 : Nat) : Int) < 0 := by omega
    have g2 : inI ((fr.length - 1 : Nat) : Int) := by unfold inI; omega
    have g3 : ((fr.length - 1 : Nat) : Int) < (fr.length : Int) := by omega
    have g4 : ((fr.length - 1 : Nat) : Int) ≤ (fr.length : Int) := by omega
    have hR := flC_row frI_len fr (fr.length - 1) hk
    have hcut := cut_flC frI_len fr 0 (fr.length - 1)
    rw [List.drop_zero, Nat.sub_zero] at hcut
    have hfm := hfs _ (mem_bang hk)
    generalize fr[fr.length - 1]! = f at hR hfm ⊢
    obtain ⟨fp, fs, fn⟩ := f
    simp only at hfm ⊢
    have htl : (fr.take (fr.length - 1)).length = fr.length - 1 := by rw [List.length_take]; omega
    have hU := con_push ⟨fp, fs, fn, fr.take (fr.length - 1)⟩ d v hfm
    unfold pushM mcI vlP at hU
    unfold mcI
    simp only [htl] at hU ⊢
    simp only [frI, vsI] at hR
    simp only [es, e1, List.length_cons, List.length_nil, Nat.zero_add] at hr ⊢
    refine con_runP Try.func87 rfl rfl (by simp [Try.ntmps87]) rfl ?_
    simp only [s0P, mkPs, mkPA, mkC, numT, eq_self, xRun, vE, vP, vSub, vLoad, vFld, vBin, vBinT, isAg, isBo, vLen, isCutO, isB, bv, gN, isPick, isCall, AS.pt, AS.ev, AS.box, AS.mk', AS.rd, kill, look, cav, avB, td0, td1, td2, td3, td4, td5, td6, Option.getD, Option.isSome, List.getElem?_cons_zero, List.getElem?_cons_succ, List.foldr, List.nil_append, ↓reduceIte, Nat.reduceLT, Nat.reduceAdd, Nat.zero_add, ne_eq, not_false_eq_true, not_true_eq_false, true_and, Bool.false_eq_true, reduceCtorEq, decide_false, Nat.succ_ne_zero, c1, Try.ntmps87]
    refine sw_drawnK (⟨64, [(4, .i ((fr.length - 1 : Nat) : Int)), (3, .bx 2 0), (0, .bx 1 0)], [(1, [.i pc, .br (.rows 5 1 [.int v.n, .bool v.f, .bool v.r, .int v.p, .rows 5 v.c.length (flC vlI v.c)]), .br (.rows 5 nm.length (flC vlI nm)), .sl 0, .i d.n, .b d.f, .b d.r, .i d.p, .br (.rows 5 d.c.length (flC vlI d.c))]), (2, [.i v.n, .b v.f, .b v.r, .i v.p, .br (.rows 5 v.c.length (flC vlI v.c))])], [(0, some ⟨.rows 3 fr.length (flC frI fr), some 162, false⟩)], 3, [1]⟩) (.cons 0 true (.cons 1 true (.cons 2 true (.cons 3 true (.cons 4 true (.cons 5 true (.cons 6 true (.cons 7 true (.cons 8 true (.fork (.alt 9 (.fork (.alt 10 (.fork (.alt 11 (.cons 12 false (.cons 13 false (.cons 14 true (.nil)))) (.alt 12 (.fork (.alt 11 (.cons 13 false (.cons 14 true (.nil))) (.alt 13 (.cons 11 true (.cons 14 true (.nil))) (.last)))) (.last)))) (.alt 12 (.fork (.alt 10 (.fork (.alt 11 (.cons 13 false (.cons 14 true (.nil))) (.alt 13 (.cons 11 true (.cons 14 true (.nil))) (.last)))) (.alt 13 (.cons 10 true (.cons 11 true (.cons 14 true (.nil)))) (.last)))) (.last)))) (.alt 12 (.fork (.alt 9 (.fork (.alt 10 (.fork (.alt 11 (.cons 13 false (.cons 14 true (.nil))) (.alt 13 (.cons 11 true (.cons 14 true (.nil))) (.last)))) (.alt 13 (.cons 10 true (.cons 11 true (.cons 14 true (.nil)))) (.last)))) (.alt 13 (.cons 9 true (.cons 10 true (.cons 11 true (.cons 14 true (.nil))))) (.last)))) (.last))))))))))))) (by kernel_rfl) (by kernel_rfl) (sw_run 200 _ _ _ ?_) (sw_run 200 _ _ _ ?_)
    · simp only [rowD, eq_self, xRun, vE, vP, vSub, vLoad, vFld, vIdx, vBin, vBinT, isAg, isBo, vLen, vStore, gN, isPick, isCall, AS.pt, AS.ev, AS.box, AS.setb, AS.owf, AS.rd, look, cav, avB, setRowG, AV.cells, AV.whole, AV.one, td0, td1, td2, td3, td4, td5, td6, Option.bind, Option.getD, Option.map, Option.isSome, List.map, List.take, List.drop, List.length, List.getElem?_cons_zero, List.getElem?_cons_succ, List.set, List.all, ↓reduceIte, Nat.reduceLT, Nat.reduceAdd, Nat.reduceEqDiff, Nat.zero_add, ne_eq, not_false_eq_true, true_and, and_true, Bool.and_true, Bool.false_eq_true, id_eq, reduceCtorEq, Int.reduceLT, Int.toNat_zero, Int.le_refl, and_self, Nat.succ_ne_zero, Nat.le_refl, hr, c1, g0]
      (try repeat' (with_reducible apply And.intro))
      all_goals first
        | (refine ⟨rfl, id, ?_⟩; simp only [Sub, subT, subB, subO, subP, inj, AV.ren, AV.rens, AV.lt, AV.lts, eq_self, AS.owf, look, td0, td1, td2, td3, td4, td5, td6, Option.bind, List.map, List.mem_cons, List.not_mem_nil, List.nodup_cons, List.nodup_nil, ↓reduceIte, Nat.reduceLT, Nat.reduceEqDiff, not_false_eq_true, or_false, id_eq, reduceCtorEq, and_self]; done)
        | (simp only [g2]; done)
        | kernel_rfl
    simp only [rowD, eq_self, xRun, vE, vP, vSub, vLoad, vFld, vIdx, vBin, vBinT, isAg, isBo, vStore, isCutO, isB, bv, gN, isPick, isCall, AS.pt, AS.ev, AS.box, AS.setb, AS.owf, look, cav, avB, avF, setRowG, AV.cells, AV.whole, AV.one, td0, td1, td2, td3, td4, td5, td6, Option.bind, Option.getD, Option.isSome, List.map, List.take, List.drop, List.length, List.getElem?_cons_zero, List.getElem?_cons_succ, List.set, List.all, ↓reduceIte, Nat.reduceLT, Nat.reduceAdd, Nat.reduceEqDiff, Nat.zero_add, ne_eq, not_false_eq_true, true_and, Bool.and_true, Bool.false_eq_true, id_eq, reduceCtorEq, Int.toNat_natCast, Int.natCast_nonneg, decide_false, and_self, Nat.succ_ne_zero, Nat.le_refl, hR, g1, g3]
    refine sw_cutR 0 rfl rfl ?_ ?_ (sw_run 200 _ _ _ ?_)
    · simp only [eq_self, td0, td1, td2, td3, td4, td5, td6, Option.map]
    · simp only [eq_self, vCut, ixL, ixH, AS.ev, look, td0, td1, td2, td3, td4, td5, td6, Option.getD, Option.map, ↓reduceIte, Int.toNat_natCast, Int.toNat_zero, Int.le_refl, Int.natCast_nonneg, and_self, g4]
    simp only [eq_self, xRun, vE, vP, vFld, vCut, vStore, isCutO, ixL, ixH, gN, isPick, isCall, AS.pt, AS.ev, AS.setb, AS.mk', kill, look, setRowG, AV.cells, AV.whole, AV.one, td0, td1, td2, td3, td4, td5, td6, Option.getD, Option.map, List.length, List.set, List.foldr, ↓reduceIte, Nat.reduceLT, Nat.reduceAdd, Nat.reduceLeDiff, Nat.reduceEqDiff, Nat.zero_add, ne_eq, not_false_eq_true, true_and, Bool.false_eq_true, Int.toNat_natCast, Int.toNat_zero, Int.le_refl, Int.natCast_nonneg, and_self, Nat.succ_ne_zero, hcut]
    refine sw_drawnK (⟨64, [(3, .bx 2 0), (0, .bx 1 0)], [(1, [.i fp, .br (.rows 5 fs.length (flC vlI fs)), .br (.rows 5 fn.length (flC vlI fn)), .sl 4, .i d.n, .b d.f, .b d.r, .i d.p, .br (.rows 5 d.c.length (flC vlI d.c))]), (2, [.i v.n, .b v.f, .b v.r, .i v.p, .br (.rows 5 v.c.length (flC vlI v.c))])], [(4, some ⟨.rows 3 (fr.length - 1) (flC frI (fr.take (fr.length - 1))), some 162, false⟩)], 5, [1]⟩) (.cons 0 true (.cons 1 true (.cons 2 true (.cons 3 true (.cons 4 true (.cons 5 true (.cons 7 true (.cons 9 true (.cons 10 true (.fork (.alt 6 (.fork (.alt 8 (.cons 11 false (.cons 12 true (.cons 13 true (.cons 14 false (.cons 15 true (.cons 16 true (.cons 17 false (.nil)))))))) (.alt 11 (.cons 12 true (.cons 13 true (.fork (.alt 8 (.cons 14 false (.cons 15 true (.cons 16 true (.cons 17 false (.nil))))) (.alt 14 (.cons 8 true (.cons 15 true (.cons 16 true (.cons 17 false (.nil))))) (.last)))))) (.last)))) (.alt 8 (.fork (.alt 6 (.cons 11 false (.cons 12 true (.cons 13 true (.cons 14 false (.cons 15 true (.cons 16 true (.cons 17 false (.nil)))))))) (.alt 11 (.cons 6 true (.cons 12 true (.cons 13 true (.cons 14 false (.cons 15 true (.cons 16 true (.cons 17 false (.nil)))))))) (.last)))) (.alt 11 (.cons 6 true (.cons 12 true (.cons 13 true (.fork (.alt 8 (.cons 14 false (.cons 15 true (.cons 16 true (.cons 17 false (.nil))))) (.alt 14 (.cons 8 true (.cons 15 true (.cons 16 true (.cons 17 false (.nil))))) (.last))))))) (.last)))))))))))))) (by kernel_rfl) (by kernel_rfl) (sw_run 200 _ _ _ ?_) (sw_run 200 _ _ _ ?_)
    · simp only [eq_self, xRun, vE, vP, vSub, vLoad, vFld, vStore, gN, isPick, isCall, AS.pt, AS.ev, AS.setb, look, setRowG, AV.cells, AV.whole, AV.one, td0, td1, td2, td3, td4, td5, td6, Option.getD, Option.isSome, List.length, List.getElem?_cons_zero, List.getElem?_cons_succ, List.set, ↓reduceIte, Nat.reduceLT, Nat.reduceAdd, Nat.reduceLeDiff, Nat.reduceEqDiff, Nat.zero_add, Nat.add_zero, ne_eq, not_false_eq_true, true_and, and_true, Bool.false_eq_true, reduceCtorEq, and_self, Nat.succ_ne_zero]
      (try repeat' (with_reducible apply And.intro))
      all_goals first
        | (refine ⟨rfl, id, ?_⟩; simp only [Sub, subT, subB, subO, subP, inj, AV.ren, AV.rens, AV.lt, AV.lts, eq_self, AS.owf, look, td0, td1, td2, td3, td4, td5, td6, Option.bind, List.map, List.mem_cons, List.not_mem_nil, List.nodup_cons, List.nodup_nil, ↓reduceIte, Nat.reduceLT, Nat.reduceEqDiff, not_false_eq_true, or_false, id_eq, reduceCtorEq, and_self]; done)
        | (simp only [g2]; done)
        | kernel_rfl
    simp only [eq_self, xRun, vE, vP, vSub, vLoad, isCutO, gN, isPick, isCall, AS.pt, AS.ev, look, td0, td1, td2, td3, td4, td5, td6, Option.getD, List.take, List.drop, List.length, ↓reduceIte, Nat.reduceLT, Nat.reduceAdd, Nat.reduceEqDiff, Nat.zero_add, true_and, Bool.false_eq_true, reduceCtorEq, Nat.le_refl]
    refine sw_callPR (hU) rfl rfl rfl ?_ ?_ ?_ (sw_run 200 _ _ _ ?_)
    · simp only [rC, rCs, AS.em, mPs, mP, aD, rD, eq_self, AS.ev, AS.owf, look, td0, td1, td2, td3, td4, td5, td6, Option.bind, Option.getD, List.map, List.append_nil, ↓reduceIte, Nat.reduceEqDiff, id_eq, and_self]
    · simp only [eC, eCs, ePs, eP, eq_self, AS.ev, look, td0, td1, td2, td3, td4, td5, td6, Option.getD, List.map, List.not_mem_nil, List.nodup_cons, List.nodup_nil, List.nil_append, List.append_nil, ↓reduceIte, Nat.reduceEqDiff, not_false_eq_true, and_self]
    · simp only [bPs, bP, eq_self, AS.ev, look, td0, td1, td2, td3, td4, td5, td6, Option.getD, List.map, List.not_mem_nil, List.nodup_cons, List.nodup_nil, List.append_nil, ↓reduceIte, Nat.reduceEqDiff, not_false_eq_true, and_self]
    simp only [mkC, fQP, xRetP, rRs, rOs, rC, rCs, eRs, eOs, eC, eCs, aftS, aftV, AS.kb, rmBs, rmB, mkO, packRA, flatR, ePs, eP, bPs, bP, aD, AS.kl, retA, xRes, rD, eq_self, xRun, vE, vP, isCutO, gN, isPick, isCall, AS.pt, AS.ev, AS.mk', AS.owf, kill, look, cav, avB, td0, td1, td2, td3, td4, td5, td6, Option.bind, Option.getD, List.map, List.foldr, List.not_mem_nil, List.nodup_cons, List.nodup_nil, List.nil_append, List.append_nil, ↓reduceIte, Nat.reduceLT, Nat.reduceAdd, Nat.reduceEqDiff, not_false_eq_true, or_false, Bool.false_eq_true, id_eq, reduceCtorEq, and_self, Try.results87]
end Go.Proofs.Ytgjcilainojlfaa
/-
  The program's machine: an instruction.
-/
namespace Go.Proofs.Ytgjcilainojlfaa
open Go.RowKit
set_option linter.unusedVariables false
set_option linter.unusedSimpArgs false
def pcM (m : Mch) (p : Int) : Mch := ⟨p, m.st, m.nm, m.fr⟩
def nmM (m : Mch) (l : List Vl) : Mch := ⟨m.pc, m.st, l, m.fr⟩
/-- An instruction, at the next place already: how it ends, the machine behind, what is told. -/
def exM (m : Mch) (d : Vl) (x : Ins) : Int × Mch × Vl :=
  if x.op = 1 ∨ x.op = 2 then (0, pushM m (.num x.a), d)
  else if x.op = 3 then (if m.nm.length ≤ x.a.toNat then (4, m, d) else (0, pushM m (m.nm[m.nm.length - 1 - x.a.toNat]!), d))
  else if x.op = 4 then ((opM m (opB x.a)).1, (opM m (opB x.a)).2, d)
  else if x.op = 5 then (0, pcM m x.a, d)
  else if x.op = 6 then (if m.st.length < 1 then (4, m, d) else if ((topM m 1)[0]!).f = true then (3, popM m 1, d) else if ((topM m 1)[0]!).n = 0 then (0, pcM (popM m 1) x.a, d) else (0, popM m 1, d))
  else if x.op = 7 ∨ x.op = 8 then (0, pushM m (.fn (decide (x.op = 8)) x.a m.nm), d)
  else if x.op = 9 then ((callM m).1, (callM m).2, d)
  else if x.op = 10 then retM m d
  else if x.op = 11 then (if m.st.length < 1 then (4, m, d) else (0, nmM (popM m 1) (m.nm ++ [(topM m 1)[0]!]), d))
  else (if m.nm.length = 0 then (4, m, d) else (0, nmM m (m.nm.take (m.nm.length - 1)), d))
/-- Not too large. -/
structure SzM (m : Mch) : Prop where
  pc : 0 ≤ m.pc ∧ m.pc ≤ 1000000
  st : m.st.length ≤ 90000
  nm : m.nm.length ≤ 90000
  fr : m.fr.length ≤ 90000
  ct : ∀ v ∈ m.st, v.c.length ≤ 90000
  fs : ∀ f ∈ m.fr, f.st.length ≤ 90000
theorem con_CloneF (l : List Vl) (hl : l.length ≤ 1000000) : ConP Try.prog 85 [.b (.one (.rows 5 l.length (flC vlI l)))] [] [.one (.r (.rows 5 l.length (flC vlI l)))] := by
  refine con_runPF [0, 1] Try.func85 rfl rfl (by simp [Try.ntmps85]) rfl ?_
  simp only [s0P, mkPs, mkPA, argA, numT, eq_self, xRun, vE, vP, isCutO, gN, isPick, isCall, AS.pt, AS.ev, look, cav, avB, td0, td1, td2, td3, td4, td5, td6, Option.getD, ↓reduceIte, Nat.reduceLT, true_and, Bool.false_eq_true, reduceCtorEq, Try.ntmps85]
  refine sw_nilE (q := (88, 5)) rfl (by simp only [td0, td1, td2, td3, td4, td5, td6]) (fun h0 => ?_) ?_
  · obtain rfl := List.eq_nil_of_length_eq_zero h0
    refine sw_run 200 _ _ _ ?_
    simp only [fQF, fQP, xRetP, rRs, rOs, rC, eRs, eOs, eC, AS.fzL, AS.fzN, aD, xRes, eq_self, xRun, vE, vP, isCutO, isB, bv, gN, isPick, isCall, AS.pt, AS.ev, AS.owf, look, cav, td0, td1, td2, td3, td4, td5, td6, Option.bind, Option.getD, List.map, List.length, List.nodup_nil, List.append_nil, ↓reduceIte, Nat.reduceLT, or_false, Bool.false_eq_true, reduceCtorEq, and_self, flC, Try.results85]
  · refine sw_run 200 _ _ _ ?_
    simp only [fQF, fQP, xRetP, rRs, rOs, rC, eRs, eOs, eC, AS.fzL, AS.fzN, AS.fz, fzT, fzB, AV.fz, aD, xRes, eq_self, xRun, vE, vP, vRow, vApp, apP, apC, isCl, isCutO, xFill, appL, appR, isB, bv, gN, isPick, isCall, AS.pt, AS.ev, AS.mk', AS.owf, kill, look, cDs, eatsOf, td0, td1, td2, td3, td4, td5, td6, Option.bind, Option.getD, Option.isSome, List.map, List.foldr, List.all, List.replicate, List.mem_cons, List.not_mem_nil, List.nodup_nil, List.nil_append, List.append_nil, ↓reduceIte, Nat.reduceLT, Nat.reduceAdd, Nat.reduceEqDiff, Nat.zero_add, Nat.zero_mul, not_false_eq_true, true_and, and_true, or_false, or_true, Bool.and_false, Bool.not_true, Bool.false_eq_true, id_eq, reduceCtorEq, and_self, Nat.zero_le, Try.results85]
    exact ⟨fun _ _ => trivial, by unfold maxLen; omega, by omega⟩
set_option maxRecDepth 10000 in
theorem con_ex1 (m : Mch) (d : Vl) (a : Int) (hm : SzM m) : ConP Try.prog 46 [.p (mcI m d), .b (.ag (insC ⟨1, a⟩))] [mcI (exM (pcM m (m.pc + 1)) d ⟨1, a⟩).2.1 (exM (pcM m (m.pc + 1)) d ⟨1, a⟩).2.2] [.one (.o (.int (exM (pcM m (m.pc + 1)) d ⟨1, a⟩).1))] := by
  have hpc : inI (m.pc + 1) := by have := hm.pc; unfold inI; omega
  have e : exM (pcM m (m.pc + 1)) d ⟨1, a⟩ = (0, pushM (pcM m (m.pc + 1)) (.num a), d) := by unfold exM; simp only; rw [if_pos (by decide)]
  rw [e]
  have hU := con_push (pcM m (m.pc + 1)) d (.num a) (by have := hm.st; unfold pcM; simp only; omega)
  unfold mcI vlP at hU
  unfold mcI
  simp only [pcM, nm_n, nm_f, nm_r, nm_p, nm_c, List.length_nil, flC, insC] at hU ⊢
  refine con_runP Try.func46 rfl rfl (by simp [Try.ntmps46]) rfl ?_
  simp only [s0P, mkPs, mkPA, mkC, argA, numT, eq_self, xRun, vE, vP, vSub, vLoad, vFld, vBin, vBinT, isAg, isBo, vBuild, vStore, isCutO, xFill, isB, bv, gN, isPick, isCall, AS.pt, AS.ev, AS.box, AS.setb, AS.mk', kill, look, cav, avB, setRowG, AV.cells, AV.whole, AV.one, td0, td1, td2, td3, td4, td5, td6, Option.getD, Option.isSome, List.map, List.length, List.getElem?_cons_zero, List.getElem?_cons_succ, List.set, List.foldr, List.all, List.nil_append, ↓reduceIte, Nat.reduceLT, Nat.reduceAdd, Nat.reduceLeDiff, Nat.reduceEqDiff, Nat.zero_add, Nat.add_zero, ne_eq, not_false_eq_true, true_and, Bool.and_true, Bool.false_eq_true, reduceCtorEq, decide_true, and_self, Nat.succ_ne_zero, hpc, Try.ntmps46]
  refine sw_callPR (hU) rfl rfl rfl ?_ ?_ ?_ (sw_run 200 _ _ _ ?_)
  · simp only [rC, rCs, AS.em, mPs, mP, aD, rD, eq_self, AS.ev, AS.owf, look, td0, td1, td2, td3, td4, td5, td6, Option.bind, Option.getD, List.map, List.append_nil, ↓reduceIte, Nat.reduceEqDiff, id_eq, and_self]
  · simp only [eC, eCs, ePs, eP, eq_self, AS.ev, look, td0, td1, td2, td3, td4, td5, td6, Option.getD, List.map, List.not_mem_nil, List.nodup_cons, List.nodup_nil, List.nil_append, List.append_nil, ↓reduceIte, Nat.reduceEqDiff, not_false_eq_true, and_self]
  · simp only [bPs, bP, eq_self, AS.ev, look, td0, td1, td2, td3, td4, td5, td6, Option.getD, List.map, List.not_mem_nil, List.nodup_cons, List.nodup_nil, List.append_nil, ↓reduceIte, Nat.reduceEqDiff, not_false_eq_true, and_self]
  simp only [mkC, fQP, xRetP, rRs, rOs, rC, rCs, eRs, eOs, eC, eCs, aftS, aftV, AS.kb, rmBs, rmB, mkO, packRA, flatR, ePs, eP, bPs, bP, aD, AS.kl, retA, xRes, rD, eq_self, xRun, vE, vP, isCutO, gN, isPick, isCall, AS.pt, AS.ev, AS.mk', AS.owf, kill, look, cav, avB, td0, td1, td2, td3, td4, td5, td6, Option.bind, Option.getD, List.map, List.foldr, List.not_mem_nil, List.nodup_cons, List.nodup_nil, List.nil_append, List.append_nil, ↓reduceIte, Nat.reduceLT, Nat.reduceAdd, Nat.reduceEqDiff, not_false_eq_true, or_false, Bool.false_eq_true, id_eq, reduceCtorEq, and_self, Try.results46]
set_option maxRecDepth 10000 in
theorem con_ex2 (m : Mch) (d : Vl) (a : Int) (hm : SzM m) : ConP Try.prog 46 [.p (mcI m d), .b (.ag (insC ⟨2, a⟩))] [mcI (exM (pcM m (m.pc + 1)) d ⟨2, a⟩).2.1 (exM (pcM m (m.pc + 1)) d ⟨2, a⟩).2.2] [.one (.o (.int (exM (pcM m (m.pc + 1)) d ⟨2, a⟩).1))] := by
  have hpc : inI (m.pc + 1) := by have := hm.pc; unfold inI; omega
  have e : exM (pcM m (m.pc + 1)) d ⟨2, a⟩ = (0, pushM (pcM m (m.pc + 1)) (.num a), d) := by unfold exM; simp only; rw [if_pos (by decide)]
  rw [e]
  have hU := con_push (pcM m (m.pc + 1)) d (.num a) (by have := hm.st; unfold pcM; simp only; omega)
  unfold mcI vlP at hU
  unfold mcI
  simp only [pcM, nm_n, nm_f, nm_r, nm_p, nm_c, List.length_nil, flC, insC] at hU ⊢
  refine con_runP Try.func46 rfl rfl (by simp [Try.ntmps46]) rfl ?_
  simp only [s0P, mkPs, mkPA, mkC, argA, numT, eq_self, xRun, vE, vP, vSub, vLoad, vFld, vBin, vBinT, isAg, isBo, vBuild, vStore, isCutO, xFill, isB, bv, gN, isPick, isCall, AS.pt, AS.ev, AS.box, AS.setb, AS.mk', kill, look, cav, avB, setRowG, AV.cells, AV.whole, AV.one, td0, td1, td2, td3, td4, td5, td6, Option.getD, Option.isSome, List.map, List.length, List.getElem?_cons_zero, List.getElem?_cons_succ, List.set, List.foldr, List.all, List.nil_append, ↓reduceIte, Nat.reduceLT, Nat.reduceAdd, Nat.reduceLeDiff, Nat.reduceEqDiff, Nat.zero_add, Nat.add_zero, ne_eq, not_false_eq_true, true_and, Bool.and_true, Bool.false_eq_true, reduceCtorEq, Int.reduceEq, decide_true, decide_false, and_self, Nat.succ_ne_zero, hpc, Try.ntmps46]
  refine sw_callPR (hU) rfl rfl rfl ?_ ?_ ?_ (sw_run 200 _ _ _ ?_)
  · simp only [rC, rCs, AS.em, mPs, mP, aD, rD, eq_self, AS.ev, AS.owf, look, td0, td1, td2, td3, td4, td5, td6, Option.bind, Option.getD, List.map, List.append_nil, ↓reduceIte, Nat.reduceEqDiff, id_eq, and_self]
  · simp only [eC, eCs, ePs, eP, eq_self, AS.ev, look, td0, td1, td2, td3, td4, td5, td6, Option.getD, List.map, List.not_mem_nil, List.nodup_cons, List.nodup_nil, List.nil_append, List.append_nil, ↓reduceIte, Nat.reduceEqDiff, not_false_eq_true, and_self]
  · simp only [bPs, bP, eq_self, AS.ev, look, td0, td1, td2, td3, td4, td5, td6, Option.getD, List.map, List.not_mem_nil, List.nodup_cons, List.nodup_nil, List.append_nil, ↓reduceIte, Nat.reduceEqDiff, not_false_eq_true, and_self]
  simp only [mkC, fQP, xRetP, rRs, rOs, rC, rCs, eRs, eOs, eC, eCs, aftS, aftV, AS.kb, rmBs, rmB, mkO, packRA, flatR, ePs, eP, bPs, bP, aD, AS.kl, retA, xRes, rD, eq_self, xRun, vE, vP, isCutO, gN, isPick, isCall, AS.pt, AS.ev, AS.mk', AS.owf, kill, look, cav, avB, td0, td1, td2, td3, td4, td5, td6, Option.bind, Option.getD, List.map, List.foldr, List.not_mem_nil, List.nodup_cons, List.nodup_nil, List.nil_append, List.append_nil, ↓reduceIte, Nat.reduceLT, Nat.reduceAdd, Nat.reduceEqDiff, not_false_eq_true, or_false, Bool.false_eq_true, id_eq, reduceCtorEq, and_self, Try.results46]
set_option maxRecDepth 10000 in
theorem con_ex3 (m : Mch) (d : Vl) (a : Int) (hm : SzM m) (ha : 0 ≤ a ∧ a ≤ 299) : ConP Try.prog 46 [.p (mcI m d), .b (.ag (insC ⟨3, a⟩))] [mcI (exM (pcM m (m.pc + 1)) d ⟨3, a⟩).2.1 (exM (pcM m (m.pc + 1)) d ⟨3, a⟩).2.2] [.one (.o (.int (exM (pcM m (m.pc + 1)) d ⟨3, a⟩).1))] := by
  have hpc : inI (m.pc + 1) := by have := hm.pc; unfold inI; omega
  have hst := hm.st
  have hnm := hm.nm
  unfold exM
  simp only
  rw [if_neg (by decide)]
  rw [if_pos (by decide)]
  unfold pcM
  simp only
  by_cases h : m.nm.length ≤ a.toNat
  · rw [if_pos h]
    have h' : (m.nm.length : Int) ≤ a := by omega
    unfold mcI
    simp only [insC]
    refine con_runP Try.func46 rfl rfl (by simp [Try.ntmps46]) rfl ?_
    simp only [s0P, mkPs, mkPA, mkC, argA, numT, eq_self, xRun, vE, vP, vSub, vLoad, vFld, vBin, vBinT, isAg, isBo, vStore, isCutO, isB, bv, gN, isPick, isCall, AS.pt, AS.ev, AS.box, AS.setb, AS.mk', kill, look, cav, avB, setRowG, AV.cells, AV.whole, AV.one, td0, td1, td2, td3, td4, td5, td6, Option.getD, Option.isSome, List.map, List.length, List.getElem?_cons_zero, List.set, List.foldr, List.all, List.nil_append, ↓reduceIte, Nat.reduceLT, Nat.reduceAdd, Nat.reduceLeDiff, Nat.reduceEqDiff, Nat.zero_add, Nat.add_zero, ne_eq, not_false_eq_true, true_and, Bool.and_true, Bool.false_eq_true, reduceCtorEq, Int.reduceEq, decide_true, decide_false, and_self, Nat.succ_ne_zero, hpc, Try.ntmps46]
    refine sw_drawn (.cons 0 true (.cons 1 true (.cons 2 true (.cons 3 true (.cons 4 true (.cons 5 true (.cons 6 true (.cons 7 true (.nil))))))))) (by kernel_rfl) fQP_panic (by kernel_rfl) (sw_run 200 _ _ _ ?_)
    simp only [fQP, xRetP, rRs, rOs, rC, rCs, eRs, eOs, eC, eCs, aD, xRes, rD, eq_self, xRun, vE, vP, vSub, vLoad, vFld, vBin, vBinT, isAg, isBo, vLen, isCutO, isB, bv, gN, isPick, isCall, AS.pt, AS.ev, AS.owf, AS.rd, look, cav, td0, td1, td2, td3, td4, td5, td6, Option.bind, Option.getD, Option.isSome, List.map, List.getElem?_cons_zero, List.getElem?_cons_succ, List.not_mem_nil, List.nodup_cons, List.nodup_nil, List.nil_append, List.append_nil, ↓reduceIte, Nat.reduceLT, Nat.reduceEqDiff, Nat.zero_add, ne_eq, not_false_eq_true, or_false, Bool.false_eq_true, id_eq, reduceCtorEq, decide_true, and_self, Nat.succ_ne_zero, h', Try.results46]
  · rw [if_neg h]
    have h' : ¬ (m.nm.length : Int) ≤ a := by omega
    have g0 : (m.nm.length : Int) - 1 - a = ((m.nm.length - 1 - a.toNat : Nat) : Int) := by omega
    have g1 : inI ((m.nm.length : Int) - 1) := by unfold inI; omega
    have g2 : inI ((m.nm.length - 1 - a.toNat : Nat) : Int) := by unfold inI; omega
    have g3 : ((m.nm.length - 1 - a.toNat : Nat) : Int) < (m.nm.length : Int) := by omega
    have hR := flC_row vlI_len m.nm (m.nm.length - 1 - a.toNat) (by omega)
    generalize m.nm[m.nm.length - 1 - a.toNat]! = v at hR ⊢
    rw [vlI_eq] at hR
    have hU := con_push (pcM m (m.pc + 1)) d v (by unfold pcM; simp only; omega)
    unfold mcI vlP at hU
    unfold mcI
    simp only [pcM, insC] at hU ⊢
    refine con_runP Try.func46 rfl rfl (by simp [Try.ntmps46]) rfl ?_
    simp only [s0P, mkPs, mkPA, mkC, argA, numT, eq_self, xRun, vE, vP, vSub, vLoad, vFld, vBin, vBinT, isAg, isBo, vStore, isCutO, isB, bv, gN, isPick, isCall, AS.pt, AS.ev, AS.box, AS.setb, AS.mk', kill, look, cav, avB, setRowG, AV.cells, AV.whole, AV.one, td0, td1, td2, td3, td4, td5, td6, Option.getD, Option.isSome, List.map, List.length, List.getElem?_cons_zero, List.set, List.foldr, List.all, List.nil_append, ↓reduceIte, Nat.reduceLT, Nat.reduceAdd, Nat.reduceLeDiff, Nat.reduceEqDiff, Nat.zero_add, Nat.add_zero, ne_eq, not_false_eq_true, true_and, Bool.and_true, Bool.false_eq_true, reduceCtorEq, Int.reduceEq, decide_true, decide_false, and_self, Nat.succ_ne_zero, hpc, Try.ntmps46]
    refine sw_drawn (.cons 0 true (.cons 1 true (.cons 2 true (.cons 3 true (.cons 4 true (.cons 5 true (.cons 6 true (.cons 7 true (.nil))))))))) (by kernel_rfl) fQP_panic (by kernel_rfl) (sw_run 200 _ _ _ ?_)
    simp only [eq_self, xRun, vP, vSub, vLoad, vFld, vBin, vBinT, isAg, isBo, vLen, isB, bv, gN, isPick, AS.pt, AS.ev, AS.rd, look, td0, td1, td2, td3, td4, td5, td6, Option.getD, Option.isSome, List.getElem?_cons_zero, List.getElem?_cons_succ, ↓reduceIte, Nat.reduceLT, Nat.reduceEqDiff, Nat.zero_add, ne_eq, not_false_eq_true, true_and, Bool.false_eq_true, reduceCtorEq, decide_false, Nat.succ_ne_zero, h']
    refine sw_drawn (.cons 0 true (.cons 1 true (.cons 2 true (.cons 3 true (.cons 4 true (.cons 5 true (.cons 6 true (.cons 7 true (.cons 8 true (.cons 9 true (.cons 10 true (.cons 11 true (.cons 12 true (.cons 13 true (.cons 14 true (.cons 15 true (.cons 16 false (.nil)))))))))))))))))) (by kernel_rfl) fQP_panic (by kernel_rfl) (sw_run 200 _ _ _ ?_)
    simp only [rowD, eq_self, xRun, vP, vSub, vLoad, vFld, vIdx, vBin, vBinT, isAg, isBo, vLen, gN, isPick, isCall, AS.pt, AS.ev, AS.rd, look, cav, avB, td0, td1, td2, td3, td4, td5, td6, Option.getD, Option.isSome, List.map, List.take, List.drop, List.length, List.getElem?_cons_zero, List.getElem?_cons_succ, ↓reduceIte, Nat.reduceLT, Nat.reduceAdd, Nat.reduceEqDiff, Nat.zero_add, ne_eq, not_false_eq_true, true_and, Bool.false_eq_true, reduceCtorEq, Int.toNat_natCast, Int.natCast_nonneg, and_self, Nat.succ_ne_zero, Nat.le_refl, g0, g1, g2, g3, hR]
    refine sw_callDPR (cap := []) (hU) rfl rfl rfl ?_ ?_ ?_ rfl (sw_run 200 _ _ _ ?_)
    · simp only [rC, rCs, AS.em, mPs, mP, aD, rD, eq_self, AS.ev, AS.owf, look, td0, td1, td2, td3, td4, td5, td6, Option.bind, Option.getD, List.map, List.append_nil, ↓reduceIte, Nat.reduceEqDiff, id_eq, and_self]
    · simp only [eC, eCs, ePs, eP, eq_self, AS.ev, look, td0, td1, td2, td3, td4, td5, td6, Option.getD, List.map, List.not_mem_nil, List.nodup_cons, List.nodup_nil, List.nil_append, List.append_nil, ↓reduceIte, Nat.reduceEqDiff, not_false_eq_true, and_self]
    · simp only [bPs, bP, eq_self, AS.ev, look, td0, td1, td2, td3, td4, td5, td6, Option.getD, List.map, List.not_mem_nil, List.nodup_cons, List.nodup_nil, List.append_nil, ↓reduceIte, Nat.reduceEqDiff, not_false_eq_true, and_self]
    simp only [mkC, fQP, xRetP, rRs, rOs, rC, rCs, eRs, eOs, eC, eCs, aftS, aftV, AS.kb, rmBs, rmB, mkO, packRA, flatR, ePs, eP, bPs, bP, aD, AS.kl, retA, xRes, rD, eq_self, xRun, vE, vP, isCutO, gN, isPick, isCall, AS.pt, AS.ev, AS.mk', AS.owf, kill, look, cav, avB, td0, td1, td2, td3, td4, td5, td6, Option.bind, Option.getD, List.map, List.foldr, List.not_mem_nil, List.nodup_cons, List.nodup_nil, List.nil_append, List.append_nil, ↓reduceIte, Nat.reduceLT, Nat.reduceAdd, Nat.reduceEqDiff, not_false_eq_true, or_false, Bool.false_eq_true, id_eq, reduceCtorEq, and_self, Try.results46]
set_option maxRecDepth 10000 in
theorem con_ex4 (m : Mch) (d : Vl) (a : Int) (hm : SzM m) (ha : 1 ≤ a ∧ a ≤ 8) : ConP Try.prog 46 [.p (mcI m d), .b (.ag (insC ⟨4, a⟩))] [mcI (exM (pcM m (m.pc + 1)) d ⟨4, a⟩).2.1 (exM (pcM m (m.pc + 1)) d ⟨4, a⟩).2.2] [.one (.o (.int (exM (pcM m (m.pc + 1)) d ⟨4, a⟩).1))] := by
  have hpc : inI (m.pc + 1) := by have := hm.pc; unfold inI; omega
  have hst := hm.st
  have hnm := hm.nm
  unfold exM
  simp only
  rw [if_neg (by decide)]
  rw [if_neg (by decide)]
  rw [if_pos (by decide)]
  have hN := con_OpNameI a ha
  have hop : opAr (opB a) = 1 ∨ opAr (opB a) = 2 := by rw [op_pop ha]; split <;> simp
  have hU := con_operate (pcM m (m.pc + 1)) d (opB a) (by unfold pcM; simp only; omega) hop
  generalize opM (pcM m (m.pc + 1)) (opB a) = q at hU ⊢
  unfold mcI at hU ⊢
  simp only [pcM, insC] at hU ⊢
  refine con_runP Try.func46 rfl rfl (by simp [Try.ntmps46]) rfl ?_
  simp only [s0P, mkPs, mkPA, mkC, argA, numT, eq_self, xRun, vE, vP, vSub, vLoad, vFld, vBin, vBinT, isAg, isBo, vStore, isCutO, isB, bv, gN, isPick, isCall, AS.pt, AS.ev, AS.box, AS.setb, AS.mk', kill, look, cav, avB, setRowG, AV.cells, AV.whole, AV.one, td0, td1, td2, td3, td4, td5, td6, Option.getD, Option.isSome, List.map, List.length, List.getElem?_cons_zero, List.getElem?_cons_succ, List.set, List.foldr, List.all, List.nil_append, ↓reduceIte, Nat.reduceLT, Nat.reduceAdd, Nat.reduceLeDiff, Nat.reduceEqDiff, Nat.zero_add, Nat.add_zero, ne_eq, not_false_eq_true, true_and, Bool.and_true, Bool.false_eq_true, reduceCtorEq, Int.reduceEq, decide_true, decide_false, and_self, Nat.succ_ne_zero, hpc, Try.ntmps46]
  refine sw_call (hN) rfl (aAs_ok ?_) ?_ (sw_run 200 _ _ _ ?_)
  · simp only [aAs, aA, aD, AS.ev, look, Option.getD, List.map, List.append_nil, ↓reduceIte, eq_self, and_self]
  · simp only [okR]
  simp only [mkR, flatD, packA, retA, List.headD_cons, eq_self, xRun, gN, isPick, isCall, AS.pt, td0, td1, td2, td3, td4, td5, td6, ↓reduceIte, Nat.reduceLT, Bool.false_eq_true]
  refine sw_callPR (hU) rfl rfl rfl ?_ ?_ ?_ (sw_run 200 _ _ _ ?_)
  · simp only [rC, rCs, AS.em, mPs, mP, aA, aD, rD, eq_self, AS.ev, AS.owf, look, td0, td1, td2, td3, td4, td5, td6, Option.bind, Option.getD, List.map, List.append_nil, ↓reduceIte, Nat.reduceEqDiff, id_eq, and_self]
  · simp only [eC, eCs, ePs, eP, eq_self, AS.ev, look, td0, td1, td2, td3, td4, td5, td6, Option.getD, List.map, List.not_mem_nil, List.nodup_cons, List.nodup_nil, List.nil_append, List.append_nil, ↓reduceIte, Nat.reduceEqDiff, not_false_eq_true, and_self]
  · simp only [bPs, bP, eq_self, AS.ev, look, td0, td1, td2, td3, td4, td5, td6, Option.getD, List.map, List.not_mem_nil, List.nodup_cons, List.nodup_nil, List.append_nil, ↓reduceIte, Nat.reduceEqDiff, not_false_eq_true, and_self]
  simp only [mkC, fQP, xRetP, rRs, rOs, rC, rCs, eRs, eOs, eC, eCs, aftS, aftV, AS.kb, rmBs, rmB, mkO, packRA, flatR, ePs, eP, bPs, bP, aD, AS.kl, retA, List.headD_cons, xRes, rD, eq_self, xRun, vE, vP, isCutO, gN, isPick, isCall, AS.pt, AS.ev, AS.mk', AS.owf, kill, look, avB, td0, td1, td2, td3, td4, td5, td6, Option.bind, Option.getD, List.map, List.foldr, List.not_mem_nil, List.nodup_cons, List.nodup_nil, List.nil_append, List.append_nil, ↓reduceIte, Nat.reduceLT, Nat.reduceAdd, Nat.reduceEqDiff, not_false_eq_true, or_false, Bool.false_eq_true, id_eq, reduceCtorEq, and_self, Try.results46]
set_option maxRecDepth 10000 in
theorem con_ex5 (m : Mch) (d : Vl) (a : Int) (hm : SzM m) : ConP Try.prog 46 [.p (mcI m d), .b (.ag (insC ⟨5, a⟩))] [mcI (exM (pcM m (m.pc + 1)) d ⟨5, a⟩).2.1 (exM (pcM m (m.pc + 1)) d ⟨5, a⟩).2.2] [.one (.o (.int (exM (pcM m (m.pc + 1)) d ⟨5, a⟩).1))] := by
  have hpc : inI (m.pc + 1) := by have := hm.pc; unfold inI; omega
  have hst := hm.st
  have hnm := hm.nm
  unfold exM
  simp only
  rw [if_neg (by decide)]
  rw [if_neg (by decide)]
  rw [if_neg (by decide)]
  rw [if_pos (by decide)]
  unfold mcI
  simp only [pcM, insC]
  refine con_runP Try.func46 rfl rfl (by simp [Try.ntmps46]) rfl ?_
  simp only [s0P, mkPs, mkPA, mkC, fQP, xRetP, rRs, rOs, rC, rCs, eRs, eOs, eC, eCs, aD, argA, numT, xRes, rD, eq_self, xRun, vE, vP, vSub, vLoad, vFld, vBin, vBinT, isAg, isBo, vStore, isCutO, isB, bv, gN, isPick, isCall, AS.pt, AS.ev, AS.box, AS.setb, AS.mk', AS.owf, kill, look, cav, avB, setRowG, AV.cells, AV.whole, AV.one, td0, td1, td2, td3, td4, td5, td6, Option.bind, Option.getD, Option.isSome, List.map, List.length, List.getElem?_cons_zero, List.getElem?_cons_succ, List.set, List.foldr, List.all, List.not_mem_nil, List.nodup_cons, List.nodup_nil, List.nil_append, List.append_nil, ↓reduceIte, Nat.reduceLT, Nat.reduceAdd, Nat.reduceLeDiff, Nat.reduceEqDiff, Nat.zero_add, Nat.add_zero, ne_eq, not_false_eq_true, or_false, Bool.and_true, Bool.false_eq_true, id_eq, reduceCtorEq, Int.reduceEq, decide_true, decide_false, and_self, Nat.succ_ne_zero, hpc, Try.ntmps46, Try.results46]
set_option maxRecDepth 10000 in
theorem con_ex6 (m : Mch) (d : Vl) (a : Int) (hm : SzM m) : ConP Try.prog 46 [.p (mcI m d), .b (.ag (insC ⟨6, a⟩))] [mcI (exM (pcM m (m.pc + 1)) d ⟨6, a⟩).2.1 (exM (pcM m (m.pc + 1)) d ⟨6, a⟩).2.2] [.one (.o (.int (exM (pcM m (m.pc + 1)) d ⟨6, a⟩).1))] := by
  have hpc : inI (m.pc + 1) := by have := hm.pc; unfold inI; omega
  have hst := hm.st
  have hnm := hm.nm
  unfold exM
  simp only
  rw [if_neg (by decide)]
  rw [if_neg (by decide)]
  rw [if_neg (by decide)]
  rw [if_neg (by decide)]
  rw [if_pos (by decide)]
  obtain ⟨m1, hm1⟩ : ∃ m1, m1 = pcM m (m.pc + 1) := ⟨_, rfl⟩
  have hst1 : m1.st.length ≤ 90000 := by rw [hm1]; exact hst
  have ep : m1.pc = m.pc + 1 := by rw [hm1]; rfl
  have es : m.st = m1.st := by rw [hm1]; rfl
  have en : m.nm = m1.nm := by rw [hm1]; rfl
  have ef : m.fr = m1.fr := by rw [hm1]; rfl
  rw [← hm1]
  by_cases h : m1.st.length < 1
  · rw [if_pos h]
    have hP := con_pop0 m1 d 1 (by omega) (by omega) h
    rw [c1] at hP
    unfold mcI at hP ⊢
    simp only [insC]
    rw [es, en, ef]
    rw [ep] at hP ⊢
    refine con_runP Try.func46 rfl rfl (by simp [Try.ntmps46]) rfl ?_
    simp only [s0P, mkPs, mkPA, mkC, argA, numT, eq_self, xRun, vE, vP, vSub, vLoad, vFld, vBin, vBinT, isAg, isBo, vStore, isCutO, isB, bv, gN, isPick, isCall, AS.pt, AS.ev, AS.box, AS.setb, AS.mk', kill, look, cav, avB, setRowG, AV.cells, AV.whole, AV.one, td0, td1, td2, td3, td4, td5, td6, Option.getD, Option.isSome, List.map, List.length, List.getElem?_cons_zero, List.set, List.foldr, List.all, List.nil_append, ↓reduceIte, Nat.reduceLT, Nat.reduceAdd, Nat.reduceLeDiff, Nat.reduceEqDiff, Nat.zero_add, Nat.add_zero, ne_eq, not_false_eq_true, true_and, Bool.and_true, Bool.false_eq_true, reduceCtorEq, Int.reduceEq, decide_true, decide_false, and_self, Nat.succ_ne_zero, hpc, Try.ntmps46]
    refine sw_callPR (hP) rfl rfl rfl ?_ ?_ ?_ (sw_run 200 _ _ _ ?_)
    · simp only [rC, rCs, AS.em, mPs, mP, aA, aD, rD, eq_self, AS.ev, AS.owf, look, cav, td0, td1, td2, td3, td4, td5, td6, Option.bind, Option.getD, List.map, List.append_nil, ↓reduceIte, id_eq, and_self]
    · simp only [eC, eCs, ePs, eP, eq_self, AS.ev, look, cav, td0, td1, td2, td3, td4, td5, td6, Option.getD, List.map, List.not_mem_nil, List.nodup_cons, List.nodup_nil, List.nil_append, List.append_nil, ↓reduceIte, not_false_eq_true, and_self]
    · simp only [bPs, bP, eq_self, AS.ev, look, cav, td0, td1, td2, td3, td4, td5, td6, Option.getD, List.map, List.not_mem_nil, List.nodup_cons, List.nodup_nil, List.append_nil, ↓reduceIte, not_false_eq_true, and_self]
    simp only [mkC, fQP, xRetP, rRs, rOs, rC, rCs, eRs, eOs, eC, eCs, aftS, aftV, AS.kb, rmBs, rmB, mkO, packRA, flatR, ePs, eP, bPs, bP, aD, AS.kl, retA, List.headD_cons, List.tail_cons, xRes, rD, eq_self, xRun, vE, vP, vNot, vExt, isCutO, isB, bv, gN, isPick, isCall, AS.pt, AS.ev, AS.mk', AS.owf, kill, look, cav, avB, td0, td1, td2, td3, td4, td5, td6, Option.bind, Option.getD, Option.isSome, List.map, List.getElem?_cons_zero, List.getElem?_cons_succ, List.foldr, List.not_mem_nil, List.nodup_cons, List.nodup_nil, List.nil_append, List.append_nil, ↓reduceIte, Nat.reduceLT, Nat.reduceAdd, Nat.reduceEqDiff, not_false_eq_true, or_false, Bool.not_false, Bool.false_eq_true, id_eq, reduceCtorEq, and_self, Try.results46]
  · rw [if_neg h]
    have hP := con_pop1 m1 d 1 (by omega) (by omega) (by omega)
    rw [c1] at hP
    obtain ⟨tp, htp⟩ : ∃ tp, tp = topM m1 1 := ⟨_, rfl⟩
    have htl : tp.length = 1 := by rw [htp, top_len]; omega
    rw [← htp] at hP ⊢
    rw [list_one htl] at hP ⊢
    generalize tp[0]! = v at hP ⊢
    have e0 : [v][0]! = v := rfl
    rw [e0]
    have hr := row1 v
    unfold rowD at hr
    have e1 := vlI_eq v
    simp only [flC_one, List.length_singleton] at hP
    have pp : (popM m1 1).pc = m1.pc := rfl
    have pn : (popM m1 1).nm = m1.nm := rfl
    have pf : (popM m1 1).fr = m1.fr := rfl
    cases hv : v.f with
    | true =>
      rw [if_pos rfl]
      simp only [e1, hv] at hr hP
      unfold mcI at hP ⊢
      simp only [insC]
      rw [es, en, ef]
      rw [pp, pn, pf] at hP ⊢
      rw [ep] at hP ⊢
      refine con_runP Try.func46 rfl rfl (by simp [Try.ntmps46]) rfl ?_
      simp only [s0P, mkPs, mkPA, mkC, argA, numT, eq_self, xRun, vE, vP, vSub, vLoad, vFld, vBin, vBinT, isAg, isBo, vStore, isCutO, isB, bv, gN, isPick, isCall, AS.pt, AS.ev, AS.box, AS.setb, AS.mk', kill, look, cav, avB, setRowG, AV.cells, AV.whole, AV.one, td0, td1, td2, td3, td4, td5, td6, Option.getD, Option.isSome, List.map, List.length, List.getElem?_cons_zero, List.set, List.foldr, List.all, List.nil_append, ↓reduceIte, Nat.reduceLT, Nat.reduceAdd, Nat.reduceLeDiff, Nat.reduceEqDiff, Nat.zero_add, Nat.add_zero, ne_eq, not_false_eq_true, true_and, Bool.and_true, Bool.false_eq_true, reduceCtorEq, Int.reduceEq, decide_true, decide_false, and_self, Nat.succ_ne_zero, hpc, Try.ntmps46]
      refine sw_callPR (hP) rfl rfl rfl ?_ ?_ ?_ (sw_run 200 _ _ _ ?_)
      · simp only [rC, rCs, AS.em, mPs, mP, aA, aD, rD, eq_self, AS.ev, AS.owf, look, cav, td0, td1, td2, td3, td4, td5, td6, Option.bind, Option.getD, List.map, List.append_nil, ↓reduceIte, id_eq, and_self]
      · simp only [eC, eCs, ePs, eP, eq_self, AS.ev, look, cav, td0, td1, td2, td3, td4, td5, td6, Option.getD, List.map, List.not_mem_nil, List.nodup_cons, List.nodup_nil, List.nil_append, List.append_nil, ↓reduceIte, not_false_eq_true, and_self]
      · simp only [bPs, bP, eq_self, AS.ev, look, cav, td0, td1, td2, td3, td4, td5, td6, Option.getD, List.map, List.not_mem_nil, List.nodup_cons, List.nodup_nil, List.append_nil, ↓reduceIte, not_false_eq_true, and_self]
      simp only [mkC, fQP, xRetP, rRs, rOs, rC, rCs, eRs, eOs, eC, eCs, aftS, aftV, AS.kb, rmBs, rmB, mkO, packRA, flatR, ePs, eP, bPs, bP, aD, AS.kl, retA, List.headD_cons, List.tail_cons, rowD, xRes, rD, eq_self, xRun, vE, vP, vSub, vLoad, vFld, vIdx, vNot, vExt, isCutO, isB, bv, gN, isPick, isCall, AS.pt, AS.ev, AS.mk', AS.owf, kill, look, cav, avB, td0, td1, td2, td3, td4, td5, td6, Option.bind, Option.getD, Option.isSome, List.map, List.getElem?_cons_zero, List.getElem?_cons_succ, List.foldr, List.not_mem_nil, List.nodup_cons, List.nodup_nil, List.nil_append, List.append_nil, ↓reduceIte, Nat.reduceLT, Nat.reduceAdd, Nat.reduceEqDiff, Nat.zero_add, ne_eq, not_false_eq_true, or_false, Bool.not_true, Bool.false_eq_true, id_eq, reduceCtorEq, Int.reduceLT, Int.toNat_zero, Int.le_refl, and_self, Nat.succ_ne_zero, hr, c1, Try.results46]
    | false =>
      rw [if_neg (by simp)]
      simp only [e1, hv] at hr hP
      by_cases hz : v.n = 0
      · rw [if_pos hz]
        simp only [hz] at hr hP
        unfold mcI at hP ⊢
        simp only [insC, pcM]
        rw [es, en, ef]
        rw [pp, pn, pf] at hP
        rw [pn, pf]
        rw [ep] at hP
        refine con_runP Try.func46 rfl rfl (by simp [Try.ntmps46]) rfl ?_
        simp only [s0P, mkPs, mkPA, mkC, argA, numT, eq_self, xRun, vE, vP, vSub, vLoad, vFld, vBin, vBinT, isAg, isBo, vStore, isCutO, isB, bv, gN, isPick, isCall, AS.pt, AS.ev, AS.box, AS.setb, AS.mk', kill, look, cav, avB, setRowG, AV.cells, AV.whole, AV.one, td0, td1, td2, td3, td4, td5, td6, Option.getD, Option.isSome, List.map, List.length, List.getElem?_cons_zero, List.set, List.foldr, List.all, List.nil_append, ↓reduceIte, Nat.reduceLT, Nat.reduceAdd, Nat.reduceLeDiff, Nat.reduceEqDiff, Nat.zero_add, Nat.add_zero, ne_eq, not_false_eq_true, true_and, Bool.and_true, Bool.false_eq_true, reduceCtorEq, Int.reduceEq, decide_true, decide_false, and_self, Nat.succ_ne_zero, hpc, Try.ntmps46]
        refine sw_callPR (hP) rfl rfl rfl ?_ ?_ ?_ (sw_run 200 _ _ _ ?_)
        · simp only [rC, rCs, AS.em, mPs, mP, aA, aD, rD, eq_self, AS.ev, AS.owf, look, cav, td0, td1, td2, td3, td4, td5, td6, Option.bind, Option.getD, List.map, List.append_nil, ↓reduceIte, id_eq, and_self]
        · simp only [eC, eCs, ePs, eP, eq_self, AS.ev, look, cav, td0, td1, td2, td3, td4, td5, td6, Option.getD, List.map, List.not_mem_nil, List.nodup_cons, List.nodup_nil, List.nil_append, List.append_nil, ↓reduceIte, not_false_eq_true, and_self]
        · simp only [bPs, bP, eq_self, AS.ev, look, cav, td0, td1, td2, td3, td4, td5, td6, Option.getD, List.map, List.not_mem_nil, List.nodup_cons, List.nodup_nil, List.append_nil, ↓reduceIte, not_false_eq_true, and_self]
        simp only [mkC, fQP, xRetP, rRs, rOs, rC, rCs, eRs, eOs, eC, eCs, aftS, aftV, AS.kb, rmBs, rmB, mkO, packRA, flatR, ePs, eP, bPs, bP, aD, AS.kl, retA, List.headD_cons, List.tail_cons, rowD, xRes, rD, eq_self, xRun, vE, vP, vSub, vLoad, vFld, vIdx, vBin, vBinT, isAg, isBo, vNot, vExt, vStore, isCutO, isB, bv, gN, isPick, isCall, AS.pt, AS.ev, AS.setb, AS.mk', AS.owf, kill, look, cav, avB, setRowG, AV.cells, AV.whole, AV.one, td0, td1, td2, td3, td4, td5, td6, Option.bind, Option.getD, Option.isSome, List.map, List.length, List.getElem?_cons_zero, List.getElem?_cons_succ, List.set, List.foldr, List.not_mem_nil, List.nodup_cons, List.nodup_nil, List.nil_append, List.append_nil, ↓reduceIte, Nat.reduceLT, Nat.reduceAdd, Nat.reduceLeDiff, Nat.reduceEqDiff, Nat.zero_add, Nat.add_zero, ne_eq, not_false_eq_true, or_false, Bool.not_true, Bool.false_eq_true, id_eq, reduceCtorEq, Int.reduceLT, Int.toNat_zero, Int.le_refl, decide_true, and_self, Nat.succ_ne_zero, hr, c1, Try.results46]
      · rw [if_neg hz]
        have hz' : (v.n = 0) = False := eq_false hz
        unfold mcI at hP ⊢
        simp only [insC]
        rw [es, en, ef]
        rw [pp, pn, pf] at hP ⊢
        rw [ep] at hP ⊢
        refine con_runP Try.func46 rfl rfl (by simp [Try.ntmps46]) rfl ?_
        simp only [s0P, mkPs, mkPA, mkC, argA, numT, eq_self, xRun, vE, vP, vSub, vLoad, vFld, vBin, vBinT, isAg, isBo, vStore, isCutO, isB, bv, gN, isPick, isCall, AS.pt, AS.ev, AS.box, AS.setb, AS.mk', kill, look, cav, avB, setRowG, AV.cells, AV.whole, AV.one, td0, td1, td2, td3, td4, td5, td6, Option.getD, Option.isSome, List.map, List.length, List.getElem?_cons_zero, List.set, List.foldr, List.all, List.nil_append, ↓reduceIte, Nat.reduceLT, Nat.reduceAdd, Nat.reduceLeDiff, Nat.reduceEqDiff, Nat.zero_add, Nat.add_zero, ne_eq, not_false_eq_true, true_and, Bool.and_true, Bool.false_eq_true, reduceCtorEq, Int.reduceEq, decide_true, decide_false, and_self, Nat.succ_ne_zero, hpc, Try.ntmps46]
        refine sw_callPR (hP) rfl rfl rfl ?_ ?_ ?_ (sw_run 200 _ _ _ ?_)
        · simp only [rC, rCs, AS.em, mPs, mP, aA, aD, rD, eq_self, AS.ev, AS.owf, look, cav, td0, td1, td2, td3, td4, td5, td6, Option.bind, Option.getD, List.map, List.append_nil, ↓reduceIte, id_eq, and_self]
        · simp only [eC, eCs, ePs, eP, eq_self, AS.ev, look, cav, td0, td1, td2, td3, td4, td5, td6, Option.getD, List.map, List.not_mem_nil, List.nodup_cons, List.nodup_nil, List.nil_append, List.append_nil, ↓reduceIte, not_false_eq_true, and_self]
        · simp only [bPs, bP, eq_self, AS.ev, look, cav, td0, td1, td2, td3, td4, td5, td6, Option.getD, List.map, List.not_mem_nil, List.nodup_cons, List.nodup_nil, List.append_nil, ↓reduceIte, not_false_eq_true, and_self]
        simp only [mkC, fQP, xRetP, rRs, rOs, rC, rCs, eRs, eOs, eC, eCs, aftS, aftV, AS.kb, rmBs, rmB, mkO, packRA, flatR, ePs, eP, bPs, bP, aD, AS.kl, retA, List.headD_cons, List.tail_cons, rowD, xRes, rD, eq_self, xRun, vE, vP, vSub, vLoad, vFld, vIdx, vBin, vBinT, isAg, isBo, vNot, vExt, isCutO, isB, bv, gN, isPick, isCall, AS.pt, AS.ev, AS.mk', AS.owf, kill, look, cav, avB, td0, td1, td2, td3, td4, td5, td6, Option.bind, Option.getD, Option.isSome, List.map, List.getElem?_cons_zero, List.getElem?_cons_succ, List.foldr, List.not_mem_nil, List.nodup_cons, List.nodup_nil, List.nil_append, List.append_nil, ↓reduceIte, Nat.reduceLT, Nat.reduceAdd, Nat.reduceEqDiff, Nat.zero_add, Nat.add_zero, ne_eq, not_false_eq_true, or_false, Bool.not_true, Bool.false_eq_true, id_eq, reduceCtorEq, Int.reduceLT, Int.toNat_zero, Int.le_refl, decide_false, and_self, Nat.succ_ne_zero, hr, c1, hz', Try.results46]
set_option maxRecDepth 10000 in
theorem con_ex7 (m : Mch) (d : Vl) (a : Int) (hm : SzM m) : ConP Try.prog 46 [.p (mcI m d), .b (.ag (insC ⟨7, a⟩))] [mcI (exM (pcM m (m.pc + 1)) d ⟨7, a⟩).2.1 (exM (pcM m (m.pc + 1)) d ⟨7, a⟩).2.2] [.one (.o (.int (exM (pcM m (m.pc + 1)) d ⟨7, a⟩).1))] := by
  have hpc : inI (m.pc + 1) := by have := hm.pc; unfold inI; omega
  have hst := hm.st
  have hnm := hm.nm
  unfold exM
  simp only
  rw [if_neg (by decide)]
  rw [if_neg (by decide)]
  rw [if_neg (by decide)]
  rw [if_neg (by decide)]
  rw [if_neg (by decide)]
  rw [if_pos (by decide)]
  have hb : decide (((7 : Int)) = 8) = false := by decide
  rw [hb]
  have hK := con_CloneF m.nm (by omega)
  have hU := con_push (pcM m (m.pc + 1)) d (.fn false a m.nm) (by unfold pcM; simp only; omega)
  unfold mcI vlP at hU
  unfold mcI
  simp only [pcM, fn_n, fn_f, fn_r, fn_p, fn_c, insC] at hU ⊢
  refine con_runP Try.func46 rfl rfl (by simp [Try.ntmps46]) rfl ?_
  simp only [s0P, mkPs, mkPA, mkC, argA, numT, eq_self, xRun, vE, vP, vSub, vLoad, vFld, vBin, vBinT, isAg, isBo, vStore, isCutO, isB, bv, gN, isPick, isCall, AS.pt, AS.ev, AS.box, AS.setb, AS.mk', kill, look, cav, avB, setRowG, AV.cells, AV.whole, AV.one, td0, td1, td2, td3, td4, td5, td6, Option.getD, Option.isSome, List.map, List.length, List.getElem?_cons_zero, List.set, List.foldr, List.all, List.nil_append, ↓reduceIte, Nat.reduceLT, Nat.reduceAdd, Nat.reduceLeDiff, Nat.reduceEqDiff, Nat.zero_add, Nat.add_zero, ne_eq, not_false_eq_true, true_and, Bool.and_true, Bool.false_eq_true, reduceCtorEq, Int.reduceEq, decide_true, decide_false, and_self, Nat.succ_ne_zero, hpc, Try.ntmps46]
  refine sw_drawn (.cons 0 true (.cons 1 true (.cons 2 true (.cons 3 true (.cons 4 true (.cons 5 true (.cons 6 true (.cons 7 true (.cons 8 true (.cons 9 true (.cons 10 false (.cons 11 true (.cons 12 false (.nil)))))))))))))) (by kernel_rfl) fQP_panic (by kernel_rfl) (sw_run 200 _ _ _ ?_)
  simp only [eq_self, xRun, vP, vSub, vLoad, vFld, vBin, vBinT, isAg, isBo, gN, isPick, isCall, AS.pt, AS.ev, look, cav, td0, td1, td2, td3, td4, td5, td6, Option.getD, Option.isSome, List.getElem?_cons_zero, List.getElem?_cons_succ, ↓reduceIte, Nat.reduceLT, Nat.reduceEqDiff, Nat.zero_add, Nat.add_zero, ne_eq, not_false_eq_true, true_and, Bool.false_eq_true, reduceCtorEq, Int.reduceEq, decide_false, Nat.succ_ne_zero]
  refine sw_callDPB (cap := []) (hK) rfl rfl rfl ?_ (sw_run 200 _ _ _ ?_)
  · simp only [AS.em, mPs, mP, aA, aD, eq_self, AS.ev, look, td0, td1, td2, td3, td4, td5, td6, Option.getD, List.map, List.append_nil, ↓reduceIte, and_self]
  simp only [mkC, aftS, aftV, AS.kb, rmBs, mkO, packRA, flatR, AS.kl, retA, List.headD_cons, eq_self, xRun, vP, vBuild, xFill, gN, isPick, isCall, AS.pt, AS.ev, kill, look, cav, avB, setRowG, AV.cells, AV.whole, AV.one, td0, td1, td2, td3, td4, td5, td6, Option.getD, Option.isSome, List.map, List.length, List.getElem?_cons_zero, List.getElem?_cons_succ, List.set, List.foldr, ↓reduceIte, Nat.reduceLT, Nat.reduceAdd, Nat.reduceLeDiff, Nat.reduceEqDiff, Nat.zero_add, true_and, Bool.false_eq_true, and_self, Nat.le_refl]
  refine sw_callDPR (cap := []) (hU) rfl rfl rfl ?_ ?_ ?_ rfl (sw_run 200 _ _ _ ?_)
  · simp only [rC, rCs, AS.em, mPs, mP, aD, rD, eq_self, AS.ev, AS.owf, look, td0, td1, td2, td3, td4, td5, td6, Option.bind, Option.getD, List.map, List.append_nil, ↓reduceIte, Nat.reduceEqDiff, id_eq, and_self]
  · simp only [eC, eCs, ePs, eP, eq_self, AS.ev, look, td0, td1, td2, td3, td4, td5, td6, Option.getD, List.map, List.not_mem_nil, List.nodup_cons, List.nodup_nil, List.nil_append, List.append_nil, ↓reduceIte, Nat.reduceEqDiff, not_false_eq_true, and_self]
  · simp only [bPs, bP, eq_self, AS.ev, look, td0, td1, td2, td3, td4, td5, td6, Option.getD, List.map, List.not_mem_nil, List.nodup_cons, List.nodup_nil, List.append_nil, ↓reduceIte, Nat.reduceEqDiff, not_false_eq_true, and_self]
  simp only [mkC, fQP, xRetP, rRs, rOs, rC, rCs, eRs, eOs, eC, eCs, aftS, aftV, AS.kb, rmBs, rmB, mkO, packRA, flatR, ePs, eP, bPs, bP, aD, AS.kl, retA, xRes, rD, eq_self, xRun, vE, vP, isCutO, gN, isPick, isCall, AS.pt, AS.ev, AS.mk', AS.owf, kill, look, cav, avB, td0, td1, td2, td3, td4, td5, td6, Option.bind, Option.getD, List.map, List.foldr, List.not_mem_nil, List.nodup_cons, List.nodup_nil, List.nil_append, List.append_nil, ↓reduceIte, Nat.reduceLT, Nat.reduceAdd, Nat.reduceEqDiff, not_false_eq_true, or_false, Bool.false_eq_true, id_eq, reduceCtorEq, and_self, Try.results46]
set_option maxRecDepth 10000 in
theorem con_ex8 (m : Mch) (d : Vl) (a : Int) (hm : SzM m) : ConP Try.prog 46 [.p (mcI m d), .b (.ag (insC ⟨8, a⟩))] [mcI (exM (pcM m (m.pc + 1)) d ⟨8, a⟩).2.1 (exM (pcM m (m.pc + 1)) d ⟨8, a⟩).2.2] [.one (.o (.int (exM (pcM m (m.pc + 1)) d ⟨8, a⟩).1))] := by
  have hpc : inI (m.pc + 1) := by have := hm.pc; unfold inI; omega
  have hst := hm.st
  have hnm := hm.nm
  unfold exM
  simp only
  rw [if_neg (by decide)]
  rw [if_neg (by decide)]
  rw [if_neg (by decide)]
  rw [if_neg (by decide)]
  rw [if_neg (by decide)]
  rw [if_pos (by decide)]
  have hb : decide True = true := by decide
  rw [hb]
  have hK := con_CloneF m.nm (by omega)
  have hU := con_push (pcM m (m.pc + 1)) d (.fn true a m.nm) (by unfold pcM; simp only; omega)
  unfold mcI vlP at hU
  unfold mcI
  simp only [pcM, fn_n, fn_f, fn_r, fn_p, fn_c, insC] at hU ⊢
  refine con_runP Try.func46 rfl rfl (by simp [Try.ntmps46]) rfl ?_
  simp only [s0P, mkPs, mkPA, mkC, argA, numT, eq_self, xRun, vE, vP, vSub, vLoad, vFld, vBin, vBinT, isAg, isBo, vStore, isCutO, isB, bv, gN, isPick, isCall, AS.pt, AS.ev, AS.box, AS.setb, AS.mk', kill, look, cav, avB, setRowG, AV.cells, AV.whole, AV.one, td0, td1, td2, td3, td4, td5, td6, Option.getD, Option.isSome, List.map, List.length, List.getElem?_cons_zero, List.set, List.foldr, List.all, List.nil_append, ↓reduceIte, Nat.reduceLT, Nat.reduceAdd, Nat.reduceLeDiff, Nat.reduceEqDiff, Nat.zero_add, Nat.add_zero, ne_eq, not_false_eq_true, true_and, Bool.and_true, Bool.false_eq_true, reduceCtorEq, Int.reduceEq, decide_true, decide_false, and_self, Nat.succ_ne_zero, hpc, Try.ntmps46]
  refine sw_drawn (.cons 0 true (.cons 1 true (.cons 2 true (.cons 3 true (.cons 4 true (.cons 5 true (.cons 6 true (.cons 7 true (.cons 8 true (.cons 9 true (.cons 10 false (.cons 11 true (.cons 12 false (.nil)))))))))))))) (by kernel_rfl) fQP_panic (by kernel_rfl) (sw_run 200 _ _ _ ?_)
  simp only [eq_self, xRun, vP, vSub, vLoad, vFld, vBin, vBinT, isAg, isBo, gN, isPick, isCall, AS.pt, AS.ev, look, cav, td0, td1, td2, td3, td4, td5, td6, Option.getD, Option.isSome, List.getElem?_cons_zero, List.getElem?_cons_succ, ↓reduceIte, Nat.reduceLT, Nat.reduceEqDiff, Nat.zero_add, Nat.add_zero, ne_eq, not_false_eq_true, true_and, Bool.false_eq_true, reduceCtorEq, decide_true, Nat.succ_ne_zero]
  refine sw_callDPB (cap := []) (hK) rfl rfl rfl ?_ (sw_run 200 _ _ _ ?_)
  · simp only [AS.em, mPs, mP, aA, aD, eq_self, AS.ev, look, td0, td1, td2, td3, td4, td5, td6, Option.getD, List.map, List.append_nil, ↓reduceIte, and_self]
  simp only [mkC, aftS, aftV, AS.kb, rmBs, mkO, packRA, flatR, AS.kl, retA, List.headD_cons, eq_self, xRun, vP, vBuild, xFill, gN, isPick, isCall, AS.pt, AS.ev, kill, look, cav, avB, setRowG, AV.cells, AV.whole, AV.one, td0, td1, td2, td3, td4, td5, td6, Option.getD, Option.isSome, List.map, List.length, List.getElem?_cons_zero, List.getElem?_cons_succ, List.set, List.foldr, ↓reduceIte, Nat.reduceLT, Nat.reduceAdd, Nat.reduceLeDiff, Nat.reduceEqDiff, Nat.zero_add, true_and, Bool.false_eq_true, and_self, Nat.le_refl]
  refine sw_callDPR (cap := []) (hU) rfl rfl rfl ?_ ?_ ?_ rfl (sw_run 200 _ _ _ ?_)
  · simp only [rC, rCs, AS.em, mPs, mP, aD, rD, eq_self, AS.ev, AS.owf, look, td0, td1, td2, td3, td4, td5, td6, Option.bind, Option.getD, List.map, List.append_nil, ↓reduceIte, Nat.reduceEqDiff, id_eq, and_self]
  · simp only [eC, eCs, ePs, eP, eq_self, AS.ev, look, td0, td1, td2, td3, td4, td5, td6, Option.getD, List.map, List.not_mem_nil, List.nodup_cons, List.nodup_nil, List.nil_append, List.append_nil, ↓reduceIte, Nat.reduceEqDiff, not_false_eq_true, and_self]
  · simp only [bPs, bP, eq_self, AS.ev, look, td0, td1, td2, td3, td4, td5, td6, Option.getD, List.map, List.not_mem_nil, List.nodup_cons, List.nodup_nil, List.append_nil, ↓reduceIte, Nat.reduceEqDiff, not_false_eq_true, and_self]
  simp only [mkC, fQP, xRetP, rRs, rOs, rC, rCs, eRs, eOs, eC, eCs, aftS, aftV, AS.kb, rmBs, rmB, mkO, packRA, flatR, ePs, eP, bPs, bP, aD, AS.kl, retA, xRes, rD, eq_self, xRun, vE, vP, isCutO, gN, isPick, isCall, AS.pt, AS.ev, AS.mk', AS.owf, kill, look, cav, avB, td0, td1, td2, td3, td4, td5, td6, Option.bind, Option.getD, List.map, List.foldr, List.not_mem_nil, List.nodup_cons, List.nodup_nil, List.nil_append, List.append_nil, ↓reduceIte, Nat.reduceLT, Nat.reduceAdd, Nat.reduceEqDiff, not_false_eq_true, or_false, Bool.false_eq_true, id_eq, reduceCtorEq, and_self, Try.results46]
set_option maxRecDepth 10000 in
theorem con_ex9 (m : Mch) (d : Vl) (a : Int) (hm : SzM m) : ConP Try.prog 46 [.p (mcI m d), .b (.ag (insC ⟨9, a⟩))] [mcI (exM (pcM m (m.pc + 1)) d ⟨9, a⟩).2.1 (exM (pcM m (m.pc + 1)) d ⟨9, a⟩).2.2] [.one (.o (.int (exM (pcM m (m.pc + 1)) d ⟨9, a⟩).1))] := by
  have hpc : inI (m.pc + 1) := by have := hm.pc; unfold inI; omega
  have hst := hm.st
  have hnm := hm.nm
  unfold exM
  simp only
  rw [if_neg (by decide)]
  rw [if_neg (by decide)]
  rw [if_neg (by decide)]
  rw [if_neg (by decide)]
  rw [if_neg (by decide)]
  rw [if_neg (by decide)]
  rw [if_pos (by decide)]
  have hU := con_call (pcM m (m.pc + 1)) d (by unfold pcM; simp only; omega) (fun v hv => by have := hm.ct v hv; omega) (by have := hm.fr; unfold pcM; simp only; omega)
  generalize callM (pcM m (m.pc + 1)) = q at hU ⊢
  unfold mcI at hU ⊢
  simp only [pcM, insC] at hU ⊢
  refine con_runP Try.func46 rfl rfl (by simp [Try.ntmps46]) rfl ?_
  simp only [s0P, mkPs, mkPA, mkC, argA, numT, eq_self, xRun, vE, vP, vSub, vLoad, vFld, vBin, vBinT, isAg, isBo, vStore, isCutO, isB, bv, gN, isPick, isCall, AS.pt, AS.ev, AS.box, AS.setb, AS.mk', kill, look, cav, avB, setRowG, AV.cells, AV.whole, AV.one, td0, td1, td2, td3, td4, td5, td6, Option.getD, Option.isSome, List.map, List.length, List.getElem?_cons_zero, List.set, List.foldr, List.all, List.nil_append, ↓reduceIte, Nat.reduceLT, Nat.reduceAdd, Nat.reduceLeDiff, Nat.reduceEqDiff, Nat.zero_add, Nat.add_zero, ne_eq, not_false_eq_true, true_and, Bool.and_true, Bool.false_eq_true, reduceCtorEq, Int.reduceEq, decide_true, decide_false, and_self, Nat.succ_ne_zero, hpc, Try.ntmps46]
  refine sw_callPR (hU) rfl rfl rfl ?_ ?_ ?_ (sw_run 200 _ _ _ ?_)
  · simp only [rC, rCs, AS.em, mPs, mP, aD, rD, eq_self, AS.ev, AS.owf, look, td0, td1, td2, td3, td4, td5, td6, Option.bind, Option.getD, List.map, List.append_nil, ↓reduceIte, id_eq, and_self]
  · simp only [eC, eCs, ePs, eP, eq_self, AS.ev, look, td0, td1, td2, td3, td4, td5, td6, Option.getD, List.map, List.not_mem_nil, List.nodup_cons, List.nodup_nil, List.nil_append, List.append_nil, ↓reduceIte, not_false_eq_true, and_self]
  · simp only [bPs, bP, eq_self, AS.ev, look, td0, td1, td2, td3, td4, td5, td6, Option.getD, List.map, List.not_mem_nil, List.nodup_cons, List.nodup_nil, List.append_nil, ↓reduceIte, not_false_eq_true, and_self]
  simp only [mkC, fQP, xRetP, rRs, rOs, rC, rCs, eRs, eOs, eC, eCs, aftS, aftV, AS.kb, rmBs, rmB, mkO, packRA, flatR, ePs, eP, bPs, bP, aD, AS.kl, retA, List.headD_cons, xRes, rD, eq_self, xRun, vE, vP, isCutO, gN, isPick, isCall, AS.pt, AS.ev, AS.mk', AS.owf, kill, look, avB, td0, td1, td2, td3, td4, td5, td6, Option.bind, Option.getD, List.map, List.foldr, List.not_mem_nil, List.nodup_cons, List.nodup_nil, List.nil_append, List.append_nil, ↓reduceIte, Nat.reduceLT, Nat.reduceAdd, Nat.reduceEqDiff, not_false_eq_true, or_false, Bool.false_eq_true, id_eq, reduceCtorEq, and_self, Try.results46]
set_option maxRecDepth 10000 in
theorem con_ex10 (m : Mch) (d : Vl) (a : Int) (hm : SzM m) : ConP Try.prog 46 [.p (mcI m d), .b (.ag (insC ⟨10, a⟩))] [mcI (exM (pcM m (m.pc + 1)) d ⟨10, a⟩).2.1 (exM (pcM m (m.pc + 1)) d ⟨10, a⟩).2.2] [.one (.o (.int (exM (pcM m (m.pc + 1)) d ⟨10, a⟩).1))] := by
  have hpc : inI (m.pc + 1) := by have := hm.pc; unfold inI; omega
  have hst := hm.st
  have hnm := hm.nm
  unfold exM
  simp only
  rw [if_neg (by decide)]
  rw [if_neg (by decide)]
  rw [if_neg (by decide)]
  rw [if_neg (by decide)]
  rw [if_neg (by decide)]
  rw [if_neg (by decide)]
  rw [if_neg (by decide)]
  rw [if_pos (by decide)]
  have hU := con_ret (pcM m (m.pc + 1)) d (by unfold pcM; simp only; omega) (by have := hm.fr; unfold pcM; simp only; omega) (fun f hf => by have := hm.fs f hf; omega)
  generalize retM (pcM m (m.pc + 1)) d = q at hU ⊢
  unfold mcI at hU ⊢
  simp only [pcM, insC] at hU ⊢
  refine con_runP Try.func46 rfl rfl (by simp [Try.ntmps46]) rfl ?_
  simp only [s0P, mkPs, mkPA, mkC, argA, numT, eq_self, xRun, vE, vP, vSub, vLoad, vFld, vBin, vBinT, isAg, isBo, vStore, isCutO, isB, bv, gN, isPick, isCall, AS.pt, AS.ev, AS.box, AS.setb, AS.mk', kill, look, cav, avB, setRowG, AV.cells, AV.whole, AV.one, td0, td1, td2, td3, td4, td5, td6, Option.getD, Option.isSome, List.map, List.length, List.getElem?_cons_zero, List.set, List.foldr, List.all, List.nil_append, ↓reduceIte, Nat.reduceLT, Nat.reduceAdd, Nat.reduceLeDiff, Nat.reduceEqDiff, Nat.zero_add, Nat.add_zero, ne_eq, not_false_eq_true, true_and, Bool.and_true, Bool.false_eq_true, reduceCtorEq, Int.reduceEq, decide_true, decide_false, and_self, Nat.succ_ne_zero, hpc, Try.ntmps46]
  refine sw_callPR (hU) rfl rfl rfl ?_ ?_ ?_ (sw_run 200 _ _ _ ?_)
  · simp only [rC, rCs, AS.em, mPs, mP, aD, rD, eq_self, AS.ev, AS.owf, look, td0, td1, td2, td3, td4, td5, td6, Option.bind, Option.getD, List.map, List.append_nil, ↓reduceIte, id_eq, and_self]
  · simp only [eC, eCs, ePs, eP, eq_self, AS.ev, look, td0, td1, td2, td3, td4, td5, td6, Option.getD, List.map, List.not_mem_nil, List.nodup_cons, List.nodup_nil, List.nil_append, List.append_nil, ↓reduceIte, not_false_eq_true, and_self]
  · simp only [bPs, bP, eq_self, AS.ev, look, td0, td1, td2, td3, td4, td5, td6, Option.getD, List.map, List.not_mem_nil, List.nodup_cons, List.nodup_nil, List.append_nil, ↓reduceIte, not_false_eq_true, and_self]
  simp only [mkC, fQP, xRetP, rRs, rOs, rC, rCs, eRs, eOs, eC, eCs, aftS, aftV, AS.kb, rmBs, rmB, mkO, packRA, flatR, ePs, eP, bPs, bP, aD, AS.kl, retA, List.headD_cons, xRes, rD, eq_self, xRun, vE, vP, isCutO, gN, isPick, isCall, AS.pt, AS.ev, AS.mk', AS.owf, kill, look, avB, td0, td1, td2, td3, td4, td5, td6, Option.bind, Option.getD, List.map, List.foldr, List.not_mem_nil, List.nodup_cons, List.nodup_nil, List.nil_append, List.append_nil, ↓reduceIte, Nat.reduceLT, Nat.reduceAdd, Nat.reduceEqDiff, not_false_eq_true, or_false, Bool.false_eq_true, id_eq, reduceCtorEq, and_self, Try.results46]
set_option maxRecDepth 10000 in
theorem con_ex11 (m : Mch) (d : Vl) (a : Int) (hm : SzM m) : ConP Try.prog 46 [.p (mcI m d), .b (.ag (insC ⟨11, a⟩))] [mcI (exM (pcM m (m.pc + 1)) d ⟨11, a⟩).2.1 (exM (pcM m (m.pc + 1)) d ⟨11, a⟩).2.2] [.one (.o (.int (exM (pcM m (m.pc + 1)) d ⟨11, a⟩).1))] := by
  have hpc : inI (m.pc + 1) := by have := hm.pc; unfold inI; omega
  have hst := hm.st
  have hnm := hm.nm
  unfold exM
  simp only
  rw [if_neg (by decide)]
  rw [if_neg (by decide)]
  rw [if_neg (by decide)]
  rw [if_neg (by decide)]
  rw [if_neg (by decide)]
  rw [if_neg (by decide)]
  rw [if_neg (by decide)]
  rw [if_neg (by decide)]
  rw [if_pos (by decide)]
  obtain ⟨m1, hm1⟩ : ∃ m1, m1 = pcM m (m.pc + 1) := ⟨_, rfl⟩
  have hst1 : m1.st.length ≤ 90000 := by rw [hm1]; exact hst
  have ep : m1.pc = m.pc + 1 := by rw [hm1]; rfl
  have es : m.st = m1.st := by rw [hm1]; rfl
  have en : m.nm = m1.nm := by rw [hm1]; rfl
  have ef : m.fr = m1.fr := by rw [hm1]; rfl
  rw [← hm1]
  by_cases h : m1.st.length < 1
  · rw [if_pos h]
    have hP := con_pop0 m1 d 1 (by omega) (by omega) h
    rw [c1] at hP
    unfold mcI at hP ⊢
    simp only [insC]
    rw [es, en, ef]
    rw [ep] at hP ⊢
    refine con_runP Try.func46 rfl rfl (by simp [Try.ntmps46]) rfl ?_
    simp only [s0P, mkPs, mkPA, mkC, argA, numT, eq_self, xRun, vE, vP, vSub, vLoad, vFld, vBin, vBinT, isAg, isBo, vStore, isCutO, isB, bv, gN, isPick, isCall, AS.pt, AS.ev, AS.box, AS.setb, AS.mk', kill, look, cav, avB, setRowG, AV.cells, AV.whole, AV.one, td0, td1, td2, td3, td4, td5, td6, Option.getD, Option.isSome, List.map, List.length, List.getElem?_cons_zero, List.set, List.foldr, List.all, List.nil_append, ↓reduceIte, Nat.reduceLT, Nat.reduceAdd, Nat.reduceLeDiff, Nat.reduceEqDiff, Nat.zero_add, Nat.add_zero, ne_eq, not_false_eq_true, true_and, Bool.and_true, Bool.false_eq_true, reduceCtorEq, Int.reduceEq, decide_true, decide_false, and_self, Nat.succ_ne_zero, hpc, Try.ntmps46]
    refine sw_callPR (hP) rfl rfl rfl ?_ ?_ ?_ (sw_run 200 _ _ _ ?_)
    · simp only [rC, rCs, AS.em, mPs, mP, aA, aD, rD, eq_self, AS.ev, AS.owf, look, cav, td0, td1, td2, td3, td4, td5, td6, Option.bind, Option.getD, List.map, List.append_nil, ↓reduceIte, id_eq, and_self]
    · simp only [eC, eCs, ePs, eP, eq_self, AS.ev, look, cav, td0, td1, td2, td3, td4, td5, td6, Option.getD, List.map, List.not_mem_nil, List.nodup_cons, List.nodup_nil, List.nil_append, List.append_nil, ↓reduceIte, not_false_eq_true, and_self]
    · simp only [bPs, bP, eq_self, AS.ev, look, cav, td0, td1, td2, td3, td4, td5, td6, Option.getD, List.map, List.not_mem_nil, List.nodup_cons, List.nodup_nil, List.append_nil, ↓reduceIte, not_false_eq_true, and_self]
    simp only [mkC, fQP, xRetP, rRs, rOs, rC, rCs, eRs, eOs, eC, eCs, aftS, aftV, AS.kb, rmBs, rmB, mkO, packRA, flatR, ePs, eP, bPs, bP, aD, AS.kl, retA, List.headD_cons, List.tail_cons, xRes, rD, eq_self, xRun, vE, vP, vNot, vExt, isCutO, isB, bv, gN, isPick, isCall, AS.pt, AS.ev, AS.mk', AS.owf, kill, look, cav, avB, td0, td1, td2, td3, td4, td5, td6, Option.bind, Option.getD, Option.isSome, List.map, List.getElem?_cons_zero, List.getElem?_cons_succ, List.foldr, List.not_mem_nil, List.nodup_cons, List.nodup_nil, List.nil_append, List.append_nil, ↓reduceIte, Nat.reduceLT, Nat.reduceAdd, Nat.reduceEqDiff, not_false_eq_true, or_false, Bool.not_false, Bool.false_eq_true, id_eq, reduceCtorEq, and_self, Try.results46]
  · rw [if_neg h]
    have hP := con_pop1 m1 d 1 (by omega) (by omega) (by omega)
    rw [c1] at hP
    obtain ⟨tp, htp⟩ : ∃ tp, tp = topM m1 1 := ⟨_, rfl⟩
    have htl : tp.length = 1 := by rw [htp, top_len]; omega
    rw [← htp] at hP ⊢
    rw [list_one htl] at hP ⊢
    generalize tp[0]! = v at hP ⊢
    have e0 : [v][0]! = v := rfl
    rw [e0]
    have hr := row1 v
    unfold rowD at hr
    have e1 := vlI_eq v
    simp only [flC_one, List.length_singleton] at hP
    have pp : (popM m1 1).pc = m1.pc := rfl
    have pn : (popM m1 1).nm = m1.nm := rfl
    have pf : (popM m1 1).fr = m1.fr := rfl
    have hK := con_ClipV m1.nm (by rw [en] at hnm; omega)
    rw [en] at hnm
    simp only [e1] at hr hP
    unfold mcI at hP ⊢
    simp only [insC, nmM]
    rw [es, en, ef, flC_app, flC_one, e1, List.length_append, List.length_singleton]
    rw [pp, pn, pf] at hP
    rw [pp, pf]
    rw [ep] at hP ⊢
    refine con_runPF [5] Try.func46 rfl rfl (by simp [Try.ntmps46]) rfl ?_
    simp only [s0P, mkPs, mkPA, mkC, argA, numT, eq_self, xRun, vE, vP, vSub, vLoad, vFld, vBin, vBinT, isAg, isBo, vStore, isCutO, isB, bv, gN, isPick, isCall, AS.pt, AS.ev, AS.box, AS.setb, AS.mk', kill, look, cav, avB, setRowG, AV.cells, AV.whole, AV.one, td0, td1, td2, td3, td4, td5, td6, Option.getD, Option.isSome, List.map, List.length, List.getElem?_cons_zero, List.set, List.foldr, List.all, List.nil_append, ↓reduceIte, Nat.reduceLT, Nat.reduceAdd, Nat.reduceLeDiff, Nat.reduceEqDiff, Nat.zero_add, Nat.add_zero, ne_eq, not_false_eq_true, true_and, Bool.and_true, Bool.false_eq_true, reduceCtorEq, Int.reduceEq, decide_true, decide_false, and_self, Nat.succ_ne_zero, hpc, Try.ntmps46]
    refine sw_callPR (hP) rfl rfl rfl ?_ ?_ ?_ (sw_run 200 _ _ _ ?_)
    · simp only [rC, rCs, AS.em, mPs, mP, aA, aD, rD, eq_self, AS.ev, AS.owf, look, cav, td0, td1, td2, td3, td4, td5, td6, Option.bind, Option.getD, List.map, List.append_nil, ↓reduceIte, id_eq, and_self]
    · simp only [eC, eCs, ePs, eP, eq_self, AS.ev, look, cav, td0, td1, td2, td3, td4, td5, td6, Option.getD, List.map, List.not_mem_nil, List.nodup_cons, List.nodup_nil, List.nil_append, List.append_nil, ↓reduceIte, not_false_eq_true, and_self]
    · simp only [bPs, bP, eq_self, AS.ev, look, cav, td0, td1, td2, td3, td4, td5, td6, Option.getD, List.map, List.not_mem_nil, List.nodup_cons, List.nodup_nil, List.append_nil, ↓reduceIte, not_false_eq_true, and_self]
    simp only [mkC, eC, eCs, aftS, aftV, AS.kb, rmBs, rmB, mkO, packRA, flatR, ePs, eP, bPs, bP, AS.kl, retA, List.headD_cons, List.tail_cons, eq_self, xRun, vE, vP, vNot, vExt, isCutO, isB, bv, gN, isPick, isCall, AS.pt, AS.ev, AS.mk', kill, look, cav, avB, td0, td1, td2, td3, td4, td5, td6, Option.getD, Option.isSome, List.map, List.getElem?_cons_zero, List.getElem?_cons_succ, List.foldr, List.nil_append, List.append_nil, ↓reduceIte, Nat.reduceLT, Nat.reduceAdd, Nat.reduceEqDiff, true_and, Bool.not_true, Bool.false_eq_true]
    refine sw_drawn (.cons 0 true (.cons 1 true (.cons 2 true (.cons 3 true (.cons 4 true (.cons 6 true (.cons 7 true (.cons 8 true (.fork (.alt 5 (.cons 9 false (.cons 10 false (.cons 11 true (.cons 12 true (.cons 13 false (.nil)))))) (.alt 9 (.cons 5 false (.cons 10 false (.cons 11 true (.cons 12 true (.cons 13 false (.nil)))))) (.last)))))))))))) (by kernel_rfl) fQF_panic (by kernel_rfl) (sw_run 200 _ _ _ ?_)
    simp only [rowD, eq_self, xRun, vE, vP, vSub, vLoad, vFld, vIdx, vRow, xFill, gN, isPick, isCall, AS.pt, AS.ev, AS.mk', kill, look, cav, avB, setRowG, AV.cells, AV.whole, AV.one, cD, cDs, eatsOf, dpOf, td0, td1, td2, td3, td4, td5, td6, Option.getD, Option.isSome, List.map, List.take, List.drop, List.length, List.getElem?_cons_zero, List.getElem?_cons_succ, List.set, List.foldr, List.all, List.replicate, List.nodup_nil, ↓reduceIte, Nat.reduceLT, Nat.reduceAdd, Nat.reduceLeDiff, Nat.reduceEqDiff, Nat.zero_add, Nat.zero_mul, Nat.one_mul, ne_eq, not_false_eq_true, true_and, and_true, or_true, Bool.and_true, Bool.and_false, Bool.false_eq_true, reduceCtorEq, Int.reduceLT, Int.toNat_zero, Int.le_refl, and_self, Nat.succ_ne_zero, Nat.le_refl, hr, c1]
    refine ⟨?_, ?_⟩
    all_goals (refine sw_callDPB (cap := []) hK rfl rfl rfl ?_ (sw_run 200 _ _ _ ?_))
    all_goals simp only [mkC, fQF, fQP, xRetP, rRs, rOs, rC, rCs, eRs, eOs, eC, eCs, AS.em, AS.fzL, AS.fzN, AS.fz, fzT, fzB, AV.fz, AV.fzs, aftS, aftV, AS.kb, rmBs, mkO, packRA, flatR, mPs, mP, aA, aD, AS.kl, retA, List.headD_cons, xRes, rD, eq_self, xRun, vE, vP, vFld, vRow, vStore, vApp, apP, apC, isCl, isCutO, xFill, appL, appR, gN, isPick, isCall, AS.pt, AS.ev, AS.setb, AS.mk', AS.owf, kill, look, cav, setRowG, AV.cells, AV.whole, AV.one, cD, cDs, eatsOf, dpOf, td0, td1, td2, td3, td4, td5, td6, Option.bind, Option.getD, Option.isSome, List.map, List.length, List.getElem?_cons_zero, List.getElem?_cons_succ, List.set, List.foldr, List.all, List.replicate, List.mem_cons, List.not_mem_nil, List.nodup_cons, List.nodup_nil, List.nil_append, List.append_nil, ↓reduceIte, Nat.reduceLT, Nat.reduceAdd, Nat.reduceLeDiff, Nat.reduceEqDiff, Nat.zero_add, Nat.zero_mul, Nat.one_mul, ne_eq, not_false_eq_true, true_and, and_true, or_false, or_true, Bool.and_true, Bool.and_false, Bool.false_eq_true, id_eq, reduceCtorEq, and_self, Nat.succ_ne_zero, Nat.le_refl, Try.results46]
    all_goals exact ⟨fun _ h => (by first | exact h.elim | omega), by unfold maxLen; omega, by omega⟩
set_option maxRecDepth 10000 in
theorem con_ex12 (m : Mch) (d : Vl) (a : Int) (hm : SzM m) : ConP Try.prog 46 [.p (mcI m d), .b (.ag (insC ⟨12, a⟩))] [mcI (exM (pcM m (m.pc + 1)) d ⟨12, a⟩).2.1 (exM (pcM m (m.pc + 1)) d ⟨12, a⟩).2.2] [.one (.o (.int (exM (pcM m (m.pc + 1)) d ⟨12, a⟩).1))] := by
  have hpc : inI (m.pc + 1) := by have := hm.pc; unfold inI; omega
  have hst := hm.st
  have hnm := hm.nm
  unfold exM
  simp only
  rw [if_neg (by decide)]
  rw [if_neg (by decide)]
  rw [if_neg (by decide)]
  rw [if_neg (by decide)]
  rw [if_neg (by decide)]
  rw [if_neg (by decide)]
  rw [if_neg (by decide)]
  rw [if_neg (by decide)]
  rw [if_neg (by decide)]
  unfold pcM nmM
  simp only
  by_cases h : m.nm.length = 0
  · rw [if_pos h]
    have h' : ((m.nm.length : Int) = 0) = True := eq_true (by omega)
    unfold mcI
    simp only [insC]
    refine con_runP Try.func46 rfl rfl (by simp [Try.ntmps46]) rfl ?_
    simp only [s0P, mkPs, mkPA, mkC, fQP, xRetP, rRs, rOs, rC, rCs, eRs, eOs, eC, eCs, aD, argA, numT, xRes, rD, eq_self, xRun, vE, vP, vSub, vLoad, vFld, vBin, vBinT, isAg, isBo, vLen, vStore, isCutO, isB, bv, gN, isPick, isCall, AS.pt, AS.ev, AS.box, AS.setb, AS.mk', AS.owf, AS.rd, kill, look, cav, avB, setRowG, AV.cells, AV.whole, AV.one, td0, td1, td2, td3, td4, td5, td6, Option.bind, Option.getD, Option.isSome, List.map, List.length, List.getElem?_cons_zero, List.getElem?_cons_succ, List.set, List.foldr, List.all, List.not_mem_nil, List.nodup_cons, List.nodup_nil, List.nil_append, List.append_nil, ↓reduceIte, Nat.reduceLT, Nat.reduceAdd, Nat.reduceLeDiff, Nat.reduceEqDiff, Nat.zero_add, Nat.add_zero, ne_eq, not_false_eq_true, or_false, Bool.and_true, Bool.false_eq_true, id_eq, reduceCtorEq, Int.reduceEq, decide_true, decide_false, and_self, Nat.succ_ne_zero, hpc, h', Try.ntmps46, Try.results46]
  · rw [if_neg h]
    have h' : ((m.nm.length : Int) = 0) = False := eq_false (by omega)
    have g0 : (m.nm.length : Int) - 1 = ((m.nm.length - 1 : Nat) : Int) := by omega
    have g1 : inI ((m.nm.length - 1 : Nat) : Int) := by unfold inI; omega
    have g2 : ((m.nm.length - 1 : Nat) : Int) ≤ (m.nm.length : Int) := by omega
    have hcut := cut_flC vlI_len m.nm 0 (m.nm.length - 1)
    rw [List.drop_zero, Nat.sub_zero] at hcut
    have htl : (m.nm.take (m.nm.length - 1)).length = m.nm.length - 1 := by rw [List.length_take]; omega
    unfold mcI
    simp only [insC, htl]
    refine con_runP Try.func46 rfl rfl (by simp [Try.ntmps46]) rfl ?_
    simp only [s0P, mkPs, mkPA, mkC, argA, numT, eq_self, xRun, vE, vP, vSub, vLoad, vFld, vBin, vBinT, isAg, isBo, vLen, vStore, isCutO, isB, bv, gN, isPick, isCall, AS.pt, AS.ev, AS.box, AS.setb, AS.mk', AS.rd, kill, look, cav, avB, setRowG, AV.cells, AV.whole, AV.one, td0, td1, td2, td3, td4, td5, td6, Option.getD, Option.isSome, List.map, List.length, List.getElem?_cons_zero, List.getElem?_cons_succ, List.set, List.foldr, List.all, List.nil_append, ↓reduceIte, Nat.reduceLT, Nat.reduceAdd, Nat.reduceLeDiff, Nat.reduceEqDiff, Nat.zero_add, Nat.add_zero, ne_eq, not_false_eq_true, true_and, Bool.and_true, Bool.false_eq_true, reduceCtorEq, Int.reduceEq, decide_false, and_self, Nat.succ_ne_zero, hpc, h', Try.ntmps46]
    refine sw_drawn (.cons 0 true (.cons 1 true (.cons 2 true (.cons 3 true (.cons 4 true (.cons 5 true (.cons 6 true (.cons 7 true (.cons 8 true (.cons 9 true (.cons 10 true (.cons 11 true (.cons 12 true (.cons 13 true (.cons 14 false (.nil)))))))))))))))) (by kernel_rfl) fQP_panic (by kernel_rfl) (sw_run 200 _ _ _ ?_)
    simp only [fQP, xRetP, rRs, rOs, rC, rCs, eRs, eOs, eC, eCs, aD, xRes, rD, eq_self, xRun, vE, vP, vSub, vLoad, vFld, vBin, vBinT, isAg, isBo, vLen, vCut, vSlc, vStore, isCutO, ixL, ixH, gN, isPick, isCall, AS.pt, AS.ev, AS.setb, AS.owf, AS.rd, look, cav, setRowG, AV.cells, AV.whole, AV.one, td0, td1, td2, td3, td4, td5, td6, Option.bind, Option.getD, Option.map, Option.isSome, List.map, List.length, List.getElem?_cons_zero, List.getElem?_cons_succ, List.set, List.not_mem_nil, List.nodup_cons, List.nodup_nil, List.nil_append, List.append_nil, ↓reduceIte, Nat.reduceLT, Nat.reduceAdd, Nat.reduceLeDiff, Nat.reduceEqDiff, Nat.zero_add, ne_eq, not_false_eq_true, or_false, Bool.false_eq_true, id_eq, reduceCtorEq, Int.toNat_natCast, Int.toNat_zero, Int.le_refl, Int.natCast_nonneg, and_self, Nat.succ_ne_zero, g0, g1, g2, hcut, Try.results46]
end Go.Proofs.Ytgjcilainojlfaa
