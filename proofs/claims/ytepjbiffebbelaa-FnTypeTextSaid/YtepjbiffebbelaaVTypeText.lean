/-
  The walk of the law FnTypeText.
-/
import Derived.Test.YtepjbiffebbelaaLp
import Derived.Test.YtepjbiffebbelaaDru
import Derived.Test.YtepjbiffebbelaaByt
import Derived.Test.YtepjbiffebbelaaEqT
import Derived.Test.YtepjbiffebbelaaCon2
namespace Go.Proofs.Ytepjbiffebbelaa
open Go.RowKit
set_option linter.unusedVariables false
set_option linter.unusedSimpArgs false
set_option maxRecDepth 20000
theorem con_big (zs : List Int) : Con Try.prog 31 [.one (bytD zs)] [.one (.bool (decide (1048576 < (zs.length : Int))))] := by
  refine con_run Try.func31 rfl rfl (by simp [Try.ntmps31]) ?_
  simp only [argT, argA, fQ, xRet, rPs, xRes, flatA, rD, eq_self, xRun, vE, vP, vBin, vBinT, isAg, isBo, vLen, isCutO, gN, isPick, isCall, AS.pt, AS.ev, AS.rd, look, cav, avB, eatsOf, td0, td1, td2, td3, td4, td5, td6, Option.getD, List.map, List.nodup_nil, ↓reduceIte, Nat.reduceLT, or_false, Bool.false_eq_true, reduceCtorEq, and_self, bytD, Try.ntmps31, Try.results31]
theorem pt_fmB (t : Ty) : ptBb (bs (fmT t)) = vTy t ∧ (vTy t = true → ptTb (bs (fmT t)) = t) := by
  have h := pt_fmt t
  exact h
theorem pt_sdB (z : ByteArray) (h : ptBb z = true) : bs (fmT (ptTb z)) = z := by
  have := pt_sound (l := z.data.toList) h
  show bs (fmT (ptT z.data.toList)) = z
  rw [this]
  rfl
theorem ptTb_sz (s : ByteArray) : szL (tyC (ptTb s)) ≤ 1000000000 := by
  unfold ptTb ptT
  split
  · exact Nat.le_trans (rdI_sz 8 _) (by decide)
  · rw [sz_ty0]; omega
mutual
theorem eqTy_rf : ∀ t : Ty, eqTy t t = true
  | .mk k xs => by unfold eqTy; rw [decide_eq_true rfl, eqTys_rf xs]; rfl
theorem eqTys_rf : ∀ xs : List Ty, eqTys xs xs = true
  | [] => by unfold eqTys; rfl
  | x :: xs => by unfold eqTys; rw [eqTy_rf x, eqTys_rf xs]; rfl
end
theorem con_FnTypeText (zs : List Int) (hz : ∀ n ∈ zs, 0 ≤ n ∧ n < 256) : Con Try.prog 7 [.one (bytD zs)] [.one (.bool true)] := by
  have hb := con_big zs
  by_cases hbig : 1048576 < (zs.length : Int)
  · rw [decide_eq_true hbig] at hb
    refine con_run Try.func7 rfl rfl (by simp [Try.ntmps7]) ?_
    simp only [argT, argA, eq_self, xRun, vE, vP, isCutO, gN, isPick, isCall, AS.pt, AS.ev, look, cav, avB, td0, td1, td2, td3, td4, td5, td6, Option.getD, ↓reduceIte, Nat.reduceLT, true_and, Bool.false_eq_true, reduceCtorEq, bytD, Try.ntmps7]
    refine sw_call hb rfl (aAs_ok ?_) ?_ (sw_run 200 _ _ _ ?_)
    · simp only [aAs, aA, aD, AS.ev, look, Option.getD, List.map, List.append_nil, ↓reduceIte, eq_self, and_self, bytD]
    · simp only [okR]
    simp only [mkR, flatD, packA, retA, List.headD_cons, fQ, xRet, rPs, xRes, flatA, rD, eq_self, xRun, vE, vP, isCutO, isB, bv, gN, isPick, isCall, AS.pt, AS.ev, look, cav, eatsOf, td0, td1, td2, td3, td4, td5, td6, Option.getD, List.map, List.nodup_nil, ↓reduceIte, Nat.reduceLT, or_false, Bool.false_eq_true, reduceCtorEq, and_self, Try.results7]
  rw [decide_eq_false hbig] at hb
  have hok : BytOk zs := ⟨by omega, hz⟩
  refine con_run Try.func7 rfl rfl (by simp [Try.ntmps7]) ?_
  simp only [argT, argA, eq_self, xRun, vE, vP, isCutO, gN, isPick, isCall, AS.pt, AS.ev, look, cav, avB, td0, td1, td2, td3, td4, td5, td6, Option.getD, ↓reduceIte, Nat.reduceLT, true_and, Bool.false_eq_true, reduceCtorEq, bytD, Try.ntmps7]
  refine sw_call hb rfl (aAs_ok ?_) ?_ (sw_run 200 _ _ _ ?_)
  · simp only [aAs, aA, aD, AS.ev, look, Option.getD, List.map, List.append_nil, ↓reduceIte, eq_self, and_self, bytD]
  · simp only [okR]
  simp only [mkR, flatD, packA, retA, List.headD_cons, eq_self, xRun, vE, vP, isCutO, isB, bv, gN, isPick, isCall, AS.pt, AS.ev, look, td0, td1, td2, td3, td4, td5, td6, Option.getD, ↓reduceIte, Nat.reduceLT, true_and, Bool.false_eq_true, reduceCtorEq]
  refine sw_callX (con_DrawFmt zs hok) rfl rfl rfl (fun _ _ => rfl) ?_ ?_ ?_ ?_
  · simp only [AS.kb, rmBs, mPs, mP, ePs, eP, bPs, bP, aA, aD, AS.kl, eq_self, AS.ev, kill, look, td0, td1, td2, td3, td4, td5, td6, Option.getD, List.map, List.foldr, List.append_nil, ↓reduceIte, and_self, bytD]
  · simp only [ePs, eP, eq_self, AS.ev, look, td0, td1, td2, td3, td4, td5, td6, Option.getD, List.map, List.nodup_nil, List.append_nil, ↓reduceIte, bytD]
  · simp only [bPs, bP, eq_self, AS.ev, look, td0, td1, td2, td3, td4, td5, td6, Option.getD, List.map, List.nodup_nil, List.append_nil, ↓reduceIte, bytD]
  intro t ht
  have ht' : szL (tyC t) ≤ 1000000000 := Nat.le_trans ht (by decide)
  obtain ⟨e1, e2⟩ := pt_fmB t
  have hF := con_FormatI t ht'
  have hFS := con_FormatS t ht'
  have hP := con_PtIb (bs (fmT t))
  have hV := con_ValidTyS t ht'
  generalize bs (fmT t) = y at *
  rw [e1] at hP
  refine sw_run 200 _ _ _ ?_
  simp only [mkC, aftS, aftV, AS.kb, rmBs, mkO, packRA, flatR, ePs, eP, bPs, bP, AS.kl, retA, eq_self, xRun, vE, vP, vSub, vLoad, vStore, isCutO, gN, isPick, isCall, AS.pt, AS.ev, AS.box, AS.setb, AS.mk', kill, look, setRowG, AV.cells, AV.whole, AV.one, td0, td1, td2, td3, td4, td5, td6, Option.getD, Option.isSome, List.map, List.take, List.drop, List.length, List.set, List.foldr, List.all, List.append_nil, ↓reduceIte, Nat.reduceLT, Nat.reduceAdd, Nat.reduceEqDiff, Nat.zero_add, true_and, Bool.and_true, Bool.false_eq_true, and_self, Nat.le_refl, tyR]
  refine sw_call hF rfl (aAs_ok ?_) ?_ (sw_run 200 _ _ _ ?_)
  · simp only [aAs, aA, aDs, aD, tysD, AS.ev, AS.owf, look, Option.bind, Option.getD, id_eq, List.map, List.append_nil, ↓reduceIte, eq_self, and_self, tyC_eq]
  · simp only [okR]
  simp only [mkR, flatD, packA, retA, List.headD_cons, eq_self, xRun, vE, vP, isCutO, gN, isPick, isCall, AS.pt, AS.ev, look, td0, td1, td2, td3, td4, td5, td6, Option.getD, ↓reduceIte, Nat.reduceLT, true_and, Bool.false_eq_true]
  refine sw_call hP rfl (aAs_ok ?_) ?_ (sw_run 200 _ _ _ ?_)
  · simp only [aAs, aA, aD, AS.ev, look, Option.getD, List.map, List.append_nil, ↓reduceIte, eq_self, and_self]
  · simp only [okR]
  simp only [mkR, flatD, packA, retA, List.headD_cons, tysD, eq_self, xRun, vE, vP, vSub, vLoad, vExt, vStore, isCutO, gN, isPick, isCall, AS.pt, AS.ev, AS.box, AS.setb, AS.mk', kill, look, setRowG, AV.cells, AV.whole, AV.one, td0, td1, td2, td3, td4, td5, td6, Option.getD, Option.isSome, List.take, List.drop, List.length, List.getElem?_cons_zero, List.getElem?_cons_succ, List.set, List.foldr, List.all, List.nil_append, List.cons_append, ↓reduceIte, Nat.reduceLT, Nat.reduceAdd, Nat.reduceEqDiff, Nat.zero_add, true_and, Bool.and_true, Bool.false_eq_true, and_self, Nat.le_refl, tyC_eq]
  refine sw_call hFS rfl (aAs_ok ?_) ?_ (sw_run 200 _ _ _ ?_)
  · simp only [aAs, aA, aDs, aD, tysD, AS.ev, AS.owf, look, Option.bind, Option.getD, id_eq, List.map, List.append_nil, ↓reduceIte, reduceCtorEq, eq_self, and_self, tyC_eq]
  · simp only [okR]
  simp only [mkR, flatD, packA, retA, List.headD_cons, eq_self, xRun, vE, vP, vSub, vLoad, vBin, vBinT, isAg, isBo, isCutO, isB, bv, gT, gW, gN, gV, isU, isPick, isCall, AS.pt, AS.kn, AS.ev, look, td0, td1, td2, td3, td4, td5, td6, Option.bind, Option.getD, Option.isSome, List.take, List.drop, List.length, List.getElem?_cons_zero, List.getElem?_cons_succ, ↓reduceIte, Nat.reduceLT, Nat.reduceAdd, Nat.reduceEqDiff, Nat.zero_add, ne_eq, not_true_eq_false, true_and, Bool.false_eq_true, decide_false, and_self, Nat.le_refl]
  refine sw_call hV rfl (aAs_ok ?_) ?_ (sw_run 200 _ _ _ ?_)
  · simp only [aAs, aA, aDs, aD, tysD, AS.ev, AS.owf, look, Option.bind, Option.getD, id_eq, List.map, List.append_nil, ↓reduceIte, Nat.reduceEqDiff, reduceCtorEq, eq_self, and_self, tyC_eq]
  · simp only [okR]
  cases hv : vTy t
  · simp only [mkR, flatD, packA, retA, List.headD_cons, eq_self, xRun, vE, vP, vBinT, isAg, isBo, bvA, vEqB, isCutO, isB, bv, gT, gW, gN, gV, isU, isPick, pkC, pkB, isCall, AS.pt, AS.kn, AS.ev, look, cav, td0, td1, td2, td3, td4, td5, td6, Option.bind, Option.getD, Option.isSome, List.getElem?_cons_zero, List.getElem?_cons_succ, ↓reduceIte, Nat.reduceLT, Nat.reduceEqDiff, ne_eq, not_true_eq_false, true_and, Bool.not_true, Bool.false_eq_true, reduceCtorEq, decide_false, and_self]
    refine sw_callX (con_DrawPt zs hok) rfl rfl rfl (fun _ _ => rfl) ?_ ?_ ?_ ?_
    · simp only [AS.kb, rmBs, mPs, mP, ePs, eP, bPs, bP, aA, aD, AS.kl, eq_self, AS.ev, kill, look, td0, td1, td2, td3, td4, td5, td6, Option.getD, List.map, List.foldr, List.append_nil, ↓reduceIte, and_self, bytD]
    · simp only [ePs, eP, eq_self, AS.ev, look, td0, td1, td2, td3, td4, td5, td6, Option.getD, List.map, List.nodup_nil, List.append_nil, ↓reduceIte, bytD]
    · simp only [bPs, bP, eq_self, AS.ev, look, td0, td1, td2, td3, td4, td5, td6, Option.getD, List.map, List.nodup_nil, List.append_nil, ↓reduceIte, bytD]
    intro z hz2
    have hz3 : z.size ≤ 1048576 := Nat.le_trans hz2 (by decide)
    refine sw_run 200 _ _ _ ?_
    have hQ := con_PtIb z
    have hQS := con_PtSb z hz3
    have hF2 := con_FormatI (ptTb z) (ptTb_sz z)
    have hsd := pt_sdB z
    generalize ptTb z = r at *
    generalize ptBb z = rb at *
    simp only [mkC, aftS, aftV, AS.kb, rmBs, mkO, packRA, flatR, ePs, eP, bPs, bP, AS.kl, retA, List.headD_cons, eq_self, xRun, vE, vP, isCutO, gN, isPick, isCall, AS.pt, AS.ev, kill, look, td0, td1, td2, td3, td4, td5, td6, Option.getD, List.map, List.foldr, List.append_nil, ↓reduceIte, Nat.reduceLT, true_and, Bool.false_eq_true]
    refine sw_call hQ rfl (aAs_ok ?_) ?_ (sw_run 200 _ _ _ ?_)
    · simp only [aAs, aA, aD, AS.ev, look, Option.getD, List.map, List.append_nil, ↓reduceIte, eq_self, and_self]
    · simp only [okR]
    simp only [mkR, flatD, packA, retA, List.headD_cons, tysD, eq_self, xRun, vE, vP, vExt, vStore, isCutO, gN, isPick, isCall, AS.pt, AS.ev, AS.box, AS.setb, AS.mk', kill, look, setRowG, AV.cells, AV.whole, AV.one, td0, td1, td2, td3, td4, td5, td6, Option.getD, Option.isSome, List.take, List.drop, List.length, List.getElem?_cons_zero, List.getElem?_cons_succ, List.set, List.foldr, List.all, List.nil_append, List.cons_append, ↓reduceIte, Nat.reduceLT, Nat.reduceAdd, Nat.reduceEqDiff, Nat.zero_add, true_and, Bool.and_true, Bool.false_eq_true, and_self, Nat.le_refl, tyC_eq]
    refine sw_call hQS rfl (aAs_ok ?_) ?_ (sw_run 200 _ _ _ ?_)
    · simp only [aAs, aA, aD, AS.ev, look, Option.getD, List.map, List.append_nil, ↓reduceIte, eq_self, and_self]
    · simp only [okR]
    cases rb
    · simp only [mkR, flatD, packA, retA, List.headD_cons, fQ, tysD, xRet, rPs, xRes, flatA, rD, eq_self, xRun, vE, vP, vBinT, isAg, isBo, bvA, vEqB, vNot, vExt, vStore, isCutO, isB, bv, gT, gW, gN, gV, isU, isPick, pkC, pkA, isCall, AS.pt, AS.kn, AS.ev, AS.box, AS.setb, AS.mk', kill, look, cav, setRowG, AV.cells, AV.whole, AV.one, eatsOf, td0, td1, td2, td3, td4, td5, td6, Option.bind, Option.getD, Option.isSome, List.map, List.take, List.drop, List.length, List.getElem?_cons_zero, List.getElem?_cons_succ, List.set, List.foldr, List.all, List.nodup_nil, List.nil_append, List.cons_append, ↓reduceIte, Nat.reduceLT, Nat.reduceAdd, Nat.reduceEqDiff, Nat.zero_add, or_false, Bool.and_true, Bool.not_false, Bool.false_eq_true, Bool.true_eq_false, reduceCtorEq, decide_true, and_self, Nat.le_refl, tyC_eq, Try.results7]
    · have hse := hsd rfl
      simp only [mkR, flatD, packA, retA, List.headD_cons, tysD, eq_self, xRun, vE, vP, vSub, vLoad, vBinT, isAg, isBo, bvA, vEqB, vNot, vExt, vStore, isCutO, isB, bv, gT, gW, gN, gV, isU, isPick, isCall, AS.pt, AS.kn, AS.ev, AS.box, AS.setb, AS.mk', kill, look, setRowG, AV.cells, AV.whole, AV.one, td0, td1, td2, td3, td4, td5, td6, Option.bind, Option.getD, Option.isSome, List.take, List.drop, List.length, List.getElem?_cons_zero, List.getElem?_cons_succ, List.set, List.foldr, List.all, List.nil_append, List.cons_append, ↓reduceIte, Nat.reduceLT, Nat.reduceAdd, Nat.reduceEqDiff, Nat.zero_add, true_and, Bool.and_true, Bool.not_true, Bool.false_eq_true, decide_true, and_self, Nat.le_refl, tyC_eq]
      refine sw_call hF2 rfl (aAs_ok ?_) ?_ (sw_run 200 _ _ _ ?_)
      · simp only [aAs, aA, aDs, aD, tysD, AS.ev, AS.owf, look, Option.bind, Option.getD, id_eq, List.map, List.append_nil, ↓reduceIte, Nat.reduceEqDiff, eq_self, and_self, tyC_eq]
      · simp only [okR]
      simp only [mkR, flatD, packA, retA, List.headD_cons, fQ, xRet, rPs, xRes, flatA, rD, eq_self, xRun, vE, vP, vBin, vBinT, isAg, isBo, isCutO, isB, bv, gT, gW, gN, gV, isU, isPick, pkC, pkA, pkB, isCall, AS.pt, AS.kn, AS.ev, look, eatsOf, td0, td1, td2, td3, td4, td5, td6, Option.bind, Option.getD, Option.isSome, List.map, List.getElem?_cons_zero, List.getElem?_cons_succ, List.nodup_nil, ↓reduceIte, Nat.reduceLT, Nat.reduceEqDiff, or_false, Bool.false_eq_true, reduceCtorEq, decide_true, and_self, hse, Try.results7]
  · have e3 := e2 hv
    have hE := con_EqTyI t t ht'
    rw [eqTy_rf] at hE
    simp only [mkR, flatD, packA, retA, List.headD_cons, eq_self, xRun, vE, vP, vSub, vLoad, vBinT, isAg, isBo, bvA, vEqB, isCutO, isB, bv, gT, gW, gN, gV, isU, isPick, pkC, pkB, isCall, AS.pt, AS.kn, AS.ev, look, td0, td1, td2, td3, td4, td5, td6, Option.bind, Option.getD, Option.isSome, List.take, List.drop, List.length, List.getElem?_cons_zero, List.getElem?_cons_succ, ↓reduceIte, Nat.reduceLT, Nat.reduceAdd, Nat.reduceEqDiff, Nat.zero_add, ne_eq, not_true_eq_false, true_and, Bool.false_eq_true, decide_false, and_self, Nat.le_refl, e3]
    refine sw_call hE rfl (aAs_ok ?_) ?_ (sw_run 200 _ _ _ ?_)
    · simp only [aAs, aA, aDs, aD, tysD, AS.ev, AS.owf, look, Option.bind, Option.getD, id_eq, List.map, List.append_nil, ↓reduceIte, Nat.reduceEqDiff, reduceCtorEq, eq_self, and_self, tyC_eq]
    · simp only [okR]
    simp only [mkR, flatD, packA, retA, List.headD_cons, eq_self, xRun, vE, vP, vNot, isCutO, isB, bv, gT, gW, gN, gV, isU, isPick, pkC, pkA, pkB, isCall, AS.pt, AS.kn, AS.ev, look, td0, td1, td2, td3, td4, td5, td6, Option.bind, Option.getD, Option.isSome, List.getElem?_cons_zero, List.getElem?_cons_succ, ↓reduceIte, Nat.reduceLT, Nat.reduceEqDiff, true_and, Bool.not_true, Bool.false_eq_true, reduceCtorEq, and_self]
    refine sw_callX (con_DrawPt zs hok) rfl rfl rfl (fun _ _ => rfl) ?_ ?_ ?_ ?_
    · simp only [AS.kb, rmBs, mPs, mP, ePs, eP, bPs, bP, aA, aD, AS.kl, eq_self, AS.ev, kill, look, td0, td1, td2, td3, td4, td5, td6, Option.getD, List.map, List.foldr, List.append_nil, ↓reduceIte, and_self, bytD]
    · simp only [ePs, eP, eq_self, AS.ev, look, td0, td1, td2, td3, td4, td5, td6, Option.getD, List.map, List.nodup_nil, List.append_nil, ↓reduceIte, bytD]
    · simp only [bPs, bP, eq_self, AS.ev, look, td0, td1, td2, td3, td4, td5, td6, Option.getD, List.map, List.nodup_nil, List.append_nil, ↓reduceIte, bytD]
    intro z hz2
    have hz3 : z.size ≤ 1048576 := Nat.le_trans hz2 (by decide)
    refine sw_run 200 _ _ _ ?_
    have hQ := con_PtIb z
    have hQS := con_PtSb z hz3
    have hF2 := con_FormatI (ptTb z) (ptTb_sz z)
    have hsd := pt_sdB z
    generalize ptTb z = r at *
    generalize ptBb z = rb at *
    simp only [mkC, aftS, aftV, AS.kb, rmBs, mkO, packRA, flatR, ePs, eP, bPs, bP, AS.kl, retA, List.headD_cons, eq_self, xRun, vE, vP, isCutO, gN, isPick, isCall, AS.pt, AS.ev, kill, look, td0, td1, td2, td3, td4, td5, td6, Option.getD, List.map, List.foldr, List.append_nil, ↓reduceIte, Nat.reduceLT, true_and, Bool.false_eq_true]
    refine sw_call hQ rfl (aAs_ok ?_) ?_ (sw_run 200 _ _ _ ?_)
    · simp only [aAs, aA, aD, AS.ev, look, Option.getD, List.map, List.append_nil, ↓reduceIte, eq_self, and_self]
    · simp only [okR]
    simp only [mkR, flatD, packA, retA, List.headD_cons, tysD, eq_self, xRun, vE, vP, vExt, vStore, isCutO, gN, isPick, isCall, AS.pt, AS.ev, AS.box, AS.setb, AS.mk', kill, look, setRowG, AV.cells, AV.whole, AV.one, td0, td1, td2, td3, td4, td5, td6, Option.getD, Option.isSome, List.take, List.drop, List.length, List.getElem?_cons_zero, List.getElem?_cons_succ, List.set, List.foldr, List.all, List.nil_append, List.cons_append, ↓reduceIte, Nat.reduceLT, Nat.reduceAdd, Nat.reduceEqDiff, Nat.zero_add, true_and, Bool.and_true, Bool.false_eq_true, and_self, Nat.le_refl, tyC_eq]
    refine sw_call hQS rfl (aAs_ok ?_) ?_ (sw_run 200 _ _ _ ?_)
    · simp only [aAs, aA, aD, AS.ev, look, Option.getD, List.map, List.append_nil, ↓reduceIte, eq_self, and_self]
    · simp only [okR]
    cases rb
    · simp only [mkR, flatD, packA, retA, List.headD_cons, fQ, tysD, xRet, rPs, xRes, flatA, rD, eq_self, xRun, vE, vP, vBinT, isAg, isBo, bvA, vEqB, vNot, vExt, vStore, isCutO, isB, bv, gT, gW, gN, gV, isU, isPick, pkC, pkA, isCall, AS.pt, AS.kn, AS.ev, AS.box, AS.setb, AS.mk', kill, look, cav, setRowG, AV.cells, AV.whole, AV.one, eatsOf, td0, td1, td2, td3, td4, td5, td6, Option.bind, Option.getD, Option.isSome, List.map, List.take, List.drop, List.length, List.getElem?_cons_zero, List.getElem?_cons_succ, List.set, List.foldr, List.all, List.nodup_nil, List.nil_append, List.cons_append, ↓reduceIte, Nat.reduceLT, Nat.reduceAdd, Nat.reduceEqDiff, Nat.zero_add, or_false, Bool.and_true, Bool.not_false, Bool.false_eq_true, Bool.true_eq_false, reduceCtorEq, decide_true, and_self, Nat.le_refl, tyC_eq, Try.results7]
    · have hse := hsd rfl
      simp only [mkR, flatD, packA, retA, List.headD_cons, tysD, eq_self, xRun, vE, vP, vSub, vLoad, vBinT, isAg, isBo, bvA, vEqB, vNot, vExt, vStore, isCutO, isB, bv, gT, gW, gN, gV, isU, isPick, isCall, AS.pt, AS.kn, AS.ev, AS.box, AS.setb, AS.mk', kill, look, setRowG, AV.cells, AV.whole, AV.one, td0, td1, td2, td3, td4, td5, td6, Option.bind, Option.getD, Option.isSome, List.take, List.drop, List.length, List.getElem?_cons_zero, List.getElem?_cons_succ, List.set, List.foldr, List.all, List.nil_append, List.cons_append, ↓reduceIte, Nat.reduceLT, Nat.reduceAdd, Nat.reduceEqDiff, Nat.zero_add, true_and, Bool.and_true, Bool.not_true, Bool.false_eq_true, decide_true, and_self, Nat.le_refl, tyC_eq]
      refine sw_call hF2 rfl (aAs_ok ?_) ?_ (sw_run 200 _ _ _ ?_)
      · simp only [aAs, aA, aDs, aD, tysD, AS.ev, AS.owf, look, Option.bind, Option.getD, id_eq, List.map, List.append_nil, ↓reduceIte, Nat.reduceEqDiff, eq_self, and_self, tyC_eq]
      · simp only [okR]
      simp only [mkR, flatD, packA, retA, List.headD_cons, fQ, xRet, rPs, xRes, flatA, rD, eq_self, xRun, vE, vP, vBin, vBinT, isAg, isBo, isCutO, isB, bv, gT, gW, gN, gV, isU, isPick, pkC, pkA, pkB, isCall, AS.pt, AS.kn, AS.ev, look, eatsOf, td0, td1, td2, td3, td4, td5, td6, Option.bind, Option.getD, Option.isSome, List.map, List.getElem?_cons_zero, List.getElem?_cons_succ, List.nodup_nil, ↓reduceIte, Nat.reduceLT, Nat.reduceEqDiff, or_false, Bool.false_eq_true, reduceCtorEq, decide_true, and_self, hse, Try.results7]
theorem top_FnTypeText (w : World) (v : Value) (h : BArg w v) : Calls Try.prog 7 #[v] w fun e w' => e = .returned (.bool true) ∧ Below w.heap.size w w' := by
  obtain ⟨zs, hr, _, hz⟩ := h
  exact lp_top (con_FnTypeText zs hz) (rpd_cons (rpd_one hr) (rpd_nil _))
end Go.Proofs.Ytepjbiffebbelaa
