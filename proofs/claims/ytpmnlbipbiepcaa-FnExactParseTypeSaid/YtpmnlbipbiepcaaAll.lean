/-
  All nodes of a type or a term; valid types of the program.
-/
import Derived.Test.YtpmnlbipbiepcaaTyV
import Derived.Test.YtpmnlbipbiepcaaTmC
namespace Go.Proofs.Ytpmnlbipbiepcaa
open Go.RowKit
set_option linter.unusedVariables false
set_option linter.unusedSimpArgs false
set_option maxRecDepth 20000
/-! the first element of a kind -/
def fg {α : Type} (p : α → Bool) : List α → Int → Int
  | [], _ => -1
  | x :: xs, i => if p x = true then i else fg p xs (i + 1)
theorem fg_step {α : Type} [Inhabited α] (p : α → Bool) (xs : List α) (k : Nat) (h : k < xs.length) : fg p (xs.drop k) k = if p xs[k]! = true then (k : Int) else fg p (xs.drop (k + 1)) ((k + 1 : Nat) : Int) := by
  rw [List.drop_eq_getElem_cons h, getElem!_pos xs k h]; rfl
theorem fg_end {α : Type} (p : α → Bool) (xs : List α) (k : Nat) (h : xs.length ≤ k) (i : Int) : fg p (xs.drop k) i = -1 := by rw [List.drop_of_length_le h]; rfl
theorem fg_any {α : Type} (p : α → Bool) : ∀ (xs : List α) (i : Int), 0 ≤ i → decide (0 ≤ fg p xs i) = xs.any p
  | [], i, _ => rfl
  | x :: xs, i, h => by
    rw [fg, List.any_cons]
    cases e : p x
    · rw [if_neg (by simp), fg_any p xs (i + 1) (by omega)]; rfl
    · rw [if_pos rfl, decide_eq_true h]; rfl
theorem con_IdxTy (q : Ty → Bool) (g h : FuncId) (xs : List Ty) (hl : xs.length ≤ 1000000000) (hp : ∀ x ∈ xs, Con Try.prog g [.ag (tyC x), .rf [.fn h []]] [.one (.bool (q x))]) : Con Try.prog 223 [.one (.rows 2 xs.length (tysC xs)), .fn g [.rf [.fn h []]]] [.one (.int (fg q xs 0))] := by
  refine con_run Try.func223 rfl rfl (by simp [Try.ntmps223]) ?_
  simp only [argT, argA, argAs, eq_self, xRun, vE, vP, vLen, isCutO, gN, isPick, isCall, AS.pt, AS.ev, AS.rd, look, cav, avB, td0, td1, td2, td3, td4, td5, td6, Option.getD, ↓reduceIte, Nat.reduceLT, Nat.zero_add, true_and, Bool.false_eq_true, reduceCtorEq, Int.reduceNeg, argAs, argA, Try.ntmps223]
  refine sw_loop (fun k : Nat => k ≤ xs.length ∧ fg q (xs.drop k) k = fg q xs 0) (fun k => ⟨19, [(8, .i k), (7, .i xs.length), (0, .br (.rows 2 xs.length (tysC xs))), (1, .fn g [.rp [.fn h []]])], [], [], 0, []⟩) (fun k => xs.length - k) 0 id ⟨Nat.zero_le _, rfl⟩ ?_ ?_
  · simp only [Sub, subT, subB, subO, subP, inj, AV.ren, AV.rens, AV.lt, AV.lts, eq_self, look, td0, td1, td2, td3, td4, td5, td6, List.map, List.nodup_nil, ↓reduceIte, Nat.reduceEqDiff, reduceCtorEq, Int.natCast_zero, and_self, Nat.succ_ne_zero, Int.natCast_zero]
  · rintro k ⟨hk, hf⟩
    refine sw_run 200 _ _ _ ?_
    by_cases hlt : k < xs.length
    · have hi : (k : Int) < (xs.length : Int) := by omega
      have hR := tysC_row' xs k hlt
      have hpc := hp _ (mem_bang hlt)
      rw [fg_step q xs k hlt] at hf
      obtain ⟨b, hb⟩ : ∃ b, b = q xs[k]! := ⟨_, rfl⟩
      rw [← hb] at hf hpc
      simp only [tysD, rowD, eq_self, xRun, vE, vP, vSub, vLoad, vIdx, vBin, vBinT, isAg, isBo, isCutO, isB, bv, gN, isPick, isCall, AS.pt, AS.ev, look, avB, td0, td1, td2, td3, td4, td5, td6, Option.getD, List.map, List.take, List.drop, List.length, ↓reduceIte, Nat.reduceLT, Nat.reduceAdd, Nat.reduceEqDiff, Nat.zero_add, true_and, Bool.false_eq_true, reduceCtorEq, Int.toNat_natCast, Int.reduceNeg, Int.natCast_nonneg, decide_true, and_self, Nat.succ_ne_zero, Nat.le_refl, hi, hR, tyC_eq]
      refine sw_call (hpc) rfl (aAs_ok ?_) ?_ (sw_run 200 _ _ _ ?_)
      · simp only [aAs, aA, aDs, aD, tysD, AS.ev, look, Option.getD, List.map, List.nil_append, List.cons_append, ↓reduceIte, eq_self, and_self, tyC_eq]
      · simp only [okR]
      cases b
      · rw [if_neg (by simp)] at hf
        simp only [mkR, flatD, packA, retA, List.headD_cons, qLp, eq_self, xRun, vE, vP, vBin, vBinT, isAg, isBo, isCutO, isB, bv, gN, isPick, isCall, AS.pt, AS.ev, look, cav, td0, td1, td2, td3, td4, td5, td6, Option.getD, ↓reduceIte, Nat.reduceLT, Nat.reduceEqDiff, true_and, Bool.false_eq_true, qLp]
        refine ⟨by unfold inI; omega, k + 1, id, ⟨by omega, hf⟩, by omega, ?_⟩
        simp only [Sub, subT, subB, subO, subP, inj, AV.ren, AV.rens, AV.lt, AV.lts, eq_self, look, td0, td1, td2, td3, td4, td5, td6, List.map, List.nodup_nil, ↓reduceIte, Nat.reduceEqDiff, reduceCtorEq, and_self, Nat.succ_ne_zero, cast1]
      · rw [if_pos rfl] at hf
        simp only [mkR, flatD, packA, retA, List.headD_cons, fQ, qLp, xRet, rPs, xRes, flatA, rD, eq_self, xRun, vE, vP, isCutO, isB, bv, gN, isPick, isCall, AS.pt, AS.ev, look, eatsOf, td0, td1, td2, td3, td4, td5, td6, Option.getD, List.map, List.nodup_nil, ↓reduceIte, Nat.reduceLT, Nat.reduceEqDiff, true_and, and_true, or_false, Bool.false_eq_true, reduceCtorEq, Try.results223]
        exact hf
    · have hi : ¬ (k : Int) < (xs.length : Int) := by omega
      rw [fg_end q xs k (by omega)] at hf
      simp only [qLp, eq_self, xRun, vE, vP, vBin, vBinT, isAg, isBo, isCutO, isB, bv, gN, isPick, isCall, popTo, AS.pt, AS.ev, look, td0, td1, td2, td3, td4, td5, td6, Option.getD, Option.isSome, ↓reduceIte, Nat.reduceLT, Nat.reduceEqDiff, true_and, Bool.false_eq_true, Int.reduceNeg, decide_false, hi]
      refine sw_run 200 _ _ _ ?_
      simp only [fQ, xRet, rPs, xRes, flatA, rD, eq_self, xRun, vE, vP, isCutO, gN, isPick, isCall, AS.pt, AS.ev, look, cav, eatsOf, td0, td1, td2, td3, td4, td5, td6, List.map, List.nodup_nil, ↓reduceIte, Nat.reduceLT, or_false, Bool.false_eq_true, reduceCtorEq, Int.reduceNeg, and_self, ← hf, Try.results223]
theorem con_ContTy (q : Ty → Bool) (g h : FuncId) (xs : List Ty) (hl : xs.length ≤ 1000000000) (hp : ∀ x ∈ xs, Con Try.prog g [.ag (tyC x), .rf [.fn h []]] [.one (.bool (q x))]) : Con Try.prog 214 [.one (.rows 2 xs.length (tysC xs)), .fn g [.rf [.fn h []]]] [.one (.bool (xs.any q))] := by
  have hc := con_IdxTy q g h xs hl hp
  rw [← fg_any q xs 0 (by omega)]
  refine con_run Try.func214 rfl rfl (by simp [Try.ntmps214]) ?_
  simp only [argT, argA, argAs, eq_self, xRun, vE, vP, isCutO, gN, isPick, isCall, AS.pt, AS.ev, look, cav, avB, td0, td1, td2, td3, td4, td5, td6, Option.getD, ↓reduceIte, Nat.reduceLT, Nat.reduceEqDiff, Nat.zero_add, true_and, Bool.false_eq_true, reduceCtorEq, Nat.succ_ne_zero, argAs, argA, Try.ntmps214]
  refine sw_call (hc) rfl (aAs_ok ?_) ?_ (sw_run 200 _ _ _ ?_)
  · simp only [aAs, aA, aD, AS.ev, look, Option.getD, List.map, List.append_nil, ↓reduceIte, Nat.reduceEqDiff, eq_self, and_self]
  · simp only [okR]
  simp only [mkR, flatD, packA, retA, List.headD_cons, fQ, xRet, rPs, xRes, flatA, rD, eq_self, xRun, vE, vP, vBin, vBinT, isAg, isBo, isCutO, gN, isPick, isCall, AS.pt, AS.ev, look, cav, eatsOf, td0, td1, td2, td3, td4, td5, td6, Option.getD, List.map, List.nodup_nil, ↓reduceIte, Nat.reduceLT, or_false, Bool.false_eq_true, reduceCtorEq, and_self, Try.results214]
theorem con_IdxTm (q : Tm → Bool) (g h : FuncId) (xs : List Tm) (hl : xs.length ≤ 1000000000) (hp : ∀ x ∈ xs, Con Try.prog g [.ag (tmC x), .rf [.fn h []]] [.one (.bool (q x))]) : Con Try.prog 219 [.one (.rows 9 xs.length (tmsC xs)), .fn g [.rf [.fn h []]]] [.one (.int (fg q xs 0))] := by
  refine con_run Try.func219 rfl rfl (by simp [Try.ntmps219]) ?_
  simp only [argT, argA, argAs, eq_self, xRun, vE, vP, vLen, isCutO, gN, isPick, isCall, AS.pt, AS.ev, AS.rd, look, cav, avB, td0, td1, td2, td3, td4, td5, td6, Option.getD, ↓reduceIte, Nat.reduceLT, Nat.zero_add, true_and, Bool.false_eq_true, reduceCtorEq, Int.reduceNeg, argAs, argA, Try.ntmps219]
  refine sw_loop (fun k : Nat => k ≤ xs.length ∧ fg q (xs.drop k) k = fg q xs 0) (fun k => ⟨19, [(8, .i k), (7, .i xs.length), (0, .br (.rows 9 xs.length (tmsC xs))), (1, .fn g [.rp [.fn h []]])], [], [], 0, []⟩) (fun k => xs.length - k) 0 id ⟨Nat.zero_le _, rfl⟩ ?_ ?_
  · simp only [Sub, subT, subB, subO, subP, inj, AV.ren, AV.rens, AV.lt, AV.lts, eq_self, look, td0, td1, td2, td3, td4, td5, td6, List.map, List.nodup_nil, ↓reduceIte, Nat.reduceEqDiff, reduceCtorEq, Int.natCast_zero, and_self, Nat.succ_ne_zero, Int.natCast_zero]
  · rintro k ⟨hk, hf⟩
    refine sw_run 200 _ _ _ ?_
    by_cases hlt : k < xs.length
    · have hi : (k : Int) < (xs.length : Int) := by omega
      have hR := tmsC_row' xs k hlt
      have hpc := hp _ (mem_bang hlt)
      rw [fg_step q xs k hlt] at hf
      obtain ⟨b, hb⟩ : ∃ b, b = q xs[k]! := ⟨_, rfl⟩
      rw [← hb] at hf hpc
      simp only [tysD, tmsD, rowD, eq_self, xRun, vE, vP, vSub, vLoad, vIdx, vBin, vBinT, isAg, isBo, isCutO, isB, bv, gN, isPick, isCall, AS.pt, AS.ev, look, avB, td0, td1, td2, td3, td4, td5, td6, Option.getD, List.map, List.take, List.drop, List.length, ↓reduceIte, Nat.reduceLT, Nat.reduceAdd, Nat.reduceEqDiff, Nat.zero_add, true_and, Bool.false_eq_true, reduceCtorEq, Int.toNat_natCast, Int.reduceNeg, Int.natCast_nonneg, decide_true, and_self, Nat.succ_ne_zero, Nat.le_refl, hi, hR, tmC_eq]
      refine sw_call (hpc) rfl (aAs_ok ?_) ?_ (sw_run 200 _ _ _ ?_)
      · simp only [aAs, aA, aDs, aD, tysD, tmsD, AS.ev, look, Option.getD, List.map, List.nil_append, List.cons_append, ↓reduceIte, eq_self, and_self, tmC_eq]
      · simp only [okR]
      cases b
      · rw [if_neg (by simp)] at hf
        simp only [mkR, flatD, packA, retA, List.headD_cons, qLp, eq_self, xRun, vE, vP, vBin, vBinT, isAg, isBo, isCutO, isB, bv, gN, isPick, isCall, AS.pt, AS.ev, look, cav, td0, td1, td2, td3, td4, td5, td6, Option.getD, ↓reduceIte, Nat.reduceLT, Nat.reduceEqDiff, true_and, Bool.false_eq_true, qLp]
        refine ⟨by unfold inI; omega, k + 1, id, ⟨by omega, hf⟩, by omega, ?_⟩
        simp only [Sub, subT, subB, subO, subP, inj, AV.ren, AV.rens, AV.lt, AV.lts, eq_self, look, td0, td1, td2, td3, td4, td5, td6, List.map, List.nodup_nil, ↓reduceIte, Nat.reduceEqDiff, reduceCtorEq, and_self, Nat.succ_ne_zero, cast1]
      · rw [if_pos rfl] at hf
        simp only [mkR, flatD, packA, retA, List.headD_cons, fQ, qLp, xRet, rPs, xRes, flatA, rD, eq_self, xRun, vE, vP, isCutO, isB, bv, gN, isPick, isCall, AS.pt, AS.ev, look, eatsOf, td0, td1, td2, td3, td4, td5, td6, Option.getD, List.map, List.nodup_nil, ↓reduceIte, Nat.reduceLT, Nat.reduceEqDiff, true_and, and_true, or_false, Bool.false_eq_true, reduceCtorEq, Try.results219]
        exact hf
    · have hi : ¬ (k : Int) < (xs.length : Int) := by omega
      rw [fg_end q xs k (by omega)] at hf
      simp only [qLp, eq_self, xRun, vE, vP, vBin, vBinT, isAg, isBo, isCutO, isB, bv, gN, isPick, isCall, popTo, AS.pt, AS.ev, look, td0, td1, td2, td3, td4, td5, td6, Option.getD, Option.isSome, ↓reduceIte, Nat.reduceLT, Nat.reduceEqDiff, true_and, Bool.false_eq_true, Int.reduceNeg, decide_false, hi]
      refine sw_run 200 _ _ _ ?_
      simp only [fQ, xRet, rPs, xRes, flatA, rD, eq_self, xRun, vE, vP, isCutO, gN, isPick, isCall, AS.pt, AS.ev, look, cav, eatsOf, td0, td1, td2, td3, td4, td5, td6, List.map, List.nodup_nil, ↓reduceIte, Nat.reduceLT, or_false, Bool.false_eq_true, reduceCtorEq, Int.reduceNeg, and_self, ← hf, Try.results219]
theorem con_ContTm (q : Tm → Bool) (g h : FuncId) (xs : List Tm) (hl : xs.length ≤ 1000000000) (hp : ∀ x ∈ xs, Con Try.prog g [.ag (tmC x), .rf [.fn h []]] [.one (.bool (q x))]) : Con Try.prog 200 [.one (.rows 9 xs.length (tmsC xs)), .fn g [.rf [.fn h []]]] [.one (.bool (xs.any q))] := by
  have hc := con_IdxTm q g h xs hl hp
  rw [← fg_any q xs 0 (by omega)]
  refine con_run Try.func200 rfl rfl (by simp [Try.ntmps200]) ?_
  simp only [argT, argA, argAs, eq_self, xRun, vE, vP, isCutO, gN, isPick, isCall, AS.pt, AS.ev, look, cav, avB, td0, td1, td2, td3, td4, td5, td6, Option.getD, ↓reduceIte, Nat.reduceLT, Nat.reduceEqDiff, Nat.zero_add, true_and, Bool.false_eq_true, reduceCtorEq, Nat.succ_ne_zero, argAs, argA, Try.ntmps200]
  refine sw_call (hc) rfl (aAs_ok ?_) ?_ (sw_run 200 _ _ _ ?_)
  · simp only [aAs, aA, aD, AS.ev, look, Option.getD, List.map, List.append_nil, ↓reduceIte, Nat.reduceEqDiff, eq_self, and_self]
  · simp only [okR]
  simp only [mkR, flatD, packA, retA, List.headD_cons, fQ, xRet, rPs, xRes, flatA, rD, eq_self, xRun, vE, vP, vBin, vBinT, isAg, isBo, isCutO, gN, isPick, isCall, AS.pt, AS.ev, look, cav, eatsOf, td0, td1, td2, td3, td4, td5, td6, Option.getD, List.map, List.nodup_nil, ↓reduceIte, Nat.reduceLT, or_false, Bool.false_eq_true, reduceCtorEq, and_self, Try.results200]
mutual
def allTy (p : Ty → Bool) : Ty → Bool
  | .mk k xs => p (.mk k xs) && allTys p xs
def allTys (p : Ty → Bool) : List Ty → Bool
  | [] => true
  | x :: xs => allTy p x && allTys p xs
end
theorem allTys_any (p : Ty → Bool) : ∀ xs : List Ty, allTys p xs = !xs.any fun x => !allTy p x
  | [] => rfl
  | x :: xs => by rw [allTys, List.any_cons, allTys_any p xs]; cases allTy p x <;> simp
mutual
def allTm (p : Tm → Bool) : Tm → Bool
  | .mk k s o n t r xs => p (.mk k s o n t r xs) && allTms p xs
def allTms (p : Tm → Bool) : List Tm → Bool
  | [] => true
  | x :: xs => allTm p x && allTms p xs
end
theorem allTms_any (p : Tm → Bool) : ∀ xs : List Tm, allTms p xs = !xs.any fun x => !allTm p x
  | [] => rfl
  | x :: xs => by rw [allTms, List.any_cons, allTms_any p xs]; cases allTm p x <;> simp
theorem allTm_eq (p : Tm → Bool) (t : Tm) : allTm p t = (p t && allTms p t.args) := by obtain ⟨k, s, o, n, ty, r, xs⟩ := t; rw [allTm]; rfl
theorem con_allTypes (p : Ty → Bool) (h : FuncId) (B : Nat) (hB : B ≤ 1000000000) (hp : ∀ t : Ty, szL (tyC t) ≤ B → Con Try.prog h [.ag (tyC t)] [.one (.bool (p t))]) : ∀ t : Ty, szL (tyC t) ≤ B → Con Try.prog 186 [.ag (tyC t), .fn h []] [.one (.bool (allTy p t))] := by
  refine Ty.ind fun kd xs ih hz => ?_
  have hz' : xs.length + szL (tysC xs) ≤ B := by simpa [tyC, szL, szD] using hz
  have h0 := hp (.mk kd xs) hz
  have hin : ∀ x ∈ xs, Con Try.prog 215 [.ag (tyC x), .rf [.fn h []]] [.one (.bool (!allTy p x))] := fun x hx => by
    have hr := ih x hx (by
      have := szL_mem tyC xs x hx
      rw [← tysC_flat] at this
      omega)
    obtain ⟨b, hb⟩ : ∃ b, b = allTy p x := ⟨_, rfl⟩
    rw [← hb] at hr ⊢
    refine con_run Try.func215 rfl rfl (by simp [Try.ntmps215]) ?_
    simp only [argT, argA, argAs, tysD, eq_self, xRun, vE, vP, vSub, vLoad, isCutO, gN, isPick, isCall, AS.pt, AS.ev, AS.box, look, cav, avB, AV.cells, AV.whole, AV.one, td0, td1, td2, td3, td4, td5, td6, Option.getD, Option.isSome, List.map, List.take, List.drop, List.length, List.getElem?_cons_zero, List.all, ↓reduceIte, Nat.reduceLT, Nat.reduceAdd, Nat.reduceEqDiff, Nat.zero_add, true_and, Bool.and_true, Bool.false_eq_true, Nat.succ_ne_zero, Nat.le_refl, argAs, argA, tyC_eq, Try.ntmps215]
    refine sw_call (hr) rfl (aAs_ok ?_) ?_ (sw_run 200 _ _ _ ?_)
    · simp only [aAs, aA, aDs, aD, tysD, AS.ev, look, Option.getD, List.map, List.append_nil, ↓reduceIte, Nat.reduceEqDiff, eq_self, and_self, tyC_eq]
    · simp only [okR]
    simp only [mkR, flatD, packA, retA, List.headD_cons, fQ, xRet, rPs, xRes, flatA, rD, eq_self, xRun, vE, vP, vNot, isCutO, gN, isPick, isCall, AS.pt, AS.ev, look, eatsOf, td0, td1, td2, td3, td4, td5, td6, Option.getD, List.map, List.nodup_nil, ↓reduceIte, Nat.reduceLT, or_false, Bool.false_eq_true, reduceCtorEq, and_self, Try.results215]
  have hc := con_ContTy (fun x => !allTy p x) 215 h xs (by omega) hin
  rw [allTy, allTys_any]
  obtain ⟨b, hb⟩ : ∃ b, b = p (.mk kd xs) := ⟨_, rfl⟩
  obtain ⟨c, hcc⟩ : ∃ c, c = xs.any fun x => !allTy p x := ⟨_, rfl⟩
  rw [← hb] at h0 ⊢
  rw [← hcc] at hc ⊢
  refine con_run Try.func186 rfl rfl (by simp [Try.ntmps186]) ?_
  simp only [argT, argA, argAs, eq_self, xRun, vE, vP, vSub, vLoad, isCutO, gN, isPick, isCall, AS.pt, AS.ev, AS.box, look, cav, avB, AV.cells, AV.whole, AV.one, td0, td1, td2, td3, td4, td5, td6, Option.getD, Option.isSome, List.map, List.take, List.drop, List.length, List.getElem?_cons_zero, List.all, ↓reduceIte, Nat.reduceLT, Nat.reduceAdd, Nat.reduceEqDiff, Nat.zero_add, true_and, Bool.and_true, Bool.false_eq_true, reduceCtorEq, Nat.succ_ne_zero, Nat.le_refl, argAs, argA, tyC, Try.ntmps186]
  refine sw_call (h0) rfl (aAs_ok ?_) ?_ (sw_run 200 _ _ _ ?_)
  · simp only [aAs, aA, aDs, aD, AS.ev, look, Option.getD, List.map, List.append_nil, ↓reduceIte, eq_self, and_self, tyC]
  · simp only [okR]
  cases b
  · simp only [mkR, flatD, packA, retA, List.headD_cons, fQ, xRet, rPs, xRes, flatA, rD, eq_self, xRun, vE, vP, isCutO, isB, bv, gT, gW, gN, gV, isU, isPick, pkC, pkB, isCall, AS.pt, AS.kn, AS.ev, look, cav, eatsOf, td0, td1, td2, td3, td4, td5, td6, Option.bind, Option.getD, Option.isSome, List.map, List.getElem?_cons_zero, List.getElem?_cons_succ, List.nodup_nil, ↓reduceIte, Nat.reduceLT, Nat.reduceEqDiff, or_false, Bool.false_and, Bool.not_true, Bool.false_eq_true, reduceCtorEq, and_self, Try.results186]
  simp only [mkR, flatD, packA, retA, List.headD_cons, eq_self, xRun, vE, vP, vSub, vLoad, vFld, isCutO, isB, bv, gT, gW, gN, gV, isU, isPick, isCall, AS.pt, AS.kn, AS.ev, look, td0, td1, td2, td3, td4, td5, td6, Option.bind, Option.getD, Option.isSome, List.map, List.length, List.getElem?_cons_zero, List.getElem?_cons_succ, ↓reduceIte, Nat.reduceLT, Nat.reduceEqDiff, Nat.zero_add, ne_eq, not_false_eq_true, true_and, Bool.true_and, Bool.false_eq_true, reduceCtorEq, and_self, Nat.succ_ne_zero]
  refine sw_call (hc) rfl (aAs_ok ?_) ?_ (sw_run 200 _ _ _ ?_)
  · simp only [aAs, aA, aD, AS.ev, look, Option.getD, List.map, List.append_nil, ↓reduceIte, Nat.reduceEqDiff, eq_self, and_self]
  · simp only [okR]
  simp only [mkR, flatD, packA, retA, List.headD_cons, fQ, xRet, rPs, xRes, flatA, rD, eq_self, xRun, vE, vP, vNot, isCutO, isB, bv, gT, gW, gN, gV, isU, isPick, pkC, pkA, isCall, AS.pt, AS.kn, AS.ev, look, eatsOf, td0, td1, td2, td3, td4, td5, td6, Option.bind, Option.getD, Option.isSome, List.map, List.getElem?_cons_zero, List.getElem?_cons_succ, List.nodup_nil, ↓reduceIte, Nat.reduceLT, Nat.reduceEqDiff, or_false, Bool.false_eq_true, reduceCtorEq, and_self, Try.results186]
theorem con_allTerms (p : Tm → Bool) (h : FuncId) (B : Nat) (hB : B ≤ 1000000000) (hp : ∀ t : Tm, szL (tmC t) ≤ B → Con Try.prog h [.ag (tmC t)] [.one (.bool (p t))]) : ∀ t : Tm, szL (tmC t) ≤ B → Con Try.prog 157 [.ag (tmC t), .fn h []] [.one (.bool (allTm p t))] := by
  refine Tm.ind fun t ih hz => ?_
  obtain ⟨h5, h7, h8⟩ := sz_parts hz
  have h0 := hp t hz
  have hin : ∀ x ∈ t.args, Con Try.prog 201 [.ag (tmC x), .rf [.fn h []]] [.one (.bool (!allTm p x))] := fun x hx => by
    have hr := ih x hx (by
      have := szL_mem tmC t.args x hx
      rw [← tmsC_flat] at this
      omega)
    obtain ⟨b, hb⟩ : ∃ b, b = allTm p x := ⟨_, rfl⟩
    rw [← hb] at hr ⊢
    refine con_run Try.func201 rfl rfl (by simp [Try.ntmps201]) ?_
    simp only [argT, argA, argAs, tysD, tmsD, eq_self, xRun, vE, vP, vSub, vLoad, isCutO, gN, isPick, isCall, AS.pt, AS.ev, AS.box, look, cav, avB, AV.cells, AV.whole, AV.one, td0, td1, td2, td3, td4, td5, td6, Option.getD, Option.isSome, List.map, List.take, List.drop, List.length, List.getElem?_cons_zero, List.all, ↓reduceIte, Nat.reduceLT, Nat.reduceAdd, Nat.reduceEqDiff, Nat.zero_add, true_and, Bool.and_true, Bool.false_eq_true, Nat.succ_ne_zero, Nat.le_refl, argAs, argA, tmC_eq, Try.ntmps201]
    refine sw_call (hr) rfl (aAs_ok ?_) ?_ (sw_run 200 _ _ _ ?_)
    · simp only [aAs, aA, aDs, aD, tysD, tmsD, AS.ev, look, Option.getD, List.map, List.append_nil, ↓reduceIte, Nat.reduceEqDiff, eq_self, and_self, tmC_eq]
    · simp only [okR]
    simp only [mkR, flatD, packA, retA, List.headD_cons, fQ, xRet, rPs, xRes, flatA, rD, eq_self, xRun, vE, vP, vNot, isCutO, gN, isPick, isCall, AS.pt, AS.ev, look, eatsOf, td0, td1, td2, td3, td4, td5, td6, Option.getD, List.map, List.nodup_nil, ↓reduceIte, Nat.reduceLT, or_false, Bool.false_eq_true, reduceCtorEq, and_self, Try.results201]
  have hc := con_ContTm (fun x => !allTm p x) 201 h t.args (by omega) hin
  rw [allTm_eq, allTms_any]
  obtain ⟨b, hb⟩ : ∃ b, b = p t := ⟨_, rfl⟩
  obtain ⟨c, hcc⟩ : ∃ c, c = t.args.any fun x => !allTm p x := ⟨_, rfl⟩
  rw [← hb] at h0 ⊢
  rw [← hcc] at hc ⊢
  refine con_run Try.func157 rfl rfl (by simp [Try.ntmps157]) ?_
  simp only [argT, argA, argAs, tysD, tmsD, eq_self, xRun, vE, vP, vSub, vLoad, isCutO, gN, isPick, isCall, AS.pt, AS.ev, AS.box, look, cav, avB, AV.cells, AV.whole, AV.one, td0, td1, td2, td3, td4, td5, td6, Option.getD, Option.isSome, List.map, List.take, List.drop, List.length, List.getElem?_cons_zero, List.all, ↓reduceIte, Nat.reduceLT, Nat.reduceAdd, Nat.reduceEqDiff, Nat.zero_add, true_and, Bool.and_true, Bool.false_eq_true, reduceCtorEq, Nat.succ_ne_zero, Nat.le_refl, argAs, argA, tmC_eq, Try.ntmps157]
  refine sw_call (h0) rfl (aAs_ok ?_) ?_ (sw_run 200 _ _ _ ?_)
  · simp only [aAs, aA, aDs, aD, tysD, tmsD, AS.ev, look, Option.getD, List.map, List.append_nil, ↓reduceIte, eq_self, and_self, tmC_eq]
  · simp only [okR]
  cases b
  · simp only [mkR, flatD, packA, retA, List.headD_cons, fQ, xRet, rPs, xRes, flatA, rD, eq_self, xRun, vE, vP, isCutO, isB, bv, gT, gW, gN, gV, isU, isPick, pkC, pkB, isCall, AS.pt, AS.kn, AS.ev, look, cav, eatsOf, td0, td1, td2, td3, td4, td5, td6, Option.bind, Option.getD, Option.isSome, List.map, List.getElem?_cons_zero, List.getElem?_cons_succ, List.nodup_nil, ↓reduceIte, Nat.reduceLT, Nat.reduceEqDiff, or_false, Bool.false_and, Bool.not_true, Bool.false_eq_true, reduceCtorEq, and_self, Try.results157]
  simp only [mkR, flatD, packA, retA, List.headD_cons, eq_self, xRun, vE, vP, vSub, vLoad, vFld, isCutO, isB, bv, gT, gW, gN, gV, isU, isPick, isCall, AS.pt, AS.kn, AS.ev, look, td0, td1, td2, td3, td4, td5, td6, Option.bind, Option.getD, Option.isSome, List.map, List.length, List.getElem?_cons_zero, List.getElem?_cons_succ, ↓reduceIte, Nat.reduceLT, Nat.reduceEqDiff, Nat.zero_add, ne_eq, not_false_eq_true, true_and, Bool.true_and, Bool.false_eq_true, reduceCtorEq, and_self, Nat.succ_ne_zero]
  refine sw_call (hc) rfl (aAs_ok ?_) ?_ (sw_run 200 _ _ _ ?_)
  · simp only [aAs, aA, aD, AS.ev, look, Option.getD, List.map, List.append_nil, ↓reduceIte, Nat.reduceEqDiff, eq_self, and_self]
  · simp only [okR]
  simp only [mkR, flatD, packA, retA, List.headD_cons, fQ, xRet, rPs, xRes, flatA, rD, eq_self, xRun, vE, vP, vNot, isCutO, isB, bv, gT, gW, gN, gV, isU, isPick, pkC, pkA, isCall, AS.pt, AS.kn, AS.ev, look, eatsOf, td0, td1, td2, td3, td4, td5, td6, Option.bind, Option.getD, Option.isSome, List.map, List.getElem?_cons_zero, List.getElem?_cons_succ, List.nodup_nil, ↓reduceIte, Nat.reduceLT, Nat.reduceEqDiff, or_false, Bool.false_eq_true, reduceCtorEq, and_self, Try.results157]
def shTy (t : Ty) : Bool := shB t.kind t.args.length
mutual
theorem formT_all : ∀ t : Ty, formT t = allTy shTy t
  | .mk k xs => by rw [formT, allTy, formTs_all xs]; show _ = (shB k xs.length && _); rw [Bool.and_comm]
theorem formTs_all : ∀ xs : List Ty, formTs xs = allTys shTy xs
  | [] => by rw [formTs, allTys]
  | x :: xs => by rw [formTs, allTys, formT_all x, formTs_all xs]
end
theorem con_ValidNode (t : Ty) (hz : szL (tyC t) ≤ 1000000000) : Con Try.prog 187 [.ag (tyC t)] [.one (.bool (shTy t))] := by
  have hw := con_within t.kind 1 4
  obtain ⟨kd, xs⟩ := t
  simp only [shTy, Ty.kind, Ty.args] at hw ⊢
  by_cases hin : 1 ≤ kd ∧ kd ≤ 4
  case neg =>
    replace hw : Con Try.prog 113 [.one (.int kd), .one (.int 1), .one (.int 4)] [.one (.bool false)] := by
      have e1 : (decide (1 ≤ kd) && decide (kd ≤ 4)) = false := by simpa using hin
      exact e1 ▸ hw
    have e2 : shB kd xs.length = false := by unfold shB; rw [if_neg (by omega), if_neg (by omega), if_neg (by omega)]
    rw [e2]
    refine con_run Try.func187 rfl rfl (by simp [Try.ntmps187]) ?_
    simp only [argT, argA, eq_self, xRun, vE, vP, isCutO, gN, isPick, isCall, AS.pt, AS.ev, AS.box, look, cav, avB, AV.cells, AV.whole, AV.one, td0, td1, td2, td3, td4, td5, td6, Option.getD, List.map, List.all, ↓reduceIte, Nat.reduceLT, Nat.zero_add, true_and, Bool.and_true, Bool.false_eq_true, tyC, Try.ntmps187]
    refine sw_drawn (.cons 0 true (.cons 1 true (.cons 2 false (.cons 3 true (.cons 4 true (.cons 5 true (.cons 6 true (.cons 8 true (.cons 9 true (.cons 10 true (.cons 7 false (.cons 11 true (.cons 12 true (.cons 13 true (.cons 14 true (.cons 15 true (.nil))))))))))))))))) (by kernel_rfl) fQ_panic (by kernel_rfl) (sw_run 200 _ _ _ ?_)
    simp only [eq_self, xRun, vP, vSub, vLoad, vFld, gN, isPick, isCall, AS.pt, AS.ev, look, td0, td1, td2, td3, td4, td5, td6, Option.getD, Option.isSome, List.getElem?_cons_zero, List.getElem?_cons_succ, ↓reduceIte, Nat.reduceLT, Nat.reduceEqDiff, Nat.add_zero, ne_eq, not_false_eq_true, true_and, Bool.false_eq_true, Nat.succ_ne_zero]
    refine sw_callD (hw) rfl (aAs_ok ?_) ?_ (sw_run 200 _ _ _ ?_)
    · simp only [aAs, aA, aD, AS.ev, look, cav, Option.getD, List.map, List.append_nil, ↓reduceIte, eq_self, and_self]
    · simp only [okR]
    simp only [mkR, flatD, packA, retA, List.headD_cons, fQ, xRet, rPs, xRes, flatA, rD, eq_self, xRun, vP, isB, bv, gT, gW, gN, gV, isU, isPick, pkC, pkB, AS.pt, AS.kn, AS.ev, look, cav, eatsOf, td0, td1, td2, td3, td4, td5, td6, Option.bind, Option.getD, Option.isSome, List.map, List.getElem?_cons_zero, List.getElem?_cons_succ, List.nodup_nil, ↓reduceIte, Nat.reduceLT, Nat.reduceEqDiff, or_false, Bool.not_true, Bool.false_eq_true, reduceCtorEq, and_self, Try.results187]
  replace hw : Con Try.prog 113 [.one (.int kd), .one (.int 1), .one (.int 4)] [.one (.bool true)] := by
    have e1 : (decide (1 ≤ kd) && decide (kd ≤ 4)) = true := by simpa using hin
    exact e1 ▸ hw
  obtain ⟨h1, h2⟩ := hin
  rcases (by omega : kd = 1 ∨ kd = 2 ∨ kd = 3 ∨ kd = 4) with rfl | rfl | rfl | rfl
  all_goals
    simp only [shB]
    refine con_run Try.func187 rfl rfl (by simp [Try.ntmps187]) ?_
    simp only [argT, argA, eq_self, xRun, vE, vP, isCutO, gN, isPick, isCall, AS.pt, AS.ev, AS.box, look, cav, avB, AV.cells, AV.whole, AV.one, td0, td1, td2, td3, td4, td5, td6, Option.getD, List.map, List.all, ↓reduceIte, Nat.reduceLT, Nat.zero_add, true_and, or_false, or_true, Bool.and_true, Bool.false_eq_true, Int.reduceEq, tyC, Try.ntmps187]
    refine sw_drawn (.cons 0 true (.cons 1 true (.cons 2 false (.cons 3 true (.cons 4 true (.cons 5 true (.cons 6 true (.cons 8 true (.cons 9 true (.cons 10 true (.cons 7 false (.cons 11 true (.cons 12 true (.cons 13 true (.cons 14 true (.cons 15 true (.nil))))))))))))))))) (by kernel_rfl) fQ_panic (by kernel_rfl) (sw_run 200 _ _ _ ?_)
    simp only [eq_self, xRun, vP, vSub, vLoad, vFld, gN, isPick, isCall, AS.pt, AS.ev, look, td0, td1, td2, td3, td4, td5, td6, Option.getD, Option.isSome, List.getElem?_cons_zero, List.getElem?_cons_succ, ↓reduceIte, Nat.reduceLT, Nat.reduceEqDiff, Nat.add_zero, ne_eq, not_false_eq_true, true_and, Bool.false_eq_true, Nat.succ_ne_zero]
    refine sw_callD (hw) rfl (aAs_ok ?_) ?_ (sw_run 200 _ _ _ ?_)
    · simp only [aAs, aA, aD, AS.ev, look, cav, Option.getD, List.map, List.append_nil, ↓reduceIte, eq_self, and_self]
    · simp only [okR]
    simp only [mkR, flatD, packA, retA, List.headD_cons, fQ, rowD, xRet, rPs, xRes, flatA, rD, eq_self, xRun, vE, vP, vSub, vLoad, vFld, vIdx, vBin, vBinT, isAg, isBo, vLen, vRow, xFill, isB, bv, gT, gW, gN, gV, isU, isPick, pkC, pkA, isCall, AS.pt, AS.kn, AS.ev, AS.mk', AS.owf, AS.rd, kill, look, cav, avO, setRowG, AV.cells, AV.whole, AV.one, cD, cDs, eatsOf, dpOf, td0, td1, td2, td3, td4, td5, td6, Option.bind, Option.getD, Option.isSome, List.map, List.take, List.drop, List.length, List.getElem?_cons_zero, List.getElem?_cons_succ, List.set, List.foldr, List.all, List.replicate, List.nodup_nil, ↓reduceIte, Nat.reduceLT, Nat.reduceAdd, Nat.reduceLeDiff, Nat.reduceEqDiff, Nat.zero_add, Nat.add_zero, Nat.mul_one, ne_eq, not_false_eq_true, true_and, and_true, or_false, or_true, Bool.and_true, Bool.false_eq_true, id_eq, reduceCtorEq, Int.reduceLT, Int.reduceLE, Int.reduceSub, Int.reduceNeg, Int.reduceToNat, Int.toNat_zero, Int.toNat_one, Int.le_refl, and_self, Nat.succ_ne_zero, Nat.le_refl, rowAt, inI, Int.reduceToNat, Try.results187]
    omega
theorem con_ValidTyI (t : Ty) (hz : szL (tyC t) ≤ 1000000000) : Con Try.prog 118 [.ag (tyC t)] [.one (.bool (vTy t))] := by
  have h1 := con_SizeTyI t hz
  have h2 := con_DepthTyI t hz
  have h3 := con_allTypes shTy 187 1000000000 (Nat.le_refl _) (fun t h => con_ValidNode t h) t hz
  unfold vTy
  rw [formT_all]
  obtain ⟨c, hc⟩ : ∃ c, c = allTy shTy t := ⟨_, rfl⟩
  rw [← hc] at h3 ⊢
  refine con_run Try.func118 rfl rfl (by simp [Try.ntmps118]) ?_
  simp only [argT, argA, tysD, eq_self, xRun, vE, vP, vSub, vLoad, isCutO, gN, isPick, isCall, AS.pt, AS.ev, AS.box, look, cav, avB, AV.cells, AV.whole, AV.one, td0, td1, td2, td3, td4, td5, td6, Option.getD, List.map, List.take, List.drop, List.length, List.all, ↓reduceIte, Nat.reduceLT, Nat.reduceAdd, Nat.reduceEqDiff, Nat.zero_add, true_and, Bool.and_true, Bool.false_eq_true, Nat.le_refl, tyC_eq, Try.ntmps118]
  refine sw_call (h1) rfl (aAs_ok ?_) ?_ (sw_run 200 _ _ _ ?_)
  · simp only [aAs, aA, aDs, aD, tysD, AS.ev, look, Option.getD, List.map, List.append_nil, ↓reduceIte, eq_self, and_self, tyC_eq]
  · simp only [okR]
  by_cases e1 : (szT t : Int) ≤ 30
  case neg => simp only [mkR, flatD, packA, retA, List.headD_cons, fQ, xRet, rPs, xRes, flatA, rD, eq_self, xRun, vE, vP, vBin, vBinT, isAg, isBo, isCutO, isB, bv, gT, gW, gN, gV, isU, isPick, pkC, pkB, isCall, AS.pt, AS.kn, AS.ev, look, cav, eatsOf, td0, td1, td2, td3, td4, td5, td6, Option.bind, Option.getD, Option.isSome, List.map, List.getElem?_cons_zero, List.getElem?_cons_succ, List.nodup_nil, ↓reduceIte, Nat.reduceLT, Nat.reduceEqDiff, or_false, Bool.false_and, Bool.not_true, Bool.false_eq_true, reduceCtorEq, decide_false, and_self, e1, Try.results118]
  simp only [mkR, flatD, packA, retA, List.headD_cons, eq_self, xRun, vE, vP, vSub, vLoad, vBin, vBinT, isAg, isBo, isCutO, isB, bv, gT, gW, gN, gV, isU, isPick, isCall, AS.pt, AS.kn, AS.ev, look, cav, td0, td1, td2, td3, td4, td5, td6, Option.bind, Option.getD, Option.isSome, List.take, List.drop, List.length, List.getElem?_cons_zero, List.getElem?_cons_succ, ↓reduceIte, Nat.reduceLT, Nat.reduceAdd, Nat.reduceEqDiff, Nat.zero_add, true_and, Bool.true_and, Bool.false_eq_true, decide_true, and_self, Nat.le_refl, eq_true e1]
  refine sw_call (h2) rfl (aAs_ok ?_) ?_ (sw_run 200 _ _ _ ?_)
  · simp only [aAs, aA, aDs, aD, tysD, AS.ev, look, Option.getD, List.map, List.append_nil, ↓reduceIte, Nat.reduceEqDiff, eq_self, and_self, tyC_eq]
  · simp only [okR]
  by_cases e2 : (depT t : Int) ≤ 8
  case neg => simp only [mkR, flatD, packA, retA, List.headD_cons, fQ, xRet, rPs, xRes, flatA, rD, eq_self, xRun, vE, vP, vBin, vBinT, isAg, isBo, isCutO, isB, bv, gT, gW, gN, gV, isU, isPick, pkC, pkA, pkB, isCall, AS.pt, AS.kn, AS.ev, look, cav, eatsOf, td0, td1, td2, td3, td4, td5, td6, Option.bind, Option.getD, Option.isSome, List.map, List.getElem?_cons_zero, List.getElem?_cons_succ, List.nodup_nil, ↓reduceIte, Nat.reduceLT, Nat.reduceEqDiff, or_false, Bool.false_and, Bool.not_true, Bool.false_eq_true, reduceCtorEq, decide_false, and_self, e2, Try.results118]
  simp only [mkR, flatD, packA, retA, List.headD_cons, eq_self, xRun, vE, vP, vSub, vLoad, vBin, vBinT, isAg, isBo, isCutO, isB, bv, gT, gW, gN, gV, isU, isPick, pkC, pkA, isCall, AS.pt, AS.kn, AS.ev, look, cav, td0, td1, td2, td3, td4, td5, td6, Option.bind, Option.getD, Option.isSome, List.take, List.drop, List.length, List.getElem?_cons_zero, List.getElem?_cons_succ, ↓reduceIte, Nat.reduceLT, Nat.reduceAdd, Nat.reduceEqDiff, Nat.zero_add, true_and, Bool.true_and, Bool.false_eq_true, decide_true, and_self, Nat.le_refl, eq_true e2]
  refine sw_call (h3) rfl (aAs_ok ?_) ?_ (sw_run 200 _ _ _ ?_)
  · simp only [aAs, aA, aDs, aD, tysD, AS.ev, look, Option.getD, List.map, List.append_nil, ↓reduceIte, Nat.reduceEqDiff, eq_self, and_self, tyC_eq]
  · simp only [okR]
  simp only [mkR, flatD, packA, retA, List.headD_cons, fQ, xRet, rPs, xRes, flatA, rD, eq_self, xRun, vE, vP, isCutO, isB, bv, gN, isPick, pkC, pkA, isCall, AS.pt, AS.ev, look, eatsOf, td0, td1, td2, td3, td4, td5, td6, Option.getD, List.map, List.nodup_nil, ↓reduceIte, Nat.reduceLT, Nat.reduceEqDiff, or_false, Bool.false_eq_true, reduceCtorEq, and_self, Try.results118]
end Go.Proofs.Ytpmnlbipbiepcaa
