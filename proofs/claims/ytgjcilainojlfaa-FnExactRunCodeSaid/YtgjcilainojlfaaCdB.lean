/-
  Whether code is one; bits.
-/
import Derived.Test.YtgjcilainojlfaaInsV
import Derived.Test.YtgjcilainojlfaaPtr
namespace Go.Proofs.Ytgjcilainojlfaa
open Go.RowKit
set_option linter.unusedVariables false
set_option linter.unusedSimpArgs false
set_option maxRecDepth 20000
def ffI (p : Ins → Bool) : List Ins → Int → Int
  | [], _ => -1
  | x :: xs, i => if p x = true then i else ffI p xs (i + 1)
theorem ffI_step (p : Ins → Bool) (xs : List Ins) (k : Nat) (h : k < xs.length) : ffI p (xs.drop k) k = if p xs[k]! = true then (k : Int) else ffI p (xs.drop (k + 1)) ((k + 1 : Nat) : Int) := by
  rw [List.drop_eq_getElem_cons h, getElem!_pos xs k h]; rfl
theorem ffI_end (p : Ins → Bool) (xs : List Ins) (k : Nat) (h : xs.length ≤ k) (i : Int) : ffI p (xs.drop k) i = -1 := by rw [List.drop_of_length_le h]; rfl
theorem ffI_any (p : Ins → Bool) : ∀ (xs : List Ins) (i : Int), 0 ≤ i → decide (0 ≤ ffI p xs i) = xs.any p
  | [], i, _ => rfl
  | x :: xs, i, h => by
    rw [ffI, List.any_cons]
    cases e : p x
    · rw [if_neg (by simp), ffI_any p xs (i + 1) (by omega)]; rfl
    · rw [if_pos rfl, decide_eq_true h]; rfl
theorem con_IndexFuncX (p : Ins → Bool) (g : FuncId) (xs : List Ins) (hl : xs.length ≤ 1000000000) (hp : ∀ x ∈ xs, Con Try.prog g [.ag (insC x)] [.one (.bool (p x))]) : Con Try.prog 124 [.one (inssD xs), .fn g []] [.one (.int (ffI p xs 0))] := by
  refine con_run Try.func124 rfl rfl (by simp [Try.ntmps124]) ?_
  simp only [argT, argA, argAs, eq_self, xRun, vE, vP, vLen, isCutO, gN, isPick, isCall, AS.pt, AS.ev, AS.rd, look, cav, avB, td0, td1, td2, td3, td4, td5, td6, Option.getD, ↓reduceIte, Nat.reduceLT, Nat.zero_add, true_and, Bool.false_eq_true, reduceCtorEq, Int.reduceNeg, inssD, Try.ntmps124]
  refine sw_loop (fun k : Nat => k ≤ xs.length ∧ ffI p (xs.drop k) k = ffI p xs 0) (fun k => ⟨19, [(8, .i k), (7, .i xs.length), (0, .br (.rows 2 xs.length (flC insC xs))), (1, .fn g [])], [], [], 0, []⟩) (fun k => xs.length - k) 0 id ⟨Nat.zero_le _, rfl⟩ ?_ ?_
  · simp only [Sub, subT, subB, subO, subP, inj, AV.ren, AV.rens, AV.lt, AV.lts, eq_self, look, td0, td1, td2, td3, td4, td5, td6, List.map, List.nodup_nil, ↓reduceIte, Nat.reduceEqDiff, reduceCtorEq, Int.natCast_zero, and_self, Nat.succ_ne_zero, Int.natCast_zero]
  · rintro k ⟨hk, hf⟩
    refine sw_run 200 _ _ _ ?_
    by_cases hlt : k < xs.length
    · have hi : (k : Int) < (xs.length : Int) := by omega
      have hR := flC_row insC_len xs k hlt
      have hpc := hp _ (mem_bang hlt)
      rw [ffI_step p xs k hlt] at hf
      obtain ⟨b, hb⟩ : ∃ b, b = p xs[k]! := ⟨_, rfl⟩
      rw [← hb] at hf hpc
      simp only [insC] at hR hpc
      simp only [rowD, eq_self, xRun, vE, vP, vSub, vLoad, vIdx, vBin, vBinT, isAg, isBo, isCutO, isB, bv, gN, isPick, isCall, AS.pt, AS.ev, look, avB, td0, td1, td2, td3, td4, td5, td6, Option.getD, List.map, List.take, List.drop, List.length, ↓reduceIte, Nat.reduceLT, Nat.reduceAdd, Nat.reduceEqDiff, Nat.zero_add, true_and, Bool.false_eq_true, reduceCtorEq, Int.toNat_natCast, Int.reduceNeg, Int.natCast_nonneg, decide_true, and_self, Nat.succ_ne_zero, Nat.le_refl, hi, hR]
      refine sw_call (hpc) rfl (aAs_ok ?_) ?_ (sw_run 200 _ _ _ ?_)
      · simp only [aAs, aA, aDs, aD, AS.ev, look, Option.getD, List.map, List.append_nil, ↓reduceIte, eq_self, and_self]
      · simp only [okR]
      cases b
      · rw [if_neg (by simp)] at hf
        simp only [mkR, flatD, packA, retA, List.headD_cons, qLp, eq_self, xRun, vE, vP, vBin, vBinT, isAg, isBo, isCutO, isB, bv, gN, isPick, isCall, AS.pt, AS.ev, look, cav, td0, td1, td2, td3, td4, td5, td6, Option.getD, ↓reduceIte, Nat.reduceLT, Nat.reduceEqDiff, true_and, Bool.false_eq_true, qLp]
        refine ⟨by unfold inI; omega, k + 1, id, ⟨by omega, hf⟩, by omega, ?_⟩
        simp only [Sub, subT, subB, subO, subP, inj, AV.ren, AV.rens, AV.lt, AV.lts, eq_self, look, td0, td1, td2, td3, td4, td5, td6, List.map, List.nodup_nil, ↓reduceIte, Nat.reduceEqDiff, reduceCtorEq, and_self, Nat.succ_ne_zero, cast1]
      · rw [if_pos rfl] at hf
        simp only [mkR, flatD, packA, retA, List.headD_cons, fQ, qLp, xRet, rPs, xRes, flatA, rD, eq_self, xRun, vE, vP, isCutO, isB, bv, gN, isPick, isCall, AS.pt, AS.ev, look, eatsOf, td0, td1, td2, td3, td4, td5, td6, Option.getD, List.map, List.nodup_nil, ↓reduceIte, Nat.reduceLT, Nat.reduceEqDiff, true_and, and_true, or_false, Bool.false_eq_true, reduceCtorEq, Try.results124]
        exact hf
    · have hi : ¬ (k : Int) < (xs.length : Int) := by omega
      rw [ffI_end p xs k (by omega)] at hf
      simp only [qLp, eq_self, xRun, vE, vP, vBin, vBinT, isAg, isBo, isCutO, isB, bv, gN, isPick, isCall, popTo, AS.pt, AS.ev, look, td0, td1, td2, td3, td4, td5, td6, Option.getD, Option.isSome, ↓reduceIte, Nat.reduceLT, Nat.reduceEqDiff, true_and, Bool.false_eq_true, Int.reduceNeg, decide_false, hi]
      refine sw_run 200 _ _ _ ?_
      simp only [fQ, xRet, rPs, xRes, flatA, rD, eq_self, xRun, vE, vP, isCutO, gN, isPick, isCall, AS.pt, AS.ev, look, cav, eatsOf, td0, td1, td2, td3, td4, td5, td6, List.map, List.nodup_nil, ↓reduceIte, Nat.reduceLT, or_false, Bool.false_eq_true, reduceCtorEq, Int.reduceNeg, and_self, ← hf, Try.results124]
theorem con_ContainsFuncX (p : Ins → Bool) (g : FuncId) (xs : List Ins) (hl : xs.length ≤ 1000000000) (hp : ∀ x ∈ xs, Con Try.prog g [.ag (insC x)] [.one (.bool (p x))]) : Con Try.prog 78 [.one (inssD xs), .fn g []] [.one (.bool (xs.any p))] := by
  have hc := con_IndexFuncX p g xs hl hp
  rw [← ffI_any p xs 0 (by omega)]
  simp only [inssD] at hc ⊢
  refine con_run Try.func78 rfl rfl (by simp [Try.ntmps78]) ?_
  simp only [argT, argA, argAs, eq_self, xRun, vE, vP, isCutO, gN, isPick, isCall, AS.pt, AS.ev, look, cav, avB, td0, td1, td2, td3, td4, td5, td6, Option.getD, ↓reduceIte, Nat.reduceLT, Nat.reduceEqDiff, Nat.zero_add, true_and, Bool.false_eq_true, reduceCtorEq, Nat.succ_ne_zero, Try.ntmps78]
  refine sw_call (hc) rfl (aAs_ok ?_) ?_ (sw_run 200 _ _ _ ?_)
  · simp only [aAs, aA, aD, AS.ev, look, Option.getD, List.map, List.append_nil, ↓reduceIte, Nat.reduceEqDiff, eq_self, and_self]
  · simp only [okR]
  simp only [mkR, flatD, packA, retA, List.headD_cons, fQ, xRet, rPs, xRes, flatA, rD, eq_self, xRun, vE, vP, vBin, vBinT, isAg, isBo, isCutO, gN, isPick, isCall, AS.pt, AS.ev, look, cav, eatsOf, td0, td1, td2, td3, td4, td5, td6, Option.getD, List.map, List.nodup_nil, ↓reduceIte, Nat.reduceLT, or_false, Bool.false_eq_true, reduceCtorEq, and_self, Try.results78]
theorem con_notIns (x : Ins) : Con Try.prog 79 [.ag (insC x)] [.one (.bool (!insB x))] := by
  have h := con_IsInstrI x
  simp only [insC] at h ⊢
  refine con_run Try.func79 rfl rfl (by simp [Try.ntmps79]) ?_
  simp only [argT, argA, eq_self, xRun, vE, vP, vSub, vLoad, isCutO, gN, isPick, isCall, AS.pt, AS.ev, AS.box, look, cav, avB, AV.cells, AV.whole, AV.one, td0, td1, td2, td3, td4, td5, td6, Option.getD, List.map, List.take, List.drop, List.length, List.all, ↓reduceIte, Nat.reduceLT, Nat.reduceAdd, Nat.reduceEqDiff, Nat.zero_add, true_and, Bool.and_true, Bool.false_eq_true, Nat.le_refl, Try.ntmps79]
  refine sw_call (h) rfl (aAs_ok ?_) ?_ (sw_run 200 _ _ _ ?_)
  · simp only [aAs, aA, aDs, aD, AS.ev, look, Option.getD, List.map, List.append_nil, ↓reduceIte, eq_self, and_self]
  · simp only [okR]
  simp only [mkR, flatD, packA, retA, List.headD_cons, fQ, xRet, rPs, xRes, flatA, rD, eq_self, xRun, vE, vP, vNot, isCutO, gN, isPick, isCall, AS.pt, AS.ev, look, eatsOf, td0, td1, td2, td3, td4, td5, td6, Option.getD, List.map, List.nodup_nil, ↓reduceIte, Nat.reduceLT, or_false, Bool.false_eq_true, reduceCtorEq, and_self, Try.results79]
def codeB (xs : List Ins) : Bool := decide (xs.length ≤ 300) && xs.all insB
theorem any_not (xs : List Ins) : xs.any (fun x => !insB x) = !xs.all insB := by
  induction xs with
  | nil => rfl
  | cons x xs ih => rw [List.any_cons, List.all_cons, ih]; cases insB x <;> rfl
theorem con_areInstrs (xs : List Ins) (hl : xs.length ≤ 1000000000) : Con Try.prog 44 [.one (inssD xs)] [.one (.bool (codeB xs))] := by
  have hc := con_ContainsFuncX (fun x => !insB x) _ xs hl (fun x _ => con_notIns x)
  rw [any_not] at hc
  unfold codeB
  generalize xs.all insB = b at *
  simp only [inssD] at hc ⊢
  by_cases hk : xs.length ≤ 300
  · have hi : (xs.length : Int) ≤ 300 := by omega
    rw [decide_eq_true hk]
    refine con_run Try.func44 rfl rfl (by simp [Try.ntmps44]) ?_
    simp only [argT, argA, eq_self, xRun, vE, vP, vBin, vBinT, isAg, isBo, vLen, isCutO, isB, bv, gT, gW, gN, gV, isU, isPick, isCall, AS.pt, AS.kn, AS.ev, AS.rd, look, cav, avB, td0, td1, td2, td3, td4, td5, td6, Option.bind, Option.getD, Option.isSome, List.getElem?_cons_zero, List.getElem?_cons_succ, ↓reduceIte, Nat.reduceLT, Nat.reduceEqDiff, true_and, Bool.true_and, Bool.false_eq_true, reduceCtorEq, decide_true, and_self, hi, Try.ntmps44]
    refine sw_call (hc) rfl (aAs_ok ?_) ?_ (sw_run 200 _ _ _ ?_)
    · simp only [aAs, aA, aD, AS.ev, look, Option.getD, List.map, List.append_nil, ↓reduceIte, Nat.reduceEqDiff, eq_self, and_self]
    · simp only [okR]
    cases b <;> simp only [mkR, flatD, packA, retA, List.headD_cons, fQ, xRet, rPs, xRes, flatA, rD, eq_self, xRun, vE, vP, vNot, isCutO, isB, bv, gT, gW, gN, gV, isU, isPick, pkC, pkA, isCall, AS.pt, AS.kn, AS.ev, look, eatsOf, td0, td1, td2, td3, td4, td5, td6, Option.bind, Option.getD, Option.isSome, List.map, List.getElem?_cons_zero, List.getElem?_cons_succ, List.nodup_nil, ↓reduceIte, Nat.reduceLT, Nat.reduceEqDiff, or_false, Bool.not_true, Bool.not_false, Bool.false_eq_true, reduceCtorEq, and_self, Try.results44]
  · have hi : ¬ (xs.length : Int) ≤ 300 := by omega
    rw [decide_eq_false hk]
    refine con_run Try.func44 rfl rfl (by simp [Try.ntmps44]) ?_
    simp only [argT, argA, fQ, xRet, rPs, xRes, flatA, rD, eq_self, xRun, vE, vP, vBin, vBinT, isAg, isBo, vLen, isCutO, isB, bv, gT, gW, gN, gV, isU, isPick, pkC, pkB, isCall, AS.pt, AS.kn, AS.ev, AS.rd, look, cav, avB, eatsOf, td0, td1, td2, td3, td4, td5, td6, Option.bind, Option.getD, Option.isSome, List.map, List.getElem?_cons_zero, List.getElem?_cons_succ, List.nodup_nil, ↓reduceIte, Nat.reduceLT, Nat.reduceEqDiff, or_false, Bool.false_and, Bool.not_true, Bool.false_eq_true, reduceCtorEq, decide_false, and_self, hi, Try.ntmps44, Try.results44]
theorem con_bitI (b : Bool) : Con Try.prog 160 [.one (.bool b)] [.one (.int (if b = true then 1 else 0))] := by
  cases b
  all_goals
    refine con_run Try.func160 rfl rfl (by simp [Try.ntmps160]) ?_
    simp only [argT, argA, fQ, xRet, rPs, xRes, flatA, rD, eq_self, xRun, vE, vP, isCutO, isB, bv, gN, isPick, isCall, AS.pt, AS.ev, look, cav, avB, eatsOf, td0, td1, td2, td3, td4, td5, td6, Option.getD, List.map, List.nodup_nil, ↓reduceIte, Nat.reduceLT, or_false, Bool.false_eq_true, reduceCtorEq, and_self, Bool.false_eq_true, Try.ntmps160, Try.results160]
theorem con_l23Code (xs : List Ins) (hl : xs.length ≤ 1000000000) : Con Try.prog 40 [.one (inssD xs)] [.one (.bool (codeB xs))] := by
  obtain ⟨R, hR⟩ : ∃ R, R = codeB xs := ⟨_, rfl⟩
  rw [← hR]
  unfold codeB at hR
  refine con_run Try.func40 rfl rfl (by simp [Try.ntmps40]) ?_
  simp only [argT, argA, eq_self, xRun, vE, vP, isCutO, gN, isPick, isCall, AS.pt, AS.ev, cav, avB, td0, td1, td2, td3, td4, td5, td6, ↓reduceIte, Nat.reduceLT, true_and, Bool.false_eq_true, inssD, Try.ntmps40]
  refine sw_loop (fun k : Nat => k ≤ xs.length ∧ ∀ j, j < k → insB xs[j]! = true) (fun k => ⟨19, [(3, .i k), (0, .br (.rows 2 xs.length (flC insC xs)))], [], [], 0, []⟩) (fun k => xs.length - k) 0 id ⟨Nat.zero_le _, fun j hj => by omega⟩ ?_ ?_
  · simp only [Sub, subT, subB, subO, subP, inj, AV.ren, AV.lt, eq_self, look, td0, td1, td2, td3, td4, td5, td6, List.map, List.nodup_nil, ↓reduceIte, reduceCtorEq, Int.natCast_zero, and_self, Int.natCast_zero]
  · rintro k ⟨hk, ha⟩
    refine sw_run 200 _ _ _ ?_
    by_cases hlt : k < xs.length
    · have hi : (k : Int) < (xs.length : Int) := by omega
      have hr := flC_row insC_len xs k hlt
      have hc := con_IsInstrS xs[k]!
      obtain ⟨b, hb⟩ : ∃ b, b = insB xs[k]! := ⟨_, rfl⟩
      rw [← hb] at hc
      simp only [insC] at hr hc
      simp only [rowD, eq_self, xRun, vE, vP, vSub, vLoad, vIdx, vBin, vBinT, isAg, isBo, vLen, isCutO, isB, bv, gN, isPick, isCall, AS.pt, AS.ev, AS.rd, look, avB, td0, td1, td2, td3, td4, td5, td6, Option.getD, List.map, List.take, List.drop, List.length, ↓reduceIte, Nat.reduceLT, Nat.reduceAdd, Nat.reduceEqDiff, Nat.zero_add, true_and, Bool.false_eq_true, reduceCtorEq, Int.toNat_natCast, Int.natCast_nonneg, decide_true, and_self, Nat.le_refl, hi, hr]
      refine sw_call (hc) rfl (aAs_ok ?_) ?_ (sw_run 200 _ _ _ ?_)
      · simp only [aAs, aA, aDs, aD, AS.ev, look, Option.getD, List.map, List.append_nil, ↓reduceIte, eq_self, and_self]
      · simp only [okR]
      cases b
      · have hx : xs.all insB = false := by
          rw [Bool.eq_false_iff]
          intro e
          rw [List.all_eq_true] at e
          have := e _ (mem_bang hlt)
          rw [← hb] at this
          cases this
        rw [hx, Bool.and_false] at hR
        subst hR
        simp only [mkR, flatD, packA, retA, List.headD_cons, fQ, qLp, xRet, rPs, xRes, flatA, rD, eq_self, xRun, vE, vP, vNot, isCutO, isB, bv, gN, isPick, isCall, AS.pt, AS.ev, look, cav, eatsOf, td0, td1, td2, td3, td4, td5, td6, Option.getD, List.map, List.nodup_nil, ↓reduceIte, Nat.reduceLT, or_false, Bool.not_false, Bool.false_eq_true, reduceCtorEq, and_self, Try.results40]
      · simp only [mkR, flatD, packA, retA, List.headD_cons, qLp, eq_self, xRun, vE, vP, vBin, vBinT, isAg, isBo, vNot, isCutO, isB, bv, gN, isPick, isCall, AS.pt, AS.ev, look, cav, td0, td1, td2, td3, td4, td5, td6, Option.getD, ↓reduceIte, Nat.reduceLT, Nat.reduceEqDiff, true_and, Bool.not_true, Bool.false_eq_true, qLp]
        refine ⟨by unfold inI; omega, k + 1, id, ⟨by omega, fun j hj => ?_⟩, by omega, ?_⟩
        · by_cases e : j = k
          · rw [e]; exact hb.symm
          · exact ha j (by omega)
        · simp only [Sub, subT, subB, subO, subP, inj, AV.ren, AV.lt, eq_self, look, td0, td1, td2, td3, td4, td5, td6, List.map, List.nodup_nil, ↓reduceIte, reduceCtorEq, and_self, cast1]
    · have hi : ¬ (k : Int) < (xs.length : Int) := by omega
      have hx : xs.all insB = true := by
        rw [List.all_eq_true]
        intro x hx
        obtain ⟨j, hj, rfl⟩ := List.mem_iff_getElem.1 hx
        have := ha j (by omega)
        rwa [getElem!_pos xs j hj] at this
      rw [hx, Bool.and_true] at hR
      simp only [qLp, eq_self, xRun, vE, vP, vBin, vBinT, isAg, isBo, vLen, isCutO, isB, bv, gN, isPick, isCall, popTo, AS.pt, AS.ev, AS.rd, look, td0, td1, td2, td3, td4, td5, td6, Option.getD, Option.isSome, ↓reduceIte, Nat.reduceLT, Nat.reduceEqDiff, true_and, Bool.false_eq_true, reduceCtorEq, decide_false, hi]
      refine sw_run 200 _ _ _ ?_
      by_cases h3 : xs.length ≤ 300
      · have h3i : (xs.length : Int) ≤ 300 := by omega
        rw [decide_eq_true h3] at hR
        subst hR
        simp only [fQ, xRet, rPs, xRes, flatA, rD, eq_self, xRun, vE, vP, vBin, vBinT, isAg, isBo, vLen, isCutO, gN, isPick, isCall, AS.pt, AS.ev, AS.rd, look, cav, eatsOf, td0, td1, td2, td3, td4, td5, td6, Option.getD, List.map, List.nodup_nil, ↓reduceIte, Nat.reduceLT, or_false, Bool.false_eq_true, reduceCtorEq, decide_true, and_self, h3i, Try.results40]
      · have h3i : ¬ (xs.length : Int) ≤ 300 := by omega
        rw [decide_eq_false h3] at hR
        subst hR
        simp only [fQ, xRet, rPs, xRes, flatA, rD, eq_self, xRun, vE, vP, vBin, vBinT, isAg, isBo, vLen, isCutO, gN, isPick, isCall, AS.pt, AS.ev, AS.rd, look, cav, eatsOf, td0, td1, td2, td3, td4, td5, td6, Option.getD, List.map, List.nodup_nil, ↓reduceIte, Nat.reduceLT, or_false, Bool.false_eq_true, reduceCtorEq, decide_false, and_self, h3i, Try.results40]
theorem con_bitS (b : Bool) : Con Try.prog 159 [.one (.bool b)] [.one (.int (if b = true then 1 else 0))] := by
  cases b
  all_goals
    refine con_run Try.func159 rfl rfl (by simp [Try.ntmps159]) ?_
    simp only [argT, argA, fQ, xRet, rPs, xRes, flatA, rD, eq_self, xRun, vE, vP, isCutO, isB, bv, gN, isPick, isCall, AS.pt, AS.ev, look, cav, avB, eatsOf, td0, td1, td2, td3, td4, td5, td6, Option.getD, List.map, List.nodup_nil, ↓reduceIte, Nat.reduceLT, or_false, Bool.false_eq_true, reduceCtorEq, and_self, Bool.false_eq_true, Try.ntmps159, Try.results159]
end Go.Proofs.Ytgjcilainojlfaa
