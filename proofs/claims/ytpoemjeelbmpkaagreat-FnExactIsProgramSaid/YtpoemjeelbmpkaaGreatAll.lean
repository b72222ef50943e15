/-
  Sizes and depths of types, valid types of the reference, of both sides as far as they go.
-/
import Derived.Test.YtpoemjeelbmpkaaGreatTyC
import Derived.Test.YtpoemjeelbmpkaaGreatLst
import Derived.Test.YtpoemjeelbmpkaaGreatTmC
namespace Go.Proofs.YtpoemjeelbmpkaaGreat
open Go.RowKit
set_option linter.unusedVariables false
set_option linter.unusedSimpArgs false
set_option maxRecDepth 20000
mutual
def szT : Ty → Nat
  | .mk _ xs => 1 + szTs xs
def szTs : List Ty → Nat
  | [] => 0
  | x :: xs => szT x + szTs xs
end
mutual
def depT : Ty → Nat
  | .mk _ xs => depTs xs + 1
def depTs : List Ty → Nat
  | [] => 0
  | x :: xs => max (depT x) (depTs xs)
end
theorem szTs_app : ∀ (a b : List Ty), szTs (a ++ b) = szTs a + szTs b
  | [], b => by rw [List.nil_append, szTs]; omega
  | x :: a, b => by rw [List.cons_append, szTs, szTs, szTs_app a b]; omega
theorem depTs_app : ∀ (a b : List Ty), depTs (a ++ b) = max (depTs a) (depTs b)
  | [], b => by rw [List.nil_append, depTs]; omega
  | x :: a, b => by rw [List.cons_append, depTs, depTs, depTs_app a b]; omega
theorem szTs_snoc (xs : List Ty) (k : Nat) (h : k < xs.length) : szTs (xs.take (k + 1)) = szTs (xs.take k) + szT xs[k]! := by
  rw [take_snoc xs k h, szTs_app, szTs, szTs]; omega
theorem depTs_snoc (xs : List Ty) (k : Nat) (h : k < xs.length) : depTs (xs.take (k + 1)) = max (depTs (xs.take k)) (depT xs[k]!) := by
  rw [take_snoc xs k h, depTs_app, depTs, depTs]; omega
mutual
theorem szT_le : ∀ t : Ty, szT t ≤ szL (tyC t) + 1
  | .mk k xs => by
    have h := szTs_le xs
    simp only [tyC, szL, szD]
    rw [szT]; omega
theorem szTs_le : ∀ xs : List Ty, szTs xs ≤ szL (tysC xs) + xs.length
  | [] => by rw [szTs]; omega
  | x :: xs => by
    have h1 := szT_le x
    have h2 := szTs_le xs
    rw [szTs, tysC, szL_append, List.length_cons]; omega
end
mutual
theorem depT_le : ∀ t : Ty, depT t ≤ szT t
  | .mk k xs => by have h := depTs_le xs; rw [depT, szT]; omega
theorem depTs_le : ∀ xs : List Ty, depTs xs ≤ szTs xs
  | [] => by rw [depTs]; omega
  | x :: xs => by
    have h1 := depT_le x
    have h2 := depTs_le xs
    rw [depTs, szTs]; omega
end
theorem szTs_take (xs : List Ty) (k : Nat) : szTs (xs.take k) ≤ szTs xs := by
  have e : szTs xs = szTs (xs.take k) + szTs (xs.drop k) := by rw [← szTs_app, List.take_append_drop]
  omega
theorem con_l1Max (a b : Nat) : Con Tryz.prog 39 [.one (.int a), .one (.int b)] [.one (.int ((max a b : Nat) : Int))] := by
  refine con_run Tryz.func39 rfl rfl (by simp [Tryz.ntmps39]) ?_
  by_cases h : (b : Int) < (a : Int)
  · have e : max a b = a := by omega
    rw [e]
    simp only [argT, argA, fQ, xRet, rPs, xRes, flatA, rD, eq_self, xRun, vE, vP, vBin, vBinT, isAg, isBo, isCutO, isB, bv, gN, isPick, isCall, AS.pt, AS.ev, look, cav, avB, eatsOf, td0, td1, td2, td3, td4, td5, td6, Option.getD, List.map, List.nodup_nil, ↓reduceIte, Nat.reduceLT, Nat.reduceEqDiff, Nat.zero_add, or_false, Bool.false_eq_true, reduceCtorEq, decide_true, and_self, Nat.succ_ne_zero, h, Tryz.ntmps39, Tryz.results39]
  · have e : max a b = b := by omega
    rw [e]
    simp only [argT, argA, fQ, xRet, rPs, xRes, flatA, rD, eq_self, xRun, vE, vP, vBin, vBinT, isAg, isBo, isCutO, isB, bv, gN, isPick, isCall, AS.pt, AS.ev, look, cav, avB, eatsOf, td0, td1, td2, td3, td4, td5, td6, Option.getD, List.map, List.nodup_nil, ↓reduceIte, Nat.reduceLT, Nat.reduceEqDiff, Nat.zero_add, or_false, Bool.false_eq_true, reduceCtorEq, decide_false, and_self, Nat.succ_ne_zero, h, Tryz.ntmps39, Tryz.results39]
theorem con_DepthTyS : ∀ t : Ty, szL (tyC t) ≤ 1000000000 → Con Tryz.prog 53 [.ag (tyC t)] [.one (.int (depT t))] := by
  refine Ty.ind fun kd xs ih hz => ?_
  have hz' : xs.length + szL (tysC xs) ≤ 1000000000 := by simpa [tyC, szL, szD] using hz
  have hd := depTs_le xs
  have hs0 := szTs_le xs
  refine con_run Tryz.func53 rfl rfl (by simp [Tryz.ntmps53]) ?_
  simp only [argT, argA, eq_self, xRun, vE, vP, isCutO, gN, isPick, isCall, AS.pt, AS.ev, AS.box, look, cav, avB, AV.cells, AV.whole, AV.one, td0, td1, td2, td3, td4, td5, td6, Option.getD, List.map, List.all, ↓reduceIte, Nat.reduceLT, Nat.zero_add, true_and, Bool.and_true, Bool.false_eq_true, Tryz.ntmps53, tyC]
  refine sw_loop (fun k : Nat => k ≤ xs.length) (fun k => ⟨22, [(4, .i k), (3, .i (depTs (xs.take k))), (1, .bx 0 0)], [(0, [.i kd, .br (.rows 2 xs.length (tysC xs))])], [], 1, []⟩) (fun k => xs.length - k) 0 id (Nat.zero_le _) ?_ ?_
  · simp only [Sub, subT, subB, subO, subP, inj, AV.ren, AV.rens, AV.lt, AV.lts, eq_self, look, td0, td1, td2, td3, td4, td5, td6, List.map, List.take, List.not_mem_nil, List.nodup_cons, List.nodup_nil, ↓reduceIte, Nat.reduceLT, Nat.reduceEqDiff, not_false_eq_true, id_eq, Int.natCast_zero, and_self, depTs]
  · rintro k hk
    refine sw_run 200 _ _ _ ?_
    by_cases hlt : k < xs.length
    · have hi : (k : Int) < (xs.length : Int) := by omega
      have hR := tysC_row' xs k hlt
      have hm := mem_bang hlt
      have hs := szL_tys' xs k hlt
      have hst := depTs_snoc xs k hlt
      have hrec := ih _ hm (by omega)
      simp only [tysD, rowD, eq_self, xRun, vE, vP, vSub, vLoad, vFld, vIdx, vBin, vBinT, isAg, isBo, vLen, isCutO, isB, bv, gN, isPick, isCall, AS.pt, AS.ev, AS.rd, look, avB, td0, td1, td2, td3, td4, td5, td6, Option.getD, Option.isSome, List.map, List.take, List.drop, List.length, List.getElem?_cons_zero, List.getElem?_cons_succ, ↓reduceIte, Nat.reduceLT, Nat.reduceAdd, Nat.reduceEqDiff, Nat.zero_add, ne_eq, not_false_eq_true, true_and, Bool.false_eq_true, Int.toNat_natCast, Int.natCast_nonneg, decide_true, and_self, Nat.succ_ne_zero, Nat.le_refl, hi, hR, tyC_eq]
      refine sw_call hrec rfl (aAs_ok ?_) ?_ (sw_run 200 _ _ _ ?_)
      · simp only [aAs, aA, aDs, aD, tysD, AS.ev, look, Option.getD, List.map, List.append_nil, ↓reduceIte, eq_self, and_self, tyC_eq]
      · simp only [okR]
      simp only [mkR, flatD, packA, retA, List.headD_cons, eq_self, xRun, gN, isPick, isCall, AS.pt, td0, td1, td2, td3, td4, td5, td6, ↓reduceIte, Nat.reduceLT, Bool.false_eq_true]
      refine sw_call (con_l1Max (depTs (xs.take k)) (depT xs[k]!)) rfl (aAs_ok ?_) ?_ (sw_run 200 _ _ _ ?_)
      · simp only [aAs, aA, aD, AS.ev, look, Option.getD, List.map, List.append_nil, ↓reduceIte, Nat.reduceEqDiff, eq_self, and_self]
      · simp only [okR]
      simp only [mkR, flatD, packA, retA, List.headD_cons, qLp, eq_self, xRun, vE, vP, vBin, vBinT, isAg, isBo, isCutO, gN, isPick, isCall, AS.pt, AS.ev, look, cav, td0, td1, td2, td3, td4, td5, td6, Option.getD, ↓reduceIte, Nat.reduceLT, Nat.reduceEqDiff, true_and, Bool.false_eq_true, qLp]
      refine ⟨by unfold inI; omega, k + 1, id, by omega, by omega, ?_⟩
      simp only [Sub, subT, subB, subO, subP, inj, AV.ren, AV.rens, AV.lt, AV.lts, eq_self, look, td0, td1, td2, td3, td4, td5, td6, List.map, List.not_mem_nil, List.nodup_cons, List.nodup_nil, ↓reduceIte, Nat.reduceLT, Nat.reduceEqDiff, not_false_eq_true, id_eq, and_self, cast1, hst]
    · have hi : ¬ (k : Int) < (xs.length : Int) := by omega
      obtain rfl : k = xs.length := by omega
      have hT : ((depT (.mk kd xs) : Nat) : Int) = (depTs xs : Int) + 1 := by rw [depT]; rfl
      rw [hT]
      simp only [qLp, eq_self, xRun, vE, vP, vSub, vLoad, vFld, vBin, vBinT, isAg, isBo, vLen, isCutO, isB, bv, gN, isPick, isCall, popTo, AS.pt, AS.ev, AS.rd, look, td0, td1, td2, td3, td4, td5, td6, Option.getD, Option.isSome, List.getElem?_cons_zero, List.getElem?_cons_succ, ↓reduceIte, Nat.reduceLT, Nat.reduceEqDiff, Nat.zero_add, ne_eq, not_false_eq_true, true_and, Bool.false_eq_true, decide_false, Nat.succ_ne_zero, hi]
      refine sw_run 200 _ _ _ ?_
      simp only [fQ, xRet, rPs, xRes, flatA, rD, eq_self, xRun, vE, vP, vBin, vBinT, isAg, isBo, isCutO, gN, isPick, isCall, AS.pt, AS.ev, look, cav, eatsOf, td0, td1, td2, td3, td4, td5, td6, Option.getD, List.map, List.nodup_nil, ↓reduceIte, Nat.reduceLT, Nat.reduceEqDiff, true_and, and_true, or_false, Bool.false_eq_true, reduceCtorEq, and_self, List.take_length, Tryz.results53]
      unfold inI; omega
theorem con_DepthTyI : ∀ t : Ty, szL (tyC t) ≤ 1000000000 → Con Tryz.prog 69 [.ag (tyC t)] [.one (.int (depT t))] := by
  refine Ty.ind fun kd xs ih hz => ?_
  have hz' : xs.length + szL (tysC xs) ≤ 1000000000 := by simpa [tyC, szL, szD] using hz
  have hd := depTs_le xs
  have hs0 := szTs_le xs
  refine con_run Tryz.func69 rfl rfl (by simp [Tryz.ntmps69]) ?_
  simp only [argT, argA, eq_self, xRun, vE, vP, vSub, vLoad, vFld, vLen, isCutO, gN, isPick, isCall, AS.pt, AS.ev, AS.box, AS.rd, look, cav, avB, AV.cells, AV.whole, AV.one, td0, td1, td2, td3, td4, td5, td6, Option.getD, Option.isSome, List.map, List.getElem?_cons_zero, List.getElem?_cons_succ, List.all, ↓reduceIte, Nat.reduceLT, Nat.reduceEqDiff, Nat.zero_add, ne_eq, not_false_eq_true, true_and, Bool.and_true, Bool.false_eq_true, Nat.succ_ne_zero, Tryz.ntmps69, tyC]
  refine sw_loop (fun k : Nat => k ≤ xs.length) (fun k => ⟨20, [(9, .i k), (8, .i xs.length), (7, .br (.rows 2 xs.length (tysC xs))), (3, .i (depTs (xs.take k)))], [], [], 0, []⟩) (fun k => xs.length - k) 0 id (Nat.zero_le _) ?_ ?_
  · simp only [Sub, subT, subB, subO, subP, inj, AV.ren, AV.lt, eq_self, look, td0, td1, td2, td3, td4, td5, td6, List.map, List.take, List.nodup_nil, ↓reduceIte, Nat.reduceEqDiff, Int.natCast_zero, and_self, depTs]
  · rintro k hk
    refine sw_run 200 _ _ _ ?_
    by_cases hlt : k < xs.length
    · have hi : (k : Int) < (xs.length : Int) := by omega
      have hR := tysC_row' xs k hlt
      have hm := mem_bang hlt
      have hs := szL_tys' xs k hlt
      have hst := depTs_snoc xs k hlt
      have hrec := ih _ hm (by omega)
      have hmx : (if (depTs (xs.take k) : Int) < (depT xs[k]! : Int) then (depT xs[k]! : Int) else (depTs (xs.take k) : Int)) = ((depTs (xs.take (k + 1)) : Nat) : Int) := by rw [hst]; split <;> omega
      simp only [tysD, rowD, eq_self, xRun, vE, vP, vSub, vLoad, vIdx, vBin, vBinT, isAg, isBo, vStore, isCutO, isB, bv, gN, isPick, isCall, AS.pt, AS.ev, AS.box, AS.setb, look, avB, setRowG, AV.cells, AV.whole, AV.one, td0, td1, td2, td3, td4, td5, td6, Option.getD, Option.isSome, List.map, List.take, List.drop, List.length, List.set, List.all, ↓reduceIte, Nat.reduceLT, Nat.reduceAdd, Nat.reduceEqDiff, Nat.zero_add, true_and, Bool.and_true, Bool.false_eq_true, Int.toNat_natCast, Int.natCast_nonneg, decide_true, and_self, Nat.le_refl, hi, hR, tyC_eq]
      refine sw_call hrec rfl (aAs_ok ?_) ?_ (sw_run 200 _ _ _ ?_)
      · simp only [aAs, aA, aDs, aD, tysD, AS.ev, look, Option.getD, List.map, List.append_nil, ↓reduceIte, eq_self, and_self, tyC_eq]
      · simp only [okR]
      simp only [mkR, flatD, packA, retA, List.headD_cons, qLp, eq_self, xRun, vE, vP, vBin, vBinT, isAg, isBo, vMax, isCutO, gN, isPick, isCall, AS.pt, AS.ev, look, cav, td0, td1, td2, td3, td4, td5, td6, Option.getD, ↓reduceIte, Nat.reduceLT, Nat.reduceEqDiff, true_and, Bool.false_eq_true, hmx, qLp]
      refine ⟨by unfold inI; omega, k + 1, id, by omega, by omega, ?_⟩
      simp only [Sub, subT, subB, subO, subP, inj, AV.ren, AV.lt, eq_self, look, td0, td1, td2, td3, td4, td5, td6, List.map, List.nodup_nil, ↓reduceIte, Nat.reduceEqDiff, and_self, cast1]
    · have hi : ¬ (k : Int) < (xs.length : Int) := by omega
      obtain rfl : k = xs.length := by omega
      have hT : ((depT (.mk kd xs) : Nat) : Int) = (depTs xs : Int) + 1 := by rw [depT]; rfl
      rw [hT]
      simp only [qLp, eq_self, xRun, vE, vP, vBin, vBinT, isAg, isBo, isCutO, isB, bv, gN, isPick, isCall, popTo, AS.pt, AS.ev, look, td0, td1, td2, td3, td4, td5, td6, Option.getD, Option.isSome, ↓reduceIte, Nat.reduceLT, Nat.reduceEqDiff, true_and, Bool.false_eq_true, decide_false, hi]
      refine sw_run 200 _ _ _ ?_
      simp only [fQ, xRet, rPs, xRes, flatA, rD, eq_self, xRun, vE, vP, vBin, vBinT, isAg, isBo, isCutO, gN, isPick, isCall, AS.pt, AS.ev, look, cav, eatsOf, td0, td1, td2, td3, td4, td5, td6, Option.getD, List.map, List.nodup_nil, ↓reduceIte, Nat.reduceLT, Nat.reduceEqDiff, true_and, and_true, or_false, Bool.false_eq_true, reduceCtorEq, and_self, List.take_length, Tryz.results69]
      unfold inI; omega
theorem con_SizeTyI : ∀ t : Ty, szL (tyC t) ≤ 1000000000 → Con Tryz.prog 68 [.ag (tyC t)] [.one (.int (szT t))] := by
  refine Ty.ind fun kd xs ih hz => ?_
  have hz' : xs.length + szL (tysC xs) ≤ 1000000000 := by simpa [tyC, szL, szD] using hz
  have hs0 := szTs_le xs
  refine con_run Tryz.func68 rfl rfl (by simp [Tryz.ntmps68]) ?_
  simp only [argT, argA, eq_self, xRun, vE, vP, vSub, vLoad, vFld, vLen, isCutO, gN, isPick, isCall, AS.pt, AS.ev, AS.box, AS.rd, look, cav, avB, AV.cells, AV.whole, AV.one, td0, td1, td2, td3, td4, td5, td6, Option.getD, Option.isSome, List.map, List.getElem?_cons_zero, List.getElem?_cons_succ, List.all, ↓reduceIte, Nat.reduceLT, Nat.reduceEqDiff, Nat.zero_add, ne_eq, not_false_eq_true, true_and, Bool.and_true, Bool.false_eq_true, Nat.succ_ne_zero, Tryz.ntmps68, tyC]
  refine sw_loop (fun k : Nat => k ≤ xs.length) (fun k => ⟨19, [(9, .i k), (8, .i xs.length), (7, .br (.rows 2 xs.length (tysC xs))), (3, .i (1 + (szTs (xs.take k) : Int)))], [], [], 0, []⟩) (fun k => xs.length - k) 0 id (Nat.zero_le _) ?_ ?_
  · simp only [Sub, subT, subB, subO, subP, inj, AV.ren, AV.lt, eq_self, look, td0, td1, td2, td3, td4, td5, td6, List.map, List.take, List.nodup_nil, ↓reduceIte, Nat.reduceEqDiff, Int.natCast_zero, and_self, szTs, Int.natCast_zero, Int.add_zero]
  · rintro k hk
    refine sw_run 200 _ _ _ ?_
    by_cases hlt : k < xs.length
    · have hi : (k : Int) < (xs.length : Int) := by omega
      have hR := tysC_row' xs k hlt
      have hm := mem_bang hlt
      have hs := szL_tys' xs k hlt
      have hst := szTs_snoc xs k hlt
      have hle := szTs_take xs (k + 1)
      have hrec := ih _ hm (by omega)
      simp only [tysD, rowD, eq_self, xRun, vE, vP, vSub, vLoad, vIdx, vBin, vBinT, isAg, isBo, vStore, isCutO, isB, bv, gN, isPick, isCall, AS.pt, AS.ev, AS.box, AS.setb, look, avB, setRowG, AV.cells, AV.whole, AV.one, td0, td1, td2, td3, td4, td5, td6, Option.getD, Option.isSome, List.map, List.take, List.drop, List.length, List.set, List.all, ↓reduceIte, Nat.reduceLT, Nat.reduceAdd, Nat.reduceEqDiff, Nat.zero_add, true_and, Bool.and_true, Bool.false_eq_true, Int.toNat_natCast, Int.natCast_nonneg, decide_true, and_self, Nat.le_refl, hi, hR, tyC_eq]
      refine sw_call hrec rfl (aAs_ok ?_) ?_ (sw_run 200 _ _ _ ?_)
      · simp only [aAs, aA, aDs, aD, tysD, AS.ev, look, Option.getD, List.map, List.append_nil, ↓reduceIte, eq_self, and_self, tyC_eq]
      · simp only [okR]
      simp only [mkR, flatD, packA, retA, List.headD_cons, qLp, eq_self, xRun, vE, vP, vBin, vBinT, isAg, isBo, isCutO, gN, isPick, isCall, AS.pt, AS.ev, look, cav, td0, td1, td2, td3, td4, td5, td6, Option.getD, ↓reduceIte, Nat.reduceLT, Nat.reduceEqDiff, true_and, Bool.false_eq_true, qLp]
      refine ⟨by unfold inI; omega, by unfold inI; omega, k + 1, id, by omega, by omega, ?_⟩
      simp only [Sub, subT, subB, subO, subP, inj, AV.ren, AV.lt, eq_self, look, td0, td1, td2, td3, td4, td5, td6, List.map, List.nodup_nil, ↓reduceIte, Nat.reduceEqDiff, and_self, cast1, hst, Int.natCast_add, Int.add_assoc]
    · have hi : ¬ (k : Int) < (xs.length : Int) := by omega
      obtain rfl : k = xs.length := by omega
      have hT : ((szT (.mk kd xs) : Nat) : Int) = 1 + (szTs xs : Int) := by rw [szT]; omega
      rw [hT]
      simp only [qLp, eq_self, xRun, vE, vP, vBin, vBinT, isAg, isBo, isCutO, isB, bv, gN, isPick, isCall, popTo, AS.pt, AS.ev, look, td0, td1, td2, td3, td4, td5, td6, Option.getD, Option.isSome, ↓reduceIte, Nat.reduceLT, Nat.reduceEqDiff, true_and, Bool.false_eq_true, decide_false, hi]
      refine sw_run 200 _ _ _ ?_
      simp only [fQ, xRet, rPs, xRes, flatA, rD, eq_self, xRun, vE, vP, isCutO, gN, isPick, isCall, AS.pt, AS.ev, look, eatsOf, td0, td1, td2, td3, td4, td5, td6, Option.getD, List.map, List.nodup_nil, ↓reduceIte, Nat.reduceLT, Nat.reduceEqDiff, or_false, Bool.false_eq_true, reduceCtorEq, and_self, List.take_length, Tryz.results68]
mutual
/-- What is left of a bound behind a type's nodes; below 0 it is passed. -/
def lfT : Ty → Int → Int
  | .mk _ xs, l => lfTs xs (l - 1)
def lfTs : List Ty → Int → Int
  | [], l => l
  | x :: xs, l => if l < 0 then l else lfTs xs (lfT x l)
end
mutual
theorem lfT_ok : ∀ (t : Ty) (l : Int), (l < szT t → lfT t l < 0) ∧ (szT t ≤ l → lfT t l = l - szT t)
  | .mk k xs, l => by
    have h := lfTs_ok xs (l - 1)
    rw [lfT, szT]
    refine ⟨fun h1 => h.1 (by omega), fun h1 => ?_⟩
    rw [h.2 (by omega) (by omega)]; omega
theorem lfTs_ok : ∀ (xs : List Ty) (l : Int), (l < szTs xs → lfTs xs l < 0) ∧ (0 ≤ l → szTs xs ≤ l → lfTs xs l = l - szTs xs)
  | [], l => by rw [lfTs, szTs]; exact ⟨fun h => by omega, fun _ _ => by omega⟩
  | x :: xs, l => by
    have h1 := lfT_ok x l
    have h2 := lfTs_ok xs (lfT x l)
    rw [lfTs, szTs]
    by_cases h0 : l < 0
    · rw [if_pos h0]; exact ⟨fun _ => h0, fun h _ => by omega⟩
    · rw [if_neg h0]
      by_cases h3 : (szT x : Int) ≤ l
      · have h4 := h1.2 h3
        exact ⟨fun h => h2.1 (by omega), fun _ h => by rw [h2.2 (by omega) (by omega)]; omega⟩
      · have h4 := h1.1 (by omega)
        have h5 : lfTs xs (lfT x l) < 0 := by
          cases xs with
          | nil => rw [lfTs]; exact h4
          | cons y ys => rw [lfTs, if_pos h4]; exact h4
        exact ⟨fun _ => h5, fun _ h => by omega⟩
end
mutual
theorem lfT_rng : ∀ (t : Ty) (l : Int), 0 ≤ l → -1 ≤ lfT t l ∧ lfT t l ≤ l
  | .mk k xs, l, h => by
    have h1 := lfTs_rng xs (l - 1) (by omega)
    rw [lfT]; omega
theorem lfTs_rng : ∀ (xs : List Ty) (l : Int), -1 ≤ l → -1 ≤ lfTs xs l ∧ lfTs xs l ≤ l
  | [], l, h => by rw [lfTs]; omega
  | x :: xs, l, h => by
    rw [lfTs]
    split
    · omega
    · have h1 := lfT_rng x l (by omega)
      have h2 := lfTs_rng xs (lfT x l) (by omega)
      omega
end
theorem lfTs_neg (xs : List Ty) (l : Int) (h : l < 0) : lfTs xs l = l := by
  cases xs with
  | nil => rw [lfTs]
  | cons x xs => rw [lfTs, if_pos h]
theorem lfTs_step (xs : List Ty) (k : Nat) (l : Int) (h : k < xs.length) (h0 : 0 ≤ l) : lfTs (xs.drop k) l = lfTs (xs.drop (k + 1)) (lfT xs[k]! l) := by
  rw [List.drop_eq_getElem_cons h, lfTs, if_neg (by omega), getElem!_pos xs k h]
theorem con_l3Left : ∀ t : Ty, szL (tyC t) ≤ 1000000000 → ∀ l : Int, 0 ≤ l → l ≤ 1000000 → Con Tryz.prog 52 [.ag (tyC t), .one (.int l)] [.one (.int (lfT t l))] := by
  refine Ty.ind fun kd xs ih hz l h0 h1 => ?_
  have hz' : xs.length + szL (tysC xs) ≤ 1000000000 := by simpa [tyC, szL, szD] using hz
  have hT : lfT (.mk kd xs) l = lfTs xs (l - 1) := by rw [lfT]
  rw [hT]
  refine con_run Tryz.func52 rfl rfl (by simp [Tryz.ntmps52]) ?_
  simp only [argT, argA, eq_self, xRun, vE, vP, vBin, vBinT, isAg, isBo, isCutO, gN, isPick, isCall, AS.pt, AS.ev, AS.box, look, cav, avB, AV.cells, AV.whole, AV.one, td0, td1, td2, td3, td4, td5, td6, Option.getD, List.map, List.all, ↓reduceIte, Nat.reduceLT, Nat.reduceEqDiff, Nat.zero_add, true_and, Bool.and_true, Bool.false_eq_true, Nat.succ_ne_zero, Tryz.ntmps52, tyC]
  refine ⟨by unfold inI; omega, ?_⟩
  refine sw_loop (fun i : Nat × Int => i.1 ≤ xs.length ∧ lfTs (xs.drop i.1) i.2 = lfTs xs (l - 1) ∧ -1 ≤ i.2 ∧ i.2 ≤ 1000000) (fun i => ⟨27, [(5, .i i.1), (1, .i i.2), (2, .bx 0 0)], [(0, [.i kd, .br (.rows 2 xs.length (tysC xs))])], [], 1, []⟩) (fun i => xs.length - i.1) (0, l - 1) id ⟨Nat.zero_le _, rfl, by omega, by omega⟩ ?_ ?_
  · simp only [Sub, subT, subB, subO, subP, inj, AV.ren, AV.rens, AV.lt, AV.lts, eq_self, look, td0, td1, td2, td3, td4, td5, td6, List.map, List.not_mem_nil, List.nodup_cons, List.nodup_nil, ↓reduceIte, Nat.reduceLT, Nat.reduceEqDiff, not_false_eq_true, id_eq, Int.natCast_zero, and_self]
  · rintro ⟨k, c⟩ ⟨hk, hc, hc0, hc1⟩
    simp only at hk hc hc0 hc1 ⊢
    refine sw_run 200 _ _ _ ?_
    by_cases hlt : k < xs.length
    · have hi : (k : Int) < (xs.length : Int) := by omega
      by_cases hn : 0 ≤ c
      · have hR := tysC_row' xs k hlt
        have hm := mem_bang hlt
        have hs := szL_tys' xs k hlt
        have hrec := ih _ hm (by omega) c hn hc1
        have hst := lfTs_step xs k c hlt hn
        have hrg := lfT_rng xs[k]! c hn
        rw [hst] at hc
        simp only [tysD, rowD, eq_self, xRun, vE, vP, vSub, vLoad, vFld, vIdx, vBin, vBinT, isAg, isBo, vLen, isCutO, isB, bv, gT, gW, gN, gV, isU, isPick, pkC, pkA, isCall, AS.pt, AS.kn, AS.ev, AS.rd, look, cav, avB, td0, td1, td2, td3, td4, td5, td6, Option.bind, Option.getD, Option.isSome, List.map, List.take, List.drop, List.length, List.getElem?_cons_zero, List.getElem?_cons_succ, ↓reduceIte, Nat.reduceLT, Nat.reduceAdd, Nat.reduceEqDiff, Nat.zero_add, ne_eq, not_false_eq_true, true_and, Bool.false_eq_true, Int.toNat_natCast, Int.reduceNeg, Int.natCast_nonneg, decide_true, and_self, Nat.succ_ne_zero, Nat.le_refl, hi, hn, hR, tyC_eq]
        refine sw_call hrec rfl (aAs_ok ?_) ?_ (sw_run 200 _ _ _ ?_)
        · simp only [aAs, aA, aDs, aD, tysD, AS.ev, look, Option.getD, List.map, List.append_nil, ↓reduceIte, Nat.reduceEqDiff, eq_self, and_self, tyC_eq]
        · simp only [okR]
        simp only [mkR, flatD, packA, retA, List.headD_cons, qLp, eq_self, xRun, vE, vP, vBin, vBinT, isAg, isBo, isCutO, gN, isPick, isCall, AS.pt, AS.ev, look, cav, td0, td1, td2, td3, td4, td5, td6, Option.getD, ↓reduceIte, Nat.reduceLT, Nat.reduceEqDiff, true_and, Bool.false_eq_true, Int.reduceNeg, qLp]
        refine ⟨by unfold inI; omega, (k + 1, lfT xs[k]! c), id, ⟨hlt, hc, hrg.1, by omega⟩, by simp only; omega, ?_⟩
        simp only [Sub, subT, subB, subO, subP, inj, AV.ren, AV.rens, AV.lt, AV.lts, eq_self, look, td0, td1, td2, td3, td4, td5, td6, List.map, List.not_mem_nil, List.nodup_cons, List.nodup_nil, ↓reduceIte, Nat.reduceLT, Nat.reduceEqDiff, not_false_eq_true, id_eq, and_self, cast1]
      · rw [lfTs_neg _ c (by omega)] at hc
        simp only [qLp, eq_self, xRun, vE, vP, vSub, vLoad, vFld, vBin, vBinT, isAg, isBo, vLen, isCutO, isB, bv, gT, gW, gN, gV, isU, isPick, pkC, pkA, isCall, popTo, AS.pt, AS.kn, AS.ev, AS.rd, look, cav, td0, td1, td2, td3, td4, td5, td6, Option.bind, Option.getD, Option.isSome, List.getElem?_cons_zero, List.getElem?_cons_succ, ↓reduceIte, Nat.reduceLT, Nat.reduceEqDiff, Nat.zero_add, ne_eq, not_false_eq_true, true_and, Bool.false_eq_true, decide_true, decide_false, and_self, Nat.succ_ne_zero, hi, hn]
        refine sw_run 200 _ _ _ ?_
        simp only [fQ, xRet, rPs, xRes, flatA, rD, eq_self, xRun, vE, vP, isCutO, gN, isPick, isCall, AS.pt, AS.ev, look, eatsOf, td0, td1, td2, td3, td4, td5, td6, Option.getD, List.map, List.nodup_nil, ↓reduceIte, Nat.reduceLT, Nat.reduceEqDiff, or_false, Bool.false_eq_true, reduceCtorEq, and_self, ← hc, Tryz.results52]
    · have hi : ¬ (k : Int) < (xs.length : Int) := by omega
      rw [List.drop_of_length_le (by omega), lfTs] at hc
      simp only [qLp, eq_self, xRun, vE, vP, vSub, vLoad, vFld, vBin, vBinT, isAg, isBo, vLen, isCutO, isB, bv, gT, gW, gN, gV, isU, isPick, pkC, pkB, isCall, popTo, AS.pt, AS.kn, AS.ev, AS.rd, look, cav, td0, td1, td2, td3, td4, td5, td6, Option.bind, Option.getD, Option.isSome, List.getElem?_cons_zero, List.getElem?_cons_succ, ↓reduceIte, Nat.reduceLT, Nat.reduceEqDiff, Nat.zero_add, ne_eq, not_false_eq_true, true_and, Bool.not_true, Bool.false_eq_true, decide_false, and_self, Nat.succ_ne_zero, hi]
      refine sw_run 200 _ _ _ ?_
      simp only [fQ, xRet, rPs, xRes, flatA, rD, eq_self, xRun, vE, vP, isCutO, gN, isPick, isCall, AS.pt, AS.ev, look, eatsOf, td0, td1, td2, td3, td4, td5, td6, Option.getD, List.map, List.nodup_nil, ↓reduceIte, Nat.reduceLT, Nat.reduceEqDiff, or_false, Bool.false_eq_true, reduceCtorEq, and_self, ← hc, Tryz.results52]
def shB (k : Int) (n : Nat) : Bool := if k = 1 ∨ k = 2 then decide ((n : Int) = 0) else if k = 3 then decide ((n : Int) = 2) else if k = 4 then decide ((n : Int) = 1) else false
mutual
def formT : Ty → Bool
  | .mk k xs => formTs xs && shB k xs.length
def formTs : List Ty → Bool
  | [] => true
  | x :: xs => formT x && formTs xs
end
theorem formTs_drop (xs : List Ty) (k : Nat) (h : k < xs.length) : formTs (xs.drop k) = (formT xs[k]! && formTs (xs.drop (k + 1))) := by
  rw [List.drop_eq_getElem_cons h, formTs, getElem!_pos xs k h]
theorem con_l3Form : ∀ t : Ty, szL (tyC t) ≤ 1000000000 → Con Tryz.prog 54 [.ag (tyC t)] [.one (.bool (formT t))] := by
  refine Ty.ind fun kd xs ih hz => ?_
  have hz' : xs.length + szL (tysC xs) ≤ 1000000000 := by simpa [tyC, szL, szD] using hz
  have hT : formT (.mk kd xs) = (formTs xs && shB kd xs.length) := by rw [formT]
  rw [hT]
  refine con_run Tryz.func54 rfl rfl (by simp [Tryz.ntmps54]) ?_
  simp only [argT, argA, eq_self, xRun, vE, vP, isCutO, gN, isPick, isCall, AS.pt, AS.ev, AS.box, look, cav, avB, AV.cells, AV.whole, AV.one, td0, td1, td2, td3, td4, td5, td6, Option.getD, List.map, List.all, ↓reduceIte, Nat.reduceLT, Nat.zero_add, true_and, Bool.and_true, Bool.false_eq_true, Tryz.ntmps54, tyC]
  refine sw_loop (fun k : Nat => k ≤ xs.length ∧ formTs (xs.drop k) = formTs xs) (fun k => ⟨39, [(3, .i k), (1, .bx 0 0)], [(0, [.i kd, .br (.rows 2 xs.length (tysC xs))])], [], 1, []⟩) (fun k => xs.length - k) 0 id ⟨Nat.zero_le _, rfl⟩ ?_ ?_
  · simp only [Sub, subT, subB, subO, subP, inj, AV.ren, AV.rens, AV.lt, AV.lts, eq_self, look, td0, td1, td2, td3, td4, td5, td6, List.map, List.not_mem_nil, List.nodup_cons, List.nodup_nil, ↓reduceIte, Nat.reduceLT, Nat.reduceEqDiff, not_false_eq_true, id_eq, Int.natCast_zero, and_self]
  · rintro k ⟨hk, hf⟩
    refine sw_run 200 _ _ _ ?_
    by_cases hlt : k < xs.length
    · have hi : (k : Int) < (xs.length : Int) := by omega
      have hR := tysC_row' xs k hlt
      have hm := mem_bang hlt
      have hs := szL_tys' xs k hlt
      have hrec := ih _ hm (by omega)
      rw [formTs_drop xs k hlt] at hf
      obtain ⟨b, hb⟩ : ∃ b, b = formT xs[k]! := ⟨_, rfl⟩
      rw [← hb] at hrec hf
      simp only [tysD, rowD, eq_self, xRun, vE, vP, vSub, vLoad, vFld, vIdx, vBin, vBinT, isAg, isBo, vLen, isCutO, isB, bv, gN, isPick, isCall, AS.pt, AS.ev, AS.rd, look, avB, td0, td1, td2, td3, td4, td5, td6, Option.getD, Option.isSome, List.map, List.take, List.drop, List.length, List.getElem?_cons_zero, List.getElem?_cons_succ, ↓reduceIte, Nat.reduceLT, Nat.reduceAdd, Nat.reduceEqDiff, Nat.zero_add, ne_eq, not_false_eq_true, true_and, Bool.false_eq_true, Int.toNat_natCast, Int.natCast_nonneg, decide_true, and_self, Nat.succ_ne_zero, Nat.le_refl, hi, hR, tyC_eq]
      refine sw_call hrec rfl (aAs_ok ?_) ?_ (sw_run 200 _ _ _ ?_)
      · simp only [aAs, aA, aDs, aD, tysD, AS.ev, look, Option.getD, List.map, List.append_nil, ↓reduceIte, eq_self, and_self, tyC_eq]
      · simp only [okR]
      cases b
      · rw [Bool.false_and] at hf
        simp only [mkR, flatD, packA, retA, List.headD_cons, fQ, qLp, xRet, rPs, xRes, flatA, rD, eq_self, xRun, vE, vP, vNot, isCutO, isB, bv, gN, isPick, isCall, AS.pt, AS.ev, look, cav, eatsOf, td0, td1, td2, td3, td4, td5, td6, Option.getD, List.map, List.nodup_nil, ↓reduceIte, Nat.reduceLT, or_false, Bool.false_and, Bool.not_false, Bool.false_eq_true, reduceCtorEq, and_self, ← hf, Tryz.results54]
      · simp only [mkR, flatD, packA, retA, List.headD_cons, qLp, eq_self, xRun, vE, vP, vBin, vBinT, isAg, isBo, vNot, isCutO, isB, bv, gN, isPick, isCall, AS.pt, AS.ev, look, cav, td0, td1, td2, td3, td4, td5, td6, Option.getD, ↓reduceIte, Nat.reduceLT, Nat.reduceEqDiff, true_and, Bool.not_true, Bool.false_eq_true, qLp]
        refine ⟨by unfold inI; omega, k + 1, id, ⟨by omega, by simpa using hf⟩, by omega, ?_⟩
        simp only [Sub, subT, subB, subO, subP, inj, AV.ren, AV.rens, AV.lt, AV.lts, eq_self, look, td0, td1, td2, td3, td4, td5, td6, List.map, List.not_mem_nil, List.nodup_cons, List.nodup_nil, ↓reduceIte, Nat.reduceLT, Nat.reduceEqDiff, not_false_eq_true, id_eq, and_self, cast1]
    · have hi : ¬ (k : Int) < (xs.length : Int) := by omega
      rw [List.drop_of_length_le (by omega), formTs] at hf
      rw [← hf, Bool.true_and, shB]
      simp only [qLp, eq_self, xRun, vE, vP, vSub, vLoad, vFld, vBin, vBinT, isAg, isBo, vLen, isCutO, isB, bv, gN, isPick, isCall, popTo, AS.pt, AS.ev, AS.rd, look, td0, td1, td2, td3, td4, td5, td6, Option.getD, Option.isSome, List.getElem?_cons_zero, List.getElem?_cons_succ, ↓reduceIte, Nat.reduceLT, Nat.reduceEqDiff, Nat.zero_add, ne_eq, not_false_eq_true, true_and, Bool.false_eq_true, decide_false, Nat.succ_ne_zero, hi]
      refine sw_run 200 _ _ _ ?_
      by_cases e1 : kd = 1
      · simp only [fQ, xRet, rPs, xRes, flatA, rD, eq_self, true_or, xRun, vE, vP, vSub, vLoad, vFld, vBin, vBinT, isAg, isBo, vLen, isCutO, isB, bv, gN, isPick, isCall, AS.pt, AS.ev, AS.rd, look, cav, eatsOf, td0, td1, td2, td3, td4, td5, td6, Option.getD, Option.isSome, List.map, List.getElem?_cons_zero, List.getElem?_cons_succ, List.nodup_nil, ↓reduceIte, Nat.reduceLT, Nat.reduceEqDiff, Nat.zero_add, Nat.add_zero, ne_eq, not_false_eq_true, or_false, true_or, Bool.false_eq_true, reduceCtorEq, decide_true, and_self, Nat.succ_ne_zero, eq_true e1, Tryz.results54]
      by_cases e2 : kd = 2
      · simp only [fQ, xRet, rPs, xRes, flatA, rD, eq_self, xRun, vE, vP, vSub, vLoad, vFld, vBin, vBinT, isAg, isBo, vLen, isCutO, isB, bv, gN, isPick, isCall, AS.pt, AS.ev, AS.rd, look, cav, eatsOf, td0, td1, td2, td3, td4, td5, td6, Option.getD, Option.isSome, List.map, List.getElem?_cons_zero, List.getElem?_cons_succ, List.nodup_nil, ↓reduceIte, Nat.reduceLT, Nat.reduceEqDiff, Nat.zero_add, Nat.add_zero, ne_eq, not_false_eq_true, or_false, or_true, Bool.false_eq_true, reduceCtorEq, decide_true, decide_false, and_self, Nat.succ_ne_zero, e1, eq_true e2, Tryz.results54]
      by_cases e3 : kd = 3
      · simp only [fQ, xRet, rPs, xRes, flatA, rD, eq_self, xRun, vE, vP, vSub, vLoad, vFld, vBin, vBinT, isAg, isBo, vLen, isCutO, isB, bv, gN, isPick, isCall, AS.pt, AS.ev, AS.rd, look, cav, eatsOf, td0, td1, td2, td3, td4, td5, td6, Option.getD, Option.isSome, List.map, List.getElem?_cons_zero, List.getElem?_cons_succ, List.nodup_nil, ↓reduceIte, Nat.reduceLT, Nat.reduceEqDiff, Nat.zero_add, Nat.add_zero, ne_eq, not_false_eq_true, or_false, Bool.false_eq_true, reduceCtorEq, decide_true, decide_false, and_self, Nat.succ_ne_zero, e1, e2, eq_true e3, Tryz.results54]
      by_cases e4 : kd = 4
      · simp only [fQ, xRet, rPs, xRes, flatA, rD, eq_self, xRun, vE, vP, vSub, vLoad, vFld, vBin, vBinT, isAg, isBo, vLen, isCutO, isB, bv, gN, isPick, isCall, AS.pt, AS.ev, AS.rd, look, cav, eatsOf, td0, td1, td2, td3, td4, td5, td6, Option.getD, Option.isSome, List.map, List.getElem?_cons_zero, List.getElem?_cons_succ, List.nodup_nil, ↓reduceIte, Nat.reduceLT, Nat.reduceEqDiff, Nat.zero_add, Nat.add_zero, ne_eq, not_false_eq_true, or_false, Bool.false_eq_true, reduceCtorEq, decide_true, decide_false, and_self, Nat.succ_ne_zero, e1, e2, e3, eq_true e4, Tryz.results54]
      simp only [fQ, xRet, rPs, xRes, flatA, rD, eq_self, xRun, vE, vP, vSub, vLoad, vFld, vBin, vBinT, isAg, isBo, isCutO, isB, bv, gN, isPick, isCall, AS.pt, AS.ev, look, cav, eatsOf, td0, td1, td2, td3, td4, td5, td6, Option.getD, Option.isSome, List.map, List.getElem?_cons_zero, List.nodup_nil, ↓reduceIte, Nat.reduceLT, Nat.reduceEqDiff, Nat.add_zero, ne_eq, not_false_eq_true, or_false, Bool.false_eq_true, reduceCtorEq, decide_false, and_self, Nat.succ_ne_zero, e1, e2, e3, e4, Tryz.results54]
/-- A valid type. -/
def vTy (t : Ty) : Bool := decide ((szT t : Int) ≤ 30) && (decide ((depT t : Int) ≤ 8) && formT t)
theorem con_ValidTyS (t : Ty) (hz : szL (tyC t) ≤ 1000000000) : Con Tryz.prog 35 [.ag (tyC t)] [.one (.bool (vTy t))] := by
  have hl := con_l3Left t hz 30 (by omega) (by omega)
  have hlo := lfT_ok t 30
  have hd := con_DepthTyS t hz
  have hf := con_l3Form t hz
  refine con_run Tryz.func35 rfl rfl (by simp [Tryz.ntmps35]) ?_
  simp only [argT, argA, tysD, eq_self, xRun, vE, vP, vSub, vLoad, isCutO, gN, isPick, isCall, AS.pt, AS.ev, AS.box, look, cav, avB, AV.cells, AV.whole, AV.one, td0, td1, td2, td3, td4, td5, td6, Option.getD, List.map, List.take, List.drop, List.length, List.all, ↓reduceIte, Nat.reduceLT, Nat.reduceAdd, Nat.reduceEqDiff, Nat.zero_add, true_and, Bool.and_true, Bool.false_eq_true, Nat.le_refl, Tryz.ntmps35, tyC_eq]
  refine sw_call hl rfl (aAs_ok ?_) ?_ (sw_run 200 _ _ _ ?_)
  · simp only [aAs, aA, aDs, aD, tysD, AS.ev, look, cav, Option.getD, List.map, List.append_nil, ↓reduceIte, eq_self, and_self, tyC_eq]
  · simp only [okR]
  by_cases h1 : (szT t : Int) ≤ 30
  case neg =>
    have hneg : ¬ 0 ≤ lfT t 30 := by have := hlo.1 (by omega); omega
    have hv : vTy t = false := by rw [vTy, decide_eq_false h1]; rfl
    rw [hv]
    simp only [mkR, flatD, packA, retA, List.headD_cons, fQ, xRet, rPs, xRes, flatA, rD, eq_self, xRun, vE, vP, vBin, vBinT, isAg, isBo, isCutO, isB, bv, gT, gW, gN, gV, isU, isPick, pkC, pkB, isCall, AS.pt, AS.kn, AS.ev, look, cav, eatsOf, td0, td1, td2, td3, td4, td5, td6, Option.bind, Option.getD, Option.isSome, List.map, List.getElem?_cons_zero, List.getElem?_cons_succ, List.nodup_nil, ↓reduceIte, Nat.reduceLT, Nat.reduceEqDiff, or_false, Bool.not_true, Bool.false_eq_true, reduceCtorEq, decide_false, and_self, hneg, Tryz.results35]
  have hpos : 0 ≤ lfT t 30 := by rw [hlo.2 (by omega)]; omega
  simp only [mkR, flatD, packA, retA, List.headD_cons, eq_self, xRun, vE, vP, vSub, vLoad, vBin, vBinT, isAg, isBo, isCutO, isB, bv, gT, gW, gN, gV, isU, isPick, isCall, AS.pt, AS.kn, AS.ev, look, cav, td0, td1, td2, td3, td4, td5, td6, Option.bind, Option.getD, Option.isSome, List.take, List.drop, List.length, List.getElem?_cons_zero, List.getElem?_cons_succ, ↓reduceIte, Nat.reduceLT, Nat.reduceAdd, Nat.reduceEqDiff, Nat.zero_add, true_and, Bool.false_eq_true, decide_true, and_self, Nat.le_refl, hpos]
  refine sw_call hd rfl (aAs_ok ?_) ?_ (sw_run 200 _ _ _ ?_)
  · simp only [aAs, aA, aDs, aD, tysD, AS.ev, look, Option.getD, List.map, List.append_nil, ↓reduceIte, Nat.reduceEqDiff, eq_self, and_self, tyC_eq]
  · simp only [okR]
  by_cases h2 : (depT t : Int) ≤ 8
  case neg =>
    have hv : vTy t = false := by rw [vTy, decide_eq_false h2, Bool.false_and, Bool.and_false]
    rw [hv]
    simp only [mkR, flatD, packA, retA, List.headD_cons, fQ, xRet, rPs, xRes, flatA, rD, eq_self, xRun, vE, vP, vBin, vBinT, isAg, isBo, isCutO, isB, bv, gT, gW, gN, gV, isU, isPick, pkC, pkA, pkB, isCall, AS.pt, AS.kn, AS.ev, look, cav, eatsOf, td0, td1, td2, td3, td4, td5, td6, Option.bind, Option.getD, Option.isSome, List.map, List.getElem?_cons_zero, List.getElem?_cons_succ, List.nodup_nil, ↓reduceIte, Nat.reduceLT, Nat.reduceEqDiff, or_false, Bool.not_true, Bool.false_eq_true, reduceCtorEq, decide_false, and_self, h2, Tryz.results35]
  have hv : vTy t = formT t := by rw [vTy, decide_eq_true h1, decide_eq_true h2]; rfl
  rw [hv]
  simp only [mkR, flatD, packA, retA, List.headD_cons, eq_self, xRun, vE, vP, vSub, vLoad, vBin, vBinT, isAg, isBo, isCutO, isB, bv, gT, gW, gN, gV, isU, isPick, pkC, pkA, isCall, AS.pt, AS.kn, AS.ev, look, cav, td0, td1, td2, td3, td4, td5, td6, Option.bind, Option.getD, Option.isSome, List.take, List.drop, List.length, List.getElem?_cons_zero, List.getElem?_cons_succ, ↓reduceIte, Nat.reduceLT, Nat.reduceAdd, Nat.reduceEqDiff, Nat.zero_add, true_and, Bool.false_eq_true, decide_true, and_self, Nat.le_refl, h2]
  refine sw_call hf rfl (aAs_ok ?_) ?_ (sw_run 200 _ _ _ ?_)
  · simp only [aAs, aA, aDs, aD, tysD, AS.ev, look, Option.getD, List.map, List.append_nil, ↓reduceIte, Nat.reduceEqDiff, eq_self, and_self, tyC_eq]
  · simp only [okR]
  simp only [mkR, flatD, packA, retA, List.headD_cons, fQ, xRet, rPs, xRes, flatA, rD, eq_self, xRun, vE, vP, isCutO, isB, bv, gN, isPick, pkC, pkA, isCall, AS.pt, AS.ev, look, eatsOf, td0, td1, td2, td3, td4, td5, td6, Option.getD, List.map, List.nodup_nil, ↓reduceIte, Nat.reduceLT, Nat.reduceEqDiff, or_false, Bool.false_eq_true, reduceCtorEq, and_self, Tryz.results35]
end Go.Proofs.YtpoemjeelbmpkaaGreat
/-
  All nodes of a type or a term; valid types of the program.
-/
namespace Go.Proofs.YtpoemjeelbmpkaaGreat
open Go.RowKit
set_option linter.unusedVariables false
set_option linter.unusedSimpArgs false
set_option maxRecDepth 20000
/-! the first element of a kind -/
def fg {α : Type} (p : α → Bool) : List α → Int → Int
  | [], _ => -1
  | x :: xs, i => if p x = true then i else fg p xs (i + 1)
theorem fg_step {α : Type} [Inhabited α] (p : α → Bool) (xs : List α) (k : Nat) (h : k < xs.length) : fg p (xs.drop k) k = if p xs[k]! = true then (k : Int) else fg p (xs.drop (k + 1)) ((k + 1 : Nat) : Int) := by
  rw [List.drop_eq_getElem_cons h, getElem!_pos xs k h]; rfl
theorem fg_end {α : Type} (p : α → Bool) (xs : List α) (k : Nat) (h : xs.length ≤ k) (i : Int) : fg p (xs.drop k) i = -1 := by rw [List.drop_of_length_le h]; rfl
theorem fg_any {α : Type} (p : α → Bool) : ∀ (xs : List α) (i : Int), 0 ≤ i → decide (0 ≤ fg p xs i) = xs.any p
  | [], i, _ => rfl
  | x :: xs, i, h => by
    rw [fg, List.any_cons]
    cases e : p x
    · rw [if_neg (by simp), fg_any p xs (i + 1) (by omega)]; rfl
    · rw [if_pos rfl, decide_eq_true h]; rfl
theorem con_IdxTy (q : Ty → Bool) (g h : FuncId) (xs : List Ty) (hl : xs.length ≤ 1000000000) (hp : ∀ x ∈ xs, Con Tryz.prog g [.ag (tyC x), .rf [.fn h []]] [.one (.bool (q x))]) : Con Tryz.prog 106 [.one (.rows 2 xs.length (tysC xs)), .fn g [.rf [.fn h []]]] [.one (.int (fg q xs 0))] := by
  refine con_run Tryz.func106 rfl rfl (by simp [Tryz.ntmps106]) ?_
  simp only [argT, argA, argAs, eq_self, xRun, vE, vP, vLen, isCutO, gN, isPick, isCall, AS.pt, AS.ev, AS.rd, look, cav, avB, td0, td1, td2, td3, td4, td5, td6, Option.getD, ↓reduceIte, Nat.reduceLT, Nat.zero_add, true_and, Bool.false_eq_true, reduceCtorEq, Int.reduceNeg, argAs, argA, Tryz.ntmps106]
  refine sw_loop (fun k : Nat => k ≤ xs.length ∧ fg q (xs.drop k) k = fg q xs 0) (fun k => ⟨19, [(8, .i k), (7, .i xs.length), (0, .br (.rows 2 xs.length (tysC xs))), (1, .fn g [.rp [.fn h []]])], [], [], 0, []⟩) (fun k => xs.length - k) 0 id ⟨Nat.zero_le _, rfl⟩ ?_ ?_
  · simp only [Sub, subT, subB, subO, subP, inj, AV.ren, AV.rens, AV.lt, AV.lts, eq_self, look, td0, td1, td2, td3, td4, td5, td6, List.map, List.nodup_nil, ↓reduceIte, Nat.reduceEqDiff, reduceCtorEq, Int.natCast_zero, and_self, Nat.succ_ne_zero, Int.natCast_zero]
  · rintro k ⟨hk, hf⟩
    refine sw_run 200 _ _ _ ?_
    by_cases hlt : k < xs.length
    · have hi : (k : Int) < (xs.length : Int) := by omega
      have hR := tysC_row' xs k hlt
      have hpc := hp _ (mem_bang hlt)
      rw [fg_step q xs k hlt] at hf
      obtain ⟨b, hb⟩ : ∃ b, b = q xs[k]! := ⟨_, rfl⟩
      rw [← hb] at hf hpc
      simp only [tysD, rowD, eq_self, xRun, vE, vP, vSub, vLoad, vIdx, vBin, vBinT, isAg, isBo, isCutO, isB, bv, gN, isPick, isCall, AS.pt, AS.ev, look, avB, td0, td1, td2, td3, td4, td5, td6, Option.getD, List.map, List.take, List.drop, List.length, ↓reduceIte, Nat.reduceLT, Nat.reduceAdd, Nat.reduceEqDiff, Nat.zero_add, true_and, Bool.false_eq_true, reduceCtorEq, Int.toNat_natCast, Int.reduceNeg, Int.natCast_nonneg, decide_true, and_self, Nat.succ_ne_zero, Nat.le_refl, hi, hR, tyC_eq]
      refine sw_call (hpc) rfl (aAs_ok ?_) ?_ (sw_run 200 _ _ _ ?_)
      · simp only [aAs, aA, aDs, aD, tysD, AS.ev, look, Option.getD, List.map, List.nil_append, List.cons_append, ↓reduceIte, eq_self, and_self, tyC_eq]
      · simp only [okR]
      cases b
      · rw [if_neg (by simp)] at hf
        simp only [mkR, flatD, packA, retA, List.headD_cons, qLp, eq_self, xRun, vE, vP, vBin, vBinT, isAg, isBo, isCutO, isB, bv, gN, isPick, isCall, AS.pt, AS.ev, look, cav, td0, td1, td2, td3, td4, td5, td6, Option.getD, ↓reduceIte, Nat.reduceLT, Nat.reduceEqDiff, true_and, Bool.false_eq_true, qLp]
        refine ⟨by unfold inI; omega, k + 1, id, ⟨by omega, hf⟩, by omega, ?_⟩
        simp only [Sub, subT, subB, subO, subP, inj, AV.ren, AV.rens, AV.lt, AV.lts, eq_self, look, td0, td1, td2, td3, td4, td5, td6, List.map, List.nodup_nil, ↓reduceIte, Nat.reduceEqDiff, reduceCtorEq, and_self, Nat.succ_ne_zero, cast1]
      · rw [if_pos rfl] at hf
        simp only [mkR, flatD, packA, retA, List.headD_cons, fQ, qLp, xRet, rPs, xRes, flatA, rD, eq_self, xRun, vE, vP, isCutO, isB, bv, gN, isPick, isCall, AS.pt, AS.ev, look, eatsOf, td0, td1, td2, td3, td4, td5, td6, Option.getD, List.map, List.nodup_nil, ↓reduceIte, Nat.reduceLT, Nat.reduceEqDiff, true_and, and_true, or_false, Bool.false_eq_true, reduceCtorEq, Tryz.results106]
        exact hf
    · have hi : ¬ (k : Int) < (xs.length : Int) := by omega
      rw [fg_end q xs k (by omega)] at hf
      simp only [qLp, eq_self, xRun, vE, vP, vBin, vBinT, isAg, isBo, isCutO, isB, bv, gN, isPick, isCall, popTo, AS.pt, AS.ev, look, td0, td1, td2, td3, td4, td5, td6, Option.getD, Option.isSome, ↓reduceIte, Nat.reduceLT, Nat.reduceEqDiff, true_and, Bool.false_eq_true, Int.reduceNeg, decide_false, hi]
      refine sw_run 200 _ _ _ ?_
      simp only [fQ, xRet, rPs, xRes, flatA, rD, eq_self, xRun, vE, vP, isCutO, gN, isPick, isCall, AS.pt, AS.ev, look, cav, eatsOf, td0, td1, td2, td3, td4, td5, td6, List.map, List.nodup_nil, ↓reduceIte, Nat.reduceLT, or_false, Bool.false_eq_true, reduceCtorEq, Int.reduceNeg, and_self, ← hf, Tryz.results106]
theorem con_ContTy (q : Ty → Bool) (g h : FuncId) (xs : List Ty) (hl : xs.length ≤ 1000000000) (hp : ∀ x ∈ xs, Con Tryz.prog g [.ag (tyC x), .rf [.fn h []]] [.one (.bool (q x))]) : Con Tryz.prog 95 [.one (.rows 2 xs.length (tysC xs)), .fn g [.rf [.fn h []]]] [.one (.bool (xs.any q))] := by
  have hc := con_IdxTy q g h xs hl hp
  rw [← fg_any q xs 0 (by omega)]
  refine con_run Tryz.func95 rfl rfl (by simp [Tryz.ntmps95]) ?_
  simp only [argT, argA, argAs, eq_self, xRun, vE, vP, isCutO, gN, isPick, isCall, AS.pt, AS.ev, look, cav, avB, td0, td1, td2, td3, td4, td5, td6, Option.getD, ↓reduceIte, Nat.reduceLT, Nat.reduceEqDiff, Nat.zero_add, true_and, Bool.false_eq_true, reduceCtorEq, Nat.succ_ne_zero, argAs, argA, Tryz.ntmps95]
  refine sw_call (hc) rfl (aAs_ok ?_) ?_ (sw_run 200 _ _ _ ?_)
  · simp only [aAs, aA, aD, AS.ev, look, Option.getD, List.map, List.append_nil, ↓reduceIte, Nat.reduceEqDiff, eq_self, and_self]
  · simp only [okR]
  simp only [mkR, flatD, packA, retA, List.headD_cons, fQ, xRet, rPs, xRes, flatA, rD, eq_self, xRun, vE, vP, vBin, vBinT, isAg, isBo, isCutO, gN, isPick, isCall, AS.pt, AS.ev, look, cav, eatsOf, td0, td1, td2, td3, td4, td5, td6, Option.getD, List.map, List.nodup_nil, ↓reduceIte, Nat.reduceLT, or_false, Bool.false_eq_true, reduceCtorEq, and_self, Tryz.results95]
theorem con_IdxTm (q : Tm → Bool) (g h : FuncId) (xs : List Tm) (hl : xs.length ≤ 1000000000) (hp : ∀ x ∈ xs, Con Tryz.prog g [.ag (tmC x), .rf [.fn h []]] [.one (.bool (q x))]) : Con Tryz.prog 103 [.one (.rows 9 xs.length (tmsC xs)), .fn g [.rf [.fn h []]]] [.one (.int (fg q xs 0))] := by
  refine con_run Tryz.func103 rfl rfl (by simp [Tryz.ntmps103]) ?_
  simp only [argT, argA, argAs, eq_self, xRun, vE, vP, vLen, isCutO, gN, isPick, isCall, AS.pt, AS.ev, AS.rd, look, cav, avB, td0, td1, td2, td3, td4, td5, td6, Option.getD, ↓reduceIte, Nat.reduceLT, Nat.zero_add, true_and, Bool.false_eq_true, reduceCtorEq, Int.reduceNeg, argAs, argA, Tryz.ntmps103]
  refine sw_loop (fun k : Nat => k ≤ xs.length ∧ fg q (xs.drop k) k = fg q xs 0) (fun k => ⟨19, [(8, .i k), (7, .i xs.length), (0, .br (.rows 9 xs.length (tmsC xs))), (1, .fn g [.rp [.fn h []]])], [], [], 0, []⟩) (fun k => xs.length - k) 0 id ⟨Nat.zero_le _, rfl⟩ ?_ ?_
  · simp only [Sub, subT, subB, subO, subP, inj, AV.ren, AV.rens, AV.lt, AV.lts, eq_self, look, td0, td1, td2, td3, td4, td5, td6, List.map, List.nodup_nil, ↓reduceIte, Nat.reduceEqDiff, reduceCtorEq, Int.natCast_zero, and_self, Nat.succ_ne_zero, Int.natCast_zero]
  · rintro k ⟨hk, hf⟩
    refine sw_run 200 _ _ _ ?_
    by_cases hlt : k < xs.length
    · have hi : (k : Int) < (xs.length : Int) := by omega
      have hR := tmsC_row' xs k hlt
      have hpc := hp _ (mem_bang hlt)
      rw [fg_step q xs k hlt] at hf
      obtain ⟨b, hb⟩ : ∃ b, b = q xs[k]! := ⟨_, rfl⟩
      rw [← hb] at hf hpc
      simp only [tysD, tmsD, rowD, eq_self, xRun, vE, vP, vSub, vLoad, vIdx, vBin, vBinT, isAg, isBo, isCutO, isB, bv, gN, isPick, isCall, AS.pt, AS.ev, look, avB, td0, td1, td2, td3, td4, td5, td6, Option.getD, List.map, List.take, List.drop, List.length, ↓reduceIte, Nat.reduceLT, Nat.reduceAdd, Nat.reduceEqDiff, Nat.zero_add, true_and, Bool.false_eq_true, reduceCtorEq, Int.toNat_natCast, Int.reduceNeg, Int.natCast_nonneg, decide_true, and_self, Nat.succ_ne_zero, Nat.le_refl, hi, hR, tmC_eq]
      refine sw_call (hpc) rfl (aAs_ok ?_) ?_ (sw_run 200 _ _ _ ?_)
      · simp only [aAs, aA, aDs, aD, tysD, tmsD, AS.ev, look, Option.getD, List.map, List.nil_append, List.cons_append, ↓reduceIte, eq_self, and_self, tmC_eq]
      · simp only [okR]
      cases b
      · rw [if_neg (by simp)] at hf
        simp only [mkR, flatD, packA, retA, List.headD_cons, qLp, eq_self, xRun, vE, vP, vBin, vBinT, isAg, isBo, isCutO, isB, bv, gN, isPick, isCall, AS.pt, AS.ev, look, cav, td0, td1, td2, td3, td4, td5, td6, Option.getD, ↓reduceIte, Nat.reduceLT, Nat.reduceEqDiff, true_and, Bool.false_eq_true, qLp]
        refine ⟨by unfold inI; omega, k + 1, id, ⟨by omega, hf⟩, by omega, ?_⟩
        simp only [Sub, subT, subB, subO, subP, inj, AV.ren, AV.rens, AV.lt, AV.lts, eq_self, look, td0, td1, td2, td3, td4, td5, td6, List.map, List.nodup_nil, ↓reduceIte, Nat.reduceEqDiff, reduceCtorEq, and_self, Nat.succ_ne_zero, cast1]
      · rw [if_pos rfl] at hf
        simp only [mkR, flatD, packA, retA, List.headD_cons, fQ, qLp, xRet, rPs, xRes, flatA, rD, eq_self, xRun, vE, vP, isCutO, isB, bv, gN, isPick, isCall, AS.pt, AS.ev, look, eatsOf, td0, td1, td2, td3, td4, td5, td6, Option.getD, List.map, List.nodup_nil, ↓reduceIte, Nat.reduceLT, Nat.reduceEqDiff, true_and, and_true, or_false, Bool.false_eq_true, reduceCtorEq, Tryz.results103]
        exact hf
    · have hi : ¬ (k : Int) < (xs.length : Int) := by omega
      rw [fg_end q xs k (by omega)] at hf
      simp only [qLp, eq_self, xRun, vE, vP, vBin, vBinT, isAg, isBo, isCutO, isB, bv, gN, isPick, isCall, popTo, AS.pt, AS.ev, look, td0, td1, td2, td3, td4, td5, td6, Option.getD, Option.isSome, ↓reduceIte, Nat.reduceLT, Nat.reduceEqDiff, true_and, Bool.false_eq_true, Int.reduceNeg, decide_false, hi]
      refine sw_run 200 _ _ _ ?_
      simp only [fQ, xRet, rPs, xRes, flatA, rD, eq_self, xRun, vE, vP, isCutO, gN, isPick, isCall, AS.pt, AS.ev, look, cav, eatsOf, td0, td1, td2, td3, td4, td5, td6, List.map, List.nodup_nil, ↓reduceIte, Nat.reduceLT, or_false, Bool.false_eq_true, reduceCtorEq, Int.reduceNeg, and_self, ← hf, Tryz.results103]
theorem con_ContTm (q : Tm → Bool) (g h : FuncId) (xs : List Tm) (hl : xs.length ≤ 1000000000) (hp : ∀ x ∈ xs, Con Tryz.prog g [.ag (tmC x), .rf [.fn h []]] [.one (.bool (q x))]) : Con Tryz.prog 83 [.one (.rows 9 xs.length (tmsC xs)), .fn g [.rf [.fn h []]]] [.one (.bool (xs.any q))] := by
  have hc := con_IdxTm q g h xs hl hp
  rw [← fg_any q xs 0 (by omega)]
  refine con_run Tryz.func83 rfl rfl (by simp [Tryz.ntmps83]) ?_
  simp only [argT, argA, argAs, eq_self, xRun, vE, vP, isCutO, gN, isPick, isCall, AS.pt, AS.ev, look, cav, avB, td0, td1, td2, td3, td4, td5, td6, Option.getD, ↓reduceIte, Nat.reduceLT, Nat.reduceEqDiff, Nat.zero_add, true_and, Bool.false_eq_true, reduceCtorEq, Nat.succ_ne_zero, argAs, argA, Tryz.ntmps83]
  refine sw_call (hc) rfl (aAs_ok ?_) ?_ (sw_run 200 _ _ _ ?_)
  · simp only [aAs, aA, aD, AS.ev, look, Option.getD, List.map, List.append_nil, ↓reduceIte, Nat.reduceEqDiff, eq_self, and_self]
  · simp only [okR]
  simp only [mkR, flatD, packA, retA, List.headD_cons, fQ, xRet, rPs, xRes, flatA, rD, eq_self, xRun, vE, vP, vBin, vBinT, isAg, isBo, isCutO, gN, isPick, isCall, AS.pt, AS.ev, look, cav, eatsOf, td0, td1, td2, td3, td4, td5, td6, Option.getD, List.map, List.nodup_nil, ↓reduceIte, Nat.reduceLT, or_false, Bool.false_eq_true, reduceCtorEq, and_self, Tryz.results83]
mutual
def allTy (p : Ty → Bool) : Ty → Bool
  | .mk k xs => p (.mk k xs) && allTys p xs
def allTys (p : Ty → Bool) : List Ty → Bool
  | [] => true
  | x :: xs => allTy p x && allTys p xs
end
theorem allTys_any (p : Ty → Bool) : ∀ xs : List Ty, allTys p xs = !xs.any fun x => !allTy p x
  | [] => rfl
  | x :: xs => by rw [allTys, List.any_cons, allTys_any p xs]; cases allTy p x <;> simp
mutual
def allTm (p : Tm → Bool) : Tm → Bool
  | .mk k s o n t r xs => p (.mk k s o n t r xs) && allTms p xs
def allTms (p : Tm → Bool) : List Tm → Bool
  | [] => true
  | x :: xs => allTm p x && allTms p xs
end
theorem allTms_any (p : Tm → Bool) : ∀ xs : List Tm, allTms p xs = !xs.any fun x => !allTm p x
  | [] => rfl
  | x :: xs => by rw [allTms, List.any_cons, allTms_any p xs]; cases allTm p x <;> simp
theorem allTm_eq (p : Tm → Bool) (t : Tm) : allTm p t = (p t && allTms p t.args) := by obtain ⟨k, s, o, n, ty, r, xs⟩ := t; rw [allTm]; rfl
theorem con_allTypes (p : Ty → Bool) (h : FuncId) (B : Nat) (hB : B ≤ 1000000000) (hp : ∀ t : Ty, szL (tyC t) ≤ B → Con Tryz.prog h [.ag (tyC t)] [.one (.bool (p t))]) : ∀ t : Ty, szL (tyC t) ≤ B → Con Tryz.prog 70 [.ag (tyC t), .fn h []] [.one (.bool (allTy p t))] := by
  refine Ty.ind fun kd xs ih hz => ?_
  have hz' : xs.length + szL (tysC xs) ≤ B := by simpa [tyC, szL, szD] using hz
  have h0 := hp (.mk kd xs) hz
  have hin : ∀ x ∈ xs, Con Tryz.prog 96 [.ag (tyC x), .rf [.fn h []]] [.one (.bool (!allTy p x))] := fun x hx => by
    have hr := ih x hx (by
      have := szL_mem tyC xs x hx
      rw [← tysC_flat] at this
      omega)
    obtain ⟨b, hb⟩ : ∃ b, b = allTy p x := ⟨_, rfl⟩
    rw [← hb] at hr ⊢
    refine con_run Tryz.func96 rfl rfl (by simp [Tryz.ntmps96]) ?_
    simp only [argT, argA, argAs, tysD, eq_self, xRun, vE, vP, vSub, vLoad, isCutO, gN, isPick, isCall, AS.pt, AS.ev, AS.box, look, cav, avB, AV.cells, AV.whole, AV.one, td0, td1, td2, td3, td4, td5, td6, Option.getD, Option.isSome, List.map, List.take, List.drop, List.length, List.getElem?_cons_zero, List.all, ↓reduceIte, Nat.reduceLT, Nat.reduceAdd, Nat.reduceEqDiff, Nat.zero_add, true_and, Bool.and_true, Bool.false_eq_true, Nat.succ_ne_zero, Nat.le_refl, argAs, argA, tyC_eq, Tryz.ntmps96]
    refine sw_call (hr) rfl (aAs_ok ?_) ?_ (sw_run 200 _ _ _ ?_)
    · simp only [aAs, aA, aDs, aD, tysD, AS.ev, look, Option.getD, List.map, List.append_nil, ↓reduceIte, Nat.reduceEqDiff, eq_self, and_self, tyC_eq]
    · simp only [okR]
    simp only [mkR, flatD, packA, retA, List.headD_cons, fQ, xRet, rPs, xRes, flatA, rD, eq_self, xRun, vE, vP, vNot, isCutO, gN, isPick, isCall, AS.pt, AS.ev, look, eatsOf, td0, td1, td2, td3, td4, td5, td6, Option.getD, List.map, List.nodup_nil, ↓reduceIte, Nat.reduceLT, or_false, Bool.false_eq_true, reduceCtorEq, and_self, Tryz.results96]
  have hc := con_ContTy (fun x => !allTy p x) 96 h xs (by omega) hin
  rw [allTy, allTys_any]
  obtain ⟨b, hb⟩ : ∃ b, b = p (.mk kd xs) := ⟨_, rfl⟩
  obtain ⟨c, hcc⟩ : ∃ c, c = xs.any fun x => !allTy p x := ⟨_, rfl⟩
  rw [← hb] at h0 ⊢
  rw [← hcc] at hc ⊢
  refine con_run Tryz.func70 rfl rfl (by simp [Tryz.ntmps70]) ?_
  simp only [argT, argA, argAs, eq_self, xRun, vE, vP, vSub, vLoad, isCutO, gN, isPick, isCall, AS.pt, AS.ev, AS.box, look, cav, avB, AV.cells, AV.whole, AV.one, td0, td1, td2, td3, td4, td5, td6, Option.getD, Option.isSome, List.map, List.take, List.drop, List.length, List.getElem?_cons_zero, List.all, ↓reduceIte, Nat.reduceLT, Nat.reduceAdd, Nat.reduceEqDiff, Nat.zero_add, true_and, Bool.and_true, Bool.false_eq_true, reduceCtorEq, Nat.succ_ne_zero, Nat.le_refl, argAs, argA, tyC, Tryz.ntmps70]
  refine sw_call (h0) rfl (aAs_ok ?_) ?_ (sw_run 200 _ _ _ ?_)
  · simp only [aAs, aA, aDs, aD, AS.ev, look, Option.getD, List.map, List.append_nil, ↓reduceIte, eq_self, and_self, tyC]
  · simp only [okR]
  cases b
  · simp only [mkR, flatD, packA, retA, List.headD_cons, fQ, xRet, rPs, xRes, flatA, rD, eq_self, xRun, vE, vP, isCutO, isB, bv, gT, gW, gN, gV, isU, isPick, pkC, pkB, isCall, AS.pt, AS.kn, AS.ev, look, cav, eatsOf, td0, td1, td2, td3, td4, td5, td6, Option.bind, Option.getD, Option.isSome, List.map, List.getElem?_cons_zero, List.getElem?_cons_succ, List.nodup_nil, ↓reduceIte, Nat.reduceLT, Nat.reduceEqDiff, or_false, Bool.false_and, Bool.not_true, Bool.false_eq_true, reduceCtorEq, and_self, Tryz.results70]
  simp only [mkR, flatD, packA, retA, List.headD_cons, eq_self, xRun, vE, vP, vSub, vLoad, vFld, isCutO, isB, bv, gT, gW, gN, gV, isU, isPick, isCall, AS.pt, AS.kn, AS.ev, look, td0, td1, td2, td3, td4, td5, td6, Option.bind, Option.getD, Option.isSome, List.map, List.length, List.getElem?_cons_zero, List.getElem?_cons_succ, ↓reduceIte, Nat.reduceLT, Nat.reduceEqDiff, Nat.zero_add, ne_eq, not_false_eq_true, true_and, Bool.true_and, Bool.false_eq_true, reduceCtorEq, and_self, Nat.succ_ne_zero]
  refine sw_call (hc) rfl (aAs_ok ?_) ?_ (sw_run 200 _ _ _ ?_)
  · simp only [aAs, aA, aD, AS.ev, look, Option.getD, List.map, List.append_nil, ↓reduceIte, Nat.reduceEqDiff, eq_self, and_self]
  · simp only [okR]
  simp only [mkR, flatD, packA, retA, List.headD_cons, fQ, xRet, rPs, xRes, flatA, rD, eq_self, xRun, vE, vP, vNot, isCutO, isB, bv, gT, gW, gN, gV, isU, isPick, pkC, pkA, isCall, AS.pt, AS.kn, AS.ev, look, eatsOf, td0, td1, td2, td3, td4, td5, td6, Option.bind, Option.getD, Option.isSome, List.map, List.getElem?_cons_zero, List.getElem?_cons_succ, List.nodup_nil, ↓reduceIte, Nat.reduceLT, Nat.reduceEqDiff, or_false, Bool.false_eq_true, reduceCtorEq, and_self, Tryz.results70]
theorem con_allTerms (p : Tm → Bool) (h : FuncId) (B : Nat) (hB : B ≤ 1000000000) (hp : ∀ t : Tm, szL (tmC t) ≤ B → Con Tryz.prog h [.ag (tmC t)] [.one (.bool (p t))]) : ∀ t : Tm, szL (tmC t) ≤ B → Con Tryz.prog 50 [.ag (tmC t), .fn h []] [.one (.bool (allTm p t))] := by
  refine Tm.ind fun t ih hz => ?_
  obtain ⟨h5, h7, h8⟩ := sz_parts hz
  have h0 := hp t hz
  have hin : ∀ x ∈ t.args, Con Tryz.prog 84 [.ag (tmC x), .rf [.fn h []]] [.one (.bool (!allTm p x))] := fun x hx => by
    have hr := ih x hx (by
      have := szL_mem tmC t.args x hx
      rw [← tmsC_flat] at this
      omega)
    obtain ⟨b, hb⟩ : ∃ b, b = allTm p x := ⟨_, rfl⟩
    rw [← hb] at hr ⊢
    refine con_run Tryz.func84 rfl rfl (by simp [Tryz.ntmps84]) ?_
    simp only [argT, argA, argAs, tysD, tmsD, eq_self, xRun, vE, vP, vSub, vLoad, isCutO, gN, isPick, isCall, AS.pt, AS.ev, AS.box, look, cav, avB, AV.cells, AV.whole, AV.one, td0, td1, td2, td3, td4, td5, td6, Option.getD, Option.isSome, List.map, List.take, List.drop, List.length, List.getElem?_cons_zero, List.all, ↓reduceIte, Nat.reduceLT, Nat.reduceAdd, Nat.reduceEqDiff, Nat.zero_add, true_and, Bool.and_true, Bool.false_eq_true, Nat.succ_ne_zero, Nat.le_refl, argAs, argA, tmC_eq, Tryz.ntmps84]
    refine sw_call (hr) rfl (aAs_ok ?_) ?_ (sw_run 200 _ _ _ ?_)
    · simp only [aAs, aA, aDs, aD, tysD, tmsD, AS.ev, look, Option.getD, List.map, List.append_nil, ↓reduceIte, Nat.reduceEqDiff, eq_self, and_self, tmC_eq]
    · simp only [okR]
    simp only [mkR, flatD, packA, retA, List.headD_cons, fQ, xRet, rPs, xRes, flatA, rD, eq_self, xRun, vE, vP, vNot, isCutO, gN, isPick, isCall, AS.pt, AS.ev, look, eatsOf, td0, td1, td2, td3, td4, td5, td6, Option.getD, List.map, List.nodup_nil, ↓reduceIte, Nat.reduceLT, or_false, Bool.false_eq_true, reduceCtorEq, and_self, Tryz.results84]
  have hc := con_ContTm (fun x => !allTm p x) 84 h t.args (by omega) hin
  rw [allTm_eq, allTms_any]
  obtain ⟨b, hb⟩ : ∃ b, b = p t := ⟨_, rfl⟩
  obtain ⟨c, hcc⟩ : ∃ c, c = t.args.any fun x => !allTm p x := ⟨_, rfl⟩
  rw [← hb] at h0 ⊢
  rw [← hcc] at hc ⊢
  refine con_run Tryz.func50 rfl rfl (by simp [Tryz.ntmps50]) ?_
  simp only [argT, argA, argAs, tysD, tmsD, eq_self, xRun, vE, vP, vSub, vLoad, isCutO, gN, isPick, isCall, AS.pt, AS.ev, AS.box, look, cav, avB, AV.cells, AV.whole, AV.one, td0, td1, td2, td3, td4, td5, td6, Option.getD, Option.isSome, List.map, List.take, List.drop, List.length, List.getElem?_cons_zero, List.all, ↓reduceIte, Nat.reduceLT, Nat.reduceAdd, Nat.reduceEqDiff, Nat.zero_add, true_and, Bool.and_true, Bool.false_eq_true, reduceCtorEq, Nat.succ_ne_zero, Nat.le_refl, argAs, argA, tmC_eq, Tryz.ntmps50]
  refine sw_call (h0) rfl (aAs_ok ?_) ?_ (sw_run 200 _ _ _ ?_)
  · simp only [aAs, aA, aDs, aD, tysD, tmsD, AS.ev, look, Option.getD, List.map, List.append_nil, ↓reduceIte, eq_self, and_self, tmC_eq]
  · simp only [okR]
  cases b
  · simp only [mkR, flatD, packA, retA, List.headD_cons, fQ, xRet, rPs, xRes, flatA, rD, eq_self, xRun, vE, vP, isCutO, isB, bv, gT, gW, gN, gV, isU, isPick, pkC, pkB, isCall, AS.pt, AS.kn, AS.ev, look, cav, eatsOf, td0, td1, td2, td3, td4, td5, td6, Option.bind, Option.getD, Option.isSome, List.map, List.getElem?_cons_zero, List.getElem?_cons_succ, List.nodup_nil, ↓reduceIte, Nat.reduceLT, Nat.reduceEqDiff, or_false, Bool.false_and, Bool.not_true, Bool.false_eq_true, reduceCtorEq, and_self, Tryz.results50]
  simp only [mkR, flatD, packA, retA, List.headD_cons, eq_self, xRun, vE, vP, vSub, vLoad, vFld, isCutO, isB, bv, gT, gW, gN, gV, isU, isPick, isCall, AS.pt, AS.kn, AS.ev, look, td0, td1, td2, td3, td4, td5, td6, Option.bind, Option.getD, Option.isSome, List.map, List.length, List.getElem?_cons_zero, List.getElem?_cons_succ, ↓reduceIte, Nat.reduceLT, Nat.reduceEqDiff, Nat.zero_add, ne_eq, not_false_eq_true, true_and, Bool.true_and, Bool.false_eq_true, reduceCtorEq, and_self, Nat.succ_ne_zero]
  refine sw_call (hc) rfl (aAs_ok ?_) ?_ (sw_run 200 _ _ _ ?_)
  · simp only [aAs, aA, aD, AS.ev, look, Option.getD, List.map, List.append_nil, ↓reduceIte, Nat.reduceEqDiff, eq_self, and_self]
  · simp only [okR]
  simp only [mkR, flatD, packA, retA, List.headD_cons, fQ, xRet, rPs, xRes, flatA, rD, eq_self, xRun, vE, vP, vNot, isCutO, isB, bv, gT, gW, gN, gV, isU, isPick, pkC, pkA, isCall, AS.pt, AS.kn, AS.ev, look, eatsOf, td0, td1, td2, td3, td4, td5, td6, Option.bind, Option.getD, Option.isSome, List.map, List.getElem?_cons_zero, List.getElem?_cons_succ, List.nodup_nil, ↓reduceIte, Nat.reduceLT, Nat.reduceEqDiff, or_false, Bool.false_eq_true, reduceCtorEq, and_self, Tryz.results50]
def shTy (t : Ty) : Bool := shB t.kind t.args.length
mutual
theorem formT_all : ∀ t : Ty, formT t = allTy shTy t
  | .mk k xs => by rw [formT, allTy, formTs_all xs]; show _ = (shB k xs.length && _); rw [Bool.and_comm]
theorem formTs_all : ∀ xs : List Ty, formTs xs = allTys shTy xs
  | [] => by rw [formTs, allTys]
  | x :: xs => by rw [formTs, allTys, formT_all x, formTs_all xs]
end
theorem con_ValidNode (t : Ty) (hz : szL (tyC t) ≤ 1000000000) : Con Tryz.prog 71 [.ag (tyC t)] [.one (.bool (shTy t))] := by
  have hw := con_within t.kind 1 4
  obtain ⟨kd, xs⟩ := t
  simp only [shTy, Ty.kind, Ty.args] at hw ⊢
  by_cases hin : 1 ≤ kd ∧ kd ≤ 4
  case neg =>
    replace hw : Con Tryz.prog 46 [.one (.int kd), .one (.int 1), .one (.int 4)] [.one (.bool false)] := by
      have e1 : (decide (1 ≤ kd) && decide (kd ≤ 4)) = false := by simpa using hin
      exact e1 ▸ hw
    have e2 : shB kd xs.length = false := by unfold shB; rw [if_neg (by omega), if_neg (by omega), if_neg (by omega)]
    rw [e2]
    refine con_run Tryz.func71 rfl rfl (by simp [Tryz.ntmps71]) ?_
    simp only [argT, argA, eq_self, xRun, vE, vP, isCutO, gN, isPick, isCall, AS.pt, AS.ev, AS.box, look, cav, avB, AV.cells, AV.whole, AV.one, td0, td1, td2, td3, td4, td5, td6, Option.getD, List.map, List.all, ↓reduceIte, Nat.reduceLT, Nat.zero_add, true_and, Bool.and_true, Bool.false_eq_true, tyC, Tryz.ntmps71]
    refine sw_drawn (.cons 0 true (.cons 1 true (.cons 2 false (.cons 3 true (.cons 4 true (.cons 5 true (.cons 6 true (.cons 8 true (.cons 9 true (.cons 10 true (.cons 7 false (.cons 11 true (.cons 12 true (.cons 13 true (.cons 14 true (.cons 15 true (.nil))))))))))))))))) (by kernel_rfl) fQ_panic (by kernel_rfl) (sw_run 200 _ _ _ ?_)
    simp only [eq_self, xRun, vP, vSub, vLoad, vFld, gN, isPick, isCall, AS.pt, AS.ev, look, td0, td1, td2, td3, td4, td5, td6, Option.getD, Option.isSome, List.getElem?_cons_zero, List.getElem?_cons_succ, ↓reduceIte, Nat.reduceLT, Nat.reduceEqDiff, Nat.add_zero, ne_eq, not_false_eq_true, true_and, Bool.false_eq_true, Nat.succ_ne_zero]
    refine sw_callD (hw) rfl (aAs_ok ?_) ?_ (sw_run 200 _ _ _ ?_)
    · simp only [aAs, aA, aD, AS.ev, look, cav, Option.getD, List.map, List.append_nil, ↓reduceIte, eq_self, and_self]
    · simp only [okR]
    simp only [mkR, flatD, packA, retA, List.headD_cons, fQ, xRet, rPs, xRes, flatA, rD, eq_self, xRun, vP, isB, bv, gT, gW, gN, gV, isU, isPick, pkC, pkB, AS.pt, AS.kn, AS.ev, look, cav, eatsOf, td0, td1, td2, td3, td4, td5, td6, Option.bind, Option.getD, Option.isSome, List.map, List.getElem?_cons_zero, List.getElem?_cons_succ, List.nodup_nil, ↓reduceIte, Nat.reduceLT, Nat.reduceEqDiff, or_false, Bool.not_true, Bool.false_eq_true, reduceCtorEq, and_self, Tryz.results71]
  replace hw : Con Tryz.prog 46 [.one (.int kd), .one (.int 1), .one (.int 4)] [.one (.bool true)] := by
    have e1 : (decide (1 ≤ kd) && decide (kd ≤ 4)) = true := by simpa using hin
    exact e1 ▸ hw
  obtain ⟨h1, h2⟩ := hin
  rcases (by omega : kd = 1 ∨ kd = 2 ∨ kd = 3 ∨ kd = 4) with rfl | rfl | rfl | rfl
  all_goals
    simp only [shB]
    refine con_run Tryz.func71 rfl rfl (by simp [Tryz.ntmps71]) ?_
    simp only [argT, argA, eq_self, xRun, vE, vP, isCutO, gN, isPick, isCall, AS.pt, AS.ev, AS.box, look, cav, avB, AV.cells, AV.whole, AV.one, td0, td1, td2, td3, td4, td5, td6, Option.getD, List.map, List.all, ↓reduceIte, Nat.reduceLT, Nat.zero_add, true_and, or_false, or_true, Bool.and_true, Bool.false_eq_true, Int.reduceEq, tyC, Tryz.ntmps71]
    refine sw_drawn (.cons 0 true (.cons 1 true (.cons 2 false (.cons 3 true (.cons 4 true (.cons 5 true (.cons 6 true (.cons 8 true (.cons 9 true (.cons 10 true (.cons 7 false (.cons 11 true (.cons 12 true (.cons 13 true (.cons 14 true (.cons 15 true (.nil))))))))))))))))) (by kernel_rfl) fQ_panic (by kernel_rfl) (sw_run 200 _ _ _ ?_)
    simp only [eq_self, xRun, vP, vSub, vLoad, vFld, gN, isPick, isCall, AS.pt, AS.ev, look, td0, td1, td2, td3, td4, td5, td6, Option.getD, Option.isSome, List.getElem?_cons_zero, List.getElem?_cons_succ, ↓reduceIte, Nat.reduceLT, Nat.reduceEqDiff, Nat.add_zero, ne_eq, not_false_eq_true, true_and, Bool.false_eq_true, Nat.succ_ne_zero]
    refine sw_callD (hw) rfl (aAs_ok ?_) ?_ (sw_run 200 _ _ _ ?_)
    · simp only [aAs, aA, aD, AS.ev, look, cav, Option.getD, List.map, List.append_nil, ↓reduceIte, eq_self, and_self]
    · simp only [okR]
    simp only [mkR, flatD, packA, retA, List.headD_cons, fQ, rowD, xRet, rPs, xRes, flatA, rD, eq_self, xRun, vE, vP, vSub, vLoad, vFld, vIdx, vBin, vBinT, isAg, isBo, vLen, vRow, xFill, isB, bv, gT, gW, gN, gV, isU, isPick, pkC, pkA, isCall, AS.pt, AS.kn, AS.ev, AS.mk', AS.owf, AS.rd, kill, look, cav, avO, avF, setRowG, AV.cells, AV.whole, AV.one, cD, cDs, eatsOf, dpOf, td0, td1, td2, td3, td4, td5, td6, Option.bind, Option.getD, Option.isSome, List.map, List.take, List.drop, List.length, List.getElem?_cons_zero, List.getElem?_cons_succ, List.set, List.foldr, List.all, List.replicate, List.nodup_nil, ↓reduceIte, Nat.reduceLT, Nat.reduceAdd, Nat.reduceLeDiff, Nat.reduceEqDiff, Nat.zero_add, Nat.add_zero, Nat.mul_one, ne_eq, not_false_eq_true, true_and, and_true, or_false, or_true, Bool.and_true, Bool.false_eq_true, id_eq, reduceCtorEq, Int.reduceLT, Int.reduceLE, Int.reduceSub, Int.reduceNeg, Int.reduceToNat, Int.toNat_zero, Int.toNat_one, Int.le_refl, and_self, Nat.succ_ne_zero, Nat.le_refl, rowAt, inI, Int.reduceToNat, Tryz.results71]
    omega
theorem con_ValidTyI (t : Ty) (hz : szL (tyC t) ≤ 1000000000) : Con Tryz.prog 45 [.ag (tyC t)] [.one (.bool (vTy t))] := by
  have h1 := con_SizeTyI t hz
  have h2 := con_DepthTyI t hz
  have h3 := con_allTypes shTy 71 1000000000 (Nat.le_refl _) (fun t h => con_ValidNode t h) t hz
  unfold vTy
  rw [formT_all]
  obtain ⟨c, hc⟩ : ∃ c, c = allTy shTy t := ⟨_, rfl⟩
  rw [← hc] at h3 ⊢
  refine con_run Tryz.func45 rfl rfl (by simp [Tryz.ntmps45]) ?_
  simp only [argT, argA, tysD, eq_self, xRun, vE, vP, vSub, vLoad, isCutO, gN, isPick, isCall, AS.pt, AS.ev, AS.box, look, cav, avB, AV.cells, AV.whole, AV.one, td0, td1, td2, td3, td4, td5, td6, Option.getD, List.map, List.take, List.drop, List.length, List.all, ↓reduceIte, Nat.reduceLT, Nat.reduceAdd, Nat.reduceEqDiff, Nat.zero_add, true_and, Bool.and_true, Bool.false_eq_true, Nat.le_refl, tyC_eq, Tryz.ntmps45]
  refine sw_call (h1) rfl (aAs_ok ?_) ?_ (sw_run 200 _ _ _ ?_)
  · simp only [aAs, aA, aDs, aD, tysD, AS.ev, look, Option.getD, List.map, List.append_nil, ↓reduceIte, eq_self, and_self, tyC_eq]
  · simp only [okR]
  by_cases e1 : (szT t : Int) ≤ 30
  case neg => simp only [mkR, flatD, packA, retA, List.headD_cons, fQ, xRet, rPs, xRes, flatA, rD, eq_self, xRun, vE, vP, vBin, vBinT, isAg, isBo, isCutO, isB, bv, gT, gW, gN, gV, isU, isPick, pkC, pkB, isCall, AS.pt, AS.kn, AS.ev, look, cav, eatsOf, td0, td1, td2, td3, td4, td5, td6, Option.bind, Option.getD, Option.isSome, List.map, List.getElem?_cons_zero, List.getElem?_cons_succ, List.nodup_nil, ↓reduceIte, Nat.reduceLT, Nat.reduceEqDiff, or_false, Bool.false_and, Bool.not_true, Bool.false_eq_true, reduceCtorEq, decide_false, and_self, e1, Tryz.results45]
  simp only [mkR, flatD, packA, retA, List.headD_cons, eq_self, xRun, vE, vP, vSub, vLoad, vBin, vBinT, isAg, isBo, isCutO, isB, bv, gT, gW, gN, gV, isU, isPick, isCall, AS.pt, AS.kn, AS.ev, look, cav, td0, td1, td2, td3, td4, td5, td6, Option.bind, Option.getD, Option.isSome, List.take, List.drop, List.length, List.getElem?_cons_zero, List.getElem?_cons_succ, ↓reduceIte, Nat.reduceLT, Nat.reduceAdd, Nat.reduceEqDiff, Nat.zero_add, true_and, Bool.true_and, Bool.false_eq_true, decide_true, and_self, Nat.le_refl, eq_true e1]
  refine sw_call (h2) rfl (aAs_ok ?_) ?_ (sw_run 200 _ _ _ ?_)
  · simp only [aAs, aA, aDs, aD, tysD, AS.ev, look, Option.getD, List.map, List.append_nil, ↓reduceIte, Nat.reduceEqDiff, eq_self, and_self, tyC_eq]
  · simp only [okR]
  by_cases e2 : (depT t : Int) ≤ 8
  case neg => simp only [mkR, flatD, packA, retA, List.headD_cons, fQ, xRet, rPs, xRes, flatA, rD, eq_self, xRun, vE, vP, vBin, vBinT, isAg, isBo, isCutO, isB, bv, gT, gW, gN, gV, isU, isPick, pkC, pkA, pkB, isCall, AS.pt, AS.kn, AS.ev, look, cav, eatsOf, td0, td1, td2, td3, td4, td5, td6, Option.bind, Option.getD, Option.isSome, List.map, List.getElem?_cons_zero, List.getElem?_cons_succ, List.nodup_nil, ↓reduceIte, Nat.reduceLT, Nat.reduceEqDiff, or_false, Bool.false_and, Bool.not_true, Bool.false_eq_true, reduceCtorEq, decide_false, and_self, e2, Tryz.results45]
  simp only [mkR, flatD, packA, retA, List.headD_cons, eq_self, xRun, vE, vP, vSub, vLoad, vBin, vBinT, isAg, isBo, isCutO, isB, bv, gT, gW, gN, gV, isU, isPick, pkC, pkA, isCall, AS.pt, AS.kn, AS.ev, look, cav, td0, td1, td2, td3, td4, td5, td6, Option.bind, Option.getD, Option.isSome, List.take, List.drop, List.length, List.getElem?_cons_zero, List.getElem?_cons_succ, ↓reduceIte, Nat.reduceLT, Nat.reduceAdd, Nat.reduceEqDiff, Nat.zero_add, true_and, Bool.true_and, Bool.false_eq_true, decide_true, and_self, Nat.le_refl, eq_true e2]
  refine sw_call (h3) rfl (aAs_ok ?_) ?_ (sw_run 200 _ _ _ ?_)
  · simp only [aAs, aA, aDs, aD, tysD, AS.ev, look, Option.getD, List.map, List.append_nil, ↓reduceIte, Nat.reduceEqDiff, eq_self, and_self, tyC_eq]
  · simp only [okR]
  simp only [mkR, flatD, packA, retA, List.headD_cons, fQ, xRet, rPs, xRes, flatA, rD, eq_self, xRun, vE, vP, isCutO, isB, bv, gN, isPick, pkC, pkA, isCall, AS.pt, AS.ev, look, eatsOf, td0, td1, td2, td3, td4, td5, td6, Option.getD, List.map, List.nodup_nil, ↓reduceIte, Nat.reduceLT, Nat.reduceEqDiff, or_false, Bool.false_eq_true, reduceCtorEq, and_self, Tryz.results45]
end Go.Proofs.YtpoemjeelbmpkaaGreat
