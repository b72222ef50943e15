/-
  Makers of terms, of both sides.
-/
import Derived.Test.YtemlobcbepgbaaaTmC
namespace Go.Proofs.Ytemlobcbepgbaaa
open Go.RowKit
set_option linter.unusedVariables false
set_option linter.unusedSimpArgs false
set_option maxRecDepth 20000
theorem tyk (k : Int) (xs : List Ty) : (Ty.mk k xs).kind = k := rfl
theorem tya (k : Int) (xs : List Ty) : (Ty.mk k xs).args = xs := rfl
def e0 : ByteArray := ⟨#[]⟩
def ty0 : Ty := .mk 0 []
def tInt (n : Int) : Tm := .mk 2 e0 e0 n ty0 ty0 []
def tVar (s : ByteArray) : Tm := .mk 1 s e0 0 ty0 ty0 []
def tNode (k : Int) (xs : List Tm) : Tm := .mk k e0 e0 0 ty0 ty0 xs
def tOp (s : ByteArray) (xs : List Tm) : Tm := .mk 4 s e0 0 ty0 ty0 xs
def tLam (s : ByteArray) (t : Ty) (e : Tm) : Tm := .mk 6 s e0 0 t ty0 [e]
def t0 : Tm := .mk 0 e0 e0 0 ty0 ty0 []
theorem sz_tInt (n : Int) : szL (tmC (tInt n)) = 0 := rfl
theorem sz_ty0 : szL (tyC ty0) = 0 := rfl
theorem sz_tVar (s : ByteArray) : szL (tmC (tVar s)) = s.size := by rw [szL_tm]; simp only [tVar, mk_name, mk_other, mk_ty, mk_res, mk_args, sz_ty0, show e0.size = 0 from rfl, tmsC, szL, List.length_nil]; omega
theorem sz_e0 : e0.size = 0 := rfl
theorem sz_tNode (k : Int) (xs : List Tm) : szL (tmC (tNode k xs)) = xs.length + szL (tmsC xs) := by
  rw [szL_tm]; simp only [tNode, mk_name, mk_other, mk_ty, mk_res, mk_args, sz_ty0, sz_e0]; omega
theorem sz_tOp (s : ByteArray) (xs : List Tm) : szL (tmC (tOp s xs)) = s.size + (xs.length + szL (tmsC xs)) := by
  rw [szL_tm]; simp only [tOp, mk_name, mk_other, mk_ty, mk_res, mk_args, sz_ty0, sz_e0]; omega
theorem sz_tLam (s : ByteArray) (t : Ty) (e : Tm) : szL (tmC (tLam s t e)) = s.size + (szL (tyC t) + (1 + szL (tmC e))) := by
  rw [szL_tm]; simp only [tLam, mk_name, mk_other, mk_ty, mk_res, mk_args, sz_ty0, sz_e0, tmsC, List.append_nil, List.length_cons, List.length_nil]; omega
theorem sz_ms1 (a : Tm) : szL (tmsC [a]) = szL (tmC a) := by rw [tmsC, tmsC, List.append_nil]
theorem sz_ms2 (a b : Tm) : szL (tmsC [a, b]) = szL (tmC a) + szL (tmC b) := by rw [tmsC, szL_append, sz_ms1]
theorem con_tmInt (n : Int) : Con Try.prog 109 [.one (.int n)] [.ag (tmC (tInt n))] := by
  refine con_run Try.func109 rfl rfl (by simp [Try.ntmps109]) ?_
  simp only [argT, argA, fQ, tysD, tmsD, xRet, rPs, xRes, flatA, rD, rDs, eq_self, xRun, vE, vP, vBuild, vStore, isCutO, xFill, gN, isPick, isCall, AS.pt, AS.ev, AS.box, AS.setb, look, cav, avB, setRowG, AV.cells, AV.whole, AV.one, eatsOf, td0, td1, td6, Option.getD, Option.isSome, List.map, List.length, List.getElem?_cons_zero, List.getElem?_cons_succ, List.set, List.all, List.nodup_nil, List.append_nil, ↓reduceIte, Nat.reduceLT, Nat.reduceAdd, Nat.reduceLeDiff, Nat.reduceEqDiff, Nat.zero_add, or_false, Bool.and_true, Bool.false_eq_true, reduceCtorEq, and_self, Nat.le_refl, tInt, ty0, e0, tmC_eq, mk_kind, mk_name, mk_other, mk_n, mk_ty, mk_res, mk_args, tyk, tya, tysC, List.length_cons, List.length_nil, tmsC, Try.ntmps109, Try.results109]
theorem con_l5Int (n : Int) : Con Try.prog 104 [.one (.int n)] [.ag (tmC (tInt n))] := by
  refine con_run Try.func104 rfl rfl (by simp [Try.ntmps104]) ?_
  simp only [argT, argA, fQ, tysD, tmsD, xRet, rPs, xRes, flatA, rD, rDs, eq_self, xRun, vE, vP, vBuild, vStore, isCutO, xFill, gN, isPick, isCall, AS.pt, AS.ev, AS.box, AS.setb, look, cav, avB, setRowG, AV.cells, AV.whole, AV.one, eatsOf, td0, td1, td6, Option.getD, Option.isSome, List.map, List.length, List.getElem?_cons_zero, List.getElem?_cons_succ, List.set, List.all, List.nodup_nil, List.append_nil, ↓reduceIte, Nat.reduceLT, Nat.reduceAdd, Nat.reduceLeDiff, Nat.reduceEqDiff, Nat.zero_add, or_false, Bool.and_true, Bool.false_eq_true, reduceCtorEq, and_self, Nat.le_refl, tInt, ty0, e0, tmC_eq, mk_kind, mk_name, mk_other, mk_n, mk_ty, mk_res, mk_args, tyk, tya, tysC, List.length_cons, List.length_nil, tmsC, Try.ntmps104, Try.results104]
theorem con_tmVar (s : ByteArray) : Con Try.prog 110 [.one (.str s)] [.ag (tmC (tVar s))] := by
  refine con_run Try.func110 rfl rfl (by simp [Try.ntmps110]) ?_
  simp only [argT, argA, fQ, tysD, tmsD, xRet, rPs, xRes, flatA, rD, rDs, eq_self, xRun, vE, vP, vBuild, vStore, isCutO, xFill, gN, isPick, isCall, AS.pt, AS.ev, AS.box, AS.setb, look, cav, avB, setRowG, AV.cells, AV.whole, AV.one, eatsOf, td0, td1, td6, Option.getD, Option.isSome, List.map, List.length, List.getElem?_cons_zero, List.getElem?_cons_succ, List.set, List.all, List.nodup_nil, List.append_nil, ↓reduceIte, Nat.reduceLT, Nat.reduceAdd, Nat.reduceLeDiff, Nat.reduceEqDiff, Nat.zero_add, or_false, Bool.and_true, Bool.false_eq_true, reduceCtorEq, and_self, Nat.le_refl, tVar, ty0, e0, tmC_eq, mk_kind, mk_name, mk_other, mk_n, mk_ty, mk_res, mk_args, tyk, tya, tysC, List.length_cons, List.length_nil, tmsC, Try.ntmps110, Try.results110]
theorem con_l5Var (s : ByteArray) : Con Try.prog 105 [.one (.str s)] [.ag (tmC (tVar s))] := by
  refine con_run Try.func105 rfl rfl (by simp [Try.ntmps105]) ?_
  simp only [argT, argA, fQ, tysD, tmsD, xRet, rPs, xRes, flatA, rD, rDs, eq_self, xRun, vE, vP, vBuild, vStore, isCutO, xFill, gN, isPick, isCall, AS.pt, AS.ev, AS.box, AS.setb, look, cav, avB, setRowG, AV.cells, AV.whole, AV.one, eatsOf, td0, td1, td6, Option.getD, Option.isSome, List.map, List.length, List.getElem?_cons_zero, List.getElem?_cons_succ, List.set, List.all, List.nodup_nil, List.append_nil, ↓reduceIte, Nat.reduceLT, Nat.reduceAdd, Nat.reduceLeDiff, Nat.reduceEqDiff, Nat.zero_add, or_false, Bool.and_true, Bool.false_eq_true, reduceCtorEq, and_self, Nat.le_refl, tVar, ty0, e0, tmC_eq, mk_kind, mk_name, mk_other, mk_n, mk_ty, mk_res, mk_args, tyk, tya, tysC, List.length_cons, List.length_nil, tmsC, Try.ntmps105, Try.results105]
theorem con_tmForm (k : Int) (n : Nat) (cs : List D) : ConM Try.prog 64 [.b (.one (.int k)), .m (.rows 9 n cs)] [.ag [.int k, .str e0, .str e0, .int 0, .int 0, .rows 2 0 [], .int 0, .rows 2 0 [], .rows 9 n cs]] := by
  refine con_runM Try.func64 rfl rfl (by simp [Try.ntmps64]) ?_
  simp only [argA, s0M, numT, flatM, packM, mkR, List.headD_cons, fQ, xRet, rPs, xRes, flatA, rD, rDs, eq_self, xRun, vE, vP, vBuild, vStore, isCutO, xFill, gN, isPick, isCall, AS.pt, AS.ev, AS.box, AS.setb, AS.mk', AS.owf, kill, look, avB, setRowG, AV.cells, AV.whole, AV.one, eatsOf, td0, td1, td6, Option.bind, Option.getD, Option.isSome, List.map, List.length, List.getElem?_cons_zero, List.getElem?_cons_succ, List.set, List.foldr, List.all, List.not_mem_nil, List.nodup_cons, List.nodup_nil, List.append_nil, ↓reduceIte, Nat.reduceLT, Nat.reduceAdd, Nat.reduceLeDiff, Nat.reduceEqDiff, Nat.zero_add, not_false_eq_true, or_false, Bool.and_true, Bool.false_eq_true, id_eq, reduceCtorEq, and_self, Nat.succ_ne_zero, Nat.le_refl, e0, Try.ntmps64, Try.results64]
theorem con_tmOp (s : ByteArray) (n : Nat) (cs : List D) : ConM Try.prog 111 [.b (.one (.str s)), .m (.rows 9 n cs)] [.ag [.int 4, .str s, .str e0, .int 0, .int 0, .rows 2 0 [], .int 0, .rows 2 0 [], .rows 9 n cs]] := by
  refine con_runM Try.func111 rfl rfl (by simp [Try.ntmps111]) ?_
  simp only [argA, s0M, numT, flatM, packM, mkR, List.headD_cons, fQ, xRet, rPs, xRes, flatA, rD, rDs, eq_self, xRun, vE, vP, vBuild, vStore, isCutO, xFill, gN, isPick, isCall, AS.pt, AS.ev, AS.box, AS.setb, AS.mk', AS.owf, kill, look, cav, avB, setRowG, AV.cells, AV.whole, AV.one, eatsOf, td0, td1, td6, Option.bind, Option.getD, Option.isSome, List.map, List.length, List.getElem?_cons_zero, List.getElem?_cons_succ, List.set, List.foldr, List.all, List.not_mem_nil, List.nodup_cons, List.nodup_nil, List.append_nil, ↓reduceIte, Nat.reduceLT, Nat.reduceAdd, Nat.reduceLeDiff, Nat.reduceEqDiff, Nat.zero_add, not_false_eq_true, or_false, Bool.and_true, Bool.false_eq_true, id_eq, reduceCtorEq, and_self, Nat.succ_ne_zero, Nat.le_refl, e0, Try.ntmps111, Try.results111]
theorem con_l5Node (kd : Int) (xs : List Tm) (hz : xs.length + szL (tmsC xs) ≤ 1000000000) : Con Try.prog 60 [.one (.int kd), .one (.rows 9 xs.length (tmsC xs))] [.ag (tmC (tNode kd xs))] := by
  refine con_run Try.func60 rfl rfl (by simp [Try.ntmps60]) ?_
  simp only [argT, argA, eq_self, xRun, vE, vP, vBuild, vStore, isCutO, xFill, gN, isPick, isCall, AS.pt, AS.ev, AS.box, AS.setb, look, cav, avB, setRowG, AV.cells, AV.whole, AV.one, td1, td6, Option.getD, Option.isSome, List.map, List.length, List.getElem?_cons_zero, List.set, List.all, ↓reduceIte, Nat.reduceLT, Nat.reduceAdd, Nat.reduceLeDiff, Nat.reduceEqDiff, Nat.zero_add, true_and, Bool.and_true, Bool.false_eq_true, reduceCtorEq, and_self, Nat.le_refl, Try.ntmps60]
  refine sw_ownB 1 8 34 rfl rfl ?_
  refine sw_loop (fun k : Nat => k ≤ xs.length) (fun k => ⟨26, [(6, .i k), (1, .br (.rows 9 xs.length (tmsC xs))), (4, .bx 0 0), (5, .bx 1 0)], [(0, [.i 0, .s ⟨#[]⟩, .s ⟨#[]⟩, .i 0, .i 0, .nl 2, .i 0, .nl 2, .nl 9]), (1, [.i kd, .s ⟨#[]⟩, .s ⟨#[]⟩, .i 0, .i 0, .nl 2, .i 0, .nl 2, .sl 2])], [(2, some ⟨.rows 9 k (tmsC (xs.take k)), some 34, true⟩)], 3, []⟩) (fun k => xs.length - k) 0 id (Nat.zero_le _) ?_ ?_
  · simp only [Sub, subT, subB, subO, subP, inj, AV.ren, AV.rens, AV.lt, AV.lts, eq_self, AS.setb, AS.mk', AS.owf, kill, look, Option.bind, List.map, List.take, List.set, List.foldr, List.mem_cons, List.not_mem_nil, List.nodup_cons, List.nodup_nil, ↓reduceIte, Nat.reduceLT, Nat.reduceAdd, Nat.reduceEqDiff, not_false_eq_true, or_false, id_eq, reduceCtorEq, Int.natCast_zero, and_self, Nat.succ_ne_zero, tmsC]
  · rintro k hk
    refine sw_run 200 _ _ _ ?_
    by_cases hlt : k < xs.length
    · have hi : (k : Int) < (xs.length : Int) := by omega
      have hR := tmsC_row' xs k hlt
      have hs := szL_tms' xs k hlt
      simp only [tysD, tmsD, eq_self, xRun, vE, vP, vBin, vBinT, isAg, isBo, vLen, isCutO, isB, bv, gN, isPick, isCall, AS.pt, AS.ev, AS.rd, look, td4, Option.getD, ↓reduceIte, Nat.reduceLT, Nat.reduceEqDiff, true_and, Bool.false_eq_true, decide_true, hi, tmC_eq]
      refine sw_drawn (.cons 0 true (.cons 1 true (.cons 2 true (.cons 3 true (.cons 4 true (.cons 5 true (.cons 6 false (.cons 7 false (.cons 8 false (.cons 9 true (.cons 10 false (.nil)))))))))))) (by kernel_rfl) qLp_panic (by kernel_rfl) (sw_run 200 _ _ _ ?_)
      simp only [tysD, tmsD, rowD, eq_self, xRun, vP, vSub, vLoad, vFld, vIdx, gN, isPick, isCall, AS.pt, AS.ev, look, avB, td0, td1, td3, Option.getD, Option.isSome, List.map, List.take, List.drop, List.length, List.getElem?_cons_zero, List.getElem?_cons_succ, ↓reduceIte, Nat.reduceLT, Nat.reduceAdd, Nat.reduceEqDiff, Nat.zero_add, ne_eq, not_false_eq_true, true_and, Bool.false_eq_true, Int.toNat_natCast, Int.natCast_nonneg, and_self, Nat.succ_ne_zero, Nat.le_refl, hi, hR, tmC_eq]
      refine sw_callD (con_l5Copy xs[k]! (by omega)) rfl (aAs_ok ?_) ?_ (sw_run 200 _ _ _ ?_)
      · simp only [aAs, aA, aDs, aD, tysD, tmsD, AS.ev, look, Option.getD, List.map, List.append_nil, ↓reduceIte, eq_self, and_self, tmC_eq]
      · simp only [okR]
      simp only [mkR, flatD, packA, retA, qLp, tysD, tmsD, eq_self, xRun, vE, vP, vFld, vBin, vBinT, isAg, isBo, vRow, vStore, vApp, apP, apC, isCl, isCutO, xFill, appL, appR, gN, isPick, isCall, AS.pt, AS.ev, AS.setb, AS.mk', AS.owf, kill, look, cav, setRowG, AV.cells, AV.whole, AV.one, cD, cDs, eatsOf, dpOf, td1, td3, td5, td6, Option.bind, Option.getD, Option.map, Option.isSome, List.map, List.take, List.length, List.getElem?_cons_zero, List.getElem?_cons_succ, List.set, List.foldr, List.all, List.replicate, List.mem_cons, List.not_mem_nil, List.nodup_cons, List.nodup_nil, List.nil_append, List.cons_append, List.append_nil, ↓reduceIte, Nat.reduceLT, Nat.reduceAdd, Nat.reduceLeDiff, Nat.reduceEqDiff, Nat.zero_add, Nat.zero_mul, Nat.one_mul, ne_eq, not_false_eq_true, true_and, or_false, or_true, Bool.and_true, Bool.false_eq_true, id_eq, and_self, Nat.succ_ne_zero, Nat.le_refl, tmC_eq, qLp]
      refine ⟨⟨fun o ho => by omega, by unfold maxLen; omega, by omega⟩, by unfold inI; omega, k + 1, rn1 2 7, by omega, by omega, ?_⟩
      simp only [Sub, subT, subB, subO, subP, inj, AV.ren, AV.rens, AV.lt, AV.lts, tysD, tmsD, eq_self, AS.owf, look, Option.bind, List.map, List.mem_cons, List.not_mem_nil, List.nodup_cons, List.nodup_nil, ↓reduceIte, Nat.reduceLT, Nat.reduceEqDiff, not_false_eq_true, or_false, id_eq, reduceCtorEq, and_self, rn1, cast1, tmsC_snoc' xs k hlt, tmC_eq]
    · have hi : ¬ (k : Int) < (xs.length : Int) := by omega
      obtain rfl : k = xs.length := by omega
      simp only [qLp, eq_self, xRun, vE, vP, vBin, vBinT, isAg, isBo, vLen, isCutO, isB, bv, gN, isPick, isCall, popTo, AS.pt, AS.ev, AS.rd, look, td4, Option.getD, Option.isSome, ↓reduceIte, Nat.reduceLT, Nat.reduceEqDiff, true_and, Bool.false_eq_true, decide_false, hi]
      refine sw_run 200 _ _ _ ?_
      simp only [fQ, tysD, tmsD, xRet, rPs, xRes, flatA, rD, rDs, eq_self, xRun, vE, vP, vSub, vLoad, vStore, isCutO, gN, isPick, isCall, AS.pt, AS.ev, AS.setb, AS.owf, look, setRowG, AV.cells, AV.whole, AV.one, eatsOf, td0, td6, Option.bind, Option.getD, List.map, List.take, List.drop, List.length, List.set, List.all, List.not_mem_nil, List.nodup_cons, List.nodup_nil, List.append_nil, ↓reduceIte, Nat.reduceLT, Nat.reduceAdd, Nat.reduceEqDiff, Nat.zero_add, not_false_eq_true, or_false, Bool.and_true, Bool.false_eq_true, id_eq, reduceCtorEq, and_self, Nat.succ_ne_zero, Nat.le_refl, List.take_length, tNode, ty0, e0, tmC_eq, mk_kind, mk_name, mk_other, mk_n, mk_ty, mk_res, mk_args, tyk, tya, tysC, List.length_nil, Try.results60]
theorem con_l5Op (s : ByteArray) (xs : List Tm) (hz : xs.length + szL (tmsC xs) ≤ 1000000000) : Con Try.prog 106 [.one (.str s), .one (.rows 9 xs.length (tmsC xs))] [.ag (tmC (tOp s xs))] := by
  refine con_run Try.func106 rfl rfl (by simp [Try.ntmps106]) ?_
  simp only [argT, argA, eq_self, xRun, vE, vP, isCutO, gN, isPick, isCall, AS.pt, AS.ev, AS.box, look, avB, td6, Option.getD, Option.isSome, ↓reduceIte, Nat.reduceLT, Nat.reduceEqDiff, Nat.zero_add, true_and, Bool.false_eq_true, Nat.succ_ne_zero, Try.ntmps106]
  refine sw_call (con_l5Node 4 xs hz) rfl (aAs_ok ?_) ?_ (sw_run 200 _ _ _ ?_)
  · simp only [aAs, aA, aD, AS.ev, look, cav, Option.getD, List.map, List.append_nil, ↓reduceIte, eq_self, and_self]
  · simp only [okR]
  simp only [mkR, flatD, packA, retA, fQ, tysD, tmsD, xRet, rPs, xRes, flatA, rD, rDs, eq_self, xRun, vE, vP, vSub, vLoad, vFld, vStore, isCutO, gN, isPick, isCall, AS.pt, AS.ev, AS.box, AS.setb, AS.mk', AS.owf, kill, look, setRowG, AV.cells, AV.whole, AV.one, eatsOf, td0, td3, td6, Option.bind, Option.getD, Option.isSome, List.map, List.take, List.drop, List.length, List.set, List.foldr, List.all, List.mem_cons, List.not_mem_nil, List.nodup_cons, List.nodup_nil, List.append_nil, ↓reduceIte, Nat.reduceLT, Nat.reduceAdd, Nat.reduceLeDiff, Nat.reduceEqDiff, Nat.zero_add, ne_eq, not_false_eq_true, or_false, Bool.and_true, Bool.false_eq_true, id_eq, reduceCtorEq, and_self, Nat.succ_ne_zero, Nat.le_refl, tOp, tNode, ty0, e0, tmC_eq, mk_kind, mk_name, mk_other, mk_n, mk_ty, mk_res, mk_args, tyk, tya, tysC, List.length_nil, Try.results106]
end Go.Proofs.Ytemlobcbepgbaaa
