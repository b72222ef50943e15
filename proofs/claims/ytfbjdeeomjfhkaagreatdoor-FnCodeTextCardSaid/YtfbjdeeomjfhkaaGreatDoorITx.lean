/-
  The laws' own helpers on a Instr.
-/
import Derived.Test.YtfbjdeeomjfhkaaGreatDoorUBase
import Derived.Test.YtfbjdeeomjfhkaaGreatDoorHToL
import Derived.Test.YtfbjdeeomjfhkaaGreatDoorHEqL
import Derived.Test.YtfbjdeeomjfhkaaGreatDoorFmt
import Derived.Test.YtfbjdeeomjfhkaaGreatDoorInsV
import Derived.Test.YtfbjdeeomjfhkaaGreatDoorTrc
namespace Go.Proofs.YtfbjdeeomjfhkaaGreatDoor
open Go.RowKit
set_option linter.unusedVariables false
theorem cf_Instr {ds : List D} (h : ConfL ds K.instr.fields) : ∃ i0 i1, ds = [.int i0, .int i1] := by
  have hl := ConfL.len _ _ h
  match ds, hl with
  | [x0, x1], _ =>
    have h0 : Conf x0 .int := ConfL.mem _ _ h 0 (by simp) (by simp [K.fields])
    obtain ⟨i0, rfl⟩ := conf_int h0
    have h1 : Conf x1 .int := ConfL.mem _ _ h 1 (by simp) (by simp [K.fields])
    obtain ⟨i1, rfl⟩ := conf_int h1
    exact ⟨i0, i1, rfl⟩
theorem shape_Instr {w : World} {S : Nat} {ds : List D} {vs : List Value} (hc : ConfL ds K.instr.fields) (hr : RepVs w S ds vs) : ∃ i0 i1, vs = [.int .i64 i0, .int .i64 i1] := by
  obtain ⟨i0, i1, rfl⟩ := cf_Instr hc
  obtain ⟨v0, r0, rfl, q0, hr0⟩ := hr.cons1
  obtain rfl := rep_int q0
  obtain ⟨v1, r1, rfl, q1, hr1⟩ := hr0.cons1
  obtain rfl := rep_int q1
  obtain rfl := hr1.nil1
  exact ⟨i0, i1, rfl⟩
end Go.Proofs.YtfbjdeeomjfhkaaGreatDoor
/-
  The texts of instructions, of both sides.
-/
namespace Go.Proofs.YtfbjdeeomjfhkaaGreatDoor
open Go.RowKit
set_option linter.unusedVariables false
set_option linter.unusedSimpArgs false
set_option maxRecDepth 20000
def wordsL : List ByteArray := [⟨#[105, 110, 116]⟩, ⟨#[98, 111, 111, 108]⟩, ⟨#[118, 97, 114]⟩, ⟨#[111, 112]⟩, ⟨#[106, 117, 109, 112]⟩, ⟨#[117, 110, 108, 101, 115, 115]⟩, ⟨#[109, 97, 107, 101]⟩, ⟨#[109, 97, 107, 101, 114, 101, 99]⟩, ⟨#[99, 97, 108, 108]⟩, ⟨#[114, 101, 116]⟩, ⟨#[98, 105, 110, 100]⟩, ⟨#[117, 110, 98, 105, 110, 100]⟩]
def wordB (n : Int) : ByteArray := if n = 1 then ⟨#[105, 110, 116]⟩ else if n = 2 then ⟨#[98, 111, 111, 108]⟩ else if n = 3 then ⟨#[118, 97, 114]⟩ else if n = 4 then ⟨#[111, 112]⟩ else if n = 5 then ⟨#[106, 117, 109, 112]⟩ else if n = 6 then ⟨#[117, 110, 108, 101, 115, 115]⟩ else if n = 7 then ⟨#[109, 97, 107, 101]⟩ else if n = 8 then ⟨#[109, 97, 107, 101, 114, 101, 99]⟩ else if n = 9 then ⟨#[99, 97, 108, 108]⟩ else if n = 10 then ⟨#[114, 101, 116]⟩ else if n = 11 then ⟨#[98, 105, 110, 100]⟩ else if n = 12 then ⟨#[117, 110, 98, 105, 110, 100]⟩ else ⟨#[]⟩
def itB (x : Ins) : ByteArray := if insB x = true then (if 9 ≤ x.op then wordB x.op else wordB x.op ++ ⟨#[32]⟩ ++ (if x.op = 4 then opB x.a else numL x.a.toNat)) else ⟨#[]⟩
theorem dd_len : ∀ (k n : Nat), n < 10 ^ (k + 1) → (Lib.decDigits n).length ≤ k + 1
  | 0, n, h => by rw [Lib.decDigits_one (by simpa using h)]; simp
  | k + 1, n, h => by
    by_cases h1 : n < 10
    · rw [Lib.decDigits_one h1]; simp
    · rw [Lib.decDigits, dif_neg h1, List.length_append]
      have := dd_len k (n / 10) (by rw [Nat.pow_succ] at h; omega)
      simp only [List.length_cons, List.length_nil]; omega
theorem numL_len (n : Nat) (h : n ≤ 1000000) : (numL n).size ≤ 20 := by
  have h1 := dd_len 9 n (by omega)
  have h2 : (numL n).size = (Lib.decDigits n).length := by unfold numL; rfl
  omega
theorem opB_len (a : Int) : (opB a).size ≤ 20 := by
  unfold opB
  repeat' split
  all_goals decide
theorem it_len {x y : ByteArray} (hx : x.size ≤ 10) (hy : y.size ≤ 20) : (x ++ ⟨#[32]⟩).size + y.size ≤ maxLen := by
  have h1 : (⟨#[32]⟩ : ByteArray).size = 1 := rfl
  rw [ByteArray.size_append, h1]; unfold maxLen; omega
theorem wordB_len (n : Int) : (wordB n).size ≤ 10 := by
  have aux : ∀ {c : Prop} [Decidable c] {x y : ByteArray}, x.size ≤ 10 → y.size ≤ 10 → (if c then x else y).size ≤ 10 := by intro c _ x y h1 h2; split <;> assumption
  unfold wordB
  repeat (refine aux (by decide) ?_)
  decide
theorem itB_len (x : Ins) : (itB x).size ≤ 40 := by
  unfold itB
  split
  · rename_i h
    obtain ⟨_, h2, _, _⟩ := ins_cases h
    have h5 := wordB_len x.op
    have h6 := opB_len x.a
    have h7 := numL_len x.a.toNat (by omega)
    have h1 : (⟨#[32]⟩ : ByteArray).size = 1 := rfl
    split
    · omega
    · split <;> (rw [ByteArray.size_append, ByteArray.size_append, h1]; omega)
  · decide
theorem in_of {ds : List D} (h : ConfL ds K.instr.fields) : ∃ x : Ins, ds = insC x := by
  obtain ⟨i0, i1, rfl⟩ := cf_Instr h
  exact ⟨⟨i0, i1⟩, rfl⟩
theorem con_wordsI : Con Tryz.prog 28 [] [.one (strsD wordsL)] := by
  refine con_run Tryz.func28 rfl rfl (by simp [Tryz.ntmps28]) ?_
  simp only [argT, fQ, strsD, xRet, rPs, xRes, flatA, rD, eq_self, xRun, vE, vP, vRow, isCutO, xFill, gN, isPick, isCall, AS.pt, AS.ev, AS.mk', AS.owf, kill, look, cav, setRowG, AV.cells, AV.whole, AV.one, cD, cDs, eatsOf, dpOf, td0, td1, td2, td3, td4, td5, td6, Option.bind, Option.getD, Option.isSome, List.map, List.length, List.set, List.foldr, List.all, List.replicate, List.not_mem_nil, List.nodup_cons, List.nodup_nil, ↓reduceIte, Nat.reduceLT, Nat.reduceAdd, Nat.reduceLeDiff, Nat.zero_add, Nat.mul_one, not_false_eq_true, or_false, or_true, Bool.and_true, Bool.false_eq_true, id_eq, reduceCtorEq, and_self, Nat.succ_ne_zero, Nat.le_refl, wordsL, Tryz.ntmps28, Tryz.results28]
theorem con_wordsS : Con Tryz.prog 33 [] [.one (strsD wordsL)] := by
  refine con_run Tryz.func33 rfl rfl (by simp [Tryz.ntmps33]) ?_
  simp only [argT, fQ, strsD, xRet, rPs, xRes, flatA, rD, eq_self, xRun, vE, vP, vRow, isCutO, xFill, gN, isPick, isCall, AS.pt, AS.ev, AS.mk', AS.owf, kill, look, cav, setRowG, AV.cells, AV.whole, AV.one, cD, cDs, eatsOf, dpOf, td0, td1, td2, td3, td4, td5, td6, Option.bind, Option.getD, Option.isSome, List.map, List.length, List.set, List.foldr, List.all, List.replicate, List.not_mem_nil, List.nodup_cons, List.nodup_nil, ↓reduceIte, Nat.reduceLT, Nat.reduceAdd, Nat.reduceLeDiff, Nat.zero_add, Nat.mul_one, not_false_eq_true, or_false, or_true, Bool.and_true, Bool.false_eq_true, id_eq, reduceCtorEq, and_self, Nat.succ_ne_zero, Nat.le_refl, wordsL, Tryz.ntmps33, Tryz.results33]
theorem con_FmtI (n : Int) (h : 0 ≤ n ∧ n ≤ 1000000) : Con Tryz.prog 29 [.one (.int n)] [.one (.str (numL n.toNat))] := by
  have hJ := con_Itoa n h
  refine con_run Tryz.func29 rfl rfl (by simp [Tryz.ntmps29]) ?_
  simp only [argT, argA, eq_self, xRun, vE, vP, isCutO, gN, isPick, isCall, AS.pt, AS.ev, look, cav, avB, td0, td1, td2, td3, td4, td5, td6, Option.getD, ↓reduceIte, Nat.reduceLT, true_and, Bool.false_eq_true, reduceCtorEq, Tryz.ntmps29]
  refine sw_call (hJ) rfl (aAs_ok ?_) ?_ (sw_run 200 _ _ _ ?_)
  · simp only [aAs, aA, aD, AS.ev, look, Option.getD, List.map, List.append_nil, ↓reduceIte, eq_self, and_self]
  · simp only [okR]
  simp only [mkR, flatD, packA, retA, List.headD_cons, fQ, xRet, rPs, xRes, flatA, rD, eq_self, xRun, vE, vP, isCutO, gN, isPick, isCall, AS.pt, AS.ev, look, eatsOf, td0, td1, td2, td3, td4, td5, td6, Option.getD, List.map, List.nodup_nil, ↓reduceIte, Nat.reduceLT, or_false, Bool.false_eq_true, reduceCtorEq, and_self, Tryz.results29]
theorem con_FmtS (n : Int) (h : 0 ≤ n ∧ n ≤ 1000000) : Con Tryz.prog 34 [.one (.int n)] [.one (.str (numL n.toNat))] := by
  refine con_U1 ⟨_, rfl, by kernel_rfl, by kernel_rfl⟩ ?_
  intro w us hu
  obtain ⟨v, r, rfl, h1, h2⟩ := rpd_c hu
  obtain rfl := rpd_n h2
  obtain rfl := rpd_iint h1
  obtain ⟨m, rfl⟩ : ∃ m : Nat, n = m := ⟨n.toNat, by omega⟩
  refine (spec_FormatInt m w (by omega)).mono ?_
  rintro e w' ⟨rfl, hw⟩
  exact ⟨_, rfl, fr_str _ _ _, hw⟩
theorem con_ItI (x : Ins) : Con Tryz.prog 6 [.ag (insC x)] [.one (.str (itB x))] := by
  have hI := con_IsInstrI x
  have hW := con_wordsI
  obtain ⟨b, hb⟩ : ∃ b, b = insB x := ⟨_, rfl⟩
  rw [← hb] at hI
  cases b
  case false =>
    have e : itB x = ⟨#[]⟩ := by unfold itB; rw [← hb]; rfl
    rw [e]
    refine con_run Tryz.func6 rfl rfl (by simp [Tryz.ntmps6]) ?_
    simp only [argT, argA, eq_self, xRun, vE, vP, vSub, vLoad, isCutO, gN, isPick, isCall, AS.pt, AS.ev, AS.box, look, cav, avB, AV.cells, AV.whole, AV.one, td0, td1, td2, td3, td4, td5, td6, Option.getD, List.map, List.take, List.drop, List.length, List.all, ↓reduceIte, Nat.reduceLT, Nat.reduceAdd, Nat.reduceEqDiff, Nat.zero_add, true_and, Bool.and_true, Bool.false_eq_true, Nat.le_refl, insC, Tryz.ntmps6]
    refine sw_call (hI) rfl (aAs_ok ?_) ?_ (sw_run 200 _ _ _ ?_)
    · simp only [aAs, aA, aDs, aD, AS.ev, look, Option.getD, List.map, List.append_nil, ↓reduceIte, eq_self, and_self, insC]
    · simp only [okR]
    simp only [mkR, flatD, packA, retA, List.headD_cons, fQ, xRet, rPs, xRes, flatA, rD, eq_self, xRun, vE, vP, vNot, isCutO, isB, bv, gN, isPick, isCall, AS.pt, AS.ev, look, cav, eatsOf, td0, td1, td2, td3, td4, td5, td6, Option.getD, List.map, List.nodup_nil, ↓reduceIte, Nat.reduceLT, or_false, Bool.not_false, Bool.false_eq_true, reduceCtorEq, and_self, Tryz.results6]
  case true =>
    obtain ⟨h1, h2, h3, h4⟩ := ins_cases hb.symm
    obtain ⟨op, a⟩ := x
    simp only at h1 h2 h3 h4
    have hF := con_FmtI a (by omega)
    have hL := numL_len a.toNat (by omega)
    rcases h1 with rfl | rfl | rfl | rfl | rfl | rfl | rfl | rfl | rfl | rfl | rfl | rfl
    · have e : itB ⟨1, a⟩ = ⟨#[105, 110, 116]⟩ ++ ⟨#[32]⟩ ++ numL a.toNat := by unfold itB; rw [← hb]; rfl
      rw [e]
      refine con_run Tryz.func6 rfl rfl (by simp [Tryz.ntmps6]) ?_
      simp only [argT, argA, eq_self, xRun, vE, vP, vSub, vLoad, isCutO, gN, isPick, isCall, AS.pt, AS.ev, AS.box, look, cav, avB, AV.cells, AV.whole, AV.one, td0, td1, td2, td3, td4, td5, td6, Option.getD, List.map, List.take, List.drop, List.length, List.all, ↓reduceIte, Nat.reduceLT, Nat.reduceAdd, Nat.reduceEqDiff, Nat.zero_add, true_and, Bool.and_true, Bool.false_eq_true, Nat.le_refl, insC, Tryz.ntmps6]
      refine sw_call (hI) rfl (aAs_ok ?_) ?_ (sw_run 200 _ _ _ ?_)
      · simp only [aAs, aA, aDs, aD, AS.ev, look, Option.getD, List.map, List.append_nil, ↓reduceIte, eq_self, and_self, insC]
      · simp only [okR]
      simp only [mkR, flatD, packA, retA, List.headD_cons, eq_self, xRun, vE, vP, vNot, isCutO, isB, bv, gN, isPick, isCall, AS.pt, AS.ev, look, td0, td1, td2, td3, td4, td5, td6, Option.getD, ↓reduceIte, Nat.reduceLT, true_and, Bool.not_true, Bool.false_eq_true]
      refine sw_drawn (.cons 1 true (.cons 2 true (.cons 3 true (.cons 0 false (.cons 4 true (.cons 5 true (.cons 6 true (.nil)))))))) (by kernel_rfl) fQ_panic (by kernel_rfl) (sw_run 200 _ _ _ ?_)
      simp only [eq_self, xRun, vP, vSub, vLoad, vFld, vBin, vBinT, isAg, isBo, gN, isPick, isCall, AS.pt, AS.ev, look, cav, td0, td1, td2, td3, td4, td5, td6, Option.getD, Option.isSome, List.getElem?_cons_zero, List.getElem?_cons_succ, ↓reduceIte, Nat.reduceLT, Nat.reduceEqDiff, Nat.add_zero, ne_eq, not_false_eq_true, true_and, Bool.false_eq_true, Int.reduceSub, Nat.succ_ne_zero]
      refine ⟨by unfold inI; omega, ?_⟩
      refine sw_callD (hW) rfl (aAs_ok ?_) ?_ (sw_run 200 _ _ _ ?_)
      · simp only [aAs, List.map, List.append_nil]
      · simp only [okR]
      simp only [mkR, flatD, packA, retA, List.headD_cons, strsD, rowD, eq_self, xRun, vE, vP, vSub, vLoad, vFld, vIdx, vBin, vBinT, isAg, isBo, isCutO, isB, bv, gN, isPick, isCall, AS.pt, AS.ev, AS.mk', AS.owf, kill, look, cav, avO, td0, td1, td2, td3, td4, td5, td6, Option.bind, Option.getD, Option.isSome, List.map, List.take, List.drop, List.length, List.getElem?_cons_zero, List.getElem?_cons_succ, List.foldr, ↓reduceIte, Nat.reduceLT, Nat.reduceAdd, Nat.reduceEqDiff, Nat.zero_add, Nat.add_zero, ne_eq, not_false_eq_true, true_and, Bool.false_eq_true, id_eq, Int.reduceLE, Int.reduceEq, Int.toNat_zero, Int.le_refl, decide_false, Nat.succ_ne_zero, wordsL, rowAt, strsD]
      refine ⟨by decide, by decide, ?_⟩
      refine sw_call (hF) rfl (aAs_ok ?_) ?_ (sw_run 200 _ _ _ ?_)
      · simp only [aAs, aA, aD, AS.ev, look, Option.getD, List.map, List.append_nil, ↓reduceIte, eq_self, and_self]
      · simp only [okR]
      simp only [mkR, flatD, packA, retA, List.headD_cons, fQ, xRet, rPs, xRes, flatA, rD, eq_self, xRun, vE, vP, vBin, vBinT, isAg, isBo, isCutO, gN, isPick, isCall, AS.pt, AS.ev, look, eatsOf, td0, td1, td2, td3, td4, td5, td6, Option.getD, List.map, List.nodup_nil, ↓reduceIte, Nat.reduceLT, Nat.reduceEqDiff, and_true, or_false, Bool.false_eq_true, reduceCtorEq, and_self, Tryz.results6]
      exact it_len (by decide) (hL)
    · have e : itB ⟨2, a⟩ = ⟨#[98, 111, 111, 108]⟩ ++ ⟨#[32]⟩ ++ numL a.toNat := by unfold itB; rw [← hb]; rfl
      rw [e]
      refine con_run Tryz.func6 rfl rfl (by simp [Tryz.ntmps6]) ?_
      simp only [argT, argA, eq_self, xRun, vE, vP, vSub, vLoad, isCutO, gN, isPick, isCall, AS.pt, AS.ev, AS.box, look, cav, avB, AV.cells, AV.whole, AV.one, td0, td1, td2, td3, td4, td5, td6, Option.getD, List.map, List.take, List.drop, List.length, List.all, ↓reduceIte, Nat.reduceLT, Nat.reduceAdd, Nat.reduceEqDiff, Nat.zero_add, true_and, Bool.and_true, Bool.false_eq_true, Nat.le_refl, insC, Tryz.ntmps6]
      refine sw_call (hI) rfl (aAs_ok ?_) ?_ (sw_run 200 _ _ _ ?_)
      · simp only [aAs, aA, aDs, aD, AS.ev, look, Option.getD, List.map, List.append_nil, ↓reduceIte, eq_self, and_self, insC]
      · simp only [okR]
      simp only [mkR, flatD, packA, retA, List.headD_cons, eq_self, xRun, vE, vP, vNot, isCutO, isB, bv, gN, isPick, isCall, AS.pt, AS.ev, look, td0, td1, td2, td3, td4, td5, td6, Option.getD, ↓reduceIte, Nat.reduceLT, true_and, Bool.not_true, Bool.false_eq_true]
      refine sw_drawn (.cons 1 true (.cons 2 true (.cons 3 true (.cons 0 false (.cons 4 true (.cons 5 true (.cons 6 true (.nil)))))))) (by kernel_rfl) fQ_panic (by kernel_rfl) (sw_run 200 _ _ _ ?_)
      simp only [eq_self, xRun, vP, vSub, vLoad, vFld, vBin, vBinT, isAg, isBo, gN, isPick, isCall, AS.pt, AS.ev, look, cav, td0, td1, td2, td3, td4, td5, td6, Option.getD, Option.isSome, List.getElem?_cons_zero, List.getElem?_cons_succ, ↓reduceIte, Nat.reduceLT, Nat.reduceEqDiff, Nat.add_zero, ne_eq, not_false_eq_true, true_and, Bool.false_eq_true, Int.reduceSub, Nat.succ_ne_zero]
      refine ⟨by unfold inI; omega, ?_⟩
      refine sw_callD (hW) rfl (aAs_ok ?_) ?_ (sw_run 200 _ _ _ ?_)
      · simp only [aAs, List.map, List.append_nil]
      · simp only [okR]
      simp only [mkR, flatD, packA, retA, List.headD_cons, strsD, rowD, eq_self, xRun, vE, vP, vSub, vLoad, vFld, vIdx, vBin, vBinT, isAg, isBo, isCutO, isB, bv, gN, isPick, isCall, AS.pt, AS.ev, AS.mk', AS.owf, kill, look, cav, avO, td0, td1, td2, td3, td4, td5, td6, Option.bind, Option.getD, Option.isSome, List.map, List.take, List.drop, List.length, List.getElem?_cons_zero, List.getElem?_cons_succ, List.foldr, ↓reduceIte, Nat.reduceLT, Nat.reduceAdd, Nat.reduceEqDiff, Nat.zero_add, Nat.add_zero, ne_eq, not_false_eq_true, true_and, Bool.false_eq_true, id_eq, Int.reduceLE, Int.reduceEq, Int.toNat_one, decide_false, Nat.succ_ne_zero, wordsL, rowAt, strsD]
      refine ⟨by decide, by decide, ?_⟩
      refine sw_call (hF) rfl (aAs_ok ?_) ?_ (sw_run 200 _ _ _ ?_)
      · simp only [aAs, aA, aD, AS.ev, look, Option.getD, List.map, List.append_nil, ↓reduceIte, eq_self, and_self]
      · simp only [okR]
      simp only [mkR, flatD, packA, retA, List.headD_cons, fQ, xRet, rPs, xRes, flatA, rD, eq_self, xRun, vE, vP, vBin, vBinT, isAg, isBo, isCutO, gN, isPick, isCall, AS.pt, AS.ev, look, eatsOf, td0, td1, td2, td3, td4, td5, td6, Option.getD, List.map, List.nodup_nil, ↓reduceIte, Nat.reduceLT, Nat.reduceEqDiff, and_true, or_false, Bool.false_eq_true, reduceCtorEq, and_self, Tryz.results6]
      exact it_len (by decide) (hL)
    · have e : itB ⟨3, a⟩ = ⟨#[118, 97, 114]⟩ ++ ⟨#[32]⟩ ++ numL a.toNat := by unfold itB; rw [← hb]; rfl
      rw [e]
      refine con_run Tryz.func6 rfl rfl (by simp [Tryz.ntmps6]) ?_
      simp only [argT, argA, eq_self, xRun, vE, vP, vSub, vLoad, isCutO, gN, isPick, isCall, AS.pt, AS.ev, AS.box, look, cav, avB, AV.cells, AV.whole, AV.one, td0, td1, td2, td3, td4, td5, td6, Option.getD, List.map, List.take, List.drop, List.length, List.all, ↓reduceIte, Nat.reduceLT, Nat.reduceAdd, Nat.reduceEqDiff, Nat.zero_add, true_and, Bool.and_true, Bool.false_eq_true, Nat.le_refl, insC, Tryz.ntmps6]
      refine sw_call (hI) rfl (aAs_ok ?_) ?_ (sw_run 200 _ _ _ ?_)
      · simp only [aAs, aA, aDs, aD, AS.ev, look, Option.getD, List.map, List.append_nil, ↓reduceIte, eq_self, and_self, insC]
      · simp only [okR]
      simp only [mkR, flatD, packA, retA, List.headD_cons, eq_self, xRun, vE, vP, vNot, isCutO, isB, bv, gN, isPick, isCall, AS.pt, AS.ev, look, td0, td1, td2, td3, td4, td5, td6, Option.getD, ↓reduceIte, Nat.reduceLT, true_and, Bool.not_true, Bool.false_eq_true]
      refine sw_drawn (.cons 1 true (.cons 2 true (.cons 3 true (.cons 0 false (.cons 4 true (.cons 5 true (.cons 6 true (.nil)))))))) (by kernel_rfl) fQ_panic (by kernel_rfl) (sw_run 200 _ _ _ ?_)
      simp only [eq_self, xRun, vP, vSub, vLoad, vFld, vBin, vBinT, isAg, isBo, gN, isPick, isCall, AS.pt, AS.ev, look, cav, td0, td1, td2, td3, td4, td5, td6, Option.getD, Option.isSome, List.getElem?_cons_zero, List.getElem?_cons_succ, ↓reduceIte, Nat.reduceLT, Nat.reduceEqDiff, Nat.add_zero, ne_eq, not_false_eq_true, true_and, Bool.false_eq_true, Int.reduceSub, Nat.succ_ne_zero]
      refine ⟨by unfold inI; omega, ?_⟩
      refine sw_callD (hW) rfl (aAs_ok ?_) ?_ (sw_run 200 _ _ _ ?_)
      · simp only [aAs, List.map, List.append_nil]
      · simp only [okR]
      simp only [mkR, flatD, packA, retA, List.headD_cons, strsD, rowD, eq_self, xRun, vE, vP, vSub, vLoad, vFld, vIdx, vBin, vBinT, isAg, isBo, isCutO, isB, bv, gN, isPick, isCall, AS.pt, AS.ev, AS.mk', AS.owf, kill, look, cav, avO, td0, td1, td2, td3, td4, td5, td6, Option.bind, Option.getD, Option.isSome, List.map, List.take, List.drop, List.length, List.getElem?_cons_zero, List.getElem?_cons_succ, List.foldr, ↓reduceIte, Nat.reduceLT, Nat.reduceAdd, Nat.reduceEqDiff, Nat.zero_add, Nat.add_zero, ne_eq, not_false_eq_true, true_and, Bool.false_eq_true, id_eq, Int.reduceLE, Int.reduceEq, Int.reduceToNat, decide_false, Nat.succ_ne_zero, wordsL, rowAt, strsD]
      refine ⟨by decide, by decide, ?_⟩
      refine sw_call (hF) rfl (aAs_ok ?_) ?_ (sw_run 200 _ _ _ ?_)
      · simp only [aAs, aA, aD, AS.ev, look, Option.getD, List.map, List.append_nil, ↓reduceIte, eq_self, and_self]
      · simp only [okR]
      simp only [mkR, flatD, packA, retA, List.headD_cons, fQ, xRet, rPs, xRes, flatA, rD, eq_self, xRun, vE, vP, vBin, vBinT, isAg, isBo, isCutO, gN, isPick, isCall, AS.pt, AS.ev, look, eatsOf, td0, td1, td2, td3, td4, td5, td6, Option.getD, List.map, List.nodup_nil, ↓reduceIte, Nat.reduceLT, Nat.reduceEqDiff, and_true, or_false, Bool.false_eq_true, reduceCtorEq, and_self, Tryz.results6]
      exact it_len (by decide) (hL)
    · have e : itB ⟨4, a⟩ = ⟨#[111, 112]⟩ ++ ⟨#[32]⟩ ++ opB a := by unfold itB; rw [← hb]; rfl
      rw [e]
      refine con_run Tryz.func6 rfl rfl (by simp [Tryz.ntmps6]) ?_
      simp only [argT, argA, eq_self, xRun, vE, vP, vSub, vLoad, isCutO, gN, isPick, isCall, AS.pt, AS.ev, AS.box, look, cav, avB, AV.cells, AV.whole, AV.one, td0, td1, td2, td3, td4, td5, td6, Option.getD, List.map, List.take, List.drop, List.length, List.all, ↓reduceIte, Nat.reduceLT, Nat.reduceAdd, Nat.reduceEqDiff, Nat.zero_add, true_and, Bool.and_true, Bool.false_eq_true, Nat.le_refl, insC, Tryz.ntmps6]
      refine sw_call (hI) rfl (aAs_ok ?_) ?_ (sw_run 200 _ _ _ ?_)
      · simp only [aAs, aA, aDs, aD, AS.ev, look, Option.getD, List.map, List.append_nil, ↓reduceIte, eq_self, and_self, insC]
      · simp only [okR]
      simp only [mkR, flatD, packA, retA, List.headD_cons, eq_self, xRun, vE, vP, vNot, isCutO, isB, bv, gN, isPick, isCall, AS.pt, AS.ev, look, td0, td1, td2, td3, td4, td5, td6, Option.getD, ↓reduceIte, Nat.reduceLT, true_and, Bool.not_true, Bool.false_eq_true]
      refine sw_drawn (.cons 1 true (.cons 2 true (.cons 3 true (.cons 0 false (.cons 4 true (.cons 5 true (.cons 6 true (.nil)))))))) (by kernel_rfl) fQ_panic (by kernel_rfl) (sw_run 200 _ _ _ ?_)
      simp only [eq_self, xRun, vP, vSub, vLoad, vFld, vBin, vBinT, isAg, isBo, gN, isPick, isCall, AS.pt, AS.ev, look, cav, td0, td1, td2, td3, td4, td5, td6, Option.getD, Option.isSome, List.getElem?_cons_zero, List.getElem?_cons_succ, ↓reduceIte, Nat.reduceLT, Nat.reduceEqDiff, Nat.add_zero, ne_eq, not_false_eq_true, true_and, Bool.false_eq_true, Int.reduceSub, Nat.succ_ne_zero]
      refine ⟨by unfold inI; omega, ?_⟩
      refine sw_callD (hW) rfl (aAs_ok ?_) ?_ (sw_run 200 _ _ _ ?_)
      · simp only [aAs, List.map, List.append_nil]
      · simp only [okR]
      simp only [mkR, flatD, packA, retA, List.headD_cons, strsD, rowD, eq_self, xRun, vE, vP, vSub, vLoad, vFld, vIdx, vBin, vBinT, isAg, isBo, isCutO, isB, bv, gN, isPick, isCall, AS.pt, AS.ev, AS.mk', AS.owf, kill, look, cav, avO, td0, td1, td2, td3, td4, td5, td6, Option.bind, Option.getD, Option.isSome, List.map, List.take, List.drop, List.length, List.getElem?_cons_zero, List.getElem?_cons_succ, List.foldr, ↓reduceIte, Nat.reduceLT, Nat.reduceAdd, Nat.reduceEqDiff, Nat.zero_add, Nat.add_zero, ne_eq, not_false_eq_true, true_and, Bool.false_eq_true, id_eq, Int.reduceLE, Int.reduceToNat, decide_true, decide_false, Nat.succ_ne_zero, wordsL, rowAt, strsD]
      refine ⟨by decide, by decide, ?_⟩
      refine sw_call ((con_OpNameI a (h3 rfl))) rfl (aAs_ok ?_) ?_ (sw_run 200 _ _ _ ?_)
      · simp only [aAs, aA, aD, AS.ev, look, Option.getD, List.map, List.append_nil, ↓reduceIte, eq_self, and_self]
      · simp only [okR]
      simp only [mkR, flatD, packA, retA, List.headD_cons, fQ, xRet, rPs, xRes, flatA, rD, eq_self, xRun, vE, vP, vBin, vBinT, isAg, isBo, isCutO, gN, isPick, isCall, AS.pt, AS.ev, look, eatsOf, td0, td1, td2, td3, td4, td5, td6, Option.getD, List.map, List.nodup_nil, ↓reduceIte, Nat.reduceLT, Nat.reduceEqDiff, and_true, or_false, Bool.false_eq_true, reduceCtorEq, and_self, Tryz.results6]
      exact it_len (by decide) (opB_len a)
    · have e : itB ⟨5, a⟩ = ⟨#[106, 117, 109, 112]⟩ ++ ⟨#[32]⟩ ++ numL a.toNat := by unfold itB; rw [← hb]; rfl
      rw [e]
      refine con_run Tryz.func6 rfl rfl (by simp [Tryz.ntmps6]) ?_
      simp only [argT, argA, eq_self, xRun, vE, vP, vSub, vLoad, isCutO, gN, isPick, isCall, AS.pt, AS.ev, AS.box, look, cav, avB, AV.cells, AV.whole, AV.one, td0, td1, td2, td3, td4, td5, td6, Option.getD, List.map, List.take, List.drop, List.length, List.all, ↓reduceIte, Nat.reduceLT, Nat.reduceAdd, Nat.reduceEqDiff, Nat.zero_add, true_and, Bool.and_true, Bool.false_eq_true, Nat.le_refl, insC, Tryz.ntmps6]
      refine sw_call (hI) rfl (aAs_ok ?_) ?_ (sw_run 200 _ _ _ ?_)
      · simp only [aAs, aA, aDs, aD, AS.ev, look, Option.getD, List.map, List.append_nil, ↓reduceIte, eq_self, and_self, insC]
      · simp only [okR]
      simp only [mkR, flatD, packA, retA, List.headD_cons, eq_self, xRun, vE, vP, vNot, isCutO, isB, bv, gN, isPick, isCall, AS.pt, AS.ev, look, td0, td1, td2, td3, td4, td5, td6, Option.getD, ↓reduceIte, Nat.reduceLT, true_and, Bool.not_true, Bool.false_eq_true]
      refine sw_drawn (.cons 1 true (.cons 2 true (.cons 3 true (.cons 0 false (.cons 4 true (.cons 5 true (.cons 6 true (.nil)))))))) (by kernel_rfl) fQ_panic (by kernel_rfl) (sw_run 200 _ _ _ ?_)
      simp only [eq_self, xRun, vP, vSub, vLoad, vFld, vBin, vBinT, isAg, isBo, gN, isPick, isCall, AS.pt, AS.ev, look, cav, td0, td1, td2, td3, td4, td5, td6, Option.getD, Option.isSome, List.getElem?_cons_zero, List.getElem?_cons_succ, ↓reduceIte, Nat.reduceLT, Nat.reduceEqDiff, Nat.add_zero, ne_eq, not_false_eq_true, true_and, Bool.false_eq_true, Int.reduceSub, Nat.succ_ne_zero]
      refine ⟨by unfold inI; omega, ?_⟩
      refine sw_callD (hW) rfl (aAs_ok ?_) ?_ (sw_run 200 _ _ _ ?_)
      · simp only [aAs, List.map, List.append_nil]
      · simp only [okR]
      simp only [mkR, flatD, packA, retA, List.headD_cons, strsD, rowD, eq_self, xRun, vE, vP, vSub, vLoad, vFld, vIdx, vBin, vBinT, isAg, isBo, isCutO, isB, bv, gN, isPick, isCall, AS.pt, AS.ev, AS.mk', AS.owf, kill, look, cav, avO, td0, td1, td2, td3, td4, td5, td6, Option.bind, Option.getD, Option.isSome, List.map, List.take, List.drop, List.length, List.getElem?_cons_zero, List.getElem?_cons_succ, List.foldr, ↓reduceIte, Nat.reduceLT, Nat.reduceAdd, Nat.reduceEqDiff, Nat.zero_add, Nat.add_zero, ne_eq, not_false_eq_true, true_and, Bool.false_eq_true, id_eq, Int.reduceLE, Int.reduceEq, Int.reduceToNat, decide_false, Nat.succ_ne_zero, wordsL, rowAt, strsD]
      refine ⟨by decide, by decide, ?_⟩
      refine sw_call (hF) rfl (aAs_ok ?_) ?_ (sw_run 200 _ _ _ ?_)
      · simp only [aAs, aA, aD, AS.ev, look, Option.getD, List.map, List.append_nil, ↓reduceIte, eq_self, and_self]
      · simp only [okR]
      simp only [mkR, flatD, packA, retA, List.headD_cons, fQ, xRet, rPs, xRes, flatA, rD, eq_self, xRun, vE, vP, vBin, vBinT, isAg, isBo, isCutO, gN, isPick, isCall, AS.pt, AS.ev, look, eatsOf, td0, td1, td2, td3, td4, td5, td6, Option.getD, List.map, List.nodup_nil, ↓reduceIte, Nat.reduceLT, Nat.reduceEqDiff, and_true, or_false, Bool.false_eq_true, reduceCtorEq, and_self, Tryz.results6]
      exact it_len (by decide) (hL)
    · have e : itB ⟨6, a⟩ = ⟨#[117, 110, 108, 101, 115, 115]⟩ ++ ⟨#[32]⟩ ++ numL a.toNat := by unfold itB; rw [← hb]; rfl
      rw [e]
      refine con_run Tryz.func6 rfl rfl (by simp [Tryz.ntmps6]) ?_
      simp only [argT, argA, eq_self, xRun, vE, vP, vSub, vLoad, isCutO, gN, isPick, isCall, AS.pt, AS.ev, AS.box, look, cav, avB, AV.cells, AV.whole, AV.one, td0, td1, td2, td3, td4, td5, td6, Option.getD, List.map, List.take, List.drop, List.length, List.all, ↓reduceIte, Nat.reduceLT, Nat.reduceAdd, Nat.reduceEqDiff, Nat.zero_add, true_and, Bool.and_true, Bool.false_eq_true, Nat.le_refl, insC, Tryz.ntmps6]
      refine sw_call (hI) rfl (aAs_ok ?_) ?_ (sw_run 200 _ _ _ ?_)
      · simp only [aAs, aA, aDs, aD, AS.ev, look, Option.getD, List.map, List.append_nil, ↓reduceIte, eq_self, and_self, insC]
      · simp only [okR]
      simp only [mkR, flatD, packA, retA, List.headD_cons, eq_self, xRun, vE, vP, vNot, isCutO, isB, bv, gN, isPick, isCall, AS.pt, AS.ev, look, td0, td1, td2, td3, td4, td5, td6, Option.getD, ↓reduceIte, Nat.reduceLT, true_and, Bool.not_true, Bool.false_eq_true]
      refine sw_drawn (.cons 1 true (.cons 2 true (.cons 3 true (.cons 0 false (.cons 4 true (.cons 5 true (.cons 6 true (.nil)))))))) (by kernel_rfl) fQ_panic (by kernel_rfl) (sw_run 200 _ _ _ ?_)
      simp only [eq_self, xRun, vP, vSub, vLoad, vFld, vBin, vBinT, isAg, isBo, gN, isPick, isCall, AS.pt, AS.ev, look, cav, td0, td1, td2, td3, td4, td5, td6, Option.getD, Option.isSome, List.getElem?_cons_zero, List.getElem?_cons_succ, ↓reduceIte, Nat.reduceLT, Nat.reduceEqDiff, Nat.add_zero, ne_eq, not_false_eq_true, true_and, Bool.false_eq_true, Int.reduceSub, Nat.succ_ne_zero]
      refine ⟨by unfold inI; omega, ?_⟩
      refine sw_callD (hW) rfl (aAs_ok ?_) ?_ (sw_run 200 _ _ _ ?_)
      · simp only [aAs, List.map, List.append_nil]
      · simp only [okR]
      simp only [mkR, flatD, packA, retA, List.headD_cons, strsD, rowD, eq_self, xRun, vE, vP, vSub, vLoad, vFld, vIdx, vBin, vBinT, isAg, isBo, isCutO, isB, bv, gN, isPick, isCall, AS.pt, AS.ev, AS.mk', AS.owf, kill, look, cav, avO, td0, td1, td2, td3, td4, td5, td6, Option.bind, Option.getD, Option.isSome, List.map, List.take, List.drop, List.length, List.getElem?_cons_zero, List.getElem?_cons_succ, List.foldr, ↓reduceIte, Nat.reduceLT, Nat.reduceAdd, Nat.reduceEqDiff, Nat.zero_add, Nat.add_zero, ne_eq, not_false_eq_true, true_and, Bool.false_eq_true, id_eq, Int.reduceLE, Int.reduceEq, Int.reduceToNat, decide_false, Nat.succ_ne_zero, wordsL, rowAt, strsD]
      refine ⟨by decide, by decide, ?_⟩
      refine sw_call (hF) rfl (aAs_ok ?_) ?_ (sw_run 200 _ _ _ ?_)
      · simp only [aAs, aA, aD, AS.ev, look, Option.getD, List.map, List.append_nil, ↓reduceIte, eq_self, and_self]
      · simp only [okR]
      simp only [mkR, flatD, packA, retA, List.headD_cons, fQ, xRet, rPs, xRes, flatA, rD, eq_self, xRun, vE, vP, vBin, vBinT, isAg, isBo, isCutO, gN, isPick, isCall, AS.pt, AS.ev, look, eatsOf, td0, td1, td2, td3, td4, td5, td6, Option.getD, List.map, List.nodup_nil, ↓reduceIte, Nat.reduceLT, Nat.reduceEqDiff, and_true, or_false, Bool.false_eq_true, reduceCtorEq, and_self, Tryz.results6]
      exact it_len (by decide) (hL)
    · have e : itB ⟨7, a⟩ = ⟨#[109, 97, 107, 101]⟩ ++ ⟨#[32]⟩ ++ numL a.toNat := by unfold itB; rw [← hb]; rfl
      rw [e]
      refine con_run Tryz.func6 rfl rfl (by simp [Tryz.ntmps6]) ?_
      simp only [argT, argA, eq_self, xRun, vE, vP, vSub, vLoad, isCutO, gN, isPick, isCall, AS.pt, AS.ev, AS.box, look, cav, avB, AV.cells, AV.whole, AV.one, td0, td1, td2, td3, td4, td5, td6, Option.getD, List.map, List.take, List.drop, List.length, List.all, ↓reduceIte, Nat.reduceLT, Nat.reduceAdd, Nat.reduceEqDiff, Nat.zero_add, true_and, Bool.and_true, Bool.false_eq_true, Nat.le_refl, insC, Tryz.ntmps6]
      refine sw_call (hI) rfl (aAs_ok ?_) ?_ (sw_run 200 _ _ _ ?_)
      · simp only [aAs, aA, aDs, aD, AS.ev, look, Option.getD, List.map, List.append_nil, ↓reduceIte, eq_self, and_self, insC]
      · simp only [okR]
      simp only [mkR, flatD, packA, retA, List.headD_cons, eq_self, xRun, vE, vP, vNot, isCutO, isB, bv, gN, isPick, isCall, AS.pt, AS.ev, look, td0, td1, td2, td3, td4, td5, td6, Option.getD, ↓reduceIte, Nat.reduceLT, true_and, Bool.not_true, Bool.false_eq_true]
      refine sw_drawn (.cons 1 true (.cons 2 true (.cons 3 true (.cons 0 false (.cons 4 true (.cons 5 true (.cons 6 true (.nil)))))))) (by kernel_rfl) fQ_panic (by kernel_rfl) (sw_run 200 _ _ _ ?_)
      simp only [eq_self, xRun, vP, vSub, vLoad, vFld, vBin, vBinT, isAg, isBo, gN, isPick, isCall, AS.pt, AS.ev, look, cav, td0, td1, td2, td3, td4, td5, td6, Option.getD, Option.isSome, List.getElem?_cons_zero, List.getElem?_cons_succ, ↓reduceIte, Nat.reduceLT, Nat.reduceEqDiff, Nat.add_zero, ne_eq, not_false_eq_true, true_and, Bool.false_eq_true, Int.reduceSub, Nat.succ_ne_zero]
      refine ⟨by unfold inI; omega, ?_⟩
      refine sw_callD (hW) rfl (aAs_ok ?_) ?_ (sw_run 200 _ _ _ ?_)
      · simp only [aAs, List.map, List.append_nil]
      · simp only [okR]
      simp only [mkR, flatD, packA, retA, List.headD_cons, strsD, rowD, eq_self, xRun, vE, vP, vSub, vLoad, vFld, vIdx, vBin, vBinT, isAg, isBo, isCutO, isB, bv, gN, isPick, isCall, AS.pt, AS.ev, AS.mk', AS.owf, kill, look, cav, avO, td0, td1, td2, td3, td4, td5, td6, Option.bind, Option.getD, Option.isSome, List.map, List.take, List.drop, List.length, List.getElem?_cons_zero, List.getElem?_cons_succ, List.foldr, ↓reduceIte, Nat.reduceLT, Nat.reduceAdd, Nat.reduceEqDiff, Nat.zero_add, Nat.add_zero, ne_eq, not_false_eq_true, true_and, Bool.false_eq_true, id_eq, Int.reduceLE, Int.reduceEq, Int.reduceToNat, decide_false, Nat.succ_ne_zero, wordsL, rowAt, strsD]
      refine ⟨by decide, by decide, ?_⟩
      refine sw_call (hF) rfl (aAs_ok ?_) ?_ (sw_run 200 _ _ _ ?_)
      · simp only [aAs, aA, aD, AS.ev, look, Option.getD, List.map, List.append_nil, ↓reduceIte, eq_self, and_self]
      · simp only [okR]
      simp only [mkR, flatD, packA, retA, List.headD_cons, fQ, xRet, rPs, xRes, flatA, rD, eq_self, xRun, vE, vP, vBin, vBinT, isAg, isBo, isCutO, gN, isPick, isCall, AS.pt, AS.ev, look, eatsOf, td0, td1, td2, td3, td4, td5, td6, Option.getD, List.map, List.nodup_nil, ↓reduceIte, Nat.reduceLT, Nat.reduceEqDiff, and_true, or_false, Bool.false_eq_true, reduceCtorEq, and_self, Tryz.results6]
      exact it_len (by decide) (hL)
    · have e : itB ⟨8, a⟩ = ⟨#[109, 97, 107, 101, 114, 101, 99]⟩ ++ ⟨#[32]⟩ ++ numL a.toNat := by unfold itB; rw [← hb]; rfl
      rw [e]
      refine con_run Tryz.func6 rfl rfl (by simp [Tryz.ntmps6]) ?_
      simp only [argT, argA, eq_self, xRun, vE, vP, vSub, vLoad, isCutO, gN, isPick, isCall, AS.pt, AS.ev, AS.box, look, cav, avB, AV.cells, AV.whole, AV.one, td0, td1, td2, td3, td4, td5, td6, Option.getD, List.map, List.take, List.drop, List.length, List.all, ↓reduceIte, Nat.reduceLT, Nat.reduceAdd, Nat.reduceEqDiff, Nat.zero_add, true_and, Bool.and_true, Bool.false_eq_true, Nat.le_refl, insC, Tryz.ntmps6]
      refine sw_call (hI) rfl (aAs_ok ?_) ?_ (sw_run 200 _ _ _ ?_)
      · simp only [aAs, aA, aDs, aD, AS.ev, look, Option.getD, List.map, List.append_nil, ↓reduceIte, eq_self, and_self, insC]
      · simp only [okR]
      simp only [mkR, flatD, packA, retA, List.headD_cons, eq_self, xRun, vE, vP, vNot, isCutO, isB, bv, gN, isPick, isCall, AS.pt, AS.ev, look, td0, td1, td2, td3, td4, td5, td6, Option.getD, ↓reduceIte, Nat.reduceLT, true_and, Bool.not_true, Bool.false_eq_true]
      refine sw_drawn (.cons 1 true (.cons 2 true (.cons 3 true (.cons 0 false (.cons 4 true (.cons 5 true (.cons 6 true (.nil)))))))) (by kernel_rfl) fQ_panic (by kernel_rfl) (sw_run 200 _ _ _ ?_)
      simp only [eq_self, xRun, vP, vSub, vLoad, vFld, vBin, vBinT, isAg, isBo, gN, isPick, isCall, AS.pt, AS.ev, look, cav, td0, td1, td2, td3, td4, td5, td6, Option.getD, Option.isSome, List.getElem?_cons_zero, List.getElem?_cons_succ, ↓reduceIte, Nat.reduceLT, Nat.reduceEqDiff, Nat.add_zero, ne_eq, not_false_eq_true, true_and, Bool.false_eq_true, Int.reduceSub, Nat.succ_ne_zero]
      refine ⟨by unfold inI; omega, ?_⟩
      refine sw_callD (hW) rfl (aAs_ok ?_) ?_ (sw_run 200 _ _ _ ?_)
      · simp only [aAs, List.map, List.append_nil]
      · simp only [okR]
      simp only [mkR, flatD, packA, retA, List.headD_cons, strsD, rowD, eq_self, xRun, vE, vP, vSub, vLoad, vFld, vIdx, vBin, vBinT, isAg, isBo, isCutO, isB, bv, gN, isPick, isCall, AS.pt, AS.ev, AS.mk', AS.owf, kill, look, cav, avO, td0, td1, td2, td3, td4, td5, td6, Option.bind, Option.getD, Option.isSome, List.map, List.take, List.drop, List.length, List.getElem?_cons_zero, List.getElem?_cons_succ, List.foldr, ↓reduceIte, Nat.reduceLT, Nat.reduceAdd, Nat.reduceEqDiff, Nat.zero_add, Nat.add_zero, ne_eq, not_false_eq_true, true_and, Bool.false_eq_true, id_eq, Int.reduceLE, Int.reduceEq, Int.reduceToNat, decide_false, Nat.succ_ne_zero, wordsL, rowAt, strsD]
      refine ⟨by decide, by decide, ?_⟩
      refine sw_call (hF) rfl (aAs_ok ?_) ?_ (sw_run 200 _ _ _ ?_)
      · simp only [aAs, aA, aD, AS.ev, look, Option.getD, List.map, List.append_nil, ↓reduceIte, eq_self, and_self]
      · simp only [okR]
      simp only [mkR, flatD, packA, retA, List.headD_cons, fQ, xRet, rPs, xRes, flatA, rD, eq_self, xRun, vE, vP, vBin, vBinT, isAg, isBo, isCutO, gN, isPick, isCall, AS.pt, AS.ev, look, eatsOf, td0, td1, td2, td3, td4, td5, td6, Option.getD, List.map, List.nodup_nil, ↓reduceIte, Nat.reduceLT, Nat.reduceEqDiff, and_true, or_false, Bool.false_eq_true, reduceCtorEq, and_self, Tryz.results6]
      exact it_len (by decide) (hL)
    · have e : itB ⟨9, a⟩ = ⟨#[99, 97, 108, 108]⟩ := by unfold itB; rw [← hb]; rfl
      rw [e]
      refine con_run Tryz.func6 rfl rfl (by simp [Tryz.ntmps6]) ?_
      simp only [argT, argA, eq_self, xRun, vE, vP, vSub, vLoad, isCutO, gN, isPick, isCall, AS.pt, AS.ev, AS.box, look, cav, avB, AV.cells, AV.whole, AV.one, td0, td1, td2, td3, td4, td5, td6, Option.getD, List.map, List.take, List.drop, List.length, List.all, ↓reduceIte, Nat.reduceLT, Nat.reduceAdd, Nat.reduceEqDiff, Nat.zero_add, true_and, Bool.and_true, Bool.false_eq_true, Nat.le_refl, insC, Tryz.ntmps6]
      refine sw_call (hI) rfl (aAs_ok ?_) ?_ (sw_run 200 _ _ _ ?_)
      · simp only [aAs, aA, aDs, aD, AS.ev, look, Option.getD, List.map, List.append_nil, ↓reduceIte, eq_self, and_self, insC]
      · simp only [okR]
      simp only [mkR, flatD, packA, retA, List.headD_cons, eq_self, xRun, vE, vP, vNot, isCutO, isB, bv, gN, isPick, isCall, AS.pt, AS.ev, look, td0, td1, td2, td3, td4, td5, td6, Option.getD, ↓reduceIte, Nat.reduceLT, true_and, Bool.not_true, Bool.false_eq_true]
      refine sw_drawn (.cons 1 true (.cons 2 true (.cons 3 true (.cons 0 false (.cons 4 true (.cons 5 true (.cons 6 true (.nil)))))))) (by kernel_rfl) fQ_panic (by kernel_rfl) (sw_run 200 _ _ _ ?_)
      simp only [eq_self, xRun, vP, vSub, vLoad, vFld, vBin, vBinT, isAg, isBo, gN, isPick, isCall, AS.pt, AS.ev, look, cav, td0, td1, td2, td3, td4, td5, td6, Option.getD, Option.isSome, List.getElem?_cons_zero, List.getElem?_cons_succ, ↓reduceIte, Nat.reduceLT, Nat.reduceEqDiff, Nat.add_zero, ne_eq, not_false_eq_true, true_and, Bool.false_eq_true, Int.reduceSub, Nat.succ_ne_zero]
      refine ⟨by unfold inI; omega, ?_⟩
      refine sw_callD (hW) rfl (aAs_ok ?_) ?_ (sw_run 200 _ _ _ ?_)
      · simp only [aAs, List.map, List.append_nil]
      · simp only [okR]
      simp only [mkR, flatD, packA, retA, List.headD_cons, fQ, strsD, rowD, xRet, rPs, xRes, flatA, rD, eq_self, xRun, vE, vP, vSub, vLoad, vFld, vIdx, vBin, vBinT, isAg, isBo, isCutO, isB, bv, gN, isPick, isCall, AS.pt, AS.ev, AS.mk', AS.owf, kill, look, cav, avO, eatsOf, td0, td1, td2, td3, td4, td5, td6, Option.bind, Option.getD, Option.isSome, List.map, List.take, List.drop, List.length, List.getElem?_cons_zero, List.getElem?_cons_succ, List.foldr, List.nodup_nil, ↓reduceIte, Nat.reduceLT, Nat.reduceAdd, Nat.reduceEqDiff, Nat.zero_add, Nat.add_zero, ne_eq, not_false_eq_true, true_and, and_true, or_false, Bool.false_eq_true, id_eq, reduceCtorEq, Int.reduceLE, Int.reduceToNat, Int.le_refl, decide_true, and_self, Nat.succ_ne_zero, wordsL, rowAt, strsD, Tryz.results6]
      decide
    · have e : itB ⟨10, a⟩ = ⟨#[114, 101, 116]⟩ := by unfold itB; rw [← hb]; rfl
      rw [e]
      refine con_run Tryz.func6 rfl rfl (by simp [Tryz.ntmps6]) ?_
      simp only [argT, argA, eq_self, xRun, vE, vP, vSub, vLoad, isCutO, gN, isPick, isCall, AS.pt, AS.ev, AS.box, look, cav, avB, AV.cells, AV.whole, AV.one, td0, td1, td2, td3, td4, td5, td6, Option.getD, List.map, List.take, List.drop, List.length, List.all, ↓reduceIte, Nat.reduceLT, Nat.reduceAdd, Nat.reduceEqDiff, Nat.zero_add, true_and, Bool.and_true, Bool.false_eq_true, Nat.le_refl, insC, Tryz.ntmps6]
      refine sw_call (hI) rfl (aAs_ok ?_) ?_ (sw_run 200 _ _ _ ?_)
      · simp only [aAs, aA, aDs, aD, AS.ev, look, Option.getD, List.map, List.append_nil, ↓reduceIte, eq_self, and_self, insC]
      · simp only [okR]
      simp only [mkR, flatD, packA, retA, List.headD_cons, eq_self, xRun, vE, vP, vNot, isCutO, isB, bv, gN, isPick, isCall, AS.pt, AS.ev, look, td0, td1, td2, td3, td4, td5, td6, Option.getD, ↓reduceIte, Nat.reduceLT, true_and, Bool.not_true, Bool.false_eq_true]
      refine sw_drawn (.cons 1 true (.cons 2 true (.cons 3 true (.cons 0 false (.cons 4 true (.cons 5 true (.cons 6 true (.nil)))))))) (by kernel_rfl) fQ_panic (by kernel_rfl) (sw_run 200 _ _ _ ?_)
      simp only [eq_self, xRun, vP, vSub, vLoad, vFld, vBin, vBinT, isAg, isBo, gN, isPick, isCall, AS.pt, AS.ev, look, cav, td0, td1, td2, td3, td4, td5, td6, Option.getD, Option.isSome, List.getElem?_cons_zero, List.getElem?_cons_succ, ↓reduceIte, Nat.reduceLT, Nat.reduceEqDiff, Nat.add_zero, ne_eq, not_false_eq_true, true_and, Bool.false_eq_true, Int.reduceSub, Nat.succ_ne_zero]
      refine ⟨by unfold inI; omega, ?_⟩
      refine sw_callD (hW) rfl (aAs_ok ?_) ?_ (sw_run 200 _ _ _ ?_)
      · simp only [aAs, List.map, List.append_nil]
      · simp only [okR]
      simp only [mkR, flatD, packA, retA, List.headD_cons, fQ, strsD, rowD, xRet, rPs, xRes, flatA, rD, eq_self, xRun, vE, vP, vSub, vLoad, vFld, vIdx, vBin, vBinT, isAg, isBo, isCutO, isB, bv, gN, isPick, isCall, AS.pt, AS.ev, AS.mk', AS.owf, kill, look, cav, avO, eatsOf, td0, td1, td2, td3, td4, td5, td6, Option.bind, Option.getD, Option.isSome, List.map, List.take, List.drop, List.length, List.getElem?_cons_zero, List.getElem?_cons_succ, List.foldr, List.nodup_nil, ↓reduceIte, Nat.reduceLT, Nat.reduceAdd, Nat.reduceEqDiff, Nat.zero_add, Nat.add_zero, ne_eq, not_false_eq_true, true_and, and_true, or_false, Bool.false_eq_true, id_eq, reduceCtorEq, Int.reduceLE, Int.reduceToNat, decide_true, and_self, Nat.succ_ne_zero, wordsL, rowAt, strsD, Tryz.results6]
      decide
    · have e : itB ⟨11, a⟩ = ⟨#[98, 105, 110, 100]⟩ := by unfold itB; rw [← hb]; rfl
      rw [e]
      refine con_run Tryz.func6 rfl rfl (by simp [Tryz.ntmps6]) ?_
      simp only [argT, argA, eq_self, xRun, vE, vP, vSub, vLoad, isCutO, gN, isPick, isCall, AS.pt, AS.ev, AS.box, look, cav, avB, AV.cells, AV.whole, AV.one, td0, td1, td2, td3, td4, td5, td6, Option.getD, List.map, List.take, List.drop, List.length, List.all, ↓reduceIte, Nat.reduceLT, Nat.reduceAdd, Nat.reduceEqDiff, Nat.zero_add, true_and, Bool.and_true, Bool.false_eq_true, Nat.le_refl, insC, Tryz.ntmps6]
      refine sw_call (hI) rfl (aAs_ok ?_) ?_ (sw_run 200 _ _ _ ?_)
      · simp only [aAs, aA, aDs, aD, AS.ev, look, Option.getD, List.map, List.append_nil, ↓reduceIte, eq_self, and_self, insC]
      · simp only [okR]
      simp only [mkR, flatD, packA, retA, List.headD_cons, eq_self, xRun, vE, vP, vNot, isCutO, isB, bv, gN, isPick, isCall, AS.pt, AS.ev, look, td0, td1, td2, td3, td4, td5, td6, Option.getD, ↓reduceIte, Nat.reduceLT, true_and, Bool.not_true, Bool.false_eq_true]
      refine sw_drawn (.cons 1 true (.cons 2 true (.cons 3 true (.cons 0 false (.cons 4 true (.cons 5 true (.cons 6 true (.nil)))))))) (by kernel_rfl) fQ_panic (by kernel_rfl) (sw_run 200 _ _ _ ?_)
      simp only [eq_self, xRun, vP, vSub, vLoad, vFld, vBin, vBinT, isAg, isBo, gN, isPick, isCall, AS.pt, AS.ev, look, cav, td0, td1, td2, td3, td4, td5, td6, Option.getD, Option.isSome, List.getElem?_cons_zero, List.getElem?_cons_succ, ↓reduceIte, Nat.reduceLT, Nat.reduceEqDiff, Nat.add_zero, ne_eq, not_false_eq_true, true_and, Bool.false_eq_true, Int.reduceSub, Nat.succ_ne_zero]
      refine ⟨by unfold inI; omega, ?_⟩
      refine sw_callD (hW) rfl (aAs_ok ?_) ?_ (sw_run 200 _ _ _ ?_)
      · simp only [aAs, List.map, List.append_nil]
      · simp only [okR]
      simp only [mkR, flatD, packA, retA, List.headD_cons, fQ, strsD, rowD, xRet, rPs, xRes, flatA, rD, eq_self, xRun, vE, vP, vSub, vLoad, vFld, vIdx, vBin, vBinT, isAg, isBo, isCutO, isB, bv, gN, isPick, isCall, AS.pt, AS.ev, AS.mk', AS.owf, kill, look, cav, avO, eatsOf, td0, td1, td2, td3, td4, td5, td6, Option.bind, Option.getD, Option.isSome, List.map, List.take, List.drop, List.length, List.getElem?_cons_zero, List.getElem?_cons_succ, List.foldr, List.nodup_nil, ↓reduceIte, Nat.reduceLT, Nat.reduceAdd, Nat.reduceEqDiff, Nat.zero_add, Nat.add_zero, ne_eq, not_false_eq_true, true_and, and_true, or_false, Bool.false_eq_true, id_eq, reduceCtorEq, Int.reduceLE, Int.reduceToNat, decide_true, and_self, Nat.succ_ne_zero, wordsL, rowAt, strsD, Tryz.results6]
      decide
    · have e : itB ⟨12, a⟩ = ⟨#[117, 110, 98, 105, 110, 100]⟩ := by unfold itB; rw [← hb]; rfl
      rw [e]
      refine con_run Tryz.func6 rfl rfl (by simp [Tryz.ntmps6]) ?_
      simp only [argT, argA, eq_self, xRun, vE, vP, vSub, vLoad, isCutO, gN, isPick, isCall, AS.pt, AS.ev, AS.box, look, cav, avB, AV.cells, AV.whole, AV.one, td0, td1, td2, td3, td4, td5, td6, Option.getD, List.map, List.take, List.drop, List.length, List.all, ↓reduceIte, Nat.reduceLT, Nat.reduceAdd, Nat.reduceEqDiff, Nat.zero_add, true_and, Bool.and_true, Bool.false_eq_true, Nat.le_refl, insC, Tryz.ntmps6]
      refine sw_call (hI) rfl (aAs_ok ?_) ?_ (sw_run 200 _ _ _ ?_)
      · simp only [aAs, aA, aDs, aD, AS.ev, look, Option.getD, List.map, List.append_nil, ↓reduceIte, eq_self, and_self, insC]
      · simp only [okR]
      simp only [mkR, flatD, packA, retA, List.headD_cons, eq_self, xRun, vE, vP, vNot, isCutO, isB, bv, gN, isPick, isCall, AS.pt, AS.ev, look, td0, td1, td2, td3, td4, td5, td6, Option.getD, ↓reduceIte, Nat.reduceLT, true_and, Bool.not_true, Bool.false_eq_true]
      refine sw_drawn (.cons 1 true (.cons 2 true (.cons 3 true (.cons 0 false (.cons 4 true (.cons 5 true (.cons 6 true (.nil)))))))) (by kernel_rfl) fQ_panic (by kernel_rfl) (sw_run 200 _ _ _ ?_)
      simp only [eq_self, xRun, vP, vSub, vLoad, vFld, vBin, vBinT, isAg, isBo, gN, isPick, isCall, AS.pt, AS.ev, look, cav, td0, td1, td2, td3, td4, td5, td6, Option.getD, Option.isSome, List.getElem?_cons_zero, List.getElem?_cons_succ, ↓reduceIte, Nat.reduceLT, Nat.reduceEqDiff, Nat.add_zero, ne_eq, not_false_eq_true, true_and, Bool.false_eq_true, Int.reduceSub, Nat.succ_ne_zero]
      refine ⟨by unfold inI; omega, ?_⟩
      refine sw_callD (hW) rfl (aAs_ok ?_) ?_ (sw_run 200 _ _ _ ?_)
      · simp only [aAs, List.map, List.append_nil]
      · simp only [okR]
      simp only [mkR, flatD, packA, retA, List.headD_cons, fQ, strsD, rowD, xRet, rPs, xRes, flatA, rD, eq_self, xRun, vE, vP, vSub, vLoad, vFld, vIdx, vBin, vBinT, isAg, isBo, isCutO, isB, bv, gN, isPick, isCall, AS.pt, AS.ev, AS.mk', AS.owf, kill, look, cav, avO, eatsOf, td0, td1, td2, td3, td4, td5, td6, Option.bind, Option.getD, Option.isSome, List.map, List.take, List.drop, List.length, List.getElem?_cons_zero, List.getElem?_cons_succ, List.foldr, List.nodup_nil, ↓reduceIte, Nat.reduceLT, Nat.reduceAdd, Nat.reduceEqDiff, Nat.zero_add, Nat.add_zero, ne_eq, not_false_eq_true, true_and, and_true, or_false, Bool.false_eq_true, id_eq, reduceCtorEq, Int.reduceLE, Int.reduceToNat, decide_true, and_self, Nat.succ_ne_zero, wordsL, rowAt, strsD, Tryz.results6]
      decide
theorem con_ItS (x : Ins) : Con Tryz.prog 8 [.ag (insC x)] [.one (.str (itB x))] := by
  have hI := con_IsInstrS x
  have hW := con_wordsS
  obtain ⟨b, hb⟩ : ∃ b, b = insB x := ⟨_, rfl⟩
  rw [← hb] at hI
  cases b
  case false =>
    have e : itB x = ⟨#[]⟩ := by unfold itB; rw [← hb]; rfl
    rw [e]
    refine con_run Tryz.func8 rfl rfl (by simp [Tryz.ntmps8]) ?_
    simp only [argT, argA, eq_self, xRun, vE, vP, vSub, vLoad, isCutO, gN, isPick, isCall, AS.pt, AS.ev, AS.box, look, cav, avB, AV.cells, AV.whole, AV.one, td0, td1, td2, td3, td4, td5, td6, Option.getD, List.map, List.take, List.drop, List.length, List.all, ↓reduceIte, Nat.reduceLT, Nat.reduceAdd, Nat.reduceEqDiff, Nat.zero_add, true_and, Bool.and_true, Bool.false_eq_true, Nat.le_refl, insC, Tryz.ntmps8]
    refine sw_call (hI) rfl (aAs_ok ?_) ?_ (sw_run 200 _ _ _ ?_)
    · simp only [aAs, aA, aDs, aD, AS.ev, look, Option.getD, List.map, List.append_nil, ↓reduceIte, eq_self, and_self, insC]
    · simp only [okR]
    simp only [mkR, flatD, packA, retA, List.headD_cons, fQ, xRet, rPs, xRes, flatA, rD, eq_self, xRun, vE, vP, vNot, isCutO, isB, bv, gN, isPick, isCall, AS.pt, AS.ev, look, cav, eatsOf, td0, td1, td2, td3, td4, td5, td6, Option.getD, List.map, List.nodup_nil, ↓reduceIte, Nat.reduceLT, or_false, Bool.not_false, Bool.false_eq_true, reduceCtorEq, and_self, Tryz.results8]
  case true =>
    obtain ⟨h1, h2, h3, h4⟩ := ins_cases hb.symm
    obtain ⟨op, a⟩ := x
    simp only at h1 h2 h3 h4
    have hF := con_FmtS a (by omega)
    have hL := numL_len a.toNat (by omega)
    rcases h1 with rfl | rfl | rfl | rfl | rfl | rfl | rfl | rfl | rfl | rfl | rfl | rfl
    · have e : itB ⟨1, a⟩ = ⟨#[105, 110, 116]⟩ ++ ⟨#[32]⟩ ++ numL a.toNat := by unfold itB; rw [← hb]; rfl
      rw [e]
      refine con_run Tryz.func8 rfl rfl (by simp [Tryz.ntmps8]) ?_
      simp only [argT, argA, eq_self, xRun, vE, vP, vSub, vLoad, isCutO, gN, isPick, isCall, AS.pt, AS.ev, AS.box, look, cav, avB, AV.cells, AV.whole, AV.one, td0, td1, td2, td3, td4, td5, td6, Option.getD, List.map, List.take, List.drop, List.length, List.all, ↓reduceIte, Nat.reduceLT, Nat.reduceAdd, Nat.reduceEqDiff, Nat.zero_add, true_and, Bool.and_true, Bool.false_eq_true, Nat.le_refl, insC, Tryz.ntmps8]
      refine sw_call (hI) rfl (aAs_ok ?_) ?_ (sw_run 200 _ _ _ ?_)
      · simp only [aAs, aA, aDs, aD, AS.ev, look, Option.getD, List.map, List.append_nil, ↓reduceIte, eq_self, and_self, insC]
      · simp only [okR]
      simp only [mkR, flatD, packA, retA, List.headD_cons, eq_self, xRun, vE, vP, vNot, isCutO, isB, bv, gN, isPick, isCall, AS.pt, AS.ev, look, td0, td1, td2, td3, td4, td5, td6, Option.getD, ↓reduceIte, Nat.reduceLT, true_and, Bool.not_true, Bool.false_eq_true]
      refine sw_drawn (.cons 1 true (.cons 2 true (.cons 3 true (.cons 0 false (.cons 4 true (.cons 5 true (.cons 6 true (.nil)))))))) (by kernel_rfl) fQ_panic (by kernel_rfl) (sw_run 200 _ _ _ ?_)
      simp only [eq_self, xRun, vP, vSub, vLoad, vFld, vBin, vBinT, isAg, isBo, gN, isPick, isCall, AS.pt, AS.ev, look, cav, td0, td1, td2, td3, td4, td5, td6, Option.getD, Option.isSome, List.getElem?_cons_zero, List.getElem?_cons_succ, ↓reduceIte, Nat.reduceLT, Nat.reduceEqDiff, Nat.add_zero, ne_eq, not_false_eq_true, true_and, Bool.false_eq_true, Int.reduceSub, Nat.succ_ne_zero]
      refine ⟨by unfold inI; omega, ?_⟩
      refine sw_callD (hW) rfl (aAs_ok ?_) ?_ (sw_run 200 _ _ _ ?_)
      · simp only [aAs, List.map, List.append_nil]
      · simp only [okR]
      simp only [mkR, flatD, packA, retA, List.headD_cons, strsD, rowD, eq_self, xRun, vE, vP, vSub, vLoad, vFld, vIdx, vBin, vBinT, isAg, isBo, isCutO, isB, bv, gN, isPick, isCall, AS.pt, AS.ev, AS.mk', AS.owf, kill, look, cav, avO, td0, td1, td2, td3, td4, td5, td6, Option.bind, Option.getD, Option.isSome, List.map, List.take, List.drop, List.length, List.getElem?_cons_zero, List.getElem?_cons_succ, List.foldr, ↓reduceIte, Nat.reduceLT, Nat.reduceAdd, Nat.reduceEqDiff, Nat.zero_add, Nat.add_zero, ne_eq, not_false_eq_true, true_and, Bool.false_eq_true, id_eq, Int.reduceLT, Int.reduceEq, Int.toNat_zero, Int.le_refl, decide_true, decide_false, Nat.succ_ne_zero, wordsL, rowAt, strsD]
      refine ⟨by decide, by decide, ?_⟩
      refine sw_call (hF) rfl (aAs_ok ?_) ?_ (sw_run 200 _ _ _ ?_)
      · simp only [aAs, aA, aD, AS.ev, look, Option.getD, List.map, List.append_nil, ↓reduceIte, eq_self, and_self]
      · simp only [okR]
      simp only [mkR, flatD, packA, retA, List.headD_cons, fQ, xRet, rPs, xRes, flatA, rD, eq_self, xRun, vE, vP, vBin, vBinT, isAg, isBo, isCutO, gN, isPick, isCall, AS.pt, AS.ev, look, eatsOf, td0, td1, td2, td3, td4, td5, td6, Option.getD, List.map, List.nodup_nil, ↓reduceIte, Nat.reduceLT, Nat.reduceEqDiff, and_true, or_false, Bool.false_eq_true, reduceCtorEq, and_self, Tryz.results8]
      exact it_len (by decide) (hL)
    · have e : itB ⟨2, a⟩ = ⟨#[98, 111, 111, 108]⟩ ++ ⟨#[32]⟩ ++ numL a.toNat := by unfold itB; rw [← hb]; rfl
      rw [e]
      refine con_run Tryz.func8 rfl rfl (by simp [Tryz.ntmps8]) ?_
      simp only [argT, argA, eq_self, xRun, vE, vP, vSub, vLoad, isCutO, gN, isPick, isCall, AS.pt, AS.ev, AS.box, look, cav, avB, AV.cells, AV.whole, AV.one, td0, td1, td2, td3, td4, td5, td6, Option.getD, List.map, List.take, List.drop, List.length, List.all, ↓reduceIte, Nat.reduceLT, Nat.reduceAdd, Nat.reduceEqDiff, Nat.zero_add, true_and, Bool.and_true, Bool.false_eq_true, Nat.le_refl, insC, Tryz.ntmps8]
      refine sw_call (hI) rfl (aAs_ok ?_) ?_ (sw_run 200 _ _ _ ?_)
      · simp only [aAs, aA, aDs, aD, AS.ev, look, Option.getD, List.map, List.append_nil, ↓reduceIte, eq_self, and_self, insC]
      · simp only [okR]
      simp only [mkR, flatD, packA, retA, List.headD_cons, eq_self, xRun, vE, vP, vNot, isCutO, isB, bv, gN, isPick, isCall, AS.pt, AS.ev, look, td0, td1, td2, td3, td4, td5, td6, Option.getD, ↓reduceIte, Nat.reduceLT, true_and, Bool.not_true, Bool.false_eq_true]
      refine sw_drawn (.cons 1 true (.cons 2 true (.cons 3 true (.cons 0 false (.cons 4 true (.cons 5 true (.cons 6 true (.nil)))))))) (by kernel_rfl) fQ_panic (by kernel_rfl) (sw_run 200 _ _ _ ?_)
      simp only [eq_self, xRun, vP, vSub, vLoad, vFld, vBin, vBinT, isAg, isBo, gN, isPick, isCall, AS.pt, AS.ev, look, cav, td0, td1, td2, td3, td4, td5, td6, Option.getD, Option.isSome, List.getElem?_cons_zero, List.getElem?_cons_succ, ↓reduceIte, Nat.reduceLT, Nat.reduceEqDiff, Nat.add_zero, ne_eq, not_false_eq_true, true_and, Bool.false_eq_true, Int.reduceSub, Nat.succ_ne_zero]
      refine ⟨by unfold inI; omega, ?_⟩
      refine sw_callD (hW) rfl (aAs_ok ?_) ?_ (sw_run 200 _ _ _ ?_)
      · simp only [aAs, List.map, List.append_nil]
      · simp only [okR]
      simp only [mkR, flatD, packA, retA, List.headD_cons, strsD, rowD, eq_self, xRun, vE, vP, vSub, vLoad, vFld, vIdx, vBin, vBinT, isAg, isBo, isCutO, isB, bv, gN, isPick, isCall, AS.pt, AS.ev, AS.mk', AS.owf, kill, look, cav, avO, td0, td1, td2, td3, td4, td5, td6, Option.bind, Option.getD, Option.isSome, List.map, List.take, List.drop, List.length, List.getElem?_cons_zero, List.getElem?_cons_succ, List.foldr, ↓reduceIte, Nat.reduceLT, Nat.reduceAdd, Nat.reduceEqDiff, Nat.zero_add, Nat.add_zero, ne_eq, not_false_eq_true, true_and, Bool.false_eq_true, id_eq, Int.reduceLT, Int.reduceLE, Int.reduceEq, Int.toNat_one, decide_true, decide_false, Nat.succ_ne_zero, wordsL, rowAt, strsD]
      refine ⟨by decide, by decide, ?_⟩
      refine sw_call (hF) rfl (aAs_ok ?_) ?_ (sw_run 200 _ _ _ ?_)
      · simp only [aAs, aA, aD, AS.ev, look, Option.getD, List.map, List.append_nil, ↓reduceIte, eq_self, and_self]
      · simp only [okR]
      simp only [mkR, flatD, packA, retA, List.headD_cons, fQ, xRet, rPs, xRes, flatA, rD, eq_self, xRun, vE, vP, vBin, vBinT, isAg, isBo, isCutO, gN, isPick, isCall, AS.pt, AS.ev, look, eatsOf, td0, td1, td2, td3, td4, td5, td6, Option.getD, List.map, List.nodup_nil, ↓reduceIte, Nat.reduceLT, Nat.reduceEqDiff, and_true, or_false, Bool.false_eq_true, reduceCtorEq, and_self, Tryz.results8]
      exact it_len (by decide) (hL)
    · have e : itB ⟨3, a⟩ = ⟨#[118, 97, 114]⟩ ++ ⟨#[32]⟩ ++ numL a.toNat := by unfold itB; rw [← hb]; rfl
      rw [e]
      refine con_run Tryz.func8 rfl rfl (by simp [Tryz.ntmps8]) ?_
      simp only [argT, argA, eq_self, xRun, vE, vP, vSub, vLoad, isCutO, gN, isPick, isCall, AS.pt, AS.ev, AS.box, look, cav, avB, AV.cells, AV.whole, AV.one, td0, td1, td2, td3, td4, td5, td6, Option.getD, List.map, List.take, List.drop, List.length, List.all, ↓reduceIte, Nat.reduceLT, Nat.reduceAdd, Nat.reduceEqDiff, Nat.zero_add, true_and, Bool.and_true, Bool.false_eq_true, Nat.le_refl, insC, Tryz.ntmps8]
      refine sw_call (hI) rfl (aAs_ok ?_) ?_ (sw_run 200 _ _ _ ?_)
      · simp only [aAs, aA, aDs, aD, AS.ev, look, Option.getD, List.map, List.append_nil, ↓reduceIte, eq_self, and_self, insC]
      · simp only [okR]
      simp only [mkR, flatD, packA, retA, List.headD_cons, eq_self, xRun, vE, vP, vNot, isCutO, isB, bv, gN, isPick, isCall, AS.pt, AS.ev, look, td0, td1, td2, td3, td4, td5, td6, Option.getD, ↓reduceIte, Nat.reduceLT, true_and, Bool.not_true, Bool.false_eq_true]
      refine sw_drawn (.cons 1 true (.cons 2 true (.cons 3 true (.cons 0 false (.cons 4 true (.cons 5 true (.cons 6 true (.nil)))))))) (by kernel_rfl) fQ_panic (by kernel_rfl) (sw_run 200 _ _ _ ?_)
      simp only [eq_self, xRun, vP, vSub, vLoad, vFld, vBin, vBinT, isAg, isBo, gN, isPick, isCall, AS.pt, AS.ev, look, cav, td0, td1, td2, td3, td4, td5, td6, Option.getD, Option.isSome, List.getElem?_cons_zero, List.getElem?_cons_succ, ↓reduceIte, Nat.reduceLT, Nat.reduceEqDiff, Nat.add_zero, ne_eq, not_false_eq_true, true_and, Bool.false_eq_true, Int.reduceSub, Nat.succ_ne_zero]
      refine ⟨by unfold inI; omega, ?_⟩
      refine sw_callD (hW) rfl (aAs_ok ?_) ?_ (sw_run 200 _ _ _ ?_)
      · simp only [aAs, List.map, List.append_nil]
      · simp only [okR]
      simp only [mkR, flatD, packA, retA, List.headD_cons, strsD, rowD, eq_self, xRun, vE, vP, vSub, vLoad, vFld, vIdx, vBin, vBinT, isAg, isBo, isCutO, isB, bv, gN, isPick, isCall, AS.pt, AS.ev, AS.mk', AS.owf, kill, look, cav, avO, td0, td1, td2, td3, td4, td5, td6, Option.bind, Option.getD, Option.isSome, List.map, List.take, List.drop, List.length, List.getElem?_cons_zero, List.getElem?_cons_succ, List.foldr, ↓reduceIte, Nat.reduceLT, Nat.reduceAdd, Nat.reduceEqDiff, Nat.zero_add, Nat.add_zero, ne_eq, not_false_eq_true, true_and, Bool.false_eq_true, id_eq, Int.reduceLT, Int.reduceLE, Int.reduceEq, Int.reduceToNat, decide_true, decide_false, Nat.succ_ne_zero, wordsL, rowAt, strsD]
      refine ⟨by decide, by decide, ?_⟩
      refine sw_call (hF) rfl (aAs_ok ?_) ?_ (sw_run 200 _ _ _ ?_)
      · simp only [aAs, aA, aD, AS.ev, look, Option.getD, List.map, List.append_nil, ↓reduceIte, eq_self, and_self]
      · simp only [okR]
      simp only [mkR, flatD, packA, retA, List.headD_cons, fQ, xRet, rPs, xRes, flatA, rD, eq_self, xRun, vE, vP, vBin, vBinT, isAg, isBo, isCutO, gN, isPick, isCall, AS.pt, AS.ev, look, eatsOf, td0, td1, td2, td3, td4, td5, td6, Option.getD, List.map, List.nodup_nil, ↓reduceIte, Nat.reduceLT, Nat.reduceEqDiff, and_true, or_false, Bool.false_eq_true, reduceCtorEq, and_self, Tryz.results8]
      exact it_len (by decide) (hL)
    · have e : itB ⟨4, a⟩ = ⟨#[111, 112]⟩ ++ ⟨#[32]⟩ ++ opB a := by unfold itB; rw [← hb]; rfl
      rw [e]
      refine con_run Tryz.func8 rfl rfl (by simp [Tryz.ntmps8]) ?_
      simp only [argT, argA, eq_self, xRun, vE, vP, vSub, vLoad, isCutO, gN, isPick, isCall, AS.pt, AS.ev, AS.box, look, cav, avB, AV.cells, AV.whole, AV.one, td0, td1, td2, td3, td4, td5, td6, Option.getD, List.map, List.take, List.drop, List.length, List.all, ↓reduceIte, Nat.reduceLT, Nat.reduceAdd, Nat.reduceEqDiff, Nat.zero_add, true_and, Bool.and_true, Bool.false_eq_true, Nat.le_refl, insC, Tryz.ntmps8]
      refine sw_call (hI) rfl (aAs_ok ?_) ?_ (sw_run 200 _ _ _ ?_)
      · simp only [aAs, aA, aDs, aD, AS.ev, look, Option.getD, List.map, List.append_nil, ↓reduceIte, eq_self, and_self, insC]
      · simp only [okR]
      simp only [mkR, flatD, packA, retA, List.headD_cons, eq_self, xRun, vE, vP, vNot, isCutO, isB, bv, gN, isPick, isCall, AS.pt, AS.ev, look, td0, td1, td2, td3, td4, td5, td6, Option.getD, ↓reduceIte, Nat.reduceLT, true_and, Bool.not_true, Bool.false_eq_true]
      refine sw_drawn (.cons 1 true (.cons 2 true (.cons 3 true (.cons 0 false (.cons 4 true (.cons 5 true (.cons 6 true (.nil)))))))) (by kernel_rfl) fQ_panic (by kernel_rfl) (sw_run 200 _ _ _ ?_)
      simp only [eq_self, xRun, vP, vSub, vLoad, vFld, vBin, vBinT, isAg, isBo, gN, isPick, isCall, AS.pt, AS.ev, look, cav, td0, td1, td2, td3, td4, td5, td6, Option.getD, Option.isSome, List.getElem?_cons_zero, List.getElem?_cons_succ, ↓reduceIte, Nat.reduceLT, Nat.reduceEqDiff, Nat.add_zero, ne_eq, not_false_eq_true, true_and, Bool.false_eq_true, Int.reduceSub, Nat.succ_ne_zero]
      refine ⟨by unfold inI; omega, ?_⟩
      refine sw_callD (hW) rfl (aAs_ok ?_) ?_ (sw_run 200 _ _ _ ?_)
      · simp only [aAs, List.map, List.append_nil]
      · simp only [okR]
      simp only [mkR, flatD, packA, retA, List.headD_cons, strsD, rowD, eq_self, xRun, vE, vP, vSub, vLoad, vFld, vIdx, vBin, vBinT, isAg, isBo, isCutO, isB, bv, gN, isPick, isCall, AS.pt, AS.ev, AS.mk', AS.owf, kill, look, cav, avO, td0, td1, td2, td3, td4, td5, td6, Option.bind, Option.getD, Option.isSome, List.map, List.take, List.drop, List.length, List.getElem?_cons_zero, List.getElem?_cons_succ, List.foldr, ↓reduceIte, Nat.reduceLT, Nat.reduceAdd, Nat.reduceEqDiff, Nat.zero_add, Nat.add_zero, ne_eq, not_false_eq_true, true_and, Bool.false_eq_true, id_eq, Int.reduceLE, Int.reduceToNat, decide_true, Nat.succ_ne_zero, wordsL, rowAt, strsD]
      refine ⟨by decide, by decide, ?_⟩
      refine sw_call ((con_OpNameS a (h3 rfl))) rfl (aAs_ok ?_) ?_ (sw_run 200 _ _ _ ?_)
      · simp only [aAs, aA, aD, AS.ev, look, Option.getD, List.map, List.append_nil, ↓reduceIte, eq_self, and_self]
      · simp only [okR]
      simp only [mkR, flatD, packA, retA, List.headD_cons, fQ, xRet, rPs, xRes, flatA, rD, eq_self, xRun, vE, vP, vBin, vBinT, isAg, isBo, isCutO, gN, isPick, isCall, AS.pt, AS.ev, look, eatsOf, td0, td1, td2, td3, td4, td5, td6, Option.getD, List.map, List.nodup_nil, ↓reduceIte, Nat.reduceLT, Nat.reduceEqDiff, and_true, or_false, Bool.false_eq_true, reduceCtorEq, and_self, Tryz.results8]
      exact it_len (by decide) (opB_len a)
    · have e : itB ⟨5, a⟩ = ⟨#[106, 117, 109, 112]⟩ ++ ⟨#[32]⟩ ++ numL a.toNat := by unfold itB; rw [← hb]; rfl
      rw [e]
      refine con_run Tryz.func8 rfl rfl (by simp [Tryz.ntmps8]) ?_
      simp only [argT, argA, eq_self, xRun, vE, vP, vSub, vLoad, isCutO, gN, isPick, isCall, AS.pt, AS.ev, AS.box, look, cav, avB, AV.cells, AV.whole, AV.one, td0, td1, td2, td3, td4, td5, td6, Option.getD, List.map, List.take, List.drop, List.length, List.all, ↓reduceIte, Nat.reduceLT, Nat.reduceAdd, Nat.reduceEqDiff, Nat.zero_add, true_and, Bool.and_true, Bool.false_eq_true, Nat.le_refl, insC, Tryz.ntmps8]
      refine sw_call (hI) rfl (aAs_ok ?_) ?_ (sw_run 200 _ _ _ ?_)
      · simp only [aAs, aA, aDs, aD, AS.ev, look, Option.getD, List.map, List.append_nil, ↓reduceIte, eq_self, and_self, insC]
      · simp only [okR]
      simp only [mkR, flatD, packA, retA, List.headD_cons, eq_self, xRun, vE, vP, vNot, isCutO, isB, bv, gN, isPick, isCall, AS.pt, AS.ev, look, td0, td1, td2, td3, td4, td5, td6, Option.getD, ↓reduceIte, Nat.reduceLT, true_and, Bool.not_true, Bool.false_eq_true]
      refine sw_drawn (.cons 1 true (.cons 2 true (.cons 3 true (.cons 0 false (.cons 4 true (.cons 5 true (.cons 6 true (.nil)))))))) (by kernel_rfl) fQ_panic (by kernel_rfl) (sw_run 200 _ _ _ ?_)
      simp only [eq_self, xRun, vP, vSub, vLoad, vFld, vBin, vBinT, isAg, isBo, gN, isPick, isCall, AS.pt, AS.ev, look, cav, td0, td1, td2, td3, td4, td5, td6, Option.getD, Option.isSome, List.getElem?_cons_zero, List.getElem?_cons_succ, ↓reduceIte, Nat.reduceLT, Nat.reduceEqDiff, Nat.add_zero, ne_eq, not_false_eq_true, true_and, Bool.false_eq_true, Int.reduceSub, Nat.succ_ne_zero]
      refine ⟨by unfold inI; omega, ?_⟩
      refine sw_callD (hW) rfl (aAs_ok ?_) ?_ (sw_run 200 _ _ _ ?_)
      · simp only [aAs, List.map, List.append_nil]
      · simp only [okR]
      simp only [mkR, flatD, packA, retA, List.headD_cons, strsD, rowD, eq_self, xRun, vE, vP, vSub, vLoad, vFld, vIdx, vBin, vBinT, isAg, isBo, isCutO, isB, bv, gN, isPick, isCall, AS.pt, AS.ev, AS.mk', AS.owf, kill, look, cav, avO, td0, td1, td2, td3, td4, td5, td6, Option.bind, Option.getD, Option.isSome, List.map, List.take, List.drop, List.length, List.getElem?_cons_zero, List.getElem?_cons_succ, List.foldr, ↓reduceIte, Nat.reduceLT, Nat.reduceAdd, Nat.reduceEqDiff, Nat.zero_add, Nat.add_zero, ne_eq, not_false_eq_true, true_and, Bool.false_eq_true, id_eq, Int.reduceLT, Int.reduceLE, Int.reduceEq, Int.reduceToNat, decide_true, decide_false, Nat.succ_ne_zero, wordsL, rowAt, strsD]
      refine ⟨by decide, by decide, ?_⟩
      refine sw_call (hF) rfl (aAs_ok ?_) ?_ (sw_run 200 _ _ _ ?_)
      · simp only [aAs, aA, aD, AS.ev, look, Option.getD, List.map, List.append_nil, ↓reduceIte, eq_self, and_self]
      · simp only [okR]
      simp only [mkR, flatD, packA, retA, List.headD_cons, fQ, xRet, rPs, xRes, flatA, rD, eq_self, xRun, vE, vP, vBin, vBinT, isAg, isBo, isCutO, gN, isPick, isCall, AS.pt, AS.ev, look, eatsOf, td0, td1, td2, td3, td4, td5, td6, Option.getD, List.map, List.nodup_nil, ↓reduceIte, Nat.reduceLT, Nat.reduceEqDiff, and_true, or_false, Bool.false_eq_true, reduceCtorEq, and_self, Tryz.results8]
      exact it_len (by decide) (hL)
    · have e : itB ⟨6, a⟩ = ⟨#[117, 110, 108, 101, 115, 115]⟩ ++ ⟨#[32]⟩ ++ numL a.toNat := by unfold itB; rw [← hb]; rfl
      rw [e]
      refine con_run Tryz.func8 rfl rfl (by simp [Tryz.ntmps8]) ?_
      simp only [argT, argA, eq_self, xRun, vE, vP, vSub, vLoad, isCutO, gN, isPick, isCall, AS.pt, AS.ev, AS.box, look, cav, avB, AV.cells, AV.whole, AV.one, td0, td1, td2, td3, td4, td5, td6, Option.getD, List.map, List.take, List.drop, List.length, List.all, ↓reduceIte, Nat.reduceLT, Nat.reduceAdd, Nat.reduceEqDiff, Nat.zero_add, true_and, Bool.and_true, Bool.false_eq_true, Nat.le_refl, insC, Tryz.ntmps8]
      refine sw_call (hI) rfl (aAs_ok ?_) ?_ (sw_run 200 _ _ _ ?_)
      · simp only [aAs, aA, aDs, aD, AS.ev, look, Option.getD, List.map, List.append_nil, ↓reduceIte, eq_self, and_self, insC]
      · simp only [okR]
      simp only [mkR, flatD, packA, retA, List.headD_cons, eq_self, xRun, vE, vP, vNot, isCutO, isB, bv, gN, isPick, isCall, AS.pt, AS.ev, look, td0, td1, td2, td3, td4, td5, td6, Option.getD, ↓reduceIte, Nat.reduceLT, true_and, Bool.not_true, Bool.false_eq_true]
      refine sw_drawn (.cons 1 true (.cons 2 true (.cons 3 true (.cons 0 false (.cons 4 true (.cons 5 true (.cons 6 true (.nil)))))))) (by kernel_rfl) fQ_panic (by kernel_rfl) (sw_run 200 _ _ _ ?_)
      simp only [eq_self, xRun, vP, vSub, vLoad, vFld, vBin, vBinT, isAg, isBo, gN, isPick, isCall, AS.pt, AS.ev, look, cav, td0, td1, td2, td3, td4, td5, td6, Option.getD, Option.isSome, List.getElem?_cons_zero, List.getElem?_cons_succ, ↓reduceIte, Nat.reduceLT, Nat.reduceEqDiff, Nat.add_zero, ne_eq, not_false_eq_true, true_and, Bool.false_eq_true, Int.reduceSub, Nat.succ_ne_zero]
      refine ⟨by unfold inI; omega, ?_⟩
      refine sw_callD (hW) rfl (aAs_ok ?_) ?_ (sw_run 200 _ _ _ ?_)
      · simp only [aAs, List.map, List.append_nil]
      · simp only [okR]
      simp only [mkR, flatD, packA, retA, List.headD_cons, strsD, rowD, eq_self, xRun, vE, vP, vSub, vLoad, vFld, vIdx, vBin, vBinT, isAg, isBo, isCutO, isB, bv, gN, isPick, isCall, AS.pt, AS.ev, AS.mk', AS.owf, kill, look, cav, avO, td0, td1, td2, td3, td4, td5, td6, Option.bind, Option.getD, Option.isSome, List.map, List.take, List.drop, List.length, List.getElem?_cons_zero, List.getElem?_cons_succ, List.foldr, ↓reduceIte, Nat.reduceLT, Nat.reduceAdd, Nat.reduceEqDiff, Nat.zero_add, Nat.add_zero, ne_eq, not_false_eq_true, true_and, Bool.false_eq_true, id_eq, Int.reduceLT, Int.reduceLE, Int.reduceEq, Int.reduceToNat, decide_true, decide_false, Nat.succ_ne_zero, wordsL, rowAt, strsD]
      refine ⟨by decide, by decide, ?_⟩
      refine sw_call (hF) rfl (aAs_ok ?_) ?_ (sw_run 200 _ _ _ ?_)
      · simp only [aAs, aA, aD, AS.ev, look, Option.getD, List.map, List.append_nil, ↓reduceIte, eq_self, and_self]
      · simp only [okR]
      simp only [mkR, flatD, packA, retA, List.headD_cons, fQ, xRet, rPs, xRes, flatA, rD, eq_self, xRun, vE, vP, vBin, vBinT, isAg, isBo, isCutO, gN, isPick, isCall, AS.pt, AS.ev, look, eatsOf, td0, td1, td2, td3, td4, td5, td6, Option.getD, List.map, List.nodup_nil, ↓reduceIte, Nat.reduceLT, Nat.reduceEqDiff, and_true, or_false, Bool.false_eq_true, reduceCtorEq, and_self, Tryz.results8]
      exact it_len (by decide) (hL)
    · have e : itB ⟨7, a⟩ = ⟨#[109, 97, 107, 101]⟩ ++ ⟨#[32]⟩ ++ numL a.toNat := by unfold itB; rw [← hb]; rfl
      rw [e]
      refine con_run Tryz.func8 rfl rfl (by simp [Tryz.ntmps8]) ?_
      simp only [argT, argA, eq_self, xRun, vE, vP, vSub, vLoad, isCutO, gN, isPick, isCall, AS.pt, AS.ev, AS.box, look, cav, avB, AV.cells, AV.whole, AV.one, td0, td1, td2, td3, td4, td5, td6, Option.getD, List.map, List.take, List.drop, List.length, List.all, ↓reduceIte, Nat.reduceLT, Nat.reduceAdd, Nat.reduceEqDiff, Nat.zero_add, true_and, Bool.and_true, Bool.false_eq_true, Nat.le_refl, insC, Tryz.ntmps8]
      refine sw_call (hI) rfl (aAs_ok ?_) ?_ (sw_run 200 _ _ _ ?_)
      · simp only [aAs, aA, aDs, aD, AS.ev, look, Option.getD, List.map, List.append_nil, ↓reduceIte, eq_self, and_self, insC]
      · simp only [okR]
      simp only [mkR, flatD, packA, retA, List.headD_cons, eq_self, xRun, vE, vP, vNot, isCutO, isB, bv, gN, isPick, isCall, AS.pt, AS.ev, look, td0, td1, td2, td3, td4, td5, td6, Option.getD, ↓reduceIte, Nat.reduceLT, true_and, Bool.not_true, Bool.false_eq_true]
      refine sw_drawn (.cons 1 true (.cons 2 true (.cons 3 true (.cons 0 false (.cons 4 true (.cons 5 true (.cons 6 true (.nil)))))))) (by kernel_rfl) fQ_panic (by kernel_rfl) (sw_run 200 _ _ _ ?_)
      simp only [eq_self, xRun, vP, vSub, vLoad, vFld, vBin, vBinT, isAg, isBo, gN, isPick, isCall, AS.pt, AS.ev, look, cav, td0, td1, td2, td3, td4, td5, td6, Option.getD, Option.isSome, List.getElem?_cons_zero, List.getElem?_cons_succ, ↓reduceIte, Nat.reduceLT, Nat.reduceEqDiff, Nat.add_zero, ne_eq, not_false_eq_true, true_and, Bool.false_eq_true, Int.reduceSub, Nat.succ_ne_zero]
      refine ⟨by unfold inI; omega, ?_⟩
      refine sw_callD (hW) rfl (aAs_ok ?_) ?_ (sw_run 200 _ _ _ ?_)
      · simp only [aAs, List.map, List.append_nil]
      · simp only [okR]
      simp only [mkR, flatD, packA, retA, List.headD_cons, strsD, rowD, eq_self, xRun, vE, vP, vSub, vLoad, vFld, vIdx, vBin, vBinT, isAg, isBo, isCutO, isB, bv, gN, isPick, isCall, AS.pt, AS.ev, AS.mk', AS.owf, kill, look, cav, avO, td0, td1, td2, td3, td4, td5, td6, Option.bind, Option.getD, Option.isSome, List.map, List.take, List.drop, List.length, List.getElem?_cons_zero, List.getElem?_cons_succ, List.foldr, ↓reduceIte, Nat.reduceLT, Nat.reduceAdd, Nat.reduceEqDiff, Nat.zero_add, Nat.add_zero, ne_eq, not_false_eq_true, true_and, Bool.false_eq_true, id_eq, Int.reduceLT, Int.reduceLE, Int.reduceEq, Int.reduceToNat, decide_true, decide_false, Nat.succ_ne_zero, wordsL, rowAt, strsD]
      refine ⟨by decide, by decide, ?_⟩
      refine sw_call (hF) rfl (aAs_ok ?_) ?_ (sw_run 200 _ _ _ ?_)
      · simp only [aAs, aA, aD, AS.ev, look, Option.getD, List.map, List.append_nil, ↓reduceIte, eq_self, and_self]
      · simp only [okR]
      simp only [mkR, flatD, packA, retA, List.headD_cons, fQ, xRet, rPs, xRes, flatA, rD, eq_self, xRun, vE, vP, vBin, vBinT, isAg, isBo, isCutO, gN, isPick, isCall, AS.pt, AS.ev, look, eatsOf, td0, td1, td2, td3, td4, td5, td6, Option.getD, List.map, List.nodup_nil, ↓reduceIte, Nat.reduceLT, Nat.reduceEqDiff, and_true, or_false, Bool.false_eq_true, reduceCtorEq, and_self, Tryz.results8]
      exact it_len (by decide) (hL)
    · have e : itB ⟨8, a⟩ = ⟨#[109, 97, 107, 101, 114, 101, 99]⟩ ++ ⟨#[32]⟩ ++ numL a.toNat := by unfold itB; rw [← hb]; rfl
      rw [e]
      refine con_run Tryz.func8 rfl rfl (by simp [Tryz.ntmps8]) ?_
      simp only [argT, argA, eq_self, xRun, vE, vP, vSub, vLoad, isCutO, gN, isPick, isCall, AS.pt, AS.ev, AS.box, look, cav, avB, AV.cells, AV.whole, AV.one, td0, td1, td2, td3, td4, td5, td6, Option.getD, List.map, List.take, List.drop, List.length, List.all, ↓reduceIte, Nat.reduceLT, Nat.reduceAdd, Nat.reduceEqDiff, Nat.zero_add, true_and, Bool.and_true, Bool.false_eq_true, Nat.le_refl, insC, Tryz.ntmps8]
      refine sw_call (hI) rfl (aAs_ok ?_) ?_ (sw_run 200 _ _ _ ?_)
      · simp only [aAs, aA, aDs, aD, AS.ev, look, Option.getD, List.map, List.append_nil, ↓reduceIte, eq_self, and_self, insC]
      · simp only [okR]
      simp only [mkR, flatD, packA, retA, List.headD_cons, eq_self, xRun, vE, vP, vNot, isCutO, isB, bv, gN, isPick, isCall, AS.pt, AS.ev, look, td0, td1, td2, td3, td4, td5, td6, Option.getD, ↓reduceIte, Nat.reduceLT, true_and, Bool.not_true, Bool.false_eq_true]
      refine sw_drawn (.cons 1 true (.cons 2 true (.cons 3 true (.cons 0 false (.cons 4 true (.cons 5 true (.cons 6 true (.nil)))))))) (by kernel_rfl) fQ_panic (by kernel_rfl) (sw_run 200 _ _ _ ?_)
      simp only [eq_self, xRun, vP, vSub, vLoad, vFld, vBin, vBinT, isAg, isBo, gN, isPick, isCall, AS.pt, AS.ev, look, cav, td0, td1, td2, td3, td4, td5, td6, Option.getD, Option.isSome, List.getElem?_cons_zero, List.getElem?_cons_succ, ↓reduceIte, Nat.reduceLT, Nat.reduceEqDiff, Nat.add_zero, ne_eq, not_false_eq_true, true_and, Bool.false_eq_true, Int.reduceSub, Nat.succ_ne_zero]
      refine ⟨by unfold inI; omega, ?_⟩
      refine sw_callD (hW) rfl (aAs_ok ?_) ?_ (sw_run 200 _ _ _ ?_)
      · simp only [aAs, List.map, List.append_nil]
      · simp only [okR]
      simp only [mkR, flatD, packA, retA, List.headD_cons, strsD, rowD, eq_self, xRun, vE, vP, vSub, vLoad, vFld, vIdx, vBin, vBinT, isAg, isBo, isCutO, isB, bv, gN, isPick, isCall, AS.pt, AS.ev, AS.mk', AS.owf, kill, look, cav, avO, td0, td1, td2, td3, td4, td5, td6, Option.bind, Option.getD, Option.isSome, List.map, List.take, List.drop, List.length, List.getElem?_cons_zero, List.getElem?_cons_succ, List.foldr, ↓reduceIte, Nat.reduceLT, Nat.reduceAdd, Nat.reduceEqDiff, Nat.zero_add, Nat.add_zero, ne_eq, not_false_eq_true, true_and, Bool.false_eq_true, id_eq, Int.reduceLT, Int.reduceLE, Int.reduceEq, Int.reduceToNat, decide_true, decide_false, Nat.succ_ne_zero, wordsL, rowAt, strsD]
      refine ⟨by decide, by decide, ?_⟩
      refine sw_call (hF) rfl (aAs_ok ?_) ?_ (sw_run 200 _ _ _ ?_)
      · simp only [aAs, aA, aD, AS.ev, look, Option.getD, List.map, List.append_nil, ↓reduceIte, eq_self, and_self]
      · simp only [okR]
      simp only [mkR, flatD, packA, retA, List.headD_cons, fQ, xRet, rPs, xRes, flatA, rD, eq_self, xRun, vE, vP, vBin, vBinT, isAg, isBo, isCutO, gN, isPick, isCall, AS.pt, AS.ev, look, eatsOf, td0, td1, td2, td3, td4, td5, td6, Option.getD, List.map, List.nodup_nil, ↓reduceIte, Nat.reduceLT, Nat.reduceEqDiff, and_true, or_false, Bool.false_eq_true, reduceCtorEq, and_self, Tryz.results8]
      exact it_len (by decide) (hL)
    · have e : itB ⟨9, a⟩ = ⟨#[99, 97, 108, 108]⟩ := by unfold itB; rw [← hb]; rfl
      rw [e]
      refine con_run Tryz.func8 rfl rfl (by simp [Tryz.ntmps8]) ?_
      simp only [argT, argA, eq_self, xRun, vE, vP, vSub, vLoad, isCutO, gN, isPick, isCall, AS.pt, AS.ev, AS.box, look, cav, avB, AV.cells, AV.whole, AV.one, td0, td1, td2, td3, td4, td5, td6, Option.getD, List.map, List.take, List.drop, List.length, List.all, ↓reduceIte, Nat.reduceLT, Nat.reduceAdd, Nat.reduceEqDiff, Nat.zero_add, true_and, Bool.and_true, Bool.false_eq_true, Nat.le_refl, insC, Tryz.ntmps8]
      refine sw_call (hI) rfl (aAs_ok ?_) ?_ (sw_run 200 _ _ _ ?_)
      · simp only [aAs, aA, aDs, aD, AS.ev, look, Option.getD, List.map, List.append_nil, ↓reduceIte, eq_self, and_self, insC]
      · simp only [okR]
      simp only [mkR, flatD, packA, retA, List.headD_cons, eq_self, xRun, vE, vP, vNot, isCutO, isB, bv, gN, isPick, isCall, AS.pt, AS.ev, look, td0, td1, td2, td3, td4, td5, td6, Option.getD, ↓reduceIte, Nat.reduceLT, true_and, Bool.not_true, Bool.false_eq_true]
      refine sw_drawn (.cons 1 true (.cons 2 true (.cons 3 true (.cons 0 false (.cons 4 true (.cons 5 true (.cons 6 true (.nil)))))))) (by kernel_rfl) fQ_panic (by kernel_rfl) (sw_run 200 _ _ _ ?_)
      simp only [eq_self, xRun, vP, vSub, vLoad, vFld, vBin, vBinT, isAg, isBo, gN, isPick, isCall, AS.pt, AS.ev, look, cav, td0, td1, td2, td3, td4, td5, td6, Option.getD, Option.isSome, List.getElem?_cons_zero, List.getElem?_cons_succ, ↓reduceIte, Nat.reduceLT, Nat.reduceEqDiff, Nat.add_zero, ne_eq, not_false_eq_true, true_and, Bool.false_eq_true, Int.reduceSub, Nat.succ_ne_zero]
      refine ⟨by unfold inI; omega, ?_⟩
      refine sw_callD (hW) rfl (aAs_ok ?_) ?_ (sw_run 200 _ _ _ ?_)
      · simp only [aAs, List.map, List.append_nil]
      · simp only [okR]
      simp only [mkR, flatD, packA, retA, List.headD_cons, fQ, strsD, rowD, xRet, rPs, xRes, flatA, rD, eq_self, xRun, vE, vP, vSub, vLoad, vFld, vIdx, vBin, vBinT, isAg, isBo, isCutO, isB, bv, gN, isPick, isCall, AS.pt, AS.ev, AS.mk', AS.owf, kill, look, cav, avO, eatsOf, td0, td1, td2, td3, td4, td5, td6, Option.bind, Option.getD, Option.isSome, List.map, List.take, List.drop, List.length, List.getElem?_cons_zero, List.getElem?_cons_succ, List.foldr, List.nodup_nil, ↓reduceIte, Nat.reduceLT, Nat.reduceAdd, Nat.reduceEqDiff, Nat.zero_add, Nat.add_zero, ne_eq, not_false_eq_true, true_and, and_true, or_false, Bool.false_eq_true, id_eq, reduceCtorEq, Int.reduceLT, Int.reduceLE, Int.reduceEq, Int.reduceToNat, decide_false, and_self, Nat.succ_ne_zero, wordsL, rowAt, strsD, Tryz.results8]
      decide
    · have e : itB ⟨10, a⟩ = ⟨#[114, 101, 116]⟩ := by unfold itB; rw [← hb]; rfl
      rw [e]
      refine con_run Tryz.func8 rfl rfl (by simp [Tryz.ntmps8]) ?_
      simp only [argT, argA, eq_self, xRun, vE, vP, vSub, vLoad, isCutO, gN, isPick, isCall, AS.pt, AS.ev, AS.box, look, cav, avB, AV.cells, AV.whole, AV.one, td0, td1, td2, td3, td4, td5, td6, Option.getD, List.map, List.take, List.drop, List.length, List.all, ↓reduceIte, Nat.reduceLT, Nat.reduceAdd, Nat.reduceEqDiff, Nat.zero_add, true_and, Bool.and_true, Bool.false_eq_true, Nat.le_refl, insC, Tryz.ntmps8]
      refine sw_call (hI) rfl (aAs_ok ?_) ?_ (sw_run 200 _ _ _ ?_)
      · simp only [aAs, aA, aDs, aD, AS.ev, look, Option.getD, List.map, List.append_nil, ↓reduceIte, eq_self, and_self, insC]
      · simp only [okR]
      simp only [mkR, flatD, packA, retA, List.headD_cons, eq_self, xRun, vE, vP, vNot, isCutO, isB, bv, gN, isPick, isCall, AS.pt, AS.ev, look, td0, td1, td2, td3, td4, td5, td6, Option.getD, ↓reduceIte, Nat.reduceLT, true_and, Bool.not_true, Bool.false_eq_true]
      refine sw_drawn (.cons 1 true (.cons 2 true (.cons 3 true (.cons 0 false (.cons 4 true (.cons 5 true (.cons 6 true (.nil)))))))) (by kernel_rfl) fQ_panic (by kernel_rfl) (sw_run 200 _ _ _ ?_)
      simp only [eq_self, xRun, vP, vSub, vLoad, vFld, vBin, vBinT, isAg, isBo, gN, isPick, isCall, AS.pt, AS.ev, look, cav, td0, td1, td2, td3, td4, td5, td6, Option.getD, Option.isSome, List.getElem?_cons_zero, List.getElem?_cons_succ, ↓reduceIte, Nat.reduceLT, Nat.reduceEqDiff, Nat.add_zero, ne_eq, not_false_eq_true, true_and, Bool.false_eq_true, Int.reduceSub, Nat.succ_ne_zero]
      refine ⟨by unfold inI; omega, ?_⟩
      refine sw_callD (hW) rfl (aAs_ok ?_) ?_ (sw_run 200 _ _ _ ?_)
      · simp only [aAs, List.map, List.append_nil]
      · simp only [okR]
      simp only [mkR, flatD, packA, retA, List.headD_cons, fQ, strsD, rowD, xRet, rPs, xRes, flatA, rD, eq_self, xRun, vE, vP, vSub, vLoad, vFld, vIdx, vBin, vBinT, isAg, isBo, isCutO, isB, bv, gN, isPick, isCall, AS.pt, AS.ev, AS.mk', AS.owf, kill, look, cav, avO, eatsOf, td0, td1, td2, td3, td4, td5, td6, Option.bind, Option.getD, Option.isSome, List.map, List.take, List.drop, List.length, List.getElem?_cons_zero, List.getElem?_cons_succ, List.foldr, List.nodup_nil, ↓reduceIte, Nat.reduceLT, Nat.reduceAdd, Nat.reduceEqDiff, Nat.zero_add, Nat.add_zero, ne_eq, not_false_eq_true, true_and, and_true, or_false, Bool.false_eq_true, id_eq, reduceCtorEq, Int.reduceLT, Int.reduceLE, Int.reduceEq, Int.reduceToNat, decide_false, and_self, Nat.succ_ne_zero, wordsL, rowAt, strsD, Tryz.results8]
      decide
    · have e : itB ⟨11, a⟩ = ⟨#[98, 105, 110, 100]⟩ := by unfold itB; rw [← hb]; rfl
      rw [e]
      refine con_run Tryz.func8 rfl rfl (by simp [Tryz.ntmps8]) ?_
      simp only [argT, argA, eq_self, xRun, vE, vP, vSub, vLoad, isCutO, gN, isPick, isCall, AS.pt, AS.ev, AS.box, look, cav, avB, AV.cells, AV.whole, AV.one, td0, td1, td2, td3, td4, td5, td6, Option.getD, List.map, List.take, List.drop, List.length, List.all, ↓reduceIte, Nat.reduceLT, Nat.reduceAdd, Nat.reduceEqDiff, Nat.zero_add, true_and, Bool.and_true, Bool.false_eq_true, Nat.le_refl, insC, Tryz.ntmps8]
      refine sw_call (hI) rfl (aAs_ok ?_) ?_ (sw_run 200 _ _ _ ?_)
      · simp only [aAs, aA, aDs, aD, AS.ev, look, Option.getD, List.map, List.append_nil, ↓reduceIte, eq_self, and_self, insC]
      · simp only [okR]
      simp only [mkR, flatD, packA, retA, List.headD_cons, eq_self, xRun, vE, vP, vNot, isCutO, isB, bv, gN, isPick, isCall, AS.pt, AS.ev, look, td0, td1, td2, td3, td4, td5, td6, Option.getD, ↓reduceIte, Nat.reduceLT, true_and, Bool.not_true, Bool.false_eq_true]
      refine sw_drawn (.cons 1 true (.cons 2 true (.cons 3 true (.cons 0 false (.cons 4 true (.cons 5 true (.cons 6 true (.nil)))))))) (by kernel_rfl) fQ_panic (by kernel_rfl) (sw_run 200 _ _ _ ?_)
      simp only [eq_self, xRun, vP, vSub, vLoad, vFld, vBin, vBinT, isAg, isBo, gN, isPick, isCall, AS.pt, AS.ev, look, cav, td0, td1, td2, td3, td4, td5, td6, Option.getD, Option.isSome, List.getElem?_cons_zero, List.getElem?_cons_succ, ↓reduceIte, Nat.reduceLT, Nat.reduceEqDiff, Nat.add_zero, ne_eq, not_false_eq_true, true_and, Bool.false_eq_true, Int.reduceSub, Nat.succ_ne_zero]
      refine ⟨by unfold inI; omega, ?_⟩
      refine sw_callD (hW) rfl (aAs_ok ?_) ?_ (sw_run 200 _ _ _ ?_)
      · simp only [aAs, List.map, List.append_nil]
      · simp only [okR]
      simp only [mkR, flatD, packA, retA, List.headD_cons, fQ, strsD, rowD, xRet, rPs, xRes, flatA, rD, eq_self, xRun, vE, vP, vSub, vLoad, vFld, vIdx, vBin, vBinT, isAg, isBo, isCutO, isB, bv, gN, isPick, isCall, AS.pt, AS.ev, AS.mk', AS.owf, kill, look, cav, avO, eatsOf, td0, td1, td2, td3, td4, td5, td6, Option.bind, Option.getD, Option.isSome, List.map, List.take, List.drop, List.length, List.getElem?_cons_zero, List.getElem?_cons_succ, List.foldr, List.nodup_nil, ↓reduceIte, Nat.reduceLT, Nat.reduceAdd, Nat.reduceEqDiff, Nat.zero_add, Nat.add_zero, ne_eq, not_false_eq_true, true_and, and_true, or_false, Bool.false_eq_true, id_eq, reduceCtorEq, Int.reduceLT, Int.reduceLE, Int.reduceEq, Int.reduceToNat, decide_false, and_self, Nat.succ_ne_zero, wordsL, rowAt, strsD, Tryz.results8]
      decide
    · have e : itB ⟨12, a⟩ = ⟨#[117, 110, 98, 105, 110, 100]⟩ := by unfold itB; rw [← hb]; rfl
      rw [e]
      refine con_run Tryz.func8 rfl rfl (by simp [Tryz.ntmps8]) ?_
      simp only [argT, argA, eq_self, xRun, vE, vP, vSub, vLoad, isCutO, gN, isPick, isCall, AS.pt, AS.ev, AS.box, look, cav, avB, AV.cells, AV.whole, AV.one, td0, td1, td2, td3, td4, td5, td6, Option.getD, List.map, List.take, List.drop, List.length, List.all, ↓reduceIte, Nat.reduceLT, Nat.reduceAdd, Nat.reduceEqDiff, Nat.zero_add, true_and, Bool.and_true, Bool.false_eq_true, Nat.le_refl, insC, Tryz.ntmps8]
      refine sw_call (hI) rfl (aAs_ok ?_) ?_ (sw_run 200 _ _ _ ?_)
      · simp only [aAs, aA, aDs, aD, AS.ev, look, Option.getD, List.map, List.append_nil, ↓reduceIte, eq_self, and_self, insC]
      · simp only [okR]
      simp only [mkR, flatD, packA, retA, List.headD_cons, eq_self, xRun, vE, vP, vNot, isCutO, isB, bv, gN, isPick, isCall, AS.pt, AS.ev, look, td0, td1, td2, td3, td4, td5, td6, Option.getD, ↓reduceIte, Nat.reduceLT, true_and, Bool.not_true, Bool.false_eq_true]
      refine sw_drawn (.cons 1 true (.cons 2 true (.cons 3 true (.cons 0 false (.cons 4 true (.cons 5 true (.cons 6 true (.nil)))))))) (by kernel_rfl) fQ_panic (by kernel_rfl) (sw_run 200 _ _ _ ?_)
      simp only [eq_self, xRun, vP, vSub, vLoad, vFld, vBin, vBinT, isAg, isBo, gN, isPick, isCall, AS.pt, AS.ev, look, cav, td0, td1, td2, td3, td4, td5, td6, Option.getD, Option.isSome, List.getElem?_cons_zero, List.getElem?_cons_succ, ↓reduceIte, Nat.reduceLT, Nat.reduceEqDiff, Nat.add_zero, ne_eq, not_false_eq_true, true_and, Bool.false_eq_true, Int.reduceSub, Nat.succ_ne_zero]
      refine ⟨by unfold inI; omega, ?_⟩
      refine sw_callD (hW) rfl (aAs_ok ?_) ?_ (sw_run 200 _ _ _ ?_)
      · simp only [aAs, List.map, List.append_nil]
      · simp only [okR]
      simp only [mkR, flatD, packA, retA, List.headD_cons, fQ, strsD, rowD, xRet, rPs, xRes, flatA, rD, eq_self, xRun, vE, vP, vSub, vLoad, vFld, vIdx, vBin, vBinT, isAg, isBo, isCutO, isB, bv, gN, isPick, isCall, AS.pt, AS.ev, AS.mk', AS.owf, kill, look, cav, avO, eatsOf, td0, td1, td2, td3, td4, td5, td6, Option.bind, Option.getD, Option.isSome, List.map, List.take, List.drop, List.length, List.getElem?_cons_zero, List.getElem?_cons_succ, List.foldr, List.nodup_nil, ↓reduceIte, Nat.reduceLT, Nat.reduceAdd, Nat.reduceEqDiff, Nat.zero_add, Nat.add_zero, ne_eq, not_false_eq_true, true_and, and_true, or_false, Bool.false_eq_true, id_eq, reduceCtorEq, Int.reduceLT, Int.reduceLE, Int.reduceEq, Int.reduceToNat, decide_false, and_self, Nat.succ_ne_zero, wordsL, rowAt, strsD, Tryz.results8]
      decide
end Go.Proofs.YtfbjdeeomjfhkaaGreatDoor
