/-
  The reference's reader of types; ParseType of both sides.
-/
import Derived.Test.YtepjbiffebbelaaPty
namespace Go.Proofs.Ytepjbiffebbelaa
open Go.RowKit
set_option linter.unusedVariables false
set_option linter.unusedSimpArgs false
set_option maxRecDepth 20000
def rdr (s : List UInt8) (i : Nat) (b : Bool) : List CD := [.o (.str (bs s)), .o (.int i), .o (.bool b)]
theorem tk_ext (s : List UInt8) (c : UInt8) (i : Nat) (h : i + 1 ≤ s.length) : decide (¬ (bs s).extract i (i + 1) = (⟨#[c]⟩ : ByteArray)) = !tk s c i := by
  rw [ch_b, bs_ext]
  have h1 : i < s.length := by omega
  have e : (s.drop i).take (i + 1 - i) = [s[i]] := by
    rw [show i + 1 - i = 1 by omega, List.drop_eq_getElem_cons h1]; rfl
  rw [e, tk, List.getElem?_eq_getElem h1]
  by_cases hc : s[i] = c
  · simp [hc]
  · have : ¬ bs [s[i]] = bs [c] := fun h' => hc (by have := bs_inj h'; simpa using this)
    simp [hc, this]
theorem one1 : ((1 : Nat) : Int) = 1 := rfl
theorem tk_far {s : List UInt8} {c : UInt8} {i : Nat} (h : ¬ i + 1 ≤ s.length) : tk s c i = false := by
  unfold tk; rw [List.getElem?_eq_none (by omega)]; rfl
theorem con_take (c : UInt8) (s : List UInt8) (i : Nat) (hl : s.length ≤ 1000000000000) (hi : i ≤ s.length) : ConP Try.prog 167 [.p (rdr s i false), .b (.one (.str ⟨#[c]⟩))] [rdr s (if tk s c i = true then i + 1 else i) false] [.one (.o (.bool (tk s c i)))] := by
  have h1 : (⟨#[c]⟩ : ByteArray).size = 1 := rfl
  have hin : inI ((i : Int) + 1) := by unfold inI; omega
  by_cases h : i + 1 ≤ s.length
  · have hx := tk_ext s c i h
    have h2 : ¬ (s.length : Int) < (i : Int) + 1 := by omega
    have h3 : ((i : Int) + 1).toNat = i + 1 := by omega
    have h4 : 0 ≤ (i : Int) ∧ (i : Int) ≤ (i : Int) + 1 ∧ (i : Int) + 1 ≤ (s.length : Int) := by omega
    obtain ⟨h5, h6, h7⟩ := h4
    generalize tk s c i = b at *
    refine con_runP Try.func167 rfl rfl (by simp [Try.ntmps167]) rfl ?_
    simp only [s0P, mkPs, mkPA, mkC, argA, numT, eq_self, xRun, vE, vP, isCutO, gN, isPick, isCall, AS.pt, AS.ev, AS.box, cav, avB, td0, td1, td2, td3, td4, td5, td6, List.nil_append, ↓reduceIte, Nat.reduceLT, Nat.zero_add, true_and, Bool.false_eq_true, rdr, Try.ntmps167]
    refine sw_drawn (.cons 0 true (.cons 1 false (.cons 2 true (.cons 3 true (.cons 4 true (.cons 5 true (.cons 9 true (.cons 10 true (.cons 12 true (.fork (.alt 6 (.cons 7 true (.cons 8 true (.cons 11 true (.cons 13 false (.cons 14 true (.cons 15 true (.cons 16 true (.cons 17 true (.cons 18 true (.cons 19 true (.cons 20 true (.cons 24 true (.cons 28 true (.cons 32 true (.cons 33 true (.cons 36 true (.fork (.alt 21 (.cons 22 true (.cons 23 true (.fork (.alt 25 (.cons 26 true (.cons 27 true (.cons 29 false (.cons 30 true (.cons 31 true (.cons 34 true (.cons 35 true (.cons 37 true (.cons 38 true (.nil)))))))))) (.alt 29 (.cons 30 true (.cons 31 true (.cons 34 true (.cons 25 false (.cons 26 true (.cons 27 true (.cons 35 true (.cons 37 true (.cons 38 true (.nil)))))))))) (.last)))))) (.alt 25 (.cons 26 true (.cons 27 true (.fork (.alt 21 (.cons 22 true (.cons 23 true (.cons 29 false (.cons 30 true (.cons 31 true (.cons 34 true (.cons 35 true (.cons 37 true (.cons 38 true (.nil)))))))))) (.alt 29 (.cons 30 true (.cons 31 true (.cons 34 true (.cons 21 false (.cons 22 true (.cons 23 true (.cons 35 true (.cons 37 true (.cons 38 true (.nil)))))))))) (.last)))))) (.alt 29 (.cons 30 true (.cons 31 true (.cons 34 true (.fork (.alt 21 (.cons 22 true (.cons 23 true (.cons 25 false (.cons 26 true (.cons 27 true (.cons 35 true (.cons 37 true (.cons 38 true (.nil))))))))) (.alt 25 (.cons 26 true (.cons 27 true (.cons 21 false (.cons 22 true (.cons 23 true (.cons 35 true (.cons 37 true (.cons 38 true (.nil))))))))) (.last))))))) (.last))))))))))))))))))))) (.alt 13 (.cons 14 true (.cons 15 true (.cons 16 true (.cons 6 false (.cons 7 true (.cons 8 true (.cons 11 true (.cons 17 true (.cons 18 true (.cons 19 true (.cons 20 true (.cons 24 true (.cons 28 true (.cons 32 true (.cons 33 true (.cons 36 true (.fork (.alt 21 (.cons 22 true (.cons 23 true (.fork (.alt 25 (.cons 26 true (.cons 27 true (.cons 29 false (.cons 30 true (.cons 31 true (.cons 34 true (.cons 35 true (.cons 37 true (.cons 38 true (.nil)))))))))) (.alt 29 (.cons 30 true (.cons 31 true (.cons 34 true (.cons 25 false (.cons 26 true (.cons 27 true (.cons 35 true (.cons 37 true (.cons 38 true (.nil)))))))))) (.last)))))) (.alt 25 (.cons 26 true (.cons 27 true (.fork (.alt 21 (.cons 22 true (.cons 23 true (.cons 29 false (.cons 30 true (.cons 31 true (.cons 34 true (.cons 35 true (.cons 37 true (.cons 38 true (.nil)))))))))) (.alt 29 (.cons 30 true (.cons 31 true (.cons 34 true (.cons 21 false (.cons 22 true (.cons 23 true (.cons 35 true (.cons 37 true (.cons 38 true (.nil)))))))))) (.last)))))) (.alt 29 (.cons 30 true (.cons 31 true (.cons 34 true (.fork (.alt 21 (.cons 22 true (.cons 23 true (.cons 25 false (.cons 26 true (.cons 27 true (.cons 35 true (.cons 37 true (.cons 38 true (.nil))))))))) (.alt 25 (.cons 26 true (.cons 27 true (.cons 21 false (.cons 22 true (.cons 23 true (.cons 35 true (.cons 37 true (.cons 38 true (.nil))))))))) (.last))))))) (.last))))))))))))))))))))) (.last))))))))))))) (by kernel_rfl) fQP_panic (by kernel_rfl) (sw_run 200 _ _ _ ?_)
    cases b
    · have hP : ¬ (bs s).extract i (i + 1) = (⟨#[c]⟩ : ByteArray) := by simpa using hx
      simp only [fQP, xRetP, rRs, rOs, rC, rCs, eRs, eOs, eC, eCs, xRes, rD, eq_self, xRun, vE, vP, vSub, vLoad, vFld, vBin, vBinT, isAg, isBo, vLen, vCut, vSlc, isCutO, ixL, ixH, isB, bv, gT, gW, gN, gV, isU, isPick, pkC, pkB, isCall, AS.pt, AS.kn, AS.ev, look, cav, td0, td1, td2, td3, td4, td5, td6, Option.bind, Option.getD, Option.map, Option.isSome, List.map, List.getElem?_cons_zero, List.getElem?_cons_succ, List.not_mem_nil, List.nodup_cons, List.nodup_nil, List.append_nil, ↓reduceIte, Nat.reduceLT, Nat.reduceEqDiff, Nat.zero_add, Nat.add_zero, ne_eq, not_false_eq_true, or_false, Bool.false_eq_true, reduceCtorEq, Int.toNat_natCast, decide_true, decide_false, and_self, Nat.succ_ne_zero, bs_size, h1, h2, h3, h5, h6, h7, hin, hP, one1, Try.results167]
    · have hP : (bs s).extract i (i + 1) = (⟨#[c]⟩ : ByteArray) := by simpa using hx
      simp only [fQP, xRetP, rRs, rOs, rC, rCs, eRs, eOs, eC, eCs, xRes, rD, eq_self, xRun, vE, vP, vSub, vLoad, vFld, vBin, vBinT, isAg, isBo, vLen, vCut, vSlc, vStore, isCutO, ixL, ixH, isB, bv, gT, gW, gN, gV, isU, isPick, pkC, pkB, isCall, AS.pt, AS.kn, AS.ev, AS.setb, look, cav, setRowG, AV.cells, AV.whole, AV.one, td0, td1, td2, td3, td4, td5, td6, Option.bind, Option.getD, Option.map, Option.isSome, List.map, List.length, List.getElem?_cons_zero, List.getElem?_cons_succ, List.set, List.not_mem_nil, List.nodup_cons, List.nodup_nil, List.append_nil, ↓reduceIte, Nat.reduceLT, Nat.reduceAdd, Nat.reduceLeDiff, Nat.reduceEqDiff, Nat.zero_add, Nat.add_zero, ne_eq, not_false_eq_true, not_true_eq_false, or_false, Bool.false_eq_true, reduceCtorEq, Int.toNat_natCast, Int.reduceAdd, Int.natCast_zero, decide_false, and_self, Nat.succ_ne_zero, bs_size, h1, h2, h3, h5, h6, h7, hin, eq_true hP, cast1, Try.results167]
  · have h2 : (s.length : Int) < (i : Int) + 1 := by omega
    rw [tk_far h]
    refine con_runP Try.func167 rfl rfl (by simp [Try.ntmps167]) rfl ?_
    simp only [s0P, mkPs, mkPA, mkC, argA, numT, eq_self, xRun, vE, vP, isCutO, gN, isPick, isCall, AS.pt, AS.ev, AS.box, cav, avB, td0, td1, td2, td3, td4, td5, td6, List.nil_append, ↓reduceIte, Nat.reduceLT, Nat.zero_add, true_and, Bool.false_eq_true, rdr, Try.ntmps167]
    refine sw_drawn (.cons 0 true (.cons 1 false (.cons 2 true (.cons 3 true (.cons 4 true (.cons 5 true (.cons 9 true (.cons 10 true (.cons 12 true (.fork (.alt 6 (.cons 7 true (.cons 8 true (.cons 11 true (.cons 13 false (.cons 14 true (.cons 15 true (.cons 16 true (.cons 17 true (.cons 18 true (.cons 19 true (.cons 20 true (.cons 24 true (.cons 28 true (.cons 32 true (.cons 33 true (.cons 36 true (.fork (.alt 21 (.cons 22 true (.cons 23 true (.fork (.alt 25 (.cons 26 true (.cons 27 true (.cons 29 false (.cons 30 true (.cons 31 true (.cons 34 true (.cons 35 true (.cons 37 true (.cons 38 true (.nil)))))))))) (.alt 29 (.cons 30 true (.cons 31 true (.cons 34 true (.cons 25 false (.cons 26 true (.cons 27 true (.cons 35 true (.cons 37 true (.cons 38 true (.nil)))))))))) (.last)))))) (.alt 25 (.cons 26 true (.cons 27 true (.fork (.alt 21 (.cons 22 true (.cons 23 true (.cons 29 false (.cons 30 true (.cons 31 true (.cons 34 true (.cons 35 true (.cons 37 true (.cons 38 true (.nil)))))))))) (.alt 29 (.cons 30 true (.cons 31 true (.cons 34 true (.cons 21 false (.cons 22 true (.cons 23 true (.cons 35 true (.cons 37 true (.cons 38 true (.nil)))))))))) (.last)))))) (.alt 29 (.cons 30 true (.cons 31 true (.cons 34 true (.fork (.alt 21 (.cons 22 true (.cons 23 true (.cons 25 false (.cons 26 true (.cons 27 true (.cons 35 true (.cons 37 true (.cons 38 true (.nil))))))))) (.alt 25 (.cons 26 true (.cons 27 true (.cons 21 false (.cons 22 true (.cons 23 true (.cons 35 true (.cons 37 true (.cons 38 true (.nil))))))))) (.last))))))) (.last))))))))))))))))))))) (.alt 13 (.cons 14 true (.cons 15 true (.cons 16 true (.cons 6 false (.cons 7 true (.cons 8 true (.cons 11 true (.cons 17 true (.cons 18 true (.cons 19 true (.cons 20 true (.cons 24 true (.cons 28 true (.cons 32 true (.cons 33 true (.cons 36 true (.fork (.alt 21 (.cons 22 true (.cons 23 true (.fork (.alt 25 (.cons 26 true (.cons 27 true (.cons 29 false (.cons 30 true (.cons 31 true (.cons 34 true (.cons 35 true (.cons 37 true (.cons 38 true (.nil)))))))))) (.alt 29 (.cons 30 true (.cons 31 true (.cons 34 true (.cons 25 false (.cons 26 true (.cons 27 true (.cons 35 true (.cons 37 true (.cons 38 true (.nil)))))))))) (.last)))))) (.alt 25 (.cons 26 true (.cons 27 true (.fork (.alt 21 (.cons 22 true (.cons 23 true (.cons 29 false (.cons 30 true (.cons 31 true (.cons 34 true (.cons 35 true (.cons 37 true (.cons 38 true (.nil)))))))))) (.alt 29 (.cons 30 true (.cons 31 true (.cons 34 true (.cons 21 false (.cons 22 true (.cons 23 true (.cons 35 true (.cons 37 true (.cons 38 true (.nil)))))))))) (.last)))))) (.alt 29 (.cons 30 true (.cons 31 true (.cons 34 true (.fork (.alt 21 (.cons 22 true (.cons 23 true (.cons 25 false (.cons 26 true (.cons 27 true (.cons 35 true (.cons 37 true (.cons 38 true (.nil))))))))) (.alt 25 (.cons 26 true (.cons 27 true (.cons 21 false (.cons 22 true (.cons 23 true (.cons 35 true (.cons 37 true (.cons 38 true (.nil))))))))) (.last))))))) (.last))))))))))))))))))))) (.last))))))))))))) (by kernel_rfl) fQP_panic (by kernel_rfl) (sw_run 200 _ _ _ ?_)
    simp only [fQP, xRetP, rRs, rOs, rC, rCs, eRs, eOs, eC, eCs, xRes, rD, eq_self, xRun, vE, vP, vSub, vLoad, vFld, vBin, vBinT, isAg, isBo, vLen, isCutO, isB, bv, gT, gW, gN, gV, isU, isPick, pkC, pkA, pkB, isCall, AS.pt, AS.kn, AS.ev, look, cav, td0, td1, td2, td3, td4, td5, td6, Option.bind, Option.getD, Option.isSome, List.map, List.getElem?_cons_zero, List.getElem?_cons_succ, List.not_mem_nil, List.nodup_cons, List.nodup_nil, List.append_nil, ↓reduceIte, Nat.reduceLT, Nat.reduceEqDiff, Nat.zero_add, Nat.add_zero, ne_eq, not_false_eq_true, or_false, Bool.not_false, Bool.false_eq_true, Bool.true_eq_false, reduceCtorEq, decide_true, and_self, Nat.succ_ne_zero, bs_size, h1, eq_true h2, hin, one1, Try.results167]
theorem con_must (c : UInt8) (s : List UInt8) (i : Nat) (hl : s.length ≤ 1000000000000) (hi : i ≤ s.length) : ConP Try.prog 169 [.p (rdr s i false), .b (.one (.str ⟨#[c]⟩))] [rdr s (if tk s c i = true then i + 1 else i) (!tk s c i)] [] := by
  have hc := con_take c s i hl hi
  generalize (if tk s c i = true then i + 1 else i) = j at *
  generalize tk s c i = b at *
  refine con_runP Try.func169 rfl rfl (by simp [Try.ntmps169]) rfl ?_
  simp only [s0P, mkPs, mkPA, mkC, argA, numT, eq_self, xRun, vE, vP, vSub, vLoad, vFld, isCutO, isB, bv, gT, gW, gN, gV, isU, isPick, isCall, AS.pt, AS.kn, AS.ev, AS.box, look, avB, td0, td1, td2, td3, td4, td5, td6, Option.bind, Option.getD, Option.isSome, List.getElem?_cons_zero, List.getElem?_cons_succ, List.nil_append, ↓reduceIte, Nat.reduceLT, Nat.reduceEqDiff, Nat.zero_add, ne_eq, not_false_eq_true, true_and, Bool.false_eq_true, reduceCtorEq, and_self, Nat.succ_ne_zero, rdr, Try.ntmps169]
  refine sw_callP (hc) rfl rfl rfl rfl ?_ ?_ ?_ (sw_run 200 _ _ _ ?_)
  · simp only [rC, rCs, eC, eCs, AS.kb, rmBs, rmB, mPs, mP, ePs, eP, bPs, bP, aA, aD, AS.kl, rD, eq_self, AS.ev, kill, look, td0, td1, td2, td3, td4, td5, td6, Option.getD, List.map, List.foldr, List.append_nil, ↓reduceIte, Nat.reduceEqDiff, and_self, rdr]
  · simp only [eC, eCs, ePs, eP, eq_self, AS.ev, look, td0, td1, td2, td3, td4, td5, td6, Option.getD, List.map, List.nodup_nil, List.append_nil, ↓reduceIte, Nat.reduceEqDiff, rdr]
  · simp only [bPs, bP, eq_self, AS.ev, look, td0, td1, td2, td3, td4, td5, td6, Option.getD, List.map, List.not_mem_nil, List.nodup_cons, List.nodup_nil, List.append_nil, ↓reduceIte, Nat.reduceEqDiff, not_false_eq_true, and_self, rdr]
  simp only [mkC, fQP, xRetP, rRs, rOs, rC, rCs, eRs, eOs, eC, eCs, aftS, aftV, AS.kb, rmBs, rmB, mkO, packRA, flatR, ePs, eP, bPs, bP, AS.kl, retA, List.headD_cons, rD, eq_self, xRun, vE, vP, vFld, vNot, vStore, isCutO, isB, bv, gT, gW, gN, gV, isU, isPick, pkC, pkB, isCall, AS.pt, AS.kn, AS.ev, AS.setb, kill, look, setRowG, AV.cells, AV.whole, AV.one, td0, td1, td2, td3, td4, td5, td6, Option.bind, Option.getD, Option.isSome, List.map, List.length, List.getElem?_cons_zero, List.getElem?_cons_succ, List.set, List.foldr, List.not_mem_nil, List.nodup_cons, List.nodup_nil, List.append_nil, ↓reduceIte, Nat.reduceLT, Nat.reduceAdd, Nat.reduceEqDiff, Nat.zero_add, ne_eq, not_false_eq_true, or_true, Bool.false_eq_true, reduceCtorEq, and_self, Nat.succ_ne_zero, Nat.le_refl, rdr, Try.results169]
theorem con_mustB (c : UInt8) (s : List UInt8) (i : Nat) : ConP Try.prog 169 [.p (rdr s i true), .b (.one (.str ⟨#[c]⟩))] [rdr s i true] [] := by
  refine con_runP Try.func169 rfl rfl (by simp [Try.ntmps169]) rfl ?_
  simp only [s0P, mkPs, mkPA, mkC, fQP, xRetP, rRs, rOs, rC, rCs, eRs, eOs, eC, eCs, argA, numT, rD, eq_self, xRun, vE, vP, vSub, vLoad, vFld, vStore, isCutO, isB, bv, gT, gW, gN, gV, isU, isPick, pkC, pkA, isCall, AS.pt, AS.kn, AS.ev, AS.box, AS.setb, look, cav, avB, setRowG, AV.cells, AV.whole, AV.one, td0, td1, td2, td3, td4, td5, td6, Option.bind, Option.getD, Option.isSome, List.map, List.length, List.getElem?_cons_zero, List.getElem?_cons_succ, List.set, List.not_mem_nil, List.nodup_cons, List.nodup_nil, List.nil_append, List.append_nil, ↓reduceIte, Nat.reduceLT, Nat.reduceAdd, Nat.reduceEqDiff, Nat.zero_add, ne_eq, not_false_eq_true, or_true, Bool.not_false, Bool.false_eq_true, Bool.true_eq_false, reduceCtorEq, and_self, Nat.succ_ne_zero, Nat.le_refl, rdr, Try.ntmps169, Try.results169]
theorem rdS_I {s : List UInt8} {d i : Nat} (h : tk s 73 i = true) : rdS s (d + 1) i = ⟨tyI, i + 1, false⟩ := by rw [rdS, if_pos h]
theorem rdS_B {s : List UInt8} {d i : Nat} (h1 : tk s 73 i = false) (h : tk s 66 i = true) : rdS s (d + 1) i = ⟨tyB, i + 1, false⟩ := by rw [rdS, if_neg (by rw [h1]; simp), if_pos h]
theorem rdS_G {s : List UInt8} {d i : Nat} (h1 : tk s 73 i = false) (h2 : tk s 66 i = false) (h : tk s 60 i = true) : rdS s (d + 1) i = (let a := rdS s d (i + 1)
      if a.bad = true then ⟨tyG a.t, a.at_, true⟩
      else if tk s 62 a.at_ = true then ⟨tyG a.t, a.at_ + 1, false⟩ else ⟨tyG a.t, a.at_, true⟩) := by rw [rdS, if_neg (by rw [h1]; simp), if_neg (by rw [h2]; simp), if_pos h]
theorem rdS_F {s : List UInt8} {d i : Nat} (h1 : tk s 73 i = false) (h2 : tk s 66 i = false) (h3 : tk s 60 i = false) (h : tk s 40 i = true) : rdS s (d + 1) i = (let a := rdS s d (i + 1)
      if a.bad = true then ⟨ty0, a.at_, true⟩
      else if tk s 62 a.at_ = true then
        let b := rdS s d (a.at_ + 1)
        if b.bad = true then ⟨tyF a.t b.t, b.at_, true⟩
        else if tk s 41 b.at_ = true then ⟨tyF a.t b.t, b.at_ + 1, false⟩ else ⟨tyF a.t b.t, b.at_, true⟩
      else ⟨ty0, a.at_, true⟩) := by rw [rdS, if_neg (by rw [h1]; simp), if_neg (by rw [h2]; simp), if_neg (by rw [h3]; simp), if_pos h]
theorem rdS_N {s : List UInt8} {d i : Nat} (h1 : tk s 73 i = false) (h2 : tk s 66 i = false) (h3 : tk s 60 i = false) (h : tk s 40 i = false) : rdS s (d + 1) i = ⟨ty0, i, true⟩ := by rw [rdS, if_neg (by rw [h1]; simp), if_neg (by rw [h2]; simp), if_neg (by rw [h3]; simp), if_neg (by rw [h]; simp)]
theorem l4_I (s : List UInt8) (hl : s.length ≤ 1000000000000) (d i : Nat) (hd : d + 1 ≤ 8) (hi : i ≤ s.length) (h1 : tk s 73 i = true) : ConP Try.prog 97 [.p (rdr s i false), .b (.one (.int (9 - ((d + 1 : Nat) : Int))))] [rdr s (rdS s (d + 1) i).at_ (rdS s (d + 1) i).bad] [tyR (rdS s (d + 1) i).t] := by
  have hn : ¬ (8 : Int) < 9 - ((d + 1 : Nat) : Int) := by omega
  have hs : 9 - ((d + 1 : Nat) : Int) + 1 = 9 - (d : Int) := by omega
  have hin : inI (9 - (d : Int)) := by unfold inI; omega
  have c1 := con_take 73 s i hl hi
  rw [h1, if_pos rfl] at c1
  rw [rdS_I h1]
  refine con_runP Try.func97 rfl rfl (by simp [Try.ntmps97]) rfl ?_
  simp only [s0P, mkPs, mkPA, mkC, argA, numT, eq_self, xRun, vE, vP, vSub, vLoad, vFld, vBin, vBinT, isAg, isBo, vStore, isCutO, isB, bv, gT, gW, gN, gV, isU, isPick, pkC, pkB, isCall, AS.pt, AS.kn, AS.ev, AS.box, AS.setb, look, cav, avB, setRowG, AV.cells, AV.whole, AV.one, td0, td1, td2, td3, td4, td5, td6, Option.bind, Option.getD, Option.isSome, List.length, List.getElem?_cons_zero, List.getElem?_cons_succ, List.set, List.nil_append, ↓reduceIte, Nat.reduceLT, Nat.reduceAdd, Nat.reduceEqDiff, Nat.zero_add, ne_eq, not_false_eq_true, true_and, Bool.false_eq_true, reduceCtorEq, decide_false, and_self, Nat.succ_ne_zero, Nat.le_refl, rdr, tyR, hn, Try.ntmps97]
  refine sw_callP (c1) rfl rfl rfl rfl ?_ ?_ ?_ (sw_run 200 _ _ _ ?_)
  · simp only [rC, rCs, eC, eCs, AS.kb, rmBs, rmB, mPs, mP, ePs, eP, bPs, bP, aA, aD, AS.kl, rD, eq_self, AS.ev, kill, look, cav, td0, td1, td2, td3, td4, td5, td6, Option.getD, List.map, List.foldr, List.append_nil, ↓reduceIte, and_self, Nat.succ_ne_zero, rdr]
  · simp only [eC, eCs, ePs, eP, eq_self, AS.ev, look, cav, td0, td1, td2, td3, td4, td5, td6, Option.getD, List.map, List.nodup_nil, List.append_nil, ↓reduceIte, rdr]
  · simp only [bPs, bP, eq_self, AS.ev, look, cav, td0, td1, td2, td3, td4, td5, td6, Option.getD, List.map, List.not_mem_nil, List.nodup_cons, List.nodup_nil, List.append_nil, ↓reduceIte, not_false_eq_true, and_self, rdr]
  simp only [mkC, eC, eCs, aftS, aftV, AS.kb, rmBs, rmB, mkO, packRA, flatR, ePs, eP, bPs, bP, AS.kl, retA, List.headD_cons, eq_self, xRun, vE, vP, isCutO, isB, bv, gN, isPick, isCall, AS.pt, AS.ev, kill, look, cav, td0, td1, td2, td3, td4, td5, td6, Option.getD, List.map, List.foldr, List.append_nil, ↓reduceIte, Nat.reduceLT, true_and, Bool.false_eq_true, Nat.succ_ne_zero, rdr]
  refine sw_call (con_l3Int) rfl (aAs_ok ?_) ?_ (sw_run 200 _ _ _ ?_)
  · simp only [aAs, List.map, List.append_nil]
  · simp only [okR]
  simp only [fQP, xRetP, rRs, rOs, rC, rCs, eRs, eOs, eC, eCs, mkR, flatD, packA, retA, xRes, rD, eq_self, xRun, vE, vStore, isCutO, gN, isPick, isCall, AS.pt, AS.ev, AS.setb, AS.mk', AS.owf, kill, look, setRowG, AV.cells, AV.whole, AV.one, td0, td1, td2, td3, td4, td5, td6, Option.bind, Option.getD, List.map, List.take, List.length, List.set, List.foldr, List.all, List.not_mem_nil, List.nodup_cons, List.nodup_nil, List.nil_append, List.append_nil, ↓reduceIte, Nat.reduceLT, Nat.reduceAdd, Nat.reduceEqDiff, Nat.zero_add, not_false_eq_true, or_false, Bool.and_true, Bool.false_eq_true, id_eq, reduceCtorEq, and_self, Nat.succ_ne_zero, Nat.le_refl, tyI, tyC, tyk, tya, tysC, List.length_nil, Try.results97]
theorem l4_B (s : List UInt8) (hl : s.length ≤ 1000000000000) (d i : Nat) (hd : d + 1 ≤ 8) (hi : i ≤ s.length) (h1 : tk s 73 i = false) (h2 : tk s 66 i = true) : ConP Try.prog 97 [.p (rdr s i false), .b (.one (.int (9 - ((d + 1 : Nat) : Int))))] [rdr s (rdS s (d + 1) i).at_ (rdS s (d + 1) i).bad] [tyR (rdS s (d + 1) i).t] := by
  have hn : ¬ (8 : Int) < 9 - ((d + 1 : Nat) : Int) := by omega
  have hs : 9 - ((d + 1 : Nat) : Int) + 1 = 9 - (d : Int) := by omega
  have hin : inI (9 - (d : Int)) := by unfold inI; omega
  have c1 := con_take 73 s i hl hi
  rw [h1, if_neg (by simp)] at c1
  have c2 := con_take 66 s i hl hi
  rw [h2, if_pos rfl] at c2
  rw [rdS_B h1 h2]
  refine con_runP Try.func97 rfl rfl (by simp [Try.ntmps97]) rfl ?_
  simp only [s0P, mkPs, mkPA, mkC, argA, numT, eq_self, xRun, vE, vP, vSub, vLoad, vFld, vBin, vBinT, isAg, isBo, vStore, isCutO, isB, bv, gT, gW, gN, gV, isU, isPick, pkC, pkB, isCall, AS.pt, AS.kn, AS.ev, AS.box, AS.setb, look, cav, avB, setRowG, AV.cells, AV.whole, AV.one, td0, td1, td2, td3, td4, td5, td6, Option.bind, Option.getD, Option.isSome, List.length, List.getElem?_cons_zero, List.getElem?_cons_succ, List.set, List.nil_append, ↓reduceIte, Nat.reduceLT, Nat.reduceAdd, Nat.reduceEqDiff, Nat.zero_add, ne_eq, not_false_eq_true, true_and, Bool.false_eq_true, reduceCtorEq, decide_false, and_self, Nat.succ_ne_zero, Nat.le_refl, rdr, tyR, hn, Try.ntmps97]
  refine sw_callP (c1) rfl rfl rfl rfl ?_ ?_ ?_ (sw_run 200 _ _ _ ?_)
  · simp only [rC, rCs, eC, eCs, AS.kb, rmBs, rmB, mPs, mP, ePs, eP, bPs, bP, aA, aD, AS.kl, rD, eq_self, AS.ev, kill, look, cav, td0, td1, td2, td3, td4, td5, td6, Option.getD, List.map, List.foldr, List.append_nil, ↓reduceIte, and_self, Nat.succ_ne_zero, rdr]
  · simp only [eC, eCs, ePs, eP, eq_self, AS.ev, look, cav, td0, td1, td2, td3, td4, td5, td6, Option.getD, List.map, List.nodup_nil, List.append_nil, ↓reduceIte, rdr]
  · simp only [bPs, bP, eq_self, AS.ev, look, cav, td0, td1, td2, td3, td4, td5, td6, Option.getD, List.map, List.not_mem_nil, List.nodup_cons, List.nodup_nil, List.append_nil, ↓reduceIte, not_false_eq_true, and_self, rdr]
  simp only [mkC, eC, eCs, aftS, aftV, AS.kb, rmBs, rmB, mkO, packRA, flatR, ePs, eP, bPs, bP, AS.kl, retA, List.headD_cons, eq_self, xRun, vE, vP, isCutO, isB, bv, gN, isPick, isCall, AS.pt, AS.ev, kill, look, cav, td0, td1, td2, td3, td4, td5, td6, Option.getD, List.map, List.foldr, List.append_nil, ↓reduceIte, Nat.reduceLT, true_and, Bool.false_eq_true, reduceCtorEq, Nat.succ_ne_zero, rdr]
  refine sw_callP (c2) rfl rfl rfl rfl ?_ ?_ ?_ (sw_run 200 _ _ _ ?_)
  · simp only [rC, rCs, eC, eCs, AS.kb, rmBs, rmB, mPs, mP, ePs, eP, bPs, bP, aA, aD, AS.kl, rD, eq_self, AS.ev, kill, look, cav, td0, td1, td2, td3, td4, td5, td6, Option.getD, List.map, List.foldr, List.append_nil, ↓reduceIte, and_self, Nat.succ_ne_zero, rdr]
  · simp only [eC, eCs, ePs, eP, eq_self, AS.ev, look, cav, td0, td1, td2, td3, td4, td5, td6, Option.getD, List.map, List.nodup_nil, List.append_nil, ↓reduceIte, rdr]
  · simp only [bPs, bP, eq_self, AS.ev, look, cav, td0, td1, td2, td3, td4, td5, td6, Option.getD, List.map, List.not_mem_nil, List.nodup_cons, List.nodup_nil, List.append_nil, ↓reduceIte, not_false_eq_true, and_self, rdr]
  simp only [mkC, eC, eCs, aftS, aftV, AS.kb, rmBs, rmB, mkO, packRA, flatR, ePs, eP, bPs, bP, AS.kl, retA, List.headD_cons, eq_self, xRun, vE, vP, isCutO, isB, bv, gN, isPick, isCall, AS.pt, AS.ev, kill, look, cav, td0, td1, td2, td3, td4, td5, td6, Option.getD, List.map, List.foldr, List.append_nil, ↓reduceIte, Nat.reduceLT, true_and, Bool.false_eq_true, Nat.succ_ne_zero, rdr]
  refine sw_call (con_l3Bool) rfl (aAs_ok ?_) ?_ (sw_run 200 _ _ _ ?_)
  · simp only [aAs, List.map, List.append_nil]
  · simp only [okR]
  simp only [fQP, xRetP, rRs, rOs, rC, rCs, eRs, eOs, eC, eCs, mkR, flatD, packA, retA, xRes, rD, eq_self, xRun, vE, vStore, isCutO, gN, isPick, isCall, AS.pt, AS.ev, AS.setb, AS.mk', AS.owf, kill, look, setRowG, AV.cells, AV.whole, AV.one, td0, td1, td2, td3, td4, td5, td6, Option.bind, Option.getD, List.map, List.take, List.length, List.set, List.foldr, List.all, List.not_mem_nil, List.nodup_cons, List.nodup_nil, List.nil_append, List.append_nil, ↓reduceIte, Nat.reduceLT, Nat.reduceAdd, Nat.reduceEqDiff, Nat.zero_add, not_false_eq_true, or_false, Bool.and_true, Bool.false_eq_true, id_eq, reduceCtorEq, and_self, Nat.succ_ne_zero, Nat.le_refl, tyB, tyC, tyk, tya, tysC, List.length_nil, Try.results97]
theorem l4_N (s : List UInt8) (hl : s.length ≤ 1000000000000) (d i : Nat) (hd : d + 1 ≤ 8) (hi : i ≤ s.length) (h1 : tk s 73 i = false) (h2 : tk s 66 i = false) (h3 : tk s 60 i = false) (h4 : tk s 40 i = false) : ConP Try.prog 97 [.p (rdr s i false), .b (.one (.int (9 - ((d + 1 : Nat) : Int))))] [rdr s (rdS s (d + 1) i).at_ (rdS s (d + 1) i).bad] [tyR (rdS s (d + 1) i).t] := by
  have hn : ¬ (8 : Int) < 9 - ((d + 1 : Nat) : Int) := by omega
  have hs : 9 - ((d + 1 : Nat) : Int) + 1 = 9 - (d : Int) := by omega
  have hin : inI (9 - (d : Int)) := by unfold inI; omega
  have c1 := con_take 73 s i hl hi
  rw [h1, if_neg (by simp)] at c1
  have c2 := con_take 66 s i hl hi
  rw [h2, if_neg (by simp)] at c2
  have c3 := con_take 60 s i hl hi
  rw [h3, if_neg (by simp)] at c3
  have c4 := con_must 40 s i hl hi
  rw [h4, if_neg (by simp)] at c4
  rw [rdS_N h1 h2 h3 h4]
  refine con_runP Try.func97 rfl rfl (by simp [Try.ntmps97]) rfl ?_
  simp only [s0P, mkPs, mkPA, mkC, argA, numT, eq_self, xRun, vE, vP, vSub, vLoad, vFld, vBin, vBinT, isAg, isBo, vStore, isCutO, isB, bv, gT, gW, gN, gV, isU, isPick, pkC, pkB, isCall, AS.pt, AS.kn, AS.ev, AS.box, AS.setb, look, cav, avB, setRowG, AV.cells, AV.whole, AV.one, td0, td1, td2, td3, td4, td5, td6, Option.bind, Option.getD, Option.isSome, List.length, List.getElem?_cons_zero, List.getElem?_cons_succ, List.set, List.nil_append, ↓reduceIte, Nat.reduceLT, Nat.reduceAdd, Nat.reduceEqDiff, Nat.zero_add, ne_eq, not_false_eq_true, true_and, Bool.false_eq_true, reduceCtorEq, decide_false, and_self, Nat.succ_ne_zero, Nat.le_refl, rdr, tyR, hn, Try.ntmps97]
  refine sw_callP (c1) rfl rfl rfl rfl ?_ ?_ ?_ (sw_run 200 _ _ _ ?_)
  · simp only [rC, rCs, eC, eCs, AS.kb, rmBs, rmB, mPs, mP, ePs, eP, bPs, bP, aA, aD, AS.kl, rD, eq_self, AS.ev, kill, look, cav, td0, td1, td2, td3, td4, td5, td6, Option.getD, List.map, List.foldr, List.append_nil, ↓reduceIte, and_self, Nat.succ_ne_zero, rdr]
  · simp only [eC, eCs, ePs, eP, eq_self, AS.ev, look, cav, td0, td1, td2, td3, td4, td5, td6, Option.getD, List.map, List.nodup_nil, List.append_nil, ↓reduceIte, rdr]
  · simp only [bPs, bP, eq_self, AS.ev, look, cav, td0, td1, td2, td3, td4, td5, td6, Option.getD, List.map, List.not_mem_nil, List.nodup_cons, List.nodup_nil, List.append_nil, ↓reduceIte, not_false_eq_true, and_self, rdr]
  simp only [mkC, eC, eCs, aftS, aftV, AS.kb, rmBs, rmB, mkO, packRA, flatR, ePs, eP, bPs, bP, AS.kl, retA, List.headD_cons, eq_self, xRun, vE, vP, isCutO, isB, bv, gN, isPick, isCall, AS.pt, AS.ev, kill, look, cav, td0, td1, td2, td3, td4, td5, td6, Option.getD, List.map, List.foldr, List.append_nil, ↓reduceIte, Nat.reduceLT, true_and, Bool.false_eq_true, reduceCtorEq, Nat.succ_ne_zero, rdr]
  refine sw_callP (c2) rfl rfl rfl rfl ?_ ?_ ?_ (sw_run 200 _ _ _ ?_)
  · simp only [rC, rCs, eC, eCs, AS.kb, rmBs, rmB, mPs, mP, ePs, eP, bPs, bP, aA, aD, AS.kl, rD, eq_self, AS.ev, kill, look, cav, td0, td1, td2, td3, td4, td5, td6, Option.getD, List.map, List.foldr, List.append_nil, ↓reduceIte, and_self, Nat.succ_ne_zero, rdr]
  · simp only [eC, eCs, ePs, eP, eq_self, AS.ev, look, cav, td0, td1, td2, td3, td4, td5, td6, Option.getD, List.map, List.nodup_nil, List.append_nil, ↓reduceIte, rdr]
  · simp only [bPs, bP, eq_self, AS.ev, look, cav, td0, td1, td2, td3, td4, td5, td6, Option.getD, List.map, List.not_mem_nil, List.nodup_cons, List.nodup_nil, List.append_nil, ↓reduceIte, not_false_eq_true, and_self, rdr]
  simp only [mkC, eC, eCs, aftS, aftV, AS.kb, rmBs, rmB, mkO, packRA, flatR, ePs, eP, bPs, bP, AS.kl, retA, List.headD_cons, eq_self, xRun, vE, vP, isCutO, isB, bv, gN, isPick, isCall, AS.pt, AS.ev, kill, look, cav, td0, td1, td2, td3, td4, td5, td6, Option.getD, List.map, List.foldr, List.append_nil, ↓reduceIte, Nat.reduceLT, true_and, Bool.false_eq_true, reduceCtorEq, Nat.succ_ne_zero, rdr]
  refine sw_callP (c3) rfl rfl rfl rfl ?_ ?_ ?_ (sw_run 200 _ _ _ ?_)
  · simp only [rC, rCs, eC, eCs, AS.kb, rmBs, rmB, mPs, mP, ePs, eP, bPs, bP, aA, aD, AS.kl, rD, eq_self, AS.ev, kill, look, cav, td0, td1, td2, td3, td4, td5, td6, Option.getD, List.map, List.foldr, List.append_nil, ↓reduceIte, and_self, Nat.succ_ne_zero, rdr]
  · simp only [eC, eCs, ePs, eP, eq_self, AS.ev, look, cav, td0, td1, td2, td3, td4, td5, td6, Option.getD, List.map, List.nodup_nil, List.append_nil, ↓reduceIte, rdr]
  · simp only [bPs, bP, eq_self, AS.ev, look, cav, td0, td1, td2, td3, td4, td5, td6, Option.getD, List.map, List.not_mem_nil, List.nodup_cons, List.nodup_nil, List.append_nil, ↓reduceIte, not_false_eq_true, and_self, rdr]
  simp only [mkC, eC, eCs, aftS, aftV, AS.kb, rmBs, rmB, mkO, packRA, flatR, ePs, eP, bPs, bP, AS.kl, retA, List.headD_cons, eq_self, xRun, vE, vP, isCutO, isB, bv, gN, isPick, isCall, AS.pt, AS.ev, kill, look, cav, td0, td1, td2, td3, td4, td5, td6, Option.getD, List.map, List.foldr, List.append_nil, ↓reduceIte, Nat.reduceLT, true_and, Bool.false_eq_true, reduceCtorEq, Nat.succ_ne_zero, rdr]
  refine sw_callP (c4) rfl rfl rfl rfl ?_ ?_ ?_ (sw_run 200 _ _ _ ?_)
  · simp only [rC, rCs, eC, eCs, AS.kb, rmBs, rmB, mPs, mP, ePs, eP, bPs, bP, aA, aD, AS.kl, rD, eq_self, AS.ev, kill, look, cav, td0, td1, td2, td3, td4, td5, td6, Option.getD, List.map, List.foldr, List.append_nil, ↓reduceIte, and_self, Nat.succ_ne_zero, rdr]
  · simp only [eC, eCs, ePs, eP, eq_self, AS.ev, look, cav, td0, td1, td2, td3, td4, td5, td6, Option.getD, List.map, List.nodup_nil, List.append_nil, ↓reduceIte, rdr]
  · simp only [bPs, bP, eq_self, AS.ev, look, cav, td0, td1, td2, td3, td4, td5, td6, Option.getD, List.map, List.not_mem_nil, List.nodup_cons, List.nodup_nil, List.append_nil, ↓reduceIte, not_false_eq_true, and_self, rdr]
  simp only [mkC, fQP, xRetP, rRs, rOs, rC, rCs, eRs, eOs, eC, eCs, aftS, aftV, AS.kb, rmBs, rmB, mkO, packRA, flatR, ePs, eP, bPs, bP, AS.kl, retA, xRes, rD, eq_self, xRun, vE, vP, vSub, vLoad, vFld, vBuild, vStore, isCutO, xFill, isB, bv, gN, isPick, isCall, AS.pt, AS.ev, AS.setb, kill, look, cav, setRowG, AV.cells, AV.whole, AV.one, td0, td1, td2, td3, td4, td5, td6, Option.getD, Option.isSome, List.map, List.length, List.getElem?_cons_zero, List.getElem?_cons_succ, List.set, List.foldr, List.all, List.not_mem_nil, List.nodup_cons, List.nodup_nil, List.append_nil, ↓reduceIte, Nat.reduceLT, Nat.reduceAdd, Nat.reduceEqDiff, Nat.zero_add, ne_eq, not_false_eq_true, or_false, Bool.and_true, Bool.not_false, Bool.false_eq_true, reduceCtorEq, and_self, Nat.succ_ne_zero, Nat.le_refl, rdr, ty0, tyk, tya, tysC, List.length_nil, Try.results97]
theorem l4_G (s : List UInt8) (hl : s.length ≤ 1000000000000) (d i : Nat) (hd : d + 1 ≤ 8) (hi : i ≤ s.length) (ih : ∀ i, i ≤ s.length → ConP Try.prog 97 [.p (rdr s i false), .b (.one (.int (9 - (d : Int))))] [rdr s (rdS s d i).at_ (rdS s d i).bad] [tyR (rdS s d i).t]) (h1 : tk s 73 i = false) (h2 : tk s 66 i = false) (h3 : tk s 60 i = true) : ConP Try.prog 97 [.p (rdr s i false), .b (.one (.int (9 - ((d + 1 : Nat) : Int))))] [rdr s (rdS s (d + 1) i).at_ (rdS s (d + 1) i).bad] [tyR (rdS s (d + 1) i).t] := by
  have hn : ¬ (8 : Int) < 9 - ((d + 1 : Nat) : Int) := by omega
  have hs : 9 - ((d + 1 : Nat) : Int) + 1 = 9 - (d : Int) := by omega
  have hin : inI (9 - (d : Int)) := by unfold inI; omega
  have c1 := con_take 73 s i hl hi
  rw [h1, if_neg (by simp)] at c1
  have c2 := con_take 66 s i hl hi
  rw [h2, if_neg (by simp)] at c2
  have c3 := con_take 60 s i hl hi
  rw [h3, if_pos rfl] at c3
  rw [rdS_G h1 h2 h3]
  have hi1 := (tk_lt h3).1
  have ra := ih (i + 1) hi1
  have la := (rd_same s d (i + 1) hi1).1
  generalize rdS s d (i + 1) = A at *
  obtain ⟨At, Aa, Ab⟩ := A
  simp only at ra la ⊢
  cases Ab
  case true =>
    have c5 := con_mustB 62 s Aa
    rw [if_pos rfl]
    refine con_runP Try.func97 rfl rfl (by simp [Try.ntmps97]) rfl ?_
    simp only [s0P, mkPs, mkPA, mkC, argA, numT, eq_self, xRun, vE, vP, vSub, vLoad, vFld, vBin, vBinT, isAg, isBo, vStore, isCutO, isB, bv, gT, gW, gN, gV, isU, isPick, pkC, pkB, isCall, AS.pt, AS.kn, AS.ev, AS.box, AS.setb, look, cav, avB, setRowG, AV.cells, AV.whole, AV.one, td0, td1, td2, td3, td4, td5, td6, Option.bind, Option.getD, Option.isSome, List.length, List.getElem?_cons_zero, List.getElem?_cons_succ, List.set, List.nil_append, ↓reduceIte, Nat.reduceLT, Nat.reduceAdd, Nat.reduceEqDiff, Nat.zero_add, ne_eq, not_false_eq_true, true_and, Bool.false_eq_true, reduceCtorEq, decide_false, and_self, Nat.succ_ne_zero, Nat.le_refl, rdr, tyR, hn, Try.ntmps97]
    refine sw_callP (c1) rfl rfl rfl rfl ?_ ?_ ?_ (sw_run 200 _ _ _ ?_)
    · simp only [rC, rCs, eC, eCs, AS.kb, rmBs, rmB, mPs, mP, ePs, eP, bPs, bP, aA, aD, AS.kl, rD, eq_self, AS.ev, kill, look, cav, td0, td1, td2, td3, td4, td5, td6, Option.getD, List.map, List.foldr, List.append_nil, ↓reduceIte, and_self, Nat.succ_ne_zero, rdr]
    · simp only [eC, eCs, ePs, eP, eq_self, AS.ev, look, cav, td0, td1, td2, td3, td4, td5, td6, Option.getD, List.map, List.nodup_nil, List.append_nil, ↓reduceIte, rdr]
    · simp only [bPs, bP, eq_self, AS.ev, look, cav, td0, td1, td2, td3, td4, td5, td6, Option.getD, List.map, List.not_mem_nil, List.nodup_cons, List.nodup_nil, List.append_nil, ↓reduceIte, not_false_eq_true, and_self, rdr]
    simp only [mkC, eC, eCs, aftS, aftV, AS.kb, rmBs, rmB, mkO, packRA, flatR, ePs, eP, bPs, bP, AS.kl, retA, List.headD_cons, eq_self, xRun, vE, vP, isCutO, isB, bv, gN, isPick, isCall, AS.pt, AS.ev, kill, look, cav, td0, td1, td2, td3, td4, td5, td6, Option.getD, List.map, List.foldr, List.append_nil, ↓reduceIte, Nat.reduceLT, true_and, Bool.false_eq_true, reduceCtorEq, Nat.succ_ne_zero, rdr]
    refine sw_callP (c2) rfl rfl rfl rfl ?_ ?_ ?_ (sw_run 200 _ _ _ ?_)
    · simp only [rC, rCs, eC, eCs, AS.kb, rmBs, rmB, mPs, mP, ePs, eP, bPs, bP, aA, aD, AS.kl, rD, eq_self, AS.ev, kill, look, cav, td0, td1, td2, td3, td4, td5, td6, Option.getD, List.map, List.foldr, List.append_nil, ↓reduceIte, and_self, Nat.succ_ne_zero, rdr]
    · simp only [eC, eCs, ePs, eP, eq_self, AS.ev, look, cav, td0, td1, td2, td3, td4, td5, td6, Option.getD, List.map, List.nodup_nil, List.append_nil, ↓reduceIte, rdr]
    · simp only [bPs, bP, eq_self, AS.ev, look, cav, td0, td1, td2, td3, td4, td5, td6, Option.getD, List.map, List.not_mem_nil, List.nodup_cons, List.nodup_nil, List.append_nil, ↓reduceIte, not_false_eq_true, and_self, rdr]
    simp only [mkC, eC, eCs, aftS, aftV, AS.kb, rmBs, rmB, mkO, packRA, flatR, ePs, eP, bPs, bP, AS.kl, retA, List.headD_cons, eq_self, xRun, vE, vP, isCutO, isB, bv, gN, isPick, isCall, AS.pt, AS.ev, kill, look, cav, td0, td1, td2, td3, td4, td5, td6, Option.getD, List.map, List.foldr, List.append_nil, ↓reduceIte, Nat.reduceLT, true_and, Bool.false_eq_true, reduceCtorEq, Nat.succ_ne_zero, rdr]
    refine sw_callP (c3) rfl rfl rfl rfl ?_ ?_ ?_ (sw_run 200 _ _ _ ?_)
    · simp only [rC, rCs, eC, eCs, AS.kb, rmBs, rmB, mPs, mP, ePs, eP, bPs, bP, aA, aD, AS.kl, rD, eq_self, AS.ev, kill, look, cav, td0, td1, td2, td3, td4, td5, td6, Option.getD, List.map, List.foldr, List.append_nil, ↓reduceIte, and_self, Nat.succ_ne_zero, rdr]
    · simp only [eC, eCs, ePs, eP, eq_self, AS.ev, look, cav, td0, td1, td2, td3, td4, td5, td6, Option.getD, List.map, List.nodup_nil, List.append_nil, ↓reduceIte, rdr]
    · simp only [bPs, bP, eq_self, AS.ev, look, cav, td0, td1, td2, td3, td4, td5, td6, Option.getD, List.map, List.not_mem_nil, List.nodup_cons, List.nodup_nil, List.append_nil, ↓reduceIte, not_false_eq_true, and_self, rdr]
    simp only [mkC, eC, eCs, aftS, aftV, AS.kb, rmBs, rmB, mkO, packRA, flatR, ePs, eP, bPs, bP, AS.kl, retA, List.headD_cons, eq_self, xRun, vE, vP, vBin, vBinT, isAg, isBo, isCutO, isB, bv, gN, isPick, isCall, AS.pt, AS.ev, kill, look, cav, td0, td1, td2, td3, td4, td5, td6, Option.getD, List.map, List.foldr, List.append_nil, ↓reduceIte, Nat.reduceLT, Nat.reduceEqDiff, true_and, Bool.false_eq_true, reduceCtorEq, Nat.succ_ne_zero, rdr, hs, hin]
    refine sw_callP (ra) rfl rfl rfl rfl ?_ ?_ ?_ (sw_run 200 _ _ _ ?_)
    · simp only [rC, rCs, eC, eCs, AS.kb, rmBs, rmB, mPs, mP, ePs, eP, bPs, bP, aA, aD, AS.kl, rD, eq_self, AS.ev, kill, look, td0, td1, td2, td3, td4, td5, td6, Option.getD, List.map, List.foldr, List.append_nil, ↓reduceIte, Nat.reduceEqDiff, and_self, Nat.succ_ne_zero, rdr]
    · simp only [eC, eCs, ePs, eP, eq_self, AS.ev, look, td0, td1, td2, td3, td4, td5, td6, Option.getD, List.map, List.nodup_nil, List.append_nil, ↓reduceIte, Nat.reduceEqDiff, rdr]
    · simp only [bPs, bP, eq_self, AS.ev, look, td0, td1, td2, td3, td4, td5, td6, Option.getD, List.map, List.not_mem_nil, List.nodup_cons, List.nodup_nil, List.append_nil, ↓reduceIte, Nat.reduceEqDiff, not_false_eq_true, and_self, rdr]
    simp only [mkC, eC, eCs, aftS, aftV, AS.kb, rmBs, rmB, mkO, packRA, flatR, ePs, eP, bPs, bP, AS.kl, retA, eq_self, xRun, vE, vP, vBuild, vRow, vStore, isCutO, xFill, gN, isPick, isCall, AS.pt, AS.ev, AS.box, AS.setb, AS.mk', AS.owf, kill, look, cav, setRowG, AV.cells, AV.whole, AV.one, cD, cDs, eatsOf, dpOf, td0, td1, td2, td3, td4, td5, td6, Option.bind, Option.getD, Option.map, Option.isSome, List.map, List.take, List.length, List.getElem?_cons_zero, List.getElem?_cons_succ, List.set, List.foldr, List.all, List.replicate, List.not_mem_nil, List.nodup_cons, List.nodup_nil, List.append_nil, ↓reduceIte, Nat.reduceLT, Nat.reduceAdd, Nat.reduceLeDiff, Nat.reduceEqDiff, Nat.zero_add, Nat.zero_mul, Nat.one_mul, not_false_eq_true, true_and, or_true, Bool.and_true, Bool.false_eq_true, id_eq, reduceCtorEq, and_self, Nat.succ_ne_zero, Nat.le_refl, rdr, tyR]
    refine sw_callP (c5) rfl rfl rfl rfl ?_ ?_ ?_ (sw_run 200 _ _ _ ?_)
    · simp only [rC, rCs, eC, eCs, AS.kb, rmBs, rmB, mPs, mP, ePs, eP, bPs, bP, aA, aD, AS.kl, rD, eq_self, AS.ev, kill, look, cav, td0, td1, td2, td3, td4, td5, td6, Option.getD, List.map, List.foldr, List.append_nil, ↓reduceIte, reduceCtorEq, and_self, Nat.succ_ne_zero, rdr]
    · simp only [eC, eCs, ePs, eP, eq_self, AS.ev, look, cav, td0, td1, td2, td3, td4, td5, td6, Option.getD, List.map, List.nodup_nil, List.append_nil, ↓reduceIte, reduceCtorEq, rdr]
    · simp only [bPs, bP, eq_self, AS.ev, look, cav, td0, td1, td2, td3, td4, td5, td6, Option.getD, List.map, List.not_mem_nil, List.nodup_cons, List.nodup_nil, List.append_nil, ↓reduceIte, not_false_eq_true, and_self, rdr]
    simp only [mkC, fQP, xRetP, rRs, rOs, rC, rCs, eRs, eOs, eC, eCs, aftS, aftV, AS.kb, rmBs, rmB, mkO, packRA, flatR, ePs, eP, bPs, bP, AS.kl, retA, tysD, xRes, rD, eq_self, xRun, vE, vP, vSub, vLoad, vStore, isCutO, gN, isPick, isCall, AS.pt, AS.ev, AS.setb, AS.owf, kill, look, cav, setRowG, AV.cells, AV.whole, AV.one, td0, td1, td2, td3, td4, td5, td6, Option.bind, Option.getD, List.map, List.take, List.drop, List.length, List.set, List.foldr, List.all, List.not_mem_nil, List.nodup_cons, List.nodup_nil, List.nil_append, List.append_nil, ↓reduceIte, Nat.reduceLT, Nat.reduceAdd, Nat.reduceEqDiff, Nat.zero_add, not_false_eq_true, or_false, Bool.and_true, Bool.false_eq_true, id_eq, reduceCtorEq, and_self, Nat.succ_ne_zero, Nat.le_refl, rdr, tyG_k, tyG_a, tysC, tyC_eq, tysD, List.length_cons, Try.results97]
  rw [if_neg (by simp)]
  rcases h5 : tk s 62 Aa with _ | _
  case false =>
    rw [if_neg (by simp)]
    have c5 := con_must 62 s Aa hl la
    rw [h5, if_neg (by simp)] at c5
    refine con_runP Try.func97 rfl rfl (by simp [Try.ntmps97]) rfl ?_
    simp only [s0P, mkPs, mkPA, mkC, argA, numT, eq_self, xRun, vE, vP, vSub, vLoad, vFld, vBin, vBinT, isAg, isBo, vStore, isCutO, isB, bv, gT, gW, gN, gV, isU, isPick, pkC, pkB, isCall, AS.pt, AS.kn, AS.ev, AS.box, AS.setb, look, cav, avB, setRowG, AV.cells, AV.whole, AV.one, td0, td1, td2, td3, td4, td5, td6, Option.bind, Option.getD, Option.isSome, List.length, List.getElem?_cons_zero, List.getElem?_cons_succ, List.set, List.nil_append, ↓reduceIte, Nat.reduceLT, Nat.reduceAdd, Nat.reduceEqDiff, Nat.zero_add, ne_eq, not_false_eq_true, true_and, Bool.false_eq_true, reduceCtorEq, decide_false, and_self, Nat.succ_ne_zero, Nat.le_refl, rdr, tyR, hn, Try.ntmps97]
    refine sw_callP (c1) rfl rfl rfl rfl ?_ ?_ ?_ (sw_run 200 _ _ _ ?_)
    · simp only [rC, rCs, eC, eCs, AS.kb, rmBs, rmB, mPs, mP, ePs, eP, bPs, bP, aA, aD, AS.kl, rD, eq_self, AS.ev, kill, look, cav, td0, td1, td2, td3, td4, td5, td6, Option.getD, List.map, List.foldr, List.append_nil, ↓reduceIte, and_self, Nat.succ_ne_zero, rdr]
    · simp only [eC, eCs, ePs, eP, eq_self, AS.ev, look, cav, td0, td1, td2, td3, td4, td5, td6, Option.getD, List.map, List.nodup_nil, List.append_nil, ↓reduceIte, rdr]
    · simp only [bPs, bP, eq_self, AS.ev, look, cav, td0, td1, td2, td3, td4, td5, td6, Option.getD, List.map, List.not_mem_nil, List.nodup_cons, List.nodup_nil, List.append_nil, ↓reduceIte, not_false_eq_true, and_self, rdr]
    simp only [mkC, eC, eCs, aftS, aftV, AS.kb, rmBs, rmB, mkO, packRA, flatR, ePs, eP, bPs, bP, AS.kl, retA, List.headD_cons, eq_self, xRun, vE, vP, isCutO, isB, bv, gN, isPick, isCall, AS.pt, AS.ev, kill, look, cav, td0, td1, td2, td3, td4, td5, td6, Option.getD, List.map, List.foldr, List.append_nil, ↓reduceIte, Nat.reduceLT, true_and, Bool.false_eq_true, reduceCtorEq, Nat.succ_ne_zero, rdr]
    refine sw_callP (c2) rfl rfl rfl rfl ?_ ?_ ?_ (sw_run 200 _ _ _ ?_)
    · simp only [rC, rCs, eC, eCs, AS.kb, rmBs, rmB, mPs, mP, ePs, eP, bPs, bP, aA, aD, AS.kl, rD, eq_self, AS.ev, kill, look, cav, td0, td1, td2, td3, td4, td5, td6, Option.getD, List.map, List.foldr, List.append_nil, ↓reduceIte, and_self, Nat.succ_ne_zero, rdr]
    · simp only [eC, eCs, ePs, eP, eq_self, AS.ev, look, cav, td0, td1, td2, td3, td4, td5, td6, Option.getD, List.map, List.nodup_nil, List.append_nil, ↓reduceIte, rdr]
    · simp only [bPs, bP, eq_self, AS.ev, look, cav, td0, td1, td2, td3, td4, td5, td6, Option.getD, List.map, List.not_mem_nil, List.nodup_cons, List.nodup_nil, List.append_nil, ↓reduceIte, not_false_eq_true, and_self, rdr]
    simp only [mkC, eC, eCs, aftS, aftV, AS.kb, rmBs, rmB, mkO, packRA, flatR, ePs, eP, bPs, bP, AS.kl, retA, List.headD_cons, eq_self, xRun, vE, vP, isCutO, isB, bv, gN, isPick, isCall, AS.pt, AS.ev, kill, look, cav, td0, td1, td2, td3, td4, td5, td6, Option.getD, List.map, List.foldr, List.append_nil, ↓reduceIte, Nat.reduceLT, true_and, Bool.false_eq_true, reduceCtorEq, Nat.succ_ne_zero, rdr]
    refine sw_callP (c3) rfl rfl rfl rfl ?_ ?_ ?_ (sw_run 200 _ _ _ ?_)
    · simp only [rC, rCs, eC, eCs, AS.kb, rmBs, rmB, mPs, mP, ePs, eP, bPs, bP, aA, aD, AS.kl, rD, eq_self, AS.ev, kill, look, cav, td0, td1, td2, td3, td4, td5, td6, Option.getD, List.map, List.foldr, List.append_nil, ↓reduceIte, and_self, Nat.succ_ne_zero, rdr]
    · simp only [eC, eCs, ePs, eP, eq_self, AS.ev, look, cav, td0, td1, td2, td3, td4, td5, td6, Option.getD, List.map, List.nodup_nil, List.append_nil, ↓reduceIte, rdr]
    · simp only [bPs, bP, eq_self, AS.ev, look, cav, td0, td1, td2, td3, td4, td5, td6, Option.getD, List.map, List.not_mem_nil, List.nodup_cons, List.nodup_nil, List.append_nil, ↓reduceIte, not_false_eq_true, and_self, rdr]
    simp only [mkC, eC, eCs, aftS, aftV, AS.kb, rmBs, rmB, mkO, packRA, flatR, ePs, eP, bPs, bP, AS.kl, retA, List.headD_cons, eq_self, xRun, vE, vP, vBin, vBinT, isAg, isBo, isCutO, isB, bv, gN, isPick, isCall, AS.pt, AS.ev, kill, look, cav, td0, td1, td2, td3, td4, td5, td6, Option.getD, List.map, List.foldr, List.append_nil, ↓reduceIte, Nat.reduceLT, Nat.reduceEqDiff, true_and, Bool.false_eq_true, reduceCtorEq, Nat.succ_ne_zero, rdr, hs, hin]
    refine sw_callP (ra) rfl rfl rfl rfl ?_ ?_ ?_ (sw_run 200 _ _ _ ?_)
    · simp only [rC, rCs, eC, eCs, AS.kb, rmBs, rmB, mPs, mP, ePs, eP, bPs, bP, aA, aD, AS.kl, rD, eq_self, AS.ev, kill, look, td0, td1, td2, td3, td4, td5, td6, Option.getD, List.map, List.foldr, List.append_nil, ↓reduceIte, Nat.reduceEqDiff, and_self, Nat.succ_ne_zero, rdr]
    · simp only [eC, eCs, ePs, eP, eq_self, AS.ev, look, td0, td1, td2, td3, td4, td5, td6, Option.getD, List.map, List.nodup_nil, List.append_nil, ↓reduceIte, Nat.reduceEqDiff, rdr]
    · simp only [bPs, bP, eq_self, AS.ev, look, td0, td1, td2, td3, td4, td5, td6, Option.getD, List.map, List.not_mem_nil, List.nodup_cons, List.nodup_nil, List.append_nil, ↓reduceIte, Nat.reduceEqDiff, not_false_eq_true, and_self, rdr]
    simp only [mkC, eC, eCs, aftS, aftV, AS.kb, rmBs, rmB, mkO, packRA, flatR, ePs, eP, bPs, bP, AS.kl, retA, eq_self, xRun, vE, vP, vBuild, vRow, vStore, isCutO, xFill, gN, isPick, isCall, AS.pt, AS.ev, AS.box, AS.setb, AS.mk', AS.owf, kill, look, cav, setRowG, AV.cells, AV.whole, AV.one, cD, cDs, eatsOf, dpOf, td0, td1, td2, td3, td4, td5, td6, Option.bind, Option.getD, Option.map, Option.isSome, List.map, List.take, List.length, List.getElem?_cons_zero, List.getElem?_cons_succ, List.set, List.foldr, List.all, List.replicate, List.not_mem_nil, List.nodup_cons, List.nodup_nil, List.append_nil, ↓reduceIte, Nat.reduceLT, Nat.reduceAdd, Nat.reduceLeDiff, Nat.reduceEqDiff, Nat.zero_add, Nat.zero_mul, Nat.one_mul, not_false_eq_true, true_and, or_true, Bool.and_true, Bool.false_eq_true, id_eq, reduceCtorEq, and_self, Nat.succ_ne_zero, Nat.le_refl, rdr, tyR]
    refine sw_callP (c5) rfl rfl rfl rfl ?_ ?_ ?_ (sw_run 200 _ _ _ ?_)
    · simp only [rC, rCs, eC, eCs, AS.kb, rmBs, rmB, mPs, mP, ePs, eP, bPs, bP, aA, aD, AS.kl, rD, eq_self, AS.ev, kill, look, cav, td0, td1, td2, td3, td4, td5, td6, Option.getD, List.map, List.foldr, List.append_nil, ↓reduceIte, reduceCtorEq, and_self, Nat.succ_ne_zero, rdr]
    · simp only [eC, eCs, ePs, eP, eq_self, AS.ev, look, cav, td0, td1, td2, td3, td4, td5, td6, Option.getD, List.map, List.nodup_nil, List.append_nil, ↓reduceIte, reduceCtorEq, rdr]
    · simp only [bPs, bP, eq_self, AS.ev, look, cav, td0, td1, td2, td3, td4, td5, td6, Option.getD, List.map, List.not_mem_nil, List.nodup_cons, List.nodup_nil, List.append_nil, ↓reduceIte, not_false_eq_true, and_self, rdr]
    simp only [mkC, fQP, xRetP, rRs, rOs, rC, rCs, eRs, eOs, eC, eCs, aftS, aftV, AS.kb, rmBs, rmB, mkO, packRA, flatR, ePs, eP, bPs, bP, AS.kl, retA, tysD, xRes, rD, eq_self, xRun, vE, vP, vSub, vLoad, vStore, isCutO, gN, isPick, isCall, AS.pt, AS.ev, AS.setb, AS.owf, kill, look, cav, setRowG, AV.cells, AV.whole, AV.one, td0, td1, td2, td3, td4, td5, td6, Option.bind, Option.getD, List.map, List.take, List.drop, List.length, List.set, List.foldr, List.all, List.not_mem_nil, List.nodup_cons, List.nodup_nil, List.nil_append, List.append_nil, ↓reduceIte, Nat.reduceLT, Nat.reduceAdd, Nat.reduceEqDiff, Nat.zero_add, not_false_eq_true, or_false, Bool.and_true, Bool.not_false, Bool.false_eq_true, id_eq, reduceCtorEq, and_self, Nat.succ_ne_zero, Nat.le_refl, rdr, tyG_k, tyG_a, tysC, tyC_eq, tysD, List.length_cons, Try.results97]
  case true =>
    rw [if_pos rfl]
    have c5 := con_must 62 s Aa hl la
    rw [h5, if_pos rfl] at c5
    refine con_runP Try.func97 rfl rfl (by simp [Try.ntmps97]) rfl ?_
    simp only [s0P, mkPs, mkPA, mkC, argA, numT, eq_self, xRun, vE, vP, vSub, vLoad, vFld, vBin, vBinT, isAg, isBo, vStore, isCutO, isB, bv, gT, gW, gN, gV, isU, isPick, pkC, pkB, isCall, AS.pt, AS.kn, AS.ev, AS.box, AS.setb, look, cav, avB, setRowG, AV.cells, AV.whole, AV.one, td0, td1, td2, td3, td4, td5, td6, Option.bind, Option.getD, Option.isSome, List.length, List.getElem?_cons_zero, List.getElem?_cons_succ, List.set, List.nil_append, ↓reduceIte, Nat.reduceLT, Nat.reduceAdd, Nat.reduceEqDiff, Nat.zero_add, ne_eq, not_false_eq_true, true_and, Bool.false_eq_true, reduceCtorEq, decide_false, and_self, Nat.succ_ne_zero, Nat.le_refl, rdr, tyR, hn, Try.ntmps97]
    refine sw_callP (c1) rfl rfl rfl rfl ?_ ?_ ?_ (sw_run 200 _ _ _ ?_)
    · simp only [rC, rCs, eC, eCs, AS.kb, rmBs, rmB, mPs, mP, ePs, eP, bPs, bP, aA, aD, AS.kl, rD, eq_self, AS.ev, kill, look, cav, td0, td1, td2, td3, td4, td5, td6, Option.getD, List.map, List.foldr, List.append_nil, ↓reduceIte, and_self, Nat.succ_ne_zero, rdr]
    · simp only [eC, eCs, ePs, eP, eq_self, AS.ev, look, cav, td0, td1, td2, td3, td4, td5, td6, Option.getD, List.map, List.nodup_nil, List.append_nil, ↓reduceIte, rdr]
    · simp only [bPs, bP, eq_self, AS.ev, look, cav, td0, td1, td2, td3, td4, td5, td6, Option.getD, List.map, List.not_mem_nil, List.nodup_cons, List.nodup_nil, List.append_nil, ↓reduceIte, not_false_eq_true, and_self, rdr]
    simp only [mkC, eC, eCs, aftS, aftV, AS.kb, rmBs, rmB, mkO, packRA, flatR, ePs, eP, bPs, bP, AS.kl, retA, List.headD_cons, eq_self, xRun, vE, vP, isCutO, isB, bv, gN, isPick, isCall, AS.pt, AS.ev, kill, look, cav, td0, td1, td2, td3, td4, td5, td6, Option.getD, List.map, List.foldr, List.append_nil, ↓reduceIte, Nat.reduceLT, true_and, Bool.false_eq_true, reduceCtorEq, Nat.succ_ne_zero, rdr]
    refine sw_callP (c2) rfl rfl rfl rfl ?_ ?_ ?_ (sw_run 200 _ _ _ ?_)
    · simp only [rC, rCs, eC, eCs, AS.kb, rmBs, rmB, mPs, mP, ePs, eP, bPs, bP, aA, aD, AS.kl, rD, eq_self, AS.ev, kill, look, cav, td0, td1, td2, td3, td4, td5, td6, Option.getD, List.map, List.foldr, List.append_nil, ↓reduceIte, and_self, Nat.succ_ne_zero, rdr]
    · simp only [eC, eCs, ePs, eP, eq_self, AS.ev, look, cav, td0, td1, td2, td3, td4, td5, td6, Option.getD, List.map, List.nodup_nil, List.append_nil, ↓reduceIte, rdr]
    · simp only [bPs, bP, eq_self, AS.ev, look, cav, td0, td1, td2, td3, td4, td5, td6, Option.getD, List.map, List.not_mem_nil, List.nodup_cons, List.nodup_nil, List.append_nil, ↓reduceIte, not_false_eq_true, and_self, rdr]
    simp only [mkC, eC, eCs, aftS, aftV, AS.kb, rmBs, rmB, mkO, packRA, flatR, ePs, eP, bPs, bP, AS.kl, retA, List.headD_cons, eq_self, xRun, vE, vP, isCutO, isB, bv, gN, isPick, isCall, AS.pt, AS.ev, kill, look, cav, td0, td1, td2, td3, td4, td5, td6, Option.getD, List.map, List.foldr, List.append_nil, ↓reduceIte, Nat.reduceLT, true_and, Bool.false_eq_true, reduceCtorEq, Nat.succ_ne_zero, rdr]
    refine sw_callP (c3) rfl rfl rfl rfl ?_ ?_ ?_ (sw_run 200 _ _ _ ?_)
    · simp only [rC, rCs, eC, eCs, AS.kb, rmBs, rmB, mPs, mP, ePs, eP, bPs, bP, aA, aD, AS.kl, rD, eq_self, AS.ev, kill, look, cav, td0, td1, td2, td3, td4, td5, td6, Option.getD, List.map, List.foldr, List.append_nil, ↓reduceIte, and_self, Nat.succ_ne_zero, rdr]
    · simp only [eC, eCs, ePs, eP, eq_self, AS.ev, look, cav, td0, td1, td2, td3, td4, td5, td6, Option.getD, List.map, List.nodup_nil, List.append_nil, ↓reduceIte, rdr]
    · simp only [bPs, bP, eq_self, AS.ev, look, cav, td0, td1, td2, td3, td4, td5, td6, Option.getD, List.map, List.not_mem_nil, List.nodup_cons, List.nodup_nil, List.append_nil, ↓reduceIte, not_false_eq_true, and_self, rdr]
    simp only [mkC, eC, eCs, aftS, aftV, AS.kb, rmBs, rmB, mkO, packRA, flatR, ePs, eP, bPs, bP, AS.kl, retA, List.headD_cons, eq_self, xRun, vE, vP, vBin, vBinT, isAg, isBo, isCutO, isB, bv, gN, isPick, isCall, AS.pt, AS.ev, kill, look, cav, td0, td1, td2, td3, td4, td5, td6, Option.getD, List.map, List.foldr, List.append_nil, ↓reduceIte, Nat.reduceLT, Nat.reduceEqDiff, true_and, Bool.false_eq_true, reduceCtorEq, Nat.succ_ne_zero, rdr, hs, hin]
    refine sw_callP (ra) rfl rfl rfl rfl ?_ ?_ ?_ (sw_run 200 _ _ _ ?_)
    · simp only [rC, rCs, eC, eCs, AS.kb, rmBs, rmB, mPs, mP, ePs, eP, bPs, bP, aA, aD, AS.kl, rD, eq_self, AS.ev, kill, look, td0, td1, td2, td3, td4, td5, td6, Option.getD, List.map, List.foldr, List.append_nil, ↓reduceIte, Nat.reduceEqDiff, and_self, Nat.succ_ne_zero, rdr]
    · simp only [eC, eCs, ePs, eP, eq_self, AS.ev, look, td0, td1, td2, td3, td4, td5, td6, Option.getD, List.map, List.nodup_nil, List.append_nil, ↓reduceIte, Nat.reduceEqDiff, rdr]
    · simp only [bPs, bP, eq_self, AS.ev, look, td0, td1, td2, td3, td4, td5, td6, Option.getD, List.map, List.not_mem_nil, List.nodup_cons, List.nodup_nil, List.append_nil, ↓reduceIte, Nat.reduceEqDiff, not_false_eq_true, and_self, rdr]
    simp only [mkC, eC, eCs, aftS, aftV, AS.kb, rmBs, rmB, mkO, packRA, flatR, ePs, eP, bPs, bP, AS.kl, retA, eq_self, xRun, vE, vP, vBuild, vRow, vStore, isCutO, xFill, gN, isPick, isCall, AS.pt, AS.ev, AS.box, AS.setb, AS.mk', AS.owf, kill, look, cav, setRowG, AV.cells, AV.whole, AV.one, cD, cDs, eatsOf, dpOf, td0, td1, td2, td3, td4, td5, td6, Option.bind, Option.getD, Option.map, Option.isSome, List.map, List.take, List.length, List.getElem?_cons_zero, List.getElem?_cons_succ, List.set, List.foldr, List.all, List.replicate, List.not_mem_nil, List.nodup_cons, List.nodup_nil, List.append_nil, ↓reduceIte, Nat.reduceLT, Nat.reduceAdd, Nat.reduceLeDiff, Nat.reduceEqDiff, Nat.zero_add, Nat.zero_mul, Nat.one_mul, not_false_eq_true, true_and, or_true, Bool.and_true, Bool.false_eq_true, id_eq, reduceCtorEq, and_self, Nat.succ_ne_zero, Nat.le_refl, rdr, tyR]
    refine sw_callP (c5) rfl rfl rfl rfl ?_ ?_ ?_ (sw_run 200 _ _ _ ?_)
    · simp only [rC, rCs, eC, eCs, AS.kb, rmBs, rmB, mPs, mP, ePs, eP, bPs, bP, aA, aD, AS.kl, rD, eq_self, AS.ev, kill, look, cav, td0, td1, td2, td3, td4, td5, td6, Option.getD, List.map, List.foldr, List.append_nil, ↓reduceIte, reduceCtorEq, and_self, Nat.succ_ne_zero, rdr]
    · simp only [eC, eCs, ePs, eP, eq_self, AS.ev, look, cav, td0, td1, td2, td3, td4, td5, td6, Option.getD, List.map, List.nodup_nil, List.append_nil, ↓reduceIte, reduceCtorEq, rdr]
    · simp only [bPs, bP, eq_self, AS.ev, look, cav, td0, td1, td2, td3, td4, td5, td6, Option.getD, List.map, List.not_mem_nil, List.nodup_cons, List.nodup_nil, List.append_nil, ↓reduceIte, not_false_eq_true, and_self, rdr]
    simp only [mkC, fQP, xRetP, rRs, rOs, rC, rCs, eRs, eOs, eC, eCs, aftS, aftV, AS.kb, rmBs, rmB, mkO, packRA, flatR, ePs, eP, bPs, bP, AS.kl, retA, tysD, xRes, rD, eq_self, xRun, vE, vP, vSub, vLoad, vStore, isCutO, gN, isPick, isCall, AS.pt, AS.ev, AS.setb, AS.owf, kill, look, cav, setRowG, AV.cells, AV.whole, AV.one, td0, td1, td2, td3, td4, td5, td6, Option.bind, Option.getD, List.map, List.take, List.drop, List.length, List.set, List.foldr, List.all, List.not_mem_nil, List.nodup_cons, List.nodup_nil, List.nil_append, List.append_nil, ↓reduceIte, Nat.reduceLT, Nat.reduceAdd, Nat.reduceEqDiff, Nat.zero_add, not_false_eq_true, or_false, Bool.and_true, Bool.not_true, Bool.false_eq_true, id_eq, reduceCtorEq, and_self, Nat.succ_ne_zero, Nat.le_refl, rdr, tyG_k, tyG_a, tysC, tyC_eq, tysD, List.length_cons, Try.results97]
theorem l4_F1 (s : List UInt8) (hl : s.length ≤ 1000000000000) (d i : Nat) (hd : d + 1 ≤ 8) (hi : i ≤ s.length) (ih : ∀ i, i ≤ s.length → ConP Try.prog 97 [.p (rdr s i false), .b (.one (.int (9 - (d : Int))))] [rdr s (rdS s d i).at_ (rdS s d i).bad] [tyR (rdS s d i).t]) (h1 : tk s 73 i = false) (h2 : tk s 66 i = false) (h3 : tk s 60 i = false) (h4 : tk s 40 i = true) (hb : (rdS s d (i + 1)).bad = true) : ConP Try.prog 97 [.p (rdr s i false), .b (.one (.int (9 - ((d + 1 : Nat) : Int))))] [rdr s (rdS s (d + 1) i).at_ (rdS s (d + 1) i).bad] [tyR (rdS s (d + 1) i).t] := by
  have hn : ¬ (8 : Int) < 9 - ((d + 1 : Nat) : Int) := by omega
  have hs : 9 - ((d + 1 : Nat) : Int) + 1 = 9 - (d : Int) := by omega
  have hin : inI (9 - (d : Int)) := by unfold inI; omega
  have c1 := con_take 73 s i hl hi
  rw [h1, if_neg (by simp)] at c1
  have c2 := con_take 66 s i hl hi
  rw [h2, if_neg (by simp)] at c2
  have c3 := con_take 60 s i hl hi
  rw [h3, if_neg (by simp)] at c3
  have c4 := con_must 40 s i hl hi
  rw [h4, if_pos rfl] at c4
  rw [rdS_F h1 h2 h3 h4]
  have hi1 := (tk_lt h4).1
  have ra := ih (i + 1) hi1
  have la := (rd_same s d (i + 1) hi1).1
  generalize rdS s d (i + 1) = A at *
  obtain ⟨At, Aa, Ab⟩ := A
  simp only at ra la hb ⊢
  subst hb
  have c5 := con_mustB 62 s Aa
  rw [if_pos rfl]
  refine con_runP Try.func97 rfl rfl (by simp [Try.ntmps97]) rfl ?_
  simp only [s0P, mkPs, mkPA, mkC, argA, numT, eq_self, xRun, vE, vP, vSub, vLoad, vFld, vBin, vBinT, isAg, isBo, vStore, isCutO, isB, bv, gT, gW, gN, gV, isU, isPick, pkC, pkB, isCall, AS.pt, AS.kn, AS.ev, AS.box, AS.setb, look, cav, avB, setRowG, AV.cells, AV.whole, AV.one, td0, td1, td2, td3, td4, td5, td6, Option.bind, Option.getD, Option.isSome, List.length, List.getElem?_cons_zero, List.getElem?_cons_succ, List.set, List.nil_append, ↓reduceIte, Nat.reduceLT, Nat.reduceAdd, Nat.reduceEqDiff, Nat.zero_add, ne_eq, not_false_eq_true, true_and, Bool.false_eq_true, reduceCtorEq, decide_false, and_self, Nat.succ_ne_zero, Nat.le_refl, rdr, tyR, hn, Try.ntmps97]
  refine sw_callP (c1) rfl rfl rfl rfl ?_ ?_ ?_ (sw_run 200 _ _ _ ?_)
  · simp only [rC, rCs, eC, eCs, AS.kb, rmBs, rmB, mPs, mP, ePs, eP, bPs, bP, aA, aD, AS.kl, rD, eq_self, AS.ev, kill, look, cav, td0, td1, td2, td3, td4, td5, td6, Option.getD, List.map, List.foldr, List.append_nil, ↓reduceIte, and_self, Nat.succ_ne_zero, rdr]
  · simp only [eC, eCs, ePs, eP, eq_self, AS.ev, look, cav, td0, td1, td2, td3, td4, td5, td6, Option.getD, List.map, List.nodup_nil, List.append_nil, ↓reduceIte, rdr]
  · simp only [bPs, bP, eq_self, AS.ev, look, cav, td0, td1, td2, td3, td4, td5, td6, Option.getD, List.map, List.not_mem_nil, List.nodup_cons, List.nodup_nil, List.append_nil, ↓reduceIte, not_false_eq_true, and_self, rdr]
  simp only [mkC, eC, eCs, aftS, aftV, AS.kb, rmBs, rmB, mkO, packRA, flatR, ePs, eP, bPs, bP, AS.kl, retA, List.headD_cons, eq_self, xRun, vE, vP, isCutO, isB, bv, gN, isPick, isCall, AS.pt, AS.ev, kill, look, cav, td0, td1, td2, td3, td4, td5, td6, Option.getD, List.map, List.foldr, List.append_nil, ↓reduceIte, Nat.reduceLT, true_and, Bool.false_eq_true, reduceCtorEq, Nat.succ_ne_zero, rdr]
  refine sw_callP (c2) rfl rfl rfl rfl ?_ ?_ ?_ (sw_run 200 _ _ _ ?_)
  · simp only [rC, rCs, eC, eCs, AS.kb, rmBs, rmB, mPs, mP, ePs, eP, bPs, bP, aA, aD, AS.kl, rD, eq_self, AS.ev, kill, look, cav, td0, td1, td2, td3, td4, td5, td6, Option.getD, List.map, List.foldr, List.append_nil, ↓reduceIte, and_self, Nat.succ_ne_zero, rdr]
  · simp only [eC, eCs, ePs, eP, eq_self, AS.ev, look, cav, td0, td1, td2, td3, td4, td5, td6, Option.getD, List.map, List.nodup_nil, List.append_nil, ↓reduceIte, rdr]
  · simp only [bPs, bP, eq_self, AS.ev, look, cav, td0, td1, td2, td3, td4, td5, td6, Option.getD, List.map, List.not_mem_nil, List.nodup_cons, List.nodup_nil, List.append_nil, ↓reduceIte, not_false_eq_true, and_self, rdr]
  simp only [mkC, eC, eCs, aftS, aftV, AS.kb, rmBs, rmB, mkO, packRA, flatR, ePs, eP, bPs, bP, AS.kl, retA, List.headD_cons, eq_self, xRun, vE, vP, isCutO, isB, bv, gN, isPick, isCall, AS.pt, AS.ev, kill, look, cav, td0, td1, td2, td3, td4, td5, td6, Option.getD, List.map, List.foldr, List.append_nil, ↓reduceIte, Nat.reduceLT, true_and, Bool.false_eq_true, reduceCtorEq, Nat.succ_ne_zero, rdr]
  refine sw_callP (c3) rfl rfl rfl rfl ?_ ?_ ?_ (sw_run 200 _ _ _ ?_)
  · simp only [rC, rCs, eC, eCs, AS.kb, rmBs, rmB, mPs, mP, ePs, eP, bPs, bP, aA, aD, AS.kl, rD, eq_self, AS.ev, kill, look, cav, td0, td1, td2, td3, td4, td5, td6, Option.getD, List.map, List.foldr, List.append_nil, ↓reduceIte, and_self, Nat.succ_ne_zero, rdr]
  · simp only [eC, eCs, ePs, eP, eq_self, AS.ev, look, cav, td0, td1, td2, td3, td4, td5, td6, Option.getD, List.map, List.nodup_nil, List.append_nil, ↓reduceIte, rdr]
  · simp only [bPs, bP, eq_self, AS.ev, look, cav, td0, td1, td2, td3, td4, td5, td6, Option.getD, List.map, List.not_mem_nil, List.nodup_cons, List.nodup_nil, List.append_nil, ↓reduceIte, not_false_eq_true, and_self, rdr]
  simp only [mkC, eC, eCs, aftS, aftV, AS.kb, rmBs, rmB, mkO, packRA, flatR, ePs, eP, bPs, bP, AS.kl, retA, List.headD_cons, eq_self, xRun, vE, vP, isCutO, isB, bv, gN, isPick, isCall, AS.pt, AS.ev, kill, look, cav, td0, td1, td2, td3, td4, td5, td6, Option.getD, List.map, List.foldr, List.append_nil, ↓reduceIte, Nat.reduceLT, true_and, Bool.false_eq_true, reduceCtorEq, Nat.succ_ne_zero, rdr]
  refine sw_callP (c4) rfl rfl rfl rfl ?_ ?_ ?_ (sw_run 200 _ _ _ ?_)
  · simp only [rC, rCs, eC, eCs, AS.kb, rmBs, rmB, mPs, mP, ePs, eP, bPs, bP, aA, aD, AS.kl, rD, eq_self, AS.ev, kill, look, cav, td0, td1, td2, td3, td4, td5, td6, Option.getD, List.map, List.foldr, List.append_nil, ↓reduceIte, and_self, Nat.succ_ne_zero, rdr]
  · simp only [eC, eCs, ePs, eP, eq_self, AS.ev, look, cav, td0, td1, td2, td3, td4, td5, td6, Option.getD, List.map, List.nodup_nil, List.append_nil, ↓reduceIte, rdr]
  · simp only [bPs, bP, eq_self, AS.ev, look, cav, td0, td1, td2, td3, td4, td5, td6, Option.getD, List.map, List.not_mem_nil, List.nodup_cons, List.nodup_nil, List.append_nil, ↓reduceIte, not_false_eq_true, and_self, rdr]
  simp only [mkC, eC, eCs, aftS, aftV, AS.kb, rmBs, rmB, mkO, packRA, flatR, ePs, eP, bPs, bP, AS.kl, retA, eq_self, xRun, vE, vP, vSub, vLoad, vFld, vBin, vBinT, isAg, isBo, isCutO, isB, bv, gN, isPick, isCall, AS.pt, AS.ev, kill, look, cav, td0, td1, td2, td3, td4, td5, td6, Option.getD, Option.isSome, List.map, List.getElem?_cons_zero, List.getElem?_cons_succ, List.foldr, List.append_nil, ↓reduceIte, Nat.reduceLT, Nat.reduceEqDiff, Nat.zero_add, ne_eq, not_false_eq_true, true_and, Bool.not_true, Bool.false_eq_true, reduceCtorEq, Nat.succ_ne_zero, rdr, hs, hin]
  refine sw_callP (ra) rfl rfl rfl rfl ?_ ?_ ?_ (sw_run 200 _ _ _ ?_)
  · simp only [rC, rCs, eC, eCs, AS.kb, rmBs, rmB, mPs, mP, ePs, eP, bPs, bP, aA, aD, AS.kl, rD, eq_self, AS.ev, kill, look, td0, td1, td2, td3, td4, td5, td6, Option.getD, List.map, List.foldr, List.append_nil, ↓reduceIte, Nat.reduceEqDiff, and_self, Nat.succ_ne_zero, rdr]
  · simp only [eC, eCs, ePs, eP, eq_self, AS.ev, look, td0, td1, td2, td3, td4, td5, td6, Option.getD, List.map, List.nodup_nil, List.append_nil, ↓reduceIte, Nat.reduceEqDiff, rdr]
  · simp only [bPs, bP, eq_self, AS.ev, look, td0, td1, td2, td3, td4, td5, td6, Option.getD, List.map, List.not_mem_nil, List.nodup_cons, List.nodup_nil, List.append_nil, ↓reduceIte, Nat.reduceEqDiff, not_false_eq_true, and_self, rdr]
  simp only [mkC, eC, eCs, aftS, aftV, AS.kb, rmBs, rmB, mkO, packRA, flatR, ePs, eP, bPs, bP, AS.kl, retA, eq_self, xRun, vE, vP, vStore, isCutO, gN, isPick, isCall, AS.pt, AS.ev, AS.box, AS.setb, AS.mk', kill, look, setRowG, AV.cells, AV.whole, AV.one, td0, td1, td2, td3, td4, td5, td6, Option.getD, Option.isSome, List.map, List.take, List.length, List.set, List.foldr, List.all, List.append_nil, ↓reduceIte, Nat.reduceLT, Nat.reduceAdd, Nat.reduceEqDiff, Nat.zero_add, true_and, Bool.and_true, Bool.false_eq_true, reduceCtorEq, and_self, Nat.succ_ne_zero, Nat.le_refl, rdr, tyR]
  refine sw_callP (c5) rfl rfl rfl rfl ?_ ?_ ?_ (sw_run 200 _ _ _ ?_)
  · simp only [rC, rCs, eC, eCs, AS.kb, rmBs, rmB, mPs, mP, ePs, eP, bPs, bP, aA, aD, AS.kl, rD, eq_self, AS.ev, kill, look, cav, td0, td1, td2, td3, td4, td5, td6, Option.getD, List.map, List.foldr, List.append_nil, ↓reduceIte, reduceCtorEq, and_self, Nat.succ_ne_zero, rdr]
  · simp only [eC, eCs, ePs, eP, eq_self, AS.ev, look, cav, td0, td1, td2, td3, td4, td5, td6, Option.getD, List.map, List.nodup_nil, List.append_nil, ↓reduceIte, reduceCtorEq, rdr]
  · simp only [bPs, bP, eq_self, AS.ev, look, cav, td0, td1, td2, td3, td4, td5, td6, Option.getD, List.map, List.not_mem_nil, List.nodup_cons, List.nodup_nil, List.append_nil, ↓reduceIte, not_false_eq_true, and_self, rdr]
  simp only [mkC, fQP, xRetP, rRs, rOs, rC, rCs, eRs, eOs, eC, eCs, aftS, aftV, AS.kb, rmBs, rmB, mkO, packRA, flatR, ePs, eP, bPs, bP, AS.kl, retA, xRes, rD, eq_self, xRun, vE, vP, vSub, vLoad, vFld, vBuild, vStore, isCutO, xFill, isB, bv, gN, isPick, isCall, AS.pt, AS.ev, AS.setb, kill, look, cav, setRowG, AV.cells, AV.whole, AV.one, td0, td1, td2, td3, td4, td5, td6, Option.getD, Option.isSome, List.map, List.length, List.getElem?_cons_zero, List.getElem?_cons_succ, List.set, List.foldr, List.all, List.not_mem_nil, List.nodup_cons, List.nodup_nil, List.append_nil, ↓reduceIte, Nat.reduceLT, Nat.reduceAdd, Nat.reduceEqDiff, Nat.zero_add, ne_eq, not_false_eq_true, or_false, Bool.and_true, Bool.false_eq_true, reduceCtorEq, and_self, Nat.succ_ne_zero, Nat.le_refl, rdr, ty0, tyk, tya, tysC, List.length_nil, Try.results97]
theorem l4_F2 (s : List UInt8) (hl : s.length ≤ 1000000000000) (d i : Nat) (hd : d + 1 ≤ 8) (hi : i ≤ s.length) (ih : ∀ i, i ≤ s.length → ConP Try.prog 97 [.p (rdr s i false), .b (.one (.int (9 - (d : Int))))] [rdr s (rdS s d i).at_ (rdS s d i).bad] [tyR (rdS s d i).t]) (h1 : tk s 73 i = false) (h2 : tk s 66 i = false) (h3 : tk s 60 i = false) (h4 : tk s 40 i = true) (hb : (rdS s d (i + 1)).bad = false) (h5 : tk s 62 (rdS s d (i + 1)).at_ = false) : ConP Try.prog 97 [.p (rdr s i false), .b (.one (.int (9 - ((d + 1 : Nat) : Int))))] [rdr s (rdS s (d + 1) i).at_ (rdS s (d + 1) i).bad] [tyR (rdS s (d + 1) i).t] := by
  have hn : ¬ (8 : Int) < 9 - ((d + 1 : Nat) : Int) := by omega
  have hs : 9 - ((d + 1 : Nat) : Int) + 1 = 9 - (d : Int) := by omega
  have hin : inI (9 - (d : Int)) := by unfold inI; omega
  have c1 := con_take 73 s i hl hi
  rw [h1, if_neg (by simp)] at c1
  have c2 := con_take 66 s i hl hi
  rw [h2, if_neg (by simp)] at c2
  have c3 := con_take 60 s i hl hi
  rw [h3, if_neg (by simp)] at c3
  have c4 := con_must 40 s i hl hi
  rw [h4, if_pos rfl] at c4
  rw [rdS_F h1 h2 h3 h4]
  have hi1 := (tk_lt h4).1
  have ra := ih (i + 1) hi1
  have la := (rd_same s d (i + 1) hi1).1
  generalize rdS s d (i + 1) = A at *
  obtain ⟨At, Aa, Ab⟩ := A
  simp only at ra la hb h5 ⊢
  subst hb
  have c5 := con_must 62 s Aa hl la
  rw [h5, if_neg (by simp)] at c5
  rw [if_neg (by simp), h5, if_neg (by simp)]
  refine con_runP Try.func97 rfl rfl (by simp [Try.ntmps97]) rfl ?_
  simp only [s0P, mkPs, mkPA, mkC, argA, numT, eq_self, xRun, vE, vP, vSub, vLoad, vFld, vBin, vBinT, isAg, isBo, vStore, isCutO, isB, bv, gT, gW, gN, gV, isU, isPick, pkC, pkB, isCall, AS.pt, AS.kn, AS.ev, AS.box, AS.setb, look, cav, avB, setRowG, AV.cells, AV.whole, AV.one, td0, td1, td2, td3, td4, td5, td6, Option.bind, Option.getD, Option.isSome, List.length, List.getElem?_cons_zero, List.getElem?_cons_succ, List.set, List.nil_append, ↓reduceIte, Nat.reduceLT, Nat.reduceAdd, Nat.reduceEqDiff, Nat.zero_add, ne_eq, not_false_eq_true, true_and, Bool.false_eq_true, reduceCtorEq, decide_false, and_self, Nat.succ_ne_zero, Nat.le_refl, rdr, tyR, hn, Try.ntmps97]
  refine sw_callP (c1) rfl rfl rfl rfl ?_ ?_ ?_ (sw_run 200 _ _ _ ?_)
  · simp only [rC, rCs, eC, eCs, AS.kb, rmBs, rmB, mPs, mP, ePs, eP, bPs, bP, aA, aD, AS.kl, rD, eq_self, AS.ev, kill, look, cav, td0, td1, td2, td3, td4, td5, td6, Option.getD, List.map, List.foldr, List.append_nil, ↓reduceIte, and_self, Nat.succ_ne_zero, rdr]
  · simp only [eC, eCs, ePs, eP, eq_self, AS.ev, look, cav, td0, td1, td2, td3, td4, td5, td6, Option.getD, List.map, List.nodup_nil, List.append_nil, ↓reduceIte, rdr]
  · simp only [bPs, bP, eq_self, AS.ev, look, cav, td0, td1, td2, td3, td4, td5, td6, Option.getD, List.map, List.not_mem_nil, List.nodup_cons, List.nodup_nil, List.append_nil, ↓reduceIte, not_false_eq_true, and_self, rdr]
  simp only [mkC, eC, eCs, aftS, aftV, AS.kb, rmBs, rmB, mkO, packRA, flatR, ePs, eP, bPs, bP, AS.kl, retA, List.headD_cons, eq_self, xRun, vE, vP, isCutO, isB, bv, gN, isPick, isCall, AS.pt, AS.ev, kill, look, cav, td0, td1, td2, td3, td4, td5, td6, Option.getD, List.map, List.foldr, List.append_nil, ↓reduceIte, Nat.reduceLT, true_and, Bool.false_eq_true, reduceCtorEq, Nat.succ_ne_zero, rdr]
  refine sw_callP (c2) rfl rfl rfl rfl ?_ ?_ ?_ (sw_run 200 _ _ _ ?_)
  · simp only [rC, rCs, eC, eCs, AS.kb, rmBs, rmB, mPs, mP, ePs, eP, bPs, bP, aA, aD, AS.kl, rD, eq_self, AS.ev, kill, look, cav, td0, td1, td2, td3, td4, td5, td6, Option.getD, List.map, List.foldr, List.append_nil, ↓reduceIte, and_self, Nat.succ_ne_zero, rdr]
  · simp only [eC, eCs, ePs, eP, eq_self, AS.ev, look, cav, td0, td1, td2, td3, td4, td5, td6, Option.getD, List.map, List.nodup_nil, List.append_nil, ↓reduceIte, rdr]
  · simp only [bPs, bP, eq_self, AS.ev, look, cav, td0, td1, td2, td3, td4, td5, td6, Option.getD, List.map, List.not_mem_nil, List.nodup_cons, List.nodup_nil, List.append_nil, ↓reduceIte, not_false_eq_true, and_self, rdr]
  simp only [mkC, eC, eCs, aftS, aftV, AS.kb, rmBs, rmB, mkO, packRA, flatR, ePs, eP, bPs, bP, AS.kl, retA, List.headD_cons, eq_self, xRun, vE, vP, isCutO, isB, bv, gN, isPick, isCall, AS.pt, AS.ev, kill, look, cav, td0, td1, td2, td3, td4, td5, td6, Option.getD, List.map, List.foldr, List.append_nil, ↓reduceIte, Nat.reduceLT, true_and, Bool.false_eq_true, reduceCtorEq, Nat.succ_ne_zero, rdr]
  refine sw_callP (c3) rfl rfl rfl rfl ?_ ?_ ?_ (sw_run 200 _ _ _ ?_)
  · simp only [rC, rCs, eC, eCs, AS.kb, rmBs, rmB, mPs, mP, ePs, eP, bPs, bP, aA, aD, AS.kl, rD, eq_self, AS.ev, kill, look, cav, td0, td1, td2, td3, td4, td5, td6, Option.getD, List.map, List.foldr, List.append_nil, ↓reduceIte, and_self, Nat.succ_ne_zero, rdr]
  · simp only [eC, eCs, ePs, eP, eq_self, AS.ev, look, cav, td0, td1, td2, td3, td4, td5, td6, Option.getD, List.map, List.nodup_nil, List.append_nil, ↓reduceIte, rdr]
  · simp only [bPs, bP, eq_self, AS.ev, look, cav, td0, td1, td2, td3, td4, td5, td6, Option.getD, List.map, List.not_mem_nil, List.nodup_cons, List.nodup_nil, List.append_nil, ↓reduceIte, not_false_eq_true, and_self, rdr]
  simp only [mkC, eC, eCs, aftS, aftV, AS.kb, rmBs, rmB, mkO, packRA, flatR, ePs, eP, bPs, bP, AS.kl, retA, List.headD_cons, eq_self, xRun, vE, vP, isCutO, isB, bv, gN, isPick, isCall, AS.pt, AS.ev, kill, look, cav, td0, td1, td2, td3, td4, td5, td6, Option.getD, List.map, List.foldr, List.append_nil, ↓reduceIte, Nat.reduceLT, true_and, Bool.false_eq_true, reduceCtorEq, Nat.succ_ne_zero, rdr]
  refine sw_callP (c4) rfl rfl rfl rfl ?_ ?_ ?_ (sw_run 200 _ _ _ ?_)
  · simp only [rC, rCs, eC, eCs, AS.kb, rmBs, rmB, mPs, mP, ePs, eP, bPs, bP, aA, aD, AS.kl, rD, eq_self, AS.ev, kill, look, cav, td0, td1, td2, td3, td4, td5, td6, Option.getD, List.map, List.foldr, List.append_nil, ↓reduceIte, and_self, Nat.succ_ne_zero, rdr]
  · simp only [eC, eCs, ePs, eP, eq_self, AS.ev, look, cav, td0, td1, td2, td3, td4, td5, td6, Option.getD, List.map, List.nodup_nil, List.append_nil, ↓reduceIte, rdr]
  · simp only [bPs, bP, eq_self, AS.ev, look, cav, td0, td1, td2, td3, td4, td5, td6, Option.getD, List.map, List.not_mem_nil, List.nodup_cons, List.nodup_nil, List.append_nil, ↓reduceIte, not_false_eq_true, and_self, rdr]
  simp only [mkC, eC, eCs, aftS, aftV, AS.kb, rmBs, rmB, mkO, packRA, flatR, ePs, eP, bPs, bP, AS.kl, retA, eq_self, xRun, vE, vP, vSub, vLoad, vFld, vBin, vBinT, isAg, isBo, isCutO, isB, bv, gN, isPick, isCall, AS.pt, AS.ev, kill, look, cav, td0, td1, td2, td3, td4, td5, td6, Option.getD, Option.isSome, List.map, List.getElem?_cons_zero, List.getElem?_cons_succ, List.foldr, List.append_nil, ↓reduceIte, Nat.reduceLT, Nat.reduceEqDiff, Nat.zero_add, ne_eq, not_false_eq_true, true_and, Bool.not_true, Bool.false_eq_true, reduceCtorEq, Nat.succ_ne_zero, rdr, hs, hin]
  refine sw_callP (ra) rfl rfl rfl rfl ?_ ?_ ?_ (sw_run 200 _ _ _ ?_)
  · simp only [rC, rCs, eC, eCs, AS.kb, rmBs, rmB, mPs, mP, ePs, eP, bPs, bP, aA, aD, AS.kl, rD, eq_self, AS.ev, kill, look, td0, td1, td2, td3, td4, td5, td6, Option.getD, List.map, List.foldr, List.append_nil, ↓reduceIte, Nat.reduceEqDiff, and_self, Nat.succ_ne_zero, rdr]
  · simp only [eC, eCs, ePs, eP, eq_self, AS.ev, look, td0, td1, td2, td3, td4, td5, td6, Option.getD, List.map, List.nodup_nil, List.append_nil, ↓reduceIte, Nat.reduceEqDiff, rdr]
  · simp only [bPs, bP, eq_self, AS.ev, look, td0, td1, td2, td3, td4, td5, td6, Option.getD, List.map, List.not_mem_nil, List.nodup_cons, List.nodup_nil, List.append_nil, ↓reduceIte, Nat.reduceEqDiff, not_false_eq_true, and_self, rdr]
  simp only [mkC, eC, eCs, aftS, aftV, AS.kb, rmBs, rmB, mkO, packRA, flatR, ePs, eP, bPs, bP, AS.kl, retA, eq_self, xRun, vE, vP, vStore, isCutO, gN, isPick, isCall, AS.pt, AS.ev, AS.box, AS.setb, AS.mk', kill, look, setRowG, AV.cells, AV.whole, AV.one, td0, td1, td2, td3, td4, td5, td6, Option.getD, Option.isSome, List.map, List.take, List.length, List.set, List.foldr, List.all, List.append_nil, ↓reduceIte, Nat.reduceLT, Nat.reduceAdd, Nat.reduceEqDiff, Nat.zero_add, true_and, Bool.and_true, Bool.false_eq_true, reduceCtorEq, and_self, Nat.succ_ne_zero, Nat.le_refl, rdr, tyR]
  refine sw_callP (c5) rfl rfl rfl rfl ?_ ?_ ?_ (sw_run 200 _ _ _ ?_)
  · simp only [rC, rCs, eC, eCs, AS.kb, rmBs, rmB, mPs, mP, ePs, eP, bPs, bP, aA, aD, AS.kl, rD, eq_self, AS.ev, kill, look, cav, td0, td1, td2, td3, td4, td5, td6, Option.getD, List.map, List.foldr, List.append_nil, ↓reduceIte, reduceCtorEq, and_self, Nat.succ_ne_zero, rdr]
  · simp only [eC, eCs, ePs, eP, eq_self, AS.ev, look, cav, td0, td1, td2, td3, td4, td5, td6, Option.getD, List.map, List.nodup_nil, List.append_nil, ↓reduceIte, reduceCtorEq, rdr]
  · simp only [bPs, bP, eq_self, AS.ev, look, cav, td0, td1, td2, td3, td4, td5, td6, Option.getD, List.map, List.not_mem_nil, List.nodup_cons, List.nodup_nil, List.append_nil, ↓reduceIte, not_false_eq_true, and_self, rdr]
  simp only [mkC, fQP, xRetP, rRs, rOs, rC, rCs, eRs, eOs, eC, eCs, aftS, aftV, AS.kb, rmBs, rmB, mkO, packRA, flatR, ePs, eP, bPs, bP, AS.kl, retA, xRes, rD, eq_self, xRun, vE, vP, vSub, vLoad, vFld, vBuild, vStore, isCutO, xFill, isB, bv, gN, isPick, isCall, AS.pt, AS.ev, AS.setb, kill, look, cav, setRowG, AV.cells, AV.whole, AV.one, td0, td1, td2, td3, td4, td5, td6, Option.getD, Option.isSome, List.map, List.length, List.getElem?_cons_zero, List.getElem?_cons_succ, List.set, List.foldr, List.all, List.not_mem_nil, List.nodup_cons, List.nodup_nil, List.append_nil, ↓reduceIte, Nat.reduceLT, Nat.reduceAdd, Nat.reduceEqDiff, Nat.zero_add, ne_eq, not_false_eq_true, or_false, Bool.and_true, Bool.not_false, Bool.false_eq_true, reduceCtorEq, and_self, Nat.succ_ne_zero, Nat.le_refl, rdr, ty0, tyk, tya, tysC, List.length_nil, Try.results97]
theorem l4_F3 (s : List UInt8) (hl : s.length ≤ 1000000000000) (d i : Nat) (hd : d + 1 ≤ 8) (hi : i ≤ s.length) (ih : ∀ i, i ≤ s.length → ConP Try.prog 97 [.p (rdr s i false), .b (.one (.int (9 - (d : Int))))] [rdr s (rdS s d i).at_ (rdS s d i).bad] [tyR (rdS s d i).t]) (h1 : tk s 73 i = false) (h2 : tk s 66 i = false) (h3 : tk s 60 i = false) (h4 : tk s 40 i = true) (hb : (rdS s d (i + 1)).bad = false) (h5 : tk s 62 (rdS s d (i + 1)).at_ = true) : ConP Try.prog 97 [.p (rdr s i false), .b (.one (.int (9 - ((d + 1 : Nat) : Int))))] [rdr s (rdS s (d + 1) i).at_ (rdS s (d + 1) i).bad] [tyR (rdS s (d + 1) i).t] := by
  have hn : ¬ (8 : Int) < 9 - ((d + 1 : Nat) : Int) := by omega
  have hs : 9 - ((d + 1 : Nat) : Int) + 1 = 9 - (d : Int) := by omega
  have hin : inI (9 - (d : Int)) := by unfold inI; omega
  have c1 := con_take 73 s i hl hi
  rw [h1, if_neg (by simp)] at c1
  have c2 := con_take 66 s i hl hi
  rw [h2, if_neg (by simp)] at c2
  have c3 := con_take 60 s i hl hi
  rw [h3, if_neg (by simp)] at c3
  have c4 := con_must 40 s i hl hi
  rw [h4, if_pos rfl] at c4
  rw [rdS_F h1 h2 h3 h4]
  have hi1 := (tk_lt h4).1
  have ra := ih (i + 1) hi1
  have la := (rd_same s d (i + 1) hi1).1
  generalize rdS s d (i + 1) = A at *
  obtain ⟨At, Aa, Ab⟩ := A
  simp only at ra la hb h5 ⊢
  subst hb
  have c5 := con_must 62 s Aa hl la
  rw [h5, if_pos rfl] at c5
  rw [if_neg (by simp), h5, if_pos rfl]
  have hi2 := (tk_lt h5).1
  have rb := ih (Aa + 1) hi2
  have lb := (rd_same s d (Aa + 1) hi2).1
  generalize rdS s d (Aa + 1) = B at *
  obtain ⟨Bt, Ba, Bb⟩ := B
  simp only at rb lb ⊢
  cases Bb
  case true =>
    have c6 := con_mustB 41 s Ba
    rw [if_pos rfl]
    refine con_runP Try.func97 rfl rfl (by simp [Try.ntmps97]) rfl ?_
    simp only [s0P, mkPs, mkPA, mkC, argA, numT, eq_self, xRun, vE, vP, vSub, vLoad, vFld, vBin, vBinT, isAg, isBo, vStore, isCutO, isB, bv, gT, gW, gN, gV, isU, isPick, pkC, pkB, isCall, AS.pt, AS.kn, AS.ev, AS.box, AS.setb, look, cav, avB, setRowG, AV.cells, AV.whole, AV.one, td0, td1, td2, td3, td4, td5, td6, Option.bind, Option.getD, Option.isSome, List.length, List.getElem?_cons_zero, List.getElem?_cons_succ, List.set, List.nil_append, ↓reduceIte, Nat.reduceLT, Nat.reduceAdd, Nat.reduceEqDiff, Nat.zero_add, ne_eq, not_false_eq_true, true_and, Bool.false_eq_true, reduceCtorEq, decide_false, and_self, Nat.succ_ne_zero, Nat.le_refl, rdr, tyR, hn, Try.ntmps97]
    refine sw_callP (c1) rfl rfl rfl rfl ?_ ?_ ?_ (sw_run 200 _ _ _ ?_)
    · simp only [rC, rCs, eC, eCs, AS.kb, rmBs, rmB, mPs, mP, ePs, eP, bPs, bP, aA, aD, AS.kl, rD, eq_self, AS.ev, kill, look, cav, td0, td1, td2, td3, td4, td5, td6, Option.getD, List.map, List.foldr, List.append_nil, ↓reduceIte, and_self, Nat.succ_ne_zero, rdr]
    · simp only [eC, eCs, ePs, eP, eq_self, AS.ev, look, cav, td0, td1, td2, td3, td4, td5, td6, Option.getD, List.map, List.nodup_nil, List.append_nil, ↓reduceIte, rdr]
    · simp only [bPs, bP, eq_self, AS.ev, look, cav, td0, td1, td2, td3, td4, td5, td6, Option.getD, List.map, List.not_mem_nil, List.nodup_cons, List.nodup_nil, List.append_nil, ↓reduceIte, not_false_eq_true, and_self, rdr]
    simp only [mkC, eC, eCs, aftS, aftV, AS.kb, rmBs, rmB, mkO, packRA, flatR, ePs, eP, bPs, bP, AS.kl, retA, List.headD_cons, eq_self, xRun, vE, vP, isCutO, isB, bv, gN, isPick, isCall, AS.pt, AS.ev, kill, look, cav, td0, td1, td2, td3, td4, td5, td6, Option.getD, List.map, List.foldr, List.append_nil, ↓reduceIte, Nat.reduceLT, true_and, Bool.false_eq_true, reduceCtorEq, Nat.succ_ne_zero, rdr]
    refine sw_callP (c2) rfl rfl rfl rfl ?_ ?_ ?_ (sw_run 200 _ _ _ ?_)
    · simp only [rC, rCs, eC, eCs, AS.kb, rmBs, rmB, mPs, mP, ePs, eP, bPs, bP, aA, aD, AS.kl, rD, eq_self, AS.ev, kill, look, cav, td0, td1, td2, td3, td4, td5, td6, Option.getD, List.map, List.foldr, List.append_nil, ↓reduceIte, and_self, Nat.succ_ne_zero, rdr]
    · simp only [eC, eCs, ePs, eP, eq_self, AS.ev, look, cav, td0, td1, td2, td3, td4, td5, td6, Option.getD, List.map, List.nodup_nil, List.append_nil, ↓reduceIte, rdr]
    · simp only [bPs, bP, eq_self, AS.ev, look, cav, td0, td1, td2, td3, td4, td5, td6, Option.getD, List.map, List.not_mem_nil, List.nodup_cons, List.nodup_nil, List.append_nil, ↓reduceIte, not_false_eq_true, and_self, rdr]
    simp only [mkC, eC, eCs, aftS, aftV, AS.kb, rmBs, rmB, mkO, packRA, flatR, ePs, eP, bPs, bP, AS.kl, retA, List.headD_cons, eq_self, xRun, vE, vP, isCutO, isB, bv, gN, isPick, isCall, AS.pt, AS.ev, kill, look, cav, td0, td1, td2, td3, td4, td5, td6, Option.getD, List.map, List.foldr, List.append_nil, ↓reduceIte, Nat.reduceLT, true_and, Bool.false_eq_true, reduceCtorEq, Nat.succ_ne_zero, rdr]
    refine sw_callP (c3) rfl rfl rfl rfl ?_ ?_ ?_ (sw_run 200 _ _ _ ?_)
    · simp only [rC, rCs, eC, eCs, AS.kb, rmBs, rmB, mPs, mP, ePs, eP, bPs, bP, aA, aD, AS.kl, rD, eq_self, AS.ev, kill, look, cav, td0, td1, td2, td3, td4, td5, td6, Option.getD, List.map, List.foldr, List.append_nil, ↓reduceIte, and_self, Nat.succ_ne_zero, rdr]
    · simp only [eC, eCs, ePs, eP, eq_self, AS.ev, look, cav, td0, td1, td2, td3, td4, td5, td6, Option.getD, List.map, List.nodup_nil, List.append_nil, ↓reduceIte, rdr]
    · simp only [bPs, bP, eq_self, AS.ev, look, cav, td0, td1, td2, td3, td4, td5, td6, Option.getD, List.map, List.not_mem_nil, List.nodup_cons, List.nodup_nil, List.append_nil, ↓reduceIte, not_false_eq_true, and_self, rdr]
    simp only [mkC, eC, eCs, aftS, aftV, AS.kb, rmBs, rmB, mkO, packRA, flatR, ePs, eP, bPs, bP, AS.kl, retA, List.headD_cons, eq_self, xRun, vE, vP, isCutO, isB, bv, gN, isPick, isCall, AS.pt, AS.ev, kill, look, cav, td0, td1, td2, td3, td4, td5, td6, Option.getD, List.map, List.foldr, List.append_nil, ↓reduceIte, Nat.reduceLT, true_and, Bool.false_eq_true, reduceCtorEq, Nat.succ_ne_zero, rdr]
    refine sw_callP (c4) rfl rfl rfl rfl ?_ ?_ ?_ (sw_run 200 _ _ _ ?_)
    · simp only [rC, rCs, eC, eCs, AS.kb, rmBs, rmB, mPs, mP, ePs, eP, bPs, bP, aA, aD, AS.kl, rD, eq_self, AS.ev, kill, look, cav, td0, td1, td2, td3, td4, td5, td6, Option.getD, List.map, List.foldr, List.append_nil, ↓reduceIte, and_self, Nat.succ_ne_zero, rdr]
    · simp only [eC, eCs, ePs, eP, eq_self, AS.ev, look, cav, td0, td1, td2, td3, td4, td5, td6, Option.getD, List.map, List.nodup_nil, List.append_nil, ↓reduceIte, rdr]
    · simp only [bPs, bP, eq_self, AS.ev, look, cav, td0, td1, td2, td3, td4, td5, td6, Option.getD, List.map, List.not_mem_nil, List.nodup_cons, List.nodup_nil, List.append_nil, ↓reduceIte, not_false_eq_true, and_self, rdr]
    simp only [mkC, eC, eCs, aftS, aftV, AS.kb, rmBs, rmB, mkO, packRA, flatR, ePs, eP, bPs, bP, AS.kl, retA, eq_self, xRun, vE, vP, vSub, vLoad, vFld, vBin, vBinT, isAg, isBo, isCutO, isB, bv, gN, isPick, isCall, AS.pt, AS.ev, kill, look, cav, td0, td1, td2, td3, td4, td5, td6, Option.getD, Option.isSome, List.map, List.getElem?_cons_zero, List.getElem?_cons_succ, List.foldr, List.append_nil, ↓reduceIte, Nat.reduceLT, Nat.reduceEqDiff, Nat.zero_add, ne_eq, not_false_eq_true, true_and, Bool.not_true, Bool.false_eq_true, reduceCtorEq, Nat.succ_ne_zero, rdr, hs, hin]
    refine sw_callP (ra) rfl rfl rfl rfl ?_ ?_ ?_ (sw_run 200 _ _ _ ?_)
    · simp only [rC, rCs, eC, eCs, AS.kb, rmBs, rmB, mPs, mP, ePs, eP, bPs, bP, aA, aD, AS.kl, rD, eq_self, AS.ev, kill, look, td0, td1, td2, td3, td4, td5, td6, Option.getD, List.map, List.foldr, List.append_nil, ↓reduceIte, Nat.reduceEqDiff, and_self, Nat.succ_ne_zero, rdr]
    · simp only [eC, eCs, ePs, eP, eq_self, AS.ev, look, td0, td1, td2, td3, td4, td5, td6, Option.getD, List.map, List.nodup_nil, List.append_nil, ↓reduceIte, Nat.reduceEqDiff, rdr]
    · simp only [bPs, bP, eq_self, AS.ev, look, td0, td1, td2, td3, td4, td5, td6, Option.getD, List.map, List.not_mem_nil, List.nodup_cons, List.nodup_nil, List.append_nil, ↓reduceIte, Nat.reduceEqDiff, not_false_eq_true, and_self, rdr]
    simp only [mkC, eC, eCs, aftS, aftV, AS.kb, rmBs, rmB, mkO, packRA, flatR, ePs, eP, bPs, bP, AS.kl, retA, eq_self, xRun, vE, vP, vStore, isCutO, gN, isPick, isCall, AS.pt, AS.ev, AS.box, AS.setb, AS.mk', kill, look, setRowG, AV.cells, AV.whole, AV.one, td0, td1, td2, td3, td4, td5, td6, Option.getD, Option.isSome, List.map, List.take, List.length, List.set, List.foldr, List.all, List.append_nil, ↓reduceIte, Nat.reduceLT, Nat.reduceAdd, Nat.reduceEqDiff, Nat.zero_add, true_and, Bool.and_true, Bool.false_eq_true, reduceCtorEq, and_self, Nat.succ_ne_zero, Nat.le_refl, rdr, tyR]
    refine sw_callP (c5) rfl rfl rfl rfl ?_ ?_ ?_ (sw_run 200 _ _ _ ?_)
    · simp only [rC, rCs, eC, eCs, AS.kb, rmBs, rmB, mPs, mP, ePs, eP, bPs, bP, aA, aD, AS.kl, rD, eq_self, AS.ev, kill, look, cav, td0, td1, td2, td3, td4, td5, td6, Option.getD, List.map, List.foldr, List.append_nil, ↓reduceIte, reduceCtorEq, and_self, Nat.succ_ne_zero, rdr]
    · simp only [eC, eCs, ePs, eP, eq_self, AS.ev, look, cav, td0, td1, td2, td3, td4, td5, td6, Option.getD, List.map, List.nodup_nil, List.append_nil, ↓reduceIte, reduceCtorEq, rdr]
    · simp only [bPs, bP, eq_self, AS.ev, look, cav, td0, td1, td2, td3, td4, td5, td6, Option.getD, List.map, List.not_mem_nil, List.nodup_cons, List.nodup_nil, List.append_nil, ↓reduceIte, not_false_eq_true, and_self, rdr]
    simp only [mkC, eC, eCs, aftS, aftV, AS.kb, rmBs, rmB, mkO, packRA, flatR, ePs, eP, bPs, bP, AS.kl, retA, eq_self, xRun, vE, vP, vSub, vLoad, vFld, vBin, vBinT, isAg, isBo, isCutO, isB, bv, gN, isPick, isCall, AS.pt, AS.ev, kill, look, cav, td0, td1, td2, td3, td4, td5, td6, Option.getD, Option.isSome, List.map, List.getElem?_cons_zero, List.getElem?_cons_succ, List.foldr, List.append_nil, ↓reduceIte, Nat.reduceLT, Nat.reduceEqDiff, Nat.zero_add, ne_eq, not_false_eq_true, true_and, Bool.not_true, Bool.false_eq_true, reduceCtorEq, Nat.succ_ne_zero, rdr, hs, hin]
    refine sw_callP (rb) rfl rfl rfl rfl ?_ ?_ ?_ (sw_run 200 _ _ _ ?_)
    · simp only [rC, rCs, eC, eCs, AS.kb, rmBs, rmB, mPs, mP, ePs, eP, bPs, bP, aA, aD, AS.kl, rD, eq_self, AS.ev, kill, look, td0, td1, td2, td3, td4, td5, td6, Option.getD, List.map, List.foldr, List.append_nil, ↓reduceIte, Nat.reduceEqDiff, and_self, Nat.succ_ne_zero, rdr]
    · simp only [eC, eCs, ePs, eP, eq_self, AS.ev, look, td0, td1, td2, td3, td4, td5, td6, Option.getD, List.map, List.nodup_nil, List.append_nil, ↓reduceIte, Nat.reduceEqDiff, rdr]
    · simp only [bPs, bP, eq_self, AS.ev, look, td0, td1, td2, td3, td4, td5, td6, Option.getD, List.map, List.not_mem_nil, List.nodup_cons, List.nodup_nil, List.append_nil, ↓reduceIte, Nat.reduceEqDiff, not_false_eq_true, and_self, rdr]
    simp only [mkC, eC, eCs, aftS, aftV, AS.kb, rmBs, rmB, mkO, packRA, flatR, ePs, eP, bPs, bP, AS.kl, retA, eq_self, xRun, vE, vP, vStore, isCutO, gN, isPick, isCall, AS.pt, AS.ev, AS.box, AS.setb, AS.mk', kill, look, setRowG, AV.cells, AV.whole, AV.one, td0, td1, td2, td3, td4, td5, td6, Option.getD, Option.isSome, List.map, List.take, List.length, List.set, List.foldr, List.all, List.append_nil, ↓reduceIte, Nat.reduceLT, Nat.reduceAdd, Nat.reduceEqDiff, Nat.zero_add, true_and, Bool.and_true, Bool.false_eq_true, reduceCtorEq, and_self, Nat.succ_ne_zero, Nat.le_refl, rdr, tyR]
    refine sw_callP (c6) rfl rfl rfl rfl ?_ ?_ ?_ (sw_run 200 _ _ _ ?_)
    · simp only [rC, rCs, eC, eCs, AS.kb, rmBs, rmB, mPs, mP, ePs, eP, bPs, bP, aA, aD, AS.kl, rD, eq_self, AS.ev, kill, look, cav, td0, td1, td2, td3, td4, td5, td6, Option.getD, List.map, List.foldr, List.append_nil, ↓reduceIte, reduceCtorEq, and_self, Nat.succ_ne_zero, rdr]
    · simp only [eC, eCs, ePs, eP, eq_self, AS.ev, look, cav, td0, td1, td2, td3, td4, td5, td6, Option.getD, List.map, List.nodup_nil, List.append_nil, ↓reduceIte, reduceCtorEq, rdr]
    · simp only [bPs, bP, eq_self, AS.ev, look, cav, td0, td1, td2, td3, td4, td5, td6, Option.getD, List.map, List.not_mem_nil, List.nodup_cons, List.nodup_nil, List.append_nil, ↓reduceIte, not_false_eq_true, and_self, rdr]
    simp only [mkC, fQP, xRetP, rRs, rOs, rC, rCs, eRs, eOs, eC, eCs, aftS, aftV, AS.kb, rmBs, rmB, mkO, packRA, flatR, ePs, eP, bPs, bP, AS.kl, retA, tysD, xRes, rD, eq_self, xRun, vE, vP, vSub, vLoad, vBuild, vRow, vStore, isCutO, xFill, gN, isPick, isCall, AS.pt, AS.ev, AS.setb, AS.mk', AS.owf, kill, look, cav, setRowG, AV.cells, AV.whole, AV.one, cD, cDs, eatsOf, dpOf, td0, td1, td2, td3, td4, td5, td6, Option.bind, Option.getD, Option.map, Option.isSome, List.map, List.take, List.drop, List.length, List.getElem?_cons_zero, List.getElem?_cons_succ, List.set, List.foldr, List.all, List.replicate, List.mem_cons, List.not_mem_nil, List.nodup_cons, List.nodup_nil, List.nil_append, List.cons_append, List.append_nil, ↓reduceIte, Nat.reduceLT, Nat.reduceAdd, Nat.reduceMul, Nat.reduceLeDiff, Nat.reduceEqDiff, Nat.zero_add, Nat.zero_mul, Nat.one_mul, not_false_eq_true, or_false, or_true, Bool.and_true, Bool.false_eq_true, id_eq, reduceCtorEq, and_self, Nat.succ_ne_zero, Nat.le_refl, rdr, tyF_k, tyF_a, tysC, tyC_eq, tysD, List.length_cons, Try.results97]
  rw [if_neg (by simp)]
  rcases h6 : tk s 41 Ba with _ | _
  case false =>
    rw [if_neg (by simp)]
    have c6 := con_must 41 s Ba hl lb
    rw [h6, if_neg (by simp)] at c6
    refine con_runP Try.func97 rfl rfl (by simp [Try.ntmps97]) rfl ?_
    simp only [s0P, mkPs, mkPA, mkC, argA, numT, eq_self, xRun, vE, vP, vSub, vLoad, vFld, vBin, vBinT, isAg, isBo, vStore, isCutO, isB, bv, gT, gW, gN, gV, isU, isPick, pkC, pkB, isCall, AS.pt, AS.kn, AS.ev, AS.box, AS.setb, look, cav, avB, setRowG, AV.cells, AV.whole, AV.one, td0, td1, td2, td3, td4, td5, td6, Option.bind, Option.getD, Option.isSome, List.length, List.getElem?_cons_zero, List.getElem?_cons_succ, List.set, List.nil_append, ↓reduceIte, Nat.reduceLT, Nat.reduceAdd, Nat.reduceEqDiff, Nat.zero_add, ne_eq, not_false_eq_true, true_and, Bool.false_eq_true, reduceCtorEq, decide_false, and_self, Nat.succ_ne_zero, Nat.le_refl, rdr, tyR, hn, Try.ntmps97]
    refine sw_callP (c1) rfl rfl rfl rfl ?_ ?_ ?_ (sw_run 200 _ _ _ ?_)
    · simp only [rC, rCs, eC, eCs, AS.kb, rmBs, rmB, mPs, mP, ePs, eP, bPs, bP, aA, aD, AS.kl, rD, eq_self, AS.ev, kill, look, cav, td0, td1, td2, td3, td4, td5, td6, Option.getD, List.map, List.foldr, List.append_nil, ↓reduceIte, and_self, Nat.succ_ne_zero, rdr]
    · simp only [eC, eCs, ePs, eP, eq_self, AS.ev, look, cav, td0, td1, td2, td3, td4, td5, td6, Option.getD, List.map, List.nodup_nil, List.append_nil, ↓reduceIte, rdr]
    · simp only [bPs, bP, eq_self, AS.ev, look, cav, td0, td1, td2, td3, td4, td5, td6, Option.getD, List.map, List.not_mem_nil, List.nodup_cons, List.nodup_nil, List.append_nil, ↓reduceIte, not_false_eq_true, and_self, rdr]
    simp only [mkC, eC, eCs, aftS, aftV, AS.kb, rmBs, rmB, mkO, packRA, flatR, ePs, eP, bPs, bP, AS.kl, retA, List.headD_cons, eq_self, xRun, vE, vP, isCutO, isB, bv, gN, isPick, isCall, AS.pt, AS.ev, kill, look, cav, td0, td1, td2, td3, td4, td5, td6, Option.getD, List.map, List.foldr, List.append_nil, ↓reduceIte, Nat.reduceLT, true_and, Bool.false_eq_true, reduceCtorEq, Nat.succ_ne_zero, rdr]
    refine sw_callP (c2) rfl rfl rfl rfl ?_ ?_ ?_ (sw_run 200 _ _ _ ?_)
    · simp only [rC, rCs, eC, eCs, AS.kb, rmBs, rmB, mPs, mP, ePs, eP, bPs, bP, aA, aD, AS.kl, rD, eq_self, AS.ev, kill, look, cav, td0, td1, td2, td3, td4, td5, td6, Option.getD, List.map, List.foldr, List.append_nil, ↓reduceIte, and_self, Nat.succ_ne_zero, rdr]
    · simp only [eC, eCs, ePs, eP, eq_self, AS.ev, look, cav, td0, td1, td2, td3, td4, td5, td6, Option.getD, List.map, List.nodup_nil, List.append_nil, ↓reduceIte, rdr]
    · simp only [bPs, bP, eq_self, AS.ev, look, cav, td0, td1, td2, td3, td4, td5, td6, Option.getD, List.map, List.not_mem_nil, List.nodup_cons, List.nodup_nil, List.append_nil, ↓reduceIte, not_false_eq_true, and_self, rdr]
    simp only [mkC, eC, eCs, aftS, aftV, AS.kb, rmBs, rmB, mkO, packRA, flatR, ePs, eP, bPs, bP, AS.kl, retA, List.headD_cons, eq_self, xRun, vE, vP, isCutO, isB, bv, gN, isPick, isCall, AS.pt, AS.ev, kill, look, cav, td0, td1, td2, td3, td4, td5, td6, Option.getD, List.map, List.foldr, List.append_nil, ↓reduceIte, Nat.reduceLT, true_and, Bool.false_eq_true, reduceCtorEq, Nat.succ_ne_zero, rdr]
    refine sw_callP (c3) rfl rfl rfl rfl ?_ ?_ ?_ (sw_run 200 _ _ _ ?_)
    · simp only [rC, rCs, eC, eCs, AS.kb, rmBs, rmB, mPs, mP, ePs, eP, bPs, bP, aA, aD, AS.kl, rD, eq_self, AS.ev, kill, look, cav, td0, td1, td2, td3, td4, td5, td6, Option.getD, List.map, List.foldr, List.append_nil, ↓reduceIte, and_self, Nat.succ_ne_zero, rdr]
    · simp only [eC, eCs, ePs, eP, eq_self, AS.ev, look, cav, td0, td1, td2, td3, td4, td5, td6, Option.getD, List.map, List.nodup_nil, List.append_nil, ↓reduceIte, rdr]
    · simp only [bPs, bP, eq_self, AS.ev, look, cav, td0, td1, td2, td3, td4, td5, td6, Option.getD, List.map, List.not_mem_nil, List.nodup_cons, List.nodup_nil, List.append_nil, ↓reduceIte, not_false_eq_true, and_self, rdr]
    simp only [mkC, eC, eCs, aftS, aftV, AS.kb, rmBs, rmB, mkO, packRA, flatR, ePs, eP, bPs, bP, AS.kl, retA, List.headD_cons, eq_self, xRun, vE, vP, isCutO, isB, bv, gN, isPick, isCall, AS.pt, AS.ev, kill, look, cav, td0, td1, td2, td3, td4, td5, td6, Option.getD, List.map, List.foldr, List.append_nil, ↓reduceIte, Nat.reduceLT, true_and, Bool.false_eq_true, reduceCtorEq, Nat.succ_ne_zero, rdr]
    refine sw_callP (c4) rfl rfl rfl rfl ?_ ?_ ?_ (sw_run 200 _ _ _ ?_)
    · simp only [rC, rCs, eC, eCs, AS.kb, rmBs, rmB, mPs, mP, ePs, eP, bPs, bP, aA, aD, AS.kl, rD, eq_self, AS.ev, kill, look, cav, td0, td1, td2, td3, td4, td5, td6, Option.getD, List.map, List.foldr, List.append_nil, ↓reduceIte, and_self, Nat.succ_ne_zero, rdr]
    · simp only [eC, eCs, ePs, eP, eq_self, AS.ev, look, cav, td0, td1, td2, td3, td4, td5, td6, Option.getD, List.map, List.nodup_nil, List.append_nil, ↓reduceIte, rdr]
    · simp only [bPs, bP, eq_self, AS.ev, look, cav, td0, td1, td2, td3, td4, td5, td6, Option.getD, List.map, List.not_mem_nil, List.nodup_cons, List.nodup_nil, List.append_nil, ↓reduceIte, not_false_eq_true, and_self, rdr]
    simp only [mkC, eC, eCs, aftS, aftV, AS.kb, rmBs, rmB, mkO, packRA, flatR, ePs, eP, bPs, bP, AS.kl, retA, eq_self, xRun, vE, vP, vSub, vLoad, vFld, vBin, vBinT, isAg, isBo, isCutO, isB, bv, gN, isPick, isCall, AS.pt, AS.ev, kill, look, cav, td0, td1, td2, td3, td4, td5, td6, Option.getD, Option.isSome, List.map, List.getElem?_cons_zero, List.getElem?_cons_succ, List.foldr, List.append_nil, ↓reduceIte, Nat.reduceLT, Nat.reduceEqDiff, Nat.zero_add, ne_eq, not_false_eq_true, true_and, Bool.not_true, Bool.false_eq_true, reduceCtorEq, Nat.succ_ne_zero, rdr, hs, hin]
    refine sw_callP (ra) rfl rfl rfl rfl ?_ ?_ ?_ (sw_run 200 _ _ _ ?_)
    · simp only [rC, rCs, eC, eCs, AS.kb, rmBs, rmB, mPs, mP, ePs, eP, bPs, bP, aA, aD, AS.kl, rD, eq_self, AS.ev, kill, look, td0, td1, td2, td3, td4, td5, td6, Option.getD, List.map, List.foldr, List.append_nil, ↓reduceIte, Nat.reduceEqDiff, and_self, Nat.succ_ne_zero, rdr]
    · simp only [eC, eCs, ePs, eP, eq_self, AS.ev, look, td0, td1, td2, td3, td4, td5, td6, Option.getD, List.map, List.nodup_nil, List.append_nil, ↓reduceIte, Nat.reduceEqDiff, rdr]
    · simp only [bPs, bP, eq_self, AS.ev, look, td0, td1, td2, td3, td4, td5, td6, Option.getD, List.map, List.not_mem_nil, List.nodup_cons, List.nodup_nil, List.append_nil, ↓reduceIte, Nat.reduceEqDiff, not_false_eq_true, and_self, rdr]
    simp only [mkC, eC, eCs, aftS, aftV, AS.kb, rmBs, rmB, mkO, packRA, flatR, ePs, eP, bPs, bP, AS.kl, retA, eq_self, xRun, vE, vP, vStore, isCutO, gN, isPick, isCall, AS.pt, AS.ev, AS.box, AS.setb, AS.mk', kill, look, setRowG, AV.cells, AV.whole, AV.one, td0, td1, td2, td3, td4, td5, td6, Option.getD, Option.isSome, List.map, List.take, List.length, List.set, List.foldr, List.all, List.append_nil, ↓reduceIte, Nat.reduceLT, Nat.reduceAdd, Nat.reduceEqDiff, Nat.zero_add, true_and, Bool.and_true, Bool.false_eq_true, reduceCtorEq, and_self, Nat.succ_ne_zero, Nat.le_refl, rdr, tyR]
    refine sw_callP (c5) rfl rfl rfl rfl ?_ ?_ ?_ (sw_run 200 _ _ _ ?_)
    · simp only [rC, rCs, eC, eCs, AS.kb, rmBs, rmB, mPs, mP, ePs, eP, bPs, bP, aA, aD, AS.kl, rD, eq_self, AS.ev, kill, look, cav, td0, td1, td2, td3, td4, td5, td6, Option.getD, List.map, List.foldr, List.append_nil, ↓reduceIte, reduceCtorEq, and_self, Nat.succ_ne_zero, rdr]
    · simp only [eC, eCs, ePs, eP, eq_self, AS.ev, look, cav, td0, td1, td2, td3, td4, td5, td6, Option.getD, List.map, List.nodup_nil, List.append_nil, ↓reduceIte, reduceCtorEq, rdr]
    · simp only [bPs, bP, eq_self, AS.ev, look, cav, td0, td1, td2, td3, td4, td5, td6, Option.getD, List.map, List.not_mem_nil, List.nodup_cons, List.nodup_nil, List.append_nil, ↓reduceIte, not_false_eq_true, and_self, rdr]
    simp only [mkC, eC, eCs, aftS, aftV, AS.kb, rmBs, rmB, mkO, packRA, flatR, ePs, eP, bPs, bP, AS.kl, retA, eq_self, xRun, vE, vP, vSub, vLoad, vFld, vBin, vBinT, isAg, isBo, isCutO, isB, bv, gN, isPick, isCall, AS.pt, AS.ev, kill, look, cav, td0, td1, td2, td3, td4, td5, td6, Option.getD, Option.isSome, List.map, List.getElem?_cons_zero, List.getElem?_cons_succ, List.foldr, List.append_nil, ↓reduceIte, Nat.reduceLT, Nat.reduceEqDiff, Nat.zero_add, ne_eq, not_false_eq_true, true_and, Bool.not_true, Bool.false_eq_true, reduceCtorEq, Nat.succ_ne_zero, rdr, hs, hin]
    refine sw_callP (rb) rfl rfl rfl rfl ?_ ?_ ?_ (sw_run 200 _ _ _ ?_)
    · simp only [rC, rCs, eC, eCs, AS.kb, rmBs, rmB, mPs, mP, ePs, eP, bPs, bP, aA, aD, AS.kl, rD, eq_self, AS.ev, kill, look, td0, td1, td2, td3, td4, td5, td6, Option.getD, List.map, List.foldr, List.append_nil, ↓reduceIte, Nat.reduceEqDiff, and_self, Nat.succ_ne_zero, rdr]
    · simp only [eC, eCs, ePs, eP, eq_self, AS.ev, look, td0, td1, td2, td3, td4, td5, td6, Option.getD, List.map, List.nodup_nil, List.append_nil, ↓reduceIte, Nat.reduceEqDiff, rdr]
    · simp only [bPs, bP, eq_self, AS.ev, look, td0, td1, td2, td3, td4, td5, td6, Option.getD, List.map, List.not_mem_nil, List.nodup_cons, List.nodup_nil, List.append_nil, ↓reduceIte, Nat.reduceEqDiff, not_false_eq_true, and_self, rdr]
    simp only [mkC, eC, eCs, aftS, aftV, AS.kb, rmBs, rmB, mkO, packRA, flatR, ePs, eP, bPs, bP, AS.kl, retA, eq_self, xRun, vE, vP, vStore, isCutO, gN, isPick, isCall, AS.pt, AS.ev, AS.box, AS.setb, AS.mk', kill, look, setRowG, AV.cells, AV.whole, AV.one, td0, td1, td2, td3, td4, td5, td6, Option.getD, Option.isSome, List.map, List.take, List.length, List.set, List.foldr, List.all, List.append_nil, ↓reduceIte, Nat.reduceLT, Nat.reduceAdd, Nat.reduceEqDiff, Nat.zero_add, true_and, Bool.and_true, Bool.false_eq_true, reduceCtorEq, and_self, Nat.succ_ne_zero, Nat.le_refl, rdr, tyR]
    refine sw_callP (c6) rfl rfl rfl rfl ?_ ?_ ?_ (sw_run 200 _ _ _ ?_)
    · simp only [rC, rCs, eC, eCs, AS.kb, rmBs, rmB, mPs, mP, ePs, eP, bPs, bP, aA, aD, AS.kl, rD, eq_self, AS.ev, kill, look, cav, td0, td1, td2, td3, td4, td5, td6, Option.getD, List.map, List.foldr, List.append_nil, ↓reduceIte, reduceCtorEq, and_self, Nat.succ_ne_zero, rdr]
    · simp only [eC, eCs, ePs, eP, eq_self, AS.ev, look, cav, td0, td1, td2, td3, td4, td5, td6, Option.getD, List.map, List.nodup_nil, List.append_nil, ↓reduceIte, reduceCtorEq, rdr]
    · simp only [bPs, bP, eq_self, AS.ev, look, cav, td0, td1, td2, td3, td4, td5, td6, Option.getD, List.map, List.not_mem_nil, List.nodup_cons, List.nodup_nil, List.append_nil, ↓reduceIte, not_false_eq_true, and_self, rdr]
    simp only [mkC, fQP, xRetP, rRs, rOs, rC, rCs, eRs, eOs, eC, eCs, aftS, aftV, AS.kb, rmBs, rmB, mkO, packRA, flatR, ePs, eP, bPs, bP, AS.kl, retA, tysD, xRes, rD, eq_self, xRun, vE, vP, vSub, vLoad, vBuild, vRow, vStore, isCutO, xFill, gN, isPick, isCall, AS.pt, AS.ev, AS.setb, AS.mk', AS.owf, kill, look, cav, setRowG, AV.cells, AV.whole, AV.one, cD, cDs, eatsOf, dpOf, td0, td1, td2, td3, td4, td5, td6, Option.bind, Option.getD, Option.map, Option.isSome, List.map, List.take, List.drop, List.length, List.getElem?_cons_zero, List.getElem?_cons_succ, List.set, List.foldr, List.all, List.replicate, List.mem_cons, List.not_mem_nil, List.nodup_cons, List.nodup_nil, List.nil_append, List.cons_append, List.append_nil, ↓reduceIte, Nat.reduceLT, Nat.reduceAdd, Nat.reduceMul, Nat.reduceLeDiff, Nat.reduceEqDiff, Nat.zero_add, Nat.zero_mul, Nat.one_mul, not_false_eq_true, or_false, or_true, Bool.and_true, Bool.not_false, Bool.false_eq_true, id_eq, reduceCtorEq, and_self, Nat.succ_ne_zero, Nat.le_refl, rdr, tyF_k, tyF_a, tysC, tyC_eq, tysD, List.length_cons, Try.results97]
  case true =>
    rw [if_pos rfl]
    have c6 := con_must 41 s Ba hl lb
    rw [h6, if_pos rfl] at c6
    refine con_runP Try.func97 rfl rfl (by simp [Try.ntmps97]) rfl ?_
    simp only [s0P, mkPs, mkPA, mkC, argA, numT, eq_self, xRun, vE, vP, vSub, vLoad, vFld, vBin, vBinT, isAg, isBo, vStore, isCutO, isB, bv, gT, gW, gN, gV, isU, isPick, pkC, pkB, isCall, AS.pt, AS.kn, AS.ev, AS.box, AS.setb, look, cav, avB, setRowG, AV.cells, AV.whole, AV.one, td0, td1, td2, td3, td4, td5, td6, Option.bind, Option.getD, Option.isSome, List.length, List.getElem?_cons_zero, List.getElem?_cons_succ, List.set, List.nil_append, ↓reduceIte, Nat.reduceLT, Nat.reduceAdd, Nat.reduceEqDiff, Nat.zero_add, ne_eq, not_false_eq_true, true_and, Bool.false_eq_true, reduceCtorEq, decide_false, and_self, Nat.succ_ne_zero, Nat.le_refl, rdr, tyR, hn, Try.ntmps97]
    refine sw_callP (c1) rfl rfl rfl rfl ?_ ?_ ?_ (sw_run 200 _ _ _ ?_)
    · simp only [rC, rCs, eC, eCs, AS.kb, rmBs, rmB, mPs, mP, ePs, eP, bPs, bP, aA, aD, AS.kl, rD, eq_self, AS.ev, kill, look, cav, td0, td1, td2, td3, td4, td5, td6, Option.getD, List.map, List.foldr, List.append_nil, ↓reduceIte, and_self, Nat.succ_ne_zero, rdr]
    · simp only [eC, eCs, ePs, eP, eq_self, AS.ev, look, cav, td0, td1, td2, td3, td4, td5, td6, Option.getD, List.map, List.nodup_nil, List.append_nil, ↓reduceIte, rdr]
    · simp only [bPs, bP, eq_self, AS.ev, look, cav, td0, td1, td2, td3, td4, td5, td6, Option.getD, List.map, List.not_mem_nil, List.nodup_cons, List.nodup_nil, List.append_nil, ↓reduceIte, not_false_eq_true, and_self, rdr]
    simp only [mkC, eC, eCs, aftS, aftV, AS.kb, rmBs, rmB, mkO, packRA, flatR, ePs, eP, bPs, bP, AS.kl, retA, List.headD_cons, eq_self, xRun, vE, vP, isCutO, isB, bv, gN, isPick, isCall, AS.pt, AS.ev, kill, look, cav, td0, td1, td2, td3, td4, td5, td6, Option.getD, List.map, List.foldr, List.append_nil, ↓reduceIte, Nat.reduceLT, true_and, Bool.false_eq_true, reduceCtorEq, Nat.succ_ne_zero, rdr]
    refine sw_callP (c2) rfl rfl rfl rfl ?_ ?_ ?_ (sw_run 200 _ _ _ ?_)
    · simp only [rC, rCs, eC, eCs, AS.kb, rmBs, rmB, mPs, mP, ePs, eP, bPs, bP, aA, aD, AS.kl, rD, eq_self, AS.ev, kill, look, cav, td0, td1, td2, td3, td4, td5, td6, Option.getD, List.map, List.foldr, List.append_nil, ↓reduceIte, and_self, Nat.succ_ne_zero, rdr]
    · simp only [eC, eCs, ePs, eP, eq_self, AS.ev, look, cav, td0, td1, td2, td3, td4, td5, td6, Option.getD, List.map, List.nodup_nil, List.append_nil, ↓reduceIte, rdr]
    · simp only [bPs, bP, eq_self, AS.ev, look, cav, td0, td1, td2, td3, td4, td5, td6, Option.getD, List.map, List.not_mem_nil, List.nodup_cons, List.nodup_nil, List.append_nil, ↓reduceIte, not_false_eq_true, and_self, rdr]
    simp only [mkC, eC, eCs, aftS, aftV, AS.kb, rmBs, rmB, mkO, packRA, flatR, ePs, eP, bPs, bP, AS.kl, retA, List.headD_cons, eq_self, xRun, vE, vP, isCutO, isB, bv, gN, isPick, isCall, AS.pt, AS.ev, kill, look, cav, td0, td1, td2, td3, td4, td5, td6, Option.getD, List.map, List.foldr, List.append_nil, ↓reduceIte, Nat.reduceLT, true_and, Bool.false_eq_true, reduceCtorEq, Nat.succ_ne_zero, rdr]
    refine sw_callP (c3) rfl rfl rfl rfl ?_ ?_ ?_ (sw_run 200 _ _ _ ?_)
    · simp only [rC, rCs, eC, eCs, AS.kb, rmBs, rmB, mPs, mP, ePs, eP, bPs, bP, aA, aD, AS.kl, rD, eq_self, AS.ev, kill, look, cav, td0, td1, td2, td3, td4, td5, td6, Option.getD, List.map, List.foldr, List.append_nil, ↓reduceIte, and_self, Nat.succ_ne_zero, rdr]
    · simp only [eC, eCs, ePs, eP, eq_self, AS.ev, look, cav, td0, td1, td2, td3, td4, td5, td6, Option.getD, List.map, List.nodup_nil, List.append_nil, ↓reduceIte, rdr]
    · simp only [bPs, bP, eq_self, AS.ev, look, cav, td0, td1, td2, td3, td4, td5, td6, Option.getD, List.map, List.not_mem_nil, List.nodup_cons, List.nodup_nil, List.append_nil, ↓reduceIte, not_false_eq_true, and_self, rdr]
    simp only [mkC, eC, eCs, aftS, aftV, AS.kb, rmBs, rmB, mkO, packRA, flatR, ePs, eP, bPs, bP, AS.kl, retA, List.headD_cons, eq_self, xRun, vE, vP, isCutO, isB, bv, gN, isPick, isCall, AS.pt, AS.ev, kill, look, cav, td0, td1, td2, td3, td4, td5, td6, Option.getD, List.map, List.foldr, List.append_nil, ↓reduceIte, Nat.reduceLT, true_and, Bool.false_eq_true, reduceCtorEq, Nat.succ_ne_zero, rdr]
    refine sw_callP (c4) rfl rfl rfl rfl ?_ ?_ ?_ (sw_run 200 _ _ _ ?_)
    · simp only [rC, rCs, eC, eCs, AS.kb, rmBs, rmB, mPs, mP, ePs, eP, bPs, bP, aA, aD, AS.kl, rD, eq_self, AS.ev, kill, look, cav, td0, td1, td2, td3, td4, td5, td6, Option.getD, List.map, List.foldr, List.append_nil, ↓reduceIte, and_self, Nat.succ_ne_zero, rdr]
    · simp only [eC, eCs, ePs, eP, eq_self, AS.ev, look, cav, td0, td1, td2, td3, td4, td5, td6, Option.getD, List.map, List.nodup_nil, List.append_nil, ↓reduceIte, rdr]
    · simp only [bPs, bP, eq_self, AS.ev, look, cav, td0, td1, td2, td3, td4, td5, td6, Option.getD, List.map, List.not_mem_nil, List.nodup_cons, List.nodup_nil, List.append_nil, ↓reduceIte, not_false_eq_true, and_self, rdr]
    simp only [mkC, eC, eCs, aftS, aftV, AS.kb, rmBs, rmB, mkO, packRA, flatR, ePs, eP, bPs, bP, AS.kl, retA, eq_self, xRun, vE, vP, vSub, vLoad, vFld, vBin, vBinT, isAg, isBo, isCutO, isB, bv, gN, isPick, isCall, AS.pt, AS.ev, kill, look, cav, td0, td1, td2, td3, td4, td5, td6, Option.getD, Option.isSome, List.map, List.getElem?_cons_zero, List.getElem?_cons_succ, List.foldr, List.append_nil, ↓reduceIte, Nat.reduceLT, Nat.reduceEqDiff, Nat.zero_add, ne_eq, not_false_eq_true, true_and, Bool.not_true, Bool.false_eq_true, reduceCtorEq, Nat.succ_ne_zero, rdr, hs, hin]
    refine sw_callP (ra) rfl rfl rfl rfl ?_ ?_ ?_ (sw_run 200 _ _ _ ?_)
    · simp only [rC, rCs, eC, eCs, AS.kb, rmBs, rmB, mPs, mP, ePs, eP, bPs, bP, aA, aD, AS.kl, rD, eq_self, AS.ev, kill, look, td0, td1, td2, td3, td4, td5, td6, Option.getD, List.map, List.foldr, List.append_nil, ↓reduceIte, Nat.reduceEqDiff, and_self, Nat.succ_ne_zero, rdr]
    · simp only [eC, eCs, ePs, eP, eq_self, AS.ev, look, td0, td1, td2, td3, td4, td5, td6, Option.getD, List.map, List.nodup_nil, List.append_nil, ↓reduceIte, Nat.reduceEqDiff, rdr]
    · simp only [bPs, bP, eq_self, AS.ev, look, td0, td1, td2, td3, td4, td5, td6, Option.getD, List.map, List.not_mem_nil, List.nodup_cons, List.nodup_nil, List.append_nil, ↓reduceIte, Nat.reduceEqDiff, not_false_eq_true, and_self, rdr]
    simp only [mkC, eC, eCs, aftS, aftV, AS.kb, rmBs, rmB, mkO, packRA, flatR, ePs, eP, bPs, bP, AS.kl, retA, eq_self, xRun, vE, vP, vStore, isCutO, gN, isPick, isCall, AS.pt, AS.ev, AS.box, AS.setb, AS.mk', kill, look, setRowG, AV.cells, AV.whole, AV.one, td0, td1, td2, td3, td4, td5, td6, Option.getD, Option.isSome, List.map, List.take, List.length, List.set, List.foldr, List.all, List.append_nil, ↓reduceIte, Nat.reduceLT, Nat.reduceAdd, Nat.reduceEqDiff, Nat.zero_add, true_and, Bool.and_true, Bool.false_eq_true, reduceCtorEq, and_self, Nat.succ_ne_zero, Nat.le_refl, rdr, tyR]
    refine sw_callP (c5) rfl rfl rfl rfl ?_ ?_ ?_ (sw_run 200 _ _ _ ?_)
    · simp only [rC, rCs, eC, eCs, AS.kb, rmBs, rmB, mPs, mP, ePs, eP, bPs, bP, aA, aD, AS.kl, rD, eq_self, AS.ev, kill, look, cav, td0, td1, td2, td3, td4, td5, td6, Option.getD, List.map, List.foldr, List.append_nil, ↓reduceIte, reduceCtorEq, and_self, Nat.succ_ne_zero, rdr]
    · simp only [eC, eCs, ePs, eP, eq_self, AS.ev, look, cav, td0, td1, td2, td3, td4, td5, td6, Option.getD, List.map, List.nodup_nil, List.append_nil, ↓reduceIte, reduceCtorEq, rdr]
    · simp only [bPs, bP, eq_self, AS.ev, look, cav, td0, td1, td2, td3, td4, td5, td6, Option.getD, List.map, List.not_mem_nil, List.nodup_cons, List.nodup_nil, List.append_nil, ↓reduceIte, not_false_eq_true, and_self, rdr]
    simp only [mkC, eC, eCs, aftS, aftV, AS.kb, rmBs, rmB, mkO, packRA, flatR, ePs, eP, bPs, bP, AS.kl, retA, eq_self, xRun, vE, vP, vSub, vLoad, vFld, vBin, vBinT, isAg, isBo, isCutO, isB, bv, gN, isPick, isCall, AS.pt, AS.ev, kill, look, cav, td0, td1, td2, td3, td4, td5, td6, Option.getD, Option.isSome, List.map, List.getElem?_cons_zero, List.getElem?_cons_succ, List.foldr, List.append_nil, ↓reduceIte, Nat.reduceLT, Nat.reduceEqDiff, Nat.zero_add, ne_eq, not_false_eq_true, true_and, Bool.not_true, Bool.false_eq_true, reduceCtorEq, Nat.succ_ne_zero, rdr, hs, hin]
    refine sw_callP (rb) rfl rfl rfl rfl ?_ ?_ ?_ (sw_run 200 _ _ _ ?_)
    · simp only [rC, rCs, eC, eCs, AS.kb, rmBs, rmB, mPs, mP, ePs, eP, bPs, bP, aA, aD, AS.kl, rD, eq_self, AS.ev, kill, look, td0, td1, td2, td3, td4, td5, td6, Option.getD, List.map, List.foldr, List.append_nil, ↓reduceIte, Nat.reduceEqDiff, and_self, Nat.succ_ne_zero, rdr]
    · simp only [eC, eCs, ePs, eP, eq_self, AS.ev, look, td0, td1, td2, td3, td4, td5, td6, Option.getD, List.map, List.nodup_nil, List.append_nil, ↓reduceIte, Nat.reduceEqDiff, rdr]
    · simp only [bPs, bP, eq_self, AS.ev, look, td0, td1, td2, td3, td4, td5, td6, Option.getD, List.map, List.not_mem_nil, List.nodup_cons, List.nodup_nil, List.append_nil, ↓reduceIte, Nat.reduceEqDiff, not_false_eq_true, and_self, rdr]
    simp only [mkC, eC, eCs, aftS, aftV, AS.kb, rmBs, rmB, mkO, packRA, flatR, ePs, eP, bPs, bP, AS.kl, retA, eq_self, xRun, vE, vP, vStore, isCutO, gN, isPick, isCall, AS.pt, AS.ev, AS.box, AS.setb, AS.mk', kill, look, setRowG, AV.cells, AV.whole, AV.one, td0, td1, td2, td3, td4, td5, td6, Option.getD, Option.isSome, List.map, List.take, List.length, List.set, List.foldr, List.all, List.append_nil, ↓reduceIte, Nat.reduceLT, Nat.reduceAdd, Nat.reduceEqDiff, Nat.zero_add, true_and, Bool.and_true, Bool.false_eq_true, reduceCtorEq, and_self, Nat.succ_ne_zero, Nat.le_refl, rdr, tyR]
    refine sw_callP (c6) rfl rfl rfl rfl ?_ ?_ ?_ (sw_run 200 _ _ _ ?_)
    · simp only [rC, rCs, eC, eCs, AS.kb, rmBs, rmB, mPs, mP, ePs, eP, bPs, bP, aA, aD, AS.kl, rD, eq_self, AS.ev, kill, look, cav, td0, td1, td2, td3, td4, td5, td6, Option.getD, List.map, List.foldr, List.append_nil, ↓reduceIte, reduceCtorEq, and_self, Nat.succ_ne_zero, rdr]
    · simp only [eC, eCs, ePs, eP, eq_self, AS.ev, look, cav, td0, td1, td2, td3, td4, td5, td6, Option.getD, List.map, List.nodup_nil, List.append_nil, ↓reduceIte, reduceCtorEq, rdr]
    · simp only [bPs, bP, eq_self, AS.ev, look, cav, td0, td1, td2, td3, td4, td5, td6, Option.getD, List.map, List.not_mem_nil, List.nodup_cons, List.nodup_nil, List.append_nil, ↓reduceIte, not_false_eq_true, and_self, rdr]
    simp only [mkC, fQP, xRetP, rRs, rOs, rC, rCs, eRs, eOs, eC, eCs, aftS, aftV, AS.kb, rmBs, rmB, mkO, packRA, flatR, ePs, eP, bPs, bP, AS.kl, retA, tysD, xRes, rD, eq_self, xRun, vE, vP, vSub, vLoad, vBuild, vRow, vStore, isCutO, xFill, gN, isPick, isCall, AS.pt, AS.ev, AS.setb, AS.mk', AS.owf, kill, look, cav, setRowG, AV.cells, AV.whole, AV.one, cD, cDs, eatsOf, dpOf, td0, td1, td2, td3, td4, td5, td6, Option.bind, Option.getD, Option.map, Option.isSome, List.map, List.take, List.drop, List.length, List.getElem?_cons_zero, List.getElem?_cons_succ, List.set, List.foldr, List.all, List.replicate, List.mem_cons, List.not_mem_nil, List.nodup_cons, List.nodup_nil, List.nil_append, List.cons_append, List.append_nil, ↓reduceIte, Nat.reduceLT, Nat.reduceAdd, Nat.reduceMul, Nat.reduceLeDiff, Nat.reduceEqDiff, Nat.zero_add, Nat.zero_mul, Nat.one_mul, not_false_eq_true, or_false, or_true, Bool.and_true, Bool.not_true, Bool.false_eq_true, id_eq, reduceCtorEq, and_self, Nat.succ_ne_zero, Nat.le_refl, rdr, tyF_k, tyF_a, tysC, tyC_eq, tysD, List.length_cons, Try.results97]
theorem con_l4Type (s : List UInt8) (hl : s.length ≤ 1000000000000) : ∀ (d i : Nat), d ≤ 8 → i ≤ s.length → ConP Try.prog 97 [.p (rdr s i false), .b (.one (.int (9 - (d : Int))))] [rdr s (rdS s d i).at_ (rdS s d i).bad] [tyR (rdS s d i).t]
  | 0, i, hd, hi => by
    refine con_runP Try.func97 rfl rfl (by simp [Try.ntmps97]) rfl ?_
    simp only [s0P, mkPs, mkPA, mkC, fQP, xRetP, rRs, rOs, rC, rCs, eRs, eOs, eC, eCs, argA, numT, xRes, rD, eq_self, xRun, vE, vP, vSub, vLoad, vFld, vBin, vBinT, isAg, isBo, vBuild, vStore, isCutO, xFill, isB, bv, gT, gW, gN, gV, isU, isPick, pkC, pkB, isCall, AS.pt, AS.kn, AS.ev, AS.box, AS.setb, look, cav, avB, setRowG, AV.cells, AV.whole, AV.one, td0, td1, td2, td3, td4, td5, td6, Option.bind, Option.getD, Option.isSome, List.map, List.length, List.getElem?_cons_zero, List.getElem?_cons_succ, List.set, List.all, List.not_mem_nil, List.nodup_cons, List.nodup_nil, List.nil_append, List.append_nil, ↓reduceIte, Nat.reduceLT, Nat.reduceAdd, Nat.reduceEqDiff, Nat.zero_add, ne_eq, not_false_eq_true, or_false, Bool.and_true, Bool.false_eq_true, reduceCtorEq, Int.reduceLT, Int.reduceSub, Int.natCast_zero, decide_true, and_self, Nat.succ_ne_zero, Nat.le_refl, rdr, rdS, tyR, ty0, tyk, tya, tysC, List.length_nil, Int.natCast_zero, Try.ntmps97, Try.results97]
  | d + 1, i, hd, hi => by
    have ih := fun j hj => con_l4Type s hl d j (by omega) hj
    rcases h1 : tk s 73 i with _ | _
    case true => exact l4_I s hl d i hd hi h1
    rcases h2 : tk s 66 i with _ | _
    case true => exact l4_B s hl d i hd hi h1 h2
    rcases h3 : tk s 60 i with _ | _
    case true => exact l4_G s hl d i hd hi ih h1 h2 h3
    rcases h4 : tk s 40 i with _ | _
    case false => exact l4_N s hl d i hd hi h1 h2 h3 h4
    rcases hb : (rdS s d (i + 1)).bad with _ | _
    case true => exact l4_F1 s hl d i hd hi ih h1 h2 h3 h4 hb
    rcases h5 : tk s 62 (rdS s d (i + 1)).at_ with _ | _
    · exact l4_F2 s hl d i hd hi ih h1 h2 h3 h4 hb h5
    · exact l4_F3 s hl d i hd hi ih h1 h2 h3 h4 hb h5
theorem rdS_sz (s : List UInt8) : ∀ d i, szL (tyC (rdS s d i).t) ≤ 4 ^ d
  | 0, i => by unfold rdS; simp [sz_ty0]
  | d + 1, i => by
    have hp : 1 ≤ 4 ^ d := Nat.one_le_pow _ _ (by omega)
    have hI : szL (tyC tyI) = 0 := rfl
    have hB : szL (tyC tyB) = 0 := rfl
    have e4 : 4 ^ (d + 1) = 4 * 4 ^ d := by rw [Nat.pow_succ]; omega
    rw [e4]
    have h1 := rdS_sz s d (i + 1)
    have h2 := rdS_sz s d ((rdS s d (i + 1)).at_ + 1)
    unfold rdS
    repeat' split
    all_goals (try simp only []); (repeat' split)
    all_goals (simp only [hI, hB, sz_ty0, tyF_sz, tyG_sz]; try omega)
theorem con_PtS (l : List UInt8) (hl : l.length ≤ 1000000000000) : Con Try.prog 39 [.one (.str (bs l))] [.ag (tyC (ptT l)), .one (.bool (ptB l))] := by
  have hz : szL (tyC (rdS l 8 0).t) ≤ 1000000000 := Nat.le_trans (rdS_sz l 8 0) (by decide)
  have hc := con_l4Type l hl 8 0 (Nat.le_refl _) (Nat.zero_le _)
  rw [show (9 : Int) - ((8 : Nat) : Int) = 1 from rfl] at hc
  have hf := con_FormatS (rdS l 8 0).t hz
  obtain ⟨e1, e2⟩ := ptS l
  have hT : ptB l = true → ptT l = (rdS l 8 0).t := fun h => by
    unfold ptT; rw [if_pos h]
    rw [← e1] at h
    simp only [Bool.and_eq_true, Bool.not_eq_true'] at h
    exact (e2 h.1).symm
  have hF : ptB l = false → ptT l = ty0 := fun h => by unfold ptT; rw [if_neg (by rw [h]; simp)]
  generalize ptT l = T at *
  generalize ptB l = B at *
  generalize rdS l 8 0 = A at *
  obtain ⟨At, Aa, Ab⟩ := A
  simp only at e1 hT hc hf
  cases Ab
  case true =>
    have hB : B = false := by rw [← e1]; rfl
    subst hB
    rw [hF rfl]
    refine con_run Try.func39 rfl rfl (by simp [Try.ntmps39]) ?_
    simp only [argT, argA, eq_self, xRun, vE, vP, vBuild, isCutO, xFill, gN, isPick, isCall, AS.pt, AS.ev, AS.box, look, cav, avB, setRowG, AV.cells, AV.whole, AV.one, td0, td1, td2, td3, td4, td5, td6, Option.getD, Option.isSome, List.map, List.length, List.getElem?_cons_zero, List.set, List.all, ↓reduceIte, Nat.reduceLT, Nat.reduceAdd, Nat.reduceLeDiff, Nat.zero_add, true_and, Bool.and_true, Bool.false_eq_true, reduceCtorEq, and_self, Try.ntmps39]
    refine sw_callP (hc) rfl rfl rfl rfl ?_ ?_ ?_ (sw_run 200 _ _ _ ?_)
    · simp only [rC, rCs, eC, eCs, AS.kb, rmBs, rmB, mPs, mP, ePs, eP, bPs, bP, aA, aD, AS.kl, rD, eq_self, AS.ev, kill, look, cav, td0, td1, td2, td3, td4, td5, td6, Option.getD, List.map, List.foldr, List.append_nil, ↓reduceIte, reduceCtorEq, Int.natCast_zero, and_self, rdr]
    · simp only [eC, eCs, ePs, eP, eq_self, AS.ev, look, cav, td0, td1, td2, td3, td4, td5, td6, Option.getD, List.map, List.nodup_nil, List.append_nil, ↓reduceIte, Int.natCast_zero, rdr]
    · simp only [bPs, bP, eq_self, AS.ev, look, cav, td0, td1, td2, td3, td4, td5, td6, Option.getD, List.map, List.not_mem_nil, List.nodup_cons, List.nodup_nil, List.append_nil, ↓reduceIte, not_false_eq_true, Int.natCast_zero, and_self, rdr]
    simp only [mkC, eC, eCs, aftS, aftV, AS.kb, rmBs, rmB, mkO, packRA, flatR, ePs, eP, bPs, bP, AS.kl, retA, fQ, xRet, rPs, xRes, flatA, rD, rDs, eq_self, xRun, vE, vP, vSub, vLoad, vFld, vBuild, vStore, isCutO, xFill, isB, bv, gT, gW, gN, gV, isU, isPick, pkC, pkA, isCall, AS.pt, AS.kn, AS.ev, AS.box, AS.setb, AS.mk', kill, look, cav, setRowG, AV.cells, AV.whole, AV.one, eatsOf, td0, td1, td2, td3, td4, td5, td6, Option.bind, Option.getD, Option.isSome, List.map, List.take, List.length, List.getElem?_cons_zero, List.getElem?_cons_succ, List.set, List.foldr, List.all, List.nodup_nil, List.nil_append, List.cons_append, List.append_nil, ↓reduceIte, Nat.reduceLT, Nat.reduceAdd, Nat.reduceEqDiff, Nat.zero_add, ne_eq, not_false_eq_true, or_false, Bool.and_true, Bool.not_false, Bool.false_eq_true, Bool.true_eq_false, reduceCtorEq, Int.natCast_zero, and_self, Nat.succ_ne_zero, Nat.le_refl, rdr, tyR, tyC, ty0, tysC, Try.results39]
  by_cases ha : Aa = l.length
  case neg =>
    have hai : ¬ (Aa : Int) = (l.length : Int) := by omega
    have hB : B = false := by rw [← e1, decide_eq_false ha]; rfl
    subst hB
    rw [hF rfl]
    refine con_run Try.func39 rfl rfl (by simp [Try.ntmps39]) ?_
    simp only [argT, argA, eq_self, xRun, vE, vP, vBuild, isCutO, xFill, gN, isPick, isCall, AS.pt, AS.ev, AS.box, look, cav, avB, setRowG, AV.cells, AV.whole, AV.one, td0, td1, td2, td3, td4, td5, td6, Option.getD, Option.isSome, List.map, List.length, List.getElem?_cons_zero, List.set, List.all, ↓reduceIte, Nat.reduceLT, Nat.reduceAdd, Nat.reduceLeDiff, Nat.zero_add, true_and, Bool.and_true, Bool.false_eq_true, reduceCtorEq, and_self, Try.ntmps39]
    refine sw_callP (hc) rfl rfl rfl rfl ?_ ?_ ?_ (sw_run 200 _ _ _ ?_)
    · simp only [rC, rCs, eC, eCs, AS.kb, rmBs, rmB, mPs, mP, ePs, eP, bPs, bP, aA, aD, AS.kl, rD, eq_self, AS.ev, kill, look, cav, td0, td1, td2, td3, td4, td5, td6, Option.getD, List.map, List.foldr, List.append_nil, ↓reduceIte, reduceCtorEq, Int.natCast_zero, and_self, rdr]
    · simp only [eC, eCs, ePs, eP, eq_self, AS.ev, look, cav, td0, td1, td2, td3, td4, td5, td6, Option.getD, List.map, List.nodup_nil, List.append_nil, ↓reduceIte, Int.natCast_zero, rdr]
    · simp only [bPs, bP, eq_self, AS.ev, look, cav, td0, td1, td2, td3, td4, td5, td6, Option.getD, List.map, List.not_mem_nil, List.nodup_cons, List.nodup_nil, List.append_nil, ↓reduceIte, not_false_eq_true, Int.natCast_zero, and_self, rdr]
    simp only [mkC, eC, eCs, aftS, aftV, AS.kb, rmBs, rmB, mkO, packRA, flatR, ePs, eP, bPs, bP, AS.kl, retA, fQ, xRet, rPs, xRes, flatA, rD, rDs, eq_self, xRun, vE, vP, vSub, vLoad, vFld, vBin, vBinT, isAg, isBo, vLen, vBuild, vStore, isCutO, xFill, isB, bv, gT, gW, gN, gV, isU, isPick, pkC, pkA, pkB, isCall, AS.pt, AS.kn, AS.ev, AS.box, AS.setb, AS.mk', kill, look, cav, setRowG, AV.cells, AV.whole, AV.one, eatsOf, td0, td1, td2, td3, td4, td5, td6, Option.bind, Option.getD, Option.isSome, List.map, List.take, List.length, List.getElem?_cons_zero, List.getElem?_cons_succ, List.set, List.foldr, List.all, List.nodup_nil, List.nil_append, List.cons_append, List.append_nil, ↓reduceIte, Nat.reduceLT, Nat.reduceAdd, Nat.reduceEqDiff, Nat.zero_add, ne_eq, not_false_eq_true, or_false, Bool.and_true, Bool.not_false, Bool.false_eq_true, Bool.true_eq_false, reduceCtorEq, Int.natCast_zero, decide_true, and_self, Nat.succ_ne_zero, Nat.le_refl, rdr, tyR, tyC, ty0, tysC, bs_size, hai, Try.results39]
  subst ha
  by_cases ht : fmT At = l
  case neg =>
    have htb : ¬ bs (fmT At) = bs l := fun e => ht (bs_inj e)
    have hB : B = false := by rw [← e1, decide_eq_false ht]; simp
    subst hB
    rw [hF rfl]
    refine con_run Try.func39 rfl rfl (by simp [Try.ntmps39]) ?_
    simp only [argT, argA, eq_self, xRun, vE, vP, vBuild, isCutO, xFill, gN, isPick, isCall, AS.pt, AS.ev, AS.box, look, cav, avB, setRowG, AV.cells, AV.whole, AV.one, td0, td1, td2, td3, td4, td5, td6, Option.getD, Option.isSome, List.map, List.length, List.getElem?_cons_zero, List.set, List.all, ↓reduceIte, Nat.reduceLT, Nat.reduceAdd, Nat.reduceLeDiff, Nat.zero_add, true_and, Bool.and_true, Bool.false_eq_true, reduceCtorEq, and_self, Try.ntmps39]
    refine sw_callP (hc) rfl rfl rfl rfl ?_ ?_ ?_ (sw_run 200 _ _ _ ?_)
    · simp only [rC, rCs, eC, eCs, AS.kb, rmBs, rmB, mPs, mP, ePs, eP, bPs, bP, aA, aD, AS.kl, rD, eq_self, AS.ev, kill, look, cav, td0, td1, td2, td3, td4, td5, td6, Option.getD, List.map, List.foldr, List.append_nil, ↓reduceIte, reduceCtorEq, Int.natCast_zero, and_self, rdr]
    · simp only [eC, eCs, ePs, eP, eq_self, AS.ev, look, cav, td0, td1, td2, td3, td4, td5, td6, Option.getD, List.map, List.nodup_nil, List.append_nil, ↓reduceIte, Int.natCast_zero, rdr]
    · simp only [bPs, bP, eq_self, AS.ev, look, cav, td0, td1, td2, td3, td4, td5, td6, Option.getD, List.map, List.not_mem_nil, List.nodup_cons, List.nodup_nil, List.append_nil, ↓reduceIte, not_false_eq_true, Int.natCast_zero, and_self, rdr]
    simp only [mkC, eC, eCs, aftS, aftV, AS.kb, rmBs, rmB, mkO, packRA, flatR, ePs, eP, bPs, bP, AS.kl, retA, eq_self, xRun, vE, vP, vSub, vLoad, vFld, vBin, vBinT, isAg, isBo, vLen, vStore, isCutO, isB, bv, gT, gW, gN, gV, isU, isPick, pkC, pkB, isCall, AS.pt, AS.kn, AS.ev, AS.box, AS.setb, AS.mk', kill, look, cav, setRowG, AV.cells, AV.whole, AV.one, td0, td1, td2, td3, td4, td5, td6, Option.bind, Option.getD, Option.isSome, List.map, List.take, List.drop, List.length, List.getElem?_cons_zero, List.getElem?_cons_succ, List.set, List.foldr, List.all, List.append_nil, ↓reduceIte, Nat.reduceLT, Nat.reduceAdd, Nat.reduceEqDiff, Nat.zero_add, ne_eq, not_false_eq_true, not_true_eq_false, true_and, Bool.and_true, Bool.false_eq_true, reduceCtorEq, Int.natCast_zero, decide_false, and_self, Nat.succ_ne_zero, Nat.le_refl, rdr, tyR, bs_size]
    refine sw_call (hf) rfl (aAs_ok ?_) ?_ (sw_run 200 _ _ _ ?_)
    · simp only [aAs, aA, aDs, aD, tysD, AS.ev, AS.owf, look, Option.bind, Option.getD, id_eq, List.map, List.append_nil, ↓reduceIte, Nat.reduceEqDiff, eq_self, and_self, tyC_eq, tysD]
    · simp only [okR]
    simp only [mkR, flatD, packA, retA, List.headD_cons, fQ, xRet, rPs, xRes, flatA, rD, rDs, eq_self, xRun, vE, vP, vBin, vBinT, isAg, isBo, vBuild, vStore, isCutO, xFill, isB, bv, gT, gW, gN, gV, isU, isPick, pkC, pkB, isCall, AS.pt, AS.kn, AS.ev, AS.setb, look, cav, setRowG, AV.cells, AV.whole, AV.one, eatsOf, td0, td1, td2, td3, td4, td5, td6, Option.bind, Option.getD, Option.isSome, List.map, List.length, List.getElem?_cons_zero, List.getElem?_cons_succ, List.set, List.all, List.nodup_nil, List.nil_append, List.cons_append, ↓reduceIte, Nat.reduceLT, Nat.reduceAdd, Nat.reduceEqDiff, Nat.zero_add, ne_eq, not_false_eq_true, or_false, Bool.and_true, Bool.false_eq_true, reduceCtorEq, decide_true, and_self, Nat.le_refl, tyC, ty0, tysC, htb, Try.results39]
  have hB : B = true := by rw [← e1, decide_eq_true ht]; simp
  subst hB
  rw [hT rfl]
  rw [ht] at hf
  refine con_run Try.func39 rfl rfl (by simp [Try.ntmps39]) ?_
  simp only [argT, argA, eq_self, xRun, vE, vP, vBuild, isCutO, xFill, gN, isPick, isCall, AS.pt, AS.ev, AS.box, look, cav, avB, setRowG, AV.cells, AV.whole, AV.one, td0, td1, td2, td3, td4, td5, td6, Option.getD, Option.isSome, List.map, List.length, List.getElem?_cons_zero, List.set, List.all, ↓reduceIte, Nat.reduceLT, Nat.reduceAdd, Nat.reduceLeDiff, Nat.zero_add, true_and, Bool.and_true, Bool.false_eq_true, reduceCtorEq, and_self, Try.ntmps39]
  refine sw_callP (hc) rfl rfl rfl rfl ?_ ?_ ?_ (sw_run 200 _ _ _ ?_)
  · simp only [rC, rCs, eC, eCs, AS.kb, rmBs, rmB, mPs, mP, ePs, eP, bPs, bP, aA, aD, AS.kl, rD, eq_self, AS.ev, kill, look, cav, td0, td1, td2, td3, td4, td5, td6, Option.getD, List.map, List.foldr, List.append_nil, ↓reduceIte, reduceCtorEq, Int.natCast_zero, and_self, rdr]
  · simp only [eC, eCs, ePs, eP, eq_self, AS.ev, look, cav, td0, td1, td2, td3, td4, td5, td6, Option.getD, List.map, List.nodup_nil, List.append_nil, ↓reduceIte, Int.natCast_zero, rdr]
  · simp only [bPs, bP, eq_self, AS.ev, look, cav, td0, td1, td2, td3, td4, td5, td6, Option.getD, List.map, List.not_mem_nil, List.nodup_cons, List.nodup_nil, List.append_nil, ↓reduceIte, not_false_eq_true, Int.natCast_zero, and_self, rdr]
  simp only [mkC, eC, eCs, aftS, aftV, AS.kb, rmBs, rmB, mkO, packRA, flatR, ePs, eP, bPs, bP, AS.kl, retA, eq_self, xRun, vE, vP, vSub, vLoad, vFld, vBin, vBinT, isAg, isBo, vLen, vStore, isCutO, isB, bv, gT, gW, gN, gV, isU, isPick, pkC, pkB, isCall, AS.pt, AS.kn, AS.ev, AS.box, AS.setb, AS.mk', kill, look, cav, setRowG, AV.cells, AV.whole, AV.one, td0, td1, td2, td3, td4, td5, td6, Option.bind, Option.getD, Option.isSome, List.map, List.take, List.drop, List.length, List.getElem?_cons_zero, List.getElem?_cons_succ, List.set, List.foldr, List.all, List.append_nil, ↓reduceIte, Nat.reduceLT, Nat.reduceAdd, Nat.reduceEqDiff, Nat.zero_add, ne_eq, not_false_eq_true, not_true_eq_false, true_and, Bool.and_true, Bool.false_eq_true, reduceCtorEq, Int.natCast_zero, decide_false, and_self, Nat.succ_ne_zero, Nat.le_refl, rdr, tyR, bs_size]
  refine sw_call (hf) rfl (aAs_ok ?_) ?_ (sw_run 200 _ _ _ ?_)
  · simp only [aAs, aA, aDs, aD, tysD, AS.ev, AS.owf, look, Option.bind, Option.getD, id_eq, List.map, List.append_nil, ↓reduceIte, Nat.reduceEqDiff, eq_self, and_self, tyC_eq, tysD]
  · simp only [okR]
  simp only [mkR, flatD, packA, retA, List.headD_cons, fQ, tysD, xRet, rPs, xRes, flatA, rD, rDs, eq_self, xRun, vE, vP, vSub, vLoad, vBin, vBinT, isAg, isBo, vStore, isCutO, isB, bv, gT, gW, gN, gV, isU, isPick, pkC, pkB, isCall, AS.pt, AS.kn, AS.ev, AS.setb, AS.owf, look, cav, setRowG, AV.cells, AV.whole, AV.one, eatsOf, td0, td1, td2, td3, td4, td5, td6, Option.bind, Option.getD, Option.isSome, List.map, List.take, List.drop, List.length, List.getElem?_cons_zero, List.getElem?_cons_succ, List.set, List.all, List.not_mem_nil, List.nodup_cons, List.nodup_nil, List.nil_append, List.cons_append, ↓reduceIte, Nat.reduceLT, Nat.reduceAdd, Nat.reduceEqDiff, Nat.zero_add, ne_eq, not_false_eq_true, not_true_eq_false, or_false, Bool.and_true, Bool.false_eq_true, id_eq, reduceCtorEq, decide_false, and_self, Nat.le_refl, tyC_eq, tysD, Try.results39]
theorem con_PtI (l : List UInt8) : Con Try.prog 34 [.one (.str (bs l))] [.ag (tyC (ptT l)), .one (.bool (ptB l))] := by
  have hz : szL (tyC (rdI 8 l).t) ≤ 1000000000 := Nat.le_trans (rdI_sz 8 l) (by decide)
  have hc := con_read 8 l (Nat.le_refl _)
  rw [show ((8 : Nat) : Int) = 8 from rfl] at hc
  have hf := con_FormatI (rdI 8 l).t hz
  have hT : ptB l = true → ptT l = (rdI 8 l).t := fun h => by unfold ptT; rw [if_pos h]
  have hF : ptB l = false → ptT l = ty0 := fun h => by unfold ptT; rw [if_neg (by rw [h]; simp)]
  have e1 : ptB l = ((rdI 8 l).ok && decide (fmT (rdI 8 l).t = l)) := rfl
  generalize ptT l = T at *
  generalize ptB l = B at *
  generalize rdI 8 l = A at *
  obtain ⟨At, Ao, Al⟩ := A
  simp only at e1 hT hc hf
  cases Ao
  case false =>
    have hB : B = false := by rw [e1]; rfl
    subst hB
    rw [hF rfl]
    refine con_run Try.func34 rfl rfl (by simp [Try.ntmps34]) ?_
    simp only [argT, argA, eq_self, xRun, vE, vP, vBuild, isCutO, xFill, gN, isPick, isCall, AS.pt, AS.ev, AS.box, look, cav, avB, setRowG, AV.cells, AV.whole, AV.one, td0, td1, td2, td3, td4, td5, td6, Option.getD, Option.isSome, List.map, List.length, List.getElem?_cons_zero, List.set, List.all, ↓reduceIte, Nat.reduceLT, Nat.reduceAdd, Nat.reduceLeDiff, Nat.zero_add, true_and, Bool.and_true, Bool.false_eq_true, reduceCtorEq, and_self, Try.ntmps34]
    refine sw_callP (hc) rfl rfl rfl rfl ?_ ?_ ?_ (sw_run 200 _ _ _ ?_)
    · simp only [rC, rCs, eC, eCs, AS.kb, rmBs, rmB, mPs, mP, ePs, eP, bPs, bP, aA, aD, AS.kl, rD, eq_self, AS.ev, kill, look, cav, td0, td1, td2, td3, td4, td5, td6, Option.getD, List.map, List.foldr, List.append_nil, ↓reduceIte, reduceCtorEq, and_self]
    · simp only [eC, eCs, ePs, eP, eq_self, AS.ev, look, cav, td0, td1, td2, td3, td4, td5, td6, Option.getD, List.map, List.nodup_nil, List.append_nil, ↓reduceIte]
    · simp only [bPs, bP, eq_self, AS.ev, look, cav, td0, td1, td2, td3, td4, td5, td6, Option.getD, List.map, List.not_mem_nil, List.nodup_cons, List.nodup_nil, List.append_nil, ↓reduceIte, not_false_eq_true, and_self]
    simp only [mkC, eC, eCs, aftS, aftV, AS.kb, rmBs, rmB, mkO, packRA, flatR, ePs, eP, bPs, bP, AS.kl, retA, List.headD_cons, fQ, xRet, rPs, xRes, flatA, rD, rDs, eq_self, xRun, vE, vP, vNot, vExt, vBuild, vStore, isCutO, xFill, isB, bv, gT, gW, gN, gV, isU, isPick, pkC, pkA, isCall, AS.pt, AS.kn, AS.ev, AS.box, AS.setb, AS.mk', kill, look, cav, setRowG, AV.cells, AV.whole, AV.one, eatsOf, td0, td1, td2, td3, td4, td5, td6, Option.bind, Option.getD, Option.isSome, List.map, List.take, List.drop, List.length, List.getElem?_cons_zero, List.getElem?_cons_succ, List.set, List.foldr, List.all, List.nodup_nil, List.nil_append, List.cons_append, List.append_nil, ↓reduceIte, Nat.reduceLT, Nat.reduceAdd, Nat.reduceEqDiff, Nat.zero_add, or_false, Bool.and_true, Bool.not_false, Bool.false_eq_true, Bool.true_eq_false, reduceCtorEq, and_self, Nat.le_refl, tyR, tyC, ty0, tysC, Try.results34]
  by_cases ht : fmT At = l
  case neg =>
    have htb : ¬ bs (fmT At) = bs l := fun e => ht (bs_inj e)
    have hB : B = false := by rw [e1, decide_eq_false ht]; simp
    subst hB
    rw [hF rfl]
    refine con_run Try.func34 rfl rfl (by simp [Try.ntmps34]) ?_
    simp only [argT, argA, eq_self, xRun, vE, vP, vBuild, isCutO, xFill, gN, isPick, isCall, AS.pt, AS.ev, AS.box, look, cav, avB, setRowG, AV.cells, AV.whole, AV.one, td0, td1, td2, td3, td4, td5, td6, Option.getD, Option.isSome, List.map, List.length, List.getElem?_cons_zero, List.set, List.all, ↓reduceIte, Nat.reduceLT, Nat.reduceAdd, Nat.reduceLeDiff, Nat.zero_add, true_and, Bool.and_true, Bool.false_eq_true, reduceCtorEq, and_self, Try.ntmps34]
    refine sw_callP (hc) rfl rfl rfl rfl ?_ ?_ ?_ (sw_run 200 _ _ _ ?_)
    · simp only [rC, rCs, eC, eCs, AS.kb, rmBs, rmB, mPs, mP, ePs, eP, bPs, bP, aA, aD, AS.kl, rD, eq_self, AS.ev, kill, look, cav, td0, td1, td2, td3, td4, td5, td6, Option.getD, List.map, List.foldr, List.append_nil, ↓reduceIte, reduceCtorEq, and_self]
    · simp only [eC, eCs, ePs, eP, eq_self, AS.ev, look, cav, td0, td1, td2, td3, td4, td5, td6, Option.getD, List.map, List.nodup_nil, List.append_nil, ↓reduceIte]
    · simp only [bPs, bP, eq_self, AS.ev, look, cav, td0, td1, td2, td3, td4, td5, td6, Option.getD, List.map, List.not_mem_nil, List.nodup_cons, List.nodup_nil, List.append_nil, ↓reduceIte, not_false_eq_true, and_self]
    simp only [mkC, eC, eCs, aftS, aftV, AS.kb, rmBs, rmB, mkO, packRA, flatR, ePs, eP, bPs, bP, AS.kl, retA, List.headD_cons, eq_self, xRun, vE, vP, vSub, vLoad, vNot, vExt, vStore, isCutO, isB, bv, gT, gW, gN, gV, isU, isPick, isCall, AS.pt, AS.kn, AS.ev, AS.box, AS.setb, AS.mk', kill, look, cav, setRowG, AV.cells, AV.whole, AV.one, td0, td1, td2, td3, td4, td5, td6, Option.bind, Option.getD, Option.isSome, List.map, List.take, List.drop, List.length, List.getElem?_cons_zero, List.getElem?_cons_succ, List.set, List.foldr, List.all, List.nil_append, List.cons_append, List.append_nil, ↓reduceIte, Nat.reduceLT, Nat.reduceAdd, Nat.reduceEqDiff, Nat.zero_add, true_and, Bool.and_true, Bool.not_true, Bool.false_eq_true, reduceCtorEq, and_self, Nat.le_refl, tyR]
    refine sw_call (hf) rfl (aAs_ok ?_) ?_ (sw_run 200 _ _ _ ?_)
    · simp only [aAs, aA, aDs, aD, tysD, AS.ev, AS.owf, look, Option.bind, Option.getD, id_eq, List.map, List.append_nil, ↓reduceIte, Nat.reduceEqDiff, eq_self, and_self, tyC_eq, tysD]
    · simp only [okR]
    simp only [mkR, flatD, packA, retA, List.headD_cons, fQ, xRet, rPs, xRes, flatA, rD, rDs, eq_self, xRun, vE, vP, vBin, vBinT, isAg, isBo, vBuild, vStore, isCutO, xFill, isB, bv, gT, gW, gN, gV, isU, isPick, pkC, pkB, isCall, AS.pt, AS.kn, AS.ev, AS.setb, look, cav, setRowG, AV.cells, AV.whole, AV.one, eatsOf, td0, td1, td2, td3, td4, td5, td6, Option.bind, Option.getD, Option.isSome, List.map, List.length, List.getElem?_cons_zero, List.getElem?_cons_succ, List.set, List.all, List.nodup_nil, List.nil_append, List.cons_append, ↓reduceIte, Nat.reduceLT, Nat.reduceAdd, Nat.reduceEqDiff, Nat.zero_add, ne_eq, not_false_eq_true, or_false, Bool.and_true, Bool.false_eq_true, reduceCtorEq, decide_true, and_self, Nat.le_refl, tyC, ty0, tysC, htb, Try.results34]
  have hB : B = true := by rw [e1, decide_eq_true ht]; simp
  subst hB
  rw [hT rfl]
  rw [ht] at hf
  refine con_run Try.func34 rfl rfl (by simp [Try.ntmps34]) ?_
  simp only [argT, argA, eq_self, xRun, vE, vP, vBuild, isCutO, xFill, gN, isPick, isCall, AS.pt, AS.ev, AS.box, look, cav, avB, setRowG, AV.cells, AV.whole, AV.one, td0, td1, td2, td3, td4, td5, td6, Option.getD, Option.isSome, List.map, List.length, List.getElem?_cons_zero, List.set, List.all, ↓reduceIte, Nat.reduceLT, Nat.reduceAdd, Nat.reduceLeDiff, Nat.zero_add, true_and, Bool.and_true, Bool.false_eq_true, reduceCtorEq, and_self, Try.ntmps34]
  refine sw_callP (hc) rfl rfl rfl rfl ?_ ?_ ?_ (sw_run 200 _ _ _ ?_)
  · simp only [rC, rCs, eC, eCs, AS.kb, rmBs, rmB, mPs, mP, ePs, eP, bPs, bP, aA, aD, AS.kl, rD, eq_self, AS.ev, kill, look, cav, td0, td1, td2, td3, td4, td5, td6, Option.getD, List.map, List.foldr, List.append_nil, ↓reduceIte, reduceCtorEq, and_self]
  · simp only [eC, eCs, ePs, eP, eq_self, AS.ev, look, cav, td0, td1, td2, td3, td4, td5, td6, Option.getD, List.map, List.nodup_nil, List.append_nil, ↓reduceIte]
  · simp only [bPs, bP, eq_self, AS.ev, look, cav, td0, td1, td2, td3, td4, td5, td6, Option.getD, List.map, List.not_mem_nil, List.nodup_cons, List.nodup_nil, List.append_nil, ↓reduceIte, not_false_eq_true, and_self]
  simp only [mkC, eC, eCs, aftS, aftV, AS.kb, rmBs, rmB, mkO, packRA, flatR, ePs, eP, bPs, bP, AS.kl, retA, List.headD_cons, eq_self, xRun, vE, vP, vSub, vLoad, vNot, vExt, vStore, isCutO, isB, bv, gT, gW, gN, gV, isU, isPick, isCall, AS.pt, AS.kn, AS.ev, AS.box, AS.setb, AS.mk', kill, look, cav, setRowG, AV.cells, AV.whole, AV.one, td0, td1, td2, td3, td4, td5, td6, Option.bind, Option.getD, Option.isSome, List.map, List.take, List.drop, List.length, List.getElem?_cons_zero, List.getElem?_cons_succ, List.set, List.foldr, List.all, List.nil_append, List.cons_append, List.append_nil, ↓reduceIte, Nat.reduceLT, Nat.reduceAdd, Nat.reduceEqDiff, Nat.zero_add, true_and, Bool.and_true, Bool.not_true, Bool.false_eq_true, reduceCtorEq, and_self, Nat.le_refl, tyR]
  refine sw_call (hf) rfl (aAs_ok ?_) ?_ (sw_run 200 _ _ _ ?_)
  · simp only [aAs, aA, aDs, aD, tysD, AS.ev, AS.owf, look, Option.bind, Option.getD, id_eq, List.map, List.append_nil, ↓reduceIte, Nat.reduceEqDiff, eq_self, and_self, tyC_eq, tysD]
  · simp only [okR]
  simp only [mkR, flatD, packA, retA, List.headD_cons, fQ, tysD, xRet, rPs, xRes, flatA, rD, rDs, eq_self, xRun, vE, vP, vSub, vLoad, vBin, vBinT, isAg, isBo, vStore, isCutO, isB, bv, gT, gW, gN, gV, isU, isPick, pkC, pkB, isCall, AS.pt, AS.kn, AS.ev, AS.setb, AS.owf, look, cav, setRowG, AV.cells, AV.whole, AV.one, eatsOf, td0, td1, td2, td3, td4, td5, td6, Option.bind, Option.getD, Option.isSome, List.map, List.take, List.drop, List.length, List.getElem?_cons_zero, List.getElem?_cons_succ, List.set, List.all, List.not_mem_nil, List.nodup_cons, List.nodup_nil, List.nil_append, List.cons_append, ↓reduceIte, Nat.reduceLT, Nat.reduceAdd, Nat.reduceEqDiff, Nat.zero_add, ne_eq, not_false_eq_true, not_true_eq_false, or_false, Bool.and_true, Bool.false_eq_true, id_eq, reduceCtorEq, decide_false, and_self, Nat.le_refl, tyC_eq, tysD, Try.results34]
def ptTb (s : ByteArray) : Ty := ptT s.data.toList
def ptBb (s : ByteArray) : Bool := ptB s.data.toList
theorem bs_self (s : ByteArray) : bs s.data.toList = s := by simp [bs]
theorem con_PtSb (s : ByteArray) (h : s.size ≤ 1048576) : Con Try.prog 39 [.one (.str s)] [.ag (tyC (ptTb s)), .one (.bool (ptBb s))] := by
  have := con_PtS s.data.toList (by rw [← bs_size, bs_self]; omega)
  rwa [bs_self] at this
theorem con_PtIb (s : ByteArray) : Con Try.prog 34 [.one (.str s)] [.ag (tyC (ptTb s)), .one (.bool (ptBb s))] := by
  have := con_PtI s.data.toList
  rwa [bs_self] at this
theorem pt_fit (s : ByteArray) : ConfL (tyC (ptTb s)) K.ty.fields ∧ cntS (tyC (ptTb s)) ≤ 17592186044416 := by
  have h : szL (tyC (ptTb s)) ≤ 100000 := by
    unfold ptTb ptT
    split
    · exact Nat.le_trans (rdI_sz 8 _) (by decide)
    · rw [sz_ty0]; omega
  have hc := conf_tyC (ptTb s) (ok_of_szTy _ (by unfold maxLen; omega))
  have := cntS_bd hc
  exact ⟨hc, by omega⟩
end Go.Proofs.Ytepjbiffebbelaa
