/-
  Drawn texts, and texts that are turned a little.
-/
import Derived.Test.YtepjbiffebbelaaDrw
namespace Go.Proofs.Ytepjbiffebbelaa
open Go.RowKit
set_option linter.unusedVariables false
set_option linter.unusedSimpArgs false
set_option maxRecDepth 20000
/-- A drawn text. -/
def txI (zs : List Int) (ns : List ByteArray) (x : ByteArray × Nat × Int) : Prop := x.1 ∈ ns ∧ x.2.1 ≤ zs.length
def txO (zs : List Int) (x : ByteArray × Nat × Int) : List (List CD) := [curA zs x.2.1 x.2.2]
def txR (x : ByteArray × Nat × Int) : List RD := [.one (.o (.str x.1))]
theorem con_Pick (zs : List Int) (hz : BytOk zs) (ns : List ByteArray) (hn : 0 < ns.length) (hn2 : ns.length ≤ 1000000000) (i : Nat) (hi : i ≤ zs.length) (h : Int) : ConX Try.prog 166 [.p (curA zs i h), .b (.one (strsD ns))] (txI zs ns) (txO zs) txR := by
  refine con_runX Try.func166 rfl rfl (by simp [Try.ntmps166]) (fun _ _ => rfl) ?_
  simp only [s0P, mkPs, mkPA, mkC, argA, numT, strsD, eq_self, xRun, vE, vP, vLen, isCutO, gN, isPick, isCall, AS.pt, AS.ev, AS.box, AS.rd, look, cav, avB, td0, td1, td2, td3, td4, td5, td6, Option.getD, List.nil_append, ↓reduceIte, Nat.reduceLT, Nat.reduceEqDiff, Nat.zero_add, true_and, Bool.false_eq_true, reduceCtorEq, Nat.succ_ne_zero, curA, bytD, Try.ntmps166]
  refine sw_callXR (con_Below zs hz (ns.length : Int) (by omega) (by omega) i hi h) rfl rfl rfl ?_ ?_ ?_ ?_
  · simp only [rC, rCs, AS.em, mPs, mP, aA, aD, rD, eq_self, AS.ev, look, td0, td1, td2, td3, td4, td5, td6, Option.getD, List.map, List.append_nil, ↓reduceIte, Nat.reduceEqDiff, and_self, curA, bytD]
  · simp only [eC, eCs, ePs, eP, eq_self, AS.ev, look, td0, td1, td2, td3, td4, td5, td6, Option.getD, List.map, List.nodup_nil, List.append_nil, ↓reduceIte, Nat.reduceEqDiff, curA, bytD]
  · simp only [bPs, bP, eq_self, AS.ev, look, td0, td1, td2, td3, td4, td5, td6, Option.getD, List.map, List.not_mem_nil, List.nodup_cons, List.nodup_nil, List.append_nil, ↓reduceIte, Nat.reduceEqDiff, not_false_eq_true, and_self, curA, bytD]
  rintro ⟨v, i', h'⟩ ⟨hv, hi'⟩
  simp only at hv hi'
  refine sw_run 200 _ _ _ ?_
  have hlt : v.toNat < ns.length := by omega
  have hv2 : v < (ns.length : Int) := by omega
  have hR := strs_row ns v.toNat hlt
  simp only [mkC, eC, eCs, aftS, aftV, AS.kb, rmBs, rmB, mkO, packRA, flatR, ePs, eP, bPs, bP, AS.kl, retA, List.headD_cons, rowD, eq_self, xRun, vE, vP, vSub, vLoad, vIdx, isCutO, gN, isPick, isCall, AS.pt, AS.ev, kill, look, avB, td0, td1, td2, td3, td4, td5, td6, Option.getD, Option.isSome, List.map, List.getElem?_cons_zero, List.foldr, List.append_nil, ↓reduceIte, Nat.reduceLT, Nat.reduceEqDiff, true_and, Bool.false_eq_true, and_self, curO, curA, curR, bytD, hv.1, hv2, hR]
  refine ⟨.inl rfl, (ns[v.toNat]!, i', h'), ⟨mem_bang hlt, hi'⟩, ?_⟩
  simp only [xRetP, rRs, rOs, rC, rCs, eRs, eOs, eC, eCs, aD, xRes, rD, eq_self, look, td0, td1, td2, td3, td4, td5, td6, List.map, List.not_mem_nil, List.nodup_cons, List.nodup_nil, List.append_nil, ↓reduceIte, not_false_eq_true, and_self, txO, curA, txR, bytD, Try.results166]
def tuI (zs : List Int) (m : Nat) (x : ByteArray × Nat × Int) : Prop := x.1.size ≤ m ∧ x.2.1 ≤ zs.length
theorem con_Turned (zs : List Int) (hz : BytOk zs) (s : ByteArray) (hs : s.size ≤ 1000000) (ns : List ByteArray) (hn : 0 < ns.length) (hn2 : ns.length ≤ 1000000000) (hns : ∀ x ∈ ns, x.size ≤ 20) (i : Nat) (hi : i ≤ zs.length) (h : Int) : ConX Try.prog 96 [.p (curA zs i h), .b (.one (.str s)), .b (.one (strsD ns))] (tuI zs (s.size + 20)) (txO zs) txR := by
  refine con_runX Try.func96 rfl rfl (by simp [Try.ntmps96]) (fun _ _ => rfl) ?_
  have hin : inI ((s.size : Int) + 1) := by unfold inI; omega
  have hP := fun i hi h => con_Pick zs hz ns hn hn2 i hi h
  simp only [s0P, mkPs, mkPA, mkC, argA, numT, strsD, eq_self, xRun, vE, vP, vBin, vBinT, isAg, isBo, vLen, isCutO, gN, isPick, isCall, AS.pt, AS.ev, AS.box, look, cav, avB, td0, td1, td2, td3, td4, td5, td6, Option.getD, List.nil_append, ↓reduceIte, Nat.reduceLT, Nat.reduceAdd, Nat.reduceEqDiff, Nat.zero_add, true_and, Bool.false_eq_true, reduceCtorEq, Nat.succ_ne_zero, curA, bytD, hin, Try.ntmps96]
  refine sw_callXR (con_Below zs hz ((s.size : Int) + 1) (by omega) (by omega) i hi h) rfl rfl rfl ?_ ?_ ?_ ?_
  · simp only [rC, rCs, AS.em, mPs, mP, aA, aD, rD, eq_self, AS.ev, look, td0, td1, td2, td3, td4, td5, td6, Option.getD, List.map, List.append_nil, ↓reduceIte, Nat.reduceEqDiff, and_self, curA, bytD]
  · simp only [eC, eCs, ePs, eP, eq_self, AS.ev, look, td0, td1, td2, td3, td4, td5, td6, Option.getD, List.map, List.nodup_nil, List.append_nil, ↓reduceIte, Nat.reduceEqDiff, curA, bytD]
  · simp only [bPs, bP, eq_self, AS.ev, look, td0, td1, td2, td3, td4, td5, td6, Option.getD, List.map, List.not_mem_nil, List.nodup_cons, List.nodup_nil, List.append_nil, ↓reduceIte, Nat.reduceEqDiff, not_false_eq_true, and_self, curA, bytD]
  rintro ⟨at_, i1, h1⟩ ⟨ha, hi1⟩
  simp only at ha hi1
  refine sw_run 200 _ _ _ ?_
  simp only [mkC, eC, eCs, aftS, aftV, AS.kb, rmBs, rmB, mkO, packRA, flatR, ePs, eP, bPs, bP, AS.kl, retA, List.headD_cons, eq_self, xRun, vE, vP, isCutO, gN, isPick, isCall, AS.pt, AS.ev, kill, look, avB, td0, td1, td2, td3, td4, td5, td6, Option.getD, List.map, List.foldr, List.append_nil, ↓reduceIte, Nat.reduceLT, Nat.reduceEqDiff, true_and, Bool.false_eq_true, reduceCtorEq, curO, curA, curR, bytD]
  refine sw_callXR (con_Below zs hz 6 (by decide) (by decide) i1 hi1 h1) rfl rfl rfl ?_ ?_ ?_ ?_
  · simp only [rC, rCs, AS.em, mPs, mP, aA, aD, rD, eq_self, AS.ev, look, cav, td0, td1, td2, td3, td4, td5, td6, Option.getD, List.map, List.append_nil, ↓reduceIte, and_self, curA, bytD]
  · simp only [eC, eCs, ePs, eP, eq_self, AS.ev, look, cav, td0, td1, td2, td3, td4, td5, td6, Option.getD, List.map, List.nodup_nil, List.append_nil, ↓reduceIte, curA, bytD]
  · simp only [bPs, bP, eq_self, AS.ev, look, cav, td0, td1, td2, td3, td4, td5, td6, Option.getD, List.map, List.not_mem_nil, List.nodup_cons, List.nodup_nil, List.append_nil, ↓reduceIte, not_false_eq_true, and_self, curA, bytD]
  rintro ⟨v, i2, h2⟩ ⟨hv, hi2⟩
  simp only at hv hi2
  refine sw_run 200 _ _ _ ?_
  have ha0 := ha.1
  have ha1 : at_ ≤ (s.size : Int) := by omega
  by_cases v0 : v = 0
  · simp only [mkC, eC, eCs, aftS, aftV, AS.kb, rmBs, rmB, mkO, packRA, flatR, ePs, eP, bPs, bP, AS.kl, retA, List.headD_cons, eq_self, xRun, vE, vP, vBin, vBinT, isAg, isBo, isCutO, isB, bv, gN, isPick, isCall, AS.pt, AS.ev, kill, look, cav, avB, td0, td1, td2, td3, td4, td5, td6, Option.getD, List.map, List.foldr, List.append_nil, ↓reduceIte, Nat.reduceLT, true_and, Bool.false_eq_true, decide_true, curO, curA, curR, bytD, eq_true v0]
    refine sw_drawn (.cons 0 true (.cons 1 true (.cons 3 true (.cons 4 true (.cons 7 true (.cons 8 true (.fork (.alt 2 (.fork (.alt 5 (.cons 6 true (.cons 9 true (.cons 10 true (.cons 11 true (.nil))))) (.alt 9 (.cons 5 false (.cons 6 true (.cons 10 true (.cons 11 true (.nil))))) (.last)))) (.alt 5 (.cons 2 true (.cons 6 true (.cons 9 true (.cons 10 true (.cons 11 true (.nil)))))) (.alt 9 (.fork (.alt 2 (.cons 5 false (.cons 6 true (.cons 10 true (.cons 11 true (.nil))))) (.alt 5 (.cons 2 true (.cons 6 true (.cons 10 true (.cons 11 true (.nil))))) (.last)))) (.last))))))))))) (by kernel_rfl) fQX_panic (by kernel_rfl) (sw_run 200 _ _ _ ?_)
    simp only [eq_self, xRun, vE, vP, vCut, vSlc, ixL, ixH, gN, isPick, isCall, AS.pt, AS.ev, look, td0, td1, td2, td3, td4, td5, td6, Option.getD, Option.map, Option.isSome, List.getElem?_cons_zero, List.getElem?_cons_succ, ↓reduceIte, Nat.reduceLT, Nat.reduceEqDiff, true_and, and_true, Bool.false_eq_true, reduceCtorEq, Int.toNat_natCast, Int.toNat_zero, Int.le_refl, and_self, Nat.succ_ne_zero, ha0, ha1]
    (try repeat' (with_reducible apply And.intro))
    all_goals
      refine sw_callDXR (hP i2 hi2 h2) rfl rfl rfl ?_ ?_ ?_ rfl ?_
      · simp only [rC, rCs, AS.em, mPs, mP, aA, aD, strsD, rD, eq_self, AS.ev, look, td0, td1, td2, td3, td4, td5, td6, Option.getD, List.map, List.append_nil, ↓reduceIte, Nat.reduceEqDiff, and_self, curA, bytD]
      · simp only [eC, eCs, ePs, eP, strsD, eq_self, AS.ev, look, td0, td1, td2, td3, td4, td5, td6, Option.getD, List.map, List.nodup_nil, List.append_nil, ↓reduceIte, Nat.reduceEqDiff, curA, bytD]
      · simp only [bPs, bP, strsD, eq_self, AS.ev, look, td0, td1, td2, td3, td4, td5, td6, Option.getD, List.map, List.not_mem_nil, List.nodup_cons, List.nodup_nil, List.append_nil, ↓reduceIte, Nat.reduceEqDiff, not_false_eq_true, and_self, curA, bytD]
      rintro ⟨p, i3, h3⟩ ⟨hp, hi3⟩
      simp only at hp hi3
      have hp2 := hns p hp
      have m1 : (s.extract 0 at_.toNat).size + p.size ≤ maxLen := by simp only [ByteArray.size_extract]; unfold maxLen; omega
      have m2 : (s.extract 0 at_.toNat ++ p).size + (s.extract at_.toNat s.size).size ≤ maxLen := by simp only [ByteArray.size_append, ByteArray.size_extract]; unfold maxLen; omega
      refine sw_run 200 _ _ _ ?_
      simp only [mkC, eC, eCs, aftS, aftV, AS.kb, rmBs, rmB, mkO, packRA, flatR, ePs, eP, bPs, bP, AS.kl, retA, List.headD_cons, strsD, eq_self, xRun, vP, vBin, vBinT, isAg, isBo, vCut, vSlc, ixL, ixH, gN, isPick, AS.pt, AS.ev, kill, look, avB, td0, td1, td2, td3, td4, td5, td6, Option.getD, Option.map, Option.isSome, List.map, List.getElem?_cons_zero, List.getElem?_cons_succ, List.foldr, List.append_nil, ↓reduceIte, Nat.reduceLT, Nat.reduceEqDiff, true_and, Bool.false_eq_true, Int.toNat_natCast, Int.toNat_zero, Int.le_refl, and_self, txO, curA, txR, bytD, ha0, ha1, m1, m2]
      (try repeat' (with_reducible apply And.intro))
      all_goals
        refine ⟨.inl rfl, (s.extract 0 at_.toNat ++ p ++ s.extract at_.toNat s.size, i3, h3), ⟨by simp only [ByteArray.size_append, ByteArray.size_extract]; omega, hi3⟩, ?_⟩
        simp only [xRetP, rRs, rOs, rC, rCs, eRs, eOs, eC, eCs, aD, xRes, rD, eq_self, look, td0, td1, td2, td3, td4, td5, td6, List.map, List.not_mem_nil, List.nodup_cons, List.nodup_nil, List.append_nil, ↓reduceIte, not_false_eq_true, and_self, txO, curA, txR, bytD, Try.results96]
  by_cases v1 : v = 1
  · simp only [mkC, eC, eCs, aftS, aftV, AS.kb, rmBs, rmB, mkO, packRA, flatR, ePs, eP, bPs, bP, AS.kl, retA, List.headD_cons, eq_self, xRun, vE, vP, vBin, vBinT, isAg, isBo, vCut, vSlc, isCutO, ixL, ixH, isB, bv, gN, isPick, isCall, AS.pt, AS.ev, kill, look, cav, avB, td0, td1, td2, td3, td4, td5, td6, Option.getD, Option.map, List.map, List.foldr, List.append_nil, ↓reduceIte, Nat.reduceLT, Nat.reduceEqDiff, true_and, Bool.false_eq_true, Int.toNat_zero, Int.le_refl, decide_true, decide_false, and_self, Nat.succ_ne_zero, curO, curA, curR, bytD, v0, eq_true v1, ha0, ha1]
    refine ⟨.inl rfl, (s.extract 0 at_.toNat, i2, h2), ⟨by simp; omega, hi2⟩, ?_⟩
    simp only [xRetP, rRs, rOs, rC, rCs, eRs, eOs, eC, eCs, aD, xRes, rD, eq_self, look, td0, td1, td2, td3, td4, td5, td6, List.map, List.not_mem_nil, List.nodup_cons, List.nodup_nil, List.append_nil, ↓reduceIte, not_false_eq_true, and_self, txO, curA, txR, bytD, Try.results96]
  · simp only [mkC, eC, eCs, aftS, aftV, AS.kb, rmBs, rmB, mkO, packRA, flatR, ePs, eP, bPs, bP, AS.kl, retA, List.headD_cons, eq_self, xRun, vE, vP, vBin, vBinT, isAg, isBo, isCutO, isB, bv, gN, isPick, isCall, AS.pt, AS.ev, kill, look, cav, avB, td0, td1, td2, td3, td4, td5, td6, Option.getD, List.map, List.foldr, List.append_nil, ↓reduceIte, Nat.reduceLT, Nat.reduceEqDiff, true_and, Bool.false_eq_true, decide_false, Nat.succ_ne_zero, curO, curA, curR, bytD, v0, v1]
    refine ⟨.inl rfl, (s, i2, h2), ⟨by simp, hi2⟩, ?_⟩
    simp only [xRetP, rRs, rOs, rC, rCs, eRs, eOs, eC, eCs, aD, xRes, rD, eq_self, look, td0, td1, td2, td3, td4, td5, td6, List.map, List.not_mem_nil, List.nodup_cons, List.nodup_nil, List.append_nil, ↓reduceIte, not_false_eq_true, and_self, txO, curA, txR, bytD, Try.results96]
end Go.Proofs.Ytepjbiffebbelaa
