/-
  RunCode of the program: the loop.
-/
import Derived.Test.YtgjcilainojlfaaVmF
namespace Go.Proofs.Ytgjcilainojlfaa
open Go.RowKit
set_option linter.unusedVariables false
set_option linter.unusedSimpArgs false
theorem ex_done (m : Mch) (d : Vl) (x : Ins) (h : (exM m d x).1 ≠ 1) : (exM m d x).2.2 = d := by
  unfold exM at h ⊢
  split
  · rfl
  rename_i n1; rw [if_neg n1] at h
  split
  · split <;> rfl
  rename_i n2; rw [if_neg n2] at h
  split
  · rfl
  rename_i n3; rw [if_neg n3] at h
  split
  · rfl
  rename_i n4; rw [if_neg n4] at h
  split
  · split
    · rfl
    split
    · rfl
    split <;> rfl
  rename_i n5; rw [if_neg n5] at h
  split
  · rfl
  rename_i n6; rw [if_neg n6] at h
  split
  · rfl
  rename_i n7; rw [if_neg n7] at h
  split
  · rename_i q; rw [if_pos q] at h
    unfold retM at h ⊢
    split
    · rfl
    rename_i q1; rw [if_neg q1] at h
    split
    · rename_i q2; rw [if_pos q2] at h; exact absurd rfl h
    · rfl
  rename_i n8; rw [if_neg n8] at h
  split
  · split <;> rfl
  · split <;> rfl
theorem codeB_at {code : List Ins} (h : codeB code = true) {k : Nat} (hk : k < code.length) : insB code[k]! = true := by
  unfold codeB at h
  simp only [Bool.and_eq_true] at h
  exact List.all_eq_true.1 h.2 _ (mem_bang hk)
theorem GM0 : GM 0 ⟨0, [], [], []⟩ := ⟨by simp, by simp, by simp, by simp, by simp, by simp, by simp⟩
set_option maxRecDepth 20000 in
theorem con_RunI (code : List Ins) (fuel : Int) (hl : code.length ≤ 1000000000) : Con Try.prog 18 [.one (inssD code), .one (.int fuel)] [.ag (otC (runO code fuel))] := by
  have hA := con_areInstrs code hl
  have hW := con_within fuel 0 3000
  unfold runO
  cases hc : codeB code with
  | false =>
    rw [hc] at hA
    rw [if_neg (by simp)]
    simp only [inssD, otC] at hA ⊢
    refine con_run Try.func18 rfl rfl (by simp [Try.ntmps18]) ?_
    simp only [argT, argA, eq_self, xRun, vE, vP, isCutO, gN, isPick, isCall, AS.pt, AS.ev, AS.box, look, avB, td0, td1, td2, td3, td4, td5, td6, Option.getD, Option.isSome, ↓reduceIte, Nat.reduceLT, Nat.zero_add, true_and, Bool.false_eq_true, reduceCtorEq, Try.ntmps18]
    refine sw_call (hA) rfl (aAs_ok ?_) ?_ (sw_run 200 _ _ _ ?_)
    · simp only [aAs, aA, aD, AS.ev, look, Option.getD, List.map, List.append_nil, ↓reduceIte, eq_self, and_self]
    · simp only [okR]
    simp only [mkR, flatD, packA, retA, List.headD_cons, fQ, xRet, rPs, xRes, flatA, rD, rDs, eq_self, xRun, vE, vP, vNot, vBuild, vStore, isCutO, xFill, isB, bv, gT, gW, gN, gV, isU, isPick, pkC, pkA, isCall, AS.pt, AS.kn, AS.ev, AS.setb, look, cav, setRowG, AV.cells, AV.whole, AV.one, eatsOf, td0, td1, td2, td3, td4, td5, td6, Option.bind, Option.getD, Option.isSome, List.map, List.length, List.getElem?_cons_zero, List.getElem?_cons_succ, List.set, List.all, List.nodup_nil, List.append_nil, ↓reduceIte, Nat.reduceLT, Nat.reduceAdd, Nat.reduceEqDiff, Nat.zero_add, or_false, Bool.and_true, Bool.not_false, Bool.false_eq_true, Bool.true_eq_false, reduceCtorEq, and_self, Nat.le_refl, Try.results18]
  | true =>
    rw [hc] at hA
    cases hw : (decide (0 ≤ fuel) && decide (fuel ≤ 3000)) with
    | false =>
      rw [hw] at hW
      rw [if_neg (by simp)]
      simp only [inssD, otC] at hA ⊢
      refine con_run Try.func18 rfl rfl (by simp [Try.ntmps18]) ?_
      simp only [argT, argA, eq_self, xRun, vE, vP, isCutO, gN, isPick, isCall, AS.pt, AS.ev, AS.box, look, avB, td0, td1, td2, td3, td4, td5, td6, Option.getD, Option.isSome, ↓reduceIte, Nat.reduceLT, Nat.zero_add, true_and, Bool.false_eq_true, reduceCtorEq, Try.ntmps18]
      refine sw_call (hA) rfl (aAs_ok ?_) ?_ (sw_run 200 _ _ _ ?_)
      · simp only [aAs, aA, aD, AS.ev, look, Option.getD, List.map, List.append_nil, ↓reduceIte, eq_self, and_self]
      · simp only [okR]
      simp only [mkR, flatD, packA, retA, List.headD_cons, eq_self, xRun, vE, vP, vNot, isCutO, isB, bv, gT, gW, gN, gV, isU, isPick, isCall, AS.pt, AS.kn, AS.ev, look, td0, td1, td2, td3, td4, td5, td6, Option.bind, Option.getD, Option.isSome, List.getElem?_cons_zero, List.getElem?_cons_succ, ↓reduceIte, Nat.reduceLT, Nat.reduceEqDiff, true_and, Bool.not_true, Bool.false_eq_true, and_self, Nat.succ_ne_zero]
      refine sw_call (hW) rfl (aAs_ok ?_) ?_ (sw_run 200 _ _ _ ?_)
      · simp only [aAs, aA, aD, AS.ev, look, cav, Option.getD, List.map, List.append_nil, ↓reduceIte, Nat.reduceEqDiff, eq_self, and_self]
      · simp only [okR]
      simp only [mkR, flatD, packA, retA, List.headD_cons, fQ, xRet, rPs, xRes, flatA, rD, rDs, eq_self, xRun, vE, vP, vNot, vBuild, vStore, isCutO, xFill, isB, bv, gT, gW, gN, gV, isU, isPick, pkC, pkB, isCall, AS.pt, AS.kn, AS.ev, AS.setb, look, setRowG, AV.cells, AV.whole, AV.one, eatsOf, td0, td1, td2, td3, td4, td5, td6, Option.bind, Option.getD, Option.isSome, List.map, List.length, List.getElem?_cons_zero, List.getElem?_cons_succ, List.set, List.all, List.nodup_nil, List.append_nil, ↓reduceIte, Nat.reduceLT, Nat.reduceAdd, Nat.reduceEqDiff, Nat.zero_add, or_false, Bool.and_true, Bool.not_false, Bool.false_eq_true, reduceCtorEq, and_self, Nat.le_refl, Try.results18]
    | true =>
      rw [hw] at hW
      rw [if_pos (by simp)]
      simp only [Bool.and_eq_true, decide_eq_true_eq] at hw
      obtain ⟨F, hF⟩ : ∃ F : Nat, fuel = (F : Int) := ⟨fuel.toNat, by omega⟩
      subst hF
      rw [Int.toNat_natCast]
      have hF3 : F ≤ 3000 := by omega
      obtain ⟨R, hR⟩ : ∃ R, R = runM code F 0 ⟨0, [], [], []⟩ := ⟨_, rfl⟩
      rw [← hR]
      simp only [inssD, otC] at hA ⊢
      refine con_run Try.func18 rfl rfl (by simp [Try.ntmps18]) ?_
      simp only [argT, argA, eq_self, xRun, vE, vP, isCutO, gN, isPick, isCall, AS.pt, AS.ev, AS.box, look, avB, td0, td1, td2, td3, td4, td5, td6, Option.getD, Option.isSome, ↓reduceIte, Nat.reduceLT, Nat.zero_add, true_and, Bool.false_eq_true, reduceCtorEq, Try.ntmps18]
      refine sw_call (hA) rfl (aAs_ok ?_) ?_ (sw_run 200 _ _ _ ?_)
      · simp only [aAs, aA, aD, AS.ev, look, Option.getD, List.map, List.append_nil, ↓reduceIte, eq_self, and_self]
      · simp only [okR]
      simp only [mkR, flatD, packA, retA, List.headD_cons, eq_self, xRun, vE, vP, vNot, isCutO, isB, bv, gT, gW, gN, gV, isU, isPick, isCall, AS.pt, AS.kn, AS.ev, look, td0, td1, td2, td3, td4, td5, td6, Option.bind, Option.getD, Option.isSome, List.getElem?_cons_zero, List.getElem?_cons_succ, ↓reduceIte, Nat.reduceLT, Nat.reduceEqDiff, true_and, Bool.not_true, Bool.false_eq_true, and_self, Nat.succ_ne_zero]
      refine sw_call (hW) rfl (aAs_ok ?_) ?_ (sw_run 200 _ _ _ ?_)
      · simp only [aAs, aA, aD, AS.ev, look, cav, Option.getD, List.map, List.append_nil, ↓reduceIte, Nat.reduceEqDiff, eq_self, and_self]
      · simp only [okR]
      simp only [mkR, flatD, packA, retA, List.headD_cons, eq_self, xRun, vE, vP, vNot, vBuild, isCutO, xFill, isB, bv, gT, gW, gN, gV, isU, isPick, pkC, pkB, isCall, AS.pt, AS.kn, AS.ev, AS.box, look, cav, AV.cells, AV.whole, AV.one, td0, td1, td2, td3, td4, td5, td6, Option.bind, Option.getD, Option.isSome, List.map, List.getElem?_cons_zero, List.getElem?_cons_succ, List.all, ↓reduceIte, Nat.reduceLT, Nat.reduceAdd, Nat.reduceEqDiff, true_and, Bool.and_true, Bool.not_true, Bool.false_eq_true, and_self]
      refine sw_brB 1 1 rfl rfl ?_
      refine sw_brB 1 2 rfl rfl ?_
      refine sw_brB 1 8 rfl rfl ?_
      refine sw_ownQ 1 3 162 rfl rfl ?_
      refine sw_loop (fun i : Nat × Mch => i.1 ≤ F ∧ GM i.1 i.2 ∧ runM code (F - i.1) i.1 i.2 = R)
        (fun i => ⟨71, [(6, .i i.1), (5, .bx 1 0), (4, .bx 0 0), (0, .br (.rows 2 code.length (flC insC code))), (1, .i F)], [(0, [.i 0, .i 0, .b false, .i 0]), (1, [.i i.2.pc, .br (.rows 5 i.2.st.length (flC vlI i.2.st)), .br (.rows 5 i.2.nm.length (flC vlI i.2.nm)), .sl 2, .i 0, .b false, .b false, .i 0, .br (.rows 5 0 [])])], [(2, some ⟨.rows 3 i.2.fr.length (flC frI i.2.fr), some 162, false⟩)], 3, []⟩)
        (fun i => F - i.1) (0, ⟨0, [], [], []⟩) id ⟨Nat.zero_le _, GM0, by rw [Nat.sub_zero]; exact hR.symm⟩ ?_ ?_
      · simp only [Sub, subT, subB, subO, subP, inj, AV.ren, AV.rens, AV.lt, AV.lts, eq_self, AS.setb, AS.mk', AS.owf, kill, look, td0, td1, td2, td3, td4, td5, td6, Option.bind, List.map, List.length, List.set, List.foldr, List.mem_cons, List.not_mem_nil, List.nodup_cons, List.nodup_nil, ↓reduceIte, Nat.reduceLT, Nat.reduceAdd, Nat.reduceEqDiff, not_false_eq_true, or_false, id_eq, reduceCtorEq, Int.natCast_zero, and_self, Nat.succ_ne_zero, Int.natCast_zero, flC]
      · rintro ⟨k, m⟩ ⟨hk, hm, hrun⟩
        simp only at hk hm hrun
        refine sw_run 200 _ _ _ ?_
        by_cases hkf : k = F
        · have hkf' : ((k : Int) = (F : Int)) = True := eq_true (by omega)
          rw [hkf, Nat.sub_self] at hrun
          subst hrun
          simp only [fQ, qLp, xRet, rPs, xRes, flatA, rD, rDs, eq_self, xRun, vE, vP, vBin, vBinT, isAg, isBo, vBuild, vStore, isCutO, xFill, isB, bv, gN, isPick, isCall, AS.pt, AS.ev, AS.setb, look, cav, setRowG, AV.cells, AV.whole, AV.one, eatsOf, td0, td1, td2, td3, td4, td5, td6, Option.getD, Option.isSome, List.map, List.length, List.getElem?_cons_zero, List.getElem?_cons_succ, List.set, List.all, List.nodup_nil, List.append_nil, ↓reduceIte, Nat.reduceLT, Nat.reduceAdd, Nat.reduceLeDiff, Nat.reduceEqDiff, Nat.zero_add, or_false, Bool.and_true, Bool.false_eq_true, reduceCtorEq, decide_true, and_self, Nat.succ_ne_zero, Nat.le_refl, hkf, runM, Try.results18]
        · have hkf' : ((k : Int) = (F : Int)) = False := eq_false (by omega)
          obtain ⟨r, hr⟩ : ∃ r, F - k = r + 1 := ⟨F - k - 1, by omega⟩
          rw [hr] at hrun
          unfold runM at hrun
          by_cases hpc : (code.length : Int) ≤ m.pc
          · rw [if_pos hpc] at hrun
            subst hrun
            simp only [fQ, qLp, xRet, rPs, xRes, flatA, rD, rDs, eq_self, xRun, vE, vP, vSub, vLoad, vFld, vBin, vBinT, isAg, isBo, vLen, vBuild, vStore, isCutO, xFill, isB, bv, gN, isPick, isCall, AS.pt, AS.ev, AS.setb, AS.rd, look, cav, setRowG, AV.cells, AV.whole, AV.one, eatsOf, td0, td1, td2, td3, td4, td5, td6, Option.getD, Option.isSome, List.map, List.length, List.getElem?_cons_zero, List.getElem?_cons_succ, List.set, List.all, List.nodup_nil, List.append_nil, ↓reduceIte, Nat.reduceLT, Nat.reduceAdd, Nat.reduceLeDiff, Nat.reduceEqDiff, Nat.zero_add, Nat.add_zero, ne_eq, not_false_eq_true, or_false, Bool.and_true, Bool.false_eq_true, reduceCtorEq, decide_true, decide_false, and_self, Nat.succ_ne_zero, Nat.le_refl, hkf', hpc, Try.results18]
          · rw [if_neg hpc] at hrun
            have h0 := hm.pc
            have hlt : m.pc.toNat < code.length := by omega
            have hpp : m.pc < (code.length : Int) := by omega
            have hX := con_exec m (.num 0) code[m.pc.toNat]! (hm.sz (by omega)) (codeB_at hc hlt)
            have hg := ex_ok hm (codeB_at hc hlt) (.num 0)
            have hd := ex_done (pcM m (m.pc + 1)) (.num 0) code[m.pc.toNat]!
            have hrow := flC_row insC_len code m.pc.toNat hlt
            generalize exM (pcM m (m.pc + 1)) (.num 0) code[m.pc.toNat]! = e at hX hg hd hrun
            generalize code[m.pc.toNat]! = x at hX hrow
            obtain ⟨es, em, ed⟩ := e
            simp only at hX hg hd hrun
            unfold mcI at hX
            simp only [insC, nm_n, nm_f, nm_r, nm_p, nm_c, List.length_nil, flC] at hX hrow
            simp only [rowD, eq_self, xRun, vE, vP, vSub, vLoad, vFld, vIdx, vBin, vBinT, isAg, isBo, vLen, isCutO, isB, bv, gN, isPick, isCall, AS.pt, AS.ev, AS.rd, look, avB, td0, td1, td2, td3, td4, td5, td6, Option.getD, Option.isSome, List.map, List.take, List.drop, List.length, List.getElem?_cons_zero, ↓reduceIte, Nat.reduceLT, Nat.reduceAdd, Nat.reduceEqDiff, Nat.zero_add, Nat.add_zero, ne_eq, not_false_eq_true, true_and, Bool.false_eq_true, reduceCtorEq, decide_false, and_self, Nat.succ_ne_zero, Nat.le_refl, hkf', hpc, h0.1, hpp, hrow]
            refine sw_callPR hX rfl rfl rfl ?_ ?_ ?_ (sw_run 200 _ _ _ ?_)
            · simp only [rC, rCs, AS.em, mPs, mP, aA, aDs, aD, rD, eq_self, AS.ev, AS.owf, look, td0, td1, td2, td3, td4, td5, td6, Option.bind, Option.getD, List.map, List.append_nil, ↓reduceIte, Nat.reduceEqDiff, id_eq, and_self, Nat.succ_ne_zero]
            · simp only [eC, eCs, ePs, eP, eq_self, AS.ev, look, td0, td1, td2, td3, td4, td5, td6, Option.getD, List.map, List.not_mem_nil, List.nodup_cons, List.nodup_nil, List.nil_append, List.append_nil, ↓reduceIte, Nat.reduceEqDiff, not_false_eq_true, and_self, Nat.succ_ne_zero]
            · simp only [bPs, bP, eq_self, AS.ev, look, td0, td1, td2, td3, td4, td5, td6, Option.getD, List.map, List.not_mem_nil, List.nodup_cons, List.nodup_nil, List.append_nil, ↓reduceIte, Nat.reduceEqDiff, not_false_eq_true, and_self]
            have i1 : inI ((k : Int) + 1) := by unfold inI; omega
            by_cases e0 : es = 0
            · rw [if_pos e0] at hrun
              have hed := hd (by omega)
              subst e0 hed
              simp only [nm_n, nm_f, nm_r, nm_p, nm_c, List.length_nil, flC]
              simp only [mkC, eC, eCs, aftS, aftV, AS.kb, rmBs, rmB, mkO, packRA, flatR, ePs, eP, bPs, bP, AS.kl, retA, List.headD_cons, qLp, eq_self, xRun, vE, vP, vBin, vBinT, isAg, isBo, isCutO, isB, bv, gT, gW, gN, gV, isU, isPick, pkC, pkB, isCall, AS.pt, AS.kn, AS.ev, AS.mk', kill, look, cav, avB, td0, td1, td2, td3, td4, td5, td6, Option.bind, Option.getD, Option.isSome, List.map, List.getElem?_cons_zero, List.getElem?_cons_succ, List.foldr, List.nil_append, List.append_nil, ↓reduceIte, Nat.reduceLT, Nat.reduceAdd, Nat.reduceEqDiff, ne_eq, not_true_eq_false, true_and, Bool.not_true, Bool.false_eq_true, reduceCtorEq, Int.reduceEq, decide_false, and_self, Nat.succ_ne_zero, qLp, i1]
              refine ⟨(k + 1, em), rn1 2 3, ⟨by omega, hg rfl, by rw [← hrun]; congr 1; omega⟩, by simp only; omega, ?_⟩
              simp only [Sub, subT, subB, subO, subP, inj, AV.ren, AV.rens, AV.lt, AV.lts, eq_self, AS.owf, look, td0, td1, td2, td3, td4, td5, td6, Option.bind, List.map, List.mem_cons, List.not_mem_nil, List.nodup_cons, List.nodup_nil, ↓reduceIte, Nat.reduceLT, Nat.reduceEqDiff, not_false_eq_true, or_false, id_eq, reduceCtorEq, and_self, Nat.succ_ne_zero, rn1, cast1]
            · rw [if_neg e0] at hrun
              have e0' : (es = 0) = False := eq_false e0
              by_cases e1 : es = 1
              · rw [if_pos e1] at hrun
                subst e1
                cases hf : ed.f with
                | true =>
                  rw [if_pos hf] at hrun
                  subst hrun
                  simp only [mkC, eC, eCs, aftS, aftV, AS.kb, rmBs, rmB, mkO, packRA, flatR, ePs, eP, bPs, bP, AS.kl, retA, List.headD_cons, fQ, qLp, xRet, rPs, xRes, flatA, rD, rDs, eq_self, xRun, vE, vP, vSub, vLoad, vFld, vBin, vBinT, isAg, isBo, vBuild, vStore, isCutO, xFill, isB, bv, gT, gW, gN, gV, isU, isPick, pkC, pkA, isCall, AS.pt, AS.kn, AS.ev, AS.setb, AS.mk', kill, look, cav, avB, setRowG, AV.cells, AV.whole, AV.one, eatsOf, td0, td1, td2, td3, td4, td5, td6, Option.bind, Option.getD, Option.isSome, List.map, List.length, List.getElem?_cons_zero, List.getElem?_cons_succ, List.set, List.foldr, List.all, List.nodup_nil, List.nil_append, List.append_nil, ↓reduceIte, Nat.reduceLT, Nat.reduceAdd, Nat.reduceLeDiff, Nat.reduceEqDiff, Nat.zero_add, ne_eq, not_false_eq_true, or_false, Bool.and_true, Bool.false_eq_true, reduceCtorEq, decide_true, and_self, Nat.succ_ne_zero, Nat.le_refl, i1, Try.results18]
                | false =>
                  rw [if_neg (by rw [hf]; simp)] at hrun
                  subst hrun
                  simp only [mkC, eC, eCs, aftS, aftV, AS.kb, rmBs, rmB, mkO, packRA, flatR, ePs, eP, bPs, bP, AS.kl, retA, List.headD_cons, fQ, qLp, xRet, rPs, xRes, flatA, rD, rDs, eq_self, xRun, vE, vP, vSub, vLoad, vFld, vBin, vBinT, isAg, isBo, vBuild, vStore, isCutO, xFill, isB, bv, gT, gW, gN, gV, isU, isPick, pkC, pkA, isCall, AS.pt, AS.kn, AS.ev, AS.setb, AS.mk', kill, look, cav, avB, setRowG, AV.cells, AV.whole, AV.one, eatsOf, td0, td1, td2, td3, td4, td5, td6, Option.bind, Option.getD, Option.isSome, List.map, List.length, List.getElem?_cons_zero, List.getElem?_cons_succ, List.set, List.foldr, List.all, List.nodup_nil, List.nil_append, List.append_nil, ↓reduceIte, Nat.reduceLT, Nat.reduceAdd, Nat.reduceLeDiff, Nat.reduceEqDiff, Nat.zero_add, Nat.add_zero, ne_eq, not_false_eq_true, or_false, Bool.and_true, Bool.false_eq_true, reduceCtorEq, Int.reduceEq, decide_true, and_self, Nat.succ_ne_zero, Nat.le_refl, i1, Try.results18]
              · rw [if_neg e1] at hrun
                have e1' : (es = 1) = False := eq_false e1
                have hed := hd e1
                subst hed hrun
                simp only [nm_n, nm_f, nm_r, nm_p, nm_c, List.length_nil, flC]
                simp only [mkC, eC, eCs, aftS, aftV, AS.kb, rmBs, rmB, mkO, packRA, flatR, ePs, eP, bPs, bP, AS.kl, retA, List.headD_cons, fQ, qLp, xRet, rPs, xRes, flatA, rD, rDs, eq_self, xRun, vE, vP, vSub, vLoad, vFld, vBin, vBinT, isAg, isBo, vBuild, vStore, isCutO, xFill, isB, bv, gT, gW, gN, gV, isU, isPick, pkC, pkB, isCall, AS.pt, AS.kn, AS.ev, AS.setb, AS.mk', kill, look, cav, avB, setRowG, AV.cells, AV.whole, AV.one, eatsOf, td0, td1, td2, td3, td4, td5, td6, Option.bind, Option.getD, Option.isSome, List.map, List.length, List.getElem?_cons_zero, List.getElem?_cons_succ, List.set, List.foldr, List.all, List.nodup_nil, List.nil_append, List.append_nil, ↓reduceIte, Nat.reduceLT, Nat.reduceAdd, Nat.reduceLeDiff, Nat.reduceEqDiff, Nat.zero_add, Nat.add_zero, ne_eq, not_false_eq_true, or_false, Bool.and_true, Bool.not_true, Bool.false_eq_true, reduceCtorEq, decide_true, decide_false, and_self, Nat.succ_ne_zero, Nat.le_refl, e0', e1', i1, Try.results18]
end Go.Proofs.Ytgjcilainojlfaa
