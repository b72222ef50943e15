/-
  The reference's sum of sums.
-/
import Derived.Test.YtepjbiffebbelaaAddI
namespace Go.Proofs.Ytepjbiffebbelaa
open Go.RowKit
set_option linter.unusedVariables false
set_option linter.unusedSimpArgs false
set_option maxRecDepth 20000
def tw : List Im → Im → Nat
  | [], _ => 0
  | x :: a, y => if nmL x < nmL y then tw a y + 1 else 0
theorem tw_le (y : Im) : ∀ l, tw l y ≤ l.length
  | [] => Nat.le_refl _
  | x :: a => by have := tw_le y a; rw [tw]; split <;> simp <;> omega
theorem tw_lt (y : Im) : ∀ (l : List Im) (i : Nat), i < tw l y → nmL l[i]! < nmL y
  | [], i, h => by simp [tw] at h
  | x :: a, i, h => by
    rw [tw] at h
    split at h
    · rename_i hx
      cases i with
      | zero => exact hx
      | succ i => exact tw_lt y a i (by omega)
    · omega
theorem tw_end (y : Im) : ∀ (l : List Im), tw l y < l.length → ¬ nmL l[tw l y]! < nmL y
  | [], h => by simp at h
  | x :: a, h => by
    rw [tw] at h ⊢
    split
    · rename_i hx
      rw [if_pos hx] at h
      exact tw_end y a (by simpa using h)
    · rename_i hx; exact hx
theorem put_miss (y : Im) : ∀ (l : List Im), ¬ (tw l y < l.length ∧ l[tw l y]!.name = y.name) → putL l y = l.take (tw l y) ++ (if y.coef = 0 then [] else [y]) ++ l.drop (tw l y)
  | [], h => by rw [putL]; split <;> rfl
  | x :: a, h => by
    rw [tw] at h ⊢
    rw [putL]
    by_cases hx : nmL x < nmL y
    · simp only [if_pos hx] at h ⊢
      rw [put_miss y a (fun e => h ⟨by simpa using e.1, by simpa using e.2⟩)]
      simp
    · simp only [if_neg hx] at h ⊢
      have hne : ¬ x.name = y.name := fun e => h ⟨by simp, by simpa using e⟩
      have h2 : nmL y < nmL x := by
        by_cases h2 : nmL y < nmL x
        · exact h2
        · exact absurd (nm_inj (lt_tot hx h2)) hne
      rw [if_pos h2]
      split <;> simp
theorem put_hit (y : Im) : ∀ (l : List Im), tw l y < l.length → l[tw l y]!.name = y.name → putL l y = l.take (tw l y) ++ (if red (y.coef + l[tw l y]!.coef) = 0 then [] else [⟨y.name, red (y.coef + l[tw l y]!.coef)⟩]) ++ l.drop (tw l y + 1)
  | [], h, _ => by simp at h
  | x :: a, h, hn => by
    rw [tw] at h hn ⊢
    rw [putL]
    by_cases hx : nmL x < nmL y
    · simp only [if_pos hx] at h hn ⊢
      rw [put_hit y a (by simpa using h) (by simpa using hn)]
      simp
    · simp only [if_neg hx] at h hn ⊢
      have e : x.name = y.name := by simpa using hn
      have e2 : nmL x = nmL y := by unfold nmL; rw [e]
      have h2 : ¬ nmL y < nmL x := by rw [e2]; exact lt_irr _
      rw [if_neg h2]
      simp only [List.getElem!_cons_zero]
      split <;> simp
theorem asc_nm (x y : Im) : asc x.name y.name = decide (nmL x < nmL y) := by
  rw [asc, bytesLess_eq, Lib.toList_data, Lib.toList_data]; rfl
theorem put_cases (l : List Im) (y : Im) : (∃ z r, l.drop (tw l y) = z :: r ∧ z ∈ l ∧ z.name = y.name ∧ putL l y = l.take (tw l y) ++ (if red (y.coef + z.coef) = 0 then [] else [⟨y.name, red (y.coef + z.coef)⟩]) ++ r) ∨
    ((∀ z r, l.drop (tw l y) = z :: r → ¬ z.name = y.name) ∧ putL l y = l.take (tw l y) ++ (if y.coef = 0 then [] else [y]) ++ l.drop (tw l y)) := by
  by_cases h : tw l y < l.length ∧ l[tw l y]!.name = y.name
  · exact .inl ⟨l[tw l y]!, l.drop (tw l y + 1), by rw [getElem!_pos l _ h.1]; exact List.drop_eq_getElem_cons h.1, mem_bang h.1, h.2, put_hit y l h.1 h.2⟩
  · refine .inr ⟨fun z r e en => h ?_, put_miss y l h⟩
    have hl : tw l y < l.length := by
      have : (l.drop (tw l y)).length = r.length + 1 := by rw [e]; rfl
      rw [List.length_drop] at this; omega
    rw [List.drop_eq_getElem_cons hl] at e
    injection e with e1 e2
    exact ⟨hl, by rw [getElem!_pos l _ hl, e1, en]⟩
theorem cut_pre (l : List Im) (i : Nat) (h : i ≤ l.length) : cutD (.rows 2 l.length (flC imC l)) 0 i = .rows 2 (l.take i).length (flC imC (l.take i)) := by
  have e : flC imC l = flC imC (l.take i) ++ flC imC (l.drop i) := by rw [← flC_app, List.take_append_drop]
  have e2 : (flC imC (l.take i)).length = i * 2 := by rw [flC_len imC_len, List.length_take, Nat.min_eq_left h]
  rw [cutD, List.length_take, Nat.min_eq_left h, e, Nat.zero_mul, List.drop_zero, Nat.sub_zero, ← e2, List.take_left]
theorem cut_post (l : List Im) (i : Nat) (h : i ≤ l.length) : cutD (.rows 2 l.length (flC imC l)) i l.length = .rows 2 (l.drop i).length (flC imC (l.drop i)) := by
  have e : flC imC l = flC imC (l.take i) ++ flC imC (l.drop i) := by rw [← flC_app, List.take_append_drop]
  have e2 : (flC imC (l.take i)).length = i * 2 := by rw [flC_len imC_len, List.length_take, Nat.min_eq_left h]
  have e3 : (flC imC (l.drop i)).length = (l.length - i) * 2 := by rw [flC_len imC_len, List.length_drop]
  rw [cutD, List.length_drop, e, ← e2, List.drop_left, ← e3, List.take_length]
theorem con_Put (l : List Im) (y : Im) (hl : l.length ≤ 1000000) (hsl : ∀ x ∈ l, smI x) (hy : smI y) : Con Try.prog 43 [.one (.rows 2 l.length (flC imC l)), .ag (imC y)] [.one (imsD (putL l y))] := by
  have htl := tw_le y l
  refine con_run Try.func43 rfl rfl (by simp [Try.ntmps43]) ?_
  simp only [argT, argA, eq_self, xRun, vE, vP, isCutO, gN, isPick, isCall, AS.pt, AS.ev, AS.box, look, cav, avB, AV.cells, AV.whole, AV.one, td0, td1, td2, td3, td4, td5, td6, Option.getD, List.map, List.all, ↓reduceIte, Nat.reduceLT, Nat.zero_add, true_and, Bool.and_true, Bool.false_eq_true, Nat.succ_ne_zero, imC, Try.ntmps43]
  refine sw_loop (fun k : Nat => k ≤ tw l y) (fun k => ⟨65, [(5, .i k), (3, .bx 0 0), (0, .br (.rows 2 l.length (flC imC l)))], [(0, [.s y.name, .i y.coef])], [], 1, []⟩) (fun k => tw l y - k) 0 id (Nat.zero_le _) ?_ ?_
  · simp only [Sub, subT, subB, subO, subP, inj, AV.ren, AV.rens, AV.lt, AV.lts, eq_self, look, td0, td1, td2, td3, td4, td5, td6, List.map, List.not_mem_nil, List.nodup_cons, List.nodup_nil, ↓reduceIte, Nat.reduceLT, Nat.reduceEqDiff, not_false_eq_true, id_eq, reduceCtorEq, Int.natCast_zero, and_self]
  rintro k hk
  refine sw_run 200 _ _ _ ?_
  simp only [eq_self, xRun, td0, td1, td2, td3, td4, td5, td6, ↓reduceIte]
  obtain ⟨bk, hbk⟩ : ∃ b, b = decide (k < tw l y) := ⟨_, rfl⟩
  refine sw_drawnK ⟨65, [(21, .b bk), (5, .i k), (3, .bx 0 0), (0, .br (.rows 2 l.length (flC imC l)))], [(0, [.s y.name, .i y.coef])], [], 1, []⟩ (.cons 0 true (.cons 1 true (.cons 2 true (.cons 3 true (.cons 4 true (.cons 5 true (.cons 6 true (.cons 7 true (.cons 8 true (.cons 9 true (.cons 10 true (.cons 11 true (.cons 12 true (.cons 13 true (.nil))))))))))))))) (by kernel_rfl) (by kernel_rfl) ?_ ?_
  · refine sw_run 200 _ _ _ ?_
    by_cases hlt : k < l.length
    · have hi : (k : Int) < (l.length : Int) := by omega
      have hR := flC_row imC_len l k hlt
      simp only [imC] at hR
      have hb : Op.bytesLess l[k]!.name.toList y.name.toList = bk := by
        rw [hbk, show Op.bytesLess l[k]!.name.toList y.name.toList = asc l[k]!.name y.name from rfl, asc_nm]
        by_cases h : k < tw l y
        · rw [decide_eq_true (tw_lt y l k h), decide_eq_true h]
        · obtain rfl : k = tw l y := by omega
          rw [decide_eq_false (tw_end y l hlt), decide_eq_false h]
      simp only [rowD, eq_self, xRun, vP, vSub, vLoad, vFld, vIdx, vBin, vBinT, isAg, isBo, vLen, isB, bv, gT, gW, gN, gV, isU, isPick, pkC, pkA, AS.pt, AS.kn, AS.ev, AS.rd, look, avB, td0, td1, td2, td3, td4, td5, td6, Option.bind, Option.getD, Option.isSome, List.map, List.getElem?_cons_zero, List.getElem?_cons_succ, ↓reduceIte, Nat.reduceLT, Nat.reduceEqDiff, Nat.add_zero, ne_eq, not_false_eq_true, true_and, Bool.false_eq_true, reduceCtorEq, Int.toNat_natCast, Int.natCast_nonneg, decide_true, and_self, Nat.succ_ne_zero, hi, hR, hb]
      refine ⟨rfl, id, ?_⟩
      simp only [Sub, subT, subB, subO, subP, inj, AV.ren, AV.rens, AV.lt, AV.lts, eq_self, look, td0, td1, td2, td3, td4, td5, td6, List.map, List.not_mem_nil, List.nodup_cons, List.nodup_nil, ↓reduceIte, Nat.reduceLT, Nat.reduceEqDiff, not_false_eq_true, id_eq, reduceCtorEq, and_self]
    · have hi : ¬ (k : Int) < (l.length : Int) := by omega
      have hb : bk = false := by rw [hbk]; exact decide_eq_false (by omega)
      simp only [eq_self, xRun, vP, vBin, vBinT, isAg, isBo, vLen, isB, bv, gT, gW, gN, gV, isU, isPick, pkC, pkB, AS.pt, AS.kn, AS.ev, AS.rd, look, cav, td0, td1, td2, td3, td4, td5, td6, Option.bind, Option.getD, Option.isSome, List.getElem?_cons_zero, List.getElem?_cons_succ, ↓reduceIte, Nat.reduceLT, Nat.reduceEqDiff, true_and, Bool.not_true, Bool.false_eq_true, reduceCtorEq, decide_false, and_self, hi, hb]
      refine ⟨rfl, id, ?_⟩
      simp only [Sub, subT, subB, subO, subP, inj, AV.ren, AV.rens, AV.lt, AV.lts, eq_self, look, td0, td1, td2, td3, td4, td5, td6, List.map, List.not_mem_nil, List.nodup_cons, List.nodup_nil, ↓reduceIte, Nat.reduceLT, Nat.reduceEqDiff, not_false_eq_true, id_eq, reduceCtorEq, and_self]
  refine sw_run 200 _ _ _ ?_
  by_cases hk2 : k < tw l y
  · have hb : bk = true := by rw [hbk]; exact decide_eq_true hk2
    simp only [qLp, eq_self, xRun, vE, vP, vBin, vBinT, isAg, isBo, isCutO, isB, bv, gN, isPick, isCall, AS.pt, AS.ev, look, cav, td0, td1, td2, td3, td4, td5, td6, Option.getD, ↓reduceIte, Nat.reduceLT, Nat.reduceEqDiff, true_and, Bool.false_eq_true, hb, qLp]
    refine ⟨by unfold inI; omega, k + 1, id, by omega, by omega, ?_⟩
    simp only [Sub, subT, subB, subO, subP, inj, AV.ren, AV.rens, AV.lt, AV.lts, eq_self, look, td0, td1, td2, td3, td4, td5, td6, List.map, List.not_mem_nil, List.nodup_cons, List.nodup_nil, ↓reduceIte, Nat.reduceLT, Nat.reduceEqDiff, not_false_eq_true, id_eq, reduceCtorEq, and_self, cast1]
  have hb : bk = false := by rw [hbk]; exact decide_eq_false hk2
  obtain rfl : k = tw l y := by omega
  have hmx : ((tw l y : Nat) : Int) ≤ (l.length : Int) := by omega
  simp only [qLp, eq_self, xRun, isB, bv, popTo, AS.ev, look, td0, td1, td2, td3, td4, td5, td6, Option.getD, Option.isSome, ↓reduceIte, true_and, Bool.false_eq_true, hb]
  refine sw_run 200 _ _ _ ?_
  have hcA := cut_pre l (tw l y) htl
  have hcB := cut_post l (tw l y) htl
  have hpc := put_cases l y
  have hHl : (l.take (tw l y)).length ≤ 1000000 := by rw [List.length_take]; omega
  have hRl : (l.drop (tw l y)).length ≤ 1000000 := by rw [List.length_drop]; omega
  simp only [eq_self, xRun, vE, vP, vCut, vSlc, vRow, vApp, apP, apC, isCl, isCutO, xFill, appL, appR, ixL, ixH, gN, isPick, isCall, AS.pt, AS.ev, AS.mk', AS.owf, kill, look, cDs, eatsOf, td0, td1, td2, td3, td4, td5, td6, Option.bind, Option.getD, Option.map, Option.isSome, List.map, List.foldr, List.all, List.replicate, List.mem_cons, List.not_mem_nil, List.nodup_nil, List.nil_append, List.append_nil, ↓reduceIte, Nat.reduceLT, Nat.reduceAdd, Nat.reduceEqDiff, Nat.zero_add, Nat.zero_mul, not_false_eq_true, true_and, or_false, or_true, Bool.and_true, Bool.not_false, Bool.false_eq_true, id_eq, reduceCtorEq, Int.toNat_natCast, Int.toNat_zero, Int.le_refl, Int.natCast_nonneg, and_self, Nat.zero_le, vCut, hmx, Int.toNat_zero, Int.toNat_natCast, hcA, hcB]
  generalize l.take (tw l y) = H at *
  generalize l.drop (tw l y) = R at *
  refine ⟨⟨fun _ => prim_ims H, by simp, by unfold maxLen; omega, by omega⟩, ?_⟩
  rcases hpc with ⟨z, r, rfl, hz, hzn, hput⟩ | ⟨hne, hput⟩
  · have hR0 : rowAt 2 (flC imC (z :: r)) 0 = [.str z.name, .int z.coef] := flC_row imC_len (z :: r) 0 (by simp)
    have hpos : (0 : Int) < ((z :: r).length : Int) := by simp only [List.length_cons]; omega
    have hle1 : (1 : Int) ≤ ((z :: r).length : Int) := by omega
    have hcut : cutD (.rows 2 (z :: r).length (flC imC (z :: r))) 1 (z :: r).length = .rows 2 r.length (flC imC r) := cut_post (z :: r) 1 (by simp)
    have hrl : r.length ≤ 1000000 := by simp only [List.length_cons] at hRl; omega
    have hzs := hsl z hz
    unfold smI at hzs hy
    have hin : inI (y.coef + z.coef) := by unfold inI; omega
    generalize z :: r = R at *
    refine sw_drawn (.cons 0 true (.cons 1 true (.cons 2 true (.cons 3 true (.cons 4 true (.cons 5 true (.cons 6 true (.cons 7 true (.cons 8 true (.cons 9 true (.cons 10 true (.cons 11 true (.nil))))))))))))) (by kernel_rfl) fQ_panic (by kernel_rfl) (sw_run 200 _ _ _ ?_)
    simp only [rowD, eq_self, xRun, vP, vSub, vLoad, vFld, vIdx, vBin, vBinT, isAg, isBo, vLen, isB, bv, gT, gW, gN, gV, isU, isPick, pkC, pkA, AS.pt, AS.kn, AS.ev, AS.rd, look, cav, avB, td0, td1, td2, td3, td4, td5, td6, Option.bind, Option.getD, Option.isSome, List.map, List.getElem?_cons_zero, List.getElem?_cons_succ, ↓reduceIte, Nat.reduceLT, Nat.reduceEqDiff, Nat.add_zero, ne_eq, not_false_eq_true, true_and, Bool.false_eq_true, Int.toNat_zero, Int.le_refl, decide_true, and_self, Nat.succ_ne_zero, hpos, hR0, hzn]
    refine sw_drawn (.cons 0 true (.cons 1 true (.cons 2 true (.cons 3 true (.cons 4 true (.cons 5 true (.cons 6 true (.cons 7 false (.cons 8 true (.cons 9 false (.nil))))))))))) (by kernel_rfl) fQ_panic (by kernel_rfl) (sw_run 200 _ _ _ ?_)
    simp only [rowD, eq_self, xRun, vP, vSub, vLoad, vFld, vIdx, vBin, vBinT, isAg, isBo, gN, isPick, isCall, AS.pt, AS.ev, look, cav, avB, td0, td1, td2, td3, td4, td5, td6, Option.getD, Option.isSome, List.map, List.getElem?_cons_zero, List.getElem?_cons_succ, ↓reduceIte, Nat.reduceLT, Nat.reduceEqDiff, Nat.zero_add, ne_eq, not_false_eq_true, true_and, Bool.false_eq_true, Int.toNat_zero, Int.le_refl, and_self, Nat.succ_ne_zero, hpos, hR0, hin]
    refine sw_callD (con_ReduceS (y.coef + z.coef)) rfl (aAs_ok ?_) ?_ (sw_run 200 _ _ _ ?_)
    · simp only [aAs, aA, aD, AS.ev, look, Option.getD, List.map, List.append_nil, ↓reduceIte, eq_self, and_self]
    · simp only [okR]
    have hred : red (y.coef + z.coef) = (y.coef + z.coef) % 10007 := rfl
    rw [hred] at hput
    simp only [mkR, flatD, packA, retA, List.headD_cons, fQ, xRet, eq_self, xRun, vE, vP, vSub, vLoad, vFld, vBin, vBinT, isAg, isBo, vCut, vSlc, vRow, vStore, vApp, apP, apC, isCl, isCutO, xFill, appL, appR, ixL, ixH, isB, bv, gN, isPick, isCall, AS.pt, AS.ev, AS.setb, AS.mk', AS.owf, kill, look, cav, setRowG, AV.cells, AV.whole, AV.one, cD, cDs, eatsOf, dpOf, td0, td1, td2, td3, td4, td5, td6, Option.bind, Option.getD, Option.map, Option.isSome, List.map, List.take, List.drop, List.length, List.getElem?_cons_zero, List.getElem?_cons_succ, List.set, List.foldr, List.all, List.replicate, List.mem_cons, List.not_mem_nil, List.nodup_nil, List.nil_append, List.cons_append, List.append_nil, ↓reduceIte, Nat.reduceLT, Nat.reduceAdd, Nat.reduceLeDiff, Nat.reduceEqDiff, Nat.zero_add, Nat.zero_mul, Nat.one_mul, ne_eq, not_false_eq_true, true_and, or_false, or_true, Bool.and_true, Bool.not_false, Bool.false_eq_true, id_eq, reduceCtorEq, Int.toNat_natCast, Int.reduceLE, Int.toNat_one, Int.le_refl, and_self, decide_eq_true_eq, Nat.succ_ne_zero, Nat.le_refl, vCut, hle1, Int.toNat_one, hcut]
    by_cases hc : (y.coef + z.coef) % 10007 = 0
    · rw [if_pos hc, List.append_nil] at hput
      simp only [rPs, xRes, flatA, rD, eq_self, AS.owf, look, eatsOf, td0, td1, td2, td3, td4, td5, td6, Option.bind, List.map, List.not_mem_nil, List.nodup_cons, List.nodup_nil, ↓reduceIte, not_false_eq_true, not_true_eq_false, and_true, id_eq, decide_false, and_self, hc, hput, imsD, flC_app, List.length_append, Try.results43]
      exact ⟨fun _ => prim_ims r, by simp, by unfold maxLen; omega, by omega⟩
    · rw [if_neg hc] at hput
      simp only [rPs, xRes, flatA, rD, eq_self, AS.owf, look, eatsOf, td0, td1, td2, td3, td4, td5, td6, Option.bind, List.map, List.length, List.not_mem_nil, List.nodup_cons, List.nodup_nil, ↓reduceIte, Nat.zero_add, not_false_eq_true, and_true, id_eq, decide_true, and_self, hc, hput, imsD, flC_app, flC_one, List.length_append, imC, Try.results43]
      exact ⟨⟨fun h => h.elim, fun o ho => by omega, by unfold maxLen; omega, by omega⟩, fun _ => prim_ims r, by simp, by unfold maxLen; omega, by omega⟩
  · refine sw_drawnK ⟨65, [(43, .b false), (7, .br (.rows 2 R.length (flC imC R))), (6, .sl 2), (3, .bx 0 0)], [(0, [.s y.name, .i y.coef])], [(2, some ⟨.rows 2 H.length (flC imC H), some 80, true⟩)], 3, []⟩ (.cons 0 true (.cons 1 true (.cons 2 true (.cons 3 true (.cons 4 true (.cons 5 true (.cons 6 true (.cons 7 true (.cons 8 true (.cons 9 true (.cons 10 true (.cons 11 true (.nil))))))))))))) (by kernel_rfl) (by kernel_rfl) ?_ ?_
    · refine sw_run 200 _ _ _ ?_
      cases R with
      | nil =>
        have hpos : ¬ (0 : Int) < (([] : List Im).length : Int) := by simp
        simp only [eq_self, xRun, vP, vBin, vBinT, isAg, isBo, vLen, isB, bv, gT, gW, gN, gV, isU, isPick, pkC, pkB, AS.pt, AS.kn, AS.ev, AS.rd, look, cav, td0, td1, td2, td3, td4, td5, td6, Option.bind, Option.getD, Option.isSome, List.length, List.getElem?_cons_zero, List.getElem?_cons_succ, ↓reduceIte, Nat.reduceLT, Nat.reduceEqDiff, true_and, Bool.not_true, Bool.false_eq_true, Int.reduceLT, Int.natCast_zero, decide_false, and_self]
        refine ⟨rfl, id, ?_⟩
        simp only [Sub, subT, subB, subO, subP, inj, AV.ren, AV.rens, AV.lt, AV.lts, eq_self, AS.owf, look, td0, td1, td2, td3, td4, td5, td6, Option.bind, List.map, List.not_mem_nil, List.nodup_cons, List.nodup_nil, ↓reduceIte, Nat.reduceLT, Nat.reduceEqDiff, not_false_eq_true, id_eq, and_self]
      | cons z r =>
        have hR0 : rowAt 2 (flC imC (z :: r)) 0 = [.str z.name, .int z.coef] := flC_row imC_len (z :: r) 0 (by simp)
        have hpos : (0 : Int) < ((z :: r).length : Int) := by simp only [List.length_cons]; omega
        have hzn := hne z r rfl
        generalize z :: r = R at *
        simp only [rowD, eq_self, xRun, vP, vSub, vLoad, vFld, vIdx, vBin, vBinT, isAg, isBo, vLen, isB, bv, gT, gW, gN, gV, isU, isPick, pkC, pkA, AS.pt, AS.kn, AS.ev, AS.rd, look, cav, avB, td0, td1, td2, td3, td4, td5, td6, Option.bind, Option.getD, Option.isSome, List.map, List.getElem?_cons_zero, List.getElem?_cons_succ, ↓reduceIte, Nat.reduceLT, Nat.reduceEqDiff, Nat.add_zero, ne_eq, not_false_eq_true, true_and, Bool.false_eq_true, Int.toNat_zero, Int.le_refl, decide_true, decide_false, and_self, Nat.succ_ne_zero, hpos, hR0, hzn]
        refine ⟨rfl, id, ?_⟩
        simp only [Sub, subT, subB, subO, subP, inj, AV.ren, AV.rens, AV.lt, AV.lts, eq_self, AS.owf, look, td0, td1, td2, td3, td4, td5, td6, Option.bind, List.map, List.not_mem_nil, List.nodup_cons, List.nodup_nil, ↓reduceIte, Nat.reduceLT, Nat.reduceEqDiff, not_false_eq_true, id_eq, and_self]
    refine sw_run 200 _ _ _ ?_
    by_cases hc : y.coef = 0
    · rw [if_pos hc, List.append_nil] at hput
      simp only [fQ, xRet, rPs, xRes, flatA, rD, eq_self, xRun, vE, vP, vSub, vLoad, vFld, vBin, vBinT, isAg, isBo, vApp, apP, apC, isCl, isCutO, appL, appR, isB, bv, gN, isPick, isCall, AS.pt, AS.ev, AS.mk', AS.owf, kill, look, cav, eatsOf, td0, td1, td2, td3, td4, td5, td6, Option.bind, Option.getD, Option.isSome, List.map, List.getElem?_cons_zero, List.getElem?_cons_succ, List.foldr, List.mem_cons, List.not_mem_nil, List.nodup_cons, List.nodup_nil, List.append_nil, ↓reduceIte, Nat.reduceLT, Nat.reduceAdd, Nat.reduceEqDiff, Nat.zero_add, ne_eq, not_false_eq_true, not_true_eq_false, true_and, and_true, or_false, Bool.and_true, Bool.not_false, Bool.false_eq_true, id_eq, reduceCtorEq, decide_false, and_self, Nat.succ_ne_zero, hc, hput, imsD, flC_app, List.length_append, Try.results43]
      exact ⟨fun _ => prim_ims R, by simp, by unfold maxLen; omega, by omega⟩
    · rw [if_neg hc] at hput
      simp only [fQ, xRet, rPs, xRes, flatA, rD, eq_self, xRun, vE, vP, vSub, vLoad, vFld, vBin, vBinT, isAg, isBo, vRow, vApp, apP, apC, isCl, isCutO, xFill, appL, appR, isB, bv, gN, isPick, isCall, AS.pt, AS.ev, AS.mk', AS.owf, kill, look, cav, setRowG, AV.cells, AV.whole, AV.one, cD, cDs, eatsOf, dpOf, td0, td1, td2, td3, td4, td5, td6, Option.bind, Option.getD, Option.isSome, List.map, List.take, List.drop, List.length, List.getElem?_cons_zero, List.getElem?_cons_succ, List.set, List.foldr, List.all, List.replicate, List.mem_cons, List.not_mem_nil, List.nodup_cons, List.nodup_nil, List.nil_append, List.cons_append, List.append_nil, ↓reduceIte, Nat.reduceLT, Nat.reduceAdd, Nat.reduceLeDiff, Nat.reduceEqDiff, Nat.zero_add, Nat.zero_mul, Nat.one_mul, ne_eq, not_false_eq_true, true_and, and_true, or_false, or_true, Bool.and_true, Bool.not_false, Bool.false_eq_true, id_eq, reduceCtorEq, decide_true, and_self, Nat.succ_ne_zero, Nat.le_refl, hc, hput, imsD, flC_app, flC_one, List.length_append, List.length_cons, imC, Try.results43]
      exact ⟨⟨fun h => h.elim, fun o ho => by omega, by unfold maxLen; omega, by omega⟩, fun _ => prim_ims R, by simp, by unfold maxLen; omega, by omega⟩
theorem put_sm (l : List Im) (y : Im) (h : ∀ x ∈ l, smI x) (hy : smI y) : ∀ x ∈ putL l y, smI x := by
  intro x hx
  rcases put_cases l y with ⟨z, r, e, _, _, hput⟩ | ⟨_, hput⟩ <;> rw [hput] at hx <;> rcases List.mem_append.1 hx with hx | hx
  · rcases List.mem_append.1 hx with hx | hx
    · exact h x (List.mem_of_mem_take hx)
    · split at hx
      · cases hx
      · rw [List.mem_singleton.1 hx]; unfold smI red; simp only; omega
  · exact h x (List.mem_of_mem_drop (e ▸ List.mem_cons_of_mem _ hx))
  · rcases List.mem_append.1 hx with hx | hx
    · exact h x (List.mem_of_mem_take hx)
    · split at hx
      · cases hx
      · rw [List.mem_singleton.1 hx]; exact hy
  · exact h x (List.mem_of_mem_drop hx)
theorem put_len (l : List Im) (y : Im) : (putL l y).length ≤ l.length + 1 := by
  have e : (l.take (tw l y)).length + (l.drop (tw l y)).length = l.length := by rw [← List.length_append, List.take_append_drop]
  rcases put_cases l y with ⟨z, r, e2, _, _, hput⟩ | ⟨_, hput⟩ <;> rw [hput, List.length_append, List.length_append]
  · rw [e2, List.length_cons] at e
    split <;> simp only [List.length_nil, List.length_cons] <;> omega
  · split <;> simp only [List.length_nil, List.length_cons] <;> omega
def fdI (a b : List Im) (k : Nat) : List Im := (b.take k).foldl putL a
theorem fd_step (a b : List Im) (k : Nat) (h : k < b.length) : fdI a b (k + 1) = putL (fdI a b k) b[k]! := by
  rw [fdI, take_snoc b k h, List.foldl_append]; rfl
theorem fd_ok (a b : List Im) (ha : ∀ x ∈ a, smI x) (hb : ∀ x ∈ b, smI x) : ∀ k, k ≤ b.length → (∀ x ∈ fdI a b k, smI x) ∧ (fdI a b k).length ≤ a.length + k
  | 0, _ => ⟨ha, Nat.le_refl _⟩
  | k + 1, hk => by
    obtain ⟨h1, h2⟩ := fd_ok a b ha hb k (by omega)
    have := put_len (fdI a b k) b[k]!
    rw [fd_step a b k hk]
    exact ⟨put_sm _ _ h1 (hb _ (mem_bang hk)), by omega⟩
theorem con_AddS (a b : Sm) (hza : szL (sumC a) ≤ 1000000000) (hzb : szL (sumC b) ≤ 1000000000) : Con Try.prog 9 [.ag (sumC a), .ag (sumC b)] [.ag (sumC (adR a b)), .one (.bool (adB a b))] := by
  have ha := con_IsSumS a hza
  have hb := con_IsSumS b hzb
  by_cases hoa : sumOk a = true
  case neg =>
    have hoa : sumOk a = false := by simpa using hoa
    have hR : adR a b = zeroS := by rw [adR, hoa]; rfl
    have hB : adB a b = false := by rw [adB, hoa]; rfl
    rw [hoa] at ha
    rw [hR, hB]
    refine con_run Try.func9 rfl rfl (by simp [Try.ntmps9]) ?_
    simp only [argT, argA, eq_self, xRun, vE, vP, vSub, vLoad, isCutO, gN, isPick, isCall, AS.pt, AS.ev, AS.box, look, cav, avB, AV.cells, AV.whole, AV.one, td0, td1, td2, td3, td4, td5, td6, Option.getD, Option.isSome, List.map, List.take, List.drop, List.length, List.all, ↓reduceIte, Nat.reduceLT, Nat.reduceAdd, Nat.reduceEqDiff, Nat.zero_add, true_and, Bool.and_true, Bool.false_eq_true, reduceCtorEq, Nat.succ_ne_zero, Nat.le_refl, sumC, imsD, Try.ntmps9]
    refine sw_call (ha) rfl (aAs_ok ?_) ?_ (sw_run 200 _ _ _ ?_)
    · simp only [aAs, aA, aDs, aD, AS.ev, look, Option.getD, List.map, List.append_nil, ↓reduceIte, eq_self, and_self, sumC, imsD]
    · simp only [okR]
    simp only [mkR, flatD, packA, retA, List.headD_cons, fQ, xRet, rPs, xRes, flatA, rD, rDs, eq_self, xRun, vE, vP, vNot, vBuild, vStore, isCutO, xFill, isB, bv, gT, gW, gN, gV, isU, isPick, pkC, pkA, isCall, AS.pt, AS.kn, AS.ev, AS.setb, look, cav, setRowG, AV.cells, AV.whole, AV.one, eatsOf, td0, td1, td2, td3, td4, td5, td6, Option.bind, Option.getD, Option.isSome, List.map, List.length, List.getElem?_cons_zero, List.getElem?_cons_succ, List.set, List.all, List.nodup_nil, List.nil_append, List.cons_append, ↓reduceIte, Nat.reduceLT, Nat.reduceAdd, Nat.reduceEqDiff, Nat.zero_add, or_false, Bool.and_true, Bool.not_false, Bool.false_eq_true, Bool.true_eq_false, reduceCtorEq, and_self, Nat.le_refl, zeroS, flC, Try.results9]
  rw [hoa] at ha
  by_cases hob : sumOk b = true
  case neg =>
    have hob : sumOk b = false := by simpa using hob
    have hR : adR a b = zeroS := by rw [adR, hoa, hob]; rfl
    have hB : adB a b = false := by rw [adB, hoa, hob]; rfl
    rw [hob] at hb
    rw [hR, hB]
    refine con_run Try.func9 rfl rfl (by simp [Try.ntmps9]) ?_
    simp only [argT, argA, eq_self, xRun, vE, vP, vSub, vLoad, isCutO, gN, isPick, isCall, AS.pt, AS.ev, AS.box, look, cav, avB, AV.cells, AV.whole, AV.one, td0, td1, td2, td3, td4, td5, td6, Option.getD, Option.isSome, List.map, List.take, List.drop, List.length, List.all, ↓reduceIte, Nat.reduceLT, Nat.reduceAdd, Nat.reduceEqDiff, Nat.zero_add, true_and, Bool.and_true, Bool.false_eq_true, reduceCtorEq, Nat.succ_ne_zero, Nat.le_refl, sumC, imsD, Try.ntmps9]
    refine sw_call (ha) rfl (aAs_ok ?_) ?_ (sw_run 200 _ _ _ ?_)
    · simp only [aAs, aA, aDs, aD, AS.ev, look, Option.getD, List.map, List.append_nil, ↓reduceIte, eq_self, and_self, sumC, imsD]
    · simp only [okR]
    simp only [mkR, flatD, packA, retA, List.headD_cons, eq_self, xRun, vE, vP, vSub, vLoad, vNot, isCutO, isB, bv, gT, gW, gN, gV, isU, isPick, isCall, AS.pt, AS.kn, AS.ev, look, td0, td1, td2, td3, td4, td5, td6, Option.bind, Option.getD, Option.isSome, List.take, List.drop, List.length, List.getElem?_cons_zero, List.getElem?_cons_succ, ↓reduceIte, Nat.reduceLT, Nat.reduceAdd, Nat.reduceEqDiff, Nat.zero_add, true_and, Bool.not_true, Bool.false_eq_true, and_self, Nat.le_refl]
    refine sw_call (hb) rfl (aAs_ok ?_) ?_ (sw_run 200 _ _ _ ?_)
    · simp only [aAs, aA, aDs, aD, AS.ev, look, Option.getD, List.map, List.append_nil, ↓reduceIte, Nat.reduceEqDiff, eq_self, and_self, sumC, imsD]
    · simp only [okR]
    simp only [mkR, flatD, packA, retA, List.headD_cons, fQ, xRet, rPs, xRes, flatA, rD, rDs, eq_self, xRun, vE, vP, vNot, vBuild, vStore, isCutO, xFill, isB, bv, gT, gW, gN, gV, isU, isPick, pkC, pkB, isCall, AS.pt, AS.kn, AS.ev, AS.setb, look, cav, setRowG, AV.cells, AV.whole, AV.one, eatsOf, td0, td1, td2, td3, td4, td5, td6, Option.bind, Option.getD, Option.isSome, List.map, List.length, List.getElem?_cons_zero, List.getElem?_cons_succ, List.set, List.all, List.nodup_nil, List.nil_append, List.cons_append, ↓reduceIte, Nat.reduceLT, Nat.reduceAdd, Nat.reduceEqDiff, Nat.zero_add, or_false, Bool.and_true, Bool.not_false, Bool.false_eq_true, reduceCtorEq, and_self, Nat.le_refl, zeroS, flC, Try.results9]
  rw [hob] at hb
  have hR : adR a b = chkS (adS a b) := by rw [adR, hoa, hob]; rfl
  have hB : adB a b = sumOk (adS a b) := by rw [adB, hoa, hob]; rfl
  rw [hR, hB]
  obtain ⟨haA, hac, hal⟩ := sumOk_t hoa
  obtain ⟨hbA, hbc, hbl⟩ := sumOk_t hob
  have hfp := fold_put b.items a.items (ascL_of _ haA) (ascL_of _ hbA) (fun x hx h => by have := okC_of _ hbA x hx; omega)
  have hsa : ∀ x ∈ a.items, smI x := fun x hx => by have := okC_of _ haA x hx; unfold smI; omega
  have hsb : ∀ x ∈ b.items, smI x := fun x hx => by have := okC_of _ hbA x hx; unfold smI; omega
  have hfd := fd_ok a.items b.items hsa hsb
  have hcin : inI (a.const + b.const) := by unfold inI; omega
  refine con_run Try.func9 rfl rfl (by simp [Try.ntmps9]) ?_
  simp only [argT, argA, eq_self, xRun, vE, vP, vSub, vLoad, isCutO, gN, isPick, isCall, AS.pt, AS.ev, AS.box, look, cav, avB, AV.cells, AV.whole, AV.one, td0, td1, td2, td3, td4, td5, td6, Option.getD, Option.isSome, List.map, List.take, List.drop, List.length, List.all, ↓reduceIte, Nat.reduceLT, Nat.reduceAdd, Nat.reduceEqDiff, Nat.zero_add, true_and, Bool.and_true, Bool.false_eq_true, reduceCtorEq, Nat.succ_ne_zero, Nat.le_refl, sumC, imsD, Try.ntmps9]
  refine sw_call (ha) rfl (aAs_ok ?_) ?_ (sw_run 200 _ _ _ ?_)
  · simp only [aAs, aA, aDs, aD, AS.ev, look, Option.getD, List.map, List.append_nil, ↓reduceIte, eq_self, and_self, sumC, imsD]
  · simp only [okR]
  simp only [mkR, flatD, packA, retA, List.headD_cons, eq_self, xRun, vE, vP, vSub, vLoad, vNot, isCutO, isB, bv, gT, gW, gN, gV, isU, isPick, isCall, AS.pt, AS.kn, AS.ev, look, td0, td1, td2, td3, td4, td5, td6, Option.bind, Option.getD, Option.isSome, List.take, List.drop, List.length, List.getElem?_cons_zero, List.getElem?_cons_succ, ↓reduceIte, Nat.reduceLT, Nat.reduceAdd, Nat.reduceEqDiff, Nat.zero_add, true_and, Bool.not_true, Bool.false_eq_true, and_self, Nat.le_refl]
  refine sw_call (hb) rfl (aAs_ok ?_) ?_ (sw_run 200 _ _ _ ?_)
  · simp only [aAs, aA, aDs, aD, AS.ev, look, Option.getD, List.map, List.append_nil, ↓reduceIte, Nat.reduceEqDiff, eq_self, and_self, sumC, imsD]
  · simp only [okR]
  simp only [mkR, flatD, packA, retA, List.headD_cons, eq_self, xRun, vE, vP, vNot, isCutO, isB, bv, gT, gW, gN, gV, isU, isPick, pkC, pkB, isCall, AS.pt, AS.kn, AS.ev, look, td0, td1, td2, td3, td4, td5, td6, Option.bind, Option.getD, Option.isSome, List.getElem?_cons_zero, List.getElem?_cons_succ, ↓reduceIte, Nat.reduceLT, Nat.reduceEqDiff, true_and, Bool.not_true, Bool.false_eq_true, and_self]
  refine sw_drawnK ⟨53, [(6, .bx 5 0), (3, .bx 1 0), (4, .bx 2 0)], [(1, [.i b.const, .br (.rows 2 b.items.length (flC imC b.items))]), (2, [.i 0, .nl 2]), (5, [.i ((a.const + b.const) % 10007), .sl 4])], [(4, some ⟨.rows 2 a.items.length (flC imC a.items), some 80, true⟩)], 6, []⟩ (.cons 0 true (.cons 1 true (.cons 2 true (.cons 3 true (.cons 4 true (.cons 7 true (.cons 8 true (.fork (.alt 5 (.fork (.alt 6 (.fork (.alt 9 (.cons 10 true (.cons 11 false (.cons 12 false (.nil)))) (.alt 11 (.cons 9 false (.cons 10 true (.cons 12 false (.nil)))) (.last)))) (.alt 11 (.cons 6 false (.cons 9 false (.cons 10 true (.cons 12 false (.nil))))) (.last)))) (.alt 6 (.fork (.alt 5 (.fork (.alt 9 (.cons 10 true (.cons 11 false (.cons 12 false (.nil)))) (.alt 11 (.cons 9 false (.cons 10 true (.cons 12 false (.nil)))) (.last)))) (.alt 11 (.cons 5 false (.cons 9 false (.cons 10 true (.cons 12 false (.nil))))) (.last)))) (.alt 11 (.fork (.alt 5 (.cons 6 false (.cons 9 false (.cons 10 true (.cons 12 false (.nil))))) (.alt 6 (.cons 5 false (.cons 9 false (.cons 10 true (.cons 12 false (.nil))))) (.last)))) (.last)))))))))))) (by kernel_rfl) (by kernel_rfl) (sw_run 200 _ _ _ ?_) (sw_run 200 _ _ _ ?_)
  · simp only [eq_self, xRun, vE, vP, vSub, vLoad, vFld, vBin, vBinT, isAg, isBo, vRow, xFill, gN, isPick, isCall, AS.pt, AS.ev, AS.box, AS.mk', kill, look, cDs, eatsOf, td0, td1, td2, td3, td4, td5, td6, Option.getD, Option.isSome, List.map, List.getElem?_cons_zero, List.getElem?_cons_succ, List.foldr, List.all, List.replicate, List.nodup_nil, ↓reduceIte, Nat.reduceLT, Nat.reduceAdd, Nat.reduceEqDiff, Nat.zero_add, Nat.add_zero, Nat.zero_mul, ne_eq, not_false_eq_true, true_and, and_true, or_true, Bool.false_eq_true, reduceCtorEq, and_self, Nat.succ_ne_zero, Nat.zero_le, hcin]
    (try repeat' (with_reducible apply And.intro))
    all_goals (refine sw_callD (con_ReduceS (a.const + b.const)) rfl (aAs_ok (by simp only [aAs, aA, aD, eq_self, AS.ev, look, td0, td1, td2, td3, td4, td5, td6, Option.getD, List.map, List.append_nil, ↓reduceIte, Nat.reduceEqDiff, and_self])) (by simp only [okR, td0, td1, td2, td3, td4, td5, td6]) (sw_run 200 _ _ _ ?_))
    all_goals simp only [mkR, flatD, packA, retA, List.headD_cons, eq_self, xRun, vE, vP, vBuild, vRow, vStore, vApp, apP, apC, isCl, xFill, appL, appR, gN, isPick, isCall, AS.pt, AS.ev, AS.box, AS.setb, AS.mk', AS.owf, kill, look, setRowG, AV.cells, AV.whole, AV.one, cDs, eatsOf, td0, td1, td2, td3, td4, td5, td6, Option.bind, Option.getD, Option.isSome, List.map, List.length, List.getElem?_cons_zero, List.getElem?_cons_succ, List.set, List.foldr, List.all, List.replicate, List.mem_cons, List.not_mem_nil, List.nodup_nil, List.nil_append, List.append_nil, ↓reduceIte, Nat.reduceLT, Nat.reduceAdd, Nat.reduceLeDiff, Nat.reduceEqDiff, Nat.zero_add, Nat.zero_mul, not_false_eq_true, true_and, and_true, or_false, or_true, Bool.and_true, Bool.not_false, Bool.false_eq_true, id_eq, and_self, Nat.zero_le, Nat.le_refl]
    (try repeat' (with_reducible apply And.intro))
    all_goals first
      | rfl
      | exact fun _ => prim_ims a.items
      | (intro o ho; trivial)
      | omega
      | (unfold maxLen; omega)
      | (refine ⟨rfl, id, ?_⟩; simp only [Sub, subT, subB, subO, subP, inj, AV.ren, AV.rens, AV.lt, AV.lts, eq_self, AS.owf, look, td0, td1, td2, td3, td4, td5, td6, Option.bind, List.map, List.mem_cons, List.not_mem_nil, List.nodup_cons, List.nodup_nil, ↓reduceIte, Nat.reduceLT, Nat.reduceEqDiff, not_false_eq_true, and_true, and_false, or_false, id_eq, reduceCtorEq, and_self, Nat.succ_ne_zero]; done)
      | (refine ⟨rfl, rnL [(4, 5), (5, 4)], ?_⟩; simp only [Sub, subT, subB, subO, subP, inj, AV.ren, AV.rens, AV.lt, AV.lts, eq_self, AS.owf, look, td0, td1, td2, td3, td4, td5, td6, Option.bind, Option.getD, List.map, List.mem_cons, List.not_mem_nil, List.nodup_cons, List.nodup_nil, ↓reduceIte, Nat.reduceLT, Nat.reduceEqDiff, not_false_eq_true, and_true, and_false, or_false, id_eq, reduceCtorEq, and_self, Nat.succ_ne_zero, rnL]; done)
      | (refine ⟨rfl, rnL [(4, 5), (5, 3)], ?_⟩; simp only [Sub, subT, subB, subO, subP, inj, AV.ren, AV.rens, AV.lt, AV.lts, eq_self, AS.owf, look, td0, td1, td2, td3, td4, td5, td6, Option.bind, Option.getD, List.map, List.mem_cons, List.not_mem_nil, List.nodup_cons, List.nodup_nil, ↓reduceIte, Nat.reduceLT, Nat.reduceEqDiff, not_false_eq_true, or_false, id_eq, and_self, rnL]; done)
      | (refine ⟨rfl, rnL [(4, 6), (5, 3)], ?_⟩; simp only [Sub, subT, subB, subO, subP, inj, AV.ren, AV.rens, AV.lt, AV.lts, argT, argA, argAs, s0M, numT, flatM, packM, AS.kl, eatM, mkR, flatD, packA, retA, List.headD_cons, List.tail_cons, fQ, qLp, tysD, tmsD, strsD, intsD, rowD, xRet, rPs, xRes, flatA, rD, rDs, eq_self, true_or, xRun, vE, vP, vSub, vLoad, vFld, vIdx, vBin, vBinT, vEqA, shp, isAg, isBo, bvA, vEqB, vMax, cellsA, eqAV, eqAVs, shpOk, vNot, vLen, vChr, vExt, vBuild, vCut, vSlc, vCnv, vRow, vStore, vStE, primD, primDs, AS.setO, AV.unsp, AV.unsps, unspT, unspB, vApp, apP, apC, isCl, isCutO, vMake, iOf, bad, xFill, appL, appR, ixL, ixH, isB, bv, gT, gW, gN, gV, isU, isPick, pkC, pkA, pkB, isCall, popTo, AS.pt, AS.kn, AS.ev, AS.box, AS.setb, AS.mk', AS.owf, AS.rd, kill, look, cav, avB, avO, setRowG, AV.cells, AV.whole, AV.one, cD, cDs, eatsOf, dpOf, td0, td1, td2, td3, td4, td5, td6, Option.bind, Option.getD, Option.map, Option.isSome, List.map, List.take, List.drop, List.length, List.getElem?_cons_zero, List.getElem?_cons_succ, List.getElem?_nil, List.set, List.flatMap, List.foldr, List.all, List.replicate, List.mem_cons, List.not_mem_nil, List.nodup_cons, List.nodup_nil, List.nil_append, List.cons_append, List.append_nil, ↓reduceIte, Nat.reduceLT, Nat.reduceAdd, Nat.reduceMul, Nat.reduceLeDiff, Nat.reduceEqDiff, Nat.zero_add, Nat.add_zero, Nat.mul_zero, Nat.zero_mul, Nat.one_mul, Nat.mul_one, ne_eq, not_false_eq_true, not_true_eq_false, true_and, and_true, false_and, and_false, or_false, or_true, false_or, true_or, Bool.true_and, Bool.and_true, Bool.false_and, Bool.and_false, Bool.not_true, Bool.not_false, Bool.false_eq_true, Bool.true_eq_false, id_eq, reduceCtorEq, Int.toNat_natCast, Int.reduceLT, Int.reduceLE, Int.reduceEq, Int.reduceNe, Int.reduceAdd, Int.reduceSub, Int.reduceMul, Int.reduceNeg, Int.reduceToNat, Nat.reduceSub, Int.toNat_zero, Int.toNat_one, Int.natCast_zero, Int.le_refl, Int.natCast_nonneg, decide_true, decide_false, and_self, decide_eq_true_eq, decide_eq_false_iff_not, Nat.succ_ne_zero, Nat.zero_le, Nat.le_refl, rnL, Nat.zero_add]; done)
      | (refine ⟨rfl, rnL [(4, 5), (5, 6)], ?_⟩; simp only [Sub, subT, subB, subO, subP, inj, AV.ren, AV.rens, AV.lt, AV.lts, argT, argA, argAs, s0M, numT, flatM, packM, AS.kl, eatM, mkR, flatD, packA, retA, List.headD_cons, List.tail_cons, fQ, qLp, tysD, tmsD, strsD, intsD, rowD, xRet, rPs, xRes, flatA, rD, rDs, eq_self, true_or, xRun, vE, vP, vSub, vLoad, vFld, vIdx, vBin, vBinT, vEqA, shp, isAg, isBo, bvA, vEqB, vMax, cellsA, eqAV, eqAVs, shpOk, vNot, vLen, vChr, vExt, vBuild, vCut, vSlc, vCnv, vRow, vStore, vStE, primD, primDs, AS.setO, AV.unsp, AV.unsps, unspT, unspB, vApp, apP, apC, isCl, isCutO, vMake, iOf, bad, xFill, appL, appR, ixL, ixH, isB, bv, gT, gW, gN, gV, isU, isPick, pkC, pkA, pkB, isCall, popTo, AS.pt, AS.kn, AS.ev, AS.box, AS.setb, AS.mk', AS.owf, AS.rd, kill, look, cav, avB, avO, setRowG, AV.cells, AV.whole, AV.one, cD, cDs, eatsOf, dpOf, td0, td1, td2, td3, td4, td5, td6, Option.bind, Option.getD, Option.map, Option.isSome, List.map, List.take, List.drop, List.length, List.getElem?_cons_zero, List.getElem?_cons_succ, List.getElem?_nil, List.set, List.flatMap, List.foldr, List.all, List.replicate, List.mem_cons, List.not_mem_nil, List.nodup_cons, List.nodup_nil, List.nil_append, List.cons_append, List.append_nil, ↓reduceIte, Nat.reduceLT, Nat.reduceAdd, Nat.reduceMul, Nat.reduceLeDiff, Nat.reduceEqDiff, Nat.zero_add, Nat.add_zero, Nat.mul_zero, Nat.zero_mul, Nat.one_mul, Nat.mul_one, ne_eq, not_false_eq_true, not_true_eq_false, true_and, and_true, false_and, and_false, or_false, or_true, false_or, true_or, Bool.true_and, Bool.and_true, Bool.false_and, Bool.and_false, Bool.not_true, Bool.not_false, Bool.false_eq_true, Bool.true_eq_false, id_eq, reduceCtorEq, Int.toNat_natCast, Int.reduceLT, Int.reduceLE, Int.reduceEq, Int.reduceNe, Int.reduceAdd, Int.reduceSub, Int.reduceMul, Int.reduceNeg, Int.reduceToNat, Nat.reduceSub, Int.toNat_zero, Int.toNat_one, Int.natCast_zero, Int.le_refl, Int.natCast_nonneg, decide_true, decide_false, and_self, decide_eq_true_eq, decide_eq_false_iff_not, Nat.succ_ne_zero, Nat.zero_le, Nat.le_refl, rnL, Nat.zero_add]; done)
      | (refine ⟨rfl, rnL [(4, 6), (5, 5)], ?_⟩; simp only [Sub, subT, subB, subO, subP, inj, AV.ren, AV.rens, AV.lt, AV.lts, argT, argA, argAs, s0M, numT, flatM, packM, AS.kl, eatM, mkR, flatD, packA, retA, List.headD_cons, List.tail_cons, fQ, qLp, tysD, tmsD, strsD, intsD, rowD, xRet, rPs, xRes, flatA, rD, rDs, eq_self, true_or, xRun, vE, vP, vSub, vLoad, vFld, vIdx, vBin, vBinT, vEqA, shp, isAg, isBo, bvA, vEqB, vMax, cellsA, eqAV, eqAVs, shpOk, vNot, vLen, vChr, vExt, vBuild, vCut, vSlc, vCnv, vRow, vStore, vStE, primD, primDs, AS.setO, AV.unsp, AV.unsps, unspT, unspB, vApp, apP, apC, isCl, isCutO, vMake, iOf, bad, xFill, appL, appR, ixL, ixH, isB, bv, gT, gW, gN, gV, isU, isPick, pkC, pkA, pkB, isCall, popTo, AS.pt, AS.kn, AS.ev, AS.box, AS.setb, AS.mk', AS.owf, AS.rd, kill, look, cav, avB, avO, setRowG, AV.cells, AV.whole, AV.one, cD, cDs, eatsOf, dpOf, td0, td1, td2, td3, td4, td5, td6, Option.bind, Option.getD, Option.map, Option.isSome, List.map, List.take, List.drop, List.length, List.getElem?_cons_zero, List.getElem?_cons_succ, List.getElem?_nil, List.set, List.flatMap, List.foldr, List.all, List.replicate, List.mem_cons, List.not_mem_nil, List.nodup_cons, List.nodup_nil, List.nil_append, List.cons_append, List.append_nil, ↓reduceIte, Nat.reduceLT, Nat.reduceAdd, Nat.reduceMul, Nat.reduceLeDiff, Nat.reduceEqDiff, Nat.zero_add, Nat.add_zero, Nat.mul_zero, Nat.zero_mul, Nat.one_mul, Nat.mul_one, ne_eq, not_false_eq_true, not_true_eq_false, true_and, and_true, false_and, and_false, or_false, or_true, false_or, true_or, Bool.true_and, Bool.and_true, Bool.false_and, Bool.and_false, Bool.not_true, Bool.not_false, Bool.false_eq_true, Bool.true_eq_false, id_eq, reduceCtorEq, Int.toNat_natCast, Int.reduceLT, Int.reduceLE, Int.reduceEq, Int.reduceNe, Int.reduceAdd, Int.reduceSub, Int.reduceMul, Int.reduceNeg, Int.reduceToNat, Nat.reduceSub, Int.toNat_zero, Int.toNat_one, Int.natCast_zero, Int.le_refl, Int.natCast_nonneg, decide_true, decide_false, and_self, decide_eq_true_eq, decide_eq_false_iff_not, Nat.succ_ne_zero, Nat.zero_le, Nat.le_refl, rnL, Nat.zero_add]; done)
      | (refine ⟨rfl, rnL [(4, 6), (5, 4)], ?_⟩; simp only [Sub, subT, subB, subO, subP, inj, AV.ren, AV.rens, AV.lt, AV.lts, argT, argA, argAs, s0M, numT, flatM, packM, AS.kl, eatM, mkR, flatD, packA, retA, List.headD_cons, List.tail_cons, fQ, qLp, tysD, tmsD, strsD, intsD, rowD, xRet, rPs, xRes, flatA, rD, rDs, eq_self, true_or, xRun, vE, vP, vSub, vLoad, vFld, vIdx, vBin, vBinT, vEqA, shp, isAg, isBo, bvA, vEqB, vMax, cellsA, eqAV, eqAVs, shpOk, vNot, vLen, vChr, vExt, vBuild, vCut, vSlc, vCnv, vRow, vStore, vStE, primD, primDs, AS.setO, AV.unsp, AV.unsps, unspT, unspB, vApp, apP, apC, isCl, isCutO, vMake, iOf, bad, xFill, appL, appR, ixL, ixH, isB, bv, gT, gW, gN, gV, isU, isPick, pkC, pkA, pkB, isCall, popTo, AS.pt, AS.kn, AS.ev, AS.box, AS.setb, AS.mk', AS.owf, AS.rd, kill, look, cav, avB, avO, setRowG, AV.cells, AV.whole, AV.one, cD, cDs, eatsOf, dpOf, td0, td1, td2, td3, td4, td5, td6, Option.bind, Option.getD, Option.map, Option.isSome, List.map, List.take, List.drop, List.length, List.getElem?_cons_zero, List.getElem?_cons_succ, List.getElem?_nil, List.set, List.flatMap, List.foldr, List.all, List.replicate, List.mem_cons, List.not_mem_nil, List.nodup_cons, List.nodup_nil, List.nil_append, List.cons_append, List.append_nil, ↓reduceIte, Nat.reduceLT, Nat.reduceAdd, Nat.reduceMul, Nat.reduceLeDiff, Nat.reduceEqDiff, Nat.zero_add, Nat.add_zero, Nat.mul_zero, Nat.zero_mul, Nat.one_mul, Nat.mul_one, ne_eq, not_false_eq_true, not_true_eq_false, true_and, and_true, false_and, and_false, or_false, or_true, false_or, true_or, Bool.true_and, Bool.and_true, Bool.false_and, Bool.and_false, Bool.not_true, Bool.not_false, Bool.false_eq_true, Bool.true_eq_false, id_eq, reduceCtorEq, Int.toNat_natCast, Int.reduceLT, Int.reduceLE, Int.reduceEq, Int.reduceNe, Int.reduceAdd, Int.reduceSub, Int.reduceMul, Int.reduceNeg, Int.reduceToNat, Nat.reduceSub, Int.toNat_zero, Int.toNat_one, Int.natCast_zero, Int.le_refl, Int.natCast_nonneg, decide_true, decide_false, and_self, decide_eq_true_eq, decide_eq_false_iff_not, Nat.succ_ne_zero, Nat.zero_le, Nat.le_refl, rnL, Nat.zero_add]; done)
  simp only [eq_self, xRun, vE, vP, isCutO, gN, isPick, isCall, AS.pt, AS.ev, cav, td0, td1, td2, td3, td4, td5, td6, ↓reduceIte, Nat.reduceLT, true_and, Bool.false_eq_true]
  refine sw_loop (fun k : Nat => k ≤ b.items.length) (fun k => ⟨53, [(7, .i k), (6, .bx 5 0), (3, .bx 1 0), (4, .bx 2 0)], [(1, [.i b.const, .br (.rows 2 b.items.length (flC imC b.items))]), (2, [.i 0, .nl 2]), (5, [.i ((a.const + b.const) % 10007), .sl 4])], [(4, some ⟨.rows 2 (fdI a.items b.items k).length (flC imC (fdI a.items b.items k)), if k = 0 then some 80 else none, true⟩)], 6, []⟩) (fun k => b.items.length - k) 0 id (Nat.zero_le _) ?_ ?_
  · simp only [Sub, subT, subB, subO, subP, inj, AV.ren, AV.rens, AV.lt, AV.lts, eq_self, AS.owf, look, td0, td1, td2, td3, td4, td5, td6, Option.bind, List.map, List.take, List.mem_cons, List.not_mem_nil, List.nodup_cons, List.nodup_nil, ↓reduceIte, Nat.reduceLT, Nat.reduceEqDiff, not_false_eq_true, or_false, id_eq, Int.natCast_zero, and_self, fdI, List.foldl_nil, Int.natCast_zero]
  rintro k hk
  obtain ⟨hf1, hf2⟩ := hfd k hk
  generalize hap : (if k = 0 then some 80 else none) = ap
  refine sw_run 200 _ _ _ ?_
  by_cases hlt : k < b.items.length
  · have hi : (k : Int) < (b.items.length : Int) := by omega
    have hR := flC_row imC_len b.items k hlt
    have hst := fd_step a.items b.items k hlt
    have hP := con_Put (fdI a.items b.items k) b.items[k]! (by omega) hf1 (hsb _ (mem_bang hlt))
    rw [← hst] at hP
    simp only [imC, imsD] at hR hP
    have hk1 : ¬ (k + 1 = 0) := by omega
    simp only [eq_self, xRun, vE, vP, vSub, vLoad, vFld, vBin, vBinT, isAg, isBo, vLen, isCutO, isB, bv, gN, isPick, isCall, AS.pt, AS.ev, AS.rd, look, td0, td1, td2, td3, td4, td5, td6, Option.getD, Option.isSome, List.getElem?_cons_zero, List.getElem?_cons_succ, ↓reduceIte, Nat.reduceLT, Nat.reduceEqDiff, Nat.zero_add, ne_eq, not_false_eq_true, true_and, Bool.false_eq_true, decide_true, Nat.succ_ne_zero, hi]
    refine sw_drawn (.cons 0 true (.cons 1 true (.cons 2 true (.cons 3 true (.cons 4 true (.cons 5 true (.cons 6 true (.cons 7 false (.cons 8 true (.cons 9 false (.nil))))))))))) (by kernel_rfl) qLp_panic (by kernel_rfl) (sw_run 200 _ _ _ ?_)
    simp only [rowD, eq_self, xRun, vP, vSub, vLoad, vFld, vIdx, gN, isPick, isCall, AS.pt, AS.ev, look, avB, td0, td1, td2, td3, td4, td5, td6, Option.getD, Option.isSome, List.map, List.take, List.drop, List.length, List.getElem?_cons_zero, List.getElem?_cons_succ, ↓reduceIte, Nat.reduceLT, Nat.reduceAdd, Nat.reduceEqDiff, Nat.zero_add, ne_eq, not_false_eq_true, true_and, Bool.false_eq_true, Int.toNat_natCast, Int.natCast_nonneg, and_self, Nat.succ_ne_zero, Nat.le_refl, hi, hR]
    refine sw_callD hP rfl (aAs_ok ?_) ?_ (sw_run 200 _ _ _ ?_)
    · simp only [aAs, aA, aDs, aD, AS.ev, AS.owf, look, Option.bind, Option.getD, id_eq, List.map, List.append_nil, ↓reduceIte, Nat.reduceEqDiff, eq_self, and_self]
    · simp only [okR]
    simp only [mkR, flatD, packA, retA, List.headD_cons, qLp, eq_self, xRun, vE, vP, vFld, vBin, vBinT, isAg, isBo, vStore, isCutO, gN, isPick, isCall, AS.pt, AS.ev, AS.setb, AS.mk', kill, look, cav, setRowG, AV.cells, AV.whole, AV.one, td0, td1, td2, td3, td4, td5, td6, Option.getD, Option.isSome, List.length, List.getElem?_cons_zero, List.getElem?_cons_succ, List.set, List.foldr, ↓reduceIte, Nat.reduceLT, Nat.reduceAdd, Nat.reduceEqDiff, Nat.zero_add, ne_eq, not_false_eq_true, true_and, Bool.false_eq_true, and_self, Nat.succ_ne_zero, Nat.le_refl, qLp]
    refine ⟨by unfold inI; omega, k + 1, rn1 4 6, by omega, by omega, ?_⟩
    simp only [Sub, subT, subB, subO, subP, inj, AV.ren, AV.rens, AV.lt, AV.lts, eq_self, AS.owf, look, td0, td1, td2, td3, td4, td5, td6, Option.bind, List.map, List.mem_cons, List.not_mem_nil, List.nodup_cons, List.nodup_nil, ↓reduceIte, Nat.reduceLT, Nat.reduceEqDiff, not_false_eq_true, or_false, id_eq, and_self, rn1, cast1, hk1]
  · have hi : ¬ (k : Int) < (b.items.length : Int) := by omega
    obtain rfl : k = b.items.length := by omega
    have hfd2 : fdI a.items b.items b.items.length = mgI a.items b.items := by rw [fdI, List.take_length, hfp]
    rw [hfd2]
    have hck := con_l19Done (adS a b) (by have := sz_adS hoa hob; omega)
    simp only [sumC, imsD, adS] at hck
    simp only [qLp, eq_self, xRun, vE, vP, vSub, vLoad, vFld, vBin, vBinT, isAg, isBo, vLen, isCutO, isB, bv, gN, isPick, isCall, popTo, AS.pt, AS.ev, AS.rd, look, td0, td1, td2, td3, td4, td5, td6, Option.getD, Option.isSome, List.getElem?_cons_zero, List.getElem?_cons_succ, ↓reduceIte, Nat.reduceLT, Nat.reduceEqDiff, Nat.zero_add, ne_eq, not_false_eq_true, true_and, Bool.false_eq_true, decide_false, Nat.succ_ne_zero, hi]
    refine sw_run 200 _ _ _ ?_
    simp only [eq_self, xRun, vE, vP, vSub, vLoad, isCutO, gN, isPick, isCall, AS.pt, AS.ev, look, td0, td1, td2, td3, td4, td5, td6, Option.getD, List.take, List.drop, List.length, ↓reduceIte, Nat.reduceLT, Nat.reduceAdd, Nat.reduceEqDiff, Nat.zero_add, true_and, Bool.false_eq_true, Nat.le_refl]
    refine sw_callM hck rfl ?_ ?_ ?_ (sw_run 200 _ _ _ ?_)
    · simp only [mAs, mA, AS.kl, eatM, rD, rDs, eq_self, AS.ev, AS.owf, kill, look, eatsOf, td0, td1, td2, td3, td4, td5, td6, Option.bind, Option.getD, List.map, List.foldr, List.append_nil, ↓reduceIte, id_eq, and_self]
    · simp only [eatM, eq_self, AS.ev, look, eatsOf, td0, td1, td2, td3, td4, td5, td6, Option.getD, List.map, List.not_mem_nil, List.nodup_cons, List.nodup_nil, List.append_nil, ↓reduceIte, not_false_eq_true, and_self]
    · simp only [okR, td0, td1, td2, td3, td4, td5, td6]
    simp only [AS.kl, eatM, mkR, flatD, packA, retA, List.headD_cons, fQ, xRet, rPs, xRes, flatA, rD, rDs, eq_self, xRun, vE, vP, vSub, vLoad, vExt, vStore, isCutO, gN, isPick, isCall, AS.pt, AS.ev, AS.box, AS.setb, AS.mk', AS.owf, kill, look, setRowG, AV.cells, AV.whole, AV.one, eatsOf, td0, td1, td2, td3, td4, td5, td6, Option.bind, Option.getD, Option.isSome, List.map, List.take, List.drop, List.length, List.getElem?_cons_zero, List.getElem?_cons_succ, List.set, List.foldr, List.all, List.not_mem_nil, List.nodup_cons, List.nodup_nil, List.nil_append, List.cons_append, List.append_nil, ↓reduceIte, Nat.reduceLT, Nat.reduceAdd, Nat.reduceEqDiff, Nat.zero_add, not_false_eq_true, or_false, Bool.and_true, Bool.false_eq_true, id_eq, reduceCtorEq, and_self, Nat.le_refl, adS, Try.results9]
theorem adR_fit (a b : Sm) : ConfL (sumC (adR a b)) [.int, .sl .item] ∧ cntS (sumC (adR a b)) ≤ 17592186044416 := by
  rw [adR]
  split
  · rw [chkS]
    split
    · rename_i h; exact fit_sum (.inl h)
    · exact fit_sum (.inr rfl)
  · exact fit_sum (.inr rfl)
end Go.Proofs.Ytepjbiffebbelaa
