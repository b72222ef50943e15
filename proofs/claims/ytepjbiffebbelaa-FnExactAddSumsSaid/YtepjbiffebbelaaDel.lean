/-
  DeleteFunc of items: those with the coefficient 0 go.
-/
import Derived.Test.YtepjbiffebbelaaSrt
import Derived.Test.YtepjbiffebbelaaClr
import Derived.Test.YtepjbiffebbelaaCct
namespace Go.Proofs.Ytepjbiffebbelaa
open Go.RowKit
set_option linter.unusedVariables false
set_option linter.unusedSimpArgs false
set_option maxRecDepth 20000
/-- The first item with the coefficient 0, from place i on. -/
def fz : List Im → Int → Int
  | [], _ => -1
  | x :: xs, i => if x.coef = 0 then i else fz xs (i + 1)
theorem fz_step (xs : List Im) (k : Nat) (h : k < xs.length) : fz (xs.drop k) k = if xs[k]!.coef = 0 then (k : Int) else fz (xs.drop (k + 1)) ((k + 1 : Nat) : Int) := by
  rw [List.drop_eq_getElem_cons h, getElem!_pos xs k h]; rfl
theorem fz_end (xs : List Im) (k : Nat) (h : xs.length ≤ k) (i : Int) : fz (xs.drop k) i = -1 := by rw [List.drop_of_length_le h]; rfl
theorem fz_cases : ∀ (xs : List Im) (i : Nat), (fz xs i = -1 ∧ delZ xs = xs) ∨ ∃ k, k < xs.length ∧ fz xs i = ((i + k : Nat) : Int) ∧ delZ (xs.take (k + 1)) = xs.take k
  | [], i => .inl ⟨rfl, rfl⟩
  | x :: xs, i => by
    rw [fz]
    by_cases h : x.coef = 0
    · rw [if_pos h]
      exact .inr ⟨0, by simp, by simp, by simp [delZ, h]⟩
    · rw [if_neg h]
      have e : (i : Int) + 1 = ((i + 1 : Nat) : Int) := by omega
      rw [e]
      rcases fz_cases xs (i + 1) with ⟨h1, h2⟩ | ⟨k, h1, h2, h3⟩
      · refine .inl ⟨h1, ?_⟩
        show delZ ([x] ++ xs) = _
        rw [del_app, h2, del_ok (show okC [x] from fun w hw => by rw [List.mem_singleton.1 hw]; exact h)]; rfl
      · refine .inr ⟨k + 1, by simpa using h1, by rw [h2]; congr 1; omega, ?_⟩
        show delZ ([x] ++ xs.take (k + 1)) = x :: xs.take k
        rw [del_app, h3, del_ok (show okC [x] from fun w hw => by rw [List.mem_singleton.1 hw]; exact h)]; rfl
theorem del_snoc (xs : List Im) (j : Nat) (h : j < xs.length) : delZ (xs.take (j + 1)) = if xs[j]!.coef = 0 then delZ (xs.take j) else delZ (xs.take j) ++ [xs[j]!] := by
  rw [take_snoc xs j h, del_app]
  generalize xs[j]! = y
  by_cases hc : y.coef = 0
  · rw [if_pos hc]; simp [delZ, hc]
  · rw [if_neg hc]; simp [delZ, hc]
theorem del_le (xs : List Im) : (delZ xs).length ≤ xs.length := List.length_filter_le _ _
/-- The row while it is being thinned out: j items seen. -/
def thin (xs ys : List Im) (j : Nat) : Prop := ys.length = xs.length ∧ ys.take (delZ (xs.take j)).length = delZ (xs.take j) ∧ ys.drop j = xs.drop j ∧ (delZ (xs.take j)).length < j
theorem drop_at {xs ys : List Im} {j : Nat} (h1 : ys.length = xs.length) (h : ys.drop j = xs.drop j) (hj : j < xs.length) : ys[j]! = xs[j]! ∧ ys.drop (j + 1) = xs.drop (j + 1) := by
  rw [List.drop_eq_getElem_cons hj, List.drop_eq_getElem_cons (by omega)] at h
  injection h with h1 h2
  exact ⟨by rw [getElem!_pos ys j (by omega), getElem!_pos xs j hj]; exact h1, h2⟩
theorem thin_skip {xs ys : List Im} {j : Nat} (h : thin xs ys j) (hj : j < xs.length) (hc : xs[j]!.coef = 0) : delZ (xs.take (j + 1)) = delZ (xs.take j) ∧ thin xs ys (j + 1) := by
  obtain ⟨h1, h2, h3, h4⟩ := h
  have e := del_snoc xs j hj
  rw [if_pos hc] at e
  refine ⟨e, h1, by rw [e]; exact h2, (drop_at h1 h3 hj).2, by rw [e]; omega⟩
theorem thin_keep {xs ys : List Im} {j : Nat} (h : thin xs ys j) (hj : j < xs.length) (hc : ¬ xs[j]!.coef = 0) : (delZ (xs.take (j + 1))).length = (delZ (xs.take j)).length + 1 ∧ thin xs (ys.set (delZ (xs.take j)).length xs[j]!) (j + 1) := by
  obtain ⟨h1, h2, h3, h4⟩ := h
  have e := del_snoc xs j hj
  rw [if_neg hc] at e
  have e2 : (delZ (xs.take (j + 1))).length = (delZ (xs.take j)).length + 1 := by rw [e, List.length_append]; rfl
  refine ⟨e2, by rw [List.length_set, h1], ?_, ?_, by rw [e2]; omega⟩
  · rw [e2, e, List.take_set, List.take_add_one, h2, List.getElem?_eq_getElem (show _ < ys.length by omega), Option.toList]
    rw [List.set_append_right _ _ (by omega)]
    simp
  · rw [List.drop_set, if_pos (by omega)]
    exact (drop_at h1 h3 hj).2
theorem thin_start {xs : List Im} {k : Nat} (h : k < xs.length) (he : delZ (xs.take (k + 1)) = xs.take k) : thin xs xs (k + 1) ∧ (delZ (xs.take (k + 1))).length = k := by
  have e : (delZ (xs.take (k + 1))).length = k := by rw [he, List.length_take]; omega
  exact ⟨⟨rfl, by rw [e, he], rfl, by omega⟩, e⟩
theorem setRow_pre {α : Type} : ∀ (us l : List α) (i : Nat), (setRowG l i us).take i = l.take i
  | [], l, i => rfl
  | u :: us, l, i => by
    have e : ∀ l' : List α, l'.take i = (l'.take (i + 1)).take i := fun l' => by rw [List.take_take, Nat.min_eq_left (by omega)]
    rw [setRowG, e (setRowG _ _ _), setRow_pre us (l.set i u) (i + 1), ← e, List.take_set, List.set_eq_of_length_le (by rw [List.length_take]; omega)]
theorem thin_end {xs ys : List Im} {Z : List D} (h : thin xs ys xs.length) : (setRowG (flC imC ys) ((delZ xs).length * 2) Z).take ((delZ xs).length * 2) = flC imC (delZ xs) := by
  obtain ⟨h1, h2, h3, h4⟩ := h
  rw [List.take_length] at h2 h4
  rw [setRow_pre]
  have e : ys = ys.take (delZ xs).length ++ ys.drop (delZ xs).length := (List.take_append_drop _ _).symm
  rw [h2] at e
  rw [e, flC_app, List.take_append_of_le_length (by rw [flC_len imC_len]; exact Nat.le_refl _), List.take_of_length_le (by rw [flC_len imC_len]; exact Nat.le_refl _)]
theorem con_isZ (x : Im) : Con Try.prog 53 [.ag (imC x)] [.one (.bool (decide (x.coef = 0)))] := by
  refine con_run Try.func53 rfl rfl (by simp [Try.ntmps53]) ?_
  simp only [argT, argA, fQ, xRet, rPs, xRes, flatA, rD, eq_self, xRun, vE, vP, vSub, vLoad, vFld, vBin, vBinT, isAg, isBo, isCutO, gN, isPick, isCall, AS.pt, AS.ev, AS.box, look, cav, avB, AV.cells, AV.whole, AV.one, eatsOf, td0, td1, td2, td3, td4, td5, td6, Option.getD, Option.isSome, List.map, List.getElem?_cons_zero, List.getElem?_cons_succ, List.all, List.nodup_nil, ↓reduceIte, Nat.reduceLT, Nat.reduceEqDiff, Nat.zero_add, ne_eq, not_false_eq_true, or_false, Bool.and_true, Bool.false_eq_true, reduceCtorEq, and_self, Nat.succ_ne_zero, imC, Try.ntmps53, Try.results53]
theorem con_IdxIm (xs : List Im) (hl : xs.length ≤ 1000000000) : Con Try.prog 106 [.one (.rows 2 xs.length (flC imC xs)), .fn 53 []] [.one (.int (fz xs 0))] := by
  refine con_run Try.func106 rfl rfl (by simp [Try.ntmps106]) ?_
  simp only [argT, argA, argAs, eq_self, xRun, vE, vP, vLen, isCutO, gN, isPick, isCall, AS.pt, AS.ev, AS.rd, look, cav, avB, td0, td1, td2, td3, td4, td5, td6, Option.getD, ↓reduceIte, Nat.reduceLT, Nat.zero_add, true_and, Bool.false_eq_true, reduceCtorEq, Int.reduceNeg, argAs, argA, Try.ntmps106]
  refine sw_loop (fun k : Nat => k ≤ xs.length ∧ fz (xs.drop k) k = fz xs 0) (fun k => ⟨19, [(8, .i k), (7, .i xs.length), (0, .br (.rows 2 xs.length (flC imC xs))), (1, .fn 53 [])], [], [], 0, []⟩) (fun k => xs.length - k) 0 id ⟨Nat.zero_le _, rfl⟩ ?_ ?_
  · simp only [Sub, subT, subB, subO, subP, inj, AV.ren, AV.rens, AV.lt, AV.lts, eq_self, look, td0, td1, td2, td3, td4, td5, td6, List.map, List.nodup_nil, ↓reduceIte, Nat.reduceEqDiff, reduceCtorEq, Int.natCast_zero, and_self, Nat.succ_ne_zero, Int.natCast_zero]
  · rintro k ⟨hk, hf⟩
    refine sw_run 200 _ _ _ ?_
    by_cases hlt : k < xs.length
    · have hi : (k : Int) < (xs.length : Int) := by omega
      have hR := flC_row imC_len xs k hlt
      have hpc := con_isZ xs[k]!
      simp only [imC] at hR hpc
      rw [fz_step xs k hlt] at hf
      simp only [rowD, eq_self, xRun, vE, vP, vSub, vLoad, vIdx, vBin, vBinT, isAg, isBo, isCutO, isB, bv, gN, isPick, isCall, AS.pt, AS.ev, look, avB, td0, td1, td2, td3, td4, td5, td6, Option.getD, List.map, List.take, List.drop, List.length, ↓reduceIte, Nat.reduceLT, Nat.reduceAdd, Nat.reduceEqDiff, Nat.zero_add, true_and, Bool.false_eq_true, reduceCtorEq, Int.toNat_natCast, Int.reduceNeg, Int.natCast_nonneg, decide_true, and_self, Nat.succ_ne_zero, Nat.le_refl, hi, hR]
      refine sw_call (hpc) rfl (aAs_ok ?_) ?_ (sw_run 200 _ _ _ ?_)
      · simp only [aAs, aA, aDs, aD, AS.ev, look, Option.getD, List.map, List.append_nil, ↓reduceIte, eq_self, and_self]
      · simp only [okR]
      by_cases hc : xs[k]!.coef = 0
      · rw [if_pos hc] at hf
        simp only [mkR, flatD, packA, retA, List.headD_cons, fQ, qLp, xRet, rPs, xRes, flatA, rD, eq_self, xRun, vE, vP, isCutO, isB, bv, gN, isPick, isCall, AS.pt, AS.ev, look, eatsOf, td0, td1, td2, td3, td4, td5, td6, Option.getD, List.map, List.nodup_nil, ↓reduceIte, Nat.reduceLT, Nat.reduceEqDiff, true_and, and_true, or_false, Bool.false_eq_true, reduceCtorEq, decide_true, hc, Try.results106]
        exact hf
      · rw [if_neg hc] at hf
        simp only [mkR, flatD, packA, retA, List.headD_cons, qLp, eq_self, xRun, vE, vP, vBin, vBinT, isAg, isBo, isCutO, isB, bv, gN, isPick, isCall, AS.pt, AS.ev, look, cav, td0, td1, td2, td3, td4, td5, td6, Option.getD, ↓reduceIte, Nat.reduceLT, Nat.reduceEqDiff, true_and, Bool.false_eq_true, decide_false, hc, qLp]
        refine ⟨by unfold inI; omega, k + 1, id, ⟨by omega, hf⟩, by omega, ?_⟩
        simp only [Sub, subT, subB, subO, subP, inj, AV.ren, AV.rens, AV.lt, AV.lts, eq_self, look, td0, td1, td2, td3, td4, td5, td6, List.map, List.nodup_nil, ↓reduceIte, Nat.reduceEqDiff, reduceCtorEq, and_self, Nat.succ_ne_zero, cast1]
    · have hi : ¬ (k : Int) < (xs.length : Int) := by omega
      rw [fz_end xs k (by omega)] at hf
      simp only [qLp, eq_self, xRun, vE, vP, vBin, vBinT, isAg, isBo, isCutO, isB, bv, gN, isPick, isCall, popTo, AS.pt, AS.ev, look, td0, td1, td2, td3, td4, td5, td6, Option.getD, Option.isSome, ↓reduceIte, Nat.reduceLT, Nat.reduceEqDiff, true_and, Bool.false_eq_true, Int.reduceNeg, decide_false, hi]
      refine sw_run 200 _ _ _ ?_
      simp only [fQ, xRet, rPs, xRes, flatA, rD, eq_self, xRun, vE, vP, isCutO, gN, isPick, isCall, AS.pt, AS.ev, look, cav, eatsOf, td0, td1, td2, td3, td4, td5, td6, List.map, List.nodup_nil, ↓reduceIte, Nat.reduceLT, or_false, Bool.false_eq_true, reduceCtorEq, Int.reduceNeg, and_self, ← hf, Try.results106]
theorem im_zero (w : World) : (zeroValue 80).run Try.prog w = .ok (.agg #[.string ⟨#[]⟩, .int .i64 0]) w := by
  obtain ⟨i, hi, hz⟩ : ∃ i, Try.prog.info? 80 = some i ∧ i.zero = some (.agg #[.string ⟨#[]⟩, .int .i64 0]) := by
    have := im_info
    cases hx : Try.prog.info? 80 with
    | none => rw [hx] at this; cases this
    | some i => rw [hx] at this; simp only [Option.map_some, Option.some.injEq, Prod.mk.injEq] at this; exact ⟨i, rfl, this.1⟩
  simp [zeroValue, typeInfo, program, Sem.run_bind, Sem.run, hi, hz, Sem.run_pure, Result.andThen_ok]
theorem con_DelIm (xs : List Im) (hl : xs.length ≤ 1000000) : ConP Try.prog 52 [.m (.a 80 (imsD xs)), .b (.fn 53 [])] [] [.one (.a 80 (imsD (delZ xs)))] := by
  have hI := con_IdxIm xs (by omega)
  have hdl := del_le xs
  refine con_runP Try.func52 rfl rfl (by simp [Try.ntmps52]) rfl ?_
  simp only [s0P, mkPs, mkPA, mkC, argA, argAs, numT, List.headD_cons, eq_self, xRun, vE, vP, isCutO, gN, isPick, isCall, AS.pt, AS.ev, AS.mk', kill, look, cav, td0, td1, td2, td3, td4, td5, td6, Option.getD, List.foldr, ↓reduceIte, Nat.reduceLT, Nat.reduceEqDiff, Nat.zero_add, true_and, Bool.false_eq_true, reduceCtorEq, Int.reduceNeg, Nat.succ_ne_zero, imsD, Try.ntmps52]
  refine sw_call (hI) rfl (aAs_ok ?_) ?_ (sw_run 200 _ _ _ ?_)
  · simp only [aAs, aA, aD, AS.ev, AS.owf, look, Option.bind, Option.getD, id_eq, List.map, List.append_nil, ↓reduceIte, Nat.reduceEqDiff, eq_self, and_self]
  · simp only [okR]
  rcases fz_cases xs 0 with ⟨h1, h2⟩ | ⟨k0, h1, h2, h3⟩
  · rw [Int.natCast_zero] at h1
    have hm : ((-1 : Int) = -1) := rfl
    simp only [fQP, xRetP, rRs, rOs, rC, eRs, eOs, eC, mkR, flatD, packA, retA, List.headD_cons, xRes, eq_self, xRun, vE, vP, vBin, vBinT, isAg, isBo, isCutO, isB, bv, gN, isPick, isCall, AS.pt, AS.ev, AS.owf, look, cav, td0, td1, td2, td3, td4, td5, td6, Option.bind, Option.getD, List.map, List.not_mem_nil, List.nodup_cons, List.nodup_nil, List.append_nil, ↓reduceIte, Nat.reduceLT, not_false_eq_true, or_false, Bool.false_eq_true, id_eq, reduceCtorEq, Int.reduceNeg, decide_true, and_self, h1, h2, Try.results52]
  rw [Int.natCast_zero, Nat.zero_add] at h2
  obtain ⟨hth, hk0⟩ := thin_start h1 h3
  have hne : ¬ ((k0 : Int) = -1) := by omega
  have hin0 : inI ((k0 : Int) + 1) := by unfold inI; omega
  simp only [mkR, flatD, packA, retA, List.headD_cons, eq_self, xRun, vE, vP, vBin, vBinT, isAg, isBo, isCutO, isB, bv, gN, isPick, isCall, AS.pt, AS.ev, look, cav, td0, td1, td2, td3, td4, td5, td6, Option.getD, ↓reduceIte, Nat.reduceLT, Nat.reduceEqDiff, true_and, Bool.false_eq_true, Int.reduceNeg, decide_false, h2, hne, hin0]
  refine sw_loop (fun p : Nat × List Im => p.1 ≤ xs.length ∧ thin xs p.2 p.1) (fun p => ⟨42, [(6, .i p.1), (5, .i (delZ (xs.take p.1)).length), (0, .sl 0), (1, .fn 53 [])], [], [(0, some ⟨.rows 2 xs.length (flC imC p.2), some 80, true⟩)], 1, []⟩) (fun p => xs.length - p.1) (k0 + 1, xs) id ⟨by simp only; omega, hth⟩ ?_ ?_
  · simp only [Sub, subT, subB, subO, subP, inj, AV.ren, AV.rens, AV.lt, AV.lts, eq_self, AS.owf, look, td0, td1, td2, td3, td4, td5, td6, Option.bind, List.map, List.not_mem_nil, List.nodup_cons, List.nodup_nil, ↓reduceIte, Nat.reduceLT, Nat.reduceEqDiff, not_false_eq_true, id_eq, reduceCtorEq, and_self, Nat.succ_ne_zero, hk0, cast1]
  · rintro ⟨j, ys⟩ ⟨hj, ht⟩
    simp only at hj ht
    refine sw_run 200 _ _ _ ?_
    have hyl := ht.1
    have hkj := ht.2.2.2
    by_cases hlt : j < xs.length
    · have hi : (j : Int) < (xs.length : Int) := by omega
      have hR := flC_row imC_len ys j (by omega)
      rw [(drop_at ht.1 ht.2.2.1 hlt).1] at hR
      have hpc := con_isZ xs[j]!
      simp only [imC] at hR hpc
      simp only [rowD, eq_self, xRun, vE, vP, vSub, vLoad, vIdx, vBin, vBinT, isAg, isBo, vLen, vStore, isCutO, isB, bv, gN, isPick, isCall, AS.pt, AS.ev, AS.box, AS.setb, AS.owf, AS.rd, look, avO, setRowG, AV.cells, AV.whole, AV.one, td0, td1, td2, td3, td4, td5, td6, Option.bind, Option.getD, Option.map, Option.isSome, List.map, List.take, List.drop, List.length, List.set, List.all, ↓reduceIte, Nat.reduceLT, Nat.reduceAdd, Nat.reduceEqDiff, Nat.zero_add, true_and, Bool.and_true, Bool.false_eq_true, id_eq, reduceCtorEq, Int.toNat_natCast, Int.natCast_nonneg, decide_true, and_self, Nat.succ_ne_zero, Nat.le_refl, hi, hR]
      refine sw_call (hpc) rfl (aAs_ok ?_) ?_ (sw_run 200 _ _ _ ?_)
      · simp only [aAs, aA, aDs, aD, AS.ev, look, Option.getD, List.map, List.append_nil, ↓reduceIte, eq_self, and_self]
      · simp only [okR]
      by_cases hc : xs[j]!.coef = 0
      · obtain ⟨e1, e2⟩ := thin_skip ht hlt hc
        simp only [mkR, flatD, packA, retA, List.headD_cons, qLp, eq_self, xRun, vE, vP, vBin, vBinT, isAg, isBo, vNot, isCutO, isB, bv, gN, isPick, isCall, AS.pt, AS.ev, look, cav, td0, td1, td2, td3, td4, td5, td6, Option.getD, ↓reduceIte, Nat.reduceLT, Nat.reduceEqDiff, true_and, Bool.not_true, Bool.false_eq_true, decide_true, hc, qLp]
        refine ⟨by unfold inI; omega, (j + 1, ys), id, ⟨by simp only; omega, e2⟩, by simp only; omega, ?_⟩
        simp only [Sub, subT, subB, subO, subP, inj, AV.ren, AV.rens, AV.lt, AV.lts, eq_self, AS.owf, look, td0, td1, td2, td3, td4, td5, td6, Option.bind, List.map, List.not_mem_nil, List.nodup_cons, List.nodup_nil, ↓reduceIte, Nat.reduceLT, Nat.reduceEqDiff, not_false_eq_true, id_eq, reduceCtorEq, and_self, Nat.succ_ne_zero, cast1, e1]
      · obtain ⟨e1, e2⟩ := thin_keep ht hlt hc
        have hs := flC_set xs[j]! ys (delZ (xs.take j)).length (by omega)
        have hb : (((delZ (xs.take j)).length : Nat) : Int) < (xs.length : Int) := by omega
        have hin : inI ((((delZ (xs.take j)).length : Nat) : Int) + 1) := by unfold inI; omega
        simp only [mkR, flatD, packA, retA, List.headD_cons, qLp, eq_self, xRun, vE, vP, vSub, vLoad, vIdx, vBin, vBinT, isAg, isBo, vNot, vStore, vStE, primD, primDs, AS.setO, AV.unsp, AV.unsps, unspT, unspB, isCutO, isB, bv, gN, isPick, isCall, AS.pt, AS.ev, AS.owf, look, cav, setRowG, AV.cells, td0, td1, td2, td3, td4, td5, td6, Option.bind, Option.getD, List.take, List.drop, List.length, ↓reduceIte, Nat.reduceLT, Nat.reduceAdd, Nat.reduceEqDiff, Nat.zero_add, Nat.add_zero, true_and, Bool.not_false, Bool.false_eq_true, id_eq, reduceCtorEq, Int.toNat_natCast, Int.natCast_nonneg, decide_false, and_self, Nat.le_refl, hc, hb, hin, qLp]
        refine ⟨by unfold inI; omega, (j + 1, ys.set (delZ (xs.take j)).length xs[j]!), id, ⟨by simp only; omega, e2⟩, by simp only; omega, ?_⟩
        simp only [Sub, subT, subB, subO, subP, inj, AV.ren, AV.rens, AV.lt, AV.lts, eq_self, AS.owf, look, td0, td1, td2, td3, td4, td5, td6, Option.bind, List.map, List.not_mem_nil, List.nodup_cons, List.nodup_nil, ↓reduceIte, Nat.reduceLT, Nat.reduceEqDiff, not_false_eq_true, id_eq, reduceCtorEq, and_self, Nat.succ_ne_zero, cast1, e1, hs]
    · have hi : ¬ (j : Int) < (xs.length : Int) := by omega
      obtain rfl : j = xs.length := by omega
      have hfull : xs.take xs.length = xs := List.take_length
      rw [hfull] at hkj
      have hmx : (((delZ xs).length : Nat) : Int) ≤ (xs.length : Int) := by omega
      simp only [qLp, eq_self, xRun, vE, vP, vBin, vBinT, isAg, isBo, vLen, isCutO, isB, bv, gN, isPick, isCall, popTo, AS.pt, AS.ev, AS.owf, AS.rd, look, td0, td1, td2, td3, td4, td5, td6, Option.bind, Option.getD, Option.map, Option.isSome, ↓reduceIte, Nat.reduceLT, Nat.reduceEqDiff, true_and, Bool.false_eq_true, id_eq, reduceCtorEq, decide_false, hi, hfull]
      refine sw_run 200 _ _ _ ?_
      simp only [eq_self, xRun, vE, vP, isCutO, gN, isPick, isCall, AS.pt, AS.ev, AS.owf, look, td0, td1, td2, td3, td4, td5, td6, Option.bind, Option.getD, ↓reduceIte, Nat.reduceLT, Nat.reduceEqDiff, true_and, Bool.false_eq_true, id_eq, reduceCtorEq]
      refine sw_clear2 0 (delZ xs).length rfl rfl (by kernel_rfl) rfl hkj (by show (38 : Nat) < 42; decide) im_zero rfl (by decide) (by
        intro u hu
        simp only [Value.cells, List.mem_toArray, List.mem_cons, List.not_mem_nil, or_false] at hu
        rcases hu with rfl | rfl
        · exact .inl ⟨_, rfl⟩
        · exact .inr rfl) (fun Z hZ => sw_run 200 _ _ _ ?_)
      have hE := thin_end (Z := Z) ht
      simp only [eq_self, xRun, vE, vP, AS.setO, AV.unsp, AV.unsps, unspT, unspB, isCutO, gN, isPick, isCall, AS.pt, AS.ev, AS.owf, look, td0, td1, td2, td3, td4, td5, td6, Option.bind, Option.getD, ↓reduceIte, Nat.reduceLT, Nat.reduceEqDiff, true_and, Bool.false_eq_true, id_eq, reduceCtorEq]
      refine sw_cutR 0 rfl rfl (by kernel_rfl) ?_ (sw_run 200 _ _ _ ?_)
      · simp only [eq_self, vCut, ixL, ixH, AS.ev, look, td0, td1, td2, td3, td4, td5, td6, Option.getD, Option.map, ↓reduceIte, Int.toNat_natCast, Int.toNat_zero, Int.le_refl, Int.natCast_nonneg, and_self, vCut, hmx]
      simp only [fQP, xRetP, rRs, rOs, rC, eRs, eOs, eC, xRes, eq_self, xRun, vE, vP, vCut, isCutO, ixL, ixH, gN, isPick, isCall, AS.pt, AS.ev, AS.mk', AS.owf, kill, look, td0, td1, td2, td3, td4, td5, td6, Option.bind, Option.getD, Option.map, List.map, List.drop, List.foldr, List.not_mem_nil, List.nodup_cons, List.nodup_nil, List.append_nil, ↓reduceIte, Nat.reduceLT, Nat.reduceAdd, Nat.zero_mul, not_false_eq_true, true_and, or_false, Bool.false_eq_true, id_eq, reduceCtorEq, Int.toNat_natCast, Int.toNat_zero, Int.le_refl, Int.natCast_nonneg, and_self, vCut, cutD, Int.toNat_zero, Int.toNat_natCast, Nat.sub_zero, hE, Try.results52]
end Go.Proofs.Ytepjbiffebbelaa
