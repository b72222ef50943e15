/-
  ShapesOf of the program.
-/
import Derived.Test.YtemlobcbepgbaaaInsV
import Derived.Test.YtemlobcbepgbaaaPtr
namespace Go.Proofs.Ytemlobcbepgbaaa
open Go.RowKit
set_option linter.unusedVariables false
set_option linter.unusedSimpArgs false
set_option maxRecDepth 20000
theorem popF_rng (x : Ins) : 0 ≤ popF x ∧ popF x ≤ 2 := by
  unfold popF
  repeat' split
  all_goals omega
theorem pushF_rng (x : Ins) : 0 ≤ pushF x ∧ pushF x ≤ 1 := by
  unfold pushF
  split <;> omega
def ffI (p : Ins → Bool) : List Ins → Int → Int
  | [], _ => -1
  | x :: xs, i => if p x = true then i else ffI p xs (i + 1)
theorem ffI_step (p : Ins → Bool) (xs : List Ins) (k : Nat) (h : k < xs.length) : ffI p (xs.drop k) k = if p xs[k]! = true then (k : Int) else ffI p (xs.drop (k + 1)) ((k + 1 : Nat) : Int) := by
  rw [List.drop_eq_getElem_cons h, getElem!_pos xs k h]; rfl
theorem ffI_end (p : Ins → Bool) (xs : List Ins) (k : Nat) (h : xs.length ≤ k) (i : Int) : ffI p (xs.drop k) i = -1 := by rw [List.drop_of_length_le h]; rfl
theorem ffI_any (p : Ins → Bool) : ∀ (xs : List Ins) (i : Int), 0 ≤ i → decide (0 ≤ ffI p xs i) = xs.any p
  | [], i, _ => rfl
  | x :: xs, i, h => by
    rw [ffI, List.any_cons]
    cases e : p x
    · rw [if_neg (by simp), ffI_any p xs (i + 1) (by omega)]; rfl
    · rw [if_pos rfl, decide_eq_true h]; rfl
theorem con_IndexFuncX (p : Ins → Bool) (g : FuncId) (xs : List Ins) (hl : xs.length ≤ 1000000000) (hp : ∀ x ∈ xs, Con Try.prog g [.ag (insC x)] [.one (.bool (p x))]) : Con Try.prog 224 [.one (inssD xs), .fn g []] [.one (.int (ffI p xs 0))] := by
  refine con_run Try.func224 rfl rfl (by simp [Try.ntmps224]) ?_
  simp only [argT, argA, argAs, eq_self, xRun, vE, vP, vLen, isCutO, gN, isPick, isCall, AS.pt, AS.ev, AS.rd, look, cav, avB, td4, Option.getD, ↓reduceIte, Nat.reduceLT, Nat.zero_add, true_and, Bool.false_eq_true, reduceCtorEq, Int.reduceNeg, inssD, Try.ntmps224]
  refine sw_loop (fun k : Nat => k ≤ xs.length ∧ ffI p (xs.drop k) k = ffI p xs 0) (fun k => ⟨19, [(8, .i k), (7, .i xs.length), (0, .br (.rows 2 xs.length (flC insC xs))), (1, .fn g [])], [], [], 0, []⟩) (fun k => xs.length - k) 0 id ⟨Nat.zero_le _, rfl⟩ ?_ ?_
  · simp only [Sub, subT, subB, subO, subP, inj, AV.ren, AV.rens, AV.lt, AV.lts, eq_self, look, List.map, List.nodup_nil, ↓reduceIte, Nat.reduceEqDiff, reduceCtorEq, Int.natCast_zero, and_self, Nat.succ_ne_zero, Int.natCast_zero]
  · rintro k ⟨hk, hf⟩
    refine sw_run 200 _ _ _ ?_
    by_cases hlt : k < xs.length
    · have hi : (k : Int) < (xs.length : Int) := by omega
      have hR := flC_row insC_len xs k hlt
      have hpc := hp _ (mem_bang hlt)
      rw [ffI_step p xs k hlt] at hf
      obtain ⟨b, hb⟩ : ∃ b, b = p xs[k]! := ⟨_, rfl⟩
      rw [← hb] at hf hpc
      simp only [insC] at hR hpc
      simp only [rowD, eq_self, xRun, vE, vP, vSub, vLoad, vIdx, vBin, vBinT, isAg, isBo, isCutO, isB, bv, gN, isPick, isCall, AS.pt, AS.ev, look, avB, td0, td1, Option.getD, List.map, List.take, List.drop, List.length, ↓reduceIte, Nat.reduceLT, Nat.reduceAdd, Nat.reduceEqDiff, Nat.zero_add, true_and, Bool.false_eq_true, reduceCtorEq, Int.toNat_natCast, Int.reduceNeg, Int.natCast_nonneg, decide_true, and_self, Nat.succ_ne_zero, Nat.le_refl, hi, hR]
      refine sw_call (hpc) rfl (aAs_ok ?_) ?_ (sw_run 200 _ _ _ ?_)
      · simp only [aAs, aA, aDs, aD, AS.ev, look, Option.getD, List.map, List.append_nil, ↓reduceIte, eq_self, and_self]
      · simp only [okR]
      cases b
      · rw [if_neg (by simp)] at hf
        simp only [mkR, flatD, packA, retA, List.headD_cons, qLp, eq_self, xRun, vE, vP, vBin, vBinT, isAg, isBo, isCutO, isB, bv, gN, isPick, isCall, AS.pt, AS.ev, look, cav, Option.getD, ↓reduceIte, Nat.reduceLT, Nat.reduceEqDiff, true_and, Bool.false_eq_true, qLp]
        refine ⟨by unfold inI; omega, k + 1, id, ⟨by omega, hf⟩, by omega, ?_⟩
        simp only [Sub, subT, subB, subO, subP, inj, AV.ren, AV.rens, AV.lt, AV.lts, eq_self, look, List.map, List.nodup_nil, ↓reduceIte, Nat.reduceEqDiff, reduceCtorEq, and_self, Nat.succ_ne_zero, cast1]
      · rw [if_pos rfl] at hf
        simp only [mkR, flatD, packA, retA, List.headD_cons, fQ, qLp, xRet, rPs, xRes, flatA, rD, eq_self, xRun, vE, vP, isCutO, isB, bv, gN, isPick, isCall, AS.pt, AS.ev, look, eatsOf, Option.getD, List.map, List.nodup_nil, ↓reduceIte, Nat.reduceLT, Nat.reduceEqDiff, true_and, and_true, or_false, Bool.false_eq_true, reduceCtorEq, Try.results224]
        exact hf
    · have hi : ¬ (k : Int) < (xs.length : Int) := by omega
      rw [ffI_end p xs k (by omega)] at hf
      simp only [qLp, eq_self, xRun, vE, vP, vBin, vBinT, isAg, isBo, isCutO, isB, bv, gN, isPick, isCall, popTo, AS.pt, AS.ev, look, Option.getD, Option.isSome, ↓reduceIte, Nat.reduceLT, Nat.reduceEqDiff, true_and, Bool.false_eq_true, Int.reduceNeg, decide_false, hi]
      refine sw_run 200 _ _ _ ?_
      simp only [fQ, xRet, rPs, xRes, flatA, rD, eq_self, xRun, vE, vP, isCutO, gN, isPick, isCall, AS.pt, AS.ev, look, cav, eatsOf, List.map, List.nodup_nil, ↓reduceIte, Nat.reduceLT, or_false, Bool.false_eq_true, reduceCtorEq, Int.reduceNeg, and_self, ← hf, Try.results224]
theorem con_ContainsFuncX (p : Ins → Bool) (g : FuncId) (xs : List Ins) (hl : xs.length ≤ 1000000000) (hp : ∀ x ∈ xs, Con Try.prog g [.ag (insC x)] [.one (.bool (p x))]) : Con Try.prog 160 [.one (inssD xs), .fn g []] [.one (.bool (xs.any p))] := by
  have hc := con_IndexFuncX p g xs hl hp
  rw [← ffI_any p xs 0 (by omega)]
  simp only [inssD] at hc ⊢
  refine con_run Try.func160 rfl rfl (by simp [Try.ntmps160]) ?_
  simp only [argT, argA, argAs, eq_self, xRun, vE, vP, isCutO, gN, isPick, isCall, AS.pt, AS.ev, look, cav, avB, Option.getD, ↓reduceIte, Nat.reduceLT, Nat.reduceEqDiff, Nat.zero_add, true_and, Bool.false_eq_true, reduceCtorEq, Nat.succ_ne_zero, Try.ntmps160]
  refine sw_call (hc) rfl (aAs_ok ?_) ?_ (sw_run 200 _ _ _ ?_)
  · simp only [aAs, aA, aD, AS.ev, look, Option.getD, List.map, List.append_nil, ↓reduceIte, Nat.reduceEqDiff, eq_self, and_self]
  · simp only [okR]
  simp only [mkR, flatD, packA, retA, List.headD_cons, fQ, xRet, rPs, xRes, flatA, rD, eq_self, xRun, vE, vP, vBin, vBinT, isAg, isBo, isCutO, gN, isPick, isCall, AS.pt, AS.ev, look, cav, eatsOf, Option.getD, List.map, List.nodup_nil, ↓reduceIte, Nat.reduceLT, or_false, Bool.false_eq_true, reduceCtorEq, and_self, Try.results160]
theorem con_notIns (x : Ins) : Con Try.prog 161 [.ag (insC x)] [.one (.bool (!insB x))] := by
  have h := con_IsInstrI x
  simp only [insC] at h ⊢
  refine con_run Try.func161 rfl rfl (by simp [Try.ntmps161]) ?_
  simp only [argT, argA, eq_self, xRun, vE, vP, vSub, vLoad, isCutO, gN, isPick, isCall, AS.pt, AS.ev, AS.box, look, cav, avB, AV.cells, AV.whole, AV.one, td0, Option.getD, List.map, List.take, List.drop, List.length, List.all, ↓reduceIte, Nat.reduceLT, Nat.reduceAdd, Nat.reduceEqDiff, Nat.zero_add, true_and, Bool.and_true, Bool.false_eq_true, Nat.le_refl, Try.ntmps161]
  refine sw_call (h) rfl (aAs_ok ?_) ?_ (sw_run 200 _ _ _ ?_)
  · simp only [aAs, aA, aDs, aD, AS.ev, look, Option.getD, List.map, List.append_nil, ↓reduceIte, eq_self, and_self]
  · simp only [okR]
  simp only [mkR, flatD, packA, retA, List.headD_cons, fQ, xRet, rPs, xRes, flatA, rD, eq_self, xRun, vE, vP, vNot, isCutO, gN, isPick, isCall, AS.pt, AS.ev, look, eatsOf, Option.getD, List.map, List.nodup_nil, ↓reduceIte, Nat.reduceLT, or_false, Bool.false_eq_true, reduceCtorEq, and_self, Try.results161]
def codeB (xs : List Ins) : Bool := decide (xs.length ≤ 300) && xs.all insB
theorem any_not (xs : List Ins) : xs.any (fun x => !insB x) = !xs.all insB := by
  induction xs with
  | nil => rfl
  | cons x xs ih => rw [List.any_cons, List.all_cons, ih]; cases insB x <;> rfl
theorem con_areInstrs (xs : List Ins) (hl : xs.length ≤ 1000000000) : Con Try.prog 93 [.one (inssD xs)] [.one (.bool (codeB xs))] := by
  have hc := con_ContainsFuncX (fun x => !insB x) _ xs hl (fun x _ => con_notIns x)
  rw [any_not] at hc
  unfold codeB
  generalize xs.all insB = b at *
  simp only [inssD] at hc ⊢
  by_cases hk : xs.length ≤ 300
  · have hi : (xs.length : Int) ≤ 300 := by omega
    rw [decide_eq_true hk]
    refine con_run Try.func93 rfl rfl (by simp [Try.ntmps93]) ?_
    simp only [argT, argA, eq_self, xRun, vE, vP, vBin, vBinT, isAg, isBo, vLen, isCutO, isB, bv, gT, gW, gN, gV, isU, isPick, isCall, AS.pt, AS.kn, AS.ev, AS.rd, look, cav, avB, td4, Option.bind, Option.getD, Option.isSome, List.getElem?_cons_zero, List.getElem?_cons_succ, ↓reduceIte, Nat.reduceLT, Nat.reduceEqDiff, true_and, Bool.true_and, Bool.false_eq_true, reduceCtorEq, decide_true, and_self, hi, Try.ntmps93]
    refine sw_call (hc) rfl (aAs_ok ?_) ?_ (sw_run 200 _ _ _ ?_)
    · simp only [aAs, aA, aD, AS.ev, look, Option.getD, List.map, List.append_nil, ↓reduceIte, Nat.reduceEqDiff, eq_self, and_self]
    · simp only [okR]
    cases b <;> simp only [mkR, flatD, packA, retA, List.headD_cons, fQ, xRet, rPs, xRes, flatA, rD, eq_self, xRun, vE, vP, vNot, isCutO, isB, bv, gT, gW, gN, gV, isU, isPick, pkC, pkA, isCall, AS.pt, AS.kn, AS.ev, look, eatsOf, Option.bind, Option.getD, Option.isSome, List.map, List.getElem?_cons_zero, List.getElem?_cons_succ, List.nodup_nil, ↓reduceIte, Nat.reduceLT, Nat.reduceEqDiff, or_false, Bool.not_true, Bool.not_false, Bool.false_eq_true, reduceCtorEq, and_self, Try.results93]
  · have hi : ¬ (xs.length : Int) ≤ 300 := by omega
    rw [decide_eq_false hk]
    refine con_run Try.func93 rfl rfl (by simp [Try.ntmps93]) ?_
    simp only [argT, argA, fQ, xRet, rPs, xRes, flatA, rD, eq_self, xRun, vE, vP, vBin, vBinT, isAg, isBo, vLen, isCutO, isB, bv, gT, gW, gN, gV, isU, isPick, pkC, pkB, isCall, AS.pt, AS.kn, AS.ev, AS.rd, look, cav, avB, eatsOf, td4, Option.bind, Option.getD, Option.isSome, List.map, List.getElem?_cons_zero, List.getElem?_cons_succ, List.nodup_nil, ↓reduceIte, Nat.reduceLT, Nat.reduceEqDiff, or_false, Bool.false_and, Bool.not_true, Bool.false_eq_true, reduceCtorEq, decide_false, and_self, hi, Try.ntmps93, Try.results93]
theorem con_taken (x : Ins) (h : insB x = true) : Con Try.prog 163 [.ag (insC x)] [.one (.int (popF x)), .one (.int (pushF x))] := by
  obtain ⟨h1, h2, h3, h4⟩ := ins_cases h
  obtain ⟨op, a⟩ := x
  simp only at h1 h2 h3 h4
  by_cases h4o : op = 4
  · subst h4o
    have hn := con_OpNameI a (h3 rfl)
    have ha := con_OpArI (opB a)
    rw [op_pop (h3 rfl)] at ha
    refine con_run Try.func163 rfl rfl (by simp [Try.ntmps163]) ?_
    simp only [argT, argA, eq_self, xRun, vE, vP, vSub, vLoad, vFld, vBin, vBinT, isAg, isBo, isCutO, isB, bv, gN, isPick, isCall, AS.pt, AS.ev, AS.box, look, cav, avB, AV.cells, AV.whole, AV.one, td0, td2, Option.getD, Option.isSome, List.map, List.getElem?_cons_zero, List.getElem?_cons_succ, List.all, ↓reduceIte, Nat.reduceLT, Nat.reduceEqDiff, Nat.zero_add, Nat.add_zero, ne_eq, not_false_eq_true, true_and, Bool.and_true, Bool.false_eq_true, decide_true, Nat.succ_ne_zero, insC, Try.ntmps163]
    refine sw_call (hn) rfl (aAs_ok ?_) ?_ (sw_run 200 _ _ _ ?_)
    · simp only [aAs, aA, aD, AS.ev, look, Option.getD, List.map, List.append_nil, ↓reduceIte, eq_self, and_self]
    · simp only [okR]
    simp only [mkR, flatD, packA, retA, List.headD_cons, eq_self, xRun, gN, isPick, isCall, AS.pt, ↓reduceIte, Nat.reduceLT, Bool.false_eq_true]
    refine sw_call (ha) rfl (aAs_ok ?_) ?_ (sw_run 200 _ _ _ ?_)
    · simp only [aAs, aA, aD, AS.ev, look, Option.getD, List.map, List.append_nil, ↓reduceIte, eq_self, and_self]
    · simp only [okR]
    simp only [mkR, flatD, packA, retA, List.headD_cons, fQ, xRet, rPs, xRes, flatA, rD, eq_self, xRun, vE, vP, isCutO, gN, isPick, isCall, AS.pt, AS.ev, look, cav, eatsOf, Option.getD, List.map, List.nodup_nil, ↓reduceIte, Nat.reduceLT, Nat.reduceEqDiff, or_false, Bool.false_eq_true, reduceCtorEq, Int.reduceEq, and_self, popF, pushF, Try.results163]
  · rcases (show op = 1 ∨ op = 2 ∨ op = 3 ∨ op = 5 ∨ op = 6 ∨ op = 7 ∨ op = 8 ∨ op = 9 ∨ op = 10 ∨ op = 11 ∨ op = 12 by omega) with rfl | rfl | rfl | rfl | rfl | rfl | rfl | rfl | rfl | rfl | rfl
    all_goals
      refine con_run Try.func163 rfl rfl (by simp [Try.ntmps163]) ?_
      simp only [argT, argA, fQ, xRet, rPs, xRes, flatA, rD, eq_self, xRun, vE, vP, vSub, vLoad, vFld, vBin, vBinT, isAg, isBo, isCutO, isB, bv, gN, isPick, isCall, AS.pt, AS.ev, AS.box, look, cav, avB, AV.cells, AV.whole, AV.one, eatsOf, td0, td2, Option.getD, Option.isSome, List.map, List.getElem?_cons_zero, List.all, List.nodup_nil, ↓reduceIte, Nat.reduceLT, Nat.reduceEqDiff, Nat.zero_add, Nat.add_zero, ne_eq, not_false_eq_true, or_false, or_true, Bool.and_true, Bool.false_eq_true, reduceCtorEq, Int.reduceEq, decide_true, decide_false, and_self, Nat.succ_ne_zero, insC, popF, pushF, Try.ntmps163, Try.results163]
theorem con_mayStand (x : Ins) (s : Shp) (h : insB x = true) : Con Try.prog 94 [.ag (insC x), .ag (shpC s)] [.one (.bool (mayF x s))] := by
  obtain ⟨h1, h2, h3, h4⟩ := ins_cases h
  have ht := con_taken x h
  obtain ⟨op, a⟩ := x
  obtain ⟨k, sh, d, b⟩ := s
  simp only at h1 h2 h3 h4
  unfold mayF
  generalize popF ⟨op, a⟩ = q at *
  simp only [insC, shpC] at ht ⊢
  rcases pc (sh < q) with hq | hq
  · rw [if_pos (.inl (of_eq_true hq))]
    refine con_run Try.func94 rfl rfl (by simp [Try.ntmps94]) ?_
    simp only [argT, argA, eq_self, xRun, vE, vP, vSub, vLoad, isCutO, gN, isPick, isCall, AS.pt, AS.ev, AS.box, look, cav, avB, AV.cells, AV.whole, AV.one, td0, Option.getD, List.map, List.take, List.drop, List.length, List.all, ↓reduceIte, Nat.reduceLT, Nat.reduceAdd, Nat.reduceEqDiff, Nat.zero_add, true_and, Bool.and_true, Bool.false_eq_true, reduceCtorEq, Nat.succ_ne_zero, Nat.le_refl, Try.ntmps94]
    refine sw_call (ht) rfl (aAs_ok ?_) ?_ (sw_run 200 _ _ _ ?_)
    · simp only [aAs, aA, aDs, aD, AS.ev, look, Option.getD, List.map, List.append_nil, ↓reduceIte, eq_self, and_self]
    · simp only [okR]
    simp only [mkR, flatD, packA, retA, List.headD_cons, List.tail_cons, fQ, xRet, rPs, xRes, flatA, rD, eq_self, xRun, vE, vP, vSub, vLoad, vFld, vBin, vBinT, isAg, isBo, vExt, isCutO, isB, bv, gN, isPick, isCall, AS.pt, AS.ev, look, cav, eatsOf, td0, td2, Option.getD, Option.isSome, List.map, List.getElem?_cons_zero, List.getElem?_cons_succ, List.nodup_nil, ↓reduceIte, Nat.reduceLT, Nat.reduceEqDiff, Nat.zero_add, ne_eq, not_false_eq_true, or_false, Bool.false_eq_true, reduceCtorEq, decide_true, and_self, Nat.succ_ne_zero, hq, Try.results94]
  · rcases pc (sh = 1) with hs | hs
    all_goals
      rcases h1 with rfl | rfl | rfl | rfl | rfl | rfl | rfl | rfl | rfl | rfl | rfl | rfl
    all_goals
      simp only [hq, hs, ne_eq, not_false_eq_true, not_true_eq_false, Int.reduceEq, and_false, and_true, or_false, or_true, if_true, if_false]
      refine con_run Try.func94 rfl rfl (by simp [Try.ntmps94]) ?_
      simp only [argT, argA, eq_self, xRun, vE, vP, vSub, vLoad, isCutO, gN, isPick, isCall, AS.pt, AS.ev, AS.box, look, cav, avB, AV.cells, AV.whole, AV.one, td0, Option.getD, List.map, List.take, List.drop, List.length, List.all, ↓reduceIte, Nat.reduceLT, Nat.reduceAdd, Nat.reduceEqDiff, Nat.zero_add, true_and, Bool.and_true, Bool.false_eq_true, reduceCtorEq, Nat.succ_ne_zero, Nat.le_refl, Try.ntmps94]
      refine sw_call (ht) rfl (aAs_ok ?_) ?_ (sw_run 200 _ _ _ ?_)
      · simp only [aAs, aA, aDs, aD, AS.ev, look, Option.getD, List.map, List.append_nil, ↓reduceIte, eq_self, and_self]
      · simp only [okR]
      simp only [mkR, flatD, packA, retA, List.headD_cons, List.tail_cons, fQ, xRet, rPs, xRes, flatA, rD, eq_self, xRun, vE, vP, vSub, vLoad, vFld, vBin, vBinT, isAg, isBo, vExt, isCutO, isB, bv, gT, gW, gN, gV, isU, isPick, pkC, pkA, pkB, isCall, AS.pt, AS.kn, AS.ev, look, cav, eatsOf, td0, td2, Option.bind, Option.getD, Option.isSome, List.map, List.getElem?_cons_zero, List.getElem?_cons_succ, List.nodup_nil, ↓reduceIte, Nat.reduceLT, Nat.reduceEqDiff, Nat.zero_add, Nat.add_zero, ne_eq, not_false_eq_true, not_true_eq_false, or_false, Bool.not_true, Bool.false_eq_true, reduceCtorEq, Int.reduceEq, decide_true, decide_false, and_self, Nat.succ_ne_zero, hq, hs, Try.results94]
theorem con_bitI (b : Bool) : Con Try.prog 164 [.one (.bool b)] [.one (.int (if b = true then 1 else 0))] := by
  cases b
  all_goals
    refine con_run Try.func164 rfl rfl (by simp [Try.ntmps164]) ?_
    simp only [argT, argA, fQ, xRet, rPs, xRes, flatA, rD, eq_self, xRun, vE, vP, isCutO, isB, bv, gN, isPick, isCall, AS.pt, AS.ev, look, cav, avB, eatsOf, Option.getD, List.map, List.nodup_nil, ↓reduceIte, Nat.reduceLT, or_false, Bool.false_eq_true, reduceCtorEq, and_self, Bool.false_eq_true, Try.ntmps164, Try.results164]
theorem con_following (p : Int) (x : Ins) (s : Shp) (h : insB x = true) (hp : -1000000 ≤ p ∧ p ≤ 1000000) (hh : -1000000 ≤ s.h ∧ s.h ≤ 1000000) (hd : -1000000 ≤ s.d ∧ s.d ≤ 1000000) : Con Try.prog 95 [.one (.int p), .ag (insC x), .ag (shpC s)] [.one (dersD (folI p x s))] := by
  obtain ⟨h1, h2, h3, h4⟩ := ins_cases h
  have ht := con_taken x h
  have hb := con_bitI
  obtain ⟨op, a⟩ := x
  obtain ⟨k, sh, d, b⟩ := s
  simp only at h1 h2 h3 h4 hh hd
  have hpb := popF_rng ⟨op, a⟩
  have hub := pushF_rng ⟨op, a⟩
  unfold folI aftF insF
  generalize popF ⟨op, a⟩ = q at *
  generalize pushF ⟨op, a⟩ = u at *
  have i1 : inI (u - q) := by unfold inI; omega
  have i2 : inI (sh + (u - q)) := by unfold inI; omega
  have i3 : inI (d + 1) := by unfold inI; omega
  have i4 : inI (d - 1) := by unfold inI; omega
  have i5 : inI (p + 1) := by unfold inI; omega
  have i6 : inI (d + 1 + 1) := by unfold inI; omega
  have i7 : inI (d + 1 + 0) := by unfold inI; omega
  simp only [insC, shpC] at ht ⊢
  rcases h1 with rfl | rfl | rfl | rfl | rfl | rfl | rfl | rfl | rfl | rfl | rfl | rfl
  · simp only [Int.reduceEq, or_self, if_false]
    refine con_run Try.func95 rfl rfl (by simp [Try.ntmps95]) ?_
    simp only [argT, argA, eq_self, xRun, vE, vP, vSub, vLoad, isCutO, gN, isPick, isCall, AS.pt, AS.ev, AS.box, look, cav, avB, AV.cells, AV.whole, AV.one, td0, Option.getD, List.map, List.take, List.drop, List.length, List.all, ↓reduceIte, Nat.reduceLT, Nat.reduceAdd, Nat.reduceEqDiff, Nat.zero_add, true_and, Bool.and_true, Bool.false_eq_true, reduceCtorEq, Nat.succ_ne_zero, Nat.le_refl, Try.ntmps95]
    refine sw_call (ht) rfl (aAs_ok ?_) ?_ (sw_run 200 _ _ _ ?_)
    · simp only [aAs, aA, aDs, aD, AS.ev, look, Option.getD, List.map, List.append_nil, ↓reduceIte, eq_self, and_self]
    · simp only [okR]
    simp only [mkR, flatD, packA, retA, List.headD_cons, List.tail_cons, fQ, xRet, rPs, xRes, flatA, rD, eq_self, xRun, vE, vP, vSub, vLoad, vFld, vBin, vBinT, isAg, isBo, vExt, vBuild, vRow, vStore, isCutO, xFill, isB, bv, gN, isPick, isCall, AS.pt, AS.ev, AS.box, AS.setb, AS.mk', AS.owf, kill, look, cav, setRowG, AV.cells, AV.whole, AV.one, cD, cDs, eatsOf, dpOf, td0, td1, td2, td5, td6, Option.bind, Option.getD, Option.isSome, List.map, List.take, List.drop, List.length, List.getElem?_cons_zero, List.getElem?_cons_succ, List.set, List.foldr, List.all, List.replicate, List.not_mem_nil, List.nodup_cons, List.nodup_nil, List.append_nil, ↓reduceIte, Nat.reduceLT, Nat.reduceAdd, Nat.reduceLeDiff, Nat.reduceEqDiff, Nat.zero_add, Nat.add_zero, Nat.zero_mul, Nat.one_mul, ne_eq, not_false_eq_true, or_false, or_true, Bool.and_true, Bool.false_eq_true, id_eq, reduceCtorEq, Int.reduceEq, decide_false, and_self, Nat.succ_ne_zero, Nat.le_refl, i1, i2, i5, dersD, flC, derC, Try.results95]
  · simp only [Int.reduceEq, or_self, if_false]
    refine con_run Try.func95 rfl rfl (by simp [Try.ntmps95]) ?_
    simp only [argT, argA, eq_self, xRun, vE, vP, vSub, vLoad, isCutO, gN, isPick, isCall, AS.pt, AS.ev, AS.box, look, cav, avB, AV.cells, AV.whole, AV.one, td0, Option.getD, List.map, List.take, List.drop, List.length, List.all, ↓reduceIte, Nat.reduceLT, Nat.reduceAdd, Nat.reduceEqDiff, Nat.zero_add, true_and, Bool.and_true, Bool.false_eq_true, reduceCtorEq, Nat.succ_ne_zero, Nat.le_refl, Try.ntmps95]
    refine sw_call (ht) rfl (aAs_ok ?_) ?_ (sw_run 200 _ _ _ ?_)
    · simp only [aAs, aA, aDs, aD, AS.ev, look, Option.getD, List.map, List.append_nil, ↓reduceIte, eq_self, and_self]
    · simp only [okR]
    simp only [mkR, flatD, packA, retA, List.headD_cons, List.tail_cons, fQ, xRet, rPs, xRes, flatA, rD, eq_self, xRun, vE, vP, vSub, vLoad, vFld, vBin, vBinT, isAg, isBo, vExt, vBuild, vRow, vStore, isCutO, xFill, isB, bv, gN, isPick, isCall, AS.pt, AS.ev, AS.box, AS.setb, AS.mk', AS.owf, kill, look, cav, setRowG, AV.cells, AV.whole, AV.one, cD, cDs, eatsOf, dpOf, td0, td1, td2, td5, td6, Option.bind, Option.getD, Option.isSome, List.map, List.take, List.drop, List.length, List.getElem?_cons_zero, List.getElem?_cons_succ, List.set, List.foldr, List.all, List.replicate, List.not_mem_nil, List.nodup_cons, List.nodup_nil, List.append_nil, ↓reduceIte, Nat.reduceLT, Nat.reduceAdd, Nat.reduceLeDiff, Nat.reduceEqDiff, Nat.zero_add, Nat.add_zero, Nat.zero_mul, Nat.one_mul, ne_eq, not_false_eq_true, or_false, or_true, Bool.and_true, Bool.false_eq_true, id_eq, reduceCtorEq, Int.reduceEq, decide_false, and_self, Nat.succ_ne_zero, Nat.le_refl, i1, i2, i5, dersD, flC, derC, Try.results95]
  · simp only [Int.reduceEq, or_self, if_false]
    refine con_run Try.func95 rfl rfl (by simp [Try.ntmps95]) ?_
    simp only [argT, argA, eq_self, xRun, vE, vP, vSub, vLoad, isCutO, gN, isPick, isCall, AS.pt, AS.ev, AS.box, look, cav, avB, AV.cells, AV.whole, AV.one, td0, Option.getD, List.map, List.take, List.drop, List.length, List.all, ↓reduceIte, Nat.reduceLT, Nat.reduceAdd, Nat.reduceEqDiff, Nat.zero_add, true_and, Bool.and_true, Bool.false_eq_true, reduceCtorEq, Nat.succ_ne_zero, Nat.le_refl, Try.ntmps95]
    refine sw_call (ht) rfl (aAs_ok ?_) ?_ (sw_run 200 _ _ _ ?_)
    · simp only [aAs, aA, aDs, aD, AS.ev, look, Option.getD, List.map, List.append_nil, ↓reduceIte, eq_self, and_self]
    · simp only [okR]
    simp only [mkR, flatD, packA, retA, List.headD_cons, List.tail_cons, fQ, xRet, rPs, xRes, flatA, rD, eq_self, xRun, vE, vP, vSub, vLoad, vFld, vBin, vBinT, isAg, isBo, vExt, vBuild, vRow, vStore, isCutO, xFill, isB, bv, gN, isPick, isCall, AS.pt, AS.ev, AS.box, AS.setb, AS.mk', AS.owf, kill, look, cav, setRowG, AV.cells, AV.whole, AV.one, cD, cDs, eatsOf, dpOf, td0, td1, td2, td5, td6, Option.bind, Option.getD, Option.isSome, List.map, List.take, List.drop, List.length, List.getElem?_cons_zero, List.getElem?_cons_succ, List.set, List.foldr, List.all, List.replicate, List.not_mem_nil, List.nodup_cons, List.nodup_nil, List.append_nil, ↓reduceIte, Nat.reduceLT, Nat.reduceAdd, Nat.reduceLeDiff, Nat.reduceEqDiff, Nat.zero_add, Nat.add_zero, Nat.zero_mul, Nat.one_mul, ne_eq, not_false_eq_true, or_false, or_true, Bool.and_true, Bool.false_eq_true, id_eq, reduceCtorEq, Int.reduceEq, decide_false, and_self, Nat.succ_ne_zero, Nat.le_refl, i1, i2, i5, dersD, flC, derC, Try.results95]
  · simp only [Int.reduceEq, or_self, if_false]
    refine con_run Try.func95 rfl rfl (by simp [Try.ntmps95]) ?_
    simp only [argT, argA, eq_self, xRun, vE, vP, vSub, vLoad, isCutO, gN, isPick, isCall, AS.pt, AS.ev, AS.box, look, cav, avB, AV.cells, AV.whole, AV.one, td0, Option.getD, List.map, List.take, List.drop, List.length, List.all, ↓reduceIte, Nat.reduceLT, Nat.reduceAdd, Nat.reduceEqDiff, Nat.zero_add, true_and, Bool.and_true, Bool.false_eq_true, reduceCtorEq, Nat.succ_ne_zero, Nat.le_refl, Try.ntmps95]
    refine sw_call (ht) rfl (aAs_ok ?_) ?_ (sw_run 200 _ _ _ ?_)
    · simp only [aAs, aA, aDs, aD, AS.ev, look, Option.getD, List.map, List.append_nil, ↓reduceIte, eq_self, and_self]
    · simp only [okR]
    simp only [mkR, flatD, packA, retA, List.headD_cons, List.tail_cons, fQ, xRet, rPs, xRes, flatA, rD, eq_self, xRun, vE, vP, vSub, vLoad, vFld, vBin, vBinT, isAg, isBo, vExt, vBuild, vRow, vStore, isCutO, xFill, isB, bv, gN, isPick, isCall, AS.pt, AS.ev, AS.box, AS.setb, AS.mk', AS.owf, kill, look, cav, setRowG, AV.cells, AV.whole, AV.one, cD, cDs, eatsOf, dpOf, td0, td1, td2, td5, td6, Option.bind, Option.getD, Option.isSome, List.map, List.take, List.drop, List.length, List.getElem?_cons_zero, List.getElem?_cons_succ, List.set, List.foldr, List.all, List.replicate, List.not_mem_nil, List.nodup_cons, List.nodup_nil, List.append_nil, ↓reduceIte, Nat.reduceLT, Nat.reduceAdd, Nat.reduceLeDiff, Nat.reduceEqDiff, Nat.zero_add, Nat.add_zero, Nat.zero_mul, Nat.one_mul, ne_eq, not_false_eq_true, or_false, or_true, Bool.and_true, Bool.false_eq_true, id_eq, reduceCtorEq, Int.reduceEq, decide_false, and_self, Nat.succ_ne_zero, Nat.le_refl, i1, i2, i5, dersD, flC, derC, Try.results95]
  · simp only [Int.reduceEq, or_self, if_true, if_false]
    refine con_run Try.func95 rfl rfl (by simp [Try.ntmps95]) ?_
    simp only [argT, argA, eq_self, xRun, vE, vP, vSub, vLoad, isCutO, gN, isPick, isCall, AS.pt, AS.ev, AS.box, look, cav, avB, AV.cells, AV.whole, AV.one, td0, Option.getD, List.map, List.take, List.drop, List.length, List.all, ↓reduceIte, Nat.reduceLT, Nat.reduceAdd, Nat.reduceEqDiff, Nat.zero_add, true_and, Bool.and_true, Bool.false_eq_true, reduceCtorEq, Nat.succ_ne_zero, Nat.le_refl, Try.ntmps95]
    refine sw_call (ht) rfl (aAs_ok ?_) ?_ (sw_run 200 _ _ _ ?_)
    · simp only [aAs, aA, aDs, aD, AS.ev, look, Option.getD, List.map, List.append_nil, ↓reduceIte, eq_self, and_self]
    · simp only [okR]
    simp only [mkR, flatD, packA, retA, List.headD_cons, List.tail_cons, fQ, xRet, rPs, xRes, flatA, rD, eq_self, xRun, vE, vP, vSub, vLoad, vFld, vBin, vBinT, isAg, isBo, vExt, vBuild, vRow, vStore, isCutO, xFill, isB, bv, gN, isPick, isCall, AS.pt, AS.ev, AS.box, AS.setb, AS.mk', AS.owf, kill, look, cav, setRowG, AV.cells, AV.whole, AV.one, cD, cDs, eatsOf, dpOf, td0, td1, td2, td5, td6, Option.bind, Option.getD, Option.isSome, List.map, List.take, List.drop, List.length, List.getElem?_cons_zero, List.getElem?_cons_succ, List.set, List.foldr, List.all, List.replicate, List.not_mem_nil, List.nodup_cons, List.nodup_nil, List.append_nil, ↓reduceIte, Nat.reduceLT, Nat.reduceAdd, Nat.reduceLeDiff, Nat.reduceEqDiff, Nat.zero_add, Nat.add_zero, Nat.zero_mul, Nat.one_mul, ne_eq, not_false_eq_true, or_false, or_true, Bool.and_true, Bool.false_eq_true, id_eq, reduceCtorEq, Int.reduceEq, decide_true, decide_false, and_self, Nat.succ_ne_zero, Nat.le_refl, i1, i2, dersD, flC, derC, Try.results95]
  · simp only [Int.reduceEq, or_self, if_true, if_false]
    refine con_run Try.func95 rfl rfl (by simp [Try.ntmps95]) ?_
    simp only [argT, argA, eq_self, xRun, vE, vP, vSub, vLoad, isCutO, gN, isPick, isCall, AS.pt, AS.ev, AS.box, look, cav, avB, AV.cells, AV.whole, AV.one, td0, Option.getD, List.map, List.take, List.drop, List.length, List.all, ↓reduceIte, Nat.reduceLT, Nat.reduceAdd, Nat.reduceEqDiff, Nat.zero_add, true_and, Bool.and_true, Bool.false_eq_true, reduceCtorEq, Nat.succ_ne_zero, Nat.le_refl, Try.ntmps95]
    refine sw_call (ht) rfl (aAs_ok ?_) ?_ (sw_run 200 _ _ _ ?_)
    · simp only [aAs, aA, aDs, aD, AS.ev, look, Option.getD, List.map, List.append_nil, ↓reduceIte, eq_self, and_self]
    · simp only [okR]
    simp only [mkR, flatD, packA, retA, List.headD_cons, List.tail_cons, fQ, xRet, rPs, xRes, flatA, rD, eq_self, xRun, vE, vP, vSub, vLoad, vFld, vBin, vBinT, isAg, isBo, vExt, vBuild, vRow, vStore, isCutO, xFill, isB, bv, gN, isPick, isCall, AS.pt, AS.ev, AS.box, AS.setb, AS.mk', AS.owf, kill, look, cav, setRowG, AV.cells, AV.whole, AV.one, cD, cDs, eatsOf, dpOf, td0, td1, td2, td5, td6, Option.bind, Option.getD, Option.isSome, List.map, List.take, List.drop, List.length, List.getElem?_cons_zero, List.getElem?_cons_succ, List.set, List.foldr, List.all, List.replicate, List.not_mem_nil, List.nodup_cons, List.nodup_nil, List.nil_append, List.cons_append, List.append_nil, ↓reduceIte, Nat.reduceLT, Nat.reduceAdd, Nat.reduceMul, Nat.reduceLeDiff, Nat.reduceEqDiff, Nat.zero_add, Nat.add_zero, Nat.zero_mul, Nat.one_mul, ne_eq, not_false_eq_true, or_false, or_true, Bool.and_true, Bool.false_eq_true, id_eq, reduceCtorEq, Int.reduceEq, decide_true, decide_false, and_self, Nat.succ_ne_zero, Nat.le_refl, i1, i2, i5, dersD, flC, derC, Try.results95]
  · simp only [Int.reduceEq, or_false, if_true, if_false]
    refine con_run Try.func95 rfl rfl (by simp [Try.ntmps95]) ?_
    simp only [argT, argA, eq_self, xRun, vE, vP, vSub, vLoad, isCutO, gN, isPick, isCall, AS.pt, AS.ev, AS.box, look, cav, avB, AV.cells, AV.whole, AV.one, td0, Option.getD, List.map, List.take, List.drop, List.length, List.all, ↓reduceIte, Nat.reduceLT, Nat.reduceAdd, Nat.reduceEqDiff, Nat.zero_add, true_and, Bool.and_true, Bool.false_eq_true, reduceCtorEq, Nat.succ_ne_zero, Nat.le_refl, Try.ntmps95]
    refine sw_call (ht) rfl (aAs_ok ?_) ?_ (sw_run 200 _ _ _ ?_)
    · simp only [aAs, aA, aDs, aD, AS.ev, look, Option.getD, List.map, List.append_nil, ↓reduceIte, eq_self, and_self]
    · simp only [okR]
    simp only [mkR, flatD, packA, retA, List.headD_cons, List.tail_cons, eq_self, xRun, vE, vP, vSub, vLoad, vFld, vBin, vBinT, isAg, isBo, vExt, vStore, isCutO, isB, bv, gN, isPick, isCall, AS.pt, AS.ev, AS.box, AS.setb, look, cav, setRowG, AV.cells, AV.whole, AV.one, td0, td2, td5, td6, Option.getD, Option.isSome, List.take, List.drop, List.length, List.getElem?_cons_zero, List.getElem?_cons_succ, List.set, List.all, List.nil_append, List.cons_append, List.append_nil, ↓reduceIte, Nat.reduceLT, Nat.reduceAdd, Nat.reduceLeDiff, Nat.reduceEqDiff, Nat.zero_add, Nat.add_zero, ne_eq, not_false_eq_true, true_and, Bool.and_true, Bool.false_eq_true, reduceCtorEq, Int.reduceEq, decide_true, decide_false, and_self, Nat.succ_ne_zero, Nat.le_refl, i1, i2, dersD, flC, derC]
    refine sw_drawn (.cons 0 true (.cons 1 true (.cons 2 true (.cons 3 true (.cons 4 true (.cons 5 true (.cons 6 false (.cons 7 true (.cons 8 true (.nil)))))))))) (by kernel_rfl) fQ_panic (by kernel_rfl) (sw_run 200 _ _ _ ?_)
    simp only [eq_self, xRun, vP, vSub, vLoad, vFld, vBin, vBinT, isAg, isBo, gN, isPick, isCall, AS.pt, AS.ev, look, cav, td0, td2, Option.getD, Option.isSome, List.getElem?_cons_zero, List.getElem?_cons_succ, ↓reduceIte, Nat.reduceLT, Nat.reduceEqDiff, Nat.zero_add, Nat.add_zero, ne_eq, not_false_eq_true, true_and, Bool.false_eq_true, reduceCtorEq, Int.reduceEq, decide_false, Nat.succ_ne_zero, i3]
    refine sw_callD (hb false) rfl (aAs_ok ?_) ?_ (sw_run 200 _ _ _ ?_)
    · simp only [aAs, aA, aD, AS.ev, look, Option.getD, List.map, List.append_nil, ↓reduceIte, eq_self, and_self]
    · simp only [okR]
    simp only [mkR, flatD, packA, retA, List.headD_cons, fQ, xRet, rPs, xRes, flatA, rD, eq_self, xRun, vE, vP, vSub, vLoad, vFld, vBin, vBinT, isAg, isBo, vBuild, vRow, isCutO, xFill, gN, isPick, isCall, AS.pt, AS.ev, AS.mk', AS.owf, kill, look, cav, setRowG, AV.cells, AV.whole, AV.one, cD, cDs, eatsOf, dpOf, td0, td1, td2, td6, Option.bind, Option.getD, Option.isSome, List.map, List.take, List.drop, List.length, List.getElem?_cons_zero, List.getElem?_cons_succ, List.set, List.foldr, List.all, List.replicate, List.not_mem_nil, List.nodup_cons, List.nodup_nil, ↓reduceIte, Nat.reduceLT, Nat.reduceAdd, Nat.reduceMul, Nat.reduceLeDiff, Nat.reduceEqDiff, Nat.zero_add, Nat.zero_mul, Nat.one_mul, ne_eq, not_false_eq_true, or_false, or_true, Bool.and_true, Bool.false_eq_true, id_eq, reduceCtorEq, and_self, Nat.succ_ne_zero, Nat.le_refl, i5, i7, Bool.false_eq_true, Try.results95]
  · simp only [Int.reduceEq, or_true, if_true, if_false]
    refine con_run Try.func95 rfl rfl (by simp [Try.ntmps95]) ?_
    simp only [argT, argA, eq_self, xRun, vE, vP, vSub, vLoad, isCutO, gN, isPick, isCall, AS.pt, AS.ev, AS.box, look, cav, avB, AV.cells, AV.whole, AV.one, td0, Option.getD, List.map, List.take, List.drop, List.length, List.all, ↓reduceIte, Nat.reduceLT, Nat.reduceAdd, Nat.reduceEqDiff, Nat.zero_add, true_and, Bool.and_true, Bool.false_eq_true, reduceCtorEq, Nat.succ_ne_zero, Nat.le_refl, Try.ntmps95]
    refine sw_call (ht) rfl (aAs_ok ?_) ?_ (sw_run 200 _ _ _ ?_)
    · simp only [aAs, aA, aDs, aD, AS.ev, look, Option.getD, List.map, List.append_nil, ↓reduceIte, eq_self, and_self]
    · simp only [okR]
    simp only [mkR, flatD, packA, retA, List.headD_cons, List.tail_cons, eq_self, xRun, vE, vP, vSub, vLoad, vFld, vBin, vBinT, isAg, isBo, vExt, vStore, isCutO, isB, bv, gN, isPick, isCall, AS.pt, AS.ev, AS.box, AS.setb, look, cav, setRowG, AV.cells, AV.whole, AV.one, td0, td2, td5, td6, Option.getD, Option.isSome, List.take, List.drop, List.length, List.getElem?_cons_zero, List.getElem?_cons_succ, List.set, List.all, List.nil_append, List.cons_append, List.append_nil, ↓reduceIte, Nat.reduceLT, Nat.reduceAdd, Nat.reduceLeDiff, Nat.reduceEqDiff, Nat.zero_add, Nat.add_zero, ne_eq, not_false_eq_true, true_and, Bool.and_true, Bool.false_eq_true, reduceCtorEq, Int.reduceEq, decide_true, decide_false, and_self, Nat.succ_ne_zero, Nat.le_refl, i1, i2, dersD, flC, derC]
    refine sw_drawn (.cons 0 true (.cons 1 true (.cons 2 true (.cons 3 true (.cons 4 true (.cons 5 true (.cons 6 false (.cons 7 true (.cons 8 true (.nil)))))))))) (by kernel_rfl) fQ_panic (by kernel_rfl) (sw_run 200 _ _ _ ?_)
    simp only [eq_self, xRun, vP, vSub, vLoad, vFld, vBin, vBinT, isAg, isBo, gN, isPick, isCall, AS.pt, AS.ev, look, cav, td0, td2, Option.getD, Option.isSome, List.getElem?_cons_zero, List.getElem?_cons_succ, ↓reduceIte, Nat.reduceLT, Nat.reduceEqDiff, Nat.zero_add, Nat.add_zero, ne_eq, not_false_eq_true, true_and, Bool.false_eq_true, reduceCtorEq, decide_true, Nat.succ_ne_zero, i3]
    refine sw_callD (hb true) rfl (aAs_ok ?_) ?_ (sw_run 200 _ _ _ ?_)
    · simp only [aAs, aA, aD, AS.ev, look, Option.getD, List.map, List.append_nil, ↓reduceIte, eq_self, and_self]
    · simp only [okR]
    simp only [mkR, flatD, packA, retA, List.headD_cons, fQ, xRet, rPs, xRes, flatA, rD, eq_self, xRun, vE, vP, vSub, vLoad, vFld, vBin, vBinT, isAg, isBo, vBuild, vRow, isCutO, xFill, gN, isPick, isCall, AS.pt, AS.ev, AS.mk', AS.owf, kill, look, cav, setRowG, AV.cells, AV.whole, AV.one, cD, cDs, eatsOf, dpOf, td0, td1, td2, td6, Option.bind, Option.getD, Option.isSome, List.map, List.take, List.drop, List.length, List.getElem?_cons_zero, List.getElem?_cons_succ, List.set, List.foldr, List.all, List.replicate, List.not_mem_nil, List.nodup_cons, List.nodup_nil, ↓reduceIte, Nat.reduceLT, Nat.reduceAdd, Nat.reduceMul, Nat.reduceLeDiff, Nat.reduceEqDiff, Nat.zero_add, Nat.zero_mul, Nat.one_mul, ne_eq, not_false_eq_true, or_false, or_true, Bool.and_true, Bool.false_eq_true, id_eq, reduceCtorEq, and_self, Nat.succ_ne_zero, Nat.le_refl, i5, i6, Bool.false_eq_true, Try.results95]
  · simp only [Int.reduceEq, or_self, if_false]
    refine con_run Try.func95 rfl rfl (by simp [Try.ntmps95]) ?_
    simp only [argT, argA, eq_self, xRun, vE, vP, vSub, vLoad, isCutO, gN, isPick, isCall, AS.pt, AS.ev, AS.box, look, cav, avB, AV.cells, AV.whole, AV.one, td0, Option.getD, List.map, List.take, List.drop, List.length, List.all, ↓reduceIte, Nat.reduceLT, Nat.reduceAdd, Nat.reduceEqDiff, Nat.zero_add, true_and, Bool.and_true, Bool.false_eq_true, reduceCtorEq, Nat.succ_ne_zero, Nat.le_refl, Try.ntmps95]
    refine sw_call (ht) rfl (aAs_ok ?_) ?_ (sw_run 200 _ _ _ ?_)
    · simp only [aAs, aA, aDs, aD, AS.ev, look, Option.getD, List.map, List.append_nil, ↓reduceIte, eq_self, and_self]
    · simp only [okR]
    simp only [mkR, flatD, packA, retA, List.headD_cons, List.tail_cons, fQ, xRet, rPs, xRes, flatA, rD, eq_self, xRun, vE, vP, vSub, vLoad, vFld, vBin, vBinT, isAg, isBo, vExt, vBuild, vRow, vStore, isCutO, xFill, isB, bv, gN, isPick, isCall, AS.pt, AS.ev, AS.box, AS.setb, AS.mk', AS.owf, kill, look, cav, setRowG, AV.cells, AV.whole, AV.one, cD, cDs, eatsOf, dpOf, td0, td1, td2, td5, td6, Option.bind, Option.getD, Option.isSome, List.map, List.take, List.drop, List.length, List.getElem?_cons_zero, List.getElem?_cons_succ, List.set, List.foldr, List.all, List.replicate, List.not_mem_nil, List.nodup_cons, List.nodup_nil, List.append_nil, ↓reduceIte, Nat.reduceLT, Nat.reduceAdd, Nat.reduceLeDiff, Nat.reduceEqDiff, Nat.zero_add, Nat.add_zero, Nat.zero_mul, Nat.one_mul, ne_eq, not_false_eq_true, or_false, or_true, Bool.and_true, Bool.false_eq_true, id_eq, reduceCtorEq, Int.reduceEq, decide_false, and_self, Nat.succ_ne_zero, Nat.le_refl, i1, i2, i5, dersD, flC, derC, Try.results95]
  · simp only [Int.reduceEq, or_self, if_true, if_false]
    refine con_run Try.func95 rfl rfl (by simp [Try.ntmps95]) ?_
    simp only [argT, argA, eq_self, xRun, vE, vP, vSub, vLoad, isCutO, gN, isPick, isCall, AS.pt, AS.ev, AS.box, look, cav, avB, AV.cells, AV.whole, AV.one, td0, Option.getD, List.map, List.take, List.drop, List.length, List.all, ↓reduceIte, Nat.reduceLT, Nat.reduceAdd, Nat.reduceEqDiff, Nat.zero_add, true_and, Bool.and_true, Bool.false_eq_true, reduceCtorEq, Nat.succ_ne_zero, Nat.le_refl, Try.ntmps95]
    refine sw_call (ht) rfl (aAs_ok ?_) ?_ (sw_run 200 _ _ _ ?_)
    · simp only [aAs, aA, aDs, aD, AS.ev, look, Option.getD, List.map, List.append_nil, ↓reduceIte, eq_self, and_self]
    · simp only [okR]
    simp only [mkR, flatD, packA, retA, List.headD_cons, List.tail_cons, fQ, xRet, rPs, xRes, flatA, rD, eq_self, xRun, vE, vP, vSub, vLoad, vFld, vBin, vBinT, isAg, isBo, vExt, vStore, isCutO, isB, bv, gN, isPick, isCall, AS.pt, AS.ev, AS.box, AS.setb, look, cav, setRowG, AV.cells, AV.whole, AV.one, eatsOf, td0, td2, td5, td6, Option.getD, Option.isSome, List.map, List.take, List.drop, List.length, List.getElem?_cons_zero, List.getElem?_cons_succ, List.set, List.all, List.nodup_nil, ↓reduceIte, Nat.reduceLT, Nat.reduceAdd, Nat.reduceLeDiff, Nat.reduceEqDiff, Nat.zero_add, Nat.add_zero, ne_eq, not_false_eq_true, or_false, Bool.and_true, Bool.false_eq_true, reduceCtorEq, Int.reduceEq, decide_true, decide_false, and_self, Nat.succ_ne_zero, Nat.le_refl, i1, i2, dersD, flC, Try.results95]
  · simp only [Int.reduceEq, or_self, if_true, if_false]
    refine con_run Try.func95 rfl rfl (by simp [Try.ntmps95]) ?_
    simp only [argT, argA, eq_self, xRun, vE, vP, vSub, vLoad, isCutO, gN, isPick, isCall, AS.pt, AS.ev, AS.box, look, cav, avB, AV.cells, AV.whole, AV.one, td0, Option.getD, List.map, List.take, List.drop, List.length, List.all, ↓reduceIte, Nat.reduceLT, Nat.reduceAdd, Nat.reduceEqDiff, Nat.zero_add, true_and, Bool.and_true, Bool.false_eq_true, reduceCtorEq, Nat.succ_ne_zero, Nat.le_refl, Try.ntmps95]
    refine sw_call (ht) rfl (aAs_ok ?_) ?_ (sw_run 200 _ _ _ ?_)
    · simp only [aAs, aA, aDs, aD, AS.ev, look, Option.getD, List.map, List.append_nil, ↓reduceIte, eq_self, and_self]
    · simp only [okR]
    simp only [mkR, flatD, packA, retA, List.headD_cons, List.tail_cons, fQ, xRet, rPs, xRes, flatA, rD, eq_self, xRun, vE, vP, vSub, vLoad, vFld, vBin, vBinT, isAg, isBo, vExt, vBuild, vRow, vStore, isCutO, xFill, isB, bv, gN, isPick, isCall, AS.pt, AS.ev, AS.box, AS.setb, AS.mk', AS.owf, kill, look, cav, setRowG, AV.cells, AV.whole, AV.one, cD, cDs, eatsOf, dpOf, td0, td1, td2, td5, td6, Option.bind, Option.getD, Option.isSome, List.map, List.take, List.drop, List.length, List.getElem?_cons_zero, List.getElem?_cons_succ, List.set, List.foldr, List.all, List.replicate, List.not_mem_nil, List.nodup_cons, List.nodup_nil, List.append_nil, ↓reduceIte, Nat.reduceLT, Nat.reduceAdd, Nat.reduceLeDiff, Nat.reduceEqDiff, Nat.zero_add, Nat.add_zero, Nat.zero_mul, Nat.one_mul, ne_eq, not_false_eq_true, or_false, or_true, Bool.and_true, Bool.false_eq_true, id_eq, reduceCtorEq, decide_true, and_self, Nat.succ_ne_zero, Nat.le_refl, i1, i2, i3, i5, dersD, flC, derC, Try.results95]
  · simp only [Int.reduceEq, or_self, if_true, if_false]
    refine con_run Try.func95 rfl rfl (by simp [Try.ntmps95]) ?_
    simp only [argT, argA, eq_self, xRun, vE, vP, vSub, vLoad, isCutO, gN, isPick, isCall, AS.pt, AS.ev, AS.box, look, cav, avB, AV.cells, AV.whole, AV.one, td0, Option.getD, List.map, List.take, List.drop, List.length, List.all, ↓reduceIte, Nat.reduceLT, Nat.reduceAdd, Nat.reduceEqDiff, Nat.zero_add, true_and, Bool.and_true, Bool.false_eq_true, reduceCtorEq, Nat.succ_ne_zero, Nat.le_refl, Try.ntmps95]
    refine sw_call (ht) rfl (aAs_ok ?_) ?_ (sw_run 200 _ _ _ ?_)
    · simp only [aAs, aA, aDs, aD, AS.ev, look, Option.getD, List.map, List.append_nil, ↓reduceIte, eq_self, and_self]
    · simp only [okR]
    simp only [mkR, flatD, packA, retA, List.headD_cons, List.tail_cons, fQ, xRet, rPs, xRes, flatA, rD, eq_self, xRun, vE, vP, vSub, vLoad, vFld, vBin, vBinT, isAg, isBo, vExt, vBuild, vRow, vStore, isCutO, xFill, isB, bv, gN, isPick, isCall, AS.pt, AS.ev, AS.box, AS.setb, AS.mk', AS.owf, kill, look, cav, setRowG, AV.cells, AV.whole, AV.one, cD, cDs, eatsOf, dpOf, td0, td1, td2, td5, td6, Option.bind, Option.getD, Option.isSome, List.map, List.take, List.drop, List.length, List.getElem?_cons_zero, List.getElem?_cons_succ, List.set, List.foldr, List.all, List.replicate, List.not_mem_nil, List.nodup_cons, List.nodup_nil, List.append_nil, ↓reduceIte, Nat.reduceLT, Nat.reduceAdd, Nat.reduceLeDiff, Nat.reduceEqDiff, Nat.zero_add, Nat.add_zero, Nat.zero_mul, Nat.one_mul, ne_eq, not_false_eq_true, or_false, or_true, Bool.and_true, Bool.false_eq_true, id_eq, reduceCtorEq, Int.reduceEq, decide_true, decide_false, and_self, Nat.succ_ne_zero, Nat.le_refl, i1, i2, i4, i5, dersD, flC, derC, Try.results95]
/-! ShapesOf -/
theorem goI_cons {code : List Ins} {f : Nat} {out : List Shp} {d : Der} {r list : List Der} (h : list = d :: r) : goI code (f + 1) out list = if (code.length : Int) ≤ d.p then some none
    else if out[d.p.toNat]!.known = true then (if out[d.p.toNat]! = d.s then goI code f out r else some none)
    else if mayF code[d.p.toNat]! d.s = true then goI code f (out.set d.p.toNat d.s) (r ++ folI d.p code[d.p.toNat]! d.s)
    else some none := by rw [h, goI]
theorem okA_of {code : List Ins} (h : codeB code = true) : okA code ∧ code.length ≤ 300 ∧ ∀ k, k < code.length → insB code[k]! = true := by
  unfold codeB at h
  rw [Bool.and_eq_true, List.all_eq_true] at h
  exact ⟨fun x hx => (ins_cases (h.2 x hx)).2.1.1, of_decide_eq_true h.1, fun k hk => h.2 _ (mem_bang hk)⟩
def shpR (code : List Ins) : Option (List Shp) := if codeB code = true ∧ 0 < code.length then shRes code else none
def bdD (f : Nat) (d : Der) : Prop := (0 ≤ d.p ∧ d.p ≤ 1000) ∧ d.s.known = true ∧ (-(4 * (1000 - (f : Int))) ≤ d.s.h ∧ d.s.h ≤ 4 * (1000 - (f : Int))) ∧ (-(4 * (1000 - (f : Int))) ≤ d.s.d ∧ d.s.d ≤ 4 * (1000 - (f : Int)))
theorem bdD.mono {f : Nat} {d : Der} (h : bdD (f + 1) d) : bdD f d := by
  obtain ⟨h1, h2, h3, h4⟩ := h
  exact ⟨h1, h2, by omega, by omega⟩
theorem fol_bd {f : Nat} {p : Int} {x : Ins} {s : Shp} (hf : f + 1 ≤ 1000) (hx : insB x = true) (h : bdD (f + 1) ⟨p, s⟩) (hp : p < 300) : ∀ y ∈ folI p x s, bdD f y := by
  obtain ⟨h1, h2, h3, h4⟩ := h
  simp only at h1 h2 h3 h4
  obtain ⟨c1, c2, c3, c4⟩ := ins_cases hx
  have hq := popF_rng x
  have hu := pushF_rng x
  have haft : ∀ q : Int, 0 ≤ q ∧ q ≤ 1000 → bdD f ⟨q, aftF x s⟩ := fun q hq' => ⟨hq', h2, by simp only [aftF]; omega, by simp only [aftF]; split <;> (try split) <;> omega⟩
  have hins : x.a ≤ 299 → bdD f ⟨x.a, insF x s⟩ := fun ha => ⟨⟨c2.1, by simp only; omega⟩, rfl, by simp only [insF]; omega, by simp only [insF]; split <;> omega⟩
  intro y hy
  unfold folI at hy
  repeat' split at hy
  · cases hy
  · simp only [List.mem_singleton] at hy; subst hy; exact haft _ (by omega)
  · simp only [List.mem_cons, List.not_mem_nil, or_false] at hy
    rcases hy with rfl | rfl
    · exact haft _ (by omega)
    · exact haft _ (by omega)
  · simp only [List.mem_cons, List.not_mem_nil, or_false] at hy
    rcases hy with rfl | rfl
    · exact haft _ (by omega)
    · exact hins (by omega)
  · simp only [List.mem_singleton] at hy; subst hy; exact haft _ (by omega)
theorem flC_zeros (n : Nat) : repD n [.bool false, .int 0, .int 0, .int 0] = flC shpC (zeros n) := by
  induction n with
  | zero => rfl
  | succ n ih =>
    unfold repD zeros at ih ⊢
    rw [List.replicate_succ, List.replicate_succ, List.flatten_cons, ih, flC]; rfl
theorem zeros_len (n : Nat) : (zeros n).length = n := by simp [zeros]
theorem shpC_len (t : Shp) : (shpC t).length = 4 := rfl
theorem derC_len (t : Der) : (derC t).length = 5 := rfl
theorem setRowG_at {α : Type} : ∀ (us l : List α) (i : Nat), i + us.length ≤ l.length → setRowG l i us = l.take i ++ us ++ l.drop (i + us.length)
  | [], l, i, _ => by simp [setRowG]
  | u :: us, l, i, h => by
    simp only [List.length_cons] at h
    rw [setRowG, setRowG_at us (l.set i u) (i + 1) (by simp; omega)]
    rw [List.take_add_one, List.getElem?_set_self (by omega), List.take_set_of_le (Nat.le_refl i), List.drop_set_of_lt (by omega)]
    simp only [Option.toList_some, List.append_assoc, List.cons_append, List.nil_append, List.length_cons, Nat.add_assoc, Nat.add_comm 1]
theorem flC_set {α : Type} [Inhabited α] {c : α → List D} {n : Nat} (hc : ∀ x, (c x).length = n) : ∀ (xs : List α) (k : Nat) (x : α), k < xs.length → setRowG (flC c xs) (k * n) (c x) = flC c (xs.set k x)
  | [], k, x, h => by simp at h
  | y :: xs, 0, x, h => by
    rw [setRowG_at _ _ _ (by rw [flC, List.length_append, hc, hc]; omega), Nat.zero_mul, List.take_zero, List.nil_append, Nat.zero_add, flC, hc, ← hc y, List.drop_left]; rfl
  | y :: xs, k + 1, x, h => by
    have hk : k < xs.length := by simpa using h
    have ih := flC_set hc xs k x hk
    have hl := flC_len hc xs
    have hle : (k + 1) * n ≤ xs.length * n := Nat.mul_le_mul_right _ hk
    rw [Nat.succ_mul] at hle
    rw [setRowG_at _ _ _ (by rw [flC_len hc, hc, ← Nat.succ_mul]; exact Nat.mul_le_mul_right _ h)]
    rw [setRowG_at _ _ _ (by rw [hl, hc]; omega)] at ih
    rw [List.set_cons_succ, flC, flC, ← ih]
    have e : (k + 1) * n = (c y).length + k * n := by rw [hc, Nat.succ_mul]; omega
    rw [e, List.take_length_add_append, Nat.add_assoc, List.drop_length_add_append]
    simp only [List.append_assoc]
theorem cutD_tail {α : Type} {c : α → List D} {n : Nat} (hc : ∀ x, (c x).length = n) (x : α) (xs : List α) : cutD (.rows n (x :: xs).length (flC c (x :: xs))) 1 (x :: xs).length = .rows n xs.length (flC c xs) := by
  have hl := flC_len hc xs
  simp only [cutD, flC, List.length_cons, Nat.add_sub_cancel, Nat.one_mul]
  rw [← hc x, List.drop_left, hc x, List.take_of_length_le (by rw [hl]; exact Nat.le_refl _)]
theorem ders_prim (xs : List Der) : ∀ d ∈ flC derC xs, d.prim = true := by
  induction xs with
  | nil => intro d hd; cases hd
  | cons x xs ih =>
    intro d hd
    rw [flC] at hd
    rcases List.mem_append.1 hd with hd | hd
    · simp only [derC, List.mem_cons, List.not_mem_nil, or_false] at hd
      rcases hd with rfl | rfl | rfl | rfl | rfl <;> rfl
    · exact ih d hd
theorem con_ShapesI (code : List Ins) (hl : code.length ≤ 1000000000) : Con Try.prog 36 [.one (inssD code)] [.one (shpsD ((shpR code).getD [])), .one (.bool (shpR code).isSome)] := by
  have hA := con_areInstrs code hl
  have hb := okA_of (code := code)
  obtain ⟨R, hR⟩ : ∃ R, R = shpR code := ⟨_, rfl⟩
  rw [← hR]
  unfold shpR at hR
  generalize codeB code = b at *
  simp only [inssD] at hA
  cases b
  case false =>
    rw [if_neg (by simp)] at hR
    subst hR
    refine con_run Try.func36 rfl rfl (by simp [Try.ntmps36]) ?_
    simp only [argT, argA, eq_self, xRun, vE, vP, isCutO, gN, isPick, isCall, AS.pt, AS.ev, look, cav, avB, Option.getD, Option.isSome, ↓reduceIte, Nat.reduceLT, true_and, Bool.false_eq_true, reduceCtorEq, inssD, Try.ntmps36]
    refine sw_call (hA) rfl (aAs_ok ?_) ?_ (sw_run 200 _ _ _ ?_)
    · simp only [aAs, aA, aD, AS.ev, look, Option.getD, List.map, List.append_nil, ↓reduceIte, eq_self, and_self]
    · simp only [okR]
    simp only [mkR, flatD, packA, retA, List.headD_cons, fQ, xRet, rPs, xRes, flatA, rD, eq_self, xRun, vE, vP, vNot, isCutO, isB, bv, gT, gW, gN, gV, isU, isPick, pkC, pkA, isCall, AS.pt, AS.kn, AS.ev, look, cav, eatsOf, Option.bind, Option.getD, Option.isSome, List.map, List.length, List.getElem?_cons_zero, List.getElem?_cons_succ, List.nodup_nil, ↓reduceIte, Nat.reduceLT, Nat.reduceEqDiff, or_false, Bool.not_false, Bool.false_eq_true, Bool.true_eq_false, reduceCtorEq, and_self, shpsD, flC, Try.results36]
  obtain ⟨hok, hlen, hall⟩ := hb rfl
  by_cases h0 : 0 < code.length
  case neg =>
    rw [if_neg (by simp [h0])] at hR
    subst hR
    have hz : code.length = 0 := by omega
    have hzi : ((code.length : Nat) : Int) = 0 := by omega
    refine con_run Try.func36 rfl rfl (by simp [Try.ntmps36]) ?_
    simp only [argT, argA, eq_self, xRun, vE, vP, isCutO, gN, isPick, isCall, AS.pt, AS.ev, look, cav, avB, Option.getD, Option.isSome, ↓reduceIte, Nat.reduceLT, true_and, Bool.false_eq_true, reduceCtorEq, inssD, Try.ntmps36]
    refine sw_call (hA) rfl (aAs_ok ?_) ?_ (sw_run 200 _ _ _ ?_)
    · simp only [aAs, aA, aD, AS.ev, look, Option.getD, List.map, List.append_nil, ↓reduceIte, eq_self, and_self]
    · simp only [okR]
    simp only [mkR, flatD, packA, retA, List.headD_cons, fQ, xRet, rPs, xRes, flatA, rD, eq_self, xRun, vE, vP, vBin, vBinT, isAg, isBo, vNot, vLen, isCutO, isB, bv, gT, gW, gN, gV, isU, isPick, pkC, pkB, isCall, AS.pt, AS.kn, AS.ev, AS.rd, look, cav, eatsOf, td4, Option.bind, Option.getD, Option.isSome, List.map, List.length, List.getElem?_cons_zero, List.getElem?_cons_succ, List.nodup_nil, ↓reduceIte, Nat.reduceLT, Nat.reduceEqDiff, or_false, Bool.not_true, Bool.false_eq_true, reduceCtorEq, decide_true, and_self, hzi, shpsD, flC, Try.results36]
  rw [if_pos ⟨rfl, h0⟩] at hR
  have hgo := (shRes_goI hok).1
  rw [← hR] at hgo
  have hzi : (((code.length : Nat) : Int) = 0) = False := eq_false (by omega)
  have hn1 : (code.length : Int) ≤ 1000000 := by omega
  refine con_run Try.func36 rfl rfl (by simp [Try.ntmps36]) ?_
  simp only [argT, argA, eq_self, xRun, vE, vP, isCutO, gN, isPick, isCall, AS.pt, AS.ev, look, cav, avB, Option.getD, Option.isSome, ↓reduceIte, Nat.reduceLT, true_and, Bool.false_eq_true, reduceCtorEq, inssD, Try.ntmps36]
  refine sw_call (hA) rfl (aAs_ok ?_) ?_ (sw_run 200 _ _ _ ?_)
  · simp only [aAs, aA, aD, AS.ev, look, Option.getD, List.map, List.append_nil, ↓reduceIte, eq_self, and_self]
  · simp only [okR]
  simp only [mkR, flatD, packA, retA, List.headD_cons, eq_self, xRun, vE, vP, vBin, vBinT, isAg, isBo, vNot, vLen, vBuild, vRow, primD, primDs, isCutO, vMake, xFill, isB, bv, gT, gW, gN, gV, isU, isPick, pkC, pkB, isCall, AS.pt, AS.kn, AS.ev, AS.mk', AS.rd, kill, look, cav, setRowG, AV.cells, AV.whole, AV.one, cD, cDs, eatsOf, dpOf, td1, td4, td5, td6, Option.bind, Option.getD, Option.isSome, List.map, List.length, List.getElem?_cons_zero, List.getElem?_cons_succ, List.set, List.foldr, List.all, List.replicate, List.nodup_nil, ↓reduceIte, Nat.reduceLT, Nat.reduceAdd, Nat.reduceLeDiff, Nat.reduceEqDiff, Nat.zero_add, Nat.zero_mul, Nat.one_mul, true_and, or_true, Bool.and_true, Bool.not_true, Bool.false_eq_true, reduceCtorEq, Int.toNat_natCast, Int.natCast_nonneg, decide_false, and_self, Nat.succ_ne_zero, Nat.le_refl, hzi, hn1, flC_zeros]
  refine sw_loop (fun i : Nat × List Shp × List Der => goI code i.1 i.2.1 i.2.2 = some R ∧ i.2.1.length = code.length ∧ i.1 ≤ 1000 ∧ (∀ d ∈ i.2.2, bdD i.1 d) ∧ (i.2.2.length : Int) ≤ 4 * (1000 - (i.1 : Int)) + 1)
    (fun i => ⟨88, [(0, .br (.rows 2 code.length (flC insC code))), (4, .sl 0), (5, .sl 1)], [], [(0, some ⟨.rows 4 i.2.1.length (flC shpC i.2.1), some 123, true⟩), (1, some ⟨.rows 5 i.2.2.length (flC derC i.2.2), some 128, true⟩)], 2, []⟩)
    (fun i => i.1) (3 * code.length + 2, zeros code.length, [⟨0, s0⟩]) id ⟨hgo, zeros_len _, by simp only; omega, ?_, by simp only [List.length_cons, List.length_nil]; omega⟩ ?_ ?_
  · intro d hd
    simp only [List.mem_singleton] at hd
    subst hd
    exact ⟨⟨by decide, by decide⟩, rfl, by simp only [s0]; omega, by simp only [s0]; omega⟩
  · simp only [Sub, subT, subB, subO, subP, inj, AV.ren, AV.lt, eq_self, AS.owf, look, Option.bind, List.map, List.length, List.mem_cons, List.not_mem_nil, List.nodup_cons, List.nodup_nil, List.append_nil, ↓reduceIte, Nat.reduceLT, Nat.reduceEqDiff, Nat.zero_add, not_false_eq_true, or_false, id_eq, reduceCtorEq, and_self, zeros_len, flC, derC, s0]
  · rintro ⟨f, out, list⟩ ⟨hgo, hol, hf, hbd, hll⟩
    simp only at hgo hol hf hbd hll ⊢
    obtain ⟨f, rfl⟩ : ∃ g, f = g + 1 := by
      cases f with
      | zero => cases hgo
      | succ g => exact ⟨g, rfl⟩
    refine sw_run 200 _ _ _ ?_
    cases list with
    | nil =>
      rw [goI] at hgo
      simp only [Option.some.injEq] at hgo
      subst hgo
      simp only [qLp, eq_self, xRun, vE, vP, vBin, vBinT, isAg, isBo, vLen, isCutO, isB, bv, gN, isPick, isCall, popTo, AS.pt, AS.ev, AS.owf, AS.rd, look, cav, td4, Option.bind, Option.getD, Option.map, Option.isSome, List.length, ↓reduceIte, Nat.reduceLT, Nat.reduceEqDiff, true_and, Bool.false_eq_true, id_eq, Int.reduceLT, Int.natCast_zero, decide_false, Nat.succ_ne_zero]
      refine sw_run 200 _ _ _ ?_
      simp only [fQ, xRet, rPs, xRes, flatA, rD, eq_self, xRun, vE, vP, isCutO, gN, isPick, isCall, AS.pt, AS.ev, AS.owf, look, cav, eatsOf, Option.bind, Option.getD, List.map, List.not_mem_nil, List.nodup_cons, List.nodup_nil, ↓reduceIte, Nat.reduceLT, Nat.reduceEqDiff, not_false_eq_true, or_false, Bool.false_eq_true, id_eq, reduceCtorEq, and_self, Nat.succ_ne_zero, shpsD, Try.results36]
    | cons d r =>
      obtain ⟨hdp, hdk, hdh, hdd⟩ := hbd d (by simp)
      have hpos : (0 : Int) < ((d :: r).length : Int) := by simp only [List.length_cons]; omega
      have hR0 : rowAt 5 (flC derC (d :: r)) 0 = [.int d.p, .bool true, .int d.s.h, .int d.s.d, .int d.s.b] := by
        have := flC_row derC_len (d :: r) 0 (by simp)
        simpa [derC, hdk] using this
      have hcut := cutD_tail derC_len d r
      have hT : dersD (d :: r) = .rows 5 (d :: r).length (flC derC (d :: r)) := rfl
      have hle1 : (1 : Int) ≤ ((d :: r).length : Int) := by omega
      have hll' : (r.length : Int) + 1 ≤ 4 * (1000 - ((f + 1 : Nat) : Int)) + 1 := by simpa using hll
      generalize hls : d :: r = list at *
      simp only [rowD, eq_self, xRun, vE, vP, vSub, vLoad, vIdx, vBin, vBinT, isAg, isBo, vLen, vStore, isCutO, isB, bv, gN, isPick, isCall, AS.pt, AS.ev, AS.box, AS.setb, AS.owf, AS.rd, look, cav, avO, setRowG, AV.cells, AV.whole, AV.one, td0, td1, td4, td5, td6, Option.bind, Option.getD, Option.map, Option.isSome, List.map, List.take, List.drop, List.length, List.set, List.all, ↓reduceIte, Nat.reduceLT, Nat.reduceAdd, Nat.reduceEqDiff, Nat.zero_add, true_and, Bool.and_true, Bool.false_eq_true, id_eq, Int.toNat_zero, Int.le_refl, decide_true, and_self, Nat.succ_ne_zero, Nat.le_refl, hpos, hR0]
      refine sw_cutR 1 rfl rfl ?_ ?_ (sw_run 200 _ _ _ ?_)
      · simp only [eq_self, td1, Option.map]
      · simp only [vCut, ixL, ixH, AS.ev, cav, Option.map, Int.toNat_natCast, Int.reduceLE, Int.toNat_one, Int.le_refl, and_self, vCut, hle1]
      rw [goI_cons hls.symm] at hgo
      have hdp0 := hdp.1
      by_cases h1 : (code.length : Int) ≤ d.p
      · rw [if_pos h1] at hgo
        simp only [Option.some.injEq] at hgo
        subst hgo
        simp only [fQ, qLp, xRet, eq_self, xRun, vE, vP, vSub, vLoad, vFld, vBin, vBinT, isAg, isBo, vLen, vCut, isCutO, ixL, ixH, isB, bv, gN, isPick, isCall, AS.pt, AS.ev, AS.mk', AS.rd, kill, look, cav, td0, td2, td4, Option.getD, Option.map, Option.isSome, List.getElem?_cons_zero, List.foldr, ↓reduceIte, Nat.reduceLT, Nat.reduceAdd, Nat.reduceEqDiff, Nat.add_zero, ne_eq, not_false_eq_true, true_and, and_true, or_false, Bool.false_eq_true, reduceCtorEq, Int.toNat_natCast, Int.reduceLE, Int.toNat_one, Int.le_refl, decide_true, Nat.succ_ne_zero, vCut, Int.toNat_one, hcut, h1]
        simp only [rPs, xRes, flatA, rD, eq_self, look, eatsOf, List.map, List.length, List.nodup_nil, ↓reduceIte, Nat.reduceEqDiff, and_self, shpsD, flC, Try.results36]
      rw [if_neg h1] at hgo
      have hpk : d.p.toNat < code.length := by omega
      have hpo : d.p < (out.length : Int) := by omega
      have hpc : d.p < (code.length : Int) := by omega
      have hRo := flC_row shpC_len out d.p.toNat (by omega)
      simp only [shpC] at hRo
      have hRc := flC_row insC_len code d.p.toNat hpk
      simp only [insC] at hRc
      have hx := hall _ hpk
      simp only [eq_self, xRun, vE, vP, vSub, vLoad, vFld, vBin, vBinT, isAg, isBo, vLen, vCut, isCutO, ixL, ixH, isB, bv, gN, isPick, isCall, AS.pt, AS.ev, AS.mk', AS.rd, kill, look, cav, td0, td2, td4, Option.getD, Option.map, Option.isSome, List.getElem?_cons_zero, List.foldr, ↓reduceIte, Nat.reduceLT, Nat.reduceAdd, Nat.reduceEqDiff, Nat.add_zero, ne_eq, not_false_eq_true, true_and, and_true, Bool.false_eq_true, reduceCtorEq, Int.toNat_natCast, Int.reduceLE, Int.toNat_one, Int.le_refl, decide_false, Nat.succ_ne_zero, vCut, Int.toNat_one, hcut, h1]
      refine sw_drawn (.cons 0 true (.cons 1 true (.cons 2 true (.cons 3 true (.cons 4 true (.cons 5 true (.cons 6 true (.cons 7 true (.cons 8 true (.cons 9 true (.cons 10 true (.cons 11 true (.cons 12 true (.cons 13 true (.cons 14 true (.cons 15 true (.cons 16 true (.nil)))))))))))))))))) (by kernel_rfl) qLp_panic (by kernel_rfl) (sw_run 200 _ _ _ ?_)
      generalize ho : out[d.p.toNat]! = o1 at *
      obtain ⟨ok, oh, od, ob⟩ := o1
      cases ok
      case true =>
        simp only [if_true] at hgo
        by_cases heq : (⟨true, oh, od, ob⟩ : Shp) = d.s
        · rw [if_pos heq] at hgo
          have e1 : (oh = d.s.h) = True := eq_true (by rw [← heq])
          have e2 : (od = d.s.d) = True := eq_true (by rw [← heq])
          have e3 : (ob = d.s.b) = True := eq_true (by rw [← heq])
          simp only [qLp, rowD, eq_self, xRun, vE, vP, vSub, vLoad, vFld, vIdx, vBinT, vEqA, shp, isAg, cellsA, eqAV, eqAVs, shpOk, isCutO, isB, bv, gT, gW, gN, gV, isU, isPick, pkC, pkA, isCall, popTo, AS.pt, AS.kn, AS.ev, AS.owf, look, avO, td0, td1, td2, Option.bind, Option.getD, Option.isSome, List.map, List.take, List.drop, List.length, List.getElem?_cons_zero, List.getElem?_cons_succ, ↓reduceIte, Nat.reduceLT, Nat.reduceAdd, Nat.reduceEqDiff, Nat.zero_add, Nat.add_zero, ne_eq, not_false_eq_true, true_and, Bool.and_true, Bool.not_true, Bool.false_eq_true, id_eq, reduceCtorEq, decide_true, and_self, Nat.succ_ne_zero, Nat.le_refl, hdp0, hpo, hRo, e1, e2, e3]
          refine ⟨⟨by kernel_rfl, rfl⟩, (f, out, r), rnL [(1, 3)], ⟨hgo, hol, by simp only; omega, fun z hz => (hbd z (by rw [← hls]; simp [hz])).mono, by simp only; omega⟩, by simp only; omega, ?_⟩
          simp only [Sub, subT, subB, subO, subP, inj, AV.ren, AV.lt, eq_self, AS.owf, look, Option.bind, Option.getD, List.map, List.mem_cons, List.not_mem_nil, List.nodup_cons, List.nodup_nil, ↓reduceIte, Nat.reduceLT, Nat.reduceEqDiff, not_false_eq_true, or_false, id_eq, reduceCtorEq, and_self, Nat.succ_ne_zero, rnL]
        · rw [if_neg heq] at hgo
          simp only [Option.some.injEq] at hgo
          subst hgo
          have e4 : (decide (oh = d.s.h) && (decide (od = d.s.d) && decide (ob = d.s.b))) = false := by
            rw [Bool.eq_false_iff]
            intro e
            simp only [Bool.and_eq_true, decide_eq_true_eq] at e
            apply heq
            obtain ⟨dp, dk, dh, dd, db⟩ := d
            simp only at e hdk
            rw [e.1, e.2.1, e.2.2, hdk]
          simp only [fQ, qLp, rowD, xRet, rPs, xRes, flatA, rD, eq_self, xRun, vE, vP, vSub, vLoad, vFld, vIdx, vBinT, vEqA, shp, isAg, cellsA, eqAV, eqAVs, shpOk, isCutO, isB, bv, gT, gW, gN, gV, isU, isPick, pkC, pkA, isCall, AS.pt, AS.kn, AS.ev, AS.owf, look, cav, avO, eatsOf, td0, td1, td2, Option.bind, Option.getD, Option.isSome, List.map, List.take, List.drop, List.length, List.getElem?_cons_zero, List.getElem?_cons_succ, List.nodup_nil, ↓reduceIte, Nat.reduceLT, Nat.reduceAdd, Nat.reduceEqDiff, Nat.zero_add, Nat.add_zero, ne_eq, not_false_eq_true, true_and, and_true, or_false, Bool.and_true, Bool.and_false, Bool.not_false, Bool.false_eq_true, id_eq, reduceCtorEq, decide_true, and_self, Nat.succ_ne_zero, Nat.le_refl, hdp0, hpo, hRo, e4, shpsD, flC, Try.results36]
          exact ⟨by kernel_rfl, rfl⟩
      case false =>
        simp only [Bool.false_eq_true, if_false] at hgo
        have hM := con_mayStand _ d.s hx
        have hF := con_following d.p _ d.s hx (by omega) (by omega) (by omega)
        simp only [insC, shpC, hdk] at hM hF
        simp only [rowD, eq_self, xRun, vE, vP, vSub, vLoad, vFld, vIdx, isCutO, isB, bv, gT, gW, gN, gV, isU, isPick, pkC, pkB, isCall, AS.pt, AS.kn, AS.ev, AS.owf, look, cav, avO, td0, td1, td2, Option.bind, Option.getD, Option.isSome, List.map, List.getElem?_cons_zero, List.getElem?_cons_succ, ↓reduceIte, Nat.reduceLT, Nat.reduceEqDiff, Nat.add_zero, ne_eq, not_false_eq_true, true_and, Bool.not_true, Bool.false_eq_true, id_eq, reduceCtorEq, and_self, Nat.succ_ne_zero, hdp0, hpo, hRo]
        refine sw_drawn (.cons 0 true (.cons 1 true (.cons 2 true (.cons 3 true (.cons 4 true (.cons 5 true (.cons 6 true (.cons 7 false (.cons 8 true (.cons 9 true (.nil))))))))))) (by kernel_rfl) qLp_panic (by kernel_rfl) (sw_run 200 _ _ _ ?_)
        simp only [rowD, eq_self, xRun, vP, vSub, vLoad, vFld, vIdx, gN, isPick, isCall, AS.pt, AS.ev, look, avB, td0, td1, td2, Option.getD, Option.isSome, List.map, List.take, List.drop, List.length, List.getElem?_cons_zero, List.getElem?_cons_succ, ↓reduceIte, Nat.reduceLT, Nat.reduceAdd, Nat.reduceEqDiff, Nat.zero_add, Nat.add_zero, ne_eq, not_false_eq_true, true_and, Bool.false_eq_true, reduceCtorEq, and_self, Nat.succ_ne_zero, Nat.le_refl, hdp0, hpc, hRc]
        refine sw_callD (hM) rfl (aAs_ok ?_) ?_ (sw_run 200 _ _ _ ?_)
        · simp only [aAs, aA, aDs, aD, AS.ev, look, Option.getD, List.map, List.append_nil, ↓reduceIte, Nat.reduceEqDiff, eq_self, and_self]
        · simp only [okR]
        by_cases hm : mayF code[d.p.toNat]! d.s = true
        case neg =>
          rw [if_neg hm] at hgo
          simp only [Option.some.injEq] at hgo
          subst hgo
          have hm' : mayF code[d.p.toNat]! d.s = false := by simpa using hm
          rw [hm']
          simp only [mkR, flatD, packA, retA, List.headD_cons, fQ, qLp, xRet, rPs, xRes, flatA, rD, eq_self, xRun, vE, vP, vNot, isCutO, isB, bv, gN, isPick, isCall, AS.pt, AS.ev, look, cav, eatsOf, Option.getD, Option.isSome, List.map, List.length, List.getElem?_cons_zero, List.getElem?_cons_succ, List.nodup_nil, ↓reduceIte, Nat.reduceLT, Nat.reduceEqDiff, or_false, Bool.not_false, Bool.false_eq_true, reduceCtorEq, and_self, shpsD, flC, Try.results36]
        rw [if_pos hm] at hgo
        rw [hm]
        have hset := flC_set shpC_len out d.p.toNat d.s (by omega)
        simp only [shpC, hdk, setRowG] at hset
        simp only [mkR, flatD, packA, retA, List.headD_cons, eq_self, xRun, vE, vP, vSub, vLoad, vFld, vIdx, vNot, vStore, vStE, primD, primDs, AS.setO, AV.unsp, AV.unsps, unspT, unspB, isCutO, isB, bv, gN, isPick, isCall, AS.pt, AS.ev, AS.owf, look, setRowG, AV.cells, td0, td1, td2, td5, Option.bind, Option.getD, Option.isSome, List.take, List.drop, List.length, List.getElem?_cons_zero, List.getElem?_cons_succ, ↓reduceIte, Nat.reduceLT, Nat.reduceAdd, Nat.reduceEqDiff, Nat.zero_add, Nat.add_zero, ne_eq, not_false_eq_true, true_and, Bool.not_true, Bool.false_eq_true, id_eq, reduceCtorEq, and_self, Nat.succ_ne_zero, Nat.le_refl, hdp0, hpo, hset, Nat.add_zero]
        refine sw_drawn (.cons 0 true (.cons 1 true (.cons 2 true (.cons 3 true (.cons 4 true (.cons 5 true (.cons 6 true (.cons 7 true (.cons 8 true (.cons 9 true (.cons 10 false (.cons 11 false (.cons 12 true (.nil)))))))))))))) (by kernel_rfl) qLp_panic (by kernel_rfl) (sw_run 200 _ _ _ ?_)
        simp only [rowD, eq_self, xRun, vP, vSub, vLoad, vFld, vIdx, gN, isPick, isCall, AS.pt, AS.ev, look, avB, td0, td1, td2, Option.getD, Option.isSome, List.map, List.take, List.drop, List.length, List.getElem?_cons_zero, List.getElem?_cons_succ, ↓reduceIte, Nat.reduceLT, Nat.reduceAdd, Nat.reduceEqDiff, Nat.zero_add, Nat.add_zero, ne_eq, not_false_eq_true, true_and, Bool.false_eq_true, reduceCtorEq, and_self, Nat.succ_ne_zero, Nat.le_refl, hdp0, hpc, hRc]
        simp only [dersD] at hF
        refine sw_callD (hF) rfl (aAs_ok ?_) ?_ (sw_run 200 _ _ _ ?_)
        · simp only [aAs, aA, aDs, aD, AS.ev, look, Option.getD, List.map, List.append_nil, ↓reduceIte, Nat.reduceEqDiff, eq_self, and_self]
        · simp only [okR]
        have hfl := folI_len d.p code[d.p.toNat]! d.s
        simp only [mkR, flatD, packA, retA, List.headD_cons, qLp, eq_self, xRun, vE, vP, vApp, apP, apC, isCl, appL, appR, gN, isPick, isCall, AS.pt, AS.ev, AS.mk', AS.owf, kill, look, td4, td5, Option.bind, Option.getD, Option.isSome, List.getElem?_cons_zero, List.getElem?_cons_succ, List.foldr, List.mem_cons, List.not_mem_nil, List.append_nil, ↓reduceIte, Nat.reduceLT, Nat.reduceAdd, Nat.reduceEqDiff, not_false_eq_true, true_and, or_false, Bool.and_true, Bool.false_eq_true, id_eq, and_self, Nat.succ_ne_zero, qLp]
        refine ⟨⟨fun _ => ders_prim _, fun _ _ => trivial, by unfold maxLen; omega, by omega⟩, (f, out.set d.p.toNat d.s, r ++ folI d.p code[d.p.toNat]! d.s), rnL [(1, 5)], ⟨hgo, by simp only [List.length_set]; exact hol, by simp only; omega, fun z hz => ?_, by simp only [List.length_append]; omega⟩, by simp only; omega, ?_⟩
        · rcases List.mem_append.1 hz with hz | hz
          · exact (hbd z (by rw [← hls]; simp [hz])).mono
          · exact fol_bd (by omega) hx ⟨hdp, hdk, hdh, hdd⟩ (by omega) z hz
        · simp only [Sub, subT, subB, subO, subP, inj, AV.ren, AV.lt, eq_self, AS.owf, look, Option.bind, Option.getD, List.map, List.mem_cons, List.not_mem_nil, List.nodup_cons, List.nodup_nil, ↓reduceIte, Nat.reduceLT, Nat.reduceEqDiff, not_false_eq_true, or_false, id_eq, reduceCtorEq, and_self, Nat.succ_ne_zero, rnL, List.length_set, List.length_append, flC_app]
end Go.Proofs.Ytemlobcbepgbaaa
