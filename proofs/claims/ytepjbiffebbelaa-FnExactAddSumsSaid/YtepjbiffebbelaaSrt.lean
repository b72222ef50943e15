/-
  The stable sort of few items, in place.
-/
import Derived.Test.YtepjbiffebbelaaLen
import Derived.Test.YtepjbiffebbelaaSumB
import Derived.Test.YtepjbiffebbelaaJoc
import Derived.Test.YtepjbiffebbelaaAdp
import Derived.Test.YtepjbiffebbelaaTd
import Derived.Test.YtepjbiffebbelaaLp
namespace Go.Proofs.Ytepjbiffebbelaa
open Go.RowKit
set_option linter.unusedVariables false
set_option linter.unusedSimpArgs false
set_option maxRecDepth 20000
/-- The row while an item wanders. -/
def wan (xs : List Im) (i j : Nat) : List Im := (srt xs i).take j ++ xs[i]! :: ((srt xs i).drop j ++ xs.drop (i + 1))
theorem wan_start (xs : List Im) (i : Nat) (h : i < xs.length) : wan xs i i = srt xs i ++ xs.drop i := by
  have hl := srt_len xs i
  rw [wan, List.take_of_length_le (by omega), List.drop_of_length_le (by omega), List.nil_append, List.drop_eq_getElem_cons h, getElem!_pos xs i h]
theorem wan_end (xs : List Im) (i : Nat) : wan xs i (stp xs[i]! (srt xs i) i) = srt xs (i + 1) ++ xs.drop (i + 1) := by
  have hl := srt_len xs i
  rw [wan, srt, insP, hl]; simp
theorem wan_len (xs : List Im) (i j : Nat) (h : i < xs.length) (hj : j ≤ i) : (wan xs i j).length = xs.length := by
  have hl := srt_len xs i
  rw [wan, List.length_append, List.length_cons, List.length_append, List.length_take, List.length_drop, List.length_drop]; omega
theorem wan_at (xs : List Im) (i j : Nat) (h : i < xs.length) (hj : j ≤ i) : (wan xs i j)[j]! = xs[i]! := by
  have hl := srt_len xs i
  rw [getElem!_pos _ j (by rw [wan_len xs i j h hj]; omega)]
  simp only [wan]
  rw [List.getElem_append_right (by rw [List.length_take]; omega)]
  simp [List.length_take, hl, Nat.min_eq_left hj]
theorem wan_pre (xs : List Im) (i j : Nat) (h : i < xs.length) (hj : j < i) : (wan xs i (j + 1))[j]! = (srt xs i)[j]! := by
  have hl := srt_len xs i
  rw [getElem!_pos _ j (by rw [wan_len xs i _ h (by omega)]; omega), getElem!_pos (srt xs i) j (by omega)]
  simp only [wan]
  rw [List.getElem_append_left (by rw [List.length_take]; omega)]
  simp
theorem swap_app {α : Type} (a b : α) (r : List α) : ∀ l : List α, ((l ++ a :: b :: r).set (l.length + 1) a).set l.length b = l ++ b :: a :: r
  | [] => rfl
  | x :: l => by
    simp only [List.cons_append, List.length_cons, List.set_cons_succ]
    rw [swap_app a b r l]
theorem wan_swap (xs : List Im) (i j : Nat) (h : j + 1 ≤ i) : ((wan xs i (j + 1)).set (j + 1) (srt xs i)[j]!).set j xs[i]! = wan xs i j := by
  have hl := srt_len xs i
  have e1 : wan xs i (j + 1) = (srt xs i).take j ++ (srt xs i)[j]! :: xs[i]! :: ((srt xs i).drop (j + 1) ++ xs.drop (i + 1)) := by
    rw [wan, take_snoc (srt xs i) j (by omega), List.append_assoc]; rfl
  have e2 : wan xs i j = (srt xs i).take j ++ xs[i]! :: (srt xs i)[j]! :: ((srt xs i).drop (j + 1) ++ xs.drop (i + 1)) := by
    rw [wan, List.drop_eq_getElem_cons (show j < (srt xs i).length by omega), getElem!_pos (srt xs i) j (by omega)]; rfl
  have hj : ((srt xs i).take j).length = j := by rw [List.length_take]; omega
  rw [e1, e2]
  have := swap_app (srt xs i)[j]! xs[i]! ((srt xs i).drop (j + 1) ++ xs.drop (i + 1)) ((srt xs i).take j)
  rwa [hj] at this
theorem flC_set (x : Im) : ∀ (ys : List Im) (k : Nat), k < ys.length → ((flC imC ys).set (k * 2) (.str x.name)).set (k * 2 + 1) (.int x.coef) = flC imC (ys.set k x)
  | [], k, h => by simp at h
  | y :: ys, 0, _ => rfl
  | y :: ys, k + 1, h => by
    have ih := flC_set x ys k (by simpa using h)
    rw [List.set_cons_succ, flC, flC, ← ih, show (k + 1) * 2 = k * 2 + 1 + 1 by omega]
    rfl
theorem flat_ims : ∀ xs : List Im, flatD' (flC imC xs)
  | [] => trivial
  | x :: xs => ⟨rfl, rfl, flat_ims xs⟩
theorem con_Compare (a b : ByteArray) : Con Try.prog 50 [.one (.str a), .one (.str b)] [.one (.int (Lib.compareBytes a.data.toList b.data.toList))] := by
  refine con_U1 ⟨_, rfl, by kernel_rfl, by kernel_rfl⟩ ?_
  intro w us hu
  obtain ⟨v, r, rfl, h1, h2⟩ := rpd_c hu
  obtain ⟨v2, r2, rfl, h3, h4⟩ := rpd_c h2
  obtain rfl := rpd_n h4
  obtain rfl : v = .string a := by unfold RepPD RepV at h1; exact h1
  obtain rfl : v2 = .string b := by unfold RepPD RepV at h3; exact h3
  refine (Try.Ytepjbiffebbelaastrings_Compare a b w).mono ?_
  rintro e w' ⟨rfl, rfl⟩
  exact ⟨_, rfl, fr_int _ _ _, Below.refl _ _⟩
theorem con_cmpN (x y : Im) : Con Try.prog 49 [.ag (imC x), .ag (imC y)] [.one (.int (cmpN x y))] := by
  have h := con_Compare x.name y.name
  unfold cmpN nmL
  refine con_run Try.func49 rfl rfl (by simp [Try.ntmps49]) ?_
  simp only [argT, argA, eq_self, xRun, vE, vP, vSub, vLoad, vFld, isCutO, gN, isPick, isCall, AS.pt, AS.ev, AS.box, look, cav, avB, AV.cells, AV.whole, AV.one, td0, td1, td2, td3, td4, td5, td6, Option.getD, Option.isSome, List.map, List.getElem?_cons_zero, List.all, ↓reduceIte, Nat.reduceLT, Nat.reduceAdd, Nat.reduceEqDiff, Nat.zero_add, Nat.add_zero, ne_eq, not_false_eq_true, true_and, Bool.and_true, Bool.false_eq_true, reduceCtorEq, Nat.succ_ne_zero, imC, Try.ntmps49]
  refine sw_call (h) rfl (aAs_ok ?_) ?_ (sw_run 200 _ _ _ ?_)
  · simp only [aAs, aA, aD, AS.ev, look, Option.getD, List.map, List.append_nil, ↓reduceIte, Nat.reduceEqDiff, eq_self, and_self]
  · simp only [okR]
  simp only [mkR, flatD, packA, retA, List.headD_cons, fQ, xRet, rPs, xRes, flatA, rD, eq_self, xRun, vE, vP, isCutO, gN, isPick, isCall, AS.pt, AS.ev, look, eatsOf, td0, td1, td2, td3, td4, td5, td6, Option.getD, List.map, List.nodup_nil, ↓reduceIte, Nat.reduceLT, or_false, Bool.false_eq_true, reduceCtorEq, and_self, Try.results49]
theorem con_insSort (xs : List Im) (hl : xs.length ≤ 1000000) : ConW Try.prog 171 80 (.rows 2 xs.length (flC imC xs)) (.rows 2 xs.length (flC imC (srt xs xs.length))) [.one (.int 0), .one (.int xs.length), .fn 49 []] := by
  refine con_runW Try.func171 rfl rfl (by simp [Try.ntmps171]) rfl ⟨_, _, _, rfl, flat_ims _⟩ ?_
  simp only [s0P, mkPs, mkPA, mkC, argA, argAs, numT, List.headD_cons, eq_self, xRun, vE, vP, vBin, vBinT, isAg, isBo, isCutO, gN, isPick, isCall, AS.pt, AS.ev, AS.mk', kill, look, cav, avB, td0, td1, td2, td3, td4, td5, td6, Option.getD, List.map, List.foldr, ↓reduceIte, Nat.reduceLT, Nat.reduceAdd, Nat.zero_add, true_and, Bool.false_eq_true, Int.reduceAdd, Nat.succ_ne_zero, s0W, argA, Try.ntmps171]
  refine ⟨by unfold inI; omega, ?_⟩
  by_cases h0 : xs.length = 0
  · obtain rfl : xs = [] := List.eq_nil_of_length_eq_zero h0
    refine sw_loop (fun _ : Unit => True) (fun _ => ⟨53, [(8, .i 1), (0, .sl 0), (1, .i 0), (2, .i 0), (3, .fn 49 [])], [], [(0, some ⟨.rows 2 0 [], some 80, true⟩)], 1, [0]⟩) (fun _ => 0) () id trivial ?_ ?_
    · simp only [Sub, subT, subB, subO, subP, inj, AV.ren, AV.rens, AV.lt, AV.lts, eq_self, AS.owf, look, td0, td1, td2, td3, td4, td5, td6, Option.bind, List.map, List.length, List.not_mem_nil, List.nodup_cons, List.nodup_nil, ↓reduceIte, Nat.reduceLT, Nat.reduceEqDiff, not_false_eq_true, id_eq, reduceCtorEq, Int.natCast_zero, and_self, Nat.succ_ne_zero, flC, Int.natCast_zero]
    · rintro _ _
      refine sw_run 200 _ _ _ ?_
      simp only [qLp, eq_self, xRun, vE, vP, vBin, vBinT, isAg, isBo, isCutO, isB, bv, gN, isPick, isCall, popTo, AS.pt, AS.ev, look, td0, td1, td2, td3, td4, td5, td6, Option.getD, Option.isSome, List.length, ↓reduceIte, Nat.reduceLT, Nat.reduceEqDiff, true_and, Bool.false_eq_true, Int.reduceLT, decide_false, Nat.succ_ne_zero]
      refine sw_run 200 _ _ _ ?_
      simp only [eq_self, xRun, AS.owf, look, td0, td1, td2, td3, td4, td5, td6, Option.bind, ↓reduceIte, or_true, id_eq, reduceCtorEq, and_self, fQW, xRetW, srt, flC]
  refine sw_loop (fun i : Nat => 1 ≤ i ∧ i ≤ xs.length) (fun i => ⟨53, [(8, .i i), (0, .sl 0), (1, .i 0), (2, .i xs.length), (3, .fn 49 [])], [], [(0, some ⟨.rows 2 xs.length (flC imC (srt xs i ++ xs.drop i)), some 80, true⟩)], 1, [0]⟩) (fun i => xs.length - i) 1 id ⟨Nat.le_refl _, by omega⟩ ?_ ?_
  · have e1 : srt xs 1 ++ xs.drop 1 = xs := by
      cases xs with
      | nil => simp at h0
      | cons a r => rfl
    simp only [Sub, subT, subB, subO, subP, inj, AV.ren, AV.rens, AV.lt, AV.lts, eq_self, AS.owf, look, td0, td1, td2, td3, td4, td5, td6, Option.bind, List.map, List.not_mem_nil, List.nodup_cons, List.nodup_nil, ↓reduceIte, Nat.reduceLT, Nat.reduceEqDiff, not_false_eq_true, id_eq, reduceCtorEq, and_self, Nat.succ_ne_zero, e1, Int.natCast_one]
  rintro i ⟨hi1, hi2⟩
  refine sw_run 200 _ _ _ ?_
  by_cases hlt : i < xs.length
  case neg =>
    have hi : ¬ (i : Int) < (xs.length : Int) := by omega
    obtain rfl : i = xs.length := by omega
    have hd : srt xs xs.length ++ xs.drop xs.length = srt xs xs.length := by rw [List.drop_length, List.append_nil]
    simp only [qLp, eq_self, xRun, vE, vP, vBin, vBinT, isAg, isBo, isCutO, isB, bv, gN, isPick, isCall, popTo, AS.pt, AS.ev, look, td0, td1, td2, td3, td4, td5, td6, Option.getD, Option.isSome, ↓reduceIte, Nat.reduceLT, Nat.reduceEqDiff, true_and, Bool.false_eq_true, decide_false, Nat.succ_ne_zero, hi, hd]
    refine sw_run 200 _ _ _ ?_
    simp only [eq_self, xRun, AS.owf, look, td0, td1, td2, td3, td4, td5, td6, Option.bind, ↓reduceIte, or_true, id_eq, reduceCtorEq, and_self, fQW, xRetW]
  have hi : (i : Int) < (xs.length : Int) := by omega
  simp only [eq_self, xRun, vE, vP, vBin, vBinT, isAg, isBo, isCutO, isB, bv, gN, isPick, isCall, AS.pt, AS.ev, look, td0, td1, td2, td3, td4, td5, td6, Option.getD, ↓reduceIte, Nat.reduceLT, Nat.reduceEqDiff, true_and, Bool.false_eq_true, decide_true, Nat.succ_ne_zero, hi]
  refine sw_loop (fun j : Nat => j ≤ i ∧ stp xs[i]! (srt xs i) j = stp xs[i]! (srt xs i) i) (fun j => ⟨53, [(9, .i j), (8, .i i), (0, .sl 0), (1, .i 0), (2, .i xs.length), (3, .fn 49 [])], [], [(0, some ⟨.rows 2 xs.length (flC imC (wan xs i j)), some 80, true⟩)], 1, [0]⟩) (fun j => j) i id ⟨Nat.le_refl _, rfl⟩ ?_ ?_
  · simp only [Sub, subT, subB, subO, subP, inj, AV.ren, AV.rens, AV.lt, AV.lts, eq_self, AS.owf, look, td0, td1, td2, td3, td4, td5, td6, Option.bind, List.map, List.not_mem_nil, List.nodup_cons, List.nodup_nil, ↓reduceIte, Nat.reduceLT, Nat.reduceEqDiff, not_false_eq_true, id_eq, reduceCtorEq, and_self, Nat.succ_ne_zero, wan_start xs i hlt]
  rintro j ⟨hj, hst⟩
  refine sw_run 200 _ _ _ ?_
  cases j with
  | zero =>
    have hz : ¬ (0 : Int) < (((0 : Nat) : Nat) : Int) := by omega
    have he : wan xs i 0 = srt xs (i + 1) ++ xs.drop (i + 1) := by rw [← wan_end, ← hst]; rfl
    simp only [eq_self, xRun, td0, td1, td2, td3, td4, td5, td6, ↓reduceIte, Int.natCast_zero]
    refine sw_drawn (.cons 0 true (.cons 1 true (.cons 2 true (.cons 3 true (.cons 4 true (.cons 5 true (.cons 6 true (.cons 7 true (.cons 8 true (.cons 9 true (.cons 10 true (.cons 11 true (.cons 12 true (.cons 13 true (.cons 14 false (.cons 15 true (.cons 16 true (.nil)))))))))))))))))) (by kernel_rfl) qLp_panic (by kernel_rfl) (sw_run 200 _ _ _ ?_)
    simp only [qLp, eq_self, xRun, vP, vBin, vBinT, isAg, isBo, isB, bv, gT, gW, gN, gV, isU, isPick, pkC, pkB, popTo, AS.pt, AS.kn, AS.ev, look, cav, td0, td1, td2, td3, td4, td5, td6, Option.bind, Option.getD, Option.isSome, List.getElem?_cons_zero, List.getElem?_cons_succ, ↓reduceIte, Nat.reduceLT, Nat.reduceEqDiff, true_and, Bool.not_true, Bool.false_eq_true, Int.reduceLT, decide_false, and_self, Nat.succ_ne_zero, he]
    refine sw_run 200 _ _ _ ?_
    simp only [qLp, eq_self, xRun, vE, vP, vBin, vBinT, isAg, isBo, isCutO, gN, isPick, isCall, AS.pt, AS.ev, look, cav, td0, td1, td2, td3, td4, td5, td6, Option.getD, ↓reduceIte, Nat.reduceLT, Nat.reduceEqDiff, true_and, Bool.false_eq_true, qLp]
    refine ⟨by unfold inI; omega, i + 1, id, ⟨by omega, by omega⟩, by omega, ?_⟩
    simp only [Sub, subT, subB, subO, subP, inj, AV.ren, AV.rens, AV.lt, AV.lts, eq_self, AS.owf, look, td0, td1, td2, td3, td4, td5, td6, Option.bind, List.map, List.not_mem_nil, List.nodup_cons, List.nodup_nil, ↓reduceIte, Nat.reduceLT, Nat.reduceEqDiff, not_false_eq_true, id_eq, reduceCtorEq, and_self, Nat.succ_ne_zero, cast1]
  | succ j =>
    have hp : (0 : Int) < ((j + 1 : Nat) : Int) := by omega
    have hs : ((j + 1 : Nat) : Int) - 1 = (j : Int) := by omega
    have hw := wan_len xs i (j + 1) hlt hj
    have hR1 := flC_row imC_len (wan xs i (j + 1)) (j + 1) (by omega)
    have hR0 := flC_row imC_len (wan xs i (j + 1)) j (by omega)
    rw [wan_at xs i (j + 1) hlt hj] at hR1
    rw [wan_pre xs i j hlt (by omega)] at hR0
    simp only [imC] at hR0 hR1
    have hb1 : ((j + 1 : Nat) : Int) < (xs.length : Int) := by omega
    have hb0 : (j : Int) < (xs.length : Int) := by omega
    have hin : inI (j : Int) := by unfold inI; omega
    simp only [eq_self, xRun, td0, td1, td2, td3, td4, td5, td6, ↓reduceIte]
    refine sw_drawn (.cons 0 true (.cons 1 true (.cons 2 true (.cons 3 true (.cons 4 true (.cons 5 true (.cons 6 true (.cons 7 true (.cons 8 true (.cons 9 true (.cons 10 true (.cons 11 true (.cons 12 true (.cons 13 true (.cons 14 false (.cons 15 true (.cons 16 true (.nil)))))))))))))))))) (by kernel_rfl) qLp_panic (by kernel_rfl) (sw_run 200 _ _ _ ?_)
    simp only [rowD, eq_self, xRun, vP, vSub, vLoad, vIdx, vBin, vBinT, isAg, isBo, isB, bv, gT, gW, gN, gV, isU, isPick, isCall, AS.pt, AS.kn, AS.ev, AS.owf, look, cav, avO, td0, td1, td2, td3, td4, td5, td6, Option.bind, Option.getD, Option.isSome, List.map, List.take, List.drop, List.length, List.getElem?_cons_zero, List.getElem?_cons_succ, ↓reduceIte, Nat.reduceLT, Nat.reduceAdd, Nat.reduceEqDiff, Nat.zero_add, true_and, Bool.false_eq_true, id_eq, reduceCtorEq, Int.toNat_natCast, Int.natCast_nonneg, decide_true, and_self, Nat.succ_ne_zero, Nat.le_refl, hp, hs, hR1, hR0, hb1, hb0, hin]
    have hC := con_cmpN xs[i]! (srt xs i)[j]!
    refine sw_callD hC rfl (aAs_ok ?_) ?_ (sw_run 200 _ _ _ ?_)
    · simp only [aAs, aA, aDs, aD, AS.ev, look, Option.getD, List.map, List.append_nil, ↓reduceIte, Nat.reduceEqDiff, eq_self, and_self, imC]
    · simp only [okR]
    rw [stp] at hst
    by_cases hc : cmpN xs[i]! (srt xs i)[j]! < 0
    · rw [if_pos hc] at hst
      simp only [mkR, flatD, packA, retA, List.headD_cons, eq_self, xRun, vP, vBin, vBinT, isAg, isBo, isB, bv, gT, gW, gN, gV, isU, isPick, pkC, pkA, AS.pt, AS.kn, AS.ev, look, cav, td0, td1, td2, td3, td4, td5, td6, Option.bind, Option.getD, Option.isSome, List.getElem?_cons_zero, List.getElem?_cons_succ, ↓reduceIte, Nat.reduceLT, Nat.reduceEqDiff, true_and, Bool.false_eq_true, decide_true, and_self, eq_true hc]
      refine sw_drawn (.cons 0 true (.cons 1 true (.cons 2 true (.cons 3 true (.cons 5 true (.cons 6 true (.cons 7 true (.cons 8 true (.cons 9 true (.cons 10 true (.cons 11 true (.cons 12 true (.cons 13 true (.cons 14 true (.fork (.alt 4 (.cons 15 false (.cons 16 true (.cons 17 false (.nil)))) (.alt 15 (.cons 4 true (.cons 16 true (.cons 17 false (.nil)))) (.last)))))))))))))))))) (by kernel_rfl) qLp_panic (by kernel_rfl) (sw_run 200 _ _ _ ?_)
      simp only [qLp, rowD, eq_self, xRun, vE, vP, vSub, vLoad, vIdx, vBin, vBinT, isAg, isBo, vStore, vStE, primD, primDs, AS.setO, AV.unsp, AV.unsps, unspT, unspB, isCutO, gN, isPick, isCall, AS.pt, AS.ev, AS.owf, look, cav, avO, setRowG, AV.cells, td0, td1, td2, td3, td4, td5, td6, Option.bind, Option.getD, Option.isSome, List.map, List.take, List.drop, List.length, List.getElem?_cons_zero, List.getElem?_cons_succ, ↓reduceIte, Nat.reduceLT, Nat.reduceAdd, Nat.reduceEqDiff, Nat.zero_add, Nat.add_zero, true_and, and_true, Bool.false_eq_true, id_eq, reduceCtorEq, Int.toNat_natCast, Int.natCast_nonneg, and_self, Nat.le_refl, hs, hR1, hR0, hb1, hb0, hin]
      have hrow : ((((flC imC (wan xs i (j + 1))).set ((j + 1) * 2) (D.str (srt xs i)[j]!.name)).set ((j + 1) * 2 + 1) (D.int (srt xs i)[j]!.coef)).set (j * 2) (D.str xs[i]!.name)).set (j * 2 + 1) (D.int xs[i]!.coef) = flC imC (wan xs i j) := by
        rw [flC_set _ _ (j + 1) (by omega), flC_set _ _ j (by rw [List.length_set]; omega), wan_swap xs i j hj]
      (try repeat' (with_reducible apply And.intro))
      all_goals
        refine ⟨j, id, ⟨by omega, hst⟩, by omega, ?_⟩
        simp only [Sub, subT, subB, subO, subP, inj, AV.ren, AV.rens, AV.lt, AV.lts, eq_self, AS.owf, look, td0, td1, td2, td3, td4, td5, td6, Option.bind, List.map, List.not_mem_nil, List.nodup_cons, List.nodup_nil, ↓reduceIte, Nat.reduceLT, Nat.reduceEqDiff, not_false_eq_true, id_eq, reduceCtorEq, and_self, Nat.succ_ne_zero, hrow]
    · rw [if_neg hc] at hst
      have he : wan xs i (j + 1) = srt xs (i + 1) ++ xs.drop (i + 1) := by rw [← wan_end, ← hst]
      simp only [mkR, flatD, packA, retA, List.headD_cons, qLp, eq_self, xRun, vP, vBin, vBinT, isAg, isBo, isB, bv, gT, gW, gN, gV, isU, isPick, pkC, pkA, popTo, AS.pt, AS.kn, AS.ev, look, cav, td0, td1, td2, td3, td4, td5, td6, Option.bind, Option.getD, Option.isSome, List.getElem?_cons_zero, List.getElem?_cons_succ, ↓reduceIte, Nat.reduceLT, Nat.reduceEqDiff, true_and, Bool.false_eq_true, decide_false, and_self, hc, he]
      refine sw_run 200 _ _ _ ?_
      simp only [qLp, eq_self, xRun, vE, vP, vBin, vBinT, isAg, isBo, isCutO, gN, isPick, isCall, AS.pt, AS.ev, look, cav, td0, td1, td2, td3, td4, td5, td6, Option.getD, ↓reduceIte, Nat.reduceLT, Nat.reduceEqDiff, true_and, Bool.false_eq_true, qLp]
      refine ⟨by unfold inI; omega, i + 1, id, ⟨by omega, by omega⟩, by omega, ?_⟩
      simp only [Sub, subT, subB, subO, subP, inj, AV.ren, AV.rens, AV.lt, AV.lts, eq_self, AS.owf, look, td0, td1, td2, td3, td4, td5, td6, Option.bind, List.map, List.not_mem_nil, List.nodup_cons, List.nodup_nil, ↓reduceIte, Nat.reduceLT, Nat.reduceEqDiff, not_false_eq_true, id_eq, reduceCtorEq, and_self, Nat.succ_ne_zero, cast1]
theorem con_stable (xs : List Im) (hl : xs.length ≤ 19) : ConW Try.prog 104 80 (.rows 2 xs.length (flC imC xs)) (.rows 2 xs.length (flC imC (srt xs xs.length))) [.one (.int xs.length), .fn 49 []] := by
  have h1 : ¬ (20 : Int) ≤ (xs.length : Int) := by omega
  have h2 : ¬ (20 : Int) < (xs.length : Int) := by omega
  refine con_runW Try.func104 rfl rfl (by simp [Try.ntmps104]) rfl ⟨_, _, _, rfl, flat_ims _⟩ ?_
  simp only [s0P, mkPs, mkPA, mkC, argA, argAs, numT, List.headD_cons, eq_self, xRun, vE, vP, isCutO, gN, isPick, isCall, AS.pt, AS.ev, AS.mk', kill, look, cav, avB, td0, td1, td2, td3, td4, td5, td6, Option.getD, List.map, List.foldr, ↓reduceIte, Nat.reduceLT, Nat.reduceAdd, Nat.reduceEqDiff, Nat.zero_add, true_and, Bool.false_eq_true, s0W, argA, Try.ntmps104]
  refine sw_loop (fun _ : Unit => True) (fun _ => ⟨63, [(8, .i 20), (7, .i 0), (6, .i 20), (0, .sl 0), (1, .i xs.length), (2, .fn 49 [])], [], [(0, some ⟨.rows 2 xs.length (flC imC xs), some 80, true⟩)], 1, [0]⟩) (fun _ => 0) () id trivial ?_ ?_
  · simp only [Sub, subT, subB, subO, subP, inj, AV.ren, AV.rens, AV.lt, AV.lts, eq_self, AS.owf, look, td0, td1, td2, td3, td4, td5, td6, Option.bind, List.map, List.not_mem_nil, List.nodup_cons, List.nodup_nil, ↓reduceIte, Nat.reduceLT, Nat.reduceEqDiff, not_false_eq_true, id_eq, reduceCtorEq, and_self, Nat.succ_ne_zero]
  rintro _ _
  refine sw_run 200 _ _ _ ?_
  simp only [qLp, eq_self, xRun, vE, vP, vBin, vBinT, isAg, isBo, isCutO, isB, bv, gN, isPick, isCall, popTo, AS.pt, AS.ev, look, td0, td1, td2, td3, td4, td5, td6, Option.getD, Option.isSome, ↓reduceIte, Nat.reduceLT, Nat.reduceEqDiff, true_and, Bool.false_eq_true, decide_false, Nat.succ_ne_zero, h1]
  refine sw_run 200 _ _ _ ?_
  simp only [eq_self, xRun, vE, vP, isCutO, gN, isPick, isCall, AS.pt, AS.ev, look, td0, td1, td2, td3, td4, td5, td6, Option.getD, ↓reduceIte, Nat.reduceLT, Nat.reduceEqDiff, true_and, Bool.false_eq_true, reduceCtorEq, Nat.succ_ne_zero]
  refine sw_callW (con_insSort xs (by omega)) rfl rfl rfl ⟨rfl, rfl⟩ ?_ (sw_run 200 _ _ _ ?_)
  · simp only [AS.kb, rmBs, mPs, mP, aAs, aA, aD, AS.kl, eq_self, AS.ev, kill, look, td0, td1, td2, td3, td4, td5, td6, Option.getD, List.map, List.foldr, ↓reduceIte, Nat.reduceEqDiff, and_self]
  simp only [xRun, AS.pt, td0, td1, td2, td3, td4, td5, td6, ↓reduceIte, Nat.reduceLT, AS.lend, lendL, lendO, unspLT, unspLB, AV.unspL, AV.unspLs]
  refine sw_loop (fun _ : Unit => True) (fun _ => ⟨63, [(6, .i 20), (1, .i xs.length)], [], [(0, some ⟨.rows 2 xs.length (flC imC (srt xs xs.length)), none, true⟩)], 1, [0]⟩) (fun _ => 0) () id trivial ?_ ?_
  · simp only [Sub, subT, subB, subO, subP, inj, AV.ren, AV.lt, eq_self, AS.owf, look, td0, td1, td2, td3, td4, td5, td6, Option.bind, List.map, List.not_mem_nil, List.nodup_cons, List.nodup_nil, ↓reduceIte, Nat.reduceLT, Nat.reduceEqDiff, not_false_eq_true, id_eq, and_self, Nat.succ_ne_zero]
  rintro _ _
  refine sw_run 200 _ _ _ ?_
  simp only [qLp, eq_self, xRun, vE, vP, vBin, vBinT, isAg, isBo, isCutO, isB, bv, gN, isPick, isCall, popTo, AS.pt, AS.ev, look, td0, td1, td2, td3, td4, td5, td6, Option.getD, Option.isSome, ↓reduceIte, Nat.reduceLT, Nat.reduceEqDiff, true_and, Bool.false_eq_true, decide_false, h2]
  refine sw_run 200 _ _ _ ?_
  simp only [eq_self, xRun, AS.owf, look, td0, td1, td2, td3, td4, td5, td6, Option.bind, ↓reduceIte, or_true, id_eq, reduceCtorEq, and_self, fQW, xRetW]
theorem con_SortSt (xs : List Im) (hl : xs.length ≤ 19) : ConW Try.prog 48 80 (.rows 2 xs.length (flC imC xs)) (.rows 2 xs.length (flC imC (srt xs xs.length))) [.fn 49 []] := by
  refine con_runW Try.func48 rfl rfl (by simp [Try.ntmps48]) rfl ⟨_, _, _, rfl, flat_ims _⟩ ?_
  simp only [s0P, mkPs, mkPA, mkC, argA, argAs, numT, List.headD_cons, eq_self, xRun, vE, vP, vLen, isCutO, gN, isPick, isCall, AS.pt, AS.ev, AS.mk', AS.owf, AS.rd, kill, look, td0, td1, td2, td3, td4, td5, td6, Option.bind, Option.getD, Option.map, List.map, List.foldr, ↓reduceIte, Nat.reduceLT, Nat.reduceEqDiff, Nat.zero_add, true_and, Bool.false_eq_true, id_eq, reduceCtorEq, Nat.succ_ne_zero, s0W, argA, Try.ntmps48]
  refine sw_callW (con_stable xs hl) rfl rfl rfl ⟨rfl, rfl⟩ ?_ (sw_run 200 _ _ _ ?_)
  · simp only [AS.kb, rmBs, mPs, mP, aAs, aA, aD, AS.kl, eq_self, AS.ev, kill, look, td0, td1, td2, td3, td4, td5, td6, Option.getD, List.map, List.foldr, ↓reduceIte, Nat.reduceEqDiff, and_self]
  simp only [eq_self, xRun, AS.pt, AS.owf, look, td0, td1, td2, td3, td4, td5, td6, Option.bind, ↓reduceIte, Nat.reduceLT, or_true, id_eq, reduceCtorEq, and_self, AS.lend, lendL, lendO, unspLT, unspLB, AV.unspL, AV.unspLs, fQW, xRetW]
end Go.Proofs.Ytepjbiffebbelaa
