/-
  Drawn types.
-/
import Derived.Test.YtepjbiffebbelaaDrw
import Derived.Test.YtepjbiffebbelaaStaged
import Derived.Test.YtepjbiffebbelaaPtq
namespace Go.Proofs.Ytepjbiffebbelaa
open Go.RowKit
set_option linter.unusedVariables false
set_option linter.unusedSimpArgs false
set_option maxRecDepth 20000
/-- A drawn type, not too great. -/
def tyI' (zs : List Int) (m : Nat) (x : Ty × Nat × Int) : Prop := szL (tyC x.1) ≤ m ∧ x.2.1 ≤ zs.length
def tyO (zs : List Int) (x : Ty × Nat × Int) : List (List CD) := [curA zs x.2.1 x.2.2]
/-- A type whose row may be appended to. -/
def tyA (t : Ty) : RD := .ag [.o (.int t.kind), .a 45 (.rows 2 t.args.length (tysC t.args))]
def tyRs (x : Ty × Nat × Int) : List RD := [tyA x.1]
theorem conX_P {P : Program} {f : FuncId} {args : List PA} {outs : List (List CD)} {rs : List RD} (h : ConP P f args outs rs) : ConX P f args (fun _ : Unit => True) (fun _ => outs) (fun _ => rs) :=
  ⟨h.1, fun w us fp fw S a b c d e => (h.2 w us fp fw S a b c d e).mono fun _ _ hx => ⟨(), trivial, hx⟩⟩
theorem con_l3FunA (a b : Ty) (ha : szL (tyC a) ≤ 1000000000) (hb : szL (tyC b) ≤ 1000000000) : ConP Try.prog 155 [.b (.ag (tyC a)), .b (.ag (tyC b))] [] [tyA (.mk 3 [a, b])] := by
  refine con_runP Try.func155 rfl rfl (by simp [Try.ntmps155]) rfl ?_
  simp only [s0P, mkPs, mkPA, argA, numT, tysD, eq_self, xRun, vE, isCutO, gN, isPick, isCall, AS.pt, AS.ev, AS.box, look, avB, AV.cells, AV.whole, AV.one, td0, td1, td2, td3, td4, td5, td6, Option.getD, Option.isSome, List.map, List.all, ↓reduceIte, Nat.reduceLT, Nat.reduceAdd, Nat.reduceEqDiff, Nat.zero_add, true_and, Bool.and_true, Bool.false_eq_true, Nat.succ_ne_zero, tyC_eq, Try.ntmps155]
  refine sw_drawn (.cons 0 true (.cons 2 true (.cons 1 false (.cons 3 false (.cons 4 false (.cons 5 true (.cons 6 false (.nil)))))))) (by kernel_rfl) fQP_panic (by kernel_rfl) (sw_run 200 _ _ _ ?_)
  simp only [eq_self, xRun, vP, vSub, vLoad, gN, isPick, isCall, AS.pt, AS.ev, look, td0, td1, td2, td3, td4, td5, td6, Option.getD, Option.isSome, List.take, List.drop, List.length, List.getElem?_cons_zero, List.getElem?_cons_succ, ↓reduceIte, Nat.reduceLT, Nat.reduceAdd, Nat.reduceEqDiff, Nat.zero_add, true_and, Bool.false_eq_true, reduceCtorEq, Nat.le_refl]
  refine sw_callD (con_l3Copy a ha) rfl (aAs_ok ?_) ?_ (sw_run 200 _ _ _ ?_)
  · simp only [aAs, aA, aDs, aD, tysD, AS.ev, look, Option.getD, List.map, List.append_nil, ↓reduceIte, Nat.reduceEqDiff, eq_self, and_self, tyC_eq]
  · simp only [okR]
  simp only [mkR, flatD, packA, retA, tysD, eq_self, xRun, gN, isCall, AS.pt, AS.mk', kill, td0, td1, td2, td3, td4, td5, td6, Option.getD, Option.isSome, List.take, List.length, List.getElem?_cons_zero, List.getElem?_cons_succ, List.foldr, List.append_nil, ↓reduceIte, Nat.reduceLT, Nat.reduceAdd, Nat.zero_add, true_and, tyC_eq]
  refine sw_callD (con_l3Copy b hb) rfl (aAs_ok ?_) ?_ (sw_run 200 _ _ _ ?_)
  · simp only [aAs, aA, aDs, aD, tysD, AS.ev, look, Option.getD, List.map, List.append_nil, ↓reduceIte, Nat.reduceEqDiff, eq_self, and_self, tyC_eq]
  · simp only [okR]
  simp only [fQP, xRetP, rRs, rOs, rC, rCs, eRs, eOs, eC, eCs, mkR, flatD, packA, retA, tysD, xRes, rD, eq_self, xRun, vE, vP, vBuild, vRow, vStore, xFill, gN, isPick, isCall, AS.pt, AS.ev, AS.setb, AS.mk', AS.owf, kill, look, cav, setRowG, AV.cells, AV.whole, AV.one, cD, cDs, eatsOf, dpOf, td0, td1, td2, td3, td4, td5, td6, Option.bind, Option.getD, Option.map, Option.isSome, List.map, List.take, List.length, List.getElem?_cons_zero, List.getElem?_cons_succ, List.set, List.foldr, List.all, List.replicate, List.mem_cons, List.not_mem_nil, List.nodup_cons, List.nodup_nil, List.nil_append, List.cons_append, List.append_nil, ↓reduceIte, Nat.reduceLT, Nat.reduceAdd, Nat.reduceMul, Nat.reduceLeDiff, Nat.reduceEqDiff, Nat.zero_add, Nat.zero_mul, Nat.one_mul, not_false_eq_true, or_false, or_true, Bool.and_true, Bool.false_eq_true, id_eq, reduceCtorEq, and_self, Nat.succ_ne_zero, Nat.le_refl, tyC_eq, tyA, Ty.kind, Ty.args, tysC, Try.results155]
theorem con_l3CodeA (a : Ty) (ha : szL (tyC a) ≤ 1000000000) : ConP Try.prog 154 [.b (.ag (tyC a))] [] [tyA (.mk 4 [a])] := by
  refine con_runP Try.func154 rfl rfl (by simp [Try.ntmps154]) rfl ?_
  simp only [s0P, mkPs, mkPA, argA, numT, tysD, eq_self, xRun, vE, vP, vSub, vLoad, isCutO, gN, isPick, isCall, AS.pt, AS.ev, AS.box, look, avB, AV.cells, AV.whole, AV.one, td0, td1, td2, td3, td4, td5, td6, Option.getD, Option.isSome, List.map, List.take, List.drop, List.length, List.all, ↓reduceIte, Nat.reduceLT, Nat.reduceAdd, Nat.reduceEqDiff, Nat.zero_add, true_and, Bool.and_true, Bool.false_eq_true, reduceCtorEq, Nat.le_refl, tyC_eq, Try.ntmps154]
  refine sw_call (con_l3Copy a ha) rfl (aAs_ok ?_) ?_ (sw_run 200 _ _ _ ?_)
  · simp only [aAs, aA, aDs, aD, tysD, AS.ev, look, Option.getD, List.map, List.append_nil, ↓reduceIte, eq_self, and_self, tyC_eq]
  · simp only [okR]
  simp only [fQP, xRetP, rRs, rOs, rC, rCs, eRs, eOs, eC, eCs, mkR, flatD, packA, retA, tysD, xRes, rD, eq_self, xRun, vE, vP, vBuild, vRow, vStore, isCutO, xFill, gN, isPick, isCall, AS.pt, AS.ev, AS.setb, AS.mk', AS.owf, kill, look, cav, setRowG, AV.cells, AV.whole, AV.one, cD, cDs, eatsOf, dpOf, td0, td1, td2, td3, td4, td5, td6, Option.bind, Option.getD, Option.map, Option.isSome, List.map, List.take, List.length, List.getElem?_cons_zero, List.getElem?_cons_succ, List.set, List.foldr, List.all, List.replicate, List.not_mem_nil, List.nodup_cons, List.nodup_nil, List.nil_append, List.append_nil, ↓reduceIte, Nat.reduceLT, Nat.reduceAdd, Nat.reduceLeDiff, Nat.reduceEqDiff, Nat.zero_add, Nat.zero_mul, Nat.one_mul, not_false_eq_true, or_false, or_true, Bool.and_true, Bool.false_eq_true, id_eq, reduceCtorEq, and_self, Nat.succ_ne_zero, Nat.le_refl, tyC_eq, tyA, Ty.kind, Ty.args, tysC, Try.results154]
theorem con_l3Draw (zs : List Int) (hz : BytOk zs) : ∀ (d : Nat), 1 ≤ d → d ≤ 10 → ∀ (i : Nat), i ≤ zs.length → ∀ (h : Int), ConX Try.prog 151 [.p (curA zs i h), .b (.one (.int d))] (tyI' zs (2 ^ d - 2)) (tyO zs) tyRs
  | 0, h1, _, _, _, _ => absurd h1 (by decide)
  | d + 1, _, hd, i, hi, h => by
    refine con_runX Try.func151 rfl rfl (by simp [Try.ntmps151]) (fun _ _ => rfl) ?_
    have hP := fun i hi h => con_PickInt zs hz [1, 1, 2] (by decide) (by decide) i hi h
    have hO := fun i hi h => con_Once zs hz 2 (by decide) (by decide) i hi h
    have hfin : ∀ (v : Int) (i' : Nat) (h' : Int), i' ≤ zs.length → tyI' zs (2 ^ (d + 1) - 2) (.mk v [], i', h') := fun v i' h' hi' => ⟨Nat.le_trans (show szL (tyC (.mk v [])) ≤ 0 from Nat.le_refl _) (Nat.zero_le _), hi'⟩
    by_cases hd1 : d = 0
    · subst hd1
      have hc : ((1 : Nat) : Int) < 2 := by decide
      simp only [s0P, mkPs, mkPA, mkC, argA, numT, eq_self, xRun, vE, vP, vBin, vBinT, isAg, isBo, vRow, isCutO, xFill, isB, bv, gT, gW, gN, gV, isU, isPick, pkC, pkA, isCall, AS.pt, AS.kn, AS.ev, AS.box, AS.mk', kill, look, cav, avB, setRowG, AV.cells, AV.whole, AV.one, cD, cDs, eatsOf, dpOf, td0, td1, td2, td3, td4, td5, td6, Option.bind, Option.getD, Option.isSome, List.map, List.length, List.getElem?_cons_zero, List.getElem?_cons_succ, List.set, List.foldr, List.all, List.replicate, List.nodup_nil, List.nil_append, ↓reduceIte, Nat.reduceLT, Nat.reduceAdd, Nat.reduceLeDiff, Nat.reduceEqDiff, Nat.zero_add, Nat.mul_one, true_and, or_true, Bool.and_true, Bool.not_false, Bool.false_eq_true, Bool.true_eq_false, reduceCtorEq, decide_true, and_self, Nat.succ_ne_zero, Nat.le_refl, curA, bytD, Nat.zero_add, eq_true hc, Try.ntmps151]
      refine sw_fzE 2 rfl ?_
      refine sw_callXR (hP i hi h) rfl rfl rfl ?_ ?_ ?_ ?_
      · simp only [rC, rCs, AS.em, AS.fz, fzT, fzB, AV.fz, AV.fzs, mPs, mP, aA, aD, intsD, rD, eq_self, AS.ev, look, td0, td1, td2, td3, td4, td5, td6, Option.getD, List.map, List.length, List.append_nil, ↓reduceIte, Nat.reduceAdd, Nat.reduceEqDiff, Nat.zero_add, reduceCtorEq, and_self, curA, bytD, intsD]
      · simp only [eC, eCs, AS.fz, fzT, fzB, AV.fz, AV.fzs, ePs, eP, intsD, eq_self, AS.ev, look, td0, td1, td2, td3, td4, td5, td6, Option.getD, List.map, List.length, List.nodup_nil, List.append_nil, ↓reduceIte, Nat.reduceAdd, Nat.reduceEqDiff, Nat.zero_add, reduceCtorEq, curA, bytD, intsD]
      · simp only [AS.fz, fzT, fzB, AV.fz, AV.fzs, bPs, bP, intsD, eq_self, AS.ev, look, td0, td1, td2, td3, td4, td5, td6, Option.getD, List.map, List.length, List.not_mem_nil, List.nodup_cons, List.nodup_nil, List.append_nil, ↓reduceIte, Nat.reduceAdd, Nat.reduceEqDiff, Nat.zero_add, not_false_eq_true, and_self, curA, bytD, intsD]
      rintro ⟨v, i', h'⟩ ⟨hv, hi'⟩
      simp only at hv hi'
      refine sw_run 200 _ _ _ ?_
      simp only [mkC, eC, eCs, AS.fz, fzT, fzB, AV.fz, AV.fzs, aftS, aftV, AS.kb, rmBs, rmB, mkO, packRA, flatR, ePs, eP, bPs, bP, AS.kl, retA, List.headD_cons, intsD, eq_self, xRun, vE, vP, vBuild, vStore, isCutO, xFill, gN, isPick, isCall, AS.pt, AS.ev, AS.setb, kill, look, avB, setRowG, AV.cells, AV.whole, AV.one, td0, td1, td2, td3, td4, td5, td6, Option.getD, Option.isSome, List.map, List.length, List.getElem?_cons_zero, List.set, List.foldr, List.all, List.append_nil, ↓reduceIte, Nat.reduceLT, Nat.reduceAdd, Nat.reduceLeDiff, Nat.reduceEqDiff, Nat.zero_add, true_and, Bool.and_true, Bool.false_eq_true, reduceCtorEq, and_self, Nat.succ_ne_zero, Nat.le_refl, curO, curA, curR, bytD]
      refine ⟨.inl rfl, (.mk v [], i', h'), hfin _ _ _ hi', ?_⟩
      simp only [xRetP, rRs, rOs, rC, rCs, eRs, eOs, eC, eCs, aD, xRes, rD, eq_self, look, td0, td1, td2, td3, td4, td5, td6, List.map, List.length, List.not_mem_nil, List.nodup_cons, List.nodup_nil, List.append_nil, ↓reduceIte, Nat.reduceAdd, Nat.reduceEqDiff, Nat.zero_add, not_false_eq_true, reduceCtorEq, and_self, tyO, curA, tyRs, tyA, bytD, Ty.kind, Ty.args, tysC, List.length_nil, Try.results151]
    · have hc : ¬ ((d + 1 : Nat) : Int) < 2 := by omega
      have hs : ((d + 1 : Nat) : Int) - 1 = (d : Int) := by omega
      have hin : inI (d : Int) := by unfold inI; omega
      have ih := fun i hi h => con_l3Draw zs hz d (by omega) (by omega) i hi h
      have hp : 2 ≤ 2 ^ d := by
        obtain ⟨e, rfl⟩ : ∃ e, d = e + 1 := ⟨d - 1, by omega⟩
        rw [Nat.pow_succ]; have := Nat.one_le_two_pow (n := e); omega
      have hp2 : 2 ^ (d + 1) = 2 * 2 ^ d := by rw [Nat.pow_succ]; omega
      have hp3 : 2 ^ d ≤ 1024 := Nat.le_trans (Nat.pow_le_pow_right (by decide) (show d ≤ 10 by omega)) (by decide)
      simp only [s0P, mkPs, mkPA, mkC, argA, numT, eq_self, xRun, vE, vP, vBin, vBinT, isAg, isBo, isCutO, isB, bv, gT, gW, gN, gV, isU, isPick, isCall, AS.pt, AS.kn, AS.ev, AS.box, look, cav, avB, td0, td1, td2, td3, td4, td5, td6, Option.bind, Option.getD, Option.isSome, List.getElem?_cons_zero, List.getElem?_cons_succ, List.nil_append, ↓reduceIte, Nat.reduceLT, Nat.reduceAdd, Nat.reduceEqDiff, Nat.zero_add, true_and, Bool.false_eq_true, reduceCtorEq, decide_false, and_self, Nat.succ_ne_zero, curA, bytD, hc, Try.ntmps151]
      refine sw_callXR (hO i hi h) rfl rfl rfl ?_ ?_ ?_ ?_
      · simp only [rC, rCs, AS.em, mPs, mP, aA, aD, rD, eq_self, AS.ev, look, cav, td0, td1, td2, td3, td4, td5, td6, Option.getD, List.map, List.append_nil, ↓reduceIte, Nat.reduceEqDiff, reduceCtorEq, and_self, curA, bytD]
      · simp only [eC, eCs, ePs, eP, eq_self, AS.ev, look, cav, td0, td1, td2, td3, td4, td5, td6, Option.getD, List.map, List.nodup_nil, List.append_nil, ↓reduceIte, Nat.reduceEqDiff, reduceCtorEq, curA, bytD]
      · simp only [bPs, bP, eq_self, AS.ev, look, cav, td0, td1, td2, td3, td4, td5, td6, Option.getD, List.map, List.not_mem_nil, List.nodup_cons, List.nodup_nil, List.append_nil, ↓reduceIte, Nat.reduceEqDiff, not_false_eq_true, and_self, curA, bytD]
      rintro ⟨b1, i1, h1⟩ hi1
      have hi1' : i1 ≤ zs.length := hi1
      refine sw_run 200 _ _ _ ?_
      cases b1
      case true =>
        simp only [mkC, eC, eCs, aftS, aftV, AS.kb, rmBs, rmB, mkO, packRA, flatR, ePs, eP, bPs, bP, AS.kl, retA, List.headD_cons, eq_self, xRun, vE, vP, vRow, isCutO, xFill, isB, bv, gN, isPick, pkC, pkB, isCall, AS.pt, AS.ev, AS.mk', kill, look, cav, avB, setRowG, AV.cells, AV.whole, AV.one, cD, cDs, eatsOf, dpOf, td0, td1, td2, td3, td4, td5, td6, Option.getD, Option.isSome, List.map, List.length, List.set, List.foldr, List.all, List.replicate, List.nodup_nil, List.append_nil, ↓reduceIte, Nat.reduceLT, Nat.reduceAdd, Nat.reduceLeDiff, Nat.reduceEqDiff, Nat.zero_add, Nat.mul_one, true_and, or_true, Bool.and_true, Bool.false_eq_true, reduceCtorEq, and_self, Nat.succ_ne_zero, Nat.le_refl, bitO, curA, bitR, bytD]
        refine sw_fzE 2 rfl ?_
        refine sw_callXR (hP i1 hi1' h1) rfl rfl rfl ?_ ?_ ?_ ?_
        · simp only [rC, rCs, AS.em, AS.fz, fzT, fzB, AV.fz, AV.fzs, mPs, mP, aA, aD, intsD, rD, eq_self, AS.ev, look, td0, td1, td2, td3, td4, td5, td6, Option.getD, List.map, List.length, List.append_nil, ↓reduceIte, Nat.reduceAdd, Nat.reduceEqDiff, Nat.zero_add, and_self, curA, bytD, intsD]
        · simp only [eC, eCs, AS.fz, fzT, fzB, AV.fz, AV.fzs, ePs, eP, intsD, eq_self, AS.ev, look, td0, td1, td2, td3, td4, td5, td6, Option.getD, List.map, List.length, List.nodup_nil, List.append_nil, ↓reduceIte, Nat.reduceAdd, Nat.reduceEqDiff, Nat.zero_add, curA, bytD, intsD]
        · simp only [AS.fz, fzT, fzB, AV.fz, AV.fzs, bPs, bP, intsD, eq_self, AS.ev, look, td0, td1, td2, td3, td4, td5, td6, Option.getD, List.map, List.length, List.not_mem_nil, List.nodup_cons, List.nodup_nil, List.append_nil, ↓reduceIte, Nat.reduceAdd, Nat.reduceEqDiff, Nat.zero_add, not_false_eq_true, and_self, curA, bytD, intsD]
        rintro ⟨v, i', h'⟩ ⟨hv, hi'⟩
        simp only at hv hi'
        refine sw_run 200 _ _ _ ?_
        simp only [mkC, eC, eCs, AS.fz, fzT, fzB, AV.fz, AV.fzs, aftS, aftV, AS.kb, rmBs, rmB, mkO, packRA, flatR, ePs, eP, bPs, bP, AS.kl, retA, List.headD_cons, intsD, eq_self, xRun, vE, vP, vBuild, vStore, isCutO, xFill, gN, isPick, isCall, AS.pt, AS.ev, AS.setb, kill, look, avB, setRowG, AV.cells, AV.whole, AV.one, td0, td1, td2, td3, td4, td5, td6, Option.getD, Option.isSome, List.map, List.length, List.getElem?_cons_zero, List.set, List.foldr, List.all, List.append_nil, ↓reduceIte, Nat.reduceLT, Nat.reduceAdd, Nat.reduceLeDiff, Nat.reduceEqDiff, Nat.zero_add, true_and, Bool.and_true, Bool.false_eq_true, and_self, Nat.succ_ne_zero, Nat.le_refl, curO, curA, curR, bytD]
        refine ⟨.inl rfl, (.mk v [], i', h'), hfin _ _ _ hi', ?_⟩
        simp only [xRetP, rRs, rOs, rC, rCs, eRs, eOs, eC, eCs, aD, xRes, rD, eq_self, look, td0, td1, td2, td3, td4, td5, td6, List.map, List.length, List.not_mem_nil, List.nodup_cons, List.nodup_nil, List.append_nil, ↓reduceIte, Nat.reduceAdd, Nat.reduceEqDiff, Nat.zero_add, not_false_eq_true, reduceCtorEq, and_self, tyO, curA, tyRs, tyA, bytD, Ty.kind, Ty.args, tysC, List.length_nil, Try.results151]
      case false =>
        simp only [mkC, eC, eCs, aftS, aftV, AS.kb, rmBs, rmB, mkO, packRA, flatR, ePs, eP, bPs, bP, AS.kl, retA, List.headD_cons, eq_self, xRun, vE, vP, isCutO, isB, bv, gN, isPick, pkC, pkB, isCall, AS.pt, AS.ev, kill, look, cav, avB, td0, td1, td2, td3, td4, td5, td6, Option.getD, List.map, List.foldr, List.append_nil, ↓reduceIte, Nat.reduceLT, Nat.reduceEqDiff, true_and, Bool.false_eq_true, reduceCtorEq, Nat.succ_ne_zero, bitO, curA, bitR, bytD]
        refine sw_callXR (hO i1 hi1' h1) rfl rfl rfl ?_ ?_ ?_ ?_
        · simp only [rC, rCs, AS.em, mPs, mP, aA, aD, rD, eq_self, AS.ev, look, cav, td0, td1, td2, td3, td4, td5, td6, Option.getD, List.map, List.append_nil, ↓reduceIte, and_self, curA, bytD]
        · simp only [eC, eCs, ePs, eP, eq_self, AS.ev, look, cav, td0, td1, td2, td3, td4, td5, td6, Option.getD, List.map, List.nodup_nil, List.append_nil, ↓reduceIte, curA, bytD]
        · simp only [bPs, bP, eq_self, AS.ev, look, cav, td0, td1, td2, td3, td4, td5, td6, Option.getD, List.map, List.not_mem_nil, List.nodup_cons, List.nodup_nil, List.append_nil, ↓reduceIte, not_false_eq_true, and_self, curA, bytD]
        rintro ⟨b2, i2, h2⟩ hi2
        have hi2' : i2 ≤ zs.length := hi2
        refine sw_run 200 _ _ _ ?_
        cases b2
        case true =>
          simp only [mkC, eC, eCs, aftS, aftV, AS.kb, rmBs, rmB, mkO, packRA, flatR, ePs, eP, bPs, bP, AS.kl, retA, List.headD_cons, eq_self, xRun, vE, vP, vBin, vBinT, isAg, isBo, isCutO, isB, bv, gN, isPick, isCall, AS.pt, AS.ev, kill, look, cav, avB, td0, td1, td2, td3, td4, td5, td6, Option.getD, List.map, List.foldr, List.append_nil, ↓reduceIte, Nat.reduceLT, Nat.reduceEqDiff, true_and, Bool.false_eq_true, reduceCtorEq, Nat.succ_ne_zero, bitO, curA, bitR, bytD, hs, hin]
          refine sw_callXR (ih i2 hi2' h2) rfl rfl rfl ?_ ?_ ?_ ?_
          · simp only [rC, rCs, AS.em, mPs, mP, aA, aD, rD, eq_self, AS.ev, look, td0, td1, td2, td3, td4, td5, td6, Option.getD, List.map, List.append_nil, ↓reduceIte, Nat.reduceEqDiff, and_self, curA, bytD]
          · simp only [eC, eCs, ePs, eP, eq_self, AS.ev, look, td0, td1, td2, td3, td4, td5, td6, Option.getD, List.map, List.nodup_nil, List.append_nil, ↓reduceIte, Nat.reduceEqDiff, curA, bytD]
          · simp only [bPs, bP, eq_self, AS.ev, look, td0, td1, td2, td3, td4, td5, td6, Option.getD, List.map, List.not_mem_nil, List.nodup_cons, List.nodup_nil, List.append_nil, ↓reduceIte, Nat.reduceEqDiff, not_false_eq_true, and_self, curA, bytD]
          rintro ⟨t, i3, h3⟩ ⟨ht, hi3⟩
          simp only at ht hi3
          refine sw_run 200 _ _ _ ?_
          simp only [mkC, eC, eCs, aftS, aftV, AS.kb, rmBs, rmB, mkO, packRA, flatR, ePs, eP, bPs, bP, AS.kl, retA, eq_self, xRun, gN, isPick, isCall, AS.pt, AS.ev, AS.mk', kill, look, avB, td0, td1, td2, td3, td4, td5, td6, Option.getD, List.map, List.take, List.length, List.foldr, List.append_nil, ↓reduceIte, Nat.reduceLT, Nat.reduceAdd, Nat.reduceEqDiff, Nat.zero_add, Bool.false_eq_true, Nat.succ_ne_zero, tyO, curA, tyRs, tyA, bytD]
          refine sw_callP (con_l3CodeA t (by omega)) rfl rfl rfl rfl ?_ ?_ ?_ (sw_run 200 _ _ _ ?_)
          · simp only [AS.kb, rmBs, mPs, mP, ePs, eP, bPs, bP, aA, aDs, aD, AS.kl, tysD, eq_self, AS.ev, AS.owf, kill, look, td0, td1, td2, td3, td4, td5, td6, Option.bind, Option.getD, List.map, List.foldr, List.append_nil, ↓reduceIte, id_eq, and_self, tyC_eq]
          · simp only [ePs, eP, tysD, eq_self, AS.ev, look, td0, td1, td2, td3, td4, td5, td6, Option.getD, List.map, List.nodup_nil, List.append_nil, ↓reduceIte, tyC_eq]
          · simp only [bPs, bP, tysD, eq_self, AS.ev, look, td0, td1, td2, td3, td4, td5, td6, Option.getD, List.map, List.nodup_nil, List.append_nil, ↓reduceIte, tyC_eq]
          simp only [mkC, aftS, aftV, AS.kb, rmBs, mkO, packRA, flatR, ePs, eP, bPs, bP, AS.kl, retA, tysD, eq_self, xRun, vE, vStore, isCutO, gN, isPick, isCall, AS.pt, AS.ev, AS.setb, AS.mk', kill, look, setRowG, AV.cells, AV.whole, AV.one, td0, td1, td2, td3, td4, td5, td6, Option.getD, List.map, List.take, List.length, List.set, List.foldr, List.all, List.append_nil, ↓reduceIte, Nat.reduceLT, Nat.reduceAdd, Nat.reduceEqDiff, Nat.zero_add, true_and, Bool.and_true, Bool.false_eq_true, and_self, Nat.succ_ne_zero, Nat.le_refl, tyC_eq, tyA, Ty.kind, Ty.args]
          refine ⟨.inl rfl, (.mk 4 [t], i3, h3), ⟨by rw [sz_one]; omega, hi3⟩, ?_⟩
          simp only [xRetP, rRs, rOs, rC, rCs, eRs, eOs, eC, eCs, aD, xRes, rD, eq_self, AS.owf, look, td0, td1, td2, td3, td4, td5, td6, Option.bind, List.map, List.length, List.not_mem_nil, List.nodup_cons, List.nodup_nil, List.nil_append, List.append_nil, ↓reduceIte, Nat.reduceAdd, Nat.reduceEqDiff, Nat.zero_add, not_false_eq_true, id_eq, reduceCtorEq, and_self, tyO, curA, tyRs, tyA, bytD, Ty.kind, Ty.args, Try.results151]
        case false =>
          simp only [mkC, eC, eCs, aftS, aftV, AS.kb, rmBs, rmB, mkO, packRA, flatR, ePs, eP, bPs, bP, AS.kl, retA, List.headD_cons, eq_self, xRun, vE, vP, vBin, vBinT, isAg, isBo, isCutO, isB, bv, gN, isPick, isCall, AS.pt, AS.ev, kill, look, cav, avB, td0, td1, td2, td3, td4, td5, td6, Option.getD, List.map, List.foldr, List.append_nil, ↓reduceIte, Nat.reduceLT, Nat.reduceEqDiff, true_and, Bool.false_eq_true, reduceCtorEq, Nat.succ_ne_zero, bitO, curA, bitR, bytD, hs, hin]
          refine sw_callXR (ih i2 hi2' h2) rfl rfl rfl ?_ ?_ ?_ ?_
          · simp only [rC, rCs, AS.em, mPs, mP, aA, aD, rD, eq_self, AS.ev, look, td0, td1, td2, td3, td4, td5, td6, Option.getD, List.map, List.append_nil, ↓reduceIte, Nat.reduceEqDiff, and_self, curA, bytD]
          · simp only [eC, eCs, ePs, eP, eq_self, AS.ev, look, td0, td1, td2, td3, td4, td5, td6, Option.getD, List.map, List.nodup_nil, List.append_nil, ↓reduceIte, Nat.reduceEqDiff, curA, bytD]
          · simp only [bPs, bP, eq_self, AS.ev, look, td0, td1, td2, td3, td4, td5, td6, Option.getD, List.map, List.not_mem_nil, List.nodup_cons, List.nodup_nil, List.append_nil, ↓reduceIte, Nat.reduceEqDiff, not_false_eq_true, and_self, curA, bytD]
          rintro ⟨a, i3, h3⟩ ⟨ha, hi3⟩
          simp only at ha hi3
          refine sw_run 200 _ _ _ ?_
          simp only [mkC, eC, eCs, aftS, aftV, AS.kb, rmBs, rmB, mkO, packRA, flatR, ePs, eP, bPs, bP, AS.kl, retA, eq_self, xRun, vE, vStore, isCutO, gN, isPick, isCall, AS.pt, AS.ev, AS.box, AS.setb, AS.mk', kill, look, avB, setRowG, AV.cells, AV.whole, AV.one, td0, td1, td2, td3, td4, td5, td6, Option.getD, Option.isSome, List.map, List.take, List.length, List.set, List.foldr, List.all, List.append_nil, ↓reduceIte, Nat.reduceLT, Nat.reduceAdd, Nat.reduceEqDiff, Nat.zero_add, true_and, Bool.and_true, Bool.false_eq_true, and_self, Nat.succ_ne_zero, Nat.le_refl, tyO, curA, tyRs, tyA, bytD]
          refine sw_drawn (.cons 1 true (.cons 2 true (.cons 3 true (.fork (.alt 0 (.cons 4 false (.cons 5 false (.cons 6 false (.nil)))) (.alt 4 (.cons 0 true (.cons 5 false (.cons 6 false (.nil)))) (.last))))))) (by kernel_rfl) fQX_panic (by kernel_rfl) (sw_run 200 _ _ _ ?_)
          simp only [eq_self, xRun, vE, vP, vSub, vLoad, vBin, vBinT, isAg, isBo, gN, isPick, isCall, AS.pt, AS.ev, look, cav, td0, td1, td2, td3, td4, td5, td6, Option.getD, Option.isSome, List.take, List.drop, List.length, List.getElem?_cons_zero, List.getElem?_cons_succ, ↓reduceIte, Nat.reduceLT, Nat.reduceAdd, Nat.reduceEqDiff, Nat.zero_add, true_and, and_true, Bool.false_eq_true, reduceCtorEq, Nat.succ_ne_zero, Nat.le_refl, hs, hin]
          (try repeat' (with_reducible apply And.intro))
          all_goals
            refine sw_callDXR (ih i3 hi3 h3) rfl rfl rfl ?_ ?_ ?_ rfl ?_
            · simp only [rC, rCs, AS.em, mPs, mP, aA, aD, rD, eq_self, AS.ev, look, td0, td1, td2, td3, td4, td5, td6, Option.getD, List.map, List.append_nil, ↓reduceIte, Nat.reduceEqDiff, reduceCtorEq, and_self, curA, bytD]
            · simp only [eC, eCs, ePs, eP, eq_self, AS.ev, look, td0, td1, td2, td3, td4, td5, td6, Option.getD, List.map, List.nodup_nil, List.append_nil, ↓reduceIte, Nat.reduceEqDiff, reduceCtorEq, curA, bytD]
            · simp only [bPs, bP, eq_self, AS.ev, look, td0, td1, td2, td3, td4, td5, td6, Option.getD, List.map, List.not_mem_nil, List.nodup_cons, List.nodup_nil, List.append_nil, ↓reduceIte, Nat.reduceEqDiff, not_false_eq_true, and_self, curA, bytD]
            rintro ⟨b, i4, h4⟩ ⟨hb, hi4⟩
            simp only at hb hi4
            refine sw_run 200 _ _ _ ?_
            simp only [mkC, eC, eCs, aftS, aftV, AS.kb, rmBs, rmB, mkO, packRA, flatR, ePs, eP, bPs, bP, AS.kl, retA, eq_self, xRun, vP, vSub, vLoad, gN, isPick, isCall, AS.pt, AS.ev, AS.mk', kill, look, avB, td0, td1, td2, td3, td4, td5, td6, Option.getD, Option.isSome, List.map, List.take, List.drop, List.length, List.getElem?_cons_zero, List.getElem?_cons_succ, List.foldr, List.append_nil, ↓reduceIte, Nat.reduceLT, Nat.reduceAdd, Nat.reduceEqDiff, Nat.zero_add, true_and, Bool.false_eq_true, reduceCtorEq, Nat.succ_ne_zero, Nat.le_refl, tyO, curA, tyRs, tyA, bytD]
            refine sw_callDXB (conX_P (con_l3FunA a b (by omega) (by omega))) rfl rfl rfl (fun _ _ => rfl) ?_ ?_
            · simp only [AS.kb, rmBs, mPs, mP, aA, aDs, aD, AS.kl, tysD, eq_self, AS.ev, AS.owf, kill, look, td0, td1, td2, td3, td4, td5, td6, Option.bind, Option.getD, List.map, List.foldr, List.append_nil, ↓reduceIte, Nat.reduceEqDiff, id_eq, and_self, tyC_eq]
            rintro _ _
            refine sw_run 200 _ _ _ ?_
            simp only [mkC, aftS, aftV, AS.kb, rmBs, mkO, packRA, flatR, AS.kl, retA, eq_self, xRun, vE, vStore, gN, isPick, isCall, AS.pt, AS.ev, AS.setb, AS.mk', kill, look, setRowG, AV.cells, AV.whole, AV.one, td0, td1, td2, td3, td4, td5, td6, Option.getD, Option.isSome, List.take, List.length, List.getElem?_cons_zero, List.getElem?_cons_succ, List.set, List.foldr, List.all, List.append_nil, ↓reduceIte, Nat.reduceLT, Nat.reduceAdd, Nat.reduceEqDiff, Nat.zero_add, true_and, Bool.and_true, Bool.false_eq_true, and_self, Nat.succ_ne_zero, Nat.le_refl, tyA, Ty.kind, Ty.args]
            refine ⟨.inl rfl, (.mk 3 [a, b], i4, h4), ⟨by rw [sz_two]; omega, hi4⟩, ?_⟩
            simp only [xRetP, rRs, rOs, rC, rCs, eRs, eOs, eC, eCs, aD, xRes, rD, eq_self, AS.owf, look, td0, td1, td2, td3, td4, td5, td6, Option.bind, List.map, List.length, List.not_mem_nil, List.nodup_cons, List.nodup_nil, List.nil_append, List.append_nil, ↓reduceIte, Nat.reduceAdd, Nat.reduceEqDiff, Nat.zero_add, not_false_eq_true, id_eq, reduceCtorEq, and_self, tyO, curA, tyRs, tyA, bytD, Ty.kind, Ty.args, Try.results151]
/-- A drawn type of whatever make. -/
def tyRo (x : Ty × Nat × Int) : List RD := [tyR x.1]
theorem con_l3Bent (zs : List Int) (hz : BytOk zs) (i : Nat) (hi : i ≤ zs.length) (h : Int) : ConX Try.prog 86 [.p (curA zs i h)] (tyI' zs 200) (tyO zs) tyRo := by
  refine con_runX Try.func86 rfl rfl (by simp [Try.ntmps86]) (fun _ _ => rfl) ?_
  have hB := fun n hn hn2 i hi h => con_Below zs hz n hn hn2 i hi h
  simp only [s0P, mkPs, mkPA, mkC, numT, eq_self, xRun, vE, vP, isCutO, gN, isPick, isCall, AS.pt, AS.ev, AS.box, look, avB, td0, td1, td2, td3, td4, td5, td6, Option.getD, Option.isSome, List.nil_append, ↓reduceIte, Nat.reduceLT, Nat.reduceAdd, Nat.zero_add, true_and, Bool.false_eq_true, reduceCtorEq, curA, bytD, Try.ntmps86]
  have hD : ConX Try.prog 151 [.p (curA zs i h), .b (.one (.int 4))] (tyI' zs 14) (tyO zs) tyRs := con_l3Draw zs hz 4 (by decide) (by decide) i hi h
  refine sw_callXR (hD) rfl rfl rfl ?_ ?_ ?_ ?_
  · simp only [rC, rCs, AS.em, mPs, mP, aA, aD, rD, eq_self, AS.ev, look, cav, td0, td1, td2, td3, td4, td5, td6, Option.getD, List.map, List.append_nil, ↓reduceIte, reduceCtorEq, and_self, curA, bytD]
  · simp only [eC, eCs, ePs, eP, eq_self, AS.ev, look, cav, td0, td1, td2, td3, td4, td5, td6, Option.getD, List.map, List.nodup_nil, List.append_nil, ↓reduceIte, reduceCtorEq, curA, bytD]
  · simp only [bPs, bP, eq_self, AS.ev, look, cav, td0, td1, td2, td3, td4, td5, td6, Option.getD, List.map, List.not_mem_nil, List.nodup_cons, List.nodup_nil, List.append_nil, ↓reduceIte, not_false_eq_true, and_self, curA, bytD]
  rintro ⟨t, i1, h1⟩ ⟨ht, hi1⟩
  simp only at ht hi1
  have ht' := ht
  refine sw_run 200 _ _ _ ?_
  simp only [mkC, eC, eCs, aftS, aftV, AS.kb, rmBs, rmB, mkO, packRA, flatR, ePs, eP, bPs, bP, AS.kl, retA, eq_self, xRun, vE, vP, vStore, isCutO, gN, isPick, isCall, AS.pt, AS.ev, AS.box, AS.setb, AS.mk', kill, look, cav, avB, setRowG, AV.cells, AV.whole, AV.one, td0, td1, td2, td3, td4, td5, td6, Option.getD, Option.isSome, List.map, List.take, List.length, List.set, List.foldr, List.all, List.append_nil, ↓reduceIte, Nat.reduceLT, Nat.reduceAdd, Nat.reduceEqDiff, Nat.zero_add, true_and, Bool.and_true, Bool.false_eq_true, reduceCtorEq, and_self, Nat.succ_ne_zero, Nat.le_refl, tyO, curA, tyRs, tyA, bytD]
  refine sw_callXR (hB 10 (by decide) (by decide) i1 hi1 h1) rfl rfl rfl ?_ ?_ ?_ ?_
  · simp only [rC, rCs, AS.em, mPs, mP, aA, aD, rD, eq_self, AS.ev, look, cav, td0, td1, td2, td3, td4, td5, td6, Option.getD, List.map, List.append_nil, ↓reduceIte, reduceCtorEq, and_self, curA, bytD]
  · simp only [eC, eCs, ePs, eP, eq_self, AS.ev, look, cav, td0, td1, td2, td3, td4, td5, td6, Option.getD, List.map, List.nodup_nil, List.append_nil, ↓reduceIte, reduceCtorEq, curA, bytD]
  · simp only [bPs, bP, eq_self, AS.ev, look, cav, td0, td1, td2, td3, td4, td5, td6, Option.getD, List.map, List.not_mem_nil, List.nodup_cons, List.nodup_nil, List.append_nil, ↓reduceIte, not_false_eq_true, and_self, curA, bytD]
  rintro ⟨v, i2, h2⟩ ⟨hv, hi2⟩
  simp only at hv hi2
  refine sw_run 200 _ _ _ ?_
  by_cases v0 : v = 0
  · simp only [mkC, eC, eCs, aftS, aftV, AS.kb, rmBs, rmB, mkO, packRA, flatR, ePs, eP, bPs, bP, AS.kl, retA, List.headD_cons, eq_self, xRun, vE, vP, vBin, vBinT, isAg, isBo, isCutO, isB, bv, gN, isPick, isCall, AS.pt, AS.ev, kill, look, cav, avB, td0, td1, td2, td3, td4, td5, td6, Option.getD, List.map, List.foldr, List.append_nil, ↓reduceIte, Nat.reduceLT, true_and, Bool.false_eq_true, reduceCtorEq, decide_true, Nat.succ_ne_zero, curO, curA, curR, bytD, eq_true v0]
    refine sw_callXR (hB 6 (by decide) (by decide) i2 hi2 h2) rfl rfl rfl ?_ ?_ ?_ ?_
    · simp only [rC, rCs, AS.em, mPs, mP, aA, aD, rD, eq_self, AS.ev, look, cav, td0, td1, td2, td3, td4, td5, td6, Option.getD, List.map, List.append_nil, ↓reduceIte, and_self, curA, bytD]
    · simp only [eC, eCs, ePs, eP, eq_self, AS.ev, look, cav, td0, td1, td2, td3, td4, td5, td6, Option.getD, List.map, List.nodup_nil, List.append_nil, ↓reduceIte, curA, bytD]
    · simp only [bPs, bP, eq_self, AS.ev, look, cav, td0, td1, td2, td3, td4, td5, td6, Option.getD, List.map, List.not_mem_nil, List.nodup_cons, List.nodup_nil, List.append_nil, ↓reduceIte, not_false_eq_true, and_self, curA, bytD]
    rintro ⟨k, i3, h3⟩ ⟨hk, hi3⟩
    simp only at hk hi3
    refine sw_run 200 _ _ _ ?_
    simp only [mkC, eC, eCs, aftS, aftV, AS.kb, rmBs, rmB, mkO, packRA, flatR, ePs, eP, bPs, bP, AS.kl, retA, List.headD_cons, eq_self, xRun, vE, vP, vSub, vLoad, vFld, vStore, isCutO, gN, isPick, isCall, AS.pt, AS.ev, AS.setb, kill, look, cav, avB, setRowG, AV.cells, AV.whole, AV.one, td0, td1, td2, td3, td4, td5, td6, Option.getD, List.map, List.take, List.drop, List.length, List.set, List.foldr, List.all, List.append_nil, ↓reduceIte, Nat.reduceLT, Nat.reduceAdd, Nat.reduceLeDiff, Nat.reduceEqDiff, Nat.zero_add, Nat.add_zero, ne_eq, not_false_eq_true, true_and, Bool.and_true, Bool.false_eq_true, and_self, Nat.succ_ne_zero, Nat.le_refl, curO, curA, curR, bytD]
    refine ⟨.inl rfl, (.mk k t.args, i3, h3), ⟨?_, hi3⟩, ?_⟩
    · obtain ⟨tk, ta⟩ := t
      exact Nat.le_trans ht' (by decide)
    · simp only [xRetP, rRs, rOs, rC, rCs, eRs, eOs, eC, eCs, aD, xRes, rD, eq_self, AS.owf, look, td0, td1, td2, td3, td4, td5, td6, Option.bind, List.map, List.length, List.not_mem_nil, List.nodup_cons, List.nodup_nil, List.nil_append, List.append_nil, ↓reduceIte, Nat.reduceAdd, Nat.reduceEqDiff, Nat.zero_add, not_false_eq_true, id_eq, reduceCtorEq, and_self, tyO, curA, tyRo, tyR, bytD, tyk, tya, Try.results86]
  by_cases v1 : v = 1
  · simp only [mkC, eC, eCs, aftS, aftV, AS.kb, rmBs, rmB, mkO, packRA, flatR, ePs, eP, bPs, bP, AS.kl, retA, List.headD_cons, eq_self, xRun, vE, vP, vBin, vBinT, isAg, isBo, isCutO, isB, bv, gN, isPick, isCall, AS.pt, AS.ev, kill, look, cav, avB, td0, td1, td2, td3, td4, td5, td6, Option.getD, List.map, List.foldr, List.append_nil, ↓reduceIte, Nat.reduceLT, Nat.reduceEqDiff, true_and, Bool.false_eq_true, reduceCtorEq, decide_true, decide_false, Nat.succ_ne_zero, curO, curA, curR, bytD, v0, eq_true v1]
    refine sw_drawn (.cons 0 true (.cons 1 true (.cons 2 false (.cons 3 false (.cons 4 false (.cons 5 true (.cons 6 false (.nil)))))))) (by kernel_rfl) fQX_panic (by kernel_rfl) (sw_run 200 _ _ _ ?_)
    simp only [eq_self, xRun, vP, vSub, vLoad, vFld, gN, isPick, isCall, AS.pt, AS.ev, look, td0, td1, td2, td3, td4, td5, td6, Option.getD, Option.isSome, List.getElem?_cons_zero, List.getElem?_cons_succ, ↓reduceIte, Nat.reduceLT, Nat.reduceEqDiff, Nat.zero_add, ne_eq, not_false_eq_true, true_and, Bool.false_eq_true, Nat.succ_ne_zero]
    refine sw_callD con_l3Int rfl (aAs_ok ?_) ?_ (sw_run 200 _ _ _ ?_)
    · simp only [aAs, List.map, List.append_nil]
    · simp only [okR]
    simp only [mkR, flatD, packA, retA, tysD, eq_self, xRun, vE, vP, vSub, vLoad, vFld, vRow, vStore, vApp, apP, apC, isCl, isCutO, xFill, appL, appR, gN, isPick, isCall, AS.pt, AS.ev, AS.setb, AS.mk', AS.owf, kill, look, setRowG, AV.cells, AV.whole, AV.one, cD, cDs, eatsOf, dpOf, td0, td1, td2, td3, td4, td5, td6, Option.bind, Option.getD, Option.map, Option.isSome, List.map, List.take, List.drop, List.length, List.getElem?_cons_zero, List.getElem?_cons_succ, List.set, List.foldr, List.all, List.replicate, List.mem_cons, List.not_mem_nil, List.nodup_cons, List.nodup_nil, List.nil_append, List.cons_append, List.append_nil, ↓reduceIte, Nat.reduceLT, Nat.reduceAdd, Nat.reduceLeDiff, Nat.reduceEqDiff, Nat.zero_add, Nat.zero_mul, Nat.one_mul, ne_eq, not_false_eq_true, true_and, or_false, or_true, Bool.and_true, Bool.false_eq_true, id_eq, and_self, Nat.succ_ne_zero, Nat.le_refl, tyC_eq, tyk, tya, tysC, List.length_nil]
    have hlen : t.args.length ≤ 14 := by
      obtain ⟨tk, ta⟩ := t
      simp only [tyC, szL, szD] at ht'
      show ta.length ≤ 14
      omega
    have hone : tysC [Ty.mk 1 []] = [D.int 1, D.rows 2 0 []] := rfl
    refine ⟨⟨fun o ho => by omega, by unfold maxLen; omega, by omega⟩, .inl rfl, (.mk t.kind (t.args ++ [.mk 1 []]), i2, h2), ⟨?_, hi2⟩, ?_⟩
    · obtain ⟨tk, ta⟩ := t
      simp only [tyC, szL, szD] at ht'
      simp only [tyk, tya, tyC, tysC_append, hone, szL, szD, szL_append, List.length_append, List.length_cons, List.length_nil]
      omega
    · simp only [xRetP, rRs, rOs, rC, rCs, eRs, eOs, eC, eCs, aD, xRes, rD, eq_self, AS.owf, look, td0, td1, td2, td3, td4, td5, td6, Option.bind, List.map, List.length, List.not_mem_nil, List.nodup_cons, List.nodup_nil, List.nil_append, List.append_nil, ↓reduceIte, Nat.reduceAdd, Nat.reduceEqDiff, Nat.zero_add, not_false_eq_true, id_eq, reduceCtorEq, and_self, tyO, curA, tyRo, tyR, bytD, tyk, tya, tysC_append, hone, List.length_append, Try.results86]
  by_cases v2 : v = 2
  · simp only [mkC, eC, eCs, aftS, aftV, AS.kb, rmBs, rmB, mkO, packRA, flatR, ePs, eP, bPs, bP, AS.kl, retA, List.headD_cons, eq_self, xRun, vE, vP, vBin, vBinT, isAg, isBo, isCutO, isB, bv, gN, isPick, isCall, AS.pt, AS.ev, kill, look, cav, avB, td0, td1, td2, td3, td4, td5, td6, Option.getD, List.map, List.foldr, List.append_nil, ↓reduceIte, Nat.reduceLT, Nat.reduceEqDiff, true_and, Bool.false_eq_true, reduceCtorEq, decide_true, decide_false, Nat.succ_ne_zero, curO, curA, curR, bytD, v0, v1, eq_true v2]
    refine sw_callXR (hB 6 (by decide) (by decide) i2 hi2 h2) rfl rfl rfl ?_ ?_ ?_ ?_
    · simp only [rC, rCs, AS.em, mPs, mP, aA, aD, rD, eq_self, AS.ev, look, cav, td0, td1, td2, td3, td4, td5, td6, Option.getD, List.map, List.append_nil, ↓reduceIte, and_self, curA, bytD]
    · simp only [eC, eCs, ePs, eP, eq_self, AS.ev, look, cav, td0, td1, td2, td3, td4, td5, td6, Option.getD, List.map, List.nodup_nil, List.append_nil, ↓reduceIte, curA, bytD]
    · simp only [bPs, bP, eq_self, AS.ev, look, cav, td0, td1, td2, td3, td4, td5, td6, Option.getD, List.map, List.not_mem_nil, List.nodup_cons, List.nodup_nil, List.append_nil, ↓reduceIte, not_false_eq_true, and_self, curA, bytD]
    rintro ⟨n, i3, h3⟩ ⟨hn, hi3⟩
    simp only at hn hi3
    have hin : inI (1 + n) := by unfold inI; omega
    refine sw_run 200 _ _ _ ?_
    simp only [mkC, eC, eCs, aftS, aftV, AS.kb, rmBs, rmB, mkO, packRA, flatR, ePs, eP, bPs, bP, AS.kl, retA, List.headD_cons, eq_self, xRun, vE, vP, vBin, vBinT, isAg, isBo, isCutO, gN, isPick, isCall, AS.pt, AS.ev, kill, look, cav, avB, td0, td1, td2, td3, td4, td5, td6, Option.getD, List.map, List.foldr, List.append_nil, ↓reduceIte, Nat.reduceLT, true_and, Bool.false_eq_true, Nat.succ_ne_zero, curO, curA, curR, bytD, hin]
    refine sw_loop (fun x : Ty × Nat => szL (tyC x.1) ≤ 14 + x.2 ∧ x.2 ≤ 6 ∧ (x.2 : Int) ≤ 1 + n) (fun x => ⟨46, [(5, .i x.2), (4, .i (1 + n)), (3, .bx 3 0), (2, .bx 1 0), (0, .bx 0 0)], [(0, [.br (.rows 1 zs.length (zs.map D.byt)), .i i3, .i h3]), (1, [.i 0, .nl 2]), (3, [.i x.1.kind, .sl 2])], [(2, some ⟨.rows 2 x.1.args.length (tysC x.1.args), some 45, true⟩)], 4, [0]⟩) (fun x => 7 - x.2) (t, 0) id ?_ ?_ ?_
    · exact ⟨by simp only; omega, by simp only; omega, by simp only; omega⟩
    · simp only [Sub, subT, subB, subO, subP, inj, AV.ren, AV.rens, AV.lt, AV.lts, eq_self, AS.owf, look, td0, td1, td2, td3, td4, td5, td6, Option.bind, List.map, List.mem_cons, List.not_mem_nil, List.nodup_cons, List.nodup_nil, ↓reduceIte, Nat.reduceLT, Nat.reduceEqDiff, not_false_eq_true, or_false, id_eq, reduceCtorEq, Int.natCast_zero, and_self, Nat.succ_ne_zero, Int.natCast_zero]
    · rintro ⟨u, k⟩ hI
      simp only at hI
      refine sw_run 200 _ _ _ ?_
      by_cases hlt : (k : Int) < 1 + n
      · have hin2 : inI ((k : Int) + 1) := by unfold inI; omega
        simp only [eq_self, xRun, vE, vP, vSub, vLoad, vBin, vBinT, isAg, isBo, isCutO, isB, bv, gN, isPick, isCall, AS.pt, AS.ev, look, td0, td1, td2, td3, td4, td5, td6, Option.getD, List.take, List.drop, List.length, ↓reduceIte, Nat.reduceLT, Nat.reduceAdd, Nat.reduceEqDiff, Nat.zero_add, true_and, Bool.false_eq_true, decide_true, Nat.succ_ne_zero, Nat.le_refl, hlt]
        refine sw_callP (con_l3CodeA u (by omega)) rfl rfl rfl rfl ?_ ?_ ?_ (sw_run 200 _ _ _ ?_)
        · simp only [AS.kb, rmBs, mPs, mP, ePs, eP, bPs, bP, aA, aDs, aD, AS.kl, tysD, eq_self, AS.ev, AS.owf, kill, look, td0, td1, td2, td3, td4, td5, td6, Option.bind, Option.getD, List.map, List.foldr, List.append_nil, ↓reduceIte, id_eq, and_self, tyC_eq]
        · simp only [ePs, eP, tysD, eq_self, AS.ev, look, td0, td1, td2, td3, td4, td5, td6, Option.getD, List.map, List.nodup_nil, List.append_nil, ↓reduceIte, tyC_eq]
        · simp only [bPs, bP, tysD, eq_self, AS.ev, look, td0, td1, td2, td3, td4, td5, td6, Option.getD, List.map, List.nodup_nil, List.append_nil, ↓reduceIte, tyC_eq]
        simp only [mkC, aftS, aftV, AS.kb, rmBs, mkO, packRA, flatR, ePs, eP, bPs, bP, AS.kl, retA, qLp, eq_self, xRun, vE, vP, vBin, vBinT, isAg, isBo, vStore, isCutO, gN, isPick, isCall, AS.pt, AS.ev, AS.setb, AS.mk', kill, look, cav, setRowG, AV.cells, AV.whole, AV.one, td0, td1, td2, td3, td4, td5, td6, Option.getD, List.map, List.take, List.length, List.set, List.foldr, List.all, List.append_nil, ↓reduceIte, Nat.reduceLT, Nat.reduceAdd, Nat.reduceEqDiff, Nat.zero_add, true_and, Bool.and_true, Bool.false_eq_true, and_self, Nat.succ_ne_zero, Nat.le_refl, tyA, tyk, tya, hin2, qLp]
        refine ⟨(.mk 4 [u], k + 1), rnL [(0, 0), (1, 1), (2, 4), (3, 3)], ⟨by rw [sz_one]; omega, by simp only; omega, by simp only; omega⟩, by simp only; omega, ?_⟩
        simp only [Sub, subT, subB, subO, subP, inj, AV.ren, AV.rens, AV.lt, AV.lts, eq_self, AS.owf, look, td0, td1, td2, td3, td4, td5, td6, Option.bind, Option.getD, List.map, List.length, List.mem_cons, List.not_mem_nil, List.nodup_cons, List.nodup_nil, ↓reduceIte, Nat.reduceLT, Nat.reduceEqDiff, Nat.zero_add, not_false_eq_true, or_false, id_eq, reduceCtorEq, and_self, Nat.succ_ne_zero, rnL, cast1, tyk, tya]
      · simp only [qLp, eq_self, xRun, vE, vP, vBin, vBinT, isAg, isBo, isCutO, isB, bv, gN, isPick, isCall, popTo, AS.pt, AS.ev, look, td0, td1, td2, td3, td4, td5, td6, Option.getD, Option.isSome, ↓reduceIte, Nat.reduceLT, Nat.reduceEqDiff, true_and, Bool.false_eq_true, decide_false, hlt]
        refine sw_run 200 _ _ _ ?_
        simp only [eq_self, xRun, vE, vP, vSub, vLoad, vStore, isCutO, gN, isPick, isCall, AS.pt, AS.ev, AS.setb, look, setRowG, AV.cells, AV.whole, AV.one, td0, td1, td2, td3, td4, td5, td6, Option.getD, List.take, List.drop, List.length, List.set, List.all, ↓reduceIte, Nat.reduceLT, Nat.reduceAdd, Nat.reduceEqDiff, Nat.zero_add, true_and, Bool.and_true, Bool.false_eq_true, and_self, Nat.succ_ne_zero, Nat.le_refl]
        refine ⟨.inl rfl, (u, i3, h3), ⟨by simp only; omega, hi3⟩, ?_⟩
        simp only [xRetP, rRs, rOs, rC, rCs, eRs, eOs, eC, eCs, aD, xRes, rD, eq_self, AS.owf, look, td0, td1, td2, td3, td4, td5, td6, Option.bind, List.map, List.length, List.not_mem_nil, List.nodup_cons, List.nodup_nil, List.nil_append, List.append_nil, ↓reduceIte, Nat.reduceAdd, Nat.reduceEqDiff, Nat.zero_add, not_false_eq_true, id_eq, reduceCtorEq, and_self, tyO, curA, tyRo, tyR, bytD, Try.results86]
  by_cases v3 : v = 3
  · simp only [mkC, eC, eCs, aftS, aftV, AS.kb, rmBs, rmB, mkO, packRA, flatR, ePs, eP, bPs, bP, AS.kl, retA, List.headD_cons, eq_self, xRun, vE, vP, vBin, vBinT, isAg, isBo, isCutO, isB, bv, gN, isPick, isCall, AS.pt, AS.ev, kill, look, cav, avB, td0, td1, td2, td3, td4, td5, td6, Option.getD, List.map, List.foldr, List.append_nil, ↓reduceIte, Nat.reduceLT, Nat.reduceEqDiff, true_and, Bool.false_eq_true, reduceCtorEq, decide_true, decide_false, Nat.succ_ne_zero, curO, curA, curR, bytD, v0, v1, v2, eq_true v3]
    refine sw_loop (fun x : Ty × Nat => szL (tyC x.1) + 2 ≤ 16 * 2 ^ x.2 ∧ x.2 ≤ 3) (fun x => ⟨46, [(6, .i x.2), (3, .bx 3 0), (2, .bx 1 0), (0, .bx 0 0)], [(0, [.br (.rows 1 zs.length (zs.map D.byt)), .i i2, .i h2]), (1, [.i 0, .nl 2]), (3, [.i x.1.kind, .sl 2])], [(2, some ⟨.rows 2 x.1.args.length (tysC x.1.args), some 45, true⟩)], 4, [0]⟩) (fun x => 4 - x.2) (t, 0) id ?_ ?_ ?_
    · exact ⟨by simp only; omega, by simp only; omega⟩
    · simp only [Sub, subT, subB, subO, subP, inj, AV.ren, AV.rens, AV.lt, AV.lts, eq_self, AS.owf, look, td0, td1, td2, td3, td4, td5, td6, Option.bind, List.map, List.mem_cons, List.not_mem_nil, List.nodup_cons, List.nodup_nil, ↓reduceIte, Nat.reduceLT, Nat.reduceEqDiff, not_false_eq_true, or_false, id_eq, reduceCtorEq, Int.natCast_zero, and_self, Nat.succ_ne_zero, Int.natCast_zero]
    · rintro ⟨u, k⟩ hI
      simp only at hI
      refine sw_run 200 _ _ _ ?_
      by_cases hlt : (k : Int) < 3
      · have hin2 : inI ((k : Int) + 1) := by unfold inI; omega
        have hp : 2 ^ k ≤ 8 := Nat.le_trans (Nat.pow_le_pow_right (by decide) (show k ≤ 3 by omega)) (by decide)
        simp only [eq_self, xRun, vE, vP, vSub, vLoad, vBin, vBinT, isAg, isBo, isCutO, isB, bv, gN, isPick, isCall, AS.pt, AS.ev, look, cav, td0, td1, td2, td3, td4, td5, td6, Option.getD, List.take, List.drop, List.length, ↓reduceIte, Nat.reduceLT, Nat.reduceAdd, Nat.reduceEqDiff, Nat.zero_add, true_and, Bool.false_eq_true, decide_true, Nat.succ_ne_zero, Nat.le_refl, hlt]
        refine sw_callP (con_l3FunA u u (by omega) (by omega)) rfl rfl rfl rfl ?_ ?_ ?_ (sw_run 200 _ _ _ ?_)
        · simp only [AS.kb, rmBs, mPs, mP, ePs, eP, bPs, bP, aA, aDs, aD, AS.kl, tysD, eq_self, AS.ev, AS.owf, kill, look, td0, td1, td2, td3, td4, td5, td6, Option.bind, Option.getD, List.map, List.foldr, List.append_nil, ↓reduceIte, Nat.reduceEqDiff, id_eq, and_self, tyC_eq]
        · simp only [ePs, eP, tysD, eq_self, AS.ev, look, td0, td1, td2, td3, td4, td5, td6, Option.getD, List.map, List.nodup_nil, List.append_nil, ↓reduceIte, Nat.reduceEqDiff, tyC_eq]
        · simp only [bPs, bP, tysD, eq_self, AS.ev, look, td0, td1, td2, td3, td4, td5, td6, Option.getD, List.map, List.nodup_nil, List.append_nil, ↓reduceIte, Nat.reduceEqDiff, tyC_eq]
        simp only [mkC, aftS, aftV, AS.kb, rmBs, mkO, packRA, flatR, ePs, eP, bPs, bP, AS.kl, retA, qLp, eq_self, xRun, vE, vP, vBin, vBinT, isAg, isBo, vStore, isCutO, gN, isPick, isCall, AS.pt, AS.ev, AS.setb, AS.mk', kill, look, cav, setRowG, AV.cells, AV.whole, AV.one, td0, td1, td2, td3, td4, td5, td6, Option.getD, List.map, List.take, List.length, List.set, List.foldr, List.all, List.append_nil, ↓reduceIte, Nat.reduceLT, Nat.reduceAdd, Nat.reduceEqDiff, Nat.zero_add, true_and, Bool.and_true, Bool.false_eq_true, and_self, Nat.succ_ne_zero, Nat.le_refl, tyA, tyk, tya, hin2, qLp]
        refine ⟨(.mk 3 [u, u], k + 1), rnL [(0, 0), (1, 1), (2, 4), (3, 3)], ⟨by rw [sz_two, Nat.pow_succ]; omega, by simp only; omega⟩, by simp only; omega, ?_⟩
        simp only [Sub, subT, subB, subO, subP, inj, AV.ren, AV.rens, AV.lt, AV.lts, eq_self, AS.owf, look, td0, td1, td2, td3, td4, td5, td6, Option.bind, Option.getD, List.map, List.length, List.mem_cons, List.not_mem_nil, List.nodup_cons, List.nodup_nil, ↓reduceIte, Nat.reduceLT, Nat.reduceAdd, Nat.reduceEqDiff, Nat.zero_add, not_false_eq_true, or_false, id_eq, reduceCtorEq, and_self, Nat.succ_ne_zero, rnL, cast1, tyk, tya]
      · have hp : 2 ^ k ≤ 8 := Nat.le_trans (Nat.pow_le_pow_right (by decide) (show k ≤ 3 by omega)) (by decide)
        simp only [qLp, eq_self, xRun, vE, vP, vBin, vBinT, isAg, isBo, isCutO, isB, bv, gN, isPick, isCall, popTo, AS.pt, AS.ev, look, cav, td0, td1, td2, td3, td4, td5, td6, Option.getD, Option.isSome, ↓reduceIte, Nat.reduceLT, true_and, Bool.false_eq_true, decide_false, hlt]
        refine sw_run 200 _ _ _ ?_
        simp only [eq_self, xRun, vE, vP, vSub, vLoad, vStore, isCutO, gN, isPick, isCall, AS.pt, AS.ev, AS.setb, look, setRowG, AV.cells, AV.whole, AV.one, td0, td1, td2, td3, td4, td5, td6, Option.getD, List.take, List.drop, List.length, List.set, List.all, ↓reduceIte, Nat.reduceLT, Nat.reduceAdd, Nat.reduceEqDiff, Nat.zero_add, true_and, Bool.and_true, Bool.false_eq_true, and_self, Nat.succ_ne_zero, Nat.le_refl]
        refine ⟨.inl rfl, (u, i2, h2), ⟨by simp only; omega, hi2⟩, ?_⟩
        simp only [xRetP, rRs, rOs, rC, rCs, eRs, eOs, eC, eCs, aD, xRes, rD, eq_self, AS.owf, look, td0, td1, td2, td3, td4, td5, td6, Option.bind, List.map, List.length, List.not_mem_nil, List.nodup_cons, List.nodup_nil, List.nil_append, List.append_nil, ↓reduceIte, Nat.reduceAdd, Nat.reduceEqDiff, Nat.zero_add, not_false_eq_true, id_eq, reduceCtorEq, and_self, tyO, curA, tyRo, tyR, bytD, Try.results86]
  · simp only [mkC, eC, eCs, aftS, aftV, AS.kb, rmBs, rmB, mkO, packRA, flatR, ePs, eP, bPs, bP, AS.kl, retA, List.headD_cons, eq_self, xRun, vE, vP, vSub, vLoad, vBin, vBinT, isAg, isBo, vStore, isCutO, isB, bv, gN, isPick, isCall, AS.pt, AS.ev, AS.setb, kill, look, cav, avB, setRowG, AV.cells, AV.whole, AV.one, td0, td1, td2, td3, td4, td5, td6, Option.getD, List.map, List.take, List.drop, List.length, List.set, List.foldr, List.all, List.append_nil, ↓reduceIte, Nat.reduceLT, Nat.reduceAdd, Nat.reduceEqDiff, Nat.zero_add, true_and, Bool.and_true, Bool.false_eq_true, reduceCtorEq, decide_false, and_self, Nat.succ_ne_zero, Nat.le_refl, curO, curA, curR, bytD, v0, v1, v2, v3]
    refine ⟨.inl rfl, (t, i2, h2), ⟨Nat.le_trans ht' (by decide), hi2⟩, ?_⟩
    simp only [xRetP, rRs, rOs, rC, rCs, eRs, eOs, eC, eCs, aD, xRes, rD, eq_self, AS.owf, look, td0, td1, td2, td3, td4, td5, td6, Option.bind, List.map, List.length, List.not_mem_nil, List.nodup_cons, List.nodup_nil, List.nil_append, List.append_nil, ↓reduceIte, Nat.reduceAdd, Nat.reduceEqDiff, Nat.zero_add, not_false_eq_true, id_eq, reduceCtorEq, and_self, tyO, curA, tyRo, tyR, bytD, Try.results86]
/-- A type alone. -/
def tyI1 (m : Nat) (x : Ty) : Prop := szL (tyC x) ≤ m
theorem con_DrawFmt (zs : List Int) (hz : BytOk zs) : ConX Try.prog 32 [.b (.one (bytD zs))] (tyI1 200) (fun _ => []) (fun x : Ty => [tyR x]) := by
  refine con_runX Try.func32 rfl rfl (by simp [Try.ntmps32]) (fun _ _ => rfl) ?_
  simp only [s0P, mkPs, mkPA, argA, numT, eq_self, xRun, vE, vP, isCutO, gN, isPick, isCall, AS.pt, AS.ev, AS.box, look, avB, td0, td1, td2, td3, td4, td5, td6, Option.getD, Option.isSome, ↓reduceIte, Nat.reduceLT, Nat.zero_add, true_and, Bool.false_eq_true, reduceCtorEq, bytD, Try.ntmps32]
  refine sw_callN con_New rfl rfl hz.1 hz.2 fun h => sw_run 200 _ _ _ ?_
  simp only [eq_self, xRun, gN, isPick, isCall, AS.pt, AS.box, td0, td1, td2, td3, td4, td5, td6, ↓reduceIte, Nat.reduceLT, Nat.reduceAdd, Bool.false_eq_true, bytD]
  refine sw_callXR (con_l3Bent zs hz 0 (Nat.zero_le _) h) rfl rfl rfl ?_ ?_ ?_ ?_
  · simp only [rC, rCs, AS.em, mPs, mP, aD, rD, eq_self, AS.ev, look, td0, td1, td2, td3, td4, td5, td6, Option.getD, List.map, List.append_nil, ↓reduceIte, Int.natCast_zero, and_self, curA, bytD]
  · simp only [eC, eCs, ePs, eP, eq_self, AS.ev, look, td0, td1, td2, td3, td4, td5, td6, Option.getD, List.map, List.nodup_nil, List.append_nil, ↓reduceIte, Int.natCast_zero, curA, bytD]
  · simp only [bPs, bP, eq_self, AS.ev, look, td0, td1, td2, td3, td4, td5, td6, Option.getD, List.map, List.not_mem_nil, List.nodup_cons, List.nodup_nil, List.append_nil, ↓reduceIte, not_false_eq_true, Int.natCast_zero, and_self, curA, bytD]
  rintro ⟨t, i1, h1⟩ ⟨ht, hi1⟩
  simp only at ht hi1
  refine sw_run 200 _ _ _ ?_
  simp only [mkC, eC, eCs, aftS, aftV, AS.kb, rmBs, rmB, mkO, packRA, flatR, ePs, eP, bPs, bP, AS.kl, retA, eq_self, xRun, vE, vStore, isCutO, gN, isPick, isCall, AS.pt, AS.ev, AS.setb, AS.mk', kill, look, avB, setRowG, AV.cells, AV.whole, AV.one, td0, td1, td2, td3, td4, td5, td6, Option.getD, List.map, List.take, List.length, List.set, List.foldr, List.all, List.append_nil, ↓reduceIte, Nat.reduceLT, Nat.reduceAdd, Nat.reduceEqDiff, Nat.zero_add, true_and, Bool.and_true, Bool.false_eq_true, reduceCtorEq, Int.natCast_zero, and_self, Nat.le_refl, tyO, curA, tyRo, tyR, bytD]
  refine ⟨.inl rfl, t, ht, ?_⟩
  simp only [xRetP, rRs, rOs, rC, rCs, eRs, eOs, eC, eCs, xRes, rD, eq_self, AS.owf, look, td0, td1, td2, td3, td4, td5, td6, Option.bind, List.map, List.length, List.not_mem_nil, List.nodup_cons, List.nodup_nil, List.nil_append, List.append_nil, ↓reduceIte, Nat.reduceAdd, Nat.reduceEqDiff, Nat.zero_add, not_false_eq_true, id_eq, and_self, Try.results32]
end Go.Proofs.Ytepjbiffebbelaa
