/-
  Drawn texts that are turned a little.
-/
import Derived.Test.YtepjbiffebbelaaDrt
import Derived.Test.YtepjbiffebbelaaDpk
import Derived.Test.YtepjbiffebbelaaPtc
namespace Go.Proofs.Ytepjbiffebbelaa
open Go.RowKit
set_option linter.unusedVariables false
set_option linter.unusedSimpArgs false
set_option maxRecDepth 20000
def pickTy : List ByteArray := [⟨#[40]⟩, ⟨#[41]⟩, ⟨#[60]⟩, ⟨#[62]⟩, ⟨#[73]⟩, ⟨#[66]⟩]
def tuI1 (m : Nat) (x : ByteArray) : Prop := x.size ≤ m
theorem con_DrawPt (zs : List Int) (hz : BytOk zs) : ConX Try.prog 38 [.b (.one (bytD zs))] (tuI1 200) (fun _ => []) (fun x : ByteArray => [.one (.o (.str x))]) := by
  refine con_runX Try.func38 rfl rfl (by simp [Try.ntmps38]) (fun _ _ => rfl) ?_
  simp only [s0P, mkPs, mkPA, argA, numT, eq_self, xRun, vE, vP, isCutO, gN, isPick, isCall, AS.pt, AS.ev, look, cav, avB, td0, td1, td2, td3, td4, td5, td6, Option.getD, ↓reduceIte, Nat.reduceLT, true_and, Bool.false_eq_true, reduceCtorEq, bytD, Try.ntmps38]
  refine sw_callN con_New rfl rfl hz.1 hz.2 fun h => sw_run 200 _ _ _ ?_
  simp only [eq_self, xRun, vE, vP, isCutO, gN, isPick, isCall, AS.pt, AS.ev, AS.box, look, td0, td1, td2, td3, td4, td5, td6, Option.getD, ↓reduceIte, Nat.reduceLT, Nat.reduceEqDiff, Nat.zero_add, true_and, Bool.false_eq_true, bytD]
  refine sw_callXR (con_l3Bent zs hz 0 (Nat.zero_le _) h) rfl rfl rfl ?_ ?_ ?_ ?_
  · simp only [rC, rCs, AS.em, mPs, mP, aD, rD, eq_self, AS.ev, look, td0, td1, td2, td3, td4, td5, td6, Option.getD, List.map, List.append_nil, ↓reduceIte, Int.natCast_zero, and_self, curA, bytD]
  · simp only [eC, eCs, ePs, eP, eq_self, AS.ev, look, td0, td1, td2, td3, td4, td5, td6, Option.getD, List.map, List.nodup_nil, List.append_nil, ↓reduceIte, Int.natCast_zero, curA, bytD]
  · simp only [bPs, bP, eq_self, AS.ev, look, td0, td1, td2, td3, td4, td5, td6, Option.getD, List.map, List.not_mem_nil, List.nodup_cons, List.nodup_nil, List.append_nil, ↓reduceIte, not_false_eq_true, Int.natCast_zero, and_self, curA, bytD]
  rintro ⟨t, i1, h1⟩ ⟨ht, hi1⟩
  simp only at ht hi1
  refine sw_run 200 _ _ _ ?_
  simp only [mkC, eC, eCs, aftS, aftV, AS.kb, rmBs, rmB, mkO, packRA, flatR, ePs, eP, bPs, bP, AS.kl, retA, eq_self, xRun, gN, isPick, isCall, AS.pt, AS.ev, AS.mk', kill, look, avB, td0, td1, td2, td3, td4, td5, td6, Option.getD, List.map, List.take, List.length, List.foldr, List.append_nil, ↓reduceIte, Nat.reduceLT, Nat.reduceAdd, Nat.zero_add, Bool.false_eq_true, Int.natCast_zero, tyO, curA, tyRo, tyR, bytD]
  refine sw_call (con_FormatS t (by omega)) rfl (aAs_ok ?_) ?_ (sw_run 200 _ _ _ ?_)
  · simp only [aAs, aA, aDs, aD, tysD, AS.ev, AS.owf, look, Option.bind, Option.getD, id_eq, List.map, List.append_nil, ↓reduceIte, eq_self, and_self, tyC_eq]
  · simp only [okR]
  have hl := fmT_len t
  have hbz : (bs (fmT t)).size = (fmT t).length := bs_size _
  have hT := con_Turned zs hz (bs (fmT t)) (by omega) pickTy (by decide) (by decide) (by decide +kernel) i1 hi1 h1
  generalize bs (fmT t) = y at *
  simp only [mkR, flatD, packA, retA, List.headD_cons, eq_self, xRun, vE, vRow, isCutO, xFill, gN, isPick, isCall, AS.pt, AS.ev, AS.mk', kill, cav, setRowG, AV.cells, AV.whole, AV.one, cD, cDs, eatsOf, dpOf, td0, td1, td2, td3, td4, td5, td6, Option.getD, Option.isSome, List.map, List.length, List.set, List.foldr, List.all, List.replicate, List.nodup_nil, ↓reduceIte, Nat.reduceLT, Nat.reduceAdd, Nat.reduceLeDiff, Nat.zero_add, Nat.mul_one, true_and, or_true, Bool.and_true, Bool.false_eq_true, and_self, Nat.succ_ne_zero, Nat.le_refl]
  refine sw_fzE 2 rfl ?_
  refine sw_callXR (hT) rfl rfl rfl ?_ ?_ ?_ ?_
  · simp only [rC, rCs, AS.em, AS.fz, fzT, fzB, AV.fz, AV.fzs, mPs, mP, aA, aD, strsD, rD, eq_self, AS.ev, look, td0, td1, td2, td3, td4, td5, td6, Option.getD, List.map, List.length, List.append_nil, ↓reduceIte, Nat.reduceAdd, Nat.reduceEqDiff, Nat.zero_add, and_self, curA, bytD, strsD, pickTy]
  · simp only [eC, eCs, AS.fz, fzT, fzB, AV.fz, AV.fzs, ePs, eP, strsD, eq_self, AS.ev, look, td0, td1, td2, td3, td4, td5, td6, Option.getD, List.map, List.length, List.nodup_nil, List.append_nil, ↓reduceIte, Nat.reduceAdd, Nat.reduceEqDiff, Nat.zero_add, curA, bytD, strsD, pickTy]
  · simp only [AS.fz, fzT, fzB, AV.fz, AV.fzs, bPs, bP, strsD, eq_self, AS.ev, look, td0, td1, td2, td3, td4, td5, td6, Option.getD, List.map, List.length, List.not_mem_nil, List.nodup_cons, List.nodup_nil, List.append_nil, ↓reduceIte, Nat.reduceAdd, Nat.reduceEqDiff, Nat.zero_add, not_false_eq_true, and_self, curA, bytD, strsD, pickTy]
  rintro ⟨z, i2, h2⟩ ⟨hz2, hi2⟩
  simp only at hz2 hi2
  refine sw_run 200 _ _ _ ?_
  simp only [mkC, eC, eCs, AS.fz, fzT, fzB, AV.fz, AV.fzs, aftS, aftV, AS.kb, rmBs, rmB, mkO, packRA, flatR, ePs, eP, bPs, bP, AS.kl, retA, List.headD_cons, strsD, eq_self, xRun, vE, vP, isCutO, gN, isPick, isCall, AS.pt, AS.ev, kill, look, avB, td0, td1, td2, td3, td4, td5, td6, Option.getD, List.map, List.foldr, List.append_nil, ↓reduceIte, Nat.reduceLT, Nat.reduceEqDiff, true_and, Bool.false_eq_true, txO, curA, txR, bytD]
  refine ⟨.inl rfl, z, ?_, ?_⟩
  · exact Nat.le_trans hz2 (by omega)
  · simp only [xRetP, rRs, rOs, rC, eRs, eOs, eC, xRes, rD, eq_self, look, td0, td1, td2, td3, td4, td5, td6, List.map, List.nodup_nil, List.append_nil, ↓reduceIte, and_self, Try.results38]
end Go.Proofs.Ytepjbiffebbelaa
