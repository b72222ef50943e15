/-
  What draws from bytes: the cursor, numbers, picks.
-/
import Derived.Test.YtfbjdeeomjfhkaaGreatDoorCox
import Derived.Test.YtfbjdeeomjfhkaaGreatDoorDat
import Derived.Test.YtfbjdeeomjfhkaaGreatDoorTd
namespace Go.Proofs.YtfbjdeeomjfhkaaGreatDoor
open Go.RowKit
set_option linter.unusedVariables false
set_option linter.unusedSimpArgs false
set_option maxRecDepth 20000
theorem andI_rng (x : Int) (m : Nat) (hm : m < 2 ^ 62) : 0 ≤ andI x (m : Int) ∧ andI x (m : Int) ≤ m := by
  unfold andI
  have h1 : (BitVec.ofInt IntKind.i64.bits x &&& BitVec.ofInt IntKind.i64.bits (m : Int)).toNat ≤ m := by
    rw [BitVec.toNat_and]
    refine Nat.le_trans Nat.and_le_right ?_
    rw [BitVec.toNat_ofInt]
    have : (m : Int) % ((2 ^ IntKind.i64.bits : Nat) : Int) = m := Int.emod_eq_of_lt (by omega) (by
      have : IntKind.i64.bits = 64 := rfl
      rw [this]; omega)
    rw [this]; omega
  have h2 : inI ((BitVec.ofInt IntKind.i64.bits x &&& BitVec.ofInt IntKind.i64.bits (m : Int)).toNat : Int) := by unfold inI; omega
  rw [wrap_in h2]
  omega
theorem byt_row (zs : List Int) (k : Nat) (h : k < zs.length) : rowAt 1 (zs.map D.byt) k = [.byt zs[k]!] := by
  unfold rowAt
  rw [Nat.mul_one, List.drop_eq_getElem_cons (by simpa using h), List.take_succ_cons, List.take_zero, getElem!_pos zs k h]
  simp
/-- A cursor. -/
def curA (zs : List Int) (i : Nat) (h : Int) : List CD := [.r (bytD zs), .o (.int i), .o (.int h)]
theorem con_New : NewC Tryz.prog 27 := by
  refine new_of (t := 2) Tryz.func27 rfl rfl (by simp [Tryz.ntmps27]) rfl fun zs hl hz => XW_of_SW (sw_run 200 _ _ _ ?_)
  have hi0 : inI (26583 + (zs.length : Int)) := by unfold inI; omega
  simp only [eq_self, xRun, vE, vP, vBin, vBinT, isAg, isBo, vLen, isCutO, gN, isPick, isCall, AS.pt, AS.ev, AS.rd, look, cav, td0, td1, td2, td3, td4, td5, td6, Option.getD, ↓reduceIte, Nat.reduceLT, true_and, Bool.false_eq_true, reduceCtorEq, bytD, hi0, Tryz.ntmps27]
  refine sw_loop (fun x : Nat × Int => x.1 ≤ zs.length ∧ 0 ≤ x.2 ∧ x.2 ≤ 2000000000) (fun x => ⟨32, [(4, .i x.1), (3, .i x.2), (0, .br (.rows 1 zs.length (zs.map D.byt)))], [], [], 0, []⟩) (fun x => zs.length - x.1) (0, 26583 + (zs.length : Int)) id ⟨Nat.zero_le _, by omega, by omega⟩ ?_ ?_
  · simp only [Sub, subT, subB, subO, subP, inj, AV.ren, AV.lt, eq_self, look, td0, td1, td2, td3, td4, td5, td6, List.map, List.nodup_nil, ↓reduceIte, Nat.reduceEqDiff, reduceCtorEq, Int.natCast_zero, and_self, Int.natCast_zero]
  rintro ⟨k, h⟩ ⟨hk, hh1, hh2⟩
  simp only at hk hh1 hh2
  refine sw_run 200 _ _ _ ?_
  by_cases hlt : k < zs.length
  case neg =>
    have hi : ¬ (k : Int) < (zs.length : Int) := by omega
    simp only [qLp, eq_self, xRun, vE, vP, vBin, vBinT, isAg, isBo, vLen, isCutO, isB, bv, gT, gW, gN, gV, isU, isPick, pkC, pkB, isCall, popTo, AS.pt, AS.kn, AS.ev, AS.rd, look, cav, td0, td1, td2, td3, td4, td5, td6, Option.bind, Option.getD, Option.isSome, List.getElem?_cons_zero, List.getElem?_cons_succ, ↓reduceIte, Nat.reduceLT, Nat.reduceEqDiff, true_and, Bool.not_true, Bool.false_eq_true, reduceCtorEq, decide_false, and_self, hi]
    refine sw_run 200 _ _ _ ?_
    simp only [eq_self, xRun, vE, vP, vBuild, isCutO, xFill, gN, isPick, isCall, AS.pt, AS.ev, AS.box, look, setRowG, AV.cells, AV.whole, AV.one, td0, td1, td2, td3, td4, td5, td6, Option.getD, Option.isSome, List.map, List.length, List.getElem?_cons_zero, List.getElem?_cons_succ, List.set, List.all, ↓reduceIte, Nat.reduceLT, Nat.reduceAdd, Nat.reduceLeDiff, Nat.reduceEqDiff, Nat.zero_add, true_and, or_false, Bool.and_true, Bool.false_eq_true, reduceCtorEq, and_self, Nat.le_refl]
    exact ⟨0, h, rfl, rfl⟩
  have hi : (k : Int) < (zs.length : Int) := by omega
  by_cases h4 : (k : Int) < 4000
  case neg =>
    simp only [qLp, eq_self, xRun, vE, vP, vBin, vBinT, isAg, isBo, vLen, isCutO, isB, bv, gT, gW, gN, gV, isU, isPick, pkC, pkA, isCall, popTo, AS.pt, AS.kn, AS.ev, AS.rd, look, cav, td0, td1, td2, td3, td4, td5, td6, Option.bind, Option.getD, Option.isSome, List.getElem?_cons_zero, List.getElem?_cons_succ, ↓reduceIte, Nat.reduceLT, Nat.reduceEqDiff, true_and, Bool.false_eq_true, reduceCtorEq, decide_true, decide_false, and_self, eq_true hi, h4]
    refine sw_run 200 _ _ _ ?_
    simp only [eq_self, xRun, vE, vP, vBuild, isCutO, xFill, gN, isPick, isCall, AS.pt, AS.ev, AS.box, look, setRowG, AV.cells, AV.whole, AV.one, td0, td1, td2, td3, td4, td5, td6, Option.getD, Option.isSome, List.map, List.length, List.getElem?_cons_zero, List.getElem?_cons_succ, List.set, List.all, ↓reduceIte, Nat.reduceLT, Nat.reduceAdd, Nat.reduceLeDiff, Nat.reduceEqDiff, Nat.zero_add, true_and, or_false, Bool.and_true, Bool.false_eq_true, reduceCtorEq, and_self, Nat.le_refl]
    exact ⟨0, h, rfl, rfl⟩
  have hR := byt_row zs k hlt
  have hb := hz zs[k]! (mem_bang hlt)
  generalize zs[k]! = z at *
  have i1 : inI (h * 131) := by unfold inI; omega
  have i2 : inI (h * 131 + z) := by unfold inI; omega
  have i3 : inI (h * 131 + z + 7) := by unfold inI; omega
  have i4 : inI z := by unfold inI; omega
  have i5 : inI ((k : Int) + 1) := by unfold inI; omega
  have hr := andI_rng (h * 131 + z + 7) 1073741823 (by decide)
  rw [show ((1073741823 : Nat) : Int) = 1073741823 from rfl] at hr
  simp only [qLp, rowD, eq_self, xRun, vE, vP, vSub, vLoad, vIdx, vBin, vBinT, isAg, isBo, vLen, vCnv, isCutO, isB, bv, gT, gW, gN, gV, isU, isPick, pkC, pkA, isCall, AS.pt, AS.kn, AS.ev, AS.rd, look, cav, avB, td0, td1, td2, td3, td4, td5, td6, Option.bind, Option.getD, Option.isSome, List.map, List.getElem?_cons_zero, List.getElem?_cons_succ, ↓reduceIte, Nat.reduceLT, Nat.reduceEqDiff, true_and, and_true, Bool.false_eq_true, reduceCtorEq, Int.toNat_natCast, Int.natCast_nonneg, decide_true, and_self, eq_true hi, eq_true h4, hR, i1, i2, i3, i4, i5]
  generalize andI (h * 131 + z + 7) 1073741823 = h' at *
  refine ⟨by kernel_rfl, (k + 1, h'), id, ⟨by simp only; omega, by simp only; omega, by simp only; omega⟩, by simp only; omega, ?_⟩
  simp only [Sub, subT, subB, subO, subP, inj, AV.ren, AV.lt, eq_self, look, td0, td1, td2, td3, td4, td5, td6, List.map, List.nodup_nil, ↓reduceIte, Nat.reduceEqDiff, reduceCtorEq, and_self, cast1]
def CurI (zs : List Int) (m : Int) (x : Int × Nat × Int) : Prop := (0 ≤ x.1 ∧ x.1 ≤ m) ∧ x.2.1 ≤ zs.length
def curO (zs : List Int) (x : Int × Nat × Int) : List (List CD) := [curA zs x.2.1 x.2.2]
def curR (x : Int × Nat × Int) : List RD := [.one (.o (.int x.1))]
/-- The bytes are such, and not too many. -/
def BytOk (zs : List Int) : Prop := zs.length ≤ 1000000000 ∧ ∀ n ∈ zs, 0 ≤ n ∧ n < 256
theorem con_Byte (zs : List Int) (hz : BytOk zs) (i : Nat) (hi : i ≤ zs.length) (h : Int) : ConX Tryz.prog 57 [.p (curA zs i h)] (CurI zs 255) (curO zs) curR := by
  obtain ⟨hl, hzs⟩ := hz
  refine con_ofX' Tryz.func57 rfl rfl (by simp [Tryz.ntmps57]) (fun _ _ => rfl) (sw_stop1 (sw_run 200 _ _ _ ?_))
  simp only [s0P, mkPs, mkPA, mkC, numT, eq_self, xRun, vE, vP, isCutO, gN, isPick, isCall, AS.pt, AS.ev, AS.box, cav, avB, td0, td1, td2, td3, td4, td5, td6, List.nil_append, ↓reduceIte, Nat.reduceLT, Nat.zero_add, true_and, Bool.false_eq_true, curA, bytD, Tryz.ntmps57]
  refine sw_uncut (sw_stop1 (sw_head 5 _ _ _ ?_))
  simp only [xHead, true_and]
  refine sw_step 5 _ _ _ _ _ ?_
  simp only [eq_self, vE, vP, vSub, vLoad, vFld, gN, isPick, AS.pt, AS.ev, look, td0, td1, td2, td3, td4, td5, td6, Option.getD, Option.isSome, List.getElem?_cons_zero, List.getElem?_cons_succ, ↓reduceIte, Nat.reduceLT, Nat.zero_add, ne_eq, not_false_eq_true, true_and, reduceCtorEq, and_self, Nat.succ_ne_zero, xStep]
  refine sw_ex rfl (sw_wrap rfl rfl (.inr rfl) fun k1 => sw_ex rfl (sw_wrap rfl rfl (.inl rfl) fun k2 => sw_run 200 _ _ _ ?_))
  simp only [eq_self, xRun, vE, vP, vFld, vStore, isCutO, gN, isPick, isCall, AS.pt, AS.ev, AS.setb, look, setRowG, AV.cells, AV.whole, AV.one, td0, td1, td2, td3, td4, td5, td6, Option.getD, List.length, List.set, ↓reduceIte, Nat.reduceLT, Nat.reduceAdd, Nat.reduceEqDiff, Nat.zero_add, ne_eq, not_false_eq_true, true_and, Bool.false_eq_true, and_self, Nat.succ_ne_zero, Nat.le_refl]
  refine sw_uncut (sw_run 200 _ _ _ ?_)
  simp only [eq_self, xRun, td0, td1, td2, td3, td4, td5, td6, ↓reduceIte]
  have hx := andI_rng (xorI (k2.fdiv (2 ^ min 33 IntKind.i64.bits)) (k2.fdiv (2 ^ min 45 IntKind.i64.bits))) 255 (by decide)
  rw [show ((255 : Nat) : Int) = 255 from rfl] at hx
  refine sw_drawnK (⟨58, [(3, .i (andI (xorI (k2.fdiv (2 ^ min 33 IntKind.i64.bits)) (k2.fdiv (2 ^ min 45 IntKind.i64.bits))) 255)), (0, .bx 0 0)], [(0, [.br (.rows 1 zs.length (zs.map D.byt)), .i i, .i k2])], [], 1, [0]⟩) (.cons 0 true (.cons 5 true (.fork (.alt 1 (.cons 2 true (.cons 3 true (.cons 4 true (.cons 6 false (.cons 7 true (.cons 8 true (.cons 9 true (.cons 10 true (.cons 11 true (.cons 12 true (.nil))))))))))) (.alt 6 (.cons 7 true (.cons 8 true (.cons 9 true (.cons 1 false (.cons 2 true (.cons 3 true (.cons 4 true (.cons 10 true (.cons 11 true (.cons 12 true (.nil))))))))))) (.last)))))) (by kernel_rfl) (by kernel_rfl) (sw_run 200 _ _ _ ?_) (sw_run 200 _ _ _ ?_)
  · simp only [eq_self, xRun, vE, vP, vSub, vLoad, vFld, vBin, vBinT, isAg, isBo, gN, isPick, isCall, AS.pt, AS.ev, look, cav, td0, td1, td2, td3, td4, td5, td6, Option.getD, Option.isSome, List.getElem?_cons_zero, List.getElem?_cons_succ, ↓reduceIte, Nat.reduceLT, Nat.reduceEqDiff, Nat.zero_add, ne_eq, not_false_eq_true, true_and, and_true, Bool.false_eq_true, reduceCtorEq, Int.reduceLE, Int.reduceToNat, Nat.succ_ne_zero, Int.reduceLE, oc_int]
    (try repeat' (with_reducible apply And.intro))
    all_goals first
      | (refine ⟨rfl, id, ?_⟩; simp only [Sub, subT, subB, subO, subP, inj, AV.ren, AV.rens, AV.lt, AV.lts, eq_self, look, td0, td1, td2, td3, td4, td5, td6, List.map, List.not_mem_nil, List.nodup_cons, List.nodup_nil, ↓reduceIte, Nat.reduceLT, not_false_eq_true, id_eq, reduceCtorEq, and_self]; done)
      | kernel_rfl
  generalize (andI (xorI (k2.fdiv (2 ^ min 33 IntKind.i64.bits)) (k2.fdiv (2 ^ min 45 IntKind.i64.bits))) 255) = x0 at *
  by_cases hlt : (i : Int) < (zs.length : Int)
  · have hR := byt_row zs i (by omega)
    have hb := hzs zs[i]! (mem_bang (by omega))
    generalize zs[i]! = z at *
    have i2 : inI (x0 + z) := by unfold inI; omega
    have i4 : inI z := by unfold inI; omega
    have i5 : inI ((i : Int) + 1) := by unfold inI; omega
    have hr := andI_rng (x0 + z) 255 (by decide)
    rw [show ((255 : Nat) : Int) = 255 from rfl] at hr
    simp only [eq_self, xRun, td0, td1, td2, td3, td4, td5, td6, ↓reduceIte]
    refine sw_drawnK (⟨58, [(34, .b true), (3, .i x0), (0, .bx 0 0)], [(0, [.br (.rows 1 zs.length (zs.map D.byt)), .i i, .i k2])], [], 1, [0]⟩) (.cons 0 true (.cons 4 true (.fork (.alt 1 (.cons 2 true (.cons 3 true (.cons 5 false (.cons 6 true (.cons 7 true (.cons 8 true (.cons 9 true (.nil)))))))) (.alt 5 (.cons 6 true (.cons 7 true (.cons 8 true (.cons 1 false (.cons 2 true (.cons 3 true (.cons 9 true (.nil)))))))) (.last)))))) (by kernel_rfl) (by kernel_rfl) (sw_run 200 _ _ _ ?_) (sw_run 200 _ _ _ ?_)
    · simp only [eq_self, xRun, vE, vP, vSub, vLoad, vFld, vBin, vBinT, isAg, isBo, vLen, gN, isPick, isCall, AS.pt, AS.ev, AS.rd, look, td0, td1, td2, td3, td4, td5, td6, Option.getD, Option.isSome, List.getElem?_cons_zero, List.getElem?_cons_succ, ↓reduceIte, Nat.reduceLT, Nat.reduceEqDiff, Nat.zero_add, Nat.add_zero, ne_eq, not_false_eq_true, true_and, and_true, Bool.false_eq_true, reduceCtorEq, decide_true, Nat.succ_ne_zero, eq_true hlt]
      (try repeat' (with_reducible apply And.intro))
      all_goals first
        | (refine ⟨rfl, id, ?_⟩; simp only [Sub, subT, subB, subO, subP, inj, AV.ren, AV.rens, AV.lt, AV.lts, eq_self, look, td0, td1, td2, td3, td4, td5, td6, List.map, List.not_mem_nil, List.nodup_cons, List.nodup_nil, ↓reduceIte, Nat.reduceLT, Nat.reduceEqDiff, not_false_eq_true, id_eq, reduceCtorEq, and_self]; done)
        | kernel_rfl
    simp only [eq_self, xRun, isB, bv, AS.ev, look, td0, td1, td2, td3, td4, td5, td6, Option.getD, ↓reduceIte, true_and]
    refine sw_drawnK (⟨58, [(3, .i (andI (x0 + z) 255)), (0, .bx 0 0)], [(0, [.br (.rows 1 zs.length (zs.map D.byt)), .i i, .i k2])], [], 1, [0]⟩) (.cons 0 true (.cons 1 true (.cons 5 true (.fork (.alt 2 (.cons 3 true (.cons 4 true (.cons 6 false (.cons 7 true (.cons 8 true (.cons 9 true (.cons 10 true (.cons 11 true (.cons 12 true (.cons 13 true (.cons 14 true (.nil)))))))))))) (.alt 6 (.cons 7 true (.cons 8 true (.cons 2 false (.cons 3 true (.cons 4 true (.cons 9 true (.cons 10 true (.cons 11 true (.cons 12 true (.cons 13 true (.cons 14 true (.nil)))))))))))) (.last))))))) (by kernel_rfl) (by kernel_rfl) (sw_run 200 _ _ _ ?_) (sw_run 200 _ _ _ ?_)
    · simp only [rowD, eq_self, xRun, vE, vP, vSub, vLoad, vFld, vIdx, vBin, vBinT, isAg, isBo, vCnv, gN, isPick, isCall, AS.pt, AS.ev, look, cav, avB, td0, td1, td2, td3, td4, td5, td6, Option.getD, Option.isSome, List.map, List.getElem?_cons_zero, List.getElem?_cons_succ, ↓reduceIte, Nat.reduceLT, Nat.reduceEqDiff, Nat.zero_add, Nat.add_zero, ne_eq, not_false_eq_true, true_and, and_true, Bool.false_eq_true, reduceCtorEq, Int.toNat_natCast, Int.natCast_nonneg, and_self, Nat.succ_ne_zero, hR, i2, i4, hlt]
      (try repeat' (with_reducible apply And.intro))
      all_goals first
        | (refine ⟨rfl, id, ?_⟩; simp only [Sub, subT, subB, subO, subP, inj, AV.ren, AV.rens, AV.lt, AV.lts, eq_self, look, td0, td1, td2, td3, td4, td5, td6, List.map, List.not_mem_nil, List.nodup_cons, List.nodup_nil, ↓reduceIte, Nat.reduceLT, not_false_eq_true, id_eq, reduceCtorEq, and_self]; done)
        | kernel_rfl
    generalize andI (x0 + z) 255 = x1 at *
    simp only [eq_self, xRun, vE, vP, vSub, vLoad, vFld, vBin, vBinT, isAg, isBo, vStore, isCutO, gN, isPick, isCall, AS.pt, AS.ev, AS.setb, look, cav, setRowG, AV.cells, AV.whole, AV.one, td0, td1, td2, td3, td4, td5, td6, Option.getD, Option.isSome, List.length, List.getElem?_cons_zero, List.getElem?_cons_succ, List.set, ↓reduceIte, Nat.reduceLT, Nat.reduceAdd, Nat.reduceLeDiff, Nat.reduceEqDiff, Nat.zero_add, ne_eq, not_false_eq_true, true_and, Bool.false_eq_true, reduceCtorEq, and_self, Nat.succ_ne_zero, i5]
    refine ⟨.inl rfl, (x1, i + 1, k2), ⟨hr, by simp only; omega⟩, ?_⟩
    simp only [xRetP, rRs, rOs, rC, rCs, eRs, eOs, eC, eCs, aD, xRes, rD, eq_self, look, td0, td1, td2, td3, td4, td5, td6, List.map, List.not_mem_nil, List.nodup_cons, List.nodup_nil, List.append_nil, ↓reduceIte, not_false_eq_true, and_self, curO, curA, curR, bytD, cast1, Tryz.results57]
  · simp only [eq_self, xRun, td0, td1, td2, td3, td4, td5, td6, ↓reduceIte]
    refine sw_drawnK (⟨58, [(34, .b false), (3, .i x0), (0, .bx 0 0)], [(0, [.br (.rows 1 zs.length (zs.map D.byt)), .i i, .i k2])], [], 1, [0]⟩) (.cons 0 true (.cons 4 true (.fork (.alt 1 (.cons 2 true (.cons 3 true (.cons 5 false (.cons 6 true (.cons 7 true (.cons 8 true (.cons 9 true (.nil)))))))) (.alt 5 (.cons 6 true (.cons 7 true (.cons 8 true (.cons 1 false (.cons 2 true (.cons 3 true (.cons 9 true (.nil)))))))) (.last)))))) (by kernel_rfl) (by kernel_rfl) (sw_run 200 _ _ _ ?_) (sw_run 200 _ _ _ ?_)
    · simp only [eq_self, xRun, vE, vP, vSub, vLoad, vFld, vBin, vBinT, isAg, isBo, vLen, gN, isPick, isCall, AS.pt, AS.ev, AS.rd, look, td0, td1, td2, td3, td4, td5, td6, Option.getD, Option.isSome, List.getElem?_cons_zero, List.getElem?_cons_succ, ↓reduceIte, Nat.reduceLT, Nat.reduceEqDiff, Nat.zero_add, Nat.add_zero, ne_eq, not_false_eq_true, true_and, and_true, Bool.false_eq_true, reduceCtorEq, decide_false, Nat.succ_ne_zero, hlt]
      (try repeat' (with_reducible apply And.intro))
      all_goals first
        | (refine ⟨rfl, id, ?_⟩; simp only [Sub, subT, subB, subO, subP, inj, AV.ren, AV.rens, AV.lt, AV.lts, eq_self, look, td0, td1, td2, td3, td4, td5, td6, List.map, List.not_mem_nil, List.nodup_cons, List.nodup_nil, ↓reduceIte, Nat.reduceLT, Nat.reduceEqDiff, not_false_eq_true, id_eq, reduceCtorEq, and_self]; done)
        | kernel_rfl
    simp only [eq_self, xRun, vE, vP, isCutO, isB, bv, gN, isPick, isCall, AS.pt, AS.ev, look, td0, td1, td2, td3, td4, td5, td6, Option.getD, ↓reduceIte, Nat.reduceLT, Nat.reduceEqDiff, true_and, Bool.false_eq_true]
    refine ⟨.inl rfl, (x0, i, k2), ⟨hx, hi⟩, ?_⟩
    simp only [xRetP, rRs, rOs, rC, rCs, eRs, eOs, eC, eCs, aD, xRes, rD, eq_self, look, td0, td1, td2, td3, td4, td5, td6, List.map, List.not_mem_nil, List.nodup_cons, List.nodup_nil, List.append_nil, ↓reduceIte, not_false_eq_true, and_self, curO, curA, curR, bytD, Tryz.results57]
theorem emod_rng {x n : Int} (h : 0 < n) (h0 : 0 ≤ x) : 0 ≤ x.tmod n ∧ x.tmod n ≤ n - 1 := ⟨Int.tmod_nonneg _ h0, by have := Int.tmod_lt_of_pos x h; omega⟩
theorem con_Below (zs : List Int) (hz : BytOk zs) (n : Int) (hn : 0 < n) (hn2 : n ≤ 1000000000) (i : Nat) (hi : i ≤ zs.length) (h : Int) : ConX Tryz.prog 42 [.p (curA zs i h), .b (.one (.int n))] (CurI zs (n - 1)) (curO zs) curR := by
  have hB := fun i hi h => con_Byte zs hz i hi h
  have hn0 : ¬ n ≤ 0 := by omega
  have hnz : ¬ n = 0 := by omega
  refine con_runX Tryz.func42 rfl rfl (by simp [Tryz.ntmps42]) (fun _ _ => rfl) ?_
  by_cases h256 : n ≤ 256
  · simp only [s0P, mkPs, mkPA, mkC, argA, numT, eq_self, xRun, vE, vP, vBin, vBinT, isAg, isBo, isCutO, isB, bv, gN, isPick, isCall, AS.pt, AS.ev, AS.box, look, cav, avB, td0, td1, td2, td3, td4, td5, td6, Option.getD, List.nil_append, ↓reduceIte, Nat.reduceLT, Nat.reduceEqDiff, Nat.zero_add, true_and, Bool.false_eq_true, reduceCtorEq, decide_true, decide_false, Nat.succ_ne_zero, curA, bytD, hn0, eq_true h256, Tryz.ntmps42]
    refine sw_callXR (hB i hi h) rfl rfl rfl ?_ ?_ ?_ ?_
    · simp only [rC, rCs, AS.em, mPs, mP, aD, rD, eq_self, AS.ev, look, td0, td1, td2, td3, td4, td5, td6, Option.getD, List.map, List.append_nil, ↓reduceIte, and_self, curA, bytD]
    · simp only [eC, eCs, ePs, eP, eq_self, AS.ev, look, td0, td1, td2, td3, td4, td5, td6, Option.getD, List.map, List.nodup_nil, List.append_nil, ↓reduceIte, curA, bytD]
    · simp only [bPs, bP, eq_self, AS.ev, look, td0, td1, td2, td3, td4, td5, td6, Option.getD, List.map, List.not_mem_nil, List.nodup_cons, List.nodup_nil, List.append_nil, ↓reduceIte, not_false_eq_true, and_self, curA, bytD]
    rintro ⟨v, i', h'⟩ ⟨hv, hi'⟩
    simp only at hv hi'
    refine sw_run 200 _ _ _ ?_
    have hm := emod_rng (x := v) hn hv.1
    simp only [mkC, eC, eCs, aftS, aftV, AS.kb, rmBs, rmB, mkO, packRA, flatR, ePs, eP, bPs, bP, AS.kl, retA, List.headD_cons, eq_self, xRun, vE, vP, vBin, vBinT, isAg, isBo, isCutO, gN, isPick, isCall, AS.pt, AS.ev, kill, look, avB, td0, td1, td2, td3, td4, td5, td6, Option.getD, List.map, List.foldr, List.append_nil, ↓reduceIte, Nat.reduceLT, Nat.reduceEqDiff, ne_eq, not_false_eq_true, true_and, Bool.false_eq_true, Nat.succ_ne_zero, curO, curA, curR, bytD, hnz]
    refine ⟨.inl rfl, (v.tmod n, i', h'), ⟨hm, hi'⟩, ?_⟩
    simp only [xRetP, rRs, rOs, rC, rCs, eRs, eOs, eC, eCs, aD, xRes, rD, eq_self, look, td0, td1, td2, td3, td4, td5, td6, List.map, List.not_mem_nil, List.nodup_cons, List.nodup_nil, List.append_nil, ↓reduceIte, not_false_eq_true, and_self, curO, curA, curR, bytD, Tryz.results42]
  · simp only [s0P, mkPs, mkPA, mkC, argA, numT, eq_self, xRun, vE, vP, vBin, vBinT, isAg, isBo, isCutO, isB, bv, gN, isPick, isCall, AS.pt, AS.ev, AS.box, look, cav, avB, td0, td1, td2, td3, td4, td5, td6, Option.getD, List.nil_append, ↓reduceIte, Nat.reduceLT, Nat.reduceEqDiff, Nat.zero_add, true_and, Bool.false_eq_true, reduceCtorEq, decide_false, Nat.succ_ne_zero, curA, bytD, hn0, h256, Tryz.ntmps42]
    refine sw_callXR (hB i hi h) rfl rfl rfl ?_ ?_ ?_ ?_
    · simp only [rC, rCs, AS.em, mPs, mP, aD, rD, eq_self, AS.ev, look, td0, td1, td2, td3, td4, td5, td6, Option.getD, List.map, List.append_nil, ↓reduceIte, and_self, curA, bytD]
    · simp only [eC, eCs, ePs, eP, eq_self, AS.ev, look, td0, td1, td2, td3, td4, td5, td6, Option.getD, List.map, List.nodup_nil, List.append_nil, ↓reduceIte, curA, bytD]
    · simp only [bPs, bP, eq_self, AS.ev, look, td0, td1, td2, td3, td4, td5, td6, Option.getD, List.map, List.not_mem_nil, List.nodup_cons, List.nodup_nil, List.append_nil, ↓reduceIte, not_false_eq_true, and_self, curA, bytD]
    rintro ⟨x1, i1, h1⟩ ⟨hx1, hi1⟩
    simp only at hx1 hi1
    refine sw_run 200 _ _ _ ?_
    simp only [mkC, eC, eCs, aftS, aftV, AS.kb, rmBs, rmB, mkO, packRA, flatR, ePs, eP, bPs, bP, AS.kl, retA, List.headD_cons, eq_self, xRun, vE, vP, isCutO, gN, isPick, isCall, AS.pt, AS.ev, kill, look, avB, td0, td1, td2, td3, td4, td5, td6, Option.getD, List.map, List.foldr, List.append_nil, ↓reduceIte, Nat.reduceLT, true_and, Bool.false_eq_true, reduceCtorEq, curO, curA, curR, bytD]
    refine sw_callXR (hB i1 hi1 h1) rfl rfl rfl ?_ ?_ ?_ ?_
    · simp only [rC, rCs, AS.em, mPs, mP, aD, rD, eq_self, AS.ev, look, td0, td1, td2, td3, td4, td5, td6, Option.getD, List.map, List.append_nil, ↓reduceIte, and_self, curA, bytD]
    · simp only [eC, eCs, ePs, eP, eq_self, AS.ev, look, td0, td1, td2, td3, td4, td5, td6, Option.getD, List.map, List.nodup_nil, List.append_nil, ↓reduceIte, curA, bytD]
    · simp only [bPs, bP, eq_self, AS.ev, look, td0, td1, td2, td3, td4, td5, td6, Option.getD, List.map, List.not_mem_nil, List.nodup_cons, List.nodup_nil, List.append_nil, ↓reduceIte, not_false_eq_true, and_self, curA, bytD]
    rintro ⟨x2, i2, h2⟩ ⟨hx2, hi2⟩
    simp only at hx2 hi2
    refine sw_run 200 _ _ _ ?_
    simp only [mkC, eC, eCs, aftS, aftV, AS.kb, rmBs, rmB, mkO, packRA, flatR, ePs, eP, bPs, bP, AS.kl, retA, List.headD_cons, eq_self, xRun, vE, vP, isCutO, gN, isPick, isCall, AS.pt, AS.ev, kill, look, avB, td0, td1, td2, td3, td4, td5, td6, Option.getD, List.map, List.foldr, List.append_nil, ↓reduceIte, Nat.reduceLT, true_and, Bool.false_eq_true, reduceCtorEq, curO, curA, curR, bytD]
    refine sw_callXR (hB i2 hi2 h2) rfl rfl rfl ?_ ?_ ?_ ?_
    · simp only [rC, rCs, AS.em, mPs, mP, aD, rD, eq_self, AS.ev, look, td0, td1, td2, td3, td4, td5, td6, Option.getD, List.map, List.append_nil, ↓reduceIte, and_self, curA, bytD]
    · simp only [eC, eCs, ePs, eP, eq_self, AS.ev, look, td0, td1, td2, td3, td4, td5, td6, Option.getD, List.map, List.nodup_nil, List.append_nil, ↓reduceIte, curA, bytD]
    · simp only [bPs, bP, eq_self, AS.ev, look, td0, td1, td2, td3, td4, td5, td6, Option.getD, List.map, List.not_mem_nil, List.nodup_cons, List.nodup_nil, List.append_nil, ↓reduceIte, not_false_eq_true, and_self, curA, bytD]
    rintro ⟨x3, i3, h3⟩ ⟨hx3, hi3⟩
    simp only at hx3 hi3
    refine sw_run 200 _ _ _ ?_
    simp only [mkC, eC, eCs, aftS, aftV, AS.kb, rmBs, rmB, mkO, packRA, flatR, ePs, eP, bPs, bP, AS.kl, retA, List.headD_cons, eq_self, xRun, vE, vP, isCutO, gN, isPick, isCall, AS.pt, AS.ev, kill, look, avB, td0, td1, td2, td3, td4, td5, td6, Option.getD, List.map, List.foldr, List.append_nil, ↓reduceIte, Nat.reduceLT, true_and, Bool.false_eq_true, reduceCtorEq, curO, curA, curR, bytD]
    refine sw_callXR (hB i3 hi3 h3) rfl rfl rfl ?_ ?_ ?_ ?_
    · simp only [rC, rCs, AS.em, mPs, mP, aD, rD, eq_self, AS.ev, look, td0, td1, td2, td3, td4, td5, td6, Option.getD, List.map, List.append_nil, ↓reduceIte, and_self, curA, bytD]
    · simp only [eC, eCs, ePs, eP, eq_self, AS.ev, look, td0, td1, td2, td3, td4, td5, td6, Option.getD, List.map, List.nodup_nil, List.append_nil, ↓reduceIte, curA, bytD]
    · simp only [bPs, bP, eq_self, AS.ev, look, td0, td1, td2, td3, td4, td5, td6, Option.getD, List.map, List.not_mem_nil, List.nodup_cons, List.nodup_nil, List.append_nil, ↓reduceIte, not_false_eq_true, and_self, curA, bytD]
    rintro ⟨x4, i4, h4⟩ ⟨hx4, hi4⟩
    simp only at hx4 hi4
    refine sw_run 200 _ _ _ ?_
    have e1 : inI (x1 * 16777216) := by unfold inI; omega
    have e2 : inI (x2 * 65536) := by unfold inI; omega
    have e3 : inI (x1 * 16777216 + x2 * 65536) := by unfold inI; omega
    have e4 : inI (x3 * 256) := by unfold inI; omega
    have e5 : inI (x1 * 16777216 + x2 * 65536 + x3 * 256) := by unfold inI; omega
    have e6 : inI (x1 * 16777216 + x2 * 65536 + x3 * 256 + x4) := by unfold inI; omega
    have hm := emod_rng (x := x1 * 16777216 + x2 * 65536 + x3 * 256 + x4) hn (by omega)
    simp only [mkC, eC, eCs, aftS, aftV, AS.kb, rmBs, rmB, mkO, packRA, flatR, ePs, eP, bPs, bP, AS.kl, retA, List.headD_cons, eq_self, xRun, vE, vP, vBin, vBinT, isAg, isBo, isCutO, gN, isPick, isCall, AS.pt, AS.ev, kill, look, cav, avB, td0, td1, td2, td3, td4, td5, td6, Option.getD, List.map, List.foldr, List.append_nil, ↓reduceIte, Nat.reduceLT, Nat.reduceEqDiff, ne_eq, not_false_eq_true, true_and, Bool.false_eq_true, Nat.succ_ne_zero, curO, curA, curR, bytD, hnz, e1, e2, e3, e4, e5, e6]
    refine ⟨.inl rfl, ((x1 * 16777216 + x2 * 65536 + x3 * 256 + x4).tmod n, i4, h4), ⟨hm, hi4⟩, ?_⟩
    simp only [xRetP, rRs, rOs, rC, rCs, eRs, eOs, eC, eCs, aD, xRes, rD, eq_self, look, td0, td1, td2, td3, td4, td5, td6, List.map, List.not_mem_nil, List.nodup_cons, List.nodup_nil, List.append_nil, ↓reduceIte, not_false_eq_true, and_self, curO, curA, curR, bytD, Tryz.results42]
/-- A drawn truth value. -/
def bitI (zs : List Int) (x : Bool × Nat × Int) : Prop := x.2.1 ≤ zs.length
def bitO (zs : List Int) (x : Bool × Nat × Int) : List (List CD) := [curA zs x.2.1 x.2.2]
def bitR (x : Bool × Nat × Int) : List RD := [.one (.o (.bool x.1))]
theorem con_Once (zs : List Int) (hz : BytOk zs) (n : Int) (hn : 0 < n) (hn2 : n ≤ 1000000000) (i : Nat) (hi : i ≤ zs.length) (h : Int) : ConX Tryz.prog 44 [.p (curA zs i h), .b (.one (.int n))] (bitI zs) (bitO zs) bitR := by
  refine con_runX Tryz.func44 rfl rfl (by simp [Tryz.ntmps44]) (fun _ _ => rfl) ?_
  simp only [s0P, mkPs, mkPA, mkC, argA, numT, eq_self, xRun, vE, vP, isCutO, gN, isPick, isCall, AS.pt, AS.ev, AS.box, look, cav, avB, td0, td1, td2, td3, td4, td5, td6, Option.getD, List.nil_append, ↓reduceIte, Nat.reduceLT, Nat.reduceEqDiff, Nat.zero_add, true_and, Bool.false_eq_true, reduceCtorEq, Nat.succ_ne_zero, curA, bytD, Tryz.ntmps44]
  refine sw_callXR (con_Below zs hz n hn hn2 i hi h) rfl rfl rfl ?_ ?_ ?_ ?_
  · simp only [rC, rCs, AS.em, mPs, mP, aA, aD, rD, eq_self, AS.ev, look, td0, td1, td2, td3, td4, td5, td6, Option.getD, List.map, List.append_nil, ↓reduceIte, Nat.reduceEqDiff, and_self, curA, bytD]
  · simp only [eC, eCs, ePs, eP, eq_self, AS.ev, look, td0, td1, td2, td3, td4, td5, td6, Option.getD, List.map, List.nodup_nil, List.append_nil, ↓reduceIte, Nat.reduceEqDiff, curA, bytD]
  · simp only [bPs, bP, eq_self, AS.ev, look, td0, td1, td2, td3, td4, td5, td6, Option.getD, List.map, List.not_mem_nil, List.nodup_cons, List.nodup_nil, List.append_nil, ↓reduceIte, Nat.reduceEqDiff, not_false_eq_true, and_self, curA, bytD]
  rintro ⟨v, i', h'⟩ ⟨hv, hi'⟩
  simp only at hv hi'
  refine sw_run 200 _ _ _ ?_
  simp only [mkC, eC, eCs, aftS, aftV, AS.kb, rmBs, rmB, mkO, packRA, flatR, ePs, eP, bPs, bP, AS.kl, retA, List.headD_cons, eq_self, xRun, vE, vP, vBin, vBinT, isAg, isBo, isCutO, gN, isPick, isCall, AS.pt, AS.ev, kill, look, cav, avB, td0, td1, td2, td3, td4, td5, td6, Option.getD, List.map, List.foldr, List.append_nil, ↓reduceIte, Nat.reduceLT, Nat.reduceEqDiff, true_and, Bool.false_eq_true, curO, curA, curR, bytD]
  refine ⟨.inl rfl, (decide (v = 0), i', h'), hi', ?_⟩
  simp only [xRetP, rRs, rOs, rC, rCs, eRs, eOs, eC, eCs, aD, xRes, rD, eq_self, look, td0, td1, td2, td3, td4, td5, td6, List.map, List.not_mem_nil, List.nodup_cons, List.nodup_nil, List.append_nil, ↓reduceIte, not_false_eq_true, and_self, bitO, curA, bitR, bytD, Tryz.results44]
/-- A number drawn from a list. -/
def pkI (zs ns : List Int) (x : Int × Nat × Int) : Prop := x.1 ∈ ns ∧ x.2.1 ≤ zs.length
theorem con_PickInt (zs : List Int) (hz : BytOk zs) (ns : List Int) (hn : 0 < ns.length) (hn2 : ns.length ≤ 1000000000) (i : Nat) (hi : i ≤ zs.length) (h : Int) : ConX Tryz.prog 51 [.p (curA zs i h), .b (.one (intsD ns))] (pkI zs ns) (curO zs) curR := by
  refine con_runX Tryz.func51 rfl rfl (by simp [Tryz.ntmps51]) (fun _ _ => rfl) ?_
  simp only [s0P, mkPs, mkPA, mkC, argA, numT, intsD, eq_self, xRun, vE, vP, vLen, isCutO, gN, isPick, isCall, AS.pt, AS.ev, AS.box, AS.rd, look, cav, avB, td0, td1, td2, td3, td4, td5, td6, Option.getD, List.nil_append, ↓reduceIte, Nat.reduceLT, Nat.reduceEqDiff, Nat.zero_add, true_and, Bool.false_eq_true, reduceCtorEq, Nat.succ_ne_zero, curA, bytD, Tryz.ntmps51]
  refine sw_callXR (con_Below zs hz (ns.length : Int) (by omega) (by omega) i hi h) rfl rfl rfl ?_ ?_ ?_ ?_
  · simp only [rC, rCs, AS.em, mPs, mP, aA, aD, rD, eq_self, AS.ev, look, td0, td1, td2, td3, td4, td5, td6, Option.getD, List.map, List.append_nil, ↓reduceIte, Nat.reduceEqDiff, and_self, curA, bytD]
  · simp only [eC, eCs, ePs, eP, eq_self, AS.ev, look, td0, td1, td2, td3, td4, td5, td6, Option.getD, List.map, List.nodup_nil, List.append_nil, ↓reduceIte, Nat.reduceEqDiff, curA, bytD]
  · simp only [bPs, bP, eq_self, AS.ev, look, td0, td1, td2, td3, td4, td5, td6, Option.getD, List.map, List.not_mem_nil, List.nodup_cons, List.nodup_nil, List.append_nil, ↓reduceIte, Nat.reduceEqDiff, not_false_eq_true, and_self, curA, bytD]
  rintro ⟨v, i', h'⟩ ⟨hv, hi'⟩
  simp only at hv hi'
  refine sw_run 200 _ _ _ ?_
  have hlt : v.toNat < ns.length := by omega
  have hv2 : v < (ns.length : Int) := by omega
  have hR := ints_row ns v.toNat hlt
  simp only [mkC, eC, eCs, aftS, aftV, AS.kb, rmBs, rmB, mkO, packRA, flatR, ePs, eP, bPs, bP, AS.kl, retA, List.headD_cons, rowD, eq_self, xRun, vE, vP, vSub, vLoad, vIdx, isCutO, gN, isPick, isCall, AS.pt, AS.ev, kill, look, avB, td0, td1, td2, td3, td4, td5, td6, Option.getD, Option.isSome, List.map, List.getElem?_cons_zero, List.foldr, List.append_nil, ↓reduceIte, Nat.reduceLT, Nat.reduceEqDiff, true_and, Bool.false_eq_true, and_self, curO, curA, curR, bytD, hv.1, hv2, hR]
  refine ⟨.inl rfl, (ns[v.toNat]!, i', h'), ⟨mem_bang hlt, hi'⟩, ?_⟩
  simp only [xRetP, rRs, rOs, rC, rCs, eRs, eOs, eC, eCs, aD, xRes, rD, eq_self, look, td0, td1, td2, td3, td4, td5, td6, List.map, List.not_mem_nil, List.nodup_cons, List.nodup_nil, List.append_nil, ↓reduceIte, not_false_eq_true, and_self, curO, curA, curR, bytD, Tryz.results51]
end Go.Proofs.YtfbjdeeomjfhkaaGreatDoor
/-
  Drawn texts, and texts that are turned a little.
-/
namespace Go.Proofs.YtfbjdeeomjfhkaaGreatDoor
open Go.RowKit
set_option linter.unusedVariables false
set_option linter.unusedSimpArgs false
set_option maxRecDepth 20000
/-- A drawn text. -/
def txI (zs : List Int) (ns : List ByteArray) (x : ByteArray × Nat × Int) : Prop := x.1 ∈ ns ∧ x.2.1 ≤ zs.length
def txO (zs : List Int) (x : ByteArray × Nat × Int) : List (List CD) := [curA zs x.2.1 x.2.2]
def txR (x : ByteArray × Nat × Int) : List RD := [.one (.o (.str x.1))]
theorem con_Pick (zs : List Int) (hz : BytOk zs) (ns : List ByteArray) (hn : 0 < ns.length) (hn2 : ns.length ≤ 1000000000) (i : Nat) (hi : i ≤ zs.length) (h : Int) : ConX Tryz.prog 55 [.p (curA zs i h), .b (.one (strsD ns))] (txI zs ns) (txO zs) txR := by
  refine con_runX Tryz.func55 rfl rfl (by simp [Tryz.ntmps55]) (fun _ _ => rfl) ?_
  simp only [s0P, mkPs, mkPA, mkC, argA, numT, strsD, eq_self, xRun, vE, vP, vLen, isCutO, gN, isPick, isCall, AS.pt, AS.ev, AS.box, AS.rd, look, cav, avB, td0, td1, td2, td3, td4, td5, td6, Option.getD, List.nil_append, ↓reduceIte, Nat.reduceLT, Nat.reduceEqDiff, Nat.zero_add, true_and, Bool.false_eq_true, reduceCtorEq, Nat.succ_ne_zero, curA, bytD, Tryz.ntmps55]
  refine sw_callXR (con_Below zs hz (ns.length : Int) (by omega) (by omega) i hi h) rfl rfl rfl ?_ ?_ ?_ ?_
  · simp only [rC, rCs, AS.em, mPs, mP, aA, aD, rD, eq_self, AS.ev, look, td0, td1, td2, td3, td4, td5, td6, Option.getD, List.map, List.append_nil, ↓reduceIte, Nat.reduceEqDiff, and_self, curA, bytD]
  · simp only [eC, eCs, ePs, eP, eq_self, AS.ev, look, td0, td1, td2, td3, td4, td5, td6, Option.getD, List.map, List.nodup_nil, List.append_nil, ↓reduceIte, Nat.reduceEqDiff, curA, bytD]
  · simp only [bPs, bP, eq_self, AS.ev, look, td0, td1, td2, td3, td4, td5, td6, Option.getD, List.map, List.not_mem_nil, List.nodup_cons, List.nodup_nil, List.append_nil, ↓reduceIte, Nat.reduceEqDiff, not_false_eq_true, and_self, curA, bytD]
  rintro ⟨v, i', h'⟩ ⟨hv, hi'⟩
  simp only at hv hi'
  refine sw_run 200 _ _ _ ?_
  have hlt : v.toNat < ns.length := by omega
  have hv2 : v < (ns.length : Int) := by omega
  have hR := strs_row ns v.toNat hlt
  simp only [mkC, eC, eCs, aftS, aftV, AS.kb, rmBs, rmB, mkO, packRA, flatR, ePs, eP, bPs, bP, AS.kl, retA, List.headD_cons, rowD, eq_self, xRun, vE, vP, vSub, vLoad, vIdx, isCutO, gN, isPick, isCall, AS.pt, AS.ev, kill, look, avB, td0, td1, td2, td3, td4, td5, td6, Option.getD, Option.isSome, List.map, List.getElem?_cons_zero, List.foldr, List.append_nil, ↓reduceIte, Nat.reduceLT, Nat.reduceEqDiff, true_and, Bool.false_eq_true, and_self, curO, curA, curR, bytD, hv.1, hv2, hR]
  refine ⟨.inl rfl, (ns[v.toNat]!, i', h'), ⟨mem_bang hlt, hi'⟩, ?_⟩
  simp only [xRetP, rRs, rOs, rC, rCs, eRs, eOs, eC, eCs, aD, xRes, rD, eq_self, look, td0, td1, td2, td3, td4, td5, td6, List.map, List.not_mem_nil, List.nodup_cons, List.nodup_nil, List.append_nil, ↓reduceIte, not_false_eq_true, and_self, txO, curA, txR, bytD, Tryz.results55]
def tuI (zs : List Int) (m : Nat) (x : ByteArray × Nat × Int) : Prop := x.1.size ≤ m ∧ x.2.1 ≤ zs.length
theorem con_Turned (zs : List Int) (hz : BytOk zs) (s : ByteArray) (hs : s.size ≤ 1000000) (ns : List ByteArray) (hn : 0 < ns.length) (hn2 : ns.length ≤ 1000000000) (hns : ∀ x ∈ ns, x.size ≤ 20) (i : Nat) (hi : i ≤ zs.length) (h : Int) : ConX Tryz.prog 38 [.p (curA zs i h), .b (.one (.str s)), .b (.one (strsD ns))] (tuI zs (s.size + 20)) (txO zs) txR := by
  refine con_runX Tryz.func38 rfl rfl (by simp [Tryz.ntmps38]) (fun _ _ => rfl) ?_
  have hin : inI ((s.size : Int) + 1) := by unfold inI; omega
  have hP := fun i hi h => con_Pick zs hz ns hn hn2 i hi h
  simp only [s0P, mkPs, mkPA, mkC, argA, numT, strsD, eq_self, xRun, vE, vP, vBin, vBinT, isAg, isBo, vLen, isCutO, gN, isPick, isCall, AS.pt, AS.ev, AS.box, look, cav, avB, td0, td1, td2, td3, td4, td5, td6, Option.getD, List.nil_append, ↓reduceIte, Nat.reduceLT, Nat.reduceAdd, Nat.reduceEqDiff, Nat.zero_add, true_and, Bool.false_eq_true, reduceCtorEq, Nat.succ_ne_zero, curA, bytD, hin, Tryz.ntmps38]
  refine sw_callXR (con_Below zs hz ((s.size : Int) + 1) (by omega) (by omega) i hi h) rfl rfl rfl ?_ ?_ ?_ ?_
  · simp only [rC, rCs, AS.em, mPs, mP, aA, aD, rD, eq_self, AS.ev, look, td0, td1, td2, td3, td4, td5, td6, Option.getD, List.map, List.append_nil, ↓reduceIte, Nat.reduceEqDiff, and_self, curA, bytD]
  · simp only [eC, eCs, ePs, eP, eq_self, AS.ev, look, td0, td1, td2, td3, td4, td5, td6, Option.getD, List.map, List.nodup_nil, List.append_nil, ↓reduceIte, Nat.reduceEqDiff, curA, bytD]
  · simp only [bPs, bP, eq_self, AS.ev, look, td0, td1, td2, td3, td4, td5, td6, Option.getD, List.map, List.not_mem_nil, List.nodup_cons, List.nodup_nil, List.append_nil, ↓reduceIte, Nat.reduceEqDiff, not_false_eq_true, and_self, curA, bytD]
  rintro ⟨at_, i1, h1⟩ ⟨ha, hi1⟩
  simp only at ha hi1
  refine sw_run 200 _ _ _ ?_
  simp only [mkC, eC, eCs, aftS, aftV, AS.kb, rmBs, rmB, mkO, packRA, flatR, ePs, eP, bPs, bP, AS.kl, retA, List.headD_cons, eq_self, xRun, vE, vP, isCutO, gN, isPick, isCall, AS.pt, AS.ev, kill, look, avB, td0, td1, td2, td3, td4, td5, td6, Option.getD, List.map, List.foldr, List.append_nil, ↓reduceIte, Nat.reduceLT, Nat.reduceEqDiff, true_and, Bool.false_eq_true, reduceCtorEq, curO, curA, curR, bytD]
  refine sw_callXR (con_Below zs hz 6 (by decide) (by decide) i1 hi1 h1) rfl rfl rfl ?_ ?_ ?_ ?_
  · simp only [rC, rCs, AS.em, mPs, mP, aA, aD, rD, eq_self, AS.ev, look, cav, td0, td1, td2, td3, td4, td5, td6, Option.getD, List.map, List.append_nil, ↓reduceIte, and_self, curA, bytD]
  · simp only [eC, eCs, ePs, eP, eq_self, AS.ev, look, cav, td0, td1, td2, td3, td4, td5, td6, Option.getD, List.map, List.nodup_nil, List.append_nil, ↓reduceIte, curA, bytD]
  · simp only [bPs, bP, eq_self, AS.ev, look, cav, td0, td1, td2, td3, td4, td5, td6, Option.getD, List.map, List.not_mem_nil, List.nodup_cons, List.nodup_nil, List.append_nil, ↓reduceIte, not_false_eq_true, and_self, curA, bytD]
  rintro ⟨v, i2, h2⟩ ⟨hv, hi2⟩
  simp only at hv hi2
  refine sw_run 200 _ _ _ ?_
  have ha0 := ha.1
  have ha1 : at_ ≤ (s.size : Int) := by omega
  by_cases v0 : v = 0
  · simp only [mkC, eC, eCs, aftS, aftV, AS.kb, rmBs, rmB, mkO, packRA, flatR, ePs, eP, bPs, bP, AS.kl, retA, List.headD_cons, eq_self, xRun, vE, vP, vBin, vBinT, isAg, isBo, isCutO, isB, bv, gN, isPick, isCall, AS.pt, AS.ev, kill, look, cav, avB, td0, td1, td2, td3, td4, td5, td6, Option.getD, List.map, List.foldr, List.append_nil, ↓reduceIte, Nat.reduceLT, true_and, Bool.false_eq_true, decide_true, curO, curA, curR, bytD, eq_true v0]
    refine sw_drawn (.cons 0 true (.cons 1 true (.cons 3 true (.cons 4 true (.cons 7 true (.cons 8 true (.fork (.alt 2 (.fork (.alt 5 (.cons 6 true (.cons 9 true (.cons 10 true (.cons 11 true (.nil))))) (.alt 9 (.cons 5 false (.cons 6 true (.cons 10 true (.cons 11 true (.nil))))) (.last)))) (.alt 5 (.cons 2 true (.cons 6 true (.cons 9 true (.cons 10 true (.cons 11 true (.nil)))))) (.alt 9 (.fork (.alt 2 (.cons 5 false (.cons 6 true (.cons 10 true (.cons 11 true (.nil))))) (.alt 5 (.cons 2 true (.cons 6 true (.cons 10 true (.cons 11 true (.nil))))) (.last)))) (.last))))))))))) (by kernel_rfl) fQX_panic (by kernel_rfl) (sw_run 200 _ _ _ ?_)
    simp only [eq_self, xRun, vE, vP, vCut, vSlc, ixL, ixH, gN, isPick, isCall, AS.pt, AS.ev, look, td0, td1, td2, td3, td4, td5, td6, Option.getD, Option.map, Option.isSome, List.getElem?_cons_zero, List.getElem?_cons_succ, ↓reduceIte, Nat.reduceLT, Nat.reduceEqDiff, true_and, and_true, Bool.false_eq_true, reduceCtorEq, Int.toNat_natCast, Int.toNat_zero, Int.le_refl, and_self, Nat.succ_ne_zero, ha0, ha1]
    (try repeat' (with_reducible apply And.intro))
    all_goals
      refine sw_callDXR (hP i2 hi2 h2) rfl rfl rfl ?_ ?_ ?_ rfl ?_
      · simp only [rC, rCs, AS.em, mPs, mP, aA, aD, strsD, rD, eq_self, AS.ev, look, td0, td1, td2, td3, td4, td5, td6, Option.getD, List.map, List.append_nil, ↓reduceIte, Nat.reduceEqDiff, and_self, curA, bytD]
      · simp only [eC, eCs, ePs, eP, strsD, eq_self, AS.ev, look, td0, td1, td2, td3, td4, td5, td6, Option.getD, List.map, List.nodup_nil, List.append_nil, ↓reduceIte, Nat.reduceEqDiff, curA, bytD]
      · simp only [bPs, bP, strsD, eq_self, AS.ev, look, td0, td1, td2, td3, td4, td5, td6, Option.getD, List.map, List.not_mem_nil, List.nodup_cons, List.nodup_nil, List.append_nil, ↓reduceIte, Nat.reduceEqDiff, not_false_eq_true, and_self, curA, bytD]
      rintro ⟨p, i3, h3⟩ ⟨hp, hi3⟩
      simp only at hp hi3
      have hp2 := hns p hp
      have m1 : (s.extract 0 at_.toNat).size + p.size ≤ maxLen := by simp only [ByteArray.size_extract]; unfold maxLen; omega
      have m2 : (s.extract 0 at_.toNat ++ p).size + (s.extract at_.toNat s.size).size ≤ maxLen := by simp only [ByteArray.size_append, ByteArray.size_extract]; unfold maxLen; omega
      refine sw_run 200 _ _ _ ?_
      simp only [mkC, eC, eCs, aftS, aftV, AS.kb, rmBs, rmB, mkO, packRA, flatR, ePs, eP, bPs, bP, AS.kl, retA, List.headD_cons, strsD, eq_self, xRun, vP, vBin, vBinT, isAg, isBo, vCut, vSlc, ixL, ixH, gN, isPick, AS.pt, AS.ev, kill, look, avB, td0, td1, td2, td3, td4, td5, td6, Option.getD, Option.map, Option.isSome, List.map, List.getElem?_cons_zero, List.getElem?_cons_succ, List.foldr, List.append_nil, ↓reduceIte, Nat.reduceLT, Nat.reduceEqDiff, true_and, Bool.false_eq_true, Int.toNat_natCast, Int.toNat_zero, Int.le_refl, and_self, txO, curA, txR, bytD, ha0, ha1, m1, m2]
      (try repeat' (with_reducible apply And.intro))
      all_goals
        refine ⟨.inl rfl, (s.extract 0 at_.toNat ++ p ++ s.extract at_.toNat s.size, i3, h3), ⟨by simp only [ByteArray.size_append, ByteArray.size_extract]; omega, hi3⟩, ?_⟩
        simp only [xRetP, rRs, rOs, rC, rCs, eRs, eOs, eC, eCs, aD, xRes, rD, eq_self, look, td0, td1, td2, td3, td4, td5, td6, List.map, List.not_mem_nil, List.nodup_cons, List.nodup_nil, List.append_nil, ↓reduceIte, not_false_eq_true, and_self, txO, curA, txR, bytD, Tryz.results38]
  by_cases v1 : v = 1
  · simp only [mkC, eC, eCs, aftS, aftV, AS.kb, rmBs, rmB, mkO, packRA, flatR, ePs, eP, bPs, bP, AS.kl, retA, List.headD_cons, eq_self, xRun, vE, vP, vBin, vBinT, isAg, isBo, vCut, vSlc, isCutO, ixL, ixH, isB, bv, gN, isPick, isCall, AS.pt, AS.ev, kill, look, cav, avB, td0, td1, td2, td3, td4, td5, td6, Option.getD, Option.map, List.map, List.foldr, List.append_nil, ↓reduceIte, Nat.reduceLT, Nat.reduceEqDiff, true_and, Bool.false_eq_true, Int.toNat_zero, Int.le_refl, decide_true, decide_false, and_self, Nat.succ_ne_zero, curO, curA, curR, bytD, v0, eq_true v1, ha0, ha1]
    refine ⟨.inl rfl, (s.extract 0 at_.toNat, i2, h2), ⟨by simp; omega, hi2⟩, ?_⟩
    simp only [xRetP, rRs, rOs, rC, rCs, eRs, eOs, eC, eCs, aD, xRes, rD, eq_self, look, td0, td1, td2, td3, td4, td5, td6, List.map, List.not_mem_nil, List.nodup_cons, List.nodup_nil, List.append_nil, ↓reduceIte, not_false_eq_true, and_self, txO, curA, txR, bytD, Tryz.results38]
  · simp only [mkC, eC, eCs, aftS, aftV, AS.kb, rmBs, rmB, mkO, packRA, flatR, ePs, eP, bPs, bP, AS.kl, retA, List.headD_cons, eq_self, xRun, vE, vP, vBin, vBinT, isAg, isBo, isCutO, isB, bv, gN, isPick, isCall, AS.pt, AS.ev, kill, look, cav, avB, td0, td1, td2, td3, td4, td5, td6, Option.getD, List.map, List.foldr, List.append_nil, ↓reduceIte, Nat.reduceLT, Nat.reduceEqDiff, true_and, Bool.false_eq_true, decide_false, Nat.succ_ne_zero, curO, curA, curR, bytD, v0, v1]
    refine ⟨.inl rfl, (s, i2, h2), ⟨by simp, hi2⟩, ?_⟩
    simp only [xRetP, rRs, rOs, rC, rCs, eRs, eOs, eC, eCs, aD, xRes, rD, eq_self, look, td0, td1, td2, td3, td4, td5, td6, List.map, List.not_mem_nil, List.nodup_cons, List.nodup_nil, List.append_nil, ↓reduceIte, not_false_eq_true, and_self, txO, curA, txR, bytD, Tryz.results38]
end Go.Proofs.YtfbjdeeomjfhkaaGreatDoor
