/-
  Names: what is one, of both sides.
-/
import Derived.Test.YtfbjdeeomjfhkaaGreatDoorTyC
import Derived.Test.YtfbjdeeomjfhkaaGreatDoorLst
namespace Go.Proofs.YtfbjdeeomjfhkaaGreatDoor
open Go.RowKit
set_option linter.unusedVariables false
set_option linter.unusedSimpArgs false
set_option maxRecDepth 20000
def fi (s : ByteArray) : List ByteArray → Int → Int
  | [], _ => -1
  | x :: xs, i => if s = x then i else fi s xs (i + 1)
theorem fi_step (s : ByteArray) (xs : List ByteArray) (k : Nat) (h : k < xs.length) : fi s (xs.drop k) k = if s = xs[k]! then (k : Int) else fi s (xs.drop (k + 1)) ((k + 1 : Nat) : Int) := by
  rw [List.drop_eq_getElem_cons h, getElem!_pos xs k h]; rfl
theorem fi_end (s : ByteArray) (xs : List ByteArray) (k : Nat) (h : xs.length ≤ k) (i : Int) : fi s (xs.drop k) i = -1 := by rw [List.drop_of_length_le h]; rfl
theorem fi_range (s : ByteArray) : ∀ (xs : List ByteArray) (i : Int), 0 ≤ i → (fi s xs i = -1 ∨ (i ≤ fi s xs i ∧ fi s xs i < i + xs.length))
  | [], i, _ => .inl rfl
  | x :: xs, i, h => by
    rw [fi, List.length_cons]
    split
    · right; omega
    · rcases fi_range s xs (i + 1) (by omega) with h1 | h1
      · exact .inl h1
      · right; omega
theorem con_Index (xs : List ByteArray) (s : ByteArray) (hl : xs.length ≤ 1000000000) : Con Tryz.prog 31 [.one (strsD xs), .one (.str s)] [.one (.int (fi s xs 0))] := by
  refine con_run Tryz.func31 rfl rfl (by simp [Tryz.ntmps31]) ?_
  simp only [argT, argA, strsD, eq_self, xRun, vE, vP, vLen, isCutO, gN, isPick, isCall, AS.pt, AS.ev, AS.rd, look, cav, avB, td0, td1, td2, td3, td4, td5, td6, Option.getD, ↓reduceIte, Nat.reduceLT, Nat.zero_add, true_and, Bool.false_eq_true, reduceCtorEq, Int.reduceNeg, Tryz.ntmps31]
  refine sw_loop (fun k : Nat => k ≤ xs.length ∧ fi s (xs.drop k) k = fi s xs 0) (fun k => ⟨19, [(8, .i k), (7, .i xs.length), (0, .br (.rows 1 xs.length (xs.map D.str))), (1, .s s)], [], [], 0, []⟩) (fun k => xs.length - k) 0 id ⟨Nat.zero_le _, rfl⟩ ?_ ?_
  · simp only [Sub, subT, subB, subO, subP, inj, AV.ren, AV.lt, eq_self, look, td0, td1, td2, td3, td4, td5, td6, List.map, List.nodup_nil, ↓reduceIte, Nat.reduceEqDiff, reduceCtorEq, Int.natCast_zero, and_self, Nat.succ_ne_zero, Int.natCast_zero]
  · rintro k ⟨hk, hf⟩
    refine sw_run 200 _ _ _ ?_
    by_cases hlt : k < xs.length
    · have hi : (k : Int) < (xs.length : Int) := by omega
      have hR := strs_row xs k hlt
      rw [fi_step s xs k hlt] at hf
      by_cases he : s = xs[k]!
      · rw [if_pos he] at hf
        simp only [fQ, qLp, rowD, xRet, rPs, xRes, flatA, rD, eq_self, xRun, vE, vP, vSub, vLoad, vIdx, vBin, vBinT, isAg, isBo, isCutO, isB, bv, gN, isPick, isCall, AS.pt, AS.ev, look, avB, eatsOf, td0, td1, td2, td3, td4, td5, td6, Option.getD, Option.isSome, List.map, List.getElem?_cons_zero, List.nodup_nil, ↓reduceIte, Nat.reduceLT, Nat.reduceEqDiff, true_and, and_true, or_false, Bool.false_eq_true, reduceCtorEq, Int.toNat_natCast, Int.natCast_nonneg, decide_true, and_self, Nat.succ_ne_zero, hi, hR, he, Tryz.results31]
        rw [← he]; exact hf
      · rw [if_neg he] at hf
        simp only [qLp, rowD, eq_self, xRun, vE, vP, vSub, vLoad, vIdx, vBin, vBinT, isAg, isBo, isCutO, isB, bv, gN, isPick, isCall, AS.pt, AS.ev, look, cav, avB, td0, td1, td2, td3, td4, td5, td6, Option.getD, Option.isSome, List.map, List.getElem?_cons_zero, ↓reduceIte, Nat.reduceLT, Nat.reduceEqDiff, true_and, Bool.false_eq_true, reduceCtorEq, Int.toNat_natCast, Int.natCast_nonneg, decide_true, decide_false, and_self, Nat.succ_ne_zero, hi, hR, he, qLp]
        refine ⟨by unfold inI; omega, k + 1, id, ⟨by omega, hf⟩, by omega, ?_⟩
        simp only [Sub, subT, subB, subO, subP, inj, AV.ren, AV.lt, eq_self, look, td0, td1, td2, td3, td4, td5, td6, List.map, List.nodup_nil, ↓reduceIte, Nat.reduceEqDiff, reduceCtorEq, and_self, Nat.succ_ne_zero, cast1]
    · have hi : ¬ (k : Int) < (xs.length : Int) := by omega
      rw [fi_end s xs k (by omega)] at hf
      simp only [qLp, eq_self, xRun, vE, vP, vBin, vBinT, isAg, isBo, isCutO, isB, bv, gN, isPick, isCall, popTo, AS.pt, AS.ev, look, td0, td1, td2, td3, td4, td5, td6, Option.getD, Option.isSome, ↓reduceIte, Nat.reduceLT, Nat.reduceEqDiff, true_and, Bool.false_eq_true, Int.reduceNeg, decide_false, hi]
      refine sw_run 200 _ _ _ ?_
      simp only [fQ, xRet, rPs, xRes, flatA, rD, eq_self, xRun, vE, vP, isCutO, gN, isPick, isCall, AS.pt, AS.ev, look, cav, eatsOf, td0, td1, td2, td3, td4, td5, td6, List.map, List.nodup_nil, ↓reduceIte, Nat.reduceLT, or_false, Bool.false_eq_true, reduceCtorEq, Int.reduceNeg, and_self, ← hf, Tryz.results31]
theorem con_IndexOfS (xs : List ByteArray) (s : ByteArray) (hl : xs.length ≤ 1000000000) : Con Tryz.prog 40 [.one (strsD xs), .one (.str s)] [.one (.int (fi s xs 0))] := by
  refine con_run Tryz.func40 rfl rfl (by simp [Tryz.ntmps40]) ?_
  simp only [argT, argA, strsD, eq_self, xRun, vE, vP, isCutO, gN, isPick, isCall, AS.pt, AS.ev, cav, avB, td0, td1, td2, td3, td4, td5, td6, ↓reduceIte, Nat.reduceLT, Nat.zero_add, true_and, Bool.false_eq_true, Int.reduceNeg, Tryz.ntmps40]
  refine sw_loop (fun k : Nat => k ≤ xs.length ∧ fi s (xs.drop k) k = fi s xs 0) (fun k => ⟨19, [(5, .i k), (0, .br (.rows 1 xs.length (xs.map D.str))), (1, .s s)], [], [], 0, []⟩) (fun k => xs.length - k) 0 id ⟨Nat.zero_le _, rfl⟩ ?_ ?_
  · simp only [Sub, subT, subB, subO, subP, inj, AV.ren, AV.lt, eq_self, look, td0, td1, td2, td3, td4, td5, td6, List.map, List.nodup_nil, ↓reduceIte, Nat.reduceEqDiff, reduceCtorEq, Int.natCast_zero, and_self, Nat.succ_ne_zero, Int.natCast_zero]
  · rintro k ⟨hk, hf⟩
    refine sw_run 200 _ _ _ ?_
    by_cases hlt : k < xs.length
    · have hi : (k : Int) < (xs.length : Int) := by omega
      have hR := strs_row xs k hlt
      rw [fi_step s xs k hlt] at hf
      by_cases he : xs[k]! = s
      · rw [if_pos he.symm] at hf
        simp only [fQ, qLp, rowD, xRet, rPs, xRes, flatA, rD, eq_self, xRun, vE, vP, vSub, vLoad, vIdx, vBin, vBinT, isAg, isBo, vLen, isCutO, isB, bv, gN, isPick, isCall, AS.pt, AS.ev, AS.rd, look, avB, eatsOf, td0, td1, td2, td3, td4, td5, td6, Option.getD, Option.isSome, List.map, List.getElem?_cons_zero, List.nodup_nil, ↓reduceIte, Nat.reduceLT, Nat.reduceEqDiff, true_and, and_true, or_false, Bool.false_eq_true, reduceCtorEq, Int.toNat_natCast, Int.natCast_nonneg, decide_true, and_self, Nat.succ_ne_zero, hi, hR, eq_true he, Tryz.results40]
        exact hf
      · rw [if_neg (fun e => he e.symm)] at hf
        simp only [qLp, rowD, eq_self, xRun, vE, vP, vSub, vLoad, vIdx, vBin, vBinT, isAg, isBo, vLen, isCutO, isB, bv, gN, isPick, isCall, AS.pt, AS.ev, AS.rd, look, cav, avB, td0, td1, td2, td3, td4, td5, td6, Option.getD, Option.isSome, List.map, List.getElem?_cons_zero, ↓reduceIte, Nat.reduceLT, Nat.reduceEqDiff, true_and, Bool.false_eq_true, reduceCtorEq, Int.toNat_natCast, Int.natCast_nonneg, decide_true, decide_false, and_self, Nat.succ_ne_zero, hi, hR, he, qLp]
        refine ⟨by unfold inI; omega, k + 1, id, ⟨by omega, hf⟩, by omega, ?_⟩
        simp only [Sub, subT, subB, subO, subP, inj, AV.ren, AV.lt, eq_self, look, td0, td1, td2, td3, td4, td5, td6, List.map, List.nodup_nil, ↓reduceIte, Nat.reduceEqDiff, reduceCtorEq, and_self, Nat.succ_ne_zero, cast1]
    · have hi : ¬ (k : Int) < (xs.length : Int) := by omega
      rw [fi_end s xs k (by omega)] at hf
      simp only [qLp, eq_self, xRun, vE, vP, vBin, vBinT, isAg, isBo, vLen, isCutO, isB, bv, gN, isPick, isCall, popTo, AS.pt, AS.ev, AS.rd, look, td0, td1, td2, td3, td4, td5, td6, Option.getD, Option.isSome, ↓reduceIte, Nat.reduceLT, Nat.reduceEqDiff, true_and, Bool.false_eq_true, reduceCtorEq, Int.reduceNeg, decide_false, hi]
      refine sw_run 200 _ _ _ ?_
      simp only [fQ, xRet, rPs, xRes, flatA, rD, eq_self, xRun, vE, vP, isCutO, gN, isPick, isCall, AS.pt, AS.ev, look, cav, eatsOf, td0, td1, td2, td3, td4, td5, td6, List.map, List.nodup_nil, ↓reduceIte, Nat.reduceLT, or_false, Bool.false_eq_true, reduceCtorEq, Int.reduceNeg, and_self, ← hf, Tryz.results40]
def byteI (s : ByteArray) (i : Nat) : Int := (((s.data.getD i 0).toNat : Nat) : Int)
def chOk (s : ByteArray) (i : Nat) : Bool := (decide (97 ≤ byteI s i) && decide (byteI s i ≤ 122)) || (!decide (i = 0) && (decide (48 ≤ byteI s i) && decide (byteI s i ≤ 57)))
def chAll (s : ByteArray) : Nat → Bool
  | 0 => true
  | k + 1 => chAll s k && chOk s k
theorem chAll_le (s : ByteArray) : ∀ n k, k ≤ n → chAll s k = false → chAll s n = false
  | 0, k, h, e => by obtain rfl : k = 0 := by omega
                     exact e
  | n + 1, k, h, e => by
    by_cases hk : k = n + 1
    · subst hk; exact e
    · rw [chAll, chAll_le s n k (by omega) e]; rfl
def kwIf : ByteArray := ⟨#[105, 102]⟩
def kwLet : ByteArray := ⟨#[108, 101, 116]⟩
def kwLift : ByteArray := ⟨#[108, 105, 102, 116]⟩
def kwRec : ByteArray := ⟨#[114, 101, 99]⟩
def kwRun : ByteArray := ⟨#[114, 117, 110]⟩
def nmB (s : ByteArray) : Bool := chAll s s.size && ((decide (1 ≤ (s.size : Int)) && decide ((s.size : Int) ≤ 4)) && !decide (0 ≤ fi s [kwIf, kwLet, kwLift, kwRec, kwRun] 0))
theorem fi_kw (s : ByteArray) : decide (0 ≤ fi s [kwIf, kwLet, kwLift, kwRec, kwRun] 0) = decide (s = ⟨#[105, 102]⟩ ∨ s = ⟨#[108, 101, 116]⟩ ∨ s = ⟨#[114, 101, 99]⟩ ∨ s = ⟨#[114, 117, 110]⟩ ∨ s = ⟨#[108, 105, 102, 116]⟩) := by
  simp only [fi, kwIf, kwLet, kwLift, kwRec, kwRun]
  by_cases e1 : s = ⟨#[105, 102]⟩
  · simp only [eq_true e1, if_true, true_or, decide_true]; rfl
  by_cases e2 : s = ⟨#[108, 101, 116]⟩
  · simp only [eq_true e2, if_true, true_or, or_true, e1, if_false, decide_true]; rfl
  by_cases e3 : s = ⟨#[108, 105, 102, 116]⟩
  · simp only [eq_true e3, if_true, or_true, e1, e2, if_false, decide_true]; rfl
  by_cases e4 : s = ⟨#[114, 101, 99]⟩
  · simp only [eq_true e4, if_true, true_or, or_true, e1, e2, e3, if_false, decide_true]; rfl
  by_cases e5 : s = ⟨#[114, 117, 110]⟩
  · simp only [eq_true e5, if_true, true_or, or_true, e1, e2, e3, e4, if_false, decide_true]; rfl
  simp only [e1, e2, e3, e4, e5, if_false, or_self]; rfl
theorem byte_cases (c : Int) : c < 48 ∨ (48 ≤ c ∧ c ≤ 57) ∨ (57 < c ∧ c < 97) ∨ (97 ≤ c ∧ c ≤ 122) ∨ 122 < c := by omega
end Go.Proofs.YtfbjdeeomjfhkaaGreatDoor
