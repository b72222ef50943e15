/-
  The nodes of terms, of both sides: arguments, names, fields.
-/
import Derived.Test.YtgjcilainojlfaaAll
import Derived.Test.YtgjcilainojlfaaNm
import Derived.Test.YtgjcilainojlfaaEqT
namespace Go.Proofs.Ytgjcilainojlfaa
open Go.RowKit
set_option linter.unusedVariables false
set_option linter.unusedSimpArgs false
set_option maxRecDepth 20000
theorem pc (p : Prop) : (p = True) ∨ (p = False) := by
  by_cases h : p
  · exact .inl (eq_true h)
  · exact .inr (eq_false h)
def opAr (s : ByteArray) : Int := if s = ⟨#[43]⟩ then 2 else if s = ⟨#[45]⟩ then 2 else if s = ⟨#[42]⟩ then 2 else if s = ⟨#[61]⟩ then 2 else if s = ⟨#[60]⟩ then 2 else if s = ⟨#[38]⟩ then 2 else if s = ⟨#[124]⟩ then 2 else if s = ⟨#[33]⟩ then 1 else 0
theorem op_cases (s : ByteArray) : ((s = ⟨#[43]⟩) = True ∨ ((s = ⟨#[43]⟩) = False ∧ ((s = ⟨#[45]⟩) = True ∨ ((s = ⟨#[45]⟩) = False ∧ ((s = ⟨#[42]⟩) = True ∨ ((s = ⟨#[42]⟩) = False ∧ ((s = ⟨#[61]⟩) = True ∨ ((s = ⟨#[61]⟩) = False ∧ ((s = ⟨#[60]⟩) = True ∨ ((s = ⟨#[60]⟩) = False ∧ ((s = ⟨#[38]⟩) = True ∨ ((s = ⟨#[38]⟩) = False ∧ ((s = ⟨#[124]⟩) = True ∨ ((s = ⟨#[124]⟩) = False ∧ ((s = ⟨#[33]⟩) = True ∨ (s = ⟨#[33]⟩) = False))))))))))))))) := by
  refine (pc _).imp id fun h0 => ⟨h0, ?_⟩
  refine (pc _).imp id fun h1 => ⟨h1, ?_⟩
  refine (pc _).imp id fun h2 => ⟨h2, ?_⟩
  refine (pc _).imp id fun h3 => ⟨h3, ?_⟩
  refine (pc _).imp id fun h4 => ⟨h4, ?_⟩
  refine (pc _).imp id fun h5 => ⟨h5, ?_⟩
  refine (pc _).imp id fun h6 => ⟨h6, ?_⟩
  exact pc _
theorem con_OpArI (s : ByteArray) : Con Try.prog 126 [.one (.str s)] [.one (.int (opAr s))] := by
  unfold opAr
  rcases op_cases s with h0 | ⟨h0, h1 | ⟨h1, h2 | ⟨h2, h3 | ⟨h3, h4 | ⟨h4, h5 | ⟨h5, h6 | ⟨h6, h7 | h7⟩⟩⟩⟩⟩⟩⟩
  all_goals
    refine con_run Try.func126 rfl rfl (by simp [Try.ntmps126]) ?_
    simp only [argT, argA, fQ, xRet, rPs, xRes, flatA, rD, eq_self, xRun, vE, vP, vBin, vBinT, isAg, isBo, isCutO, isB, bv, gN, isPick, isCall, AS.pt, AS.ev, look, cav, avB, eatsOf, td0, td1, td2, td3, td4, td5, td6, Option.getD, List.map, List.nodup_nil, ↓reduceIte, Nat.reduceLT, Nat.reduceEqDiff, or_false, Bool.false_eq_true, reduceCtorEq, decide_true, decide_false, and_self, *, Try.ntmps126, Try.results126]
theorem con_OpArS (s : ByteArray) : Con Try.prog 104 [.one (.str s)] [.one (.int (opAr s))] := by
  unfold opAr
  rcases op_cases s with h0 | ⟨h0, h1 | ⟨h1, h2 | ⟨h2, h3 | ⟨h3, h4 | ⟨h4, h5 | ⟨h5, h6 | ⟨h6, h7 | h7⟩⟩⟩⟩⟩⟩⟩
  all_goals
    refine con_run Try.func104 rfl rfl (by simp [Try.ntmps104]) ?_
    simp only [argT, argA, fQ, xRet, rPs, xRes, flatA, rD, eq_self, xRun, vE, vP, vBin, vBinT, isAg, isBo, isCutO, isB, bv, gN, isPick, isCall, AS.pt, AS.ev, look, cav, avB, eatsOf, td0, td1, td2, td3, td4, td5, td6, Option.getD, List.map, List.nodup_nil, ↓reduceIte, Nat.reduceLT, Nat.reduceEqDiff, or_false, Bool.false_eq_true, reduceCtorEq, decide_true, decide_false, and_self, *, Try.ntmps104, Try.results104]
def ks (k : Int) : Prop := k ≠ 1 ∧ k ≠ 2 ∧ k ≠ 3 ∧ k ≠ 4 ∧ k ≠ 5 ∧ k ≠ 6 ∧ k ≠ 7 ∧ k ≠ 8 ∧ k ≠ 9 ∧ k ≠ 10 ∧ k ≠ 11 ∧ k ≠ 12 ∧ k ≠ 13
end Go.Proofs.Ytgjcilainojlfaa
