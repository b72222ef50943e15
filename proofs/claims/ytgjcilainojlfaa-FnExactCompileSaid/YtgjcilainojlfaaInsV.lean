/-
  Shapes of the places of code: the search of the program and the one of the reference give one table. No function of the program is walked here.
-/
import Derived.Test.YtgjcilainojlfaaTyC
import Derived.Test.YtgjcilainojlfaaDat
import Derived.Test.YtgjcilainojlfaaTmV
/-
  Numbers of the language.
-/
namespace Go.Proofs.Ytgjcilainojlfaa
open Go.RowKit
set_option linter.unusedVariables false
set_option linter.unusedSimpArgs false
set_option maxRecDepth 20000
end Go.Proofs.Ytgjcilainojlfaa
namespace Go.Proofs.Ytgjcilainojlfaa
open Go.RowKit
set_option linter.unusedVariables false
set_option linter.unusedSimpArgs false
structure Shp where
  known : Bool
  h : Int
  d : Int
  b : Int
  deriving Inhabited, DecidableEq
def s0 : Shp := ⟨true, 0, 0, 0⟩
end Go.Proofs.Ytgjcilainojlfaa
/-
  Instructions of both sides: validity, names of operations.
-/
namespace Go.Proofs.Ytgjcilainojlfaa
open Go.RowKit
set_option linter.unusedVariables false
set_option linter.unusedSimpArgs false
set_option maxRecDepth 20000
def opsL : List ByteArray := [⟨#[43]⟩, ⟨#[45]⟩, ⟨#[42]⟩, ⟨#[61]⟩, ⟨#[60]⟩, ⟨#[38]⟩, ⟨#[124]⟩, ⟨#[33]⟩]
theorem con_opsI : Con Try.prog 128 [] [.one (strsD opsL)] := by
  refine con_run Try.func128 rfl rfl (by simp [Try.ntmps128]) ?_
  simp only [argT, fQ, strsD, xRet, rPs, xRes, flatA, rD, eq_self, xRun, vE, vP, vRow, isCutO, xFill, gN, isPick, isCall, AS.pt, AS.ev, AS.mk', AS.owf, kill, look, cav, setRowG, AV.cells, AV.whole, AV.one, cD, cDs, eatsOf, dpOf, td0, td1, td2, td3, td4, td5, td6, Option.bind, Option.getD, Option.isSome, List.map, List.length, List.set, List.foldr, List.all, List.replicate, List.not_mem_nil, List.nodup_cons, List.nodup_nil, ↓reduceIte, Nat.reduceLT, Nat.reduceAdd, Nat.reduceLeDiff, Nat.zero_add, Nat.mul_one, not_false_eq_true, or_false, or_true, Bool.and_true, Bool.false_eq_true, id_eq, reduceCtorEq, and_self, Nat.succ_ne_zero, Nat.le_refl, opsL, Try.ntmps128, Try.results128]
theorem con_opsS : Con Try.prog 134 [] [.one (strsD opsL)] := by
  refine con_run Try.func134 rfl rfl (by simp [Try.ntmps134]) ?_
  simp only [argT, fQ, strsD, xRet, rPs, xRes, flatA, rD, eq_self, xRun, vE, vP, vRow, isCutO, xFill, gN, isPick, isCall, AS.pt, AS.ev, AS.mk', AS.owf, kill, look, cav, setRowG, AV.cells, AV.whole, AV.one, cD, cDs, eatsOf, dpOf, td0, td1, td2, td3, td4, td5, td6, Option.bind, Option.getD, Option.isSome, List.map, List.length, List.set, List.foldr, List.all, List.replicate, List.not_mem_nil, List.nodup_cons, List.nodup_nil, ↓reduceIte, Nat.reduceLT, Nat.reduceAdd, Nat.reduceLeDiff, Nat.zero_add, Nat.mul_one, not_false_eq_true, or_false, or_true, Bool.and_true, Bool.false_eq_true, id_eq, reduceCtorEq, and_self, Nat.succ_ne_zero, Nat.le_refl, opsL, Try.ntmps134, Try.results134]
end Go.Proofs.Ytgjcilainojlfaa
