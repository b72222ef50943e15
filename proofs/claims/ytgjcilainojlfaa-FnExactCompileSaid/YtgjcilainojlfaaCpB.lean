/-
  The program's compiler: one instruction; the simple forms.
-/
import Derived.Test.YtgjcilainojlfaaDat
import Derived.Test.YtgjcilainojlfaaCox
import Derived.Lib.SlicesS
import Derived.LoopN
import Derived.Test.YtgjcilainojlfaaInsV
import Derived.Test.YtgjcilainojlfaaTmC
import Derived.Test.YtgjcilainojlfaaFzb
import Derived.Test.YtgjcilainojlfaaFv
/-
  Compilation: plain functions over code and what waits; how they lie in memory. No function of the program is walked here.
-/
/-
  A frozen slice held against nil; slices.Clone and slices.Clip.
-/
namespace Go.Proofs.Ytgjcilainojlfaa
open Go.RowKit
set_option linter.unusedVariables false
set_option linter.unusedSimpArgs false
theorem sw_nilE {P : Program} {all rest : List Oper} {st : List It} {dst : Option Tmp} {T T' : TypeId} {x : Operand} {ty : TypeId} {pos : String} {af : Array Edge} {gd : Option (Nat × Bool)} {s : AS} {Q : QE} {sz n : Nat} {cs : List D} {q : TypeId × Nat}
    (hx : s.ev x = .br (.rows sz n cs)) (ht : tElem P T = some q) (h1 : n = 0 → SW P (.ops all rest :: st) (s.pt dst (.b true)) Q) (h2 : SW P (.ops all rest :: st) (s.pt dst (.b false)) Q) :
    SW P (.ex all ⟨dst, .binOp .eql T x (.const (.slice none 0 0)) T', ty, pos, af, gd⟩ rest :: st) s Q := fun w0 G a w hr => by
  have hv := hr.ev x
  rw [hx] at hv
  unfold RV RepP at hv
  obtain ⟨a0, cap, e, _, _, _, h5⟩ := hv
  unfold tElem at ht
  split at ht
  · rename_i el hu
    show (Oper.mk dst (.binOp .eql T x (.const (.slice none 0 0)) T') ty pos af gd).wp P a w _ _
    unfold Oper.wp
    have hrun : (execOp a.eval ⟨dst, .binOp .eql T x (.const (.slice none 0 0)) T', ty, pos, af, gd⟩).run P w = .ok (.value (.bool a0.isNone)) w := by
      have e2 : a.eval (.const (.slice none 0 0)) = .slice none 0 0 := rfl
      have e3 : (eqGuard .eql T x (.const (.slice none 0 0)) (.slice a0 n cap) (.slice none 0 0)).run P w = .ok () w := rfl
      simp only [execOp, e, e2, Sem.run_bind, e3, Result.andThen_ok, Lib.run_eql_slice_nil w T el a0 n cap 0 0 hu, Sem.run_pure]
    rw [hrun]
    cases a0 with
    | none =>
      have hn : n = 0 := by
        rcases h5 with h5 | ⟨_, _, _, h6, _⟩
        · exact h5
        · cases h6
      exact h1 hn w0 G _ w (hr.pt dst (by unfold RV; rfl))
    | some b => exact h2 w0 G _ w (hr.pt dst (by unfold RV; rfl))
  · cases ht
end Go.Proofs.Ytgjcilainojlfaa
namespace Go.Proofs.Ytgjcilainojlfaa
open Go.RowKit
set_option linter.unusedVariables false
set_option linter.unusedSimpArgs false
structure Wt where
  pl : Int
  nms : List ByteArray
  body : Tm
  deriving Inhabited
def wtC (x : Wt) : List D := [.int x.pl, .rows 1 x.nms.length (x.nms.map D.str), .int x.body.kind, .str x.body.name, .str x.body.other, .int x.body.n, .int x.body.ty.kind, .rows 2 x.body.ty.args.length (tysC x.body.ty.args), .int x.body.res.kind, .rows 2 x.body.res.args.length (tysC x.body.res.args), .rows 9 x.body.args.length (tmsC x.body.args)]
theorem wtC_len (x : Wt) : (wtC x).length = 11 := rfl
structure CS where
  code : List Ins
  q : List Wt
  deriving Inhabited
def csP (T : TypeId) (s : CS) : List CD := [.a 78 (.rows 2 s.code.length (flC insC s.code)), .q T (.rows 11 s.q.length (flC wtC s.q))]
def putC (s : CS) (op a : Int) : CS := ⟨s.code ++ [⟨op, a⟩], s.q⟩
def setA (s : CS) (k : Nat) (a : Int) : CS := ⟨s.code.set k ⟨(s.code[k]!).op, a⟩, s.q⟩
def addQ (s : CS) (x : Wt) : CS := ⟨s.code, s.q ++ [x]⟩
def lsN (xs : List ByteArray) (x : ByteArray) : Nat → Int
  | 0 => -1
  | k + 1 => if xs[k]! = x then (k : Int) else lsN xs x k
def plN (xs : List ByteArray) (x : ByteArray) : Int := (xs.length : Int) - 1 - lsN xs x xs.length
abbrev CF := List ByteArray → CS → CS
instance : Inhabited CF := ⟨fun _ s => s⟩
def allF (fs : List CF) (nms : List ByteArray) (s : CS) : CS := fs.foldl (fun s f => f nms s) s
def ifF (fs : List CF) (nms : List ByteArray) (s : CS) : CS :=
  let s1 := putC ((fs[0]!) nms s) 6 0
  let s2 := putC ((fs[1]!) nms s1) 5 0
  let s3 := (fs[2]!) nms (setA s2 (((fs[0]!) nms s).code.length) s2.code.length)
  setA s3 (((fs[1]!) nms s1).code.length) s3.code.length
def cpF (k : Int) (nm ot : ByteArray) (n : Int) (args : List Tm) (fs : List CF) (nms : List ByteArray) (s : CS) : CS :=
  if k = 2 then putC s 1 n
  else if k = 3 then putC s 2 n
  else if k = 1 then putC s 3 (plN nms nm)
  else if k = 4 then putC (allF fs nms s) 4 (fi nm opsL 0 + 1)
  else if k = 5 then ifF fs nms s
  else if k = 6 then addQ (putC s 7 0) ⟨s.code.length, nms ++ [nm], args[0]!⟩
  else if k = 9 then addQ (putC s 8 0) ⟨s.code.length, nms ++ [nm, ot], args[0]!⟩
  else if k = 7 then putC ((fs[1]!) nms ((fs[0]!) nms s)) 9 0
  else if k = 8 then putC ((fs[1]!) (nms ++ [nm]) (putC ((fs[0]!) nms s) 11 0)) 12 0
  else s
mutual
def cpT : Tm → CF
  | .mk k nm ot n _ _ args => cpF k nm ot n args (cpTs args)
def cpTs : List Tm → List CF
  | [] => []
  | a :: l => cpT a :: cpTs l
end
theorem cpTs_map : ∀ l, cpTs l = l.map cpT
  | [] => rfl
  | a :: l => by rw [cpTs, cpTs_map l]; rfl
theorem cpT_eq (e : Tm) : cpT e = cpF e.kind e.name e.other e.n e.args (e.args.map cpT) := by
  obtain ⟨k, nm, ot, n, ty, rs, args⟩ := e
  rw [cpT, cpTs_map]; rfl
def cmL : Nat → Nat → CS → CS
  | 0, _, s => s
  | f + 1, i, s => if i < s.q.length ∧ s.code.length ≤ 300 then cmL f (i + 1) (putC (cpT (s.q[i]!).body (s.q[i]!).nms (setA s (s.q[i]!).pl.toNat s.code.length)) 10 0) else s
def cmS (e : Tm) : CS := cmL 400 0 (putC (cpT e [] ⟨[], []⟩) 10 0)
end Go.Proofs.Ytgjcilainojlfaa
namespace Go.Proofs.Ytgjcilainojlfaa
open Go.RowKit
set_option linter.unusedVariables false
set_option linter.unusedSimpArgs false
set_option maxRecDepth 20000
def Room (e : Tm) (names : List ByteArray) (s : CS) : Prop := szL (tmC e) ≤ 2000000 ∧ names.length + 2 * (szL (tmC e) + 1) ≤ 10000000 ∧ s.code.length + 2 * (szL (tmC e) + 1) ≤ 10000000 ∧ s.q.length + 2 * (szL (tmC e) + 1) ≤ 10000000000
theorem con_putI (code : List Ins) (op a : Int) (hl : code.length ≤ 100000000) (x : Value) (hx : x.oneCell' = true) : ConP Try.prog 55 (.p [.a 78 (.rows 2 code.length (flC insC code)), .v x] :: [PD.one (.int op), PD.one (.int a)].map PA.b) [[.a 78 (.rows 2 (code ++ [(⟨op, a⟩ : Ins)]).length (flC insC (code ++ [(⟨op, a⟩ : Ins)]))), .v x]] [.one (.o (.int code.length))] := by
  have hA : flC insC (code ++ [(⟨op, a⟩ : Ins)]) = flC insC code ++ [.int op, .int a] := by rw [flC_app, flC_one]; rfl
  have hL : (code ++ [(⟨op, a⟩ : Ins)]).length = code.length + 1 := by rw [List.length_append]; rfl
  rw [hA, hL]
  simp only [List.map]
  refine con_runP Try.func55 rfl rfl (by simp [Try.ntmps55]) rfl ?_
  simp only [s0P, mkPs, mkPA, mkC, fQP, xRetP, rRs, rOs, rC, rCs, eRs, eOs, eC, eCs, argA, numT, xRes, rD, eq_self, xRun, vE, vP, vSub, vLoad, vFld, vBin, vBinT, isAg, isBo, vLen, vBuild, vRow, vStore, vApp, apP, apC, isCl, isCutO, xFill, appL, appR, gN, isPick, isCall, AS.pt, AS.ev, AS.box, AS.setb, AS.mk', AS.owf, AS.rd, kill, look, cav, avB, setRowG, AV.cells, AV.whole, AV.one, cD, cDs, eatsOf, dpOf, td0, td1, td2, td3, td4, td5, td6, Option.bind, Option.getD, Option.map, Option.isSome, List.map, List.length, List.getElem?_cons_zero, List.getElem?_cons_succ, List.set, List.foldr, List.all, List.replicate, List.mem_cons, List.not_mem_nil, List.nodup_cons, List.nodup_nil, List.nil_append, List.cons_append, List.append_nil, ↓reduceIte, Nat.reduceLT, Nat.reduceAdd, Nat.reduceLeDiff, Nat.reduceEqDiff, Nat.zero_add, Nat.add_zero, Nat.zero_mul, Nat.one_mul, ne_eq, not_false_eq_true, true_and, and_true, or_false, or_true, Bool.and_true, Bool.false_eq_true, id_eq, reduceCtorEq, and_self, Nat.succ_ne_zero, Nat.le_refl, Try.ntmps55, Try.results55]
  exact ⟨⟨fun h => h.elim, fun o ho => by omega, by unfold maxLen; omega, by omega⟩, by unfold inI; omega, by omega⟩
theorem con_putC (s : CS) (op a : Int) (hl : s.code.length ≤ 100000000) (x : Value) (hx : x.oneCell' = true) : ConP Try.prog 55 (.p [.a 78 (.rows 2 s.code.length (flC insC s.code)), .v x] :: [PD.one (.int op), PD.one (.int a)].map PA.b) [[.a 78 (.rows 2 (putC s op a).code.length (flC insC (putC s op a).code)), .v x]] [.one (.o (.int s.code.length))] := con_putI s.code op a hl x hx
theorem set_ins (a : Int) : ∀ (l : List Ins) (k : Nat), k < l.length → (flC insC l).set (k * 2 + 1) (.int a) = flC insC (l.set k ⟨(l[k]!).op, a⟩)
  | [], k, h => by simp at h
  | x :: l, 0, _ => rfl
  | x :: l, k + 1, h => by
    have ih := set_ins a l k (by simpa using h)
    show (D.int x.op :: D.int x.a :: flC insC l).set ((k + 1) * 2 + 1) (.int a) = D.int x.op :: D.int x.a :: flC insC (l.set k ⟨((x :: l)[k + 1]!).op, a⟩)
    rw [show (k + 1) * 2 + 1 = (k * 2 + 1) + 1 + 1 by omega, List.set_cons_succ, List.set_cons_succ, ih, List.getElem!_cons_succ]
theorem set_code (s : CS) (k : Nat) (a : Int) (h : k < s.code.length) : (flC insC s.code).set (k * 2 + 1) (.int a) = flC insC (setA s k a).code := set_ins a s.code k h
theorem on_rng (s : ByteArray) (xs : List ByteArray) (hs : xs.length ≤ 1000) : inI (fi s xs 0 + 1) := by
  have := fi_range s xs 0 (by omega)
  unfold inI; omega
theorem con_onI (s : ByteArray) : Con Try.prog 99 [.one (.str s)] [.one (.int (fi s opsL 0 + 1))] := by
  have hin := on_rng s opsL (by decide)
  have h := con_Index opsL s (by decide)
  refine con_run Try.func99 rfl rfl (by simp [Try.ntmps99]) ?_
  simp only [argT, argA, eq_self, xRun, vE, vP, isCutO, gN, isPick, isCall, AS.pt, AS.ev, cav, avB, td0, td1, td2, td3, td4, td5, td6, ↓reduceIte, Nat.reduceLT, true_and, Bool.false_eq_true, Try.ntmps99]
  refine sw_call (con_opsI) rfl (aAs_ok ?_) ?_ (sw_run 200 _ _ _ ?_)
  · simp only [aAs, List.map, List.append_nil]
  · simp only [okR]
  simp only [mkR, flatD, packA, retA, List.headD_cons, strsD, eq_self, xRun, vE, vP, isCutO, gN, isPick, isCall, AS.pt, AS.ev, AS.mk', kill, look, td0, td1, td2, td3, td4, td5, td6, Option.getD, List.foldr, ↓reduceIte, Nat.reduceLT, Nat.zero_add, true_and, Bool.false_eq_true, reduceCtorEq]
  refine sw_call (h) rfl (aAs_ok ?_) ?_ (sw_run 200 _ _ _ ?_)
  · simp only [aAs, aA, aD, strsD, AS.ev, AS.owf, look, Option.bind, Option.getD, id_eq, List.map, List.append_nil, ↓reduceIte, Nat.reduceEqDiff, eq_self, and_self]
  · simp only [okR]
  simp only [mkR, flatD, packA, retA, List.headD_cons, fQ, xRet, rPs, xRes, flatA, rD, eq_self, xRun, vE, vP, vBin, vBinT, isAg, isBo, isCutO, gN, isPick, isCall, AS.pt, AS.ev, look, cav, eatsOf, td0, td1, td2, td3, td4, td5, td6, Option.getD, List.map, List.nodup_nil, ↓reduceIte, Nat.reduceLT, or_false, Bool.false_eq_true, reduceCtorEq, and_self, hin, Try.results99]
theorem con_CloneN (xs : List ByteArray) (hl : xs.length ≤ 100000000) : ConP Try.prog 100 [.b (.one (.rows 1 xs.length (xs.map D.str)))] [] [.one (.a 9 (.rows 1 xs.length (xs.map D.str)))] := by
  have hp : ∀ d ∈ xs.map D.str, d.prim = true := prim_strs xs
  refine con_runP Try.func100 rfl rfl (by simp [Try.ntmps100]) rfl ?_
  simp only [s0P, mkPs, mkPA, argA, numT, eq_self, xRun, vE, vP, isCutO, gN, isPick, isCall, AS.pt, AS.ev, look, cav, avB, td0, td1, td2, td3, td4, td5, td6, Option.getD, ↓reduceIte, Nat.reduceLT, true_and, Bool.false_eq_true, reduceCtorEq, Try.ntmps100]
  refine sw_nilE (q := (9, 1)) rfl (by simp only [td0, td1, td2, td3, td4, td5, td6]) (fun h0 => ?_) ?_
  · obtain rfl := List.eq_nil_of_length_eq_zero h0
    refine sw_run 200 _ _ _ ?_
    simp only [fQP, xRetP, rRs, rOs, rC, eRs, eOs, eC, xRes, eq_self, xRun, vE, vP, isCutO, isB, bv, gN, isPick, isCall, AS.pt, AS.ev, look, cav, td0, td1, td2, td3, td4, td5, td6, Option.getD, List.map, List.length, List.nodup_nil, List.append_nil, ↓reduceIte, Nat.reduceLT, or_false, Bool.false_eq_true, reduceCtorEq, and_self, Try.results100]
  · refine sw_run 200 _ _ _ ?_
    simp only [fQP, xRetP, rRs, rOs, rC, eRs, eOs, eC, xRes, eq_self, xRun, vE, vP, vRow, vApp, apP, apC, isCl, isCutO, xFill, appL, appR, isB, bv, gN, isPick, isCall, AS.pt, AS.ev, AS.mk', AS.owf, kill, look, cDs, eatsOf, td0, td1, td2, td3, td4, td5, td6, Option.bind, Option.getD, Option.isSome, List.map, List.foldr, List.all, List.replicate, List.mem_cons, List.not_mem_nil, List.nodup_cons, List.nodup_nil, List.nil_append, List.append_nil, ↓reduceIte, Nat.reduceLT, Nat.reduceAdd, Nat.reduceEqDiff, Nat.zero_add, Nat.mul_one, not_false_eq_true, true_and, and_true, or_false, or_true, Bool.and_true, Bool.not_false, Bool.false_eq_true, id_eq, reduceCtorEq, and_self, Nat.zero_le, Try.results100]
    exact ⟨fun _ => hp, fun _ _ => trivial, by unfold maxLen; omega, by omega⟩
theorem addQ_code (s : CS) (x : Wt) : (addQ s x).code = s.code := rfl
theorem csP_put (T : TypeId) (s : CS) (op a : Int) : csP T (putC s op a) = [.a 78 (.rows 2 (s.code ++ [(⟨op, a⟩ : Ins)]).length (flC insC (s.code ++ [(⟨op, a⟩ : Ins)]))), .q T (.rows 11 s.q.length (flC wtC s.q))] := rfl
theorem csP_eq (T : TypeId) (s : CS) : csP T s = [.a 78 (.rows 2 s.code.length (flC insC s.code)), .q T (.rows 11 s.q.length (flC wtC s.q))] := rfl
theorem con_cp2 (e : Tm) (names : List ByteArray) (s : CS) (hr : Room e names s) (hk : e.kind = 2) : ConP Try.prog 54 [.p (csP 109 s), .b (.one (strsD names)), .b (.ag (tmC e))] [csP 109 (cpT e names s)] [] := by
  obtain ⟨hz, h1, h2, h3⟩ := hr
  have hT : cpT e names s = putC s 1 e.n := by rw [cpT_eq, cpF, if_pos hk]
  have hP := con_putI s.code 1 e.n (by omega)
  rw [hT, csP_put, csP_eq]
  refine con_runP Try.func54 rfl rfl (by simp [Try.ntmps54]) rfl ?_
  simp only [s0P, mkPs, mkPA, mkC, argA, numT, tysD, tmsD, strsD, eq_self, xRun, vE, vP, vSub, vLoad, vFld, vBin, vBinT, isAg, isBo, isCutO, isB, bv, gN, isPick, isCall, AS.pt, AS.ev, AS.box, AS.mk', kill, look, cav, avB, AV.cells, AV.whole, AV.one, td0, td1, td2, td3, td4, td5, td6, Option.getD, Option.isSome, List.map, List.getElem?_cons_zero, List.getElem?_cons_succ, List.foldr, List.all, List.nil_append, ↓reduceIte, Nat.reduceLT, Nat.reduceAdd, Nat.reduceEqDiff, Nat.zero_add, Nat.add_zero, ne_eq, not_false_eq_true, true_and, Bool.and_true, Bool.false_eq_true, reduceCtorEq, decide_true, Nat.succ_ne_zero, tmC_eq, strsD, tysD, tmsD, hk, Try.ntmps54]
  refine sw_callV (hP) rfl rfl rfl rfl rfl (by decide) ?_ (sw_run 200 _ _ _ ?_)
  · simp only [AS.kb, rmBs, rmB, mPs, mP, aA, aD, AS.kl, eq_self, AS.ev, kill, look, cav, td0, td1, td2, td3, td4, td5, td6, Option.getD, List.map, List.foldr, List.nil_append, List.cons_append, ↓reduceIte, Nat.reduceEqDiff, and_self]
  simp only [fQP, xRetP, rRs, rOs, rC, rCs, eRs, eOs, eC, eCs, AS.kb, rmBs, rmB, AS.kl, eq_self, xRun, AS.pt, AS.mk', AS.owf, kill, look, td0, td1, td2, td3, td4, td5, td6, Option.bind, List.map, List.foldr, List.mem_cons, List.not_mem_nil, List.nodup_cons, List.nodup_nil, List.nil_append, List.cons_append, List.append_nil, ↓reduceIte, Nat.reduceLT, Nat.reduceAdd, Nat.reduceEqDiff, not_false_eq_true, or_false, or_true, id_eq, reduceCtorEq, and_self, Nat.succ_ne_zero, aftV2, Try.results54]
theorem con_cp3 (e : Tm) (names : List ByteArray) (s : CS) (hr : Room e names s) (hk : e.kind = 3) : ConP Try.prog 54 [.p (csP 109 s), .b (.one (strsD names)), .b (.ag (tmC e))] [csP 109 (cpT e names s)] [] := by
  obtain ⟨hz, h1, h2, h3⟩ := hr
  have hT : cpT e names s = putC s 2 e.n := by rw [cpT_eq, cpF, if_neg (by omega), if_pos hk]
  have hP := con_putI s.code 2 e.n (by omega)
  rw [hT, csP_put, csP_eq]
  refine con_runP Try.func54 rfl rfl (by simp [Try.ntmps54]) rfl ?_
  simp only [s0P, mkPs, mkPA, mkC, argA, numT, tysD, tmsD, strsD, eq_self, xRun, vE, vP, vSub, vLoad, vFld, vBin, vBinT, isAg, isBo, isCutO, isB, bv, gN, isPick, isCall, AS.pt, AS.ev, AS.box, AS.mk', kill, look, cav, avB, AV.cells, AV.whole, AV.one, td0, td1, td2, td3, td4, td5, td6, Option.getD, Option.isSome, List.map, List.getElem?_cons_zero, List.getElem?_cons_succ, List.foldr, List.all, List.nil_append, ↓reduceIte, Nat.reduceLT, Nat.reduceAdd, Nat.reduceEqDiff, Nat.zero_add, Nat.add_zero, ne_eq, not_false_eq_true, true_and, Bool.and_true, Bool.false_eq_true, reduceCtorEq, Int.reduceEq, decide_true, decide_false, Nat.succ_ne_zero, tmC_eq, strsD, tysD, tmsD, hk, Try.ntmps54]
  refine sw_callV (hP) rfl rfl rfl rfl rfl (by decide) ?_ (sw_run 200 _ _ _ ?_)
  · simp only [AS.kb, rmBs, rmB, mPs, mP, aA, aD, AS.kl, eq_self, AS.ev, kill, look, cav, td0, td1, td2, td3, td4, td5, td6, Option.getD, List.map, List.foldr, List.nil_append, List.cons_append, ↓reduceIte, Nat.reduceEqDiff, and_self]
  simp only [fQP, xRetP, rRs, rOs, rC, rCs, eRs, eOs, eC, eCs, AS.kb, rmBs, rmB, AS.kl, eq_self, xRun, AS.pt, AS.mk', AS.owf, kill, look, td0, td1, td2, td3, td4, td5, td6, Option.bind, List.map, List.foldr, List.mem_cons, List.not_mem_nil, List.nodup_cons, List.nodup_nil, List.nil_append, List.cons_append, List.append_nil, ↓reduceIte, Nat.reduceLT, Nat.reduceAdd, Nat.reduceEqDiff, not_false_eq_true, or_false, or_true, id_eq, reduceCtorEq, and_self, Nat.succ_ne_zero, aftV2, Try.results54]
theorem con_cp1 (e : Tm) (names : List ByteArray) (s : CS) (hr : Room e names s) (hk : e.kind = 1) (hin : e.name ∈ names) : ConP Try.prog 54 [.p (csP 109 s), .b (.one (strsD names)), .b (.ag (tmC e))] [csP 109 (cpT e names s)] [] := by
  obtain ⟨hz, h1, h2, h3⟩ := hr
  have hT : cpT e names s = putC s 3 (plN names e.name) := by rw [cpT_eq, cpF, if_neg (by omega), if_neg (by omega), if_pos hk]
  rw [hT, csP_put, csP_eq]
  have hpos : 0 < names.length := List.length_pos_of_mem hin
  refine con_runP Try.func54 rfl rfl (by simp [Try.ntmps54]) rfl ?_
  simp only [s0P, mkPs, mkPA, mkC, argA, numT, tysD, tmsD, strsD, eq_self, xRun, vE, vP, vSub, vLoad, vFld, vBin, vBinT, isAg, isBo, vLen, isCutO, isB, bv, gN, isPick, isCall, AS.pt, AS.ev, AS.box, AS.mk', AS.rd, kill, look, cav, avB, AV.cells, AV.whole, AV.one, td0, td1, td2, td3, td4, td5, td6, Option.getD, Option.isSome, List.map, List.getElem?_cons_zero, List.foldr, List.all, List.nil_append, ↓reduceIte, Nat.reduceLT, Nat.reduceAdd, Nat.reduceEqDiff, Nat.zero_add, Nat.add_zero, ne_eq, not_false_eq_true, true_and, Bool.and_true, Bool.false_eq_true, Int.reduceEq, decide_true, decide_false, Nat.succ_ne_zero, tmC_eq, strsD, tysD, tmsD, hk, Try.ntmps54]
  refine ⟨by unfold inI; omega, ?_⟩
  refine sw_loop (fun k : Nat => k < names.length ∧ e.name ∈ names.take (k + 1) ∧ lsN names e.name (k + 1) = lsN names e.name names.length) (fun k => ⟨209, [(6, .i k), (5, .bx 3 0), (0, .bx 2 0), (1, (.br (.rows 1 names.length (names.map D.str))))], [(3, [.i 1, .s e.name, .s e.other, .i e.n, .i e.ty.kind, .br (.rows 2 e.ty.args.length (tysC e.ty.args)), .i e.res.kind, .br (.rows 2 e.res.args.length (tysC e.res.args)), .br (.rows 9 e.args.length (tmsC e.args))]), (2, [.sl 0, .sl 1])], [(1, some ⟨.rows 11 s.q.length (flC wtC s.q), some 109, false⟩), (0, some ⟨.rows 2 s.code.length (flC insC s.code), some 78, true⟩)], 4, [2]⟩) (fun k => k) (names.length - 1) id ⟨by omega, ?_, ?_⟩ ?_ ?_
  · rw [List.take_of_length_le (by omega)]; exact hin
  · rw [show names.length - 1 + 1 = names.length by omega]
  · simp only [Sub, subT, subB, subO, subP, inj, AV.ren, AV.rens, AV.lt, AV.lts, eq_self, AS.owf, look, td0, td1, td2, td3, td4, td5, td6, Option.bind, List.map, List.mem_cons, List.not_mem_nil, List.nodup_cons, List.nodup_nil, ↓reduceIte, Nat.reduceLT, Nat.reduceEqDiff, not_false_eq_true, or_false, id_eq, reduceCtorEq, and_self, Nat.succ_ne_zero, show ((names.length - 1 : Nat) : Int) = (names.length : Int) - 1 by omega]
  · rintro k ⟨hk0, hm, hl⟩
    refine sw_run 200 _ _ _ ?_
    have hi : (k : Int) < (names.length : Int) := by omega
    have hR := strs_row names k hk0
    simp only [eq_self, xRun, td0, td1, td2, td3, td4, td5, td6, ↓reduceIte]
    refine sw_drawn (.cons 0 true (.cons 1 true (.cons 2 true (.cons 3 true (.cons 4 true (.cons 5 true (.cons 6 true (.nil)))))))) (by kernel_rfl) qLp_panic (by kernel_rfl) (sw_run 200 _ _ _ ?_)
    by_cases he : names[k]! = e.name
    · rw [lsN, if_pos he] at hl
      have hP := con_putI s.code 3 (plN names e.name) (by omega)
      have hpl : (names.length : Int) - 1 - (k : Int) = plN names e.name := by unfold plN; rw [← hl]
      simp only [qLp, rowD, eq_self, xRun, vP, vSub, vLoad, vFld, vIdx, vBin, vBinT, isAg, isBo, isB, bv, gN, isPick, popTo, AS.pt, AS.ev, look, avB, td0, td1, td2, td3, td4, td5, td6, Option.getD, Option.isSome, List.map, List.getElem?_cons_zero, List.getElem?_cons_succ, ↓reduceIte, Nat.reduceLT, Nat.reduceEqDiff, Nat.zero_add, ne_eq, not_false_eq_true, not_true_eq_false, true_and, Bool.false_eq_true, Int.toNat_natCast, Int.natCast_nonneg, decide_false, and_self, Nat.succ_ne_zero, hi, hR, he]
      refine sw_run 200 _ _ _ ?_
      simp only [eq_self, xRun, vE, vP, vBin, vBinT, isAg, isBo, vLen, isCutO, gN, isPick, isCall, AS.pt, AS.ev, AS.rd, look, cav, td0, td1, td2, td3, td4, td5, td6, Option.getD, ↓reduceIte, Nat.reduceLT, Nat.reduceEqDiff, true_and, Bool.false_eq_true, reduceCtorEq, Nat.succ_ne_zero, hpl]
      refine ⟨by unfold inI; omega, by unfold inI; omega, ?_⟩
      refine sw_callV (hP) rfl rfl rfl rfl rfl (by decide) ?_ (sw_run 200 _ _ _ ?_)
      · simp only [AS.kb, rmBs, rmB, mPs, mP, aA, aD, AS.kl, eq_self, AS.ev, kill, look, cav, td0, td1, td2, td3, td4, td5, td6, Option.getD, List.map, List.foldr, List.nil_append, List.cons_append, ↓reduceIte, Nat.reduceEqDiff, and_self]
      simp only [fQP, xRetP, rRs, rOs, rC, rCs, eRs, eOs, eC, eCs, AS.kb, rmBs, rmB, AS.kl, eq_self, xRun, AS.pt, AS.mk', AS.owf, kill, look, td0, td1, td2, td3, td4, td5, td6, Option.bind, List.map, List.foldr, List.mem_cons, List.not_mem_nil, List.nodup_cons, List.nodup_nil, List.nil_append, List.cons_append, List.append_nil, ↓reduceIte, Nat.reduceLT, Nat.reduceAdd, Nat.reduceEqDiff, not_false_eq_true, or_false, or_true, id_eq, reduceCtorEq, and_self, Nat.succ_ne_zero, aftV2, Try.results54]
    · rw [lsN, if_neg he] at hl
      have hm' : e.name ∈ names.take k := by
        rw [take_snoc names k hk0, List.mem_append, List.mem_singleton] at hm
        exact hm.resolve_right fun h => he h.symm
      have hk1 : 0 < k := by
        rcases Nat.eq_zero_or_pos k with e0 | e0
        · subst e0; simp at hm'
        · exact e0
      simp only [qLp, rowD, eq_self, xRun, vE, vP, vSub, vLoad, vFld, vIdx, vBin, vBinT, isAg, isBo, isCutO, isB, bv, gN, isPick, isCall, AS.pt, AS.ev, look, cav, avB, td0, td1, td2, td3, td4, td5, td6, Option.getD, Option.isSome, List.map, List.getElem?_cons_zero, List.getElem?_cons_succ, ↓reduceIte, Nat.reduceLT, Nat.reduceEqDiff, Nat.zero_add, ne_eq, not_false_eq_true, true_and, Bool.false_eq_true, Int.toNat_natCast, Int.natCast_nonneg, decide_true, and_self, Nat.succ_ne_zero, hi, hR, he, qLp]
      refine ⟨by unfold inI; omega, k - 1, id, ⟨by omega, by rw [show k - 1 + 1 = k by omega]; exact hm', by rw [show k - 1 + 1 = k by omega]; exact hl⟩, by omega, ?_⟩
      simp only [Sub, subT, subB, subO, subP, inj, AV.ren, AV.rens, AV.lt, AV.lts, eq_self, AS.owf, look, td0, td1, td2, td3, td4, td5, td6, Option.bind, List.map, List.mem_cons, List.not_mem_nil, List.nodup_cons, List.nodup_nil, ↓reduceIte, Nat.reduceLT, Nat.reduceEqDiff, not_false_eq_true, or_false, id_eq, reduceCtorEq, and_self, Nat.succ_ne_zero, show ((k - 1 : Nat) : Int) = (k : Int) - 1 by omega]
end Go.Proofs.Ytgjcilainojlfaa
