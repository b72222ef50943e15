/-
  Compile of both sides.
-/
import Derived.Test.YtgjcilainojlfaaCpP
import Derived.Test.YtgjcilainojlfaaInsV
import Derived.Test.YtgjcilainojlfaaFvI
import Derived.Test.YtgjcilainojlfaaCpS
import Derived.Test.YtgjcilainojlfaaFvS
/-
  Compilation: what waits, and the whole, plainly.
-/
namespace Go.Proofs.Ytgjcilainojlfaa
open Go.RowKit
set_option linter.unusedVariables false
set_option linter.unusedSimpArgs false
structure OkS (i : Nat) (s : CS) : Prop where
  code : s.code.length ≤ 4000400
  some : i < s.code.length
  q : s.q.length ≤ (i + 1) * 4000002
  wt : ∀ x ∈ s.q, WtOk 10000000 x ∧ 0 ≤ x.pl ∧ x.pl < (s.code.length : Int)
theorem okS_room {i : Nat} {s : CS} {x : Wt} (h : OkS i s) (hx : x ∈ s.q) (hc : s.code.length ≤ 300) (k : Nat) (a : Int) : Room x.body x.nms (setA s k a) ∧ plT x.body = true ∧ Cov x.nms x.body := by
  obtain ⟨⟨h1, h2, h3, h4⟩, _⟩ := h.wt x hx
  have hq := h.q
  have hi := h.some
  refine ⟨⟨h3, h4, by rw [setA_len]; omega, by rw [setA_q]; omega⟩, h1, h2⟩
theorem okS_step {i : Nat} {s : CS} {x : Wt} (h : OkS i s) (hx : x ∈ s.q) (hc : s.code.length ≤ 300) (k : Nat) (a : Int) : OkS (i + 1) (putC (cpT x.body x.nms (setA s k a)) 10 0) := by
  obtain ⟨⟨h1, h2, h3, h4⟩, _⟩ := h.wt x hx
  have g := cp_gr 10000000 x.body h3 x.nms (setA s k a) h1 h2 h4
  have g1 := g.code; have g2 := g.q; have g3 := g.nw
  rw [setA_len] at g1
  rw [setA_q] at g2 g3
  have hq := h.q
  have hi := h.some
  refine ⟨by rw [putC_len]; omega, by rw [putC_len]; omega, by rw [putC_q]; omega, fun y hy => ?_⟩
  rw [putC_q] at hy
  rw [putC_len]
  rcases g3 y hy with hy | ⟨a1, a2, a3⟩
  · obtain ⟨b1, b2, b3⟩ := h.wt y hy
    exact ⟨b1, b2, by omega⟩
  · exact ⟨a1, a2, by omega⟩
theorem okS_first {e : Tm} (hz : szL (tmC e) ≤ 2000000) (hp : plT e = true) (hf : freeT e = []) : Room e [] ⟨[], []⟩ ∧ Cov [] e ∧ OkS 0 (putC (cpT e [] ⟨[], []⟩) 10 0) := by
  have hc := Cov.nil hf
  have g := cp_gr 10000000 e hz [] ⟨[], []⟩ hp hc (by simp only [List.length_nil]; omega)
  have g1 := g.code; have g2 := g.q; have g3 := g.nw
  simp only [List.length_nil] at g1 g2
  refine ⟨⟨hz, by simp only [List.length_nil]; omega, by simp only [List.length_nil]; omega, by simp only [List.length_nil]; omega⟩, hc, by rw [putC_len]; omega, by rw [putC_len]; omega, by rw [putC_q]; omega, fun y hy => ?_⟩
  rw [putC_q] at hy
  rw [putC_len]
  rcases g3 y hy with hy | ⟨a1, a2, a3⟩
  · cases hy
  · exact ⟨a1, a2, by omega⟩
structure InL (e : Tm) (f i : Nat) (s : CS) : Prop where
  ok : OkS i s
  fin : cmL f i s = cmS e
  le : i ≤ s.q.length
  fuel : 302 ≤ f + s.code.length
theorem inL_first {e : Tm} (h : OkS 0 (putC (cpT e [] ⟨[], []⟩) 10 0)) : InL e 400 0 (putC (cpT e [] ⟨[], []⟩) 10 0) := ⟨h, rfl, Nat.zero_le _, by omega⟩
theorem inL_step {e : Tm} {f i : Nat} {s : CS} (h : InL e f i s) (hi : i < s.q.length) (hc : s.code.length ≤ 300) : ∃ f', f = f' + 1 ∧ InL e f' (i + 1) (putC (cpT (s.q[i]!).body (s.q[i]!).nms (setA s (s.q[i]!).pl.toNat s.code.length)) 10 0) := by
  have hf := h.fuel
  obtain ⟨f', rfl⟩ : ∃ f', f = f' + 1 := ⟨f - 1, by omega⟩
  have hm := mem_bang hi
  have hok := okS_step h.ok hm hc (s.q[i]!).pl.toNat s.code.length
  have hfin := h.fin
  rw [cmL, if_pos ⟨hi, hc⟩] at hfin
  obtain ⟨⟨h1, h2, h3, h4⟩, _⟩ := h.ok.wt _ hm
  have g := cp_gr 10000000 (s.q[i]!).body h3 (s.q[i]!).nms (setA s (s.q[i]!).pl.toNat s.code.length) h1 h2 h4
  have g1 := g.code; have g2 := g.q
  rw [setA_len] at g1
  rw [setA_q] at g2
  exact ⟨f', rfl, hok, hfin, by rw [putC_q]; omega, by rw [putC_len]; omega⟩
theorem inL_done {e : Tm} {f i : Nat} {s : CS} (h : InL e f i s) (hi : ¬ (i < s.q.length ∧ s.code.length ≤ 300)) : s = cmS e := by
  have hfin := h.fin
  cases f with
  | zero => exact hfin
  | succ f => rw [cmL, if_neg hi] at hfin; exact hfin
def cmB (e : Tm) : Bool := plT e && decide (((freeT e).length : Int) = 0)
def cmR (e : Tm) : List Ins × Bool := if cmB e = true then (if 300 < (cmS e).code.length then ([], false) else ((cmS e).code, true)) else ([], false)
theorem wtC_row (q : List Wt) (i : Nat) (h : i < q.length) : rowAt 11 (flC wtC q) i = [.int (q[i]!).pl, .rows 1 (q[i]!).nms.length ((q[i]!).nms.map D.str), .int (q[i]!).body.kind, .str (q[i]!).body.name, .str (q[i]!).body.other, .int (q[i]!).body.n, .int (q[i]!).body.ty.kind, .rows 2 (q[i]!).body.ty.args.length (tysC (q[i]!).body.ty.args), .int (q[i]!).body.res.kind, .rows 2 (q[i]!).body.res.args.length (tysC (q[i]!).body.res.args), .rows 9 (q[i]!).body.args.length (tmsC (q[i]!).body.args)] := flC_row wtC_len q i h
theorem cm_len (e : Tm) : (cmR e).1.length ≤ 300 := by
  unfold cmR
  split
  · split
    · exact Nat.zero_le _
    · rename_i h; show (cmS e).code.length ≤ 300; omega
  · exact Nat.zero_le _
theorem sz_insL : ∀ l : List Ins, szL (flC insC l) = 0
  | [] => rfl
  | x :: l => by rw [flC, szL_append, sz_insL l]; rfl
theorem cm_fit (e : Tm) : Conf (inssD (cmR e).1) (.sl .instr) ∧ cntD (inssD (cmR e).1) ≤ 17592186044416 := by
  have hl := cm_len e
  have hc : Conf (inssD (cmR e).1) (.sl .instr) := conf_fl .instr (sz := 2) insC rfl insC_len (by unfold maxLen; omega) fun y _ => by
    simp only [insC, K.fields, ConfL]
    exact ⟨_, _, rfl, by unfold Conf; rfl, _, _, rfl, by unfold Conf; rfl, rfl⟩
  have := cntD_bd hc
  have hs : szD (inssD (cmR e).1) ≤ 600 := by unfold inssD szD; rw [sz_insL]; omega
  exact ⟨hc, by omega⟩
end Go.Proofs.Ytgjcilainojlfaa
/-
  Closed terms: the program's function.
-/
namespace Go.Proofs.Ytgjcilainojlfaa
open Go.RowKit
set_option linter.unusedVariables false
set_option linter.unusedSimpArgs false
set_option maxRecDepth 20000
theorem con_ClosedI (t : Tm) (hz : szL (tmC t) ≤ 3000000) : Con Try.prog 53 [.ag (tmC t)] [.one (.bool (decide (((freeT t).length : Int) = 0)))] := by
  have hc := con_FreeP t hz
  simp only [strsD] at hc
  refine con_run Try.func53 rfl rfl (by simp [Try.ntmps53]) ?_
  simp only [argT, argA, tysD, tmsD, eq_self, xRun, vE, vP, vSub, vLoad, isCutO, gN, isPick, isCall, AS.pt, AS.ev, AS.box, look, cav, avB, AV.cells, AV.whole, AV.one, td0, td1, td2, td3, td4, td5, td6, Option.getD, List.map, List.take, List.drop, List.length, List.all, ↓reduceIte, Nat.reduceLT, Nat.reduceAdd, Nat.reduceEqDiff, Nat.zero_add, true_and, Bool.and_true, Bool.false_eq_true, Nat.le_refl, tmC_eq, Try.ntmps53]
  refine sw_callP (hc) rfl rfl rfl rfl ?_ ?_ ?_ (sw_run 200 _ _ _ ?_)
  · simp only [AS.kb, rmBs, mPs, mP, ePs, eP, bPs, bP, aA, aDs, aD, AS.kl, tysD, tmsD, eq_self, AS.ev, kill, look, td0, td1, td2, td3, td4, td5, td6, Option.getD, List.map, List.foldr, List.append_nil, ↓reduceIte, and_self, tmC_eq]
  · simp only [ePs, eP, tysD, tmsD, eq_self, AS.ev, look, td0, td1, td2, td3, td4, td5, td6, Option.getD, List.map, List.nodup_nil, List.append_nil, ↓reduceIte, tmC_eq]
  · simp only [bPs, bP, tysD, tmsD, eq_self, AS.ev, look, td0, td1, td2, td3, td4, td5, td6, Option.getD, List.map, List.nodup_nil, List.append_nil, ↓reduceIte, tmC_eq]
  simp only [mkC, aftS, aftV, AS.kb, rmBs, mkO, packRA, flatR, ePs, eP, bPs, bP, AS.kl, retA, List.headD_cons, fQ, xRet, rPs, xRes, flatA, rD, eq_self, xRun, vE, vP, vBin, vBinT, isAg, isBo, vLen, isCutO, gN, isPick, isCall, AS.pt, AS.ev, AS.mk', AS.owf, AS.rd, kill, look, cav, eatsOf, td0, td1, td2, td3, td4, td5, td6, Option.bind, Option.getD, Option.map, List.map, List.foldr, List.nodup_nil, List.append_nil, ↓reduceIte, Nat.reduceLT, Nat.reduceAdd, or_false, Bool.false_eq_true, id_eq, reduceCtorEq, and_self, Try.results53]
end Go.Proofs.Ytgjcilainojlfaa
namespace Go.Proofs.Ytgjcilainojlfaa
open Go.RowKit
set_option linter.unusedVariables false
set_option linter.unusedSimpArgs false
set_option maxRecDepth 20000
theorem con_CompI (e : Tm) (hz : szL (tmC e) ≤ 2000000) : Con Try.prog 22 [.ag (tmC e)] [.one (inssD (cmR e).1), .one (.bool (cmR e).2)] := by
  have hC := con_ClosedI e (by omega)
  unfold cmR cmB inssD
  have hP : Con Try.prog 52 [.ag (tmC e)] [.one (.bool (plT e))] := by rw [← pl_same]; exact con_IsPlainI e (by omega)
  cases hp : plT e with
  | false =>
    rw [hp] at hP
    simp only [Bool.false_and, Bool.false_eq_true, if_false, List.length_nil, flC]
    refine con_run Try.func22 rfl rfl (by simp [Try.ntmps22]) ?_
    simp only [argT, argA, tysD, tmsD, eq_self, xRun, vE, vP, vSub, vLoad, isCutO, gN, isPick, isCall, AS.pt, AS.ev, AS.box, look, cav, avB, AV.cells, AV.whole, AV.one, td0, td1, td2, td3, td4, td5, td6, Option.getD, List.map, List.take, List.drop, List.length, List.all, ↓reduceIte, Nat.reduceLT, Nat.reduceAdd, Nat.reduceEqDiff, Nat.zero_add, true_and, Bool.and_true, Bool.false_eq_true, Nat.le_refl, tmC_eq, tysD, tmsD, Try.ntmps22]
    refine sw_call (hP) rfl (aAs_ok ?_) ?_ (sw_run 200 _ _ _ ?_)
    · simp only [aAs, aA, aDs, aD, tysD, tmsD, AS.ev, look, Option.getD, List.map, List.append_nil, ↓reduceIte, eq_self, and_self, tmC_eq, tysD, tmsD]
    · simp only [okR]
    simp only [mkR, flatD, packA, retA, List.headD_cons, fQ, xRet, rPs, xRes, flatA, rD, eq_self, xRun, vE, vP, vNot, isCutO, isB, bv, gT, gW, gN, gV, isU, isPick, pkC, pkA, isCall, AS.pt, AS.kn, AS.ev, look, cav, eatsOf, td0, td1, td2, td3, td4, td5, td6, Option.bind, Option.getD, Option.isSome, List.map, List.getElem?_cons_zero, List.getElem?_cons_succ, List.nodup_nil, ↓reduceIte, Nat.reduceLT, Nat.reduceEqDiff, or_false, Bool.not_false, Bool.false_eq_true, Bool.true_eq_false, reduceCtorEq, and_self, Try.results22]
  | true =>
  rw [hp] at hP
  by_cases hl : ((freeT e).length : Int) = 0
  case neg =>
    rw [decide_eq_false hl] at hC
    simp only [decide_eq_false hl, Bool.and_false, Bool.false_eq_true, if_false, List.length_nil, flC]
    refine con_run Try.func22 rfl rfl (by simp [Try.ntmps22]) ?_
    simp only [argT, argA, tysD, tmsD, eq_self, xRun, vE, vP, vSub, vLoad, isCutO, gN, isPick, isCall, AS.pt, AS.ev, AS.box, look, cav, avB, AV.cells, AV.whole, AV.one, td0, td1, td2, td3, td4, td5, td6, Option.getD, List.map, List.take, List.drop, List.length, List.all, ↓reduceIte, Nat.reduceLT, Nat.reduceAdd, Nat.reduceEqDiff, Nat.zero_add, true_and, Bool.and_true, Bool.false_eq_true, Nat.le_refl, tmC_eq, tysD, tmsD, Try.ntmps22]
    refine sw_call (hP) rfl (aAs_ok ?_) ?_ (sw_run 200 _ _ _ ?_)
    · simp only [aAs, aA, aDs, aD, tysD, tmsD, AS.ev, look, Option.getD, List.map, List.append_nil, ↓reduceIte, eq_self, and_self, tmC_eq, tysD, tmsD]
    · simp only [okR]
    simp only [mkR, flatD, packA, retA, List.headD_cons, eq_self, xRun, vE, vP, vSub, vLoad, vNot, isCutO, isB, bv, gT, gW, gN, gV, isU, isPick, isCall, AS.pt, AS.kn, AS.ev, look, td0, td1, td2, td3, td4, td5, td6, Option.bind, Option.getD, Option.isSome, List.take, List.drop, List.length, List.getElem?_cons_zero, List.getElem?_cons_succ, ↓reduceIte, Nat.reduceLT, Nat.reduceAdd, Nat.reduceEqDiff, Nat.zero_add, true_and, Bool.not_true, Bool.false_eq_true, and_self, Nat.le_refl]
    refine sw_call (hC) rfl (aAs_ok ?_) ?_ (sw_run 200 _ _ _ ?_)
    · simp only [aAs, aA, aDs, aD, tysD, tmsD, AS.ev, look, Option.getD, List.map, List.append_nil, ↓reduceIte, Nat.reduceEqDiff, eq_self, and_self, tmC_eq, tysD, tmsD]
    · simp only [okR]
    simp only [mkR, flatD, packA, retA, List.headD_cons, fQ, xRet, rPs, xRes, flatA, rD, eq_self, xRun, vE, vP, vNot, isCutO, isB, bv, gT, gW, gN, gV, isU, isPick, pkC, pkB, isCall, AS.pt, AS.kn, AS.ev, look, cav, eatsOf, td0, td1, td2, td3, td4, td5, td6, Option.bind, Option.getD, Option.isSome, List.map, List.getElem?_cons_zero, List.getElem?_cons_succ, List.nodup_nil, ↓reduceIte, Nat.reduceLT, Nat.reduceEqDiff, or_false, Bool.not_false, Bool.false_eq_true, reduceCtorEq, and_self, Try.results22]
  rw [decide_eq_true hl] at hC
  simp only [decide_eq_true hl, Bool.and_true, if_true]
  have hf : freeT e = [] := List.eq_nil_of_length_eq_zero (by omega)
  obtain ⟨hr, hcv, hok⟩ := okS_first hz hp hf
  have c0 := con_cpI e [] ⟨[], []⟩ hr hp hcv
  have hin := inL_first hok
  obtain ⟨s1, hs1⟩ : ∃ s1, s1 = cpT e [] ⟨[], []⟩ := ⟨_, rfl⟩
  rw [← hs1] at c0 hin hok
  have hb := hok.code
  rw [putC_len] at hb
  have hPut := con_putC s1 10 0 (by omega)
  simp only [strsD, csP_eq, List.length_nil, List.map_nil, flC] at c0
  refine con_run Try.func22 rfl rfl (by simp [Try.ntmps22]) ?_
  simp only [argT, argA, tysD, tmsD, eq_self, xRun, vE, vP, vSub, vLoad, isCutO, gN, isPick, isCall, AS.pt, AS.ev, AS.box, look, cav, avB, AV.cells, AV.whole, AV.one, td0, td1, td2, td3, td4, td5, td6, Option.getD, List.map, List.take, List.drop, List.length, List.all, ↓reduceIte, Nat.reduceLT, Nat.reduceAdd, Nat.reduceEqDiff, Nat.zero_add, true_and, Bool.and_true, Bool.false_eq_true, Nat.le_refl, tmC_eq, tysD, tmsD, Try.ntmps22]
  refine sw_call (hP) rfl (aAs_ok ?_) ?_ (sw_run 200 _ _ _ ?_)
  · simp only [aAs, aA, aDs, aD, tysD, tmsD, AS.ev, look, Option.getD, List.map, List.append_nil, ↓reduceIte, eq_self, and_self, tmC_eq, tysD, tmsD]
  · simp only [okR]
  simp only [mkR, flatD, packA, retA, List.headD_cons, eq_self, xRun, vE, vP, vSub, vLoad, vNot, isCutO, isB, bv, gT, gW, gN, gV, isU, isPick, isCall, AS.pt, AS.kn, AS.ev, look, td0, td1, td2, td3, td4, td5, td6, Option.bind, Option.getD, Option.isSome, List.take, List.drop, List.length, List.getElem?_cons_zero, List.getElem?_cons_succ, ↓reduceIte, Nat.reduceLT, Nat.reduceAdd, Nat.reduceEqDiff, Nat.zero_add, true_and, Bool.not_true, Bool.false_eq_true, and_self, Nat.le_refl]
  refine sw_call (hC) rfl (aAs_ok ?_) ?_ (sw_run 200 _ _ _ ?_)
  · simp only [aAs, aA, aDs, aD, tysD, tmsD, AS.ev, look, Option.getD, List.map, List.append_nil, ↓reduceIte, Nat.reduceEqDiff, eq_self, and_self, tmC_eq, tysD, tmsD]
  · simp only [okR]
  simp only [mkR, flatD, packA, retA, List.headD_cons, eq_self, xRun, vE, vP, vSub, vLoad, vNot, vBuild, isCutO, xFill, isB, bv, gT, gW, gN, gV, isU, isPick, pkC, pkB, isCall, AS.pt, AS.kn, AS.ev, AS.box, look, AV.cells, AV.whole, AV.one, td0, td1, td2, td3, td4, td5, td6, Option.bind, Option.getD, Option.isSome, List.map, List.take, List.drop, List.length, List.getElem?_cons_zero, List.getElem?_cons_succ, List.all, ↓reduceIte, Nat.reduceLT, Nat.reduceAdd, Nat.reduceEqDiff, Nat.zero_add, true_and, Bool.and_true, Bool.not_true, Bool.false_eq_true, reduceCtorEq, and_self, Nat.le_refl]
  
  
  refine sw_callPR (c0) rfl rfl rfl ?_ ?_ ?_ (sw_run 200 _ _ _ ?_)
  · simp only [mPs, mP, rCs, rC, aA, aDs, aD, AS.em, AS.ev, look, cav, tysD, tmsD, Option.getD, List.map, List.append_nil, ↓reduceIte, Nat.reduceEqDiff, eq_self, and_self, tmC_eq, tysD, tmsD]
  · simp only [eCs, eC, ePs, eP, AS.ev, look, cav, tysD, tmsD, Option.getD, List.map, List.append_nil, List.nodup_nil, ↓reduceIte, Nat.reduceEqDiff, eq_self, tmC_eq, tysD, tmsD]
  · simp only [bPs, bP, AS.ev, look, cav, tysD, tmsD, Option.getD, List.map, List.append_nil, List.nodup_nil, List.nodup_cons, List.not_mem_nil, not_false_eq_true, ↓reduceIte, Nat.reduceEqDiff, eq_self, and_self, tmC_eq, tysD, tmsD]
  simp only [mkC, eC, eCs, aftS, aftV, AS.kb, rmBs, rmB, mkO, packRA, flatR, ePs, eP, bPs, bP, AS.kl, retA, tysD, tmsD, eq_self, xRun, vE, vP, isCutO, gN, isPick, isCall, AS.pt, AS.ev, AS.mk', kill, look, cav, td0, td1, td2, td3, td4, td5, td6, Option.getD, List.map, List.foldr, List.append_nil, ↓reduceIte, Nat.reduceLT, Nat.reduceAdd, Nat.reduceEqDiff, true_and, Bool.false_eq_true, reduceCtorEq, tmC_eq, tysD, tmsD]
  refine sw_callV (hPut) rfl rfl rfl rfl rfl (by decide) ?_ (sw_run 200 _ _ _ ?_)
  · simp only [AS.kb, rmBs, rmB, mPs, mP, aA, aD, AS.kl, eq_self, AS.ev, kill, cav, td0, td1, td2, td3, td4, td5, td6, List.map, List.foldr, List.nil_append, ↓reduceIte, reduceCtorEq, and_self]
  simp only [AS.kb, rmBs, rmB, AS.kl, eq_self, xRun, vE, vP, isCutO, gN, isPick, isCall, AS.pt, AS.ev, AS.mk', kill, cav, td0, td1, td2, td3, td4, td5, td6, List.foldr, ↓reduceIte, Nat.reduceLT, Nat.reduceAdd, true_and, Bool.false_eq_true, reduceCtorEq, aftV2]
  refine sw_loop (fun p : Nat × Nat × CS => InL e p.1 p.2.1 p.2.2) (fun p => ⟨77, [(5, .i p.2.1), (4, .bx 1 0)], [(1, [.sl 2, .sl 3])], [(2, some ⟨.rows 2 p.2.2.code.length (flC insC p.2.2.code), some 78, true⟩), (3, some ⟨.rows 11 p.2.2.q.length (flC wtC p.2.2.q), some 109, false⟩)], 4, []⟩) (fun p => p.1) (400, 0, putC s1 10 0) (rnL [(2, 4)]) hin ?_ ?_
  · simp only [Sub, subT, subB, subO, subP, inj, AV.ren, AV.rens, AV.lt, AV.lts, eq_self, AS.owf, look, td0, td1, td2, td3, td4, td5, td6, Option.bind, Option.getD, List.map, List.mem_cons, List.not_mem_nil, List.nodup_cons, List.nodup_nil, ↓reduceIte, Nat.reduceLT, Nat.reduceEqDiff, not_false_eq_true, or_false, id_eq, Int.natCast_zero, and_self, rnL, Int.natCast_zero, putC_q]
  · rintro ⟨f, i, s⟩ hI
    simp only at hI
    refine sw_run 200 _ _ _ ?_
    have hle := hI.le
    have hok2 := hI.ok
    have hcs := hok2.code
    have hqs := hok2.q
    have his := hok2.some
    by_cases hlt : i < s.q.length
    · have hi2 : (i : Int) < (s.q.length : Int) := by omega
      by_cases h300 : s.code.length ≤ 300
      · have hc3 : (s.code.length : Int) ≤ 300 := by omega
        have hR := wtC_row s.q i hlt
        have hm := mem_bang hlt
        obtain ⟨f', rfl, hst⟩ := inL_step hI hlt h300
        have hrm := fun k a => okS_room hok2 hm h300 k a
        obtain ⟨_, hp0, hp1⟩ := hok2.wt _ hm
        obtain ⟨x, hx⟩ : ∃ x, x = s.q[i]! := ⟨_, rfl⟩
        rw [← hx] at hR hm hst hrm hp0 hp1
        obtain ⟨hroom, hpl, hcov⟩ := hrm x.pl.toNat s.code.length
        have c1 := con_cpI x.body x.nms (setA s x.pl.toNat s.code.length) hroom hpl hcov
        have w1 := set_code s x.pl.toNat s.code.length (by omega)
        obtain ⟨s2, hs2⟩ : ∃ s2, s2 = cpT x.body x.nms (setA s x.pl.toNat s.code.length) := ⟨_, rfl⟩
        rw [← hs2] at c1 hst
        have hb2 := hst.ok.code
        rw [putC_len] at hb2
        have hP2 := con_putC s2 10 0 (by omega)
        simp only [strsD, csP_eq, setA_q, setA_len] at c1
        simp only [rowD, eq_self, xRun, vE, vP, vSub, vLoad, vFld, vIdx, vBin, vBinT, isAg, isBo, vLen, vStore, isCutO, isB, bv, gT, gW, gN, gV, isU, isPick, pkC, pkA, isCall, AS.pt, AS.kn, AS.ev, AS.box, AS.setb, AS.owf, AS.rd, look, cav, avB, avF, setRowG, AV.cells, AV.whole, AV.one, td0, td1, td2, td3, td4, td5, td6, Option.bind, Option.getD, Option.map, Option.isSome, List.map, List.take, List.drop, List.length, List.getElem?_cons_zero, List.getElem?_cons_succ, List.set, List.all, ↓reduceIte, Nat.reduceLT, Nat.reduceAdd, Nat.reduceEqDiff, Nat.zero_add, Nat.add_zero, ne_eq, not_false_eq_true, true_and, Bool.and_true, Bool.false_eq_true, id_eq, Int.toNat_natCast, Int.natCast_nonneg, decide_true, and_self, Nat.succ_ne_zero, Nat.le_refl, hi2, hc3, hR]
        refine sw_drawn (.cons 0 true (.cons 1 true (.cons 2 true (.cons 3 true (.cons 4 true (.cons 5 true (.cons 6 true (.cons 7 true (.cons 8 true (.cons 9 true (.cons 10 true (.cons 11 true (.cons 12 true (.cons 13 false (.nil))))))))))))))) (by kernel_rfl) qLp_panic (by kernel_rfl) (sw_run 200 _ _ _ ?_)
        simp only [eq_self, xRun, vE, vP, vSub, vLoad, vFld, vIdx, vLen, vStore, vStE, primD, primDs, stDs, AS.setO, AV.unsp, AV.unsps, unspT, unspB, isCutO, gN, isPick, isCall, AS.pt, AS.ev, AS.owf, AS.rd, look, setRowG, AV.cells, td0, td1, td2, td3, td4, td5, td6, Option.bind, Option.getD, Option.map, Option.isSome, List.take, List.drop, List.length, List.getElem?_cons_zero, List.getElem?_cons_succ, ↓reduceIte, Nat.reduceLT, Nat.reduceAdd, Nat.reduceEqDiff, Nat.zero_add, Nat.add_zero, ne_eq, not_false_eq_true, true_and, Bool.false_eq_true, id_eq, and_self, Nat.succ_ne_zero, Nat.le_refl, hp0, hp1, w1]
        refine sw_callPR (c1) rfl rfl rfl ?_ ?_ ?_ (sw_run 200 _ _ _ ?_)
        · simp only [mPs, mP, rCs, rC, aA, aDs, aD, AS.em, AS.ev, AS.owf, look, tysD, tmsD, Option.bind, Option.getD, id_eq, List.map, List.append_nil, ↓reduceIte, Nat.reduceEqDiff, eq_self, and_self, tmC_eq, tysD, tmsD]
        · simp only [eCs, eC, ePs, eP, AS.ev, look, tysD, tmsD, Option.getD, List.map, List.nil_append, List.cons_append, List.append_nil, List.nodup_nil, List.nodup_cons, List.not_mem_nil, List.mem_cons, not_false_eq_true, or_false, ↓reduceIte, Nat.reduceEqDiff, eq_self, and_self, tmC_eq, tysD, tmsD]
        · simp only [bPs, bP, AS.ev, look, tysD, tmsD, Option.getD, List.map, List.append_nil, List.nodup_nil, List.nodup_cons, List.not_mem_nil, not_false_eq_true, ↓reduceIte, Nat.reduceEqDiff, eq_self, and_self, tmC_eq, tysD, tmsD]
        simp only [mkC, eC, eCs, aftS, aftV, AS.kb, rmBs, rmB, mkO, packRA, flatR, ePs, eP, bPs, bP, AS.kl, retA, eq_self, xRun, vE, vP, isCutO, gN, isPick, isCall, AS.pt, AS.ev, AS.mk', kill, look, td0, td1, td2, td3, td4, td5, td6, Option.getD, List.map, List.foldr, List.nil_append, List.cons_append, List.append_nil, ↓reduceIte, Nat.reduceLT, Nat.reduceAdd, Nat.reduceEqDiff, true_and, Bool.false_eq_true]
        refine sw_callV (hP2) rfl rfl rfl rfl rfl (by decide) ?_ (sw_run 200 _ _ _ ?_)
        · simp only [AS.kb, rmBs, rmB, mPs, mP, aA, aD, AS.kl, eq_self, AS.ev, kill, cav, td0, td1, td2, td3, td4, td5, td6, List.map, List.foldr, List.nil_append, ↓reduceIte, Nat.reduceEqDiff, and_self]
        simp only [AS.kb, rmBs, rmB, AS.kl, qLp, eq_self, xRun, vE, vP, vBin, vBinT, isAg, isBo, isCutO, gN, isPick, isCall, AS.pt, AS.ev, AS.mk', kill, look, cav, td0, td1, td2, td3, td4, td5, td6, Option.getD, List.foldr, ↓reduceIte, Nat.reduceLT, Nat.reduceAdd, Nat.reduceEqDiff, true_and, Bool.false_eq_true, aftV2, qLp]
        refine ⟨by unfold inI; omega, (f', i + 1, putC s2 10 0), rnL [(2, 7), (3, 6)], hst, by simp only; omega, ?_⟩
        simp only [Sub, subT, subB, subO, subP, inj, AV.ren, AV.rens, AV.lt, AV.lts, eq_self, AS.owf, look, td0, td1, td2, td3, td4, td5, td6, Option.bind, Option.getD, List.map, List.mem_cons, List.not_mem_nil, List.nodup_cons, List.nodup_nil, ↓reduceIte, Nat.reduceLT, Nat.reduceEqDiff, not_false_eq_true, or_false, id_eq, and_self, rnL, cast1, putC_q]
      · have hc3 : ¬ (s.code.length : Int) ≤ 300 := by omega
        have hd := inL_done hI (fun h => h300 h.2)
        have h4 : 300 < s.code.length := by omega
        have h5 : (300 : Int) < (s.code.length : Int) := by omega
        simp only [qLp, eq_self, xRun, vE, vP, vSub, vLoad, vFld, vBin, vBinT, isAg, isBo, vLen, isCutO, isB, bv, gT, gW, gN, gV, isU, isPick, pkC, pkA, isCall, popTo, AS.pt, AS.kn, AS.ev, AS.owf, AS.rd, look, cav, td0, td1, td2, td3, td4, td5, td6, Option.bind, Option.getD, Option.map, Option.isSome, List.getElem?_cons_zero, List.getElem?_cons_succ, ↓reduceIte, Nat.reduceLT, Nat.reduceEqDiff, Nat.zero_add, Nat.add_zero, ne_eq, not_false_eq_true, true_and, Bool.false_eq_true, id_eq, decide_true, decide_false, and_self, Nat.succ_ne_zero, hi2, hc3]
        refine sw_run 200 _ _ _ ?_
        simp only [fQ, xRet, rPs, xRes, flatA, rD, eq_self, xRun, vE, vP, vSub, vLoad, vFld, vBin, vBinT, isAg, isBo, vLen, isCutO, isB, bv, gN, isPick, isCall, AS.pt, AS.ev, AS.owf, AS.rd, look, cav, eatsOf, td0, td1, td2, td3, td4, td5, td6, Option.bind, Option.getD, Option.map, Option.isSome, List.map, List.length, List.getElem?_cons_zero, List.nodup_nil, ↓reduceIte, Nat.reduceLT, Nat.reduceEqDiff, Nat.add_zero, ne_eq, not_false_eq_true, or_false, Bool.false_eq_true, id_eq, reduceCtorEq, decide_true, and_self, Nat.succ_ne_zero, ← hd, h4, h5, flC, Try.results22]
    · have hi2 : ¬ (i : Int) < (s.q.length : Int) := by omega
      have hd := inL_done hI (fun h => hlt h.1)
      simp only [qLp, eq_self, xRun, vE, vP, vSub, vLoad, vFld, vBin, vBinT, isAg, isBo, vLen, isCutO, isB, bv, gT, gW, gN, gV, isU, isPick, pkC, pkB, isCall, popTo, AS.pt, AS.kn, AS.ev, AS.owf, AS.rd, look, cav, td0, td1, td2, td3, td4, td5, td6, Option.bind, Option.getD, Option.map, Option.isSome, List.getElem?_cons_zero, List.getElem?_cons_succ, ↓reduceIte, Nat.reduceLT, Nat.reduceEqDiff, Nat.zero_add, ne_eq, not_false_eq_true, true_and, Bool.not_true, Bool.false_eq_true, id_eq, decide_false, and_self, Nat.succ_ne_zero, hi2]
      refine sw_run 200 _ _ _ ?_
      by_cases h4 : 300 < s.code.length
      · have h5 : (300 : Int) < (s.code.length : Int) := by omega
        simp only [fQ, xRet, rPs, xRes, flatA, rD, eq_self, xRun, vE, vP, vSub, vLoad, vFld, vBin, vBinT, isAg, isBo, vLen, isCutO, isB, bv, gN, isPick, isCall, AS.pt, AS.ev, AS.owf, AS.rd, look, cav, eatsOf, td0, td1, td2, td3, td4, td5, td6, Option.bind, Option.getD, Option.map, Option.isSome, List.map, List.length, List.getElem?_cons_zero, List.nodup_nil, ↓reduceIte, Nat.reduceLT, Nat.reduceEqDiff, Nat.add_zero, ne_eq, not_false_eq_true, or_false, Bool.false_eq_true, id_eq, reduceCtorEq, decide_true, and_self, Nat.succ_ne_zero, ← hd, h4, h5, flC, Try.results22]
      · have h5 : ¬ (300 : Int) < (s.code.length : Int) := by omega
        simp only [fQ, xRet, rPs, xRes, flatA, rD, eq_self, xRun, vE, vP, vSub, vLoad, vFld, vBin, vBinT, isAg, isBo, vLen, isCutO, isB, bv, gN, isPick, isCall, AS.pt, AS.ev, AS.owf, AS.rd, look, cav, eatsOf, td0, td1, td2, td3, td4, td5, td6, Option.bind, Option.getD, Option.map, Option.isSome, List.map, List.getElem?_cons_zero, List.not_mem_nil, List.nodup_cons, List.nodup_nil, ↓reduceIte, Nat.reduceLT, Nat.reduceEqDiff, Nat.add_zero, ne_eq, not_false_eq_true, or_false, Bool.false_eq_true, id_eq, reduceCtorEq, decide_false, and_self, Nat.succ_ne_zero, ← hd, h4, h5, Try.results22]
theorem con_CompS (e : Tm) (hz : szL (tmC e) ≤ 2000000) : Con Try.prog 21 [.ag (tmC e)] [.one (inssD (cmR e).1), .one (.bool (cmR e).2)] := by
  have hC := con_ClosedS e (by omega)
  unfold cmR cmB inssD
  have hP : Con Try.prog 48 [.ag (tmC e)] [.one (.bool (plT e))] := con_IsPlainS e (by omega)
  cases hp : plT e with
  | false =>
    rw [hp] at hP
    simp only [Bool.false_and, Bool.false_eq_true, if_false, List.length_nil, flC]
    refine con_run Try.func21 rfl rfl (by simp [Try.ntmps21]) ?_
    simp only [argT, argA, tysD, tmsD, eq_self, xRun, vE, vP, vSub, vLoad, isCutO, gN, isPick, isCall, AS.pt, AS.ev, AS.box, look, cav, avB, AV.cells, AV.whole, AV.one, td0, td1, td2, td3, td4, td5, td6, Option.getD, List.map, List.take, List.drop, List.length, List.all, ↓reduceIte, Nat.reduceLT, Nat.reduceAdd, Nat.reduceEqDiff, Nat.zero_add, true_and, Bool.and_true, Bool.false_eq_true, Nat.le_refl, tmC_eq, tysD, tmsD, Try.ntmps21]
    refine sw_call (hP) rfl (aAs_ok ?_) ?_ (sw_run 200 _ _ _ ?_)
    · simp only [aAs, aA, aDs, aD, tysD, tmsD, AS.ev, look, Option.getD, List.map, List.append_nil, ↓reduceIte, eq_self, and_self, tmC_eq, tysD, tmsD]
    · simp only [okR]
    simp only [mkR, flatD, packA, retA, List.headD_cons, fQ, xRet, rPs, xRes, flatA, rD, eq_self, xRun, vE, vP, vNot, vRow, isCutO, xFill, isB, bv, gT, gW, gN, gV, isU, isPick, pkC, pkA, isCall, AS.pt, AS.kn, AS.ev, AS.mk', AS.owf, kill, look, cav, cDs, eatsOf, td0, td1, td2, td3, td4, td5, td6, Option.bind, Option.getD, Option.isSome, List.map, List.getElem?_cons_zero, List.getElem?_cons_succ, List.foldr, List.all, List.replicate, List.not_mem_nil, List.nodup_cons, List.nodup_nil, ↓reduceIte, Nat.reduceLT, Nat.reduceAdd, Nat.reduceEqDiff, Nat.zero_mul, not_false_eq_true, or_false, or_true, Bool.not_false, Bool.false_eq_true, Bool.true_eq_false, id_eq, reduceCtorEq, and_self, Nat.zero_le, Try.results21]
  | true =>
  rw [hp] at hP
  by_cases hl : ((freeT e).length : Int) = 0
  case neg =>
    rw [decide_eq_false hl] at hC
    simp only [decide_eq_false hl, Bool.and_false, Bool.false_eq_true, if_false, List.length_nil, flC]
    refine con_run Try.func21 rfl rfl (by simp [Try.ntmps21]) ?_
    simp only [argT, argA, tysD, tmsD, eq_self, xRun, vE, vP, vSub, vLoad, isCutO, gN, isPick, isCall, AS.pt, AS.ev, AS.box, look, cav, avB, AV.cells, AV.whole, AV.one, td0, td1, td2, td3, td4, td5, td6, Option.getD, List.map, List.take, List.drop, List.length, List.all, ↓reduceIte, Nat.reduceLT, Nat.reduceAdd, Nat.reduceEqDiff, Nat.zero_add, true_and, Bool.and_true, Bool.false_eq_true, Nat.le_refl, tmC_eq, tysD, tmsD, Try.ntmps21]
    refine sw_call (hP) rfl (aAs_ok ?_) ?_ (sw_run 200 _ _ _ ?_)
    · simp only [aAs, aA, aDs, aD, tysD, tmsD, AS.ev, look, Option.getD, List.map, List.append_nil, ↓reduceIte, eq_self, and_self, tmC_eq, tysD, tmsD]
    · simp only [okR]
    simp only [mkR, flatD, packA, retA, List.headD_cons, eq_self, xRun, vE, vP, vSub, vLoad, vNot, isCutO, isB, bv, gT, gW, gN, gV, isU, isPick, isCall, AS.pt, AS.kn, AS.ev, look, td0, td1, td2, td3, td4, td5, td6, Option.bind, Option.getD, Option.isSome, List.take, List.drop, List.length, List.getElem?_cons_zero, List.getElem?_cons_succ, ↓reduceIte, Nat.reduceLT, Nat.reduceAdd, Nat.reduceEqDiff, Nat.zero_add, true_and, Bool.not_true, Bool.false_eq_true, and_self, Nat.le_refl]
    refine sw_call (hC) rfl (aAs_ok ?_) ?_ (sw_run 200 _ _ _ ?_)
    · simp only [aAs, aA, aDs, aD, tysD, tmsD, AS.ev, look, Option.getD, List.map, List.append_nil, ↓reduceIte, Nat.reduceEqDiff, eq_self, and_self, tmC_eq, tysD, tmsD]
    · simp only [okR]
    simp only [mkR, flatD, packA, retA, List.headD_cons, fQ, xRet, rPs, xRes, flatA, rD, eq_self, xRun, vE, vP, vNot, vRow, isCutO, xFill, isB, bv, gT, gW, gN, gV, isU, isPick, pkC, pkB, isCall, AS.pt, AS.kn, AS.ev, AS.mk', AS.owf, kill, look, cav, cDs, eatsOf, td0, td1, td2, td3, td4, td5, td6, Option.bind, Option.getD, Option.isSome, List.map, List.getElem?_cons_zero, List.getElem?_cons_succ, List.foldr, List.all, List.replicate, List.not_mem_nil, List.nodup_cons, List.nodup_nil, ↓reduceIte, Nat.reduceLT, Nat.reduceAdd, Nat.reduceEqDiff, Nat.zero_mul, not_false_eq_true, or_false, or_true, Bool.not_false, Bool.false_eq_true, id_eq, reduceCtorEq, and_self, Nat.zero_le, Try.results21]
  rw [decide_eq_true hl] at hC
  simp only [decide_eq_true hl, Bool.and_true, if_true]
  have hf : freeT e = [] := List.eq_nil_of_length_eq_zero (by omega)
  obtain ⟨hr, hcv, hok⟩ := okS_first hz hp hf
  have c0 := con_cpS e [] ⟨[], []⟩ hr hp hcv
  have hin := inL_first hok
  obtain ⟨s1, hs1⟩ : ∃ s1, s1 = cpT e [] ⟨[], []⟩ := ⟨_, rfl⟩
  rw [← hs1] at c0 hin hok
  have hb := hok.code
  rw [putC_len] at hb
  have hPut := con_putS s1 10 0 (by omega)
  simp only [strsD, csP_eq, List.length_nil, List.map_nil, flC] at c0
  refine con_run Try.func21 rfl rfl (by simp [Try.ntmps21]) ?_
  simp only [argT, argA, tysD, tmsD, eq_self, xRun, vE, vP, vSub, vLoad, isCutO, gN, isPick, isCall, AS.pt, AS.ev, AS.box, look, cav, avB, AV.cells, AV.whole, AV.one, td0, td1, td2, td3, td4, td5, td6, Option.getD, List.map, List.take, List.drop, List.length, List.all, ↓reduceIte, Nat.reduceLT, Nat.reduceAdd, Nat.reduceEqDiff, Nat.zero_add, true_and, Bool.and_true, Bool.false_eq_true, Nat.le_refl, tmC_eq, tysD, tmsD, Try.ntmps21]
  refine sw_call (hP) rfl (aAs_ok ?_) ?_ (sw_run 200 _ _ _ ?_)
  · simp only [aAs, aA, aDs, aD, tysD, tmsD, AS.ev, look, Option.getD, List.map, List.append_nil, ↓reduceIte, eq_self, and_self, tmC_eq, tysD, tmsD]
  · simp only [okR]
  simp only [mkR, flatD, packA, retA, List.headD_cons, eq_self, xRun, vE, vP, vSub, vLoad, vNot, isCutO, isB, bv, gT, gW, gN, gV, isU, isPick, isCall, AS.pt, AS.kn, AS.ev, look, td0, td1, td2, td3, td4, td5, td6, Option.bind, Option.getD, Option.isSome, List.take, List.drop, List.length, List.getElem?_cons_zero, List.getElem?_cons_succ, ↓reduceIte, Nat.reduceLT, Nat.reduceAdd, Nat.reduceEqDiff, Nat.zero_add, true_and, Bool.not_true, Bool.false_eq_true, and_self, Nat.le_refl]
  refine sw_call (hC) rfl (aAs_ok ?_) ?_ (sw_run 200 _ _ _ ?_)
  · simp only [aAs, aA, aDs, aD, tysD, tmsD, AS.ev, look, Option.getD, List.map, List.append_nil, ↓reduceIte, Nat.reduceEqDiff, eq_self, and_self, tmC_eq, tysD, tmsD]
  · simp only [okR]
  simp only [mkR, flatD, packA, retA, List.headD_cons, eq_self, xRun, vE, vP, vSub, vLoad, vNot, vBuild, vRow, isCutO, xFill, isB, bv, gT, gW, gN, gV, isU, isPick, pkC, pkB, isCall, AS.pt, AS.kn, AS.ev, AS.box, AS.mk', kill, look, AV.cells, AV.whole, AV.one, cDs, eatsOf, td0, td1, td2, td3, td4, td5, td6, Option.bind, Option.getD, Option.isSome, List.map, List.take, List.drop, List.length, List.getElem?_cons_zero, List.getElem?_cons_succ, List.foldr, List.all, List.replicate, List.nodup_nil, ↓reduceIte, Nat.reduceLT, Nat.reduceAdd, Nat.reduceEqDiff, Nat.zero_add, Nat.mul_one, true_and, or_true, Bool.and_true, Bool.not_true, Bool.false_eq_true, reduceCtorEq, and_self, Nat.zero_le, Nat.le_refl]
  refine sw_fzE 2 rfl ?_
  simp only [AS.fz, fzT, fzB, AV.fz, AV.fzs, eq_self, td0, td1, td2, td3, td4, td5, td6, ↓reduceIte]
  refine sw_callPR (c0) rfl rfl rfl ?_ ?_ ?_ (sw_run 200 _ _ _ ?_)
  · simp only [mPs, mP, rCs, rC, aA, aDs, aD, AS.em, AS.ev, look, tysD, tmsD, Option.getD, List.map, List.append_nil, ↓reduceIte, Nat.reduceEqDiff, eq_self, and_self, tmC_eq, tysD, tmsD]
  · simp only [eCs, eC, ePs, eP, AS.ev, look, tysD, tmsD, Option.getD, List.map, List.append_nil, List.nodup_nil, ↓reduceIte, Nat.reduceEqDiff, eq_self, tmC_eq, tysD, tmsD]
  · simp only [bPs, bP, AS.ev, look, tysD, tmsD, Option.getD, List.map, List.append_nil, List.nodup_nil, List.nodup_cons, List.not_mem_nil, not_false_eq_true, ↓reduceIte, Nat.reduceEqDiff, eq_self, and_self, tmC_eq, tysD, tmsD]
  simp only [mkC, eC, eCs, aftS, aftV, AS.kb, rmBs, rmB, mkO, packRA, flatR, ePs, eP, bPs, bP, AS.kl, retA, tysD, tmsD, eq_self, xRun, vE, vP, isCutO, gN, isPick, isCall, AS.pt, AS.ev, AS.mk', kill, look, td0, td1, td2, td3, td4, td5, td6, Option.getD, List.map, List.foldr, List.append_nil, ↓reduceIte, Nat.reduceLT, Nat.reduceAdd, Nat.reduceEqDiff, true_and, Bool.false_eq_true, reduceCtorEq, tmC_eq, tysD, tmsD]
  refine sw_callV (hPut) rfl rfl rfl rfl rfl (by decide) ?_ (sw_run 200 _ _ _ ?_)
  · simp only [AS.kb, rmBs, rmB, mPs, mP, aA, aD, AS.kl, eq_self, AS.ev, kill, cav, td0, td1, td2, td3, td4, td5, td6, List.map, List.foldr, List.nil_append, ↓reduceIte, reduceCtorEq, and_self]
  simp only [AS.kb, rmBs, rmB, AS.kl, eq_self, xRun, vE, vP, isCutO, gN, isPick, isCall, AS.pt, AS.ev, AS.mk', kill, cav, td0, td1, td2, td3, td4, td5, td6, List.foldr, ↓reduceIte, Nat.reduceLT, Nat.reduceAdd, true_and, Bool.false_eq_true, reduceCtorEq, aftV2]
  refine sw_loop (fun p : Nat × Nat × CS => InL e p.1 p.2.1 p.2.2) (fun p => ⟨80, [(5, .i p.2.1), (4, .bx 1 0)], [(1, [.sl 2, .sl 3])], [(2, some ⟨.rows 2 p.2.2.code.length (flC insC p.2.2.code), some 78, true⟩), (3, some ⟨.rows 11 p.2.2.q.length (flC wtC p.2.2.q), some 101, false⟩)], 4, []⟩) (fun p => p.1) (400, 0, putC s1 10 0) (rnL [(2, 5), (3, 4)]) hin ?_ ?_
  · simp only [Sub, subT, subB, subO, subP, inj, AV.ren, AV.rens, AV.lt, AV.lts, eq_self, AS.owf, look, td0, td1, td2, td3, td4, td5, td6, Option.bind, Option.getD, List.map, List.mem_cons, List.not_mem_nil, List.nodup_cons, List.nodup_nil, ↓reduceIte, Nat.reduceLT, Nat.reduceEqDiff, not_false_eq_true, or_false, id_eq, Int.natCast_zero, and_self, rnL, Int.natCast_zero, putC_q]
  · rintro ⟨f, i, s⟩ hI
    simp only at hI
    refine sw_run 200 _ _ _ ?_
    have hle := hI.le
    have hok2 := hI.ok
    have hcs := hok2.code
    have hqs := hok2.q
    have his := hok2.some
    by_cases hlt : i < s.q.length
    · have hi2 : (i : Int) < (s.q.length : Int) := by omega
      by_cases h300 : s.code.length ≤ 300
      · have hc3 : (s.code.length : Int) ≤ 300 := by omega
        have hR := wtC_row s.q i hlt
        have hm := mem_bang hlt
        obtain ⟨f', rfl, hst⟩ := inL_step hI hlt h300
        have hrm := fun k a => okS_room hok2 hm h300 k a
        obtain ⟨_, hp0, hp1⟩ := hok2.wt _ hm
        obtain ⟨x, hx⟩ : ∃ x, x = s.q[i]! := ⟨_, rfl⟩
        rw [← hx] at hR hm hst hrm hp0 hp1
        obtain ⟨hroom, hpl, hcov⟩ := hrm x.pl.toNat s.code.length
        have c1 := con_cpS x.body x.nms (setA s x.pl.toNat s.code.length) hroom hpl hcov
        have w1 := set_code s x.pl.toNat s.code.length (by omega)
        obtain ⟨s2, hs2⟩ : ∃ s2, s2 = cpT x.body x.nms (setA s x.pl.toNat s.code.length) := ⟨_, rfl⟩
        rw [← hs2] at c1 hst
        have hb2 := hst.ok.code
        rw [putC_len] at hb2
        have hP2 := con_putS s2 10 0 (by omega)
        simp only [strsD, csP_eq, setA_q, setA_len] at c1
        simp only [rowD, eq_self, xRun, vE, vP, vSub, vLoad, vFld, vIdx, vBin, vBinT, isAg, isBo, vLen, vStore, isCutO, isB, bv, gT, gW, gN, gV, isU, isPick, pkC, pkA, isCall, AS.pt, AS.kn, AS.ev, AS.box, AS.setb, AS.owf, AS.rd, look, cav, avB, avF, setRowG, AV.cells, AV.whole, AV.one, td0, td1, td2, td3, td4, td5, td6, Option.bind, Option.getD, Option.map, Option.isSome, List.map, List.take, List.drop, List.length, List.getElem?_cons_zero, List.getElem?_cons_succ, List.set, List.all, ↓reduceIte, Nat.reduceLT, Nat.reduceAdd, Nat.reduceEqDiff, Nat.zero_add, Nat.add_zero, ne_eq, not_false_eq_true, true_and, Bool.and_true, Bool.false_eq_true, id_eq, Int.toNat_natCast, Int.natCast_nonneg, decide_true, and_self, Nat.succ_ne_zero, Nat.le_refl, hi2, hc3, hR]
        refine sw_drawn (.cons 0 true (.cons 1 true (.cons 2 true (.cons 3 true (.cons 4 true (.cons 5 true (.cons 6 true (.cons 7 true (.cons 8 true (.cons 9 true (.cons 10 true (.cons 11 true (.cons 12 true (.cons 13 false (.nil))))))))))))))) (by kernel_rfl) qLp_panic (by kernel_rfl) (sw_run 200 _ _ _ ?_)
        simp only [eq_self, xRun, vE, vP, vSub, vLoad, vFld, vIdx, vLen, vStore, vStE, primD, primDs, stDs, AS.setO, AV.unsp, AV.unsps, unspT, unspB, isCutO, gN, isPick, isCall, AS.pt, AS.ev, AS.owf, AS.rd, look, setRowG, AV.cells, td0, td1, td2, td3, td4, td5, td6, Option.bind, Option.getD, Option.map, Option.isSome, List.take, List.drop, List.length, List.getElem?_cons_zero, List.getElem?_cons_succ, ↓reduceIte, Nat.reduceLT, Nat.reduceAdd, Nat.reduceEqDiff, Nat.zero_add, Nat.add_zero, ne_eq, not_false_eq_true, true_and, Bool.false_eq_true, id_eq, and_self, Nat.succ_ne_zero, Nat.le_refl, hp0, hp1, w1]
        refine sw_callPR (c1) rfl rfl rfl ?_ ?_ ?_ (sw_run 200 _ _ _ ?_)
        · simp only [mPs, mP, rCs, rC, aA, aDs, aD, AS.em, AS.ev, AS.owf, look, tysD, tmsD, Option.bind, Option.getD, id_eq, List.map, List.append_nil, ↓reduceIte, Nat.reduceEqDiff, eq_self, and_self, tmC_eq, tysD, tmsD]
        · simp only [eCs, eC, ePs, eP, AS.ev, look, tysD, tmsD, Option.getD, List.map, List.nil_append, List.cons_append, List.append_nil, List.nodup_nil, List.nodup_cons, List.not_mem_nil, List.mem_cons, not_false_eq_true, or_false, ↓reduceIte, Nat.reduceEqDiff, eq_self, and_self, tmC_eq, tysD, tmsD]
        · simp only [bPs, bP, AS.ev, look, tysD, tmsD, Option.getD, List.map, List.append_nil, List.nodup_nil, List.nodup_cons, List.not_mem_nil, not_false_eq_true, ↓reduceIte, Nat.reduceEqDiff, eq_self, and_self, tmC_eq, tysD, tmsD]
        simp only [mkC, eC, eCs, aftS, aftV, AS.kb, rmBs, rmB, mkO, packRA, flatR, ePs, eP, bPs, bP, AS.kl, retA, eq_self, xRun, vE, vP, isCutO, gN, isPick, isCall, AS.pt, AS.ev, AS.mk', kill, look, td0, td1, td2, td3, td4, td5, td6, Option.getD, List.map, List.foldr, List.nil_append, List.cons_append, List.append_nil, ↓reduceIte, Nat.reduceLT, Nat.reduceAdd, Nat.reduceEqDiff, true_and, Bool.false_eq_true]
        refine sw_callV (hP2) rfl rfl rfl rfl rfl (by decide) ?_ (sw_run 200 _ _ _ ?_)
        · simp only [AS.kb, rmBs, rmB, mPs, mP, aA, aD, AS.kl, eq_self, AS.ev, kill, cav, td0, td1, td2, td3, td4, td5, td6, List.map, List.foldr, List.nil_append, ↓reduceIte, Nat.reduceEqDiff, and_self]
        simp only [AS.kb, rmBs, rmB, AS.kl, qLp, eq_self, xRun, vE, vP, vBin, vBinT, isAg, isBo, isCutO, gN, isPick, isCall, AS.pt, AS.ev, AS.mk', kill, look, cav, td0, td1, td2, td3, td4, td5, td6, Option.getD, List.foldr, ↓reduceIte, Nat.reduceLT, Nat.reduceAdd, Nat.reduceEqDiff, true_and, Bool.false_eq_true, aftV2, qLp]
        refine ⟨by unfold inI; omega, (f', i + 1, putC s2 10 0), rnL [(2, 7), (3, 6)], hst, by simp only; omega, ?_⟩
        simp only [Sub, subT, subB, subO, subP, inj, AV.ren, AV.rens, AV.lt, AV.lts, eq_self, AS.owf, look, td0, td1, td2, td3, td4, td5, td6, Option.bind, Option.getD, List.map, List.mem_cons, List.not_mem_nil, List.nodup_cons, List.nodup_nil, ↓reduceIte, Nat.reduceLT, Nat.reduceEqDiff, not_false_eq_true, or_false, id_eq, and_self, rnL, cast1, putC_q]
      · have hc3 : ¬ (s.code.length : Int) ≤ 300 := by omega
        have hd := inL_done hI (fun h => h300 h.2)
        have h4 : 300 < s.code.length := by omega
        have h5 : (300 : Int) < (s.code.length : Int) := by omega
        simp only [qLp, eq_self, xRun, vE, vP, vSub, vLoad, vFld, vBin, vBinT, isAg, isBo, vLen, isCutO, isB, bv, gT, gW, gN, gV, isU, isPick, pkC, pkA, isCall, popTo, AS.pt, AS.kn, AS.ev, AS.owf, AS.rd, look, cav, td0, td1, td2, td3, td4, td5, td6, Option.bind, Option.getD, Option.map, Option.isSome, List.getElem?_cons_zero, List.getElem?_cons_succ, ↓reduceIte, Nat.reduceLT, Nat.reduceEqDiff, Nat.zero_add, Nat.add_zero, ne_eq, not_false_eq_true, true_and, Bool.false_eq_true, id_eq, decide_true, decide_false, and_self, Nat.succ_ne_zero, hi2, hc3]
        refine sw_run 200 _ _ _ ?_
        simp only [fQ, xRet, rPs, xRes, flatA, rD, eq_self, xRun, vE, vP, vSub, vLoad, vFld, vBin, vBinT, isAg, isBo, vLen, vRow, isCutO, xFill, isB, bv, gN, isPick, isCall, AS.pt, AS.ev, AS.mk', AS.owf, AS.rd, kill, look, cav, cDs, eatsOf, td0, td1, td2, td3, td4, td5, td6, Option.bind, Option.getD, Option.map, Option.isSome, List.map, List.length, List.getElem?_cons_zero, List.foldr, List.all, List.replicate, List.not_mem_nil, List.nodup_cons, List.nodup_nil, ↓reduceIte, Nat.reduceLT, Nat.reduceAdd, Nat.reduceEqDiff, Nat.add_zero, Nat.zero_mul, ne_eq, not_false_eq_true, or_false, or_true, Bool.false_eq_true, id_eq, reduceCtorEq, decide_true, and_self, Nat.succ_ne_zero, Nat.zero_le, ← hd, h4, h5, flC, Try.results21]
    · have hi2 : ¬ (i : Int) < (s.q.length : Int) := by omega
      have hd := inL_done hI (fun h => hlt h.1)
      simp only [qLp, eq_self, xRun, vE, vP, vSub, vLoad, vFld, vBin, vBinT, isAg, isBo, vLen, isCutO, isB, bv, gT, gW, gN, gV, isU, isPick, pkC, pkB, isCall, popTo, AS.pt, AS.kn, AS.ev, AS.owf, AS.rd, look, cav, td0, td1, td2, td3, td4, td5, td6, Option.bind, Option.getD, Option.map, Option.isSome, List.getElem?_cons_zero, List.getElem?_cons_succ, ↓reduceIte, Nat.reduceLT, Nat.reduceEqDiff, Nat.zero_add, ne_eq, not_false_eq_true, true_and, Bool.not_true, Bool.false_eq_true, id_eq, decide_false, and_self, Nat.succ_ne_zero, hi2]
      refine sw_run 200 _ _ _ ?_
      by_cases h4 : 300 < s.code.length
      · have h5 : (300 : Int) < (s.code.length : Int) := by omega
        simp only [fQ, xRet, rPs, xRes, flatA, rD, eq_self, xRun, vE, vP, vSub, vLoad, vFld, vBin, vBinT, isAg, isBo, vLen, vRow, isCutO, xFill, isB, bv, gN, isPick, isCall, AS.pt, AS.ev, AS.mk', AS.owf, AS.rd, kill, look, cav, cDs, eatsOf, td0, td1, td2, td3, td4, td5, td6, Option.bind, Option.getD, Option.map, Option.isSome, List.map, List.length, List.getElem?_cons_zero, List.foldr, List.all, List.replicate, List.not_mem_nil, List.nodup_cons, List.nodup_nil, ↓reduceIte, Nat.reduceLT, Nat.reduceAdd, Nat.reduceEqDiff, Nat.add_zero, Nat.zero_mul, ne_eq, not_false_eq_true, or_false, or_true, Bool.false_eq_true, id_eq, reduceCtorEq, decide_true, and_self, Nat.succ_ne_zero, Nat.zero_le, ← hd, h4, h5, flC, Try.results21]
      · have h5 : ¬ (300 : Int) < (s.code.length : Int) := by omega
        simp only [fQ, xRet, rPs, xRes, flatA, rD, eq_self, xRun, vE, vP, vSub, vLoad, vFld, vBin, vBinT, isAg, isBo, vLen, isCutO, isB, bv, gN, isPick, isCall, AS.pt, AS.ev, AS.owf, AS.rd, look, cav, eatsOf, td0, td1, td2, td3, td4, td5, td6, Option.bind, Option.getD, Option.map, Option.isSome, List.map, List.getElem?_cons_zero, List.not_mem_nil, List.nodup_cons, List.nodup_nil, ↓reduceIte, Nat.reduceLT, Nat.reduceEqDiff, Nat.add_zero, ne_eq, not_false_eq_true, or_false, Bool.false_eq_true, id_eq, reduceCtorEq, decide_false, and_self, Nat.succ_ne_zero, ← hd, h4, h5, Try.results21]
end Go.Proofs.Ytgjcilainojlfaa
