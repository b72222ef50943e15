/-
  The machine: values, states, one step; how they lie in memory on both sides. No function of the program is walked here.
-/
import Derived.Test.YtgjcilainojlfaaInsV
import Derived.Test.YtgjcilainojlfaaClo
namespace Go.Proofs.Ytgjcilainojlfaa
open Go.RowKit
set_option linter.unusedVariables false
set_option linter.unusedSimpArgs false
inductive Vl where
  | num (n : Int)
  | fn (rc : Bool) (pl : Int) (cx : List Vl)
instance : Inhabited Vl := ⟨.num 0⟩
def Vl.n : Vl → Int | .num n => n | .fn _ _ _ => 0
def Vl.f : Vl → Bool | .num _ => false | .fn _ _ _ => true
def Vl.r : Vl → Bool | .num _ => false | .fn r _ _ => r
def Vl.p : Vl → Int | .num _ => 0 | .fn _ p _ => p
def Vl.c : Vl → List Vl | .num _ => [] | .fn _ _ c => c
/-- The reference keeps both numbers at one place. -/
def Vl.m : Vl → Int | .num n => n | .fn _ p _ => p
theorem nm_n (n : Int) : (Vl.num n).n = n := rfl
theorem nm_f (n : Int) : (Vl.num n).f = false := rfl
theorem nm_r (n : Int) : (Vl.num n).r = false := rfl
theorem nm_p (n : Int) : (Vl.num n).p = 0 := rfl
theorem nm_c (n : Int) : (Vl.num n).c = [] := rfl
theorem nm_m (n : Int) : (Vl.num n).m = n := rfl
theorem fn_n (r : Bool) (p : Int) (c : List Vl) : (Vl.fn r p c).n = 0 := rfl
theorem fn_f (r : Bool) (p : Int) (c : List Vl) : (Vl.fn r p c).f = true := rfl
theorem fn_r (r : Bool) (p : Int) (c : List Vl) : (Vl.fn r p c).r = r := rfl
theorem fn_p (r : Bool) (p : Int) (c : List Vl) : (Vl.fn r p c).p = p := rfl
theorem fn_c (r : Bool) (p : Int) (c : List Vl) : (Vl.fn r p c).c = c := rfl
theorem fn_m (r : Bool) (p : Int) (c : List Vl) : (Vl.fn r p c).m = p := rfl
mutual
def vlI : Vl → List D
  | .num n => [.int n, .bool false, .bool false, .int 0, .rows 5 0 []]
  | .fn rc pl cx => [.int 0, .bool true, .bool rc, .int pl, .rows 5 cx.length (vlIs cx)]
def vlIs : List Vl → List D
  | [] => []
  | v :: l => vlI v ++ vlIs l
end
mutual
def vlS : Vl → List D
  | .num n => [.bool false, .int n, .bool false, .rows 4 0 []]
  | .fn rc pl cx => [.bool true, .int pl, .bool rc, .rows 4 cx.length (vlSs cx)]
def vlSs : List Vl → List D
  | [] => []
  | v :: l => vlS v ++ vlSs l
end
theorem vlIs_flat : ∀ l, vlIs l = flC vlI l
  | [] => by unfold vlIs flC; rfl
  | v :: l => by rw [vlIs, flC, vlIs_flat l]
theorem vlSs_flat : ∀ l, vlSs l = flC vlS l
  | [] => by unfold vlSs flC; rfl
  | v :: l => by rw [vlSs, flC, vlSs_flat l]
def vsI (l : List Vl) : D := .rows 5 l.length (flC vlI l)
def vsS (l : List Vl) : D := .rows 4 l.length (flC vlS l)
theorem vlI_eq (v : Vl) : vlI v = [.int v.n, .bool v.f, .bool v.r, .int v.p, .rows 5 v.c.length (flC vlI v.c)] := by
  cases v with
  | num n => unfold vlI; rfl
  | fn r p c => unfold vlI; rw [vlIs_flat]; rfl
theorem vlS_eq (v : Vl) : vlS v = [.bool v.f, .int v.m, .bool v.r, .rows 4 v.c.length (flC vlS v.c)] := by
  cases v with
  | num n => unfold vlS; rfl
  | fn r p c => unfold vlS; rw [vlSs_flat]; rfl
theorem vlI_len (v : Vl) : (vlI v).length = 5 := by rw [vlI_eq]; rfl
theorem vlS_len (v : Vl) : (vlS v).length = 4 := by rw [vlS_eq]; rfl
theorem flC_drop {α : Type} {c : α → List D} {n : Nat} (hc : ∀ x, (c x).length = n) : ∀ (xs : List α) (k : Nat), (flC c xs).drop (k * n) = flC c (xs.drop k)
  | [], k => by simp [flC]
  | x :: xs, 0 => by simp
  | x :: xs, k + 1 => by rw [flC, Nat.succ_mul, List.drop_append, hc, List.drop_of_length_le (by rw [hc]; omega), List.nil_append, Nat.add_sub_cancel, flC_drop hc xs k, List.drop_succ_cons]
theorem flC_take {α : Type} {c : α → List D} {n : Nat} (hc : ∀ x, (c x).length = n) : ∀ (xs : List α) (k : Nat), (flC c xs).take (k * n) = flC c (xs.take k)
  | [], k => by simp [flC]
  | x :: xs, 0 => by simp [flC]
  | x :: xs, k + 1 => by rw [flC, Nat.succ_mul, List.take_append, hc, List.take_of_length_le (by rw [hc]; omega), Nat.add_sub_cancel, flC_take hc xs k, List.take_succ_cons, flC]
theorem cut_flC {α : Type} {c : α → List D} {n : Nat} (hc : ∀ x, (c x).length = n) (xs : List α) (a b : Nat) : cutD (.rows n xs.length (flC c xs)) a b = .rows n (b - a) (flC c ((xs.drop a).take (b - a))) := by
  unfold cutD
  simp only
  rw [flC_drop hc, flC_take hc]
/-- What is kept of a call. -/
structure Frm where
  pc : Int
  st : List Vl
  nm : List Vl
  deriving Inhabited
def frI (f : Frm) : List D := [.int f.pc, vsI f.st, vsI f.nm]
def frS (f : Frm) : List D := [.int f.pc, vsS f.st, vsS f.nm]
theorem frI_len (f : Frm) : (frI f).length = 3 := rfl
theorem frS_len (f : Frm) : (frS f).length = 3 := rfl
structure Mch where
  pc : Int
  st : List Vl
  nm : List Vl
  fr : List Frm
/-- A value's cells, a machine's cells. -/
def vlP (v : Vl) : List CD := [.o (.int v.n), .o (.bool v.f), .o (.bool v.r), .o (.int v.p), .r (.rows 5 v.c.length (flC vlI v.c))]
def mcI (m : Mch) (d : Vl) : List CD := [.o (.int m.pc), .r (.rows 5 m.st.length (flC vlI m.st)), .r (.rows 5 m.nm.length (flC vlI m.nm)), .q 162 (.rows 3 m.fr.length (flC frI m.fr)), .o (.int d.n), .o (.bool d.f), .o (.bool d.r), .o (.int d.p), .r (.rows 5 d.c.length (flC vlI d.c))]
def mcS (m : Mch) (s : Int) : List CD := [.o (.int m.pc), .r (.rows 4 m.st.length (flC vlS m.st)), .r (.rows 4 m.nm.length (flC vlS m.nm)), .r (.rows 3 m.fr.length (flC frS m.fr)), .o (.int s)]
def vlQ (v : Vl) : List CD := [.o (.bool v.f), .o (.int v.m), .o (.bool v.r), .r (.rows 4 v.c.length (flC vlS v.c))]
def pushM (m : Mch) (v : Vl) : Mch := ⟨m.pc, m.st ++ [v], m.nm, m.fr⟩
def popM (m : Mch) (k : Nat) : Mch := ⟨m.pc, m.st.take (m.st.length - k), m.nm, m.fr⟩
def topM (m : Mch) (k : Nat) : List Vl := m.st.drop (m.st.length - k)
theorem con_ClipV (l : List Vl) (hl : l.length ≤ 1000000) : ConP Try.prog 88 [.b (.one (.rows 5 l.length (flC vlI l)))] [] [.one (.k (.rows 5 l.length (flC vlI l)))] := by
  have e1 := cut_flC vlI_len l 0 l.length
  rw [List.drop_zero, Nat.sub_zero, List.take_length] at e1
  refine con_runP Try.func88 rfl rfl (by simp [Try.ntmps88]) rfl ?_
  simp only [s0P, mkPs, mkPA, fQP, xRetP, rRs, rOs, rC, eRs, eOs, eC, argA, numT, xRes, eq_self, xRun, vE, vP, vLen, vCut, vSlc, isCutO, iOf, ixL, gN, isPick, isCall, AS.pt, AS.ev, AS.rd, look, cav, avB, td0, td1, td2, td3, td4, td5, td6, Option.bind, Option.getD, Option.map, List.map, List.nodup_nil, List.append_nil, ↓reduceIte, Nat.reduceLT, Nat.reduceEqDiff, or_false, Bool.false_eq_true, reduceCtorEq, Int.toNat_natCast, Int.toNat_zero, Int.le_refl, Int.natCast_nonneg, and_self, e1, Try.ntmps88, Try.results88]
theorem con_CloneV (l : List Vl) (hl : l.length ≤ 1000000) : ConP Try.prog 85 [.b (.one (.rows 5 l.length (flC vlI l)))] [] [.one (.q 88 (.rows 5 l.length (flC vlI l)))] := by
  refine con_runP Try.func85 rfl rfl (by simp [Try.ntmps85]) rfl ?_
  simp only [s0P, mkPs, mkPA, argA, numT, eq_self, xRun, vE, vP, isCutO, gN, isPick, isCall, AS.pt, AS.ev, look, cav, avB, td0, td1, td2, td3, td4, td5, td6, Option.getD, ↓reduceIte, Nat.reduceLT, true_and, Bool.false_eq_true, reduceCtorEq, Try.ntmps85]
  refine sw_nilE (q := (88, 5)) rfl (by simp only [td0, td1, td2, td3, td4, td5, td6]) (fun h0 => ?_) ?_
  · obtain rfl := List.eq_nil_of_length_eq_zero h0
    refine sw_run 200 _ _ _ ?_
    simp only [fQP, xRetP, rRs, rOs, rC, eRs, eOs, eC, xRes, eq_self, xRun, vE, vP, isCutO, isB, bv, gN, isPick, isCall, AS.pt, AS.ev, look, cav, td0, td1, td2, td3, td4, td5, td6, Option.getD, List.map, List.length, List.nodup_nil, List.append_nil, ↓reduceIte, Nat.reduceLT, or_false, Bool.false_eq_true, reduceCtorEq, and_self, flC, Try.results85]
  · refine sw_run 200 _ _ _ ?_
    simp only [fQP, xRetP, rRs, rOs, rC, eRs, eOs, eC, xRes, eq_self, xRun, vE, vP, vRow, vApp, apP, apC, isCl, isCutO, xFill, appL, appR, isB, bv, gN, isPick, isCall, AS.pt, AS.ev, AS.mk', AS.owf, kill, look, cDs, eatsOf, td0, td1, td2, td3, td4, td5, td6, Option.bind, Option.getD, Option.isSome, List.map, List.foldr, List.all, List.replicate, List.mem_cons, List.not_mem_nil, List.nodup_cons, List.nodup_nil, List.nil_append, List.append_nil, ↓reduceIte, Nat.reduceLT, Nat.reduceAdd, Nat.reduceEqDiff, Nat.zero_add, Nat.zero_mul, not_false_eq_true, true_and, and_true, or_false, or_true, Bool.and_false, Bool.not_true, Bool.false_eq_true, id_eq, reduceCtorEq, and_self, Nat.zero_le, Try.results85]
    exact ⟨fun _ _ => trivial, by unfold maxLen; omega, by omega⟩
set_option maxRecDepth 10000 in
theorem con_push (m : Mch) (d v : Vl) (hl : m.st.length ≤ 100000) : ConP Try.prog 81 [.p (mcI m d), .g (vlP v)] [mcI (pushM m v) d] [] := by
  have hC := con_ClipV m.st (by omega)
  have e1 : vlI v = [.int v.n, .bool v.f, .bool v.r, .int v.p, .rows 5 v.c.length (flC vlI v.c)] := vlI_eq v
  unfold pushM mcI vlP
  rw [flC_app, flC_one, e1, List.length_append, List.length_singleton]
  refine con_runPF [4] Try.func81 rfl rfl (by simp [Try.ntmps81]) rfl ?_
  simp only [s0P, mkPs, mkPA, mkC, numT, eq_self, xRun, vE, isCutO, gN, isPick, isCall, AS.pt, AS.ev, AS.box, AS.mk', kill, look, avB, AV.cells, AV.whole, AV.one, td0, td1, td2, td3, td4, td5, td6, Option.getD, List.foldr, List.all, List.nil_append, ↓reduceIte, Nat.reduceLT, Nat.reduceAdd, Nat.zero_add, true_and, Bool.and_true, Bool.false_eq_true, Nat.succ_ne_zero, Try.ntmps81]
  refine sw_drawn (.cons 0 true (.cons 1 true (.cons 2 true (.cons 3 true (.cons 4 true (.cons 6 true (.fork (.alt 5 (.cons 7 false (.cons 8 false (.cons 9 true (.cons 10 true (.cons 11 false (.nil)))))) (.alt 7 (.cons 5 false (.cons 8 false (.cons 9 true (.cons 10 true (.cons 11 false (.nil)))))) (.last)))))))))) (by kernel_rfl) fQF_panic (by kernel_rfl) (sw_run 200 _ _ _ ?_)
  simp only [eq_self, xRun, vE, vP, vSub, vLoad, vFld, vRow, xFill, gN, isPick, isCall, AS.pt, AS.ev, AS.mk', kill, look, setRowG, AV.cells, AV.whole, AV.one, cD, cDs, eatsOf, dpOf, td0, td1, td2, td3, td4, td5, td6, Option.getD, Option.isSome, List.map, List.take, List.drop, List.length, List.getElem?_cons_zero, List.getElem?_cons_succ, List.set, List.foldr, List.all, List.replicate, List.nodup_nil, ↓reduceIte, Nat.reduceLT, Nat.reduceAdd, Nat.reduceLeDiff, Nat.reduceEqDiff, Nat.zero_add, Nat.zero_mul, Nat.one_mul, ne_eq, not_false_eq_true, true_and, and_true, or_true, Bool.and_true, Bool.and_false, Bool.false_eq_true, reduceCtorEq, and_self, Nat.succ_ne_zero, Nat.le_refl]
  refine ⟨?_, ?_⟩
  all_goals (refine sw_callDPB (cap := []) hC rfl rfl rfl ?_ (sw_run 200 _ _ _ ?_))
  all_goals simp only [mkC, fQF, fQP, xRetP, rRs, rOs, rC, rCs, eRs, eOs, eC, eCs, AS.em, AS.fzL, AS.fzN, AS.fz, fzT, fzB, AV.fz, AV.fzs, aftS, aftV, AS.kb, rmBs, mkO, packRA, flatR, mPs, mP, aA, aD, AS.kl, retA, List.headD_cons, rD, eq_self, xRun, vE, vP, vFld, vRow, vStore, vApp, apP, apC, isCl, xFill, appL, appR, gN, isPick, isCall, AS.pt, AS.ev, AS.setb, AS.mk', AS.owf, kill, look, setRowG, AV.cells, AV.whole, AV.one, cD, cDs, eatsOf, dpOf, td0, td1, td2, td3, td4, td5, td6, Option.bind, Option.getD, Option.isSome, List.map, List.length, List.getElem?_cons_zero, List.getElem?_cons_succ, List.set, List.foldr, List.all, List.replicate, List.mem_cons, List.not_mem_nil, List.nodup_cons, List.nodup_nil, List.nil_append, List.append_nil, ↓reduceIte, Nat.reduceLT, Nat.reduceAdd, Nat.reduceLeDiff, Nat.reduceEqDiff, Nat.zero_add, Nat.zero_mul, Nat.one_mul, ne_eq, not_false_eq_true, true_and, and_true, or_false, or_true, Bool.and_true, Bool.and_false, Bool.false_eq_true, id_eq, reduceCtorEq, and_self, Nat.succ_ne_zero, Nat.le_refl, Try.results81]
  all_goals exact ⟨fun _ h => h.elim, by unfold maxLen; omega, by omega⟩
theorem top_len (m : Mch) (k : Nat) : (topM m k).length = m.st.length - (m.st.length - k) := by unfold topM; rw [List.length_drop]
theorem pop_len (m : Mch) (k : Nat) : (popM m k).st.length = m.st.length - k := by unfold popM; simp only [List.length_take]; omega
theorem cut_top (m : Mch) (k : Nat) : cutD (.rows 5 m.st.length (flC vlI m.st)) (m.st.length - k) m.st.length = .rows 5 (topM m k).length (flC vlI (topM m k)) := by
  rw [cut_flC vlI_len, top_len]
  unfold topM
  rw [List.take_of_length_le (by rw [List.length_drop]; exact Nat.le_refl _)]
theorem cut_pop (m : Mch) (k : Nat) : cutD (.rows 5 m.st.length (flC vlI m.st)) 0 (m.st.length - k) = .rows 5 (popM m k).st.length (flC vlI (popM m k).st) := by
  rw [cut_flC vlI_len, pop_len, List.drop_zero, Nat.sub_zero]; rfl
set_option maxRecDepth 10000 in
theorem con_pop0 (m : Mch) (d : Vl) (k : Nat) (hl : m.st.length ≤ 100000) (hk : k ≤ 2) (h : m.st.length < k) : ConP Try.prog 84 [.p (mcI m d), .b (.one (.int (k : Int)))] [mcI m d] [.one (.r (.rows 5 0 [])), .one (.o (.bool false))] := by
  have h1 : (m.st.length : Int) - (k : Int) < 0 := by omega
  have h2 : inI ((m.st.length : Int) - (k : Int)) := by unfold inI; omega
  unfold mcI
  refine con_runP Try.func84 rfl rfl (by simp [Try.ntmps84]) rfl ?_
  simp only [s0P, mkPs, mkPA, mkC, fQP, xRetP, rRs, rOs, rC, rCs, eRs, eOs, eC, eCs, aD, argA, numT, xRes, rD, eq_self, xRun, vE, vP, vSub, vLoad, vFld, vBin, vBinT, isAg, isBo, vLen, isCutO, isB, bv, gN, isPick, isCall, AS.pt, AS.ev, AS.box, AS.mk', AS.owf, AS.rd, kill, look, cav, avB, td0, td1, td2, td3, td4, td5, td6, Option.bind, Option.getD, Option.isSome, List.map, List.getElem?_cons_zero, List.getElem?_cons_succ, List.foldr, List.not_mem_nil, List.nodup_cons, List.nodup_nil, List.nil_append, List.append_nil, ↓reduceIte, Nat.reduceLT, Nat.reduceAdd, Nat.reduceEqDiff, Nat.zero_add, ne_eq, not_false_eq_true, or_false, Bool.false_eq_true, id_eq, reduceCtorEq, decide_true, and_self, Nat.succ_ne_zero, h1, h2, Try.ntmps84, Try.results84]
set_option maxRecDepth 10000 in
theorem con_pop1 (m : Mch) (d : Vl) (k : Nat) (hl : m.st.length ≤ 100000) (hk : k ≤ 2) (h : k ≤ m.st.length) : ConP Try.prog 84 [.p (mcI m d), .b (.one (.int (k : Int)))] [mcI (popM m k) d] [.one (.r (.rows 5 (topM m k).length (flC vlI (topM m k)))), .one (.o (.bool true))] := by
  have h0 : (m.st.length : Int) - (k : Int) = ((m.st.length - k : Nat) : Int) := by omega
  have h1 : ¬ ((m.st.length - k : Nat) : Int) < 0 := by omega
  have h2 : inI ((m.st.length - k : Nat) : Int) := by unfold inI; omega
  have h3 : ((m.st.length - k : Nat) : Int) ≤ (m.st.length : Int) := by omega
  have h4 : (popM m k).pc = m.pc := rfl
  have h5 : (popM m k).nm = m.nm := rfl
  have h6 : (popM m k).fr = m.fr := rfl
  unfold mcI
  rw [h4, h5, h6]
  refine con_runP Try.func84 rfl rfl (by simp [Try.ntmps84]) rfl ?_
  simp only [s0P, mkPs, mkPA, mkC, fQP, xRetP, rRs, rOs, rC, rCs, eRs, eOs, eC, eCs, aD, argA, numT, xRes, rD, eq_self, xRun, vE, vP, vSub, vLoad, vFld, vBin, vBinT, isAg, isBo, vLen, vCut, vSlc, vStore, isCutO, ixL, ixH, isB, bv, gN, isPick, isCall, AS.pt, AS.ev, AS.box, AS.setb, AS.mk', AS.owf, AS.rd, kill, look, cav, avB, setRowG, AV.cells, AV.whole, AV.one, td0, td1, td2, td3, td4, td5, td6, Option.bind, Option.getD, Option.map, Option.isSome, List.map, List.length, List.getElem?_cons_zero, List.getElem?_cons_succ, List.set, List.foldr, List.not_mem_nil, List.nodup_cons, List.nodup_nil, List.nil_append, List.append_nil, ↓reduceIte, Nat.reduceLT, Nat.reduceAdd, Nat.reduceLeDiff, Nat.reduceEqDiff, Nat.zero_add, ne_eq, not_false_eq_true, or_false, Bool.false_eq_true, id_eq, reduceCtorEq, Int.toNat_natCast, Int.toNat_zero, Int.le_refl, Int.natCast_nonneg, decide_false, and_self, Nat.succ_ne_zero, h0, h1, h2, h3, cut_top, cut_pop, Try.ntmps84, Try.results84]
end Go.Proofs.Ytgjcilainojlfaa
