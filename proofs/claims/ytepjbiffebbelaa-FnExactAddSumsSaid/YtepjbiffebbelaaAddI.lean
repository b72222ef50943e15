/-
  The program's sum of sums.
-/
import Derived.Test.YtepjbiffebbelaaDel
namespace Go.Proofs.Ytepjbiffebbelaa
open Go.RowKit
set_option linter.unusedVariables false
set_option linter.unusedSimpArgs false
set_option maxRecDepth 20000
def adS (a b : Sm) : Sm := ⟨(a.const + b.const) % 10007, mgI a.items b.items⟩
def adB (a b : Sm) : Bool := sumOk a && (sumOk b && sumOk (adS a b))
def adR (a b : Sm) : Sm := if sumOk a && sumOk b then chkS (adS a b) else zeroS
theorem len_mg : ∀ a b : List Im, (mgI a b).length ≤ a.length + b.length
  | [], b => by simp [mgI]
  | x :: a, [] => by simp [mgI]
  | x :: a, y :: b => by
    have h1 := len_mg a (y :: b)
    have h2 := len_mg (x :: a) b
    have h3 := len_mg a b
    rw [mg_cons]
    (repeat' split) <;> simp only [List.length_cons] at * <;> omega
termination_by a b => a.length + b.length
theorem sz_mg : ∀ a b : List Im, szL (flC imC (mgI a b)) ≤ szL (flC imC a) + szL (flC imC b)
  | [], b => by simp [mgI, flC, szL]
  | x :: a, [] => by simp [mgI, flC, szL]
  | x :: a, y :: b => by
    have h1 := sz_mg a (y :: b)
    have h2 := sz_mg (x :: a) b
    have h3 := sz_mg a b
    rw [mg_cons]
    (repeat' split) <;> simp only [flC, imC, List.cons_append, List.nil_append, szL, szD] at * <;> omega
termination_by a b => a.length + b.length
theorem sz_adS {a b : Sm} (ha : sumOk a = true) (hb : sumOk b = true) : szL (sumC (adS a b)) ≤ 1000 := by
  have h1 := sz_sumOk ha
  have h2 := sz_sumOk hb
  have h3 := len_mg a.items b.items
  have h4 := sz_mg a.items b.items
  simp only [adS, sumC, imsD, szL, szD] at *
  omega
theorem ascL_of : ∀ (xs : List Im), itAll xs xs.length = true → ascL xs := by
  intro xs h
  have key : ∀ (n : Nat) (ys : List Im), ys.length = n → (∀ k, k + 1 < ys.length → nmL ys[k]! < nmL ys[k + 1]!) → ascL ys := by
    intro n
    induction n with
    | zero => intro ys h _; rw [List.eq_nil_of_length_eq_zero h]; trivial
    | succ n ih =>
      intro ys h hk
      match ys, h with
      | [x], _ => trivial
      | x :: y :: r, h =>
        refine ⟨hk 0 (by simp), ih (y :: r) (by simpa using h) fun k hk' => hk (k + 1) (by simpa using hk')⟩
  refine key _ xs rfl fun k hk => ?_
  have := asc_far xs _ h (k + 1) hk k (by omega)
  rw [asc, bytesLess_eq, Lib.toList_data, Lib.toList_data] at this
  exact of_decide_eq_true this
theorem okC_of (xs : List Im) (h : itAll xs xs.length = true) : ∀ x ∈ xs, 1 ≤ x.coef ∧ x.coef ≤ 10006 := by
  intro x hx
  obtain ⟨j, hj, rfl⟩ := List.mem_iff_getElem.mp hx
  have := cfB_t (itOk_base xs j (itAll_at xs _ h j hj)).2
  rwa [getElem!_pos xs j hj] at this
theorem join_last (out : List Im) (x : Im) (h : 0 < out.length) (hn : out[out.length - 1]!.name = x.name) : joinS out x = out.set (out.length - 1) ⟨out[out.length - 1]!.name, red (out[out.length - 1]!.coef + x.coef)⟩ := by
  obtain ⟨l, y, rfl⟩ : ∃ l y, out = l ++ [y] := ⟨out.dropLast, out[out.length - 1]!, by
    rw [getElem!_pos out _ (by omega), ← List.getLast_eq_getElem (List.ne_nil_of_length_pos h), List.dropLast_concat_getLast]⟩
  have e : (l ++ [y])[(l ++ [y]).length - 1]! = y := by
    have := bang_end l y
    rwa [List.length_append, List.length_cons, List.length_nil, Nat.zero_add, Nat.add_sub_cancel]
  rw [e] at hn ⊢
  unfold joinS
  simp [hn]
theorem join_not (out : List Im) (x : Im) (h : ¬ (0 < out.length ∧ out[out.length - 1]!.name = x.name)) : joinS out x = out ++ [x] := by
  rcases Nat.eq_zero_or_pos out.length with h0 | h0
  · rw [List.eq_nil_of_length_eq_zero h0]; rfl
  · obtain ⟨l, y, rfl⟩ : ∃ l y, out = l ++ [y] := ⟨out.dropLast, out[out.length - 1]!, by
      rw [getElem!_pos out _ (by omega), ← List.getLast_eq_getElem (List.ne_nil_of_length_pos h0), List.dropLast_concat_getLast]⟩
    have e : (l ++ [y])[(l ++ [y]).length - 1]! = y := by
      have := bang_end l y
      rwa [List.length_append, List.length_cons, List.length_nil, Nat.zero_add, Nat.add_sub_cancel]
    rw [e] at h
    unfold joinS
    have hn : ¬ y.name = x.name := fun e => h ⟨h0, e⟩
    simp [hn]
def smI (x : Im) : Prop := 0 ≤ x.coef ∧ x.coef ≤ 10006
theorem join_sm (out : List Im) (x : Im) (h : ∀ y ∈ out, smI y) (hx : smI x) : ∀ y ∈ joinS out x, smI y := by
  by_cases hc : 0 < out.length ∧ out[out.length - 1]!.name = x.name
  · rw [join_last out x hc.1 hc.2]
    intro y hy
    rcases List.mem_or_eq_of_mem_set hy with hy | rfl
    · exact h y hy
    · unfold smI red; simp only; omega
  · rw [join_not out x hc]
    intro y hy
    rcases List.mem_append.1 hy with hy | hy
    · exact h y hy
    · rw [List.mem_singleton.1 hy]; exact hx
def ouI (S : List Im) (k : Nat) : List Im := (S.take k).foldl joinS []
theorem ou_step (S : List Im) (k : Nat) (h : k < S.length) : ouI S (k + 1) = joinS (ouI S k) S[k]! := by
  rw [ouI, take_snoc S k h, List.foldl_append]; rfl
theorem ou_sm (S : List Im) (h : ∀ x ∈ S, smI x) : ∀ k, k ≤ S.length → ∀ y ∈ ouI S k, smI y
  | 0, _ => fun y hy => by cases hy
  | k + 1, hk => by
    rw [ou_step S k hk]
    exact join_sm _ _ (ou_sm S h k (by omega)) (h _ (mem_bang hk))
theorem ou_len (S : List Im) : ∀ k, k ≤ S.length → (ouI S k).length ≤ k
  | 0, _ => Nat.le_refl _
  | k + 1, hk => by
    have := ou_len S k (by omega)
    rw [ou_step S k hk]
    by_cases hc : 0 < (ouI S k).length ∧ (ouI S k)[(ouI S k).length - 1]!.name = S[k]!.name
    · rw [join_last _ _ hc.1 hc.2, List.length_set]; omega
    · rw [join_not _ _ hc, List.length_append]; simp; omega
theorem flC_setc (c : Int) (ys : List Im) (k : Nat) (h : k < ys.length) : (flC imC ys).set (k * 2 + 1) (.int c) = flC imC (ys.set k ⟨ys[k]!.name, c⟩) := by
  rw [← flC_set _ ys k h]
  congr 1
  have h2 : k * 2 < (flC imC ys).length := by rw [flC_len imC_len]; omega
  have e : (flC imC ys)[k * 2]? = some (.str ys[k]!.name) := by
    have := flC_row imC_len ys k h
    rw [rowAt, List.drop_eq_getElem_cons h2] at this
    simp only [imC] at this
    injection this with this
    rw [List.getElem?_eq_getElem h2, this]
  obtain ⟨_, e2⟩ := List.getElem?_eq_some_iff.1 e
  rw [← e2]; exact (List.set_getElem_self h2).symm
theorem srt_mem (xs : List Im) : ∀ k, k ≤ xs.length → ∀ y ∈ srt xs k, y ∈ xs
  | 0, _ => fun y hy => by cases hy
  | k + 1, hk => fun y hy => by
    have ih := srt_mem xs k (by omega)
    rw [srt, insP] at hy
    rcases List.mem_append.1 hy with hy | hy
    · exact ih y (List.mem_of_mem_take hy)
    · rcases List.mem_cons.1 hy with rfl | hy
      · exact mem_bang hk
      · exact ih y (List.mem_of_mem_drop hy)
theorem con_AddI (a b : Sm) (hza : szL (sumC a) ≤ 1000000000) (hzb : szL (sumC b) ≤ 1000000000) : Con Try.prog 11 [.ag (sumC a), .ag (sumC b)] [.ag (sumC (adR a b)), .one (.bool (adB a b))] := by
  have ha := con_IsSumI a hza
  have hb := con_IsSumI b hzb
  by_cases hoa : sumOk a = true
  case neg =>
    have hoa : sumOk a = false := by simpa using hoa
    have hR : adR a b = zeroS := by rw [adR, hoa]; rfl
    have hB : adB a b = false := by rw [adB, hoa]; rfl
    rw [hoa] at ha
    rw [hR, hB]
    refine con_run Try.func11 rfl rfl (by simp [Try.ntmps11]) ?_
    simp only [argT, argA, eq_self, xRun, vE, vP, vSub, vLoad, isCutO, gN, isPick, isCall, AS.pt, AS.ev, AS.box, look, cav, avB, AV.cells, AV.whole, AV.one, td0, td1, td2, td3, td4, td5, td6, Option.getD, Option.isSome, List.map, List.take, List.drop, List.length, List.all, ↓reduceIte, Nat.reduceLT, Nat.reduceAdd, Nat.reduceEqDiff, Nat.zero_add, true_and, Bool.and_true, Bool.false_eq_true, reduceCtorEq, Nat.succ_ne_zero, Nat.le_refl, sumC, imsD, Try.ntmps11]
    refine sw_call (ha) rfl (aAs_ok ?_) ?_ (sw_run 200 _ _ _ ?_)
    · simp only [aAs, aA, aDs, aD, AS.ev, look, Option.getD, List.map, List.append_nil, ↓reduceIte, eq_self, and_self, sumC, imsD]
    · simp only [okR]
    simp only [mkR, flatD, packA, retA, List.headD_cons, fQ, xRet, rPs, xRes, flatA, rD, rDs, eq_self, xRun, vE, vP, vNot, vBuild, vStore, isCutO, xFill, isB, bv, gT, gW, gN, gV, isU, isPick, pkC, pkA, isCall, AS.pt, AS.kn, AS.ev, AS.setb, look, cav, setRowG, AV.cells, AV.whole, AV.one, eatsOf, td0, td1, td2, td3, td4, td5, td6, Option.bind, Option.getD, Option.isSome, List.map, List.length, List.getElem?_cons_zero, List.getElem?_cons_succ, List.set, List.all, List.nodup_nil, List.nil_append, List.cons_append, ↓reduceIte, Nat.reduceLT, Nat.reduceAdd, Nat.reduceEqDiff, Nat.zero_add, or_false, Bool.and_true, Bool.not_false, Bool.false_eq_true, Bool.true_eq_false, reduceCtorEq, and_self, Nat.le_refl, zeroS, flC, Try.results11]
  rw [hoa] at ha
  by_cases hob : sumOk b = true
  case neg =>
    have hob : sumOk b = false := by simpa using hob
    have hR : adR a b = zeroS := by rw [adR, hoa, hob]; rfl
    have hB : adB a b = false := by rw [adB, hoa, hob]; rfl
    rw [hob] at hb
    rw [hR, hB]
    refine con_run Try.func11 rfl rfl (by simp [Try.ntmps11]) ?_
    simp only [argT, argA, eq_self, xRun, vE, vP, vSub, vLoad, isCutO, gN, isPick, isCall, AS.pt, AS.ev, AS.box, look, cav, avB, AV.cells, AV.whole, AV.one, td0, td1, td2, td3, td4, td5, td6, Option.getD, Option.isSome, List.map, List.take, List.drop, List.length, List.all, ↓reduceIte, Nat.reduceLT, Nat.reduceAdd, Nat.reduceEqDiff, Nat.zero_add, true_and, Bool.and_true, Bool.false_eq_true, reduceCtorEq, Nat.succ_ne_zero, Nat.le_refl, sumC, imsD, Try.ntmps11]
    refine sw_call (ha) rfl (aAs_ok ?_) ?_ (sw_run 200 _ _ _ ?_)
    · simp only [aAs, aA, aDs, aD, AS.ev, look, Option.getD, List.map, List.append_nil, ↓reduceIte, eq_self, and_self, sumC, imsD]
    · simp only [okR]
    simp only [mkR, flatD, packA, retA, List.headD_cons, eq_self, xRun, vE, vP, vSub, vLoad, vNot, isCutO, isB, bv, gT, gW, gN, gV, isU, isPick, isCall, AS.pt, AS.kn, AS.ev, look, td0, td1, td2, td3, td4, td5, td6, Option.bind, Option.getD, Option.isSome, List.take, List.drop, List.length, List.getElem?_cons_zero, List.getElem?_cons_succ, ↓reduceIte, Nat.reduceLT, Nat.reduceAdd, Nat.reduceEqDiff, Nat.zero_add, true_and, Bool.not_true, Bool.false_eq_true, and_self, Nat.le_refl]
    refine sw_call (hb) rfl (aAs_ok ?_) ?_ (sw_run 200 _ _ _ ?_)
    · simp only [aAs, aA, aDs, aD, AS.ev, look, Option.getD, List.map, List.append_nil, ↓reduceIte, Nat.reduceEqDiff, eq_self, and_self, sumC, imsD]
    · simp only [okR]
    simp only [mkR, flatD, packA, retA, List.headD_cons, fQ, xRet, rPs, xRes, flatA, rD, rDs, eq_self, xRun, vE, vP, vNot, vBuild, vStore, isCutO, xFill, isB, bv, gT, gW, gN, gV, isU, isPick, pkC, pkB, isCall, AS.pt, AS.kn, AS.ev, AS.setb, look, cav, setRowG, AV.cells, AV.whole, AV.one, eatsOf, td0, td1, td2, td3, td4, td5, td6, Option.bind, Option.getD, Option.isSome, List.map, List.length, List.getElem?_cons_zero, List.getElem?_cons_succ, List.set, List.all, List.nodup_nil, List.nil_append, List.cons_append, ↓reduceIte, Nat.reduceLT, Nat.reduceAdd, Nat.reduceEqDiff, Nat.zero_add, or_false, Bool.and_true, Bool.not_false, Bool.false_eq_true, reduceCtorEq, and_self, Nat.le_refl, zeroS, flC, Try.results11]
  rw [hob] at hb
  have hR : adR a b = chkS (adS a b) := by rw [adR, hoa, hob]; rfl
  have hB : adB a b = sumOk (adS a b) := by rw [adB, hoa, hob]; rfl
  rw [hR, hB]
  obtain ⟨haA, hac, hal⟩ := sumOk_t hoa
  obtain ⟨hbA, hbc, hbl⟩ := sumOk_t hob
  have hpm := prog_mg a.items b.items (ascL_of _ haA) (ascL_of _ hbA) (fun x hx h => by have := okC_of _ haA x hx; omega) (fun x hx h => by have := okC_of _ hbA x hx; omega)
  have hC := con_ConcatM [a.items, b.items] (by simp; omega) (by simp)
  simp only [List.map_cons, List.map_nil, List.flatten_cons, List.flatten_nil, List.append_nil, List.length_cons, List.length_nil, imsD] at hC
  generalize hxs : a.items ++ b.items = xs at *
  have hxl : xs.length ≤ 16 := by rw [← hxs, List.length_append]; omega
  have hS := con_SortSt xs (by omega)
  have hsl : (srt xs xs.length).length = xs.length := srt_len xs xs.length
  have hsm : ∀ x ∈ srt xs xs.length, smI x := by
    intro x hx
    have hx := srt_mem xs _ (Nat.le_refl _) x hx
    rw [← hxs] at hx
    rcases List.mem_append.1 hx with hx | hx
    · have := okC_of _ haA x hx; unfold smI; omega
    · have := okC_of _ hbA x hx; unfold smI; omega
  generalize hS' : srt xs xs.length = S at *
  have hcin : inI (a.const + b.const) := by unfold inI; omega
  refine con_run Try.func11 rfl rfl (by simp [Try.ntmps11]) ?_
  simp only [argT, argA, eq_self, xRun, vE, vP, vSub, vLoad, isCutO, gN, isPick, isCall, AS.pt, AS.ev, AS.box, look, cav, avB, AV.cells, AV.whole, AV.one, td0, td1, td2, td3, td4, td5, td6, Option.getD, Option.isSome, List.map, List.take, List.drop, List.length, List.all, ↓reduceIte, Nat.reduceLT, Nat.reduceAdd, Nat.reduceEqDiff, Nat.zero_add, true_and, Bool.and_true, Bool.false_eq_true, reduceCtorEq, Nat.succ_ne_zero, Nat.le_refl, sumC, imsD, Try.ntmps11]
  refine sw_call (ha) rfl (aAs_ok ?_) ?_ (sw_run 200 _ _ _ ?_)
  · simp only [aAs, aA, aDs, aD, AS.ev, look, Option.getD, List.map, List.append_nil, ↓reduceIte, eq_self, and_self, sumC, imsD]
  · simp only [okR]
  simp only [mkR, flatD, packA, retA, List.headD_cons, eq_self, xRun, vE, vP, vSub, vLoad, vNot, isCutO, isB, bv, gT, gW, gN, gV, isU, isPick, isCall, AS.pt, AS.kn, AS.ev, look, td0, td1, td2, td3, td4, td5, td6, Option.bind, Option.getD, Option.isSome, List.take, List.drop, List.length, List.getElem?_cons_zero, List.getElem?_cons_succ, ↓reduceIte, Nat.reduceLT, Nat.reduceAdd, Nat.reduceEqDiff, Nat.zero_add, true_and, Bool.not_true, Bool.false_eq_true, and_self, Nat.le_refl]
  refine sw_call (hb) rfl (aAs_ok ?_) ?_ (sw_run 200 _ _ _ ?_)
  · simp only [aAs, aA, aDs, aD, AS.ev, look, Option.getD, List.map, List.append_nil, ↓reduceIte, Nat.reduceEqDiff, eq_self, and_self, sumC, imsD]
  · simp only [okR]
  simp only [mkR, flatD, packA, retA, List.headD_cons, eq_self, xRun, vE, vP, vSub, vLoad, vFld, vNot, vRow, isCutO, xFill, isB, bv, gT, gW, gN, gV, isU, isPick, pkC, pkB, isCall, AS.pt, AS.kn, AS.ev, AS.mk', kill, look, setRowG, AV.cells, AV.whole, AV.one, cD, cDs, eatsOf, dpOf, td0, td1, td2, td3, td4, td5, td6, Option.bind, Option.getD, Option.isSome, List.map, List.length, List.getElem?_cons_zero, List.getElem?_cons_succ, List.set, List.foldr, List.all, List.replicate, List.nodup_nil, ↓reduceIte, Nat.reduceLT, Nat.reduceAdd, Nat.reduceLeDiff, Nat.reduceEqDiff, Nat.zero_add, Nat.mul_one, ne_eq, not_false_eq_true, true_and, or_true, Bool.and_true, Bool.and_false, Bool.not_true, Bool.false_eq_true, reduceCtorEq, and_self, Nat.succ_ne_zero, Nat.le_refl]
  refine sw_callP (hC) rfl rfl rfl rfl ?_ ?_ ?_ (sw_run 200 _ _ _ ?_)
  · simp only [AS.kb, rmBs, mPs, mP, ePs, eP, bPs, bP, aA, aD, AS.kl, eq_self, AS.ev, AS.owf, kill, look, td0, td1, td2, td3, td4, td5, td6, Option.bind, Option.getD, List.map, List.foldr, List.append_nil, ↓reduceIte, Nat.reduceAdd, Nat.zero_add, id_eq, and_self]
  · simp only [ePs, eP, eq_self, AS.ev, look, td0, td1, td2, td3, td4, td5, td6, Option.getD, List.map, List.nodup_nil, List.append_nil, ↓reduceIte, Nat.reduceAdd, Nat.zero_add]
  · simp only [bPs, bP, eq_self, AS.ev, look, td0, td1, td2, td3, td4, td5, td6, Option.getD, List.map, List.nodup_nil, List.append_nil, ↓reduceIte, Nat.reduceAdd, Nat.zero_add]
  simp only [mkC, aftS, aftV, AS.kb, rmBs, mkO, packRA, flatR, ePs, eP, bPs, bP, AS.kl, retA, List.headD_cons, eq_self, xRun, vE, vP, isCutO, gN, isPick, isCall, AS.pt, AS.ev, AS.mk', kill, look, td0, td1, td2, td3, td4, td5, td6, Option.getD, List.map, List.foldr, List.append_nil, ↓reduceIte, Nat.reduceLT, Nat.reduceAdd, Nat.zero_add, true_and, Bool.false_eq_true]
  refine sw_callW hS rfl rfl rfl ⟨rfl, rfl⟩ ?_ (sw_run 200 _ _ _ ?_)
  · simp only [AS.kb, rmBs, mPs, mP, aAs, aA, AS.kl, eq_self, AS.ev, kill, td0, td1, td2, td3, td4, td5, td6, List.map, List.foldr, and_self]
  simp only [eq_self, xRun, vE, vP, vSub, vLoad, vFld, vBin, vBinT, isAg, isBo, isCutO, gN, isPick, isCall, AS.pt, AS.ev, look, td0, td1, td2, td3, td4, td5, td6, Option.getD, Option.isSome, List.getElem?_cons_zero, ↓reduceIte, Nat.reduceLT, Nat.reduceEqDiff, Nat.add_zero, ne_eq, not_false_eq_true, true_and, Bool.false_eq_true, reduceCtorEq, Nat.succ_ne_zero, AS.lend, lendL, lendO, unspLT, unspLB, AV.unspL, AV.unspLs]
  refine ⟨hcin, ?_⟩
  refine sw_call (con_ReduceI (a.const + b.const)) rfl (aAs_ok ?_) ?_ (sw_run 200 _ _ _ ?_)
  · simp only [aAs, aA, aD, AS.ev, look, Option.getD, List.map, List.append_nil, ↓reduceIte, eq_self, and_self]
  · simp only [okR]
  simp only [mkR, flatD, packA, retA, List.headD_cons, eq_self, xRun, vE, vP, vLen, vBuild, vStore, isCutO, xFill, gN, isPick, isCall, AS.pt, AS.ev, AS.box, AS.setb, AS.owf, AS.rd, look, cav, setRowG, AV.cells, AV.whole, AV.one, td0, td1, td2, td3, td4, td5, td6, Option.bind, Option.getD, Option.map, Option.isSome, List.map, List.length, List.getElem?_cons_zero, List.set, List.all, ↓reduceIte, Nat.reduceLT, Nat.reduceAdd, Nat.reduceLeDiff, Nat.reduceEqDiff, Nat.zero_add, true_and, Bool.and_true, Bool.false_eq_true, id_eq, and_self, Nat.le_refl]
  refine sw_ownB 5 1 80 rfl rfl ?_
  refine sw_loop (fun k : Nat => k ≤ S.length) (fun k => ⟨88, [(37, .i k), (36, .i xs.length), (35, .sl 4), (7, .bx 5 0), (4, .bx 2 0)], [(2, [.i 0, .nl 2]), (5, [.i ((a.const + b.const) % 10007), .sl 6])], [(4, some ⟨.rows 2 xs.length (flC imC S), none, true⟩), (6, some ⟨.rows 2 (ouI S k).length (flC imC (ouI S k)), some 80, true⟩)], 7, []⟩) (fun k => S.length - k) 0 id (Nat.zero_le _) ?_ ?_
  · simp only [Sub, subT, subB, subO, subP, inj, AV.ren, AV.rens, AV.lt, AV.lts, eq_self, AS.setb, AS.mk', AS.owf, kill, look, td0, td1, td2, td3, td4, td5, td6, Option.bind, List.map, List.take, List.set, List.foldr, List.mem_cons, List.not_mem_nil, List.nodup_cons, List.nodup_nil, ↓reduceIte, Nat.reduceLT, Nat.reduceAdd, Nat.reduceEqDiff, not_false_eq_true, or_false, id_eq, Int.natCast_zero, and_self, ouI, List.foldl_nil, List.length_nil, flC]
  rintro k hk
  refine sw_run 200 _ _ _ ?_
  by_cases hlt : k < S.length
  case neg =>
    have hi : ¬ (k : Int) < (xs.length : Int) := by omega
    obtain rfl : k = S.length := by omega
    have hou : ouI S S.length = S.foldl joinS [] := by rw [ouI, List.take_length]
    rw [hou]
    have hD := con_DelIm (S.foldl joinS []) (by have := ou_len S S.length (Nat.le_refl _); rw [hou] at this; omega)
    rw [hpm] at hD
    have hck := con_checked (adS a b) (by have := sz_adS hoa hob; omega)
    simp only [imsD] at hD
    simp only [sumC, imsD, adS] at hck
    simp only [qLp, eq_self, xRun, vE, vP, vBin, vBinT, isAg, isBo, isCutO, isB, bv, gN, isPick, isCall, popTo, AS.pt, AS.ev, look, td0, td1, td2, td3, td4, td5, td6, Option.getD, Option.isSome, ↓reduceIte, Nat.reduceLT, Nat.reduceEqDiff, true_and, Bool.false_eq_true, decide_false, hi]
    refine sw_run 200 _ _ _ ?_
    simp only [eq_self, xRun, vE, vP, vSub, vLoad, vFld, isCutO, gN, isPick, isCall, AS.pt, AS.ev, look, td0, td1, td2, td3, td4, td5, td6, Option.getD, Option.isSome, List.getElem?_cons_zero, List.getElem?_cons_succ, ↓reduceIte, Nat.reduceLT, Nat.reduceEqDiff, Nat.zero_add, ne_eq, not_false_eq_true, true_and, Bool.false_eq_true, Nat.succ_ne_zero]
    refine sw_callP (hD) rfl rfl rfl rfl ?_ ?_ ?_ (sw_run 200 _ _ _ ?_)
    · simp only [rC, eC, AS.kb, rmBs, mPs, mP, ePs, eP, bPs, bP, aAs, aA, AS.kl, eq_self, AS.ev, AS.owf, kill, look, td0, td1, td2, td3, td4, td5, td6, Option.bind, Option.getD, List.map, List.foldr, List.append_nil, ↓reduceIte, Nat.reduceEqDiff, id_eq, and_self]
    · simp only [eC, ePs, eP, eq_self, AS.ev, look, td0, td1, td2, td3, td4, td5, td6, Option.getD, List.map, List.not_mem_nil, List.nodup_cons, List.nodup_nil, List.append_nil, ↓reduceIte, not_false_eq_true, and_self]
    · simp only [bPs, bP, eq_self, AS.ev, look, td0, td1, td2, td3, td4, td5, td6, Option.getD, List.map, List.nodup_nil, List.append_nil, ↓reduceIte]
    simp only [mkC, eC, aftS, aftV, AS.kb, rmBs, mkO, packRA, flatR, ePs, eP, bPs, bP, AS.kl, retA, List.headD_cons, eq_self, xRun, vE, vP, vSub, vLoad, vFld, vStore, isCutO, gN, isPick, isCall, AS.pt, AS.ev, AS.setb, AS.mk', kill, look, setRowG, AV.cells, AV.whole, AV.one, td0, td1, td2, td3, td4, td5, td6, Option.getD, List.map, List.take, List.drop, List.length, List.set, List.foldr, List.append_nil, ↓reduceIte, Nat.reduceLT, Nat.reduceAdd, Nat.reduceEqDiff, Nat.zero_add, ne_eq, not_false_eq_true, true_and, Bool.false_eq_true, and_self, Nat.succ_ne_zero, Nat.le_refl]
    refine sw_callM hck rfl ?_ ?_ ?_ (sw_run 200 _ _ _ ?_)
    · simp only [mAs, mA, AS.kl, eatM, rD, rDs, eq_self, AS.ev, AS.owf, kill, look, eatsOf, td0, td1, td2, td3, td4, td5, td6, Option.bind, Option.getD, List.map, List.foldr, List.append_nil, ↓reduceIte, id_eq, and_self]
    · simp only [eatM, eq_self, AS.ev, look, eatsOf, td0, td1, td2, td3, td4, td5, td6, Option.getD, List.map, List.not_mem_nil, List.nodup_cons, List.nodup_nil, List.append_nil, ↓reduceIte, not_false_eq_true, and_self]
    · simp only [okR, td0, td1, td2, td3, td4, td5, td6]
    simp only [AS.kl, eatM, mkR, flatD, packA, retA, List.headD_cons, fQ, xRet, rPs, xRes, flatA, rD, rDs, eq_self, xRun, vE, vP, vExt, vStore, isCutO, gN, isPick, isCall, AS.pt, AS.ev, AS.setb, AS.mk', AS.owf, kill, look, setRowG, AV.cells, AV.whole, AV.one, eatsOf, td0, td1, td2, td3, td4, td5, td6, Option.bind, Option.getD, Option.isSome, List.map, List.take, List.drop, List.length, List.getElem?_cons_zero, List.getElem?_cons_succ, List.set, List.foldr, List.all, List.not_mem_nil, List.nodup_cons, List.nodup_nil, List.nil_append, List.cons_append, List.append_nil, ↓reduceIte, Nat.reduceLT, Nat.reduceAdd, Nat.reduceEqDiff, Nat.zero_add, not_false_eq_true, or_false, Bool.and_true, Bool.false_eq_true, id_eq, reduceCtorEq, and_self, Nat.le_refl, adS, Try.results11]
  have hi : (k : Int) < (xs.length : Int) := by omega
  have hR := flC_row imC_len S k hlt
  simp only [imC] at hR
  have hol := ou_len S k hk
  have hsn := ou_step S k hlt
  have hal : (((ouI S k).length : Nat) : Int) ≤ 1000 := by omega
  have hin1 : inI (((ouI S k).length : Int) - 1) := by unfold inI; omega
  simp only [rowD, eq_self, xRun, vE, vP, vSub, vLoad, vFld, vIdx, vBin, vBinT, isAg, isBo, vLen, vStore, isCutO, isB, bv, gN, isPick, isCall, AS.pt, AS.ev, AS.box, AS.setb, AS.owf, AS.rd, look, cav, avO, setRowG, AV.cells, AV.whole, AV.one, td0, td1, td2, td3, td4, td5, td6, Option.bind, Option.getD, Option.map, Option.isSome, List.map, List.take, List.drop, List.length, List.getElem?_cons_zero, List.getElem?_cons_succ, List.set, List.all, ↓reduceIte, Nat.reduceLT, Nat.reduceAdd, Nat.reduceEqDiff, Nat.zero_add, ne_eq, not_false_eq_true, true_and, Bool.and_true, Bool.false_eq_true, id_eq, Int.toNat_natCast, Int.natCast_nonneg, decide_true, and_self, Nat.succ_ne_zero, Nat.le_refl, hi, hR, hin1]
  by_cases h0 : 0 < (ouI S k).length
  case neg =>
    have hj := join_not (ouI S k) S[k]! (fun h => h0 h.1)
    have hz : ¬ (0 : Int) ≤ ((ouI S k).length : Int) - 1 := by omega
    rw [hj] at hsn
    refine sw_drawn (.cons 0 true (.cons 1 true (.cons 2 true (.cons 3 true (.cons 4 true (.cons 5 true (.cons 6 true (.cons 7 true (.cons 8 true (.cons 9 true (.cons 10 true (.cons 11 true (.cons 12 true (.nil)))))))))))))) (by kernel_rfl) qLp_panic (by kernel_rfl) (sw_run 200 _ _ _ ?_)
    simp only [qLp, eq_self, xRun, vE, vP, vSub, vLoad, vFld, vBin, vBinT, isAg, isBo, vRow, vStore, vApp, apP, apC, isCl, isCutO, xFill, appL, appR, isB, bv, gT, gW, gN, gV, isU, isPick, pkC, pkB, isCall, AS.pt, AS.kn, AS.ev, AS.setb, AS.mk', AS.owf, kill, look, cav, setRowG, AV.cells, AV.whole, AV.one, cD, cDs, eatsOf, dpOf, td0, td1, td2, td3, td4, td5, td6, Option.bind, Option.getD, Option.isSome, List.map, List.take, List.drop, List.length, List.getElem?_cons_zero, List.getElem?_cons_succ, List.set, List.foldr, List.all, List.replicate, List.mem_cons, List.not_mem_nil, List.nodup_nil, List.nil_append, List.cons_append, ↓reduceIte, Nat.reduceLT, Nat.reduceAdd, Nat.reduceLeDiff, Nat.reduceEqDiff, Nat.zero_add, Nat.zero_mul, Nat.one_mul, ne_eq, not_false_eq_true, true_and, or_false, or_true, Bool.and_true, Bool.not_true, Bool.false_eq_true, id_eq, reduceCtorEq, decide_false, and_self, Nat.succ_ne_zero, Nat.le_refl, hz, qLp]
    refine ⟨⟨fun h => h.elim, fun o ho => by omega, by unfold maxLen; omega, by omega⟩, by unfold inI; omega, k + 1, rn1 6 9, by omega, by omega, ?_⟩
    simp only [Sub, subT, subB, subO, subP, inj, AV.ren, AV.rens, AV.lt, AV.lts, eq_self, AS.owf, look, td0, td1, td2, td3, td4, td5, td6, Option.bind, List.map, List.length, List.mem_cons, List.not_mem_nil, List.nodup_cons, List.nodup_nil, ↓reduceIte, Nat.reduceLT, Nat.reduceEqDiff, Nat.zero_add, not_false_eq_true, or_false, id_eq, and_self, rn1, cast1, hsn, flC_app, flC_one, List.length_append, imC]
  have hz : (0 : Int) ≤ ((ouI S k).length : Int) - 1 := by omega
  have hc1 : ((ouI S k).length : Int) - 1 = (((ouI S k).length - 1 : Nat) : Int) := by omega
  have hlb : (((ouI S k).length - 1 : Nat) : Int) < ((ouI S k).length : Int) := by omega
  have hR2 := flC_row imC_len (ouI S k) ((ouI S k).length - 1) (by omega)
  simp only [imC] at hR2
  refine sw_drawn (.cons 0 true (.cons 1 true (.cons 2 true (.cons 3 true (.cons 4 true (.cons 5 true (.cons 6 true (.cons 7 true (.cons 8 true (.cons 9 true (.cons 10 true (.cons 11 true (.cons 12 true (.nil)))))))))))))) (by kernel_rfl) qLp_panic (by kernel_rfl) (sw_run 200 _ _ _ ?_)
  by_cases hn : (ouI S k)[(ouI S k).length - 1]!.name = S[k]!.name
  · have hj := join_last (ouI S k) S[k]! h0 hn
    rw [hj] at hsn
    have s1 := ou_sm S hsm k hk _ (mem_bang (show (ouI S k).length - 1 < (ouI S k).length by omega))
    have s2 := hsm _ (mem_bang hlt)
    unfold smI at s1 s2
    have hin2 : inI ((ouI S k)[(ouI S k).length - 1]!.coef + S[k]!.coef) := by unfold inI; omega
    have hset := flC_setc (((ouI S k)[(ouI S k).length - 1]!.coef + S[k]!.coef) % 10007) (ouI S k) ((ouI S k).length - 1) (by omega)
    have hz' : (0 : Int) ≤ (((ouI S k).length - 1 : Nat) : Int) := by omega
    have hred : red ((ouI S k)[(ouI S k).length - 1]!.coef + S[k]!.coef) = ((ouI S k)[(ouI S k).length - 1]!.coef + S[k]!.coef) % 10007 := rfl
    rw [hred] at hsn
    simp only [rowD, eq_self, xRun, vP, vSub, vLoad, vFld, vIdx, vBin, vBinT, isAg, isBo, isB, bv, gT, gW, gN, gV, isU, isPick, pkC, pkA, AS.pt, AS.kn, AS.ev, AS.owf, look, cav, avO, td0, td1, td2, td3, td4, td5, td6, Option.bind, Option.getD, Option.isSome, List.map, List.getElem?_cons_zero, List.getElem?_cons_succ, ↓reduceIte, Nat.reduceLT, Nat.reduceEqDiff, Nat.zero_add, Nat.add_zero, ne_eq, not_false_eq_true, true_and, Bool.false_eq_true, id_eq, Int.toNat_natCast, decide_true, and_self, Nat.succ_ne_zero, hc1, hz', hlb, hR2, hn]
    refine sw_drawn (.cons 0 true (.cons 1 true (.cons 2 true (.cons 3 true (.cons 4 true (.cons 5 true (.cons 6 true (.cons 7 true (.cons 8 true (.cons 9 true (.cons 10 true (.cons 11 true (.cons 12 false (.cons 13 true (.cons 14 true (.cons 15 false (.nil))))))))))))))))) (by kernel_rfl) qLp_panic (by kernel_rfl) (sw_run 200 _ _ _ ?_)
    simp only [rowD, eq_self, xRun, vP, vSub, vLoad, vFld, vIdx, vBin, vBinT, isAg, isBo, gN, isPick, isCall, AS.pt, AS.ev, AS.owf, look, avO, td0, td1, td2, td3, td4, td5, td6, Option.bind, Option.getD, Option.isSome, List.map, List.getElem?_cons_zero, List.getElem?_cons_succ, ↓reduceIte, Nat.reduceLT, Nat.reduceEqDiff, Nat.zero_add, ne_eq, not_false_eq_true, true_and, Bool.false_eq_true, id_eq, Int.toNat_natCast, Int.natCast_nonneg, and_self, Nat.succ_ne_zero, hlb, hR2, hn, hin2]
    refine sw_callD (con_ReduceI ((ouI S k)[(ouI S k).length - 1]!.coef + S[k]!.coef)) rfl (aAs_ok ?_) ?_ (sw_run 200 _ _ _ ?_)
    · simp only [aAs, aA, aD, AS.ev, look, Option.getD, List.map, List.append_nil, ↓reduceIte, eq_self, and_self]
    · simp only [okR]
    simp only [mkR, flatD, packA, retA, List.headD_cons, qLp, eq_self, xRun, vE, vP, vFld, vIdx, vBin, vBinT, isAg, isBo, vStore, vStE, primD, primDs, AS.setO, AV.unsp, AV.unsps, unspT, unspB, isCutO, gN, isPick, isCall, popTo, AS.pt, AS.ev, AS.owf, look, cav, setRowG, AV.cells, td0, td1, td2, td3, td4, td5, td6, Option.bind, Option.getD, Option.isSome, List.length, List.getElem?_cons_zero, List.getElem?_cons_succ, ↓reduceIte, Nat.reduceLT, Nat.reduceAdd, Nat.reduceEqDiff, Nat.zero_add, ne_eq, not_false_eq_true, true_and, Bool.false_eq_true, id_eq, Int.toNat_natCast, Int.natCast_nonneg, and_self, Nat.succ_ne_zero, Nat.le_refl, hlb, hn, hset, qLp]
    refine ⟨by unfold inI; omega, k + 1, id, by omega, by omega, ?_⟩
    simp only [Sub, subT, subB, subO, subP, inj, AV.ren, AV.rens, AV.lt, AV.lts, eq_self, AS.owf, look, td0, td1, td2, td3, td4, td5, td6, Option.bind, List.map, List.mem_cons, List.not_mem_nil, List.nodup_cons, List.nodup_nil, ↓reduceIte, Nat.reduceLT, Nat.reduceEqDiff, not_false_eq_true, or_false, id_eq, and_self, cast1, hsn, hn, List.length_set]
  · have hj := join_not (ouI S k) S[k]! (fun h => hn h.2)
    rw [hj] at hsn
    have hz' : (0 : Int) ≤ (((ouI S k).length - 1 : Nat) : Int) := by omega
    simp only [qLp, rowD, eq_self, xRun, vE, vP, vSub, vLoad, vFld, vIdx, vBin, vBinT, isAg, isBo, vRow, vStore, vApp, apP, apC, isCl, isCutO, xFill, appL, appR, isB, bv, gT, gW, gN, gV, isU, isPick, pkC, pkA, isCall, AS.pt, AS.kn, AS.ev, AS.setb, AS.mk', AS.owf, kill, look, cav, avO, setRowG, AV.cells, AV.whole, AV.one, cD, cDs, eatsOf, dpOf, td0, td1, td2, td3, td4, td5, td6, Option.bind, Option.getD, Option.isSome, List.map, List.take, List.drop, List.length, List.getElem?_cons_zero, List.getElem?_cons_succ, List.set, List.foldr, List.all, List.replicate, List.mem_cons, List.not_mem_nil, List.nodup_nil, List.nil_append, List.cons_append, ↓reduceIte, Nat.reduceLT, Nat.reduceAdd, Nat.reduceLeDiff, Nat.reduceEqDiff, Nat.zero_add, Nat.add_zero, Nat.zero_mul, Nat.one_mul, ne_eq, not_false_eq_true, true_and, or_false, or_true, Bool.and_true, Bool.false_eq_true, id_eq, reduceCtorEq, Int.toNat_natCast, decide_true, decide_false, and_self, Nat.succ_ne_zero, Nat.le_refl, hc1, hz', hlb, hR2, hn, qLp]
    refine ⟨⟨fun h => h.elim, fun o ho => by omega, by unfold maxLen; omega, by omega⟩, by unfold inI; omega, k + 1, rn1 6 9, by omega, by omega, ?_⟩
    simp only [Sub, subT, subB, subO, subP, inj, AV.ren, AV.rens, AV.lt, AV.lts, eq_self, AS.owf, look, td0, td1, td2, td3, td4, td5, td6, Option.bind, List.map, List.length, List.mem_cons, List.not_mem_nil, List.nodup_cons, List.nodup_nil, ↓reduceIte, Nat.reduceLT, Nat.reduceEqDiff, Nat.zero_add, not_false_eq_true, or_false, id_eq, and_self, rn1, cast1, hsn, flC_app, flC_one, List.length_append, imC]
end Go.Proofs.Ytepjbiffebbelaa
