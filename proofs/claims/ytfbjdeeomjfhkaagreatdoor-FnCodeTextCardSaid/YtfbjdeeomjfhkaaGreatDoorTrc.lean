/-
  TraceText of both sides.
-/
import Derived.Test.YtfbjdeeomjfhkaaGreatDoorJoin
import Derived.Test.YtfbjdeeomjfhkaaGreatDoorJoi
import Derived.Test.YtfbjdeeomjfhkaaGreatDoorLp
import Derived.Test.YtfbjdeeomjfhkaaGreatDoorTyC
import Derived.Lib.Join
namespace Go.Proofs.YtfbjdeeomjfhkaaGreatDoor
open Go.RowKit
set_option linter.unusedVariables false
set_option linter.unusedSimpArgs false
set_option maxRecDepth 20000
theorem jn_ext (xs : List ByteArray) (sep : ByteArray) : ∀ k, k ≤ xs.length → jn xs sep k = Lib.join ((xs.take k).map (·.data.toList)) sep.data.toList
  | 0, _ => rfl
  | k + 1, h => by
    have hk : k < xs.length := h
    rw [jn, jn_ext xs sep k (by omega), List.take_add_one, List.getElem?_eq_getElem hk, getElem!_pos xs k hk]
    by_cases h0 : k = 0
    · subst h0; rw [if_pos rfl, getElem!_pos xs 0 hk]; simp [Lib.join_one]
    · rw [if_neg h0]
      obtain ⟨x, r, hx⟩ : ∃ x r, xs.take k = x :: r := by
        cases hc : xs.take k with
        | nil => have := congrArg List.length hc; rw [List.length_take, Nat.min_eq_left (by omega)] at this; exact absurd this h0
        | cons x r => exact ⟨x, r, rfl⟩
      simp only [hx, List.map_cons, List.map_append, List.cons_append, Lib.join_cons, Lib.joinTail, Option.toList, List.map_nil, List.flatten_append, List.flatten_cons, List.flatten_nil, List.append_nil, List.append_assoc]
def joinB (xs : List ByteArray) (sep : ByteArray) : ByteArray := ⟨(jn xs sep xs.length).toArray⟩
theorem joinB_eq (xs : List ByteArray) (sep : ByteArray) : joinB xs sep = ⟨(Lib.join (xs.map (·.data.toList)) sep.data.toList).toArray⟩ := by
  rw [joinB, jn_ext xs sep _ (Nat.le_refl _), List.take_length]
theorem rpd_strstr {w : World} {d : D} {s : ByteArray} {us : List Value} (h : RepPDs w [.one d, .one (.str s)] us) : ∃ v, us = [v, .string s] ∧ RepV w w.heap.size d v := by
  obtain ⟨v, r, rfl, h1, h2⟩ := rpd_c h
  obtain ⟨v2, r2, rfl, h3, h4⟩ := rpd_c h2
  obtain rfl := rpd_n h4
  have h5 := rpd_ione h3
  unfold RepV at h5
  exact ⟨v, by rw [h5], rpd_ione h1⟩
theorem jn_len (xs : List ByteArray) (sep : ByteArray) (m : Nat) (hx : ∀ k, k < xs.length → xs[k]!.data.toList.length ≤ m) : ∀ k, k ≤ xs.length → (jn xs sep k).length ≤ k * (m + sep.data.toList.length)
  | 0, _ => Nat.zero_le _
  | k + 1, h => by
    have h1 := hx k h
    rw [jn, Nat.succ_mul]
    split
    · rename_i h0; subst h0; omega
    · have := jn_len xs sep m hx k (by omega)
      simp only [List.length_append]; omega
theorem con_strJoin (xs : List ByteArray) (sep : ByteArray) (hn : xs.length ≤ 1048576) (hlen : (jn xs sep xs.length).length ≤ 1000000000) : Con Tryz.prog 59 [.one (strsD xs), .one (.str sep)] [.one (.str (joinB xs sep))] := by
  refine con_U1 ⟨_, rfl, by kernel_rfl, by kernel_rfl⟩ ?_
  intro w us hu
  obtain ⟨v, rfl, hv⟩ := rpd_strstr hu
  obtain ⟨a, cap, rfl, hl, hm, hc⟩ := hv.strs
  rw [joinB_eq]
  by_cases h0 : xs = []
  · subst h0
    refine (Tryz.YtfbjdeeomjfhkaaGreatDoorstrings_Join_none a cap sep w).mono ?_
    rintro e w' ⟨rfl, rfl⟩
    exact ⟨_, rfl, fr_str _ _ _, Below.refl _ _⟩
  · have hp : 0 < xs.length := List.length_pos_iff.mpr h0
    obtain ⟨b, off, rfl, hb, _⟩ := hc 0 hp
    refine (Tryz.YtfbjdeeomjfhkaaGreatDoorstrings_Join b off cap xs sep w ?_ hb (by omega) hl ?_).mono ?_
    · intro j x hj
      obtain ⟨hlt, rfl⟩ := List.getElem?_eq_some_iff.1 hj
      obtain ⟨b2, off2, he, _, h2⟩ := hc j hlt
      injection he with he; injection he with h3 h4 _; subst h3; subst h4
      exact h2
    · rw [jn_ext xs sep _ (Nat.le_refl _), List.take_length] at hlen; omega
    · rintro e w' ⟨rfl, hw⟩
      exact ⟨_, rfl, fr_str _ _ _, hw⟩
theorem con_JoinI (xs : List ByteArray) (sep : ByteArray) (hn : xs.length ≤ 1048576) (hlen : (jn xs sep xs.length).length ≤ 1000000000) : Con Tryz.prog 47 [.one (strsD xs), .one (.str sep)] [.one (.str (joinB xs sep))] := by
  have hJ := con_strJoin xs sep hn hlen
  refine con_run Tryz.func47 rfl rfl (by simp [Tryz.ntmps47]) ?_
  simp only [argT, argA, argAs, s0M, numT, flatM, packM, AS.kl, eatM, mkR, flatD, packA, retA, List.headD_cons, List.tail_cons, fQ, qLp, tysD, tmsD, strsD, intsD, rowD, xRet, rPs, xRes, flatA, rD, rDs, eq_self, true_or, xRun, vE, vP, vSub, vLoad, vFld, vIdx, vBin, vBinT, vEqA, shp, isAg, isBo, bvA, vEqB, vMax, cellsA, eqAV, eqAVs, shpOk, vNot, vLen, vChr, vExt, vBuild, vCut, vSlc, vCnv, vRow, vStore, vStE, primD, primDs, AS.setO, AV.unsp, AV.unsps, unspT, unspB, vApp, apP, apC, isCl, isCutO, vMake, iOf, bad, xFill, appL, appR, ixL, ixH, isB, bv, gT, gW, gN, gV, isU, isPick, pkC, pkA, pkB, isCall, popTo, AS.pt, AS.kn, AS.ev, AS.box, AS.setb, AS.mk', AS.owf, AS.rd, kill, look, cav, avB, avO, setRowG, AV.cells, AV.whole, AV.one, cD, cDs, eatsOf, dpOf, td0, td1, td2, td3, td4, td5, td6, Option.bind, Option.getD, Option.map, Option.isSome, List.map, List.take, List.drop, List.length, List.getElem?_cons_zero, List.getElem?_cons_succ, List.getElem?_nil, List.set, List.flatMap, List.foldr, List.all, List.replicate, List.mem_cons, List.not_mem_nil, List.nodup_cons, List.nodup_nil, List.nil_append, List.cons_append, List.append_nil, ↓reduceIte, Nat.reduceLT, Nat.reduceAdd, Nat.reduceMul, Nat.reduceLeDiff, Nat.reduceEqDiff, Nat.zero_add, Nat.add_zero, Nat.mul_zero, Nat.zero_mul, Nat.one_mul, Nat.mul_one, ne_eq, not_false_eq_true, not_true_eq_false, true_and, and_true, false_and, and_false, or_false, or_true, false_or, true_or, Bool.true_and, Bool.and_true, Bool.false_and, Bool.and_false, Bool.not_true, Bool.not_false, Bool.false_eq_true, Bool.true_eq_false, id_eq, reduceCtorEq, Int.toNat_natCast, Int.reduceLT, Int.reduceLE, Int.reduceEq, Int.reduceNe, Int.reduceAdd, Int.reduceSub, Int.reduceMul, Int.reduceNeg, Int.reduceToNat, Nat.reduceSub, Int.toNat_zero, Int.toNat_one, Int.natCast_zero, Int.le_refl, Int.natCast_nonneg, decide_true, decide_false, and_self, decide_eq_true_eq, decide_eq_false_iff_not, Nat.succ_ne_zero, Nat.zero_le, Nat.le_refl, Tryz.ntmps47, Tryz.results47]
  refine sw_call (hJ) rfl (aAs_ok ?_) ?_ (sw_run 200 _ _ _ ?_)
  · simp only [aAs, aA, aDs, aD, tysD, tmsD, strsD, intsD, argAs, argA, avB, AS.ev, AS.owf, AS.mk', AS.pt, AS.box, AS.setb, kill, look, cav, Option.bind, Option.getD, Option.map, Option.isSome, id_eq, List.map, List.nil_append, List.cons_append, List.append_nil, List.foldr, ↓reduceIte, Nat.reduceEqDiff, Nat.reduceLT, Nat.zero_add, Nat.reduceAdd, reduceCtorEq, eq_self, and_self, true_and, and_true, List.length, Nat.succ_ne_zero, if_true, strsD]
  · simp only [okR]
  simp only [argT, argA, argAs, s0M, numT, flatM, packM, AS.kl, eatM, mkR, flatD, packA, retA, List.headD_cons, List.tail_cons, fQ, qLp, tysD, tmsD, strsD, intsD, rowD, xRet, rPs, xRes, flatA, rD, rDs, eq_self, true_or, xRun, vE, vP, vSub, vLoad, vFld, vIdx, vBin, vBinT, vEqA, shp, isAg, isBo, bvA, vEqB, vMax, cellsA, eqAV, eqAVs, shpOk, vNot, vLen, vChr, vExt, vBuild, vCut, vSlc, vCnv, vRow, vStore, vStE, primD, primDs, AS.setO, AV.unsp, AV.unsps, unspT, unspB, vApp, apP, apC, isCl, isCutO, vMake, iOf, bad, xFill, appL, appR, ixL, ixH, isB, bv, gT, gW, gN, gV, isU, isPick, pkC, pkA, pkB, isCall, popTo, AS.pt, AS.kn, AS.ev, AS.box, AS.setb, AS.mk', AS.owf, AS.rd, kill, look, cav, avB, avO, setRowG, AV.cells, AV.whole, AV.one, cD, cDs, eatsOf, dpOf, td0, td1, td2, td3, td4, td5, td6, Option.bind, Option.getD, Option.map, Option.isSome, List.map, List.take, List.drop, List.length, List.getElem?_cons_zero, List.getElem?_cons_succ, List.getElem?_nil, List.set, List.flatMap, List.foldr, List.all, List.replicate, List.mem_cons, List.not_mem_nil, List.nodup_cons, List.nodup_nil, List.nil_append, List.cons_append, List.append_nil, ↓reduceIte, Nat.reduceLT, Nat.reduceAdd, Nat.reduceMul, Nat.reduceLeDiff, Nat.reduceEqDiff, Nat.zero_add, Nat.add_zero, Nat.mul_zero, Nat.zero_mul, Nat.one_mul, Nat.mul_one, ne_eq, not_false_eq_true, not_true_eq_false, true_and, and_true, false_and, and_false, or_false, or_true, false_or, true_or, Bool.true_and, Bool.and_true, Bool.false_and, Bool.and_false, Bool.not_true, Bool.not_false, Bool.false_eq_true, Bool.true_eq_false, id_eq, reduceCtorEq, Int.toNat_natCast, Int.reduceLT, Int.reduceLE, Int.reduceEq, Int.reduceNe, Int.reduceAdd, Int.reduceSub, Int.reduceMul, Int.reduceNeg, Int.reduceToNat, Nat.reduceSub, Int.toNat_zero, Int.toNat_one, Int.natCast_zero, Int.le_refl, Int.natCast_nonneg, decide_true, decide_false, and_self, decide_eq_true_eq, decide_eq_false_iff_not, Nat.succ_ne_zero, Nat.zero_le, Nat.le_refl, Tryz.ntmps47, Tryz.results47]
theorem con_JoinS (xs : List ByteArray) (sep : ByteArray) (hn : xs.length ≤ 1048576) (hlen : ∀ k, k ≤ xs.length → (jn xs sep k).length ≤ 1000000000) : Con Tryz.prog 48 [.one (strsD xs), .one (.str sep)] [.one (.str (joinB xs sep))] := by
  refine con_U1 ⟨_, rfl, by kernel_rfl, by kernel_rfl⟩ ?_
  intro w us hu
  obtain ⟨v, rfl, hv⟩ := rpd_strstr hu
  refine (spec_Join xs sep v w hv hn hlen).mono ?_
  rintro e w' ⟨rfl, hw⟩
  exact ⟨_, rfl, fr_str _ _ _, hw⟩
def rulesL : List ByteArray := [⟨#[110, 111, 110, 101]⟩, ⟨#[111, 112]⟩, ⟨#[105, 102]⟩, ⟨#[97, 112, 112]⟩, ⟨#[114, 101, 99]⟩, ⟨#[108, 101, 116]⟩, ⟨#[115, 112, 108, 105, 99, 101]⟩, ⟨#[114, 117, 110]⟩, ⟨#[108, 105, 102, 116]⟩]
def ruleB (n : Int) : ByteArray := if n = 0 then ⟨#[110, 111, 110, 101]⟩ else if n = 1 then ⟨#[111, 112]⟩ else if n = 2 then ⟨#[105, 102]⟩ else if n = 3 then ⟨#[97, 112, 112]⟩ else if n = 4 then ⟨#[114, 101, 99]⟩ else if n = 5 then ⟨#[108, 101, 116]⟩ else if n = 6 then ⟨#[115, 112, 108, 105, 99, 101]⟩ else if n = 7 then ⟨#[114, 117, 110]⟩ else if n = 8 then ⟨#[108, 105, 102, 116]⟩ else ⟨#[63]⟩
theorem ruleB_len (n : Int) : (ruleB n).data.toList.length ≤ 6 := by
  unfold ruleB
  repeat' split
  all_goals decide
theorem ruleB_out (n : Int) (h : ¬ (0 ≤ n ∧ n ≤ 8)) : ruleB n = ⟨#[63]⟩ := by
  unfold ruleB
  repeat' (first | rw [if_neg (by omega)] | rfl)
def wdL (ns : List Int) (k : Nat) : List ByteArray := (ns.take k).map ruleB
theorem wdL_len (ns : List Int) (k : Nat) (h : k ≤ ns.length) : (wdL ns k).length = k := by rw [wdL, List.length_map, List.length_take]; omega
theorem wdL_snoc (ns : List Int) (k : Nat) (h : k < ns.length) : (wdL ns (k + 1)).map D.str = (wdL ns k).map D.str ++ [.str (ruleB ns[k]!)] := by
  rw [wdL, take_snoc ns k h, List.map_append, List.map_append]; rfl
theorem wdL_jn (ns : List Int) (hn : ns.length ≤ 1048576) (k : Nat) (hk : k ≤ ns.length) : (jn (wdL ns ns.length) ⟨#[32]⟩ k).length ≤ 1000000000 := by
  have hl := wdL_len ns ns.length (Nat.le_refl _)
  have h := jn_len (wdL ns ns.length) ⟨#[32]⟩ 6 (fun i hi => by
    rw [getElem!_pos _ i hi]
    simp only [wdL, List.getElem_map]
    exact ruleB_len _) k (by omega)
  have h1 : (⟨#[32]⟩ : ByteArray).data.toList.length = 1 := rfl
  rw [h1] at h
  omega
end Go.Proofs.YtfbjdeeomjfhkaaGreatDoor
