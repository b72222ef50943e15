/-
  ParseCode of both sides.
-/
import Derived.Test.YtfbjdeeomjfhkaaGreatDoorPin
import Derived.Test.YtfbjdeeomjfhkaaGreatDoorJoi
namespace Go.Proofs.YtfbjdeeomjfhkaaGreatDoor
open Go.RowKit
set_option linter.unusedVariables false
set_option linter.unusedSimpArgs false
set_option maxRecDepth 20000
theorem ownVs_strs (w : World) : ∀ xs : List ByteArray, OwnVs w (xs.map D.str) (xs.map Value.string) []
  | [] => by unfold OwnVs; exact ⟨rfl, rfl⟩
  | x :: xs => by
    rw [List.map_cons, List.map_cons]
    unfold OwnVs
    exact ⟨_, _, [], [], rfl, rfl, ov_s _ _, ownVs_strs w xs⟩
theorem fresh_strs (w : World) (T : TypeId) (xs : List ByteArray) (h : xs.length ≤ maxLen) : Fresh (w.alloc (.cells (xs.map Value.string).toArray T)) w.heap.size (strsD xs) (.slice (some ⟨w.heap.size, 0, none⟩) xs.length xs.length) := by
  have hal : (w.alloc (.cells (xs.map Value.string).toArray T)).heap[w.heap.size]? = some (.cells (xs.map Value.string).toArray T) := heap_alloc_new _ _
  refine ⟨[w.heap.size], ?_, by simp, by simp⟩
  unfold strsD OwnV
  refine ⟨_, _, rfl, Nat.le_refl _, h, by simp, Or.inr ⟨_, _, xs.map Value.string, [], rfl, by show _ < (w.heap.push _).size; simp, rfl, fun o => ?_, fun i hi => ?_, ownVs_strs _ xs⟩⟩
  · unfold World.frozen?
    show (match (w.alloc (.cells (xs.map Value.string).toArray T)).heap[w.heap.size]? with | some (.cells _ _ (lo, hi)) => _ | _ => _) = _
    rw [hal]
    simp
  · unfold World.cell?
    show (match (w.alloc (.cells (xs.map Value.string).toArray T)).heap[w.heap.size]? with | some (.cells c _ _) => _ | _ => _) = _
    rw [hal]
    simp
theorem map_inj {a b : List ByteArray} (h : a.map (·.data.toList) = b.map (·.data.toList)) : a = b := by
  induction a generalizing b with
  | nil => cases b with
    | nil => rfl
    | cons => simp at h
  | cons x a ih => cases b with
    | nil => simp at h
    | cons y b =>
      simp only [List.map_cons, List.cons.injEq] at h
      rw [ba_ext h.1, ih h.2]
theorem split_eq (s : ByteArray) (c : UInt8) : Lib.splitB ⟨#[c]⟩ 0 (Lib.countB s ⟨#[c]⟩) s = splB s c ∧ Lib.countB s ⟨#[c]⟩ + 1 = (splB s c).length := by
  have e : Lib.splitB ⟨#[c]⟩ 0 (Lib.countB s ⟨#[c]⟩) s = splB s c := by
    refine map_inj ?_
    rw [Lib.splitB_data, splB_L]
    exact split_L c s.data.toList
  refine ⟨e, ?_⟩
  rw [← e]
  exact (Lib.splitB_all ⟨#[c]⟩ (Nat.le_refl 1) 0 _ s rfl).symm
theorem con_Split (s : ByteArray) (c : UInt8) (hz : s.size ≤ 1000000000) : Con Tryz.prog 45 [.one (.str s), .one (.str ⟨#[c]⟩)] [.one (strsD (splB s c))] := by
  refine con_U1g ⟨_, rfl, by kernel_rfl, by kernel_rfl⟩ ?_
  intro w us hg hu
  obtain ⟨v, r, rfl, h1, h2⟩ := rpd_c hu
  obtain ⟨v2, r2, rfl, h3, h4⟩ := rpd_c h2
  obtain rfl := rpd_n h4
  obtain rfl := rpd_istr h1
  obtain rfl := rpd_istr h3
  obtain ⟨m, hm⟩ := (hg.2.2 rfl).1
  obtain ⟨e1, e2⟩ := split_eq s c
  have hmx := splB_max s c
  refine (Tryz.YtfbjdeeomjfhkaaGreatDoorstrings_Split s ⟨#[c]⟩ m w (by omega) hm (Nat.le_refl 1)).mono ?_
  rintro e w' ⟨rfl, rfl⟩
  rw [e1, e2]
  exact ⟨_, rfl, fresh_strs w _ _ (by unfold maxLen; omega), (Below.refl _ _).alloc (Nat.le_refl _) _⟩
/-- What ParseCode gives for the parts from k on. -/
def pcL : List ByteArray → Nat → List Ins → List Ins × Int
  | [], _, acc => (acc, -1)
  | p :: ps, k, acc => if piO p = true then pcL ps (k + 1) (acc ++ [piX p]) else ([], k)
def pcX (s : ByteArray) : List Ins × Int := if s = ⟨#[]⟩ then ([], -1) else pcL (splB s 59) 0 []
theorem pcL_drop (xs : List ByteArray) (k : Nat) (acc : List Ins) (h : k < xs.length) : pcL (xs.drop k) k acc = if piO xs[k]! = true then pcL (xs.drop (k + 1)) (k + 1) (acc ++ [piX xs[k]!]) else ([], (k : Int)) := by
  rw [List.drop_eq_getElem_cons h, getElem!_pos xs k h]; rfl
theorem pcL_end (xs : List ByteArray) (k : Nat) (acc : List Ins) (h : xs.length ≤ k) : pcL (xs.drop k) k acc = (acc, -1) := by rw [List.drop_of_length_le h]; rfl
theorem pcL_len : ∀ (xs : List ByteArray) (k : Nat) (acc : List Ins), (pcL xs k acc).1.length ≤ acc.length + xs.length
  | [], k, acc => by simp [pcL]
  | x :: xs, k, acc => by
    rw [pcL]
    split
    · have := pcL_len xs (k + 1) (acc ++ [piX x]); simp at *; omega
    · simp
theorem pcX_len (s : ByteArray) (hz : s.size ≤ 1048576) : (pcX s).1.length ≤ 1048577 := by
  unfold pcX
  split
  · simp
  · have := pcL_len (splB s 59) 0 []
    have h2 := splB_max s 59
    simp at this; omega
theorem flI_app : ∀ (a b : List Ins), flC insC (a ++ b) = flC insC a ++ flC insC b
  | [], b => rfl
  | x :: a, b => by rw [List.cons_append, flC, flC, flI_app a b, List.append_assoc]
def acL (xs : List ByteArray) (k : Nat) : List Ins := (xs.take k).map piX
theorem acL_snoc (xs : List ByteArray) (k : Nat) (h : k < xs.length) : acL xs (k + 1) = acL xs k ++ [piX xs[k]!] := by
  unfold acL; rw [take_snoc xs k h, List.map_append]; rfl
theorem acL_len (xs : List ByteArray) (k : Nat) (h : k ≤ xs.length) : (acL xs k).length = k := by rw [acL, List.length_map, List.length_take]; omega
theorem acC_snoc (xs : List ByteArray) (k : Nat) (h : k < xs.length) : flC insC (acL xs (k + 1)) = flC insC (acL xs k) ++ [.int (piX xs[k]!).op, .int (piX xs[k]!).a] := by
  rw [acL_snoc xs k h, flI_app]; rfl
theorem flC0 : flC insC ([] : List Ins) = [] := rfl
theorem con_PcI (s : ByteArray) (hz : s.size ≤ 1048576) : Con Tryz.prog 15 [.one (.str s)] [.one (inssD (pcX s).1), .one (.int (pcX s).2)] := by
  by_cases h0 : s = ⟨#[]⟩
  · have e : pcX s = ([], -1) := if_pos h0
    rw [e]
    refine con_run Tryz.func15 rfl rfl (by simp [Tryz.ntmps15]) ?_
    simp only [argT, argA, fQ, xRet, rPs, xRes, flatA, rD, eq_self, xRun, vE, vP, vBin, vBinT, isAg, isBo, isCutO, isB, bv, gN, isPick, isCall, AS.pt, AS.ev, look, cav, avB, eatsOf, td0, td1, td2, td3, td4, td5, td6, Option.getD, List.map, List.length, List.nodup_nil, ↓reduceIte, Nat.reduceLT, Nat.reduceEqDiff, or_false, Bool.false_eq_true, reduceCtorEq, Int.reduceNeg, decide_true, and_self, eq_true h0, inssD, flC, Tryz.ntmps15, Tryz.results15]
  · have e : pcX s = pcL (splB s 59) 0 [] := if_neg h0
    have hmax := splB_max s 59
    have hs0 := splB_sz s 59
    have hSp := con_Split s 59 (by omega)
    rw [e]
    clear e
    generalize splB s 59 = xs at *
    refine con_run Tryz.func15 rfl rfl (by simp [Tryz.ntmps15]) ?_
    simp only [argT, argA, eq_self, xRun, vE, vP, vBin, vBinT, isAg, isBo, vRow, isCutO, xFill, isB, bv, gN, isPick, isCall, AS.pt, AS.ev, AS.mk', kill, look, cav, avB, cDs, eatsOf, td0, td1, td2, td3, td4, td5, td6, Option.getD, Option.isSome, List.map, List.foldr, List.all, List.replicate, List.nodup_nil, ↓reduceIte, Nat.reduceLT, Nat.zero_add, Nat.zero_mul, true_and, or_true, Bool.false_eq_true, reduceCtorEq, Int.reduceNeg, decide_false, and_self, Nat.zero_le, h0, Tryz.ntmps15]
    refine sw_call (hSp) rfl (aAs_ok ?_) ?_ (sw_run 200 _ _ _ ?_)
    · simp only [aAs, aA, aD, AS.ev, look, cav, Option.getD, List.map, List.append_nil, ↓reduceIte, eq_self, and_self]
    · simp only [okR]
    simp only [mkR, flatD, packA, retA, List.headD_cons, strsD, eq_self, xRun, vE, vP, vLen, isCutO, gN, isPick, isCall, AS.pt, AS.ev, AS.mk', AS.owf, AS.rd, kill, look, cav, td0, td1, td2, td3, td4, td5, td6, Option.bind, Option.getD, Option.map, List.foldr, ↓reduceIte, Nat.reduceLT, Nat.reduceAdd, true_and, Bool.false_eq_true, id_eq, Int.reduceNeg]
    refine sw_loop (fun k : Nat => k ≤ xs.length ∧ pcL (xs.drop k) k (acL xs k) = pcL xs 0 []) (fun k => ⟨34, [(15, .i k), (14, .i xs.length), (13, .sl 1), (4, .sl 0)], [], [(0, some ⟨.rows 2 k (flC insC (acL xs k)), some 25, true⟩), (1, some ⟨.rows 1 xs.length (xs.map D.str), none, true⟩)], 2, []⟩) (fun k => xs.length - k) 0 id ⟨Nat.zero_le _, rfl⟩ ?_ ?_
    · simp only [Sub, subT, subB, subO, subP, inj, AV.ren, AV.lt, eq_self, AS.owf, look, td0, td1, td2, td3, td4, td5, td6, Option.bind, List.map, List.take, List.mem_cons, List.not_mem_nil, List.nodup_cons, List.nodup_nil, ↓reduceIte, Nat.reduceLT, Nat.reduceEqDiff, not_false_eq_true, or_false, id_eq, reduceCtorEq, Int.natCast_zero, and_self, Int.natCast_zero, acL, List.map_nil, flC]
    · rintro k ⟨hk, hp⟩
      refine sw_run 200 _ _ _ ?_
      by_cases hlt : k < xs.length
      · have hi : (k : Int) < (xs.length : Int) := by omega
        have hR := strs_row xs k hlt
        have hP := con_PiI xs[k]! (Nat.le_trans (hs0 k hlt) (by omega))
        rw [pcL_drop xs k _ hlt] at hp
        simp only [rowD, eq_self, xRun, vE, vP, vSub, vLoad, vIdx, vBin, vBinT, isAg, isBo, isCutO, isB, bv, gN, isPick, isCall, AS.pt, AS.ev, AS.owf, look, avO, td0, td1, td2, td3, td4, td5, td6, Option.bind, Option.getD, Option.isSome, List.map, List.getElem?_cons_zero, ↓reduceIte, Nat.reduceLT, Nat.reduceEqDiff, true_and, Bool.false_eq_true, id_eq, Int.toNat_natCast, Int.reduceNeg, Int.natCast_nonneg, decide_true, and_self, Nat.succ_ne_zero, hi, hR]
        refine sw_call (hP) rfl (aAs_ok ?_) ?_ (sw_run 200 _ _ _ ?_)
        · simp only [aAs, aA, aD, AS.ev, look, Option.getD, List.map, List.append_nil, ↓reduceIte, eq_self, and_self]
        · simp only [okR]
        cases hb : piO xs[k]!
        · rw [hb, if_neg (by simp)] at hp
          simp only [mkR, flatD, packA, retA, List.headD_cons, fQ, qLp, xRet, rPs, xRes, flatA, rD, eq_self, xRun, vE, vP, vNot, vExt, vStore, isCutO, isB, bv, gN, isPick, isCall, AS.pt, AS.ev, AS.box, AS.setb, look, cav, setRowG, AV.cells, AV.whole, AV.one, eatsOf, td0, td1, td2, td3, td4, td5, td6, Option.getD, Option.isSome, List.map, List.take, List.drop, List.length, List.getElem?_cons_zero, List.getElem?_cons_succ, List.set, List.all, List.nodup_nil, List.nil_append, List.cons_append, ↓reduceIte, Nat.reduceLT, Nat.reduceAdd, Nat.reduceEqDiff, Nat.zero_add, or_false, Bool.and_true, Bool.not_false, Bool.false_eq_true, reduceCtorEq, and_self, Nat.le_refl, insC, ← hp, inssD, flC0, List.length_nil, Tryz.results15]
        · rw [hb, if_pos rfl, ← acL_snoc xs k hlt] at hp
          simp only [mkR, flatD, packA, retA, List.headD_cons, qLp, eq_self, xRun, vE, vP, vSub, vLoad, vBin, vBinT, isAg, isBo, vNot, vExt, vRow, vStore, vApp, apP, apC, isCl, isCutO, xFill, appL, appR, isB, bv, gN, isPick, isCall, AS.pt, AS.ev, AS.box, AS.setb, AS.mk', AS.owf, kill, look, cav, setRowG, AV.cells, AV.whole, AV.one, cD, cDs, eatsOf, dpOf, td0, td1, td2, td3, td4, td5, td6, Option.bind, Option.getD, Option.isSome, List.map, List.take, List.drop, List.length, List.getElem?_cons_zero, List.getElem?_cons_succ, List.set, List.foldr, List.all, List.replicate, List.mem_cons, List.not_mem_nil, List.nodup_nil, List.nil_append, List.cons_append, ↓reduceIte, Nat.reduceLT, Nat.reduceAdd, Nat.reduceLeDiff, Nat.reduceEqDiff, Nat.zero_add, Nat.zero_mul, Nat.one_mul, true_and, or_false, or_true, Bool.and_true, Bool.not_true, Bool.false_eq_true, id_eq, reduceCtorEq, and_self, Nat.succ_ne_zero, Nat.le_refl, insC]
          refine ⟨⟨fun h => h.elim, fun o ho => by omega, by unfold maxLen; omega, by omega⟩, by unfold inI; omega, k + 1, rnL [(0, 4), (1, 1)], ⟨by omega, hp⟩, by omega, ?_⟩
          simp only [Sub, subT, subB, subO, subP, inj, AV.ren, AV.lt, eq_self, AS.owf, look, td0, td1, td2, td3, td4, td5, td6, Option.bind, Option.getD, List.map, List.mem_cons, List.not_mem_nil, List.nodup_cons, List.nodup_nil, ↓reduceIte, Nat.reduceLT, Nat.reduceEqDiff, not_false_eq_true, or_false, id_eq, and_self, Nat.succ_ne_zero, rnL, acC_snoc xs k hlt, cast1]
      · have hi : ¬ (k : Int) < (xs.length : Int) := by omega
        obtain rfl : k = xs.length := by omega
        have hl := acL_len xs xs.length (Nat.le_refl _)
        rw [pcL_end xs _ _ (Nat.le_refl _)] at hp
        simp only [qLp, eq_self, xRun, vE, vP, vBin, vBinT, isAg, isBo, isCutO, isB, bv, gN, isPick, isCall, popTo, AS.pt, AS.ev, look, td0, td1, td2, td3, td4, td5, td6, Option.getD, Option.isSome, ↓reduceIte, Nat.reduceLT, Nat.reduceEqDiff, true_and, Bool.false_eq_true, Int.reduceNeg, decide_false, hi]
        refine sw_run 200 _ _ _ ?_
        simp only [fQ, xRet, rPs, xRes, flatA, rD, eq_self, xRun, vE, vP, isCutO, gN, isPick, isCall, AS.pt, AS.ev, AS.owf, look, cav, eatsOf, td0, td1, td2, td3, td4, td5, td6, Option.bind, Option.getD, List.map, List.not_mem_nil, List.nodup_cons, List.nodup_nil, ↓reduceIte, Nat.reduceLT, Nat.reduceEqDiff, not_false_eq_true, or_false, Bool.false_eq_true, id_eq, reduceCtorEq, Int.reduceNeg, and_self, ← hp, inssD, hl, Tryz.results15]
theorem con_PcS (s : ByteArray) (hz : s.size ≤ 1048576) : Con Tryz.prog 16 [.one (.str s)] [.one (inssD (pcX s).1), .one (.int (pcX s).2)] := by
  by_cases h0 : s = ⟨#[]⟩
  · have e : pcX s = ([], -1) := if_pos h0
    rw [e]
    refine con_run Tryz.func16 rfl rfl (by simp [Tryz.ntmps16]) ?_
    simp only [argT, argA, fQ, xRet, rPs, xRes, flatA, rD, eq_self, xRun, vE, vP, vBin, vBinT, isAg, isBo, vRow, isCutO, xFill, isB, bv, gN, isPick, isCall, AS.pt, AS.ev, AS.mk', AS.owf, kill, look, cav, avB, cDs, eatsOf, td0, td1, td2, td3, td4, td5, td6, Option.bind, Option.getD, Option.isSome, List.map, List.length, List.foldr, List.all, List.replicate, List.not_mem_nil, List.nodup_cons, List.nodup_nil, ↓reduceIte, Nat.reduceLT, Nat.reduceEqDiff, Nat.zero_add, Nat.zero_mul, not_false_eq_true, or_false, or_true, Bool.false_eq_true, id_eq, reduceCtorEq, Int.reduceNeg, decide_true, and_self, Nat.zero_le, eq_true h0, inssD, flC, Tryz.ntmps16, Tryz.results16]
  · have e : pcX s = pcL (splB s 59) 0 [] := if_neg h0
    have hmax := splB_max s 59
    have hs0 := splB_sz s 59
    have hSp : Con Tryz.prog 39 [.one (.str s), .one (.byt 59)] [.one (strsD (splB s 59))] := con_SplitS s 59 (by omega)
    rw [e]
    clear e
    generalize splB s 59 = xs at *
    refine con_run Tryz.func16 rfl rfl (by simp [Tryz.ntmps16]) ?_
    simp only [argT, argA, eq_self, xRun, vE, vP, vBin, vBinT, isAg, isBo, vRow, isCutO, xFill, isB, bv, gN, isPick, isCall, AS.pt, AS.ev, AS.mk', kill, look, cav, avB, cDs, eatsOf, td0, td1, td2, td3, td4, td5, td6, Option.getD, Option.isSome, List.map, List.foldr, List.all, List.replicate, List.nodup_nil, ↓reduceIte, Nat.reduceLT, Nat.zero_add, Nat.zero_mul, true_and, or_true, Bool.false_eq_true, reduceCtorEq, Int.reduceNeg, decide_false, and_self, Nat.zero_le, h0, Tryz.ntmps16]
    refine sw_call (hSp) rfl (aAs_ok ?_) ?_ (sw_run 200 _ _ _ ?_)
    · simp only [aAs, aA, aD, AS.ev, look, cav, Option.getD, List.map, List.append_nil, ↓reduceIte, eq_self, and_self]
    · simp only [okR]
    simp only [mkR, flatD, packA, retA, List.headD_cons, strsD, eq_self, xRun, vE, vP, isCutO, gN, isPick, isCall, AS.pt, AS.ev, AS.mk', kill, look, cav, td0, td1, td2, td3, td4, td5, td6, Option.getD, List.foldr, ↓reduceIte, Nat.reduceLT, Nat.reduceAdd, true_and, Bool.false_eq_true, Int.reduceNeg]
    refine sw_loop (fun k : Nat => k ≤ xs.length ∧ pcL (xs.drop k) k (acL xs k) = pcL xs 0 []) (fun k => ⟨38, [(6, .i k), (5, .sl 1), (4, .sl 0)], [], [(0, some ⟨.rows 2 k (flC insC (acL xs k)), some 25, true⟩), (1, some ⟨.rows 1 xs.length (xs.map D.str), none, true⟩)], 2, []⟩) (fun k => xs.length - k) 0 id ⟨Nat.zero_le _, rfl⟩ ?_ ?_
    · simp only [Sub, subT, subB, subO, subP, inj, AV.ren, AV.lt, eq_self, AS.owf, look, td0, td1, td2, td3, td4, td5, td6, Option.bind, List.map, List.take, List.mem_cons, List.not_mem_nil, List.nodup_cons, List.nodup_nil, ↓reduceIte, Nat.reduceLT, Nat.reduceEqDiff, not_false_eq_true, or_false, id_eq, reduceCtorEq, Int.natCast_zero, and_self, Int.natCast_zero, acL, List.map_nil, flC]
    · rintro k ⟨hk, hp⟩
      refine sw_run 200 _ _ _ ?_
      by_cases hlt : k < xs.length
      · have hi : (k : Int) < (xs.length : Int) := by omega
        have hR := strs_row xs k hlt
        have hP := con_PiS xs[k]! (Nat.le_trans (hs0 k hlt) (by omega))
        rw [pcL_drop xs k _ hlt] at hp
        simp only [rowD, eq_self, xRun, vE, vP, vSub, vLoad, vIdx, vBin, vBinT, isAg, isBo, vLen, isCutO, isB, bv, gN, isPick, isCall, AS.pt, AS.ev, AS.owf, AS.rd, look, avO, td0, td1, td2, td3, td4, td5, td6, Option.bind, Option.getD, Option.map, Option.isSome, List.map, List.getElem?_cons_zero, ↓reduceIte, Nat.reduceLT, Nat.reduceEqDiff, true_and, Bool.false_eq_true, id_eq, Int.toNat_natCast, Int.reduceNeg, Int.natCast_nonneg, decide_true, and_self, Nat.succ_ne_zero, hi, hR]
        refine sw_call (hP) rfl (aAs_ok ?_) ?_ (sw_run 200 _ _ _ ?_)
        · simp only [aAs, aA, aD, AS.ev, look, Option.getD, List.map, List.append_nil, ↓reduceIte, eq_self, and_self]
        · simp only [okR]
        cases hb : piO xs[k]!
        · rw [hb, if_neg (by simp)] at hp
          simp only [mkR, flatD, packA, retA, List.headD_cons, fQ, qLp, xRet, rPs, xRes, flatA, rD, eq_self, xRun, vE, vP, vNot, vExt, vRow, vStore, isCutO, xFill, isB, bv, gN, isPick, isCall, AS.pt, AS.ev, AS.box, AS.setb, AS.mk', AS.owf, kill, look, setRowG, AV.cells, AV.whole, AV.one, cDs, eatsOf, td0, td1, td2, td3, td4, td5, td6, Option.bind, Option.getD, Option.isSome, List.map, List.take, List.drop, List.length, List.getElem?_cons_zero, List.getElem?_cons_succ, List.set, List.foldr, List.all, List.replicate, List.not_mem_nil, List.nodup_cons, List.nodup_nil, List.nil_append, List.cons_append, ↓reduceIte, Nat.reduceLT, Nat.reduceAdd, Nat.reduceEqDiff, Nat.zero_add, Nat.zero_mul, not_false_eq_true, or_false, or_true, Bool.and_true, Bool.not_false, Bool.false_eq_true, id_eq, reduceCtorEq, and_self, Nat.zero_le, Nat.le_refl, insC, ← hp, inssD, flC0, List.length_nil, Tryz.results16]
        · rw [hb, if_pos rfl, ← acL_snoc xs k hlt] at hp
          simp only [mkR, flatD, packA, retA, List.headD_cons, qLp, eq_self, xRun, vE, vP, vSub, vLoad, vBin, vBinT, isAg, isBo, vNot, vExt, vRow, vStore, vApp, apP, apC, isCl, isCutO, xFill, appL, appR, isB, bv, gN, isPick, isCall, AS.pt, AS.ev, AS.box, AS.setb, AS.mk', AS.owf, kill, look, cav, setRowG, AV.cells, AV.whole, AV.one, cD, cDs, eatsOf, dpOf, td0, td1, td2, td3, td4, td5, td6, Option.bind, Option.getD, Option.isSome, List.map, List.take, List.drop, List.length, List.getElem?_cons_zero, List.getElem?_cons_succ, List.set, List.foldr, List.all, List.replicate, List.mem_cons, List.not_mem_nil, List.nodup_nil, List.nil_append, List.cons_append, ↓reduceIte, Nat.reduceLT, Nat.reduceAdd, Nat.reduceLeDiff, Nat.reduceEqDiff, Nat.zero_add, Nat.zero_mul, Nat.one_mul, true_and, or_false, or_true, Bool.and_true, Bool.not_true, Bool.false_eq_true, id_eq, reduceCtorEq, and_self, Nat.succ_ne_zero, Nat.le_refl, insC]
          refine ⟨⟨fun h => h.elim, fun o ho => by omega, by unfold maxLen; omega, by omega⟩, by unfold inI; omega, k + 1, rnL [(0, 4), (1, 1)], ⟨by omega, hp⟩, by omega, ?_⟩
          simp only [Sub, subT, subB, subO, subP, inj, AV.ren, AV.lt, eq_self, AS.owf, look, td0, td1, td2, td3, td4, td5, td6, Option.bind, Option.getD, List.map, List.mem_cons, List.not_mem_nil, List.nodup_cons, List.nodup_nil, ↓reduceIte, Nat.reduceLT, Nat.reduceEqDiff, not_false_eq_true, or_false, id_eq, and_self, Nat.succ_ne_zero, rnL, acC_snoc xs k hlt, cast1]
      · have hi : ¬ (k : Int) < (xs.length : Int) := by omega
        obtain rfl : k = xs.length := by omega
        have hl := acL_len xs xs.length (Nat.le_refl _)
        rw [pcL_end xs _ _ (Nat.le_refl _)] at hp
        simp only [qLp, eq_self, xRun, vE, vP, vBin, vBinT, isAg, isBo, vLen, isCutO, isB, bv, gN, isPick, isCall, popTo, AS.pt, AS.ev, AS.owf, AS.rd, look, td0, td1, td2, td3, td4, td5, td6, Option.bind, Option.getD, Option.map, Option.isSome, ↓reduceIte, Nat.reduceLT, Nat.reduceEqDiff, true_and, Bool.false_eq_true, id_eq, Int.reduceNeg, decide_false, Nat.succ_ne_zero, hi]
        refine sw_run 200 _ _ _ ?_
        simp only [fQ, xRet, rPs, xRes, flatA, rD, eq_self, xRun, vE, vP, isCutO, gN, isPick, isCall, AS.pt, AS.ev, AS.owf, look, cav, eatsOf, td0, td1, td2, td3, td4, td5, td6, Option.bind, Option.getD, List.map, List.not_mem_nil, List.nodup_cons, List.nodup_nil, ↓reduceIte, Nat.reduceLT, Nat.reduceEqDiff, not_false_eq_true, or_false, Bool.false_eq_true, id_eq, reduceCtorEq, Int.reduceNeg, and_self, ← hp, inssD, hl, Tryz.results16]
theorem sz_inss (xs : List Ins) : szD (inssD xs) = xs.length := by
  have h : szL (flC insC xs) = 0 := by
    induction xs with
    | nil => rfl
    | cons x xs ih => rw [flC, szL_append, ih]; rfl
  simp only [inssD, szD, h]; omega
theorem pc_fit {s : ByteArray} (hz : s.size ≤ 1048576) : Conf (inssD (pcX s).1) (.sl .instr) ∧ cntD (inssD (pcX s).1) ≤ 17592186044416 := by
  have hl := pcX_len s hz
  have hc : Conf (inssD (pcX s).1) (.sl .instr) := conf_fl .instr (sz := 2) insC rfl insC_len (by unfold maxLen; omega) fun y _ => by
    simp only [insC, K.fields, ConfL]
    exact ⟨_, _, rfl, by unfold Conf; rfl, _, _, rfl, by unfold Conf; rfl, rfl⟩
  have := cntD_bd hc
  rw [sz_inss] at this
  exact ⟨hc, by omega⟩
end Go.Proofs.YtfbjdeeomjfhkaaGreatDoor
