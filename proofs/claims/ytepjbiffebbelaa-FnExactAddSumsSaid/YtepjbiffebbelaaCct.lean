/-
  slices.Grow and slices.Concat of items.
-/
import Derived.Test.YtepjbiffebbelaaGrow
import Derived.Test.YtepjbiffebbelaaLen
import Derived.Test.YtepjbiffebbelaaTd
namespace Go.Proofs.Ytepjbiffebbelaa
open Go.RowKit
set_option linter.unusedVariables false
set_option linter.unusedSimpArgs false
set_option maxRecDepth 20000
theorem im_info : (Try.prog.info? 80).map (fun i => (i.zero, i.size, i.bytes)) = some (some (.agg #[.string ⟨#[]⟩, .int .i64 0]), 2, 24) := by kernel_rfl
set_option maxRecDepth 100000 in
set_option maxHeartbeats 800000 in
theorem grow_im : GrowC Try.prog 103 80 2 := by
  refine ⟨⟨_, Try.func103, rfl, rfl⟩, fun n w hn => ?_⟩
  by_cases h0 : n = 0
  · subst h0
    go_enter Try.func103, Try.ntmps103
    go_wp2
    go_ret
    exact ⟨_, rfl, World.ownsRow_nil _ _ _ _, Below.refl _ _⟩
  · obtain ⟨i, hi, hzz⟩ : ∃ i, Try.prog.info? 80 = some i ∧ (i.zero, i.size, i.bytes) = (some (.agg #[.string ⟨#[]⟩, .int .i64 0]), 2, 24) := by
      have := im_info
      cases hx : Try.prog.info? 80 with
      | none => rw [hx] at this; cases this
      | some i => rw [hx] at this; exact ⟨i, rfl, by simpa using this⟩
    simp only [Prod.mk.injEq] at hzz
    obtain ⟨hz, hs, hby⟩ := hzz
    have hrun := fun ty => Lib.run_append_nil_zeros (P := Try.prog) w 26 3 ty 80 i (.agg #[.string ⟨#[]⟩, .int .i64 0]) .i64 .i64 Try.underlying26 Try.underlying3 hi hz n (by omega) (by omega) (by omega) (by rw [hby]; omega)
    have hpos : ¬ (n : Int) < 0 := by omega
    have hpos2 : (0 : Int) < (n : Int) := by omega
    go_enter Try.func103, Try.ntmps103
    go_wp2_with (at_builtin; refine Lib.wpList_append_run _ rfl _ _ _ _ rfl _ _ rfl rfl _ _ (hrun _) ?_)
    go_ret
    have hge := grownCap_ge w n 0 80
    have hle := grownCap_le_maxLen w n 0 80 (by unfold maxLen; omega)
    have hb0 : Below w.heap.size w (w.alloc (.cells (Builtin.zeroCells #[Value.string ⟨#[]⟩, Value.int .i64 0] n ++ Builtin.zeroCells #[Value.string ⟨#[]⟩, Value.int .i64 0] (grownCap w n 0 80 - n)) 80)) := (Below.refl _ _).alloc (Nat.le_refl _) _
    have hblk := Blk.new w 80 (Builtin.zeroCells #[Value.string ⟨#[]⟩, Value.int .i64 0] n ++ Builtin.zeroCells #[Value.string ⟨#[]⟩, Value.int .i64 0] (grownCap w n 0 80 - n))
    refine ⟨_, rfl, ⟨rfl, .inr ⟨w.heap.size, grownCap w n 0 80, _, rfl, Nat.le_refl _, hblk, Nat.zero_le _, hle, ?_, ?_⟩⟩, hb0.drew⟩
    · simp [Builtin.zeroCells]
      omega
    · simp
theorem map_rowM {α : Type} [Inhabited α] (f : α → D) (xs : List α) (k : Nat) (h : k < xs.length) : rowAt 1 (xs.map f) k = [f xs[k]!] := by
  have h2 : k < (xs.map f).length := by simpa using h
  rw [rowAt, Nat.mul_one, List.drop_eq_getElem_cons h2]
  simp [getElem!_pos xs k h]
def flM (L : List (List Im)) (k : Nat) : List Im := (L.take k).flatten
theorem flM_snoc (L : List (List Im)) (k : Nat) (h : k < L.length) : flM L (k + 1) = flM L k ++ L[k]! := by
  rw [flM, take_snoc L k h, List.flatten_append]; simp [flM]
theorem flM_le (L : List (List Im)) (k : Nat) : (flM L k).length ≤ L.flatten.length := by
  have e : L.flatten = (L.take k).flatten ++ (L.drop k).flatten := by rw [← List.flatten_append, List.take_append_drop]
  rw [e, List.length_append, flM]; omega
theorem flM0 : flC imC [] = [] := rfl
theorem flM_app (a b : List Im) : flC imC (a ++ b) = flC imC a ++ flC imC b := flC_app imC a b
theorem prim_ims : ∀ (xs : List Im), ∀ d, d ∈ flC imC xs → d.prim = true
  | [], d, h => by cases h
  | x :: xs, d, h => by
    rw [flC] at h
    rcases List.mem_append.1 h with h | h
    · simp only [imC, List.mem_cons, List.not_mem_nil, or_false] at h
      rcases h with rfl | rfl <;> rfl
    · exact prim_ims xs d h
theorem con_ConcatM (L : List (List Im)) (hl : L.flatten.length ≤ 1000000000) (hm : L.length ≤ 1000000) : ConP Try.prog 47 [.b (.one (.rows 1 L.length (L.map imsD)))] [] [.one (.a 80 (imsD L.flatten))] := by
  refine con_runP Try.func47 rfl rfl (by simp [Try.ntmps47]) rfl ?_
  simp only [s0P, mkPs, mkPA, argA, numT, eq_self, xRun, vE, vP, vLen, isCutO, gN, isPick, isCall, AS.pt, AS.ev, AS.rd, look, cav, avB, td0, td1, td2, td3, td4, td5, td6, Option.getD, ↓reduceIte, Nat.reduceLT, true_and, Bool.false_eq_true, reduceCtorEq, Try.ntmps47]
  refine sw_loop (fun k : Nat => k ≤ L.length) (fun k => ⟨36, [(11, .i k), (10, .i L.length), (9, .br (.rows 1 L.length (L.map imsD))), (3, .i (flM L k).length), (0, .br (.rows 1 L.length (L.map imsD)))], [], [], 0, []⟩) (fun k => L.length - k) 0 id (Nat.zero_le _) ?_ ?_
  · simp only [Sub, subT, subB, subO, subP, inj, AV.ren, AV.lt, eq_self, look, td0, td1, td2, td3, td4, td5, td6, List.map, List.take, List.nodup_nil, ↓reduceIte, Nat.reduceEqDiff, reduceCtorEq, Int.natCast_zero, and_self, flM, List.flatten_nil, List.length_nil]
  · rintro k hk
    refine sw_run 200 _ _ _ ?_
    by_cases hlt : k < L.length
    · have hi : (k : Int) < (L.length : Int) := by omega
      have hR := map_rowM imsD L k hlt
      have hs := flM_snoc L k hlt
      have hle := flM_le L (k + 1)
      have hlen : (flM L (k + 1)).length = (flM L k).length + L[k]!.length := by rw [hs, List.length_append]
      have hn : ¬ (((flM L k).length : Int) + (L[k]!.length : Int) < 0) := by omega
      simp only [qLp, rowD, eq_self, xRun, vE, vP, vSub, vLoad, vIdx, vBin, vBinT, isAg, isBo, vLen, isCutO, isB, bv, gN, isPick, isCall, AS.pt, AS.ev, AS.rd, look, cav, avB, td0, td1, td2, td3, td4, td5, td6, Option.getD, Option.isSome, List.map, List.getElem?_cons_zero, ↓reduceIte, Nat.reduceLT, Nat.reduceEqDiff, true_and, Bool.false_eq_true, Int.toNat_natCast, Int.natCast_nonneg, decide_true, decide_false, and_self, hi, hR, imsD, hn, qLp]
      refine ⟨by unfold inI; omega, by unfold inI; omega, k + 1, id, by omega, by omega, ?_⟩
      simp only [Sub, subT, subB, subO, subP, inj, AV.ren, AV.lt, eq_self, look, td0, td1, td2, td3, td4, td5, td6, List.map, List.nodup_nil, ↓reduceIte, Nat.reduceEqDiff, reduceCtorEq, and_self, cast1, hlen, Int.natCast_add]
    · have hi : ¬ (k : Int) < (L.length : Int) := by omega
      obtain rfl : k = L.length := by omega
      have hall : flM L L.length = L.flatten := by rw [flM, List.take_length]
      simp only [qLp, eq_self, xRun, vE, vP, vBin, vBinT, isAg, isBo, isCutO, isB, bv, gN, isPick, isCall, popTo, AS.pt, AS.ev, look, td0, td1, td2, td3, td4, td5, td6, Option.getD, Option.isSome, ↓reduceIte, Nat.reduceLT, Nat.reduceEqDiff, true_and, Bool.false_eq_true, decide_false, hi]
      refine sw_run 200 _ _ _ ?_
      simp only [eq_self, xRun, vE, vP, isCutO, gN, isPick, isCall, AS.pt, AS.ev, look, td0, td1, td2, td3, td4, td5, td6, Option.getD, ↓reduceIte, Nat.reduceLT, Nat.reduceEqDiff, true_and, Bool.false_eq_true, hall]
      refine sw_callG grow_im rfl rfl rfl hl (sw_run 200 _ _ _ ?_)
      simp only [eq_self, xRun, vE, vP, vLen, isCutO, gN, isPick, isCall, AS.pt, AS.ev, AS.mk', AS.rd, kill, look, cav, td0, td1, td2, td3, td4, td5, td6, Option.getD, List.foldr, ↓reduceIte, Nat.reduceLT, Nat.zero_add, true_and, Bool.false_eq_true, reduceCtorEq]
      refine sw_loop (fun k : Nat => k ≤ L.length) (fun k => ⟨36, [(27, .i k), (26, .i L.length), (25, .br (.rows 1 L.length (L.map imsD))), (6, .sl 0)], [], [(0, some ⟨.rows 2 (flM L k).length (flC imC (flM L k)), some 80, true⟩)], 1, []⟩) (fun k => L.length - k) 0 id (Nat.zero_le _) ?_ ?_
      · simp only [Sub, subT, subB, subO, subP, inj, AV.ren, AV.lt, eq_self, AS.owf, look, td0, td1, td2, td3, td4, td5, td6, Option.bind, List.map, List.take, List.not_mem_nil, List.nodup_cons, List.nodup_nil, ↓reduceIte, Nat.reduceLT, Nat.reduceEqDiff, not_false_eq_true, id_eq, Int.natCast_zero, and_self, flM, List.flatten_nil, List.length_nil, flM0]
      · rintro k hk
        refine sw_run 200 _ _ _ ?_
        by_cases hlt : k < L.length
        · have hi : (k : Int) < (L.length : Int) := by omega
          have hR := map_rowM imsD L k hlt
          have hs := flM_snoc L k hlt
          have hle := flM_le L (k + 1)
          have hlen : (flM L (k + 1)).length = (flM L k).length + L[k]!.length := by rw [hs, List.length_append]
          simp only [qLp, rowD, eq_self, xRun, vE, vP, vSub, vLoad, vIdx, vBin, vBinT, isAg, isBo, vApp, apP, apC, isCl, isCutO, appL, appR, isB, bv, gN, isPick, isCall, AS.pt, AS.ev, AS.mk', AS.owf, kill, look, cav, avB, td0, td1, td2, td3, td4, td5, td6, Option.bind, Option.getD, Option.isSome, List.map, List.getElem?_cons_zero, List.foldr, List.mem_cons, List.not_mem_nil, List.append_nil, ↓reduceIte, Nat.reduceLT, Nat.reduceAdd, Nat.reduceEqDiff, not_false_eq_true, true_and, or_false, Bool.and_true, Bool.not_false, Bool.false_eq_true, id_eq, Int.toNat_natCast, Int.natCast_nonneg, decide_true, and_self, hi, hR, imsD, qLp]
          refine ⟨⟨fun _ => prim_ims _, by simp, by unfold maxLen; omega, by omega⟩, by unfold inI; omega, k + 1, rn1 0 1, by omega, by omega, ?_⟩
          simp only [Sub, subT, subB, subO, subP, inj, AV.ren, AV.lt, eq_self, AS.owf, look, td0, td1, td2, td3, td4, td5, td6, Option.bind, List.map, List.not_mem_nil, List.nodup_cons, List.nodup_nil, ↓reduceIte, Nat.reduceLT, Nat.reduceEqDiff, not_false_eq_true, id_eq, and_self, rn1, cast1, hs, List.length_append, flM_app]
        · have hi : ¬ (k : Int) < (L.length : Int) := by omega
          obtain rfl : k = L.length := by omega
          simp only [qLp, eq_self, xRun, vE, vP, vBin, vBinT, isAg, isBo, isCutO, isB, bv, gN, isPick, isCall, popTo, AS.pt, AS.ev, look, td0, td1, td2, td3, td4, td5, td6, Option.getD, Option.isSome, ↓reduceIte, Nat.reduceLT, Nat.reduceEqDiff, true_and, Bool.false_eq_true, decide_false, hi]
          refine sw_run 200 _ _ _ ?_
          simp only [fQP, xRetP, rRs, rOs, rC, eRs, eOs, eC, xRes, eq_self, xRun, vE, vP, isCutO, gN, isPick, isCall, AS.pt, AS.ev, AS.owf, look, td0, td1, td2, td3, td4, td5, td6, Option.bind, Option.getD, List.map, List.not_mem_nil, List.nodup_cons, List.nodup_nil, List.append_nil, ↓reduceIte, Nat.reduceLT, Nat.reduceEqDiff, not_false_eq_true, or_false, Bool.false_eq_true, id_eq, reduceCtorEq, and_self, hall, imsD, Try.results47]
end Go.Proofs.Ytepjbiffebbelaa
