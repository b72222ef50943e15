/-
  The names in a term, of both sides.
-/
import Derived.Test.YtgjcilainojlfaaAI17
import Derived.Lib.AppendZeros
import Derived.Test.YtgjcilainojlfaaNm
import Derived.Test.YtgjcilainojlfaaTmC
/-
  slices.Grow of nothing: an empty slice with room behind it.
-/
namespace Go.Proofs.Ytgjcilainojlfaa
open Go.RowKit
set_option linter.unusedVariables false
set_option linter.unusedSimpArgs false
set_option maxRecDepth 20000
def GrowC (P : Program) (F : FuncId) (T : TypeId) (sz : Nat) : Prop :=
  (∃ fn, P.funcs[F]? = some fn ∧ fn.body.isNone = false ∧ (fn.name == "runtime.NumGoroutine") = false) ∧
  ∀ (n : Nat) (w : World), n ≤ 1000000000 → Calls P F #[.slice none 0 0, .int .i64 n] w fun e w' => ∃ v, e = .returned v ∧ w'.ownsRow w.heap.size T sz v 0 [] ∧ Below w.heap.size w w'
theorem sw_callG {P : Program} {all rest : List Oper} {st : List It} {dst : Option Tmp} {f : Operand} {args : Array Operand} {tys : Array TypeId} {ty : TypeId} {pos : String} {af : Array Edge} {gd : Option (Nat × Bool)} {s : AS} {Q : QE} {F : FuncId} {T : TypeId} {sz n : Nat}
    {y : Operand} (hc : GrowC P F T sz) (hf : s.ev f = .fn F []) (ha : args.toList = [.const (.slice none 0 0), y]) (hy : s.ev y = .i n) (hn : n ≤ 1000000000)
    (h : SW P (.ops all rest :: st) ((s.mk' [] ⟨.rows sz 0 [], some T, true⟩).pt dst (.sl s.nx)) Q) :
    SW P (.ex all ⟨dst, .call ⟨.value f, args, tys⟩, ty, pos, af, gd⟩ rest :: st) s Q := fun w0 G a w hr => by
  have hfv := hr.ev f
  rw [hf] at hfv
  unfold RV at hfv
  obtain ⟨us, hu, hrs⟩ := hfv
  unfold RVs at hrs
  subst hrs
  have hv2 := hr.ev y
  rw [hy] at hv2
  unfold RV at hv2
  have e1 : args.toList.map a.eval = [.slice none 0 0, .int .i64 n] := by rw [ha]; simp only [List.map_cons, List.map_nil, hv2]; rfl
  obtain ⟨⟨fn, hfn, hbody, hname⟩, hcon⟩ := hc
  have hcall := hcon n w hn
  show (Oper.mk dst (.call ⟨.value f, args, tys⟩) ty pos af gd).wp P a w _ _
  unfold Oper.wp
  have hrun : (execOp a.eval ⟨dst, .call { callee := .value f, args := args, argTypes := tys }, ty, pos, af, gd⟩).run P w = .ok (.enter F #[.slice none 0 0, .int .i64 n]) w := by
    have e4 : ((#[] : Array Value) ++ args.map a.eval) ++ ([] : List Value).toArray = #[.slice none 0 0, .int .i64 n] := by
      apply Array.ext'; simp [e1]
    simp only [execOp, resolve, Deferred.ofValue, hu, pure_bind, invoke, e4, callFunc, Sem.run_bind, program, Sem.run, Result.andThen_ok, hfn, hname, hbody, Bool.false_eq_true, if_false, Sem.run_pure]
  rw [hrun]
  refine hcall.mono fun e w' ⟨v, he, hown, hb⟩ => ?_
  subst he
  have hbs := hr.bel.size
  have h' := hr.later hb
  have hown' := ownsRow_r hown
  have hge : ∀ k ∈ rowR v, w.heap.size ≤ k := fun k hk => by
    rcases hown.2 with ⟨rfl, _⟩ | ⟨g, cap, cur, rfl, hg, _⟩
    · simp [rowR] at hk
    · cases cap with
      | zero => simp [rowR] at hk
      | succ c => simp [rowR] at hk; omega
  obtain ⟨a2, cap2, ev, q1, q2, hlt, _⟩ := row_shape hown'
  have hrow : ∀ k ∈ rowR v, k < w'.heap.size ∧ w.heap.size ≤ k := fun k hk => ⟨(hlt k hk).1, hge k hk⟩
  have hrn : (rowR v).Nodup := by
    subst ev
    cases a2 <;> cases cap2 <;> simp [rowR]
  have hO : OwnVs w' [] [] [] := by unfold OwnVs; exact ⟨rfl, rfl⟩
  have hP : ∀ S : Nat → Prop, RepPs w' S [] [] := fun S => by unfold RepPs; rfl
  have hR : Res w0 G.Z w' (rowR v) v ⟨.rows sz 0 [], some T, true⟩ := by
    refine ⟨fun k hk => ⟨⟨fun hz => absurd (hr.zl _ hz) (Nat.not_lt.2 (hrow k hk).2), .inl (Nat.le_trans hbs (hrow k hk).2)⟩, (hrow k hk).1⟩, row_rep hown' (hP _) (fun k hk => .inr hk), fun _ => ⟨by have := row_own hown' hO; simpa using this, hrn⟩, fun T' hT => ?_⟩
    injection hT with hT
    subst hT
    exact ⟨sz, 0, [], [], rfl, hown', hP _, fun k hk => ⟨hk, .inl (Nat.le_trans hbs (hrow k hk).2)⟩, by simp, fun _ => ⟨[], hO, by simp, by simp⟩⟩
  obtain ⟨h3, h4⟩ := h'.own' (w' := w') (eats := []) h'.bel (Nat.le_refl _) (fun _ _ _ => rfl) hR (by rw [ev]; rfl) (fun b cs hl hk => by
    obtain ⟨_, _, _, _, h7, _⟩ := hr.bx b cs hl
    have := h7.lt
    have := (hrow _ hk).2
    omega) (fun o I ho _ k hk hk' => by
    have := ((hr.own o I ho).2.1.1 k hk).2
    have := (hrow k hk').2
    omega)
  exact h w0 _ _ w' (h3.pt dst h4)
theorem str_info : (Try.prog.info? 9).map (fun i => (i.zero, i.size, i.bytes)) = some (some (.string ⟨#[]⟩), 1, 16) := by kernel_rfl
set_option maxRecDepth 100000 in
set_option maxHeartbeats 800000 in
theorem grow_str : GrowC Try.prog 173 9 1 := by
  refine ⟨⟨_, Try.func173, rfl, rfl⟩, fun n w hn => ?_⟩
  by_cases h0 : n = 0
  · subst h0
    go_enter Try.func173, Try.ntmps173
    go_wp2
    go_ret
    exact ⟨_, rfl, World.ownsRow_nil _ _ _ _, Below.refl _ _⟩
  · obtain ⟨i, hi, hzz⟩ : ∃ i, Try.prog.info? 9 = some i ∧ (i.zero, i.size, i.bytes) = (some (.string ⟨#[]⟩), 1, 16) := by
      have := str_info
      cases hx : Try.prog.info? 9 with
      | none => rw [hx] at this; cases this
      | some i => rw [hx] at this; exact ⟨i, rfl, by simpa using this⟩
    simp only [Prod.mk.injEq] at hzz
    obtain ⟨hz, hs, hby⟩ := hzz
    have hrun := fun ty => Lib.run_append_nil_zeros (P := Try.prog) w 98 3 ty 9 i (.string ⟨#[]⟩) .i64 .i64 Try.underlying98 Try.underlying3 hi hz n (by omega) (by omega) (by omega) (by rw [hby]; omega)
    have hpos : ¬ (n : Int) < 0 := by omega
    have hpos2 : (0 : Int) < (n : Int) := by omega
    go_enter Try.func173, Try.ntmps173
    go_wp2_with (at_builtin; refine Lib.wpList_append_run _ rfl _ _ _ _ rfl _ _ rfl rfl _ _ (hrun _) ?_)
    go_ret
    have hge := grownCap_ge w n 0 9
    have hle := grownCap_le_maxLen w n 0 9 (by unfold maxLen; omega)
    have hb0 : Below w.heap.size w (w.alloc (.cells (Builtin.zeroCells #[Value.string ⟨#[]⟩] n ++ Builtin.zeroCells #[Value.string ⟨#[]⟩] (grownCap w n 0 9 - n)) 9)) := (Below.refl _ _).alloc (Nat.le_refl _) _
    have hblk := Blk.new w 9 (Builtin.zeroCells #[Value.string ⟨#[]⟩] n ++ Builtin.zeroCells #[Value.string ⟨#[]⟩] (grownCap w n 0 9 - n))
    refine ⟨_, rfl, ⟨rfl, .inr ⟨w.heap.size, grownCap w n 0 9, _, rfl, Nat.le_refl _, hblk, Nat.zero_le _, hle, ?_, ?_⟩⟩, hb0.drew⟩
    · simp [Builtin.zeroCells]
      omega
    · simp
end Go.Proofs.Ytgjcilainojlfaa
namespace Go.Proofs.Ytgjcilainojlfaa
open Go.RowKit
set_option linter.unusedVariables false
set_option linter.unusedSimpArgs false
set_option maxRecDepth 20000
theorem map_row {α : Type} [Inhabited α] (f : α → D) (xs : List α) (k : Nat) (h : k < xs.length) : rowAt 1 (xs.map f) k = [f xs[k]!] := by
  have h2 : k < (xs.map f).length := by simpa using h
  rw [rowAt, Nat.mul_one, List.drop_eq_getElem_cons h2]
  simp [getElem!_pos xs k h]
def flK (L : List (List ByteArray)) (k : Nat) : List ByteArray := (L.take k).flatten
theorem flK_snoc (L : List (List ByteArray)) (k : Nat) (h : k < L.length) : flK L (k + 1) = flK L k ++ L[k]! := by
  rw [flK, take_snoc L k h, List.flatten_append]; simp [flK]
theorem flK_le (L : List (List ByteArray)) (k : Nat) : (flK L k).length ≤ L.flatten.length := by
  have e : L.flatten = (L.take k).flatten ++ (L.drop k).flatten := by rw [← List.flatten_append, List.take_append_drop]
  rw [e, List.length_append, flK]; omega
theorem prim_strs (xs : List ByteArray) : ∀ d, d ∈ xs.map D.str → d.prim = true := fun d h => by
  obtain ⟨x, _, rfl⟩ := List.mem_map.mp h
  rfl
theorem con_Concat (L : List (List ByteArray)) (hl : L.flatten.length ≤ 1000000000) (hm : L.length ≤ 1000000) : Con Try.prog 167 [.one (.rows 1 L.length (L.map strsD))] [.one (strsD L.flatten)] := by
  refine con_run Try.func167 rfl rfl (by simp [Try.ntmps167]) ?_
  simp only [argT, argA, strsD, eq_self, xRun, vE, vP, vLen, isCutO, gN, isPick, isCall, AS.pt, AS.ev, AS.rd, look, cav, avB, td0, td1, td2, td3, td4, td5, td6, Option.getD, ↓reduceIte, Nat.reduceLT, true_and, Bool.false_eq_true, reduceCtorEq, Try.ntmps167]
  refine sw_loop (fun k : Nat => k ≤ L.length) (fun k => ⟨36, [(11, .i k), (10, .i L.length), (9, .br (.rows 1 L.length (L.map strsD))), (3, .i (flK L k).length), (0, .br (.rows 1 L.length (L.map strsD)))], [], [], 0, []⟩) (fun k => L.length - k) 0 id (Nat.zero_le _) ?_ ?_
  · simp only [Sub, subT, subB, subO, subP, inj, AV.ren, AV.lt, eq_self, look, td0, td1, td2, td3, td4, td5, td6, List.map, List.take, List.nodup_nil, ↓reduceIte, Nat.reduceEqDiff, reduceCtorEq, Int.natCast_zero, and_self, flK, List.flatten_nil, List.length_nil]
  · rintro k hk
    refine sw_run 200 _ _ _ ?_
    by_cases hlt : k < L.length
    · have hi : (k : Int) < (L.length : Int) := by omega
      have hR := map_row strsD L k hlt
      have hs := flK_snoc L k hlt
      have hle := flK_le L (k + 1)
      have hlen : (flK L (k + 1)).length = (flK L k).length + L[k]!.length := by rw [hs, List.length_append]
      have hn : ¬ (((flK L k).length : Int) + (L[k]!.length : Int) < 0) := by omega
      simp only [qLp, strsD, rowD, eq_self, xRun, vE, vP, vSub, vLoad, vIdx, vBin, vBinT, isAg, isBo, vLen, isCutO, isB, bv, gN, isPick, isCall, AS.pt, AS.ev, AS.rd, look, cav, avB, td0, td1, td2, td3, td4, td5, td6, Option.getD, Option.isSome, List.map, List.getElem?_cons_zero, ↓reduceIte, Nat.reduceLT, Nat.reduceEqDiff, true_and, Bool.false_eq_true, Int.toNat_natCast, Int.natCast_nonneg, decide_true, decide_false, and_self, hi, hR, strsD, hn, qLp]
      refine ⟨by unfold inI; omega, by unfold inI; omega, k + 1, id, by omega, by omega, ?_⟩
      simp only [Sub, subT, subB, subO, subP, inj, AV.ren, AV.lt, eq_self, look, td0, td1, td2, td3, td4, td5, td6, List.map, List.nodup_nil, ↓reduceIte, Nat.reduceEqDiff, reduceCtorEq, and_self, cast1, hlen, Int.natCast_add]
    · have hi : ¬ (k : Int) < (L.length : Int) := by omega
      obtain rfl : k = L.length := by omega
      have hall : flK L L.length = L.flatten := by rw [flK, List.take_length]
      simp only [qLp, eq_self, xRun, vE, vP, vBin, vBinT, isAg, isBo, isCutO, isB, bv, gN, isPick, isCall, popTo, AS.pt, AS.ev, look, td0, td1, td2, td3, td4, td5, td6, Option.getD, Option.isSome, ↓reduceIte, Nat.reduceLT, Nat.reduceEqDiff, true_and, Bool.false_eq_true, decide_false, hi]
      refine sw_run 200 _ _ _ ?_
      simp only [eq_self, xRun, vE, vP, isCutO, gN, isPick, isCall, AS.pt, AS.ev, look, td0, td1, td2, td3, td4, td5, td6, Option.getD, ↓reduceIte, Nat.reduceLT, Nat.reduceEqDiff, true_and, Bool.false_eq_true, hall]
      refine sw_callG grow_str rfl rfl rfl hl (sw_run 200 _ _ _ ?_)
      simp only [eq_self, xRun, vE, vP, vLen, isCutO, gN, isPick, isCall, AS.pt, AS.ev, AS.mk', AS.rd, kill, look, cav, td0, td1, td2, td3, td4, td5, td6, Option.getD, List.foldr, ↓reduceIte, Nat.reduceLT, Nat.zero_add, true_and, Bool.false_eq_true, reduceCtorEq]
      refine sw_loop (fun k : Nat => k ≤ L.length) (fun k => ⟨36, [(27, .i k), (26, .i L.length), (25, .br (.rows 1 L.length (L.map strsD))), (6, .sl 0)], [], [(0, some ⟨.rows 1 (flK L k).length ((flK L k).map D.str), some 9, true⟩)], 1, []⟩) (fun k => L.length - k) 0 id (Nat.zero_le _) ?_ ?_
      · simp only [Sub, subT, subB, subO, subP, inj, AV.ren, AV.lt, eq_self, AS.owf, look, td0, td1, td2, td3, td4, td5, td6, Option.bind, List.map, List.take, List.not_mem_nil, List.nodup_cons, List.nodup_nil, ↓reduceIte, Nat.reduceLT, Nat.reduceEqDiff, not_false_eq_true, id_eq, Int.natCast_zero, and_self, flK, List.flatten_nil, List.length_nil, List.map_nil]
      · rintro k hk
        refine sw_run 200 _ _ _ ?_
        by_cases hlt : k < L.length
        · have hi : (k : Int) < (L.length : Int) := by omega
          have hR := map_row strsD L k hlt
          have hs := flK_snoc L k hlt
          have hle := flK_le L (k + 1)
          have hlen : (flK L (k + 1)).length = (flK L k).length + L[k]!.length := by rw [hs, List.length_append]
          simp only [qLp, strsD, rowD, eq_self, xRun, vE, vP, vSub, vLoad, vIdx, vBin, vBinT, isAg, isBo, vApp, apP, apC, isCl, isCutO, appL, appR, isB, bv, gN, isPick, isCall, AS.pt, AS.ev, AS.mk', AS.owf, kill, look, cav, avB, td0, td1, td2, td3, td4, td5, td6, Option.bind, Option.getD, Option.isSome, List.map, List.getElem?_cons_zero, List.foldr, List.mem_cons, List.not_mem_nil, List.append_nil, ↓reduceIte, Nat.reduceLT, Nat.reduceAdd, Nat.reduceEqDiff, not_false_eq_true, true_and, or_false, Bool.and_true, Bool.not_false, Bool.false_eq_true, id_eq, Int.toNat_natCast, Int.natCast_nonneg, decide_true, and_self, hi, hR, strsD, qLp]
          refine ⟨⟨fun _ => prim_strs _, by simp, by unfold maxLen; omega, by omega⟩, by unfold inI; omega, k + 1, rn1 0 1, by omega, by omega, ?_⟩
          simp only [Sub, subT, subB, subO, subP, inj, AV.ren, AV.lt, eq_self, AS.owf, look, td0, td1, td2, td3, td4, td5, td6, Option.bind, List.map, List.not_mem_nil, List.nodup_cons, List.nodup_nil, ↓reduceIte, Nat.reduceLT, Nat.reduceEqDiff, not_false_eq_true, id_eq, and_self, rn1, cast1, hs, List.length_append, List.map_append]
        · have hi : ¬ (k : Int) < (L.length : Int) := by omega
          obtain rfl : k = L.length := by omega
          simp only [qLp, eq_self, xRun, vE, vP, vBin, vBinT, isAg, isBo, isCutO, isB, bv, gN, isPick, isCall, popTo, AS.pt, AS.ev, look, td0, td1, td2, td3, td4, td5, td6, Option.getD, Option.isSome, ↓reduceIte, Nat.reduceLT, Nat.reduceEqDiff, true_and, Bool.false_eq_true, decide_false, hi]
          refine sw_run 200 _ _ _ ?_
          simp only [fQ, xRet, rPs, xRes, flatA, rD, eq_self, xRun, vE, vP, isCutO, gN, isPick, isCall, AS.pt, AS.ev, AS.owf, look, eatsOf, td0, td1, td2, td3, td4, td5, td6, Option.bind, Option.getD, List.map, List.not_mem_nil, List.nodup_cons, List.nodup_nil, ↓reduceIte, Nat.reduceLT, Nat.reduceEqDiff, not_false_eq_true, or_false, Bool.false_eq_true, id_eq, reduceCtorEq, and_self, hall, Try.results167]
def add1 (out : List ByteArray) (x : ByteArray) : List ByteArray := if 0 ≤ fi x out 0 then out else out ++ [x]
def uni (acc cs : List ByteArray) : Nat → List ByteArray
  | 0 => acc
  | k + 1 => add1 (uni acc cs k) cs[k]!
def uniR (a b : List ByteArray) : List ByteArray := uni [] (a ++ b) (a ++ b).length
theorem bang_appL {α : Type} [Inhabited α] (l r : List α) (i : Nat) (h : i < l.length) : (l ++ r)[i]! = l[i]! := by
  rw [getElem!_pos (l ++ r) i (by simp; omega), getElem!_pos l i h, List.getElem_append_left]
theorem bang_appR {α : Type} [Inhabited α] (l r : List α) (i : Nat) (h : i < r.length) : (l ++ r)[l.length + i]! = r[i]! := by
  rw [getElem!_pos (l ++ r) (l.length + i) (by simp; omega), getElem!_pos r i h, List.getElem_append_right (by omega)]; congr 1; omega
theorem uni_left (acc a b : List ByteArray) : ∀ k, k ≤ a.length → uni acc (a ++ b) k = uni acc a k
  | 0, _ => rfl
  | k + 1, h => by rw [uni, uni, uni_left acc a b k (by omega), bang_appL a b k (by omega)]
theorem uni_right (a b : List ByteArray) : ∀ k, k ≤ b.length → uni [] (a ++ b) (a.length + k) = uni (uni [] a a.length) b k
  | 0, _ => by rw [Nat.add_zero, uni_left [] a b _ (Nat.le_refl _)]; rfl
  | k + 1, h => by rw [← Nat.add_assoc, uni, uni, uni_right a b k (by omega), bang_appR a b k (by omega)]
theorem uniR_two (a b : List ByteArray) : uniR a b = uni (uni [] a a.length) b b.length := by
  rw [uniR, List.length_append, uni_right a b _ (Nat.le_refl _)]
def sL (xs : List ByteArray) : Nat := xs.length + szL (xs.map D.str)
theorem sL_app (a b : List ByteArray) : sL (a ++ b) = sL a + sL b := by rw [sL, sL, sL, List.length_append, List.map_append, szL_append]; omega
theorem sL_one (x : ByteArray) : sL [x] = 1 + x.size := rfl
theorem uni_sL (acc cs : List ByteArray) : ∀ k, k ≤ cs.length → sL (uni acc cs k) ≤ sL acc + sL (cs.take k)
  | 0, _ => by rw [uni]; omega
  | k + 1, h => by
    have ih := uni_sL acc cs k (by omega)
    rw [take_snoc cs k (by omega), sL_app, sL_one, uni, add1]
    split
    · omega
    · rw [sL_app, sL_one]; omega
theorem uni_sz (acc cs : List ByteArray) (k : Nat) (h : k ≤ cs.length) : sL (uni acc cs k) ≤ sL acc + sL cs := by
  have h1 := uni_sL acc cs k h
  have e : sL cs = sL (cs.take k) + sL (cs.drop k) := by rw [← sL_app, List.take_append_drop]
  omega
theorem uniR_sz (a b : List ByteArray) : sL (uniR a b) ≤ sL a + sL b := by
  have h := uni_sz [] (a ++ b) _ (Nat.le_refl _)
  rw [sL_app] at h
  rw [uniR]
  have : sL [] = 0 := rfl
  omega
theorem con_UniteS (a b : List ByteArray) (ha : sL a ≤ 100000000) (hb : sL b ≤ 100000000) : Con Try.prog 132 [.one (strsD a), .one (strsD b)] [.one (strsD (uniR a b))] := by
  have hla : a.length ≤ sL a := by rw [sL]; omega
  have hlb : b.length ≤ sL b := by rw [sL]; omega
  have h0 : sL [] = 0 := rfl
  have hsa := uni_sz [] a a.length (Nat.le_refl _)
  rw [uniR_two]
  refine con_run Try.func132 rfl rfl (by simp [Try.ntmps132]) ?_
  simp only [argT, argA, strsD, eq_self, xRun, vE, vP, vRow, isCutO, xFill, gN, isPick, isCall, AS.pt, AS.ev, AS.mk', kill, look, cav, avB, cDs, eatsOf, td0, td1, td2, td3, td4, td5, td6, Option.getD, Option.isSome, List.map, List.foldr, List.all, List.replicate, List.nodup_nil, ↓reduceIte, Nat.reduceLT, Nat.zero_add, Nat.mul_one, true_and, or_true, Bool.false_eq_true, and_self, Nat.zero_le, strsD, Try.ntmps132]
  refine sw_loop (fun k : Nat => k ≤ (a).length) (fun k => ⟨50, [(6, .i k), (0, .br (.rows 1 a.length (a.map D.str))), (1, .br (.rows 1 b.length (b.map D.str))), (5, .sl 0)], [], [(0, some ⟨.rows 1 (uni [] a k).length ((uni [] a k).map D.str), some 9, true⟩)], 1, []⟩) (fun k => (a).length - k) 0 id (Nat.zero_le _) ?_ ?_
  · simp only [Sub, subT, subB, subO, subP, inj, AV.ren, AV.lt, eq_self, AS.owf, look, td0, td1, td2, td3, td4, td5, td6, Option.bind, List.map, List.not_mem_nil, List.nodup_cons, List.nodup_nil, ↓reduceIte, Nat.reduceLT, Nat.reduceEqDiff, not_false_eq_true, id_eq, reduceCtorEq, Int.natCast_zero, and_self, Nat.succ_ne_zero, uni, List.length_nil, List.map_nil]
  · rintro k hk
    refine sw_run 200 _ _ _ ?_
    by_cases hlt : k < (a).length
    · have hi : (k : Int) < ((a).length : Int) := by omega
      have hR := strs_row a k hlt
      have hsz := uni_sz [] a k hk
      have hlu : (uni [] a k).length ≤ sL (uni [] a k) := by rw [sL]; omega
      have hct := con_IndexOfS (uni [] a k) (a)[k]! (by omega)
      have hst : uni [] a (k + 1) = if 0 ≤ fi (a)[k]! (uni [] a k) 0 then uni [] a k else uni [] a k ++ [(a)[k]!] := rfl
      simp only [rowD, eq_self, xRun, vE, vP, vSub, vLoad, vIdx, vBin, vBinT, isAg, isBo, vLen, isCutO, isB, bv, gN, isPick, isCall, AS.pt, AS.ev, AS.rd, look, avB, td0, td1, td2, td3, td4, td5, td6, Option.getD, Option.isSome, List.map, List.getElem?_cons_zero, ↓reduceIte, Nat.reduceLT, Nat.reduceEqDiff, true_and, Bool.false_eq_true, reduceCtorEq, Int.toNat_natCast, Int.natCast_nonneg, decide_true, and_self, Nat.succ_ne_zero, hi, hR]
      refine sw_call (hct) rfl (aAs_ok ?_) ?_ (sw_run 200 _ _ _ ?_)
      · simp only [aAs, aA, aD, strsD, AS.ev, AS.owf, look, Option.bind, Option.getD, id_eq, List.map, List.append_nil, ↓reduceIte, Nat.reduceEqDiff, eq_self, and_self, strsD]
      · simp only [okR]
      by_cases hc : 0 ≤ fi (a)[k]! (uni [] a k) 0
      · have hc2 : ¬ fi (a)[k]! (uni [] a k) 0 < 0 := by omega
        rw [if_pos hc] at hst
        simp only [mkR, flatD, packA, retA, List.headD_cons, qLp, eq_self, xRun, vE, vP, vBin, vBinT, isAg, isBo, isCutO, isB, bv, gN, isPick, isCall, AS.pt, AS.ev, look, cav, td0, td1, td2, td3, td4, td5, td6, Option.getD, ↓reduceIte, Nat.reduceLT, Nat.reduceEqDiff, true_and, Bool.false_eq_true, decide_false, hc2, qLp]
        refine ⟨by unfold inI; omega, k + 1, id, by omega, by omega, ?_⟩
        simp only [Sub, subT, subB, subO, subP, inj, AV.ren, AV.lt, eq_self, AS.owf, look, td0, td1, td2, td3, td4, td5, td6, Option.bind, List.map, List.not_mem_nil, List.nodup_cons, List.nodup_nil, ↓reduceIte, Nat.reduceLT, Nat.reduceEqDiff, not_false_eq_true, id_eq, reduceCtorEq, and_self, Nat.succ_ne_zero, cast1, hst]
      · have hc2 : fi (a)[k]! (uni [] a k) 0 < 0 := by omega
        rw [if_neg hc] at hst
        simp only [mkR, flatD, packA, retA, List.headD_cons, qLp, rowD, eq_self, xRun, vE, vP, vSub, vLoad, vIdx, vBin, vBinT, isAg, isBo, vRow, vApp, apP, apC, isCl, isCutO, xFill, appL, appR, isB, bv, gN, isPick, isCall, AS.pt, AS.ev, AS.mk', AS.owf, kill, look, cav, avB, setRowG, AV.cells, AV.whole, AV.one, cD, cDs, eatsOf, dpOf, td0, td1, td2, td3, td4, td5, td6, Option.bind, Option.getD, Option.isSome, List.map, List.length, List.getElem?_cons_zero, List.set, List.foldr, List.all, List.replicate, List.mem_cons, List.not_mem_nil, List.nodup_nil, List.nil_append, List.cons_append, ↓reduceIte, Nat.reduceLT, Nat.reduceAdd, Nat.reduceLeDiff, Nat.reduceEqDiff, Nat.zero_add, Nat.mul_one, true_and, or_false, or_true, Bool.and_true, Bool.false_eq_true, id_eq, reduceCtorEq, Int.toNat_natCast, Int.natCast_nonneg, decide_true, and_self, Nat.succ_ne_zero, Nat.le_refl, hi, hR, hc2, qLp]
        refine ⟨⟨fun _ d hd => by rw [hd]; rfl, fun o ho => by omega, by unfold maxLen; omega, by omega⟩, by unfold inI; omega, k + 1, rnL [(0, 2)], by omega, by omega, ?_⟩
        simp only [Sub, subT, subB, subO, subP, inj, AV.ren, AV.lt, eq_self, AS.owf, look, td0, td1, td2, td3, td4, td5, td6, Option.bind, Option.getD, List.map, List.length, List.not_mem_nil, List.nodup_cons, List.nodup_nil, ↓reduceIte, Nat.reduceLT, Nat.reduceEqDiff, Nat.zero_add, not_false_eq_true, id_eq, reduceCtorEq, and_self, Nat.succ_ne_zero, rnL, cast1, hst, List.length_append, List.map_append, List.map_cons, List.map_nil]
    · have hi : ¬ (k : Int) < ((a).length : Int) := by omega
      obtain rfl : k = (a).length := by omega
      simp only [qLp, eq_self, xRun, vE, vP, vBin, vBinT, isAg, isBo, vLen, isCutO, isB, bv, gN, isPick, isCall, popTo, AS.pt, AS.ev, AS.rd, look, td0, td1, td2, td3, td4, td5, td6, Option.getD, Option.isSome, ↓reduceIte, Nat.reduceLT, Nat.reduceEqDiff, true_and, Bool.false_eq_true, reduceCtorEq, decide_false, hi]
      refine sw_run 200 _ _ _ ?_
      simp only [eq_self, xRun, vE, vP, isCutO, gN, isPick, isCall, AS.pt, AS.ev, cav, td0, td1, td2, td3, td4, td5, td6, ↓reduceIte, Nat.reduceLT, true_and, Bool.false_eq_true]
      refine sw_loop (fun k : Nat => k ≤ (b).length) (fun k => ⟨50, [(7, .i k), (0, .br (.rows 1 a.length (a.map D.str))), (1, .br (.rows 1 b.length (b.map D.str))), (5, .sl 0)], [], [(0, some ⟨.rows 1 (uni (uni [] a a.length) b k).length ((uni (uni [] a a.length) b k).map D.str), some 9, true⟩)], 1, []⟩) (fun k => (b).length - k) 0 id (Nat.zero_le _) ?_ ?_
      · simp only [Sub, subT, subB, subO, subP, inj, AV.ren, AV.lt, eq_self, AS.owf, look, td0, td1, td2, td3, td4, td5, td6, Option.bind, List.map, List.not_mem_nil, List.nodup_cons, List.nodup_nil, ↓reduceIte, Nat.reduceLT, Nat.reduceEqDiff, not_false_eq_true, id_eq, reduceCtorEq, Int.natCast_zero, and_self, Nat.succ_ne_zero, uni, List.map_nil]
      · rintro k hk
        refine sw_run 200 _ _ _ ?_
        by_cases hlt : k < (b).length
        · have hi : (k : Int) < ((b).length : Int) := by omega
          have hR := strs_row b k hlt
          have hsz := uni_sz (uni [] a a.length) b k hk
          have hlu : (uni (uni [] a a.length) b k).length ≤ sL (uni (uni [] a a.length) b k) := by rw [sL]; omega
          have hct := con_IndexOfS (uni (uni [] a a.length) b k) (b)[k]! (by omega)
          have hst : uni (uni [] a a.length) b (k + 1) = if 0 ≤ fi (b)[k]! (uni (uni [] a a.length) b k) 0 then uni (uni [] a a.length) b k else uni (uni [] a a.length) b k ++ [(b)[k]!] := rfl
          simp only [rowD, eq_self, xRun, vE, vP, vSub, vLoad, vIdx, vBin, vBinT, isAg, isBo, vLen, isCutO, isB, bv, gN, isPick, isCall, AS.pt, AS.ev, AS.rd, look, avB, td0, td1, td2, td3, td4, td5, td6, Option.getD, Option.isSome, List.map, List.getElem?_cons_zero, ↓reduceIte, Nat.reduceLT, Nat.reduceEqDiff, true_and, Bool.false_eq_true, Int.toNat_natCast, Int.natCast_nonneg, decide_true, and_self, Nat.succ_ne_zero, hi, hR]
          refine sw_call (hct) rfl (aAs_ok ?_) ?_ (sw_run 200 _ _ _ ?_)
          · simp only [aAs, aA, aD, strsD, AS.ev, AS.owf, look, Option.bind, Option.getD, id_eq, List.map, List.append_nil, ↓reduceIte, Nat.reduceEqDiff, eq_self, and_self, strsD]
          · simp only [okR]
          by_cases hc : 0 ≤ fi (b)[k]! (uni (uni [] a a.length) b k) 0
          · have hc2 : ¬ fi (b)[k]! (uni (uni [] a a.length) b k) 0 < 0 := by omega
            rw [if_pos hc] at hst
            simp only [mkR, flatD, packA, retA, List.headD_cons, qLp, eq_self, xRun, vE, vP, vBin, vBinT, isAg, isBo, isCutO, isB, bv, gN, isPick, isCall, AS.pt, AS.ev, look, cav, td0, td1, td2, td3, td4, td5, td6, Option.getD, ↓reduceIte, Nat.reduceLT, Nat.reduceEqDiff, true_and, Bool.false_eq_true, decide_false, hc2, qLp]
            refine ⟨by unfold inI; omega, k + 1, id, by omega, by omega, ?_⟩
            simp only [Sub, subT, subB, subO, subP, inj, AV.ren, AV.lt, eq_self, AS.owf, look, td0, td1, td2, td3, td4, td5, td6, Option.bind, List.map, List.not_mem_nil, List.nodup_cons, List.nodup_nil, ↓reduceIte, Nat.reduceLT, Nat.reduceEqDiff, not_false_eq_true, id_eq, reduceCtorEq, and_self, Nat.succ_ne_zero, cast1, hst]
          · have hc2 : fi (b)[k]! (uni (uni [] a a.length) b k) 0 < 0 := by omega
            rw [if_neg hc] at hst
            simp only [mkR, flatD, packA, retA, List.headD_cons, qLp, rowD, eq_self, xRun, vE, vP, vSub, vLoad, vIdx, vBin, vBinT, isAg, isBo, vRow, vApp, apP, apC, isCl, isCutO, xFill, appL, appR, isB, bv, gN, isPick, isCall, AS.pt, AS.ev, AS.mk', AS.owf, kill, look, cav, avB, setRowG, AV.cells, AV.whole, AV.one, cD, cDs, eatsOf, dpOf, td0, td1, td2, td3, td4, td5, td6, Option.bind, Option.getD, Option.isSome, List.map, List.length, List.getElem?_cons_zero, List.set, List.foldr, List.all, List.replicate, List.mem_cons, List.not_mem_nil, List.nodup_nil, List.nil_append, List.cons_append, ↓reduceIte, Nat.reduceLT, Nat.reduceAdd, Nat.reduceLeDiff, Nat.reduceEqDiff, Nat.zero_add, Nat.mul_one, true_and, or_false, or_true, Bool.and_true, Bool.false_eq_true, id_eq, reduceCtorEq, Int.toNat_natCast, Int.natCast_nonneg, decide_true, and_self, Nat.succ_ne_zero, Nat.le_refl, hi, hR, hc2, qLp]
            refine ⟨⟨fun _ d hd => by rw [hd]; rfl, fun o ho => by omega, by unfold maxLen; omega, by omega⟩, by unfold inI; omega, k + 1, rnL [(0, 2)], by omega, by omega, ?_⟩
            simp only [Sub, subT, subB, subO, subP, inj, AV.ren, AV.lt, eq_self, AS.owf, look, td0, td1, td2, td3, td4, td5, td6, Option.bind, Option.getD, List.map, List.length, List.not_mem_nil, List.nodup_cons, List.nodup_nil, ↓reduceIte, Nat.reduceLT, Nat.reduceEqDiff, Nat.zero_add, not_false_eq_true, id_eq, reduceCtorEq, and_self, Nat.succ_ne_zero, rnL, cast1, hst, List.length_append, List.map_append, List.map_cons, List.map_nil]
        · have hi : ¬ (k : Int) < ((b).length : Int) := by omega
          obtain rfl : k = (b).length := by omega
          simp only [qLp, eq_self, xRun, vE, vP, vBin, vBinT, isAg, isBo, vLen, isCutO, isB, bv, gN, isPick, isCall, popTo, AS.pt, AS.ev, AS.rd, look, td0, td1, td2, td3, td4, td5, td6, Option.getD, Option.isSome, ↓reduceIte, Nat.reduceLT, Nat.reduceEqDiff, true_and, Bool.false_eq_true, decide_false, Nat.succ_ne_zero, hi]
          refine sw_run 200 _ _ _ ?_
          simp only [fQ, xRet, rPs, xRes, flatA, rD, eq_self, xRun, vE, vP, isCutO, gN, isPick, isCall, AS.pt, AS.ev, AS.owf, look, eatsOf, td0, td1, td2, td3, td4, td5, td6, Option.bind, Option.getD, List.map, List.not_mem_nil, List.nodup_cons, List.nodup_nil, ↓reduceIte, Nat.reduceLT, Nat.reduceEqDiff, not_false_eq_true, or_false, Bool.false_eq_true, id_eq, reduceCtorEq, and_self, Nat.succ_ne_zero, Try.results132]
end Go.Proofs.Ytgjcilainojlfaa
