/-
  Types of terms, the reference's side: bindings, stages.
-/
import Derived.Test.YtpoemjeelbmpkaaGreatTqB
namespace Go.Proofs.YtpoemjeelbmpkaaGreat
open Go.RowKit
set_option linter.unusedVariables false
set_option linter.unusedSimpArgs false
set_option maxRecDepth 20000
theorem con_typeS (e : Tm) (ctx : List Tg) (n : Int) (T : Ty) (b : Bool) (hz : szL (tyC T) ≤ 1000000000) (hS : ConP Tryz.prog 38 [.b (.one (.rows 4 ctx.length (flC tgC ctx))), .b (.ag (tmC e)), .b (.one (.int n))] [] [.ag [.r (.int T.kind), .r (.rows 2 T.args.length (tysC T.args))], .one (.r (.bool b))]) : ConP Tryz.prog 22 [.b (.one (.rows 4 ctx.length (flC tgC ctx))), .b (.ag (tmC e)), .b (.one (.int n))] [] [.ag [.r (.int (vd2 (T, b)).1.kind), .r (.rows 2 (vd2 (T, b)).1.args.length (tysC (vd2 (T, b)).1.args))], .one (.r (.bool (vd2 (T, b)).2))] := by
  have hV := con_ValidTyS T hz
  rw [tmC_eq] at hS
  rw [tyC_eq] at hV
  unfold vd2
  cases b with
  | false =>
    simp only [Bool.false_eq_true, if_false]
    refine con_runP Tryz.func22 rfl rfl (by simp [Tryz.ntmps22]) rfl ?_
    refine byP (fc Tryz.ntmps22 Tryz.results22) ?_
    refine sw_callPR (hS) rfl rfl rfl (byQ True.intro) (byQ True.intro) (byQ True.intro) ?_
    refine sw_run 200 _ _ _ (byP (fc Tryz.ntmps22 Tryz.results22) ?_)
    exact ⟨⟨rfl, rfl, rfl⟩, rfl⟩
  | true =>
    simp only [if_true]
    cases hv : vTy T with
    | false =>
      rw [hv] at hV
      simp only [Bool.false_eq_true, if_false]
      refine con_runP Tryz.func22 rfl rfl (by simp [Tryz.ntmps22]) rfl ?_
      refine byP (fc Tryz.ntmps22 Tryz.results22) ?_
      refine sw_callPR (hS) rfl rfl rfl (byQ True.intro) (byQ True.intro) (byQ True.intro) ?_
      refine sw_run 200 _ _ _ (byQ ?_)
      refine sw_call (hV) rfl (aAs_ok (byQ True.intro)) (byQ True.intro) ?_
      refine sw_run 200 _ _ _ (byP (fc Tryz.ntmps22 Tryz.results22) ?_)
      exact ⟨⟨rfl, rfl, rfl⟩, rfl⟩
    | true =>
      rw [hv] at hV
      simp only [if_true]
      refine con_runP Tryz.func22 rfl rfl (by simp [Tryz.ntmps22]) rfl ?_
      refine byP (fc Tryz.ntmps22 Tryz.results22) ?_
      refine sw_callPR (hS) rfl rfl rfl (byQ True.intro) (byQ True.intro) (byQ True.intro) ?_
      refine sw_run 200 _ _ _ (byQ ?_)
      refine sw_call (hV) rfl (aAs_ok (byQ True.intro)) (byQ True.intro) ?_
      exact sw_run 200 _ _ _ (byP (fc Tryz.ntmps22 Tryz.results22) True.intro)
def BiS (e : Tm) (ctx : List Tg) (n : Int) (T : Ty) (b : Bool) : Prop := ConP Tryz.prog 60 [.b (.one (.rows 4 ctx.length (flC tgC ctx))), .b (.ag (tmC e)), .b (.one (.int n))] [] [.ag [.r (.int T.kind), .r (.rows 2 T.args.length (tysC T.args))], .one (.r (.bool b))]
set_option maxHeartbeats 4000000 in
theorem con_bi6 (e : Tm) (ctx : List Tg) (n : Int) (hk : e.kind = 6) (hl : e.args.length = 1) (hc : CtxW ctx e) (hy : szL (tyC e.ty) ≤ 1000000) (B : Ty) (zB : Zv B) (h0 : ConP Tryz.prog 22 [.b (.one (.rows 4 (ctx ++ [(⟨e.name, e.ty, n⟩ : Tg)]).length (flC tgC (ctx ++ [(⟨e.name, e.ty, n⟩ : Tg)])))), .b (.ag (tmC e.args[0]!)), .b (.one (.int n))] [] [.ag [.r (.int B.kind), .r (.rows 2 B.args.length (tysC B.args))], .one (.r (.bool (decide (B.kind ≠ 0))))]) : BiS e ctx n (.mk 3 [e.ty, B]) (decide (B.kind ≠ 0)) := by
  have hcl : ctx.length ≤ 1000000000 ∧ szL (flC tgC ctx) ≤ 1000000000 := by
    unfold CtxW at hc; omega
  unfold BiS
  have i0 : (0 : Int) < (e.args.length : Int) := by omega
  have r0 := tmsC_row' e.args 0 (by omega)
  have hW := con_withS ctx ⟨e.name, e.ty, n⟩ (by omega)
  have hO := conR (con_l3Fun e.ty B (by omega) (by have := zv_sz zB; omega)) trivial
  simp only at hW
  generalize ctx ++ [(⟨e.name, e.ty, n⟩ : Tg)] = ctx' at *
  rw [tyC_eq, tyC_eq] at hO
  simp only [List.map_cons, List.map_nil, toR, tysD, tyC, List.length_cons, List.length_nil, Nat.zero_add, Nat.reduceAdd] at hO
  rw [tmC_eq] at h0
  generalize decide (B.kind ≠ 0) = b at *
  refine con_runP Tryz.func60 rfl rfl (by simp [Tryz.ntmps60]) rfl ?_
  refine byP (fc hk (fc Tryz.ntmps60 Tryz.results60)) ?_
  refine sw_drawn (.cons 0 true (.cons 1 true (.cons 2 true (.cons 3 true (.cons 4 true (.cons 5 true (.cons 7 true (.cons 8 true (.cons 9 true (.cons 10 true (.cons 11 true (.fork (.alt 6 (.fork (.alt 12 (.cons 13 true (.cons 14 true (.fork (.alt 15 (.cons 16 false (.cons 17 false (.cons 18 true (.nil)))) (.alt 16 (.fork (.alt 15 (.cons 17 false (.cons 18 true (.nil))) (.alt 17 (.cons 15 true (.cons 18 true (.nil))) (.last)))) (.last)))))) (.alt 16 (.cons 12 false (.cons 13 true (.cons 14 true (.fork (.alt 15 (.cons 17 false (.cons 18 true (.nil))) (.alt 17 (.cons 15 true (.cons 18 true (.nil))) (.last))))))) (.last)))) (.alt 16 (.cons 6 false (.cons 12 false (.cons 13 true (.cons 14 true (.fork (.alt 15 (.cons 17 false (.cons 18 true (.nil))) (.alt 17 (.cons 15 true (.cons 18 true (.nil))) (.last)))))))) (.last))))))))))))))) (by kernel_rfl) fQP_panic (by kernel_rfl) ?_
  refine sw_run 200 _ _ _ (byP (fc i0 r0) ?_)
  repeat' (with_reducible apply And.intro)
  all_goals
    refine sw_callDPB (cap := []) (hW) rfl rfl rfl (byQ True.intro) ?_
    refine sw_run 200 _ _ _ (byP (fc i0 r0) ?_)
  repeat' (with_reducible apply And.intro)
  all_goals
    refine sw_callDPB (cap := []) (h0) rfl rfl rfl (byQ True.intro) ?_
  all_goals
    refine sw_run 200 _ _ _ (byP hk ?_)
  repeat' (with_reducible apply And.intro)
  all_goals
    refine sw_callPR (hO) rfl rfl rfl (byQ True.intro) (byQ True.intro) (byQ True.intro) ?_
  all_goals
    refine sw_run 200 _ _ _ (byP (fc Tryz.ntmps60 Tryz.results60) ?_)
  repeat' (with_reducible apply And.intro)
  all_goals first | exact True.intro | rfl
set_option maxHeartbeats 4000000 in
theorem con_bi8 (e : Tm) (ctx : List Tg) (n : Int) (hk : e.kind = 8) (hl : e.args.length = 2) (hc : CtxW ctx e) (A : Ty) (zA : Zv A) (h0 : ConP Tryz.prog 22 [.b (.one (.rows 4 ctx.length (flC tgC ctx))), .b (.ag (tmC e.args[0]!)), .b (.one (.int n))] [] [.ag [.r (.int A.kind), .r (.rows 2 A.args.length (tysC A.args))], .one (.r (.bool (decide (A.kind ≠ 0))))]) (B : Ty) (h1 : ConP Tryz.prog 22 [.b (.one (.rows 4 (ctx ++ [(⟨e.name, A, n⟩ : Tg)]).length (flC tgC (ctx ++ [(⟨e.name, A, n⟩ : Tg)])))), .b (.ag (tmC e.args[1]!)), .b (.one (.int n))] [] [.ag [.r (.int B.kind), .r (.rows 2 B.args.length (tysC B.args))], .one (.r (.bool (decide (B.kind ≠ 0))))]) : BiS e ctx n (if A.kind ≠ 0 then B else z0) (if A.kind ≠ 0 then decide (B.kind ≠ 0) else false) := by
  have hcl : ctx.length ≤ 1000000000 ∧ szL (flC tgC ctx) ≤ 1000000000 := by
    unfold CtxW at hc; omega
  unfold BiS
  have i0 : (0 : Int) < (e.args.length : Int) := by omega
  have r0 := tmsC_row' e.args 0 (by omega)
  have i1 : (1 : Int) < (e.args.length : Int) := by omega
  have r1 := tmsC_row' e.args 1 (by omega)
  have hW := con_withS ctx ⟨e.name, A, n⟩ (by omega)
  simp only at hW
  generalize ctx ++ [(⟨e.name, A, n⟩ : Tg)] = ctx' at *
  rw [tmC_eq] at h0 h1
  generalize decide (B.kind ≠ 0) = b at *
  by_cases hb : A.kind ≠ 0
  case neg =>
    rw [if_neg hb, if_neg hb]
    rw [decide_eq_false hb] at h0
    refine con_runP Tryz.func60 rfl rfl (by simp [Tryz.ntmps60]) rfl ?_
    refine byP (fc hk (fc i0 (fc r0 (fc Tryz.ntmps60 Tryz.results60)))) ?_
    refine sw_callPR (h0) rfl rfl rfl (byQ True.intro) (byQ True.intro) (byQ True.intro) ?_
    refine sw_run 200 _ _ _ (byP (fc Tryz.ntmps60 Tryz.results60) ?_)
    repeat' (with_reducible apply And.intro)
    all_goals first | exact True.intro | rfl
  rw [if_pos hb, if_pos hb]
  rw [decide_eq_true hb] at h0
  refine con_runP Tryz.func60 rfl rfl (by simp [Tryz.ntmps60]) rfl ?_
  refine byP (fc hk (fc i0 (fc r0 (fc Tryz.ntmps60 Tryz.results60)))) ?_
  refine sw_callPR (h0) rfl rfl rfl (byQ True.intro) (byQ True.intro) (byQ True.intro) ?_
  refine sw_run 200 _ _ _ (byQ ?_)
  refine sw_drawn (.cons 0 true (.cons 1 true (.cons 2 true (.cons 3 true (.cons 4 true (.cons 6 true (.cons 7 true (.cons 8 true (.cons 9 true (.cons 10 true (.fork (.alt 5 (.fork (.alt 11 (.cons 12 true (.cons 13 true (.fork (.alt 14 (.cons 15 false (.cons 16 false (.cons 17 true (.nil)))) (.alt 15 (.fork (.alt 14 (.cons 16 false (.cons 17 true (.nil))) (.alt 16 (.cons 14 true (.cons 17 true (.nil))) (.last)))) (.last)))))) (.alt 15 (.cons 11 false (.cons 12 true (.cons 13 true (.fork (.alt 14 (.cons 16 false (.cons 17 true (.nil))) (.alt 16 (.cons 14 true (.cons 17 true (.nil))) (.last))))))) (.last)))) (.alt 15 (.cons 5 false (.cons 11 false (.cons 12 true (.cons 13 true (.fork (.alt 14 (.cons 16 false (.cons 17 true (.nil))) (.alt 16 (.cons 14 true (.cons 17 true (.nil))) (.last)))))))) (.last)))))))))))))) (by kernel_rfl) fQP_panic (by kernel_rfl) ?_
  refine sw_run 200 _ _ _ (byP (fc i1 r1) ?_)
  repeat' (with_reducible apply And.intro)
  all_goals
    refine sw_callDPB (cap := []) (hW) rfl rfl rfl (byQ True.intro) ?_
    refine sw_run 200 _ _ _ (byP (fc i1 r1) ?_)
  repeat' (with_reducible apply And.intro)
  all_goals
    refine sw_callDPB (cap := []) (h1) rfl rfl rfl (byQ True.intro) ?_
  all_goals
    refine sw_run 200 _ _ _ (byP (fc Tryz.ntmps60 Tryz.results60) ?_)
  repeat' (with_reducible apply And.intro)
  all_goals first | exact True.intro | rfl
set_option maxHeartbeats 4000000 in
theorem con_bi9 (e : Tm) (ctx : List Tg) (n : Int) (hk : e.kind = 9) (hl : e.args.length = 1) (hc : CtxW ctx e) (hy : szL (tyC e.ty) ≤ 1000000) (hy2 : szL (tyC e.res) ≤ 1000000) (B : Ty) (zB : Zv B) (h0 : ConP Tryz.prog 22 [.b (.one (.rows 4 (ctx ++ [(⟨e.name, .mk 3 [e.ty, e.res], n⟩ : Tg), ⟨e.other, e.ty, n⟩]).length (flC tgC (ctx ++ [(⟨e.name, .mk 3 [e.ty, e.res], n⟩ : Tg), ⟨e.other, e.ty, n⟩])))), .b (.ag (tmC e.args[0]!)), .b (.one (.int n))] [] [.ag [.r (.int B.kind), .r (.rows 2 B.args.length (tysC B.args))], .one (.r (.bool (decide (B.kind ≠ 0))))]) : BiS e ctx n (.mk 3 [e.ty, e.res]) (decide (B.kind ≠ 0) && eqTy B e.res) := by
  have hcl : ctx.length ≤ 1000000000 ∧ szL (flC tgC ctx) ≤ 1000000000 := by
    unfold CtxW at hc; omega
  unfold BiS
  have i0 : (0 : Int) < (e.args.length : Int) := by omega
  have r0 := tmsC_row' e.args 0 (by omega)
  have hW := con_withS ctx ⟨e.name, .mk 3 [e.ty, e.res], n⟩ (by omega)
  have hW2 := con_withS (ctx ++ [⟨e.name, .mk 3 [e.ty, e.res], n⟩]) ⟨e.other, e.ty, n⟩ (by simp; omega)
  have hO := conR (con_l3Fun e.ty e.res (by omega) (by omega)) trivial
  have hE := con_EqTyS B e.res (by have := zv_sz zB; omega)
  rw [List.append_assoc, show [(⟨e.name, .mk 3 [e.ty, e.res], n⟩ : Tg)] ++ [⟨e.other, e.ty, n⟩] = [⟨e.name, .mk 3 [e.ty, e.res], n⟩, ⟨e.other, e.ty, n⟩] from rfl] at hW2
  simp only at hW hW2
  generalize ctx ++ [(⟨e.name, .mk 3 [e.ty, e.res], n⟩ : Tg), ⟨e.other, e.ty, n⟩] = ctx2 at *
  generalize ctx ++ [(⟨e.name, .mk 3 [e.ty, e.res], n⟩ : Tg)] = ctx1 at *
  rw [show (Ty.mk 3 [e.ty, e.res]).kind = 3 from rfl, show (Ty.mk 3 [e.ty, e.res]).args = [e.ty, e.res] from rfl] at hW
  simp only [List.length_cons, List.length_nil, Nat.zero_add, Nat.reduceAdd] at hW
  rw [tyC_eq, tyC_eq] at hO
  simp only [List.map_cons, List.map_nil, toR, tysD, tyC, List.length_cons, List.length_nil, Nat.zero_add, Nat.reduceAdd] at hO
  rw [tmC_eq] at h0
  rw [tyC_eq] at hE
  rw [tyC_eq] at hE
  simp only [tysD] at hE
  generalize eqTy B e.res = c at *
  by_cases hb : B.kind ≠ 0
  case pos =>
    rw [decide_eq_true hb] at h0 ⊢
    rw [Bool.true_and]
    refine con_runP Tryz.func60 rfl rfl (by simp [Tryz.ntmps60]) rfl ?_
    refine byP (fc hk (fc Tryz.ntmps60 Tryz.results60)) ?_
    refine sw_callPR (hO) rfl rfl rfl (byQ True.intro) (byQ True.intro) (byQ True.intro) ?_
    refine sw_run 200 _ _ _ (byQ ?_)
    refine sw_drawn (.cons 0 true (.cons 1 true (.cons 2 true (.cons 3 true (.cons 4 true (.cons 6 true (.cons 7 true (.cons 8 true (.cons 9 true (.cons 10 true (.cons 12 true (.cons 13 true (.cons 14 true (.cons 15 true (.cons 16 true (.fork (.alt 5 (.fork (.alt 11 (.fork (.alt 17 (.cons 18 true (.cons 19 true (.fork (.alt 20 (.cons 21 false (.cons 22 false (.cons 23 true (.nil)))) (.alt 21 (.fork (.alt 20 (.cons 22 false (.cons 23 true (.nil))) (.alt 22 (.cons 20 true (.cons 23 true (.nil))) (.last)))) (.last)))))) (.alt 21 (.cons 17 false (.cons 18 true (.cons 19 true (.fork (.alt 20 (.cons 22 false (.cons 23 true (.nil))) (.alt 22 (.cons 20 true (.cons 23 true (.nil))) (.last))))))) (.last)))) (.alt 21 (.cons 11 false (.cons 17 false (.cons 18 true (.cons 19 true (.fork (.alt 20 (.cons 22 false (.cons 23 true (.nil))) (.alt 22 (.cons 20 true (.cons 23 true (.nil))) (.last)))))))) (.last)))) (.alt 21 (.cons 5 false (.cons 11 false (.cons 17 false (.cons 18 true (.cons 19 true (.fork (.alt 20 (.cons 22 false (.cons 23 true (.nil))) (.alt 22 (.cons 20 true (.cons 23 true (.nil))) (.last))))))))) (.last))))))))))))))))))) (by kernel_rfl) fQP_panic (by kernel_rfl) ?_
    refine sw_run 200 _ _ _ (byP (fc i0 r0) ?_)
    repeat' (with_reducible apply And.intro)
    all_goals
      refine sw_callDPB (cap := []) (hW) rfl rfl rfl (byQ True.intro) ?_
    all_goals
      refine sw_run 200 _ _ _ (byP (fc i0 r0) ?_)
      repeat' (with_reducible apply And.intro)
    all_goals
      refine sw_callDPB (cap := []) (hW2) rfl rfl rfl (byQ True.intro) ?_
    all_goals
      refine sw_run 200 _ _ _ (byP (fc i0 r0) ?_)
      repeat' (with_reducible apply And.intro)
    all_goals
      refine sw_callDPB (cap := []) (h0) rfl rfl rfl (byQ True.intro) ?_
    all_goals
      refine sw_run 200 _ _ _ (byQ ?_)
      repeat' (with_reducible apply And.intro)
    all_goals
      refine sw_drawn (.cons 0 true (.cons 1 true (.cons 2 true (.cons 3 true (.cons 4 true (.cons 5 true (.cons 6 false (.fork (.alt 7 (.cons 8 false (.cons 9 true (.nil))) (.alt 8 (.cons 7 true (.cons 9 true (.nil))) (.last))))))))))) (by kernel_rfl) fQP_panic (by kernel_rfl) ?_
      refine sw_run 200 _ _ _ (byQ ?_)
      repeat' (with_reducible apply And.intro)
    all_goals
      refine sw_callD (hE) rfl (aAs_ok (byQ True.intro)) (byQ True.intro) ?_
    all_goals
      refine sw_run 200 _ _ _ (byP (fc Tryz.ntmps60 Tryz.results60) ?_)
    repeat' (with_reducible apply And.intro)
    all_goals first | exact True.intro | rfl
  case neg =>
    rw [decide_eq_false hb] at h0 ⊢
    rw [Bool.false_and]
    refine con_runP Tryz.func60 rfl rfl (by simp [Tryz.ntmps60]) rfl ?_
    refine byP (fc hk (fc Tryz.ntmps60 Tryz.results60)) ?_
    refine sw_callPR (hO) rfl rfl rfl (byQ True.intro) (byQ True.intro) (byQ True.intro) ?_
    refine sw_run 200 _ _ _ (byQ ?_)
    refine sw_drawn (.cons 0 true (.cons 1 true (.cons 2 true (.cons 3 true (.cons 4 true (.cons 6 true (.cons 7 true (.cons 8 true (.cons 9 true (.cons 10 true (.cons 12 true (.cons 13 true (.cons 14 true (.cons 15 true (.cons 16 true (.fork (.alt 5 (.fork (.alt 11 (.fork (.alt 17 (.cons 18 true (.cons 19 true (.fork (.alt 20 (.cons 21 false (.cons 22 false (.cons 23 true (.nil)))) (.alt 21 (.fork (.alt 20 (.cons 22 false (.cons 23 true (.nil))) (.alt 22 (.cons 20 true (.cons 23 true (.nil))) (.last)))) (.last)))))) (.alt 21 (.cons 17 false (.cons 18 true (.cons 19 true (.fork (.alt 20 (.cons 22 false (.cons 23 true (.nil))) (.alt 22 (.cons 20 true (.cons 23 true (.nil))) (.last))))))) (.last)))) (.alt 21 (.cons 11 false (.cons 17 false (.cons 18 true (.cons 19 true (.fork (.alt 20 (.cons 22 false (.cons 23 true (.nil))) (.alt 22 (.cons 20 true (.cons 23 true (.nil))) (.last)))))))) (.last)))) (.alt 21 (.cons 5 false (.cons 11 false (.cons 17 false (.cons 18 true (.cons 19 true (.fork (.alt 20 (.cons 22 false (.cons 23 true (.nil))) (.alt 22 (.cons 20 true (.cons 23 true (.nil))) (.last))))))))) (.last))))))))))))))))))) (by kernel_rfl) fQP_panic (by kernel_rfl) ?_
    refine sw_run 200 _ _ _ (byP (fc i0 r0) ?_)
    repeat' (with_reducible apply And.intro)
    all_goals
      refine sw_callDPB (cap := []) (hW) rfl rfl rfl (byQ True.intro) ?_
    all_goals
      refine sw_run 200 _ _ _ (byP (fc i0 r0) ?_)
      repeat' (with_reducible apply And.intro)
    all_goals
      refine sw_callDPB (cap := []) (hW2) rfl rfl rfl (byQ True.intro) ?_
    all_goals
      refine sw_run 200 _ _ _ (byP (fc i0 r0) ?_)
      repeat' (with_reducible apply And.intro)
    all_goals
      refine sw_callDPB (cap := []) (h0) rfl rfl rfl (byQ True.intro) ?_
    all_goals
      refine sw_run 200 _ _ _ (byQ ?_)
      repeat' (with_reducible apply And.intro)
    all_goals
      refine sw_drawn (.cons 0 true (.cons 1 true (.cons 2 true (.cons 3 true (.cons 4 true (.cons 5 true (.cons 6 false (.fork (.alt 7 (.cons 8 false (.cons 9 true (.nil))) (.alt 8 (.cons 7 true (.cons 9 true (.nil))) (.last))))))))))) (by kernel_rfl) fQP_panic (by kernel_rfl) ?_
      refine sw_run 200 _ _ _ (byP (fc Tryz.ntmps60 Tryz.results60) ?_)
      repeat' (with_reducible apply And.intro)
    repeat' (with_reducible apply And.intro)
    all_goals first | exact True.intro | rfl
end Go.Proofs.YtpoemjeelbmpkaaGreat
