/-
  Types of terms, the program's side: let, rec, stages.
-/
import Derived.Test.YtpoemjeelbmpkaaGreatTpC
namespace Go.Proofs.YtpoemjeelbmpkaaGreat
open Go.RowKit
set_option linter.unusedVariables false
set_option linter.unusedSimpArgs false
set_option maxRecDepth 20000
theorem row1 (a : D) : rowAt 1 [a] 0 = [a] := rfl
set_option maxHeartbeats 2000000 in
theorem con_fm8 (e : Tm) (ctx : List Tg) (n : Int) (hk : e.kind = 8) (hl : e.args.length = 2) (hc : CtxW ctx e) (A : Ty) (zA : Zv A) (h0 : ConP Tryz.prog 29 [.b (.one (.rows 4 ctx.length (flC tgC ctx))), .b (.ag (tmC e.args[0]!)), .b (.one (.int n))] [] [.ag [.r (.int A.kind), .r (.rows 2 A.args.length (tysC A.args))]]) (B : Ty) (h1 : ConP Tryz.prog 29 [.b (.one (.rows 4 (ctx ++ [(⟨e.name, A, n⟩ : Tg)]).length (flC tgC (ctx ++ [(⟨e.name, A, n⟩ : Tg)])))), .b (.ag (tmC e.args[1]!)), .b (.one (.int n))] [] [.ag [.r (.int B.kind), .r (.rows 2 B.args.length (tysC B.args))]]) : FmI e ctx n (if A.kind = 0 then z0 else B) := by
  have hcl : ctx.length ≤ 1000000000 ∧ szL (flC tgC ctx) ≤ 1000000000 := by
    unfold CtxW at hc; omega
  unfold FmI
  have i1 : (1 : Int) < (e.args.length : Int) := by omega
  have r1 := tmsC_row' e.args 1 (by omega)
  have hW := con_with ctx [(⟨e.name, A, n⟩ : Tg)] (by omega) (by simp)
  have p0 := con_part e ctx n 0 (by omega) 0 rfl A h0
  rw [hk] at p0
  generalize ctx ++ [(⟨e.name, A, n⟩ : Tg)] = ctx' at *
  simp only [flC, tgC, tysD, List.length_cons, List.length_nil, List.append_nil, List.cons_append, List.nil_append, Nat.zero_add] at hW
  rw [tmC_eq] at h1
  by_cases hb : A.kind = 0
  · rw [if_pos hb]
    refine con_runP Tryz.func49 rfl rfl (by simp [Tryz.ntmps49]) rfl ?_
    refine byP (fc hk (fc Tryz.ntmps49 Tryz.results49)) ?_
    refine sw_fzCE 0 rfl rfl ?_
    refine sw_fzCE 1 rfl rfl ?_
    refine sw_fzCE 2 rfl rfl ?_
    refine byQ ?_
    refine sw_callPR (p0) rfl rfl rfl (byQ True.intro) (byQ True.intro) (byQ True.intro) ?_
    refine sw_run 200 _ _ _ (byP (fc hb (fc Tryz.ntmps49 Tryz.results49)) ?_)
    exact ⟨rfl, rfl, rfl⟩
  · rw [if_neg hb]
    refine con_runP Tryz.func49 rfl rfl (by simp [Tryz.ntmps49]) rfl ?_
    refine byP (fc hk (fc Tryz.ntmps49 Tryz.results49)) ?_
    refine sw_fzCE 0 rfl rfl ?_
    refine sw_fzCE 1 rfl rfl ?_
    refine sw_fzCE 2 rfl rfl ?_
    refine byQ ?_
    refine sw_callPR (p0) rfl rfl rfl (byQ True.intro) (byQ True.intro) (byQ True.intro) ?_
    refine sw_run 200 _ _ _ (byP (fc hb row9) ?_)
    refine sw_drawn (.cons 0 true (.cons 1 true (.cons 2 true (.cons 3 true (.cons 4 true (.cons 5 true (.cons 8 true (.cons 9 true (.cons 10 true (.cons 11 true (.cons 12 true (.cons 6 false (.cons 7 false (.cons 13 false (.cons 14 false (.nil)))))))))))))))) (by kernel_rfl) fQP_panic (by kernel_rfl) ?_
    refine sw_run 200 _ _ _ (byP (fc i1 (fc r1 (fc row9 row1))) ?_)
    repeat' (with_reducible apply And.intro)
    all_goals
      first | refine sw_fzG (I := ⟨_, _, false⟩) 4 rfl ?_ | refine sw_fzG (I := ⟨_, _, false⟩) 5 rfl ?_
      refine byQ ?_
      refine sw_callDPB (cap := []) (hW) rfl rfl rfl (byQ True.intro) ?_
      refine sw_run 200 _ _ _ (byP (fc i1 (fc r1 (fc row9 row1))) ?_)
    repeat' (with_reducible apply And.intro)
    all_goals
      refine sw_callDPB (cap := []) (h1) rfl rfl rfl (byQ True.intro) ?_
    all_goals
      exact sw_run 200 _ _ _ (byP (fc Tryz.ntmps49 Tryz.results49) True.intro)
set_option maxHeartbeats 2000000 in
theorem con_fm9 (e : Tm) (ctx : List Tg) (n : Int) (hk : e.kind = 9) (hl : e.args.length = 1) (hc : CtxW ctx e) (hy : szL (tyC e.ty) ≤ 1000000) (hy2 : szL (tyC e.res) ≤ 1000000) (B : Ty) (zB : Zv B) (h0 : ConP Tryz.prog 29 [.b (.one (.rows 4 (ctx ++ [(⟨e.name, .mk 3 [e.ty, e.res], n⟩ : Tg), ⟨e.other, e.ty, n⟩]).length (flC tgC (ctx ++ [(⟨e.name, .mk 3 [e.ty, e.res], n⟩ : Tg), ⟨e.other, e.ty, n⟩])))), .b (.ag (tmC e.args[0]!)), .b (.one (.int n))] [] [.ag [.r (.int B.kind), .r (.rows 2 B.args.length (tysC B.args))]]) : FmI e ctx n (if eqTy B e.res = true then .mk 3 [e.ty, e.res] else z0) := by
  have hcl : ctx.length ≤ 1000000000 ∧ szL (flC tgC ctx) ≤ 1000000000 := by
    unfold CtxW at hc; omega
  unfold FmI
  have i0 : (0 : Int) < (e.args.length : Int) := by omega
  have r0 := tmsC_row' e.args 0 (by omega)
  have hW := con_with ctx [(⟨e.name, .mk 3 [e.ty, e.res], n⟩ : Tg), ⟨e.other, e.ty, n⟩] (by omega) (by simp)
  have hO := conR (con_tyFun e.ty e.res (by omega) (by omega)) trivial
  have e1 := con_EqTyI B e.res (by have := zv_sz zB; omega)
  generalize ctx ++ [(⟨e.name, .mk 3 [e.ty, e.res], n⟩ : Tg), ⟨e.other, e.ty, n⟩] = ctx' at *
  simp only [flC, tgC, tysD, List.length_cons, List.length_nil, List.append_nil, List.cons_append, List.nil_append, Nat.zero_add, Nat.reduceAdd] at hW
  rw [show (Ty.mk 3 [e.ty, e.res]).kind = 3 from rfl, show (Ty.mk 3 [e.ty, e.res]).args = [e.ty, e.res] from rfl] at hW
  simp only [List.length_cons, List.length_nil, Nat.zero_add, Nat.reduceAdd] at hW
  rw [tyC_eq, tyC_eq] at hO
  simp only [List.map_cons, List.map_nil, toR, tysD, tyC, List.length_cons, List.length_nil, Nat.zero_add, Nat.reduceAdd] at hO
  rw [tmC_eq] at h0
  rw [tyC_eq] at e1
  rw [tyC_eq] at e1
  simp only [tysD] at e1
  by_cases hb : eqTy B e.res = true
  · rw [if_pos hb]
    rw [hb] at e1
    refine con_runP Tryz.func49 rfl rfl (by simp [Tryz.ntmps49]) rfl ?_
    refine byP (fc hk (fc Tryz.ntmps49 Tryz.results49)) ?_
    refine sw_callPR (hO) rfl rfl rfl (byQ True.intro) (byQ True.intro) (byQ True.intro) ?_
    refine sw_run 200 _ _ _ (byQ ?_)
    refine sw_drawn (.cons 0 true (.cons 1 true (.cons 2 true (.cons 3 true (.cons 4 true (.cons 5 true (.cons 6 true (.cons 7 true (.cons 8 true (.cons 9 true (.cons 10 true (.cons 11 true (.cons 14 true (.cons 15 true (.cons 16 true (.cons 17 true (.cons 18 true (.fork (.alt 12 (.fork (.alt 13 (.fork (.alt 19 (.cons 20 false (.cons 21 false (.nil))) (.alt 20 (.cons 19 false (.cons 21 false (.nil))) (.last)))) (.alt 20 (.cons 13 false (.cons 19 false (.cons 21 false (.nil)))) (.last)))) (.alt 20 (.cons 12 false (.cons 13 false (.cons 19 false (.cons 21 false (.nil))))) (.last))))))))))))))))))))) (by kernel_rfl) fQP_panic (by kernel_rfl) ?_
    refine sw_run 200 _ _ _ (byP (fc i0 r0) ?_)
    repeat' (with_reducible apply And.intro)
    all_goals
      first | refine sw_fzG (I := ⟨_, _, false⟩) 5 rfl ?_ | refine sw_fzG (I := ⟨_, _, false⟩) 6 rfl ?_
      refine byQ ?_
      refine sw_callDPB (cap := []) (hW) rfl rfl rfl (byQ True.intro) ?_
      refine sw_run 200 _ _ _ (byP (fc i0 r0) ?_)
    repeat' (with_reducible apply And.intro)
    all_goals
      refine sw_callDPB (cap := []) (h0) rfl rfl rfl (byQ True.intro) ?_
    all_goals
      refine sw_run 200 _ _ _ (byP (fc Tryz.ntmps49 Tryz.results49) ?_)
    repeat' (with_reducible apply And.intro)
    all_goals
      refine sw_call (e1) rfl (aAs_ok (byQ True.intro)) (byQ True.intro) ?_
      refine sw_run 200 _ _ _ (byP (fc Tryz.ntmps49 Tryz.results49) ?_)
    repeat' (with_reducible apply And.intro)
    all_goals rfl
  · rw [if_neg hb]
    rw [show eqTy B e.res = false by simpa using hb] at e1
    refine con_runP Tryz.func49 rfl rfl (by simp [Tryz.ntmps49]) rfl ?_
    refine byP (fc hk (fc Tryz.ntmps49 Tryz.results49)) ?_
    refine sw_callPR (hO) rfl rfl rfl (byQ True.intro) (byQ True.intro) (byQ True.intro) ?_
    refine sw_run 200 _ _ _ (byQ ?_)
    refine sw_drawn (.cons 0 true (.cons 1 true (.cons 2 true (.cons 3 true (.cons 4 true (.cons 5 true (.cons 6 true (.cons 7 true (.cons 8 true (.cons 9 true (.cons 10 true (.cons 11 true (.cons 14 true (.cons 15 true (.cons 16 true (.cons 17 true (.cons 18 true (.fork (.alt 12 (.fork (.alt 13 (.fork (.alt 19 (.cons 20 false (.cons 21 false (.nil))) (.alt 20 (.cons 19 false (.cons 21 false (.nil))) (.last)))) (.alt 20 (.cons 13 false (.cons 19 false (.cons 21 false (.nil)))) (.last)))) (.alt 20 (.cons 12 false (.cons 13 false (.cons 19 false (.cons 21 false (.nil))))) (.last))))))))))))))))))))) (by kernel_rfl) fQP_panic (by kernel_rfl) ?_
    refine sw_run 200 _ _ _ (byP (fc i0 r0) ?_)
    repeat' (with_reducible apply And.intro)
    all_goals
      first | refine sw_fzG (I := ⟨_, _, false⟩) 5 rfl ?_ | refine sw_fzG (I := ⟨_, _, false⟩) 6 rfl ?_
      refine byQ ?_
      refine sw_callDPB (cap := []) (hW) rfl rfl rfl (byQ True.intro) ?_
      refine sw_run 200 _ _ _ (byP (fc i0 r0) ?_)
    repeat' (with_reducible apply And.intro)
    all_goals
      refine sw_callDPB (cap := []) (h0) rfl rfl rfl (byQ True.intro) ?_
    all_goals
      refine sw_run 200 _ _ _ (byP (fc Tryz.ntmps49 Tryz.results49) ?_)
    repeat' (with_reducible apply And.intro)
    all_goals
      refine sw_call (e1) rfl (aAs_ok (byQ True.intro)) (byQ True.intro) ?_
      refine sw_run 200 _ _ _ (byP (fc Tryz.ntmps49 Tryz.results49) ?_)
    repeat' (with_reducible apply And.intro)
    all_goals rfl
def StI (e : Tm) (ctx : List Tg) (n : Int) (T : Ty) : Prop := ConP Tryz.prog 82 [.b (.one (.rows 4 ctx.length (flC tgC ctx))), .b (.ag (tmC e)), .b (.one (.int n))] [] [.ag [.r (.int T.kind), .r (.rows 2 T.args.length (tysC T.args))]]
theorem con_st10 (e : Tm) (ctx : List Tg) (n : Int) (hk : e.kind = 10) (hl : e.args.length = 1) (hn0 : -2000000000 ≤ n ∧ n ≤ 2000000000) (B : Ty) (zB : Zv B) (h0 : ConP Tryz.prog 29 [.b (.one (.rows 4 ctx.length (flC tgC ctx))), .b (.ag (tmC e.args[0]!)), .b (.one (.int (n + 1)))] [] [.ag [.r (.int B.kind), .r (.rows 2 B.args.length (tysC B.args))]]) : StI e ctx n (if B.kind = 0 then z0 else .mk 4 [B]) := by
  unfold StI
  have i0 : (0 : Int) < (e.args.length : Int) := by omega
  have r0 := tmsC_row' e.args 0 (by omega)
  rw [tmC_eq] at h0
  have hn : inI (n + 1) := by unfold inI; omega
  have hO := conR (con_tyCode B (by have := zv_sz zB; omega)) trivial
  rw [tyC_eq] at hO
  simp only [List.map_cons, List.map_nil, toR, tysD, tyC, List.length_cons, List.length_nil, Nat.zero_add, Nat.reduceAdd] at hO
  by_cases hb : B.kind = 0
  · rw [if_pos hb]
    refine con_runP Tryz.func82 rfl rfl (by simp [Tryz.ntmps82]) rfl ?_
    refine byP (fc hk (fc i0 (fc r0 (fc hn (fc Tryz.ntmps82 Tryz.results82))))) ?_
    refine sw_callPR (h0) rfl rfl rfl (byQ True.intro) (byQ True.intro) (byQ True.intro) ?_
    refine sw_run 200 _ _ _ (byP (fc hb (fc Tryz.ntmps82 Tryz.results82)) ?_)
    exact ⟨rfl, rfl, rfl⟩
  · rw [if_neg hb]
    refine con_runP Tryz.func82 rfl rfl (by simp [Tryz.ntmps82]) rfl ?_
    refine byP (fc hk (fc i0 (fc r0 (fc hn (fc Tryz.ntmps82 Tryz.results82))))) ?_
    refine sw_callPR (h0) rfl rfl rfl (byQ True.intro) (byQ True.intro) (byQ True.intro) ?_
    refine sw_run 200 _ _ _ (byP hb ?_)
    refine sw_callPR (hO) rfl rfl rfl (byQ True.intro) (byQ True.intro) (byQ True.intro) ?_
    refine sw_run 200 _ _ _ (byP (fc Tryz.ntmps82 Tryz.results82) ?_)
    exact ⟨rfl, rfl⟩
theorem con_st11 (e : Tm) (ctx : List Tg) (n : Int) (hk : e.kind = 11) (hl : e.args.length = 1) (hn0 : -2000000000 ≤ n ∧ n ≤ 2000000000) (B : Ty) (zB : Zv B) (h0 : ConP Tryz.prog 29 [.b (.one (.rows 4 ctx.length (flC tgC ctx))), .b (.ag (tmC e.args[0]!)), .b (.one (.int (n - 1)))] [] [.ag [.r (.int B.kind), .r (.rows 2 B.args.length (tysC B.args))]]) : StI e ctx n (codeF B) := by
  unfold StI
  have i0 : (0 : Int) < (e.args.length : Int) := by omega
  have r0 := tmsC_row' e.args 0 (by omega)
  rw [tmC_eq] at h0
  have hn : inI (n - 1) := by unfold inI; omega
  have hO := conR (con_codeOf B (by have := zv_sz zB; omega) (fun h4 => by
    have hv := zv_ne zB (by omega)
    rcases f_kind (v_form hv) with ⟨q, _⟩ | ⟨q, _⟩ | ⟨q, _⟩ | ⟨_, u, hu, _⟩
    · omega
    · omega
    · omega
    · rw [hu]; simp)) trivial
  generalize hcd : codeF B = T at *
  rw [tyC_eq, tyC_eq] at hO
  simp only [List.map_cons, List.map_nil, toR, tysD] at hO
  refine con_runP Tryz.func82 rfl rfl (by simp [Tryz.ntmps82]) rfl ?_
  refine byP (fc hk (fc i0 (fc r0 (fc hn (fc Tryz.ntmps82 Tryz.results82))))) ?_
  refine sw_callPR (h0) rfl rfl rfl (byQ True.intro) (byQ True.intro) (byQ True.intro) ?_
  refine sw_run 200 _ _ _ (byQ ?_)
  refine sw_callPR (hO) rfl rfl rfl (byQ True.intro) (byQ True.intro) (byQ True.intro) ?_
  exact sw_run 200 _ _ _ (byP (fc Tryz.ntmps82 Tryz.results82) True.intro)
theorem con_st12 (e : Tm) (ctx : List Tg) (n : Int) (hk : e.kind = 12) (hl : e.args.length = 1) (hn0 : -2000000000 ≤ n ∧ n ≤ 2000000000) (hc : CtxW ctx e) (B : Ty) (zB : Zv B) (h0 : ConP Tryz.prog 29 [.b (.one (.rows 4 (safeTg ctx n ctx.length).length (flC tgC (safeTg ctx n ctx.length)))), .b (.ag (tmC e.args[0]!)), .b (.one (.int n))] [] [.ag [.r (.int B.kind), .r (.rows 2 B.args.length (tysC B.args))]]) : StI e ctx n (codeF B) := by
  unfold StI
  have i0 : (0 : Int) < (e.args.length : Int) := by omega
  have r0 := tmsC_row' e.args 0 (by omega)
  rw [tmC_eq] at h0
  have hn : True := trivial
  have hO := conR (con_codeOf B (by have := zv_sz zB; omega) (fun h4 => by
    have hv := zv_ne zB (by omega)
    rcases f_kind (v_form hv) with ⟨q, _⟩ | ⟨q, _⟩ | ⟨q, _⟩ | ⟨_, u, hu, _⟩
    · omega
    · omega
    · omega
    · rw [hu]; simp)) trivial
  generalize hcd : codeF B = T at *
  rw [tyC_eq, tyC_eq] at hO
  simp only [List.map_cons, List.map_nil, toR, tysD] at hO
  have hS := conR (con_SafeCtxI ctx n (by rw [tgsD, szD]; unfold CtxW at hc; omega)) trivial
  simp only [List.map_cons, List.map_nil, toR, tgsD] at hS
  generalize safeTg ctx n ctx.length = ctx' at *
  refine con_runP Tryz.func82 rfl rfl (by simp [Tryz.ntmps82]) rfl ?_
  refine byP (fc hk (fc i0 (fc r0 (fc Tryz.ntmps82 Tryz.results82)))) ?_
  refine sw_drawn (.cons 0 true (.cons 1 true (.cons 3 true (.cons 4 true (.cons 5 true (.cons 6 true (.cons 7 true (.cons 2 false (.cons 8 false (.cons 9 false (.cons 10 false (.nil)))))))))))) (by kernel_rfl) fQP_panic (by kernel_rfl) ?_
  refine sw_run 200 _ _ _ (byP (fc i0 r0) ?_)
  refine sw_callDPB (cap := []) (hS) rfl rfl rfl (byQ True.intro) ?_
  refine sw_run 200 _ _ _ (byP (fc i0 r0) ?_)
  refine sw_callDPB (cap := []) (h0) rfl rfl rfl (byQ True.intro) ?_
  refine sw_run 200 _ _ _ (byQ ?_)
  refine sw_callDPB (cap := []) (hO) rfl rfl rfl (byQ True.intro) ?_
  exact sw_run 200 _ _ _ (byP (fc Tryz.ntmps82 Tryz.results82) True.intro)
theorem con_st13 (e : Tm) (ctx : List Tg) (n : Int) (hk : e.kind = 13) (hl : e.args.length = 1) (hn0 : -2000000000 ≤ n ∧ n ≤ 2000000000) (B : Ty) (zB : Zv B) (h0 : ConP Tryz.prog 29 [.b (.one (.rows 4 ctx.length (flC tgC ctx))), .b (.ag (tmC e.args[0]!)), .b (.one (.int n))] [] [.ag [.r (.int B.kind), .r (.rows 2 B.args.length (tysC B.args))]]) : StI e ctx n (if isBaseT B = true then .mk 4 [B] else z0) := by
  unfold StI
  have i0 : (0 : Int) < (e.args.length : Int) := by omega
  have r0 := tmsC_row' e.args 0 (by omega)
  rw [tmC_eq] at h0
  have hn : True := trivial
  have hB := con_IsBaseI B
  rw [tyC_eq] at hB
  have hO := conR (con_tyCode B (by have := zv_sz zB; omega)) trivial
  rw [tyC_eq] at hO
  simp only [List.map_cons, List.map_nil, toR, tysD, tyC, List.length_cons, List.length_nil, Nat.zero_add, Nat.reduceAdd] at hO
  by_cases hb : isBaseT B = true
  · rw [if_pos hb]
    rw [hb] at hB
    refine con_runP Tryz.func82 rfl rfl (by simp [Tryz.ntmps82]) rfl ?_
    refine byP (fc hk (fc i0 (fc r0 (fc Tryz.ntmps82 Tryz.results82)))) ?_
    refine sw_callPR (h0) rfl rfl rfl (byQ True.intro) (byQ True.intro) (byQ True.intro) ?_
    refine sw_run 200 _ _ _ (byQ ?_)
    refine sw_call (hB) rfl (aAs_ok (byQ True.intro)) (byQ True.intro) ?_
    refine sw_run 200 _ _ _ (byQ ?_)
    refine sw_callPR (hO) rfl rfl rfl (byQ True.intro) (byQ True.intro) (byQ True.intro) ?_
    refine sw_run 200 _ _ _ (byP (fc Tryz.ntmps82 Tryz.results82) ?_)
    exact ⟨rfl, rfl⟩
  · rw [if_neg hb]
    rw [show isBaseT B = false by simpa using hb] at hB
    refine con_runP Tryz.func82 rfl rfl (by simp [Tryz.ntmps82]) rfl ?_
    refine byP (fc hk (fc i0 (fc r0 (fc Tryz.ntmps82 Tryz.results82)))) ?_
    refine sw_callPR (h0) rfl rfl rfl (byQ True.intro) (byQ True.intro) (byQ True.intro) ?_
    refine sw_run 200 _ _ _ (byQ ?_)
    refine sw_call (hB) rfl (aAs_ok (byQ True.intro)) (byQ True.intro) ?_
    refine sw_run 200 _ _ _ (byP (fc Tryz.ntmps82 Tryz.results82) ?_)
    exact ⟨rfl, rfl, rfl⟩
end Go.Proofs.YtpoemjeelbmpkaaGreat
