/-
  Types of terms, the program's side.
-/
import Derived.Test.YtpoemjeelbmpkaaGreatTpB
import Derived.Test.YtpoemjeelbmpkaaGreatCode
namespace Go.Proofs.YtpoemjeelbmpkaaGreat
open Go.RowKit
set_option linter.unusedVariables false
set_option linter.unusedSimpArgs false
set_option maxRecDepth 20000
def CtxW (ctx : List Tg) (e : Tm) : Prop := ctx.length + szL (flC tgC ctx) + 200 * (szL (tmC e) + 1) ≤ 1000000000
theorem szK' {e : Tm} {k : Nat} (h : k < e.args.length) : szL (tmC e.args[k]!) + 1 ≤ szL (tmC e) := by
  have := szL_tms' e.args k h
  rw [szL_tm e]; omega
theorem tgC_sz (g : Tg) : szL (tgC g) = g.name.size + szL (tyC g.ty) := by
  rw [tyC_eq]; simp only [tgC, szL, szD, tysD]; try omega
theorem CtxW.part {ctx : List Tg} {e x : Tm} (h : CtxW ctx e) (hx : szL (tmC x) + 1 ≤ szL (tmC e)) : CtxW ctx x := by unfold CtxW at *; omega
theorem CtxW.bind {ctx gs : List Tg} {e x : Tm} (h : CtxW ctx e) (hx : szL (tmC x) + 1 ≤ szL (tmC e)) (hg : gs.length + szL (flC tgC gs) ≤ 200) : CtxW (ctx ++ gs) x := by
  unfold CtxW at *
  rw [flC_app, szL_append, List.length_append]; omega
theorem row9 (a b c d e f g h i : D) : rowAt 9 [a, b, c, d, e, f, g, h, i] 0 = [a, b, c, d, e, f, g, h, i] := rfl
theorem safe_sz (xs : List Tg) (n : Int) : ∀ k, k ≤ xs.length → (safeTg xs n k).length + szL (flC tgC (safeTg xs n k)) ≤ k + szL (flC tgC (xs.take k))
  | 0, _ => Nat.le_refl _
  | k + 1, h => by
    have ih := safe_sz xs n k (by omega)
    rw [safeTg, take_snoc xs k (by omega), flC_app, szL_append, flC_one]
    split
    · rw [flC_app, szL_append, flC_one, List.length_append]; simp only [List.length_cons, List.length_nil]; omega
    · omega
theorem CtxW.safe {ctx : List Tg} {e x : Tm} {n : Int} (h : CtxW ctx e) (hx : szL (tmC x) + 1 ≤ szL (tmC e)) : CtxW (safeTg ctx n ctx.length) x := by
  have := safe_sz ctx n ctx.length (Nat.le_refl _)
  rw [List.take_length] at this
  unfold CtxW at *
  omega
def FmT (e : Tm) (ctx : List Tg) (n : Int) : Ty := fmF e.kind e.name e.other e.ty e.res (e.args.map tyT) ctx n
theorem ctx_ty {ctx : List Tg} {i : Nat} (h : i < ctx.length) : szL (tyC (ctx[i]!).ty) ≤ szL (flC tgC ctx) := by
  have h1 := szL_mem tgC ctx ctx[i]! (mem_bang h)
  rw [tgC_sz] at h1; omega
theorem last_rng (xs : List Tg) (s : ByteArray) : ∀ k, k ≤ xs.length → -1 ≤ lastTg xs s k ∧ lastTg xs s k < k
  | 0, _ => by rw [lastTg]; omega
  | k + 1, h => by
    have := last_rng xs s k (by omega)
    rw [lastTg]; split <;> omega
def TyI (e : Tm) : Prop := ∀ ctx n, CtxW ctx e → rgL e n → allTm isFm e = true → ConP Tryz.prog 29 [.b (.one (.rows 4 ctx.length (flC tgC ctx))), .b (.ag (tmC e)), .b (.one (.int n))] [] [.ag [.r (.int (tyT e ctx n).kind), .r (.rows 2 (tyT e ctx n).args.length (tysC (tyT e ctx n).args))]]
theorem con_typed (e : Tm) (ctx : List Tg) (n : Int) (hz : szL (tyC (FmT e ctx n)) ≤ 1000000000) (hF : ConP Tryz.prog 49 [.b (.one (.rows 4 ctx.length (flC tgC ctx))), .b (.ag (tmC e)), .b (.one (.int n))] [] [.ag [.r (.int (FmT e ctx n).kind), .r (.rows 2 (FmT e ctx n).args.length (tysC (FmT e ctx n).args))]]) :
    ConP Tryz.prog 29 [.b (.one (.rows 4 ctx.length (flC tgC ctx))), .b (.ag (tmC e)), .b (.one (.int n))] [] [.ag [.r (.int (tyT e ctx n).kind), .r (.rows 2 (tyT e ctx n).args.length (tysC (tyT e ctx n).args))]] := by
  have hV := con_ValidTyI (FmT e ctx n) hz
  have hT : tyT e ctx n = vd (FmT e ctx n) := tyT_eq e ctx n
  rw [hT]
  unfold vd
  rw [tmC_eq] at hF
  cases hv : vTy (FmT e ctx n) with
  | true =>
    rw [hv] at hV
    simp only [if_true]
    generalize FmT e ctx n = F at *
    rw [tyC_eq] at hV
    refine con_runP Tryz.func29 rfl rfl (by simp [Tryz.ntmps29]) rfl ?_
    refine byP (fc Tryz.ntmps29 Tryz.results29) ?_
    refine sw_callPR (hF) rfl rfl rfl (byQ True.intro) (byQ True.intro) (byQ True.intro) ?_
    refine sw_run 200 _ _ _ (byP (fc Tryz.ntmps29 Tryz.results29) ?_)
    refine sw_call (hV) rfl (aAs_ok (byQ True.intro)) (byQ True.intro) ?_
    exact sw_run 200 _ _ _ (byP (fc Tryz.ntmps29 Tryz.results29) True.intro)
  | false =>
    rw [hv] at hV
    simp only [Bool.false_eq_true, if_false]
    generalize FmT e ctx n = F at *
    rw [tyC_eq] at hV
    refine con_runP Tryz.func29 rfl rfl (by simp [Tryz.ntmps29]) rfl ?_
    refine byP (fc Tryz.ntmps29 Tryz.results29) ?_
    refine sw_callPR (hF) rfl rfl rfl (byQ True.intro) (byQ True.intro) (byQ True.intro) ?_
    refine sw_run 200 _ _ _ (byP (fc Tryz.ntmps29 Tryz.results29) ?_)
    refine sw_call (hV) rfl (aAs_ok (byQ True.intro)) (byQ True.intro) ?_
    refine sw_run 200 _ _ _ (byP (fc Tryz.ntmps29 Tryz.results29) ?_)
    exact ⟨rfl, rfl, rfl⟩
theorem con_part (e : Tm) (ctx : List Tg) (n : Int) (i : Nat) (hi : i < e.args.length) (j : Int) (hj : j = (i : Int)) (t : Ty) (hr : ConP Tryz.prog 29 [.b (.one (.rows 4 ctx.length (flC tgC ctx))), .b (.ag (tmC e.args[i]!)), .b (.one (.int n))] [] [.ag [.r (.int t.kind), .r (.rows 2 t.args.length (tysC t.args))]]) :
    ConP Tryz.prog 73 [.b (.one (.int j)), .b (.rf [.one (.rows 4 ctx.length (flC tgC ctx))]), .b (.rf [.one (.int e.kind), .one (.str e.name), .one (.str e.other), .one (.int e.n), .one (.int e.ty.kind), .one (.rows 2 e.ty.args.length (tysC e.ty.args)), .one (.int e.res.kind), .one (.rows 2 e.res.args.length (tysC e.res.args)), .one (.rows 9 e.args.length (tmsC e.args))]), .b (.rf [.one (.int n)])] [] [.ag [.r (.int t.kind), .r (.rows 2 t.args.length (tysC t.args))]] := by
  subst hj
  have hi2 : (i : Int) < (e.args.length : Int) := by omega
  have hR := tmsC_row' e.args i hi
  rw [tmC_eq] at hr
  refine con_runP Tryz.func73 rfl rfl (by simp [Tryz.ntmps73]) rfl ?_
  refine byP (fc Tryz.ntmps73 Tryz.results73) ?_
  refine sw_rpE 2 rfl rfl ?_
  refine sw_drawn (.cons 0 true (.cons 1 true (.cons 2 true (.cons 3 true (.cons 4 true (.cons 5 true (.cons 6 true (.cons 7 false (.cons 8 false (.nil)))))))))) (by kernel_rfl) fQP_panic (by kernel_rfl) ?_
  refine sw_run 200 _ _ _ (byP (fc hi2 (fc hR row9)) ?_)
  refine sw_callDPB (cap := []) (hr) rfl rfl rfl (byQ True.intro) ?_
  exact sw_run 200 _ _ _ (byP (fc Tryz.ntmps73 Tryz.results73) True.intro)
def FmI (e : Tm) (ctx : List Tg) (n : Int) (T : Ty) : Prop := ConP Tryz.prog 49 [.b (.one (.rows 4 ctx.length (flC tgC ctx))), .b (.ag (tmC e)), .b (.one (.int n))] [] [.ag [.r (.int T.kind), .r (.rows 2 T.args.length (tysC T.args))]]
theorem con_tyiR : ConP Tryz.prog 76 [] [] [.ag [.r (.int 1), .r (.rows 2 0 [])]] := conR con_tyiI trivial
theorem con_tybR : ConP Tryz.prog 77 [] [] [.ag [.r (.int 2), .r (.rows 2 0 [])]] := conR con_tybI trivial
theorem con_fm2 (e : Tm) (ctx : List Tg) (n : Int) (hk : e.kind = 2) (hc : CtxW ctx e) : FmI e ctx n tI := by
  have hcl : ctx.length ≤ 1000000000 ∧ szL (flC tgC ctx) ≤ 1000000000 := by
    unfold CtxW at hc; omega
  unfold FmI
  refine con_runP Tryz.func49 rfl rfl (by simp [Tryz.ntmps49]) rfl ?_
  refine byP (fc hk (fc Tryz.ntmps49 Tryz.results49)) ?_
  refine sw_callPR (con_tyiR) rfl rfl rfl (byQ True.intro) (byQ True.intro) (byQ True.intro) ?_
  refine sw_run 200 _ _ _ (byP (fc Tryz.ntmps49 Tryz.results49) ?_)
  exact ⟨rfl, rfl⟩
theorem con_fm3 (e : Tm) (ctx : List Tg) (n : Int) (hk : e.kind = 3) (hc : CtxW ctx e) : FmI e ctx n tB := by
  have hcl : ctx.length ≤ 1000000000 ∧ szL (flC tgC ctx) ≤ 1000000000 := by
    unfold CtxW at hc; omega
  unfold FmI
  refine con_runP Tryz.func49 rfl rfl (by simp [Tryz.ntmps49]) rfl ?_
  refine byP (fc hk (fc Tryz.ntmps49 Tryz.results49)) ?_
  refine sw_callPR (con_tybR) rfl rfl rfl (byQ True.intro) (byQ True.intro) (byQ True.intro) ?_
  refine sw_run 200 _ _ _ (byP (fc Tryz.ntmps49 Tryz.results49) ?_)
  exact ⟨rfl, rfl⟩
theorem con_fm1 (e : Tm) (ctx : List Tg) (n : Int) (hk : e.kind = 1) (hc : CtxW ctx e) : FmI e ctx n (vrF e.name ctx n) := by
  have hcl : ctx.length ≤ 1000000000 ∧ szL (flC tgC ctx) ≤ 1000000000 := by
    unfold CtxW at hc; omega
  unfold FmI
  have hC := con_counting ctx e.name (by omega)
  simp only [tgsD] at hC
  have hrg := last_rng ctx e.name ctx.length (Nat.le_refl _)
  unfold vrF
  generalize lastTg ctx e.name ctx.length = i at *
  by_cases h0 : 0 ≤ i
  case neg =>
    rw [if_neg h0]
    refine con_runP Tryz.func49 rfl rfl (by simp [Tryz.ntmps49]) rfl ?_
    refine byP (fc hk (fc Tryz.ntmps49 Tryz.results49)) ?_
    refine sw_call (hC) rfl (aAs_ok (byQ True.intro)) (byQ True.intro) ?_
    refine sw_run 200 _ _ _ (byP (fc Tryz.ntmps49 Tryz.results49) ?_)
    refine sw_drawn (.cons 0 true (.cons 1 true (.cons 2 true (.cons 3 true (.cons 4 true (.cons 5 true (.cons 6 true (.cons 7 true (.cons 8 true (.cons 9 true (.cons 10 true (.nil)))))))))))) (by kernel_rfl) fQP_panic (by kernel_rfl) ?_
    refine sw_run 200 _ _ _ (byP (fc h0 (fc Tryz.ntmps49 Tryz.results49)) ?_)
    exact ⟨rfl, rfl, rfl⟩
  obtain ⟨j, rfl⟩ : ∃ j : Nat, i = (j : Int) := ⟨i.toNat, by omega⟩
  have hj : j < ctx.length := by omega
  have hj2 : (j : Int) < (ctx.length : Int) := by omega
  have hR : rowAt 4 (flC tgC ctx) j = [.str (ctx[j]!).name, .int (ctx[j]!).ty.kind, .rows 2 (ctx[j]!).ty.args.length (tysC (ctx[j]!).ty.args), .int (ctx[j]!).level] := flC_row tgC_len ctx j hj
  have hs := ctx_ty hj
  have hO := conR (con_own (ctx[j]!).ty (by omega)) trivial
  rw [tyC_eq] at hO
  simp only [List.map, toR, tysD] at hO
  rw [if_pos h0, Int.toNat_natCast]
  by_cases hl : (ctx[j]!).level = n
  · rw [if_pos hl]
    refine con_runP Tryz.func49 rfl rfl (by simp [Tryz.ntmps49]) rfl ?_
    refine byP (fc hk (fc Tryz.ntmps49 Tryz.results49)) ?_
    refine sw_call (hC) rfl (aAs_ok (byQ True.intro)) (byQ True.intro) ?_
    refine sw_run 200 _ _ _ (byP (fc Tryz.ntmps49 Tryz.results49) ?_)
    refine sw_drawn (.cons 0 true (.cons 1 true (.cons 2 true (.cons 3 true (.cons 4 true (.cons 5 true (.cons 6 true (.cons 7 true (.cons 8 true (.cons 9 true (.cons 10 true (.nil)))))))))))) (by kernel_rfl) fQP_panic (by kernel_rfl) ?_
    refine sw_run 200 _ _ _ (byP (fc hR (fc hj2 (fc hl (fc Tryz.ntmps49 Tryz.results49)))) ?_)
    refine sw_callPR (hO) rfl rfl rfl (byQ True.intro) (byQ True.intro) (byQ True.intro) ?_
    exact sw_run 200 _ _ _ (byP (fc Tryz.ntmps49 Tryz.results49) True.intro)
  · rw [if_neg hl]
    refine con_runP Tryz.func49 rfl rfl (by simp [Tryz.ntmps49]) rfl ?_
    refine byP (fc hk (fc Tryz.ntmps49 Tryz.results49)) ?_
    refine sw_call (hC) rfl (aAs_ok (byQ True.intro)) (byQ True.intro) ?_
    refine sw_run 200 _ _ _ (byP (fc Tryz.ntmps49 Tryz.results49) ?_)
    refine sw_drawn (.cons 0 true (.cons 1 true (.cons 2 true (.cons 3 true (.cons 4 true (.cons 5 true (.cons 6 true (.cons 7 true (.cons 8 true (.cons 9 true (.cons 10 true (.nil)))))))))))) (by kernel_rfl) fQP_panic (by kernel_rfl) ?_
    refine sw_run 200 _ _ _ (byP (fc hR (fc hj2 (fc hl (fc Tryz.ntmps49 Tryz.results49)))) ?_)
    exact ⟨rfl, rfl, rfl⟩
theorem con_fm5 (e : Tm) (ctx : List Tg) (n : Int) (hk : e.kind = 5) (hl : e.args.length = 3) (A : Ty) (zA : Zv A) (h0 : ConP Tryz.prog 29 [.b (.one (.rows 4 ctx.length (flC tgC ctx))), .b (.ag (tmC e.args[0]!)), .b (.one (.int n))] [] [.ag [.r (.int A.kind), .r (.rows 2 A.args.length (tysC A.args))]]) (B : Ty) (zB : Zv B) (h1 : ConP Tryz.prog 29 [.b (.one (.rows 4 ctx.length (flC tgC ctx))), .b (.ag (tmC e.args[1]!)), .b (.one (.int n))] [] [.ag [.r (.int B.kind), .r (.rows 2 B.args.length (tysC B.args))]]) (C : Ty) (zC : Zv C) (h2 : ConP Tryz.prog 29 [.b (.one (.rows 4 ctx.length (flC tgC ctx))), .b (.ag (tmC e.args[2]!)), .b (.one (.int n))] [] [.ag [.r (.int C.kind), .r (.rows 2 C.args.length (tysC C.args))]]) (hc : CtxW ctx e) : FmI e ctx n (if eqTy A tB = true then (if eqTy B C = true then B else z0) else z0) := by
  have hcl : ctx.length ≤ 1000000000 ∧ szL (flC tgC ctx) ≤ 1000000000 := by
    unfold CtxW at hc; omega
  unfold FmI
  have p0 := con_part e ctx n 0 (by omega) 0 rfl A h0
  rw [hk] at p0
  have p1 := con_part e ctx n 1 (by omega) 1 rfl B h1
  rw [hk] at p1
  have p2 := con_part e ctx n 2 (by omega) 2 rfl C h2
  rw [hk] at p2
  have e1 := con_EqTyI A tB (by have := zv_sz zA; omega)
  have e2 := con_EqTyI B C (by have := zv_sz zB; omega)
  rw [tyC_eq] at e1 e2
  rw [tyC_eq] at e2
  simp only [tyC, tB, tysC, List.length_nil, tysD] at e1 e2
  rw [show eqTy A tB = eqTy A (.mk 2 []) from rfl]
  cases b1 : eqTy A (.mk 2 []) with
  | false =>
    rw [b1] at e1
    simp only [Bool.false_eq_true, if_false]
    refine con_runP Tryz.func49 rfl rfl (by simp [Tryz.ntmps49]) rfl ?_
    refine byP (fc hk (fc Tryz.ntmps49 Tryz.results49)) ?_
    refine sw_fzCE 0 rfl rfl ?_
    refine sw_fzCE 1 rfl rfl ?_
    refine sw_fzCE 2 rfl rfl ?_
    refine byQ ?_
    refine sw_callPR (p1) rfl rfl rfl (byQ True.intro) (byQ True.intro) (byQ True.intro) ?_
    refine sw_run 200 _ _ _ (byQ ?_)
    refine sw_callPR (p2) rfl rfl rfl (byQ True.intro) (byQ True.intro) (byQ True.intro) ?_
    refine sw_run 200 _ _ _ (byQ ?_)
    refine sw_callPR (p0) rfl rfl rfl (byQ True.intro) (byQ True.intro) (byQ True.intro) ?_
    refine sw_run 200 _ _ _ (byQ ?_)
    refine sw_callPR (con_tybR) rfl rfl rfl (byQ True.intro) (byQ True.intro) (byQ True.intro) ?_
    refine sw_run 200 _ _ _ (byQ ?_)
    refine sw_call (e1) rfl (aAs_ok (byQ True.intro)) (byQ True.intro) ?_
    refine sw_run 200 _ _ _ (byP (fc Tryz.ntmps49 Tryz.results49) ?_)
    exact ⟨rfl, rfl, rfl⟩
  | true =>
    rw [b1] at e1
    simp only [if_true]
    cases b2 : eqTy B C with
    | false =>
      rw [b2] at e2
      simp only [Bool.false_eq_true, if_false]
      refine con_runP Tryz.func49 rfl rfl (by simp [Tryz.ntmps49]) rfl ?_
      refine byP (fc hk (fc Tryz.ntmps49 Tryz.results49)) ?_
      refine sw_fzCE 0 rfl rfl ?_
      refine sw_fzCE 1 rfl rfl ?_
      refine sw_fzCE 2 rfl rfl ?_
      refine byQ ?_
      refine sw_callPR (p1) rfl rfl rfl (byQ True.intro) (byQ True.intro) (byQ True.intro) ?_
      refine sw_run 200 _ _ _ (byQ ?_)
      refine sw_callPR (p2) rfl rfl rfl (byQ True.intro) (byQ True.intro) (byQ True.intro) ?_
      refine sw_run 200 _ _ _ (byQ ?_)
      refine sw_callPR (p0) rfl rfl rfl (byQ True.intro) (byQ True.intro) (byQ True.intro) ?_
      refine sw_run 200 _ _ _ (byQ ?_)
      refine sw_callPR (con_tybR) rfl rfl rfl (byQ True.intro) (byQ True.intro) (byQ True.intro) ?_
      refine sw_run 200 _ _ _ (byQ ?_)
      refine sw_call (e1) rfl (aAs_ok (byQ True.intro)) (byQ True.intro) ?_
      refine sw_run 200 _ _ _ (byQ ?_)
      refine sw_call (e2) rfl (aAs_ok (byQ True.intro)) (byQ True.intro) ?_
      refine sw_run 200 _ _ _ (byP (fc Tryz.ntmps49 Tryz.results49) ?_)
      exact ⟨rfl, rfl, rfl⟩
    | true =>
      rw [b2] at e2
      simp only [if_true]
      refine con_runP Tryz.func49 rfl rfl (by simp [Tryz.ntmps49]) rfl ?_
      refine byP (fc hk (fc Tryz.ntmps49 Tryz.results49)) ?_
      refine sw_fzCE 0 rfl rfl ?_
      refine sw_fzCE 1 rfl rfl ?_
      refine sw_fzCE 2 rfl rfl ?_
      refine byQ ?_
      refine sw_callPR (p1) rfl rfl rfl (byQ True.intro) (byQ True.intro) (byQ True.intro) ?_
      refine sw_run 200 _ _ _ (byQ ?_)
      refine sw_callPR (p2) rfl rfl rfl (byQ True.intro) (byQ True.intro) (byQ True.intro) ?_
      refine sw_run 200 _ _ _ (byQ ?_)
      refine sw_callPR (p0) rfl rfl rfl (byQ True.intro) (byQ True.intro) (byQ True.intro) ?_
      refine sw_run 200 _ _ _ (byQ ?_)
      refine sw_callPR (con_tybR) rfl rfl rfl (byQ True.intro) (byQ True.intro) (byQ True.intro) ?_
      refine sw_run 200 _ _ _ (byQ ?_)
      refine sw_call (e1) rfl (aAs_ok (byQ True.intro)) (byQ True.intro) ?_
      refine sw_run 200 _ _ _ (byQ ?_)
      refine sw_call (e2) rfl (aAs_ok (byQ True.intro)) (byQ True.intro) ?_
      exact sw_run 200 _ _ _ (byP (fc Tryz.ntmps49 Tryz.results49) True.intro)
theorem con_fm7 (e : Tm) (ctx : List Tg) (n : Int) (hk : e.kind = 7) (hl : e.args.length = 2) (A : Ty) (zA : Zv A) (h0 : ConP Tryz.prog 29 [.b (.one (.rows 4 ctx.length (flC tgC ctx))), .b (.ag (tmC e.args[0]!)), .b (.one (.int n))] [] [.ag [.r (.int A.kind), .r (.rows 2 A.args.length (tysC A.args))]]) (B : Ty) (zB : Zv B) (h1 : ConP Tryz.prog 29 [.b (.one (.rows 4 ctx.length (flC tgC ctx))), .b (.ag (tmC e.args[1]!)), .b (.one (.int n))] [] [.ag [.r (.int B.kind), .r (.rows 2 B.args.length (tysC B.args))]]) (hc : CtxW ctx e) : FmI e ctx n (if A.kind = 3 then (if eqTy A.args[0]! B = true then A.args[1]! else z0) else z0) := by
  have hcl : ctx.length ≤ 1000000000 ∧ szL (flC tgC ctx) ≤ 1000000000 := by
    unfold CtxW at hc; omega
  unfold FmI
  have p0 := con_part e ctx n 0 (by omega) 0 rfl A h0
  rw [hk] at p0
  have p1 := con_part e ctx n 1 (by omega) 1 rfl B h1
  rw [hk] at p1
  by_cases h3 : A.kind = 3
  case neg =>
    rw [if_neg h3]
    refine con_runP Tryz.func49 rfl rfl (by simp [Tryz.ntmps49]) rfl ?_
    refine byP (fc hk (fc Tryz.ntmps49 Tryz.results49)) ?_
    refine sw_fzCE 0 rfl rfl ?_
    refine sw_fzCE 1 rfl rfl ?_
    refine sw_fzCE 2 rfl rfl ?_
    refine byQ ?_
    refine sw_callPR (p0) rfl rfl rfl (byQ True.intro) (byQ True.intro) (byQ True.intro) ?_
    refine sw_run 200 _ _ _ (byQ ?_)
    refine sw_callPR (p1) rfl rfl rfl (byQ True.intro) (byQ True.intro) (byQ True.intro) ?_
    refine sw_run 200 _ _ _ (byP h3 ?_)
    refine sw_drawn (.cons 0 true (.cons 1 true (.cons 2 true (.cons 3 true (.cons 4 true (.cons 5 true (.cons 6 true (.cons 7 true (.cons 8 true (.cons 9 false (.cons 10 true (.nil)))))))))))) (by kernel_rfl) fQP_panic (by kernel_rfl) ?_
    refine sw_run 200 _ _ _ (byP (fc h3 (fc Tryz.ntmps49 Tryz.results49)) ?_)
    exact ⟨rfl, rfl, rfl⟩
  rw [if_pos h3]
  have hv := zv_ne zA (by omega)
  obtain ⟨u, v, hu⟩ : ∃ u v, A.args = [u, v] := by
    rcases f_kind (v_form hv) with ⟨q, _⟩ | ⟨q, _⟩ | ⟨_, u, v, hu, _⟩ | ⟨q, _⟩
    · omega
    · omega
    · exact ⟨u, v, hu⟩
    · omega
  have hsz := v_sz hv
  rw [tyC_eq, hu] at hsz
  simp only [szL, szD, tysD, tysC, szL_append, List.length_cons] at hsz
  have r0 : rowAt 2 (tysC [u, v]) 0 = tyC u := by rw [tysC_row' [u, v] 0 (by simp)]; rfl
  have r1 : rowAt 2 (tysC [u, v]) 1 = tyC v := by rw [tysC_row' [u, v] 1 (by simp)]; rfl
  have e1 := con_EqTyI u B (by omega)
  have hO := conR (con_own v (by omega)) trivial
  rw [tyC_eq] at e1 hO
  rw [tyC_eq] at e1
  simp only [List.map, toR, tysD] at hO
  simp only [tysD] at e1
  rw [show (if eqTy A.args[0]! B = true then A.args[1]! else z0) = (if eqTy u B = true then v else z0) from by rw [hu]; rfl]
  rw [hu] at p0
  have i0 : ((0 : Int) < (([u, v] : List Ty).length : Int)) := by simp
  have i1 : ((1 : Int) < (([u, v] : List Ty).length : Int)) := by simp
  by_cases b1 : eqTy u B = true
  case neg =>
    rw [show eqTy u B = false by simpa using b1] at e1
    rw [if_neg b1]
    refine con_runP Tryz.func49 rfl rfl (by simp [Tryz.ntmps49]) rfl ?_
    refine byP (fc hk (fc Tryz.ntmps49 Tryz.results49)) ?_
    refine sw_fzCE 0 rfl rfl ?_
    refine sw_fzCE 1 rfl rfl ?_
    refine sw_fzCE 2 rfl rfl ?_
    refine byQ ?_
    refine sw_callPR (p0) rfl rfl rfl (byQ True.intro) (byQ True.intro) (byQ True.intro) ?_
    refine sw_run 200 _ _ _ (byQ ?_)
    refine sw_callPR (p1) rfl rfl rfl (byQ True.intro) (byQ True.intro) (byQ True.intro) ?_
    refine sw_run 200 _ _ _ (byP h3 ?_)
    refine sw_drawn (.cons 0 true (.cons 1 true (.cons 2 true (.cons 3 true (.cons 4 true (.cons 5 true (.cons 6 true (.cons 7 true (.cons 8 true (.cons 9 false (.cons 10 true (.nil)))))))))))) (by kernel_rfl) fQP_panic (by kernel_rfl) ?_
    refine sw_run 200 _ _ _ (byP (fc h3 (fc i0 (fc i1 (fc r0 r1)))) ?_)
    refine sw_callD (e1) rfl (aAs_ok (byQ True.intro)) (byQ True.intro) ?_
    refine sw_run 200 _ _ _ (byP (fc Tryz.ntmps49 Tryz.results49) ?_)
    exact ⟨rfl, rfl, rfl⟩
  case pos =>
    rw [b1] at e1
    rw [if_pos b1]
    refine con_runP Tryz.func49 rfl rfl (by simp [Tryz.ntmps49]) rfl ?_
    refine byP (fc hk (fc Tryz.ntmps49 Tryz.results49)) ?_
    refine sw_fzCE 0 rfl rfl ?_
    refine sw_fzCE 1 rfl rfl ?_
    refine sw_fzCE 2 rfl rfl ?_
    refine byQ ?_
    refine sw_callPR (p0) rfl rfl rfl (byQ True.intro) (byQ True.intro) (byQ True.intro) ?_
    refine sw_run 200 _ _ _ (byQ ?_)
    refine sw_callPR (p1) rfl rfl rfl (byQ True.intro) (byQ True.intro) (byQ True.intro) ?_
    refine sw_run 200 _ _ _ (byP h3 ?_)
    refine sw_drawn (.cons 0 true (.cons 1 true (.cons 2 true (.cons 3 true (.cons 4 true (.cons 5 true (.cons 6 true (.cons 7 true (.cons 8 true (.cons 9 false (.cons 10 true (.nil)))))))))))) (by kernel_rfl) fQP_panic (by kernel_rfl) ?_
    refine sw_run 200 _ _ _ (byP (fc h3 (fc i0 (fc i1 (fc r0 r1)))) ?_)
    refine sw_callD (e1) rfl (aAs_ok (byQ True.intro)) (byQ True.intro) ?_
    refine sw_run 200 _ _ _ (byP (fc h3 (fc i0 (fc i1 (fc r0 r1)))) ?_)
    refine sw_callPR (hO) rfl rfl rfl (byQ True.intro) (byQ True.intro) (byQ True.intro) ?_
    exact sw_run 200 _ _ _ (byP (fc Tryz.ntmps49 Tryz.results49) True.intro)
theorem con_fm4 (e : Tm) (ctx : List Tg) (n : Int) (hk : e.kind = 4) (hz : szL (tmC e) ≤ 100000000) (h0 : ∀ i, i < e.args.length → ConP Tryz.prog 29 [.b (.one (.rows 4 ctx.length (flC tgC ctx))), .b (.ag (tmC e.args[i]!)), .b (.one (.int n))] [] [.ag [.r (.int (tyT e.args[i]! ctx n).kind), .r (.rows 2 (tyT e.args[i]! ctx n).args.length (tysC (tyT e.args[i]! ctx n).args))]]) : FmI e ctx n (opI e.name (e.args.map fun a => tyT a ctx n)) := by
  unfold FmI
  have hze := szL_tm e
  have hO := conR (con_opType e.name (e.args.map fun a => tyT a ctx n) (by rw [List.length_map]; omega) (by
    intro t ht
    obtain ⟨x, _, rfl⟩ := List.mem_map.1 ht
    have := zv_sz (zv_tyT x ctx n)
    omega)) trivial
  generalize hT : opI e.name (e.args.map fun a => tyT a ctx n) = T at *
  rw [tyC_eq, List.length_map] at hO
  simp only [List.map_cons, List.map_nil, toR, tysD] at hO
  refine con_runP Tryz.func49 rfl rfl (by simp [Tryz.ntmps49]) rfl ?_
  refine byP (fc hk (fc Tryz.ntmps49 Tryz.results49)) ?_
  refine sw_fzC 0 rfl rfl ?_
  refine sw_fzC 1 rfl rfl ?_
  refine sw_fzC 2 rfl rfl ?_
  refine byQ ?_
  refine sw_loop (fun k : Nat => k ≤ e.args.length) (fun k => ⟨196, [(58, .i k), (57, .i e.args.length), (9, .sl 4), (7, .fn 73 [.rp [.br (.rows 4 ctx.length (flC tgC ctx))], .rp [.i 4, .s e.name, .s e.other, .i e.n, .i e.ty.kind, .br (.rows 2 e.ty.args.length (tysC e.ty.args)), .i e.res.kind, .br (.rows 2 e.res.args.length (tysC e.res.args)), .br (.rows 9 e.args.length (tmsC e.args))], .rp [.i n]]), (6, .bx 3 0), (4, .eb (.rows 9 1 [.int 4, .str e.name, .str e.other, .int e.n, .int e.ty.kind, .rows 2 e.ty.args.length (tysC e.ty.args), .int e.res.kind, .rows 2 e.res.args.length (tysC e.res.args), .rows 9 e.args.length (tmsC e.args)]) 0 0)], [(3, [.i 0, .nl 2])], [(4, some ⟨.rows 2 k (tysC ((e.args.take k).map fun a => tyT a ctx n)), some 32, decide (k = 0)⟩)], 5, []⟩) (fun k => e.args.length - k) 0 id (Nat.zero_le _) ?_ ?_
  · exact byP (show tysC [] = [] from rfl) True.intro
  · rintro k hk0
    by_cases hlt : k < e.args.length
    · have hi : (k : Int) < (e.args.length : Int) := by omega
      have p0 := con_part e ctx n k hlt k rfl (tyT e.args[k]! ctx n) (h0 k hlt)
      have hst : tysC ((e.args.take (k + 1)).map fun a => tyT a ctx n) = tysC ((e.args.take k).map fun a => tyT a ctx n) ++ tyC (tyT e.args[k]! ctx n) := by rw [tysC_flat, tysC_flat, take_snoc e.args k hlt, List.map_append, flC_app, List.map_cons, List.map_nil, flC_one]
      rw [tyC_eq] at hst
      rw [hk] at p0
      refine sw_run 200 _ _ _ (byP hi ?_)
      refine sw_callPR (p0) rfl rfl rfl (byQ True.intro) (byQ True.intro) (byQ True.intro) ?_
      refine sw_run 200 _ _ _ (byQ ?_)
      exact ⟨⟨fun o ho => by omega, by unfold maxLen; omega, by omega⟩, by unfold inI; omega, k + 1, rnL [(4, 6)], by omega, by omega, byP hst True.intro⟩
    · have hi : ¬ (k : Int) < (e.args.length : Int) := by omega
      obtain rfl : k = e.args.length := by omega
      rw [List.take_length]
      refine sw_run 200 _ _ _ (byP hi ?_)
      refine sw_run 200 _ _ _ ?_
      refine byP row9 ?_
      refine sw_fzE 4 rfl ?_
      refine byQ ?_
      refine sw_callPR (hO) rfl rfl rfl (byQ True.intro) (byQ True.intro) (byQ True.intro) ?_
      exact sw_run 200 _ _ _ (byP (fc Tryz.ntmps49 Tryz.results49) True.intro)
theorem con_fm6 (e : Tm) (ctx : List Tg) (n : Int) (hk : e.kind = 6) (hl : e.args.length = 1) (hc : CtxW ctx e) (hy : szL (tyC e.ty) ≤ 1000000) (B : Ty) (zB : Zv B) (h0 : ConP Tryz.prog 29 [.b (.one (.rows 4 (ctx ++ [(⟨e.name, e.ty, n⟩ : Tg)]).length (flC tgC (ctx ++ [(⟨e.name, e.ty, n⟩ : Tg)])))), .b (.ag (tmC e.args[0]!)), .b (.one (.int n))] [] [.ag [.r (.int B.kind), .r (.rows 2 B.args.length (tysC B.args))]]) : FmI e ctx n (if B.kind = 0 then z0 else .mk 3 [e.ty, B]) := by
  have hcl : ctx.length ≤ 1000000000 ∧ szL (flC tgC ctx) ≤ 1000000000 := by
    unfold CtxW at hc; omega
  unfold FmI
  have i0 : (0 : Int) < (e.args.length : Int) := by omega
  have r0 := tmsC_row' e.args 0 (by omega)
  have hW := con_with ctx [(⟨e.name, e.ty, n⟩ : Tg)] (by omega) (by simp)
  have hO := conR (con_tyFun e.ty B (by omega) (by have := zv_sz zB; omega)) trivial
  generalize ctx ++ [(⟨e.name, e.ty, n⟩ : Tg)] = ctx' at *
  simp only [flC, tgC, tysD, List.length_cons, List.length_nil, List.append_nil, List.cons_append, List.nil_append, Nat.zero_add] at hW
  rw [tyC_eq, tyC_eq] at hO
  simp only [List.map_cons, List.map_nil, toR, tysD, tyC, List.length_cons, List.length_nil, Nat.zero_add, Nat.reduceAdd] at hO
  rw [tmC_eq] at h0
  by_cases hb : B.kind = 0
  · rw [if_pos hb]
    refine con_runP Tryz.func49 rfl rfl (by simp [Tryz.ntmps49]) rfl ?_
    refine byP (fc hk (fc Tryz.ntmps49 Tryz.results49)) ?_
    refine sw_drawn (.cons 0 true (.cons 1 true (.cons 2 true (.cons 3 true (.cons 4 true (.cons 5 true (.cons 6 true (.cons 9 true (.cons 10 true (.cons 11 true (.cons 12 true (.cons 13 true (.fork (.alt 7 (.fork (.alt 8 (.fork (.alt 14 (.cons 15 false (.cons 16 false (.nil))) (.alt 15 (.cons 14 false (.cons 16 false (.nil))) (.last)))) (.alt 15 (.cons 8 false (.cons 14 false (.cons 16 false (.nil)))) (.last)))) (.alt 15 (.cons 7 false (.cons 8 false (.cons 14 false (.cons 16 false (.nil))))) (.last)))))))))))))))) (by kernel_rfl) fQP_panic (by kernel_rfl) ?_
    refine sw_run 200 _ _ _ (byP (fc i0 r0) ?_)
    repeat' (with_reducible apply And.intro)
    all_goals
      first | refine sw_fzG (I := ⟨_, _, false⟩) 4 rfl ?_ | refine sw_fzG (I := ⟨_, _, false⟩) 5 rfl ?_
      refine byQ ?_
      refine sw_callDPB (cap := []) (hW) rfl rfl rfl (byQ True.intro) ?_
      refine sw_run 200 _ _ _ (byP (fc i0 r0) ?_)
    repeat' (with_reducible apply And.intro)
    all_goals
      refine sw_callDPB (cap := []) (h0) rfl rfl rfl (byQ True.intro) ?_
    all_goals
      refine sw_run 200 _ _ _ (byP (fc hb (fc Tryz.ntmps49 Tryz.results49)) ?_)
    repeat' (with_reducible apply And.intro)
    all_goals rfl
  · rw [if_neg hb]
    refine con_runP Tryz.func49 rfl rfl (by simp [Tryz.ntmps49]) rfl ?_
    refine byP (fc hk (fc Tryz.ntmps49 Tryz.results49)) ?_
    refine sw_drawn (.cons 0 true (.cons 1 true (.cons 2 true (.cons 3 true (.cons 4 true (.cons 5 true (.cons 6 true (.cons 9 true (.cons 10 true (.cons 11 true (.cons 12 true (.cons 13 true (.fork (.alt 7 (.fork (.alt 8 (.fork (.alt 14 (.cons 15 false (.cons 16 false (.nil))) (.alt 15 (.cons 14 false (.cons 16 false (.nil))) (.last)))) (.alt 15 (.cons 8 false (.cons 14 false (.cons 16 false (.nil)))) (.last)))) (.alt 15 (.cons 7 false (.cons 8 false (.cons 14 false (.cons 16 false (.nil))))) (.last)))))))))))))))) (by kernel_rfl) fQP_panic (by kernel_rfl) ?_
    refine sw_run 200 _ _ _ (byP (fc i0 r0) ?_)
    repeat' (with_reducible apply And.intro)
    all_goals
      first | refine sw_fzG (I := ⟨_, _, false⟩) 4 rfl ?_ | refine sw_fzG (I := ⟨_, _, false⟩) 5 rfl ?_
      refine byQ ?_
      refine sw_callDPB (cap := []) (hW) rfl rfl rfl (byQ True.intro) ?_
      refine sw_run 200 _ _ _ (byP (fc i0 r0) ?_)
    repeat' (with_reducible apply And.intro)
    all_goals
      refine sw_callDPB (cap := []) (h0) rfl rfl rfl (byQ True.intro) ?_
    all_goals
      refine sw_run 200 _ _ _ (byP (fc hb (fc Tryz.ntmps49 Tryz.results49)) ?_)
    repeat' (with_reducible apply And.intro)
    all_goals
      refine sw_callPR (hO) rfl rfl rfl (byQ True.intro) (byQ True.intro) (byQ True.intro) ?_
      refine sw_run 200 _ _ _ (byP (fc Tryz.ntmps49 Tryz.results49) ?_)
    repeat' (with_reducible apply And.intro)
    all_goals rfl
end Go.Proofs.YtpoemjeelbmpkaaGreat
