/-
  Types of terms, the reference's side: one node.
-/
import Derived.Test.YtpoemjeelbmpkaaGreatTqD
namespace Go.Proofs.YtpoemjeelbmpkaaGreat
open Go.RowKit
set_option linter.unusedVariables false
set_option linter.unusedSimpArgs false
set_option maxRecDepth 20000
def SoS (e : Tm) (ctx : List Tg) (n : Int) (r : Ty × Bool) : Prop := ConP Tryz.prog 38 [.b (.one (.rows 4 ctx.length (flC tgC ctx))), .b (.ag (tmC e)), .b (.one (.int n))] [] [.ag [.r (.int r.1.kind), .r (.rows 2 r.1.args.length (tysC r.1.args))], .one (.r (.bool r.2))]
theorem con_so2 (e : Tm) (ctx : List Tg) (n : Int) (hk : e.kind = 2) (hc : CtxW ctx e) : SoS e ctx n (tI, true) := by
  have hcl : ctx.length ≤ 1000000000 ∧ szL (flC tgC ctx) ≤ 1000000000 := by
    unfold CtxW at hc; omega
  unfold SoS
  refine con_runP Tryz.func38 rfl rfl (by simp [Tryz.ntmps38]) rfl ?_
  refine byP (fc hk (fc Tryz.ntmps38 Tryz.results38)) ?_
  refine sw_callPR (con_tyiSR) rfl rfl rfl (byQ True.intro) (byQ True.intro) (byQ True.intro) ?_
  refine sw_run 200 _ _ _ (byP (fc Tryz.ntmps38 Tryz.results38) ?_)
  exact ⟨rfl, rfl⟩
theorem con_so3 (e : Tm) (ctx : List Tg) (n : Int) (hk : e.kind = 3) (hc : CtxW ctx e) : SoS e ctx n (tB, true) := by
  have hcl : ctx.length ≤ 1000000000 ∧ szL (flC tgC ctx) ≤ 1000000000 := by
    unfold CtxW at hc; omega
  unfold SoS
  refine con_runP Tryz.func38 rfl rfl (by simp [Tryz.ntmps38]) rfl ?_
  refine byP (fc hk (fc Tryz.ntmps38 Tryz.results38)) ?_
  refine sw_callPR (con_tybSR) rfl rfl rfl (byQ True.intro) (byQ True.intro) (byQ True.intro) ?_
  refine sw_run 200 _ _ _ (byP (fc Tryz.ntmps38 Tryz.results38) ?_)
  exact ⟨rfl, rfl⟩
theorem con_so1 (e : Tm) (ctx : List Tg) (n : Int) (hk : e.kind = 1) (hc : CtxW ctx e) : SoS e ctx n (if lastTg ctx e.name ctx.length < 0 then no2 else if (ctx[(lastTg ctx e.name ctx.length).toNat]!).level = n then ((ctx[(lastTg ctx e.name ctx.length).toNat]!).ty, true) else no2) := by
  have hcl : ctx.length ≤ 1000000000 ∧ szL (flC tgC ctx) ≤ 1000000000 := by
    unfold CtxW at hc; omega
  have hC := con_last ctx e.name (by omega)
  simp only [tgsD] at hC
  have hrg := last_rng ctx e.name ctx.length (Nat.le_refl _)
  generalize lastTg ctx e.name ctx.length = i at *
  by_cases h0 : i < 0
  case pos =>
    rw [if_pos h0]
    unfold SoS
    refine con_runP Tryz.func38 rfl rfl (by simp [Tryz.ntmps38]) rfl ?_
    refine byP (fc hk (fc Tryz.ntmps38 Tryz.results38)) ?_
    refine sw_call (hC) rfl (aAs_ok (byQ True.intro)) (byQ True.intro) ?_
    refine sw_run 200 _ _ _ (byP (fc h0 (fc Tryz.ntmps38 Tryz.results38)) ?_)
    exact ⟨⟨rfl, rfl, rfl⟩, rfl⟩
  obtain ⟨j, rfl⟩ : ∃ j : Nat, i = (j : Int) := ⟨i.toNat, by omega⟩
  have hj : j < ctx.length := by omega
  have hj2 : (j : Int) < (ctx.length : Int) := by omega
  have hR : rowAt 4 (flC tgC ctx) j = [.str (ctx[j]!).name, .int (ctx[j]!).ty.kind, .rows 2 (ctx[j]!).ty.args.length (tysC (ctx[j]!).ty.args), .int (ctx[j]!).level] := flC_row tgC_len ctx j hj
  have hs := ctx_ty hj
  have hO := conR (con_l3Copy (ctx[j]!).ty (by omega)) trivial
  rw [tyC_eq] at hO
  simp only [List.map, toR, tysD] at hO
  rw [if_neg h0, Int.toNat_natCast]
  by_cases hl : (ctx[j]!).level = n
  · rw [if_pos hl]
    unfold SoS
    refine con_runP Tryz.func38 rfl rfl (by simp [Tryz.ntmps38]) rfl ?_
    refine byP (fc hk (fc Tryz.ntmps38 Tryz.results38)) ?_
    refine sw_call (hC) rfl (aAs_ok (byQ True.intro)) (byQ True.intro) ?_
    refine sw_run 200 _ _ _ (byP (fc h0 (fc hR (fc hj2 hl))) ?_)
    refine sw_callPR (hO) rfl rfl rfl (byQ True.intro) (byQ True.intro) (byQ True.intro) ?_
    exact sw_run 200 _ _ _ (byP (fc Tryz.ntmps38 Tryz.results38) True.intro)
  · rw [if_neg hl]
    unfold SoS
    refine con_runP Tryz.func38 rfl rfl (by simp [Tryz.ntmps38]) rfl ?_
    refine byP (fc hk (fc Tryz.ntmps38 Tryz.results38)) ?_
    refine sw_call (hC) rfl (aAs_ok (byQ True.intro)) (byQ True.intro) ?_
    refine sw_run 200 _ _ _ (byP (fc h0 (fc hR (fc hj2 (fc hl (fc Tryz.ntmps38 Tryz.results38))))) ?_)
    exact ⟨⟨rfl, rfl, rfl⟩, rfl⟩
theorem con_soB (e : Tm) (ctx : List Tg) (n : Int) (hk : e.kind = 6 ∨ e.kind = 8 ∨ e.kind = 9) (hc : CtxW ctx e) (T : Ty) (b : Bool) (h : BiS e ctx n T b) : SoS e ctx n (T, b) := by
  have hcl : ctx.length ≤ 1000000000 ∧ szL (flC tgC ctx) ≤ 1000000000 := by
    unfold CtxW at hc; omega
  unfold SoS
  unfold BiS at h
  rw [tmC_eq] at h
  rcases hk with hk | hk | hk
  all_goals
    rw [hk] at h
    refine con_runP Tryz.func38 rfl rfl (by simp [Tryz.ntmps38]) rfl ?_
    refine byP (fc hk (fc Tryz.ntmps38 Tryz.results38)) ?_
    refine sw_callPR (h) rfl rfl rfl (byQ True.intro) (byQ True.intro) (byQ True.intro) ?_
    exact sw_run 200 _ _ _ (byP (fc Tryz.ntmps38 Tryz.results38) True.intro)
theorem con_soT (e : Tm) (ctx : List Tg) (n : Int) (hk : e.kind = 10 ∨ e.kind = 11 ∨ e.kind = 12 ∨ e.kind = 13) (hc : CtxW ctx e) (r : Ty × Bool) (h : SgS e ctx n r) : SoS e ctx n r := by
  have hcl : ctx.length ≤ 1000000000 ∧ szL (flC tgC ctx) ≤ 1000000000 := by
    unfold CtxW at hc; omega
  obtain ⟨T, b⟩ := r
  unfold SoS
  unfold SgS at h
  rw [tmC_eq] at h
  simp only at h ⊢
  rcases hk with hk | hk | hk | hk
  all_goals
    rw [hk] at h
    refine con_runP Tryz.func38 rfl rfl (by simp [Tryz.ntmps38]) rfl ?_
    refine byP (fc hk (fc Tryz.ntmps38 Tryz.results38)) ?_
    refine sw_callPR (h) rfl rfl rfl (byQ True.intro) (byQ True.intro) (byQ True.intro) ?_
    exact sw_run 200 _ _ _ (byP (fc Tryz.ntmps38 Tryz.results38) True.intro)
theorem con_soF (e : Tm) (ctx : List Tg) (n : Int) (hk : e.kind = 4 ∨ e.kind = 5 ∨ e.kind = 7) (hc : CtxW ctx e) (hP : ∀ i, i < e.args.length → ConP Tryz.prog 22 [.b (.one (.rows 4 ctx.length (flC tgC ctx))), .b (.ag (tmC e.args[i]!)), .b (.one (.int n))] [] [.ag [.r (.int (tyT e.args[i]! ctx n).kind), .r (.rows 2 (tyT e.args[i]! ctx n).args.length (tysC (tyT e.args[i]! ctx n).args))], .one (.r (.bool (decide ((tyT e.args[i]! ctx n).kind ≠ 0))))]) (r : Ty × Bool) (hF : (∀ a ∈ e.args, (tyT a ctx n).kind ≠ 0) → FoS e (e.args.map fun a => tyT a ctx n) r) : SoS e ctx n (if (e.args.all fun a => decide ((tyT a ctx n).kind ≠ 0)) = true then r else no2) := by
  have hcl : ctx.length ≤ 1000000000 ∧ szL (flC tgC ctx) ≤ 1000000000 := by
    unfold CtxW at hc; omega
  obtain ⟨T, b⟩ := r
  have hze := szL_tm e
  have hlz : e.args.length ≤ 1000000000 := by unfold CtxW at hc; omega
  unfold SoS
  rcases hk with hk | hk | hk
  all_goals
    refine con_runP Tryz.func38 rfl rfl (by simp [Tryz.ntmps38]) rfl ?_
    refine byP (fc hk (fc Tryz.ntmps38 Tryz.results38)) ?_
    refine sw_loop (fun k : Nat => k ≤ e.args.length ∧ ((e.args.take k).all fun a => decide ((tyT a ctx n).kind ≠ 0)) = true) (fun k => ⟨112, [(14, .i k), (13, .sl 2), (0, .br (.rows 4 ctx.length (flC tgC ctx))), (2, .i n), (7, .b false), (6, .bx 1 0), (4, .bx 0 0)], [(0, [.i e.kind, .s e.name, .s e.other, .i e.n, .i e.ty.kind, .br (.rows 2 e.ty.args.length (tysC e.ty.args)), .i e.res.kind, .br (.rows 2 e.res.args.length (tysC e.res.args)), .br (.rows 9 e.args.length (tmsC e.args))]), (1, [.i 0, .nl 2])], [(2, some ⟨.rows 2 k (tysC ((e.args.take k).map fun a => tyT a ctx n)), some 32, decide (k = 0)⟩)], 3, []⟩) (fun k => e.args.length - k) 0 id ⟨Nat.zero_le _, rfl⟩ ?_ ?_
    · exact byP (fc hk (fc Int.natCast_zero (show tysC [] = [] from rfl))) True.intro
    · rintro k ⟨hk0, hall⟩
      by_cases hlt : k < e.args.length
      · have hi : (k : Int) < (e.args.length : Int) := by omega
        have hR := tmsC_row' e.args k hlt
        have p0 := hP k hlt
        have hsa : ((e.args.take (k + 1)).all fun a => decide ((tyT a ctx n).kind ≠ 0)) = decide ((tyT e.args[k]! ctx n).kind ≠ 0) := by rw [take_snoc e.args k hlt, List.all_append, hall]; simp
        have hst : tysC ((e.args.take (k + 1)).map fun a => tyT a ctx n) = tysC ((e.args.take k).map fun a => tyT a ctx n) ++ tyC (tyT e.args[k]! ctx n) := by rw [tysC_flat, tysC_flat, take_snoc e.args k hlt, List.map_append, flC_app, List.map_cons, List.map_nil, flC_one]
        rw [tyC_eq] at hst
        rw [tmC_eq] at p0
        by_cases hb : (tyT e.args[k]! ctx n).kind ≠ 0
        · rw [decide_eq_true hb] at p0 hsa
          refine sw_run 200 _ _ _ (byP (fc hi hR) ?_)
          refine sw_callPR (p0) rfl rfl rfl (byQ True.intro) (byQ True.intro) (byQ True.intro) ?_
          refine sw_run 200 _ _ _ (byQ ?_)
          exact ⟨⟨fun o ho => by omega, by unfold maxLen; omega, by omega⟩, by unfold inI; omega, k + 1, rnL [(2, 5)], ⟨by omega, hsa⟩, by omega, byP hst True.intro⟩
        · rw [decide_eq_false hb] at p0
          have hf : (e.args.all fun a => decide ((tyT a ctx n).kind ≠ 0)) = false := by
            rw [List.all_eq_false]
            exact ⟨e.args[k]!, mem_bang hlt, by simpa using hb⟩
          rw [hf]
          refine sw_run 200 _ _ _ (byP (fc hi hR) ?_)
          refine sw_callPR (p0) rfl rfl rfl (byQ True.intro) (byQ True.intro) (byQ True.intro) ?_
          refine sw_run 200 _ _ _ (byP (fc Tryz.ntmps38 Tryz.results38) ?_)
          exact ⟨⟨rfl, rfl, rfl⟩, rfl⟩
      · have hi : ¬ (k : Int) < (e.args.length : Int) := by omega
        obtain rfl : k = e.args.length := by omega
        rw [List.take_length] at hall
        rw [hall, List.take_length]
        have hF' := hF fun a ha => by simpa using (List.all_eq_true.1 hall) a ha
        unfold FoS at hF'
        rw [tmC_eq, List.length_map] at hF'
        simp only at hF'
        refine sw_run 200 _ _ _ (byP hi ?_)
        refine sw_run 200 _ _ _ ?_
        refine byQ ?_
        refine sw_fzE 2 rfl ?_
        refine byQ ?_
        refine sw_callPR (hF') rfl rfl rfl (byQ True.intro) (byQ True.intro) (byQ True.intro) ?_
        exact sw_run 200 _ _ _ (byP (fc Tryz.ntmps38 Tryz.results38) True.intro)
end Go.Proofs.YtpoemjeelbmpkaaGreat
