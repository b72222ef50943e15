/-
  TypeOf and IsProgram of the program, for a closed term.
-/
import Derived.Test.YtpoemjeelbmpkaaGreatTpE
import Derived.Test.YtpoemjeelbmpkaaGreatTvA
namespace Go.Proofs.YtpoemjeelbmpkaaGreat
open Go.RowKit
set_option linter.unusedVariables false
set_option linter.unusedSimpArgs false
set_option maxRecDepth 20000
def lvB (e : Tm) : Bool := allTm isFm e && levB okB e 0
def toB (e : Tm) : Bool := lvB e && decide ((tyT e [] 0).kind ≠ 0)
def prB (e : Tm) : Bool := toB e && vTm e
theorem rg0 {e : Tm} (hz : szL (tmC e) ≤ 2000000) : rgL e 0 := by unfold rgL; omega
theorem con_TypeOfI (e : Tm) (hz : szL (tmC e) ≤ 2000000) : ∃ T : Ty, ConP Tryz.prog 15 [.b (.one (.rows 4 0 [])), .b (.ag (tmC e)), .b (.one (.int 0))] [] [.ag [.r (.int T.kind), .r (.rows 2 T.args.length (tysC T.args))], .one (.r (.bool (toB e)))] := by
  have hL := con_LevelsOk e 0 (by omega) (rg0 hz)
  have hT := con_ty e [] 0
  unfold toB
  rw [show (allTm isFm e && levB okB e 0) = lvB e from rfl] at hL
  rw [tmC_eq] at hL
  cases hl : lvB e with
  | false =>
    rw [hl] at hL
    rw [Bool.false_and]
    refine ⟨z0, ?_⟩
    refine con_runP Tryz.func15 rfl rfl (by simp [Tryz.ntmps15]) rfl ?_
    refine byP (fc Tryz.ntmps15 Tryz.results15) ?_
    refine sw_call (con_CtxI0) rfl (aAs_ok (byQ True.intro)) (byQ True.intro) ?_
    refine sw_run 200 _ _ _ (byQ ?_)
    refine sw_call (hL) rfl (aAs_ok (byQ True.intro)) (byQ True.intro) ?_
    refine sw_run 200 _ _ _ (byP (fc Tryz.ntmps15 Tryz.results15) ?_)
    exact ⟨rfl, rfl, rfl⟩
  | true =>
    rw [hl] at hL
    rw [Bool.true_and]
    replace hT := hT (by unfold CtxW; simp only [List.length_nil, flC, szL]; omega) (rg0 hz) (by unfold lvB at hl; rw [Bool.and_eq_true] at hl; exact hl.1)
    refine ⟨tyT e [] 0, ?_⟩
    rw [tmC_eq] at hT
    generalize tyT e [] 0 = T at *
    simp only [List.length_nil, flC] at hT
    by_cases hk : T.kind = 0
    · rw [decide_eq_false (by omega : ¬ T.kind ≠ 0)]
      refine con_runP Tryz.func15 rfl rfl (by simp [Tryz.ntmps15]) rfl ?_
      refine byP (fc Tryz.ntmps15 Tryz.results15) ?_
      refine sw_call (con_CtxI0) rfl (aAs_ok (byQ True.intro)) (byQ True.intro) ?_
      refine sw_run 200 _ _ _ (byQ ?_)
      refine sw_call (hL) rfl (aAs_ok (byQ True.intro)) (byQ True.intro) ?_
      refine sw_run 200 _ _ _ (byQ ?_)
      refine sw_callPR (hT) rfl rfl rfl (byQ True.intro) (byQ True.intro) (byQ True.intro) ?_
      refine sw_run 200 _ _ _ (byQ ?_)
      refine sw_drawn (.cons 0 true (.cons 1 true (.fork (.alt 2 (.fork (.alt 3 (.cons 4 false (.cons 5 true (.nil))) (.alt 4 (.cons 3 true (.cons 5 true (.nil))) (.last)))) (.alt 4 (.cons 2 true (.cons 3 true (.cons 5 true (.nil)))) (.last)))))) (by kernel_rfl) fQP_panic (by kernel_rfl) ?_
      refine sw_run 200 _ _ _ (byP (fc hk (fc Tryz.ntmps15 Tryz.results15)) ?_)
      exact True.intro
    · rw [decide_eq_true (by omega : T.kind ≠ 0)]
      refine con_runP Tryz.func15 rfl rfl (by simp [Tryz.ntmps15]) rfl ?_
      refine byP (fc Tryz.ntmps15 Tryz.results15) ?_
      refine sw_call (con_CtxI0) rfl (aAs_ok (byQ True.intro)) (byQ True.intro) ?_
      refine sw_run 200 _ _ _ (byQ ?_)
      refine sw_call (hL) rfl (aAs_ok (byQ True.intro)) (byQ True.intro) ?_
      refine sw_run 200 _ _ _ (byQ ?_)
      refine sw_callPR (hT) rfl rfl rfl (byQ True.intro) (byQ True.intro) (byQ True.intro) ?_
      refine sw_run 200 _ _ _ (byQ ?_)
      refine sw_drawn (.cons 0 true (.cons 1 true (.fork (.alt 2 (.fork (.alt 3 (.cons 4 false (.cons 5 true (.nil))) (.alt 4 (.cons 3 true (.cons 5 true (.nil))) (.last)))) (.alt 4 (.cons 2 true (.cons 3 true (.cons 5 true (.nil)))) (.last)))))) (by kernel_rfl) fQP_panic (by kernel_rfl) ?_
      refine sw_run 200 _ _ _ (byP (fc hk (fc Tryz.ntmps15 Tryz.results15)) ?_)
      exact True.intro
theorem con_IsPrI (e : Tm) (hz : szL (tmC e) ≤ 2000000) : Con Tryz.prog 7 [.ag (tmC e)] [.one (.bool (prB e))] := by
  obtain ⟨T, hT⟩ := con_TypeOfI e hz
  have hV := con_ValidI e (by omega)
  unfold prB
  rw [tmC_eq] at hT hV
  cases hb : toB e with
  | false =>
    rw [hb] at hT
    rw [Bool.false_and]
    refine con_run Tryz.func7 rfl rfl (by simp [Tryz.ntmps7]) ?_
    refine byP (fc Tryz.ntmps7 Tryz.results7) ?_
    refine sw_callPR (hT) rfl rfl rfl (byQ True.intro) (byQ True.intro) (byQ True.intro) ?_
    refine sw_run 200 _ _ _ (byP (fc Tryz.ntmps7 Tryz.results7) ?_)
    exact True.intro
  | true =>
    rw [hb] at hT
    rw [Bool.true_and]
    refine con_run Tryz.func7 rfl rfl (by simp [Tryz.ntmps7]) ?_
    refine byP (fc Tryz.ntmps7 Tryz.results7) ?_
    refine sw_callPR (hT) rfl rfl rfl (byQ True.intro) (byQ True.intro) (byQ True.intro) ?_
    refine sw_run 200 _ _ _ (byQ ?_)
    refine sw_call (hV) rfl (aAs_ok (byQ True.intro)) (byQ True.intro) ?_
    refine sw_run 200 _ _ _ (byP (fc Tryz.ntmps7 Tryz.results7) ?_)
    exact True.intro
end Go.Proofs.YtpoemjeelbmpkaaGreat
