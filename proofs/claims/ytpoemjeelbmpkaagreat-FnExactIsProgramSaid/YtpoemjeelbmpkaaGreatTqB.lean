/-
  Types of terms, the reference's side: forms.
-/
import Derived.Test.YtpoemjeelbmpkaaGreatTqA
namespace Go.Proofs.YtpoemjeelbmpkaaGreat
open Go.RowKit
set_option linter.unusedVariables false
set_option linter.unusedSimpArgs false
set_option maxRecDepth 20000
def FoS (e : Tm) (l : List Ty) (r : Ty × Bool) : Prop := ConP Tryz.prog 62 [.b (.ag (tmC e)), .b (.one (.rows 2 l.length (tysC l)))] [] [.ag [.r (.int r.1.kind), .r (.rows 2 r.1.args.length (tysC r.1.args))], .one (.r (.bool r.2))]
theorem con_fo4 (e : Tm) (l : List Ty) (hl : l.length ≤ 2000000000) (hk : e.kind = 4) : FoS e l (opS e.name l) := by
  have hO := con_opS e.name l hl
  unfold FoS
  generalize opS e.name l = r at *
  obtain ⟨T, b⟩ := r
  simp only at hO ⊢
  refine con_runP Tryz.func62 rfl rfl (by simp [Tryz.ntmps62]) rfl ?_
  refine byP (fc hk (fc Tryz.ntmps62 Tryz.results62)) ?_
  refine sw_callPR (hO) rfl rfl rfl (byQ True.intro) (byQ True.intro) (byQ True.intro) ?_
  exact sw_run 200 _ _ _ (byP (fc Tryz.ntmps62 Tryz.results62) True.intro)
theorem con_fo5 (e : Tm) (l : List Ty) (hl : l.length = 3) (hv : ∀ t ∈ l, vTy t = true) (hk : e.kind = 5) : FoS e l (l[1]!, decide ((l[0]!).kind = 2) && eqTy l[1]! l[2]!) := by
  obtain ⟨x, y, z, rfl⟩ := len3 hl
  have hE := con_EqTyS y z (by have := v_sz (hv y (by simp)); omega)
  have r0 : rowAt 2 (tysC [x, y, z]) 0 = tyC x := by rw [tysC_row' [x, y, z] 0 (by simp)]; rfl
  have r1 : rowAt 2 (tysC [x, y, z]) 1 = tyC y := by rw [tysC_row' [x, y, z] 1 (by simp)]; rfl
  have r2 : rowAt 2 (tysC [x, y, z]) 2 = tyC z := by rw [tysC_row' [x, y, z] 2 (by simp)]; rfl
  rw [tyC_eq] at r0 r1 r2
  have i0 : ((0 : Int) < (([x, y, z] : List Ty).length : Int)) := by simp
  have i1 : ((1 : Int) < (([x, y, z] : List Ty).length : Int)) := by simp
  have i2 : ((2 : Int) < (([x, y, z] : List Ty).length : Int)) := by simp
  rw [tyC_eq] at hE
  rw [tyC_eq] at hE
  simp only [tysD] at hE
  show FoS e [x, y, z] (y, decide (x.kind = 2) && eqTy y z)
  unfold FoS
  by_cases h2 : x.kind = 2
  · rw [decide_eq_true h2, Bool.true_and]
    generalize eqTy y z = b at *
    refine con_runP Tryz.func62 rfl rfl (by simp [Tryz.ntmps62]) rfl ?_
    refine byP (fc hk (fc Tryz.ntmps62 Tryz.results62)) ?_
    refine sw_drawn (.cons 0 true (.cons 1 true (.cons 2 true (.cons 3 true (.cons 4 true (.cons 5 true (.cons 6 true (.cons 7 true (.cons 8 true (.cons 9 true (.cons 10 true (.cons 11 true (.cons 12 true (.cons 13 true (.cons 14 true (.cons 15 false (.fork (.alt 16 (.cons 17 false (.cons 18 true (.nil))) (.alt 17 (.cons 16 true (.cons 18 true (.nil))) (.last)))))))))))))))))))) (by kernel_rfl) fQP_panic (by kernel_rfl) ?_
    refine sw_run 200 _ _ _ (byP (fc i0 (fc i1 (fc i2 (fc r0 (fc r1 (fc r2 h2)))))) ?_)
    repeat' (with_reducible apply And.intro)
    all_goals
      refine sw_callD (hE) rfl (aAs_ok (byQ True.intro)) (byQ True.intro) ?_
    all_goals
      refine sw_run 200 _ _ _ (byP (fc Tryz.ntmps62 Tryz.results62) ?_)
    repeat' (with_reducible apply And.intro)
    all_goals first | exact True.intro | rfl
  · rw [decide_eq_false h2, Bool.false_and]
    refine con_runP Tryz.func62 rfl rfl (by simp [Tryz.ntmps62]) rfl ?_
    refine byP (fc hk (fc Tryz.ntmps62 Tryz.results62)) ?_
    refine sw_drawn (.cons 0 true (.cons 1 true (.cons 2 true (.cons 3 true (.cons 4 true (.cons 5 true (.cons 6 true (.cons 7 true (.cons 8 true (.cons 9 true (.cons 10 true (.cons 11 true (.cons 12 true (.cons 13 true (.cons 14 true (.cons 15 false (.fork (.alt 16 (.cons 17 false (.cons 18 true (.nil))) (.alt 17 (.cons 16 true (.cons 18 true (.nil))) (.last)))))))))))))))))))) (by kernel_rfl) fQP_panic (by kernel_rfl) ?_
    refine sw_run 200 _ _ _ (byP (fc i0 (fc i1 (fc i2 (fc r0 (fc r1 (fc r2 (fc h2 (fc Tryz.ntmps62 Tryz.results62)))))))) ?_)
    repeat' (with_reducible apply And.intro)
    all_goals first | exact True.intro | rfl
theorem con_fo7 (e : Tm) (l : List Ty) (hl : l.length = 2) (hv : ∀ t ∈ l, vTy t = true) (hk : e.kind = 7) : FoS e l (if (l[0]!).kind = 3 then (if eqTy (l[0]!).args[0]! l[1]! = true then ((l[0]!).args[1]!, true) else no2) else no2) := by
  obtain ⟨x, y, rfl⟩ := len2 hl
  have r0 : rowAt 2 (tysC [x, y]) 0 = tyC x := by rw [tysC_row' [x, y] 0 (by simp)]; rfl
  have r1 : rowAt 2 (tysC [x, y]) 1 = tyC y := by rw [tysC_row' [x, y] 1 (by simp)]; rfl
  rw [tyC_eq] at r0 r1
  have i0 : ((0 : Int) < (([x, y] : List Ty).length : Int)) := by simp
  have i1 : ((1 : Int) < (([x, y] : List Ty).length : Int)) := by simp
  show FoS e [x, y] (if x.kind = 3 then (if eqTy x.args[0]! y = true then (x.args[1]!, true) else no2) else no2)
  unfold FoS
  by_cases h3 : x.kind = 3
  case neg =>
    rw [if_neg h3]
    refine con_runP Tryz.func62 rfl rfl (by simp [Tryz.ntmps62]) rfl ?_
    refine byP (fc hk (fc Tryz.ntmps62 Tryz.results62)) ?_
    refine sw_drawn (.cons 0 true (.cons 1 true (.cons 2 true (.cons 3 true (.cons 4 true (.cons 5 true (.cons 6 true (.cons 7 true (.cons 8 true (.cons 9 true (.cons 10 true (.cons 11 true (.cons 12 true (.cons 13 true (.cons 14 true (.cons 15 false (.cons 16 true (.nil)))))))))))))))))) (by kernel_rfl) fQP_panic (by kernel_rfl) ?_
    refine sw_run 200 _ _ _ (byP (fc i0 (fc i1 (fc r0 (fc r1 (fc h3 (fc Tryz.ntmps62 Tryz.results62)))))) ?_)
    exact ⟨⟨rfl, rfl, rfl⟩, rfl⟩
  rw [if_pos h3]
  have hvx := hv x (by simp)
  obtain ⟨u, v, hu⟩ : ∃ u v, x.args = [u, v] := by
    rcases f_kind (v_form hvx) with ⟨q, _⟩ | ⟨q, _⟩ | ⟨_, u, v, hu, _⟩ | ⟨q, _⟩
    · omega
    · omega
    · exact ⟨u, v, hu⟩
    · omega
  have hsz := v_sz hvx
  rw [ty_ext h3 hu, fun_sz] at hsz
  have s0 : rowAt 2 (tysC [u, v]) 0 = tyC u := by rw [tysC_row' [u, v] 0 (by simp)]; rfl
  have s1 : rowAt 2 (tysC [u, v]) 1 = tyC v := by rw [tysC_row' [u, v] 1 (by simp)]; rfl
  have hE := con_EqTyS u y (by omega)
  have hO := conR (con_l3Copy v (by omega)) trivial
  rw [tyC_eq] at hE hO s0 s1
  rw [tyC_eq] at hE
  simp only [tysD] at hE
  simp only [List.map, toR, tysD] at hO
  rw [hu] at r0
  rw [show (if eqTy x.args[0]! y = true then (x.args[1]!, true) else no2) = (if eqTy u y = true then (v, true) else no2) from by rw [hu]; rfl]
  have j0 : ((0 : Int) < (([u, v] : List Ty).length : Int)) := by simp
  have j1 : ((1 : Int) < (([u, v] : List Ty).length : Int)) := by simp
  by_cases b1 : eqTy u y = true
  case neg =>
    rw [if_neg b1]
    rw [show eqTy u y = false by simpa using b1] at hE
    refine con_runP Tryz.func62 rfl rfl (by simp [Tryz.ntmps62]) rfl ?_
    refine byP (fc hk (fc Tryz.ntmps62 Tryz.results62)) ?_
    refine sw_drawn (.cons 0 true (.cons 1 true (.cons 2 true (.cons 3 true (.cons 4 true (.cons 5 true (.cons 6 true (.cons 7 true (.cons 8 true (.cons 9 true (.cons 10 true (.cons 11 true (.cons 12 true (.cons 13 true (.cons 14 true (.cons 15 false (.cons 16 true (.nil)))))))))))))))))) (by kernel_rfl) fQP_panic (by kernel_rfl) ?_
    refine sw_run 200 _ _ _ (byP (fc i0 (fc i1 (fc r0 (fc r1 (fc h3 (fc j0 (fc j1 (fc s0 s1)))))))) ?_)
    refine sw_callD (hE) rfl (aAs_ok (byQ True.intro)) (byQ True.intro) ?_
    refine sw_run 200 _ _ _ (byP (fc Tryz.ntmps62 Tryz.results62) ?_)
    exact ⟨⟨rfl, rfl, rfl⟩, rfl⟩
  case pos =>
    rw [if_pos b1]
    rw [b1] at hE
    refine con_runP Tryz.func62 rfl rfl (by simp [Tryz.ntmps62]) rfl ?_
    refine byP (fc hk (fc Tryz.ntmps62 Tryz.results62)) ?_
    refine sw_drawn (.cons 0 true (.cons 1 true (.cons 2 true (.cons 3 true (.cons 4 true (.cons 5 true (.cons 6 true (.cons 7 true (.cons 8 true (.cons 9 true (.cons 10 true (.cons 11 true (.cons 12 true (.cons 13 true (.cons 14 true (.cons 15 false (.cons 16 true (.nil)))))))))))))))))) (by kernel_rfl) fQP_panic (by kernel_rfl) ?_
    refine sw_run 200 _ _ _ (byP (fc i0 (fc i1 (fc r0 (fc r1 (fc h3 (fc j0 (fc j1 (fc s0 s1)))))))) ?_)
    refine sw_callD (hE) rfl (aAs_ok (byQ True.intro)) (byQ True.intro) ?_
    refine sw_run 200 _ _ _ (byP (fc i0 (fc i1 (fc r0 (fc r1 (fc h3 (fc j0 (fc j1 (fc s0 s1)))))))) ?_)
    refine sw_callPR (hO) rfl rfl rfl (byQ True.intro) (byQ True.intro) (byQ True.intro) ?_
    exact sw_run 200 _ _ _ (byP (fc Tryz.ntmps62 Tryz.results62) True.intro)
end Go.Proofs.YtpoemjeelbmpkaaGreat
