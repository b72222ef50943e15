/-
  Types of terms, the program's side: joined.
-/
import Derived.Test.YtpoemjeelbmpkaaGreatTpD
namespace Go.Proofs.YtpoemjeelbmpkaaGreat
open Go.RowKit
set_option linter.unusedVariables false
set_option linter.unusedSimpArgs false
set_option maxRecDepth 20000
theorem nm_sz {s : ByteArray} (h : nmB s = true) : s.size ≤ 4 := by
  unfold nmB at h; simp only [Bool.and_eq_true, decide_eq_true_eq] at h; omega
theorem fm_names {e : Tm} (h : isFm e = true) : (e.kind = 6 → nmB e.name = true) ∧ (e.kind = 8 → nmB e.name = true) ∧ (e.kind = 9 → nmB e.name = true ∧ nmB e.other = true) := by
  rw [isFm_eq] at h
  simp only [Bool.and_eq_true, decide_eq_true_eq] at h
  obtain ⟨_, hn, _⟩ := h
  unfold isNm at hn
  refine ⟨fun hk => ?_, fun hk => ?_, fun hk => ?_⟩
  all_goals simp only [hk, if_true, if_false, Int.reduceEq, Bool.and_eq_true] at hn
  · exact hn.1
  · exact hn
  · exact ⟨hn.1, hn.2.1⟩
theorem mapT_bang {α β : Type} [Inhabited α] [Inhabited β] (f : α → β) (l : List α) (i : Nat) (h : i < l.length) : (l.map f)[i]! = f l[i]! := map_bang f h
theorem rgL_part {e : Tm} {k : Nat} {n m : Int} (h : rgL e n) (hk : k < e.args.length) (hm : n - 1 ≤ m ∧ m ≤ n + 1) : rgL e.args[k]! m := by
  have := szK' hk
  unfold rgL at *; omega
theorem all_part {p : Tm → Bool} {e : Tm} {k : Nat} (h : allTm p e = true) (hk : k < e.args.length) : allTm p e.args[k]! = true := by
  have key : ∀ (l : List Tm), allTms p l = true → ∀ x ∈ l, allTm p x = true := by
    intro l
    induction l with
    | nil => intro _ x hx; cases hx
    | cons y l ih =>
      intro h x hx
      rw [allTms, Bool.and_eq_true] at h
      rcases List.mem_cons.1 hx with rfl | hx
      · exact h.1
      · exact ih h.2 x hx
  rw [allTm_eq, Bool.and_eq_true] at h
  exact key _ h.2 _ (mem_bang hk)
theorem fun_sz (a b : Ty) : szL (tyC (.mk 3 [a, b])) = szL (tyC a) + szL (tyC b) + 2 := by
  have h := szT_eq (.mk 3 [a, b])
  have ha := szT_eq a
  have hb := szT_eq b
  rw [szT, szTs, szTs, szTs] at h; omega
theorem code_sz (a : Ty) : szL (tyC (.mk 4 [a])) = szL (tyC a) + 1 := by
  have h := szT_eq (.mk 4 [a])
  have ha := szT_eq a
  rw [szT, szTs, szTs] at h; omega
theorem codeF_sz {t : Ty} (h : Zv t) : szL (tyC (codeF t)) ≤ 29 := by
  have h0 := zv_sz (t := z0) (.inl rfl)
  unfold codeF
  split
  · rename_i hk
    have hv := zv_ne h (by omega)
    rcases f_kind (v_form hv) with ⟨q, _⟩ | ⟨q, _⟩ | ⟨q, _⟩ | ⟨_, u, hu, _⟩
    · omega
    · omega
    · omega
    · have h1 := v_sz hv
      rw [ty_ext hk hu, code_sz] at h1
      rw [hu]
      show szL (tyC u) ≤ 29
      omega
  · exact h0
theorem op_sz (s : ByteArray) (l : List Ty) : szL (tyC (opI s l)) ≤ 29 := by
  have h0 := zv_sz (t := z0) (.inl rfl)
  have h1 := zv_sz (t := tI) (.inr v_tI)
  have h2 := zv_sz (t := tB) (.inr v_tB)
  unfold opI outT
  repeat' split
  all_goals assumption
theorem ite_sz {p : Prop} [Decidable p] {a b : Ty} {n : Nat} (ha : szL (tyC a) ≤ n) (hb : szL (tyC b) ≤ n) : szL (tyC (if p then a else b)) ≤ n := by
  split
  · exact ha
  · exact hb
theorem ty_join (e : Tm) (ctx : List Tg) (n : Int) (T : Ty) (hF : FmI e ctx n T) (hT : FmT e ctx n = T) (hz : szL (tyC T) ≤ 1000000000) : ConP Tryz.prog 29 [.b (.one (.rows 4 ctx.length (flC tgC ctx))), .b (.ag (tmC e)), .b (.one (.int n))] [] [.ag [.r (.int (tyT e ctx n).kind), .r (.rows 2 (tyT e ctx n).args.length (tysC (tyT e ctx n).args))]] :=
  con_typed e ctx n (by rw [hT]; exact hz) (by rw [hT]; exact hF)
theorem con_fmS (e : Tm) (ctx : List Tg) (n : Int) (hc : CtxW ctx e) (hk : e.kind = 10 ∨ e.kind = 11 ∨ e.kind = 12 ∨ e.kind = 13) (T : Ty) (h : StI e ctx n T) : FmI e ctx n T := by
  have hcl : ctx.length ≤ 1000000000 ∧ szL (flC tgC ctx) ≤ 1000000000 := by
    unfold CtxW at hc; omega
  unfold StI at h
  unfold FmI
  rw [tmC_eq] at h
  rcases hk with hk | hk | hk | hk
  all_goals
    rw [hk] at h
    refine con_runP Tryz.func49 rfl rfl (by simp [Tryz.ntmps49]) rfl ?_
    refine byP (fc hk (fc Tryz.ntmps49 Tryz.results49)) ?_
    refine sw_callPR (h) rfl rfl rfl (byQ True.intro) (byQ True.intro) (byQ True.intro) ?_
    exact sw_run 200 _ _ _ (byP (fc Tryz.ntmps49 Tryz.results49) True.intro)
theorem con_ty : ∀ e : Tm, TyI e := by
  refine Tm.ind fun e ih ctx n hc hr ha => ?_
  have hF : isFm e = true := by
    rw [allTm_eq, Bool.and_eq_true] at ha; exact ha.1
  obtain ⟨hl, h4, h9, h9', h6', hk1, hk2⟩ := fm_facts hF
  obtain ⟨n6, n8, n9⟩ := fm_names hF
  have hze : 200 * (szL (tmC e) + 1) ≤ 1000000000 := by unfold CtxW at hc; omega
  have hn0 : -2000000000 ≤ n ∧ n ≤ 2000000000 := by unfold rgL at hr; omega
  have h0s := zv_sz (t := z0) (.inl rfl)
  have hP : ∀ (i : Nat) (c : List Tg) (m : Int) (h : i < e.args.length), n - 1 ≤ m ∧ m ≤ n + 1 → CtxW c e.args[i]! → ConP Tryz.prog 29 [.b (.one (.rows 4 c.length (flC tgC c))), .b (.ag (tmC e.args[i]!)), .b (.one (.int m))] [] [.ag [.r (.int (tyT e.args[i]! c m).kind), .r (.rows 2 (tyT e.args[i]! c m).args.length (tysC (tyT e.args[i]! c m).args))]] :=
    fun i c m h hm hw => ih _ (mem_bang h) c m hw (rgL_part hr h hm) (all_part ha h)
  have hb : ∀ (i : Nat) (gs : List Tg), i < e.args.length → gs.length + szL (flC tgC gs) ≤ 200 → CtxW (ctx ++ gs) e.args[i]! := fun i gs h hg => hc.bind (szK' h) hg
  have hp : ∀ (i : Nat), i < e.args.length → CtxW ctx e.args[i]! := fun i h => hc.part (szK' h)
  have nn : n - 1 ≤ n ∧ n ≤ n + 1 := by omega
  have zz := fun x c m => zv_tyT x c m
  unfold arF at hl
  have hK : e.kind = 1 ∨ e.kind = 2 ∨ e.kind = 3 ∨ e.kind = 4 ∨ e.kind = 5 ∨ e.kind = 6 ∨ e.kind = 7 ∨ e.kind = 8 ∨ e.kind = 9 ∨ e.kind = 10 ∨ e.kind = 11 ∨ e.kind = 12 ∨ e.kind = 13 := by omega
  rcases hK with hk | hk | hk | hk | hk | hk | hk | hk | hk | hk | hk | hk | hk
  all_goals simp only [hk, if_true, if_false, Int.reduceEq] at hl
  · refine ty_join e ctx n _ (con_fm1 e ctx n hk hc) (by simp only [FmT, fmF, hk, if_true]) ?_
    unfold vrF
    have hrg := last_rng ctx e.name ctx.length (Nat.le_refl _)
    split
    · split
      · have h1 := ctx_ty (ctx := ctx) (i := (lastTg ctx e.name ctx.length).toNat) (by omega)
        unfold CtxW at hc; omega
      · omega
    · omega
  · exact ty_join e ctx n _ (con_fm2 e ctx n hk hc) (by simp only [FmT, fmF, hk, if_true, if_false, Int.reduceEq]) (by have := zv_sz (t := tI) (.inr v_tI); omega)
  · exact ty_join e ctx n _ (con_fm3 e ctx n hk hc) (by simp only [FmT, fmF, hk, if_true, if_false, Int.reduceEq]) (by have := zv_sz (t := tB) (.inr v_tB); omega)
  · exact ty_join e ctx n _ (con_fm4 e ctx n hk (by omega) (fun i h => hP i ctx n h nn (hp i h))) (by
      simp only [FmT, fmF, hk, if_true, if_false, Int.reduceEq]
      rw [List.map_map]; rfl) (by have := op_sz e.name (e.args.map fun a => tyT a ctx n); omega)
  · have l0 : 0 < e.args.length := by omega
    have l1 : 1 < e.args.length := by omega
    have l2 : 2 < e.args.length := by omega
    exact ty_join e ctx n _ (con_fm5 e ctx n hk (by omega) _ (zz _ _ _) (hP 0 ctx n l0 nn (hp 0 l0)) _ (zz _ _ _) (hP 1 ctx n l1 nn (hp 1 l1)) _ (zz _ _ _) (hP 2 ctx n l2 nn (hp 2 l2)) hc) (by
      simp only [FmT, fmF, hk, if_true, if_false, Int.reduceEq, mapT_bang tyT e.args 0 l0, mapT_bang tyT e.args 1 l1, mapT_bang tyT e.args 2 l2]) (ite_sz (ite_sz (by have := zv_sz (zz e.args[1]! ctx n); omega) (by omega)) (by omega))
  · have l0 : 0 < e.args.length := by omega
    have s1 := v_sz (h6' hk)
    have s2 := nm_sz (n6 hk)
    have hg : [(⟨e.name, e.ty, n⟩ : Tg)].length + szL (flC tgC [(⟨e.name, e.ty, n⟩ : Tg)]) ≤ 200 := by
      rw [flC_one, tgC_sz]; simp only [List.length_cons, List.length_nil]; omega
    have zB := zz e.args[0]! (ctx ++ [(⟨e.name, e.ty, n⟩ : Tg)]) n
    exact ty_join e ctx n _ (con_fm6 e ctx n hk (by omega) hc (by omega) _ zB (hP 0 _ n l0 nn (hb 0 _ l0 hg))) (by
      simp only [FmT, fmF, hk, if_true, if_false, Int.reduceEq, mapT_bang tyT e.args 0 l0]) (ite_sz (by omega) (by rw [fun_sz]; have := zv_sz zB; omega))
  · have l0 : 0 < e.args.length := by omega
    have l1 : 1 < e.args.length := by omega
    have zA := zz e.args[0]! ctx n
    refine ty_join e ctx n _ (con_fm7 e ctx n hk (by omega) _ zA (hP 0 ctx n l0 nn (hp 0 l0)) _ (zz _ _ _) (hP 1 ctx n l1 nn (hp 1 l1)) hc) (by
      simp only [FmT, fmF, hk, if_true, if_false, Int.reduceEq, mapT_bang tyT e.args 0 l0, mapT_bang tyT e.args 1 l1]) ?_
    generalize tyT e.args[0]! ctx n = A at *
    split
    · rename_i h3
      refine ite_sz ?_ (by omega)
      have hv := zv_ne zA (by omega)
      rcases f_kind (v_form hv) with ⟨q, _⟩ | ⟨q, _⟩ | ⟨_, u, v, hu, _⟩ | ⟨q, _⟩
      · omega
      · omega
      · have h1 := v_sz hv
        rw [ty_ext h3 hu, fun_sz] at h1
        rw [hu]
        show szL (tyC v) ≤ _
        omega
      · omega
    · omega
  · have l0 : 0 < e.args.length := by omega
    have l1 : 1 < e.args.length := by omega
    have s2 := nm_sz (n8 hk)
    have zA := zz e.args[0]! ctx n
    have s1 := zv_sz zA
    have hg : [(⟨e.name, tyT e.args[0]! ctx n, n⟩ : Tg)].length + szL (flC tgC [(⟨e.name, tyT e.args[0]! ctx n, n⟩ : Tg)]) ≤ 200 := by
      rw [flC_one, tgC_sz]; simp only [List.length_cons, List.length_nil]; omega
    exact ty_join e ctx n _ (con_fm8 e ctx n hk (by omega) hc _ zA (hP 0 ctx n l0 nn (hp 0 l0)) _ (hP 1 _ n l1 nn (hb 1 _ l1 hg))) (by
      simp only [FmT, fmF, hk, if_true, if_false, Int.reduceEq, mapT_bang tyT e.args 0 l0, mapT_bang tyT e.args 1 l1]) (ite_sz (by omega) (by have := zv_sz (zz e.args[1]! (ctx ++ [(⟨e.name, tyT e.args[0]! ctx n, n⟩ : Tg)]) n); omega))
  · have l0 : 0 < e.args.length := by omega
    have s1 := v_sz (h9 hk)
    have s1' := v_sz (h9' hk)
    have s2 := nm_sz (n9 hk).1
    have s3 := nm_sz (n9 hk).2
    have hg : [(⟨e.name, .mk 3 [e.ty, e.res], n⟩ : Tg), ⟨e.other, e.ty, n⟩].length + szL (flC tgC [(⟨e.name, .mk 3 [e.ty, e.res], n⟩ : Tg), ⟨e.other, e.ty, n⟩]) ≤ 200 := by
      rw [show [(⟨e.name, .mk 3 [e.ty, e.res], n⟩ : Tg), ⟨e.other, e.ty, n⟩] = [(⟨e.name, .mk 3 [e.ty, e.res], n⟩ : Tg)] ++ [⟨e.other, e.ty, n⟩] from rfl, flC_app, szL_append, flC_one, flC_one, tgC_sz, tgC_sz]
      have := fun_sz e.ty e.res
      simp only [List.length_append, List.length_cons, List.length_nil]; omega
    exact ty_join e ctx n _ (con_fm9 e ctx n hk (by omega) hc (by omega) (by omega) _ (zz _ _ _) (hP 0 _ n l0 nn (hb 0 _ l0 hg))) (by
      simp only [FmT, fmF, hk, if_true, if_false, Int.reduceEq, mapT_bang tyT e.args 0 l0]) (ite_sz (by rw [fun_sz]; omega) (by omega))
  · have l0 : 0 < e.args.length := by omega
    have zB := zz e.args[0]! ctx (n + 1)
    exact ty_join e ctx n _ (con_fmS e ctx n hc (by omega) _ (con_st10 e ctx n hk (by omega) hn0 _ zB (hP 0 ctx (n + 1) l0 (by omega) (hp 0 l0)))) (by
      simp only [FmT, fmF, hk, if_true, if_false, Int.reduceEq, mapT_bang tyT e.args 0 l0]) (ite_sz (by omega) (by rw [code_sz]; have := zv_sz zB; omega))
  · have l0 : 0 < e.args.length := by omega
    have zB := zz e.args[0]! ctx (n - 1)
    exact ty_join e ctx n _ (con_fmS e ctx n hc (by omega) _ (con_st11 e ctx n hk (by omega) hn0 _ zB (hP 0 ctx (n - 1) l0 (by omega) (hp 0 l0)))) (by
      simp only [FmT, fmF, hk, if_true, if_false, Int.reduceEq, mapT_bang tyT e.args 0 l0]) (by have := codeF_sz zB; omega)
  · have l0 : 0 < e.args.length := by omega
    have zB := zz e.args[0]! (safeTg ctx n ctx.length) n
    exact ty_join e ctx n _ (con_fmS e ctx n hc (by omega) _ (con_st12 e ctx n hk (by omega) hn0 hc _ zB (hP 0 _ n l0 nn (hc.safe (szK' l0))))) (by
      simp only [FmT, fmF, hk, if_true, if_false, Int.reduceEq, mapT_bang tyT e.args 0 l0]) (by have := codeF_sz zB; omega)
  · have l0 : 0 < e.args.length := by omega
    have zB := zz e.args[0]! ctx n
    exact ty_join e ctx n _ (con_fmS e ctx n hc (by omega) _ (con_st13 e ctx n hk (by omega) hn0 _ zB (hP 0 ctx n l0 nn (hp 0 l0)))) (by
      simp only [FmT, fmF, hk, if_true, if_false, Int.reduceEq, mapT_bang tyT e.args 0 l0]) (ite_sz (by rw [code_sz]; have := zv_sz zB; omega) (by omega))
end Go.Proofs.YtpoemjeelbmpkaaGreat
