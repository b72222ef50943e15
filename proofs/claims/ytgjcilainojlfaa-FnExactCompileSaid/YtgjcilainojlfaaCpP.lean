/-
  Compilation, plainly: how much it adds, what waits.
-/
import Derived.Test.YtgjcilainojlfaaCpB
import Derived.Test.YtgjcilainojlfaaPln
namespace Go.Proofs.Ytgjcilainojlfaa
open Go.RowKit
set_option linter.unusedVariables false
set_option linter.unusedSimpArgs false
theorem pl_args {e : Tm} (h : plT e = true) : ∀ x ∈ e.args, plT x = true := by
  obtain ⟨k, s, o, n, ty, r, xs⟩ := e
  unfold plT at h
  simp only [Bool.and_eq_true, allTm] at h
  have key : ∀ (p : Tm → Bool) (l : List Tm), allTms p l = true → ∀ x ∈ l, allTm p x = true := by
    intro p l
    induction l with
    | nil => intro _ x hx; cases hx
    | cons y l ih =>
      intro h x hx
      rw [allTms, Bool.and_eq_true] at h
      rcases List.mem_cons.1 hx with rfl | hx
      · exact h.1
      · exact ih h.2 x hx
  intro x hx
  unfold plT
  rw [key _ _ h.1.2 x hx, key _ _ h.2.2 x hx]; rfl
theorem pl_kind {e : Tm} (h : plT e = true) : (e.kind = 1 ∨ e.kind = 2 ∨ e.kind = 3 ∨ e.kind = 4 ∨ e.kind = 5 ∨ e.kind = 6 ∨ e.kind = 7 ∨ e.kind = 8 ∨ e.kind = 9) ∧ (e.kind = 5 → e.args.length = 3) ∧ (e.kind = 6 → e.args.length = 1) ∧ (e.kind = 7 → e.args.length = 2) ∧ (e.kind = 8 → e.args.length = 2) ∧ (e.kind = 9 → e.args.length = 1) := by
  unfold plT at h
  rw [Bool.and_eq_true, allTm_eq, allTm_eq, Bool.and_eq_true, Bool.and_eq_true] at h
  obtain ⟨⟨h1, _⟩, h2, _⟩ := h
  have hk : e.kind < 10 := by
    unfold pnS at h2
    split at h2
    · assumption
    · cases h2
  rw [isFm_eq] at h1
  simp only [Bool.and_eq_true, decide_eq_true_eq] at h1
  obtain ⟨ha, hn, _⟩ := h1
  unfold isNm at hn
  unfold arF at ha
  rcases k_cases e.kind with h | h | h | h | h | h | h | h | h | h | h | h | h | ⟨g1, g2, g3, g4, g5, g6, g7, g8, g9, g10, g11, g12, g13⟩
  case inr.inr.inr.inr.inr.inr.inr.inr.inr.inr.inr.inr.inr =>
    simp only [g1, g2, g3, g4, g5, g6, g7, g8, g9, g10, g11, g12, g13, if_false] at hn
    rw [rg_out _ g1 g2 g3 g4 g5 g6 g7 g8 g9 g10 g11 g12 g13] at hn
    cases hn
  all_goals
    simp only [h, if_true, if_false, Int.reduceEq] at ha
    omega
structure Gr (b : Nat) (J : Wt → Prop) (s s' : CS) : Prop where
  code : s.code.length ≤ s'.code.length ∧ s'.code.length ≤ s.code.length + b
  q : s.q.length ≤ s'.q.length ∧ s'.q.length ≤ s.q.length + b
  nw : ∀ x ∈ s'.q, x ∈ s.q ∨ (J x ∧ 0 ≤ x.pl ∧ x.pl < (s'.code.length : Int))
theorem Gr.refl (b : Nat) (J : Wt → Prop) (s : CS) : Gr b J s s := ⟨⟨Nat.le_refl _, Nat.le_add_right _ _⟩, ⟨Nat.le_refl _, Nat.le_add_right _ _⟩, fun x hx => .inl hx⟩
theorem Gr.trans {b1 b2 : Nat} {J : Wt → Prop} {s1 s2 s3 : CS} (h : Gr b1 J s1 s2) (k : Gr b2 J s2 s3) : Gr (b1 + b2) J s1 s3 := by
  have c1 := h.code; have c2 := k.code; have q1 := h.q; have q2 := k.q
  refine ⟨⟨by omega, by omega⟩, ⟨by omega, by omega⟩, fun x hx => ?_⟩
  rcases k.nw x hx with hx | hx
  · rcases h.nw x hx with hx | ⟨h1, h2, h3⟩
    · exact .inl hx
    · exact .inr ⟨h1, h2, by omega⟩
  · exact .inr hx
theorem Gr.le {b b' : Nat} {J : Wt → Prop} {s s' : CS} (h : Gr b J s s') (hb : b ≤ b') : Gr b' J s s' :=
  ⟨⟨h.code.1, by have := h.code.2; omega⟩, ⟨h.q.1, by have := h.q.2; omega⟩, h.nw⟩
theorem putC_len (s : CS) (op a : Int) : (putC s op a).code.length = s.code.length + 1 := by unfold putC; simp
theorem putC_q (s : CS) (op a : Int) : (putC s op a).q = s.q := rfl
theorem setA_len (s : CS) (k : Nat) (a : Int) : (setA s k a).code.length = s.code.length := by unfold setA; simp
theorem setA_q (s : CS) (k : Nat) (a : Int) : (setA s k a).q = s.q := rfl
theorem addQ_len (s : CS) (x : Wt) : (addQ s x).code.length = s.code.length := rfl
theorem addQ_q (s : CS) (x : Wt) : (addQ s x).q = s.q ++ [x] := rfl
theorem gr_put (s : CS) (op a : Int) (J : Wt → Prop) : Gr 1 J s (putC s op a) :=
  ⟨by rw [putC_len]; omega, by rw [putC_q]; omega, fun x hx => .inl hx⟩
theorem gr_set (s : CS) (k : Nat) (a : Int) (J : Wt → Prop) : Gr 0 J s (setA s k a) :=
  ⟨by rw [setA_len]; omega, by rw [setA_q]; omega, fun x hx => .inl hx⟩
theorem gr_add (s : CS) (x : Wt) (J : Wt → Prop) (h : J x) (h1 : 0 ≤ x.pl) (h2 : x.pl < (s.code.length : Int)) : Gr 1 J s (addQ s x) :=
  ⟨by rw [addQ_len]; omega, by rw [addQ_q, List.length_append]; simp, fun y hy => by
    rw [addQ_q, List.mem_append, List.mem_singleton] at hy
    rcases hy with hy | rfl
    · exact .inl hy
    · exact .inr ⟨h, h1, h2⟩⟩
def WtOk (L : Nat) (x : Wt) : Prop := plT x.body = true ∧ Cov x.nms x.body ∧ szL (tmC x.body) ≤ 2000000 ∧ x.nms.length + 2 * (szL (tmC x.body) + 1) ≤ L
theorem sz1 {e : Tm} (h : e.args.length = 1) : szL (tmC e.args[0]!) + 1 ≤ szL (tmC e) := by
  obtain ⟨k, s, o, n, ty, r, xs⟩ := e
  match xs, h with
  | [a], _ =>
    have h := szL_tm (.mk k s o n ty r [a])
    simp only [mk_args, tmsC, szL_append, List.length_cons] at h
    show szL (tmC a) + 1 ≤ szL (tmC (.mk k s o n ty r [a]))
    omega
theorem sz2 {e : Tm} (h : e.args.length = 2) : szL (tmC e.args[0]!) + szL (tmC e.args[1]!) + 2 ≤ szL (tmC e) := by
  obtain ⟨k, s, o, n, ty, r, xs⟩ := e
  match xs, h with
  | [a, b], _ =>
    have h := szL_tm (.mk k s o n ty r [a, b])
    simp only [mk_args, tmsC, szL_append, List.length_cons] at h
    show szL (tmC a) + szL (tmC b) + 2 ≤ szL (tmC (.mk k s o n ty r [a, b]))
    omega
theorem sz3 {e : Tm} (h : e.args.length = 3) : szL (tmC e.args[0]!) + szL (tmC e.args[1]!) + szL (tmC e.args[2]!) + 3 ≤ szL (tmC e) := by
  obtain ⟨k, s, o, n, ty, r, xs⟩ := e
  match xs, h with
  | [a, b, c], _ =>
    have h := szL_tm (.mk k s o n ty r [a, b, c])
    simp only [mk_args, tmsC, szL_append, List.length_cons] at h
    show szL (tmC a) + szL (tmC b) + szL (tmC c) + 3 ≤ szL (tmC (.mk k s o n ty r [a, b, c]))
    omega
theorem szK {e : Tm} {k : Nat} (h : k < e.args.length) : szL (tmC e.args[k]!) + 1 ≤ szL (tmC e) := by
  have := szL_tms' e.args k h
  rw [szL_tm e]; omega
theorem wt_ok {L : Nat} {pl : Int} {nms : List ByteArray} {b : Tm} (h1 : plT b = true) (h2 : Cov nms b) (h3 : szL (tmC b) ≤ 2000000) (h4 : nms.length + 2 * (szL (tmC b) + 1) ≤ L) : WtOk L ⟨pl, nms, b⟩ := ⟨h1, h2, h3, h4⟩
theorem cov_same {names : List ByteArray} {e : Tm} (h : Cov names e) (hk : e.kind = 4 ∨ e.kind = 5 ∨ e.kind = 7) {i : Nat} (hi : i < e.args.length) : Cov names e.args[i]! := by
  refine h.part (by omega) hi ?_
  unfold bdP
  rw [if_neg (by omega), if_neg (by omega), if_neg (by omega)]; omega
theorem cov_lam {names : List ByteArray} {e : Tm} (h : Cov names e) (hk : e.kind = 6) (hl : e.args.length = 1) : Cov (names ++ [e.name]) e.args[0]! := by
  have := h.bind (by omega) (i := 0) (by omega)
  unfold bdN at this
  rwa [if_pos ⟨hk, hl⟩] at this
theorem cov_rec {names : List ByteArray} {e : Tm} (h : Cov names e) (hk : e.kind = 9) (hl : e.args.length = 1) : Cov (names ++ [e.name, e.other]) e.args[0]! := by
  have := h.bind (by omega) (i := 0) (by omega)
  unfold bdN at this
  rwa [if_neg (by omega), if_neg (by omega), if_pos ⟨hk, hl⟩] at this
theorem cov_let0 {names : List ByteArray} {e : Tm} (h : Cov names e) (hk : e.kind = 8) (hl : e.args.length = 2) : Cov names e.args[0]! := by
  refine h.part (by omega) (by omega) ?_
  unfold bdP
  rw [if_neg (by omega), if_pos ⟨hk, hl⟩]; omega
theorem cov_let1 {names : List ByteArray} {e : Tm} (h : Cov names e) (hk : e.kind = 8) (hl : e.args.length = 2) : Cov (names ++ [e.name]) e.args[1]! := by
  have := h.bind (by omega) (i := 1) (by omega)
  unfold bdN at this
  rwa [if_neg (by omega), if_pos ⟨hk, hl⟩] at this
theorem allF_snoc (fs : List CF) (f : CF) (names : List ByteArray) (s : CS) : allF (fs ++ [f]) names s = f names (allF fs names s) := by unfold allF; rw [List.foldl_append]; rfl
theorem allF_step (e : Tm) (names : List ByteArray) (s : CS) {k : Nat} (h : k < e.args.length) : allF ((e.args.take (k + 1)).map cpT) names s = cpT e.args[k]! names (allF ((e.args.take k).map cpT) names s) := by
  rw [take_snoc e.args k h, List.map_append, List.map_cons, List.map_nil, allF_snoc]
theorem cp_gr (L : Nat) : ∀ e : Tm, szL (tmC e) ≤ 2000000 → ∀ names s, plT e = true → Cov names e → names.length + 2 * (szL (tmC e) + 1) ≤ L → Gr (2 * (szL (tmC e) + 1)) (WtOk L) s (cpT e names s) := by
  refine Tm.ind fun e ih hz names s hp hc hL => ?_
  obtain ⟨hk, k5, k6, k7, k8, k9⟩ := pl_kind hp
  have hpa := pl_args hp
  rw [cpT_eq, cpF]
  by_cases g2 : e.kind = 2
  · rw [if_pos g2]; exact (gr_put ..).le (by omega)
  rw [if_neg g2]
  by_cases g3 : e.kind = 3
  · rw [if_pos g3]; exact (gr_put ..).le (by omega)
  rw [if_neg g3]
  by_cases g1 : e.kind = 1
  · rw [if_pos g1]; exact (gr_put ..).le (by omega)
  rw [if_neg g1]
  by_cases g4 : e.kind = 4
  · rw [if_pos g4]
    have key : ∀ k, k ≤ e.args.length → Gr (2 * (k + szL (tmsC (e.args.take k)))) (WtOk L) s (allF ((e.args.take k).map cpT) names s) := by
      intro k
      induction k with
      | zero => intro _; exact Gr.refl _ _ _
      | succ k ihk =>
        intro hk
        have h1 := ihk (by omega)
        have hs := szK (e := e) (k := k) (by omega)
        have h2 := ih _ (mem_bang (show k < e.args.length by omega)) (by omega) names (allF ((e.args.take k).map cpT) names s) (hpa _ (mem_bang (by omega))) (cov_same hc (.inl g4) (by omega)) (by omega)
        rw [allF_step e names s (by omega)]
        refine (h1.trans h2).le ?_
        rw [take_snoc e.args k (by omega), tmsC_flat, tmsC_flat, flC_app, szL_append, flC_one]
        omega
    have h := key e.args.length (Nat.le_refl _)
    rw [List.take_length] at h
    refine (h.trans (gr_put ..)).le ?_
    rw [szL_tm e]; omega
  rw [if_neg g4]
  by_cases g5 : e.kind = 5
  · have hl := k5 g5
    rw [if_pos g5, ifF]
    rw [map_bang cpT (by omega), map_bang cpT (by omega), map_bang cpT (by omega)]
    have hs := sz3 hl
    have a1 := fun s' => ih _ (mem_bang (show 0 < e.args.length by omega)) (by omega) names s' (hpa _ (mem_bang (by omega))) (cov_same hc (.inr (.inl g5)) (by omega)) (by omega)
    have a2 := fun s' => ih _ (mem_bang (show 1 < e.args.length by omega)) (by omega) names s' (hpa _ (mem_bang (by omega))) (cov_same hc (.inr (.inl g5)) (by omega)) (by omega)
    have a3 := fun s' => ih _ (mem_bang (show 2 < e.args.length by omega)) (by omega) names s' (hpa _ (mem_bang (by omega))) (cov_same hc (.inr (.inl g5)) (by omega)) (by omega)
    exact ((((((a1 _).trans (gr_put ..)).trans (a2 _)).trans (gr_put ..)).trans (gr_set ..)).trans (a3 _) |>.trans (gr_set ..)).le (by omega)
  rw [if_neg g5]
  by_cases g6 : e.kind = 6
  · have hl := k6 g6
    have hs := sz1 hl
    rw [if_pos g6]
    refine ((gr_put s 7 0 _).trans (gr_add _ _ _ (wt_ok (hpa _ (mem_bang (by omega))) (cov_lam hc g6 hl) (by omega) (by simp only [List.length_append, List.length_cons, List.length_nil]; omega)) (Int.natCast_nonneg _) (by rw [putC_len]; show (s.code.length : Int) < _; omega))).le (by omega)
  rw [if_neg g6]
  by_cases g9 : e.kind = 9
  · have hl := k9 g9
    have hs := sz1 hl
    rw [if_pos g9]
    refine ((gr_put s 8 0 _).trans (gr_add _ _ _ (wt_ok (hpa _ (mem_bang (by omega))) (cov_rec hc g9 hl) (by omega) (by simp only [List.length_append, List.length_cons, List.length_nil]; omega)) (Int.natCast_nonneg _) (by rw [putC_len]; show (s.code.length : Int) < _; omega))).le (by omega)
  rw [if_neg g9]
  by_cases g7 : e.kind = 7
  · have hl := k7 g7
    have hs := sz2 hl
    rw [if_pos g7, map_bang cpT (by omega), map_bang cpT (by omega)]
    have a1 := fun s' => ih _ (mem_bang (show 0 < e.args.length by omega)) (by omega) names s' (hpa _ (mem_bang (by omega))) (cov_same hc (.inr (.inr g7)) (by omega)) (by omega)
    have a2 := fun s' => ih _ (mem_bang (show 1 < e.args.length by omega)) (by omega) names s' (hpa _ (mem_bang (by omega))) (cov_same hc (.inr (.inr g7)) (by omega)) (by omega)
    exact (((a1 _).trans (a2 _)).trans (gr_put ..)).le (by omega)
  rw [if_neg g7]
  have g8 : e.kind = 8 := by omega
  have hl := k8 g8
  have hs := sz2 hl
  rw [if_pos g8, map_bang cpT (by omega), map_bang cpT (by omega)]
  have a1 := fun s' => ih _ (mem_bang (show 0 < e.args.length by omega)) (by omega) names s' (hpa _ (mem_bang (by omega))) (cov_let0 hc g8 hl) (by omega)
  have a2 := fun s' => ih _ (mem_bang (show 1 < e.args.length by omega)) (by omega) (names ++ [e.name]) s' (hpa _ (mem_bang (by omega))) (cov_let1 hc g8 hl) (by simp only [List.length_append, List.length_cons, List.length_nil]; omega)
  exact ((((a1 _).trans (gr_put ..)).trans (a2 _)).trans (gr_put ..)).le (by omega)
end Go.Proofs.Ytgjcilainojlfaa
