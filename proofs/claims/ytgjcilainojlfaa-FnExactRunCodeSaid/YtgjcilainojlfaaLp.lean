/-
  Contracts of the pictures' form for the laws' own helpers.
-/
import Derived.Test.YtgjcilainojlfaaDat
import Derived.Test.YtgjcilainojlfaaUMark
namespace Go.Proofs.Ytgjcilainojlfaa
open Go.RowKit
set_option linter.unusedVariables false
set_option linter.unusedSimpArgs false
def FnOk (P : Program) (f : FuncId) : Prop := ∃ fn, P.funcs[f]? = some fn ∧ fn.body.isNone = false ∧ (fn.name == "runtime.NumGoroutine") = false
theorem con_U1 {P : Program} {f : FuncId} {ps : List PD} {d : D} (hf : FnOk P f) (h : ∀ w us, RepPDs w ps us → Calls P f us.toArray w fun e w' => ∃ u, e = .returned u ∧ Fresh w' w.heap.size d u ∧ Below w.heap.size w w') : Con P f ps [.one d] :=
  ⟨hf, fun w us _ hu => (h w us hu).mono fun e w' ⟨u, he, hfr, hb⟩ => ⟨hb, [u], he, by simpa [flatD] using FreshL.one hfr⟩⟩
theorem fr_int (w : World) (B : Nat) (n : Int) : Fresh w B (.int n) (.int .i64 n) := ⟨[], by unfold OwnV; exact ⟨rfl, rfl⟩, by simp, by simp⟩
theorem fr_bool (w : World) (B : Nat) (n : Bool) : Fresh w B (.bool n) (.bool n) := ⟨[], by unfold OwnV; exact ⟨rfl, rfl⟩, by simp, by simp⟩
theorem rpd_c {w : World} {p : PD} {ps : List PD} {us : List Value} (h : RepPDs w (p :: ps) us) : ∃ v r, us = v :: r ∧ RepPD w p v ∧ RepPDs w ps r := by unfold RepPDs at h; exact h
theorem rpd_n {w : World} {us : List Value} (h : RepPDs w [] us) : us = [] := by unfold RepPDs at h; exact h
theorem rpd_iint {w : World} {n : Int} {v : Value} (h : RepPD w (.one (.int n)) v) : v = .int .i64 n := by unfold RepPD RepV at h; exact h
theorem rpd_ione {w : World} {d : D} {v : Value} (h : RepPD w (.one d) v) : RepV w w.heap.size d v := by unfold RepPD at h; exact h
theorem rpd_oneint {w : World} {d : D} {n : Int} {us : List Value} (h : RepPDs w [.one d, .one (.int n)] us) : ∃ v, us = [v, .int .i64 n] ∧ RepV w w.heap.size d v := by
  obtain ⟨v, r, rfl, h1, h2⟩ := rpd_c h
  obtain ⟨v2, r2, rfl, h3, h4⟩ := rpd_c h2
  obtain rfl := rpd_n h4
  obtain rfl := rpd_iint h3
  exact ⟨v, rfl, rpd_ione h1⟩
theorem rpd_one1 {w : World} {d : D} {us : List Value} (h : RepPDs w [.one d] us) : ∃ v, us = [v] ∧ RepV w w.heap.size d v := by
  obtain ⟨v, r, rfl, h1, h2⟩ := rpd_c h
  obtain rfl := rpd_n h2
  exact ⟨v, rfl, rpd_ione h1⟩
theorem rpd_one2 {w : World} {d e : D} {us : List Value} (h : RepPDs w [.one d, .one e] us) : ∃ v x, us = [v, x] ∧ RepV w w.heap.size d v ∧ RepV w w.heap.size e x := by
  obtain ⟨v, r, rfl, h1, h2⟩ := rpd_c h
  obtain ⟨v2, r2, rfl, h3, h4⟩ := rpd_c h2
  obtain rfl := rpd_n h4
  exact ⟨v, v2, rfl, rpd_ione h1, rpd_ione h3⟩
def Inn (d : D) (k : K) : Prop := Conf d (.sl k) ∧ StrB d

theorem lp_sz1 {P : Program} {f : FuncId} {d : D} {k r : Int} (hf : FnOk P f) (h : ∀ w v, RepV w w.heap.size d v → Calls P f #[v, .int .i64 k] w fun e w' => e = .returned (.int .i64 r) ∧ Below w.heap.size w w') : Con P f [.one d, .one (.int k)] [.one (.int r)] :=
  con_U1 hf fun w us hu => by
    obtain ⟨v, rfl, hr⟩ := rpd_oneint hu
    refine (h w v hr).mono ?_
    rintro e w' ⟨rfl, hb⟩
    exact ⟨_, rfl, fr_int _ _ _, hb⟩
theorem lp_to1 {P : Program} {f : FuncId} {d : D} (hf : FnOk P f) (h : ∀ w v, RepV w w.heap.size d v → Calls P f #[v] w fun e w' => ∃ a n c, e = .returned (.slice a n c) ∧ Fresh w' w.heap.size d (.slice a n c) ∧ Below w.heap.size w w') : Con P f [.one d] [.one d] :=
  con_U1 hf fun w us hu => by
    obtain ⟨v, rfl, hr⟩ := rpd_one1 hu
    refine (h w v hr).mono ?_
    rintro e w' ⟨a, n, c, rfl, hf', hb⟩
    exact ⟨_, rfl, hf', hb⟩
theorem lp_eq1 {P : Program} {f : FuncId} {d : D} (hf : FnOk P f) (h : ∀ w v u, RepV w w.heap.size d v → RepV w w.heap.size d u → Calls P f #[v, u] w fun e w' => e = .returned (.bool true) ∧ Below w.heap.size w w') : Con P f [.one d, .one d] [.one (.bool true)] :=
  con_U1 hf fun w us hu => by
    obtain ⟨v, x, rfl, hr, hr'⟩ := rpd_one2 hu
    refine (h w v x hr hr').mono ?_
    rintro e w' ⟨rfl, hb⟩
    exact ⟨_, rfl, fr_bool _ _ _, hb⟩
theorem own1 {w : World} {d : D} {vs : List Value} {fp : List Nat} (h : OwnVs w [d] vs fp) : ∃ v, vs = [v] ∧ OwnV w d v fp := by
  unfold OwnVs OwnVs at h
  obtain ⟨v, r, f1, f2, rfl, rfl, h1, rfl, rfl⟩ := h
  exact ⟨v, rfl, by simpa using h1⟩
/-- What a law says. -/
theorem lp_top {P : Program} {f : FuncId} {ps : List PD} (h : Con P f ps [.one (.bool true)]) {w : World} {us : List Value} (hu : RepPDs w ps us) (hg : GI w := by first | assumption | exact ⟨fun k hk => by simp [GBl] at hk, trivial⟩) : Calls P f us.toArray w fun e w' => e = .returned (.bool true) ∧ Below w.heap.size w w' :=
  (h.2 w us hg hu).mono fun e w' ⟨hb, vs, he, fp, ho, hn, hB⟩ => by
    obtain ⟨v, rfl, ho1⟩ := own1 (show OwnVs w' [.bool true] vs fp from ho)
    unfold OwnV at ho1
    exact ⟨by rw [he, ho1.1]; rfl, hb⟩
end Go.Proofs.Ytgjcilainojlfaa
