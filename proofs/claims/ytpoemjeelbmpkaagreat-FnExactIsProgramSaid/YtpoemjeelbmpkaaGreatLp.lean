/-
  Contracts of the pictures' form for the laws' own helpers.
-/
import Derived.Test.YtpoemjeelbmpkaaGreatDat
import Derived.Test.YtpoemjeelbmpkaaGreatUMark
namespace Go.Proofs.YtpoemjeelbmpkaaGreat
open Go.RowKit
set_option linter.unusedVariables false
set_option linter.unusedSimpArgs false
def FnOk (P : Program) (f : FuncId) : Prop := ∃ fn, P.funcs[f]? = some fn ∧ fn.body.isNone = false ∧ (fn.name == "runtime.NumGoroutine") = false
theorem con_U1 {P : Program} {f : FuncId} {ps : List PD} {d : D} (hf : FnOk P f) (h : ∀ w us, RepPDs w ps us → Calls P f us.toArray w fun e w' => ∃ u, e = .returned u ∧ Fresh w' w.heap.size d u ∧ Below w.heap.size w w') : Con P f ps [.one d] :=
  ⟨hf, fun w us _ hu => (h w us hu).mono fun e w' ⟨u, he, hfr, hb⟩ => ⟨hb, [u], he, by simpa [flatD] using FreshL.one hfr⟩⟩
theorem con_Uag {P : Program} {f : FuncId} {ps : List PD} {ds : List D} (hf : FnOk P f) (h : ∀ w us, RepPDs w ps us → Calls P f us.toArray w fun e w' => ∃ vs, e = .returned (.agg vs.toArray) ∧ FreshL w' w.heap.size ds vs ∧ Below w.heap.size w w') : Con P f ps [.ag ds] :=
  ⟨hf, fun w us _ hu => (h w us hu).mono fun e w' ⟨vs, he, hfr, hb⟩ => by
    have hl : vs.length = ds.length := by obtain ⟨fp, ho, _⟩ := hfr; exact OwnVs.len _ _ _ ho
    exact ⟨hb, vs, by rw [he]; simp only [packV, retV, ← hl, List.take_length], by simpa [flatD] using hfr⟩⟩
theorem fr_int (w : World) (B : Nat) (n : Int) : Fresh w B (.int n) (.int .i64 n) := ⟨[], by unfold OwnV; exact ⟨rfl, rfl⟩, by simp, by simp⟩
theorem fr_bool (w : World) (B : Nat) (n : Bool) : Fresh w B (.bool n) (.bool n) := ⟨[], by unfold OwnV; exact ⟨rfl, rfl⟩, by simp, by simp⟩
theorem rpd_c {w : World} {p : PD} {ps : List PD} {us : List Value} (h : RepPDs w (p :: ps) us) : ∃ v r, us = v :: r ∧ RepPD w p v ∧ RepPDs w ps r := by unfold RepPDs at h; exact h
theorem rpd_n {w : World} {us : List Value} (h : RepPDs w [] us) : us = [] := by unfold RepPDs at h; exact h
theorem rpd_iint {w : World} {n : Int} {v : Value} (h : RepPD w (.one (.int n)) v) : v = .int .i64 n := by unfold RepPD RepV at h; exact h
theorem rpd_iag {w : World} {ds : List D} {v : Value} (h : RepPD w (.ag ds) v) : ∃ vs, v = .agg vs.toArray ∧ RepVs w w.heap.size ds vs := by unfold RepPD at h; exact h
theorem rpd_agint {w : World} {ds : List D} {n : Int} {us : List Value} (h : RepPDs w [.ag ds, .one (.int n)] us) : ∃ vs, us = [.agg vs.toArray, .int .i64 n] ∧ RepVs w w.heap.size ds vs := by
  obtain ⟨v, r, rfl, h1, h2⟩ := rpd_c h
  obtain ⟨v2, r2, rfl, h3, h4⟩ := rpd_c h2
  obtain rfl := rpd_n h4
  obtain rfl := rpd_iint h3
  obtain ⟨vs, rfl, h5⟩ := rpd_iag h1
  exact ⟨vs, rfl, h5⟩
theorem rpd_ag1 {w : World} {ds : List D} {us : List Value} (h : RepPDs w [.ag ds] us) : ∃ vs, us = [.agg vs.toArray] ∧ RepVs w w.heap.size ds vs := by
  obtain ⟨v, r, rfl, h1, h2⟩ := rpd_c h
  obtain rfl := rpd_n h2
  obtain ⟨vs, rfl, h5⟩ := rpd_iag h1
  exact ⟨vs, rfl, h5⟩
theorem rpd_ag2 {w : World} {ds es : List D} {us : List Value} (h : RepPDs w [.ag ds, .ag es] us) : ∃ vs xs, us = [.agg vs.toArray, .agg xs.toArray] ∧ RepVs w w.heap.size ds vs ∧ RepVs w w.heap.size es xs := by
  obtain ⟨v, r, rfl, h1, h2⟩ := rpd_c h
  obtain ⟨v2, r2, rfl, h3, h4⟩ := rpd_c h2
  obtain rfl := rpd_n h4
  obtain ⟨vs, rfl, h5⟩ := rpd_iag h1
  obtain ⟨xs, rfl, h6⟩ := rpd_iag h3
  exact ⟨vs, xs, rfl, h5, h6⟩
/-- Plain facts of a struct that came in. -/
def In (ds : List D) (F : List CK) : Prop := ConfL ds F ∧ StrBL ds

theorem lp_sz {P : Program} {f : FuncId} {ds : List D} {k r : Int} (hf : FnOk P f) (h : ∀ w vs, RepVs w w.heap.size ds vs → Calls P f #[.agg vs.toArray, .int .i64 k] w fun e w' => e = .returned (.int .i64 r) ∧ Below w.heap.size w w') : Con P f [.ag ds, .one (.int k)] [.one (.int r)] :=
  con_U1 hf fun w us hu => by
    obtain ⟨vs, rfl, hr⟩ := rpd_agint hu
    refine (h w vs hr).mono ?_
    rintro e w' ⟨rfl, hb⟩
    exact ⟨_, rfl, fr_int _ _ _, hb⟩
theorem lp_to {P : Program} {f : FuncId} {ds : List D} (hf : FnOk P f) (h : ∀ w vs, RepVs w w.heap.size ds vs → Calls P f #[.agg vs.toArray] w fun e w' => ∃ us, e = .returned (.agg us.toArray) ∧ FreshL w' w.heap.size ds us ∧ Below w.heap.size w w') : Con P f [.ag ds] [.ag ds] :=
  con_Uag hf fun w us hu => by
    obtain ⟨vs, rfl, hr⟩ := rpd_ag1 hu
    exact h w vs hr
theorem lp_eq {P : Program} {f : FuncId} {ds : List D} (hf : FnOk P f) (h : ∀ w vs us, RepVs w w.heap.size ds vs → RepVs w w.heap.size ds us → Calls P f #[.agg vs.toArray, .agg us.toArray] w fun e w' => e = .returned (.bool true) ∧ Below w.heap.size w w') : Con P f [.ag ds, .ag ds] [.one (.bool true)] :=
  con_U1 hf fun w us hu => by
    obtain ⟨vs, xs, rfl, hr, hr'⟩ := rpd_ag2 hu
    refine (h w vs xs hr hr').mono ?_
    rintro e w' ⟨rfl, hb⟩
    exact ⟨_, rfl, fr_bool _ _ _, hb⟩
theorem own1 {w : World} {d : D} {vs : List Value} {fp : List Nat} (h : OwnVs w [d] vs fp) : ∃ v, vs = [v] ∧ OwnV w d v fp := by
  unfold OwnVs OwnVs at h
  obtain ⟨v, r, f1, f2, rfl, rfl, h1, rfl, rfl⟩ := h
  exact ⟨v, rfl, by simpa using h1⟩
/-- What a law says. -/
theorem lp_top {P : Program} {f : FuncId} {ps : List PD} (h : Con P f ps [.one (.bool true)]) {w : World} {us : List Value} (hu : RepPDs w ps us) (hg : GI w := by first | assumption | exact ⟨fun k hk => by simp [GBl] at hk, trivial⟩) : Calls P f us.toArray w fun e w' => e = .returned (.bool true) ∧ Below w.heap.size w w' :=
  (h.2 w us hg hu).mono fun e w' ⟨hb, vs, he, fp, ho, hn, hB⟩ => by
    obtain ⟨v, rfl, ho1⟩ := own1 (show OwnVs w' [.bool true] vs fp from ho)
    unfold OwnV at ho1
    exact ⟨by rw [he, ho1.1]; rfl, hb⟩
end Go.Proofs.YtpoemjeelbmpkaaGreat
