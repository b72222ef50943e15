/-
  Trees in memory: a node's fields, its parts.
-/
import Derived.Test.YtepjbiffebbelaaTree
namespace Go.Proofs.Ytepjbiffebbelaa
open Go.RowKit

/-- The value v is the term e, read below S. -/
def TmV (w : World) (S : Nat) (e : Tm) (v : Value) : Prop := ∃ vs : List Value, v = .agg vs.toArray ∧ RepVs w S (tmC e) vs
def TyV (w : World) (S : Nat) (e : Ty) (v : Value) : Prop := ∃ vs : List Value, v = .agg vs.toArray ∧ RepVs w S (tyC e) vs

theorem isTys {w : World} {S : Nat} {xs : List Ty} {v : Value} (h : RepV w S (tysD xs) v) : ∃ a c, v = .slice a xs.length c := by
  unfold tysD RepV at h
  obtain ⟨a, c, e, _⟩ := h
  exact ⟨a, c, e⟩
theorem isTms {w : World} {S : Nat} {xs : List Tm} {v : Value} (h : RepV w S (tmsD xs) v) : ∃ a c, v = .slice a xs.length c := by
  unfold tmsD RepV at h
  obtain ⟨a, c, e, _⟩ := h
  exact ⟨a, c, e⟩
theorem TmV.fields0 {w : World} {S : Nat} {e : Tm} {v : Value} (h : TmV w S e v) :
    ∃ vt vr va, v = .agg #[.int .i64 e.kind, .string e.name, .string e.other, .int .i64 e.n, .int .i64 e.ty.kind, vt, .int .i64 e.res.kind, vr, va] ∧
      RepV w S (tysD e.ty.args) vt ∧ RepV w S (tysD e.res.args) vr ∧ RepV w S (tmsD e.args) va := by
  obtain ⟨vs, rfl, h⟩ := h
  rw [tmC_eq] at h
  unfold tysD tmsD at h
  simp only [RepVs] at h
  obtain ⟨_, _, rfl, h0, _, _, rfl, h1, _, _, rfl, h2, _, _, rfl, h3, _, _, rfl, h4, vt, _, rfl, h5, _, _, rfl, h6, vr, _, rfl, h7, va, _, rfl, h8, rfl⟩ := h
  unfold RepV at h0 h1 h2 h3 h4 h6
  subst h0 h1 h2 h3 h4 h6
  exact ⟨vt, vr, va, rfl, h5, h7, h8⟩
theorem TmV.fields {w : World} {S : Nat} {e : Tm} {v : Value} (h : TmV w S e v) :
    ∃ ta tc ra rc aa ac, v = .agg #[.int .i64 e.kind, .string e.name, .string e.other, .int .i64 e.n, .int .i64 e.ty.kind, .slice ta e.ty.args.length tc, .int .i64 e.res.kind, .slice ra e.res.args.length rc, .slice aa e.args.length ac] ∧
      RepV w S (tysD e.ty.args) (.slice ta e.ty.args.length tc) ∧ RepV w S (tysD e.res.args) (.slice ra e.res.args.length rc) ∧ RepV w S (tmsD e.args) (.slice aa e.args.length ac) := by
  obtain ⟨vt, vr, va, rfl, h5, h7, h8⟩ := h.fields0
  obtain ⟨ta, tc, rfl⟩ := isTys h5
  obtain ⟨ra, rc, rfl⟩ := isTys h7
  obtain ⟨aa, ac, rfl⟩ := isTms h8
  exact ⟨ta, tc, ra, rc, aa, ac, rfl, h5, h7, h8⟩
theorem TmV.mk' {w : World} {S : Nat} {e : Tm} {vt vr va : Value} (h5 : RepV w S (tysD e.ty.args) vt) (h7 : RepV w S (tysD e.res.args) vr) (h8 : RepV w S (tmsD e.args) va) :
    TmV w S e (.agg #[.int .i64 e.kind, .string e.name, .string e.other, .int .i64 e.n, .int .i64 e.ty.kind, vt, .int .i64 e.res.kind, vr, va]) := by
  refine ⟨[.int .i64 e.kind, .string e.name, .string e.other, .int .i64 e.n, .int .i64 e.ty.kind, vt, .int .i64 e.res.kind, vr, va], rfl, ?_⟩
  rw [tmC_eq]
  simp only [RepVs]
  exact ⟨_, _, rfl, by unfold RepV; rfl, _, _, rfl, by unfold RepV; rfl, _, _, rfl, by unfold RepV; rfl, _, _, rfl, by unfold RepV; rfl, _, _, rfl, by unfold RepV; rfl, _, _, rfl, h5, _, _, rfl, by unfold RepV; rfl, _, _, rfl, h7, _, _, rfl, h8, rfl⟩
theorem TyV.fields0 {w : World} {S : Nat} {e : Ty} {v : Value} (h : TyV w S e v) : ∃ va, v = .agg #[.int .i64 e.kind, va] ∧ RepV w S (tysD e.args) va := by
  obtain ⟨vs, rfl, h⟩ := h
  rw [tyC_eq] at h
  unfold tysD at h
  simp only [RepVs] at h
  obtain ⟨_, _, rfl, h0, va, _, rfl, h1, rfl⟩ := h
  unfold RepV at h0
  subst h0
  exact ⟨va, rfl, h1⟩
theorem TyV.fields {w : World} {S : Nat} {e : Ty} {v : Value} (h : TyV w S e v) : ∃ aa ac, v = .agg #[.int .i64 e.kind, .slice aa e.args.length ac] ∧ RepV w S (tysD e.args) (.slice aa e.args.length ac) := by
  obtain ⟨va, rfl, h1⟩ := h.fields0
  obtain ⟨aa, ac, rfl⟩ := isTys h1
  exact ⟨aa, ac, rfl, h1⟩
theorem TyV.mk' {w : World} {S : Nat} {e : Ty} {va : Value} (h : RepV w S (tysD e.args) va) : TyV w S e (.agg #[.int .i64 e.kind, va]) := by
  refine ⟨[.int .i64 e.kind, va], rfl, ?_⟩
  rw [tyC_eq]
  simp only [RepVs]
  exact ⟨_, _, rfl, by unfold RepV; rfl, _, _, rfl, h, rfl⟩
theorem TmV.later {w w' : World} {S S' : Nat} {e : Tm} {v : Value} (h : TmV w S e v) (hb : Below S w w') (hS : S ≤ S') : TmV w' S' e v := by
  obtain ⟨vs, hv, h⟩ := h
  exact ⟨vs, hv, h.later hb hS⟩
theorem TyV.later {w w' : World} {S S' : Nat} {e : Ty} {v : Value} (h : TyV w S e v) (hb : Below S w w') (hS : S ≤ S') : TyV w' S' e v := by
  obtain ⟨vs, hv, h⟩ := h
  exact ⟨vs, hv, h.later hb hS⟩

/-- A list of terms in memory: its shape; and each term's cells, asked for where there is one. -/
theorem tms_slc {w : World} {S : Nat} {xs : List Tm} {v : Value} (h : RepV w S (tmsD xs) v) :
    ∃ a cap, v = .slice a xs.length cap ∧ xs.length ≤ cap ∧ cap ≤ maxLen ∧
      ∀ k (hk : k < xs.length), ∃ b off ta tc ra rc aa ac, a = some ⟨b, off, none⟩ ∧ b < S ∧
        w.cell? ⟨b, off + k * 9, none⟩ = some (.int .i64 xs[k].kind) ∧ w.cell? ⟨b, off + k * 9 + 1, none⟩ = some (.string xs[k].name) ∧ w.cell? ⟨b, off + k * 9 + 2, none⟩ = some (.string xs[k].other) ∧
        w.cell? ⟨b, off + k * 9 + 3, none⟩ = some (.int .i64 xs[k].n) ∧ w.cell? ⟨b, off + k * 9 + 4, none⟩ = some (.int .i64 xs[k].ty.kind) ∧ w.cell? ⟨b, off + k * 9 + 5, none⟩ = some (.slice ta xs[k].ty.args.length tc) ∧
        w.cell? ⟨b, off + k * 9 + 6, none⟩ = some (.int .i64 xs[k].res.kind) ∧ w.cell? ⟨b, off + k * 9 + 7, none⟩ = some (.slice ra xs[k].res.args.length rc) ∧ w.cell? ⟨b, off + k * 9 + 8, none⟩ = some (.slice aa xs[k].args.length ac) ∧
        RepV w S (tysD xs[k].ty.args) (.slice ta xs[k].ty.args.length tc) ∧ RepV w S (tysD xs[k].res.args) (.slice ra xs[k].res.args.length rc) ∧ RepV w S (tmsD xs[k].args) (.slice aa xs[k].args.length ac) := by
  obtain ⟨a, cap, rfl, h2, h3, h4, _⟩ := h.slc
  refine ⟨a, cap, rfl, h2, h3, fun k hk => ?_⟩
  obtain ⟨b, off, rv, ha, hb, hc, hr⟩ := h.row k hk
  rw [tmsC_row xs k hk] at hr
  obtain ⟨ta, tc, ra, rc, aa, ac, e, r5, r7, r8⟩ := TmV.fields ⟨rv, rfl, hr⟩
  injection e with e
  have e2 : rv = [.int .i64 xs[k].kind, .string xs[k].name, .string xs[k].other, .int .i64 xs[k].n, .int .i64 xs[k].ty.kind, .slice ta xs[k].ty.args.length tc, .int .i64 xs[k].res.kind, .slice ra xs[k].res.args.length rc, .slice aa xs[k].args.length ac] := by
    have := congrArg Array.toList e; simpa using this
  subst e2
  have c0 := hc 0 (by simp)
  have c1 := hc 1 (by simp)
  have c2 := hc 2 (by simp)
  have c3 := hc 3 (by simp)
  have c4 := hc 4 (by simp)
  have c5 := hc 5 (by simp)
  have c6 := hc 6 (by simp)
  have c7 := hc 7 (by simp)
  have c8 := hc 8 (by simp)
  exact ⟨b, off, ta, tc, ra, rc, aa, ac, ha, hb, c0, c1, c2, c3, c4, c5, c6, c7, c8, r5, r7, r8⟩
theorem tys_slc {w : World} {S : Nat} {xs : List Ty} {v : Value} (h : RepV w S (tysD xs) v) :
    ∃ a cap, v = .slice a xs.length cap ∧ xs.length ≤ cap ∧ cap ≤ maxLen ∧
      ∀ k (hk : k < xs.length), ∃ b off aa ac, a = some ⟨b, off, none⟩ ∧ b < S ∧
        w.cell? ⟨b, off + k * 2, none⟩ = some (.int .i64 xs[k].kind) ∧ w.cell? ⟨b, off + k * 2 + 1, none⟩ = some (.slice aa xs[k].args.length ac) ∧ RepV w S (tysD xs[k].args) (.slice aa xs[k].args.length ac) := by
  obtain ⟨a, cap, rfl, h2, h3, h4, _⟩ := h.slc
  refine ⟨a, cap, rfl, h2, h3, fun k hk => ?_⟩
  obtain ⟨b, off, rv, ha, hb, hc, hr⟩ := h.row k hk
  rw [tysC_row xs k hk] at hr
  obtain ⟨aa, ac, e, r1⟩ := TyV.fields ⟨rv, rfl, hr⟩
  injection e with e
  have e2 : rv = [.int .i64 xs[k].kind, .slice aa xs[k].args.length ac] := by
    have := congrArg Array.toList e; simpa using this
  subst e2
  exact ⟨b, off, aa, ac, ha, hb, hc 0 (by simp), hc 1 (by simp), r1⟩
theorem tm_rep {W : World} {S : Nat} {e : Tm} {vs : List Value} (hf : RepVs W S [.int e.kind, .str e.name, .str e.other, .int e.n, .int e.ty.kind, tysD e.ty.args, .int e.res.kind, tysD e.res.args, tmsD e.args] vs) :
    TmV W S e (.agg vs.toArray) := ⟨vs, rfl, by rw [tmC_eq]; exact hf⟩
theorem ty_rep {W : World} {S : Nat} {e : Ty} {vs : List Value} (hf : RepVs W S [.int e.kind, tysD e.args] vs) : TyV W S e (.agg vs.toArray) := ⟨vs, rfl, by rw [tyC_eq]; exact hf⟩
theorem tm_parts {w : World} {S : Nat} {e : Tm} {vs : List Value} (hcf : ConfL (tmC e) K.tm.fields) (hr : RepVs w S (tmC e) vs) (hsb : StrBL (tmC e)) :
    ∃ v5 v7 v8, vs = [.int .i64 e.kind, .string e.name, .string e.other, .int .i64 e.n, .int .i64 e.ty.kind, v5, .int .i64 e.res.kind, v7, v8] ∧
      RepV w S (tysD e.ty.args) v5 ∧ RepV w S (tysD e.res.args) v7 ∧ RepV w S (tmsD e.args) v8 ∧ Conf (tysD e.ty.args) (.sl .ty) ∧ Conf (tysD e.res.args) (.sl .ty) ∧ Conf (tmsD e.args) (.sl .tm) ∧
      StrB (tysD e.ty.args) ∧ StrB (tysD e.res.args) ∧ StrB (tmsD e.args) ∧ e.name.size ≤ maxLen ∧ e.other.size ≤ maxLen := by
  obtain ⟨v5, v7, v8, e1, r5, r7, r8⟩ := TmV.fields0 ⟨vs, rfl, hr⟩
  injection e1 with e1
  have e2 := congrArg Array.toList e1
  simp only at e2
  rw [tmC_eq] at hcf hsb
  have c5 := ConfL.mem _ _ hcf 5 (by simp) (by simp [K.fields])
  have c7 := ConfL.mem _ _ hcf 7 (by simp) (by simp [K.fields])
  have c8 := ConfL.mem _ _ hcf 8 (by simp) (by simp [K.fields])
  simp only [StrBL, StrB] at hsb
  exact ⟨v5, v7, v8, e2, r5, r7, r8, c5, c7, c8, hsb.2.2.2.2.2.1, hsb.2.2.2.2.2.2.2.1, hsb.2.2.2.2.2.2.2.2.1, hsb.2.1, hsb.2.2.1⟩
theorem cell_later {w w' : World} {B : Nat} (hb : Below B w w') {b o : Nat} {v : Value} (h : w.cell? ⟨b, o, none⟩ = some v) (hB : b < B) : w'.cell? ⟨b, o, none⟩ = some v :=
  (hb.cell (p := ⟨b, o, none⟩) hB).trans h
end Go.Proofs.Ytepjbiffebbelaa
