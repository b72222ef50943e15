/-
  The operations that only compute, on the abstract picture.
-/
import Derived.Test.YtaeeipojnfooeaaAI1
namespace Go.Proofs.Ytaeeipojnfooeaa
open Go.RowKit
set_option linter.unusedVariables false
set_option linter.unusedSimpArgs false

/-! ## Types -/
/-- The size of a struct's or an array's type; none: one cell. -/
def tAgg (P : Program) (t : TypeId) : Option (Option Nat) :=
  match P.underlying t, P.info? t with
  | some (.struct _), some i => some (some i.size)
  | some (.array _ _), some i => some (some i.size)
  | some _, some i => if i.size = 1 then some none else none
  | _, _ => none
def tElem (P : Program) (t : TypeId) : Option (TypeId × Nat) :=
  match P.underlying t with
  | some (.slice e) => (P.info? e).map fun i => (e, i.size)
  | _ => none
def tFld (P : Program) (t : TypeId) (f : Nat) : Option (Nat × Nat) :=
  match P.underlying t with
  | some (.struct fs) => match fs[f]? with
    | some x => (P.info? x.type).map fun i => (x.offset, i.size)
    | none => none
  | _ => none
def tKind (P : Program) (t : TypeId) : Nat :=
  match P.underlying t with
  | some .string => 1
  | some (.slice _) => 2
  | some (.int .i64) => 3
  | some (.int .u8) => 4
  | _ => 0

/-- What a computation yields now, and in every world in which the blocks at hand are as they are. -/
def Yl {α : Type} (P : Program) (w : World) (x : Sem α) (v : α) : Prop := ∀ w', Below w.heap.size w w' → x.run P w' = .ok v w'

/-! ## Loads -/
def rowD (d : D) (k : Nat) : List D := match d with | .rows sz _ cs => rowAt sz cs k | _ => []
/-- A cell's value as a picture, from memory that is not the activation's. -/
def avB : D → AV
  | .int n => .i n
  | .bool b => .b b
  | .str s => .s s
  | d => .br d
def avO (o : Nat) : D → AV
  | .int n => .i n
  | .bool b => .b b
  | .str s => .s s
  | d => .sp o d
def xSub (l : List AV) (off : Nat) : Option Nat → (AV → Prop) → Prop
  | none, k => match l[off]? with | some v => k v | none => False
  | some n, k => off + n ≤ l.length ∧ k (.ag ((l.drop off).take n))
def xLoad (P : Program) (s : AS) (T : TypeId) (x : AV) (k : AV → Prop) : Prop :=
  match tAgg P T with
  | none => False
  | some m => match x with
    | .bx b off => match look s.bx b with
      | some cs => xSub cs off m k
      | none => False
    | .eb d kk off => xSub ((rowD d kk).map avB) off m k
    | .eo o kk off => match s.owf o with
      | some I => xSub ((rowD I.d kk).map (avO o)) off m k
      | none => False
    | _ => False
theorem cell_run {P : Program} {w : World} {b o : Nat} {v : Value} (h : w.cell? ⟨b, o, none⟩ = some v) (m : Mode) : (load ⟨b, o, none⟩ m).run P w = .ok v w := by
  simp [load, Sem.run, h]
theorem add_addr (b o n : Nat) : (⟨b, o, none⟩ : Addr).add n = ⟨b, o + n, none⟩ := by
  unfold Addr.add; split <;> simp_all
theorem loadCells_run {P : Program} {w : World} {b o : Nat} : ∀ (vs : List Value) (i : Nat) (acc : Array Value), (∀ j (h : j < vs.length), w.cell? ⟨b, o + i + j, none⟩ = some vs[j]) →
    (loadCellsFrom ⟨b, o, none⟩ i vs.length acc).run P w = .ok (acc ++ vs.toArray) w
  | [], i, acc, h => by simp [loadCellsFrom, Sem.run_pure]
  | v :: vs, i, acc, h => by
    have h0 := h 0 (by simp)
    have hr := loadCells_run (P := P) vs (i + 1) (acc.push v) fun j hj => by
      have := h (j + 1) (by simpa using hj)
      simpa [Nat.add_assoc, Nat.add_comm 1 j] using this
    simp only [List.length_cons, loadCellsFrom, Sem.run_bind, add_addr]
    rw [cell_run (by simpa using h0)]
    simp only [Result.andThen_ok]
    rw [hr]
    simp
/-- A load of cells that are known. -/
theorem loadAt_run {P : Program} {w : World} {T : TypeId} {m : Option Nat} (ht : tAgg P T = some m) {b o : Nat} {vs : List Value} (hc : ∀ j (h : j < vs.length), w.cell? ⟨b, o + j, none⟩ = some vs[j])
    (v : Value) (hv : match m with | none => vs = [v] | some n => vs.length = n ∧ v = .agg vs.toArray) : (Instr.loadAt T (.pointer (some ⟨b, o, none⟩))).run P w = .ok v w := by
  unfold tAgg at ht
  have hagg : (isAgg T).run P w = .ok m.isSome w := by
    unfold isAgg
    simp only [underlying, program, Sem.run_bind, Sem.run, Result.andThen_ok]
    split at ht
    · rename_i h1 h2; simp at ht; subst ht; rw [h1]; simp [Sem.run_pure, Sem.run]
    · rename_i h1 h2; simp at ht; subst ht; rw [h1]; simp [Sem.run_pure, Sem.run]
    · rename_i d i h1 h2 h3 h4
      split at ht
      · simp at ht; subst ht; rw [h3]
        simp only [Sem.run]
        cases d <;> simp_all [Sem.run_pure, Sem.run]
      · cases ht
    · cases ht
  unfold Instr.loadAt Instr.sureAddr loadVar
  simp only [Sem.run_bind, Sem.run_pure, Result.andThen_ok, hagg]
  cases m with
  | none =>
    simp only at hv
    subst hv
    simp only [Option.isSome_none, Bool.false_eq_true, if_false]
    exact cell_run (by simpa using hc 0 (by simp)) _
  | some n =>
    obtain ⟨hl, rfl⟩ := hv
    have hsz : (sizeOf T).run P w = .ok n w := by
      unfold sizeOf typeInfo
      simp only [program, Sem.run_bind, Sem.run, Result.andThen_ok]
      split at ht
      · rename_i h1 h2; simp at ht; subst ht; rw [h2]; simp [Sem.run_pure, Sem.run]
      · rename_i h1 h2; simp at ht; subst ht; rw [h2]; simp [Sem.run_pure, Sem.run]
      · split at ht <;> simp at ht
      · cases ht
    simp only [Option.isSome_some, if_true, Sem.run_bind, hsz, Result.andThen_ok, loadCells]
    subst hl
    rw [loadCells_run vs 0 #[] (by simpa using hc)]
    simp [Sem.run_pure]
theorem avB_ok {base nx : Nat} {G : Gh} {w : World} {owf : Nat → Option OwnI} : ∀ {d : D} {v : Value}, RepP w (· < base) d v → RV base G w owf nx (avB d) v
  | .int n, v, h => by unfold RepP at h; unfold avB RV; exact h
  | .bool n, v, h => by unfold RepP at h; unfold avB RV; exact h
  | .str n, v, h => by unfold RepP at h; unfold avB RV; exact h
  | .rows sz n cs, v, h => by unfold avB RV; exact h
theorem avO_ok {base nx : Nat} {G : Gh} {w : World} {owf : Nat → Option OwnI} {o : Nat} (ho : o < nx) : ∀ {d : D} {v : Value}, RepP w (fun k => k < base ∨ k ∈ G.B o) d v → RV base G w owf nx (avO o d) v
  | .int n, v, h => by unfold RepP at h; unfold avO RV; exact h
  | .bool n, v, h => by unfold RepP at h; unfold avO RV; exact h
  | .str n, v, h => by unfold RepP at h; unfold avO RV; exact h
  | .rows sz n cs, v, h => by unfold avO RV; exact ⟨ho, by obtain ⟨a, c, e, _⟩ := h.shape; rw [e]; rfl, fun _ _ => h⟩
theorem RVs.of_rep {base nx : Nat} {G : Gh} {w : World} {owf : Nat → Option OwnI} {S : Nat → Prop} {f : D → AV} (hf : ∀ d v, RepP w S d v → RV base G w owf nx (f d) v) : ∀ {ds : List D} {vs : List Value}, RepPs w S ds vs → RVs base G w owf nx (ds.map f) vs
  | [], vs, h => by unfold RepPs at h; subst h; simp; unfold RVs; rfl
  | d :: ds, vs, h => by
    unfold RepPs at h
    obtain ⟨v, r, rfl, h1, h2⟩ := h
    simp only [List.map_cons]; unfold RVs
    exact ⟨v, r, rfl, hf d v h1, RVs.of_rep hf h2⟩
theorem xSub_ok {P : Program} {base nx : Nat} {G : Gh} {w : World} {owf : Nat → Option OwnI} {T : TypeId} {m : Option Nat} (ht : tAgg P T = some m) {l : List AV} {us : List Value} (hl : RVs base G w owf nx l us) {g o0 off : Nat}
    (hc : ∀ w', Below w.heap.size w w' → Cells w' g o0 us) {k : AV → Prop} (hk : xSub l off m k) : ∃ av v, k av ∧ RV base G w owf nx av v ∧ Yl P w (Instr.loadAt T (.pointer (some ⟨g, o0 + off, none⟩))) v := by
  cases m with
  | none =>
    simp only [xSub] at hk
    split at hk
    · rename_i v hv
      obtain ⟨x, hx, h1⟩ := RVs.get l us off v hl hv
      obtain ⟨hlt, hx'⟩ := List.getElem?_eq_some_iff.1 hx
      refine ⟨v, x, hk, h1, fun w' hb => ?_⟩
      refine loadAt_run ht (vs := [x]) (fun j hj => ?_) x rfl
      obtain rfl : j = 0 := by simpa using hj
      have := hc w' hb off hlt
      simpa [hx'] using this
    · exact hk.elim
  | some n =>
    simp only [xSub] at hk
    obtain ⟨hle, hk⟩ := hk
    have hlen := RVs.len l us hl
    refine ⟨_, .agg ((us.drop off).take n).toArray, hk, by unfold RV; exact ⟨_, rfl, (hl.drop off).take n⟩, fun w' hb => ?_⟩
    refine loadAt_run ht (vs := (us.drop off).take n) (fun j hj => ?_) _ ⟨by simp; omega, rfl⟩
    simp only [List.length_take, List.length_drop] at hj
    have := hc w' hb (off + j) (by omega)
    rw [Nat.add_assoc, this]
    simp
theorem xLoad_ok {P : Program} {w0 : World0} {G : Gh} {s : AS} {a : Act} {w : World} (h : Rel w0 G s a w) {T : TypeId} {x : AV} {u : Value} (hx : RV w0.heap.size G w s.owf s.nx x u) {k : AV → Prop} (hk : xLoad P s T x k) :
    ∃ av v, k av ∧ RV w0.heap.size G w s.owf s.nx av v ∧ Yl P w (Instr.loadAt T u) v := by
  unfold xLoad at hk
  cases ht : tAgg P T with
  | none => rw [ht] at hk; exact hk.elim
  | some m =>
    rw [ht] at hk
    simp only at hk
    cases x with
    | bx b off =>
      simp only at hk
      cases hl : look s.bx b with
      | none => rw [hl] at hk; exact hk.elim
      | some cs =>
        rw [hl] at hk
        simp only at hk
        obtain ⟨_, hbb, us, T', hB, hr⟩ := h.bx b cs hl
        unfold RV at hx
        obtain ⟨_, rfl⟩ := hx
        have := xSub_ok ht hr (g := G.β b) (o0 := 0) (off := off) (fun w' hb => (hB.below hb hB.lt).cells) hk
        simpa using this
    | eb d kk off =>
      simp only at hk
      unfold RV at hx
      obtain ⟨sz, n, cs, a', o0, len, cap, rfl, rfl, hr, hkn⟩ := hx
      obtain ⟨b, off', vs, e, hS, hc, hrs, hvl, hln⟩ := hr.cell hkn
      injection e with e
      injection e with e1 e2
      subst e1; subst e2
      have hr2 : RVs w0.heap.size G w s.owf s.nx ((rowD (.rows sz n cs) kk).map avB) (rowAt sz vs kk) := RVs.of_rep (S := (· < w0.heap.size)) (fun d v hd => avB_ok hd) ((hrs.drop (kk * sz)).take sz)
      have hlt : a' < w.heap.size := Nat.lt_of_lt_of_le hS h.bel.size
      exact xSub_ok ht hr2 (g := a') (o0 := o0 + kk * sz) (off := off) (fun w' hb => (hc.keep (hb.block a' hlt)).row sz kk) hk
    | eo o kk off =>
      simp only at hk
      cases hl : s.owf o with
      | none => rw [hl] at hk; exact hk.elim
      | some I =>
        rw [hl] at hk
        simp only at hk
        unfold RV at hx
        obtain ⟨hox, _, hx⟩ := hx
        obtain ⟨sz, n, cs, a', o0, len, cap, e1, e2, rfl, hkn⟩ := hx I hl
        obtain ⟨_, ⟨hB, hrep, _, _⟩, _⟩ := h.own o I hl
        rw [e1, e2] at hrep
        rw [e1] at hk
        obtain ⟨b, off', vs, e, hS, hc, hrs, hvl, hln⟩ := hrep.cell hkn
        injection e with e
        injection e with e1 e2
        subst e1; subst e2
        have hr2 : RVs w0.heap.size G w s.owf s.nx ((rowD (.rows sz n cs) kk).map (avO o)) (rowAt sz vs kk) := RVs.of_rep (S := fun k => k < w0.heap.size ∨ k ∈ G.B o) (fun d v hd => avO_ok hox hd) ((hrs.drop (kk * sz)).take sz)
        have hlt : a' < w.heap.size := hS.elim (fun h1 => Nat.lt_of_lt_of_le h1 h.bel.size) (fun h1 => (hB a' h1).2)
        exact xSub_ok ht hr2 (g := a') (o0 := o0 + kk * sz) (off := off) (fun w' hb => (hc.keep (hb.block a' hlt)).row sz kk) hk
    | _ => exact hk.elim

/-! ## Addresses -/
def xFld (P : Program) (s : AS) (T : TypeId) (f : Nat) (x : AV) (k : AV → Prop) : Prop :=
  match tFld P T f with
  | some (o, sz) => sz ≠ 0 ∧ match x with
    | .bx b off => k (.bx b (off + o))
    | .eb d kk off => k (.eb d kk (off + o))
    | .eo ow kk off => match s.owf ow with
      | some _ => k (.eo ow kk (off + o))
      | none => False
    | _ => False
  | none => False
theorem fieldAt_run {P : Program} {w : World} {T : TypeId} {f o sz : Nat} (ht : tFld P T f = some (o, sz)) (hsz : sz ≠ 0) (b off : Nat) :
    (Instr.fieldAt T (.pointer (some ⟨b, off, none⟩)) f).run P w = .ok (.pointer (some ⟨b, off + o, none⟩)) w := by
  unfold tFld at ht
  unfold Instr.fieldAt Instr.sureAddr fieldPlace sizeOf typeInfo underlying
  simp only [program, Sem.run_bind, Sem.run, Result.andThen_ok]
  split at ht
  · rename_i fs h1
    rw [h1]
    simp only [Sem.run, Result.andThen_ok]
    split at ht
    · rename_i x h2
      simp only [Sem.run_pure, Result.andThen_ok]
      rw [h2]
      cases hi : P.info? x.type with
      | none => rw [hi] at ht; simp at ht
      | some i =>
        rw [hi] at ht
        simp only [Option.map_some, Option.some.injEq, Prod.mk.injEq] at ht
        obtain ⟨rfl, rfl⟩ := ht
        simp only [Sem.run_bind, Sem.run_pure, Sem.run, Result.andThen_ok, hi]
        rw [if_neg hsz]
        simp [Sem.run_pure, add_addr]
    · cases ht
  · cases ht
theorem xFld_ok {P : Program} {base nx : Nat} {G : Gh} {w : World} {s : AS} {T : TypeId} {f : Nat} {x : AV} {u : Value} (hx : RV base G w s.owf nx x u) {k : AV → Prop} (hk : xFld P s T f x k) :
    ∃ av v, k av ∧ RV base G w s.owf nx av v ∧ Yl P w (Instr.fieldAt T u f) v := by
  unfold xFld at hk
  cases ht : tFld P T f with
  | none => rw [ht] at hk; exact hk.elim
  | some q =>
    obtain ⟨o, sz⟩ := q
    rw [ht] at hk
    simp only at hk
    obtain ⟨hsz, hk⟩ := hk
    cases x with
    | bx b off =>
      unfold RV at hx
      obtain ⟨h1, rfl⟩ := hx
      exact ⟨_, _, hk, by unfold RV; exact ⟨h1, rfl⟩, fun w' _ => fieldAt_run ht hsz _ _⟩
    | eb d kk off =>
      unfold RV at hx
      obtain ⟨sz', n, cs, a', o0, len, cap, e, rfl, hr, hkn⟩ := hx
      exact ⟨_, _, hk, by unfold RV; exact ⟨sz', n, cs, a', o0, len, cap, e, rfl, hr, hkn⟩, fun w' _ => by rw [fieldAt_run ht hsz, Nat.add_assoc]⟩
    | eo ow kk off =>
      unfold RV at hx
      obtain ⟨h1, h1o, hx⟩ := hx
      simp only at hk
      cases hI : s.owf ow with
      | none => rw [hI] at hk; exact hk.elim
      | some I =>
        rw [hI] at hk
        obtain ⟨sz', n, cs, a', o0, len, cap, e, e2, rfl, hkn⟩ := hx I hI
        have hv : RV base G w s.owf nx (.eo ow kk (off + o)) (.pointer (some ⟨a', o0 + kk * sz' + off + o, none⟩)) := by
          unfold RV
          refine ⟨h1, rfl, fun I' hI' => ?_⟩
          rw [hI] at hI'
          injection hI' with hI'
          subst hI'
          exact ⟨sz', n, cs, a', o0, len, cap, e, e2, by rw [Nat.add_assoc], hkn⟩
        exact ⟨_, _, hk, hv, fun w' _ => fieldAt_run ht hsz _ _⟩
    | _ => exact hk.elim

/-- A slice as the picture knows it: how it reads. -/
def AS.rd (s : AS) : AV → Option D
  | .nl sz => some (.rows sz 0 [])
  | .br d => some d
  | .sp o d => (s.owf o).map fun _ => d
  | .sl o => (s.owf o).map (·.d)
  | _ => none
def xIdx (P : Program) (s : AS) (T : TypeId) (x i : AV) (k : AV → Prop) : Prop :=
  match tElem P T, i with
  | some (_, esz), .i j => match x with
    | .br (.rows sz n cs) => sz = esz ∧ (0 ≤ j ∧ j < n) ∧ k (.eb (.rows sz n cs) j.toNat 0)
    | .sl o => match s.owf o with
      | some I => match I.d with
        | .rows sz n cs => sz = esz ∧ (0 ≤ j ∧ j < n) ∧ k (.eo o j.toNat 0)
        | _ => False
      | none => False
    | _ => False
  | _, _ => False
theorem indexAt_run {P : Program} {w : World} {T e : TypeId} {esz : Nat} (ht : tElem P T = some (e, esz)) {b o n cap : Nat} {kd : IntKind} {j : Int} (h0 : 0 ≤ j) (h1 : j < n) :
    (Instr.indexAt T (.slice (some ⟨b, o, none⟩) n cap) (.int kd j)).run P w = .ok (.pointer (some ⟨b, o + j.toNat * esz, none⟩)) w := by
  unfold tElem at ht
  unfold Instr.indexAt asIntOf sizeOf typeInfo underlying
  simp only [program, Sem.run_bind, Sem.run, Result.andThen_ok, Sem.run_pure]
  split at ht
  · rename_i e' h1'
    rw [h1']
    simp only [Sem.run_pure, Result.andThen_ok]
    cases hi : P.info? e' with
    | none => rw [hi] at ht; simp at ht
    | some i =>
      rw [hi] at ht
      simp only [Option.map_some, Option.some.injEq, Prod.mk.injEq] at ht
      obtain ⟨rfl, rfl⟩ := ht
      have hb : (0 ≤ j ∧ j < (n : Int)) := ⟨h0, h1⟩
      simp only [Sem.run_bind, Sem.run_pure, Sem.run, Result.andThen_ok, hi, if_pos hb, add_addr, h1']
  · cases ht
theorem xIdx_ok {P : Program} {w0 : World0} {G : Gh} {s : AS} {a : Act} {w : World} (h : Rel w0 G s a w) {T : TypeId} {x i : AV} {u j : Value} (hx : RV w0.heap.size G w s.owf s.nx x u) (hi : RV w0.heap.size G w s.owf s.nx i j)
    {k : AV → Prop} (hk : xIdx P s T x i k) : ∃ av v, k av ∧ RV w0.heap.size G w s.owf s.nx av v ∧ Yl P w (Instr.indexAt T u j) v := by
  unfold xIdx at hk
  cases ht : tElem P T with
  | none => rw [ht] at hk; exact hk.elim
  | some q =>
    obtain ⟨e, esz⟩ := q
    rw [ht] at hk
    cases i with
    | i j =>
      unfold RV at hi
      subst hi
      simp only at hk
      cases x with
      | br d =>
        cases d with
        | rows sz n cs =>
          simp only at hk
          obtain ⟨rfl, ⟨h0, h1⟩, hk⟩ := hk
          unfold RV at hx
          obtain ⟨a', cap, rfl, _⟩ := hx.shape
          have hlt : j.toNat < n := by omega
          obtain ⟨b, off, vs, rfl, _⟩ := hx.cell hlt
          exact ⟨_, _, hk, by unfold RV; exact ⟨sz, n, cs, b, off, n, cap, rfl, rfl, hx, hlt⟩, fun w' _ => by rw [indexAt_run ht h0 h1]; rfl⟩
        | _ => exact hk.elim
      | sl o =>
        simp only at hk
        cases hI : s.owf o with
        | none => rw [hI] at hk; exact hk.elim
        | some I =>
          rw [hI] at hk
          simp only at hk
          obtain ⟨d, ap, deep⟩ := I
          cases d with
          | rows sz n cs =>
            simp only at hk
            obtain ⟨rfl, ⟨h0, h1⟩, hk⟩ := hk
            unfold RV at hx
            obtain ⟨ho, _, hx⟩ := hx
            have hroot := hx _ hI
            subst hroot
            obtain ⟨_, ⟨_, hrep, _, _⟩, _⟩ := h.own o _ hI
            obtain ⟨a', cap, e1, _⟩ := hrep.shape
            have hlt : j.toNat < n := by omega
            rw [e1] at hrep
            obtain ⟨b, off, vs, rfl, _⟩ := hrep.cell hlt
            have hv : RV w0.heap.size G w s.owf s.nx (.eo o j.toNat 0) (.pointer (some ⟨b, off + j.toNat * sz, none⟩)) := by
              unfold RV
              refine ⟨ho, rfl, fun I' hI' => ?_⟩
              rw [hI] at hI'
              injection hI' with hI'
              subst hI'
              exact ⟨sz, n, cs, b, off, n, cap, rfl, e1, rfl, hlt⟩
            exact ⟨_, _, hk, hv, fun w' _ => by rw [e1, indexAt_run ht h0 h1]⟩
          | _ => exact hk.elim
      | _ => exact hk.elim
    | _ => cases x <;> exact hk.elim

/-! ## Numbers, texts, truth values -/
def inI (n : Int) : Prop := -9223372036854775808 ≤ n ∧ n < 9223372036854775808
theorem wrap_in {n : Int} (h : inI n) : IntKind.i64.wrap n = n := by
  unfold inI at h
  have e : IntKind.i64.wrap n = if decide (n % 18446744073709551616 ≥ 9223372036854775808) = true then n % 18446744073709551616 - 18446744073709551616 else n % 18446744073709551616 := rfl
  rw [e]
  by_cases h0 : 0 ≤ n
  · have e : n % 18446744073709551616 = n := Int.emod_eq_of_lt h0 (by omega)
    rw [e, if_neg (by simp; omega)]
  · have e : n % 18446744073709551616 = n + 18446744073709551616 := by omega
    rw [e, if_pos (by simp; omega)]; omega
theorem ba_eq (x y : ByteArray) : (x.toList == y.toList) = decide (x = y) := by
  by_cases h : x = y
  · subst h; simp
  · simp only [decide_eq_false h]
    have : x.toList ≠ y.toList := fun e => h (ByteArray.ext (by
      have := congrArg List.toArray e
      simpa [ByteArray.toList_eq] using this))
    simpa using this
/-- A comparison or an operation of two values. -/
def xBin (op : BinOp) : AV → AV → (AV → Prop) → Prop
  | .i x, .i y, k => match op with
    | .add => inI (x + y) ∧ k (.i (x + y))
    | .sub => inI (x - y) ∧ k (.i (x - y))
    | .mul => inI (x * y) ∧ k (.i (x * y))
    | .quo => y ≠ 0 ∧ inI (x.tdiv y) ∧ k (.i (x.tdiv y))
    | .rem => y ≠ 0 ∧ k (.i (x.tmod y))
    | .eql => k (.b (decide (x = y)))
    | .neq => k (.b (decide (x ≠ y)))
    | .lss => k (.b (decide (x < y)))
    | .leq => k (.b (decide (x ≤ y)))
    | .gtr => k (.b (decide (y < x)))
    | .geq => k (.b (decide (y ≤ x)))
    | _ => False
  | .y x, .y y, k => match op with
    | .eql => k (.b (decide (x = y)))
    | .neq => k (.b (decide (x ≠ y)))
    | .lss => k (.b (decide (x < y)))
    | .leq => k (.b (decide (x ≤ y)))
    | .gtr => k (.b (decide (y < x)))
    | .geq => k (.b (decide (y ≤ x)))
    | .sub => (0 ≤ x - y ∧ x - y < 256) ∧ k (.y (x - y))
    | _ => False
  | .s x, .s y, k => match op with
    | .add => x.size + y.size ≤ maxLen ∧ k (.s (x ++ y))
    | .eql => k (.b (decide (x = y)))
    | .neq => k (.b (decide (x ≠ y)))
    | .lss => k (.b (Op.bytesLess x.toList y.toList))
    | .leq => k (.b (Op.bytesLess x.toList y.toList || decide (x = y)))
    | .gtr => k (.b (!(Op.bytesLess x.toList y.toList || decide (x = y))))
    | .geq => k (.b (!Op.bytesLess x.toList y.toList))
    | _ => False
  | _, _, _ => False
theorem xBin_ok {P : Program} {base nx : Nat} {G : Gh} {w : World} {owf : Nat → Option OwnI} {op : BinOp} {T : TypeId} {x y : AV} {u v : Value} (hx : RV base G w owf nx x u) (hy : RV base G w owf nx y v) {ox oy : Operand}
    {k : AV → Prop} (hk : xBin op x y k) : ∃ av r, k av ∧ RV base G w owf nx av r ∧ Yl P w (do eqGuard op T ox oy u v; binOp op T u v) r := by
  unfold xBin at hk
  split at hk
  · unfold RV at hx hy
    subst hx; subst hy
    cases op <;> simp only at hk <;> first | exact hk.elim | skip
    all_goals first
      | (obtain ⟨h1, h2⟩ := hk
         refine ⟨_, _, h2, by unfold RV; rfl, fun w' _ => ?_⟩
         simp [eqGuard, binOp, Op.intArith, Sem.run_bind, Sem.run_pure, wrap_in h1]
         done)
      | (obtain ⟨h0, h1, h2⟩ := hk
         refine ⟨_, _, h2, by unfold RV; rfl, fun w' _ => ?_⟩
         simp [eqGuard, binOp, Op.intDiv, Sem.run_bind, Sem.run_pure, wrap_in h1, h0]
         done)
      | (obtain ⟨h0, h2⟩ := hk
         refine ⟨_, _, h2, by unfold RV; rfl, fun w' _ => ?_⟩
         simp [eqGuard, binOp, Op.intDiv, Sem.run_bind, Sem.run_pure, h0]
         done)
      | (refine ⟨_, _, hk, by unfold RV; rfl, fun w' _ => ?_⟩
         simp [eqGuard, binOp, Op.intCmp, Sem.run_bind, Sem.run_pure, Bool.beq_eq_decide_eq, bne, decide_not]
         done)
  · unfold RV at hx hy
    subst hx; subst hy
    cases op <;> simp only at hk <;> first | exact hk.elim | skip
    all_goals first
      | (obtain ⟨h1, h2⟩ := hk
         refine ⟨_, _, h2, by unfold RV; rfl, fun w' _ => ?_⟩
         have : IntKind.u8.wrap (_ - _) = _ := Int.emod_eq_of_lt h1.1 h1.2
         simp [eqGuard, binOp, Op.intArith, Sem.run_bind, Sem.run_pure, IntKind.wrap, IntKind.bits, IntKind.signed, Int.emod_eq_of_lt h1.1 h1.2]
         done)
      | (refine ⟨_, _, hk, by unfold RV; rfl, fun w' _ => ?_⟩
         simp [eqGuard, binOp, Op.intCmp, Sem.run_bind, Sem.run_pure, Bool.beq_eq_decide_eq, bne, decide_not]
         done)
  · unfold RV at hx hy
    subst hx; subst hy
    cases op <;> simp only at hk <;> first | exact hk.elim | skip
    all_goals first
      | (obtain ⟨h1, h2⟩ := hk
         refine ⟨_, _, h2, by unfold RV; rfl, fun w' _ => ?_⟩
         have h3 : ¬ ((9223372036854775807 : Int) < (_ : Nat) + (_ : Nat)) := Int.not_lt.2 (by unfold maxLen at h1; exact Int.ofNat_le.2 h1)
         simp [eqGuard, binOp, Op.stringOp, Sem.run_bind, Sem.run_pure, h3]
         done)
      | (refine ⟨_, _, hk, by unfold RV; rfl, fun w' _ => ?_⟩
         simp [eqGuard, binOp, Op.stringOp, Sem.run_bind, Sem.run_pure, ba_eq, decide_not]
         done)
  · exact hk.elim

def xNot (op : UnOp) : AV → (AV → Prop) → Prop
  | .b x, k => match op with | .not => k (.b (!x)) | _ => False
  | .i x, k => match op with | .neg => inI (0 - x) ∧ k (.i (0 - x)) | _ => False
  | _, _ => False
theorem xNot_ok {P : Program} {base nx : Nat} {G : Gh} {w : World} {owf : Nat → Option OwnI} {op : UnOp} {x : AV} {u : Value} (hx : RV base G w owf nx x u)
    {k : AV → Prop} (hk : xNot op x k) : ∃ av r, k av ∧ RV base G w owf nx av r ∧ Yl P w (Op.unary op u) r := by
  cases x <;> simp only [xNot] at hk <;> first | exact hk.elim | skip
  · cases op <;> simp only at hk <;> first | exact hk.elim | skip
    all_goals
      unfold RV at hx
      subst hx
      obtain ⟨h1, h2⟩ := hk
      exact ⟨_, _, h2, by unfold RV; rfl, fun w' _ => by simp only [Op.unary, Op.intArith, Sem.run_pure, wrap_in h1]⟩
  · cases op <;> simp only at hk <;> first | exact hk.elim | skip
    all_goals
      unfold RV at hx
      subst hx
      exact ⟨_, _, hk, by unfold RV; rfl, fun w' _ => by simp only [Op.unary, Sem.run_pure]⟩
def xPick : AV → AV → AV → (AV → Prop) → Prop
  | .b c, x, y, k => (c = true → k x) ∧ (c = false → k y)
  | _, _, _, _ => False
theorem xPick_ok {P : Program} {base nx : Nat} {G : Gh} {w : World} {owf : Nat → Option OwnI} {c x y : AV} {b u v : Value} (hc : RV base G w owf nx c b) (hx : RV base G w owf nx x u) (hy : RV base G w owf nx y v)
    {k : AV → Prop} (hk : xPick c x y k) : ∃ av r, k av ∧ RV base G w owf nx av r ∧ Yl P w (do pure (if ← asBool b then u else v) : Sem Value) r := by
  cases c <;> simp only [xPick] at hk <;> first | exact hk.elim | skip
  rename_i c
  unfold RV at hc
  subst hc
  cases c
  · exact ⟨_, _, hk.2 rfl, hy, fun w' _ => by simp [asBool, Sem.run_bind, Sem.run_pure]⟩
  · exact ⟨_, _, hk.1 rfl, hx, fun w' _ => by simp [asBool, Sem.run_bind, Sem.run_pure]⟩
def xLen (P : Program) (s : AS) (T : TypeId) (x : AV) (k : AV → Prop) : Prop :=
  match x with
  | .s t => tKind P T = 1 ∧ k (.i t.size)
  | _ => match s.rd x with
    | some (.rows _ n _) => tKind P T = 2 ∧ k (.i n)
    | _ => False
/-- What the picture says of a slice is so. -/
theorem rd_ok {w0 : World0} {G : Gh} {s : AS} {a : Act} {w : World} (h : Rel w0 G s a w) {x : AV} {u : Value} (hx : RV w0.heap.size G w s.owf s.nx x u) {d : D} (hd : s.rd x = some d) : RepP w (· < w.heap.size) d u := by
  have hb := h.bel.size
  cases x <;> simp only [AS.rd] at hd <;> first | (cases hd; done) | skip
  case nl sz =>
    injection hd with hd; subst hd
    unfold RV at hx; subst hx
    unfold RepP
    exact ⟨none, 0, rfl, by simp, by simp, by simp, .inl rfl⟩
  case sl o =>
    cases hI : s.owf o with
    | none => rw [hI] at hd; cases hd
    | some I =>
      rw [hI] at hd
      injection hd with hd; subst hd
      unfold RV at hx
      rw [hx.2.2 I hI]
      obtain ⟨_, ⟨hB, hrep, _⟩, _⟩ := h.own o I hI
      exact RepP.mono (fun k hk => hk.elim (fun h1 => Nat.lt_of_lt_of_le h1 hb) (fun h1 => (hB k h1).2)) (fun _ _ => rfl) _ _ hrep
  case sp o d' =>
    cases hI : s.owf o with
    | none => rw [hI] at hd; cases hd
    | some I =>
      rw [hI] at hd
      injection hd with hd; subst hd
      unfold RV at hx
      obtain ⟨_, ⟨hB, hrep, _⟩, _⟩ := h.own o I hI
      exact RepP.mono (fun k hk => hk.elim (fun h1 => Nat.lt_of_lt_of_le h1 hb) (fun h1 => (hB k h1).2)) (fun _ _ => rfl) _ _ (hx.2.2 I hI)
  case br d' =>
    injection hd with hd; subst hd
    unfold RV at hx
    exact RepP.mono (fun k hk => Nat.lt_of_lt_of_le hk hb) (fun _ _ => rfl) _ _ hx
theorem kind_slice {P : Program} {T : TypeId} (h : tKind P T = 2) : ∃ e, P.underlying T = some (.slice e) := by
  unfold tKind at h
  split at h <;> simp_all
theorem kind_str {P : Program} {T : TypeId} (h : tKind P T = 1) : P.underlying T = some .string := by
  unfold tKind at h
  split at h <;> simp_all
theorem und_run {P : Program} {T : TypeId} {d : TypeDesc} (h : P.underlying T = some d) (w : World) : (underlying T).run P w = .ok d w := by
  unfold underlying
  simp [program, Sem.run_bind, Sem.run, h, Sem.run_pure]
theorem xLen_ok {P : Program} {w0 : World0} {G : Gh} {s : AS} {a : Act} {w : World} (h : Rel w0 G s a w) {T ty : TypeId} {x : AV} {u : Value} (hx : RV w0.heap.size G w s.owf s.nx x u)
    {k : AV → Prop} (hk : xLen P s T x k) : ∃ av v, k av ∧ RV w0.heap.size G w s.owf s.nx av v ∧ Yl P w (Builtin.len_ #[T] ty #[u]) v := by
  have hsl : ∀ sz n cs, s.rd x = some (.rows sz n cs) → tKind P T = 2 ∧ k (.i n) → ∃ av v, k av ∧ RV w0.heap.size G w s.owf s.nx av v ∧ Yl P w (Builtin.len_ #[T] ty #[u]) v := by
    intro sz n cs hrd hk
    obtain ⟨a', cap, rfl, _⟩ := (rd_ok h hx hrd).shape
    obtain ⟨e, he⟩ := kind_slice hk.1
    exact ⟨_, _, hk.2, by unfold RV; rfl, fun w' _ => by simp [Builtin.len_, Sem.run_bind, und_run he, goInt, Sem.run_pure]⟩
  unfold xLen at hk
  split at hk
  · unfold RV at hx
    subst hx
    exact ⟨_, _, hk.2, by unfold RV; rfl, fun w' _ => by simp [Builtin.len_, Sem.run_bind, und_run (kind_str hk.1), goInt, Sem.run_pure]⟩
  · split at hk
    · rename_i sz n cs hrd
      exact hsl sz n cs hrd hk
    · exact hk.elim
/-- A letter of a text. -/
def xChr (P : Program) (T : TypeId) : AV → AV → (AV → Prop) → Prop
  | .s x, .i j, k => tKind P T = 1 ∧ (0 ≤ j ∧ j < x.size) ∧ k (.y ((x.data.getD j.toNat 0).toNat))
  | _, _, _ => False
theorem xChr_ok {P : Program} {base nx : Nat} {G : Gh} {w : World} {owf : Nat → Option OwnI} {T : TypeId} {x y : AV} {u v : Value} (hx : RV base G w owf nx x u) (hy : RV base G w owf nx y v)
    {k : AV → Prop} (hk : xChr P T x y k) : ∃ av r, k av ∧ RV base G w owf nx av r ∧ Yl P w (Instr.index T u v) r := by
  cases x <;> try exact hk.elim
  cases y <;> try exact hk.elim
  · rename_i x j
    unfold xChr at hk
    unfold RV at hx hy
    subst hx; subst hy
    obtain ⟨h1, ⟨h2, h3⟩, h4⟩ := hk
    refine ⟨_, _, h4, by unfold RV; rfl, fun w' _ => ?_⟩
    have hlt : j.toNat < x.data.size := by have : x.data.size = x.size := rfl; omega
    have hg : x[j.toNat]? = some (x.data.getD j.toNat 0) := by
      rw [Array.getD_eq_getD_getElem?, Array.getElem?_eq_getElem hlt]
      have hlt' : j.toNat < x.size := hlt
      rw [getElem?_pos x j.toNat hlt']
      rfl
    unfold Instr.index asIntOf
    simp only [Sem.run_bind, Sem.run_pure, Result.andThen_ok, und_run (kind_str h1), if_pos h2, hg]
/-- A part of a tuple. -/
def xExt : AV → Nat → (AV → Prop) → Prop
  | .tu vs, i, k => match vs[i]? with | some v => k v | none => False
  | _, _, _ => False
theorem xExt_ok {P : Program} {base nx : Nat} {G : Gh} {w : World} {owf : Nat → Option OwnI} {x : AV} {u : Value} {i : Nat} (hx : RV base G w owf nx x u)
    {k : AV → Prop} (hk : xExt x i k) : ∃ av r, k av ∧ RV base G w owf nx av r ∧ Yl P w (Instr.extract u i) r := by
  cases x <;> simp only [xExt] at hk <;> first | exact hk.elim | skip
  rename_i vs
  split at hk
  · rename_i v hv
    unfold RV at hx
    obtain ⟨us, rfl, hr⟩ := hx
    obtain ⟨z, hz, h1⟩ := RVs.get vs us i v hr hv
    exact ⟨v, z, hk, h1, fun w' _ => by simp [Instr.extract, hz, Sem.run_pure]⟩
  · exact hk.elim
end Go.Proofs.Ytaeeipojnfooeaa
