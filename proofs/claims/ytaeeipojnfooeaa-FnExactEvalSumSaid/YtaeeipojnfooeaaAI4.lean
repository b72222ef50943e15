/-
  All operations that only compute, in one: what an operation yields on the abstract picture.
-/
import Derived.Test.YtaeeipojnfooeaaAI3
namespace Go.Proofs.Ytaeeipojnfooeaa
open Go.RowKit
set_option linter.unusedVariables false
set_option linter.unusedSimpArgs false

/-! ## Parts of texts and slices -/
def ixL : Option AV → Option Int
  | none => some 0
  | some (.i n) => some n
  | _ => none
def ixH (n : Nat) : Option AV → Option Int
  | none => some n
  | some (.i n) => some n
  | _ => none
def cutD (d : D) (l h : Nat) : D := match d with | .rows sz _ cs => .rows sz (h - l) ((cs.drop (l * sz)).take ((h - l) * sz)) | d => d
def xSlc (P : Program) (s : AS) (T : TypeId) (x : AV) (lo hi mx : Option AV) (k : AV → Prop) : Prop :=
  match mx, x with
  | none, .s t => match ixL lo, ixH t.size hi with
    | some l, some h => tKind P T = 1 ∧ (0 ≤ l ∧ l ≤ h ∧ h ≤ t.size) ∧ k (.s (t.extract l.toNat h.toNat))
    | _, _ => False
  | none, .br (.rows sz n cs) => match ixL lo, ixH n hi, tElem P T with
    | some l, some h, some (_, esz) => esz = sz ∧ (0 ≤ l ∧ l ≤ h ∧ h ≤ n) ∧ k (.br (cutD (.rows sz n cs) l.toNat h.toNat))
    | _, _, _ => False
  | none, .sl o => match s.owf o with
    | some I => match I.d with
      | .rows sz n cs => match ixL lo, ixH n hi, tElem P T with
        | some l, some h, some (_, esz) => esz = sz ∧ (0 ≤ l ∧ l ≤ h ∧ h ≤ n) ∧ k (.sp o (cutD (.rows sz n cs) l.toNat h.toNat))
        | _, _, _ => False
      | _ => False
    | none => False
  | none, .sp o (.rows sz n cs) => match s.owf o, ixL lo, ixH n hi, tElem P T with
    | some _, some l, some h, some (_, esz) => esz = sz ∧ (0 ≤ l ∧ l ≤ h ∧ h ≤ n) ∧ k (.sp o (cutD (.rows sz n cs) l.toNat h.toNat))
    | _, _, _, _ => False
  | _, _ => False
theorem bounds_run {P : Program} {w : World} {base nx : Nat} {G : Gh} {W : World} {owf : Nat → Option OwnI} {b : Bool} {n cap : Nat} (hnc : n ≤ cap) {lo hi : Option AV} {vl vh : Option Value} (hl : ∀ a, lo = some a → ∃ v, vl = some v ∧ RV base G W owf nx a v) (hl0 : lo = none → vl = none)
    (hh : ∀ a, hi = some a → ∃ v, vh = some v ∧ RV base G W owf nx a v) (hh0 : hi = none → vh = none) {l h : Int} (e1 : ixL lo = some l) (e2 : ixH n hi = some h) (h0 : 0 ≤ l ∧ l ≤ h ∧ h ≤ n) :
    (Instr.sliceBounds b n cap vl vh none).run P w = .ok (l.toNat, h.toNat, cap) w := by
  have hL : (vl = none ∧ l = 0) ∨ vl = some (.int .i64 l) := by
    cases lo with
    | none => simp only [ixL, Option.some.injEq] at e1; exact .inl ⟨hl0 rfl, e1.symm⟩
    | some a =>
      obtain ⟨v, rfl, hv⟩ := hl a rfl
      cases a <;> simp only [ixL] at e1 <;> first | (cases e1; done) | skip
      injection e1 with e1; subst e1
      unfold RV at hv; subst hv
      exact .inr rfl
  have hH : (vh = none ∧ h = n) ∨ vh = some (.int .i64 h) := by
    cases hi with
    | none => simp only [ixH, Option.some.injEq] at e2; exact .inl ⟨hh0 rfl, e2.symm⟩
    | some a =>
      obtain ⟨v, rfl, hv⟩ := hh a rfl
      cases a <;> simp only [ixH] at e2 <;> first | (cases e2; done) | skip
      injection e2 with e2; subst e2
      unfold RV at hv; subst hv
      exact .inr rfl
  have hb1 : (0 ≤ h ∧ h ≤ (cap : Int)) := by omega
  have hb2 : (0 ≤ l ∧ l ≤ (h.toNat : Int)) := by omega
  have s1 : ∀ c, (Instr.sliceBound (.int .i64 h) cap c).run P w = .ok h.toNat w := fun c => by
    simp only [Instr.sliceBound, asIntOf, Sem.run_bind, Sem.run_pure, Result.andThen_ok, if_pos hb1]
  have s2 : ∀ c, (Instr.sliceBound (.int .i64 l) h.toNat c).run P w = .ok l.toNat w := fun c => by
    simp only [Instr.sliceBound, asIntOf, Sem.run_bind, Sem.run_pure, Result.andThen_ok, if_pos hb2]
  unfold Instr.sliceBounds
  rcases hH with ⟨rfl, rfl⟩ | rfl
  · rcases hL with ⟨rfl, rfl⟩ | rfl
    · simp [Sem.run_pure]
    · have := s2 .sliceB
      simp only [Int.toNat_natCast] at this
      simp [Sem.run_bind, Sem.run_pure, this]
  · rcases hL with ⟨rfl, rfl⟩ | rfl
    · simp only [Sem.run_bind, Sem.run_pure, Result.andThen_ok, s1]
      rfl
    · simp only [Sem.run_bind, Sem.run_pure, Result.andThen_ok, s1, Option.isSome_none, Bool.false_eq_true, if_false, s2]
theorem cut_ok {w : World} {S : Nat → Prop} {sz n : Nat} {cs : List D} {a : Option Addr} {cap : Nat} (hr : RepP w S (.rows sz n cs) (.slice a n cap)) {l h : Nat} (hlh : l ≤ h) (hn : h ≤ n) :
    RepP w S (cutD (.rows sz n cs) l h) (.slice (if cap = l then a else a.map (·.add (l * sz))) (h - l) (cap - l)) := by
  obtain ⟨a', cap', e, hnc, hcm, hcl⟩ := hr.shape
  injection e with e1 e2 e3
  subst e3
  have hlen : ((cs.drop (l * sz)).take ((h - l) * sz)).length = (h - l) * sz := by
    rw [List.length_take, List.length_drop, hcl]
    have : (h - l) * sz ≤ n * sz - l * sz := by rw [← Nat.mul_sub_right_distrib]; exact Nat.mul_le_mul_right _ (by omega)
    omega
  unfold cutD RepP
  refine ⟨_, _, rfl, by omega, by omega, hlen, ?_⟩
  by_cases h0 : h - l = 0
  · exact .inl h0
  · refine .inr ?_
    have hk : l < n := by omega
    obtain ⟨b, off, vs, rfl, hS, hc, hrs, hvl, _⟩ := hr.cell hk
    rw [if_neg (by omega)]
    refine ⟨b, off + l * sz, (vs.drop (l * sz)).take ((h - l) * sz), by simp [add_addr], hS, fun i hi => ?_, (hrs.drop _).take _⟩
    simp only [List.length_take, List.length_drop] at hi
    have := hc (l * sz + i) (by omega)
    rw [Nat.add_assoc, this]
    simp
theorem xSlc_ok {P : Program} {w0 : World0} {G : Gh} {s : AS} {a : Act} {w : World} (h : Rel w0 G s a w) {T : TypeId} {x : AV} {u : Value} (hx : RV w0.heap.size G w s.owf s.nx x u) {lo hi mx : Option AV} {vl vh vm : Option Value}
    (hl : ∀ a, lo = some a → ∃ v, vl = some v ∧ RV w0.heap.size G w s.owf s.nx a v) (hl0 : lo = none → vl = none) (hh : ∀ a, hi = some a → ∃ v, vh = some v ∧ RV w0.heap.size G w s.owf s.nx a v) (hh0 : hi = none → vh = none) (hm0 : mx = none → vm = none)
    {k : AV → Prop} (hk : xSlc P s T x lo hi mx k) : ∃ av v, k av ∧ RV w0.heap.size G w s.owf s.nx av v ∧ Yl P w (Instr.sliceAt T u vl vh vm) v := by
  have main : ∀ {S : Nat → Prop} {sz n : Nat} {cs : List D} {l h' : Int} {e : TypeId} {esz : Nat} {v : Value}, RepP w S (.rows sz n cs) v → ixL lo = some l → ixH n hi = some h' → tElem P T = some (e, esz) → esz = sz → (0 ≤ l ∧ l ≤ h' ∧ h' ≤ n) → vm = none →
      ∃ r, RepP w S (cutD (.rows sz n cs) l.toNat h'.toNat) r ∧ r.oneCell' = true ∧ Yl P w (Instr.sliceAt T v vl vh vm) r := by
    intro S sz n cs l h' e esz v hr e1 e2 e3 e4 hb hm
    subst e4
    obtain ⟨a', cap, rfl, hnc, hcm, _⟩ := hr.shape
    refine ⟨_, cut_ok hr (l := l.toNat) (h := h'.toNat) (by omega) (by omega), rfl, fun w' _ => ?_⟩
    subst hm
    unfold tElem at e3
    split at e3
    · rename_i e' hu
      cases hi' : P.info? e' with
      | none => rw [hi'] at e3; cases e3
      | some i =>
        rw [hi'] at e3
        simp only [Option.map_some, Option.some.injEq, Prod.mk.injEq] at e3
        obtain ⟨rfl, rfl⟩ := e3
        unfold Instr.sliceAt
        simp only [Sem.run_bind, und_run hu, Result.andThen_ok]
        unfold Instr.slice
        simp only [Sem.run_bind, und_run hu, Result.andThen_ok, bounds_run (P := P) (w := w') hnc hl hl0 hh hh0 e1 e2 hb]
        simp [sizeOf, typeInfo, program, Sem.run_bind, Sem.run, hi', Sem.run_pure]
    · cases e3
  unfold xSlc at hk
  split at hk
  · split at hk
    · rename_i t _ l h' e1 e2
      obtain ⟨h1, h2, h3⟩ := hk
      unfold RV at hx; subst hx
      refine ⟨_, _, h3, by unfold RV; rfl, fun w' _ => ?_⟩
      rw [hm0 rfl]
      unfold Instr.sliceAt
      simp only [Sem.run_bind, und_run (kind_str h1), Result.andThen_ok]
      unfold Instr.slice
      simp only [Sem.run_bind, und_run (kind_str h1), Result.andThen_ok, Option.isSome_none, Bool.false_eq_true, if_false, Sem.run_pure]
      rw [bounds_run (P := P) (w := w') (Nat.le_refl _) hl hl0 hh hh0 e1 e2 h2]
      simp [Sem.run_pure]
    · exact hk.elim
  · split at hk
    · rename_i sz n cs _ _ _ l h' e esz e1 e2 e3
      obtain ⟨h1, h2, h3⟩ := hk
      unfold RV at hx
      obtain ⟨r, hr, h1o, hy⟩ := main hx e1 e2 e3 h1 h2 (hm0 rfl)
      exact ⟨_, r, h3, by unfold RV; exact hr, hy⟩
    · exact hk.elim
  · rename_i o
    cases hI : s.owf o with
    | none => rw [hI] at hk; exact hk.elim
    | some I =>
      rw [hI] at hk
      simp only at hk
      obtain ⟨d, ap, deep⟩ := I
      cases d with
      | rows sz n cs =>
        simp only at hk
        split at hk
        · rename_i l h' e esz e1 e2 e3
          obtain ⟨h1, h2, h3⟩ := hk
          unfold RV at hx
          obtain ⟨_, ⟨hB, hrep, _⟩, _⟩ := h.own o _ hI
          have hv := hx.2.2 _ hI
          rw [← hv] at hrep
          obtain ⟨r, hr, h1o, hy⟩ := main hrep e1 e2 e3 h1 h2 (hm0 rfl)
          exact ⟨_, r, h3, by unfold RV; exact ⟨hx.1, h1o, fun _ _ => hr⟩, hy⟩
        · exact hk.elim
      | _ => exact hk.elim
  · split at hk
    · rename_i o sz n cs _ _ _ _ I l h' e esz hI e1 e2 e3
      obtain ⟨h1, h2, h3⟩ := hk
      unfold RV at hx
      obtain ⟨r, hr, h1o, hy⟩ := main (hx.2.2 I hI) e1 e2 e3 h1 h2 (hm0 rfl)
      exact ⟨_, r, h3, by unfold RV; exact ⟨hx.1, h1o, fun _ _ => hr⟩, hy⟩
    · exact hk.elim
  · exact hk.elim

def xCnv (P : Program) (src dst : TypeId) (x : AV) (k : AV → Prop) : Prop :=
  match x with
  | .y n => tKind P dst = 3 ∧ (∃ d, P.underlying src = some d) ∧ inI n ∧ k (.i n)
  | .i n => (tKind P dst = 4 ∧ (∃ d, P.underlying src = some d) ∧ (0 ≤ n ∧ n < 256) ∧ k (.y n)) ∨ (tKind P dst = 3 ∧ (∃ d, P.underlying src = some d) ∧ inI n ∧ k (.i n))
  | _ => False
theorem kind_int {P : Program} {T : TypeId} (h : tKind P T = 3) : P.underlying T = some (.int .i64) := by
  unfold tKind at h
  split at h <;> simp_all
theorem kind_byte {P : Program} {T : TypeId} (h : tKind P T = 4) : P.underlying T = some (.int .u8) := by
  unfold tKind at h
  split at h <;> simp_all
theorem xCnv_ok {P : Program} {base nx : Nat} {G : Gh} {w : World} {owf : Nat → Option OwnI} {src dst : TypeId} {x : AV} {u : Value} (hx : RV base G w owf nx x u)
    {k : AV → Prop} (hk : xCnv P src dst x k) : ∃ av r, k av ∧ RV base G w owf nx av r ∧ Yl P w (convert src dst u) r := by
  cases x <;> simp only [xCnv] at hk <;> first | exact hk.elim | skip
  · unfold RV at hx; subst hx
    rcases hk with ⟨h1, ⟨d, h2⟩, h3, h4⟩ | ⟨h1, ⟨d, h2⟩, h3, h4⟩
    · refine ⟨_, _, h4, by unfold RV; rfl, fun w' _ => ?_⟩
      unfold convert
      simp [Sem.run_bind, und_run h2, und_run (kind_byte h1), Conv.intToInt, Sem.run_pure, IntKind.wrap, IntKind.bits, IntKind.signed, Int.emod_eq_of_lt h3.1 h3.2]
    · refine ⟨_, _, h4, by unfold RV; rfl, fun w' _ => ?_⟩
      unfold convert
      simp [Sem.run_bind, und_run h2, und_run (kind_int h1), Conv.intToInt, Sem.run_pure, wrap_in h3]
  · unfold RV at hx; subst hx
    obtain ⟨h1, ⟨d, h2⟩, h3, h4⟩ := hk
    refine ⟨_, _, h4, by unfold RV; rfl, fun w' _ => ?_⟩
    unfold convert
    simp [Sem.run_bind, und_run h2, und_run (kind_int h1), Conv.intToInt, Sem.run_pure, wrap_in h3]

/-! ## In one -/
def xP (P : Program) (s : AS) (op : Op) (k : AV → Prop) : Prop :=
  match op with
  | .move x => k (s.ev x)
  | .assign x => k (s.ev x)
  | .pick c a b => xPick (s.ev c) (s.ev a) (s.ev b) k
  | .load t x => xLoad P s t (s.ev x) k
  | .binOp op _ x y _ => xBin op (s.ev x) (s.ev y) k
  | .unOp op _ x => xNot op (s.ev x) k
  | .fieldAddr t x f => xFld P s t f (s.ev x) k
  | .indexAddr t x i => xIdx P s t (s.ev x) (s.ev i) k
  | .index t x i => xChr P t (s.ev x) (s.ev i) k
  | .extract x i => xExt (s.ev x) i k
  | .build t ps => xBuild P t (ps.toList.map fun q => (q.1, s.ev q.2)) k
  | .makeFunc (.func f) first cap => first.toList.length = 0 ∧ k (.fn f (cap.toList.map s.ev))
  | .slice t x lo hi mx => xSlc P s t (s.ev x) (lo.map s.ev) (hi.map s.ev) (mx.map s.ev) k
  | .convert a b x => xCnv P a b (s.ev x) k
  | .nilCheck x => match s.ev x with | .bx b o => k (.bx b o) | _ => False
  | .call c => match c.callee, c.args.toList, c.argTypes.toList with
    | .builtin .len, [x], [t] => xLen P s t (s.ev x) k
    | _, _, _ => False
  | _ => False
theorem Yl.val {P : Program} {w : World} {x : Sem Value} {v : Value} (h : Yl P w x v) : Yl P w (do pure (.value (← x)) : Sem Next) (.value v) := fun w' hb => by
  simp only [Sem.run_bind, h w' hb, Result.andThen_ok, Sem.run_pure]
theorem Rel.evs {w0 : World0} {G : Gh} {s : AS} {a : Act} {w : World} (h : Rel w0 G s a w) : ∀ (l : List Operand), RVs w0.heap.size G w s.owf s.nx (l.map s.ev) (l.map a.eval)
  | [] => by simp; unfold RVs; rfl
  | x :: l => by simp only [List.map_cons]; unfold RVs; exact ⟨_, _, rfl, h.ev x, Rel.evs h l⟩
theorem xP_ok {P : Program} {w0 : World0} {G : Gh} {s : AS} {a : Act} {w : World} (h : Rel w0 G s a w) {o : Oper} {k : AV → Prop} (hk : xP P s o.op k) :
    ∃ av v, k av ∧ RV w0.heap.size G w s.owf s.nx av v ∧ Yl P w (execOp a.eval o) (.value v) := by
  have fin : ∀ {x : Sem Value}, (∃ av v, k av ∧ RV w0.heap.size G w s.owf s.nx av v ∧ Yl P w x v) → execOp a.eval o = (do pure (.value (← x))) → ∃ av v, k av ∧ RV w0.heap.size G w s.owf s.nx av v ∧ Yl P w (execOp a.eval o) (.value v) :=
    fun ⟨av, v, h1, h2, h3⟩ e => ⟨av, v, h1, h2, by rw [e]; exact h3.val⟩
  obtain ⟨dst, op, type, pos, after, guard⟩ := o
  simp only at hk
  cases op <;> simp only [xP] at hk <;> first | exact hk.elim | skip
  case move x => exact ⟨_, _, hk, h.ev x, fun w' _ => by simp only [execOp, Sem.run_pure]⟩
  case assign x => exact ⟨_, _, hk, h.ev x, fun w' _ => by simp only [execOp, Sem.run_pure]⟩
  case pick c x y =>
    obtain ⟨av, v, h1, h2, h3⟩ := xPick_ok (P := P) (h.ev c) (h.ev x) (h.ev y) hk
    refine ⟨av, v, h1, h2, fun w' hb => ?_⟩
    have := h3 w' hb
    simp only [execOp, Sem.run_bind, Sem.run_pure] at this ⊢
    cases hr : (asBool (a.eval c)).run P w' with
    | ok r w2 => rw [hr] at this; simp only [Result.andThen_ok] at this ⊢; injection this with e1 e2; rw [e1, e2]
    | halt r w2 => rw [hr] at this; cases this
  case load t x => exact fin (xLoad_ok h (h.ev x) hk) rfl
  case binOp bop t x y yt => exact fin (xBin_ok (T := t) (ox := x) (oy := y) (h.ev x) (h.ev y) hk) rfl
  case unOp uop t x => exact fin (xNot_ok (h.ev x) hk) rfl
  case fieldAddr t x f => exact fin (xFld_ok (h.ev x) hk) rfl
  case indexAddr t x i => exact fin (xIdx_ok h (h.ev x) (h.ev i) hk) rfl
  case index t x i => exact fin (xChr_ok (h.ev x) (h.ev i) hk) rfl
  case extract x i => exact fin (xExt_ok (h.ev x) hk) rfl
  case convert s d x => exact fin (xCnv_ok (h.ev x) hk) rfl
  case build t ps =>
    refine fin (xBuild_ok (qs := ps.map fun q => (q.1, a.eval q.2)) ⟨by simp, fun j p q hp hq => ?_⟩ hk) rfl
    simp only [List.getElem?_map, Array.toList_map] at hp hq
    cases hz : ps.toList[j]? with
    | none => rw [hz] at hp; cases hp
    | some z =>
      rw [hz] at hp hq
      injection hp with hp
      injection hq with hq
      subst hp; subst hq
      exact ⟨rfl, h.ev _⟩
  case slice t x lo hi mx =>
    refine fin (xSlc_ok h (h.ev x) (fun z hz => ?_) (fun hz => ?_) (fun z hz => ?_) (fun hz => ?_) (fun hz => ?_) hk) rfl
    · cases lo with
      | none => cases hz
      | some y => injection hz with hz; subst hz; exact ⟨_, rfl, h.ev y⟩
    · cases lo with
      | none => rfl
      | some y => cases hz
    · cases hi with
      | none => cases hz
      | some y => injection hz with hz; subst hz; exact ⟨_, rfl, h.ev y⟩
    · cases hi with
      | none => rfl
      | some y => cases hz
    · cases mx with
      | none => rfl
      | some y => cases hz
  case makeFunc fn first cap =>
    cases fn <;> simp only at hk <;> first | exact hk.elim | skip
    rename_i f
    obtain ⟨h0, hk⟩ := hk
    refine fin ⟨_, .func (.func f) #[] (cap.map a.eval), hk, ?_, fun w' _ => ?_⟩ rfl
    · unfold RV
      exact ⟨cap.toList.map a.eval, by rw [show cap.map a.eval = (cap.toList.map a.eval).toArray from Array.ext' (by simp)], h.evs cap.toList⟩
    · have : first = #[] := Array.ext' (List.eq_nil_of_length_eq_zero h0)
      subst this
      simp [Instr.makeFunc, Sem.run_pure, Sem.run]
  case nilCheck x =>
    have hx := h.ev x
    cases hv : s.ev x <;> rw [hv] at hk <;> simp only at hk <;> first | exact hk.elim | skip
    rw [hv] at hx
    refine ⟨_, a.eval x, hk, hx, fun w' _ => ?_⟩
    unfold RV at hx
    simp only [execOp, hx.2, Sem.run_pure]
  case call c =>
    obtain ⟨callee, args, tys⟩ := c
    simp only at hk
    split at hk
    · rename_i x t e1 e2
      have ea : args = #[x] := by cases args; simp at e1; simp [e1]
      have et : tys = #[t] := by cases tys; simp at e2; simp [e2]
      subst ea; subst et
      refine fin (xLen_ok (ty := type) h (h.ev x) hk) ?_
      simp [execOp, resolve, invoke, builtin]
    · exact hk.elim
end Go.Proofs.Ytaeeipojnfooeaa
