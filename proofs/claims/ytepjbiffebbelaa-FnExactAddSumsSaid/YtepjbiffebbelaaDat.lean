/-
  Lists of typings, parameters, items, instructions and the like, and the cells in which they lie.
-/
import Derived.Test.YtepjbiffebbelaaTree
import Derived.Test.YtepjbiffebbelaaArg
import Derived.Test.YtepjbiffebbelaaPtr
namespace Go.Proofs.Ytepjbiffebbelaa
open Go.RowKit
set_option linter.unusedVariables false
set_option linter.unusedSimpArgs false
instance : Inhabited Ty := ⟨.mk 0 []⟩
instance : Inhabited Tm := ⟨.mk 0 default default 0 default default []⟩
/-- Elements' cells, one behind the other. -/
def flC {α : Type} (c : α → List D) : List α → List D
  | [] => []
  | x :: xs => c x ++ flC c xs
theorem flC_len {α : Type} {c : α → List D} {n : Nat} (hc : ∀ x, (c x).length = n) : ∀ xs : List α, (flC c xs).length = xs.length * n
  | [] => by simp [flC]
  | x :: xs => by rw [flC, List.length_append, hc, flC_len hc xs, List.length_cons, Nat.succ_mul]; omega
theorem flC_app {α : Type} (c : α → List D) : ∀ a b : List α, flC c (a ++ b) = flC c a ++ flC c b
  | [], b => rfl
  | x :: a, b => by rw [List.cons_append, flC, flC, flC_app c a b, List.append_assoc]
theorem flC_row {α : Type} [Inhabited α] {c : α → List D} {n : Nat} (hc : ∀ x, (c x).length = n) : ∀ (xs : List α) (k : Nat), k < xs.length → rowAt n (flC c xs) k = c xs[k]!
  | x :: xs, 0, _ => by
    rw [rowAt, flC, Nat.zero_mul, List.drop_zero, List.take_append_of_le_length (by rw [hc]; exact Nat.le_refl _), List.take_of_length_le (by rw [hc]; exact Nat.le_refl _)]; rfl
  | x :: xs, k + 1, h => by
    have := flC_row hc xs k (by simpa using h)
    rw [rowAt] at this ⊢
    rw [flC, Nat.succ_mul, List.drop_append, hc, List.drop_of_length_le (by rw [hc]; omega), List.nil_append, Nat.add_sub_cancel, this]
    simp
theorem flC_one {α : Type} (c : α → List D) (x : α) : flC c [x] = c x := by simp [flC]
theorem take_snoc {α : Type} [Inhabited α] (xs : List α) (k : Nat) (h : k < xs.length) : xs.take (k + 1) = xs.take k ++ [xs[k]!] := by
  rw [List.take_succ_eq_append_getElem h, getElem!_pos xs k h]
theorem flC_snoc {α : Type} [Inhabited α] (c : α → List D) (xs : List α) (k : Nat) (h : k < xs.length) : flC c (xs.take (k + 1)) = flC c (xs.take k) ++ c xs[k]! := by
  rw [take_snoc xs k h, flC_app, flC_one]
theorem tysC_row' (xs : List Ty) (k : Nat) (h : k < xs.length) : rowAt 2 (tysC xs) k = tyC xs[k]! := by rw [tysC_row xs k h, getElem!_pos xs k h]
theorem tmsC_row' (xs : List Tm) (k : Nat) (h : k < xs.length) : rowAt 9 (tmsC xs) k = tmC xs[k]! := by rw [tmsC_row xs k h, getElem!_pos xs k h]
theorem tysC_flat : ∀ xs : List Ty, tysC xs = flC tyC xs
  | [] => by simp [tysC, flC]
  | x :: xs => by rw [tysC, flC, tysC_flat xs]
theorem tmsC_flat : ∀ xs : List Tm, tmsC xs = flC tmC xs
  | [] => by simp [tmsC, flC]
  | x :: xs => by rw [tmsC, flC, tmsC_flat xs]
theorem strs_row (xs : List ByteArray) (k : Nat) (h : k < xs.length) : rowAt 1 (xs.map D.str) k = [.str xs[k]!] := by
  have h2 : k < (xs.map D.str).length := by simpa using h
  rw [rowAt, Nat.mul_one, List.drop_eq_getElem_cons h2]
  simp [getElem!_pos xs k h]
theorem ints_row (xs : List Int) (k : Nat) (h : k < xs.length) : rowAt 1 (xs.map D.int) k = [.int xs[k]!] := by
  have h2 : k < (xs.map D.int).length := by simpa using h
  rw [rowAt, Nat.mul_one, List.drop_eq_getElem_cons h2]
  simp [getElem!_pos xs k h]

theorem tysC_snoc' (xs : List Ty) (k : Nat) (h : k < xs.length) : tysC (xs.take (k + 1)) = tysC (xs.take k) ++ tyC xs[k]! := by rw [tysC_flat, tysC_flat, flC_snoc tyC xs k h]
theorem tmsC_snoc' (xs : List Tm) (k : Nat) (h : k < xs.length) : tmsC (xs.take (k + 1)) = tmsC (xs.take k) ++ tmC xs[k]! := by rw [tmsC_flat, tmsC_flat, flC_snoc tmC xs k h]
theorem cast1 (k : Nat) : ((k + 1 : Nat) : Int) = (k : Int) + 1 := rfl
def rn2 (a b c d : Nat) : Nat → Nat := fun i => if i = a then b else if i = c then d else i
def rn3 (a b c d e f : Nat) : Nat → Nat := fun i => if i = a then b else if i = c then d else if i = e then f else i
theorem mem_bang {α : Type} [Inhabited α] {xs : List α} {k : Nat} (h : k < xs.length) : xs[k]! ∈ xs := by rw [getElem!_pos xs k h]; exact List.getElem_mem h
def rnL (l : List (Nat × Nat)) : Nat → Nat := fun i => (look l i).getD i
def rn1 (a b : Nat) : Nat → Nat := fun i => if i = a then b else i
/-! what is a list of a kind -/
theorem lists_of {α : Type} (k : K) (F : List CK) (sz : Nat) (hF : k.fields = F) (hsz : F.length = sz) (c : α → List D) (hrow : ∀ ds, ConfL ds F → ∃ x, ds = c x) {d : D} (h : Conf d (.sl k)) : ∃ xs : List α, d = .rows sz xs.length (flC c xs) := by
  cases d <;> simp only [Conf] at h <;> first | (cases h; done) | skip
  rename_i sz' n cs
  obtain ⟨k0, e, h1, h2, h3, h4⟩ := h
  injection e with e
  subst e
  subst hF
  subst hsz
  obtain ⟨xs, hal, hc⟩ := rows_of k.fields c (flC c) rfl (fun a xs => by rw [flC]) n cs h4 fun j hj => hrow _ (conf_row n k.fields cs j h4 hj)
  exact ⟨xs, by rw [hal, ← hc, h1]⟩
structure Tg where
  name : ByteArray
  ty : Ty
  level : Int
  deriving Inhabited
def tgC (t : Tg) : List D := [.str t.name, .int t.ty.kind, tysD t.ty.args, .int t.level]
def tgsD (xs : List Tg) : D := .rows 4 xs.length (flC tgC xs)
theorem tgC_len (t : Tg) : (tgC t).length = 4 := rfl
theorem tgs_of {d : D} (h : Conf d (.sl .typing)) : ∃ xs, d = tgsD xs :=
  lists_of .typing _ 4 rfl rfl tgC (fun ds h => by
    obtain ⟨s0, i1, d2, i3, rfl, h2⟩ := conf_typing h
    obtain ⟨b, rfl⟩ := tys_of d2 h2
    exact ⟨⟨s0, .mk i1 b, i3⟩, rfl⟩) h
structure Pm where
  name : ByteArray
  ty : Ty
  dyn : Bool
  deriving Inhabited
def pmC (t : Pm) : List D := [.str t.name, .int t.ty.kind, tysD t.ty.args, .bool t.dyn]
def pmsD (xs : List Pm) : D := .rows 4 xs.length (flC pmC xs)
theorem pmC_len (t : Pm) : (pmC t).length = 4 := rfl
theorem pms_of {d : D} (h : Conf d (.sl .param)) : ∃ xs, d = pmsD xs :=
  lists_of .param _ 4 rfl rfl pmC (fun ds h => by
    obtain ⟨s0, i1, d2, b3, rfl, h2⟩ := conf_param h
    obtain ⟨b, rfl⟩ := tys_of d2 h2
    exact ⟨⟨s0, .mk i1 b, b3⟩, rfl⟩) h
structure Im where
  name : ByteArray
  coef : Int
  deriving Inhabited
def imC (t : Im) : List D := [.str t.name, .int t.coef]
def imsD (xs : List Im) : D := .rows 2 xs.length (flC imC xs)
theorem imC_len (t : Im) : (imC t).length = 2 := rfl
theorem its_of {d : D} (h : Conf d (.sl .item)) : ∃ xs, d = imsD xs :=
  lists_of .item _ 2 rfl rfl imC (fun ds h => by
    obtain ⟨s0, i1, rfl⟩ := conf_item h
    exact ⟨⟨s0, i1⟩, rfl⟩) h
structure Ins where
  op : Int
  a : Int
  deriving Inhabited
def insC (t : Ins) : List D := [.int t.op, .int t.a]
def inssD (xs : List Ins) : D := .rows 2 xs.length (flC insC xs)
theorem insC_len (t : Ins) : (insC t).length = 2 := rfl
theorem ins_of {d : D} (h : Conf d (.sl .instr)) : ∃ xs, d = inssD xs :=
  lists_of .instr _ 2 rfl rfl insC (fun ds h => by
    obtain ⟨s0, i1, rfl⟩ := conf_instr h
    exact ⟨⟨s0, i1⟩, rfl⟩) h

structure Sm where
  const : Int
  items : List Im
  deriving Inhabited
def sumC (t : Sm) : List D := [.int t.const, imsD t.items]
theorem sum_of {ds : List D} (h : ConfL ds [.int, .sl .item]) : ∃ s, ds = sumC s := by
  have hl := ConfL.len _ _ h
  match ds, hl with
  | [x0, x1], _ =>
    simp only [ConfL] at h
    obtain ⟨c0, r0, e0, h0, c1, r1, e1, h1, _⟩ := h
    injection e0 with e0 e0'
    subst e0 e0'
    injection e1 with e1 e1'
    subst e1
    obtain ⟨xs, rfl⟩ := its_of h1
    obtain ⟨n, rfl⟩ : ∃ n, x0 = D.int n := by cases x0 <;> simp only [Conf] at h0 <;> first | exact ⟨_, rfl⟩ | (cases h0; done) | (obtain ⟨_, e, _⟩ := h0; cases e)
    exact ⟨⟨n, xs⟩, rfl⟩

/-! ## A contract used on memory -/
theorem con_one {P : Program} {f : FuncId} {ps : List PD} {d : D} (h : Con P f ps [.one d]) {w : World} {us : List Value} (hu : RepPDs w ps us) (hg : GI w := by first | assumption | exact ⟨fun k hk => by simp [GBl] at hk, trivial⟩) : Calls P f us.toArray w fun e w' => ∃ u, e = .returned u ∧ Fresh w' w.heap.size d u ∧ Below w.heap.size w w' :=
  (h.2 w us hg hu).mono fun e w' ⟨hb, vs, he, hf⟩ => by
    have hl : vs.length = 1 := by obtain ⟨fp, ho, _⟩ := hf; exact OwnVs.len _ _ _ ho
    match vs, hl with
    | [u], _ => exact ⟨u, he, FreshL.first (by simpa [flatD] using hf), hb⟩
theorem con_ag {P : Program} {f : FuncId} {ps : List PD} {ds : List D} (h : Con P f ps [.ag ds]) {w : World} {us : List Value} (hu : RepPDs w ps us) (hg : GI w := by first | assumption | exact ⟨fun k hk => by simp [GBl] at hk, trivial⟩) : Calls P f us.toArray w fun e w' => ∃ vs, e = .returned (.agg vs.toArray) ∧ FreshL w' w.heap.size ds vs ∧ Below w.heap.size w w' :=
  (h.2 w us hg hu).mono fun e w' ⟨hb, vs, he, hf⟩ => by
    have hl : vs.length = (flatD [PD.ag ds]).length := by obtain ⟨fp, ho, _⟩ := hf; exact OwnVs.len _ _ _ ho
    simp only [flatD, List.append_nil] at hl hf
    refine ⟨vs, ?_, hf, hb⟩
    rw [he]
    simp only [packV, retV, ← hl, List.take_length]
theorem rpd_nil (w : World) : RepPDs w [] [] := by unfold RepPDs; rfl
theorem rpd_cons {w : World} {p : PD} {ps : List PD} {v : Value} {vs : List Value} (h : RepPD w p v) (h2 : RepPDs w ps vs) : RepPDs w (p :: ps) (v :: vs) := by unfold RepPDs; exact ⟨v, vs, rfl, h, h2⟩
theorem rpd_int {w : World} (n : Int) : RepPD w (.one (.int n)) (.int .i64 n) := by unfold RepPD RepV; rfl
theorem rpd_str {w : World} (n : ByteArray) : RepPD w (.one (.str n)) (.string n) := by unfold RepPD RepV; rfl
theorem rpd_bool {w : World} (n : Bool) : RepPD w (.one (.bool n)) (.bool n) := by unfold RepPD RepV; rfl
theorem rpd_one {w : World} {d : D} {v : Value} (h : RepV w w.heap.size d v) : RepPD w (.one d) v := by unfold RepPD; exact h
theorem rpd_ag {w : World} {ds : List D} {vs : List Value} (h : RepVs w w.heap.size ds vs) : RepPD w (.ag ds) (.agg vs.toArray) := by unfold RepPD; exact ⟨vs, rfl, h⟩
theorem fresh_int {w : World} {B : Nat} {n : Int} {u : Value} (h : Fresh w B (.int n) u) : u = .int .i64 n := by obtain ⟨fp, h, _⟩ := h; unfold OwnV at h; exact h.1
theorem fresh_bool {w : World} {B : Nat} {n : Bool} {u : Value} (h : Fresh w B (.bool n) u) : u = .bool n := by obtain ⟨fp, h, _⟩ := h; unfold OwnV at h; exact h.1
theorem fresh_str {w : World} {B : Nat} {n : ByteArray} {u : Value} (h : Fresh w B (.str n) u) : u = .string n := by obtain ⟨fp, h, _⟩ := h; unfold OwnV at h; exact h.1
theorem fresh_rows {w : World} {B sz n : Nat} {cs : List D} {u : Value} (h : Fresh w B (.rows sz n cs) u) : ∃ a c, u = .slice a n c := by obtain ⟨fp, h, _⟩ := h; unfold OwnV at h; obtain ⟨a, c, e, _⟩ := h; exact ⟨a, c, e⟩
end Go.Proofs.Ytepjbiffebbelaa
