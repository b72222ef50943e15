/-
  Types and terms as trees, and the cells in which they lie.
-/
import Derived.Test.YtpoemjeelbmpkaaGreatConf
namespace Go.Proofs.YtpoemjeelbmpkaaGreat
open Go.RowKit

inductive Ty where
  | mk (kind : Int) (args : List Ty)
def Ty.kind : Ty → Int | .mk k _ => k
def Ty.args : Ty → List Ty | .mk _ a => a
inductive Tm where
  | mk (kind : Int) (name other : ByteArray) (n : Int) (ty res : Ty) (args : List Tm)
def Tm.kind : Tm → Int | .mk k _ _ _ _ _ _ => k
def Tm.name : Tm → ByteArray | .mk _ s _ _ _ _ _ => s
def Tm.other : Tm → ByteArray | .mk _ _ s _ _ _ _ => s
def Tm.n : Tm → Int | .mk _ _ _ n _ _ _ => n
def Tm.ty : Tm → Ty | .mk _ _ _ _ t _ _ => t
def Tm.res : Tm → Ty | .mk _ _ _ _ _ t _ => t
def Tm.args : Tm → List Tm | .mk _ _ _ _ _ _ a => a

mutual
def tyC : Ty → List D
  | .mk k xs => [.int k, .rows 2 xs.length (tysC xs)]
def tysC : List Ty → List D
  | [] => []
  | a :: xs => tyC a ++ tysC xs
end
def tysD (xs : List Ty) : D := .rows 2 xs.length (tysC xs)
mutual
def tmC : Tm → List D
  | .mk k s o n t r xs => .int k :: .str s :: .str o :: .int n :: (tyC t ++ (tyC r ++ [.rows 9 xs.length (tmsC xs)]))
def tmsC : List Tm → List D
  | [] => []
  | a :: xs => tmC a ++ tmsC xs
end
def tmsD (xs : List Tm) : D := .rows 9 xs.length (tmsC xs)

theorem tyC_eq (t : Ty) : tyC t = [.int t.kind, tysD t.args] := by cases t; rfl
theorem tmC_eq (e : Tm) : tmC e = [.int e.kind, .str e.name, .str e.other, .int e.n, .int e.ty.kind, tysD e.ty.args, .int e.res.kind, tysD e.res.args, tmsD e.args] := by
  obtain ⟨k, s, o, n, t, r, xs⟩ := e
  rw [tmC, tyC_eq, tyC_eq]; rfl
theorem tyC_len (t : Ty) : (tyC t).length = 2 := by rw [tyC_eq]; rfl
theorem tmC_len (t : Tm) : (tmC t).length = 9 := by rw [tmC_eq]; rfl
theorem tysC_row : ∀ (xs : List Ty) (k : Nat) (h : k < xs.length), rowAt 2 (tysC xs) k = tyC xs[k]
  | a :: xs, 0, _ => by
    rw [rowAt, tysC, Nat.zero_mul, List.drop_zero, List.take_append_of_le_length (by rw [tyC_len]; exact Nat.le_refl _), List.take_of_length_le (by rw [tyC_len]; exact Nat.le_refl _)]; rfl
  | a :: xs, k + 1, h => by
    have := tysC_row xs k (by simpa using h)
    rw [rowAt] at this ⊢
    rw [tysC, Nat.succ_mul, List.drop_append, tyC_len, List.drop_of_length_le (by rw [tyC_len]; omega), List.nil_append, Nat.add_sub_cancel, this]
    rfl
theorem tmsC_row : ∀ (xs : List Tm) (k : Nat) (h : k < xs.length), rowAt 9 (tmsC xs) k = tmC xs[k]
  | a :: xs, 0, _ => by
    rw [rowAt, tmsC, Nat.zero_mul, List.drop_zero, List.take_append_of_le_length (by rw [tmC_len]; exact Nat.le_refl _), List.take_of_length_le (by rw [tmC_len]; exact Nat.le_refl _)]; rfl
  | a :: xs, k + 1, h => by
    have := tmsC_row xs k (by simpa using h)
    rw [rowAt] at this ⊢
    rw [tmsC, Nat.succ_mul, List.drop_append, tmC_len, List.drop_of_length_le (by rw [tmC_len]; omega), List.nil_append, Nat.add_sub_cancel, this]
    rfl

theorem Ty.ind {p : Ty → Prop} (h : ∀ k xs, (∀ a ∈ xs, p a) → p (.mk k xs)) : ∀ t, p t
  | .mk k xs => h k xs (go xs)
where go : ∀ xs : List Ty, ∀ a ∈ xs, p a
  | [], _, hm => by simp at hm
  | c :: xs, a, hm => by
    rcases List.mem_cons.1 hm with e | hm
    · rw [e]; exact Ty.ind h c
    · exact go xs a hm
theorem Tm.ind {p : Tm → Prop} (h : ∀ e : Tm, (∀ a ∈ e.args, p a) → p e) : ∀ e, p e
  | .mk k s o n t r xs => h (.mk k s o n t r xs) (go xs)
where go : ∀ xs : List Tm, ∀ a ∈ xs, p a
  | [], _, hm => by simp at hm
  | c :: xs, a, hm => by
    rcases List.mem_cons.1 hm with e | hm
    · rw [e]; exact Tm.ind h c
    · exact go xs a hm

/-! what is read xs a kind is a tree -/
theorem rows_of {α : Type} (F : List CK) (c : α → List D) (cs' : List α → List D) (hnil : cs' [] = []) (hcons : ∀ a xs, cs' (a :: xs) = c a ++ cs' xs)
    (n : Nat) : ∀ (cs : List D), ConfL cs (List.replicate n F).flatten → (∀ k, k < n → ∃ a, rowAt F.length cs k = c a) → ∃ xs : List α, xs.length = n ∧ cs = cs' xs := by
  induction n with
  | zero => intro cs h _; simp at h; have := ConfL.len _ _ h; exact ⟨[], rfl, by rw [hnil]; exact List.eq_nil_of_length_eq_zero (by simpa using this)⟩
  | succ n ih =>
    intro cs h hr
    rw [List.replicate_succ, List.flatten_cons] at h
    obtain ⟨h1, h2⟩ := ConfL.split cs F _ h
    obtain ⟨a, ha⟩ := hr 0 (by omega)
    obtain ⟨xs, hl, has⟩ := ih (cs.drop F.length) h2 fun k hk => by
      obtain ⟨b, hb⟩ := hr (k + 1) (by omega)
      refine ⟨b, ?_⟩
      rw [← hb]
      simp only [rowAt, List.drop_drop]
      rw [show (k + 1) * F.length = F.length + k * F.length by rw [Nat.succ_mul, Nat.add_comm]]
    refine ⟨a :: xs, by simp [hl], ?_⟩
    rw [hcons, ← ha, ← has]
    simp [rowAt]
theorem tys_of : ∀ d, Conf d (.sl .ty) → ∃ xs, d = tysD xs := by
  refine D.ind (fun d hd h => by rcases hd with rfl | ⟨_, rfl⟩ <;> (unfold Conf at h; exact h.elim)) (fun n h => by unfold Conf at h; cases h) (fun b h => by unfold Conf at h; cases h) (fun s h => by unfold Conf at h; cases h) fun sz n cs ih h => ?_
  unfold Conf at h
  obtain ⟨k0, e, hsz, hl, hm, hcs⟩ := h
  injection e with e
  subst e
  obtain rfl : sz = 2 := hsz
  obtain ⟨xs, hal, hc⟩ := rows_of K.ty.fields tyC tysC rfl (fun a xs => by rw [tysC]) n cs hcs fun k hk => by
    obtain ⟨i0, d1, hrow, cf1⟩ := conf_ty (conf_row n K.ty.fields cs k hcs hk)
    obtain ⟨bs, rfl⟩ := ih d1 (rowAt_mem 2 k cs d1 (by have h2 : rowAt 2 cs k = _ := hrow; rw [h2]; simp)) cf1
    exact ⟨.mk i0 bs, by rw [hrow, tyC_eq]; rfl⟩
  exact ⟨xs, by rw [tysD, hal, hc]⟩
theorem tms_of : ∀ d, Conf d (.sl .tm) → ∃ xs, d = tmsD xs := by
  refine D.ind (fun d hd h => by rcases hd with rfl | ⟨_, rfl⟩ <;> (unfold Conf at h; exact h.elim)) (fun n h => by unfold Conf at h; cases h) (fun b h => by unfold Conf at h; cases h) (fun s h => by unfold Conf at h; cases h) fun sz n cs ih h => ?_
  unfold Conf at h
  obtain ⟨k0, e, hsz, hl, hm, hcs⟩ := h
  injection e with e
  subst e
  obtain rfl : sz = 9 := hsz
  obtain ⟨xs, hal, hc⟩ := rows_of K.tm.fields tmC tmsC rfl (fun a xs => by rw [tmsC]) n cs hcs fun k hk => by
    obtain ⟨i0, s1, s2, i3, i4, d5, i6, d7, d8, hrow, cf5, cf7, cf8⟩ := conf_tm (conf_row n K.tm.fields cs k hcs hk)
    obtain ⟨b5, rfl⟩ := tys_of d5 cf5
    obtain ⟨b7, rfl⟩ := tys_of d7 cf7
    obtain ⟨b8, rfl⟩ := ih d8 (rowAt_mem 9 k cs d8 (by have h2 : rowAt 9 cs k = _ := hrow; rw [h2]; simp)) cf8
    exact ⟨.mk i0 s1 s2 i3 (.mk i4 b5) (.mk i6 b7) b8, by rw [hrow, tmC_eq]; rfl⟩
  exact ⟨xs, by rw [tmsD, hal, hc]⟩
theorem tm_of {ds : List D} (h : ConfL ds K.tm.fields) : ∃ e, ds = tmC e := by
  obtain ⟨i0, s1, s2, i3, i4, d5, i6, d7, d8, rfl, cf5, cf7, cf8⟩ := conf_tm h
  obtain ⟨b5, rfl⟩ := tys_of d5 cf5
  obtain ⟨b7, rfl⟩ := tys_of d7 cf7
  obtain ⟨b8, rfl⟩ := tms_of d8 cf8
  exact ⟨.mk i0 s1 s2 i3 (.mk i4 b5) (.mk i6 b7) b8, by rw [tmC_eq]; rfl⟩

/-! the other way round: a tree whose lists are not too long is of its kind -/
end Go.Proofs.YtpoemjeelbmpkaaGreat
