/-
  Lists of a kind: when their cells fit it, and how many marks they take.
-/
import Derived.Test.YtepjbiffebbelaaDat
import Derived.Test.YtepjbiffebbelaaUMark
namespace Go.Proofs.Ytepjbiffebbelaa
open Go.RowKit
set_option linter.unusedVariables false
set_option linter.unusedSimpArgs false
theorem szL_flC {α : Type} [Inhabited α] (c : α → List D) : ∀ (ys : List α) (j : Nat), j < ys.length → szL (c ys[j]!) ≤ szL (flC c ys)
  | [], j, hj => by simp at hj
  | y :: ys, j, hj => by
    rw [flC, szL_append]
    cases j with
    | zero => simp
    | succ j => have := szL_flC c ys j (by simpa using hj); simp only [List.getElem!_cons_succ]; omega
theorem confL_app2 : ∀ {a b : List D} {A B : List CK}, ConfL a A → ConfL b B → ConfL (a ++ b) (A ++ B)
  | [], b, A, B, h, h2 => by unfold ConfL at h; subst h; simpa using h2
  | x :: a, b, A, B, h, h2 => by
    unfold ConfL at h
    obtain ⟨c, r, rfl, h1, h3⟩ := h
    have := confL_app2 h3 h2
    rw [List.cons_append, List.cons_append]
    unfold ConfL
    exact ⟨c, r ++ B, rfl, h1, this⟩
theorem confL_fl {α : Type} (c : α → List D) (F : List CK) : ∀ ys : List α, (∀ y ∈ ys, ConfL (c y) F) → ConfL (flC c ys) (List.replicate ys.length F).flatten
  | [], _ => by rw [flC]; unfold ConfL; rfl
  | y :: ys, h => by
    rw [flC, List.length_cons, List.replicate_succ, List.flatten_cons]
    exact confL_app2 (h y (List.mem_cons_self ..)) (confL_fl c F ys fun z hz => h z (List.mem_cons_of_mem _ hz))
theorem conf_fl {α : Type} (k : K) {sz : Nat} (c : α → List D) (hsz : k.fields.length = sz) (hc : ∀ x, (c x).length = sz) {ys : List α} (hl : ys.length ≤ maxLen) (h : ∀ y ∈ ys, ConfL (c y) k.fields) : Conf (.rows sz ys.length (flC c ys)) (.sl k) := by
  unfold Conf
  exact ⟨k, rfl, hsz.symm, flC_len hc ys, hl, confL_fl c k.fields ys h⟩
theorem conf_el {α : Type} [Inhabited α] (k : K) {sz : Nat} (c : α → List D) (hc : ∀ x, (c x).length = sz) {ys : List α} (h : Conf (.rows sz ys.length (flC c ys)) (.sl k)) : ys.length ≤ maxLen ∧ ∀ y ∈ ys, ConfL (c y) k.fields := by
  unfold Conf at h
  obtain ⟨k', e, h1, h2, h3, h4⟩ := h
  injection e with e
  subst e
  refine ⟨h3, fun y hy => ?_⟩
  obtain ⟨j, hj, rfl⟩ := List.mem_iff_getElem.mp hy
  have := conf_row ys.length k.fields (flC c ys) j h4 hj
  rw [← h1, flC_row hc ys j hj, getElem!_pos ys j hj] at this
  exact this
theorem szL_fl {α : Type} (c : α → List D) (B : Nat) : ∀ ys : List α, (∀ y ∈ ys, szL (c y) ≤ B) → szL (flC c ys) ≤ ys.length * B
  | [], _ => by simp [flC, szL]
  | y :: ys, h => by
    have h1 := h y (List.mem_cons_self ..)
    have h2 := szL_fl c B ys fun z hz => h z (List.mem_cons_of_mem _ hz)
    rw [flC, szL_append, List.length_cons, Nat.succ_mul]
    omega
theorem szL_mem {α : Type} (c : α → List D) : ∀ (ys : List α) (y : α), y ∈ ys → szL (c y) ≤ szL (flC c ys)
  | [], y, h => by cases h
  | z :: ys, y, h => by
    rw [flC, szL_append]
    rcases List.mem_cons.mp h with rfl | h
    · omega
    · have := szL_mem c ys y h; omega
/-- A list made of elements of small size takes few marks. -/
theorem cnt_fl {α : Type} {k : K} {sz : Nat} (c : α → List D) {ys : List α} (h : Conf (.rows sz ys.length (flC c ys)) (.sl k)) (hl : ys.length ≤ 1048576) (hs : ∀ y ∈ ys, szL (c y) ≤ 1048576) : cntD (.rows sz ys.length (flC c ys)) ≤ 17592186044416 := by
  have h1 := cntD_bd h
  have h2 := szL_fl c 1048576 ys hs
  have h3 : ys.length * 1048576 ≤ 1048576 * 1048576 := Nat.mul_le_mul_right _ hl
  simp only [szD] at h1
  omega
/-- Elements out of a list. -/
theorem sub_fl {α : Type} [Inhabited α] {k : K} {sz : Nat} (c : α → List D) (hsz : k.fields.length = sz) (hc : ∀ x, (c x).length = sz) {xs ys : List α} (hx : Conf (.rows sz xs.length (flC c xs)) (.sl k)) (hz : szD (.rows sz xs.length (flC c xs)) ≤ 1048576) (hl : ys.length ≤ xs.length) (hm : ∀ y ∈ ys, y ∈ xs) : Conf (.rows sz ys.length (flC c ys)) (.sl k) ∧ cntD (.rows sz ys.length (flC c ys)) ≤ 17592186044416 := by
  obtain ⟨h1, h2⟩ := conf_el k c hc hx
  have hcf := conf_fl k c hsz hc (ys := ys) (by omega) fun y hy => h2 y (hm y hy)
  simp only [szD] at hz
  refine ⟨hcf, cnt_fl c hcf (by omega) fun y hy => ?_⟩
  have := szL_mem c xs y (hm y hy)
  omega
mutual
theorem ok_of_szTy : ∀ t : Ty, szL (tyC t) ≤ maxLen → t.ok
  | .mk k xs, h => by
    simp only [tyC, szL, szD] at h
    unfold Ty.ok
    exact ⟨by omega, ok_of_szTys xs (by omega)⟩
theorem ok_of_szTys : ∀ xs : List Ty, szL (tysC xs) ≤ maxLen → tysOk xs
  | [], _ => by unfold tysOk; trivial
  | a :: xs, h => by
    rw [tysC, szL_append] at h
    unfold tysOk
    exact ⟨ok_of_szTy a (by omega), ok_of_szTys xs (by omega)⟩
end
mutual
theorem ok_of_szTm : ∀ t : Tm, szL (tmC t) ≤ maxLen → t.ok
  | .mk k s o n t r xs, h => by
    have e : tmC (.mk k s o n t r xs) = [.int k, .str s, .str o, .int n] ++ (tyC t ++ (tyC r ++ [.rows 9 xs.length (tmsC xs)])) := rfl
    rw [e, szL_append, szL_append, szL_append] at h
    simp only [szL, szD] at h
    unfold Tm.ok
    exact ⟨ok_of_szTy t (by omega), ok_of_szTy r (by omega), by omega, ok_of_szTms xs (by omega)⟩
theorem ok_of_szTms : ∀ xs : List Tm, szL (tmsC xs) ≤ maxLen → tmsOk xs
  | [], _ => by unfold tmsOk; trivial
  | a :: xs, h => by
    rw [tmsC, szL_append] at h
    unfold tmsOk
    exact ⟨ok_of_szTm a (by omega), ok_of_szTms xs (by omega)⟩
end
theorem conf_tyS {t : Ty} (h : szL (tyC t) ≤ 1000000000000) : ConfL (tyC t) K.ty.fields := conf_tyC t (ok_of_szTy t (by unfold maxLen; omega))
theorem conf_tmS {t : Tm} (h : szL (tmC t) ≤ 1000000000000) : ConfL (tmC t) K.tm.fields := conf_tmC t (ok_of_szTm t (by unfold maxLen; omega))
theorem confL_ints : ∀ ns : List Int, ConfL (ns.map D.int) (List.replicate ns.length K.ints.fields).flatten
  | [] => by simp only [List.map_nil, List.length_nil, List.replicate_zero, List.flatten_nil]; unfold ConfL; rfl
  | n :: ns => by
    rw [List.map_cons, List.length_cons, List.replicate_succ, List.flatten_cons]
    have h := confL_ints ns
    exact confL_app2 (a := [.int n]) (by unfold ConfL; exact ⟨_, _, rfl, by unfold Conf; rfl, by unfold ConfL; rfl⟩) h
theorem conf_intsD (ns : List Int) (h : ns.length ≤ maxLen) : Conf (intsD ns) (.sl .ints) := by
  unfold intsD Conf
  exact ⟨.ints, rfl, rfl, by simp, h, confL_ints ns⟩
theorem szL_ints : ∀ ns : List Int, szL (ns.map D.int) = 0
  | [] => rfl
  | n :: ns => by rw [List.map_cons, szL, szD, szL_ints ns]
theorem szD_intsEq (ns : List Int) : szD (intsD ns) = ns.length := by rw [intsD, szD, szL_ints]; rfl
end Go.Proofs.Ytepjbiffebbelaa
