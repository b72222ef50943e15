/-
  From the form's reading of an argument to plain words on memory: slices of whatever elements.
-/
import Derived.Test.YtpoemjeelbmpkaaGreatConf
import Derived.ProofKit
import Derived.OpenShut
import Derived.Deep.Slices
namespace Go.Proofs.YtpoemjeelbmpkaaGreat
open Go.RowKit Go.ChangeShapes Go.WideShapes Go.Deep

theorem mapM_some_at {α β : Type} (f : α → Option β) : ∀ (l : List α) (r : List β), l.mapM f = some r → ∀ x ∈ l, ∃ y, f x = some y
  | [], _, _, x, hx => by simp at hx
  | a :: l, r, h, x, hx => by
    rw [List.mapM_cons] at h
    cases hfa : f a with
    | none => simp [hfa] at h
    | some b =>
      simp only [hfa] at h
      cases hl : l.mapM f with
      | none => simp [hl] at h
      | some r' =>
        rcases List.mem_cons.1 hx with rfl | hx
        · exact ⟨b, hfa⟩
        · exact mapM_some_at f l r' hl x hx

section
variable {H : Type} {enc : TypeId × Value → H} {P : Program} {w : World} {base : Nat} {spare : Nat → Bool} {held : Bool}
/-- A slice opened with its fuel. -/
theorem trod_slice_fuel {t e : TypeId} {fuel : Nat} {cs : List Value} {x : DataW H × List MemPlace} (ht : P.underlying t = some (.slice e)) (h : DataW.trod enc P w base spare held (fuel + 1) t cs = some x) :
    cs = [.slice none 0 0] ∨
    ∃ (a : Addr) (len cap : Nat), cs = [.slice (some a) len cap] ∧ len ≤ cap ∧ cap ≤ maxLen ∧
      ∀ i, i < len → ∃ cs' y, w.cells? base (a.add (i * P.cellsOf e)) (P.cellsOf e) = some cs' ∧ DataW.trod enc P w base spare held fuel e cs' = some y := by
  unfold DataW.trod at h
  rw [ht] at h
  split at h <;> simp_all
  rename_i e' a len cap heq
  obtain ⟨⟨hb, hl, hm⟩, h⟩ := h
  simp only [Option.bind_eq_some_iff] at h
  obtain ⟨elems, he, -⟩ := h
  refine ⟨a, len, cap, ⟨rfl, rfl, rfl⟩, hl, hm, fun i hi => ?_⟩
  obtain ⟨y, hy⟩ := mapM_some_at _ _ _ he i (List.mem_range.2 hi)
  simp only [Option.bind_eq_some_iff] at hy
  obtain ⟨cs', h1, h2⟩ := hy
  exact ⟨cs', h1, _, _, h2⟩

def OpenSl (enc : TypeId × Value → H) (P : Program) (w : World) (base : Nat) (spare : Nat → Bool) (held : Bool) (k : K) (t : TypeId) (fuel : Nat) : Prop :=
  ∀ (cs : List Value) (x : DataW H × List MemPlace), DataW.trod enc P w base spare held fuel t cs = some x → ∃ v d, cs = [v] ∧ Conf d (.sl k) ∧ RepV w w.heap.size d v ∧ StrB d
def OpenEl (enc : TypeId × Value → H) (P : Program) (w : World) (base : Nat) (spare : Nat → Bool) (held : Bool) (F : List CK) (t : TypeId) (fuel : Nat) : Prop :=
  ∀ (cs : List Value) (x : DataW H × List MemPlace), DataW.trod enc P w base spare held fuel t cs = some x → ∃ ds, ConfL ds F ∧ RepVs w w.heap.size ds cs ∧ StrBL ds

theorem RepVs.append {w : World} {S : Nat} : ∀ (a b : List D) (u v : List Value), RepVs w S a u → RepVs w S b v → RepVs w S (a ++ b) (u ++ v)
  | [], b, u, v, h, h' => by unfold RepVs at h; subst h; exact h'
  | d :: a, b, u, v, h, h' => by
    unfold RepVs at h
    obtain ⟨x, r, rfl, hd, h2⟩ := h
    rw [List.cons_append, List.cons_append]
    unfold RepVs
    exact ⟨x, r ++ v, rfl, hd, RepVs.append a b r v h2 h'⟩
/-- From its elements' readings to the slice's. -/
theorem open_sl {k : K} {t e : TypeId} (ht : P.underlying t = some (.slice e)) (hC : P.cellsOf e = k.fields.length) (hpos : 0 < k.fields.length) (fuel : Nat)
    (hE : OpenEl enc P w base spare held k.fields e fuel) : OpenSl enc P w base spare held k t (fuel + 1) := by
  intro cs x h
  rcases trod_slice_fuel ht h with rfl | ⟨a, len, cap, rfl, hl, hm, hel⟩
  · refine ⟨_, .rows k.fields.length 0 [], rfl, ?_, ?_, by unfold StrB StrBL; trivial⟩
    · unfold Conf; exact ⟨k, rfl, rfl, by simp, by simp, by simp; unfold ConfL; rfl⟩
    · unfold RepV; exact ⟨none, 0, rfl, Nat.le_refl _, Nat.zero_le _, by simp, .inl rfl⟩
  · rcases Nat.eq_zero_or_pos len with h0 | h0
    · subst h0
      refine ⟨_, .rows k.fields.length 0 [], rfl, ?_, ?_, by unfold StrB StrBL; trivial⟩
      · unfold Conf; exact ⟨k, rfl, rfl, by simp, by simp, by simp; unfold ConfL; rfl⟩
      · unfold RepV; exact ⟨some a, cap, rfl, Nat.zero_le _, hm, by simp, .inl rfl⟩
    -- the first cell tells that the address is plain
    have hspot : ∃ b off, a = ⟨b, off, none⟩ ∧ b < w.heap.size := by
      obtain ⟨cs', y, hc, _⟩ := hel 0 h0
      obtain ⟨_, hcl, hat⟩ := World.cells?_some hc
      have h1 := hat 0 (by omega)
      have h2 : cs'[0]? = some (cs'[0]'(by omega)) := List.getElem?_eq_getElem (by omega)
      rw [h2] at h1
      simp only [Nat.zero_mul] at h1
      have h3 : a.add 0 = a := by simp [Addr.add]
      rw [h3, h3] at h1
      have h4 := World.cell?_spot h1
      have h5 := World.block_lt_of_cell? w _ h1
      obtain ⟨b, off, s⟩ := a
      exact ⟨b, off, by simp at h4; rw [h4], h5⟩
    obtain ⟨b, off, rfl, hb⟩ := hspot
    -- all rows
    have hall : ∀ m, m ≤ len → ∃ ds vs, ds.length = m * k.fields.length ∧ ConfL ds (List.replicate m k.fields).flatten ∧ RepVs w w.heap.size ds vs ∧ Cells w b off vs ∧ StrBL ds := by
      intro m
      induction m with
      | zero => intro _; exact ⟨[], [], by simp, by simp; unfold ConfL; rfl, by unfold RepVs; rfl, fun i hi => by simp at hi, by unfold StrBL; trivial⟩
      | succ m ih =>
        intro hm'
        obtain ⟨ds, vs, hdl, hcf, hrv, hce, hsb⟩ := ih (by omega)
        obtain ⟨cs', y, hc, htr⟩ := hel m (by omega)
        obtain ⟨es, hce', hre', hsb'⟩ := hE cs' y htr
        obtain ⟨_, hcl, hat⟩ := World.cells?_some hc
        have hvl := hrv.len
        refine ⟨ds ++ es, vs ++ cs', ?_, ?_, RepVs.append _ _ _ _ hrv hre', ?_, StrBL.append _ _ hsb hsb'⟩
        · rw [List.length_append, hdl, hce'.len, Nat.succ_mul]
        · rw [List.replicate_succ', List.flatten_append]
          simp only [List.flatten_cons, List.flatten_nil, List.append_nil]
          exact ConfL.append _ _ _ _ hcf hce'
        · intro i hi
          by_cases hi1 : i < vs.length
          · rw [List.getElem_append_left hi1]; exact hce i hi1
          · rw [List.getElem_append_right (by omega)]
            have h1 := hat (i - vs.length) (by rw [List.length_append] at hi; omega)
            have h6 : ((⟨b, off, none⟩ : Addr).add (m * P.cellsOf e)).add (i - vs.length) = ⟨b, off + i, none⟩ := by
              rw [add_add, hC]
              have h7 : m * k.fields.length + (i - vs.length) = i := by rw [hvl, hdl] at *; omega
              rw [h7]
              unfold Addr.add
              split <;> simp_all
            rw [h6] at h1
            rw [h1]
            rw [List.length_append] at hi
            rw [List.getElem?_eq_getElem (by omega)]
    obtain ⟨ds, vs, hdl, hcf, hrv, hce, hsb⟩ := hall len (Nat.le_refl _)
    refine ⟨_, .rows k.fields.length len ds, rfl, ?_, ?_, by unfold StrB; exact hsb⟩
    · unfold Conf; exact ⟨k, rfl, rfl, hdl, by omega, hcf⟩
    · unfold RepV; exact ⟨_, cap, rfl, hl, hm, hdl, .inr ⟨b, off, vs, rfl, hb, hce, hrv⟩⟩
theorem open_cell_int {t : TypeId} (ht : P.underlying t = some (.int .i64)) (fuel : Nat) : OpenEl enc P w base spare held [.int] t fuel := by
  intro cs x h
  obtain ⟨n, rfl, _, _⟩ := DataW.trod_int ht h
  exact ⟨[.int n], by unfold ConfL; exact ⟨_, _, rfl, by unfold Conf; rfl, by unfold ConfL; rfl⟩, by unfold RepVs; exact ⟨_, _, rfl, by unfold RepV; rfl, by unfold RepVs; rfl⟩, by unfold StrBL StrBL StrB; exact ⟨trivial, trivial⟩⟩
theorem open_cell_str {t : TypeId} (ht : P.underlying t = some .string) (fuel : Nat) : OpenEl enc P w base spare held [.str] t fuel := by
  intro cs x h
  obtain ⟨n, rfl, _, hw⟩ := DataW.trod_string ht h
  exact ⟨[.str n], by unfold ConfL; exact ⟨_, _, rfl, by unfold Conf; rfl, by unfold ConfL; rfl⟩, by unfold RepVs; exact ⟨_, _, rfl, by unfold RepV; rfl, by unfold RepVs; rfl⟩, by unfold StrBL StrBL StrB; exact ⟨hw, trivial⟩⟩
theorem open_cell_sl {t : TypeId} {k : K} {fuel : Nat} (h : OpenSl enc P w base spare held k t fuel) : OpenEl enc P w base spare held [.sl k] t fuel := by
  intro cs x hx
  obtain ⟨v, d, rfl, hc, hr, hs⟩ := h cs x hx
  exact ⟨[d], by unfold ConfL; exact ⟨_, _, rfl, hc, by unfold ConfL; rfl⟩, by unfold RepVs; exact ⟨_, _, rfl, hr, by unfold RepVs; rfl⟩, by unfold StrBL StrBL; exact ⟨hs, trivial⟩⟩
end
end Go.Proofs.YtpoemjeelbmpkaaGreat
/-
  Arguments of the laws' own types: what they read as.
-/
namespace Go.Proofs.YtpoemjeelbmpkaaGreat
open Go.RowKit Go.ChangeShapes Go.WideShapes Go.Deep
theorem cells_int : Tryz.prog.cellsOf 3 = 1 := by kernel_rfl
theorem cells_string : Tryz.prog.cellsOf 9 = 1 := by kernel_rfl
theorem cells_sl_ty : Tryz.prog.cellsOf 22 = 1 := by kernel_rfl
theorem cells_Type : Tryz.prog.cellsOf 24 = 2 := by kernel_rfl
set_option maxRecDepth 100000 in
theorem tr_Type {H : Type} {enc : TypeId × Value → H} {w : World} {base : Nat} {spare : Nat → Bool} {held : Bool} (fuel : Nat) (IH : ∀ m, m < fuel → OpenSl enc Tryz.prog w base spare held .ty 22 m) : OpenEl enc Tryz.prog w base spare held [.int, .sl .ty] 24 fuel := by
  intro cs x h
  obtain ⟨xs, m, rfl, _, hlen, hxl, hg⟩ := DataW.trod_struct Tryz.underlying24 h
  rw [cells_Type] at hlen
  match cs, hlen with
  | [c0, c1], _ =>
    have hx0 : xs[0]? = some (xs[0]'(by rw [hxl]; decide)) := List.getElem?_eq_getElem _
    have g0 := (hg 0 _ rfl).trans hx0
    replace g0 : DataW.trod enc Tryz.prog w base spare held m 3 [c0] = some (xs[0]'(by rw [hxl]; decide)) := by
      simpa [cells_int] using g0
    obtain ⟨ds0, hc0, hr0, hs0⟩ := open_cell_int Tryz.underlying3 m _ _ g0
    have hx1 : xs[1]? = some (xs[1]'(by rw [hxl]; decide)) := List.getElem?_eq_getElem _
    have g1 := (hg 1 _ rfl).trans hx1
    replace g1 : DataW.trod enc Tryz.prog w base spare held m 22 [c1] = some (xs[1]'(by rw [hxl]; decide)) := by
      simpa [cells_sl_ty] using g1
    obtain ⟨ds1, hc1, hr1, hs1⟩ := open_cell_sl (IH m (by omega)) _ _ g1
    exact ⟨ds0 ++ (ds1), (ConfL.append _ _ _ _ hc0 hc1), (RepVs.append _ _ _ _ hr0 hr1), (StrBL.append _ _ hs0 hs1)⟩
theorem open_sl_ty {H : Type} {enc : TypeId × Value → H} {w : World} {base : Nat} {spare : Nat → Bool} {held : Bool} : ∀ (fuel : Nat), OpenSl enc Tryz.prog w base spare held .ty 22 fuel := by
  intro fuel
  induction fuel using Nat.strongRecOn with
  | _ fuel ih =>
    match fuel, ih with
    | 0, _ => intro cs x h; simp [DataW.trod] at h
    | fuel + 1, ih =>
      exact open_sl (k := .ty) Tryz.underlying22 cells_Type (by decide) fuel (tr_Type fuel (fun q hq => ih q (by omega)))
theorem cells_sl_tm : Tryz.prog.cellsOf 25 = 1 := by kernel_rfl
theorem cells_Term : Tryz.prog.cellsOf 27 = 9 := by kernel_rfl
set_option maxRecDepth 100000 in
theorem tr_Term {H : Type} {enc : TypeId × Value → H} {w : World} {base : Nat} {spare : Nat → Bool} {held : Bool} (fuel : Nat) (IH : ∀ m, m < fuel → OpenSl enc Tryz.prog w base spare held .tm 25 m) : OpenEl enc Tryz.prog w base spare held [.int, .str, .str, .int, .int, .sl .ty, .int, .sl .ty, .sl .tm] 27 fuel := by
  intro cs x h
  obtain ⟨xs, m, rfl, _, hlen, hxl, hg⟩ := DataW.trod_struct Tryz.underlying27 h
  rw [cells_Term] at hlen
  match cs, hlen with
  | [c0, c1, c2, c3, c4, c5, c6, c7, c8], _ =>
    have hx0 : xs[0]? = some (xs[0]'(by rw [hxl]; decide)) := List.getElem?_eq_getElem _
    have g0 := (hg 0 _ rfl).trans hx0
    replace g0 : DataW.trod enc Tryz.prog w base spare held m 3 [c0] = some (xs[0]'(by rw [hxl]; decide)) := by
      simpa [cells_int] using g0
    obtain ⟨ds0, hc0, hr0, hs0⟩ := open_cell_int Tryz.underlying3 m _ _ g0
    have hx1 : xs[1]? = some (xs[1]'(by rw [hxl]; decide)) := List.getElem?_eq_getElem _
    have g1 := (hg 1 _ rfl).trans hx1
    replace g1 : DataW.trod enc Tryz.prog w base spare held m 9 [c1] = some (xs[1]'(by rw [hxl]; decide)) := by
      simpa [cells_string] using g1
    obtain ⟨ds1, hc1, hr1, hs1⟩ := open_cell_str Tryz.underlying9 m _ _ g1
    have hx2 : xs[2]? = some (xs[2]'(by rw [hxl]; decide)) := List.getElem?_eq_getElem _
    have g2 := (hg 2 _ rfl).trans hx2
    replace g2 : DataW.trod enc Tryz.prog w base spare held m 9 [c2] = some (xs[2]'(by rw [hxl]; decide)) := by
      simpa [cells_string] using g2
    obtain ⟨ds2, hc2, hr2, hs2⟩ := open_cell_str Tryz.underlying9 m _ _ g2
    have hx3 : xs[3]? = some (xs[3]'(by rw [hxl]; decide)) := List.getElem?_eq_getElem _
    have g3 := (hg 3 _ rfl).trans hx3
    replace g3 : DataW.trod enc Tryz.prog w base spare held m 3 [c3] = some (xs[3]'(by rw [hxl]; decide)) := by
      simpa [cells_int] using g3
    obtain ⟨ds3, hc3, hr3, hs3⟩ := open_cell_int Tryz.underlying3 m _ _ g3
    have hx4 : xs[4]? = some (xs[4]'(by rw [hxl]; decide)) := List.getElem?_eq_getElem _
    have g4 := (hg 4 _ rfl).trans hx4
    replace g4 : DataW.trod enc Tryz.prog w base spare held m 24 [c4, c5] = some (xs[4]'(by rw [hxl]; decide)) := by
      simpa [cells_Type] using g4
    obtain ⟨ds4, hc4, hr4, hs4⟩ := tr_Type m (fun q _ => open_sl_ty q) _ _ g4
    have hx5 : xs[5]? = some (xs[5]'(by rw [hxl]; decide)) := List.getElem?_eq_getElem _
    have g5 := (hg 5 _ rfl).trans hx5
    replace g5 : DataW.trod enc Tryz.prog w base spare held m 24 [c6, c7] = some (xs[5]'(by rw [hxl]; decide)) := by
      simpa [cells_Type] using g5
    obtain ⟨ds5, hc5, hr5, hs5⟩ := tr_Type m (fun q _ => open_sl_ty q) _ _ g5
    have hx6 : xs[6]? = some (xs[6]'(by rw [hxl]; decide)) := List.getElem?_eq_getElem _
    have g6 := (hg 6 _ rfl).trans hx6
    replace g6 : DataW.trod enc Tryz.prog w base spare held m 25 [c8] = some (xs[6]'(by rw [hxl]; decide)) := by
      simpa [cells_sl_tm] using g6
    obtain ⟨ds6, hc6, hr6, hs6⟩ := open_cell_sl (IH m (by omega)) _ _ g6
    exact ⟨ds0 ++ (ds1 ++ (ds2 ++ (ds3 ++ (ds4 ++ (ds5 ++ (ds6)))))), (ConfL.append _ _ _ _ hc0 (ConfL.append _ _ _ _ hc1 (ConfL.append _ _ _ _ hc2 (ConfL.append _ _ _ _ hc3 (ConfL.append _ _ _ _ hc4 (ConfL.append _ _ _ _ hc5 hc6)))))), (RepVs.append _ _ _ _ hr0 (RepVs.append _ _ _ _ hr1 (RepVs.append _ _ _ _ hr2 (RepVs.append _ _ _ _ hr3 (RepVs.append _ _ _ _ hr4 (RepVs.append _ _ _ _ hr5 hr6)))))), (StrBL.append _ _ hs0 (StrBL.append _ _ hs1 (StrBL.append _ _ hs2 (StrBL.append _ _ hs3 (StrBL.append _ _ hs4 (StrBL.append _ _ hs5 hs6))))))⟩
theorem open_sl_tm {H : Type} {enc : TypeId × Value → H} {w : World} {base : Nat} {spare : Nat → Bool} {held : Bool} : ∀ (fuel : Nat), OpenSl enc Tryz.prog w base spare held .tm 25 fuel := by
  intro fuel
  induction fuel using Nat.strongRecOn with
  | _ fuel ih =>
    match fuel, ih with
    | 0, _ => intro cs x h; simp [DataW.trod] at h
    | fuel + 1, ih =>
      exact open_sl (k := .tm) Tryz.underlying25 cells_Term (by decide) fuel (tr_Term fuel (fun q hq => ih q (by omega)))
end Go.Proofs.YtpoemjeelbmpkaaGreat
