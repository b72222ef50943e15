/-
  Arguments of the laws' own types: what they read as.
-/
import Derived.Test.YtkfknmnocddjbaaParB
namespace Go.Proofs.Ytkfknmnocddjbaa
open Go.RowKit Go.ChangeShapes Go.WideShapes Go.Deep
theorem cells_int : Try.prog.cellsOf 3 = 1 := by kernel_rfl
theorem cells_string : Try.prog.cellsOf 9 = 1 := by kernel_rfl
theorem cells_bool : Try.prog.cellsOf 4 = 1 := by kernel_rfl
theorem cells_sl_ty : Try.prog.cellsOf 23 = 1 := by kernel_rfl
theorem cells_Type : Try.prog.cellsOf 25 = 2 := by kernel_rfl
set_option maxRecDepth 100000 in
theorem tr_Type {H : Type} {enc : TypeId × Value → H} {w : World} {base : Nat} {spare : Nat → Bool} {held : Bool} (fuel : Nat) (IH : ∀ m, m < fuel → OpenSl enc Try.prog w base spare held .ty 23 m) : OpenEl enc Try.prog w base spare held [.int, .sl .ty] 25 fuel := by
  intro cs x h
  obtain ⟨xs, m, rfl, _, hlen, hxl, hg⟩ := DataW.trod_struct Try.underlying25 h
  rw [cells_Type] at hlen
  match cs, hlen with
  | [c0, c1], _ =>
    have hx0 : xs[0]? = some (xs[0]'(by rw [hxl]; decide)) := List.getElem?_eq_getElem _
    have g0 := (hg 0 _ rfl).trans hx0
    replace g0 : DataW.trod enc Try.prog w base spare held m 3 [c0] = some (xs[0]'(by rw [hxl]; decide)) := by
      simpa [cells_int] using g0
    obtain ⟨ds0, hc0, hr0, hs0⟩ := open_cell_int Try.underlying3 m _ _ g0
    have hx1 : xs[1]? = some (xs[1]'(by rw [hxl]; decide)) := List.getElem?_eq_getElem _
    have g1 := (hg 1 _ rfl).trans hx1
    replace g1 : DataW.trod enc Try.prog w base spare held m 23 [c1] = some (xs[1]'(by rw [hxl]; decide)) := by
      simpa [cells_sl_ty] using g1
    obtain ⟨ds1, hc1, hr1, hs1⟩ := open_cell_sl (IH m (by omega)) _ _ g1
    exact ⟨ds0 ++ (ds1), (ConfL.append _ _ _ _ hc0 hc1), (RepVs.append _ _ _ _ hr0 hr1), (StrBL.append _ _ hs0 hs1)⟩
theorem open_sl_ty {H : Type} {enc : TypeId × Value → H} {w : World} {base : Nat} {spare : Nat → Bool} {held : Bool} : ∀ (fuel : Nat), OpenSl enc Try.prog w base spare held .ty 23 fuel := by
  intro fuel
  induction fuel using Nat.strongRecOn with
  | _ fuel ih =>
    match fuel, ih with
    | 0, _ => intro cs x h; simp [DataW.trod] at h
    | fuel + 1, ih =>
      exact open_sl (k := .ty) Try.underlying23 cells_Type (by decide) fuel (tr_Type fuel (fun q hq => ih q (by omega)))
theorem cells_sl_tm : Try.prog.cellsOf 26 = 1 := by kernel_rfl
theorem cells_Term : Try.prog.cellsOf 28 = 9 := by kernel_rfl
set_option maxRecDepth 100000 in
theorem tr_Term {H : Type} {enc : TypeId × Value → H} {w : World} {base : Nat} {spare : Nat → Bool} {held : Bool} (fuel : Nat) (IH : ∀ m, m < fuel → OpenSl enc Try.prog w base spare held .tm 26 m) : OpenEl enc Try.prog w base spare held [.int, .str, .str, .int, .int, .sl .ty, .int, .sl .ty, .sl .tm] 28 fuel := by
  intro cs x h
  obtain ⟨xs, m, rfl, _, hlen, hxl, hg⟩ := DataW.trod_struct Try.underlying28 h
  rw [cells_Term] at hlen
  match cs, hlen with
  | [c0, c1, c2, c3, c4, c5, c6, c7, c8], _ =>
    have hx0 : xs[0]? = some (xs[0]'(by rw [hxl]; decide)) := List.getElem?_eq_getElem _
    have g0 := (hg 0 _ rfl).trans hx0
    replace g0 : DataW.trod enc Try.prog w base spare held m 3 [c0] = some (xs[0]'(by rw [hxl]; decide)) := by
      simpa [cells_int] using g0
    obtain ⟨ds0, hc0, hr0, hs0⟩ := open_cell_int Try.underlying3 m _ _ g0
    have hx1 : xs[1]? = some (xs[1]'(by rw [hxl]; decide)) := List.getElem?_eq_getElem _
    have g1 := (hg 1 _ rfl).trans hx1
    replace g1 : DataW.trod enc Try.prog w base spare held m 9 [c1] = some (xs[1]'(by rw [hxl]; decide)) := by
      simpa [cells_string] using g1
    obtain ⟨ds1, hc1, hr1, hs1⟩ := open_cell_str Try.underlying9 m _ _ g1
    have hx2 : xs[2]? = some (xs[2]'(by rw [hxl]; decide)) := List.getElem?_eq_getElem _
    have g2 := (hg 2 _ rfl).trans hx2
    replace g2 : DataW.trod enc Try.prog w base spare held m 9 [c2] = some (xs[2]'(by rw [hxl]; decide)) := by
      simpa [cells_string] using g2
    obtain ⟨ds2, hc2, hr2, hs2⟩ := open_cell_str Try.underlying9 m _ _ g2
    have hx3 : xs[3]? = some (xs[3]'(by rw [hxl]; decide)) := List.getElem?_eq_getElem _
    have g3 := (hg 3 _ rfl).trans hx3
    replace g3 : DataW.trod enc Try.prog w base spare held m 3 [c3] = some (xs[3]'(by rw [hxl]; decide)) := by
      simpa [cells_int] using g3
    obtain ⟨ds3, hc3, hr3, hs3⟩ := open_cell_int Try.underlying3 m _ _ g3
    have hx4 : xs[4]? = some (xs[4]'(by rw [hxl]; decide)) := List.getElem?_eq_getElem _
    have g4 := (hg 4 _ rfl).trans hx4
    replace g4 : DataW.trod enc Try.prog w base spare held m 25 [c4, c5] = some (xs[4]'(by rw [hxl]; decide)) := by
      simpa [cells_Type] using g4
    obtain ⟨ds4, hc4, hr4, hs4⟩ := tr_Type m (fun q _ => open_sl_ty q) _ _ g4
    have hx5 : xs[5]? = some (xs[5]'(by rw [hxl]; decide)) := List.getElem?_eq_getElem _
    have g5 := (hg 5 _ rfl).trans hx5
    replace g5 : DataW.trod enc Try.prog w base spare held m 25 [c6, c7] = some (xs[5]'(by rw [hxl]; decide)) := by
      simpa [cells_Type] using g5
    obtain ⟨ds5, hc5, hr5, hs5⟩ := tr_Type m (fun q _ => open_sl_ty q) _ _ g5
    have hx6 : xs[6]? = some (xs[6]'(by rw [hxl]; decide)) := List.getElem?_eq_getElem _
    have g6 := (hg 6 _ rfl).trans hx6
    replace g6 : DataW.trod enc Try.prog w base spare held m 26 [c8] = some (xs[6]'(by rw [hxl]; decide)) := by
      simpa [cells_sl_tm] using g6
    obtain ⟨ds6, hc6, hr6, hs6⟩ := open_cell_sl (IH m (by omega)) _ _ g6
    exact ⟨ds0 ++ (ds1 ++ (ds2 ++ (ds3 ++ (ds4 ++ (ds5 ++ (ds6)))))), (ConfL.append _ _ _ _ hc0 (ConfL.append _ _ _ _ hc1 (ConfL.append _ _ _ _ hc2 (ConfL.append _ _ _ _ hc3 (ConfL.append _ _ _ _ hc4 (ConfL.append _ _ _ _ hc5 hc6)))))), (RepVs.append _ _ _ _ hr0 (RepVs.append _ _ _ _ hr1 (RepVs.append _ _ _ _ hr2 (RepVs.append _ _ _ _ hr3 (RepVs.append _ _ _ _ hr4 (RepVs.append _ _ _ _ hr5 hr6)))))), (StrBL.append _ _ hs0 (StrBL.append _ _ hs1 (StrBL.append _ _ hs2 (StrBL.append _ _ hs3 (StrBL.append _ _ hs4 (StrBL.append _ _ hs5 hs6))))))⟩
theorem open_sl_tm {H : Type} {enc : TypeId × Value → H} {w : World} {base : Nat} {spare : Nat → Bool} {held : Bool} : ∀ (fuel : Nat), OpenSl enc Try.prog w base spare held .tm 26 fuel := by
  intro fuel
  induction fuel using Nat.strongRecOn with
  | _ fuel ih =>
    match fuel, ih with
    | 0, _ => intro cs x h; simp [DataW.trod] at h
    | fuel + 1, ih =>
      exact open_sl (k := .tm) Try.underlying26 cells_Term (by decide) fuel (tr_Term fuel (fun q hq => ih q (by omega)))
theorem cells_Param : Try.prog.cellsOf 91 = 4 := by kernel_rfl
set_option maxRecDepth 100000 in
theorem tr_Param {H : Type} {enc : TypeId × Value → H} {w : World} {base : Nat} {spare : Nat → Bool} {held : Bool} (fuel : Nat) : OpenEl enc Try.prog w base spare held [.str, .int, .sl .ty, .bool] 91 fuel := by
  intro cs x h
  obtain ⟨xs, m, rfl, _, hlen, hxl, hg⟩ := DataW.trod_struct Try.underlying91 h
  rw [cells_Param] at hlen
  match cs, hlen with
  | [c0, c1, c2, c3], _ =>
    have hx0 : xs[0]? = some (xs[0]'(by rw [hxl]; decide)) := List.getElem?_eq_getElem _
    have g0 := (hg 0 _ rfl).trans hx0
    replace g0 : DataW.trod enc Try.prog w base spare held m 9 [c0] = some (xs[0]'(by rw [hxl]; decide)) := by
      simpa [cells_string] using g0
    obtain ⟨ds0, hc0, hr0, hs0⟩ := open_cell_str Try.underlying9 m _ _ g0
    have hx1 : xs[1]? = some (xs[1]'(by rw [hxl]; decide)) := List.getElem?_eq_getElem _
    have g1 := (hg 1 _ rfl).trans hx1
    replace g1 : DataW.trod enc Try.prog w base spare held m 25 [c1, c2] = some (xs[1]'(by rw [hxl]; decide)) := by
      simpa [cells_Type] using g1
    obtain ⟨ds1, hc1, hr1, hs1⟩ := tr_Type m (fun q _ => open_sl_ty q) _ _ g1
    have hx2 : xs[2]? = some (xs[2]'(by rw [hxl]; decide)) := List.getElem?_eq_getElem _
    have g2 := (hg 2 _ rfl).trans hx2
    replace g2 : DataW.trod enc Try.prog w base spare held m 4 [c3] = some (xs[2]'(by rw [hxl]; decide)) := by
      simpa [cells_bool] using g2
    obtain ⟨ds2, hc2, hr2, hs2⟩ := open_cell_bool Try.underlying4 m _ _ g2
    exact ⟨ds0 ++ (ds1 ++ (ds2)), (ConfL.append _ _ _ _ hc0 (ConfL.append _ _ _ _ hc1 hc2)), (RepVs.append _ _ _ _ hr0 (RepVs.append _ _ _ _ hr1 hr2)), (StrBL.append _ _ hs0 (StrBL.append _ _ hs1 hs2))⟩
theorem cells_sl_param : Try.prog.cellsOf 22 = 1 := by kernel_rfl
theorem open_sl_param {H : Type} {enc : TypeId × Value → H} {w : World} {base : Nat} {spare : Nat → Bool} {held : Bool} : ∀ (fuel : Nat), OpenSl enc Try.prog w base spare held .param 22 fuel := by
  intro fuel
  induction fuel using Nat.strongRecOn with
  | _ fuel ih =>
    match fuel, ih with
    | 0, _ => intro cs x h; simp [DataW.trod] at h
    | fuel + 1, ih =>
      exact open_sl (k := .param) Try.underlying22 cells_Param (by decide) fuel (tr_Param fuel)
theorem cells_Item : Try.prog.cellsOf 197 = 2 := by kernel_rfl
set_option maxRecDepth 100000 in
theorem tr_Item {H : Type} {enc : TypeId × Value → H} {w : World} {base : Nat} {spare : Nat → Bool} {held : Bool} (fuel : Nat) : OpenEl enc Try.prog w base spare held [.str, .int] 197 fuel := by
  intro cs x h
  obtain ⟨xs, m, rfl, _, hlen, hxl, hg⟩ := DataW.trod_struct Try.underlying197 h
  rw [cells_Item] at hlen
  match cs, hlen with
  | [c0, c1], _ =>
    have hx0 : xs[0]? = some (xs[0]'(by rw [hxl]; decide)) := List.getElem?_eq_getElem _
    have g0 := (hg 0 _ rfl).trans hx0
    replace g0 : DataW.trod enc Try.prog w base spare held m 9 [c0] = some (xs[0]'(by rw [hxl]; decide)) := by
      simpa [cells_string] using g0
    obtain ⟨ds0, hc0, hr0, hs0⟩ := open_cell_str Try.underlying9 m _ _ g0
    have hx1 : xs[1]? = some (xs[1]'(by rw [hxl]; decide)) := List.getElem?_eq_getElem _
    have g1 := (hg 1 _ rfl).trans hx1
    replace g1 : DataW.trod enc Try.prog w base spare held m 3 [c1] = some (xs[1]'(by rw [hxl]; decide)) := by
      simpa [cells_int] using g1
    obtain ⟨ds1, hc1, hr1, hs1⟩ := open_cell_int Try.underlying3 m _ _ g1
    exact ⟨ds0 ++ (ds1), (ConfL.append _ _ _ _ hc0 hc1), (RepVs.append _ _ _ _ hr0 hr1), (StrBL.append _ _ hs0 hs1)⟩
theorem cells_sl_item : Try.prog.cellsOf 52 = 1 := by kernel_rfl
theorem open_sl_item {H : Type} {enc : TypeId × Value → H} {w : World} {base : Nat} {spare : Nat → Bool} {held : Bool} : ∀ (fuel : Nat), OpenSl enc Try.prog w base spare held .item 52 fuel := by
  intro fuel
  induction fuel using Nat.strongRecOn with
  | _ fuel ih =>
    match fuel, ih with
    | 0, _ => intro cs x h; simp [DataW.trod] at h
    | fuel + 1, ih =>
      exact open_sl (k := .item) Try.underlying52 cells_Item (by decide) fuel (tr_Item fuel)
theorem cells_Instr : Try.prog.cellsOf 144 = 2 := by kernel_rfl
set_option maxRecDepth 100000 in
theorem tr_Instr {H : Type} {enc : TypeId × Value → H} {w : World} {base : Nat} {spare : Nat → Bool} {held : Bool} (fuel : Nat) : OpenEl enc Try.prog w base spare held [.int, .int] 144 fuel := by
  intro cs x h
  obtain ⟨xs, m, rfl, _, hlen, hxl, hg⟩ := DataW.trod_struct Try.underlying144 h
  rw [cells_Instr] at hlen
  match cs, hlen with
  | [c0, c1], _ =>
    have hx0 : xs[0]? = some (xs[0]'(by rw [hxl]; decide)) := List.getElem?_eq_getElem _
    have g0 := (hg 0 _ rfl).trans hx0
    replace g0 : DataW.trod enc Try.prog w base spare held m 3 [c0] = some (xs[0]'(by rw [hxl]; decide)) := by
      simpa [cells_int] using g0
    obtain ⟨ds0, hc0, hr0, hs0⟩ := open_cell_int Try.underlying3 m _ _ g0
    have hx1 : xs[1]? = some (xs[1]'(by rw [hxl]; decide)) := List.getElem?_eq_getElem _
    have g1 := (hg 1 _ rfl).trans hx1
    replace g1 : DataW.trod enc Try.prog w base spare held m 3 [c1] = some (xs[1]'(by rw [hxl]; decide)) := by
      simpa [cells_int] using g1
    obtain ⟨ds1, hc1, hr1, hs1⟩ := open_cell_int Try.underlying3 m _ _ g1
    exact ⟨ds0 ++ (ds1), (ConfL.append _ _ _ _ hc0 hc1), (RepVs.append _ _ _ _ hr0 hr1), (StrBL.append _ _ hs0 hs1)⟩
theorem cells_sl_instr : Try.prog.cellsOf 67 = 1 := by kernel_rfl
theorem open_sl_instr {H : Type} {enc : TypeId × Value → H} {w : World} {base : Nat} {spare : Nat → Bool} {held : Bool} : ∀ (fuel : Nat), OpenSl enc Try.prog w base spare held .instr 67 fuel := by
  intro fuel
  induction fuel using Nat.strongRecOn with
  | _ fuel ih =>
    match fuel, ih with
    | 0, _ => intro cs x h; simp [DataW.trod] at h
    | fuel + 1, ih =>
      exact open_sl (k := .instr) Try.underlying67 cells_Instr (by decide) fuel (tr_Instr fuel)
theorem cells_sl_ints : Try.prog.cellsOf 46 = 1 := by kernel_rfl
theorem open_sl_ints {H : Type} {enc : TypeId × Value → H} {w : World} {base : Nat} {spare : Nat → Bool} {held : Bool} : ∀ (fuel : Nat), OpenSl enc Try.prog w base spare held .ints 46 fuel := by
  intro fuel
  induction fuel using Nat.strongRecOn with
  | _ fuel ih =>
    match fuel, ih with
    | 0, _ => intro cs x h; simp [DataW.trod] at h
    | fuel + 1, ih =>
      exact open_sl (k := .ints) Try.underlying46 cells_int (by decide) fuel (open_cell_int Try.underlying3 fuel)
theorem cells_Sum : Try.prog.cellsOf 54 = 2 := by kernel_rfl
set_option maxRecDepth 100000 in
theorem tr_Sum {H : Type} {enc : TypeId × Value → H} {w : World} {base : Nat} {spare : Nat → Bool} {held : Bool} (fuel : Nat) : OpenEl enc Try.prog w base spare held [.int, .sl .item] 54 fuel := by
  intro cs x h
  obtain ⟨xs, m, rfl, _, hlen, hxl, hg⟩ := DataW.trod_struct Try.underlying54 h
  rw [cells_Sum] at hlen
  match cs, hlen with
  | [c0, c1], _ =>
    have hx0 : xs[0]? = some (xs[0]'(by rw [hxl]; decide)) := List.getElem?_eq_getElem _
    have g0 := (hg 0 _ rfl).trans hx0
    replace g0 : DataW.trod enc Try.prog w base spare held m 3 [c0] = some (xs[0]'(by rw [hxl]; decide)) := by
      simpa [cells_int] using g0
    obtain ⟨ds0, hc0, hr0, hs0⟩ := open_cell_int Try.underlying3 m _ _ g0
    have hx1 : xs[1]? = some (xs[1]'(by rw [hxl]; decide)) := List.getElem?_eq_getElem _
    have g1 := (hg 1 _ rfl).trans hx1
    replace g1 : DataW.trod enc Try.prog w base spare held m 52 [c1] = some (xs[1]'(by rw [hxl]; decide)) := by
      simpa [cells_sl_item] using g1
    obtain ⟨ds1, hc1, hr1, hs1⟩ := open_cell_sl (open_sl_item m) _ _ g1
    exact ⟨ds0 ++ (ds1), (ConfL.append _ _ _ _ hc0 hc1), (RepVs.append _ _ _ _ hr0 hr1), (StrBL.append _ _ hs0 hs1)⟩
end Go.Proofs.Ytkfknmnocddjbaa
