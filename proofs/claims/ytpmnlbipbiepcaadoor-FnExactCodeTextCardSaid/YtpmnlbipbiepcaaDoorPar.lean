/-
  Arguments of the laws' own types: what they read as.
-/
import Derived.Test.YtpmnlbipbiepcaaDoorParB
namespace Go.Proofs.YtpmnlbipbiepcaaDoor
open Go.RowKit Go.ChangeShapes Go.WideShapes Go.Deep
theorem cells_int : Tryd.prog.cellsOf 3 = 1 := by kernel_rfl
theorem cells_string : Tryd.prog.cellsOf 9 = 1 := by kernel_rfl
theorem cells_bool : Tryd.prog.cellsOf 4 = 1 := by kernel_rfl
theorem cells_Instr : Tryd.prog.cellsOf 56 = 2 := by kernel_rfl
set_option maxRecDepth 100000 in
theorem tr_Instr {H : Type} {enc : TypeId × Value → H} {w : World} {base : Nat} {spare : Nat → Bool} {held : Bool} (fuel : Nat) : OpenEl enc Tryd.prog w base spare held [.int, .int] 56 fuel := by
  intro cs x h
  obtain ⟨xs, m, rfl, _, hlen, hxl, hg⟩ := DataW.trod_struct Tryd.underlying56 h
  rw [cells_Instr] at hlen
  match cs, hlen with
  | [c0, c1], _ =>
    have hx0 : xs[0]? = some (xs[0]'(by rw [hxl]; decide)) := List.getElem?_eq_getElem _
    have g0 := (hg 0 _ rfl).trans hx0
    replace g0 : DataW.trod enc Tryd.prog w base spare held m 3 [c0] = some (xs[0]'(by rw [hxl]; decide)) := by
      simpa [cells_int] using g0
    obtain ⟨ds0, hc0, hr0, hs0⟩ := open_cell_int Tryd.underlying3 m _ _ g0
    have hx1 : xs[1]? = some (xs[1]'(by rw [hxl]; decide)) := List.getElem?_eq_getElem _
    have g1 := (hg 1 _ rfl).trans hx1
    replace g1 : DataW.trod enc Tryd.prog w base spare held m 3 [c1] = some (xs[1]'(by rw [hxl]; decide)) := by
      simpa [cells_int] using g1
    obtain ⟨ds1, hc1, hr1, hs1⟩ := open_cell_int Tryd.underlying3 m _ _ g1
    exact ⟨ds0 ++ (ds1), (ConfL.append _ _ _ _ hc0 hc1), (RepVs.append _ _ _ _ hr0 hr1), (StrBL.append _ _ hs0 hs1)⟩
theorem cells_sl_instr : Tryd.prog.cellsOf 22 = 1 := by kernel_rfl
theorem open_sl_instr {H : Type} {enc : TypeId × Value → H} {w : World} {base : Nat} {spare : Nat → Bool} {held : Bool} : ∀ (fuel : Nat), OpenSl enc Tryd.prog w base spare held .instr 22 fuel := by
  intro fuel
  induction fuel using Nat.strongRecOn with
  | _ fuel ih =>
    match fuel, ih with
    | 0, _ => intro cs x h; simp [DataW.trod] at h
    | fuel + 1, ih =>
      exact open_sl (k := .instr) Tryd.underlying22 cells_Instr (by decide) fuel (tr_Instr fuel)
theorem cells_sl_ints : Tryd.prog.cellsOf 38 = 1 := by kernel_rfl
theorem open_sl_ints {H : Type} {enc : TypeId × Value → H} {w : World} {base : Nat} {spare : Nat → Bool} {held : Bool} : ∀ (fuel : Nat), OpenSl enc Tryd.prog w base spare held .ints 38 fuel := by
  intro fuel
  induction fuel using Nat.strongRecOn with
  | _ fuel ih =>
    match fuel, ih with
    | 0, _ => intro cs x h; simp [DataW.trod] at h
    | fuel + 1, ih =>
      exact open_sl (k := .ints) Tryd.underlying38 cells_int (by decide) fuel (open_cell_int Tryd.underlying3 fuel)
end Go.Proofs.YtpmnlbipbiepcaaDoor
