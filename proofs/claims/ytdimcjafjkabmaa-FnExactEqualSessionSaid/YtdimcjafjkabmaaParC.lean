/-
  Arguments of the laws' own types: caches and sessions.
-/
import Derived.Test.YtdimcjafjkabmaaPar
namespace Go.Proofs.Ytdimcjafjkabmaa
open Go.RowKit Go.ChangeShapes Go.WideShapes Go.Deep
theorem cells_Cache : Try.prog.cellsOf 24 = 3 := by kernel_rfl
set_option maxRecDepth 100000 in
theorem tr_Cache {H : Type} {enc : TypeId × Value → H} {w : World} {base : Nat} {spare : Nat → Bool} {held : Bool} (fuel : Nat) : OpenEl enc Try.prog w base spare held [.sl .entry, .int, .int] 24 fuel := by
  intro cs x h
  obtain ⟨xs, m, rfl, _, hlen, hxl, hg⟩ := DataW.trod_struct Try.underlying24 h
  rw [cells_Cache] at hlen
  match cs, hlen with
  | [c0, c1, c2], _ =>
    have hx0 : xs[0]? = some (xs[0]'(by rw [hxl]; decide)) := List.getElem?_eq_getElem _
    have g0 := (hg 0 _ rfl).trans hx0
    replace g0 : DataW.trod enc Try.prog w base spare held m 22 [c0] = some (xs[0]'(by rw [hxl]; decide)) := by
      simpa [cells_sl_entry] using g0
    obtain ⟨ds0, hc0, hr0, hs0⟩ := open_cell_sl (open_sl_entry m) _ _ g0
    have hx1 : xs[1]? = some (xs[1]'(by rw [hxl]; decide)) := List.getElem?_eq_getElem _
    have g1 := (hg 1 _ rfl).trans hx1
    replace g1 : DataW.trod enc Try.prog w base spare held m 3 [c1] = some (xs[1]'(by rw [hxl]; decide)) := by
      simpa [cells_int] using g1
    obtain ⟨ds1, hc1, hr1, hs1⟩ := open_cell_int Try.underlying3 m _ _ g1
    have hx2 : xs[2]? = some (xs[2]'(by rw [hxl]; decide)) := List.getElem?_eq_getElem _
    have g2 := (hg 2 _ rfl).trans hx2
    replace g2 : DataW.trod enc Try.prog w base spare held m 3 [c2] = some (xs[2]'(by rw [hxl]; decide)) := by
      simpa [cells_int] using g2
    obtain ⟨ds2, hc2, hr2, hs2⟩ := open_cell_int Try.underlying3 m _ _ g2
    exact ⟨ds0 ++ (ds1 ++ (ds2)), (ConfL.append _ _ _ _ hc0 (ConfL.append _ _ _ _ hc1 hc2)), (RepVs.append _ _ _ _ hr0 (RepVs.append _ _ _ _ hr1 hr2)), (StrBL.append _ _ hs0 (StrBL.append _ _ hs1 hs2))⟩
theorem cells_Session : Try.prog.cellsOf 40 = 22 := by kernel_rfl
set_option maxRecDepth 100000 in
theorem tr_Session {H : Type} {enc : TypeId × Value → H} {w : World} {base : Nat} {spare : Nat → Bool} {held : Bool} (fuel : Nat) : OpenEl enc Try.prog w base spare held [.int, .str, .str, .int, .int, .sl .ty, .int, .sl .ty, .sl .tm, .sl .param, .int, .str, .str, .int, .int, .sl .ty, .int, .sl .ty, .sl .tm, .sl .entry, .int, .int] 40 fuel := by
  intro cs x h
  obtain ⟨xs, m, rfl, _, hlen, hxl, hg⟩ := DataW.trod_struct Try.underlying40 h
  rw [cells_Session] at hlen
  match cs, hlen with
  | [c0, c1, c2, c3, c4, c5, c6, c7, c8, c9, c10, c11, c12, c13, c14, c15, c16, c17, c18, c19, c20, c21], _ =>
    have hx0 : xs[0]? = some (xs[0]'(by rw [hxl]; decide)) := List.getElem?_eq_getElem _
    have g0 := (hg 0 _ rfl).trans hx0
    replace g0 : DataW.trod enc Try.prog w base spare held m 37 [c0, c1, c2, c3, c4, c5, c6, c7, c8] = some (xs[0]'(by rw [hxl]; decide)) := by
      simpa [cells_Term] using g0
    obtain ⟨ds0, hc0, hr0, hs0⟩ := tr_Term m (fun q _ => open_sl_tm q) _ _ g0
    have hx1 : xs[1]? = some (xs[1]'(by rw [hxl]; decide)) := List.getElem?_eq_getElem _
    have g1 := (hg 1 _ rfl).trans hx1
    replace g1 : DataW.trod enc Try.prog w base spare held m 38 [c9] = some (xs[1]'(by rw [hxl]; decide)) := by
      simpa [cells_sl_param] using g1
    obtain ⟨ds1, hc1, hr1, hs1⟩ := open_cell_sl (open_sl_param m) _ _ g1
    have hx2 : xs[2]? = some (xs[2]'(by rw [hxl]; decide)) := List.getElem?_eq_getElem _
    have g2 := (hg 2 _ rfl).trans hx2
    replace g2 : DataW.trod enc Try.prog w base spare held m 37 [c10, c11, c12, c13, c14, c15, c16, c17, c18] = some (xs[2]'(by rw [hxl]; decide)) := by
      simpa [cells_Term] using g2
    obtain ⟨ds2, hc2, hr2, hs2⟩ := tr_Term m (fun q _ => open_sl_tm q) _ _ g2
    have hx3 : xs[3]? = some (xs[3]'(by rw [hxl]; decide)) := List.getElem?_eq_getElem _
    have g3 := (hg 3 _ rfl).trans hx3
    replace g3 : DataW.trod enc Try.prog w base spare held m 24 [c19, c20, c21] = some (xs[3]'(by rw [hxl]; decide)) := by
      simpa [cells_Cache] using g3
    obtain ⟨ds3, hc3, hr3, hs3⟩ := tr_Cache m _ _ g3
    exact ⟨ds0 ++ (ds1 ++ (ds2 ++ (ds3))), (ConfL.append _ _ _ _ hc0 (ConfL.append _ _ _ _ hc1 (ConfL.append _ _ _ _ hc2 hc3))), (RepVs.append _ _ _ _ hr0 (RepVs.append _ _ _ _ hr1 (RepVs.append _ _ _ _ hr2 hr3))), (StrBL.append _ _ hs0 (StrBL.append _ _ hs1 (StrBL.append _ _ hs2 hs3)))⟩
end Go.Proofs.Ytdimcjafjkabmaa
