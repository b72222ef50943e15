/-
  Equality: the laws' own eqType.
-/
import Derived.Test.YtpoemjeelbmpkaaGreatConf
import Derived.Test.YtpoemjeelbmpkaaGreatRng
import Derived.Deep.RegionWith
import Derived.Lib.SlicesS
namespace Go.Proofs.YtpoemjeelbmpkaaGreat
open Go.RowKit
set_option linter.unusedVariables false
def EqTypeS (d : D) : Prop := ∀ (d' : D) (v u : Value) (S S' : Nat) (w : World), Conf d' (.sl .ty) → RepV w S d v → RepV w S' d' u → S ≤ w.heap.size → S' ≤ w.heap.size →
  Calls Tryz.prog 33 #[v, u] w fun e w' => e = .returned (.bool (eqD d d')) ∧ Below w.heap.size w w'
def EqTermS (d : D) : Prop := ∀ (d' : D) (v u : Value) (S S' : Nat) (w : World), Conf d' (.sl .tm) → RepV w S d v → RepV w S' d' u → S ≤ w.heap.size → S' ≤ w.heap.size →
  Calls Tryz.prog 18 #[v, u] w fun e w' => e = .returned (.bool (eqD d d')) ∧ Below w.heap.size w w'
set_option maxHeartbeats 1000000 in
theorem eqType_of (i0x : Int) (d1x : D) (i0y : Int) (d1y : D) (v1x : Value) (v1y : Value) (S S' : Nat) (w : World) (hs1 : EqTypeS d1x) (cf1 : Conf d1y (.sl .ty)) (hv1x : RepV w S d1x v1x) (hv1y : RepV w S' d1y v1y) (hS : S ≤ w.heap.size) (hS' : S' ≤ w.heap.size) :
    Calls Tryz.prog 17 #[.agg #[.int .i64 i0x, v1x], .agg #[.int .i64 i0y, v1y]] w fun e w' => e = .returned (.bool (eqL [.int i0x, d1x] [.int i0y, d1y])) ∧ Below w.heap.size w w' := by
  have HS1 := Lib.hid hs1
  clear hs1
  have hB0 : Below w.heap.size w ((w.alloc (.cells #[.int .i64 i0x, v1x] 32)).alloc (.cells #[.int .i64 i0y, v1y] 32)) := ((Below.refl _ _).alloc (Nat.le_refl _) _).alloc (by simp) _
  have hX0 : Blk ((w.alloc (.cells #[.int .i64 i0x, v1x] 32)).alloc (.cells #[.int .i64 i0y, v1y] 32)) w.heap.size 32 #[.int .i64 i0x, v1x] := (Blk.new w _ _).alloc _
  have hY0 : Blk ((w.alloc (.cells #[.int .i64 i0x, v1x] 32)).alloc (.cells #[.int .i64 i0y, v1y] 32)) (w.heap.size + 1) 32 #[.int .i64 i0y, v1y] := by simpa using Blk.new (w.alloc (.cells #[.int .i64 i0x, v1x] 32)) 32 #[.int .i64 i0y, v1y]
  by_cases hc0 : i0x = i0y
  case neg =>
    have HF := Lib.hid (show eqL [.int i0x, d1x] [.int i0y, d1y] = false from eqL_f (by intro h; apply hc0; simp at h; simp [h]))
    have ht0_0 : (i0x != i0y) = true := by simp [hc0]
    clear hc0
    go_enter Tryz.func17, Tryz.ntmps17
    go_wp2
    go_ret
    exact ⟨by rw [HF.out]; rfl, hB0⟩
  have ht0_0 : (i0x != i0y) = false := by simp [hc0]
  have HC0 := Lib.hid hc0
  clear hc0
  go_enter Tryz.func17, Tryz.ntmps17
  go_wp2_with fail
  refine (HS1.out d1y v1x v1y S S' _ cf1 (hv1x.later (hB0.mono hS) (Nat.le_refl _)) (hv1y.later (hB0.mono hS') (Nat.le_refl _)) (Nat.le_trans hS hB0.size) (Nat.le_trans hS' hB0.size)).mono ?_
  rintro e w1 ⟨rfl, hb1⟩
  have hB1 := hB0.trans (hb1.mono hB0.size)
  have hX1 := hX0.below hb1 hX0.lt
  have hY1 := hY0.below hb1 hY0.lt
  by_cases hc1 : d1x = d1y
  case neg =>
    have HF := Lib.hid (show eqL [.int i0x, d1x] [.int i0y, d1y] = false from eqL_f (by intro h; apply hc1; simp at h; simp [h]))
    rw [eqD_f hc1]
    clear hc1
    go_wp2
    go_ret
    exact ⟨by rw [HF.out]; rfl, hB1⟩
  rw [eqD_t hc1]
  have HC1 := Lib.hid hc1
  clear hc1
  have HF := Lib.hid (show eqL [.int i0x, d1x] [.int i0y, d1y] = true from eqL_t (by
    have g0 := HC0.out
    have g1 := HC1.out
    try simp at g0
    try simp at g1
    simp [g0, g1]))
  go_wp2
  go_ret
  exact ⟨by rw [HF.out]; rfl, hB1⟩
set_option maxHeartbeats 2000000 in
theorem eqTypeS_all : ∀ d, Conf d (.sl .ty) → EqTypeS d := by
  refine D.ind (fun d hd h => by rcases hd with rfl | ⟨_, rfl⟩ <;> (unfold Conf at h; exact h.elim)) (fun n h => by unfold Conf at h; cases h) (fun b h => by unfold Conf at h; cases h) (fun s h => by unfold Conf at h; cases h) fun sz n cs ih h => ?_
  unfold Conf at h
  obtain ⟨k0, e, hsz, hl, hm, hcs⟩ := h
  injection e with e
  subst e
  obtain rfl : sz = 2 := hsz
  intro d' v u S S' w h' hv hu hS hS'
  obtain ⟨n', cs', hde, hl', hm', hcs'⟩ := conf_sl h'
  obtain rfl : d' = .rows 2 n' cs' := hde
  replace hl' : cs'.length = n' * 2 := hl'
  obtain ⟨a, cap, rfl, hnc, hcm, _, hsl⟩ := hv.slc
  obtain ⟨a', cap', rfl, hnc', hcm', _, hsl'⟩ := hu.slc
  clear hsl hsl' h'
  unfold maxLen at hm hm' hcm hcm'
  by_cases hnn : n = n'
  case neg =>
    have HF := Lib.hid (show eqD (.rows 2 n cs) (.rows 2 n' cs') = false from eqD_f (by intro h; injection h with _ h1 _; exact hnn h1))
    have hne : ((n : Int) != (n' : Int)) = true := by simp; omega
    clear ih hcs hcs' hnn hl hl'
    go_enter Tryz.func33, Tryz.ntmps33
    go_wp2
    go_ret
    exact ⟨by rw [HF.out]; rfl, Below.refl _ _⟩
  subst hnn
  have hne : ((n : Int) != (n : Int)) = false := by simp
  have IH := Lib.hid ih
  have HCS := Lib.hid hcs
  have HV := Lib.hid hv
  have HL := Lib.hid hl
  have HCS' := Lib.hid hcs'
  have HU := Lib.hid hu
  have HL' := Lib.hid hl'
  clear ih hcs hv hl hcs' hu hl'
  go_enter Tryz.func33, Tryz.ntmps33
  go_wp2
  go_loopw [5] (fun i wr => ∃ k : Nat, k ≤ n ∧ i = .int .i64 k ∧ Hid (cs.take (k * 2) = cs'.take (k * 2)) ∧ Below w.heap.size w wr) (fun i _ => n - (intOf i).toNat)
  case atStart => exact ⟨0, Nat.zero_le _, rfl, by simp [Hid], Below.refl _ _⟩
  case round =>
    obtain ⟨k, hk, rfl, HQ, hb⟩ := hrel
    by_cases hlt : k < n
    case neg =>
      have HF := Lib.hid (show eqD (.rows 2 n cs) (.rows 2 n cs') = true from eqD_t (by
        have h1 := HQ.out
        rw [List.take_of_length_le (by rw [HL.out]; exact Nat.mul_le_mul_right _ (by omega)), List.take_of_length_le (by rw [HL'.out]; exact Nat.mul_le_mul_right _ (by omega))] at h1
        rw [h1]))
      go_wp2
      go_ret
      exact ⟨by rw [HF.out]; rfl, hb⟩
    obtain ⟨b, off, rv, rfl, hbS, hcells, hrep⟩ := HV.out.row k hlt
    obtain ⟨b', off', rv', rfl, hbS', hcells', hrep'⟩ := HU.out.row k hlt
    obtain ⟨i0x, d1x, hrowx, cf1x⟩ := conf_ty (conf_row n K.ty.fields cs k HCS.out hlt)
    obtain ⟨i0y, d1y, hrowy, cf1y⟩ := conf_ty (conf_row n K.ty.fields cs' k HCS'.out hlt)
    replace hrowx : rowAt 2 cs k = [.int i0x, d1x] := hrowx
    replace hrowy : rowAt 2 cs' k = [.int i0y, d1y] := hrowy
    rw [hrowx] at hrep
    rw [hrowy] at hrep'
    simp only [RepVs, RepV] at hrep hrep'
    obtain ⟨z0x, q0x, rfl, rfl, v1x, q1x, rfl, hv1x, rfl⟩ := hrep
    obtain ⟨z0y, q0y, rfl, rfl, v1y, q1y, rfl, hv1y, rfl⟩ := hrep'
    have c0 := hcells 0 (by simp)
    have e0 := hcells' 0 (by simp)
    have c1 := hcells 1 (by simp)
    have e1 := hcells' 1 (by simp)
    simp at c0 e0 c1 e1
    replace c0 := (hb.cell (p := ⟨b, off + k * 2, none⟩) (World.block_lt_of_cell? w _ c0)).trans c0
    replace e0 := (hb.cell (p := ⟨b', off' + k * 2, none⟩) (World.block_lt_of_cell? w _ e0)).trans e0
    replace c1 := (hb.cell (p := ⟨b, off + k * 2 + 1, none⟩) (World.block_lt_of_cell? w _ c1)).trans c1
    replace e1 := (hb.cell (p := ⟨b', off' + k * 2 + 1, none⟩) (World.block_lt_of_cell? w _ e1)).trans e1
    clear hcells hcells'
    have HD1 := Lib.hid (IH.out d1x (rowAt_mem 2 k cs d1x (by rw [hrowx]; simp)) cf1x)
    have hw1x := hv1x.later (hb.mono hS) (Nat.le_refl _)
    have hw1y := hv1y.later (hb.mono hS') (Nat.le_refl _)
    clear hv1x hv1y
    have hi1 : (k : Int) < (n : Int) := by omega
    have hSw : S ≤ wr.heap.size := Nat.le_trans hS hb.size
    have hSw' : S' ≤ wr.heap.size := Nat.le_trans hS' hb.size
    have HR : Hid (∀ q : Bool, q = true ∨ q = false) := Lib.hid fun q => by cases q <;> simp
    go_wp2_with fail
    go_region_with (go_at_call 17; refine (eqType_of i0x d1x i0y d1y v1x v1y S S' _ ?_ ?_ ?_ ?_ ?_ ?_).mono ?_; exact HD1.out; exact cf1y; exact hw1x.same rfl; exact hw1y.same rfl; exact hSw; exact hSw'; rintro e w1 ⟨rfl, hb1⟩)
    all_goals
      by_cases hdd : ([.int i0x, d1x] : List D) = [.int i0y, d1y]
      · rw [eqL_t hdd]
        have HQ2 : Hid (cs.take ((k + 1) * 2) = cs'.take ((k + 1) * 2)) := Lib.hid (by rw [take_rowAt, take_rowAt, HQ.out, hrowx, hrowy, hdd])
        clear hdd hrowx hrowy HQ
        go_wp2
        go_roundw
        case rel => exact ⟨k + 1, by omega, by go_num, HQ2, hb.drew.trans (hb1.mono hb.size)⟩
        case measure => simp [intOf]; omega
      · rw [eqL_f hdd]
        have HF := Lib.hid (show eqD (.rows 2 n cs) (.rows 2 n cs') = false from eqD_f (by intro h; injection h with _ _ h2; subst h2; exact hdd (hrowx.symm.trans hrowy)))
        clear hdd hrowx hrowy HQ
        go_wp2
        go_ret
        exact ⟨by rw [HF.out]; rfl, hb.drew.trans (hb1.mono hb.size)⟩
end Go.Proofs.YtpoemjeelbmpkaaGreat
