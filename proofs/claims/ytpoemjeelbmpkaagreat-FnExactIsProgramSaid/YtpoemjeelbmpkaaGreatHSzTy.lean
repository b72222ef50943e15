/-
  Sizes: the laws' own szX, for each type that came in.
-/
import Derived.Test.YtpoemjeelbmpkaaGreatConf
import Derived.Test.YtpoemjeelbmpkaaGreatRng
namespace Go.Proofs.YtpoemjeelbmpkaaGreat
open Go.RowKit
set_option linter.unusedVariables false
def SzTypeS (d : D) : Prop := ∀ (v : Value) (S : Nat) (w : World) (left : Int), RepV w S d v → S ≤ w.heap.size → 0 ≤ left → left ≤ 1048576 →
  Calls Tryz.prog 19 #[v, .int .i64 left] w fun e w' => e = .returned (.int .i64 (szR left (szD d))) ∧ Below w.heap.size w w'
def SzTermS (d : D) : Prop := ∀ (v : Value) (S : Nat) (w : World) (left : Int), RepV w S d v → S ≤ w.heap.size → 0 ≤ left → left ≤ 1048576 →
  Calls Tryz.prog 10 #[v, .int .i64 left] w fun e w' => e = .returned (.int .i64 (szR left (szD d))) ∧ Below w.heap.size w w'
set_option maxHeartbeats 1000000 in
theorem szType_of (i0 : Int) (d1 : D) (v1 : Value) (S : Nat) (w : World) (left : Int) (hs1 : SzTypeS d1) (hv1 : RepV w S d1 v1) (hS : S ≤ w.heap.size) (h0 : 0 ≤ left) (h1 : left ≤ 1048576) :
    Calls Tryz.prog 9 #[.agg #[.int .i64 i0, v1], .int .i64 left] w fun e w' => e = .returned (.int .i64 (szR left (szL [.int i0, d1]))) ∧ Below w.heap.size w w' := by
  have hsum : szL [.int i0, d1] = szD d1 := by simp [szL, szD]
  have HSUM := Lib.hid hsum
  clear hsum
  have HS1 := Lib.hid hs1
  clear hs1
  have hB0 : Below w.heap.size w (w.alloc (.cells #[.int .i64 i0, v1] 24)) := (Below.refl _ _).alloc (Nat.le_refl _) _
  have hX0 : Blk (w.alloc (.cells #[.int .i64 i0, v1] 24)) w.heap.size 24 #[.int .i64 i0, v1] := Blk.new _ _ _
  go_enter Tryz.func9, Tryz.ntmps9
  go_wp2_with fail
  refine (HS1.out v1 S _ _ (hv1.later (hB0.mono hS) (Nat.le_refl _)) (Nat.le_trans hS hB0.size) (by omega) (by omega)).mono ?_
  rintro e w1 ⟨rfl, hb1⟩
  have hB1 := hB0.trans (hb1.mono hB0.size)
  have hX1 := hX0.below hb1 hX0.lt
  by_cases hc0 : ((szD d1) : Int) ≤ left
  case neg =>
    have HF := Lib.hid (szR_out left (szL [.int i0, d1]) (by rw [HSUM.out]; omega))
    have HE := Lib.hid (szR_out (left) (szD d1) (by omega))
    rw [HE.out]
    go_wp2
    go_ret
    exact ⟨by rw [HF.out]; rfl, hB1⟩
  have HE0 := Lib.hid (szR_in (left) (szD d1) hc0)
  rw [HE0.out]
  have hn0 : ¬ left - ((szD d1) : Int) < 0 := by omega
  have HF := Lib.hid (szR_in left (szL [.int i0, d1]) (by rw [HSUM.out]; omega))
  go_wp2
  go_ret
  exact ⟨ret_int (by rw [HF.out, HSUM.out] <;> omega), hB1⟩
set_option maxHeartbeats 1000000 in
theorem szTypeS_all : ∀ d, Conf d (.sl .ty) → StrB d → SzTypeS d := by
  refine D.ind (fun d hd h => by rcases hd with rfl | ⟨_, rfl⟩ <;> (unfold Conf at h; exact h.elim)) (fun n h => by unfold Conf at h; cases h) (fun b h => by unfold Conf at h; cases h) (fun s h => by unfold Conf at h; cases h) fun sz n cs ih h hsb => ?_
  unfold Conf at h
  obtain ⟨k0, e, hsz, hl, hm, hcs⟩ := h
  injection e with e
  subst e
  obtain rfl : sz = 2 := hsz
  intro v S w left hv hS h0 h1
  obtain ⟨a, cap, rfl, hnc, hcm, _, hsl⟩ := hv.slc
  clear hsl
  unfold maxLen at hm hcm
  have hszn : szD (.rows 2 n cs) = n + szL cs := by simp only [szD]
  by_cases hn : (n : Int) ≤ left
  case neg =>
    have HE := Lib.hid (show szR left (szD (.rows 2 n cs)) = -1 from szR_out _ _ (by rw [hszn]; omega))
    have hneg : left - (n : Int) < 0 := by omega
    clear hszn ih hcs
    go_enter Tryz.func19, Tryz.ntmps19
    go_wp2
    go_ret
    exact ⟨by rw [HE.out]; rfl, Below.refl _ _⟩
  have hnn : ¬ left - (n : Int) < 0 := by omega
  have hnf : decide (left - (n : Int) < 0) = false := by simpa using hnn
  unfold StrB at hsb
  have HSZ := Lib.hid hszn
  have IH := Lib.hid ih
  have HCS := Lib.hid hcs
  have HV := Lib.hid hv
  have HL := Lib.hid hl
  have HSB := Lib.hid hsb
  clear ih hcs hszn hv hl hsb
  go_enter Tryz.func19, Tryz.ntmps19
  go_wp2
  go_loopw [1, 5] (fun l i wr => ∃ k : Nat, k ≤ n ∧ i = .int .i64 k ∧ l = .int .i64 (left - n - szL (cs.take (k * 2))) ∧ 0 ≤ left - n - szL (cs.take (k * 2)) ∧ Below w.heap.size w wr) (fun _ i _ => n - (intOf i).toNat)
  case atStart => exact ⟨0, Nat.zero_le _, rfl, by simp [szL], by simp [szL]; omega, Below.refl _ _⟩
  case round =>
    obtain ⟨k, hk, rfl, rfl, hpos, hb⟩ := hrel
    by_cases hlt : k < n
    case neg =>
      have HT := Lib.hid (show cs.take (k * 2) = cs by
        apply List.take_of_length_le
        rw [HL.out]; exact Nat.mul_le_mul_right _ (by omega))
      have HF := Lib.hid (show szR left (szD (.rows 2 n cs)) = left - n - szL cs by
        have h2 := hpos
        rw [HT.out] at h2
        rw [szR_in _ _ (by rw [HSZ.out]; omega), HSZ.out]; omega)
      go_wp2
      go_ret
      exact ⟨by rw [HF.out, HT.out]; rfl, hb⟩
    obtain ⟨b, off, rv, rfl, hbS, hcells, hrep⟩ := HV.out.row k hlt
    obtain ⟨i0, d1, hrow, cf1⟩ := conf_ty (conf_row n K.ty.fields cs k HCS.out hlt)
    replace hrow : rowAt 2 cs k = [.int i0, d1] := hrow
    rw [hrow] at hrep
    simp only [RepVs, RepV] at hrep
    obtain ⟨z0, q0, rfl, rfl, v1, q1, rfl, hv1, rfl⟩ := hrep
    have c0 := hcells 0 (by simp)
    have c1 := hcells 1 (by simp)
    simp at c0 c1
    replace c0 := (hb.cell (p := ⟨b, off + k * 2, none⟩) (World.block_lt_of_cell? w _ c0)).trans c0
    replace c1 := (hb.cell (p := ⟨b, off + k * 2 + 1, none⟩) (World.block_lt_of_cell? w _ c1)).trans c1
    clear hcells
    have hrs : szL [.int i0, d1] = szD d1 := by simp [szL, szD]
    have hnext := Lib.hid (show szL (cs.take ((k + 1) * 2)) = szL (cs.take (k * 2)) + szL [.int i0, d1] by rw [take_rowAt, hrow, szL_append])
    have HRS := Lib.hid hrs
    have hsb1 := StrBL.mem cs d1 (rowAt_mem 2 k cs d1 (by rw [hrow]; simp)) HSB.out
    have HD1 := Lib.hid (IH.out d1 (rowAt_mem 2 k cs d1 (by rw [hrow]; simp)) cf1 hsb1)
    clear hsb1
    have hSw : S ≤ wr.heap.size := Nat.le_trans hS hb.size
    clear hrow hrs cf1
    have hle := szL_take_le cs ((k + 1) * 2)
    rw [hnext.out] at hle
    by_cases hfit : (szL [.int i0, d1] : Int) ≤ left - n - szL (cs.take (k * 2))
    · have HE := Lib.hid (szR_in _ _ hfit)
      have hnn2 : ¬ left - n - szL (cs.take (k * 2)) - (szL [.int i0, d1] : Int) < 0 := by omega
      clear hle
      go_wp2_with fail
      refine (szType_of i0 d1 v1 S wr _ HD1.out (hv1.later (hb.mono hS) (Nat.le_refl _)) hSw hpos (by omega) ).mono ?_
      rintro e w1 ⟨rfl, hb1⟩
      rw [HE.out]
      go_wp2
      go_roundw
      case rel => exact ⟨k + 1, by omega, by go_num, by rw [hnext.out]; go_num, by rw [hnext.out]; omega, hb.trans (hb1.mono hb.size)⟩
      case measure => simp [intOf]; omega
    · have HE := Lib.hid (szR_out (left - n - szL (cs.take (k * 2))) (szL [.int i0, d1]) (by omega))
      have HF := Lib.hid (show szR left (szD (.rows 2 n cs)) = -1 from szR_out _ _ (by rw [HSZ.out]; omega))
      clear hle
      go_wp2_with fail
      refine (szType_of i0 d1 v1 S wr _ HD1.out (hv1.later (hb.mono hS) (Nat.le_refl _)) hSw hpos (by omega) ).mono ?_
      rintro e w1 ⟨rfl, hb1⟩
      rw [HE.out]
      go_wp2
      go_ret
      exact ⟨by rw [HF.out]; rfl, hb.trans (hb1.mono hb.size)⟩
end Go.Proofs.YtpoemjeelbmpkaaGreat
