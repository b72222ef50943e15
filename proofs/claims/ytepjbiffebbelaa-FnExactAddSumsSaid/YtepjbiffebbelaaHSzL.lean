/-
  Sizes of lists of structs that came in.
-/
import Derived.Test.YtepjbiffebbelaaHSzTy
namespace Go.Proofs.Ytepjbiffebbelaa
open Go.RowKit
set_option linter.unusedVariables false
set_option maxHeartbeats 1000000 in
theorem szItem_of (s0 : ByteArray) (i1 : Int)  (S : Nat) (w : World) (left : Int)  (hS : S ≤ w.heap.size) (h0 : 0 ≤ left) (h1 : left ≤ 1048576) (hl0 : s0.size ≤ maxLen) :
    Calls Try.prog 98 #[.agg #[.string s0, .int .i64 i1], .int .i64 left] w fun e w' => e = .returned (.int .i64 (szR left (szL [.str s0, .int i1]))) ∧ Below w.heap.size w w' := by
  have hsum : szL [.str s0, .int i1] = s0.size := by simp [szL, szD]
  have HSUM := Lib.hid hsum
  clear hsum
  unfold maxLen at hl0
  have hB0 : Below w.heap.size w (w.alloc (.cells #[.string s0, .int .i64 i1] 155)) := (Below.refl _ _).alloc (Nat.le_refl _) _
  have hX0 : Blk (w.alloc (.cells #[.string s0, .int .i64 i1] 155)) w.heap.size 155 #[.string s0, .int .i64 i1] := Blk.new _ _ _
  by_cases hc0 : (s0.size : Int) ≤ left
  case neg =>
    have HF := Lib.hid (szR_out left (szL [.str s0, .int i1]) (by rw [HSUM.out]; omega))
    have hng : left - (s0.size : Int) < 0 := by omega
    go_enter Try.func98, Try.ntmps98
    go_wp2
    go_ret
    exact ⟨by rw [HF.out]; rfl, hB0⟩
  have hn0 : ¬ left - (s0.size : Int) < 0 := by omega
  go_enter Try.func98, Try.ntmps98
  have HF := Lib.hid (szR_in left (szL [.str s0, .int i1]) (by rw [HSUM.out]; omega))
  go_wp2
  go_ret
  exact ⟨ret_int (by rw [HF.out, HSUM.out] <;> omega), hB0⟩
set_option maxHeartbeats 1000000 in
theorem szItemS_all : ∀ d, Conf d (.sl .item) → StrB d → SzItemS d := by
  refine D.ind (fun d hd h => by rcases hd with rfl | ⟨_, rfl⟩ <;> (unfold Conf at h; exact h.elim)) (fun n h => by unfold Conf at h; cases h) (fun b h => by unfold Conf at h; cases h) (fun s h => by unfold Conf at h; cases h) fun sz n cs ih h hsb => ?_
  unfold Conf at h
  obtain ⟨k0, e, hsz, hl, hm, hcs⟩ := h
  injection e with e
  subst e
  obtain rfl : sz = 2 := hsz
  intro v S w left hv hS h0 h1
  obtain ⟨a, cap, rfl, hnc, hcm, _, hsl⟩ := hv.slc
  clear hsl
  unfold maxLen at hm hcm
  have hszn : szD (.rows 2 n cs) = n + szL cs := by simp only [szD]
  by_cases hn : (n : Int) ≤ left
  case neg =>
    have HE := Lib.hid (show szR left (szD (.rows 2 n cs)) = -1 from szR_out _ _ (by rw [hszn]; omega))
    have hneg : left - (n : Int) < 0 := by omega
    clear hszn ih hcs
    go_enter Try.func40, Try.ntmps40
    go_wp2
    go_ret
    exact ⟨by rw [HE.out]; rfl, Below.refl _ _⟩
  have hnn : ¬ left - (n : Int) < 0 := by omega
  have hnf : decide (left - (n : Int) < 0) = false := by simpa using hnn
  unfold StrB at hsb
  have HSZ := Lib.hid hszn
  have IH := Lib.hid ih
  have HCS := Lib.hid hcs
  have HV := Lib.hid hv
  have HL := Lib.hid hl
  have HSB := Lib.hid hsb
  clear ih hcs hszn hv hl hsb
  go_enter Try.func40, Try.ntmps40
  go_wp2
  go_loopw [1, 5] (fun l i wr => ∃ k : Nat, k ≤ n ∧ i = .int .i64 k ∧ l = .int .i64 (left - n - szL (cs.take (k * 2))) ∧ 0 ≤ left - n - szL (cs.take (k * 2)) ∧ Below w.heap.size w wr) (fun _ i _ => n - (intOf i).toNat)
  case atStart => exact ⟨0, Nat.zero_le _, rfl, by simp [szL], by simp [szL]; omega, Below.refl _ _⟩
  case round =>
    obtain ⟨k, hk, rfl, rfl, hpos, hb⟩ := hrel
    by_cases hlt : k < n
    case neg =>
      have HT := Lib.hid (show cs.take (k * 2) = cs by
        apply List.take_of_length_le
        rw [HL.out]; exact Nat.mul_le_mul_right _ (by omega))
      have HF := Lib.hid (show szR left (szD (.rows 2 n cs)) = left - n - szL cs by
        have h2 := hpos
        rw [HT.out] at h2
        rw [szR_in _ _ (by rw [HSZ.out]; omega), HSZ.out]; omega)
      go_wp2
      go_ret
      exact ⟨by rw [HF.out, HT.out]; rfl, hb⟩
    obtain ⟨b, off, rv, rfl, hbS, hcells, hrep⟩ := HV.out.row k hlt
    obtain ⟨s0, i1, hrow⟩ := conf_item (conf_row n K.item.fields cs k HCS.out hlt)
    replace hrow : rowAt 2 cs k = [.str s0, .int i1] := hrow
    rw [hrow] at hrep
    simp only [RepVs, RepV] at hrep
    obtain ⟨z0, q0, rfl, rfl, z1, q1, rfl, rfl, rfl⟩ := hrep
    have c0 := hcells 0 (by simp)
    have c1 := hcells 1 (by simp)
    simp at c0 c1
    replace c0 := (hb.cell (p := ⟨b, off + k * 2, none⟩) (World.block_lt_of_cell? w _ c0)).trans c0
    replace c1 := (hb.cell (p := ⟨b, off + k * 2 + 1, none⟩) (World.block_lt_of_cell? w _ c1)).trans c1
    clear hcells
    have hrs : szL [.str s0, .int i1] = s0.size := by simp [szL, szD]
    have hnext := Lib.hid (show szL (cs.take ((k + 1) * 2)) = szL (cs.take (k * 2)) + szL [.str s0, .int i1] by rw [take_rowAt, hrow, szL_append])
    have HRS := Lib.hid hrs
    have wf0 : s0.size ≤ maxLen := StrBL.mem cs (.str s0) (rowAt_mem 2 k cs (.str s0) (by rw [hrow]; simp)) HSB.out
    have hSw : S ≤ wr.heap.size := Nat.le_trans hS hb.size
    clear hrow hrs
    have hle := szL_take_le cs ((k + 1) * 2)
    rw [hnext.out] at hle
    by_cases hfit : (szL [.str s0, .int i1] : Int) ≤ left - n - szL (cs.take (k * 2))
    · have HE := Lib.hid (szR_in _ _ hfit)
      have hnn2 : ¬ left - n - szL (cs.take (k * 2)) - (szL [.str s0, .int i1] : Int) < 0 := by omega
      clear hle
      go_wp2_with fail
      refine (szItem_of s0 i1  S wr _  hSw hpos (by omega) wf0).mono ?_
      rintro e w1 ⟨rfl, hb1⟩
      rw [HE.out]
      go_wp2
      go_roundw
      case rel => exact ⟨k + 1, by omega, by go_num, by rw [hnext.out]; go_num, by rw [hnext.out]; omega, hb.trans (hb1.mono hb.size)⟩
      case measure => simp [intOf]; omega
    · have HE := Lib.hid (szR_out (left - n - szL (cs.take (k * 2))) (szL [.str s0, .int i1]) (by omega))
      have HF := Lib.hid (show szR left (szD (.rows 2 n cs)) = -1 from szR_out _ _ (by rw [HSZ.out]; omega))
      clear hle
      go_wp2_with fail
      refine (szItem_of s0 i1  S wr _  hSw hpos (by omega) wf0).mono ?_
      rintro e w1 ⟨rfl, hb1⟩
      rw [HE.out]
      go_wp2
      go_ret
      exact ⟨by rw [HF.out]; rfl, hb.trans (hb1.mono hb.size)⟩
set_option maxHeartbeats 1000000 in
theorem szSum_of (i0 : Int) (d1 : D) (v1 : Value) (S : Nat) (w : World) (left : Int) (hs1 : SzItemS d1) (hv1 : RepV w S d1 v1) (hS : S ≤ w.heap.size) (h0 : 0 ≤ left) (h1 : left ≤ 1048576) :
    Calls Try.prog 8 #[.agg #[.int .i64 i0, v1], .int .i64 left] w fun e w' => e = .returned (.int .i64 (szR left (szL [.int i0, d1]))) ∧ Below w.heap.size w w' := by
  have hsum : szL [.int i0, d1] = szD d1 := by simp [szL, szD]
  have HSUM := Lib.hid hsum
  clear hsum
  have HS1 := Lib.hid hs1
  clear hs1
  have hB0 : Below w.heap.size w (w.alloc (.cells #[.int .i64 i0, v1] 24)) := (Below.refl _ _).alloc (Nat.le_refl _) _
  have hX0 : Blk (w.alloc (.cells #[.int .i64 i0, v1] 24)) w.heap.size 24 #[.int .i64 i0, v1] := Blk.new _ _ _
  go_enter Try.func8, Try.ntmps8
  go_wp2_with fail
  refine (HS1.out v1 S _ _ (hv1.later (hB0.mono hS) (Nat.le_refl _)) (Nat.le_trans hS hB0.size) (by omega) (by omega)).mono ?_
  rintro e w1 ⟨rfl, hb1⟩
  have hB1 := hB0.trans (hb1.mono hB0.size)
  have hX1 := hX0.below hb1 hX0.lt
  by_cases hc0 : ((szD d1) : Int) ≤ left
  case neg =>
    have HF := Lib.hid (szR_out left (szL [.int i0, d1]) (by rw [HSUM.out]; omega))
    have HE := Lib.hid (szR_out (left) (szD d1) (by omega))
    rw [HE.out]
    go_wp2
    go_ret
    exact ⟨by rw [HF.out]; rfl, hB1⟩
  have HE0 := Lib.hid (szR_in (left) (szD d1) hc0)
  rw [HE0.out]
  have hn0 : ¬ left - ((szD d1) : Int) < 0 := by omega
  have HF := Lib.hid (szR_in left (szL [.int i0, d1]) (by rw [HSUM.out]; omega))
  go_wp2
  go_ret
  exact ⟨ret_int (by rw [HF.out, HSUM.out] <;> omega), hB1⟩
theorem szL_of_ints : ∀ (F : List CK) (cs : List D), (∀ c ∈ F, c = CK.int) → ConfL cs F → szL cs = 0
  | [], cs, _, h => by
    cases cs with
    | nil => rfl
    | cons x xs => unfold ConfL at h; obtain ⟨c, r, e, _⟩ := h; cases e
  | c :: F, cs, hF, h => by
    cases cs with
    | nil => rfl
    | cons x xs =>
      unfold ConfL at h
      obtain ⟨c', r, e, h1, h2⟩ := h
      injection e with e1 e2
      subst e1 e2
      have := hF c (List.mem_cons_self ..)
      subst this
      obtain ⟨n, rfl⟩ := conf_int h1
      rw [szL, szL_of_ints F xs (fun c hc => hF c (List.mem_cons_of_mem _ hc)) h2]; rfl
set_option maxHeartbeats 1000000 in
theorem szInstrS_all : ∀ d, Conf d (.sl .instr) → StrB d → SzInstrS d := by
  refine D.ind (fun d hd h => by rcases hd with rfl | ⟨_, rfl⟩ <;> (unfold Conf at h; exact h.elim)) (fun n h => by unfold Conf at h; cases h) (fun b h => by unfold Conf at h; cases h) (fun s h => by unfold Conf at h; cases h) fun sz n cs ih h hsb => ?_
  unfold Conf at h
  obtain ⟨k0, e, hsz, hl, hm, hcs⟩ := h
  injection e with e
  subst e
  intro v S w left hv hS h0 h1
  obtain ⟨a, cap, rfl, hnc, hcm, _, hsl⟩ := hv.slc
  clear hsl
  unfold maxLen at hm hcm
  have hz : szL cs = 0 := szL_of_ints _ _ (fun c hc => by
    rw [List.mem_flatten] at hc
    obtain ⟨l, hl, hc⟩ := hc
    rw [List.eq_of_mem_replicate hl] at hc
    simpa [K.fields] using hc) hcs
  have hszn : szD (.rows sz n cs) = n := by simp only [szD, hz]; omega
  by_cases hn : (n : Int) ≤ left
  case neg =>
    have HE := Lib.hid (show szR left (szD (.rows sz n cs)) = -1 from szR_out _ _ (by rw [hszn]; omega))
    have hneg : left - (n : Int) < 0 := by omega
    clear hszn ih hcs hz hl hsb hsz
    go_enter Try.func21, Try.ntmps21
    go_wp2
    go_ret
    exact ⟨by rw [HE.out]; rfl, Below.refl _ _⟩
  have HE := Lib.hid (show szR left (szD (.rows sz n cs)) = left - n from by rw [szR_in _ _ (by rw [hszn]; omega), hszn])
  have hnn : ¬ left - (n : Int) < 0 := by omega
  clear hszn ih hcs hz hl hsb hsz
  go_enter Try.func21, Try.ntmps21
  go_wp2
  go_ret
  exact ⟨by rw [HE.out]; rfl, Below.refl _ _⟩
end Go.Proofs.Ytepjbiffebbelaa
