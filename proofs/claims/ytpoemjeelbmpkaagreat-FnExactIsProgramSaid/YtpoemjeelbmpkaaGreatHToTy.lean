/-
  Copies: the laws' own toType.
-/
import Derived.Test.YtpoemjeelbmpkaaGreatConf
import Derived.Test.YtpoemjeelbmpkaaGreatRng
namespace Go.Proofs.YtpoemjeelbmpkaaGreat
open Go.RowKit
set_option linter.unusedVariables false
def ToTypeS (d : D) : Prop := ∀ (v : Value) (S : Nat) (w : World), RepV w S d v → S ≤ w.heap.size → szD d ≤ 1048576 →
  Calls Tryz.prog 26 #[v] w fun e w' => ∃ a n c, e = .returned (.slice a n c) ∧ Fresh w' w.heap.size d (.slice a n c) ∧ Below w.heap.size w w'
def ToTermS (d : D) : Prop := ∀ (v : Value) (S : Nat) (w : World), RepV w S d v → S ≤ w.heap.size → szD d ≤ 1048576 →
  Calls Tryz.prog 14 #[v] w fun e w' => ∃ a n c, e = .returned (.slice a n c) ∧ Fresh w' w.heap.size d (.slice a n c) ∧ Below w.heap.size w w'
set_option maxHeartbeats 2000000 in
theorem toType_of (i0 : Int) (d1 : D) (v1 : Value) (S : Nat) (w : World) (hs1 : ToTypeS d1) (hv1 : RepV w S d1 v1) (hS : S ≤ w.heap.size) (hz : szL [.int i0, d1] ≤ 1048576) :
    Calls Tryz.prog 13 #[.agg #[.int .i64 i0, v1]] w fun e w' => ∃ a1 n1 c1, e = .returned (.agg #[.int .i64 i0, .slice a1 n1 c1]) ∧ FreshL w' w.heap.size [.int i0, d1] [.int .i64 i0, .slice a1 n1 c1] ∧ Below w.heap.size w w' := by
  have hsum : szL [.int i0, d1] = szD d1 := by simp [szL, szD]
  have hz1 : szD d1 ≤ 1048576 := by omega
  have HS1 := Lib.hid hs1
  clear hs1
  clear hsum hz
  have hB0 : Below w.heap.size w (((w.alloc (.cells #[.int .i64 i0, v1] 24)).alloc (.cells #[.int .i64 0, .slice none 0 0] 32)).alloc (.cells #[.int .i64 i0, .slice none 0 0] 32)) := (((Below.refl _ _).alloc (Nat.le_refl _) _).alloc (by simp) _).alloc (by simp <;> omega) _
  have hX0 : Blk (((w.alloc (.cells #[.int .i64 i0, v1] 24)).alloc (.cells #[.int .i64 0, .slice none 0 0] 32)).alloc (.cells #[.int .i64 i0, .slice none 0 0] 32)) w.heap.size 24 #[.int .i64 i0, v1] := ((Blk.new w _ _).alloc _).alloc _
  have hR0 : Blk (((w.alloc (.cells #[.int .i64 i0, v1] 24)).alloc (.cells #[.int .i64 0, .slice none 0 0] 32)).alloc (.cells #[.int .i64 i0, .slice none 0 0] 32)) (w.heap.size + 1) 32 #[.int .i64 0, .slice none 0 0] := by
    have := (Blk.new (w.alloc (.cells #[.int .i64 i0, v1] 24)) 32 #[.int .i64 0, .slice none 0 0]).alloc (.cells #[.int .i64 i0, .slice none 0 0] 32)
    rwa [World.size_alloc] at this
  have hO0 : Blk (((w.alloc (.cells #[.int .i64 i0, v1] 24)).alloc (.cells #[.int .i64 0, .slice none 0 0] 32)).alloc (.cells #[.int .i64 i0, .slice none 0 0] 32)) (w.heap.size + 1 + 1) 32 #[.int .i64 i0, .slice none 0 0] := by
    have := Blk.new ((w.alloc (.cells #[.int .i64 i0, v1] 24)).alloc (.cells #[.int .i64 0, .slice none 0 0] 32)) 32 #[.int .i64 i0, .slice none 0 0]
    rwa [World.size_alloc, World.size_alloc] at this
  go_enter Tryz.func13, Tryz.ntmps13
  go_wp2_with fail
  refine (HS1.out v1 S _ (hv1.later (hB0.mono hS) (Nat.le_refl _)) (Nat.le_trans hS hB0.size) hz1).mono ?_
  rintro e w1 ⟨a1, n1, c1, rfl, hf1, hb1⟩
  have hB1 := hB0.trans (hb1.mono hB0.size)
  have hX1 := hX0.below hb1 hX0.lt
  have hR1 := hR0.below hb1 hR0.lt
  have hO1 := hO0.below hb1 hO0.lt
  have hA0 : FreshL (((w.alloc (.cells #[.int .i64 i0, v1] 24)).alloc (.cells #[.int .i64 0, .slice none 0 0] 32)).alloc (.cells #[.int .i64 i0, .slice none 0 0] 32)) (w.heap.size + 1 + 1 + 1) [.int i0] [.int .i64 i0] := (FreshL.nil _ _).cell (own_int _ _)
  have hA1 : FreshL w1 (w.heap.size + 1 + 1 + 1) [.int i0, d1] [.int .i64 i0, .slice a1 n1 c1] := FreshL.append hA0 hb1 (by have := hO0.lt; omega) (FreshL.one hf1)
  have x1_0 := hX1.cell 0
  have o1_0 := hO1.cell 0
  have r1_0 := hR1.cell 0
  have of1_0 := hO1.frozen 0
  have rf1_0 := hR1.frozen 0
  have x1_1 := hX1.cell 1
  have o1_1 := hO1.cell 1
  have r1_1 := hR1.cell 1
  have of1_1 := hO1.frozen 1
  have rf1_1 := hR1.frozen 1
  simp at x1_0 o1_0 r1_0 x1_1 o1_1 r1_1
  go_wp2
  refine bodyPost_ret (v := .agg #[.int .i64 i0, .slice a1 n1 c1]) (by simp [results, Tryz.results13, go_sem, r1_0, r1_1]) rfl ⟨_, _, _, rfl, ?_, ?_⟩
  · exact (hA1.only (fp := [w.heap.size + 1, w.heap.size + 1 + 1]) (by
      repeat (refine Only.setCell ?_ (by simp) _)
      exact Only.refl _ _) (by simp)).down (by omega)
  · repeat (refine Below.setCell ?_ (by simp <;> omega) _)
    exact hB1
theorem info_implType : (Tryz.prog.info? 32).map (fun i => (i.zero, i.size, i.bytes)) = some (some (.agg #[.int .i64 0, .slice none 0 0]), 2, 32) := by kernel_rfl
set_option maxHeartbeats 2000000 in
theorem toTypeS_all : ∀ d, Conf d (.sl .ty) → ToTypeS d := by
  refine D.ind (fun d hd h => by rcases hd with rfl | ⟨_, rfl⟩ <;> (unfold Conf at h; exact h.elim)) (fun n h => by unfold Conf at h; cases h) (fun b h => by unfold Conf at h; cases h) (fun s h => by unfold Conf at h; cases h) fun sz n cs ih h => ?_
  unfold Conf at h
  obtain ⟨k0, e, hsz, hl, hm, hcs⟩ := h
  injection e with e
  subst e
  obtain rfl : sz = 2 := hsz
  intro v S w hv hS hz
  obtain ⟨a, cap, rfl, hnc, hcm, _, hsl⟩ := hv.slc
  clear hsl
  have hzn : szD (.rows 2 n cs) = n + szL cs := by simp only [szD]
  rw [hzn] at hz
  have hn20 : n ≤ 1048576 := by omega
  unfold maxLen at hm hcm
  obtain ⟨i0, hi, hz0, hz1, hz2⟩ := info_parts info_implType
  have hmk := fun W => run_make_rowN (P := Tryz.prog) 30 32 i0 _ Tryz.underlying30 hi hz0 .i64 .i64 n n (Nat.le_refl _) (by rw [hz2]; omega) (by omega) W
  rw [hz1] at hmk
  have IH := Lib.hid ih
  have HCS := Lib.hid hcs
  have HV := Lib.hid hv
  have HL := Lib.hid hl
  have HZ := Lib.hid hz
  clear ih hcs hv hl hi hz0 hz1 hz2 hz hzn
  go_enter Tryz.func26, Tryz.ntmps26
  go_wp2
  go_loopw [4] (fun i wr => ∃ k : Nat, k ≤ n ∧ i = .int .i64 k ∧ (∃ vs : List Value, vs.length = k * 2 ∧ Blk wr w.heap.size 32 (vs ++ (List.replicate (n - k) ([.int .i64 0, .slice none 0 0] : List Value)).flatten).toArray ∧ FreshL wr (w.heap.size + 1) (cs.take (k * 2)) vs) ∧ Below w.heap.size w wr) (fun i _ => n - (intOf i).toNat)
  case atStart =>
    refine ⟨0, Nat.zero_le _, rfl, ⟨[], by simp, ?_, by simpa using FreshL.nil _ _⟩, (Below.refl _ _).alloc (Nat.le_refl _) _⟩
    have hfl := madeCells_flat #[.int .i64 0, .slice none 0 0] (by simp) n
    simp only [List.nil_append, Nat.sub_zero]
    have e1 : madeCells #[.int .i64 0, .slice none 0 0] (n * 2) = ((List.replicate n ([.int .i64 0, .slice none 0 0] : List Value)).flatten).toArray := hfl
    rw [← e1]
    exact Blk.new _ _ _
  case round =>
    obtain ⟨k, hk, rfl, ⟨vs, hvl, hB, hFr⟩, hb⟩ := hrel
    by_cases hlt : k < n
    case neg =>
      have hB2 : Blk wr w.heap.size 32 vs.toArray := by rw [show n - k = 0 by omega] at hB; simpa using hB
      have hFr2 : FreshL wr (w.heap.size + 1) cs vs := by rw [List.take_of_length_le (by rw [HL.out]; exact Nat.mul_le_mul_right _ (by omega))] at hFr; exact hFr
      clear hB hFr hvl
      go_wp2
      go_ret
      obtain ⟨fp, ho, hnd, hkk⟩ := hFr2
      exact ⟨_, _, _, rfl, own_of_blk hB2 ho hnd (fun k hm => by have := hkk k hm; omega) (fun hm => by have := hkk _ hm; omega) HL.out (by unfold maxLen; omega) (Nat.le_refl _), hb⟩
    obtain ⟨b, off, rv, rfl, hbS, hcells, hrep⟩ := HV.out.row k hlt
    obtain ⟨i0, d1, hrow, cf1⟩ := conf_ty (conf_row n K.ty.fields cs k HCS.out hlt)
    replace hrow : rowAt 2 cs k = [.int i0, d1] := hrow
    rw [hrow] at hrep
    simp only [RepVs, RepV] at hrep
    obtain ⟨z0, q0, rfl, rfl, v1, q1, rfl, hv1, rfl⟩ := hrep
    have c0 := hcells 0 (by simp)
    have c1 := hcells 1 (by simp)
    simp at c0 c1
    replace c0 := (hb.cell (p := ⟨b, off + k * 2, none⟩) (World.block_lt_of_cell? w _ c0)).trans c0
    replace c1 := (hb.cell (p := ⟨b, off + k * 2 + 1, none⟩) (World.block_lt_of_cell? w _ c1)).trans c1
    clear hcells
    have hnext := Lib.hid (show cs.take ((k + 1) * 2) = cs.take (k * 2) ++ [.int i0, d1] by rw [take_rowAt, hrow])
    have HD1 := Lib.hid (IH.out d1 (rowAt_mem 2 k cs d1 (by rw [hrow]; simp)) cf1)
    have hw1 := hv1.later (hb.mono hS) (Nat.le_refl _)
    have hzr : szL [.int i0, d1] ≤ 1048576 := by
      have h1 := szL_take_le cs ((k + 1) * 2)
      rw [hnext.out, szL_append] at h1
      have h2 := HZ.out; omega
    have HZR := Lib.hid hzr
    have hSw : S ≤ wr.heap.size := Nat.le_trans hS hb.size
    clear hrow hzr cf1
    have hi1 : (k : Int) < (n : Int) := by omega
    have HVL := Lib.hid hvl
    have HB := Lib.hid hB
    clear hB hvl
    go_wp2_with fail
    refine (toType_of i0 d1 v1 S wr HD1.out hw1 hSw HZR.out).mono ?_
    rintro e w1 ⟨a1, n1, c1, rfl, hf1, hb1⟩
    have hB1 := HB.out.below hb1 HB.out.lt
    have hsplit : vs ++ (List.replicate (n - k) ([.int .i64 0, .slice none 0 0] : List Value)).flatten = vs ++ (([.int .i64 0, .slice none 0 0] : List Value) ++ (List.replicate (n - (k + 1)) ([.int .i64 0, .slice none 0 0] : List Value)).flatten) := by
      rw [show n - k = (n - (k + 1)) + 1 by omega, List.replicate_succ, List.flatten_cons]
    rw [hsplit] at hB1
    have g0 : w1.cell? ⟨w.heap.size, k * 2, none⟩ = some (.int .i64 0) := by
      have := hB1.cell (k * 2)
      rw [this]; simp [HVL.out]
    have z0 := hB1.frozen (k * 2)
    have g1 : w1.cell? ⟨w.heap.size, k * 2 + 1, none⟩ = some (.slice none 0 0) := by
      have := hB1.cell (k * 2 + 1)
      rw [this]; simp [HVL.out]
    have z1 := hB1.frozen (k * 2 + 1)
    have HSET : Hid (∀ W : World, Blk W w.heap.size 32 (vs ++ (([.int .i64 0, .slice none 0 0] : List Value) ++ (List.replicate (n - (k + 1)) ([.int .i64 0, .slice none 0 0] : List Value)).flatten)).toArray → Blk (((W.setCell ⟨w.heap.size, k * 2, none⟩ (.int .i64 i0)).setCell ⟨w.heap.size, k * 2 + 1, none⟩ (.slice a1 n1 c1))) w.heap.size 32 ((vs ++ ([.int .i64 i0, .slice a1 n1 c1] : List Value)) ++ (List.replicate (n - (k + 1)) ([.int .i64 0, .slice none 0 0] : List Value)).flatten).toArray) := Lib.hid fun W hW => by
      have h1 := ((hW.set_ (k * 2) (.int .i64 i0)).set_ (k * 2 + 1) (.slice a1 n1 c1))
      simp only [List.setIfInBounds_toArray] at h1
      have h2 := setRow_mid [.int .i64 i0, .slice a1 n1 c1] vs [.int .i64 0, .slice none 0 0] (List.replicate (n - (k + 1)) ([.int .i64 0, .slice none 0 0] : List Value)).flatten rfl
      simp only [setRow] at h2
      rw [HVL.out] at h2
      rw [List.append_assoc, ← h2]
      exact h1
    have HB1 := Lib.hid hB1
    clear hB1 hsplit
    go_wp2
    go_roundw
    case rel =>
      refine ⟨k + 1, by omega, by go_num, ⟨vs ++ [.int .i64 i0, .slice a1 n1 c1], by rw [List.length_append, HVL.out]; simp [Nat.succ_mul], HSET.out _ HB1.out, ?_⟩, ?_⟩
      · rw [hnext.out]
        refine FreshL.only (fp := [w.heap.size]) (FreshL.append hFr hb1 (by have := HB.out.lt; omega) hf1) ?_ (by simp)
        repeat (refine Only.setCell ?_ (by simp) _)
        exact Only.refl _ _
      · repeat (refine Below.setCell ?_ (by simp) _)
        exact hb.trans (hb1.mono hb.size)
    case measure => simp [intOf]; omega
end Go.Proofs.YtpoemjeelbmpkaaGreat
