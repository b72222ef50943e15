/-
  toEntryS of the laws.
-/
import Derived.Test.YtdimcjafjkabmaaCa
namespace Go.Proofs.Ytdimcjafjkabmaa
open Go.RowKit
set_option linter.unusedVariables false
set_option linter.unusedSimpArgs false
theorem strBL_all : ∀ (ds : List D), (∀ d ∈ ds, StrB d) → StrBL ds
  | [], _ => by unfold StrBL; trivial
  | d :: ds, h => by unfold StrBL; exact ⟨h d (List.mem_cons_self ..), strBL_all ds fun e he => h e (List.mem_cons_of_mem _ he)⟩
theorem toEntry_w {i0 : Int} {s1 s2 : ByteArray} {i3 i4 : Int} {d5 : D} {i6 : Int} {d7 d8 d9 : D} {v5 v7 v8 v9 : Value} {w : World} {S : Nat} (hc : ConfL [.int i0, .str s1, .str s2, .int i3, .int i4, d5, .int i6, d7, d8, d9] K.entry.fields) (hs : StrBL [.int i0, .str s1, .str s2, .int i3, .int i4, d5, .int i6, d7, d8, d9]) (hz : szL [.int i0, .str s1, .str s2, .int i3, .int i4, d5, .int i6, d7, d8, d9] ≤ 1048576)
    (hr : RepVs w S [.int i0, .str s1, .str s2, .int i3, .int i4, d5, .int i6, d7, d8, d9] [.int .i64 i0, .string s1, .string s2, .int .i64 i3, .int .i64 i4, v5, .int .i64 i6, v7, v8, v9]) (hS : S ≤ w.heap.size) :
    Calls Try.prog 143 #[.agg #[.int .i64 i0, .string s1, .string s2, .int .i64 i3, .int .i64 i4, v5, .int .i64 i6, v7, v8, v9]] w fun e w' => ∃ a5 n5 c5 a7 n7 c7 a8 n8 c8 a9 n9 c9, e = .returned (.agg #[.int .i64 i0, .string s1, .string s2, .int .i64 i3, .int .i64 i4, .slice a5 n5 c5, .int .i64 i6, .slice a7 n7 c7, .slice a8 n8 c8, .slice a9 n9 c9]) ∧ FreshL w' w.heap.size [.int i0, .str s1, .str s2, .int i3, .int i4, d5, .int i6, d7, d8, d9] [.int .i64 i0, .string s1, .string s2, .int .i64 i3, .int .i64 i4, .slice a5 n5 c5, .int .i64 i6, .slice a7 n7 c7, .slice a8 n8 c8, .slice a9 n9 c9] ∧ Below w.heap.size w w' := by
  have cf5 : Conf d5 (.sl .ty) := ConfL.mem _ _ hc 5 (by simp) (by simp [K.fields])
  have cf7 : Conf d7 (.sl .ty) := ConfL.mem _ _ hc 7 (by simp) (by simp [K.fields])
  have cf8 : Conf d8 (.sl .tm) := ConfL.mem _ _ hc 8 (by simp) (by simp [K.fields])
  have cf9 : Conf d9 (.sl .instr) := ConfL.mem _ _ hc 9 (by simp) (by simp [K.fields])
  obtain ⟨x5, e5⟩ := tys_of d5 cf5
  obtain ⟨x7, e7⟩ := tys_of d7 cf7
  obtain ⟨x8, e8⟩ := tms_of d8 cf8
  obtain ⟨x9, e9⟩ := ins_of cf9
  obtain ⟨x, ex⟩ : ∃ x : En, enC x = [.int i0, .str s1, .str s2, .int i3, .int i4, d5, .int i6, d7, d8, d9] := ⟨⟨.mk i0 s1 s2 i3 (.mk i4 x5) (.mk i6 x7) x8, x9⟩, by subst e5 e7 e8 e9; rfl⟩
  rw [← ex] at hc hs hz
  have hC := con_toEntry x (inE hc hs) hz
  rw [ex] at hC
  have hr2 : RepVs w w.heap.size _ _ := RepVs.mono hS (fun _ _ => rfl) _ _ hr
  refine (con_ag hC (rpd_cons (rpd_ag hr2) (rpd_nil _))).mono ?_
  rintro e w' ⟨us, rfl, hf, hb⟩
  have q := hf.rep
  obtain ⟨u0, r0, rfl, p0, q⟩ := q.cons1
  obtain ⟨u1, r1, rfl, p1, q⟩ := q.cons1
  obtain ⟨u2, r2, rfl, p2, q⟩ := q.cons1
  obtain ⟨u3, r3, rfl, p3, q⟩ := q.cons1
  obtain ⟨u4, r4, rfl, p4, q⟩ := q.cons1
  obtain ⟨u5, r5, rfl, p5, q⟩ := q.cons1
  obtain ⟨u6, r6, rfl, p6, q⟩ := q.cons1
  obtain ⟨u7, r7, rfl, p7, q⟩ := q.cons1
  obtain ⟨u8, r8, rfl, p8, q⟩ := q.cons1
  obtain ⟨u9, r9, rfl, p9, q⟩ := q.cons1
  obtain rfl := q.nil1
  obtain rfl := rep_int p0
  obtain rfl := rep_str p1
  obtain rfl := rep_str p2
  obtain rfl := rep_int p3
  obtain rfl := rep_int p4
  obtain rfl := rep_int p6
  obtain ⟨a5, n5, c5, rfl⟩ := rep_sl cf5 p5
  obtain ⟨a7, n7, c7, rfl⟩ := rep_sl cf7 p7
  obtain ⟨a8, n8, c8, rfl⟩ := rep_sl cf8 p8
  obtain ⟨a9, n9, c9, rfl⟩ := rep_sl cf9 p9
  exact ⟨_, _, _, _, _, _, _, _, _, _, _, _, rfl, hf, hb⟩
theorem info_implEntry : (Try.prog.info? 101).map (fun i => (i.zero, i.size, i.bytes)) = some (some (.agg #[.int .i64 0, .string ⟨#[]⟩, .string ⟨#[]⟩, .int .i64 0, .int .i64 0, .slice none 0 0, .int .i64 0, .slice none 0 0, .slice none 0 0, .slice none 0 0]), 10, 160) := by kernel_rfl
set_option maxHeartbeats 2000000 in
theorem toEntryS_all : ∀ d, Conf d (.sl .entry) → StrB d → ToEntryS d := by
  refine D.ind (fun n h _ => by unfold Conf at h; cases h) (fun b h _ => by unfold Conf at h; cases h) (fun s h _ => by unfold Conf at h; cases h) fun sz n cs ih h hsb => ?_
  unfold StrB at hsb
  have HSB := Lib.hid hsb
  clear hsb
  unfold Conf at h
  obtain ⟨k0, e, hsz, hl, hm, hcs⟩ := h
  injection e with e
  subst e
  obtain rfl : sz = 10 := hsz
  intro v S w hv hS hz
  obtain ⟨a, cap, rfl, hnc, hcm, _, hsl⟩ := hv.slc
  clear hsl
  have hzn : szD (.rows 10 n cs) = n + szL cs := by simp only [szD]
  rw [hzn] at hz
  have hn20 : n ≤ 1048576 := by omega
  unfold maxLen at hm hcm
  obtain ⟨i0, hi, hz0, hz1, hz2⟩ := info_parts info_implEntry
  have hmk := fun W => run_make_rowN (P := Try.prog) 27 101 i0 _ Try.underlying27 hi hz0 .i64 .i64 n n (Nat.le_refl _) (by rw [hz2]; omega) (by omega) W
  rw [hz1] at hmk
  have IH := Lib.hid ih
  have HCS := Lib.hid hcs
  have HV := Lib.hid hv
  have HL := Lib.hid hl
  have HZ := Lib.hid hz
  clear ih hcs hv hl hi hz0 hz1 hz2 hz hzn
  go_enter Try.func69, Try.ntmps69
  go_wp2
  go_loopw [4] (fun i wr => ∃ k : Nat, k ≤ n ∧ i = .int .i64 k ∧ (∃ vs : List Value, vs.length = k * 10 ∧ Blk wr w.heap.size 101 (vs ++ (List.replicate (n - k) ([.int .i64 0, .string ⟨#[]⟩, .string ⟨#[]⟩, .int .i64 0, .int .i64 0, .slice none 0 0, .int .i64 0, .slice none 0 0, .slice none 0 0, .slice none 0 0] : List Value)).flatten).toArray ∧ FreshL wr (w.heap.size + 1) (cs.take (k * 10)) vs) ∧ Below w.heap.size w wr) (fun i _ => n - (intOf i).toNat)
  case atStart =>
    refine ⟨0, Nat.zero_le _, rfl, ⟨[], by simp, ?_, by simpa using FreshL.nil _ _⟩, (Below.refl _ _).alloc (Nat.le_refl _) _⟩
    have hfl := madeCells_flat #[.int .i64 0, .string ⟨#[]⟩, .string ⟨#[]⟩, .int .i64 0, .int .i64 0, .slice none 0 0, .int .i64 0, .slice none 0 0, .slice none 0 0, .slice none 0 0] (by simp) n
    simp only [List.nil_append, Nat.sub_zero]
    have e1 : madeCells #[.int .i64 0, .string ⟨#[]⟩, .string ⟨#[]⟩, .int .i64 0, .int .i64 0, .slice none 0 0, .int .i64 0, .slice none 0 0, .slice none 0 0, .slice none 0 0] (n * 10) = ((List.replicate n ([.int .i64 0, .string ⟨#[]⟩, .string ⟨#[]⟩, .int .i64 0, .int .i64 0, .slice none 0 0, .int .i64 0, .slice none 0 0, .slice none 0 0, .slice none 0 0] : List Value)).flatten).toArray := hfl
    rw [← e1]
    exact Blk.new _ _ _
  case round =>
    obtain ⟨k, hk, rfl, ⟨vs, hvl, hB, hFr⟩, hb⟩ := hrel
    by_cases hlt : k < n
    case neg =>
      have hB2 : Blk wr w.heap.size 101 vs.toArray := by rw [show n - k = 0 by omega] at hB; simpa using hB
      have hFr2 : FreshL wr (w.heap.size + 1) cs vs := by rw [List.take_of_length_le (by rw [HL.out]; exact Nat.mul_le_mul_right _ (by omega))] at hFr; exact hFr
      clear hB hFr hvl
      go_wp2
      go_ret
      obtain ⟨fp, ho, hnd, hkk⟩ := hFr2
      exact ⟨_, _, _, rfl, own_of_blk hB2 ho hnd (fun k hm => by have := hkk k hm; omega) (fun hm => by have := hkk _ hm; omega) HL.out (by unfold maxLen; omega) (Nat.le_refl _), hb⟩
    obtain ⟨b, off, rv, rfl, hbS, hcells, hrep⟩ := HV.out.row k hlt
    have hcr : ConfL (rowAt 10 cs k) K.entry.fields := conf_row n K.entry.fields cs k HCS.out hlt
    have hsr : StrBL (rowAt 10 cs k) := strBL_all _ fun d hd => StrBL.mem _ _ (rowAt_mem _ _ _ _ hd) HSB.out
    obtain ⟨i0, s1, s2, i3, i4, d5, i6, d7, d8, d9, hrow, cf5, cf7, cf8, cf9⟩ := conf_entry hcr
    replace hrow : rowAt 10 cs k = [.int i0, .str s1, .str s2, .int i3, .int i4, d5, .int i6, d7, d8, d9] := hrow
    rw [hrow] at hrep hcr hsr
    have hrep0 := hrep
    simp only [RepVs, RepV] at hrep
    obtain ⟨z0, q0, rfl, rfl, z1, q1, rfl, rfl, z2, q2, rfl, rfl, z3, q3, rfl, rfl, z4, q4, rfl, rfl, v5, q5, rfl, hv5, z6, q6, rfl, rfl, v7, q7, rfl, hv7, v8, q8, rfl, hv8, v9, q9, rfl, hv9, rfl⟩ := hrep
    have c0 := hcells 0 (by simp)
    have c1 := hcells 1 (by simp)
    have c2 := hcells 2 (by simp)
    have c3 := hcells 3 (by simp)
    have c4 := hcells 4 (by simp)
    have c5 := hcells 5 (by simp)
    have c6 := hcells 6 (by simp)
    have c7 := hcells 7 (by simp)
    have c8 := hcells 8 (by simp)
    have c9 := hcells 9 (by simp)
    simp at c0 c1 c2 c3 c4 c5 c6 c7 c8 c9
    replace c0 := (hb.cell (p := ⟨b, off + k * 10, none⟩) (World.block_lt_of_cell? w _ c0)).trans c0
    replace c1 := (hb.cell (p := ⟨b, off + k * 10 + 1, none⟩) (World.block_lt_of_cell? w _ c1)).trans c1
    replace c2 := (hb.cell (p := ⟨b, off + k * 10 + 2, none⟩) (World.block_lt_of_cell? w _ c2)).trans c2
    replace c3 := (hb.cell (p := ⟨b, off + k * 10 + 3, none⟩) (World.block_lt_of_cell? w _ c3)).trans c3
    replace c4 := (hb.cell (p := ⟨b, off + k * 10 + 4, none⟩) (World.block_lt_of_cell? w _ c4)).trans c4
    replace c5 := (hb.cell (p := ⟨b, off + k * 10 + 5, none⟩) (World.block_lt_of_cell? w _ c5)).trans c5
    replace c6 := (hb.cell (p := ⟨b, off + k * 10 + 6, none⟩) (World.block_lt_of_cell? w _ c6)).trans c6
    replace c7 := (hb.cell (p := ⟨b, off + k * 10 + 7, none⟩) (World.block_lt_of_cell? w _ c7)).trans c7
    replace c8 := (hb.cell (p := ⟨b, off + k * 10 + 8, none⟩) (World.block_lt_of_cell? w _ c8)).trans c8
    replace c9 := (hb.cell (p := ⟨b, off + k * 10 + 9, none⟩) (World.block_lt_of_cell? w _ c9)).trans c9
    clear hcells
    have hnext := Lib.hid (show cs.take ((k + 1) * 10) = cs.take (k * 10) ++ [.int i0, .str s1, .str s2, .int i3, .int i4, d5, .int i6, d7, d8, d9] by rw [take_rowAt, hrow])
    have hzr : szL [.int i0, .str s1, .str s2, .int i3, .int i4, d5, .int i6, d7, d8, d9] ≤ 1048576 := by
      have h1 := szL_take_le cs ((k + 1) * 10)
      rw [hnext.out, szL_append] at h1
      have h2 := HZ.out; omega
    have HZR := Lib.hid hzr
    have hSw : S ≤ wr.heap.size := Nat.le_trans hS hb.size
    have HX : Hid (∀ W, S ≤ W.heap.size → Below S w W → Calls Try.prog 143 #[.agg #[.int .i64 i0, .string s1, .string s2, .int .i64 i3, .int .i64 i4, v5, .int .i64 i6, v7, v8, v9]] W fun e w' => ∃ a5 n5 c5 a7 n7 c7 a8 n8 c8 a9 n9 c9, e = .returned (.agg #[.int .i64 i0, .string s1, .string s2, .int .i64 i3, .int .i64 i4, .slice a5 n5 c5, .int .i64 i6, .slice a7 n7 c7, .slice a8 n8 c8, .slice a9 n9 c9]) ∧ FreshL w' W.heap.size [.int i0, .str s1, .str s2, .int i3, .int i4, d5, .int i6, d7, d8, d9] [.int .i64 i0, .string s1, .string s2, .int .i64 i3, .int .i64 i4, .slice a5 n5 c5, .int .i64 i6, .slice a7 n7 c7, .slice a8 n8 c8, .slice a9 n9 c9] ∧ Below W.heap.size W w') :=
      Lib.hid fun W hSW hBW => toEntry_w hcr hsr hzr (hrep0.later hBW (Nat.le_refl _)) hSW
    clear hrow hzr cf5 cf7 cf8 cf9 hcr hsr hrep0
    have hi1 : (k : Int) < (n : Int) := by omega
    have HVL := Lib.hid hvl
    have HB := Lib.hid hB
    clear hB hvl
    go_wp2_with fail
    refine (HX.out wr hSw (hb.mono hS)).mono ?_
    rintro e w1 ⟨a5, n5, c5, a7, n7, c7, a8, n8, c8, a9, n9, c9, rfl, hf1, hb1⟩
    have hB1 := HB.out.below hb1 HB.out.lt
    have hsplit : vs ++ (List.replicate (n - k) ([.int .i64 0, .string ⟨#[]⟩, .string ⟨#[]⟩, .int .i64 0, .int .i64 0, .slice none 0 0, .int .i64 0, .slice none 0 0, .slice none 0 0, .slice none 0 0] : List Value)).flatten = vs ++ (([.int .i64 0, .string ⟨#[]⟩, .string ⟨#[]⟩, .int .i64 0, .int .i64 0, .slice none 0 0, .int .i64 0, .slice none 0 0, .slice none 0 0, .slice none 0 0] : List Value) ++ (List.replicate (n - (k + 1)) ([.int .i64 0, .string ⟨#[]⟩, .string ⟨#[]⟩, .int .i64 0, .int .i64 0, .slice none 0 0, .int .i64 0, .slice none 0 0, .slice none 0 0, .slice none 0 0] : List Value)).flatten) := by
      rw [show n - k = (n - (k + 1)) + 1 by omega, List.replicate_succ, List.flatten_cons]
    rw [hsplit] at hB1
    have g0 : w1.cell? ⟨w.heap.size, k * 10, none⟩ = some (.int .i64 0) := by
      have := hB1.cell (k * 10)
      rw [this]; simp [HVL.out]
    have z0 := hB1.frozen (k * 10)
    have g1 : w1.cell? ⟨w.heap.size, k * 10 + 1, none⟩ = some (.string ⟨#[]⟩) := by
      have := hB1.cell (k * 10 + 1)
      rw [this]; simp [HVL.out]
    have z1 := hB1.frozen (k * 10 + 1)
    have g2 : w1.cell? ⟨w.heap.size, k * 10 + 2, none⟩ = some (.string ⟨#[]⟩) := by
      have := hB1.cell (k * 10 + 2)
      rw [this]; simp [HVL.out]
    have z2 := hB1.frozen (k * 10 + 2)
    have g3 : w1.cell? ⟨w.heap.size, k * 10 + 3, none⟩ = some (.int .i64 0) := by
      have := hB1.cell (k * 10 + 3)
      rw [this]; simp [HVL.out]
    have z3 := hB1.frozen (k * 10 + 3)
    have g4 : w1.cell? ⟨w.heap.size, k * 10 + 4, none⟩ = some (.int .i64 0) := by
      have := hB1.cell (k * 10 + 4)
      rw [this]; simp [HVL.out]
    have z4 := hB1.frozen (k * 10 + 4)
    have g5 : w1.cell? ⟨w.heap.size, k * 10 + 5, none⟩ = some (.slice none 0 0) := by
      have := hB1.cell (k * 10 + 5)
      rw [this]; simp [HVL.out]
    have z5 := hB1.frozen (k * 10 + 5)
    have g6 : w1.cell? ⟨w.heap.size, k * 10 + 6, none⟩ = some (.int .i64 0) := by
      have := hB1.cell (k * 10 + 6)
      rw [this]; simp [HVL.out]
    have z6 := hB1.frozen (k * 10 + 6)
    have g7 : w1.cell? ⟨w.heap.size, k * 10 + 7, none⟩ = some (.slice none 0 0) := by
      have := hB1.cell (k * 10 + 7)
      rw [this]; simp [HVL.out]
    have z7 := hB1.frozen (k * 10 + 7)
    have g8 : w1.cell? ⟨w.heap.size, k * 10 + 8, none⟩ = some (.slice none 0 0) := by
      have := hB1.cell (k * 10 + 8)
      rw [this]; simp [HVL.out]
    have z8 := hB1.frozen (k * 10 + 8)
    have g9 : w1.cell? ⟨w.heap.size, k * 10 + 9, none⟩ = some (.slice none 0 0) := by
      have := hB1.cell (k * 10 + 9)
      rw [this]; simp [HVL.out]
    have z9 := hB1.frozen (k * 10 + 9)
    have HSET : Hid (∀ W : World, Blk W w.heap.size 101 (vs ++ (([.int .i64 0, .string ⟨#[]⟩, .string ⟨#[]⟩, .int .i64 0, .int .i64 0, .slice none 0 0, .int .i64 0, .slice none 0 0, .slice none 0 0, .slice none 0 0] : List Value) ++ (List.replicate (n - (k + 1)) ([.int .i64 0, .string ⟨#[]⟩, .string ⟨#[]⟩, .int .i64 0, .int .i64 0, .slice none 0 0, .int .i64 0, .slice none 0 0, .slice none 0 0, .slice none 0 0] : List Value)).flatten)).toArray → Blk (((((((((((W.setCell ⟨w.heap.size, k * 10, none⟩ (.int .i64 i0)).setCell ⟨w.heap.size, k * 10 + 1, none⟩ (.string s1)).setCell ⟨w.heap.size, k * 10 + 2, none⟩ (.string s2)).setCell ⟨w.heap.size, k * 10 + 3, none⟩ (.int .i64 i3)).setCell ⟨w.heap.size, k * 10 + 4, none⟩ (.int .i64 i4)).setCell ⟨w.heap.size, k * 10 + 5, none⟩ (.slice a5 n5 c5)).setCell ⟨w.heap.size, k * 10 + 6, none⟩ (.int .i64 i6)).setCell ⟨w.heap.size, k * 10 + 7, none⟩ (.slice a7 n7 c7)).setCell ⟨w.heap.size, k * 10 + 8, none⟩ (.slice a8 n8 c8)).setCell ⟨w.heap.size, k * 10 + 9, none⟩ (.slice a9 n9 c9))) w.heap.size 101 ((vs ++ ([.int .i64 i0, .string s1, .string s2, .int .i64 i3, .int .i64 i4, .slice a5 n5 c5, .int .i64 i6, .slice a7 n7 c7, .slice a8 n8 c8, .slice a9 n9 c9] : List Value)) ++ (List.replicate (n - (k + 1)) ([.int .i64 0, .string ⟨#[]⟩, .string ⟨#[]⟩, .int .i64 0, .int .i64 0, .slice none 0 0, .int .i64 0, .slice none 0 0, .slice none 0 0, .slice none 0 0] : List Value)).flatten).toArray) := Lib.hid fun W hW => by
      have h1 := ((((((((((hW.set_ (k * 10) (.int .i64 i0)).set_ (k * 10 + 1) (.string s1)).set_ (k * 10 + 2) (.string s2)).set_ (k * 10 + 3) (.int .i64 i3)).set_ (k * 10 + 4) (.int .i64 i4)).set_ (k * 10 + 5) (.slice a5 n5 c5)).set_ (k * 10 + 6) (.int .i64 i6)).set_ (k * 10 + 7) (.slice a7 n7 c7)).set_ (k * 10 + 8) (.slice a8 n8 c8)).set_ (k * 10 + 9) (.slice a9 n9 c9))
      simp only [List.setIfInBounds_toArray] at h1
      have h2 := setRow_mid [.int .i64 i0, .string s1, .string s2, .int .i64 i3, .int .i64 i4, .slice a5 n5 c5, .int .i64 i6, .slice a7 n7 c7, .slice a8 n8 c8, .slice a9 n9 c9] vs [.int .i64 0, .string ⟨#[]⟩, .string ⟨#[]⟩, .int .i64 0, .int .i64 0, .slice none 0 0, .int .i64 0, .slice none 0 0, .slice none 0 0, .slice none 0 0] (List.replicate (n - (k + 1)) ([.int .i64 0, .string ⟨#[]⟩, .string ⟨#[]⟩, .int .i64 0, .int .i64 0, .slice none 0 0, .int .i64 0, .slice none 0 0, .slice none 0 0, .slice none 0 0] : List Value)).flatten rfl
      simp only [setRow] at h2
      rw [HVL.out] at h2
      rw [List.append_assoc, ← h2]
      exact h1
    have HB1 := Lib.hid hB1
    clear hB1 hsplit
    go_wp2
    go_roundw
    case rel =>
      refine ⟨k + 1, by omega, by go_num, ⟨vs ++ [.int .i64 i0, .string s1, .string s2, .int .i64 i3, .int .i64 i4, .slice a5 n5 c5, .int .i64 i6, .slice a7 n7 c7, .slice a8 n8 c8, .slice a9 n9 c9], by rw [List.length_append, HVL.out]; simp [Nat.succ_mul], HSET.out _ HB1.out, ?_⟩, ?_⟩
      · rw [hnext.out]
        refine FreshL.only (fp := [w.heap.size]) (FreshL.append hFr hb1 (by have := HB.out.lt; omega) hf1) ?_ (by simp)
        repeat (refine Only.setCell ?_ (by simp) _)
        exact Only.refl _ _
      · repeat (refine Below.setCell ?_ (by simp) _)
        exact hb.trans (hb1.mono hb.size)
    case measure => simp [intOf]; omega
theorem con_toEntryS (xs : List En) (h : Inn (ensD xs) .entry) (hz : szD (ensD xs) ≤ 1048576) : Con Try.prog 69 [.one (ensD xs)] [.one (ensD xs)] :=
  lp_to1 ⟨_, Try.func69, rfl, rfl⟩ fun w v hr => toEntryS_all _ h.1 h.2 v w.heap.size w hr (Nat.le_refl _) hz
theorem con_toCache2 (c : Ca) (h : In (caC c) [.sl .entry, .int, .int]) (hz : szL (caC c) ≤ 1048576) : Con Try.prog 16 [.ag (caC c)] [.ag (caC c)] :=
  con_toCache c (con_toEntryS c.entries (inCa h) (by simp only [caC, szL] at hz; omega))
end Go.Proofs.Ytdimcjafjkabmaa
