/-
  Sizes of lists of structs that came in.
-/
import Derived.Test.YtgjcilainojlfaaHSzTy
import Derived.Test.YtgjcilainojlfaaHToTy
import Derived.Test.YtgjcilainojlfaaHEqTy
namespace Go.Proofs.Ytgjcilainojlfaa
open Go.RowKit
set_option linter.unusedVariables false
theorem szL_of_ints : ∀ (F : List CK) (cs : List D), (∀ c ∈ F, c = CK.int) → ConfL cs F → szL cs = 0
  | [], cs, _, h => by
    cases cs with
    | nil => rfl
    | cons x xs => unfold ConfL at h; obtain ⟨c, r, e, _⟩ := h; cases e
  | c :: F, cs, hF, h => by
    cases cs with
    | nil => rfl
    | cons x xs =>
      unfold ConfL at h
      obtain ⟨c', r, e, h1, h2⟩ := h
      injection e with e1 e2
      subst e1 e2
      have := hF c (List.mem_cons_self ..)
      subst this
      obtain ⟨n, rfl⟩ := conf_int h1
      rw [szL, szL_of_ints F xs (fun c hc => hF c (List.mem_cons_of_mem _ hc)) h2]; rfl
set_option maxHeartbeats 1000000 in
theorem szInstrS_all : ∀ d, Conf d (.sl .instr) → StrB d → SzInstrS d := by
  refine D.ind (fun d hd h => by rcases hd with rfl | ⟨_, rfl⟩ <;> (unfold Conf at h; exact h.elim)) (fun n h => by unfold Conf at h; cases h) (fun b h => by unfold Conf at h; cases h) (fun s h => by unfold Conf at h; cases h) fun sz n cs ih h hsb => ?_
  unfold Conf at h
  obtain ⟨k0, e, hsz, hl, hm, hcs⟩ := h
  injection e with e
  subst e
  intro v S w left hv hS h0 h1
  obtain ⟨a, cap, rfl, hnc, hcm, _, hsl⟩ := hv.slc
  clear hsl
  unfold maxLen at hm hcm
  have hz : szL cs = 0 := szL_of_ints _ _ (fun c hc => by
    rw [List.mem_flatten] at hc
    obtain ⟨l, hl, hc⟩ := hc
    rw [List.eq_of_mem_replicate hl] at hc
    simpa [K.fields] using hc) hcs
  have hszn : szD (.rows sz n cs) = n := by simp only [szD, hz]; omega
  by_cases hn : (n : Int) ≤ left
  case neg =>
    have HE := Lib.hid (show szR left (szD (.rows sz n cs)) = -1 from szR_out _ _ (by rw [hszn]; omega))
    have hneg : left - (n : Int) < 0 := by omega
    clear hszn ih hcs hz hl hsb hsz
    go_enter Try.func15, Try.ntmps15
    go_wp2
    go_ret
    exact ⟨by rw [HE.out]; rfl, Below.refl _ _⟩
  have HE := Lib.hid (show szR left (szD (.rows sz n cs)) = left - n from by rw [szR_in _ _ (by rw [hszn]; omega), hszn])
  have hnn : ¬ left - (n : Int) < 0 := by omega
  clear hszn ih hcs hz hl hsb hsz
  go_enter Try.func15, Try.ntmps15
  go_wp2
  go_ret
  exact ⟨by rw [HE.out]; rfl, Below.refl _ _⟩
end Go.Proofs.Ytgjcilainojlfaa
/-
  Copies of structs and of lists of them.
-/
namespace Go.Proofs.Ytgjcilainojlfaa
open Go.RowKit
set_option linter.unusedVariables false
set_option maxHeartbeats 2000000 in
theorem toInstr_of (i0 : Int) (i1 : Int)  (S : Nat) (w : World)  (hS : S ≤ w.heap.size) (hz : szL [.int i0, .int i1] ≤ 1048576) :
    Calls Try.prog 43 #[.agg #[.int .i64 i0, .int .i64 i1]] w fun e w' => e = .returned (.agg #[.int .i64 i0, .int .i64 i1]) ∧ FreshL w' w.heap.size [.int i0, .int i1] [.int .i64 i0, .int .i64 i1] ∧ Below w.heap.size w w' := by
  have hsum : szL [.int i0, .int i1] = 0 := by simp [szL, szD]
  clear hsum hz
  go_enter Try.func43, Try.ntmps43
  go_wp2
  refine bodyPost_ret (v := .agg #[.int .i64 i0, .int .i64 i1]) (by simp [results, Try.results43, go_sem]) rfl ⟨rfl, ((FreshL.nil _ _).cell (own_int _ _)).cell (own_int _ _), ?_⟩
  exact (((Below.refl _ _).alloc (Nat.le_refl _) _).alloc (by simp) _).alloc (by simp <;> omega) _
theorem info_implInstr : (Try.prog.info? 78).map (fun i => (i.zero, i.size, i.bytes)) = some (some (.agg #[.int .i64 0, .int .i64 0]), 2, 16) := by kernel_rfl
set_option maxHeartbeats 2000000 in
theorem toInstrS_all : ∀ d, Conf d (.sl .instr) → ToInstrS d := by
  refine D.ind (fun d hd h => by rcases hd with rfl | ⟨_, rfl⟩ <;> (unfold Conf at h; exact h.elim)) (fun n h => by unfold Conf at h; cases h) (fun b h => by unfold Conf at h; cases h) (fun s h => by unfold Conf at h; cases h) fun sz n cs ih h => ?_
  unfold Conf at h
  obtain ⟨k0, e, hsz, hl, hm, hcs⟩ := h
  injection e with e
  subst e
  obtain rfl : sz = 2 := hsz
  intro v S w hv hS hz
  obtain ⟨a, cap, rfl, hnc, hcm, _, hsl⟩ := hv.slc
  clear hsl
  have hzn : szD (.rows 2 n cs) = n + szL cs := by simp only [szD]
  rw [hzn] at hz
  have hn20 : n ≤ 1048576 := by omega
  unfold maxLen at hm hcm
  obtain ⟨i0, hi, hz0, hz1, hz2⟩ := info_parts info_implInstr
  have hmk := fun W => run_make_rowN (P := Try.prog) 51 78 i0 _ Try.underlying51 hi hz0 .i64 .i64 n n (Nat.le_refl _) (by rw [hz2]; omega) (by omega) W
  rw [hz1] at hmk
  have IH := Lib.hid ih
  have HCS := Lib.hid hcs
  have HV := Lib.hid hv
  have HL := Lib.hid hl
  have HZ := Lib.hid hz
  clear ih hcs hv hl hi hz0 hz1 hz2 hz hzn
  go_enter Try.func17, Try.ntmps17
  go_wp2
  go_loopw [4] (fun i wr => ∃ k : Nat, k ≤ n ∧ i = .int .i64 k ∧ (∃ vs : List Value, vs.length = k * 2 ∧ Blk wr w.heap.size 78 (vs ++ (List.replicate (n - k) ([.int .i64 0, .int .i64 0] : List Value)).flatten).toArray ∧ FreshL wr (w.heap.size + 1) (cs.take (k * 2)) vs) ∧ Below w.heap.size w wr) (fun i _ => n - (intOf i).toNat)
  case atStart =>
    refine ⟨0, Nat.zero_le _, rfl, ⟨[], by simp, ?_, by simpa using FreshL.nil _ _⟩, (Below.refl _ _).alloc (Nat.le_refl _) _⟩
    have hfl := madeCells_flat #[.int .i64 0, .int .i64 0] (by simp) n
    simp only [List.nil_append, Nat.sub_zero]
    have e1 : madeCells #[.int .i64 0, .int .i64 0] (n * 2) = ((List.replicate n ([.int .i64 0, .int .i64 0] : List Value)).flatten).toArray := hfl
    rw [← e1]
    exact Blk.new _ _ _
  case round =>
    obtain ⟨k, hk, rfl, ⟨vs, hvl, hB, hFr⟩, hb⟩ := hrel
    by_cases hlt : k < n
    case neg =>
      have hB2 : Blk wr w.heap.size 78 vs.toArray := by rw [show n - k = 0 by omega] at hB; simpa using hB
      have hFr2 : FreshL wr (w.heap.size + 1) cs vs := by rw [List.take_of_length_le (by rw [HL.out]; exact Nat.mul_le_mul_right _ (by omega))] at hFr; exact hFr
      clear hB hFr hvl
      go_wp2
      go_ret
      obtain ⟨fp, ho, hnd, hkk⟩ := hFr2
      exact ⟨_, _, _, rfl, own_of_blk hB2 ho hnd (fun k hm => by have := hkk k hm; omega) (fun hm => by have := hkk _ hm; omega) HL.out (by unfold maxLen; omega) (Nat.le_refl _), hb⟩
    obtain ⟨b, off, rv, rfl, hbS, hcells, hrep⟩ := HV.out.row k hlt
    obtain ⟨i0, i1, hrow⟩ := conf_instr (conf_row n K.instr.fields cs k HCS.out hlt)
    replace hrow : rowAt 2 cs k = [.int i0, .int i1] := hrow
    rw [hrow] at hrep
    simp only [RepVs, RepV] at hrep
    obtain ⟨z0, q0, rfl, rfl, z1, q1, rfl, rfl, rfl⟩ := hrep
    have c0 := hcells 0 (by simp)
    have c1 := hcells 1 (by simp)
    simp at c0 c1
    replace c0 := (hb.cell (p := ⟨b, off + k * 2, none⟩) (World.block_lt_of_cell? w _ c0)).trans c0
    replace c1 := (hb.cell (p := ⟨b, off + k * 2 + 1, none⟩) (World.block_lt_of_cell? w _ c1)).trans c1
    clear hcells
    have hnext := Lib.hid (show cs.take ((k + 1) * 2) = cs.take (k * 2) ++ [.int i0, .int i1] by rw [take_rowAt, hrow])
    have hzr : szL [.int i0, .int i1] ≤ 1048576 := by
      have h1 := szL_take_le cs ((k + 1) * 2)
      rw [hnext.out, szL_append] at h1
      have h2 := HZ.out; omega
    have HZR := Lib.hid hzr
    have hSw : S ≤ wr.heap.size := Nat.le_trans hS hb.size
    clear hrow hzr
    have hi1 : (k : Int) < (n : Int) := by omega
    have HVL := Lib.hid hvl
    have HB := Lib.hid hB
    clear hB hvl
    go_wp2_with fail
    refine (toInstr_of i0 i1  S wr  hSw HZR.out).mono ?_
    rintro e w1 ⟨rfl, hf1, hb1⟩
    have hB1 := HB.out.below hb1 HB.out.lt
    have hsplit : vs ++ (List.replicate (n - k) ([.int .i64 0, .int .i64 0] : List Value)).flatten = vs ++ (([.int .i64 0, .int .i64 0] : List Value) ++ (List.replicate (n - (k + 1)) ([.int .i64 0, .int .i64 0] : List Value)).flatten) := by
      rw [show n - k = (n - (k + 1)) + 1 by omega, List.replicate_succ, List.flatten_cons]
    rw [hsplit] at hB1
    have g0 : w1.cell? ⟨w.heap.size, k * 2, none⟩ = some (.int .i64 0) := by
      have := hB1.cell (k * 2)
      rw [this]; simp [HVL.out]
    have z0 := hB1.frozen (k * 2)
    have g1 : w1.cell? ⟨w.heap.size, k * 2 + 1, none⟩ = some (.int .i64 0) := by
      have := hB1.cell (k * 2 + 1)
      rw [this]; simp [HVL.out]
    have z1 := hB1.frozen (k * 2 + 1)
    have HSET : Hid (∀ W : World, Blk W w.heap.size 78 (vs ++ (([.int .i64 0, .int .i64 0] : List Value) ++ (List.replicate (n - (k + 1)) ([.int .i64 0, .int .i64 0] : List Value)).flatten)).toArray → Blk (((W.setCell ⟨w.heap.size, k * 2, none⟩ (.int .i64 i0)).setCell ⟨w.heap.size, k * 2 + 1, none⟩ (.int .i64 i1))) w.heap.size 78 ((vs ++ ([.int .i64 i0, .int .i64 i1] : List Value)) ++ (List.replicate (n - (k + 1)) ([.int .i64 0, .int .i64 0] : List Value)).flatten).toArray) := Lib.hid fun W hW => by
      have h1 := ((hW.set_ (k * 2) (.int .i64 i0)).set_ (k * 2 + 1) (.int .i64 i1))
      simp only [List.setIfInBounds_toArray] at h1
      have h2 := setRow_mid [.int .i64 i0, .int .i64 i1] vs [.int .i64 0, .int .i64 0] (List.replicate (n - (k + 1)) ([.int .i64 0, .int .i64 0] : List Value)).flatten rfl
      simp only [setRow] at h2
      rw [HVL.out] at h2
      rw [List.append_assoc, ← h2]
      exact h1
    have HB1 := Lib.hid hB1
    clear hB1 hsplit
    go_wp2
    go_roundw
    case rel =>
      refine ⟨k + 1, by omega, by go_num, ⟨vs ++ [.int .i64 i0, .int .i64 i1], by rw [List.length_append, HVL.out]; simp [Nat.succ_mul], HSET.out _ HB1.out, ?_⟩, ?_⟩
      · rw [hnext.out]
        refine FreshL.only (fp := [w.heap.size]) (FreshL.append hFr hb1 (by have := HB.out.lt; omega) hf1) ?_ (by simp)
        repeat (refine Only.setCell ?_ (by simp) _)
        exact Only.refl _ _
      · repeat (refine Below.setCell ?_ (by simp) _)
        exact hb.trans (hb1.mono hb.size)
    case measure => simp [intOf]; omega
end Go.Proofs.Ytgjcilainojlfaa
/-
  Equality of structs and of lists of them.
-/
namespace Go.Proofs.Ytgjcilainojlfaa
open Go.RowKit
set_option linter.unusedVariables false
set_option maxHeartbeats 1000000 in
theorem eqItem_of (s0x : ByteArray) (i1x : Int) (s0y : ByteArray) (i1y : Int)   (S S' : Nat) (w : World)  (hS : S ≤ w.heap.size) (hS' : S' ≤ w.heap.size) :
    Calls Try.prog 65 #[.agg #[.string s0x, .int .i64 i1x], .agg #[.string s0y, .int .i64 i1y]] w fun e w' => e = .returned (.bool (eqL [.str s0x, .int i1x] [.str s0y, .int i1y])) ∧ Below w.heap.size w w' := by
  have hB0 : Below w.heap.size w ((w.alloc (.cells #[.string s0x, .int .i64 i1x] 113)).alloc (.cells #[.string s0y, .int .i64 i1y] 113)) := ((Below.refl _ _).alloc (Nat.le_refl _) _).alloc (by simp) _
  have hX0 : Blk ((w.alloc (.cells #[.string s0x, .int .i64 i1x] 113)).alloc (.cells #[.string s0y, .int .i64 i1y] 113)) w.heap.size 113 #[.string s0x, .int .i64 i1x] := (Blk.new w _ _).alloc _
  have hY0 : Blk ((w.alloc (.cells #[.string s0x, .int .i64 i1x] 113)).alloc (.cells #[.string s0y, .int .i64 i1y] 113)) (w.heap.size + 1) 113 #[.string s0y, .int .i64 i1y] := by simpa using Blk.new (w.alloc (.cells #[.string s0x, .int .i64 i1x] 113)) 113 #[.string s0y, .int .i64 i1y]
  by_cases hc0 : s0x = s0y
  case neg =>
    have HF := Lib.hid (show eqL [.str s0x, .int i1x] [.str s0y, .int i1y] = false from eqL_f (by intro h; apply hc0; simp at h; simp [h]))
    have ht0_0 : (s0x.toList == s0y.toList) = false := (Lib.bytes_beq_false_iff _ _).2 hc0
    clear hc0
    go_enter Try.func65, Try.ntmps65
    go_wp2
    go_ret
    exact ⟨by rw [HF.out]; rfl, hB0⟩
  have ht0_0 : (s0x.toList == s0y.toList) = true := (Lib.bytes_beq_iff _ _).2 hc0
  have HC0 := Lib.hid hc0
  clear hc0
  by_cases hc1 : i1x = i1y
  case neg =>
    have HF := Lib.hid (show eqL [.str s0x, .int i1x] [.str s0y, .int i1y] = false from eqL_f (by intro h; apply hc1; simp at h; simp [h]))
    have ht1_0 : (i1x != i1y) = true := by simp [hc1]
    clear hc1
    go_enter Try.func65, Try.ntmps65
    go_wp2
    go_ret
    exact ⟨by rw [HF.out]; rfl, hB0⟩
  have ht1_0 : (i1x != i1y) = false := by simp [hc1]
  have HC1 := Lib.hid hc1
  clear hc1
  have HF := Lib.hid (show eqL [.str s0x, .int i1x] [.str s0y, .int i1y] = true from eqL_t (by
    have g0 := HC0.out
    have g1 := HC1.out
    try simp at g0
    try simp at g1
    simp [g0, g1]))
  go_enter Try.func65, Try.ntmps65
  go_wp2
  go_ret
  exact ⟨by rw [HF.out]; rfl, hB0⟩
set_option maxHeartbeats 2000000 in
theorem eqItemS_all : ∀ d, Conf d (.sl .item) → EqItemS d := by
  refine D.ind (fun d hd h => by rcases hd with rfl | ⟨_, rfl⟩ <;> (unfold Conf at h; exact h.elim)) (fun n h => by unfold Conf at h; cases h) (fun b h => by unfold Conf at h; cases h) (fun s h => by unfold Conf at h; cases h) fun sz n cs ih h => ?_
  unfold Conf at h
  obtain ⟨k0, e, hsz, hl, hm, hcs⟩ := h
  injection e with e
  subst e
  obtain rfl : sz = 2 := hsz
  intro d' v u S S' w h' hv hu hS hS'
  obtain ⟨n', cs', hde, hl', hm', hcs'⟩ := conf_sl h'
  obtain rfl : d' = .rows 2 n' cs' := hde
  replace hl' : cs'.length = n' * 2 := hl'
  obtain ⟨a, cap, rfl, hnc, hcm, _, hsl⟩ := hv.slc
  obtain ⟨a', cap', rfl, hnc', hcm', _, hsl'⟩ := hu.slc
  clear hsl hsl' h'
  unfold maxLen at hm hm' hcm hcm'
  by_cases hnn : n = n'
  case neg =>
    have HF := Lib.hid (show eqD (.rows 2 n cs) (.rows 2 n' cs') = false from eqD_f (by intro h; injection h with _ h1 _; exact hnn h1))
    have hne : ((n : Int) != (n' : Int)) = true := by simp; omega
    clear ih hcs hcs' hnn hl hl'
    go_enter Try.func33, Try.ntmps33
    go_wp2
    go_ret
    exact ⟨by rw [HF.out]; rfl, Below.refl _ _⟩
  subst hnn
  have hne : ((n : Int) != (n : Int)) = false := by simp
  have IH := Lib.hid ih
  have HCS := Lib.hid hcs
  have HV := Lib.hid hv
  have HL := Lib.hid hl
  have HCS' := Lib.hid hcs'
  have HU := Lib.hid hu
  have HL' := Lib.hid hl'
  clear ih hcs hv hl hcs' hu hl'
  go_enter Try.func33, Try.ntmps33
  go_wp2
  go_loopw [5] (fun i wr => ∃ k : Nat, k ≤ n ∧ i = .int .i64 k ∧ Hid (cs.take (k * 2) = cs'.take (k * 2)) ∧ Below w.heap.size w wr) (fun i _ => n - (intOf i).toNat)
  case atStart => exact ⟨0, Nat.zero_le _, rfl, by simp [Hid], Below.refl _ _⟩
  case round =>
    obtain ⟨k, hk, rfl, HQ, hb⟩ := hrel
    by_cases hlt : k < n
    case neg =>
      have HF := Lib.hid (show eqD (.rows 2 n cs) (.rows 2 n cs') = true from eqD_t (by
        have h1 := HQ.out
        rw [List.take_of_length_le (by rw [HL.out]; exact Nat.mul_le_mul_right _ (by omega)), List.take_of_length_le (by rw [HL'.out]; exact Nat.mul_le_mul_right _ (by omega))] at h1
        rw [h1]))
      go_wp2
      go_ret
      exact ⟨by rw [HF.out]; rfl, hb⟩
    obtain ⟨b, off, rv, rfl, hbS, hcells, hrep⟩ := HV.out.row k hlt
    obtain ⟨b', off', rv', rfl, hbS', hcells', hrep'⟩ := HU.out.row k hlt
    obtain ⟨s0x, i1x, hrowx⟩ := conf_item (conf_row n K.item.fields cs k HCS.out hlt)
    obtain ⟨s0y, i1y, hrowy⟩ := conf_item (conf_row n K.item.fields cs' k HCS'.out hlt)
    replace hrowx : rowAt 2 cs k = [.str s0x, .int i1x] := hrowx
    replace hrowy : rowAt 2 cs' k = [.str s0y, .int i1y] := hrowy
    rw [hrowx] at hrep
    rw [hrowy] at hrep'
    simp only [RepVs, RepV] at hrep hrep'
    obtain ⟨z0x, q0x, rfl, rfl, z1x, q1x, rfl, rfl, rfl⟩ := hrep
    obtain ⟨z0y, q0y, rfl, rfl, z1y, q1y, rfl, rfl, rfl⟩ := hrep'
    have c0 := hcells 0 (by simp)
    have e0 := hcells' 0 (by simp)
    have c1 := hcells 1 (by simp)
    have e1 := hcells' 1 (by simp)
    simp at c0 e0 c1 e1
    replace c0 := (hb.cell (p := ⟨b, off + k * 2, none⟩) (World.block_lt_of_cell? w _ c0)).trans c0
    replace e0 := (hb.cell (p := ⟨b', off' + k * 2, none⟩) (World.block_lt_of_cell? w _ e0)).trans e0
    replace c1 := (hb.cell (p := ⟨b, off + k * 2 + 1, none⟩) (World.block_lt_of_cell? w _ c1)).trans c1
    replace e1 := (hb.cell (p := ⟨b', off' + k * 2 + 1, none⟩) (World.block_lt_of_cell? w _ e1)).trans e1
    clear hcells hcells'
    have hi1 : (k : Int) < (n : Int) := by omega
    have hSw : S ≤ wr.heap.size := Nat.le_trans hS hb.size
    have hSw' : S' ≤ wr.heap.size := Nat.le_trans hS' hb.size
    have HR : Hid (∀ q : Bool, q = true ∨ q = false) := Lib.hid fun q => by cases q <;> simp
    go_wp2_with fail
    go_region_with (go_at_call 65; refine (eqItem_of s0x i1x s0y i1y   S S' _  ?_ ?_).mono ?_; exact hSw; exact hSw'; rintro e w1 ⟨rfl, hb1⟩)
    all_goals
      by_cases hdd : ([.str s0x, .int i1x] : List D) = [.str s0y, .int i1y]
      · rw [eqL_t hdd]
        have HQ2 : Hid (cs.take ((k + 1) * 2) = cs'.take ((k + 1) * 2)) := Lib.hid (by rw [take_rowAt, take_rowAt, HQ.out, hrowx, hrowy, hdd])
        clear hdd hrowx hrowy HQ
        go_wp2
        go_roundw
        case rel => exact ⟨k + 1, by omega, by go_num, HQ2, hb.drew.trans (hb1.mono hb.size)⟩
        case measure => simp [intOf]; omega
      · rw [eqL_f hdd]
        have HF := Lib.hid (show eqD (.rows 2 n cs) (.rows 2 n cs') = false from eqD_f (by intro h; injection h with _ _ h2; subst h2; exact hdd (hrowx.symm.trans hrowy)))
        clear hdd hrowx hrowy HQ
        go_wp2
        go_ret
        exact ⟨by rw [HF.out]; rfl, hb.drew.trans (hb1.mono hb.size)⟩
set_option maxHeartbeats 1000000 in
theorem eqInstr_of (i0x : Int) (i1x : Int) (i0y : Int) (i1y : Int)   (S S' : Nat) (w : World)  (hS : S ≤ w.heap.size) (hS' : S' ≤ w.heap.size) :
    Calls Try.prog 47 #[.agg #[.int .i64 i0x, .int .i64 i1x], .agg #[.int .i64 i0y, .int .i64 i1y]] w fun e w' => e = .returned (.bool (eqL [.int i0x, .int i1x] [.int i0y, .int i1y])) ∧ Below w.heap.size w w' := by
  have hB0 : Below w.heap.size w ((w.alloc (.cells #[.int .i64 i0x, .int .i64 i1x] 78)).alloc (.cells #[.int .i64 i0y, .int .i64 i1y] 78)) := ((Below.refl _ _).alloc (Nat.le_refl _) _).alloc (by simp) _
  have hX0 : Blk ((w.alloc (.cells #[.int .i64 i0x, .int .i64 i1x] 78)).alloc (.cells #[.int .i64 i0y, .int .i64 i1y] 78)) w.heap.size 78 #[.int .i64 i0x, .int .i64 i1x] := (Blk.new w _ _).alloc _
  have hY0 : Blk ((w.alloc (.cells #[.int .i64 i0x, .int .i64 i1x] 78)).alloc (.cells #[.int .i64 i0y, .int .i64 i1y] 78)) (w.heap.size + 1) 78 #[.int .i64 i0y, .int .i64 i1y] := by simpa using Blk.new (w.alloc (.cells #[.int .i64 i0x, .int .i64 i1x] 78)) 78 #[.int .i64 i0y, .int .i64 i1y]
  by_cases hc0 : i0x = i0y
  case neg =>
    have HF := Lib.hid (show eqL [.int i0x, .int i1x] [.int i0y, .int i1y] = false from eqL_f (by intro h; apply hc0; simp at h; simp [h]))
    have ht0_0 : (i0x != i0y) = true := by simp [hc0]
    clear hc0
    go_enter Try.func47, Try.ntmps47
    go_wp2
    go_ret
    exact ⟨by rw [HF.out]; rfl, hB0⟩
  have ht0_0 : (i0x != i0y) = false := by simp [hc0]
  have HC0 := Lib.hid hc0
  clear hc0
  by_cases hc1 : i1x = i1y
  case neg =>
    have HF := Lib.hid (show eqL [.int i0x, .int i1x] [.int i0y, .int i1y] = false from eqL_f (by intro h; apply hc1; simp at h; simp [h]))
    have ht1_0 : (i1x != i1y) = true := by simp [hc1]
    clear hc1
    go_enter Try.func47, Try.ntmps47
    go_wp2
    go_ret
    exact ⟨by rw [HF.out]; rfl, hB0⟩
  have ht1_0 : (i1x != i1y) = false := by simp [hc1]
  have HC1 := Lib.hid hc1
  clear hc1
  have HF := Lib.hid (show eqL [.int i0x, .int i1x] [.int i0y, .int i1y] = true from eqL_t (by
    have g0 := HC0.out
    have g1 := HC1.out
    try simp at g0
    try simp at g1
    simp [g0, g1]))
  go_enter Try.func47, Try.ntmps47
  go_wp2
  go_ret
  exact ⟨by rw [HF.out]; rfl, hB0⟩
set_option maxHeartbeats 2000000 in
theorem eqInstrS_all : ∀ d, Conf d (.sl .instr) → EqInstrS d := by
  refine D.ind (fun d hd h => by rcases hd with rfl | ⟨_, rfl⟩ <;> (unfold Conf at h; exact h.elim)) (fun n h => by unfold Conf at h; cases h) (fun b h => by unfold Conf at h; cases h) (fun s h => by unfold Conf at h; cases h) fun sz n cs ih h => ?_
  unfold Conf at h
  obtain ⟨k0, e, hsz, hl, hm, hcs⟩ := h
  injection e with e
  subst e
  obtain rfl : sz = 2 := hsz
  intro d' v u S S' w h' hv hu hS hS'
  obtain ⟨n', cs', hde, hl', hm', hcs'⟩ := conf_sl h'
  obtain rfl : d' = .rows 2 n' cs' := hde
  replace hl' : cs'.length = n' * 2 := hl'
  obtain ⟨a, cap, rfl, hnc, hcm, _, hsl⟩ := hv.slc
  obtain ⟨a', cap', rfl, hnc', hcm', _, hsl'⟩ := hu.slc
  clear hsl hsl' h'
  unfold maxLen at hm hm' hcm hcm'
  by_cases hnn : n = n'
  case neg =>
    have HF := Lib.hid (show eqD (.rows 2 n cs) (.rows 2 n' cs') = false from eqD_f (by intro h; injection h with _ h1 _; exact hnn h1))
    have hne : ((n : Int) != (n' : Int)) = true := by simp; omega
    clear ih hcs hcs' hnn hl hl'
    go_enter Try.func20, Try.ntmps20
    go_wp2
    go_ret
    exact ⟨by rw [HF.out]; rfl, Below.refl _ _⟩
  subst hnn
  have hne : ((n : Int) != (n : Int)) = false := by simp
  have IH := Lib.hid ih
  have HCS := Lib.hid hcs
  have HV := Lib.hid hv
  have HL := Lib.hid hl
  have HCS' := Lib.hid hcs'
  have HU := Lib.hid hu
  have HL' := Lib.hid hl'
  clear ih hcs hv hl hcs' hu hl'
  go_enter Try.func20, Try.ntmps20
  go_wp2
  go_loopw [5] (fun i wr => ∃ k : Nat, k ≤ n ∧ i = .int .i64 k ∧ Hid (cs.take (k * 2) = cs'.take (k * 2)) ∧ Below w.heap.size w wr) (fun i _ => n - (intOf i).toNat)
  case atStart => exact ⟨0, Nat.zero_le _, rfl, by simp [Hid], Below.refl _ _⟩
  case round =>
    obtain ⟨k, hk, rfl, HQ, hb⟩ := hrel
    by_cases hlt : k < n
    case neg =>
      have HF := Lib.hid (show eqD (.rows 2 n cs) (.rows 2 n cs') = true from eqD_t (by
        have h1 := HQ.out
        rw [List.take_of_length_le (by rw [HL.out]; exact Nat.mul_le_mul_right _ (by omega)), List.take_of_length_le (by rw [HL'.out]; exact Nat.mul_le_mul_right _ (by omega))] at h1
        rw [h1]))
      go_wp2
      go_ret
      exact ⟨by rw [HF.out]; rfl, hb⟩
    obtain ⟨b, off, rv, rfl, hbS, hcells, hrep⟩ := HV.out.row k hlt
    obtain ⟨b', off', rv', rfl, hbS', hcells', hrep'⟩ := HU.out.row k hlt
    obtain ⟨i0x, i1x, hrowx⟩ := conf_instr (conf_row n K.instr.fields cs k HCS.out hlt)
    obtain ⟨i0y, i1y, hrowy⟩ := conf_instr (conf_row n K.instr.fields cs' k HCS'.out hlt)
    replace hrowx : rowAt 2 cs k = [.int i0x, .int i1x] := hrowx
    replace hrowy : rowAt 2 cs' k = [.int i0y, .int i1y] := hrowy
    rw [hrowx] at hrep
    rw [hrowy] at hrep'
    simp only [RepVs, RepV] at hrep hrep'
    obtain ⟨z0x, q0x, rfl, rfl, z1x, q1x, rfl, rfl, rfl⟩ := hrep
    obtain ⟨z0y, q0y, rfl, rfl, z1y, q1y, rfl, rfl, rfl⟩ := hrep'
    have c0 := hcells 0 (by simp)
    have e0 := hcells' 0 (by simp)
    have c1 := hcells 1 (by simp)
    have e1 := hcells' 1 (by simp)
    simp at c0 e0 c1 e1
    replace c0 := (hb.cell (p := ⟨b, off + k * 2, none⟩) (World.block_lt_of_cell? w _ c0)).trans c0
    replace e0 := (hb.cell (p := ⟨b', off' + k * 2, none⟩) (World.block_lt_of_cell? w _ e0)).trans e0
    replace c1 := (hb.cell (p := ⟨b, off + k * 2 + 1, none⟩) (World.block_lt_of_cell? w _ c1)).trans c1
    replace e1 := (hb.cell (p := ⟨b', off' + k * 2 + 1, none⟩) (World.block_lt_of_cell? w _ e1)).trans e1
    clear hcells hcells'
    have hi1 : (k : Int) < (n : Int) := by omega
    have hSw : S ≤ wr.heap.size := Nat.le_trans hS hb.size
    have hSw' : S' ≤ wr.heap.size := Nat.le_trans hS' hb.size
    have HR : Hid (∀ q : Bool, q = true ∨ q = false) := Lib.hid fun q => by cases q <;> simp
    go_wp2_with fail
    go_region_with (go_at_call 47; refine (eqInstr_of i0x i1x i0y i1y   S S' _  ?_ ?_).mono ?_; exact hSw; exact hSw'; rintro e w1 ⟨rfl, hb1⟩)
    all_goals
      by_cases hdd : ([.int i0x, .int i1x] : List D) = [.int i0y, .int i1y]
      · rw [eqL_t hdd]
        have HQ2 : Hid (cs.take ((k + 1) * 2) = cs'.take ((k + 1) * 2)) := Lib.hid (by rw [take_rowAt, take_rowAt, HQ.out, hrowx, hrowy, hdd])
        clear hdd hrowx hrowy HQ
        go_wp2
        go_roundw
        case rel => exact ⟨k + 1, by omega, by go_num, HQ2, hb.drew.trans (hb1.mono hb.size)⟩
        case measure => simp [intOf]; omega
      · rw [eqL_f hdd]
        have HF := Lib.hid (show eqD (.rows 2 n cs) (.rows 2 n cs') = false from eqD_f (by intro h; injection h with _ _ h2; subst h2; exact hdd (hrowx.symm.trans hrowy)))
        clear hdd hrowx hrowy HQ
        go_wp2
        go_ret
        exact ⟨by rw [HF.out]; rfl, hb.drew.trans (hb1.mono hb.size)⟩
end Go.Proofs.Ytgjcilainojlfaa
