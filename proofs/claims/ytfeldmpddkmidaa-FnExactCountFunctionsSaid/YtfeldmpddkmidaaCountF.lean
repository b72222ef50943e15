/-
  CountFunctions of the program and of the reference return the same number; the law says so.
-/
import Derived.Test.YtfeldmpddkmidaaTreeM
import Derived.Test.YtfeldmpddkmidaaRng
import Derived.Test.YtfeldmpddkmidaaUBase
namespace Go.Proofs.Ytfeldmpddkmidaa
open Go.RowKit

mutual
/-- How many nodes are accepted. -/
def cntT (p : Tm → Bool) : Tm → Nat
  | .mk k s o n t r xs => (if p (.mk k s o n t r xs) = true then 1 else 0) + cntTs p xs
def cntTs (p : Tm → Bool) : List Tm → Nat
  | [] => 0
  | x :: xs => cntT p x + cntTs p xs
end
theorem cntT_eq (p : Tm → Bool) (e : Tm) : cntT p e = (if p e = true then 1 else 0) + cntTs p e.args := by cases e; rw [cntT]; rfl
theorem cntTs_append (p : Tm → Bool) : ∀ a b, cntTs p (a ++ b) = cntTs p a + cntTs p b
  | [], b => by simp [cntTs]
  | x :: a, b => by simp [cntTs, cntTs_append p a b]; omega
theorem cntTs_snoc (p : Tm → Bool) (xs : List Tm) (k : Nat) (h : k < xs.length) : cntTs p (xs.take (k + 1)) = cntTs p (xs.take k) + cntT p xs[k] := by
  rw [List.take_succ_eq_append_getElem h, cntTs_append]; simp [cntTs]
mutual
/-- How many nodes. -/
def nodes : Tm → Nat
  | .mk _ _ _ _ _ _ xs => 1 + nodesL xs
def nodesL : List Tm → Nat
  | [] => 0
  | x :: xs => nodes x + nodesL xs
end
mutual
theorem cntT_le (p : Tm → Bool) : ∀ e, cntT p e ≤ nodes e
  | .mk k s o n t r xs => by
    rw [cntT, nodes]
    have := cntTs_le p xs
    split <;> omega
theorem cntTs_le (p : Tm → Bool) : ∀ xs, cntTs p xs ≤ nodesL xs
  | [] => by simp [cntTs]
  | x :: xs => by
    rw [cntTs, nodesL]
    have := cntT_le p x
    have := cntTs_le p xs
    omega
end
theorem nodes_eq (e : Tm) : nodes e = 1 + nodesL e.args := by cases e; rw [nodes]; rfl
theorem nodesL_append : ∀ a b, nodesL (a ++ b) = nodesL a + nodesL b
  | [], b => by simp [nodesL]
  | x :: a, b => by simp [nodesL, nodesL_append a b]; omega
theorem nodesL_take (xs : List Tm) (k : Nat) : nodesL (xs.take k) ≤ nodesL xs := by
  have h := nodesL_append (xs.take k) (xs.drop k)
  rw [List.take_append_drop] at h; omega
theorem nodesL_snoc (xs : List Tm) (k : Nat) (h : k < xs.length) : nodesL (xs.take (k + 1)) = nodesL (xs.take k) + nodes xs[k] := by
  rw [List.take_succ_eq_append_getElem h, nodesL_append]; simp [nodesL]

mutual
theorem nodes_sz : ∀ e : Tm, nodes e ≤ 1 + szL (tmC e)
  | .mk k s o n t r xs => by
    have h := nodesL_sz xs
    rw [nodes]
    have e : szL (tmC (.mk k s o n t r xs)) = s.size + o.size + szL (tyC t) + szL (tyC r) + (xs.length + szL (tmsC xs)) := by
      simp only [tmC, szL, szD, szL_append]; omega
    omega
theorem nodesL_sz : ∀ xs : List Tm, nodesL xs ≤ xs.length + szL (tmsC xs)
  | [] => by simp [nodesL]
  | x :: xs => by
    have h1 := nodes_sz x
    have h2 := nodesL_sz xs
    rw [nodesL, tmsC, szL_append, List.length_cons]
    omega
end
theorem impl_bit (b : Bool) (w : World) : Calls Try.prog 148 #[.bool b] w fun e w' => e = .returned (.int .i64 (if b = true then 1 else 0)) ∧ w = w' := by
  cases b
  · go_enter Try.func148, Try.ntmps148
    go_wp2
    go_ret
    exact ⟨rfl, rfl⟩
  · go_enter Try.func148, Try.ntmps148
    go_wp2
    go_ret
    exact ⟨rfl, rfl⟩
theorem spec_l1Bit (b : Bool) (w : World) : Calls Try.prog 106 #[.bool b] w fun e w' => e = .returned (.int .i64 (if b = true then 1 else 0)) ∧ w = w' := by
  cases b
  · go_enter Try.func106, Try.ntmps106
    go_wp2
    go_ret
    exact ⟨rfl, rfl⟩
  · go_enter Try.func106, Try.ntmps106
    go_wp2
    go_ret
    exact ⟨rfl, rfl⟩

/-- A function's number leads to its entry. -/
def Enters (P : Program) (g : FuncId) : Prop := ∀ (args : Array Value) (w : World), (callFunc g args).run P w = .ok (.enter g args) w
/-- A function value that is called with a term and tells yes or no. -/
def Acc (P : Program) (g : FuncId) (cap : Array Value) (p : Tm → Bool) : Prop :=
  ∀ (e : Tm) (v : Value) (S : Nat) (w : World), TmV w S e v → S ≤ w.heap.size → Calls P g (#[v] ++ cap) w fun en w' => en = .returned (.bool (p e)) ∧ Below w.heap.size w w'

def isFunT (e : Tm) : Bool := e.kind == 6 || e.kind == 9
theorem acc_isFun : Acc Try.prog 109 #[] isFunT := by
  intro e v S w h hS
  obtain ⟨ta, tc, ra, rc, a, cap, rfl, h5, h7, h8⟩ := h.fields
  clear h h5 h7 h8
  unfold isFunT
  generalize e.kind = q
  by_cases h6 : q = 6
  · subst h6
    go_enter Try.func109, Try.ntmps109
    go_wp2
    go_ret
    exact ⟨rfl, (Below.refl _ _).alloc (Nat.le_refl _) _⟩
  · have hd : (q == 6) = false := by simpa using h6
    by_cases h9 : q = 9
    · subst h9
      go_enter Try.func109, Try.ntmps109
      go_wp2
      go_ret
      exact ⟨rfl, (Below.refl _ _).alloc (Nat.le_refl _) _⟩
    · have hd9 : (q == 9) = false := by simpa using h9
      clear h6 h9
      go_enter Try.func109, Try.ntmps109
      go_wp2
      go_ret
      exact ⟨by rw [hd, hd9]; rfl, (Below.refl _ _).alloc (Nat.le_refl _) _⟩
set_option maxRecDepth 100000 in
set_option maxHeartbeats 1000000 in
theorem impl_count (g : FuncId) (p : Tm → Bool) (hg : Enters Try.prog g) (hacc : Acc Try.prog g #[] p) : ∀ (e : Tm) (v : Value) (S : Nat) (w : World), TmV w S e v → S ≤ w.heap.size → nodes e ≤ 2000000 →
    Calls Try.prog 108 #[v, .func (.func g) #[] #[]] w fun en w' => en = .returned (.int .i64 (cntT p e)) ∧ Below w.heap.size w w' := by
  refine Tm.ind fun e ih v S w h hS hnod => ?_
  have hv := h
  obtain ⟨ta, tc, ra, rc, a, cap, rfl, h5, h7, h8⟩ := h.fields
  obtain ⟨a', cap', e0, hl1, hl2, hel⟩ := tms_slc h8
  injection e0 with e1 e2 e3
  subst e1 e3
  clear e2
  have hlen : e.args.length ≤ nodesL e.args := by
    have : ∀ xs : List Tm, xs.length ≤ nodesL xs := by
      intro xs
      induction xs with
      | nil => simp [nodesL]
      | cons x xs ih => rw [nodesL, nodes_eq, List.length_cons]; omega
    exact this _
  rw [nodes_eq] at hnod
  have hsum := cntT_eq p e
  have HSUM := Lib.hid hsum
  have hbx : Below w.heap.size w (w.alloc (.cells #[.int .i64 e.kind, .string e.name, .string e.other, .int .i64 e.n, .int .i64 e.ty.kind, .slice ta e.ty.args.length tc, .int .i64 e.res.kind, .slice ra e.res.args.length rc, .slice a e.args.length cap] 74)) := (Below.refl _ _).alloc (Nat.le_refl _) _
  have hX0 := Blk.new w 74 #[.int .i64 e.kind, .string e.name, .string e.other, .int .i64 e.n, .int .i64 e.ty.kind, .slice ta e.ty.args.length tc, .int .i64 e.res.kind, .slice ra e.res.args.length rc, .slice a e.args.length cap]
  have IH := Lib.hid ih
  have HACC := Lib.hid hacc
  have HV := Lib.hid hv
  have HEL := Lib.hid hel
  clear ih hacc h hv hel hsum h5 h7 h8
  unfold Enters at hg
  unfold maxLen at hl2
  go_enter Try.func108, Try.ntmps108
  go_wp2_with fail
  refine (HACC.out e _ S _ (HV.out.later (hbx.mono hS) (Nat.le_refl _)) (Nat.le_trans hS hbx.size)).mono ?_
  rintro en w1 ⟨rfl, hb1⟩
  have hB1 := hbx.trans (hb1.mono hbx.size)
  have hX1 := hX0.below hb1 hX0.lt
  have x8 := hX1.cell 8
  simp at x8
  go_wp2_with fail
  refine (impl_bit (p e) _).mono ?_
  rintro en w2 ⟨rfl, rfl⟩
  have hc1 : (0 : Int) ≤ (if p e = true then 1 else 0) ∧ (if p e = true then (1 : Int) else 0) ≤ 1 := by split <;> omega
  generalize hq : (if p e = true then (1 : Int) else 0) = q at *
  have HQ := Lib.hid hq
  clear hq
  go_wp2_with fail
  go_loopw [5, 15] (fun m i wr => ∃ k : Nat, k ≤ e.args.length ∧ i = .int .i64 k ∧ m = .int .i64 (q + cntTs p (e.args.take k)) ∧ Below w.heap.size w wr) (fun _ i _ => e.args.length - (intOf i).toNat)
  case atStart => exact ⟨0, Nat.zero_le _, rfl, by simp [cntTs], hB1⟩
  case round =>
    obtain ⟨k, hk, rfl, rfl, hb⟩ := hrel
    have hle := cntTs_le p (e.args.take k)
    have hle2 := nodesL_take e.args k
    by_cases hlt : k < e.args.length
    · obtain ⟨b, off, ka, kc, la, lc, ma, mc, rfl, hbS, c0, c1, c2, c3, c4, c5, c6, c7, c8, r5, r7, r8⟩ := HEL.out k hlt
      have hbw : b < w.heap.size := Nat.lt_of_lt_of_le hbS hS
      replace c0 := cell_later hb c0 hbw
      replace c1 := cell_later hb c1 hbw
      replace c2 := cell_later hb c2 hbw
      replace c3 := cell_later hb c3 hbw
      replace c4 := cell_later hb c4 hbw
      replace c5 := cell_later hb c5 hbw
      replace c6 := cell_later hb c6 hbw
      replace c7 := cell_later hb c7 hbw
      replace c8 := cell_later hb c8 hbw
      have hnk : nodes e.args[k] ≤ 2000000 := by
        have h1 := nodesL_snoc e.args k hlt
        have h2 := nodesL_take e.args (k + 1)
        omega
      have HN := Lib.hid hnk
      have HSN := Lib.hid (cntTs_snoc p e.args k hlt)
      have hle3 := cntT_le p e.args[k]
      have HI := Lib.hid (IH.out e.args[k] (List.getElem_mem hlt))
      have HT := Lib.hid (TmV.mk' (e := e.args[k]) r5 r7 r8)
      clear r5 r7 r8
      have hba : Below w.heap.size w (wr.alloc (.cells #[.int .i64 e.args[k].kind, .string e.args[k].name, .string e.args[k].other, .int .i64 e.args[k].n, .int .i64 e.args[k].ty.kind, .slice ka e.args[k].ty.args.length kc, .int .i64 e.args[k].res.kind, .slice la e.args[k].res.args.length lc, .slice ma e.args[k].args.length mc] 74)) := hb.alloc hb.size _
      go_wp2_with fail
      refine (HI.out _ S _ (HT.out.later (hba.mono hS) (Nat.le_refl _)) (Nat.le_trans hS hba.size) HN.out).mono ?_
      rintro en w3 ⟨rfl, hb3⟩
      go_wp2
      go_roundw
      case rel => exact ⟨k + 1, by omega, by go_num, by rw [HSN.out]; go_num, hba.trans (hb3.mono hba.size)⟩
      case measure => simp [intOf]; omega
    · have HT := Lib.hid (show e.args.take k = e.args from List.take_of_length_le (by omega))
      go_wp2
      go_ret
      refine ⟨ret_int ?_, hb⟩
      rw [HSUM.out, HT.out, ← HQ.out]
      split <;> simp
set_option maxRecDepth 100000 in
set_option maxHeartbeats 1000000 in
theorem spec_CountFunctions : ∀ (e : Tm) (v : Value) (S : Nat) (w : World), TmV w S e v → S ≤ w.heap.size → nodes e ≤ 2000000 →
    Calls Try.prog 52 #[v] w fun en w' => en = .returned (.int .i64 (cntT isFunT e)) ∧ Below w.heap.size w w' := by
  refine Tm.ind fun e ih v S w h hS hnod => ?_
  have hv := h
  obtain ⟨ta, tc, ra, rc, a, cap, rfl, h5, h7, h8⟩ := h.fields
  obtain ⟨a', cap', e0, hl1, hl2, hel⟩ := tms_slc h8
  injection e0 with e1 e2 e3
  subst e1 e3
  clear e2
  have hlen : e.args.length ≤ nodesL e.args := by
    have : ∀ xs : List Tm, xs.length ≤ nodesL xs := by
      intro xs
      induction xs with
      | nil => simp [nodesL]
      | cons x xs ih => rw [nodesL, nodes_eq, List.length_cons]; omega
    exact this _
  rw [nodes_eq] at hnod
  have hsum := cntT_eq isFunT e
  have HSUM := Lib.hid hsum
  have hbx : Below w.heap.size w (w.alloc (.cells #[.int .i64 e.kind, .string e.name, .string e.other, .int .i64 e.n, .int .i64 e.ty.kind, .slice ta e.ty.args.length tc, .int .i64 e.res.kind, .slice ra e.res.args.length rc, .slice a e.args.length cap] 74)) := (Below.refl _ _).alloc (Nat.le_refl _) _
  have hX0 := Blk.new w 74 #[.int .i64 e.kind, .string e.name, .string e.other, .int .i64 e.n, .int .i64 e.ty.kind, .slice ta e.ty.args.length tc, .int .i64 e.res.kind, .slice ra e.res.args.length rc, .slice a e.args.length cap]
  have IH := Lib.hid ih
  have HEL := Lib.hid hel
  obtain ⟨q, hq⟩ : ∃ q : Int, q = (if isFunT e = true then 1 else 0) := ⟨_, rfl⟩
  have hc1 : (0 : Int) ≤ q ∧ q ≤ 1 := by rw [hq]; split <;> omega
  have h3 : ((e.kind == 6) = true ∧ Hid (q = 1)) ∨ ((e.kind == 6) = false ∧ (e.kind == 9) = true ∧ Hid (q = 1)) ∨ ((e.kind == 6) = false ∧ (e.kind == 9) = false ∧ Hid (q = 0)) := by
    have hk : isFunT e = (e.kind == 6 || e.kind == 9) := rfl
    cases h6 : (e.kind == 6) <;> cases h9 : (e.kind == 9) <;> simp [Hid, hq, hk, h6, h9]
  have HQ := Lib.hid hq
  clear ih h hv hel hsum h5 h7 h8 hq
  unfold maxLen at hl2
  rcases h3 with ⟨h6, Hq1⟩ | ⟨h6, h9, Hq1⟩ | ⟨h6, h9, Hq1⟩
  all_goals
    go_enter Try.func52, Try.ntmps52
    go_wp2_with fail
    refine (spec_l1Bit _ _).mono ?_
    rintro en w2 ⟨rfl, rfl⟩
    go_wp2_with fail
    go_loopw [3, 4] (fun m i wr => ∃ k : Nat, k ≤ e.args.length ∧ i = .int .i64 k ∧ m = .int .i64 (q + cntTs isFunT (e.args.take k)) ∧ Below (w.heap.size + 1) (w.alloc (.cells #[.int .i64 e.kind, .string e.name, .string e.other, .int .i64 e.n, .int .i64 e.ty.kind, .slice ta e.ty.args.length tc, .int .i64 e.res.kind, .slice ra e.res.args.length rc, .slice a e.args.length cap] 74)) wr) (fun _ i _ => e.args.length - (intOf i).toNat)
    case atStart => exact ⟨0, Nat.zero_le _, rfl, by rw [Hq1.out]; simp [cntTs], Below.refl _ _⟩
    case round =>
      obtain ⟨k, hk, rfl, rfl, hbb⟩ := hrel
      have hb : Below w.heap.size w wr := hbx.trans (hbb.mono (by omega))
      have hXr := hX0.below hbb (by omega)
      have x8 := hXr.cell 8
      simp at x8
      have hle := cntTs_le isFunT (e.args.take k)
      have hle2 := nodesL_take e.args k
      by_cases hlt : k < e.args.length
      · obtain ⟨b, off, ka, kc, la, lc, ma, mc, rfl, hbS, c0, c1, c2, c3, c4, c5, c6, c7, c8, r5, r7, r8⟩ := HEL.out k hlt
        have hbw : b < w.heap.size := Nat.lt_of_lt_of_le hbS hS
        replace c0 := cell_later hb c0 hbw
        replace c1 := cell_later hb c1 hbw
        replace c2 := cell_later hb c2 hbw
        replace c3 := cell_later hb c3 hbw
        replace c4 := cell_later hb c4 hbw
        replace c5 := cell_later hb c5 hbw
        replace c6 := cell_later hb c6 hbw
        replace c7 := cell_later hb c7 hbw
        replace c8 := cell_later hb c8 hbw
        have hnk : nodes e.args[k] ≤ 2000000 := by
          have h1 := nodesL_snoc e.args k hlt
          have h2 := nodesL_take e.args (k + 1)
          omega
        have HN := Lib.hid hnk
        have HSN := Lib.hid (cntTs_snoc isFunT e.args k hlt)
        have hle3 := cntT_le isFunT e.args[k]
        have HI := Lib.hid (IH.out e.args[k] (List.getElem_mem hlt))
        have HT := Lib.hid (TmV.mk' (e := e.args[k]) r5 r7 r8)
        clear r5 r7 r8
        go_wp2_with fail
        refine (HI.out _ S _ (HT.out.later (hb.mono hS) (Nat.le_refl _)) (Nat.le_trans hS hb.size) HN.out).mono ?_
        rintro en w3 ⟨rfl, hb3⟩
        go_wp2
        go_roundw
        case rel => exact ⟨k + 1, by omega, by go_num, by rw [HSN.out]; go_num, hbb.trans (hb3.mono (by have := hbb.size; simpa using this))⟩
        case measure => simp [intOf]; omega
      · have HT := Lib.hid (show e.args.take k = e.args from List.take_of_length_le (by omega))
        go_wp2
        go_ret
        refine ⟨ret_int ?_, hb⟩
        rw [HSUM.out, HT.out, HQ.out]
        split <;> simp
set_option maxRecDepth 100000 in
theorem impl_CountFunctions (e : Tm) (v : Value) (S : Nat) (w : World) (h : TmV w S e v) (hS : S ≤ w.heap.size) (hn : nodes e ≤ 2000000) :
    Calls Try.prog 54 #[v] w fun en w' => en = .returned (.int .i64 (cntT isFunT e)) ∧ Below w.heap.size w w' := by
  have hv := h
  obtain ⟨ta, tc, ra, rc, a, cap, rfl, h5, h7, h8⟩ := h.fields
  have hbx : Below w.heap.size w (w.alloc (.cells #[.int .i64 e.kind, .string e.name, .string e.other, .int .i64 e.n, .int .i64 e.ty.kind, .slice ta e.ty.args.length tc, .int .i64 e.res.kind, .slice ra e.res.args.length rc, .slice a e.args.length cap] 74)) := (Below.refl _ _).alloc (Nat.le_refl _) _
  have HV := Lib.hid hv
  clear h hv h5 h7 h8
  go_enter Try.func54, Try.ntmps54
  go_wp2_with fail
  refine (impl_count 109 isFunT (fun _ _ => by kernel_rfl) acc_isFun e _ S _ (HV.out.later (hbx.mono hS) (Nat.le_refl _)) (Nat.le_trans hS hbx.size) hn).mono ?_
  rintro en w1 ⟨rfl, hb1⟩
  go_wp2
  go_ret
  exact ⟨rfl, hbx.trans (hb1.mono hbx.size)⟩
/-! in the laws' words -/
theorem U_impl_CountFunctions {e : Tm} {vs : List Value} {w : World} (g : GivL w K.tm.fields (tmC e) vs) :
    Calls Try.prog 54 #[.agg vs.toArray] w fun en w' => en = .returned (.int .i64 (cntT isFunT e)) ∧ Below w.heap.size w w' :=
  impl_CountFunctions e _ _ _ ⟨_, rfl, g.2.2.2⟩ (Nat.le_refl _) (by have := nodes_sz e; have := g.2.2.1; omega)
theorem U_spec_CountFunctions {e : Tm} {vs : List Value} {w : World} (g : GivL w K.tm.fields (tmC e) vs) :
    Calls Try.prog 52 #[.agg vs.toArray] w fun en w' => en = .returned (.int .i64 (cntT isFunT e)) ∧ Below w.heap.size w w' :=
  spec_CountFunctions e _ _ _ ⟨_, rfl, g.2.2.2⟩ (Nat.le_refl _) (by have := nodes_sz e; have := g.2.2.1; omega)
end Go.Proofs.Ytfeldmpddkmidaa
