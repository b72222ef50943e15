/-
  Lists of numbers: CountRule, HornerValue and DotValue of the program and of the reference; the laws say that they agree.
-/
import Derived.Test.YtblgbfpfddakkaaInts
import Derived.Test.YtblgbfpfddakkaaRed
namespace Go.Proofs.Ytblgbfpfddakkaa
open Go.RowKit

theorem foldl_snoc (f : Int → Int → Int) (a : Int) (ns : List Int) (k : Nat) (h : k < ns.length) : (ns.take (k + 1)).foldl f a = f ((ns.take k).foldl f a) ns[k] := by
  rw [List.take_succ_eq_append_getElem h, List.foldl_append]; rfl

theorem impl_bit (b : Bool) (w : World) : Calls Try.prog 34 #[.bool b] w fun e w' => e = .returned (.int .i64 (if b = true then 1 else 0)) ∧ w = w' := by
  cases b
  · go_enter Try.func34, Try.ntmps34
    go_wp2
    go_ret
    exact ⟨rfl, rfl⟩
  · go_enter Try.func34, Try.ntmps34
    go_wp2
    go_ret
    exact ⟨rfl, rfl⟩
theorem spec_l1Bit (b : Bool) (w : World) : Calls Try.prog 33 #[.bool b] w fun e w' => e = .returned (.int .i64 (if b = true then 1 else 0)) ∧ w = w' := by
  cases b
  · go_enter Try.func33, Try.ntmps33
    go_wp2
    go_ret
    exact ⟨rfl, rfl⟩
  · go_enter Try.func33, Try.ntmps33
    go_wp2
    go_ret
    exact ⟨rfl, rfl⟩

/-- How often r is in the list. -/
def cntF (ns : List Int) (r : Int) : Int := ns.foldl (fun a x => a + if x = r then 1 else 0) 0
theorem cntF_snoc (ns : List Int) (r : Int) (k : Nat) (h : k < ns.length) : cntF (ns.take (k + 1)) r = cntF (ns.take k) r + if ns[k] = r then 1 else 0 := foldl_snoc _ _ _ _ h
theorem cntF_bd (ns : List Int) (r : Int) : ∀ (k : Nat), k ≤ ns.length → 0 ≤ cntF (ns.take k) r ∧ cntF (ns.take k) r ≤ k
  | 0, _ => by simp [cntF]
  | k + 1, h => by
    have := cntF_bd ns r k (by omega)
    rw [cntF_snoc ns r k (by omega)]
    split <;> omega
set_option maxHeartbeats 400000 in
theorem impl_CountRule (ns : List Int) (r : Int) (v : Value) (S : Nat) (w : World) (hv : RepV w S (intsD ns) v) :
    Calls Try.prog 15 #[v, .int .i64 r] w fun e w' => e = .returned (.int .i64 (cntF ns r)) ∧ w = w' := by
  obtain ⟨a, cap, rfl, hl, hm, hc⟩ := hv.ints
  unfold maxLen at hm
  go_enter Try.func15, Try.ntmps15
  go_wp2
  go_loop [5, 10] (fun o i => ∃ k : Nat, k ≤ ns.length ∧ i = .int .i64 k ∧ o = .int .i64 (cntF (ns.take k) r)) (fun _ i => ns.length - (intOf i).toNat)
  case atStart => exact ⟨0, Nat.zero_le _, rfl, rfl⟩
  case round =>
    obtain ⟨k, hk, rfl, rfl⟩ := hrel
    have hb := cntF_bd ns r k hk
    by_cases hlt : k < ns.length
    · obtain ⟨b, off, rfl, hbS, hcell⟩ := hc k hlt
      clear hc
      have HS := Lib.hid (cntF_snoc ns r k hlt)
      by_cases he : ns[k] = r
      · have hx : (ns[k] == r) = true := by simp [he]
        have HE := Lib.hid he
        clear he
        go_wp2_with (go_at_call 34; refine (impl_bit true _).mono ?_; rintro e w' ⟨rfl, rfl⟩)
        go_round
        case rel => exact ⟨k + 1, by omega, by go_num, by rw [HS.out, if_pos HE.out]⟩
        case measure => simp [intOf]; omega
      · have hx : (ns[k] == r) = false := by simp [he]
        have HE := Lib.hid he
        clear he
        go_wp2_with (go_at_call 34; refine (impl_bit false _).mono ?_; rintro e w' ⟨rfl, rfl⟩)
        go_round
        case rel => exact ⟨k + 1, by omega, by go_num, by rw [HS.out, if_neg HE.out]; go_num⟩
        case measure => simp [intOf]; omega
    · have HT := Lib.hid (show ns.take k = ns from List.take_of_length_le (by omega))
      clear hc
      go_wp2
      go_ret
      exact ⟨by rw [HT.out]; rfl, rfl⟩
set_option maxHeartbeats 400000 in
theorem spec_CountRule (ns : List Int) (r : Int) (v : Value) (S : Nat) (w : World) (hv : RepV w S (intsD ns) v) :
    Calls Try.prog 13 #[v, .int .i64 r] w fun e w' => e = .returned (.int .i64 (cntF ns r)) ∧ w = w' := by
  obtain ⟨a, cap, rfl, hl, hm, hc⟩ := hv.ints
  unfold maxLen at hm
  go_enter Try.func13, Try.ntmps13
  go_wp2
  go_loop [5, 6] (fun o i => ∃ k : Nat, k ≤ ns.length ∧ i = .int .i64 k ∧ o = .int .i64 (cntF (ns.take k) r)) (fun _ i => ns.length - (intOf i).toNat)
  case atStart => exact ⟨0, Nat.zero_le _, rfl, rfl⟩
  case round =>
    obtain ⟨k, hk, rfl, rfl⟩ := hrel
    have hb := cntF_bd ns r k hk
    by_cases hlt : k < ns.length
    · obtain ⟨b, off, rfl, hbS, hcell⟩ := hc k hlt
      clear hc
      have HS := Lib.hid (cntF_snoc ns r k hlt)
      by_cases he : ns[k] = r
      · have hx : (ns[k] == r) = true := by simp [he]
        have HE := Lib.hid he
        clear he
        go_wp2_with (go_at_call 33; refine (spec_l1Bit true _).mono ?_; rintro e w' ⟨rfl, rfl⟩)
        go_round
        case rel => exact ⟨k + 1, by omega, by go_num, by rw [HS.out, if_pos HE.out]⟩
        case measure => simp [intOf]; omega
      · have hx : (ns[k] == r) = false := by simp [he]
        have HE := Lib.hid he
        clear he
        go_wp2_with (go_at_call 33; refine (spec_l1Bit false _).mono ?_; rintro e w' ⟨rfl, rfl⟩)
        go_round
        case rel => exact ⟨k + 1, by omega, by go_num, by rw [HS.out, if_neg HE.out]; go_num⟩
        case measure => simp [intOf]; omega
    · have HT := Lib.hid (show ns.take k = ns from List.take_of_length_le (by omega))
      clear hc
      go_wp2
      go_ret
      exact ⟨by rw [HT.out]; rfl, rfl⟩

/-! coefficients -/
def coefsB (ns : List Int) : Bool := decide (1 ≤ ns.length ∧ ns.length ≤ 6) && ns.all fun x => decide (0 ≤ x ∧ x ≤ 10006)
theorem coefsB_bad (ns : List Int) (k : Nat) (h : k < ns.length) (hx : ns[k] < 0 ∨ 10006 < ns[k]) : coefsB ns = false := by
  unfold coefsB
  rw [Bool.and_eq_false_iff]
  refine .inr ?_
  rw [List.all_eq_false]
  exact ⟨ns[k], List.getElem_mem h, by simp; omega⟩
theorem coefsB_len (ns : List Int) (h : (ns.length : Int) < 1 ∨ 6 < (ns.length : Int)) : coefsB ns = false := by
  unfold coefsB
  rw [Bool.and_eq_false_iff]
  exact .inl (by simp; omega)
theorem coefsB_good (ns : List Int) (h : 1 ≤ ns.length ∧ ns.length ≤ 6) (ha : ∀ i (hi : i < ns.length), 0 ≤ ns[i] ∧ ns[i] ≤ 10006) : coefsB ns = true := by
  unfold coefsB
  rw [Bool.and_eq_true]
  refine ⟨by simpa using h, ?_⟩
  rw [List.all_eq_true]
  intro x hx
  obtain ⟨i, hi, rfl⟩ := List.mem_iff_getElem.1 hx
  simpa using ha i hi
theorem coefsB_at {ns : List Int} (h : coefsB ns = true) : (1 ≤ ns.length ∧ ns.length ≤ 6) ∧ ∀ i (hi : i < ns.length), 0 ≤ ns[i] ∧ ns[i] ≤ 10006 := by
  unfold coefsB at h
  rw [Bool.and_eq_true, List.all_eq_true] at h
  exact ⟨by simpa using h.1, fun i hi => by simpa using h.2 _ (List.getElem_mem hi)⟩
set_option maxHeartbeats 400000 in
theorem impl_areCoefs (ns : List Int) (v : Value) (S : Nat) (w : World) (hv : RepV w S (intsD ns) v) :
    Calls Try.prog 38 #[v] w fun e w' => e = .returned (.bool (coefsB ns)) ∧ w = w' := by
  obtain ⟨a, cap, rfl, hl, hm, hc⟩ := hv.ints
  unfold maxLen at hm
  go_enter Try.func38, Try.ntmps38
  go_wp2
  go_loop [7] (fun i => ∃ k : Nat, k ≤ ns.length ∧ i = .int .i64 k ∧ Hid (∀ i (hi : i < ns.length), i < k → 0 ≤ ns[i] ∧ ns[i] ≤ 10006)) (fun i => ns.length - (intOf i).toNat)
  case atStart => exact ⟨0, Nat.zero_le _, rfl, fun i _ hi => absurd hi (by omega)⟩
  case round =>
    obtain ⟨k, hk, rfl, HN⟩ := hrel
    by_cases hlt : k < ns.length
    · obtain ⟨b, off, rfl, hbS, hcell⟩ := hc k hlt
      clear hc
      by_cases hx : 0 ≤ ns[k] ∧ ns[k] ≤ 10006
      · obtain ⟨h1, h2⟩ := hx
        have HN2 : Hid (∀ i (hi : i < ns.length), i < k + 1 → 0 ≤ ns[i] ∧ ns[i] ≤ 10006) := Lib.hid fun i hi h => by
          by_cases hik : i = k
          · subst hik; exact ⟨h1, h2⟩
          · exact HN.out i hi (by omega)
        clear HN
        go_wp2_with (go_at_call 31; refine (isNumber_t _ _ h1 h2).mono ?_; rintro e w' ⟨rfl, rfl⟩)
        go_round
        case rel => exact ⟨k + 1, by omega, by go_num, HN2⟩
        case measure => simp [intOf]; omega
      · have hx' : ns[k] < 0 ∨ 10006 < ns[k] := by omega
        have HE := Lib.hid (coefsB_bad ns k hlt hx')
        go_wp2_with (go_at_call 31; refine (isNumber_f _ _ hx').mono ?_; rintro e w' ⟨rfl, rfl⟩)
        go_ret
        exact ⟨by rw [HE.out]; rfl, rfl⟩
    · clear hc
      by_cases hr : 1 ≤ ns.length ∧ ns.length ≤ 6
      · have HE := Lib.hid (coefsB_good ns hr fun i hi => HN.out i hi (by omega))
        clear HN
        have h1 : (1 : Int) ≤ (ns.length : Int) := by omega
        have h2 : (ns.length : Int) ≤ 6 := by omega
        go_wp2_with (go_at_call 32; refine (within_t _ _ _ _ h1 h2).mono ?_; rintro e w' ⟨rfl, rfl⟩)
        go_ret
        exact ⟨by rw [HE.out]; rfl, rfl⟩
      · have h1 : (ns.length : Int) < 1 ∨ 6 < (ns.length : Int) := by omega
        have HE := Lib.hid (coefsB_len ns h1)
        clear HN
        go_wp2_with (go_at_call 32; refine (within_f _ _ _ _ h1).mono ?_; rintro e w' ⟨rfl, rfl⟩)
        go_ret
        exact ⟨by rw [HE.out]; rfl, rfl⟩
set_option maxHeartbeats 400000 in
theorem spec_l27Coefs (ns : List Int) (v : Value) (S : Nat) (w : World) (hv : RepV w S (intsD ns) v) :
    Calls Try.prog 35 #[v] w fun e w' => e = .returned (.bool (coefsB ns)) ∧ w = w' := by
  obtain ⟨a, cap, rfl, hl, hm, hc⟩ := hv.ints
  unfold maxLen at hm
  go_enter Try.func35, Try.ntmps35
  go_wp2
  go_loop [3] (fun i => ∃ k : Nat, k ≤ ns.length ∧ i = .int .i64 k ∧ Hid (∀ i (hi : i < ns.length), i < k → 0 ≤ ns[i] ∧ ns[i] ≤ 10006)) (fun i => ns.length - (intOf i).toNat)
  case atStart => exact ⟨0, Nat.zero_le _, rfl, fun i _ hi => absurd hi (by omega)⟩
  case round =>
    obtain ⟨k, hk, rfl, HN⟩ := hrel
    by_cases hlt : k < ns.length
    · obtain ⟨b, off, rfl, hbS, hcell⟩ := hc k hlt
      clear hc
      by_cases hx : 0 ≤ ns[k] ∧ ns[k] ≤ 10006
      · obtain ⟨h1, h2⟩ := hx
        have HN2 : Hid (∀ i (hi : i < ns.length), i < k + 1 → 0 ≤ ns[i] ∧ ns[i] ≤ 10006) := Lib.hid fun i hi h => by
          by_cases hik : i = k
          · subst hik; exact ⟨h1, h2⟩
          · exact HN.out i hi (by omega)
        clear HN
        go_wp2_with (go_at_call 36; refine (l27Num_t _ _ h1 h2).mono ?_; rintro e w' ⟨rfl, rfl⟩)
        go_round
        case rel => exact ⟨k + 1, by omega, by go_num, HN2⟩
        case measure => simp [intOf]; omega
      · have hx' : ns[k] < 0 ∨ 10006 < ns[k] := by omega
        have HE := Lib.hid (coefsB_bad ns k hlt hx')
        go_wp2_with (go_at_call 36; refine (l27Num_f _ _ hx').mono ?_; rintro e w' ⟨rfl, rfl⟩)
        go_ret
        exact ⟨by rw [HE.out]; rfl, rfl⟩
    · clear hc
      by_cases hr : 1 ≤ ns.length ∧ ns.length ≤ 6
      · have HE := Lib.hid (coefsB_good ns hr fun i hi => HN.out i hi (by omega))
        clear HN
        have h1 : (1 : Int) ≤ (ns.length : Int) := by omega
        have h2 : (ns.length : Int) ≤ 6 := by omega
        go_wp2_with (go_at_call 30; refine (l1In_t _ _ _ _ h1 h2).mono ?_; rintro e w' ⟨rfl, rfl⟩)
        go_ret
        exact ⟨by rw [HE.out]; rfl, rfl⟩
      · have h1 : (ns.length : Int) < 1 ∨ 6 < (ns.length : Int) := by omega
        have HE := Lib.hid (coefsB_len ns h1)
        clear HN
        go_wp2_with (go_at_call 30; refine (l1In_f _ _ _ _ h1).mono ?_; rintro e w' ⟨rfl, rfl⟩)
        go_ret
        exact ⟨by rw [HE.out]; rfl, rfl⟩

/-- Horner's value after the numbers of the list. -/
def hornF (x : Int) (ns : List Int) : Int := ns.foldl (fun o c => (o * x + c) % 10007) 0
theorem hornF_snoc (x : Int) (ns : List Int) (k : Nat) (h : k < ns.length) : hornF x (ns.take (k + 1)) = (hornF x (ns.take k) * x + ns[k]) % 10007 := foldl_snoc _ _ _ _ h
theorem hornF_bd (x : Int) (ns : List Int) : ∀ (k : Nat), k ≤ ns.length → 0 ≤ hornF x (ns.take k) ∧ hornF x (ns.take k) ≤ 10006
  | 0, _ => by simp [hornF]
  | k + 1, h => by rw [hornF_snoc x ns k (by omega)]; omega
def hornV (ns : List Int) (x : Int) : Int := if coefsB ns = true ∧ 0 ≤ x ∧ x ≤ 10006 then hornF x ns else 0
theorem mul_bd {a b : Int} (h : 0 ≤ a ∧ a ≤ 10006) (h' : 0 ≤ b ∧ b ≤ 10006) : 0 ≤ a * b ∧ a * b ≤ 100120036 := by
  refine ⟨Int.mul_nonneg h.1 h'.1, ?_⟩
  have := Int.mul_le_mul h.2 h'.2 h'.1 (by omega)
  omega
set_option maxHeartbeats 400000 in
theorem impl_HornerValue (ns : List Int) (x : Int) (v : Value) (S : Nat) (w : World) (hv : RepV w S (intsD ns) v) :
    Calls Try.prog 18 #[v, .int .i64 x] w fun e w' => e = .returned (.int .i64 (hornV ns x)) ∧ w = w' := by
  have hk1 := hv
  obtain ⟨a, cap, rfl, hl, hm, hc⟩ := hv.ints
  unfold maxLen at hm
  by_cases hcb : coefsB ns = true
  · by_cases hx : 0 ≤ x ∧ x ≤ 10006
    · obtain ⟨h1, h2⟩ := hx
      have HE := Lib.hid (show hornV ns x = hornF x ns by unfold hornV; rw [if_pos ⟨hcb, h1, h2⟩])
      have HA := Lib.hid (coefsB_at hcb).2
      go_enter Try.func18, Try.ntmps18
      go_wp2_with (first | (go_at_call 38; refine (impl_areCoefs ns _ _ _ hk1).mono ?_; rintro e w' ⟨rfl, rfl⟩) | (go_at_call 31; refine (isNumber_t _ _ h1 h2).mono ?_; rintro e w' ⟨rfl, rfl⟩))
      go_loop [5, 18] (fun o i => ∃ k : Nat, k ≤ ns.length ∧ i = .int .i64 k ∧ o = .int .i64 (hornF x (ns.take k))) (fun _ i => ns.length - (intOf i).toNat)
      case atStart => exact ⟨0, Nat.zero_le _, rfl, rfl⟩
      case round =>
        obtain ⟨k, hk, rfl, rfl⟩ := hrel
        by_cases hlt : k < ns.length
        · obtain ⟨b, off, rfl, hbS, hcell⟩ := hc k hlt
          clear hc hk1
          obtain ⟨hn1, hn2⟩ := HA.out k hlt
          have hb := mul_bd (hornF_bd x ns k hk) ⟨h1, h2⟩
          have HS := Lib.hid (hornF_snoc x ns k hlt)
          go_wp2_with (go_at_call 39; refine (impl_Reduce _ _).mono ?_; rintro e w' ⟨rfl, rfl⟩)
          go_round
          case rel => exact ⟨k + 1, by omega, by go_num, by rw [HS.out]⟩
          case measure => simp [intOf]; omega
        · have HT := Lib.hid (show ns.take k = ns from List.take_of_length_le (by omega))
          clear hc hk1
          go_wp2
          go_ret
          exact ⟨ret_int (by rw [HE.out, HT.out]), rfl⟩
    · have HE := Lib.hid (show hornV ns x = 0 by unfold hornV; rw [if_neg (by omega)])
      have hx' : x < 0 ∨ 10006 < x := by omega
      go_enter Try.func18, Try.ntmps18
      go_wp2_with (first | (go_at_call 38; refine (impl_areCoefs ns _ _ _ hk1).mono ?_; rintro e w' ⟨rfl, rfl⟩) | (go_at_call 31; refine (isNumber_f _ _ hx').mono ?_; rintro e w' ⟨rfl, rfl⟩))
      go_ret
      exact ⟨ret_int HE.out.symm, rfl⟩
  · have HE := Lib.hid (show hornV ns x = 0 by unfold hornV; rw [if_neg (by simp [hcb])])
    have hcb' : coefsB ns = false := by simpa using hcb
    clear hcb
    go_enter Try.func18, Try.ntmps18
    go_wp2_with (first | (go_at_call 38; refine (impl_areCoefs ns _ _ _ hk1).mono ?_; rintro e w' ⟨rfl, rfl⟩))
    go_ret
    exact ⟨ret_int HE.out.symm, rfl⟩
set_option maxHeartbeats 400000 in
theorem spec_HornerValue (ns : List Int) (x : Int) (v : Value) (S : Nat) (w : World) (hv : RepV w S (intsD ns) v) (hS : S ≤ w.heap.size) :
    Calls Try.prog 17 #[v, .int .i64 x] w fun e w' => e = .returned (.int .i64 (hornV ns x)) ∧ Below w.heap.size w w' := by
  have hk1 := hv
  obtain ⟨a, cap, rfl, hl, hm, hc⟩ := hv.ints
  unfold maxLen at hm
  by_cases hcb : coefsB ns = true
  · by_cases hx : 0 ≤ x ∧ x ≤ 10006
    · obtain ⟨h1, h2⟩ := hx
      have HE := Lib.hid (show hornV ns x = hornF x ns by unfold hornV; rw [if_pos ⟨hcb, h1, h2⟩])
      obtain ⟨⟨hl1, _⟩, hA⟩ := coefsB_at hcb
      obtain ⟨b, off, rfl, hbS, hcell0⟩ := hc 0 (by omega)
      obtain ⟨hn01, hn02⟩ := hA 0 (by omega)
      have h00 := Lib.hid (show ns[0] = hornF x (ns.take 1) by rw [hornF_snoc x ns 0 (by omega)]; simp [hornF]; omega)
      have hcell0' : w.cell? ⟨b, off, none⟩ = some (.int .i64 ns[0]) := by simpa using hcell0
      have hi0 : (0 : Int) < (ns.length : Int) := by omega
      have HA := Lib.hid hA
      clear hA hcell0
      have HC : Hid (∀ k (hk : k < ns.length), w.cell? ⟨b, off + k, none⟩ = some (.int .i64 ns[k])) := Lib.hid fun k hk => by
        obtain ⟨b', off', e, _, hcell⟩ := hc k hk
        injection e with e; injection e with e1 e2; subst e1 e2; exact hcell
      clear hc
      go_enter Try.func17, Try.ntmps17
      go_wp2_with (first | (go_at_call 35; refine (spec_l27Coefs ns _ _ _ hk1).mono ?_; rintro e w' ⟨rfl, rfl⟩) | (go_at_call 36; refine (l27Num_t _ _ h1 h2).mono ?_; rintro e w' ⟨rfl, rfl⟩))
      go_loopw [5, 6] (fun o i wr => ∃ k : Nat, 1 ≤ k ∧ k ≤ ns.length ∧ i = .int .i64 k ∧ o = .int .i64 (hornF x (ns.take k)) ∧ Below w.heap.size w wr) (fun _ i _ => ns.length - (intOf i).toNat)
      case atStart => exact ⟨1, by omega, hl1, rfl, by rw [h00.out], Below.refl _ _⟩
      case round =>
        obtain ⟨k, hk1, hk, rfl, rfl, hbw⟩ := hrel
        by_cases hlt : k < ns.length
        · have hcell : wr.cell? ⟨b, off + k, none⟩ = some (.int .i64 ns[k]) := (hbw.cell (p := ⟨b, off + k, none⟩) (by show b < _; omega)).trans (HC.out k hlt)
          obtain ⟨hn1, hn2⟩ := HA.out k hlt
          have hb := mul_bd (hornF_bd x ns k hk) ⟨h1, h2⟩
          have hik : (k : Int) < (ns.length : Int) := by omega
          have hs := hornF_snoc x ns k hlt
          have HS := Lib.hid (show hornF x (ns.take (k + 1)) = (hornF x (ns.take k) * x % 10007 + ns[k]) % 10007 by rw [hs]; omega)
          clear hs
          go_wp2_with fail
          go_quiet ((go_at_call 37; exact quiet_left (spec_Reduce _ _)))
          go_wp2
          go_roundw
          case rel => exact ⟨k + 1, by omega, by omega, by go_num, by rw [HS.out], Below.drewN' hbw _⟩
          case measure => simp [intOf]; omega
        · have HT := Lib.hid (show ns.take k = ns from List.take_of_length_le (by omega))
          go_wp2
          go_ret
          exact ⟨ret_int (by rw [HE.out, HT.out]), hbw⟩
    · have HE := Lib.hid (show hornV ns x = 0 by unfold hornV; rw [if_neg (by omega)])
      have hx' : x < 0 ∨ 10006 < x := by omega
      go_enter Try.func17, Try.ntmps17
      go_wp2_with (first | (go_at_call 35; refine (spec_l27Coefs ns _ _ _ hk1).mono ?_; rintro e w' ⟨rfl, rfl⟩) | (go_at_call 36; refine (l27Num_f _ _ hx').mono ?_; rintro e w' ⟨rfl, rfl⟩))
      go_ret
      exact ⟨ret_int HE.out.symm, Below.refl _ _⟩
  · have HE := Lib.hid (show hornV ns x = 0 by unfold hornV; rw [if_neg (by simp [hcb])])
    have hcb' : coefsB ns = false := by simpa using hcb
    clear hcb
    go_enter Try.func17, Try.ntmps17
    go_wp2_with (first | (go_at_call 35; refine (spec_l27Coefs ns _ _ _ hk1).mono ?_; rintro e w' ⟨rfl, rfl⟩))
    go_ret
    exact ⟨ret_int HE.out.symm, Below.refl _ _⟩

/-- The sum of the products of the first k numbers of both lists. -/
def dotTo (cs xs : List Int) : Nat → Int
  | 0 => 0
  | k + 1 => (dotTo cs xs k + cs.getD k 0 * xs.getD k 0) % 10007
theorem dotTo_succ (cs xs : List Int) (k : Nat) (h : k < cs.length) (h' : k < xs.length) : dotTo cs xs (k + 1) = (dotTo cs xs k + cs[k] * xs[k]) % 10007 := by
  simp [dotTo, List.getD, h, h']
theorem dotTo_bd (cs xs : List Int) : ∀ k, 0 ≤ dotTo cs xs k ∧ dotTo cs xs k ≤ 10006
  | 0 => by simp [dotTo]
  | k + 1 => by simp only [dotTo]; omega
def numsB (xs : List Int) : Bool := xs.all fun x => decide (0 ≤ x ∧ x ≤ 10006)
theorem coefsB_nums (xs : List Int) (h : 1 ≤ xs.length ∧ xs.length ≤ 6) : coefsB xs = numsB xs := by
  unfold coefsB numsB; simp [h.1, h.2]
def dotV (cs xs : List Int) : Int := if coefsB cs = true ∧ xs.length = cs.length ∧ numsB xs = true then dotTo cs xs cs.length else 0
theorem numsB_at {ns : List Int} (h : numsB ns = true) (i : Nat) (hi : i < ns.length) : 0 ≤ ns[i] ∧ ns[i] ≤ 10006 := by
  unfold numsB at h
  rw [List.all_eq_true] at h
  simpa using h _ (List.getElem_mem hi)
theorem numsB_bad (ns : List Int) (k : Nat) (h : k < ns.length) (hx : ns[k] < 0 ∨ 10006 < ns[k]) : numsB ns = false := by
  unfold numsB
  rw [List.all_eq_false]
  exact ⟨ns[k], List.getElem_mem h, by simp; omega⟩
set_option maxHeartbeats 400000 in
theorem impl_DotValue (cs xs : List Int) (v u : Value) (S S' : Nat) (w : World) (hv : RepV w S (intsD cs) v) (hu : RepV w S' (intsD xs) u) :
    Calls Try.prog 20 #[v, u] w fun e w' => e = .returned (.int .i64 (dotV cs xs)) ∧ w = w' := by
  have hk1 := hv
  have hk2 := hu
  obtain ⟨a, cap, rfl, hl, hm, hc⟩ := hv.ints
  obtain ⟨a', cap', rfl, hl', hm', hc'⟩ := hu.ints
  unfold maxLen at hm hm'
  by_cases hcb : coefsB cs = true
  · obtain ⟨hlc, hA⟩ := coefsB_at hcb
    by_cases hlen : xs.length = cs.length
    · have hne : ((xs.length : Int) != (cs.length : Int)) = false := by simp; omega
      have hcx := coefsB_nums xs (by omega)
      by_cases hx : numsB xs = true
      · have HE := Lib.hid (show dotV cs xs = dotTo cs xs cs.length by unfold dotV; rw [if_pos ⟨hcb, hlen, hx⟩])
        have hcx' : coefsB xs = true := hcx.trans hx
        have HA := Lib.hid hA
        have HX := Lib.hid (numsB_at hx)
        have hge : cs.length ≤ xs.length := by omega
        clear hA hx hcx hlen
        go_enter Try.func20, Try.ntmps20
        go_wp2_with fail
        refine (impl_areCoefs cs _ _ _ hk1).mono ?_
        rintro e w' ⟨rfl, rfl⟩
        go_wp2_with fail
        refine (impl_areCoefs xs _ _ _ hk2).mono ?_
        rintro e w' ⟨rfl, rfl⟩
        go_wp2_with fail
        clear hk1 hk2
        go_loop [5, 25] (fun o i => ∃ k : Nat, k ≤ cs.length ∧ i = .int .i64 k ∧ o = .int .i64 (dotTo cs xs k)) (fun _ i => cs.length - (intOf i).toNat)
        case atStart => exact ⟨0, Nat.zero_le _, rfl, rfl⟩
        case round =>
          obtain ⟨k, hk, rfl, rfl⟩ := hrel
          by_cases hlt : k < cs.length
          · have hlt' : k < xs.length := by omega
            obtain ⟨b, off, rfl, hbS, hcell⟩ := hc k hlt
            obtain ⟨b', off', rfl, hbS', hcell'⟩ := hc' k hlt'
            clear hc hc'
            have hi2 : (k : Int) < (xs.length : Int) := by omega
            have hn := HA.out k hlt
            have hn' := HX.out k hlt'
            have hb := mul_bd hn hn'
            have hb2 := dotTo_bd cs xs k
            have HS := Lib.hid (dotTo_succ cs xs k hlt hlt')
            go_wp2_with (go_at_call 39; refine (impl_Reduce _ _).mono ?_; rintro e w' ⟨rfl, rfl⟩)
            go_round
            case rel => exact ⟨k + 1, by omega, by go_num, by rw [HS.out]⟩
            case measure => simp [intOf]; omega
          · have HT := Lib.hid (show cs.length = k by omega)
            clear hc hc'
            go_wp2
            go_ret
            exact ⟨ret_int (by rw [HE.out, HT.out]), rfl⟩
      · have HE := Lib.hid (show dotV cs xs = 0 by unfold dotV; rw [if_neg (by simp [hx])])
        have hcx' : coefsB xs = false := by rw [hcx]; simpa using hx
        clear hA hx hcx hlen hc hc'
        go_enter Try.func20, Try.ntmps20
        go_wp2_with fail
        refine (impl_areCoefs cs _ _ _ hk1).mono ?_
        rintro e w' ⟨rfl, rfl⟩
        go_wp2_with fail
        refine (impl_areCoefs xs _ _ _ hk2).mono ?_
        rintro e w' ⟨rfl, rfl⟩
        go_wp2_with fail
        go_ret
        exact ⟨ret_int HE.out.symm, rfl⟩
    · have hne : ((xs.length : Int) != (cs.length : Int)) = true := by simp; omega
      have HE := Lib.hid (show dotV cs xs = 0 by unfold dotV; rw [if_neg (by simp [hlen])])
      clear hA hlen hc hc'
      go_enter Try.func20, Try.ntmps20
      go_wp2_with fail
      refine (impl_areCoefs cs _ _ _ hk1).mono ?_
      rintro e w' ⟨rfl, rfl⟩
      go_wp2_with fail
      go_ret
      exact ⟨ret_int HE.out.symm, rfl⟩
  · have HE := Lib.hid (show dotV cs xs = 0 by unfold dotV; rw [if_neg (by simp [hcb])])
    have hcb' : coefsB cs = false := by simpa using hcb
    clear hcb hc hc'
    go_enter Try.func20, Try.ntmps20
    go_wp2_with fail
    refine (impl_areCoefs cs _ _ _ hk1).mono ?_
    rintro e w' ⟨rfl, rfl⟩
    go_wp2_with fail
    go_ret
    exact ⟨ret_int HE.out.symm, rfl⟩
set_option maxHeartbeats 400000 in
theorem spec_DotValue (cs xs : List Int) (v u : Value) (S S' : Nat) (w : World) (hv : RepV w S (intsD cs) v) (hu : RepV w S' (intsD xs) u) :
    Calls Try.prog 19 #[v, u] w fun e w' => e = .returned (.int .i64 (dotV cs xs)) ∧ Below w.heap.size w w' := by
  have hk1 := hv
  obtain ⟨a, cap, rfl, hl, hm, hc⟩ := hv.ints
  obtain ⟨a', cap', rfl, hl', hm', hc'⟩ := hu.ints
  unfold maxLen at hm hm'
  by_cases hcb : coefsB cs = true
  · obtain ⟨hlc, hA⟩ := coefsB_at hcb
    by_cases hlen : xs.length = cs.length
    · have hne : ((xs.length : Int) != (cs.length : Int)) = false := by simp; omega
      have HA := Lib.hid hA
      have hge : cs.length ≤ xs.length := by omega
      have hge' : xs.length ≤ cs.length := by omega
      have HL := Lib.hid hlen
      have HB := Lib.hid hcb
      clear hA hlen
      go_enter Try.func19, Try.ntmps19
      go_wp2_with fail
      refine (spec_l27Coefs cs _ _ _ hk1).mono ?_
      rintro e w' ⟨rfl, rfl⟩
      go_wp2_with fail
      clear hk1 hcb
      go_loopw [5, 6] (fun o i wr => ∃ k : Nat, k ≤ xs.length ∧ i = .int .i64 k ∧ o = .int .i64 (dotTo cs xs k) ∧ Hid (∀ i (hi : i < xs.length), i < k → 0 ≤ xs[i] ∧ xs[i] ≤ 10006) ∧ Below w.heap.size w wr) (fun _ i _ => xs.length - (intOf i).toNat)
      case atStart => exact ⟨0, Nat.zero_le _, rfl, rfl, fun i _ hi => absurd hi (by omega), Below.refl _ _⟩
      case round =>
        obtain ⟨k, hk, rfl, rfl, HN, hbw⟩ := hrel
        by_cases hlt' : k < xs.length
        · have hlt : k < cs.length := by omega
          obtain ⟨b, off, rfl, hbS, hcell0⟩ := hc k hlt
          obtain ⟨b', off', rfl, hbS', hcell0'⟩ := hc' k hlt'
          clear hc hc'
          have hcell : wr.cell? ⟨b, off + k, none⟩ = some (.int .i64 cs[k]) := (hbw.cell (p := ⟨b, off + k, none⟩) (World.block_lt_of_cell? w _ hcell0)).trans hcell0
          have hcell' : wr.cell? ⟨b', off' + k, none⟩ = some (.int .i64 xs[k]) := (hbw.cell (p := ⟨b', off' + k, none⟩) (World.block_lt_of_cell? w _ hcell0')).trans hcell0'
          clear hcell0 hcell0'
          have hi1 : (k : Int) < (cs.length : Int) := by omega
          have hi2 : (k : Int) < (xs.length : Int) := by omega
          by_cases hx : 0 ≤ xs[k] ∧ xs[k] ≤ 10006
          · obtain ⟨h1, h2⟩ := hx
            have HN2 : Hid (∀ i (hi : i < xs.length), i < k + 1 → 0 ≤ xs[i] ∧ xs[i] ≤ 10006) := Lib.hid fun i hi h => by
              by_cases hik : i = k
              · subst hik; exact ⟨h1, h2⟩
              · exact HN.out i hi (by omega)
            clear HN
            have hn := HA.out k hlt
            have hb := mul_bd hn ⟨h1, h2⟩
            have hb2 := dotTo_bd cs xs k
            have HS := Lib.hid (show dotTo cs xs (k + 1) = (dotTo cs xs k + cs[k] * xs[k] % 10007) % 10007 by rw [dotTo_succ cs xs k hlt hlt']; omega)
            go_wp2_with (go_at_call 36; refine (l27Num_t _ _ h1 h2).mono ?_; rintro e w' ⟨rfl, rfl⟩)
            go_quiet ((go_at_call 37; exact quiet_left (spec_Reduce _ _)))
            go_wp2
            go_roundw
            case rel => exact ⟨k + 1, by omega, by go_num, by rw [HS.out], HN2, Below.drewN' hbw _⟩
            case measure => simp [intOf]; omega
          · have hx' : xs[k] < 0 ∨ 10006 < xs[k] := by omega
            have HE := Lib.hid (show dotV cs xs = 0 by unfold dotV; rw [if_neg (by simp [numsB_bad xs k hlt' hx'])])
            go_wp2_with (go_at_call 36; refine (l27Num_f _ _ hx').mono ?_; rintro e w' ⟨rfl, rfl⟩)
            go_ret
            exact ⟨ret_int HE.out.symm, hbw⟩
        · have HT := Lib.hid (show cs.length = k by omega)
          have hnum : numsB xs = true := by
            unfold numsB
            rw [List.all_eq_true]
            intro x hx
            obtain ⟨i, hi, rfl⟩ := List.mem_iff_getElem.1 hx
            simpa using HN.out i hi (by omega)
          have HE := Lib.hid (show dotV cs xs = dotTo cs xs cs.length by unfold dotV; rw [if_pos ⟨HB.out, HL.out, hnum⟩])
          clear hnum
          clear hc hc' HN
          go_wp2
          go_ret
          exact ⟨ret_int (by rw [HE.out, HT.out]), hbw⟩
    · have hne : ((xs.length : Int) != (cs.length : Int)) = true := by simp; omega
      have HE := Lib.hid (show dotV cs xs = 0 by unfold dotV; rw [if_neg (by simp [hlen])])
      clear hA hlen hc hc'
      go_enter Try.func19, Try.ntmps19
      go_wp2_with fail
      refine (spec_l27Coefs cs _ _ _ hk1).mono ?_
      rintro e w' ⟨rfl, rfl⟩
      go_wp2_with fail
      go_ret
      exact ⟨ret_int HE.out.symm, Below.refl _ _⟩
  · have HE := Lib.hid (show dotV cs xs = 0 by unfold dotV; rw [if_neg (by simp [hcb])])
    have hcb' : coefsB cs = false := by simpa using hcb
    clear hcb hc hc'
    go_enter Try.func19, Try.ntmps19
    go_wp2_with fail
    refine (spec_l27Coefs cs _ _ _ hk1).mono ?_
    rintro e w' ⟨rfl, rfl⟩
    go_wp2_with fail
    go_ret
    exact ⟨ret_int HE.out.symm, Below.refl _ _⟩
end Go.Proofs.Ytblgbfpfddakkaa
