/-
  Reading of numbers and splitting of texts: the reference's side, and plain laws for both.
-/
import Derived.Test.YtfbjdeeomjfhkaaGreatDoorITx
import Derived.Test.YtfbjdeeomjfhkaaGreatDoorMarkText
import Derived.Test.YtfbjdeeomjfhkaaGreatDoorNm
import Derived.Test.YtfbjdeeomjfhkaaGreatDoorCon2
import Derived.Lib.AtoiAllCases
import Derived.Lib.ItoaMem
import Derived.Lib.Split
import Derived.Test.YtfbjdeeomjfhkaaGreatDoorJoi
import Derived.Lib.SmallJoins
namespace Go.Proofs.YtfbjdeeomjfhkaaGreatDoor
open Go.RowKit
set_option linter.unusedVariables false
set_option linter.unusedSimpArgs false
set_option maxRecDepth 20000
/-! Reading a number -/
theorem sz_toL (s : ByteArray) : s.data.toList.length = s.size := Array.length_toList
def stepD (o : Option Nat) (c : UInt8) : Option Nat := o.bind fun n => if 48 ≤ c.toNat ∧ c.toNat ≤ 57 then some (10 * n + (c.toNat - 48)) else none
def dvL (l : List UInt8) : Option Nat := l.foldl stepD (some 0)
theorem dvL_snoc (l : List UInt8) (c : UInt8) : dvL (l ++ [c]) = stepD (dvL l) c := by rw [dvL, List.foldl_append]; rfl
theorem stepD_none : ∀ l : List UInt8, l.foldl stepD none = none
  | [] => rfl
  | _ :: r => stepD_none r
theorem dvL_app {a b : List UInt8} (h : dvL a = none) : dvL (a ++ b) = none := by
  rw [dvL, List.foldl_append, ← dvL, h]; exact stepD_none b
theorem dvL_dec (n : Nat) : dvL (Lib.decDigits n) = some n := by
  induction n using Nat.strongRecOn with
  | ind n ih =>
    have hd : ∀ d, d < 10 → (UInt8.ofNat (48 + d)).toNat = 48 + d := fun d hd => by
      rw [UInt8.toNat_ofNat']; omega
    by_cases h : n < 10
    · rw [Lib.decDigits_one h]
      show stepD (some 0) _ = _
      rw [stepD, Option.bind_some, hd n h, if_pos (by omega)]
      congr 1; omega
    · rw [Lib.decDigits, dif_neg h, dvL_snoc, ih (n / 10) (by omega), stepD, Option.bind_some, hd _ (by omega), if_pos (by omega)]
      congr 1; omega
theorem fold_le : ∀ (l : List UInt8) (a u : Nat), l.foldl stepD (some a) = some u → a ≤ u
  | [], a, u, h => by injection h with h; omega
  | c :: r, a, u, h => by
    rw [List.foldl_cons, stepD, Option.bind_some] at h
    by_cases hc : 48 ≤ c.toNat ∧ c.toNat ≤ 57
    · rw [if_pos hc] at h
      have := fold_le r _ u h
      omega
    · rw [if_neg hc, stepD_none] at h; cases h
theorem pu_fold : ∀ (l : List UInt8) (a u : Nat), u ≤ 1000000000000000000 → l.foldl stepD (some a) = some u → Lib.parseUint10 a l = .ok u
  | [], a, u, _, h => by injection h with h; rw [Lib.parseUint10, h]
  | c :: r, a, u, hu, h => by
    rw [List.foldl_cons, stepD, Option.bind_some] at h
    by_cases hc : 48 ≤ c.toNat ∧ c.toNat ≤ 57
    · rw [if_pos hc] at h
      have hle := fold_le r _ u h
      rw [Lib.parseUint10, if_pos hc, if_neg (by omega), if_neg (by omega), Nat.mul_comm]
      exact pu_fold r _ u hu h
    · rw [if_neg hc, stepD_none] at h; cases h
theorem dd_ne (n : Nat) : Lib.decDigits n ≠ [] := by
  rw [Lib.decDigits]; split <;> simp
theorem dd_head (n : Nat) : ∃ c r, Lib.decDigits n = c :: r ∧ 48 ≤ c.toNat ∧ c.toNat ≤ 57 := by
  cases h : Lib.decDigits n with
  | nil => exact absurd h (dd_ne n)
  | cons c r =>
    refine ⟨c, r, rfl, ?_⟩
    have h1 := dvL_dec n
    rw [h, dvL, List.foldl_cons, stepD, Option.bind_some] at h1
    by_cases hc : 48 ≤ c.toNat ∧ c.toNat ≤ 57
    · exact hc
    · rw [if_neg hc, stepD_none] at h1; cases h1
theorem dd_dig (n : Nat) (c : UInt8) (h : c ∈ Lib.decDigits n) : 48 ≤ c.toNat ∧ c.toNat ≤ 57 := by
  obtain ⟨a, b, e⟩ := List.append_of_mem h
  have h1 := dvL_dec n
  rw [e, dvL, List.foldl_append, List.foldl_cons] at h1
  by_cases hc : 48 ≤ c.toNat ∧ c.toNat ≤ 57
  · exact hc
  · exfalso
    have : stepD (List.foldl stepD (some 0) a) c = none := by
      rw [stepD]
      cases List.foldl stepD (some 0) a with
      | none => rfl
      | some m => rw [Option.bind_some, if_neg hc]
    rw [this, stepD_none] at h1; cases h1
theorem atoi_dd (n : Nat) (h : n ≤ 1000000) : Lib.atoiAll (Lib.decDigits n) = .ok (n : Int) := by
  obtain ⟨c, r, e, h1, h2⟩ := dd_head n
  have hp : Lib.parseMag (c :: r) = .ok n := by
    rw [Lib.parseMag, if_neg (by simp), ← e]
    exact pu_fold _ 0 n (by omega) (dvL_dec n)
  rw [e, Lib.atoiAll_plain c r (by omega) (by omega), hp]
  show (if _ then _ else _) = _
  rw [if_neg (by omega)]
/-- What the program's ParseNumber gives. -/
def niI (s : ByteArray) : Int := match Lib.atoiAll s.data.toList with
  | .ok v => if Lib.itoa v = s.data.toList ∧ 0 ≤ v ∧ v ≤ 999999 then v else 0
  | _ => 0
def noI (s : ByteArray) : Bool := match Lib.atoiAll s.data.toList with
  | .ok v => decide (Lib.itoa v = s.data.toList ∧ 0 ≤ v ∧ v ≤ 999999)
  | _ => false
theorem niI_num (n : Nat) (h : n ≤ 999999) : niI (numL n) = (n : Int) := by
  have e : (numL n).data.toList = Lib.decDigits n := rfl
  rw [niI, e, atoi_dd n (by omega)]
  show (if _ then _ else _) = _
  rw [if_pos ⟨Lib.itoa_nonneg n, by omega, by omega⟩]
def numZ (n : Int) : ByteArray := if n < 0 then ⟨#[45]⟩ ++ numL n.natAbs else numL n.toNat
/-- What the reference's l1Read gives, most = 6. -/
def negB (s : ByteArray) : Bool := decide (0 < s.size) && decide (byteI s 0 = 45)
def magB (s : ByteArray) : ByteArray := if negB s = true then s.extract 1 s.size else s
def rdV (s : ByteArray) (n : Nat) : Int := if negB s = true then -(n : Int) else n
def rdP (s : ByteArray) : Int × Bool :=
  if (magB s).size < 1 ∨ 6 < (magB s).size then (0, false) else
  match dvL (magB s).data.toList with
  | none => (0, false)
  | some n => if numZ (rdV s n) = s then (rdV s n, true) else (0, false)
def nsP (s : ByteArray) : Int × Bool := if (rdP s).2 = false ∨ (rdP s).1 < 0 then (0, false) else rdP s
theorem nsP_num (n : Nat) (h : n ≤ 999999) : nsP (numL n) = ((n : Int), true) := by
  have e : (numL n).data.toList = Lib.decDigits n := rfl
  have hz : (numL n).size = (Lib.decDigits n).length := by rw [← e]; exact (sz_toL _).symm
  obtain ⟨c, r, e1, h1, h2⟩ := dd_head n
  have hb : negB (numL n) = false := by
    have : byteI (numL n) 0 = (c.toNat : Int) := by
      show (((Lib.decDigits n).toArray.getD 0 0).toNat : Int) = _
      rw [e1]; rfl
    rw [negB, this, show decide ((c.toNat : Int) = 45) = false from decide_eq_false (by omega), Bool.and_false]
  have hm : magB (numL n) = numL n := by rw [magB, hb]; rfl
  have hl : (Lib.decDigits n).length ≤ 6 := dd_len 5 n (by omega)
  have hl1 : 1 ≤ (Lib.decDigits n).length := by rw [e1]; simp
  have hv : rdV (numL n) n = n := by rw [rdV, hb]; rfl
  have hr : rdP (numL n) = ((n : Int), true) := by
    rw [rdP, hm, if_neg (by omega), e, dvL_dec]
    show (if _ then _ else _) = _
    rw [hv, if_pos (by rw [numZ, if_neg (by omega)]; simp)]
  rw [nsP, hr, if_neg (by simp)]
/-! Splitting -/
def spl (s : ByteArray) (c : UInt8) : Nat → List ByteArray × Nat
  | 0 => ([], 0)
  | i + 1 => if i = s.size ∨ byteI s i = (c.toNat : Int) then ((spl s c i).1 ++ [s.extract (spl s c i).2 i], i + 1) else spl s c i
def splB (s : ByteArray) (c : UInt8) : List ByteArray := (spl s c (s.size + 1)).1
def splL (c : UInt8) : List UInt8 → List (List UInt8)
  | [] => [[]]
  | x :: r => if x = c then [] :: splL c r else match splL c r with
    | h :: t => (x :: h) :: t
    | [] => [[x]]
theorem splL_ne (c : UInt8) : ∀ l, splL c l ≠ []
  | [] => by simp [splL]
  | x :: r => by
    rw [splL]; split
    · simp
    · split <;> simp
/-- The parts before the first one of a list's rest, put in front. -/
def pre1 (p : List UInt8) : List (List UInt8) → List (List UInt8)
  | h :: t => (p ++ h) :: t
  | [] => [p]
theorem pre1_nil {l} (h : l ≠ []) : pre1 [] l = l := by cases l <;> simp_all [pre1]
theorem pre1_snoc (p : List UInt8) (x : UInt8) (c : UInt8) (r : List UInt8) (hx : ¬ x = c) : pre1 p (splL c (x :: r)) = pre1 (p ++ [x]) (splL c r) := by
  rw [splL, if_neg hx]
  cases h : splL c r with
  | nil => exact absurd h (splL_ne c r)
  | cons a b => simp [pre1]
theorem spl_inv (s : ByteArray) (c : UInt8) : ∀ i, i ≤ s.size → (spl s c i).2 ≤ i ∧ ((spl s c i).1.map (·.data.toList)) ++ pre1 ((s.data.toList.drop (spl s c i).2).take (i - (spl s c i).2)) (splL c (s.data.toList.drop i)) = splL c s.data.toList
  | 0, _ => by
    refine ⟨Nat.le_refl _, ?_⟩
    show [] ++ pre1 (List.take (0 - 0) _) (splL c (List.drop 0 _)) = _
    rw [Nat.sub_zero, List.take_zero, List.drop_zero, List.nil_append, pre1_nil (splL_ne c _)]
  | i + 1, hi => by
    obtain ⟨h1, h2⟩ := spl_inv s c i (by omega)
    have hlt : i < s.data.toList.length := by rw [sz_toL]; exact hi
    have hx : byteI s i = ((s.data.toList[i]).toNat : Int) := by
      unfold byteI
      rw [Array.getD_eq_getD_getElem?, Array.getElem?_eq_getElem (show i < s.data.size from hi), Option.getD_some, Array.getElem_toList]
    have hd := List.drop_eq_getElem_cons hlt
    by_cases hc : byteI s i = (c.toNat : Int)
    · have hcc : s.data.toList[i] = c := by
        rw [hx] at hc
        exact UInt8.toNat_inj.1 (by omega)
      rw [show spl s c (i + 1) = ((spl s c i).1 ++ [s.extract (spl s c i).2 i], i + 1) by rw [spl, if_pos (Or.inr hc)]]
      refine ⟨Nat.le_refl _, ?_⟩
      rw [hd, hcc, splL, if_pos rfl] at h2
      simp only [Nat.sub_self, List.take_zero, pre1_nil (splL_ne c _)]
      rw [← h2, List.map_append, List.append_assoc]
      simp [pre1, List.take_drop]
    · have hcc : ¬ s.data.toList[i] = c := fun e => hc (by rw [hx, e])
      rw [show spl s c (i + 1) = spl s c i by rw [spl, if_neg (by rintro (h | h); omega; exact hc h)]]
      refine ⟨by omega, ?_⟩
      rw [← h2, hd, pre1_snoc _ _ _ _ hcc]
      congr 2
      rw [show i + 1 - (spl s c i).2 = (i - (spl s c i).2) + 1 by omega, List.take_add_one, List.getElem?_drop, show (spl s c i).2 + (i - (spl s c i).2) = i by omega, List.getElem?_eq_getElem hlt]
      rfl
theorem splB_L (s : ByteArray) (c : UInt8) : (splB s c).map (·.data.toList) = splL c s.data.toList := by
  obtain ⟨h1, h2⟩ := spl_inv s c s.size (Nat.le_refl _)
  have hl : s.data.toList.length = s.size := sz_toL s
  rw [splB, show spl s c (s.size + 1) = ((spl s c s.size).1 ++ [s.extract (spl s c s.size).2 s.size], s.size + 1) by rw [spl, if_pos (Or.inl rfl)]]
  rw [← hl, List.drop_length, hl] at h2
  rw [← h2, List.map_append]
  simp [pre1, splL, List.take_drop]
theorem spl_len (s : ByteArray) (c : UInt8) : ∀ i, (spl s c i).1.length ≤ i ∧ (spl s c i).2 ≤ i
  | 0 => ⟨Nat.le_refl _, Nat.le_refl _⟩
  | i + 1 => by
    obtain ⟨h1, h2⟩ := spl_len s c i
    rw [spl]; split
    · simp; omega
    · omega
theorem idx1 (c : UInt8) : ∀ l : List UInt8, (c ∉ l ∧ Lib.index l [c] = -1) ∨ ∃ a r, l = a ++ c :: r ∧ c ∉ a ∧ Lib.index l [c] = (a.length : Int)
  | [] => Or.inl ⟨by simp, rfl⟩
  | b :: l => by
    by_cases hb : c = b
    · subst hb
      exact Or.inr ⟨[], l, rfl, by simp, by rw [Lib.index, if_pos (by simp [List.isPrefixOf])]; rfl⟩
    · have hp : ¬ List.isPrefixOf [c] (b :: l) = true := by simp [List.isPrefixOf, hb]
      rcases idx1 c l with ⟨h1, h2⟩ | ⟨a, r, h1, h2, h3⟩
      · exact Or.inl ⟨by simp [hb, h1], by rw [Lib.index, if_neg hp, h2]; rfl⟩
      · refine Or.inr ⟨b :: a, r, by rw [h1]; rfl, by simp [hb, h2], ?_⟩
        rw [Lib.index, if_neg hp, h3, if_neg (by rw [beq_iff_eq]; omega)]
        simp
theorem splL_in (c : UInt8) : ∀ (a r : List UInt8), c ∉ a → splL c (a ++ c :: r) = a :: splL c r
  | [], r, _ => by rw [List.nil_append, splL, if_pos rfl]
  | x :: a, r, h => by
    rw [List.mem_cons, not_or] at h
    rw [List.cons_append, splL, if_neg (fun e => h.1 e.symm), splL_in c a r h.2]
theorem splL_no (c : UInt8) : ∀ (a : List UInt8), c ∉ a → splL c a = [a]
  | [], _ => rfl
  | x :: a, h => by
    rw [List.mem_cons, not_or] at h
    rw [splL, if_neg (fun e => h.1 e.symm), splL_no c a h.2]
theorem cut_in (c : UInt8) (a r : List UInt8) (h : c ∉ a) : Lib.cut (a ++ c :: r) [c] = (a, r, true) := by
  rcases idx1 c (a ++ c :: r) with ⟨h1, h2⟩ | ⟨a', r', h1, h2, h3⟩
  · exact absurd (by simp) h1
  · have e := splL_in c a r h
    have e' := splL_in c a' r' h2
    rw [← h1, e] at e'
    injection e' with e1 e2
    subst e1
    rw [Lib.cut, h3, if_pos (by omega)]
    simp [List.drop_append]
theorem cut_no (c : UInt8) (a : List UInt8) (h : c ∉ a) : Lib.cut a [c] = (a, [], false) := by
  rcases idx1 c a with ⟨h1, h2⟩ | ⟨a', r', h1, h2, h3⟩
  · rw [Lib.cut, h2, if_neg (by omega)]
  · exact absurd (by rw [h1]; simp) h
theorem dr_in (c : UInt8) (a r : List UInt8) : (a ++ c :: r).drop ((((a.length : Nat) : Int)).toNat + [c].length) = r := by
  rw [show (((a.length : Nat) : Int)).toNat + [c].length = (a ++ [c]).length by simp, show a ++ c :: r = (a ++ [c]) ++ r by simp, List.drop_left]
theorem countF (c : UInt8) : ∀ (f : Nat) (l : List UInt8), l.length < f → Lib.countFrom [c] f l = List.count c l
  | 0, l, h => by omega
  | f + 1, l, h => by
    rcases idx1 c l with ⟨h1, h2⟩ | ⟨a, r, h1, h2, h3⟩
    · rw [Lib.countFrom, h2, List.count_eq_zero.2 h1]; rfl
    · have hl : l.length = a.length + (r.length + 1) := by rw [h1]; simp
      rw [Lib.countFrom, h3, if_neg (by rw [beq_iff_eq]; omega), countF c f _ (by rw [List.length_drop]; simp; omega), h1]
      rw [List.count_append, List.count_eq_zero.2 h2, List.count_cons_self]
      rw [dr_in]
      omega
theorem splitK_L (c : UInt8) : ∀ (k : Nat) (l : List UInt8), List.count c l = k → Lib.splitK [c] 0 k l = splL c l
  | 0, l, h => by rw [Lib.splitK, splL_no c l (List.count_eq_zero.1 h)]
  | k + 1, l, h => by
    rcases idx1 c l with ⟨h1, h2⟩ | ⟨a, r, h1, h2, h3⟩
    · rw [List.count_eq_zero.2 h1] at h; omega
    · have hk : List.count c r = k := by
        rw [h1, List.count_append, List.count_eq_zero.2 h2, List.count_cons_self] at h; omega
      rw [Lib.splitK, h3, if_neg (by rw [beq_iff_eq]; omega), h1, splL_in c a r h2, ← splitK_L c k r hk, dr_in]
      simp
theorem split_L (c : UInt8) (l : List UInt8) : Lib.split l [c] = splL c l := by
  rw [Lib.split, Lib.count, countF c _ l (by omega)]
  exact splitK_L c _ l rfl
theorem dv_lt : ∀ (k : Nat) (l : List UInt8), l.length = k → ∀ n, dvL l = some n → n < 10 ^ k := by
  intro k
  induction k with
  | zero =>
    intro l h n e
    rw [List.eq_nil_of_length_eq_zero h] at e
    injection e with e
    rw [← e]; decide
  | succ k ih =>
    intro l h n e
    have hne : l ≠ [] := by intro h'; rw [h'] at h; cases h
    obtain ⟨a, c, rfl⟩ : ∃ a c, l = a ++ [c] := ⟨_, _, (List.dropLast_concat_getLast hne).symm⟩
    rw [dvL_snoc] at e
    cases hd : dvL a with
    | none => rw [hd] at e; cases e
    | some m =>
      have hm := ih a (by simpa using h) m hd
      rw [hd, stepD, Option.bind_some] at e
      by_cases hc : 48 ≤ c.toNat ∧ c.toNat ≤ 57
      · rw [if_pos hc] at e
        injection e with e
        rw [Nat.pow_succ]; omega
      · rw [if_neg hc] at e; cases e
theorem dv_step (t : ByteArray) (k : Nat) (hk : k < t.size) : dvL (t.data.toList.take (k + 1)) = stepD (dvL (t.data.toList.take k)) (t.data.getD k 0) := by
  rw [List.take_add_one, List.getElem?_eq_getElem (show k < t.data.toList.length by rw [sz_toL]; exact hk), Option.toList, dvL_snoc]
  rw [Array.getD_eq_getD_getElem?, Array.getElem?_eq_getElem (show k < t.data.size from hk), Option.getD_some, Array.getElem_toList]
theorem dv_ok (t : ByteArray) (k n : Nat) (hk : k < t.size) (h : dvL (t.data.toList.take k) = some n) (h1 : 48 ≤ byteI t k) (h2 : byteI t k ≤ 57) : dvL (t.data.toList.take (k + 1)) = some (10 * n + ((byteI t k).toNat - 48)) := by
  unfold byteI at *
  rw [dv_step t k hk, h, stepD, Option.bind_some, if_pos (by omega)]
  congr 1
theorem dv_bad (t : ByteArray) (k n : Nat) (hk : k < t.size) (h : dvL (t.data.toList.take k) = some n) (hb : byteI t k < 48 ∨ 57 < byteI t k) : dvL t.data.toList = none := by
  unfold byteI at hb
  rw [← List.take_append_drop (k + 1) t.data.toList]
  refine dvL_app ?_
  rw [dv_step t k hk, h, stepD, Option.bind_some, if_neg (by omega)]
set_option maxRecDepth 100000 in
set_option maxHeartbeats 4000000 in
theorem spec_FmtNeg (n : Nat) (w : World) (h0 : n ≠ 0) (hn : n ≤ 1000000) :
    Calls Tryz.prog 34 #[.int .i64 (-(n : Int))] w fun e w' => e = .returned (.string (⟨#[45]⟩ ++ numL n)) ∧ Below w.heap.size w w' := by
  have h0i : ¬ -(n : Int) = 0 := by omega
  have hlt : -(n : Int) < 0 := by omega
  go_enter Tryz.func34, Tryz.ntmps34
  go_wp2
  go_loopw [0, 4] (fun i out wr => ∃ (m : Nat) (l : List UInt8), m ≤ n ∧ i = .int .i64 (-(m : Int)) ∧ out = .string ⟨l.toArray⟩ ∧ Hid (Lib.decDigits n = (if m = 0 then [] else Lib.decDigits m) ++ l) ∧ l.length ≤ n - m ∧ Below w.heap.size w wr) (fun i _ _ => (intOf i).natAbs)
  case atStart =>
    refine ⟨n, [], Nat.le_refl _, rfl, rfl, ?_, by simp, Below.refl _ _⟩
    exact Lib.hid (by rw [if_neg h0, List.append_nil])
  case round =>
    obtain ⟨m, l, hm, rfl, rfl, hl, hll, hb⟩ := hrel
    by_cases hz : m = 0
    · subst hz
      have e := hl.out
      rw [if_pos rfl, List.nil_append] at e
      clear hl
      go_wp2
      go_ret
      exact ⟨by rw [numL, e]; rfl, hb⟩
    · have hzi : ¬ -(m : Int) = 0 := by omega
      have hcv := conv_one
      have hbs := hb.size
      have hst := dd_step m (by omega) l
      have htm : (-(m : Int)).tmod 10 = -((m % 10 : Nat) : Int) := by rw [Int.neg_tmod]; rfl
      have htd : (-(m : Int)).tdiv 10 = -((m / 10 : Nat) : Int) := by rw [Int.neg_tdiv]; rfl
      by_cases hd : m % 10 = 0
      · go_wp2
        refine ⟨⟨m / 10, UInt8.ofNat (48 + m % 10) :: l, by omega, by congr 1, ?_, Lib.hid (hl.out.trans hst), ?_, hb.alloc hbs _⟩, ?_⟩
        · rw [hd]
          congr 1
        · rw [List.length_cons]; omega
        · simp only [intOf]; omega
      · have hneg : ((-((m % 10 : Nat) : Int)) < 0) := by omega
        have hsub : (0 - -((m % 10 : Nat) : Int)) = ((m % 10 : Nat) : Int) := by omega
        go_wp2
        refine ⟨⟨m / 10, UInt8.ofNat (48 + m % 10) :: l, by omega, by congr 1, ?_, Lib.hid (hl.out.trans hst), ?_, hb.alloc hbs _⟩, ?_⟩
        · rw [show (48 : UInt8) + UInt8.ofNat (m % 10) = UInt8.ofNat (48 + m % 10) by simp [UInt8.ofNat_add]]
          congr 1
        · rw [List.length_cons]; omega
        · simp only [intOf]; omega
theorem con_FmtZ (n : Int) (h : -1000000 ≤ n ∧ n ≤ 1000000) : Con Tryz.prog 34 [.one (.int n)] [.one (.str (numZ n))] := by
  by_cases hn : n < 0
  · refine con_U1 ⟨_, rfl, by kernel_rfl, by kernel_rfl⟩ ?_
    intro w us hu
    obtain ⟨v, r, rfl, h1, h2⟩ := rpd_c hu
    obtain rfl := rpd_n h2
    obtain rfl := rpd_iint h1
    have := spec_FmtNeg n.natAbs w (by omega) (by omega)
    rw [show -((n.natAbs : Nat) : Int) = n by omega] at this
    refine this.mono ?_
    rintro e w' ⟨rfl, hb⟩
    exact ⟨_, rfl, by rw [numZ, if_pos hn]; exact fr_str _ _ _, hb⟩
  · rw [numZ, if_neg hn]; exact con_FmtS n (by omega)
theorem con_l1Read0 (s : ByteArray) (hz : s.size = 0) : Con Tryz.prog 56 [.one (.str s), .one (.int 6)] [.one (.int (rdP s).1), .one (.bool (rdP s).2)] := by
  have h0 : ¬ 0 < (s.size : Int) := by omega
  have h1 : (s.size : Int) < 1 := by omega
  have hr : rdP s = (0, false) := by
    have hb : negB s = false := by rw [negB, hz]; rfl
    have hm : magB s = s := by rw [magB, hb]; rfl
    rw [rdP, hm, if_pos (by omega)]
  rw [hr]
  refine con_run Tryz.func56 rfl rfl (by simp [Tryz.ntmps56]) ?_
  simp only [argT, argA, fQ, xRet, rPs, xRes, flatA, rD, eq_self, xRun, vE, vP, vBin, vBinT, isAg, isBo, vLen, isCutO, isB, bv, gT, gW, gN, gV, isU, isPick, pkC, pkA, pkB, isCall, AS.pt, AS.kn, AS.ev, look, cav, avB, eatsOf, td0, td1, td2, td3, td4, td5, td6, Option.bind, Option.getD, Option.isSome, List.map, List.getElem?_cons_zero, List.getElem?_cons_succ, List.nodup_nil, ↓reduceIte, Nat.reduceLT, Nat.reduceEqDiff, Nat.zero_add, or_false, Bool.not_true, Bool.not_false, Bool.false_eq_true, Bool.true_eq_false, reduceCtorEq, decide_true, decide_false, and_self, h0, eq_true h1, Tryz.ntmps56, Tryz.results56]
def dvN (t : ByteArray) (k : Nat) : Nat := (dvL (t.data.toList.take k)).getD 0
theorem con_l1ReadB (s : ByteArray) (hz : s.size ≤ 1000000000) (h00 : 0 < s.size) (hc : byteI s 0 = 45) : Con Tryz.prog 56 [.one (.str s), .one (.int 6)] [.one (.int (rdP s).1), .one (.bool (rdP s).2)] := by
  have h0 : 0 < (s.size : Int) := by omega
  have hB : ((((s.data.getD 0 0).toNat : Nat)) : Int) = byteI s 0 := rfl
  have hb : negB s = true := by rw [negB, decide_eq_true h00, decide_eq_true hc]; rfl
  have hm : s.extract 1 s.size = magB s := by rw [magB, hb]; rfl
  have hv : ∀ n, rdV s n = -(n : Int) := fun n => by rw [rdV, hb]; rfl
  have hs1 : 1 ≤ (s.size : Int) := by omega
  obtain ⟨t, ht⟩ : ∃ t, t = magB s := ⟨_, rfl⟩
  have hts : t.size ≤ s.size := by rw [ht, ← hm]; simp
  rw [← ht] at hm
  have hrd0 : (t.size < 1 ∨ 6 < t.size) → rdP s = (0, false) := fun hr => by rw [rdP, ← ht, if_pos hr]
  have hrd : ¬ (t.size < 1 ∨ 6 < t.size) → rdP s = (match dvL t.data.toList with | none => (0, false) | some n => if numZ (rdV s n) = s then (rdV s n, true) else (0, false)) := fun hr => by rw [rdP, ← ht, if_neg hr]
  clear ht
  by_cases hr : t.size < 1 ∨ 6 < t.size
  · rw [hrd0 hr]
    rcases hr with hr | hr
    · have h1 : (t.size : Int) < 1 := by omega
      refine con_run Tryz.func56 rfl rfl (by simp [Tryz.ntmps56]) ?_
      simp only [argT, argA, fQ, xRet, rPs, xRes, flatA, rD, eq_self, xRun, vE, vP, vBin, vBinT, isAg, isBo, vLen, vChr, vCut, vSlc, isCutO, ixL, ixH, isB, bv, gT, gW, gN, gV, isU, isPick, pkC, pkA, isCall, AS.pt, AS.kn, AS.ev, look, cav, avB, eatsOf, td0, td1, td2, td3, td4, td5, td6, Option.bind, Option.getD, Option.map, Option.isSome, List.map, List.getElem?_cons_zero, List.getElem?_cons_succ, List.nodup_nil, ↓reduceIte, Nat.reduceLT, Nat.reduceEqDiff, Nat.zero_add, or_false, Bool.not_false, Bool.false_eq_true, Bool.true_eq_false, reduceCtorEq, Int.toNat_natCast, Int.reduceLE, Int.toNat_zero, Int.toNat_one, Int.le_refl, decide_true, and_self, h0, hs1, hB, eq_true hc, hm, eq_true h1, Tryz.ntmps56, Tryz.results56]
    · have h1 : ¬ (t.size : Int) < 1 := by omega
      have h2 : 6 < (t.size : Int) := by omega
      refine con_run Tryz.func56 rfl rfl (by simp [Tryz.ntmps56]) ?_
      simp only [argT, argA, fQ, xRet, rPs, xRes, flatA, rD, eq_self, xRun, vE, vP, vBin, vBinT, isAg, isBo, vLen, vChr, vCut, vSlc, isCutO, ixL, ixH, isB, bv, gT, gW, gN, gV, isU, isPick, pkC, pkA, pkB, isCall, AS.pt, AS.kn, AS.ev, look, cav, avB, eatsOf, td0, td1, td2, td3, td4, td5, td6, Option.bind, Option.getD, Option.map, Option.isSome, List.map, List.getElem?_cons_zero, List.getElem?_cons_succ, List.nodup_nil, ↓reduceIte, Nat.reduceLT, Nat.reduceEqDiff, Nat.zero_add, or_false, Bool.false_eq_true, reduceCtorEq, Int.toNat_natCast, Int.reduceLE, Int.toNat_zero, Int.toNat_one, Int.le_refl, decide_true, decide_false, and_self, Nat.succ_ne_zero, h0, hs1, hB, eq_true hc, hm, h1, eq_true h2, Tryz.ntmps56, Tryz.results56]
  · have h1 : ¬ (t.size : Int) < 1 := by omega
    have h2 : ¬ 6 < (t.size : Int) := by omega
    have hrd' := hrd hr
    refine con_run Tryz.func56 rfl rfl (by simp [Tryz.ntmps56]) ?_
    simp only [argT, argA, eq_self, xRun, vE, vP, vBin, vBinT, isAg, isBo, vLen, vChr, vCut, vSlc, isCutO, ixL, ixH, isB, bv, gT, gW, gN, gV, isU, isPick, pkC, pkA, pkB, isCall, AS.pt, AS.kn, AS.ev, look, cav, avB, td0, td1, td2, td3, td4, td5, td6, Option.bind, Option.getD, Option.map, Option.isSome, List.getElem?_cons_zero, List.getElem?_cons_succ, ↓reduceIte, Nat.reduceLT, Nat.reduceEqDiff, Nat.zero_add, true_and, Bool.false_eq_true, reduceCtorEq, Int.toNat_natCast, Int.reduceLE, Int.toNat_zero, Int.toNat_one, Int.le_refl, decide_true, decide_false, and_self, Nat.succ_ne_zero, h0, hs1, hB, eq_true hc, hm, h1, h2, Tryz.ntmps56]
    refine sw_loop (fun k : Nat => k ≤ t.size ∧ ∃ n, dvL (t.data.toList.take k) = some n) (fun k => ⟨63, [(9, .i k), (8, .i (dvN t k)), (7, .s t), (6, .b true), (0, .s s)], [], [], 0, []⟩) (fun k => t.size - k) 0 id ⟨Nat.zero_le _, _, rfl⟩ ?_ ?_
    · simp only [Sub, subT, subB, subO, subP, inj, AV.ren, AV.lt, eq_self, look, td0, td1, td2, td3, td4, td5, td6, List.map, List.nodup_nil, ↓reduceIte, Nat.reduceEqDiff, reduceCtorEq, Int.natCast_zero, and_self, Int.natCast_zero, show dvN t 0 = 0 from rfl]
    · rintro k ⟨hk, n, hn⟩
      have hN : dvN t k = n := by rw [dvN, hn]; rfl
      have hlt6 : n < 1000000 := Nat.lt_of_lt_of_le (dv_lt k _ (by rw [List.length_take, sz_toL]; omega) n hn) (show 10 ^ k ≤ 10 ^ 6 from Nat.pow_le_pow_right (by decide) (by omega))
      refine sw_run 200 _ _ _ ?_
      by_cases hlt : k < t.size
      · have hi : (k : Int) < (t.size : Int) := by omega
        have hBt : ((((t.data.getD k 0).toNat : Nat)) : Int) = byteI t k := rfl
        by_cases hd : 48 ≤ byteI t k ∧ byteI t k ≤ 57
        · have a1 : ¬ byteI t k < 48 := by omega
          have a2 : ¬ 57 < byteI t k := by omega
          have a3 : 0 ≤ byteI t k - 48 ∧ byteI t k - 48 < 256 := by omega
          have hst := dv_ok t k n hlt hn hd.1 hd.2
          have hN1 : ((dvN t (k + 1) : Nat) : Int) = 10 * (n : Int) + (byteI t k - 48) := by rw [dvN, hst]; show ((10 * n + ((byteI t k).toNat - 48) : Nat) : Int) = _; omega
          simp only [qLp, eq_self, xRun, vE, vP, vBin, vBinT, isAg, isBo, vLen, vChr, vCnv, isCutO, isB, bv, gT, gW, gN, gV, isU, isPick, pkC, pkB, isCall, AS.pt, AS.kn, AS.ev, look, cav, td0, td1, td2, td3, td4, td5, td6, Option.bind, Option.getD, Option.isSome, List.getElem?_cons_zero, List.getElem?_cons_succ, ↓reduceIte, Nat.reduceLT, Nat.reduceEqDiff, true_and, Bool.false_eq_true, Int.toNat_natCast, Int.natCast_nonneg, decide_true, decide_false, and_self, hi, hBt, a1, a2, a3, hN, qLp]
          refine ⟨by unfold inI; omega, ⟨by kernel_rfl, by unfold inI; omega⟩, by unfold inI; omega, by unfold inI; omega, k + 1, id, ⟨by omega, _, hst⟩, by omega, ?_⟩
          simp only [Sub, subT, subB, subO, subP, inj, AV.ren, AV.lt, eq_self, look, td0, td1, td2, td3, td4, td5, td6, List.map, List.nodup_nil, ↓reduceIte, Nat.reduceEqDiff, reduceCtorEq, and_self, cast1, hN1]
        · have hbad : dvL t.data.toList = none := dv_bad t k n hlt hn (by omega)
          have hr0 : rdP s = (0, false) := by rw [hrd', hbad]
          by_cases hd1 : byteI t k < 48
          · simp only [fQ, qLp, xRet, rPs, xRes, flatA, rD, eq_self, xRun, vE, vP, vBin, vBinT, isAg, isBo, vLen, vChr, isCutO, isB, bv, gT, gW, gN, gV, isU, isPick, pkC, pkA, isCall, AS.pt, AS.kn, AS.ev, look, cav, eatsOf, td0, td1, td2, td3, td4, td5, td6, Option.bind, Option.getD, Option.isSome, List.map, List.getElem?_cons_zero, List.getElem?_cons_succ, List.nodup_nil, ↓reduceIte, Nat.reduceLT, Nat.reduceEqDiff, or_false, Bool.not_false, Bool.false_eq_true, Bool.true_eq_false, reduceCtorEq, Int.toNat_natCast, Int.natCast_nonneg, decide_true, and_self, hi, hBt, eq_true hd1, hr0, Tryz.results56]
          · have hd2 : 57 < byteI t k := by omega
            simp only [fQ, qLp, xRet, rPs, xRes, flatA, rD, eq_self, xRun, vE, vP, vBin, vBinT, isAg, isBo, vLen, vChr, isCutO, isB, bv, gT, gW, gN, gV, isU, isPick, pkC, pkB, isCall, AS.pt, AS.kn, AS.ev, look, cav, eatsOf, td0, td1, td2, td3, td4, td5, td6, Option.bind, Option.getD, Option.isSome, List.map, List.getElem?_cons_zero, List.getElem?_cons_succ, List.nodup_nil, ↓reduceIte, Nat.reduceLT, Nat.reduceEqDiff, or_false, Bool.false_eq_true, reduceCtorEq, Int.toNat_natCast, Int.natCast_nonneg, decide_true, decide_false, and_self, hi, hBt, hd1, eq_true hd2, hr0, Tryz.results56]
      · have hi : ¬ (k : Int) < (t.size : Int) := by omega
        obtain rfl : k = t.size := by omega
        have hall : dvL t.data.toList = some n := by rw [← hn, ← sz_toL, List.take_length]
        have hF := con_FmtZ (-(n : Int)) (by omega)
        rw [hall] at hrd'
        simp only [hv] at hrd'
        simp only [qLp, eq_self, xRun, vE, vP, vBin, vBinT, isAg, isBo, vLen, isCutO, isB, bv, gN, isPick, isCall, popTo, AS.pt, AS.ev, look, td0, td1, td2, td3, td4, td5, td6, Option.getD, Option.isSome, ↓reduceIte, Nat.reduceLT, Nat.reduceEqDiff, true_and, Bool.false_eq_true, decide_false, hi]
        refine sw_run 200 _ _ _ ?_
        have h0n : 0 - (n : Int) = -(n : Int) := by omega
        have hin : inI (-(n : Int)) := by unfold inI; omega
        simp only [eq_self, xRun, vE, vP, vBin, vBinT, isAg, isBo, isCutO, isB, bv, gN, isPick, isCall, AS.pt, AS.ev, look, cav, td0, td1, td2, td3, td4, td5, td6, Option.getD, ↓reduceIte, Nat.reduceLT, Nat.reduceEqDiff, true_and, Bool.false_eq_true, hN, h0n, hin]
        refine sw_call hF rfl (aAs_ok ?_) ?_ (sw_run 200 _ _ _ ?_)
        · simp only [aAs, aA, aD, AS.ev, look, Option.getD, List.map, List.append_nil, ↓reduceIte, eq_self, and_self]
        · simp only [okR]
        by_cases he : numZ (-(n : Int)) = s
        · rw [if_pos he] at hrd'
          simp only [mkR, flatD, packA, retA, List.headD_cons, fQ, xRet, rPs, xRes, flatA, rD, eq_self, xRun, vE, vP, vBin, vBinT, isAg, isBo, isCutO, isB, bv, gN, isPick, isCall, AS.pt, AS.ev, look, cav, eatsOf, td0, td1, td2, td3, td4, td5, td6, Option.getD, List.map, List.nodup_nil, ↓reduceIte, Nat.reduceLT, Nat.reduceEqDiff, ne_eq, not_true_eq_false, or_false, Bool.false_eq_true, reduceCtorEq, decide_false, and_self, eq_true he, hrd', Tryz.results56]
        · rw [if_neg he] at hrd'
          simp only [mkR, flatD, packA, retA, List.headD_cons, fQ, xRet, rPs, xRes, flatA, rD, eq_self, xRun, vE, vP, vBin, vBinT, isAg, isBo, isCutO, isB, bv, gN, isPick, isCall, AS.pt, AS.ev, look, cav, eatsOf, td0, td1, td2, td3, td4, td5, td6, Option.getD, List.map, List.nodup_nil, ↓reduceIte, Nat.reduceLT, Nat.reduceEqDiff, ne_eq, not_false_eq_true, or_false, Bool.false_eq_true, reduceCtorEq, decide_true, and_self, he, hrd', Tryz.results56]
theorem con_l1ReadC (s : ByteArray) (hz : s.size ≤ 1000000000) (h00 : 0 < s.size) (hc : ¬ byteI s 0 = 45) : Con Tryz.prog 56 [.one (.str s), .one (.int 6)] [.one (.int (rdP s).1), .one (.bool (rdP s).2)] := by
  have h0 : 0 < (s.size : Int) := by omega
  have hB : ((((s.data.getD 0 0).toNat : Nat)) : Int) = byteI s 0 := rfl
  have hb : negB s = false := by rw [negB, decide_eq_true h00, decide_eq_false hc]; rfl
  have hm : magB s = s := by rw [magB, hb]; rfl
  have hv : ∀ n, rdV s n = (n : Int) := fun n => by rw [rdV, hb]; rfl
  have hs1 : 1 ≤ (s.size : Int) := by omega
  obtain ⟨t, ht⟩ : ∃ t, t = magB s := ⟨_, rfl⟩
  have hts : t.size ≤ s.size := by rw [ht, hm]; exact Nat.le_refl _
  rw [← ht] at hm
  have hrd0 : (t.size < 1 ∨ 6 < t.size) → rdP s = (0, false) := fun hr => by rw [rdP, ← ht, if_pos hr]
  have hrd : ¬ (t.size < 1 ∨ 6 < t.size) → rdP s = (match dvL t.data.toList with | none => (0, false) | some n => if numZ (rdV s n) = s then (rdV s n, true) else (0, false)) := fun hr => by rw [rdP, ← ht, if_neg hr]
  obtain rfl := hm; clear ht
  by_cases hr : t.size < 1 ∨ 6 < t.size
  · rw [hrd0 hr]
    rcases hr with hr | hr
    · have h1 : (t.size : Int) < 1 := by omega
      refine con_run Tryz.func56 rfl rfl (by simp [Tryz.ntmps56]) ?_
      simp only [argT, argA, fQ, xRet, rPs, xRes, flatA, rD, eq_self, xRun, vE, vP, vBin, vBinT, isAg, isBo, vLen, vChr, isCutO, isB, bv, gT, gW, gN, gV, isU, isPick, pkC, pkA, isCall, AS.pt, AS.kn, AS.ev, look, cav, avB, eatsOf, td0, td1, td2, td3, td4, td5, td6, Option.bind, Option.getD, Option.isSome, List.map, List.getElem?_cons_zero, List.getElem?_cons_succ, List.nodup_nil, ↓reduceIte, Nat.reduceLT, Nat.reduceEqDiff, Nat.zero_add, or_false, Bool.not_false, Bool.false_eq_true, Bool.true_eq_false, reduceCtorEq, Int.toNat_zero, Int.le_refl, decide_true, decide_false, and_self, h0, hB, hc, eq_true h1, Tryz.ntmps56, Tryz.results56]
    · have h1 : ¬ (t.size : Int) < 1 := by omega
      have h2 : 6 < (t.size : Int) := by omega
      refine con_run Tryz.func56 rfl rfl (by simp [Tryz.ntmps56]) ?_
      simp only [argT, argA, fQ, xRet, rPs, xRes, flatA, rD, eq_self, xRun, vE, vP, vBin, vBinT, isAg, isBo, vLen, vChr, isCutO, isB, bv, gT, gW, gN, gV, isU, isPick, pkC, pkA, pkB, isCall, AS.pt, AS.kn, AS.ev, look, cav, avB, eatsOf, td0, td1, td2, td3, td4, td5, td6, Option.bind, Option.getD, Option.isSome, List.map, List.getElem?_cons_zero, List.getElem?_cons_succ, List.nodup_nil, ↓reduceIte, Nat.reduceLT, Nat.reduceEqDiff, Nat.zero_add, or_false, Bool.false_eq_true, reduceCtorEq, Int.toNat_zero, Int.le_refl, decide_true, decide_false, and_self, Nat.succ_ne_zero, h0, hB, hc, h1, eq_true h2, Tryz.ntmps56, Tryz.results56]
  · have h1 : ¬ (t.size : Int) < 1 := by omega
    have h2 : ¬ 6 < (t.size : Int) := by omega
    have hrd' := hrd hr
    refine con_run Tryz.func56 rfl rfl (by simp [Tryz.ntmps56]) ?_
    simp only [argT, argA, eq_self, xRun, vE, vP, vBin, vBinT, isAg, isBo, vLen, vChr, isCutO, isB, bv, gT, gW, gN, gV, isU, isPick, pkC, pkA, pkB, isCall, AS.pt, AS.kn, AS.ev, look, cav, avB, td0, td1, td2, td3, td4, td5, td6, Option.bind, Option.getD, Option.isSome, List.getElem?_cons_zero, List.getElem?_cons_succ, ↓reduceIte, Nat.reduceLT, Nat.reduceEqDiff, Nat.zero_add, true_and, Bool.false_eq_true, reduceCtorEq, Int.toNat_zero, Int.le_refl, decide_true, decide_false, and_self, Nat.succ_ne_zero, h0, hB, hc, h1, h2, Tryz.ntmps56]
    refine sw_loop (fun k : Nat => k ≤ t.size ∧ ∃ n, dvL (t.data.toList.take k) = some n) (fun k => ⟨63, [(9, .i k), (8, .i (dvN t k)), (7, .s t), (6, .b false), (0, .s t)], [], [], 0, []⟩) (fun k => t.size - k) 0 id ⟨Nat.zero_le _, _, rfl⟩ ?_ ?_
    · simp only [Sub, subT, subB, subO, subP, inj, AV.ren, AV.lt, eq_self, look, td0, td1, td2, td3, td4, td5, td6, List.map, List.nodup_nil, ↓reduceIte, Nat.reduceEqDiff, reduceCtorEq, Int.natCast_zero, and_self, Int.natCast_zero, show dvN t 0 = 0 from rfl]
    · rintro k ⟨hk, n, hn⟩
      have hN : dvN t k = n := by rw [dvN, hn]; rfl
      have hlt6 : n < 1000000 := Nat.lt_of_lt_of_le (dv_lt k _ (by rw [List.length_take, sz_toL]; omega) n hn) (show 10 ^ k ≤ 10 ^ 6 from Nat.pow_le_pow_right (by decide) (by omega))
      refine sw_run 200 _ _ _ ?_
      by_cases hlt : k < t.size
      · have hi : (k : Int) < (t.size : Int) := by omega
        have hBt : ((((t.data.getD k 0).toNat : Nat)) : Int) = byteI t k := rfl
        by_cases hd : 48 ≤ byteI t k ∧ byteI t k ≤ 57
        · have a1 : ¬ byteI t k < 48 := by omega
          have a2 : ¬ 57 < byteI t k := by omega
          have a3 : 0 ≤ byteI t k - 48 ∧ byteI t k - 48 < 256 := by omega
          have hst := dv_ok t k n hlt hn hd.1 hd.2
          have hN1 : ((dvN t (k + 1) : Nat) : Int) = 10 * (n : Int) + (byteI t k - 48) := by rw [dvN, hst]; show ((10 * n + ((byteI t k).toNat - 48) : Nat) : Int) = _; omega
          simp only [qLp, eq_self, xRun, vE, vP, vBin, vBinT, isAg, isBo, vLen, vChr, vCnv, isCutO, isB, bv, gT, gW, gN, gV, isU, isPick, pkC, pkB, isCall, AS.pt, AS.kn, AS.ev, look, cav, td0, td1, td2, td3, td4, td5, td6, Option.bind, Option.getD, Option.isSome, List.getElem?_cons_zero, List.getElem?_cons_succ, ↓reduceIte, Nat.reduceLT, Nat.reduceEqDiff, true_and, Bool.false_eq_true, Int.toNat_natCast, Int.natCast_nonneg, decide_true, decide_false, and_self, hi, hBt, a1, a2, a3, hN, qLp]
          refine ⟨by unfold inI; omega, ⟨by kernel_rfl, by unfold inI; omega⟩, by unfold inI; omega, by unfold inI; omega, k + 1, id, ⟨by omega, _, hst⟩, by omega, ?_⟩
          simp only [Sub, subT, subB, subO, subP, inj, AV.ren, AV.lt, eq_self, look, td0, td1, td2, td3, td4, td5, td6, List.map, List.nodup_nil, ↓reduceIte, Nat.reduceEqDiff, reduceCtorEq, and_self, cast1, hN1]
        · have hbad : dvL t.data.toList = none := dv_bad t k n hlt hn (by omega)
          have hr0 : rdP t = (0, false) := by rw [hrd', hbad]
          by_cases hd1 : byteI t k < 48
          · simp only [fQ, qLp, xRet, rPs, xRes, flatA, rD, eq_self, xRun, vE, vP, vBin, vBinT, isAg, isBo, vLen, vChr, isCutO, isB, bv, gT, gW, gN, gV, isU, isPick, pkC, pkA, isCall, AS.pt, AS.kn, AS.ev, look, cav, eatsOf, td0, td1, td2, td3, td4, td5, td6, Option.bind, Option.getD, Option.isSome, List.map, List.getElem?_cons_zero, List.getElem?_cons_succ, List.nodup_nil, ↓reduceIte, Nat.reduceLT, Nat.reduceEqDiff, or_false, Bool.not_false, Bool.false_eq_true, Bool.true_eq_false, reduceCtorEq, Int.toNat_natCast, Int.natCast_nonneg, decide_true, and_self, hi, hBt, eq_true hd1, hr0, Tryz.results56]
          · have hd2 : 57 < byteI t k := by omega
            simp only [fQ, qLp, xRet, rPs, xRes, flatA, rD, eq_self, xRun, vE, vP, vBin, vBinT, isAg, isBo, vLen, vChr, isCutO, isB, bv, gT, gW, gN, gV, isU, isPick, pkC, pkB, isCall, AS.pt, AS.kn, AS.ev, look, cav, eatsOf, td0, td1, td2, td3, td4, td5, td6, Option.bind, Option.getD, Option.isSome, List.map, List.getElem?_cons_zero, List.getElem?_cons_succ, List.nodup_nil, ↓reduceIte, Nat.reduceLT, Nat.reduceEqDiff, or_false, Bool.false_eq_true, reduceCtorEq, Int.toNat_natCast, Int.natCast_nonneg, decide_true, decide_false, and_self, hi, hBt, hd1, eq_true hd2, hr0, Tryz.results56]
      · have hi : ¬ (k : Int) < (t.size : Int) := by omega
        obtain rfl : k = t.size := by omega
        have hall : dvL t.data.toList = some n := by rw [← hn, ← sz_toL, List.take_length]
        have hF := con_FmtZ ((n : Int)) (by omega)
        rw [hall] at hrd'
        simp only [hv] at hrd'
        simp only [qLp, eq_self, xRun, vE, vP, vBin, vBinT, isAg, isBo, vLen, isCutO, isB, bv, gN, isPick, isCall, popTo, AS.pt, AS.ev, look, td0, td1, td2, td3, td4, td5, td6, Option.getD, Option.isSome, ↓reduceIte, Nat.reduceLT, Nat.reduceEqDiff, true_and, Bool.false_eq_true, decide_false, hi]
        refine sw_run 200 _ _ _ ?_
        skip
        have hin : inI ((n : Int)) := by unfold inI; omega
        simp only [eq_self, xRun, vE, vP, isCutO, isB, bv, gN, isPick, isCall, AS.pt, AS.ev, look, td0, td1, td2, td3, td4, td5, td6, Option.getD, ↓reduceIte, Nat.reduceLT, Nat.reduceEqDiff, true_and, Bool.false_eq_true, hN]
        refine sw_call hF rfl (aAs_ok ?_) ?_ (sw_run 200 _ _ _ ?_)
        · simp only [aAs, aA, aD, AS.ev, look, Option.getD, List.map, List.append_nil, ↓reduceIte, eq_self, and_self]
        · simp only [okR]
        by_cases he : numZ ((n : Int)) = t
        · rw [if_pos he] at hrd'
          simp only [mkR, flatD, packA, retA, List.headD_cons, fQ, xRet, rPs, xRes, flatA, rD, eq_self, xRun, vE, vP, vBin, vBinT, isAg, isBo, isCutO, isB, bv, gN, isPick, isCall, AS.pt, AS.ev, look, cav, eatsOf, td0, td1, td2, td3, td4, td5, td6, Option.getD, List.map, List.nodup_nil, ↓reduceIte, Nat.reduceLT, Nat.reduceEqDiff, ne_eq, not_true_eq_false, or_false, Bool.false_eq_true, reduceCtorEq, decide_false, and_self, eq_true he, hrd', Tryz.results56]
        · rw [if_neg he] at hrd'
          simp only [mkR, flatD, packA, retA, List.headD_cons, fQ, xRet, rPs, xRes, flatA, rD, eq_self, xRun, vE, vP, vBin, vBinT, isAg, isBo, isCutO, isB, bv, gN, isPick, isCall, AS.pt, AS.ev, look, cav, eatsOf, td0, td1, td2, td3, td4, td5, td6, Option.getD, List.map, List.nodup_nil, ↓reduceIte, Nat.reduceLT, Nat.reduceEqDiff, ne_eq, not_false_eq_true, or_false, Bool.false_eq_true, reduceCtorEq, decide_true, and_self, he, hrd', Tryz.results56]
theorem con_l1Read (s : ByteArray) (hz : s.size ≤ 1000000000) : Con Tryz.prog 56 [.one (.str s), .one (.int 6)] [.one (.int (rdP s).1), .one (.bool (rdP s).2)] := by
  by_cases h : s.size = 0
  · exact con_l1Read0 s h
  · by_cases hc : byteI s 0 = 45
    · exact con_l1ReadB s hz (by omega) hc
    · exact con_l1ReadC s hz (by omega) hc
theorem con_PNS (s : ByteArray) (hz : s.size ≤ 1000000000) : Con Tryz.prog 41 [.one (.str s)] [.one (.int (nsP s).1), .one (.bool (nsP s).2)] := by
  have hc := con_l1Read s hz
  have hn : nsP s = if (rdP s).2 = false ∨ (rdP s).1 < 0 then (0, false) else rdP s := rfl
  obtain ⟨⟨v, b⟩, hr⟩ : ∃ x, rdP s = x := ⟨_, rfl⟩
  rw [hr] at hn hc
  simp only at hn hc
  refine con_run Tryz.func41 rfl rfl (by simp [Tryz.ntmps41]) ?_
  simp only [argT, argA, eq_self, xRun, vE, vP, isCutO, gN, isPick, isCall, AS.pt, AS.ev, look, cav, avB, td0, td1, td2, td3, td4, td5, td6, Option.getD, ↓reduceIte, Nat.reduceLT, true_and, Bool.false_eq_true, reduceCtorEq, Tryz.ntmps41]
  refine sw_call hc rfl (aAs_ok ?_) ?_ (sw_run 200 _ _ _ ?_)
  · simp only [aAs, aA, aD, AS.ev, look, cav, Option.getD, List.map, List.append_nil, ↓reduceIte, eq_self, and_self]
  · simp only [okR]
  cases b
  · rw [if_pos (Or.inl rfl)] at hn
    simp only [mkR, flatD, packA, retA, List.headD_cons, List.tail_cons, fQ, xRet, rPs, xRes, flatA, rD, eq_self, xRun, vE, vP, vNot, vExt, isCutO, isB, bv, gT, gW, gN, gV, isU, isPick, pkC, pkA, isCall, AS.pt, AS.kn, AS.ev, look, cav, eatsOf, td0, td1, td2, td3, td4, td5, td6, Option.bind, Option.getD, Option.isSome, List.map, List.getElem?_cons_zero, List.getElem?_cons_succ, List.nodup_nil, ↓reduceIte, Nat.reduceLT, Nat.reduceEqDiff, or_false, Bool.not_false, Bool.false_eq_true, Bool.true_eq_false, reduceCtorEq, and_self, hn, Tryz.results41]
  · by_cases hv : v < 0
    · rw [if_pos (Or.inr hv)] at hn
      simp only [mkR, flatD, packA, retA, List.headD_cons, List.tail_cons, fQ, xRet, rPs, xRes, flatA, rD, eq_self, xRun, vE, vP, vBin, vBinT, isAg, isBo, vNot, vExt, isCutO, isB, bv, gT, gW, gN, gV, isU, isPick, pkC, pkB, isCall, AS.pt, AS.kn, AS.ev, look, cav, eatsOf, td0, td1, td2, td3, td4, td5, td6, Option.bind, Option.getD, Option.isSome, List.map, List.getElem?_cons_zero, List.getElem?_cons_succ, List.nodup_nil, ↓reduceIte, Nat.reduceLT, Nat.reduceEqDiff, or_false, Bool.not_true, Bool.false_eq_true, reduceCtorEq, decide_true, and_self, hn, eq_true hv, Tryz.results41]
    · rw [if_neg (by rintro (h | h); cases h; exact hv h)] at hn
      simp only [mkR, flatD, packA, retA, List.headD_cons, List.tail_cons, fQ, xRet, rPs, xRes, flatA, rD, eq_self, xRun, vE, vP, vBin, vBinT, isAg, isBo, vNot, vExt, isCutO, isB, bv, gT, gW, gN, gV, isU, isPick, pkC, pkB, isCall, AS.pt, AS.kn, AS.ev, look, cav, eatsOf, td0, td1, td2, td3, td4, td5, td6, Option.bind, Option.getD, Option.isSome, List.map, List.getElem?_cons_zero, List.getElem?_cons_succ, List.nodup_nil, ↓reduceIte, Nat.reduceLT, Nat.reduceEqDiff, or_false, Bool.not_true, Bool.false_eq_true, reduceCtorEq, decide_false, and_self, hn, hv, Tryz.results41]
theorem con_SplitS (s : ByteArray) (c : UInt8) (hz : s.size ≤ 1000000000) : Con Tryz.prog 39 [.one (.str s), .one (.byt c.toNat)] [.one (strsD (splB s c))] := by
  have hin : inI ((s.size : Int) + 1) := by unfold inI; omega
  refine con_run Tryz.func39 rfl rfl (by simp [Tryz.ntmps39]) ?_
  simp only [argT, argA, strsD, eq_self, xRun, vE, vP, vRow, isCutO, xFill, gN, isPick, isCall, AS.pt, AS.ev, AS.mk', kill, look, cav, avB, cDs, eatsOf, td0, td1, td2, td3, td4, td5, td6, Option.getD, Option.isSome, List.map, List.foldr, List.all, List.replicate, List.nodup_nil, ↓reduceIte, Nat.reduceLT, Nat.zero_add, Nat.mul_one, true_and, or_true, Bool.false_eq_true, and_self, Nat.zero_le, Tryz.ntmps39]
  refine sw_loop (fun k : Nat => k ≤ s.size + 1) (fun k => ⟨36, [(7, .i k), (6, .i (spl s c k).2), (5, .sl 0), (1, .y c.toNat), (0, .s s)], [], [(0, some ⟨.rows 1 (spl s c k).1.length ((spl s c k).1.map D.str), some 9, true⟩)], 1, []⟩) (fun k => s.size + 1 - k) 0 id (Nat.zero_le _) ?_ ?_
  · simp only [Sub, subT, subB, subO, subP, inj, AV.ren, AV.lt, eq_self, AS.owf, look, td0, td1, td2, td3, td4, td5, td6, Option.bind, List.map, List.not_mem_nil, List.nodup_cons, List.nodup_nil, ↓reduceIte, Nat.reduceLT, Nat.reduceEqDiff, not_false_eq_true, id_eq, reduceCtorEq, Int.natCast_zero, and_self, Nat.succ_ne_zero, Int.natCast_zero, spl, List.length_nil, List.map_nil]
  · rintro k hk
    obtain ⟨hl1, hl2⟩ := spl_len s c k
    have hstep : spl s c (k + 1) = if k = s.size ∨ byteI s k = (c.toNat : Int) then ((spl s c k).1 ++ [s.extract (spl s c k).2 k], k + 1) else spl s c k := rfl
    refine sw_run 200 _ _ _ ?_
    by_cases hlt : k ≤ s.size
    · have hi : (k : Int) ≤ (s.size : Int) := by omega
      have hi2 : ((spl s c k).2 : Int) ≤ (k : Int) := by omega
      have hBt : ((((s.data.getD k 0).toNat : Nat)) : Int) = byteI s k := rfl
      by_cases hE : (k : Int) = (s.size : Int)
      · have hs1 : (spl s c (k + 1)) = ((spl s c k).1 ++ [s.extract (spl s c k).2 k], k + 1) := by rw [hstep, if_pos (Or.inl (by omega))]
        simp only [qLp, eq_self, xRun, vE, vP, vBin, vBinT, isAg, isBo, vLen, vCut, vSlc, vRow, vApp, apP, apC, isCl, isCutO, xFill, appL, appR, ixL, ixH, isB, bv, gT, gW, gN, gV, isU, isPick, pkC, pkA, isCall, AS.pt, AS.kn, AS.ev, AS.mk', AS.owf, kill, look, cav, setRowG, AV.cells, AV.whole, AV.one, cD, cDs, eatsOf, dpOf, td0, td1, td2, td3, td4, td5, td6, Option.bind, Option.getD, Option.map, Option.isSome, List.map, List.length, List.getElem?_cons_zero, List.getElem?_cons_succ, List.set, List.foldr, List.all, List.replicate, List.mem_cons, List.not_mem_nil, List.nodup_nil, List.nil_append, List.cons_append, ↓reduceIte, Nat.reduceLT, Nat.reduceAdd, Nat.reduceLeDiff, Nat.reduceEqDiff, Nat.zero_add, Nat.mul_one, true_and, or_false, or_true, Bool.and_true, Bool.not_false, Bool.false_eq_true, Bool.true_eq_false, id_eq, reduceCtorEq, Int.toNat_natCast, Int.natCast_nonneg, decide_true, and_self, Nat.succ_ne_zero, Nat.le_refl, hi, hi2, eq_true hE, qLp]
        refine ⟨⟨fun h => h.elim, fun o ho => by omega, by unfold maxLen; omega, by omega⟩, by unfold inI; omega, by unfold inI; omega, k + 1, rn1 0 2, by omega, by omega, ?_⟩
        simp only [Sub, subT, subB, subO, subP, inj, AV.ren, AV.lt, eq_self, AS.owf, look, td0, td1, td2, td3, td4, td5, td6, Option.bind, List.map, List.length, List.not_mem_nil, List.nodup_cons, List.nodup_nil, ↓reduceIte, Nat.reduceLT, Nat.reduceEqDiff, Nat.zero_add, not_false_eq_true, id_eq, reduceCtorEq, and_self, rn1, hs1, cast1, List.length_append, List.map_append, List.map_cons, List.map_nil, Nat.zero_add]
      · have hlt2 : (k : Int) < (s.size : Int) := by omega
        by_cases hc : byteI s k = (c.toNat : Int)
        · have hs1 : (spl s c (k + 1)) = ((spl s c k).1 ++ [s.extract (spl s c k).2 k], k + 1) := by rw [hstep, if_pos (Or.inr hc)]
          simp only [qLp, eq_self, xRun, vE, vP, vBin, vBinT, isAg, isBo, vLen, vChr, vCut, vSlc, vRow, vApp, apP, apC, isCl, isCutO, xFill, appL, appR, ixL, ixH, isB, bv, gT, gW, gN, gV, isU, isPick, pkC, pkB, isCall, AS.pt, AS.kn, AS.ev, AS.mk', AS.owf, kill, look, cav, setRowG, AV.cells, AV.whole, AV.one, cD, cDs, eatsOf, dpOf, td0, td1, td2, td3, td4, td5, td6, Option.bind, Option.getD, Option.map, Option.isSome, List.map, List.length, List.getElem?_cons_zero, List.getElem?_cons_succ, List.set, List.foldr, List.all, List.replicate, List.mem_cons, List.not_mem_nil, List.nodup_nil, List.nil_append, List.cons_append, ↓reduceIte, Nat.reduceLT, Nat.reduceAdd, Nat.reduceLeDiff, Nat.reduceEqDiff, Nat.zero_add, Nat.mul_one, true_and, or_false, or_true, Bool.and_true, Bool.false_eq_true, id_eq, reduceCtorEq, Int.toNat_natCast, Int.natCast_nonneg, decide_true, decide_false, and_self, Nat.succ_ne_zero, Nat.le_refl, hi, hi2, hE, hlt2, hBt, eq_true hc, qLp]
          refine ⟨⟨fun h => h.elim, fun o ho => by omega, by unfold maxLen; omega, by omega⟩, by unfold inI; omega, by unfold inI; omega, k + 1, rn1 0 2, by omega, by omega, ?_⟩
          simp only [Sub, subT, subB, subO, subP, inj, AV.ren, AV.lt, eq_self, AS.owf, look, td0, td1, td2, td3, td4, td5, td6, Option.bind, List.map, List.length, List.not_mem_nil, List.nodup_cons, List.nodup_nil, ↓reduceIte, Nat.reduceLT, Nat.reduceEqDiff, Nat.zero_add, not_false_eq_true, id_eq, reduceCtorEq, and_self, rn1, hs1, cast1, List.length_append, List.map_append, List.map_cons, List.map_nil, Nat.zero_add]
        · have hs1 : (spl s c (k + 1)) = spl s c k := by rw [hstep, if_neg (by rintro (h | h); omega; exact hc h)]
          simp only [qLp, eq_self, xRun, vE, vP, vBin, vBinT, isAg, isBo, vLen, vChr, isCutO, isB, bv, gT, gW, gN, gV, isU, isPick, pkC, pkB, isCall, AS.pt, AS.kn, AS.ev, look, cav, td0, td1, td2, td3, td4, td5, td6, Option.bind, Option.getD, Option.isSome, List.getElem?_cons_zero, List.getElem?_cons_succ, ↓reduceIte, Nat.reduceLT, Nat.reduceEqDiff, true_and, Bool.false_eq_true, reduceCtorEq, Int.toNat_natCast, Int.natCast_nonneg, decide_true, decide_false, and_self, hi, hE, hlt2, hBt, hc, qLp]
          refine ⟨by unfold inI; omega, k + 1, id, by omega, by omega, ?_⟩
          simp only [Sub, subT, subB, subO, subP, inj, AV.ren, AV.lt, eq_self, AS.owf, look, td0, td1, td2, td3, td4, td5, td6, Option.bind, List.map, List.not_mem_nil, List.nodup_cons, List.nodup_nil, ↓reduceIte, Nat.reduceLT, Nat.reduceEqDiff, not_false_eq_true, id_eq, reduceCtorEq, and_self, cast1, hs1]
    · have hi : ¬ (k : Int) ≤ (s.size : Int) := by omega
      obtain rfl : k = s.size + 1 := by omega
      simp only [qLp, eq_self, xRun, vE, vP, vBin, vBinT, isAg, isBo, vLen, isCutO, isB, bv, gN, isPick, isCall, popTo, AS.pt, AS.ev, look, td0, td1, td2, td3, td4, td5, td6, Option.getD, Option.isSome, ↓reduceIte, Nat.reduceLT, Nat.reduceEqDiff, true_and, Bool.false_eq_true, reduceCtorEq, decide_false, hi]
      refine sw_run 200 _ _ _ ?_
      simp only [fQ, xRet, rPs, xRes, flatA, rD, eq_self, xRun, vE, vP, isCutO, gN, isPick, isCall, AS.pt, AS.ev, AS.owf, look, eatsOf, td0, td1, td2, td3, td4, td5, td6, Option.bind, Option.getD, List.map, List.not_mem_nil, List.nodup_cons, List.nodup_nil, ↓reduceIte, Nat.reduceLT, Nat.reduceEqDiff, not_false_eq_true, or_false, Bool.false_eq_true, id_eq, reduceCtorEq, and_self, splB, Tryz.results39]
end Go.Proofs.YtfbjdeeomjfhkaaGreatDoor
/-
  Reading of numbers and cutting of texts: the program's side.
-/
namespace Go.Proofs.YtfbjdeeomjfhkaaGreatDoor
open Go.RowKit
set_option linter.unusedVariables false
set_option linter.unusedSimpArgs false
set_option maxRecDepth 20000
theorem cut_below {w : World} {n : Nat} : Below w.heap.size w (w.drewN n) := ⟨rfl, rfl, rfl, Nat.le_refl _, fun j hj => rfl⟩
theorem raw_FmtI (v : Int) (h0 : -9223372036854775808 ≤ v) (h1 : v ≤ 9223372036854775807) (w : World) (hg : GI w) :
    Calls Tryz.prog 29 #[.int .i64 v] w fun e w' => e = .returned (.string ⟨(Lib.itoa v).toArray⟩) ∧ Below w.heap.size w w' := by
  go_enter Tryz.func29, Tryz.ntmps29
  go_wp2_with fail
  refine (Tryz.YtfbjdeeomjfhkaaGreatDoorstrconv_Itoa v h0 h1 w hg.2.1).mono ?_
  rintro e w' ⟨rfl, k, os, rfl⟩
  go_wp2
  go_ret
  exact ⟨rfl, fmt_below⟩
theorem raw_within (v : Int) (w : World) (hg : GI w) :
    Calls Tryz.prog 36 #[.int .i64 v, .int .i64 0, .int .i64 999999] w fun e w' => e = .returned (.bool (decide (0 ≤ v) && decide (v ≤ 999999))) ∧ Below w.heap.size w w' := by
  refine (con_one (con_within v 0 999999) (rpd_cons (rpd_int _) (rpd_cons (rpd_int _) (rpd_cons (rpd_int _) (rpd_nil _))))).mono ?_
  rintro e w' ⟨u, rfl, hu, hb⟩
  obtain rfl := fresh_bool hu
  exact ⟨rfl, hb⟩
theorem raw_readInt (s : ByteArray) (hz : s.size ≤ 1000000000) (w : World) (hg : GI w) :
    Calls Tryz.prog 54 #[.string s, .int .i64 0, .int .i64 999999] w fun e w' => e = .returned (.tuple #[.int .i64 (niI s), .bool (noI s)]) ∧ Below w.heap.size w w' := by
  go_enter Tryz.func54, Tryz.ntmps54
  go_wp2_with fail
  cases h : Lib.atoiAll s.data.toList with
  | «syntax» =>
    obtain ⟨ev, hv, hev⟩ := (hg.2.2 rfl).2.1
    refine (Tryz.YtfbjdeeomjfhkaaGreatDoorstrconv_Atoi_syntax s (by omega) h ev w hv hev).mono ?_
    rintro e w' ⟨N, rfl, _, _, hb⟩
    go_wp2
    go_ret2
    exact ⟨by rw [niI, noI, h]; rfl, hb⟩
  | range =>
    obtain ⟨ev, hv, hev⟩ := (hg.2.2 rfl).2.2
    refine (Tryz.YtfbjdeeomjfhkaaGreatDoorstrconv_Atoi_range s (by omega) h ev w hv hev).mono ?_
    rintro e w' ⟨N, rfl, _, _, hb⟩
    go_wp2
    go_ret2
    exact ⟨by rw [niI, noI, h]; rfl, hb⟩
  | ok v =>
    have hbd := Lib.atoiAll_bounds h
    refine (Tryz.YtfbjdeeomjfhkaaGreatDoorstrconv_Atoi_ok s (by omega) v h w).mono ?_
    rintro e w' ⟨rfl, hw'⟩
    have hb : Below w.heap.size w w' := by
      rcases hw' with rfl | ⟨t, rfl⟩
      · exact Below.refl _ _
      · exact Joins.below_bytesWorld _ _ _ _ (Nat.le_refl _)
    clear hw'
    have hg' := GI_bel hg hb
    go_wp2_with fail
    refine (raw_FmtI v hbd.1 hbd.2 w' hg').mono ?_
    rintro e w2 ⟨rfl, hb2⟩
    have hb02 := hb.trans (hb2.mono hb.size)
    have hg2 := GI_bel hg' hb2
    have hn1 : niI s = if Lib.itoa v = s.data.toList ∧ 0 ≤ v ∧ v ≤ 999999 then v else 0 := by rw [niI, h]
    have hn2 : noI s = decide (Lib.itoa v = s.data.toList ∧ 0 ≤ v ∧ v ≤ 999999) := by rw [noI, h]
    by_cases he : Lib.itoa v = s.data.toList
    · have hq : (Lib.itoa v == s.toList) = true := by
        rw [he]; exact beq_iff_eq.2 (ByteArray.toList_eq s).symm
      go_wp2_with fail
      refine (raw_within v w2 hg2).mono ?_
      rintro e w3 ⟨rfl, hb3⟩
      have hb03 := hb02.trans (hb3.mono (hb02.size))
      by_cases hw : 0 ≤ v ∧ v ≤ 999999
      · have hd1 : (decide (0 ≤ v) && decide (v ≤ 999999)) = true := by simp [hw]
        rw [if_pos ⟨he, hw⟩] at hn1
        rw [decide_eq_true ⟨he, hw⟩] at hn2
        go_wp2
        go_ret2
        exact ⟨by rw [hn1, hn2]; rfl, hb03⟩
      · have hd1 : (decide (0 ≤ v) && decide (v ≤ 999999)) = false := by
          rw [Bool.eq_false_iff]; intro h'; simp at h'; exact hw h'
        rw [if_neg (fun h' => hw h'.2)] at hn1
        rw [decide_eq_false (fun h' => hw h'.2)] at hn2
        go_wp2
        go_ret2
        exact ⟨by rw [hn1, hn2]; rfl, hb03⟩
    · have hq : (Lib.itoa v == s.toList) = false := by
        rw [Bool.eq_false_iff]; intro h'; exact he ((beq_iff_eq.1 h').trans (ByteArray.toList_eq s))
      rw [if_neg (fun h' => he h'.1)] at hn1
      rw [decide_eq_false (fun h' => he h'.1)] at hn2
      go_wp2
      go_ret2
      exact ⟨by rw [hn1, hn2]; rfl, hb02⟩
theorem raw_PN (s : ByteArray) (hz : s.size ≤ 1000000000) (w : World) (hg : GI w) :
    Calls Tryz.prog 32 #[.string s] w fun e w' => e = .returned (.tuple #[.int .i64 (niI s), .bool (noI s)]) ∧ Below w.heap.size w w' := by
  go_enter Tryz.func32, Tryz.ntmps32
  go_wp2_with fail
  refine (raw_readInt s hz w hg).mono ?_
  rintro e w' ⟨rfl, hb⟩
  go_wp2
  go_ret2
  exact ⟨rfl, hb⟩
theorem freshL_nil (w : World) (B : Nat) : FreshL w B [] [] := ⟨[], by unfold OwnVs; exact ⟨rfl, rfl⟩, by simp, by simp⟩
theorem freshL_prim {w : World} {B : Nat} {d : D} {v : Value} {ds : List D} {vs : List Value} (hp : OwnV w d v []) (h : FreshL w B ds vs) : FreshL w B (d :: ds) (v :: vs) := by
  obtain ⟨fp, h1, h2, h3⟩ := h
  exact ⟨fp, by unfold OwnVs; exact ⟨v, vs, [], fp, rfl, rfl, hp, h1⟩, h2, h3⟩
theorem ov_i (w : World) (n : Int) : OwnV w (.int n) (.int .i64 n) [] := by unfold OwnV; exact ⟨rfl, rfl⟩
theorem ov_b (w : World) (n : Bool) : OwnV w (.bool n) (.bool n) [] := by unfold OwnV; exact ⟨rfl, rfl⟩
theorem ov_s (w : World) (n : ByteArray) : OwnV w (.str n) (.string n) [] := by unfold OwnV; exact ⟨rfl, rfl⟩
theorem rpd_istr {w : World} {n : ByteArray} {v : Value} (h : RepPD w (.one (.str n)) v) : v = .string n := by unfold RepPD RepV at h; exact h
theorem con_PNI (s : ByteArray) (hz : s.size ≤ 1000000000) : Con Tryz.prog 32 [.one (.str s)] [.one (.int (niI s)), .one (.bool (noI s))] := by
  refine ⟨⟨_, rfl, by kernel_rfl, by kernel_rfl⟩, fun w us hg hu => ?_⟩
  obtain ⟨v, r, rfl, h1, h2⟩ := rpd_c hu
  obtain rfl := rpd_n h2
  obtain rfl := rpd_istr h1
  refine (raw_PN s hz w hg).mono ?_
  rintro e w' ⟨rfl, hb⟩
  exact ⟨hb, [.int .i64 (niI s), .bool (noI s)], rfl, by simpa [flatD] using freshL_prim (ov_i _ _) (freshL_prim (ov_b _ _) (freshL_nil _ _))⟩
def cutA (s : ByteArray) (c : UInt8) : ByteArray := ⟨(Lib.cut s.data.toList [c]).1.toArray⟩
def cutZ (s : ByteArray) (c : UInt8) : ByteArray := ⟨(Lib.cut s.data.toList [c]).2.1.toArray⟩
def cutO (s : ByteArray) (c : UInt8) : Bool := (Lib.cut s.data.toList [c]).2.2
theorem con_Cut (s : ByteArray) (c : UInt8) (hz : s.size ≤ 1000000000) : Con Tryz.prog 30 [.one (.str s), .one (.str ⟨#[c]⟩)] [.one (.str (cutA s c)), .one (.str (cutZ s c)), .one (.bool (cutO s c))] := by
  refine ⟨⟨_, rfl, by kernel_rfl, by kernel_rfl⟩, fun w us hg hu => ?_⟩
  obtain ⟨v, r, rfl, h1, h2⟩ := rpd_c hu
  obtain ⟨v2, r2, rfl, h3, h4⟩ := rpd_c h2
  obtain rfl := rpd_n h4
  obtain rfl := rpd_istr h1
  obtain rfl := rpd_istr h3
  obtain ⟨m, hm⟩ := (hg.2.2 rfl).1
  refine (Tryz.YtfbjdeeomjfhkaaGreatDoorstrings_Cut s ⟨#[c]⟩ m w (by omega) hm).mono ?_
  rintro e w' ⟨rfl, n, rfl⟩
  exact ⟨cut_below, [.string (cutA s c), .string (cutZ s c), .bool (cutO s c)], rfl, by simpa [flatD] using freshL_prim (ov_s _ _) (freshL_prim (ov_s _ _) (freshL_prim (ov_b _ _) (freshL_nil _ _)))⟩
end Go.Proofs.YtfbjdeeomjfhkaaGreatDoor
/-
  ParseInstr of both sides: the valid instruction whose text is given.
-/
namespace Go.Proofs.YtfbjdeeomjfhkaaGreatDoor
open Go.RowKit
set_option linter.unusedVariables false
set_option linter.unusedSimpArgs false
set_option maxRecDepth 20000
theorem ba_ext {a b : ByteArray} (h : a.data.toList = b.data.toList) : a = b := by
  obtain ⟨⟨l⟩⟩ := a
  obtain ⟨⟨m⟩⟩ := b
  exact congrArg _ (congrArg _ h)
/-- What the program reads out of a text. -/
def opI (s : ByteArray) : Int := fi (cutA s 32) wordsL 0 + 1
def cI (s : ByteArray) : Ins := ⟨opI s, if opI s = 4 then fi (cutZ s 32) opsL 0 + 1 else if opI s < 9 then niI (cutZ s 32) else 0⟩
/-- What the reference reads. -/
def opS (s : ByteArray) : Int := fi (splB s 32)[0]! wordsL 0 + 1
def cS (s : ByteArray) : Ins := ⟨opS s, if (splB s 32).length = 2 ∧ opS s = 4 then fi (splB s 32)[1]! opsL 0 + 1 else if (splB s 32).length = 2 then (nsP (splB s 32)[1]!).1 else 0⟩
theorem word_fi : ∀ n : Nat, 1 ≤ n → n ≤ 12 → fi (wordB n) wordsL 0 + 1 = (n : Int) := by
  intro n h1 h2
  rcases (show n = 1 ∨ n = 2 ∨ n = 3 ∨ n = 4 ∨ n = 5 ∨ n = 6 ∨ n = 7 ∨ n = 8 ∨ n = 9 ∨ n = 10 ∨ n = 11 ∨ n = 12 by omega) with rfl | rfl | rfl | rfl | rfl | rfl | rfl | rfl | rfl | rfl | rfl | rfl <;> decide +kernel
theorem word_no : ∀ n : Nat, 1 ≤ n → n ≤ 12 → (32 : UInt8) ∉ (wordB n).data.toList := by
  intro n h1 h2
  rcases (show n = 1 ∨ n = 2 ∨ n = 3 ∨ n = 4 ∨ n = 5 ∨ n = 6 ∨ n = 7 ∨ n = 8 ∨ n = 9 ∨ n = 10 ∨ n = 11 ∨ n = 12 by omega) with rfl | rfl | rfl | rfl | rfl | rfl | rfl | rfl | rfl | rfl | rfl | rfl <;> decide +kernel
theorem op_fi : ∀ n : Nat, 1 ≤ n → n ≤ 8 → fi (opB n) opsL 0 + 1 = (n : Int) := by
  intro n h1 h2
  rcases (show n = 1 ∨ n = 2 ∨ n = 3 ∨ n = 4 ∨ n = 5 ∨ n = 6 ∨ n = 7 ∨ n = 8 by omega) with rfl | rfl | rfl | rfl | rfl | rfl | rfl | rfl <;> decide +kernel
theorem op_no : ∀ n : Nat, 1 ≤ n → n ≤ 8 → (32 : UInt8) ∉ (opB n).data.toList := by
  intro n h1 h2
  rcases (show n = 1 ∨ n = 2 ∨ n = 3 ∨ n = 4 ∨ n = 5 ∨ n = 6 ∨ n = 7 ∨ n = 8 by omega) with rfl | rfl | rfl | rfl | rfl | rfl | rfl | rfl <;> decide +kernel
theorem num_no (n : Nat) : (32 : UInt8) ∉ (numL n).data.toList := fun h => by
  have := dd_dig n 32 h
  have e : (32 : UInt8).toNat = 32 := rfl
  omega
/-- The rest of a valid instruction's text. -/
def restB (x : Ins) : ByteArray := if x.op = 4 then opB x.a else numL x.a.toNat
theorem it_two {x : Ins} (h : insB x = true) (h9 : x.op < 9) : (itB x).data.toList = (wordB x.op).data.toList ++ 32 :: (restB x).data.toList := by
  rw [itB, if_pos h, if_neg (by omega), restB]
  simp
theorem it_one {x : Ins} (h : insB x = true) (h9 : 9 ≤ x.op) : itB x = wordB x.op := by rw [itB, if_pos h, if_pos h9]
theorem rest_no {x : Ins} (h : insB x = true) (h9 : x.op < 9) : (32 : UInt8) ∉ (restB x).data.toList := by
  obtain ⟨h1, h2, h3, h4⟩ := ins_cases h
  unfold restB
  split
  · rw [show x.a = ((x.a.toNat : Nat) : Int) by omega]; exact op_no _ (by omega) (by omega)
  · exact num_no _
theorem spl_two {s a b : ByteArray} {c : UInt8} (h : s.data.toList = a.data.toList ++ c :: b.data.toList) (ha : c ∉ a.data.toList) (hb : c ∉ b.data.toList) : splB s c = [a, b] := by
  have e := splB_L s c
  rw [h, splL_in c _ _ ha, splL_no c _ hb] at e
  match hs : splB s c, e with
  | [x, y], e =>
    simp only [List.map_cons, List.map_nil, List.cons.injEq, and_true] at e
    rw [ba_ext e.1, ba_ext e.2]
  | [], e => simp at e
  | [_], e => simp at e
  | _ :: _ :: _ :: _, e => simp at e
theorem spl_one {s : ByteArray} {c : UInt8} (ha : c ∉ s.data.toList) : splB s c = [s] := by
  have e := splB_L s c
  rw [splL_no c _ ha] at e
  match hs : splB s c, e with
  | [x], e =>
    simp only [List.map_cons, List.map_nil, List.cons.injEq, and_true] at e
    rw [ba_ext e]
  | [], e => simp at e
  | _ :: _ :: _, e => simp at e
theorem cut_two {s a b : ByteArray} {c : UInt8} (h : s.data.toList = a.data.toList ++ c :: b.data.toList) (ha : c ∉ a.data.toList) : cutA s c = a ∧ cutZ s c = b := by
  rw [cutA, cutZ, h, cut_in c _ _ ha]
  exact ⟨rfl, rfl⟩
theorem cut_one {s : ByteArray} {c : UInt8} (ha : c ∉ s.data.toList) : cutA s c = s := by
  rw [cutA, cut_no c _ ha]
theorem cI_it {x : Ins} (h : insB x = true) : cI (itB x) = x := by
  obtain ⟨h1, h2, h3, h4⟩ := ins_cases h
  have hop : x.op = ((x.op.toNat : Nat) : Int) := by omega
  have hw : (32 : UInt8) ∉ (wordB x.op).data.toList := by rw [hop]; exact word_no _ (by omega) (by omega)
  have hf : fi (wordB x.op) wordsL 0 + 1 = x.op := by
    have := word_fi x.op.toNat (by omega) (by omega)
    rwa [← hop] at this
  by_cases h9 : x.op < 9
  · obtain ⟨e1, e2⟩ := cut_two (it_two h h9) hw
    have ho : opI (itB x) = x.op := by rw [opI, e1, hf]
    obtain ⟨op, a⟩ := x
    simp only [cI, ho, e2, restB, Ins.mk.injEq, true_and] at *
    by_cases h4' : op = 4
    · rw [if_pos h4', if_pos h4']
      have := op_fi a.toNat (by omega) (by omega)
      rwa [show ((a.toNat : Nat) : Int) = a by omega] at this
    · rw [if_neg h4', if_neg h4', if_pos h9, niI_num _ (by omega)]
      omega
  · have e1 : cutA (itB x) 32 = wordB x.op := by rw [it_one h (by omega)]; exact cut_one hw
    have ho : opI (itB x) = x.op := by rw [opI, e1, hf]
    have ha : x.a = 0 := by
      unfold insB at h
      rw [if_neg (by omega), if_neg (by omega), if_neg (by omega), if_neg (by omega)] at h
      simp only [Bool.and_eq_true, decide_eq_true_eq] at h
      exact h.2
    obtain ⟨op, a⟩ := x
    simp only [cI, ho, Ins.mk.injEq, true_and] at *
    rw [if_neg (by omega), if_neg h9, ha]
theorem cS_it {x : Ins} (h : insB x = true) : cS (itB x) = x := by
  obtain ⟨h1, h2, h3, h4⟩ := ins_cases h
  have hop : x.op = ((x.op.toNat : Nat) : Int) := by omega
  have hw : (32 : UInt8) ∉ (wordB x.op).data.toList := by rw [hop]; exact word_no _ (by omega) (by omega)
  have hf : fi (wordB x.op) wordsL 0 + 1 = x.op := by
    have := word_fi x.op.toNat (by omega) (by omega)
    rwa [← hop] at this
  by_cases h9 : x.op < 9
  · have e1 := spl_two (it_two h h9) hw (rest_no h h9)
    have ho : opS (itB x) = x.op := by rw [opS, e1]; exact hf
    obtain ⟨op, a⟩ := x
    simp only [cS, ho, e1, List.length_cons, List.length_nil, Ins.mk.injEq, true_and] at *
    show (if op = 4 then fi (restB ⟨op, a⟩) opsL 0 + 1 else if True then (nsP (restB ⟨op, a⟩)).1 else 0) = a
    by_cases h4' : op = 4
    · rw [if_pos h4', restB, if_pos h4']
      have := op_fi a.toNat (by omega) (by omega)
      rwa [show ((a.toNat : Nat) : Int) = a by omega] at this
    · rw [if_neg h4', if_pos trivial, restB, if_neg h4', nsP_num _ (by show a.toNat ≤ _; omega)]
      show ((a.toNat : Nat) : Int) = a
      omega
  · have e1 : splB (itB x) 32 = [wordB x.op] := by rw [it_one h (by omega)]; exact spl_one hw
    have ho : opS (itB x) = x.op := by rw [opS, e1]; exact hf
    have ha : x.a = 0 := by
      unfold insB at h
      rw [if_neg (by omega), if_neg (by omega), if_neg (by omega), if_neg (by omega)] at h
      simp only [Bool.and_eq_true, decide_eq_true_eq] at h
      exact h.2
    obtain ⟨op, a⟩ := x
    simp only [cS, ho, e1, List.length_cons, List.length_nil, Ins.mk.injEq, true_and] at *
    rw [if_neg (by omega), if_neg (by omega), ha]
/-- What ParseInstr gives. -/
def piX (s : ByteArray) : Ins := if insB (cI s) = true ∧ itB (cI s) = s then cI s else ⟨0, 0⟩
def piO (s : ByteArray) : Bool := decide (insB (cI s) = true ∧ itB (cI s) = s)
theorem pi_S (s : ByteArray) : (if insB (cS s) = true ∧ itB (cS s) = s then cS s else ⟨0, 0⟩) = piX s ∧ decide (insB (cS s) = true ∧ itB (cS s) = s) = piO s := by
  unfold piX piO
  by_cases h : insB (cI s) = true ∧ itB (cI s) = s
  · have e : cS s = cI s := by
      have := cS_it h.1
      rwa [h.2] at this
    rw [e]; exact ⟨rfl, rfl⟩
  · by_cases h2 : insB (cS s) = true ∧ itB (cS s) = s
    · exfalso
      have e := cI_it h2.1
      rw [h2.2] at e
      rw [e] at h
      exact h h2
    · rw [if_neg h, if_neg h2, decide_eq_false h, decide_eq_false h2]; exact ⟨rfl, rfl⟩
theorem word_ne : ∀ n : Nat, 1 ≤ n → n ≤ 12 → 0 < (wordB n).size := by
  intro n h1 h2
  rcases (show n = 1 ∨ n = 2 ∨ n = 3 ∨ n = 4 ∨ n = 5 ∨ n = 6 ∨ n = 7 ∨ n = 8 ∨ n = 9 ∨ n = 10 ∨ n = 11 ∨ n = 12 by omega) with rfl | rfl | rfl | rfl | rfl | rfl | rfl | rfl | rfl | rfl | rfl | rfl <;> decide +kernel
theorem it_ne {x : Ins} (h : insB x = true) : itB x ≠ ⟨#[]⟩ := fun e => by
  obtain ⟨h1, h2, h3, h4⟩ := ins_cases h
  have hw := word_ne x.op.toNat (by omega) (by omega)
  rw [show ((x.op.toNat : Nat) : Int) = x.op by omega] at hw
  have e2 : (itB x).size = 0 := by rw [e]; rfl
  rw [itB, if_pos h] at e2
  split at e2
  · omega
  · simp only [ByteArray.size_append] at e2; omega
theorem pi_e {s : ByteArray} (h : s = ⟨#[]⟩) : piX s = ⟨0, 0⟩ ∧ piO s = false := by
  have hn : ¬ (insB (cI s) = true ∧ itB (cI s) = s) := fun ⟨h1, h2⟩ => it_ne h1 (h2.trans h)
  exact ⟨if_neg hn, decide_eq_false hn⟩
theorem pi_n {s : ByteArray} (h : ¬ itB (cI s) = s) : piX s = ⟨0, 0⟩ ∧ piO s = false := by
  have hn : ¬ (insB (cI s) = true ∧ itB (cI s) = s) := fun h' => h h'.2
  exact ⟨if_neg hn, decide_eq_false hn⟩
theorem pi_y {s : ByteArray} (h0 : ¬ s = ⟨#[]⟩) (h : itB (cI s) = s) : piX s = cI s ∧ piO s = true := by
  have hv : insB (cI s) = true := by
    by_cases hv : insB (cI s) = true
    · exact hv
    · rw [itB, if_neg hv] at h; exact absurd h.symm h0
  exact ⟨if_pos ⟨hv, h⟩, decide_eq_true ⟨hv, h⟩⟩
theorem cutZ_len (s : ByteArray) (c : UInt8) : (cutZ s c).size ≤ s.size := by
  have e : (cutZ s c).size = (Lib.cut s.data.toList [c]).2.1.length := by
    rw [← sz_toL]; simp [cutZ]
  rw [e, ← sz_toL s]
  rcases idx1 c s.data.toList with ⟨h1, _⟩ | ⟨a, r, h1, h2, _⟩
  · rw [cut_no c _ h1]; simp
  · rw [h1, cut_in c a r h2]; simp; omega
theorem opI_rng (s : ByteArray) (xs : List ByteArray) (n : Int) (hn : n = xs.length) (hs : xs.length ≤ 1000) : inI (fi s xs 0 + 1) := by
  have := fi_range s xs 0 (by omega)
  unfold inI; omega
theorem con_OpNumI (s : ByteArray) : Con Tryz.prog 22 [.one (.str s)] [.one (.int (fi s opsL 0 + 1))] := by
  have hin := opI_rng s opsL 8 rfl (by decide)
  have h := con_Index opsL s (by decide)
  refine con_run Tryz.func22 rfl rfl (by simp [Tryz.ntmps22]) ?_
  simp only [argT, argA, eq_self, xRun, vE, vP, isCutO, gN, isPick, isCall, AS.pt, AS.ev, cav, avB, td0, td1, td2, td3, td4, td5, td6, ↓reduceIte, Nat.reduceLT, true_and, Bool.false_eq_true, Tryz.ntmps22]
  refine sw_call (con_opsI) rfl (aAs_ok ?_) ?_ (sw_run 200 _ _ _ ?_)
  · simp only [aAs, List.map, List.append_nil]
  · simp only [okR]
  simp only [mkR, flatD, packA, retA, List.headD_cons, strsD, eq_self, xRun, vE, vP, isCutO, gN, isPick, isCall, AS.pt, AS.ev, AS.mk', kill, look, td0, td1, td2, td3, td4, td5, td6, Option.getD, List.foldr, ↓reduceIte, Nat.reduceLT, Nat.zero_add, true_and, Bool.false_eq_true, reduceCtorEq]
  refine sw_call (h) rfl (aAs_ok ?_) ?_ (sw_run 200 _ _ _ ?_)
  · simp only [aAs, aA, aD, strsD, AS.ev, AS.owf, look, Option.bind, Option.getD, id_eq, List.map, List.append_nil, ↓reduceIte, Nat.reduceEqDiff, eq_self, and_self]
  · simp only [okR]
  simp only [mkR, flatD, packA, retA, List.headD_cons, fQ, xRet, rPs, xRes, flatA, rD, eq_self, xRun, vE, vP, vBin, vBinT, isAg, isBo, isCutO, gN, isPick, isCall, AS.pt, AS.ev, look, cav, eatsOf, td0, td1, td2, td3, td4, td5, td6, Option.getD, List.map, List.nodup_nil, ↓reduceIte, Nat.reduceLT, or_false, Bool.false_eq_true, reduceCtorEq, and_self, hin, Tryz.results22]
theorem con_OpNumS (s : ByteArray) : Con Tryz.prog 23 [.one (.str s)] [.one (.int (fi s opsL 0 + 1))] := by
  have hin := opI_rng s opsL 8 rfl (by decide)
  have h := con_IndexOfS opsL s (by decide)
  refine con_run Tryz.func23 rfl rfl (by simp [Tryz.ntmps23]) ?_
  simp only [argT, argA, eq_self, xRun, vE, vP, isCutO, gN, isPick, isCall, AS.pt, AS.ev, cav, avB, td0, td1, td2, td3, td4, td5, td6, ↓reduceIte, Nat.reduceLT, true_and, Bool.false_eq_true, Tryz.ntmps23]
  refine sw_call (con_opsS) rfl (aAs_ok ?_) ?_ (sw_run 200 _ _ _ ?_)
  · simp only [aAs, List.map, List.append_nil]
  · simp only [okR]
  simp only [mkR, flatD, packA, retA, List.headD_cons, strsD, eq_self, xRun, vE, vP, isCutO, gN, isPick, isCall, AS.pt, AS.ev, AS.mk', kill, look, td0, td1, td2, td3, td4, td5, td6, Option.getD, List.foldr, ↓reduceIte, Nat.reduceLT, Nat.zero_add, true_and, Bool.false_eq_true, reduceCtorEq]
  refine sw_call (h) rfl (aAs_ok ?_) ?_ (sw_run 200 _ _ _ ?_)
  · simp only [aAs, aA, aD, strsD, AS.ev, AS.owf, look, Option.bind, Option.getD, id_eq, List.map, List.append_nil, ↓reduceIte, Nat.reduceEqDiff, eq_self, and_self]
  · simp only [okR]
  simp only [mkR, flatD, packA, retA, List.headD_cons, fQ, xRet, rPs, xRes, flatA, rD, eq_self, xRun, vE, vP, vBin, vBinT, isAg, isBo, isCutO, gN, isPick, isCall, AS.pt, AS.ev, look, cav, eatsOf, td0, td1, td2, td3, td4, td5, td6, Option.getD, List.map, List.nodup_nil, ↓reduceIte, Nat.reduceLT, or_false, Bool.false_eq_true, reduceCtorEq, and_self, hin, Tryz.results23]
theorem con_PiI (s : ByteArray) (hz : s.size ≤ 1000000000) : Con Tryz.prog 7 [.one (.str s)] [.ag (insC (piX s)), .one (.bool (piO s))] := by
  have hin := opI_rng (cutA s 32) wordsL 12 rfl (by decide)
  have hix := con_Index wordsL (cutA s 32) (by decide)
  have ho : opI s = fi (cutA s 32) wordsL 0 + 1 := rfl
  have hcz := cutZ_len s 32
  have hcI : cI s = ⟨opI s, if opI s = 4 then fi (cutZ s 32) opsL 0 + 1 else if opI s < 9 then niI (cutZ s 32) else 0⟩ := rfl
  have hop := con_OpNumI (cutZ s 32)
  have hpn := con_PNI (cutZ s 32) (by omega)
  refine con_run Tryz.func7 rfl rfl (by simp [Tryz.ntmps7]) ?_
  simp only [argT, argA, eq_self, xRun, vE, vP, isCutO, gN, isPick, isCall, AS.pt, AS.ev, AS.box, look, cav, avB, td0, td1, td2, td3, td4, td5, td6, Option.getD, Option.isSome, ↓reduceIte, Nat.reduceLT, Nat.zero_add, true_and, Bool.false_eq_true, reduceCtorEq, Tryz.ntmps7]
  refine sw_call (con_Cut s 32 hz) rfl (aAs_ok ?_) ?_ (sw_run 200 _ _ _ ?_)
  · simp only [aAs, aA, aD, AS.ev, look, cav, Option.getD, List.map, List.append_nil, ↓reduceIte, eq_self, and_self]
  · simp only [okR]
  simp only [mkR, flatD, packA, retA, List.headD_cons, List.tail_cons, eq_self, xRun, vE, vP, vExt, isCutO, gN, isPick, isCall, AS.pt, AS.ev, look, td0, td1, td2, td3, td4, td5, td6, Option.getD, Option.isSome, List.getElem?_cons_zero, List.getElem?_cons_succ, ↓reduceIte, Nat.reduceLT, Nat.reduceEqDiff, true_and, Bool.false_eq_true]
  refine sw_call (con_wordsI) rfl (aAs_ok ?_) ?_ (sw_run 200 _ _ _ ?_)
  · simp only [aAs, List.map, List.append_nil]
  · simp only [okR]
  simp only [mkR, flatD, packA, retA, List.headD_cons, strsD, eq_self, xRun, vE, vP, isCutO, gN, isPick, isCall, AS.pt, AS.ev, AS.mk', kill, look, td0, td1, td2, td3, td4, td5, td6, Option.getD, List.foldr, ↓reduceIte, Nat.reduceLT, Nat.reduceAdd, Nat.reduceEqDiff, true_and, Bool.false_eq_true]
  refine sw_call (hix) rfl (aAs_ok ?_) ?_ (sw_run 200 _ _ _ ?_)
  · simp only [aAs, aA, aD, strsD, AS.ev, AS.owf, look, Option.bind, Option.getD, id_eq, List.map, List.append_nil, ↓reduceIte, Nat.reduceEqDiff, eq_self, and_self]
  · simp only [okR]
  rw [← ho] at hin
  simp only [mkR, flatD, packA, retA, List.headD_cons, fQ, xRet, eq_self, xRun, vE, vP, vSub, vLoad, vFld, vBin, vBinT, isAg, isBo, vBuild, vStore, isCutO, xFill, isB, bv, gT, gW, gN, gV, isU, isPick, pkC, pkA, isCall, AS.pt, AS.kn, AS.ev, AS.box, AS.setb, look, cav, setRowG, AV.cells, AV.whole, AV.one, td0, td1, td2, td3, td4, td5, td6, Option.bind, Option.getD, Option.isSome, List.map, List.take, List.drop, List.length, List.getElem?_cons_zero, List.getElem?_cons_succ, List.set, List.all, ↓reduceIte, Nat.reduceLT, Nat.reduceAdd, Nat.reduceLeDiff, Nat.reduceEqDiff, Nat.zero_add, Nat.add_zero, ne_eq, not_false_eq_true, true_and, or_false, Bool.and_true, Bool.not_false, Bool.false_eq_true, Bool.true_eq_false, reduceCtorEq, and_self, decide_eq_true_eq, decide_eq_false_iff_not, Nat.succ_ne_zero, Nat.le_refl, ← ho, hin]
  by_cases h4 : opI s = 4
  · have hx : cI s = ⟨opI s, fi (cutZ s 32) opsL 0 + 1⟩ := by rw [hcI, if_pos h4]
    simp only [td0, td1, td2, td3, td4, td5, td6, ↓reduceIte, decide_true, eq_true h4]
    refine sw_call (hop) rfl (aAs_ok ?_) ?_ (sw_run 200 _ _ _ ?_)
    · simp only [aAs, aA, aD, AS.ev, look, Option.getD, List.map, List.append_nil, ↓reduceIte, eq_self, and_self]
    · simp only [okR]
    simp only [mkR, flatD, packA, retA, List.headD_cons, fQ, xRet, eq_self, xRun, vE, vP, vSub, vLoad, vFld, vBin, vBinT, isAg, isBo, vBuild, vStore, isCutO, xFill, isB, bv, gT, gW, gN, gV, isU, isPick, pkC, pkA, isCall, AS.pt, AS.kn, AS.ev, AS.setb, look, cav, setRowG, AV.cells, AV.whole, AV.one, td0, td1, td2, td3, td4, td5, td6, Option.bind, Option.getD, Option.isSome, List.map, List.take, List.drop, List.length, List.getElem?_cons_zero, List.getElem?_cons_succ, List.set, List.all, ↓reduceIte, Nat.reduceLT, Nat.reduceAdd, Nat.reduceEqDiff, Nat.zero_add, ne_eq, not_false_eq_true, true_and, or_false, Bool.and_true, Bool.not_false, Bool.false_eq_true, Bool.true_eq_false, reduceCtorEq, and_self, decide_eq_false_iff_not, Nat.succ_ne_zero, Nat.le_refl]
    have hit := con_ItI (cI s)
    rw [hx] at hit
    have hy := fun h0 h => pi_y (s := s) h0 h
    have hn := fun h => pi_n (s := s) h
    have he := fun h => pi_e (s := s) h
    rw [hx] at hy hn
    by_cases h0 : s = ⟨#[]⟩
    · obtain ⟨e1, e2⟩ := he h0
      simp only [rPs, xRes, flatA, rD, rDs, eq_self, look, eatsOf, td0, td1, td2, td3, td4, td5, td6, List.map, List.length, List.nodup_nil, List.nil_append, List.cons_append, ↓reduceIte, Nat.reduceAdd, Nat.reduceEqDiff, Nat.zero_add, not_true_eq_false, decide_true, and_self, eq_true h0, e1, e2, insC, Tryz.results7]
    · simp only [td0, td1, td2, td3, td4, td5, td6, ↓reduceIte, not_false_eq_true, decide_false, h0, insC]
      refine sw_call (hit) rfl (aAs_ok ?_) ?_ (sw_run 200 _ _ _ ?_)
      · simp only [aAs, aA, aDs, aD, AS.ev, look, Option.getD, List.map, List.append_nil, ↓reduceIte, Nat.reduceEqDiff, eq_self, and_self, insC]
      · simp only [okR]
      by_cases hs : itB ⟨opI s, fi (cutZ s 32) opsL 0 + 1⟩ = s
      · obtain ⟨e1, e2⟩ := hy h0 hs
        simp only [mkR, flatD, packA, retA, List.headD_cons, fQ, xRet, rPs, xRes, flatA, rD, rDs, eq_self, xRun, vE, vP, vSub, vLoad, vBin, vBinT, isAg, isBo, vStore, isCutO, isB, bv, gT, gW, gN, gV, isU, isPick, pkC, pkB, isCall, AS.pt, AS.kn, AS.ev, AS.setb, look, cav, setRowG, AV.cells, AV.whole, AV.one, eatsOf, td0, td1, td2, td3, td4, td5, td6, Option.bind, Option.getD, Option.isSome, List.map, List.take, List.drop, List.length, List.getElem?_cons_zero, List.getElem?_cons_succ, List.set, List.all, List.nodup_nil, List.nil_append, List.cons_append, ↓reduceIte, Nat.reduceLT, Nat.reduceAdd, Nat.reduceEqDiff, Nat.zero_add, ne_eq, not_true_eq_false, or_false, Bool.and_true, Bool.false_eq_true, reduceCtorEq, decide_false, and_self, Nat.le_refl, eq_true hs, e1, e2, Tryz.results7]
      · obtain ⟨e1, e2⟩ := hn hs
        simp only [mkR, flatD, packA, retA, List.headD_cons, fQ, xRet, rPs, xRes, flatA, rD, rDs, eq_self, xRun, vE, vP, vBin, vBinT, isAg, isBo, vBuild, vStore, isCutO, xFill, isB, bv, gT, gW, gN, gV, isU, isPick, pkC, pkB, isCall, AS.pt, AS.kn, AS.ev, AS.setb, look, cav, setRowG, AV.cells, AV.whole, AV.one, eatsOf, td0, td1, td2, td3, td4, td5, td6, Option.bind, Option.getD, Option.isSome, List.map, List.length, List.getElem?_cons_zero, List.getElem?_cons_succ, List.set, List.all, List.nodup_nil, List.nil_append, List.cons_append, ↓reduceIte, Nat.reduceLT, Nat.reduceAdd, Nat.reduceEqDiff, Nat.zero_add, ne_eq, not_false_eq_true, or_false, Bool.and_true, Bool.false_eq_true, reduceCtorEq, decide_true, and_self, Nat.le_refl, hs, e1, e2, Tryz.results7]
  · by_cases h9 : opI s < 9
    · have hx : cI s = ⟨opI s, niI (cutZ s 32)⟩ := by rw [hcI, if_neg h4, if_pos h9]
      simp only [td0, td1, td2, td3, td4, td5, td6, ↓reduceIte, decide_true, decide_false, h4, eq_true h9]
      refine sw_call (hpn) rfl (aAs_ok ?_) ?_ (sw_run 200 _ _ _ ?_)
      · simp only [aAs, aA, aD, AS.ev, look, Option.getD, List.map, List.append_nil, ↓reduceIte, eq_self, and_self]
      · simp only [okR]
      simp only [mkR, flatD, packA, retA, List.headD_cons, List.tail_cons, fQ, xRet, eq_self, xRun, vE, vP, vSub, vLoad, vFld, vBin, vBinT, isAg, isBo, vExt, vBuild, vStore, isCutO, xFill, isB, bv, gT, gW, gN, gV, isU, isPick, pkC, pkA, isCall, AS.pt, AS.kn, AS.ev, AS.setb, look, cav, setRowG, AV.cells, AV.whole, AV.one, td0, td1, td2, td3, td4, td5, td6, Option.bind, Option.getD, Option.isSome, List.map, List.take, List.drop, List.length, List.getElem?_cons_zero, List.getElem?_cons_succ, List.set, List.all, ↓reduceIte, Nat.reduceLT, Nat.reduceAdd, Nat.reduceEqDiff, Nat.zero_add, ne_eq, not_false_eq_true, true_and, or_false, Bool.and_true, Bool.not_false, Bool.false_eq_true, Bool.true_eq_false, reduceCtorEq, and_self, decide_eq_false_iff_not, Nat.succ_ne_zero, Nat.le_refl]
      have hit := con_ItI (cI s)
      rw [hx] at hit
      have hy := fun h0 h => pi_y (s := s) h0 h
      have hn := fun h => pi_n (s := s) h
      have he := fun h => pi_e (s := s) h
      rw [hx] at hy hn
      by_cases h0 : s = ⟨#[]⟩
      · obtain ⟨e1, e2⟩ := he h0
        simp only [rPs, xRes, flatA, rD, rDs, eq_self, look, eatsOf, td0, td1, td2, td3, td4, td5, td6, List.map, List.length, List.nodup_nil, List.nil_append, List.cons_append, ↓reduceIte, Nat.reduceAdd, Nat.reduceEqDiff, Nat.zero_add, not_true_eq_false, decide_true, and_self, eq_true h0, e1, e2, insC, Tryz.results7]
      · simp only [td0, td1, td2, td3, td4, td5, td6, ↓reduceIte, not_false_eq_true, decide_false, h0, insC]
        refine sw_call (hit) rfl (aAs_ok ?_) ?_ (sw_run 200 _ _ _ ?_)
        · simp only [aAs, aA, aDs, aD, AS.ev, look, Option.getD, List.map, List.append_nil, ↓reduceIte, Nat.reduceEqDiff, eq_self, and_self, insC]
        · simp only [okR]
        by_cases hs : itB ⟨opI s, niI (cutZ s 32)⟩ = s
        · obtain ⟨e1, e2⟩ := hy h0 hs
          simp only [mkR, flatD, packA, retA, List.headD_cons, fQ, xRet, rPs, xRes, flatA, rD, rDs, eq_self, xRun, vE, vP, vSub, vLoad, vBin, vBinT, isAg, isBo, vStore, isCutO, isB, bv, gT, gW, gN, gV, isU, isPick, pkC, pkB, isCall, AS.pt, AS.kn, AS.ev, AS.setb, look, cav, setRowG, AV.cells, AV.whole, AV.one, eatsOf, td0, td1, td2, td3, td4, td5, td6, Option.bind, Option.getD, Option.isSome, List.map, List.take, List.drop, List.length, List.getElem?_cons_zero, List.getElem?_cons_succ, List.set, List.all, List.nodup_nil, List.nil_append, List.cons_append, ↓reduceIte, Nat.reduceLT, Nat.reduceAdd, Nat.reduceEqDiff, Nat.zero_add, ne_eq, not_true_eq_false, or_false, Bool.and_true, Bool.false_eq_true, reduceCtorEq, decide_false, and_self, Nat.le_refl, eq_true hs, e1, e2, Tryz.results7]
        · obtain ⟨e1, e2⟩ := hn hs
          simp only [mkR, flatD, packA, retA, List.headD_cons, fQ, xRet, rPs, xRes, flatA, rD, rDs, eq_self, xRun, vE, vP, vBin, vBinT, isAg, isBo, vBuild, vStore, isCutO, xFill, isB, bv, gT, gW, gN, gV, isU, isPick, pkC, pkB, isCall, AS.pt, AS.kn, AS.ev, AS.setb, look, cav, setRowG, AV.cells, AV.whole, AV.one, eatsOf, td0, td1, td2, td3, td4, td5, td6, Option.bind, Option.getD, Option.isSome, List.map, List.length, List.getElem?_cons_zero, List.getElem?_cons_succ, List.set, List.all, List.nodup_nil, List.nil_append, List.cons_append, ↓reduceIte, Nat.reduceLT, Nat.reduceAdd, Nat.reduceEqDiff, Nat.zero_add, ne_eq, not_false_eq_true, or_false, Bool.and_true, Bool.false_eq_true, reduceCtorEq, decide_true, and_self, Nat.le_refl, hs, e1, e2, Tryz.results7]
    · have hx : cI s = ⟨opI s, 0⟩ := by rw [hcI, if_neg h4, if_neg h9]
      simp only [td0, td1, td2, td3, td4, td5, td6, ↓reduceIte, decide_false, h4, h9]
      have hit := con_ItI (cI s)
      rw [hx] at hit
      have hy := fun h0 h => pi_y (s := s) h0 h
      have hn := fun h => pi_n (s := s) h
      have he := fun h => pi_e (s := s) h
      rw [hx] at hy hn
      by_cases h0 : s = ⟨#[]⟩
      · obtain ⟨e1, e2⟩ := he h0
        simp only [rPs, xRes, flatA, rD, rDs, eq_self, look, eatsOf, td0, td1, td2, td3, td4, td5, td6, List.map, List.length, List.nodup_nil, List.nil_append, List.cons_append, ↓reduceIte, Nat.reduceAdd, Nat.reduceEqDiff, Nat.zero_add, not_true_eq_false, decide_true, and_self, eq_true h0, e1, e2, insC, Tryz.results7]
      · simp only [td0, td1, td2, td3, td4, td5, td6, ↓reduceIte, not_false_eq_true, decide_false, h0, insC]
        refine sw_call (hit) rfl (aAs_ok ?_) ?_ (sw_run 200 _ _ _ ?_)
        · simp only [aAs, aA, aDs, aD, AS.ev, look, Option.getD, List.map, List.append_nil, ↓reduceIte, Nat.reduceEqDiff, eq_self, and_self, insC]
        · simp only [okR]
        by_cases hs : itB ⟨opI s, 0⟩ = s
        · obtain ⟨e1, e2⟩ := hy h0 hs
          simp only [mkR, flatD, packA, retA, List.headD_cons, fQ, xRet, rPs, xRes, flatA, rD, rDs, eq_self, xRun, vE, vP, vSub, vLoad, vBin, vBinT, isAg, isBo, vStore, isCutO, isB, bv, gT, gW, gN, gV, isU, isPick, pkC, pkB, isCall, AS.pt, AS.kn, AS.ev, AS.setb, look, cav, setRowG, AV.cells, AV.whole, AV.one, eatsOf, td0, td1, td2, td3, td4, td5, td6, Option.bind, Option.getD, Option.isSome, List.map, List.take, List.drop, List.length, List.getElem?_cons_zero, List.getElem?_cons_succ, List.set, List.all, List.nodup_nil, List.nil_append, List.cons_append, ↓reduceIte, Nat.reduceLT, Nat.reduceAdd, Nat.reduceEqDiff, Nat.zero_add, ne_eq, not_true_eq_false, or_false, Bool.and_true, Bool.false_eq_true, reduceCtorEq, decide_false, and_self, Nat.le_refl, eq_true hs, e1, e2, Tryz.results7]
        · obtain ⟨e1, e2⟩ := hn hs
          simp only [mkR, flatD, packA, retA, List.headD_cons, fQ, xRet, rPs, xRes, flatA, rD, rDs, eq_self, xRun, vE, vP, vBin, vBinT, isAg, isBo, vBuild, vStore, isCutO, xFill, isB, bv, gT, gW, gN, gV, isU, isPick, pkC, pkB, isCall, AS.pt, AS.kn, AS.ev, AS.setb, look, cav, setRowG, AV.cells, AV.whole, AV.one, eatsOf, td0, td1, td2, td3, td4, td5, td6, Option.bind, Option.getD, Option.isSome, List.map, List.length, List.getElem?_cons_zero, List.getElem?_cons_succ, List.set, List.all, List.nodup_nil, List.nil_append, List.cons_append, ↓reduceIte, Nat.reduceLT, Nat.reduceAdd, Nat.reduceEqDiff, Nat.zero_add, ne_eq, not_false_eq_true, or_false, Bool.and_true, Bool.false_eq_true, reduceCtorEq, decide_true, and_self, Nat.le_refl, hs, e1, e2, Tryz.results7]
theorem splB_pos (s : ByteArray) (c : UInt8) : 0 < (splB s c).length := by
  have h := congrArg List.length (splB_L s c)
  rw [List.length_map] at h
  have h2 := splL_ne c s.data.toList
  cases hx : splL c s.data.toList with
  | nil => exact absurd hx h2
  | cons a b => rw [hx] at h; simp at h; omega
theorem splL_sz (c : UInt8) : ∀ (l : List UInt8), ∀ x ∈ splL c l, x.length ≤ l.length
  | [], x, h => by simp [splL] at h; simp [h]
  | a :: l, x, h => by
    rw [splL] at h
    split at h
    · rcases List.mem_cons.1 h with rfl | h
      · simp
      · have := splL_sz c l x h; simp; omega
    · have ih := splL_sz c l
      cases hs : splL c l with
      | nil => rw [hs] at h; simp at h; simp [h]
      | cons y t =>
        rw [hs] at h ih
        rcases List.mem_cons.1 h with rfl | h
        · have := ih y (by simp); simp; omega
        · have := ih x (by simp [h]); simp; omega
theorem splB_sz (s : ByteArray) (c : UInt8) (k : Nat) (hk : k < (splB s c).length) : (splB s c)[k]!.size ≤ s.size := by
  rw [getElem!_pos _ k hk, ← sz_toL, ← sz_toL]
  refine splL_sz c _ _ ?_
  rw [← splB_L]
  exact List.mem_map_of_mem (List.getElem_mem hk)
theorem splB_max (s : ByteArray) (c : UInt8) : (splB s c).length ≤ s.size + 1 := (spl_len s c (s.size + 1)).1
theorem con_PiS (s : ByteArray) (hz : s.size ≤ 1000000000) : Con Tryz.prog 12 [.one (.str s)] [.ag (insC (piX s)), .one (.bool (piO s))] := by
  obtain ⟨hpX, hpO⟩ := pi_S s
  rw [← hpX, ← hpO]
  have hpos := splB_pos s 32
  have hmax := splB_max s 32
  have hs0 := splB_sz s 32
  have hcS : cS s = ⟨opS s, if (splB s 32).length = 2 ∧ opS s = 4 then fi (splB s 32)[1]! opsL 0 + 1 else if (splB s 32).length = 2 then (nsP (splB s 32)[1]!).1 else 0⟩ := rfl
  have ho : opS s = fi (splB s 32)[0]! wordsL 0 + 1 := rfl
  have hin := opI_rng (splB s 32)[0]! wordsL 12 rfl (by decide)
  have hSp : Con Tryz.prog 39 [.one (.str s), .one (.byt 32)] [.one (strsD (splB s 32))] := con_SplitS s 32 hz
  generalize splB s 32 = xs at *
  have hix := con_IndexOfS wordsL xs[0]! (by decide)
  have hR := strs_row xs 0 hpos
  have hp0 : (0 : Int) < (xs.length : Int) := by omega
  rw [← ho] at hin
  refine con_run Tryz.func12 rfl rfl (by simp [Tryz.ntmps12]) ?_
  simp only [argT, argA, eq_self, xRun, vE, vP, isCutO, gN, isPick, isCall, AS.pt, AS.ev, AS.box, look, cav, avB, td0, td1, td2, td3, td4, td5, td6, Option.getD, Option.isSome, ↓reduceIte, Nat.reduceLT, Nat.zero_add, true_and, Bool.false_eq_true, reduceCtorEq, Tryz.ntmps12]
  refine sw_call (hSp) rfl (aAs_ok ?_) ?_ (sw_run 200 _ _ _ ?_)
  · simp only [aAs, aA, aD, AS.ev, look, cav, Option.getD, List.map, List.append_nil, ↓reduceIte, eq_self, and_self]
  · simp only [okR]
  simp only [mkR, flatD, packA, retA, List.headD_cons, strsD, eq_self, xRun, vE, vP, isCutO, gN, isPick, isCall, AS.pt, AS.ev, AS.mk', kill, look, td0, td1, td2, td3, td4, td5, td6, Option.getD, List.foldr, ↓reduceIte, Nat.reduceLT, Nat.reduceAdd, true_and, Bool.false_eq_true]
  refine sw_drawnK (⟨50, [(0, .s s), (2, .bx 0 0), (3, .b false), (4, .sl 2), (5, .bx 1 0)], [(0, [.i 0, .i 0]), (1, [.i (opS s), .i 0])], [(2, some ⟨.rows 1 xs.length (xs.map D.str), none, true⟩)], 3, []⟩) (.cons 1 true (.cons 2 true (.cons 3 true (.fork (.alt 0 (.fork (.alt 4 (.cons 5 true (.cons 6 true (.cons 7 false (.cons 8 false (.nil))))) (.alt 7 (.cons 4 false (.cons 5 true (.cons 6 true (.cons 8 false (.nil))))) (.last)))) (.alt 7 (.cons 0 false (.cons 4 false (.cons 5 true (.cons 6 true (.cons 8 false (.nil)))))) (.last))))))) (by kernel_rfl) (by kernel_rfl) (sw_run 200 _ _ _ ?_) (sw_run 200 _ _ _ ?_)
  · simp only [rowD, eq_self, xRun, vE, vP, vSub, vLoad, vIdx, gN, isPick, isCall, AS.pt, AS.ev, AS.box, AS.owf, look, cav, avO, td0, td1, td2, td3, td4, td5, td6, Option.bind, Option.getD, Option.isSome, List.map, List.getElem?_cons_zero, List.getElem?_cons_succ, ↓reduceIte, Nat.reduceLT, Nat.reduceAdd, true_and, and_true, Bool.false_eq_true, id_eq, Int.toNat_zero, Int.le_refl, and_self, hR, hp0]
    (try repeat' (with_reducible apply And.intro))
    all_goals (refine sw_callD con_wordsS rfl (aAs_ok (by simp only [aAs, td0, td1, td2, td3, td4, td5, td6, List.map, List.append_nil])) (by simp only [okR, td0, td1, td2, td3, td4, td5, td6]) (sw_run 200 _ _ _ ?_); simp only [mkR, flatD, packA, retA, List.headD_cons, strsD, eq_self, xRun, vE, gN, isPick, isCall, AS.pt, AS.box, AS.mk', kill, td0, td1, td2, td3, td4, td5, td6, Option.getD, Option.isSome, List.getElem?_cons_zero, List.getElem?_cons_succ, List.foldr, ↓reduceIte, Nat.reduceLT, Nat.reduceAdd, true_and, and_true, Bool.false_eq_true]; (try repeat' (with_reducible apply And.intro)))
    all_goals (refine sw_callD hix rfl (aAs_ok (by simp only [aAs, aA, aD, strsD, eq_self, AS.ev, AS.owf, look, td0, td1, td2, td3, td4, td5, td6, Option.bind, Option.getD, List.map, List.append_nil, ↓reduceIte, Nat.reduceEqDiff, id_eq, and_self])) (by simp only [okR, td0, td1, td2, td3, td4, td5, td6]) (sw_run 200 _ _ _ ?_); simp only [mkR, flatD, packA, retA, List.headD_cons, eq_self, xRun, vE, vP, vBin, vBinT, isAg, isBo, vBuild, vStore, xFill, gN, isPick, isCall, AS.pt, AS.ev, AS.box, AS.setb, look, cav, setRowG, AV.cells, AV.whole, AV.one, td0, td1, td2, td3, td4, td5, td6, Option.getD, Option.isSome, List.map, List.length, List.getElem?_cons_zero, List.getElem?_cons_succ, List.set, List.all, ↓reduceIte, Nat.reduceLT, Nat.reduceAdd, Nat.reduceLeDiff, Nat.reduceEqDiff, Nat.zero_add, true_and, Bool.and_true, Bool.false_eq_true, and_self, Nat.le_refl, ← ho, hin]; (try repeat' (with_reducible apply And.intro)))
    all_goals first
      | (refine ⟨rfl, rnL [(0, 0), (1, 3), (2, 1)], ?_⟩; simp only [Sub, subT, subB, subO, subP, inj, AV.ren, AV.rens, AV.lt, AV.lts, eq_self, AS.owf, look, td0, td1, td2, td3, td4, td5, td6, Option.bind, Option.getD, List.map, List.mem_cons, List.not_mem_nil, List.nodup_cons, List.nodup_nil, ↓reduceIte, Nat.reduceLT, Nat.reduceEqDiff, not_false_eq_true, true_and, and_true, and_false, or_false, id_eq, reduceCtorEq, and_self, Nat.succ_ne_zero, rnL]; done)
      | (refine ⟨rfl, rnL [(0, 0), (1, 2), (2, 1)], ?_⟩; simp only [Sub, subT, subB, subO, subP, inj, AV.ren, AV.rens, AV.lt, AV.lts, eq_self, AS.owf, look, td0, td1, td2, td3, td4, td5, td6, Option.bind, Option.getD, List.map, List.mem_cons, List.not_mem_nil, List.nodup_cons, List.nodup_nil, ↓reduceIte, Nat.reduceLT, Nat.reduceEqDiff, not_false_eq_true, or_false, id_eq, reduceCtorEq, and_self, Nat.succ_ne_zero, rnL]; done)
  have hop := con_OpNumS xs[1]!
  by_cases hl2 : xs.length = 2
  · have hl2i : (xs.length : Int) = 2 := by omega
    have hR1 := strs_row xs 1 (by omega)
    have hp1 : (1 : Int) < (xs.length : Int) := by omega
    have hpn := con_PNS xs[1]! (Nat.le_trans (hs0 1 (by omega)) hz)
    by_cases h4 : opS s = 4
    · have hx : cS s = ⟨opS s, fi xs[1]! opsL 0 + 1⟩ := by rw [hcS, if_pos ⟨hl2, h4⟩]
      simp only [rowD, eq_self, xRun, vE, vP, vSub, vLoad, vFld, vIdx, vBin, vBinT, isAg, isBo, vLen, isCutO, isB, bv, gT, gW, gN, gV, isU, isPick, pkC, pkA, isCall, AS.pt, AS.kn, AS.ev, AS.owf, AS.rd, look, cav, avO, td0, td1, td2, td3, td4, td5, td6, Option.bind, Option.getD, Option.map, Option.isSome, List.map, List.getElem?_cons_zero, List.getElem?_cons_succ, ↓reduceIte, Nat.reduceLT, Nat.reduceEqDiff, Nat.add_zero, ne_eq, not_false_eq_true, true_and, Bool.false_eq_true, id_eq, Int.reduceLE, Int.toNat_one, decide_true, and_self, Nat.succ_ne_zero, eq_true hl2i, eq_true h4, hR1, hp1]
      refine sw_call (hop) rfl (aAs_ok ?_) ?_ (sw_run 200 _ _ _ ?_)
      · simp only [aAs, aA, aD, AS.ev, look, Option.getD, List.map, List.append_nil, ↓reduceIte, eq_self, and_self]
      · simp only [okR]
      have hit := con_ItS (cS s)
      have hiv := con_IsInstrS (cS s)
      rw [hx] at hit hiv
      rw [hx]
      obtain ⟨b, hb⟩ : ∃ b, insB ⟨opS s, fi xs[1]! opsL 0 + 1⟩ = b := ⟨_, rfl⟩
      rw [hb] at hiv
      rw [hb]
      simp only [mkR, flatD, packA, retA, List.headD_cons, eq_self, xRun, vE, vP, vSub, vLoad, vFld, vStore, isCutO, gN, isPick, isCall, AS.pt, AS.ev, AS.setb, look, setRowG, AV.cells, AV.whole, AV.one, td0, td1, td2, td3, td4, td5, td6, Option.getD, List.take, List.drop, List.length, List.set, ↓reduceIte, Nat.reduceLT, Nat.reduceAdd, Nat.reduceEqDiff, Nat.zero_add, ne_eq, not_false_eq_true, true_and, Bool.false_eq_true, and_self, Nat.succ_ne_zero, Nat.le_refl, insC]
      refine sw_call (hiv) rfl (aAs_ok ?_) ?_ (sw_run 200 _ _ _ ?_)
      · simp only [aAs, aA, aDs, aD, AS.ev, look, Option.getD, List.map, List.append_nil, ↓reduceIte, eq_self, and_self, insC]
      · simp only [okR]
      cases b
      · simp only [mkR, flatD, packA, retA, List.headD_cons, fQ, xRet, rPs, xRes, flatA, rD, rDs, eq_self, xRun, vE, vP, vNot, vBuild, vStore, isCutO, xFill, isB, bv, gT, gW, gN, gV, isU, isPick, pkC, pkA, isCall, AS.pt, AS.kn, AS.ev, AS.setb, look, cav, setRowG, AV.cells, AV.whole, AV.one, eatsOf, td0, td1, td2, td3, td4, td5, td6, Option.bind, Option.getD, Option.isSome, List.map, List.length, List.getElem?_cons_zero, List.getElem?_cons_succ, List.set, List.all, List.nodup_nil, List.nil_append, List.cons_append, ↓reduceIte, Nat.reduceLT, Nat.reduceAdd, Nat.reduceEqDiff, Nat.zero_add, false_and, or_false, Bool.and_true, Bool.not_false, Bool.false_eq_true, Bool.true_eq_false, reduceCtorEq, decide_false, and_self, Nat.succ_ne_zero, Nat.le_refl, Tryz.results12]
      · simp only [mkR, flatD, packA, retA, List.headD_cons, eq_self, xRun, vE, vP, vSub, vLoad, vNot, isCutO, isB, bv, gT, gW, gN, gV, isU, isPick, isCall, AS.pt, AS.kn, AS.ev, look, td0, td1, td2, td3, td4, td5, td6, Option.bind, Option.getD, Option.isSome, List.take, List.drop, List.length, List.getElem?_cons_zero, List.getElem?_cons_succ, ↓reduceIte, Nat.reduceLT, Nat.reduceAdd, Nat.reduceEqDiff, Nat.zero_add, true_and, Bool.not_true, Bool.false_eq_true, and_self, Nat.succ_ne_zero, Nat.le_refl]
        refine sw_call (hit) rfl (aAs_ok ?_) ?_ (sw_run 200 _ _ _ ?_)
        · simp only [aAs, aA, aDs, aD, AS.ev, look, Option.getD, List.map, List.append_nil, ↓reduceIte, Nat.reduceEqDiff, eq_self, and_self, insC]
        · simp only [okR]
        by_cases hs : itB ⟨opS s, fi xs[1]! opsL 0 + 1⟩ = s
        · simp only [mkR, flatD, packA, retA, List.headD_cons, fQ, xRet, rPs, xRes, flatA, rD, rDs, eq_self, xRun, vE, vP, vSub, vLoad, vBin, vBinT, isAg, isBo, vStore, isCutO, isB, bv, gT, gW, gN, gV, isU, isPick, pkC, pkB, isCall, AS.pt, AS.kn, AS.ev, AS.setb, look, cav, setRowG, AV.cells, AV.whole, AV.one, eatsOf, td0, td1, td2, td3, td4, td5, td6, Option.bind, Option.getD, Option.isSome, List.map, List.take, List.drop, List.length, List.getElem?_cons_zero, List.getElem?_cons_succ, List.set, List.all, List.nodup_nil, List.nil_append, List.cons_append, ↓reduceIte, Nat.reduceLT, Nat.reduceAdd, Nat.reduceEqDiff, Nat.zero_add, ne_eq, not_true_eq_false, or_false, Bool.and_true, Bool.false_eq_true, reduceCtorEq, decide_true, decide_false, and_self, Nat.succ_ne_zero, Nat.le_refl, eq_true hs, Tryz.results12]
        · simp only [mkR, flatD, packA, retA, List.headD_cons, fQ, xRet, rPs, xRes, flatA, rD, rDs, eq_self, xRun, vE, vP, vBin, vBinT, isAg, isBo, vBuild, vStore, isCutO, xFill, isB, bv, gT, gW, gN, gV, isU, isPick, pkC, pkB, isCall, AS.pt, AS.kn, AS.ev, AS.setb, look, cav, setRowG, AV.cells, AV.whole, AV.one, eatsOf, td0, td1, td2, td3, td4, td5, td6, Option.bind, Option.getD, Option.isSome, List.map, List.length, List.getElem?_cons_zero, List.getElem?_cons_succ, List.set, List.all, List.nodup_nil, List.nil_append, List.cons_append, ↓reduceIte, Nat.reduceLT, Nat.reduceAdd, Nat.reduceEqDiff, Nat.zero_add, ne_eq, not_false_eq_true, or_false, Bool.and_true, Bool.false_eq_true, reduceCtorEq, decide_true, decide_false, and_self, Nat.succ_ne_zero, Nat.le_refl, hs, Tryz.results12]
    · have hx : cS s = ⟨opS s, (nsP xs[1]!).1⟩ := by rw [hcS, if_neg (fun h => h4 h.2), if_pos hl2]
      simp only [rowD, eq_self, xRun, vE, vP, vSub, vLoad, vFld, vIdx, vBin, vBinT, isAg, isBo, vLen, isCutO, isB, bv, gT, gW, gN, gV, isU, isPick, pkC, pkA, isCall, AS.pt, AS.kn, AS.ev, AS.owf, AS.rd, look, cav, avO, td0, td1, td2, td3, td4, td5, td6, Option.bind, Option.getD, Option.map, Option.isSome, List.map, List.getElem?_cons_zero, List.getElem?_cons_succ, ↓reduceIte, Nat.reduceLT, Nat.reduceEqDiff, Nat.add_zero, ne_eq, not_false_eq_true, true_and, Bool.false_eq_true, id_eq, Int.reduceLE, Int.toNat_one, decide_true, decide_false, and_self, Nat.succ_ne_zero, eq_true hl2i, h4, hR1, hp1]
      refine sw_call (hpn) rfl (aAs_ok ?_) ?_ (sw_run 200 _ _ _ ?_)
      · simp only [aAs, aA, aD, AS.ev, look, Option.getD, List.map, List.append_nil, ↓reduceIte, eq_self, and_self]
      · simp only [okR]
      have hit := con_ItS (cS s)
      have hiv := con_IsInstrS (cS s)
      rw [hx] at hit hiv
      rw [hx]
      obtain ⟨b, hb⟩ : ∃ b, insB ⟨opS s, (nsP xs[1]!).1⟩ = b := ⟨_, rfl⟩
      rw [hb] at hiv
      rw [hb]
      simp only [mkR, flatD, packA, retA, List.headD_cons, List.tail_cons, eq_self, xRun, vE, vP, vSub, vLoad, vFld, vExt, vStore, isCutO, gN, isPick, isCall, AS.pt, AS.ev, AS.setb, look, setRowG, AV.cells, AV.whole, AV.one, td0, td1, td2, td3, td4, td5, td6, Option.getD, Option.isSome, List.take, List.drop, List.length, List.getElem?_cons_zero, List.getElem?_cons_succ, List.set, ↓reduceIte, Nat.reduceLT, Nat.reduceAdd, Nat.reduceEqDiff, Nat.zero_add, ne_eq, not_false_eq_true, true_and, Bool.false_eq_true, and_self, Nat.succ_ne_zero, Nat.le_refl, insC]
      refine sw_call (hiv) rfl (aAs_ok ?_) ?_ (sw_run 200 _ _ _ ?_)
      · simp only [aAs, aA, aDs, aD, AS.ev, look, Option.getD, List.map, List.append_nil, ↓reduceIte, eq_self, and_self, insC]
      · simp only [okR]
      cases b
      · simp only [mkR, flatD, packA, retA, List.headD_cons, fQ, xRet, rPs, xRes, flatA, rD, rDs, eq_self, xRun, vE, vP, vNot, vBuild, vStore, isCutO, xFill, isB, bv, gT, gW, gN, gV, isU, isPick, pkC, pkA, isCall, AS.pt, AS.kn, AS.ev, AS.setb, look, cav, setRowG, AV.cells, AV.whole, AV.one, eatsOf, td0, td1, td2, td3, td4, td5, td6, Option.bind, Option.getD, Option.isSome, List.map, List.length, List.getElem?_cons_zero, List.getElem?_cons_succ, List.set, List.all, List.nodup_nil, List.nil_append, List.cons_append, ↓reduceIte, Nat.reduceLT, Nat.reduceAdd, Nat.reduceEqDiff, Nat.zero_add, false_and, or_false, Bool.and_true, Bool.not_false, Bool.false_eq_true, Bool.true_eq_false, reduceCtorEq, decide_false, and_self, Nat.succ_ne_zero, Nat.le_refl, Tryz.results12]
      · simp only [mkR, flatD, packA, retA, List.headD_cons, eq_self, xRun, vE, vP, vSub, vLoad, vNot, isCutO, isB, bv, gT, gW, gN, gV, isU, isPick, isCall, AS.pt, AS.kn, AS.ev, look, td0, td1, td2, td3, td4, td5, td6, Option.bind, Option.getD, Option.isSome, List.take, List.drop, List.length, List.getElem?_cons_zero, List.getElem?_cons_succ, ↓reduceIte, Nat.reduceLT, Nat.reduceAdd, Nat.reduceEqDiff, Nat.zero_add, true_and, Bool.not_true, Bool.false_eq_true, and_self, Nat.succ_ne_zero, Nat.le_refl]
        refine sw_call (hit) rfl (aAs_ok ?_) ?_ (sw_run 200 _ _ _ ?_)
        · simp only [aAs, aA, aDs, aD, AS.ev, look, Option.getD, List.map, List.append_nil, ↓reduceIte, Nat.reduceEqDiff, eq_self, and_self, insC]
        · simp only [okR]
        by_cases hs : itB ⟨opS s, (nsP xs[1]!).1⟩ = s
        · simp only [mkR, flatD, packA, retA, List.headD_cons, fQ, xRet, rPs, xRes, flatA, rD, rDs, eq_self, xRun, vE, vP, vSub, vLoad, vBin, vBinT, isAg, isBo, vStore, isCutO, isB, bv, gT, gW, gN, gV, isU, isPick, pkC, pkB, isCall, AS.pt, AS.kn, AS.ev, AS.setb, look, cav, setRowG, AV.cells, AV.whole, AV.one, eatsOf, td0, td1, td2, td3, td4, td5, td6, Option.bind, Option.getD, Option.isSome, List.map, List.take, List.drop, List.length, List.getElem?_cons_zero, List.getElem?_cons_succ, List.set, List.all, List.nodup_nil, List.nil_append, List.cons_append, ↓reduceIte, Nat.reduceLT, Nat.reduceAdd, Nat.reduceEqDiff, Nat.zero_add, ne_eq, not_true_eq_false, or_false, Bool.and_true, Bool.false_eq_true, reduceCtorEq, decide_true, decide_false, and_self, Nat.succ_ne_zero, Nat.le_refl, eq_true hs, Tryz.results12]
        · simp only [mkR, flatD, packA, retA, List.headD_cons, fQ, xRet, rPs, xRes, flatA, rD, rDs, eq_self, xRun, vE, vP, vBin, vBinT, isAg, isBo, vBuild, vStore, isCutO, xFill, isB, bv, gT, gW, gN, gV, isU, isPick, pkC, pkB, isCall, AS.pt, AS.kn, AS.ev, AS.setb, look, cav, setRowG, AV.cells, AV.whole, AV.one, eatsOf, td0, td1, td2, td3, td4, td5, td6, Option.bind, Option.getD, Option.isSome, List.map, List.length, List.getElem?_cons_zero, List.getElem?_cons_succ, List.set, List.all, List.nodup_nil, List.nil_append, List.cons_append, ↓reduceIte, Nat.reduceLT, Nat.reduceAdd, Nat.reduceEqDiff, Nat.zero_add, ne_eq, not_false_eq_true, or_false, Bool.and_true, Bool.false_eq_true, reduceCtorEq, decide_true, decide_false, and_self, Nat.succ_ne_zero, Nat.le_refl, hs, Tryz.results12]
  · have hl2i : ¬ (xs.length : Int) = 2 := by omega
    have hx : cS s = ⟨opS s, 0⟩ := by rw [hcS, if_neg (fun h => hl2 h.1), if_neg hl2]
    simp only [eq_self, xRun, vE, vP, vSub, vLoad, vBin, vBinT, isAg, isBo, vLen, isCutO, isB, bv, gT, gW, gN, gV, isU, isPick, pkC, pkB, isCall, AS.pt, AS.kn, AS.ev, AS.owf, AS.rd, look, cav, td0, td1, td2, td3, td4, td5, td6, Option.bind, Option.getD, Option.map, Option.isSome, List.take, List.drop, List.length, List.getElem?_cons_zero, List.getElem?_cons_succ, ↓reduceIte, Nat.reduceLT, Nat.reduceAdd, Nat.reduceEqDiff, Nat.zero_add, true_and, Bool.not_true, Bool.false_eq_true, id_eq, decide_false, and_self, Nat.succ_ne_zero, Nat.le_refl, hl2i]
    have hit := con_ItS (cS s)
    have hiv := con_IsInstrS (cS s)
    rw [hx] at hit hiv
    rw [hx]
    obtain ⟨b, hb⟩ : ∃ b, insB ⟨opS s, 0⟩ = b := ⟨_, rfl⟩
    rw [hb] at hiv
    rw [hb]
    simp only [td0, td1, td2, td3, td4, td5, td6, insC]
    refine sw_call (hiv) rfl (aAs_ok ?_) ?_ (sw_run 200 _ _ _ ?_)
    · simp only [aAs, aA, aDs, aD, AS.ev, look, Option.getD, List.map, List.append_nil, ↓reduceIte, eq_self, and_self, insC]
    · simp only [okR]
    cases b
    · simp only [mkR, flatD, packA, retA, List.headD_cons, fQ, xRet, rPs, xRes, flatA, rD, rDs, eq_self, xRun, vE, vP, vNot, vBuild, vStore, isCutO, xFill, isB, bv, gT, gW, gN, gV, isU, isPick, pkC, pkA, isCall, AS.pt, AS.kn, AS.ev, AS.setb, look, cav, setRowG, AV.cells, AV.whole, AV.one, eatsOf, td0, td1, td2, td3, td4, td5, td6, Option.bind, Option.getD, Option.isSome, List.map, List.length, List.getElem?_cons_zero, List.getElem?_cons_succ, List.set, List.all, List.nodup_nil, List.nil_append, List.cons_append, ↓reduceIte, Nat.reduceLT, Nat.reduceAdd, Nat.reduceEqDiff, Nat.zero_add, false_and, or_false, Bool.and_true, Bool.not_false, Bool.false_eq_true, Bool.true_eq_false, reduceCtorEq, decide_false, and_self, Nat.succ_ne_zero, Nat.le_refl, Tryz.results12]
    · simp only [mkR, flatD, packA, retA, List.headD_cons, eq_self, xRun, vE, vP, vSub, vLoad, vNot, isCutO, isB, bv, gT, gW, gN, gV, isU, isPick, isCall, AS.pt, AS.kn, AS.ev, look, td0, td1, td2, td3, td4, td5, td6, Option.bind, Option.getD, Option.isSome, List.take, List.drop, List.length, List.getElem?_cons_zero, List.getElem?_cons_succ, ↓reduceIte, Nat.reduceLT, Nat.reduceAdd, Nat.reduceEqDiff, Nat.zero_add, true_and, Bool.not_true, Bool.false_eq_true, and_self, Nat.succ_ne_zero, Nat.le_refl]
      refine sw_call (hit) rfl (aAs_ok ?_) ?_ (sw_run 200 _ _ _ ?_)
      · simp only [aAs, aA, aDs, aD, AS.ev, look, Option.getD, List.map, List.append_nil, ↓reduceIte, Nat.reduceEqDiff, eq_self, and_self, insC]
      · simp only [okR]
      by_cases hs : itB ⟨opS s, 0⟩ = s
      · simp only [mkR, flatD, packA, retA, List.headD_cons, fQ, xRet, rPs, xRes, flatA, rD, rDs, eq_self, xRun, vE, vP, vSub, vLoad, vBin, vBinT, isAg, isBo, vStore, isCutO, isB, bv, gT, gW, gN, gV, isU, isPick, pkC, pkB, isCall, AS.pt, AS.kn, AS.ev, AS.setb, look, cav, setRowG, AV.cells, AV.whole, AV.one, eatsOf, td0, td1, td2, td3, td4, td5, td6, Option.bind, Option.getD, Option.isSome, List.map, List.take, List.drop, List.length, List.getElem?_cons_zero, List.getElem?_cons_succ, List.set, List.all, List.nodup_nil, List.nil_append, List.cons_append, ↓reduceIte, Nat.reduceLT, Nat.reduceAdd, Nat.reduceEqDiff, Nat.zero_add, ne_eq, not_true_eq_false, or_false, Bool.and_true, Bool.false_eq_true, reduceCtorEq, decide_true, decide_false, and_self, Nat.succ_ne_zero, Nat.le_refl, eq_true hs, Tryz.results12]
      · simp only [mkR, flatD, packA, retA, List.headD_cons, fQ, xRet, rPs, xRes, flatA, rD, rDs, eq_self, xRun, vE, vP, vBin, vBinT, isAg, isBo, vBuild, vStore, isCutO, xFill, isB, bv, gT, gW, gN, gV, isU, isPick, pkC, pkB, isCall, AS.pt, AS.kn, AS.ev, AS.setb, look, cav, setRowG, AV.cells, AV.whole, AV.one, eatsOf, td0, td1, td2, td3, td4, td5, td6, Option.bind, Option.getD, Option.isSome, List.map, List.length, List.getElem?_cons_zero, List.getElem?_cons_succ, List.set, List.all, List.nodup_nil, List.nil_append, List.cons_append, ↓reduceIte, Nat.reduceLT, Nat.reduceAdd, Nat.reduceEqDiff, Nat.zero_add, ne_eq, not_false_eq_true, or_false, Bool.and_true, Bool.false_eq_true, reduceCtorEq, decide_true, decide_false, and_self, Nat.succ_ne_zero, Nat.le_refl, hs, Tryz.results12]
end Go.Proofs.YtfbjdeeomjfhkaaGreatDoor
