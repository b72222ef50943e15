/-
  Reading of numbers and splitting of texts: the reference's side, and plain laws for both.
-/
import Derived.Test.YtlmiakgannpocaaDoorITx
import Derived.Test.YtlmiakgannpocaaDoorMarkText
import Derived.Test.YtlmiakgannpocaaDoorNm
import Derived.Test.YtlmiakgannpocaaDoorCon2
import Derived.Lib.AtoiAllCases
import Derived.Lib.ItoaMem
import Derived.Lib.Split
namespace Go.Proofs.YtlmiakgannpocaaDoor
open Go.RowKit
set_option linter.unusedVariables false
set_option linter.unusedSimpArgs false
set_option maxRecDepth 20000
/-! Reading a number -/
theorem sz_toL (s : ByteArray) : s.data.toList.length = s.size := Array.length_toList
def stepD (o : Option Nat) (c : UInt8) : Option Nat := o.bind fun n => if 48 ≤ c.toNat ∧ c.toNat ≤ 57 then some (10 * n + (c.toNat - 48)) else none
def dvL (l : List UInt8) : Option Nat := l.foldl stepD (some 0)
theorem dvL_snoc (l : List UInt8) (c : UInt8) : dvL (l ++ [c]) = stepD (dvL l) c := by rw [dvL, List.foldl_append]; rfl
theorem stepD_none : ∀ l : List UInt8, l.foldl stepD none = none
  | [] => rfl
  | _ :: r => stepD_none r
theorem dvL_app {a b : List UInt8} (h : dvL a = none) : dvL (a ++ b) = none := by
  rw [dvL, List.foldl_append, ← dvL, h]; exact stepD_none b
theorem dvL_dec (n : Nat) : dvL (Lib.decDigits n) = some n := by
  induction n using Nat.strongRecOn with
  | ind n ih =>
    have hd : ∀ d, d < 10 → (UInt8.ofNat (48 + d)).toNat = 48 + d := fun d hd => by
      rw [UInt8.toNat_ofNat']; omega
    by_cases h : n < 10
    · rw [Lib.decDigits_one h]
      show stepD (some 0) _ = _
      rw [stepD, Option.bind_some, hd n h, if_pos (by omega)]
      congr 1; omega
    · rw [Lib.decDigits, dif_neg h, dvL_snoc, ih (n / 10) (by omega), stepD, Option.bind_some, hd _ (by omega), if_pos (by omega)]
      congr 1; omega
theorem fold_le : ∀ (l : List UInt8) (a u : Nat), l.foldl stepD (some a) = some u → a ≤ u
  | [], a, u, h => by injection h with h; omega
  | c :: r, a, u, h => by
    rw [List.foldl_cons, stepD, Option.bind_some] at h
    by_cases hc : 48 ≤ c.toNat ∧ c.toNat ≤ 57
    · rw [if_pos hc] at h
      have := fold_le r _ u h
      omega
    · rw [if_neg hc, stepD_none] at h; cases h
theorem pu_fold : ∀ (l : List UInt8) (a u : Nat), u ≤ 1000000000000000000 → l.foldl stepD (some a) = some u → Lib.parseUint10 a l = .ok u
  | [], a, u, _, h => by injection h with h; rw [Lib.parseUint10, h]
  | c :: r, a, u, hu, h => by
    rw [List.foldl_cons, stepD, Option.bind_some] at h
    by_cases hc : 48 ≤ c.toNat ∧ c.toNat ≤ 57
    · rw [if_pos hc] at h
      have hle := fold_le r _ u h
      rw [Lib.parseUint10, if_pos hc, if_neg (by omega), if_neg (by omega), Nat.mul_comm]
      exact pu_fold r _ u hu h
    · rw [if_neg hc, stepD_none] at h; cases h
theorem dd_ne (n : Nat) : Lib.decDigits n ≠ [] := by
  rw [Lib.decDigits]; split <;> simp
theorem dd_head (n : Nat) : ∃ c r, Lib.decDigits n = c :: r ∧ 48 ≤ c.toNat ∧ c.toNat ≤ 57 := by
  cases h : Lib.decDigits n with
  | nil => exact absurd h (dd_ne n)
  | cons c r =>
    refine ⟨c, r, rfl, ?_⟩
    have h1 := dvL_dec n
    rw [h, dvL, List.foldl_cons, stepD, Option.bind_some] at h1
    by_cases hc : 48 ≤ c.toNat ∧ c.toNat ≤ 57
    · exact hc
    · rw [if_neg hc, stepD_none] at h1; cases h1
theorem dd_dig (n : Nat) (c : UInt8) (h : c ∈ Lib.decDigits n) : 48 ≤ c.toNat ∧ c.toNat ≤ 57 := by
  obtain ⟨a, b, e⟩ := List.append_of_mem h
  have h1 := dvL_dec n
  rw [e, dvL, List.foldl_append, List.foldl_cons] at h1
  by_cases hc : 48 ≤ c.toNat ∧ c.toNat ≤ 57
  · exact hc
  · exfalso
    have : stepD (List.foldl stepD (some 0) a) c = none := by
      rw [stepD]
      cases List.foldl stepD (some 0) a with
      | none => rfl
      | some m => rw [Option.bind_some, if_neg hc]
    rw [this, stepD_none] at h1; cases h1
theorem atoi_dd (n : Nat) (h : n ≤ 1000000) : Lib.atoiAll (Lib.decDigits n) = .ok (n : Int) := by
  obtain ⟨c, r, e, h1, h2⟩ := dd_head n
  have hp : Lib.parseMag (c :: r) = .ok n := by
    rw [Lib.parseMag, if_neg (by simp), ← e]
    exact pu_fold _ 0 n (by omega) (dvL_dec n)
  rw [e, Lib.atoiAll_plain c r (by omega) (by omega), hp]
  show (if _ then _ else _) = _
  rw [if_neg (by omega)]
/-- What the program's ParseNumber gives. -/
def niI (s : ByteArray) : Int := match Lib.atoiAll s.data.toList with
  | .ok v => if Lib.itoa v = s.data.toList ∧ 0 ≤ v ∧ v ≤ 999999 then v else 0
  | _ => 0
def noI (s : ByteArray) : Bool := match Lib.atoiAll s.data.toList with
  | .ok v => decide (Lib.itoa v = s.data.toList ∧ 0 ≤ v ∧ v ≤ 999999)
  | _ => false
theorem niI_num (n : Nat) (h : n ≤ 999999) : niI (numL n) = (n : Int) := by
  have e : (numL n).data.toList = Lib.decDigits n := rfl
  rw [niI, e, atoi_dd n (by omega)]
  show (if _ then _ else _) = _
  rw [if_pos ⟨Lib.itoa_nonneg n, by omega, by omega⟩]
def numZ (n : Int) : ByteArray := if n < 0 then ⟨#[45]⟩ ++ numL n.natAbs else numL n.toNat
/-- What the reference's l1Read gives, most = 6. -/
def negB (s : ByteArray) : Bool := decide (0 < s.size) && decide (byteI s 0 = 45)
def magB (s : ByteArray) : ByteArray := if negB s = true then s.extract 1 s.size else s
def rdV (s : ByteArray) (n : Nat) : Int := if negB s = true then -(n : Int) else n
def rdP (s : ByteArray) : Int × Bool :=
  if (magB s).size < 1 ∨ 6 < (magB s).size then (0, false) else
  match dvL (magB s).data.toList with
  | none => (0, false)
  | some n => if numZ (rdV s n) = s then (rdV s n, true) else (0, false)
def nsP (s : ByteArray) : Int × Bool := if (rdP s).2 = false ∨ (rdP s).1 < 0 then (0, false) else rdP s
theorem nsP_num (n : Nat) (h : n ≤ 999999) : nsP (numL n) = ((n : Int), true) := by
  have e : (numL n).data.toList = Lib.decDigits n := rfl
  have hz : (numL n).size = (Lib.decDigits n).length := by rw [← e]; exact (sz_toL _).symm
  obtain ⟨c, r, e1, h1, h2⟩ := dd_head n
  have hb : negB (numL n) = false := by
    have : byteI (numL n) 0 = (c.toNat : Int) := by
      show (((Lib.decDigits n).toArray.getD 0 0).toNat : Int) = _
      rw [e1]; rfl
    rw [negB, this, show decide ((c.toNat : Int) = 45) = false from decide_eq_false (by omega), Bool.and_false]
  have hm : magB (numL n) = numL n := by rw [magB, hb]; rfl
  have hl : (Lib.decDigits n).length ≤ 6 := dd_len 5 n (by omega)
  have hl1 : 1 ≤ (Lib.decDigits n).length := by rw [e1]; simp
  have hv : rdV (numL n) n = n := by rw [rdV, hb]; rfl
  have hr : rdP (numL n) = ((n : Int), true) := by
    rw [rdP, hm, if_neg (by omega), e, dvL_dec]
    show (if _ then _ else _) = _
    rw [hv, if_pos (by rw [numZ, if_neg (by omega)]; simp)]
  rw [nsP, hr, if_neg (by simp)]
/-! Splitting -/
def spl (s : ByteArray) (c : UInt8) : Nat → List ByteArray × Nat
  | 0 => ([], 0)
  | i + 1 => if i = s.size ∨ byteI s i = (c.toNat : Int) then ((spl s c i).1 ++ [s.extract (spl s c i).2 i], i + 1) else spl s c i
def splB (s : ByteArray) (c : UInt8) : List ByteArray := (spl s c (s.size + 1)).1
def splL (c : UInt8) : List UInt8 → List (List UInt8)
  | [] => [[]]
  | x :: r => if x = c then [] :: splL c r else match splL c r with
    | h :: t => (x :: h) :: t
    | [] => [[x]]
theorem splL_ne (c : UInt8) : ∀ l, splL c l ≠ []
  | [] => by simp [splL]
  | x :: r => by
    rw [splL]; split
    · simp
    · split <;> simp
/-- The parts before the first one of a list's rest, put in front. -/
def pre1 (p : List UInt8) : List (List UInt8) → List (List UInt8)
  | h :: t => (p ++ h) :: t
  | [] => [p]
theorem pre1_nil {l} (h : l ≠ []) : pre1 [] l = l := by cases l <;> simp_all [pre1]
theorem pre1_snoc (p : List UInt8) (x : UInt8) (c : UInt8) (r : List UInt8) (hx : ¬ x = c) : pre1 p (splL c (x :: r)) = pre1 (p ++ [x]) (splL c r) := by
  rw [splL, if_neg hx]
  cases h : splL c r with
  | nil => exact absurd h (splL_ne c r)
  | cons a b => simp [pre1]
theorem spl_inv (s : ByteArray) (c : UInt8) : ∀ i, i ≤ s.size → (spl s c i).2 ≤ i ∧ ((spl s c i).1.map (·.data.toList)) ++ pre1 ((s.data.toList.drop (spl s c i).2).take (i - (spl s c i).2)) (splL c (s.data.toList.drop i)) = splL c s.data.toList
  | 0, _ => by
    refine ⟨Nat.le_refl _, ?_⟩
    show [] ++ pre1 (List.take (0 - 0) _) (splL c (List.drop 0 _)) = _
    rw [Nat.sub_zero, List.take_zero, List.drop_zero, List.nil_append, pre1_nil (splL_ne c _)]
  | i + 1, hi => by
    obtain ⟨h1, h2⟩ := spl_inv s c i (by omega)
    have hlt : i < s.data.toList.length := by rw [sz_toL]; exact hi
    have hx : byteI s i = ((s.data.toList[i]).toNat : Int) := by
      unfold byteI
      rw [Array.getD_eq_getD_getElem?, Array.getElem?_eq_getElem (show i < s.data.size from hi), Option.getD_some, Array.getElem_toList]
    have hd := List.drop_eq_getElem_cons hlt
    by_cases hc : byteI s i = (c.toNat : Int)
    · have hcc : s.data.toList[i] = c := by
        rw [hx] at hc
        exact UInt8.toNat_inj.1 (by omega)
      rw [show spl s c (i + 1) = ((spl s c i).1 ++ [s.extract (spl s c i).2 i], i + 1) by rw [spl, if_pos (Or.inr hc)]]
      refine ⟨Nat.le_refl _, ?_⟩
      rw [hd, hcc, splL, if_pos rfl] at h2
      simp only [Nat.sub_self, List.take_zero, pre1_nil (splL_ne c _)]
      rw [← h2, List.map_append, List.append_assoc]
      simp [pre1, List.take_drop]
    · have hcc : ¬ s.data.toList[i] = c := fun e => hc (by rw [hx, e])
      rw [show spl s c (i + 1) = spl s c i by rw [spl, if_neg (by rintro (h | h); omega; exact hc h)]]
      refine ⟨by omega, ?_⟩
      rw [← h2, hd, pre1_snoc _ _ _ _ hcc]
      congr 2
      rw [show i + 1 - (spl s c i).2 = (i - (spl s c i).2) + 1 by omega, List.take_add_one, List.getElem?_drop, show (spl s c i).2 + (i - (spl s c i).2) = i by omega, List.getElem?_eq_getElem hlt]
      rfl
theorem splB_L (s : ByteArray) (c : UInt8) : (splB s c).map (·.data.toList) = splL c s.data.toList := by
  obtain ⟨h1, h2⟩ := spl_inv s c s.size (Nat.le_refl _)
  have hl : s.data.toList.length = s.size := sz_toL s
  rw [splB, show spl s c (s.size + 1) = ((spl s c s.size).1 ++ [s.extract (spl s c s.size).2 s.size], s.size + 1) by rw [spl, if_pos (Or.inl rfl)]]
  rw [← hl, List.drop_length, hl] at h2
  rw [← h2, List.map_append]
  simp [pre1, splL, List.take_drop]
theorem spl_len (s : ByteArray) (c : UInt8) : ∀ i, (spl s c i).1.length ≤ i ∧ (spl s c i).2 ≤ i
  | 0 => ⟨Nat.le_refl _, Nat.le_refl _⟩
  | i + 1 => by
    obtain ⟨h1, h2⟩ := spl_len s c i
    rw [spl]; split
    · simp; omega
    · omega
theorem idx1 (c : UInt8) : ∀ l : List UInt8, (c ∉ l ∧ Lib.index l [c] = -1) ∨ ∃ a r, l = a ++ c :: r ∧ c ∉ a ∧ Lib.index l [c] = (a.length : Int)
  | [] => Or.inl ⟨by simp, rfl⟩
  | b :: l => by
    by_cases hb : c = b
    · subst hb
      exact Or.inr ⟨[], l, rfl, by simp, by rw [Lib.index, if_pos (by simp [List.isPrefixOf])]; rfl⟩
    · have hp : ¬ List.isPrefixOf [c] (b :: l) = true := by simp [List.isPrefixOf, hb]
      rcases idx1 c l with ⟨h1, h2⟩ | ⟨a, r, h1, h2, h3⟩
      · exact Or.inl ⟨by simp [hb, h1], by rw [Lib.index, if_neg hp, h2]; rfl⟩
      · refine Or.inr ⟨b :: a, r, by rw [h1]; rfl, by simp [hb, h2], ?_⟩
        rw [Lib.index, if_neg hp, h3, if_neg (by rw [beq_iff_eq]; omega)]
        simp
theorem splL_in (c : UInt8) : ∀ (a r : List UInt8), c ∉ a → splL c (a ++ c :: r) = a :: splL c r
  | [], r, _ => by rw [List.nil_append, splL, if_pos rfl]
  | x :: a, r, h => by
    rw [List.mem_cons, not_or] at h
    rw [List.cons_append, splL, if_neg (fun e => h.1 e.symm), splL_in c a r h.2]
theorem splL_no (c : UInt8) : ∀ (a : List UInt8), c ∉ a → splL c a = [a]
  | [], _ => rfl
  | x :: a, h => by
    rw [List.mem_cons, not_or] at h
    rw [splL, if_neg (fun e => h.1 e.symm), splL_no c a h.2]
theorem cut_in (c : UInt8) (a r : List UInt8) (h : c ∉ a) : Lib.cut (a ++ c :: r) [c] = (a, r, true) := by
  rcases idx1 c (a ++ c :: r) with ⟨h1, h2⟩ | ⟨a', r', h1, h2, h3⟩
  · exact absurd (by simp) h1
  · have e := splL_in c a r h
    have e' := splL_in c a' r' h2
    rw [← h1, e] at e'
    injection e' with e1 e2
    subst e1
    rw [Lib.cut, h3, if_pos (by omega)]
    simp [List.drop_append]
theorem cut_no (c : UInt8) (a : List UInt8) (h : c ∉ a) : Lib.cut a [c] = (a, [], false) := by
  rcases idx1 c a with ⟨h1, h2⟩ | ⟨a', r', h1, h2, h3⟩
  · rw [Lib.cut, h2, if_neg (by omega)]
  · exact absurd (by rw [h1]; simp) h
theorem dr_in (c : UInt8) (a r : List UInt8) : (a ++ c :: r).drop ((((a.length : Nat) : Int)).toNat + [c].length) = r := by
  rw [show (((a.length : Nat) : Int)).toNat + [c].length = (a ++ [c]).length by simp, show a ++ c :: r = (a ++ [c]) ++ r by simp, List.drop_left]
theorem countF (c : UInt8) : ∀ (f : Nat) (l : List UInt8), l.length < f → Lib.countFrom [c] f l = List.count c l
  | 0, l, h => by omega
  | f + 1, l, h => by
    rcases idx1 c l with ⟨h1, h2⟩ | ⟨a, r, h1, h2, h3⟩
    · rw [Lib.countFrom, h2, List.count_eq_zero.2 h1]; rfl
    · have hl : l.length = a.length + (r.length + 1) := by rw [h1]; simp
      rw [Lib.countFrom, h3, if_neg (by rw [beq_iff_eq]; omega), countF c f _ (by rw [List.length_drop]; simp; omega), h1]
      rw [List.count_append, List.count_eq_zero.2 h2, List.count_cons_self]
      rw [dr_in]
      omega
theorem splitK_L (c : UInt8) : ∀ (k : Nat) (l : List UInt8), List.count c l = k → Lib.splitK [c] 0 k l = splL c l
  | 0, l, h => by rw [Lib.splitK, splL_no c l (List.count_eq_zero.1 h)]
  | k + 1, l, h => by
    rcases idx1 c l with ⟨h1, h2⟩ | ⟨a, r, h1, h2, h3⟩
    · rw [List.count_eq_zero.2 h1] at h; omega
    · have hk : List.count c r = k := by
        rw [h1, List.count_append, List.count_eq_zero.2 h2, List.count_cons_self] at h; omega
      rw [Lib.splitK, h3, if_neg (by rw [beq_iff_eq]; omega), h1, splL_in c a r h2, ← splitK_L c k r hk, dr_in]
      simp
theorem split_L (c : UInt8) (l : List UInt8) : Lib.split l [c] = splL c l := by
  rw [Lib.split, Lib.count, countF c _ l (by omega)]
  exact splitK_L c _ l rfl
theorem dv_lt : ∀ (k : Nat) (l : List UInt8), l.length = k → ∀ n, dvL l = some n → n < 10 ^ k := by
  intro k
  induction k with
  | zero =>
    intro l h n e
    rw [List.eq_nil_of_length_eq_zero h] at e
    injection e with e
    rw [← e]; decide
  | succ k ih =>
    intro l h n e
    have hne : l ≠ [] := by intro h'; rw [h'] at h; cases h
    obtain ⟨a, c, rfl⟩ : ∃ a c, l = a ++ [c] := ⟨_, _, (List.dropLast_concat_getLast hne).symm⟩
    rw [dvL_snoc] at e
    cases hd : dvL a with
    | none => rw [hd] at e; cases e
    | some m =>
      have hm := ih a (by simpa using h) m hd
      rw [hd, stepD, Option.bind_some] at e
      by_cases hc : 48 ≤ c.toNat ∧ c.toNat ≤ 57
      · rw [if_pos hc] at e
        injection e with e
        rw [Nat.pow_succ]; omega
      · rw [if_neg hc] at e; cases e
theorem dv_step (t : ByteArray) (k : Nat) (hk : k < t.size) : dvL (t.data.toList.take (k + 1)) = stepD (dvL (t.data.toList.take k)) (t.data.getD k 0) := by
  rw [List.take_add_one, List.getElem?_eq_getElem (show k < t.data.toList.length by rw [sz_toL]; exact hk), Option.toList, dvL_snoc]
  rw [Array.getD_eq_getD_getElem?, Array.getElem?_eq_getElem (show k < t.data.size from hk), Option.getD_some, Array.getElem_toList]
theorem dv_ok (t : ByteArray) (k n : Nat) (hk : k < t.size) (h : dvL (t.data.toList.take k) = some n) (h1 : 48 ≤ byteI t k) (h2 : byteI t k ≤ 57) : dvL (t.data.toList.take (k + 1)) = some (10 * n + ((byteI t k).toNat - 48)) := by
  unfold byteI at *
  rw [dv_step t k hk, h, stepD, Option.bind_some, if_pos (by omega)]
  congr 1
theorem dv_bad (t : ByteArray) (k n : Nat) (hk : k < t.size) (h : dvL (t.data.toList.take k) = some n) (hb : byteI t k < 48 ∨ 57 < byteI t k) : dvL t.data.toList = none := by
  unfold byteI at hb
  rw [← List.take_append_drop (k + 1) t.data.toList]
  refine dvL_app ?_
  rw [dv_step t k hk, h, stepD, Option.bind_some, if_neg (by omega)]
set_option maxRecDepth 100000 in
set_option maxHeartbeats 4000000 in
theorem spec_FmtNeg (n : Nat) (w : World) (h0 : n ≠ 0) (hn : n ≤ 1000000) :
    Calls Tryd.prog 31 #[.int .i64 (-(n : Int))] w fun e w' => e = .returned (.string (⟨#[45]⟩ ++ numL n)) ∧ Below w.heap.size w w' := by
  have h0i : ¬ -(n : Int) = 0 := by omega
  have hlt : -(n : Int) < 0 := by omega
  go_enter Tryd.func31, Tryd.ntmps31
  go_wp2
  go_loopw [0, 4] (fun i out wr => ∃ (m : Nat) (l : List UInt8), m ≤ n ∧ i = .int .i64 (-(m : Int)) ∧ out = .string ⟨l.toArray⟩ ∧ Hid (Lib.decDigits n = (if m = 0 then [] else Lib.decDigits m) ++ l) ∧ l.length ≤ n - m ∧ Below w.heap.size w wr) (fun i _ _ => (intOf i).natAbs)
  case atStart =>
    refine ⟨n, [], Nat.le_refl _, rfl, rfl, ?_, by simp, Below.refl _ _⟩
    exact Lib.hid (by rw [if_neg h0, List.append_nil])
  case round =>
    obtain ⟨m, l, hm, rfl, rfl, hl, hll, hb⟩ := hrel
    by_cases hz : m = 0
    · subst hz
      have e := hl.out
      rw [if_pos rfl, List.nil_append] at e
      clear hl
      go_wp2
      go_ret
      exact ⟨by rw [numL, e]; rfl, hb⟩
    · have hzi : ¬ -(m : Int) = 0 := by omega
      have hcv := conv_one
      have hbs := hb.size
      have hst := dd_step m (by omega) l
      have htm : (-(m : Int)).tmod 10 = -((m % 10 : Nat) : Int) := by rw [Int.neg_tmod]; rfl
      have htd : (-(m : Int)).tdiv 10 = -((m / 10 : Nat) : Int) := by rw [Int.neg_tdiv]; rfl
      by_cases hd : m % 10 = 0
      · go_wp2
        refine ⟨⟨m / 10, UInt8.ofNat (48 + m % 10) :: l, by omega, by congr 1, ?_, Lib.hid (hl.out.trans hst), ?_, hb.alloc hbs _⟩, ?_⟩
        · rw [hd]
          congr 1
        · rw [List.length_cons]; omega
        · simp only [intOf]; omega
      · have hneg : ((-((m % 10 : Nat) : Int)) < 0) := by omega
        have hsub : (0 - -((m % 10 : Nat) : Int)) = ((m % 10 : Nat) : Int) := by omega
        go_wp2
        refine ⟨⟨m / 10, UInt8.ofNat (48 + m % 10) :: l, by omega, by congr 1, ?_, Lib.hid (hl.out.trans hst), ?_, hb.alloc hbs _⟩, ?_⟩
        · rw [show (48 : UInt8) + UInt8.ofNat (m % 10) = UInt8.ofNat (48 + m % 10) by simp [UInt8.ofNat_add]]
          congr 1
        · rw [List.length_cons]; omega
        · simp only [intOf]; omega
theorem con_FmtZ (n : Int) (h : -1000000 ≤ n ∧ n ≤ 1000000) : Con Tryd.prog 31 [.one (.int n)] [.one (.str (numZ n))] := by
  by_cases hn : n < 0
  · refine con_U1 ⟨_, rfl, by kernel_rfl, by kernel_rfl⟩ ?_
    intro w us hu
    obtain ⟨v, r, rfl, h1, h2⟩ := rpd_c hu
    obtain rfl := rpd_n h2
    obtain rfl := rpd_iint h1
    have := spec_FmtNeg n.natAbs w (by omega) (by omega)
    rw [show -((n.natAbs : Nat) : Int) = n by omega] at this
    refine this.mono ?_
    rintro e w' ⟨rfl, hb⟩
    exact ⟨_, rfl, by rw [numZ, if_pos hn]; exact fr_str _ _ _, hb⟩
  · rw [numZ, if_neg hn]; exact con_FmtS n (by omega)
theorem con_l1Read0 (s : ByteArray) (hz : s.size = 0) : Con Tryd.prog 28 [.one (.str s), .one (.int 6)] [.one (.int (rdP s).1), .one (.bool (rdP s).2)] := by
  have h0 : ¬ 0 < (s.size : Int) := by omega
  have h1 : (s.size : Int) < 1 := by omega
  have hr : rdP s = (0, false) := by
    have hb : negB s = false := by rw [negB, hz]; rfl
    have hm : magB s = s := by rw [magB, hb]; rfl
    rw [rdP, hm, if_pos (by omega)]
  rw [hr]
  refine con_run Tryd.func28 rfl rfl (by simp [Tryd.ntmps28]) ?_
  simp only [argT, argA, argAs, s0M, numT, flatM, packM, AS.kl, eatM, mkR, flatD, packA, retA, List.headD_cons, List.tail_cons, fQ, qLp, tysD, tmsD, strsD, intsD, rowD, xRet, rPs, xRes, flatA, rD, rDs, eq_self, true_or, xRun, vE, vP, vSub, vLoad, vFld, vIdx, vBin, vBinT, vEqA, shp, isAg, isBo, bvA, vEqB, vMax, cellsA, eqAV, eqAVs, shpOk, vNot, vLen, vChr, vExt, vBuild, vCut, vSlc, vCnv, vRow, vStore, vStE, primD, primDs, AS.setO, AV.unsp, AV.unsps, unspT, unspB, vApp, apP, apC, isCl, isCutO, vMake, iOf, bad, xFill, appL, appR, ixL, ixH, isB, bv, gT, gW, gN, gV, isU, isPick, pkC, pkA, pkB, isCall, popTo, AS.pt, AS.kn, AS.ev, AS.box, AS.setb, AS.mk', AS.owf, AS.rd, kill, look, cav, avB, avO, setRowG, AV.cells, AV.whole, AV.one, cD, cDs, eatsOf, dpOf, td0, td1, td2, td3, td4, td5, td6, Option.bind, Option.getD, Option.map, Option.isSome, List.map, List.take, List.drop, List.length, List.getElem?_cons_zero, List.getElem?_cons_succ, List.getElem?_nil, List.set, List.flatMap, List.foldr, List.all, List.replicate, List.mem_cons, List.not_mem_nil, List.nodup_cons, List.nodup_nil, List.nil_append, List.cons_append, List.append_nil, ↓reduceIte, Nat.reduceLT, Nat.reduceAdd, Nat.reduceMul, Nat.reduceLeDiff, Nat.reduceEqDiff, Nat.zero_add, Nat.add_zero, Nat.mul_zero, Nat.zero_mul, Nat.one_mul, Nat.mul_one, ne_eq, not_false_eq_true, not_true_eq_false, true_and, and_true, false_and, and_false, or_false, or_true, false_or, true_or, Bool.true_and, Bool.and_true, Bool.false_and, Bool.and_false, Bool.not_true, Bool.not_false, Bool.false_eq_true, Bool.true_eq_false, id_eq, reduceCtorEq, Int.toNat_natCast, Int.reduceLT, Int.reduceLE, Int.reduceEq, Int.reduceNe, Int.reduceAdd, Int.reduceSub, Int.reduceMul, Int.reduceNeg, Int.reduceToNat, Nat.reduceSub, Int.toNat_zero, Int.toNat_one, Int.natCast_zero, Int.le_refl, Int.natCast_nonneg, decide_true, decide_false, and_self, decide_eq_true_eq, decide_eq_false_iff_not, Nat.succ_ne_zero, Nat.zero_le, Nat.le_refl, h0, eq_true h1, Tryd.ntmps28, Tryd.results28]
def dvN (t : ByteArray) (k : Nat) : Nat := (dvL (t.data.toList.take k)).getD 0
theorem con_l1ReadB (s : ByteArray) (hz : s.size ≤ 1000000000) (h00 : 0 < s.size) (hc : byteI s 0 = 45) : Con Tryd.prog 28 [.one (.str s), .one (.int 6)] [.one (.int (rdP s).1), .one (.bool (rdP s).2)] := by
  have h0 : 0 < (s.size : Int) := by omega
  have hB : ((((s.data.getD 0 0).toNat : Nat)) : Int) = byteI s 0 := rfl
  have hb : negB s = true := by rw [negB, decide_eq_true h00, decide_eq_true hc]; rfl
  have hm : s.extract 1 s.size = magB s := by rw [magB, hb]; rfl
  have hv : ∀ n, rdV s n = -(n : Int) := fun n => by rw [rdV, hb]; rfl
  have hs1 : 1 ≤ (s.size : Int) := by omega
  obtain ⟨t, ht⟩ : ∃ t, t = magB s := ⟨_, rfl⟩
  have hts : t.size ≤ s.size := by rw [ht, ← hm]; simp
  rw [← ht] at hm
  have hrd0 : (t.size < 1 ∨ 6 < t.size) → rdP s = (0, false) := fun hr => by rw [rdP, ← ht, if_pos hr]
  have hrd : ¬ (t.size < 1 ∨ 6 < t.size) → rdP s = (match dvL t.data.toList with | none => (0, false) | some n => if numZ (rdV s n) = s then (rdV s n, true) else (0, false)) := fun hr => by rw [rdP, ← ht, if_neg hr]
  clear ht
  by_cases hr : t.size < 1 ∨ 6 < t.size
  · rw [hrd0 hr]
    rcases hr with hr | hr
    · have h1 : (t.size : Int) < 1 := by omega
      refine con_run Tryd.func28 rfl rfl (by simp [Tryd.ntmps28]) ?_
      simp only [argT, argA, argAs, s0M, numT, flatM, packM, AS.kl, eatM, mkR, flatD, packA, retA, List.headD_cons, List.tail_cons, fQ, qLp, tysD, tmsD, strsD, intsD, rowD, xRet, rPs, xRes, flatA, rD, rDs, eq_self, true_or, xRun, vE, vP, vSub, vLoad, vFld, vIdx, vBin, vBinT, vEqA, shp, isAg, isBo, bvA, vEqB, vMax, cellsA, eqAV, eqAVs, shpOk, vNot, vLen, vChr, vExt, vBuild, vCut, vSlc, vCnv, vRow, vStore, vStE, primD, primDs, AS.setO, AV.unsp, AV.unsps, unspT, unspB, vApp, apP, apC, isCl, isCutO, vMake, iOf, bad, xFill, appL, appR, ixL, ixH, isB, bv, gT, gW, gN, gV, isU, isPick, pkC, pkA, pkB, isCall, popTo, AS.pt, AS.kn, AS.ev, AS.box, AS.setb, AS.mk', AS.owf, AS.rd, kill, look, cav, avB, avO, setRowG, AV.cells, AV.whole, AV.one, cD, cDs, eatsOf, dpOf, td0, td1, td2, td3, td4, td5, td6, Option.bind, Option.getD, Option.map, Option.isSome, List.map, List.take, List.drop, List.length, List.getElem?_cons_zero, List.getElem?_cons_succ, List.getElem?_nil, List.set, List.flatMap, List.foldr, List.all, List.replicate, List.mem_cons, List.not_mem_nil, List.nodup_cons, List.nodup_nil, List.nil_append, List.cons_append, List.append_nil, ↓reduceIte, Nat.reduceLT, Nat.reduceAdd, Nat.reduceMul, Nat.reduceLeDiff, Nat.reduceEqDiff, Nat.zero_add, Nat.add_zero, Nat.mul_zero, Nat.zero_mul, Nat.one_mul, Nat.mul_one, ne_eq, not_false_eq_true, not_true_eq_false, true_and, and_true, false_and, and_false, or_false, or_true, false_or, true_or, Bool.true_and, Bool.and_true, Bool.false_and, Bool.and_false, Bool.not_true, Bool.not_false, Bool.false_eq_true, Bool.true_eq_false, id_eq, reduceCtorEq, Int.toNat_natCast, Int.reduceLT, Int.reduceLE, Int.reduceEq, Int.reduceNe, Int.reduceAdd, Int.reduceSub, Int.reduceMul, Int.reduceNeg, Int.reduceToNat, Nat.reduceSub, Int.toNat_zero, Int.toNat_one, Int.natCast_zero, Int.le_refl, Int.natCast_nonneg, decide_true, decide_false, and_self, decide_eq_true_eq, decide_eq_false_iff_not, Nat.succ_ne_zero, Nat.zero_le, Nat.le_refl, h0, hs1, hB, eq_true hc, hm, eq_true h1, Tryd.ntmps28, Tryd.results28]
    · have h1 : ¬ (t.size : Int) < 1 := by omega
      have h2 : 6 < (t.size : Int) := by omega
      refine con_run Tryd.func28 rfl rfl (by simp [Tryd.ntmps28]) ?_
      simp only [argT, argA, argAs, s0M, numT, flatM, packM, AS.kl, eatM, mkR, flatD, packA, retA, List.headD_cons, List.tail_cons, fQ, qLp, tysD, tmsD, strsD, intsD, rowD, xRet, rPs, xRes, flatA, rD, rDs, eq_self, true_or, xRun, vE, vP, vSub, vLoad, vFld, vIdx, vBin, vBinT, vEqA, shp, isAg, isBo, bvA, vEqB, vMax, cellsA, eqAV, eqAVs, shpOk, vNot, vLen, vChr, vExt, vBuild, vCut, vSlc, vCnv, vRow, vStore, vStE, primD, primDs, AS.setO, AV.unsp, AV.unsps, unspT, unspB, vApp, apP, apC, isCl, isCutO, vMake, iOf, bad, xFill, appL, appR, ixL, ixH, isB, bv, gT, gW, gN, gV, isU, isPick, pkC, pkA, pkB, isCall, popTo, AS.pt, AS.kn, AS.ev, AS.box, AS.setb, AS.mk', AS.owf, AS.rd, kill, look, cav, avB, avO, setRowG, AV.cells, AV.whole, AV.one, cD, cDs, eatsOf, dpOf, td0, td1, td2, td3, td4, td5, td6, Option.bind, Option.getD, Option.map, Option.isSome, List.map, List.take, List.drop, List.length, List.getElem?_cons_zero, List.getElem?_cons_succ, List.getElem?_nil, List.set, List.flatMap, List.foldr, List.all, List.replicate, List.mem_cons, List.not_mem_nil, List.nodup_cons, List.nodup_nil, List.nil_append, List.cons_append, List.append_nil, ↓reduceIte, Nat.reduceLT, Nat.reduceAdd, Nat.reduceMul, Nat.reduceLeDiff, Nat.reduceEqDiff, Nat.zero_add, Nat.add_zero, Nat.mul_zero, Nat.zero_mul, Nat.one_mul, Nat.mul_one, ne_eq, not_false_eq_true, not_true_eq_false, true_and, and_true, false_and, and_false, or_false, or_true, false_or, true_or, Bool.true_and, Bool.and_true, Bool.false_and, Bool.and_false, Bool.not_true, Bool.not_false, Bool.false_eq_true, Bool.true_eq_false, id_eq, reduceCtorEq, Int.toNat_natCast, Int.reduceLT, Int.reduceLE, Int.reduceEq, Int.reduceNe, Int.reduceAdd, Int.reduceSub, Int.reduceMul, Int.reduceNeg, Int.reduceToNat, Nat.reduceSub, Int.toNat_zero, Int.toNat_one, Int.natCast_zero, Int.le_refl, Int.natCast_nonneg, decide_true, decide_false, and_self, decide_eq_true_eq, decide_eq_false_iff_not, Nat.succ_ne_zero, Nat.zero_le, Nat.le_refl, h0, hs1, hB, eq_true hc, hm, h1, eq_true h2, Tryd.ntmps28, Tryd.results28]
  · have h1 : ¬ (t.size : Int) < 1 := by omega
    have h2 : ¬ 6 < (t.size : Int) := by omega
    have hrd' := hrd hr
    refine con_run Tryd.func28 rfl rfl (by simp [Tryd.ntmps28]) ?_
    simp only [argT, argA, argAs, s0M, numT, flatM, packM, AS.kl, eatM, mkR, flatD, packA, retA, List.headD_cons, List.tail_cons, fQ, qLp, tysD, tmsD, strsD, intsD, rowD, xRet, rPs, xRes, flatA, rD, rDs, eq_self, true_or, xRun, vE, vP, vSub, vLoad, vFld, vIdx, vBin, vBinT, vEqA, shp, isAg, isBo, bvA, vEqB, vMax, cellsA, eqAV, eqAVs, shpOk, vNot, vLen, vChr, vExt, vBuild, vCut, vSlc, vCnv, vRow, vStore, vStE, primD, primDs, AS.setO, AV.unsp, AV.unsps, unspT, unspB, vApp, apP, apC, isCl, isCutO, vMake, iOf, bad, xFill, appL, appR, ixL, ixH, isB, bv, gT, gW, gN, gV, isU, isPick, pkC, pkA, pkB, isCall, popTo, AS.pt, AS.kn, AS.ev, AS.box, AS.setb, AS.mk', AS.owf, AS.rd, kill, look, cav, avB, avO, setRowG, AV.cells, AV.whole, AV.one, cD, cDs, eatsOf, dpOf, td0, td1, td2, td3, td4, td5, td6, Option.bind, Option.getD, Option.map, Option.isSome, List.map, List.take, List.drop, List.length, List.getElem?_cons_zero, List.getElem?_cons_succ, List.getElem?_nil, List.set, List.flatMap, List.foldr, List.all, List.replicate, List.mem_cons, List.not_mem_nil, List.nodup_cons, List.nodup_nil, List.nil_append, List.cons_append, List.append_nil, ↓reduceIte, Nat.reduceLT, Nat.reduceAdd, Nat.reduceMul, Nat.reduceLeDiff, Nat.reduceEqDiff, Nat.zero_add, Nat.add_zero, Nat.mul_zero, Nat.zero_mul, Nat.one_mul, Nat.mul_one, ne_eq, not_false_eq_true, not_true_eq_false, true_and, and_true, false_and, and_false, or_false, or_true, false_or, true_or, Bool.true_and, Bool.and_true, Bool.false_and, Bool.and_false, Bool.not_true, Bool.not_false, Bool.false_eq_true, Bool.true_eq_false, id_eq, reduceCtorEq, Int.toNat_natCast, Int.reduceLT, Int.reduceLE, Int.reduceEq, Int.reduceNe, Int.reduceAdd, Int.reduceSub, Int.reduceMul, Int.reduceNeg, Int.reduceToNat, Nat.reduceSub, Int.toNat_zero, Int.toNat_one, Int.natCast_zero, Int.le_refl, Int.natCast_nonneg, decide_true, decide_false, and_self, decide_eq_true_eq, decide_eq_false_iff_not, Nat.succ_ne_zero, Nat.zero_le, Nat.le_refl, h0, hs1, hB, eq_true hc, hm, h1, h2, Tryd.ntmps28, Tryd.results28]
    refine sw_loop (fun k : Nat => k ≤ t.size ∧ ∃ n, dvL (t.data.toList.take k) = some n) (fun k => ⟨63, [(9, .i k), (8, .i (dvN t k)), (7, .s t), (6, .b true), (0, .s s)], [], [], 0, []⟩) (fun k => t.size - k) 0 id ⟨Nat.zero_le _, _, rfl⟩ ?_ ?_
    · simp only [Sub, subT, subB, subO, subP, inj, AV.ren, AV.rens, AV.lt, AV.lts, argT, argA, argAs, s0M, numT, flatM, packM, AS.kl, eatM, mkR, flatD, packA, retA, List.headD_cons, List.tail_cons, fQ, qLp, tysD, tmsD, strsD, intsD, rowD, xRet, rPs, xRes, flatA, rD, rDs, eq_self, true_or, xRun, vE, vP, vSub, vLoad, vFld, vIdx, vBin, vBinT, vEqA, shp, isAg, isBo, bvA, vEqB, vMax, cellsA, eqAV, eqAVs, shpOk, vNot, vLen, vChr, vExt, vBuild, vCut, vSlc, vCnv, vRow, vStore, vStE, primD, primDs, AS.setO, AV.unsp, AV.unsps, unspT, unspB, vApp, apP, apC, isCl, isCutO, vMake, iOf, bad, xFill, appL, appR, ixL, ixH, isB, bv, gT, gW, gN, gV, isU, isPick, pkC, pkA, pkB, isCall, popTo, AS.pt, AS.kn, AS.ev, AS.box, AS.setb, AS.mk', AS.owf, AS.rd, kill, look, cav, avB, avO, setRowG, AV.cells, AV.whole, AV.one, cD, cDs, eatsOf, dpOf, td0, td1, td2, td3, td4, td5, td6, Option.bind, Option.getD, Option.map, Option.isSome, List.map, List.take, List.drop, List.length, List.getElem?_cons_zero, List.getElem?_cons_succ, List.getElem?_nil, List.set, List.flatMap, List.foldr, List.all, List.replicate, List.mem_cons, List.not_mem_nil, List.nodup_cons, List.nodup_nil, List.nil_append, List.cons_append, List.append_nil, ↓reduceIte, Nat.reduceLT, Nat.reduceAdd, Nat.reduceMul, Nat.reduceLeDiff, Nat.reduceEqDiff, Nat.zero_add, Nat.add_zero, Nat.mul_zero, Nat.zero_mul, Nat.one_mul, Nat.mul_one, ne_eq, not_false_eq_true, not_true_eq_false, true_and, and_true, false_and, and_false, or_false, or_true, false_or, true_or, Bool.true_and, Bool.and_true, Bool.false_and, Bool.and_false, Bool.not_true, Bool.not_false, Bool.false_eq_true, Bool.true_eq_false, id_eq, reduceCtorEq, Int.toNat_natCast, Int.reduceLT, Int.reduceLE, Int.reduceEq, Int.reduceNe, Int.reduceAdd, Int.reduceSub, Int.reduceMul, Int.reduceNeg, Int.reduceToNat, Nat.reduceSub, Int.toNat_zero, Int.toNat_one, Int.natCast_zero, Int.le_refl, Int.natCast_nonneg, decide_true, decide_false, and_self, decide_eq_true_eq, decide_eq_false_iff_not, Nat.succ_ne_zero, Nat.zero_le, Nat.le_refl, Int.natCast_zero, show dvN t 0 = 0 from rfl]
    · rintro k ⟨hk, n, hn⟩
      have hN : dvN t k = n := by rw [dvN, hn]; rfl
      have hlt6 : n < 1000000 := Nat.lt_of_lt_of_le (dv_lt k _ (by rw [List.length_take, sz_toL]; omega) n hn) (show 10 ^ k ≤ 10 ^ 6 from Nat.pow_le_pow_right (by decide) (by omega))
      refine sw_run 200 _ _ _ ?_
      by_cases hlt : k < t.size
      · have hi : (k : Int) < (t.size : Int) := by omega
        have hBt : ((((t.data.getD k 0).toNat : Nat)) : Int) = byteI t k := rfl
        by_cases hd : 48 ≤ byteI t k ∧ byteI t k ≤ 57
        · have a1 : ¬ byteI t k < 48 := by omega
          have a2 : ¬ 57 < byteI t k := by omega
          have a3 : 0 ≤ byteI t k - 48 ∧ byteI t k - 48 < 256 := by omega
          have hst := dv_ok t k n hlt hn hd.1 hd.2
          have hN1 : ((dvN t (k + 1) : Nat) : Int) = 10 * (n : Int) + (byteI t k - 48) := by rw [dvN, hst]; show ((10 * n + ((byteI t k).toNat - 48) : Nat) : Int) = _; omega
          simp only [argT, argA, argAs, s0M, numT, flatM, packM, AS.kl, eatM, mkR, flatD, packA, retA, List.headD_cons, List.tail_cons, fQ, qLp, tysD, tmsD, strsD, intsD, rowD, xRet, rPs, xRes, flatA, rD, rDs, eq_self, true_or, xRun, vE, vP, vSub, vLoad, vFld, vIdx, vBin, vBinT, vEqA, shp, isAg, isBo, bvA, vEqB, vMax, cellsA, eqAV, eqAVs, shpOk, vNot, vLen, vChr, vExt, vBuild, vCut, vSlc, vCnv, vRow, vStore, vStE, primD, primDs, AS.setO, AV.unsp, AV.unsps, unspT, unspB, vApp, apP, apC, isCl, isCutO, vMake, iOf, bad, xFill, appL, appR, ixL, ixH, isB, bv, gT, gW, gN, gV, isU, isPick, pkC, pkA, pkB, isCall, popTo, AS.pt, AS.kn, AS.ev, AS.box, AS.setb, AS.mk', AS.owf, AS.rd, kill, look, cav, avB, avO, setRowG, AV.cells, AV.whole, AV.one, cD, cDs, eatsOf, dpOf, td0, td1, td2, td3, td4, td5, td6, Option.bind, Option.getD, Option.map, Option.isSome, List.map, List.take, List.drop, List.length, List.getElem?_cons_zero, List.getElem?_cons_succ, List.getElem?_nil, List.set, List.flatMap, List.foldr, List.all, List.replicate, List.mem_cons, List.not_mem_nil, List.nodup_cons, List.nodup_nil, List.nil_append, List.cons_append, List.append_nil, ↓reduceIte, Nat.reduceLT, Nat.reduceAdd, Nat.reduceMul, Nat.reduceLeDiff, Nat.reduceEqDiff, Nat.zero_add, Nat.add_zero, Nat.mul_zero, Nat.zero_mul, Nat.one_mul, Nat.mul_one, ne_eq, not_false_eq_true, not_true_eq_false, true_and, and_true, false_and, and_false, or_false, or_true, false_or, true_or, Bool.true_and, Bool.and_true, Bool.false_and, Bool.and_false, Bool.not_true, Bool.not_false, Bool.false_eq_true, Bool.true_eq_false, id_eq, reduceCtorEq, Int.toNat_natCast, Int.reduceLT, Int.reduceLE, Int.reduceEq, Int.reduceNe, Int.reduceAdd, Int.reduceSub, Int.reduceMul, Int.reduceNeg, Int.reduceToNat, Nat.reduceSub, Int.toNat_zero, Int.toNat_one, Int.natCast_zero, Int.le_refl, Int.natCast_nonneg, decide_true, decide_false, and_self, decide_eq_true_eq, decide_eq_false_iff_not, Nat.succ_ne_zero, Nat.zero_le, Nat.le_refl, hi, hBt, a1, a2, a3, hN, qLp]
          refine ⟨by unfold inI; omega, ⟨by kernel_rfl, by unfold inI; omega⟩, by unfold inI; omega, by unfold inI; omega, k + 1, id, ⟨by omega, _, hst⟩, by omega, ?_⟩
          simp only [Sub, subT, subB, subO, subP, inj, AV.ren, AV.rens, AV.lt, AV.lts, argT, argA, argAs, s0M, numT, flatM, packM, AS.kl, eatM, mkR, flatD, packA, retA, List.headD_cons, List.tail_cons, fQ, qLp, tysD, tmsD, strsD, intsD, rowD, xRet, rPs, xRes, flatA, rD, rDs, eq_self, true_or, xRun, vE, vP, vSub, vLoad, vFld, vIdx, vBin, vBinT, vEqA, shp, isAg, isBo, bvA, vEqB, vMax, cellsA, eqAV, eqAVs, shpOk, vNot, vLen, vChr, vExt, vBuild, vCut, vSlc, vCnv, vRow, vStore, vStE, primD, primDs, AS.setO, AV.unsp, AV.unsps, unspT, unspB, vApp, apP, apC, isCl, isCutO, vMake, iOf, bad, xFill, appL, appR, ixL, ixH, isB, bv, gT, gW, gN, gV, isU, isPick, pkC, pkA, pkB, isCall, popTo, AS.pt, AS.kn, AS.ev, AS.box, AS.setb, AS.mk', AS.owf, AS.rd, kill, look, cav, avB, avO, setRowG, AV.cells, AV.whole, AV.one, cD, cDs, eatsOf, dpOf, td0, td1, td2, td3, td4, td5, td6, Option.bind, Option.getD, Option.map, Option.isSome, List.map, List.take, List.drop, List.length, List.getElem?_cons_zero, List.getElem?_cons_succ, List.getElem?_nil, List.set, List.flatMap, List.foldr, List.all, List.replicate, List.mem_cons, List.not_mem_nil, List.nodup_cons, List.nodup_nil, List.nil_append, List.cons_append, List.append_nil, ↓reduceIte, Nat.reduceLT, Nat.reduceAdd, Nat.reduceMul, Nat.reduceLeDiff, Nat.reduceEqDiff, Nat.zero_add, Nat.add_zero, Nat.mul_zero, Nat.zero_mul, Nat.one_mul, Nat.mul_one, ne_eq, not_false_eq_true, not_true_eq_false, true_and, and_true, false_and, and_false, or_false, or_true, false_or, true_or, Bool.true_and, Bool.and_true, Bool.false_and, Bool.and_false, Bool.not_true, Bool.not_false, Bool.false_eq_true, Bool.true_eq_false, id_eq, reduceCtorEq, Int.toNat_natCast, Int.reduceLT, Int.reduceLE, Int.reduceEq, Int.reduceNe, Int.reduceAdd, Int.reduceSub, Int.reduceMul, Int.reduceNeg, Int.reduceToNat, Nat.reduceSub, Int.toNat_zero, Int.toNat_one, Int.natCast_zero, Int.le_refl, Int.natCast_nonneg, decide_true, decide_false, and_self, decide_eq_true_eq, decide_eq_false_iff_not, Nat.succ_ne_zero, Nat.zero_le, Nat.le_refl, cast1, hN1]
        · have hbad : dvL t.data.toList = none := dv_bad t k n hlt hn (by omega)
          have hr0 : rdP s = (0, false) := by rw [hrd', hbad]
          by_cases hd1 : byteI t k < 48
          · simp only [argT, argA, argAs, s0M, numT, flatM, packM, AS.kl, eatM, mkR, flatD, packA, retA, List.headD_cons, List.tail_cons, fQ, qLp, tysD, tmsD, strsD, intsD, rowD, xRet, rPs, xRes, flatA, rD, rDs, eq_self, true_or, xRun, vE, vP, vSub, vLoad, vFld, vIdx, vBin, vBinT, vEqA, shp, isAg, isBo, bvA, vEqB, vMax, cellsA, eqAV, eqAVs, shpOk, vNot, vLen, vChr, vExt, vBuild, vCut, vSlc, vCnv, vRow, vStore, vStE, primD, primDs, AS.setO, AV.unsp, AV.unsps, unspT, unspB, vApp, apP, apC, isCl, isCutO, vMake, iOf, bad, xFill, appL, appR, ixL, ixH, isB, bv, gT, gW, gN, gV, isU, isPick, pkC, pkA, pkB, isCall, popTo, AS.pt, AS.kn, AS.ev, AS.box, AS.setb, AS.mk', AS.owf, AS.rd, kill, look, cav, avB, avO, setRowG, AV.cells, AV.whole, AV.one, cD, cDs, eatsOf, dpOf, td0, td1, td2, td3, td4, td5, td6, Option.bind, Option.getD, Option.map, Option.isSome, List.map, List.take, List.drop, List.length, List.getElem?_cons_zero, List.getElem?_cons_succ, List.getElem?_nil, List.set, List.flatMap, List.foldr, List.all, List.replicate, List.mem_cons, List.not_mem_nil, List.nodup_cons, List.nodup_nil, List.nil_append, List.cons_append, List.append_nil, ↓reduceIte, Nat.reduceLT, Nat.reduceAdd, Nat.reduceMul, Nat.reduceLeDiff, Nat.reduceEqDiff, Nat.zero_add, Nat.add_zero, Nat.mul_zero, Nat.zero_mul, Nat.one_mul, Nat.mul_one, ne_eq, not_false_eq_true, not_true_eq_false, true_and, and_true, false_and, and_false, or_false, or_true, false_or, true_or, Bool.true_and, Bool.and_true, Bool.false_and, Bool.and_false, Bool.not_true, Bool.not_false, Bool.false_eq_true, Bool.true_eq_false, id_eq, reduceCtorEq, Int.toNat_natCast, Int.reduceLT, Int.reduceLE, Int.reduceEq, Int.reduceNe, Int.reduceAdd, Int.reduceSub, Int.reduceMul, Int.reduceNeg, Int.reduceToNat, Nat.reduceSub, Int.toNat_zero, Int.toNat_one, Int.natCast_zero, Int.le_refl, Int.natCast_nonneg, decide_true, decide_false, and_self, decide_eq_true_eq, decide_eq_false_iff_not, Nat.succ_ne_zero, Nat.zero_le, Nat.le_refl, hi, hBt, eq_true hd1, hr0, Tryd.ntmps28, Tryd.results28]
          · have hd2 : 57 < byteI t k := by omega
            simp only [argT, argA, argAs, s0M, numT, flatM, packM, AS.kl, eatM, mkR, flatD, packA, retA, List.headD_cons, List.tail_cons, fQ, qLp, tysD, tmsD, strsD, intsD, rowD, xRet, rPs, xRes, flatA, rD, rDs, eq_self, true_or, xRun, vE, vP, vSub, vLoad, vFld, vIdx, vBin, vBinT, vEqA, shp, isAg, isBo, bvA, vEqB, vMax, cellsA, eqAV, eqAVs, shpOk, vNot, vLen, vChr, vExt, vBuild, vCut, vSlc, vCnv, vRow, vStore, vStE, primD, primDs, AS.setO, AV.unsp, AV.unsps, unspT, unspB, vApp, apP, apC, isCl, isCutO, vMake, iOf, bad, xFill, appL, appR, ixL, ixH, isB, bv, gT, gW, gN, gV, isU, isPick, pkC, pkA, pkB, isCall, popTo, AS.pt, AS.kn, AS.ev, AS.box, AS.setb, AS.mk', AS.owf, AS.rd, kill, look, cav, avB, avO, setRowG, AV.cells, AV.whole, AV.one, cD, cDs, eatsOf, dpOf, td0, td1, td2, td3, td4, td5, td6, Option.bind, Option.getD, Option.map, Option.isSome, List.map, List.take, List.drop, List.length, List.getElem?_cons_zero, List.getElem?_cons_succ, List.getElem?_nil, List.set, List.flatMap, List.foldr, List.all, List.replicate, List.mem_cons, List.not_mem_nil, List.nodup_cons, List.nodup_nil, List.nil_append, List.cons_append, List.append_nil, ↓reduceIte, Nat.reduceLT, Nat.reduceAdd, Nat.reduceMul, Nat.reduceLeDiff, Nat.reduceEqDiff, Nat.zero_add, Nat.add_zero, Nat.mul_zero, Nat.zero_mul, Nat.one_mul, Nat.mul_one, ne_eq, not_false_eq_true, not_true_eq_false, true_and, and_true, false_and, and_false, or_false, or_true, false_or, true_or, Bool.true_and, Bool.and_true, Bool.false_and, Bool.and_false, Bool.not_true, Bool.not_false, Bool.false_eq_true, Bool.true_eq_false, id_eq, reduceCtorEq, Int.toNat_natCast, Int.reduceLT, Int.reduceLE, Int.reduceEq, Int.reduceNe, Int.reduceAdd, Int.reduceSub, Int.reduceMul, Int.reduceNeg, Int.reduceToNat, Nat.reduceSub, Int.toNat_zero, Int.toNat_one, Int.natCast_zero, Int.le_refl, Int.natCast_nonneg, decide_true, decide_false, and_self, decide_eq_true_eq, decide_eq_false_iff_not, Nat.succ_ne_zero, Nat.zero_le, Nat.le_refl, hi, hBt, hd1, eq_true hd2, hr0, Tryd.ntmps28, Tryd.results28]
      · have hi : ¬ (k : Int) < (t.size : Int) := by omega
        obtain rfl : k = t.size := by omega
        have hall : dvL t.data.toList = some n := by rw [← hn, ← sz_toL, List.take_length]
        have hF := con_FmtZ (-(n : Int)) (by omega)
        rw [hall] at hrd'
        simp only [hv] at hrd'
        simp only [argT, argA, argAs, s0M, numT, flatM, packM, AS.kl, eatM, mkR, flatD, packA, retA, List.headD_cons, List.tail_cons, fQ, qLp, tysD, tmsD, strsD, intsD, rowD, xRet, rPs, xRes, flatA, rD, rDs, eq_self, true_or, xRun, vE, vP, vSub, vLoad, vFld, vIdx, vBin, vBinT, vEqA, shp, isAg, isBo, bvA, vEqB, vMax, cellsA, eqAV, eqAVs, shpOk, vNot, vLen, vChr, vExt, vBuild, vCut, vSlc, vCnv, vRow, vStore, vStE, primD, primDs, AS.setO, AV.unsp, AV.unsps, unspT, unspB, vApp, apP, apC, isCl, isCutO, vMake, iOf, bad, xFill, appL, appR, ixL, ixH, isB, bv, gT, gW, gN, gV, isU, isPick, pkC, pkA, pkB, isCall, popTo, AS.pt, AS.kn, AS.ev, AS.box, AS.setb, AS.mk', AS.owf, AS.rd, kill, look, cav, avB, avO, setRowG, AV.cells, AV.whole, AV.one, cD, cDs, eatsOf, dpOf, td0, td1, td2, td3, td4, td5, td6, Option.bind, Option.getD, Option.map, Option.isSome, List.map, List.take, List.drop, List.length, List.getElem?_cons_zero, List.getElem?_cons_succ, List.getElem?_nil, List.set, List.flatMap, List.foldr, List.all, List.replicate, List.mem_cons, List.not_mem_nil, List.nodup_cons, List.nodup_nil, List.nil_append, List.cons_append, List.append_nil, ↓reduceIte, Nat.reduceLT, Nat.reduceAdd, Nat.reduceMul, Nat.reduceLeDiff, Nat.reduceEqDiff, Nat.zero_add, Nat.add_zero, Nat.mul_zero, Nat.zero_mul, Nat.one_mul, Nat.mul_one, ne_eq, not_false_eq_true, not_true_eq_false, true_and, and_true, false_and, and_false, or_false, or_true, false_or, true_or, Bool.true_and, Bool.and_true, Bool.false_and, Bool.and_false, Bool.not_true, Bool.not_false, Bool.false_eq_true, Bool.true_eq_false, id_eq, reduceCtorEq, Int.toNat_natCast, Int.reduceLT, Int.reduceLE, Int.reduceEq, Int.reduceNe, Int.reduceAdd, Int.reduceSub, Int.reduceMul, Int.reduceNeg, Int.reduceToNat, Nat.reduceSub, Int.toNat_zero, Int.toNat_one, Int.natCast_zero, Int.le_refl, Int.natCast_nonneg, decide_true, decide_false, and_self, decide_eq_true_eq, decide_eq_false_iff_not, Nat.succ_ne_zero, Nat.zero_le, Nat.le_refl, hi]
        refine sw_run 200 _ _ _ ?_
        have h0n : 0 - (n : Int) = -(n : Int) := by omega
        have hin : inI (-(n : Int)) := by unfold inI; omega
        simp only [argT, argA, argAs, s0M, numT, flatM, packM, AS.kl, eatM, mkR, flatD, packA, retA, List.headD_cons, List.tail_cons, fQ, qLp, tysD, tmsD, strsD, intsD, rowD, xRet, rPs, xRes, flatA, rD, rDs, eq_self, true_or, xRun, vE, vP, vSub, vLoad, vFld, vIdx, vBin, vBinT, vEqA, shp, isAg, isBo, bvA, vEqB, vMax, cellsA, eqAV, eqAVs, shpOk, vNot, vLen, vChr, vExt, vBuild, vCut, vSlc, vCnv, vRow, vStore, vStE, primD, primDs, AS.setO, AV.unsp, AV.unsps, unspT, unspB, vApp, apP, apC, isCl, isCutO, vMake, iOf, bad, xFill, appL, appR, ixL, ixH, isB, bv, gT, gW, gN, gV, isU, isPick, pkC, pkA, pkB, isCall, popTo, AS.pt, AS.kn, AS.ev, AS.box, AS.setb, AS.mk', AS.owf, AS.rd, kill, look, cav, avB, avO, setRowG, AV.cells, AV.whole, AV.one, cD, cDs, eatsOf, dpOf, td0, td1, td2, td3, td4, td5, td6, Option.bind, Option.getD, Option.map, Option.isSome, List.map, List.take, List.drop, List.length, List.getElem?_cons_zero, List.getElem?_cons_succ, List.getElem?_nil, List.set, List.flatMap, List.foldr, List.all, List.replicate, List.mem_cons, List.not_mem_nil, List.nodup_cons, List.nodup_nil, List.nil_append, List.cons_append, List.append_nil, ↓reduceIte, Nat.reduceLT, Nat.reduceAdd, Nat.reduceMul, Nat.reduceLeDiff, Nat.reduceEqDiff, Nat.zero_add, Nat.add_zero, Nat.mul_zero, Nat.zero_mul, Nat.one_mul, Nat.mul_one, ne_eq, not_false_eq_true, not_true_eq_false, true_and, and_true, false_and, and_false, or_false, or_true, false_or, true_or, Bool.true_and, Bool.and_true, Bool.false_and, Bool.and_false, Bool.not_true, Bool.not_false, Bool.false_eq_true, Bool.true_eq_false, id_eq, reduceCtorEq, Int.toNat_natCast, Int.reduceLT, Int.reduceLE, Int.reduceEq, Int.reduceNe, Int.reduceAdd, Int.reduceSub, Int.reduceMul, Int.reduceNeg, Int.reduceToNat, Nat.reduceSub, Int.toNat_zero, Int.toNat_one, Int.natCast_zero, Int.le_refl, Int.natCast_nonneg, decide_true, decide_false, and_self, decide_eq_true_eq, decide_eq_false_iff_not, Nat.succ_ne_zero, Nat.zero_le, Nat.le_refl, hN, h0n, hin]
        refine sw_call hF rfl (aAs_ok ?_) ?_ (sw_run 200 _ _ _ ?_)
        · simp only [aAs, aA, aDs, aD, tysD, tmsD, strsD, intsD, argAs, argA, avB, AS.ev, AS.owf, AS.mk', AS.pt, AS.box, AS.setb, kill, look, cav, Option.bind, Option.getD, Option.map, Option.isSome, id_eq, List.map, List.nil_append, List.cons_append, List.append_nil, List.foldr, ↓reduceIte, Nat.reduceEqDiff, Nat.reduceLT, Nat.zero_add, Nat.reduceAdd, reduceCtorEq, eq_self, and_self, true_and, and_true, List.length, Nat.succ_ne_zero]
        · simp only [okR]
        by_cases he : numZ (-(n : Int)) = s
        · rw [if_pos he] at hrd'
          simp only [argT, argA, argAs, s0M, numT, flatM, packM, AS.kl, eatM, mkR, flatD, packA, retA, List.headD_cons, List.tail_cons, fQ, qLp, tysD, tmsD, strsD, intsD, rowD, xRet, rPs, xRes, flatA, rD, rDs, eq_self, true_or, xRun, vE, vP, vSub, vLoad, vFld, vIdx, vBin, vBinT, vEqA, shp, isAg, isBo, bvA, vEqB, vMax, cellsA, eqAV, eqAVs, shpOk, vNot, vLen, vChr, vExt, vBuild, vCut, vSlc, vCnv, vRow, vStore, vStE, primD, primDs, AS.setO, AV.unsp, AV.unsps, unspT, unspB, vApp, apP, apC, isCl, isCutO, vMake, iOf, bad, xFill, appL, appR, ixL, ixH, isB, bv, gT, gW, gN, gV, isU, isPick, pkC, pkA, pkB, isCall, popTo, AS.pt, AS.kn, AS.ev, AS.box, AS.setb, AS.mk', AS.owf, AS.rd, kill, look, cav, avB, avO, setRowG, AV.cells, AV.whole, AV.one, cD, cDs, eatsOf, dpOf, td0, td1, td2, td3, td4, td5, td6, Option.bind, Option.getD, Option.map, Option.isSome, List.map, List.take, List.drop, List.length, List.getElem?_cons_zero, List.getElem?_cons_succ, List.getElem?_nil, List.set, List.flatMap, List.foldr, List.all, List.replicate, List.mem_cons, List.not_mem_nil, List.nodup_cons, List.nodup_nil, List.nil_append, List.cons_append, List.append_nil, ↓reduceIte, Nat.reduceLT, Nat.reduceAdd, Nat.reduceMul, Nat.reduceLeDiff, Nat.reduceEqDiff, Nat.zero_add, Nat.add_zero, Nat.mul_zero, Nat.zero_mul, Nat.one_mul, Nat.mul_one, ne_eq, not_false_eq_true, not_true_eq_false, true_and, and_true, false_and, and_false, or_false, or_true, false_or, true_or, Bool.true_and, Bool.and_true, Bool.false_and, Bool.and_false, Bool.not_true, Bool.not_false, Bool.false_eq_true, Bool.true_eq_false, id_eq, reduceCtorEq, Int.toNat_natCast, Int.reduceLT, Int.reduceLE, Int.reduceEq, Int.reduceNe, Int.reduceAdd, Int.reduceSub, Int.reduceMul, Int.reduceNeg, Int.reduceToNat, Nat.reduceSub, Int.toNat_zero, Int.toNat_one, Int.natCast_zero, Int.le_refl, Int.natCast_nonneg, decide_true, decide_false, and_self, decide_eq_true_eq, decide_eq_false_iff_not, Nat.succ_ne_zero, Nat.zero_le, Nat.le_refl, eq_true he, hrd', Tryd.ntmps28, Tryd.results28]
        · rw [if_neg he] at hrd'
          simp only [argT, argA, argAs, s0M, numT, flatM, packM, AS.kl, eatM, mkR, flatD, packA, retA, List.headD_cons, List.tail_cons, fQ, qLp, tysD, tmsD, strsD, intsD, rowD, xRet, rPs, xRes, flatA, rD, rDs, eq_self, true_or, xRun, vE, vP, vSub, vLoad, vFld, vIdx, vBin, vBinT, vEqA, shp, isAg, isBo, bvA, vEqB, vMax, cellsA, eqAV, eqAVs, shpOk, vNot, vLen, vChr, vExt, vBuild, vCut, vSlc, vCnv, vRow, vStore, vStE, primD, primDs, AS.setO, AV.unsp, AV.unsps, unspT, unspB, vApp, apP, apC, isCl, isCutO, vMake, iOf, bad, xFill, appL, appR, ixL, ixH, isB, bv, gT, gW, gN, gV, isU, isPick, pkC, pkA, pkB, isCall, popTo, AS.pt, AS.kn, AS.ev, AS.box, AS.setb, AS.mk', AS.owf, AS.rd, kill, look, cav, avB, avO, setRowG, AV.cells, AV.whole, AV.one, cD, cDs, eatsOf, dpOf, td0, td1, td2, td3, td4, td5, td6, Option.bind, Option.getD, Option.map, Option.isSome, List.map, List.take, List.drop, List.length, List.getElem?_cons_zero, List.getElem?_cons_succ, List.getElem?_nil, List.set, List.flatMap, List.foldr, List.all, List.replicate, List.mem_cons, List.not_mem_nil, List.nodup_cons, List.nodup_nil, List.nil_append, List.cons_append, List.append_nil, ↓reduceIte, Nat.reduceLT, Nat.reduceAdd, Nat.reduceMul, Nat.reduceLeDiff, Nat.reduceEqDiff, Nat.zero_add, Nat.add_zero, Nat.mul_zero, Nat.zero_mul, Nat.one_mul, Nat.mul_one, ne_eq, not_false_eq_true, not_true_eq_false, true_and, and_true, false_and, and_false, or_false, or_true, false_or, true_or, Bool.true_and, Bool.and_true, Bool.false_and, Bool.and_false, Bool.not_true, Bool.not_false, Bool.false_eq_true, Bool.true_eq_false, id_eq, reduceCtorEq, Int.toNat_natCast, Int.reduceLT, Int.reduceLE, Int.reduceEq, Int.reduceNe, Int.reduceAdd, Int.reduceSub, Int.reduceMul, Int.reduceNeg, Int.reduceToNat, Nat.reduceSub, Int.toNat_zero, Int.toNat_one, Int.natCast_zero, Int.le_refl, Int.natCast_nonneg, decide_true, decide_false, and_self, decide_eq_true_eq, decide_eq_false_iff_not, Nat.succ_ne_zero, Nat.zero_le, Nat.le_refl, he, hrd', Tryd.ntmps28, Tryd.results28]
theorem con_l1ReadC (s : ByteArray) (hz : s.size ≤ 1000000000) (h00 : 0 < s.size) (hc : ¬ byteI s 0 = 45) : Con Tryd.prog 28 [.one (.str s), .one (.int 6)] [.one (.int (rdP s).1), .one (.bool (rdP s).2)] := by
  have h0 : 0 < (s.size : Int) := by omega
  have hB : ((((s.data.getD 0 0).toNat : Nat)) : Int) = byteI s 0 := rfl
  have hb : negB s = false := by rw [negB, decide_eq_true h00, decide_eq_false hc]; rfl
  have hm : magB s = s := by rw [magB, hb]; rfl
  have hv : ∀ n, rdV s n = (n : Int) := fun n => by rw [rdV, hb]; rfl
  have hs1 : 1 ≤ (s.size : Int) := by omega
  obtain ⟨t, ht⟩ : ∃ t, t = magB s := ⟨_, rfl⟩
  have hts : t.size ≤ s.size := by rw [ht, hm]; exact Nat.le_refl _
  rw [← ht] at hm
  have hrd0 : (t.size < 1 ∨ 6 < t.size) → rdP s = (0, false) := fun hr => by rw [rdP, ← ht, if_pos hr]
  have hrd : ¬ (t.size < 1 ∨ 6 < t.size) → rdP s = (match dvL t.data.toList with | none => (0, false) | some n => if numZ (rdV s n) = s then (rdV s n, true) else (0, false)) := fun hr => by rw [rdP, ← ht, if_neg hr]
  obtain rfl := hm; clear ht
  by_cases hr : t.size < 1 ∨ 6 < t.size
  · rw [hrd0 hr]
    rcases hr with hr | hr
    · have h1 : (t.size : Int) < 1 := by omega
      refine con_run Tryd.func28 rfl rfl (by simp [Tryd.ntmps28]) ?_
      simp only [argT, argA, argAs, s0M, numT, flatM, packM, AS.kl, eatM, mkR, flatD, packA, retA, List.headD_cons, List.tail_cons, fQ, qLp, tysD, tmsD, strsD, intsD, rowD, xRet, rPs, xRes, flatA, rD, rDs, eq_self, true_or, xRun, vE, vP, vSub, vLoad, vFld, vIdx, vBin, vBinT, vEqA, shp, isAg, isBo, bvA, vEqB, vMax, cellsA, eqAV, eqAVs, shpOk, vNot, vLen, vChr, vExt, vBuild, vCut, vSlc, vCnv, vRow, vStore, vStE, primD, primDs, AS.setO, AV.unsp, AV.unsps, unspT, unspB, vApp, apP, apC, isCl, isCutO, vMake, iOf, bad, xFill, appL, appR, ixL, ixH, isB, bv, gT, gW, gN, gV, isU, isPick, pkC, pkA, pkB, isCall, popTo, AS.pt, AS.kn, AS.ev, AS.box, AS.setb, AS.mk', AS.owf, AS.rd, kill, look, cav, avB, avO, setRowG, AV.cells, AV.whole, AV.one, cD, cDs, eatsOf, dpOf, td0, td1, td2, td3, td4, td5, td6, Option.bind, Option.getD, Option.map, Option.isSome, List.map, List.take, List.drop, List.length, List.getElem?_cons_zero, List.getElem?_cons_succ, List.getElem?_nil, List.set, List.flatMap, List.foldr, List.all, List.replicate, List.mem_cons, List.not_mem_nil, List.nodup_cons, List.nodup_nil, List.nil_append, List.cons_append, List.append_nil, ↓reduceIte, Nat.reduceLT, Nat.reduceAdd, Nat.reduceMul, Nat.reduceLeDiff, Nat.reduceEqDiff, Nat.zero_add, Nat.add_zero, Nat.mul_zero, Nat.zero_mul, Nat.one_mul, Nat.mul_one, ne_eq, not_false_eq_true, not_true_eq_false, true_and, and_true, false_and, and_false, or_false, or_true, false_or, true_or, Bool.true_and, Bool.and_true, Bool.false_and, Bool.and_false, Bool.not_true, Bool.not_false, Bool.false_eq_true, Bool.true_eq_false, id_eq, reduceCtorEq, Int.toNat_natCast, Int.reduceLT, Int.reduceLE, Int.reduceEq, Int.reduceNe, Int.reduceAdd, Int.reduceSub, Int.reduceMul, Int.reduceNeg, Int.reduceToNat, Nat.reduceSub, Int.toNat_zero, Int.toNat_one, Int.natCast_zero, Int.le_refl, Int.natCast_nonneg, decide_true, decide_false, and_self, decide_eq_true_eq, decide_eq_false_iff_not, Nat.succ_ne_zero, Nat.zero_le, Nat.le_refl, h0, hs1, hB, hc, eq_true h1, Tryd.ntmps28, Tryd.results28]
    · have h1 : ¬ (t.size : Int) < 1 := by omega
      have h2 : 6 < (t.size : Int) := by omega
      refine con_run Tryd.func28 rfl rfl (by simp [Tryd.ntmps28]) ?_
      simp only [argT, argA, argAs, s0M, numT, flatM, packM, AS.kl, eatM, mkR, flatD, packA, retA, List.headD_cons, List.tail_cons, fQ, qLp, tysD, tmsD, strsD, intsD, rowD, xRet, rPs, xRes, flatA, rD, rDs, eq_self, true_or, xRun, vE, vP, vSub, vLoad, vFld, vIdx, vBin, vBinT, vEqA, shp, isAg, isBo, bvA, vEqB, vMax, cellsA, eqAV, eqAVs, shpOk, vNot, vLen, vChr, vExt, vBuild, vCut, vSlc, vCnv, vRow, vStore, vStE, primD, primDs, AS.setO, AV.unsp, AV.unsps, unspT, unspB, vApp, apP, apC, isCl, isCutO, vMake, iOf, bad, xFill, appL, appR, ixL, ixH, isB, bv, gT, gW, gN, gV, isU, isPick, pkC, pkA, pkB, isCall, popTo, AS.pt, AS.kn, AS.ev, AS.box, AS.setb, AS.mk', AS.owf, AS.rd, kill, look, cav, avB, avO, setRowG, AV.cells, AV.whole, AV.one, cD, cDs, eatsOf, dpOf, td0, td1, td2, td3, td4, td5, td6, Option.bind, Option.getD, Option.map, Option.isSome, List.map, List.take, List.drop, List.length, List.getElem?_cons_zero, List.getElem?_cons_succ, List.getElem?_nil, List.set, List.flatMap, List.foldr, List.all, List.replicate, List.mem_cons, List.not_mem_nil, List.nodup_cons, List.nodup_nil, List.nil_append, List.cons_append, List.append_nil, ↓reduceIte, Nat.reduceLT, Nat.reduceAdd, Nat.reduceMul, Nat.reduceLeDiff, Nat.reduceEqDiff, Nat.zero_add, Nat.add_zero, Nat.mul_zero, Nat.zero_mul, Nat.one_mul, Nat.mul_one, ne_eq, not_false_eq_true, not_true_eq_false, true_and, and_true, false_and, and_false, or_false, or_true, false_or, true_or, Bool.true_and, Bool.and_true, Bool.false_and, Bool.and_false, Bool.not_true, Bool.not_false, Bool.false_eq_true, Bool.true_eq_false, id_eq, reduceCtorEq, Int.toNat_natCast, Int.reduceLT, Int.reduceLE, Int.reduceEq, Int.reduceNe, Int.reduceAdd, Int.reduceSub, Int.reduceMul, Int.reduceNeg, Int.reduceToNat, Nat.reduceSub, Int.toNat_zero, Int.toNat_one, Int.natCast_zero, Int.le_refl, Int.natCast_nonneg, decide_true, decide_false, and_self, decide_eq_true_eq, decide_eq_false_iff_not, Nat.succ_ne_zero, Nat.zero_le, Nat.le_refl, h0, hs1, hB, hc, h1, eq_true h2, Tryd.ntmps28, Tryd.results28]
  · have h1 : ¬ (t.size : Int) < 1 := by omega
    have h2 : ¬ 6 < (t.size : Int) := by omega
    have hrd' := hrd hr
    refine con_run Tryd.func28 rfl rfl (by simp [Tryd.ntmps28]) ?_
    simp only [argT, argA, argAs, s0M, numT, flatM, packM, AS.kl, eatM, mkR, flatD, packA, retA, List.headD_cons, List.tail_cons, fQ, qLp, tysD, tmsD, strsD, intsD, rowD, xRet, rPs, xRes, flatA, rD, rDs, eq_self, true_or, xRun, vE, vP, vSub, vLoad, vFld, vIdx, vBin, vBinT, vEqA, shp, isAg, isBo, bvA, vEqB, vMax, cellsA, eqAV, eqAVs, shpOk, vNot, vLen, vChr, vExt, vBuild, vCut, vSlc, vCnv, vRow, vStore, vStE, primD, primDs, AS.setO, AV.unsp, AV.unsps, unspT, unspB, vApp, apP, apC, isCl, isCutO, vMake, iOf, bad, xFill, appL, appR, ixL, ixH, isB, bv, gT, gW, gN, gV, isU, isPick, pkC, pkA, pkB, isCall, popTo, AS.pt, AS.kn, AS.ev, AS.box, AS.setb, AS.mk', AS.owf, AS.rd, kill, look, cav, avB, avO, setRowG, AV.cells, AV.whole, AV.one, cD, cDs, eatsOf, dpOf, td0, td1, td2, td3, td4, td5, td6, Option.bind, Option.getD, Option.map, Option.isSome, List.map, List.take, List.drop, List.length, List.getElem?_cons_zero, List.getElem?_cons_succ, List.getElem?_nil, List.set, List.flatMap, List.foldr, List.all, List.replicate, List.mem_cons, List.not_mem_nil, List.nodup_cons, List.nodup_nil, List.nil_append, List.cons_append, List.append_nil, ↓reduceIte, Nat.reduceLT, Nat.reduceAdd, Nat.reduceMul, Nat.reduceLeDiff, Nat.reduceEqDiff, Nat.zero_add, Nat.add_zero, Nat.mul_zero, Nat.zero_mul, Nat.one_mul, Nat.mul_one, ne_eq, not_false_eq_true, not_true_eq_false, true_and, and_true, false_and, and_false, or_false, or_true, false_or, true_or, Bool.true_and, Bool.and_true, Bool.false_and, Bool.and_false, Bool.not_true, Bool.not_false, Bool.false_eq_true, Bool.true_eq_false, id_eq, reduceCtorEq, Int.toNat_natCast, Int.reduceLT, Int.reduceLE, Int.reduceEq, Int.reduceNe, Int.reduceAdd, Int.reduceSub, Int.reduceMul, Int.reduceNeg, Int.reduceToNat, Nat.reduceSub, Int.toNat_zero, Int.toNat_one, Int.natCast_zero, Int.le_refl, Int.natCast_nonneg, decide_true, decide_false, and_self, decide_eq_true_eq, decide_eq_false_iff_not, Nat.succ_ne_zero, Nat.zero_le, Nat.le_refl, h0, hs1, hB, hc, h1, h2, Tryd.ntmps28, Tryd.results28]
    refine sw_loop (fun k : Nat => k ≤ t.size ∧ ∃ n, dvL (t.data.toList.take k) = some n) (fun k => ⟨63, [(9, .i k), (8, .i (dvN t k)), (7, .s t), (6, .b false), (0, .s t)], [], [], 0, []⟩) (fun k => t.size - k) 0 id ⟨Nat.zero_le _, _, rfl⟩ ?_ ?_
    · simp only [Sub, subT, subB, subO, subP, inj, AV.ren, AV.rens, AV.lt, AV.lts, argT, argA, argAs, s0M, numT, flatM, packM, AS.kl, eatM, mkR, flatD, packA, retA, List.headD_cons, List.tail_cons, fQ, qLp, tysD, tmsD, strsD, intsD, rowD, xRet, rPs, xRes, flatA, rD, rDs, eq_self, true_or, xRun, vE, vP, vSub, vLoad, vFld, vIdx, vBin, vBinT, vEqA, shp, isAg, isBo, bvA, vEqB, vMax, cellsA, eqAV, eqAVs, shpOk, vNot, vLen, vChr, vExt, vBuild, vCut, vSlc, vCnv, vRow, vStore, vStE, primD, primDs, AS.setO, AV.unsp, AV.unsps, unspT, unspB, vApp, apP, apC, isCl, isCutO, vMake, iOf, bad, xFill, appL, appR, ixL, ixH, isB, bv, gT, gW, gN, gV, isU, isPick, pkC, pkA, pkB, isCall, popTo, AS.pt, AS.kn, AS.ev, AS.box, AS.setb, AS.mk', AS.owf, AS.rd, kill, look, cav, avB, avO, setRowG, AV.cells, AV.whole, AV.one, cD, cDs, eatsOf, dpOf, td0, td1, td2, td3, td4, td5, td6, Option.bind, Option.getD, Option.map, Option.isSome, List.map, List.take, List.drop, List.length, List.getElem?_cons_zero, List.getElem?_cons_succ, List.getElem?_nil, List.set, List.flatMap, List.foldr, List.all, List.replicate, List.mem_cons, List.not_mem_nil, List.nodup_cons, List.nodup_nil, List.nil_append, List.cons_append, List.append_nil, ↓reduceIte, Nat.reduceLT, Nat.reduceAdd, Nat.reduceMul, Nat.reduceLeDiff, Nat.reduceEqDiff, Nat.zero_add, Nat.add_zero, Nat.mul_zero, Nat.zero_mul, Nat.one_mul, Nat.mul_one, ne_eq, not_false_eq_true, not_true_eq_false, true_and, and_true, false_and, and_false, or_false, or_true, false_or, true_or, Bool.true_and, Bool.and_true, Bool.false_and, Bool.and_false, Bool.not_true, Bool.not_false, Bool.false_eq_true, Bool.true_eq_false, id_eq, reduceCtorEq, Int.toNat_natCast, Int.reduceLT, Int.reduceLE, Int.reduceEq, Int.reduceNe, Int.reduceAdd, Int.reduceSub, Int.reduceMul, Int.reduceNeg, Int.reduceToNat, Nat.reduceSub, Int.toNat_zero, Int.toNat_one, Int.natCast_zero, Int.le_refl, Int.natCast_nonneg, decide_true, decide_false, and_self, decide_eq_true_eq, decide_eq_false_iff_not, Nat.succ_ne_zero, Nat.zero_le, Nat.le_refl, Int.natCast_zero, show dvN t 0 = 0 from rfl]
    · rintro k ⟨hk, n, hn⟩
      have hN : dvN t k = n := by rw [dvN, hn]; rfl
      have hlt6 : n < 1000000 := Nat.lt_of_lt_of_le (dv_lt k _ (by rw [List.length_take, sz_toL]; omega) n hn) (show 10 ^ k ≤ 10 ^ 6 from Nat.pow_le_pow_right (by decide) (by omega))
      refine sw_run 200 _ _ _ ?_
      by_cases hlt : k < t.size
      · have hi : (k : Int) < (t.size : Int) := by omega
        have hBt : ((((t.data.getD k 0).toNat : Nat)) : Int) = byteI t k := rfl
        by_cases hd : 48 ≤ byteI t k ∧ byteI t k ≤ 57
        · have a1 : ¬ byteI t k < 48 := by omega
          have a2 : ¬ 57 < byteI t k := by omega
          have a3 : 0 ≤ byteI t k - 48 ∧ byteI t k - 48 < 256 := by omega
          have hst := dv_ok t k n hlt hn hd.1 hd.2
          have hN1 : ((dvN t (k + 1) : Nat) : Int) = 10 * (n : Int) + (byteI t k - 48) := by rw [dvN, hst]; show ((10 * n + ((byteI t k).toNat - 48) : Nat) : Int) = _; omega
          simp only [argT, argA, argAs, s0M, numT, flatM, packM, AS.kl, eatM, mkR, flatD, packA, retA, List.headD_cons, List.tail_cons, fQ, qLp, tysD, tmsD, strsD, intsD, rowD, xRet, rPs, xRes, flatA, rD, rDs, eq_self, true_or, xRun, vE, vP, vSub, vLoad, vFld, vIdx, vBin, vBinT, vEqA, shp, isAg, isBo, bvA, vEqB, vMax, cellsA, eqAV, eqAVs, shpOk, vNot, vLen, vChr, vExt, vBuild, vCut, vSlc, vCnv, vRow, vStore, vStE, primD, primDs, AS.setO, AV.unsp, AV.unsps, unspT, unspB, vApp, apP, apC, isCl, isCutO, vMake, iOf, bad, xFill, appL, appR, ixL, ixH, isB, bv, gT, gW, gN, gV, isU, isPick, pkC, pkA, pkB, isCall, popTo, AS.pt, AS.kn, AS.ev, AS.box, AS.setb, AS.mk', AS.owf, AS.rd, kill, look, cav, avB, avO, setRowG, AV.cells, AV.whole, AV.one, cD, cDs, eatsOf, dpOf, td0, td1, td2, td3, td4, td5, td6, Option.bind, Option.getD, Option.map, Option.isSome, List.map, List.take, List.drop, List.length, List.getElem?_cons_zero, List.getElem?_cons_succ, List.getElem?_nil, List.set, List.flatMap, List.foldr, List.all, List.replicate, List.mem_cons, List.not_mem_nil, List.nodup_cons, List.nodup_nil, List.nil_append, List.cons_append, List.append_nil, ↓reduceIte, Nat.reduceLT, Nat.reduceAdd, Nat.reduceMul, Nat.reduceLeDiff, Nat.reduceEqDiff, Nat.zero_add, Nat.add_zero, Nat.mul_zero, Nat.zero_mul, Nat.one_mul, Nat.mul_one, ne_eq, not_false_eq_true, not_true_eq_false, true_and, and_true, false_and, and_false, or_false, or_true, false_or, true_or, Bool.true_and, Bool.and_true, Bool.false_and, Bool.and_false, Bool.not_true, Bool.not_false, Bool.false_eq_true, Bool.true_eq_false, id_eq, reduceCtorEq, Int.toNat_natCast, Int.reduceLT, Int.reduceLE, Int.reduceEq, Int.reduceNe, Int.reduceAdd, Int.reduceSub, Int.reduceMul, Int.reduceNeg, Int.reduceToNat, Nat.reduceSub, Int.toNat_zero, Int.toNat_one, Int.natCast_zero, Int.le_refl, Int.natCast_nonneg, decide_true, decide_false, and_self, decide_eq_true_eq, decide_eq_false_iff_not, Nat.succ_ne_zero, Nat.zero_le, Nat.le_refl, hi, hBt, a1, a2, a3, hN, qLp]
          refine ⟨by unfold inI; omega, ⟨by kernel_rfl, by unfold inI; omega⟩, by unfold inI; omega, by unfold inI; omega, k + 1, id, ⟨by omega, _, hst⟩, by omega, ?_⟩
          simp only [Sub, subT, subB, subO, subP, inj, AV.ren, AV.rens, AV.lt, AV.lts, argT, argA, argAs, s0M, numT, flatM, packM, AS.kl, eatM, mkR, flatD, packA, retA, List.headD_cons, List.tail_cons, fQ, qLp, tysD, tmsD, strsD, intsD, rowD, xRet, rPs, xRes, flatA, rD, rDs, eq_self, true_or, xRun, vE, vP, vSub, vLoad, vFld, vIdx, vBin, vBinT, vEqA, shp, isAg, isBo, bvA, vEqB, vMax, cellsA, eqAV, eqAVs, shpOk, vNot, vLen, vChr, vExt, vBuild, vCut, vSlc, vCnv, vRow, vStore, vStE, primD, primDs, AS.setO, AV.unsp, AV.unsps, unspT, unspB, vApp, apP, apC, isCl, isCutO, vMake, iOf, bad, xFill, appL, appR, ixL, ixH, isB, bv, gT, gW, gN, gV, isU, isPick, pkC, pkA, pkB, isCall, popTo, AS.pt, AS.kn, AS.ev, AS.box, AS.setb, AS.mk', AS.owf, AS.rd, kill, look, cav, avB, avO, setRowG, AV.cells, AV.whole, AV.one, cD, cDs, eatsOf, dpOf, td0, td1, td2, td3, td4, td5, td6, Option.bind, Option.getD, Option.map, Option.isSome, List.map, List.take, List.drop, List.length, List.getElem?_cons_zero, List.getElem?_cons_succ, List.getElem?_nil, List.set, List.flatMap, List.foldr, List.all, List.replicate, List.mem_cons, List.not_mem_nil, List.nodup_cons, List.nodup_nil, List.nil_append, List.cons_append, List.append_nil, ↓reduceIte, Nat.reduceLT, Nat.reduceAdd, Nat.reduceMul, Nat.reduceLeDiff, Nat.reduceEqDiff, Nat.zero_add, Nat.add_zero, Nat.mul_zero, Nat.zero_mul, Nat.one_mul, Nat.mul_one, ne_eq, not_false_eq_true, not_true_eq_false, true_and, and_true, false_and, and_false, or_false, or_true, false_or, true_or, Bool.true_and, Bool.and_true, Bool.false_and, Bool.and_false, Bool.not_true, Bool.not_false, Bool.false_eq_true, Bool.true_eq_false, id_eq, reduceCtorEq, Int.toNat_natCast, Int.reduceLT, Int.reduceLE, Int.reduceEq, Int.reduceNe, Int.reduceAdd, Int.reduceSub, Int.reduceMul, Int.reduceNeg, Int.reduceToNat, Nat.reduceSub, Int.toNat_zero, Int.toNat_one, Int.natCast_zero, Int.le_refl, Int.natCast_nonneg, decide_true, decide_false, and_self, decide_eq_true_eq, decide_eq_false_iff_not, Nat.succ_ne_zero, Nat.zero_le, Nat.le_refl, cast1, hN1]
        · have hbad : dvL t.data.toList = none := dv_bad t k n hlt hn (by omega)
          have hr0 : rdP t = (0, false) := by rw [hrd', hbad]
          by_cases hd1 : byteI t k < 48
          · simp only [argT, argA, argAs, s0M, numT, flatM, packM, AS.kl, eatM, mkR, flatD, packA, retA, List.headD_cons, List.tail_cons, fQ, qLp, tysD, tmsD, strsD, intsD, rowD, xRet, rPs, xRes, flatA, rD, rDs, eq_self, true_or, xRun, vE, vP, vSub, vLoad, vFld, vIdx, vBin, vBinT, vEqA, shp, isAg, isBo, bvA, vEqB, vMax, cellsA, eqAV, eqAVs, shpOk, vNot, vLen, vChr, vExt, vBuild, vCut, vSlc, vCnv, vRow, vStore, vStE, primD, primDs, AS.setO, AV.unsp, AV.unsps, unspT, unspB, vApp, apP, apC, isCl, isCutO, vMake, iOf, bad, xFill, appL, appR, ixL, ixH, isB, bv, gT, gW, gN, gV, isU, isPick, pkC, pkA, pkB, isCall, popTo, AS.pt, AS.kn, AS.ev, AS.box, AS.setb, AS.mk', AS.owf, AS.rd, kill, look, cav, avB, avO, setRowG, AV.cells, AV.whole, AV.one, cD, cDs, eatsOf, dpOf, td0, td1, td2, td3, td4, td5, td6, Option.bind, Option.getD, Option.map, Option.isSome, List.map, List.take, List.drop, List.length, List.getElem?_cons_zero, List.getElem?_cons_succ, List.getElem?_nil, List.set, List.flatMap, List.foldr, List.all, List.replicate, List.mem_cons, List.not_mem_nil, List.nodup_cons, List.nodup_nil, List.nil_append, List.cons_append, List.append_nil, ↓reduceIte, Nat.reduceLT, Nat.reduceAdd, Nat.reduceMul, Nat.reduceLeDiff, Nat.reduceEqDiff, Nat.zero_add, Nat.add_zero, Nat.mul_zero, Nat.zero_mul, Nat.one_mul, Nat.mul_one, ne_eq, not_false_eq_true, not_true_eq_false, true_and, and_true, false_and, and_false, or_false, or_true, false_or, true_or, Bool.true_and, Bool.and_true, Bool.false_and, Bool.and_false, Bool.not_true, Bool.not_false, Bool.false_eq_true, Bool.true_eq_false, id_eq, reduceCtorEq, Int.toNat_natCast, Int.reduceLT, Int.reduceLE, Int.reduceEq, Int.reduceNe, Int.reduceAdd, Int.reduceSub, Int.reduceMul, Int.reduceNeg, Int.reduceToNat, Nat.reduceSub, Int.toNat_zero, Int.toNat_one, Int.natCast_zero, Int.le_refl, Int.natCast_nonneg, decide_true, decide_false, and_self, decide_eq_true_eq, decide_eq_false_iff_not, Nat.succ_ne_zero, Nat.zero_le, Nat.le_refl, hi, hBt, eq_true hd1, hr0, Tryd.ntmps28, Tryd.results28]
          · have hd2 : 57 < byteI t k := by omega
            simp only [argT, argA, argAs, s0M, numT, flatM, packM, AS.kl, eatM, mkR, flatD, packA, retA, List.headD_cons, List.tail_cons, fQ, qLp, tysD, tmsD, strsD, intsD, rowD, xRet, rPs, xRes, flatA, rD, rDs, eq_self, true_or, xRun, vE, vP, vSub, vLoad, vFld, vIdx, vBin, vBinT, vEqA, shp, isAg, isBo, bvA, vEqB, vMax, cellsA, eqAV, eqAVs, shpOk, vNot, vLen, vChr, vExt, vBuild, vCut, vSlc, vCnv, vRow, vStore, vStE, primD, primDs, AS.setO, AV.unsp, AV.unsps, unspT, unspB, vApp, apP, apC, isCl, isCutO, vMake, iOf, bad, xFill, appL, appR, ixL, ixH, isB, bv, gT, gW, gN, gV, isU, isPick, pkC, pkA, pkB, isCall, popTo, AS.pt, AS.kn, AS.ev, AS.box, AS.setb, AS.mk', AS.owf, AS.rd, kill, look, cav, avB, avO, setRowG, AV.cells, AV.whole, AV.one, cD, cDs, eatsOf, dpOf, td0, td1, td2, td3, td4, td5, td6, Option.bind, Option.getD, Option.map, Option.isSome, List.map, List.take, List.drop, List.length, List.getElem?_cons_zero, List.getElem?_cons_succ, List.getElem?_nil, List.set, List.flatMap, List.foldr, List.all, List.replicate, List.mem_cons, List.not_mem_nil, List.nodup_cons, List.nodup_nil, List.nil_append, List.cons_append, List.append_nil, ↓reduceIte, Nat.reduceLT, Nat.reduceAdd, Nat.reduceMul, Nat.reduceLeDiff, Nat.reduceEqDiff, Nat.zero_add, Nat.add_zero, Nat.mul_zero, Nat.zero_mul, Nat.one_mul, Nat.mul_one, ne_eq, not_false_eq_true, not_true_eq_false, true_and, and_true, false_and, and_false, or_false, or_true, false_or, true_or, Bool.true_and, Bool.and_true, Bool.false_and, Bool.and_false, Bool.not_true, Bool.not_false, Bool.false_eq_true, Bool.true_eq_false, id_eq, reduceCtorEq, Int.toNat_natCast, Int.reduceLT, Int.reduceLE, Int.reduceEq, Int.reduceNe, Int.reduceAdd, Int.reduceSub, Int.reduceMul, Int.reduceNeg, Int.reduceToNat, Nat.reduceSub, Int.toNat_zero, Int.toNat_one, Int.natCast_zero, Int.le_refl, Int.natCast_nonneg, decide_true, decide_false, and_self, decide_eq_true_eq, decide_eq_false_iff_not, Nat.succ_ne_zero, Nat.zero_le, Nat.le_refl, hi, hBt, hd1, eq_true hd2, hr0, Tryd.ntmps28, Tryd.results28]
      · have hi : ¬ (k : Int) < (t.size : Int) := by omega
        obtain rfl : k = t.size := by omega
        have hall : dvL t.data.toList = some n := by rw [← hn, ← sz_toL, List.take_length]
        have hF := con_FmtZ ((n : Int)) (by omega)
        rw [hall] at hrd'
        simp only [hv] at hrd'
        simp only [argT, argA, argAs, s0M, numT, flatM, packM, AS.kl, eatM, mkR, flatD, packA, retA, List.headD_cons, List.tail_cons, fQ, qLp, tysD, tmsD, strsD, intsD, rowD, xRet, rPs, xRes, flatA, rD, rDs, eq_self, true_or, xRun, vE, vP, vSub, vLoad, vFld, vIdx, vBin, vBinT, vEqA, shp, isAg, isBo, bvA, vEqB, vMax, cellsA, eqAV, eqAVs, shpOk, vNot, vLen, vChr, vExt, vBuild, vCut, vSlc, vCnv, vRow, vStore, vStE, primD, primDs, AS.setO, AV.unsp, AV.unsps, unspT, unspB, vApp, apP, apC, isCl, isCutO, vMake, iOf, bad, xFill, appL, appR, ixL, ixH, isB, bv, gT, gW, gN, gV, isU, isPick, pkC, pkA, pkB, isCall, popTo, AS.pt, AS.kn, AS.ev, AS.box, AS.setb, AS.mk', AS.owf, AS.rd, kill, look, cav, avB, avO, setRowG, AV.cells, AV.whole, AV.one, cD, cDs, eatsOf, dpOf, td0, td1, td2, td3, td4, td5, td6, Option.bind, Option.getD, Option.map, Option.isSome, List.map, List.take, List.drop, List.length, List.getElem?_cons_zero, List.getElem?_cons_succ, List.getElem?_nil, List.set, List.flatMap, List.foldr, List.all, List.replicate, List.mem_cons, List.not_mem_nil, List.nodup_cons, List.nodup_nil, List.nil_append, List.cons_append, List.append_nil, ↓reduceIte, Nat.reduceLT, Nat.reduceAdd, Nat.reduceMul, Nat.reduceLeDiff, Nat.reduceEqDiff, Nat.zero_add, Nat.add_zero, Nat.mul_zero, Nat.zero_mul, Nat.one_mul, Nat.mul_one, ne_eq, not_false_eq_true, not_true_eq_false, true_and, and_true, false_and, and_false, or_false, or_true, false_or, true_or, Bool.true_and, Bool.and_true, Bool.false_and, Bool.and_false, Bool.not_true, Bool.not_false, Bool.false_eq_true, Bool.true_eq_false, id_eq, reduceCtorEq, Int.toNat_natCast, Int.reduceLT, Int.reduceLE, Int.reduceEq, Int.reduceNe, Int.reduceAdd, Int.reduceSub, Int.reduceMul, Int.reduceNeg, Int.reduceToNat, Nat.reduceSub, Int.toNat_zero, Int.toNat_one, Int.natCast_zero, Int.le_refl, Int.natCast_nonneg, decide_true, decide_false, and_self, decide_eq_true_eq, decide_eq_false_iff_not, Nat.succ_ne_zero, Nat.zero_le, Nat.le_refl, hi]
        refine sw_run 200 _ _ _ ?_
        skip
        have hin : inI ((n : Int)) := by unfold inI; omega
        simp only [argT, argA, argAs, s0M, numT, flatM, packM, AS.kl, eatM, mkR, flatD, packA, retA, List.headD_cons, List.tail_cons, fQ, qLp, tysD, tmsD, strsD, intsD, rowD, xRet, rPs, xRes, flatA, rD, rDs, eq_self, true_or, xRun, vE, vP, vSub, vLoad, vFld, vIdx, vBin, vBinT, vEqA, shp, isAg, isBo, bvA, vEqB, vMax, cellsA, eqAV, eqAVs, shpOk, vNot, vLen, vChr, vExt, vBuild, vCut, vSlc, vCnv, vRow, vStore, vStE, primD, primDs, AS.setO, AV.unsp, AV.unsps, unspT, unspB, vApp, apP, apC, isCl, isCutO, vMake, iOf, bad, xFill, appL, appR, ixL, ixH, isB, bv, gT, gW, gN, gV, isU, isPick, pkC, pkA, pkB, isCall, popTo, AS.pt, AS.kn, AS.ev, AS.box, AS.setb, AS.mk', AS.owf, AS.rd, kill, look, cav, avB, avO, setRowG, AV.cells, AV.whole, AV.one, cD, cDs, eatsOf, dpOf, td0, td1, td2, td3, td4, td5, td6, Option.bind, Option.getD, Option.map, Option.isSome, List.map, List.take, List.drop, List.length, List.getElem?_cons_zero, List.getElem?_cons_succ, List.getElem?_nil, List.set, List.flatMap, List.foldr, List.all, List.replicate, List.mem_cons, List.not_mem_nil, List.nodup_cons, List.nodup_nil, List.nil_append, List.cons_append, List.append_nil, ↓reduceIte, Nat.reduceLT, Nat.reduceAdd, Nat.reduceMul, Nat.reduceLeDiff, Nat.reduceEqDiff, Nat.zero_add, Nat.add_zero, Nat.mul_zero, Nat.zero_mul, Nat.one_mul, Nat.mul_one, ne_eq, not_false_eq_true, not_true_eq_false, true_and, and_true, false_and, and_false, or_false, or_true, false_or, true_or, Bool.true_and, Bool.and_true, Bool.false_and, Bool.and_false, Bool.not_true, Bool.not_false, Bool.false_eq_true, Bool.true_eq_false, id_eq, reduceCtorEq, Int.toNat_natCast, Int.reduceLT, Int.reduceLE, Int.reduceEq, Int.reduceNe, Int.reduceAdd, Int.reduceSub, Int.reduceMul, Int.reduceNeg, Int.reduceToNat, Nat.reduceSub, Int.toNat_zero, Int.toNat_one, Int.natCast_zero, Int.le_refl, Int.natCast_nonneg, decide_true, decide_false, and_self, decide_eq_true_eq, decide_eq_false_iff_not, Nat.succ_ne_zero, Nat.zero_le, Nat.le_refl, hN, hin]
        refine sw_call hF rfl (aAs_ok ?_) ?_ (sw_run 200 _ _ _ ?_)
        · simp only [aAs, aA, aDs, aD, tysD, tmsD, strsD, intsD, argAs, argA, avB, AS.ev, AS.owf, AS.mk', AS.pt, AS.box, AS.setb, kill, look, cav, Option.bind, Option.getD, Option.map, Option.isSome, id_eq, List.map, List.nil_append, List.cons_append, List.append_nil, List.foldr, ↓reduceIte, Nat.reduceEqDiff, Nat.reduceLT, Nat.zero_add, Nat.reduceAdd, reduceCtorEq, eq_self, and_self, true_and, and_true, List.length, Nat.succ_ne_zero]
        · simp only [okR]
        by_cases he : numZ ((n : Int)) = t
        · rw [if_pos he] at hrd'
          simp only [argT, argA, argAs, s0M, numT, flatM, packM, AS.kl, eatM, mkR, flatD, packA, retA, List.headD_cons, List.tail_cons, fQ, qLp, tysD, tmsD, strsD, intsD, rowD, xRet, rPs, xRes, flatA, rD, rDs, eq_self, true_or, xRun, vE, vP, vSub, vLoad, vFld, vIdx, vBin, vBinT, vEqA, shp, isAg, isBo, bvA, vEqB, vMax, cellsA, eqAV, eqAVs, shpOk, vNot, vLen, vChr, vExt, vBuild, vCut, vSlc, vCnv, vRow, vStore, vStE, primD, primDs, AS.setO, AV.unsp, AV.unsps, unspT, unspB, vApp, apP, apC, isCl, isCutO, vMake, iOf, bad, xFill, appL, appR, ixL, ixH, isB, bv, gT, gW, gN, gV, isU, isPick, pkC, pkA, pkB, isCall, popTo, AS.pt, AS.kn, AS.ev, AS.box, AS.setb, AS.mk', AS.owf, AS.rd, kill, look, cav, avB, avO, setRowG, AV.cells, AV.whole, AV.one, cD, cDs, eatsOf, dpOf, td0, td1, td2, td3, td4, td5, td6, Option.bind, Option.getD, Option.map, Option.isSome, List.map, List.take, List.drop, List.length, List.getElem?_cons_zero, List.getElem?_cons_succ, List.getElem?_nil, List.set, List.flatMap, List.foldr, List.all, List.replicate, List.mem_cons, List.not_mem_nil, List.nodup_cons, List.nodup_nil, List.nil_append, List.cons_append, List.append_nil, ↓reduceIte, Nat.reduceLT, Nat.reduceAdd, Nat.reduceMul, Nat.reduceLeDiff, Nat.reduceEqDiff, Nat.zero_add, Nat.add_zero, Nat.mul_zero, Nat.zero_mul, Nat.one_mul, Nat.mul_one, ne_eq, not_false_eq_true, not_true_eq_false, true_and, and_true, false_and, and_false, or_false, or_true, false_or, true_or, Bool.true_and, Bool.and_true, Bool.false_and, Bool.and_false, Bool.not_true, Bool.not_false, Bool.false_eq_true, Bool.true_eq_false, id_eq, reduceCtorEq, Int.toNat_natCast, Int.reduceLT, Int.reduceLE, Int.reduceEq, Int.reduceNe, Int.reduceAdd, Int.reduceSub, Int.reduceMul, Int.reduceNeg, Int.reduceToNat, Nat.reduceSub, Int.toNat_zero, Int.toNat_one, Int.natCast_zero, Int.le_refl, Int.natCast_nonneg, decide_true, decide_false, and_self, decide_eq_true_eq, decide_eq_false_iff_not, Nat.succ_ne_zero, Nat.zero_le, Nat.le_refl, eq_true he, hrd', Tryd.ntmps28, Tryd.results28]
        · rw [if_neg he] at hrd'
          simp only [argT, argA, argAs, s0M, numT, flatM, packM, AS.kl, eatM, mkR, flatD, packA, retA, List.headD_cons, List.tail_cons, fQ, qLp, tysD, tmsD, strsD, intsD, rowD, xRet, rPs, xRes, flatA, rD, rDs, eq_self, true_or, xRun, vE, vP, vSub, vLoad, vFld, vIdx, vBin, vBinT, vEqA, shp, isAg, isBo, bvA, vEqB, vMax, cellsA, eqAV, eqAVs, shpOk, vNot, vLen, vChr, vExt, vBuild, vCut, vSlc, vCnv, vRow, vStore, vStE, primD, primDs, AS.setO, AV.unsp, AV.unsps, unspT, unspB, vApp, apP, apC, isCl, isCutO, vMake, iOf, bad, xFill, appL, appR, ixL, ixH, isB, bv, gT, gW, gN, gV, isU, isPick, pkC, pkA, pkB, isCall, popTo, AS.pt, AS.kn, AS.ev, AS.box, AS.setb, AS.mk', AS.owf, AS.rd, kill, look, cav, avB, avO, setRowG, AV.cells, AV.whole, AV.one, cD, cDs, eatsOf, dpOf, td0, td1, td2, td3, td4, td5, td6, Option.bind, Option.getD, Option.map, Option.isSome, List.map, List.take, List.drop, List.length, List.getElem?_cons_zero, List.getElem?_cons_succ, List.getElem?_nil, List.set, List.flatMap, List.foldr, List.all, List.replicate, List.mem_cons, List.not_mem_nil, List.nodup_cons, List.nodup_nil, List.nil_append, List.cons_append, List.append_nil, ↓reduceIte, Nat.reduceLT, Nat.reduceAdd, Nat.reduceMul, Nat.reduceLeDiff, Nat.reduceEqDiff, Nat.zero_add, Nat.add_zero, Nat.mul_zero, Nat.zero_mul, Nat.one_mul, Nat.mul_one, ne_eq, not_false_eq_true, not_true_eq_false, true_and, and_true, false_and, and_false, or_false, or_true, false_or, true_or, Bool.true_and, Bool.and_true, Bool.false_and, Bool.and_false, Bool.not_true, Bool.not_false, Bool.false_eq_true, Bool.true_eq_false, id_eq, reduceCtorEq, Int.toNat_natCast, Int.reduceLT, Int.reduceLE, Int.reduceEq, Int.reduceNe, Int.reduceAdd, Int.reduceSub, Int.reduceMul, Int.reduceNeg, Int.reduceToNat, Nat.reduceSub, Int.toNat_zero, Int.toNat_one, Int.natCast_zero, Int.le_refl, Int.natCast_nonneg, decide_true, decide_false, and_self, decide_eq_true_eq, decide_eq_false_iff_not, Nat.succ_ne_zero, Nat.zero_le, Nat.le_refl, he, hrd', Tryd.ntmps28, Tryd.results28]
theorem con_l1Read (s : ByteArray) (hz : s.size ≤ 1000000000) : Con Tryd.prog 28 [.one (.str s), .one (.int 6)] [.one (.int (rdP s).1), .one (.bool (rdP s).2)] := by
  by_cases h : s.size = 0
  · exact con_l1Read0 s h
  · by_cases hc : byteI s 0 = 45
    · exact con_l1ReadB s hz (by omega) hc
    · exact con_l1ReadC s hz (by omega) hc
theorem con_PNS (s : ByteArray) (hz : s.size ≤ 1000000000) : Con Tryd.prog 17 [.one (.str s)] [.one (.int (nsP s).1), .one (.bool (nsP s).2)] := by
  have hc := con_l1Read s hz
  have hn : nsP s = if (rdP s).2 = false ∨ (rdP s).1 < 0 then (0, false) else rdP s := rfl
  obtain ⟨⟨v, b⟩, hr⟩ : ∃ x, rdP s = x := ⟨_, rfl⟩
  rw [hr] at hn hc
  simp only at hn hc
  refine con_run Tryd.func17 rfl rfl (by simp [Tryd.ntmps17]) ?_
  simp only [argT, argA, argAs, s0M, numT, flatM, packM, AS.kl, eatM, mkR, flatD, packA, retA, List.headD_cons, List.tail_cons, fQ, qLp, tysD, tmsD, strsD, intsD, rowD, xRet, rPs, xRes, flatA, rD, rDs, eq_self, true_or, xRun, vE, vP, vSub, vLoad, vFld, vIdx, vBin, vBinT, vEqA, shp, isAg, isBo, bvA, vEqB, vMax, cellsA, eqAV, eqAVs, shpOk, vNot, vLen, vChr, vExt, vBuild, vCut, vSlc, vCnv, vRow, vStore, vStE, primD, primDs, AS.setO, AV.unsp, AV.unsps, unspT, unspB, vApp, apP, apC, isCl, isCutO, vMake, iOf, bad, xFill, appL, appR, ixL, ixH, isB, bv, gT, gW, gN, gV, isU, isPick, pkC, pkA, pkB, isCall, popTo, AS.pt, AS.kn, AS.ev, AS.box, AS.setb, AS.mk', AS.owf, AS.rd, kill, look, cav, avB, avO, setRowG, AV.cells, AV.whole, AV.one, cD, cDs, eatsOf, dpOf, td0, td1, td2, td3, td4, td5, td6, Option.bind, Option.getD, Option.map, Option.isSome, List.map, List.take, List.drop, List.length, List.getElem?_cons_zero, List.getElem?_cons_succ, List.getElem?_nil, List.set, List.flatMap, List.foldr, List.all, List.replicate, List.mem_cons, List.not_mem_nil, List.nodup_cons, List.nodup_nil, List.nil_append, List.cons_append, List.append_nil, ↓reduceIte, Nat.reduceLT, Nat.reduceAdd, Nat.reduceMul, Nat.reduceLeDiff, Nat.reduceEqDiff, Nat.zero_add, Nat.add_zero, Nat.mul_zero, Nat.zero_mul, Nat.one_mul, Nat.mul_one, ne_eq, not_false_eq_true, not_true_eq_false, true_and, and_true, false_and, and_false, or_false, or_true, false_or, true_or, Bool.true_and, Bool.and_true, Bool.false_and, Bool.and_false, Bool.not_true, Bool.not_false, Bool.false_eq_true, Bool.true_eq_false, id_eq, reduceCtorEq, Int.toNat_natCast, Int.reduceLT, Int.reduceLE, Int.reduceEq, Int.reduceNe, Int.reduceAdd, Int.reduceSub, Int.reduceMul, Int.reduceNeg, Int.reduceToNat, Nat.reduceSub, Int.toNat_zero, Int.toNat_one, Int.natCast_zero, Int.le_refl, Int.natCast_nonneg, decide_true, decide_false, and_self, decide_eq_true_eq, decide_eq_false_iff_not, Nat.succ_ne_zero, Nat.zero_le, Nat.le_refl, Tryd.ntmps17, Tryd.results17]
  refine sw_call hc rfl (aAs_ok ?_) ?_ (sw_run 200 _ _ _ ?_)
  · simp only [aAs, aA, aDs, aD, tysD, tmsD, strsD, intsD, argAs, argA, avB, AS.ev, AS.owf, AS.mk', AS.pt, AS.box, AS.setb, kill, look, cav, Option.bind, Option.getD, Option.map, Option.isSome, id_eq, List.map, List.nil_append, List.cons_append, List.append_nil, List.foldr, ↓reduceIte, Nat.reduceEqDiff, Nat.reduceLT, Nat.zero_add, Nat.reduceAdd, reduceCtorEq, eq_self, and_self, true_and, and_true, List.length, Nat.succ_ne_zero]
  · simp only [okR]
  cases b
  · rw [if_pos (Or.inl rfl)] at hn
    simp only [argT, argA, argAs, s0M, numT, flatM, packM, AS.kl, eatM, mkR, flatD, packA, retA, List.headD_cons, List.tail_cons, fQ, qLp, tysD, tmsD, strsD, intsD, rowD, xRet, rPs, xRes, flatA, rD, rDs, eq_self, true_or, xRun, vE, vP, vSub, vLoad, vFld, vIdx, vBin, vBinT, vEqA, shp, isAg, isBo, bvA, vEqB, vMax, cellsA, eqAV, eqAVs, shpOk, vNot, vLen, vChr, vExt, vBuild, vCut, vSlc, vCnv, vRow, vStore, vStE, primD, primDs, AS.setO, AV.unsp, AV.unsps, unspT, unspB, vApp, apP, apC, isCl, isCutO, vMake, iOf, bad, xFill, appL, appR, ixL, ixH, isB, bv, gT, gW, gN, gV, isU, isPick, pkC, pkA, pkB, isCall, popTo, AS.pt, AS.kn, AS.ev, AS.box, AS.setb, AS.mk', AS.owf, AS.rd, kill, look, cav, avB, avO, setRowG, AV.cells, AV.whole, AV.one, cD, cDs, eatsOf, dpOf, td0, td1, td2, td3, td4, td5, td6, Option.bind, Option.getD, Option.map, Option.isSome, List.map, List.take, List.drop, List.length, List.getElem?_cons_zero, List.getElem?_cons_succ, List.getElem?_nil, List.set, List.flatMap, List.foldr, List.all, List.replicate, List.mem_cons, List.not_mem_nil, List.nodup_cons, List.nodup_nil, List.nil_append, List.cons_append, List.append_nil, ↓reduceIte, Nat.reduceLT, Nat.reduceAdd, Nat.reduceMul, Nat.reduceLeDiff, Nat.reduceEqDiff, Nat.zero_add, Nat.add_zero, Nat.mul_zero, Nat.zero_mul, Nat.one_mul, Nat.mul_one, ne_eq, not_false_eq_true, not_true_eq_false, true_and, and_true, false_and, and_false, or_false, or_true, false_or, true_or, Bool.true_and, Bool.and_true, Bool.false_and, Bool.and_false, Bool.not_true, Bool.not_false, Bool.false_eq_true, Bool.true_eq_false, id_eq, reduceCtorEq, Int.toNat_natCast, Int.reduceLT, Int.reduceLE, Int.reduceEq, Int.reduceNe, Int.reduceAdd, Int.reduceSub, Int.reduceMul, Int.reduceNeg, Int.reduceToNat, Nat.reduceSub, Int.toNat_zero, Int.toNat_one, Int.natCast_zero, Int.le_refl, Int.natCast_nonneg, decide_true, decide_false, and_self, decide_eq_true_eq, decide_eq_false_iff_not, Nat.succ_ne_zero, Nat.zero_le, Nat.le_refl, hn, Tryd.ntmps17, Tryd.results17]
  · by_cases hv : v < 0
    · rw [if_pos (Or.inr hv)] at hn
      simp only [argT, argA, argAs, s0M, numT, flatM, packM, AS.kl, eatM, mkR, flatD, packA, retA, List.headD_cons, List.tail_cons, fQ, qLp, tysD, tmsD, strsD, intsD, rowD, xRet, rPs, xRes, flatA, rD, rDs, eq_self, true_or, xRun, vE, vP, vSub, vLoad, vFld, vIdx, vBin, vBinT, vEqA, shp, isAg, isBo, bvA, vEqB, vMax, cellsA, eqAV, eqAVs, shpOk, vNot, vLen, vChr, vExt, vBuild, vCut, vSlc, vCnv, vRow, vStore, vStE, primD, primDs, AS.setO, AV.unsp, AV.unsps, unspT, unspB, vApp, apP, apC, isCl, isCutO, vMake, iOf, bad, xFill, appL, appR, ixL, ixH, isB, bv, gT, gW, gN, gV, isU, isPick, pkC, pkA, pkB, isCall, popTo, AS.pt, AS.kn, AS.ev, AS.box, AS.setb, AS.mk', AS.owf, AS.rd, kill, look, cav, avB, avO, setRowG, AV.cells, AV.whole, AV.one, cD, cDs, eatsOf, dpOf, td0, td1, td2, td3, td4, td5, td6, Option.bind, Option.getD, Option.map, Option.isSome, List.map, List.take, List.drop, List.length, List.getElem?_cons_zero, List.getElem?_cons_succ, List.getElem?_nil, List.set, List.flatMap, List.foldr, List.all, List.replicate, List.mem_cons, List.not_mem_nil, List.nodup_cons, List.nodup_nil, List.nil_append, List.cons_append, List.append_nil, ↓reduceIte, Nat.reduceLT, Nat.reduceAdd, Nat.reduceMul, Nat.reduceLeDiff, Nat.reduceEqDiff, Nat.zero_add, Nat.add_zero, Nat.mul_zero, Nat.zero_mul, Nat.one_mul, Nat.mul_one, ne_eq, not_false_eq_true, not_true_eq_false, true_and, and_true, false_and, and_false, or_false, or_true, false_or, true_or, Bool.true_and, Bool.and_true, Bool.false_and, Bool.and_false, Bool.not_true, Bool.not_false, Bool.false_eq_true, Bool.true_eq_false, id_eq, reduceCtorEq, Int.toNat_natCast, Int.reduceLT, Int.reduceLE, Int.reduceEq, Int.reduceNe, Int.reduceAdd, Int.reduceSub, Int.reduceMul, Int.reduceNeg, Int.reduceToNat, Nat.reduceSub, Int.toNat_zero, Int.toNat_one, Int.natCast_zero, Int.le_refl, Int.natCast_nonneg, decide_true, decide_false, and_self, decide_eq_true_eq, decide_eq_false_iff_not, Nat.succ_ne_zero, Nat.zero_le, Nat.le_refl, hn, eq_true hv, Tryd.ntmps17, Tryd.results17]
    · rw [if_neg (by rintro (h | h); cases h; exact hv h)] at hn
      simp only [argT, argA, argAs, s0M, numT, flatM, packM, AS.kl, eatM, mkR, flatD, packA, retA, List.headD_cons, List.tail_cons, fQ, qLp, tysD, tmsD, strsD, intsD, rowD, xRet, rPs, xRes, flatA, rD, rDs, eq_self, true_or, xRun, vE, vP, vSub, vLoad, vFld, vIdx, vBin, vBinT, vEqA, shp, isAg, isBo, bvA, vEqB, vMax, cellsA, eqAV, eqAVs, shpOk, vNot, vLen, vChr, vExt, vBuild, vCut, vSlc, vCnv, vRow, vStore, vStE, primD, primDs, AS.setO, AV.unsp, AV.unsps, unspT, unspB, vApp, apP, apC, isCl, isCutO, vMake, iOf, bad, xFill, appL, appR, ixL, ixH, isB, bv, gT, gW, gN, gV, isU, isPick, pkC, pkA, pkB, isCall, popTo, AS.pt, AS.kn, AS.ev, AS.box, AS.setb, AS.mk', AS.owf, AS.rd, kill, look, cav, avB, avO, setRowG, AV.cells, AV.whole, AV.one, cD, cDs, eatsOf, dpOf, td0, td1, td2, td3, td4, td5, td6, Option.bind, Option.getD, Option.map, Option.isSome, List.map, List.take, List.drop, List.length, List.getElem?_cons_zero, List.getElem?_cons_succ, List.getElem?_nil, List.set, List.flatMap, List.foldr, List.all, List.replicate, List.mem_cons, List.not_mem_nil, List.nodup_cons, List.nodup_nil, List.nil_append, List.cons_append, List.append_nil, ↓reduceIte, Nat.reduceLT, Nat.reduceAdd, Nat.reduceMul, Nat.reduceLeDiff, Nat.reduceEqDiff, Nat.zero_add, Nat.add_zero, Nat.mul_zero, Nat.zero_mul, Nat.one_mul, Nat.mul_one, ne_eq, not_false_eq_true, not_true_eq_false, true_and, and_true, false_and, and_false, or_false, or_true, false_or, true_or, Bool.true_and, Bool.and_true, Bool.false_and, Bool.and_false, Bool.not_true, Bool.not_false, Bool.false_eq_true, Bool.true_eq_false, id_eq, reduceCtorEq, Int.toNat_natCast, Int.reduceLT, Int.reduceLE, Int.reduceEq, Int.reduceNe, Int.reduceAdd, Int.reduceSub, Int.reduceMul, Int.reduceNeg, Int.reduceToNat, Nat.reduceSub, Int.toNat_zero, Int.toNat_one, Int.natCast_zero, Int.le_refl, Int.natCast_nonneg, decide_true, decide_false, and_self, decide_eq_true_eq, decide_eq_false_iff_not, Nat.succ_ne_zero, Nat.zero_le, Nat.le_refl, hn, hv, Tryd.ntmps17, Tryd.results17]
theorem con_SplitS (s : ByteArray) (c : UInt8) (hz : s.size ≤ 1000000000) : Con Tryd.prog 13 [.one (.str s), .one (.byt c.toNat)] [.one (strsD (splB s c))] := by
  have hin : inI ((s.size : Int) + 1) := by unfold inI; omega
  refine con_run Tryd.func13 rfl rfl (by simp [Tryd.ntmps13]) ?_
  simp only [argT, argA, argAs, s0M, numT, flatM, packM, AS.kl, eatM, mkR, flatD, packA, retA, List.headD_cons, List.tail_cons, fQ, qLp, tysD, tmsD, strsD, intsD, rowD, xRet, rPs, xRes, flatA, rD, rDs, eq_self, true_or, xRun, vE, vP, vSub, vLoad, vFld, vIdx, vBin, vBinT, vEqA, shp, isAg, isBo, bvA, vEqB, vMax, cellsA, eqAV, eqAVs, shpOk, vNot, vLen, vChr, vExt, vBuild, vCut, vSlc, vCnv, vRow, vStore, vStE, primD, primDs, AS.setO, AV.unsp, AV.unsps, unspT, unspB, vApp, apP, apC, isCl, isCutO, vMake, iOf, bad, xFill, appL, appR, ixL, ixH, isB, bv, gT, gW, gN, gV, isU, isPick, pkC, pkA, pkB, isCall, popTo, AS.pt, AS.kn, AS.ev, AS.box, AS.setb, AS.mk', AS.owf, AS.rd, kill, look, cav, avB, avO, setRowG, AV.cells, AV.whole, AV.one, cD, cDs, eatsOf, dpOf, td0, td1, td2, td3, td4, td5, td6, Option.bind, Option.getD, Option.map, Option.isSome, List.map, List.take, List.drop, List.length, List.getElem?_cons_zero, List.getElem?_cons_succ, List.getElem?_nil, List.set, List.flatMap, List.foldr, List.all, List.replicate, List.mem_cons, List.not_mem_nil, List.nodup_cons, List.nodup_nil, List.nil_append, List.cons_append, List.append_nil, ↓reduceIte, Nat.reduceLT, Nat.reduceAdd, Nat.reduceMul, Nat.reduceLeDiff, Nat.reduceEqDiff, Nat.zero_add, Nat.add_zero, Nat.mul_zero, Nat.zero_mul, Nat.one_mul, Nat.mul_one, ne_eq, not_false_eq_true, not_true_eq_false, true_and, and_true, false_and, and_false, or_false, or_true, false_or, true_or, Bool.true_and, Bool.and_true, Bool.false_and, Bool.and_false, Bool.not_true, Bool.not_false, Bool.false_eq_true, Bool.true_eq_false, id_eq, reduceCtorEq, Int.toNat_natCast, Int.reduceLT, Int.reduceLE, Int.reduceEq, Int.reduceNe, Int.reduceAdd, Int.reduceSub, Int.reduceMul, Int.reduceNeg, Int.reduceToNat, Nat.reduceSub, Int.toNat_zero, Int.toNat_one, Int.natCast_zero, Int.le_refl, Int.natCast_nonneg, decide_true, decide_false, and_self, decide_eq_true_eq, decide_eq_false_iff_not, Nat.succ_ne_zero, Nat.zero_le, Nat.le_refl, Tryd.ntmps13, Tryd.results13]
  refine sw_loop (fun k : Nat => k ≤ s.size + 1) (fun k => ⟨36, [(7, .i k), (6, .i (spl s c k).2), (5, .sl 0), (1, .y c.toNat), (0, .s s)], [], [(0, some ⟨.rows 1 (spl s c k).1.length ((spl s c k).1.map D.str), some 9, true⟩)], 1, []⟩) (fun k => s.size + 1 - k) 0 id (Nat.zero_le _) ?_ ?_
  · simp only [Sub, subT, subB, subO, subP, inj, AV.ren, AV.rens, AV.lt, AV.lts, argT, argA, argAs, s0M, numT, flatM, packM, AS.kl, eatM, mkR, flatD, packA, retA, List.headD_cons, List.tail_cons, fQ, qLp, tysD, tmsD, strsD, intsD, rowD, xRet, rPs, xRes, flatA, rD, rDs, eq_self, true_or, xRun, vE, vP, vSub, vLoad, vFld, vIdx, vBin, vBinT, vEqA, shp, isAg, isBo, bvA, vEqB, vMax, cellsA, eqAV, eqAVs, shpOk, vNot, vLen, vChr, vExt, vBuild, vCut, vSlc, vCnv, vRow, vStore, vStE, primD, primDs, AS.setO, AV.unsp, AV.unsps, unspT, unspB, vApp, apP, apC, isCl, isCutO, vMake, iOf, bad, xFill, appL, appR, ixL, ixH, isB, bv, gT, gW, gN, gV, isU, isPick, pkC, pkA, pkB, isCall, popTo, AS.pt, AS.kn, AS.ev, AS.box, AS.setb, AS.mk', AS.owf, AS.rd, kill, look, cav, avB, avO, setRowG, AV.cells, AV.whole, AV.one, cD, cDs, eatsOf, dpOf, td0, td1, td2, td3, td4, td5, td6, Option.bind, Option.getD, Option.map, Option.isSome, List.map, List.take, List.drop, List.length, List.getElem?_cons_zero, List.getElem?_cons_succ, List.getElem?_nil, List.set, List.flatMap, List.foldr, List.all, List.replicate, List.mem_cons, List.not_mem_nil, List.nodup_cons, List.nodup_nil, List.nil_append, List.cons_append, List.append_nil, ↓reduceIte, Nat.reduceLT, Nat.reduceAdd, Nat.reduceMul, Nat.reduceLeDiff, Nat.reduceEqDiff, Nat.zero_add, Nat.add_zero, Nat.mul_zero, Nat.zero_mul, Nat.one_mul, Nat.mul_one, ne_eq, not_false_eq_true, not_true_eq_false, true_and, and_true, false_and, and_false, or_false, or_true, false_or, true_or, Bool.true_and, Bool.and_true, Bool.false_and, Bool.and_false, Bool.not_true, Bool.not_false, Bool.false_eq_true, Bool.true_eq_false, id_eq, reduceCtorEq, Int.toNat_natCast, Int.reduceLT, Int.reduceLE, Int.reduceEq, Int.reduceNe, Int.reduceAdd, Int.reduceSub, Int.reduceMul, Int.reduceNeg, Int.reduceToNat, Nat.reduceSub, Int.toNat_zero, Int.toNat_one, Int.natCast_zero, Int.le_refl, Int.natCast_nonneg, decide_true, decide_false, and_self, decide_eq_true_eq, decide_eq_false_iff_not, Nat.succ_ne_zero, Nat.zero_le, Nat.le_refl, Int.natCast_zero, spl, List.length_nil, List.map_nil]
  · rintro k hk
    obtain ⟨hl1, hl2⟩ := spl_len s c k
    have hstep : spl s c (k + 1) = if k = s.size ∨ byteI s k = (c.toNat : Int) then ((spl s c k).1 ++ [s.extract (spl s c k).2 k], k + 1) else spl s c k := rfl
    refine sw_run 200 _ _ _ ?_
    by_cases hlt : k ≤ s.size
    · have hi : (k : Int) ≤ (s.size : Int) := by omega
      have hi2 : ((spl s c k).2 : Int) ≤ (k : Int) := by omega
      have hBt : ((((s.data.getD k 0).toNat : Nat)) : Int) = byteI s k := rfl
      by_cases hE : (k : Int) = (s.size : Int)
      · have hs1 : (spl s c (k + 1)) = ((spl s c k).1 ++ [s.extract (spl s c k).2 k], k + 1) := by rw [hstep, if_pos (Or.inl (by omega))]
        simp only [argT, argA, argAs, s0M, numT, flatM, packM, AS.kl, eatM, mkR, flatD, packA, retA, List.headD_cons, List.tail_cons, fQ, qLp, tysD, tmsD, strsD, intsD, rowD, xRet, rPs, xRes, flatA, rD, rDs, eq_self, true_or, xRun, vE, vP, vSub, vLoad, vFld, vIdx, vBin, vBinT, vEqA, shp, isAg, isBo, bvA, vEqB, vMax, cellsA, eqAV, eqAVs, shpOk, vNot, vLen, vChr, vExt, vBuild, vCut, vSlc, vCnv, vRow, vStore, vStE, primD, primDs, AS.setO, AV.unsp, AV.unsps, unspT, unspB, vApp, apP, apC, isCl, isCutO, vMake, iOf, bad, xFill, appL, appR, ixL, ixH, isB, bv, gT, gW, gN, gV, isU, isPick, pkC, pkA, pkB, isCall, popTo, AS.pt, AS.kn, AS.ev, AS.box, AS.setb, AS.mk', AS.owf, AS.rd, kill, look, cav, avB, avO, setRowG, AV.cells, AV.whole, AV.one, cD, cDs, eatsOf, dpOf, td0, td1, td2, td3, td4, td5, td6, Option.bind, Option.getD, Option.map, Option.isSome, List.map, List.take, List.drop, List.length, List.getElem?_cons_zero, List.getElem?_cons_succ, List.getElem?_nil, List.set, List.flatMap, List.foldr, List.all, List.replicate, List.mem_cons, List.not_mem_nil, List.nodup_cons, List.nodup_nil, List.nil_append, List.cons_append, List.append_nil, ↓reduceIte, Nat.reduceLT, Nat.reduceAdd, Nat.reduceMul, Nat.reduceLeDiff, Nat.reduceEqDiff, Nat.zero_add, Nat.add_zero, Nat.mul_zero, Nat.zero_mul, Nat.one_mul, Nat.mul_one, ne_eq, not_false_eq_true, not_true_eq_false, true_and, and_true, false_and, and_false, or_false, or_true, false_or, true_or, Bool.true_and, Bool.and_true, Bool.false_and, Bool.and_false, Bool.not_true, Bool.not_false, Bool.false_eq_true, Bool.true_eq_false, id_eq, reduceCtorEq, Int.toNat_natCast, Int.reduceLT, Int.reduceLE, Int.reduceEq, Int.reduceNe, Int.reduceAdd, Int.reduceSub, Int.reduceMul, Int.reduceNeg, Int.reduceToNat, Nat.reduceSub, Int.toNat_zero, Int.toNat_one, Int.natCast_zero, Int.le_refl, Int.natCast_nonneg, decide_true, decide_false, and_self, decide_eq_true_eq, decide_eq_false_iff_not, Nat.succ_ne_zero, Nat.zero_le, Nat.le_refl, hi, hi2, eq_true hE, qLp]
        refine ⟨⟨fun h => h.elim, fun o ho => by omega, by unfold maxLen; omega, by omega⟩, by unfold inI; omega, by unfold inI; omega, k + 1, rn1 0 2, by omega, by omega, ?_⟩
        simp only [Sub, subT, subB, subO, subP, inj, AV.ren, AV.rens, AV.lt, AV.lts, argT, argA, argAs, s0M, numT, flatM, packM, AS.kl, eatM, mkR, flatD, packA, retA, List.headD_cons, List.tail_cons, fQ, qLp, tysD, tmsD, strsD, intsD, rowD, xRet, rPs, xRes, flatA, rD, rDs, eq_self, true_or, xRun, vE, vP, vSub, vLoad, vFld, vIdx, vBin, vBinT, vEqA, shp, isAg, isBo, bvA, vEqB, vMax, cellsA, eqAV, eqAVs, shpOk, vNot, vLen, vChr, vExt, vBuild, vCut, vSlc, vCnv, vRow, vStore, vStE, primD, primDs, AS.setO, AV.unsp, AV.unsps, unspT, unspB, vApp, apP, apC, isCl, isCutO, vMake, iOf, bad, xFill, appL, appR, ixL, ixH, isB, bv, gT, gW, gN, gV, isU, isPick, pkC, pkA, pkB, isCall, popTo, AS.pt, AS.kn, AS.ev, AS.box, AS.setb, AS.mk', AS.owf, AS.rd, kill, look, cav, avB, avO, setRowG, AV.cells, AV.whole, AV.one, cD, cDs, eatsOf, dpOf, td0, td1, td2, td3, td4, td5, td6, Option.bind, Option.getD, Option.map, Option.isSome, List.map, List.take, List.drop, List.length, List.getElem?_cons_zero, List.getElem?_cons_succ, List.getElem?_nil, List.set, List.flatMap, List.foldr, List.all, List.replicate, List.mem_cons, List.not_mem_nil, List.nodup_cons, List.nodup_nil, List.nil_append, List.cons_append, List.append_nil, ↓reduceIte, Nat.reduceLT, Nat.reduceAdd, Nat.reduceMul, Nat.reduceLeDiff, Nat.reduceEqDiff, Nat.zero_add, Nat.add_zero, Nat.mul_zero, Nat.zero_mul, Nat.one_mul, Nat.mul_one, ne_eq, not_false_eq_true, not_true_eq_false, true_and, and_true, false_and, and_false, or_false, or_true, false_or, true_or, Bool.true_and, Bool.and_true, Bool.false_and, Bool.and_false, Bool.not_true, Bool.not_false, Bool.false_eq_true, Bool.true_eq_false, id_eq, reduceCtorEq, Int.toNat_natCast, Int.reduceLT, Int.reduceLE, Int.reduceEq, Int.reduceNe, Int.reduceAdd, Int.reduceSub, Int.reduceMul, Int.reduceNeg, Int.reduceToNat, Nat.reduceSub, Int.toNat_zero, Int.toNat_one, Int.natCast_zero, Int.le_refl, Int.natCast_nonneg, decide_true, decide_false, and_self, decide_eq_true_eq, decide_eq_false_iff_not, Nat.succ_ne_zero, Nat.zero_le, Nat.le_refl, rn1, hs1, cast1, List.length_append, List.length_cons, List.length_nil, List.map_append, List.map_cons, List.map_nil, Nat.zero_add]
      · have hlt2 : (k : Int) < (s.size : Int) := by omega
        by_cases hc : byteI s k = (c.toNat : Int)
        · have hs1 : (spl s c (k + 1)) = ((spl s c k).1 ++ [s.extract (spl s c k).2 k], k + 1) := by rw [hstep, if_pos (Or.inr hc)]
          simp only [argT, argA, argAs, s0M, numT, flatM, packM, AS.kl, eatM, mkR, flatD, packA, retA, List.headD_cons, List.tail_cons, fQ, qLp, tysD, tmsD, strsD, intsD, rowD, xRet, rPs, xRes, flatA, rD, rDs, eq_self, true_or, xRun, vE, vP, vSub, vLoad, vFld, vIdx, vBin, vBinT, vEqA, shp, isAg, isBo, bvA, vEqB, vMax, cellsA, eqAV, eqAVs, shpOk, vNot, vLen, vChr, vExt, vBuild, vCut, vSlc, vCnv, vRow, vStore, vStE, primD, primDs, AS.setO, AV.unsp, AV.unsps, unspT, unspB, vApp, apP, apC, isCl, isCutO, vMake, iOf, bad, xFill, appL, appR, ixL, ixH, isB, bv, gT, gW, gN, gV, isU, isPick, pkC, pkA, pkB, isCall, popTo, AS.pt, AS.kn, AS.ev, AS.box, AS.setb, AS.mk', AS.owf, AS.rd, kill, look, cav, avB, avO, setRowG, AV.cells, AV.whole, AV.one, cD, cDs, eatsOf, dpOf, td0, td1, td2, td3, td4, td5, td6, Option.bind, Option.getD, Option.map, Option.isSome, List.map, List.take, List.drop, List.length, List.getElem?_cons_zero, List.getElem?_cons_succ, List.getElem?_nil, List.set, List.flatMap, List.foldr, List.all, List.replicate, List.mem_cons, List.not_mem_nil, List.nodup_cons, List.nodup_nil, List.nil_append, List.cons_append, List.append_nil, ↓reduceIte, Nat.reduceLT, Nat.reduceAdd, Nat.reduceMul, Nat.reduceLeDiff, Nat.reduceEqDiff, Nat.zero_add, Nat.add_zero, Nat.mul_zero, Nat.zero_mul, Nat.one_mul, Nat.mul_one, ne_eq, not_false_eq_true, not_true_eq_false, true_and, and_true, false_and, and_false, or_false, or_true, false_or, true_or, Bool.true_and, Bool.and_true, Bool.false_and, Bool.and_false, Bool.not_true, Bool.not_false, Bool.false_eq_true, Bool.true_eq_false, id_eq, reduceCtorEq, Int.toNat_natCast, Int.reduceLT, Int.reduceLE, Int.reduceEq, Int.reduceNe, Int.reduceAdd, Int.reduceSub, Int.reduceMul, Int.reduceNeg, Int.reduceToNat, Nat.reduceSub, Int.toNat_zero, Int.toNat_one, Int.natCast_zero, Int.le_refl, Int.natCast_nonneg, decide_true, decide_false, and_self, decide_eq_true_eq, decide_eq_false_iff_not, Nat.succ_ne_zero, Nat.zero_le, Nat.le_refl, hi, hi2, hE, hlt2, hBt, eq_true hc, qLp]
          refine ⟨⟨fun h => h.elim, fun o ho => by omega, by unfold maxLen; omega, by omega⟩, by unfold inI; omega, by unfold inI; omega, k + 1, rn1 0 2, by omega, by omega, ?_⟩
          simp only [Sub, subT, subB, subO, subP, inj, AV.ren, AV.rens, AV.lt, AV.lts, argT, argA, argAs, s0M, numT, flatM, packM, AS.kl, eatM, mkR, flatD, packA, retA, List.headD_cons, List.tail_cons, fQ, qLp, tysD, tmsD, strsD, intsD, rowD, xRet, rPs, xRes, flatA, rD, rDs, eq_self, true_or, xRun, vE, vP, vSub, vLoad, vFld, vIdx, vBin, vBinT, vEqA, shp, isAg, isBo, bvA, vEqB, vMax, cellsA, eqAV, eqAVs, shpOk, vNot, vLen, vChr, vExt, vBuild, vCut, vSlc, vCnv, vRow, vStore, vStE, primD, primDs, AS.setO, AV.unsp, AV.unsps, unspT, unspB, vApp, apP, apC, isCl, isCutO, vMake, iOf, bad, xFill, appL, appR, ixL, ixH, isB, bv, gT, gW, gN, gV, isU, isPick, pkC, pkA, pkB, isCall, popTo, AS.pt, AS.kn, AS.ev, AS.box, AS.setb, AS.mk', AS.owf, AS.rd, kill, look, cav, avB, avO, setRowG, AV.cells, AV.whole, AV.one, cD, cDs, eatsOf, dpOf, td0, td1, td2, td3, td4, td5, td6, Option.bind, Option.getD, Option.map, Option.isSome, List.map, List.take, List.drop, List.length, List.getElem?_cons_zero, List.getElem?_cons_succ, List.getElem?_nil, List.set, List.flatMap, List.foldr, List.all, List.replicate, List.mem_cons, List.not_mem_nil, List.nodup_cons, List.nodup_nil, List.nil_append, List.cons_append, List.append_nil, ↓reduceIte, Nat.reduceLT, Nat.reduceAdd, Nat.reduceMul, Nat.reduceLeDiff, Nat.reduceEqDiff, Nat.zero_add, Nat.add_zero, Nat.mul_zero, Nat.zero_mul, Nat.one_mul, Nat.mul_one, ne_eq, not_false_eq_true, not_true_eq_false, true_and, and_true, false_and, and_false, or_false, or_true, false_or, true_or, Bool.true_and, Bool.and_true, Bool.false_and, Bool.and_false, Bool.not_true, Bool.not_false, Bool.false_eq_true, Bool.true_eq_false, id_eq, reduceCtorEq, Int.toNat_natCast, Int.reduceLT, Int.reduceLE, Int.reduceEq, Int.reduceNe, Int.reduceAdd, Int.reduceSub, Int.reduceMul, Int.reduceNeg, Int.reduceToNat, Nat.reduceSub, Int.toNat_zero, Int.toNat_one, Int.natCast_zero, Int.le_refl, Int.natCast_nonneg, decide_true, decide_false, and_self, decide_eq_true_eq, decide_eq_false_iff_not, Nat.succ_ne_zero, Nat.zero_le, Nat.le_refl, rn1, hs1, cast1, List.length_append, List.length_cons, List.length_nil, List.map_append, List.map_cons, List.map_nil, Nat.zero_add]
        · have hs1 : (spl s c (k + 1)) = spl s c k := by rw [hstep, if_neg (by rintro (h | h); omega; exact hc h)]
          simp only [argT, argA, argAs, s0M, numT, flatM, packM, AS.kl, eatM, mkR, flatD, packA, retA, List.headD_cons, List.tail_cons, fQ, qLp, tysD, tmsD, strsD, intsD, rowD, xRet, rPs, xRes, flatA, rD, rDs, eq_self, true_or, xRun, vE, vP, vSub, vLoad, vFld, vIdx, vBin, vBinT, vEqA, shp, isAg, isBo, bvA, vEqB, vMax, cellsA, eqAV, eqAVs, shpOk, vNot, vLen, vChr, vExt, vBuild, vCut, vSlc, vCnv, vRow, vStore, vStE, primD, primDs, AS.setO, AV.unsp, AV.unsps, unspT, unspB, vApp, apP, apC, isCl, isCutO, vMake, iOf, bad, xFill, appL, appR, ixL, ixH, isB, bv, gT, gW, gN, gV, isU, isPick, pkC, pkA, pkB, isCall, popTo, AS.pt, AS.kn, AS.ev, AS.box, AS.setb, AS.mk', AS.owf, AS.rd, kill, look, cav, avB, avO, setRowG, AV.cells, AV.whole, AV.one, cD, cDs, eatsOf, dpOf, td0, td1, td2, td3, td4, td5, td6, Option.bind, Option.getD, Option.map, Option.isSome, List.map, List.take, List.drop, List.length, List.getElem?_cons_zero, List.getElem?_cons_succ, List.getElem?_nil, List.set, List.flatMap, List.foldr, List.all, List.replicate, List.mem_cons, List.not_mem_nil, List.nodup_cons, List.nodup_nil, List.nil_append, List.cons_append, List.append_nil, ↓reduceIte, Nat.reduceLT, Nat.reduceAdd, Nat.reduceMul, Nat.reduceLeDiff, Nat.reduceEqDiff, Nat.zero_add, Nat.add_zero, Nat.mul_zero, Nat.zero_mul, Nat.one_mul, Nat.mul_one, ne_eq, not_false_eq_true, not_true_eq_false, true_and, and_true, false_and, and_false, or_false, or_true, false_or, true_or, Bool.true_and, Bool.and_true, Bool.false_and, Bool.and_false, Bool.not_true, Bool.not_false, Bool.false_eq_true, Bool.true_eq_false, id_eq, reduceCtorEq, Int.toNat_natCast, Int.reduceLT, Int.reduceLE, Int.reduceEq, Int.reduceNe, Int.reduceAdd, Int.reduceSub, Int.reduceMul, Int.reduceNeg, Int.reduceToNat, Nat.reduceSub, Int.toNat_zero, Int.toNat_one, Int.natCast_zero, Int.le_refl, Int.natCast_nonneg, decide_true, decide_false, and_self, decide_eq_true_eq, decide_eq_false_iff_not, Nat.succ_ne_zero, Nat.zero_le, Nat.le_refl, hi, hi2, hE, hlt2, hBt, hc, qLp]
          refine ⟨by unfold inI; omega, k + 1, id, by omega, by omega, ?_⟩
          simp only [Sub, subT, subB, subO, subP, inj, AV.ren, AV.rens, AV.lt, AV.lts, argT, argA, argAs, s0M, numT, flatM, packM, AS.kl, eatM, mkR, flatD, packA, retA, List.headD_cons, List.tail_cons, fQ, qLp, tysD, tmsD, strsD, intsD, rowD, xRet, rPs, xRes, flatA, rD, rDs, eq_self, true_or, xRun, vE, vP, vSub, vLoad, vFld, vIdx, vBin, vBinT, vEqA, shp, isAg, isBo, bvA, vEqB, vMax, cellsA, eqAV, eqAVs, shpOk, vNot, vLen, vChr, vExt, vBuild, vCut, vSlc, vCnv, vRow, vStore, vStE, primD, primDs, AS.setO, AV.unsp, AV.unsps, unspT, unspB, vApp, apP, apC, isCl, isCutO, vMake, iOf, bad, xFill, appL, appR, ixL, ixH, isB, bv, gT, gW, gN, gV, isU, isPick, pkC, pkA, pkB, isCall, popTo, AS.pt, AS.kn, AS.ev, AS.box, AS.setb, AS.mk', AS.owf, AS.rd, kill, look, cav, avB, avO, setRowG, AV.cells, AV.whole, AV.one, cD, cDs, eatsOf, dpOf, td0, td1, td2, td3, td4, td5, td6, Option.bind, Option.getD, Option.map, Option.isSome, List.map, List.take, List.drop, List.length, List.getElem?_cons_zero, List.getElem?_cons_succ, List.getElem?_nil, List.set, List.flatMap, List.foldr, List.all, List.replicate, List.mem_cons, List.not_mem_nil, List.nodup_cons, List.nodup_nil, List.nil_append, List.cons_append, List.append_nil, ↓reduceIte, Nat.reduceLT, Nat.reduceAdd, Nat.reduceMul, Nat.reduceLeDiff, Nat.reduceEqDiff, Nat.zero_add, Nat.add_zero, Nat.mul_zero, Nat.zero_mul, Nat.one_mul, Nat.mul_one, ne_eq, not_false_eq_true, not_true_eq_false, true_and, and_true, false_and, and_false, or_false, or_true, false_or, true_or, Bool.true_and, Bool.and_true, Bool.false_and, Bool.and_false, Bool.not_true, Bool.not_false, Bool.false_eq_true, Bool.true_eq_false, id_eq, reduceCtorEq, Int.toNat_natCast, Int.reduceLT, Int.reduceLE, Int.reduceEq, Int.reduceNe, Int.reduceAdd, Int.reduceSub, Int.reduceMul, Int.reduceNeg, Int.reduceToNat, Nat.reduceSub, Int.toNat_zero, Int.toNat_one, Int.natCast_zero, Int.le_refl, Int.natCast_nonneg, decide_true, decide_false, and_self, decide_eq_true_eq, decide_eq_false_iff_not, Nat.succ_ne_zero, Nat.zero_le, Nat.le_refl, cast1, hs1]
    · have hi : ¬ (k : Int) ≤ (s.size : Int) := by omega
      obtain rfl : k = s.size + 1 := by omega
      simp only [argT, argA, argAs, s0M, numT, flatM, packM, AS.kl, eatM, mkR, flatD, packA, retA, List.headD_cons, List.tail_cons, fQ, qLp, tysD, tmsD, strsD, intsD, rowD, xRet, rPs, xRes, flatA, rD, rDs, eq_self, true_or, xRun, vE, vP, vSub, vLoad, vFld, vIdx, vBin, vBinT, vEqA, shp, isAg, isBo, bvA, vEqB, vMax, cellsA, eqAV, eqAVs, shpOk, vNot, vLen, vChr, vExt, vBuild, vCut, vSlc, vCnv, vRow, vStore, vStE, primD, primDs, AS.setO, AV.unsp, AV.unsps, unspT, unspB, vApp, apP, apC, isCl, isCutO, vMake, iOf, bad, xFill, appL, appR, ixL, ixH, isB, bv, gT, gW, gN, gV, isU, isPick, pkC, pkA, pkB, isCall, popTo, AS.pt, AS.kn, AS.ev, AS.box, AS.setb, AS.mk', AS.owf, AS.rd, kill, look, cav, avB, avO, setRowG, AV.cells, AV.whole, AV.one, cD, cDs, eatsOf, dpOf, td0, td1, td2, td3, td4, td5, td6, Option.bind, Option.getD, Option.map, Option.isSome, List.map, List.take, List.drop, List.length, List.getElem?_cons_zero, List.getElem?_cons_succ, List.getElem?_nil, List.set, List.flatMap, List.foldr, List.all, List.replicate, List.mem_cons, List.not_mem_nil, List.nodup_cons, List.nodup_nil, List.nil_append, List.cons_append, List.append_nil, ↓reduceIte, Nat.reduceLT, Nat.reduceAdd, Nat.reduceMul, Nat.reduceLeDiff, Nat.reduceEqDiff, Nat.zero_add, Nat.add_zero, Nat.mul_zero, Nat.zero_mul, Nat.one_mul, Nat.mul_one, ne_eq, not_false_eq_true, not_true_eq_false, true_and, and_true, false_and, and_false, or_false, or_true, false_or, true_or, Bool.true_and, Bool.and_true, Bool.false_and, Bool.and_false, Bool.not_true, Bool.not_false, Bool.false_eq_true, Bool.true_eq_false, id_eq, reduceCtorEq, Int.toNat_natCast, Int.reduceLT, Int.reduceLE, Int.reduceEq, Int.reduceNe, Int.reduceAdd, Int.reduceSub, Int.reduceMul, Int.reduceNeg, Int.reduceToNat, Nat.reduceSub, Int.toNat_zero, Int.toNat_one, Int.natCast_zero, Int.le_refl, Int.natCast_nonneg, decide_true, decide_false, and_self, decide_eq_true_eq, decide_eq_false_iff_not, Nat.succ_ne_zero, Nat.zero_le, Nat.le_refl, hi]
      refine sw_run 200 _ _ _ ?_
      simp only [argT, argA, argAs, s0M, numT, flatM, packM, AS.kl, eatM, mkR, flatD, packA, retA, List.headD_cons, List.tail_cons, fQ, qLp, tysD, tmsD, strsD, intsD, rowD, xRet, rPs, xRes, flatA, rD, rDs, eq_self, true_or, xRun, vE, vP, vSub, vLoad, vFld, vIdx, vBin, vBinT, vEqA, shp, isAg, isBo, bvA, vEqB, vMax, cellsA, eqAV, eqAVs, shpOk, vNot, vLen, vChr, vExt, vBuild, vCut, vSlc, vCnv, vRow, vStore, vStE, primD, primDs, AS.setO, AV.unsp, AV.unsps, unspT, unspB, vApp, apP, apC, isCl, isCutO, vMake, iOf, bad, xFill, appL, appR, ixL, ixH, isB, bv, gT, gW, gN, gV, isU, isPick, pkC, pkA, pkB, isCall, popTo, AS.pt, AS.kn, AS.ev, AS.box, AS.setb, AS.mk', AS.owf, AS.rd, kill, look, cav, avB, avO, setRowG, AV.cells, AV.whole, AV.one, cD, cDs, eatsOf, dpOf, td0, td1, td2, td3, td4, td5, td6, Option.bind, Option.getD, Option.map, Option.isSome, List.map, List.take, List.drop, List.length, List.getElem?_cons_zero, List.getElem?_cons_succ, List.getElem?_nil, List.set, List.flatMap, List.foldr, List.all, List.replicate, List.mem_cons, List.not_mem_nil, List.nodup_cons, List.nodup_nil, List.nil_append, List.cons_append, List.append_nil, ↓reduceIte, Nat.reduceLT, Nat.reduceAdd, Nat.reduceMul, Nat.reduceLeDiff, Nat.reduceEqDiff, Nat.zero_add, Nat.add_zero, Nat.mul_zero, Nat.zero_mul, Nat.one_mul, Nat.mul_one, ne_eq, not_false_eq_true, not_true_eq_false, true_and, and_true, false_and, and_false, or_false, or_true, false_or, true_or, Bool.true_and, Bool.and_true, Bool.false_and, Bool.and_false, Bool.not_true, Bool.not_false, Bool.false_eq_true, Bool.true_eq_false, id_eq, reduceCtorEq, Int.toNat_natCast, Int.reduceLT, Int.reduceLE, Int.reduceEq, Int.reduceNe, Int.reduceAdd, Int.reduceSub, Int.reduceMul, Int.reduceNeg, Int.reduceToNat, Nat.reduceSub, Int.toNat_zero, Int.toNat_one, Int.natCast_zero, Int.le_refl, Int.natCast_nonneg, decide_true, decide_false, and_self, decide_eq_true_eq, decide_eq_false_iff_not, Nat.succ_ne_zero, Nat.zero_le, Nat.le_refl, splB, Tryd.ntmps13, Tryd.results13]
end Go.Proofs.YtlmiakgannpocaaDoor
