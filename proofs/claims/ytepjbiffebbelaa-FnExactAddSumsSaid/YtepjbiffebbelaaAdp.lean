/-
  Sums of sums: plain laws. Both ways of adding come out at the merge of two ascending lists.
-/
import Derived.Test.YtepjbiffebbelaaSumA
import Derived.Lib.Bytealg
namespace Go.Proofs.Ytepjbiffebbelaa
open Go.RowKit
set_option linter.unusedVariables false
set_option linter.unusedSimpArgs false
set_option maxRecDepth 20000
/-! ## Names in order -/
def nmL (x : Im) : List UInt8 := x.name.data.toList
theorem cb_lt : ∀ a b : List UInt8, Lib.compareBytes a b < 0 ↔ a < b
  | [], [] => by simp [Lib.compareBytes]
  | [], b :: m => by simp [Lib.compareBytes]
  | a :: l, [] => by simp [Lib.compareBytes]
  | a :: l, b :: m => by
    rw [List.cons_lt_cons_iff, Lib.compareBytes]
    by_cases h1 : a < b
    · rw [if_pos h1]; simp [h1]
    · rw [if_neg h1]
      by_cases h2 : b < a
      · rw [if_pos h2]
        have h3 : ¬ a = b := fun e => by subst e; exact h1 h2
        simp [h1, h3]
      · rw [if_neg h2, cb_lt l m]
        have h3 : a = b := UInt8.le_antisymm (UInt8.not_lt.1 h2) (UInt8.not_lt.1 h1)
        simp [h3]
theorem lt_irr (a : List UInt8) : ¬ a < a := List.lt_irrefl a
theorem lt_tr {a b c : List UInt8} (h1 : a < b) (h2 : b < c) : a < c := List.lt_trans h1 h2
theorem lt_tot {a b : List UInt8} (h1 : ¬ a < b) (h2 : ¬ b < a) : a = b := List.le_antisymm (List.not_lt.1 h2) (List.not_lt.1 h1)
theorem nm_inj {x y : Im} (h : nmL x = nmL y) : x.name = y.name := by
  obtain ⟨⟨⟨l⟩⟩, c⟩ := x
  obtain ⟨⟨⟨m⟩⟩, d⟩ := y
  have e : l = m := h
  rw [e]
/-! ## What AddSums gives -/
def red (n : Int) : Int := n % 10007
def mgI : List Im → List Im → List Im
  | [], b => b
  | x :: a, [] => x :: a
  | x :: a, y :: b =>
    if nmL x < nmL y then x :: mgI a (y :: b)
    else if nmL y < nmL x then y :: mgI (x :: a) b
    else if red (x.coef + y.coef) = 0 then mgI a b else ⟨x.name, red (x.coef + y.coef)⟩ :: mgI a b
termination_by a b => a.length + b.length
def ascL : List Im → Prop
  | [] => True
  | [_] => True
  | x :: y :: r => nmL x < nmL y ∧ ascL (y :: r)
def okC (l : List Im) : Prop := ∀ x ∈ l, ¬ x.coef = 0
/-- All names of the list are beyond n. -/
def bey (n : List UInt8) (l : List Im) : Prop := ∀ x ∈ l, n < nmL x
theorem asc_bey {x : Im} {l : List Im} (h : ascL (x :: l)) : bey (nmL x) l ∧ ascL l := by
  induction l generalizing x with
  | nil => exact ⟨fun _ h => (by cases h), trivial⟩
  | cons y r ih =>
    obtain ⟨h1, h2⟩ := h
    obtain ⟨h3, _⟩ := ih h2
    refine ⟨fun z hz => ?_, h2⟩
    rcases List.mem_cons.1 hz with rfl | hz
    · exact h1
    · exact lt_tr h1 (h3 z hz)
theorem bey_mono {m n : List UInt8} {l : List Im} (h : m < n) (hb : bey n l) : bey m l := fun x hx => lt_tr h (hb x hx)
theorem mg_nil (a : List Im) : mgI a [] = a := by cases a <;> simp [mgI]
theorem mg_cons (x y : Im) (a b : List Im) : mgI (x :: a) (y :: b) = if nmL x < nmL y then x :: mgI a (y :: b)
    else if nmL y < nmL x then y :: mgI (x :: a) b
    else if red (x.coef + y.coef) = 0 then mgI a b else ⟨x.name, red (x.coef + y.coef)⟩ :: mgI a b := by rw [mgI]
theorem mg_first {x : Im} {a b : List Im} (h : bey (nmL x) b) : mgI (x :: a) b = x :: mgI a b := by
  cases b with
  | nil => rw [mg_nil, mg_nil]
  | cons y b => rw [mg_cons, if_pos (h y (by simp))]
/-! ## The reference's way -/
def putL : List Im → Im → List Im
  | [], y => if y.coef = 0 then [] else [y]
  | x :: a, y =>
    if nmL x < nmL y then x :: putL a y
    else if nmL y < nmL x then (if y.coef = 0 then x :: a else y :: x :: a)
    else if red (y.coef + x.coef) = 0 then a else ⟨y.name, red (y.coef + x.coef)⟩ :: a
theorem put_mg (y : Im) (b : List Im) (hy : ¬ y.coef = 0) (hb : bey (nmL y) b) : ∀ a, ascL a → mgI (putL a y) b = mgI a (y :: b)
  | [], _ => by rw [putL, if_neg hy, mg_first hb]; simp [mgI]
  | x :: a, ha => by
    obtain ⟨hx, ha'⟩ := asc_bey ha
    rw [putL, mg_cons]
    by_cases h1 : nmL x < nmL y
    · rw [if_pos h1, if_pos h1, mg_first (bey_mono h1 hb), put_mg y b hy hb a ha']
    · rw [if_neg h1, if_neg h1]
      by_cases h2 : nmL y < nmL x
      · rw [if_pos h2, if_neg hy, if_pos h2, mg_first hb]
      · rw [if_neg h2, if_neg h2]
        have e := lt_tot h1 h2
        have en := nm_inj e
        rw [Int.add_comm y.coef x.coef]
        by_cases h3 : red (x.coef + y.coef) = 0
        · rw [if_pos h3, if_pos h3]
        · rw [if_neg h3, if_neg h3, mg_first (x := ⟨y.name, red (x.coef + y.coef)⟩) hb, en]
theorem put_bey {n : List UInt8} (y : Im) (hy : n < nmL y) : ∀ a, bey n a → bey n (putL a y)
  | [], _ => by
    rw [putL]; split
    · exact fun _ h => by cases h
    · intro z hz; rw [List.mem_singleton.1 hz]; exact hy
  | x :: a, h => by
    have hx : n < nmL x := h x (by simp)
    have ha : bey n a := fun z hz => h z (by simp [hz])
    rw [putL]
    split
    · intro z hz
      rcases List.mem_cons.1 hz with rfl | hz
      · exact hx
      · exact put_bey y hy a ha z hz
    · split
      · split
        · exact h
        · intro z hz
          rcases List.mem_cons.1 hz with rfl | hz
          · exact hy
          · exact h z hz
      · split
        · exact ha
        · intro z hz
          rcases List.mem_cons.1 hz with rfl | hz
          · exact hy
          · exact ha z hz
theorem asc_cons {x : Im} {l : List Im} (h1 : bey (nmL x) l) (h2 : ascL l) : ascL (x :: l) := by
  cases l with
  | nil => trivial
  | cons y r => exact ⟨h1 y (by simp), h2⟩
theorem put_asc (y : Im) : ∀ a, ascL a → ascL (putL a y)
  | [], _ => by rw [putL]; split <;> trivial
  | x :: a, ha => by
    obtain ⟨hx, ha'⟩ := asc_bey ha
    rw [putL]
    split
    · rename_i h; exact asc_cons (put_bey y h a hx) (put_asc y a ha')
    · rename_i h1
      split
      · rename_i h2
        split
        · exact ha
        · exact ⟨h2, ha⟩
      · rename_i h2
        have e := lt_tot h1 h2
        split
        · exact ha'
        · exact asc_cons (show bey (nmL y) a from e ▸ hx) ha'
/-- The reference's fold. -/
theorem fold_put : ∀ (b a : List Im), ascL a → ascL b → okC b → b.foldl putL a = mgI a b
  | [], a, _, _, _ => by rw [mg_nil]; rfl
  | y :: b, a, ha, hb, hc => by
    obtain ⟨h1, h2⟩ := asc_bey hb
    rw [List.foldl_cons, fold_put b _ (put_asc y a ha) h2 (fun x hx => hc x (by simp [hx])), put_mg y b (hc y (by simp)) h1 a ha]
/-! ## The program's way -/
/-- The stable merge. -/
def stM : List Im → List Im → List Im
  | [], b => b
  | x :: a, [] => x :: a
  | x :: a, y :: b => if nmL y < nmL x then y :: stM (x :: a) b else x :: stM a (y :: b)
termination_by a b => a.length + b.length
theorem st_nil (a : List Im) : stM a [] = a := by cases a <;> simp [stM]
theorem st_cons (x y : Im) (a b : List Im) : stM (x :: a) (y :: b) = if nmL y < nmL x then y :: stM (x :: a) b else x :: stM a (y :: b) := by rw [stM]
theorem st_first {x : Im} {a b : List Im} (h : ∀ z ∈ b, ¬ nmL z < nmL x) : stM (x :: a) b = x :: stM a b := by
  cases b with
  | nil => rw [st_nil, st_nil]
  | cons y b => rw [st_cons, if_neg (h y (by simp))]
def insL (y : Im) : List Im → List Im
  | [] => [y]
  | x :: a => if nmL y < nmL x then y :: x :: a else x :: insL y a
/-- Ascending, names may come again. -/
def wkL : List Im → Prop
  | [] => True
  | [_] => True
  | x :: y :: r => ¬ nmL y < nmL x ∧ wkL (y :: r)
theorem ins_st (y : Im) (b : List Im) (hb : bey (nmL y) b) : ∀ a, stM (insL y a) b = stM a (y :: b)
  | [] => by
    rw [insL, st_first (fun z hz h => lt_irr _ (lt_tr (hb z hz) h)), stM, stM]
  | x :: a => by
    rw [insL, st_cons]
    by_cases h : nmL y < nmL x
    · rw [if_pos h, if_pos h, st_first (fun z hz h' => lt_irr _ (lt_tr (hb z hz) h'))]
    · rw [if_neg h, if_neg h, st_first (fun z hz h' => h (lt_tr (hb z hz) h')), ins_st y b hb a]
theorem fold_ins : ∀ (b a : List Im), ascL b → b.foldl (fun A y => insL y A) a = stM a b
  | [], a, _ => by rw [st_nil]; rfl
  | y :: b, a, hb => by
    obtain ⟨h1, h2⟩ := asc_bey hb
    rw [List.foldl_cons, fold_ins b _ h2, ins_st y b h1]
/-- One round of the joining of equal names. -/
def joinS (out : List Im) (x : Im) : List Im := match out.getLast? with
  | some l => if l.name = x.name then out.dropLast ++ [⟨l.name, red (l.coef + x.coef)⟩] else out ++ [x]
  | none => out ++ [x]
def delZ (l : List Im) : List Im := l.filter fun x => !decide (x.coef = 0)
theorem join_new {out : List Im} {x : Im} (h : ∀ l, out.getLast? = some l → nmL l < nmL x) : joinS out x = out ++ [x] := by
  unfold joinS
  split
  · rename_i l hl
    rw [if_neg]
    intro e
    have h1 := h l hl
    have : nmL l = nmL x := by unfold nmL; rw [e]
    rw [this] at h1
    exact lt_irr _ h1
  · rfl
theorem del_app (a b : List Im) : delZ (a ++ b) = delZ a ++ delZ b := by unfold delZ; rw [List.filter_append]
theorem del_ok {a : List Im} (h : okC a) : delZ a = a := by
  unfold delZ
  rw [List.filter_eq_self]
  intro x hx
  simp [h x hx]
theorem fold_new : ∀ (b out : List Im), ascL b → (∀ l, out.getLast? = some l → bey (nmL l) b) → b.foldl joinS out = out ++ b
  | [], out, _, _ => by simp
  | x :: b, out, hb, h => by
    obtain ⟨h1, h2⟩ := asc_bey hb
    rw [List.foldl_cons, join_new (fun l hl => h l hl x (by simp)), fold_new b _ h2 (fun l hl => by
      rw [List.getLast?_append] at hl
      simp at hl
      rw [← hl]; exact h1)]
    simp
theorem fold_join : ∀ (n : Nat) (a b out : List Im), a.length + b.length ≤ n → ascL a → ascL b → okC a → okC b → (∀ l, out.getLast? = some l → bey (nmL l) a ∧ bey (nmL l) b) → delZ ((stM a b).foldl joinS out) = delZ out ++ mgI a b := by
  intro n
  induction n with
  | zero =>
    intro a b out hn _ _ _ _ _
    have ha : a = [] := List.eq_nil_of_length_eq_zero (by omega)
    have hb : b = [] := List.eq_nil_of_length_eq_zero (by omega)
    subst ha hb
    simp [stM, mgI]
  | succ n ih =>
    intro a b out hn ha hb hca hcb ho
    cases a with
    | nil =>
      rw [show stM [] b = b by rw [stM], show mgI [] b = b by rw [mgI], fold_new b out hb (fun l hl => (ho l hl).2), del_app, del_ok hcb]
    | cons x a =>
      cases b with
      | nil => rw [st_nil, mg_nil, fold_new _ out ha (fun l hl => (ho l hl).1), del_app, del_ok hca]
      | cons y b =>
        obtain ⟨hx, ha'⟩ := asc_bey ha
        obtain ⟨hy, hb'⟩ := asc_bey hb
        have hca' : okC a := fun z hz => hca z (by simp [hz])
        have hcb' : okC b := fun z hz => hcb z (by simp [hz])
        simp only [List.length_cons] at hn
        have lastS : ∀ (o : List Im) (z : Im) l, (o ++ [z]).getLast? = some l → l = z := fun o z l hl => by
          rw [List.getLast?_append] at hl; simp at hl; exact hl.symm
        have dz1 : ∀ (o : List Im) (z : Im), ¬ z.coef = 0 → delZ (o ++ [z]) = delZ o ++ [z] := fun o z hz => by rw [del_app, del_ok (show okC [z] from fun w hw => by rw [List.mem_singleton.1 hw]; exact hz)]
        rw [st_cons, mg_cons]
        by_cases h1 : nmL x < nmL y
        · have h2 : ¬ nmL y < nmL x := fun h => lt_irr _ (lt_tr h h1)
          rw [if_neg h2, if_pos h1, List.foldl_cons, join_new (fun l hl => (ho l hl).1 x (by simp)), ih a (y :: b) _ (by simp only [List.length_cons]; omega) ha' hb hca' hcb (fun l hl => by
            rw [lastS _ _ _ hl]
            exact ⟨hx, fun z hz => by
              rcases List.mem_cons.1 hz with rfl | hz
              · exact h1
              · exact lt_tr h1 (hy z hz)⟩), dz1 _ _ (hca x (by simp)), List.append_assoc]
          rfl
        · rw [if_neg h1]
          by_cases h2 : nmL y < nmL x
          · rw [if_pos h2, if_pos h2, List.foldl_cons, join_new (fun l hl => (ho l hl).2 y (by simp)), ih (x :: a) b _ (by simp only [List.length_cons]; omega) ha hb' hca hcb' (fun l hl => by
              rw [lastS _ _ _ hl]
              exact ⟨fun z hz => by
                rcases List.mem_cons.1 hz with rfl | hz
                · exact h2
                · exact lt_tr h2 (hx z hz), hy⟩), dz1 _ _ (hcb y (by simp)), List.append_assoc]
            rfl
          · have e := lt_tot h1 h2
            have en := nm_inj e
            have hax : bey (nmL y) a := e ▸ hx
            have hstep : stM a (y :: b) = y :: stM a b := by
              cases a with
              | nil => rw [stM, stM]
              | cons z a => rw [st_cons, if_pos (hax z (by simp))]
            have hj : joinS (out ++ [x]) y = out ++ [⟨x.name, red (x.coef + y.coef)⟩] := by
              unfold joinS
              rw [List.getLast?_append]
              simp [en]
            rw [if_neg h2, if_neg h2, List.foldl_cons, join_new (fun l hl => (ho l hl).1 x (by simp)), hstep, List.foldl_cons, hj, ih a b _ (by omega) ha' hb' hca' hcb' (fun l hl => by
              rw [lastS _ _ _ hl]
              exact ⟨hx, (show bey (nmL x) b from e ▸ hy)⟩), del_app, List.append_assoc]
            congr 1
            by_cases h3 : red (x.coef + y.coef) = 0
            · rw [if_pos h3]; simp [delZ, h3]
            · rw [if_neg h3]; simp [delZ, h3]
/-! ## The sort in place -/
def cmpN (x y : Im) : Int := Lib.compareBytes (nmL x) (nmL y)
/-- Where an item goes, from place j on leftward. -/
def stp (x : Im) (A : List Im) : Nat → Nat
  | 0 => 0
  | j + 1 => if cmpN x A[j]! < 0 then stp x A j else j + 1
def insP (x : Im) (A : List Im) : List Im := A.take (stp x A A.length) ++ x :: A.drop (stp x A A.length)
def srt (xs : List Im) : Nat → List Im
  | 0 => []
  | k + 1 => insP xs[k]! (srt xs k)
theorem stp_le (x : Im) (A : List Im) : ∀ j, stp x A j ≤ j
  | 0 => Nat.le_refl _
  | j + 1 => by
    rw [stp]; split
    · exact Nat.le_succ_of_le (stp_le x A j)
    · exact Nat.le_refl _
theorem insP_len (x : Im) (A : List Im) : (insP x A).length = A.length + 1 := by
  have := stp_le x A A.length
  rw [insP, List.length_append, List.length_take, List.length_cons, List.length_drop]; omega
theorem srt_len (xs : List Im) : ∀ k, (srt xs k).length = k
  | 0 => rfl
  | k + 1 => by rw [srt, insP_len, srt_len xs k]
theorem stp_spec (x : Im) (A : List Im) : ∀ j, (∀ k, stp x A j ≤ k → k < j → nmL x < nmL A[k]!) ∧ (0 < stp x A j → ¬ nmL x < nmL A[stp x A j - 1]!)
  | 0 => ⟨fun k _ h => by omega, fun h => by simp [stp] at h⟩
  | j + 1 => by
    obtain ⟨h1, h2⟩ := stp_spec x A j
    rw [stp]
    by_cases h : cmpN x A[j]! < 0
    · rw [if_pos h]
      refine ⟨fun k hk hkj => ?_, h2⟩
      by_cases e : k = j
      · rw [e]; exact (cb_lt _ _).1 h
      · exact h1 k hk (by omega)
    · rw [if_neg h]
      exact ⟨fun k _ _ => by omega, fun _ h' => h ((cb_lt _ _).2 h')⟩
theorem wk_cons {x : Im} {l : List Im} (h : wkL (x :: l)) : wkL l := by
  cases l with
  | nil => trivial
  | cons y r => exact h.2
theorem wk_head {x : Im} {l : List Im} (h : wkL (x :: l)) : ∀ y ∈ l, ¬ nmL y < nmL x := by
  induction l generalizing x with
  | nil => intro y hy; cases hy
  | cons z r ih =>
    intro y hy
    rcases List.mem_cons.1 hy with rfl | hy
    · exact h.1
    · have h1 := ih h.2 y hy
      intro h2
      by_cases h3 : nmL z < nmL x
      · exact h.1 h3
      · by_cases h4 : nmL x < nmL z
        · exact h1 (lt_tr h2 h4)
        · rw [lt_tot h3 h4] at h1; exact h1 h2
theorem wk_at : ∀ (A : List Im), wkL A → ∀ i j, i ≤ j → j < A.length → ¬ nmL A[j]! < nmL A[i]!
  | [], _, i, j, _, h => by simp at h
  | x :: A, hA, 0, 0, _, _ => lt_irr _
  | x :: A, hA, 0, j + 1, _, h => by
    have hj : j < A.length := by simpa using h
    have := wk_head hA A[j]! (by rw [getElem!_pos A j hj]; exact List.getElem_mem hj)
    simpa using this
  | x :: A, hA, i + 1, 0, h, _ => by omega
  | x :: A, hA, i + 1, j + 1, h, h2 => by
    have := wk_at A (wk_cons hA) i j (by omega) (by simpa using h2)
    simpa using this
theorem ins_split (x : Im) : ∀ (A : List Im) (p : Nat), p ≤ A.length → (∀ k, k < p → ¬ nmL x < nmL A[k]!) → (p < A.length → nmL x < nmL A[p]!) → insL x A = A.take p ++ x :: A.drop p
  | [], p, hp, _, _ => by
    obtain rfl : p = 0 := by simpa using hp
    rfl
  | a :: A, 0, _, _, h => by
    have : nmL x < nmL a := by simpa using h (by simp)
    rw [insL, if_pos this]; rfl
  | a :: A, p + 1, hp, h1, h2 => by
    have : ¬ nmL x < nmL a := by simpa using h1 0 (by omega)
    rw [insL, if_neg this, ins_split x A p (by simpa using hp) (fun k hk => by simpa using h1 (k + 1) (by omega)) (fun hk => by simpa using h2 (by simpa using hk))]
    rfl
theorem insP_L {x : Im} {A : List Im} (hA : wkL A) : insP x A = insL x A := by
  obtain ⟨h1, h2⟩ := stp_spec x A A.length
  have hle := stp_le x A A.length
  rw [insP, ins_split x A (stp x A A.length) hle (fun k hk hlt => ?_) (fun hp => h1 _ (Nat.le_refl _) hp)]
  have h3 := h2 (by omega)
  have h4 := wk_at A hA k (stp x A A.length - 1) (by omega) (by omega)
  by_cases h5 : nmL A[k]! < nmL A[stp x A A.length - 1]!
  · exact h3 (lt_tr hlt h5)
  · rw [lt_tot h5 h4] at hlt; exact h3 hlt
theorem wk_ins (x : Im) : ∀ A, wkL A → wkL (insL x A)
  | [], _ => trivial
  | [a], _ => by
    rw [insL]
    split
    · rename_i h; exact ⟨fun h' => lt_irr _ (lt_tr h h'), trivial⟩
    · rename_i h; exact ⟨h, trivial⟩
  | a :: b :: A, hA => by
    rw [insL]
    split
    · rename_i h; exact ⟨fun h' => lt_irr _ (lt_tr h h'), hA⟩
    · rename_i h
      have ih := wk_ins x (b :: A) hA.2
      rw [insL] at ih ⊢
      split
      · rename_i h2; rw [if_pos h2] at ih; exact ⟨h, ih⟩
      · rename_i h2; rw [if_neg h2] at ih; exact ⟨hA.1, ih⟩
theorem srt_fold (xs : List Im) : ∀ k, k ≤ xs.length → srt xs k = (xs.take k).foldl (fun A y => insL y A) [] ∧ wkL (srt xs k)
  | 0, _ => ⟨rfl, trivial⟩
  | k + 1, h => by
    obtain ⟨h1, h2⟩ := srt_fold xs k (by omega)
    have e : srt xs (k + 1) = insL xs[k]! (srt xs k) := insP_L h2
    refine ⟨?_, by rw [e]; exact wk_ins _ _ h2⟩
    rw [e, h1, List.take_add_one, List.getElem?_eq_getElem (show k < xs.length by omega), getElem!_pos xs k (by omega), Option.toList, List.foldl_append]
    rfl
theorem srt_st (a b : List Im) (ha : ascL a) (hb : ascL b) : srt (a ++ b) (a ++ b).length = stM a b := by
  rw [(srt_fold (a ++ b) _ (Nat.le_refl _)).1, List.take_length, List.foldl_append, fold_ins a [] ha, show stM [] a = a by rw [stM], fold_ins b a hb]
/-- The program's way comes out at the merge. -/
theorem prog_mg (a b : List Im) (ha : ascL a) (hb : ascL b) (hca : okC a) (hcb : okC b) : delZ ((srt (a ++ b) (a ++ b).length).foldl joinS []) = mgI a b := by
  rw [srt_st a b ha hb, fold_join _ a b [] (Nat.le_refl _) ha hb hca hcb (fun l hl => by cases hl)]
  rfl
end Go.Proofs.Ytepjbiffebbelaa
