/-
  Marks: what the laws write into data that a call may not share, and how owned data takes them: plain words, no walk.
-/
import Derived.Test.YtgjcilainojlfaaBase
import Derived.Test.YtgjcilainojlfaaRng
import Derived.Test.YtgjcilainojlfaaConf
/-
  markText of the laws: the letter m and a number's digits.
-/
namespace Go.Proofs.Ytgjcilainojlfaa
open Go.RowKit
def mtD (k : Nat) (out : ByteArray) : ByteArray := if _h : k = 0 then out else mtD (k / 10) (⟨#[48 + UInt8.ofNat (k % 10)]⟩ ++ out)
termination_by k
decreasing_by omega
def mtF (k : Int) : ByteArray := if k ≤ 0 then ⟨#[109, 48]⟩ else ⟨#[109]⟩ ++ mtD k.toNat ⟨#[]⟩
theorem conv_one (W : World) (x : Int) : (convert 151 9 (.slice (some ⟨W.heap.size, 0, none⟩) 1 1)).run Try.prog (W.alloc (.cells #[.int .u8 x] 5)) =
    .ok (.string ⟨#[UInt8.ofNat x.toNat]⟩) (W.alloc (.cells #[.int .u8 x] 5)) := by
  rw [run_convert_bytes_string _ 151 9 5 _ 1 1 Try.underlying151 Try.underlying5 Try.underlying9]
  rw [run_bytesToString _ _ 1 1 [x] (by simp [loadCells, go_sem])]
  rfl
set_option maxRecDepth 100000 in
set_option maxHeartbeats 1000000 in
theorem laws_markText (k : Int) (w : World) (hk : k ≤ 140737488351232) :
    Calls Try.prog 68 #[.int .i64 k] w fun e w' => e = .returned (.string (mtF k)) ∧ Below w.heap.size w w' := by
  by_cases h0 : k ≤ 0
  · have HE := Lib.hid (show mtF k = ⟨#[109, 48]⟩ by unfold mtF; rw [if_pos h0])
    go_enter Try.func68, Try.ntmps68
    go_wp2
    go_ret
    exact ⟨by rw [HE.out]; rfl, Below.refl _ _⟩
  · have HE := Lib.hid (show mtF k = ⟨#[109]⟩ ++ mtD k.toNat ⟨#[]⟩ by unfold mtF; rw [if_neg h0])
    have hcv := conv_one
    have hd0 : decide (k ≤ 0) = false := by simpa using h0
    go_enter Try.func68, Try.ntmps68
    go_wp2
    go_loopw [0, 3] (fun q out wr => ∃ (m : Nat) (s : ByteArray), (m : Int) ≤ k ∧ q = .int .i64 m ∧ out = .string s ∧ s.size + m ≤ k.toNat ∧ Hid (mtD m s = mtD k.toNat ⟨#[]⟩) ∧ Below w.heap.size w wr) (fun q _ _ => (intOf q).toNat)
    case atStart => exact ⟨k.toNat, ⟨#[]⟩, by omega, by congr 1; omega, rfl, by show 0 + _ ≤ _; omega, rfl, Below.refl _ _⟩
    case round =>
      obtain ⟨m, s, hm, rfl, rfl, hsz, HM, hb⟩ := hrel
      have hsz2 : s.size ≤ 140737488351232 := by omega
      by_cases hz : 0 < m
      · have hq : Hid (mtD (m / 10) (⟨#[48 + UInt8.ofNat (m % 10)]⟩ ++ s) = mtD k.toNat ⟨#[]⟩) := Lib.hid (by
          rw [← HM.out]
          conv => rhs; unfold mtD
          rw [dif_neg (by omega)])
        have hsz3 : Hid ((⟨#[48 + UInt8.ofNat (m % 10)]⟩ ++ s : ByteArray).size + m / 10 ≤ k.toNat) := Lib.hid (by
          rw [ByteArray.size_append]; show 1 + _ + _ ≤ _; omega)
        go_wp2
        go_roundw
        case rel => exact ⟨m / 10, _, by omega, by go_num, rfl, hsz3.out, hq, hb.alloc hb.size _⟩
        case measure => simp [intOf]; omega
      · have HZ := Lib.hid (show mtD k.toNat ⟨#[]⟩ = s by rw [← HM.out, show m = 0 by omega, mtD]; rfl)
        go_wp2
        go_ret
        exact ⟨by rw [HE.out, HZ.out]; rfl, hb⟩
end Go.Proofs.Ytgjcilainojlfaa
namespace Go.Proofs.Ytgjcilainojlfaa
open Go.RowKit
mutual
def cntD : D → Nat
  | .int _ => 1
  | .bool _ => 1
  | .str _ => 1
  | .any => 1
  | .byt _ => 1
  | .rows _ _ cs => cntL cs
def cntL : List D → Nat
  | [] => 0
  | d :: ds => cntD d + cntL ds
end
mutual
def markD : D → Int → D
  | .int _, c => .int c
  | .bool _, c => .bool (c % 3 == 0)
  | .str _, c => .str (mtF c)
  | .any, _ => .any
  | .byt n, _ => .byt n
  | .rows sz n cs, c => .rows sz n (markL cs c)
def markL : List D → Int → List D
  | [], _ => []
  | d :: ds, c => markD d c :: markL ds (c + cntD d)
end
theorem cntL_append : ∀ (a b : List D), cntL (a ++ b) = cntL a + cntL b
  | [], b => by simp [cntL]
  | d :: a, b => by simp [cntL, cntL_append a b]; omega
theorem markL_append : ∀ (a b : List D) (c : Int), markL (a ++ b) c = markL a c ++ markL b (c + cntL a)
  | [], b, c => by simp [markL, cntL]
  | d :: a, b, c => by
    simp only [List.cons_append, markL, cntL]
    rw [markL_append a b, show c + (cntD d : Int) + (cntL a : Int) = c + ((cntD d + cntL a : Nat) : Int) by omega]
theorem markL_len : ∀ (a : List D) (c : Int), (markL a c).length = a.length
  | [], _ => rfl
  | d :: a, c => by simp [markL, markL_len a]
theorem cntL_take_le : ∀ (cs : List D) (n : Nat), cntL (cs.take n) ≤ cntL cs
  | [], n => by simp [cntL]
  | d :: cs, 0 => by simp [cntL]
  | d :: cs, n + 1 => by simp only [List.take_succ_cons, cntL]; have := cntL_take_le cs n; omega
def isScal : D → Bool
  | .rows _ _ _ => false
  | _ => true
theorem own_scal {w : World} {d : D} {v : Value} {f : List Nat} (h : OwnV w d v f) (hs : isScal d = true) : f = [] := by
  match d, hs with
  | .int n, _ => unfold OwnV at h; exact h.2
  | .bool n, _ => unfold OwnV at h; exact h.2
  | .str n, _ => unfold OwnV at h; exact h.2
  | .any, _ => unfold OwnV at h; exact h.2
  | .byt n, _ => unfold OwnV at h; exact h.2
theorem OwnVs.len {w : World} : ∀ (ds : List D) (vs : List Value) (fp : List Nat), OwnVs w ds vs fp → vs.length = ds.length
  | [], vs, fp, h => by unfold OwnVs at h; rw [h.1]; rfl
  | d :: ds, vs, fp, h => by
    unfold OwnVs at h
    obtain ⟨v, r, f1, f2, rfl, rfl, _, h2⟩ := h
    simp [OwnVs.len ds r f2 h2]
theorem OwnVs.at_ {w : World} : ∀ (ds : List D) (vs : List Value) (fp : List Nat) (p : Nat) (hp : p < ds.length) (hv : p < vs.length), OwnVs w ds vs fp → fp.Nodup →
    ∃ f, OwnV w ds[p] vs[p] f ∧ f.Nodup ∧ (∀ x ∈ f, x ∈ fp) ∧
      (∀ (w' : World) (d' : D), w.heap.size ≤ w'.heap.size → (∀ x ∈ fp, x ∉ f → w'.heap[x]? = w.heap[x]?) → OwnV w' d' vs[p] f → OwnVs w' (ds.set p d') vs fp) ∧
      (f = [] → ∀ (w' : World) (d' : D) (u' : Value), w.heap.size ≤ w'.heap.size → (∀ x ∈ fp, w'.heap[x]? = w.heap[x]?) → OwnV w' d' u' [] → OwnVs w' (ds.set p d') (vs.set p u') fp)
  | d :: ds, vs, fp, 0, _, _, h, hn => by
    unfold OwnVs at h
    obtain ⟨v, r, f1, f2, rfl, rfl, hd, h2⟩ := h
    obtain ⟨hn1, hn2, hdis⟩ := List.nodup_append.1 hn
    refine ⟨f1, hd, hn1, fun x hx => by simp [hx], fun w' d' hs hk ho => ?_, fun he w' d' u' hs hk ho => ?_⟩
    · simp only [List.set_cons_zero]
      unfold OwnVs
      exact ⟨v, r, f1, f2, rfl, rfl, ho, OwnVs.keep hs ds r f2 (fun x hx => hk x (by simp [hx]) fun hx1 => hdis x hx1 x hx rfl) h2⟩
    · subst he
      simp only [List.set_cons_zero]
      unfold OwnVs
      exact ⟨u', r, [], f2, rfl, rfl, ho, OwnVs.keep hs ds r f2 (fun x hx => hk x (by simp [hx])) h2⟩
  | d :: ds, vs, fp, p + 1, hp, hv, h, hn => by
    unfold OwnVs at h
    obtain ⟨v, r, f1, f2, rfl, rfl, hd, h2⟩ := h
    obtain ⟨hn1, hn2, hdis⟩ := List.nodup_append.1 hn
    obtain ⟨f, ho, hfn, hsub, hput, hset⟩ := OwnVs.at_ ds r f2 p (by simpa using hp) (by simpa using hv) h2 hn2
    refine ⟨f, ho, hfn, fun x hx => by simp [hsub x hx], fun w' d' hs hk ho' => ?_, fun he w' d' u' hs hk ho' => ?_⟩
    · simp only [List.set_cons_succ]
      unfold OwnVs
      exact ⟨v, r, f1, f2, rfl, rfl, OwnV.keep hs d v f1 (fun x hx => hk x (by simp [hx]) fun hxf => hdis x hx x (hsub x hxf) rfl) hd, hput w' d' hs (fun x hx hxf => hk x (by simp [hx]) hxf) ho'⟩
    · simp only [List.set_cons_succ]
      unfold OwnVs
      exact ⟨v, r.set p u', f1, f2, rfl, rfl, OwnV.keep hs d v f1 (fun x hx => hk x (by simp [hx])) hd, hset he w' d' u' hs (fun x hx => hk x (by simp [hx])) ho'⟩
theorem set_mid {α : Type} (A R C : List α) (j : Nat) (x : α) (hj : j < R.length) : (A ++ (R ++ C)).set (A.length + j) x = A ++ (R.set j x ++ C) := by
  rw [List.set_append, if_neg (by omega), List.set_append, if_pos (by omega)]
  simp
theorem get_mid {α : Type} (A R C : List α) (j : Nat) (hj : j < R.length) (h : A.length + j < (A ++ (R ++ C)).length) : (A ++ (R ++ C))[A.length + j] = R[j] := by
  rw [List.getElem_append_right (by omega), List.getElem_append_left (by omega)]
  simp
section
variable {w : World} {sz n cap b off p : Nat} {A R C : List D} {fp : List Nat}
theorem OwnV.mid (h : OwnV w (.rows sz n (A ++ (R ++ C))) (.slice (some ⟨b, off, none⟩) n cap) fp) (hn : fp.Nodup) (hA : A.length = p) (j : Nat) (hj : j < R.length) :
    ∃ u f, w.cell? ⟨b, off + p + j, none⟩ = some u ∧ w.frozen? ⟨b, off + p + j, none⟩ = false ∧ b ∈ fp ∧ OwnV w R[j] u f ∧ f.Nodup ∧ (∀ x ∈ f, x ∈ fp) ∧
      (∀ (w' : World) (d' : D), Only f w w' → OwnV w' d' u f → OwnV w' (.rows sz n (A ++ (R.set j d' ++ C))) (.slice (some ⟨b, off, none⟩) n cap) fp) := by
  subst hA
  have h0 := h
  unfold OwnV at h
  obtain ⟨a, cap', e, h2, h3, h4, h5⟩ := h
  injection e with e1 e2 e3
  subst e1 e3
  rcases h5 with ⟨hz, _⟩ | ⟨b', off', vs, f0, ha, hb, rfl, hfz, hc, hl⟩
  · exfalso
    subst hz
    rw [Nat.zero_mul] at h4
    have h6 := List.eq_nil_of_length_eq_zero h4
    simp at h6
    rw [h6.2.1] at hj
    simp at hj
  injection ha with ha
  injection ha with e1 e2 e3
  subst e1 e2
  have hlen := OwnVs.len _ _ _ hl
  have hp : A.length + j < (A ++ (R ++ C)).length := by simp; omega
  obtain ⟨hnb, hn0⟩ := List.nodup_cons.1 hn
  obtain ⟨f, ho, hfn, hsub, hput, _⟩ := OwnVs.at_ _ vs f0 (A.length + j) hp (by omega) hl hn0
  rw [get_mid A R C j hj] at ho
  have hcj := hc (A.length + j) (by omega)
  rw [show off + (A.length + j) = off + A.length + j by omega] at hcj
  refine ⟨vs[A.length + j], f, hcj, hfz _, by simp, ho, hfn, fun x hx => by simp [hsub x hx], fun w' d' hw ho' => ?_⟩
  have hbf : b ∉ f := fun hm => hnb (hsub b hm)
  have hblk := hw.block b hb hbf
  have hl' := hput w' d' hw.size (fun x hx hxf => hw.block x (OwnVs.lt _ _ _ hl x hx) hxf) ho'
  rw [set_mid A R C j d' hj] at hl'
  unfold OwnV
  exact ⟨_, _, rfl, h2, h3, by simpa using h4, .inr ⟨b, off, vs, f0, rfl, Nat.lt_of_lt_of_le hb hw.size, rfl, fun o => (World.frozen?_of_block (w := w) hblk).trans (hfz o), hc.keep hblk, hl'⟩⟩
theorem OwnV.put (h : OwnV w (.rows sz n (A ++ (R ++ C))) (.slice (some ⟨b, off, none⟩) n cap) fp) (hn : fp.Nodup) (hA : A.length = p) (j : Nat) (hj : j < R.length) (hs : isScal R[j] = true)
    (d' : D) (u' : Value) (hd : ∀ w' : World, OwnV w' d' u' []) : OwnV (w.setCell ⟨b, off + p + j, none⟩ u') (.rows sz n (A ++ (R.set j d' ++ C))) (.slice (some ⟨b, off, none⟩) n cap) fp := by
  subst hA
  unfold OwnV at h
  obtain ⟨a, cap', e, h2, h3, h4, h5⟩ := h
  injection e with e1 e2 e3
  subst e1 e3
  rcases h5 with ⟨hz, _⟩ | ⟨b', off', vs, f0, ha, hb, rfl, hfz, hc, hl⟩
  · exfalso
    subst hz
    rw [Nat.zero_mul] at h4
    have h6 := List.eq_nil_of_length_eq_zero h4
    simp at h6
    rw [h6.2.1] at hj
    simp at hj
  injection ha with ha
  injection ha with e1 e2 e3
  subst e1 e2
  have hlen := OwnVs.len _ _ _ hl
  have hp : A.length + j < (A ++ (R ++ C)).length := by simp; omega
  obtain ⟨hnb, hn0⟩ := List.nodup_cons.1 hn
  obtain ⟨f, ho, hfn, hsub, _, hset⟩ := OwnVs.at_ _ vs f0 (A.length + j) hp (by omega) hl hn0
  rw [get_mid A R C j hj] at ho
  have hf := own_scal ho hs
  have hsz : w.heap.size ≤ (w.setCell ⟨b, off + A.length + j, none⟩ u').heap.size := by simp [World.setCell]
  have hl' := hset hf (w.setCell ⟨b, off + A.length + j, none⟩ u') d' u' hsz (fun x hx => Below.heap_setCell _ _ _ _ (fun e => hnb (by rw [← show x = b from e]; exact hx))) (hd _)
  rw [set_mid A R C j d' hj] at hl'
  unfold OwnV
  refine ⟨_, _, rfl, h2, h3, by simpa using h4, .inr ⟨b, off, vs.set (A.length + j) u', f0, rfl, by omega, rfl, fun o => (World.frozen?_setCell _ _ _ _).trans (hfz o), ?_, hl'⟩⟩
  intro i hi
  rw [List.length_set] at hi
  by_cases hij : i = A.length + j
  · subst hij
    have hcj := hc (A.length + j) hi
    rw [show off + (A.length + j) = off + A.length + j by omega] at hcj ⊢
    rw [World.cell?_setCell_same' w _ _ (by rw [hcj]; rfl)]
    simp
  · have hci := hc i hi
    rw [World.cell?_setCell_other w _ _ _ (by intro e; injection e with _ e2 _; omega), hci]
    simp [Ne.symm hij]
theorem rowAt_markL (sz k : Nat) (cs : List D) (c : Int) : rowAt sz (markL cs c) k = markL (rowAt sz cs k) (c + cntL (cs.take (k * sz))) := by
  have h1 : cs = cs.take (k * sz) ++ (rowAt sz cs k ++ cs.drop ((k + 1) * sz)) := by
    rw [← List.append_assoc, ← take_rowAt, List.take_append_drop]
  by_cases hl : k * sz ≤ cs.length
  · have h2 : (cs.take (k * sz)).length = k * sz := by simp; omega
    have h3 : markL cs c = markL (cs.take (k * sz)) c ++ markL (cs.drop (k * sz)) (c + cntL (cs.take (k * sz))) := by
      rw [← markL_append, List.take_append_drop]
    rw [rowAt, h3, List.drop_append, markL_len, h2, List.drop_of_length_le (by rw [markL_len, h2]; exact Nat.le_refl _), List.nil_append, Nat.sub_self, List.drop_zero]
    rw [rowAt]
    have h4 : ∀ (l : List D) (m : Nat) (x : Int), (markL l x).take m = markL (l.take m) x := by
      intro l
      induction l with
      | nil => intro m x; simp [markL]
      | cons d l ih =>
        intro m x
        cases m with
        | zero => simp [markL]
        | succ m => simp only [markL, List.take_succ_cons, ih]
    exact h4 _ _ _
  · have e1 : rowAt sz cs k = [] := by unfold rowAt; rw [List.drop_of_length_le (by omega)]; simp
    have e2 : rowAt sz (markL cs c) k = [] := by unfold rowAt; rw [List.drop_of_length_le (by rw [markL_len]; omega)]; simp
    rw [e1, e2]; rfl
theorem drop_rowAt {α : Type} (sz k : Nat) (cs : List α) : cs.drop (k * sz) = rowAt sz cs k ++ cs.drop ((k + 1) * sz) := by
  rw [rowAt, Nat.succ_mul, ← List.drop_drop, List.take_append_drop]
theorem OwnV.later {w w' : World} {d : D} {v : Value} {fp : List Nat} (h : OwnV w d v fp) (hb : Below w.heap.size w w') : OwnV w' d v fp :=
  OwnV.keep hb.size d v fp (fun k hk => hb.block k (OwnV.lt d v fp h k hk)) h
end
end Go.Proofs.Ytgjcilainojlfaa
