/-
  clear(s[k:]), s a row of one's own: the tail holds zeros.
-/
import Derived.Test.YtepjbiffebbelaaDat
namespace Go.Proofs.Ytepjbiffebbelaa
open Go.RowKit
set_option linter.unusedVariables false
set_option linter.unusedSimpArgs false
set_option maxRecDepth 20000
def plainZ (u : Value) : Prop := (∃ b, u = .string b) ∨ u = .int .i64 0
theorem own_plain : ∀ us : List Value, (∀ u ∈ us, plainZ u) → ∃ Z : List D, Z.length = us.length ∧ ∀ w, OwnVs w Z us []
  | [], _ => ⟨[], rfl, fun w => by unfold OwnVs; exact ⟨rfl, rfl⟩⟩
  | u :: us, h => by
    obtain ⟨Z, h1, h2⟩ := own_plain us fun u hu => h u (by simp [hu])
    rcases h u (by simp) with ⟨b, rfl⟩ | rfl
    · exact ⟨.str b :: Z, by simp [h1], fun w => by unfold OwnVs; exact ⟨_, us, [], [], rfl, rfl, by unfold OwnV; exact ⟨rfl, rfl⟩, h2 w⟩⟩
    · exact ⟨.int 0 :: Z, by simp [h1], fun w => by unfold OwnVs; exact ⟨_, us, [], [], rfl, rfl, by unfold OwnV; exact ⟨rfl, rfl⟩, h2 w⟩⟩
theorem zc_mem {z : Array Value} {n : Nat} (hz : ∀ u ∈ z, plainZ u) (h0 : 0 < z.size) : ∀ u ∈ (Builtin.zeroCells z n).toList, plainZ u := by
  intro u hu
  simp only [Builtin.zeroCells, Array.toList_map, List.mem_map] at hu
  obtain ⟨i, _, rfl⟩ := hu
  have hi : i % z.size < z.size := Nat.mod_lt _ h0
  rw [getElem!_pos z _ hi]
  exact hz _ (Array.getElem_mem hi)
theorem zc_len (z : Array Value) (n : Nat) : (Builtin.zeroCells z n).toList.length = n * z.size := by simp [Builtin.zeroCells]
theorem plain_one {u : Value} (h : plainZ u) : u.oneCell' = true := by
  rcases h with ⟨b, rfl⟩ | rfl <;> rfl
theorem sw_clear2 {P : Program} {all rest : List Oper} {st : List It} {d1 : Tmp} {t e : TypeId} {x lo : Operand} {ty ty2 : TypeId} {pos pos2 : String} {af af2 : Array Edge} {s : AS} {Q : QE} (o k : Nat) {sz n : Nat} {cs : List D} {T : TypeId} {z : Value}
    (hx : s.ev x = .sl o) (hI : s.owf o = some ⟨.rows sz n cs, some T, true⟩) (hT : tElem P t = some (e, sz)) (hlo : s.ev lo = .i k) (hk : k < n) (hd : d1 < s.nt)
    (hz : ∀ w, (zeroValue e).run P w = .ok z w) (hzs : z.cells.size = sz) (hz0 : 0 < sz) (hzp : ∀ u ∈ z.cells, plainZ u)
    (h : ∀ Z : List D, Z.length = (n - k) * sz → SW P (.ops all rest :: st) ((s.setO o ⟨.rows sz n (setRowG cs (k * sz) Z), some T, true⟩).pt (some d1) .un) Q) :
    SW P (.ex all ⟨some d1, .slice t x (some lo) none none, ty, pos, af, none⟩ (⟨none, .call ⟨.builtin .clear, #[.tmp d1], #[t]⟩, ty2, pos2, af2, none⟩ :: rest) :: st) s Q := fun w0 G a w hr => by
  obtain ⟨Z, hZl, hZo⟩ := own_plain (Builtin.zeroCells z.cells (n - k)).toList (zc_mem hzp (by omega))
  rw [zc_len, hzs] at hZl
  have hund : P.underlying t = some (.slice e) := by
    unfold tElem at hT
    split at hT
    · rename_i e' hu
      cases hi' : P.info? e' with
      | none => rw [hi'] at hT; cases hT
      | some i =>
        rw [hi'] at hT
        simp only [Option.map_some, Option.some.injEq, Prod.mk.injEq] at hT
        rw [hu, hT.1]
    · cases hT
  obtain ⟨h01, ⟨hB, hrep, hdeep, hap⟩, hbx⟩ := hr.own o _ hI
  obtain ⟨sz2, n2, cs2, vs, e1, hrow, h3, h4, h5, h6⟩ := hap T rfl
  simp only [D.rows.injEq] at e1
  obtain ⟨rfl, rfl, rfl⟩ := e1
  have hu : a.eval x = G.root o := by
    have := hr.ev x
    rw [hx] at this
    unfold RV at this
    exact this.2.2 _ hI
  obtain ⟨hvl, hrr⟩ := hrow
  rcases hrr with ⟨_, e4, e5⟩ | ⟨a', o0, cap2, cur, e4, hh, hnc, hcm, hcs, htk⟩
  · omega
  have hvr : rowR (G.root o) = [a'] := by rw [e4]; rfl
  have hlen : o0 + k * sz + (n - k) * sz ≤ cur.toList.length := by
    have h1 : k * sz + (n - k) * sz = n * sz := by rw [← Nat.add_mul]; congr 1; omega
    have h2 : n * sz ≤ (cap2 + 1) * sz := Nat.mul_le_mul_right _ hnc
    simp only [Array.length_toList]
    omega
  have hone : ∀ v ∈ (Builtin.zeroCells z.cells (n - k)).toList, v.oneCell' = true := fun v hv => plain_one (zc_mem hzp (by omega) v hv)
  obtain ⟨w', hw1, hw2, hw3⟩ := storeCells_run (P := P) (T := T) (g := a') (off := o0 + k * sz) (Builtin.zeroCells z.cells (n - k)).toList 0 cur.toList w (by unfold Blk; simpa using hh) (by rw [zc_len, hzs]; omega) hone
  rw [Nat.add_zero] at hw2
  have hwkeep : ∀ k, k < w.heap.size → k ≠ a' → w'.heap[k]? = w.heap[k]? := fun k hk hne => hw3.block k hk (by simpa using hne)
  have htk' : List.take (n * sz) ((setRowG cur.toList (o0 + k * sz) (Builtin.zeroCells z.cells (n - k)).toList).drop o0) = setRowG vs (k * sz) (Builtin.zeroCells z.cells (n - k)).toList := by rw [setRowG_drop, setRowG_take, htk]
  have hrow' : ownR w' T sz (G.root o) n (setRowG vs (k * sz) (Builtin.zeroCells z.cells (n - k)).toList) := by
    refine ⟨by rw [setRowG_len, hvl], .inr ⟨a', o0, cap2, _, e4, hw2, hnc, hcm, ?_, by simpa using htk'⟩⟩
    simp only [List.size_toArray, setRowG_len, Array.length_toList]; exact hcs
  have hones : ∀ u ∈ setRowG vs (k * sz) (Builtin.zeroCells z.cells (n - k)).toList, u.oneCell' = true := by
    have key : ∀ (us l : List Value) (i : Nat), (∀ u ∈ us, u.oneCell' = true) → (∀ u ∈ l, u.oneCell' = true) → ∀ u ∈ setRowG l i us, u.oneCell' = true := by
      intro us
      induction us with
      | nil => intro l i _ hl u hu; exact hl u hu
      | cons c us ih =>
        intro l i hc hl u hu
        refine ih (l.set i c) (i + 1) (fun u hu => hc u (by simp [hu])) (fun u hu => ?_) u hu
        rcases List.mem_or_eq_of_mem_set hu with hu | rfl
        · exact hl u hu
        · exact hc _ (by simp)
    exact key _ _ _ hone h5
  obtain ⟨fp, q1, q2, q3⟩ := h6 rfl
  obtain ⟨fp', q4, q5⟩ := OwnVs.setRow Z (Builtin.zeroCells z.cells (n - k)).toList cs vs fp (k * sz) (hZo w) q1
  have hfpB : ∀ k ∈ fp', k ∈ G.B o ∧ k ∉ rowR (G.root o) := fun k hk => q3 k (q5.subset hk)
  have q6 : OwnVs w' (setRowG cs (k * sz) Z) (setRowG vs (k * sz) (Builtin.zeroCells z.cells (n - k)).toList) fp' := OwnVs.keep hw3.size _ _ _ (fun k hk => hwkeep k (hB k (hfpB k hk).1).2 fun e => (hfpB k hk).2 (by rw [hvr, e]; simp)) q4
  have hmem : ∀ k ∈ rowR (G.root o) ++ fp', k ∈ G.B o := fun k hk => by
    rcases List.mem_append.1 hk with hk | hk
    · exact (h4 k hk).1
    · exact (hfpB k hk).1
  have hr2 : Rel w0 _ (s.setO o ⟨.rows sz n (setRowG cs (k * sz) Z), some T, true⟩) a w' := hr.setO (B' := rowR (G.root o) ++ fp') hI (by
    refine ⟨fun k hk => ⟨(hB k (hmem k hk)).1, Nat.lt_of_lt_of_le (hB k (hmem k hk)).2 hw3.size⟩, row_rep hrow' (OwnVs.p _ _ _ q6 (fun k hk => .inr (List.mem_append.2 (.inr hk)))) (fun k hk => .inr (List.mem_append.2 (.inl hk))), fun _ => ⟨row_own hrow' q6, ?_⟩, fun T' hT => ?_⟩
    · exact List.nodup_append.2 ⟨by rw [hvr]; simp, q5.nodup q2, fun k hk k' hk' e => (hfpB k' hk').2 (e ▸ hk)⟩
    · simp only [Option.some.injEq] at hT
      subst hT
      exact ⟨sz, n, _, _, rfl, hrow', OwnVs.p _ _ _ q6 (fun k hk => .inr ⟨List.mem_append.2 (.inr hk), (hfpB k hk).2⟩), fun k hk => ⟨List.mem_append.2 (.inl hk), (h4 k hk).2⟩, hones, fun _ => ⟨fp', q6, q5.nodup q2, fun k hk => ⟨List.mem_append.2 (.inr hk), (hfpB k hk).2⟩⟩⟩) hmem ⟨sz, n, cs, _, rfl, rfl⟩ (by rw [hvr]; exact hw3) h4
  -- the two operations
  have hrun := slice_run (P := P) (G := G) (W := w) (owf := s.owf) (nx := s.nx) (a' := some ⟨a', o0, none⟩) (lo := some (.i k)) (hi := none) (vl := some (a.eval lo)) (vh := none) (l := (k : Int)) (h' := (n : Int)) hnc hT
    (fun z hz => by injection hz with hz; subst hz; exact ⟨_, rfl, by have := hr.ev lo; rwa [hlo] at this⟩)
    (fun hz => by cases hz) (fun z hz => by cases hz) (fun _ => rfl) rfl rfl (by omega) w
  have hck : ¬ (cap2 + 1 = k) := by omega
  have e6 : (execOp a.eval ⟨some d1, .slice t x (some lo) none none, ty, pos, af, none⟩).run P w = .ok (.value (.slice (some ⟨a', o0 + k * sz, none⟩) (n - k) (cap2 + 1 - k))) w := by
    show ((do pure (.value (← Instr.sliceAt t (a.eval x) (some (a.eval lo)) none none)) : Sem Next)).run P w = _
    rw [hu, e4]
    simp only [Sem.run_bind, hrun, Result.andThen_ok, Sem.run_pure]
    simp [hck, add_addr]
  show Oper.wp P _ a w _ _
  unfold Oper.wp
  rw [e6]
  show wpList P all.toArray _ (_ :: rest) (a.put (some d1) _) w
  unfold wpList
  rw [if_pos (wanted_none rfl _)]
  refine .inl ?_
  unfold Oper.wp
  have hev : (a.put (some d1) (.slice (some ⟨a', o0 + k * sz, none⟩) (n - k) (cap2 + 1 - k))).eval (.tmp d1) = .slice (some ⟨a', o0 + k * sz, none⟩) (n - k) (cap2 + 1 - k) := by
    simp [Act.put, Act.eval, hr.nt, hd]
  have e7 : (execOp (a.put (some d1) (.slice (some ⟨a', o0 + k * sz, none⟩) (n - k) (cap2 + 1 - k))).eval ⟨none, .call ⟨.builtin .clear, #[.tmp d1], #[t]⟩, ty2, pos2, af2, none⟩).run P w = .ok (.value (.tuple #[])) w' := by
    obtain ⟨m, hm⟩ : ∃ m, n - k = m + 1 := ⟨n - k - 1, by omega⟩
    rw [hm] at hev hw1 ⊢
    simp only [execOp, resolve, Deferred.ofValue, invoke, List.map_toArray, List.map_cons, List.map_nil, hev, Sem.run_bind, Sem.run_pure, Result.andThen_ok, pure_bind, builtin]
    simp [Builtin.clear_, und_run hund, hz, hw1, Sem.run_bind, Sem.run_pure, Result.andThen_ok]
  rw [e7]
  exact h Z hZl w0 _ _ w' (hr2.pt (some d1) (by unfold RV; trivial))
end Go.Proofs.Ytepjbiffebbelaa
