/-
  Plain words for memory that reads as data: cells, rows of cells, owned rows; what keeps them. No function of the program is walked here.
-/
import Derived.Test.YtpoemjeelbmpkaaGreatRows
import Derived.WalkKit
import Derived.WalkLawsBesides
import Derived.Lib.Hide
import Derived.Deep.QuietTactic
import Derived.BigQuiet
namespace Go.Proofs.YtpoemjeelbmpkaaGreat
open Go.RowKit

/-- What a cell holds: a number, a truth value, a text, or a slice of 'n' elements of 'sz' cells each, all cells in order. -/
inductive D where
  | int (n : Int)
  | bool (b : Bool)
  | str (s : ByteArray)
  | rows (sz n : Nat) (cs : List D)
  | any
  | byt (n : Int)

/-- The cells from ⟨b, off⟩ on hold just these values. -/
def Cells (w : World) (b off : Nat) (vs : List Value) : Prop := ∀ i (h : i < vs.length), w.cell? ⟨b, off + i, none⟩ = some vs[i]

mutual
/-- The value v reads as d; all memory that is read lies in blocks below S. -/
def RepV (w : World) (S : Nat) : D → Value → Prop
  | .int n, v => v = .int .i64 n
  | .bool b, v => v = .bool b
  | .str s, v => v = .string s
  | .any, v => v.oneCell' = true
  | .byt n, v => v = .int .u8 n
  | .rows sz n cs, v => ∃ a cap, v = .slice a n cap ∧ n ≤ cap ∧ cap ≤ maxLen ∧ cs.length = n * sz ∧ (n = 0 ∨ ∃ b off vs, a = some ⟨b, off, none⟩ ∧ b < S ∧ Cells w b off vs ∧ RepVs w S cs vs)
/-- The values read as the list, one by one. -/
def RepVs (w : World) (S : Nat) : List D → List Value → Prop
  | [], vs => vs = []
  | d :: cs, vs => ∃ v r, vs = v :: r ∧ RepV w S d v ∧ RepVs w S cs r
end

theorem Cells.keep {w w' : World} {b off : Nat} {vs : List Value} (h : Cells w b off vs) (hb : w'.heap[b]? = w.heap[b]?) : Cells w' b off vs :=
  fun i hi => (World.cell?_of_block (w := w) hb).trans (h i hi)

mutual
theorem RepV.mono {w w' : World} {S S' : Nat} (hS : S ≤ S') (hw : ∀ k, k < S → w'.heap[k]? = w.heap[k]?) : ∀ (d : D) (v : Value), RepV w S d v → RepV w' S' d v
  | .int n, v, h => by unfold RepV at h ⊢; exact h
  | .bool b, v, h => by unfold RepV at h ⊢; exact h
  | .str s, v, h => by unfold RepV at h ⊢; exact h
  | .any, v, h => by unfold RepV at h ⊢; exact h
  | .byt n, v, h => by unfold RepV at h ⊢; exact h
  | .rows sz n cs, v, h => by
    unfold RepV at h ⊢
    obtain ⟨a, cap, h1, h2, h3, h4, h5⟩ := h
    refine ⟨a, cap, h1, h2, h3, h4, ?_⟩
    rcases h5 with h5 | ⟨b, off, vs, ha, hb, hc, hl⟩
    · exact .inl h5
    · exact .inr ⟨b, off, vs, ha, by omega, hc.keep (hw b hb), RepVs.mono hS hw cs vs hl⟩
theorem RepVs.mono {w w' : World} {S S' : Nat} (hS : S ≤ S') (hw : ∀ k, k < S → w'.heap[k]? = w.heap[k]?) : ∀ (cs : List D) (vs : List Value), RepVs w S cs vs → RepVs w' S' cs vs
  | [], _, h => by unfold RepVs at h ⊢; exact h
  | d :: cs, vs, h => by
    unfold RepVs at h ⊢
    obtain ⟨v, r, e, hv, h2⟩ := h
    exact ⟨v, r, e, RepV.mono hS hw d v hv, RepVs.mono hS hw cs r h2⟩
end

theorem RepV.same {w w' : World} {S : Nat} {d : D} {v : Value} (h : RepV w S d v) (e : w'.heap = w.heap) : RepV w' S d v :=
  RepV.mono (Nat.le_refl _) (fun k _ => by rw [e]) d v h
theorem RepV.later {w w' : World} {S S' : Nat} {d : D} {v : Value} (h : RepV w S d v) (hb : Below S w w') (hS : S ≤ S') : RepV w' S' d v :=
  RepV.mono hS hb.block d v h

theorem RepVs.len {w : World} {S : Nat} : ∀ (cs : List D) (vs : List Value), RepVs w S cs vs → vs.length = cs.length
  | [], vs, h => by unfold RepVs at h; subst h; rfl
  | d :: cs, vs, h => by
    unfold RepVs at h
    obtain ⟨v, r, rfl, _, h2⟩ := h
    simp [RepVs.len cs r h2]

/-- A slice that reads as 'n' elements: its shape, and each of its cells, asked for where there is one. -/
theorem RepV.slc {w : World} {S sz n : Nat} {cs : List D} {v : Value} (h : RepV w S (.rows sz n cs) v) :
    ∃ a cap, v = .slice a n cap ∧ n ≤ cap ∧ cap ≤ maxLen ∧ cs.length = n * sz ∧
      ∀ k, k < n → ∃ b off vs, a = some ⟨b, off, none⟩ ∧ b < S ∧ vs.length = n * sz ∧ RepVs w S cs vs ∧ Cells w b off vs := by
  unfold RepV at h
  obtain ⟨a, cap, h1, h2, h3, h4, h5⟩ := h
  refine ⟨a, cap, h1, h2, h3, h4, fun k hk => ?_⟩
  rcases h5 with h5 | ⟨b, off, vs, ha, hb, hc, hl⟩
  · omega
  · exact ⟨b, off, vs, ha, hb, (hl.len).trans h4, hl, hc⟩

/-! texts and numbers -/
def strsD (ss : List ByteArray) : D := .rows 1 ss.length (ss.map .str)
def intsD (ns : List Int) : D := .rows 1 ns.length (ns.map .int)



/-! ## Owned data: each slice that has elements has a block of its own -/
mutual
/-- The value v reads as d, in blocks of its own, which are just those of fp (a slice without elements has none). -/
def OwnV (w : World) : D → Value → List Nat → Prop
  | .int n, v, fp => v = .int .i64 n ∧ fp = []
  | .bool b, v, fp => v = .bool b ∧ fp = []
  | .str s, v, fp => v = .string s ∧ fp = []
  | .any, v, fp => v.oneCell' = true ∧ fp = []
  | .byt n, v, fp => v = .int .u8 n ∧ fp = []
  | .rows sz n cs, v, fp => ∃ a cap, v = .slice a n cap ∧ n ≤ cap ∧ cap ≤ maxLen ∧ cs.length = n * sz ∧
      ((n = 0 ∧ fp = []) ∨ ∃ b off vs f, a = some ⟨b, off, none⟩ ∧ b < w.heap.size ∧ fp = b :: f ∧ (∀ o, w.frozen? ⟨b, o, none⟩ = false) ∧ Cells w b off vs ∧ OwnVs w cs vs f)
def OwnVs (w : World) : List D → List Value → List Nat → Prop
  | [], vs, fp => vs = [] ∧ fp = []
  | d :: cs, vs, fp => ∃ v r f1 f2, vs = v :: r ∧ fp = f1 ++ f2 ∧ OwnV w d v f1 ∧ OwnVs w cs r f2
end

mutual
theorem OwnV.keep {w w' : World} (hs : w.heap.size ≤ w'.heap.size) : ∀ (d : D) (v : Value) (fp : List Nat), (∀ k ∈ fp, w'.heap[k]? = w.heap[k]?) → OwnV w d v fp → OwnV w' d v fp
  | .int n, v, fp, _, h => by unfold OwnV at h ⊢; exact h
  | .bool b, v, fp, _, h => by unfold OwnV at h ⊢; exact h
  | .str s, v, fp, _, h => by unfold OwnV at h ⊢; exact h
  | .any, v, fp, _, h => by unfold OwnV at h ⊢; exact h
  | .byt n, v, fp, _, h => by unfold OwnV at h ⊢; exact h
  | .rows sz n cs, v, fp, hk, h => by
    unfold OwnV at h ⊢
    obtain ⟨a, cap, h1, h2, h3, h4, h5⟩ := h
    refine ⟨a, cap, h1, h2, h3, h4, ?_⟩
    rcases h5 with h5 | ⟨b, off, vs, f, ha, hb, hf, hz, hc, hl⟩
    · exact .inl h5
    · subst hf
      have hkb := hk b (by simp)
      exact .inr ⟨b, off, vs, f, ha, by omega, rfl, fun o => (World.frozen?_of_block (w := w) hkb).trans (hz o), hc.keep hkb, OwnVs.keep hs cs vs f (fun k hm => hk k (by simp [hm])) hl⟩
theorem OwnVs.keep {w w' : World} (hs : w.heap.size ≤ w'.heap.size) : ∀ (cs : List D) (vs : List Value) (fp : List Nat), (∀ k ∈ fp, w'.heap[k]? = w.heap[k]?) → OwnVs w cs vs fp → OwnVs w' cs vs fp
  | [], vs, fp, _, h => by unfold OwnVs at h ⊢; exact h
  | d :: cs, vs, fp, hk, h => by
    unfold OwnVs at h ⊢
    obtain ⟨v, r, f1, f2, e1, e2, hv, h2⟩ := h
    subst e2
    exact ⟨v, r, f1, f2, e1, rfl, OwnV.keep hs d v f1 (fun k hm => hk k (by simp [hm])) hv, OwnVs.keep hs cs r f2 (fun k hm => hk k (by simp [hm])) h2⟩
end

mutual
theorem OwnV.lt {w : World} : ∀ (d : D) (v : Value) (fp : List Nat), OwnV w d v fp → ∀ k ∈ fp, k < w.heap.size
  | .int n, v, fp, h => by unfold OwnV at h; obtain ⟨_, rfl⟩ := h; simp
  | .bool b, v, fp, h => by unfold OwnV at h; obtain ⟨_, rfl⟩ := h; simp
  | .str s, v, fp, h => by unfold OwnV at h; obtain ⟨_, rfl⟩ := h; simp
  | .any, v, fp, h => by unfold OwnV at h; obtain ⟨_, rfl⟩ := h; simp
  | .byt n, v, fp, h => by unfold OwnV at h; obtain ⟨_, rfl⟩ := h; simp
  | .rows sz n cs, v, fp, h => by
    unfold OwnV at h
    obtain ⟨a, cap, h1, h2, h3, h4, h5⟩ := h
    rcases h5 with ⟨_, rfl⟩ | ⟨b, off, vs, f, ha, hb, rfl, hz, hc, hl⟩
    · simp
    · intro k hk
      rcases List.mem_cons.1 hk with rfl | hk
      · exact hb
      · exact OwnVs.lt cs vs f hl k hk
theorem OwnVs.lt {w : World} : ∀ (cs : List D) (vs : List Value) (fp : List Nat), OwnVs w cs vs fp → ∀ k ∈ fp, k < w.heap.size
  | [], vs, fp, h => by unfold OwnVs at h; obtain ⟨_, rfl⟩ := h; simp
  | d :: cs, vs, fp, h => by
    unfold OwnVs at h
    obtain ⟨v, r, f1, f2, e1, rfl, hv, h2⟩ := h
    intro k hk
    rcases List.mem_append.1 hk with hk | hk
    · exact OwnV.lt d v f1 hv k hk
    · exact OwnVs.lt cs r f2 h2 k hk
end


/-- Owned, in blocks from B on, no block twice. -/
def Fresh (w : World) (B : Nat) (d : D) (v : Value) : Prop := ∃ fp, OwnV w d v fp ∧ fp.Nodup ∧ ∀ k ∈ fp, B ≤ k
def FreshL (w : World) (B : Nat) (ds : List D) (vs : List Value) : Prop := ∃ fp, OwnVs w ds vs fp ∧ fp.Nodup ∧ ∀ k ∈ fp, B ≤ k

/-- Only blocks of fp (and new ones) have turned. -/
structure Only (fp : List Nat) (w w' : World) : Prop where
  os : w'.os = w.os
  tape : w'.tape = w.tape
  output : w'.output = w.output
  size : w.heap.size ≤ w'.heap.size
  block : ∀ k, k < w.heap.size → k ∉ fp → w'.heap[k]? = w.heap[k]?
theorem Only.refl (fp : List Nat) (w : World) : Only fp w w := ⟨rfl, rfl, rfl, Nat.le_refl _, fun _ _ _ => rfl⟩
theorem Only.trans {fp : List Nat} {a b c : World} (h : Only fp a b) (k : Only fp b c) : Only fp a c :=
  ⟨k.os.trans h.os, k.tape.trans h.tape, k.output.trans h.output, Nat.le_trans h.size k.size, fun i hi hn => (k.block i (Nat.lt_of_lt_of_le hi h.size) hn).trans (h.block i hi hn)⟩
theorem Only.setCell {fp : List Nat} {a w : World} (h : Only fp a w) {p : Addr} (hp : p.block ∈ fp) (u : Value) : Only fp a (w.setCell p u) :=
  h.trans ⟨rfl, rfl, rfl, by simp [World.setCell], fun k _ hn => Below.heap_setCell _ _ _ _ (fun e => hn (by rw [e]; exact hp))⟩

/-! ## Rows that are made and filled -/
theorem run_make_rowN {P : Program} (t e : TypeId) (i : TypeInfo) (z : Value) (ht : P.underlying t = some (.slice e)) (hi : P.info? e = some i) (hz : i.zero = some z)
    (kl kc : IntKind) (n c : Nat) (hnc : n ≤ c) (hbytes : i.bytes * c ≤ 281474976710656) (h63 : c ≤ 9223372036854775807) (w : World) :
    (Instr.makeSlice t (.int kl (n : Int)) (.int kc (c : Int))).run P w = .ok (.slice (some ⟨w.heap.size, 0, none⟩) n c) (w.alloc (.cells (madeCells z.cells (c * i.size)) e)) := by
  have hb : (i.bytes : Int) * (c : Int) ≤ 281474976710656 := by
    have h : ((i.bytes * c : Nat) : Int) ≤ 281474976710656 := by omega
    rwa [Int.natCast_mul] at h
  have hr := run_make (P := P) w t e i z ht hi hz kl kc n c (by omega) (by omega) hb (by omega)
  simp only [Int.toNat_natCast] at hr
  exact hr

/-- A block that is known whole. -/
def Blk (w : World) (g : Nat) (t : TypeId) (cs : Array Value) : Prop := w.heap[g]? = some (.cells cs t (0, 0))
section
variable {w w' : World} {g : Nat} {t : TypeId} {cs : Array Value}
theorem Blk.lt (h : Blk w g t cs) : g < w.heap.size := by
  rcases Nat.lt_or_ge g w.heap.size with hlt | hge
  · exact hlt
  · unfold Blk at h; rw [Array.getElem?_eq_none hge] at h; cases h
theorem Blk.cell (h : Blk w g t cs) (i : Nat) : w.cell? ⟨g, i, none⟩ = cs[i]? := cell_of_row w g i cs t (0, 0) h
theorem Blk.frozen (h : Blk w g t cs) (i : Nat) : w.frozen? ⟨g, i, none⟩ = false := by
  unfold Blk at h
  simp [World.frozen?, h]
theorem Blk.new (w : World) (t : TypeId) (cs : Array Value) : Blk (w.alloc (.cells cs t)) w.heap.size t cs := heap_alloc_new w _
theorem Blk.alloc (h : Blk w g t cs) (o : Obj) : Blk (w.alloc o) g t cs := (Below.heap_alloc w o g h.lt).trans h
theorem Blk.set_ (h : Blk w g t cs) (i : Nat) (u : Value) : Blk (w.setCell ⟨g, i, none⟩ u) g t (cs.setIfInBounds i u) := by
  unfold Blk at h ⊢
  simp [World.setCell, Array.getElem?_modify, h]
theorem Blk.far (h : Blk w g t cs) {p : Addr} (hp : g ≠ p.block) (u : Value) : Blk (w.setCell p u) g t cs := (Below.heap_setCell w p u g hp).trans h
theorem Blk.below {B : Nat} (h : Blk w g t cs) (hb : Below B w w') (hg : g < B) : Blk w' g t cs := (hb.block g hg).trans h
theorem Blk.cells {vs : List Value} (h : Blk w g t vs.toArray) : Cells w g 0 vs := fun i hi => by
  rw [h.cell]; simp [hi]
end

/-- A block that holds owned values, none of them in the block itself, is an owned slice. -/
theorem own_of_blk {w : World} {B g sz n : Nat} {t : TypeId} {vs : List Value} {ds : List D} {fp : List Nat} (h : Blk w g t vs.toArray) (ho : OwnVs w ds vs fp) (hnd : fp.Nodup) (hk : ∀ k ∈ fp, B ≤ k)
    (hg : g ∉ fp) (hn : ds.length = n * sz) (hm : n ≤ maxLen) (hB : B ≤ g) : Fresh w B (.rows sz n ds) (.slice (some ⟨g, 0, none⟩) n n) := by
  rcases Nat.eq_zero_or_pos n with h0 | h0
  · subst h0
    exact ⟨[], by unfold OwnV; exact ⟨_, _, rfl, by omega, hm, hn, .inl ⟨rfl, rfl⟩⟩, by simp, by simp⟩
  · refine ⟨g :: fp, ?_, List.nodup_cons.2 ⟨hg, hnd⟩, ?_⟩
    · unfold OwnV
      exact ⟨_, _, rfl, by omega, hm, hn, .inr ⟨g, 0, vs, fp, rfl, h.lt, rfl, h.frozen, h.cells, ho⟩⟩
    · intro k hm
      rcases List.mem_cons.1 hm with rfl | hm
      · exact hB
      · exact hk k hm

theorem OwnVs.append {w : World} : ∀ (ds : List D) (vs : List Value) (f : List Nat) (es : List D) (us : List Value) (g : List Nat), OwnVs w ds vs f → OwnVs w es us g → OwnVs w (ds ++ es) (vs ++ us) (f ++ g)
  | [], vs, f, es, us, g, h, h' => by
    unfold OwnVs at h
    obtain ⟨rfl, rfl⟩ := h
    exact h'
  | d :: ds, vs, f, es, us, g, h, h' => by
    unfold OwnVs at h
    obtain ⟨v, r, f1, f2, rfl, rfl, hv, h2⟩ := h
    rw [List.cons_append, List.cons_append, List.append_assoc]
    unfold OwnVs
    exact ⟨v, r ++ us, f1, f2 ++ g, rfl, rfl, hv, OwnVs.append ds r f2 es us g h2 h'⟩
theorem FreshL.down {w : World} {B B' : Nat} {d : List D} {v : List Value} (h : FreshL w B d v) (hB : B' ≤ B) : FreshL w B' d v := by
  obtain ⟨fp, h, hn, hk⟩ := h
  exact ⟨fp, h, hn, fun k hm => Nat.le_trans hB (hk k hm)⟩
theorem FreshL.only {w w' : World} {B : Nat} {d : List D} {v : List Value} {fp : List Nat} (h : FreshL w B d v) (hb : Only fp w w') (hd : ∀ k ∈ fp, k < B) : FreshL w' B d v := by
  obtain ⟨f, h, hn, hB⟩ := h
  refine ⟨f, OwnVs.keep hb.size d v f (fun k hk => hb.block k (OwnVs.lt d v f h k hk) fun hm => ?_) h, hn, hB⟩
  have h1 := hd k hm
  have h2 := hB k hk
  omega
theorem FreshL.one {w : World} {B : Nat} {d : D} {v : Value} (h : Fresh w B d v) : FreshL w B [d] [v] := by
  obtain ⟨fp, h, hn, hB⟩ := h
  refine ⟨fp, ?_, hn, hB⟩
  unfold OwnVs
  exact ⟨v, [], fp, [], rfl, by simp, h, by unfold OwnVs; exact ⟨rfl, rfl⟩⟩
/-- What was owned before a call, and what the call made. -/
theorem FreshL.append {W w' : World} {B : Nat} {ds es : List D} {vs us : List Value} (h : FreshL W B ds vs) (hb : Below W.heap.size W w') (hB : B ≤ W.heap.size) (h' : FreshL w' W.heap.size es us) : FreshL w' B (ds ++ es) (vs ++ us) := by
  obtain ⟨f, hf, hn, hk⟩ := h
  obtain ⟨g, hg, hn', hk'⟩ := h'
  have hlt := OwnVs.lt ds vs f hf
  refine ⟨f ++ g, OwnVs.append _ _ _ _ _ _ (OwnVs.keep hb.size ds vs f (fun k hm => hb.block k (hlt k hm)) hf) hg, ?_, ?_⟩
  · refine List.nodup_append.2 ⟨hn, hn', fun a ha b hb' e => ?_⟩
    have h1 := hlt a ha
    have h2 := hk' b hb'
    omega
  · intro k hm
    rcases List.mem_append.1 hm with hm | hm
    · exact hk k hm
    · exact Nat.le_trans hB (hk' k hm)
theorem FreshL.cell {w : World} {B : Nat} {ds : List D} {vs : List Value} {d : D} {v : Value} (h : FreshL w B ds vs) (hv : OwnV w d v []) : FreshL w B (ds ++ [d]) (vs ++ [v]) := by
  obtain ⟨f, hf, hn, hk⟩ := h
  refine ⟨f ++ [], OwnVs.append _ _ _ _ _ _ hf ?_, by simpa using hn, by simpa using hk⟩
  unfold OwnVs
  exact ⟨v, [], [], [], rfl, rfl, hv, by unfold OwnVs; exact ⟨rfl, rfl⟩⟩
theorem own_int (w : World) (n : Int) : OwnV w (.int n) (.int .i64 n) [] := by unfold OwnV; exact ⟨rfl, rfl⟩
theorem own_str (w : World) (s : ByteArray) : OwnV w (.str s) (.string s) [] := by unfold OwnV; exact ⟨rfl, rfl⟩
theorem FreshL.nil (w : World) (B : Nat) : FreshL w B [] [] := ⟨[], by unfold OwnVs; exact ⟨rfl, rfl⟩, by simp, by simp⟩

/-! a quiet region behind a contract that keeps the caller's world on the left -/

/-- A new block of n elements, each as the zero value's cells. -/
theorem toList_madeCells (z : Array Value) (hz : 0 < z.size) : ∀ n : Nat, (madeCells z (n * z.size)).toList = (List.replicate n z.toList).flatten
  | 0 => by simp [madeCells]
  | n + 1 => by
    have ih := toList_madeCells z hz n
    simp only [madeCells, Array.toList_map, Array.toList_range] at ih ⊢
    rw [Nat.succ_mul, List.range_add, List.map_append, ih, List.replicate_succ', List.flatten_append]
    congr 1
    simp only [List.map_map, List.flatten_cons, List.flatten_nil, List.append_nil]
    apply List.ext_getElem
    · simp
    · intro i h1 h2
      simp at h1
      have h3 : (n * z.size + i) % z.size = i := by rw [Nat.add_comm, Nat.add_mul_mod_self_right]; exact Nat.mod_eq_of_lt h1
      simp [h3, h1]
theorem madeCells_flat (z : Array Value) (hz : 0 < z.size) (n : Nat) : madeCells z (n * z.size) = ((List.replicate n z.toList).flatten).toArray := by
  rw [← toList_madeCells z hz n]

/-- Cells written one behind the other. -/
def setRow (l : List Value) (p : Nat) : List Value → List Value
  | [] => l
  | v :: vs => setRow (l.set p v) (p + 1) vs
theorem setRow_mid : ∀ (vs A z B : List Value), vs.length = z.length → setRow (A ++ (z ++ B)) A.length vs = A ++ (vs ++ B)
  | [], A, z, B, h => by
    have : z = [] := List.eq_nil_of_length_eq_zero h.symm
    subst this; rfl
  | v :: vs, A, z, B, h => by
    match z, h with
    | y :: z, h =>
      have e : (A ++ (y :: z ++ B)).set A.length v = (A ++ [v]) ++ (z ++ B) := by simp
      rw [setRow, e]
      have := setRow_mid vs (A ++ [v]) z B (by simpa using h)
      rw [List.length_append] at this
      simp only [List.length_cons, List.length_nil, Nat.zero_add] at this
      rw [this]; simp
end Go.Proofs.YtpoemjeelbmpkaaGreat
