/-
  An abstract picture of one activation: its temporaries, its own boxes and the slices that it owns, as plain data; what it means on memory. No function of the program is walked here.
-/
import Derived.Test.YtaeeipojnfooeaaBld
namespace Go.Proofs.Ytaeeipojnfooeaa
open Go.RowKit
set_option linter.unusedVariables false
set_option linter.unusedSimpArgs false

/-! ## Memory that reads as data, in given blocks -/
mutual
def RepP (w : World) (S : Nat → Prop) : D → Value → Prop
  | .int n, v => v = .int .i64 n
  | .bool b, v => v = .bool b
  | .str s, v => v = .string s
  | .rows sz n cs, v => ∃ a cap, v = .slice a n cap ∧ n ≤ cap ∧ cap ≤ maxLen ∧ cs.length = n * sz ∧ (n = 0 ∨ ∃ b off vs, a = some ⟨b, off, none⟩ ∧ S b ∧ Cells w b off vs ∧ RepPs w S cs vs)
def RepPs (w : World) (S : Nat → Prop) : List D → List Value → Prop
  | [], vs => vs = []
  | d :: cs, vs => ∃ v r, vs = v :: r ∧ RepP w S d v ∧ RepPs w S cs r
end
mutual
theorem RepP.mono {w w' : World} {S S' : Nat → Prop} (hS : ∀ k, S k → S' k) (hw : ∀ k, S k → w'.heap[k]? = w.heap[k]?) : ∀ (d : D) (v : Value), RepP w S d v → RepP w' S' d v
  | .int n, v, h => by unfold RepP at h ⊢; exact h
  | .bool b, v, h => by unfold RepP at h ⊢; exact h
  | .str s, v, h => by unfold RepP at h ⊢; exact h
  | .rows sz n cs, v, h => by
    unfold RepP at h ⊢
    obtain ⟨a, cap, h1, h2, h3, h4, h5⟩ := h
    refine ⟨a, cap, h1, h2, h3, h4, ?_⟩
    rcases h5 with h5 | ⟨b, off, vs, ha, hb, hc, hl⟩
    · exact .inl h5
    · exact .inr ⟨b, off, vs, ha, hS b hb, hc.keep (hw b hb), RepPs.mono hS hw cs vs hl⟩
theorem RepPs.mono {w w' : World} {S S' : Nat → Prop} (hS : ∀ k, S k → S' k) (hw : ∀ k, S k → w'.heap[k]? = w.heap[k]?) : ∀ (cs : List D) (vs : List Value), RepPs w S cs vs → RepPs w' S' cs vs
  | [], _, h => by unfold RepPs at h ⊢; exact h
  | d :: cs, vs, h => by
    unfold RepPs at h ⊢
    obtain ⟨v, r, e, hv, h2⟩ := h
    exact ⟨v, r, e, RepP.mono hS hw d v hv, RepPs.mono hS hw cs r h2⟩
end
mutual
theorem RepP.v {w : World} {S : Nat} : ∀ (d : D) (v : Value), RepP w (· < S) d v → RepV w S d v
  | .int n, v, h => by unfold RepP at h; unfold RepV; exact h
  | .bool b, v, h => by unfold RepP at h; unfold RepV; exact h
  | .str s, v, h => by unfold RepP at h; unfold RepV; exact h
  | .rows sz n cs, v, h => by
    unfold RepP at h
    unfold RepV
    obtain ⟨a, cap, h1, h2, h3, h4, h5⟩ := h
    refine ⟨a, cap, h1, h2, h3, h4, ?_⟩
    rcases h5 with h5 | ⟨b, off, vs, ha, hb, hc, hl⟩
    · exact .inl h5
    · exact .inr ⟨b, off, vs, ha, hb, hc, RepPs.v cs vs hl⟩
theorem RepPs.v {w : World} {S : Nat} : ∀ (d : List D) (v : List Value), RepPs w (· < S) d v → RepVs w S d v
  | [], _, h => by unfold RepPs at h; unfold RepVs; exact h
  | d :: cs, vs, h => by
    unfold RepPs at h
    unfold RepVs
    obtain ⟨v, r, e, hv, h2⟩ := h
    exact ⟨v, r, e, RepP.v d v hv, RepPs.v cs r h2⟩
end
mutual
theorem RepV.p {w : World} {S : Nat} : ∀ (d : D) (v : Value), RepV w S d v → RepP w (· < S) d v
  | .int n, v, h => by unfold RepV at h; unfold RepP; exact h
  | .bool b, v, h => by unfold RepV at h; unfold RepP; exact h
  | .str s, v, h => by unfold RepV at h; unfold RepP; exact h
  | .rows sz n cs, v, h => by
    unfold RepV at h
    unfold RepP
    obtain ⟨a, cap, h1, h2, h3, h4, h5⟩ := h
    refine ⟨a, cap, h1, h2, h3, h4, ?_⟩
    rcases h5 with h5 | ⟨b, off, vs, ha, hb, hc, hl⟩
    · exact .inl h5
    · exact .inr ⟨b, off, vs, ha, hb, hc, RepVs.p cs vs hl⟩
theorem RepVs.p {w : World} {S : Nat} : ∀ (d : List D) (v : List Value), RepVs w S d v → RepPs w (· < S) d v
  | [], _, h => by unfold RepVs at h; unfold RepPs; exact h
  | d :: cs, vs, h => by
    unfold RepVs at h
    unfold RepPs
    obtain ⟨v, r, e, hv, h2⟩ := h
    exact ⟨v, r, e, RepV.p d v hv, RepVs.p cs r h2⟩
end
mutual
theorem OwnV.p {w : World} {S : Nat → Prop} : ∀ (d : D) (v : Value) (fp : List Nat), OwnV w d v fp → (∀ k ∈ fp, S k) → RepP w S d v
  | .int n, v, fp, h, _ => by unfold OwnV at h; unfold RepP; exact h.1
  | .bool b, v, fp, h, _ => by unfold OwnV at h; unfold RepP; exact h.1
  | .str s, v, fp, h, _ => by unfold OwnV at h; unfold RepP; exact h.1
  | .rows sz n cs, v, fp, h, hS => by
    unfold OwnV at h
    unfold RepP
    obtain ⟨a, cap, h1, h2, h3, h4, h5⟩ := h
    refine ⟨a, cap, h1, h2, h3, h4, ?_⟩
    rcases h5 with ⟨h0, _⟩ | ⟨b, off, vs, f, ha, hb, rfl, hz, hc, hl⟩
    · exact .inl h0
    · exact .inr ⟨b, off, vs, ha, hS b (by simp), hc, OwnVs.p cs vs f hl fun k hk => hS k (by simp [hk])⟩
theorem OwnVs.p {w : World} {S : Nat → Prop} : ∀ (cs : List D) (vs : List Value) (fp : List Nat), OwnVs w cs vs fp → (∀ k ∈ fp, S k) → RepPs w S cs vs
  | [], vs, fp, h, _ => by unfold OwnVs at h; unfold RepPs; exact h.1
  | d :: cs, vs, fp, h, hS => by
    unfold OwnVs at h
    unfold RepPs
    obtain ⟨v, r, f1, f2, e1, rfl, hv, h2⟩ := h
    exact ⟨v, r, e1, OwnV.p d v f1 hv fun k hk => hS k (by simp [hk]), OwnVs.p cs r f2 h2 fun k hk => hS k (by simp [hk])⟩
end
theorem RepPs.len {w : World} {S : Nat → Prop} : ∀ (cs : List D) (vs : List Value), RepPs w S cs vs → vs.length = cs.length
  | [], vs, h => by unfold RepPs at h; subst h; rfl
  | d :: cs, vs, h => by
    unfold RepPs at h
    obtain ⟨v, r, rfl, _, h2⟩ := h
    simp [RepPs.len cs r h2]
theorem RepPs.get {w : World} {S : Nat → Prop} : ∀ (cs : List D) (vs : List Value) (i : Nat) (d : D), RepPs w S cs vs → cs[i]? = some d → ∃ v, vs[i]? = some v ∧ RepP w S d v
  | [], vs, i, d, _, hd => by simp at hd
  | c :: cs, vs, 0, d, h, hd => by
    unfold RepPs at h
    obtain ⟨v, r, rfl, h1, _⟩ := h
    simp at hd; subst hd
    exact ⟨v, by simp, h1⟩
  | c :: cs, vs, i + 1, d, h, hd => by
    unfold RepPs at h
    obtain ⟨v, r, rfl, _, h2⟩ := h
    obtain ⟨u, hu, h3⟩ := RepPs.get cs r i d h2 (by simpa using hd)
    exact ⟨u, by simpa using hu, h3⟩
theorem RepPs.take {w : World} {S : Nat → Prop} : ∀ (n : Nat) (cs : List D) (vs : List Value), RepPs w S cs vs → RepPs w S (cs.take n) (vs.take n)
  | 0, cs, vs, _ => by simp; unfold RepPs; rfl
  | n + 1, [], vs, h => by unfold RepPs at h; subst h; simp; unfold RepPs; rfl
  | n + 1, d :: cs, vs, h => by
    unfold RepPs at h
    obtain ⟨v, r, rfl, h1, h2⟩ := h
    simp only [List.take_succ_cons]
    unfold RepPs
    exact ⟨_, _, rfl, h1, RepPs.take n cs r h2⟩
theorem RepPs.drop {w : World} {S : Nat → Prop} : ∀ (n : Nat) (cs : List D) (vs : List Value), RepPs w S cs vs → RepPs w S (cs.drop n) (vs.drop n)
  | 0, cs, vs, h => by simpa using h
  | n + 1, [], vs, h => by unfold RepPs at h; subst h; simp; unfold RepPs; rfl
  | n + 1, d :: cs, vs, h => by
    unfold RepPs at h
    obtain ⟨v, r, rfl, h1, h2⟩ := h
    simpa using RepPs.drop n cs r h2
theorem RepPs.append {w : World} {S : Nat → Prop} : ∀ (cs ds : List D) (vs us : List Value), RepPs w S cs vs → RepPs w S ds us → RepPs w S (cs ++ ds) (vs ++ us)
  | [], ds, vs, us, h, h' => by unfold RepPs at h; subst h; exact h'
  | d :: cs, ds, vs, us, h, h' => by
    unfold RepPs at h
    obtain ⟨v, r, rfl, h1, h2⟩ := h
    rw [List.cons_append, List.cons_append]; unfold RepPs
    exact ⟨_, _, rfl, h1, RepPs.append cs ds r us h2 h'⟩
/-- a slice that reads as rows: its cells -/
theorem RepP.cell {w : World} {S : Nat → Prop} {sz n : Nat} {cs : List D} {a : Option Addr} {len cap k : Nat} (h : RepP w S (.rows sz n cs) (.slice a len cap)) (hk : k < n) :
    ∃ b off vs, a = some ⟨b, off, none⟩ ∧ S b ∧ Cells w b off vs ∧ RepPs w S cs vs ∧ vs.length = n * sz ∧ len = n := by
  unfold RepP at h
  obtain ⟨a', cap', e, h2, h3, h4, h5⟩ := h
  injection e with e1 e2 e3
  subst e1
  rcases h5 with h5 | ⟨b, off, vs, ha, hb, hc, hl⟩
  · omega
  · exact ⟨b, off, vs, ha, hb, hc, hl, hl.len.trans h4, e2⟩
theorem RepP.shape {w : World} {S : Nat → Prop} {sz n : Nat} {cs : List D} {v : Value} (h : RepP w S (.rows sz n cs) v) : ∃ a cap, v = .slice a n cap ∧ n ≤ cap ∧ cap ≤ maxLen ∧ cs.length = n * sz := by
  unfold RepP at h
  obtain ⟨a', cap', e, h2, h3, h4, h5⟩ := h
  exact ⟨a', cap', e, h2, h3, h4⟩

/-! ## The picture -/
/-- What a temporary or a cell holds. -/
inductive AV where
  | i (n : Int)
  | b (x : Bool)
  | s (x : ByteArray)
  | y (n : Int)
  | nl (sz : Nat)
  | x (v : Value)
  | sl (o : Nat)
  | sp (o : Nat) (d : D)
  | br (d : D)
  | bx (b off : Nat)
  | eb (d : D) (k off : Nat)
  | eo (o k off : Nat)
  | fn (f : FuncId) (cap : List AV)
  | ag (cs : List AV)
  | tu (vs : List AV)
  | un
/-- What is known of an owned slice: how it reads, the type of its row where it may be appended to, whether all that it reaches is its own. -/
structure OwnI where
  d : D
  ap : Option TypeId
  deep : Bool
/-- The picture: temporaries, boxes, owned slices, the next free number. -/
structure AS where
  nt : Nat
  tm : List (Nat × AV)
  bx : List (Nat × List AV)
  ow : List (Nat × Option OwnI)
  nx : Nat
def look {α : Type} : List (Nat × α) → Nat → Option α
  | [], _ => none
  | (k, v) :: r, i => if i = k then some v else look r i
def AS.owf (s : AS) (o : Nat) : Option OwnI := (look s.ow o).bind id
/-- The ghost: for each number its blocks, its value; a box's block. -/
structure Gh where
  B : Nat → List Nat
  root : Nat → Value
  β : Nat → Nat

mutual
def RV (base : Nat) (G : Gh) (w : World) (owf : Nat → Option OwnI) (nx : Nat) : AV → Value → Prop
  | .i n, v => v = .int .i64 n
  | .b x, v => v = .bool x
  | .s x, v => v = .string x
  | .y n, v => v = .int .u8 n
  | .nl _, v => v = .slice none 0 0
  | .x x, v => v = x ∧ x.oneCell' = true
  | .sl o, v => o < nx ∧ v.oneCell' = true ∧ ∀ I, owf o = some I → v = G.root o
  | .sp o d, v => o < nx ∧ v.oneCell' = true ∧ ∀ I, owf o = some I → RepP w (fun k => k < base ∨ k ∈ G.B o) d v
  | .br d, v => RepP w (· < base) d v
  | .bx b off, v => b < nx ∧ v = .pointer (some ⟨G.β b, off, none⟩)
  | .eb d k off, v => ∃ sz n cs a o0 len cap, d = .rows sz n cs ∧ v = .pointer (some ⟨a, o0 + k * sz + off, none⟩) ∧ RepP w (· < base) d (.slice (some ⟨a, o0, none⟩) len cap) ∧ k < n
  | .eo o k off, v => o < nx ∧ v.oneCell' = true ∧ ∀ I, owf o = some I → ∃ sz n cs a o0 len cap, I.d = .rows sz n cs ∧ G.root o = .slice (some ⟨a, o0, none⟩) len cap ∧ v = .pointer (some ⟨a, o0 + k * sz + off, none⟩) ∧ k < n
  | .fn f cap, v => ∃ us, v = .func (.func f) #[] us.toArray ∧ RVs base G w owf nx cap us
  | .ag cs, v => ∃ us, v = .agg us.toArray ∧ RVs base G w owf nx cs us
  | .tu vs, v => ∃ us, v = .tuple us.toArray ∧ RVs base G w owf nx vs us
  | .un, _ => True
def RVs (base : Nat) (G : Gh) (w : World) (owf : Nat → Option OwnI) (nx : Nat) : List AV → List Value → Prop
  | [], us => us = []
  | a :: l, us => ∃ u r, us = u :: r ∧ RV base G w owf nx a u ∧ RVs base G w owf nx l r
end

/-- An owned slice, in memory. -/
def Res (base : Nat) (M : Nat → Prop) (w : World) (B : List Nat) (v : Value) (I : OwnI) : Prop :=
  (∀ k ∈ B, (base ≤ k ∨ M k) ∧ k < w.heap.size) ∧ RepP w (fun k => k < base ∨ k ∈ B) I.d v ∧ (I.deep = true → OwnV w I.d v B ∧ B.Nodup) ∧
  (∀ T, I.ap = some T → ∃ sz n cs vs, I.d = .rows sz n cs ∧ w.ownsRow base T sz v n vs ∧ RepPs w (fun k => k < base ∨ (k ∈ B ∧ k ∉ rowB v)) cs vs ∧ (∀ k ∈ rowB v, k ∈ B) ∧
     (∀ u ∈ vs, u.oneCell' = true) ∧ (I.deep = true → ∃ fp, OwnVs w cs vs fp ∧ fp.Nodup ∧ ∀ k ∈ fp, k ∈ B ∧ k ∉ rowB v))

/-- The world at the beginning, and the blocks that came with it as its own. -/
structure World0 extends World where
  mv : Nat → Prop
/-- The picture holds of an activation that began in w0. -/
structure Rel (w0 : World0) (G : Gh) (s : AS) (a : Act) (w : World) : Prop where
  nt : a.tmps.size = s.nt
  df : a.defers = []
  tm : ∀ t v, look s.tm t = some v → ∃ u, a.tmps[t]? = some u ∧ RV w0.heap.size G w s.owf s.nx v u
  bx : ∀ b cs, look s.bx b = some cs → b < s.nx ∧ w0.heap.size ≤ G.β b ∧ ∃ us T, Blk w (G.β b) T us.toArray ∧ RVs w0.heap.size G w s.owf s.nx cs us
  inj : ∀ b b' cs cs', look s.bx b = some cs → look s.bx b' = some cs' → G.β b = G.β b' → b = b'
  own : ∀ o I, s.owf o = some I → o < s.nx ∧ Res w0.heap.size w0.mv w (G.B o) (G.root o) I ∧ ∀ b cs, look s.bx b = some cs → G.β b ∉ G.B o
  dis : ∀ o o' I I', s.owf o = some I → s.owf o' = some I' → o ≠ o' → ∀ k ∈ G.B o, k ∉ G.B o'
  bel : Below w0.heap.size w0.toWorld w

/-! ## What holds on -/
mutual
theorem RV.turn {base nx nx' : Nat} {G G' : Gh} {w w' : World} {owf owf' : Nat → Option OwnI} (hnx : nx ≤ nx') (hb : ∀ k, k < base → w'.heap[k]? = w.heap[k]?) (hβ : ∀ b, b < nx → G'.β b = G.β b)
    (ho : ∀ o I, o < nx → owf' o = some I → owf o = some I ∧ G'.root o = G.root o ∧ G'.B o = G.B o ∧ ∀ k ∈ G.B o, w'.heap[k]? = w.heap[k]?) : ∀ (v : AV) (u : Value), RV base G w owf nx v u → RV base G' w' owf' nx' v u
  | .i n, u, h => by unfold RV at h ⊢; exact h
  | .b n, u, h => by unfold RV at h ⊢; exact h
  | .s n, u, h => by unfold RV at h ⊢; exact h
  | .y n, u, h => by unfold RV at h ⊢; exact h
  | .nl _, u, h => by unfold RV at h ⊢; exact h
  | .x _, u, h => by unfold RV at h ⊢; exact h
  | .sl o, u, h => by
    unfold RV at h ⊢
    refine ⟨by omega, h.2.1, fun I hI => ?_⟩
    obtain ⟨h1, h2, _⟩ := ho o I h.1 hI
    rw [h2]; exact h.2.2 I h1
  | .sp o d, u, h => by
    unfold RV at h ⊢
    refine ⟨by omega, h.2.1, fun I hI => ?_⟩
    obtain ⟨h1, _, h3, h4⟩ := ho o I h.1 hI
    rw [h3]
    exact RepP.mono (fun _ hk => hk) (fun k hk => hk.elim (hb k) (h4 k)) d u (h.2.2 I h1)
  | .br d, u, h => by unfold RV at h ⊢; exact RepP.mono (fun _ hk => hk) hb d u h
  | .bx b off, u, h => by unfold RV at h ⊢; exact ⟨by omega, by rw [hβ b h.1]; exact h.2⟩
  | .eb d k off, u, h => by
    unfold RV at h ⊢
    obtain ⟨sz, n, cs, a, o0, len, cap, h1, h2, h3, h4⟩ := h
    exact ⟨sz, n, cs, a, o0, len, cap, h1, h2, RepP.mono (fun _ hk => hk) hb _ _ h3, h4⟩
  | .eo o k off, u, h => by
    unfold RV at h ⊢
    refine ⟨by omega, h.2.1, fun I hI => ?_⟩
    obtain ⟨h1, h2, _⟩ := ho o I h.1 hI
    rw [h2]; exact h.2.2 I h1
  | .fn f cap, u, h => by
    unfold RV at h ⊢
    obtain ⟨us, e, h⟩ := h
    exact ⟨us, e, RVs.turn hnx hb hβ ho cap us h⟩
  | .ag cs, u, h => by
    unfold RV at h ⊢
    obtain ⟨us, e, h⟩ := h
    exact ⟨us, e, RVs.turn hnx hb hβ ho cs us h⟩
  | .tu cs, u, h => by
    unfold RV at h ⊢
    obtain ⟨us, e, h⟩ := h
    exact ⟨us, e, RVs.turn hnx hb hβ ho cs us h⟩
  | .un, u, h => by unfold RV; trivial
theorem RVs.turn {base nx nx' : Nat} {G G' : Gh} {w w' : World} {owf owf' : Nat → Option OwnI} (hnx : nx ≤ nx') (hb : ∀ k, k < base → w'.heap[k]? = w.heap[k]?) (hβ : ∀ b, b < nx → G'.β b = G.β b)
    (ho : ∀ o I, o < nx → owf' o = some I → owf o = some I ∧ G'.root o = G.root o ∧ G'.B o = G.B o ∧ ∀ k ∈ G.B o, w'.heap[k]? = w.heap[k]?) : ∀ (v : List AV) (u : List Value), RVs base G w owf nx v u → RVs base G' w' owf' nx' v u
  | [], u, h => by unfold RVs at h ⊢; exact h
  | a :: l, u, h => by
    unfold RVs at h ⊢
    obtain ⟨x, r, e, h1, h2⟩ := h
    exact ⟨x, r, e, RV.turn hnx hb hβ ho a x h1, RVs.turn hnx hb hβ ho l r h2⟩
end
theorem RVs.len {base nx : Nat} {G : Gh} {w : World} {owf : Nat → Option OwnI} : ∀ (v : List AV) (u : List Value), RVs base G w owf nx v u → u.length = v.length
  | [], u, h => by unfold RVs at h; subst h; rfl
  | a :: l, u, h => by
    unfold RVs at h
    obtain ⟨x, r, rfl, _, h2⟩ := h
    simp [RVs.len l r h2]
theorem RVs.get {base nx : Nat} {G : Gh} {w : World} {owf : Nat → Option OwnI} : ∀ (v : List AV) (u : List Value) (i : Nat) (a : AV), RVs base G w owf nx v u → v[i]? = some a → ∃ x, u[i]? = some x ∧ RV base G w owf nx a x
  | [], u, i, a, _, hd => by simp at hd
  | c :: cs, u, 0, a, h, hd => by
    unfold RVs at h
    obtain ⟨v, r, rfl, h1, _⟩ := h
    simp at hd; subst hd
    exact ⟨v, by simp, h1⟩
  | c :: cs, u, i + 1, a, h, hd => by
    unfold RVs at h
    obtain ⟨v, r, rfl, _, h2⟩ := h
    obtain ⟨x, hx, h3⟩ := RVs.get cs r i a h2 (by simpa using hd)
    exact ⟨x, by simpa using hx, h3⟩
theorem RVs.take {base nx : Nat} {G : Gh} {w : World} {owf : Nat → Option OwnI} : ∀ (n : Nat) (v : List AV) (u : List Value), RVs base G w owf nx v u → RVs base G w owf nx (v.take n) (u.take n)
  | 0, v, u, _ => by simp; unfold RVs; rfl
  | n + 1, [], u, h => by unfold RVs at h; subst h; simp; unfold RVs; rfl
  | n + 1, c :: v, u, h => by
    unfold RVs at h
    obtain ⟨x, r, rfl, h1, h2⟩ := h
    simp only [List.take_succ_cons]
    unfold RVs
    exact ⟨_, _, rfl, h1, RVs.take n v r h2⟩
theorem RVs.drop {base nx : Nat} {G : Gh} {w : World} {owf : Nat → Option OwnI} : ∀ (n : Nat) (v : List AV) (u : List Value), RVs base G w owf nx v u → RVs base G w owf nx (v.drop n) (u.drop n)
  | 0, v, u, h => by simpa using h
  | n + 1, [], u, h => by unfold RVs at h; subst h; simp; unfold RVs; rfl
  | n + 1, c :: v, u, h => by
    unfold RVs at h
    obtain ⟨x, r, rfl, h1, h2⟩ := h
    simpa using RVs.drop n v r h2
theorem RVs.append {base nx : Nat} {G : Gh} {w : World} {owf : Nat → Option OwnI} : ∀ (v v' : List AV) (u u' : List Value), RVs base G w owf nx v u → RVs base G w owf nx v' u' → RVs base G w owf nx (v ++ v') (u ++ u')
  | [], v', u, u', h, h' => by unfold RVs at h; subst h; exact h'
  | c :: v, v', u, u', h, h' => by
    unfold RVs at h
    obtain ⟨x, r, rfl, h1, h2⟩ := h
    rw [List.cons_append, List.cons_append]; unfold RVs
    exact ⟨_, _, rfl, h1, RVs.append v v' r u' h2 h'⟩

/-- A value goes into a temporary. -/
def AS.pt (s : AS) (d : Option Tmp) (v : AV) : AS :=
  match d with
  | none => s
  | some d => if d < s.nt then { s with tm := (d, v) :: s.tm } else s
theorem Rel.pt {w0 : World0} {G : Gh} {s : AS} {a : Act} {w : World} (h : Rel w0 G s a w) (d : Option Tmp) {v : AV} {u : Value} (hv : RV w0.heap.size G w s.owf s.nx v u) : Rel w0 G (s.pt d v) (a.put d u) w := by
  cases d with
  | none => exact h
  | some d =>
    by_cases hlt : d < s.nt
    · have e1 : s.pt (some d) v = { s with tm := (d, v) :: s.tm } := by simp only [AS.pt, if_pos hlt]
      rw [e1]
      refine ⟨by simp [Act.put, h.nt], by simp [Act.put, h.df], fun t v' ht => ?_, h.bx, h.inj, h.own, h.dis, h.bel⟩
      simp only at ht
      unfold look at ht
      split at ht
      · rename_i e
        subst e
        injection ht with ht
        subst ht
        exact ⟨u, by simp [Act.put, h.nt, hlt], hv⟩
      · rename_i e
        obtain ⟨x, hx, h2⟩ := h.tm t v' ht
        exact ⟨x, by rw [← hx]; simp [Act.put, Array.getElem?_setIfInBounds_ne (Ne.symm e)], h2⟩
    · have e1 : s.pt (some d) v = s := by simp only [AS.pt, if_neg hlt]
      have e2 : a.put (some d) u = a := by
        simp only [Act.put]
        have : a.tmps.size ≤ d := by rw [h.nt]; exact Nat.not_lt.1 hlt
        rw [Array.setIfInBounds_eq_of_size_le this]
      rw [e1, e2]; exact h

/-- What an operand is. -/
def cav : Value → AV
  | .int .i64 n => .i n
  | .int .u8 n => .y n
  | .bool b => .b b
  | .string s => .s s
  | .slice none 0 0 => .nl 0
  | v => if v.oneCell' then .x v else .un
def AS.ev (s : AS) : Operand → AV
  | .tmp t => (look s.tm t).getD .un
  | .const v => cav v
  | .func f => .fn f []
  | .global _ => .un
theorem cav_ok {base nx : Nat} {G : Gh} {w : World} {owf : Nat → Option OwnI} (v : Value) : RV base G w owf nx (cav v) v := by
  unfold cav
  split
  all_goals first
    | (split
       · rename_i h; unfold RV; exact ⟨rfl, h⟩
       · unfold RV; trivial)
    | (unfold RV; rfl)
theorem Rel.ev {w0 : World0} {G : Gh} {s : AS} {a : Act} {w : World} (h : Rel w0 G s a w) (x : Operand) : RV w0.heap.size G w s.owf s.nx (s.ev x) (a.eval x) := by
  cases x with
  | tmp t =>
    unfold AS.ev
    simp only
    cases hl : look s.tm t with
    | none => simp only [Option.getD_none]; unfold RV; trivial
    | some v =>
      obtain ⟨u, hu, hv⟩ := h.tm t v hl
      simpa [Act.eval, Array.getD_eq_getD_getElem?, hu] using hv
  | const v => exact cav_ok v
  | func f => unfold AS.ev; simp only; unfold RV; exact ⟨[], rfl, by unfold RVs; rfl⟩
  | global g => unfold AS.ev; simp only; unfold RV; trivial
end Go.Proofs.Ytaeeipojnfooeaa
