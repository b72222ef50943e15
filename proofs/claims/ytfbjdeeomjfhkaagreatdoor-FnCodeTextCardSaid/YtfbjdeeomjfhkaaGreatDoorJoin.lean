/-
  Texts joined, of the reference: the walk of the code itself.
-/
import Derived.Test.YtfbjdeeomjfhkaaGreatDoorLp
import Derived.Lib.AppendStr
import Derived.Laws.IdiomStrings
namespace Go.Proofs.YtfbjdeeomjfhkaaGreatDoor
open Go.RowKit
set_option linter.unusedVariables false
set_option linter.unusedSimpArgs false
/-- What the first k texts give. -/
def jn (xs : List ByteArray) (sep : ByteArray) : Nat → List UInt8
  | 0 => []
  | k + 1 => if k = 0 then xs[0]!.data.toList else jn xs sep k ++ (sep.data.toList ++ xs[k]!.data.toList)
def bcL (l : List UInt8) : List Value := l.map fun b => Value.int .u8 b.toNat
theorem fr_str (w : World) (B : Nat) (s : ByteArray) : Fresh w B (.str s) (.string s) := ⟨[], by unfold OwnV; exact ⟨rfl, rfl⟩, by simp, by simp⟩
theorem bcL_app (l r : List UInt8) : bcL (l ++ r) = bcL l ++ bcL r := by simp [bcL]
theorem bcL_str (s : ByteArray) : bcL s.data.toList = Lib.strCells s := rfl
theorem own_base {w : World} {B : Nat} {T : TypeId} {sz n : Nat} {v : Value} {vs : List Value} (h : w.ownsRow B T sz v n vs) {k : Nat} (hk : v.ownBlock = some k) : B ≤ k := by
  rcases h.2 with ⟨rfl, _⟩ | ⟨g, cap, cur, rfl, hg, _⟩
  · cases hk
  · simp only [Value.ownBlock, Option.some.injEq] at hk; omega
theorem rowB_str {P : Program} {w : World} {B : Nat} {src dst e : TypeId} {v : Value} {l : List UInt8} (hs : P.underlying src = some (.slice e)) (he : P.underlying e = some (.int .u8)) (hd : P.underlying dst = some .string) (h : w.ownsRow B e 1 v l.length (bcL l)) : (convert src dst v).run P w = .ok (.string ⟨l.toArray⟩) w := by
  rcases h.2 with ⟨rfl, hn⟩ | ⟨g, cap, cur, rfl, hg, hc, h1, h2, h3, h4⟩
  · obtain rfl : l = [] := List.eq_nil_of_length_eq_zero hn
    exact run_convert_bytes_nil w src e hs he 0 0 dst hd
  · refine run_convert_bytes_back w src dst e ⟨g, 0, none⟩ cap l hs he hd (fun j hj => ?_)
    rw [add_addr, Nat.zero_add, cell_of_row w g j cur e (0, 0) hc]
    have h5 : (cur.toList.take (l.length * 1))[j]? = (bcL l)[j]? := by rw [h4]
    rw [List.getElem?_take_of_lt (by omega)] at h5
    rw [← Array.getElem?_toList, h5, bcL, List.getElem?_map, List.getElem?_eq_getElem hj]
    rfl
set_option maxRecDepth 100000 in
set_option maxHeartbeats 4000000 in
theorem spec_Join (xs : List ByteArray) (sep : ByteArray) (v : Value) (w : World) (hv : RepV w w.heap.size (strsD xs) v) (hn : xs.length ≤ 1048576) (hlen : ∀ k, k ≤ xs.length → (jn xs sep k).length ≤ 1000000000) :
    Calls Tryz.prog 48 #[v, .string sep] w fun e w' => e = .returned (.string ⟨(jn xs sep xs.length).toArray⟩) ∧ Below w.heap.size w w' := by
  obtain ⟨a, cap, rfl, hl, hm, hc⟩ := hv.strs
  obtain ⟨i, hi, hz0, hz1, hz2⟩ := info_parts (P := Tryz.prog) (e := 5) (z := .int .u8 0) (size := 1) (bytes := 1) (by kernel_rfl)
  go_enter Tryz.func48, Tryz.ntmps48
  go_wp2
  go_loopw [5, 6] (fun out i wr => ∃ k : Nat, k ≤ xs.length ∧ i = .int .i64 k ∧ (∃ l, Hid (l = jn xs sep k) ∧ wr.ownsRow w.heap.size 5 1 out l.length (bcL l)) ∧ Below w.heap.size w wr) (fun _ i _ => xs.length - (intOf i).toNat)
  case atStart =>
    refine ⟨0, Nat.zero_le _, rfl, ⟨[], rfl, ?_⟩, ?_⟩
    · exact ⟨rfl, .inr ⟨w.heap.size, 0, #[], rfl, Nat.le_refl _, heap_alloc_new w _, Nat.le_refl _, Nat.zero_le _, rfl, rfl⟩⟩
    · exact (Below.refl _ _).alloc (Nat.le_refl _) _
  case round =>
    obtain ⟨k, hk, rfl, ⟨l, hl, hown⟩, hb⟩ := hrel
    by_cases hlt : k < xs.length
    · obtain ⟨b, off, rfl, hbS, hcell⟩ := hc k hlt
      clear hc
      have hcr : wr.cell? ⟨b, off + k, none⟩ = some (.string xs[k]) := (hb.cell (p := ⟨b, off + k, none⟩) (World.block_lt_of_cell? w _ hcell)).trans hcell
      have HC0 := Lib.hid hcell
      clear hcell
      have hi1 : (k : Int) < (xs.length : Int) := by omega
      have hbs := hb.size
      have hlk := hlen k hk
      rw [← hl.out] at hlk
      by_cases hk0 : k = 0
      · have hki : ¬ (0 : Int) < (k : Int) := by omega
        have hj : jn xs sep (k + 1) = l ++ xs[k].data.toList := by subst hk0; rw [jn, if_pos rfl, hl.out, jn, getElem!_pos xs 0 hlt]; rfl
        have hjl := hlen (k + 1) (by omega)
        rw [hj, List.length_append] at hjl
        have HJ := Lib.hid hj
        clear hj hk0
        go_wp2_with (at_builtin; refine Lib.wpList_append_own_string _ rfl _ _ 22 9 rfl w.heap.size 5 i Tryz.underlying22 Tryz.underlying9 hi hz0 hz1 hz2 _ _ _ rfl hown xs[k] rfl ?c3 ?c4 ?c5 ?_)
        case c3 => have hsz : xs[k].size = xs[k].data.toList.length := (by simp); rw [hsz]; unfold maxLen; omega
        case c4 => have hsz : xs[k].size = xs[k].data.toList.length := (by simp); rw [hsz]; omega
        intro v1 w1 hown1 hg1 _
        have hb1 : Below w.heap.size w w1 := hb.grown hg1 hbs (fun q hq => own_base hown hq)
        have H1 := Lib.hid hown1
        have HZ := Lib.hid (show xs[k].size = xs[k].data.toList.length by simp)
        clear hown1 hjl hlk hlen hown hg1 hcr hbs
        go_wp2
        go_roundw
        case rel => exact ⟨k + 1, by omega, by go_num, ⟨_, Lib.hid HJ.out.symm, by rw [List.length_append, ← HZ.out, bcL_app, bcL_str]; exact H1.out⟩, hb1⟩
        case measure => simp [intOf]; omega
      · have hki : (0 : Int) < (k : Int) := by omega
        have hj : jn xs sep (k + 1) = (l ++ sep.data.toList) ++ xs[k].data.toList := by rw [jn, if_neg hk0, hl.out, List.append_assoc, getElem!_pos xs k hlt]
        have hjl := hlen (k + 1) (by omega)
        rw [hj, List.length_append, List.length_append] at hjl
        have HJ := Lib.hid hj
        clear hj hk0
        go_wp2_with (at_builtin; refine Lib.wpList_append_own_string _ rfl _ _ 22 9 rfl w.heap.size 5 i Tryz.underlying22 Tryz.underlying9 hi hz0 hz1 hz2 _ _ _ rfl hown sep rfl ?c3 ?c4 ?c5 ?_)
        case c3 => have hss : sep.size = sep.data.toList.length := (by simp); rw [hss]; unfold maxLen; omega
        case c4 => have hss : sep.size = sep.data.toList.length := (by simp); rw [hss]; omega
        intro v1 w1 hown1 hg1 _
        have hb1 : Below w.heap.size w w1 := hb.grown hg1 hbs (fun q hq => own_base hown hq)
        have hbs1 := hb1.size
        have hcr1 : w1.cell? ⟨b, off + k, none⟩ = some (.string xs[k]) := (hb1.cell (p := ⟨b, off + k, none⟩) (World.block_lt_of_cell? w _ HC0.out)).trans HC0.out
        clear hcr hown hg1 hb
        go_wp2_with (at_builtin; refine Lib.wpList_append_own_string _ rfl _ _ 22 9 rfl w.heap.size 5 i Tryz.underlying22 Tryz.underlying9 hi hz0 hz1 hz2 _ _ _ rfl hown1 xs[k] rfl ?c6 ?c7 ?c8 ?_)
        case c6 => have hsz : xs[k].size = xs[k].data.toList.length := (by simp); have hss : sep.size = sep.data.toList.length := (by simp); rw [hsz, hss]; unfold maxLen; omega
        case c7 => have hsz : xs[k].size = xs[k].data.toList.length := (by simp); have hss : sep.size = sep.data.toList.length := (by simp); rw [hsz, hss]; omega
        case c8 => exact hbs1
        intro v2 w2 hown2 hg2 _
        have hb2 : Below w.heap.size w w2 := hb1.grown hg2 hbs1 (fun q hq => own_base hown1 hq)
        have H1 := Lib.hid hown2
        have HZ := Lib.hid (show xs[k].size = xs[k].data.toList.length by simp)
        have HS := Lib.hid (show sep.size = sep.data.toList.length by simp)
        clear hown1 hown2 hjl hlk hlen hg2 hcr1 hbs hbs1
        go_wp2
        go_roundw
        case rel => exact ⟨k + 1, by omega, by go_num, ⟨_, Lib.hid HJ.out.symm, by rw [List.length_append, List.length_append, ← HZ.out, ← HS.out, bcL_app, bcL_app, bcL_str, bcL_str, List.append_assoc]; exact H1.out⟩, hb2⟩
        case measure => simp [intOf]; omega
    · obtain rfl : k = xs.length := by omega
      have hi1 : ¬ ((xs.length : Nat) : Int) < ((xs.length : Nat) : Int) := by omega
      clear hc
      have hcv := rowB_str (P := Tryz.prog) (src := 22) (dst := 9) (by kernel_rfl) (by kernel_rfl) (by kernel_rfl) hown
      go_wp2
      go_ret
      exact ⟨by rw [← hl.out]; rfl, hb⟩
end Go.Proofs.YtfbjdeeomjfhkaaGreatDoor
