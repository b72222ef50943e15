/-
  Texts joined, of the reference: the walk of the code itself.
-/
import Derived.Test.YtlmiakgannpocaaDoorLp
import Derived.Lib.AppendStr
import Derived.Laws.IdiomStrings
namespace Go.Proofs.YtlmiakgannpocaaDoor
open Go.RowKit
set_option linter.unusedVariables false
set_option linter.unusedSimpArgs false
/-- What the first k texts give. -/
def jn (xs : List ByteArray) (sep : ByteArray) : Nat → List UInt8
  | 0 => []
  | k + 1 => if k = 0 then xs[0]!.data.toList else jn xs sep k ++ (sep.data.toList ++ xs[k]!.data.toList)
def bcL (l : List UInt8) : List Value := l.map fun b => Value.int .u8 b.toNat
theorem fr_str (w : World) (B : Nat) (s : ByteArray) : Fresh w B (.str s) (.string s) := ⟨[], by unfold OwnV; exact ⟨rfl, rfl⟩, by simp, by simp⟩
theorem bcL_app (l r : List UInt8) : bcL (l ++ r) = bcL l ++ bcL r := by simp [bcL]
theorem bcL_str (s : ByteArray) : bcL s.data.toList = Lib.strCells s := rfl
theorem own_base {w : World} {B : Nat} {T : TypeId} {sz n : Nat} {v : Value} {vs : List Value} (h : w.ownsRow B T sz v n vs) {k : Nat} (hk : v.ownBlock = some k) : B ≤ k := by
  rcases h.2 with ⟨rfl, _⟩ | ⟨g, cap, cur, rfl, hg, _⟩
  · cases hk
  · simp only [Value.ownBlock, Option.some.injEq] at hk; omega
theorem rowB_str {P : Program} {w : World} {B : Nat} {src dst e : TypeId} {v : Value} {l : List UInt8} (hs : P.underlying src = some (.slice e)) (he : P.underlying e = some (.int .u8)) (hd : P.underlying dst = some .string) (h : w.ownsRow B e 1 v l.length (bcL l)) : (convert src dst v).run P w = .ok (.string ⟨l.toArray⟩) w := by
  rcases h.2 with ⟨rfl, hn⟩ | ⟨g, cap, cur, rfl, hg, hc, h1, h2, h3, h4⟩
  · obtain rfl : l = [] := List.eq_nil_of_length_eq_zero hn
    exact run_convert_bytes_nil w src e hs he 0 0 dst hd
  · refine run_convert_bytes_back w src dst e ⟨g, 0, none⟩ cap l hs he hd (fun j hj => ?_)
    rw [add_addr, Nat.zero_add, cell_of_row w g j cur e (0, 0) hc]
    have h5 : (cur.toList.take (l.length * 1))[j]? = (bcL l)[j]? := by rw [h4]
    rw [List.getElem?_take_of_lt (by omega)] at h5
    rw [← Array.getElem?_toList, h5, bcL, List.getElem?_map, List.getElem?_eq_getElem hj]
    rfl
end Go.Proofs.YtlmiakgannpocaaDoor
