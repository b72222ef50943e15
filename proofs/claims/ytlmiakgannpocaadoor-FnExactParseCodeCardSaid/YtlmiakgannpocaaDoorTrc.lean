/-
  TraceText of both sides.
-/
import Derived.Test.YtlmiakgannpocaaDoorJoin
import Derived.Test.YtlmiakgannpocaaDoorJoi
import Derived.Test.YtlmiakgannpocaaDoorLp
import Derived.Test.YtlmiakgannpocaaDoorTyC
import Derived.Lib.Join
namespace Go.Proofs.YtlmiakgannpocaaDoor
open Go.RowKit
set_option linter.unusedVariables false
set_option linter.unusedSimpArgs false
set_option maxRecDepth 20000
theorem jn_ext (xs : List ByteArray) (sep : ByteArray) : ∀ k, k ≤ xs.length → jn xs sep k = Lib.join ((xs.take k).map (·.data.toList)) sep.data.toList
  | 0, _ => rfl
  | k + 1, h => by
    have hk : k < xs.length := h
    rw [jn, jn_ext xs sep k (by omega), List.take_add_one, List.getElem?_eq_getElem hk, getElem!_pos xs k hk]
    by_cases h0 : k = 0
    · subst h0; rw [if_pos rfl, getElem!_pos xs 0 hk]; simp [Lib.join_one]
    · rw [if_neg h0]
      obtain ⟨x, r, hx⟩ : ∃ x r, xs.take k = x :: r := by
        cases hc : xs.take k with
        | nil => have := congrArg List.length hc; rw [List.length_take, Nat.min_eq_left (by omega)] at this; exact absurd this h0
        | cons x r => exact ⟨x, r, rfl⟩
      simp only [hx, List.map_cons, List.map_append, List.cons_append, Lib.join_cons, Lib.joinTail, Option.toList, List.map_nil, List.flatten_append, List.flatten_cons, List.flatten_nil, List.append_nil, List.append_assoc]
def joinB (xs : List ByteArray) (sep : ByteArray) : ByteArray := ⟨(jn xs sep xs.length).toArray⟩
theorem joinB_eq (xs : List ByteArray) (sep : ByteArray) : joinB xs sep = ⟨(Lib.join (xs.map (·.data.toList)) sep.data.toList).toArray⟩ := by
  rw [joinB, jn_ext xs sep _ (Nat.le_refl _), List.take_length]
theorem rpd_strstr {w : World} {d : D} {s : ByteArray} {us : List Value} (h : RepPDs w [.one d, .one (.str s)] us) : ∃ v, us = [v, .string s] ∧ RepV w w.heap.size d v := by
  obtain ⟨v, r, rfl, h1, h2⟩ := rpd_c h
  obtain ⟨v2, r2, rfl, h3, h4⟩ := rpd_c h2
  obtain rfl := rpd_n h4
  have h5 := rpd_ione h3
  unfold RepV at h5
  exact ⟨v, by rw [h5], rpd_ione h1⟩
theorem jn_len (xs : List ByteArray) (sep : ByteArray) (m : Nat) (hx : ∀ k, k < xs.length → xs[k]!.data.toList.length ≤ m) : ∀ k, k ≤ xs.length → (jn xs sep k).length ≤ k * (m + sep.data.toList.length)
  | 0, _ => Nat.zero_le _
  | k + 1, h => by
    have h1 := hx k h
    rw [jn, Nat.succ_mul]
    split
    · rename_i h0; subst h0; omega
    · have := jn_len xs sep m hx k (by omega)
      simp only [List.length_append]; omega
def rulesL : List ByteArray := [⟨#[110, 111, 110, 101]⟩, ⟨#[111, 112]⟩, ⟨#[105, 102]⟩, ⟨#[97, 112, 112]⟩, ⟨#[114, 101, 99]⟩, ⟨#[108, 101, 116]⟩, ⟨#[115, 112, 108, 105, 99, 101]⟩, ⟨#[114, 117, 110]⟩, ⟨#[108, 105, 102, 116]⟩]
def ruleB (n : Int) : ByteArray := if n = 0 then ⟨#[110, 111, 110, 101]⟩ else if n = 1 then ⟨#[111, 112]⟩ else if n = 2 then ⟨#[105, 102]⟩ else if n = 3 then ⟨#[97, 112, 112]⟩ else if n = 4 then ⟨#[114, 101, 99]⟩ else if n = 5 then ⟨#[108, 101, 116]⟩ else if n = 6 then ⟨#[115, 112, 108, 105, 99, 101]⟩ else if n = 7 then ⟨#[114, 117, 110]⟩ else if n = 8 then ⟨#[108, 105, 102, 116]⟩ else ⟨#[63]⟩
theorem ruleB_len (n : Int) : (ruleB n).data.toList.length ≤ 6 := by
  unfold ruleB
  repeat' split
  all_goals decide
theorem ruleB_out (n : Int) (h : ¬ (0 ≤ n ∧ n ≤ 8)) : ruleB n = ⟨#[63]⟩ := by
  unfold ruleB
  repeat' (first | rw [if_neg (by omega)] | rfl)
def wdL (ns : List Int) (k : Nat) : List ByteArray := (ns.take k).map ruleB
theorem wdL_len (ns : List Int) (k : Nat) (h : k ≤ ns.length) : (wdL ns k).length = k := by rw [wdL, List.length_map, List.length_take]; omega
theorem wdL_snoc (ns : List Int) (k : Nat) (h : k < ns.length) : (wdL ns (k + 1)).map D.str = (wdL ns k).map D.str ++ [.str (ruleB ns[k]!)] := by
  rw [wdL, take_snoc ns k h, List.map_append, List.map_append]; rfl
theorem wdL_jn (ns : List Int) (hn : ns.length ≤ 1048576) (k : Nat) (hk : k ≤ ns.length) : (jn (wdL ns ns.length) ⟨#[32]⟩ k).length ≤ 1000000000 := by
  have hl := wdL_len ns ns.length (Nat.le_refl _)
  have h := jn_len (wdL ns ns.length) ⟨#[32]⟩ 6 (fun i hi => by
    rw [getElem!_pos _ i hi]
    simp only [wdL, List.getElem_map]
    exact ruleB_len _) k (by omega)
  have h1 : (⟨#[32]⟩ : ByteArray).data.toList.length = 1 := rfl
  rw [h1] at h
  omega
end Go.Proofs.YtlmiakgannpocaaDoor
