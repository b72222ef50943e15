/-
  The sum that a term denotes, of both sides.
-/
import Derived.Test.YtgjcilainojlfaaAddS
import Derived.Test.YtgjcilainojlfaaTmB
namespace Go.Proofs.Ytgjcilainojlfaa
open Go.RowKit
set_option linter.unusedVariables false
set_option linter.unusedSimpArgs false
set_option maxRecDepth 20000
def opI (s : ByteArray) (a b : Sm) : Sm × Bool := if s = ⟨#[43]⟩ then (adR a b, adB a b) else if s = ⟨#[45]⟩ then (if sumOk b = true then (adR a (scR b (-1)), adB a (scR b (-1))) else (zeroS, false)) else if s = ⟨#[42]⟩ then (if a.items.length = 0 then (scR b a.const, sumOk b) else if b.items.length = 0 then (scR a b.const, sumOk a) else (zeroS, false)) else (zeroS, false)
def opS (s : ByteArray) (a b : Sm) : Sm × Bool := if s = ⟨#[43]⟩ then (adR a b, adB a b) else if s = ⟨#[45]⟩ then (adR a (scR b (-1)), sumOk b && adB a (scR b (-1))) else if s = ⟨#[42]⟩ then (if a.items.length = 0 then (scR b a.const, sumOk b) else if b.items.length = 0 then (scR a b.const, sumOk a) else (zeroS, false)) else (zeroS, false)
theorem adB_f {a b : Sm} (h : adB a b = false) : adR a b = zeroS := by
  rw [adB] at h
  rw [adR]
  cases h1 : sumOk a
  · rfl
  · cases h2 : sumOk b
    · rfl
    · rw [h1, h2, Bool.true_and, Bool.true_and] at h
      rw [Bool.true_and, if_pos rfl, chkS, h]; rfl
theorem sc_f {a : Sm} {n : Int} (h : sumOk a = false) : scR a n = zeroS := by
  rw [scR, h]; rfl
theorem opI_f {s : ByteArray} {a b : Sm} (h : (opI s a b).2 = false) : (opI s a b).1 = zeroS := by
  unfold opI at h ⊢
  by_cases h1 : s = ⟨#[43]⟩
  · rw [if_pos h1] at h ⊢; exact adB_f h
  rw [if_neg h1] at h ⊢
  by_cases h2 : s = ⟨#[45]⟩
  · rw [if_pos h2] at h ⊢
    by_cases hb : sumOk b = true
    · rw [if_pos hb] at h ⊢; exact adB_f h
    · rw [if_neg hb]
  rw [if_neg h2] at h ⊢
  by_cases h3 : s = ⟨#[42]⟩
  · rw [if_pos h3] at h ⊢
    by_cases ha : a.items.length = 0
    · rw [if_pos ha] at h ⊢; exact sc_f h
    rw [if_neg ha] at h ⊢
    by_cases hb : b.items.length = 0
    · rw [if_pos hb] at h ⊢; exact sc_f h
    · rw [if_neg hb]
  · rw [if_neg h3]
theorem opS_I (s : ByteArray) (a b : Sm) : (opS s a b).2 = (opI s a b).2 ∧ ((opI s a b).2 = true → (opS s a b).1 = (opI s a b).1) := by
  unfold opS opI
  by_cases h1 : s = ⟨#[43]⟩
  · rw [if_pos h1, if_pos h1]; exact ⟨rfl, fun _ => rfl⟩
  rw [if_neg h1, if_neg h1]
  by_cases h2 : s = ⟨#[45]⟩
  · rw [if_pos h2, if_pos h2]
    cases hb : sumOk b
    · exact ⟨rfl, fun h => by cases h⟩
    · exact ⟨rfl, fun _ => rfl⟩
  rw [if_neg h2, if_neg h2]
  exact ⟨rfl, fun _ => rfl⟩
theorem sz_ad (a b : Sm) : szL (sumC (adR a b)) ≤ 40 := by
  rw [adR]
  split
  · rw [chkS]
    split
    · rename_i h; exact sz_sumOk h
    · rw [sz_zeroS]; omega
  · rw [sz_zeroS]; omega
theorem sz_sc (a : Sm) (n : Int) : szL (sumC (scR a n)) ≤ 40 := by
  rw [scR]
  split
  · rename_i h; exact sz_sumOk (sc_ok _ h)
  · rw [sz_zeroS]; omega
theorem sz_opS (s : ByteArray) (a b : Sm) : szL (sumC (opS s a b).1) ≤ 40 := by
  unfold opS
  have h0 : szL (sumC zeroS) ≤ 40 := by rw [sz_zeroS]; omega
  by_cases h1 : s = ⟨#[43]⟩
  · rw [if_pos h1]; exact sz_ad _ _
  rw [if_neg h1]
  by_cases h2 : s = ⟨#[45]⟩
  · rw [if_pos h2]
    exact sz_ad _ _
  rw [if_neg h2]
  by_cases h3 : s = ⟨#[42]⟩
  · rw [if_pos h3]
    by_cases ha : a.items.length = 0
    · rw [if_pos ha]; exact sz_sc _ _
    rw [if_neg ha]
    by_cases hb : b.items.length = 0
    · rw [if_pos hb]; exact sz_sc _ _
    · rw [if_neg hb]; exact h0
  · rw [if_neg h3]; exact h0
theorem sz_opI (s : ByteArray) (a b : Sm) : szL (sumC (opI s a b).1) ≤ 40 := by
  unfold opI
  have h0 : szL (sumC zeroS) ≤ 40 := by rw [sz_zeroS]; omega
  by_cases h1 : s = ⟨#[43]⟩
  · rw [if_pos h1]; exact sz_ad _ _
  rw [if_neg h1]
  by_cases h2 : s = ⟨#[45]⟩
  · rw [if_pos h2]
    by_cases hb : sumOk b = true
    · rw [if_pos hb]; exact sz_ad _ _
    · rw [if_neg hb]; exact h0
  rw [if_neg h2]
  by_cases h3 : s = ⟨#[42]⟩
  · rw [if_pos h3]
    by_cases ha : a.items.length = 0
    · rw [if_pos ha]; exact sz_sc _ _
    rw [if_neg ha]
    by_cases hb : b.items.length = 0
    · rw [if_pos hb]; exact sz_sc _ _
    · rw [if_neg hb]; exact h0
  · rw [if_neg h3]; exact h0
def linL (f : ByteArray → Sm → Sm → Sm × Bool) (k : Int) (s : ByteArray) (n : Int) (l : Nat) (p q : Sm × Bool) : Sm × Bool :=
  if k = 2 then (⟨n, []⟩, true) else if k = 1 then (⟨0, [⟨s, 1⟩]⟩, true) else if k = 4 then (if (p.2 && q.2) = true then f s p.1 q.1 else (zeroS, false)) else (zeroS, false)
mutual
def linT (f : ByteArray → Sm → Sm → Sm × Bool) : Tm → Sm × Bool
  | .mk k s _ n _ _ xs => linL f k s n xs.length ((linTs f xs)[0]!) ((linTs f xs)[xs.length - 1]!)
def linTs (f : ByteArray → Sm → Sm → Sm × Bool) : List Tm → List (Sm × Bool)
  | [] => []
  | x :: xs => linT f x :: linTs f xs
end
theorem linTs_at (f : ByteArray → Sm → Sm → Sm × Bool) : ∀ (xs : List Tm) (k : Nat), k < xs.length → (linTs f xs)[k]! = linT f xs[k]!
  | x :: xs, 0, _ => by rw [linTs]; rfl
  | x :: xs, k + 1, h => by
    rw [linTs]
    have := linTs_at f xs k (by simpa using h)
    simpa using this
theorem linT_eq (f : ByteArray → Sm → Sm → Sm × Bool) (t : Tm) (h : 0 < t.args.length) : linT f t = linL f t.kind t.name t.n t.args.length (linT f t.args[0]!) (linT f t.args[t.args.length - 1]!) := by
  obtain ⟨k, s, o, n, ty, r, xs⟩ := t
  simp only [Tm.args] at h
  rw [linT, linTs_at f xs 0 h, linTs_at f xs (xs.length - 1) (by omega)]; rfl
theorem linT_leaf (f : ByteArray → Sm → Sm → Sm × Bool) (t : Tm) (h : ¬ t.kind = 4) : linT f t = linL f t.kind t.name t.n t.args.length (zeroS, false) (zeroS, false) := by
  obtain ⟨k, s, o, n, ty, r, xs⟩ := t
  simp only [Tm.kind] at h
  simp only [linT, linL, Tm.kind, Tm.name, Tm.n, h, if_false]
theorem fm_op {t : Tm} (h : isFm t = true) (hk : t.kind = 4) : 0 < t.args.length ∧ (t.args.length = 2 ∨ opI t.name = opI ⟨#[]⟩ ∧ opS t.name = opS ⟨#[]⟩) := by
  rw [isFm_eq, Bool.and_eq_true, Bool.and_eq_true] at h
  obtain ⟨h1, h2, _⟩ := h
  have h1 := of_decide_eq_true h1
  have e : arF 0 t.kind t.name = opAr t.name := by rw [hk]; rfl
  have h3 : 0 < opAr t.name := by
    unfold isNm at h2
    rw [hk] at h2
    exact of_decide_eq_true h2
  refine ⟨by omega, ?_⟩
  by_cases g1 : t.name = ⟨#[43]⟩
  · have : opAr t.name = 2 := by rw [g1]; rfl
    exact .inl (by omega)
  by_cases g2 : t.name = ⟨#[45]⟩
  · have : opAr t.name = 2 := by rw [g2]; rfl
    exact .inl (by omega)
  by_cases g3 : t.name = ⟨#[42]⟩
  · have : opAr t.name = 2 := by rw [g3]; rfl
    exact .inl (by omega)
  refine .inr ⟨?_, ?_⟩
  · funext a b
    have k1 : ¬ ((⟨#[]⟩ : ByteArray) = ⟨#[43]⟩) := by decide
    have k2 : ¬ ((⟨#[]⟩ : ByteArray) = ⟨#[45]⟩) := by decide
    have k3 : ¬ ((⟨#[]⟩ : ByteArray) = ⟨#[42]⟩) := by decide
    simp only [opI, if_neg g1, if_neg g2, if_neg g3, if_neg k1, if_neg k2, if_neg k3]
  · funext a b
    have k1 : ¬ ((⟨#[]⟩ : ByteArray) = ⟨#[43]⟩) := by decide
    have k2 : ¬ ((⟨#[]⟩ : ByteArray) = ⟨#[45]⟩) := by decide
    have k3 : ¬ ((⟨#[]⟩ : ByteArray) = ⟨#[42]⟩) := by decide
    simp only [opS, if_neg g1, if_neg g2, if_neg g3, if_neg k1, if_neg k2, if_neg k3]
theorem opI_none (a b : Sm) : opI ⟨#[]⟩ a b = (zeroS, false) := by
  have k1 : ¬ ((⟨#[]⟩ : ByteArray) = ⟨#[43]⟩) := by decide
  have k2 : ¬ ((⟨#[]⟩ : ByteArray) = ⟨#[45]⟩) := by decide
  have k3 : ¬ ((⟨#[]⟩ : ByteArray) = ⟨#[42]⟩) := by decide
  simp only [opI, if_neg k1, if_neg k2, if_neg k3]
theorem allTms_at {p : Tm → Bool} : ∀ {xs : List Tm}, allTms p xs = true → ∀ x ∈ xs, allTm p x = true
  | [], _, x, h => by cases h
  | y :: xs, h, x, hx => by
    rw [allTms, Bool.and_eq_true] at h
    rcases List.mem_cons.1 hx with rfl | hx
    · exact h.1
    · exact allTms_at h.2 x hx
theorem allTm_t {p : Tm → Bool} {t : Tm} (h : allTm p t = true) : p t = true ∧ ∀ x ∈ t.args, allTm p x = true := by
  rw [allTm_eq, Bool.and_eq_true] at h
  exact ⟨h.1, allTms_at h.2⟩
/-- Both ways denote the same. -/
theorem lin_both : ∀ t : Tm, allTm isFm t = true → (linT opS t).2 = (linT opI t).2 ∧ ((linT opI t).2 = true → (linT opS t).1 = (linT opI t).1) := by
  refine Tm.ind fun t ih ht => ?_
  obtain ⟨hf, hargs⟩ := allTm_t ht
  by_cases hk : t.kind = 4
  · obtain ⟨h0, _⟩ := fm_op hf hk
    have m0 := mem_bang h0
    have m1 := mem_bang (show t.args.length - 1 < t.args.length by omega)
    obtain ⟨a1, a2⟩ := ih _ m0 (hargs _ m0)
    obtain ⟨b1, b2⟩ := ih _ m1 (hargs _ m1)
    rw [linT_eq opS t h0, linT_eq opI t h0]
    have k2 : ¬ (t.kind = 2) := by omega
    have k1 : ¬ (t.kind = 1) := by omega
    simp only [linL, if_neg k2, if_neg k1, if_pos hk]
    rw [a1, b1]
    by_cases hb : ((linT opI t.args[0]!).2 && (linT opI t.args[t.args.length - 1]!).2) = true
    · have hb' := hb
      rw [Bool.and_eq_true] at hb'
      rw [if_pos hb, if_pos hb, a2 hb'.1, b2 hb'.2]
      exact opS_I _ _ _
    · rw [if_neg hb, if_neg hb]; exact ⟨rfl, fun h => rfl⟩
  · rw [linT_leaf opS t hk, linT_leaf opI t hk]
    simp only [linL, if_neg hk]
    exact ⟨trivial, fun _ => trivial⟩
theorem lin_f (t : Tm) (h : (linT opI t).2 = false) : (linT opI t).1 = zeroS := by
  obtain ⟨k, s, o, n, ty, r, xs⟩ := t
  rw [linT, linL] at h ⊢
  (repeat' split at h) <;> first | (cases h; done) | skip
  · rename_i h2 h1 h4 hb
    rw [if_neg h2, if_neg h1, if_pos h4, if_pos hb]; exact opI_f h
  · rename_i h2 h1 h4 hb
    rw [if_neg h2, if_neg h1, if_pos h4, if_neg hb]
  · rename_i h2 h1 h4
    rw [if_neg h2, if_neg h1, if_neg h4]
theorem sz_lin (f : ByteArray → Sm → Sm → Sm × Bool) (hf : ∀ s a b, szL (sumC (f s a b).1) ≤ 40) (t : Tm) : szL (sumC (linT f t).1) ≤ szL (tmC t) + 40 := by
  obtain ⟨k, s, o, n, ty, r, xs⟩ := t
  have h0 : szL (sumC zeroS) ≤ 40 := by rw [sz_zeroS]; omega
  rw [linT, linL]
  split
  · simp only [sumC, imsD, flC, szL, szD, List.length_nil]; omega
  · split
    · simp only [tmC, sumC, imsD, flC, imC, szL, szD, List.length_nil, List.length_cons, List.append_nil]; omega
    · split
      · split
        · have := hf s (linTs f xs)[0]!.1 (linTs f xs)[xs.length - 1]!.1; omega
        · have := h0; simp only; omega
      · have := h0; simp only; omega
theorem con_OpS (s : ByteArray) (a b : Sm) (hza : szL (sumC a) ≤ 1000000000) (hzb : szL (sumC b) ≤ 1000000000) : Con Try.prog 59 [.one (.str s), .ag (sumC a), .ag (sumC b)] [.ag (sumC (opS s a b).1), .one (.bool (opS s a b).2)] := by
  have hA := con_AddS a b hza hzb
  have hS := con_ScaleS b (-1) hzb
  have hA2 := con_AddS a (scR b (-1)) hza (by have := sz_sc b (-1); omega)
  have hB := con_ScaleS b a.const hzb
  have hC := con_ScaleS a b.const hza
  rcases pc (s = ⟨#[43]⟩) with h1 | h1
  · simp only [opS, h1, if_true]
    refine con_run Try.func59 rfl rfl (by simp [Try.ntmps59]) ?_
    simp only [argT, argA, eq_self, xRun, vE, vP, vSub, vLoad, vBin, vBinT, isAg, isBo, isCutO, isB, bv, gN, isPick, isCall, AS.pt, AS.ev, AS.box, look, cav, avB, AV.cells, AV.whole, AV.one, td0, td1, td2, td3, td4, td5, td6, Option.getD, Option.isSome, List.map, List.take, List.drop, List.length, List.all, ↓reduceIte, Nat.reduceLT, Nat.reduceAdd, Nat.reduceEqDiff, Nat.zero_add, true_and, Bool.and_true, Bool.false_eq_true, reduceCtorEq, decide_true, Nat.succ_ne_zero, Nat.le_refl, h1, sumC, imsD, Try.ntmps59]
    refine sw_call (hA) rfl (aAs_ok ?_) ?_ (sw_run 200 _ _ _ ?_)
    · simp only [aAs, aA, aDs, aD, AS.ev, look, Option.getD, List.map, List.append_nil, ↓reduceIte, Nat.reduceEqDiff, eq_self, and_self, sumC, imsD]
    · simp only [okR]
    simp only [mkR, flatD, packA, retA, List.headD_cons, fQ, xRet, rPs, xRes, flatA, rD, rDs, eq_self, xRun, vE, vP, vSub, vLoad, vExt, vStore, isCutO, gN, isPick, isCall, AS.pt, AS.ev, AS.box, AS.setb, AS.mk', AS.owf, kill, look, setRowG, AV.cells, AV.whole, AV.one, eatsOf, td0, td1, td2, td3, td4, td5, td6, Option.bind, Option.getD, Option.isSome, List.map, List.take, List.drop, List.length, List.getElem?_cons_zero, List.getElem?_cons_succ, List.set, List.foldr, List.all, List.not_mem_nil, List.nodup_cons, List.nodup_nil, List.nil_append, List.cons_append, ↓reduceIte, Nat.reduceLT, Nat.reduceAdd, Nat.reduceEqDiff, Nat.zero_add, not_false_eq_true, or_false, Bool.and_true, Bool.false_eq_true, id_eq, reduceCtorEq, and_self, Nat.le_refl, sumC, imsD, Try.results59]
  rcases pc (s = ⟨#[45]⟩) with h2 | h2
  · simp only [opS, h1, h2, if_true, if_false]
    refine con_run Try.func59 rfl rfl (by simp [Try.ntmps59]) ?_
    simp only [argT, argA, eq_self, xRun, vE, vP, vSub, vLoad, vBin, vBinT, isAg, isBo, isCutO, isB, bv, gN, isPick, isCall, AS.pt, AS.ev, AS.box, look, cav, avB, AV.cells, AV.whole, AV.one, td0, td1, td2, td3, td4, td5, td6, Option.getD, Option.isSome, List.map, List.take, List.drop, List.length, List.all, ↓reduceIte, Nat.reduceLT, Nat.reduceAdd, Nat.reduceEqDiff, Nat.zero_add, true_and, Bool.and_true, Bool.false_eq_true, reduceCtorEq, Int.reduceNeg, decide_true, decide_false, Nat.succ_ne_zero, Nat.le_refl, h1, h2, sumC, imsD, Try.ntmps59]
    refine sw_call (hS) rfl (aAs_ok ?_) ?_ (sw_run 200 _ _ _ ?_)
    · simp only [aAs, aA, aDs, aD, AS.ev, look, cav, Option.getD, List.map, List.append_nil, ↓reduceIte, eq_self, and_self, sumC, imsD]
    · simp only [okR]
    simp only [mkR, flatD, packA, retA, List.headD_cons, eq_self, xRun, vE, vP, vSub, vLoad, vExt, vStore, isCutO, gN, isPick, isCall, AS.pt, AS.ev, AS.box, AS.setb, AS.mk', kill, look, setRowG, AV.cells, AV.whole, AV.one, td0, td1, td2, td3, td4, td5, td6, Option.getD, Option.isSome, List.take, List.drop, List.length, List.getElem?_cons_zero, List.getElem?_cons_succ, List.set, List.foldr, List.all, List.nil_append, List.cons_append, ↓reduceIte, Nat.reduceLT, Nat.reduceAdd, Nat.reduceEqDiff, Nat.zero_add, true_and, Bool.and_true, Bool.false_eq_true, reduceCtorEq, Int.reduceNeg, and_self, Nat.le_refl, sumC, imsD]
    refine sw_call (hA2) rfl (aAs_ok ?_) ?_ (sw_run 200 _ _ _ ?_)
    · simp only [aAs, aA, aDs, aD, AS.ev, AS.owf, look, Option.bind, Option.getD, id_eq, List.map, List.append_nil, ↓reduceIte, Nat.reduceEqDiff, eq_self, and_self, sumC, imsD]
    · simp only [okR]
    cases sumOk b
    · simp only [mkR, flatD, packA, retA, List.headD_cons, fQ, xRet, rPs, xRes, flatA, rD, rDs, eq_self, xRun, vE, vP, vSub, vLoad, vExt, vStore, isCutO, isB, bv, gT, gW, gN, gV, isU, isPick, pkC, pkB, isCall, AS.pt, AS.kn, AS.ev, AS.box, AS.setb, AS.mk', AS.owf, kill, look, cav, setRowG, AV.cells, AV.whole, AV.one, eatsOf, td0, td1, td2, td3, td4, td5, td6, Option.bind, Option.getD, Option.isSome, List.map, List.take, List.drop, List.length, List.getElem?_cons_zero, List.getElem?_cons_succ, List.set, List.foldr, List.all, List.not_mem_nil, List.nodup_cons, List.nodup_nil, List.nil_append, List.cons_append, ↓reduceIte, Nat.reduceLT, Nat.reduceAdd, Nat.reduceEqDiff, Nat.zero_add, not_false_eq_true, or_false, Bool.and_true, Bool.false_and, Bool.not_true, Bool.false_eq_true, id_eq, reduceCtorEq, Int.reduceNeg, and_self, Nat.le_refl, sumC, imsD, Try.results59]
    · simp only [mkR, flatD, packA, retA, List.headD_cons, fQ, xRet, rPs, xRes, flatA, rD, rDs, eq_self, xRun, vE, vP, vSub, vLoad, vExt, vStore, isCutO, isB, bv, gT, gW, gN, gV, isU, isPick, pkC, pkA, isCall, AS.pt, AS.kn, AS.ev, AS.box, AS.setb, AS.mk', AS.owf, kill, look, setRowG, AV.cells, AV.whole, AV.one, eatsOf, td0, td1, td2, td3, td4, td5, td6, Option.bind, Option.getD, Option.isSome, List.map, List.take, List.drop, List.length, List.getElem?_cons_zero, List.getElem?_cons_succ, List.set, List.foldr, List.all, List.not_mem_nil, List.nodup_cons, List.nodup_nil, List.nil_append, List.cons_append, ↓reduceIte, Nat.reduceLT, Nat.reduceAdd, Nat.reduceEqDiff, Nat.zero_add, not_false_eq_true, or_false, Bool.true_and, Bool.and_true, Bool.false_eq_true, id_eq, reduceCtorEq, Int.reduceNeg, and_self, Nat.le_refl, sumC, imsD, Try.results59]
  rcases pc (s = ⟨#[42]⟩) with h3 | h3
  · by_cases ha : a.items.length = 0
    · have ha' : (a.items.length : Int) = 0 := by omega
      simp only [opS, h1, h2, h3, if_true, if_false, ha]
      refine con_run Try.func59 rfl rfl (by simp [Try.ntmps59]) ?_
      simp only [argT, argA, eq_self, xRun, vE, vP, vSub, vLoad, vFld, vBin, vBinT, isAg, isBo, vLen, isCutO, isB, bv, gT, gW, gN, gV, isU, isPick, pkC, pkA, isCall, AS.pt, AS.kn, AS.ev, AS.box, AS.rd, look, cav, avB, AV.cells, AV.whole, AV.one, td0, td1, td2, td3, td4, td5, td6, Option.bind, Option.getD, Option.isSome, List.map, List.take, List.drop, List.length, List.getElem?_cons_zero, List.getElem?_cons_succ, List.all, ↓reduceIte, Nat.reduceLT, Nat.reduceAdd, Nat.reduceEqDiff, Nat.zero_add, Nat.add_zero, ne_eq, not_false_eq_true, true_and, Bool.and_true, Bool.false_eq_true, reduceCtorEq, decide_true, decide_false, and_self, Nat.succ_ne_zero, Nat.le_refl, h1, h2, h3, ha', sumC, imsD, Try.ntmps59]
      refine sw_call (hB) rfl (aAs_ok ?_) ?_ (sw_run 200 _ _ _ ?_)
      · simp only [aAs, aA, aDs, aD, AS.ev, look, Option.getD, List.map, List.append_nil, ↓reduceIte, Nat.reduceEqDiff, eq_self, and_self, sumC, imsD, ha]
      · simp only [okR]
      simp only [mkR, flatD, packA, retA, List.headD_cons, fQ, xRet, rPs, xRes, flatA, rD, rDs, eq_self, xRun, vE, vP, vSub, vLoad, vExt, vStore, isCutO, gN, isPick, isCall, AS.pt, AS.ev, AS.box, AS.setb, AS.mk', AS.owf, kill, look, setRowG, AV.cells, AV.whole, AV.one, eatsOf, td0, td1, td2, td3, td4, td5, td6, Option.bind, Option.getD, Option.isSome, List.map, List.take, List.drop, List.length, List.getElem?_cons_zero, List.getElem?_cons_succ, List.set, List.foldr, List.all, List.not_mem_nil, List.nodup_cons, List.nodup_nil, List.nil_append, List.cons_append, ↓reduceIte, Nat.reduceLT, Nat.reduceAdd, Nat.reduceEqDiff, Nat.zero_add, not_false_eq_true, or_false, Bool.and_true, Bool.false_eq_true, id_eq, reduceCtorEq, and_self, Nat.le_refl, sumC, imsD, Try.results59]
    have ha' : ¬ (a.items.length : Int) = 0 := by omega
    by_cases hb : b.items.length = 0
    · have hb' : (b.items.length : Int) = 0 := by omega
      simp only [opS, h1, h2, h3, if_true, if_false, ha, hb]
      refine con_run Try.func59 rfl rfl (by simp [Try.ntmps59]) ?_
      simp only [argT, argA, eq_self, xRun, vE, vP, vSub, vLoad, vFld, vBin, vBinT, isAg, isBo, vLen, isCutO, isB, bv, gT, gW, gN, gV, isU, isPick, pkC, pkA, isCall, AS.pt, AS.kn, AS.ev, AS.box, AS.rd, look, cav, avB, AV.cells, AV.whole, AV.one, td0, td1, td2, td3, td4, td5, td6, Option.bind, Option.getD, Option.isSome, List.map, List.take, List.drop, List.length, List.getElem?_cons_zero, List.getElem?_cons_succ, List.all, ↓reduceIte, Nat.reduceLT, Nat.reduceAdd, Nat.reduceEqDiff, Nat.zero_add, Nat.add_zero, ne_eq, not_false_eq_true, true_and, Bool.and_true, Bool.false_eq_true, reduceCtorEq, decide_true, decide_false, and_self, Nat.succ_ne_zero, Nat.le_refl, h1, h2, h3, ha', hb', sumC, imsD, Try.ntmps59]
      refine sw_call (hC) rfl (aAs_ok ?_) ?_ (sw_run 200 _ _ _ ?_)
      · simp only [aAs, aA, aDs, aD, AS.ev, look, Option.getD, List.map, List.append_nil, ↓reduceIte, Nat.reduceEqDiff, eq_self, and_self, sumC, imsD, hb]
      · simp only [okR]
      simp only [mkR, flatD, packA, retA, List.headD_cons, fQ, xRet, rPs, xRes, flatA, rD, rDs, eq_self, xRun, vE, vP, vSub, vLoad, vExt, vStore, isCutO, gN, isPick, isCall, AS.pt, AS.ev, AS.box, AS.setb, AS.mk', AS.owf, kill, look, setRowG, AV.cells, AV.whole, AV.one, eatsOf, td0, td1, td2, td3, td4, td5, td6, Option.bind, Option.getD, Option.isSome, List.map, List.take, List.drop, List.length, List.getElem?_cons_zero, List.getElem?_cons_succ, List.set, List.foldr, List.all, List.not_mem_nil, List.nodup_cons, List.nodup_nil, List.nil_append, List.cons_append, ↓reduceIte, Nat.reduceLT, Nat.reduceAdd, Nat.reduceEqDiff, Nat.zero_add, not_false_eq_true, or_false, Bool.and_true, Bool.false_eq_true, id_eq, reduceCtorEq, and_self, Nat.le_refl, sumC, imsD, Try.results59]
    have hb' : ¬ (b.items.length : Int) = 0 := by omega
    simp only [opS, h1, h2, h3, if_true, if_false, ha, hb]
    refine con_run Try.func59 rfl rfl (by simp [Try.ntmps59]) ?_
    simp only [argT, argA, fQ, xRet, rPs, xRes, flatA, rD, rDs, eq_self, xRun, vE, vP, vSub, vLoad, vFld, vBin, vBinT, isAg, isBo, vLen, vBuild, vStore, isCutO, xFill, isB, bv, gT, gW, gN, gV, isU, isPick, pkC, pkA, isCall, AS.pt, AS.kn, AS.ev, AS.box, AS.setb, AS.rd, look, cav, avB, setRowG, AV.cells, AV.whole, AV.one, eatsOf, td0, td1, td2, td3, td4, td5, td6, Option.bind, Option.getD, Option.isSome, List.map, List.length, List.getElem?_cons_zero, List.getElem?_cons_succ, List.set, List.all, List.nodup_nil, List.nil_append, List.cons_append, ↓reduceIte, Nat.reduceLT, Nat.reduceAdd, Nat.reduceEqDiff, Nat.zero_add, ne_eq, not_false_eq_true, or_false, Bool.and_true, Bool.false_eq_true, reduceCtorEq, decide_true, decide_false, and_self, Nat.succ_ne_zero, Nat.le_refl, h1, h2, h3, ha', hb', sumC, imsD, zeroS, flC, Try.ntmps59, Try.results59]
  simp only [opS, h1, h2, h3, if_false]
  refine con_run Try.func59 rfl rfl (by simp [Try.ntmps59]) ?_
  simp only [argT, argA, fQ, xRet, rPs, xRes, flatA, rD, rDs, eq_self, xRun, vE, vP, vBin, vBinT, isAg, isBo, vBuild, vStore, isCutO, xFill, isB, bv, gT, gW, gN, gV, isU, isPick, pkC, pkB, isCall, AS.pt, AS.kn, AS.ev, AS.box, AS.setb, look, cav, avB, setRowG, AV.cells, AV.whole, AV.one, eatsOf, td0, td1, td2, td3, td4, td5, td6, Option.bind, Option.getD, Option.isSome, List.map, List.length, List.getElem?_cons_zero, List.getElem?_cons_succ, List.set, List.all, List.nodup_nil, List.nil_append, List.cons_append, ↓reduceIte, Nat.reduceLT, Nat.reduceAdd, Nat.reduceEqDiff, Nat.zero_add, or_false, Bool.and_true, Bool.not_true, Bool.false_eq_true, reduceCtorEq, decide_false, and_self, Nat.succ_ne_zero, Nat.le_refl, h1, h2, h3, sumC, imsD, zeroS, flC, Try.ntmps59, Try.results59]
theorem con_linS : ∀ t : Tm, szL (tmC t) ≤ 100000000 → allTm isFm t = true → Con Try.prog 28 [.ag (tmC t)] [.ag (sumC (linT opS t).1), .one (.bool (linT opS t).2)] := by
  refine Tm.ind fun t ih hz ht => ?_
  obtain ⟨hf, hargs⟩ := allTm_t ht
  have hz8 := (sz_partsE hz).2.2
  by_cases h2 : t.kind = 2
  · have e : linT opS t = (⟨t.n, []⟩, true) := by rw [linT_leaf opS t (by omega), linL, if_pos h2]
    rw [e]
    refine con_run Try.func28 rfl rfl (by simp [Try.ntmps28]) ?_
    simp only [argT, argA, fQ, tysD, tmsD, xRet, rPs, xRes, flatA, rD, rDs, eq_self, xRun, vE, vP, vSub, vLoad, vFld, vBin, vBinT, isAg, isBo, vBuild, vStore, isCutO, xFill, isB, bv, gN, isPick, isCall, AS.pt, AS.ev, AS.box, AS.setb, look, cav, avB, setRowG, AV.cells, AV.whole, AV.one, eatsOf, td0, td1, td2, td3, td4, td5, td6, Option.getD, Option.isSome, List.map, List.length, List.getElem?_cons_zero, List.getElem?_cons_succ, List.set, List.all, List.nodup_nil, List.nil_append, List.cons_append, ↓reduceIte, Nat.reduceLT, Nat.reduceAdd, Nat.reduceLeDiff, Nat.reduceEqDiff, Nat.zero_add, Nat.add_zero, ne_eq, not_false_eq_true, or_false, Bool.and_true, Bool.false_eq_true, reduceCtorEq, decide_true, and_self, Nat.succ_ne_zero, Nat.le_refl, tmC_eq, tysD, tmsD, h2, sumC, imsD, flC, Try.ntmps28, Try.results28]
  by_cases h1 : t.kind = 1
  · have e : linT opS t = (⟨0, [⟨t.name, 1⟩]⟩, true) := by rw [linT_leaf opS t (by omega), linL, if_neg h2, if_pos h1]
    rw [e]
    refine con_run Try.func28 rfl rfl (by simp [Try.ntmps28]) ?_
    simp only [argT, argA, fQ, tysD, tmsD, xRet, rPs, xRes, flatA, rD, rDs, eq_self, xRun, vE, vP, vSub, vLoad, vFld, vBin, vBinT, isAg, isBo, vBuild, vRow, vStore, isCutO, xFill, isB, bv, gN, isPick, isCall, AS.pt, AS.ev, AS.box, AS.setb, AS.mk', AS.owf, kill, look, cav, avB, setRowG, AV.cells, AV.whole, AV.one, cD, cDs, eatsOf, dpOf, td0, td1, td2, td3, td4, td5, td6, Option.bind, Option.getD, Option.isSome, List.map, List.length, List.getElem?_cons_zero, List.getElem?_cons_succ, List.set, List.foldr, List.all, List.replicate, List.not_mem_nil, List.nodup_cons, List.nodup_nil, List.nil_append, List.cons_append, List.append_nil, ↓reduceIte, Nat.reduceLT, Nat.reduceAdd, Nat.reduceLeDiff, Nat.reduceEqDiff, Nat.zero_add, Nat.add_zero, Nat.zero_mul, Nat.one_mul, ne_eq, not_false_eq_true, or_false, or_true, Bool.and_true, Bool.false_eq_true, id_eq, reduceCtorEq, Int.reduceEq, decide_true, decide_false, and_self, Nat.succ_ne_zero, Nat.le_refl, tmC_eq, tysD, tmsD, h1, sumC, imsD, flC, imC, List.length_cons, Try.ntmps28, Try.results28]
  by_cases h4 : t.kind = 4
  case neg =>
    have e : linT opS t = (zeroS, false) := by rw [linT_leaf opS t h4, linL, if_neg h2, if_neg h1, if_neg h4]
    rw [e]
    refine con_run Try.func28 rfl rfl (by simp [Try.ntmps28]) ?_
    simp only [argT, argA, fQ, tysD, tmsD, xRet, rPs, xRes, flatA, rD, rDs, eq_self, xRun, vE, vP, vSub, vLoad, vFld, vBin, vBinT, isAg, isBo, vBuild, vStore, isCutO, xFill, isB, bv, gN, isPick, isCall, AS.pt, AS.ev, AS.box, AS.setb, look, cav, avB, setRowG, AV.cells, AV.whole, AV.one, eatsOf, td0, td1, td2, td3, td4, td5, td6, Option.getD, Option.isSome, List.map, List.length, List.getElem?_cons_zero, List.set, List.all, List.nodup_nil, List.nil_append, List.cons_append, ↓reduceIte, Nat.reduceLT, Nat.reduceAdd, Nat.reduceEqDiff, Nat.zero_add, Nat.add_zero, ne_eq, not_false_eq_true, or_false, Bool.and_true, Bool.false_eq_true, reduceCtorEq, decide_false, and_self, Nat.succ_ne_zero, Nat.le_refl, tmC_eq, tysD, tmsD, h1, h2, h4, sumC, imsD, zeroS, flC, Try.ntmps28, Try.results28]
  obtain ⟨h0, _⟩ := fm_op hf h4
  have hl1 : t.args.length - 1 < t.args.length := by omega
  have m0 := mem_bang h0
  have m1 := mem_bang hl1
  have s0 := szL_tms' t.args 0 h0
  have s1 := szL_tms' t.args (t.args.length - 1) hl1
  have r0 := ih _ m0 (by omega) (hargs _ m0)
  have r1 := ih _ m1 (by omega) (hargs _ m1)
  have z0 := sz_lin opS sz_opS t.args[0]!
  have z1 := sz_lin opS sz_opS t.args[t.args.length - 1]!
  have hR0 := tmsC_row' t.args 0 h0
  have hR1 := tmsC_row' t.args (t.args.length - 1) hl1
  have e : linT opS t = if ((linT opS t.args[0]!).2 && (linT opS t.args[t.args.length - 1]!).2) = true then opS t.name (linT opS t.args[0]!).1 (linT opS t.args[t.args.length - 1]!).1 else (zeroS, false) := by rw [linT_eq opS t h0, linL, if_neg h2, if_neg h1, if_pos h4]
  have hO := con_OpS t.name (linT opS t.args[0]!).1 (linT opS t.args[t.args.length - 1]!).1 (by omega) (by omega)
  rw [e]
  have hc : (t.args.length : Int) - 1 = ((t.args.length - 1 : Nat) : Int) := by omega
  have hin : inI (((t.args.length - 1 : Nat) : Int)) := by unfold inI; omega
  have hi0 : (0 : Int) < (t.args.length : Int) := by omega
  have hi1 : (((t.args.length - 1 : Nat) : Int)) < (t.args.length : Int) := by omega
  generalize linT opS t.args[0]! = p at *
  generalize linT opS t.args[t.args.length - 1]! = q at *
  obtain ⟨p1, p2⟩ := p
  obtain ⟨q1, q2⟩ := q
  simp only at r0 r1 hO e z0 z1 ⊢
  refine con_run Try.func28 rfl rfl (by simp [Try.ntmps28]) ?_
  simp only [argT, argA, tysD, tmsD, rowD, eq_self, xRun, vE, vP, vSub, vLoad, vFld, vIdx, vBin, vBinT, isAg, isBo, isCutO, isB, bv, gN, isPick, isCall, AS.pt, AS.ev, AS.box, look, cav, avB, AV.cells, AV.whole, AV.one, td0, td1, td2, td3, td4, td5, td6, Option.getD, Option.isSome, List.map, List.take, List.drop, List.length, List.getElem?_cons_zero, List.getElem?_cons_succ, List.all, ↓reduceIte, Nat.reduceLT, Nat.reduceAdd, Nat.reduceEqDiff, Nat.zero_add, Nat.add_zero, ne_eq, not_false_eq_true, true_and, Bool.and_true, Bool.false_eq_true, reduceCtorEq, Int.reduceEq, Int.toNat_zero, Int.le_refl, decide_true, decide_false, and_self, Nat.succ_ne_zero, Nat.le_refl, tmC_eq, tysD, tmsD, h4, hi0, hR0, Try.ntmps28]
  refine sw_call (r0) rfl (aAs_ok ?_) ?_ (sw_run 200 _ _ _ ?_)
  · simp only [aAs, aA, aDs, aD, tysD, tmsD, AS.ev, look, Option.getD, List.map, List.append_nil, ↓reduceIte, eq_self, and_self, tmC_eq]
  · simp only [okR]
  simp only [mkR, flatD, packA, retA, List.headD_cons, tysD, tmsD, rowD, eq_self, xRun, vE, vP, vSub, vLoad, vFld, vIdx, vBin, vBinT, isAg, isBo, vLen, vExt, vStore, isCutO, gN, isPick, isCall, AS.pt, AS.ev, AS.box, AS.setb, AS.mk', AS.rd, kill, look, cav, avB, setRowG, AV.cells, AV.whole, AV.one, td0, td1, td2, td3, td4, td5, td6, Option.getD, Option.isSome, List.map, List.take, List.drop, List.length, List.getElem?_cons_zero, List.getElem?_cons_succ, List.set, List.foldr, List.all, List.nil_append, List.cons_append, ↓reduceIte, Nat.reduceLT, Nat.reduceAdd, Nat.reduceEqDiff, Nat.zero_add, ne_eq, not_false_eq_true, true_and, Bool.and_true, Bool.false_eq_true, reduceCtorEq, Int.toNat_natCast, Int.natCast_nonneg, and_self, Nat.succ_ne_zero, Nat.le_refl, hc, hin, hi1, hR1, sumC, imsD, tmC_eq]
  refine sw_call (r1) rfl (aAs_ok ?_) ?_ (sw_run 200 _ _ _ ?_)
  · simp only [aAs, aA, aDs, aD, tysD, tmsD, AS.ev, look, Option.getD, List.map, List.append_nil, ↓reduceIte, eq_self, and_self, tmC_eq]
  · simp only [okR]
  cases p2
  · simp only [mkR, flatD, packA, retA, List.headD_cons, fQ, xRet, rPs, xRes, flatA, rD, rDs, eq_self, xRun, vE, vP, vExt, vBuild, vStore, isCutO, xFill, isB, bv, gT, gW, gN, gV, isU, isPick, pkC, pkB, isCall, AS.pt, AS.kn, AS.ev, AS.box, AS.setb, AS.mk', kill, look, cav, setRowG, AV.cells, AV.whole, AV.one, eatsOf, td0, td1, td2, td3, td4, td5, td6, Option.bind, Option.getD, Option.isSome, List.map, List.take, List.drop, List.length, List.getElem?_cons_zero, List.getElem?_cons_succ, List.set, List.foldr, List.all, List.nodup_nil, List.nil_append, List.cons_append, ↓reduceIte, Nat.reduceLT, Nat.reduceAdd, Nat.reduceEqDiff, Nat.zero_add, or_false, Bool.and_true, Bool.false_and, Bool.not_true, Bool.false_eq_true, reduceCtorEq, and_self, Nat.le_refl, sumC, imsD, zeroS, flC, Bool.false_and, Bool.false_eq_true, Try.results28]
  cases q2
  · simp only [mkR, flatD, packA, retA, List.headD_cons, fQ, xRet, rPs, xRes, flatA, rD, rDs, eq_self, xRun, vE, vP, vExt, vBuild, vStore, isCutO, xFill, isB, bv, gT, gW, gN, gV, isU, isPick, pkC, pkA, isCall, AS.pt, AS.kn, AS.ev, AS.box, AS.setb, AS.mk', kill, look, cav, setRowG, AV.cells, AV.whole, AV.one, eatsOf, td0, td1, td2, td3, td4, td5, td6, Option.bind, Option.getD, Option.isSome, List.map, List.take, List.drop, List.length, List.getElem?_cons_zero, List.getElem?_cons_succ, List.set, List.foldr, List.all, List.nodup_nil, List.nil_append, List.cons_append, ↓reduceIte, Nat.reduceLT, Nat.reduceAdd, Nat.reduceEqDiff, Nat.zero_add, or_false, Bool.and_true, Bool.and_false, Bool.false_eq_true, reduceCtorEq, and_self, Nat.le_refl, sumC, imsD, zeroS, flC, Bool.false_eq_true, Try.results28]
  simp only [mkR, flatD, packA, retA, List.headD_cons, eq_self, xRun, vE, vP, vSub, vLoad, vFld, vExt, vStore, isCutO, isB, bv, gT, gW, gN, gV, isU, isPick, pkC, pkA, isCall, AS.pt, AS.kn, AS.ev, AS.box, AS.setb, AS.mk', kill, look, setRowG, AV.cells, AV.whole, AV.one, td0, td1, td2, td3, td4, td5, td6, Option.bind, Option.getD, Option.isSome, List.take, List.drop, List.length, List.getElem?_cons_zero, List.getElem?_cons_succ, List.set, List.foldr, List.all, List.nil_append, List.cons_append, ↓reduceIte, Nat.reduceLT, Nat.reduceAdd, Nat.reduceEqDiff, Nat.zero_add, ne_eq, not_false_eq_true, true_and, Bool.and_true, Bool.false_eq_true, reduceCtorEq, and_self, Nat.succ_ne_zero, Nat.le_refl, sumC, imsD]
  refine sw_call (hO) rfl (aAs_ok ?_) ?_ (sw_run 200 _ _ _ ?_)
  · simp only [aAs, aA, aDs, aD, AS.ev, AS.owf, look, Option.bind, Option.getD, id_eq, List.map, List.append_nil, ↓reduceIte, Nat.reduceEqDiff, eq_self, and_self, sumC, imsD]
  · simp only [okR]
  simp only [mkR, flatD, packA, retA, List.headD_cons, fQ, xRet, rPs, xRes, flatA, rD, rDs, eq_self, xRun, vE, vP, vSub, vLoad, vExt, vStore, isCutO, gN, isPick, isCall, AS.pt, AS.ev, AS.box, AS.setb, AS.mk', AS.owf, kill, look, setRowG, AV.cells, AV.whole, AV.one, eatsOf, td0, td1, td2, td3, td4, td5, td6, Option.bind, Option.getD, Option.isSome, List.map, List.take, List.drop, List.length, List.getElem?_cons_zero, List.getElem?_cons_succ, List.set, List.foldr, List.all, List.not_mem_nil, List.nodup_cons, List.nodup_nil, List.nil_append, List.cons_append, ↓reduceIte, Nat.reduceLT, Nat.reduceAdd, Nat.reduceEqDiff, Nat.zero_add, not_false_eq_true, or_false, Bool.and_true, Bool.false_eq_true, id_eq, reduceCtorEq, and_self, Nat.le_refl, sumC, imsD, Try.results28]
def linR (t : Tm) : Sm × Bool := if allTm isFm t = true then linT opI t else (zeroS, false)
theorem con_LinS (t : Tm) (hz : szL (tmC t) ≤ 100000000) : Con Try.prog 7 [.ag (tmC t)] [.ag (sumC (linR t).1), .one (.bool (linR t).2)] := by
  have hT := con_IsTermS t (by omega)
  by_cases ht : allTm isFm t = true
  case neg =>
    have ht : allTm isFm t = false := by simpa using ht
    have e : linR t = (zeroS, false) := by rw [linR, ht]; rfl
    rw [ht] at hT
    rw [e]
    refine con_run Try.func7 rfl rfl (by simp [Try.ntmps7]) ?_
    simp only [argT, argA, tysD, tmsD, eq_self, xRun, vE, vP, vSub, vLoad, isCutO, gN, isPick, isCall, AS.pt, AS.ev, AS.box, look, cav, avB, AV.cells, AV.whole, AV.one, td0, td1, td2, td3, td4, td5, td6, Option.getD, Option.isSome, List.map, List.take, List.drop, List.length, List.all, ↓reduceIte, Nat.reduceLT, Nat.reduceAdd, Nat.reduceEqDiff, Nat.zero_add, true_and, Bool.and_true, Bool.false_eq_true, reduceCtorEq, Nat.le_refl, tmC_eq, tysD, tmsD, Try.ntmps7]
    refine sw_call (hT) rfl (aAs_ok ?_) ?_ (sw_run 200 _ _ _ ?_)
    · simp only [aAs, aA, aDs, aD, tysD, tmsD, AS.ev, look, Option.getD, List.map, List.append_nil, ↓reduceIte, eq_self, and_self, tmC_eq, tysD, tmsD]
    · simp only [okR]
    simp only [mkR, flatD, packA, retA, List.headD_cons, fQ, xRet, rPs, xRes, flatA, rD, rDs, eq_self, xRun, vE, vP, vNot, vBuild, vStore, isCutO, xFill, isB, bv, gN, isPick, isCall, AS.pt, AS.ev, AS.setb, look, cav, setRowG, AV.cells, AV.whole, AV.one, eatsOf, td0, td1, td2, td3, td4, td5, td6, Option.getD, Option.isSome, List.map, List.length, List.set, List.all, List.nodup_nil, List.nil_append, List.cons_append, ↓reduceIte, Nat.reduceLT, Nat.reduceAdd, Nat.reduceEqDiff, Nat.zero_add, or_false, Bool.and_true, Bool.not_false, Bool.false_eq_true, reduceCtorEq, and_self, Nat.le_refl, sumC, imsD, zeroS, flC, Try.results7]
  have e : linR t = linT opI t := by rw [linR, if_pos ht]
  have hL := con_linS t hz ht
  obtain ⟨b1, b2⟩ := lin_both t ht
  have b3 := lin_f t
  rw [ht] at hT
  rw [e]
  rw [b1] at hL
  generalize linT opI t = p at *
  generalize linT opS t = q at *
  obtain ⟨p1, p2⟩ := p
  obtain ⟨q1, q2⟩ := q
  simp only at b1 b2 b3 hL ⊢
  refine con_run Try.func7 rfl rfl (by simp [Try.ntmps7]) ?_
  simp only [argT, argA, tysD, tmsD, eq_self, xRun, vE, vP, vSub, vLoad, isCutO, gN, isPick, isCall, AS.pt, AS.ev, AS.box, look, cav, avB, AV.cells, AV.whole, AV.one, td0, td1, td2, td3, td4, td5, td6, Option.getD, Option.isSome, List.map, List.take, List.drop, List.length, List.all, ↓reduceIte, Nat.reduceLT, Nat.reduceAdd, Nat.reduceEqDiff, Nat.zero_add, true_and, Bool.and_true, Bool.false_eq_true, reduceCtorEq, Nat.le_refl, tmC_eq, tysD, tmsD, Try.ntmps7]
  refine sw_call (hT) rfl (aAs_ok ?_) ?_ (sw_run 200 _ _ _ ?_)
  · simp only [aAs, aA, aDs, aD, tysD, tmsD, AS.ev, look, Option.getD, List.map, List.append_nil, ↓reduceIte, eq_self, and_self, tmC_eq, tysD, tmsD]
  · simp only [okR]
  simp only [mkR, flatD, packA, retA, List.headD_cons, eq_self, xRun, vE, vP, vSub, vLoad, vNot, isCutO, isB, bv, gN, isPick, isCall, AS.pt, AS.ev, look, td0, td1, td2, td3, td4, td5, td6, Option.getD, List.take, List.drop, List.length, ↓reduceIte, Nat.reduceLT, Nat.reduceAdd, Nat.reduceEqDiff, Nat.zero_add, true_and, Bool.not_true, Bool.false_eq_true, reduceCtorEq, Nat.le_refl]
  refine sw_call (hL) rfl (aAs_ok ?_) ?_ (sw_run 200 _ _ _ ?_)
  · simp only [aAs, aA, aDs, aD, tysD, tmsD, AS.ev, look, Option.getD, List.map, List.append_nil, ↓reduceIte, eq_self, and_self, tmC_eq, tysD, tmsD]
  · simp only [okR]
  cases p2
  · rw [b3 rfl]
    simp only [mkR, flatD, packA, retA, List.headD_cons, fQ, xRet, rPs, xRes, flatA, rD, rDs, eq_self, xRun, vE, vP, vNot, vExt, vBuild, vStore, isCutO, xFill, isB, bv, gN, isPick, isCall, AS.pt, AS.ev, AS.box, AS.setb, AS.mk', kill, look, cav, setRowG, AV.cells, AV.whole, AV.one, eatsOf, td0, td1, td2, td3, td4, td5, td6, Option.getD, Option.isSome, List.map, List.take, List.drop, List.length, List.getElem?_cons_zero, List.getElem?_cons_succ, List.set, List.foldr, List.all, List.nodup_nil, List.nil_append, List.cons_append, ↓reduceIte, Nat.reduceLT, Nat.reduceAdd, Nat.reduceEqDiff, Nat.zero_add, or_false, Bool.and_true, Bool.not_false, Bool.false_eq_true, reduceCtorEq, and_self, Nat.le_refl, sumC, imsD, zeroS, flC, Try.results7]
  · rw [← b2 rfl]
    simp only [mkR, flatD, packA, retA, List.headD_cons, fQ, xRet, rPs, xRes, flatA, rD, rDs, eq_self, xRun, vE, vP, vSub, vLoad, vNot, vExt, vStore, isCutO, isB, bv, gN, isPick, isCall, AS.pt, AS.ev, AS.box, AS.setb, AS.mk', AS.owf, kill, look, cav, setRowG, AV.cells, AV.whole, AV.one, eatsOf, td0, td1, td2, td3, td4, td5, td6, Option.bind, Option.getD, Option.isSome, List.map, List.take, List.drop, List.length, List.getElem?_cons_zero, List.getElem?_cons_succ, List.set, List.foldr, List.all, List.not_mem_nil, List.nodup_cons, List.nodup_nil, List.nil_append, List.cons_append, ↓reduceIte, Nat.reduceLT, Nat.reduceAdd, Nat.reduceEqDiff, Nat.zero_add, not_false_eq_true, or_false, Bool.and_true, Bool.not_true, Bool.false_eq_true, id_eq, reduceCtorEq, and_self, Nat.le_refl, sumC, imsD, Try.results7]
theorem con_linI : ∀ t : Tm, szL (tmC t) ≤ 100000000 → allTm isFm t = true → Con Try.prog 32 [.ag (tmC t)] [.ag (sumC (linT opI t).1), .one (.bool (linT opI t).2)] := by
  refine Tm.ind fun t ih hz ht => ?_
  obtain ⟨hf, hargs⟩ := allTm_t ht
  have hz8 := (sz_partsE hz).2.2
  by_cases h2 : t.kind = 2
  · have e : linT opI t = (⟨t.n, []⟩, true) := by rw [linT_leaf opI t (by omega), linL, if_pos h2]
    rw [e]
    refine con_run Try.func32 rfl rfl (by simp [Try.ntmps32]) ?_
    simp only [argT, argA, fQ, tysD, tmsD, xRet, rPs, xRes, flatA, rD, rDs, eq_self, xRun, vE, vP, vSub, vLoad, vFld, vBin, vBinT, isAg, isBo, vBuild, vStore, isCutO, xFill, isB, bv, gN, isPick, isCall, AS.pt, AS.ev, AS.box, AS.setb, look, cav, avB, setRowG, AV.cells, AV.whole, AV.one, eatsOf, td0, td1, td2, td3, td4, td5, td6, Option.getD, Option.isSome, List.map, List.length, List.getElem?_cons_zero, List.getElem?_cons_succ, List.set, List.all, List.nodup_nil, List.nil_append, List.cons_append, ↓reduceIte, Nat.reduceLT, Nat.reduceAdd, Nat.reduceLeDiff, Nat.reduceEqDiff, Nat.zero_add, Nat.add_zero, ne_eq, not_false_eq_true, or_false, Bool.and_true, Bool.false_eq_true, reduceCtorEq, decide_true, and_self, Nat.succ_ne_zero, Nat.le_refl, tmC_eq, tysD, tmsD, h2, sumC, imsD, flC, Try.ntmps32, Try.results32]
  by_cases h1 : t.kind = 1
  · have e : linT opI t = (⟨0, [⟨t.name, 1⟩]⟩, true) := by rw [linT_leaf opI t (by omega), linL, if_neg h2, if_pos h1]
    rw [e]
    refine con_run Try.func32 rfl rfl (by simp [Try.ntmps32]) ?_
    simp only [argT, argA, fQ, tysD, tmsD, xRet, rPs, xRes, flatA, rD, rDs, eq_self, xRun, vE, vP, vSub, vLoad, vFld, vBin, vBinT, isAg, isBo, vBuild, vRow, vStore, isCutO, xFill, isB, bv, gN, isPick, isCall, AS.pt, AS.ev, AS.box, AS.setb, AS.mk', AS.owf, kill, look, cav, avB, setRowG, AV.cells, AV.whole, AV.one, cD, cDs, eatsOf, dpOf, td0, td1, td2, td3, td4, td5, td6, Option.bind, Option.getD, Option.isSome, List.map, List.length, List.getElem?_cons_zero, List.getElem?_cons_succ, List.set, List.foldr, List.all, List.replicate, List.not_mem_nil, List.nodup_cons, List.nodup_nil, List.nil_append, List.cons_append, List.append_nil, ↓reduceIte, Nat.reduceLT, Nat.reduceAdd, Nat.reduceLeDiff, Nat.reduceEqDiff, Nat.zero_add, Nat.add_zero, Nat.zero_mul, Nat.one_mul, ne_eq, not_false_eq_true, or_false, or_true, Bool.and_true, Bool.false_eq_true, id_eq, reduceCtorEq, Int.reduceEq, decide_true, decide_false, and_self, Nat.succ_ne_zero, Nat.le_refl, tmC_eq, tysD, tmsD, h1, sumC, imsD, flC, imC, List.length_cons, Try.ntmps32, Try.results32]
  by_cases h4 : t.kind = 4
  case neg =>
    have e : linT opI t = (zeroS, false) := by rw [linT_leaf opI t h4, linL, if_neg h2, if_neg h1, if_neg h4]
    rw [e]
    refine con_run Try.func32 rfl rfl (by simp [Try.ntmps32]) ?_
    simp only [argT, argA, fQ, tysD, tmsD, xRet, rPs, xRes, flatA, rD, rDs, eq_self, xRun, vE, vP, vSub, vLoad, vFld, vBin, vBinT, isAg, isBo, vBuild, vStore, isCutO, xFill, isB, bv, gT, gW, gN, gV, isU, isPick, pkC, pkA, isCall, AS.pt, AS.kn, AS.ev, AS.box, AS.setb, look, cav, avB, setRowG, AV.cells, AV.whole, AV.one, eatsOf, td0, td1, td2, td3, td4, td5, td6, Option.bind, Option.getD, Option.isSome, List.map, List.length, List.getElem?_cons_zero, List.getElem?_cons_succ, List.set, List.all, List.nodup_nil, List.nil_append, List.cons_append, ↓reduceIte, Nat.reduceLT, Nat.reduceAdd, Nat.reduceEqDiff, Nat.zero_add, Nat.add_zero, ne_eq, not_false_eq_true, or_false, Bool.and_true, Bool.not_false, Bool.false_eq_true, Bool.true_eq_false, reduceCtorEq, decide_true, decide_false, and_self, Nat.succ_ne_zero, Nat.le_refl, tmC_eq, tysD, tmsD, h1, h2, h4, sumC, imsD, zeroS, flC, Try.ntmps32, Try.results32]
  obtain ⟨h0, hop⟩ := fm_op hf h4
  have e : linT opI t = if ((linT opI t.args[0]!).2 && (linT opI t.args[t.args.length - 1]!).2) = true then opI t.name (linT opI t.args[0]!).1 (linT opI t.args[t.args.length - 1]!).1 else (zeroS, false) := by rw [linT_eq opI t h0, linL, if_neg h2, if_neg h1, if_pos h4]
  by_cases hl : t.args.length = 2
  case neg =>
    have hl' : ¬ (t.args.length : Int) = 2 := by omega
    have e2 : linT opI t = (zeroS, false) := by
      rcases hop with hop | ⟨hop, _⟩
      · exact absurd hop hl
      · rw [e, hop, opI_none]; split <;> rfl
    rw [e2]
    refine con_run Try.func32 rfl rfl (by simp [Try.ntmps32]) ?_
    simp only [argT, argA, fQ, tysD, tmsD, xRet, rPs, xRes, flatA, rD, rDs, eq_self, xRun, vE, vP, vSub, vLoad, vFld, vBin, vBinT, isAg, isBo, vLen, vBuild, vStore, isCutO, xFill, isB, bv, gT, gW, gN, gV, isU, isPick, pkC, pkB, isCall, AS.pt, AS.kn, AS.ev, AS.box, AS.setb, AS.rd, look, cav, avB, setRowG, AV.cells, AV.whole, AV.one, eatsOf, td0, td1, td2, td3, td4, td5, td6, Option.bind, Option.getD, Option.isSome, List.map, List.length, List.getElem?_cons_zero, List.getElem?_cons_succ, List.set, List.all, List.nodup_nil, List.nil_append, List.cons_append, ↓reduceIte, Nat.reduceLT, Nat.reduceAdd, Nat.reduceEqDiff, Nat.zero_add, Nat.add_zero, ne_eq, not_false_eq_true, not_true_eq_false, or_false, Bool.and_true, Bool.false_eq_true, reduceCtorEq, Int.reduceEq, decide_true, decide_false, and_self, Nat.succ_ne_zero, Nat.le_refl, tmC_eq, tysD, tmsD, h4, hl', sumC, imsD, zeroS, flC, Try.ntmps32, Try.results32]
  have hl1 : (1 : Nat) < t.args.length := by omega
  rw [hl] at e
  simp only [Nat.reduceSub] at e
  have m0 := mem_bang h0
  have m1 := mem_bang hl1
  have s0 := szL_tms' t.args 0 h0
  have s1 := szL_tms' t.args 1 hl1
  have r0 := ih _ m0 (by omega) (hargs _ m0)
  have r1 := ih _ m1 (by omega) (hargs _ m1)
  have z0 := sz_lin opI sz_opI t.args[0]!
  have z1 := sz_lin opI sz_opI t.args[1]!
  have hR0 := tmsC_row' t.args 0 h0
  have hR1 := tmsC_row' t.args 1 hl1
  rw [e]
  have hl' : (t.args.length : Int) = 2 := by omega
  generalize linT opI t.args[0]! = p at *
  generalize linT opI t.args[1]! = q at *
  obtain ⟨p1, p2⟩ := p
  obtain ⟨q1, q2⟩ := q
  simp only at r0 r1 e z0 z1 ⊢
  have hA := con_AddI p1 q1 (by omega) (by omega)
  have hS := con_ScaleI q1 (-1) (by omega)
  have hA2 := con_AddI p1 (scR q1 (-1)) (by omega) (by have := sz_sc q1 (-1); omega)
  have hB := con_ScaleI q1 p1.const (by omega)
  have hC := con_ScaleI p1 q1.const (by omega)
  refine con_run Try.func32 rfl rfl (by simp [Try.ntmps32]) ?_
  simp only [argT, argA, tysD, tmsD, rowD, eq_self, xRun, vE, vP, vSub, vLoad, vFld, vIdx, vBin, vBinT, isAg, isBo, vLen, isCutO, isB, bv, gT, gW, gN, gV, isU, isPick, pkC, pkB, isCall, AS.pt, AS.kn, AS.ev, AS.box, AS.rd, look, cav, avB, AV.cells, AV.whole, AV.one, td0, td1, td2, td3, td4, td5, td6, Option.bind, Option.getD, Option.isSome, List.map, List.take, List.drop, List.length, List.getElem?_cons_zero, List.getElem?_cons_succ, List.all, ↓reduceIte, Nat.reduceLT, Nat.reduceAdd, Nat.reduceEqDiff, Nat.zero_add, Nat.add_zero, ne_eq, not_false_eq_true, not_true_eq_false, true_and, Bool.and_true, Bool.false_eq_true, reduceCtorEq, Int.reduceLT, Int.reduceEq, Int.reduceNeg, Int.toNat_zero, Int.le_refl, decide_false, and_self, Nat.succ_ne_zero, Nat.le_refl, tmC_eq, tysD, tmsD, h4, hl', hR0, Try.ntmps32]
  refine sw_call (r0) rfl (aAs_ok ?_) ?_ (sw_run 200 _ _ _ ?_)
  · simp only [aAs, aA, aDs, aD, tysD, tmsD, AS.ev, look, Option.getD, List.map, List.append_nil, ↓reduceIte, eq_self, and_self, tmC_eq]
  · simp only [okR]
  simp only [mkR, flatD, packA, retA, List.headD_cons, tysD, tmsD, rowD, eq_self, xRun, vE, vP, vSub, vLoad, vFld, vIdx, vExt, vStore, isCutO, gN, isPick, isCall, AS.pt, AS.ev, AS.box, AS.setb, AS.mk', kill, look, cav, avB, setRowG, AV.cells, AV.whole, AV.one, td0, td1, td2, td3, td4, td5, td6, Option.getD, Option.isSome, List.map, List.take, List.drop, List.length, List.getElem?_cons_zero, List.getElem?_cons_succ, List.set, List.foldr, List.all, List.nil_append, List.cons_append, ↓reduceIte, Nat.reduceLT, Nat.reduceAdd, Nat.reduceEqDiff, Nat.zero_add, ne_eq, not_false_eq_true, true_and, Bool.and_true, Bool.false_eq_true, reduceCtorEq, Int.reduceLT, Int.reduceLE, Int.reduceNeg, Int.toNat_one, and_self, Nat.succ_ne_zero, Nat.le_refl, hl', hR1, sumC, imsD, tmC_eq]
  refine sw_call (r1) rfl (aAs_ok ?_) ?_ (sw_run 200 _ _ _ ?_)
  · simp only [aAs, aA, aDs, aD, tysD, tmsD, AS.ev, look, Option.getD, List.map, List.append_nil, ↓reduceIte, eq_self, and_self, tmC_eq]
  · simp only [okR]
  cases p2
  · simp only [mkR, flatD, packA, retA, List.headD_cons, fQ, xRet, rPs, xRes, flatA, rD, rDs, eq_self, xRun, vE, vP, vNot, vExt, vBuild, vStore, isCutO, xFill, isB, bv, gT, gW, gN, gV, isU, isPick, pkC, pkA, isCall, AS.pt, AS.kn, AS.ev, AS.box, AS.setb, AS.mk', kill, look, cav, setRowG, AV.cells, AV.whole, AV.one, eatsOf, td0, td1, td2, td3, td4, td5, td6, Option.bind, Option.getD, Option.isSome, List.map, List.take, List.drop, List.length, List.getElem?_cons_zero, List.getElem?_cons_succ, List.set, List.foldr, List.all, List.nodup_nil, List.nil_append, List.cons_append, ↓reduceIte, Nat.reduceLT, Nat.reduceAdd, Nat.reduceEqDiff, Nat.zero_add, or_false, Bool.and_true, Bool.false_and, Bool.not_false, Bool.false_eq_true, Bool.true_eq_false, reduceCtorEq, and_self, Nat.le_refl, sumC, imsD, zeroS, flC, Bool.false_and, Bool.false_eq_true, Try.results32]
  cases q2
  · simp only [mkR, flatD, packA, retA, List.headD_cons, fQ, xRet, rPs, xRes, flatA, rD, rDs, eq_self, xRun, vE, vP, vNot, vExt, vBuild, vStore, isCutO, xFill, isB, bv, gT, gW, gN, gV, isU, isPick, pkC, pkB, isCall, AS.pt, AS.kn, AS.ev, AS.box, AS.setb, AS.mk', kill, look, cav, setRowG, AV.cells, AV.whole, AV.one, eatsOf, td0, td1, td2, td3, td4, td5, td6, Option.bind, Option.getD, Option.isSome, List.map, List.take, List.drop, List.length, List.getElem?_cons_zero, List.getElem?_cons_succ, List.set, List.foldr, List.all, List.nodup_nil, List.nil_append, List.cons_append, ↓reduceIte, Nat.reduceLT, Nat.reduceAdd, Nat.reduceEqDiff, Nat.zero_add, or_false, Bool.and_true, Bool.and_false, Bool.not_true, Bool.not_false, Bool.false_eq_true, reduceCtorEq, and_self, Nat.le_refl, sumC, imsD, zeroS, flC, Bool.false_eq_true, Try.results32]
  rcases pc (t.name = ⟨#[43]⟩) with g1 | g1
  · simp only [mkR, flatD, packA, retA, List.headD_cons, eq_self, xRun, vE, vP, vSub, vLoad, vFld, vBin, vBinT, isAg, isBo, vNot, vExt, vStore, isCutO, isB, bv, gT, gW, gN, gV, isU, isPick, pkC, pkB, isCall, AS.pt, AS.kn, AS.ev, AS.box, AS.setb, AS.mk', kill, look, cav, setRowG, AV.cells, AV.whole, AV.one, td0, td1, td2, td3, td4, td5, td6, Option.bind, Option.getD, Option.isSome, List.take, List.drop, List.length, List.getElem?_cons_zero, List.getElem?_cons_succ, List.set, List.foldr, List.all, List.nil_append, List.cons_append, ↓reduceIte, Nat.reduceLT, Nat.reduceAdd, Nat.reduceEqDiff, Nat.zero_add, ne_eq, not_false_eq_true, true_and, Bool.and_true, Bool.not_true, Bool.false_eq_true, reduceCtorEq, decide_true, and_self, Nat.succ_ne_zero, Nat.le_refl, sumC, imsD, g1, opI]
    refine sw_call (hA) rfl (aAs_ok ?_) ?_ (sw_run 200 _ _ _ ?_)
    · simp only [aAs, aA, aDs, aD, AS.ev, AS.owf, look, Option.bind, Option.getD, id_eq, List.map, List.append_nil, ↓reduceIte, Nat.reduceEqDiff, eq_self, and_self, sumC, imsD]
    · simp only [okR]
    simp only [mkR, flatD, packA, retA, List.headD_cons, fQ, xRet, rPs, xRes, flatA, rD, rDs, eq_self, xRun, vE, vP, vExt, vStore, isCutO, gN, isPick, isCall, AS.pt, AS.ev, AS.setb, AS.mk', AS.owf, kill, look, setRowG, AV.cells, AV.whole, AV.one, eatsOf, td0, td1, td2, td3, td4, td5, td6, Option.bind, Option.getD, Option.isSome, List.map, List.take, List.drop, List.length, List.getElem?_cons_zero, List.getElem?_cons_succ, List.set, List.foldr, List.all, List.not_mem_nil, List.nodup_cons, List.nodup_nil, List.nil_append, List.cons_append, ↓reduceIte, Nat.reduceLT, Nat.reduceAdd, Nat.reduceEqDiff, Nat.zero_add, not_false_eq_true, or_false, Bool.and_true, Bool.false_eq_true, id_eq, reduceCtorEq, and_self, Nat.le_refl, sumC, imsD, Try.results32]
  rcases pc (t.name = ⟨#[45]⟩) with g2 | g2
  · simp only [mkR, flatD, packA, retA, List.headD_cons, eq_self, xRun, vE, vP, vSub, vLoad, vFld, vBin, vBinT, isAg, isBo, vNot, vExt, vStore, isCutO, isB, bv, gT, gW, gN, gV, isU, isPick, pkC, pkB, isCall, AS.pt, AS.kn, AS.ev, AS.box, AS.setb, AS.mk', kill, look, cav, setRowG, AV.cells, AV.whole, AV.one, td0, td1, td2, td3, td4, td5, td6, Option.bind, Option.getD, Option.isSome, List.take, List.drop, List.length, List.getElem?_cons_zero, List.getElem?_cons_succ, List.set, List.foldr, List.all, List.nil_append, List.cons_append, ↓reduceIte, Nat.reduceLT, Nat.reduceAdd, Nat.reduceEqDiff, Nat.zero_add, ne_eq, not_false_eq_true, true_and, Bool.and_true, Bool.not_true, Bool.false_eq_true, reduceCtorEq, Int.reduceNeg, decide_true, decide_false, and_self, Nat.succ_ne_zero, Nat.le_refl, sumC, imsD, g1, g2, opI]
    refine sw_call (hS) rfl (aAs_ok ?_) ?_ (sw_run 200 _ _ _ ?_)
    · simp only [aAs, aA, aDs, aD, AS.ev, AS.owf, look, cav, Option.bind, Option.getD, id_eq, List.map, List.append_nil, ↓reduceIte, eq_self, and_self, sumC, imsD]
    · simp only [okR]
    cases hb : sumOk q1
    · simp only [mkR, flatD, packA, retA, List.headD_cons, fQ, xRet, rPs, xRes, flatA, rD, rDs, eq_self, xRun, vE, vP, vNot, vExt, vBuild, vStore, isCutO, xFill, isB, bv, gN, isPick, isCall, AS.pt, AS.ev, AS.box, AS.setb, AS.mk', kill, look, cav, setRowG, AV.cells, AV.whole, AV.one, eatsOf, td0, td1, td2, td3, td4, td5, td6, Option.getD, Option.isSome, List.map, List.take, List.drop, List.length, List.getElem?_cons_zero, List.getElem?_cons_succ, List.set, List.foldr, List.all, List.nodup_nil, List.nil_append, List.cons_append, ↓reduceIte, Nat.reduceLT, Nat.reduceAdd, Nat.reduceEqDiff, Nat.zero_add, or_false, Bool.and_true, Bool.not_false, Bool.false_eq_true, reduceCtorEq, Int.reduceNeg, and_self, Nat.le_refl, sumC, imsD, zeroS, flC, Bool.false_eq_true, Try.results32]
    simp only [mkR, flatD, packA, retA, List.headD_cons, eq_self, xRun, vE, vP, vSub, vLoad, vNot, vExt, vStore, isCutO, isB, bv, gN, isPick, isCall, AS.pt, AS.ev, AS.box, AS.setb, AS.mk', kill, look, setRowG, AV.cells, AV.whole, AV.one, td0, td1, td2, td3, td4, td5, td6, Option.getD, Option.isSome, List.take, List.drop, List.length, List.getElem?_cons_zero, List.getElem?_cons_succ, List.set, List.foldr, List.all, List.nil_append, List.cons_append, ↓reduceIte, Nat.reduceLT, Nat.reduceAdd, Nat.reduceEqDiff, Nat.zero_add, true_and, Bool.and_true, Bool.not_true, Bool.false_eq_true, Int.reduceNeg, and_self, Nat.le_refl, sumC, imsD]
    refine sw_call (hA2) rfl (aAs_ok ?_) ?_ (sw_run 200 _ _ _ ?_)
    · simp only [aAs, aA, aDs, aD, AS.ev, AS.owf, look, Option.bind, Option.getD, id_eq, List.map, List.append_nil, ↓reduceIte, Nat.reduceEqDiff, eq_self, and_self, sumC, imsD]
    · simp only [okR]
    simp only [mkR, flatD, packA, retA, List.headD_cons, fQ, xRet, rPs, xRes, flatA, rD, rDs, eq_self, xRun, vE, vP, vExt, vStore, isCutO, gN, isPick, isCall, AS.pt, AS.ev, AS.setb, AS.mk', AS.owf, kill, look, setRowG, AV.cells, AV.whole, AV.one, eatsOf, td0, td1, td2, td3, td4, td5, td6, Option.bind, Option.getD, Option.isSome, List.map, List.take, List.drop, List.length, List.getElem?_cons_zero, List.getElem?_cons_succ, List.set, List.foldr, List.all, List.not_mem_nil, List.nodup_cons, List.nodup_nil, List.nil_append, List.cons_append, ↓reduceIte, Nat.reduceLT, Nat.reduceAdd, Nat.reduceEqDiff, Nat.zero_add, not_false_eq_true, or_false, Bool.and_true, Bool.false_eq_true, id_eq, reduceCtorEq, Int.reduceNeg, and_self, Nat.le_refl, sumC, imsD, Try.results32]
  rcases pc (t.name = ⟨#[42]⟩) with g3 | g3
  · by_cases ha : p1.items.length = 0
    · have ha' : (p1.items.length : Int) = 0 := by omega
      simp only [mkR, flatD, packA, retA, List.headD_cons, eq_self, xRun, vE, vP, vSub, vLoad, vFld, vBin, vBinT, isAg, isBo, vNot, vLen, vExt, vStore, isCutO, isB, bv, gT, gW, gN, gV, isU, isPick, pkC, pkB, isCall, AS.pt, AS.kn, AS.ev, AS.box, AS.setb, AS.mk', AS.owf, AS.rd, kill, look, cav, setRowG, AV.cells, AV.whole, AV.one, td0, td1, td2, td3, td4, td5, td6, Option.bind, Option.getD, Option.map, Option.isSome, List.take, List.drop, List.length, List.getElem?_cons_zero, List.getElem?_cons_succ, List.set, List.foldr, List.all, List.nil_append, List.cons_append, ↓reduceIte, Nat.reduceLT, Nat.reduceAdd, Nat.reduceEqDiff, Nat.zero_add, Nat.add_zero, ne_eq, not_false_eq_true, true_and, Bool.and_true, Bool.not_true, Bool.false_eq_true, id_eq, reduceCtorEq, Int.natCast_zero, decide_true, decide_false, and_self, Nat.succ_ne_zero, Nat.le_refl, sumC, imsD, g1, g2, g3, opI, ha]
      refine sw_call (hB) rfl (aAs_ok ?_) ?_ (sw_run 200 _ _ _ ?_)
      · simp only [aAs, aA, aDs, aD, AS.ev, AS.owf, look, Option.bind, Option.getD, id_eq, List.map, List.append_nil, ↓reduceIte, Nat.reduceEqDiff, eq_self, and_self, sumC, imsD]
      · simp only [okR]
      simp only [mkR, flatD, packA, retA, List.headD_cons, fQ, xRet, rPs, xRes, flatA, rD, rDs, eq_self, xRun, vE, vP, vExt, vStore, isCutO, gN, isPick, isCall, AS.pt, AS.ev, AS.setb, AS.mk', AS.owf, kill, look, setRowG, AV.cells, AV.whole, AV.one, eatsOf, td0, td1, td2, td3, td4, td5, td6, Option.bind, Option.getD, Option.isSome, List.map, List.take, List.drop, List.length, List.getElem?_cons_zero, List.getElem?_cons_succ, List.set, List.foldr, List.all, List.not_mem_nil, List.nodup_cons, List.nodup_nil, List.nil_append, List.cons_append, ↓reduceIte, Nat.reduceLT, Nat.reduceAdd, Nat.reduceEqDiff, Nat.zero_add, not_false_eq_true, or_false, Bool.and_true, Bool.false_eq_true, id_eq, reduceCtorEq, and_self, Nat.le_refl, sumC, imsD, Try.results32]
    have ha' : ¬ (p1.items.length : Int) = 0 := by omega
    by_cases hb : q1.items.length = 0
    · have hb' : (q1.items.length : Int) = 0 := by omega
      simp only [mkR, flatD, packA, retA, List.headD_cons, eq_self, xRun, vE, vP, vSub, vLoad, vFld, vBin, vBinT, isAg, isBo, vNot, vLen, vExt, vStore, isCutO, isB, bv, gT, gW, gN, gV, isU, isPick, pkC, pkB, isCall, AS.pt, AS.kn, AS.ev, AS.box, AS.setb, AS.mk', AS.owf, AS.rd, kill, look, cav, setRowG, AV.cells, AV.whole, AV.one, td0, td1, td2, td3, td4, td5, td6, Option.bind, Option.getD, Option.map, Option.isSome, List.take, List.drop, List.length, List.getElem?_cons_zero, List.getElem?_cons_succ, List.set, List.foldr, List.all, List.nil_append, List.cons_append, ↓reduceIte, Nat.reduceLT, Nat.reduceAdd, Nat.reduceEqDiff, Nat.zero_add, Nat.add_zero, ne_eq, not_false_eq_true, true_and, Bool.and_true, Bool.not_true, Bool.false_eq_true, id_eq, reduceCtorEq, Int.natCast_zero, decide_true, decide_false, and_self, Nat.succ_ne_zero, Nat.le_refl, sumC, imsD, g1, g2, g3, opI, ha, ha', hb]
      refine sw_call (hC) rfl (aAs_ok ?_) ?_ (sw_run 200 _ _ _ ?_)
      · simp only [aAs, aA, aDs, aD, AS.ev, AS.owf, look, Option.bind, Option.getD, id_eq, List.map, List.append_nil, ↓reduceIte, Nat.reduceEqDiff, eq_self, and_self, sumC, imsD]
      · simp only [okR]
      simp only [mkR, flatD, packA, retA, List.headD_cons, fQ, xRet, rPs, xRes, flatA, rD, rDs, eq_self, xRun, vE, vP, vExt, vStore, isCutO, gN, isPick, isCall, AS.pt, AS.ev, AS.setb, AS.mk', AS.owf, kill, look, setRowG, AV.cells, AV.whole, AV.one, eatsOf, td0, td1, td2, td3, td4, td5, td6, Option.bind, Option.getD, Option.isSome, List.map, List.take, List.drop, List.length, List.getElem?_cons_zero, List.getElem?_cons_succ, List.set, List.foldr, List.all, List.not_mem_nil, List.nodup_cons, List.nodup_nil, List.nil_append, List.cons_append, ↓reduceIte, Nat.reduceLT, Nat.reduceAdd, Nat.reduceEqDiff, Nat.zero_add, not_false_eq_true, or_false, Bool.and_true, Bool.false_eq_true, id_eq, reduceCtorEq, and_self, Nat.le_refl, sumC, imsD, Try.results32]
    have hb' : ¬ (q1.items.length : Int) = 0 := by omega
    simp only [mkR, flatD, packA, retA, List.headD_cons, fQ, xRet, rPs, xRes, flatA, rD, rDs, eq_self, xRun, vE, vP, vSub, vLoad, vFld, vBin, vBinT, isAg, isBo, vNot, vLen, vExt, vBuild, vStore, isCutO, xFill, isB, bv, gT, gW, gN, gV, isU, isPick, pkC, pkB, isCall, AS.pt, AS.kn, AS.ev, AS.box, AS.setb, AS.mk', AS.owf, AS.rd, kill, look, cav, setRowG, AV.cells, AV.whole, AV.one, eatsOf, td0, td1, td2, td3, td4, td5, td6, Option.bind, Option.getD, Option.map, Option.isSome, List.map, List.take, List.drop, List.length, List.getElem?_cons_zero, List.getElem?_cons_succ, List.set, List.foldr, List.all, List.nodup_nil, List.nil_append, List.cons_append, ↓reduceIte, Nat.reduceLT, Nat.reduceAdd, Nat.reduceEqDiff, Nat.zero_add, ne_eq, not_false_eq_true, or_false, Bool.and_true, Bool.not_true, Bool.false_eq_true, id_eq, reduceCtorEq, decide_true, decide_false, and_self, Nat.succ_ne_zero, Nat.le_refl, sumC, imsD, g1, g2, g3, opI, ha, ha', hb, hb', zeroS, flC, Try.results32]
  simp only [mkR, flatD, packA, retA, List.headD_cons, fQ, xRet, rPs, xRes, flatA, rD, rDs, eq_self, xRun, vE, vP, vSub, vLoad, vFld, vBin, vBinT, isAg, isBo, vNot, vExt, vBuild, vStore, isCutO, xFill, isB, bv, gT, gW, gN, gV, isU, isPick, pkC, pkB, isCall, AS.pt, AS.kn, AS.ev, AS.box, AS.setb, AS.mk', kill, look, cav, setRowG, AV.cells, AV.whole, AV.one, eatsOf, td0, td1, td2, td3, td4, td5, td6, Option.bind, Option.getD, Option.isSome, List.map, List.take, List.drop, List.length, List.getElem?_cons_zero, List.getElem?_cons_succ, List.set, List.foldr, List.all, List.nodup_nil, List.nil_append, List.cons_append, ↓reduceIte, Nat.reduceLT, Nat.reduceAdd, Nat.reduceEqDiff, Nat.zero_add, ne_eq, not_false_eq_true, or_false, Bool.and_true, Bool.not_true, Bool.false_eq_true, reduceCtorEq, decide_false, and_self, Nat.succ_ne_zero, Nat.le_refl, sumC, imsD, g1, g2, g3, opI, zeroS, flC, Try.results32]
theorem con_LinI (t : Tm) (hz : szL (tmC t) ≤ 100000000) : Con Try.prog 9 [.ag (tmC t)] [.ag (sumC (linR t).1), .one (.bool (linR t).2)] := by
  have hT := con_IsTermI t (by omega)
  by_cases ht : allTm isFm t = true
  case neg =>
    have ht : allTm isFm t = false := by simpa using ht
    have e : linR t = (zeroS, false) := by rw [linR, ht]; rfl
    rw [ht] at hT
    rw [e]
    refine con_run Try.func9 rfl rfl (by simp [Try.ntmps9]) ?_
    simp only [argT, argA, tysD, tmsD, eq_self, xRun, vE, vP, vSub, vLoad, isCutO, gN, isPick, isCall, AS.pt, AS.ev, AS.box, look, cav, avB, AV.cells, AV.whole, AV.one, td0, td1, td2, td3, td4, td5, td6, Option.getD, Option.isSome, List.map, List.take, List.drop, List.length, List.all, ↓reduceIte, Nat.reduceLT, Nat.reduceAdd, Nat.reduceEqDiff, Nat.zero_add, true_and, Bool.and_true, Bool.false_eq_true, reduceCtorEq, Nat.le_refl, tmC_eq, tysD, tmsD, Try.ntmps9]
    refine sw_call (hT) rfl (aAs_ok ?_) ?_ (sw_run 200 _ _ _ ?_)
    · simp only [aAs, aA, aDs, aD, tysD, tmsD, AS.ev, look, Option.getD, List.map, List.append_nil, ↓reduceIte, eq_self, and_self, tmC_eq, tysD, tmsD]
    · simp only [okR]
    simp only [mkR, flatD, packA, retA, List.headD_cons, fQ, xRet, rPs, xRes, flatA, rD, rDs, eq_self, xRun, vE, vP, vNot, vBuild, vStore, isCutO, xFill, isB, bv, gN, isPick, isCall, AS.pt, AS.ev, AS.setb, look, cav, setRowG, AV.cells, AV.whole, AV.one, eatsOf, td0, td1, td2, td3, td4, td5, td6, Option.getD, Option.isSome, List.map, List.length, List.set, List.all, List.nodup_nil, List.nil_append, List.cons_append, ↓reduceIte, Nat.reduceLT, Nat.reduceAdd, Nat.reduceEqDiff, Nat.zero_add, or_false, Bool.and_true, Bool.not_false, Bool.false_eq_true, reduceCtorEq, and_self, Nat.le_refl, sumC, imsD, zeroS, flC, Try.results9]
  have e : linR t = linT opI t := by rw [linR, if_pos ht]
  have hL := con_linI t hz ht
  rw [ht] at hT
  rw [e]
  refine con_run Try.func9 rfl rfl (by simp [Try.ntmps9]) ?_
  simp only [argT, argA, tysD, tmsD, eq_self, xRun, vE, vP, vSub, vLoad, isCutO, gN, isPick, isCall, AS.pt, AS.ev, AS.box, look, cav, avB, AV.cells, AV.whole, AV.one, td0, td1, td2, td3, td4, td5, td6, Option.getD, Option.isSome, List.map, List.take, List.drop, List.length, List.all, ↓reduceIte, Nat.reduceLT, Nat.reduceAdd, Nat.reduceEqDiff, Nat.zero_add, true_and, Bool.and_true, Bool.false_eq_true, reduceCtorEq, Nat.le_refl, tmC_eq, tysD, tmsD, Try.ntmps9]
  refine sw_call (hT) rfl (aAs_ok ?_) ?_ (sw_run 200 _ _ _ ?_)
  · simp only [aAs, aA, aDs, aD, tysD, tmsD, AS.ev, look, Option.getD, List.map, List.append_nil, ↓reduceIte, eq_self, and_self, tmC_eq, tysD, tmsD]
  · simp only [okR]
  simp only [mkR, flatD, packA, retA, List.headD_cons, eq_self, xRun, vE, vP, vSub, vLoad, vNot, isCutO, isB, bv, gN, isPick, isCall, AS.pt, AS.ev, look, td0, td1, td2, td3, td4, td5, td6, Option.getD, List.take, List.drop, List.length, ↓reduceIte, Nat.reduceLT, Nat.reduceAdd, Nat.reduceEqDiff, Nat.zero_add, true_and, Bool.not_true, Bool.false_eq_true, reduceCtorEq, Nat.le_refl]
  refine sw_call (hL) rfl (aAs_ok ?_) ?_ (sw_run 200 _ _ _ ?_)
  · simp only [aAs, aA, aDs, aD, tysD, tmsD, AS.ev, look, Option.getD, List.map, List.append_nil, ↓reduceIte, eq_self, and_self, tmC_eq, tysD, tmsD]
  · simp only [okR]
  simp only [mkR, flatD, packA, retA, List.headD_cons, fQ, xRet, rPs, xRes, flatA, rD, rDs, eq_self, xRun, vE, vP, vExt, vStore, isCutO, gN, isPick, isCall, AS.pt, AS.ev, AS.setb, AS.mk', AS.owf, kill, look, setRowG, AV.cells, AV.whole, AV.one, eatsOf, td0, td1, td2, td3, td4, td5, td6, Option.bind, Option.getD, Option.isSome, List.map, List.take, List.drop, List.length, List.getElem?_cons_zero, List.getElem?_cons_succ, List.set, List.foldr, List.all, List.not_mem_nil, List.nodup_cons, List.nodup_nil, List.nil_append, List.cons_append, ↓reduceIte, Nat.reduceLT, Nat.reduceAdd, Nat.reduceEqDiff, Nat.zero_add, not_false_eq_true, or_false, Bool.and_true, Bool.false_eq_true, id_eq, reduceCtorEq, and_self, Nat.le_refl, sumC, imsD, Try.results9]
theorem lin_fit {t : Tm} (hz : szL (tmC t) ≤ 100000000) : ConfL (sumC (linR t).1) [.int, .sl .item] ∧ cntS (sumC (linR t).1) ≤ 17592186044416 := by
  have hs : szL (sumC (linR t).1) ≤ 100000040 := by
    rw [linR]
    split
    · have := sz_lin opI sz_opI t; omega
    · show szL (sumC zeroS) ≤ _; rw [sz_zeroS]; omega
  have hc := conf_sumC (s := (linR t).1) (by
    have : (linR t).1.items.length ≤ szL (sumC (linR t).1) := by simp only [sumC, imsD, szL, szD]; omega
    unfold maxLen; omega)
  have := cntS_bd hc
  exact ⟨hc, by omega⟩
end Go.Proofs.Ytgjcilainojlfaa
