import Derived.Test.YtaidalilfmjfgaaGreatNm
import Derived.Test.YtaidalilfmjfgaaGreatNum
import Derived.Sort.Walk0
import Derived.Test.YtaidalilfmjfgaaGreatUMark
import Derived.Test.YtaidalilfmjfgaaGreatBy
namespace Go.Proofs.YtaidalilfmjfgaaGreat
open Go.RowKit
set_option linter.unusedVariables false
set_option linter.unusedSimpArgs false
set_option maxRecDepth 20000
def asc (a b:ByteArray):Bool:=Op.bytesLess a.toList b.toList
theorem asc_leq (a b:ByteArray):(Op.bytesLess a.toList b.toList || decide (a=b)) = !asc b a:=by
 have e:(decide (a=b))=(a.toList == b.toList):=(ba_eq a b).symm
 rw [asc,bytesLess_eq,bytesLess_eq,e,Bool.eq_iff_iff]
 simp only [Bool.or_eq_true,decide_eq_true_eq,beq_iff_eq,Bool.not_eq_true',decide_eq_false_iff_not,List.not_lt]
 exact Iff.symm (List.le_iff_lt_or_eq)
def cfB (n:Int):Bool:=decide (1≤n) && decide (n≤10006)
def itOk (xs:List Im):Nat→Bool
 | 0=>nmB xs[0]!.name && cfB xs[0]!.coef
 | k+1=>nmB xs[k+1]!.name && cfB xs[k+1]!.coef && asc xs[k]!.name xs[k+1]!.name
def itAll (xs:List Im):Nat→Bool
 | 0=>true
 | k+1=>itAll xs k && itOk xs k
theorem itAll_le (xs : List Im) : ∀ n k, k ≤ n → itAll xs k = false → itAll xs n = false
  | 0, k, h, e => by obtain rfl : k = 0 := by omega
                     exact e
  | n + 1, k, h, e => by
    by_cases hk : k = n + 1
    · subst hk; exact e
    · rw [itAll, itAll_le xs n k (by omega) e]; rfl
def sumOk (s:Sm):Bool:=itAll s.items s.items.length && (numB s.const && decide ((s.items.length:Int)≤8))
theorem sumOk_f (s:Sm) (k:Nat) (hk:k<s.items.length) (h:itOk s.items k=false):sumOk s=false:=by
 rw [sumOk,itAll_le s.items _ (k+1) (by omega) (by rw [itAll,h,Bool.and_false])];rfl
theorem sz_im (s:Sm) (k:Nat) (hk:k<s.items.length):s.items[k]!.name.size≤szL (sumC s)∧s.items.length≤szL (sumC s):=by
 have:=szL_flC imC s.items k hk
 simp only [sumC,imsD,imC,szL,szD] at this ⊢
 omega
theorem con_IsSumI (s : Sm) (hz : szL (sumC s) ≤ 1000000000) : Con Tryz.prog 39 [.ag (sumC s)] [.one (.bool (sumOk s))] := by
  have hnb := con_isNumber s.const
  obtain ⟨b, hb⟩ : ∃ b, b = numB s.const := ⟨_, rfl⟩
  rw [← hb] at hnb
  refine con_run Tryz.func39 rfl rfl (by simp [Tryz.ntmps39]) ?_
  refine byP (fc Tryz.ntmps39 (fc sumC.eq_1 imsD.eq_1)) ?_
  refine sw_call (hnb) rfl (aAs_ok ?_) ?_ (sw_run 200 _ _ _ ?_)
  · exact byQ True.intro
  · simp only [okR]
  cases b
  · have hf : sumOk s = false := by rw [sumOk, ← hb, Bool.false_and, Bool.and_false]
    rw [hf]
    exact byP Tryz.results39 True.intro
  by_cases h8 : (8 : Int) < (s.items.length : Int)
  · have hf : sumOk s = false := by rw [sumOk, decide_eq_false (p := (s.items.length : Int) ≤ 8) (by omega), Bool.and_false, Bool.and_false]
    rw [hf]
    exact byP (fc h8 Tryz.results39) True.intro
  refine byP h8 ?_
  refine sw_loop (fun k : Nat => k ≤ s.items.length ∧ itAll s.items k = true) (fun k => ⟨50, [(18, .i k), (17, .i s.items.length), (16, .br (.rows 2 s.items.length (flC imC s.items))), (1, .bx 0 0)], [(0, [.i s.const, .br (.rows 2 s.items.length (flC imC s.items))])], [], 1, []⟩) (fun k => s.items.length - k) 0 id ⟨Nat.zero_le _, rfl⟩ ?_ ?_
  · exact byQ True.intro
  · rintro k ⟨hk, hall⟩
    refine sw_run 200 _ _ _ ?_
    by_cases hlt : k < s.items.length
    · have hi : (k : Int) < (s.items.length : Int) := by omega
      have hR := flC_row imC_len s.items k hlt
      obtain ⟨hsz, hsz2⟩ := sz_im s k hlt
      have hnm := con_IsNameI s.items[k]!.name (by omega)
      have hcf := con_within s.items[k]!.coef 1 10006
      rw [← cfB] at hcf
      cases k with
      | zero =>
        have hit : itOk s.items 0 = (nmB s.items[0]!.name && cfB s.items[0]!.coef) := rfl
        have hi2 : True := trivial
        have hRp : True := trivial
        simp only [Int.natCast_zero] at hi
        refine byP (fc hi (fc hR imC.eq_1)) ?_
        refine sw_drawn (.cons 0 true (.cons 1 true (.cons 2 false (.cons 3 true (.cons 4 true (.cons 5 true (.cons 6 true (.cons 7 false (.cons 8 true (.cons 9 true (.cons 10 true (.cons 11 true (.cons 12 true (.cons 13 true (.cons 14 true (.cons 15 true (.cons 16 true (.cons 17 true (.cons 18 true (.cons 19 true (.cons 20 true (.cons 21 true (.cons 22 true (.cons 23 true (.cons 24 true (.cons 25 true (.nil))))))))))))))))))))))))))) (by kernel_rfl) qLp_panic (by kernel_rfl) (sw_run 200 _ _ _ ?_)
        refine byQ ?_
        refine sw_callD (hnm) rfl (aAs_ok ?_) ?_ (sw_run 200 _ _ _ ?_)
        · exact byQ True.intro
        · simp only [okR]
        obtain ⟨b1, e1⟩ : ∃ b, b = nmB s.items[0]!.name := ⟨_, rfl⟩
        obtain ⟨b2, e2⟩ : ∃ b, b = cfB s.items[0]!.coef := ⟨_, rfl⟩
        rw [← e1] at hit
        rw [← e2] at hit hcf
        simp only [← e1]
        cases b1
        · rw [sumOk_f s 0 hlt (by rw [hit]; rfl)]
          exact byP Tryz.results39 True.intro
        refine byQ ?_
        refine sw_callD (hcf) rfl (aAs_ok ?_) ?_ (sw_run 200 _ _ _ ?_)
        · exact byQ True.intro
        · simp only [okR]
        cases b2
        · rw [sumOk_f s 0 hlt (by rw [hit]; rfl)]
          exact byP Tryz.results39 True.intro
        refine byQ ?_
        refine ⟨by unfold inI; omega, 1, id, ⟨by omega, by rw [itAll, hall, hit]; rfl⟩, by omega, ?_⟩
        exact byQ True.intro
      | succ k =>
        have hit : itOk s.items (k + 1) = (nmB s.items[k + 1]!.name && cfB s.items[k + 1]!.coef && asc s.items[k]!.name s.items[k + 1]!.name) := rfl
        have hi : (k : Int) + 1 < (s.items.length : Int) := by omega
        have hi2 : (k : Int) + 1 - 1 = (k : Int) := by omega
        have hpos : (0 : Int) < (k : Int) + 1 := by omega
        have ht : ((k : Int) + 1).toNat = k + 1 := by omega
        have hp2 : (0 : Int) ≤ (k : Int) + 1 := by omega
        have hilt : (k : Int) < (s.items.length : Int) := by omega
        have hRp := flC_row imC_len s.items k (by omega)
        refine byP (fc hi (fc hR (fc imC.eq_1 (fc ht hp2)))) ?_
        refine sw_drawn (.cons 0 true (.cons 1 true (.cons 2 false (.cons 3 true (.cons 4 true (.cons 5 true (.cons 6 true (.cons 7 false (.cons 8 true (.cons 9 true (.cons 10 true (.cons 11 true (.cons 12 true (.cons 13 true (.cons 14 true (.cons 15 true (.cons 16 true (.cons 17 true (.cons 18 true (.cons 19 true (.cons 20 true (.cons 21 true (.cons 22 true (.cons 23 true (.cons 24 true (.cons 25 true (.nil))))))))))))))))))))))))))) (by kernel_rfl) qLp_panic (by kernel_rfl) (sw_run 200 _ _ _ ?_)
        refine byQ ?_
        refine sw_callD (hnm) rfl (aAs_ok ?_) ?_ (sw_run 200 _ _ _ ?_)
        · exact byQ True.intro
        · simp only [okR]
        obtain ⟨b1, e1⟩ : ∃ b, b = nmB s.items[(k + 1)]!.name := ⟨_, rfl⟩
        obtain ⟨b2, e2⟩ : ∃ b, b = cfB s.items[(k + 1)]!.coef := ⟨_, rfl⟩
        rw [← e1] at hit
        rw [← e2] at hit hcf
        simp only [← e1]
        cases b1
        · rw [sumOk_f s (k + 1) hlt (by rw [hit]; rfl)]
          exact byP Tryz.results39 True.intro
        refine byQ ?_
        refine sw_callD (hcf) rfl (aAs_ok ?_) ?_ (sw_run 200 _ _ _ ?_)
        · exact byQ True.intro
        · simp only [okR]
        cases b2
        · rw [sumOk_f s (k + 1) hlt (by rw [hit]; rfl)]
          exact byP Tryz.results39 True.intro
        obtain ⟨b3, e3⟩ : ∃ b, b = asc s.items[k]!.name s.items[k + 1]!.name := ⟨_, rfl⟩
        rw [← e3] at hit
        have hcm := asc_leq s.items[k + 1]!.name s.items[k]!.name
        rw [← e3] at hcm
        cases b3
        · rw [sumOk_f s (k + 1) hlt (by rw [hit]; rfl)]
          refine byP (fc hRp (fc imC.eq_1 (fc hi2 (fc hilt (fc hpos (fc hcm Tryz.results39)))))) ?_
          all_goals (repeat' apply And.intro)
          all_goals first | omega | (unfold inI; omega)
        refine byP (fc hRp (fc imC.eq_1 (fc hi2 (fc hilt (fc hpos hcm))))) ?_
        refine ⟨by unfold inI; omega, by unfold inI; omega, k + 2, id, ⟨by omega, by rw [itAll, hall, hit]; rfl⟩, by omega, ?_⟩
        exact byQ True.intro
    · have hi : ¬ (k : Int) < (s.items.length : Int) := by omega
      obtain rfl : k = s.items.length := by omega
      refine byP hi ?_
      refine sw_run 200 _ _ _ ?_
      have hf : sumOk s = true := by rw [sumOk, hall, ← hb, decide_eq_true (p := (s.items.length : Int) ≤ 8) (by omega)]; rfl
      rw [hf]
      exact byP Tryz.results39 True.intro
theorem con_IsSumS (s : Sm) (hz : szL (sumC s) ≤ 1000000000) : Con Tryz.prog 40 [.ag (sumC s)] [.one (.bool (sumOk s))] := by
  refine con_run Tryz.func40 rfl rfl (by simp [Tryz.ntmps40]) ?_
  refine byP (fc Tryz.ntmps40 (fc sumC.eq_1 imsD.eq_1)) ?_
  refine sw_loop (fun k : Nat => k ≤ s.items.length ∧ itAll s.items k = true) (fun k => ⟨58, [(3, .i k), (1, .bx 0 0)], [(0, [.i s.const, .br (.rows 2 s.items.length (flC imC s.items))])], [], 1, []⟩) (fun k => s.items.length - k) 0 id ⟨Nat.zero_le _, rfl⟩ ?_ ?_
  · exact byQ True.intro
  · rintro k ⟨hk, hall⟩
    refine sw_run 200 _ _ _ ?_
    by_cases hlt : k < s.items.length
    · have hi : (k : Int) < (s.items.length : Int) := by omega
      have hR := flC_row imC_len s.items k hlt
      obtain ⟨hsz, hsz2⟩ := sz_im s k hlt
      have hnm := con_IsNameS s.items[k]!.name (by omega)
      have hcf := con_l1In s.items[k]!.coef 1 10006
      rw [← cfB] at hcf
      cases k with
      | zero =>
        have hit : itOk s.items 0 = (nmB s.items[0]!.name && cfB s.items[0]!.coef) := rfl
        have hi2 : True := trivial
        have hRp : True := trivial
        simp only [Int.natCast_zero] at hi
        refine byP hi ?_
        refine sw_drawn (.cons 0 true (.cons 1 true (.cons 2 true (.cons 3 true (.cons 4 true (.cons 5 true (.cons 6 false (.cons 7 true (.cons 8 true (.cons 9 true (.cons 10 true (.cons 11 true (.cons 12 true (.cons 13 true (.cons 14 true (.cons 15 false (.cons 16 true (.cons 17 true (.cons 18 true (.cons 19 true (.cons 20 true (.cons 21 true (.cons 22 true (.cons 23 true (.cons 24 true (.cons 25 true (.cons 26 true (.cons 27 true (.cons 28 true (.cons 29 true (.cons 30 true (.cons 31 true (.cons 32 true (.cons 33 true (.cons 34 true (.cons 35 true (.cons 36 true (.cons 37 true (.nil))))))))))))))))))))))))))))))))))))))) (by kernel_rfl) qLp_panic (by kernel_rfl) (sw_run 200 _ _ _ ?_)
        refine byP (fc hi (fc hR imC.eq_1)) ?_
        refine sw_callD (hnm) rfl (aAs_ok ?_) ?_ (sw_run 200 _ _ _ ?_)
        · exact byQ True.intro
        · simp only [okR]
        obtain ⟨b1, e1⟩ : ∃ b, b = nmB s.items[0]!.name := ⟨_, rfl⟩
        obtain ⟨b2, e2⟩ : ∃ b, b = cfB s.items[0]!.coef := ⟨_, rfl⟩
        rw [← e1] at hit
        rw [← e2] at hit hcf
        simp only [← e1]
        cases b1
        · rw [sumOk_f s 0 hlt (by rw [hit]; rfl)]
          exact byP Tryz.results40 True.intro
        refine byP (fc hi (fc hR imC.eq_1)) ?_
        refine sw_callD (hcf) rfl (aAs_ok ?_) ?_ (sw_run 200 _ _ _ ?_)
        · exact byQ True.intro
        · simp only [okR]
        cases b2
        · rw [sumOk_f s 0 hlt (by rw [hit]; rfl)]
          exact byP Tryz.results40 True.intro
        refine byQ ?_
        refine ⟨by unfold inI; omega, 1, id, ⟨by omega, by rw [itAll, hall, hit]; rfl⟩, by omega, ?_⟩
        exact byQ True.intro
      | succ k =>
        have hit : itOk s.items (k + 1) = (nmB s.items[k + 1]!.name && cfB s.items[k + 1]!.coef && asc s.items[k]!.name s.items[k + 1]!.name) := rfl
        have hi : (k : Int) + 1 < (s.items.length : Int) := by omega
        have hi2 : (k : Int) + 1 - 1 = (k : Int) := by omega
        have hpos : (0 : Int) < (k : Int) + 1 := by omega
        have ht : ((k : Int) + 1).toNat = k + 1 := by omega
        have hp2 : (0 : Int) ≤ (k : Int) + 1 := by omega
        have hilt : (k : Int) < (s.items.length : Int) := by omega
        have hRp := flC_row imC_len s.items k (by omega)
        refine byP hi ?_
        refine sw_drawn (.cons 0 true (.cons 1 true (.cons 2 true (.cons 3 true (.cons 4 true (.cons 5 true (.cons 6 false (.cons 7 true (.cons 8 true (.cons 9 true (.cons 10 true (.cons 11 true (.cons 12 true (.cons 13 true (.cons 14 true (.cons 15 false (.cons 16 true (.cons 17 true (.cons 18 true (.cons 19 true (.cons 20 true (.cons 21 true (.cons 22 true (.cons 23 true (.cons 24 true (.cons 25 true (.cons 26 true (.cons 27 true (.cons 28 true (.cons 29 true (.cons 30 true (.cons 31 true (.cons 32 true (.cons 33 true (.cons 34 true (.cons 35 true (.cons 36 true (.cons 37 true (.nil))))))))))))))))))))))))))))))))))))))) (by kernel_rfl) qLp_panic (by kernel_rfl) (sw_run 200 _ _ _ ?_)
        refine byP (fc hi (fc hR (fc imC.eq_1 (fc ht hp2)))) ?_
        refine sw_callD (hnm) rfl (aAs_ok ?_) ?_ (sw_run 200 _ _ _ ?_)
        · exact byQ True.intro
        · simp only [okR]
        obtain ⟨b1, e1⟩ : ∃ b, b = nmB s.items[(k + 1)]!.name := ⟨_, rfl⟩
        obtain ⟨b2, e2⟩ : ∃ b, b = cfB s.items[(k + 1)]!.coef := ⟨_, rfl⟩
        rw [← e1] at hit
        rw [← e2] at hit hcf
        simp only [← e1]
        cases b1
        · rw [sumOk_f s (k + 1) hlt (by rw [hit]; rfl)]
          exact byP Tryz.results40 True.intro
        refine byP (fc hi (fc hR (fc imC.eq_1 (fc ht hp2)))) ?_
        refine sw_callD (hcf) rfl (aAs_ok ?_) ?_ (sw_run 200 _ _ _ ?_)
        · exact byQ True.intro
        · simp only [okR]
        cases b2
        · rw [sumOk_f s (k + 1) hlt (by rw [hit]; rfl)]
          exact byP Tryz.results40 True.intro
        obtain ⟨b3, e3⟩ : ∃ b, b = asc s.items[k]!.name s.items[k + 1]!.name := ⟨_, rfl⟩
        rw [← e3] at hit
        have hcm : Op.bytesLess s.items[k]!.name.toList s.items[k + 1]!.name.toList = b3 := e3.symm
        cases b3
        · rw [sumOk_f s (k + 1) hlt (by rw [hit]; rfl)]
          refine byP (fc hi (fc hR (fc hRp (fc imC.eq_1 (fc hi2 (fc hilt (fc hpos (fc ht (fc hp2 (fc hcm Tryz.results40)))))))))) ?_
          all_goals (repeat' apply And.intro)
          all_goals first | omega | (unfold inI; omega)
        refine byP (fc hi (fc hR (fc hRp (fc imC.eq_1 (fc hi2 (fc hilt (fc hpos (fc ht (fc hp2 hcm))))))))) ?_
        refine ⟨by unfold inI; omega, by unfold inI; omega, k + 2, id, ⟨by omega, by rw [itAll, hall, hit]; rfl⟩, by omega, ?_⟩
        exact byQ True.intro
    · have hi : ¬ (k : Int) < (s.items.length : Int) := by omega
      obtain rfl : k = s.items.length := by omega
      refine byP hi ?_
      refine sw_run 200 _ _ _ ?_
      have hnb := con_l1In s.const 0 10006
      rw [← numB] at hnb
      obtain ⟨b, hb⟩ : ∃ b, b = numB s.const := ⟨_, rfl⟩
      rw [← hb] at hnb
      have hf : sumOk s = (b && decide ((s.items.length : Int) ≤ 8)) := by rw [sumOk, hall, ← hb, Bool.true_and]
      rw [hf]
      refine byQ ?_
      refine sw_call (hnb) rfl (aAs_ok ?_) ?_ (sw_run 200 _ _ _ ?_)
      · exact byQ True.intro
      · simp only [okR]
      cases b
      · exact byP Tryz.results40 True.intro
      · exact byP Tryz.results40 True.intro
theorem tmodM (n:Int):n.tmod 10007=if 0≤n then n % 10007 else -((-n) % 10007):=by
 split
 ·rename_i h;exact Int.tmod_eq_emod_of_nonneg h
 ·rename_i h
  have:n.tmod 10007 = -((-n).tmod 10007):=by rw [Int.neg_tmod];omega
  rw [this,Int.tmod_eq_emod_of_nonneg (by omega)]
theorem con_ReduceI (n:Int):Con Tryz.prog 98 [.one (.int n)] [.one (.int (n % 10007))]:=by
 have h:=tmodM n
 have hb : -10006≤n.tmod 10007∧n.tmod 10007≤10006:=by rw [h];split <;> omega
 have h2:(n.tmod 10007+10007).tmod 10007=n % 10007:=by rw [tmodM,h];split <;> split <;> omega
 refine con_run Tryz.func98 rfl rfl (by simp [Tryz.ntmps98]) ?_
 refine byP (fc h2 (fc Tryz.ntmps98 Tryz.results98)) ?_
 unfold inI;omega
theorem con_ReduceS (n:Int):Con Tryz.prog 102 [.one (.int n)] [.one (.int (n % 10007))]:=by
 have h:=tmodM n
 have hb : -10006≤n.tmod 10007∧n.tmod 10007≤10006:=by rw [h];split <;> omega
 refine con_run Tryz.func102 rfl rfl (by simp [Tryz.ntmps102]) ?_
 by_cases hn:n.tmod 10007<0
 ·have h2:n.tmod 10007+10007=n % 10007:=by rw [h] at hn ⊢; split at hn <;> split <;> omega
  refine byP (fc hn (fc h2 (fc Tryz.ntmps102 Tryz.results102))) ?_
  unfold inI;omega
 ·have h2:n.tmod 10007=n % 10007:=by rw [h] at hn ⊢; split at hn <;> split <;> omega
  rw [h2] at hn
  exact byP (fc h2 (fc hn (fc Tryz.ntmps102 Tryz.results102))) True.intro
def scItems (xs:List Im) (m:Int):Nat→List Im
 | 0=>[]
 | k+1=>if (xs[k]!.coef * m) % 10007=0 then scItems xs m k else scItems xs m k++[⟨xs[k]!.name,(xs[k]!.coef * m) % 10007⟩]
theorem scItems_len (xs:List Im) (m:Int):∀ k,(scItems xs m k).length≤k
 | 0=>Nat.le_refl _
 | k+1=>by have:=scItems_len xs m k;rw [scItems];split <;> simp <;> omega
def scS (s:Sm) (m:Int):Sm:=⟨(s.const * m) % 10007,scItems s.items m s.items.length⟩
def zeroS:Sm:=⟨0,[]⟩
def scR (s:Sm) (n:Int):Sm:=if sumOk s=true then scS s (n % 10007) else zeroS
theorem itAll_at (xs : List Im) : ∀ n, itAll xs n = true → ∀ k, k < n → itOk xs k = true
  | 0, _, k, h => by omega
  | n + 1, h, k, hk => by
    rw [itAll, Bool.and_eq_true] at h
    by_cases e : k = n
    · subst e; exact h.2
    · exact itAll_at xs n h.1 k (by omega)
theorem itOk_base (xs:List Im) (k:Nat) (h:itOk xs k=true):nmB xs[k]!.name=true∧cfB xs[k]!.coef=true:=by
 cases k with
 | zero=>rw [itOk,Bool.and_eq_true] at h;exact h
 | succ k=>rw [itOk,Bool.and_eq_true,Bool.and_eq_true] at h;exact h.1
theorem cfB_t {n:Int} (h:cfB n=true):1≤n∧n≤10006:=by simpa [cfB] using h
theorem sumOk_t {s:Sm} (h:sumOk s=true):itAll s.items s.items.length=true∧(0≤s.const∧s.const≤10006)∧s.items.length≤8:=by
 rw [sumOk,Bool.and_eq_true,Bool.and_eq_true] at h
 exact ⟨h.1,numB_t h.2.1,by have:=of_decide_eq_true h.2.2;omega⟩
theorem asc_trans {a b c:ByteArray} (h1:asc a b=true) (h2:asc b c=true):asc a c=true:=by
 rw [asc,bytesLess_eq] at *
 exact decide_eq_true (List.lt_trans (of_decide_eq_true h1) (of_decide_eq_true h2))
theorem asc_far (xs : List Im) (n : Nat) (h : itAll xs n = true) : ∀ k, k < n → ∀ j, j < k → asc xs[j]!.name xs[k]!.name = true
  | 0, _, j, hj => by omega
  | k + 1, hk, j, hj => by
    have h1 := itAll_at xs n h (k + 1) hk
    rw [itOk, Bool.and_eq_true] at h1
    by_cases e : j = k
    · subst e; exact h1.2
    · exact asc_trans (asc_far xs n h k (by omega) j (by omega)) h1.2
theorem bang_app {α:Type} [Inhabited α] (l r:List α) (i:Nat) (h:i<l.length):(l++r)[i]! = l[i]! := by
 rw [getElem!_pos (l++r) i (by simp;omega),getElem!_pos l i h,List.getElem_append_left]
theorem bang_end {α:Type} [Inhabited α] (l:List α) (y:α):(l++[y])[l.length]! = y:=by
 rw [getElem!_pos (l++[y]) l.length (by simp)];simp
theorem itAll_app (l r : List Im) : ∀ k, k ≤ l.length → itAll (l ++ r) k = itAll l k
  | 0, _ => rfl
  | k + 1, h => by
    rw [itAll, itAll, itAll_app l r k (by omega)]
    congr 1
    cases k with
    | zero => rw [itOk, itOk, bang_app l r 0 h]
    | succ k => rw [itOk, itOk, bang_app l r (k + 1) h, bang_app l r k (by omega)]
theorem itAll_snoc (l : List Im) (y : Im) (h : itAll l l.length = true) (h1 : nmB y.name = true) (h2 : cfB y.coef = true) (h3 : ∀ x ∈ l, asc x.name y.name = true) : itAll (l ++ [y]) (l ++ [y]).length = true := by
  rw [List.length_append, List.length_cons, List.length_nil, Nat.zero_add, itAll, itAll_app l [y] l.length (Nat.le_refl _), h, Bool.true_and]
  cases hl : l.length with
  | zero =>
    have := bang_end l y
    rw [hl] at this
    rw [itOk, this, h1, h2]; rfl
  | succ k =>
    have := bang_end l y
    rw [hl] at this
    rw [itOk, this, h1, h2, bang_app l [y] k (by omega)]
    rw [h3 _ (mem_bang (by omega))]; rfl
theorem sc_good (xs : List Im) (m : Int) (n : Nat) (h : itAll xs n = true) : ∀ k, k ≤ n → itAll (scItems xs m k) (scItems xs m k).length = true ∧ ∀ y ∈ scItems xs m k, ∃ j, j < k ∧ y.name = xs[j]!.name
  | 0, _ => ⟨rfl, fun y hy => by cases hy⟩
  | k + 1, hk => by
    obtain ⟨h1, h2⟩ := sc_good xs m n h k (by omega)
    have hb := itOk_base xs k (itAll_at xs n h k (by omega))
    rw [scItems]
    split
    · exact ⟨h1, fun y hy => by obtain ⟨j, hj, e⟩ := h2 y hy; exact ⟨j, by omega, e⟩⟩
    · rename_i hne
      refine ⟨itAll_snoc _ _ h1 hb.1 ?_ fun x hx => ?_, fun y hy => ?_⟩
      · have : 1 ≤ (xs[k]!.coef * m) % 10007 ∧ (xs[k]!.coef * m) % 10007 ≤ 10006 := by omega
        show cfB ((xs[k]!.coef * m) % 10007) = true
        rw [cfB, decide_eq_true this.1, decide_eq_true this.2]; rfl
      · obtain ⟨j, hj, e⟩ := h2 x hx
        rw [e]
        exact asc_far xs n h k (by omega) j hj
      · rcases List.mem_append.mp hy with hy | hy
        · obtain ⟨j, hj, e⟩ := h2 y hy; exact ⟨j, by omega, e⟩
        · rw [List.mem_singleton.mp hy]; exact ⟨k, by omega, rfl⟩
theorem sc_ok {s:Sm} (m:Int) (h:sumOk s=true):sumOk (scS s m)=true:=by
 obtain ⟨h1,h2,h3⟩:=sumOk_t h
 have h4:=(sc_good s.items m _ h1 _ (Nat.le_refl _)).1
 have h5:=scItems_len s.items m s.items.length
 have h6:numB ((s.const * m) % 10007)=true:=by
  have:0≤(s.const * m) % 10007∧(s.const * m) % 10007≤10006:=by omega
  rw [numB,decide_eq_true this.1,decide_eq_true this.2];rfl
 rw [sumOk,scS,h4,h6,decide_eq_true (by simp only;omega)];rfl
theorem nm_size {s:ByteArray} (h:nmB s=true):s.size≤4:=by
 rw [nmB,Bool.and_eq_true,Bool.and_eq_true,Bool.and_eq_true] at h
 have:=of_decide_eq_true h.2.1.2
 omega
theorem sz_sumOk {s:Sm} (h:sumOk s=true):szL (sumC s)≤40:=by
 obtain ⟨h1,h2,h3⟩:=sumOk_t h
 have h4:szL (flC imC s.items)≤s.items.length * 4:=szL_fl imC 4 s.items fun y hy=>by
  obtain ⟨j,hj,rfl⟩:=List.mem_iff_getElem.mp hy
  have:=nm_size (itOk_base s.items j (itAll_at s.items _ h1 j hj)).1
  rw [getElem!_pos s.items j hj] at this
  simp only [imC,szL,szD];omega
 simp only [sumC,imsD,szL,szD];omega
theorem sz_zeroS:szL (sumC zeroS)=0:=rfl
def chkS (s:Sm):Sm:=if sumOk s=true then s else zeroS
theorem con_checked (s:Sm) (hz:szL (sumC s)≤1000000000):ConM Tryz.prog 101 [.g (sumC s)] [.ag (sumC (chkS s)),.one (.bool (sumOk s))]:=by
 have hi:=con_IsSumI s hz
 obtain ⟨b,hb⟩:∃ b,b=sumOk s:=⟨_,rfl⟩
 rw [chkS]
 rw [← hb] at hi ⊢
 simp only [sumC,imsD] at hi
 refine con_runM Tryz.func101 rfl rfl (by simp [Tryz.ntmps101]) ?_
 refine byP (fc sumC.eq_1 (fc imsD.eq_1 Tryz.ntmps101)) ?_
 refine sw_call (hi) rfl (aAs_ok ?_) ?_ (sw_run 200 _ _ _ ?_)
 ·exact byQ True.intro
 ·simp only [okR]
 cases b
 ·simp only [push_cast,↓reduceIte,Nat.reduceLT,Nat.reduceAdd,Nat.reduceEqDiff,reduceCtorEq,zeroS,flC,Tryz.results101]
 ·exact byP Tryz.results101 True.intro
theorem con_l19Done (s:Sm) (hz:szL (sumC s)≤1000000000):ConM Tryz.prog 104 [.g (sumC s)] [.ag (sumC (chkS s)),.one (.bool (sumOk s))]:=by
 have hi:=con_IsSumS s hz
 obtain ⟨b,hb⟩:∃ b,b=sumOk s:=⟨_,rfl⟩
 rw [chkS]
 rw [← hb] at hi ⊢
 simp only [sumC,imsD] at hi
 refine con_runM Tryz.func104 rfl rfl (by simp [Tryz.ntmps104]) ?_
 refine byP (fc sumC.eq_1 (fc imsD.eq_1 Tryz.ntmps104)) ?_
 refine sw_call (hi) rfl (aAs_ok ?_) ?_ (sw_run 200 _ _ _ ?_)
 ·exact byQ True.intro
 ·simp only [okR]
 cases b
 ·simp only [push_cast,↓reduceIte,Nat.reduceLT,Nat.reduceAdd,Nat.reduceEqDiff,reduceCtorEq,zeroS,flC,Tryz.results104]
 ·exact byP Tryz.results104 True.intro
theorem con_ScaleI (s:Sm) (n:Int) (hz:szL (sumC s)≤1000000000):Con Tryz.prog 36 [.ag (sumC s),.one (.int n)] [.ag (sumC (scR s n)),.one (.bool (sumOk s))]:=by
 have hi:=con_IsSumI s hz
 by_cases hok:sumOk s=true
 case neg =>
  have hok:sumOk s=false:=by simpa using hok
  have hR:scR s n=zeroS:=by rw [scR,hok];rfl
  rw [hok] at hi ⊢
  rw [hR]
  simp only [sumC,imsD] at hi
  refine con_run Tryz.func36 rfl rfl (by simp [Tryz.ntmps36]) ?_
  refine byP (fc sumC.eq_1 (fc imsD.eq_1 Tryz.ntmps36)) ?_
  refine sw_call (hi) rfl (aAs_ok ?_) ?_ (sw_run 200 _ _ _ ?_)
  ·exact byQ True.intro
  ·simp only [okR]
  simp only [push_cast,↓reduceIte,Nat.reduceLT,Nat.reduceAdd,Nat.reduceEqDiff,reduceCtorEq,zeroS,flC,Tryz.results36]
 have hR:scR s n=scS s (n % 10007):=by rw [scR,if_pos hok]
 obtain ⟨hall,hcn,hl8⟩:=sumOk_t hok
 have hmulc:inI (s.const * (n % 10007)):=by
  have h1:0≤s.const * (n % 10007):=Int.mul_nonneg (by omega) (by omega)
  have h2:s.const * (n % 10007)≤10006 * 10006:=Int.mul_le_mul (by omega) (by omega) (by omega) (by omega)
  unfold inI;omega
 rw [hok] at hi ⊢
 rw [hR]
 simp only [sumC,imsD] at hi
 refine con_run Tryz.func36 rfl rfl (by simp [Tryz.ntmps36]) ?_
 refine byP (fc sumC.eq_1 (fc imsD.eq_1 Tryz.ntmps36)) ?_
 refine sw_call (hi) rfl (aAs_ok ?_) ?_ (sw_run 200 _ _ _ ?_)
 ·exact byQ True.intro
 ·simp only [okR]
 refine byQ ?_
 refine sw_call (con_ReduceI n) rfl (aAs_ok ?_) ?_ (sw_run 200 _ _ _ ?_)
 ·exact byQ True.intro
 ·simp only [okR]
 refine byQ ?_
 refine ⟨hmulc, ?_⟩
 refine sw_call (con_ReduceI (s.const * (n % 10007))) rfl (aAs_ok ?_) ?_ (sw_run 200 _ _ _ ?_)
 ·exact byQ True.intro
 ·simp only [okR]
 refine byQ ?_
 refine sw_ownB 2 1 149 rfl rfl ?_
 refine sw_loop (fun k:Nat=>k≤s.items.length) (fun k=>⟨50,[(25,.i k),(24,.i s.items.length),(23,.br (.rows 2 s.items.length (flC imC s.items))),(1,.i (n % 10007)),(2,.bx 0 0),(4,.bx 1 0),(6,.bx 2 0)],[(0,[.i s.const,.br (.rows 2 s.items.length (flC imC s.items))]),(1,[.i 0,.nl 2]),(2,[.i ((s.const * (n % 10007)) % 10007),.sl 3])],[(3,some ⟨.rows 2 (scItems s.items (n % 10007) k).length (flC imC (scItems s.items (n % 10007) k)),some 149,true⟩)],4,[]⟩) (fun k=>s.items.length-k) 0 id (Nat.zero_le _) ?_ ?_
 ·simp only [push_cast,Sub,subT,subB,subO,subP,inj,AV.ren,AV.rens,AV.lt,AV.lts,↓reduceIte,Nat.reduceLT,Nat.reduceAdd,Nat.reduceEqDiff,reduceCtorEq,scItems,flC,List.length_nil]
 ·rintro k hk
  refine sw_run 200 _ _ _ ?_
  by_cases hlt:k<s.items.length
  ·have hi:(k:Int)<(s.items.length:Int):=by omega
   have hco:=cfB_t (itOk_base s.items k (itAll_at s.items _ hall k hlt)).2
   have hmul:inI (s.items[k]!.coef * (n % 10007)):=by
    have h1:0≤s.items[k]!.coef * (n % 10007):=Int.mul_nonneg (by omega) (by omega)
    have h2:s.items[k]!.coef * (n % 10007)≤10006 * 10006:=Int.mul_le_mul (by omega) (by omega) (by omega) (by omega)
    unfold inI;omega
   have hR:=flC_row imC_len s.items k hlt
   have hl:=scItems_len s.items (n % 10007) k
   have hsn:scItems s.items (n % 10007) (k+1)=if (s.items[k]!.coef * (n % 10007)) % 10007=0 then scItems s.items (n % 10007) k else scItems s.items (n % 10007) k++[⟨s.items[k]!.name,(s.items[k]!.coef * (n % 10007)) % 10007⟩]:=rfl
   refine byP (fc hi (fc hR imC.eq_1)) ?_
   refine ⟨hmul, ?_⟩
   refine sw_call (con_ReduceI (s.items[k]!.coef * (n % 10007))) rfl (aAs_ok ?_) ?_ (sw_run 200 _ _ _ ?_)
   ·exact byQ True.intro
   ·simp only [okR]
   by_cases hc0:(s.items[k]!.coef * (n % 10007)) % 10007=0
   ·rw [if_pos hc0] at hsn
    refine byP hc0 ?_
    refine ⟨by unfold inI;omega,k+1,id,by omega,by omega, ?_⟩
    exact byP hsn True.intro
   rw [if_neg hc0] at hsn
   refine byP hc0 ?_
   refine ⟨⟨fun h=>h.elim,fun o ho=>by omega,by unfold maxLen;omega,by omega⟩,by unfold inI;omega,k+1,rn1 3 6,by omega,by omega, ?_⟩
   simp only [push_cast,Sub,subT,subB,subO,subP,inj,AV.ren,AV.rens,AV.lt,AV.lts,↓reduceIte,Nat.reduceLT,Nat.reduceEqDiff,reduceCtorEq,rn1,cast1,hsn,flC_app,flC_one,List.length_append,imC]
  ·have hi:¬ (k:Int)<(s.items.length:Int):=by omega
   obtain rfl:k=s.items.length:=by omega
   refine byP hi ?_
   refine sw_run 200 _ _ _ ?_
   have hck:=con_checked (scS s (n % 10007)) (by have:=sz_sumOk (sc_ok (n % 10007) hok);omega)
   have hcs:chkS (scS s (n % 10007))=scS s (n % 10007):=by rw [chkS,if_pos (sc_ok _ hok)]
   rw [hcs,sc_ok _ hok] at hck
   simp only [sumC,imsD,scS] at hck
   refine byQ ?_
   refine sw_callM hck rfl ?_ ?_ ?_ (sw_run 200 _ _ _ ?_)
   ·simp only [push_cast,mAs,mA,↓reduceIte]
   ·exact byQ True.intro
   ·exact byQ True.intro
   exact byP (fc scS.eq_1 Tryz.results36) True.intro
theorem con_ScaleS (s:Sm) (n:Int) (hz:szL (sumC s)≤1000000000):Con Tryz.prog 37 [.ag (sumC s),.one (.int n)] [.ag (sumC (scR s n)),.one (.bool (sumOk s))]:=by
 have hi:=con_IsSumS s hz
 by_cases hok:sumOk s=true
 case neg =>
  have hok:sumOk s=false:=by simpa using hok
  have hR:scR s n=zeroS:=by rw [scR,hok];rfl
  rw [hok] at hi ⊢
  rw [hR]
  simp only [sumC,imsD] at hi
  refine con_run Tryz.func37 rfl rfl (by simp [Tryz.ntmps37]) ?_
  refine byP (fc sumC.eq_1 (fc imsD.eq_1 Tryz.ntmps37)) ?_
  refine sw_call (hi) rfl (aAs_ok ?_) ?_ (sw_run 200 _ _ _ ?_)
  ·exact byQ True.intro
  ·simp only [okR]
  simp only [push_cast,↓reduceIte,Nat.reduceLT,Nat.reduceAdd,Nat.reduceEqDiff,reduceCtorEq,zeroS,flC,Tryz.results37]
 have hR:scR s n=scS s (n % 10007):=by rw [scR,if_pos hok]
 obtain ⟨hall,hcn,hl8⟩:=sumOk_t hok
 have hmulc:inI (s.const * (n % 10007)):=by
  have h1:0≤s.const * (n % 10007):=Int.mul_nonneg (by omega) (by omega)
  have h2:s.const * (n % 10007)≤10006 * 10006:=Int.mul_le_mul (by omega) (by omega) (by omega) (by omega)
  unfold inI;omega
 rw [hok] at hi ⊢
 rw [hR]
 simp only [sumC,imsD] at hi
 refine con_run Tryz.func37 rfl rfl (by simp [Tryz.ntmps37]) ?_
 refine byP (fc sumC.eq_1 (fc imsD.eq_1 Tryz.ntmps37)) ?_
 refine sw_call (hi) rfl (aAs_ok ?_) ?_ (sw_run 200 _ _ _ ?_)
 ·exact byQ True.intro
 ·simp only [okR]
 refine byQ ?_
 refine sw_call (con_ReduceS n) rfl (aAs_ok ?_) ?_ (sw_run 200 _ _ _ ?_)
 ·exact byQ True.intro
 ·simp only [okR]
 refine byQ ?_
 refine ⟨hmulc, ?_⟩
 refine sw_call (con_ReduceS (s.const * (n % 10007))) rfl (aAs_ok ?_) ?_ (sw_run 200 _ _ _ ?_)
 ·exact byQ True.intro
 ·simp only [okR]
 refine byQ ?_
 refine sw_ownB 2 1 149 rfl rfl ?_
 refine sw_loop (fun k:Nat=>k≤s.items.length) (fun k=>⟨54,[(8,.i k),(6,.i (n % 10007)),(2,.bx 0 0),(4,.bx 1 0),(7,.bx 2 0)],[(0,[.i s.const,.br (.rows 2 s.items.length (flC imC s.items))]),(1,[.i 0,.nl 2]),(2,[.i ((s.const * (n % 10007)) % 10007),.sl 3])],[(3,some ⟨.rows 2 (scItems s.items (n % 10007) k).length (flC imC (scItems s.items (n % 10007) k)),some 149,true⟩)],4,[]⟩) (fun k=>s.items.length-k) 0 id (Nat.zero_le _) ?_ ?_
 ·simp only [push_cast,Sub,subT,subB,subO,subP,inj,AV.ren,AV.rens,AV.lt,AV.lts,↓reduceIte,Nat.reduceLT,Nat.reduceAdd,Nat.reduceEqDiff,reduceCtorEq,scItems,flC,List.length_nil]
 ·rintro k hk
  refine sw_run 200 _ _ _ ?_
  by_cases hlt:k<s.items.length
  ·have hi:(k:Int)<(s.items.length:Int):=by omega
   have hco:=cfB_t (itOk_base s.items k (itAll_at s.items _ hall k hlt)).2
   have hmul:inI (s.items[k]!.coef * (n % 10007)):=by
    have h1:0≤s.items[k]!.coef * (n % 10007):=Int.mul_nonneg (by omega) (by omega)
    have h2:s.items[k]!.coef * (n % 10007)≤10006 * 10006:=Int.mul_le_mul (by omega) (by omega) (by omega) (by omega)
    unfold inI;omega
   have hR:=flC_row imC_len s.items k hlt
   have hl:=scItems_len s.items (n % 10007) k
   have hsn:scItems s.items (n % 10007) (k+1)=if (s.items[k]!.coef * (n % 10007)) % 10007=0 then scItems s.items (n % 10007) k else scItems s.items (n % 10007) k++[⟨s.items[k]!.name,(s.items[k]!.coef * (n % 10007)) % 10007⟩]:=rfl
   refine byP (fc hi (fc hR imC.eq_1)) ?_
   refine ⟨hmul, ?_⟩
   refine sw_call (con_ReduceS (s.items[k]!.coef * (n % 10007))) rfl (aAs_ok ?_) ?_ (sw_run 200 _ _ _ ?_)
   ·exact byQ True.intro
   ·simp only [okR]
   by_cases hc0:(s.items[k]!.coef * (n % 10007)) % 10007=0
   ·rw [if_pos hc0] at hsn
    refine byP hc0 ?_
    refine ⟨by unfold inI;omega,k+1,id,by omega,by omega, ?_⟩
    exact byP hsn True.intro
   rw [if_neg hc0] at hsn
   refine byP hc0 ?_
   refine sw_drawn (.cons 0 true (.cons 1 true (.cons 2 true (.cons 3 true (.cons 4 true (.cons 5 true (.cons 6 true (.cons 7 true (.cons 8 true (.cons 9 true (.cons 10 false (.cons 11 false (.cons 12 true (.cons 13 false (.nil))))))))))))))) (by kernel_rfl) qLp_panic (by kernel_rfl) (sw_run 200 _ _ _ ?_)
   refine byP (fc hi (fc hR imC.eq_1)) ?_
   refine ⟨⟨fun h=>h.elim,fun o ho=>by omega,by unfold maxLen;omega,by omega⟩,by unfold inI;omega,k+1,rn1 3 5,by omega,by omega, ?_⟩
   simp only [push_cast,Sub,subT,subB,subO,subP,inj,AV.ren,AV.rens,AV.lt,AV.lts,↓reduceIte,Nat.reduceLT,Nat.reduceEqDiff,reduceCtorEq,rn1,cast1,hsn,flC_app,flC_one,List.length_append,imC]
  ·have hi:¬ (k:Int)<(s.items.length:Int):=by omega
   obtain rfl:k=s.items.length:=by omega
   refine byP hi ?_
   refine sw_run 200 _ _ _ ?_
   exact byP (fc scS.eq_1 Tryz.results37) True.intro
end Go.Proofs.YtaidalilfmjfgaaGreat
