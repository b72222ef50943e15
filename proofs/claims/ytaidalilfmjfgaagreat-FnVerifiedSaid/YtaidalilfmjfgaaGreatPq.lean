import Derived.Test.YtaidalilfmjfgaaGreatPz
import Derived.Test.YtaidalilfmjfgaaGreatTmC
import Derived.Test.YtaidalilfmjfgaaGreatBy
namespace Go.Proofs.YtaidalilfmjfgaaGreat
open Go.RowKit
set_option linter.unusedVariables false
set_option linter.unusedSimpArgs false
set_option maxRecDepth 20000
theorem allTms_at' {p : Tm → Bool} : ∀ {xs : List Tm}, allTms p xs = true → ∀ x ∈ xs, allTm p x = true
  | [], _, x, h => by cases h
  | y :: ys, hp, x, h => by
    rw [allTms, Bool.and_eq_true] at hp
    rcases List.mem_cons.mp h with rfl | h
    · exact hp.1
    · exact allTms_at' hp.2 x h
theorem allTm_t' {p:Tm→Bool} {t:Tm} (h:allTm p t=true):p t=true∧∀ x ∈ t.args,allTm p x=true:=by
 rw [allTm_eq,Bool.and_eq_true] at h
 exact ⟨h.1,allTms_at' h.2⟩
theorem msz_arg (e:Tm) (k:Nat) (h:k<e.args.length):msz e.args[k]! ≤ msz e:=by
 rw [msz_eq e]
 unfold lsz
 have:=szL_tms' e.args k h
 unfold msz
 omega
theorem bs2_take (l:List Tm) (k:Nat):szL (tmsC (l.take k))≤szL (tmsC l):=by
 have:=tmsC_append (l.take k) (l.drop k)
 rw [List.take_append_drop] at this
 rw [this,szL_append];omega
theorem inI12:inI 1∧inI 2:=by unfold inI;decide
theorem oneF:((0:Nat):Int)=0∧(0:Int).toNat=0∧(1:Int).toNat=1∧(2:Int).toNat=2∧(⟨#[102,116]⟩:ByteArray).size=2∧((2:Nat):Int)=2:=by decide
theorem two01:(0:Int)<2∧(1:Int)<2:=by decide
set_option maxHeartbeats 16000000 in
theorem con_xtext : ∀ e : Tm, allTm isFm e = true → msz e ≤ 9000000 → ConX Tryz.prog 285 [.b (.ag (tmC e))] (xtI (40 * msz e + 20)) xtO xtR := by
  refine Tm.ind fun e ih hf he => ?_
  obtain ⟨hfm, hfa⟩ := allTm_t' hf
  have hez := msz_eq e
  have hca := fm_cases hfm
  refine con_runX Tryz.func285 rfl rfl (by simp [Tryz.ntmps285]) (fun _ _ => rfl) ?_
  refine byP (fc Tryz.ntmps285 Tryz.results285) ?_
  refine sw_loop (fun L : List ByteArray => L.length ≤ e.args.length ∧ bsum L ≤ 40 * szL (tmsC (e.args.take L.length)) + 20 * L.length) (fun L => ⟨80, [(4, .i L.length), (3, .sl 1), (1, .bx 0 0)], [(0, [.i e.kind, .s e.name, .s e.other, .i e.n, .i e.ty.kind, .br (.rows 2 e.ty.args.length (tysC e.ty.args)), .i e.res.kind, .br (.rows 2 e.res.args.length (tysC e.res.args)), .br (.rows 9 e.args.length (tmsC e.args))])], [(1, some ⟨.rows 1 L.length (L.map D.str), some 9, true⟩)], 2, []⟩) (fun L => e.args.length - L.length) [] id ⟨Nat.zero_le _, Nat.zero_le _⟩ ?_ ?_
  · exact byP (fc Int.natCast_zero (fc (show ([] : List ByteArray).length = 0 from rfl) (show ([] : List ByteArray).map D.str = [] from rfl))) True.intro
  rintro L ⟨hk, hb⟩
  by_cases hlt : L.length < e.args.length
  · have hj : (L.length : Int) < (e.args.length : Int) := by omega
    have k0 : 0 ≤ (L.length : Int) := by omega
    have hR := tmsC_row' e.args L.length hlt
    have hma := msz_arg e L.length hlt
    have hih := ih _ (mem_bang hlt) (hfa _ (mem_bang hlt)) (by omega)
    have hts := tsum_step e.args L.length hlt
    have hbt := bs2_take e.args L.length
    have hbt' : szL (tmsC e.args) ≤ 9000000 := by unfold lsz at hez; omega
    have hle : e.args.length ≤ 9000000 := by have := lsz_len e.args; omega
    have hin : inI ((L.length : Int) + 1) := by unfold inI; omega
    rw [tmC_eq] at hih
    generalize e.args[L.length]! = u at *
    refine sw_run 200 _ _ _ (byP (fc hj (fc hR tmC_eq)) ?_)
    refine sw_callXR (hih) rfl rfl rfl (byP (xtF) True.intro) (byP (xtF) True.intro) (byP (xtF) True.intro) ?_
    rintro x hx
    have hx' : x.size ≤ 40 * msz u + 20 := hx
    have hln : (L ++ [x]).length = L.length + 1 := by simp
    have hmp : (L ++ [x]).map D.str = L.map D.str ++ [.str x] := by simp
    refine sw_run 200 _ _ _ (byP xtF ?_)
    refine ⟨⟨fun h => h.elim, fun o ho => by omega, by unfold maxLen; omega, by omega⟩, hin, L ++ [x], rnL [(1, 3)], ⟨by rw [hln]; omega, ?_⟩, by rw [hln]; omega, ?_⟩
    · simp only [hln, hts, bsum_app, bsum_one]; omega
    · exact byP (fc hln (fc hmp cast1)) True.intro
  · have hj : ¬ (L.length : Int) < (e.args.length : Int) := by omega
    have hLe : L.length = e.args.length := by omega
    have hbs : bsum L ≤ 40 * szL (tmsC e.args) + 20 * e.args.length := by rw [hLe, List.take_length] at hb; exact hb
    have hbl : bsum L + 20 * e.args.length ≤ 40 * lsz e.args := by unfold lsz; omega
    refine sw_run 200 _ _ _ (byP hj ?_)
    clear ih hb
    rcases hca with k1 | ⟨k2, n0, n1⟩ | ⟨k3, n0, n1⟩ | ⟨k4, hl⟩ | ⟨k5, hl⟩ | ⟨k6, hl, hv⟩ | ⟨k7, hl⟩ | ⟨k8, hl⟩ | ⟨k9, hl, hv, hv2⟩ | ⟨k10, hl⟩ | ⟨k11, hl⟩ | ⟨k12, hl⟩ | ⟨k13, hl⟩
    · refine sw_run 200 _ _ _ ?_
      refine byP (fc k1 (fc Tryz.ntmps285 Tryz.results285)) ?_
      repeat' (with_reducible apply And.intro)
      all_goals first
        | (simp only [ByteArray.size_append, szS]; unfold maxLen; omega)
        | omega
        | (refine ⟨.inl rfl, e.name, ?_, ?_⟩
           · show ByteArray.size _ ≤ _
             first | (simp only [ByteArray.size_append, szS]; omega) | omega
           · exact byP (fc xtF (fc Tryz.ntmps285 Tryz.results285)) True.intro
           done)
    · have hF := con_FmtS e.n (by omega)
      have hfl := numL_len e.n.toNat (by omega)
      generalize numL e.n.toNat = w at *
      refine sw_run 200 _ _ _ ?_
      refine byP k2 ?_
      refine sw_call (hF) rfl (aAs_ok (byQ True.intro)) (byQ True.intro) ?_
      refine sw_run 200 _ _ _ (byP (fc Tryz.ntmps285 Tryz.results285) ?_)
      repeat' (with_reducible apply And.intro)
      all_goals first
        | (simp only [ByteArray.size_append, szS]; unfold maxLen; omega)
        | omega
        | (refine ⟨.inl rfl, w, ?_, ?_⟩
           · show ByteArray.size _ ≤ _
             first | (simp only [ByteArray.size_append, szS]; omega) | omega
           · exact byP (fc xtF (fc Tryz.ntmps285 Tryz.results285)) True.intro
           done)
    · have hn3 : e.n = 0 ∨ e.n = 1 := by omega
      rcases hn3 with h3 | h3
      · refine sw_run 200 _ _ _ ?_
        refine byP (fc k3 (fc h3 (fc oneF (fc inI12 (fc Tryz.ntmps285 Tryz.results285))))) ?_
        repeat' (with_reducible apply And.intro)
        all_goals first
          | (simp only [ByteArray.size_append, ByteArray.size_extract, szS]; unfold maxLen; omega)
          | omega
          | (refine ⟨.inl rfl, ⟨#[35]⟩ ++ (⟨#[102, 116]⟩ : ByteArray).extract 0 1, ?_, ?_⟩
             · show ByteArray.size _ ≤ _
               first | (simp only [ByteArray.size_append, ByteArray.size_extract, szS]; omega) | omega
             · exact byP (fc xtF (fc Tryz.ntmps285 Tryz.results285)) True.intro
             done)
      · refine sw_run 200 _ _ _ ?_
        refine byP (fc k3 (fc h3 (fc oneF (fc inI12 (fc Tryz.ntmps285 Tryz.results285))))) ?_
        repeat' (with_reducible apply And.intro)
        all_goals first
          | (simp only [ByteArray.size_append, ByteArray.size_extract, szS]; unfold maxLen; omega)
          | omega
          | (refine ⟨.inl rfl, ⟨#[35]⟩ ++ (⟨#[102, 116]⟩ : ByteArray).extract 1 2, ?_, ?_⟩
             · show ByteArray.size _ ≤ _
               first | (simp only [ByteArray.size_append, ByteArray.size_extract, szS]; omega) | omega
             · exact byP (fc xtF (fc Tryz.ntmps285 Tryz.results285)) True.intro
             done)
    · rcases hl with hl | hl
      · have l1 : (L.length : Int) = 1 := by omega
        have a0 : (0 : Int) < (L.length : Int) := by omega
        have s0 : rowAt 1 (L.map D.str) 0 = [.str L[0]!] := strs_row L 0 (by omega)
        have q0 := bsum_get L 0 (by omega)
        refine sw_run 200 _ _ _ ?_
        refine byP (fc k4 (fc l1 (fc a0 (fc s0 (fc Tryz.ntmps285 Tryz.results285))))) ?_
        repeat' (with_reducible apply And.intro)
        all_goals first
          | (simp only [ByteArray.size_append, szS]; unfold maxLen; omega)
          | omega
          | (refine ⟨.inl rfl, ⟨#[40, 33]⟩ ++ L[0]! ++ ⟨#[41]⟩, ?_, ?_⟩
             · show ByteArray.size _ ≤ _
               first | (simp only [ByteArray.size_append, szS]; omega) | omega
             · exact byP (fc xtF (fc Tryz.ntmps285 Tryz.results285)) True.intro
             done)
      · have l1 : (L.length : Int) = 2 := by omega
        have a0 : (0 : Int) < (L.length : Int) := by omega
        have s0 : rowAt 1 (L.map D.str) 0 = [.str L[0]!] := strs_row L 0 (by omega)
        have q0 := bsum_get L 0 (by omega)
        have a1 : (1 : Int) < (L.length : Int) := by omega
        have s1 : rowAt 1 (L.map D.str) 1 = [.str L[1]!] := strs_row L 1 (by omega)
        have q1 : (L[0]!).size + (L[1]!).size ≤ bsum L := by
          match L, hLe, hl with
          | [x, y], _, _ => show x.size + y.size ≤ x.size + (y.size + 0); omega
        refine sw_run 200 _ _ _ ?_
        refine byP (fc k4 l1) ?_
        refine sw_drawn (.cons 0 true (.cons 1 true (.cons 2 true (.cons 3 true (.cons 4 true (.cons 5 true (.cons 6 true (.cons 7 true (.cons 8 true (.cons 9 true (.cons 10 true (.cons 11 true (.cons 12 true (.nil)))))))))))))) (by kernel_rfl) fQX_panic (by kernel_rfl) ?_
        refine sw_run 200 _ _ _ (byP (fc l1 (fc two01 (fc s0 (fc s1 (fc Tryz.ntmps285 Tryz.results285))))) ?_)
        repeat' (with_reducible apply And.intro)
        all_goals first
          | (simp only [ByteArray.size_append, szS]; unfold maxLen; omega)
          | omega
          | (refine ⟨.inl rfl, ⟨#[40]⟩ ++ L[0]! ++ e.name ++ L[1]! ++ ⟨#[41]⟩, ?_, ?_⟩
             · show ByteArray.size _ ≤ _
               first | (simp only [ByteArray.size_append, szS]; omega) | omega
             · exact byP (fc xtF (fc Tryz.ntmps285 Tryz.results285)) True.intro
             done)
    · have hX := con_longX e L (bsum L) (Nat.le_refl _) (by omega) (by omega) (by omega) (by omega) (fun h => by rw [k5] at h; omega) (fun h => by rw [k5] at h; omega)
      rw [tmC_eq, k5] at hX
      refine sw_run 200 _ _ _ ?_
      refine byP k5 ?_
      refine sw_fzE 1 rfl ?_
      refine byQ ?_
      refine sw_callXR (hX) rfl rfl rfl (byP (xtF) True.intro) (byP (xtF) True.intro) (byP (xtF) True.intro) ?_
      rintro x hx
      have hx' : x.size ≤ bsum L + 20 + hdz e := hx
      have hez2 : hdz e = e.name.size + e.other.size + 3 * tsz e.ty + 3 * tsz e.res := rfl
      refine sw_run 200 _ _ _ (byP (fc xtF (fc Tryz.ntmps285 Tryz.results285)) ?_)
      refine ⟨.inl rfl, x, ?_, ?_⟩
      · show ByteArray.size _ ≤ _
        omega
      · exact byP (fc xtF (fc Tryz.ntmps285 Tryz.results285)) True.intro
    · have hX := con_longX e L (bsum L) (Nat.le_refl _) (by omega) (by omega) (by omega) (by omega) (fun _ => v_form' hv) (fun h => by rw [k6] at h; omega)
      rw [tmC_eq, k6] at hX
      refine sw_run 200 _ _ _ ?_
      refine byP k6 ?_
      refine sw_fzE 1 rfl ?_
      refine byQ ?_
      refine sw_callXR (hX) rfl rfl rfl (byP (xtF) True.intro) (byP (xtF) True.intro) (byP (xtF) True.intro) ?_
      rintro x hx
      have hx' : x.size ≤ bsum L + 20 + hdz e := hx
      have hez2 : hdz e = e.name.size + e.other.size + 3 * tsz e.ty + 3 * tsz e.res := rfl
      refine sw_run 200 _ _ _ (byP (fc xtF (fc Tryz.ntmps285 Tryz.results285)) ?_)
      refine ⟨.inl rfl, x, ?_, ?_⟩
      · show ByteArray.size _ ≤ _
        omega
      · exact byP (fc xtF (fc Tryz.ntmps285 Tryz.results285)) True.intro
    · have hX := con_longX e L (bsum L) (Nat.le_refl _) (by omega) (by omega) (by omega) (by omega) (fun h => by rw [k7] at h; omega) (fun h => by rw [k7] at h; omega)
      rw [tmC_eq, k7] at hX
      refine sw_run 200 _ _ _ ?_
      refine byP k7 ?_
      refine sw_fzE 1 rfl ?_
      refine byQ ?_
      refine sw_callXR (hX) rfl rfl rfl (byP (xtF) True.intro) (byP (xtF) True.intro) (byP (xtF) True.intro) ?_
      rintro x hx
      have hx' : x.size ≤ bsum L + 20 + hdz e := hx
      have hez2 : hdz e = e.name.size + e.other.size + 3 * tsz e.ty + 3 * tsz e.res := rfl
      refine sw_run 200 _ _ _ (byP (fc xtF (fc Tryz.ntmps285 Tryz.results285)) ?_)
      refine ⟨.inl rfl, x, ?_, ?_⟩
      · show ByteArray.size _ ≤ _
        omega
      · exact byP (fc xtF (fc Tryz.ntmps285 Tryz.results285)) True.intro
    · have hX := con_longX e L (bsum L) (Nat.le_refl _) (by omega) (by omega) (by omega) (by omega) (fun h => by rw [k8] at h; omega) (fun h => by rw [k8] at h; omega)
      rw [tmC_eq, k8] at hX
      refine sw_run 200 _ _ _ ?_
      refine byP k8 ?_
      refine sw_fzE 1 rfl ?_
      refine byQ ?_
      refine sw_callXR (hX) rfl rfl rfl (byP (xtF) True.intro) (byP (xtF) True.intro) (byP (xtF) True.intro) ?_
      rintro x hx
      have hx' : x.size ≤ bsum L + 20 + hdz e := hx
      have hez2 : hdz e = e.name.size + e.other.size + 3 * tsz e.ty + 3 * tsz e.res := rfl
      refine sw_run 200 _ _ _ (byP (fc xtF (fc Tryz.ntmps285 Tryz.results285)) ?_)
      refine ⟨.inl rfl, x, ?_, ?_⟩
      · show ByteArray.size _ ≤ _
        omega
      · exact byP (fc xtF (fc Tryz.ntmps285 Tryz.results285)) True.intro
    · have hX := con_longX e L (bsum L) (Nat.le_refl _) (by omega) (by omega) (by omega) (by omega) (fun _ => v_form' hv) (fun _ => v_form' hv2)
      rw [tmC_eq, k9] at hX
      refine sw_run 200 _ _ _ ?_
      refine byP k9 ?_
      refine sw_fzE 1 rfl ?_
      refine byQ ?_
      refine sw_callXR (hX) rfl rfl rfl (byP (xtF) True.intro) (byP (xtF) True.intro) (byP (xtF) True.intro) ?_
      rintro x hx
      have hx' : x.size ≤ bsum L + 20 + hdz e := hx
      have hez2 : hdz e = e.name.size + e.other.size + 3 * tsz e.ty + 3 * tsz e.res := rfl
      refine sw_run 200 _ _ _ (byP (fc xtF (fc Tryz.ntmps285 Tryz.results285)) ?_)
      refine ⟨.inl rfl, x, ?_, ?_⟩
      · show ByteArray.size _ ≤ _
        omega
      · exact byP (fc xtF (fc Tryz.ntmps285 Tryz.results285)) True.intro
    · have a0 : (0 : Int) < (L.length : Int) := by omega
      have s0 : rowAt 1 (L.map D.str) 0 = [.str L[0]!] := strs_row L 0 (by omega)
      have q0 := bsum_get L 0 (by omega)
      refine sw_run 200 _ _ _ ?_
      refine byP (fc k10 (fc a0 (fc s0 (fc Tryz.ntmps285 Tryz.results285)))) ?_
      repeat' (with_reducible apply And.intro)
      all_goals first
        | (simp only [ByteArray.size_append, szS]; unfold maxLen; omega)
        | omega
        | (refine ⟨.inl rfl, ⟨#[60]⟩ ++ L[0]! ++ ⟨#[62]⟩, ?_, ?_⟩
           · show ByteArray.size _ ≤ _
             first | (simp only [ByteArray.size_append, szS]; omega) | omega
           · exact byP (fc xtF (fc Tryz.ntmps285 Tryz.results285)) True.intro
           done)
    · have a0 : (0 : Int) < (L.length : Int) := by omega
      have s0 : rowAt 1 (L.map D.str) 0 = [.str L[0]!] := strs_row L 0 (by omega)
      have q0 := bsum_get L 0 (by omega)
      refine sw_run 200 _ _ _ ?_
      refine byP (fc k11 (fc a0 (fc s0 (fc Tryz.ntmps285 Tryz.results285)))) ?_
      repeat' (with_reducible apply And.intro)
      all_goals first
        | (simp only [ByteArray.size_append, szS]; unfold maxLen; omega)
        | omega
        | (refine ⟨.inl rfl, ⟨#[126]⟩ ++ L[0]!, ?_, ?_⟩
           · show ByteArray.size _ ≤ _
             first | (simp only [ByteArray.size_append, szS]; omega) | omega
           · exact byP (fc xtF (fc Tryz.ntmps285 Tryz.results285)) True.intro
           done)
    · have hX := con_longX e L (bsum L) (Nat.le_refl _) (by omega) (by omega) (by omega) (by omega) (fun h => by rw [k12] at h; omega) (fun h => by rw [k12] at h; omega)
      rw [tmC_eq, k12] at hX
      refine sw_run 200 _ _ _ ?_
      refine byP k12 ?_
      refine sw_fzE 1 rfl ?_
      refine byQ ?_
      refine sw_callXR (hX) rfl rfl rfl (byP (xtF) True.intro) (byP (xtF) True.intro) (byP (xtF) True.intro) ?_
      rintro x hx
      have hx' : x.size ≤ bsum L + 20 + hdz e := hx
      have hez2 : hdz e = e.name.size + e.other.size + 3 * tsz e.ty + 3 * tsz e.res := rfl
      refine sw_run 200 _ _ _ (byP (fc xtF (fc Tryz.ntmps285 Tryz.results285)) ?_)
      refine ⟨.inl rfl, x, ?_, ?_⟩
      · show ByteArray.size _ ≤ _
        omega
      · exact byP (fc xtF (fc Tryz.ntmps285 Tryz.results285)) True.intro
    · have hX := con_longX e L (bsum L) (Nat.le_refl _) (by omega) (by omega) (by omega) (by omega) (fun h => by rw [k13] at h; omega) (fun h => by rw [k13] at h; omega)
      rw [tmC_eq, k13] at hX
      refine sw_run 200 _ _ _ ?_
      refine byP k13 ?_
      refine sw_fzE 1 rfl ?_
      refine byQ ?_
      refine sw_callXR (hX) rfl rfl rfl (byP (xtF) True.intro) (byP (xtF) True.intro) (byP (xtF) True.intro) ?_
      rintro x hx
      have hx' : x.size ≤ bsum L + 20 + hdz e := hx
      have hez2 : hdz e = e.name.size + e.other.size + 3 * tsz e.ty + 3 * tsz e.res := rfl
      refine sw_run 200 _ _ _ (byP (fc xtF (fc Tryz.ntmps285 Tryz.results285)) ?_)
      refine ⟨.inl rfl, x, ?_, ?_⟩
      · show ByteArray.size _ ≤ _
        omega
      · exact byP (fc xtF (fc Tryz.ntmps285 Tryz.results285)) True.intro
theorem con_fmtX (e:Tm) (he:msz e≤9000000):ConX Tryz.prog 272 [.b (.ag (tmC e))] (fun _:ByteArray=>True) xtO xtR:=by
 have hV:=con_ValidS e (by show msz e≤_;omega)
 have hT:vTm e=true→allTm isFm e=true:=fun h=>by unfold vTm at h;rw [Bool.and_eq_true] at h;exact h.1
 rw [tmC_eq] at hV
 cases hv:vTm e
 ·rw [hv] at hV
  refine con_runX Tryz.func272 rfl rfl (by simp [Tryz.ntmps272]) (fun _ _=>rfl) ?_
  refine byP (fc Tryz.ntmps272 Tryz.results272) ?_
  refine sw_call (hV) rfl (aAs_ok (byQ True.intro)) (byQ True.intro) ?_
  refine sw_run 200 _ _ _ (byP (fc Tryz.ntmps272 Tryz.results272) ?_)
  exact ⟨.inl rfl,⟨#[]⟩,trivial,byP (fc xtF (fc Tryz.ntmps272 Tryz.results272)) True.intro⟩
 ·have hX:=con_xtext e (hT hv) he
  rw [hv] at hV
  rw [tmC_eq] at hX
  refine con_runX Tryz.func272 rfl rfl (by simp [Tryz.ntmps272]) (fun _ _=>rfl) ?_
  refine byP (fc Tryz.ntmps272 Tryz.results272) ?_
  refine sw_call (hV) rfl (aAs_ok (byQ True.intro)) (byQ True.intro) ?_
  refine sw_run 200 _ _ _ (byQ ?_)
  refine sw_callXR (hX) rfl rfl rfl (byP (xtF) True.intro) (byP (xtF) True.intro) (byP (xtF) True.intro) ?_
  rintro x _
  refine sw_run 200 _ _ _ (byP (fc xtF (fc Tryz.ntmps272 Tryz.results272)) ?_)
  exact ⟨.inl rfl,x,trivial,byP (fc xtF (fc Tryz.ntmps272 Tryz.results272)) True.intro⟩
theorem con_EraseTyS:∀ t:Ty,szL (tyC t)≤1000000000→Con Tryz.prog 199 [.ag (tyC t)] [.ag (tyC (eraseTy t))]:=by
 refine Ty.ind fun kd xs ih hz => ?_
 have hz':xs.length+szL (tysC xs)≤1000000000:=by simpa [tyC,szL,szD] using hz
 by_cases hc:kd=4∧xs.length=1
 ·obtain ⟨hk,hl⟩:=hc
  have he:eraseTy (.mk kd xs)=eraseTy xs[0]! := by rw [eraseTy_code (.mk kd xs) hk hl,getElem!_pos xs 0 (by omega)];rfl
  rw [he]
  subst hk
  have hm:=mem_bang (xs:=xs) (k:=0) (by omega)
  have hs:=szL_tys' xs 0 (by omega)
  have hR:=tysC_row' xs 0 (by omega)
  have hl':(xs.length:Int)=1:=by omega
  refine con_run Tryz.func199 rfl rfl (by simp [Tryz.ntmps199]) ?_
  refine byP (fc Tryz.ntmps199 (fc tyC.eq_1 (fc hl' hR))) ?_
  refine sw_call (ih _ hm (by omega)) rfl (aAs_ok ?_) ?_ (sw_run 200 _ _ _ ?_)
  ·exact byQ True.intro
  ·simp only [okR]
  exact byP Tryz.results199 True.intro
 ·have he:eraseTy (.mk kd xs) = .mk kd (xs.map eraseTy):=eraseTy_mk _ hc
  rw [he]
  refine con_run Tryz.func199 rfl rfl (by simp [Tryz.ntmps199]) ?_
  simp only [tyC]
  by_cases hk:kd=4
  ·have hl:¬ ((xs.length:Int)=1):=fun h=>hc ⟨hk,by omega⟩
   subst hk
   refine byP (fc Tryz.ntmps199 hl) ?_
   refine sw_ownB 2 1 26 rfl rfl ?_
   refine sw_loop (fun k:Nat=>k≤xs.length) (fun k=>⟨41,[(4,.i k),(1,.bx 0 0),(2,.bx 1 0),(3,.bx 2 0)],[(0,[.i 4,.br (.rows 2 xs.length (tysC xs))]),(1,[.i 0,.nl 2]),(2,[.i 4,.sl 3])],[(3,some ⟨.rows 2 k (tysC ((xs.take k).map eraseTy)),some 26,true⟩)],4,[]⟩) (fun k=>xs.length-k) 0 id (Nat.zero_le _) ?_ ?_
   ·exact byP tysC.eq_1 True.intro
   ·rintro k hk'
    refine sw_run 200 _ _ _ ?_
    by_cases hlt:k<xs.length
    ·have hi:(k:Int)<(xs.length:Int):=by omega
     have hR:=tysC_row' xs k hlt
     have hm:=mem_bang hlt
     have hs:=szL_tys' xs k hlt
     refine byP hi ?_
     refine sw_drawn (.cons 0 true (.cons 1 true (.cons 2 true (.cons 3 true (.cons 4 true (.cons 5 true (.cons 6 true (.cons 7 false (.cons 8 false (.cons 9 false (.cons 10 true (.cons 11 false (.nil))))))))))))) (by kernel_rfl) qLp_panic (by kernel_rfl) (sw_run 200 _ _ _ ?_)
     refine byP (fc hi hR) ?_
     refine sw_callD (ih _ hm (by omega)) rfl (aAs_ok ?_) ?_ (sw_run 200 _ _ _ ?_)
     ·exact byQ True.intro
     ·simp only [okR]
     refine byQ ?_
     refine ⟨⟨fun o ho=>by omega,by unfold maxLen;omega,by omega⟩,by unfold inI;omega,k+1,rn1 3 6,by omega,by omega, ?_⟩
     exact byP (fc rn1.eq_1 (tysC_snocF eraseTy xs k hlt)) True.intro
    ·have hi:¬ (k:Int)<(xs.length:Int):=by omega
     obtain rfl:k=xs.length:=by omega
     refine byP hi ?_
     refine sw_run 200 _ _ _ ?_
     simp only [push_cast,↓reduceIte,Nat.reduceLT,Nat.reduceAdd,Nat.reduceEqDiff,reduceCtorEq,List.take_length,List.length_map,Tryz.results199]
  ·have hl:True:=trivial
   refine byP (fc Tryz.ntmps199 hk) ?_
   refine sw_ownB 2 1 26 rfl rfl ?_
   refine sw_loop (fun k:Nat=>k≤xs.length) (fun k=>⟨41,[(4,.i k),(1,.bx 0 0),(2,.bx 1 0),(3,.bx 2 0)],[(0,[.i kd,.br (.rows 2 xs.length (tysC xs))]),(1,[.i 0,.nl 2]),(2,[.i kd,.sl 3])],[(3,some ⟨.rows 2 k (tysC ((xs.take k).map eraseTy)),some 26,true⟩)],4,[]⟩) (fun k=>xs.length-k) 0 id (Nat.zero_le _) ?_ ?_
   ·exact byP tysC.eq_1 True.intro
   ·rintro k hk'
    refine sw_run 200 _ _ _ ?_
    by_cases hlt:k<xs.length
    ·have hi:(k:Int)<(xs.length:Int):=by omega
     have hR:=tysC_row' xs k hlt
     have hm:=mem_bang hlt
     have hs:=szL_tys' xs k hlt
     refine byP hi ?_
     refine sw_drawn (.cons 0 true (.cons 1 true (.cons 2 true (.cons 3 true (.cons 4 true (.cons 5 true (.cons 6 true (.cons 7 false (.cons 8 false (.cons 9 false (.cons 10 true (.cons 11 false (.nil))))))))))))) (by kernel_rfl) qLp_panic (by kernel_rfl) (sw_run 200 _ _ _ ?_)
     refine byP (fc hi hR) ?_
     refine sw_callD (ih _ hm (by omega)) rfl (aAs_ok ?_) ?_ (sw_run 200 _ _ _ ?_)
     ·exact byQ True.intro
     ·simp only [okR]
     refine byQ ?_
     refine ⟨⟨fun o ho=>by omega,by unfold maxLen;omega,by omega⟩,by unfold inI;omega,k+1,rn1 3 6,by omega,by omega, ?_⟩
     exact byP (fc rn1.eq_1 (tysC_snocF eraseTy xs k hlt)) True.intro
    ·have hi:¬ (k:Int)<(xs.length:Int):=by omega
     obtain rfl:k=xs.length:=by omega
     refine byP hi ?_
     refine sw_run 200 _ _ _ ?_
     simp only [push_cast,↓reduceIte,Nat.reduceLT,Nat.reduceAdd,Nat.reduceEqDiff,reduceCtorEq,List.take_length,List.length_map,Tryz.results199]
theorem con_EraseS:∀ t:Tm,szL (tmC t)≤1000000000→Con Tryz.prog 128 [.ag (tmC t)] [.ag (tmC (eraseT t))]:=by
 refine Tm.ind fun t ih hz => ?_
 obtain ⟨h5,h7,h8⟩:=sz_parts hz
 have hst:=by
  have h:=con_l1In t.kind 10 13
  rw [inB_and] at h
  exact h
 by_cases hc:inB t.kind 10 13=true∧t.args.length=1
 ·obtain ⟨hk,hl⟩:=hc
  have he:eraseT t=eraseT t.args[0]! := by rw [eraseT_one _ hk hl,getElem!_pos t.args 0 (by omega)]
  rw [he]
  rw [hk] at hst
  have hm:=mem_bang (xs:=t.args) (k:=0) (by omega)
  have hs:=szL_tms' t.args 0 (by omega)
  have hR:=tmsC_row' t.args 0 (by omega)
  have hl':(t.args.length:Int)=1:=by omega
  refine con_run Tryz.func128 rfl rfl (by simp [Tryz.ntmps128]) ?_
  refine byP Tryz.ntmps128 ?_
  refine sw_call (hst) rfl (aAs_ok ?_) ?_ (sw_run 200 _ _ _ ?_)
  ·exact byQ True.intro
  ·simp only [okR]
  refine byP (fc hl' hR) ?_
  refine sw_call (ih _ hm (by omega)) rfl (aAs_ok ?_) ?_ (sw_run 200 _ _ _ ?_)
  ·exact byQ True.intro
  ·simp only [okR]
  exact byP Tryz.results128 True.intro
 ·have he:eraseT t = .mk t.kind t.name t.other t.n (eraseTy t.ty) (eraseTy t.res) (t.args.map eraseT):=eraseT_mk _ hc
  rw [he,tmC_eq (.mk _ _ _ _ _ _ _),mk_kind,mk_name,mk_other,mk_n,mk_ty,mk_res,mk_args]
  refine con_run Tryz.func128 rfl rfl (by simp [Tryz.ntmps128]) ?_
  refine byP Tryz.ntmps128 ?_
  refine sw_call (hst) rfl (aAs_ok ?_) ?_ (sw_run 200 _ _ _ ?_)
  ·exact byQ True.intro
  ·simp only [okR]
  by_cases hk:inB t.kind 10 13=true
  ·have hl:¬ ((t.args.length:Int)=1):=fun h=>hc ⟨hk,by omega⟩
   refine byP (fc hk hl) ?_
   refine sw_drawnK ⟨53,[(3,.bx 4 0),(1,.bx 0 0),(2,.bx 1 0)],[(0,[.i t.kind,.s t.name,.s t.other,.i t.n,.i t.ty.kind,.br (.rows 2 t.ty.args.length (tysC t.ty.args)),.i t.res.kind,.br (.rows 2 t.res.args.length (tysC t.res.args)),.br (.rows 9 t.args.length (tmsC t.args))]),(1,[.i 0,.s ⟨#[]⟩,.s ⟨#[]⟩,.i 0,.i 0,.nl 2,.i 0,.nl 2,.nl 9]),(4,[.i t.kind,.s t.name,.s t.other,.i t.n,.i (eraseTy t.ty).kind,.sl 2,.i (eraseTy t.res).kind,.sl 3,.nl 9])],[(2,some ⟨.rows 2 (eraseTy t.ty).args.length (tysC (eraseTy t.ty).args),none,true⟩),(3,some ⟨.rows 2 (eraseTy t.res).args.length (tysC (eraseTy t.res).args),none,true⟩)],5,[]⟩ (.cons 0 true (.cons 1 true (.cons 2 true (.cons 3 true (.cons 4 true (.cons 5 true (.cons 6 true (.cons 7 true (.cons 8 true (.cons 9 true (.cons 11 true (.cons 12 true (.fork (.alt 10 (.fork (.alt 13 (.cons 14 true (.cons 15 false (.cons 16 false (.nil)))) (.alt 15 (.cons 13 false (.cons 14 true (.cons 16 false (.nil)))) (.last)))) (.alt 15 (.cons 10 false (.cons 13 false (.cons 14 true (.cons 16 false (.nil))))) (.last)))))))))))))))) (by kernel_rfl) (by kernel_rfl) (sw_run 200 _ _ _ ?_) (sw_run 200 _ _ _ ?_)
   ·refine byQ ?_
    refine ⟨?_, ?_⟩
    ·refine sw_callD (con_EraseTyS t.ty h5) rfl (aAs_ok ?_) ?_ (sw_run 200 _ _ _ ?_)
     ·exact byQ True.intro
     ·simp only [okR]
     refine byQ ?_
     refine ⟨?_, ?_⟩
     ·refine sw_callD (con_EraseTyS t.res h7) rfl (aAs_ok ?_) ?_ (sw_run 200 _ _ _ ?_)
      ·exact byQ True.intro
      ·simp only [okR]
      refine byP qK.eq_1 ?_
      refine ⟨id, ?_⟩
      exact byQ True.intro
     ·refine sw_callD (con_EraseTyS t.res h7) rfl (aAs_ok ?_) ?_ (sw_run 200 _ _ _ ?_)
      ·exact byQ True.intro
      ·simp only [okR]
      refine byP qK.eq_1 ?_
      refine ⟨rn2 3 4 4 3, ?_⟩
      exact byP rn2.eq_1 True.intro
    ·refine sw_callD (con_EraseTyS t.ty h5) rfl (aAs_ok ?_) ?_ (sw_run 200 _ _ _ ?_)
     ·exact byQ True.intro
     ·simp only [okR]
     refine byQ ?_
     refine sw_callD (con_EraseTyS t.res h7) rfl (aAs_ok ?_) ?_ (sw_run 200 _ _ _ ?_)
     ·exact byQ True.intro
     ·simp only [okR]
     refine byP qK.eq_1 ?_
     refine ⟨rn3 2 3 3 4 4 2, ?_⟩
     exact byP rn3.eq_1 True.intro
   refine byQ ?_
   refine sw_ownB 4 8 29 rfl rfl ?_
   refine sw_loop (fun k:Nat=>k≤t.args.length) (fun k=>⟨53,[(4,.i k),(1,.bx 0 0),(2,.bx 1 0),(3,.bx 4 0)],[(0,[.i t.kind,.s t.name,.s t.other,.i t.n,.i t.ty.kind,.br (.rows 2 t.ty.args.length (tysC t.ty.args)),.i t.res.kind,.br (.rows 2 t.res.args.length (tysC t.res.args)),.br (.rows 9 t.args.length (tmsC t.args))]),(1,[.i 0,.s ⟨#[]⟩,.s ⟨#[]⟩,.i 0,.i 0,.nl 2,.i 0,.nl 2,.nl 9]),(4,[.i t.kind,.s t.name,.s t.other,.i t.n,.i (eraseTy t.ty).kind,.sl 2,.i (eraseTy t.res).kind,.sl 3,.sl 5])],[(2,some ⟨.rows 2 (eraseTy t.ty).args.length (tysC (eraseTy t.ty).args),none,true⟩),(3,some ⟨.rows 2 (eraseTy t.res).args.length (tysC (eraseTy t.res).args),none,true⟩),(5,some ⟨.rows 9 k (tmsC ((t.args.take k).map eraseT)),some 29,true⟩)],6,[]⟩) (fun k=>t.args.length-k) 0 id (Nat.zero_le _) ?_ ?_
   ·exact byP tmsC.eq_1 True.intro
   ·rintro k hk'
    refine sw_run 200 _ _ _ ?_
    by_cases hlt:k<t.args.length
    ·have hi:(k:Int)<(t.args.length:Int):=by omega
     have hR:=tmsC_row' t.args k hlt
     have hm:=mem_bang hlt
     have hs:=szL_tms' t.args k hlt
     refine byP hi ?_
     refine sw_drawn (.cons 0 true (.cons 1 true (.cons 2 true (.cons 3 true (.cons 4 true (.cons 5 true (.cons 6 true (.cons 7 false (.cons 8 false (.cons 9 false (.cons 10 true (.cons 11 false (.nil))))))))))))) (by kernel_rfl) qLp_panic (by kernel_rfl) (sw_run 200 _ _ _ ?_)
     refine byP (fc hi hR) ?_
     refine sw_callD (ih _ hm (by omega)) rfl (aAs_ok ?_) ?_ (sw_run 200 _ _ _ ?_)
     ·exact byQ True.intro
     ·simp only [okR]
     refine byQ ?_
     refine ⟨⟨fun o ho=>by omega,by unfold maxLen;omega,by omega⟩,by unfold inI;omega,k+1,rn1 5 10,by omega,by omega, ?_⟩
     exact byP (fc rn1.eq_1 (tmsC_snocF eraseT t.args k hlt)) True.intro
    ·have hi:¬ (k:Int)<(t.args.length:Int):=by omega
     obtain rfl:k=t.args.length:=by omega
     refine byP hi ?_
     refine sw_run 200 _ _ _ ?_
     simp only [push_cast,↓reduceIte,Nat.reduceLT,Nat.reduceAdd,Nat.reduceEqDiff,reduceCtorEq,List.take_length,List.length_map,Tryz.results128]
  ·have hl:True:=trivial
   replace hk:inB t.kind 10 13=false:=by simpa using hk
   refine byP hk ?_
   refine sw_drawnK ⟨53,[(3,.bx 4 0),(1,.bx 0 0),(2,.bx 1 0)],[(0,[.i t.kind,.s t.name,.s t.other,.i t.n,.i t.ty.kind,.br (.rows 2 t.ty.args.length (tysC t.ty.args)),.i t.res.kind,.br (.rows 2 t.res.args.length (tysC t.res.args)),.br (.rows 9 t.args.length (tmsC t.args))]),(1,[.i 0,.s ⟨#[]⟩,.s ⟨#[]⟩,.i 0,.i 0,.nl 2,.i 0,.nl 2,.nl 9]),(4,[.i t.kind,.s t.name,.s t.other,.i t.n,.i (eraseTy t.ty).kind,.sl 2,.i (eraseTy t.res).kind,.sl 3,.nl 9])],[(2,some ⟨.rows 2 (eraseTy t.ty).args.length (tysC (eraseTy t.ty).args),none,true⟩),(3,some ⟨.rows 2 (eraseTy t.res).args.length (tysC (eraseTy t.res).args),none,true⟩)],5,[]⟩ (.cons 0 true (.cons 1 true (.cons 2 true (.cons 3 true (.cons 4 true (.cons 5 true (.cons 6 true (.cons 7 true (.cons 8 true (.cons 9 true (.cons 11 true (.cons 12 true (.fork (.alt 10 (.fork (.alt 13 (.cons 14 true (.cons 15 false (.cons 16 false (.nil)))) (.alt 15 (.cons 13 false (.cons 14 true (.cons 16 false (.nil)))) (.last)))) (.alt 15 (.cons 10 false (.cons 13 false (.cons 14 true (.cons 16 false (.nil))))) (.last)))))))))))))))) (by kernel_rfl) (by kernel_rfl) (sw_run 200 _ _ _ ?_) (sw_run 200 _ _ _ ?_)
   ·refine byQ ?_
    refine ⟨?_, ?_⟩
    ·refine sw_callD (con_EraseTyS t.ty h5) rfl (aAs_ok ?_) ?_ (sw_run 200 _ _ _ ?_)
     ·exact byQ True.intro
     ·simp only [okR]
     refine byQ ?_
     refine ⟨?_, ?_⟩
     ·refine sw_callD (con_EraseTyS t.res h7) rfl (aAs_ok ?_) ?_ (sw_run 200 _ _ _ ?_)
      ·exact byQ True.intro
      ·simp only [okR]
      refine byP qK.eq_1 ?_
      refine ⟨id, ?_⟩
      exact byQ True.intro
     ·refine sw_callD (con_EraseTyS t.res h7) rfl (aAs_ok ?_) ?_ (sw_run 200 _ _ _ ?_)
      ·exact byQ True.intro
      ·simp only [okR]
      refine byP qK.eq_1 ?_
      refine ⟨rn2 3 4 4 3, ?_⟩
      exact byP rn2.eq_1 True.intro
    ·refine sw_callD (con_EraseTyS t.ty h5) rfl (aAs_ok ?_) ?_ (sw_run 200 _ _ _ ?_)
     ·exact byQ True.intro
     ·simp only [okR]
     refine byQ ?_
     refine sw_callD (con_EraseTyS t.res h7) rfl (aAs_ok ?_) ?_ (sw_run 200 _ _ _ ?_)
     ·exact byQ True.intro
     ·simp only [okR]
     refine byP qK.eq_1 ?_
     refine ⟨rn3 2 3 3 4 4 2, ?_⟩
     exact byP rn3.eq_1 True.intro
   refine byQ ?_
   refine sw_ownB 4 8 29 rfl rfl ?_
   refine sw_loop (fun k:Nat=>k≤t.args.length) (fun k=>⟨53,[(4,.i k),(1,.bx 0 0),(2,.bx 1 0),(3,.bx 4 0)],[(0,[.i t.kind,.s t.name,.s t.other,.i t.n,.i t.ty.kind,.br (.rows 2 t.ty.args.length (tysC t.ty.args)),.i t.res.kind,.br (.rows 2 t.res.args.length (tysC t.res.args)),.br (.rows 9 t.args.length (tmsC t.args))]),(1,[.i 0,.s ⟨#[]⟩,.s ⟨#[]⟩,.i 0,.i 0,.nl 2,.i 0,.nl 2,.nl 9]),(4,[.i t.kind,.s t.name,.s t.other,.i t.n,.i (eraseTy t.ty).kind,.sl 2,.i (eraseTy t.res).kind,.sl 3,.sl 5])],[(2,some ⟨.rows 2 (eraseTy t.ty).args.length (tysC (eraseTy t.ty).args),none,true⟩),(3,some ⟨.rows 2 (eraseTy t.res).args.length (tysC (eraseTy t.res).args),none,true⟩),(5,some ⟨.rows 9 k (tmsC ((t.args.take k).map eraseT)),some 29,true⟩)],6,[]⟩) (fun k=>t.args.length-k) 0 id (Nat.zero_le _) ?_ ?_
   ·exact byP tmsC.eq_1 True.intro
   ·rintro k hk'
    refine sw_run 200 _ _ _ ?_
    by_cases hlt:k<t.args.length
    ·have hi:(k:Int)<(t.args.length:Int):=by omega
     have hR:=tmsC_row' t.args k hlt
     have hm:=mem_bang hlt
     have hs:=szL_tms' t.args k hlt
     refine byP hi ?_
     refine sw_drawn (.cons 0 true (.cons 1 true (.cons 2 true (.cons 3 true (.cons 4 true (.cons 5 true (.cons 6 true (.cons 7 false (.cons 8 false (.cons 9 false (.cons 10 true (.cons 11 false (.nil))))))))))))) (by kernel_rfl) qLp_panic (by kernel_rfl) (sw_run 200 _ _ _ ?_)
     refine byP (fc hi hR) ?_
     refine sw_callD (ih _ hm (by omega)) rfl (aAs_ok ?_) ?_ (sw_run 200 _ _ _ ?_)
     ·exact byQ True.intro
     ·simp only [okR]
     refine byQ ?_
     refine ⟨⟨fun o ho=>by omega,by unfold maxLen;omega,by omega⟩,by unfold inI;omega,k+1,rn1 5 10,by omega,by omega, ?_⟩
     exact byP (fc rn1.eq_1 (tmsC_snocF eraseT t.args k hlt)) True.intro
    ·have hi:¬ (k:Int)<(t.args.length:Int):=by omega
     obtain rfl:k=t.args.length:=by omega
     refine byP hi ?_
     refine sw_run 200 _ _ _ ?_
     simp only [push_cast,↓reduceIte,Nat.reduceLT,Nat.reduceAdd,Nat.reduceEqDiff,reduceCtorEq,List.take_length,List.length_map,Tryz.results128]
def ptI (s:ByteArray) (x:Tm × Bool):Prop:=msz x.1≤8 * s.size
def ptO (x:Tm × Bool):List (List CD):=[]
def ptR (x:Tm × Bool):List RD:=[tmZ x.1,.one (.o (.bool x.2))]
theorem ptF:(∀ t b,ptO (t,b)=[])∧(∀ t b,ptR (t,b)=[tmZ t,.one (.o (.bool b))]):=⟨fun _ _=>rfl,fun _ _=>rfl⟩
set_option maxHeartbeats 4000000 in
theorem con_parseX (s:ByteArray) (hl:s.size≤1000000):ConX Tryz.prog 251 [.b (.one (.str s))] (ptI s) ptO ptR:=by
 have hT:ConX Tryz.prog 271 [.p (rdx s 0 false),.b (.one (.int 1))] (pxI s 0 0) (pxO s) pxR:=con_termX s hl 20 (by decide) 0 false (Nat.zero_le _)
 refine con_runXF [0,1,2,3,4,5,6,7,8,9,10,11,12] Tryz.func251 rfl rfl (by simp [Tryz.ntmps251]) (fun _ _=>rfl) ?_
 refine byP (fc (pxF s) (fc Tryz.ntmps251 Tryz.results251)) ?_
 refine sw_callXR (hT) rfl rfl rfl (byP (fc (pxF s) (show ((0:Nat):Int)=0 from rfl)) True.intro) (byP (fc (pxF s) (show ((0:Nat):Int)=0 from rfl)) True.intro) (byP (fc (pxF s) (show ((0:Nat):Int)=0 from rfl)) True.intro) ?_
 rintro ⟨e,j,b⟩ ⟨he,h1,h2⟩
 simp only at he h1 h2
 have hbad:ptI s (.mk 0 ⟨#[]⟩ ⟨#[]⟩ 0 (.mk 0 []) (.mk 0 []) [],false):=Nat.zero_le _
 cases b
 ·by_cases hj:(j:Int)=(s.size:Int)
  ·have hF:=con_fmtX e (by omega)
   refine sw_run 200 _ _ _ (byP (fc (pxF s) (eq_true hj)) ?_)
   refine sw_callXR (hF) rfl rfl rfl (byP (fc xtF tmC_eq) True.intro) (byP (fc xtF tmC_eq) True.intro) (byP (fc xtF tmC_eq) True.intro) ?_
   rintro x _
   by_cases hx:x=s
   ·refine sw_run 200 _ _ _ (byP (fc xtF (fc hx (fc Tryz.ntmps251 Tryz.results251))) ?_)
    refine ⟨.inl rfl,(e,true),by show msz e≤_;omega, ?_⟩
    refine byP (fc ptF (fc (pxF s) (fc Tryz.ntmps251 Tryz.results251))) ?_
    repeat' (with_reducible apply And.intro)
    all_goals first | exact True.intro | rfl
   ·refine sw_run 200 _ _ _ (byP (fc xtF (fc hx (fc Tryz.ntmps251 Tryz.results251))) ?_)
    refine ⟨.inl rfl,(.mk 0 ⟨#[]⟩ ⟨#[]⟩ 0 (.mk 0 []) (.mk 0 []) [],false),hbad, ?_⟩
    refine byP (fc ptF (fc (pxF s) (fc mkF (fc Tryz.ntmps251 Tryz.results251)))) ?_
    repeat' (with_reducible apply And.intro)
    all_goals first | exact True.intro | rfl
  ·refine sw_run 200 _ _ _ (byP (fc (pxF s) (fc hj (fc Tryz.ntmps251 Tryz.results251))) ?_)
   refine ⟨.inl rfl,(.mk 0 ⟨#[]⟩ ⟨#[]⟩ 0 (.mk 0 []) (.mk 0 []) [],false),hbad, ?_⟩
   refine byP (fc ptF (fc (pxF s) (fc mkF (fc Tryz.ntmps251 Tryz.results251)))) ?_
   repeat' (with_reducible apply And.intro)
   all_goals first | exact True.intro | rfl
 ·refine sw_run 200 _ _ _ (byP (fc (pxF s) (fc Tryz.ntmps251 Tryz.results251)) ?_)
  refine ⟨.inl rfl,(.mk 0 ⟨#[]⟩ ⟨#[]⟩ 0 (.mk 0 []) (.mk 0 []) [],false),hbad, ?_⟩
  refine byP (fc ptF (fc (pxF s) (fc mkF (fc Tryz.ntmps251 Tryz.results251)))) ?_
  repeat' (with_reducible apply And.intro)
  all_goals first | exact True.intro | rfl
def samples:List ByteArray:=[⟨#[60,40,92,120,58,73,46,126,40,40,114,101,99,32,112,32,110,58,73,62,60,73,62,46,40,105,102,32,40,110,61,48,41,32,60,49,62,32,60,40,120,42,126,40,112,32,40,110,45,49,41,41,41,62,41,41,32,51,41,41,62]⟩,⟨#[40,40,114,117,110,32,60,40,92,120,58,73,46,126,40,40,114,101,99,32,112,32,110,58,73,62,60,73,62,46,40,105,102,32,40,110,61,48,41,32,60,49,62,32,60,40,120,42,126,40,112,32,40,110,45,49,41,41,41,62,41,41,32,51,41,41,62,41,32,50,41]⟩,⟨#[40,108,101,116,32,99,61,60,40,49,43,50,41,62,32,60,40,126,99,42,126,99,41,62,41]⟩,⟨#[60,40,92,121,58,73,46,126,40,40,92,122,58,60,73,62,46,60,40,92,121,58,73,46,40,126,122,43,121,41,41,62,41,32,60,121,62,41,41,62]⟩,⟨#[40,114,117,110,32,60,40,114,117,110,32,60,53,62,41,62,41]⟩,⟨#[40,108,101,116,32,110,61,55,32,40,114,117,110,32,60,126,40,108,105,102,116,32,40,110,42,110,41,41,62,41,41]⟩,⟨#[40,40,114,101,99,32,102,32,120,58,73,62,73,46,40,105,102,32,40,120,60,49,41,32,48,32,40,120,43,40,102,32,40,120,45,49,41,41,41,41,41,32,52,41]⟩,⟨#[40,40,114,101,99,32,102,32,120,58,73,62,73,46,40,102,32,120,41,41,32,49,41]⟩,⟨#[60,60,126,40,108,105,102,116,32,51,41,62,62]⟩,⟨#[40,114,117,110,32,60,40,92,102,58,40,73,62,73,41,46,40,102,32,50,41,41,62,41]⟩,⟨#[60,40,108,101,116,32,103,61,40,92,120,58,73,46,120,41,32,126,40,105,102,32,35,116,32,60,40,103,32,49,41,62,32,60,50,62,41,41,62]⟩]
theorem samples_sz:∀ x ∈ samples,x.size≤100:=by decide
set_option maxHeartbeats 4000000 in
theorem con_sample (zs:List Int) (hz:BytOk zs) (i:Nat) (hi:i≤zs.length) (h:Int):ConX Tryz.prog 200 [.p (curA zs i h)] (tmI zs 2000) (tmO zs) tmZs:=by
 have hP:ConX Tryz.prog 145 [.p (curA zs i h),.b (.one (.rows 1 11 [.str ⟨#[60,40,92,120,58,73,46,126,40,40,114,101,99,32,112,32,110,58,73,62,60,73,62,46,40,105,102,32,40,110,61,48,41,32,60,49,62,32,60,40,120,42,126,40,112,32,40,110,45,49,41,41,41,62,41,41,32,51,41,41,62]⟩,.str ⟨#[40,40,114,117,110,32,60,40,92,120,58,73,46,126,40,40,114,101,99,32,112,32,110,58,73,62,60,73,62,46,40,105,102,32,40,110,61,48,41,32,60,49,62,32,60,40,120,42,126,40,112,32,40,110,45,49,41,41,41,62,41,41,32,51,41,41,62,41,32,50,41]⟩,.str ⟨#[40,108,101,116,32,99,61,60,40,49,43,50,41,62,32,60,40,126,99,42,126,99,41,62,41]⟩,.str ⟨#[60,40,92,121,58,73,46,126,40,40,92,122,58,60,73,62,46,60,40,92,121,58,73,46,40,126,122,43,121,41,41,62,41,32,60,121,62,41,41,62]⟩,.str ⟨#[40,114,117,110,32,60,40,114,117,110,32,60,53,62,41,62,41]⟩,.str ⟨#[40,108,101,116,32,110,61,55,32,40,114,117,110,32,60,126,40,108,105,102,116,32,40,110,42,110,41,41,62,41,41]⟩,.str ⟨#[40,40,114,101,99,32,102,32,120,58,73,62,73,46,40,105,102,32,40,120,60,49,41,32,48,32,40,120,43,40,102,32,40,120,45,49,41,41,41,41,41,32,52,41]⟩,.str ⟨#[40,40,114,101,99,32,102,32,120,58,73,62,73,46,40,102,32,120,41,41,32,49,41]⟩,.str ⟨#[60,60,126,40,108,105,102,116,32,51,41,62,62]⟩,.str ⟨#[40,114,117,110,32,60,40,92,102,58,40,73,62,73,41,46,40,102,32,50,41,41,62,41]⟩,.str ⟨#[60,40,108,101,116,32,103,61,40,92,120,58,73,46,120,41,32,126,40,105,102,32,35,116,32,60,40,103,32,49,41,62,32,60,50,62,41,41,62]⟩]))] (txI zs samples) (txO zs) txR:=con_Pick zs hz samples (by decide) (by decide) i hi h
 refine con_runXF [0,1,2,3,4,5,6,7,8,9,10,11,12] Tryz.func200 rfl rfl (by simp [Tryz.ntmps200]) (fun _ _=>rfl) ?_
 refine byP (fc (drZ zs) (fc Tryz.ntmps200 Tryz.results200)) ?_
 refine sw_fzE 2 rfl ?_
 refine byQ ?_
 refine sw_callXR hP rfl rfl rfl ?_ (byP (drZ zs) True.intro) (byP (drZ zs) True.intro) ?_
 ·refine byP (drZ zs) ?_
  rfl
 rintro ⟨s,i1,h1⟩ ⟨hs,hi1⟩
 simp only at hs hi1
 have hsz:=samples_sz s hs
 refine sw_run 200 _ _ _ (byP (drZ zs) ?_)
 refine sw_callXR (con_parseX s (by omega)) rfl rfl rfl (byP (ptF) True.intro) (byP (ptF) True.intro) (byP (ptF) True.intro) ?_
 rintro ⟨e,b⟩ he
 have he':msz e≤8 * s.size:=he
 refine sw_run 200 _ _ _ (byP (fc ptF (fc (drZ zs) (fc Tryz.ntmps200 Tryz.results200))) ?_)
 refine ⟨.inl rfl,(e,i1,h1),⟨by show msz e≤2000;omega,hi1⟩, ?_⟩
 refine byP (fc (drZ zs) (fc tmF (fc mkF (fc Tryz.ntmps200 Tryz.results200)))) ?_
 repeat' (with_reducible apply And.intro)
 all_goals first | exact True.intro | rfl
theorem tyzF:(∀ t,tyZ t = .ag [.r (.int t.kind),.r (.rows 2 t.args.length (tysC t.args))])∧(∀ k xs,(Ty.mk k xs).kind=k∧(Ty.mk k xs).args=xs)∧gI = .mk 1 []∧gB = .mk 2 []∧(∀ t,gC t = .mk 4 [t])∧tysC []=[]∧(∀ a,tysC [a]=[.int a.kind,.rows 2 a.args.length (tysC a.args)])∧(∀ a b,tysC [a,b]=[.int a.kind,.rows 2 a.args.length (tysC a.args),.int b.kind,.rows 2 b.args.length (tysC b.args)]):=⟨fun _=>rfl,fun _ _=>⟨rfl,rfl⟩,rfl,rfl,fun _=>rfl,rfl,tyL1,tyL2⟩
def clT:List Ty:=[gI,gB,gC gI,gC (.mk 3 [gI,gI]),.mk 3 [gI,gI],gC (gC gI),gI,gC gI]
theorem clT_ok:∀ t ∈ clT,formT t=true∧tsz t≤3:=by decide
theorem clT_row (v:Nat) (h:v<8):∃ u,formT u=true∧tsz u≤3∧rowAt 2 [D.int 1,.rows 2 0 [],.int 2,.rows 2 0 [],.int 4,.rows 2 1 [.int 1,.rows 2 0 []],.int 4,.rows 2 1 [.int 3,.rows 2 2 [.int 1,.rows 2 0 [],.int 1,.rows 2 0 []]],.int 3,.rows 2 2 [.int 1,.rows 2 0 [],.int 1,.rows 2 0 []],.int 4,.rows 2 1 [.int 4,.rows 2 1 [.int 1,.rows 2 0 []]],.int 1,.rows 2 0 [],.int 4,.rows 2 1 [.int 1,.rows 2 0 []]] v=[.int u.kind,.rows 2 u.args.length (tysC u.args)]:=by
 have h2:v<clT.length:=h
 refine ⟨clT[v]!,(clT_ok _ (mem_bang h2)).1,(clT_ok _ (mem_bang h2)).2, ?_⟩
 have:=tysC_row' clT v h2
 rw [tyC_eq] at this
 exact this
set_option maxHeartbeats 16000000 in
theorem con_closed (zs:List Int) (hz:BytOk zs) (i:Nat) (hi:i≤zs.length) (h:Int):ConX Tryz.prog 129 [.p (curA zs i h)] (tmI zs 200000) (tmO zs) tmZs:=by
 have hO:=fun n hn hn2 i hi h=>con_Once zs hz n hn hn2 i hi h
 have hB:=fun n hn hn2 i hi h=>con_Below zs hz n hn hn2 i hi h
 have cI:ConP Tryz.prog 201 [] [] [.ag [.r (.int 1),.r (.rows 2 0 [])]]:=con_gI
 have cB:ConP Tryz.prog 202 [] [] [.ag [.r (.int 2),.r (.rows 2 0 [])]]:=con_gB
 have c1:ConP Tryz.prog 203 [.b (.ag [.int 1,.rows 2 0 []])] [] [.ag [.r (.int 4),.r (.rows 2 1 [.int 1,.rows 2 0 []])]]:=con_gC gI (by decide)
 have c2:ConP Tryz.prog 204 [.b (.ag [.int 1,.rows 2 0 []]),.b (.ag [.int 1,.rows 2 0 []])] [] [.ag [.r (.int 3),.r (.rows 2 2 [.int 1,.rows 2 0 [],.int 1,.rows 2 0 []])]]:=con_gF gI gI (by decide) (by decide)
 have c3:ConP Tryz.prog 203 [.b (.ag [.int 3,.rows 2 2 [.int 1,.rows 2 0 [],.int 1,.rows 2 0 []]])] [] [.ag [.r (.int 4),.r (.rows 2 1 [.int 3,.rows 2 2 [.int 1,.rows 2 0 [],.int 1,.rows 2 0 []]])]]:=con_gC (.mk 3 [gI,gI]) (by decide)
 have c4:ConP Tryz.prog 203 [.b (.ag [.int 4,.rows 2 1 [.int 1,.rows 2 0 []]])] [] [.ag [.r (.int 4),.r (.rows 2 1 [.int 4,.rows 2 1 [.int 1,.rows 2 0 []]])]]:=con_gC (gC gI) (by decide)
 refine con_runXF [0,1,2,3,4,5,6,7,8,9,10,11,12] Tryz.func129 rfl rfl (by simp [Tryz.ntmps129]) (fun _ _=>rfl) ?_
 refine byP (fc (drZ zs) (fc Tryz.ntmps129 Tryz.results129)) ?_
 refine sw_callXR (hO 4 (by decide) (by decide) i hi h) rfl rfl rfl (byP (drZ zs) True.intro) (byP (drZ zs) True.intro) (byP (drZ zs) True.intro) ?_
 rintro ⟨b,i1,h1⟩ hi1
 have hi1':i1≤zs.length:=hi1
 cases b
 case true =>
  refine sw_run 200 _ _ _ (byP (drZ zs) ?_)
  refine sw_callXR (con_sample zs hz i1 hi1' h1) rfl rfl rfl (byP (drZ zs) True.intro) (byP (drZ zs) True.intro) (byP (drZ zs) True.intro) ?_
  rintro ⟨e,i2,h2⟩ ⟨he,hi2⟩
  simp only at he hi2
  refine sw_run 200 _ _ _ (byP (fc (drZ zs) (fc Tryz.ntmps129 Tryz.results129)) ?_)
  refine ⟨.inl rfl,(e,i2,h2),⟨by show szL (tmC e)≤200000;omega,hi2⟩, ?_⟩
  refine byP (fc (drZ zs) (fc tmF (fc mkF (fc Tryz.ntmps129 Tryz.results129)))) ?_
  repeat' (with_reducible apply And.intro)
  all_goals first | exact True.intro | rfl
 case false =>
  refine sw_run 200 _ _ _ (byP (drZ zs) ?_)
  refine sw_callPR (cI) rfl rfl rfl (byQ True.intro) (byQ True.intro) (byQ True.intro) ?_
  refine sw_run 200 _ _ _ (byQ ?_)
  refine sw_fzC 2 rfl rfl ?_
  refine sw_drawnS [0,2,4,5,8,9,11,14,15] (.cons 18 true (.fork (.alt 1 (.fork (.alt 3 (.fork (.alt 6 (.fork (.alt 7 (.fork (.alt 10 (.fork (.alt 12 (.fork (.alt 13 (.fork (.alt 16 (.fork (.alt 17 (.fork (.alt 19 (.cons 20 true (.cons 21 true (.cons 22 false (.cons 23 false (.nil))))) (.alt 22 (.cons 19 false (.cons 20 true (.cons 21 true (.cons 23 false (.nil))))) (.last)))) (.alt 19 (.fork (.alt 17 (.cons 20 true (.cons 21 true (.cons 22 false (.cons 23 false (.nil))))) (.alt 22 (.cons 17 false (.cons 20 true (.cons 21 true (.cons 23 false (.nil))))) (.last)))) (.alt 22 (.fork (.alt 17 (.cons 19 false (.cons 20 true (.cons 21 true (.cons 23 false (.nil))))) (.alt 19 (.cons 17 false (.cons 20 true (.cons 21 true (.cons 23 false (.nil))))) (.last)))) (.last))))) (.alt 22 (.cons 16 false (.fork (.alt 17 (.cons 19 false (.cons 20 true (.cons 21 true (.cons 23 false (.nil))))) (.alt 19 (.cons 17 false (.cons 20 true (.cons 21 true (.cons 23 false (.nil))))) (.last))))) (.last)))) (.alt 22 (.cons 13 false (.cons 16 false (.fork (.alt 17 (.cons 19 false (.cons 20 true (.cons 21 true (.cons 23 false (.nil))))) (.alt 19 (.cons 17 false (.cons 20 true (.cons 21 true (.cons 23 false (.nil))))) (.last)))))) (.last)))) (.alt 22 (.cons 12 false (.cons 13 false (.cons 16 false (.fork (.alt 17 (.cons 19 false (.cons 20 true (.cons 21 true (.cons 23 false (.nil))))) (.alt 19 (.cons 17 false (.cons 20 true (.cons 21 true (.cons 23 false (.nil))))) (.last))))))) (.last)))) (.alt 22 (.cons 10 false (.cons 12 false (.cons 13 false (.cons 16 false (.fork (.alt 17 (.cons 19 false (.cons 20 true (.cons 21 true (.cons 23 false (.nil))))) (.alt 19 (.cons 17 false (.cons 20 true (.cons 21 true (.cons 23 false (.nil))))) (.last)))))))) (.last)))) (.alt 22 (.cons 7 false (.cons 10 false (.cons 12 false (.cons 13 false (.cons 16 false (.fork (.alt 17 (.cons 19 false (.cons 20 true (.cons 21 true (.cons 23 false (.nil))))) (.alt 19 (.cons 17 false (.cons 20 true (.cons 21 true (.cons 23 false (.nil))))) (.last))))))))) (.last)))) (.alt 22 (.cons 6 false (.cons 7 false (.cons 10 false (.cons 12 false (.cons 13 false (.cons 16 false (.fork (.alt 17 (.cons 19 false (.cons 20 true (.cons 21 true (.cons 23 false (.nil))))) (.alt 19 (.cons 17 false (.cons 20 true (.cons 21 true (.cons 23 false (.nil))))) (.last)))))))))) (.last)))) (.alt 22 (.cons 3 false (.cons 6 false (.cons 7 false (.cons 10 false (.cons 12 false (.cons 13 false (.cons 16 false (.fork (.alt 17 (.cons 19 false (.cons 20 true (.cons 21 true (.cons 23 false (.nil))))) (.alt 19 (.cons 17 false (.cons 20 true (.cons 21 true (.cons 23 false (.nil))))) (.last))))))))))) (.last)))) (.alt 22 (.cons 1 false (.cons 3 false (.cons 6 false (.cons 7 false (.cons 10 false (.cons 12 false (.cons 13 false (.cons 16 false (.fork (.alt 17 (.cons 19 false (.cons 20 true (.cons 21 true (.cons 23 false (.nil))))) (.alt 19 (.cons 17 false (.cons 20 true (.cons 21 true (.cons 23 false (.nil))))) (.last)))))))))))) (.last))))) (by kernel_rfl) fQXF_panic (by kernel_rfl) ?_ ?_
  ·exact byP prF True.intro
  refine sw_run 200 _ _ _ (byP prF ?_)
  repeat' (with_reducible apply And.intro)
  all_goals
   refine sw_callDPB (cap:=[]) (cB) rfl rfl rfl (byP (tyzF) True.intro) ?_
   refine sw_run 200 _ _ _ (byP tyzF ?_)
  repeat' (with_reducible apply And.intro)
  all_goals
   refine sw_callDPB (cap:=[]) (c1) rfl rfl rfl (byP (tyzF) True.intro) ?_
   refine sw_run 200 _ _ _ (byP tyzF ?_)
  repeat' (with_reducible apply And.intro)
  all_goals
   refine sw_callDPB (cap:=[]) (c2) rfl rfl rfl (byP (tyzF) True.intro) ?_
   refine sw_run 200 _ _ _ (byP tyzF ?_)
  repeat' (with_reducible apply And.intro)
  all_goals
   refine sw_callDPB (cap:=[]) (c3) rfl rfl rfl (byP (tyzF) True.intro) ?_
   refine sw_run 200 _ _ _ (byP tyzF ?_)
  repeat' (with_reducible apply And.intro)
  all_goals
   refine sw_callDPB (cap:=[]) (c2) rfl rfl rfl (byP (tyzF) True.intro) ?_
   refine sw_run 200 _ _ _ (byP tyzF ?_)
  repeat' (with_reducible apply And.intro)
  all_goals
   refine sw_callDPB (cap:=[]) (c1) rfl rfl rfl (byP (tyzF) True.intro) ?_
   refine sw_run 200 _ _ _ (byP tyzF ?_)
  repeat' (with_reducible apply And.intro)
  all_goals
   refine sw_callDPB (cap:=[]) (c4) rfl rfl rfl (byP (tyzF) True.intro) ?_
   refine sw_run 200 _ _ _ (byP tyzF ?_)
  repeat' (with_reducible apply And.intro)
  all_goals
   refine sw_callDPB (cap:=[]) (c1) rfl rfl rfl (byP (tyzF) True.intro) ?_
   refine sw_run 200 _ _ _ (byP tyzF ?_)
  repeat' (with_reducible apply And.intro)
  all_goals
   refine sw_callDXR (hB 8 (by decide) (by decide) i1 hi1' h1) rfl rfl rfl (byP (drZ zs) True.intro) (byP (drZ zs) True.intro) (byP (drZ zs) True.intro) rfl ?_
   rintro ⟨v,i2,h2⟩ ⟨hv,hi2⟩
   simp only at hv hi2
   have hv0:=hv.1
   have hv8:v<8:=by omega
   obtain ⟨u,hu1,hu2,hrow⟩:=clT_row v.toNat (by omega)
   refine sw_run 200 _ _ _ (byP (fc (drZ zs) (fc hv0 (fc hv8 hrow))) ?_)
  repeat' (with_reducible apply And.intro)
  all_goals
   first | refine sw_fzC 3 rfl rfl ?_ | refine sw_fzC 4 rfl rfl ?_
   refine sw_drawnS [2] (.cons 0 true (.cons 3 true (.fork (.alt 1 (.cons 4 false (.cons 5 true (.cons 6 false (.cons 7 false (.nil))))) (.alt 4 (.cons 5 true (.cons 1 false (.cons 6 false (.cons 7 false (.nil))))) (.last)))))) (by kernel_rfl) fQXF_panic (by kernel_rfl) ?_ ?_
   ·exact byP prF True.intro
   refine sw_run 200 _ _ _ (byP prF ?_)
  repeat' (with_reducible apply And.intro)
  all_goals
   refine sw_callDXR (hB 3 (by decide) (by decide) i2 hi2 h2) rfl rfl rfl (byP (drZ zs) True.intro) (byP (drZ zs) True.intro) (byP (drZ zs) True.intro) rfl ?_
   rintro ⟨w,i3,h3⟩ ⟨hw,hi3⟩
   simp only at hw hi3
   obtain ⟨d,hd⟩:∃ d:Nat,3+w=(d:Int):=⟨(3+w).toNat,by omega⟩
   have hd5:d≤5:=by omega
   have hin:inI (d:Int):=by unfold inI;omega
   have hG:ConX Tryz.prog 205 [.p (curA zs i3 h3),.b (.one (.rows 4 0 [])),.b (.ag [.int u.kind,.rows 2 u.args.length (tysC u.args)]),.b (.one (.int 0)),.b (.one (.int d))] (tmI zs (gsz (tsz u) d)) (tmO zs) tmZs:=con_gen zs hz d (by omega) [] u 0 i3 h3 ⟨Nat.zero_le _,fun g hg=>by cases hg⟩ hu1 (by omega) (Int.le_refl _) (by omega) hi3
   have hgb:=gsz_b (tsz u) d (by omega) (by omega)
   refine sw_run 200 _ _ _ (byP (fc (drZ zs) (fc hd hin)) ?_)
   first | (refine sw_fzG 5 rfl ?_) | (refine sw_fzG 6 rfl ?_) | skip
   refine byQ ?_
   refine sw_callDXR (hG) rfl rfl rfl (byP (drZ zs) True.intro) (byP (drZ zs) True.intro) (byP (drZ zs) True.intro) rfl ?_
   rintro ⟨e,i4,h4⟩ ⟨he,hi4⟩
   simp only at he hi4
   refine sw_run 200 _ _ _ (byP (fc (drZ zs) (fc Tryz.ntmps129 Tryz.results129)) ?_)
   refine ⟨.inl rfl,(e,i4,h4),⟨by show szL (tmC e)≤200000;omega,hi4⟩, ?_⟩
   refine byP (fc (drZ zs) (fc tmF (fc mkF (fc Tryz.ntmps129 Tryz.results129)))) ?_
   repeat' (with_reducible apply And.intro)
   all_goals first | exact True.intro | rfl
end Go.Proofs.YtaidalilfmjfgaaGreat
