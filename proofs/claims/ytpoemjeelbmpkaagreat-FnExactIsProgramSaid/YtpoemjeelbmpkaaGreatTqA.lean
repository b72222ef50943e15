/-
  Types of terms, the reference's side: contexts, operations, forms.
-/
import Derived.Test.YtpoemjeelbmpkaaGreatTpF
namespace Go.Proofs.YtpoemjeelbmpkaaGreat
open Go.RowKit
set_option linter.unusedVariables false
set_option linter.unusedSimpArgs false
set_option maxRecDepth 20000
theorem con_tybS : Con Tryz.prog 59 [] [.ag (tyC tB)] := by
  refine con_run Tryz.func59 rfl rfl (by simp [Tryz.ntmps59]) ?_
  refine byP (fc Tryz.ntmps59 Tryz.results59) ?_
  exact ⟨rfl, rfl, rfl⟩
theorem con_tyiS : Con Tryz.prog 58 [] [.ag (tyC tI)] := by
  refine con_run Tryz.func58 rfl rfl (by simp [Tryz.ntmps58]) ?_
  refine byP (fc Tryz.ntmps58 Tryz.results58) ?_
  exact ⟨rfl, rfl, rfl⟩
theorem con_tybSR : ConP Tryz.prog 59 [] [] [.ag [.r (.int 2), .r (.rows 2 0 [])]] := conR con_tybS trivial
theorem con_tyiSR : ConP Tryz.prog 58 [] [] [.ag [.r (.int 1), .r (.rows 2 0 [])]] := conR con_tyiS trivial
theorem con_withS (xs : List Tg) (g : Tg) (hl : xs.length ≤ 2000000000) : ConP Tryz.prog 87 [.b (.one (.rows 4 xs.length (flC tgC xs))), .b (.one (.str g.name)), .b (.ag [.int g.ty.kind, .rows 2 g.ty.args.length (tysC g.ty.args)]), .b (.one (.int g.level))] [] [.one (.r (.rows 4 (xs ++ [g]).length (flC tgC (xs ++ [g]))))] := by
  rw [List.length_append, flC_app, flC_one]
  simp only [tgC, tysD, List.length_cons, List.length_nil, Nat.zero_add]
  refine con_runPF [0, 1, 2, 3, 4, 5] Tryz.func87 rfl rfl (by simp [Tryz.ntmps87]) rfl ?_
  refine byP (fc Tryz.ntmps87 Tryz.results87) ?_
  exact ⟨⟨fun _ _ => trivial, by unfold maxLen; omega, by omega⟩, fun o h => by omega, by unfold maxLen; omega, by omega⟩
set_option maxHeartbeats 2000000 in
theorem con_opS (s : ByteArray) (l : List Ty) (hl : l.length ≤ 2000000000) : ConP Tryz.prog 93 [.b (.one (.str s)), .b (.one (.rows 2 l.length (tysC l)))] [] [.ag [.r (.int (opS s l).1.kind), .r (.rows 2 (opS s l).1.args.length (tysC (opS s l).1.args))], .one (.r (.bool (opS s l).2))] := by
  by_cases c1 : s = ⟨#[38]⟩ ∨ s = ⟨#[124]⟩ ∨ s = ⟨#[33]⟩
  · have e1 : wantK s = 2 := by unfold wantK oAnd oOr oNot; rw [if_pos c1]
    have n1 : (s = ⟨#[43]⟩) = False := eq_false (by rintro rfl; revert c1; decide)
    have n2 : (s = ⟨#[45]⟩) = False := eq_false (by rintro rfl; revert c1; decide)
    have n3 : (s = ⟨#[42]⟩) = False := eq_false (by rintro rfl; revert c1; decide)
    have e2 : (if s = oAdd ∨ s = oSub ∨ s = oMul then tI else tB) = tB := by
      rw [if_neg]; rintro (h | h | h)
      · exact of_eq_false n1 h
      · exact of_eq_false n2 h
      · exact of_eq_false n3 h
    unfold opS
    rw [e1, e2]
    rcases pc (s = ⟨#[38]⟩) with h1 | h1
    all_goals rcases pc (s = ⟨#[124]⟩) with h2 | h2
    all_goals rcases pc (s = ⟨#[33]⟩) with h3 | h3
    all_goals try (exfalso; exact c1.elim (of_eq_false h1) fun q => q.elim (of_eq_false h2) (of_eq_false h3))
    all_goals
      refine con_runP Tryz.func93 rfl rfl (by simp [Tryz.ntmps93]) rfl ?_
      refine byP (fc h1 (fc h2 (fc h3 (fc Tryz.ntmps93 Tryz.results93)))) ?_
      refine sw_loop (fun k : Nat => k ≤ l.length ∧ (l.take k).all (fun t => decide (t.kind = 2)) = true) (fun k => ⟨44, [(7, .i k), (1, .br (.rows 2 l.length (tysC l))), (0, .s s), (6, .i 2), (5, .b false), (4, .bx 0 0)], [(0, [.i 0, .nl 2])], [], 1, []⟩) (fun k => l.length - k) 0 id ⟨Nat.zero_le _, rfl⟩ (byP Int.natCast_zero True.intro) ?_
      rintro k ⟨hk, hall⟩
      by_cases hlt : k < l.length
      · have hi : (k : Int) < (l.length : Int) := by omega
        have hR := tysC_row' l k hlt
        rw [tyC_eq] at hR
        have hst : (l.take (k + 1)).all (fun t => decide (t.kind = 2)) = decide ((l[k]!).kind = 2) := by rw [take_snoc l k hlt, List.all_append, hall]; simp
        by_cases hb : (l[k]!).kind = 2
        · rw [decide_eq_true hb] at hst
          refine sw_run 200 _ _ _ (byP (fc hi (fc hR hb)) ?_)
          exact ⟨by unfold inI; omega, k + 1, id, ⟨by omega, hst⟩, by omega, byQ True.intro⟩
        · have hf : l.all (fun t => decide (t.kind = 2)) = false := by
            rw [List.all_eq_false]
            exact ⟨l[k]!, mem_bang hlt, by simpa using hb⟩
          rw [hf]
          refine sw_run 200 _ _ _ (byP (fc hi (fc hR (fc hb (fc Tryz.ntmps93 Tryz.results93)))) ?_)
          exact ⟨rfl, rfl, rfl⟩
      · have hi : ¬ (k : Int) < (l.length : Int) := by omega
        obtain rfl : k = l.length := by omega
        rw [List.take_length] at hall
        rw [hall]
        refine sw_run 200 _ _ _ (byP hi ?_)

        refine sw_run 200 _ _ _ ?_
        refine byP (fc n1 (fc n2 n3)) ?_
        refine sw_callPR (con_tybSR) rfl rfl rfl (byQ True.intro) (byQ True.intro) (byQ True.intro) ?_
        refine sw_run 200 _ _ _ (byP (fc Tryz.ntmps93 Tryz.results93) ?_)
        exact ⟨rfl, rfl⟩
  · have e1 : wantK s = 1 := by unfold wantK oAnd oOr oNot; rw [if_neg c1]
    have h1 : (s = ⟨#[38]⟩) = False := eq_false fun h => c1 (.inl h)
    have h2 : (s = ⟨#[124]⟩) = False := eq_false fun h => c1 (.inr (.inl h))
    have h3 : (s = ⟨#[33]⟩) = False := eq_false fun h => c1 (.inr (.inr h))
    unfold opS
    rw [e1]
    by_cases c2 : s = ⟨#[43]⟩ ∨ s = ⟨#[45]⟩ ∨ s = ⟨#[42]⟩
    · have e2 : (if s = oAdd ∨ s = oSub ∨ s = oMul then tI else tB) = tI := by unfold oAdd oSub oMul; rw [if_pos c2]
      rw [e2]
      rcases pc (s = ⟨#[43]⟩) with n1 | n1
      all_goals rcases pc (s = ⟨#[45]⟩) with n2 | n2
      all_goals rcases pc (s = ⟨#[42]⟩) with n3 | n3
      all_goals try (exfalso; exact c2.elim (of_eq_false n1) fun q => q.elim (of_eq_false n2) (of_eq_false n3))
      all_goals
        refine con_runP Tryz.func93 rfl rfl (by simp [Tryz.ntmps93]) rfl ?_
        refine byP (fc h1 (fc h2 (fc h3 (fc Tryz.ntmps93 Tryz.results93)))) ?_
        refine sw_loop (fun k : Nat => k ≤ l.length ∧ (l.take k).all (fun t => decide (t.kind = 1)) = true) (fun k => ⟨44, [(7, .i k), (1, .br (.rows 2 l.length (tysC l))), (0, .s s), (6, .i 1), (5, .b false), (4, .bx 0 0)], [(0, [.i 0, .nl 2])], [], 1, []⟩) (fun k => l.length - k) 0 id ⟨Nat.zero_le _, rfl⟩ (byP Int.natCast_zero True.intro) ?_
        rintro k ⟨hk, hall⟩
        by_cases hlt : k < l.length
        · have hi : (k : Int) < (l.length : Int) := by omega
          have hR := tysC_row' l k hlt
          rw [tyC_eq] at hR
          have hst : (l.take (k + 1)).all (fun t => decide (t.kind = 1)) = decide ((l[k]!).kind = 1) := by rw [take_snoc l k hlt, List.all_append, hall]; simp
          by_cases hb : (l[k]!).kind = 1
          · rw [decide_eq_true hb] at hst
            refine sw_run 200 _ _ _ (byP (fc hi (fc hR hb)) ?_)
            exact ⟨by unfold inI; omega, k + 1, id, ⟨by omega, hst⟩, by omega, byQ True.intro⟩
          · have hf : l.all (fun t => decide (t.kind = 1)) = false := by
              rw [List.all_eq_false]
              exact ⟨l[k]!, mem_bang hlt, by simpa using hb⟩
            rw [hf]
            refine sw_run 200 _ _ _ (byP (fc hi (fc hR (fc hb (fc Tryz.ntmps93 Tryz.results93)))) ?_)
            exact ⟨rfl, rfl, rfl⟩
        · have hi : ¬ (k : Int) < (l.length : Int) := by omega
          obtain rfl : k = l.length := by omega
          rw [List.take_length] at hall
          rw [hall]
          refine sw_run 200 _ _ _ (byP hi ?_)

          refine sw_run 200 _ _ _ ?_
          refine byP (fc n1 (fc n2 n3)) ?_
          refine sw_callPR (con_tyiSR) rfl rfl rfl (byQ True.intro) (byQ True.intro) (byQ True.intro) ?_
          refine sw_run 200 _ _ _ (byP (fc Tryz.ntmps93 Tryz.results93) ?_)
          exact ⟨rfl, rfl⟩
    · have e2 : (if s = oAdd ∨ s = oSub ∨ s = oMul then tI else tB) = tB := by unfold oAdd oSub oMul; rw [if_neg c2]
      have n1 : (s = ⟨#[43]⟩) = False := eq_false fun h => c2 (.inl h)
      have n2 : (s = ⟨#[45]⟩) = False := eq_false fun h => c2 (.inr (.inl h))
      have n3 : (s = ⟨#[42]⟩) = False := eq_false fun h => c2 (.inr (.inr h))
      rw [e2]
      refine con_runP Tryz.func93 rfl rfl (by simp [Tryz.ntmps93]) rfl ?_
      refine byP (fc h1 (fc h2 (fc h3 (fc Tryz.ntmps93 Tryz.results93)))) ?_
      refine sw_loop (fun k : Nat => k ≤ l.length ∧ (l.take k).all (fun t => decide (t.kind = 1)) = true) (fun k => ⟨44, [(7, .i k), (1, .br (.rows 2 l.length (tysC l))), (0, .s s), (6, .i 1), (5, .b false), (4, .bx 0 0)], [(0, [.i 0, .nl 2])], [], 1, []⟩) (fun k => l.length - k) 0 id ⟨Nat.zero_le _, rfl⟩ (byP Int.natCast_zero True.intro) ?_
      rintro k ⟨hk, hall⟩
      by_cases hlt : k < l.length
      · have hi : (k : Int) < (l.length : Int) := by omega
        have hR := tysC_row' l k hlt
        rw [tyC_eq] at hR
        have hst : (l.take (k + 1)).all (fun t => decide (t.kind = 1)) = decide ((l[k]!).kind = 1) := by rw [take_snoc l k hlt, List.all_append, hall]; simp
        by_cases hb : (l[k]!).kind = 1
        · rw [decide_eq_true hb] at hst
          refine sw_run 200 _ _ _ (byP (fc hi (fc hR hb)) ?_)
          exact ⟨by unfold inI; omega, k + 1, id, ⟨by omega, hst⟩, by omega, byQ True.intro⟩
        · have hf : l.all (fun t => decide (t.kind = 1)) = false := by
            rw [List.all_eq_false]
            exact ⟨l[k]!, mem_bang hlt, by simpa using hb⟩
          rw [hf]
          refine sw_run 200 _ _ _ (byP (fc hi (fc hR (fc hb (fc Tryz.ntmps93 Tryz.results93)))) ?_)
          exact ⟨rfl, rfl, rfl⟩
      · have hi : ¬ (k : Int) < (l.length : Int) := by omega
        obtain rfl : k = l.length := by omega
        rw [List.take_length] at hall
        rw [hall]
        refine sw_run 200 _ _ _ (byP hi ?_)

        refine sw_run 200 _ _ _ ?_
        refine byP (fc n1 (fc n2 n3)) ?_
        refine sw_callPR (con_tybSR) rfl rfl rfl (byQ True.intro) (byQ True.intro) (byQ True.intro) ?_
        refine sw_run 200 _ _ _ (byP (fc Tryz.ntmps93 Tryz.results93) ?_)
        exact ⟨rfl, rfl⟩
end Go.Proofs.YtpoemjeelbmpkaaGreat
