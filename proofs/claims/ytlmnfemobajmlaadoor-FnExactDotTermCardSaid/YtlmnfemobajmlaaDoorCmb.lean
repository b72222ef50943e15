/-
  Makers that take a slice over and write nothing: contracts, and calls where the order is drawn.
-/
import Derived.Test.YtlmnfemobajmlaaDoorMk
import Derived.Test.YtlmnfemobajmlaaDoorLp
import Derived.Laws.Rows
import Derived.RangeFuncRecord
namespace Go.Proofs.YtlmnfemobajmlaaDoor
open Go.RowKit
set_option linter.unusedVariables false
set_option linter.unusedSimpArgs false
def ConMB (P : Program) (f : FuncId) (args : List MA) (rs : List PD) : Prop :=
  (∃ fn, P.funcs[f]? = some fn ∧ fn.body.isNone = false ∧ (fn.name == "runtime.NumGoroutine") = false) ∧
  ∀ w us fp S, GI w → (∀ k ∈ GBl, S k) → (∀ k, S k → k < w.heap.size ∧ k ∉ fp) → RepMAs w S args us fp → fp.Nodup → Calls P f us.toArray w fun e w' => Below w.heap.size w w' ∧ Bel (· ∈ fp) w w' ∧ ∃ vs fp', e = .returned (retV (packV rs vs)) ∧ OwnVs w' (flatD rs) vs fp' ∧ fp'.Nodup ∧ ∀ k ∈ fp', k ∈ fp ∨ w.heap.size ≤ k
theorem callMB_ok {P : Program} {w0 : World0} {G : Gh} {s : AS} {a : Act} {w : World} (h : Rel w0 G s a w) {F : FuncId} {cap : List AV} {args : Array Operand} {tys : Array TypeId} {f : Operand} {dst : Option Tmp} {ty : TypeId} {pos : String} {af : Array Edge} {gd : Option (Nat × Bool)} {ps : List MA} {rs : List PD}
    (hc : ConMB P F ps rs) (hf : s.ev f = .fn F cap) (ha : mAs (s.kl (eatM (args.toList.map s.ev ++ cap) ps)) s (args.toList.map s.ev ++ cap) ps) (hnd : (eatM (args.toList.map s.ev ++ cap) ps).Nodup) (ho : okR rs) {Q : Exit → Act → World → Prop} {K : Act → World → Prop}
    (hK : ∀ a' w', (Below w.heap.size w w' ∧ ∃ G', Rel w0 G' ((mkR (s.kl (eatM (args.toList.map s.ev ++ cap) ps)) (flatD rs)).2.pt dst (retA (packA rs (mkR (s.kl (eatM (args.toList.map s.ev ++ cap) ps)) (flatD rs)).1))) a' w') → K a' w') :
    (Oper.mk dst (.call ⟨.value f, args, tys⟩) ty pos af gd).wp P a w K Q := by
  have hfv := h.ev f
  rw [hf] at hfv
  unfold RV at hfv
  obtain ⟨us, hu, hr⟩ := hfv
  have hargs : RVs G w s.owf s.nx (args.toList.map s.ev ++ cap) (args.toList.map a.eval ++ us) := (h.evs args.toList).append _ _ _ _ hr
  obtain ⟨hrep, hlive⟩ := mAs_own h (h.kl _) rfl (fun o I ho => (kl_owf ho).1) _ _ _ hargs ha
  obtain ⟨⟨fn, hfn, hbody, hname⟩, hcon⟩ := hc
  have hcall := hcon w _ _ _ (w0.gi w h.bel.size h.bel.block) (fun k hk => .inl (h.zz.1 k (w0.gz k hk))) (reach_kl h hlive) hrep (flat_nodup h _ hnd hlive)
  unfold Oper.wp
  have hrun : (execOp a.eval ⟨dst, .call { callee := .value f, args := args, argTypes := tys }, ty, pos, af, gd⟩).run P w = .ok (.enter F (args.toList.map a.eval ++ us).toArray) w := by
    have e1 : ((#[] : Array Value) ++ args.map a.eval) ++ us.toArray = (args.toList.map a.eval ++ us).toArray := by
      apply Array.ext'; simp
    simp only [execOp, resolve, Deferred.ofValue, hu, pure_bind, invoke, e1, callFunc, Sem.run_bind, program, Sem.run, Result.andThen_ok, hfn, hname, hbody, Bool.false_eq_true, if_false, Sem.run_pure]
  rw [hrun]
  refine hcall.mono fun e w' ⟨hbl, hb, vs, fp', he, hown, hn', hsub⟩ => ?_
  subst he
  have hfrm : ∀ k ∈ (eatM (args.toList.map s.ev ++ cap) ps).flatMap G.B, Fr G s (eatM (args.toList.map s.ev ++ cap) ps) [] k := fun k hk => by
    obtain ⟨o, ho, hko⟩ := List.mem_flatMap.1 hk
    obtain ⟨I, hI, _⟩ := hlive o ho
    exact .inl ⟨o, ho, I, hI, hko⟩
  have h' : Rel w0 G (s.kl (eatM (args.toList.map s.ev ++ cap) ps)) a w' :=
    h.aft (b := []) hb hfrm (fun k hk => ⟨hk, (Fr.lt h (hfrm k hk)).1.2.imp id (w0.mw k)⟩) (fun _ h => h) (fun _ h => .inl h) (fun k hk => Nat.lt_of_lt_of_le (h.zl k hk) hb.size)
  have hbs := h.bel.size
  have hbsz := hb.size
  obtain ⟨G', h5, h6, _⟩ := mkR_ok (flatD rs) vs fp' G _ h' hown hn' (fun k hk => by
    rcases hsub k hk with h1 | h1
    · obtain ⟨o, ho, hko⟩ := List.mem_flatMap.1 h1
      obtain ⟨I, hI, _⟩ := hlive o ho
      exact ((h.own o I hI).2.1.1 k hko).1
    · exact ⟨fun hz => absurd (h.zl _ hz) (Nat.not_lt.2 h1), .inl (Nat.le_trans hbs h1)⟩) (fun k hk => ⟨fun b cs hl e => by
      rcases hsub k hk with h1 | h1
      · obtain ⟨o, ho, hko⟩ := List.mem_flatMap.1 h1
        obtain ⟨I, hI, _⟩ := hlive o ho
        exact (h.own o I hI).2.2 b cs hl (e ▸ hko)
      · obtain ⟨_, _, _, _, h7, _⟩ := h.bx b cs hl
        have := h7.lt
        omega, fun o I hI hk' => by
      obtain ⟨hI, hno⟩ := kl_owf hI
      rcases hsub k hk with h1 | h1
      · obtain ⟨o', ho', hko⟩ := List.mem_flatMap.1 h1
        obtain ⟨I', hI', _⟩ := hlive o' ho'
        exact h.dis o o' I I' hI hI' (fun e => hno (e ▸ ho')) k hk' hko
      · have := ((h.own o I hI).2.1.1 k hk').2
        omega⟩)
  exact hK _ w' ⟨hbl, G', h5.pt dst (ret_ok (pack_ok rs _ _ h6 (mkR_len _ _) (okR_ok ho)))⟩
/-- .. where the order is drawn. -/
theorem sw_callDMB {P : Program} {all : List Oper} {r : OrdT} {st : List It} {dst : Option Tmp} {f : Operand} {args : Array Operand} {tys : Array TypeId} {ty : TypeId} {pos : String} {af : Array Edge} {gd : Option (Nat × Bool)} {s : AS} {Q : QE} {F : FuncId} {cap : List AV} {ps : List MA} {rs : List PD}
    (hc : ConMB P F ps rs) (hf : s.ev f = .fn F cap) (ha : mAs (s.kl (eatM (args.toList.map s.ev ++ cap) ps)) s (args.toList.map s.ev ++ cap) ps) (hnd : (eatM (args.toList.map s.ev ++ cap) ps).Nodup) (ho : okR rs)
    (h : SW P (.dr all r :: st) ((mkR (s.kl (eatM (args.toList.map s.ev ++ cap) ps)) (flatD rs)).2.pt dst (retA (packA rs (mkR (s.kl (eatM (args.toList.map s.ev ++ cap) ps)) (flatD rs)).1))) Q) :
    SW P (.dg all ⟨dst, .call ⟨.value f, args, tys⟩, ty, pos, af, gd⟩ false r :: st) s Q := fun w0 G a w hr =>
  callMB_ok hr hc hf ha hnd ho fun a' w' ⟨hb, G', hr'⟩ => ⟨fun _ => hb, h w0 G' a' w' hr'⟩

theorem own_maker {w : World} {d : D} {v : Value} {f : List Nat} (h : OwnV w d v f) (k n : Int) (s : ByteArray) : OwnVs w [.int k, .str s, .str e0, .int n, .int 0, .rows 2 0 [], .int 0, .rows 2 0 [], d] [.int .i64 k, .string s, .string e0, .int .i64 n, .int .i64 0, .slice none 0 0, .int .i64 0, .slice none 0 0, v] f := by
  have hn : ∀ sz, OwnV w (.rows sz 0 []) (.slice none 0 0) [] := fun sz => by unfold OwnV; exact ⟨none, 0, rfl, Nat.le_refl _, Nat.zero_le _, by simp, .inl ⟨rfl, rfl⟩⟩
  unfold OwnVs OwnVs OwnVs OwnVs OwnVs OwnVs OwnVs OwnVs OwnVs OwnVs
  exact ⟨_, _, [], f, rfl, rfl, by unfold OwnV; exact ⟨rfl, rfl⟩, _, _, [], f, rfl, rfl, by unfold OwnV; exact ⟨rfl, rfl⟩, _, _, [], f, rfl, rfl, by unfold OwnV; exact ⟨rfl, rfl⟩, _, _, [], f, rfl, rfl, by unfold OwnV; exact ⟨rfl, rfl⟩, _, _, [], f, rfl, rfl, by unfold OwnV; exact ⟨rfl, rfl⟩,
    _, _, [], f, rfl, rfl, hn 2, _, _, [], f, rfl, rfl, by unfold OwnV; exact ⟨rfl, rfl⟩, _, _, [], f, rfl, rfl, hn 2, _, _, f, [], rfl, by simp, h, rfl, rfl⟩
set_option maxRecDepth 100000 in
theorem conB_tmForm (k : Int) (n : Nat) (cs : List D) : ConMB Tryd.prog 38 [.b (.one (.int k)), .m (.rows 9 n cs)] [.ag [.int k, .str e0, .str e0, .int 0, .int 0, .rows 2 0 [], .int 0, .rows 2 0 [], .rows 9 n cs]] := by
  refine ⟨⟨_, rfl, by kernel_rfl, by kernel_rfl⟩, fun w us fp S hg hgs hS hu hn => ?_⟩
  unfold RepMAs RepMAs RepMAs at hu
  obtain ⟨v, r, f, g, rfl, rfl, h1, v2, r2, f2, g2, rfl, rfl, h2, rfl, rfl⟩ := hu
  unfold RepMA RepX RepP at h1
  obtain ⟨rfl, rfl⟩ := h1
  unfold RepMA at h2
  have h2' := h2
  unfold OwnV at h2'
  obtain ⟨a, cap, rfl, _⟩ := h2'
  have H2 := Lib.hid h2
  clear h2
  go_enter Tryd.func38, Tryd.ntmps38
  go_wp2
  refine bodyPost_ret (results_cell_row (p := 4) (ty := 28) rfl _ _ w.heap.size 28 _ (0, 0) _ rfl (World.alloc_heap_new w _) Tryd.underlying28 rfl (by kernel_rfl)) rfl ?_
  have hb : ∀ o, Below w.heap.size w (w.alloc o) := fun o => (Below.refl _ w).alloc (Nat.le_refl _) _
  refine ⟨hb _, belB (hb _), [.int .i64 k, .string e0, .string e0, .int .i64 0, .int .i64 0, .slice none 0 0, .int .i64 0, .slice none 0 0, .slice a n cap], rfl, f2, own_maker (H2.out.keep (hb _).size _ _ _ fun j hj => (hb _).block j (OwnV.lt _ _ _ H2.out j hj)) k 0 e0, by simpa using hn, fun j hj => .inl (by simpa using hj)⟩
set_option maxRecDepth 100000 in
theorem conB_tmOp (s : ByteArray) (n : Nat) (cs : List D) : ConMB Tryd.prog 34 [.b (.one (.str s)), .m (.rows 9 n cs)] [.ag [.int 4, .str s, .str e0, .int 0, .int 0, .rows 2 0 [], .int 0, .rows 2 0 [], .rows 9 n cs]] := by
  refine ⟨⟨_, rfl, by kernel_rfl, by kernel_rfl⟩, fun w us fp S hg hgs hS hu hn => ?_⟩
  unfold RepMAs RepMAs RepMAs at hu
  obtain ⟨v, r, f, g, rfl, rfl, h1, v2, r2, f2, g2, rfl, rfl, h2, rfl, rfl⟩ := hu
  unfold RepMA RepX RepP at h1
  obtain ⟨rfl, rfl⟩ := h1
  unfold RepMA at h2
  have h2' := h2
  unfold OwnV at h2'
  obtain ⟨a, cap, rfl, _⟩ := h2'
  have H2 := Lib.hid h2
  clear h2
  go_enter Tryd.func34, Tryd.ntmps34
  go_wp2
  refine bodyPost_ret (results_cell_row (p := 4) (ty := 28) rfl _ _ w.heap.size 28 _ (0, 0) _ rfl (World.alloc_heap_new w _) Tryd.underlying28 rfl (by kernel_rfl)) rfl ?_
  have hb : ∀ o, Below w.heap.size w (w.alloc o) := fun o => (Below.refl _ w).alloc (Nat.le_refl _) _
  refine ⟨hb _, belB (hb _), [.int .i64 4, .string s, .string e0, .int .i64 0, .int .i64 0, .slice none 0 0, .int .i64 0, .slice none 0 0, .slice a n cap], rfl, f2, own_maker (H2.out.keep (hb _).size _ _ _ fun j hj => (hb _).block j (OwnV.lt _ _ _ H2.out j hj)) 4 0 s, by simpa using hn, fun j hj => .inl (by simpa using hj)⟩
set_option maxRecDepth 100000 in
theorem raw_tmForm (k : Int) (a : Option Addr) (n cap : Nat) (w : World) : Calls Tryd.prog 38 #[.int .i64 k, .slice a n cap] w fun e w' => e = .returned (.agg #[.int .i64 k, .string ⟨#[]⟩, .string ⟨#[]⟩, .int .i64 0, .int .i64 0, .slice none 0 0, .int .i64 0, .slice none 0 0, .slice a n cap]) ∧ w' = w.alloc (.cells #[.int .i64 k, .string ⟨#[]⟩, .string ⟨#[]⟩, .int .i64 0, .int .i64 0, .slice none 0 0, .int .i64 0, .slice none 0 0, .slice a n cap] 28) := by
  go_enter Tryd.func38, Tryd.ntmps38
  go_wp2
  refine bodyPost_ret (results_cell_row (p := 4) (ty := 28) rfl _ _ w.heap.size 28 _ (0, 0) _ rfl (World.alloc_heap_new w _) Tryd.underlying28 rfl (by kernel_rfl)) rfl ⟨rfl, rfl⟩
set_option maxRecDepth 100000 in
theorem conB_quoted (e : Tm) : ConMB Tryd.prog 33 [.g (tmC e)] [.ag (tmC (tNode 10 [e]))] := by
  refine ⟨⟨_, rfl, by kernel_rfl, by kernel_rfl⟩, fun w us fp S hg hgs hS hu hn => ?_⟩
  unfold RepMAs RepMAs at hu
  obtain ⟨v, r, f, g, rfl, rfl, h1, rfl, rfl⟩ := hu
  unfold RepMA at h1
  obtain ⟨vs, rfl, h1⟩ := h1
  have H1 := Lib.hid h1
  rw [tmC_eq] at h1
  unfold OwnVs OwnVs OwnVs OwnVs OwnVs OwnVs OwnVs OwnVs OwnVs OwnVs at h1
  obtain ⟨x0, _, _, _, rfl, _, k0, x1, _, _, _, rfl, _, k1, x2, _, _, _, rfl, _, k2, x3, _, _, _, rfl, _, k3, x4, _, _, _, rfl, _, k4, x5, _, _, _, rfl, _, k5, x6, _, _, _, rfl, _, k6, x7, _, _, _, rfl, _, k7, x8, _, _, _, rfl, _, k8, rfl, _⟩ := h1
  unfold tysD OwnV at k5 k7
  unfold tmsD OwnV at k8
  unfold OwnV at k0 k1 k2 k3 k4 k6
  obtain ⟨rfl, _⟩ := k0
  obtain ⟨rfl, _⟩ := k1
  obtain ⟨rfl, _⟩ := k2
  obtain ⟨rfl, _⟩ := k3
  obtain ⟨rfl, _⟩ := k4
  obtain ⟨a5, c5, rfl, _⟩ := k5
  obtain ⟨rfl, _⟩ := k6
  obtain ⟨a7, c7, rfl, _⟩ := k7
  obtain ⟨a8, c8, rfl, _⟩ := k8
  go_enter Tryd.func33, Tryd.ntmps33
  go_wp2_with (go_at_call 38; refine (raw_tmForm _ _ _ _ _).mono ?_; rintro en w1 ⟨rfl, rfl⟩)
  generalize hA : Obj.cells #[.int .i64 e.kind, .string e.name, .string e.other, .int .i64 e.n, .int .i64 e.ty.kind, .slice a5 e.ty.args.length c5, .int .i64 e.res.kind, .slice a7 e.res.args.length c7, .slice a8 e.args.length c8] 28 = A
  generalize hC : Obj.cells #[.int .i64 10, .string ⟨#[]⟩, .string ⟨#[]⟩, .int .i64 0, .int .i64 0, .slice none 0 0, .int .i64 0, .slice none 0 0, .slice (some ⟨w.heap.size + 1 + 1, 0, none⟩) 1 1] 28 = C
  obtain ⟨W, hW⟩ : ∃ W, W = (((w.alloc A).alloc C).alloc A).alloc C := ⟨_, rfl⟩
  have hb : Below w.heap.size w W := by rw [hW]; exact ((((Below.refl _ w).alloc (Nat.le_refl _) _).alloc (by simp) _).alloc (by simp; omega) _).alloc (by simp; omega) _
  have hB1 : W.heap[w.heap.size + 1]? = some C := by
    rw [hW, Below.heap_alloc _ _ _ (by simp), Below.heap_alloc _ _ _ (by simp)]
    have := World.alloc_heap_new (w.alloc A) C
    rwa [World.size_alloc] at this
  have hB2 : W.heap[w.heap.size + 1 + 1]? = some A := by
    rw [hW, Below.heap_alloc _ _ _ (by simp)]
    have := World.alloc_heap_new ((w.alloc A).alloc C) A
    rwa [World.size_alloc, World.size_alloc] at this
  have hs : w.heap.size + 1 + 1 < W.heap.size := by rw [hW]; simp
  rw [← hW]
  clear hW
  rw [← hC] at hB1
  rw [← hA] at hB2
  refine bodyPost_ret (results_cell_row (p := 2) (ty := 28) rfl _ _ (w.heap.size + 1) 28 _ (0, 0) _ rfl hB1 Tryd.underlying28 rfl (by kernel_rfl)) rfl ?_
  have hBl : Blk W (w.heap.size + 1 + 1) 28 #[.int .i64 e.kind, .string e.name, .string e.other, .int .i64 e.n, .int .i64 e.ty.kind, .slice a5 e.ty.args.length c5, .int .i64 e.res.kind, .slice a7 e.res.args.length c7, .slice a8 e.args.length c8] := hB2
  have hrow : OwnV W (.rows 9 1 (tmsC [e])) (.slice (some ⟨w.heap.size + 1 + 1, 0, none⟩) 1 1) ((w.heap.size + 1 + 1) :: f) := by
    have hcs : tmsC [e] = tmC e := by rw [tmsC, tmsC, List.append_nil]
    rw [hcs]
    unfold OwnV
    refine ⟨_, 1, rfl, Nat.le_refl _, by decide, by rw [tmC_len], .inr ⟨_, 0, [.int .i64 e.kind, .string e.name, .string e.other, .int .i64 e.n, .int .i64 e.ty.kind, .slice a5 e.ty.args.length c5, .int .i64 e.res.kind, .slice a7 e.res.args.length c7, .slice a8 e.args.length c8], f, rfl, hs, rfl, fun o => hBl.frozen o, fun i hi => ?_, H1.out.keep hb.size _ _ _ fun j hj => hb.block j (OwnVs.lt _ _ _ H1.out j hj)⟩⟩
    rw [hBl.cell]
    simp
  refine ⟨hb, belB hb, [.int .i64 10, .string ⟨#[]⟩, .string ⟨#[]⟩, .int .i64 0, .int .i64 0, .slice none 0 0, .int .i64 0, .slice none 0 0, .slice (some ⟨w.heap.size + 1 + 1, 0, none⟩) 1 1], (w.heap.size + 1 + 1) :: f, by simp [packV, retV, tmC_len], ?_, ?_, fun j hj => ?_⟩
  · have := own_maker hrow 10 0 e0
    rw [show flatD [PD.ag (tmC (tNode 10 [e]))] = [.int 10, .str e0, .str e0, .int 0, .int 0, .rows 2 0 [], .int 0, .rows 2 0 [], .rows 9 1 (tmsC [e])] by rw [tmC_eq]; rfl]
    exact this
  · refine List.nodup_cons.2 ⟨fun h => ?_, by simpa using hn⟩
    have := OwnVs.lt _ _ _ H1.out _ h
    omega
  · rcases List.mem_cons.1 hj with rfl | hj
    · exact .inr (by omega)
    · exact .inl (by simpa using hj)
set_option maxRecDepth 100000 in
theorem conB_spliced (e : Tm) : ConMB Tryd.prog 36 [.g (tmC e)] [.ag (tmC (tNode 11 [e]))] := by
  refine ⟨⟨_, rfl, by kernel_rfl, by kernel_rfl⟩, fun w us fp S hg hgs hS hu hn => ?_⟩
  unfold RepMAs RepMAs at hu
  obtain ⟨v, r, f, g, rfl, rfl, h1, rfl, rfl⟩ := hu
  unfold RepMA at h1
  obtain ⟨vs, rfl, h1⟩ := h1
  have H1 := Lib.hid h1
  rw [tmC_eq] at h1
  unfold OwnVs OwnVs OwnVs OwnVs OwnVs OwnVs OwnVs OwnVs OwnVs OwnVs at h1
  obtain ⟨x0, _, _, _, rfl, _, k0, x1, _, _, _, rfl, _, k1, x2, _, _, _, rfl, _, k2, x3, _, _, _, rfl, _, k3, x4, _, _, _, rfl, _, k4, x5, _, _, _, rfl, _, k5, x6, _, _, _, rfl, _, k6, x7, _, _, _, rfl, _, k7, x8, _, _, _, rfl, _, k8, rfl, _⟩ := h1
  unfold tysD OwnV at k5 k7
  unfold tmsD OwnV at k8
  unfold OwnV at k0 k1 k2 k3 k4 k6
  obtain ⟨rfl, _⟩ := k0
  obtain ⟨rfl, _⟩ := k1
  obtain ⟨rfl, _⟩ := k2
  obtain ⟨rfl, _⟩ := k3
  obtain ⟨rfl, _⟩ := k4
  obtain ⟨a5, c5, rfl, _⟩ := k5
  obtain ⟨rfl, _⟩ := k6
  obtain ⟨a7, c7, rfl, _⟩ := k7
  obtain ⟨a8, c8, rfl, _⟩ := k8
  go_enter Tryd.func36, Tryd.ntmps36
  go_wp2_with (go_at_call 38; refine (raw_tmForm _ _ _ _ _).mono ?_; rintro en w1 ⟨rfl, rfl⟩)
  generalize hA : Obj.cells #[.int .i64 e.kind, .string e.name, .string e.other, .int .i64 e.n, .int .i64 e.ty.kind, .slice a5 e.ty.args.length c5, .int .i64 e.res.kind, .slice a7 e.res.args.length c7, .slice a8 e.args.length c8] 28 = A
  generalize hC : Obj.cells #[.int .i64 11, .string ⟨#[]⟩, .string ⟨#[]⟩, .int .i64 0, .int .i64 0, .slice none 0 0, .int .i64 0, .slice none 0 0, .slice (some ⟨w.heap.size + 1 + 1, 0, none⟩) 1 1] 28 = C
  obtain ⟨W, hW⟩ : ∃ W, W = (((w.alloc A).alloc C).alloc A).alloc C := ⟨_, rfl⟩
  have hb : Below w.heap.size w W := by rw [hW]; exact ((((Below.refl _ w).alloc (Nat.le_refl _) _).alloc (by simp) _).alloc (by simp; omega) _).alloc (by simp; omega) _
  have hB1 : W.heap[w.heap.size + 1]? = some C := by
    rw [hW, Below.heap_alloc _ _ _ (by simp), Below.heap_alloc _ _ _ (by simp)]
    have := World.alloc_heap_new (w.alloc A) C
    rwa [World.size_alloc] at this
  have hB2 : W.heap[w.heap.size + 1 + 1]? = some A := by
    rw [hW, Below.heap_alloc _ _ _ (by simp)]
    have := World.alloc_heap_new ((w.alloc A).alloc C) A
    rwa [World.size_alloc, World.size_alloc] at this
  have hs : w.heap.size + 1 + 1 < W.heap.size := by rw [hW]; simp
  rw [← hW]
  clear hW
  rw [← hC] at hB1
  rw [← hA] at hB2
  refine bodyPost_ret (results_cell_row (p := 2) (ty := 28) rfl _ _ (w.heap.size + 1) 28 _ (0, 0) _ rfl hB1 Tryd.underlying28 rfl (by kernel_rfl)) rfl ?_
  have hBl : Blk W (w.heap.size + 1 + 1) 28 #[.int .i64 e.kind, .string e.name, .string e.other, .int .i64 e.n, .int .i64 e.ty.kind, .slice a5 e.ty.args.length c5, .int .i64 e.res.kind, .slice a7 e.res.args.length c7, .slice a8 e.args.length c8] := hB2
  have hrow : OwnV W (.rows 9 1 (tmsC [e])) (.slice (some ⟨w.heap.size + 1 + 1, 0, none⟩) 1 1) ((w.heap.size + 1 + 1) :: f) := by
    have hcs : tmsC [e] = tmC e := by rw [tmsC, tmsC, List.append_nil]
    rw [hcs]
    unfold OwnV
    refine ⟨_, 1, rfl, Nat.le_refl _, by decide, by rw [tmC_len], .inr ⟨_, 0, [.int .i64 e.kind, .string e.name, .string e.other, .int .i64 e.n, .int .i64 e.ty.kind, .slice a5 e.ty.args.length c5, .int .i64 e.res.kind, .slice a7 e.res.args.length c7, .slice a8 e.args.length c8], f, rfl, hs, rfl, fun o => hBl.frozen o, fun i hi => ?_, H1.out.keep hb.size _ _ _ fun j hj => hb.block j (OwnVs.lt _ _ _ H1.out j hj)⟩⟩
    rw [hBl.cell]
    simp
  refine ⟨hb, belB hb, [.int .i64 11, .string ⟨#[]⟩, .string ⟨#[]⟩, .int .i64 0, .int .i64 0, .slice none 0 0, .int .i64 0, .slice none 0 0, .slice (some ⟨w.heap.size + 1 + 1, 0, none⟩) 1 1], (w.heap.size + 1 + 1) :: f, by simp [packV, retV, tmC_len], ?_, ?_, fun j hj => ?_⟩
  · have := own_maker hrow 11 0 e0
    rw [show flatD [PD.ag (tmC (tNode 11 [e]))] = [.int 11, .str e0, .str e0, .int 0, .int 0, .rows 2 0 [], .int 0, .rows 2 0 [], .rows 9 1 (tmsC [e])] by rw [tmC_eq]; rfl]
    exact this
  · refine List.nodup_cons.2 ⟨fun h => ?_, by simpa using hn⟩
    have := OwnVs.lt _ _ _ H1.out _ h
    omega
  · rcases List.mem_cons.1 hj with rfl | hj
    · exact .inr (by omega)
    · exact .inl (by simpa using hj)
end Go.Proofs.YtlmnfemobajmlaaDoor
