import Derived.Test.YtaidalilfmjfgaaGreatDrt
import Derived.Test.YtaidalilfmjfgaaGreatBy
import Derived.Test.YtaidalilfmjfgaaGreatTmV
import Derived.Test.YtaidalilfmjfgaaGreatClo
namespace Go.Proofs.YtaidalilfmjfgaaGreat
open Go.RowKit
set_option linter.unusedVariables false
set_option linter.unusedSimpArgs false
set_option maxRecDepth 20000
theorem sw_fzO {P:Program} {Q:QE} {all rest:List Oper} {st:List It} {s:AS} (o:Nat) {I:OwnI} (hI:s.owf o=some I) (h:SW P (.ops all rest :: st) (s.fz o I.d) Q):SW P (.ops all rest :: st) s Q:=fun w0 G a w hr=>h w0 _ a w (hr.fz hI)
def fQXF (P:Program) (fn:Func) {ι:Type} (I:ι→Prop) (outs:ι→List (List CD)) (rs:ι→List RD) (os:List Nat) (e:Exit) (s:AS):Prop:=fQX P fn I outs rs e (AS.fzL os s)
theorem fQXF_panic {P:Program} {fn:Func} {ι:Type} {I:ι→Prop} {outs:ι→List (List CD)} {rs:ι→List RD} {os:List Nat}:∀ c s,¬ fQXF P fn I outs rs os (.panic c) s:=fun c s h=>fQX_panic c _ h
theorem con_runXF {P : Program} {ι : Type} {I : ι → Prop} {f : FuncId} {fn : Func} {c : Code} {args : List PA} {outs : ι → List (List CD)} {rs : ι → List RD} (os : List Nat) (hf : P.funcs[f]? = some fn) (hb : fn.body = some c) (hn : (fn.name == "runtime.NumGoroutine") = false) (hnt : args.length ≤ fn.ntmps) (hno : ∀ x, I x → nPs args = (outs x).length)
  (h:xRun P 400 [.code c] (s0P fn.ntmps args) (fQXF P fn I outs rs os)):ConX P f args I outs rs :=
 con_ofX hf hb hn hnt hno fun w0 G a w hr=>wp_mono (XW_of_SW (sw_run 400 _ _ _ h) w0 G a w hr) fun e a' w' ⟨G',s',hr',hq⟩=>by
  obtain ⟨G2,h2⟩:=Rel.fzL os hr'
  exact ⟨G2,_,h2,hq⟩
def tmA (t:Tm):RD:=.ag [.o (.int t.kind),.o (.str t.name),.o (.str t.other),.o (.int t.n),.o (.int t.ty.kind),.r (.rows 2 t.ty.args.length (tysC t.ty.args)),.o (.int t.res.kind),.r (.rows 2 t.res.args.length (tysC t.res.args)),.q 29 (.rows 9 t.args.length (tmsC t.args))]
def tmI (zs:List Int) (m:Nat) (x:Tm × Nat × Int):Prop:=szL (tmC x.1)≤m∧x.2.1≤zs.length
def tmO (zs:List Int) (x:Tm × Nat × Int):List (List CD):=[curA zs x.2.1 x.2.2]
def tmRs (x:Tm × Nat × Int):List RD:=[tmA x.1]
theorem drF (zs:List Int):(∀ i h,curA zs i h=[.r (.rows 1 zs.length (zs.map D.byt)),.o (.int i),.o (.int h)])∧(∀ v i h,curO zs (v,i,h)=[curA zs i h])∧(∀ v i h,curR (v,i,h)=[.one (.o (.int v))])∧(∀ v i h,bitO zs (v,i,h)=[curA zs i h])∧(∀ v i h,bitR (v,i,h)=[.one (.o (.bool v))])∧(∀ v i h,txO zs (v,i,h)=[curA zs i h])∧(∀ v i h,txR (v,i,h)=[.one (.o (.str v))])∧(∀ v i h,tyO zs (v,i,h)=[curA zs i h])∧(∀ v i h,tyRs (v,i,h)=[tyA v])∧(∀ v i h,tmO zs (v,i,h)=[curA zs i h])∧(∀ v i h,tmRs (v,i,h)=[tmA v])∧(∀ t,tyA t = .ag [.o (.int t.kind),.a 26 (.rows 2 t.args.length (tysC t.args))])∧(∀ t,tmA t = .ag [.o (.int t.kind),.o (.str t.name),.o (.str t.other),.o (.int t.n),.o (.int t.ty.kind),.r (.rows 2 t.ty.args.length (tysC t.ty.args)),.o (.int t.res.kind),.r (.rows 2 t.res.args.length (tysC t.res.args)),.q 29 (.rows 9 t.args.length (tmsC t.args))]) :=
 ⟨fun _ _=>rfl,fun _ _ _=>rfl,fun _ _ _=>rfl,fun _ _ _=>rfl,fun _ _ _=>rfl,fun _ _ _=>rfl,fun _ _ _=>rfl,fun _ _ _=>rfl,fun _ _ _=>rfl,fun _ _ _=>rfl,fun _ _ _=>rfl,fun _=>rfl,fun _=>rfl⟩
theorem tm_sz (k:Int) (s o:ByteArray) (n:Int) (t r:Ty) (l:List Tm):szL (tmC (.mk k s o n t r l))=s.size+o.size+szL (tyC t)+szL (tyC r)+(l.length+szL (tmsC l)):=szL_tm _
def AnI (zs:List Int) (b m:Nat) (x:List Tm × Nat × Int):Prop:=x.1.length≤m∧(∀ t ∈ x.1,szL (tmC t)≤b)∧x.2.1≤zs.length
theorem tms_bd : ∀ (l : List Tm) (b : Nat), (∀ t ∈ l, szL (tmC t) ≤ b) → szL (tmsC l) ≤ l.length * b
  | [], b, _ => by rw [List.length_nil, Nat.zero_mul]; exact Nat.le_refl _
  | x :: l, b, h => by
    have h1 := h x (List.mem_cons_self ..)
    have h2 := tms_bd l b fun t ht => h t (List.mem_cons_of_mem _ ht)
    rw [tmsC, szL_append, List.length_cons, Nat.succ_mul]; omega
theorem con_intA (n:Int):ConP Tryz.prog 115 [.b (.one (.int n))] [] [.ag [.o (.int 2),.o (.str ⟨#[]⟩),.o (.str ⟨#[]⟩),.o (.int n),.o (.int 0),.r (.rows 2 0 []),.o (.int 0),.r (.rows 2 0 []),.q 29 (.rows 9 0 [])]]:=by
 refine con_runP Tryz.func115 rfl rfl (by simp [Tryz.ntmps115]) rfl ?_
 exact byP (fc Tryz.ntmps115 Tryz.results115) True.intro
theorem con_boolA (n:Int):ConP Tryz.prog 238 [.b (.one (.int n))] [] [.ag [.o (.int 3),.o (.str ⟨#[]⟩),.o (.str ⟨#[]⟩),.o (.int n),.o (.int 0),.r (.rows 2 0 []),.o (.int 0),.r (.rows 2 0 []),.q 29 (.rows 9 0 [])]]:=by
 refine con_runP Tryz.func238 rfl rfl (by simp [Tryz.ntmps238]) rfl ?_
 exact byP (fc Tryz.ntmps238 Tryz.results238) True.intro
theorem con_varA (s:ByteArray):ConP Tryz.prog 116 [.b (.one (.str s))] [] [.ag [.o (.int 1),.o (.str s),.o (.str ⟨#[]⟩),.o (.int 0),.o (.int 0),.r (.rows 2 0 []),.o (.int 0),.r (.rows 2 0 []),.q 29 (.rows 9 0 [])]]:=by
 refine con_runP Tryz.func116 rfl rfl (by simp [Tryz.ntmps116]) rfl ?_
 exact byP (fc Tryz.ntmps116 Tryz.results116) True.intro
theorem con_leaf (zs:List Int) (hz:BytOk zs) (i:Nat) (hi:i≤zs.length) (h:Int):ConX Tryz.prog 221 [.p (curA zs i h)] (tmI zs 25) (tmO zs) tmRs:=by
 have hB:=fun n hn hn2 i hi h=>con_Below zs hz n hn hn2 i hi h
 have hP:∀ (i:Nat),i≤zs.length→∀ h:Int,ConX Tryz.prog 81 [.p (curA zs i h),.b (.one (.rows 1 5 [.int 0,.int 1,.int 2,.int 3,.int 10006]))] (pkI zs [0,1,2,3,10006]) (curO zs) curR:=fun i hi h=>con_PickInt zs hz [0,1,2,3,10006] (by decide) (by decide) i hi h
 have hN:∀ (i:Nat),i≤zs.length→∀ h:Int,ConX Tryz.prog 145 [.p (curA zs i h),.b (.one (.rows 1 3 [.str ⟨#[120]⟩,.str ⟨#[121]⟩,.str ⟨#[102]⟩]))] (txI zs [⟨#[120]⟩,⟨#[121]⟩,⟨#[102]⟩]) (txO zs) txR:=fun i hi h=>con_Pick zs hz [⟨#[120]⟩,⟨#[121]⟩,⟨#[102]⟩] (by decide) (by decide) i hi h
 refine con_runX Tryz.func221 rfl rfl (by simp [Tryz.ntmps221]) (fun _ _=>rfl) ?_
 refine byP (fc (drF zs) (fc Tryz.ntmps221 Tryz.results221)) ?_
 refine sw_callXR (hB 4 (by decide) (by decide) i hi h) rfl rfl rfl (byP (drF zs) True.intro) (byP (drF zs) True.intro) (byP (drF zs) True.intro) ?_
 rintro ⟨v,i1,h1⟩ ⟨hv,hi1⟩
 simp only at hv hi1
 by_cases v0:v=0
 ·refine sw_run 200 _ _ _ (byP (fc (drF zs) (fc (eq_true v0) (fc Tryz.ntmps221 Tryz.results221))) ?_)
  refine sw_fzE 2 rfl ?_
  refine byQ ?_
  refine sw_callXR (hP i1 hi1 h1) rfl rfl rfl (byP (drF zs) True.intro) (byP (drF zs) True.intro) (byP (drF zs) True.intro) ?_
  rintro ⟨n,i2,h2⟩ ⟨hn,hi2⟩
  simp only at hn hi2
  refine sw_run 200 _ _ _ (byP (drF zs) ?_)
  refine sw_callPR (con_intA n) rfl rfl rfl (byQ True.intro) (byQ True.intro) (byQ True.intro) ?_
  refine sw_run 200 _ _ _ (byP (fc Tryz.ntmps221 Tryz.results221) ?_)
  refine ⟨.inl rfl,(Tm.mk 2 ⟨#[]⟩ ⟨#[]⟩ n (.mk 0 []) (.mk 0 []) [],i2,h2),⟨by rw [tm_sz];show 0+0+0+0+(0+0)≤25;omega,by assumption⟩, ?_⟩
  refine byP (fc (drF zs) (fc Tryz.ntmps221 Tryz.results221)) ?_
  exact ⟨rfl,rfl,rfl,rfl,rfl,rfl,rfl,rfl,rfl⟩
 by_cases v1:v=1
 ·refine sw_run 200 _ _ _ (byP (fc (drF zs) (fc v0 (fc (eq_true v1) (fc Tryz.ntmps221 Tryz.results221)))) ?_)
  refine sw_callXR (hB 2 (by decide) (by decide) i1 hi1 h1) rfl rfl rfl (byP (drF zs) True.intro) (byP (drF zs) True.intro) (byP (drF zs) True.intro) ?_
  rintro ⟨n,i2,h2⟩ ⟨hn,hi2⟩
  simp only at hn hi2
  refine sw_run 200 _ _ _ (byP (drF zs) ?_)
  refine sw_callPR (con_boolA n) rfl rfl rfl (byQ True.intro) (byQ True.intro) (byQ True.intro) ?_
  refine sw_run 200 _ _ _ (byP (fc Tryz.ntmps221 Tryz.results221) ?_)
  refine ⟨.inl rfl,(Tm.mk 3 ⟨#[]⟩ ⟨#[]⟩ n (.mk 0 []) (.mk 0 []) [],i2,h2),⟨by rw [tm_sz];show 0+0+0+0+(0+0)≤25;omega,by assumption⟩, ?_⟩
  refine byP (fc (drF zs) (fc Tryz.ntmps221 Tryz.results221)) ?_
  exact ⟨rfl,rfl,rfl,rfl,rfl,rfl,rfl,rfl,rfl⟩
 ·refine sw_run 200 _ _ _ (byP (fc (drF zs) (fc v0 (fc v1 (fc Tryz.ntmps221 Tryz.results221)))) ?_)
  refine sw_fzE 2 rfl ?_
  refine byQ ?_
  refine sw_callXR (hN i1 hi1 h1) rfl rfl rfl (byP (drF zs) True.intro) (byP (drF zs) True.intro) (byP (drF zs) True.intro) ?_
  rintro ⟨n,i2,h2⟩ ⟨hn,hi2⟩
  simp only at hn hi2
  have hn1:n.size≤1:=by
   simp only [List.mem_cons,List.not_mem_nil,or_false] at hn
   rcases hn with rfl | rfl | rfl <;> decide
  refine sw_run 200 _ _ _ (byP (drF zs) ?_)
  refine sw_callPR (con_varA n) rfl rfl rfl (byQ True.intro) (byQ True.intro) (byQ True.intro) ?_
  refine sw_run 200 _ _ _ (byP (fc Tryz.ntmps221 Tryz.results221) ?_)
  refine ⟨.inl rfl,(.mk 1 n ⟨#[]⟩ 0 (.mk 0 []) (.mk 0 []) [],i2,h2),⟨?_,hi2⟩, ?_⟩
  ·show szL (tmC (.mk 1 n ⟨#[]⟩ 0 (.mk 0 []) (.mk 0 []) []))≤25
   rw [tm_sz]
   show n.size+0+0+0+(0+0)≤25
   omega
  refine byP (fc (drF zs) (fc Tryz.ntmps221 Tryz.results221)) ?_
  exact ⟨rfl,rfl,rfl,rfl,rfl,rfl,rfl,rfl,rfl⟩
set_option maxHeartbeats 8000000 in
theorem con_any (zs : List Int) (hz : BytOk zs) : ∀ (d : Nat), 1 ≤ d → d ≤ 4 → ∀ (i : Nat), i ≤ zs.length → ∀ (h : Int), ConX Tryz.prog 144 [.p (curA zs i h), .b (.one (.int d))] (tmI zs (10 * 3 ^ d - 5)) (tmO zs) tmRs
  | 0, h1, _, _, _, _ => absurd h1 (by decide)
  | d + 1, _, hd, i, hi, h => by
    have hP : ∀ (i : Nat), i ≤ zs.length → ∀ h : Int, ConX Tryz.prog 81 [.p (curA zs i h), .b (.one (.rows 1 12 [.int 4, .int 5, .int 6, .int 7, .int 8, .int 9, .int 10, .int 11, .int 12, .int 13, .int 10, .int 4]))] (pkI zs [4, 5, 6, 7, 8, 9, 10, 11, 12, 13, 10, 4]) (curO zs) curR := fun i hi h => con_PickInt zs hz [4, 5, 6, 7, 8, 9, 10, 11, 12, 13, 10, 4] (by decide) (by decide) i hi h
    have hN8 : ∀ (i : Nat), i ≤ zs.length → ∀ h : Int, ConX Tryz.prog 145 [.p (curA zs i h), .b (.one (.rows 1 8 [.str ⟨#[43]⟩, .str ⟨#[45]⟩, .str ⟨#[42]⟩, .str ⟨#[61]⟩, .str ⟨#[60]⟩, .str ⟨#[38]⟩, .str ⟨#[124]⟩, .str ⟨#[33]⟩]))] (txI zs [⟨#[43]⟩, ⟨#[45]⟩, ⟨#[42]⟩, ⟨#[61]⟩, ⟨#[60]⟩, ⟨#[38]⟩, ⟨#[124]⟩, ⟨#[33]⟩]) (txO zs) txR := fun i hi h => con_Pick zs hz [⟨#[43]⟩, ⟨#[45]⟩, ⟨#[42]⟩, ⟨#[61]⟩, ⟨#[60]⟩, ⟨#[38]⟩, ⟨#[124]⟩, ⟨#[33]⟩] (by decide) (by decide) i hi h
    have hN3 : ∀ (i : Nat), i ≤ zs.length → ∀ h : Int, ConX Tryz.prog 145 [.p (curA zs i h), .b (.one (.rows 1 3 [.str ⟨#[120]⟩, .str ⟨#[121]⟩, .str ⟨#[102]⟩]))] (txI zs [⟨#[120]⟩, ⟨#[121]⟩, ⟨#[102]⟩]) (txO zs) txR := fun i hi h => con_Pick zs hz [⟨#[120]⟩, ⟨#[121]⟩, ⟨#[102]⟩] (by decide) (by decide) i hi h
    have hN2 : ∀ (i : Nat), i ≤ zs.length → ∀ h : Int, ConX Tryz.prog 145 [.p (curA zs i h), .b (.one (.rows 1 2 [.str ⟨#[122]⟩, .str ⟨#[119]⟩]))] (txI zs [⟨#[122]⟩, ⟨#[119]⟩]) (txO zs) txR := fun i hi h => con_Pick zs hz [⟨#[122]⟩, ⟨#[119]⟩] (by decide) (by decide) i hi h
    have hT2 : ∀ (i : Nat), i ≤ zs.length → ∀ h : Int, ConX Tryz.prog 222 [.p (curA zs i h), .b (.one (.int 2))] (tyI' zs 2) (tyO zs) tyRs := fun i hi h => con_l3Draw zs hz 2 (by decide) (by decide) i hi h
    have hO := fun i hi h => con_Once zs hz 5 (by decide) (by decide) i hi h
    have hpw : 3 ^ (d + 1) = 3 * 3 ^ d := by rw [Nat.pow_succ]; omega
    have hp1 : 1 ≤ 3 ^ d := Nat.one_le_pow _ _ (by decide)
    refine con_runX Tryz.func144 rfl rfl (by simp [Tryz.ntmps144]) (fun _ _ => rfl) ?_
    by_cases hd1 : d = 0
    · subst hd1
      have hc : ((0 + 1 : Nat) : Int) < 2 := by decide
      refine byP (fc (drF zs) (fc (eq_true hc) (fc Tryz.ntmps144 Tryz.results144))) ?_
      refine sw_callXR (con_leaf zs hz i hi h) rfl rfl rfl (byP (drF zs) True.intro) (byP (drF zs) True.intro) (byP (drF zs) True.intro) ?_
      rintro ⟨t, i9, h9⟩ ⟨ht, hi9⟩
      simp only at ht hi9
      refine sw_run 200 _ _ _ (byP (fc (drF zs) (fc Tryz.ntmps144 Tryz.results144)) ?_)
      refine ⟨.inl rfl, (t, i9, h9), ⟨by show _ ≤ 10 * 3 ^ (_ + 1) - 5; simp only; omega, hi9⟩, ?_⟩
      exact byP (fc (drF zs) (fc Tryz.ntmps144 Tryz.results144)) True.intro
    · have hc : ¬ ((d : Int) + 1 < 2) := by omega
      refine byP (fc (drF zs) (fc hc (fc Tryz.ntmps144 Tryz.results144))) ?_
      refine sw_callXR (hO i hi h) rfl rfl rfl (byP (drF zs) True.intro) (byP (drF zs) True.intro) (byP (drF zs) True.intro) ?_
      rintro ⟨b, i1, h1⟩ hi1
      have hi1' : i1 ≤ zs.length := hi1
      cases b
      case true =>
        refine sw_run 200 _ _ _ (byP (fc (drF zs) (fc Tryz.ntmps144 Tryz.results144)) ?_)
        refine sw_callXR (con_leaf zs hz i1 hi1' h1) rfl rfl rfl (byP (drF zs) True.intro) (byP (drF zs) True.intro) (byP (drF zs) True.intro) ?_
        rintro ⟨t, i9, h9⟩ ⟨ht, hi9⟩
        simp only at ht hi9
        refine sw_run 200 _ _ _ (byP (fc (drF zs) (fc Tryz.ntmps144 Tryz.results144)) ?_)
        refine ⟨.inl rfl, (t, i9, h9), ⟨by show _ ≤ 10 * 3 ^ (_ + 1) - 5; simp only; omega, hi9⟩, ?_⟩
        exact byP (fc (drF zs) (fc Tryz.ntmps144 Tryz.results144)) True.intro
      case false =>
        refine sw_run 200 _ _ _ (byP (fc (drF zs) (fc Tryz.ntmps144 Tryz.results144)) ?_)
        refine sw_fzE 2 rfl ?_
        refine byQ ?_
        refine sw_callXR (hP i1 hi1' h1) rfl rfl rfl (byP (drF zs) True.intro) (byP (drF zs) True.intro) (byP (drF zs) True.intro) ?_
        rintro ⟨v, i2, h2⟩ ⟨hv, hi2⟩
        simp only at hv hi2
        by_cases k4 : v = 4
        · subst k4
          refine sw_run 200 _ _ _ (byP (drF zs) ?_)
          refine sw_fzE 4 rfl ?_
          refine byQ ?_
          refine sw_callXR (hN8 i2 hi2 h2) rfl rfl rfl (byP (drF zs) True.intro) (byP (drF zs) True.intro) (byP (drF zs) True.intro) ?_
          rintro ⟨s, i5, h5⟩ ⟨hs5, hi5⟩
          simp only at hs5 hi5
          have hs1 : s.size ≤ 1 := by
            simp only [List.mem_cons, List.not_mem_nil, or_false] at hs5
            rcases hs5 with rfl | rfl | rfl | rfl | rfl | rfl | rfl | rfl <;> decide
          obtain ⟨m, hm, hm3⟩ : ∃ m : Nat, arF (-1) 4 s = (m : Int) ∧ m ≤ 3 := by
            simp only [List.mem_cons, List.not_mem_nil, or_false] at hs5
            rcases hs5 with rfl | rfl | rfl | rfl | rfl | rfl | rfl | rfl
            all_goals first | exact ⟨2, rfl, by omega⟩ | exact ⟨1, rfl, by omega⟩
          have hA : Con Tryz.prog 190 [.ag [.int 4, .str s, .str ⟨#[]⟩, .int 0, .int 0, .rows 2 0 [], .int 0, .rows 2 0 [], .rows 9 0 []]] [.one (.int (arF (-1) 4 s))] := con_arityS (.mk 4 s ⟨#[]⟩ 0 (.mk 0 []) (.mk 0 []) [])
          rw [hm] at hA
          refine sw_run 200 _ _ _ (byP (drF zs) ?_)
          refine sw_call (hA) rfl (aAs_ok (byQ True.intro)) (byQ True.intro) ?_
          refine sw_run 200 _ _ _ (byQ ?_)
          refine sw_ownQ 3 8 29 rfl rfl ?_
          refine byQ ?_
          refine sw_loop (AnI zs (10 * 3 ^ d - 5) m) (fun x => ⟨74, [(7, .i x.1.length), (6, .i m), (5, .bx 2 0), (4, .bx 1 0), (1, .i ((d : Int) + 1)), (0, .bx 0 0)], [(0, [.br (.rows 1 zs.length (zs.map D.byt)), .i x.2.1, .i x.2.2]), (1, [.i 0, .s ⟨#[]⟩, .s ⟨#[]⟩, .i 0, .i 0, .nl 2, .i 0, .nl 2, .nl 9]), (2, [.i 4, .s s, .s ⟨#[]⟩, .i 0, .i 0, .nl 2, .i 0, .nl 2, .sl 3])], [(3, some ⟨.rows 9 x.1.length (tmsC x.1), some 29, false⟩)], 4, [0]⟩) (fun x => m - x.1.length) ([], i5, h5) (rnL [(2, 3), (3, 5)]) ⟨Nat.zero_le _, (fun t ht => by cases ht), hi5⟩ ?_ ?_
          · exact byP (fc Int.natCast_zero (fc (show tmsC [] = [] from rfl) (show ([] : List Tm).length = 0 from rfl))) True.intro
          rintro ⟨l, i3, h3⟩ ⟨hl, hsz, hi3⟩
          simp only at hl hsz hi3 ⊢
          by_cases hlt : l.length < m
          · have hj : (l.length : Int) < (m : Int) := by omega
            have ih := con_any zs hz d (by omega) (by omega) i3 hi3 h3
            have hs : (d : Int) + 1 - 1 = (d : Int) := by omega
            have hin : inI (d : Int) := by unfold inI; omega
            refine sw_run 200 _ _ _ (byP hj ?_)
            refine sw_drawn (.cons 0 true (.cons 2 true (.cons 3 true (.cons 4 true (.fork (.alt 1 (.cons 5 false (.cons 6 false (.cons 7 false (.cons 8 true (.cons 9 false (.nil)))))) (.alt 5 (.cons 1 true (.cons 6 false (.cons 7 false (.cons 8 true (.cons 9 false (.nil)))))) (.last)))))))) (by kernel_rfl) qLp_panic (by kernel_rfl) ?_
            refine sw_run 200 _ _ _ (byP (fc hs hin) ?_)
            repeat' (with_reducible apply And.intro)
            all_goals
              refine sw_callDXR (ih) rfl rfl rfl (byP (drF zs) True.intro) (byP (drF zs) True.intro) (byP (drF zs) True.intro) rfl ?_
              rintro ⟨t, i4, h4⟩ ⟨ht, hi4⟩
              simp only at ht hi4
              have hst : tmsC (l ++ [t]) = tmsC l ++ [.int t.kind, .str t.name, .str t.other, .int t.n, .int t.ty.kind, .rows 2 t.ty.args.length (tysC t.ty.args), .int t.res.kind, .rows 2 t.res.args.length (tysC t.res.args), .rows 9 t.args.length (tmsC t.args)] := by rw [tmsC_flat, tmsC_flat, flC_app, flC_one, tmC_eq]; rfl
              have hln : (l ++ [t]).length = l.length + 1 := by simp
              refine sw_run 200 _ _ _ (byP (drF zs) ?_)
              refine ⟨⟨fun o ho => by omega, by unfold maxLen; omega, by omega⟩, by unfold inI; omega, (l ++ [t], i4, h4), rnL [(3, 6)], ⟨by simp only [hln]; omega, fun u hu => ?_, hi4⟩, by simp only [hln]; omega, ?_⟩
              · rcases List.mem_append.1 hu with hu | hu
                · exact hsz u hu
                · rw [List.mem_singleton.1 hu]; exact ht
              · exact byP (fc hst hln) True.intro
          · have hj : ¬ (l.length : Int) < (m : Int) := by omega
            have hb := tms_bd l _ hsz
            have hm' : l.length * (10 * 3 ^ d - 5) ≤ 3 * (10 * 3 ^ d - 5) := Nat.mul_le_mul_right _ (by omega)
            have hz3 : szL (tmC (.mk 4 s ⟨#[]⟩ 0 (.mk 0 []) (.mk 0 []) l)) ≤ 10 * 3 ^ (d + 1) - 5 := by
              rw [tm_sz]
              show s.size + 0 + 0 + 0 + _ ≤ _
              omega
            refine sw_run 200 _ _ _ (byP hj ?_)
            refine sw_run 200 _ _ _ ?_
            refine byP (fc Tryz.ntmps144 Tryz.results144) ?_
            refine ⟨.inl rfl, (.mk 4 s ⟨#[]⟩ 0 (.mk 0 []) (.mk 0 []) l, i3, h3), ⟨hz3, hi3⟩, ?_⟩
            refine byP (fc (drF zs) (fc Tryz.ntmps144 Tryz.results144)) ?_
            repeat' (with_reducible apply And.intro)
            all_goals rfl
        by_cases k6 : v = 6
        · subst k6
          refine sw_run 200 _ _ _ (byP (drF zs) ?_)
          refine sw_fzE 4 rfl ?_
          refine byQ ?_
          refine sw_callXR (hN3 i2 hi2 h2) rfl rfl rfl (byP (drF zs) True.intro) (byP (drF zs) True.intro) (byP (drF zs) True.intro) ?_
          rintro ⟨s, i5, h5⟩ ⟨hs5, hi5⟩
          simp only at hs5 hi5
          have hs1 : s.size ≤ 1 := by
            simp only [List.mem_cons, List.not_mem_nil, or_false] at hs5
            rcases hs5 with rfl | rfl | rfl <;> decide
          obtain ⟨m, hm, hm3⟩ : ∃ m : Nat, arF (-1) 6 s = (m : Int) ∧ m ≤ 3 := ⟨1, rfl, by omega⟩
          refine sw_run 200 _ _ _ (byP (drF zs) ?_)
          refine sw_callXR (hT2 i5 hi5 h5) rfl rfl rfl (byP (drF zs) True.intro) (byP (drF zs) True.intro) (byP (drF zs) True.intro) ?_
          rintro ⟨ty, i6, h6⟩ ⟨hty, hi6⟩
          simp only at hty hi6
          refine sw_fzO 5 rfl ?_
          have hA : Con Tryz.prog 190 [.ag [.int 6, .str s, .str ⟨#[]⟩, .int 0, .int ty.kind, .rows 2 ty.args.length (tysC ty.args), .int 0, .rows 2 0 [], .rows 9 0 []]] [.one (.int (arF (-1) 6 s))] := by have := con_arityS (.mk 6 s ⟨#[]⟩ 0 ty (.mk 0 []) []); rw [tmC_eq] at this; exact this
          rw [hm] at hA
          refine sw_run 200 _ _ _ (byP (drF zs) ?_)
          refine sw_call (hA) rfl (aAs_ok (byQ True.intro)) (byQ True.intro) ?_
          refine sw_run 200 _ _ _ (byQ ?_)
          refine sw_ownQ 3 8 29 rfl rfl ?_
          refine byQ ?_
          refine sw_loop (AnI zs (10 * 3 ^ d - 5) m) (fun x => ⟨74, [(7, .i x.1.length), (6, .i m), (5, .bx 2 0), (4, .bx 1 0), (1, .i ((d : Int) + 1)), (0, .bx 0 0)], [(0, [.br (.rows 1 zs.length (zs.map D.byt)), .i x.2.1, .i x.2.2]), (1, [.i 0, .s ⟨#[]⟩, .s ⟨#[]⟩, .i 0, .i 0, .nl 2, .i 0, .nl 2, .nl 9]), (2, [.i 6, .s s, .s ⟨#[]⟩, .i 0, .i ty.kind, .br (.rows 2 ty.args.length (tysC ty.args)), .i 0, .nl 2, .sl 3])], [(3, some ⟨.rows 9 x.1.length (tmsC x.1), some 29, false⟩)], 4, [0]⟩) (fun x => m - x.1.length) ([], i6, h6) (rnL [(2, 3), (3, 6)]) ⟨Nat.zero_le _, (fun t ht => by cases ht), hi6⟩ ?_ ?_
          · exact byP (fc Int.natCast_zero (fc (show tmsC [] = [] from rfl) (show ([] : List Tm).length = 0 from rfl))) True.intro
          rintro ⟨l, i3, h3⟩ ⟨hl, hsz, hi3⟩
          simp only at hl hsz hi3 ⊢
          by_cases hlt : l.length < m
          · have hj : (l.length : Int) < (m : Int) := by omega
            have ih := con_any zs hz d (by omega) (by omega) i3 hi3 h3
            have hs : (d : Int) + 1 - 1 = (d : Int) := by omega
            have hin : inI (d : Int) := by unfold inI; omega
            refine sw_run 200 _ _ _ (byP hj ?_)
            refine sw_drawn (.cons 0 true (.cons 2 true (.cons 3 true (.cons 4 true (.fork (.alt 1 (.cons 5 false (.cons 6 false (.cons 7 false (.cons 8 true (.cons 9 false (.nil)))))) (.alt 5 (.cons 1 true (.cons 6 false (.cons 7 false (.cons 8 true (.cons 9 false (.nil)))))) (.last)))))))) (by kernel_rfl) qLp_panic (by kernel_rfl) ?_
            refine sw_run 200 _ _ _ (byP (fc hs hin) ?_)
            repeat' (with_reducible apply And.intro)
            all_goals
              refine sw_callDXR (ih) rfl rfl rfl (byP (drF zs) True.intro) (byP (drF zs) True.intro) (byP (drF zs) True.intro) rfl ?_
              rintro ⟨t, i4, h4⟩ ⟨ht, hi4⟩
              simp only at ht hi4
              have hst : tmsC (l ++ [t]) = tmsC l ++ [.int t.kind, .str t.name, .str t.other, .int t.n, .int t.ty.kind, .rows 2 t.ty.args.length (tysC t.ty.args), .int t.res.kind, .rows 2 t.res.args.length (tysC t.res.args), .rows 9 t.args.length (tmsC t.args)] := by rw [tmsC_flat, tmsC_flat, flC_app, flC_one, tmC_eq]; rfl
              have hln : (l ++ [t]).length = l.length + 1 := by simp
              refine sw_run 200 _ _ _ (byP (drF zs) ?_)
              refine ⟨⟨fun o ho => by omega, by unfold maxLen; omega, by omega⟩, by unfold inI; omega, (l ++ [t], i4, h4), rnL [(3, 6)], ⟨by simp only [hln]; omega, fun u hu => ?_, hi4⟩, by simp only [hln]; omega, ?_⟩
              · rcases List.mem_append.1 hu with hu | hu
                · exact hsz u hu
                · rw [List.mem_singleton.1 hu]; exact ht
              · exact byP (fc hst hln) True.intro
          · have hj : ¬ (l.length : Int) < (m : Int) := by omega
            have hb := tms_bd l _ hsz
            have hm' : l.length * (10 * 3 ^ d - 5) ≤ 3 * (10 * 3 ^ d - 5) := Nat.mul_le_mul_right _ (by omega)
            have hz3 : szL (tmC (.mk 6 s ⟨#[]⟩ 0 ty (.mk 0 []) l)) ≤ 10 * 3 ^ (d + 1) - 5 := by
              rw [tm_sz]
              show s.size + 0 + szL (tyC ty) + 0 + _ ≤ _
              omega
            refine sw_run 200 _ _ _ (byP hj ?_)
            refine sw_run 200 _ _ _ ?_
            refine byP (fc Tryz.ntmps144 Tryz.results144) ?_
            refine ⟨.inl rfl, (.mk 6 s ⟨#[]⟩ 0 ty (.mk 0 []) l, i3, h3), ⟨hz3, hi3⟩, ?_⟩
            refine byP (fc (drF zs) (fc Tryz.ntmps144 Tryz.results144)) ?_
            repeat' (with_reducible apply And.intro)
            all_goals rfl
        by_cases k8 : v = 8
        · subst k8
          refine sw_run 200 _ _ _ (byP (drF zs) ?_)
          refine sw_fzE 4 rfl ?_
          refine byQ ?_
          refine sw_callXR (hN3 i2 hi2 h2) rfl rfl rfl (byP (drF zs) True.intro) (byP (drF zs) True.intro) (byP (drF zs) True.intro) ?_
          rintro ⟨s, i5, h5⟩ ⟨hs5, hi5⟩
          simp only at hs5 hi5
          have hs1 : s.size ≤ 1 := by
            simp only [List.mem_cons, List.not_mem_nil, or_false] at hs5
            rcases hs5 with rfl | rfl | rfl <;> decide
          obtain ⟨m, hm, hm3⟩ : ∃ m : Nat, arF (-1) 8 s = (m : Int) ∧ m ≤ 3 := ⟨2, rfl, by omega⟩
          have hA : Con Tryz.prog 190 [.ag [.int 8, .str s, .str ⟨#[]⟩, .int 0, .int 0, .rows 2 0 [], .int 0, .rows 2 0 [], .rows 9 0 []]] [.one (.int (arF (-1) 8 s))] := con_arityS (.mk 8 s ⟨#[]⟩ 0 (.mk 0 []) (.mk 0 []) [])
          rw [hm] at hA
          refine sw_run 200 _ _ _ (byP (drF zs) ?_)
          refine sw_call (hA) rfl (aAs_ok (byQ True.intro)) (byQ True.intro) ?_
          refine sw_run 200 _ _ _ (byQ ?_)
          refine sw_ownQ 3 8 29 rfl rfl ?_
          refine byQ ?_
          refine sw_loop (AnI zs (10 * 3 ^ d - 5) m) (fun x => ⟨74, [(7, .i x.1.length), (6, .i m), (5, .bx 2 0), (4, .bx 1 0), (1, .i ((d : Int) + 1)), (0, .bx 0 0)], [(0, [.br (.rows 1 zs.length (zs.map D.byt)), .i x.2.1, .i x.2.2]), (1, [.i 0, .s ⟨#[]⟩, .s ⟨#[]⟩, .i 0, .i 0, .nl 2, .i 0, .nl 2, .nl 9]), (2, [.i 8, .s s, .s ⟨#[]⟩, .i 0, .i 0, .nl 2, .i 0, .nl 2, .sl 3])], [(3, some ⟨.rows 9 x.1.length (tmsC x.1), some 29, false⟩)], 4, [0]⟩) (fun x => m - x.1.length) ([], i5, h5) (rnL [(2, 3), (3, 5)]) ⟨Nat.zero_le _, (fun t ht => by cases ht), hi5⟩ ?_ ?_
          · exact byP (fc Int.natCast_zero (fc (show tmsC [] = [] from rfl) (show ([] : List Tm).length = 0 from rfl))) True.intro
          rintro ⟨l, i3, h3⟩ ⟨hl, hsz, hi3⟩
          simp only at hl hsz hi3 ⊢
          by_cases hlt : l.length < m
          · have hj : (l.length : Int) < (m : Int) := by omega
            have ih := con_any zs hz d (by omega) (by omega) i3 hi3 h3
            have hs : (d : Int) + 1 - 1 = (d : Int) := by omega
            have hin : inI (d : Int) := by unfold inI; omega
            refine sw_run 200 _ _ _ (byP hj ?_)
            refine sw_drawn (.cons 0 true (.cons 2 true (.cons 3 true (.cons 4 true (.fork (.alt 1 (.cons 5 false (.cons 6 false (.cons 7 false (.cons 8 true (.cons 9 false (.nil)))))) (.alt 5 (.cons 1 true (.cons 6 false (.cons 7 false (.cons 8 true (.cons 9 false (.nil)))))) (.last)))))))) (by kernel_rfl) qLp_panic (by kernel_rfl) ?_
            refine sw_run 200 _ _ _ (byP (fc hs hin) ?_)
            repeat' (with_reducible apply And.intro)
            all_goals
              refine sw_callDXR (ih) rfl rfl rfl (byP (drF zs) True.intro) (byP (drF zs) True.intro) (byP (drF zs) True.intro) rfl ?_
              rintro ⟨t, i4, h4⟩ ⟨ht, hi4⟩
              simp only at ht hi4
              have hst : tmsC (l ++ [t]) = tmsC l ++ [.int t.kind, .str t.name, .str t.other, .int t.n, .int t.ty.kind, .rows 2 t.ty.args.length (tysC t.ty.args), .int t.res.kind, .rows 2 t.res.args.length (tysC t.res.args), .rows 9 t.args.length (tmsC t.args)] := by rw [tmsC_flat, tmsC_flat, flC_app, flC_one, tmC_eq]; rfl
              have hln : (l ++ [t]).length = l.length + 1 := by simp
              refine sw_run 200 _ _ _ (byP (drF zs) ?_)
              refine ⟨⟨fun o ho => by omega, by unfold maxLen; omega, by omega⟩, by unfold inI; omega, (l ++ [t], i4, h4), rnL [(3, 6)], ⟨by simp only [hln]; omega, fun u hu => ?_, hi4⟩, by simp only [hln]; omega, ?_⟩
              · rcases List.mem_append.1 hu with hu | hu
                · exact hsz u hu
                · rw [List.mem_singleton.1 hu]; exact ht
              · exact byP (fc hst hln) True.intro
          · have hj : ¬ (l.length : Int) < (m : Int) := by omega
            have hb := tms_bd l _ hsz
            have hm' : l.length * (10 * 3 ^ d - 5) ≤ 3 * (10 * 3 ^ d - 5) := Nat.mul_le_mul_right _ (by omega)
            have hz3 : szL (tmC (.mk 8 s ⟨#[]⟩ 0 (.mk 0 []) (.mk 0 []) l)) ≤ 10 * 3 ^ (d + 1) - 5 := by
              rw [tm_sz]
              show s.size + 0 + 0 + 0 + _ ≤ _
              omega
            refine sw_run 200 _ _ _ (byP hj ?_)
            refine sw_run 200 _ _ _ ?_
            refine byP (fc Tryz.ntmps144 Tryz.results144) ?_
            refine ⟨.inl rfl, (.mk 8 s ⟨#[]⟩ 0 (.mk 0 []) (.mk 0 []) l, i3, h3), ⟨hz3, hi3⟩, ?_⟩
            refine byP (fc (drF zs) (fc Tryz.ntmps144 Tryz.results144)) ?_
            repeat' (with_reducible apply And.intro)
            all_goals rfl
        by_cases k9 : v = 9
        · subst k9
          refine sw_run 200 _ _ _ (byP (drF zs) ?_)
          refine sw_fzE 4 rfl ?_
          refine byQ ?_
          refine sw_callXR (hN3 i2 hi2 h2) rfl rfl rfl (byP (drF zs) True.intro) (byP (drF zs) True.intro) (byP (drF zs) True.intro) ?_
          rintro ⟨s, i5, h5⟩ ⟨hs5, hi5⟩
          simp only at hs5 hi5
          have hs1 : s.size ≤ 1 := by
            simp only [List.mem_cons, List.not_mem_nil, or_false] at hs5
            rcases hs5 with rfl | rfl | rfl <;> decide
          obtain ⟨m, hm, hm3⟩ : ∃ m : Nat, arF (-1) 9 s = (m : Int) ∧ m ≤ 3 := ⟨1, rfl, by omega⟩
          refine sw_run 200 _ _ _ (byP (drF zs) ?_)
          refine sw_callXR (hT2 i5 hi5 h5) rfl rfl rfl (byP (drF zs) True.intro) (byP (drF zs) True.intro) (byP (drF zs) True.intro) ?_
          rintro ⟨ty, i6, h6⟩ ⟨hty, hi6⟩
          simp only at hty hi6
          refine sw_fzO 5 rfl ?_
          refine sw_run 200 _ _ _ (byP (drF zs) ?_)
          refine sw_fzE 6 rfl ?_
          refine byQ ?_
          refine sw_callXR (hN2 i6 hi6 h6) rfl rfl rfl (byP (drF zs) True.intro) (byP (drF zs) True.intro) (byP (drF zs) True.intro) ?_
          rintro ⟨s2, i7, h7⟩ ⟨hs7, hi7⟩
          simp only at hs7 hi7
          have hs2 : s2.size ≤ 1 := by
            simp only [List.mem_cons, List.not_mem_nil, or_false] at hs7
            rcases hs7 with rfl | rfl <;> decide
          refine sw_run 200 _ _ _ (byP (drF zs) ?_)
          refine sw_callXR (hT2 i7 hi7 h7) rfl rfl rfl (byP (drF zs) True.intro) (byP (drF zs) True.intro) (byP (drF zs) True.intro) ?_
          rintro ⟨tr, i8, h8⟩ ⟨htr, hi8⟩
          simp only at htr hi8
          refine sw_fzO 7 rfl ?_
          have hA : Con Tryz.prog 190 [.ag [.int 9, .str s, .str s2, .int 0, .int ty.kind, .rows 2 ty.args.length (tysC ty.args), .int tr.kind, .rows 2 tr.args.length (tysC tr.args), .rows 9 0 []]] [.one (.int (arF (-1) 9 s))] := by have := con_arityS (.mk 9 s s2 0 ty tr []); rw [tmC_eq] at this; exact this
          rw [hm] at hA
          refine sw_run 200 _ _ _ (byP (drF zs) ?_)
          refine sw_call (hA) rfl (aAs_ok (byQ True.intro)) (byQ True.intro) ?_
          refine sw_run 200 _ _ _ (byQ ?_)
          refine sw_ownQ 3 8 29 rfl rfl ?_
          refine byQ ?_
          refine sw_loop (AnI zs (10 * 3 ^ d - 5) m) (fun x => ⟨74, [(7, .i x.1.length), (6, .i m), (5, .bx 2 0), (4, .bx 1 0), (1, .i ((d : Int) + 1)), (0, .bx 0 0)], [(0, [.br (.rows 1 zs.length (zs.map D.byt)), .i x.2.1, .i x.2.2]), (1, [.i 0, .s ⟨#[]⟩, .s ⟨#[]⟩, .i 0, .i 0, .nl 2, .i 0, .nl 2, .nl 9]), (2, [.i 9, .s s, .s s2, .i 0, .i ty.kind, .br (.rows 2 ty.args.length (tysC ty.args)), .i tr.kind, .br (.rows 2 tr.args.length (tysC tr.args)), .sl 3])], [(3, some ⟨.rows 9 x.1.length (tmsC x.1), some 29, false⟩)], 4, [0]⟩) (fun x => m - x.1.length) ([], i8, h8) (rnL [(2, 3), (3, 8)]) ⟨Nat.zero_le _, (fun t ht => by cases ht), hi8⟩ ?_ ?_
          · exact byP (fc Int.natCast_zero (fc (show tmsC [] = [] from rfl) (show ([] : List Tm).length = 0 from rfl))) True.intro
          rintro ⟨l, i3, h3⟩ ⟨hl, hsz, hi3⟩
          simp only at hl hsz hi3 ⊢
          by_cases hlt : l.length < m
          · have hj : (l.length : Int) < (m : Int) := by omega
            have ih := con_any zs hz d (by omega) (by omega) i3 hi3 h3
            have hs : (d : Int) + 1 - 1 = (d : Int) := by omega
            have hin : inI (d : Int) := by unfold inI; omega
            refine sw_run 200 _ _ _ (byP hj ?_)
            refine sw_drawn (.cons 0 true (.cons 2 true (.cons 3 true (.cons 4 true (.fork (.alt 1 (.cons 5 false (.cons 6 false (.cons 7 false (.cons 8 true (.cons 9 false (.nil)))))) (.alt 5 (.cons 1 true (.cons 6 false (.cons 7 false (.cons 8 true (.cons 9 false (.nil)))))) (.last)))))))) (by kernel_rfl) qLp_panic (by kernel_rfl) ?_
            refine sw_run 200 _ _ _ (byP (fc hs hin) ?_)
            repeat' (with_reducible apply And.intro)
            all_goals
              refine sw_callDXR (ih) rfl rfl rfl (byP (drF zs) True.intro) (byP (drF zs) True.intro) (byP (drF zs) True.intro) rfl ?_
              rintro ⟨t, i4, h4⟩ ⟨ht, hi4⟩
              simp only at ht hi4
              have hst : tmsC (l ++ [t]) = tmsC l ++ [.int t.kind, .str t.name, .str t.other, .int t.n, .int t.ty.kind, .rows 2 t.ty.args.length (tysC t.ty.args), .int t.res.kind, .rows 2 t.res.args.length (tysC t.res.args), .rows 9 t.args.length (tmsC t.args)] := by rw [tmsC_flat, tmsC_flat, flC_app, flC_one, tmC_eq]; rfl
              have hln : (l ++ [t]).length = l.length + 1 := by simp
              refine sw_run 200 _ _ _ (byP (drF zs) ?_)
              refine ⟨⟨fun o ho => by omega, by unfold maxLen; omega, by omega⟩, by unfold inI; omega, (l ++ [t], i4, h4), rnL [(3, 6)], ⟨by simp only [hln]; omega, fun u hu => ?_, hi4⟩, by simp only [hln]; omega, ?_⟩
              · rcases List.mem_append.1 hu with hu | hu
                · exact hsz u hu
                · rw [List.mem_singleton.1 hu]; exact ht
              · exact byP (fc hst hln) True.intro
          · have hj : ¬ (l.length : Int) < (m : Int) := by omega
            have hb := tms_bd l _ hsz
            have hm' : l.length * (10 * 3 ^ d - 5) ≤ 3 * (10 * 3 ^ d - 5) := Nat.mul_le_mul_right _ (by omega)
            have hz3 : szL (tmC (.mk 9 s s2 0 ty tr l)) ≤ 10 * 3 ^ (d + 1) - 5 := by
              rw [tm_sz]
              show s.size + s2.size + szL (tyC ty) + szL (tyC tr) + _ ≤ _
              omega
            refine sw_run 200 _ _ _ (byP hj ?_)
            refine sw_run 200 _ _ _ ?_
            refine byP (fc Tryz.ntmps144 Tryz.results144) ?_
            refine ⟨.inl rfl, (.mk 9 s s2 0 ty tr l, i3, h3), ⟨hz3, hi3⟩, ?_⟩
            refine byP (fc (drF zs) (fc Tryz.ntmps144 Tryz.results144)) ?_
            repeat' (with_reducible apply And.intro)
            all_goals rfl
        have hA : Con Tryz.prog 190 [.ag [.int v, .str ⟨#[]⟩, .str ⟨#[]⟩, .int 0, .int 0, .rows 2 0 [], .int 0, .rows 2 0 [], .rows 9 0 []]] [.one (.int (arF (-1) v ⟨#[]⟩))] := con_arityS (.mk v ⟨#[]⟩ ⟨#[]⟩ 0 (.mk 0 []) (.mk 0 []) [])
        obtain ⟨m, hm, hm3⟩ : ∃ m : Nat, arF (-1) v ⟨#[]⟩ = (m : Int) ∧ m ≤ 3 := by
          have hv' : v = 5 ∨ v = 7 ∨ v = 10 ∨ v = 11 ∨ v = 12 ∨ v = 13 := by simp at hv; omega
          rcases hv' with rfl | rfl | rfl | rfl | rfl | rfl
          · exact ⟨3, rfl, by omega⟩
          · exact ⟨2, rfl, by omega⟩
          · exact ⟨1, rfl, by omega⟩
          · exact ⟨1, rfl, by omega⟩
          · exact ⟨1, rfl, by omega⟩
          · exact ⟨1, rfl, by omega⟩
        rw [hm] at hA
        refine sw_run 200 _ _ _ (byP (fc (drF zs) (fc k4 (fc k6 (fc k8 k9)))) ?_)
        refine sw_call (hA) rfl (aAs_ok (byQ True.intro)) (byQ True.intro) ?_
        refine sw_run 200 _ _ _ (byQ ?_)
        refine sw_ownQ 3 8 29 rfl rfl ?_
        refine byQ ?_
        refine sw_loop (AnI zs (10 * 3 ^ d - 5) m) (fun x => ⟨74, [(7, .i x.1.length), (6, .i m), (5, .bx 2 0), (4, .bx 1 0), (1, .i ((d : Int) + 1)), (0, .bx 0 0)], [(0, [.br (.rows 1 zs.length (zs.map D.byt)), .i x.2.1, .i x.2.2]), (1, [.i 0, .s ⟨#[]⟩, .s ⟨#[]⟩, .i 0, .i 0, .nl 2, .i 0, .nl 2, .nl 9]), (2, [.i v, .s ⟨#[]⟩, .s ⟨#[]⟩, .i 0, .i 0, .nl 2, .i 0, .nl 2, .sl 3])], [(3, some ⟨.rows 9 x.1.length (tmsC x.1), some 29, false⟩)], 4, [0]⟩) (fun x => m - x.1.length) ([], i2, h2) (rnL [(2, 3), (3, 4)]) ⟨Nat.zero_le _, (fun t ht => by cases ht), hi2⟩ ?_ ?_
        · exact byP (fc Int.natCast_zero (fc (show tmsC [] = [] from rfl) (show ([] : List Tm).length = 0 from rfl))) True.intro
        rintro ⟨l, i3, h3⟩ ⟨hl, hsz, hi3⟩
        simp only at hl hsz hi3 ⊢
        by_cases hlt : l.length < m
        · have hj : (l.length : Int) < (m : Int) := by omega
          have ih := con_any zs hz d (by omega) (by omega) i3 hi3 h3
          have hs : (d : Int) + 1 - 1 = (d : Int) := by omega
          have hin : inI (d : Int) := by unfold inI; omega
          refine sw_run 200 _ _ _ (byP hj ?_)
          refine sw_drawn (.cons 0 true (.cons 2 true (.cons 3 true (.cons 4 true (.fork (.alt 1 (.cons 5 false (.cons 6 false (.cons 7 false (.cons 8 true (.cons 9 false (.nil)))))) (.alt 5 (.cons 1 true (.cons 6 false (.cons 7 false (.cons 8 true (.cons 9 false (.nil)))))) (.last)))))))) (by kernel_rfl) qLp_panic (by kernel_rfl) ?_
          refine sw_run 200 _ _ _ (byP (fc hs hin) ?_)
          repeat' (with_reducible apply And.intro)
          all_goals
            refine sw_callDXR (ih) rfl rfl rfl (byP (drF zs) True.intro) (byP (drF zs) True.intro) (byP (drF zs) True.intro) rfl ?_
            rintro ⟨t, i4, h4⟩ ⟨ht, hi4⟩
            simp only at ht hi4
            have hst : tmsC (l ++ [t]) = tmsC l ++ [.int t.kind, .str t.name, .str t.other, .int t.n, .int t.ty.kind, .rows 2 t.ty.args.length (tysC t.ty.args), .int t.res.kind, .rows 2 t.res.args.length (tysC t.res.args), .rows 9 t.args.length (tmsC t.args)] := by rw [tmsC_flat, tmsC_flat, flC_app, flC_one, tmC_eq]; rfl
            have hln : (l ++ [t]).length = l.length + 1 := by simp
            refine sw_run 200 _ _ _ (byP (drF zs) ?_)
            refine ⟨⟨fun o ho => by omega, by unfold maxLen; omega, by omega⟩, by unfold inI; omega, (l ++ [t], i4, h4), rnL [(3, 6)], ⟨by simp only [hln]; omega, fun u hu => ?_, hi4⟩, by simp only [hln]; omega, ?_⟩
            · rcases List.mem_append.1 hu with hu | hu
              · exact hsz u hu
              · rw [List.mem_singleton.1 hu]; exact ht
            · exact byP (fc hst hln) True.intro
        · have hj : ¬ (l.length : Int) < (m : Int) := by omega
          have hb := tms_bd l _ hsz
          have hm' : l.length * (10 * 3 ^ d - 5) ≤ 3 * (10 * 3 ^ d - 5) := Nat.mul_le_mul_right _ (by omega)
          have hz3 : szL (tmC (.mk v ⟨#[]⟩ ⟨#[]⟩ 0 (.mk 0 []) (.mk 0 []) l)) ≤ 10 * 3 ^ (d + 1) - 5 := by
            rw [tm_sz]
            show 0 + 0 + 0 + 0 + _ ≤ _
            omega
          refine sw_run 200 _ _ _ (byP hj ?_)
          refine sw_run 200 _ _ _ ?_
          refine byP (fc Tryz.ntmps144 Tryz.results144) ?_
          refine ⟨.inl rfl, (.mk v ⟨#[]⟩ ⟨#[]⟩ 0 (.mk 0 []) (.mk 0 []) l, i3, h3), ⟨hz3, hi3⟩, ?_⟩
          refine byP (fc (drF zs) (fc Tryz.ntmps144 Tryz.results144)) ?_
          repeat' (with_reducible apply And.intro)
          all_goals rfl
end Go.Proofs.YtaidalilfmjfgaaGreat
