import Derived.Test.YtaidalilfmjfgaaGreatDat
import Derived.Test.YtaidalilfmjfgaaGreatCox
import Derived.Lib.SlicesS
import Derived.LoopN
namespace Go.Proofs.YtaidalilfmjfgaaGreat
open Go.RowKit
set_option linter.unusedVariables false
set_option linter.unusedSimpArgs false
theorem Tk {P:Program} {all rest:List Oper} {st:List It} {dst:Option Tmp} {T T':TypeId} {x:Operand} {ty:TypeId} {pos:String} {af:Array Edge} {gd:Option (Nat × Bool)} {s:AS} {Q:QE} {sz n:Nat} {cs:List D} {q:TypeId × Nat}
  (hx:s.ev x = .br (.rows sz n cs)) (ht:BK P T=some q) (h1:n=0→SW P (.ops all rest :: st) (s.pt dst (.b true)) Q) (h2:SW P (.ops all rest :: st) (s.pt dst (.b false)) Q) :
  SW P (.ex all ⟨dst,.binOp .eql T x (.const (.slice none 0 0)) T',ty,pos,af,gd⟩ rest :: st) s Q:=fun w0 G a w hr=>by
 have hv:=hr.ev x
 rw [hx] at hv
 unfold RV AW at hv
 obtain ⟨a0,cap,e,_,_,_,h5⟩:=hv
 unfold BK at ht
 split at ht
 ·rename_i el hu
  show (Oper.mk dst (.binOp .eql T x (.const (.slice none 0 0)) T') ty pos af gd).wp P a w _ _
  unfold Oper.wp
  have hrun:(execOp a.eval ⟨dst,.binOp .eql T x (.const (.slice none 0 0)) T',ty,pos,af,gd⟩).run P w = .ok (.value (.bool a0.isNone)) w:=by
   have e2:a.eval (.const (.slice none 0 0)) = .slice none 0 0:=rfl
   have e3:(eqGuard .eql T x (.const (.slice none 0 0)) (.slice a0 n cap) (.slice none 0 0)).run P w = .ok () w:=rfl
   simp only [execOp,e,e2,Sem.run_bind,e3,Result.andThen_ok,Lib.run_eql_slice_nil w T el a0 n cap 0 0 hu,Sem.run_pure]
  rw [hrun]
  cases a0 with
  | none =>
   have hn:n=0:=by
    rcases h5 with h5 | ⟨_,_,_,h6,_⟩
    ·exact h5
    ·cases h6
   exact h1 hn w0 G _ w (hr.pt dst (by unfold RV;rfl))
  | some b=>exact h2 w0 G _ w (hr.pt dst (by unfold RV;rfl))
 ·cases ht
theorem WZ (w0:Aq) (Z:Nat→Prop) (w:World) (sz:Nat) (T:TypeId) (a:Option Addr):Res w0 Z w [] (.slice a 0 0) ⟨.rows sz 0 [],some T,false⟩:=by
 obtain ⟨h1,h2,_,h4⟩:=TY w0 Z w sz T a
 refine ⟨h1,h2,fun e=>(by simp at e),fun T' hT => ?_⟩
 obtain ⟨sz,n,cs,vs,q1,q2,q3,q4,q5,_⟩:=h4 T' hT
 exact ⟨sz,n,cs,vs,q1,q2,q3,q4,q5,fun e=>(by simp at e)⟩
theorem FK {P:Program} {Q:QE} {c:Code} {st:List It} {s:AS} (b i:Nat) (T:TypeId) {cs:List AV} {sz:Nat} (h1:AO s.bx b=some cs) (h2:cs[i]? = some (.nl sz))
  (h:SW P (.code c :: st) ((s.mk' [] ⟨.rows sz 0 [],some T,false⟩).setb b (cs.set i (.sl s.nx))) Q):SW P (.code c :: st) s Q:=fun w0 G a w hr=>by
 obtain ⟨_,_,us0,T0,hB0,hrs0⟩:=hr.bx b cs h1
 obtain ⟨u0,hu0,hv0⟩:=RVs.get cs us0 i _ hrs0 h2
 unfold RV at hv0
 obtain ⟨a0,rfl⟩:=hv0
 obtain ⟨h3,h4⟩:=hr.own' (w':=w) (eats:=[]) hr.bel (Nat.le_refl _) (fun _ _ _=>rfl) (WZ w0 _ w sz T a0) rfl (fun _ _ _=>by simp) (fun _ _ _ _ _ _=>by simp)
 have h1':AO (s.mk' [] ⟨.rows sz 0 [],some T,false⟩).bx b=some cs:=h1
 obtain ⟨q1,q2,us,T',hB,hrs⟩:=h3.bx b cs h1'
 have eus:us=us0:=by
  unfold Blk at hB hB0
  have hB1:w.heap[G.β b]? = some (.cells us.toArray T' (0,0)):=hB
  rw [hB0] at hB1
  injection hB1 with hB1
  injection hB1 with hB1 _ _
  exact (List.toArray_inj hB1).symm
 have hu:us[i]? = some (.slice a0 0 0):=by rw [eus];exact hu0
 have hrs':=RVs.set h4 cs us i hrs
 have e:us.set i (.slice a0 0 0)=us:=by
  obtain ⟨hlt,hx⟩:=List.getElem?_eq_some_iff.1 hu
  rw [← hx];exact List.set_getElem_self hlt
 rw [e] at hrs'
 exact h w0 _ a w (h3.setb h1' hrs' hB (La.refl _ _))
theorem Jm {P:Program} {Q:QE} {c:Code} {st:List It} {s:AS} (b i:Nat) {cs:List AV} {sz:Nat} (h1:AO s.bx b=some cs) (h2:cs[i]? = some (.nl sz))
  (h:SW P (.code c :: st) (s.setb b (cs.set i (.br (.rows sz 0 [])))) Q):SW P (.code c :: st) s Q:=fun w0 G a w hr=>by
 obtain ⟨q1,q2,us,T',hB,hrs⟩:=hr.bx b cs h1
 obtain ⟨u0,hu0,hv0⟩:=RVs.get cs us i _ hrs h2
 unfold RV at hv0
 obtain ⟨a0,rfl⟩:=hv0
 have h4:RV G w s.owf s.nx (.br (.rows sz 0 [])) (.slice a0 0 0):=by
  unfold RV AW
  exact ⟨a0,0,rfl,Nat.le_refl _,Nat.zero_le _,by simp,.inl rfl⟩
 have hrs':=RVs.set h4 cs us i hrs
 have e:us.set i (.slice a0 0 0)=us:=by
  obtain ⟨hlt,hx⟩:=List.getElem?_eq_some_iff.1 hu0
  rw [← hx];exact List.set_getElem_self hlt
 rw [e] at hrs'
 exact h w0 _ a w (hr.setb h1 hrs' hB (La.refl _ _))
def qR (P:Program) (x:Code) (st:List It) (Q:QE):Nat→QE
 | 0=>fun e s'=>match e with
  | .normal=>False
  | .exit id=>(Eo id st).isSome=true∧SW P ((Eo id st).getD []) s' Q
  | .ret=>Q .ret s'
  | _=>False
 | n+1=>fun e s'=>match e with
  | .normal=>SW P [.code x] s' (qR P x st Q n)
  | .exit id=>(Eo id st).isSome=true∧SW P ((Eo id st).getD []) s' Q
  | .ret=>Q .ret s'
  | _=>False
theorem qR_normal {P:Program} {x:Code} {st:List It} {Q:QE} {n:Nat} {s:AS}:qR P x st Q (n+1) .normal s=SW P [.code x] s (qR P x st Q n):=rfl
theorem qR_exit {P:Program} {x:Code} {st:List It} {Q:QE} {n id:Nat} {s:AS}:qR P x st Q n (.exit id) s=((Eo id st).isSome=true∧SW P ((Eo id st).getD []) s Q):=by cases n <;> rfl
theorem Jv {P:Program} {x:Code} {st:List It} {Q:QE} {n:Nat} {s:AS}:qR P x st Q n .ret s=Q .ret s:=by cases n <;> rfl
theorem CI {P:Program} {x:Code} {st:List It} {s:AS} {Q:QE} (n:Nat) (h:SW P [.code x] s (qR P x st Q n)):SW P (.code (.loop x) :: st) s Q:=by
 intro w0 G a w hr
 have key:∀ (n:Nat) (s:AS) (G:Gh) (a:Act) (w:World),Rel w0 G s a w→SW P [.code x] s (qR P x st Q n)→Code.rounds P x (Lft w0 (SX (SWb P st Q).2 (SWb P st Q).1 Q)) (n+1) a w:=by
  intro n
  induction n with
  | zero =>
   intro s G a w hr h
   rw [rounds_succ]
   refine wp_mono (Dm h w0 G a w hr) fun e a' w' ⟨G',s',hr',hq⟩ => ?_
   cases e
   case normal=>exact hq.elim
   case exit id _x =>
    obtain ⟨h1,h2⟩:=hq
    obtain ⟨st',hst⟩:=Option.isSome_iff_exists.1 h1
    rw [hst] at h2
    exact ⟨G',s',hr',EA hst h2⟩
   case ret =>
    have hq':Q .ret s':=hq
    exact ⟨G',s',hr',Mg hq' _⟩
   all_goals exact hq.elim
  | succ n ih =>
   intro s G a w hr h
   rw [rounds_succ]
   refine wp_mono (Dm h w0 G a w hr) fun e a' w' ⟨G',s',hr',hq⟩ => ?_
   cases e
   case normal=>exact ih s' G' a' w' hr' hq
   case exit id _x =>
    obtain ⟨h1,h2⟩:=hq
    obtain ⟨st',hst⟩:=Option.isSome_iff_exists.1 h1
    rw [hst] at h2
    exact ⟨G',s',hr',EA hst h2⟩
   case ret =>
    have hq':Q .ret s':=hq
    exact ⟨G',s',hr',Mg hq' _⟩
   all_goals exact hq.elim
 exact wp_loop_rounds (n+1) (key n s G a w hr h)
end Go.Proofs.YtaidalilfmjfgaaGreat
