import Derived.Test.YtaidalilfmjfgaaGreatCpP
namespace Go.Proofs.YtaidalilfmjfgaaGreat
open Go.RowKit
set_option linter.unusedVariables false
set_option linter.unusedSimpArgs false
structure OkS (i:Nat) (s:CS):Prop where
 code:s.code.length≤4000400
 some:i<s.code.length
 q:s.q.length≤(i+1) * 4000002
 wt:∀ x ∈ s.q,aEp 10000000 x∧0≤x.pl∧x.pl<(s.code.length:Int)
theorem VJ {i:Nat} {s:CS} {x:Wt} (h:OkS i s) (hx:x ∈ s.q) (hc:s.code.length≤300) (k:Nat) (a:Int):PQ x.body x.nms (Db s k a)∧plT x.body=true∧Cov x.nms x.body:=by
 obtain ⟨⟨h1,h2,h3,h4⟩,_⟩:=h.wt x hx
 have hq:=h.q
 have hi:=h.some
 refine ⟨⟨h3,h4,by rw [Cd];omega,by rw [Hh];omega⟩,h1,h2⟩
theorem VY {i:Nat} {s:CS} {x:Wt} (h:OkS i s) (hx:x ∈ s.q) (hc:s.code.length≤300) (k:Nat) (a:Int):OkS (i+1) (Be (cpT x.body x.nms (Db s k a)) 10 0):=by
 obtain ⟨⟨h1,h2,h3,h4⟩,_⟩:=h.wt x hx
 have g:=IZ 10000000 x.body h3 x.nms (Db s k a) h1 h2 h4
 have g1:=g.code;have g2:=g.q;have g3:=g.nw
 rw [Cd] at g1
 rw [Hh] at g2 g3
 have hq:=h.q
 have hi:=h.some
 refine ⟨by rw [Bi];omega,by rw [Bi];omega,by rw [CB];omega,fun y hy => ?_⟩
 rw [CB] at hy
 rw [Bi]
 rcases g3 y hy with hy | ⟨a1,a2,a3⟩
 ·obtain ⟨b1,b2,b3⟩:=h.wt y hy
  exact ⟨b1,b2,by omega⟩
 ·exact ⟨a1,a2,by omega⟩
theorem SJ {e:Tm} (hz:szL (tmC e)≤2000000) (hp:plT e=true) (hf:AE e=[]):PQ e [] ⟨[],[]⟩∧Cov [] e∧OkS 0 (Be (cpT e [] ⟨[],[]⟩) 10 0):=by
 have hc:=Cov.nil hf
 have g:=IZ 10000000 e hz [] ⟨[],[]⟩ hp hc (by simp only [List.length_nil];omega)
 have g1:=g.code;have g2:=g.q;have g3:=g.nw
 simp only [List.length_nil] at g1 g2
 refine ⟨⟨hz,by simp only [List.length_nil];omega,by simp only [List.length_nil];omega,by simp only [List.length_nil];omega⟩,hc,by rw [Bi];omega,by rw [Bi];omega,by rw [CB];omega,fun y hy => ?_⟩
 rw [CB] at hy
 rw [Bi]
 rcases g3 y hy with hy | ⟨a1,a2,a3⟩
 ·cases hy
 ·exact ⟨a1,a2,by omega⟩
structure InL (e:Tm) (f i:Nat) (s:CS):Prop where
 ok:OkS i s
 fin:cmL f i s=cmS e
 le:i≤s.q.length
 fuel:302≤f+s.code.length
theorem SZ {e:Tm} (h:OkS 0 (Be (cpT e [] ⟨[],[]⟩) 10 0)):InL e 400 0 (Be (cpT e [] ⟨[],[]⟩) 10 0):=⟨h,rfl,Nat.zero_le _,by omega⟩
theorem UE {e:Tm} {f i:Nat} {s:CS} (h:InL e f i s) (hi:i<s.q.length) (hc:s.code.length≤300):∃ f',f=f'+1∧InL e f' (i+1) (Be (cpT (s.q[i]!).body (s.q[i]!).nms (Db s (s.q[i]!).pl.toNat s.code.length)) 10 0):=by
 have hf:=h.fuel
 obtain ⟨f',rfl⟩:∃ f',f=f'+1:=⟨f-1,by omega⟩
 have hm:=Ab hi
 have hok:=VY h.ok hm hc (s.q[i]!).pl.toNat s.code.length
 have hfin:=h.fin
 rw [cmL,if_pos ⟨hi,hc⟩] at hfin
 obtain ⟨⟨h1,h2,h3,h4⟩,_⟩:=h.ok.wt _ hm
 have g:=IZ 10000000 (s.q[i]!).body h3 (s.q[i]!).nms (Db s (s.q[i]!).pl.toNat s.code.length) h1 h2 h4
 have g1:=g.code;have g2:=g.q
 rw [Cd] at g1
 rw [Hh] at g2
 exact ⟨f',rfl,hok,hfin,by rw [CB];omega,by rw [Bi];omega⟩
theorem Oz {e:Tm} {f i:Nat} {s:CS} (h:InL e f i s) (hi:¬ (i<s.q.length∧s.code.length≤300)):s=cmS e:=by
 have hfin:=h.fin
 cases f with
 | zero=>exact hfin
 | succ f=>rw [cmL,if_neg hi] at hfin;exact hfin
def cmB (e:Tm):Bool:=plT e && decide (((AE e).length:Int)=0)
def cmR (e:Tm):List Ins × Bool:=if cmB e=true then (if 300<(cmS e).code.length then ([],false) else ((cmS e).code,true)) else ([],false)
theorem YA (q:List Wt) (i:Nat) (h:i<q.length):rowAt 11 (flC wtC q) i=[.int (q[i]!).pl,.rows 1 (q[i]!).nms.length ((q[i]!).nms.map D.str),.int (q[i]!).body.kind,.str (q[i]!).body.name,.str (q[i]!).body.other,.int (q[i]!).body.n,.int (q[i]!).body.ty.kind,.rows 2 (q[i]!).body.ty.args.length (Ai (q[i]!).body.ty.args),.int (q[i]!).body.res.kind,.rows 2 (q[i]!).body.res.args.length (Ai (q[i]!).body.res.args),.rows 9 (q[i]!).body.args.length (Av (q[i]!).body.args)]:=CR ZO q i h
theorem Ry (e:Tm):(cmR e).1.length≤300:=by
 unfold cmR
 split
 ·split
  ·exact Nat.zero_le _
  ·rename_i h;show (cmS e).code.length≤300;omega
 ·exact Nat.zero_le _
end Go.Proofs.YtaidalilfmjfgaaGreat
