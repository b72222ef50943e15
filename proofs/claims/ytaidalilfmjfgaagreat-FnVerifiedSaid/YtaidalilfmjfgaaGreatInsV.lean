import Derived.Test.YtaidalilfmjfgaaGreatDat
import Derived.Test.YtaidalilfmjfgaaGreatNum
import Derived.Test.YtaidalilfmjfgaaGreatTmV
import Derived.Test.YtaidalilfmjfgaaGreatBy
namespace Go.Proofs.YtaidalilfmjfgaaGreat
open Go.RowKit
set_option linter.unusedVariables false
set_option linter.unusedSimpArgs false
structure Shp where
 known:Bool
 h:Int
 d:Int
 b:Int
 deriving Inhabited,DecidableEq
def shpC (x:Shp):List D:=[.bool x.known,.int x.h,.int x.d,.int x.b]
def shpsD (xs:List Shp):D:=.rows 4 xs.length (flC shpC xs)
structure Der where
 p:Int
 s:Shp
 deriving Inhabited
def derC (x:Der):List D:=[.int x.p,.bool x.s.known,.int x.s.h,.int x.s.d,.int x.s.b]
def dersD (xs:List Der):D:=.rows 5 xs.length (flC derC xs)
def zS:Shp:=⟨false,0,0,0⟩
def s0:Shp:=⟨true,0,0,0⟩
def popF (x:Ins):Int:=if x.op=4 then (if x.a=8 then 1 else 2) else if x.op=6∨x.op=10∨x.op=11 then 1 else if x.op=9 then 2 else 0
def pushF (x:Ins):Int:=if x.op=5∨x.op=6∨x.op=10∨x.op=11∨x.op=12 then 0 else 1
def mayF (x:Ins) (s:Shp):Bool :=
 if s.h<popF x∨(x.op=10∧s.h≠1) then false else if x.op=3 then decide (x.a<s.d) else if x.op=12 then decide (s.b<s.d) else true
def fitF (x:Ins) (s:Shp):Bool:=if x.op=3 then decide (x.a<s.d) else if x.op=12 then decide (s.b<s.d) else if x.op=10 then decide (s.h=1) else decide (popF x≤s.h)
theorem fit_may (x:Ins) (s:Shp) (h:0≤s.h):fitF x s=mayF x s:=by
 obtain ⟨op,a⟩:=x
 obtain ⟨k,sh,d,b⟩:=s
 simp only at h
 unfold fitF mayF popF
 simp only
 by_cases h3:op=3
 ·subst h3;simp;intro hh;omega
 by_cases h12:op=12
 ·subst h12;simp;intro hh;omega
 by_cases h10:op=10
 ·subst h10
  simp
  by_cases e:sh=1
  ·subst e;simp
  ·simp [e]
 simp only [h3,h12,h10,if_false,false_and,or_false]
 generalize (if op=4 then if a=8 then (1:Int) else 2 else if op=6∨False∨op=11 then 1 else if op=9 then 2 else 0)=q
 by_cases e:sh<q
 ·rw [if_pos e,decide_eq_false (by omega)]
 ·rw [if_neg e,decide_eq_true (by omega)]
def aftF (x:Ins) (s:Shp):Shp:=⟨s.known,s.h+(pushF x-popF x),if x.op=11 then s.d+1 else if x.op=12 then s.d-1 else s.d,s.b⟩
def insF (x:Ins) (s:Shp):Shp:=⟨true,0,s.d+1+(if x.op=8 then 1 else 0),s.d+1+(if x.op=8 then 1 else 0)⟩
def folI (p:Int) (x:Ins) (s:Shp):List Der :=
 if x.op=10 then [] else if x.op=5 then [⟨x.a,aftF x s⟩] else if x.op=6 then [⟨p+1,aftF x s⟩,⟨x.a,aftF x s⟩] else if x.op=7∨x.op=8 then [⟨p+1,aftF x s⟩,⟨x.a,insF x s⟩] else [⟨p+1,aftF x s⟩]
def folS (p:Int) (x:Ins) (s:Shp):List Der :=
 if x.op=10 then [] else if x.op=5 then [⟨x.a,aftF x s⟩] else if x.op=6 then [⟨x.a,aftF x s⟩,⟨p+1,aftF x s⟩] else if x.op=7∨x.op=8 then [⟨x.a,insF x s⟩,⟨p+1,aftF x s⟩] else [⟨p+1,aftF x s⟩]
theorem fol_mem {p:Int} {x:Ins} {s:Shp} {y:Der}:y ∈ folS p x s ↔ y ∈ folI p x s:=by
 unfold folS folI
 repeat' split
 all_goals simp [or_comm]
theorem folI_len (p:Int) (x:Ins) (s:Shp):(folI p x s).length≤2:=by
 unfold folI
 repeat' split
 all_goals simp
def goI (code : List Ins) : Nat → List Shp → List Der → Option (Option (List Shp))
  | 0, _, _ => none
  | _ + 1, out, [] => some (some out)
  | f + 1, out, d :: r =>
    if (code.length : Int) ≤ d.p then some none
    else if out[d.p.toNat]!.known = true then (if out[d.p.toNat]! = d.s then goI code f out r else some none)
    else if mayF code[d.p.toNat]! d.s = true then goI code f (out.set d.p.toNat d.s) (r ++ folI d.p code[d.p.toNat]! d.s)
    else some none
structure Srch where
 sh:List Shp
 todo:List Int
 bad:Bool
def give (n:Nat) (st:Srch) (y:Der):Srch :=
 if (n:Int)≤y.p then { st with bad:=true }
 else if st.sh[y.p.toNat]!.known=false then ⟨st.sh.set y.p.toNat y.s,st.todo++[y.p],st.bad⟩
 else if st.sh[y.p.toNat]! = y.s then st else { st with bad:=true }
def nextS (code:List Ins) (st:Srch) (p:Int):Srch :=
 if fitF code[p.toNat]! st.sh[p.toNat]! = true then (folS p code[p.toNat]! st.sh[p.toNat]!).foldl (give code.length) st else { st with bad:=true }
def goS (code : List Ins) : Nat → Srch → Option (Option (List Shp))
  | 0, _ => none
  | f + 1, ⟨sh, todo, bad⟩ => if bad = true then some none else match todo with
    | [] => some (some sh)
    | p :: r => goS code f (nextS code ⟨sh, r, bad⟩ p)
inductive Rch (code:List Ins):Int→Shp→Prop
 | base:Rch code 0 s0
 | step {p:Int} {s:Shp} {y:Der} (h:Rch code p s) (h1:p<code.length) (h2:mayF code[p.toNat]! s=true) (hy:y ∈ folI p code[p.toNat]! s):Rch code y.p y.s
def okA (code:List Ins):Prop:=∀ x ∈ code,0≤x.a
theorem okA_at {code:List Ins} (h:okA code) (k:Nat) (hk:k<code.length):0≤code[k]!.a:=by
 rw [getElem!_pos code k hk];exact h _ (List.getElem_mem hk)
theorem may_h {x:Ins} {s:Shp} (h:mayF x s=true):popF x≤s.h:=by
 unfold mayF at h
 split at h
 ·cases h
 ·rename_i h1;simp only [not_or] at h1;omega
theorem push_nn (x:Ins):0≤pushF x:=by unfold pushF;split <;> omega
theorem fol_ok {p:Int} {x:Ins} {s:Shp} {y:Der} (hp:0≤p) (hx:0≤x.a) (hs:s.known=true) (hm:mayF x s=true) (hy:y ∈ folI p x s):y.s.known=true∧0≤y.s.h∧0≤y.p:=by
 have h1:=may_h hm
 have h2:=push_nn x
 have ha:(aftF x s).known=true∧0≤(aftF x s).h:=⟨hs,by simp only [aftF];omega⟩
 unfold folI at hy
 repeat' split at hy
 ·cases hy
 ·simp only [List.mem_singleton] at hy;subst hy;exact ⟨ha.1,ha.2,hx⟩
 ·simp only [List.mem_cons,List.not_mem_nil,or_false] at hy
  rcases hy with rfl | rfl
  ·exact ⟨ha.1,ha.2,by simp only;omega⟩
  ·exact ⟨ha.1,ha.2,hx⟩
 ·simp only [List.mem_cons,List.not_mem_nil,or_false] at hy
  rcases hy with rfl | rfl
  ·exact ⟨ha.1,ha.2,by simp only;omega⟩
  ·exact ⟨rfl,by simp [insF],hx⟩
 ·simp only [List.mem_singleton] at hy;subst hy;exact ⟨ha.1,ha.2,by simp only;omega⟩
theorem Rch.ok {code:List Ins} (hc:okA code) {p:Int} {s:Shp} (h:Rch code p s):s.known=true∧0≤s.h∧0≤p:=by
 induction h with
 | base=>exact ⟨rfl,by decide,by decide⟩
 | step h h1 h2 hy ih=>exact fol_ok ih.2.2 (okA_at hc _ (by omega)) ih.1 h2 hy
def GoodC (code:List Ins):Prop:=∀ p s,Rch code p s→p<code.length∧mayF code[p.toNat]! s=true∧∀ s',Rch code p s'→s'=s
def IsT (code:List Ins) (T:List Shp):Prop:=T.length=code.length∧∀ k:Nat,k<code.length→(T[k]!.known=true→Rch code k T[k]!)∧(T[k]!.known=false→T[k]! = zS∧∀ s,¬ Rch code k s)
def ResC (code:List Ins):Option (List Shp)→Prop
 | none=>¬ GoodC code
 | some T=>GoodC code∧IsT code T
theorem ResC.uniq {code : List Ins} {r r' : Option (List Shp)} (h : ResC code r) (h' : ResC code r') : r = r' := by
  cases r with
  | none =>
    cases r' with
    | none => rfl
    | some T => exact absurd h'.1 h
  | some T =>
    cases r' with
    | none => exact absurd h.1 h'
    | some T' =>
      obtain ⟨hg, hl, ht⟩ := h
      obtain ⟨_, hl', ht'⟩ := h'
      congr 1
      refine List.ext_getElem (by rw [hl, hl']) fun k h1 h2 => ?_
      have hk : k < code.length := by omega
      have e1 := ht k hk
      have e2 := ht' k hk
      rw [getElem!_pos T k h1] at e1
      rw [getElem!_pos T' k h2] at e2
      cases c1 : T[k].known with
      | true =>
        have r1 := e1.1 c1
        cases c2 : T'[k].known with
        | true => exact (hg _ _ (e2.1 c2)).2.2 _ r1
        | false => exact absurd r1 ((e2.2 c2).2 _)
      | false =>
        have r1 := e1.2 c1
        cases c2 : T'[k].known with
        | true => exact absurd (e2.1 c2) (r1.2 _)
        | false => rw [r1.1, (e2.2 c2).1]
def unk:List Shp→Nat
 | []=>0
 | x :: l=>(if x.known=true then 0 else 1)+unk l
theorem unk_set : ∀ (l : List Shp) (k : Nat) (s : Shp), k < l.length → l[k]!.known = false → s.known = true → unk (l.set k s) + 1 = unk l
  | [], k, s, h, _, _ => by simp at h
  | x :: l, 0, s, h, h1, h2 => by
    simp only [List.getElem!_cons_zero] at h1
    simp [unk, h1, h2]; omega
  | x :: l, k + 1, s, h, h1, h2 => by
    have := unk_set l k s (by simpa using h) (by simpa using h1) h2
    simp only [List.set_cons_succ, unk]; omega
theorem unk_le:∀ l:List Shp,unk l≤l.length
 | []=>Nat.le_refl _
 | x :: l=>by have:=unk_le l;simp only [unk,List.length_cons];split <;> omega
theorem get_set {α:Type} [Inhabited α] (l:List α) (k j:Nat) (x:α) (hk:k<l.length):(l.set k x)[j]! = if j=k then x else l[j]! := by
 by_cases e:j=k
 ·subst e
  rw [if_pos rfl,getElem!_pos (l.set j x) j (by simpa using hk)];simp
 ·rw [if_neg e]
  by_cases hj:j<l.length
  ·rw [getElem!_pos (l.set k x) j (by simpa using hj),getElem!_pos l j hj,List.getElem_set_ne (by omega)]
  ·rw [getElem!_neg (l.set k x) j (by simpa using hj),getElem!_neg l j hj]
def Dn (n:Nat) (out:List Shp) (y:Der):Prop:=(0≤y.p∧y.p<n)∧out[y.p.toNat]! = y.s∧y.s.known=true
theorem Dn.set {n:Nat} {out:List Shp} {y:Der} (h:Dn n out y) {k:Nat} {s:Shp} (hk:k<out.length) (hn:out[k]!.known=false):Dn n (out.set k s) y:=by
 refine ⟨h.1, ?_,h.2.2⟩
 rw [get_set _ _ _ _ hk,if_neg,h.2.1]
 intro e
 rw [← e,h.2.1,h.2.2] at hn
 cases hn
structure InvC (code:List Ins) (out:List Shp) (td:Int→Prop) (pend:List Der) (bad:Bool):Prop where
 len:out.length=code.length
 src:∀ y ∈ pend,Rch code y.p y.s
 kn:∀ k:Nat,k<code.length→out[k]!.known=true→Rch code k out[k]!
 un:∀ k:Nat,k<code.length→out[k]!.known=false→out[k]! = zS
 cl:bad=false→∀ k:Nat,k<code.length→out[k]!.known=true→td k∨(mayF code[k]! out[k]! = true∧∀ y ∈ folI k code[k]! out[k]!,y ∈ pend∨Dn code.length out y)
 st:bad=false→⟨0,s0⟩ ∈ pend∨Dn code.length out ⟨0,s0⟩
 bd:bad=true→¬ GoodC code
theorem InvC.fin {code : List Ins} (hc : okA code) {out : List Shp} {td : Int → Prop} (h : InvC code out td [] false) (ht : ∀ p, ¬ td p) : ResC code (some out) := by
  have key : ∀ p s, Rch code p s → Dn code.length out ⟨p, s⟩ := fun p s hr => by
    induction hr with
    | base => exact (h.st rfl).resolve_left (by simp)
    | step hr h1 h2 hy ih =>
      rename_i p s y
      obtain ⟨⟨h3, h4⟩, h5, h6⟩ := ih
      simp only at h3 h4 h5 h6
      have h7 := h.cl rfl p.toNat (by omega) (by rw [h5]; exact h6)
      have e : ((p.toNat : Nat) : Int) = p := by omega
      rw [e, h5] at h7
      exact ((h7.resolve_left (ht _)).2 y hy).resolve_left (by simp)
  refine ⟨fun p s hr => ?_, h.len, fun k hk => ⟨h.kn k hk, fun e => ⟨h.un k hk e, fun s hr => ?_⟩⟩⟩
  · obtain ⟨⟨h3, h4⟩, h5, h6⟩ := key p s hr
    simp only at h3 h4 h5 h6
    have h7 := h.cl rfl p.toNat (by omega) (by rw [h5]; exact h6)
    rw [h5] at h7
    refine ⟨h4, (h7.resolve_left (ht _)).1, fun s' hr' => ?_⟩
    have := (key p s' hr').2.1
    simp only at this
    rw [← this, h5]
  · obtain ⟨_, h5, h6⟩ := key k s hr
    simp only [Int.toNat_natCast] at h5 h6
    rw [h5, h6] at e
    cases e
theorem InvC.far {code:List Ins} {out:List Shp} {td:Int→Prop} {y:Der} {ys:List Der} {bad:Bool} (h:InvC code out td (y :: ys) bad) (hy:(code.length:Int)≤y.p):¬ GoodC code:=fun hg=>by
 have:=(hg _ _ (h.src y (by simp))).1;omega
theorem InvC.other {code:List Ins} (hc:okA code) {out:List Shp} {td:Int→Prop} {y:Der} {ys:List Der} {bad:Bool} (h:InvC code out td (y :: ys) bad) (hy:y.p<(code.length:Int)) (hk:out[y.p.toNat]!.known=true) (hne:out[y.p.toNat]! ≠ y.s):¬ GoodC code:=fun hg=>by
 have hr:=h.src y (by simp)
 have h0:=(hr.ok hc).2.2
 have h1:=h.kn y.p.toNat (by omega) hk
 rw [show ((y.p.toNat:Nat):Int)=y.p by omega] at h1
 exact hne ((hg _ _ hr).2.2 _ h1)
theorem InvC.done {code:List Ins} (hc:okA code) {out:List Shp} {td:Int→Prop} {y:Der} {ys:List Der} {bad:Bool} (h:InvC code out td (y :: ys) bad) (hy:y.p<(code.length:Int)) (hk:out[y.p.toNat]! = y.s):InvC code out td ys bad:=by
 have hr:=h.src y (by simp)
 have h0:=hr.ok hc
 have hd:Dn code.length out y:=⟨⟨h0.2.2,hy⟩,hk,h0.1⟩
 refine ⟨h.len,fun z hz=>h.src z (by simp [hz]),h.kn,h.un,fun hb k hk1 hk2=>(h.cl hb k hk1 hk2).imp id fun ⟨h1,h2⟩=>⟨h1,fun z hz => ?pz⟩,fun hb => ?ps,h.bd⟩
 case pz =>
  rcases h2 z hz with h3 | h3
  ·rcases List.mem_cons.1 h3 with rfl | h3
   ·exact .inr hd
   ·exact .inl h3
  ·exact .inr h3
 case ps =>
  rcases h.st hb with h3 | h3
  ·rcases List.mem_cons.1 h3 with h3 | h3
   ·rw [h3];exact .inr hd
   ·exact .inl h3
  ·exact .inr h3
theorem InvC.put {code:List Ins} (hc:okA code) {out:List Shp} {td td':Int→Prop} {y:Der} {ys ys':List Der} {bad:Bool} (h:InvC code out td (y :: ys) bad) (hy:y.p<(code.length:Int)) (hk:out[y.p.toNat]!.known=false)
  (ht:∀ p,td p→td' p) (hs:∀ z ∈ ys,z ∈ ys') (hs':∀ z ∈ ys',z ∈ ys∨Rch code z.p z.s) (hn:td' y.p∨(mayF code[y.p.toNat]! y.s=true∧∀ z ∈ folI y.p code[y.p.toNat]! y.s,z ∈ ys')):InvC code (out.set y.p.toNat y.s) td' ys' bad:=by
 have hr:=h.src y (by simp)
 have h0:=hr.ok hc
 have hlt:y.p.toNat<out.length:=by rw [h.len];omega
 have e0:((y.p.toNat:Nat):Int)=y.p:=by omega
 have hd:Dn code.length (out.set y.p.toNat y.s) y:=⟨⟨h0.2.2,hy⟩,by rw [get_set _ _ _ _ hlt,if_pos rfl],h0.1⟩
 refine ⟨by simp [h.len],fun z hz=>(hs' z hz).elim (fun h1=>h.src z (by simp [h1])) id,fun k hk1 hk2 => ?_,fun k hk1 hk2 => ?_,fun hb k hk1 hk2 => ?_,fun hb => ?_,h.bd⟩
 ·rw [get_set _ _ _ _ hlt] at hk2 ⊢
  split at hk2
  ·rename_i e;rw [if_pos e,e,e0];exact hr
  ·rename_i e;rw [if_neg e];exact h.kn k hk1 hk2
 ·rw [get_set _ _ _ _ hlt] at hk2 ⊢
  split at hk2
  ·rw [h0.1] at hk2;cases hk2
  ·rename_i e;rw [if_neg e];exact h.un k hk1 hk2
 ·rw [get_set _ _ _ _ hlt] at hk2 ⊢
  split at hk2
  ·rename_i e
   rw [if_pos e,e,e0]
   exact hn.imp id fun ⟨h1,h2⟩=>⟨h1,fun z hz => .inl (h2 z hz)⟩
  ·rename_i e
   rw [if_neg e]
   refine (h.cl hb k hk1 hk2).imp (ht _) fun ⟨h1,h2⟩=>⟨h1,fun z hz => ?_⟩
   rcases h2 z hz with h3 | h3
   ·rcases List.mem_cons.1 h3 with rfl | h3
    ·exact .inr hd
    ·exact .inl (hs z h3)
   ·exact .inr (h3.set hlt hk)
 ·rcases h.st hb with h3 | h3
  ·rcases List.mem_cons.1 h3 with h3 | h3
   ·rw [h3];exact .inr hd
   ·exact .inl (hs _ h3)
  ·exact .inr (h3.set hlt hk)
theorem goI_res {code : List Ins} (hc : okA code) : ∀ (f : Nat) (out : List Shp) (list : List Der), InvC code out (fun _ => False) list false → 3 * unk out + list.length < f → ∃ r, goI code f out list = some r ∧ ResC code r
  | 0, out, list, h, hf => by omega
  | f + 1, out, [], h, hf => ⟨_, rfl, h.fin hc fun _ h => h⟩
  | f + 1, out, d :: r, h, hf => by
    have hr := h.src d (by simp)
    have h0 := hr.ok hc
    simp only [List.length_cons] at hf
    unfold goI
    split
    · rename_i h1; exact ⟨_, rfl, h.far h1⟩
    · rename_i h1
      have h1' : d.p < (code.length : Int) := by omega
      split
      · rename_i h2
        split
        · rename_i h3; exact goI_res hc f out r (h.done hc h1' h3) (by omega)
        · rename_i h3; exact ⟨_, rfl, h.other hc h1' h2 h3⟩
      · rename_i h2
        have h2' : out[d.p.toNat]!.known = false := by simpa using h2
        split
        · rename_i h3
          have hu := unk_set out d.p.toNat d.s (by rw [h.len]; omega) h2' h0.1
          have hl := folI_len d.p code[d.p.toNat]! d.s
          exact goI_res hc f _ _ (h.put hc h1' h2' (fun _ h => h) (fun z hz => by simp [hz]) (fun z hz => (List.mem_append.1 hz).imp id fun hz => .step hr h1' h3 hz) (.inr ⟨h3, fun z hz => List.mem_append.2 (.inr hz)⟩)) (by rw [List.length_append]; omega)
        · rename_i h3; exact ⟨_, rfl, fun hg => h3 (hg _ _ hr).2.1⟩
theorem give_inv {code:List Ins} (hc:okA code) (st:Srch) (y:Der) (ys:List Der) (ht:∀ p ∈ st.todo,0≤p∧p<code.length∧st.sh[p.toNat]!.known=true) (h:InvC code st.sh (· ∈ st.todo) (y :: ys) st.bad) :
  (∀ p ∈ (give code.length st y).todo,0≤p∧p<code.length∧(give code.length st y).sh[p.toNat]!.known=true)∧InvC code (give code.length st y).sh (· ∈ (give code.length st y).todo) ys (give code.length st y).bad ∧
  2 * unk (give code.length st y).sh+(give code.length st y).todo.length≤2 * unk st.sh+st.todo.length:=by
 have hr:=h.src y (by simp)
 have h0:=hr.ok hc
 have drop:¬ GoodC code→InvC code st.sh (· ∈ st.todo) ys true:=fun hg=>⟨h.len,fun z hz=>h.src z (by simp [hz]),h.kn,h.un,fun e=>(by cases e),fun e=>(by cases e),fun _=>hg⟩
 unfold give
 split
 ·rename_i h1;exact ⟨ht,drop (h.far h1),Nat.le_refl _⟩
 ·rename_i h1
  have h1':y.p<(code.length:Int):=by omega
  have hlt:y.p.toNat<st.sh.length:=by rw [h.len];omega
  split
  ·rename_i h2
   have hu:=unk_set st.sh y.p.toNat y.s hlt h2 h0.1
   refine ⟨fun p hp => ?_,h.put hc h1' h2 (fun p hp=>by simp [hp]) (fun _ h=>h) (fun _ h => .inl h) (.inl (by simp)),by simp only [List.length_append,List.length_cons,List.length_nil];omega⟩
   rw [get_set _ _ _ _ hlt]
   rcases List.mem_append.1 hp with hp | hp
   ·obtain ⟨a1,a2,a3⟩:=ht p hp
    exact ⟨a1,a2,by split;exact h0.1;exact a3⟩
   ·simp only [List.mem_singleton] at hp
    subst hp
    exact ⟨h0.2.2,h1',by rw [if_pos rfl];exact h0.1⟩
  ·rename_i h2
   have h2':st.sh[y.p.toNat]!.known=true:=by simpa using h2
   split
   ·rename_i h3;exact ⟨ht,h.done hc h1' h3,Nat.le_refl _⟩
   ·rename_i h3;exact ⟨ht,drop (h.other hc h1' h2' h3),Nat.le_refl _⟩
theorem gives_inv {code : List Ins} (hc : okA code) : ∀ (ys : List Der) (st : Srch), (∀ p ∈ st.todo, 0 ≤ p ∧ p < code.length ∧ st.sh[p.toNat]!.known = true) → InvC code st.sh (· ∈ st.todo) ys st.bad →
    (∀ p ∈ (ys.foldl (give code.length) st).todo, 0 ≤ p ∧ p < code.length ∧ (ys.foldl (give code.length) st).sh[p.toNat]!.known = true) ∧ InvC code (ys.foldl (give code.length) st).sh (· ∈ (ys.foldl (give code.length) st).todo) [] (ys.foldl (give code.length) st).bad ∧
    2 * unk (ys.foldl (give code.length) st).sh + (ys.foldl (give code.length) st).todo.length ≤ 2 * unk st.sh + st.todo.length
  | [], st, ht, h => ⟨ht, h, Nat.le_refl _⟩
  | y :: ys, st, ht, h => by
    obtain ⟨h1, h2, h3⟩ := give_inv hc st y ys ht h
    obtain ⟨h4, h5, h6⟩ := gives_inv hc ys _ h1 h2
    exact ⟨h4, h5, Nat.le_trans h6 h3⟩
theorem goS_res {code : List Ins} (hc : okA code) : ∀ (f : Nat) (st : Srch), (∀ p ∈ st.todo, 0 ≤ p ∧ p < code.length ∧ st.sh[p.toNat]!.known = true) → InvC code st.sh (· ∈ st.todo) [] st.bad → 2 * unk st.sh + st.todo.length < f → ∃ r, goS code f st = some r ∧ ResC code r
  | 0, st, ht, h, hf => by omega
  | f + 1, ⟨sh, todo, bad⟩, ht, h, hf => by
    simp only at ht h hf
    unfold goS
    split
    · rename_i hb; exact ⟨_, rfl, h.bd hb⟩
    · rename_i hb
      have hb' : bad = false := by simpa using hb
      subst hb'
      cases todo with
      | nil => exact ⟨_, rfl, h.fin hc fun _ h => by cases h⟩
      | cons p r =>
        obtain ⟨a1, a2, a3⟩ := ht p (by simp)
        have hr := h.kn p.toNat (by omega) a3
        have e0 : ((p.toNat : Nat) : Int) = p := by omega
        rw [e0] at hr
        have h0 := hr.ok hc
        have hfm := fit_may code[p.toNat]! sh[p.toNat]! h0.2.1
        simp only [List.length_cons] at hf
        have key : ∀ st' : Srch, (∀ q ∈ st'.todo, 0 ≤ q ∧ q < code.length ∧ st'.sh[q.toNat]!.known = true) → InvC code st'.sh (· ∈ st'.todo) [] st'.bad → 2 * unk st'.sh + st'.todo.length ≤ 2 * unk sh + r.length → ∃ q, goS code f st' = some q ∧ ResC code q :=
          fun st' q1 q2 q3 => goS_res hc f st' q1 q2 (by omega)
        show ∃ q, goS code f (nextS code ⟨sh, r, false⟩ p) = some q ∧ ResC code q
        have htr : ∀ q ∈ r, 0 ≤ q ∧ q < code.length ∧ sh[q.toNat]!.known = true := fun q hq => ht q (by simp [hq])
        unfold nextS
        simp only
        split
        · rename_i h1
          rw [hfm] at h1
          have hi : InvC code sh (· ∈ r) (folS p code[p.toNat]! sh[p.toNat]!) false := by
            refine ⟨h.len, fun y hy => .step hr a2 h1 (fol_mem.1 hy), h.kn, h.un, fun _ k hk1 hk2 => ?_, fun _ => .inr ((h.st rfl).resolve_left (by simp)), fun e => by cases e⟩
            by_cases e : k = p.toNat
            · subst e
              rw [e0]
              exact .inr ⟨h1, fun y hy => .inl (fol_mem.2 hy)⟩
            · rcases h.cl rfl k hk1 hk2 with h2 | ⟨h2, h3⟩
              · rcases List.mem_cons.1 h2 with h2 | h2
                · omega
                · exact .inl h2
              · exact .inr ⟨h2, fun y hy => .inr ((h3 y hy).resolve_left (by simp))⟩
          obtain ⟨q1, q2, q3⟩ := gives_inv hc _ ⟨sh, r, false⟩ htr hi
          exact key _ q1 q2 q3
        · rename_i h1
          rw [hfm] at h1
          exact key ⟨sh, r, true⟩ htr ⟨h.len, h.src, h.kn, h.un, fun e => (by cases e), fun e => (by cases e), fun _ hg => h1 (hg _ _ hr).2.1⟩ (Nat.le_refl _)
def zeros (n:Nat):List Shp:=List.replicate n zS
theorem zeros_at (n k:Nat) (h:k<n):(zeros n)[k]! = zS:=by rw [getElem!_pos (zeros n) k (by simpa [zeros] using h)];simp [zeros]
theorem inv_start {code:List Ins} (hc:okA code):InvC code (zeros code.length) (fun _=>False) [⟨0,s0⟩] false:=by
 refine ⟨by simp [zeros],fun y hy => ?_,fun k hk h => ?_,fun k hk h=>zeros_at _ _ hk,fun _ k hk h => ?_,fun _ => .inl (by simp),fun e=>by cases e⟩
 ·simp only [List.mem_singleton] at hy;subst hy;exact .base
 ·rw [zeros_at _ _ hk] at h;cases h
 ·rw [zeros_at _ _ hk] at h;cases h
def shRes (code:List Ins):Option (List Shp):=(goI code (3 * code.length+2) (zeros code.length) [⟨0,s0⟩]).getD none
theorem shRes_goI {code:List Ins} (hc:okA code):goI code (3 * code.length+2) (zeros code.length) [⟨0,s0⟩]=some (shRes code)∧ResC code (shRes code):=by
 have hu:=unk_le (zeros code.length)
 have hz:(zeros code.length).length=code.length:=by simp [zeros]
 obtain ⟨r,h1,h2⟩:=goI_res hc (3 * code.length+2) _ _ (inv_start hc) (by simp only [List.length_cons,List.length_nil];omega)
 unfold shRes
 rw [h1]
 exact ⟨rfl,h2⟩
theorem shRes_goS {code:List Ins} (hc:okA code):goS code (3 * code.length+3) (give code.length ⟨zeros code.length,[],false⟩ ⟨0,s0⟩)=some (shRes code):=by
 have hu:=unk_le (zeros code.length)
 have hz:(zeros code.length).length=code.length:=by simp [zeros]
 obtain ⟨h1,h2,h3⟩:=give_inv hc ⟨zeros code.length,[],false⟩ ⟨0,s0⟩ [] (by simp) (by
  have h:=inv_start hc
  exact ⟨h.len,h.src,h.kn,h.un,fun e k hk1 hk2=>(h.cl e k hk1 hk2).imp (fun h=>h.elim) id,h.st,h.bd⟩)
 simp only [List.length_nil] at h3
 obtain ⟨r,h4,h5⟩:=goS_res hc (3 * code.length+3) _ h1 h2 (by omega)
 rw [h4,h5.uniq (shRes_goI hc).2]
set_option maxRecDepth 20000
def insB (x:Ins):Bool :=
 if x.op=1 then numB x.a else if x.op=2 then decide (0≤x.a) && decide (x.a≤1) else if x.op=4 then decide (1≤x.a) && decide (x.a≤8)
 else if x.op=3∨x.op=5∨x.op=6∨x.op=7∨x.op=8 then decide (0≤x.a) && decide (x.a≤299) else (decide (9≤x.op) && decide (x.op≤12)) && decide (x.a=0)
theorem ins_cases {x:Ins} (h:insB x=true):(x.op=1∨x.op=2∨x.op=3∨x.op=4∨x.op=5∨x.op=6∨x.op=7∨x.op=8∨x.op=9∨x.op=10∨x.op=11∨x.op=12)∧(0≤x.a∧x.a≤10006)∧(x.op=4→1≤x.a∧x.a≤8)∧(3≤x.op∧x.op≤8→x.a≤299):=by
 unfold insB at h
 repeat' split at h
 ·have:=numB_t h;omega
 all_goals (simp only [Bool.and_eq_true,decide_eq_true_eq] at h;omega)
def opB (n:Int):ByteArray:=if n=1 then ⟨#[43]⟩ else if n=2 then ⟨#[45]⟩ else if n=3 then ⟨#[42]⟩ else if n=4 then ⟨#[61]⟩ else if n=5 then ⟨#[60]⟩ else if n=6 then ⟨#[38]⟩ else if n=7 then ⟨#[124]⟩ else ⟨#[33]⟩
def opsL:List ByteArray:=[⟨#[43]⟩,⟨#[45]⟩,⟨#[42]⟩,⟨#[61]⟩,⟨#[60]⟩,⟨#[38]⟩,⟨#[124]⟩,⟨#[33]⟩]
theorem op_pop {a:Int} (h:1≤a∧a≤8):opAr (opB a)=if a=8 then 1 else 2:=by
 rcases (show a=1∨a=2∨a=3∨a=4∨a=5∨a=6∨a=7∨a=8 by omega) with rfl | rfl | rfl | rfl | rfl | rfl | rfl | rfl <;> decide
theorem con_opsI:Con Tryz.prog 215 [] [.one (strsD opsL)]:=by
 refine con_run Tryz.func215 rfl rfl (by simp [Tryz.ntmps215]) ?_
 exact byP (fc opsL.eq_1 (fc Tryz.ntmps215 Tryz.results215)) True.intro
theorem con_OpNameI (n:Int) (h:1≤n∧n≤8):Con Tryz.prog 165 [.one (.int n)] [.one (.str (opB n))]:=by
 have hO:=con_opsI
 have hW:=con_within n 1 8
 rcases (show n=1∨n=2∨n=3∨n=4∨n=5∨n=6∨n=7∨n=8 by omega) with rfl | rfl | rfl | rfl | rfl | rfl | rfl | rfl
 all_goals
  refine con_run Tryz.func165 rfl rfl (by simp [Tryz.ntmps165]) ?_
  refine byP Tryz.ntmps165 ?_
  refine sw_call (hW) rfl (aAs_ok ?_) ?_ (sw_run 200 _ _ _ ?_)
  ·exact byQ True.intro
  ·simp only [okR]
  refine byQ ?_
  refine sw_call (hO) rfl (aAs_ok ?_) ?_ (sw_run 200 _ _ _ ?_)
  ·simp only [aAs,List.map,List.append_nil]
  ·simp only [okR]
  simp only [push_cast,↓reduceIte,Nat.reduceLT,Nat.reduceAdd,Nat.reduceEqDiff,reduceCtorEq,Int.reduceLE,Int.reduceEq,Int.reduceSub,Int.reduceToNat,opsL,rowAt,opB,Tryz.results165]
  exact ⟨by unfold inI;omega,by omega⟩
theorem con_opsS:Con Tryz.prog 220 [] [.one (strsD opsL)]:=by
 refine con_run Tryz.func220 rfl rfl (by simp [Tryz.ntmps220]) ?_
 exact byP (fc opsL.eq_1 (fc Tryz.ntmps220 Tryz.results220)) True.intro
theorem con_OpNameS (n:Int) (h:1≤n∧n≤8):Con Tryz.prog 226 [.one (.int n)] [.one (.str (opB n))]:=by
 have hO:=con_opsS
 have hW:=con_l1In n 1 8
 rcases (show n=1∨n=2∨n=3∨n=4∨n=5∨n=6∨n=7∨n=8 by omega) with rfl | rfl | rfl | rfl | rfl | rfl | rfl | rfl
 all_goals
  refine con_run Tryz.func226 rfl rfl (by simp [Tryz.ntmps226]) ?_
  refine byP Tryz.ntmps226 ?_
  refine sw_call (hW) rfl (aAs_ok ?_) ?_ (sw_run 200 _ _ _ ?_)
  ·exact byQ True.intro
  ·simp only [okR]
  refine byQ ?_
  refine sw_call (hO) rfl (aAs_ok ?_) ?_ (sw_run 200 _ _ _ ?_)
  ·simp only [aAs,List.map,List.append_nil]
  ·simp only [okR]
  simp only [push_cast,↓reduceIte,Nat.reduceLT,Nat.reduceAdd,Nat.reduceEqDiff,reduceCtorEq,Int.reduceLE,Int.reduceEq,Int.reduceSub,Int.reduceToNat,opsL,rowAt,opB,Tryz.results226]
  exact ⟨by unfold inI;omega,by omega⟩
theorem con_IsInstrI (x:Ins):Con Tryz.prog 150 [.ag (insC x)] [.one (.bool (insB x))]:=by
 obtain ⟨op,a⟩:=x
 by_cases hop:1≤op∧op≤8
 ·rcases (show op=1∨op=2∨op=3∨op=4∨op=5∨op=6∨op=7∨op=8 by omega) with rfl | rfl | rfl | rfl | rfl | rfl | rfl | rfl
  ·refine con_run Tryz.func150 rfl rfl (by simp [Tryz.ntmps150]) ?_
   refine byP (fc insC.eq_1 Tryz.ntmps150) ?_
   refine sw_call (con_isNumber a) rfl (aAs_ok ?_) ?_ (sw_run 200 _ _ _ ?_)
   ·exact byQ True.intro
   ·simp only [okR]
   exact byP (fc insB.eq_1 (fc numB.eq_1 Tryz.results150)) True.intro
  ·refine con_run Tryz.func150 rfl rfl (by simp [Tryz.ntmps150]) ?_
   refine byP (fc insC.eq_1 Tryz.ntmps150) ?_
   refine sw_call (con_within a 0 1) rfl (aAs_ok ?_) ?_ (sw_run 200 _ _ _ ?_)
   ·exact byQ True.intro
   ·simp only [okR]
   exact byP (fc insB.eq_1 Tryz.results150) True.intro
  ·refine con_run Tryz.func150 rfl rfl (by simp [Tryz.ntmps150]) ?_
   refine byP (fc insC.eq_1 Tryz.ntmps150) ?_
   refine sw_call (con_within a 0 299) rfl (aAs_ok ?_) ?_ (sw_run 200 _ _ _ ?_)
   ·exact byQ True.intro
   ·simp only [okR]
   exact byP (fc insB.eq_1 Tryz.results150) True.intro
  ·refine con_run Tryz.func150 rfl rfl (by simp [Tryz.ntmps150]) ?_
   refine byP (fc insC.eq_1 Tryz.ntmps150) ?_
   refine sw_call (con_within a 1 8) rfl (aAs_ok ?_) ?_ (sw_run 200 _ _ _ ?_)
   ·exact byQ True.intro
   ·simp only [okR]
   exact byP (fc insB.eq_1 Tryz.results150) True.intro
  ·refine con_run Tryz.func150 rfl rfl (by simp [Tryz.ntmps150]) ?_
   refine byP (fc insC.eq_1 Tryz.ntmps150) ?_
   refine sw_call (con_within a 0 299) rfl (aAs_ok ?_) ?_ (sw_run 200 _ _ _ ?_)
   ·exact byQ True.intro
   ·simp only [okR]
   exact byP (fc insB.eq_1 Tryz.results150) True.intro
  ·refine con_run Tryz.func150 rfl rfl (by simp [Tryz.ntmps150]) ?_
   refine byP (fc insC.eq_1 Tryz.ntmps150) ?_
   refine sw_call (con_within a 0 299) rfl (aAs_ok ?_) ?_ (sw_run 200 _ _ _ ?_)
   ·exact byQ True.intro
   ·simp only [okR]
   exact byP (fc insB.eq_1 Tryz.results150) True.intro
  ·refine con_run Tryz.func150 rfl rfl (by simp [Tryz.ntmps150]) ?_
   refine byP (fc insC.eq_1 Tryz.ntmps150) ?_
   refine sw_call (con_within a 0 299) rfl (aAs_ok ?_) ?_ (sw_run 200 _ _ _ ?_)
   ·exact byQ True.intro
   ·simp only [okR]
   exact byP (fc insB.eq_1 Tryz.results150) True.intro
  ·refine con_run Tryz.func150 rfl rfl (by simp [Tryz.ntmps150]) ?_
   refine byP (fc insC.eq_1 Tryz.ntmps150) ?_
   refine sw_call (con_within a 0 299) rfl (aAs_ok ?_) ?_ (sw_run 200 _ _ _ ?_)
   ·exact byQ True.intro
   ·simp only [okR]
   exact byP (fc insB.eq_1 Tryz.results150) True.intro
 ·have h1:(op=1)=False:=eq_false (by omega)
  have h2:(op=2)=False:=eq_false (by omega)
  have h3:(op=3)=False:=eq_false (by omega)
  have h4:(op=4)=False:=eq_false (by omega)
  have h5:(op=5)=False:=eq_false (by omega)
  have h6:(op=6)=False:=eq_false (by omega)
  have h7:(op=7)=False:=eq_false (by omega)
  have h8:(op=8)=False:=eq_false (by omega)
  rcases pc (a=0) with ha | ha
  all_goals
   rcases pc (9≤op) with h9 | h9
  all_goals
   rcases pc (op≤12) with h12 | h12
  all_goals
   refine con_run Tryz.func150 rfl rfl (by simp [Tryz.ntmps150]) ?_
   refine byP (fc h1 (fc h2 (fc h3 (fc h4 (fc h5 (fc h6 (fc h7 (fc h8 (fc insC.eq_1 Tryz.ntmps150))))))))) ?_
   refine sw_call (con_within op 9 12) rfl (aAs_ok ?_) ?_ (sw_run 200 _ _ _ ?_)
   ·exact byQ True.intro
   ·simp only [okR]
   exact byP (fc h1 (fc h2 (fc h3 (fc h4 (fc h5 (fc h6 (fc h7 (fc h8 (fc h9 (fc h12 (fc ha (fc insB.eq_1 Tryz.results150)))))))))))) True.intro
theorem con_IsInstrS (x:Ins):Con Tryz.prog 15 [.ag (insC x)] [.one (.bool (insB x))]:=by
 obtain ⟨op,a⟩:=x
 by_cases hop:1≤op∧op≤8
 ·rcases (show op=1∨op=2∨op=3∨op=4∨op=5∨op=6∨op=7∨op=8 by omega) with rfl | rfl | rfl | rfl | rfl | rfl | rfl | rfl
  ·refine con_run Tryz.func15 rfl rfl (by simp [Tryz.ntmps15]) ?_
   refine byP (fc insC.eq_1 Tryz.ntmps15) ?_
   refine sw_call (con_l1In a 0 10006) rfl (aAs_ok ?_) ?_ (sw_run 200 _ _ _ ?_)
   ·exact byQ True.intro
   ·simp only [okR]
   exact byP (fc insB.eq_1 (fc numB.eq_1 Tryz.results15)) True.intro
  ·refine con_run Tryz.func15 rfl rfl (by simp [Tryz.ntmps15]) ?_
   refine byP (fc insC.eq_1 Tryz.ntmps15) ?_
   refine sw_call (con_l1In a 0 1) rfl (aAs_ok ?_) ?_ (sw_run 200 _ _ _ ?_)
   ·exact byQ True.intro
   ·simp only [okR]
   exact byP (fc insB.eq_1 Tryz.results15) True.intro
  ·refine con_run Tryz.func15 rfl rfl (by simp [Tryz.ntmps15]) ?_
   refine byP (fc insC.eq_1 Tryz.ntmps15) ?_
   refine sw_call (con_l1In a 0 299) rfl (aAs_ok ?_) ?_ (sw_run 200 _ _ _ ?_)
   ·exact byQ True.intro
   ·simp only [okR]
   exact byP (fc insB.eq_1 Tryz.results15) True.intro
  ·refine con_run Tryz.func15 rfl rfl (by simp [Tryz.ntmps15]) ?_
   refine byP (fc insC.eq_1 Tryz.ntmps15) ?_
   refine sw_call (con_l1In a 1 8) rfl (aAs_ok ?_) ?_ (sw_run 200 _ _ _ ?_)
   ·exact byQ True.intro
   ·simp only [okR]
   exact byP (fc insB.eq_1 Tryz.results15) True.intro
  ·refine con_run Tryz.func15 rfl rfl (by simp [Tryz.ntmps15]) ?_
   refine byP (fc insC.eq_1 Tryz.ntmps15) ?_
   refine sw_call (con_l1In a 0 299) rfl (aAs_ok ?_) ?_ (sw_run 200 _ _ _ ?_)
   ·exact byQ True.intro
   ·simp only [okR]
   exact byP (fc insB.eq_1 Tryz.results15) True.intro
  ·refine con_run Tryz.func15 rfl rfl (by simp [Tryz.ntmps15]) ?_
   refine byP (fc insC.eq_1 Tryz.ntmps15) ?_
   refine sw_call (con_l1In a 0 299) rfl (aAs_ok ?_) ?_ (sw_run 200 _ _ _ ?_)
   ·exact byQ True.intro
   ·simp only [okR]
   exact byP (fc insB.eq_1 Tryz.results15) True.intro
  ·refine con_run Tryz.func15 rfl rfl (by simp [Tryz.ntmps15]) ?_
   refine byP (fc insC.eq_1 Tryz.ntmps15) ?_
   refine sw_call (con_l1In a 0 299) rfl (aAs_ok ?_) ?_ (sw_run 200 _ _ _ ?_)
   ·exact byQ True.intro
   ·simp only [okR]
   exact byP (fc insB.eq_1 Tryz.results15) True.intro
  ·refine con_run Tryz.func15 rfl rfl (by simp [Tryz.ntmps15]) ?_
   refine byP (fc insC.eq_1 Tryz.ntmps15) ?_
   refine sw_call (con_l1In a 0 299) rfl (aAs_ok ?_) ?_ (sw_run 200 _ _ _ ?_)
   ·exact byQ True.intro
   ·simp only [okR]
   exact byP (fc insB.eq_1 Tryz.results15) True.intro
 ·have h1:(op=1)=False:=eq_false (by omega)
  have h2:(op=2)=False:=eq_false (by omega)
  have h3:(op=3)=False:=eq_false (by omega)
  have h4:(op=4)=False:=eq_false (by omega)
  have h5:(op=5)=False:=eq_false (by omega)
  have h6:(op=6)=False:=eq_false (by omega)
  have h7:(op=7)=False:=eq_false (by omega)
  have h8:(op=8)=False:=eq_false (by omega)
  rcases pc (a=0) with ha | ha
  all_goals
   rcases pc (9≤op) with h9 | h9
  all_goals
   rcases pc (op≤12) with h12 | h12
  all_goals
   refine con_run Tryz.func15 rfl rfl (by simp [Tryz.ntmps15]) ?_
   refine byP (fc h1 (fc h2 (fc h3 (fc h4 (fc h5 (fc h6 (fc h7 (fc h8 (fc insC.eq_1 Tryz.ntmps15))))))))) ?_
   refine sw_call (con_l1In op 9 12) rfl (aAs_ok ?_) ?_ (sw_run 200 _ _ _ ?_)
   ·exact byQ True.intro
   ·simp only [okR]
   exact byP (fc h1 (fc h2 (fc h3 (fc h4 (fc h5 (fc h6 (fc h7 (fc h8 (fc h9 (fc h12 (fc ha (fc insB.eq_1 Tryz.results15)))))))))))) True.intro
end Go.Proofs.YtaidalilfmjfgaaGreat
