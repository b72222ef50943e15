import Derived.Test.YtaidalilfmjfgaaGreatLp
import Derived.Lib.AppendStr
import Derived.Laws.IdiomStrings
import Derived.Test.YtaidalilfmjfgaaGreatNm
import Derived.Lib.Join
import Derived.Lib.ItoaNum
import Derived.Lib.SmallJoins
import Derived.Lib.AtoiAllCases
namespace Go.Proofs.YtaidalilfmjfgaaGreat
open Go.Proofs.Tryz
open Go.RowKit
set_option linter.unusedVariables false
set_option linter.unusedSimpArgs false
def jn (xs:List ByteArray) (sep:ByteArray):Nat→List UInt8
 | 0=>[]
 | k+1=>if k=0 then xs[0]!.data.toList else jn xs sep k++(sep.data.toList++xs[k]!.data.toList)
def bcL (l:List UInt8):List Value:=l.map fun b=>Value.int .u8 b.toNat
theorem Uf (w:World) (B:Nat) (s:ByteArray):aA3 w B (.str s) (.string s):=⟨[],by unfold Ch;exact ⟨rfl,rfl⟩,by simp,by simp⟩
theorem NE (l r:List UInt8):bcL (l++r)=bcL l++bcL r:=by simp [bcL]
theorem Mt (s:ByteArray):bcL s.data.toList=Lib.strCells s:=rfl
theorem Kv {w:World} {B:Nat} {T:TypeId} {sz n:Nat} {v:Value} {vs:List Value} (h:w.ownsRow B T sz v n vs) {k:Nat} (hk:v.ownBlock=some k):B≤k:=by
 rcases h.2 with ⟨rfl,_⟩ | ⟨g,cap,cur,rfl,hg,_⟩
 ·cases hk
 ·simp only [Value.ownBlock,Option.some.injEq] at hk;omega
theorem UH {P:Program} {w:World} {B:Nat} {src dst e:TypeId} {v:Value} {l:List UInt8} (hs:P.underlying src=some (.slice e)) (he:P.underlying e=some (.int .u8)) (hd:P.underlying dst=some .string) (h:w.ownsRow B e 1 v l.length (bcL l)):(convert src dst v).run P w = .ok (.string ⟨l.toArray⟩) w:=by
 rcases h.2 with ⟨rfl,hn⟩ | ⟨g,cap,cur,rfl,hg,hc,h1,h2,h3,h4⟩
 ·obtain rfl:l=[]:=List.eq_nil_of_length_eq_zero hn
  exact run_convert_bytes_nil w src e hs he 0 0 dst hd
 ·refine run_convert_bytes_back w src dst e ⟨g,0,none⟩ cap l hs he hd (fun j hj => ?_)
  rw [DC,Nat.zero_add,cell_of_row w g j cur e (0,0) hc]
  have h5:(cur.toList.take (l.length * 1))[j]? = (bcL l)[j]? := by rw [h4]
  rw [List.getElem?_take_of_lt (by omega)] at h5
  rw [← Array.getElem?_toList,h5,bcL,List.getElem?_map,List.getElem?_eq_getElem hj]
  rfl
set_option maxRecDepth 100000 in
set_option maxHeartbeats 4000000 in
theorem TP (xs:List ByteArray) (sep:ByteArray) (v:Value) (w:World) (hv:EM w w.heap.size (Bl xs) v) (hn:xs.length≤1048576) (hlen:∀ k,k≤xs.length→(jn xs sep k).length≤1000000000) :
  Calls prog 294 #[v,.string sep] w fun e w'=>e = .returned (.string ⟨(jn xs sep xs.length).toArray⟩)∧Below w.heap.size w w':=by
 obtain ⟨a,cap,rfl,hl,hm,hc⟩:=hv.strs
 obtain ⟨i,hi,hz0,hz1,hz2⟩:=info_parts (P:=prog) (e:=5) (z:=.int .u8 0) (size:=1) (bytes:=1) (by kernel_rfl)
 go_enter func294,ntmps294
 go_wp2
 go_loopw [5,6] (fun out i wr=>∃ k:Nat,k≤xs.length∧i = .int .i64 k∧(∃ l,Hid (l=jn xs sep k)∧wr.ownsRow w.heap.size 5 1 out l.length (bcL l))∧Below w.heap.size w wr) (fun _ i _=>xs.length-(intOf i).toNat)
 case atStart =>
  refine ⟨0,Nat.zero_le _,rfl,⟨[],rfl, ?_⟩, ?_⟩
  ·exact ⟨rfl,.inr ⟨w.heap.size,0,#[],rfl,Nat.le_refl _,heap_alloc_new w _,Nat.le_refl _,Nat.zero_le _,rfl,rfl⟩⟩
  ·exact (Below.refl _ _).alloc (Nat.le_refl _) _
 case round =>
  obtain ⟨k,hk,rfl,⟨l,hl,hown⟩,hb⟩:=hrel
  by_cases hlt:k<xs.length
  ·obtain ⟨b,off,rfl,hbS,hcell⟩:=hc k hlt
   clear hc
   have hcr:wr.cell? ⟨b,off+k,none⟩=some (.string xs[k]):=(hb.cell (p:=⟨b,off+k,none⟩) (World.block_lt_of_cell? w _ hcell)).trans hcell
   have HC0:=Lib.hid hcell
   clear hcell
   have hi1:(k:Int)<(xs.length:Int):=by omega
   have hbs:=hb.size
   have hlk:=hlen k hk
   rw [← hl.out] at hlk
   by_cases hk0:k=0
   ·have hki:¬ (0:Int)<(k:Int):=by omega
    have hj:jn xs sep (k+1)=l++xs[k].data.toList:=by subst hk0;rw [jn,if_pos rfl,hl.out,jn,getElem!_pos xs 0 hlt];rfl
    have hjl:=hlen (k+1) (by omega)
    rw [hj,List.length_append] at hjl
    have HJ:=Lib.hid hj
    clear hj hk0
    go_wp2_with (at_builtin;refine Lib.wpList_append_own_string _ rfl _ _ 22 9 rfl w.heap.size 5 i Tryz.underlying22 Tryz.underlying9 hi hz0 hz1 hz2 _ _ _ rfl hown xs[k] rfl ?c3 ?c4 ?c5 ?_)
    case c3=>have hsz:xs[k].size=xs[k].data.toList.length:=(by simp);rw [hsz];unfold maxLen;omega
    case c4=>have hsz:xs[k].size=xs[k].data.toList.length:=(by simp);rw [hsz];omega
    intro v1 w1 hown1 hg1 _
    have hb1:Below w.heap.size w w1:=hb.grown hg1 hbs (fun q hq=>Kv hown hq)
    have H1:=Lib.hid hown1
    have HZ:=Lib.hid (show xs[k].size=xs[k].data.toList.length by simp)
    clear hown1 hjl hlk hlen hown hg1 hcr hbs
    go_wp2
    go_roundw
    case rel=>exact ⟨k+1,by omega,by go_num,⟨_,Lib.hid HJ.out.symm,by rw [List.length_append,← HZ.out,NE,Mt];exact H1.out⟩,hb1⟩
    case measure=>simp [intOf];omega
   ·have hki:(0:Int)<(k:Int):=by omega
    have hj:jn xs sep (k+1)=(l++sep.data.toList)++xs[k].data.toList:=by rw [jn,if_neg hk0,hl.out,List.append_assoc,getElem!_pos xs k hlt]
    have hjl:=hlen (k+1) (by omega)
    rw [hj,List.length_append,List.length_append] at hjl
    have HJ:=Lib.hid hj
    clear hj hk0
    go_wp2_with (at_builtin;refine Lib.wpList_append_own_string _ rfl _ _ 22 9 rfl w.heap.size 5 i Tryz.underlying22 Tryz.underlying9 hi hz0 hz1 hz2 _ _ _ rfl hown sep rfl ?c3 ?c4 ?c5 ?_)
    case c3=>have hss:sep.size=sep.data.toList.length:=(by simp);rw [hss];unfold maxLen;omega
    case c4=>have hss:sep.size=sep.data.toList.length:=(by simp);rw [hss];omega
    intro v1 w1 hown1 hg1 _
    have hb1:Below w.heap.size w w1:=hb.grown hg1 hbs (fun q hq=>Kv hown hq)
    have hbs1:=hb1.size
    have hcr1:w1.cell? ⟨b,off+k,none⟩=some (.string xs[k]):=(hb1.cell (p:=⟨b,off+k,none⟩) (World.block_lt_of_cell? w _ HC0.out)).trans HC0.out
    clear hcr hown hg1 hb
    go_wp2_with (at_builtin;refine Lib.wpList_append_own_string _ rfl _ _ 22 9 rfl w.heap.size 5 i Tryz.underlying22 Tryz.underlying9 hi hz0 hz1 hz2 _ _ _ rfl hown1 xs[k] rfl ?c6 ?c7 ?c8 ?_)
    case c6=>have hsz:xs[k].size=xs[k].data.toList.length:=(by simp);have hss:sep.size=sep.data.toList.length:=(by simp);rw [hsz,hss];unfold maxLen;omega
    case c7=>have hsz:xs[k].size=xs[k].data.toList.length:=(by simp);have hss:sep.size=sep.data.toList.length:=(by simp);rw [hsz,hss];omega
    case c8=>exact hbs1
    intro v2 w2 hown2 hg2 _
    have hb2:Below w.heap.size w w2:=hb1.grown hg2 hbs1 (fun q hq=>Kv hown1 hq)
    have H1:=Lib.hid hown2
    have HZ:=Lib.hid (show xs[k].size=xs[k].data.toList.length by simp)
    have HS:=Lib.hid (show sep.size=sep.data.toList.length by simp)
    clear hown1 hown2 hjl hlk hlen hg2 hcr1 hbs hbs1
    go_wp2
    go_roundw
    case rel=>exact ⟨k+1,by omega,by go_num,⟨_,Lib.hid HJ.out.symm,by rw [List.length_append,List.length_append,← HZ.out,← HS.out,NE,NE,Mt,Mt,List.append_assoc];exact H1.out⟩,hb2⟩
    case measure=>simp [intOf];omega
  ·obtain rfl:k=xs.length:=by omega
   have hi1:¬ ((xs.length:Nat):Int)<((xs.length:Nat):Int):=by omega
   clear hc
   have hcv:=UH (P:=prog) (src:=22) (dst:=9) (by kernel_rfl) (by kernel_rfl) (by kernel_rfl) hown
   go_wp2
   go_ret
   exact ⟨by rw [← hl.out];rfl,hb⟩
set_option maxRecDepth 20000
def WC (xs:List ByteArray) (sep:ByteArray):ByteArray:=⟨(jn xs sep xs.length).toArray⟩
theorem Py {w:World} {d:D} {s:ByteArray} {us:List Value} (h:BB w [.one d,.one (.str s)] us):∃ v,us=[v,.string s]∧EM w w.heap.size d v:=by
 obtain ⟨v,r,rfl,h1,h2⟩:=WY h
 obtain ⟨v2,r2,rfl,h3,h4⟩:=WY h2
 obtain rfl:=Yu h4
 have h5:=OE h3
 unfold EM at h5
 exact ⟨v,by rw [h5],OE h1⟩
theorem TH (xs:List ByteArray) (sep:ByteArray) (hn:xs.length≤1048576) (hlen:∀ k,k≤xs.length→(jn xs sep k).length≤1000000000):Con prog 294 [.one (Bl xs),.one (.str sep)] [.one (.str (WC xs sep))]:=by
 refine TA ⟨_,rfl,by kernel_rfl,by kernel_rfl⟩ ?_
 intro w us hu
 obtain ⟨v,rfl,hv⟩:=Py hu
 refine (TP xs sep v w hv hn hlen).mono ?_
 rintro e w' ⟨rfl,hw⟩
 exact ⟨_,rfl,Uf _ _ _,hw⟩
def IW (n:Nat):ByteArray:=⟨(Lib.decDigits n).toArray⟩
theorem Sx:IW 0=⟨#[48]⟩:=by rw [IW,Lib.decDigits_one (by omega)];rfl
theorem TG (m:Nat) (h:0<m) (out:List UInt8):(if m=0 then [] else Lib.decDigits m)++out=(if m / 10=0 then [] else Lib.decDigits (m / 10))++(UInt8.ofNat (48+m % 10) :: out):=by
 rw [if_neg (by omega)]
 by_cases h1:m<10
 ·rw [Lib.decDigits_one h1,if_pos (by omega),Nat.mod_eq_of_lt h1];rfl
 ·rw [Lib.decDigits,dif_neg h1,if_neg (by omega),List.append_assoc];rfl
set_option maxRecDepth 100000 in
set_option maxHeartbeats 4000000 in
theorem Jc (n:Nat) (w:World) (hn:n≤1000000000) :
  Calls prog 286 #[.int .i64 n] w fun e w'=>e = .returned (.string (IW n))∧Below w.heap.size w w':=by
 by_cases h0:n=0
 ·subst h0
  go_enter func286,ntmps286
  go_wp2
  go_ret
  exact ⟨by rw [Sx];rfl,Below.refl _ _⟩
 have h0i:¬ (n:Int)=0:=by omega
 have hlt:¬ (n:Int)<0:=by omega
 go_enter func286,ntmps286
 go_wp2
 go_loopw [0,4] (fun i out wr=>∃ (m:Nat) (l:List UInt8),m≤n∧i = .int .i64 m∧out = .string ⟨l.toArray⟩∧Hid (Lib.decDigits n=(if m=0 then [] else Lib.decDigits m)++l)∧l.length≤n-m∧Below w.heap.size w wr) (fun i _ _=>(intOf i).toNat)
 case atStart =>
  refine ⟨n,[],Nat.le_refl _,rfl,rfl, ?_,by simp,Below.refl _ _⟩
  exact Lib.hid (by rw [if_neg h0,List.append_nil])
 case round =>
  obtain ⟨m,l,hm,rfl,rfl,hl,hll,hb⟩:=hrel
  by_cases hz:m=0
  ·subst hz
   have e:=hl.out
   rw [if_pos rfl,List.nil_append] at e
   clear hl
   go_wp2
   go_ret
   exact ⟨by rw [IW,e];rfl,hb⟩
  ·have hzi:¬ (m:Int)=0:=by omega
   have hcv:(convert 22 9 (.slice (some ⟨wr.heap.size,0,none⟩) 1 1)).run prog (wr.alloc (.cells #[.int .u8 (48+(m:Int) % 10)] 5)) = .ok (.string ⟨[UInt8.ofNat (48+m % 10)].toArray⟩) (wr.alloc (.cells #[.int .u8 (48+(m:Int) % 10)] 5)):=by
    refine run_convert_bytes_back (P:=prog) _ 22 9 5 ⟨wr.heap.size,0,none⟩ 1 [UInt8.ofNat (48+m % 10)] (by kernel_rfl) (by kernel_rfl) (by kernel_rfl) (fun j hj => ?_)
    obtain rfl:j=0:=by simpa using hj
    rw [DC,Nat.add_zero,World.cell?_alloc_at _ _ _ _ rfl]
    have h256:(48+m % 10) % 256=48+m % 10:=by omega
    simp [UInt8.toNat_ofNat',h256]
   have hbs:=hb.size
   have hst:=TG m (by omega) l
   go_wp2
   refine ⟨⟨m / 10,UInt8.ofNat (48+m % 10) :: l,by omega,by simp, ?_,Lib.hid (hl.out.trans hst), ?_,hb.alloc hbs _⟩, ?_⟩
   ·have e1:(48:UInt8)+UInt8.ofNat (m % 10)=UInt8.ofNat (48+m % 10):=by simp [UInt8.ofNat_add]
    rw [e1]
    congr 1
   ·rw [List.length_cons];omega
   ·simp only [intOf];omega
theorem Xl:∀ (k n:Nat),n<10 ^ (k+1)→(Lib.decDigits n).length≤k+1
 | 0,n,h=>by rw [Lib.decDigits_one (by simpa using h)];simp
 | k+1,n,h=>by
  by_cases h1:n<10
  ·rw [Lib.decDigits_one h1];simp
  ·rw [Lib.decDigits,dif_neg h1,List.length_append]
   have:=Xl k (n / 10) (by rw [Nat.pow_succ] at h;omega)
   simp only [List.length_cons,List.length_nil];omega
theorem Kj (n:Nat) (h:n≤1000000):(IW n).size≤20:=by
 have h1:=Xl 9 n (by omega)
 have h2:(IW n).size=(Lib.decDigits n).length:=by unfold IW;rfl
 omega
theorem Kq (n:Int) (h:0≤n∧n≤1000000):Con prog 286 [.one (.int n)] [.one (.str (IW n.toNat))]:=by
 refine TA ⟨_,rfl,by kernel_rfl,by kernel_rfl⟩ ?_
 intro w us hu
 obtain ⟨v,r,rfl,h1,h2⟩:=WY hu
 obtain rfl:=Yu h2
 obtain rfl:=OO h1
 obtain ⟨m,rfl⟩:∃ m:Nat,n=m:=⟨n.toNat,by omega⟩
 refine (Jc m w (by omega)).mono ?_
 rintro e w' ⟨rfl,hw⟩
 exact ⟨_,rfl,Uf _ _ _,hw⟩
theorem LX (s:ByteArray):s.data.toList.length=s.size:=Array.length_toList
def MR (o:Option Nat) (c:UInt8):Option Nat:=o.bind fun n=>if 48≤c.toNat∧c.toNat≤57 then some (10 * n+(c.toNat-48)) else none
def dvL (l:List UInt8):Option Nat:=l.foldl MR (some 0)
theorem Po (l:List UInt8) (c:UInt8):dvL (l++[c])=MR (dvL l) c:=by rw [dvL,List.foldl_append];rfl
theorem Ji:∀ l:List UInt8,l.foldl MR none=none
 | []=>rfl
 | _ :: r=>Ji r
theorem ZB {a b:List UInt8} (h:dvL a=none):dvL (a++b)=none:=by
 rw [dvL,List.foldl_append,← dvL,h];exact Ji b
def XG (n:Int):ByteArray:=if n<0 then ⟨#[45]⟩++IW n.natAbs else IW n.toNat
def XL (s:ByteArray):Bool:=decide (0<s.size) && decide (Bb s 0=45)
def RO (s:ByteArray):ByteArray:=if XL s=true then s.extract 1 s.size else s
def rdV (s:ByteArray) (n:Nat):Int:=if XL s=true then -(n:Int) else n
def rdP (s:ByteArray):Int × Bool :=
 if (RO s).size<1∨6<(RO s).size then (0,false) else
 match dvL (RO s).data.toList with
 | none=>(0,false)
 | some n=>if XG (rdV s n)=s then (rdV s n,true) else (0,false)
def nsP (s:ByteArray):Int × Bool:=if (rdP s).2=false∨(rdP s).1<0 then (0,false) else rdP s
theorem aB1:∀ (k:Nat) (l:List UInt8),l.length=k→∀ n,dvL l=some n→n<10 ^ k:=by
 intro k
 induction k with
 | zero =>
  intro l h n e
  rw [List.eq_nil_of_length_eq_zero h] at e
  injection e with e
  rw [← e];decide
 | succ k ih =>
  intro l h n e
  have hne:l≠[]:=by intro h'; rw [h'] at h;cases h
  obtain ⟨a,c,rfl⟩:∃ a c,l=a++[c]:=⟨_,_,(List.dropLast_concat_getLast hne).symm⟩
  rw [Po] at e
  cases hd:dvL a with
  | none=>rw [hd] at e;cases e
  | some m =>
   have hm:=ih a (by simpa using h) m hd
   rw [hd,MR,Option.bind_some] at e
   by_cases hc:48≤c.toNat∧c.toNat≤57
   ·rw [if_pos hc] at e
    injection e with e
    rw [Nat.pow_succ];omega
   ·rw [if_neg hc] at e;cases e
theorem RE (t:ByteArray) (k:Nat) (hk:k<t.size):dvL (t.data.toList.take (k+1))=MR (dvL (t.data.toList.take k)) (t.data.getD k 0):=by
 rw [List.take_add_one,List.getElem?_eq_getElem (show k<t.data.toList.length by rw [LX];exact hk),Option.toList,Po]
 rw [Array.getD_eq_getD_getElem?,Array.getElem?_eq_getElem (show k<t.data.size from hk),Option.getD_some,Array.getElem_toList]
theorem aBO (t:ByteArray) (k n:Nat) (hk:k<t.size) (h:dvL (t.data.toList.take k)=some n) (h1:48≤Bb t k) (h2:Bb t k≤57):dvL (t.data.toList.take (k+1))=some (10 * n+((Bb t k).toNat-48)):=by
 unfold Bb at *
 rw [RE t k hk,h,MR,Option.bind_some,if_pos (by omega)]
 congr 1
theorem XX (t:ByteArray) (k n:Nat) (hk:k<t.size) (h:dvL (t.data.toList.take k)=some n) (hb:Bb t k<48∨57<Bb t k):dvL t.data.toList=none:=by
 unfold Bb at hb
 rw [← List.take_append_drop (k+1) t.data.toList]
 refine ZB ?_
 rw [RE t k hk,h,MR,Option.bind_some,if_neg (by omega)]
theorem SQ (W:World) (x:Int):(convert 22 9 (.slice (some ⟨W.heap.size,0,none⟩) 1 1)).run prog (W.alloc (.cells #[.int .u8 x] 5)) =
  .ok (.string ⟨#[UInt8.ofNat x.toNat]⟩) (W.alloc (.cells #[.int .u8 x] 5)):=by
 rw [run_convert_bytes_string _ 22 9 5 _ 1 1 Tryz.underlying22 Tryz.underlying5 Tryz.underlying9]
 rw [run_bytesToString _ _ 1 1 [x] (by simp [loadCells,go_sem])]
 rfl
set_option maxRecDepth 100000 in
set_option maxHeartbeats 4000000 in
theorem Mz (n:Nat) (w:World) (h0:n≠0) (hn:n≤1000000) :
  Calls prog 286 #[.int .i64 (-(n:Int))] w fun e w'=>e = .returned (.string (⟨#[45]⟩++IW n))∧Below w.heap.size w w':=by
 have h0i:¬ -(n:Int)=0:=by omega
 have hlt : -(n:Int)<0:=by omega
 go_enter func286,ntmps286
 go_wp2
 go_loopw [0,4] (fun i out wr=>∃ (m:Nat) (l:List UInt8),m≤n∧i = .int .i64 (-(m:Int))∧out = .string ⟨l.toArray⟩∧Hid (Lib.decDigits n=(if m=0 then [] else Lib.decDigits m)++l)∧l.length≤n-m∧Below w.heap.size w wr) (fun i _ _=>(intOf i).natAbs)
 case atStart =>
  refine ⟨n,[],Nat.le_refl _,rfl,rfl, ?_,by simp,Below.refl _ _⟩
  exact Lib.hid (by rw [if_neg h0,List.append_nil])
 case round =>
  obtain ⟨m,l,hm,rfl,rfl,hl,hll,hb⟩:=hrel
  by_cases hz:m=0
  ·subst hz
   have e:=hl.out
   rw [if_pos rfl,List.nil_append] at e
   clear hl
   go_wp2
   go_ret
   exact ⟨by rw [IW,e];rfl,hb⟩
  ·have hzi:¬ -(m:Int)=0:=by omega
   have hcv:=SQ
   have hbs:=hb.size
   have hst:=TG m (by omega) l
   have htm:(-(m:Int)).tmod 10 = -((m % 10:Nat):Int):=by rw [Int.neg_tmod];rfl
   have htd:(-(m:Int)).tdiv 10 = -((m / 10:Nat):Int):=by rw [Int.neg_tdiv];rfl
   by_cases hd:m % 10=0
   ·go_wp2
    refine ⟨⟨m / 10,UInt8.ofNat (48+m % 10) :: l,by omega,by congr 1, ?_,Lib.hid (hl.out.trans hst), ?_,hb.alloc hbs _⟩, ?_⟩
    ·rw [hd]
     congr 1
    ·rw [List.length_cons];omega
    ·simp only [intOf];omega
   ·have hneg:((-((m % 10:Nat):Int))<0):=by omega
    have hsub:(0 - -((m % 10:Nat):Int))=((m % 10:Nat):Int):=by omega
    go_wp2
    refine ⟨⟨m / 10,UInt8.ofNat (48+m % 10) :: l,by omega,by congr 1, ?_,Lib.hid (hl.out.trans hst), ?_,hb.alloc hbs _⟩, ?_⟩
    ·rw [show (48:UInt8)+UInt8.ofNat (m % 10)=UInt8.ofNat (48+m % 10) by simp [UInt8.ofNat_add]]
     congr 1
    ·rw [List.length_cons];omega
    ·simp only [intOf];omega
theorem Ow (n:Int) (h : -1000000≤n∧n≤1000000):Con prog 286 [.one (.int n)] [.one (.str (XG n))]:=by
 by_cases hn:n<0
 ·refine TA ⟨_,rfl,by kernel_rfl,by kernel_rfl⟩ ?_
  intro w us hu
  obtain ⟨v,r,rfl,h1,h2⟩:=WY hu
  obtain rfl:=Yu h2
  obtain rfl:=OO h1
  have:=Mz n.natAbs w (by omega) (by omega)
  rw [show -((n.natAbs:Nat):Int)=n by omega] at this
  refine this.mono ?_
  rintro e w' ⟨rfl,hb⟩
  exact ⟨_,rfl,by rw [XG,if_pos hn];exact Uf _ _ _,hb⟩
 ·rw [XG,if_neg hn];exact Kq n (by omega)
theorem MA (s:ByteArray) (hz:s.size=0):Con prog 293 [.one (.str s),.one (.int 6)] [.one (.int (rdP s).1),.one (.bool (rdP s).2)]:=by
 have h0:¬ 0<(s.size:Int):=by omega
 have h1:(s.size:Int)<1:=by omega
 have hr:rdP s=(0,false):=by
  have hb:XL s=false:=by rw [XL,hz];rfl
  have hm:RO s=s:=by rw [RO,hb];rfl
  rw [rdP,hm,if_pos (by omega)]
 rw [hr]
 refine Af func293 rfl rfl (by simp [ntmps293]) ?_
 exact byP (fc h0 (fc (eq_true h1) (fc ntmps293 results293))) tI
def dvN (t:ByteArray) (k:Nat):Nat:=(dvL (t.data.toList.take k)).getD 0
theorem Nu (s:ByteArray) (hz:s.size≤1000000000) (h00:0<s.size) (hc:Bb s 0=45):Con prog 293 [.one (.str s),.one (.int 6)] [.one (.int (rdP s).1),.one (.bool (rdP s).2)]:=by
 have h0:0<(s.size:Int):=by omega
 have hB:((((s.data.getD 0 0).toNat:Nat)):Int)=Bb s 0:=rfl
 have hb:XL s=true:=by rw [XL,decide_eq_true h00,decide_eq_true hc];rfl
 have hm:s.extract 1 s.size=RO s:=by rw [RO,hb];rfl
 have hv:∀ n,rdV s n = -(n:Int):=fun n=>by rw [rdV,hb];rfl
 have hs1:1≤(s.size:Int):=by omega
 obtain ⟨t,ht⟩:∃ t,t=RO s:=⟨_,rfl⟩
 have hts:t.size≤s.size:=by rw [ht,← hm];simp
 rw [← ht] at hm
 have hrd0:(t.size<1∨6<t.size)→rdP s=(0,false):=fun hr=>by rw [rdP,← ht,if_pos hr]
 have hrd:¬ (t.size<1∨6<t.size)→rdP s=(match dvL t.data.toList with | none=>(0,false) | some n=>if XG (rdV s n)=s then (rdV s n,true) else (0,false)):=fun hr=>by rw [rdP,← ht,if_neg hr]
 clear ht
 by_cases hr:t.size<1∨6<t.size
 ·rw [hrd0 hr]
  rcases hr with hr | hr
  ·have h1:(t.size:Int)<1:=by omega
   refine Af func293 rfl rfl (by simp [ntmps293]) ?_
   exact byP (fc h0 (fc hs1 (fc hB (fc (eq_true hc) (fc hm (fc (eq_true h1) (fc ntmps293 results293))))))) tI
  ·have h1:¬ (t.size:Int)<1:=by omega
   have h2:6<(t.size:Int):=by omega
   refine Af func293 rfl rfl (by simp [ntmps293]) ?_
   exact byP (fc h0 (fc hs1 (fc hB (fc (eq_true hc) (fc hm (fc h1 (fc (eq_true h2) (fc ntmps293 results293)))))))) tI
 ·have h1:¬ (t.size:Int)<1:=by omega
  have h2:¬ 6<(t.size:Int):=by omega
  have hrd':=hrd hr
  refine Af func293 rfl rfl (by simp [ntmps293]) ?_
  refine byP (fc h0 (fc hs1 (fc hB (fc (eq_true hc) (fc hm (fc h1 (fc h2 ntmps293))))))) ?_
  refine Al (fun k:Nat=>k≤t.size∧∃ n,dvL (t.data.toList.take k)=some n) (fun k=>⟨63,[(9,.i k),(8,.i (dvN t k)),(7,.s t),(6,.b true),(0,.s s)],[],[],0,[]⟩) (fun k=>t.size-k) 0 id ⟨Nat.zero_le _,_,rfl⟩ ?_ ?_
  ·exact byP (show dvN t 0=0 from rfl) tI
  ·rintro k ⟨hk,n,hn⟩
   have hN:dvN t k=n:=by rw [dvN,hn];rfl
   have hlt6:n<1000000:=Nat.lt_of_lt_of_le (aB1 k _ (by rw [List.length_take,LX];omega) n hn) (show 10 ^ k≤10 ^ 6 from Nat.pow_le_pow_right (by decide) (by omega))
   refine Aa 200 _ _ _ ?_
   by_cases hlt:k<t.size
   ·have hi:(k:Int)<(t.size:Int):=by omega
    have hBt:((((t.data.getD k 0).toNat:Nat)):Int)=Bb t k:=rfl
    by_cases hd:48≤Bb t k∧Bb t k≤57
    ·have a1:¬ Bb t k<48:=by omega
     have a2:¬ 57<Bb t k:=by omega
     have a3:0≤Bb t k-48∧Bb t k-48<256:=by omega
     have hst:=aBO t k n hlt hn hd.1 hd.2
     have hN1:((dvN t (k+1):Nat):Int)=10 * (n:Int)+(Bb t k-48):=by rw [dvN,hst];show ((10 * n+((Bb t k).toNat-48):Nat):Int)=_;omega
     refine byP (fc hi (fc hBt (fc a1 (fc a2 (fc a3 hN))))) ?_
     refine ⟨by unfold inI;omega,⟨by kernel_rfl,by unfold inI;omega⟩,by unfold inI;omega,by unfold inI;omega,k+1,id,⟨by omega,_,hst⟩,by omega, ?_⟩
     exact byP hN1 tI
    ·have hbad:dvL t.data.toList=none:=XX t k n hlt hn (by omega)
     have hr0:rdP s=(0,false):=by rw [hrd',hbad]
     by_cases hd1:Bb t k<48
     ·exact byP (fc hi (fc hBt (fc (eq_true hd1) (fc hr0 results293)))) tI
     ·have hd2:57<Bb t k:=by omega
      exact byP (fc hi (fc hBt (fc hd1 (fc (eq_true hd2) (fc hr0 results293))))) tI
   ·have hi:¬ (k:Int)<(t.size:Int):=by omega
    obtain rfl:k=t.size:=by omega
    have hall:dvL t.data.toList=some n:=by rw [← hn,← LX,List.take_length]
    have hF:=Ow (-(n:Int)) (by omega)
    rw [hall] at hrd'
    simp only [hv] at hrd'
    refine byP hi ?_
    refine Aa 200 _ _ _ ?_
    have h0n:0-(n:Int) = -(n:Int):=by omega
    have hin:inI (-(n:Int)):=by unfold inI;omega
    refine byP (fc hN (fc h0n hin)) ?_
    refine As hF rfl (Am ?_) ?_ (Aa 200 _ _ _ ?_)
    ·exact byQ tI
    ·simp only [okR]
    by_cases he:XG (-(n:Int))=s
    ·rw [if_pos he] at hrd'
     exact byP (fc (eq_true he) (fc hrd' results293)) tI
    ·rw [if_neg he] at hrd'
     exact byP (fc he (fc hrd' results293)) tI
theorem MO (s:ByteArray) (hz:s.size≤1000000000) (h00:0<s.size) (hc:¬ Bb s 0=45):Con prog 293 [.one (.str s),.one (.int 6)] [.one (.int (rdP s).1),.one (.bool (rdP s).2)]:=by
 have h0:0<(s.size:Int):=by omega
 have hB:((((s.data.getD 0 0).toNat:Nat)):Int)=Bb s 0:=rfl
 have hb:XL s=false:=by rw [XL,decide_eq_true h00,decide_eq_false hc];rfl
 have hm:RO s=s:=by rw [RO,hb];rfl
 have hv:∀ n,rdV s n=(n:Int):=fun n=>by rw [rdV,hb];rfl
 have hs1:1≤(s.size:Int):=by omega
 obtain ⟨t,ht⟩:∃ t,t=RO s:=⟨_,rfl⟩
 have hts:t.size≤s.size:=by rw [ht,hm];exact Nat.le_refl _
 rw [← ht] at hm
 have hrd0:(t.size<1∨6<t.size)→rdP s=(0,false):=fun hr=>by rw [rdP,← ht,if_pos hr]
 have hrd:¬ (t.size<1∨6<t.size)→rdP s=(match dvL t.data.toList with | none=>(0,false) | some n=>if XG (rdV s n)=s then (rdV s n,true) else (0,false)):=fun hr=>by rw [rdP,← ht,if_neg hr]
 obtain rfl:=hm;clear ht
 by_cases hr:t.size<1∨6<t.size
 ·rw [hrd0 hr]
  rcases hr with hr | hr
  ·have h1:(t.size:Int)<1:=by omega
   refine Af func293 rfl rfl (by simp [ntmps293]) ?_
   exact byP (fc h0 (fc hB (fc hc (fc (eq_true h1) (fc ntmps293 results293))))) tI
  ·have h1:¬ (t.size:Int)<1:=by omega
   have h2:6<(t.size:Int):=by omega
   refine Af func293 rfl rfl (by simp [ntmps293]) ?_
   exact byP (fc h0 (fc hB (fc hc (fc h1 (fc (eq_true h2) (fc ntmps293 results293)))))) tI
 ·have h1:¬ (t.size:Int)<1:=by omega
  have h2:¬ 6<(t.size:Int):=by omega
  have hrd':=hrd hr
  refine Af func293 rfl rfl (by simp [ntmps293]) ?_
  refine byP (fc h0 (fc hB (fc hc (fc h1 (fc h2 ntmps293))))) ?_
  refine Al (fun k:Nat=>k≤t.size∧∃ n,dvL (t.data.toList.take k)=some n) (fun k=>⟨63,[(9,.i k),(8,.i (dvN t k)),(7,.s t),(6,.b false),(0,.s t)],[],[],0,[]⟩) (fun k=>t.size-k) 0 id ⟨Nat.zero_le _,_,rfl⟩ ?_ ?_
  ·exact byP (show dvN t 0=0 from rfl) tI
  ·rintro k ⟨hk,n,hn⟩
   have hN:dvN t k=n:=by rw [dvN,hn];rfl
   have hlt6:n<1000000:=Nat.lt_of_lt_of_le (aB1 k _ (by rw [List.length_take,LX];omega) n hn) (show 10 ^ k≤10 ^ 6 from Nat.pow_le_pow_right (by decide) (by omega))
   refine Aa 200 _ _ _ ?_
   by_cases hlt:k<t.size
   ·have hi:(k:Int)<(t.size:Int):=by omega
    have hBt:((((t.data.getD k 0).toNat:Nat)):Int)=Bb t k:=rfl
    by_cases hd:48≤Bb t k∧Bb t k≤57
    ·have a1:¬ Bb t k<48:=by omega
     have a2:¬ 57<Bb t k:=by omega
     have a3:0≤Bb t k-48∧Bb t k-48<256:=by omega
     have hst:=aBO t k n hlt hn hd.1 hd.2
     have hN1:((dvN t (k+1):Nat):Int)=10 * (n:Int)+(Bb t k-48):=by rw [dvN,hst];show ((10 * n+((Bb t k).toNat-48):Nat):Int)=_;omega
     refine byP (fc hi (fc hBt (fc a1 (fc a2 (fc a3 hN))))) ?_
     refine ⟨by unfold inI;omega,⟨by kernel_rfl,by unfold inI;omega⟩,by unfold inI;omega,by unfold inI;omega,k+1,id,⟨by omega,_,hst⟩,by omega, ?_⟩
     exact byP hN1 tI
    ·have hbad:dvL t.data.toList=none:=XX t k n hlt hn (by omega)
     have hr0:rdP t=(0,false):=by rw [hrd',hbad]
     by_cases hd1:Bb t k<48
     ·exact byP (fc hi (fc hBt (fc (eq_true hd1) (fc hr0 results293)))) tI
     ·have hd2:57<Bb t k:=by omega
      exact byP (fc hi (fc hBt (fc hd1 (fc (eq_true hd2) (fc hr0 results293))))) tI
   ·have hi:¬ (k:Int)<(t.size:Int):=by omega
    obtain rfl:k=t.size:=by omega
    have hall:dvL t.data.toList=some n:=by rw [← hn,← LX,List.take_length]
    have hF:=Ow ((n:Int)) (by omega)
    rw [hall] at hrd'
    simp only [hv] at hrd'
    refine byP hi ?_
    refine Aa 200 _ _ _ ?_
    skip
    have hin:inI ((n:Int)):=by unfold inI;omega
    refine byP hN ?_
    refine As hF rfl (Am ?_) ?_ (Aa 200 _ _ _ ?_)
    ·exact byQ tI
    ·simp only [okR]
    by_cases he:XG ((n:Int))=t
    ·rw [if_pos he] at hrd'
     exact byP (fc (eq_true he) (fc hrd' results293)) tI
    ·rw [if_neg he] at hrd'
     exact byP (fc he (fc hrd' results293)) tI
theorem Qg (s:ByteArray) (hz:s.size≤1000000000):Con prog 293 [.one (.str s),.one (.int 6)] [.one (.int (rdP s).1),.one (.bool (rdP s).2)]:=by
 by_cases h:s.size=0
 ·exact MA s h
 ·by_cases hc:Bb s 0=45
  ·exact Nu s hz (by omega) hc
  ·exact MO s hz (by omega) hc
theorem ZK (s:ByteArray) (hz:s.size≤1000000000):Con prog 291 [.one (.str s)] [.one (.int (nsP s).1),.one (.bool (nsP s).2)]:=by
 have hc:=Qg s hz
 have hn:nsP s=if (rdP s).2=false∨(rdP s).1<0 then (0,false) else rdP s:=rfl
 obtain ⟨⟨v,b⟩,hr⟩:∃ x,rdP s=x:=⟨_,rfl⟩
 rw [hr] at hn hc
 simp only at hn hc
 refine Af func291 rfl rfl (by simp [ntmps291]) ?_
 refine byP ntmps291 ?_
 refine As hc rfl (Am ?_) ?_ (Aa 200 _ _ _ ?_)
 ·exact byQ tI
 ·simp only [okR]
 cases b
 ·rw [if_pos (Or.inl rfl)] at hn
  exact byP (fc hn results291) tI
 ·by_cases hv:v<0
  ·rw [if_pos (Or.inr hv)] at hn
   exact byP (fc hn (fc (eq_true hv) results291)) tI
  ·rw [if_neg (by rintro (h | h);cases h;exact hv h)] at hn
   exact byP (fc hn (fc hv results291)) tI
end Go.Proofs.YtaidalilfmjfgaaGreat
