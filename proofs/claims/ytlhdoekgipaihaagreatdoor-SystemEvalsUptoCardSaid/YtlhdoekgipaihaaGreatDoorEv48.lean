/- Part 48 of the proof. -/
import Derived.Test.YtlhdoekgipaihaaGreatDoorEv47
import Derived.Test.YtlhdoekgipaihaaGreatDoorEv46
import Derived.Test.YtlhdoekgipaihaaGreatDoorEv44
import Derived.Shelf.Strings.Builder1
import Derived.Shelf.Strings.Builder2
import Derived.Shelf.Strings.OnBuilder
import Derived.Shelf.Strings.Repeat
import Derived.Test.YtlhdoekgipaihaaGreatDoorProg
import Derived.Test.YtlhdoekgipaihaaGreatDoorEv43
import Derived.Test.YtlhdoekgipaihaaGreatDoorEv45
set_option linter.unusedVariables false
set_option linter.unusedSimpArgs false
set_option linter.unusedSectionVars false
set_option maxRecDepth 100000
set_option exponentiation.threshold 400
set_option maxHeartbeats 8000000
namespace Go.Proofs.YtlhdoekgipaihaaGreatDoor
open Go Go.Fw
def Vl.truth:Vl→Bool
 |.tr b=>b
 |.num _=>false
def numV (t:ByteArray):Rat:=match (J05 t.data.toList).1 with
 |some (n,d)=>Rat.divInt n d
 |none=>0
def wayF (ev:Ev)(o:ByteArray)(vs:List Vl):Except Int Vl:=
 if o=oTrue then .ok (.tr true) else if o=oFalse then .ok (.tr false) else if o=oTime then .ok (.num ev.time) else if o=oInit then .ok (.tr ev.init) else match vs with
 |[.num p]=>.ok (.num (-p))
 |[.tr c]=>.ok (.tr (!c))
 |[.num p,.num q]=>
   if o=oSample then .ok (.tr (multF (ev.time-p) q)) else if o=oAdd then .ok (.num (p+q)) else if o=oSub then .ok (.num (p-q)) else if o=oMul then .ok (.num (p*q)) else if o=oDiv then divV p q
   else if o=oLess then .ok (.tr (decide (p<q))) else if o=oAtMost then .ok (.tr (decide (p≤q))) else if o=oMore then .ok (.tr (decide (q<p))) else if o=oAtLeast then .ok (.tr (decide (q≤p)))
   else if o=oEq then .ok (.tr (sameV (.num p) (.num q))) else .ok (.tr (!sameV (.num p) (.num q)))
 |[.tr a,.tr b]=>if o=oEq then .ok (.tr (sameV (.tr a) (.tr b))) else .ok (.tr (!sameV (.tr a) (.tr b)))
 |_=>.error 0
def JIl (o:ByteArray)(vs:List Vl):Prop:=
 (o=oTrue∨o=oFalse∨o=oTime∨o=oInit)∨(o=oSample∧∃ p q,vs=[.num p,.num q]∧q≠0)∨(o=oNeg∧∃ p,vs=[.num p])∨(o=oNot∧∃ c,vs=[.tr c]) ∨
   ((o=oAdd∨o=oSub∨o=oMul∨o=oDiv∨o=oLess∨o=oAtMost∨o=oMore∨o=oAtLeast)∧∃ p q,vs=[.num p,.num q])∨((o=oEq∨o=oNe)∧∃ a b:Vl,vs=[a,b]∧a.type=b.type)
def szs:List Vl→Nat
 |[]=>0
 |v::l=>v.sz+szs l
theorem JKf (p q:Rat):(p-q).num<0↔p<q:=by
 have h1:(p-q).num<0↔¬ 0≤(p-q).num:=by omega
 rw[h1,Rat.num_nonneg,← Rat.le_iff_sub_nonneg,Rat.not_le]
theorem JHh (p q:Rat):decide (sgn (p-q).num<0)=decide (p<q):=decide_eq_decide.2 ((J9G _).trans (JKf p q))
theorem JHi (p q:Rat):decide (sgn (p-q).num≤0)=decide (p≤q):=by
 refine decide_eq_decide.2 ?_;have h1:=JKf p q;have h2:=J9G (p-q).num;have h3:=J9F p q;rw[Rat.le_iff_lt_or_eq,← h1,← h2,← h3];omega
theorem JKm (p q:Rat):decide (sgn (p-q).num>0)=decide (q<p):=by
 refine decide_eq_decide.2 ?_;have:=decide_eq_decide.1 (JHi p q);rw[← Rat.not_le,← this];omega
theorem JKn (p q:Rat):decide (sgn (p-q).num≥0)=decide (q≤p):=by
 refine decide_eq_decide.2 ?_;have:=decide_eq_decide.1 (JHh p q);rw[← Rat.not_lt,← this];omega
def Way (ev:Ev)(o:ByteArray)(vs:List Vl):Prop:=∃ k cap,J0y wayT o=some (.fn (.func k) [] cap)∧(cap=[]∨∃ x,cap=[.ep x 0])∧J06 Tryz.prog k∧PX k ([J1L ev,J5H vs]++cap) (J25 (wayF ev o vs))
theorem JMq (ev:Ev)(o:ByteArray)(vs:List Vl)(h:JIl o vs)(hz:szq ev.time+szs vs+1<2^36):Way ev o vs:=by
 rcases h with h|⟨rfl,p,q,rfl,h0⟩|⟨rfl,p,rfl⟩|⟨rfl,c,rfl⟩|⟨h,p,q,rfl⟩|⟨h,a,b,rfl,hab⟩
 ·rcases h with rfl | rfl | rfl | rfl
  ·exact ⟨_,_,(by kernel_rfl),(by first|exact .inl rfl|exact .inr ⟨_,rfl⟩),c283,JAI (J1L ev) vs (.tr true)⟩
  ·exact ⟨_,_,(by kernel_rfl),(by first|exact .inl rfl|exact .inr ⟨_,rfl⟩),c283,JAI (J1L ev) vs (.tr false)⟩
  ·exact ⟨_,_,(by kernel_rfl),(by first|exact .inl rfl|exact .inr ⟨_,rfl⟩),c285,JIn vs ev⟩
  ·exact ⟨_,_,(by kernel_rfl),(by first|exact .inl rfl|exact .inr ⟨_,rfl⟩),c286,JIq vs ev⟩
 ·simp only[szs,Vl.sz] at hz;exact ⟨_,_,(by kernel_rfl),(by first|exact .inl rfl|exact .inr ⟨_,rfl⟩),c287,JEL p q ev (by omega) h0⟩
 ·simp only[szs,Vl.sz] at hz;exact ⟨_,_,(by kernel_rfl),(by first|exact .inl rfl|exact .inr ⟨_,rfl⟩),c289,JL7 (J1L ev) p (by omega)⟩
 ·exact ⟨_,_,(by kernel_rfl),(by first|exact .inl rfl|exact .inr ⟨_,rfl⟩),c300,JL6 (J1L ev) c⟩
 ·simp only[szs,Vl.sz] at hz;have hc:=fun k f hk h1=>JIs (J1L ev) p q k f hk h1 (by omega)
  rcases h with rfl|rfl|rfl|rfl|rfl|rfl|rfl|rfl
  ·exact ⟨_,_,(by kernel_rfl),(by first|exact .inl rfl|exact .inr ⟨_,rfl⟩),c339,J4v (J1L ev) p q _ _ c88 (JIY p q (by omega))⟩
  ·exact ⟨_,_,(by kernel_rfl),(by first|exact .inl rfl|exact .inr ⟨_,rfl⟩),c339,J4v (J1L ev) p q _ _ c89 (JCq p q (by omega))⟩
  ·exact ⟨_,_,(by kernel_rfl),(by first|exact .inl rfl|exact .inr ⟨_,rfl⟩),c339,J4v (J1L ev) p q _ _ c264 (JMb p q (by omega))⟩
  ·exact ⟨_,_,(by kernel_rfl),(by first|exact .inl rfl|exact .inr ⟨_,rfl⟩),c291,JL8 (J1L ev) p q (by omega)⟩
  ·have:=hc _ _ c293 JIp;rw[JHh] at this;exact ⟨_,_,(by kernel_rfl),(by first|exact .inl rfl|exact .inr ⟨_,rfl⟩),c340,this⟩
  ·have:=hc _ _ c294 JEM;rw[JHi] at this;exact ⟨_,_,(by kernel_rfl),(by first|exact .inl rfl|exact .inr ⟨_,rfl⟩),c340,this⟩
  ·have:=hc _ _ c295 JIo;rw[JKm] at this;exact ⟨_,_,(by kernel_rfl),(by first|exact .inl rfl|exact .inr ⟨_,rfl⟩),c340,this⟩
  ·have:=hc _ _ c296 JC6;rw[JKn] at this;exact ⟨_,_,(by kernel_rfl),(by first|exact .inl rfl|exact .inr ⟨_,rfl⟩),c340,this⟩
 ·simp only[szs] at hz
  rcases h with rfl|rfl
  ·have:=JFm (J1L ev) a b hab (by omega);refine ⟨_,[],(by kernel_rfl),.inl rfl,c297,?_⟩
   rcases a with p|c<;>rcases b with q|d<;>first|exact this|cases hab
  ·have:=JC5 (J1L ev) a b hab (by omega);refine ⟨_,[],(by kernel_rfl),.inl rfl,c299,?_⟩
   rcases a with p|c<;>rcases b with q|d<;>first|exact this|cases hab
def seqR:List (Except Int Vl)→Except Int (List Vl)
 |[]=>.ok []
 |.error c::_=>.error c
 |.ok v::r=>match seqR r with
   |.ok l=>.ok (v::l)
   |.error c=>.error c
def J6x (ks:List (ByteArray×Va))(ev:Ev)(o t:ByteArray)(n:Int)(rs:List (Except Int Vl)):Except Int Vl:=
 if o=oNum then .ok (.num (numV t))
 else if o=oVar∨o=oPre then J1s ks ev ⟨t,n,decide (o=oPre)⟩
 else if o=oIf∨o=oAnd∨o=oOr then match rs.getD 0 (.error 0) with
  |.error c=>.error c
  |.ok v=>match J2j o v.truth with
    |some i=>rs.getD i (.error 0)
    |none=>.ok v
 else match seqR rs with
  |.error c=>.error c
  |.ok vs=>wayF ev o vs
mutual
def evalF (ks:List (ByteArray×Va))(ev:Ev):Ex→Except Int Vl
 |.mk o t n es=>J6x ks ev o t n (JM1 ks ev es)
def JM1 (ks:List (ByteArray×Va))(ev:Ev):List Ex→List (Except Int Vl)
 |[]=>[]
 |e::es=>evalF ks ev e::JM1 ks ev es
end
theorem JAy (ks:List (ByteArray×Va))(ev:Ev):∀ es:List Ex,JM1 ks ev es=es.map (evalF ks ev)
 |[]=>rfl
 |e::es=>by rw[List.map_cons,← JAy ks ev es];rfl
theorem J1z (ks:List (ByteArray×Va))(ev:Ev)(e:Ex):evalF ks ev e=J6x ks ev e.op e.text e.order (e.kids.map (evalF ks ev)):=by
 cases e with
 |mk o t n es=>rw[← JAy];rfl
mutual
def wtF:Ex→Nat
 |.mk _ _ _ es=>wtL es+1
def wtL:List Ex→Nat
 |[]=>0
 |e::es=>wtF e+wtL es
end
theorem J6B (e:Ex):wtF e=wtL e.kids+1:=by cases e;rfl
theorem J94:∀ {es:List Ex} {k:Ex},k∈es→wtF k≤wtL es
 |e::es,k,h=>by
   unfold wtL
   rcases List.mem_cons.1 h with rfl|h
   ·omega
   ·have:=J94 h;omega
theorem JD2 {e k:Ex}(h:k∈e.kids):wtF k<wtF e:=by rw[J6B e];have:=J94 h;omega
theorem JDd {f:Ex→Int→Int}(hf:∀ k l,f k l<0∨f k l≤l-wtF k):∀ (ks:List Ex) (l:Int),J2l f ks l<0∨J2l f ks l≤l-wtL ks
 |[],l=>by right;unfold J2l wtL;omega
 |k :: ks,l=>by
   unfold J2l wtL;split
   ·left;omega
   ·have:=hf k l;have:=JDd hf ks (f k l);omega
theorem JDX:∀ (d:Nat) (e:Ex) (l:Int),measF d e l<0∨measF d e l≤l-wtF e
 |0,e,l=>by left;unfold measF;omega
 |d + 1,e,l=>by
   rw[J6B];unfold measF;split
   ·left;omega
   ·have:=JDd (JDX d) e.kids (l-1);omega
theorem JMk (z:Int):zl z≤nd z:=by
 unfold zl nd;refine J0D hB9 ?_;have h1:z.natAbs<10 ^ (decT z.natAbs).length:=Go.Fw.decT_lt z.natAbs;exact Nat.lt_of_lt_of_le h1 (Nat.pow_le_pow_left (by decide) _)
theorem JJC {l:List UInt8}(h:(J05 l).2=true):∃ n d:Int,(J05 l).1=some (n,d)∧0<d∧n.natAbs.gcd d.natAbs=1∧nd n≤300∧nd d≤300:=by
 unfold J05 at *;split at h
 ·cases h
 ·rename_i n hn;split at h
  ·exact ⟨n,1,rfl,by decide,by simp,of_decide_eq_true h,JHJ⟩
  ·split at h
   ·cases h
   ·rename_i d hd;split at h
    ·cases h
    ·rename_i h1;simp only[Bool.and_eq_true,decide_eq_true_eq] at h;refine ⟨n,d,by simp only[if_neg h1],by omega,h.2,h.1.1,h.1.2⟩
theorem J3m {t:ByteArray}(h:(J05 t.data.toList).2=true):encF (numV t)=qAV (J05 t.data.toList).1∧szq (numV t)≤300:=by
 obtain ⟨n,d,h1,h2,h3,h4,h5⟩:=JJC h;unfold numV;rw[h1];refine ⟨?_,?_⟩
 ·show encF (Rat.divInt n d)=encQ n d
  rw[J4R n d h2,h3];simp
 ·show szq (Rat.divInt n d)≤300
  have:=J3B n d (by omega);have:=JMk n;have:=JMk d;omega
def EvOk (ev:Ev):Prop:=szq ev.time≤300∧∀ x∈ev.vals,x.2.sz≤300
theorem J8v {β:Type}{u:U}{b:β}:∀ {l:List (U×β)},J1O l u=some b→∃ x∈l,x.2=b
 |[],h=>by cases h
 |x :: l,h=>by
   unfold J1O at h;split at h
   ·cases h;exact ⟨x,by simp,rfl⟩
   ·obtain ⟨y,hy,e⟩:=J8v h;exact ⟨y,by simp[hy],e⟩
theorem JK7 {ks:List (ByteArray×Va)}{ev:Ev}(he:EvOk ev){u:U}{v:Vl}(h:J1s ks ev u=.ok v):v.sz≤300:=by
 unfold J1s at h;split at h
 ·cases h
 ·rename_i w hw;split at h
  ·cases h
  ·cases h;obtain ⟨x,hx,rfl⟩:=J8v hw;exact he.2 x hx
theorem JK6 {ks:List (ByteArray×Va)}{ev:Ev}{u:U}{v:Vl}(h:J1s ks ev u=.ok v):v.type=J99 ks u.name:=by
 unfold J1s at h;split at h
 ·cases h
 ·split at h
  ·cases h
  ·rename_i h';cases h;exact Classical.not_not.1 h'
theorem J9I:∀ {rs:List (Except Int Vl)} {vs:List Vl},seqR rs=.ok vs→rs=vs.map .ok
 |[],vs,h=>by cases h;rfl
 |.error c::r,vs,h=>by cases h
 |.ok v::r,vs,h=>by
   unfold seqR at h;split at h
   ·rename_i l hl;cases h;rw[J9I hl];rfl
   ·cases h
theorem J1n {c:Prop}[Decidable c]{a b:Except Int Vl}{M:Nat}(ha:∀ v,a=.ok v→v.sz≤M)(hb:∀ v,b=.ok v→v.sz≤M):∀ v,(if c then a else b)=.ok v→v.sz≤M:=by
 intro v h;split at h
 ·exact ha v h
 ·exact hb v h
theorem J4y {b:Bool}{M:Nat}:∀ v,(Except.ok (Vl.tr b):Except Int Vl)=.ok v→v.sz≤M:=fun v h=>by cases h;exact Nat.zero_le _
theorem J8R {q:Rat}{M:Nat}(hq:szq q≤M):∀ v,(Except.ok (Vl.num q):Except Int Vl)=.ok v→v.sz≤M:=fun v h=>by cases h;exact hq
theorem JB1 {c:Int}{M:Nat}:∀ v,(Except.error c:Except Int Vl)=.ok v→v.sz≤M:=fun v h=>by cases h
theorem JL5 {ev:Ev}{o:ByteArray}{vs:List Vl}(ht:szq ev.time≤300):∀ v,wayF ev o vs=.ok v→v.sz≤max 300 (szs vs+1):=by
 unfold wayF;refine J1n J4y (J1n J4y (J1n (J8R (by omega)) (J1n J4y ?_)))
 rcases vs with _|⟨a,_|⟨b,_|⟨c,l⟩⟩⟩
 ·exact JB1
 ·rcases a with p | x
  ·exact J8R (by rw[JCD];show szq p≤max 300 (szq p+0+1);omega)
  ·exact J4y
 ·rcases a with p | x<;>rcases b with q | y
  ·refine J1n J4y (J1n (J8R ?_) (J1n (J8R ?_) (J1n (J8R ?_) (J1n ?_ (J1n J4y (J1n J4y (J1n J4y (J1n J4y (J1n J4y J4y)))))))))
   ·have:=JG2 p q;show _≤max 300 (szq p+(szq q+0)+1);omega
   ·have:=JCC p q;show _≤max 300 (szq p+(szq q+0)+1);omega
   ·have:=JLL p q;show _≤max 300 (szq p+(szq q+0)+1);omega
   ·unfold divV;split
    ·exact JB1
    ·rename_i h0;refine J8R ?_;have:=JG1 p q h0;show _≤max 300 (szq p+(szq q+0)+1);omega
  ·exact JB1
  ·exact JB1
  ·exact J1n J4y J4y
 ·rcases a with p|x<;>rcases b with q|y<;>exact JB1
theorem JG0 {ks:List (ByteArray×Va)}{ev:Ev}:∀ {es:List Ex} {vs:List Vl},(∀ k∈es,∀ v,evalF ks ev k=.ok v→v.sz≤301*wtF k)→es.map (evalF ks ev)=vs.map .ok→szs vs≤301*wtL es
 |[],[],_,_=>Nat.zero_le _
 |[],v::vs,_,h=>by cases h
 |e::es,[],_,h=>by cases h
 |e::es,v::vs,hk,h=>by
   rw[List.map_cons,List.map_cons] at h
   injection h with h1 h2
   have a:=hk e (by simp) v h1;have b:=JG0 (fun k h=>hk k (by simp[h])) h2;unfold szs wtL;omega
theorem J6u {ks:List (ByteArray×Va)}{ev:Ev}{es:List Ex}{i:Nat}{v:Vl}(h:(es.map (evalF ks ev)).getD i (.error 0)=.ok v):∃ k∈es,evalF ks ev k=.ok v:=by
 rw[List.getD_eq_getElem?_getD,List.getElem?_map] at h
 cases hi:es[i]? with
 |none=>rw[hi] at h;cases h
 |some k=>
   rw[hi] at h;exact ⟨k,List.mem_of_getElem? hi,h⟩
theorem J5z {ks:List (ByteArray×Va)}{ev:Ev}(he:EvOk ev)(e:Ex):builtF e=true→∀ v,evalF ks ev e=.ok v→v.sz≤301*wtF e:=by
 induction e using J1y with
 |h e ih=>
   intro hb v h;have ihk:∀ k∈e.kids,∀ v,evalF ks ev k=.ok v→v.sz≤301*wtF k:=fun k hk=>ih k hk ((J0B hb).2 k hk);rw[J1z] at h;unfold J6x at h;rw[J6B];split at h
   ·rename_i h1;cases h;have hx:textF e=true:=by rw[J0w] at hb;simp only[Bool.and_eq_true] at hb;exact hb.1.1.2
    unfold textF at hx;rw[if_pos h1] at hx;simp only[Bool.and_eq_true] at hx;have:=(J3m hx.1).2;show szq _≤_
    omega
   ·split at h
    ·have:=JK7 he h;omega
    ·split at h
     ·split at h
      ·cases h
      ·rename_i w hw;split at h
       ·obtain ⟨k,hk,h⟩:=J6u h;have:=ihk k hk v h;have:=J94 hk;omega
       ·cases h;obtain ⟨k,hk,h⟩:=J6u hw;have:=ihk k hk _ h;have:=J94 hk;omega
     ·split at h
      ·cases h
      ·rename_i vs hvs;have:=JG0 ihk (J9I hvs);have:=JL5 he.1 v h;omega
theorem JKq {l:List (Int×Bool)}{t:Bool}(h:l.any (fun r=>!r.2||(decide (r.1=1) != t))=false):∀ r∈l,r.2=true∧decide (r.1=1)=t:=by
 intro r hr;have:=(List.any_eq_false.1 h) r hr;simp only[Bool.or_eq_true,Bool.not_eq_true',bne_iff_ne,not_or,Bool.not_eq_false,ne_eq,Classical.not_not] at this;exact this
theorem J6a {t:ByteArray}(h:(J05 t.data.toList).2=true):∃ n d,readR t.data.toList=some (n,d)∧okR (n,d)∧numV t=Rat.divInt n d∧t.data.toList=(rT n d).map UInt8.ofNat:=by
 obtain ⟨h1,h2⟩:=J1k t.data.toList;rw[h1,Option.isSome_iff_exists] at h;obtain ⟨⟨n,d⟩,hx⟩:=h;obtain ⟨h3,h4⟩:=J1R hx;refine ⟨n,d,hx,h3,?_,h4⟩;unfold numV;rw[h2 _ hx]
theorem JMM {s t:ByteArray}(h:s.data.toList=t.data.toList):s=t:=by
 apply ByteArray.ext;exact Array.toList_inj.1 h
theorem JAh {t:ByteArray}(h:(J05 t.data.toList).2=true)(h0:numV t=0):t=⟨#[48]⟩:=by
 obtain ⟨n,d,_,⟨hd,hg,_,_⟩,h2,h3⟩:=J6a h;rw[h2] at h0
 have hn:n=0:=by
  have h5:=(J2H n d (by have:0<d:=hd;omega)).1;rw[h0] at h5;have hg':n.natAbs.gcd (d:Int).natAbs=1:=hg;rw[hg'] at h5;have h6:(0:Rat).num=n/((1:Nat):Int):=h5;have h7:(0:Rat).num=0:=rfl;omega
 subst hn
 have hd1:d=1:=by
  have hg':Nat.gcd 0 d=1:=hg;rw[Nat.gcd_zero_left] at hg';exact hg'
 subst hd1;exact JMM h3
theorem J7T {β:Type}{s:ByteArray}{b:β}:∀ {l:List (ByteArray×β)},J0y l s=some b→(s,b)∈l
 |[],h=>by cases h
 |x::l,h=>by
   unfold J0y at h;split at h
   ·rename_i e;cases h;subst e;exact List.mem_cons_self
   ·exact List.mem_cons_of_mem _ (J7T h)
theorem ty01 (v:Vl):(v.type=0∧∃ q,v=.num q)∨(v.type=1∧∃ b,v=.tr b):=by
 cases v with
 |num q=>exact .inl ⟨rfl,q,rfl⟩
 |tr b=>exact .inr ⟨rfl,b,rfl⟩
theorem len2 {α:Type}{l:List α}(h:(l.length:Int)=2):∃ a b,l=[a,b]:=by
 match l,h with
 |[a,b],_=>exact ⟨a,b,rfl⟩
 |[],h=>simp at h
 |[_],h=>simp at h
 |_::_::_::_,h=>simp at h;omega
theorem len1 {α:Type}{l:List α}(h:(l.length:Int)=1):∃ a,l=[a]:=by
 match l,h with
 |[a],_=>exact ⟨a,rfl⟩
 |[],h=>simp at h
 |_::_::_,h=>simp at h;omega
theorem JN8 {α:Type}{l:List α}(h:(l.length:Int)=3):∃ a b c,l=[a,b,c]:=by
 match l,h with
 |[a,b,c],_=>exact ⟨a,b,c,rfl⟩
 |[],h=>simp at h
 |[_],h=>simp at h
 |[_,_],h=>simp at h
 |_::_::_::_::_,h=>simp at h;omega
theorem JGH {o:ByteArray}{x:Int×Bool×Bool}(h:J0y shp o=some x):(o=oNum)∨((o=oAnd∨o=oOr)∧x=(2,true,true))∨(o=oTime∧x=(0,false,false))∨((o=oTrue∨o=oFalse∨o=oInit)∧x=(0,false,true)) ∨
  (o=oNeg∧x=(1,false,false))∨(o=oNot∧x=(1,true,true))∨(o=oSample∧x=(2,false,true))∨((o=oAdd∨o=oSub∨o=oMul∨o=oDiv)∧x=(2,false,false))∨((o=oLess∨o=oAtMost∨o=oMore∨o=oAtLeast)∧x=(2,false,true)):=by
 have:=J7T h;simp only[shp,List.mem_cons,Prod.mk.injEq,List.not_mem_nil,or_false] at this
 rcases this with ⟨rfl,rfl,rfl,rfl⟩|⟨rfl,rfl,rfl,rfl⟩|⟨rfl,rfl,rfl,rfl⟩|⟨rfl,rfl,rfl,rfl⟩|⟨rfl,rfl,rfl,rfl⟩|⟨rfl,rfl,rfl,rfl⟩|⟨rfl,rfl,rfl,rfl⟩|⟨rfl,rfl,rfl,rfl⟩|⟨rfl,rfl,rfl,rfl⟩|⟨rfl,rfl,rfl,rfl⟩|⟨rfl,rfl,rfl,rfl⟩|⟨rfl,rfl,rfl,rfl⟩|⟨rfl,rfl,rfl,rfl⟩|⟨rfl,rfl,rfl,rfl⟩|⟨rfl,rfl,rfl,rfl⟩|⟨rfl,rfl,rfl,rfl⟩|⟨rfl,rfl,rfl,rfl⟩|⟨rfl,rfl,rfl,rfl⟩
 all_goals simp
theorem J14 {ks:List (ByteArray×Va)}{e:Ex}(hb:builtF e=true)(ht:(typeF ks e).2=true):∀ k∈e.kids,(typeF ks k).2=true:=by
 have hl:=(J0B hb).1;rw[J5o] at ht;unfold J41 at ht;intro k hk;split at ht
 ·rename_i h;rw[show J0X e.op=0 by unfold J0X;rw[if_pos h]] at hl;have hnil:e.kids=[]:=List.eq_nil_of_length_eq_zero (by omega);rw[hnil] at hk;cases hk
 ·rename_i h0;split at ht
  ·rename_i h;rw[show J0X e.op=2 by unfold J0X;rw[if_neg h0,if_pos h]] at hl;obtain ⟨a,b,he⟩:=len2 hl;rw[he] at hk ht;have ht:((typeF ks a).2&&(typeF ks b).2&&decide ((typeF ks a).1=(typeF ks b).1))=true:=ht;simp only[Bool.and_eq_true] at ht;simp only[List.mem_cons,List.not_mem_nil,or_false] at hk
   rcases hk with rfl|rfl
   ·exact ht.1.1
   ·exact ht.1.2
  ·rename_i h1;split at ht
   ·rename_i h;rw[show J0X e.op=3 by unfold J0X;rw[if_neg h0,if_neg h1,if_pos h]] at hl;obtain ⟨a,b,c,he⟩:=JN8 hl;rw[he] at hk ht;have ht:((typeF ks a).2&&((typeF ks b).2&&(typeF ks c).2&&decide ((typeF ks b).1=(typeF ks c).1))&&decide ((typeF ks a).1=1))=true:=ht;simp only[Bool.and_eq_true] at ht;simp only[List.mem_cons,List.not_mem_nil,or_false] at hk
    rcases hk with rfl|rfl|rfl
    ·exact ht.1.1
    ·exact ht.1.2.1.1
    ·exact ht.1.2.1.2
   ·split at ht
    ·cases ht
    ·rename_i h;have h:=Bool.eq_false_iff.2 h;exact (JKq h _ (List.mem_map.2 ⟨k,hk,rfl⟩)).1
inductive Shape (ks:List (ByteArray×Va)) (e:Ex):Prop where
 |num (h:e.op=oNum) (hk:e.kids=[]) (ht:(typeF ks e).1=0)
 |ref (h:e.op=oVar∨e.op=oPre) (hk:e.kids=[]) (v:Va) (hv:J0y ks e.text=some v) (ht:(typeF ks e).1=v.type)
 |ite (h:e.op=oIf) (a b c:Ex) (hk:e.kids=[a,b,c]) (ha:(typeF ks a).1=1) (hb:(typeF ks b).1=(typeF ks e).1) (hc:(typeF ks c).1=(typeF ks e).1)
 |bin (h:e.op=oAnd∨e.op=oOr) (a b:Ex) (hk:e.kids=[a,b]) (ha:(typeF ks a).1=1) (hb:(typeF ks b).1=1) (ht:(typeF ks e).1=1)
 |eq (h:e.op=oEq∨e.op=oNe) (a b:Ex) (hk:e.kids=[a,b]) (hab:(typeF ks a).1=(typeF ks b).1) (ht:(typeF ks e).1=1)
 |time (h:e.op=oTime) (hk:e.kids=[]) (ht:(typeF ks e).1=0)
 |const (h:e.op=oTrue∨e.op=oFalse∨e.op=oInit) (hk:e.kids=[]) (ht:(typeF ks e).1=1)
 |neg (h:e.op=oNeg) (a:Ex) (hk:e.kids=[a]) (ha:(typeF ks a).1≠1) (ht:(typeF ks e).1=0)
 |not (h:e.op=oNot) (a:Ex) (hk:e.kids=[a]) (ha:(typeF ks a).1=1) (ht:(typeF ks e).1=1)
 |sample (h:e.op=oSample) (a b:Ex) (hk:e.kids=[a,b]) (ha:a.op=oNum) (hb:b.op=oNum) (h0:b.text≠⟨#[48]⟩) (ht:(typeF ks e).1=1)
 |arith (h:e.op=oAdd∨e.op=oSub∨e.op=oMul∨e.op=oDiv) (a b:Ex) (hk:e.kids=[a,b]) (ha:(typeF ks a).1≠1) (hb:(typeF ks b).1≠1) (ht:(typeF ks e).1=0)
 |comp (h:e.op=oLess∨e.op=oAtMost∨e.op=oMore∨e.op=oAtLeast) (a b:Ex) (hk:e.kids=[a,b]) (ha:(typeF ks a).1≠1) (hb:(typeF ks b).1≠1) (ht:(typeF ks e).1=1)
theorem nil0 {α:Type}{l:List α}(h:(l.length:Int)=0):l=[]:=List.eq_nil_of_length_eq_zero (by omega)
theorem J5p {ks:List (ByteArray×Va)}{e:Ex}(hb:builtF e=true)(ht:(typeF ks e).2=true):Shape ks e:=by
 have hl:=(J0B hb).1
 have hsm:J23 e.op e.kids (e.kids.map builtF)=false:=by
  rw[J0w] at hb;simp only[Bool.and_eq_true,Bool.not_eq_true'] at hb;exact hb.1.2
 have htt:=J5o ks e;rw[htt] at ht;unfold J41 at ht htt;split at ht
 ·rename_i h;rw[if_pos h] at htt;rw[show J0X e.op=0 by unfold J0X;rw[if_pos h]] at hl
  cases ha:J0y ks e.text with
  |none=>rw[ha] at ht;cases ht
  |some v=>
    rw[ha] at htt;exact .ref h (nil0 hl) v ha (by rw[htt])
 ·rename_i h0;rw[if_neg h0] at htt;split at ht
  ·rename_i h;rw[if_pos h] at htt;rw[show J0X e.op=2 by unfold J0X;rw[if_neg h0,if_pos h]] at hl;obtain ⟨a,b,he⟩:=len2 hl;rw[he] at ht;have ht:((typeF ks a).2&&(typeF ks b).2&&decide ((typeF ks a).1=(typeF ks b).1))=true:=ht;simp only[Bool.and_eq_true,decide_eq_true_eq] at ht;exact .eq h a b he ht.2 (by rw[htt])
  ·rename_i h1;rw[if_neg h1] at htt;split at ht
   ·rename_i h;rw[if_pos h] at htt;rw[show J0X e.op=3 by unfold J0X;rw[if_neg h0,if_neg h1,if_pos h]] at hl;obtain ⟨a,b,c,he⟩:=JN8 hl;rw[he] at ht htt;have ht:((typeF ks a).2&&((typeF ks b).2&&(typeF ks c).2&&decide ((typeF ks b).1=(typeF ks c).1))&&decide ((typeF ks a).1=1))=true:=ht;simp only[Bool.and_eq_true,decide_eq_true_eq] at ht;have h5:(typeF ks e).1=(typeF ks b).1:=by rw[htt];rfl
    exact .ite h a b c he ht.2 h5.symm (by rw[h5];exact ht.1.2.2.symm)
   ·rename_i h2;rw[if_neg h2] at htt;split at ht
    ·cases ht
    ·rename_i h3;rw[if_neg h3] at htt;have h3:=JKq (Bool.eq_false_iff.2 h3)
     have hkk:J0X e.op=match J0y shp e.op with|none=>-1|some x=>x.1:=by unfold J0X;rw[if_neg h0,if_neg h1,if_neg h2];try rfl
     cases hs:J0y shp e.op with
     |none=>rw[hs] at hkk;rw[hkk] at hl;simp only at hl;omega
     |some x=>
       rw[hs] at hkk;have hx:shpD e.op=x:=by unfold shpD;rw[hs]
       rw[hx] at h3 htt;replace hkk:(e.kids.length:Int)=x.1:=by rw[hl,hkk]
       have ht1:(typeF ks e).1=if x.2.2 then 1 else 0:=by rw[htt]
       have hkt:∀ k∈e.kids,decide ((typeF ks k).1=1)=x.2.1:=fun k hk=>(h3 _ (List.mem_map.2 ⟨k,hk,rfl⟩)).2
       rcases JGH hs with h|⟨h,rfl⟩|⟨h,rfl⟩|⟨h,rfl⟩|⟨h,rfl⟩|⟨h,rfl⟩|⟨h,rfl⟩|⟨h,rfl⟩|⟨h,rfl⟩
       ·have hn:x=(0,false,false):=by
         rw[h] at hs;exact (Option.some.inj (hs.symm.trans (by rfl:J0y shp oNum=some (0,false,false))))
        subst hn;exact .num h (nil0 hkk) ht1
       ·obtain ⟨a,b,he⟩:=len2 hkk;rw[he] at hkt;exact .bin h a b he (of_decide_eq_true (hkt a (by simp))) (of_decide_eq_true (hkt b (by simp))) ht1
       ·exact .time h (nil0 hkk) ht1
       ·exact .const h (nil0 hkk) ht1
       ·obtain ⟨a,he⟩:=len1 hkk;rw[he] at hkt;exact .neg h a he (of_decide_eq_false (hkt a (by simp))) ht1
       ·obtain ⟨a,he⟩:=len1 hkk;rw[he] at hkt;exact .not h a he (of_decide_eq_true (hkt a (by simp))) ht1
       ·obtain ⟨a,b,he⟩:=len2 hkk;rw[he] at hkt hsm;unfold J23 at hsm;rw[decide_eq_true h,Bool.true_and] at hsm;simp only[List.map_cons,Bool.or_eq_false_iff,Bool.not_eq_false',decide_eq_true_eq,decide_eq_false_iff_not] at hsm;exact .sample h a b he hsm.1.1.1.1 hsm.1.1.1.2 hsm.2 ht1
       ·obtain ⟨a,b,he⟩:=len2 hkk;rw[he] at hkt;exact .arith h a b he (of_decide_eq_false (hkt a (by simp))) (of_decide_eq_false (hkt b (by simp))) ht1
       ·obtain ⟨a,b,he⟩:=len2 hkk;rw[he] at hkt;exact .comp h a b he (of_decide_eq_false (hkt a (by simp))) (of_decide_eq_false (hkt b (by simp))) ht1
def IsOp (o:ByteArray):Prop:=o≠oNum∧¬(o=oVar∨o=oPre)∧¬(o=oIf∨o=oAnd∨o=oOr)
theorem J4G {o:ByteArray}(h:o∈[oEq,oNe,oTime,oTrue,oFalse,oInit,oNeg,oNot,oSample,oAdd,oSub,oMul,oDiv,oLess,oAtMost,oMore,oAtLeast]):IsOp o:=by
 have:(([oEq,oNe,oTime,oTrue,oFalse,oInit,oNeg,oNot,oSample,oAdd,oSub,oMul,oDiv,oLess,oAtMost,oMore,oAtLeast]:List ByteArray).all fun o=>!decide (o=oNum)&&!(decide (o=oVar)||decide (o=oPre))&&!(decide (o=oIf)||decide (o=oAnd)||decide (o=oOr)))=true:=by kernel_rfl
 have:=List.all_eq_true.1 this o h;simp only[Bool.and_eq_true,Bool.not_eq_true',Bool.or_eq_false_iff,decide_eq_false_iff_not] at this;exact ⟨this.1.1,by rintro (h|h);exact this.1.2.1 h;exact this.1.2.2 h,by rintro (h|h|h);exact this.2.1.1 h;exact this.2.1.2 h;exact this.2.2 h⟩
theorem J3n {o:ByteArray}(h:o=oIf∨o=oAnd∨o=oOr):o≠oNum∧¬(o=oVar∨o=oPre):=by rcases h with rfl|rfl|rfl<;>exact ⟨by decide,by decide⟩
section
variable {ks:List (ByteArray×Va)} {ev:Ev} {o t:ByteArray} {n:Int} {rs:List (Except Int Vl)}
theorem J1p (h:o=oNum):J6x ks ev o t n rs=.ok (.num (numV t)):=by unfold J6x;rw[if_pos h]
theorem J4M (h:o=oVar∨o=oPre):J6x ks ev o t n rs=J1s ks ev ⟨t,n,decide (o=oPre)⟩:=by
 unfold J6x;rw[if_neg (by rcases h with rfl|rfl<;>decide),if_pos h]
theorem J2Z (h:o=oIf∨o=oAnd∨o=oOr):J6x ks ev o t n rs=match rs.getD 0 (.error 0) with
  |.error c=>.error c
  |.ok v=>match J2j o v.truth with
    |some i=>rs.getD i (.error 0)
    |none=>.ok v:=by
 unfold J6x;rw[if_neg (J3n h).1,if_neg (J3n h).2,if_pos h]
 try rfl
theorem J16 (h:IsOp o):J6x ks ev o t n rs=match seqR rs with
  |.error c=>.error c
  |.ok vs=>wayF ev o vs:=by
 unfold J6x;rw[if_neg h.1,if_neg h.2.1,if_neg h.2.2]
 try rfl
end
theorem Shape.isOp {ks:List (ByteArray×Va)}{e:Ex}(h:Shape ks e):e.op=oNum∨(e.op=oVar∨e.op=oPre)∨(e.op=oIf∨e.op=oAnd∨e.op=oOr)∨IsOp e.op:=by
 rcases h with ⟨h⟩|⟨h⟩|⟨h⟩|⟨h⟩|⟨h⟩|⟨h⟩|⟨h⟩|⟨h⟩|⟨h⟩|⟨h⟩|⟨h⟩|⟨h⟩
 ·exact .inl h
 ·exact .inr (.inl h)
 ·exact .inr (.inr (.inl (.inl h)))
 ·exact .inr (.inr (.inl (.inr h)))
 all_goals
  refine .inr (.inr (.inr (J4G ?_)))
  first|(rcases h with h|h|h|h)|(rcases h with h|h|h)|(rcases h with h|h)|skip
 all_goals rw[h];simp
theorem J6D {ks:List (ByteArray×Va)}{ev:Ev}{e:Ex}(hb:builtF e=true)(hs:Shape ks e)(ho:IsOp e.op)(hk:∀ k∈e.kids,∀ v,evalF ks ev k=.ok v→v.type=(typeF ks k).1){vs:List Vl}(h:e.kids.map (evalF ks ev)=vs.map .ok):JIl e.op vs:=by
 have two:∀ {a b:Ex},e.kids=[a,b]→∃ x y,vs=[x,y]∧x.type=(typeF ks a).1∧y.type=(typeF ks b).1∧evalF ks ev a=.ok x∧evalF ks ev b=.ok y:=by
  intro a b he;rw[he] at h hk
  rcases vs with _|⟨x,_|⟨y,_|⟨z,r⟩⟩⟩<;>simp at h
  exact ⟨x,y,rfl,hk a (by simp) x h.1,hk b (by simp) y h.2,h.1,h.2⟩
 have one:∀ {a:Ex},e.kids=[a]→∃ x,vs=[x]∧x.type=(typeF ks a).1:=by
  intro a he;rw[he] at h hk
  rcases vs with _|⟨x,_|⟨z,r⟩⟩<;>simp at h
  exact ⟨x,rfl,hk a (by simp) x h⟩
 have number:∀ {v:Vl} {t:Int},v.type=t→t≠1→∃ q,v=.num q:=by
  intro v t h1 h2
  rcases ty01 v with ⟨_,h⟩|⟨h,_⟩
  ·exact h
  ·exact absurd (h1.symm.trans h) h2
 have truth:∀ {v:Vl} {t:Int},v.type=t→t=1→∃ b,v=.tr b:=by
  intro v t h1 h2
  rcases ty01 v with ⟨h,_⟩|⟨_,h⟩
  ·rw[h1,h2] at h;cases h
  ·exact h
 rcases hs with ⟨h1⟩|⟨h1⟩|⟨h1⟩|⟨h1⟩|⟨h1,a,b,he,hab,_⟩|⟨h1⟩|⟨h1⟩|⟨h1,a,he,ha,_⟩|⟨h1,a,he,ha,_⟩|⟨h1,a,b,he,ha,hb',h0,_⟩|⟨h1,a,b,he,ha,hb',_⟩|⟨h1,a,b,he,ha,hb',_⟩
 ·exact absurd h1 ho.1
 ·exact absurd h1 ho.2.1
 ·exact absurd (.inl h1) ho.2.2
 ·exact absurd (.inr h1) ho.2.2
 ·obtain ⟨x,y,rfl,hx,hy,_⟩:=two he;exact .inr (.inr (.inr (.inr (.inr ⟨h1,x,y,rfl,by rw[hx,hy,hab]⟩))))
 ·exact .inl (.inr (.inr (.inl h1)))
 ·refine .inl ?_
  rcases h1 with h1|h1|h1
  ·exact .inl h1
  ·exact .inr (.inl h1)
  ·exact .inr (.inr (.inr h1))
 ·obtain ⟨x,rfl,hx⟩:=one he;obtain ⟨q,rfl⟩:=number hx ha;exact .inr (.inr (.inl ⟨h1,q,rfl⟩))
 ·obtain ⟨x,rfl,hx⟩:=one he;obtain ⟨q,rfl⟩:=truth hx ha;exact .inr (.inr (.inr (.inl ⟨h1,q,rfl⟩)))
 ·obtain ⟨x,y,rfl,_,_,ex,ey⟩:=two he;rw[J1z,J1p ha] at ex;rw[J1z,J1p hb'] at ey;cases ex;cases ey;refine .inr (.inl ⟨h1,_,_,rfl,fun hq=>h0 (JAh ?_ hq)⟩);have hbb:=(J0B hb).2 b (by rw[he];simp);rw[J0w] at hbb;simp only[Bool.and_eq_true] at hbb;have hx:=hbb.1.1.2;unfold textF at hx;rw[if_pos hb'] at hx;simp only[Bool.and_eq_true] at hx;exact hx.1
 ·obtain ⟨x,y,rfl,hx,hy,_⟩:=two he;obtain ⟨p,rfl⟩:=number hx ha;obtain ⟨q,rfl⟩:=number hy hb';refine .inr (.inr (.inr (.inr (.inl ⟨?_,p,q,rfl⟩))))
  rcases h1 with h1|h1|h1|h1<;>simp[h1]
 ·obtain ⟨x,y,rfl,hx,hy,_⟩:=two he;obtain ⟨p,rfl⟩:=number hx ha;obtain ⟨q,rfl⟩:=number hy hb';refine .inr (.inr (.inr (.inr (.inl ⟨?_,p,q,rfl⟩))))
  rcases h1 with h1|h1|h1|h1<;>simp[h1]
def typeW (o:ByteArray):Int:=if o=oTime∨o=oNeg∨o=oAdd∨o=oSub∨o=oMul∨o=oDiv then 0 else 1
theorem JL4 {ev:Ev}{o:ByteArray}{vs:List Vl}(hw:JIl o vs){v:Vl}(h:wayF ev o vs=.ok v):v.type=typeW o:=by
 rcases hw with h1|⟨rfl,p,q,rfl,h0⟩|⟨rfl,p,rfl⟩|⟨rfl,c,rfl⟩|⟨h1,p,q,rfl⟩|⟨h1,a,b,rfl,hab⟩
 ·rcases h1 with rfl|rfl|rfl|rfl<;>(cases h;rfl)
 ·replace h:(.ok (.tr (multF (ev.time-p) q)):Except Int Vl)=.ok v:=h;cases h;rfl
 ·replace h:(.ok (.num (-p)):Except Int Vl)=.ok v:=h;cases h;rfl
 ·replace h:(.ok (.tr (!c)):Except Int Vl)=.ok v:=h;cases h;rfl
 ·rcases h1 with rfl | rfl | rfl | rfl | rfl | rfl | rfl | rfl
  ·replace h:(.ok (.num (p+q)):Except Int Vl)=.ok v:=h;cases h;rfl
  ·replace h:(.ok (.num (p-q)):Except Int Vl)=.ok v:=h;cases h;rfl
  ·replace h:(.ok (.num (p*q)):Except Int Vl)=.ok v:=h;cases h;rfl
  ·replace h:divV p q=.ok v:=h;unfold divV at h;split at h
   ·cases h
   ·cases h;rfl
  ·replace h:(.ok (.tr (decide (p<q))):Except Int Vl)=.ok v:=h;cases h;rfl
  ·replace h:(.ok (.tr (decide (p≤q))):Except Int Vl)=.ok v:=h;cases h;rfl
  ·replace h:(.ok (.tr (decide (q<p))):Except Int Vl)=.ok v:=h;cases h;rfl
  ·replace h:(.ok (.tr (decide (q≤p))):Except Int Vl)=.ok v:=h;cases h;rfl
 ·rcases a with p | x<;>rcases b with q | y<;>first | (cases hab;done) | skip
  ·rcases h1 with rfl | rfl
   ·replace h:(.ok (.tr (sameV (.num p) (.num q))):Except Int Vl)=.ok v:=h;cases h;rfl
   ·replace h:(.ok (.tr (!sameV (.num p) (.num q))):Except Int Vl)=.ok v:=h;cases h;rfl
  ·rcases h1 with rfl | rfl
   ·replace h:(.ok (.tr (sameV (.tr x) (.tr y))):Except Int Vl)=.ok v:=h;cases h;rfl
   ·replace h:(.ok (.tr (!sameV (.tr x) (.tr y))):Except Int Vl)=.ok v:=h;cases h;rfl
theorem Shape.typeW {ks:List (ByteArray×Va)}{e:Ex}(hs:Shape ks e)(ho:IsOp e.op):(typeF ks e).1=typeW e.op:=by
 rcases hs with ⟨h1⟩|⟨h1⟩|⟨h1⟩|⟨h1⟩|⟨h1,a,b,he,hab,ht⟩|⟨h1,he,ht⟩|⟨h1,he,ht⟩|⟨h1,a,he,ha,ht⟩|⟨h1,a,he,ha,ht⟩|⟨h1,a,b,he,ha,hb',h0,ht⟩|⟨h1,a,b,he,ha,hb',ht⟩|⟨h1,a,b,he,ha,hb',ht⟩
 ·exact absurd h1 ho.1
 ·exact absurd h1 ho.2.1
 ·exact absurd (.inl h1) ho.2.2
 ·exact absurd (.inr h1) ho.2.2
 all_goals
  rw[ht]
  first|(rcases h1 with h1|h1|h1|h1)|(rcases h1 with h1|h1|h1)|(rcases h1 with h1|h1)|skip
 all_goals (rw[h1];rfl)
theorem J9f {ks:List (ByteArray×Va)}{ev:Ev}(e:Ex):builtF e=true→(typeF ks e).2=true→∀ v,evalF ks ev e=.ok v→v.type=(typeF ks e).1:=by
 induction e using J1y with
 |h e ih=>
   intro hb ht v h;have ihk:∀ k∈e.kids,∀ v,evalF ks ev k=.ok v→v.type=(typeF ks k).1:=fun k hk=>ih k hk ((J0B hb).2 k hk) (J14 hb ht k hk);have hs:=J5p hb ht;rw[J1z] at h
   by_cases ho:IsOp e.op
   ·rw[J16 ho] at h;split at h
    ·cases h
    ·rename_i vs hvs;rw[hs.typeW ho];exact JL4 (J6D hb hs ho ihk (J9I hvs)) h
   rcases hs with ⟨h1,he,ht'⟩|⟨h1,he,w,hw,ht'⟩|⟨h1,a,b,c,he,ha,hb',hc⟩|⟨h1,a,b,he,ha,hb',ht'⟩|⟨h1⟩|⟨h1⟩|⟨h1⟩|⟨h1⟩|⟨h1⟩|⟨h1⟩|⟨h1⟩|⟨h1⟩
   ·rw[J1p h1] at h;cases h;rw[ht'];rfl
   ·rw[J4M h1] at h;rw[JK6 h,ht'];show J99 ks e.text=w.type
    unfold J99;rw[hw]
   ·rw[J2Z (.inl h1),he] at h;rw[he] at ihk
    have h:(match evalF ks ev a with
     |.error c=>.error c
     |.ok v=>match J2j e.op v.truth with
       |some i=>(List.map (evalF ks ev) [a,b,c]).getD i (.error 0)
       |none=>.ok v)=Except.ok v:=h
    split at h
    ·cases h
    ·rename_i x hx;unfold J2j at h;rw[if_pos h1] at h;cases hxt:x.truth
     ·rw[hxt] at h;have h:evalF ks ev c=.ok v:=h;rw[ihk c (by simp) v h,hc]
     ·rw[hxt] at h;have h:evalF ks ev b=.ok v:=h;rw[ihk b (by simp) v h,hb']
   ·rw[J2Z (.inr h1),he] at h;rw[he] at ihk
    have h:(match evalF ks ev a with
     |.error c=>.error c
     |.ok v=>match J2j e.op v.truth with
       |some i=>(List.map (evalF ks ev) [a,b]).getD i (.error 0)
       |none=>.ok v)=Except.ok v:=h
    split at h
    ·cases h
    ·rename_i x hx;unfold J2j at h;rw[if_neg (by rcases h1 with h1 | h1<;>rw[h1]<;>decide)] at h
     by_cases hd:decide (e.op=oAnd)=x.truth
     ·rw[if_pos hd] at h;have h:evalF ks ev b=.ok v:=h;rw[ihk b (by simp) v h,hb',ht']
     ·rw[if_neg hd] at h;cases h;rw[ihk a (by simp) v hx,ha,ht']
   all_goals
    exfalso;refine ho (J4G ?_)
    first|(rcases h1 with h1|h1|h1|h1)|(rcases h1 with h1|h1|h1)|(rcases h1 with h1|h1)|skip
   all_goals rw[h1];simp
theorem JIm {ev:Ev}{o:ByteArray}{vs:List Vl}(hw:JIl o vs){c:Int}(h:wayF ev o vs=.error c):c=12:=by
 rcases hw with h1|⟨rfl,p,q,rfl,h0⟩|⟨rfl,p,rfl⟩|⟨rfl,x,rfl⟩|⟨h1,p,q,rfl⟩|⟨h1,a,b,rfl,hab⟩
 ·rcases h1 with rfl|rfl|rfl|rfl<;>cases h
 ·replace h:(.ok (.tr (multF (ev.time-p) q)):Except Int Vl)=.error c:=h;cases h
 ·replace h:(.ok (.num (-p)):Except Int Vl)=.error c:=h;cases h
 ·replace h:(.ok (.tr (!x)):Except Int Vl)=.error c:=h;cases h
 ·rcases h1 with rfl | rfl | rfl | rfl | rfl | rfl | rfl | rfl
  ·replace h:(.ok (.num (p+q)):Except Int Vl)=.error c:=h;cases h
  ·replace h:(.ok (.num (p-q)):Except Int Vl)=.error c:=h;cases h
  ·replace h:(.ok (.num (p*q)):Except Int Vl)=.error c:=h;cases h
  ·replace h:divV p q=.error c:=h;unfold divV at h;split at h
   ·cases h;rfl
   ·cases h
  ·replace h:(.ok (.tr (decide (p<q))):Except Int Vl)=.error c:=h;cases h
  ·replace h:(.ok (.tr (decide (p≤q))):Except Int Vl)=.error c:=h;cases h
  ·replace h:(.ok (.tr (decide (q<p))):Except Int Vl)=.error c:=h;cases h
  ·replace h:(.ok (.tr (decide (q≤p))):Except Int Vl)=.error c:=h;cases h
 ·rcases a with p | x<;>rcases b with q | y<;>first | (cases hab;done) | skip
  ·rcases h1 with rfl | rfl
   ·replace h:(.ok (.tr (sameV (.num p) (.num q))):Except Int Vl)=.error c:=h;cases h
   ·replace h:(.ok (.tr (!sameV (.num p) (.num q))):Except Int Vl)=.error c:=h;cases h
  ·rcases h1 with rfl | rfl
   ·replace h:(.ok (.tr (sameV (.tr x) (.tr y))):Except Int Vl)=.error c:=h;cases h
   ·replace h:(.ok (.tr (!sameV (.tr x) (.tr y))):Except Int Vl)=.error c:=h;cases h
theorem JDH:∀ {rs:List (Except Int Vl)} {c:Int},seqR rs=.error c→.error c∈rs
 |.error d::r,c,h=>by cases h;exact List.mem_cons_self
 |.ok v::r,c,h=>by
   unfold seqR at h;split at h
   ·cases h
   ·rename_i d hd;cases h;exact List.mem_cons_of_mem _ (JDH hd)
def ErrC (c:Int):Prop:=c=5∨c=7∨c=12
theorem J4N {ks:List (ByteArray×Va)}{ev:Ev}(e:Ex):builtF e=true→(typeF ks e).2=true→∀ c,evalF ks ev e=.error c→ErrC c:=by
 induction e using J1y with
 |h e ih=>
   intro hb ht c h;have ihk:∀ k∈e.kids,∀ c,evalF ks ev k=.error c→ErrC c:=fun k hk=>ih k hk ((J0B hb).2 k hk) (J14 hb ht k hk);have hty:∀ k∈e.kids,∀ v,evalF ks ev k=.ok v→v.type=(typeF ks k).1:=fun k hk=>J9f k ((J0B hb).2 k hk) (J14 hb ht k hk);have hs:=J5p hb ht;rw[J1z] at h
   by_cases ho:IsOp e.op
   ·rw[J16 ho] at h;split at h
    ·rename_i d hd;cases h;obtain ⟨k,hk,h⟩:=List.mem_map.1 (JDH hd);exact ihk k hk _ h
    ·rename_i vs hvs;exact .inr (.inr (JIm (J6D hb hs ho hty (J9I hvs)) h))
   rcases hs with ⟨h1,he,ht'⟩|⟨h1,he,w,hw,ht'⟩|⟨h1,a,b,x,he,ha,hb',hc⟩|⟨h1,a,b,he,ha,hb',ht'⟩|⟨h1⟩|⟨h1⟩|⟨h1⟩|⟨h1⟩|⟨h1⟩|⟨h1⟩|⟨h1⟩|⟨h1⟩
   ·rw[J1p h1] at h;cases h
   ·rw[J4M h1] at h;unfold J1s at h;split at h
    ·cases h;exact .inl rfl
    ·split at h
     ·cases h;exact .inr (.inl rfl)
     ·cases h
   ·rw[J2Z (.inl h1),he] at h;rw[he] at ihk
    have h:(match evalF ks ev a with
     |.error c=>.error c
     |.ok v=>match J2j e.op v.truth with
       |some i=>(List.map (evalF ks ev) [a,b,x]).getD i (.error 0)
       |none=>.ok v)=Except.error c:=h
    split at h
    ·rename_i d hd;cases h;exact ihk a (by simp) _ hd
    ·rename_i y hy;unfold J2j at h;rw[if_pos h1] at h;cases hxt:y.truth
     ·rw[hxt] at h;exact ihk x (by simp) c h
     ·rw[hxt] at h;exact ihk b (by simp) c h
   ·rw[J2Z (.inr h1),he] at h;rw[he] at ihk
    have h:(match evalF ks ev a with
     |.error c=>.error c
     |.ok v=>match J2j e.op v.truth with
       |some i=>(List.map (evalF ks ev) [a,b]).getD i (.error 0)
       |none=>.ok v)=Except.error c:=h
    split at h
    ·rename_i d hd;cases h;exact ihk a (by simp) _ hd
    ·rename_i y hy;unfold J2j at h;rw[if_neg (by rcases h1 with h1 | h1<;>rw[h1]<;>decide)] at h
     by_cases hd:decide (e.op=oAnd)=y.truth
     ·rw[if_pos hd] at h;exact ihk b (by simp) c h
     ·rw[if_neg hd] at h;cases h
   all_goals
    exfalso;refine ho (J4G ?_)
    first|(rcases h1 with h1|h1|h1|h1)|(rcases h1 with h1|h1|h1)|(rcases h1 with h1|h1)|skip
   all_goals rw[h1];simp
theorem ErrC.ne {c:Int}(h:ErrC c):¬ c=0:=by rcases h with rfl|rfl|rfl<;>decide
def pq (q:Rat):Int×Nat:=(q.num,q.den)
def eQ (q:Rat):AV:=encR q.num q.den
theorem J3j (z:Int)(d:Nat)(hd:0<d):red z d=pq (Rat.divInt z d):=by
 obtain ⟨h1,h2⟩:=J2H z d (by omega);rw[show ((d:Int)).natAbs=d from rfl] at h1 h2;unfold red pq;refine Prod.ext h1.symm ?_;show d/Nat.gcd z.natAbs d=(Rat.divInt z d).den
 have e:=Int.natCast_ediv d (Nat.gcd z.natAbs d);omega
theorem JNB (z:Int):l4 z.natAbs≤3*zl z:=by
 unfold l4;refine J0D hB4 ?_;rw[Nat.pow_mul];exact Nat.lt_of_lt_of_le (J1c hB9 z.natAbs) (Nat.pow_le_pow_left (by decide) _)
theorem J2h (q:Rat):l4 q.num.natAbs≤3*szq q:=Nat.le_trans (JNB _) (Nat.mul_le_mul_left _ (J19 q))
theorem J2E (q:Rat):l4 q.den≤3*szq q:=Nat.le_trans (JNB (q.den:Int)) (Nat.mul_le_mul_left _ (J1D q))
theorem J0x (q:Rat):0<q.den:=by have:=q.den_nz;omega
theorem JKG (p q:Rat)(hp:szq p<2^32)(hq:szq q<2^32):PX 244 [eQ p,eQ q] (eQ (p+q)):=by
 have a1:=J2h p;have a2:=J2E p;have a3:=J2h q;have a4:=J2E q;have h:=JIF (pq p) (pq q) (J0x p) (J0x q) (by show l4 p.num.natAbs<_;omega) (by show l4 p.den<_;omega) (by show l4 q.num.natAbs<_;omega) (by show l4 q.den<_;omega)
 have e:JGY (pq p) (pq q)=pq (p+q):=by
  unfold JGY;show red (p.num*(q.den:Int)+q.num*(p.den:Int)) (p.den*q.den)=_
  rw[J3j _ _ (Nat.mul_pos (J0x p) (J0x q)),J2O,Int.natCast_mul]
 rw[e] at h;exact h
theorem J8A (p q:Rat):p-q=Rat.divInt (p.num*q.den-q.num*p.den) (p.den*q.den):=by
 rw[Rat.sub_eq_add_neg,J2O,Rat.neg_num,Rat.neg_den,Int.neg_mul,← Int.sub_eq_add_neg]
theorem JBo (p q:Rat)(hp:szq p<2^32)(hq:szq q<2^32):PX 210 [eQ p,eQ q] (eQ (p-q)):=by
 have a1:=J2h p;have a2:=J2E p;have a3:=J2h q;have a4:=J2E q;have h:=JE6 (pq p) (pq q) (J0x p) (J0x q) (by show l4 p.num.natAbs<_;omega) (by show l4 p.den<_;omega) (by show l4 q.num.natAbs<_;omega) (by show l4 q.den<_;omega)
 have e:red ((pq p).1*(pq q).2-(pq q).1*(pq p).2) ((pq p).2*(pq q).2)=pq (p-q):=by
  show red (p.num*(q.den:Int)-q.num*(p.den:Int)) (p.den*q.den)=_
  rw[J3j _ _ (Nat.mul_pos (J0x p) (J0x q)),J8A,Int.natCast_mul]
 rw[e] at h;exact h
theorem JLO (z:Int)(d:Nat)(hd:0<d):sgn (red z d).1=sgn z:=by
 obtain ⟨r1,r2⟩:=JCK z d hd;unfold sgn
 by_cases h0:z=0
 ·subst h0;rw[J9K d hd]
 ·have hne:(red z d).1≠0:=fun e=>by
   rw[e] at r1;have hg:0<Nat.gcd z.natAbs d:=Nat.gcd_pos_of_pos_right _ hd;have:=Nat.div_pos (Nat.le_of_dvd (by omega) (Nat.gcd_dvd_left z.natAbs d)) hg;simp at r1;omega
  rw[if_neg hne,if_neg h0]
  by_cases h1:z<0
  ·rw[if_pos h1,if_pos (r2.2 h1)]
  ·rw[if_neg h1,if_neg (fun h=>h1 (r2.1 h))]
theorem J7g (p q:Rat)(hp:szq p<2^32)(hq:szq q<2^32):PX 306 [eQ p,eQ q] (encI (sgn (p-q).num)):=by
 have a1:=J2h p;have a2:=J2E p;have a3:=J2h q;have a4:=J2E q;have h:=J8x (pq p) (pq q) (J0x p) (J0x q) (by show l4 p.num.natAbs<_;omega) (by show l4 p.den<_;omega) (by show l4 q.num.natAbs<_;omega) (by show l4 q.den<_;omega);have hd:=Nat.mul_pos (J0x p) (J0x q)
 have e:sgn ((pq p).1*(pq q).2-(pq q).1*(pq p).2)=sgn (p-q).num:=by
  rw[← JLO _ _ hd,J3j _ _ hd,J8A,Int.natCast_mul];rfl
 rw[e] at h;exact h
theorem JBl (q:Rat):PX 129 [eQ q] (eQ (-q)):=by
 have h:=J3w q.num q.den;unfold eQ;rw[Rat.neg_num,Rat.neg_den];exact h
theorem JKA (q:Rat):PX 166 [eQ q] (encB (decide (q=0))):=by
 have h:=JE1 q.num q.den;rw[decide_eq_decide.2 (Rat.num_eq_zero (q:=q))] at h;exact h
theorem JI2 (q:Rat)(h:szq q<2^32):PX 170 [eQ q] (encB (decide (q.den=1))):=by
 have a2:=J2E q;exact J7a q.num q.den (by omega)
theorem JMv (x y:Int)(h:x*y≠0):(decide (x<0) != decide (y<0))=decide (x*y<0):=by
 have hx:x≠0:=fun e=>h (by rw[e,Int.zero_mul]);have hy:y≠0:=fun e=>h (by rw[e,Int.mul_zero])
 rcases Int.lt_or_gt_of_ne hx with h1|h1<;>rcases Int.lt_or_gt_of_ne hy with h2|h2
 ·have:=Int.mul_pos_of_neg_of_neg h1 h2;rw[decide_eq_true h1,decide_eq_true h2,decide_eq_false (by omega)];rfl
 ·have:=Int.mul_neg_of_neg_of_pos h1 h2;rw[decide_eq_true h1,decide_eq_false (by omega),decide_eq_true this];rfl
 ·have:=Int.mul_neg_of_pos_of_neg h1 h2;rw[decide_eq_false (by omega),decide_eq_true h2,decide_eq_true this];rfl
 ·have:=Int.mul_pos h1 h2;rw[decide_eq_false (by omega),decide_eq_false (by omega),decide_eq_false (by omega)];rfl
theorem JI7 (p q:Rat)(hp:szq p<2^32)(hq:szq q<2^32):PX 245 [eQ p,eQ q] (eQ (p*q)):=by
 refine PZ Tryz.func245 rfl ?_;have a1:=J2h p;have a2:=J2E p;have a3:=J2h q;have a4:=J2E q;have b1:=J6o p.num.natAbs q.num.natAbs;have b2:=J6o p.den q.den;have h1:=J1Y p.num.natAbs q.num.natAbs (by show l4 _<_;omega) (by show l4 _<_;omega);have h2:=J1Y p.den q.den (by show l4 _<_;omega) (by show l4 _<_;omega);have h3:=J4E (p.num*q.num) (decide (p.num<0) != decide (q.num<0)) (JMv _ _) (p.den*q.den) (Nat.mul_pos (J0x p) (J0x q)) (by rw[Int.natAbs_mul];omega) (by omega);rw[Int.natAbs_mul,J3j _ _ (Nat.mul_pos (J0x p) (J0x q))] at h3;rw[J3I,← Int.natCast_mul];generalize Rat.divInt (p.num*q.num) ((p.den*q.den:Nat):Int)=r at *;unfold eR pq eQ encR at *;refine kWQ ?_;intros;refine CallG.intro _ c268 h1 ?_;refine kWQ ?_;intros;refine CallG.intro _ c268 h2 ?_;refine kWQ ?_;intros;refine CallG.intro _ c246 h3 ?_;refine kWQ ?_;intros;exact .of rfl
theorem JMC (p q:Rat)(h0:q≠0):0<p.den*q.num.natAbs∧∃ z:Int,z.natAbs=p.num.natAbs*q.den∧(z≠0→(decide (p.num<0) != decide (q.num<0))=decide (z<0))∧red z (p.den*q.num.natAbs)=pq (p/q):=by
 have hn:=JDV h0;have hd:0<p.den*q.num.natAbs:=Nat.mul_pos (J0x p) (by omega);refine ⟨hd,?_⟩;have hdq:=J0x q
 have sg:∀ x:Int,x*(q.den:Int)<0↔x<0:=fun x=>by
  constructor
  ·intro h
   rcases Int.lt_or_le x 0 with h1|h1
   ·exact h1
   ·have:=Int.mul_nonneg h1 (show (0:Int)≤q.den by omega);omega
  ·intro h;exact Int.mul_neg_of_neg_of_pos h (by omega)
 by_cases h1:q.num<0
 ·refine ⟨-(p.num*q.den),by rw[Int.natAbs_neg,Int.natAbs_mul];rfl,fun hz=>?_,?_⟩
  ·have h2:=sg p.num;have hp:p.num≠0:=fun e=>hz (by rw[e,Int.zero_mul];rfl);rw[decide_eq_true h1]
   by_cases h3:p.num<0
   ·have h4:=h2.2 h3;rw[decide_eq_true h3,decide_eq_false (by omega)];rfl
   ·have h4:¬ p.num*(q.den:Int)<0:=fun h=>h3 (h2.1 h);rw[decide_eq_false h3,decide_eq_true (by omega)];rfl
  ·rw[J3j _ _ hd,J3Q,← J3r (p.num*q.den) _ (Int.mul_ne_zero (J2I p) hn),Int.natCast_mul];have e:((q.num.natAbs:Nat):Int)=-q.num:=by omega
   rw[e,Int.mul_neg]
 ·refine ⟨p.num*q.den,by rw[Int.natAbs_mul];rfl,fun hz=>?_,?_⟩
  ·have h2:=sg p.num;rw[decide_eq_false h1,decide_eq_decide.2 h2];cases decide (p.num<0)<;>rfl
  ·rw[J3j _ _ hd,J3Q,Int.natCast_mul];have e:((q.num.natAbs:Nat):Int)=q.num:=by omega
   rw[e]
theorem JE4 (p q:Rat)(hp:szq p<2^32)(hq:szq q<2^32)(h0:q≠0):PX 167 [eQ p,eQ q] (eQ (p/q)):=by
 refine PZ Tryz.func167 rfl ?_;have a1:=J2h p;have a2:=J2E p;have a3:=J2h q;have a4:=J2E q;have b1:=J6o p.num.natAbs q.den;have b2:=J6o p.den q.num.natAbs;have h1:=J1Y p.num.natAbs q.den (by show l4 _<_;omega) (by show l4 _<_;omega);have h2:=J1Y p.den q.num.natAbs (by show l4 _<_;omega) (by show l4 _<_;omega);obtain ⟨hd,z,hz,hs,hr⟩:=JMC p q h0;have h3:=J4E z (decide (p.num<0) != decide (q.num<0)) hs (p.den*q.num.natAbs) hd (by rw[hz];omega) (by omega);rw[hz,hr] at h3;generalize p/q=r at *;unfold eR pq eQ encR at *;refine kWQ ?_;intros;refine CallG.intro _ c268 h1 ?_;refine kWQ ?_;intros;refine CallG.intro _ c268 h2 ?_;refine kWQ ?_;intros;refine CallG.intro _ c246 h3 ?_;refine kWQ ?_;intros;exact .of rfl
theorem JI8 (p q:Rat)(hp:szq p<2^30)(hq:szq q<2^30)(h0:q≠0):PX 209 [eQ p,eQ q] (encB (multF p q)):=by
 refine PZ Tryz.func209 rfl ?_;have h1:=JA8 p.num p.den;have h2:=JE4 p q (by omega) (by omega) h0;have h3:=JI2 (p/q) (by have:=JG1 p q h0;omega);have hn:=J57 p.num;generalize hF:multF p q=F;unfold multF at hF;generalize p/q=r at *;unfold eQ encR at *;refine kWQ ?_;intros;refine CallP.flat [] _ c259 h1 rfl ?_;refine kWQ ?_;intros
 by_cases h4:0≤p.num
 ·have h5:=hn.2 h4;rw[decide_eq_true h4,Bool.true_and] at hF;subst hF;refine kWQ ?_;intros;refine J00 [] _ c167 h2 ?_;refine kWQ ?_;intros;refine CallP.flat [] _ c170 h3 rfl ?_;refine kWQ ?_;intros;exact .of rfl
 ·have h5:¬ 0≤sgn p.num:=fun h=>h4 (hn.1 h);rw[decide_eq_false h4,Bool.false_and] at hF;subst hF;refine kWQ ?_;intros;exact .of rfl
theorem JMc (l:List UInt8)(hl:l.length<2^35)(n:Int)(d:Nat)(hx:readR l=some (n,d)):PX 208 [encS (ofL l)] (encR n d):=by
 refine PZ Tryz.func208 rfl ?_;obtain ⟨t,m,hr,htl,hm⟩:=JAb l;rw[hr] at hx;clear hr;obtain ⟨p1,p2,p3,p4,p5⟩:=J3G t;unfold J5h at hx;have hsz:=J04 l
 have hstart:(m=true∧0<l.length∧byteAt (ofL l) 0=45∧(ofL l).extract 1 (ofL l).size=ofL t)∨(m=false∧t=l∧(l.length=0∨0<l.length∧byteAt (ofL l) 0≠45)):=by
  rcases hm with ⟨h1,h2⟩|⟨h1,h2,h3⟩
  ·refine .inl ⟨h1,by rw[h2];simp,by rw[h2,J0c _ 0 (by simp)];rfl,?_⟩;rw[h2,J07,J04,List.take_length];rfl
  ·refine .inr ⟨h1,h2,?_⟩
   cases l with
   |nil=>exact .inl rfl
   |cons c r=>
     refine .inr ⟨by simp,?_⟩;rw[J0c _ 0 (by simp)];have:=h3 c r rfl;intro e;apply this;apply UInt8.toNat.inj;have e2:((c.toNat:Nat):Int)=45:=e;rw[show (45:UInt8).toNat=45 from rfl];omega
 clear hm;obtain ⟨p,hpl⟩:∃ p,(J03 t).1.length=p:=⟨_,rfl⟩;rw[hpl] at p1 p2 p3 p4 p5;have hx0:(ofL t).extract 0 p=ofL (J03 t).1:=by rw[J07,List.drop_zero,← p2]
 have hx1:p<t.length→(ofL t).extract (p+1) (ofL t).size=ofL (J03 t).2.1:=fun h=>by rw[(p4 h).2.1,J07,J04,List.take_length]
 have p6:∀ h:p<t.length,(J03 t).2.2=true∧byteAt (ofL t) p=47∧(J03 t).2.1.length≤t.length:=fun h=>by
  obtain ⟨a,b,c⟩:=p4 h;refine ⟨a,by rw[J0c _ _ h,c];rfl,by rw[b];simp⟩
 have p7:∀ j,j<p→¬ byteAt (ofL t) j=47:=fun j h e=>p3 j (by omega) h (by
  rw[J0c _ _ (by omega)] at e;apply UInt8.toNat.inj
  rw[show (47:UInt8).toNat=47 from rfl];omega)
 have hst:=J04 t
 have hd:digB (J03 t).1=true:=by
  cases h:digB (J03 t).1 with
  |true=>rfl
  |false=>rw[h,if_pos rfl] at hx;cases hx
 rw[hd,if_neg (by decide)] at hx;have lr:=J3E (J03 t).1 (J3R _ hd).1 (by omega)
 have kr : p<t.length→PX 304 [encS (ofL (J03 t).2.1)] (encN (decU (J03 t).2.1))∧AV.agg [encB m,encN (decU (J03 t).1),encN (decU (J03 t).2.1)]=encR n d:=by
  intro h;rw[if_pos (p6 h).1] at hx
  cases h2:digB (J03 t).2.1 with
  |false=>rw[h2,if_pos rfl] at hx;cases hx
  |true=>
    rw[h2,if_neg (by decide)] at hx;refine ⟨J3E _ (J3R _ h2).1 (by have:=(p6 h).2.2;omega),?_⟩;split at hx
    ·cases hx
    ·split at hx
     ·cases hx
     ·rename_i hz;cases hx;exact J9i m _ _ hz
 have nr:t.length≤p→AV.agg [encB m,encN (decU (J03 t).1),encN 1]=encR n d:=by
  intro h;rw[if_neg (by rw[p5 h];decide)] at hx;split at hx
  ·cases hx
  ·rename_i hz;cases hx;exact J9i m _ _ hz
 clear p2 p3 p4 hx hd;generalize (J03 t).1=top at *;generalize (J03 t).2.1=low at *;generalize (J03 t).2.2=ok at *;have one:PX 247 [.val (.int .u64 1)] (encN 1):=J4B 1 (by decide)
 rcases hstart with ⟨hm,h0,hb,hx⟩|⟨hm,ht,h0⟩
 case' inl=>
  refine kWO ?_;intros;rw[show byteAt (ofL l) (Int.toNat 0)=45 from hb];refine kO ?_;intros
 case' inr=>rcases h0 with h0|⟨h0,hb⟩
 case' inr.inl=>
  refine kWO ?_;intros
 case' inr.inr=>
  refine kWO ?_;intros;refine CondP.neg (by exact hb) ?_;refine kWO ?_;intros
 all_goals
  refine LoopP.intro (fun k σ H=>∃ g i,i≤p∧k=p-i∧σ=fr [(0,encS (ofL t)),(2,.op 2 g 0 0),(3,encB m),(4,encI i)]∧H=hp [(2,g,⟨140,3,[nilR]⟩)]) ?_ ?_
  ·refine .intro <| W.of ⟨_,_,0,Nat.zero_le _,rfl,rfl,rfl⟩ ⟨?_,rfl,?_,rfl,trivial⟩ ⟨rfl,trivial⟩
   ·first
     |exact congrArg encS hx
     |(rw[ht];rfl)
   ·rw[hm]
    first
     |rfl
     |exact congrArg encB (decide_eq_false hb)
  ·clear hsz hm
   try clear h0
   try clear hb
   try clear hx
   rintro k σ H ⟨g,i,hi,rfl,rfl,rfl⟩
   rcases Nat.lt_or_ge i p with h1|h1
   ·have h47:=p7 i h1;refine kWO ?_;intros;simp only[Int.toNat_natCast];refine kO ?_;intros
    exact .intro <| W.of ⟨_,by omega,_,i+1,by omega,rfl,rfl,rfl⟩ ⟨rfl,rfl,rfl,rfl,trivial⟩ ⟨rfl,trivial⟩
   obtain rfl:i=p:=by omega
   rcases Nat.lt_or_ge i t.length with h2|h2
   ·obtain ⟨q1,q2,q3⟩:=p6 h2;obtain ⟨kr1,kr2⟩:=kr h2;have hx2:=hx1 h2;have e1:((i:Int)+1).toNat=i+1:=by omega
    refine kWO ?_;intros;simp only[Int.toNat_natCast];refine kO ?_;intros;refine J00 [] _ c247 one ?_;refine kWO ?_;intros;simp only[e1,hx2];refine J00 [] _ c304 kr1 ?_;refine kWO ?_;intros;simp only[Int.toNat_natCast,hx0];refine J00 [] _ c304 lr ?_;refine kWO ?_;intros;exact .of kr2
   ·have q1:=p5 h2;have nr:=nr h2;refine kWO ?_;intros;refine J00 [] _ c247 one ?_;refine kWO ?_;intros;simp only[Int.toNat_natCast,hx0];refine J00 [] _ c304 lr ?_;refine kWO ?_;intros;exact .of nr
theorem J4T {n:Int}{d:Nat}(h:okR (n,d)):(Rat.divInt n d).num=n∧(Rat.divInt n d).den=d:=by
 obtain ⟨hd,hg,_,_⟩:=h;have hd:0<d:=hd;have h1:=J3j n d hd;have hg:Nat.gcd n.natAbs d=1:=hg;unfold red pq at h1;rw[hg] at h1;have h2:=congrArg Prod.fst h1;have h3:=congrArg Prod.snd h1;simp only[Nat.div_one] at h2 h3;have h4:n/((1:Nat):Int)=n:=by omega
 rw[h4] at h2;exact ⟨h2.symm,h3.symm⟩
theorem JE7 (t:ByteArray)(ht:t.size<2^35)(h:(J05 t.data.toList).2=true):PX 208 [encS t] (eQ (numV t)):=by
 obtain ⟨n,d,h1,h2,h3,h4⟩:=J6a h;have:=JMc t.data.toList (by show t.size<_;exact ht) n d h1;rw[J0z] at this;unfold eQ;rw[h3,(J4T h2).1,(J4T h2).2];exact this
theorem JE3 (t:ByteArray)(ht:t.size<2^35)(h:(J05 t.data.toList).2=true):PX 204 [encS t] (.tup [eQ (numV t),encB true]):=by
 obtain ⟨n,d,h1,h2,h3,h4⟩:=J6a h;have:=J7c t.data.toList (by show t.size<_;exact ht);rw[J0z,h1] at this;unfold eQ;rw[h3,(J4T h2).1,(J4T h2).2];exact this
theorem JKL (q:Rat)(h:szq q<2^32):PX 84 [eQ q] (encB (shortV (.num q))):=by
 refine PZ Tryz.func84 rfl ?_;have a1:=J2h q;have a2:=J2E q;have h1:=J55 q.num.natAbs (by show l4 _<_;omega);have h2:=J55 q.den (by show l4 _<_;omega);generalize hF:shortV (.num q)=F
 have hF:(decide (((decT q.num.natAbs).length:Int)≤300)&&decide (((decT q.den).length:Int)≤300))=F:=by
  rw[← hF];show _=(decide ((decT q.num.natAbs).length≤300)&&decide ((decT q.den).length≤300))
  rw[decide_eq_decide.2 (show ((decT q.num.natAbs).length:Int)≤300↔(decT q.num.natAbs).length≤300 by omega),decide_eq_decide.2 (show ((decT q.den).length:Int)≤300↔(decT q.den).length≤300 by omega)]
 unfold eQ encR at *;generalize (decT q.num.natAbs).length=x at *;generalize (decT q.den).length=y at *;refine kWQ ?_;intros;refine CallP.flat [] _ c168 h1 rfl ?_;refine kWQ ?_;intros;refine CondP.dec (fun h4=>?_) (fun h4=>?_)<;>refine kW ?_
 ·rw[decide_eq_true h4,Bool.true_and] at hF;refine kQ ?_;intros;refine CallP.flat [] _ c168 h2 rfl ?_;refine kWQ ?_;intros;exact .of (by rw[← hF];rfl)
 ·rw[decide_eq_false h4,Bool.false_and] at hF;refine kQ ?_;intros;exact .of (by rw[← hF];rfl)
def evFn (ks:List (ByteArray×Va))(ev:Ev):Nat→AV
 |0=>.dead
 |n+1=>.fn (.func 200) [] [.ep (encK ks) 0,.ep (J1L ev) 0,.ep (evFn ks ev n) 0,.ep wayM 0]
theorem JJR {e k:Ex}(h:k∈e.kids):SizeOf.sizeOf k<SizeOf.sizeOf e:=by
 cases e with
 |mk o t m ks=>
   have:=List.sizeOf_lt_of_mem (show k∈ks from h);simp;omega
theorem J95:∀ es:List Ex,es.length≤wtL es
 |[]=>Nat.zero_le _
 |e::es=>by
   unfold wtL;have:=J95 es;have:=J6B e;simp only[List.length_cons];omega
theorem JNr {b p e n:Nat}{H:Hp}{out:List Vl}(hb:H b=some (p,⟨e,6,out.map J0I⟩))(hn:n=out.length):snap [b] H (.own b p 0 n)=J5H out:=by
 rw[J2T (by simp) hb (by simp[hn]),J0t _ _ _ _ hn fun v=>by cases v<;>rfl];rfl
def JEh (ev:Ev)(o:ByteArray)(vs:List Vl)(rs:List (Except Int Vl)):Except Int Vl:=match seqR rs with
 |.error c=>.error c
 |.ok r=>wayF ev o (vs++r)
theorem JJ8 (ev:Ev)(o:ByteArray)(vs:List Vl)(v:Vl)(rs:List (Except Int Vl)):JEh ev o vs (.ok v::rs)=JEh ev o (vs++[v]) rs:=by
 unfold JEh;rw[show seqR (.ok v::rs)=match seqR rs with|.ok l=>.ok (v::l)|.error c=>.error c from rfl]
 cases seqR rs with
 |error c=>rfl
 |ok l=>simp
def hpE (g5 g6 gl:Nat)(e:AV)(vs:List Vl):List (Nat×Nat×Blk):=[(5,g5,⟨42,4,[e]⟩),(6,g6,⟨165,6,[J1G nilQ false false]⟩),(93,gl,⟨165,6,vs.map J0I⟩)]
theorem JKN (ks:List (ByteArray×Va))(ev:Ev)(he:EvOk ev)(e:Ex):SzE e→TxE e→builtF e=true→(typeF ks e).2=true→wtF e≤1000→∀ n,SizeOf.sizeOf e≤n →
  PX 200 [encE e,.ep (encK ks) 0,.ep (J1L ev) 0,.ep (evFn ks ev n) 0,.ep wayM 0] (J25 (evalF ks ev e)):=by
 induction e using J1y with
 |h e ih=>
   intro hz hx hb ht hw n hn;have hpos:0<SizeOf.sizeOf e:=by cases e;simp;omega
   obtain ⟨m,rfl⟩:∃ m,n=m+1:=⟨n-1,by omega⟩;have hm:∀ k∈e.kids,SizeOf.sizeOf k≤m:=fun k hk=>by have:=JJR hk;omega
   have ihk:∀ k∈e.kids,PX 200 [encE k,.ep (encK ks) 0,.ep (J1L ev) 0,.ep (evFn ks ev m) 0,.ep wayM 0] (J25 (evalF ks ev k)):=
    fun k hk=>ih k hk (hz.kid k hk) (hx.kid k hk) ((J0B hb).2 k hk) (J14 hb ht k hk) (by have:=JD2 hk;omega) m (hm k hk)
   clear ih;have hty:∀ k∈e.kids,∀ v,evalF ks ev k=.ok v→v.type=(typeF ks k).1:=fun k hk=>J9f k ((J0B hb).2 k hk) (J14 hb ht k hk);have herr:∀ k∈e.kids,∀ c,evalF ks ev k=.error c→¬ c=0:=fun k hk c h=>(J4N k ((J0B hb).2 k hk) (J14 hb ht k hk) c h).ne;have hsz:∀ k∈e.kids,∀ v,evalF ks ev k=.ok v→v.sz≤301*wtF k:=fun k hk=>J5z he k ((J0B hb).2 k hk);have hs:=J5p hb ht;have hso:=hs.isOp;have hwt:wtL e.kids≤1000:=by have:=J6B e;omega
   have hlen:e.kids.length≤1000:=Nat.le_trans (J95 _) hwt;have htx:=hx.tx
   have htxt:e.op=oNum→(J05 e.text.data.toList).2=true:=by
    intro h1;have hx:textF e=true:=by rw[J0w] at hb;simp only[Bool.and_eq_true] at hb;exact hb.1.1.2
    unfold textF at hx;rw[if_pos h1] at hx;simp only[Bool.and_eq_true] at hx;exact hx.1
   have hUse:=JNd e;have hBound:=JKP ks ev (useF e);have hway:=fun (vs:List Vl) (ho:IsOp e.op) (h:e.kids.map (evalF ks ev)=vs.map .ok)=>J6D hb hs ho hty h
   have hfirst:e.op=oIf∨e.op=oAnd∨e.op=oOr→0<e.kids.length∧∀ t i,J2j e.op t=some i→i<e.kids.length:=by
    intro h
    rcases hs with ⟨h1⟩|⟨h1⟩|⟨h1,a,b,c,hk,_⟩|⟨h1,a,b,hk,_⟩|⟨h1⟩|⟨h1⟩|⟨h1⟩|⟨h1⟩|⟨h1⟩|⟨h1⟩|⟨h1⟩|⟨h1⟩
    ·exact absurd h1 (J3n h).1
    ·exact absurd h1 (J3n h).2
    ·rw[hk];refine ⟨by simp,fun t i hi=>?_⟩;unfold J2j at hi;rw[if_pos h1] at hi;cases t<;>cases hi<;>simp
    ·rw[hk];refine ⟨by simp,fun t i hi=>?_⟩;unfold J2j at hi;rw[if_neg (by rcases h1 with h1 | h1<;>rw[h1]<;>decide)] at hi;split at hi
     ·cases hi;simp
     ·cases hi
    all_goals
     exfalso
     have hop:IsOp e.op:=J4G (by
      first|(rcases h1 with h1|h1|h1|h1)|(rcases h1 with h1|h1|h1)|(rcases h1 with h1|h1)|skip
      all_goals rw[h1];simp)
     exact hop.2.2 h
   have hNext:=fun t=>JMa e t;clear hz hx hb ht hw hn hm hs;refine PZ Tryz.func200 rfl ?_;generalize hF:evalF ks ev e=F;rw[J1z] at hF;rw[J02] at hUse hNext ⊢;generalize hus:useF e=us at *;obtain ⟨o,t,od,es⟩:=e;simp only[Ex.op,Ex.text,Ex.order,Ex.kids] at *
   rcases hso with h1|h1|h1|h1
   ·rw[J1p h1] at hF;obtain ⟨hq1,hq2⟩:=J3m (htxt h1);have hp:=J36 t.data.toList htx;rw[J0z,JDM,← hq1] at hp;have hN:=J2P (numV t);generalize numV t=q at *;generalize (J05 t.data.toList).2=b at *;unfold encF encQ at hp;(refine kWS ?_;repeat intro γ);refine J00 [] _ c113 hp ?_;(refine kWS ?_;repeat intro γ);refine J00 [] _ c201 hN ?_;(refine kWS ?_;repeat intro γ);exact .of (by rw[← hF];rfl)
   ·rw[J4M h1] at hF;replace hF:J1s ks ev us=F:=by rw[← hus];exact hF
    rw[hF] at hBound
    have hcond:¬ o=oNum:=by rcases h1 with rfl|rfl<;>decide
    by_cases h2:o=oVar
    case' neg=>have h3:o=oPre:=h1.resolve_left h2
    all_goals
     (refine kWS ?_;repeat intro γ);refine CallG.intro _ c132 hUse ?_;(refine kWS ?_;repeat intro γ);refine CallG.intro _ c202 hBound ?_
     rcases F with c|q|b
     all_goals
      (refine kWS ?_;repeat intro γ);exact .of rfl
   ·rw[J2Z h1] at hF;have n1:¬ o=oNum:=(J3n h1).1;have n2:¬ o=oVar:=fun h=>(J3n h1).2 (.inl h);have n3:¬ o=oPre:=fun h=>(J3n h1).2 (.inr h);obtain ⟨hl0,hnx⟩:=hfirst h1;have hk0:=ihk _ (List.getElem_mem hl0);have he0:=herr _ (List.getElem_mem hl0);have h0:(es.map (evalF ks ev)).getD 0 (.error 0)=evalF ks ev es[0]:=by rw[List.getD_eq_getElem?_getD,List.getElem?_map,List.getElem?_eq_getElem hl0];rfl
    rw[h0] at hF
    have g0:(es.map encE).getD (Int.toNat 0) .dead=encE es[0]:=by
     show (es.map encE).getD 0 .dead=_
     rw[List.getD_eq_getElem?_getD,List.getElem?_map,List.getElem?_eq_getElem hl0];rfl
    generalize es[0]=k0 at *
    by_cases h4:o=oIf
    case' neg=>
     by_cases h5:o=oAnd
     case' neg=>have h6:o=oOr:=(h1.resolve_left h4).resolve_left h5
    all_goals
     rw[J02] at g0 hk0;(refine kWS ?_;repeat intro γ);rw[g0];(refine kWS ?_;repeat intro γ);refine CallG.intro _ c200 hk0 ?_
     rcases hr:evalF ks ev k0 with c|v
     ·rw[hr] at hF;have hc:=he0 c hr;replace hF:Except.error c=F:=hF;(refine kWS ?_;repeat intro γ);exact .of (by rw[← hF];rfl)
     ·rw[hr] at hF;clear he0 hr
      replace hF:(match J2j o v.truth with
       |some i=>(List.map (evalF ks ev) es).getD i (.error 0)
       |none=>.ok v)=F:=hF
      have hN:=hNext v.truth (hnx v.truth);have hnx:=hnx v.truth
      rcases hni:J2j o v.truth with _|i
      ·rw[hni] at hN hF;replace hF:Except.ok v=F:=hF;replace hN:PX 158 [.agg [encS o,encS t,encI od,.sl 4 (es.map encE)],encB v.truth] (.tup [nilE,encB false]):=hN
       rcases v with q|b
       all_goals
        unfold J25 J0I J1G
        try unfold encF encQ
        (refine kWS ?_;repeat intro γ);refine J00 [] _ c158 hN ?_;(refine kWS ?_;repeat intro γ);exact .of (by rw[← hF];rfl)
      ·rw[hni] at hN hF;have hi:=hnx i hni;have hki:=ihk _ (List.getElem_mem hi);have gi:(es.map encE).getD i .dead=encE es[i]:=by rw[List.getD_eq_getElem?_getD,List.getElem?_map,List.getElem?_eq_getElem hi];rfl
       have fi:(es.map (evalF ks ev)).getD i (.error 0)=evalF ks ev es[i]:=by rw[List.getD_eq_getElem?_getD,List.getElem?_map,List.getElem?_eq_getElem hi];rfl
       replace hF:(es.map (evalF ks ev)).getD i (.error 0)=F:=hF;rw[fi] at hF;replace hN:PX 158 [.agg [encS o,encS t,encI od,.sl 4 (es.map encE)],encB v.truth] (.tup [(es.map encE).getD i .dead,encB true]):=hN;rw[gi] at hN;generalize es[i]=k at *;rw[J02 k] at hN hki;rw[hF] at hki
       rcases v with q|b
       all_goals
        unfold J25 J0I J1G
        try unfold encF encQ
        (refine kWS ?_;repeat intro γ);refine J00 [] _ c158 hN ?_;(refine kWS ?_;repeat intro γ);refine J00 [] _ c200 hki ?_
        rcases F with c|q|b
        all_goals
         (refine kWS ?_;repeat intro γ);exact .of rfl
   ·rw[J16 h1] at hF;have n1:¬ o=oNum:=h1.1;have n2:¬ o=oVar:=fun h=>h1.2.1 (.inl h);have n3:¬ o=oPre:=fun h=>h1.2.1 (.inr h);have n4:¬ o=oIf:=fun h=>h1.2.2 (.inl h);have n5:¬ o=oAnd:=fun h=>h1.2.2 (.inr (.inl h));have n6:¬ o=oOr:=fun h=>h1.2.2 (.inr (.inr h));have hsq:∀ vs:List Vl,(es.map (evalF ks ev))=vs.map .ok→Way ev o vs:=fun vs h=>JMq ev o vs (hway vs h1 h) (by have:=JG0 hsz h;have:=he.1;omega);clear hNext hBound hUse hus hfirst hway hsz hty htxt;replace hF:JEh ev o [] (es.map (evalF ks ev))=F:=by rw[← hF];rfl
    (refine kWS ?_;repeat intro γ)
    refine LoopP.intro (fun j σ H=>∃ g5 g6 gl i,∃ vs:List Vl,j=es.length-i∧i≤es.length∧(es.take i).map (evalF ks ev)=vs.map .ok∧JEh ev o vs ((es.drop i).map (evalF ks ev))=F ∧
     σ=fr [(1,.ep (encK ks) 0),(2,.ep (J1L ev) 0),(3,.ep (evFn ks ev (m+1)) 0),(4,.ep wayM 0),(5,.op 5 g5 0 0),(6,.op 6 g6 0 0),(14,.own 93 gl 0 vs.length),(74,.sl 4 (es.map encE)),(75,encI es.length),(76,encI i)] ∧
     H=hp (hpE g5 g6 gl (.agg [encS o,encS t,encI od,.sl 4 (es.map encE)]) vs)) ?_ ?_
    ·exact .intro (J35 14 93 165 6 rfl rfl fun gl=>W.of ⟨_,_,_,gl,0,[],rfl,Nat.zero_le _,rfl,hF,rfl,rfl⟩ ⟨rfl,rfl,rfl,rfl,rfl,rfl,rfl,rfl,(by rw[List.length_map];rfl),rfl,trivial⟩ ⟨rfl,rfl,rfl,trivial⟩)
    ·clear hF;rintro j σ H ⟨g5,g6,gl,i,vs,rfl,hi,hvs,hF,rfl,rfl⟩;unfold hpE
     have hvl:vs.length=i:=by
      have:=congrArg List.length hvs;rw[List.length_map,List.length_map,List.length_take] at this;omega
     rcases Nat.lt_or_ge i es.length with h9|h9
     ·rw[List.drop_eq_getElem_cons h9,List.map_cons] at hF;have hk:=ihk _ (List.getElem_mem h9);have hek:=herr _ (List.getElem_mem h9);have htk:(es.take (i+1)).map (evalF ks ev)=vs.map .ok++[evalF ks ev es[i]]:=by rw[List.take_succ_eq_append_getElem h9,List.map_append,hvs];rfl
      obtain ⟨k,hkk⟩:∃ k,es[i]=k:=⟨_,rfl⟩;rw[hkk] at hF hk hek htk;rw[J02] at hk;(refine kWQ ?_;repeat intro γ);simp only[hkk,J02];(refine kQ ?_;repeat intro γ);refine J00 [] _ c200 hk ?_
      rcases hr:evalF ks ev k with c|v
      ·have hc:=hek c hr;rw[hr] at hF;replace hF:Except.error c=F:=hF;(refine kWQ ?_;repeat intro γ);exact .of (by rw[← hF];rfl)
      ·rw[hr,JJ8] at hF;rw[hr] at htk;have hml:=@List.length_map _ _ vs J0I;clear hek hk
       rcases v with q|b
       ·unfold J25 J0I J1G encF encQ;(refine kWQ ?_;repeat intro γ)
        refine .intro <| W.of ⟨_,by omega,g5,g6,γ,i+1,vs++[.num q],rfl,h9,(by rw[htk,List.map_append];rfl),hF,rfl,rfl⟩ ⟨rfl,rfl,rfl,rfl,rfl,rfl,?_,rfl,rfl,rfl,trivial⟩ ⟨rfl,rfl,?_,trivial⟩
        ·exact congrArg (AV.own 93 _ 0) (by simp)
        ·rw[List.map_append];rfl
       ·unfold J25 J0I J1G;(refine kWQ ?_;repeat intro γ)
        refine .intro <| W.of ⟨_,by omega,g5,g6,γ,i+1,vs++[.tr b],rfl,h9,(by rw[htk,List.map_append];rfl),hF,rfl,rfl⟩ ⟨rfl,rfl,rfl,rfl,rfl,rfl,?_,rfl,rfl,rfl,trivial⟩ ⟨rfl,rfl,?_,trivial⟩
        ·exact congrArg (AV.own 93 _ 0) (by simp)
        ·rw[List.map_append];rfl
     ·obtain rfl:i=es.length:=by omega
      rw[List.drop_length] at hF;rw[List.take_length] at hvs;replace hF:wayF ev o vs=F:=by rw[← hF];unfold JEh seqR;simp
      obtain ⟨kf,cap,ha,hcap,hcal,hcl⟩:=hsq vs hvs;obtain ⟨r,hr,hm⟩:=J1x (fun x:AV=>x) o wayT;rw[ha] at hm
      cases r with
      |none=>exact hm.elim
      |some ix=>
        replace hm:(wayT.map fun x=>x.2).getD ix .dead=.fn (.func kf) [] cap:=hm;(refine kWQ ?_;repeat intro γ);refine Need.intro keyst9 ?_;refine kW ?_;refine LookP.intro (some ix) hr ?_;refine kW ?_;rw[hm]
        rcases hcap with rfl|⟨x,rfl⟩
        all_goals
         (refine kWQ ?_;repeat intro γ);refine J00 [93] _ hcal (J0G (congrArg (fun z=>J1L ev::z::_) (JNr rfl rfl)) hcl) ?_;rw[hF]
         rcases F with c|q|b
         all_goals
          (refine kWQ ?_;repeat intro γ);exact .of rfl
def capE (g3 g5 g8 g9:Nat):List AV:=[.op 3 g3 0 0,.op 5 g5 0 0,.op 8 g8 0 0,.op 9 g9 0 0]
theorem J1h {S:List Nat}{H:Hp}{n b g k e m:Nat}{y:AV}(hS:b∈S)(hb:H b=some (g,⟨e,m,[y]⟩)):J09 S H (n+1) (.op b g 0 k)=.ep (J0g (J09 S H n) y) k:=by
 simp only[J09,if_pos hS,hb,true_and];rfl
theorem J9D {S:List Nat}{H:Hp}(n:Nat)(ks vs:List AV):J0g (J09 S H n) (.mp ks vs)=.mp ks vs:=by cases n<;>rfl
theorem JG9 {S:List Nat}{H:Hp}(n:Nat)(x:AV)(k:Nat):J0g (J09 S H n) (.ep x k)=.ep x k:=by cases n<;>rfl
theorem JB0 {ks:List (ByteArray×Va)}{ev:Ev}{H:Hp}{g3 g5 g8 g9 a3 a5 a8 a9:Nat}(h3:H 3=some (g3,⟨a3,1,[encK ks]⟩))(h5:H 5=some (g5,⟨a5,1,[J1L ev]⟩))
  (h8:H 8=some (g8,⟨a8,1,[.fn (.func 200) [] (capE g3 g5 g8 g9)]⟩))(h9:H 9=some (g9,⟨a9,1,[wayM]⟩)) :
  ∀ n,J09 [3,5,8,9] H (2*n) (.fn (.func 200) [] (capE g3 g5 g8 g9))=evFn ks ev n
 |0=>rfl
 |n+1=>by
   rw[show 2*(n+1)=2*n+1+1 by omega];show AV.fn _ [] [J09 _ _ (2*n+1) (.op 3 g3 0 0),J09 _ _ (2*n+1) (.op 5 g5 0 0),J09 _ _ (2*n+1) (.op 8 g8 0 0),J09 _ _ (2*n+1) (.op 9 g9 0 0)]=_
   rw[J1h (by simp) h3,J1h (by simp) h5,J1h (by simp) h8,J1h (by simp) h9];have:=JB0 h3 h5 h8 h9 n;unfold encK wayM J1L at *;rw[J9D,JG9,J9D];rw[show J0g (J09 [3,5,8,9] H (2*n)) (.fn (.func 200) [] (capE g3 g5 g8 g9))=evFn ks ev n from this];rfl
theorem JNL {ks:List (ByteArray×Va)}{ev:Ev}{H:Hp}{g3 g5 g8 g9 a3 a5 a8 a9:Nat}(h3:H 3=some (g3,⟨a3,1,[encK ks]⟩))(h5:H 5=some (g5,⟨a5,1,[J1L ev]⟩))
  (h8:H 8=some (g8,⟨a8,1,[.fn (.func 200) [] (capE g3 g5 g8 g9)]⟩))(h9:H 9=some (g9,⟨a9,1,[wayM]⟩))(n:Nat)(o t:ByteArray)(d:Int)(l:List AV) :
  (.agg [encS o,encS t,encI d,.sl 4 l]::capE g3 g5 g8 g9).map (J46 (2*n+1) [3,5,8,9] H)=[.agg [encS o,encS t,encI d,.sl 4 l],.ep (encK ks) 0,.ep (J1L ev) 0,.ep (evFn ks ev n) 0,.ep wayM 0]:=by
 have:=JB0 h3 h5 h8 h9 n
 have d3:J46 (2*n+1) [3,5,8,9] H (.op 3 g3 0 0)=.ep (encK ks) 0:=by
  rw[show J46 (2*n+1) [3,5,8,9] H (.op 3 g3 0 0)=J09 [3,5,8,9] H (2*n+1) (.op 3 g3 0 0) from rfl,J1h (by simp) h3];unfold encK;rw[J9D]
 have d5:J46 (2*n+1) [3,5,8,9] H (.op 5 g5 0 0)=.ep (J1L ev) 0:=by
  rw[show J46 (2*n+1) [3,5,8,9] H (.op 5 g5 0 0)=J09 [3,5,8,9] H (2*n+1) (.op 5 g5 0 0) from rfl,J1h (by simp) h5];unfold J1L;rw[JG9]
 have d8:J46 (2*n+1) [3,5,8,9] H (.op 8 g8 0 0)=.ep (evFn ks ev n) 0:=by
  rw[show J46 (2*n+1) [3,5,8,9] H (.op 8 g8 0 0)=J09 [3,5,8,9] H (2*n+1) (.op 8 g8 0 0) from rfl,J1h (by simp) h8];exact congrArg (fun z=>AV.ep z 0) this
 have d9:J46 (2*n+1) [3,5,8,9] H (.op 9 g9 0 0)=.ep wayM 0:=by
  rw[show J46 (2*n+1) [3,5,8,9] H (.op 9 g9 0 0)=J09 [3,5,8,9] H (2*n+1) (.op 9 g9 0 0) from rfl,J1h (by simp) h9];unfold wayM;rw[J9D]
 unfold capE;simp only[List.map_cons,List.map_nil,d3,d5,d8,d9];rfl
theorem JMf (ks:List (ByteArray×Va))(ev:Ev)(he:EvOk ev)(e:Ex)(hz:SzE e)(hx:TxE e)(hb:builtF e=true)(ht:(typeF ks e).2=true)(hw:wtF e≤1000) :
  PX 102 [encK ks,encE e,J1L ev] (J25 (evalF ks ev e)):=by
 refine PZ Tryz.func102 rfl ?_;have hc:=JKN ks ev he e hz hx hb ht hw (SizeOf.sizeOf e) (Nat.le_refl _);generalize evalF ks ev e=F at *;generalize SizeOf.sizeOf e=n at *;rw[J02] at hc ⊢;refine kWS ?_;intros;refine J00 [] _ c199 JL3 ?_;refine kWS ?_;intros;refine JCw (2*n+1) [3,5,8,9] _ c200 (J0G (JNL rfl rfl rfl rfl n _ _ _ _) hc) ?_
 rcases F with c|q|b
 all_goals
  refine kWS ?_;intros;exact .of rfl
structure Bd where
 use:U
 value:ByteArray
structure EnvA where
 time:ByteArray
 init:Bool
 binds:List Bd
def J74 (b:Bd):AV:=.agg [.val (.string b.use.name),.val (.int .i64 b.use.order),.val (.bool b.use.pre),encS b.value]
def J0e (e:EnvA):AV:=.agg [encS e.time,encB e.init,.sl 4 (e.binds.map J74)]
def valV (s:ByteArray):Option Vl:=if s=sTrue∨s=sFalse then some (.tr (decide (s=sTrue))) else if (J05 s.data.toList).2 then some (.num (numV s)) else none
theorem JGR {s:ByteArray}{v:Vl}(h:valV s=some v):resV s=.tup [J0I v,encB true]:=by
 unfold valV at h;unfold resV;split at h
 ·rename_i h1;cases h;rw[if_pos h1];rfl
 ·rename_i h1;rw[if_neg h1];split at h
  ·rename_i h2;cases h;rw[h2,← (J3m h2).1];rfl
  ·cases h
theorem JGS {s:ByteArray}(h:valV s=none):∃ q,(q=nilQ∨∃ n d,q=encQ n d)∧resV s=.tup [J1G q false false,encB false]:=by
 unfold valV at h;unfold resV;split at h
 ·cases h
 ·rename_i h1;rw[if_neg h1];split at h
  ·cases h
  ·rename_i h2;exact ⟨_,J2B _,by rw[Bool.eq_false_iff.2 h2]⟩
theorem JL9 {s:ByteArray}{v:Vl}(h:valV s=some v):v.sz≤300:=by
 unfold valV at h;split at h
 ·cases h;exact Nat.zero_le _
 ·split at h
  ·rename_i h2;cases h;exact (J3m h2).2
  ·cases h
def putV {β:Type}(l:List (U×β))(k:U)(v:β):List (U×β):=match l with
 |[]=>[(k,v)]
 |x::r=>if k=x.1 then (x.1,v)::r else x::putV r k v
theorem J6V {β:Type}(f:β→AV)(k:U)(v:β):∀ l:List (U×β),∃ r,J1F (J12 T 46 (encU k)) (l.map fun x=>encU x.1)=some r∧(match r with
  |some i=>(l.map fun x=>encU x.1)=((putV l k v).map fun x=>encU x.1)∧(l.map fun x=>f x.2).set i (f v)=(putV l k v).map fun x=>f x.2
  |none=>(l.map fun x=>encU x.1)++[encU k]=((putV l k v).map fun x=>encU x.1)∧(l.map fun x=>f x.2)++[f v]=(putV l k v).map fun x=>f x.2)
 |[]=>⟨none,rfl,rfl,rfl⟩
 |x :: l=>by
   obtain ⟨r,h1,h2⟩:=J6V f k v l;rw[List.map_cons,List.map_cons];unfold J1F putV;rw[JAp]
   by_cases h:k=x.1
   ·rw[decide_eq_true h,if_pos h];exact ⟨some 0,rfl,rfl,rfl⟩
   ·rw[decide_eq_false h,if_neg h,h1];refine ⟨r.map (· + 1),rfl,?_⟩
    revert h2
    cases r with
    |none=>
      rintro ⟨h2,h3⟩;exact ⟨by rw[List.map_cons,← h2];rfl,by rw[List.map_cons,← h3];rfl⟩
    |some i=>
      rintro ⟨h2,h3⟩;exact ⟨by rw[List.map_cons,← h2],by rw[List.map_cons,← h3];rfl⟩
def J24:Option U→U→Bool
 |none,_=>false
 |some q,u=>decide (0≤J9V q u)
def openL:Option U→List Bd→List (U×Vl)→Option (List (U×Vl))
 |_,[],l=>some l
 |p,b::r,l=>match valV b.value with
   |none=>none
   |some v=>if !fitF b.use||J24 p b.use then none else openL (some b.use) r (putV l b.use v)
def openF (e:EnvA):Option Ev:=if (J05 e.time.data.toList).2 then (openL none e.binds []).map fun l=>⟨numV e.time,e.init,l⟩ else none
def J7t (bs:List Bd)(i:Nat):Option U:=match i with
 |0=>none
 |i+1=>bs[i]?.map Bd.use
def JM3:Option Ev→AV
 |some ev=>.tup [J1L ev,encB true]
 |none=>.tup [.val (.pointer none),encB false]
def hpO1 (g1 g2 gm:Nat)(e:EnvA)(t:Rat)(l:List (U×Vl)):List (Nat×Nat×Blk):=
 [(1,g1,⟨50,3,[J0e e]⟩),(15,g2,⟨322,6,[.agg [encB (decide (t.num<0)),encW t.num.natAbs,encB (decide ((t.den:Int)<0)),encW (t.den:Int).natAbs,encB e.init,.om 13 gm]]⟩),(13,gm,⟨320,0,[.mp (l.map fun x=>encU x.1) (l.map fun x=>J0I x.2)]⟩)]
theorem J6w {u:U}(h:fitF u=true):0≤u.order∧u.order≤6:=by
 unfold fitF at h;simp only[Bool.and_eq_true,decide_eq_true_eq] at h;exact h.1.2
theorem JJ2 {S:List Nat}{H:Hp}{n b g e m:Nat}{ks vs:List AV}(hS:b∈S)(hb:H b=some (g,⟨e,m,[.mp ks vs]⟩)):J09 S H (n+1) (.om b g)=.mp ks vs:=by
 simp only[J09,if_pos hS,hb,if_true]
structure SzB (e:EnvA):Prop where
 t:e.time.size<2^35
 l:e.binds.length≤2^30
 b:∀ b∈e.binds,b.use.name.size<2^35∧b.value.size<2^35
theorem JMX (e:EnvA)(hz:SzB e):PX 153 [J0e e] (JM3 (openF e)):=by
 refine PC [15,13] Tryz.func153 rfl (by rfl) rfl ?_;obtain ⟨tm,ini,bs⟩:=e;obtain ⟨hzt,hzl,hzb⟩:=hz;simp only at hzt hzl hzb;generalize hF:openF ⟨tm,ini,bs⟩=F;unfold openF at hF;have hpq:=J36 tm.data.toList hzt;rw[J0z,JDM] at hpq;simp only at hF
 cases hok:(J05 tm.data.toList).2 with
 |false=>
   rw[hok] at hF hpq;have hq2:=J2B (J05 tm.data.toList).1;generalize qAV (J05 tm.data.toList).1=q at *;unfold J0e
   rcases hq2 with rfl|⟨n,d,rfl⟩
   all_goals
    refine kWS ?_;intros;refine J00 [] _ c113 hpq ?_;refine kWS ?_;intros;exact .of (by rw[← hF];rfl)
 |true=>
   rw[← (J3m hok).1,hok] at hpq;rw[hok] at hF;generalize numV tm=t at *;replace hF:(openL none bs []).map (fun l=>(⟨t,ini,l⟩:Ev))=F:=hF;unfold encF encQ at hpq;unfold J0e;refine kWS ?_;intros;refine J00 [] _ c113 hpq ?_;refine kWS ?_;intros
   refine LoopP.intro (fun j σ H=>∃ g1 g2 gm i,∃ l:List (U×Vl),j=bs.length-i∧i≤bs.length∧(∀ k (h:k<bs.length),k<i→fitF bs[k].use=true)∧(openL (J7t bs i) (bs.drop i) l).map (fun l=>(⟨t,ini,l⟩:Ev))=F ∧
    σ=fr [(1,.op 1 g1 0 0),(4,.op 15 g2 0 0),(29,.sl 4 (bs.map J74)),(30,encI bs.length),(31,encI i)]∧H=hp (hpO1 g1 g2 gm ⟨tm,ini,bs⟩ t l)) ?_ ?_
   ·exact .intro <| W.of ⟨_,_,_,_,0,[],rfl,Nat.zero_le _,fun k _ h=>absurd h (by omega),hF,rfl,rfl⟩ ⟨rfl,rfl,rfl,(by rw[List.length_map];rfl),rfl,trivial⟩ ⟨rfl,rfl,rfl,trivial⟩
   ·clear hF;rintro j σ H ⟨g1,g2,gm,i,l,rfl,hi,hfit,hF,rfl,rfl⟩;unfold hpO1;simp only
    rcases Nat.lt_or_ge i bs.length with h9|h9
    ·rw[List.drop_eq_getElem_cons h9] at hF;have hb:=hzb _ (List.getElem_mem h9)
     have hprev:J7t bs (i+1)=some bs[i].use:=by
      show bs[i]?.map Bd.use=some _
      rw[List.getElem?_eq_getElem h9];rfl
     have hfx:∀ k (h:k<bs.length),k<i+1→fitF bs[i].use=true→fitF bs[k].use=true:=by
      intro k h hk hc
      rcases Nat.lt_or_ge k i with h|h
      ·exact hfit k _ h
      ·obtain rfl:k=i:=by omega
       exact hc
     obtain ⟨b,hbb⟩:∃ b,bs[i]=b:=⟨_,rfl⟩;rw[hbb] at hF hb hprev hfx;have hV:=JBk b.value hb.2;have hFit:=JNf b.use hb.1;unfold openL at hF
     cases hv:valV b.value with
     |none=>
       rw[hv] at hF;obtain ⟨q,hq,he⟩:=JGS hv;rw[he] at hV
       rcases hq with rfl|⟨n,d,rfl⟩
       all_goals
        refine kWQ ?_;intros;simp only[hbb];refine kQ ?_;intros;refine J00 [] _ c263 hV ?_;refine kWQ ?_;intros;exact .of (by rw[← hF];rfl)
     |some v=>
       rw[hv] at hF;rw[JGR hv] at hV;replace hF:(if !fitF b.use||J24 (J7t bs i) b.use then none else openL (some b.use) (bs.drop (i+1)) (putV l b.use v)).map (fun l=>(⟨t,ini,l⟩:Ev))=F:=hF;have hb64:bs.length<2^62:=by omega
       rcases i with _|i
       ·rcases v with q | x
        ·unfold J0I J1G encF encQ at hV;refine kWQ ?_;intros;simp only[hbb];refine kQ ?_;intros;refine J00 [] _ c263 hV ?_;refine kWQ ?_;intros;refine CallG.intro _ c50 hFit ?_
         cases hf:fitF b.use with
         |false=>
           rw[hf] at hF;refine kWQ ?_;intros;exact .of (by rw[← hF];rfl)
         |true=>
           rw[hf] at hF;replace hF:(openL (some b.use) (bs.drop (0+1)) (putV l b.use (.num q))).map (fun l=>(⟨t,ini,l⟩:Ev))=F:=hF;refine kWO ?_;intros;refine J18 [(7,false),(8,true)] (by kernel_rfl) ?_;refine kWQ ?_;intros;refine Need.intro keyst46 ?_;refine kWQ ?_;intros;obtain ⟨r,hr,hm⟩:=J6V J0I b.use (.num q) l;refine LookP.intro r hr ?_
           cases r with
           |some j=>
             refine kWQ ?_;intros
             refine .intro <| W.of ⟨_,by omega,g1,g2,gm,0+1,putV l b.use (.num q),rfl,h9,fun k h hk=>hfx k h hk hf,(by rw[hprev];exact hF),rfl,rfl⟩ ⟨rfl,rfl,rfl,rfl,rfl,trivial⟩ ⟨rfl,rfl,?_,trivial⟩
             exact congrArg (fun z=>some (gm,(⟨320,0,[z]⟩:Blk))) (congr (congrArg AV.mp hm.1) hm.2)
           |none=>
             refine kWQ ?_;intros
             refine .intro <| W.of ⟨_,by omega,g1,g2,gm,0+1,putV l b.use (.num q),rfl,h9,fun k h hk=>hfx k h hk hf,(by rw[hprev];exact hF),rfl,rfl⟩ ⟨rfl,rfl,rfl,rfl,rfl,trivial⟩ ⟨rfl,rfl,?_,trivial⟩
             exact congrArg (fun z=>some (gm,(⟨320,0,[z]⟩:Blk))) (congr (congrArg AV.mp hm.1) hm.2)
        ·unfold J0I J1G at hV;refine kWQ ?_;intros;simp only[hbb];refine kQ ?_;intros;refine J00 [] _ c263 hV ?_;refine kWQ ?_;intros;refine CallG.intro _ c50 hFit ?_
         cases hf:fitF b.use with
         |false=>
           rw[hf] at hF;refine kWQ ?_;intros;exact .of (by rw[← hF];rfl)
         |true=>
           rw[hf] at hF;replace hF:(openL (some b.use) (bs.drop (0+1)) (putV l b.use (.tr x))).map (fun l=>(⟨t,ini,l⟩:Ev))=F:=hF;refine kWO ?_;intros;refine J18 [(7,false),(8,true)] (by kernel_rfl) ?_;refine kWQ ?_;intros;refine Need.intro keyst46 ?_;refine kWQ ?_;intros;obtain ⟨r,hr,hm⟩:=J6V J0I b.use (.tr x) l;refine LookP.intro r hr ?_
           cases r with
           |some j=>
             refine kWQ ?_;intros
             refine .intro <| W.of ⟨_,by omega,g1,g2,gm,0+1,putV l b.use (.tr x),rfl,h9,fun k h hk=>hfx k h hk hf,(by rw[hprev];exact hF),rfl,rfl⟩ ⟨rfl,rfl,rfl,rfl,rfl,trivial⟩ ⟨rfl,rfl,?_,trivial⟩
             exact congrArg (fun z=>some (gm,(⟨320,0,[z]⟩:Blk))) (congr (congrArg AV.mp hm.1) hm.2)
           |none=>
             refine kWQ ?_;intros
             refine .intro <| W.of ⟨_,by omega,g1,g2,gm,0+1,putV l b.use (.tr x),rfl,h9,fun k h hk=>hfx k h hk hf,(by rw[hprev];exact hF),rfl,rfl⟩ ⟨rfl,rfl,rfl,rfl,rfl,trivial⟩ ⟨rfl,rfl,?_,trivial⟩
             exact congrArg (fun z=>some (gm,(⟨320,0,[z]⟩:Blk))) (congr (congrArg AV.mp hm.1) hm.2)
       ·have h8 : i<bs.length:=by omega
        have hpv:J7t bs (i+1)=some bs[i].use:=by
         show bs[i]?.map Bd.use=some _
         rw[List.getElem?_eq_getElem h8];rfl
        have hfp:=J6w (hfit i h8 (by omega));rw[hpv] at hF;have hix:(((i+1:Nat):Int)-1).toNat=i:=by omega
        obtain ⟨pb,hpb⟩:∃ pb,bs[i]=pb:=⟨_,rfl⟩;rw[hpb] at hF hpv hfp;have hL:=JMd pb.use b.use hfp
        rcases v with q|x
        ·unfold J0I J1G encF encQ at hV;refine kWQ ?_;intros;simp only[hbb];refine kQ ?_;intros;refine J00 [] _ c263 hV ?_;refine kWQ ?_;intros;refine CallG.intro _ c50 hFit ?_
         cases hf:fitF b.use with
         |false=>
           rw[hf] at hF;refine kWQ ?_;intros;exact .of (by rw[← hF];rfl)
         |true=>
           rw[hf] at hF;have hL:=hL (J6w hf);refine kWQ ?_;intros;simp only[hix,hpb];refine CallG.intro _ c51 hL ?_
           cases hge:J24 (some pb.use) b.use with
           |true=>
             rw[hge] at hF;have hle:0≤J9V pb.use b.use:=of_decide_eq_true hge;refine kWQ ?_;intros;exact .of (by rw[← hF];rfl)
           |false=>
             rw[hge] at hF;have hle:¬ 0≤J9V pb.use b.use:=of_decide_eq_false hge;replace hF:(openL (some b.use) (bs.drop (i+1+1)) (putV l b.use (.num q))).map (fun l=>(⟨t,ini,l⟩:Ev))=F:=hF;refine kWO ?_;intros;refine J18 [(7,false),(8,true)] (by kernel_rfl) ?_;refine kWQ ?_;intros;refine Need.intro keyst46 ?_;refine kWQ ?_;intros;obtain ⟨r,hr,hm⟩:=J6V J0I b.use (.num q) l;refine LookP.intro r hr ?_
             cases r with
             |some j=>
               refine kWQ ?_;intros
               refine .intro <| W.of ⟨_,by omega,g1,g2,gm,i+1+1,putV l b.use (.num q),rfl,h9,fun k h hk=>hfx k h hk hf,(by rw[hprev];exact hF),rfl,rfl⟩ ⟨rfl,rfl,rfl,rfl,rfl,trivial⟩ ⟨rfl,rfl,?_,trivial⟩
               exact congrArg (fun z=>some (gm,(⟨320,0,[z]⟩:Blk))) (congr (congrArg AV.mp hm.1) hm.2)
             |none=>
               refine kWQ ?_;intros
               refine .intro <| W.of ⟨_,by omega,g1,g2,gm,i+1+1,putV l b.use (.num q),rfl,h9,fun k h hk=>hfx k h hk hf,(by rw[hprev];exact hF),rfl,rfl⟩ ⟨rfl,rfl,rfl,rfl,rfl,trivial⟩ ⟨rfl,rfl,?_,trivial⟩
               exact congrArg (fun z=>some (gm,(⟨320,0,[z]⟩:Blk))) (congr (congrArg AV.mp hm.1) hm.2)
        ·unfold J0I J1G at hV;refine kWQ ?_;intros;simp only[hbb];refine kQ ?_;intros;refine J00 [] _ c263 hV ?_;refine kWQ ?_;intros;refine CallG.intro _ c50 hFit ?_
         cases hf:fitF b.use with
         |false=>
           rw[hf] at hF;refine kWQ ?_;intros;exact .of (by rw[← hF];rfl)
         |true=>
           rw[hf] at hF;have hL:=hL (J6w hf);refine kWQ ?_;intros;simp only[hix,hpb];refine CallG.intro _ c51 hL ?_
           cases hge:J24 (some pb.use) b.use with
           |true=>
             rw[hge] at hF;have hle:0≤J9V pb.use b.use:=of_decide_eq_true hge;refine kWQ ?_;intros;exact .of (by rw[← hF];rfl)
           |false=>
             rw[hge] at hF;have hle:¬ 0≤J9V pb.use b.use:=of_decide_eq_false hge;replace hF:(openL (some b.use) (bs.drop (i+1+1)) (putV l b.use (.tr x))).map (fun l=>(⟨t,ini,l⟩:Ev))=F:=hF;refine kWO ?_;intros;refine J18 [(7,false),(8,true)] (by kernel_rfl) ?_;refine kWQ ?_;intros;refine Need.intro keyst46 ?_;refine kWQ ?_;intros;obtain ⟨r,hr,hm⟩:=J6V J0I b.use (.tr x) l;refine LookP.intro r hr ?_
             cases r with
             |some j=>
               refine kWQ ?_;intros
               refine .intro <| W.of ⟨_,by omega,g1,g2,gm,i+1+1,putV l b.use (.tr x),rfl,h9,fun k h hk=>hfx k h hk hf,(by rw[hprev];exact hF),rfl,rfl⟩ ⟨rfl,rfl,rfl,rfl,rfl,trivial⟩ ⟨rfl,rfl,?_,trivial⟩
               exact congrArg (fun z=>some (gm,(⟨320,0,[z]⟩:Blk))) (congr (congrArg AV.mp hm.1) hm.2)
             |none=>
               refine kWQ ?_;intros
               refine .intro <| W.of ⟨_,by omega,g1,g2,gm,i+1+1,putV l b.use (.tr x),rfl,h9,fun k h hk=>hfx k h hk hf,(by rw[hprev];exact hF),rfl,rfl⟩ ⟨rfl,rfl,rfl,rfl,rfl,trivial⟩ ⟨rfl,rfl,?_,trivial⟩
               exact congrArg (fun z=>some (gm,(⟨320,0,[z]⟩:Blk))) (congr (congrArg AV.mp hm.1) hm.2)
    ·obtain rfl:i=bs.length:=by omega
     rw[List.drop_length] at hF;replace hF:some (⟨t,ini,l⟩:Ev)=F:=by rw[← hF];unfold openL;rfl
     refine kWQ ?_;intros;refine .of ?_;rw[← hF];refine (congrArg (fun z=>AV.tup [z,encB true]) ((J1h (by simp) rfl).trans ?_));show AV.ep (.agg [_,_,_,_,_,J09 [15,13] _ 2 (.om 13 gm)]) 0=_
     rw[JJ2 (by simp) rfl];rfl
theorem JDN {u:U}{v:Vl}:∀ {l:List (U×Vl)} {x:U×Vl},x∈putV l u v→x.2=v∨x∈l
 |[],x,h=>by simp only[putV,List.mem_cons,List.not_mem_nil,or_false] at h;subst h;exact .inl rfl
 |y :: l,x,h=>by
   unfold putV at h;split at h
   ·rcases List.mem_cons.1 h with rfl | h
    ·exact .inl rfl
    ·exact .inr (List.mem_cons_of_mem _ h)
   ·rcases List.mem_cons.1 h with rfl | h
    ·exact .inr List.mem_cons_self
    ·rcases JDN h with h | h
     ·exact .inl h
     ·exact .inr (List.mem_cons_of_mem _ h)
theorem JDU:∀ {bs:List Bd} {p:Option U} {l r:List (U×Vl)},openL p bs l=some r→(∀ x∈l,x.2.sz≤300)→∀ x∈r,x.2.sz≤300
 |[],p,l,r,h,hl=>by unfold openL at h;cases h;exact hl
 |b :: bs,p,l,r,h,hl=>by
   unfold openL at h;split at h
   ·cases h
   ·rename_i v hv;split at h
    ·cases h
    ·refine JDU h fun x hx=>?_
     rcases JDN hx with e|hx
     ·rw[e];exact JL9 hv
     ·exact hl x hx
theorem JJF {e:EnvA}{ev:Ev}(h:openF e=some ev):EvOk ev:=by
 unfold openF at h;split at h
 ·rename_i h1
  cases ho:openL none e.binds [] with
  |none=>rw[ho] at h;cases h
  |some l=>
    rw[ho] at h;cases h;exact ⟨(J3m h1).2,JDU ho fun x hx=>by cases hx⟩
 ·cases h
def openS (e:EnvA):Except Int Ev:=if 1000<e.binds.length then .error 2 else match openF e with
 |none=>.error 1
 |some ev=>.ok ev
def JNx:Except Int Ev→AV
 |.ok ev=>.tup [J1L ev,encI 0]
 |.error c=>.tup [.val (.pointer none),encI c]
theorem JKJ (e:EnvA)(hz:SzB e):PX 76 [J0e e] (JNx (openS e)):=by
 refine PZ Tryz.func76 rfl ?_;have ho:=JMX e hz;have hl:=hz.l;generalize hF:openS e=F;unfold openS at hF;generalize openF e=oe at *;unfold J0e at *;have hml:=@List.length_map _ _ e.binds J74;refine kWQ ?_;intros;refine CondP.dec (fun h1=>?_) (fun h1=>?_)<;>refine kW ?_
 ·rw[if_pos (by first|omega|(rw[List.length_map] at h1;omega))] at hF;refine kQ ?_;intros;exact .of (by rw[← hF];rfl)
 ·rw[if_neg (by first | omega | (rw[List.length_map] at h1;omega))] at hF;refine kQ ?_;intros;refine J00 [] _ c153 ho ?_
  cases oe with
  |none=>
    refine kWQ ?_;intros;exact .of (by rw[← hF];rfl)
  |some ev=>
    refine kWQ ?_;intros;exact .of (by rw[← hF];rfl)
def typeS (s:Sys)(x:Ex):Int×Int:=if checkF s≠0 then (0,checkF s) else if tooF x then (0,2) else if !builtF x then (0,1) else if (typeF (knownF s.vars) x).2 then ((typeF (knownF s.vars) x).1,0) else (0,1)
theorem JKD (s:Sys)(x:Ex)(hs:SzS s)(hz:SzE x)(hx:TxE x):PX 44 [J0J s,encE x] (.tup [encI (typeS s x).1,encI (typeS s x).2]):=by
 refine PZ Tryz.func44 rfl ?_;have hc:=JEA s hs;have ht:=J7b x hz;have hb:=JEB x hz hx;have hk:=J9W s hs.v;have hT:=JI3 (knownF s.vars) x hz;generalize hF:typeS s x=F;unfold typeS at hF;generalize checkF s=ck at *;generalize tooF x=tl at *;generalize typeF (knownF s.vars) x=ty at *;generalize knownF s.vars=ks at *;obtain ⟨vs,qs,ns,ws⟩:=s;rw[J02] at *;unfold J0J at *;simp only at *;refine kWQ ?_;intros;refine CallP.flat [] _ c36 hc rfl ?_
 by_cases h0:ck=0
 case' neg=>
  rw[if_pos h0] at hF;refine kWQ ?_;intros;exact .of (by rw[← hF];rfl)
 rw[if_neg (by simp[h0])] at hF;refine kWQ ?_;intros;refine CallP.flat [] _ c110 ht rfl ?_
 cases tl with
 |true=>
   refine kWQ ?_;intros;exact .of (by rw[← hF];rfl)
 |false=>
   refine kWQ ?_;intros;refine CallP.flat [] _ c111 hb rfl ?_
   cases hbb:builtF x with
   |false=>
     rw[hbb] at hF;refine kWQ ?_;intros;exact .of (by rw[← hF];rfl)
   |true=>
     rw[hbb] at hF;have hT:=hT hbb;obtain ⟨t,b⟩:=ty;refine kWQ ?_;intros;refine CallG.intro _ c101 hk ?_;refine kWQ ?_;intros;refine CallG.intro _ c112 hT ?_
     cases b with
     |false=>
       refine kWQ ?_;intros;exact .of (by rw[← hF];rfl)
     |true=>
       refine kWQ ?_;intros;exact .of (by rw[← hF];rfl)
theorem J98 {s:Sys}{x:Ex}(h:(typeS s x).2=0):checkF s=0∧tooF x=false∧builtF x=true∧(typeF (knownF s.vars) x).2=true∧(typeS s x).1=(typeF (knownF s.vars) x).1:=by
 unfold typeS at *;split at h
 ·rename_i h1;exact absurd h h1
 ·rename_i h1;split at h
  ·cases h
  ·rename_i h2;split at h
   ·cases h
   ·rename_i h3;split at h
    ·rename_i h4;refine ⟨Classical.not_not.1 h1,Bool.eq_false_iff.2 h2,by simpa using h3,h4,?_⟩;rw[if_neg h1,if_neg h2,if_neg h3,if_pos h4]
    ·cases h
theorem J9B {x:Ex}(h:tooF x=false):wtF x≤200:=by
 unfold tooF at h;have h1:=of_decide_eq_false h;have:=JDX 24 x 200;omega
def outV:Except Int Vl→ByteArray×Int
 |.error c=>(⟨#[]⟩,c)
 |.ok v=>if shortV v then (strV v,0) else (⟨#[]⟩,2)
def evalS (s:Sys)(x:Ex)(e:EnvA):ByteArray×Int:=if (typeS s x).2≠0 then (⟨#[]⟩,(typeS s x).2) else match openS e with
 |.error c=>(⟨#[]⟩,c)
 |.ok ev=>outV (evalF (knownF s.vars) ev x)
def J7v (p:ByteArray×Int):AV:=.tup [encS p.1,encI p.2]
theorem J9P {e:EnvA}{ev:Ev}(h:openS e=.ok ev):EvOk ev:=by
 unfold openS at h;split at h
 ·cases h
 ·split at h
  ·cases h
  ·rename_i ev' h';cases h;exact JJF h'
theorem JAf {e:EnvA}{c:Int}(h:openS e=.error c):c=1∨c=2:=by
 unfold openS at h;split at h
 ·cases h;exact .inr rfl
 ·split at h
  ·cases h;exact .inl rfl
  ·cases h
theorem J68 (s:Sys)(x:Ex)(e:EnvA)(hs:SzS s)(hz:SzE x)(hx:TxE x)(he:SzB e):PX 39 [J0J s,encE x,J0e e] (J7v (evalS s x e)):=by
 refine PZ Tryz.func39 rfl ?_;have hT:=JKD s x hs hz hx;have hO:=JKJ e he;have hk:=J9W s hs.v;generalize hF:evalS s x e=F;unfold evalS at hF;have hty:=@J98 s x;have hev:=@J9P e;have her:=@JAf e;generalize typeS s x=ty at *;obtain ⟨t,c⟩:=ty;generalize hks:knownF s.vars=ks at *;obtain ⟨vs,qs,ns,ws⟩:=s;generalize openS e=oe at *;have hE:=fun ev he hb ht hw=>JMf ks ev he x hz hx hb ht hw;have hsz:=fun ev he hb v h=>@J5z ks ev he x hb v h;have hec:=fun ev hb ht c h=>@J4N ks ev x hb ht c h;rw[J02] at *;unfold J0J J0e at *;simp only at *;refine kWQ ?_;intros;refine J00 [] _ c44 hT ?_
 by_cases h0:c=0
 case' neg=>
  rw[if_pos h0] at hF;refine kWQ ?_;intros;exact .of (by rw[← hF];rfl)
 subst h0;rw[if_neg (by simp)] at hF;obtain ⟨hck,htl,hbb,htt,_⟩:=hty rfl;have hwt:=J9B htl;refine kWQ ?_;intros;refine J00 [] _ c76 hO ?_
 cases oe with
 |error c=>
   have hc:¬ c=0:=by rcases her rfl with rfl|rfl<;>decide
   refine kWQ ?_;intros;exact .of (by rw[← hF];rfl)
 |ok ev =>
   have hev:=hev rfl;have hE:=hE ev hev hbb htt (by omega);have hsz:=hsz ev hev hbb;have hec:=hec ev hbb htt;replace hF:outV (evalF ks ev x)=F:=hF;generalize evalF ks ev x=r at *;refine kWQ ?_;intros;refine CallG.intro _ c101 hk ?_;refine kWQ ?_;intros;refine CallG.intro _ c102 hE ?_
   cases r with
   |error c=>
     have hc:=(hec c rfl).ne;refine kWQ ?_;intros;exact .of (by rw[← hF];rfl)
   |ok v=>
     have hsz:=hsz v rfl;have hS:=JIB v (by omega);have hR:=JFF v (by omega);replace hF:(if shortV v then (strV v,0) else (⟨#[]⟩,2))=F:=hF;generalize shortV v=sv at *;generalize strV v=str at *
     rcases v with q|b
     all_goals
      unfold J0I J1G at hS hR
      try unfold encF encQ at hS hR
      unfold J25 J0I J1G
      try unfold encF encQ
      refine kWQ ?_;intros;refine CallP.flat [] _ c103 hS rfl ?_
      cases sv with
      |false=>
        refine kWQ ?_;intros;exact .of (by rw[← hF];rfl)
      |true=>
        refine kWQ ?_;intros;refine CallP.flat [] _ c104 hR rfl ?_;refine kWQ ?_;intros;exact .of (by rw[← hF];rfl)
theorem JK2:∀ (a b:List UInt8),(Lib.compareBytes a b<0)↔Op.bytesLess a b=true:=by
 intro a
 induction a with
 |nil=>intro b;cases b<;>simp[Lib.compareBytes,Op.bytesLess]
 |cons x a ih=>
   intro b
   cases b with
   |nil=>simp[Lib.compareBytes,Op.bytesLess]
   |cons y b=>
     unfold Lib.compareBytes Op.bytesLess;have h1:=ih b
     by_cases hxy:x<y
     ·simp[hxy]
     ·by_cases hyx:y<x
      ·have hne:¬ x=y:=fun e=>by subst e;exact hxy hyx
       simp[hxy,hyx,hne]
      ·have:x=y:=UInt8.le_antisymm (UInt8.not_lt.1 hyx) (UInt8.not_lt.1 hxy);subst this;simp[hxy,h1]
theorem JCS (a b:U):decide (0≤J9V a b)=!beforeF a b:=by
 unfold J9V JJN beforeF
 by_cases h1:a.name=b.name
 ·simp only[decide_eq_true h1]
  by_cases h2:a.pre=b.pre
  ·simp only[decide_eq_true h2];rw[← decide_not];exact decide_eq_decide.2 (by omega)
  ·simp only[decide_eq_false h2];cases b.pre<;>rfl
 ·simp only[decide_eq_false h1];have:=JK2 a.name.data.toList b.name.data.toList;rw[ByteArray.toList_eq,ByteArray.toList_eq];cases hb:Op.bytesLess a.name.data.toList b.name.data.toList
  ·rw[hb] at this;exact decide_eq_true (by unfold cmpS;simp at this;exact this)
  ·rw[hb] at this;exact decide_eq_false (by unfold cmpS;simp at this;omega)
theorem JNW (u:U):beforeF u u=false:=by unfold beforeF;simp
theorem JK8 (u v w:U)(h1:beforeF u v=true)(h2:beforeF v w=true):beforeF u w=true:=by
 unfold beforeF at h1 h2 ⊢
 by_cases e1:u.name=v.name
 ·rw[decide_eq_true e1] at h1;simp only at h1
  by_cases e2:v.name=w.name
  ·rw[decide_eq_true e2] at h2;rw[decide_eq_true (e1.trans e2)];simp only at h2 ⊢
   by_cases p1:u.pre=v.pre
   ·rw[decide_eq_true p1] at h1
    by_cases p2:v.pre=w.pre
    ·rw[decide_eq_true p2] at h2;rw[decide_eq_true (p1.trans p2)];simp only[decide_eq_true_eq] at h1 h2 ⊢;omega
    ·rw[decide_eq_false p2] at h2;rw[decide_eq_false (fun q=>p2 (p1.symm.trans q))];exact h2
   ·rw[decide_eq_false p1] at h1;simp only at h1
    by_cases p2:v.pre=w.pre
    ·rw[decide_eq_false (fun q=>p1 (q.trans p2.symm))];simp only;rw[← p2];exact h1
    ·rw[decide_eq_false p2] at h2;simp only at h2;exact absurd (h1.trans h2.symm) p2
  ·rw[decide_eq_false e2] at h2;rw[decide_eq_false (fun q=>e2 (e1.symm.trans q)),e1];exact h2
 ·rw[decide_eq_false e1] at h1;simp only at h1
  by_cases e2:v.name=w.name
  ·rw[decide_eq_false (fun q=>e1 (q.trans e2.symm))];simp only;rw[← e2];exact h1
  ·rw[decide_eq_false e2] at h2;simp only at h2;have h3:=J9x _ _ _ h1 h2;rw[decide_eq_false (fun q=>by rw[q,JHw] at h3;cases h3)];exact h3
theorem eqU (u v:U):(decide (u.name=v.name)&&(decide (u.order=v.order)&&decide (u.pre=v.pre)))=decide (u=v):=by
 obtain ⟨a,b,c⟩:=u;obtain ⟨a',b',c'⟩:=v;simp only[U.mk.injEq,Bool.decide_and]
theorem JMW (q:Rat)(h:szq q<2^32):PX 212 [eQ q] (J7v (outV (.ok (.num q)))):=by
 refine PZ Tryz.func212 rfl ?_;have a1:=J2h q;have a2:=J2E q;have h1:=JKL q h;have h2:=J7Z q.num q.den (by omega) (by omega);generalize hF:J7v (outV (.ok (.num q)))=F
 have hF:(if shortV (.num q) then .tup [encT (rT q.num q.den),encI 0] else .tup [encS ⟨#[]⟩,encI 2])=F:=by
  rw[← hF]
  have e:J7v (outV (.ok (.num q)))=if shortV (.num q)=true then .tup [encS (strV (.num q)),encI 0] else .tup [encS ⟨#[]⟩,encI 2]:=by
   unfold J7v outV;simp only;split<;>rfl
  have e2:encT (rT q.num q.den)=encS (strV (.num q)):=by unfold encT strV;simp only;rw[JMx]
  rw[e,e2]
 unfold encT at *;generalize ofL ((rT q.num q.den).map UInt8.ofNat)=wr at *;generalize shortV (.num q)=b at *;unfold eQ encR at *;refine kWQ ?_;intros;refine CallP.flat [] _ c84 h1 rfl ?_
 cases b with
 |true=>
   rw[if_pos rfl] at hF;refine kWQ ?_;intros;refine CallP.flat [] _ c85 h2 rfl ?_;refine kWQ ?_;intros;exact .of (by rw[← hF];rfl)
 |false=>
   rw[if_neg (by decide)] at hF;refine kWQ ?_;intros;exact .of (by rw[← hF];rfl)
def J0M:Vl→AV
 |.num q=>.agg [encB false,encB false,encB (decide (q.num<0)),encN q.num.natAbs,encN q.den]
 |.tr b=>.agg [encB true,encB b,encB false,.val (.slice none 0 0),.val (.slice none 0 0)]
def nilV:AV:=.agg [encB false,encB false,encB false,.val (.slice none 0 0),.val (.slice none 0 0)]
def J0O:Except Int Vl→AV
 |.ok v=>.tup [J0M v,encI 0]
 |.error c=>.tup [nilV,encI c]
theorem J1H (q:Rat):PX 205 [eQ q] (J0M (.num q)):=by
 refine PZ Tryz.func205 rfl ?_;unfold eQ encR J0M;refine kWQ ?_;intros;exact .of rfl
theorem J0l (b:Bool):PX 206 [encB b] (J0M (.tr b)):=by
 refine PZ Tryz.func206 rfl ?_;unfold J0M;refine kWQ ?_;intros;exact .of rfl
theorem JKI (v:Vl)(h:v.sz<2^32):PX 107 [J0M v] (J7v (outV (.ok v))):=by
 refine PZ Tryz.func107 rfl ?_
 rcases v with q|b
 ·have h1:=JMW q h;generalize outV (.ok (.num q))=o at *;obtain ⟨ob,oc⟩:=o;unfold J0M J7v eQ encR at *;refine kWQ ?_;intros;refine CallP.flat [] _ c212 h1 rfl ?_;refine kWQ ?_;intros;exact .of rfl
 ·cases b<;>(unfold J0M;refine kW ?_)
  ·refine kQ ?_;intros;exact .of rfl
  ·refine kQ ?_;intros;exact .of rfl
theorem JID (v w:Vl)(ht:v.type=w.type)(hv:v.sz<2^32)(hw:w.sz<2^32):PX 307 [J0M v,J0M w] (encB (sameV v w)):=by
 refine PZ Tryz.func307 rfl ?_
 rcases v with p|b<;>rcases w with q|c
 ·have h1:=J7g p q hv hw;generalize hF:sameV (.num p) (.num q)=F;have hF:decide (sgn (p-q).num=0)=F:=by rw[← hF];exact decide_eq_decide.2 (J9F p q)
  generalize sgn (p-q).num=z at *;unfold J0M eQ encR at *;refine kWQ ?_;intros;refine CallP.flat [] _ c306 h1 rfl ?_;refine kWQ ?_;intros;exact .of (by rw[← hF];rfl)
 ·cases ht
 ·cases ht
 ·unfold J0M;generalize hF:sameV (.tr b) (.tr c)=F;have hF:decide (b=c)=F:=hF;cases b<;>cases c<;>subst hF<;>refine kW ?_
  all_goals
   refine kQ ?_;intros;exact .of rfl
theorem J0b (b:Bd):J74 b=.agg [.val (.string b.use.name),.val (.int .i64 b.use.order),.val (.bool b.use.pre),encS b.value]:=rfl
def J5T (u:U):List Bd→Option ByteArray
 |[]=>none
 |b::r=>if b.use=u then some b.value else J5T u r
def J5X (bs:List Bd)(u:U)(ty:Int):Except Int Vl:=match J5T u bs with
 |none=>.error 5
 |some x=>match valV x with
   |none=>.error 0
   |some v=>if v.type≠ty then .error 7 else .ok v
theorem JCl (b:Bd)(r:List Bd)(u:U)(ty:Int):J5X (b::r) u ty=if b.use=u then (match valV b.value with
  |none=>.error 0
  |some v=>if v.type≠ty then .error 7 else .ok v) else J5X r u ty:=by
 unfold J5X;rw[J5T]
 by_cases h:b.use=u
 ·rw[if_pos h,if_pos h]
 ·rw[if_neg h,if_neg h]
theorem JHu (s:Sys)(bs:List Bd)(tm:ByteArray)(ini:Bool)(u:U)(hv:s.vars.length≤2^60)(hl:bs.length≤2^60)(j:Nat)(hj:j<s.vars.length)(hf:findR s.vars u.name=j)(hty:s.vars[j].type=0∨s.vars[j].type=1)
  (hvals:∀ b∈bs,b.value.size<2^35∧(valV b.value).isSome=true):PX 207 [J0J s,J0e ⟨tm,ini,bs⟩,encU u] (J0O (J5X bs u s.vars[j].type)):=by
 refine PZ Tryz.func207 rfl ?_;have hFd:=JCs s u.name hv;rw[hf] at hFd;generalize hF:J5X bs u s.vars[j].type=F;obtain ⟨vs,qs,ns,ws⟩:=s;simp only at hj hF hv hty;obtain ⟨un,uo,up⟩:=u;unfold J0J J0e encU at *;simp only at hFd;have mv1:=@List.length_map _ _ vs encV;have mb1:=@List.length_map _ _ bs J74;refine kWQ ?_;intros
 refine LoopP.intro (fun k σ H=>∃ g3 g4 g5 g6 i,k=bs.length-i∧i≤bs.length∧J5X (bs.drop i) ⟨un,uo,up⟩ vs[j].type=F ∧
   σ=fr [(3,.op 3 g3 0 0),(4,.op 4 g4 0 0),(5,.op 5 g5 0 0),(6,.op 6 g6 0 0),(8,encI i)] ∧
   H=hp [(3,g3,⟨26,4,[.agg [.sl 7 (vs.map encV),.sl 9 (qs.map J0P),.sl 9 (ns.map J0P),.sl 6 (ws.map J0r)]]⟩),(4,g4,⟨50,3,[.agg [encS tm,encB ini,.sl 4 (bs.map J74)]]⟩),(5,g5,⟨46,3,[.agg [.val (.string un),.val (.int .i64 uo),.val (.bool up)]]⟩),(6,g6,⟨169,5,[nilV]⟩)]) ?_ ?_
 ·exact .intro (W.of ⟨_,_,_,_,_,0,rfl,Nat.zero_le _,hF,rfl,rfl⟩ ⟨rfl,rfl,rfl,rfl,rfl,trivial⟩ ⟨rfl,rfl,rfl,rfl,trivial⟩)
 rintro k σ H ⟨g3,g4,g5,g6,i,rfl,hi,hT,rfl,rfl⟩
 rcases Nat.lt_or_ge i bs.length with h1|h1
 ·rw[List.drop_eq_getElem_cons h1,JCl] at hT;have hb:=hvals _ (List.getElem_mem h1);obtain ⟨b,hbb⟩:∃ b,bs[i]=b:=⟨_,rfl⟩;rw[hbb] at hT hb;obtain ⟨⟨bn,bo,bp⟩,bv⟩:=b;simp only at hT hb;obtain ⟨hbs,hbv⟩:=hb;rw[Option.isSome_iff_exists] at hbv;obtain ⟨v,hvv⟩:=hbv;rw[hvv] at hT;simp only at hT;refine kWQ ?_;intros;simp only[hbb,J0b];refine kQ ?_;intros;refine Need.intro eqst46 ?_
  try simp only[hbb,J0b]
  refine kWQ ?_;intros;rw[show (decide (bn=un)&&(decide (bo=uo)&&decide (bp=up)))=decide ((⟨bn,bo,bp⟩:U)=⟨un,uo,up⟩) from eqU ⟨bn,bo,bp⟩ ⟨un,uo,up⟩];refine CondP.dec (fun c1=>?_) (fun c1=>?_)<;>refine kW ?_
  ·rw[if_pos c1] at hT
   have hk : (bv=sTrue∧v=.tr true)∨(bv≠sTrue∧bv=sFalse∧v=.tr false)∨(bv≠sTrue∧bv≠sFalse∧(J05 bv.data.toList).2=true∧v=.num (numV bv)):=by
    unfold valV at hvv
    by_cases k1:bv=sTrue
    ·rw[if_pos (.inl k1),decide_eq_true k1] at hvv;exact .inl ⟨k1,(Option.some.inj hvv).symm⟩
    ·by_cases k2:bv=sFalse
     ·rw[if_pos (.inr k2),decide_eq_false k1] at hvv;exact .inr (.inl ⟨k1,k2,(Option.some.inj hvv).symm⟩)
     ·rw[if_neg (by rintro (h | h);exact k1 h;exact k2 h)] at hvv;split at hvv
      ·rename_i k3;exact .inr (.inr ⟨k1,k2,k3,(Option.some.inj hvv).symm⟩)
      ·cases hvv
   obtain ⟨⟨nm,kd,ty,vl,st,fx,un2⟩,hva⟩:∃ z,vs[j]=z:=⟨_,rfl⟩;rw[hva] at hT hty;simp only at hT hty;clear hF hvv hvals hv
   rcases hk with ⟨k1,rfl⟩|⟨k1,k2,rfl⟩|⟨k1,k2,k3,rfl⟩
   ·subst k1;have hN:=J0l true
    rcases hty with rfl|rfl
    ·rw[if_pos (by decide)] at hT;refine kQ ?_;intros;simp only[hbb,J0b];refine kS ?_;intros;refine CallG.intro _ c53 hFd ?_;refine kWQ ?_;intros;simp only[hva];refine kS ?_;intros;exact .of (by rw[← hT];rfl)
    ·rw[if_neg (by decide)] at hT;refine kQ ?_;intros;simp only[hbb,J0b];refine kS ?_;intros;refine CallG.intro _ c53 hFd ?_;refine kWQ ?_;intros;simp only[hva];refine kS ?_;intros;unfold J0M at hN;refine J00 [] _ c206 hN ?_;refine kWQ ?_;intros;exact .of (by rw[← hT];rfl)
   ·subst k2;have hN:=J0l false
    rcases hty with rfl|rfl
    ·rw[if_pos (by decide)] at hT;refine kQ ?_;intros;simp only[hbb,J0b];refine kS ?_;intros;refine CallG.intro _ c53 hFd ?_;refine kWQ ?_;intros;simp only[hva];refine kS ?_;intros;exact .of (by rw[← hT];rfl)
    ·rw[if_neg (by decide)] at hT;refine kQ ?_;intros;simp only[hbb,J0b];refine kS ?_;intros;refine CallG.intro _ c53 hFd ?_;refine kWQ ?_;intros;simp only[hva];refine kS ?_;intros;unfold J0M at hN;refine J00 [] _ c206 hN ?_;refine kWQ ?_;intros;exact .of (by rw[← hT];rfl)
   ·have hL:=JE7 bv hbs k3;have hvt:∀ q:Rat,(Vl.num q).type=0:=fun _=>rfl;have hN:=J1H (numV bv);generalize numV bv=q at *
    rcases hty with rfl|rfl
    ·rw[if_neg (fun h=>h rfl)] at hT;refine kQ ?_;intros;simp only[hbb,J0b];refine kS ?_;intros;refine CallG.intro _ c53 hFd ?_;refine kWQ ?_;intros;simp only[hva];refine kS ?_;intros;rw[show decide (bv=({ data:=#[102,97,108,115,101] }:ByteArray))=false from decide_eq_false k2];refine kS ?_;intros;unfold J0M eQ encR at *;refine J00 [] _ c208 hL ?_;refine kWQ ?_;intros;refine J00 [] _ c205 hN ?_;refine kWQ ?_;intros;exact .of (by rw[← hT];rfl)
    ·rw[if_pos (show ¬ (Vl.num q).type=1 from by rw[hvt];decide)] at hT;refine kQ ?_;intros;simp only[hbb,J0b];refine kS ?_;intros;refine CallG.intro _ c53 hFd ?_;refine kWQ ?_;intros;simp only[hva];refine kS ?_;intros;rw[show decide (bv=({ data:=#[102,97,108,115,101] }:ByteArray))=false from decide_eq_false k2];refine kS ?_;intros;exact .of (by rw[← hT];rfl)
  ·rw[if_neg c1] at hT;refine kQ ?_;intros
   exact .intro <| W.of ⟨_,by omega,g3,g4,g5,g6,i+1,rfl,h1,hT,rfl,rfl⟩ ⟨rfl,rfl,rfl,rfl,rfl,trivial⟩ ⟨rfl,rfl,rfl,rfl,trivial⟩
 ·obtain rfl:i=bs.length:=by omega
  rw[List.drop_eq_nil_of_le h1] at hT;refine kWQ ?_;intros;exact .of (by rw[← hT];rfl)
theorem JI5 (ev:Ev)(o:ByteArray)(a b:Vl)(h:((o=oAdd∨o=oSub∨o=oMul∨o=oDiv∨o=oLess∨o=oAtMost∨o=oMore∨o=oAtLeast)∧∃ p q,a=.num p∧b=.num q)∨((o=oEq∨o=oNe)∧a.type=b.type))
  (ha:a.sz<2^30)(hb:b.sz<2^30):PX 211 [encS o,J0M a,J0M b] (J0O (wayF ev o [a,b])):=by
 refine PZ Tryz.func211 rfl ?_
 rcases h with ⟨h,p,q,rfl,rfl⟩|⟨h,hab⟩
 ·have hp:szq p<2^32:=by have:szq p<2^30:=ha;omega
  have hq:szq q<2^32:=by have:szq q<2^30:=hb;omega
  have hP:=JKG p q hp hq;have hM:=JBo p q hp hq;have hX:=JI7 p q hp hq;have hA:=J7g p q hp hq;have hZ:=JKA q;have hD:=JE4 p q hp hq
  rcases h with rfl|rfl|rfl|rfl|rfl|rfl|rfl|rfl
  ·have hw:wayF ev oAdd [.num p,.num q]=.ok (.num (p+q)):=by kernel_rfl
   rw[hw];have hN:=J1H (p+q);generalize p+q=r at *;clear hw;unfold J0O J0M eQ encR at *;refine kWS ?_;intros;refine J00 [] _ c244 hP ?_;refine kWQ ?_;intros;refine J00 [] _ c205 hN ?_;refine kWQ ?_;intros;exact .of rfl
  ·have hw:wayF ev oSub [.num p,.num q]=.ok (.num (p-q)):=by kernel_rfl
   rw[hw];have hN:=J1H (p-q);generalize p-q=r at *;clear hw;unfold J0O J0M eQ encR at *;refine kWS ?_;intros;refine J00 [] _ c210 hM ?_;refine kWQ ?_;intros;refine J00 [] _ c205 hN ?_;refine kWQ ?_;intros;exact .of rfl
  ·have hw:wayF ev oMul [.num p,.num q]=.ok (.num (p*q)):=by kernel_rfl
   rw[hw];have hN:=J1H (p*q);generalize p*q=r at *;clear hw;unfold J0O J0M eQ encR at *;refine kWS ?_;intros;refine J00 [] _ c245 hX ?_;refine kWQ ?_;intros;refine J00 [] _ c205 hN ?_;refine kWQ ?_;intros;exact .of rfl
  ·have hw:wayF ev oDiv [.num p,.num q]=divV p q:=by kernel_rfl
   rw[hw];unfold divV
   by_cases h0:q=0
   ·rw[if_pos h0];rw[decide_eq_true h0] at hZ;unfold J0O J0M eQ encR at *;refine kWS ?_;intros;refine CallP.flat [] _ c166 hZ rfl ?_;refine kWQ ?_;intros;exact .of rfl
   ·rw[if_neg h0];rw[decide_eq_false h0] at hZ;have hD:=hD h0;have hN:=J1H (p/q);clear hw;generalize p/q=r at *;unfold J0O J0M eQ encR at *;refine kWS ?_;intros;refine CallP.flat [] _ c166 hZ rfl ?_;refine kWQ ?_;intros;refine J00 [] _ c167 hD ?_;refine kWQ ?_;intros;refine J00 [] _ c205 hN ?_;refine kWQ ?_;intros;exact .of rfl
  ·have hw:wayF ev oLess [.num p,.num q]=.ok (.tr (decide (p<q))):=by kernel_rfl
   rw[hw,← JHh];clear hw;generalize sgn (p-q).num=z at *;have hN:=J0l (decide (z<0));unfold J0O J0M eQ encR at *;refine kWS ?_;intros;refine CallP.flat [] _ c306 hA rfl ?_;refine kWQ ?_;intros;refine J00 [] _ c206 hN ?_;refine kWQ ?_;intros;exact .of rfl
  ·have hw:wayF ev oAtMost [.num p,.num q]=.ok (.tr (decide (p≤q))):=by kernel_rfl
   rw[hw,← JHi];clear hw;generalize sgn (p-q).num=z at *;have hN:=J0l (decide (z≤0));unfold J0O J0M eQ encR at *;refine kWS ?_;intros;refine CallP.flat [] _ c306 hA rfl ?_;refine kWQ ?_;intros;refine J00 [] _ c206 hN ?_;refine kWQ ?_;intros;exact .of rfl
  ·have hw:wayF ev oMore [.num p,.num q]=.ok (.tr (decide (q<p))):=by kernel_rfl
   rw[hw,← JKm];clear hw;generalize sgn (p-q).num=z at *;have hN:=J0l (decide (z>0));unfold J0O J0M eQ encR at *;refine kWS ?_;intros;refine CallP.flat [] _ c306 hA rfl ?_;refine kWQ ?_;intros;refine J00 [] _ c206 hN ?_;refine kWQ ?_;intros;exact .of rfl
  ·have hw:wayF ev oAtLeast [.num p,.num q]=.ok (.tr (decide (q≤p))):=by kernel_rfl
   rw[hw,← JKn];clear hw;generalize sgn (p-q).num=z at *;have hN:=J0l (decide (z≥0));unfold J0O J0M eQ encR at *;refine kWS ?_;intros;refine CallP.flat [] _ c306 hA rfl ?_;refine kWQ ?_;intros;refine J00 [] _ c206 hN ?_;refine kWQ ?_;intros;exact .of rfl
 ·have hS:=JID a b hab (by omega) (by omega)
  rcases h with rfl|rfl
  ·have hw:wayF ev oEq [a,b]=.ok (.tr (sameV a b)):=by
    rcases a with p|c<;>rcases b with q|d<;>first|(cases hab;done)|kernel_rfl
   rw[hw];clear hw;generalize sameV a b=sm at *;have hN:=J0l (sm)
   rcases a with p|c<;>rcases b with q|d<;>first|(cases hab;done)|skip
   all_goals
    unfold J0O J0M at *;refine kWS ?_;intros;refine CallP.flat [] _ c307 hS rfl ?_;refine kWQ ?_;intros;refine J00 [] _ c206 hN ?_;refine kWQ ?_;intros;exact .of rfl
  ·have hw:wayF ev oNe [a,b]=.ok (.tr (!sameV a b)):=by
    rcases a with p|c<;>rcases b with q|d<;>first|(cases hab;done)|kernel_rfl
   rw[hw];clear hw;generalize sameV a b=sm at *;have hN:=J0l (!sm)
   rcases a with p|c<;>rcases b with q|d<;>first|(cases hab;done)|skip
   all_goals
    unfold J0O J0M at *;refine kWS ?_;intros;refine CallP.flat [] _ c307 hS rfl ?_;refine kWQ ?_;intros;refine J00 [] _ c206 hN ?_;refine kWQ ?_;intros;exact .of rfl
theorem JI6 (o:ByteArray)(a b:Vl)(h:o=oAnd∨o=oOr):PX 211 [encS o,J0M a,J0M b] (J0O (.ok b)):=by
 refine PZ Tryz.func211 rfl ?_
 rcases h with rfl|rfl
 all_goals
  rcases a with p|c<;>rcases b with q|d
  all_goals
   unfold J0O J0M;refine kWS ?_;intros;exact .of rfl
theorem JD9 {e:Ex}(hb:builtF e=true)(h1:e.op=oNum):(J05 e.text.data.toList).2=true:=by
 have hx:textF e=true:=by rw[J0w] at hb;simp only[Bool.and_eq_true] at hb;exact hb.1.1.2
 unfold textF at hx;rw[if_pos h1] at hx;simp only[Bool.and_eq_true] at hx;exact hx.1
theorem JCt (s:Sys)(e:EnvA)(ks:List (ByteArray×Va))(ev:Ev)(he:EvOk ev)(hT1:e.time.size<2^35)(hT2:(J05 e.time.data.toList).2=true)(hT3:numV e.time=ev.time)(hI:e.init=ev.init)
  (hB:∀ u:U,(∃ v,J0y ks u.name=some v)→PX 207 [J0J s,J0e e,encU u] (J0O (J1s ks ev u)))(x:Ex) :
  SzE x→TxE x→builtF x=true→(typeF ks x).2=true→wtF x≤1000→PX 106 [J0J s,encE x,J0e e] (J0O (evalF ks ev x)):=by
 induction x using J1y with
 |h x ih=>
   intro hz hx hb ht hw;have ihk:=fun k hk=>ih k hk (hz.kid k hk) (hx.kid k hk) ((J0B hb).2 k hk) (J14 hb ht k hk) (by have:=JD2 hk;omega);clear ih;have hty:∀ k∈x.kids,∀ v,evalF ks ev k=.ok v→v.type=(typeF ks k).1:=fun k hk=>J9f k ((J0B hb).2 k hk) (J14 hb ht k hk);have herr:∀ k∈x.kids,∀ c,evalF ks ev k=.error c→¬ c=0:=fun k hk c h=>(J4N k ((J0B hb).2 k hk) (J14 hb ht k hk) c h).ne
   have hsz:∀ k∈x.kids,∀ v,evalF ks ev k=.ok v→v.sz<2^30:=fun k hk v h=>by
    have h1:=J5z he k ((J0B hb).2 k hk) v h;have h2:=JD2 hk;have:301*wtF k≤301*1000:=Nat.mul_le_mul_left _ (by omega);omega
   have hs:=J5p hb ht;have htx:=hx.tx;have hLong:=JE7 e.time hT1 hT2;rw[hT3] at hLong;have hnum:=JD9 hb;have hRead:=fun h=>JE3 x.text htx (hnum h)
   have hkr:∀ k∈x.kids,k.op=oNum→PX 204 [encS k.text] (.tup [eQ (numV k.text),encB true])∧evalF ks ev k=.ok (.num (numV k.text))∧(J05 k.text.data.toList).2=true∧szq (numV k.text)≤300:=fun k hk h=>by
    have h1:=JD9 ((J0B hb).2 k hk) h;exact ⟨JE3 k.text (hx.kid k hk).tx h1,by rw[J1z,J1p h],h1,(J3m h1).2⟩
   have hpre:x.op=oPre→x.order=0:=by
    intro h1;have hx:textF x=true:=by rw[J0w] at hb;simp only[Bool.and_eq_true] at hb;exact hb.1.1.2
    unfold textF at hx;rw[if_neg (by rw[h1];decide),if_neg (by rw[h1];decide),if_pos h1] at hx;simp only[Bool.and_eq_true,decide_eq_true_eq] at hx;omega
   have hTm:szq ev.time≤300:=he.1;clear hz hx hb ht hw;refine PZ Tryz.func106 rfl ?_;generalize hF:evalF ks ev x=F;rw[J1z] at hF;rw[J02];obtain ⟨o,t,n,es⟩:=x;obtain ⟨vs,qs,ns,ws⟩:=s;obtain ⟨tm,ini,bs⟩:=e;simp only[Ex.op,Ex.text,Ex.order,Ex.kids] at *;unfold J0J J0e at *;simp only at *
   rcases hs with ⟨h,hk,_⟩|⟨h,hk,v,hv,_⟩|⟨h,a,b,c,hk,ha,hb,hc⟩|⟨h,a,b,hk,ha,hb,_⟩|⟨h,a,b,hk,hab,_⟩|⟨h,hk,_⟩|⟨h,hk,_⟩|⟨h,a,hk,ha,_⟩|⟨h,a,hk,ha,_⟩|⟨h,a,b,hk,ha,hb,h0,_⟩|⟨h,a,b,hk,ha,hb,_⟩|⟨h,a,b,hk,ha,hb,_⟩
   ·simp only[Ex.op,Ex.kids] at h hk;rw[J1p h] at hF;have hR:=hRead h;have hN:=J1H (numV t);subst h hk hF;generalize numV t=r at *;unfold J0O J0M eQ encR at *;clear hRead hkr hLong hB ihk hnum hpre hty herr hsz;refine kWS ?_;intros;refine J00 [] _ c204 hR ?_;refine kWQ ?_;intros;refine J00 [] _ c205 hN ?_;refine kWQ ?_;intros;exact .of rfl
   ·simp only[Ex.op,Ex.kids,Ex.text] at h hk hv;rw[J4M h] at hF;have hBu:=hB ⟨t,n,decide (o=oPre)⟩ ⟨v,hv⟩;rw[hF] at hBu;clear hRead hkr hLong hB ihk hnum hty herr hsz hF;unfold encU at hBu;simp only at hBu;have hfin:∀ r:Except Int Vl,J0O r=J0O r:=fun _=>rfl
    rcases h with rfl|rfl
    ·rw[decide_eq_false (show ¬ oVar=oPre by decide)] at hBu;subst hk
     rcases F with c|(q|b)
     all_goals
      unfold J0O at *
      try unfold J0M at *
      try unfold nilV at *
      refine kWS ?_;intros;refine J00 [] _ c207 hBu ?_;refine kWQ ?_;intros;exact .of rfl
    ·rw[decide_eq_true (show oPre=oPre from rfl),hpre rfl] at hBu;subst hk
     rcases F with c|(q|b)
     all_goals
      unfold J0O at *
      try unfold J0M at *
      try unfold nilV at *
      refine kWS ?_;intros;refine J00 [] _ c207 hBu ?_;refine kWQ ?_;intros;exact .of rfl
   ·simp only[Ex.op,Ex.kids] at h hk;subst h hk;have ihA:=ihk a (by simp);have ihB:=ihk b (by simp);have ihC:=ihk c (by simp);rw[J2Z (.inl rfl)] at hF;clear hRead hkr hLong hB hnum hpre ihk;simp only[List.map_cons,List.map_nil,J02] at *
    cases hra:evalF ks ev a with
    |error cc=>
      rw[hra] at hF ihA;have hF:(.error cc:Except Int Vl)=F:=hF;subst hF;have hne:=herr a (by simp) _ hra;unfold J0O nilV at *;refine kWS ?_;intros;refine CallG.intro _ c106 ihA ?_;refine kWQ ?_;intros;exact .of rfl
    |ok va=>
      rw[hra] at hF ihA
      obtain ⟨tb,rfl⟩:∃ tb,va=.tr tb:=by
       have h1:=hty a (by simp) _ hra
       rcases va with q|tb
       ·rw[ha] at h1;cases h1
       ·exact ⟨tb,rfl⟩
      cases tb
      ·have hF:evalF ks ev c=F:=hF;rw[hF] at ihC;clear hF hra hty herr hsz
       rcases F with cc|(q|tb)
       all_goals
        unfold J0O at *
        try unfold J0M at *
        try unfold nilV at *
        refine kWS ?_;intros;refine CallG.intro _ c106 ihA ?_;refine kWS ?_;intros;refine CallG.intro _ c106 ihC ?_;refine kWQ ?_;intros;exact .of rfl
      ·have hF:evalF ks ev b=F:=hF;rw[hF] at ihB;clear hF hra hty herr hsz
       rcases F with cc|(q|tb)
       all_goals
        unfold J0O at *
        try unfold J0M at *
        try unfold nilV at *
        refine kWS ?_;intros;refine CallG.intro _ c106 ihA ?_;refine kWS ?_;intros;refine CallG.intro _ c106 ihB ?_;refine kWQ ?_;intros;exact .of rfl
   ·simp only[Ex.op,Ex.kids] at h hk;subst hk;have ihA:=ihk a (by simp);have ihB:=ihk b (by simp);rw[J2Z (.inr h)] at hF;clear hRead hkr hLong hB hnum hpre ihk;simp only[List.map_cons,List.map_nil,J02] at *
    cases hra:evalF ks ev a with
    |error cc=>
      rw[hra] at hF ihA;have hF:(.error cc:Except Int Vl)=F:=hF;subst hF;have hne:=herr a (by simp) _ hra;unfold J0O nilV at *
      rcases h with rfl|rfl
      all_goals
       refine kWS ?_;intros;refine CallG.intro _ c106 ihA ?_;refine kWQ ?_;intros;exact .of rfl
    |ok va =>
      rw[hra] at hF ihA
      obtain ⟨tb,rfl⟩:∃ tb,va=.tr tb:=by
       have h1:=hty a (by simp) _ hra
       rcases va with q|tb
       ·rw[ha] at h1;cases h1
       ·exact ⟨tb,rfl⟩
      rcases h with rfl|rfl
      all_goals cases tb
      ·have hF:(.ok (.tr false):Except Int Vl)=F:=by rw[← hF];kernel_rfl
       subst hF;clear hra hty herr hsz;unfold J0O J0M at *;refine kWS ?_;intros;refine CallG.intro _ c106 ihA ?_;refine kWS ?_;intros;exact .of rfl
      ·have hF:evalF ks ev b=F:=by rw[← hF];kernel_rfl
       have hTwo:=fun v=>JI6 oAnd (.tr true) v (by first|exact .inl rfl|exact .inr rfl)
       cases hrb:evalF ks ev b with
       |error cc=>
         rw[hrb] at ihB hF;have hne:=herr b (by simp) _ hrb;subst hF;clear hra hty herr hsz;unfold J0O J0M nilV at *;refine kWS ?_;intros;refine CallG.intro _ c106 ihA ?_;refine kWS ?_;intros;refine CallG.intro _ c106 ihB ?_;refine kWQ ?_;intros;exact .of rfl
       |ok vb=>
         rw[hrb] at ihB hF
         obtain ⟨tc,rfl⟩:∃ tc,vb=.tr tc:=by
          have h1:=hty b (by simp) _ hrb
          rcases vb with q|tc
          ·rw[hb] at h1;cases h1
          ·exact ⟨tc,rfl⟩
         have hTwo:=hTwo (.tr tc);subst hF;clear hra hty herr hsz;unfold J0O J0M at *;refine kWS ?_;intros;refine CallG.intro _ c106 ihA ?_;refine kWS ?_;intros;refine CallG.intro _ c106 ihB ?_;refine kWS ?_;intros;refine J00 [] _ c211 hTwo ?_;refine kWQ ?_;intros;exact .of rfl
      ·have hF:evalF ks ev b=F:=by rw[← hF];kernel_rfl
       have hTwo:=fun v=>JI6 oOr (.tr false) v (by first|exact .inl rfl|exact .inr rfl)
       cases hrb:evalF ks ev b with
       |error cc=>
         rw[hrb] at ihB hF;have hne:=herr b (by simp) _ hrb;subst hF;clear hra hty herr hsz;unfold J0O J0M nilV at *;refine kWS ?_;intros;refine CallG.intro _ c106 ihA ?_;refine kWS ?_;intros;refine CallG.intro _ c106 ihB ?_;refine kWQ ?_;intros;exact .of rfl
       |ok vb=>
         rw[hrb] at ihB hF
         obtain ⟨tc,rfl⟩:∃ tc,vb=.tr tc:=by
          have h1:=hty b (by simp) _ hrb
          rcases vb with q|tc
          ·rw[hb] at h1;cases h1
          ·exact ⟨tc,rfl⟩
         have hTwo:=hTwo (.tr tc);subst hF;clear hra hty herr hsz;unfold J0O J0M at *;refine kWS ?_;intros;refine CallG.intro _ c106 ihA ?_;refine kWS ?_;intros;refine CallG.intro _ c106 ihB ?_;refine kWS ?_;intros;refine J00 [] _ c211 hTwo ?_;refine kWQ ?_;intros;exact .of rfl
      ·have hF:(.ok (.tr true):Except Int Vl)=F:=by rw[← hF];kernel_rfl
       subst hF;clear hra hty herr hsz;unfold J0O J0M at *;refine kWS ?_;intros;refine CallG.intro _ c106 ihA ?_;refine kWS ?_;intros;exact .of rfl
   ·simp only[Ex.op,Ex.kids] at h hk;subst hk;have ihA:=ihk a (by simp);have ihB:=ihk b (by simp);have ho:IsOp o:=J4G (by rcases h with rfl | rfl<;>simp);rw[J16 ho] at hF
    have hno:o≠oNum∧o≠oTrue∧o≠oFalse∧o≠oVar∧o≠oPre∧o≠oTime∧o≠oInit∧o≠oSample∧o≠oNeg∧o≠oNot∧o≠oAnd∧o≠oOr∧o≠oIf:=by rcases h with rfl|rfl<;>decide
    obtain ⟨n0,n1,n2,n3,n4,n5,n6,n7,n8,n9,n10,n11,n12⟩:=hno;clear hRead hkr hLong hB hnum hpre ihk ho;simp only[List.map_cons,List.map_nil,J02] at *
    cases hra:evalF ks ev a with
    |error cc=>
      rw[hra] at hF ihA;have hF:(.error cc:Except Int Vl)=F:=hF;subst hF;have hne:=herr a (by simp) _ hra;unfold J0O nilV at *;refine kWS ?_;intros;refine CallG.intro _ c106 ihA ?_;refine kWQ ?_;intros;exact .of rfl
    |ok va=>
      cases hrb:evalF ks ev b with
      |error cc=>
        rw[hra] at hF ihA;rw[hrb] at hF ihB;have hF:(.error cc:Except Int Vl)=F:=hF;subst hF;have hne:=herr b (by simp) _ hrb;clear hra hty herr hsz;unfold J0O nilV at *
        rcases va with p|tb
        all_goals
         unfold J0M at *;refine kWS ?_;intros;refine CallG.intro _ c106 ihA ?_;refine kWS ?_;intros;refine CallG.intro _ c106 ihB ?_;refine kWQ ?_;intros;exact .of rfl
      |ok vb=>
        rw[hra] at hF ihA;rw[hrb] at hF ihB;have hF:wayF ev o [va,vb]=F:=hF;have ta:=hty a (by simp) _ hra;have tb:=hty b (by simp) _ hrb;have hTwo:=JI5 ev o va vb (.inr ⟨h,by omega⟩) (hsz a (by simp) _ hra) (hsz b (by simp) _ hrb);rw[hF] at hTwo;clear hF hra hrb hty herr hsz
        rcases va with p|tb1<;>rcases vb with q|tb2<;>rcases F with cc|(r|tb3)
        all_goals
         unfold J0O at *;unfold J0M at *
         try unfold nilV at *
         refine kWS ?_;intros;refine CallG.intro _ c106 ihA ?_;refine kWS ?_;intros;refine CallG.intro _ c106 ihB ?_;refine kWS ?_;intros;refine J00 [] _ c211 hTwo ?_;refine kWQ ?_;intros;exact .of rfl
   ·simp only[Ex.op,Ex.kids] at h hk;subst h hk;rw[J16 (J4G (by simp))] at hF;have hF:(.ok (.num ev.time):Except Int Vl)=F:=by rw[← hF];kernel_rfl
    subst hF;have hN:=J1H ev.time;generalize ev.time=r at *;clear hRead hkr hB hnum hpre ihk hty herr hsz;unfold J0O J0M eQ encR at *;refine kWS ?_;intros;refine J00 [] _ c208 hLong ?_;refine kWQ ?_;intros;refine J00 [] _ c205 hN ?_;refine kWQ ?_;intros;exact .of rfl
   ·simp only[Ex.op,Ex.kids] at h hk;subst hk;clear hRead hkr hB hnum hpre ihk hty herr hsz hLong
    rcases h with rfl|rfl|rfl
    ·rw[J16 (J4G (by simp))] at hF;have hF:(.ok (.tr true):Except Int Vl)=F:=by rw[← hF];kernel_rfl
     subst hF;have hN:=J0l true;unfold J0O J0M at *;refine kWS ?_;intros;refine J00 [] _ c206 hN ?_;refine kWQ ?_;intros;exact .of rfl
    ·rw[J16 (J4G (by simp))] at hF;have hF:(.ok (.tr false):Except Int Vl)=F:=by rw[← hF];kernel_rfl
     subst hF;have hN:=J0l false;unfold J0O J0M at *;refine kWS ?_;intros;refine J00 [] _ c206 hN ?_;refine kWQ ?_;intros;exact .of rfl
    ·rw[J16 (J4G (by simp))] at hF;have hF:(.ok (.tr ev.init):Except Int Vl)=F:=by rw[← hF];kernel_rfl
     subst hF;have hN:=J0l ini;rw[← hI];unfold J0O J0M at *;refine kWS ?_;intros;refine J00 [] _ c206 hN ?_;refine kWQ ?_;intros;exact .of rfl
   ·simp only[Ex.op,Ex.kids] at h hk;subst h hk;have ihA:=ihk a (by simp);rw[J16 (J4G (by simp))] at hF;clear hRead hkr hLong hB hnum hpre ihk;simp only[List.map_cons,List.map_nil,J02] at *
    cases hra:evalF ks ev a with
    |error cc=>
      rw[hra] at hF ihA;have hF:(.error cc:Except Int Vl)=F:=hF;subst hF;have hne:=herr a (by simp) _ hra;unfold J0O nilV at *;refine kWS ?_;intros;refine CallG.intro _ c106 ihA ?_;refine kWQ ?_;intros;exact .of rfl
    |ok va=>
      rw[hra] at hF ihA
      obtain ⟨q,rfl⟩:∃ q,va=.num q:=by
       have h1:=hty a (by simp) _ hra
       rcases va with q|tb
       ·exact ⟨q,rfl⟩
       ·exact absurd h1.symm ha
      have hF:(.ok (.num (-q)):Except Int Vl)=F:=by rw[← hF];kernel_rfl
      subst hF;have hO:=JBl q;have hN:=J1H (-q);generalize -q=r at *;clear hra hty herr hsz;unfold J0O J0M eQ encR at *;refine kWS ?_;intros;refine CallG.intro _ c106 ihA ?_;refine kWS ?_;intros;refine J00 [] _ c129 hO ?_;refine kWQ ?_;intros;refine J00 [] _ c205 hN ?_;refine kWQ ?_;intros;exact .of rfl
   ·simp only[Ex.op,Ex.kids] at h hk;subst h hk;have ihA:=ihk a (by simp);rw[J16 (J4G (by simp))] at hF;clear hRead hkr hLong hB hnum hpre ihk;simp only[List.map_cons,List.map_nil,J02] at *
    cases hra:evalF ks ev a with
    |error cc=>
      rw[hra] at hF ihA;have hF:(.error cc:Except Int Vl)=F:=hF;subst hF;have hne:=herr a (by simp) _ hra;unfold J0O nilV at *;refine kWS ?_;intros;refine CallG.intro _ c106 ihA ?_;refine kWQ ?_;intros;exact .of rfl
    |ok va=>
      rw[hra] at hF ihA
      obtain ⟨tb,rfl⟩:∃ tb,va=.tr tb:=by
       have h1:=hty a (by simp) _ hra
       rcases va with q|tb
       ·rw[ha] at h1;cases h1
       ·exact ⟨tb,rfl⟩
      have hF:(.ok (.tr (!tb)):Except Int Vl)=F:=by rw[← hF];kernel_rfl
      subst hF;have hN:=J0l (!tb);clear hra hty herr hsz;unfold J0O J0M at *;refine kWS ?_;intros;refine CallG.intro _ c106 ihA ?_;refine kWS ?_;intros;refine J00 [] _ c206 hN ?_;refine kWQ ?_;intros;exact .of rfl
   ·simp only[Ex.op,Ex.kids] at h hk;subst h hk;obtain ⟨r1,e1,p1,s1⟩:=(show PX 204 [encS a.text] (.tup [eQ (numV a.text),encB true])∧evalF ks ev a=.ok (.num (numV a.text))∧(J05 a.text.data.toList).2=true∧szq (numV a.text)≤300 from hkr a (by simp) ha);obtain ⟨r2,e2,p2,s2⟩:=(show PX 204 [encS b.text] (.tup [eQ (numV b.text),encB true])∧evalF ks ev b=.ok (.num (numV b.text))∧(J05 b.text.data.toList).2=true∧szq (numV b.text)≤300 from hkr b (by simp) hb);rw[J16 (J4G (by simp))] at hF;simp only[List.map_cons,List.map_nil] at hF;rw[e1,e2] at hF;have hF:(.ok (.tr (multF (ev.time-numV a.text) (numV b.text))):Except Int Vl)=F:=by rw[← hF];kernel_rfl
    subst hF;have hq0:numV b.text≠0:=fun h=>h0 (JAh p2 h);have hM:=JBo ev.time (numV a.text) (by omega) (by omega);have hms:=JCC ev.time (numV a.text);have hTi:=JI8 (ev.time-numV a.text) (numV b.text) (by omega) (by omega) hq0;have hN:=J0l (multF (ev.time-numV a.text) (numV b.text));generalize multF (ev.time-numV a.text) (numV b.text)=mb at *;generalize ev.time-numV a.text=d1 at *;generalize ev.time=t1 at *;generalize numV a.text=t2 at *;generalize numV b.text=t3 at *;clear hRead hkr hB hnum hpre ihk hty herr hsz e1 e2 p1 p2;simp only[List.map_cons,List.map_nil,J02] at *;unfold J0O J0M eQ encR at *;refine kWS ?_;intros;refine J00 [] _ c208 hLong ?_;refine kWS ?_;intros;refine J00 [] _ c204 r1 ?_;refine kWS ?_;intros;refine J00 [] _ c204 r2 ?_;refine kWS ?_;intros;refine CallG.intro _ c210 hM ?_;refine kWS ?_;intros;refine CallG.intro _ c209 hTi ?_;refine kWS ?_;intros;refine CallG.intro _ c206 hN ?_;refine kWQ ?_;intros;exact .of rfl
   ·simp only[Ex.op,Ex.kids] at h hk;subst hk;have ihA:=ihk a (by simp);have ihB:=ihk b (by simp);have ho:IsOp o:=J4G (by rcases h with rfl | rfl | rfl | rfl<;>simp);rw[J16 ho] at hF
    have hno:o≠oNum∧o≠oTrue∧o≠oFalse∧o≠oVar∧o≠oPre∧o≠oTime∧o≠oInit∧o≠oSample∧o≠oNeg∧o≠oNot∧o≠oAnd∧o≠oOr∧o≠oIf:=by rcases h with rfl|rfl|rfl|rfl<;>decide
    obtain ⟨n0,n1,n2,n3,n4,n5,n6,n7,n8,n9,n10,n11,n12⟩:=hno;clear hRead hkr hLong hB hnum hpre ihk ho;simp only[List.map_cons,List.map_nil,J02] at *
    cases hra:evalF ks ev a with
    |error cc=>
      rw[hra] at hF ihA;have hF:(.error cc:Except Int Vl)=F:=hF;subst hF;have hne:=herr a (by simp) _ hra;unfold J0O nilV at *;refine kWS ?_;intros;refine CallG.intro _ c106 ihA ?_;refine kWQ ?_;intros;exact .of rfl
    |ok va =>
      cases hrb:evalF ks ev b with
      |error cc=>
        rw[hra] at hF ihA;rw[hrb] at hF ihB;have hF:(.error cc:Except Int Vl)=F:=hF;subst hF;have hne:=herr b (by simp) _ hrb;clear hra hty herr hsz;unfold J0O nilV at *
        rcases va with p|tb
        all_goals
         unfold J0M at *;refine kWS ?_;intros;refine CallG.intro _ c106 ihA ?_;refine kWS ?_;intros;refine CallG.intro _ c106 ihB ?_;refine kWQ ?_;intros;exact .of rfl
      |ok vb=>
        rw[hra] at hF ihA;rw[hrb] at hF ihB;have hF:wayF ev o [va,vb]=F:=hF;have ta:=hty a (by simp) _ hra;have tb:=hty b (by simp) _ hrb
        have hTwo:=JI5 ev o va vb (.inl ⟨by rcases h with h|h|h|h<;>simp[h],by
         rcases va with p|tb1
         ·rcases vb with q | tb2
          ·exact ⟨p,q,rfl,rfl⟩
          ·exact absurd tb.symm hb
         ·exact absurd ta.symm ha⟩) (hsz a (by simp) _ hra) (hsz b (by simp) _ hrb)
        rw[hF] at hTwo;clear hF hra hrb hty herr hsz
        rcases va with p|tb1<;>rcases vb with q|tb2<;>rcases F with cc|(r|tb3)
        all_goals
         unfold J0O at *;unfold J0M at *
         try unfold nilV at *
         refine kWS ?_;intros;refine CallG.intro _ c106 ihA ?_;refine kWS ?_;intros;refine CallG.intro _ c106 ihB ?_;refine kWS ?_;intros;refine J00 [] _ c211 hTwo ?_;refine kWQ ?_;intros;exact .of rfl
   ·simp only[Ex.op,Ex.kids] at h hk;subst hk;have ihA:=ihk a (by simp);have ihB:=ihk b (by simp);have ho:IsOp o:=J4G (by rcases h with rfl | rfl | rfl | rfl<;>simp);rw[J16 ho] at hF
    have hno:o≠oNum∧o≠oTrue∧o≠oFalse∧o≠oVar∧o≠oPre∧o≠oTime∧o≠oInit∧o≠oSample∧o≠oNeg∧o≠oNot∧o≠oAnd∧o≠oOr∧o≠oIf:=by rcases h with rfl|rfl|rfl|rfl<;>decide
    obtain ⟨n0,n1,n2,n3,n4,n5,n6,n7,n8,n9,n10,n11,n12⟩:=hno;clear hRead hkr hLong hB hnum hpre ihk ho;simp only[List.map_cons,List.map_nil,J02] at *
    cases hra:evalF ks ev a with
    |error cc=>
      rw[hra] at hF ihA;have hF:(.error cc:Except Int Vl)=F:=hF;subst hF;have hne:=herr a (by simp) _ hra;unfold J0O nilV at *;refine kWS ?_;intros;refine CallG.intro _ c106 ihA ?_;refine kWQ ?_;intros;exact .of rfl
    |ok va =>
      cases hrb:evalF ks ev b with
      |error cc=>
        rw[hra] at hF ihA;rw[hrb] at hF ihB;have hF:(.error cc:Except Int Vl)=F:=hF;subst hF;have hne:=herr b (by simp) _ hrb;clear hra hty herr hsz;unfold J0O nilV at *
        rcases va with p|tb
        all_goals
         unfold J0M at *;refine kWS ?_;intros;refine CallG.intro _ c106 ihA ?_;refine kWS ?_;intros;refine CallG.intro _ c106 ihB ?_;refine kWQ ?_;intros;exact .of rfl
      |ok vb=>
        rw[hra] at hF ihA;rw[hrb] at hF ihB;have hF:wayF ev o [va,vb]=F:=hF;have ta:=hty a (by simp) _ hra;have tb:=hty b (by simp) _ hrb
        have hTwo:=JI5 ev o va vb (.inl ⟨by rcases h with h|h|h|h<;>simp[h],by
         rcases va with p|tb1
         ·rcases vb with q | tb2
          ·exact ⟨p,q,rfl,rfl⟩
          ·exact absurd tb.symm hb
         ·exact absurd ta.symm ha⟩) (hsz a (by simp) _ hra) (hsz b (by simp) _ hrb)
        rw[hF] at hTwo;clear hF hra hrb hty herr hsz
        rcases va with p|tb1<;>rcases vb with q|tb2<;>rcases F with cc|(r|tb3)
        all_goals
         unfold J0O at *;unfold J0M at *
         try unfold nilV at *
         refine kWS ?_;intros;refine CallG.intro _ c106 ihA ?_;refine kWS ?_;intros;refine CallG.intro _ c106 ihB ?_;refine kWS ?_;intros;refine J00 [] _ c211 hTwo ?_;refine kWQ ?_;intros;exact .of rfl
theorem J8p {s:Sys}(h:checkF s=0):(∀ n,J0y (knownF s.vars) n=s.vars.find? fun v=>decide (v.name=n))∧∀ v∈s.vars,v.type=0∨v.type=1:=by
 unfold checkF at h
 have hL:largeF s=false:=by
  cases h1:largeF s
  ·rfl
  ·rw[h1] at h;simp at h
 rw[hL] at h
 have hV:validF s=true:=by
  cases h1:validF s
  ·rw[h1] at h;simp at h
  ·rfl
 unfold validF at hV;simp only[Bool.and_eq_true,Bool.not_eq_true'] at hV;obtain ⟨⟨⟨⟨⟨⟨h1,_⟩,_⟩,_⟩,hv⟩,_⟩,_⟩:=hV
 refine ⟨fun n=>?_,fun v hvm=>JAJ (by
  have:=List.any_eq_false.1 hv v hvm
  simpa using this)⟩
 have e1:knownF s.vars=s.vars.map fun v=>(v.name,v):=by
  unfold knownF;rw[J9X _ _ (by simpa using J5A _ _ h1)];rfl
 rw[e1,J5N]
theorem J8Y {n:ByteArray}{v:Va}:∀ {vs:List Va} {i:Int},(vs.find? fun v=>decide (v.name=n))=some v→∃ j,∃ hj:j<vs.length,J0j (fun v:Va=>decide (v.name=n)) vs i=i+j∧vs[j]=v
 |[],i,h=>by cases h
 |x :: r,i,h=>by
   unfold J0j;rw[List.find?_cons] at h
   cases hx:decide (x.name=n) with
   |true=>
     rw[hx] at h;cases h;exact ⟨0,by simp,by simp,rfl⟩
   |false=>
     rw[hx] at h;obtain ⟨j,hj,h1,h2⟩:=J8Y (vs:=r) (i:=i+1) h;exact ⟨j+1,by simp;omega,by simp only;rw[h1];push_cast;omega,h2⟩
theorem J7U {β:Type}{u:U}:∀ {l:List (U×β)},(∀ x∈l,u≠x.1)→J1O l u=none
 |[],_=>rfl
 |x::l,h=>by
   unfold J1O;rw[if_neg (h x (by simp))];exact J7U fun y hy=>h y (by simp[hy])
theorem J8u {β:Type}(k:U)(v:β)(u:U):∀ l:List (U×β),J1O (putV l k v) u=if u=k then some v else J1O l u
 |[]=>rfl
 |x :: l=>by
   unfold putV
   by_cases h:k=x.1
   ·rw[if_pos h];unfold J1O;simp only;rw[← h];split<;>rfl
   ·rw[if_neg h];unfold J1O;rw[J8u k v u l]
    by_cases h2:u=x.1
    ·rw[if_pos h2,if_pos h2,if_neg (fun e=>h (by rw[← e,h2]))]
    ·rw[if_neg h2,if_neg h2]
theorem JGV {β:Type}{k:U}{v:β}:∀ {l:List (U×β)} {x:U×β},x∈putV l k v→x.1=k∨∃ y∈l,y.1=x.1
 |[],x,h=>by simp only[putV,List.mem_cons,List.not_mem_nil,or_false] at h;subst h;exact .inl rfl
 |y :: l,x,h=>by
   unfold putV at h;split at h
   ·rename_i e
    rcases List.mem_cons.1 h with rfl|h
    ·exact .inl e.symm
    ·exact .inr ⟨x,by simp[h],rfl⟩
   ·rcases List.mem_cons.1 h with rfl | h
    ·exact .inr ⟨x,by simp,rfl⟩
    ·rcases JGV h with h | ⟨z,h1,h2⟩
     ·exact .inl h
     ·exact .inr ⟨z,by simp[h1],h2⟩
theorem J8S (q u:U):J24 (some q) u=!beforeF q u:=JCS q u
theorem J5D {p:Option U}{b:Bd}{bs:List Bd}{l r:List (U×Vl)}(h:openL p (b::bs) l=some r):∃ v,valV b.value=some v∧fitF b.use=true∧J24 p b.use=false∧openL (some b.use) bs (putV l b.use v)=some r:=by
 unfold openL at h;split at h
 ·cases h
 ·rename_i v hv;split at h
  ·cases h
  ·rename_i hn;simp only[Bool.or_eq_true,Bool.not_eq_true',not_or,Bool.not_eq_false,Bool.not_eq_true] at hn;exact ⟨v,hv,hn.1,hn.2,h⟩
theorem J6Y:∀ {bs:List Bd} {q:U} {l r:List (U×Vl)},openL (some q) bs l=some r→∀ b∈bs,beforeF q b.use=true
 |[],q,l,r,_,b,hb=>by cases hb
 |c::bs,q,l,r,h,b,hb=>by
   obtain ⟨v,_,_,h3,h4⟩:=J5D h;rw[J8S,Bool.not_eq_false'] at h3
   rcases List.mem_cons.1 hb with rfl|hb
   ·exact h3
   ·exact JK8 _ _ _ h3 (J6Y h4 b hb)
theorem J5C:∀ {bs:List Bd} {p:Option U} {l r:List (U×Vl)},openL p bs l=some r→∀ b∈bs,(valV b.value).isSome=true
 |[],p,l,r,_,b,hb=>by cases hb
 |c::bs,p,l,r,h,b,hb=>by
   obtain ⟨v,h1,_,_,h4⟩:=J5D h
   rcases List.mem_cons.1 hb with rfl|hb
   ·rw[h1];rfl
   ·exact J5C h4 b hb
theorem J6X (u:U):∀ {bs:List Bd} {p:Option U} {l r:List (U×Vl)},openL p bs l=some r→(∀ b∈bs,∀ x∈l,b.use≠x.1)→J1O r u=match J1O l u with
  |some v=>some v
  |none=>(J5T u bs).bind valV
 |[],p,l,r,h,_=>by
   unfold openL at h;cases h;cases J1O l u<;>rfl
 |b :: bs,p,l,r,h,hd=>by
   obtain ⟨v,h1,_,_,h4⟩:=J5D h
   have ih:=J6X u h4 (fun c hc x hx=>by
    rcases JGV hx with e|⟨y,hy,e⟩
    ·rw[e];intro e2;have:=J6Y h4 c hc;rw[e2,JNW] at this;cases this
    ·rw[← e]
     exact hd c (by simp[hc]) y hy)
   rw[ih,J8u,J5T]
   by_cases hu:u=b.use
   ·rw[if_pos hu,if_pos hu.symm,J7U (l:=l) (fun x hx=>by rw[hu];exact hd b (by simp) x hx)];simp only;rw[Option.bind_some,h1]
   ·rw[if_neg hu,if_neg (fun e=>hu e.symm)]
theorem JFC {e:EnvA}{ev:Ev}(h:openF e=some ev)(ks:List (ByteArray×Va))(u:U):J5X e.binds u (J99 ks u.name)=J1s ks ev u:=by
 unfold openF at h;split at h
 ·cases ho:openL none e.binds [] with
  |none=>rw[ho] at h;cases h
  |some l=>
    rw[ho] at h;cases h;have ha:=J6X u ho (fun b _ x hx=>by cases hx);have hv:=J5C ho;unfold J5X J1s;simp only;rw[ha];have e0:J1O ([]:List (U×Vl)) u=none:=rfl;rw[e0];simp only
    cases hf:J5T u e.binds with
    |none=>rfl
    |some x=>
      rw[Option.bind_some];simp only
      cases hx:valV x with
      |none=>
        exfalso
        have key:∀ bs:List Bd,J5T u bs=some x→∃ b∈bs,b.value=x:=by
         intro bs
         induction bs with
         |nil=>intro h;cases h
         |cons c r ih=>
           intro h;unfold J5T at h;split at h
           ·cases h;exact ⟨c,by simp,rfl⟩
           ·obtain ⟨b,hb,e⟩:=ih h;exact ⟨b,by simp[hb],e⟩
        obtain ⟨b,hb,e⟩:=key _ hf;have:=hv b hb;rw[e,hx] at this;cases this
      |some v=>rfl
 ·cases h
def J3o:Option U→List Bd→Bool
 |_,[]=>true
 |p,b::r=>(valV b.value).isSome&&fitF b.use&&!J24 p b.use&&J3o (some b.use) r
theorem J8W:∀ (bs:List Bd) (p:Option U) (l:List (U×Vl)),(openL p bs l).isSome=J3o p bs
 |[],p,l=>rfl
 |b :: r,p,l=>by
   unfold openL J3o
   cases hv:valV b.value with
   |none=>rfl
   |some v=>
     cases hf:fitF b.use with
     |false=>rfl
     |true=>
       cases hn:J24 p b.use with
       |true=>rfl
       |false=>exact J8W r _ _
theorem JLA (x:ByteArray):(valV x).isSome=(valueF x 0||valueF x 1):=by
 unfold valV valueF;split
 ·rfl
 ·split
  ·rename_i h;rw[h];rfl
  ·rename_i h;rw[Bool.eq_false_iff.2 h];rfl
def envF (e:EnvA):Int:=match openS e with
 |.error c=>c
 |.ok _=>0
theorem JM2 (e:EnvA):envF e=if 1000<e.binds.length then 2 else if (J05 e.time.data.toList).2=true then (if J3o none e.binds=true then 0 else 1) else 1:=by
 unfold envF openS
 by_cases h0:1000<e.binds.length
 ·rw[if_pos h0,if_pos h0]
 ·rw[if_neg h0,if_neg h0,← J8W e.binds none []];unfold openF;generalize openL none e.binds []=o;generalize (J05 e.time.data.toList).2=p;cases p<;>cases o<;>rfl
theorem JNe (t:ByteArray)(ht:t.size<2^35):PX 164 [encS t] (encB (J05 t.data.toList).2):=by
 have:=JIM t.data.toList ht;rw[J0z,← (J1k t.data.toList).1] at this;exact this
theorem JCv (e:EnvA)(hz:SzB e):PX 81 [J0e e] (encI (envF e)):=by
 refine PZ Tryz.func81 rfl ?_;obtain ⟨tm,ini,bs⟩:=e;obtain ⟨hzt,hzl,hzb⟩:=hz;simp only at hzt hzl hzb;have hIs:=JNe tm hzt;generalize hF:envF ⟨tm,ini,bs⟩=F;rw[JM2] at hF;simp only at hF;generalize (J05 tm.data.toList).2=ok at *;unfold J0e;have hml:=@List.length_map _ _ bs J74;refine kWQ ?_;intros;refine CondP.dec (fun h1=>?_) (fun h1=>?_)<;>refine kW ?_
 ·rw[if_pos (by first|omega|(rw[List.length_map] at h1;omega))] at hF;refine kQ ?_;intros;exact .of (by rw[← hF];rfl)
 rw[if_neg (by first|omega|(rw[List.length_map] at h1;omega))] at hF;refine kQ ?_;intros;refine CallP.flat [] _ c164 hIs rfl ?_
 cases ok with
 |false=>
   rw[if_neg (by decide)] at hF;refine kWQ ?_;intros;exact .of (by rw[← hF];rfl)
 |true=>
 rw[if_pos rfl] at hF;refine kWQ ?_;intros
 refine LoopP.intro (fun k σ H=>∃ g1 i,k=bs.length-i∧i≤bs.length∧(if J3o (J7t bs i) (bs.drop i)=true then (0:Int) else 1)=F ∧
   σ=fr [(1,.op 1 g1 0 0),(3,encI i)]∧H=hp [(1,g1,⟨50,3,[.agg [encS tm,encB ini,.sl 4 (bs.map J74)]]⟩)]) ?_ ?_
 ·exact .intro (W.of ⟨_,_,0,rfl,Nat.zero_le _,hF,rfl,rfl⟩ ⟨rfl,rfl,trivial⟩ ⟨rfl,trivial⟩)
 clear hF hIs;rintro k σ H ⟨g1,i,rfl,hi,hT,rfl,rfl⟩
 rcases Nat.lt_or_ge i bs.length with h2|h2
 ·rw[List.drop_eq_getElem_cons h2] at hT;have hbz:=hzb _ (List.getElem_mem h2)
  have hnx:J7t bs (i+1)=some bs[i].use:=by
   show bs[i]?.map Bd.use=_
   rw[List.getElem?_eq_getElem h2];rfl
  obtain ⟨b,hbb⟩:∃ b,bs[i]=b:=⟨_,rfl⟩;rw[hbb] at hT hbz hnx;have hUs:=JKK b.use hbz.1;have hV0:=J3Y b.value 0 hbz.2 (.inl rfl);have hV1:=J3Y b.value 1 hbz.2 (.inr rfl);have hBf:=fun p=>JIW p b.use;rw[J3o,JLA] at hT;have hgo:∀ n,J24 (J7t bs i) b.use=n→J24 (J7t bs i) b.use=n:=fun _ h=>h;generalize fitF b.use=fu at *;generalize valueF b.value 0=v0 at *;generalize valueF b.value 1=v1 at *;rw[← hnx] at hT
  rcases i with _|k
  ·replace hT:(if ((v0||v1)&&fu&&!false&&J3o (J7t bs 1) (bs.drop 1))=true then (0:Int) else 1)=F:=hT;cases fu
   ·rw[Bool.and_false,Bool.false_and,Bool.false_and] at hT;refine kWQ ?_;intros;simp only[hbb,J0b];refine kQ ?_;intros;refine CallG.intro _ c54 hUs ?_;refine kWQ ?_;intros;exact .of (by rw[← hT];rfl)
   cases v0
   ·cases v1
    ·refine kWQ ?_;intros;simp only[hbb,J0b];refine kQ ?_;intros;refine CallG.intro _ c54 hUs ?_;refine kWQ ?_;intros;refine CallG.intro _ c165 hV0 ?_;refine kWQ ?_;intros;refine CallG.intro _ c165 hV1 ?_;refine kWQ ?_;intros;exact .of (by rw[← hT];rfl)
    ·refine kWQ ?_;intros;simp only[hbb,J0b];refine kQ ?_;intros;refine CallG.intro _ c54 hUs ?_;refine kWQ ?_;intros;refine CallG.intro _ c165 hV0 ?_;refine kWQ ?_;intros;refine CallG.intro _ c165 hV1 ?_;refine kWQ ?_;intros
     exact .intro <| W.of ⟨_,by omega,g1,0+1,rfl,h2,hT,rfl,rfl⟩ ⟨rfl,rfl,trivial⟩ ⟨rfl,trivial⟩
   ·refine kWQ ?_;intros;simp only[hbb,J0b];refine kQ ?_;intros;refine CallG.intro _ c54 hUs ?_;refine kWQ ?_;intros;refine CallG.intro _ c165 hV0 ?_;refine kWQ ?_;intros
    exact .intro <| W.of ⟨_,by omega,g1,0+1,rfl,h2,hT,rfl,rfl⟩ ⟨rfl,rfl,trivial⟩ ⟨rfl,trivial⟩
  ·have h8:k<bs.length:=by omega
   have hpv:J7t bs (k+1)=some bs[k].use:=by
    show bs[k]?.map Bd.use=some _
    rw[List.getElem?_eq_getElem h8];rfl
   have hix:(((k+1:Nat):Int)-1).toNat=k:=by omega
   obtain ⟨pb,hpb⟩:∃ pb,bs[k]=pb:=⟨_,rfl⟩;rw[hpb] at hpv;have hBf:=hBf pb.use;rw[hpv,J8S,Bool.not_not] at hT;generalize beforeF pb.use b.use=bf at *;cases fu
   ·rw[Bool.and_false,Bool.false_and,Bool.false_and] at hT;refine kWQ ?_;intros;simp only[hbb,J0b];refine kQ ?_;intros;refine CallG.intro _ c54 hUs ?_;refine kWQ ?_;intros;exact .of (by rw[← hT];rfl)
   cases v0
   ·cases v1
    ·refine kWQ ?_;intros;simp only[hbb,J0b];refine kQ ?_;intros;refine CallG.intro _ c54 hUs ?_;refine kWQ ?_;intros;refine CallG.intro _ c165 hV0 ?_;refine kWQ ?_;intros;refine CallG.intro _ c165 hV1 ?_;refine kWQ ?_;intros;exact .of (by rw[← hT];rfl)
    ·refine kWQ ?_;intros;simp only[hbb,J0b];refine kQ ?_;intros;refine CallG.intro _ c54 hUs ?_;refine kWQ ?_;intros;refine CallG.intro _ c165 hV0 ?_;refine kWQ ?_;intros;refine CallG.intro _ c165 hV1 ?_;refine kWQ ?_;intros;simp only[hix,hpb,J0b];refine CallG.intro _ c55 hBf ?_;cases bf
     ·refine kWQ ?_;intros;exact .of (by rw[← hT];rfl)
     ·refine kWQ ?_;intros
      exact .intro <| W.of ⟨_,by omega,g1,k+1+1,rfl,h2,hT,rfl,rfl⟩ ⟨rfl,rfl,trivial⟩ ⟨rfl,trivial⟩
   ·refine kWQ ?_;intros;simp only[hbb,J0b];refine kQ ?_;intros;refine CallG.intro _ c54 hUs ?_;refine kWQ ?_;intros;refine CallG.intro _ c165 hV0 ?_;refine kWQ ?_;intros;simp only[hix,hpb,J0b];refine CallG.intro _ c55 hBf ?_;cases bf
    ·refine kWQ ?_;intros;exact .of (by rw[← hT];rfl)
    ·refine kWQ ?_;intros
     exact .intro <| W.of ⟨_,by omega,g1,k+1+1,rfl,h2,hT,rfl,rfl⟩ ⟨rfl,rfl,trivial⟩ ⟨rfl,trivial⟩
 ·obtain rfl:i=bs.length:=by omega
  rw[List.drop_eq_nil_of_le h2] at hT;refine kWQ ?_;intros;exact .of (by rw[← hT];rfl)
theorem JKE (s:Sys)(x:Ex)(hs:SzS s)(hz:SzE x)(hx:TxE x):PX 105 [J0J s,encE x] (.tup [encI (typeS s x).1,encI (typeS s x).2]):=by
 refine PZ Tryz.func105 rfl ?_;have hc:=JIU s hs;rw[JFB] at hc;have hl:=JE8 x hz;rw[← J8V] at hl;have hb:=JBu x hz hx;have ht:=JAK s hs.v x hz
 have hsame:checkF s=0→builtF x=true→(typeF (knownF s.vars) x).2=(typR s.vars x).2∧((typeF (knownF s.vars) x).2=true→(typeF (knownF s.vars) x).1=(typR s.vars x).1):=fun h h2=>by
  obtain ⟨h3,h4⟩:=J8p h;obtain ⟨h5,h6⟩:=JD6 (knownF s.vars) s.vars h3 h4 x h2;exact ⟨h5,fun h=>(h6 h).1⟩
 generalize hF:typeS s x=F;unfold typeS at hF;generalize checkF s=ck at *;generalize tooF x=tl at *;generalize typeF (knownF s.vars) x=ty at *;generalize typR s.vars x=tr at *;obtain ⟨vs,qs,ns,ws⟩:=s;rw[J02] at *;unfold J0J J7w at *;simp only at *;refine kWQ ?_;intros;refine CallP.flat [] _ c37 hc rfl ?_
 by_cases h0:ck=0
 case neg=>
  rw[if_pos h0] at hF;refine kWQ ?_;intros;exact .of (by rw[← hF];rfl)
 rw[if_neg (fun h=>h h0)] at hF;refine kWQ ?_;intros;refine CallP.flat [] _ c116 hl rfl ?_
 cases tl with
 |true=>
   rw[if_pos rfl] at hF;refine kWQ ?_;intros;exact .of (by rw[← hF];rfl)
 |false=>
 rw[if_neg (by decide)] at hF;refine kWQ ?_;intros
 cases hbb:builtF x with
 |false=>
   rw[hbb] at hF hb;rw[if_pos (by decide)] at hF;refine CallP.flat [] _ c147 hb rfl ?_;refine kWQ ?_;intros;exact .of (by rw[← hF];rfl)
 |true=>
 rw[hbb] at hF hb;rw[if_neg (by decide)] at hF;obtain ⟨e1,e2⟩:=hsame h0 hbb;have ht:=ht hbb;obtain ⟨t1,t2⟩:=tr;obtain ⟨y1,y2⟩:=ty;simp only at e1 e2 hF ht;subst e1;refine CallP.flat [] _ c147 hb rfl ?_;refine kWQ ?_;intros;refine CallP.flat [] _ c203 ht rfl ?_
 cases y2 with
 |true=>
   rw[if_pos rfl] at hF;have e2:=e2 rfl;subst e2;refine kWQ ?_;intros;exact .of (by rw[← hF];rfl)
 |false=>
   rw[if_neg (by decide)] at hF;refine kWQ ?_;intros;exact .of (by rw[← hF];rfl)
end Go.Proofs.YtlhdoekgipaihaaGreatDoor
namespace Go.Proofs
open Go.Shelf
def Tryz.lays169_ren:Go.Shelf.Ren:=⟨fun|169=>218|n=>n,fun|70=>275|9=>9|0=>0|72=>278|37=>276|127=>352|3=>3|5=>5|n=>n,fun|n=>n⟩
theorem JBd:Go.Proofs.Lays.n169 Tryz.prog Tryz.lays169_ren:={
 mixed:=by kernel_rfl
 f169:=Tryz.func218.trans (congrArg some (by kernel_rfl))
 t0:=Tryz.underlying0
 a0:=Tryz.isAgg0
 z0:=Tryz.sizeOf0
 v0:=Tryz.zeroValue0
 t3:=Tryz.underlying3
 a3:=Tryz.isAgg3
 z3:=Tryz.sizeOf3
 v3:=Tryz.zeroValue3
 t9:=Tryz.underlying9
 a9:=Tryz.isAgg9
 z9:=Tryz.sizeOf9
 v9:=Tryz.zeroValue9
 t37:=Tryz.underlying276
 a37:=Tryz.isAgg276
 z37:=Tryz.sizeOf276
 v37:=Tryz.zeroValue276
 t70:=Tryz.underlying275
 a70:=Tryz.isAgg275
 z70:=Tryz.sizeOf275
 v70:=Tryz.zeroValue275
 t72:=Tryz.underlying278
 a72:=Tryz.isAgg278
 z72:=Tryz.sizeOf278
 v72:=Tryz.zeroValue278
 t127:=Tryz.underlying352
 a127:=Tryz.isAgg352
 z127:=Tryz.sizeOf352
 v127:=Tryz.zeroValue352 }
theorem J2o:Builder.Extra Tryz.prog Tryz.lays169_ren:={
 sizeBuilder:=by kernel_rfl
 liesBuilder:=by kernel_rfl
 t5:=Tryz.underlying5
 a5:=Tryz.isAgg5
 z5:=Tryz.sizeOf5
 v5:=Tryz.zeroValue5
 infoByte:=by kernel_rfl
 cellsByte:=by kernel_rfl
 sizeByte:=by kernel_rfl
 neB5:=by decide }
def Tryz.lays156_ren:Go.Shelf.Ren:=⟨fun|156=>312|165=>343|166=>213|169=>218|240=>308|241=>369|276=>342|277=>383|n=>n,fun|31=>28|9=>9|3=>3|4=>4|0=>0|20=>20|72=>278|76=>281|70=>275|37=>276|75=>280|127=>352|164=>381|5=>5|80=>147|n=>n,fun|n=>n⟩
theorem J1K:Go.Proofs.Lays.n156 Tryz.prog Tryz.lays156_ren:={
 mixed:=by kernel_rfl
 f156:=Tryz.func312.trans (congrArg some (by kernel_rfl))
 f165:=Tryz.func343.trans (congrArg some (by kernel_rfl))
 f166:=Tryz.func213.trans (congrArg some (by kernel_rfl))
 f169:=Tryz.func218.trans (congrArg some (by kernel_rfl))
 f240:=Tryz.func308.trans (congrArg some (by kernel_rfl))
 f241:=Tryz.func369.trans (congrArg some (by kernel_rfl))
 f276:=Tryz.func342.trans (congrArg some (by kernel_rfl))
 f277:=Tryz.func383.trans (congrArg some (by kernel_rfl))
 t0:=Tryz.underlying0
 a0:=Tryz.isAgg0
 z0:=Tryz.sizeOf0
 v0:=Tryz.zeroValue0
 t3:=Tryz.underlying3
 a3:=Tryz.isAgg3
 z3:=Tryz.sizeOf3
 v3:=Tryz.zeroValue3
 t4:=Tryz.underlying4
 a4:=Tryz.isAgg4
 z4:=Tryz.sizeOf4
 v4:=Tryz.zeroValue4
 t9:=Tryz.underlying9
 a9:=Tryz.isAgg9
 z9:=Tryz.sizeOf9
 v9:=Tryz.zeroValue9
 t20:=Tryz.underlying20
 a20:=Tryz.isAgg20
 z20:=Tryz.sizeOf20
 v20:=Tryz.zeroValue20
 t31:=Tryz.underlying28
 a31:=Tryz.isAgg28
 z31:=Tryz.sizeOf28
 v31:=Tryz.zeroValue28
 t37:=Tryz.underlying276
 a37:=Tryz.isAgg276
 z37:=Tryz.sizeOf276
 v37:=Tryz.zeroValue276
 t70:=Tryz.underlying275
 a70:=Tryz.isAgg275
 z70:=Tryz.sizeOf275
 v70:=Tryz.zeroValue275
 t72:=Tryz.underlying278
 a72:=Tryz.isAgg278
 z72:=Tryz.sizeOf278
 v72:=Tryz.zeroValue278
 t75:=Tryz.underlying280
 a75:=Tryz.isAgg280
 z75:=Tryz.sizeOf280
 v75:=Tryz.zeroValue280
 t76:=Tryz.underlying281
 a76:=Tryz.isAgg281
 z76:=Tryz.sizeOf281
 v76:=Tryz.zeroValue281
 t127:=Tryz.underlying352
 a127:=Tryz.isAgg352
 z127:=Tryz.sizeOf352
 v127:=Tryz.zeroValue352
 t164:=Tryz.underlying381
 a164:=Tryz.isAgg381
 z164:=Tryz.sizeOf381
 v164:=Tryz.zeroValue381 }
theorem J0d:Builder.Extra Tryz.prog Tryz.lays156_ren:={
 sizeBuilder:=by kernel_rfl
 liesBuilder:=by kernel_rfl
 t5:=Tryz.underlying5
 a5:=Tryz.isAgg5
 z5:=Tryz.sizeOf5
 v5:=Tryz.zeroValue5
 infoByte:=by kernel_rfl
 cellsByte:=by kernel_rfl
 sizeByte:=by kernel_rfl
 neB5:=by decide }
def Tryz.lays105_ren:Go.Shelf.Ren:=⟨fun|105=>313|212=>328|99=>226|165=>343|166=>213|170=>344|169=>218|263=>360|264=>361|206=>314|240=>308|241=>369|276=>342|277=>383|n=>n,fun|9=>9|3=>3|4=>4|20=>20|0=>0|46=>356|109=>361|5=>5|72=>278|76=>281|51=>329|146=>393|53=>310|148=>395|70=>275|37=>276|75=>280|127=>352|164=>381|80=>147|n=>n,fun|n=>n⟩
theorem JBe:Go.Proofs.Lays.n105 Tryz.prog Tryz.lays105_ren:={
 mixed:=by kernel_rfl
 f99:=Tryz.func226.trans (congrArg some (by kernel_rfl))
 f105:=Tryz.func313.trans (congrArg some (by kernel_rfl))
 f165:=Tryz.func343.trans (congrArg some (by kernel_rfl))
 f166:=Tryz.func213.trans (congrArg some (by kernel_rfl))
 f169:=Tryz.func218.trans (congrArg some (by kernel_rfl))
 f170:=Tryz.func344.trans (congrArg some (by kernel_rfl))
 f206:=Tryz.func314.trans (congrArg some (by kernel_rfl))
 f212:=Tryz.func328.trans (congrArg some (by kernel_rfl))
 f240:=Tryz.func308.trans (congrArg some (by kernel_rfl))
 f241:=Tryz.func369.trans (congrArg some (by kernel_rfl))
 f263:=Tryz.func360.trans (congrArg some (by kernel_rfl))
 f264:=Tryz.func361.trans (congrArg some (by kernel_rfl))
 f276:=Tryz.func342.trans (congrArg some (by kernel_rfl))
 f277:=Tryz.func383.trans (congrArg some (by kernel_rfl))
 t0:=Tryz.underlying0
 a0:=Tryz.isAgg0
 z0:=Tryz.sizeOf0
 v0:=Tryz.zeroValue0
 t3:=Tryz.underlying3
 a3:=Tryz.isAgg3
 z3:=Tryz.sizeOf3
 v3:=Tryz.zeroValue3
 t4:=Tryz.underlying4
 a4:=Tryz.isAgg4
 z4:=Tryz.sizeOf4
 v4:=Tryz.zeroValue4
 t5:=Tryz.underlying5
 a5:=Tryz.isAgg5
 z5:=Tryz.sizeOf5
 v5:=Tryz.zeroValue5
 t9:=Tryz.underlying9
 a9:=Tryz.isAgg9
 z9:=Tryz.sizeOf9
 v9:=Tryz.zeroValue9
 t20:=Tryz.underlying20
 a20:=Tryz.isAgg20
 z20:=Tryz.sizeOf20
 v20:=Tryz.zeroValue20
 t37:=Tryz.underlying276
 a37:=Tryz.isAgg276
 z37:=Tryz.sizeOf276
 v37:=Tryz.zeroValue276
 t46:=Tryz.underlying356
 a46:=Tryz.isAgg356
 z46:=Tryz.sizeOf356
 v46:=Tryz.zeroValue356
 t51:=Tryz.underlying329
 a51:=Tryz.isAgg329
 z51:=Tryz.sizeOf329
 v51:=Tryz.zeroValue329
 t53:=Tryz.underlying310
 a53:=Tryz.isAgg310
 z53:=Tryz.sizeOf310
 v53:=Tryz.zeroValue310
 t70:=Tryz.underlying275
 a70:=Tryz.isAgg275
 z70:=Tryz.sizeOf275
 v70:=Tryz.zeroValue275
 t72:=Tryz.underlying278
 a72:=Tryz.isAgg278
 z72:=Tryz.sizeOf278
 v72:=Tryz.zeroValue278
 t75:=Tryz.underlying280
 a75:=Tryz.isAgg280
 z75:=Tryz.sizeOf280
 v75:=Tryz.zeroValue280
 t76:=Tryz.underlying281
 a76:=Tryz.isAgg281
 z76:=Tryz.sizeOf281
 v76:=Tryz.zeroValue281
 t109:=Tryz.underlying361
 a109:=Tryz.isAgg361
 z109:=Tryz.sizeOf361
 v109:=Tryz.zeroValue361
 t127:=Tryz.underlying352
 a127:=Tryz.isAgg352
 z127:=Tryz.sizeOf352
 v127:=Tryz.zeroValue352
 t146:=Tryz.underlying393
 a146:=Tryz.isAgg393
 z146:=Tryz.sizeOf393
 v146:=Tryz.zeroValue393
 t148:=Tryz.underlying395
 a148:=Tryz.isAgg395
 z148:=Tryz.sizeOf395
 v148:=Tryz.zeroValue395
 t164:=Tryz.underlying381
 a164:=Tryz.isAgg381
 z164:=Tryz.sizeOf381
 v164:=Tryz.zeroValue381 }
theorem J2p:Builder.Extra Tryz.prog Tryz.lays105_ren:={
 sizeBuilder:=by kernel_rfl
 liesBuilder:=by kernel_rfl
 t5:=Tryz.underlying5
 a5:=Tryz.isAgg5
 z5:=Tryz.sizeOf5
 v5:=Tryz.zeroValue5
 infoByte:=by kernel_rfl
 cellsByte:=by kernel_rfl
 sizeByte:=by kernel_rfl
 neB5:=by decide }
end Go.Proofs
namespace Go.Proofs.YtlhdoekgipaihaaGreatDoor
open Go Go.Fw Go.RowKit
def joinB (l:List ByteArray)(sep:ByteArray):ByteArray:=⟨(Lib.join (l.map (·.data.toList)) sep.data.toList).toArray⟩
def repB (s:ByteArray)(n:Nat):ByteArray:=⟨(Lib.repeatL s.data.toList n).toArray⟩
theorem JIK (l:List ByteArray)(sep:ByteArray)(hl:l.length≤2^40)(hs:(joinB l sep).size≤140737488355328):PX 312 [.sl 1 (l.map encS),encS sep] (encS (joinB l sep)):=by
 intro O w vs hO hv;obtain ⟨hlen,hr⟩:=hv;obtain ⟨vl⟩:=vs
 rcases vl with _|⟨a,_|⟨b,_|⟨c,r⟩⟩⟩<;>simp at hlen
 have h0:=hr 0 (by simp) (by simp);have h1:=hr 1 (by simp) (by simp);simp only[List.getElem_cons_zero,List.getElem_cons_succ,List.getElem_toArray] at h0 h1;cases h1;have fin:∀ {e:Ending} {w':World},(e=.returned (.string (joinB l sep))∧Below w.heap.size w w')→∃ v,e=.returned v∧VR KM.empty w' O (encS (joinB l sep)) v∧Below w.heap.size w w':=fun ⟨he,hb⟩=>⟨_,he,.val _ rfl,hb⟩;generalize hL:l.map encS=L at h0
 cases h0 with
 |slnil n=>
   obtain rfl:l=[]:=List.map_eq_nil_iff.1 hL;exact (Any.strings_Join_none J1K J0d none 0 sep w).mono fun e w' ⟨he,hw⟩=>fin ⟨he,hw ▸ Below.refl _ _⟩
 |slemp n a=>
   obtain rfl:l=[]:=List.map_eq_nil_iff.1 hL;exact (Any.strings_Join_none J1K J0d (some a) 0 sep w).mono fun e w' ⟨he,hw⟩=>fin ⟨he,hw ▸ Below.refl _ _⟩
 |sl n xs c o cap f hcap hO' hblk hcl hcell hrel hpl=>
   subst hL;obtain ⟨A,e,z,hb,hs'⟩:=hblk
   have:=Any.strings_Join J1K J0d c o cap l sep w (fun j x hx=>by
    obtain ⟨hj,rfl⟩:=List.getElem?_eq_some_iff.1 hx;have h2:=hcell j (by simpa using hj) 0 Nat.one_pos;have h3:=hrel j (by simpa using hj) 0 (by simp[AV.cells,encS]);have e1:((l.map encS)[j]'(by simpa using hj)).cells[0]'(by simp[AV.cells,encS])=encS l[j]:=by simp[AV.cells,encS]
    rw[e1] at h3
    have h4:f j 0=.string l[j]:=by
     generalize f j 0=v at h3;cases h3;rfl
    rw[h4] at h2
    simpa using h2) (Array.getElem?_eq_some_iff.1 hb).1 (by omega) (by simpa using hcap) (by simpa [joinB,ByteArray.size] using hs)
   have hlm:(l.map encS).length=l.length:=List.length_map ..;rw[hlm];exact this.mono fun e w' h=>fin h
theorem JIE (s:ByteArray)(n:Nat)(hn:n≤2^62)(hs:s.size*n≤140737488355328):PX 313 [encS s,encI n] (encS (repB s n)):=by
 intro O w vs hO hv;obtain ⟨hlen,hr⟩:=hv;obtain ⟨vl⟩:=vs
 rcases vl with _|⟨a,_|⟨b,_|⟨c,r⟩⟩⟩<;>simp at hlen
 have h0:=hr 0 (by simp) (by simp);have h1:=hr 1 (by simp) (by simp);simp only[List.getElem_cons_zero,List.getElem_cons_succ,List.getElem_toArray] at h0 h1;cases h0;cases h1;exact (Any.strings_Repeat JBe J2p s n w (by omega) hs).mono fun e w' ⟨he,hb⟩=>⟨_,he,.val _ rfl,hb⟩
end Go.Proofs.YtlhdoekgipaihaaGreatDoor
namespace Go.Proofs.YtlhdoekgipaihaaGreatDoor
open Go Go.Fw
def JJ4 (o t:ByteArray)(n:Int)(rs:List ByteArray):ByteArray:=
 if o=oNum then t
 else if o=oVar then (if n=0 then b1 64++t else b1 64++t++b1 58++repB (b1 39) n.toNat)
 else if o=oPre then ⟨#[112,114,101,64]⟩++t
 else match rs with
  |[]=>o
  |r::l=>o++b1 40++joinB (r::l) (b1 59)++b1 41
mutual
def showF:Ex→ByteArray
 |.mk o t n es=>JJ4 o t n (JLN es)
def JLN:List Ex→List ByteArray
 |[]=>[]
 |e::es=>showF e::JLN es
end
theorem JAP:∀ es:List Ex,JLN es=es.map showF
 |[]=>rfl
 |e::es=>by rw[List.map_cons,← JAP es];rfl
theorem JDG (e:Ex):showF e=JJ4 e.op e.text e.order (e.kids.map showF):=by
 cases e with
 |mk o t n es=>rw[← JAP];rfl
theorem J0C (a b:ByteArray):(a++b).size=a.size+b.size:=ByteArray.size_append
theorem JAa (s:ByteArray)(n:Nat):(repB s n).size=s.size*n:=by
 show (Lib.repeatL s.data.toList n).toArray.size=_
 rw[List.size_toArray]
 have:∀ n,(Lib.repeatL s.data.toList n).length=s.data.toList.length*n:=by
  intro n
  induction n with
  |zero=>rfl
  |succ n ih=>unfold Lib.repeatL;rw[List.length_append,ih,Nat.mul_succ];omega
 rw[this n,Array.length_toList];rfl
theorem J5S (sep:List UInt8):∀ r:List (List UInt8),(Lib.joinTail sep r).length=(r.map fun x=>sep.length+x.length).sum
 |[]=>rfl
 |x::r=>by
   have:=J5S sep r;unfold Lib.joinTail at *;simp only[List.map_cons,List.flatten_cons,List.length_append,List.sum_cons,this]
def szB (l:List ByteArray):Nat:=(l.map ByteArray.size).sum
theorem J3L (l:List ByteArray)(sep:ByteArray):(joinB l sep).size≤szB l+l.length*sep.size:=by
 show (Lib.join _ _).toArray.size≤_
 cases l with
 |nil=>simp[Lib.join_nil]
 |cons x r=>
   rw[List.map_cons,Lib.join_cons,List.size_toArray,List.length_append,J5S]
   have key:∀ r:List ByteArray,((r.map (·.data.toList)).map fun x=>sep.data.toList.length+x.length).sum≤szB r+r.length*sep.size:=by
    intro r
    induction r with
    |nil=>simp[szB]
    |cons y r ih=>
      unfold szB at *;simp only[List.map_cons,List.sum_cons,List.length_cons,Nat.succ_mul] at *;have e1:y.data.toList.length=y.size:=Array.length_toList;have e2:sep.data.toList.length=sep.size:=Array.length_toList;omega
   have:=key r;have e1:x.data.toList.length=x.size:=Array.length_toList;have e2:szB (x::r)=x.size+szB r:=rfl;rw[List.length_cons,Nat.succ_mul];omega
theorem JKb {es:List Ex}{C:Nat}(h:∀ k∈es,(showF k).size+1≤C*wtF k):szB (es.map showF)+es.length≤C*wtL es:=by
 induction es with
 |nil=>simp[szB]
 |cons e es ih=>
   have a:=h e (by simp);have b:=ih fun k hk=>h k (by simp[hk]);unfold szB at *;simp only[List.map_cons,List.sum_cons,List.length_cons] at *;unfold wtL;rw[Nat.mul_add];omega
theorem JGa {e:Ex}(hb:builtF e=true):e.op.size≤8:=by
 have hl:=(J0B hb).1;unfold J0X at hl;split at hl
 ·rename_i h;rcases h with h|h<;>rw[h]<;>decide
 ·split at hl
  ·rename_i h;rcases h with h|h<;>rw[h]<;>decide
  ·split at hl
   ·rename_i h;rw[h];decide
   ·split at hl
    ·omega
    ·rename_i x hx
     rcases JGH hx with h|⟨h,_⟩|⟨h,_⟩|⟨h,_⟩|⟨h,_⟩|⟨h,_⟩|⟨h,_⟩|⟨h,_⟩|⟨h,_⟩
     ·rw[h];decide
     ·rcases h with h|h<;>rw[h]<;>decide
     ·rw[h];decide
     ·rcases h with h|h|h<;>rw[h]<;>decide
     ·rw[h];decide
     ·rw[h];decide
     ·rw[h];decide
     ·rcases h with h|h|h|h<;>rw[h]<;>decide
     ·rcases h with h|h|h|h<;>rw[h]<;>decide
theorem JDS {e:Ex}(hb:builtF e=true)(h:e.op=oVar):0≤e.order∧e.order≤6:=by
 have hx:textF e=true:=by rw[J0w] at hb;simp only[Bool.and_eq_true] at hb;exact hb.1.1.2
 unfold textF at hx;rw[if_neg (by rw[h];decide),if_pos h] at hx;simp only[Bool.and_eq_true,decide_eq_true_eq] at hx;exact ⟨hx.1.2,hx.2⟩
theorem J8C (e:Ex):builtF e=true→TxE e→(showF e).size+1≤(2^21+20)*wtF e:=by
 induction e using J1y with
 |h e ih=>
   intro hb hx;have ihk:=fun k hk=>ih k hk ((J0B hb).2 k hk) (hx.kid k hk);have ht:=hx.low;have ho:=JGa hb;have hw:=J6B e;have hl:=J95 e.kids;rw[JDG];unfold JJ4;have hsum:=JKb ihk;have e0:2^21+20≤(2^21+20)*wtF e:=Nat.le_mul_of_pos_right _ (by omega);split
   ·omega
   ·split
    ·rename_i h1;have:=JDS hb h1;split
     ·rw[J0C];show 1+_+1≤_;omega
     ·rw[J0C,J0C,J0C,JAa];show 1+_+1+1*_+1≤_;omega
    ·split
     ·rw[J0C];show 4+_+1≤_;omega
     ·split
      ·omega
      ·rename_i r l hrl;have:=J3L (r::l) (b1 59);rw[J0C,J0C,J0C];have e1:(r::l).length=e.kids.length:=by rw[← hrl,List.length_map]
       rw[← hrl] at this ⊢;rw[List.length_map] at this;show _+1+_+1+1≤_
       have e3:(b1 59).size=1:=rfl;rw[e3] at this;have e4:(2^21+20)*wtF e=(2^21+20)*wtL e.kids+(2^21+20):=by rw[hw,Nat.mul_succ]
       omega
theorem JLW {b p e n:Nat}{H:Hp}{out:List ByteArray}(hb:H b=some (p,⟨e,1,out.map encS⟩))(hn:n=out.length):snap [b] H (.own b p 0 n)=.sl 1 (out.map encS):=by
 rw[J2T (by simp) hb (by simp[hn]),J0t _ _ _ _ hn fun _=>rfl]
theorem J9E (e:Ex):SzE e→TxE e→builtF e=true→wtF e≤1000→PX 216 [encE e] (encS (showF e)):=by
 induction e using J1y with
 |h e ih=>
   intro hz hx hb hw;have ihk:=fun k hk=>ih k hk (hz.kid k hk) (hx.kid k hk) ((J0B hb).2 k hk) (by have:=JD2 hk;omega);have hwt:wtL e.kids≤1000:=by have:=J6B e;omega
   have hlen:e.kids.length≤1000:=Nat.le_trans (J95 _) hwt;have hsum:szB (e.kids.map showF)+e.kids.length≤(2^21+20)*1000:=Nat.le_trans (JKb fun k hk=>J8C k ((J0B hb).2 k hk) (hx.kid k hk)) (Nat.mul_le_mul_left _ hwt);have hord:=JDS hb;have htx:=hx.tx;have hos:=JGa hb;clear ih;refine PZ Tryz.func216 rfl ?_;generalize hF:showF e=F;rw[JDG] at hF;rw[J02];clear hz hx hb hw hwt;have z1:({ data:=#[64] }:ByteArray).size=1:=rfl;have z2:({ data:=#[112,114,101,64] }:ByteArray).size=4:=rfl;have z3:({ data:=#[58] }:ByteArray).size=1:=rfl;have z4:({ data:=#[40] }:ByteArray).size=1:=rfl;have z5:({ data:=#[41] }:ByteArray).size=1:=rfl;obtain ⟨o,t,od,es⟩:=e;simp only[Ex.op,Ex.text,Ex.order,Ex.kids] at *;unfold JJ4 at hF
   by_cases h1:o=oNum
   ·rw[if_pos h1] at hF;(refine kWS ?_;repeat intro γ);exact .of (by rw[← hF];rfl)
   rw[if_neg h1] at hF
   by_cases h2:o=oVar
   ·rw[if_pos h2] at hF
    by_cases h3:od=0
    ·rw[if_pos h3] at hF;(refine kWS ?_;repeat intro γ);exact .of (by rw[← hF];rfl)
    ·rw[if_neg h3] at hF;obtain ⟨ho1,ho2⟩:=hord h2;have hR:=JIE (b1 39) od.toNat (by omega) (by show 1*_≤_;omega);rw[show ((od.toNat:Nat):Int)=od by omega] at hR;have y1:=J0C { data:=#[64] } t;have y2:=J0C ({ data:=#[64] }++t) { data:=#[58] };have y3:=JAa (b1 39) od.toNat;have y4:(b1 39).size=1:=rfl;rw[y4] at y3;generalize repB (b1 39) od.toNat=rb at *;(refine kWS ?_;repeat intro γ);refine CallG.intro _ c313 hR ?_;(refine kWS ?_;repeat intro γ);exact .of (by rw[← hF];rfl)
   rw[if_neg h2] at hF
   by_cases h3:o=oPre
   ·rw[if_pos h3] at hF;(refine kWS ?_;repeat intro γ);exact .of (by rw[← hF];rfl)
   rw[if_neg h3] at hF;have hml:=@List.length_map _ _ es encE
   by_cases h4:es=[]
   ·subst h4;(refine kWS ?_;repeat intro γ);exact .of (by rw[← hF];rfl)
   have h5:¬ es.length=0:=fun h=>h4 (List.eq_nil_of_length_eq_zero h)
   replace hF:o++b1 40++joinB (es.map showF) (b1 59)++b1 41=F:=by
    rw[← hF]
    cases es with
    |nil=>exact absurd rfl h4
    |cons k r=>rfl
   (refine kWQ ?_;repeat intro γ)
   refine LoopP.intro (fun j σ H=>∃ g1 gl i,∃ l:List ByteArray,j=es.length-i∧i≤es.length∧l=(es.take i).map showF ∧
    σ=fr [(1,.op 1 g1 0 0),(3,.own 50 gl 0 l.length),(40,.sl 4 (es.map encE)),(41,encI es.length),(42,encI i)] ∧
    H=hp [(1,g1,⟨42,4,[.agg [encS o,encS t,encI od,.sl 4 (es.map encE)]]⟩),(50,gl,⟨9,1,l.map encS⟩)]) ?_ ?_
   ·exact .intro (J35 3 50 9 1 rfl rfl fun gl=>W.of ⟨_,_,gl,0,[],rfl,Nat.zero_le _,rfl,rfl,rfl⟩ ⟨rfl,rfl,rfl,(by first|rfl|(rw[List.length_map];rfl)),rfl,trivial⟩ ⟨rfl,rfl,trivial⟩)
   ·rintro j σ H ⟨g1,gl,i,l,rfl,hi,rfl,rfl,rfl⟩;have hll:((es.take i).map showF).length=i:=by rw[List.length_map,List.length_take];omega
    rcases Nat.lt_or_ge i es.length with h9|h9
    ·have hk:=ihk _ (List.getElem_mem h9);have htk:(es.take (i+1)).map showF=(es.take i).map showF++[showF es[i]]:=by rw[List.take_succ_eq_append_getElem h9,List.map_append];rfl
     obtain ⟨k,hkk⟩:∃ k,es[i]=k:=⟨_,rfl⟩;rw[hkk] at hk htk;rw[J02] at hk;generalize hL:(es.take i).map showF=l at *;have hml:=@List.length_map _ _ l encS;(refine kWQ ?_;repeat intro γ);simp only[hkk,J02];(refine kQ ?_;repeat intro γ);refine CallP.flat [] _ c216 hk rfl ?_;(refine kWQ ?_;repeat intro γ)
     refine .intro <| W.of ⟨_,by omega,g1,γ,i+1,l++[showF k],rfl,h9,htk.symm,rfl,rfl⟩ ⟨rfl,?_,rfl,rfl,rfl,trivial⟩ ⟨rfl,?_,trivial⟩
     ·exact congrArg (AV.own 50 _ 0) (by simp)
     ·rw[List.map_append];rfl
    ·obtain rfl:i=es.length:=by omega
     rw[List.take_length] at *;have hj:=J3L (es.map showF) (b1 59)
     have hJ:=JIK (es.map showF) (b1 59) (by rw[List.length_map];omega) (by
      refine Nat.le_trans hj ?_;rw[List.length_map];show szB _+es.length*1≤_
      omega)
     have x1:(joinB (es.map showF) (b1 59)).size≤2^46:=by
      refine Nat.le_trans hj ?_;rw[List.length_map];show szB _+es.length*1≤_
      omega
     have hls:(es.map showF).length=es.length:=List.length_map ..;generalize joinB (es.map showF) (b1 59)=jb at *;have y1:=J0C o { data:=#[40] };have y2:=J0C (o++{ data:=#[40] }) jb;have y3:=J0C (o++{ data:=#[40] }++jb) { data:=#[41] };(refine kWQ ?_;repeat intro γ);refine CallG.flat _ c312 (J0G (congrArg (fun z=>[z,encS (b1 59)]) (JLW rfl hls.symm)) hJ) rfl ?_;(refine kWQ ?_;repeat intro γ);exact .of (by rw[← hF];rfl)
def wKind:List ByteArray:=[⟨#[99,111,110,116,105,110,117,111,117,115]⟩,⟨#[100,105,115,99,114,101,116,101]⟩,⟨#[112,97,114,97,109]⟩,⟨#[105,110,112,117,116]⟩]
def wType:List ByteArray:=[⟨#[110,117,109,98,101,114]⟩,⟨#[116,114,117,116,104]⟩]
def wAct:List ByteArray:=[⟨#[97,115,115,105,103,110]⟩,⟨#[114,101,105,110,105,116]⟩]
theorem JJQ:PX 309 [] (.sl 1 (wKind.map encS)):=by
 exact J1l JBa (fuel:=60) (n:=3) (by kernel_rfl)
theorem JIu:PX 310 [] (.sl 1 (wType.map encS)):=by
 exact J1l JBa (fuel:=60) (n:=3) (by kernel_rfl)
theorem JMR:PX 217 [] (.sl 1 (wAct.map encS)):=by
 exact J1l JBa (fuel:=60) (n:=3) (by kernel_rfl)
def addW (w s:ByteArray)(l:List ByteArray):List ByteArray:=if s=⟨#[]⟩ then l else l++[w++s]
theorem J9U (w s:ByteArray)(l:List ByteArray)(g g1:Nat)(hl:l.length≤1000)(hw:w.size≤2^40)(hs:s.size≤2^40) :
  HCall Tryz.prog 311 [encS w,encS s,.op 50 g 0 0] (hp [(50,g,⟨28,1,[.own 51 g1 0 l.length]⟩),(51,g1,⟨9,1,l.map encS⟩)])
   (fun r h=>r=.tup []∧∃ g',h=hp [(50,g,⟨28,1,[.own 51 g' 0 (addW w s l).length]⟩),(51,g',⟨9,1,(addW w s l).map encS⟩)]):=by
 refine J3M (E:=E 0) J4j (JMh 0) Tryz.func311 rfl (by rfl) (Nat.le_of_ble_eq_true rfl) ?_;have hml:=@List.length_map _ _ l encS;have y1:=J0C w s;generalize hF:addW w s l=F;unfold addW at hF;(refine kWQ ?_;repeat intro γ);refine CondP.dec (fun h1=>?_) (fun h1=>?_)<;>refine kW ?_
 ·rw[if_pos h1] at hF;(refine kQ ?_;repeat intro γ);refine EndH.of (m:=[(50,g,⟨28,1,[.own 51 g1 0 l.length]⟩),(51,g1,⟨9,1,l.map encS⟩)]) ⟨rfl,rfl,trivial⟩ ⟨rfl,g1,?_⟩;rw[← hF]
 ·rw[if_neg h1] at hF;(refine kQ ?_;repeat intro γ);refine EndH.of (m:=[(50,g,⟨28,1,[.own 51 γ 0 (l.length+1)]⟩),(51,γ,⟨9,1,l.map encS++[encS (w++s)]⟩)]) ⟨rfl,rfl,trivial⟩ ⟨rfl,γ,?_⟩;rw[← hF,List.map_append,List.length_append];rfl
def J6j (v:Va):List ByteArray:=
 addW ⟨#[117,110,105,116,61]⟩ v.unit ((fun l=>if v.fixed then l++[⟨#[102,105,120,101,100]⟩] else l) (addW ⟨#[115,116,97,114,116,61]⟩ v.start (addW ⟨#[118,97,108,117,101,61]⟩ v.value
  [⟨#[118,97,114]⟩,v.name,wKind.getD v.kind.toNat ⟨#[]⟩,wType.getD v.type.toNat ⟨#[]⟩])))
def lineF (v:Va):ByteArray:=joinB (J6j v) (b1 32)++b1 10
theorem J3X (w s:ByteArray)(l:List ByteArray):(addW w s l).length≤l.length+1:=by
 unfold addW;split
 ·omega
 ·simp
theorem JG6 (a b:List ByteArray):szB (a++b)=szB a+szB b:=by unfold szB;rw[List.map_append,List.sum_append]
theorem JCo (w s:ByteArray)(l:List ByteArray):szB (addW w s l)≤szB l+w.size+s.size:=by
 unfold addW;split
 ·omega
 ·rw[JG6];unfold szB;simp only[List.map_cons,List.map_nil,List.sum_cons,List.sum_nil,J0C];omega
theorem JDa (v:Va)(h:v.name.size<2^35∧v.value.size<2^35∧v.start.size<2^35∧v.unit.size<2^35):(J6j v).length≤8∧szB (J6j v)≤2^37+300:=by
 unfold J6j;generalize hA:addW ⟨#[118,97,108,117,101,61]⟩ v.value _=A;have a1:=J3X ⟨#[118,97,108,117,101,61]⟩ v.value [⟨#[118,97,114]⟩,v.name,wKind.getD v.kind.toNat ⟨#[]⟩,wType.getD v.type.toNat ⟨#[]⟩];have a2:=JCo ⟨#[118,97,108,117,101,61]⟩ v.value [⟨#[118,97,114]⟩,v.name,wKind.getD v.kind.toNat ⟨#[]⟩,wType.getD v.type.toNat ⟨#[]⟩];rw[hA] at a1 a2
 have k1:∀ n:Nat,(wKind.getD n ⟨#[]⟩).size≤10:=by
  intro n
  match n with
  |0=>decide
  |1=>decide
  |2=>decide
  |3=>decide
  |n+4=>exact Nat.zero_le _
 have k2:∀ n:Nat,(wType.getD n ⟨#[]⟩).size≤10:=by
  intro n
  match n with
  |0=>decide
  |1=>decide
  |n+2=>exact Nat.zero_le _
 have k1:=k1 v.kind.toNat;have k2:=k2 v.type.toNat;have a3:szB [⟨#[118,97,114]⟩,v.name,wKind.getD v.kind.toNat ⟨#[]⟩,wType.getD v.type.toNat ⟨#[]⟩]=3+(v.name.size+((wKind.getD v.kind.toNat ⟨#[]⟩).size+((wType.getD v.type.toNat ⟨#[]⟩).size+0))):=rfl;have a4:(⟨#[118,97,108,117,101,61]⟩:ByteArray).size=6:=rfl;generalize hB:addW ⟨#[115,116,97,114,116,61]⟩ v.start A=B;have b1:=J3X ⟨#[115,116,97,114,116,61]⟩ v.start A;have b2:=JCo ⟨#[115,116,97,114,116,61]⟩ v.start A;have b4:(⟨#[115,116,97,114,116,61]⟩:ByteArray).size=6:=rfl;rw[hB] at b1 b2
 have c0:(if v.fixed=true then B++[⟨#[102,105,120,101,100]⟩] else B).length≤B.length+1∧szB (if v.fixed=true then B++[⟨#[102,105,120,101,100]⟩] else B)≤szB B+5:=by
  split
  ·rw[JG6,List.length_append];exact ⟨Nat.le_refl _,Nat.le_refl _⟩
  ·exact ⟨by omega,by omega⟩
 show (addW _ v.unit (if v.fixed=true then B++[⟨#[102,105,120,101,100]⟩] else B)).length≤8∧szB (addW _ v.unit (if v.fixed=true then B++[⟨#[102,105,120,101,100]⟩] else B))≤2^37+300
 generalize (if v.fixed=true then B++[⟨#[102,105,120,101,100]⟩] else B)=C at *;have d1:=J3X ⟨#[117,110,105,116,61]⟩ v.unit C;have d2:=JCo ⟨#[117,110,105,116,61]⟩ v.unit C;have d4:(⟨#[117,110,105,116,61]⟩:ByteArray).size=5:=rfl;simp only[List.length_cons,List.length_nil] at a1;exact ⟨by omega,by omega⟩
def hpL (g1 g3 gl:Nat)(v:Va)(l:List ByteArray):List (Nat×Nat×Blk):=[(1,g1,⟨83,7,[encV v]⟩),(3,g3,⟨28,1,[.own 17 gl 0 l.length]⟩),(17,gl,⟨9,1,l.map encS⟩)]
theorem JLi (v:Va)(h:v.name.size<2^35∧v.value.size<2^35∧v.start.size<2^35∧v.unit.size<2^35)(hk:0≤v.kind∧v.kind≤3)(ht:0≤v.type∧v.type≤1):PX 214 [encV v] (encS (lineF v)):=by
 refine PZ Tryz.func214 rfl ?_;obtain ⟨hL1,hL2⟩:=JDa v h;have hj:=J3L (J6j v) (b1 32);have h32:(b1 32).size=1:=rfl;rw[h32] at hj;have hJ:=JIK (J6j v) (b1 32) (by omega) (by omega);generalize hF:lineF v=F;unfold lineF at hF;have hLL:J6j v=J6j v:=rfl;generalize hL:J6j v=L at *;have y1:=J0C (joinB L (b1 32)) { data:=#[10] };have y2:({ data:=#[10] }:ByteArray).size=1:=rfl;have hs1:(joinB L (b1 32)).size≤2^40:=by omega
 generalize joinB L (b1 32)=jb at *;clear hLL hj;unfold J6j at hL;obtain ⟨nm,kd,ty,vl,st,fx,un⟩:=v;simp only at *
 have gk:(wKind.map encS).getD kd.toNat .dead=encS (wKind.getD kd.toNat ⟨#[]⟩):=by
  have:kd.toNat<wKind.length:=by show _<4;omega
  rw[List.getD_eq_getElem?_getD,List.getElem?_map,List.getD_eq_getElem?_getD,List.getElem?_eq_getElem this];rfl
 have gt:(wType.map encS).getD ty.toNat .dead=encS (wType.getD ty.toNat ⟨#[]⟩):=by
  have:ty.toNat<wType.length:=by show _<2;omega
  rw[List.getD_eq_getElem?_getD,List.getElem?_map,List.getD_eq_getElem?_getD,List.getElem?_eq_getElem this];rfl
 have lk:(wKind.map encS).length=4:=rfl;have lt:(wType.map encS).length=2:=rfl;have hKW:=JJQ;have hTW:=JIu;generalize wKind.map encS=ks at *;generalize wType.map encS=ts at *;generalize wKind.getD kd.toNat ⟨#[]⟩=wk at *;generalize wType.getD ty.toNat ⟨#[]⟩=wt at *;unfold encV;simp only;(refine kWQ ?_;repeat intro γ);refine CallG.intro _ c309 hKW ?_;(refine kWQ ?_;repeat intro γ);rw[gk];(refine kWQ ?_;repeat intro γ);refine CallG.intro _ c310 hTW ?_;(refine kWQ ?_;repeat intro γ);rw[gt];(refine kWQ ?_;repeat intro γ);have z1:({ data:=#[118,97,108,117,101,61] }:ByteArray).size≤2^40:=by decide
 have z2:({ data:=#[115,116,97,114,116,61] }:ByteArray).size≤2^40:=by decide
 have z3:({ data:=#[117,110,105,116,61] }:ByteArray).size≤2^40:=by decide
 have hA1:=J3X ⟨#[118,97,108,117,101,61]⟩ vl [⟨#[118,97,114]⟩,nm,wk,wt];refine CallP.frame 1000000 [(50,3),(51,17)] rfl c311 (J9U ⟨#[118,97,108,117,101,61]⟩ vl [⟨#[118,97,114]⟩,nm,wk,wt] _ _ (by show 4≤1000;decide) z1 (by omega)) rfl ⟨rfl,rfl,trivial⟩ ?_;rintro r0 h' ⟨rfl,g',rfl⟩;generalize addW ⟨#[118,97,108,117,101,61]⟩ vl [⟨#[118,97,114]⟩,nm,wk,wt]=A at *;refine ⟨hpL _ _ g' ⟨nm,kd,ty,vl,st,fx,un⟩ A,⟨rfl,rfl,J0S encS _ (fun _=>rfl) ..,trivial⟩,?_⟩;unfold hpL encV;have hA:A.length≤5:=hA1;have hmA:=@List.length_map _ _ A encS;(refine kWQ ?_;repeat intro γ);have hB1:=J3X ⟨#[115,116,97,114,116,61]⟩ st A;refine CallP.frame 1000000 [(50,3),(51,17)] rfl c311 (J9U ⟨#[115,116,97,114,116,61]⟩ st A _ _ (by omega) z2 (by omega)) rfl ⟨rfl,J0S encS _ (fun _=>rfl) ..,trivial⟩ ?_;rintro r0 h' ⟨rfl,g',rfl⟩;generalize addW ⟨#[115,116,97,114,116,61]⟩ st A=B at *;refine ⟨hpL _ _ g' ⟨nm,kd,ty,vl,st,fx,un⟩ B,⟨rfl,rfl,J0S encS _ (fun _=>rfl) ..,trivial⟩,?_⟩;unfold hpL encV;have hB:B.length≤6:=by omega
 have hmB:=@List.length_map _ _ B encS;(refine kWQ ?_;repeat intro γ);obtain ⟨C,hC⟩:∃ C,(if fx=true then B++[⟨#[102,105,120,101,100]⟩] else B)=C:=⟨_,rfl⟩;rw[hC] at hL
 have hC1:C.length≤7:=by
  rw[← hC];split
  ·rw[List.length_append];show _+1≤7;omega
  ·omega
 have hmC:=@List.length_map _ _ C encS;have hD1:=J3X ⟨#[117,110,105,116,61]⟩ un C;have fin:=fun g3 gl=>J9U ⟨#[117,110,105,116,61]⟩ un C g3 gl (by omega) z3 (by omega);have hls:L.length=L.length:=rfl;cases fx
 ·rw[if_neg (by decide)] at hC;subst hC;(refine kWQ ?_;repeat intro γ);refine CallP.frame 1000000 [(50,3),(51,17)] rfl c311 (fin _ g') (by rfl) ⟨rfl,J0S encS _ (fun _=>rfl) ..,trivial⟩ ?_;rintro r0 h' ⟨rfl,g',rfl⟩;rw[hL];refine ⟨hpL _ _ g' ⟨nm,kd,ty,vl,st,false,un⟩ L,⟨rfl,rfl,J0S encS _ (fun _=>rfl) ..,trivial⟩,?_⟩;unfold hpL encV;(refine kWQ ?_;repeat intro γ);refine CallP.flat [17] _ c312 (J0G (congrArg (fun z=>[z,encS (b1 32)]) (JLW rfl rfl)) hJ) rfl ?_;(refine kWQ ?_;repeat intro γ);exact .of (by rw[← hF];rfl)
 ·rw[if_pos rfl] at hC;have hCm:List.map encS B++[encS ⟨#[102,105,120,101,100]⟩]=C.map encS:=by rw[← hC,List.map_append];rfl
  have hCl:B.length+1=C.length:=by rw[← hC,List.length_append];rfl
  (refine kWQ ?_;repeat intro γ);refine CallP.frame 1000000 [(50,3),(51,17)] rfl c311 (fin _ γ) (by rfl) ⟨congrArg (fun n=>some (_,(⟨28,1,[.own 51 γ 0 n]⟩:Blk))) hCl,?_,trivial⟩ ?_
  ·show some (mvB _ (γ,(⟨9,1,List.map encS B++[encS ⟨#[102,105,120,101,100]⟩]⟩:Blk)))=_
   rw[hCm];exact J0S encS _ (fun _=>rfl) ..
  rintro r0 h' ⟨rfl,g',rfl⟩;rw[hL];refine ⟨hpL _ _ g' ⟨nm,kd,ty,vl,st,true,un⟩ L,⟨rfl,rfl,J0S encS _ (fun _=>rfl) ..,trivial⟩,?_⟩;unfold hpL encV;(refine kWQ ?_;repeat intro γ);refine CallP.flat [17] _ c312 (J0G (congrArg (fun z=>[z,encS (b1 32)]) (JLW rfl rfl)) hJ) rfl ?_;(refine kWQ ?_;repeat intro γ);exact .of (by rw[← hF];rfl)
end Go.Proofs.YtlhdoekgipaihaaGreatDoor
