/- Part 52 of the proof. -/
import Derived.Test.YtlhdoekgipaihaaGreatDoorTx51
import Derived.Test.YtlhdoekgipaihaaGreatDoorTx46
import Derived.Shelf.Strings.Builder1
import Derived.Shelf.Strings.Builder2
import Derived.Shelf.Strings.OnBuilder
import Derived.Shelf.Strings.Repeat
import Derived.Test.YtlhdoekgipaihaaGreatDoorProg
import Derived.Test.YtlhdoekgipaihaaGreatDoorTx45
import Derived.Test.YtlhdoekgipaihaaGreatDoorTx49
set_option linter.unusedVariables false
set_option linter.unusedSimpArgs false
set_option linter.unusedSectionVars false
set_option maxRecDepth 100000
set_option exponentiation.threshold 400
set_option maxHeartbeats 8000000
namespace Go.Proofs.YtlhdoekgipaihaaGreatDoor
open Go Go.Fw
def J5A {β:Type} (l:List (U×β)) (u:U):Option β:=match l with
 | []=>none
 | x::r=>if u=x.1 then some x.2 else J5A r u
theorem JCm {β:Type} (f:β→AV) (u:U):∀ l:List (U×β),∃ r,J14 (J0s T 46 (encU u)) (l.map fun x=>encU x.1)=some r∧match r,J5A l u with
  | none,none=>True
  | some i,some b=>(l.map fun x=>f x.2).getD i .dead=f b
  | _,_=>False
 | []=>⟨none,rfl,trivial⟩
 | x :: l=>by
   obtain ⟨r,h1,h2⟩:=JCm f u l;rw[List.map_cons];unfold J14 J5A;rw[JA6]
   by_cases h:u=x.1
   ·rw[decide_eq_true h,if_pos h];exact ⟨some 0,rfl,rfl⟩
   ·rw[decide_eq_false h,if_neg h,h1];refine ⟨r.map (· + 1),rfl,?_⟩
    revert h2
    cases r<;>cases J5A l u<;>intro h2<;>first | trivial | exact h2
def JDc (ks:List (ByteArray×Va)) (n:ByteArray):Int:=match J0w ks n with
 | some v=>v.type
 | none=>0
def J2q (ks:List (ByteArray×Va)) (ev:Ev) (u:U):Except Int Vl:=match J5A ev.vals u with
 | none=>.error 5
 | some v=>if v.type≠JDc ks u.name then .error 7 else .ok v
theorem JHU (v:Vl):PureCall Tryz.prog 301 [J0I v] (encI v.type):=by
 cases v with
 | num q=>exact J5j (encF q) false false (.inr ⟨_,_,rfl⟩)
 | tr b=>exact J5j nilQ b true (.inl rfl)
theorem JJn (ks:List (ByteArray×Va)) (ev:Ev) (u:U):PureCall Tryz.prog 202 [encK ks,J1B ev,encU u] (J1s (J2q ks ev u)):=by
 refine PC [] Tryz.func202 rfl (by rfl) rfl ?_;generalize hF:J2q ks ev u=F;unfold J2q at hF;obtain ⟨r,hr,hm⟩:=JCm J0I u ev.vals;refine kWS ?_;intros;refine Need.intro keyst46 ?_;refine kW ?_;refine LookP.intro r hr ?_
 cases ha:J5A ev.vals u with
 | none=>
   rw[ha] at hm hF
   cases r with
   | some i=>exact hm.elim
   | none=>
     refine kWS ?_;intros;exact .of (by rw[← hF];rfl)
 | some v=>
   rw[ha] at hm hF
   cases r with
   | none=>exact hm.elim
   | some i=>
     have hm:(ev.vals.map fun x=>J0I x.2).getD i .dead=J0I v:=hm;have hT:=JHU v;obtain ⟨r2,hr2,hm2⟩:=J1k encV u.name ks;replace hF:(if v.type≠JDc ks u.name then (.error 7:Except Int Vl) else .ok v)=F:=hF;unfold JDc at hF
     rcases v with q | b
     all_goals
      unfold J0I J15 at hT
      try unfold encF encQ at hT
      refine kW ?_;rw[hm];refine kWS ?_;intros;refine CallG.intro _ c301 hT ?_;refine kWS ?_;intros;refine Need.intro keyst9 ?_;refine kW ?_;refine LookP.intro r2 hr2 ?_
      cases ha2:J0w ks u.name with
      | none=>
        rw[ha2] at hm2 hF
        cases r2 with
        | some i=>exact hm2.elim
        | none=>
          refine kWS ?_;intros;exact .of (by rw[← hF];rfl)
      | some w=>
        rw[ha2] at hm2 hF
        cases r2 with
        | none=>exact hm2.elim
        | some i=>
          have hm2:(ks.map fun x=>encV x.2).getD i .dead=encV w:=hm2;refine kW ?_;rw[hm2];refine kWS ?_;intros;refine CondP.dec (fun c0=>?_) (fun c0=>?_)<;>refine kW ?_
          ·rw[if_neg (fun h=>h c0)] at hF;refine kS ?_;intros;exact .of (by rw[← hF];rfl)
          ·rw[if_pos c0] at hF;refine kS ?_;intros;exact .of (by rw[← hF];rfl)
def J2S (o:ByteArray) (t:Bool):Option Nat:=if o=oIf then (if t then some 1 else some 2) else if decide (o=oAnd)=t then some 1 else none
def nilE:AV:=.agg [encS ⟨#[]⟩,encS ⟨#[]⟩,encI 0,.val (.slice none 0 0)]
theorem JLx (x:Ex) (t:Bool) (hk:∀ i,J2S x.op t=some i→i<x.kids.length):PureCall Tryz.prog 158 [encE x,encB t] (match J2S x.op t with
  | some i=>.tup [(x.kids.map encE).getD i .dead,encB true]
  | none=>.tup [nilE,encB false]):=by
 refine PC [] Tryz.func158 rfl (by rfl) rfl ?_;rw[J03];generalize x.op=o at *;generalize x.kids=es at *;unfold J2S at *
 have key:∀ i,i<es.length→∃ k:Ex,(es.map encE).getD i .dead=.agg [encS k.op,encS k.text,encI k.order,.sl 4 (k.kids.map encE)]:=by
  intro i hi;have h:(es.map encE).getD i .dead=encE es[i]:=by rw[List.getD_eq_getElem?_getD,List.getElem?_map,List.getElem?_eq_getElem hi];rfl
  exact ⟨_,h.trans (J03 _)⟩
 refine kWS ?_;intros;refine CondP.dec (fun h1=>?_) (fun h1=>?_)<;>refine kW ?_
 ·rw[if_pos h1] at hk ⊢;cases t
  ·rw[if_neg (by decide)] at hk ⊢;have hk:=hk 2 rfl;obtain ⟨k,hg⟩:=key 2 hk;refine kS ?_;intros;rw[show (es.map encE).getD (Int.toNat 2) .dead=.agg [encS k.op,encS k.text,encI k.order,.sl 4 (k.kids.map encE)] from hg];refine kWS ?_;intros;exact .of (congrArg (fun z=>AV.tup [z,encB true]) hg.symm)
  ·rw[if_pos rfl] at hk ⊢;have hk:=hk 1 rfl;obtain ⟨k,hg⟩:=key 1 hk;refine kS ?_;intros;rw[show (es.map encE).getD (Int.toNat 1) .dead=.agg [encS k.op,encS k.text,encI k.order,.sl 4 (k.kids.map encE)] from hg];refine kWS ?_;intros;exact .of (congrArg (fun z=>AV.tup [z,encB true]) hg.symm)
 ·rw[if_neg h1] at hk ⊢;refine kS ?_;intros
  by_cases h2:o=oAnd
  ·rw[decide_eq_true h2] at hk ⊢;cases t
   ·rw[if_neg (by decide)] at hk ⊢;refine J9b rfl ?_;refine kWS ?_;intros;exact .of rfl
   ·rw[if_pos rfl] at hk ⊢;have hk:=hk 1 rfl;obtain ⟨k,hg⟩:=key 1 hk;refine J9a rfl ?_;refine kWS ?_;intros;rw[show (es.map encE).getD (Int.toNat 1) .dead=.agg [encS k.op,encS k.text,encI k.order,.sl 4 (k.kids.map encE)] from hg];refine kWS ?_;intros;exact .of (congrArg (fun z=>AV.tup [z,encB true]) hg.symm)
  ·rw[decide_eq_false h2] at hk ⊢;cases t
   ·rw[if_pos rfl] at hk ⊢;have hk:=hk 1 rfl;obtain ⟨k,hg⟩:=key 1 hk;refine J9a rfl ?_;refine kWS ?_;intros;rw[show (es.map encE).getD (Int.toNat 1) .dead=.agg [encS k.op,encS k.text,encI k.order,.sl 4 (k.kids.map encE)] from hg];refine kWS ?_;intros;exact .of (congrArg (fun z=>AV.tup [z,encB true]) hg.symm)
   ·rw[if_neg (by decide)] at hk ⊢;refine J9b rfl ?_;refine kWS ?_;intros;exact .of rfl
def Vl.truth:Vl→Bool
 | .tr b=>b
 | .num _=>false
def numV (t:ByteArray):Rat:=match (J0C t.data.toList).1 with
 | some (n,d)=>Rat.divInt n d
 | none=>0
def wayF (ev:Ev) (o:ByteArray) (vs:List Vl):Except Int Vl:=
 if o=oTrue then .ok (.tr true) else if o=oFalse then .ok (.tr false) else if o=oTime then .ok (.num ev.time) else if o=oInit then .ok (.tr ev.init) else match vs with
 | [.num p]=>.ok (.num (-p))
 | [.tr c]=>.ok (.tr (!c))
 | [.num p,.num q]=>
   if o=oSample then .ok (.tr (multF (ev.time-p) q)) else if o=oAdd then .ok (.num (p+q)) else if o=oSub then .ok (.num (p-q)) else if o=oMul then .ok (.num (p*q)) else if o=oDiv then divV p q
   else if o=oLess then .ok (.tr (decide (p<q))) else if o=oAtMost then .ok (.tr (decide (p≤q))) else if o=oMore then .ok (.tr (decide (q<p))) else if o=oAtLeast then .ok (.tr (decide (q≤p)))
   else if o=oEq then .ok (.tr (sameV (.num p) (.num q))) else .ok (.tr (!sameV (.num p) (.num q)))
 | [.tr a,.tr b]=>if o=oEq then .ok (.tr (sameV (.tr a) (.tr b))) else .ok (.tr (!sameV (.tr a) (.tr b)))
 | _=>.error 0
def JI6 (o:ByteArray) (vs:List Vl):Prop:=
 (o=oTrue∨o=oFalse∨o=oTime∨o=oInit)∨(o=oSample∧∃ p q,vs=[.num p,.num q]∧q≠0)∨(o=oNeg∧∃ p,vs=[.num p])∨(o=oNot∧∃ c,vs=[.tr c]) ∨
   ((o=oAdd∨o=oSub∨o=oMul∨o=oDiv∨o=oLess∨o=oAtMost∨o=oMore∨o=oAtLeast)∧∃ p q,vs=[.num p,.num q])∨((o=oEq∨o=oNe)∧∃ a b:Vl,vs=[a,b]∧a.type=b.type)
def szs:List Vl→Nat
 | []=>0
 | v::l=>v.sz+szs l
theorem JK2 (p q:Rat):(p-q).num<0↔p<q:=by
 have h1:(p-q).num<0↔¬ 0≤(p-q).num:=by omega
 rw[h1,Rat.num_nonneg,← Rat.le_iff_sub_nonneg,Rat.not_le]
theorem JK9 (p q:Rat):decide (sgn (p-q).num<0)=decide (p<q):=decide_eq_decide.2 ((J8g _).trans (JK2 p q))
theorem JKA (p q:Rat):decide (sgn (p-q).num≤0)=decide (p≤q):=by
 refine decide_eq_decide.2 ?_;have h1:=JK2 p q;have h2:=J8g (p-q).num;have h3:=JCU p q;rw[Rat.le_iff_lt_or_eq,← h1,← h2,← h3];omega
theorem JMn (p q:Rat):decide (sgn (p-q).num>0)=decide (q<p):=by
 refine decide_eq_decide.2 ?_;have:=decide_eq_decide.1 (JKA p q);rw[← Rat.not_le,← this];omega
theorem JMo (p q:Rat):decide (sgn (p-q).num≥0)=decide (q≤p):=by
 refine decide_eq_decide.2 ?_;have:=decide_eq_decide.1 (JK9 p q);rw[← Rat.not_lt,← this];omega
def Way (ev:Ev) (o:ByteArray) (vs:List Vl):Prop:=∃ k cap,J0w wayT o=some (.fn (.func k) [] cap)∧(cap=[]∨∃ x,cap=[.ep x 0])∧J06 Tryz.prog k∧PureCall Tryz.prog k ([J1B ev,J4u vs]++cap) (J1s (wayF ev o vs))
theorem JMB (ev:Ev) (o:ByteArray) (vs:List Vl) (h:JI6 o vs) (hz:szq ev.time+szs vs+1<2^36):Way ev o vs:=by
 rcases h with h | ⟨rfl,p,q,rfl,h0⟩ | ⟨rfl,p,rfl⟩ | ⟨rfl,c,rfl⟩ | ⟨h,p,q,rfl⟩ | ⟨h,a,b,rfl,hab⟩
 ·rcases h with rfl | rfl | rfl | rfl
  ·exact ⟨_,_,(by kernel_rfl),(by first | exact .inl rfl | exact .inr ⟨_,rfl⟩),c283,J9f (J1B ev) vs (.tr true)⟩
  ·exact ⟨_,_,(by kernel_rfl),(by first | exact .inl rfl | exact .inr ⟨_,rfl⟩),c283,J9f (J1B ev) vs (.tr false)⟩
  ·exact ⟨_,_,(by kernel_rfl),(by first | exact .inl rfl | exact .inr ⟨_,rfl⟩),c285,JI8 vs ev⟩
  ·exact ⟨_,_,(by kernel_rfl),(by first | exact .inl rfl | exact .inr ⟨_,rfl⟩),c286,JIB vs ev⟩
 ·simp only[szs,Vl.sz] at hz;exact ⟨_,_,(by kernel_rfl),(by first | exact .inl rfl | exact .inr ⟨_,rfl⟩),c287,JDX p q ev (by omega) h0⟩
 ·simp only[szs,Vl.sz] at hz;exact ⟨_,_,(by kernel_rfl),(by first | exact .inl rfl | exact .inr ⟨_,rfl⟩),c289,JKW (J1B ev) p (by omega)⟩
 ·exact ⟨_,_,(by kernel_rfl),(by first | exact .inl rfl | exact .inr ⟨_,rfl⟩),c300,JKV (J1B ev) c⟩
 ·simp only[szs,Vl.sz] at hz;have hc:=fun k f hk h1=>JIC (J1B ev) p q k f hk h1 (by omega)
  rcases h with rfl | rfl | rfl | rfl | rfl | rfl | rfl | rfl
  ·exact ⟨_,_,(by kernel_rfl),(by first | exact .inl rfl | exact .inr ⟨_,rfl⟩),c339,J4Y (J1B ev) p q _ _ c88 (JHt p q (by omega))⟩
  ·exact ⟨_,_,(by kernel_rfl),(by first | exact .inl rfl | exact .inr ⟨_,rfl⟩),c339,J4Y (J1B ev) p q _ _ c89 (JC9 p q (by omega))⟩
  ·exact ⟨_,_,(by kernel_rfl),(by first | exact .inl rfl | exact .inr ⟨_,rfl⟩),c339,J4Y (J1B ev) p q _ _ c264 (JLy p q (by omega))⟩
  ·exact ⟨_,_,(by kernel_rfl),(by first | exact .inl rfl | exact .inr ⟨_,rfl⟩),c291,JKX (J1B ev) p q (by omega)⟩
  ·have:=hc _ _ c293 JIA;rw[JK9] at this;exact ⟨_,_,(by kernel_rfl),(by first | exact .inl rfl | exact .inr ⟨_,rfl⟩),c340,this⟩
  ·have:=hc _ _ c294 JDY;rw[JKA] at this;exact ⟨_,_,(by kernel_rfl),(by first | exact .inl rfl | exact .inr ⟨_,rfl⟩),c340,this⟩
  ·have:=hc _ _ c295 JI9;rw[JMn] at this;exact ⟨_,_,(by kernel_rfl),(by first | exact .inl rfl | exact .inr ⟨_,rfl⟩),c340,this⟩
  ·have:=hc _ _ c296 JBO;rw[JMo] at this;exact ⟨_,_,(by kernel_rfl),(by first | exact .inl rfl | exact .inr ⟨_,rfl⟩),c340,this⟩
 ·simp only[szs] at hz
  rcases h with rfl | rfl
  ·have:=JF4 (J1B ev) a b hab (by omega);refine ⟨_,[],(by kernel_rfl),.inl rfl,c297,?_⟩
   rcases a with p | c<;>rcases b with q | d<;>first | exact this | cases hab
  ·have:=JBN (J1B ev) a b hab (by omega);refine ⟨_,[],(by kernel_rfl),.inl rfl,c299,?_⟩
   rcases a with p | c<;>rcases b with q | d<;>first | exact this | cases hab
def seqR:List (Except Int Vl)→Except Int (List Vl)
 | []=>.ok []
 | .error c::_=>.error c
 | .ok v::r=>match seqR r with
   | .ok l=>.ok (v::l)
   | .error c=>.error c
def J6Y (ks:List (ByteArray×Va)) (ev:Ev) (o t:ByteArray) (n:Int) (rs:List (Except Int Vl)):Except Int Vl:=
 if o=oNum then .ok (.num (numV t))
 else if o=oVar∨o=oPre then J2q ks ev ⟨t,n,decide (o=oPre)⟩
 else if o=oIf∨o=oAnd∨o=oOr then match rs.getD 0 (.error 0) with
  | .error c=>.error c
  | .ok v=>match J2S o v.truth with
    | some i=>rs.getD i (.error 0)
    | none=>.ok v
 else match seqR rs with
  | .error c=>.error c
  | .ok vs=>wayF ev o vs
mutual
def evalF (ks:List (ByteArray×Va)) (ev:Ev):Ex→Except Int Vl
 | .mk o t n es=>J6Y ks ev o t n (JLP ks ev es)
def JLP (ks:List (ByteArray×Va)) (ev:Ev):List Ex→List (Except Int Vl)
 | []=>[]
 | e::es=>evalF ks ev e::JLP ks ev es
end
theorem JAG (ks:List (ByteArray×Va)) (ev:Ev):∀ es:List Ex,JLP ks ev es=es.map (evalF ks ev)
 | []=>rfl
 | e::es=>by rw[List.map_cons,← JAG ks ev es];rfl
theorem J37 (ks:List (ByteArray×Va)) (ev:Ev) (e:Ex):evalF ks ev e=J6Y ks ev e.op e.text e.order (e.kids.map (evalF ks ev)):=by
 cases e with
 | mk o t n es=>rw[← JAG];rfl
mutual
def wtF:Ex→Nat
 | .mk _ _ _ es=>wtL es+1
def wtL:List Ex→Nat
 | []=>0
 | e::es=>wtF e+wtL es
end
theorem J53 (e:Ex):wtF e=wtL e.kids+1:=by cases e;rfl
theorem J8X:∀ {es:List Ex} {k:Ex},k∈es→wtF k≤wtL es
 | e::es,k,h=>by
   unfold wtL
   rcases List.mem_cons.1 h with rfl | h
   ·omega
   ·have:=J8X h;omega
theorem JEz {e k:Ex} (h:k∈e.kids):wtF k<wtF e:=by rw[J53 e];have:=J8X h;omega
theorem JCs {f:Ex→Int→Int} (hf:∀ k l,f k l<0∨f k l≤l-wtF k):∀ (ks:List Ex) (l:Int),J2U f ks l<0∨J2U f ks l≤l-wtL ks
 | [],l=>by right;unfold J2U wtL;omega
 | k :: ks,l=>by
   unfold J2U wtL;split
   ·left;omega
   ·have:=hf k l;have:=JCs hf ks (f k l);omega
theorem JCk:∀ (d:Nat) (e:Ex) (l:Int),measF d e l<0∨measF d e l≤l-wtF e
 | 0,e,l=>by left;unfold measF;omega
 | d + 1,e,l=>by
   rw[J53];unfold measF;split
   ·left;omega
   ·have:=JCs (JCk d) e.kids (l-1);omega
theorem JM6 (z:Int):zl z≤nd z:=by
 unfold zl nd;refine J0E hB9 ?_;have h1:z.natAbs<10 ^ (decT z.natAbs).length:=Go.Fw.decT_lt z.natAbs;exact Nat.lt_of_lt_of_le h1 (Nat.pow_le_pow_left (by decide) _)
theorem JIZ {l:List UInt8} (h:(J0C l).2=true):∃ n d:Int,(J0C l).1=some (n,d)∧0<d∧n.natAbs.gcd d.natAbs=1∧nd n≤300∧nd d≤300:=by
 unfold J0C at *;split at h
 ·cases h
 ·rename_i n hn;split at h
  ·exact ⟨n,1,rfl,by decide,by simp,of_decide_eq_true h,JGq⟩
  ·split at h
   ·cases h
   ·rename_i d hd;split at h
    ·cases h
    ·rename_i h1;simp only[Bool.and_eq_true,decide_eq_true_eq] at h;refine ⟨n,d,by simp only[if_neg h1],by omega,h.2,h.1.1,h.1.2⟩
theorem J4p {t:ByteArray} (h:(J0C t.data.toList).2=true):encF (numV t)=qAV (J0C t.data.toList).1∧szq (numV t)≤300:=by
 obtain ⟨n,d,h1,h2,h3,h4,h5⟩:=JIZ h;unfold numV;rw[h1];refine ⟨?_,?_⟩
 ·show encF (Rat.divInt n d)=encQ n d
  rw[J46 n d h2,h3];simp
 ·show szq (Rat.divInt n d)≤300
  have:=J2x n d (by omega);have:=JM6 n;have:=JM6 d;omega
def EvOk (ev:Ev):Prop:=szq ev.time≤300∧∀ x∈ev.vals,x.2.sz≤300
theorem J8O {β:Type} {u:U} {b:β}:∀ {l:List (U×β)},J5A l u=some b→∃ x∈l,x.2=b
 | [],h=>by cases h
 | x :: l,h=>by
   unfold J5A at h;split at h
   ·cases h;exact ⟨x,by simp,rfl⟩
   ·obtain ⟨y,hy,e⟩:=J8O h;exact ⟨y,by simp[hy],e⟩
theorem JJY {ks:List (ByteArray×Va)} {ev:Ev} (he:EvOk ev) {u:U} {v:Vl} (h:J2q ks ev u=.ok v):v.sz≤300:=by
 unfold J2q at h;split at h
 ·cases h
 ·rename_i w hw;split at h
  ·cases h
  ·cases h;obtain ⟨x,hx,rfl⟩:=J8O hw;exact he.2 x hx
theorem JJX {ks:List (ByteArray×Va)} {ev:Ev} {u:U} {v:Vl} (h:J2q ks ev u=.ok v):v.type=JDc ks u.name:=by
 unfold J2q at h;split at h
 ·cases h
 ·split at h
  ·cases h
  ·rename_i h';cases h;exact Classical.not_not.1 h'
theorem J8i:∀ {rs:List (Except Int Vl)} {vs:List Vl},seqR rs=.ok vs→rs=vs.map .ok
 | [],vs,h=>by cases h;rfl
 | .error c::r,vs,h=>by cases h
 | .ok v::r,vs,h=>by
   unfold seqR at h;split at h
   ·rename_i l hl;cases h;rw[J8i hl];rfl
   ·cases h
theorem J1d {c:Prop} [Decidable c] {a b:Except Int Vl} {M:Nat} (ha:∀ v,a=.ok v→v.sz≤M) (hb:∀ v,b=.ok v→v.sz≤M):∀ v,(if c then a else b)=.ok v→v.sz≤M:=by
 intro v h;split at h
 ·exact ha v h
 ·exact hb v h
theorem J4b {b:Bool} {M:Nat}:∀ v,(Except.ok (Vl.tr b):Except Int Vl)=.ok v→v.sz≤M:=fun v h=>by cases h;exact Nat.zero_le _
theorem J7w {q:Rat} {M:Nat} (hq:szq q≤M):∀ v,(Except.ok (Vl.num q):Except Int Vl)=.ok v→v.sz≤M:=fun v h=>by cases h;exact hq
theorem JAK {c:Int} {M:Nat}:∀ v,(Except.error c:Except Int Vl)=.ok v→v.sz≤M:=fun v h=>by cases h
theorem JKU {ev:Ev} {o:ByteArray} {vs:List Vl} (ht:szq ev.time≤300):∀ v,wayF ev o vs=.ok v→v.sz≤max 300 (szs vs+1):=by
 unfold wayF;refine J1d J4b (J1d J4b (J1d (J7w (by omega)) (J1d J4b ?_)))
 rcases vs with _ | ⟨a,_ | ⟨b,_ | ⟨c,l⟩⟩⟩
 ·exact JAK
 ·rcases a with p | x
  ·exact J7w (by rw[JBT];show szq p≤max 300 (szq p+0+1);omega)
  ·exact J4b
 ·rcases a with p | x<;>rcases b with q | y
  ·refine J1d J4b (J1d (J7w ?_) (J1d (J7w ?_) (J1d (J7w ?_) (J1d ?_ (J1d J4b (J1d J4b (J1d J4b (J1d J4b (J1d J4b J4b)))))))))
   ·have:=JFO p q;show _≤max 300 (szq p+(szq q+0)+1);omega
   ·have:=JFN p q;show _≤max 300 (szq p+(szq q+0)+1);omega
   ·have:=JKj p q;show _≤max 300 (szq p+(szq q+0)+1);omega
   ·unfold divV;split
    ·exact JAK
    ·rename_i h0;refine J7w ?_;have:=JKk p q h0;show _≤max 300 (szq p+(szq q+0)+1);omega
  ·exact JAK
  ·exact JAK
  ·exact J1d J4b J4b
 ·rcases a with p | x<;>rcases b with q | y<;>exact JAK
theorem JFM {ks:List (ByteArray×Va)} {ev:Ev}:∀ {es:List Ex} {vs:List Vl},(∀ k∈es,∀ v,evalF ks ev k=.ok v→v.sz≤301*wtF k)→es.map (evalF ks ev)=vs.map .ok→szs vs≤301*wtL es
 | [],[],_,_=>Nat.zero_le _
 | [],v::vs,_,h=>by cases h
 | e::es,[],_,h=>by cases h
 | e::es,v::vs,hk,h=>by
   rw[List.map_cons,List.map_cons] at h
   injection h with h1 h2
   have a:=hk e (by simp) v h1;have b:=JFM (fun k h=>hk k (by simp[h])) h2;unfold szs wtL;omega
theorem J6U {ks:List (ByteArray×Va)} {ev:Ev} {es:List Ex} {i:Nat} {v:Vl} (h:(es.map (evalF ks ev)).getD i (.error 0)=.ok v):∃ k∈es,evalF ks ev k=.ok v:=by
 rw[List.getD_eq_getElem?_getD,List.getElem?_map] at h
 cases hi:es[i]? with
 | none=>rw[hi] at h;cases h
 | some k=>
   rw[hi] at h;exact ⟨k,List.mem_of_getElem? hi,h⟩
theorem JD1 {ks:List (ByteArray×Va)} {ev:Ev} (he:EvOk ev) (e:Ex):builtF e=true→∀ v,evalF ks ev e=.ok v→v.sz≤301*wtF e:=by
 induction e using J1m with
 | h e ih=>
   intro hb v h;have ihk:∀ k∈e.kids,∀ v,evalF ks ev k=.ok v→v.sz≤301*wtF k:=fun k hk=>ih k hk ((J0A hb).2 k hk);rw[J37] at h;unfold J6Y at h;rw[J53];split at h
   ·rename_i h1;cases h;have hx:textF e=true:=by rw[J10] at hb;simp only[Bool.and_eq_true] at hb;exact hb.1.1.2
    unfold textF at hx;rw[if_pos h1] at hx;simp only[Bool.and_eq_true] at hx;have:=(J4p hx.1).2;show szq _≤_
    omega
   ·split at h
    ·have:=JJY he h;omega
    ·split at h
     ·split at h
      ·cases h
      ·rename_i w hw;split at h
       ·obtain ⟨k,hk,h⟩:=J6U h;have:=ihk k hk v h;have:=J8X hk;omega
       ·cases h;obtain ⟨k,hk,h⟩:=J6U hw;have:=ihk k hk _ h;have:=J8X hk;omega
     ·split at h
      ·cases h
      ·rename_i vs hvs;have:=JFM ihk (J8i hvs);have:=JKU he.1 v h;omega
theorem JKE {l:List (Int×Bool)} {t:Bool} (h:l.any (fun r=>!r.2||(decide (r.1=1) != t))=false):∀ r∈l,r.2=true∧decide (r.1=1)=t:=by
 intro r hr;have:=(List.any_eq_false.1 h) r hr;simp only[Bool.or_eq_true,Bool.not_eq_true',bne_iff_ne,not_or,Bool.not_eq_false,ne_eq,Classical.not_not] at this;exact this
theorem JG3 {t:ByteArray} (h:(J0C t.data.toList).2=true):∃ n d,readR t.data.toList=some (n,d)∧okR (n,d)∧numV t=Rat.divInt n d∧t.data.toList=(rT n d).map UInt8.ofNat:=by
 obtain ⟨h1,h2⟩:=J1y t.data.toList;rw[h1,Option.isSome_iff_exists] at h;obtain ⟨⟨n,d⟩,hx⟩:=h;obtain ⟨h3,h4⟩:=J1L hx;refine ⟨n,d,hx,h3,?_,h4⟩;unfold numV;rw[h2 _ hx]
theorem JLj {s t:ByteArray} (h:s.data.toList=t.data.toList):s=t:=by
 apply ByteArray.ext;exact Array.toList_inj.1 h
theorem JG2 {t:ByteArray} (h:(J0C t.data.toList).2=true) (h0:numV t=0):t=⟨#[48]⟩:=by
 obtain ⟨n,d,_,⟨hd,hg,_,_⟩,h2,h3⟩:=JG3 h;rw[h2] at h0
 have hn:n=0:=by
  have h5:=(J3A n d (by have:0<d:=hd;omega)).1;rw[h0] at h5;have hg':n.natAbs.gcd (d:Int).natAbs=1:=hg;rw[hg'] at h5;have h6:(0:Rat).num=n/((1:Nat):Int):=h5;have h7:(0:Rat).num=0:=rfl;omega
 subst hn
 have hd1:d=1:=by
  have hg':Nat.gcd 0 d=1:=hg;rw[Nat.gcd_zero_left] at hg';exact hg'
 subst hd1;exact JLj h3
theorem J73 {β:Type} {s:ByteArray} {b:β}:∀ {l:List (ByteArray×β)},J0w l s=some b→(s,b)∈l
 | [],h=>by cases h
 | x::l,h=>by
   unfold J0w at h;split at h
   ·rename_i e;cases h;subst e;exact List.mem_cons_self
   ·exact List.mem_cons_of_mem _ (J73 h)
theorem ty01 (v:Vl):(v.type=0∧∃ q,v=.num q)∨(v.type=1∧∃ b,v=.tr b):=by
 cases v with
 | num q=>exact .inl ⟨rfl,q,rfl⟩
 | tr b=>exact .inr ⟨rfl,b,rfl⟩
theorem len2 {α:Type} {l:List α} (h:(l.length:Int)=2):∃ a b,l=[a,b]:=by
 match l,h with
 | [a,b],_=>exact ⟨a,b,rfl⟩
 | [],h=>simp at h
 | [_],h=>simp at h
 | _::_::_::_,h=>simp at h;omega
theorem len1 {α:Type} {l:List α} (h:(l.length:Int)=1):∃ a,l=[a]:=by
 match l,h with
 | [a],_=>exact ⟨a,rfl⟩
 | [],h=>simp at h
 | _::_::_,h=>simp at h;omega
theorem JMQ {α:Type} {l:List α} (h:(l.length:Int)=3):∃ a b c,l=[a,b,c]:=by
 match l,h with
 | [a,b,c],_=>exact ⟨a,b,c,rfl⟩
 | [],h=>simp at h
 | [_],h=>simp at h
 | [_,_],h=>simp at h
 | _::_::_::_::_,h=>simp at h;omega
theorem JBW {o:ByteArray} {x:Int×Bool×Bool} (h:J0w shp o=some x):(o=oNum)∨((o=oAnd∨o=oOr)∧x=(2,true,true))∨(o=oTime∧x=(0,false,false))∨((o=oTrue∨o=oFalse∨o=oInit)∧x=(0,false,true)) ∨
  (o=oNeg∧x=(1,false,false))∨(o=oNot∧x=(1,true,true))∨(o=oSample∧x=(2,false,true))∨((o=oAdd∨o=oSub∨o=oMul∨o=oDiv)∧x=(2,false,false))∨((o=oLess∨o=oAtMost∨o=oMore∨o=oAtLeast)∧x=(2,false,true)):=by
 have:=J73 h;simp only[shp,List.mem_cons,Prod.mk.injEq,List.not_mem_nil,or_false] at this
 rcases this with ⟨rfl,rfl,rfl,rfl⟩ | ⟨rfl,rfl,rfl,rfl⟩ | ⟨rfl,rfl,rfl,rfl⟩ | ⟨rfl,rfl,rfl,rfl⟩ | ⟨rfl,rfl,rfl,rfl⟩ | ⟨rfl,rfl,rfl,rfl⟩ | ⟨rfl,rfl,rfl,rfl⟩ | ⟨rfl,rfl,rfl,rfl⟩ | ⟨rfl,rfl,rfl,rfl⟩ | ⟨rfl,rfl,rfl,rfl⟩ | ⟨rfl,rfl,rfl,rfl⟩ | ⟨rfl,rfl,rfl,rfl⟩ | ⟨rfl,rfl,rfl,rfl⟩ | ⟨rfl,rfl,rfl,rfl⟩ | ⟨rfl,rfl,rfl,rfl⟩ | ⟨rfl,rfl,rfl,rfl⟩ | ⟨rfl,rfl,rfl,rfl⟩ | ⟨rfl,rfl,rfl,rfl⟩
 all_goals simp
theorem J1a {ks:List (ByteArray×Va)} {e:Ex} (hb:builtF e=true) (ht:(typeF ks e).2=true):∀ k∈e.kids,(typeF ks k).2=true:=by
 have hl:=(J0A hb).1;rw[J5R] at ht;unfold J3h at ht;intro k hk;split at ht
 ·rename_i h;rw[show J0S e.op=0 by unfold J0S;rw[if_pos h]] at hl;have hnil:e.kids=[]:=List.eq_nil_of_length_eq_zero (by omega);rw[hnil] at hk;cases hk
 ·rename_i h0;split at ht
  ·rename_i h;rw[show J0S e.op=2 by unfold J0S;rw[if_neg h0,if_pos h]] at hl;obtain ⟨a,b,he⟩:=len2 hl;rw[he] at hk ht;have ht:((typeF ks a).2&&(typeF ks b).2&&decide ((typeF ks a).1=(typeF ks b).1))=true:=ht;simp only[Bool.and_eq_true] at ht;simp only[List.mem_cons,List.not_mem_nil,or_false] at hk
   rcases hk with rfl | rfl
   ·exact ht.1.1
   ·exact ht.1.2
  ·rename_i h1;split at ht
   ·rename_i h;rw[show J0S e.op=3 by unfold J0S;rw[if_neg h0,if_neg h1,if_pos h]] at hl;obtain ⟨a,b,c,he⟩:=JMQ hl;rw[he] at hk ht;have ht:((typeF ks a).2&&((typeF ks b).2&&(typeF ks c).2&&decide ((typeF ks b).1=(typeF ks c).1))&&decide ((typeF ks a).1=1))=true:=ht;simp only[Bool.and_eq_true] at ht;simp only[List.mem_cons,List.not_mem_nil,or_false] at hk
    rcases hk with rfl | rfl | rfl
    ·exact ht.1.1
    ·exact ht.1.2.1.1
    ·exact ht.1.2.1.2
   ·split at ht
    ·cases ht
    ·rename_i h;have h:=Bool.eq_false_iff.2 h;exact (JKE h _ (List.mem_map.2 ⟨k,hk,rfl⟩)).1
inductive Shape (ks:List (ByteArray×Va)) (e:Ex):Prop where
 | num (h:e.op=oNum) (hk:e.kids=[]) (ht:(typeF ks e).1=0)
 | ref (h:e.op=oVar∨e.op=oPre) (hk:e.kids=[]) (v:Va) (hv:J0w ks e.text=some v) (ht:(typeF ks e).1=v.type)
 | ite (h:e.op=oIf) (a b c:Ex) (hk:e.kids=[a,b,c]) (ha:(typeF ks a).1=1) (hb:(typeF ks b).1=(typeF ks e).1) (hc:(typeF ks c).1=(typeF ks e).1)
 | bin (h:e.op=oAnd∨e.op=oOr) (a b:Ex) (hk:e.kids=[a,b]) (ha:(typeF ks a).1=1) (hb:(typeF ks b).1=1) (ht:(typeF ks e).1=1)
 | eq (h:e.op=oEq∨e.op=oNe) (a b:Ex) (hk:e.kids=[a,b]) (hab:(typeF ks a).1=(typeF ks b).1) (ht:(typeF ks e).1=1)
 | time (h:e.op=oTime) (hk:e.kids=[]) (ht:(typeF ks e).1=0)
 | const (h:e.op=oTrue∨e.op=oFalse∨e.op=oInit) (hk:e.kids=[]) (ht:(typeF ks e).1=1)
 | neg (h:e.op=oNeg) (a:Ex) (hk:e.kids=[a]) (ha:(typeF ks a).1≠1) (ht:(typeF ks e).1=0)
 | not (h:e.op=oNot) (a:Ex) (hk:e.kids=[a]) (ha:(typeF ks a).1=1) (ht:(typeF ks e).1=1)
 | sample (h:e.op=oSample) (a b:Ex) (hk:e.kids=[a,b]) (ha:a.op=oNum) (hb:b.op=oNum) (h0:b.text≠⟨#[48]⟩) (ht:(typeF ks e).1=1)
 | arith (h:e.op=oAdd∨e.op=oSub∨e.op=oMul∨e.op=oDiv) (a b:Ex) (hk:e.kids=[a,b]) (ha:(typeF ks a).1≠1) (hb:(typeF ks b).1≠1) (ht:(typeF ks e).1=0)
 | comp (h:e.op=oLess∨e.op=oAtMost∨e.op=oMore∨e.op=oAtLeast) (a b:Ex) (hk:e.kids=[a,b]) (ha:(typeF ks a).1≠1) (hb:(typeF ks b).1≠1) (ht:(typeF ks e).1=1)
theorem nil0 {α:Type} {l:List α} (h:(l.length:Int)=0):l=[]:=List.eq_nil_of_length_eq_zero (by omega)
theorem J8f {ks:List (ByteArray×Va)} {e:Ex} (hb:builtF e=true) (ht:(typeF ks e).2=true):Shape ks e:=by
 have hl:=(J0A hb).1
 have hsm:J1r e.op e.kids (e.kids.map builtF)=false:=by
  rw[J10] at hb;simp only[Bool.and_eq_true,Bool.not_eq_true'] at hb;exact hb.1.2
 have htt:=J5R ks e;rw[htt] at ht;unfold J3h at ht htt;split at ht
 ·rename_i h;rw[if_pos h] at htt;rw[show J0S e.op=0 by unfold J0S;rw[if_pos h]] at hl
  cases ha:J0w ks e.text with
  | none=>rw[ha] at ht;cases ht
  | some v=>
    rw[ha] at htt;exact .ref h (nil0 hl) v ha (by rw[htt])
 ·rename_i h0;rw[if_neg h0] at htt;split at ht
  ·rename_i h;rw[if_pos h] at htt;rw[show J0S e.op=2 by unfold J0S;rw[if_neg h0,if_pos h]] at hl;obtain ⟨a,b,he⟩:=len2 hl;rw[he] at ht;have ht:((typeF ks a).2&&(typeF ks b).2&&decide ((typeF ks a).1=(typeF ks b).1))=true:=ht;simp only[Bool.and_eq_true,decide_eq_true_eq] at ht;exact .eq h a b he ht.2 (by rw[htt])
  ·rename_i h1;rw[if_neg h1] at htt;split at ht
   ·rename_i h;rw[if_pos h] at htt;rw[show J0S e.op=3 by unfold J0S;rw[if_neg h0,if_neg h1,if_pos h]] at hl;obtain ⟨a,b,c,he⟩:=JMQ hl;rw[he] at ht htt;have ht:((typeF ks a).2&&((typeF ks b).2&&(typeF ks c).2&&decide ((typeF ks b).1=(typeF ks c).1))&&decide ((typeF ks a).1=1))=true:=ht;simp only[Bool.and_eq_true,decide_eq_true_eq] at ht;have h5:(typeF ks e).1=(typeF ks b).1:=by rw[htt];rfl
    exact .ite h a b c he ht.2 h5.symm (by rw[h5];exact ht.1.2.2.symm)
   ·rename_i h2;rw[if_neg h2] at htt;split at ht
    ·cases ht
    ·rename_i h3;rw[if_neg h3] at htt;have h3:=JKE (Bool.eq_false_iff.2 h3)
     have hkk:J0S e.op=match J0w shp e.op with | none=>-1 | some x=>x.1:=by unfold J0S;rw[if_neg h0,if_neg h1,if_neg h2];try rfl
     cases hs:J0w shp e.op with
     | none=>rw[hs] at hkk;rw[hkk] at hl;simp only at hl;omega
     | some x=>
       rw[hs] at hkk;have hx:shpD e.op=x:=by unfold shpD;rw[hs]
       rw[hx] at h3 htt;replace hkk:(e.kids.length:Int)=x.1:=by rw[hl,hkk]
       have ht1:(typeF ks e).1=if x.2.2 then 1 else 0:=by rw[htt]
       have hkt:∀ k∈e.kids,decide ((typeF ks k).1=1)=x.2.1:=fun k hk=>(h3 _ (List.mem_map.2 ⟨k,hk,rfl⟩)).2
       rcases JBW hs with h | ⟨h,rfl⟩ | ⟨h,rfl⟩ | ⟨h,rfl⟩ | ⟨h,rfl⟩ | ⟨h,rfl⟩ | ⟨h,rfl⟩ | ⟨h,rfl⟩ | ⟨h,rfl⟩
       ·have hn:x=(0,false,false):=by
         rw[h] at hs;exact (Option.some.inj (hs.symm.trans (by rfl:J0w shp oNum=some (0,false,false))))
        subst hn;exact .num h (nil0 hkk) ht1
       ·obtain ⟨a,b,he⟩:=len2 hkk;rw[he] at hkt;exact .bin h a b he (of_decide_eq_true (hkt a (by simp))) (of_decide_eq_true (hkt b (by simp))) ht1
       ·exact .time h (nil0 hkk) ht1
       ·exact .const h (nil0 hkk) ht1
       ·obtain ⟨a,he⟩:=len1 hkk;rw[he] at hkt;exact .neg h a he (of_decide_eq_false (hkt a (by simp))) ht1
       ·obtain ⟨a,he⟩:=len1 hkk;rw[he] at hkt;exact .not h a he (of_decide_eq_true (hkt a (by simp))) ht1
       ·obtain ⟨a,b,he⟩:=len2 hkk;rw[he] at hkt hsm;unfold J1r at hsm;rw[decide_eq_true h,Bool.true_and] at hsm;simp only[List.map_cons,Bool.or_eq_false_iff,Bool.not_eq_false',decide_eq_true_eq,decide_eq_false_iff_not] at hsm;exact .sample h a b he hsm.1.1.1.1 hsm.1.1.1.2 hsm.2 ht1
       ·obtain ⟨a,b,he⟩:=len2 hkk;rw[he] at hkt;exact .arith h a b he (of_decide_eq_false (hkt a (by simp))) (of_decide_eq_false (hkt b (by simp))) ht1
       ·obtain ⟨a,b,he⟩:=len2 hkk;rw[he] at hkt;exact .comp h a b he (of_decide_eq_false (hkt a (by simp))) (of_decide_eq_false (hkt b (by simp))) ht1
def IsOp (o:ByteArray):Prop:=o≠oNum∧¬(o=oVar∨o=oPre)∧¬(o=oIf∨o=oAnd∨o=oOr)
theorem JIt {o:ByteArray} (h:o∈[oEq,oNe,oTime,oTrue,oFalse,oInit,oNeg,oNot,oSample,oAdd,oSub,oMul,oDiv,oLess,oAtMost,oMore,oAtLeast]):IsOp o:=by
 have:(([oEq,oNe,oTime,oTrue,oFalse,oInit,oNeg,oNot,oSample,oAdd,oSub,oMul,oDiv,oLess,oAtMost,oMore,oAtLeast]:List ByteArray).all fun o=>!decide (o=oNum)&&!(decide (o=oVar)||decide (o=oPre))&&!(decide (o=oIf)||decide (o=oAnd)||decide (o=oOr)))=true:=by kernel_rfl
 have:=List.all_eq_true.1 this o h;simp only[Bool.and_eq_true,Bool.not_eq_true',Bool.or_eq_false_iff,decide_eq_false_iff_not] at this;exact ⟨this.1.1,by rintro (h | h);exact this.1.2.1 h;exact this.1.2.2 h,by rintro (h | h | h);exact this.2.1.1 h;exact this.2.1.2 h;exact this.2.2 h⟩
theorem J3W {o:ByteArray} (h:o=oIf∨o=oAnd∨o=oOr):o≠oNum∧¬(o=oVar∨o=oPre):=by rcases h with rfl | rfl | rfl<;>exact ⟨by decide,by decide⟩
section
variable {ks:List (ByteArray×Va)} {ev:Ev} {o t:ByteArray} {n:Int} {rs:List (Except Int Vl)}
theorem J2j (h:o=oNum):J6Y ks ev o t n rs=.ok (.num (numV t)):=by unfold J6Y;rw[if_pos h]
theorem J6X (h:o=oVar∨o=oPre):J6Y ks ev o t n rs=J2q ks ev ⟨t,n,decide (o=oPre)⟩:=by
 unfold J6Y;rw[if_neg (by rcases h with rfl | rfl<;>decide),if_pos h]
theorem J42 (h:o=oIf∨o=oAnd∨o=oOr):J6Y ks ev o t n rs=match rs.getD 0 (.error 0) with
  | .error c=>.error c
  | .ok v=>match J2S o v.truth with
    | some i=>rs.getD i (.error 0)
    | none=>.ok v:=by
 unfold J6Y;rw[if_neg (J3W h).1,if_neg (J3W h).2,if_pos h]
 try rfl
theorem J92 (h:IsOp o):J6Y ks ev o t n rs=match seqR rs with
  | .error c=>.error c
  | .ok vs=>wayF ev o vs:=by
 unfold J6Y;rw[if_neg h.1,if_neg h.2.1,if_neg h.2.2]
 try rfl
end
theorem Shape.isOp {ks:List (ByteArray×Va)} {e:Ex} (h:Shape ks e):e.op=oNum∨(e.op=oVar∨e.op=oPre)∨(e.op=oIf∨e.op=oAnd∨e.op=oOr)∨IsOp e.op:=by
 rcases h with ⟨h⟩ | ⟨h⟩ | ⟨h⟩ | ⟨h⟩ | ⟨h⟩ | ⟨h⟩ | ⟨h⟩ | ⟨h⟩ | ⟨h⟩ | ⟨h⟩ | ⟨h⟩ | ⟨h⟩
 ·exact .inl h
 ·exact .inr (.inl h)
 ·exact .inr (.inr (.inl (.inl h)))
 ·exact .inr (.inr (.inl (.inr h)))
 all_goals
  refine .inr (.inr (.inr (JIt ?_)))
  first | (rcases h with h | h | h | h) | (rcases h with h | h | h) | (rcases h with h | h) | skip
 all_goals rw[h];simp
theorem J5q {ks:List (ByteArray×Va)} {ev:Ev} {e:Ex} (hb:builtF e=true) (hs:Shape ks e) (ho:IsOp e.op) (hk:∀ k∈e.kids,∀ v,evalF ks ev k=.ok v→v.type=(typeF ks k).1) {vs:List Vl} (h:e.kids.map (evalF ks ev)=vs.map .ok):JI6 e.op vs:=by
 have two:∀ {a b:Ex},e.kids=[a,b]→∃ x y,vs=[x,y]∧x.type=(typeF ks a).1∧y.type=(typeF ks b).1∧evalF ks ev a=.ok x∧evalF ks ev b=.ok y:=by
  intro a b he;rw[he] at h hk
  rcases vs with _ | ⟨x,_ | ⟨y,_ | ⟨z,r⟩⟩⟩<;>simp at h
  exact ⟨x,y,rfl,hk a (by simp) x h.1,hk b (by simp) y h.2,h.1,h.2⟩
 have one:∀ {a:Ex},e.kids=[a]→∃ x,vs=[x]∧x.type=(typeF ks a).1:=by
  intro a he;rw[he] at h hk
  rcases vs with _ | ⟨x,_ | ⟨z,r⟩⟩<;>simp at h
  exact ⟨x,rfl,hk a (by simp) x h⟩
 have number:∀ {v:Vl} {t:Int},v.type=t→t≠1→∃ q,v=.num q:=by
  intro v t h1 h2
  rcases ty01 v with ⟨_,h⟩ | ⟨h,_⟩
  ·exact h
  ·exact absurd (h1.symm.trans h) h2
 have truth:∀ {v:Vl} {t:Int},v.type=t→t=1→∃ b,v=.tr b:=by
  intro v t h1 h2
  rcases ty01 v with ⟨h,_⟩ | ⟨_,h⟩
  ·rw[h1,h2] at h;cases h
  ·exact h
 rcases hs with ⟨h1⟩ | ⟨h1⟩ | ⟨h1⟩ | ⟨h1⟩ | ⟨h1,a,b,he,hab,_⟩ | ⟨h1⟩ | ⟨h1⟩ | ⟨h1,a,he,ha,_⟩ | ⟨h1,a,he,ha,_⟩ | ⟨h1,a,b,he,ha,hb',h0,_⟩ | ⟨h1,a,b,he,ha,hb',_⟩ | ⟨h1,a,b,he,ha,hb',_⟩
 ·exact absurd h1 ho.1
 ·exact absurd h1 ho.2.1
 ·exact absurd (.inl h1) ho.2.2
 ·exact absurd (.inr h1) ho.2.2
 ·obtain ⟨x,y,rfl,hx,hy,_⟩:=two he;exact .inr (.inr (.inr (.inr (.inr ⟨h1,x,y,rfl,by rw[hx,hy,hab]⟩))))
 ·exact .inl (.inr (.inr (.inl h1)))
 ·refine .inl ?_
  rcases h1 with h1 | h1 | h1
  ·exact .inl h1
  ·exact .inr (.inl h1)
  ·exact .inr (.inr (.inr h1))
 ·obtain ⟨x,rfl,hx⟩:=one he;obtain ⟨q,rfl⟩:=number hx ha;exact .inr (.inr (.inl ⟨h1,q,rfl⟩))
 ·obtain ⟨x,rfl,hx⟩:=one he;obtain ⟨q,rfl⟩:=truth hx ha;exact .inr (.inr (.inr (.inl ⟨h1,q,rfl⟩)))
 ·obtain ⟨x,y,rfl,_,_,ex,ey⟩:=two he;rw[J37,J2j ha] at ex;rw[J37,J2j hb'] at ey;cases ex;cases ey;refine .inr (.inl ⟨h1,_,_,rfl,fun hq=>h0 (JG2 ?_ hq)⟩);have hbb:=(J0A hb).2 b (by rw[he];simp);rw[J10] at hbb;simp only[Bool.and_eq_true] at hbb;have hx:=hbb.1.1.2;unfold textF at hx;rw[if_pos hb'] at hx;simp only[Bool.and_eq_true] at hx;exact hx.1
 ·obtain ⟨x,y,rfl,hx,hy,_⟩:=two he;obtain ⟨p,rfl⟩:=number hx ha;obtain ⟨q,rfl⟩:=number hy hb';refine .inr (.inr (.inr (.inr (.inl ⟨?_,p,q,rfl⟩))))
  rcases h1 with h1 | h1 | h1 | h1<;>simp[h1]
 ·obtain ⟨x,y,rfl,hx,hy,_⟩:=two he;obtain ⟨p,rfl⟩:=number hx ha;obtain ⟨q,rfl⟩:=number hy hb';refine .inr (.inr (.inr (.inr (.inl ⟨?_,p,q,rfl⟩))))
  rcases h1 with h1 | h1 | h1 | h1<;>simp[h1]
def typeW (o:ByteArray):Int:=if o=oTime∨o=oNeg∨o=oAdd∨o=oSub∨o=oMul∨o=oDiv then 0 else 1
theorem JKT {ev:Ev} {o:ByteArray} {vs:List Vl} (hw:JI6 o vs) {v:Vl} (h:wayF ev o vs=.ok v):v.type=typeW o:=by
 rcases hw with h1 | ⟨rfl,p,q,rfl,h0⟩ | ⟨rfl,p,rfl⟩ | ⟨rfl,c,rfl⟩ | ⟨h1,p,q,rfl⟩ | ⟨h1,a,b,rfl,hab⟩
 ·rcases h1 with rfl | rfl | rfl | rfl<;>(cases h;rfl)
 ·replace h:(.ok (.tr (multF (ev.time-p) q)):Except Int Vl)=.ok v:=h;cases h;rfl
 ·replace h:(.ok (.num (-p)):Except Int Vl)=.ok v:=h;cases h;rfl
 ·replace h:(.ok (.tr (!c)):Except Int Vl)=.ok v:=h;cases h;rfl
 ·rcases h1 with rfl | rfl | rfl | rfl | rfl | rfl | rfl | rfl
  ·replace h:(.ok (.num (p+q)):Except Int Vl)=.ok v:=h;cases h;rfl
  ·replace h:(.ok (.num (p-q)):Except Int Vl)=.ok v:=h;cases h;rfl
  ·replace h:(.ok (.num (p*q)):Except Int Vl)=.ok v:=h;cases h;rfl
  ·replace h:divV p q=.ok v:=h;unfold divV at h;split at h
   ·cases h
   ·cases h;rfl
  ·replace h:(.ok (.tr (decide (p<q))):Except Int Vl)=.ok v:=h;cases h;rfl
  ·replace h:(.ok (.tr (decide (p≤q))):Except Int Vl)=.ok v:=h;cases h;rfl
  ·replace h:(.ok (.tr (decide (q<p))):Except Int Vl)=.ok v:=h;cases h;rfl
  ·replace h:(.ok (.tr (decide (q≤p))):Except Int Vl)=.ok v:=h;cases h;rfl
 ·rcases a with p | x<;>rcases b with q | y<;>first | (cases hab;done) | skip
  ·rcases h1 with rfl | rfl
   ·replace h:(.ok (.tr (sameV (.num p) (.num q))):Except Int Vl)=.ok v:=h;cases h;rfl
   ·replace h:(.ok (.tr (!sameV (.num p) (.num q))):Except Int Vl)=.ok v:=h;cases h;rfl
  ·rcases h1 with rfl | rfl
   ·replace h:(.ok (.tr (sameV (.tr x) (.tr y))):Except Int Vl)=.ok v:=h;cases h;rfl
   ·replace h:(.ok (.tr (!sameV (.tr x) (.tr y))):Except Int Vl)=.ok v:=h;cases h;rfl
theorem Shape.typeW {ks:List (ByteArray×Va)} {e:Ex} (hs:Shape ks e) (ho:IsOp e.op):(typeF ks e).1=typeW e.op:=by
 rcases hs with ⟨h1⟩ | ⟨h1⟩ | ⟨h1⟩ | ⟨h1⟩ | ⟨h1,a,b,he,hab,ht⟩ | ⟨h1,he,ht⟩ | ⟨h1,he,ht⟩ | ⟨h1,a,he,ha,ht⟩ | ⟨h1,a,he,ha,ht⟩ | ⟨h1,a,b,he,ha,hb',h0,ht⟩ | ⟨h1,a,b,he,ha,hb',ht⟩ | ⟨h1,a,b,he,ha,hb',ht⟩
 ·exact absurd h1 ho.1
 ·exact absurd h1 ho.2.1
 ·exact absurd (.inl h1) ho.2.2
 ·exact absurd (.inr h1) ho.2.2
 all_goals
  rw[ht]
  first | (rcases h1 with h1 | h1 | h1 | h1) | (rcases h1 with h1 | h1 | h1) | (rcases h1 with h1 | h1) | skip
 all_goals (rw[h1];rfl)
theorem JD0 {ks:List (ByteArray×Va)} {ev:Ev} (e:Ex):builtF e=true→(typeF ks e).2=true→∀ v,evalF ks ev e=.ok v→v.type=(typeF ks e).1:=by
 induction e using J1m with
 | h e ih=>
   intro hb ht v h;have ihk:∀ k∈e.kids,∀ v,evalF ks ev k=.ok v→v.type=(typeF ks k).1:=fun k hk=>ih k hk ((J0A hb).2 k hk) (J1a hb ht k hk);have hs:=J8f hb ht;rw[J37] at h
   by_cases ho:IsOp e.op
   ·rw[J92 ho] at h;split at h
    ·cases h
    ·rename_i vs hvs;rw[hs.typeW ho];exact JKT (J5q hb hs ho ihk (J8i hvs)) h
   rcases hs with ⟨h1,he,ht'⟩ | ⟨h1,he,w,hw,ht'⟩ | ⟨h1,a,b,c,he,ha,hb',hc⟩ | ⟨h1,a,b,he,ha,hb',ht'⟩ | ⟨h1⟩ | ⟨h1⟩ | ⟨h1⟩ | ⟨h1⟩ | ⟨h1⟩ | ⟨h1⟩ | ⟨h1⟩ | ⟨h1⟩
   ·rw[J2j h1] at h;cases h;rw[ht'];rfl
   ·rw[J6X h1] at h;rw[JJX h,ht'];show JDc ks e.text=w.type
    unfold JDc;rw[hw]
   ·rw[J42 (.inl h1),he] at h;rw[he] at ihk
    have h:(match evalF ks ev a with
     | .error c=>.error c
     | .ok v=>match J2S e.op v.truth with
       | some i=>(List.map (evalF ks ev) [a,b,c]).getD i (.error 0)
       | none=>.ok v)=Except.ok v:=h
    split at h
    ·cases h
    ·rename_i x hx;unfold J2S at h;rw[if_pos h1] at h;cases hxt:x.truth
     ·rw[hxt] at h;have h:evalF ks ev c=.ok v:=h;rw[ihk c (by simp) v h,hc]
     ·rw[hxt] at h;have h:evalF ks ev b=.ok v:=h;rw[ihk b (by simp) v h,hb']
   ·rw[J42 (.inr h1),he] at h;rw[he] at ihk
    have h:(match evalF ks ev a with
     | .error c=>.error c
     | .ok v=>match J2S e.op v.truth with
       | some i=>(List.map (evalF ks ev) [a,b]).getD i (.error 0)
       | none=>.ok v)=Except.ok v:=h
    split at h
    ·cases h
    ·rename_i x hx;unfold J2S at h;rw[if_neg (by rcases h1 with h1 | h1<;>rw[h1]<;>decide)] at h
     by_cases hd:decide (e.op=oAnd)=x.truth
     ·rw[if_pos hd] at h;have h:evalF ks ev b=.ok v:=h;rw[ihk b (by simp) v h,hb',ht']
     ·rw[if_neg hd] at h;cases h;rw[ihk a (by simp) v hx,ha,ht']
   all_goals
    exfalso;refine ho (JIt ?_)
    first | (rcases h1 with h1 | h1 | h1 | h1) | (rcases h1 with h1 | h1 | h1) | (rcases h1 with h1 | h1) | skip
   all_goals rw[h1];simp
theorem JI7 {ev:Ev} {o:ByteArray} {vs:List Vl} (hw:JI6 o vs) {c:Int} (h:wayF ev o vs=.error c):c=12:=by
 rcases hw with h1 | ⟨rfl,p,q,rfl,h0⟩ | ⟨rfl,p,rfl⟩ | ⟨rfl,x,rfl⟩ | ⟨h1,p,q,rfl⟩ | ⟨h1,a,b,rfl,hab⟩
 ·rcases h1 with rfl | rfl | rfl | rfl<;>cases h
 ·replace h:(.ok (.tr (multF (ev.time-p) q)):Except Int Vl)=.error c:=h;cases h
 ·replace h:(.ok (.num (-p)):Except Int Vl)=.error c:=h;cases h
 ·replace h:(.ok (.tr (!x)):Except Int Vl)=.error c:=h;cases h
 ·rcases h1 with rfl | rfl | rfl | rfl | rfl | rfl | rfl | rfl
  ·replace h:(.ok (.num (p+q)):Except Int Vl)=.error c:=h;cases h
  ·replace h:(.ok (.num (p-q)):Except Int Vl)=.error c:=h;cases h
  ·replace h:(.ok (.num (p*q)):Except Int Vl)=.error c:=h;cases h
  ·replace h:divV p q=.error c:=h;unfold divV at h;split at h
   ·cases h;rfl
   ·cases h
  ·replace h:(.ok (.tr (decide (p<q))):Except Int Vl)=.error c:=h;cases h
  ·replace h:(.ok (.tr (decide (p≤q))):Except Int Vl)=.error c:=h;cases h
  ·replace h:(.ok (.tr (decide (q<p))):Except Int Vl)=.error c:=h;cases h
  ·replace h:(.ok (.tr (decide (q≤p))):Except Int Vl)=.error c:=h;cases h
 ·rcases a with p | x<;>rcases b with q | y<;>first | (cases hab;done) | skip
  ·rcases h1 with rfl | rfl
   ·replace h:(.ok (.tr (sameV (.num p) (.num q))):Except Int Vl)=.error c:=h;cases h
   ·replace h:(.ok (.tr (!sameV (.num p) (.num q))):Except Int Vl)=.error c:=h;cases h
  ·rcases h1 with rfl | rfl
   ·replace h:(.ok (.tr (sameV (.tr x) (.tr y))):Except Int Vl)=.error c:=h;cases h
   ·replace h:(.ok (.tr (!sameV (.tr x) (.tr y))):Except Int Vl)=.error c:=h;cases h
theorem JCV:∀ {rs:List (Except Int Vl)} {c:Int},seqR rs=.error c→.error c∈rs
 | .error d::r,c,h=>by cases h;exact List.mem_cons_self
 | .ok v::r,c,h=>by
   unfold seqR at h;split at h
   ·cases h
   ·rename_i d hd;cases h;exact List.mem_cons_of_mem _ (JCV hd)
def ErrC (c:Int):Prop:=c=5∨c=7∨c=12
theorem JAH {ks:List (ByteArray×Va)} {ev:Ev} (e:Ex):builtF e=true→(typeF ks e).2=true→∀ c,evalF ks ev e=.error c→ErrC c:=by
 induction e using J1m with
 | h e ih=>
   intro hb ht c h;have ihk:∀ k∈e.kids,∀ c,evalF ks ev k=.error c→ErrC c:=fun k hk=>ih k hk ((J0A hb).2 k hk) (J1a hb ht k hk);have hty:∀ k∈e.kids,∀ v,evalF ks ev k=.ok v→v.type=(typeF ks k).1:=fun k hk=>JD0 k ((J0A hb).2 k hk) (J1a hb ht k hk);have hs:=J8f hb ht;rw[J37] at h
   by_cases ho:IsOp e.op
   ·rw[J92 ho] at h;split at h
    ·rename_i d hd;cases h;obtain ⟨k,hk,h⟩:=List.mem_map.1 (JCV hd);exact ihk k hk _ h
    ·rename_i vs hvs;exact .inr (.inr (JI7 (J5q hb hs ho hty (J8i hvs)) h))
   rcases hs with ⟨h1,he,ht'⟩ | ⟨h1,he,w,hw,ht'⟩ | ⟨h1,a,b,x,he,ha,hb',hc⟩ | ⟨h1,a,b,he,ha,hb',ht'⟩ | ⟨h1⟩ | ⟨h1⟩ | ⟨h1⟩ | ⟨h1⟩ | ⟨h1⟩ | ⟨h1⟩ | ⟨h1⟩ | ⟨h1⟩
   ·rw[J2j h1] at h;cases h
   ·rw[J6X h1] at h;unfold J2q at h;split at h
    ·cases h;exact .inl rfl
    ·split at h
     ·cases h;exact .inr (.inl rfl)
     ·cases h
   ·rw[J42 (.inl h1),he] at h;rw[he] at ihk
    have h:(match evalF ks ev a with
     | .error c=>.error c
     | .ok v=>match J2S e.op v.truth with
       | some i=>(List.map (evalF ks ev) [a,b,x]).getD i (.error 0)
       | none=>.ok v)=Except.error c:=h
    split at h
    ·rename_i d hd;cases h;exact ihk a (by simp) _ hd
    ·rename_i y hy;unfold J2S at h;rw[if_pos h1] at h;cases hxt:y.truth
     ·rw[hxt] at h;exact ihk x (by simp) c h
     ·rw[hxt] at h;exact ihk b (by simp) c h
   ·rw[J42 (.inr h1),he] at h;rw[he] at ihk
    have h:(match evalF ks ev a with
     | .error c=>.error c
     | .ok v=>match J2S e.op v.truth with
       | some i=>(List.map (evalF ks ev) [a,b]).getD i (.error 0)
       | none=>.ok v)=Except.error c:=h
    split at h
    ·rename_i d hd;cases h;exact ihk a (by simp) _ hd
    ·rename_i y hy;unfold J2S at h;rw[if_neg (by rcases h1 with h1 | h1<;>rw[h1]<;>decide)] at h
     by_cases hd:decide (e.op=oAnd)=y.truth
     ·rw[if_pos hd] at h;exact ihk b (by simp) c h
     ·rw[if_neg hd] at h;cases h
   all_goals
    exfalso;refine ho (JIt ?_)
    first | (rcases h1 with h1 | h1 | h1 | h1) | (rcases h1 with h1 | h1 | h1) | (rcases h1 with h1 | h1) | skip
   all_goals rw[h1];simp
theorem ErrC.ne {c:Int} (h:ErrC c):¬ c=0:=by rcases h with rfl | rfl | rfl<;>decide
def evFn (ks:List (ByteArray×Va)) (ev:Ev):Nat→AV
 | 0=>.dead
 | n+1=>.fn (.func 200) [] [.ep (encK ks) 0,.ep (J1B ev) 0,.ep (evFn ks ev n) 0,.ep wayM 0]
theorem JIr {e k:Ex} (h:k∈e.kids):SizeOf.sizeOf k<SizeOf.sizeOf e:=by
 cases e with
 | mk o t m ks=>
   have:=List.sizeOf_lt_of_mem (show k∈ks from h);simp;omega
theorem J5o:∀ es:List Ex,es.length≤wtL es
 | []=>Nat.zero_le _
 | e::es=>by
   unfold wtL;have:=J5o es;have:=J53 e;simp only[List.length_cons];omega
theorem JNB {b p e n:Nat} {H:Hp} {out:List Vl} (hb:H b=some (p,⟨e,6,out.map J0I⟩)) (hn:n=out.length):snap [b] H (.own b p 0 n)=J4u out:=by
 rw[J2D (by simp) hb (by simp[hn]),J0m _ _ _ _ hn fun v=>by cases v<;>rfl];rfl
def JDx (ev:Ev) (o:ByteArray) (vs:List Vl) (rs:List (Except Int Vl)):Except Int Vl:=match seqR rs with
 | .error c=>.error c
 | .ok r=>wayF ev o (vs++r)
theorem JIU (ev:Ev) (o:ByteArray) (vs:List Vl) (v:Vl) (rs:List (Except Int Vl)):JDx ev o vs (.ok v::rs)=JDx ev o (vs++[v]) rs:=by
 unfold JDx;rw[show seqR (.ok v::rs)=match seqR rs with | .ok l=>.ok (v::l) | .error c=>.error c from rfl]
 cases seqR rs with
 | error c=>rfl
 | ok l=>simp
def hpE (g5 g6 gl:Nat) (e:AV) (vs:List Vl):List (Nat×Nat×Blk):=[(5,g5,⟨42,4,[e]⟩),(6,g6,⟨165,6,[J15 nilQ false false]⟩),(93,gl,⟨165,6,vs.map J0I⟩)]
theorem JJl (ks:List (ByteArray×Va)) (ev:Ev) (he:EvOk ev) (e:Ex):SzE e→TxE e→builtF e=true→(typeF ks e).2=true→wtF e≤1000→∀ n,SizeOf.sizeOf e≤n →
  PureCall Tryz.prog 200 [encE e,.ep (encK ks) 0,.ep (J1B ev) 0,.ep (evFn ks ev n) 0,.ep wayM 0] (J1s (evalF ks ev e)):=by
 induction e using J1m with
 | h e ih=>
   intro hz hx hb ht hw n hn;have hpos:0<SizeOf.sizeOf e:=by cases e;simp;omega
   obtain ⟨m,rfl⟩:∃ m,n=m+1:=⟨n-1,by omega⟩;have hm:∀ k∈e.kids,SizeOf.sizeOf k≤m:=fun k hk=>by have:=JIr hk;omega
   have ihk:∀ k∈e.kids,PureCall Tryz.prog 200 [encE k,.ep (encK ks) 0,.ep (J1B ev) 0,.ep (evFn ks ev m) 0,.ep wayM 0] (J1s (evalF ks ev k)):=
    fun k hk=>ih k hk (hz.kid k hk) (hx.kid k hk) ((J0A hb).2 k hk) (J1a hb ht k hk) (by have:=JEz hk;omega) m (hm k hk)
   clear ih;have hty:∀ k∈e.kids,∀ v,evalF ks ev k=.ok v→v.type=(typeF ks k).1:=fun k hk=>JD0 k ((J0A hb).2 k hk) (J1a hb ht k hk);have herr:∀ k∈e.kids,∀ c,evalF ks ev k=.error c→¬ c=0:=fun k hk c h=>(JAH k ((J0A hb).2 k hk) (J1a hb ht k hk) c h).ne;have hsz:∀ k∈e.kids,∀ v,evalF ks ev k=.ok v→v.sz≤301*wtF k:=fun k hk=>JD1 he k ((J0A hb).2 k hk);have hs:=J8f hb ht;have hso:=hs.isOp;have hwt:wtL e.kids≤1000:=by have:=J53 e;omega
   have hlen:e.kids.length≤1000:=Nat.le_trans (J5o _) hwt;have htx:=hx.tx
   have htxt:e.op=oNum→(J0C e.text.data.toList).2=true:=by
    intro h1;have hx:textF e=true:=by rw[J10] at hb;simp only[Bool.and_eq_true] at hb;exact hb.1.1.2
    unfold textF at hx;rw[if_pos h1] at hx;simp only[Bool.and_eq_true] at hx;exact hx.1
   have hUse:=JMx e;have hBound:=JJn ks ev (useF e);have hway:=fun (vs:List Vl) (ho:IsOp e.op) (h:e.kids.map (evalF ks ev)=vs.map .ok)=>J5q hb hs ho hty h
   have hfirst:e.op=oIf∨e.op=oAnd∨e.op=oOr→0<e.kids.length∧∀ t i,J2S e.op t=some i→i<e.kids.length:=by
    intro h
    rcases hs with ⟨h1⟩ | ⟨h1⟩ | ⟨h1,a,b,c,hk,_⟩ | ⟨h1,a,b,hk,_⟩ | ⟨h1⟩ | ⟨h1⟩ | ⟨h1⟩ | ⟨h1⟩ | ⟨h1⟩ | ⟨h1⟩ | ⟨h1⟩ | ⟨h1⟩
    ·exact absurd h1 (J3W h).1
    ·exact absurd h1 (J3W h).2
    ·rw[hk];refine ⟨by simp,fun t i hi=>?_⟩;unfold J2S at hi;rw[if_pos h1] at hi;cases t<;>cases hi<;>simp
    ·rw[hk];refine ⟨by simp,fun t i hi=>?_⟩;unfold J2S at hi;rw[if_neg (by rcases h1 with h1 | h1<;>rw[h1]<;>decide)] at hi;split at hi
     ·cases hi;simp
     ·cases hi
    all_goals
     exfalso
     have hop:IsOp e.op:=JIt (by
      first | (rcases h1 with h1 | h1 | h1 | h1) | (rcases h1 with h1 | h1 | h1) | (rcases h1 with h1 | h1) | skip
      all_goals rw[h1];simp)
     exact hop.2.2 h
   have hNext:=fun t=>JLx e t;clear hz hx hb ht hw hn hm hs;refine PC [] Tryz.func200 rfl (by rfl) rfl ?_;generalize hF:evalF ks ev e=F;rw[J37] at hF;rw[J03] at hUse hNext ⊢;generalize hus:useF e=us at *;obtain ⟨o,t,od,es⟩:=e;simp only[Ex.op,Ex.text,Ex.order,Ex.kids] at *
   rcases hso with h1 | h1 | h1 | h1
   ·rw[J2j h1] at hF;obtain ⟨hq1,hq2⟩:=J4p (htxt h1);have hp:=J2s t.data.toList htx;rw[J1G,JCa,← hq1] at hp;have hN:=J29 (numV t);generalize numV t=q at *;generalize (J0C t.data.toList).2=b at *;unfold encF encQ at hp;(refine kWS ?_;repeat intro γ);refine J00 [] _ c113 hp ?_;(refine kWS ?_;repeat intro γ);refine J00 [] _ c201 hN ?_;(refine kWS ?_;repeat intro γ);exact .of (by rw[← hF];rfl)
   ·rw[J6X h1] at hF;replace hF:J2q ks ev us=F:=by rw[← hus];exact hF
    rw[hF] at hBound
    have hcond:¬ o=oNum:=by rcases h1 with rfl | rfl<;>decide
    by_cases h2:o=oVar
    case' neg=>have h3:o=oPre:=h1.resolve_left h2
    all_goals
     (refine kWS ?_;repeat intro γ);refine CallG.intro _ c132 hUse ?_;(refine kWS ?_;repeat intro γ);refine CallG.intro _ c202 hBound ?_
     rcases F with c | q | b
     all_goals
      (refine kWS ?_;repeat intro γ);exact .of rfl
   ·rw[J42 h1] at hF;have n1:¬ o=oNum:=(J3W h1).1;have n2:¬ o=oVar:=fun h=>(J3W h1).2 (.inl h);have n3:¬ o=oPre:=fun h=>(J3W h1).2 (.inr h);obtain ⟨hl0,hnx⟩:=hfirst h1;have hk0:=ihk _ (List.getElem_mem hl0);have he0:=herr _ (List.getElem_mem hl0);have h0:(es.map (evalF ks ev)).getD 0 (.error 0)=evalF ks ev es[0]:=by rw[List.getD_eq_getElem?_getD,List.getElem?_map,List.getElem?_eq_getElem hl0];rfl
    rw[h0] at hF
    have g0:(es.map encE).getD (Int.toNat 0) .dead=encE es[0]:=by
     show (es.map encE).getD 0 .dead=_
     rw[List.getD_eq_getElem?_getD,List.getElem?_map,List.getElem?_eq_getElem hl0];rfl
    generalize es[0]=k0 at *
    by_cases h4:o=oIf
    case' neg=>
     by_cases h5:o=oAnd
     case' neg=>have h6:o=oOr:=(h1.resolve_left h4).resolve_left h5
    all_goals
     rw[J03] at g0 hk0;(refine kWS ?_;repeat intro γ);rw[g0];(refine kWS ?_;repeat intro γ);refine CallG.intro _ c200 hk0 ?_
     rcases hr:evalF ks ev k0 with c | v
     ·rw[hr] at hF;have hc:=he0 c hr;replace hF:Except.error c=F:=hF;(refine kWS ?_;repeat intro γ);exact .of (by rw[← hF];rfl)
     ·rw[hr] at hF;clear he0 hr
      replace hF:(match J2S o v.truth with
       | some i=>(List.map (evalF ks ev) es).getD i (.error 0)
       | none=>.ok v)=F:=hF
      have hN:=hNext v.truth (hnx v.truth);have hnx:=hnx v.truth
      rcases hni:J2S o v.truth with _ | i
      ·rw[hni] at hN hF;replace hF:Except.ok v=F:=hF;replace hN:PureCall Tryz.prog 158 [.agg [encS o,encS t,encI od,.sl 4 (es.map encE)],encB v.truth] (.tup [nilE,encB false]):=hN
       rcases v with q | b
       all_goals
        unfold J1s J0I J15
        try unfold encF encQ
        (refine kWS ?_;repeat intro γ);refine J00 [] _ c158 hN ?_;(refine kWS ?_;repeat intro γ);exact .of (by rw[← hF];rfl)
      ·rw[hni] at hN hF;have hi:=hnx i hni;have hki:=ihk _ (List.getElem_mem hi);have gi:(es.map encE).getD i .dead=encE es[i]:=by rw[List.getD_eq_getElem?_getD,List.getElem?_map,List.getElem?_eq_getElem hi];rfl
       have fi:(es.map (evalF ks ev)).getD i (.error 0)=evalF ks ev es[i]:=by rw[List.getD_eq_getElem?_getD,List.getElem?_map,List.getElem?_eq_getElem hi];rfl
       replace hF:(es.map (evalF ks ev)).getD i (.error 0)=F:=hF;rw[fi] at hF;replace hN:PureCall Tryz.prog 158 [.agg [encS o,encS t,encI od,.sl 4 (es.map encE)],encB v.truth] (.tup [(es.map encE).getD i .dead,encB true]):=hN;rw[gi] at hN;generalize es[i]=k at *;rw[J03 k] at hN hki;rw[hF] at hki
       rcases v with q | b
       all_goals
        unfold J1s J0I J15
        try unfold encF encQ
        (refine kWS ?_;repeat intro γ);refine J00 [] _ c158 hN ?_;(refine kWS ?_;repeat intro γ);refine J00 [] _ c200 hki ?_
        rcases F with c | q | b
        all_goals
         (refine kWS ?_;repeat intro γ);exact .of rfl
   ·rw[J92 h1] at hF;have n1:¬ o=oNum:=h1.1;have n2:¬ o=oVar:=fun h=>h1.2.1 (.inl h);have n3:¬ o=oPre:=fun h=>h1.2.1 (.inr h);have n4:¬ o=oIf:=fun h=>h1.2.2 (.inl h);have n5:¬ o=oAnd:=fun h=>h1.2.2 (.inr (.inl h));have n6:¬ o=oOr:=fun h=>h1.2.2 (.inr (.inr h));have hsq:∀ vs:List Vl,(es.map (evalF ks ev))=vs.map .ok→Way ev o vs:=fun vs h=>JMB ev o vs (hway vs h1 h) (by have:=JFM hsz h;have:=he.1;omega);clear hNext hBound hUse hus hfirst hway hsz hty htxt;replace hF:JDx ev o [] (es.map (evalF ks ev))=F:=by rw[← hF];rfl
    (refine kWS ?_;repeat intro γ)
    refine LoopP.intro (fun j σ H=>∃ g5 g6 gl i,∃ vs:List Vl,j=es.length-i∧i≤es.length∧(es.take i).map (evalF ks ev)=vs.map .ok∧JDx ev o vs ((es.drop i).map (evalF ks ev))=F ∧
     σ=fr [(1,.ep (encK ks) 0),(2,.ep (J1B ev) 0),(3,.ep (evFn ks ev (m+1)) 0),(4,.ep wayM 0),(5,.op 5 g5 0 0),(6,.op 6 g6 0 0),(14,.own 93 gl 0 vs.length),(74,.sl 4 (es.map encE)),(75,encI es.length),(76,encI i)] ∧
     H=hp (hpE g5 g6 gl (.agg [encS o,encS t,encI od,.sl 4 (es.map encE)]) vs)) ?_ ?_
    ·exact .intro (J2r 14 93 165 6 rfl rfl fun gl=>W.of ⟨_,_,_,gl,0,[],rfl,Nat.zero_le _,rfl,hF,rfl,rfl⟩ ⟨rfl,rfl,rfl,rfl,rfl,rfl,rfl,rfl,(by rw[List.length_map];rfl),rfl,trivial⟩ ⟨rfl,rfl,rfl,trivial⟩)
    ·clear hF;rintro j σ H ⟨g5,g6,gl,i,vs,rfl,hi,hvs,hF,rfl,rfl⟩;unfold hpE
     have hvl:vs.length=i:=by
      have:=congrArg List.length hvs;rw[List.length_map,List.length_map,List.length_take] at this;omega
     rcases Nat.lt_or_ge i es.length with h9 | h9
     ·rw[List.drop_eq_getElem_cons h9,List.map_cons] at hF;have hk:=ihk _ (List.getElem_mem h9);have hek:=herr _ (List.getElem_mem h9);have htk:(es.take (i+1)).map (evalF ks ev)=vs.map .ok++[evalF ks ev es[i]]:=by rw[List.take_succ_eq_append_getElem h9,List.map_append,hvs];rfl
      obtain ⟨k,hkk⟩:∃ k,es[i]=k:=⟨_,rfl⟩;rw[hkk] at hF hk hek htk;rw[J03] at hk;(refine kWQ ?_;repeat intro γ);simp only[hkk,J03];(refine kQ ?_;repeat intro γ);refine J00 [] _ c200 hk ?_
      rcases hr:evalF ks ev k with c | v
      ·have hc:=hek c hr;rw[hr] at hF;replace hF:Except.error c=F:=hF;(refine kWQ ?_;repeat intro γ);exact .of (by rw[← hF];rfl)
      ·rw[hr,JIU] at hF;rw[hr] at htk;have hml:=@List.length_map _ _ vs J0I;clear hek hk
       rcases v with q | b
       ·unfold J1s J0I J15 encF encQ;(refine kWQ ?_;repeat intro γ)
        refine .intro <| W.of ⟨_,by omega,g5,g6,γ,i+1,vs++[.num q],rfl,h9,(by rw[htk,List.map_append];rfl),hF,rfl,rfl⟩ ⟨rfl,rfl,rfl,rfl,rfl,rfl,?_,rfl,rfl,rfl,trivial⟩ ⟨rfl,rfl,?_,trivial⟩
        ·exact congrArg (AV.own 93 _ 0) (by simp)
        ·rw[List.map_append];rfl
       ·unfold J1s J0I J15;(refine kWQ ?_;repeat intro γ)
        refine .intro <| W.of ⟨_,by omega,g5,g6,γ,i+1,vs++[.tr b],rfl,h9,(by rw[htk,List.map_append];rfl),hF,rfl,rfl⟩ ⟨rfl,rfl,rfl,rfl,rfl,rfl,?_,rfl,rfl,rfl,trivial⟩ ⟨rfl,rfl,?_,trivial⟩
        ·exact congrArg (AV.own 93 _ 0) (by simp)
        ·rw[List.map_append];rfl
     ·obtain rfl:i=es.length:=by omega
      rw[List.drop_length] at hF;rw[List.take_length] at hvs;replace hF:wayF ev o vs=F:=by rw[← hF];unfold JDx seqR;simp
      obtain ⟨kf,cap,ha,hcap,hcal,hcl⟩:=hsq vs hvs;obtain ⟨r,hr,hm⟩:=J1k (fun x:AV=>x) o wayT;rw[ha] at hm
      cases r with
      | none=>exact hm.elim
      | some ix=>
        replace hm:(wayT.map fun x=>x.2).getD ix .dead=.fn (.func kf) [] cap:=hm;(refine kWQ ?_;repeat intro γ);refine Need.intro keyst9 ?_;refine kW ?_;refine LookP.intro (some ix) hr ?_;refine kW ?_;rw[hm]
        rcases hcap with rfl | ⟨x,rfl⟩
        all_goals
         (refine kWQ ?_;repeat intro γ);refine J00 [93] _ hcal (J0G (congrArg (fun z=>J1B ev::z::_) (JNB rfl rfl)) hcl) ?_;rw[hF]
         rcases F with c | q | b
         all_goals
          (refine kWQ ?_;repeat intro γ);exact .of rfl
end Go.Proofs.YtlhdoekgipaihaaGreatDoor
namespace Go.Proofs
open Go.Shelf
def Tryz.lays169_ren:Go.Shelf.Ren:=⟨fun | 169=>218 | n=>n,fun | 70=>275 | 9=>9 | 0=>0 | 72=>278 | 37=>276 | 127=>352 | 3=>3 | 5=>5 | n=>n,fun | n=>n⟩
theorem JAy:Go.Proofs.Lays.n169 Tryz.prog Tryz.lays169_ren:={
 mixed:=by kernel_rfl
 f169:=Tryz.func218.trans (congrArg some (by kernel_rfl))
 t0:=Tryz.underlying0
 a0:=Tryz.isAgg0
 z0:=Tryz.sizeOf0
 v0:=Tryz.zeroValue0
 t3:=Tryz.underlying3
 a3:=Tryz.isAgg3
 z3:=Tryz.sizeOf3
 v3:=Tryz.zeroValue3
 t9:=Tryz.underlying9
 a9:=Tryz.isAgg9
 z9:=Tryz.sizeOf9
 v9:=Tryz.zeroValue9
 t37:=Tryz.underlying276
 a37:=Tryz.isAgg276
 z37:=Tryz.sizeOf276
 v37:=Tryz.zeroValue276
 t70:=Tryz.underlying275
 a70:=Tryz.isAgg275
 z70:=Tryz.sizeOf275
 v70:=Tryz.zeroValue275
 t72:=Tryz.underlying278
 a72:=Tryz.isAgg278
 z72:=Tryz.sizeOf278
 v72:=Tryz.zeroValue278
 t127:=Tryz.underlying352
 a127:=Tryz.isAgg352
 z127:=Tryz.sizeOf352
 v127:=Tryz.zeroValue352 }
theorem J2X:Builder.Extra Tryz.prog Tryz.lays169_ren:={
 sizeBuilder:=by kernel_rfl
 liesBuilder:=by kernel_rfl
 t5:=Tryz.underlying5
 a5:=Tryz.isAgg5
 z5:=Tryz.sizeOf5
 v5:=Tryz.zeroValue5
 infoByte:=by kernel_rfl
 cellsByte:=by kernel_rfl
 sizeByte:=by kernel_rfl
 neB5:=by decide }
def Tryz.lays156_ren:Go.Shelf.Ren:=⟨fun | 156=>312 | 165=>343 | 166=>213 | 169=>218 | 240=>308 | 241=>369 | 276=>342 | 277=>383 | n=>n,fun | 31=>28 | 9=>9 | 3=>3 | 4=>4 | 0=>0 | 20=>20 | 72=>278 | 76=>281 | 70=>275 | 37=>276 | 75=>280 | 127=>352 | 164=>381 | 5=>5 | 80=>147 | n=>n,fun | n=>n⟩
theorem J1A:Go.Proofs.Lays.n156 Tryz.prog Tryz.lays156_ren:={
 mixed:=by kernel_rfl
 f156:=Tryz.func312.trans (congrArg some (by kernel_rfl))
 f165:=Tryz.func343.trans (congrArg some (by kernel_rfl))
 f166:=Tryz.func213.trans (congrArg some (by kernel_rfl))
 f169:=Tryz.func218.trans (congrArg some (by kernel_rfl))
 f240:=Tryz.func308.trans (congrArg some (by kernel_rfl))
 f241:=Tryz.func369.trans (congrArg some (by kernel_rfl))
 f276:=Tryz.func342.trans (congrArg some (by kernel_rfl))
 f277:=Tryz.func383.trans (congrArg some (by kernel_rfl))
 t0:=Tryz.underlying0
 a0:=Tryz.isAgg0
 z0:=Tryz.sizeOf0
 v0:=Tryz.zeroValue0
 t3:=Tryz.underlying3
 a3:=Tryz.isAgg3
 z3:=Tryz.sizeOf3
 v3:=Tryz.zeroValue3
 t4:=Tryz.underlying4
 a4:=Tryz.isAgg4
 z4:=Tryz.sizeOf4
 v4:=Tryz.zeroValue4
 t9:=Tryz.underlying9
 a9:=Tryz.isAgg9
 z9:=Tryz.sizeOf9
 v9:=Tryz.zeroValue9
 t20:=Tryz.underlying20
 a20:=Tryz.isAgg20
 z20:=Tryz.sizeOf20
 v20:=Tryz.zeroValue20
 t31:=Tryz.underlying28
 a31:=Tryz.isAgg28
 z31:=Tryz.sizeOf28
 v31:=Tryz.zeroValue28
 t37:=Tryz.underlying276
 a37:=Tryz.isAgg276
 z37:=Tryz.sizeOf276
 v37:=Tryz.zeroValue276
 t70:=Tryz.underlying275
 a70:=Tryz.isAgg275
 z70:=Tryz.sizeOf275
 v70:=Tryz.zeroValue275
 t72:=Tryz.underlying278
 a72:=Tryz.isAgg278
 z72:=Tryz.sizeOf278
 v72:=Tryz.zeroValue278
 t75:=Tryz.underlying280
 a75:=Tryz.isAgg280
 z75:=Tryz.sizeOf280
 v75:=Tryz.zeroValue280
 t76:=Tryz.underlying281
 a76:=Tryz.isAgg281
 z76:=Tryz.sizeOf281
 v76:=Tryz.zeroValue281
 t127:=Tryz.underlying352
 a127:=Tryz.isAgg352
 z127:=Tryz.sizeOf352
 v127:=Tryz.zeroValue352
 t164:=Tryz.underlying381
 a164:=Tryz.isAgg381
 z164:=Tryz.sizeOf381
 v164:=Tryz.zeroValue381 }
theorem J0X:Builder.Extra Tryz.prog Tryz.lays156_ren:={
 sizeBuilder:=by kernel_rfl
 liesBuilder:=by kernel_rfl
 t5:=Tryz.underlying5
 a5:=Tryz.isAgg5
 z5:=Tryz.sizeOf5
 v5:=Tryz.zeroValue5
 infoByte:=by kernel_rfl
 cellsByte:=by kernel_rfl
 sizeByte:=by kernel_rfl
 neB5:=by decide }
def Tryz.lays105_ren:Go.Shelf.Ren:=⟨fun | 105=>313 | 212=>328 | 99=>226 | 165=>343 | 166=>213 | 170=>344 | 169=>218 | 263=>360 | 264=>361 | 206=>314 | 240=>308 | 241=>369 | 276=>342 | 277=>383 | n=>n,fun | 9=>9 | 3=>3 | 4=>4 | 20=>20 | 0=>0 | 46=>356 | 109=>361 | 5=>5 | 72=>278 | 76=>281 | 51=>329 | 146=>393 | 53=>310 | 148=>395 | 70=>275 | 37=>276 | 75=>280 | 127=>352 | 164=>381 | 80=>147 | n=>n,fun | n=>n⟩
theorem JAz:Go.Proofs.Lays.n105 Tryz.prog Tryz.lays105_ren:={
 mixed:=by kernel_rfl
 f99:=Tryz.func226.trans (congrArg some (by kernel_rfl))
 f105:=Tryz.func313.trans (congrArg some (by kernel_rfl))
 f165:=Tryz.func343.trans (congrArg some (by kernel_rfl))
 f166:=Tryz.func213.trans (congrArg some (by kernel_rfl))
 f169:=Tryz.func218.trans (congrArg some (by kernel_rfl))
 f170:=Tryz.func344.trans (congrArg some (by kernel_rfl))
 f206:=Tryz.func314.trans (congrArg some (by kernel_rfl))
 f212:=Tryz.func328.trans (congrArg some (by kernel_rfl))
 f240:=Tryz.func308.trans (congrArg some (by kernel_rfl))
 f241:=Tryz.func369.trans (congrArg some (by kernel_rfl))
 f263:=Tryz.func360.trans (congrArg some (by kernel_rfl))
 f264:=Tryz.func361.trans (congrArg some (by kernel_rfl))
 f276:=Tryz.func342.trans (congrArg some (by kernel_rfl))
 f277:=Tryz.func383.trans (congrArg some (by kernel_rfl))
 t0:=Tryz.underlying0
 a0:=Tryz.isAgg0
 z0:=Tryz.sizeOf0
 v0:=Tryz.zeroValue0
 t3:=Tryz.underlying3
 a3:=Tryz.isAgg3
 z3:=Tryz.sizeOf3
 v3:=Tryz.zeroValue3
 t4:=Tryz.underlying4
 a4:=Tryz.isAgg4
 z4:=Tryz.sizeOf4
 v4:=Tryz.zeroValue4
 t5:=Tryz.underlying5
 a5:=Tryz.isAgg5
 z5:=Tryz.sizeOf5
 v5:=Tryz.zeroValue5
 t9:=Tryz.underlying9
 a9:=Tryz.isAgg9
 z9:=Tryz.sizeOf9
 v9:=Tryz.zeroValue9
 t20:=Tryz.underlying20
 a20:=Tryz.isAgg20
 z20:=Tryz.sizeOf20
 v20:=Tryz.zeroValue20
 t37:=Tryz.underlying276
 a37:=Tryz.isAgg276
 z37:=Tryz.sizeOf276
 v37:=Tryz.zeroValue276
 t46:=Tryz.underlying356
 a46:=Tryz.isAgg356
 z46:=Tryz.sizeOf356
 v46:=Tryz.zeroValue356
 t51:=Tryz.underlying329
 a51:=Tryz.isAgg329
 z51:=Tryz.sizeOf329
 v51:=Tryz.zeroValue329
 t53:=Tryz.underlying310
 a53:=Tryz.isAgg310
 z53:=Tryz.sizeOf310
 v53:=Tryz.zeroValue310
 t70:=Tryz.underlying275
 a70:=Tryz.isAgg275
 z70:=Tryz.sizeOf275
 v70:=Tryz.zeroValue275
 t72:=Tryz.underlying278
 a72:=Tryz.isAgg278
 z72:=Tryz.sizeOf278
 v72:=Tryz.zeroValue278
 t75:=Tryz.underlying280
 a75:=Tryz.isAgg280
 z75:=Tryz.sizeOf280
 v75:=Tryz.zeroValue280
 t76:=Tryz.underlying281
 a76:=Tryz.isAgg281
 z76:=Tryz.sizeOf281
 v76:=Tryz.zeroValue281
 t109:=Tryz.underlying361
 a109:=Tryz.isAgg361
 z109:=Tryz.sizeOf361
 v109:=Tryz.zeroValue361
 t127:=Tryz.underlying352
 a127:=Tryz.isAgg352
 z127:=Tryz.sizeOf352
 v127:=Tryz.zeroValue352
 t146:=Tryz.underlying393
 a146:=Tryz.isAgg393
 z146:=Tryz.sizeOf393
 v146:=Tryz.zeroValue393
 t148:=Tryz.underlying395
 a148:=Tryz.isAgg395
 z148:=Tryz.sizeOf395
 v148:=Tryz.zeroValue395
 t164:=Tryz.underlying381
 a164:=Tryz.isAgg381
 z164:=Tryz.sizeOf381
 v164:=Tryz.zeroValue381 }
theorem J2Y:Builder.Extra Tryz.prog Tryz.lays105_ren:={
 sizeBuilder:=by kernel_rfl
 liesBuilder:=by kernel_rfl
 t5:=Tryz.underlying5
 a5:=Tryz.isAgg5
 z5:=Tryz.sizeOf5
 v5:=Tryz.zeroValue5
 infoByte:=by kernel_rfl
 cellsByte:=by kernel_rfl
 sizeByte:=by kernel_rfl
 neB5:=by decide }
end Go.Proofs
namespace Go.Proofs.YtlhdoekgipaihaaGreatDoor
open Go Go.Fw Go.RowKit
def joinB (l:List ByteArray) (sep:ByteArray):ByteArray:=⟨(Lib.join (l.map (·.data.toList)) sep.data.toList).toArray⟩
def repB (s:ByteArray) (n:Nat):ByteArray:=⟨(Lib.repeatL s.data.toList n).toArray⟩
theorem JHf (l:List ByteArray) (sep:ByteArray) (hl:l.length≤2^40) (hs:(joinB l sep).size≤140737488355328):PureCall Tryz.prog 312 [.sl 1 (l.map encS),encS sep] (encS (joinB l sep)):=by
 intro O w vs hO hv;obtain ⟨hlen,hr⟩:=hv;obtain ⟨vl⟩:=vs
 rcases vl with _ | ⟨a,_ | ⟨b,_ | ⟨c,r⟩⟩⟩<;>simp at hlen
 have h0:=hr 0 (by simp) (by simp);have h1:=hr 1 (by simp) (by simp);simp only[List.getElem_cons_zero,List.getElem_cons_succ,List.getElem_toArray] at h0 h1;cases h1;have fin:∀ {e:Ending} {w':World},(e=.returned (.string (joinB l sep))∧Below w.heap.size w w')→∃ v,e=.returned v∧VR KM.empty w' O (encS (joinB l sep)) v∧Below w.heap.size w w':=fun ⟨he,hb⟩=>⟨_,he,.val _ rfl,hb⟩;generalize hL:l.map encS=L at h0
 cases h0 with
 | slnil n=>
   obtain rfl:l=[]:=List.map_eq_nil_iff.1 hL;exact (Any.strings_Join_none J1A J0X none 0 sep w).mono fun e w' ⟨he,hw⟩=>fin ⟨he,hw ▸ Below.refl _ _⟩
 | slemp n a=>
   obtain rfl:l=[]:=List.map_eq_nil_iff.1 hL;exact (Any.strings_Join_none J1A J0X (some a) 0 sep w).mono fun e w' ⟨he,hw⟩=>fin ⟨he,hw ▸ Below.refl _ _⟩
 | sl n xs c o cap f hcap hO' hblk hcl hcell hrel hpl=>
   subst hL;obtain ⟨A,e,z,hb,hs'⟩:=hblk
   have:=Any.strings_Join J1A J0X c o cap l sep w (fun j x hx=>by
    obtain ⟨hj,rfl⟩:=List.getElem?_eq_some_iff.1 hx;have h2:=hcell j (by simpa using hj) 0 Nat.one_pos;have h3:=hrel j (by simpa using hj) 0 (by simp[AV.cells,encS]);have e1:((l.map encS)[j]'(by simpa using hj)).cells[0]'(by simp[AV.cells,encS])=encS l[j]:=by simp[AV.cells,encS]
    rw[e1] at h3
    have h4:f j 0=.string l[j]:=by
     generalize f j 0=v at h3;cases h3;rfl
    rw[h4] at h2
    simpa using h2) (Array.getElem?_eq_some_iff.1 hb).1 (by omega) (by simpa using hcap) (by simpa [joinB,ByteArray.size] using hs)
   have hlm:(l.map encS).length=l.length:=List.length_map ..;rw[hlm];exact this.mono fun e w' h=>fin h
theorem JHa (s:ByteArray) (n:Nat) (hn:n≤2^62) (hs:s.size*n≤140737488355328):PureCall Tryz.prog 313 [encS s,encI n] (encS (repB s n)):=by
 intro O w vs hO hv;obtain ⟨hlen,hr⟩:=hv;obtain ⟨vl⟩:=vs
 rcases vl with _ | ⟨a,_ | ⟨b,_ | ⟨c,r⟩⟩⟩<;>simp at hlen
 have h0:=hr 0 (by simp) (by simp);have h1:=hr 1 (by simp) (by simp);simp only[List.getElem_cons_zero,List.getElem_cons_succ,List.getElem_toArray] at h0 h1;cases h0;cases h1;exact (Any.strings_Repeat JAz J2Y s n w (by omega) hs).mono fun e w' ⟨he,hb⟩=>⟨_,he,.val _ rfl,hb⟩
end Go.Proofs.YtlhdoekgipaihaaGreatDoor
namespace Go.Proofs.YtlhdoekgipaihaaGreatDoor
open Go Go.Fw
def JBX (o t:ByteArray) (n:Int) (rs:List ByteArray):ByteArray:=
 if o=oNum then t
 else if o=oVar then (if n=0 then b1 64++t else b1 64++t++b1 58++repB (b1 39) n.toNat)
 else if o=oPre then ⟨#[112,114,101,64]⟩++t
 else match rs with
  | []=>o
  | r::l=>o++b1 40++joinB (r::l) (b1 59)++b1 41
mutual
def showF:Ex→ByteArray
 | .mk o t n es=>JBX o t n (JKm es)
def JKm:List Ex→List ByteArray
 | []=>[]
 | e::es=>showF e::JKm es
end
theorem J9k:∀ es:List Ex,JKm es=es.map showF
 | []=>rfl
 | e::es=>by rw[List.map_cons,← J9k es];rfl
theorem J3n (e:Ex):showF e=JBX e.op e.text e.order (e.kids.map showF):=by
 cases e with
 | mk o t n es=>rw[← J9k];rfl
theorem J01 (a b:ByteArray):(a++b).size=a.size+b.size:=ByteArray.size_append
theorem J67 (s:ByteArray) (n:Nat):(repB s n).size=s.size*n:=by
 show (Lib.repeatL s.data.toList n).toArray.size=_
 rw[List.size_toArray]
 have:∀ n,(Lib.repeatL s.data.toList n).length=s.data.toList.length*n:=by
  intro n
  induction n with
  | zero=>rfl
  | succ n ih=>unfold Lib.repeatL;rw[List.length_append,ih,Nat.mul_succ];omega
 rw[this n,Array.length_toList];rfl
theorem J56 (sep:List UInt8):∀ r:List (List UInt8),(Lib.joinTail sep r).length=(r.map fun x=>sep.length+x.length).sum
 | []=>rfl
 | x::r=>by
   have:=J56 sep r;unfold Lib.joinTail at *;simp only[List.map_cons,List.flatten_cons,List.length_append,List.sum_cons,this]
def szB (l:List ByteArray):Nat:=(l.map ByteArray.size).sum
theorem J21 (l:List ByteArray) (sep:ByteArray):(joinB l sep).size≤szB l+l.length*sep.size:=by
 show (Lib.join _ _).toArray.size≤_
 cases l with
 | nil=>simp[Lib.join_nil]
 | cons x r=>
   rw[List.map_cons,Lib.join_cons,List.size_toArray,List.length_append,J56]
   have key:∀ r:List ByteArray,((r.map (·.data.toList)).map fun x=>sep.data.toList.length+x.length).sum≤szB r+r.length*sep.size:=by
    intro r
    induction r with
    | nil=>simp[szB]
    | cons y r ih=>
      unfold szB at *;simp only[List.map_cons,List.sum_cons,List.length_cons,Nat.succ_mul] at *;have e1:y.data.toList.length=y.size:=Array.length_toList;have e2:sep.data.toList.length=sep.size:=Array.length_toList;omega
   have:=key r;have e1:x.data.toList.length=x.size:=Array.length_toList;have e2:szB (x::r)=x.size+szB r:=rfl;rw[List.length_cons,Nat.succ_mul];omega
theorem JFR {es:List Ex} {C:Nat} (h:∀ k∈es,(showF k).size+1≤C*wtF k):szB (es.map showF)+es.length≤C*wtL es:=by
 induction es with
 | nil=>simp[szB]
 | cons e es ih=>
   have a:=h e (by simp);have b:=ih fun k hk=>h k (by simp[hk]);unfold szB at *;simp only[List.map_cons,List.sum_cons,List.length_cons] at *;unfold wtL;rw[Nat.mul_add];omega
theorem JBg {e:Ex} (hb:builtF e=true):e.op.size≤8:=by
 have hl:=(J0A hb).1;unfold J0S at hl;split at hl
 ·rename_i h;rcases h with h | h<;>rw[h]<;>decide
 ·split at hl
  ·rename_i h;rcases h with h | h<;>rw[h]<;>decide
  ·split at hl
   ·rename_i h;rw[h];decide
   ·split at hl
    ·omega
    ·rename_i x hx
     rcases JBW hx with h | ⟨h,_⟩ | ⟨h,_⟩ | ⟨h,_⟩ | ⟨h,_⟩ | ⟨h,_⟩ | ⟨h,_⟩ | ⟨h,_⟩ | ⟨h,_⟩
     ·rw[h];decide
     ·rcases h with h | h<;>rw[h]<;>decide
     ·rw[h];decide
     ·rcases h with h | h | h<;>rw[h]<;>decide
     ·rw[h];decide
     ·rw[h];decide
     ·rw[h];decide
     ·rcases h with h | h | h | h<;>rw[h]<;>decide
     ·rcases h with h | h | h | h<;>rw[h]<;>decide
theorem J8n {e:Ex} (hb:builtF e=true) (h:e.op=oVar):0≤e.order∧e.order≤6:=by
 have hx:textF e=true:=by rw[J10] at hb;simp only[Bool.and_eq_true] at hb;exact hb.1.1.2
 unfold textF at hx;rw[if_neg (by rw[h];decide),if_pos h] at hx;simp only[Bool.and_eq_true,decide_eq_true_eq] at hx;exact ⟨hx.1.2,hx.2⟩
theorem J4j (e:Ex):builtF e=true→TxE e→(showF e).size+1≤(2^21+20)*wtF e:=by
 induction e using J1m with
 | h e ih=>
   intro hb hx;have ihk:=fun k hk=>ih k hk ((J0A hb).2 k hk) (hx.kid k hk);have ht:=hx.low;have ho:=JBg hb;have hw:=J53 e;have hl:=J5o e.kids;rw[J3n];unfold JBX;have hsum:=JFR ihk;have e0:2^21+20≤(2^21+20)*wtF e:=Nat.le_mul_of_pos_right _ (by omega);split
   ·omega
   ·split
    ·rename_i h1;have:=J8n hb h1;split
     ·rw[J01];show 1+_+1≤_;omega
     ·rw[J01,J01,J01,J67];show 1+_+1+1*_+1≤_;omega
    ·split
     ·rw[J01];show 4+_+1≤_;omega
     ·split
      ·omega
      ·rename_i r l hrl;have:=J21 (r::l) (b1 59);rw[J01,J01,J01];have e1:(r::l).length=e.kids.length:=by rw[← hrl,List.length_map]
       rw[← hrl] at this ⊢;rw[List.length_map] at this;show _+1+_+1+1≤_
       have e3:(b1 59).size=1:=rfl;rw[e3] at this;have e4:(2^21+20)*wtF e=(2^21+20)*wtL e.kids+(2^21+20):=by rw[hw,Nat.mul_succ]
       omega
theorem JKv {b p e n:Nat} {H:Hp} {out:List ByteArray} (hb:H b=some (p,⟨e,1,out.map encS⟩)) (hn:n=out.length):snap [b] H (.own b p 0 n)=.sl 1 (out.map encS):=by
 rw[J2D (by simp) hb (by simp[hn]),J0m _ _ _ _ hn fun _=>rfl]
theorem J8e (e:Ex):SzE e→TxE e→builtF e=true→wtF e≤1000→PureCall Tryz.prog 216 [encE e] (encS (showF e)):=by
 induction e using J1m with
 | h e ih=>
   intro hz hx hb hw;have ihk:=fun k hk=>ih k hk (hz.kid k hk) (hx.kid k hk) ((J0A hb).2 k hk) (by have:=JEz hk;omega);have hwt:wtL e.kids≤1000:=by have:=J53 e;omega
   have hlen:e.kids.length≤1000:=Nat.le_trans (J5o _) hwt;have hsum:szB (e.kids.map showF)+e.kids.length≤(2^21+20)*1000:=Nat.le_trans (JFR fun k hk=>J4j k ((J0A hb).2 k hk) (hx.kid k hk)) (Nat.mul_le_mul_left _ hwt);have hord:=J8n hb;have htx:=hx.tx;have hos:=JBg hb;clear ih;refine PC [] Tryz.func216 rfl (by rfl) rfl ?_;generalize hF:showF e=F;rw[J3n] at hF;rw[J03];clear hz hx hb hw hwt;have z1:({ data:=#[64] }:ByteArray).size=1:=rfl;have z2:({ data:=#[112,114,101,64] }:ByteArray).size=4:=rfl;have z3:({ data:=#[58] }:ByteArray).size=1:=rfl;have z4:({ data:=#[40] }:ByteArray).size=1:=rfl;have z5:({ data:=#[41] }:ByteArray).size=1:=rfl;obtain ⟨o,t,od,es⟩:=e;simp only[Ex.op,Ex.text,Ex.order,Ex.kids] at *;unfold JBX at hF
   by_cases h1:o=oNum
   ·rw[if_pos h1] at hF;(refine kWS ?_;repeat intro γ);exact .of (by rw[← hF];rfl)
   rw[if_neg h1] at hF
   by_cases h2:o=oVar
   ·rw[if_pos h2] at hF
    by_cases h3:od=0
    ·rw[if_pos h3] at hF;(refine kWS ?_;repeat intro γ);exact .of (by rw[← hF];rfl)
    ·rw[if_neg h3] at hF;obtain ⟨ho1,ho2⟩:=hord h2;have hR:=JHa (b1 39) od.toNat (by omega) (by show 1*_≤_;omega);rw[show ((od.toNat:Nat):Int)=od by omega] at hR;have y1:=J01 { data:=#[64] } t;have y2:=J01 ({ data:=#[64] }++t) { data:=#[58] };have y3:=J67 (b1 39) od.toNat;have y4:(b1 39).size=1:=rfl;rw[y4] at y3;generalize repB (b1 39) od.toNat=rb at *;(refine kWS ?_;repeat intro γ);refine CallG.intro _ c313 hR ?_;(refine kWS ?_;repeat intro γ);exact .of (by rw[← hF];rfl)
   rw[if_neg h2] at hF
   by_cases h3:o=oPre
   ·rw[if_pos h3] at hF;(refine kWS ?_;repeat intro γ);exact .of (by rw[← hF];rfl)
   rw[if_neg h3] at hF;have hml:=@List.length_map _ _ es encE
   by_cases h4:es=[]
   ·subst h4;(refine kWS ?_;repeat intro γ);exact .of (by rw[← hF];rfl)
   have h5:¬ es.length=0:=fun h=>h4 (List.eq_nil_of_length_eq_zero h)
   replace hF:o++b1 40++joinB (es.map showF) (b1 59)++b1 41=F:=by
    rw[← hF]
    cases es with
    | nil=>exact absurd rfl h4
    | cons k r=>rfl
   (refine kWQ ?_;repeat intro γ)
   refine LoopP.intro (fun j σ H=>∃ g1 gl i,∃ l:List ByteArray,j=es.length-i∧i≤es.length∧l=(es.take i).map showF ∧
    σ=fr [(1,.op 1 g1 0 0),(3,.own 50 gl 0 l.length),(40,.sl 4 (es.map encE)),(41,encI es.length),(42,encI i)] ∧
    H=hp [(1,g1,⟨42,4,[.agg [encS o,encS t,encI od,.sl 4 (es.map encE)]]⟩),(50,gl,⟨9,1,l.map encS⟩)]) ?_ ?_
   ·exact .intro (J2r 3 50 9 1 rfl rfl fun gl=>W.of ⟨_,_,gl,0,[],rfl,Nat.zero_le _,rfl,rfl,rfl⟩ ⟨rfl,rfl,rfl,(by first | rfl | (rw[List.length_map];rfl)),rfl,trivial⟩ ⟨rfl,rfl,trivial⟩)
   ·rintro j σ H ⟨g1,gl,i,l,rfl,hi,rfl,rfl,rfl⟩;have hll:((es.take i).map showF).length=i:=by rw[List.length_map,List.length_take];omega
    rcases Nat.lt_or_ge i es.length with h9 | h9
    ·have hk:=ihk _ (List.getElem_mem h9);have htk:(es.take (i+1)).map showF=(es.take i).map showF++[showF es[i]]:=by rw[List.take_succ_eq_append_getElem h9,List.map_append];rfl
     obtain ⟨k,hkk⟩:∃ k,es[i]=k:=⟨_,rfl⟩;rw[hkk] at hk htk;rw[J03] at hk;generalize hL:(es.take i).map showF=l at *;have hml:=@List.length_map _ _ l encS;(refine kWQ ?_;repeat intro γ);simp only[hkk,J03];(refine kQ ?_;repeat intro γ);refine CallP.flat [] _ c216 hk rfl ?_;(refine kWQ ?_;repeat intro γ)
     refine .intro <| W.of ⟨_,by omega,g1,γ,i+1,l++[showF k],rfl,h9,htk.symm,rfl,rfl⟩ ⟨rfl,?_,rfl,rfl,rfl,trivial⟩ ⟨rfl,?_,trivial⟩
     ·exact congrArg (AV.own 50 _ 0) (by simp)
     ·rw[List.map_append];rfl
    ·obtain rfl:i=es.length:=by omega
     rw[List.take_length] at *;have hj:=J21 (es.map showF) (b1 59)
     have hJ:=JHf (es.map showF) (b1 59) (by rw[List.length_map];omega) (by
      refine Nat.le_trans hj ?_;rw[List.length_map];show szB _+es.length*1≤_
      omega)
     have x1:(joinB (es.map showF) (b1 59)).size≤2^46:=by
      refine Nat.le_trans hj ?_;rw[List.length_map];show szB _+es.length*1≤_
      omega
     have hls:(es.map showF).length=es.length:=List.length_map ..;generalize joinB (es.map showF) (b1 59)=jb at *;have y1:=J01 o { data:=#[40] };have y2:=J01 (o++{ data:=#[40] }) jb;have y3:=J01 (o++{ data:=#[40] }++jb) { data:=#[41] };(refine kWQ ?_;repeat intro γ);refine CallG.flat _ c312 (J0G (congrArg (fun z=>[z,encS (b1 59)]) (JKv rfl hls.symm)) hJ) rfl ?_;(refine kWQ ?_;repeat intro γ);exact .of (by rw[← hF];rfl)
def capE (g3 g5 g8 g9:Nat):List AV:=[.op 3 g3 0 0,.op 5 g5 0 0,.op 8 g8 0 0,.op 9 g9 0 0]
theorem J1X {S:List Nat} {H:Hp} {n b g k e m:Nat} {y:AV} (hS:b∈S) (hb:H b=some (g,⟨e,m,[y]⟩)):J08 S H (n+1) (.op b g 0 k)=.ep (J0b (J08 S H n) y) k:=by
 simp only[J08,if_pos hS,hb,true_and];rfl
theorem J8d {S:List Nat} {H:Hp} (n:Nat) (ks vs:List AV):J0b (J08 S H n) (.mp ks vs)=.mp ks vs:=by cases n<;>rfl
theorem JFV {S:List Nat} {H:Hp} (n:Nat) (x:AV) (k:Nat):J0b (J08 S H n) (.ep x k)=.ep x k:=by cases n<;>rfl
theorem JAJ {ks:List (ByteArray×Va)} {ev:Ev} {H:Hp} {g3 g5 g8 g9 a3 a5 a8 a9:Nat} (h3:H 3=some (g3,⟨a3,1,[encK ks]⟩)) (h5:H 5=some (g5,⟨a5,1,[J1B ev]⟩))
  (h8:H 8=some (g8,⟨a8,1,[.fn (.func 200) [] (capE g3 g5 g8 g9)]⟩)) (h9:H 9=some (g9,⟨a9,1,[wayM]⟩)) :
  ∀ n,J08 [3,5,8,9] H (2*n) (.fn (.func 200) [] (capE g3 g5 g8 g9))=evFn ks ev n
 | 0=>rfl
 | n+1=>by
   rw[show 2*(n+1)=2*n+1+1 by omega];show AV.fn _ [] [J08 _ _ (2*n+1) (.op 3 g3 0 0),J08 _ _ (2*n+1) (.op 5 g5 0 0),J08 _ _ (2*n+1) (.op 8 g8 0 0),J08 _ _ (2*n+1) (.op 9 g9 0 0)]=_
   rw[J1X (by simp) h3,J1X (by simp) h5,J1X (by simp) h8,J1X (by simp) h9];have:=JAJ h3 h5 h8 h9 n;unfold encK wayM J1B at *;rw[J8d,JFV,J8d];rw[show J0b (J08 [3,5,8,9] H (2*n)) (.fn (.func 200) [] (capE g3 g5 g8 g9))=evFn ks ev n from this];rfl
theorem JMc {ks:List (ByteArray×Va)} {ev:Ev} {H:Hp} {g3 g5 g8 g9 a3 a5 a8 a9:Nat} (h3:H 3=some (g3,⟨a3,1,[encK ks]⟩)) (h5:H 5=some (g5,⟨a5,1,[J1B ev]⟩))
  (h8:H 8=some (g8,⟨a8,1,[.fn (.func 200) [] (capE g3 g5 g8 g9)]⟩)) (h9:H 9=some (g9,⟨a9,1,[wayM]⟩)) (n:Nat) (o t:ByteArray) (d:Int) (l:List AV) :
  (.agg [encS o,encS t,encI d,.sl 4 l]::capE g3 g5 g8 g9).map (J3m (2*n+1) [3,5,8,9] H)=[.agg [encS o,encS t,encI d,.sl 4 l],.ep (encK ks) 0,.ep (J1B ev) 0,.ep (evFn ks ev n) 0,.ep wayM 0]:=by
 have:=JAJ h3 h5 h8 h9 n
 have d3:J3m (2*n+1) [3,5,8,9] H (.op 3 g3 0 0)=.ep (encK ks) 0:=by
  rw[show J3m (2*n+1) [3,5,8,9] H (.op 3 g3 0 0)=J08 [3,5,8,9] H (2*n+1) (.op 3 g3 0 0) from rfl,J1X (by simp) h3];unfold encK;rw[J8d]
 have d5:J3m (2*n+1) [3,5,8,9] H (.op 5 g5 0 0)=.ep (J1B ev) 0:=by
  rw[show J3m (2*n+1) [3,5,8,9] H (.op 5 g5 0 0)=J08 [3,5,8,9] H (2*n+1) (.op 5 g5 0 0) from rfl,J1X (by simp) h5];unfold J1B;rw[JFV]
 have d8:J3m (2*n+1) [3,5,8,9] H (.op 8 g8 0 0)=.ep (evFn ks ev n) 0:=by
  rw[show J3m (2*n+1) [3,5,8,9] H (.op 8 g8 0 0)=J08 [3,5,8,9] H (2*n+1) (.op 8 g8 0 0) from rfl,J1X (by simp) h8];exact congrArg (fun z=>AV.ep z 0) this
 have d9:J3m (2*n+1) [3,5,8,9] H (.op 9 g9 0 0)=.ep wayM 0:=by
  rw[show J3m (2*n+1) [3,5,8,9] H (.op 9 g9 0 0)=J08 [3,5,8,9] H (2*n+1) (.op 9 g9 0 0) from rfl,J1X (by simp) h9];unfold wayM;rw[J8d]
 unfold capE;simp only[List.map_cons,List.map_nil,d3,d5,d8,d9];rfl
theorem JM1 (ks:List (ByteArray×Va)) (ev:Ev) (he:EvOk ev) (e:Ex) (hz:SzE e) (hx:TxE e) (hb:builtF e=true) (ht:(typeF ks e).2=true) (hw:wtF e≤1000) :
  PureCall Tryz.prog 102 [encK ks,encE e,J1B ev] (J1s (evalF ks ev e)):=by
 refine PC [] Tryz.func102 rfl (by rfl) rfl ?_;have hc:=JJl ks ev he e hz hx hb ht hw (SizeOf.sizeOf e) (Nat.le_refl _);generalize evalF ks ev e=F at *;generalize SizeOf.sizeOf e=n at *;rw[J03] at hc ⊢;refine kWS ?_;intros;refine J00 [] _ c199 JKS ?_;refine kWS ?_;intros;refine JCC (2*n+1) [3,5,8,9] _ c200 (J0G (JMc rfl rfl rfl rfl n _ _ _ _) hc) ?_
 rcases F with c | q | b
 all_goals
  refine kWS ?_;intros;exact .of rfl
structure Bd where
 use:U
 value:ByteArray
structure EnvA where
 time:ByteArray
 init:Bool
 binds:List Bd
def JLU (b:Bd):AV:=.agg [.val (.string b.use.name),.val (.int .i64 b.use.order),.val (.bool b.use.pre),encS b.value]
def J1n (e:EnvA):AV:=.agg [encS e.time,encB e.init,.sl 4 (e.binds.map JLU)]
def valV (s:ByteArray):Option Vl:=if s=sTrue∨s=sFalse then some (.tr (decide (s=sTrue))) else if (J0C s.data.toList).2 then some (.num (numV s)) else none
theorem JFm {s:ByteArray} {v:Vl} (h:valV s=some v):resV s=.tup [J0I v,encB true]:=by
 unfold valV at h;unfold resV;split at h
 ·rename_i h1;cases h;rw[if_pos h1];rfl
 ·rename_i h1;rw[if_neg h1];split at h
  ·rename_i h2;cases h;rw[h2,← (J4p h2).1];rfl
  ·cases h
theorem JFn {s:ByteArray} (h:valV s=none):∃ q,(q=nilQ∨∃ n d,q=encQ n d)∧resV s=.tup [J15 q false false,encB false]:=by
 unfold valV at h;unfold resV;split at h
 ·cases h
 ·rename_i h1;rw[if_neg h1];split at h
  ·cases h
  ·rename_i h2;exact ⟨_,J1x _,by rw[Bool.eq_false_iff.2 h2]⟩
theorem JKY {s:ByteArray} {v:Vl} (h:valV s=some v):v.sz≤300:=by
 unfold valV at h;split at h
 ·cases h;exact Nat.zero_le _
 ·split at h
  ·rename_i h2;cases h;exact (J4p h2).2
  ·cases h
def putV {β:Type} (l:List (U×β)) (k:U) (v:β):List (U×β):=match l with
 | []=>[(k,v)]
 | x::r=>if k=x.1 then (x.1,v)::r else x::putV r k v
theorem J6B {β:Type} (f:β→AV) (k:U) (v:β):∀ l:List (U×β),∃ r,J14 (J0s T 46 (encU k)) (l.map fun x=>encU x.1)=some r∧(match r with
  | some i=>(l.map fun x=>encU x.1)=((putV l k v).map fun x=>encU x.1)∧(l.map fun x=>f x.2).set i (f v)=(putV l k v).map fun x=>f x.2
  | none=>(l.map fun x=>encU x.1)++[encU k]=((putV l k v).map fun x=>encU x.1)∧(l.map fun x=>f x.2)++[f v]=(putV l k v).map fun x=>f x.2)
 | []=>⟨none,rfl,rfl,rfl⟩
 | x :: l=>by
   obtain ⟨r,h1,h2⟩:=J6B f k v l;rw[List.map_cons,List.map_cons];unfold J14 putV;rw[JA6]
   by_cases h:k=x.1
   ·rw[decide_eq_true h,if_pos h];exact ⟨some 0,rfl,rfl,rfl⟩
   ·rw[decide_eq_false h,if_neg h,h1];refine ⟨r.map (· + 1),rfl,?_⟩
    revert h2
    cases r with
    | none=>
      rintro ⟨h2,h3⟩;exact ⟨by rw[List.map_cons,← h2];rfl,by rw[List.map_cons,← h3];rfl⟩
    | some i=>
      rintro ⟨h2,h3⟩;exact ⟨by rw[List.map_cons,← h2],by rw[List.map_cons,← h3];rfl⟩
def J8p:Option U→U→Bool
 | none,_=>false
 | some q,u=>decide (0≤JBl q u)
def J3U:Option U→List Bd→List (U×Vl)→Option (List (U×Vl))
 | _,[],l=>some l
 | p,b::r,l=>match valV b.value with
   | none=>none
   | some v=>if !fitF b.use||J8p p b.use then none else J3U (some b.use) r (putV l b.use v)
def openF (e:EnvA):Option Ev:=if (J0C e.time.data.toList).2 then (J3U none e.binds []).map fun l=>⟨numV e.time,e.init,l⟩ else none
def JIY (bs:List Bd) (i:Nat):Option U:=match i with
 | 0=>none
 | i+1=>bs[i]?.map Bd.use
def JLQ:Option Ev→AV
 | some ev=>.tup [J1B ev,encB true]
 | none=>.tup [.val (.pointer none),encB false]
def hpO1 (g1 g2 gm:Nat) (e:EnvA) (t:Rat) (l:List (U×Vl)):List (Nat×Nat×Blk):=
 [(1,g1,⟨50,3,[J1n e]⟩),(15,g2,⟨322,6,[.agg [encB (decide (t.num<0)),encW t.num.natAbs,encB (decide ((t.den:Int)<0)),encW (t.den:Int).natAbs,encB e.init,.om 13 gm]]⟩),(13,gm,⟨320,0,[.mp (l.map fun x=>encU x.1) (l.map fun x=>J0I x.2)]⟩)]
theorem J6W {u:U} (h:fitF u=true):0≤u.order∧u.order≤6:=by
 unfold fitF at h;simp only[Bool.and_eq_true,decide_eq_true_eq] at h;exact h.1.2
theorem JIP {S:List Nat} {H:Hp} {n b g e m:Nat} {ks vs:List AV} (hS:b∈S) (hb:H b=some (g,⟨e,m,[.mp ks vs]⟩)):J08 S H (n+1) (.om b g)=.mp ks vs:=by
 simp only[J08,if_pos hS,hb,if_true]
structure SzB (e:EnvA):Prop where
 t:e.time.size<2^35
 l:e.binds.length≤2^30
 b:∀ b∈e.binds,b.use.name.size<2^35∧b.value.size<2^35
theorem JLu (e:EnvA) (hz:SzB e):PureCall Tryz.prog 153 [J1n e] (JLQ (openF e)):=by
 refine PC [15,13] Tryz.func153 rfl (by rfl) rfl ?_;obtain ⟨tm,ini,bs⟩:=e;obtain ⟨hzt,hzl,hzb⟩:=hz;simp only at hzt hzl hzb;generalize hF:openF ⟨tm,ini,bs⟩=F;unfold openF at hF;have hpq:=J2s tm.data.toList hzt;rw[J1G,JCa] at hpq;simp only at hF
 cases hok:(J0C tm.data.toList).2 with
 | false=>
   rw[hok] at hF hpq;have hq2:=J1x (J0C tm.data.toList).1;generalize qAV (J0C tm.data.toList).1=q at *;unfold J1n
   rcases hq2 with rfl | ⟨n,d,rfl⟩
   all_goals
    refine kWS ?_;intros;refine J00 [] _ c113 hpq ?_;refine kWS ?_;intros;exact .of (by rw[← hF];rfl)
 | true=>
   rw[← (J4p hok).1,hok] at hpq;rw[hok] at hF;generalize numV tm=t at *;replace hF:(J3U none bs []).map (fun l=>(⟨t,ini,l⟩:Ev))=F:=hF;unfold encF encQ at hpq;unfold J1n;refine kWS ?_;intros;refine J00 [] _ c113 hpq ?_;refine kWS ?_;intros
   refine LoopP.intro (fun j σ H=>∃ g1 g2 gm i,∃ l:List (U×Vl),j=bs.length-i∧i≤bs.length∧(∀ k (h:k<bs.length),k<i→fitF bs[k].use=true)∧(J3U (JIY bs i) (bs.drop i) l).map (fun l=>(⟨t,ini,l⟩:Ev))=F ∧
    σ=fr [(1,.op 1 g1 0 0),(4,.op 15 g2 0 0),(29,.sl 4 (bs.map JLU)),(30,encI bs.length),(31,encI i)]∧H=hp (hpO1 g1 g2 gm ⟨tm,ini,bs⟩ t l)) ?_ ?_
   ·exact .intro <| W.of ⟨_,_,_,_,0,[],rfl,Nat.zero_le _,fun k _ h=>absurd h (by omega),hF,rfl,rfl⟩ ⟨rfl,rfl,rfl,(by rw[List.length_map];rfl),rfl,trivial⟩ ⟨rfl,rfl,rfl,trivial⟩
   ·clear hF;rintro j σ H ⟨g1,g2,gm,i,l,rfl,hi,hfit,hF,rfl,rfl⟩;unfold hpO1;simp only
    rcases Nat.lt_or_ge i bs.length with h9 | h9
    ·rw[List.drop_eq_getElem_cons h9] at hF;have hb:=hzb _ (List.getElem_mem h9)
     have hprev:JIY bs (i+1)=some bs[i].use:=by
      show bs[i]?.map Bd.use=some _
      rw[List.getElem?_eq_getElem h9];rfl
     have hfx:∀ k (h:k<bs.length),k<i+1→fitF bs[i].use=true→fitF bs[k].use=true:=by
      intro k h hk hc
      rcases Nat.lt_or_ge k i with h | h
      ·exact hfit k _ h
      ·obtain rfl:k=i:=by omega
       exact hc
     obtain ⟨b,hbb⟩:∃ b,bs[i]=b:=⟨_,rfl⟩;rw[hbb] at hF hb hprev hfx;have hV:=JB5 b.value hb.2;have hFit:=JMy b.use hb.1;unfold J3U at hF
     cases hv:valV b.value with
     | none=>
       rw[hv] at hF;obtain ⟨q,hq,he⟩:=JFn hv;rw[he] at hV
       rcases hq with rfl | ⟨n,d,rfl⟩
       all_goals
        refine kWQ ?_;intros;simp only[hbb];refine kQ ?_;intros;refine J00 [] _ c263 hV ?_;refine kWQ ?_;intros;exact .of (by rw[← hF];rfl)
     | some v=>
       rw[hv] at hF;rw[JFm hv] at hV;replace hF:(if !fitF b.use||J8p (JIY bs i) b.use then none else J3U (some b.use) (bs.drop (i+1)) (putV l b.use v)).map (fun l=>(⟨t,ini,l⟩:Ev))=F:=hF;have hb64:bs.length<2^62:=by omega
       rcases i with _ | i
       ·rcases v with q | x
        ·unfold J0I J15 encF encQ at hV;refine kWQ ?_;intros;simp only[hbb];refine kQ ?_;intros;refine J00 [] _ c263 hV ?_;refine kWQ ?_;intros;refine CallG.intro _ c50 hFit ?_
         cases hf:fitF b.use with
         | false=>
           rw[hf] at hF;refine kWQ ?_;intros;exact .of (by rw[← hF];rfl)
         | true=>
           rw[hf] at hF;replace hF:(J3U (some b.use) (bs.drop (0+1)) (putV l b.use (.num q))).map (fun l=>(⟨t,ini,l⟩:Ev))=F:=hF;refine kWO ?_;intros;refine J0x [(7,false),(8,true)] (by kernel_rfl) ?_;refine kWQ ?_;intros;refine Need.intro keyst46 ?_;refine kWQ ?_;intros;obtain ⟨r,hr,hm⟩:=J6B J0I b.use (.num q) l;refine LookP.intro r hr ?_
           cases r with
           | some j=>
             refine kWQ ?_;intros
             refine .intro <| W.of ⟨_,by omega,g1,g2,gm,0+1,putV l b.use (.num q),rfl,h9,fun k h hk=>hfx k h hk hf,(by rw[hprev];exact hF),rfl,rfl⟩ ⟨rfl,rfl,rfl,rfl,rfl,trivial⟩ ⟨rfl,rfl,?_,trivial⟩
             exact congrArg (fun z=>some (gm,(⟨320,0,[z]⟩:Blk))) (congr (congrArg AV.mp hm.1) hm.2)
           | none=>
             refine kWQ ?_;intros
             refine .intro <| W.of ⟨_,by omega,g1,g2,gm,0+1,putV l b.use (.num q),rfl,h9,fun k h hk=>hfx k h hk hf,(by rw[hprev];exact hF),rfl,rfl⟩ ⟨rfl,rfl,rfl,rfl,rfl,trivial⟩ ⟨rfl,rfl,?_,trivial⟩
             exact congrArg (fun z=>some (gm,(⟨320,0,[z]⟩:Blk))) (congr (congrArg AV.mp hm.1) hm.2)
        ·unfold J0I J15 at hV;refine kWQ ?_;intros;simp only[hbb];refine kQ ?_;intros;refine J00 [] _ c263 hV ?_;refine kWQ ?_;intros;refine CallG.intro _ c50 hFit ?_
         cases hf:fitF b.use with
         | false=>
           rw[hf] at hF;refine kWQ ?_;intros;exact .of (by rw[← hF];rfl)
         | true=>
           rw[hf] at hF;replace hF:(J3U (some b.use) (bs.drop (0+1)) (putV l b.use (.tr x))).map (fun l=>(⟨t,ini,l⟩:Ev))=F:=hF;refine kWO ?_;intros;refine J0x [(7,false),(8,true)] (by kernel_rfl) ?_;refine kWQ ?_;intros;refine Need.intro keyst46 ?_;refine kWQ ?_;intros;obtain ⟨r,hr,hm⟩:=J6B J0I b.use (.tr x) l;refine LookP.intro r hr ?_
           cases r with
           | some j=>
             refine kWQ ?_;intros
             refine .intro <| W.of ⟨_,by omega,g1,g2,gm,0+1,putV l b.use (.tr x),rfl,h9,fun k h hk=>hfx k h hk hf,(by rw[hprev];exact hF),rfl,rfl⟩ ⟨rfl,rfl,rfl,rfl,rfl,trivial⟩ ⟨rfl,rfl,?_,trivial⟩
             exact congrArg (fun z=>some (gm,(⟨320,0,[z]⟩:Blk))) (congr (congrArg AV.mp hm.1) hm.2)
           | none=>
             refine kWQ ?_;intros
             refine .intro <| W.of ⟨_,by omega,g1,g2,gm,0+1,putV l b.use (.tr x),rfl,h9,fun k h hk=>hfx k h hk hf,(by rw[hprev];exact hF),rfl,rfl⟩ ⟨rfl,rfl,rfl,rfl,rfl,trivial⟩ ⟨rfl,rfl,?_,trivial⟩
             exact congrArg (fun z=>some (gm,(⟨320,0,[z]⟩:Blk))) (congr (congrArg AV.mp hm.1) hm.2)
       ·have h8 : i<bs.length:=by omega
        have hpv:JIY bs (i+1)=some bs[i].use:=by
         show bs[i]?.map Bd.use=some _
         rw[List.getElem?_eq_getElem h8];rfl
        have hfp:=J6W (hfit i h8 (by omega));rw[hpv] at hF;have hix:(((i+1:Nat):Int)-1).toNat=i:=by omega
        obtain ⟨pb,hpb⟩:∃ pb,bs[i]=pb:=⟨_,rfl⟩;rw[hpb] at hF hpv hfp;have hL:=JLz pb.use b.use hfp
        rcases v with q | x
        ·unfold J0I J15 encF encQ at hV;refine kWQ ?_;intros;simp only[hbb];refine kQ ?_;intros;refine J00 [] _ c263 hV ?_;refine kWQ ?_;intros;refine CallG.intro _ c50 hFit ?_
         cases hf:fitF b.use with
         | false=>
           rw[hf] at hF;refine kWQ ?_;intros;exact .of (by rw[← hF];rfl)
         | true=>
           rw[hf] at hF;have hL:=hL (J6W hf);refine kWQ ?_;intros;simp only[hix,hpb];refine CallG.intro _ c51 hL ?_
           cases hge:J8p (some pb.use) b.use with
           | true=>
             rw[hge] at hF;have hle:0≤JBl pb.use b.use:=of_decide_eq_true hge;refine kWQ ?_;intros;exact .of (by rw[← hF];rfl)
           | false=>
             rw[hge] at hF;have hle:¬ 0≤JBl pb.use b.use:=of_decide_eq_false hge;replace hF:(J3U (some b.use) (bs.drop (i+1+1)) (putV l b.use (.num q))).map (fun l=>(⟨t,ini,l⟩:Ev))=F:=hF;refine kWO ?_;intros;refine J0x [(7,false),(8,true)] (by kernel_rfl) ?_;refine kWQ ?_;intros;refine Need.intro keyst46 ?_;refine kWQ ?_;intros;obtain ⟨r,hr,hm⟩:=J6B J0I b.use (.num q) l;refine LookP.intro r hr ?_
             cases r with
             | some j=>
               refine kWQ ?_;intros
               refine .intro <| W.of ⟨_,by omega,g1,g2,gm,i+1+1,putV l b.use (.num q),rfl,h9,fun k h hk=>hfx k h hk hf,(by rw[hprev];exact hF),rfl,rfl⟩ ⟨rfl,rfl,rfl,rfl,rfl,trivial⟩ ⟨rfl,rfl,?_,trivial⟩
               exact congrArg (fun z=>some (gm,(⟨320,0,[z]⟩:Blk))) (congr (congrArg AV.mp hm.1) hm.2)
             | none=>
               refine kWQ ?_;intros
               refine .intro <| W.of ⟨_,by omega,g1,g2,gm,i+1+1,putV l b.use (.num q),rfl,h9,fun k h hk=>hfx k h hk hf,(by rw[hprev];exact hF),rfl,rfl⟩ ⟨rfl,rfl,rfl,rfl,rfl,trivial⟩ ⟨rfl,rfl,?_,trivial⟩
               exact congrArg (fun z=>some (gm,(⟨320,0,[z]⟩:Blk))) (congr (congrArg AV.mp hm.1) hm.2)
        ·unfold J0I J15 at hV;refine kWQ ?_;intros;simp only[hbb];refine kQ ?_;intros;refine J00 [] _ c263 hV ?_;refine kWQ ?_;intros;refine CallG.intro _ c50 hFit ?_
         cases hf:fitF b.use with
         | false=>
           rw[hf] at hF;refine kWQ ?_;intros;exact .of (by rw[← hF];rfl)
         | true=>
           rw[hf] at hF;have hL:=hL (J6W hf);refine kWQ ?_;intros;simp only[hix,hpb];refine CallG.intro _ c51 hL ?_
           cases hge:J8p (some pb.use) b.use with
           | true=>
             rw[hge] at hF;have hle:0≤JBl pb.use b.use:=of_decide_eq_true hge;refine kWQ ?_;intros;exact .of (by rw[← hF];rfl)
           | false=>
             rw[hge] at hF;have hle:¬ 0≤JBl pb.use b.use:=of_decide_eq_false hge;replace hF:(J3U (some b.use) (bs.drop (i+1+1)) (putV l b.use (.tr x))).map (fun l=>(⟨t,ini,l⟩:Ev))=F:=hF;refine kWO ?_;intros;refine J0x [(7,false),(8,true)] (by kernel_rfl) ?_;refine kWQ ?_;intros;refine Need.intro keyst46 ?_;refine kWQ ?_;intros;obtain ⟨r,hr,hm⟩:=J6B J0I b.use (.tr x) l;refine LookP.intro r hr ?_
             cases r with
             | some j=>
               refine kWQ ?_;intros
               refine .intro <| W.of ⟨_,by omega,g1,g2,gm,i+1+1,putV l b.use (.tr x),rfl,h9,fun k h hk=>hfx k h hk hf,(by rw[hprev];exact hF),rfl,rfl⟩ ⟨rfl,rfl,rfl,rfl,rfl,trivial⟩ ⟨rfl,rfl,?_,trivial⟩
               exact congrArg (fun z=>some (gm,(⟨320,0,[z]⟩:Blk))) (congr (congrArg AV.mp hm.1) hm.2)
             | none=>
               refine kWQ ?_;intros
               refine .intro <| W.of ⟨_,by omega,g1,g2,gm,i+1+1,putV l b.use (.tr x),rfl,h9,fun k h hk=>hfx k h hk hf,(by rw[hprev];exact hF),rfl,rfl⟩ ⟨rfl,rfl,rfl,rfl,rfl,trivial⟩ ⟨rfl,rfl,?_,trivial⟩
               exact congrArg (fun z=>some (gm,(⟨320,0,[z]⟩:Blk))) (congr (congrArg AV.mp hm.1) hm.2)
    ·obtain rfl:i=bs.length:=by omega
     rw[List.drop_length] at hF;replace hF:some (⟨t,ini,l⟩:Ev)=F:=by rw[← hF];unfold J3U;rfl
     refine kWQ ?_;intros;refine .of ?_;rw[← hF];refine (congrArg (fun z=>AV.tup [z,encB true]) ((J1X (by simp) rfl).trans ?_));show AV.ep (.agg [_,_,_,_,_,J08 [15,13] _ 2 (.om 13 gm)]) 0=_
     rw[JIP (by simp) rfl];rfl
theorem JCc {u:U} {v:Vl}:∀ {l:List (U×Vl)} {x:U×Vl},x∈putV l u v→x.2=v∨x∈l
 | [],x,h=>by simp only[putV,List.mem_cons,List.not_mem_nil,or_false] at h;subst h;exact .inl rfl
 | y :: l,x,h=>by
   unfold putV at h;split at h
   ·rcases List.mem_cons.1 h with rfl | h
    ·exact .inl rfl
    ·exact .inr (List.mem_cons_of_mem _ h)
   ·rcases List.mem_cons.1 h with rfl | h
    ·exact .inr List.mem_cons_self
    ·rcases JCc h with h | h
     ·exact .inl h
     ·exact .inr (List.mem_cons_of_mem _ h)
theorem JCi:∀ {bs:List Bd} {p:Option U} {l r:List (U×Vl)},J3U p bs l=some r→(∀ x∈l,x.2.sz≤300)→∀ x∈r,x.2.sz≤300
 | [],p,l,r,h,hl=>by unfold J3U at h;cases h;exact hl
 | b :: bs,p,l,r,h,hl=>by
   unfold J3U at h;split at h
   ·cases h
   ·rename_i v hv;split at h
    ·cases h
    ·refine JCi h fun x hx=>?_
     rcases JCc hx with e | hx
     ·rw[e];exact JKY hv
     ·exact hl x hx
theorem JIf {e:EnvA} {ev:Ev} (h:openF e=some ev):EvOk ev:=by
 unfold openF at h;split at h
 ·rename_i h1
  cases ho:J3U none e.binds [] with
  | none=>rw[ho] at h;cases h
  | some l=>
    rw[ho] at h;cases h;exact ⟨(J4p h1).2,JCi ho fun x hx=>by cases hx⟩
 ·cases h
def openS (e:EnvA):Except Int Ev:=if 1000<e.binds.length then .error 2 else match openF e with
 | none=>.error 1
 | some ev=>.ok ev
def JNH:Except Int Ev→AV
 | .ok ev=>.tup [J1B ev,encI 0]
 | .error c=>.tup [.val (.pointer none),encI c]
theorem JJi (e:EnvA) (hz:SzB e):PureCall Tryz.prog 76 [J1n e] (JNH (openS e)):=by
 refine PC [] Tryz.func76 rfl (by rfl) rfl ?_;have ho:=JLu e hz;have hl:=hz.l;generalize hF:openS e=F;unfold openS at hF;generalize openF e=oe at *;unfold J1n at *;have hml:=@List.length_map _ _ e.binds JLU;refine kWQ ?_;intros;refine CondP.dec (fun h1=>?_) (fun h1=>?_)<;>refine kW ?_
 ·rw[if_pos (by first | omega | (rw[List.length_map] at h1;omega))] at hF;refine kQ ?_;intros;exact .of (by rw[← hF];rfl)
 ·rw[if_neg (by first | omega | (rw[List.length_map] at h1;omega))] at hF;refine kQ ?_;intros;refine J00 [] _ c153 ho ?_
  cases oe with
  | none=>
    refine kWQ ?_;intros;exact .of (by rw[← hF];rfl)
  | some ev=>
    refine kWQ ?_;intros;exact .of (by rw[← hF];rfl)
def typeS (s:Sys) (x:Ex):Int×Int:=if checkF s≠0 then (0,checkF s) else if tooF x then (0,2) else if !builtF x then (0,1) else if (typeF (knownF s.vars) x).2 then ((typeF (knownF s.vars) x).1,0) else (0,1)
theorem JJe (s:Sys) (x:Ex) (hs:SzS s) (hz:SzE x) (hx:TxE x):PureCall Tryz.prog 44 [J0M s,encE x] (.tup [encI (typeS s x).1,encI (typeS s x).2]):=by
 refine PC [] Tryz.func44 rfl (by rfl) rfl ?_;have hc:=JDM s hs;have ht:=J79 x hz;have hb:=JDN x hz hx;have hk:=J8u s hs.v;have hT:=JHT (knownF s.vars) x hz;generalize hF:typeS s x=F;unfold typeS at hF;generalize checkF s=ck at *;generalize tooF x=tl at *;generalize typeF (knownF s.vars) x=ty at *;generalize knownF s.vars=ks at *;obtain ⟨vs,qs,ns,ws⟩:=s;rw[J03] at *;unfold J0M at *;simp only at *;refine kWQ ?_;intros;refine CallP.flat [] _ c36 hc rfl ?_
 by_cases h0:ck=0
 case' neg=>
  rw[if_pos h0] at hF;refine kWQ ?_;intros;exact .of (by rw[← hF];rfl)
 rw[if_neg (by simp[h0])] at hF;refine kWQ ?_;intros;refine CallP.flat [] _ c110 ht rfl ?_
 cases tl with
 | true=>
   refine kWQ ?_;intros;exact .of (by rw[← hF];rfl)
 | false=>
   refine kWQ ?_;intros;refine CallP.flat [] _ c111 hb rfl ?_
   cases hbb:builtF x with
   | false=>
     rw[hbb] at hF;refine kWQ ?_;intros;exact .of (by rw[← hF];rfl)
   | true=>
     rw[hbb] at hF;have hT:=hT hbb;obtain ⟨t,b⟩:=ty;refine kWQ ?_;intros;refine CallG.intro _ c101 hk ?_;refine kWQ ?_;intros;refine CallG.intro _ c112 hT ?_
     cases b with
     | false=>
       refine kWQ ?_;intros;exact .of (by rw[← hF];rfl)
     | true=>
       refine kWQ ?_;intros;exact .of (by rw[← hF];rfl)
theorem JIF {s:Sys} {x:Ex} (h:(typeS s x).2=0):checkF s=0∧tooF x=false∧builtF x=true∧(typeF (knownF s.vars) x).2=true∧(typeS s x).1=(typeF (knownF s.vars) x).1:=by
 unfold typeS at *;split at h
 ·rename_i h1;exact absurd h h1
 ·rename_i h1;split at h
  ·cases h
  ·rename_i h2;split at h
   ·cases h
   ·rename_i h3;split at h
    ·rename_i h4;refine ⟨Classical.not_not.1 h1,Bool.eq_false_iff.2 h2,by simpa using h3,h4,?_⟩;rw[if_neg h1,if_neg h2,if_neg h3,if_pos h4]
    ·cases h
theorem JFL {x:Ex} (h:tooF x=false):wtF x≤200:=by
 unfold tooF at h;have h1:=of_decide_eq_false h;have:=JCk 24 x 200;omega
def outV:Except Int Vl→ByteArray×Int
 | .error c=>(⟨#[]⟩,c)
 | .ok v=>if shortV v then (strV v,0) else (⟨#[]⟩,2)
def JEF (s:Sys) (x:Ex) (e:EnvA):ByteArray×Int:=if (typeS s x).2≠0 then (⟨#[]⟩,(typeS s x).2) else match openS e with
 | .error c=>(⟨#[]⟩,c)
 | .ok ev=>outV (evalF (knownF s.vars) ev x)
def JNG (p:ByteArray×Int):AV:=.tup [encS p.1,encI p.2]
theorem JIe {e:EnvA} {ev:Ev} (h:openS e=.ok ev):EvOk ev:=by
 unfold openS at h;split at h
 ·cases h
 ·split at h
  ·cases h
  ·rename_i ev' h';cases h;exact JIf h'
theorem JFy {e:EnvA} {c:Int} (h:openS e=.error c):c=1∨c=2:=by
 unfold openS at h;split at h
 ·cases h;exact .inr rfl
 ·split at h
  ·cases h;exact .inl rfl
  ·cases h
theorem J9X (s:Sys) (x:Ex) (e:EnvA) (hs:SzS s) (hz:SzE x) (hx:TxE x) (he:SzB e):PureCall Tryz.prog 39 [J0M s,encE x,J1n e] (JNG (JEF s x e)):=by
 refine PC [] Tryz.func39 rfl (by rfl) rfl ?_;have hT:=JJe s x hs hz hx;have hO:=JJi e he;have hk:=J8u s hs.v;generalize hF:JEF s x e=F;unfold JEF at hF;have hty:=@JIF s x;have hev:=@JIe e;have her:=@JFy e;generalize typeS s x=ty at *;obtain ⟨t,c⟩:=ty;generalize hks:knownF s.vars=ks at *;obtain ⟨vs,qs,ns,ws⟩:=s;generalize openS e=oe at *;have hE:=fun ev he hb ht hw=>JM1 ks ev he x hz hx hb ht hw;have hsz:=fun ev he hb v h=>@JD1 ks ev he x hb v h;have hec:=fun ev hb ht c h=>@JAH ks ev x hb ht c h;rw[J03] at *;unfold J0M J1n at *;simp only at *;refine kWQ ?_;intros;refine J00 [] _ c44 hT ?_
 by_cases h0:c=0
 case' neg=>
  rw[if_pos h0] at hF;refine kWQ ?_;intros;exact .of (by rw[← hF];rfl)
 subst h0;rw[if_neg (by simp)] at hF;obtain ⟨hck,htl,hbb,htt,_⟩:=hty rfl;have hwt:=JFL htl;refine kWQ ?_;intros;refine J00 [] _ c76 hO ?_
 cases oe with
 | error c=>
   have hc:¬ c=0:=by rcases her rfl with rfl | rfl<;>decide
   refine kWQ ?_;intros;exact .of (by rw[← hF];rfl)
 | ok ev =>
   have hev:=hev rfl;have hE:=hE ev hev hbb htt (by omega);have hsz:=hsz ev hev hbb;have hec:=hec ev hbb htt;replace hF:outV (evalF ks ev x)=F:=hF;generalize evalF ks ev x=r at *;refine kWQ ?_;intros;refine CallG.intro _ c101 hk ?_;refine kWQ ?_;intros;refine CallG.intro _ c102 hE ?_
   cases r with
   | error c=>
     have hc:=(hec c rfl).ne;refine kWQ ?_;intros;exact .of (by rw[← hF];rfl)
   | ok v=>
     have hsz:=hsz v rfl;have hS:=JHY v (by omega);have hR:=JEU v (by omega);replace hF:(if shortV v then (strV v,0) else (⟨#[]⟩,2))=F:=hF;generalize shortV v=sv at *;generalize strV v=str at *
     rcases v with q | b
     all_goals
      unfold J0I J15 at hS hR
      try unfold encF encQ at hS hR
      unfold J1s J0I J15
      try unfold encF encQ
      refine kWQ ?_;intros;refine CallP.flat [] _ c103 hS rfl ?_
      cases sv with
      | false=>
        refine kWQ ?_;intros;exact .of (by rw[← hF];rfl)
      | true=>
        refine kWQ ?_;intros;refine CallP.flat [] _ c104 hR rfl ?_;refine kWQ ?_;intros;exact .of (by rw[← hF];rfl)
def wKind:List ByteArray:=[⟨#[99,111,110,116,105,110,117,111,117,115]⟩,⟨#[100,105,115,99,114,101,116,101]⟩,⟨#[112,97,114,97,109]⟩,⟨#[105,110,112,117,116]⟩]
def wType:List ByteArray:=[⟨#[110,117,109,98,101,114]⟩,⟨#[116,114,117,116,104]⟩]
def wAct:List ByteArray:=[⟨#[97,115,115,105,103,110]⟩,⟨#[114,101,105,110,105,116]⟩]
theorem JIq:PureCall Tryz.prog 309 [] (.sl 1 (wKind.map encS)):=by
 exact J1E J7T (fuel:=60) (n:=3) (by kernel_rfl)
theorem JIE:PureCall Tryz.prog 310 [] (.sl 1 (wType.map encS)):=by
 exact J1E J7T (fuel:=60) (n:=3) (by kernel_rfl)
theorem JLo:PureCall Tryz.prog 217 [] (.sl 1 (wAct.map encS)):=by
 exact J1E J7T (fuel:=60) (n:=3) (by kernel_rfl)
def addW (w s:ByteArray) (l:List ByteArray):List ByteArray:=if s=⟨#[]⟩ then l else l++[w++s]
theorem J8t (w s:ByteArray) (l:List ByteArray) (g g1:Nat) (hl:l.length≤1000) (hw:w.size≤2^40) (hs:s.size≤2^40) :
  HCall Tryz.prog 311 [encS w,encS s,.op 50 g 0 0] (hp [(50,g,⟨28,1,[.own 51 g1 0 l.length]⟩),(51,g1,⟨9,1,l.map encS⟩)])
   (fun r h=>r=.tup []∧∃ g',h=hp [(50,g,⟨28,1,[.own 51 g' 0 (addW w s l).length]⟩),(51,g',⟨9,1,(addW w s l).map encS⟩)]):=by
 refine J35 (E:=E 0) J5k (JM3 0) Tryz.func311 rfl (by rfl) (Nat.le_of_ble_eq_true rfl) ?_;have hml:=@List.length_map _ _ l encS;have y1:=J01 w s;generalize hF:addW w s l=F;unfold addW at hF;(refine kWQ ?_;repeat intro γ);refine CondP.dec (fun h1=>?_) (fun h1=>?_)<;>refine kW ?_
 ·rw[if_pos h1] at hF;(refine kQ ?_;repeat intro γ);refine EndH.of (m:=[(50,g,⟨28,1,[.own 51 g1 0 l.length]⟩),(51,g1,⟨9,1,l.map encS⟩)]) ⟨rfl,rfl,trivial⟩ ⟨rfl,g1,?_⟩;rw[← hF]
 ·rw[if_neg h1] at hF;(refine kQ ?_;repeat intro γ);refine EndH.of (m:=[(50,g,⟨28,1,[.own 51 γ 0 (l.length+1)]⟩),(51,γ,⟨9,1,l.map encS++[encS (w++s)]⟩)]) ⟨rfl,rfl,trivial⟩ ⟨rfl,γ,?_⟩;rw[← hF,List.map_append,List.length_append];rfl
def J5K (v:Va):List ByteArray:=
 addW ⟨#[117,110,105,116,61]⟩ v.unit ((fun l=>if v.fixed then l++[⟨#[102,105,120,101,100]⟩] else l) (addW ⟨#[115,116,97,114,116,61]⟩ v.start (addW ⟨#[118,97,108,117,101,61]⟩ v.value
  [⟨#[118,97,114]⟩,v.name,wKind.getD v.kind.toNat ⟨#[]⟩,wType.getD v.type.toNat ⟨#[]⟩])))
def lineF (v:Va):ByteArray:=joinB (J5K v) (b1 32)++b1 10
theorem J3G (w s:ByteArray) (l:List ByteArray):(addW w s l).length≤l.length+1:=by
 unfold addW;split
 ·omega
 ·simp
theorem J8c (a b:List ByteArray):szB (a++b)=szB a+szB b:=by unfold szB;rw[List.map_append,List.sum_append]
theorem JC7 (w s:ByteArray) (l:List ByteArray):szB (addW w s l)≤szB l+w.size+s.size:=by
 unfold addW;split
 ·omega
 ·rw[J8c];unfold szB;simp only[List.map_cons,List.map_nil,List.sum_cons,List.sum_nil,J01];omega
theorem JCn (v:Va) (h:v.name.size<2^35∧v.value.size<2^35∧v.start.size<2^35∧v.unit.size<2^35):(J5K v).length≤8∧szB (J5K v)≤2^37+300:=by
 unfold J5K;generalize hA:addW ⟨#[118,97,108,117,101,61]⟩ v.value _=A;have a1:=J3G ⟨#[118,97,108,117,101,61]⟩ v.value [⟨#[118,97,114]⟩,v.name,wKind.getD v.kind.toNat ⟨#[]⟩,wType.getD v.type.toNat ⟨#[]⟩];have a2:=JC7 ⟨#[118,97,108,117,101,61]⟩ v.value [⟨#[118,97,114]⟩,v.name,wKind.getD v.kind.toNat ⟨#[]⟩,wType.getD v.type.toNat ⟨#[]⟩];rw[hA] at a1 a2
 have k1:∀ n:Nat,(wKind.getD n ⟨#[]⟩).size≤10:=by
  intro n
  match n with
  | 0=>decide
  | 1=>decide
  | 2=>decide
  | 3=>decide
  | n+4=>exact Nat.zero_le _
 have k2:∀ n:Nat,(wType.getD n ⟨#[]⟩).size≤10:=by
  intro n
  match n with
  | 0=>decide
  | 1=>decide
  | n+2=>exact Nat.zero_le _
 have k1:=k1 v.kind.toNat;have k2:=k2 v.type.toNat;have a3:szB [⟨#[118,97,114]⟩,v.name,wKind.getD v.kind.toNat ⟨#[]⟩,wType.getD v.type.toNat ⟨#[]⟩]=3+(v.name.size+((wKind.getD v.kind.toNat ⟨#[]⟩).size+((wType.getD v.type.toNat ⟨#[]⟩).size+0))):=rfl;have a4:(⟨#[118,97,108,117,101,61]⟩:ByteArray).size=6:=rfl;generalize hB:addW ⟨#[115,116,97,114,116,61]⟩ v.start A=B;have b1:=J3G ⟨#[115,116,97,114,116,61]⟩ v.start A;have b2:=JC7 ⟨#[115,116,97,114,116,61]⟩ v.start A;have b4:(⟨#[115,116,97,114,116,61]⟩:ByteArray).size=6:=rfl;rw[hB] at b1 b2
 have c0:(if v.fixed=true then B++[⟨#[102,105,120,101,100]⟩] else B).length≤B.length+1∧szB (if v.fixed=true then B++[⟨#[102,105,120,101,100]⟩] else B)≤szB B+5:=by
  split
  ·rw[J8c,List.length_append];exact ⟨Nat.le_refl _,Nat.le_refl _⟩
  ·exact ⟨by omega,by omega⟩
 show (addW _ v.unit (if v.fixed=true then B++[⟨#[102,105,120,101,100]⟩] else B)).length≤8∧szB (addW _ v.unit (if v.fixed=true then B++[⟨#[102,105,120,101,100]⟩] else B))≤2^37+300
 generalize (if v.fixed=true then B++[⟨#[102,105,120,101,100]⟩] else B)=C at *;have d1:=J3G ⟨#[117,110,105,116,61]⟩ v.unit C;have d2:=JC7 ⟨#[117,110,105,116,61]⟩ v.unit C;have d4:(⟨#[117,110,105,116,61]⟩:ByteArray).size=5:=rfl;simp only[List.length_cons,List.length_nil] at a1;exact ⟨by omega,by omega⟩
def hpL (g1 g3 gl:Nat) (v:Va) (l:List ByteArray):List (Nat×Nat×Blk):=[(1,g1,⟨83,7,[encV v]⟩),(3,g3,⟨28,1,[.own 17 gl 0 l.length]⟩),(17,gl,⟨9,1,l.map encS⟩)]
theorem JL5 (v:Va) (h:v.name.size<2^35∧v.value.size<2^35∧v.start.size<2^35∧v.unit.size<2^35) (hk:0≤v.kind∧v.kind≤3) (ht:0≤v.type∧v.type≤1):PureCall Tryz.prog 214 [encV v] (encS (lineF v)):=by
 refine PC [] Tryz.func214 rfl (by rfl) rfl ?_;obtain ⟨hL1,hL2⟩:=JCn v h;have hj:=J21 (J5K v) (b1 32);have h32:(b1 32).size=1:=rfl;rw[h32] at hj;have hJ:=JHf (J5K v) (b1 32) (by omega) (by omega);generalize hF:lineF v=F;unfold lineF at hF;have hLL:J5K v=J5K v:=rfl;generalize hL:J5K v=L at *;have y1:=J01 (joinB L (b1 32)) { data:=#[10] };have y2:({ data:=#[10] }:ByteArray).size=1:=rfl;have hs1:(joinB L (b1 32)).size≤2^40:=by omega
 generalize joinB L (b1 32)=jb at *;clear hLL hj;unfold J5K at hL;obtain ⟨nm,kd,ty,vl,st,fx,un⟩:=v;simp only at *
 have gk:(wKind.map encS).getD kd.toNat .dead=encS (wKind.getD kd.toNat ⟨#[]⟩):=by
  have:kd.toNat<wKind.length:=by show _<4;omega
  rw[List.getD_eq_getElem?_getD,List.getElem?_map,List.getD_eq_getElem?_getD,List.getElem?_eq_getElem this];rfl
 have gt:(wType.map encS).getD ty.toNat .dead=encS (wType.getD ty.toNat ⟨#[]⟩):=by
  have:ty.toNat<wType.length:=by show _<2;omega
  rw[List.getD_eq_getElem?_getD,List.getElem?_map,List.getD_eq_getElem?_getD,List.getElem?_eq_getElem this];rfl
 have lk:(wKind.map encS).length=4:=rfl;have lt:(wType.map encS).length=2:=rfl;have hKW:=JIq;have hTW:=JIE;generalize wKind.map encS=ks at *;generalize wType.map encS=ts at *;generalize wKind.getD kd.toNat ⟨#[]⟩=wk at *;generalize wType.getD ty.toNat ⟨#[]⟩=wt at *;unfold encV;simp only;(refine kWQ ?_;repeat intro γ);refine CallG.intro _ c309 hKW ?_;(refine kWQ ?_;repeat intro γ);rw[gk];(refine kWQ ?_;repeat intro γ);refine CallG.intro _ c310 hTW ?_;(refine kWQ ?_;repeat intro γ);rw[gt];(refine kWQ ?_;repeat intro γ);have z1:({ data:=#[118,97,108,117,101,61] }:ByteArray).size≤2^40:=by decide
 have z2:({ data:=#[115,116,97,114,116,61] }:ByteArray).size≤2^40:=by decide
 have z3:({ data:=#[117,110,105,116,61] }:ByteArray).size≤2^40:=by decide
 have hA1:=J3G ⟨#[118,97,108,117,101,61]⟩ vl [⟨#[118,97,114]⟩,nm,wk,wt];refine CallP.frame 1000000 [(50,3),(51,17)] rfl c311 (J8t ⟨#[118,97,108,117,101,61]⟩ vl [⟨#[118,97,114]⟩,nm,wk,wt] _ _ (by show 4≤1000;decide) z1 (by omega)) rfl ⟨rfl,rfl,trivial⟩ ?_;rintro r0 h' ⟨rfl,g',rfl⟩;generalize addW ⟨#[118,97,108,117,101,61]⟩ vl [⟨#[118,97,114]⟩,nm,wk,wt]=A at *;refine ⟨hpL _ _ g' ⟨nm,kd,ty,vl,st,fx,un⟩ A,⟨rfl,rfl,J0Q encS _ (fun _=>rfl) ..,trivial⟩,?_⟩;unfold hpL encV;have hA:A.length≤5:=hA1;have hmA:=@List.length_map _ _ A encS;(refine kWQ ?_;repeat intro γ);have hB1:=J3G ⟨#[115,116,97,114,116,61]⟩ st A;refine CallP.frame 1000000 [(50,3),(51,17)] rfl c311 (J8t ⟨#[115,116,97,114,116,61]⟩ st A _ _ (by omega) z2 (by omega)) rfl ⟨rfl,J0Q encS _ (fun _=>rfl) ..,trivial⟩ ?_;rintro r0 h' ⟨rfl,g',rfl⟩;generalize addW ⟨#[115,116,97,114,116,61]⟩ st A=B at *;refine ⟨hpL _ _ g' ⟨nm,kd,ty,vl,st,fx,un⟩ B,⟨rfl,rfl,J0Q encS _ (fun _=>rfl) ..,trivial⟩,?_⟩;unfold hpL encV;have hB:B.length≤6:=by omega
 have hmB:=@List.length_map _ _ B encS;(refine kWQ ?_;repeat intro γ);obtain ⟨C,hC⟩:∃ C,(if fx=true then B++[⟨#[102,105,120,101,100]⟩] else B)=C:=⟨_,rfl⟩;rw[hC] at hL
 have hC1:C.length≤7:=by
  rw[← hC];split
  ·rw[List.length_append];show _+1≤7;omega
  ·omega
 have hmC:=@List.length_map _ _ C encS;have hD1:=J3G ⟨#[117,110,105,116,61]⟩ un C;have fin:=fun g3 gl=>J8t ⟨#[117,110,105,116,61]⟩ un C g3 gl (by omega) z3 (by omega);have hls:L.length=L.length:=rfl;cases fx
 ·rw[if_neg (by decide)] at hC;subst hC;(refine kWQ ?_;repeat intro γ);refine CallP.frame 1000000 [(50,3),(51,17)] rfl c311 (fin _ g') (by rfl) ⟨rfl,J0Q encS _ (fun _=>rfl) ..,trivial⟩ ?_;rintro r0 h' ⟨rfl,g',rfl⟩;rw[hL];refine ⟨hpL _ _ g' ⟨nm,kd,ty,vl,st,false,un⟩ L,⟨rfl,rfl,J0Q encS _ (fun _=>rfl) ..,trivial⟩,?_⟩;unfold hpL encV;(refine kWQ ?_;repeat intro γ);refine CallP.flat [17] _ c312 (J0G (congrArg (fun z=>[z,encS (b1 32)]) (JKv rfl rfl)) hJ) rfl ?_;(refine kWQ ?_;repeat intro γ);exact .of (by rw[← hF];rfl)
 ·rw[if_pos rfl] at hC;have hCm:List.map encS B++[encS ⟨#[102,105,120,101,100]⟩]=C.map encS:=by rw[← hC,List.map_append];rfl
  have hCl:B.length+1=C.length:=by rw[← hC,List.length_append];rfl
  (refine kWQ ?_;repeat intro γ);refine CallP.frame 1000000 [(50,3),(51,17)] rfl c311 (fin _ γ) (by rfl) ⟨congrArg (fun n=>some (_,(⟨28,1,[.own 51 γ 0 n]⟩:Blk))) hCl,?_,trivial⟩ ?_
  ·show some (mvB _ (γ,(⟨9,1,List.map encS B++[encS ⟨#[102,105,120,101,100]⟩]⟩:Blk)))=_
   rw[hCm];exact J0Q encS _ (fun _=>rfl) ..
  rintro r0 h' ⟨rfl,g',rfl⟩;rw[hL];refine ⟨hpL _ _ g' ⟨nm,kd,ty,vl,st,true,un⟩ L,⟨rfl,rfl,J0Q encS _ (fun _=>rfl) ..,trivial⟩,?_⟩;unfold hpL encV;(refine kWQ ?_;repeat intro γ);refine CallP.flat [17] _ c312 (J0G (congrArg (fun z=>[z,encS (b1 32)]) (JKv rfl rfl)) hJ) rfl ?_;(refine kWQ ?_;repeat intro γ);exact .of (by rw[← hF];rfl)
theorem JA7 (x p:ByteArray):joinB [x] p=x:=by
 unfold joinB;rw[List.map_cons,List.map_nil,Lib.join_cons];apply ByteArray.ext;simp[Lib.joinTail]
theorem J5Z (p x:ByteArray) (r:List ByteArray) (y:ByteArray):joinB (x::r++[y]) p=joinB (x::r) p++p++y:=by
 apply ByteArray.ext;unfold joinB;rw[ByteArray.data_append,ByteArray.data_append];apply Array.toList_inj.1;simp[Lib.join_cons,Lib.joinTail,List.map_append]
theorem J4s (p:ByteArray) {l:List ByteArray} (h:l≠[]) (y:ByteArray):joinB (l++[y]) p=joinB l p++p++y:=by
 cases l with
 | nil=>exact absurd rfl h
 | cons x r=>exact J5Z p x r y
theorem JFo (s:ByteArray) (n:Nat):repB s (n+1)=repB s n++s:=by
 apply ByteArray.ext;unfold repB;rw[ByteArray.data_append,Lib.repeatL_add,Lib.repeatL_one];apply Array.toList_inj.1;simp
theorem J4M (x:ByteArray):x++⟨#[]⟩=x:=by
 apply ByteArray.ext;rw[ByteArray.data_append];simp
theorem J0q (a b:ByteArray):(a++b).data.toList=a.data.toList++b.data.toList:=by
 rw[ByteArray.data_append];simp
theorem JDn {e:Ex} (hb:builtF e=true) (h:J0S e.op=0) (h1:e.op≠oNum) (h2:e.op≠oVar) (h3:e.op≠oPre):showF e=e.op:=by
 have hl:=(J0A hb).1;have hn:e.kids=[]:=List.eq_nil_of_length_eq_zero (by omega);rw[J3n,hn];unfold JBX;rw[if_neg h1,if_neg h2,if_neg h3];rfl
theorem JDm {e:Ex} (hb:builtF e=true) (h1:e.op≠oNum) (h2:e.op≠oVar) (h3:e.op≠oPre) (h4:e.op≠oTrue) (h5:e.op≠oFalse) (h6:e.op≠oTime) (h7:e.op≠oInit) :
  showF e=e.op++b1 40++joinB (e.kids.map showF) (b1 59)++b1 41:=by
 have hl:=(J0A hb).1
 have hk : e.kids≠[]:=by
  intro hn;rw[hn] at hl;unfold J0S at hl;rw[if_neg (by rintro (h | h);exact h2 h;exact h3 h)] at hl;split at hl
  ·simp at hl
  ·split at hl
   ·simp at hl
   ·split at hl
    ·simp at hl
    ·rename_i x hx
     rcases JBW hx with h | ⟨_,rfl⟩ | ⟨h,_⟩ | ⟨h | h | h,_⟩ | ⟨_,rfl⟩ | ⟨_,rfl⟩ | ⟨_,rfl⟩ | ⟨_,rfl⟩ | ⟨_,rfl⟩
     ·exact h1 h
     ·simp at hl
     ·exact h6 h
     ·exact h4 h
     ·exact h5 h
     ·exact h7 h
     ·simp at hl
     ·simp at hl
     ·simp at hl
     ·simp at hl
     ·simp at hl
 rw[J3n];unfold JBX;rw[if_neg h1,if_neg h2,if_neg h3]
 cases he:e.kids.map showF with
 | nil=>exact absurd (List.map_eq_nil_iff.1 he) hk
 | cons x r=>rfl
theorem JCO (l:List ByteArray) (i:Nat):szB (l.take i)≤szB l:=by
 have:=J8c (l.take i) (l.drop i);rw[List.take_append_drop] at this;omega
def ordB (t:ByteArray) (i:Nat):ByteArray:=if i=0 then b1 64++t else b1 64++t++b1 58++repB (b1 39) i
theorem JFx (t:ByteArray) (i:Nat):(ordB t i).size≤t.size+i+2:=by
 have a:(b1 64).size=1:=rfl;have b:(b1 58).size=1:=rfl;have c:(b1 39).size=1:=rfl;unfold ordB;split
 ·rw[J01,a];omega
 ·rw[J01,J01,J01,J67,a,b,c];omega
theorem JIc (t:ByteArray):ordB t 1=ordB t 0++b1 58++b1 39:=by
 unfold ordB;rw[if_pos rfl,if_neg (by decide)];have:repB (b1 39) 1=b1 39:=by kernel_rfl
 rw[this]
theorem JFw (t:ByteArray) {i:Nat} (h:0<i):ordB t (i+1)=ordB t i++b1 39:=by
 unfold ordB;rw[if_neg (by omega),if_neg (by omega),JFo];simp only[ByteArray.append_assoc]
theorem J2y (e:Ex):SzE e→TxE e→builtF e=true→wtF e≤1000→PureCall Tryz.prog 222 [encE e] (encS (showF e)):=by
 induction e using J1m with
 | h e ih=>
   intro hz hx hb hw;have ihk:=fun k hk=>ih k hk (hz.kid k hk) (hx.kid k hk) ((J0A hb).2 k hk) (by have:=JEz hk;omega);have hwt:wtL e.kids≤1000:=by have:=J53 e;omega
   have hlen:e.kids.length≤1000:=Nat.le_trans (J5o _) hwt;have hsum:szB (e.kids.map showF)+e.kids.length≤(2^21+20)*1000:=Nat.le_trans (JFR fun k hk=>J4j k ((J0A hb).2 k hk) (hx.kid k hk)) (Nat.mul_le_mul_left _ hwt);have hord:=J8n hb;have htx:=hx.tx;have hos:=JBg hb;have hlf:=fun h=>JDn hb h;have hnd:=JDm hb;have hG:=J3n e;clear ih;refine PC [] Tryz.func222 rfl (by rfl) rfl ?_;generalize showF e=F at *;rw[J03];clear hz hx hb hw hwt;obtain ⟨o,t,od,es⟩:=e;simp only[Ex.op,Ex.text,Ex.order,Ex.kids] at *;unfold JBX at hG
   by_cases h1:o=oNum
   ·rw[if_pos h1] at hG;clear hlf hnd;refine kWS ?_;intros;exact .of (by rw[hG];rfl)
   rw[if_neg h1] at hG
   by_cases h2:o=oTrue
   ·have hG:=hlf (by rw[h2];kernel_rfl) h1 (by rw[h2];decide) (by rw[h2];decide);clear hlf hnd;refine kWS ?_;intros;exact .of (by rw[hG];rfl)
   by_cases h3:o=oFalse
   ·have hG:=hlf (by rw[h3];kernel_rfl) h1 (by rw[h3];decide) (by rw[h3];decide);clear hlf hnd;refine kWS ?_;intros;exact .of (by rw[hG];rfl)
   by_cases h4:o=oTime
   ·have hG:=hlf (by rw[h4];kernel_rfl) h1 (by rw[h4];decide) (by rw[h4];decide);clear hlf hnd;refine kWS ?_;intros;exact .of (by rw[hG];rfl)
   by_cases h5:o=oInit
   ·have hG:=hlf (by rw[h5];kernel_rfl) h1 (by rw[h5];decide) (by rw[h5];decide);clear hlf hnd;refine kWS ?_;intros;exact .of (by rw[hG];rfl)
   by_cases h6:o=oPre
   ·rw[if_neg (by rw[h6];decide),if_pos h6] at hG;have z2:({ data:=#[112,114,101,64] }:ByteArray).size=4:=rfl;clear hlf hnd;refine kWS ?_;intros;exact .of (by rw[hG];rfl)
   by_cases h7:o=oVar
   ·rw[if_pos h7] at hG;obtain ⟨ho1,ho2⟩:=hord h7
    have hG:F=ordB t od.toNat:=by
     rw[hG];unfold ordB
     by_cases h8:od=0
     ·rw[if_pos h8,if_pos (by omega)]
     ·rw[if_neg h8,if_neg (by omega)]
    have z1:({ data:=#[64] }:ByteArray).size=1:=rfl;have y1:=J01 { data:=#[64] } t;clear hlf hnd hord ihk hsum;refine kWS ?_;intros
    refine LoopP.intro (fun k σ H=>∃ g1 i,∃ s:ByteArray,k=od.toNat-i∧i≤od.toNat∧s=ordB t i ∧
     σ=fr [(1,.op 1 g1 0 0),(3,encS s),(4,encI i)]∧H=hp [(1,g1,⟨42,4,[.agg [encS o,encS t,encI od,.sl 4 (es.map encE)]]⟩)]) ?_ ?_
    ·exact .intro (W.of ⟨_,_,0,_,rfl,Nat.zero_le _,rfl,rfl,rfl⟩ ⟨rfl,rfl,rfl,trivial⟩ ⟨rfl,trivial⟩)
    rintro k σ H ⟨g1,i,s,rfl,hi,hs,rfl,rfl⟩;have hsz:=JFx t i;rw[← hs] at hsz;have z3:({ data:=#[58] }:ByteArray).size=1:=rfl;have y3:=J01 s { data:=#[58] };have y4:=J01 (s++{ data:=#[58] }) { data:=#[39] };have y5:=J01 s { data:=#[39] };have z5:({ data:=#[39] }:ByteArray).size=1:=rfl
    rcases Nat.lt_or_ge i od.toNat with h9 | h9
    ·rcases Nat.eq_zero_or_pos i with h10 | h10
     ·subst h10;refine kWQ ?_;intros
      exact .intro <| W.of ⟨_,by omega,g1,0+1,s++b1 58++b1 39,rfl,h9,by rw[JIc,hs],rfl,rfl⟩ ⟨rfl,rfl,rfl,trivial⟩ ⟨rfl,trivial⟩
     ·refine kWQ ?_;intros
      exact .intro <| W.of ⟨_,by omega,g1,i+1,s++b1 39,rfl,h9,by rw[JFw t h10,hs],rfl,rfl⟩ ⟨rfl,rfl,rfl,trivial⟩ ⟨rfl,trivial⟩
    ·obtain rfl:i=od.toNat:=by omega
     refine kWQ ?_;intros;exact .of (by rw[hG,← hs];rfl)
   replace hG:=hnd h1 h7 h6 h2 h3 h4 h5;clear hlf hnd hord;have z4:({ data:=#[40] }:ByteArray).size=1:=rfl;have z5:({ data:=#[41] }:ByteArray).size=1:=rfl;have z6:({ data:=#[59] }:ByteArray).size=1:=rfl;have y0:=J01 o { data:=#[40] };have hml:=@List.length_map _ _ es encE;refine kWQ ?_;intros
   refine LoopP.intro (fun j σ H=>∃ g1 i,∃ s:ByteArray,j=es.length-i∧i≤es.length∧s=o++b1 40++joinB ((es.map showF).take i) (b1 59) ∧
    σ=fr [(1,.op 1 g1 0 0),(5,encS s),(6,encI i)] ∧
    H=hp [(1,g1,⟨42,4,[.agg [encS o,encS t,encI od,.sl 4 (es.map encE)]]⟩)]) ?_ ?_
   ·exact .intro (W.of ⟨_,_,0,_,rfl,Nat.zero_le _,by rw[List.take_zero];exact (J4M _).symm,rfl,rfl⟩ ⟨rfl,rfl,rfl,trivial⟩ ⟨rfl,trivial⟩)
   rintro j σ H ⟨g1,i,s,rfl,hi,hs,rfl,rfl⟩
   have hsz:s.size≤2^33:=by
    have a:=J21 ((es.map showF).take i) (b1 59);have b:=JCO (es.map showF) i;have c:(b1 59).size=1:=rfl;have d:(b1 40).size=1:=rfl;rw[List.length_take,List.length_map,c] at a;rw[hs,J01,J01,d];omega
   have y1:=J01 s { data:=#[59] };have y2:=J01 s { data:=#[41] }
   rcases Nat.lt_or_ge i es.length with h9 | h9
   ·have hk:=ihk _ (List.getElem_mem h9);have hm:i<(es.map showF).length:=by rw[List.length_map];exact h9
    have htk:(es.map showF).take (i+1)=(es.map showF).take i++[showF es[i]]:=by rw[List.take_succ_eq_append_getElem hm,List.getElem_map]
    have hkz:(showF es[i]).size≤2^32:=by
     have b:szB [showF es[i]]≤szB (es.map showF):=by
      have b:=JCO (es.map showF) (i+1);rw[htk,J8c] at b;omega
     have c:szB [showF es[i]]=(showF es[i]).size+0:=rfl;omega
    obtain ⟨k,hkk⟩:∃ k,es[i]=k:=⟨_,rfl⟩;rw[hkk] at hk htk hkz;rw[J03] at hk;have y3:=J01 s (showF k);have y4:=J01 (s++{ data:=#[59] }) (showF k)
    rcases Nat.eq_zero_or_pos i with h10 | h10
    ·subst h10;refine kWQ ?_;intros;simp only[hkk,J03];refine kQ ?_;intros;refine CallP.flat [] _ c222 hk rfl ?_;refine kWQ ?_;intros
     refine .intro <| W.of ⟨_,by omega,g1,0+1,s++showF k,rfl,h9,?_,rfl,rfl⟩ ⟨rfl,rfl,rfl,trivial⟩ ⟨rfl,trivial⟩
     rw[htk,hs,List.take_zero,List.nil_append,JA7];have e0:joinB [] (b1 59)=⟨#[]⟩:=by kernel_rfl
     rw[e0,J4M]
    ·have hne:(es.map showF).take i≠[]:=by
      intro h;have:=congrArg List.length h;rw[List.length_take,List.length_map,List.length_nil] at this;omega
     refine kWQ ?_;intros;simp only[hkk,J03];refine kQ ?_;intros;refine CallP.flat [] _ c222 hk rfl ?_;refine kWQ ?_;intros
     refine .intro <| W.of ⟨_,by omega,g1,i+1,s++b1 59++showF k,rfl,h9,?_,rfl,rfl⟩ ⟨rfl,rfl,rfl,trivial⟩ ⟨rfl,trivial⟩
     rw[htk,hs,J4s _ hne];simp only[ByteArray.append_assoc]
   ·obtain rfl:i=es.length:=by omega
    have hfull:(es.map showF).take es.length=es.map showF:=by rw[show es.length=(es.map showF).length by rw[List.length_map],List.take_length]
    rw[hfull] at hs;refine kWQ ?_;intros;exact .of (by rw[hG,← hs];rfl)
end Go.Proofs.YtlhdoekgipaihaaGreatDoor
namespace Go.Proofs.YtlhdoekgipaihaaGreatDoor
open Go Go.Fw Go.RowKit
def bldB (p buf:AV):Blk:=⟨solo,2,[.agg [p,buf]]⟩
def J1T:AV:=.val (.pointer none)
theorem JAg {H:Hp} {b g:Nat} {p buf:AV} (hb:H b=some (g,bldB p buf)) (hp:p=J1T∨p=.op b g 0 0) (hbc:buf.cells=[buf]) :
  HCall Tryz.prog 308 [.op b g 0 0] H fun r H'=>r=.tup []∧H'=setH H b (some (g,bldB (.op b g 0 0) buf)):=by
 intro gh κ w vs hr hv;obtain ⟨hlen,hv⟩:=hv;obtain ⟨vl⟩:=vs
 rcases vl with _ | ⟨a,_ | ⟨a2,r⟩⟩<;>simp at hlen
 have h0:=hv 0 (by simp) (by simp);simp only[List.getElem_cons_zero,List.getElem_toArray] at h0
 cases h0 with
 | op _ _ _ _ c K hκ hc hn=>
 obtain ⟨K',hκ',hbr⟩:=hr.blk _ _ _ hb;have hbr:BlkRel κ w (Nset gh.O κ H) K (bldB p buf):=by rw[hκ] at hκ';cases hκ';exact hbr
 obtain ⟨hn2,hcl,h3⟩:=hbr.rows hn
 rcases h3 with ⟨h3,_⟩ | ⟨c',A,f,hc',hbk,hm,hs,hf,hpl,hvv,hso⟩
 ·rw[h3] at hc;cases hc
 rw[hc'] at hc;cases hc;have hsz:A.size=2:=hso rfl;simp only[Nat.zero_mul,Nat.add_zero];have e0:A[0]?=some (f 0 0):=by have:=hf 0 (by simp[bldB]) 0 (by simp[bldB]);simpa [bldB] using this
 have hv0:VR κ w (Nset gh.O κ H) p (f 0 0):=hvv 0 (by simp[bldB]) 0 (by simp[bldB]);have hcell:w.cell? ⟨c,0,none⟩=some (f 0 0):=by simp[World.cell?,hbk,e0]
 have hself:VR κ w (Nset gh.O κ H) (.op b g 0 0) (.pointer (some ⟨c,0,none⟩)):=by
  have:=VR.op (w:=w) (N:=Nset gh.O κ H) b g 0 0 c K hκ hc' hn
  simpa using this
 rcases hp with rfl | rfl
 ·have hf0:f 0 0=.pointer none:=by generalize f 0 0=v at hv0;cases hv0;rfl
  rw[hf0] at hcell;obtain ⟨up,hup,hex,w',u,κ',hrun,hR,hvr,_,_⟩:=J39 (P:=Tryz.prog) J5k hr (t:=275) hself hself (C:=fun up=>up=some (b,g,bldB (.op b g 0 0) buf)) ⟨_,rfl,rfl,rfl,_,hb,by simp[bldB],by simp[bldB],by simp[AV.cells],by simp[bldB,J60,over,AV.cells]⟩;subst hup;have hK:=Any.Builder_copyCheck_fresh { J1A with } J0X.toX72 c w hcell (by simp[World.shape?,hbk,hsz];rfl) (by simp[World.frozen?,hbk]);refine hK.mono ?_;rintro e w' ⟨rfl,rfl⟩
  have hst:=run_storeCells_at Tryz.prog c 0 solo [.pointer (some ⟨c,0,none⟩)] 0 A w hbk (by simp[hsz]) (fun v hv=>by
   simp only[List.mem_singleton] at hv;subst hv;rfl)
  have ht:=J0a (J5k 275 _ rfl)
  have hrun':(Instr.storeAt 275 (.pointer (some ⟨c,0,none⟩)) (.pointer (some ⟨c,0,none⟩))).run Tryz.prog w=.ok () (w.setCell ⟨c,0,none⟩ (.pointer (some ⟨c,0,none⟩))):=by
   have hA:(A.toList.take 0++[Value.pointer (some ⟨c,0,none⟩)]++A.toList.drop 1).toArray=A.setIfInBounds 0 (.pointer (some ⟨c,0,none⟩)):=by
    obtain ⟨L⟩:=A
    rcases L with _ | ⟨x,r⟩
    ·simp at hsz
    ·simp
   rw[setCell_eq_setRow w c 0 A solo (0,0) _ hbk,← hA];simp only[Nat.add_zero] at hst
   simpa [Instr.storeAt,Instr.sureAddr,Sem.run_bind,storeVar,ht.run_size w,Value.cells] using hst
  rw[hrun'] at hrun;cases hrun;exact ⟨_,.tup [],_,κ',rfl,⟨rfl,rfl⟩,hR,.tup [] #[] rfl (fun i h=>by simp at h),hvr⟩
 ·have hf0:f 0 0=.pointer (some ⟨c,0,none⟩):=by
   generalize f 0 0=v at hv0
   cases hv0 with
   | op _ _ _ _ c2 K2 hκ2 hc2 hn2=>
     rw[hκ] at hκ2;cases hκ2;rw[hc'] at hc2;cases hc2;simp
  rw[hf0] at hcell;refine (Any.Builder_copyCheck_used { J1A with } J0X.toX72 c w hcell).mono ?_;rintro e w' ⟨rfl,rfl⟩
  have hH:setH H b (some (g,bldB (.op b g 0 0) buf))=H:=by
   funext x;unfold setH;split
   ·rename_i h;rw[h,hb]
   ·rfl
  exact ⟨_,.tup [],H,κ,rfl,⟨rfl,hH.symm⟩,hr,.tup [] #[] rfl (fun i h=>by simp at h),fun h=>h⟩
theorem JAx {κ:KM} {w:World} {N:Nat→Prop} {b g i k c o:Nat} (h:VR κ w N (.op b g i k) (.pointer (some ⟨c,o,none⟩))):∃ K,κ b g=some K∧K.c=some c∧0<K.n:=by
 generalize hv:Value.pointer (some ⟨c,o,none⟩)=v at h
 cases h with
 | op _ _ _ _ c2 K2 h1 h2 h3=>cases hv;exact ⟨_,h1,h2,h3⟩
theorem J9J {gh:Gh} {κ:KM} {H:Hp} {w:World} {b g c:Nat} {p buf:AV} (hr:HRel gh κ H w) (hb:H b=some (g,bldB p buf)) (hs:VR κ w (Nset gh.O κ H) (.op b g 0 0) (.pointer (some ⟨c,0,none⟩))) (hp:p.cells=[p]) (hbc:buf.cells=[buf]) :
  ∃ v0 v1,w.heap[c]?=some (.cells #[v0,v1] solo (0,0))∧VR κ w (Nset gh.O κ H) p v0∧VR κ w (Nset gh.O κ H) buf v1:=by
 obtain ⟨K,hκ,hc,hn⟩:=JAx hs;obtain ⟨K1,hκ1,hbr⟩:=hr.blk _ _ _ hb;rw[hκ] at hκ1;cases hκ1;obtain ⟨hn2,hcl,h3⟩:=hbr.rows hn
 rcases h3 with ⟨h3,_⟩ | ⟨c',A,f,hc',hbk,hm,hs',hf,hpl,hvv,hso⟩
 ·rw[h3] at hc;cases hc
 rw[hc'] at hc;cases hc;have hsz:A.size=2:=hso rfl;obtain ⟨L⟩:=A
 rcases L with _ | ⟨v0,_ | ⟨v1,_ | ⟨v2,r⟩⟩⟩<;>simp at hsz
 have e0:=hf 0 (by simp[bldB]) 0 (by simp[bldB]);have e1:=hf 0 (by simp[bldB]) 1 (by simp[bldB]);simp[bldB] at e0 e1;subst e0 e1;exact ⟨_,_,hbk,hvv 0 (by simp[bldB]) 0 (by simp[bldB]),hvv 0 (by simp[bldB]) 1 (by simp[bldB])⟩
theorem JAw {κ:KM} {w:World} {N:Nat→Prop} {b g off len:Nat} {v:Value} (h:VR κ w N (.own b g off len) v):∃ ao n' cap,v=.slice ao n' cap:=by
 cases h<;>exact ⟨_,_,_,rfl⟩
theorem JHO {gh:Gh} {κ:KM} {H:Hp} {w:World} {b g c d γ len n' cap:Nat} {ao:Option Addr} {p buf:AV} (hr:HRel gh κ H w) (hb:H b=some (g,bldB p buf)) (hs:VR κ w (Nset gh.O κ H) (.op b g 0 0) (.pointer (some ⟨c,0,none⟩))) (hp:p.cells=[p]) (hbc:buf.cells=[buf])
  (hx:VR κ w (Nset gh.O κ H) (.own d γ 0 len) (.slice ao n' cap)) :
  ∃ κ',HRel gh κ' (setH H b (some (g,bldB p (.own d γ 0 len)))) (w.setCell ⟨c,1,none⟩ (.slice ao n' cap))∧∀ {y:AV} {v:Value},VR κ w (Nset gh.O κ H) y v→VR κ' (w.setCell ⟨c,1,none⟩ (.slice ao n' cap)) (Nset gh.O κ' (setH H b (some (g,bldB p (.own d γ 0 len))))) y v:=by
 obtain ⟨v0,v1,hbk,_,_⟩:=J9J hr hb hs hp hbc;obtain ⟨K,hκ,hc,hn⟩:=JAx hs
 have hptr:VR κ w (Nset gh.O κ H) (.op b g 0 1) (.pointer (some ⟨c,1,none⟩)):=by
  have:=VR.op (w:=w) (N:=Nset gh.O κ H) b g 0 1 c K hκ hc hn
  simpa using this
 obtain ⟨up,hup,hex,w',u,κ',hrun,hR,hvr,_,_⟩:=J39 (P:=Tryz.prog) J5k hr (t:=276) hptr hx (C:=fun up=>up=some (b,g,bldB p (.own d γ 0 len))) ⟨_,rfl,rfl,rfl,_,hb,by simp[bldB],by simp[bldB],by simp[AV.cells],by simp[bldB,J60,over,AV.cells]⟩;subst hup
 have hst:=run_storeCells_at Tryz.prog c 1 solo [.slice ao n' cap] 0 #[v0,v1] w hbk (by simp) (fun v hv=>by
  simp only[List.mem_singleton] at hv;subst hv;rfl)
 have ht:=J0a (J5k 276 _ rfl)
 have hrun':(Instr.storeAt 276 (.pointer (some ⟨c,1,none⟩)) (.slice ao n' cap)).run Tryz.prog w=.ok () (w.setCell ⟨c,1,none⟩ (.slice ao n' cap)):=by
  rw[setCell_eq_setRow w c 1 _ solo (0,0) _ hbk];simp only[Nat.add_zero] at hst
  simpa [Instr.storeAt,Instr.sureAddr,Sem.run_bind,storeVar,ht.run_size w,Value.cells] using hst
 rw[hrun'] at hrun;cases hrun;exact ⟨κ',hR,hvr⟩
theorem J7H {P:Program} {w:World} {ops:Array Oper} {rest:List Oper} {o:Oper} {a:Act} {Q:Exit→Act→World→Prop} (hgd:o.guard=none) (sl x:Operand) (t u:TypeId)
  (ho:o.op=.call { callee:=.builtin .append,args:=#[sl,x],argTypes:=#[t,u] }) (v:Value) (hs:a.eval sl=v) (s:ByteArray) (hx:a.eval x=.string s) {v':Value} {w':World}
  (hr:(Builtin.append_ #[t,u] o.type #[v,.string s]).run P w=.ok v' w') (h:wpList P ops Q rest (a.put o.dst v') w'):wpList P ops Q (o::rest) a w:=by
 refine wpList_plain hgd fun K hK=>?_;unfold Oper.wp execOp;simp only[ho,resolve,invoke,builtin,Sem.run_bind,Sem.run_pure,Result.andThen_ok,List.map_toArray,List.map_cons,List.map_nil,hs,hx,hr];exact hK _ _ h
theorem J7U {H:Hp} {b g d g0:Nat} {p:AV} {l:List UInt8} {s:ByteArray} (hb:H b=some (g,bldB p (.own d g0 0 l.length))) (hp:p=J1T∨p=.op b g 0 0) (hd:H d=some (g0,⟨5,1,BY l⟩)) (hbd:b≠d)
  (hs:l.length+s.size≤140737488355328) :
  HCall Tryz.prog 213 [.op b g 0 0,encS s] H fun r H'=>r=.tup [encI s.size,.val .nilIface]∧∃ γ,H'=setH (setH H d (some (γ,⟨5,1,BY (l++s.data.toList)⟩))) b (some (g,bldB (.op b g 0 0) (.own d γ 0 (l.length+s.size)))):=by
 intro gh κ w vs hr hv;obtain ⟨hlen,hv⟩:=hv;obtain ⟨vl⟩:=vs
 rcases vl with _ | ⟨a,_ | ⟨a2,_ | ⟨a3,r⟩⟩⟩<;>simp at hlen
 have h0:=hv 0 (by simp) (by simp);have h1:=hv 1 (by simp) (by simp);simp only[List.getElem_cons_zero,List.getElem_cons_succ,List.getElem_toArray] at h0 h1;cases h1
 have hcc:=JAg hb hp rfl gh κ w #[a] hr ⟨rfl,fun i h h'=>by
  have:i=0:=by simpa using h
  subst this;exact h0⟩
 cases h0 with
 | op _ _ _ _ c K hκ hc hn=>
 simp only[Nat.add_zero,Nat.zero_mul] at hcc ⊢;have L:Lays.n166 Tryz.prog Tryz.lays156_ren:={ J1A with };have X:=J0X;have hcc':Calls Tryz.prog (Tryz.lays156_ren.f 240) _ _ _:=hcc;have e5:Tryz.lays156_ren.t 5=5:=rfl;have e72:Tryz.lays156_ren.t 72=solo:=rfl;have hT:=J5k;show Calls Tryz.prog (Tryz.lays156_ren.f 166) _ _ _
 clear hcc;generalize Tryz.lays156_ren=ρ at L X hcc' e5 e72 ⊢;obtain ⟨i0,hi,hz0,hz1,hz2⟩:=info_parts X.infoByte;have mixed:=L.mixed;have t72:=L.t72;have a72:=L.a72;have z72:=L.z72;have v72:=L.v72;have u72:=run_underlying L.t72;have t70:=L.t70;have a70:=L.a70;have z70:=L.z70;have v70:=L.v70;have u70:=run_underlying L.t70;have t37:=L.t37;have a37:=L.a37;have z37:=L.z37;have v37:=L.v37;have u37:=run_underlying L.t37;have t3:=L.t3;have a3:=L.a3;have z3:=L.z3;have v3:=L.v3;have u3:=run_underlying L.t3;have t9:=L.t9;have a9:=L.a9;have z9:=L.z9;have v9:=L.v9;have u9:=run_underlying L.t9;have t4:=L.t4;have a4:=L.a4;have z4:=L.z4;have v4:=L.v4;have u4:=run_underlying L.t4;have t164:=L.t164;have a164:=L.a164;have z164:=L.z164;have v164:=L.v164;have u164:=run_underlying L.t164;have t5:=X.t5;have a5:=X.a5;have z5:=X.z5;have v5:=X.v5;have u5:=run_underlying X.t5;have e240:∀ args w,(callFunc (ρ.f 240) args).run Tryz.prog w=.ok (.enter (ρ.f 240) args) w:=enters_of L.f240 (by kernel_rfl) rfl
 go_enter L.f166,Body.n166_ntmps ρ
 go_wp2_with (go_at_fn (ρ.f 240);refine hcc'.mono ?_)
 rintro e w1 ⟨v0,r0,H1,κ1,he,⟨hr0,hH1⟩,hr1,hv0,ht1⟩;subst he hr0 hH1
 have hself:VR κ w (Nset gh.O κ H) (.op b g 0 0) (.pointer (some ⟨c,0,none⟩)):=by
  have:=VR.op (w:=w) (N:=Nset gh.O κ H) b g 0 0 c K hκ hc hn
  simpa using this
 have hself:=ht1 hself;have hb1:(setH H b (some (g,bldB (.op b g 0 0) (.own d g0 0 l.length)))) b=some (g,bldB (.op b g 0 0) (.own d g0 0 l.length)):=by simp[setH]
 have hd1:(setH H b (some (g,bldB (.op b g 0 0) (.own d g0 0 l.length)))) d=some (g0,⟨5,1,BY l⟩):=by rw[setH,if_neg (Ne.symm hbd)];exact hd
 generalize hH1:setH H b (some (g,bldB (.op b g 0 0) (.own d g0 0 l.length)))=H1 at hr1 hv0 ht1 hself hb1 hd1;obtain ⟨p1,v,hbk,_,hv1⟩:=J9J hr1 hb1 hself rfl rfl;have c1:w1.cell? ⟨c,1,none⟩=some v:=by rw[Lib.cell_of_heap hbk];rfl
 obtain ⟨G,hG⟩:=hr1.fresh;obtain ⟨v',w2,κ2,hrun,hr2,ht2,hv2,hk2⟩:=JAQ (P:=Tryz.prog) (ty:=ρ.t 37) (u:=ρ.t 9) hr1 (d:=d) (g:=g0) (γ:=G) (s:=s) L.t37 L.t9 hi hz0 hz1 hz2 (by rw[e5];decide) (hG _ _ (Nat.le_refl _)) (by rw[e5];exact hd1) hv1 hs;rw[e5] at hr2 ht2 hv2;have hself2:=ht2 hself;have hb2:app H1 (some (d,G,⟨5,1,BY (l++s.data.toList)⟩)) b=some (g,bldB (.op b g 0 0) (.own d g0 0 l.length)):=by simp only[app,setH];rw[if_neg hbd];exact hb1
 generalize hH2:app H1 (some (d,G,⟨5,1,BY (l++s.data.toList)⟩))=H2 at hr2 ht2 hv2 hself2 hb2;obtain ⟨p2,v2,hbk2,_,_⟩:=J9J hr2 hb2 hself2 rfl rfl;have d1:w2.cell? ⟨c,1,none⟩=some v2:=by rw[Lib.cell_of_heap hbk2];rfl
 have f1:w2.frozen? ⟨c,1,none⟩=false:=Lib.frozen_of_heap hbk2 1;obtain ⟨ao,n',cap,rfl⟩:∃ ao n' cap,v'=.slice ao n' cap:=JAw hv2
 go_wp2_with (at_builtin;refine J7H rfl _ _ (ρ.t 37) (ρ.t 9) rfl v rfl s rfl hrun ?_)
 go_ret2
 obtain ⟨κ3,hr3,ht3⟩:=JHO hr2 hb2 hself2 rfl rfl hv2;subst hH2 hH1
 have eH:∀ z,setH (app (setH H b z) (some (d,G,⟨5,1,BY (l++s.data.toList)⟩))) b (some (g,bldB (.op b g 0 0) (.own d G 0 (l.length+s.size))))=setH (setH H d (some (G,⟨5,1,BY (l++s.data.toList)⟩))) b (some (g,bldB (.op b g 0 0) (.own d G 0 (l.length+s.size)))):=by
  intro z;funext x;simp only[app,setH];split<;>(try split)<;>rfl
 rw[eH] at hr3 ht3
 exact ⟨_,.tup [encI s.size,.val .nilIface],_,κ3,rfl,⟨rfl,_,rfl⟩,hr3,.tup _ _ rfl (fun i h h'=>by
  match i,h with
  | 0,_=>exact .val _ rfl
  | 1,_=>exact .val _ rfl),fun h=>ht3 (ht2 (ht1 h))⟩
theorem JB1 {P:Program} {ρ:Go.Shelf.Ren} (L:Lays.n169 P ρ) (X:Builder.Extra P ρ) (b g cap:Nat) (l:List UInt8) (p:Value) (cur:Array Value) (w:World) (h0:l≠[]) (hbk:w.heap[b]?=some (.cells #[p,.slice (some ⟨g,0,none⟩) l.length cap] (ρ.t 72) (0,0)))
  (hg:w.heap[g]?=some (.cells cur (ρ.t 5) (0,0))) (hnc:l.length≤cap) (hcm:cap≤maxLen) (hcs:cur.size=cap) (htake:cur.toList.take l.length=Lib.byteCells l) :
  Calls P (ρ.f 169) #[.pointer (some ⟨b,0,none⟩)] w fun e w'=>e=.returned (.string ⟨l.toArray⟩)∧w'=w.drew.freeze ⟨g,0,none⟩ l.length:=by
 have hl0:l.length≠0:=by simpa using h0
 have c1:w.drew.cell? ⟨b,1,none⟩=some (.slice (some ⟨g,0,none⟩) l.length cap):=by
  have:w.drew.heap[b]?=some (.cells #[p,.slice (some ⟨g,0,none⟩) l.length cap] (ρ.t 72) (0,0)):=hbk;rw[Lib.cell_of_heap this];rfl
 have hSD:(Builtin.unsafeSliceData_ #[(ρ.t 37)] (ρ.t 127) #[.slice (some ⟨g,0,none⟩) l.length cap]).run P w.drew=.ok (.pointer (some ⟨g,0,none⟩)) w.drew:=
  Lib.run_unsafeSliceData_row _ _ _ _ _ _ (by omega)
 have hUS:(Builtin.unsafeString_ #[(ρ.t 127),(ρ.t 3)] (ρ.t 9) #[.pointer (some ⟨g,0,none⟩),.int .i64 l.length]).run P w.drew=.ok (.string ⟨l.toArray⟩) (w.drew.freeze ⟨g,0,none⟩ l.length):=by
  refine Lib.run_unsafeString_row w.drew (ρ.t 127) (ρ.t 3) (ρ.t 9) (ρ.t 5) L.t127 X.cellsByte g cur.size (by have hg':w.drew.heap[g]?=some (.cells cur (ρ.t 5) (0,0)):=hg;simp[World.shape?,hg']) l h0 (by omega) (by unfold maxLen at hcm;omega) ?_;intro j x hx;have hg':w.drew.heap[g]?=some (.cells cur (ρ.t 5) (0,0)):=hg;have hj:j<l.length:=(List.getElem?_eq_some_iff.1 hx).1
  have e1:cur.toList[j]?=some (.int .u8 x.toNat):=by
   have:(cur.toList.take l.length)[j]?=some (.int .u8 x.toNat):=by rw[htake];simp[Lib.byteCells,hx]
   rwa [List.getElem?_take,if_pos hj] at this
  rw[Addr.add_lit,Lib.cell_of_heap hg',Nat.zero_add,← Array.getElem?_toList,e1]
 have mixed:=L.mixed;have t72:=L.t72;have a72:=L.a72;have z72:=L.z72;have v72:=L.v72;have u72:=run_underlying L.t72;have t70:=L.t70;have a70:=L.a70;have z70:=L.z70;have v70:=L.v70;have u70:=run_underlying L.t70;have t37:=L.t37;have a37:=L.a37;have z37:=L.z37;have v37:=L.v37;have u37:=run_underlying L.t37;have t127:=L.t127;have a127:=L.a127;have z127:=L.z127;have v127:=L.v127;have u127:=run_underlying L.t127;have t3:=L.t3;have a3:=L.a3;have z3:=L.z3;have v3:=L.v3;have u3:=run_underlying L.t3;have t9:=L.t9;have a9:=L.a9;have z9:=L.z9;have v9:=L.v9;have u9:=run_underlying L.t9;have t5:=X.t5;have a5:=X.a5;have z5:=X.z5;have v5:=X.v5;have u5:=run_underlying X.t5
 go_enter L.f169,Body.n169_ntmps ρ
 go_wp2
 go_region_o
 all_goals (go_wp2;go_ret;exact ⟨rfl,rfl⟩)
theorem HRel.drop {gh:Gh} {κ:KM} {H:Hp} {w w':World} {d g c:Nat} {B:Blk} {K:KI} (hr:HRel gh κ H w) (hd:H d=some (g,B)) (hκ:κ d g=some K) (hc:K.c=some c) (hs:w.heap.size≤w'.heap.size) (hb:∀ k,k<w.heap.size→k≠c→w'.heap[k]?=w.heap[k]?) (ho:w'.os=w.os) (ht:w'.tape=w.tape) (hu:w'.output=w.output) :
  HRel gh κ (rem H [d]) w'∧∀ {x:AV} {u:Value},VR κ w (Nset gh.O κ H) x u→VR κ w' (Nset gh.O κ (rem H [d])) x u:=by
 have hag:Agree (Nset gh.O κ H) w w':=⟨hs,fun k hk hn=>hb k hk fun e=>hn (.inr ⟨d,g,B,K,hd,hκ,e ▸ hc⟩)⟩;have hr':=hr.rem [d];have tr:∀ {x:AV} {u:Value},VR κ w (Nset gh.O κ H) x u→VR κ w' (Nset gh.O κ (rem H [d])) x u:=fun h=>h.step (KM.le.refl _) hag fun k _ h=>J0O [d] h;have hag':Agree (Fw.Own κ H) w w':=⟨hs,fun k hk hn=>hb k hk fun e=>hn ⟨d,g,B,K,hd,hκ,e ▸ hc⟩⟩;refine ⟨⟨fun b g' B' h=>?_,hr'.inj,hr'.mine,hr.keep hag',ho.trans hr.os,ht.trans hr.tape,hu.trans hr.output,hr.fresh,hr.apart⟩,tr⟩;obtain ⟨K',hk,hbr⟩:=hr'.blk _ _ _ h
 have hbd:b≠d:=by
  rintro rfl;simp[Fw.rem] at h
 have hHb:H b=some (g',B'):=by
  unfold Fw.rem at h;split at h
  ·cases h
  ·exact h
 obtain ⟨K2,hk2,hbr2⟩:=hr.blk _ _ _ hHb;exact ⟨K2,hk2,hbr2.step (KM.le.refl _) hag (fun k _ h=>J0O [d] h) fun k hk=>hb k (hr.lt ⟨b,g',B',K2,hHb,hk2,hk⟩) fun e=>hbd (hr.inj _ _ _ _ _ _ _ _ c hHb hd hk2 hκ (e ▸ hk) hc)⟩
theorem JB3 {κ:KM} {w:World} {N:Nat→Prop} {l:List UInt8} {XS:List Value} (h:Row κ w N 1 (BY l) XS):XS=Lib.byteCells l:=by
 have hl:XS.length=l.length:=by simpa using h.len
 refine List.ext_getElem (by simp[Lib.byteCells,hl]) fun i h1 h2=>?_;have hi:i<l.length:=hl ▸ h1;have:=h.rel i (by simpa using hi) 0 (by simp[BY,AV.cells]);have e1:((BY l)[i]'(by simpa using hi)).cells[0]'(by simp[BY,AV.cells])=.val (.int .u8 (l[i].toNat:Int)):=by simp[BY,AV.cells]
 rw[e1] at this;have e2:XS.getD (i*1+0) undef=XS[i]:=by simp[List.getD_eq_getElem?_getD,List.getElem?_eq_getElem h1]
 rw[e2] at this;have e3:(Lib.byteCells l)[i]=.int .u8 (l[i].toNat:Int):=by simp[Lib.byteCells]
 rw[e3];generalize XS[i]=v at this;cases this;rfl
theorem JEb {H:Hp} {b g d g0:Nat} {p:AV} {l:List UInt8} (hb:H b=some (g,bldB p (.own d g0 0 l.length))) (hp:p.cells=[p]) (hd:H d=some (g0,⟨5,1,BY l⟩)) :
  HCall Tryz.prog 218 [.op b g 0 0] H fun r H'=>r=.val (.string ⟨l.toArray⟩)∧H'=rem H [d]:=by
 intro gh κ w vs hr hv;obtain ⟨hlen,hv⟩:=hv;obtain ⟨vl⟩:=vs
 rcases vl with _ | ⟨a,_ | ⟨a2,r⟩⟩<;>simp at hlen
 have h0:=hv 0 (by simp) (by simp);simp only[List.getElem_cons_zero,List.getElem_toArray] at h0
 obtain ⟨c,rfl⟩:∃ c,a=.pointer (some ⟨c,0,none⟩):=by
  cases h0 with
  | op _ _ _ _ c K hκ hc hn=>exact ⟨c,by simp⟩
 obtain ⟨v0,v1,hbk,_,hv1⟩:=J9J hr hb h0 hp rfl;have L:=JAy;have X:=J2X;have e5:Tryz.lays169_ren.t 5=5:=rfl;have e72:Tryz.lays169_ren.t 72=solo:=rfl;show Calls Tryz.prog (Tryz.lays169_ren.f 169) _ _ _
 generalize Tryz.lays169_ren=ρ at L X e5 e72 ⊢
 have fin:∀ {e:Ending} {w':World},l=[]→(e=.returned (.string ⟨#[]⟩)∧Below w.heap.size w w')→∃ v r H' κ',e=.returned v∧(r=.val (.string ⟨l.toArray⟩)∧H'=rem H [d])∧HRel gh κ' H' w'∧VR κ' w' (Nset gh.O κ' H') r v∧∀ {x:AV} {u:Value},VR κ w (Nset gh.O κ H) x u→VR κ' w' (Nset gh.O κ' H') x u:=by
  rintro e w' rfl ⟨rfl,hB⟩;obtain ⟨q1,q2⟩:=J0v hr hB;exact ⟨_,_,_,κ,rfl,⟨rfl,rfl⟩,q1.rem [d],.val _ rfl,fun h=>(q2 h).mono fun k h=>J0O [d] h⟩
 have hbk:w.heap[c]?=some (.cells #[v0,v1] (ρ.t 72) (0,0)):=by rw[e72];exact hbk
 obtain ⟨K,hk,hbr⟩:=hr.blk _ _ _ hd;generalize hlen:l.length=len at hv1
 cases hv1 with
 | ownnil _ _ K' hk' hc=>
   exact (Any.Builder_String_nil L X w.heap.size c v0 w hbk).mono fun e w' h=>fin (List.eq_nil_of_length_eq_zero hlen) h
 | own _ _ _ _ cap cd K' hk' hc h1 h2 hp2=>
   rw[hk] at hk';cases hk';have hbr:=hbr.rows hp2;obtain ⟨A,hbk2,hm,hrow⟩:=hbr.row hc 0 len (by rw[← hlen];simp);have hKn:K.n=1:=hbr.1;have htk:(BY l).take len=BY l:=List.take_of_length_le (by rw[← hlen];simp);simp only[List.drop_zero,Nat.zero_mul,htk,hKn,Nat.mul_one] at hrow;have hcs:A.size=cap:=by rw[← hm,← h2.1,hKn];omega
   simp only[Nat.zero_add,Nat.zero_mul] at h2 hbk ⊢;replace hbk2:w.heap[cd]?=some (.cells A (ρ.t 5) (0,0)):=by rw[e5];exact hbk2
   have hdh:w.drew.heap=w.heap:=rfl
   by_cases hl:l=[]
   ·subst hl;obtain rfl:len=0:=by simpa using hlen.symm
    by_cases h0:cap=0
    ·subst h0;exact (Any.Builder_String_noroom L X w.heap.size c cd v0 A w (Nat.le_refl _) hbk hbk2).mono fun e w' h=>fin rfl h
    ·exact (Any.Builder_String_room L X w.heap.size c cd cap v0 w h0 hbk).mono fun e w' h=>fin rfl h
   ·refine (JB1 L X c cd cap l v0 A w hl (by rw[hlen];exact hbk) hbk2 (by omega) h2.2 hcs ?_).mono ?_
    ·rw[hlen];exact JB3 hrow
    ·rintro e w' ⟨rfl,rfl⟩
     obtain ⟨q1,q2⟩:=HRel.drop (w':=w.drew.freeze ⟨cd,0,none⟩ l.length) hr hd hk hc (by unfold World.freeze;split<;>simp[hdh]) (fun k hk hne=>by
      unfold World.freeze;split
      ·rfl
      ·simp[hdh,Array.getElem?_modify,Ne.symm hne]) (by unfold World.freeze;split<;>rfl) (by unfold World.freeze;split<;>rfl) (by unfold World.freeze;split<;>rfl)
     exact ⟨_,_,_,κ,rfl,⟨rfl,rfl⟩,q1,.val _ rfl,q2⟩
end Go.Proofs.YtlhdoekgipaihaaGreatDoor
namespace Go.Proofs.YtlhdoekgipaihaaGreatDoor
open Go Go.Fw
theorem J4T {e:Nat} {H:Hp} {b g d g0:Nat} {p:AV} {l:List UInt8} (s:ByteArray) {args:List AV} {C:AV→Hp→Prop} (ha:args=[.op b g 0 0,encS s]) (hb:H b=some (g,bldB p (.own d g0 0 l.length))) (hpf:p=J1T∨p=.op b g 0 0) (hd:H d=some (g0,⟨5,1,BY l⟩)) (hbd:b≠d)
  (hs:l.length+s.size≤140737488355328) (h:∀ γ,∃ m,hpOk (setH (setH H d (some (γ,⟨5,1,BY (l++s.data.toList)⟩))) b (some (g,bldB (.op b g 0 0) (.own d γ 0 (l++s.data.toList).length)))) m∧C (.tup [encI s.size,.val .nilIface]) (hp m)) :
  CallP (E e) 213 args H C:=by
 subst ha;refine CallP.own c213 (HCall.mono (J7U hb hpf hd hbd hs) ?_);rintro r h' ⟨rfl,γ,rfl⟩;obtain ⟨m,h1,h2⟩:=h γ;have e1:l.length+s.size=(l++s.data.toList).length:=by rw[List.length_append];rfl
 rw[e1];exact ⟨hp m,h1.sub,h2⟩
def eqF (w:ByteArray) (q:Eqn):ByteArray:=w++b1 32++q.name++b1 32++showF q.left++b1 32++showF q.right++b1 10
def eqsL (w:ByteArray):List Eqn→List UInt8
 | []=>[]
 | q::r=>(eqF w q).data.toList++eqsL w r
structure QnOk (q:Eqn):Prop where
 n:q.name.size<2^35
 l:SzE q.left∧TxE q.left∧builtF q.left=true∧wtF q.left≤1000
 r:SzE q.right∧TxE q.right∧builtF q.right=true∧wtF q.right≤1000
theorem J0Z {e:Ex} (h:TxE e) (hb:builtF e=true) (hw:wtF e≤1000):(showF e).size≤2^32:=by
 have:=J4j e hb h;have h2:(2^21+20)*wtF e≤(2^21+20)*1000:=Nat.mul_le_mul_left _ hw;omega
theorem J5c {w:ByteArray} {q:Eqn} (hw:w.size≤10) (h:QnOk q):(eqF w q).size≤2^36:=by
 have h1:=J0Z h.l.2.1 h.l.2.2.1 h.l.2.2.2;have h2:=J0Z h.r.2.1 h.r.2.2.1 h.r.2.2.2;have h3:=h.n;unfold eqF;simp only[J01];show _+1+_+1+_+1+_+1≤_
 omega
theorem JIJ (w:ByteArray) (hw:w.size≤10) (qs:List Eqn) (hq:∀ q∈qs,QnOk q) (hn:qs.length≤120) (p:AV) (g g1:Nat) (hpf:p=J1T∨p=.op 50 g 0 0) (l:List UInt8) (hl:l.length≤2^46) :
  HCall Tryz.prog 215 [encS w,.sl 9 (qs.map J0J),.op 50 g 0 0] (hp [(50,g,bldB p (.own 51 g1 0 l.length)),(51,g1,⟨5,1,BY l⟩)])
   (fun r h=>r=.tup []∧∃ p' g',(p'=J1T∨p'=.op 50 g 0 0)∧h=hp [(50,g,bldB p' (.own 51 g' 0 (l++eqsL w qs).length)),(51,g',⟨5,1,BY (l++eqsL w qs)⟩)]):=by
 refine J35 (E:=E 0) J5k (JM3 0) Tryz.func215 rfl (by rfl) (Nat.le_of_ble_eq_true rfl) ?_;have hml:=@List.length_map _ _ qs J0J;generalize hR:l++eqsL w qs=R;(refine kWQ ?_;repeat intro γ)
 refine LoopP.intro (fun k σ H=>∃ p' g1 i,∃ t:List UInt8,k=qs.length-i∧i≤qs.length∧t.length≤i*2^36+2^46∧(p'=J1T∨p'=.op 50 g 0 0)∧t++eqsL w (qs.drop i)=R ∧
   σ=fr [(0,encS w),(2,.op 50 g 0 0),(7,.sl 9 (qs.map J0J)),(8,encI qs.length),(9,encI i)] ∧
   H=hp [(50,g,bldB p' (.own 51 g1 0 t.length)),(51,g1,⟨5,1,BY t⟩)]) ?_ ?_
 ·exact .intro (W.of ⟨_,p,g1,0,l,rfl,Nat.zero_le _,by omega,hpf,hR,rfl,rfl⟩ ⟨rfl,rfl,rfl,rfl,rfl,trivial⟩ ⟨rfl,rfl,trivial⟩)
 ·rintro k σ H ⟨p',g1,i,t,rfl,hi,ht,hpf,hT,rfl,rfl⟩
  rcases Nat.lt_or_ge i qs.length with h1 | h1
  ·rw[List.drop_eq_getElem_cons h1] at hT;have hqi:=hq _ (List.getElem_mem h1);have hs1:=J8e _ hqi.l.1 hqi.l.2.1 hqi.l.2.2.1 hqi.l.2.2.2;have hs2:=J8e _ hqi.r.1 hqi.r.2.1 hqi.r.2.2.1 hqi.r.2.2.2;have hz:=J5c hw hqi;have hz1:=J0Z hqi.l.2.1 hqi.l.2.2.1 hqi.l.2.2.2;have hz2:=J0Z hqi.r.2.1 hqi.r.2.2.1 hqi.r.2.2.2;have hzn:=hqi.n;rw[J04] at hs1 hs2;(refine kWO ?_;repeat intro γ)
   (simp (disch:=omega) only [LG];refine kW ?_)
   (refine kO ?_;repeat intro γ);generalize qs[i]=q at *;obtain ⟨qn,ql,qr⟩:=q;simp only at hs1 hs2 hz1 hz2 hzn;unfold eqsL at hT;unfold eqF at hT hz;simp only[b1] at hT hz;generalize showF ql=sl at *;generalize showF qr=sr at *;have z1:({ data:=#[32] }:ByteArray).size=1:=rfl;have z2:({ data:=#[10] }:ByteArray).size=1:=rfl;have y1:=J01 w { data:=#[32] };have y2:=J01 (w++{ data:=#[32] }) qn;have y3:=J01 (w++{ data:=#[32] }++qn) { data:=#[32] };have y4:=J01 (w++{ data:=#[32] }++qn++{ data:=#[32] }) sl;have y5:=J01 (w++{ data:=#[32] }++qn++{ data:=#[32] }++sl) { data:=#[32] };have y6:=J01 (w++{ data:=#[32] }++qn++{ data:=#[32] }++sl++{ data:=#[32] }) sr;have y7:=J01 (w++{ data:=#[32] }++qn++{ data:=#[32] }++sl++{ data:=#[32] }++sr) { data:=#[10] };refine J0x [(16,false),(17,true)] (by kernel_rfl) ?_;(refine kWQ ?_;repeat intro γ);refine CallG.intro _ c216 hs1 ?_;(refine kWQ ?_;repeat intro γ);refine CallG.intro _ c216 hs2 ?_;(refine kWQ ?_;repeat intro γ);refine J4T (b:=50) (g:=g) (d:=51) (g0:=g1) (p:=p') (l:=t) (w++{ data:=#[32] }++qn++{ data:=#[32] }++sl++{ data:=#[32] }++sr++{ data:=#[10] }) (by kernel_rfl) rfl hpf rfl (by decide) (by omega) fun γ=>⟨[(6,_,⟨44,9,[J0J ⟨qn,ql,qr⟩]⟩),(50,g,_),(51,γ,_)],⟨rfl,rfl,rfl,trivial⟩,?_⟩;(refine kWQ ?_;repeat intro γ);obtain ⟨z,hzz⟩:∃ z,w++{ data:=#[32] }++qn++{ data:=#[32] }++sl++{ data:=#[32] }++sr++{ data:=#[10] }=z:=⟨_,rfl⟩;rw[hzz] at hT hz ⊢;have hzl:z.data.toList.length=z.size:=rfl
   refine .intro <| W.of ⟨_,by omega,.op 50 g 0 0,γ,i+1,t++z.data.toList,rfl,h1,by rw[List.length_append,hzl];omega,.inr rfl,by rw[List.append_assoc];exact hT,rfl,rfl⟩ ⟨rfl,rfl,rfl,rfl,rfl,trivial⟩ ⟨rfl,rfl,trivial⟩
  ·rw[List.drop_eq_nil_of_le h1] at hT;(refine kWQ ?_;repeat intro γ);refine EndH.of (m:=[(50,g,bldB p' (.own 51 g1 0 t.length)),(51,g1,⟨5,1,BY t⟩)]) ⟨rfl,rfl,trivial⟩ ⟨rfl,p',g1,hpf,?_⟩;rw[← hT];unfold eqsL;rw[List.append_nil]
def J3K:List Va→List UInt8
 | []=>[]
 | v::r=>(lineF v).data.toList++J3K r
def actB (a:Ac):ByteArray:=b1 32++wAct.getD a.kind.toNat ⟨#[]⟩++b1 32++a.var++b1 32++showF a.value
def JAt:List Ac→List UInt8
 | []=>[]
 | a::r=>(actB a).data.toList++JAt r
def whenB (w:Whn):ByteArray:=⟨#[119,104,101,110,32]⟩++w.name++b1 32++showF w.cond
def J3I:List Whn→List UInt8
 | []=>[]
 | w::r=>(whenB w).data.toList++(JAt w.acts++([10]++J3I r))
def wEq:ByteArray:=⟨#[101,113]⟩
def wInit:ByteArray:=⟨#[105,110,105,116]⟩
def J5w (s:Sys):List UInt8:=J3K s.vars++eqsL wEq s.eqs++eqsL wInit s.inits++J3I s.whens
def ExOk (e:Ex):Prop:=SzE e∧TxE e∧builtF e=true∧wtF e≤1000
structure AcOk (a:Ac):Prop where
 k:0≤a.kind∧a.kind≤1
 n:a.var.size<2^35
 e:ExOk a.value
structure WnOk (w:Whn):Prop where
 n:w.name.size<2^35
 e:ExOk w.cond
 l:w.acts.length≤20
 a:∀ a∈w.acts,AcOk a
structure VaOk (v:Va):Prop where
 s:v.name.size<2^35∧v.value.size<2^35∧v.start.size<2^35∧v.unit.size<2^35
 k:0≤v.kind∧v.kind≤3
 t:0≤v.type∧v.type≤1
structure TextOk (s:Sys):Prop where
 lv:s.vars.length≤120
 lq:s.eqs.length≤120
 ln:s.inits.length≤120
 lw:s.whens.length≤120
 v:∀ v∈s.vars,VaOk v
 q:∀ q∈s.eqs,QnOk q
 n:∀ q∈s.inits,QnOk q
 w:∀ w∈s.whens,WnOk w
theorem J7y {v:Va} (h:VaOk v):(lineF v).size≤2^37+310:=by
 obtain ⟨h1,h2⟩:=JCn v h.s;have hj:=J21 (J5K v) (b1 32);have h32:(b1 32).size=1:=rfl;have h10:(b1 10).size=1:=rfl;unfold lineF;rw[J01,h10];rw[h32] at hj;omega
theorem J93 {w:ByteArray} (hw:w.size≤10):∀ {qs:List Eqn},(∀ q∈qs,QnOk q)→(eqsL w qs).length≤qs.length*2^36
 | [],_=>by simp[eqsL]
 | q::r,h=>by
   have h1:=J5c hw (h q (by simp));have h2:=J93 hw (qs:=r) fun x hx=>h x (by simp[hx]);unfold eqsL;rw[List.length_append,List.length_cons,Nat.succ_mul];have e:(eqF w q).data.toList.length=(eqF w q).size:=rfl;omega
theorem CallP.eqs {S:Blk} {gs g g1:Nat} {p:AV} (hpf:p=J1T∨p=.op 3 g 0 0) (w:ByteArray) (hw:w.size≤10) {qs:List Eqn} (hq:∀ q∈qs,QnOk q) (hn:qs.length≤120) {t:List UInt8} (ht:t.length≤2^46) {args:List AV} {C:AV→Hp→Prop}
  (ha:args=[encS w,.sl 9 (qs.map J0J),.op 3 g 0 0])
  (hC:∀ p' g',(p'=J1T∨p'=.op 3 g 0 0)→C (.tup []) (hp [(1,gs,S),(3,g,bldB p' (.own 100 g' 0 (t++eqsL w qs).length)),(100,g',⟨5,1,BY (t++eqsL w qs)⟩)])) :
  CallP (E 0) 215 args (hp [(1,gs,S),(3,g,bldB p (.own 100 g1 0 t.length)),(100,g1,⟨5,1,BY t⟩)]) C:=by
 subst ha
 have key:∀ p0,(p0=J1T∨p0=.op 50 g 0 0)→p=mv (fun b=>some (fwd 1000000 [(50,3),(51,100)] b)) 2 p0→CallP (E 0) 215 [encS w,.sl 9 (qs.map J0J),.op 3 g 0 0] (hp [(1,gs,S),(3,g,bldB p (.own 100 g1 0 t.length)),(100,g1,⟨5,1,BY t⟩)]) C:=by
  intro p0 h0 hp0;refine CallP.frame 1000000 [(50,3),(51,100)] rfl c215 (JIJ w hw qs hq hn p0 g g1 h0 t ht) rfl ⟨?_,J0Q (fun b:UInt8=>AV.val (.int .u8 (b.toNat:Int))) _ (fun _=>rfl) ..,trivial⟩ ?_
  ·rcases h0 with rfl | rfl
   ·subst hp0;rfl
   ·subst hp0;rfl
  ·rintro r0 h' ⟨rfl,p',g',h2,rfl⟩;refine ⟨[(1,gs,S),(3,g,bldB (mv (fun b=>some (fwd 1000000 [(50,3),(51,100)] b)) 2 p') (.own 100 g' 0 (t++eqsL w qs).length)),(100,g',⟨5,1,BY (t++eqsL w qs)⟩)],⟨rfl,rfl,J0Q (fun b:UInt8=>AV.val (.int .u8 (b.toNat:Int))) _ (fun _=>rfl) ..,trivial⟩,hC _ _ ?_⟩
   rcases h2 with rfl | rfl
   ·exact .inl rfl
   ·exact .inr rfl
 rcases hpf with rfl | rfl
 ·exact key J1T (.inl rfl) rfl
 ·exact key (.op 50 g 0 0) (.inr rfl) rfl
theorem JDe (s:Sys) (h:TextOk s):PureCall Tryz.prog 108 [J0M s] (.val (.string ⟨(J5w s).toArray⟩)):=by
 refine PC [] Tryz.func108 rfl (by rfl) rfl ?_;generalize hR:J5w s=R;unfold J5w at hR;obtain ⟨vs,qs,ns,ws⟩:=s;obtain ⟨lv,lq,ln,lw,hv,hq,hn,hw⟩:=h;simp only at lv lq ln lw hv hq hn hw hR;unfold J0M;simp only;have mv1:=@List.length_map _ _ vs encV;have mw1:=@List.length_map _ _ ws J0Y;obtain ⟨LV,hLV⟩:∃ z,J3K vs=z:=⟨_,rfl⟩;rw[hLV] at hR;have nq:=J93 (w:=wEq) (by decide) hq;have nn:=J93 (w:=wInit) (by decide) hn;(refine kWQ ?_;repeat intro γ)
 refine LoopP.intro (fun k σ H=>∃ g p' g1 gs i,∃ t:List UInt8,k=vs.length-i∧i≤vs.length∧t.length≤i*(2^37+310)∧(p'=J1T∨p'=.op 3 g 0 0)∧t++J3K (vs.drop i)=LV ∧
   σ=fr [(1,.op 1 gs 0 0),(3,.op 3 g 0 0),(12,.sl 7 (vs.map encV)),(13,encI vs.length),(14,encI i)] ∧
   H=hp [(1,gs,⟨26,4,[.agg [.sl 7 (vs.map encV),.sl 9 (qs.map J0J),.sl 9 (ns.map J0J),.sl 6 (ws.map J0Y)]]⟩),(3,g,bldB p' (.own 100 g1 0 t.length)),(100,g1,⟨5,1,BY t⟩)]) ?_ ?_
 ·exact .intro (JMv 3 γ 0 1 100 5 1 ⟨278,2,[.agg [J1T,.val (.slice none 0 0)]]⟩ [J1T,.val (.slice none 0 0)] rfl rfl rfl rfl (by decide) fun g1=>W.of ⟨_,γ,J1T,g1,_,0,[],rfl,Nat.zero_le _,by simp,.inl rfl,hLV,rfl,rfl⟩ ⟨rfl,rfl,rfl,rfl,rfl,trivial⟩ ⟨rfl,rfl,rfl,trivial⟩)
 rintro k σ H ⟨g,p',g1,gs,i,t,rfl,hi,ht,hpf,hT,rfl,rfl⟩
 rcases Nat.lt_or_ge i vs.length with h1 | h1
 ·rw[List.drop_eq_getElem_cons h1] at hT;have hvi:=hv _ (List.getElem_mem h1);have hl:=JL5 _ hvi.s hvi.k hvi.t;have hz:=J7y hvi;(refine kWO ?_;repeat intro γ)
  (simp (disch:=omega) only [LG];refine kW ?_)
  (refine kO ?_;repeat intro γ);generalize vs[i]=v at *;unfold J3K at hT;refine CallP.flat [] _ c214 hl rfl ?_;generalize lineF v=z at *;(refine kWO ?_;repeat intro γ);have hzl:z.data.toList.length=z.size:=rfl;refine J4T (b:=3) (g:=g) (d:=100) (g0:=g1) (p:=p') (l:=t) z (by kernel_rfl) rfl hpf rfl (by decide) (by omega) fun γ2=>⟨[(1,gs,_),(3,g,_),(100,γ2,_)],⟨rfl,rfl,rfl,trivial⟩,?_⟩;(refine kWO ?_;repeat intro γ)
  exact .intro <| W.of ⟨_,by omega,g,.op 3 g 0 0,γ2,gs,i+1,t++z.data.toList,rfl,h1,by rw[List.length_append,hzl];omega,.inr rfl,by rw[List.append_assoc];exact hT,rfl,rfl⟩ ⟨rfl,rfl,rfl,rfl,rfl,trivial⟩ ⟨rfl,rfl,rfl,trivial⟩
 ·rw[List.drop_eq_nil_of_le h1] at hT;unfold J3K at hT;rw[List.append_nil] at hT;subst hT;clear hLV;have ht:t.length≤2^45:=by omega
  (refine kWO ?_;repeat intro γ);refine CallP.eqs hpf wEq (by decide) hq lq (by omega) (by kernel_rfl) fun p2 g2 hpf=>?_;obtain ⟨t2,hT2⟩:∃ z,t++eqsL wEq qs=z:=⟨_,rfl⟩;have ht2:t2.length≤t.length+qs.length*2^36:=by rw[← hT2,List.length_append];omega
  rw[hT2] at hR ⊢;(refine kWO ?_;repeat intro γ);refine CallP.eqs hpf wInit (by decide) hn ln (by omega) (by kernel_rfl) fun p3 g3 hpf=>?_;obtain ⟨t3,hT3⟩:∃ z,t2++eqsL wInit ns=z:=⟨_,rfl⟩;have ht3:t3.length≤t2.length+ns.length*2^36:=by rw[← hT3,List.length_append];omega
  rw[hT3] at hR ⊢;(refine kWO ?_;repeat intro γ)
  refine LoopP.intro (fun k σ H=>∃ p' g1 i,∃ t:List UInt8,k=ws.length-i∧i≤ws.length∧t.length≤2^45+i*(22*(2^35+2^32+20))∧(p'=J1T∨p'=.op 3 g 0 0)∧t++J3I (ws.drop i)=R ∧
   σ=fr [(3,.op 3 g 0 0),(32,.sl 6 (ws.map J0Y)),(33,encI ws.length),(34,encI i)] ∧
   H=hp [(3,g,bldB p' (.own 100 g1 0 t.length)),(100,g1,⟨5,1,BY t⟩)]) ?_ ?_
  ·exact .intro (W.of ⟨_,p3,g3,0,t3,rfl,Nat.zero_le _,by omega,hpf,hR,rfl,rfl⟩ ⟨rfl,rfl,congrArg (fun n:Nat=>encI n) mw1,rfl,trivial⟩ ⟨rfl,rfl,trivial⟩)
  clear hT2 hT3 hR nq nn ht ht2 ht3 hpf;rintro k σ H ⟨p',g1,i,t,rfl,hi,ht,hpf,hT,rfl,rfl⟩
  rcases Nat.lt_or_ge i ws.length with h1 | h1
  ·rw[List.drop_eq_getElem_cons h1] at hT;have hwi:=hw _ (List.getElem_mem h1);have hs1:=J8e _ hwi.e.1 hwi.e.2.1 hwi.e.2.2.1 hwi.e.2.2.2;have hz1:=J0Z hwi.e.2.1 hwi.e.2.2.1 hwi.e.2.2.2;rw[J04] at hs1;(refine kWO ?_;repeat intro γ)
   (simp (disch:=omega) only [LG];refine kW ?_)
   (refine kO ?_;repeat intro γ);generalize ws[i]=wh at *;obtain ⟨wn,wc,ats⟩:=wh;obtain ⟨hwn,_,hal,hac⟩:=hwi;simp only at hs1 hz1 hwn hal hac;rw[J3I] at hT;simp only[whenB,b1] at hT;generalize showF wc=sl at *;have z1:({ data:=#[32] }:ByteArray).size=1:=rfl;have z2:({ data:=#[119,104,101,110,32] }:ByteArray).size=5:=rfl;have y1:=J01 { data:=#[119,104,101,110,32] } wn;have y2:=J01 ({ data:=#[119,104,101,110,32] }++wn) { data:=#[32] };have y3:=J01 ({ data:=#[119,104,101,110,32] }++wn++{ data:=#[32] }) sl;refine J0x [(8,false),(9,true)] (by kernel_rfl) ?_;(refine kWQ ?_;repeat intro γ);refine CallG.intro _ c216 hs1 ?_;(refine kWQ ?_;repeat intro γ);refine J4T (b:=3) (g:=g) (d:=100) (g0:=g1) (p:=p') (l:=t) ({ data:=#[119,104,101,110,32] }++wn++{ data:=#[32] }++sl) (by kernel_rfl) rfl hpf rfl (by decide) (by omega) fun γ2=>⟨[(3,g,_),(8,_,⟨163,6,[.agg (encS wn::(J1I wc++[.sl 6 (ats.map J4w)]))]⟩),(100,γ2,_)],⟨rfl,rfl,rfl,trivial⟩,?_⟩;obtain ⟨z,hzz⟩:∃ z,{ data:=#[119,104,101,110,32] }++wn++{ data:=#[32] }++sl=z:=⟨_,rfl⟩;rw[hzz] at hT y3 ⊢;have hzl:z.data.toList.length=z.size:=rfl;obtain ⟨X,hX⟩:∃ z,[10]++J3I (ws.drop (i+1))=z:=⟨_,rfl⟩;rw[hX,← List.append_assoc] at hT;obtain ⟨t2,ht2⟩:∃ z2,t++z.data.toList=z2:=⟨_,rfl⟩;have htl:t2.length≤2^45+i*(22*(2^35+2^32+20))+2^35+2^32+20:=by rw[← ht2,List.length_append,hzl];omega
   rw[ht2] at hT ⊢;clear hzz y1 y2 y3 hzl ht2 ht;have ma1:=@List.length_map _ _ ats J4w;(refine kWO ?_;repeat intro γ)
   refine LoopP.intro (fun k σ H=>∃ p' g1 j,∃ t:List UInt8,k=ats.length-j∧j≤ats.length∧t.length≤2^45+i*(22*(2^35+2^32+20))+2^35+2^32+20+j*(2^35+2^32+20)∧(p'=J1T∨p'=.op 3 g 0 0)∧t++(JAt (ats.drop j)++X)=R ∧
    σ=fr [(3,.op 3 g 0 0),(32,.sl 6 (ws.map J0Y)),(33,encI ws.length),(34,encI i),(48,.sl 6 (ats.map J4w)),(49,encI ats.length),(50,encI j)] ∧
    H=hp [(3,g,bldB p' (.own 100 g1 0 t.length)),(100,g1,⟨5,1,BY t⟩)]) ?_ ?_
   ·exact .intro (W.of ⟨_,.op 3 g 0 0,γ2,0,t2,rfl,Nat.zero_le _,by omega,.inr rfl,hT,rfl,rfl⟩ ⟨rfl,rfl,rfl,rfl,rfl,congrArg (fun n:Nat=>encI n) ma1,rfl,trivial⟩ ⟨rfl,rfl,trivial⟩)
   clear hT htl hs1 hz1 hpf;rintro k σ H ⟨p',g1,j,t,rfl,hj,ht,hpf,hT,rfl,rfl⟩
   rcases Nat.lt_or_ge j ats.length with h2 | h2
   ·rw[List.drop_eq_getElem_cons h2] at hT;have hai:=hac _ (List.getElem_mem h2);have hs1:=J8e _ hai.e.1 hai.e.2.1 hai.e.2.2.1 hai.e.2.2.2;have hz1:=J0Z hai.e.2.1 hai.e.2.2.1 hai.e.2.2.2;rw[J04] at hs1;(refine kWO ?_;repeat intro γ)
    (simp (disch:=omega) only [LG];refine kW ?_)
    (refine kO ?_;repeat intro γ);generalize ats[j]=ac at *;obtain ⟨ak,av,ae⟩:=ac;obtain ⟨hk,hvs,_⟩:=hai;simp only at hs1 hz1 hk hvs;rw[JAt] at hT;simp only[actB,b1] at hT;generalize showF ae=sl at *
    have gk:(wAct.map encS).getD ak.toNat .dead=encS (wAct.getD ak.toNat ⟨#[]⟩):=by
     have:ak.toNat<wAct.length:=by show _<2;omega
     rw[List.getD_eq_getElem?_getD,List.getElem?_map,List.getD_eq_getElem?_getD,List.getElem?_eq_getElem this];rfl
    have kw:(wAct.getD ak.toNat ⟨#[]⟩).size≤6:=by
     have:ak.toNat=0∨ak.toNat=1:=by omega
     rcases this with h | h<;>rw[h]<;>decide
    have lk:(wAct.map encS).length=2:=rfl;have hAW:=JLo;generalize wAct.map encS=ks at *;generalize wAct.getD ak.toNat ⟨#[]⟩=wa at *;have y1:=J01 { data:=#[32] } wa;have y2:=J01 ({ data:=#[32] }++wa) { data:=#[32] };have y3:=J01 ({ data:=#[32] }++wa++{ data:=#[32] }) av;have y4:=J01 ({ data:=#[32] }++wa++{ data:=#[32] }++av) { data:=#[32] };have y5:=J01 ({ data:=#[32] }++wa++{ data:=#[32] }++av++{ data:=#[32] }) sl;refine J0x [(15,false),(16,true)] (by kernel_rfl) ?_;(refine kWQ ?_;repeat intro γ);refine CallG.intro _ c217 hAW ?_;(refine kWQ ?_;repeat intro γ);rw[gk];(refine kWQ ?_;repeat intro γ);refine CallG.intro _ c216 hs1 ?_;(refine kWQ ?_;repeat intro γ);refine J4T (b:=3) (g:=g) (d:=100) (g0:=g1) (p:=p') (l:=t) ({ data:=#[32] }++wa++{ data:=#[32] }++av++{ data:=#[32] }++sl) (by kernel_rfl) rfl hpf rfl (by decide) (by omega) fun γ2=>⟨[(3,g,_),(100,γ2,_)],⟨rfl,rfl,trivial⟩,?_⟩;obtain ⟨z,hzz⟩:∃ z,{ data:=#[32] }++wa++{ data:=#[32] }++av++{ data:=#[32] }++sl=z:=⟨_,rfl⟩;rw[hzz] at hT y5 ⊢;have hzl:z.data.toList.length=z.size:=rfl;(refine kWO ?_;repeat intro γ)
    refine .intro <| W.of ⟨_,by omega,.op 3 g 0 0,γ2,j+1,t++z.data.toList,rfl,h2,by rw[List.length_append,hzl];omega,.inr rfl,by rw[List.append_assoc,← List.append_assoc z.data.toList];exact hT,rfl,rfl⟩ ⟨rfl,rfl,rfl,rfl,rfl,rfl,rfl,trivial⟩ ⟨rfl,rfl,trivial⟩
   ·rw[List.drop_eq_nil_of_le h2] at hT;rw[JAt,List.nil_append,← hX,← List.append_assoc] at hT;(refine kWO ?_;repeat intro γ);refine J4T (b:=3) (g:=g) (d:=100) (g0:=g1) (p:=p') (l:=t) { data:=#[10] } (by kernel_rfl) rfl hpf rfl (by decide) (by show _+1≤_;omega) fun γ2=>⟨[(3,g,_),(100,γ2,_)],⟨rfl,rfl,trivial⟩,?_⟩;(refine kWO ?_;repeat intro γ)
    refine .intro <| W.of ⟨_,by omega,.op 3 g 0 0,γ2,i+1,t++[10],rfl,h1,by rw[List.length_append];show _+1≤_;omega,.inr rfl,hT,rfl,rfl⟩ ⟨rfl,rfl,rfl,rfl,trivial⟩ ⟨rfl,rfl,trivial⟩
  ·rw[List.drop_eq_nil_of_le h1] at hT;rw[J3I,List.append_nil] at hT;subst hT;(refine kWO ?_;repeat intro γ);refine CallP.own c218 (HCall.mono (JEb (b:=3) (g:=g) (d:=100) (g0:=g1) (p:=p') (l:=t) rfl (by rcases hpf with rfl | rfl<;>rfl) rfl) ?_);rintro r h' ⟨rfl,rfl⟩;refine ⟨hp [],fun _=>.inr rfl,?_⟩;(refine kWO ?_;repeat intro γ);exact .of rfl
theorem JGG:PureCall Tryz.prog 219 [] (.sl 1 (wKind.map encS)):=by
 exact J1E J7T (fuel:=60) (n:=3) (by kernel_rfl)
theorem JFB:PureCall Tryz.prog 220 [] (.sl 1 (wType.map encS)):=by
 exact J1E J7T (fuel:=60) (n:=3) (by kernel_rfl)
def partF (w s:ByteArray):ByteArray:=if s=⟨#[]⟩ then ⟨#[]⟩ else b1 32++w++b1 61++s
theorem J4n (w s:ByteArray):(partF w s).size≤w.size+s.size+2:=by
 have a:(b1 32).size=1:=rfl;have b:(b1 61).size=1:=rfl;unfold partF;split
 ·exact Nat.zero_le _
 ·rw[J01,J01,J01,a,b];omega
theorem JBc (w s:ByteArray) (hw:w.size≤100) (hs:s.size<2^35):PureCall Tryz.prog 221 [encS w,encS s] (encS (partF w s)):=by
 refine PC [] Tryz.func221 rfl (by rfl) rfl ?_;generalize hF:partF w s=F;unfold partF at hF;have z1:({ data:=#[32] }:ByteArray).size=1:=rfl;have z2:({ data:=#[61] }:ByteArray).size=1:=rfl;have y1:=J01 { data:=#[32] } w;have y2:=J01 ({ data:=#[32] }++w) { data:=#[61] };have y3:=J01 ({ data:=#[32] }++w++{ data:=#[61] }) s;refine kWQ ?_;intros;refine CondP.dec (fun h1=>?_) (fun h1=>?_)<;>refine kW ?_
 ·rw[if_pos h1] at hF;refine kQ ?_;intros;exact .of (by rw[← hF];rfl)
 ·rw[if_neg h1] at hF;refine kQ ?_;intros;exact .of (by rw[← hF];rfl)
theorem J76 (w s:ByteArray) {l:List ByteArray} (hl:l≠[]):joinB (addW (w++b1 61) s l) (b1 32)=joinB l (b1 32)++partF w s:=by
 unfold addW partF;split
 ·rw[J4M]
 ·rw[J4s _ hl];simp only[ByteArray.append_assoc]
theorem JHQ (w s:ByteArray) {l:List ByteArray} (hl:l≠[]):addW w s l≠[]:=by
 unfold addW;split
 ·exact hl
 ·simp
def bFix:ByteArray:=⟨#[32,102,105,120,101,100]⟩
def JIy (v:Va):ByteArray:=⟨#[118,97,114,32]⟩++v.name++b1 32++wKind.getD v.kind.toNat ⟨#[]⟩++b1 32++wType.getD v.type.toNat ⟨#[]⟩
theorem JIm (v:Va):lineF v=JIy v++partF ⟨#[118,97,108,117,101]⟩ v.value++partF ⟨#[115,116,97,114,116]⟩ v.start++(if v.fixed=true then bFix else ⟨#[]⟩)++partF ⟨#[117,110,105,116]⟩ v.unit++b1 10:=by
 have e1:(⟨#[118,97,108,117,101,61]⟩:ByteArray)=⟨#[118,97,108,117,101]⟩++b1 61:=by kernel_rfl
 have e2:(⟨#[115,116,97,114,116,61]⟩:ByteArray)=⟨#[115,116,97,114,116]⟩++b1 61:=by kernel_rfl
 have e3:(⟨#[117,110,105,116,61]⟩:ByteArray)=⟨#[117,110,105,116]⟩++b1 61:=by kernel_rfl
 have e4:joinB [⟨#[118,97,114]⟩,v.name,wKind.getD v.kind.toNat ⟨#[]⟩,wType.getD v.type.toNat ⟨#[]⟩] (b1 32)=JIy v:=by
  unfold JIy;rw[show (⟨#[118,97,114,32]⟩:ByteArray)=⟨#[118,97,114]⟩++b1 32 by kernel_rfl];rw[show [(⟨#[118,97,114]⟩:ByteArray),v.name,wKind.getD v.kind.toNat ⟨#[]⟩,wType.getD v.type.toNat ⟨#[]⟩]=(⟨#[118,97,114]⟩::[v.name,wKind.getD v.kind.toNat ⟨#[]⟩])++[wType.getD v.type.toNat ⟨#[]⟩] from rfl,J5Z];rw[show (⟨#[118,97,114]⟩:ByteArray)::[v.name,wKind.getD v.kind.toNat ⟨#[]⟩]=(⟨#[118,97,114]⟩::[v.name])++[wKind.getD v.kind.toNat ⟨#[]⟩] from rfl,J5Z];rw[show (⟨#[118,97,114]⟩:ByteArray)::[v.name]=(⟨#[118,97,114]⟩::[])++[v.name] from rfl,J5Z,JA7]
 have e5:∀ l:List ByteArray,l≠[]→joinB (if v.fixed=true then l++[⟨#[102,105,120,101,100]⟩] else l) (b1 32)=joinB l (b1 32)++(if v.fixed=true then bFix else ⟨#[]⟩):=by
  intro l hl;split
  ·rw[J4s _ hl,ByteArray.append_assoc];rfl
  ·rw[J4M]
 unfold lineF J5K;simp only;rw[e1,e2,e3];have n0:[(⟨#[118,97,114]⟩:ByteArray),v.name,wKind.getD v.kind.toNat ⟨#[]⟩,wType.getD v.type.toNat ⟨#[]⟩]≠[]:=by simp
 have n1:=JHQ (⟨#[118,97,108,117,101]⟩++b1 61) v.value n0;have n2:=JHQ (⟨#[115,116,97,114,116]⟩++b1 61) v.start n1
 have n3:(if v.fixed=true then addW (⟨#[115,116,97,114,116]⟩++b1 61) v.start (addW (⟨#[118,97,108,117,101]⟩++b1 61) v.value [⟨#[118,97,114]⟩,v.name,wKind.getD v.kind.toNat ⟨#[]⟩,wType.getD v.type.toNat ⟨#[]⟩])++[⟨#[102,105,120,101,100]⟩]
   else addW (⟨#[115,116,97,114,116]⟩++b1 61) v.start (addW (⟨#[118,97,108,117,101]⟩++b1 61) v.value [⟨#[118,97,114]⟩,v.name,wKind.getD v.kind.toNat ⟨#[]⟩,wType.getD v.type.toNat ⟨#[]⟩]))≠[]:=by
  split
  ·simp
  ·exact n2
 rw[J76 _ _ n3,e5 _ n2,J76 _ _ n1,J76 _ _ n0,e4]
def JBM (k:Int):ByteArray:=if k=1 then ⟨#[32,114,101,105,110,105,116,32]⟩ else ⟨#[32,97,115,115,105,103,110,32]⟩
theorem JLp (a:Ac) (hk:0≤a.kind∧a.kind≤1):actB a=JBM a.kind++a.var++b1 32++showF a.value:=by
 have:b1 32++wAct.getD a.kind.toNat ⟨#[]⟩++b1 32=JBM a.kind:=by
  have key:∀ k:Int,k=0∨k=1→b1 32++wAct.getD k.toNat ⟨#[]⟩++b1 32=JBM k:=by
   intro k h
   rcases h with rfl | rfl
   ·kernel_rfl
   ·kernel_rfl
  exact key _ (by omega)
 unfold actB;rw[this]
theorem JGB (out:ByteArray) (v:Va):(out++⟨#[118,97,114,32]⟩++v.name++b1 32++wKind.getD v.kind.toNat ⟨#[]⟩++b1 32++wType.getD v.type.toNat ⟨#[]⟩++partF ⟨#[118,97,108,117,101]⟩ v.value++partF ⟨#[115,116,97,114,116]⟩ v.start)
  ++ (if v.fixed=true then bFix else ⟨#[]⟩)++partF ⟨#[117,110,105,116]⟩ v.unit++b1 10=out++lineF v:=by
 rw[JIm];unfold JIy;simp only[ByteArray.append_assoc]
theorem JGg (w out:ByteArray) (q:Eqn):out++(w++b1 32)++q.name++b1 32++showF q.left++b1 32++showF q.right++b1 10=out++eqF w q:=by
 unfold eqF;simp only[ByteArray.append_assoc]
theorem JF3 (out:ByteArray) (w:Whn):out++⟨#[119,104,101,110,32]⟩++w.name++b1 32++showF w.cond=out++whenB w:=by
 unfold whenB;simp only[ByteArray.append_assoc]
theorem JJa (out:ByteArray) (a:Ac) (hk:0≤a.kind∧a.kind≤1):out++JBM a.kind++a.var++b1 32++showF a.value=out++actB a:=by
 rw[JLp a hk];simp only[ByteArray.append_assoc]
theorem JII (s:Sys) (h:TextOk s):PureCall Tryz.prog 109 [J0M s] (.val (.string ⟨(J5w s).toArray⟩)):=by
 refine PC [] Tryz.func109 rfl (by rfl) rfl ?_;generalize hR:J5w s=R;unfold J5w at hR;obtain ⟨vs,qs,ns,ws⟩:=s;obtain ⟨lv,lq,ln,lw,hv,hq,hn,hw⟩:=h;simp only at lv lq ln lw hv hq hn hw hR;unfold J0M;simp only;have mv1:=@List.length_map _ _ vs encV;have mq1:=@List.length_map _ _ qs J0J;have mn1:=@List.length_map _ _ ns J0J;have mw1:=@List.length_map _ _ ws J0Y;obtain ⟨LV,hLV⟩:∃ z,J3K vs=z:=⟨_,rfl⟩;rw[hLV] at hR;refine kWQ ?_;intros
 refine LoopP.intro (fun k σ H=>∃ gs i,∃ out:ByteArray,k=vs.length-i∧i≤vs.length∧out.size≤i*(2^37+310)∧out.data.toList++J3K (vs.drop i)=LV ∧
   σ=fr [(1,.op 1 gs 0 0),(3,encS out),(4,encI i)]∧H=hp [(1,gs,⟨26,4,[.agg [.sl 7 (vs.map encV),.sl 9 (qs.map J0J),.sl 9 (ns.map J0J),.sl 6 (ws.map J0Y)]]⟩)]) ?_ ?_
 ·exact .intro (W.of ⟨_,_,0,⟨#[]⟩,rfl,Nat.zero_le _,Nat.zero_le _,hLV,rfl,rfl⟩ ⟨rfl,rfl,rfl,trivial⟩ ⟨rfl,trivial⟩)
 rintro k σ H ⟨gs,i,out,rfl,hi,ht,hT,rfl,rfl⟩
 rcases Nat.lt_or_ge i vs.length with h1 | h1
 ·rw[List.drop_eq_getElem_cons h1] at hT;have hvi:=hv _ (List.getElem_mem h1);have hap:=JGB out vs[i];have hlz:=J7y hvi;unfold J3K at hT;refine kWQ ?_;intros;generalize vs[i]=v at *;obtain ⟨⟨q1,q2,q3,q4⟩,hk,hty⟩:=hvi;generalize hLF:lineF v=lf at *;obtain ⟨nm,kd,ty,vl,st,fx,un⟩:=v;simp only at *
  have gk:(wKind.map encS).getD kd.toNat .dead=encS (wKind.getD kd.toNat ⟨#[]⟩):=by
   have:kd.toNat<wKind.length:=by show _<4;omega
   rw[List.getD_eq_getElem?_getD,List.getElem?_map,List.getD_eq_getElem?_getD,List.getElem?_eq_getElem this];rfl
  have gt:(wType.map encS).getD ty.toNat .dead=encS (wType.getD ty.toNat ⟨#[]⟩):=by
   have:ty.toNat<wType.length:=by show _<2;omega
   rw[List.getD_eq_getElem?_getD,List.getElem?_map,List.getD_eq_getElem?_getD,List.getElem?_eq_getElem this];rfl
  have sk:(wKind.getD kd.toNat ⟨#[]⟩).size≤10:=by
   have:kd.toNat=0∨kd.toNat=1∨kd.toNat=2∨kd.toNat=3:=by omega
   rcases this with h | h | h | h<;>rw[h]<;>decide
  have st2:(wType.getD ty.toNat ⟨#[]⟩).size≤10:=by
   have:ty.toNat=0∨ty.toNat=1:=by omega
   rcases this with h | h<;>rw[h]<;>decide
  have lk:(wKind.map encS).length=4:=rfl;have lt:(wType.map encS).length=2:=rfl;have hKW:=JGG;have hTW:=JFB;have sv:=J4n ⟨#[118,97,108,117,101]⟩ vl;have ss:=J4n ⟨#[115,116,97,114,116]⟩ st;have su:=J4n ⟨#[117,110,105,116]⟩ un;have k1:(⟨#[118,97,108,117,101]⟩:ByteArray).size=5:=rfl;have k2:(⟨#[115,116,97,114,116]⟩:ByteArray).size=5:=rfl;have k3:(⟨#[117,110,105,116]⟩:ByteArray).size=4:=rfl;have hpv:=JBc ⟨#[118,97,108,117,101]⟩ vl (by decide) q2;have hps:=JBc ⟨#[115,116,97,114,116]⟩ st (by decide) q3;have hpu:=JBc ⟨#[117,110,105,116]⟩ un (by decide) q4;generalize wKind.map encS=ks at *;generalize wType.map encS=ts at *;generalize wKind.getD kd.toNat ⟨#[]⟩=wk at *;generalize wType.getD ty.toNat ⟨#[]⟩=wt at *;generalize partF ⟨#[118,97,108,117,101]⟩ vl=pv at *;generalize partF ⟨#[115,116,97,114,116]⟩ st=ps at *;generalize partF ⟨#[117,110,105,116]⟩ un=pu at *;rw[k1] at sv;rw[k2] at ss;rw[k3] at su;clear k1 k2 k3;have z0:({ data:=#[118,97,114,32] }:ByteArray).size=4:=rfl;have z1:({ data:=#[32] }:ByteArray).size=1:=rfl;have z2:({ data:=#[32,102,105,120,101,100] }:ByteArray).size=6:=rfl;have z3:({ data:=#[10] }:ByteArray).size=1:=rfl;have y1:=J01 out { data:=#[118,97,114,32] };have y2:=J01 (out++{ data:=#[118,97,114,32] }) nm;have y3:=J01 (out++{ data:=#[118,97,114,32] }++nm) { data:=#[32] };have y4:=J01 (out++{ data:=#[118,97,114,32] }++nm++{ data:=#[32] }) wk;have y5:=J01 (out++{ data:=#[118,97,114,32] }++nm++{ data:=#[32] }++wk) { data:=#[32] };have y6:=J01 (out++{ data:=#[118,97,114,32] }++nm++{ data:=#[32] }++wk++{ data:=#[32] }) wt;have y7:=J01 (out++{ data:=#[118,97,114,32] }++nm++{ data:=#[32] }++wk++{ data:=#[32] }++wt) pv;have y8:=J01 (out++{ data:=#[118,97,114,32] }++nm++{ data:=#[32] }++wk++{ data:=#[32] }++wt++pv) ps;unfold encV;simp only;refine kWQ ?_;intros;refine CallG.intro _ c219 hKW ?_;refine kWQ ?_;intros;rw[gk];refine kWQ ?_;intros;refine CallG.intro _ c220 hTW ?_;refine kWQ ?_;intros;rw[gt];refine kWQ ?_;intros;refine CallG.intro _ c221 hpv ?_;refine kWQ ?_;intros;refine CallG.intro _ c221 hps ?_;refine kWQ ?_;intros;obtain ⟨x,hx⟩:∃ z,out++{ data:=#[118,97,114,32] }++nm++{ data:=#[32] }++wk++{ data:=#[32] }++wt++pv++ps=z:=⟨_,rfl⟩;have hxs:x.size≤i*(2^37+310)+(2^37+310):=by rw[← hx];omega
  have hap':x++(if fx=true then bFix else ⟨#[]⟩)++pu++b1 10=out++lf:=by rw[← hap,← hx];rfl
  rw[hx];clear hx hap y1 y2 y3 y4 y5 y6 y7 y8;have hls:(out++lf).size≤(i+1)*(2^37+310):=by rw[J01];omega
  cases fx
  ·rw[if_neg (by decide),J4M] at hap';have u1:=J01 x pu;have u2:=J01 (x++pu) { data:=#[10] };refine kWQ ?_;intros;refine CallP.flat [] _ c221 hpu rfl ?_;refine kWQ ?_;intros
   refine .intro <| W.of ⟨_,by omega,gs,i+1,out++lf,rfl,h1,hls,by rw[J0q,List.append_assoc];exact hT,rfl,rfl⟩ ⟨rfl,?_,rfl,trivial⟩ ⟨rfl,trivial⟩
   exact congrArg encS hap'
  ·rw[if_pos rfl] at hap';have u1:=J01 x { data:=#[32,102,105,120,101,100] };have u2:=J01 (x++{ data:=#[32,102,105,120,101,100] }) pu;have u3:=J01 (x++{ data:=#[32,102,105,120,101,100] }++pu) { data:=#[10] };refine kWQ ?_;intros;refine CallP.flat [] _ c221 hpu rfl ?_;refine kWQ ?_;intros
   refine .intro <| W.of ⟨_,by omega,gs,i+1,out++lf,rfl,h1,hls,by rw[J0q,List.append_assoc];exact hT,rfl,rfl⟩ ⟨rfl,?_,rfl,trivial⟩ ⟨rfl,trivial⟩
   exact congrArg encS hap'
 rw[List.drop_eq_nil_of_le h1] at hT;unfold J3K at hT;rw[List.append_nil] at hT;subst hT;clear hLV;have b0:out.size≤2^44:=by omega
 obtain ⟨L1,hL1⟩:∃ z,out.data.toList++eqsL wEq qs=z:=⟨_,rfl⟩;rw[hL1] at hR;refine kWQ ?_;intros;clear ht hi h1
 refine LoopP.intro (fun k σ H=>∃ gs i,∃ out:ByteArray,k=qs.length-i∧i≤qs.length∧out.size≤2^44+i*2^36∧out.data.toList++eqsL wEq (qs.drop i)=L1 ∧
   σ=fr [(1,.op 1 gs 0 0),(3,encS out),(6,encI i)]∧H=hp [(1,gs,⟨26,4,[.agg [.sl 7 (vs.map encV),.sl 9 (qs.map J0J),.sl 9 (ns.map J0J),.sl 6 (ws.map J0Y)]]⟩)]) ?_ ?_
 ·exact .intro (W.of ⟨_,_,0,out,rfl,Nat.zero_le _,by omega,hL1,rfl,rfl⟩ ⟨rfl,rfl,rfl,trivial⟩ ⟨rfl,trivial⟩)
 clear hL1 b0;clear out;rintro k σ H ⟨gs,i,out,rfl,hi,ht,hT,rfl,rfl⟩
 rcases Nat.lt_or_ge i qs.length with h1 | h1
 ·rw[List.drop_eq_getElem_cons h1] at hT;have hqi:=hq _ (List.getElem_mem h1);have hs1:=J2y _ hqi.l.1 hqi.l.2.1 hqi.l.2.2.1 hqi.l.2.2.2;have hs2:=J2y _ hqi.r.1 hqi.r.2.1 hqi.r.2.2.1 hqi.r.2.2.2;have hzz:=J5c (w:=wEq) (by decide) hqi;have hz1:=J0Z hqi.l.2.1 hqi.l.2.2.1 hqi.l.2.2.2;have hz2:=J0Z hqi.r.2.1 hqi.r.2.2.1 hqi.r.2.2.2;have hzn:=hqi.n;have hap:=JGg wEq out qs[i];rw[J04] at hs1 hs2;unfold eqsL at hT;generalize eqF wEq qs[i]=ef at *;generalize showF qs[i].left=sl at *;generalize showF qs[i].right=sr at *;have z0:({ data:=#[101,113,32] }:ByteArray).size=3:=rfl;have z1:({ data:=#[32] }:ByteArray).size=1:=rfl;have z2:({ data:=#[10] }:ByteArray).size=1:=rfl;have y1:=J01 out { data:=#[101,113,32] };have y2:=J01 (out++{ data:=#[101,113,32] }) qs[i].name;have y3:=J01 (out++{ data:=#[101,113,32] }++qs[i].name) { data:=#[32] };have y4:=J01 (out++{ data:=#[101,113,32] }++qs[i].name++{ data:=#[32] }) sl;have y5:=J01 (out++{ data:=#[101,113,32] }++qs[i].name++{ data:=#[32] }++sl) { data:=#[32] };have y6:=J01 (out++{ data:=#[101,113,32] }++qs[i].name++{ data:=#[32] }++sl++{ data:=#[32] }) sr;have y7:=J01 (out++{ data:=#[101,113,32] }++qs[i].name++{ data:=#[32] }++sl++{ data:=#[32] }++sr) { data:=#[10] };refine kWQ ?_;intros;refine CallG.intro _ c222 hs1 ?_;refine kWQ ?_;intros;refine CallG.intro _ c222 hs2 ?_;refine kWQ ?_;intros
  refine .intro <| W.of ⟨_,by omega,gs,i+1,out++ef,rfl,h1,by rw[J01];omega,by rw[J0q,List.append_assoc];exact hT,rfl,rfl⟩ ⟨rfl,?_,rfl,trivial⟩ ⟨rfl,trivial⟩
  exact congrArg encS hap
 rw[List.drop_eq_nil_of_le h1] at hT;unfold eqsL at hT;rw[List.append_nil] at hT;subst hT;have b0:out.size≤2^44+2^43:=by omega
 obtain ⟨L2,hL2⟩:∃ z,out.data.toList++eqsL wInit ns=z:=⟨_,rfl⟩;rw[hL2] at hR;refine kWQ ?_;intros;clear ht hi h1
 refine LoopP.intro (fun k σ H=>∃ gs i,∃ out:ByteArray,k=ns.length-i∧i≤ns.length∧out.size≤2^44+2^43+i*2^36∧out.data.toList++eqsL wInit (ns.drop i)=L2 ∧
   σ=fr [(1,.op 1 gs 0 0),(3,encS out),(7,encI i)]∧H=hp [(1,gs,⟨26,4,[.agg [.sl 7 (vs.map encV),.sl 9 (qs.map J0J),.sl 9 (ns.map J0J),.sl 6 (ws.map J0Y)]]⟩)]) ?_ ?_
 ·exact .intro (W.of ⟨_,_,0,out,rfl,Nat.zero_le _,by omega,hL2,rfl,rfl⟩ ⟨rfl,rfl,rfl,trivial⟩ ⟨rfl,trivial⟩)
 clear hL2 b0;clear out;rintro k σ H ⟨gs,i,out,rfl,hi,ht,hT,rfl,rfl⟩
 rcases Nat.lt_or_ge i ns.length with h1 | h1
 ·rw[List.drop_eq_getElem_cons h1] at hT;have hqi:=hn _ (List.getElem_mem h1);have hs1:=J2y _ hqi.l.1 hqi.l.2.1 hqi.l.2.2.1 hqi.l.2.2.2;have hs2:=J2y _ hqi.r.1 hqi.r.2.1 hqi.r.2.2.1 hqi.r.2.2.2;have hzz:=J5c (w:=wInit) (by decide) hqi;have hz1:=J0Z hqi.l.2.1 hqi.l.2.2.1 hqi.l.2.2.2;have hz2:=J0Z hqi.r.2.1 hqi.r.2.2.1 hqi.r.2.2.2;have hzn:=hqi.n;have hap:=JGg wInit out ns[i];rw[J04] at hs1 hs2;unfold eqsL at hT;generalize eqF wInit ns[i]=ef at *;generalize showF ns[i].left=sl at *;generalize showF ns[i].right=sr at *;have z0:({ data:=#[105,110,105,116,32] }:ByteArray).size=5:=rfl;have z1:({ data:=#[32] }:ByteArray).size=1:=rfl;have z2:({ data:=#[10] }:ByteArray).size=1:=rfl;have y1:=J01 out { data:=#[105,110,105,116,32] };have y2:=J01 (out++{ data:=#[105,110,105,116,32] }) ns[i].name;have y3:=J01 (out++{ data:=#[105,110,105,116,32] }++ns[i].name) { data:=#[32] };have y4:=J01 (out++{ data:=#[105,110,105,116,32] }++ns[i].name++{ data:=#[32] }) sl;have y5:=J01 (out++{ data:=#[105,110,105,116,32] }++ns[i].name++{ data:=#[32] }++sl) { data:=#[32] };have y6:=J01 (out++{ data:=#[105,110,105,116,32] }++ns[i].name++{ data:=#[32] }++sl++{ data:=#[32] }) sr;have y7:=J01 (out++{ data:=#[105,110,105,116,32] }++ns[i].name++{ data:=#[32] }++sl++{ data:=#[32] }++sr) { data:=#[10] };refine kWQ ?_;intros;refine CallG.intro _ c222 hs1 ?_;refine kWQ ?_;intros;refine CallG.intro _ c222 hs2 ?_;refine kWQ ?_;intros
  refine .intro <| W.of ⟨_,by omega,gs,i+1,out++ef,rfl,h1,by rw[J01];omega,by rw[J0q,List.append_assoc];exact hT,rfl,rfl⟩ ⟨rfl,?_,rfl,trivial⟩ ⟨rfl,trivial⟩
  exact congrArg encS hap
 rw[List.drop_eq_nil_of_le h1] at hT;unfold eqsL at hT;rw[List.append_nil] at hT;subst hT;have b0:out.size≤2^44+2^43+2^43:=by omega
 refine kWQ ?_;intros;clear ht hi h1
 refine LoopP.intro (fun k σ H=>∃ gs i,∃ out:ByteArray,k=ws.length-i∧i≤ws.length∧out.size≤2^44+2^43+2^43+i*(21*(2^35+2^32+20))∧out.data.toList++J3I (ws.drop i)=R ∧
   σ=fr [(1,.op 1 gs 0 0),(3,encS out),(8,encI i)]∧H=hp [(1,gs,⟨26,4,[.agg [.sl 7 (vs.map encV),.sl 9 (qs.map J0J),.sl 9 (ns.map J0J),.sl 6 (ws.map J0Y)]]⟩)]) ?_ ?_
 ·exact .intro (W.of ⟨_,_,0,out,rfl,Nat.zero_le _,by omega,hR,rfl,rfl⟩ ⟨rfl,rfl,rfl,trivial⟩ ⟨rfl,trivial⟩)
 clear hR b0;clear out;rintro k σ H ⟨gs,i,out,rfl,hi,ht,hT,rfl,rfl⟩
 rcases Nat.lt_or_ge i ws.length with h1 | h1
 ·rw[List.drop_eq_getElem_cons h1] at hT;have hwi:=hw _ (List.getElem_mem h1);have hs1:=J2y _ hwi.e.1 hwi.e.2.1 hwi.e.2.2.1 hwi.e.2.2.2;have hz1:=J0Z hwi.e.2.1 hwi.e.2.2.1 hwi.e.2.2.2;have hap:=JF3 out ws[i];rw[J04] at hs1;refine kWQ ?_;intros;obtain ⟨wh,hwh⟩:∃ z,ws[i]=z:=⟨_,rfl⟩;rw[hwh] at hs1 hz1 hap hT hwi ⊢;obtain ⟨wn,wc,ats⟩:=wh;obtain ⟨hwn,_,hal,hac⟩:=hwi;simp only at hs1 hz1 hwn hal hac hap;rw[J3I] at hT;simp only at hT;generalize whenB ⟨wn,wc,ats⟩=wb at *;generalize showF wc=sl at *;have ma1:=@List.length_map _ _ ats J4w;have z0:({ data:=#[119,104,101,110,32] }:ByteArray).size=5:=rfl;have z1:({ data:=#[32] }:ByteArray).size=1:=rfl;have y1:=J01 out { data:=#[119,104,101,110,32] };have y2:=J01 (out++{ data:=#[119,104,101,110,32] }) wn;have y3:=J01 (out++{ data:=#[119,104,101,110,32] }++wn) { data:=#[32] };have y4:=J01 (out++{ data:=#[119,104,101,110,32] }++wn++{ data:=#[32] }) sl;refine kWQ ?_;intros;refine CallG.intro _ c222 hs1 ?_;refine kWQ ?_;intros;have hxs:(out++wb).size≤2^44+2^43+2^43+i*(21*(2^35+2^32+20))+2^35+2^32+10:=by rw[← hap];show (out++{ data:=#[119,104,101,110,32] }++wn++{ data:=#[32] }++sl).size≤_;omega
  replace hap:(out++{ data:=#[119,104,101,110,32] }++wn++{ data:=#[32] }++sl:ByteArray)=out++wb:=hap;rw[hap];obtain ⟨X,hX⟩:∃ z,[10]++J3I (ws.drop (i+1))=z:=⟨_,rfl⟩;rw[hX,← List.append_assoc,← J0q] at hT;obtain ⟨x,hx⟩:∃ z,out++wb=z:=⟨_,rfl⟩;rw[hx] at hT hxs ⊢;clear hx hap y1 y2 y3 y4 z0 hs1 hz1 ht;refine kWQ ?_;intros
  refine LoopP.intro (fun k σ H=>∃ gs ga j,∃ out:ByteArray,k=ats.length-j∧j≤ats.length∧out.size≤2^44+2^43+2^43+i*(21*(2^35+2^32+20))+2^35+2^32+10+j*(2^35+2^32+20)∧out.data.toList++(JAt (ats.drop j)++X)=R ∧
    σ=fr [(1,.op 1 gs 0 0),(3,encS out),(8,encI i),(9,.op 9 ga 0 0),(10,encI j)]∧H=hp [(1,gs,⟨26,4,[.agg [.sl 7 (vs.map encV),.sl 9 (qs.map J0J),.sl 9 (ns.map J0J),.sl 6 (ws.map J0Y)]]⟩),(9,ga,⟨163,6,[.agg (encS wn::(J1I wc++[.sl 6 (ats.map J4w)]))]⟩)]) ?_ ?_
  ·exact .intro (W.of ⟨_,_,_,0,x,rfl,Nat.zero_le _,by omega,hT,rfl,rfl⟩ ⟨rfl,rfl,rfl,rfl,rfl,trivial⟩ ⟨rfl,rfl,trivial⟩)
  clear hT hxs;clear x gs out;rintro k σ H ⟨gs,ga,j,out,rfl,hj,ht,hT,rfl,rfl⟩
  rcases Nat.lt_or_ge j ats.length with h2 | h2
  ·rw[List.drop_eq_getElem_cons h2] at hT;have hai:=hac _ (List.getElem_mem h2);have hs1:=J2y _ hai.e.1 hai.e.2.1 hai.e.2.2.1 hai.e.2.2.2;have hz1:=J0Z hai.e.2.1 hai.e.2.2.1 hai.e.2.2.2;have hap:=JJa out ats[j] hai.k;rw[J04] at hs1;have hvz:=hai.n;rw[JAt] at hT;generalize actB ats[j]=ab at *;generalize showF ats[j].value=sl at *;have z0:({ data:=#[32] }:ByteArray).size=1:=rfl;have z1:({ data:=#[32,97,115,115,105,103,110,32] }:ByteArray).size=8:=rfl;have z2:({ data:=#[32,114,101,105,110,105,116,32] }:ByteArray).size=8:=rfl
   have key:∀ wd:ByteArray,wd=JBM ats[j].kind→wd.size=8→out.size+wd.size≤140737488355328→out++wd++ats[j].var++{ data:=#[32] }++sl=out++ab∧(out++ab).size≤2^44+2^43+2^43+i*(21*(2^35+2^32+20))+2^35+2^32+10+(j+1)*(2^35+2^32+20):=by
    intro wd hwd hz8 _;rw[← hwd] at hap;refine ⟨hap,?_⟩;rw[← hap];have y1:=J01 out wd;have y2:=J01 (out++wd) ats[j].var;have y3:=J01 (out++wd++ats[j].var) { data:=#[32] };have y4:=J01 (out++wd++ats[j].var++{ data:=#[32] }) sl;show (out++wd++ats[j].var++{ data:=#[32] }++sl).size≤_
    omega
   by_cases h3:ats[j].kind=1
   ·obtain ⟨k1,k2⟩:=key { data:=#[32,114,101,105,110,105,116,32] } (by unfold JBM;rw[if_pos h3]) z2 (by omega);clear key;have y1:=J01 out { data:=#[32,114,101,105,110,105,116,32] };have y2:=J01 (out++{ data:=#[32,114,101,105,110,105,116,32] }) ats[j].var;have y3:=J01 (out++{ data:=#[32,114,101,105,110,105,116,32] }++ats[j].var) { data:=#[32] };have y4:=J01 (out++{ data:=#[32,114,101,105,110,105,116,32] }++ats[j].var++{ data:=#[32] }) sl;refine kWQ ?_;intros;refine CallG.intro _ c222 hs1 ?_;refine kWQ ?_;intros
    refine .intro <| W.of ⟨_,by omega,gs,ga,j+1,out++ab,rfl,h2,k2,by rw[J0q,List.append_assoc,← List.append_assoc ab.data.toList];exact hT,rfl,rfl⟩ ⟨rfl,congrArg encS k1,rfl,rfl,rfl,trivial⟩ ⟨rfl,rfl,trivial⟩
   ·obtain ⟨k1,k2⟩:=key { data:=#[32,97,115,115,105,103,110,32] } (by unfold JBM;rw[if_neg h3]) z1 (by omega);clear key;have y1:=J01 out { data:=#[32,97,115,115,105,103,110,32] };have y2:=J01 (out++{ data:=#[32,97,115,115,105,103,110,32] }) ats[j].var;have y3:=J01 (out++{ data:=#[32,97,115,115,105,103,110,32] }++ats[j].var) { data:=#[32] };have y4:=J01 (out++{ data:=#[32,97,115,115,105,103,110,32] }++ats[j].var++{ data:=#[32] }) sl;refine kWQ ?_;intros;refine CallG.intro _ c222 hs1 ?_;refine kWQ ?_;intros
    refine .intro <| W.of ⟨_,by omega,gs,ga,j+1,out++ab,rfl,h2,k2,by rw[J0q,List.append_assoc,← List.append_assoc ab.data.toList];exact hT,rfl,rfl⟩ ⟨rfl,congrArg encS k1,rfl,rfl,rfl,trivial⟩ ⟨rfl,rfl,trivial⟩
  ·rw[List.drop_eq_nil_of_le h2] at hT;rw[JAt,List.nil_append,← hX,← List.append_assoc] at hT;have z0:({ data:=#[10] }:ByteArray).size=1:=rfl;have y1:=J01 out { data:=#[10] };refine kWQ ?_;intros
   refine .intro <| W.of ⟨_,by omega,gs,i+1,out++b1 10,rfl,h1,by show (out++{ data:=#[10] }).size≤_;omega,by rw[J0q];exact hT,rfl,rfl⟩ ⟨rfl,rfl,rfl,trivial⟩ ⟨rfl,trivial⟩
 ·rw[List.drop_eq_nil_of_le h1] at hT;rw[J3I,List.append_nil] at hT;subst hT;refine kWQ ?_;intros;exact .of rfl
theorem JIX {l:List (ByteArray×Va)} {k:ByteArray} {v:Va}:∀ {x},x∈putK l k v→x∈l∨x=(k,v):=by
 induction l with
 | nil=>intro x h;right;simpa [putK] using h
 | cons y r ih=>
   intro x h;unfold putK at h;split at h
   ·rename_i e
    rcases List.mem_cons.1 h with rfl | h
    ·right;rw[e]
    ·left;simp[h]
   ·rcases List.mem_cons.1 h with rfl | h
    ·left;simp
    ·rcases ih h with h | h
     ·left;simp[h]
     ·exact .inr h
theorem JGF {vs:List Va} {x:ByteArray×Va} (h:x∈knownF vs):x.1=x.2.name∧x.2∈vs:=by
 have key:∀ (us:List Va) (l:List (ByteArray×Va)) (S:List Va),(∀ y∈l,y.1=y.2.name∧y.2∈S)→(∀ u∈us,u∈S)→∀ y∈us.foldl (fun l v=>putK l v.name v) l,y.1=y.2.name∧y.2∈S:=by
  intro us
  induction us with
  | nil=>intro l S h1 _;exact h1
  | cons u r ih=>
    intro l S h1 h2;rw[List.foldl_cons];refine ih _ _ (fun y hy=>?_) fun z hz=>h2 z (by simp[hz])
    rcases JIX hy with h | rfl
    ·exact h1 y h
    ·exact ⟨rfl,h2 u (by simp)⟩
 exact key vs [] vs (by simp) (fun _ h=>h) x h
theorem J9y:∀ {l:List Ex} {n:Int},J3s l n=false→∀ e∈l,tooF e=false
 | [],_,_,e,h=>by simp at h
 | x::r,n,h,e,he=>by
   unfold J3s at h;simp only[Bool.or_eq_false_iff] at h
   rcases List.mem_cons.1 he with rfl | he
   ·exact h.1
   ·exact J9y h.2 e he
theorem J9O {ks:List (ByteArray×Va)}:∀ {l:List Ac} {S A:List ByteArray},(J3c ks l S A).1=true→∀ a∈l,(0≤a.kind∧a.kind≤1)∧(∃ v,J0w ks a.var=some v)∧builtF a.value=true
 | [],_,_,_,a,h=>by simp at h
 | x :: r,S,A,h,a,ha=>by
   unfold J3c at h
   by_cases hb:badA ks x (if x.kind=0 then A else S)=true
   ·rw[if_pos hb] at h;cases h
   ·rw[if_neg hb] at h
    rcases List.mem_cons.1 ha with rfl | ha
    ·unfold badA at hb
     revert hb
     cases hv:J0w ks a.var with
     | none=>intro hb;exact absurd rfl hb
     | some v=>
       intro hb;simp only[Bool.or_eq_true,not_or,Bool.and_eq_true,Bool.not_eq_true',decide_eq_false_iff_not,decide_eq_true_eq,typedF] at hb;obtain ⟨⟨⟨h1,_⟩,_⟩,h4⟩:=hb;refine ⟨by omega,⟨v,rfl⟩,?_⟩;have h5:=(Bool.not_eq_false _).mp h4;simp only[Bool.and_eq_true] at h5;exact h5.1.1
    ·by_cases h0:x.kind=0
     ·rw[if_pos h0] at h;exact J9O h a ha
     ·rw[if_neg h0] at h;exact J9O h a ha
theorem J9e {ks:List (ByteArray×Va)}:∀ {l:List Whn} {A:List ByteArray},J3e ks l A=true→∀ w∈l,builtF w.cond=true∧∀ a∈w.acts,(0≤a.kind∧a.kind≤1)∧(∃ v,J0w ks a.var=some v)∧builtF a.value=true
 | [],_,_,w,h=>by simp at h
 | x :: r,A,h,w,hw=>by
   unfold J3e at h;simp only[Bool.and_eq_true,typedF] at h
   rcases List.mem_cons.1 hw with rfl | hw
   ·refine ⟨h.1.1.1.1,?_⟩;have:=h.1.2;unfold J9P at this;simp only[Bool.and_eq_true] at this;exact J9O this.1
   ·exact J9e h.2 w hw
theorem J8I {s:Sys} (hs:SzS s) (hc:checkF s=0):TextOk s:=by
 unfold checkF at hc
 have hL:largeF s=false:=by
  cases h:largeF s
  ·rfl
  ·rw[h] at hc;simp at hc
 rw[hL] at hc
 have hV:validF s=true:=by
  cases h:validF s
  ·rw[h] at hc;simp at hc
  ·rfl
 unfold largeF at hL;simp only[Bool.or_eq_false_iff,decide_eq_false_iff_not] at hL;obtain ⟨⟨⟨l1,l2⟩,l3⟩,l4⟩:=hL;have ht:=J9y l4;unfold validF at hV;simp only[Bool.and_eq_true,Bool.not_eq_true'] at hV;obtain ⟨⟨⟨_,hv⟩,hq,hn⟩,hw⟩:=hV;have ex:∀ e∈allF s,builtF e=true→ExOk e:=fun e he hb=>⟨(hs.e e he).1,(hs.e e he).2,hb,Nat.le_trans (JFL (ht e he)) (by decide)⟩
 have eqk:∀ (l:List Eqn),(∀ e∈J1Q l,e∈allF s)→(∀ q∈l,q.name.size<2^35)→l.all (eqT (knownF s.vars))=true→∀ q∈l,QnOk q:=by
  intro l h1 h2 h3 q hq;have:=List.all_eq_true.1 h3 q hq;unfold eqT typedF at this;simp only[Bool.and_eq_true] at this;exact ⟨h2 q hq,ex _ (h1 _ (J1N hq).1) this.1.1.1,ex _ (h1 _ (J1N hq).2) this.2.1.1⟩
 refine ⟨by omega,by omega,by omega,by omega,fun v hvm=>?_,eqk _ (fun e he=>by simp[allF,he]) hs.m.1 hq,eqk _ (fun e he=>by simp[allF,he]) hs.m.2.1 hn,fun w hwm=>?_⟩
 ·have:=List.any_eq_false.1 hv v hvm;simp only[Bool.not_eq_true,Bool.not_eq_false'] at this;unfold varF at this;simp only[Bool.and_eq_true] at this;have hk:=this.1.1.1.1;unfold J6P at hk;simp only[Bool.not_eq_true',Bool.or_eq_false_iff,Bool.and_eq_false_iff,decide_eq_false_iff_not,Bool.not_eq_false',decide_eq_true_eq] at hk;exact ⟨hs.t v hvm,by omega,by omega⟩
 ·have hwk:=J9e hw w hwm;have hm:=J3u hwm;have hl:=List.any_eq_false.1 l3 w hwm;refine ⟨hs.m.2.2 w hwm,ex _ (by simp[allF,hm.1]) hwk.1,by simpa using hl,fun a ha=>?_⟩;obtain ⟨h1,⟨v,h2⟩,h3⟩:=hwk.2 a ha;have:=JGF (J73 h2);refine ⟨h1,?_,ex _ (by simp[allF,hm.2 a ha]) h3⟩;rw[show a.var=v.name from this.1];exact (hs.t v this.2).1
def J2d (s:Sys):ByteArray×Int:=if checkF s≠0 then (⟨#[]⟩,checkF s) else if 8000<(J5w s).length then (⟨#[]⟩,2) else (⟨(J5w s).toArray⟩,0)
theorem JHV (s:Sys) (hs:SzS s):PureCall Tryz.prog 41 [J0M s] (.tup [encS (J2d s).1,encI (J2d s).2]):=by
 refine PC [] Tryz.func41 rfl (by rfl) rfl ?_;have hC:=JDM s hs;generalize hF:J2d s=F;unfold J2d at hF;have ht:=fun h=>JDe s (J8I hs h);generalize checkF s=ck at *;obtain ⟨vs,qs,ns,ws⟩:=s;unfold J0M at *;refine kWQ ?_;intros;refine CallP.flat [] _ c36 hC rfl ?_;refine kWQ ?_;intros;refine CondP.dec (fun h0=>?_) (fun h0=>?_)<;>refine kW ?_
 ·have ht:=ht h0;rw[if_neg (by omega)] at hF;generalize hT:J5w _=t at *;refine kQ ?_;intros;refine CallP.flat [] _ c108 ht rfl ?_;refine kWQ ?_;intros;have hz:(({ data:=t.toArray }:ByteArray).size:Int)=(t.length:Int):=rfl;rw[hz];refine CondP.dec (fun h1=>?_) (fun h1=>?_)<;>refine kW ?_
  ·refine kQ ?_;intros;refine .of ?_;rw[if_pos (by omega)] at hF;rw[← hF];rfl
  ·refine kQ ?_;intros;refine .of ?_;rw[if_neg (by omega)] at hF;rw[← hF];rfl
 ·rw[if_pos h0] at hF;refine kQ ?_;intros;refine .of ?_;rw[← hF];rfl
def lenV (v:Va):Nat:=v.name.size+v.value.size+v.start.size+v.unit.size
def JE8:List Va→Nat
 | []=>0
 | v::r=>lenV v+JE8 r
def greatS (s:Sys):Bool:=decide (40000<JE8 s.vars)||decide (200<s.vars.length)||decide (200<s.eqs.length)||decide (200<s.inits.length)||decide (200<s.whens.length)
theorem JHj (s:Sys) (hs:SzS s) (hl:s.vars.length≤2^20):PureCall Tryz.prog 29 [J0M s] (encB (greatS s)):=by
 refine PC [] Tryz.func29 rfl (by rfl) rfl ?_;have ht:=hs.t;generalize hF:greatS s=F;unfold greatS at hF;obtain ⟨vs,qs,ns,ws⟩:=s;simp only at hl ht hF;unfold J0M;simp only;have mv:=@List.length_map _ _ vs encV;have mq:=@List.length_map _ _ qs J0J;have mn:=@List.length_map _ _ ns J0J;have mw:=@List.length_map _ _ ws J0Y;obtain ⟨S,hS⟩:∃ z,JE8 vs=z:=⟨_,rfl⟩;rw[hS] at hF;refine kWQ ?_;intros
 refine LoopP.intro (fun k σ H=>∃ gs i,∃ t:Nat,k=vs.length-i∧i≤vs.length∧t≤i*2^38∧t+JE8 (vs.drop i)=S ∧
   σ=fr [(1,.op 1 gs 0 0),(3,encI t),(4,encI i)] ∧
   H=hp [(1,gs,⟨26,4,[.agg [.sl 7 (vs.map encV),.sl 9 (qs.map J0J),.sl 9 (ns.map J0J),.sl 6 (ws.map J0Y)]]⟩)]) ?_ ?_
 ·exact .intro (W.of ⟨_,_,0,0,rfl,Nat.zero_le _,Nat.zero_le _,by rw[Nat.zero_add];exact hS,rfl,rfl⟩ ⟨rfl,rfl,rfl,trivial⟩ ⟨rfl,trivial⟩)
 rintro k σ H ⟨gs,i,t,rfl,hi,htt,hT,rfl,rfl⟩
 rcases Nat.lt_or_ge i vs.length with h1 | h1
 ·rw[List.drop_eq_getElem_cons h1] at hT;have hvi:=ht _ (List.getElem_mem h1);unfold JE8 lenV at hT;obtain ⟨q1,q2,q3,q4⟩:=hvi;refine kWQ ?_;intros
  refine .intro <| W.of ⟨_,by omega,gs,i+1,t+(vs[i].name.size+vs[i].value.size+vs[i].start.size+vs[i].unit.size),rfl,h1,by omega,by omega,rfl,rfl⟩ ⟨rfl,?_,rfl,trivial⟩ ⟨rfl,trivial⟩
  exact congrArg encI (by push_cast;omega)
 ·rw[List.drop_eq_nil_of_le h1] at hT;unfold JE8 at hT;rw[Nat.add_zero] at hT;subst hT;refine kWO ?_;intros;refine CondP.dec (fun c1=>?_) (fun c1=>?_)<;>refine kW ?_
  ·refine kQ ?_;intros;have e:F=true:=by rw[← hF];simp only[Bool.or_eq_true,decide_eq_true_eq];omega
   exact .of (by rw[e];rfl)
  refine kQ ?_;intros;refine CondP.dec (fun c2=>?_) (fun c2=>?_)<;>refine kW ?_
  ·refine kQ ?_;intros;have e:F=true:=by rw[← hF];simp only[Bool.or_eq_true,decide_eq_true_eq];omega
   exact .of (by rw[e];rfl)
  refine kQ ?_;intros;refine CondP.dec (fun c3=>?_) (fun c3=>?_)<;>refine kW ?_
  ·refine kQ ?_;intros;have e:F=true:=by rw[← hF];simp only[Bool.or_eq_true,decide_eq_true_eq];omega
   exact .of (by rw[e];rfl)
  refine kQ ?_;intros;refine CondP.dec (fun c4=>?_) (fun c4=>?_)<;>refine kW ?_
  ·refine kQ ?_;intros;have e:F=true:=by rw[← hF];simp only[Bool.or_eq_true,decide_eq_true_eq];omega
   exact .of (by rw[e];rfl)
  refine kQ ?_;intros;refine .of ?_;rw[decide_eq_false (by omega),decide_eq_false (by omega),decide_eq_false (by omega),decide_eq_false (by omega)] at hF;simp only[Bool.false_or] at hF;rw[← hF];exact congrArg encB (decide_eq_decide.2 (by omega))
theorem JJf (s:Sys) (hs:SzS s):PureCall Tryz.prog 42 [J0M s] (.tup [encS (J2d s).1,encI (J2d s).2]):=by
 refine PC [] Tryz.func42 rfl (by rfl) rfl ?_;have hC:=JHp s hs;rw[JER] at hC;generalize hF:J2d s=F;unfold J2d at hF;have ht:=fun h=>JII s (J8I hs h);generalize checkF s=ck at *;obtain ⟨vs,qs,ns,ws⟩:=s;unfold J0M at *;refine kWQ ?_;intros;refine CallP.flat [] _ c37 hC rfl ?_;refine kWQ ?_;intros;refine CondP.dec (fun h0=>?_) (fun h0=>?_)<;>refine kW ?_
 ·have ht:=ht h0;rw[if_neg (by omega)] at hF;generalize hT:J5w _=t at *;refine kQ ?_;intros;refine CallP.flat [] _ c109 ht rfl ?_;refine kWQ ?_;intros;have hz:(({ data:=t.toArray }:ByteArray).size:Int)=(t.length:Int):=rfl;rw[hz];refine CondP.dec (fun h1=>?_) (fun h1=>?_)<;>refine kW ?_
  ·refine kQ ?_;intros;refine .of ?_;rw[if_pos (by omega)] at hF;rw[← hF];rfl
  ·refine kQ ?_;intros;refine .of ?_;rw[if_neg (by omega)] at hF;rw[← hF];rfl
 ·rw[if_pos h0] at hF;refine kQ ?_;intros;refine .of ?_;rw[← hF];rfl
theorem J7W (ha:PureCall Tryz.prog 35 [] (encB true)) (s:Sys) (hs:SzS s):PureCall Tryz.prog 10 [J0M s] (encB true):=by
 refine PC [] Tryz.func10 rfl (by rfl) rfl ?_;have hg:=JHj s hs hs.v20;have h1:=JHV s hs;have h2:=JJf s hs;generalize greatS s=gr at *;generalize (J2d s).1=tx at *;generalize (J2d s).2=er at *;obtain ⟨vs,qs,ns,ws⟩:=s;unfold J0M at *;refine kWQ ?_;intros;refine CallP.flat [] _ c29 hg rfl ?_
 cases gr with
 | true=>
   refine kWQ ?_;intros;refine CallP.flat [] _ c35 ha rfl ?_;refine kWQ ?_;intros;exact .of rfl
 | false=>
   refine kWQ ?_;intros;refine CallP.flat [] _ c41 h1 rfl ?_;refine kWQ ?_;intros;refine CallP.flat [] _ c42 h2 rfl ?_;refine kWQ ?_;intros;simp only[decide_true];refine kQ ?_;intros;refine CallP.flat [] _ c35 ha rfl ?_;refine kWQ ?_;intros;simp only[decide_true];refine kQ ?_;intros;exact .of rfl
end Go.Proofs.YtlhdoekgipaihaaGreatDoor
