/- Part 51 of a proof. -/
import Derived.Test.YtlblbldolhiokaaGreatDoorRs50
set_option linter.all false
set_option maxRecDepth 99999
set_option exponentiation.threshold 400
set_option maxHeartbeats 0
namespace Go.Proofs.YtlblbldolhiokaaGreatDoor
open Go Go.Fw
def J4l:List Ex→Int→Bool
 |[],l=>decide (l<0)
 |e::r,l=>tooF e||J4l r (l-sizeF e)
def largeF (s:Sys):Bool:=decide (120<s.vars.length)||decide (120<max (max s.eqs.length s.inits.length) s.whens.length)||s.whens.any (fun w=>decide (20<w.acts.length))||J4l (allF s) 4000
structure SzS (s:Sys):Prop where
 v:s.vars.length≤2^60
 q:s.eqs.length≤2^60
 n:s.inits.length≤2^60
 w:s.whens.length≤2^60
 a:∀ w∈s.whens,w.acts.length≤2^60
 e:∀ e∈allF s,SzE e∧TxE e
 t:∀ v∈s.vars,v.name.size<2^35∧v.value.size<2^35∧v.start.size<2^35∧v.unit.size<2^35
 m:(∀ q∈s.eqs,q.name.size<2^35)∧(∀ q∈s.inits,q.name.size<2^35)∧∀ w∈s.whens,w.name.size<2^35
 v20:s.vars.length≤2^20
def JL3 (s:Sys)(hs:SzS s):PX 174 [J0E s] (encB (largeF s)):=by
 refine PZ Tryz.func174 rfl ?_;have hW:=JCD 247 (fun w=>decide (20<w.acts.length)) s.whens hs.w c247 fun w _=>JI6 w;have hA:=JMV s;have hv:=hs.v;have hq:=hs.q;have hn:=hs.n;have hw:=hs.w;have he:=hs.e;generalize hF:largeF s=F;unfold largeF at hF;generalize hall:allF s=es at *
 have hany:(s.whens.any fun w=>decide (20<w.acts.length))=false→∀ w∈s.whens,w.acts.length≤20:=by
  intro h w hw;have:=Q0q.1 h w hw;simp at this;exact this
 clear hs;unfold J0E at hA ⊢;refine kWS ?_;intros;rw[Q3];refine CondP.dec (fun h=>?_) (fun h=>?_)<;>refine kW ?_
 ·rw[Q2 (by omega),Qx,Qx,Qx] at hF;refine kS ?_;intros;exact .of (by rw[← hF];rfl)
 rw[Q1 (by omega),Qj] at hF;refine kS ?_;intros;simp only[Q3];refine CondP.dec (fun h=>?_) (fun h=>?_)<;>refine kW ?_
 ·rw[Q2 (by omega),Qx,Qx] at hF;refine kS ?_;intros;exact .of (by rw[← hF];rfl)
 rw[Q1 (by omega),Qj] at hF;refine kS ?_;intros;refine CallP.flat [] _ c246 hW rfl ?_;refine kWS ?_;intros;refine CondP.intro (fun h2=>?_) (fun h2=>?_)<;>refine kW ?_
 ·rw[h2,Qx] at hF;refine kS ?_;intros;exact .of (by rw[← hF];rfl)
 rw[h2,Qj] at hF;have hA:=hA (by omega) (by omega) (by omega) (hany h2)
 have hlen:es.length≤4000:=by
  have:=J6N s.whens (hany h2);rw[← hall];unfold allF;rw[QQ,QQ,J0q,J0q];omega
 refine kS ?_;intros;refine J00 [] _ c132 hA ?_;refine kWS ?_;intros
 refine LoopP.intro (fun k σ H=>∃ i,∃ l:Int,k=es.length-i∧i≤es.length∧l≤4000∧4000-201*i≤l∧J4l (es.drop i) l=F ∧
  σ=fr [(2,encB false),(3,encI l),(27,.sl 4 (es.map encE)),(28,encI es.length),(29,encI i)]∧H=hp []) ?_ ?_
 ·refine .intro <| W.of ⟨_,0,4000,rfl,QG _,by omega,by omega,hF,rfl,rfl⟩ ⟨rfl,rfl,rfl,?_,rfl,trivial⟩ trivial
  show AV.val (.int .i64 _)=AV.val (.int .i64 _)
  rw[Q3]
 clear hF;rintro k σ H ⟨i,l,rfl,hi,hl1,hl2,hF,rfl,rfl⟩;refine kWS ?_;intros;refine CondP.dec (fun h=>?_) (fun h=>?_)<;>refine kW ?_
 ·have hi':i<es.length:=by omega
  rw[Q6 hi'] at hF;unfold J4l at hF;have hz:=he es[i] (QF hi');refine kR ?_;intros;generalize es[i]=e at hF hz ⊢;have ht:=J8J e hz.1;have hsz:=JOG e hz.1;have hge:=JA8 24 e 200 (by omega);have hle:=J6W 24 e 200;have hdef:sizeF e=200-measF 24 e 200:=rfl;rw[J02] at ht hsz ⊢;refine kR ?_;intros;refine CallP.flat [] _ c83 ht rfl ?_;refine kWS ?_;intros;refine CondP.intro (fun h3=>?_) (fun h3=>?_)<;>refine kW ?_
  ·rw[h3,Qx] at hF;refine kS ?_;intros;exact .of (by rw[← hF];rfl)
  rw[h3,Qj] at hF;refine kS ?_;intros;refine CallP.flat [] _ c248 hsz rfl ?_;generalize sizeF e=z at hF hdef;refine kWS ?_;intros
  exact .intro <| W.of ⟨_,by omega,i+1,l-z,rfl,hi',by omega,by omega,hF,rfl,rfl⟩ ⟨rfl,rfl,rfl,rfl,rfl,trivial⟩ trivial
 rw[Q9 (by omega)] at hF;refine kS ?_;intros;exact .of (by rw[← hF];rfl)
def risG:List ByteArray→Option ByteArray→Bool
 |[],_=>true
 |n::r,p=>nameF n&&(match p with|none=>true|some p=>Op.bytesLess p.toList n.toList)&&risG r (some n)
def pvN (l:List ByteArray):Nat→Option ByteArray
 |0=>none
 |i+1=>l[i]?
def J77 (l:List ByteArray)(i:Nat):pvN l (i+1)=l[i]?:=rfl
def JAm (x:Va):PX 250 [encV x] (encS x.name):=by
 refine PZ Tryz.func250 rfl ?_;refine kWS ?_;intros;exact .of rfl
def JFi (l:List Va)(hl:l.length≤2^60)(hn:∀ x∈l,x.name.size<2^35) :
  PX 249 [.sl 7 (l.map encV),.fn (.func 250) [] []] (encB (risG (l.map Va.name) none)):=by
 refine PZ Tryz.func249 rfl ?_;generalize hF:risG (l.map Va.name) none=F;refine kWS ?_;intros
 refine LoopP.intro (fun m σ H=>∃ i,i≤l.length∧m=l.length-i∧risG ((l.drop i).map Va.name) (pvN (l.map Va.name) i)=F ∧
  σ=fr [(0,.sl 7 (l.map encV)),(1,.fn (.func 250) [] []),(7,.sl 7 (l.map encV)),(8,encI l.length),(9,encI i)]∧H=hp []) ?_ ?_
 ·exact .intro <| W.of ⟨_,0,QG _,rfl,hF,rfl,rfl⟩ ⟨rfl,rfl,rfl,by simp;rfl,rfl,trivial⟩ trivial
 clear hF;rintro m σ H ⟨i,hi,rfl,hF,rfl,rfl⟩;refine kWS ?_;intros;refine CondP.dec (fun h=>?_) (fun h=>?_)<;>refine kW ?_
 ·have hi':i<l.length:=by omega
  have hx:=hn _ (QF hi');rw[Q6 hi',QK] at hF;unfold risG at hF;have hnx:(l.map Va.name)[i]?=some l[i].name:=by rw[Ql,Q8 hi'];rfl
  refine kR ?_;intros;generalize l[i]=x at hx hF hnx ⊢;have hnm:=J2N x.name (by omega);generalize nameF x.name=b at hF hnm;refine kR ?_;intros;refine CallG.intro _ c250 (JAm x) ?_;refine kWQ ?_;intros;refine CallG.intro _ c90 hnm ?_;refine kWQ ?_;intros;refine CondP.intro (fun hq=>?_) (fun hq=>?_)<;>refine kW ?_
  case' refine_2=>
   rw[hq,QD,QD] at hF;refine kR ?_;intros;exact .of (by rw[← hF];rfl)
  rw[hq,QB] at hF
  cases i with
  |zero=>
    refine kR ?_;intros
    exact .intro <| W.of ⟨_,by omega,1,hi',rfl,by rw[← hF];show risG _ (pvN _ (0+1))=_;rw[J77,hnx];rfl,rfl,rfl⟩ ⟨rfl,rfl,rfl,rfl,rfl,trivial⟩ trivial
  |succ i=>
    have hi2:i<l.length:=by omega
    rw[J77,Ql,Q8 hi2] at hF;replace hF:(Op.bytesLess l[i].name.toList x.name.toList&&risG ((l.drop (i+1+1)).map Va.name) (some x.name))=F:=hF;have hp0:(0:Int)<((i+1:Nat):Int):=by omega
    refine kR ?_;intros
    try simp only[show ((i+1:Nat):Int)-1=(i:Int) by omega]
    refine kR ?_;intros;generalize l[i]=y at hF ⊢;refine kR ?_;intros;refine CallG.intro _ c250 (JAm y) ?_;refine kWR ?_;intros;refine CallG.intro _ c250 (JAm x) ?_;refine kWR ?_;intros;refine CondP.intro (fun h2=>?_) (fun h2=>?_)<;>refine kW ?_
    ·rw[h2,QB] at hF;refine kR ?_;intros
     exact .intro <| W.of ⟨_,by omega,i+1+1,hi',rfl,by rw[J77,hnx];exact hF,rfl,rfl⟩ ⟨rfl,rfl,rfl,rfl,rfl,trivial⟩ trivial
    rw[h2,QD] at hF;refine kR ?_;intros;exact .of (by rw[← hF];rfl)
 refine kS ?_;intros;rw[Q9 (by omega)] at hF;exact .of (by rw[← hF];rfl)
def JAs (x:Eqn):PX 252 [J0M x] (encS x.name):=by
 refine PZ Tryz.func252 rfl ?_;refine kWS ?_;intros;exact .of rfl
def JAl (x:Whn):PX 254 [J0m x] (encS x.name):=by
 refine PZ Tryz.func254 rfl ?_;refine kWS ?_;intros;exact .of rfl
def J8z (l:List Eqn)(hl:l.length≤2^60)(hn:∀ x∈l,x.name.size<2^35) :
  PX 251 [.sl 9 (l.map J0M),.fn (.func 252) [] []] (encB (risG (l.map Eqn.name) none)):=by
 refine PZ Tryz.func251 rfl ?_;generalize hF:risG (l.map Eqn.name) none=F;refine kWS ?_;intros
 refine LoopP.intro (fun m σ H=>∃ i,i≤l.length∧m=l.length-i∧risG ((l.drop i).map Eqn.name) (pvN (l.map Eqn.name) i)=F ∧
  σ=fr [(0,.sl 9 (l.map J0M)),(1,.fn (.func 252) [] []),(7,.sl 9 (l.map J0M)),(8,encI l.length),(9,encI i)]∧H=hp []) ?_ ?_
 ·exact .intro <| W.of ⟨_,0,QG _,rfl,hF,rfl,rfl⟩ ⟨rfl,rfl,rfl,by simp;rfl,rfl,trivial⟩ trivial
 clear hF;rintro m σ H ⟨i,hi,rfl,hF,rfl,rfl⟩;refine kWS ?_;intros;refine CondP.dec (fun h=>?_) (fun h=>?_)<;>refine kW ?_
 ·have hi':i<l.length:=by omega
  have hx:=hn _ (QF hi');rw[Q6 hi',QK] at hF;unfold risG at hF;have hnx:(l.map Eqn.name)[i]?=some l[i].name:=by rw[Ql,Q8 hi'];rfl
  refine kR ?_;intros;generalize l[i]=x at hx hF hnx ⊢;have hnm:=J2N x.name (by omega);generalize nameF x.name=b at hF hnm;refine kR ?_;intros;refine CallG.intro _ c252 (JAs x) ?_;refine kWQ ?_;intros;refine CallG.intro _ c90 hnm ?_;refine kWQ ?_;intros;refine CondP.intro (fun hq=>?_) (fun hq=>?_)<;>refine kW ?_
  case' refine_2=>
   rw[hq,QD,QD] at hF;refine kR ?_;intros;exact .of (by rw[← hF];rfl)
  rw[hq,QB] at hF
  cases i with
  |zero=>
    refine kR ?_;intros
    exact .intro <| W.of ⟨_,by omega,1,hi',rfl,by rw[← hF];show risG _ (pvN _ (0+1))=_;rw[J77,hnx];rfl,rfl,rfl⟩ ⟨rfl,rfl,rfl,rfl,rfl,trivial⟩ trivial
  |succ i=>
    have hi2:i<l.length:=by omega
    rw[J77,Ql,Q8 hi2] at hF;replace hF:(Op.bytesLess l[i].name.toList x.name.toList&&risG ((l.drop (i+1+1)).map Eqn.name) (some x.name))=F:=hF;have hp0:(0:Int)<((i+1:Nat):Int):=by omega
    refine kR ?_;intros
    try simp only[show ((i+1:Nat):Int)-1=(i:Int) by omega]
    refine kR ?_;intros;generalize l[i]=y at hF ⊢;refine kR ?_;intros;refine CallG.intro _ c252 (JAs y) ?_;refine kWR ?_;intros;refine CallG.intro _ c252 (JAs x) ?_;refine kWR ?_;intros;refine CondP.intro (fun h2=>?_) (fun h2=>?_)<;>refine kW ?_
    ·rw[h2,QB] at hF;refine kR ?_;intros
     exact .intro <| W.of ⟨_,by omega,i+1+1,hi',rfl,by rw[J77,hnx];exact hF,rfl,rfl⟩ ⟨rfl,rfl,rfl,rfl,rfl,trivial⟩ trivial
    rw[h2,QD] at hF;refine kR ?_;intros;exact .of (by rw[← hF];rfl)
 refine kS ?_;intros;rw[Q9 (by omega)] at hF;exact .of (by rw[← hF];rfl)
def JFh (l:List Whn)(hl:l.length≤2^60)(hn:∀ x∈l,x.name.size<2^35) :
  PX 253 [.sl 6 (l.map J0m),.fn (.func 254) [] []] (encB (risG (l.map Whn.name) none)):=by
 refine PZ Tryz.func253 rfl ?_;generalize hF:risG (l.map Whn.name) none=F;refine kWS ?_;intros
 refine LoopP.intro (fun m σ H=>∃ i,i≤l.length∧m=l.length-i∧risG ((l.drop i).map Whn.name) (pvN (l.map Whn.name) i)=F ∧
  σ=fr [(0,.sl 6 (l.map J0m)),(1,.fn (.func 254) [] []),(7,.sl 6 (l.map J0m)),(8,encI l.length),(9,encI i)]∧H=hp []) ?_ ?_
 ·exact .intro <| W.of ⟨_,0,QG _,rfl,hF,rfl,rfl⟩ ⟨rfl,rfl,rfl,by simp;rfl,rfl,trivial⟩ trivial
 clear hF;rintro m σ H ⟨i,hi,rfl,hF,rfl,rfl⟩;refine kWS ?_;intros;refine CondP.dec (fun h=>?_) (fun h=>?_)<;>refine kW ?_
 ·have hi':i<l.length:=by omega
  have hx:=hn _ (QF hi');rw[Q6 hi',QK] at hF;unfold risG at hF;have hnx:(l.map Whn.name)[i]?=some l[i].name:=by rw[Ql,Q8 hi'];rfl
  refine kR ?_;intros;generalize l[i]=x at hx hF hnx ⊢;have hnm:=J2N x.name (by omega);generalize nameF x.name=b at hF hnm;refine kR ?_;intros;refine CallG.intro _ c254 (JAl x) ?_;refine kWQ ?_;intros;refine CallG.intro _ c90 hnm ?_;refine kWQ ?_;intros;refine CondP.intro (fun hq=>?_) (fun hq=>?_)<;>refine kW ?_
  case' refine_2=>
   rw[hq,QD,QD] at hF;refine kR ?_;intros;exact .of (by rw[← hF];rfl)
  rw[hq,QB] at hF
  cases i with
  |zero=>
    refine kR ?_;intros
    exact .intro <| W.of ⟨_,by omega,1,hi',rfl,by rw[← hF];show risG _ (pvN _ (0+1))=_;rw[J77,hnx];rfl,rfl,rfl⟩ ⟨rfl,rfl,rfl,rfl,rfl,trivial⟩ trivial
  |succ i=>
    have hi2:i<l.length:=by omega
    rw[J77,Ql,Q8 hi2] at hF;replace hF:(Op.bytesLess l[i].name.toList x.name.toList&&risG ((l.drop (i+1+1)).map Whn.name) (some x.name))=F:=hF;have hp0:(0:Int)<((i+1:Nat):Int):=by omega
    refine kR ?_;intros
    try simp only[show ((i+1:Nat):Int)-1=(i:Int) by omega]
    refine kR ?_;intros;generalize l[i]=y at hF ⊢;refine kR ?_;intros;refine CallG.intro _ c254 (JAl y) ?_;refine kWR ?_;intros;refine CallG.intro _ c254 (JAl x) ?_;refine kWR ?_;intros;refine CondP.intro (fun h2=>?_) (fun h2=>?_)<;>refine kW ?_
    ·rw[h2,QB] at hF;refine kR ?_;intros
     exact .intro <| W.of ⟨_,by omega,i+1+1,hi',rfl,by rw[J77,hnx];exact hF,rfl,rfl⟩ ⟨rfl,rfl,rfl,rfl,rfl,trivial⟩ trivial
    rw[h2,QD] at hF;refine kR ?_;intros;exact .of (by rw[← hF];rfl)
 refine kS ?_;intros;rw[Q9 (by omega)] at hF;exact .of (by rw[← hF];rfl)
def J7W (k t:Int):Bool:=!((!decide (t=0)&&!decide (t=1))||decide (k<0)||decide (3<k)||(!decide (t=0)&&(decide (k=0)||decide (k=3))))
def varF (v:Va):Bool:=
 J7W v.kind v.type&&(if v.kind=2 then valueF v.value v.type else decide (v.value=⟨#[]⟩))
  && (decide (v.start=⟨#[]⟩)||((decide (v.kind=0)||decide (v.kind=1))&&valueF v.start v.type))&&!(v.fixed&&decide (v.start=⟨#[]⟩))
  && (decide (v.unit=⟨#[]⟩)||(decide (v.type=0)&&unitF v.unit))
def JCy (v:Va)(h1:v.value.size<2^35)(h2:v.start.size<2^35)(h3:v.unit.size<2^35):PX 257 [encV v] (encB (varF v)):=by
 refine PZ Tryz.func257 rfl ?_;obtain ⟨name,k,t,vl,st,fx,un⟩:=v;have hv1:=JDv vl t h1;have hv2:=JDv st t h2;have hu:=JQm un h3;generalize hF:varF ⟨name,k,t,vl,st,fx,un⟩=F;unfold varF at hF;simp only at hF hv1 hv2 hu;generalize valueF vl t=b1 at hF hv1;generalize valueF st t=b2 at hF hv2;generalize unitF un=b3 at hF hu;clear h1 h2 h3
 by_cases hk:J7W k t=true
 case' neg=>
  have hk':J7W k t=false:=by simpa using hk
  rw[hk',QD,QD,QD,QD] at hF;subst hF;unfold J7W at hk';refine kW ?_
  (repeat (any_goals (first|((first|refine N0 ?_|refine A0 fun γ=>?_|refine C1 ?_|refine C2 ?_|refine C3 ?_|refine C4 ?_|refine C5 ?_|refine C6 ?_|refine C7 ?_|refine D0 fun γs=>?_|refine A1 fun γs=>?_|refine N2 ?_|refine N3 ?_|refine N1 ?_);refine kW ?_)|(refine CondP.dec (fun _=>?_) (fun _=>?_)<;>refine kW ?_)|(refine CondP.intro (fun _=>?_) (fun _=>?_)<;>refine kW ?_))))
  all_goals first
   |exact .of rfl
   |(exfalso;simp_all<;>omega)
 rw[hk,QB] at hF
 have hcs:(t=0∧(k=0∨k=1∨k=2∨k=3))∨(t=1∧(k=1∨k=2)):=by
  unfold J7W at hk;simp at hk;omega
 clear hk
 rcases hcs with ⟨rfl,rfl|rfl|rfl|rfl⟩|⟨rfl,rfl|rfl⟩
 all_goals
  simp only[Int.reduceEq,decide_true,decide_false,Qx,Q1t,Qj,Bool.or_self,if_true,if_false,QB,QD,eq_self,Q0j,reduceIte] at hF;refine kWS ?_;intros
  repeat (any_goals (first
   |exact .of (by rw[← hF];rfl)
   |(refine CallP.flat [] _ c320 hv1 rfl ?_;refine kW ?_;refine kS ?_;intros)
   |(refine CallP.flat [] _ c320 hv2 rfl ?_;refine kW ?_;refine kS ?_;intros)
   |(refine CallP.flat [] _ c321 hu rfl ?_;refine kW ?_;refine kS ?_;intros)
   |(refine CondP.intro (fun h=>?_) (fun h=>?_)<;>refine kW ?_<;>(try simp only at h)<;>(try simp only[h,QB,QD,Q0e,Q0U,Qx,Qj,Q0W,Q0L,Q1t,Q0j] at hF)<;>refine kS ?_;intros)))
def JGy (v:Va)(h1:v.value.size<2^35)(h2:v.start.size<2^35)(h3:v.unit.size<2^35):PX 256 [encV v] (encB (!varF v)):=by
 refine PZ Tryz.func256 rfl ?_;refine kWS ?_;intros;refine CallP.flat [] _ c257 (JCy v h1 h2 h3) rfl ?_;refine kWS ?_;intros;exact .of rfl
def putK {β:Type}(l:List (ByteArray×β))(k:ByteArray)(v:β):List (ByteArray×β):=match l with
 |[]=>[(k,v)]
 |x::r=>if k=x.1 then (x.1,v)::r else x::putK r k v
theorem JHk {β:Type}(f:β→AV)(k:ByteArray)(v:β):∀ l:List (ByteArray×β),∃ r,J1E (J13 T 9 (encS k)) (l.map fun x=>encS x.1)=some r∧(match r with
  |some i=>(l.map fun x=>encS x.1)=((putK l k v).map fun x=>encS x.1)∧(l.map fun x=>f x.2).set i (f v)=(putK l k v).map fun x=>f x.2
  |none=>(l.map fun x=>encS x.1)++[encS k]=((putK l k v).map fun x=>encS x.1)∧(l.map fun x=>f x.2)++[f v]=(putK l k v).map fun x=>f x.2)
 |[]=>⟨none,rfl,rfl,rfl⟩
 |x :: l=>by
   obtain ⟨r,h1,h2⟩:=JHk f k v l;rw[QK,QK];unfold J1E putK;rw[J7Y]
   by_cases h:k=x.1
   ·rw[Q2 h,if_pos h];exact ⟨some 0,rfl,rfl,rfl⟩
   rw[Q1 h,if_neg h,h1];refine ⟨r.map (· + 1),rfl,?_⟩
   revert h2
   cases r with
   |none=>
     rintro ⟨h2,h3⟩;exact ⟨by rw[QK,← h2];rfl,by rw[QK,← h3];rfl⟩
   |some i=>
     rintro ⟨h2,h3⟩;exact ⟨by rw[QK,← h2],by rw[QK,← h3];rfl⟩
def knownF (vs:List Va):List (ByteArray×Va):=vs.foldl (fun l v=>putK l v.name v) []
def J6Y (s:Sys)(hv:s.vars.length≤2^60):PX 99 [J0E s] (encK (knownF s.vars)):=by
 refine PC [6] Tryz.func99 rfl (by rfl) rfl ?_;obtain ⟨vs,qs,ns,ws⟩:=s;simp only at hv ⊢;generalize hF:knownF vs=F;unfold knownF at hF;unfold J0E;refine kWS ?_;intros
 refine LoopP.intro (fun k σ H=>∃ g i,∃ l:List (ByteArray×Va),k=vs.length-i∧i≤vs.length∧(vs.drop i).foldl (fun l v=>putK l v.name v) l=F ∧
  σ=fr [(2,.val (.map none)),(3,.om 6 g),(8,.sl 7 (vs.map encV)),(9,encI vs.length),(10,encI i)] ∧
  H=hp [(6,g,⟨109,0,[encK l]⟩)]) ?_ ?_
 ·refine .intro <| W.of ⟨_,_,0,[],rfl,QG _,hF,rfl,rfl⟩ ⟨rfl,rfl,rfl,?_,rfl,trivial⟩ ⟨rfl,trivial⟩
  show AV.val (.int .i64 _)=AV.val (.int .i64 _)
  rw[Q3]
 clear hF;rintro k σ H ⟨g,i,l,rfl,hi,hF,rfl,rfl⟩;refine kWS ?_;intros;refine CondP.dec (fun h=>?_) (fun h=>?_)<;>refine kW ?_
 ·have hi':i<vs.length:=by omega
  rw[Q6 hi',Q2g] at hF;refine kR ?_;intros;generalize vs[i]=v at hF ⊢;refine kR ?_;intros;refine Need.intro keyst9 ?_;refine kWR ?_;intros;obtain ⟨r,hr,hm⟩:=JHk encV v.name v l;refine LookP.intro r hr ?_
  cases r with
  |some j=>
    refine kWR ?_;intros
    refine .intro <| W.of ⟨_,by omega,_,i+1,putK l v.name v,rfl,hi',hF,rfl,rfl⟩ ⟨rfl,rfl,rfl,rfl,rfl,trivial⟩ ⟨?_,trivial⟩
    exact QC (fun z=>some (g,(⟨109,0,[z]⟩:Blk))) (congr (QC AV.mp hm.1) hm.2)
  |none=>
    refine kWR ?_;intros
    refine .intro <| W.of ⟨_,by omega,_,i+1,putK l v.name v,rfl,hi',hF,rfl,rfl⟩ ⟨rfl,rfl,rfl,rfl,rfl,trivial⟩ ⟨?_,trivial⟩
    exact QC (fun z=>some (g,(⟨109,0,[z]⟩:Blk))) (congr (QC AV.mp hm.1) hm.2)
 rw[Q9 (by omega)] at hF;refine kS ?_;intros;exact .of (by rw[← hF];rfl)
def typedF (ks:List (ByteArray×Va))(e:Ex)(t:Int):Bool:=builtF e&&(typeF ks e).2&&decide ((typeF ks e).1=t)
def J6O (ks:List (ByteArray×Va))(e:Ex)(t:Int)(hs:SzE e)(hx:TxE e):PX 258 [encK ks,encE e,encI t] (encB (typedF ks e t)):=by
 refine PZ Tryz.func258 rfl ?_;have hb:=JFD e hs hx;have hT:=JJY ks e hs;generalize hF:typedF ks e t=F;unfold typedF at hF;generalize builtF e=b at hF hb hT;generalize typeF ks e=ty at hF hT;rw[J02] at hb hT ⊢;refine kWS ?_;intros;refine CallP.flat [] _ c123 hb rfl ?_;refine kWS ?_;intros
 cases b with
 |false=>
   rw[QD,QD] at hF;refine kS ?_;intros;exact .of (by rw[← hF];rfl)
 |true=>
   rw[QB] at hF;obtain ⟨x,y⟩:=ty;simp only at hF;refine kS ?_;intros;refine J00 [] _ c124 (hT rfl) ?_;refine kWS ?_;intros
   cases y with
   |false=>
     rw[QD] at hF;refine kS ?_;intros;exact .of (by rw[← hF];rfl)
   |true=>
     rw[QB] at hF;refine kS ?_;intros;exact .of (by rw[← hF];rfl)
def setM (A:List ByteArray):AV:=.mp (A.map encS) (A.map fun _=>encB true)
def memA (s:ByteArray)(A:List ByteArray):Bool:=A.any fun x=>decide (s=x)
theorem JD6 (s:ByteArray):∀ A:List ByteArray,∃ r,J1E (J13 T 9 (encS s)) (A.map encS)=some r∧(match r with
  |some i=>memA s A=true∧(A.map fun _=>encB true).getD i .dead=encB true
  |none=>memA s A=false)
 |[]=>⟨none,rfl,rfl⟩
 |x :: l=>by
   obtain ⟨r,h1,h2⟩:=JD6 s l;rw[QK];unfold J1E;rw[J7Y]
   by_cases h:s=x
   ·rw[Q2 h];exact ⟨some 0,rfl,by simp[memA,h],rfl⟩
   rw[Q1 h,h1];refine ⟨r.map (· + 1),rfl,?_⟩
   revert h2
   cases r with
   |none=>intro h2;simpa [memA,h] using h2
   |some i=>rintro ⟨h2,h3⟩;exact ⟨by unfold memA at *;rw[Q2H,h2,Q1t],h3⟩
def JBB (p:Nat)(e:Nat)(A:List ByteArray)(v:ByteArray):some (p,(⟨e,0,[.mp (A.map encS++[encS v]) ((A.map fun _=>encB true)++[encB true])]⟩:Blk))=some (p,⟨e,0,[setM (A++[v])]⟩):=by
 unfold setM;rw[QW,QW];rfl
def badA (ks:List (ByteArray×Va))(a:Ac)(A:List ByteArray):Bool:=match J11 ks a.var with
 |none=>true
 |some v=>(!decide (a.kind=0)&&!decide (a.kind=1))||!decide (v.kind=if a.kind=0 then 1 else 0)||memA a.var A||!typedF ks a.value v.type
def J4K (ks:List (ByteArray×Va)):List Ac→List ByteArray→List ByteArray→Bool×List ByteArray
 |[],_,A=>(true,A)
 |a::r,S,A=>if badA ks a (if a.kind=0 then A else S) then (false,A) else if a.kind=0 then J4K ks r S (A++[a.var]) else J4K ks r (S++[a.var]) A
def JAj (ks:List (ByteArray×Va))(w:Whn)(A:List ByteArray):Bool×List ByteArray:=((J4K ks w.acts [] A).1&&decide (0<w.acts.length),(J4K ks w.acts [] A).2)
def JOA (ks : List (ByteArray×Va))(w:Whn)(A:List ByteArray)(p:Nat)(hl:w.acts.length≤2^40)(he:∀ a∈w.acts,SzE a.value∧TxE a.value) :
  HCall Tryz.prog 259 [encK ks,J0m w,.om 50 p] (hp [(50,p,⟨302,0,[setM A]⟩)]) (fun r h=>r=encB (JAj ks w A).1∧h=hp [(50,p,⟨302,0,[setM (JAj ks w A).2]⟩)]):=by
 refine J2j (E:=E 0) J3x (JMY 0) Tryz.func259 rfl (by rfl) (QJ rfl) ?_;obtain ⟨wn,wc,ats⟩:=w;simp only at hl he;generalize hF:JAj ks ⟨wn,wc,ats⟩ A=F;unfold JAj at hF;simp only at hF;obtain ⟨G,hG⟩:∃ G,J4K ks ats [] A=G:=⟨_,rfl⟩;rw[hG] at hF;unfold J0m;refine kWS ?_;intros
 refine LoopP.intro (fun k σ H=>∃ g g4 i,∃ S A:List ByteArray,k=ats.length-i∧i≤ats.length∧J4K ks (ats.drop i) S A=G ∧
  σ=fr [(0,encK ks),(2,.om 50 p),(4,.op 4 g4 0 0),(6,encB false),(7,.om 14 g),(16,.sl 6 (ats.map J7m)),(17,encI ats.length),(18,encI i)] ∧
  H=hp [(4,g4,⟨228,6,[J0m ⟨wn,wc,ats⟩]⟩),(14,g,⟨302,0,[setM S]⟩),(50,p,⟨302,0,[setM A]⟩)]) ?_ ?_
 ·refine .intro <| W.of ⟨_,_,_,0,[],A,rfl,QG _,hG,rfl,rfl⟩ ⟨rfl,rfl,rfl,rfl,rfl,rfl,?_,rfl,trivial⟩ ⟨rfl,rfl,rfl,trivial⟩
  show AV.val (.int .i64 _)=AV.val (.int .i64 _)
  rw[Q3]
 clear hG A;rintro k σ H ⟨g,g4,i,S,A,rfl,hi,hG,rfl,rfl⟩;refine kWS ?_;intros;refine CondP.dec (fun h=>?_) (fun h=>?_)<;>refine kW ?_
 ·have hi':i<ats.length:=by omega
  rw[Q6 hi'] at hG;have hz:=he ats[i] (QF hi');refine kR ?_;intros;generalize ats[i]=a at hG hz ⊢;obtain ⟨ak,av,ae⟩:=a;simp only at hz;refine kR ?_;intros;refine Need.intro keyst9 ?_;refine kW ?_;obtain ⟨r,hr,hm⟩:=J27 encV av ks;refine LookP.intro r hr ?_;unfold J4K badA at hG;simp only at hG
  cases ha:J11 ks av with
  |none=>
    rw[ha] at hm hG
    cases r with
    |some i=>exact hm.elim
    |none=>
      replace hG:(false,A)=G:=hG;refine kWS ?_;intros;refine CondP.dec (fun _=>?_) (fun _=>?_)<;>refine kW ?_<;>refine kS ?_;intros
      all_goals exact EndH.of (m:=[(50,p,⟨302,0,[setM A]⟩)]) ⟨rfl,trivial⟩ ⟨by rw[← hF,← hG];rfl,by rw[← hF,← hG]⟩
  |some v=>
    rw[ha] at hm hG
    cases r with
    |none=>exact hm.elim
    |some j=>
      refine kW ?_;rw[show (List.map (fun x=>encV x.snd) ks).getD j AV.dead=encV v from hm];refine kWS ?_;intros;replace hG:(if ((!decide (ak=0)&&!decide (ak=1))||!decide (v.kind=if ak=0 then 1 else 0)||memA av (if ak=0 then A else S)||!typedF ks ae v.type) then (false,A) else if ak=0 then J4K ks (ats.drop (i+1)) S (A++[av]) else J4K ks (ats.drop (i+1)) (S++[av]) A)=G:=hG;have hty:=J6O ks ae v.type hz.1 hz.2;generalize typedF ks ae v.type=bt at hG hty;rw[J02] at hty;refine CondP.dec (fun h0=>?_) (fun h0=>?_)<;>refine kW ?_
      case' refine_1=>
       simp only[h0,decide_true,Q0W,QD,Qj,if_true] at hG;obtain ⟨r2,hr2,hm2⟩:=JD6 av A;refine kS ?_;intros
      case' refine_2=>
       by_cases h01:ak=1
       case' neg=>
        simp only[h0,h01,decide_false,Q0L,QB,Qx,if_true] at hG;refine kS ?_;intros;exact EndH.of (m:=[(50,p,⟨302,0,[setM A]⟩)]) ⟨rfl,trivial⟩ ⟨by rw[← hF,← hG];rfl,by rw[← hF,← hG]⟩
       simp only[h0,h01,decide_false,decide_true,Q0W,Q0L,Q0U,Qj,if_false,Int.reduceEq] at hG;obtain ⟨r2,hr2,hm2⟩:=JD6 av S;refine kS ?_;intros
      all_goals
       refine CondP.dec (fun h1=>?_) (fun h1=>?_)<;>refine kW ?_
       ·simp only[h1,decide_true,Q0W,Qj] at hG;refine kS ?_;intros;refine Need.intro keyst9 ?_;refine kWS ?_;intros;refine LookP.intro r2 hr2 ?_
        cases r2 with
        |some j2=>
          obtain ⟨hm3,hm4⟩:=hm2;simp only[hm3,Qx,if_true] at hG;refine kW ?_;rw[hm4];refine kWS ?_;intros;exact EndH.of (m:=[(50,p,⟨302,0,[setM A]⟩)]) ⟨rfl,trivial⟩ ⟨by rw[← hF,← hG];rfl,by rw[← hF,← hG]⟩
        |none=>
          replace hm2:memA av _=false:=hm2;simp only[hm2,Qj] at hG;refine kWS ?_;intros;refine CallP.flat [] _ c258 hty rfl ?_;refine kWS ?_;intros
          cases bt with
          |false=>
            replace hG:(false,A)=G:=hG;refine kS ?_;intros;exact EndH.of (m:=[(50,p,⟨302,0,[setM A]⟩)]) ⟨rfl,trivial⟩ ⟨by rw[← hF,← hG];rfl,by rw[← hF,← hG]⟩
          |true=>
            simp only[Q0W,Qc,if_false] at hG;refine kS ?_;intros;refine Need.intro keyst9 ?_;refine kWS ?_;intros;refine LookP.intro none hr2 ?_;refine kWS ?_;intros
            first
             |refine .intro <| W.of ⟨_,by omega,_,_,i+1,S,A++[av],rfl,hi',hG,rfl,rfl⟩ ⟨rfl,rfl,rfl,rfl,rfl,rfl,rfl,rfl,trivial⟩ ⟨rfl,rfl,JBB ..,trivial⟩
             |refine .intro <| W.of ⟨_,by omega,_,_,i+1,S++[av],A,rfl,hi',hG,rfl,rfl⟩ ⟨rfl,rfl,rfl,rfl,rfl,rfl,rfl,rfl,trivial⟩ ⟨rfl,JBB ..,rfl,trivial⟩
       simp only[h1,decide_false,Q0L,Qx,if_true] at hG;refine kS ?_;intros;exact EndH.of (m:=[(50,p,⟨302,0,[setM A]⟩)]) ⟨rfl,trivial⟩ ⟨by rw[← hF,← hG];rfl,by rw[← hF,← hG]⟩
 rw[Q9 (by omega)] at hG;refine kS ?_;intros;replace hG:(true,A)=G:=hG;refine EndH.of (m:=[(50,p,⟨302,0,[setM A]⟩)]) ⟨rfl,trivial⟩ ⟨?_,by rw[← hF,← hG]⟩;rw[← hF,← hG];show AV.val (.bool (decide _))=AV.val (.bool (decide _))
 congr 2
 exact QS.2 (by simp)
def eqT (ks:List (ByteArray×Va))(q:Eqn):Bool:=typedF ks q.left 0&&typedF ks q.right 0
def J4N (ks:List (ByteArray×Va)):List Whn→List ByteArray→Bool
 |[],_=>true
 |w::r,A=>typedF ks w.cond 1&&(JAj ks w A).1&&J4N ks r (JAj ks w A).2
def validF (s:Sys):Bool:=
 risG (s.vars.map Va.name) none&&risG (s.eqs.map Eqn.name) none&&risG (s.inits.map Eqn.name) none&&risG (s.whens.map Whn.name) none
  && !(s.vars.any fun v=>!varF v)&&(s.eqs.all (eqT (knownF s.vars))&&s.inits.all (eqT (knownF s.vars)))&&J4N (knownF s.vars) s.whens []
def J19 {l:List Eqn}{q:Eqn}(h:q∈l):q.left∈J1R l∧q.right∈J1R l:=by
 unfold J1R;exact ⟨Q0i.2 ⟨q,h,by simp⟩,Q0i.2 ⟨q,h,by simp⟩⟩
def J4n {l:List Whn}{w:Whn}(h:w∈l):w.cond∈l.flatMap J32∧∀ a∈w.acts,a.value∈l.flatMap J32:=by
 refine ⟨Q0i.2 ⟨w,h,by simp[J32]⟩,fun a ha=>Q0i.2 ⟨w,h,?_⟩⟩;unfold J32;exact Q02 _ (Qs.2 ⟨a,ha,rfl⟩)
def JKQ (s:Sys)(hs:SzS s)(h20:∀ w∈s.whens,w.acts.length≤20):PX 175 [J0E s] (encB (validF s)):=by
 refine PZ Tryz.func175 rfl ?_;have r1:=JFi s.vars hs.v fun v hv=>(hs.t v hv).1;have r2:=J8z s.eqs hs.q hs.m.1;have r3:=J8z s.inits hs.n hs.m.2.1;have r4:=JFh s.whens hs.w hs.m.2.2;have hC:=JCE 256 (fun v=>!varF v) s.vars hs.v c256 fun v hv=>JGy v (hs.t v hv).2.1 (hs.t v hv).2.2.1 (hs.t v hv).2.2.2;have hK:=J6Y s hs.v;have hQ:∀ q∈s.eqs,(SzE q.left∧TxE q.left)∧SzE q.right∧TxE q.right:=fun q hq=>⟨hs.e _ (by unfold allF;exact Qz _ (Qz _ (J19 hq).1)),hs.e _ (by unfold allF;exact Qz _ (Qz _ (J19 hq).2))⟩;have hN:∀ q∈s.inits,(SzE q.left∧TxE q.left)∧SzE q.right∧TxE q.right:=fun q hq=>⟨hs.e _ (by unfold allF;exact Qz _ (Q0m _ (J19 hq).1)),hs.e _ (by unfold allF;exact Qz _ (Q0m _ (J19 hq).2))⟩;have hWc:∀ w∈s.whens,SzE w.cond∧TxE w.cond:=fun w hw=>hs.e _ (by unfold allF;exact Q0m _ (J4n hw).1);have hWa:∀ w∈s.whens,∀ a∈w.acts,SzE a.value∧TxE a.value:=fun w hw a ha=>hs.e _ (by unfold allF;exact Q0m _ ((J4n hw).2 a ha));have hq:=hs.q;have hn:=hs.n;have hw:=hs.w;clear hs;generalize hF:validF s=F;unfold validF at hF;obtain ⟨vs,qs,ns,ws⟩:=s;simp only at *;generalize risG (vs.map Va.name) none=b1 at *;generalize risG (qs.map Eqn.name) none=b2 at *;generalize risG (ns.map Eqn.name) none=b3 at *;generalize risG (ws.map Whn.name) none=b4 at *;generalize (vs.any fun v=>!varF v)=b5 at *;generalize knownF vs=ks at *;unfold J0E at hK ⊢;refine kWS ?_;intros;refine CallP.flat [] _ c249 r1 rfl ?_;refine kWS ?_;intros;refine CondP.intro (fun h=>?_) (fun h=>?_)<;>refine kW ?_
 case' refine_2=>
  simp only[h,QD] at hF;refine kS ?_;intros;exact .of (by rw[← hF];rfl)
 simp only[h,QB] at hF;refine kS ?_;intros;refine CallP.flat [] _ c251 r2 rfl ?_;refine kWS ?_;intros;refine CondP.intro (fun h=>?_) (fun h=>?_)<;>refine kW ?_
 case' refine_2=>
  simp only[h,QD] at hF;refine kS ?_;intros;exact .of (by rw[← hF];rfl)
 simp only[h,QB] at hF;refine kS ?_;intros;refine CallP.flat [] _ c251 r3 rfl ?_;refine kWS ?_;intros;refine CondP.intro (fun h=>?_) (fun h=>?_)<;>refine kW ?_
 case' refine_2=>
  simp only[h,QD] at hF;refine kS ?_;intros;exact .of (by rw[← hF];rfl)
 simp only[h,QB] at hF;refine kS ?_;intros;refine CallP.flat [] _ c253 r4 rfl ?_;refine kWS ?_;intros;refine CondP.intro (fun h=>?_) (fun h=>?_)<;>refine kW ?_
 case' refine_2=>
  simp only[h,QD] at hF;refine kS ?_;intros;exact .of (by rw[← hF];rfl)
 simp only[h,QB] at hF;refine kS ?_;intros;refine CallP.flat [] _ c255 hC rfl ?_;refine kWS ?_;intros;refine CondP.intro (fun h=>?_) (fun h=>?_)<;>refine kW ?_
 ·simp only[h,Q0W,QD] at hF;refine kS ?_;intros;exact .of (by rw[← hF];rfl)
 simp only[h,Q0L,QB] at hF;refine kS ?_;intros;refine J00 [] _ c99 hK ?_;refine kWS ?_;intros
 have hQN:∀ l∈[qs,ns],l.length≤2^60∧∀ q∈l,(SzE q.left∧TxE q.left)∧SzE q.right∧TxE q.right:=by
  intro l hl
  rcases QO.1 hl with h|h
  ·rw[h];exact ⟨hq,hQ⟩
  rw[Q12.1 h];exact ⟨hn,hN⟩
 obtain ⟨wh,hwh⟩:∃ wh,J4N ks ws []=wh:=⟨_,rfl⟩;rw[hwh] at hF;replace hF:([qs,ns].all (fun l=>l.all (eqT ks))&&wh)=F:=by rw[← hF];simp
 clear hQ hN r1 r2 r3 r4 hC hK
 refine LoopP.intro (fun k σ H=>∃ g1 g42 i,k=2-i∧i≤2∧(([qs,ns].drop i).all (fun l=>l.all (eqT ks))&&wh)=F ∧
  σ=fr [(1,.op 1 g1 0 0),(2,encB false),(3,encK ks),(42,.own 42 g42 0 2),(43,encI 2),(44,encI i)] ∧
  H=hp [(1,g1,⟨26,4,[.agg [.sl 7 (vs.map encV),.sl 9 (qs.map J0M),.sl 9 (ns.map J0M),.sl 6 (ws.map J0m)]]⟩),(42,g42,⟨23,1,[qs,ns].map fun l=>.sl 9 (l.map J0M)⟩)]) ?_ ?_
 ·exact .intro <| W.of ⟨_,_,_,0,rfl,by omega,hF,rfl,rfl⟩ ⟨rfl,rfl,rfl,rfl,rfl,rfl,trivial⟩ ⟨rfl,rfl,trivial⟩
 clear hF;rintro k σ H ⟨g1,g42,i,rfl,hi,hF,rfl,rfl⟩;refine kWS ?_;intros;refine CondP.dec (fun h=>?_) (fun h=>?_)<;>refine kW ?_
 ·have hi':i<[qs,ns].length:=by simp;omega
  rw[Q6 hi',Q0l] at hF;obtain ⟨hl,hlq⟩:=hQN _ (QF hi');refine kR ?_;intros;generalize [qs,ns][i]=l at hF hl hlq ⊢;obtain ⟨rs,hrs⟩:∃ rs,([qs,ns].drop (i+1)).all (fun l=>l.all (eqT ks))=rs:=⟨_,rfl⟩;rw[hrs] at hF
  refine LoopP.intro (fun k σ H=>∃ j,k=l.length-j∧j≤l.length∧((l.drop j).all (eqT ks)&&rs&&wh)=F ∧
   σ=fr [(1,.op 1 g1 0 0),(2,encB false),(3,encK ks),(42,.own 42 g42 0 2),(43,encI 2),(44,encI i),(48,.sl 9 (l.map J0M)),(49,encI l.length),(50,encI j)] ∧
   H=hp [(1,g1,⟨26,4,[.agg [.sl 7 (vs.map encV),.sl 9 (qs.map J0M),.sl 9 (ns.map J0M),.sl 6 (ws.map J0m)]]⟩),(42,g42,⟨23,1,[qs,ns].map fun l=>.sl 9 (l.map J0M)⟩)]) ?_ ?_
  ·exact .intro <| W.of ⟨_,0,rfl,QG _,hF,rfl,rfl⟩ ⟨rfl,rfl,rfl,rfl,rfl,rfl,rfl,rfl,rfl,trivial⟩ ⟨rfl,rfl,trivial⟩
  clear hF;rintro k σ H ⟨j,rfl,hj,hF,rfl,rfl⟩;refine kWS ?_;intros;refine CondP.dec (fun h=>?_) (fun h=>?_)<;>refine kW ?_
  ·have hj':j<l.length:=by omega
   rw[Q6 hj',Q0l] at hF;have hz:=hlq _ (QF hj');refine kR ?_;intros;generalize l[j]=q at hF hz ⊢;unfold eqT at hF;have t1:=J6O ks q.left 0 hz.1.1 hz.1.2;have t2:=J6O ks q.right 0 hz.2.1 hz.2.2;generalize typedF ks q.left 0=y1 at hF t1;generalize typedF ks q.right 0=y2 at hF t2;rw[J0C] at t1 t2;refine kR ?_;intros;refine CallP.flat [] _ c258 t1 rfl ?_;refine kWS ?_;intros;refine CondP.intro (fun h1=>?_) (fun h1=>?_)<;>refine kW ?_
   case' refine_2=>
    simp only[h1,QD] at hF;refine kS ?_;intros;exact .of (by rw[← hF];rfl)
   simp only[h1,QB] at hF;refine kS ?_;intros;refine CallP.flat [] _ c258 t2 rfl ?_;refine kWS ?_;intros;refine CondP.intro (fun h2=>?_) (fun h2=>?_)<;>refine kW ?_
   case' refine_2=>
    simp only[h2,QD] at hF;refine kS ?_;intros;exact .of (by rw[← hF];rfl)
   simp only[h2,QB] at hF;refine kS ?_;intros
   exact .intro <| W.of ⟨_,by omega,j+1,rfl,hj',hF,rfl,rfl⟩ ⟨rfl,rfl,rfl,rfl,rfl,rfl,rfl,rfl,rfl,trivial⟩ ⟨rfl,rfl,trivial⟩
  rw[Q9 (by omega)] at hF;refine kS ?_;intros
  exact .intro <| W.of ⟨_,by omega,_,_,i+1,rfl,by omega,by rw[hrs];exact hF,rfl,rfl⟩ ⟨rfl,rfl,rfl,rfl,rfl,rfl,trivial⟩ ⟨rfl,rfl,trivial⟩
 rw[Q9 (by simp;omega)] at hF;replace hF:wh=F:=hF;rw[← hwh] at hF;refine kS ?_;intros
 refine LoopP.intro (fun k σ H=>∃ g i,∃ A:List ByteArray,k=ws.length-i∧i≤ws.length∧J4N ks (ws.drop i) A=F ∧
  σ=fr [(2,encB false),(3,encK ks),(8,.om 68 g),(70,.sl 6 (ws.map J0m)),(71,encI ws.length),(72,encI i)] ∧
  H=hp [(68,g,⟨302,0,[setM A]⟩)]) ?_ ?_
 ·refine .intro <| W.of ⟨_,_,0,[],rfl,QG _,hF,rfl,rfl⟩ ⟨rfl,rfl,rfl,rfl,?_,rfl,trivial⟩ ⟨rfl,trivial⟩
  show AV.val (.int .i64 _)=AV.val (.int .i64 _)
  rw[Q3]
 clear hF hwh;rintro k σ H ⟨g,i,A,rfl,hi,hF,rfl,rfl⟩;refine kWS ?_;intros;refine CondP.dec (fun h=>?_) (fun h=>?_)<;>refine kW ?_
 ·have hi':i<ws.length:=by omega
  rw[Q6 hi'] at hF;unfold J4N at hF;have hz:=hWc _ (QF hi');have hza:=hWa _ (QF hi');have h20':=h20 _ (QF hi');refine kR ?_;intros;generalize ws[i]=w at hF hz hza h20' ⊢;have t1:=J6O ks w.cond 1 hz.1 hz.2;generalize typedF ks w.cond 1=y1 at hF t1;rw[J0C] at t1;refine kR ?_;intros;refine CallP.flat [] _ c258 t1 rfl ?_;refine kWS ?_;intros;refine CondP.intro (fun h1=>?_) (fun h1=>?_)<;>refine kW ?_
  case' refine_2=>
   simp only[h1,QD] at hF;refine kS ?_;intros;exact .of (by rw[← hF];rfl)
  simp only[h1,QB] at hF;refine kS ?_;intros;refine CallP.frame 1000000 [(50,68)] rfl c259 (JOA ks w A g (by omega) hza) rfl ⟨rfl,trivial⟩ ?_;rintro r0 h' ⟨rfl,rfl⟩;refine ⟨[(68,g,⟨302,0,[setM (JAj ks w A).2]⟩)],⟨rfl,trivial⟩,?_⟩;refine kWS ?_;intros;refine CondP.intro (fun h2=>?_) (fun h2=>?_)<;>refine kW ?_
  case' refine_2=>
   simp only[h2,QD] at hF;refine kS ?_;intros;exact .of (by rw[← hF];rfl)
  simp only[h2,QB] at hF;refine kS ?_;intros
  exact .intro <| W.of ⟨_,by omega,_,i+1,_,rfl,hi',hF,rfl,rfl⟩ ⟨rfl,rfl,rfl,rfl,rfl,rfl,trivial⟩ ⟨rfl,trivial⟩
 rw[Q9 (by omega)] at hF;refine kS ?_;intros;exact .of (by rw[← hF];rfl)
def checkF (s:Sys):Int:=if largeF s then 2 else if validF s then 0 else 1
def J5R (s:Sys)(hs:SzS s):PX 89 [J0E s] (encI (checkF s)):=by
 refine PZ Tryz.func89 rfl ?_;have hL:=JL3 s hs
 have h20:largeF s=false→∀ w∈s.whens,w.acts.length≤20:=by
  intro h w hw;unfold largeF at h;simp only[Q04] at h;have:=Q0q.1 h.1.2 w hw;simp at this;exact this
 have hV:=fun h=>JKQ s hs (h20 h);generalize hF:checkF s=F;unfold checkF at hF;generalize largeF s=a at hF hL hV;generalize validF s=b at hF hV;clear h20 hs;unfold J0E at hL hV ⊢;refine kWS ?_;intros;refine CallP.flat [] _ c174 hL rfl ?_;refine kWS ?_;intros
 cases a with
 |true=>
   refine kS ?_;intros;exact .of (by rw[← hF];rfl)
 |false=>
   refine kS ?_;intros;refine CallP.flat [] _ c175 (hV rfl) rfl ?_;refine kWS ?_;intros
   cases b with
   |true=>
     refine kS ?_;intros;exact .of (by rw[← hF];rfl)
   |false=>
     refine kS ?_;intros;exact .of (by rw[← hF];rfl)
abbrev oTrue:ByteArray:=⟨#[116,114,117,101]⟩
abbrev oFalse:ByteArray:=⟨#[102,97,108,115,101]⟩
abbrev oTime:ByteArray:=⟨#[116,105,109,101]⟩
abbrev oInit:ByteArray:=⟨#[105,110,105,116,105,97,108]⟩
abbrev oNeg:ByteArray:=⟨#[110,101,103]⟩
abbrev oNot:ByteArray:=⟨#[110,111,116]⟩
abbrev oAdd:ByteArray:=⟨#[97,100,100]⟩
abbrev oSub:ByteArray:=⟨#[115,117,98]⟩
abbrev oMul:ByteArray:=⟨#[109,117,108]⟩
abbrev oDiv:ByteArray:=⟨#[100,105,118]⟩
abbrev oLess:ByteArray:=⟨#[108,101,115,115]⟩
abbrev oAtMost:ByteArray:=⟨#[97,116,109,111,115,116]⟩
abbrev oMore:ByteArray:=⟨#[109,111,114,101]⟩
abbrev oAtLeast:ByteArray:=⟨#[97,116,108,101,97,115,116]⟩
abbrev oAnd:ByteArray:=⟨#[97,110,100]⟩
abbrev oOr:ByteArray:=⟨#[111,114]⟩
def J8X (o:ByteArray):Int:=
 if o=oNum then 0 else if o=oTrue then 0 else if o=oFalse then 0 else if o=oVar then 0 else if o=oPre then 0 else if o=oTime then 0 else if o=oInit then 0
 else if o=oNeg then 1 else if o=oNot then 1
 else if o=oSample then 2 else if o=oAdd then 2 else if o=oSub then 2 else if o=oMul then 2 else if o=oDiv then 2 else if o=oLess then 2 else if o=oAtMost then 2 else if o=oMore then 2 else if o=oAtLeast then 2
 else if o=oEq then 2 else if o=oNe then 2 else if o=oAnd then 2 else if o=oOr then 2 else if o=oIf then 3 else -1
def JOO (o:ByteArray):PX 206 [encS o] (encI (J8X o)):=by
 refine PZ Tryz.func206 rfl ?_;generalize hF:J8X o=F;unfold J8X at hF;refine kWS ?_;intros
 repeat
  refine CondP.dec (fun h=>?_) (fun h=>?_)<;>refine kW ?_
  ·rw[if_pos h] at hF;refine kS ?_;intros;exact .of (by rw[← hF];rfl)
  rw[if_neg h] at hF;refine kS ?_;intros
 exact .of (by rw[← hF];rfl)
def J4q (o:ByteArray):J8X o=J0d o:=by
 have key:∀ x:ByteArray,o=x→J8X x=J0d x→J8X o=J0d o:=fun x h e=>by rw[h];exact e
 by_cases h1:o=oNum;· exact key _ h1 (by kernel_rfl)
 by_cases h2:o=oTrue;· exact key _ h2 (by kernel_rfl)
 by_cases h3:o=oFalse;· exact key _ h3 (by kernel_rfl)
 by_cases h4:o=oVar;· exact key _ h4 (by kernel_rfl)
 by_cases h5:o=oPre;· exact key _ h5 (by kernel_rfl)
 by_cases h6:o=oTime;· exact key _ h6 (by kernel_rfl)
 by_cases h7:o=oInit;· exact key _ h7 (by kernel_rfl)
 by_cases h8:o=oNeg;· exact key _ h8 (by kernel_rfl)
 by_cases h9:o=oNot;· exact key _ h9 (by kernel_rfl)
 by_cases h10:o=oSample;· exact key _ h10 (by kernel_rfl)
 by_cases h11:o=oAdd;· exact key _ h11 (by kernel_rfl)
 by_cases h12:o=oSub;· exact key _ h12 (by kernel_rfl)
 by_cases h13:o=oMul;· exact key _ h13 (by kernel_rfl)
 by_cases h14:o=oDiv;· exact key _ h14 (by kernel_rfl)
 by_cases h15:o=oLess;· exact key _ h15 (by kernel_rfl)
 by_cases h16:o=oAtMost;· exact key _ h16 (by kernel_rfl)
 by_cases h17:o=oMore;· exact key _ h17 (by kernel_rfl)
 by_cases h18:o=oAtLeast;· exact key _ h18 (by kernel_rfl)
 by_cases h19:o=oEq;· exact key _ h19 (by kernel_rfl)
 by_cases h20:o=oNe;· exact key _ h20 (by kernel_rfl)
 by_cases h21:o=oAnd;· exact key _ h21 (by kernel_rfl)
 by_cases h22:o=oOr;· exact key _ h22 (by kernel_rfl)
 by_cases h23:o=oIf;· exact key _ h23 (by kernel_rfl)
 unfold J8X J0d;simp only[h1,h2,h3,h4,h5,h6,h7,h8,h9,h10,h11,h12,h13,h14,h15,h16,h17,h18,h19,h20,h21,h22,h23,if_false,or_self,shp,J11]
mutual
def szF:Ex→Nat
 |.mk _ _ _ ks=>1+szL ks
def szL:List Ex→Nat
 |[]=>0
 |k::ks=>szF k+szL ks
end
mutual
def htF:Ex→Nat
 |.mk _ _ _ ks=>1+htL ks
def htL:List Ex→Nat
 |[]=>0
 |k::ks=>max (htF k) (htL ks)
end
def JE2 (e:Ex):szF e=1+szL e.kids:=by cases e;rfl
def JIG (e:Ex):htF e=1+htL e.kids:=by cases e;rfl
def JHH (ks:List Ex)(i:Nat)(h:i<ks.length):szL (ks.take (i+1))=szL (ks.take i)+szF ks[i]:=by
 rw[Qd h];generalize ks.take i=l
 induction l with
 |nil=>simp[szL]
 |cons a l ih=>simp only[Q01,szL,ih];omega
def JKa (ks:List Ex):∀ i,szL (ks.take i)≤szL ks:=by
 induction ks with
 |nil=>intro i;simp[szL]
 |cons k ks ih=>
   intro i
   cases i with
   |zero=>exact QG _
   |succ i=>simp only[Q0D,szL];have:=ih i;omega
def JN3 (e:Ex):1≤szF e:=by rw[JE2];omega
def JE9 (e:Ex):SzE e→∀ m:Nat,m≤1000→PX 170 [encE e,encI m] (encI (min (szF e) (m+1):Nat)):=by
 induction e using J1i with
 |h e ih=>
   intro hs m hm;have ihk:∀ k∈e.kids,∀ m:Nat,m≤1000→PX 170 [encE k,encI m] (encI (min (szF k) (m+1):Nat)):=fun k hk=>ih k hk (hs.kid k hk);clear ih;have hlen:=hs.len;refine PZ Tryz.func170 rfl ?_;have hT:=JKa e.kids;have hS:=JHH e.kids;rw[JE2];rw[J02];obtain ⟨N,hN⟩:∃ N,szL e.kids=N:=⟨_,rfl⟩;rw[hN] at hT ⊢;refine kWS ?_;intros
   refine LoopP.intro (fun k σ H=>∃ g i,k=e.kids.length-i∧i≤e.kids.length ∧
    σ=fr [(1,encI m),(2,.op 2 g 0 0),(5,encI (min (1+szL (e.kids.take i)) (m+1):Nat)),(6,encI i)]∧H=hp [(2,g,⟨29,4,[.agg [encS e.op,encS e.text,encI e.order,.sl 4 (e.kids.map encE)]]⟩)]) ?_ ?_
   ·refine .intro <| W.of ⟨_,_,0,rfl,QG _,rfl,rfl⟩ ⟨rfl,rfl,?_,rfl,trivial⟩ ⟨rfl,trivial⟩
    show AV.val (.int .i64 _)=AV.val (.int .i64 _)
    congr 2
   rintro k σ H ⟨g,i,rfl,hi,rfl,rfl⟩;have hTi:=hT i
   rcases QI i e.kids.length with h1|h1
   ·have hSi:=hS i h1
    by_cases h2:1+szL (e.kids.take i)≤m
    ·have hk:=ihk e.kids[i] (QF h1) (m-(1+szL (e.kids.take i))) (by omega);have hkp:=JN3 e.kids[i];rw[show min (1+szL (e.kids.take i)) (m+1)=1+szL (e.kids.take i) by omega];generalize szL (e.kids.take i)=s at *;have e1:(m:Int)-((1+s:Nat):Int)=((m-(1+s):Nat):Int):=by omega
     refine kWQ ?_;intros;generalize e.kids[i]=k at *;rw[J02] at hk ⊢;refine kQ ?_;intros;simp only[e1];refine CallP.flat [] _ c170 hk rfl ?_;refine kWQ ?_;intros
     refine .intro <| W.of ⟨_,by omega,g,i+1,rfl,h1,rfl,rfl⟩ ⟨rfl,rfl,?_,rfl,trivial⟩ ⟨rfl,trivial⟩
     show AV.val (.int .i64 _)=AV.val (.int .i64 _)
     congr 2
     rw[hSi];omega
    rw[show min (1+szL (e.kids.take i)) (m+1)=m+1 by omega];refine kWQ ?_;intros;refine .of ?_;show AV.val (.int .i64 _)=AV.val (.int .i64 _)
    congr 2;omega
   obtain rfl:i=e.kids.length:=by omega
   rw[Qi,hN];refine kWQ ?_;intros;exact .of rfl
def JOz (ks:List Ex)(d:Nat):d<htL ks↔∃ i,∃ h:i<ks.length,d<htF ks[i]:=by
 induction ks with
 |nil=>simp[htL]
 |cons k ks ih=>
   simp only[htL];rw[show d<max (htF k) (htL ks)↔d<htF k∨d<htL ks by omega,ih];constructor
   ·rintro (h | ⟨i,h,h'⟩)
    ·exact ⟨0,by simp,h⟩
    exact ⟨i+1,by simp;omega,h'⟩
   rintro ⟨i,h,h'⟩
   cases i with
   |zero=>exact .inl h'
   |succ i=>exact .inr ⟨i,by simp at h;omega,h'⟩
def JLU (e:Ex):SzE e→∀ d:Nat,d≤1000→PX 171 [encE e,encI d] (encB (decide (d<htF e))):=by
 induction e using J1i with
 |h e ih=>
   intro hs d hd;have ihk:∀ k∈e.kids,∀ d:Nat,d≤1000→PX 171 [encE k,encI d] (encB (decide (d<htF k))):=fun k hk=>ih k hk (hs.kid k hk);clear ih;have hlen:=hs.len;refine PZ Tryz.func171 rfl ?_;have hL:=JOz e.kids (d-1);rw[JIG];rw[J02]
   by_cases h0:d<1
   ·rw[Q2 (by omega)];refine kWQ ?_;intros;exact .of rfl
   rw[show decide (d<1+htL e.kids)=decide (d-1<htL e.kids) from QS.2 (by omega)];have e1:(d:Int)-1=((d-1:Nat):Int):=by omega
   refine kWQ ?_;intros
   refine LoopP.intro (fun k σ H=>∃ g i,k=e.kids.length-i∧i≤e.kids.length∧(∀ j (h:j<e.kids.length),j<i→¬ d-1<htF e.kids[j]) ∧
    σ=fr [(1,encI d),(2,.op 2 g 0 0),(5,encI i)]∧H=hp [(2,g,⟨29,4,[.agg [encS e.op,encS e.text,encI e.order,.sl 4 (e.kids.map encE)]]⟩)]) ?_ ?_
   ·exact .intro <| W.of ⟨_,_,0,rfl,QG _,fun j h h'=>absurd h' (by omega),rfl,rfl⟩ ⟨rfl,rfl,rfl,trivial⟩ ⟨rfl,trivial⟩
   rintro k σ H ⟨g,i,rfl,hi,hj,rfl,rfl⟩
   rcases QI i e.kids.length with h1|h1
   ·have hk:=ihk e.kids[i] (QF h1) (d-1) (by omega)
    by_cases h2:d-1<htF e.kids[i]
    ·rw[Q2 h2] at hk;rw[Q2 (hL.2 ⟨i,h1,h2⟩)];clear h2 hj hL;refine kWQ ?_;intros;generalize e.kids[i]=k at *;rw[J02] at hk ⊢;refine kQ ?_;intros;simp only[e1];refine CallP.flat [] _ c171 hk rfl ?_;refine kWQ ?_;intros;exact .of rfl
    rw[Q1 h2] at hk
    have hj':∀ j (h:j<e.kids.length),j<i+1→¬ d-1<htF e.kids[j]:=fun j h h'=>by
     by_cases he:j=i
     ·subst he;exact h2
     exact hj j h (by omega)
    clear h2 hj;refine kWQ ?_;intros;generalize e.kids[i]=k at hk ⊢;rw[J02] at hk ⊢;refine kQ ?_;intros;simp only[e1];refine CallP.flat [] _ c171 hk rfl ?_;refine kWQ ?_;intros
    exact .intro <| W.of ⟨_,by omega,g,i+1,rfl,h1,hj',rfl,rfl⟩ ⟨rfl,rfl,rfl,trivial⟩ ⟨rfl,trivial⟩
   rw[Q1 (fun e=>by obtain ⟨j,h,h'⟩:=hL.1 e;exact hj j h (by omega) h')];refine kWQ ?_;intros;exact .of rfl
def J28 (e:Ex):Bool:=decide (200<szF e)||decide (24<htF e)
def JLx (e:Ex)(hs:SzE e):PX 87 [encE e] (encB (J28 e)):=by
 refine PZ Tryz.func87 rfl ?_;have h1:=JE9 e hs 200 (by omega);have h2:=JLU e hs 24 (by omega);generalize hF:J28 e=F;unfold J28 at hF;rw[J02] at h1 h2 ⊢
 by_cases h3:200<szF e
 ·rw[show min (szF e) (200+1)=201 by omega] at h1;rw[Q2 h3] at hF;refine kWQ ?_;intros;refine CallP.flat [] _ c170 h1 rfl ?_;refine kWQ ?_;intros;exact .of (by rw[← hF];rfl)
 rw[show min (szF e) (200+1)=szF e by omega] at h1;rw[Q1 h3,Qj] at hF;refine kWQ ?_;intros;refine CallP.flat [] _ c170 h1 rfl ?_;refine kWQ ?_;intros;refine CallP.flat [] _ c171 h2 rfl ?_;refine kWQ ?_;intros;exact .of (by rw[← hF];rfl)
def JBX:∀ (d:Nat) (e:Ex) (l:Int),0≤l→(htF e≤d∧(szF e:Int)≤l→measF d e l=l-szF e)∧(¬ (htF e≤d∧(szF e:Int)≤l)→measF d e l<0):=by
 intro d
 induction d with
 |zero=>
   intro e l hl;have:1≤htF e:=by rw[JIG];omega
   exact ⟨fun h=>absurd h.1 (by omega),fun _=>by unfold measF;omega⟩
 |succ d ih=>
   intro e l hl;have hz:=JE2 e;have hh:=JIG e
   have key:∀ (ks:List Ex) (l:Int),0≤l→(htL ks≤d∧(szL ks:Int)≤l→J2x (measF d) ks l=l-szL ks)∧(¬ (htL ks≤d∧(szL ks:Int)≤l)→J2x (measF d) ks l<0):=by
    intro ks
    induction ks with
    |nil=>intro l hl;exact ⟨fun _=>by simp[J2x,szL],fun h=>absurd ⟨by simp[htL],by simp[szL];omega⟩ h⟩
    |cons k ks ihk=>
      intro l hl;obtain ⟨a1,a2⟩:=ih k l hl;unfold J2x htL szL
      by_cases hk:htF k≤d∧(szF k:Int)≤l
      ·rw[a1 hk,if_neg (by omega)];obtain ⟨b1,b2⟩:=ihk (l-szF k) (by omega);exact ⟨fun h=>by rw[b1 ⟨by omega,by omega⟩];omega,fun h=>b2 (fun h'=>h ⟨by omega,by omega⟩)⟩
      rw[if_pos (a2 hk)];exact ⟨fun h=>absurd ⟨by omega,by omega⟩ hk,fun _=>by omega⟩
   unfold measF
   by_cases h1:l-1<0
   ·rw[if_pos h1];exact ⟨fun h=>by omega,fun _=>by omega⟩
   rw[if_neg h1];obtain ⟨b1,b2⟩:=key e.kids (l-1) (by omega);exact ⟨fun h=>by rw[b1 ⟨by omega,by omega⟩];omega,fun h=>b2 (fun h'=>h ⟨by omega,by omega⟩)⟩
def J9A (e:Ex):tooF e=J28 e:=by
 obtain ⟨h1,h2⟩:=JBX 24 e 200 (by omega);unfold tooF J28;rw[← Bool.decide_or];refine QS.2 ?_
 by_cases h:htF e≤24∧(szF e:Int)≤200
 ·rw[h1 h];omega
 have:=h2 h;omega
def JHT (e:Ex)(h:J28 e=false):sizeF e=szF e:=by
 unfold J28 at h;simp at h;unfold sizeF;rw[(JBX 24 e 200 (by omega)).1 ⟨by omega,by omega⟩];omega
def findR (vs:List Va)(s:ByteArray):Int:=J0Y (fun v:Va=>decide (v.name=s)) vs 0
def JDj (s:Sys)(n:ByteArray)(hv:s.vars.length≤2^60):PX 84 [J0E s,encS n] (encI (findR s.vars n)):=by
 refine PZ Tryz.func84 rfl ?_;obtain ⟨vs,qs,ns,ws⟩:=s;simp only at hv ⊢;generalize hF:findR vs n=F;unfold findR at hF;unfold J0E;refine kWQ ?_;intros
 refine LoopP.intro (fun k σ H=>∃ g i,i≤vs.length∧k=vs.length-i∧J0Y (fun v:Va=>decide (v.name=n)) (vs.drop i) i=F∧σ=fr [(1,encS n),(2,.op 2 g 0 0),(5,encI i)] ∧
  H=hp [(2,g,⟨26,4,[.agg [.sl 7 (vs.map encV),.sl 9 (qs.map J0M),.sl 9 (ns.map J0M),.sl 6 (ws.map J0m)]]⟩)]) ?_ ?_
 ·exact .intro <| W.of ⟨_,_,0,QG _,rfl,hF,rfl,rfl⟩ ⟨rfl,rfl,rfl,trivial⟩ ⟨rfl,trivial⟩
 rintro k σ H ⟨g,i,hi,rfl,hF,rfl,rfl⟩
 rcases QI i vs.length with h1|h1
 ·rw[Q6 h1] at hF;unfold J0Y at hF;refine kWQ ?_;intros;generalize vs[i]=v at hF ⊢;refine CondP.dec (fun h=>?_) (fun h=>?_)<;>refine kW ?_
  ·rw[Q2 h] at hF;refine kQ ?_;intros;exact .of (by rw[← hF];rfl)
  rw[Q1 h] at hF;refine kQ ?_;intros
  exact .intro <| W.of ⟨_,by omega,g,i+1,h1,rfl,hF,rfl,rfl⟩ ⟨rfl,rfl,rfl,trivial⟩ ⟨rfl,trivial⟩
 rw[Q9 (by omega)] at hF;refine kWQ ?_;intros;exact .of (by rw[← hF];rfl)
def J3b (s:ByteArray):ofL s.data.toList=s:=J12 s
def J3r (s:ByteArray)(t:Int)(hs:s.size<2^35)(ht:t=0∨t=1):PX 118 [encS s,encI t] (encB (valueF s t)):=by
 refine PZ Tryz.func118 rfl ?_;have h1:=JJs s.data.toList (by exact hs);rw[J3b,← (J1t s.data.toList).1] at h1;generalize hF:valueF s t=F;unfold valueF at hF;have hl:(s=sTrue∨s=sFalse)→(J06 s.data.toList).2=false:=by rintro (rfl|rfl)<;>kernel_rfl
 rcases ht with rfl|rfl
 ·rw[show decide ((1:Int)=0)=false from rfl,show decide ((0:Int)=0)=true from rfl,Q0e] at hF
  have:(J06 s.data.toList).2=F:=by
   rw[← hF];split
   ·rename_i h;exact hl h
   rfl
  rw[this] at h1;refine kWQ ?_;intros;refine CallP.flat [] _ c152 h1 rfl ?_;refine kWQ ?_;intros;exact .of rfl
 rw[show decide ((1:Int)=1)=true from rfl,show decide ((0:Int)=1)=false from rfl,Q0U] at hF;refine kWQ ?_;intros;refine CondP.dec (fun h=>?_) (fun h=>?_)<;>refine kW ?_
 ·rw[if_pos (.inl h)] at hF;refine kQ ?_;intros;exact .of (by rw[← hF];rfl)
 refine kQ ?_;intros
 by_cases h2:s=sFalse
 ·rw[if_pos (.inr h2)] at hF;refine .of ?_;rw[← hF];show AV.val (.bool (decide _))=_
  rw[Q2 h2];rfl
 rw[if_neg (by rintro (e|e);exact h e;exact h2 e)] at hF;refine .of ?_;rw[← hF];show AV.val (.bool (decide _))=_
 rw[Q1 h2];rfl
def JKd (l:List UInt8)(n:Int)(d:Nat)(h:readR l=some (n,d)):0<sgn n↔hasP (ofL l) (b1 45)=false∧l≠[48]:=by
 obtain ⟨hk,ht⟩:=J1Z h;rw[JIL];have hs:0<sgn n↔0<n:=by unfold sgn;split<;>(try split)<;>omega
 rw[hs];obtain ⟨c,r,hcr,hh⟩:=JA2 n d
 have hz:l=[48]↔n=0:=by
  constructor
  ·intro e;rw[e] at h
   have h2:readR [48]=some (0,1):=by
    have h3:okR (0,1):=⟨Nat.one_pos,by decide,by decide,JIl⟩;have h4:=J6T 0 1 h3;have e1:rT 0 1=[48]:=rfl
    rwa [e1] at h4
   rw[h2] at h;cases h;rfl
  rintro rfl;have hd:d=1:=by have:=hk.2.1;simpa using this
  subst hd;rw[ht];rfl
 have hneg:l.head?=some 45↔n<0:=by
  rw[ht,JFo]
  by_cases hn:n<0
  ·rw[if_pos hn];simp[hn]
  rw[if_neg hn];rw[JFo,if_neg hn] at hcr;rw[hcr];simp only[QK,Q3N,Qv,hn,iff_false];intro e;have:=QC UInt8.toNat e
  have hc:48≤c∧c≤57:=by
   have hdg:=J2F n.natAbs;have hcn:=J3m n.natAbs
   cases hT:decT n.natAbs with
   |nil=>rw[hT] at hcn;simp[J20] at hcn
   |cons a b=>
     rw[hT,Q01] at hcr;rw[hT,Q0l,Q5] at hdg;have:=hdg.1;unfold isDg at this;simp at this;rw[← (Q2e hcr).1];exact this
  simp at this;omega
 rw[show (decide (l.head?=some 45)=false)↔¬ n<0 by rw[Qe,hneg],ne_eq,hz];omega
def JK2 (e:Ex):SzE e→TxE e→PX 125 [encE e] (encB (builtF e)):=by
 induction e using J1i with
 |h e ih=>
   intro hs ht;have ihk:∀ k∈e.kids,PX 125 [encE k] (encB (builtF k)):=fun k hk=>ih k hk (hs.kid k hk) (ht.kid k hk);have htk:∀ k∈e.kids,TxE k:=ht.kid;clear ih;have htx:e.text.size<2^35:=ht.tx;have hlen:=hs.len;refine PZ Tryz.func125 rfl ?_;have hK:=JOO e.op;rw[J4q] at hK;have hIs:=JJs e.text.data.toList (by exact htx);rw[J3b,← (J1t e.text.data.toList).1] at hIs;have hNm:=J5N e.text (by omega);generalize hF:builtF e=F;rw[J0t] at hF;unfold textF at hF;rw[J02];clear hs ht;generalize e.kids=ks at *;generalize e.op=o at *;generalize e.text=tx at *;generalize e.order=od at *;generalize hKK:J0d o=K at *;clear htx;(refine kWO ?_;repeat intro γ);refine D0 fun γs=>?_;refine kWO ?_;intros;refine CallG.intro _ c206 hK ?_
   by_cases hK0:K<0
   ·rw[Q1 (by omega)] at hF;refine kWO ?_;intros;exact .of (by rw[← hF];rfl)
   refine kWO ?_;intros;refine CallG.intro _ c206 hK ?_;refine kWO ?_;intros;simp only[Q3]
   by_cases hKl:(ks.length:Int)=K
   case neg=>
    rw[Q1 hKl] at hF;refine kO ?_;intros;exact .of (by rw[← hF];rfl)
   rw[Q2 hKl,QB] at hF;refine kO ?_;intros
   refine LoopP.intro (fun k σ H=>∃ g i,k=ks.length-i∧i≤ks.length∧(∀ j (h:j<ks.length),j<i→builtF ks[j]=true) ∧
    σ=fr [(1,.op 1 g 0 0),(3,encI i)]∧H=hp [(1,g,⟨29,4,[.agg [encS o,encS tx,encI od,.sl 4 (ks.map encE)]]⟩)]) ?_ ?_
   ·exact .intro <| W.of ⟨_,_,0,rfl,QG _,fun j h h'=>absurd h' (by omega),rfl,rfl⟩ ⟨rfl,rfl,trivial⟩ ⟨rfl,trivial⟩
   rintro k σ H ⟨g,i,rfl,hi,hj,rfl,rfl⟩
   rcases QI i ks.length with h1|h1
   ·have hk:=ihk ks[i] (QF h1)
    cases hb:builtF ks[i] with
    |false=>
      rw[hb] at hk
      have hall:ks.all builtF=false:=by
       rw[List.all_eq_false];exact ⟨ks[i],QF h1,by rw[hb];decide⟩
      rw[hall,Q0U] at hF;clear hb hj;refine kWQ ?_;intros;generalize ks[i]=k at hk ⊢;rw[J02] at hk ⊢;refine kQ ?_;intros;refine CallP.flat [] _ c125 hk rfl ?_;refine kWQ ?_;intros;exact .of (by rw[← hF];rfl)
    |true=>
      rw[hb] at hk
      have hj':∀ j (h:j<ks.length),j<i+1→builtF ks[j]=true:=fun j h h'=>by
       by_cases he:j=i
       ·subst he;exact hb
       exact hj j h (by omega)
      clear hb hj;refine kWQ ?_;intros;generalize ks[i]=k at hk ⊢;rw[J02] at hk ⊢;refine kQ ?_;intros;refine CallP.flat [] _ c125 hk rfl ?_;refine kWQ ?_;intros
      exact .intro <| W.of ⟨_,by omega,g,i+1,rfl,h1,hj',rfl,rfl⟩ ⟨rfl,rfl,trivial⟩ ⟨rfl,trivial⟩
   obtain rfl:i=ks.length:=by omega
   have hall:ks.all builtF=true:=by
    rw[QL];intro x hx;obtain ⟨j,hj',rfl⟩:=Q15.1 hx;exact hj j hj' hj'
   rw[hall,Q0e] at hF;refine kWQ ?_;intros;refine CondP.dec (fun h2=>?_) (fun h2=>?_)<;>refine kW ?_
   ·
    rw[if_pos h2,show J2D o ks (ks.map builtF)=false by unfold J2D;rw[h2];rfl,Q0L,Q0e] at hF;refine kQ ?_;intros;refine CallP.flat [] _ c152 hIs rfl ?_;generalize (J06 tx.data.toList).2=b at hF;cases b
    ·refine kWQ ?_;intros;exact .of (by rw[← hF];rfl)
    refine kWQ ?_;intros;exact .of (by rw[← hF];rfl)
   rw[if_neg h2] at hF;refine kQ ?_;intros;refine CondP.dec (fun h3=>?_) (fun h3=>?_)<;>refine kW ?_
   ·rw[if_pos h3,show J2D o ks (ks.map builtF)=false by unfold J2D;rw[h3];rfl,Q0L,Q0e] at hF;refine kQ ?_;intros;refine CallP.flat [] _ c94 hNm rfl ?_;generalize nameF tx=b at hF;cases b
    ·refine kWQ ?_;intros;exact .of (by rw[← hF];rfl)
    rw[QB] at hF;refine kWQ ?_;intros;refine CondP.dec (fun h4=>?_) (fun h4=>?_)<;>refine kW ?_
    ·rw[Q2 h4,QB] at hF;refine kQ ?_;intros;exact .of (by rw[← hF];rfl)
    rw[Q1 h4,QD] at hF;refine kQ ?_;intros;exact .of (by rw[← hF];rfl)
   rw[if_neg h3] at hF;refine kQ ?_;intros;refine CondP.dec (fun h4=>?_) (fun h4=>?_)<;>refine kW ?_
   ·rw[if_pos h4,show J2D o ks (ks.map builtF)=false by unfold J2D;rw[h4];rfl,Q0L,Q0e] at hF;refine kQ ?_;intros;refine CallP.flat [] _ c94 hNm rfl ?_;generalize nameF tx=b at hF;cases b
    ·refine kWQ ?_;intros;exact .of (by rw[← hF];rfl)
    rw[QB] at hF;refine kWQ ?_;intros;exact .of (by rw[← hF];rfl)
   rw[if_neg h4] at hF;refine kQ ?_;intros;refine CondP.dec (fun h5=>?_) (fun h5=>?_)<;>refine kW ?_
   case' refine_2=>
    rw[show J2D o ks (ks.map builtF)=false by unfold J2D;rw[Q1 h5];rfl,Q0L,Q0e] at hF;refine kQ ?_;intros;refine CondP.dec (fun h6=>?_) (fun h6=>?_)<;>refine kW ?_
    ·rw[Q2 h6,QB] at hF;refine kQ ?_;intros;exact .of (by rw[← hF];rfl)
    rw[Q1 h6,QD] at hF;refine kQ ?_;intros;exact .of (by rw[← hF];rfl)
   obtain ⟨k0,k1,rfl⟩:∃ k0 k1,ks=[k0,k1]:=by
    have h2':o=oSample:=h5;have:J0d oSample=2:=by rfl
    rw[← hKK,h2',this] at hKl
    match ks,hKl with
    |[a,b],_=>exact ⟨a,b,rfl⟩
    |[],h=>simp at h
    |[_],h=>simp at h
    |_::_::_::_,h=>simp at h;omega
   have hb1:builtF k1=true:=hj 1 (by simp) (by simp)
   have hsm:J2D o [k0,k1] ([k0,k1].map builtF)=(!decide (k0.op=oNum)||!decide (k1.op=oNum)||!builtF k1||hasP k1.text (b1 45)||decide (k1.text=⟨#[48]⟩)):=by
    unfold J2D;rw[Q2 h5];rfl
   rw[hsm,hb1,Q0W,Q0j] at hF;have ht1:k1.text.size<2^35:=(htk k1 (by simp)).tx
   have hsl:List.map encE [k0,k1]=[.agg [encS k0.op,encS k0.text,encI k0.order,.sl 4 (k0.kids.map encE)],.agg [encS k1.op,encS k1.text,encI k1.order,.sl 4 (k1.kids.map encE)]]:=by
    rw[← J02,← J02];rfl
   have hrd:=J8K k1.text.data.toList (by exact ht1);rw[J3b] at hrd;have hbt:=J0t k1;have hpr:=(J1t k1.text.data.toList).1;have hsp:=JKd k1.text.data.toList;rw[J3b] at hsp
   have h48:k1.text.data.toList=[48]↔k1.text=⟨#[48]⟩:=by
    have:(⟨#[48]⟩:ByteArray)=ofL [48]:=rfl;rw[this,← J49,J3b]
   rw[hb1] at hbt;clear ihk htk hj hall hKl hlen hIs hNm hK hb1 hsm;rw[hsl]
   by_cases h6:k0.op=oNum
   case neg=>
    rw[Q1 h6,Q0L,Qx,Qx,Qx,Q0W,Q0U] at hF;refine kQ ?_;intros;exact .of (by rw[← hF];rfl)
   by_cases h7:k1.op=oNum
   case neg=>
    rw[Q1 h7,Q0L,Q1t,Qx,Qx,Q0W,Q0U] at hF;refine kQ ?_;intros;exact .of (by rw[← hF];rfl)
   rw[Q2 h6,Q2 h7,Q0W,Qj,Qj] at hF
   have hp2:(J06 k1.text.data.toList).2=true:=by
    have h8:textF k1=true:=by
     simp only[Bool.true_eq,Q5] at hbt;exact hbt.1.1.2
    unfold textF at h8;rw[if_pos h7,Q5] at h8;exact h8.1
   rw[hp2] at hpr
   cases hro:readR k1.text.data.toList with
   |none=>rw[hro] at hpr;cases hpr
   |some x=>
     obtain ⟨n,d⟩:=x;have hs:=hsp n d hro;rw[hro,Q1v] at hrd;have hsg:=JAq n d;rw[ne_eq,h48] at hs;unfold JBr at hrd;simp only at hrd;unfold encR at hrd hsg;generalize sgn n=sg at hs hsg;clear hro hp2 hpr hbt hsp h48 ht1;refine kQ ?_;intros;refine J00 [] _ c207 hrd ?_;refine kWQ ?_;intros;refine CondP.dec (fun h8=>?_) (fun h8=>?_)<;>refine kW ?_
     case' refine_2=>
      rw[Q1 h8,QD,QD] at hF;refine kQ ?_;intros;exact .of (by rw[← hF];rfl)
     rw[Q2 h8,QB] at hF;refine kQ ?_;intros;refine CondP.dec (fun h9=>?_) (fun h9=>?_)<;>refine kW ?_
     case' refine_2=>
      rw[Q1 h9,QD] at hF;refine kQ ?_;intros;exact .of (by rw[← hF];rfl)
     rw[Q2 h9,QB] at hF;refine kQ ?_;intros;refine CallP.flat [] _ c208 hsg rfl ?_;refine kWQ ?_;intros;refine .of ?_;rw[← hF];show AV.val (.bool (decide _))=AV.val (.bool _)
     congr 2
     rw[Q0T];simp only[Qa,Qw,Q04,Qe];exact hs
def JId (l:List Int):AV:=.sl 1 (l.map encI)
def allI (l:List Int)(t:Int):Bool:=l.all fun x=>decide (x=t)
def JJQ (l:List Int)(t:Int)(hl:l.length<2^62):PX 209 [JId l,encI t] (encB (allI l t)):=by
 refine PZ Tryz.func209 rfl ?_;generalize hF:allI l t=F;have hF2:allI (l.drop 0) t=F:=hF;unfold JId;refine kWQ ?_;intros;refine LoopP.intro (fun k σ H=>∃ i,i≤l.length∧k=l.length-i∧allI (l.drop i) t=F∧σ=fr [(0,JId l),(1,encI t),(5,encI i)]∧H=hp []) ?_ ?_
 ·exact .intro <| W.of ⟨_,0,QG _,rfl,hF2,rfl,rfl⟩ ⟨rfl,rfl,rfl,trivial⟩ trivial
 clear hF hF2;rintro k σ H ⟨i,hi,rfl,hF,rfl,rfl⟩;unfold JId
 rcases QI i l.length with h1|h1
 ·rw[Q6 h1] at hF;unfold allI at hF;rw[Q0l] at hF;refine kWQ ?_;intros;generalize l[i]=x at hF ⊢;refine CondP.dec (fun h=>?_) (fun h=>?_)<;>refine kW ?_
  ·rw[Q2 h,QB] at hF;refine kQ ?_;intros
   exact .intro <| W.of ⟨_,by omega,i+1,h1,rfl,hF,rfl,rfl⟩ ⟨rfl,rfl,rfl,trivial⟩ trivial
  rw[Q1 h,QD] at hF;refine kQ ?_;intros;exact .of (by rw[← hF];rfl)
 rw[Q9 h1] at hF;refine kWQ ?_;intros;exact .of (by rw[← hF];rfl)
def ownI {b p e n:Nat}{H:Hp}{out:List Int}(hb:H b=some (p,⟨e,1,out.map encI⟩))(hn:n=out.length):snap [b] H (.own b p 0 n)=JId out:=by
 rw[J2c (by simp) hb (by simp[hn]),J0S _ _ _ _ hn fun _=>rfl];rfl
def varT (vs:List Va)(tx:ByteArray)(od:Int):Int×Bool:=match vs.find? fun v=>decide (v.name=tx) with
 |none=>(0,false)
 |some v=>(v.type,decide (od=0)||decide (v.kind=0)||decide (v.kind=3))
def typH (vs:List Va)(o tx:ByteArray)(od:Int)(rs:List Int):Int×Bool:=
 if o=oNum then (0,true) else if o=oTime then (0,true) else if o=oTrue then (1,true) else if o=oFalse then (1,true) else if o=oInit then (1,true) else if o=oSample then (1,true)
 else if o=oVar then varT vs tx od else if o=oPre then varT vs tx od
 else if o=oNeg then (0,allI rs 0) else if o=oAdd then (0,allI rs 0) else if o=oSub then (0,allI rs 0) else if o=oMul then (0,allI rs 0) else if o=oDiv then (0,allI rs 0)
 else if o=oLess then (1,allI rs 0) else if o=oAtMost then (1,allI rs 0) else if o=oMore then (1,allI rs 0) else if o=oAtLeast then (1,allI rs 0)
 else if o=oAnd then (1,allI rs 1) else if o=oOr then (1,allI rs 1) else if o=oNot then (1,allI rs 1)
 else if o=oEq then (1,decide (rs.getD 0 0=rs.getD 1 0)) else if o=oNe then (1,decide (rs.getD 0 0=rs.getD 1 0))
 else (rs.getD 1 0,decide (rs.getD 0 0=1)&&decide (rs.getD 1 0=rs.getD 2 0))
mutual
def typR (vs:List Va):Ex→Int×Bool
 |.mk o t n ks=>match typL vs ks with
   |none=>(0,false)
   |some rs=>typH vs o t n rs
def typL (vs:List Va):List Ex→Option (List Int)
 |[]=>some []
 |k::ks=>if (typR vs k).2 then (typL vs ks).map ((typR vs k).1::·) else none
end
def JCz (vs:List Va)(e:Ex):typR vs e=match typL vs e.kids with
 |none=>(0,false)
 |some rs=>typH vs e.op e.text e.order rs:=by cases e;rfl
def JH5 (vs:List Va)(ks:List Ex):∀ (i:Nat) (acc:List Int),typL vs (ks.take i)=some acc→i<ks.length→∀ h:i<ks.length,
  ((typR vs ks[i]).2=true→typL vs (ks.take (i+1))=some (acc++[(typR vs ks[i]).1]))∧((typR vs ks[i]).2=false→typL vs ks=none):=by
 induction ks with
 |nil=>intro i acc _ h;simp at h
 |cons k ks ih=>
   intro i acc ha h1 h
   cases i with
   |zero=>
     simp only[Q2P,typL,Qv] at ha;subst ha;simp only[Q00,Q0D,Q2P,typL];exact ⟨fun e=>by rw[if_pos e];rfl,fun e=>by rw[if_neg (by rw[e];decide)]⟩
   |succ i=>
     rw[Q0D,typL] at ha;split at ha
     ·rename_i hk;obtain ⟨acc',ha',rfl⟩:=Q0t.1 ha;obtain ⟨b1,b2⟩:=ih i acc' ha' (by simpa using h1) (by simpa using h);simp only[Q0b,Q0D,typL];rw[if_pos hk];exact ⟨fun e=>by rw[b1 e];rfl,fun e=>by rw[b2 e];split<;>rfl⟩
     cases ha
theorem JDy (vs:List Va):∀ (ks:List Ex) (acc:List Int),typL vs ks=some acc→acc.length=ks.length
 |[],acc,h=>by simp[typL] at h;subst h;rfl
 |k :: ks,acc,h=>by
   unfold typL at h;split at h
   ·obtain ⟨a,ha,rfl⟩:=Q0t.1 h;rw[QT,QT,JDy vs ks a ha]
   cases h
def JIS (vs:List Va)(n:ByteArray):(findR vs n<0∧vs.find? (fun v=>decide (v.name=n))=none)∨∃ i,∃ h:i<vs.length,findR vs n=i∧vs.find? (fun v=>decide (v.name=n))=some vs[i]:=by
 unfold findR
 have key:∀ (l:List Va) (k:Int),0≤k→(J0Y (fun v:Va=>decide (v.name=n)) l k<0∧l.find? (fun v=>decide (v.name=n))=none)∨∃ i,∃ h:i<l.length,J0Y (fun v:Va=>decide (v.name=n)) l k=k+i∧l.find? (fun v=>decide (v.name=n))=some l[i]:=by
  intro l
  induction l with
  |nil=>intro k hk;exact .inl ⟨by unfold J0Y;omega,rfl⟩
  |cons v l ih=>
    intro k hk;unfold J0Y;rw[Q2h]
    by_cases h:v.name=n
    ·rw[Q2 h];exact .inr ⟨0,by simp,by simp,rfl⟩
    rw[Q1 h]
    rcases ih (k+1) (by omega) with h1|⟨i,h1,h2,h3⟩
    ·exact .inl h1
    exact .inr ⟨i+1,by simpa using h1,by simp only;rw[h2];omega,by simpa using h3⟩
 rcases key vs 0 (by omega) with h|⟨i,h,h2,h3⟩
 ·exact .inl h
 exact .inr ⟨i,h,by rw[h2];omega,h3⟩
def JEe (o:ByteArray):J0d o≤3:=by
 rw[← J4q];unfold J8X
 repeat (split;omega)
 omega
def JH4 (s : Sys)(hv:s.vars.length≤2^60)(e:Ex):SzE e→builtF e=true→PX 126 [J0E s,encE e] (JAM (typR s.vars e)):=by
 induction e using J1i with
 |h e ih=>
   intro hs hb;obtain ⟨hbk,hbl⟩:=J0A hb;have hk3:=JEe e.op;have ihk:∀ k∈e.kids,PX 126 [J0E s,encE k] (JAM (typR s.vars k)):=fun k hk=>ih k hk (hs.kid k hk) (hbl k hk);have hlen:=hs.len;clear ih hb hbl hs;refine PZ Tryz.func126 rfl ?_;have hFi:=JDj s e.text hv;have hat:=JIS s.vars e.text;generalize hF:typR s.vars e=F;rw[JCz] at hF;rw[J02];have hst:=JH5 s.vars e.kids;have hll:=JDy s.vars e.kids;obtain ⟨vs,qs,ns,ws⟩:=s;simp only at hv hF hst hll hFi hat;generalize e.kids=ks at *;generalize e.op=o at *;generalize e.text=tx at *;generalize e.order=od at *;unfold J0E at ihk hFi ⊢
   try simp only at ihk
   try simp only at hFi
   (refine kWS ?_;repeat intro γ)
   refine LoopP.intro (fun k σ H=>∃ g2 g3 g i,∃ acc:List Int,k=ks.length-i∧i≤ks.length∧typL vs (ks.take i)=some acc∧acc.length=i ∧
    σ=fr [(2,.op 2 g2 0 0),(3,.op 3 g3 0 0),(6,.own 100 g 0 i),(7,encI i)] ∧
    H=hp [(2,g2,⟨26,4,[.agg [.sl 7 (vs.map encV),.sl 9 (qs.map J0M),.sl 9 (ns.map J0M),.sl 6 (ws.map J0m)]]⟩),(3,g3,⟨29,4,[.agg [encS o,encS tx,encI od,.sl 4 (ks.map encE)]]⟩),(100,g,⟨3,1,acc.map encI⟩)]) ?_ ?_
   ·exact .intro (J24 6 100 3 1 rfl rfl fun g=>W.of ⟨_,_,_,g,0,[],rfl,QG _,rfl,rfl,rfl,rfl⟩ ⟨rfl,rfl,rfl,rfl,trivial⟩ ⟨rfl,rfl,rfl,trivial⟩)
   rintro k σ H ⟨g2,g3,g,i,acc,rfl,hi,hac,hal,rfl,rfl⟩;have hml:(acc.map encI).length=acc.length:=Q3 _
   rcases QI i ks.length with h1|h1
   ·have hk:=ihk ks[i] (QF h1);obtain ⟨b1,b2⟩:=hst i acc hac h1 h1;(refine kWQ ?_;repeat intro γ);generalize ks[i]=k at hk b1 b2 ⊢;generalize typR vs k=R at hk b1 b2;obtain ⟨kt,kb⟩:=R
    try simp only at b1
    try simp only at b2
    unfold JAM at hk;rw[J02] at hk ⊢;(refine kQ ?_;repeat intro γ);refine CallG.intro _ c126 hk ?_
    cases kb with
    |false=>
      rw[b2 rfl] at hF;(refine kWQ ?_;repeat intro γ);exact .of (by rw[← hF];rfl)
    |true=>
      have hac':=b1 rfl;(refine kWQ ?_;repeat intro γ)
      refine .intro <| W.of ⟨_,by omega,g2,g3,γ,i+1,acc++[kt],rfl,h1,hac',by simp[hal],rfl,rfl⟩ ⟨rfl,rfl,?_,rfl,trivial⟩ ⟨rfl,rfl,?_,trivial⟩
      ·exact QC (AV.own 100 _ 0) (by simp[hal])
      show some (_,(⟨_,_,_++_⟩:Blk))=_
      rw[QW];rfl
   obtain rfl:i=ks.length:=by omega
   rw[Qi] at hac;rw[hac] at hF;simp only at hF;unfold typH at hF;clear hst hll;refine kWQ ?_;intros
   repeat
    refine CondP.dec (fun h=>?_) (fun h=>?_)<;>refine kW ?_
    ·rw[if_pos h] at hF;refine kQ ?_;intros
     first
      |exact .of (by rw[← hF];rfl)
      | (refine CallP.flat [100] _ c209 (J0G (QC (fun z=>[z,encI 0]) (ownI rfl hal.symm)) (JJQ acc 0 (by omega))) rfl ?_
         refine kWQ ?_;intros
         exact .of (by rw[← hF];rfl))
      | (refine CallP.flat [100] _ c209 (J0G (QC (fun z=>[z,encI 1]) (ownI rfl hal.symm)) (JJQ acc 1 (by omega))) rfl ?_
         refine kWQ ?_;intros
         exact .of (by rw[← hF];rfl))
      | (refine CallP.flat [] _ c84 hFi rfl ?_
         unfold varT at hF
         rcases hat with ⟨f1,f2⟩|⟨j,j1,f1,f2⟩
         ·rw[f2] at hF;refine kWQ ?_;intros;exact .of (by rw[← hF];rfl)
         rw[f2] at hF;rw[f1];refine kWQ ?_;intros;generalize vs[j]=v at hF ⊢;replace hF:(v.type,decide (od=0)||decide (v.kind=0)||decide (v.kind=3))=F:=hF;refine CondP.dec (fun c0=>?_) (fun c0=>?_)<;>refine kW ?_
         ·rw[Q2 c0] at hF;refine kQ ?_;intros;exact .of (by rw[← hF];rfl)
         rw[Q1 c0,Qj] at hF;refine kQ ?_;intros;refine CondP.dec (fun c1=>?_) (fun c1=>?_)<;>refine kW ?_
         ·rw[Q2 c1] at hF;refine kQ ?_;intros;exact .of (by rw[← hF];rfl)
         rw[Q1 c1,Qj] at hF;refine kQ ?_;intros
         exact .of (by rw[← hF];rfl))
      | (have hk2:J0d o=2:=by rw[h];rfl
         rw[hk2] at hbk
         obtain ⟨a,b,rfl⟩:∃ a b,acc=[a,b]:=by
          match acc,hal with
          |[a,b],_=>exact ⟨a,b,rfl⟩
          |[],e=>simp at e;omega
          |[_],e=>simp at e;omega
          |_::_::_::_,e=>simp at e;omega
         refine kQ ?_;intros
         exact .of (by rw[← hF];rfl))
    rw[if_neg h] at hF;refine kQ ?_;intros
   have hk4:J0d o=3:=by
    by_cases hif:o=oIf
    ·rw[hif];rfl
    exfalso
    have hm:J0d o=-1:=by
     rw[← J4q];unfold J8X;simp only[oNum,oTrue,oFalse,oVar,oPre,oTime,oInit,oNeg,oNot,oSample,oAdd,oSub,oMul,oDiv,oLess,oAtMost,oMore,oAtLeast,oEq,oNe,oAnd,oOr, *,if_false]
    omega
   rw[hk4] at hbk
   obtain ⟨a,b,c,rfl⟩:∃ a b c,acc=[a,b,c]:=by
    match acc,hal with
    |[a,b,c],_=>exact ⟨a,b,c,rfl⟩
    |[],e=>simp at e;omega
    |[_],e=>simp at e;omega
    |[_,_],e=>simp at e;omega
    |_::_::_::_::_,e=>simp at e;omega
   replace hF:(b,decide (a=1)&&decide (b=c))=F:=hF;refine kQ ?_;intros;refine CondP.dec (fun c0=>?_) (fun c0=>?_)<;>refine kW ?_
   ·rw[Q2 c0,QB] at hF;refine kQ ?_;intros;exact .of (by rw[← hF];rfl)
   rw[Q1 c0,QD] at hF;refine kQ ?_;intros;exact .of (by rw[← hF];rfl)
def blkS (g:Nat)(s:Sys):Nat×Nat×Blk:=(1,g,⟨26,4,[.agg [.sl 7 (s.vars.map encV),.sl 9 (s.eqs.map J0M),.sl 9 (s.inits.map J0M),.sl 6 (s.whens.map J0m)]]⟩)
def JEk (s:Sys)(h1:s.eqs.length≤120)(h2:s.inits.length≤120)(h3:s.whens.length≤120)(h4:∀ w∈s.whens,w.acts.length≤20):PX 133 [J0E s] (.sl 4 ((allF s).map encE)):=by
 refine PC [100] Tryz.func133 rfl (by rfl) rfl ?_;obtain ⟨vars,eqs,inits,whens⟩:=s;simp only at h1 h2 h3 h4;unfold J0E;(refine kWS ?_;repeat intro γ)
 refine LoopP.intro (fun k σ H=>∃ g1 g3 j,∃ out:List Ex,k=eqs.length-j∧j≤eqs.length∧out=J1R (eqs.take j) ∧
  σ=fr [(1,.op 1 g1 0 0),(3,.own 100 g3 0 out.length),(4,encI j)]∧H=hp [blkS g1 ⟨vars,eqs,inits,whens⟩,(100,g3,⟨29,4,out.map encE⟩)]) ?_ ?_
 ·exact .intro (J24 3 100 29 4 rfl rfl fun g=>W.of ⟨_,_,g,0,[],rfl,QG _,rfl,rfl,rfl⟩ ⟨rfl,rfl,rfl,trivial⟩ ⟨rfl,rfl,trivial⟩)
 rintro k σ H ⟨g1,g3,j,out,rfl,hj,hout,rfl,rfl⟩;unfold blkS;simp only
 rcases QI j eqs.length with hj'|hj'
 ·have hs:=J5i (eqs.take j) eqs[j];rw[← Qd hj'] at hs;have hol:out.length≤240:=by rw[hout,J0q,Qb];omega
  (refine kWQ ?_;repeat intro γ);generalize eqs[j]=q at hs ⊢;(refine kQ ?_;repeat intro γ)
  refine .intro <| W.of ⟨_,by omega,g1,γ 14,j+1,out++[q.left,q.right],rfl,hj',by rw[hs,hout],rfl,rfl⟩ ⟨rfl,?_,rfl,trivial⟩ ⟨rfl,?_,trivial⟩
  ·exact QC (AV.own 100 (γ 14) 0) (by simp)
  show some (_,(⟨_,_,out.map encE++[.agg (J1C q.left),.agg (J1C q.right)]⟩:Blk))=_
  rw[← J0C,← J0C,QW];rfl
 obtain rfl:j=eqs.length:=by omega
 rw[Qi] at hout;have hol0:out.length≤240:=by rw[hout,J0q];omega
 (refine kWQ ?_;repeat intro γ)
 refine LoopP.intro (fun k σ H=>∃ g1 g3 j,∃ out':List Ex,k=inits.length-j∧j≤inits.length∧out'=out++J1R (inits.take j) ∧
  σ=fr [(1,.op 1 g1 0 0),(3,.own 100 g3 0 out'.length),(5,encI j)]∧H=hp [blkS g1 ⟨vars,eqs,inits,whens⟩,(100,g3,⟨29,4,out'.map encE⟩)]) ?_ ?_
 ·exact .intro <| W.of ⟨_,g1,g3,0,out,rfl,QG _,by simp[J1R],rfl,rfl⟩ ⟨rfl,rfl,rfl,trivial⟩ ⟨rfl,rfl,trivial⟩
 clear g1 g3;rintro k σ H ⟨g1,g3,j,out',rfl,hj,ho',rfl,rfl⟩;unfold blkS;simp only
 rcases QI j inits.length with hj'|hj'
 ·have hs:=J5i (inits.take j) inits[j];rw[← Qd hj'] at hs;have hol:out'.length≤480:=by rw[ho',QQ,J0q,Qb];omega
  (refine kWQ ?_;repeat intro γ);generalize inits[j]=q at hs ⊢;(refine kQ ?_;repeat intro γ)
  refine .intro <| W.of ⟨_,by omega,g1,γ 14,j+1,out'++[q.left,q.right],rfl,hj',by rw[hs,ho',Qo],rfl,rfl⟩ ⟨rfl,?_,rfl,trivial⟩ ⟨rfl,?_,trivial⟩
  ·exact QC (AV.own 100 (γ 14) 0) (by simp)
  show some (_,(⟨_,_,out'.map encE++[.agg (J1C q.left),.agg (J1C q.right)]⟩:Blk))=_
  rw[← J0C,← J0C,QW];rfl
 obtain rfl:j=inits.length:=by omega
 rw[Qi,hout] at ho';have hol:out'.length≤480:=by rw[ho',QQ,J0q,J0q];omega
 clear hout hol0;(refine kWQ ?_;repeat intro γ)
 refine LoopP.intro (fun k σ H=>∃ g1 g3 i,∃ o2:List Ex,k=whens.length-i∧i≤whens.length∧o2=out'++(whens.take i).flatMap J32 ∧
  σ=fr [(1,.op 1 g1 0 0),(3,.own 100 g3 0 o2.length),(6,encI i)]∧H=hp [blkS g1 ⟨vars,eqs,inits,whens⟩,(100,g3,⟨29,4,o2.map encE⟩)]) ?_ ?_
 ·exact .intro <| W.of ⟨_,g1,g3,0,out',rfl,QG _,by simp,rfl,rfl⟩ ⟨rfl,rfl,rfl,trivial⟩ ⟨rfl,rfl,trivial⟩
 clear g1 g3;rintro k σ H ⟨g1,g3,i,o2,rfl,hi,ho5,rfl,rfl⟩;unfold blkS;simp only
 rcases QI i whens.length with hi'|hi'
 ·have ha:=h4 whens[i] (QF hi')
  have hol2:o2.length≤480+21*120:=by
   have:=J6N (whens.take i) fun w hw=>h4 w (Q1K hw);rw[Qb] at this;rw[ho5,QQ];omega
  obtain ⟨w,hw⟩:∃ w,whens[i]=w:=⟨_,rfl⟩
  have ho2:out'++(whens.take (i+1)).flatMap J32=o2++J32 w:=by
   rw[Qd hi',Q2F,ho5,hw];simp
  rw[hw] at ha;(refine kWQ ?_;repeat intro γ);simp only[hw];(refine kQ ?_;repeat intro γ)
  refine LoopP.intro (fun k σ H=>∃ g1 g3 j,∃ o3:List Ex,k=w.acts.length-j∧j≤w.acts.length∧o3=o2++w.cond::(w.acts.take j).map (·.value) ∧
   σ=fr [(1,.op 1 g1 0 0),(3,.own 100 g3 0 o3.length),(6,encI i),(7,encI j)]∧H=hp [blkS g1 ⟨vars,eqs,inits,whens⟩,(100,g3,⟨29,4,o3.map encE⟩)]) ?_ ?_
  ·refine .intro <| W.of ⟨_,g1,γ,0,o2++[w.cond],rfl,QG _,by simp,rfl,rfl⟩ ⟨rfl,?_,rfl,rfl,trivial⟩ ⟨rfl,?_,trivial⟩
   ·exact QC (AV.own 100 γ 0) (by simp)
   show some (_,(⟨_,_,o2.map encE++[.agg (J1C w.cond)]⟩:Blk))=_
   rw[← J0C,QW];rfl
  clear g1 g3;rintro k σ H ⟨g1,g3,j,o3,rfl,hj,ho3,rfl,rfl⟩;unfold blkS;simp only
  have hol3:o3.length≤480+21*120+21:=by
   rw[ho3,QQ,QT,Q3,Qb];omega
  have hwl:(List.map J7m w.acts).length=w.acts.length:=Q3 _
  rcases QI j w.acts.length with hj'|hj'
  ·have ho4:o2++w.cond::(w.acts.take (j+1)).map (·.value)=o3++[w.acts[j].value]:=by
    rw[Qd hj',QW,ho3];simp
   (refine kWQ ?_;repeat intro γ);simp only[hw];(refine kQ ?_;repeat intro γ);simp only[hw];(refine kQ ?_;repeat intro γ);generalize w.acts[j]=a at ho4 ⊢;(refine kQ ?_;repeat intro γ)
   refine .intro <| W.of ⟨_,by omega,g1,γ,j+1,o3++[a.value],rfl,hj',ho4.symm,rfl,rfl⟩ ⟨rfl,?_,rfl,rfl,trivial⟩ ⟨rfl,?_,trivial⟩
   ·exact QC (AV.own 100 γ 0) (by simp)
   show some (_,(⟨_,_,o3.map encE++[.agg (J1C a.value)]⟩:Blk))=_
   rw[← J0C,QW];rfl
  rw[show j=w.acts.length by omega,Qi] at ho3;refine kWQ ?_;intros;simp only[hw];refine kQ ?_;intros
  exact .intro <| W.of ⟨_,by omega,g1,g3,i+1,o3,rfl,hi',by rw[ho3,ho2];rfl,rfl,rfl⟩ ⟨rfl,rfl,rfl,trivial⟩ ⟨rfl,rfl,trivial⟩
 rw[show i=whens.length by omega,Qi] at ho5;refine kWQ ?_;intros;refine .of ?_;have e:allF ⟨vars,eqs,inits,whens⟩=o2:=by rw[ho5,ho'];rfl
 rw[e];show AV.sl 4 ((((o2.map encE).drop 0).take o2.length).map _)=_
 rw[Q0F,Qm (by simp),Q0p]
 congr 1
 refine Qk fun x _=>?_;show J0U _ (encE x)=encE x
 rw[J0C];rfl
def JO7 (s:Sys)(h1:s.eqs.length≤120)(h2:s.inits.length≤120)(h3:s.whens.length≤120)(h4:∀ w∈s.whens,w.acts.length≤20):(allF s).length≤3000:=by
 unfold allF;have:=J6N s.whens h4;rw[QQ,QQ,J0q,J0q];omega
def szS (l:List Ex):Nat:=(l.map szF).sum
theorem J97:∀ (l:List Ex) (L:Int),J4l l L=(l.any J28||decide (L-szS l<0))
 |[],L=>by simp[J4l,szS]
 |e :: r,L=>by
   unfold J4l;rw[J97 r,J9A,Q2H]
   cases h:J28 e with
   |true=>rfl
   |false=>
     rw[JHT e h,Qj,Qj]
     congr 1
     refine QS.2 ?_;unfold szS;rw[QK,Q2I];omega
def JKZ (l:List Ex)(e:Ex):szS (l++[e])=szS l+szF e:=by unfold szS;simp
def JI3 (s:Sys)(hs:SzS s):PX 178 [J0E s] (encB (!largeF s)):=by
 refine PZ Tryz.func178 rfl ?_;have hse:=hs.e;have hv:=hs.v;have hq:=hs.q;have hn:=hs.n;have hw:=hs.w;have ha:=hs.a;have hex:=JEk s;have hal:=JO7 s;generalize hF:(!largeF s)=F;unfold largeF at hF;rw[J97] at hF;clear hs;have hSy:J0E s=.agg [.sl 7 (s.vars.map encV),.sl 9 (s.eqs.map J0M),.sl 9 (s.inits.map J0M),.sl 6 (s.whens.map J0m)]:=rfl;rw[hSy] at hex ⊢;generalize allF s=A at *;obtain ⟨vars,eqs,inits,whens⟩:=s;simp only at *
 by_cases b1:120<vars.length
 ·rw[Q2 b1] at hF;refine kWQ ?_;intros;exact .of (by rw[← hF];rfl)
 rw[Q1 b1,Qj] at hF
 by_cases b2:120<max (max eqs.length inits.length) whens.length
 ·rw[Q2 b2] at hF;have hF':F=false:=by rw[← hF];rfl
  clear hF
  by_cases c1:120<eqs.length
  ·refine kWQ ?_;intros;exact .of (by rw[hF'];rfl)
  by_cases c2:120<inits.length
  ·refine kWQ ?_;intros;exact .of (by rw[hF'];rfl)
  refine kWQ ?_;intros;exact .of (by rw[hF'];rfl)
 rw[Q1 b2,Qj] at hF;refine kWQ ?_;intros
 refine LoopP.intro (fun k σ H=>∃ g i,k=whens.length-i∧i≤whens.length∧(∀ j (h:j<whens.length),j<i→whens[j].acts.length≤20) ∧
  σ=fr [(1,.op 1 g 0 0),(3,encI i)]∧H=hp [blkS g ⟨vars,eqs,inits,whens⟩]) ?_ ?_
 ·exact .intro <| W.of ⟨_,_,0,rfl,QG _,fun j h h'=>absurd h' (by omega),rfl,rfl⟩ ⟨rfl,rfl,trivial⟩ ⟨rfl,trivial⟩
 rintro k σ H ⟨g,i,rfl,hi,hj,rfl,rfl⟩;unfold blkS;simp only
 rcases QI i whens.length with hi'|hi'
 ·obtain ⟨w,hw⟩:∃ w,whens[i]=w:=⟨_,rfl⟩;have hal2:=ha whens[i] (QF hi');have hwl:(List.map J7m w.acts).length=w.acts.length:=Q3 _
  by_cases c1:20<w.acts.length
  ·have:(whens.any fun w=>decide (20<w.acts.length))=true:=List.any_eq_true.2 ⟨whens[i],QF hi',by rw[hw];exact Q2 c1⟩;rw[this] at hF;refine kWQ ?_;intros;simp only[hw];refine kQ ?_;intros;exact .of (by rw[← hF];rfl)
  have hj':∀ j (h:j<whens.length),j<i+1→whens[j].acts.length≤20:=fun j h h'=>by
   by_cases he:j=i
   ·subst he;rw[hw];omega
   exact hj j h (by omega)
  clear hj;refine kWQ ?_;intros;simp only[hw];refine kQ ?_;intros
  exact .intro <| W.of ⟨_,by omega,g,i+1,rfl,hi',hj',rfl,rfl⟩ ⟨rfl,rfl,trivial⟩ ⟨rfl,trivial⟩
 obtain rfl:i=whens.length:=by omega
 have h20:∀ w∈whens,w.acts.length≤20:=fun w hw=>by
  obtain ⟨j,hj',rfl⟩:=Q15.1 hw;exact hj j hj' hj'
 have hany:(whens.any fun w=>decide (20<w.acts.length))=false:=by
  rw[Q0q];intro w hw;have:=h20 w hw;simp;omega
 rw[hany,Qj] at hF;have hex':=hex (by omega) (by omega) (by omega) h20;have hal':=hal (by omega) (by omega) (by omega) h20;clear hex hal hj hany h20;refine kWQ ?_;intros;refine J00 [] _ c133 hex' ?_;refine kWQ ?_;intros
 refine LoopP.intro (fun k σ H=>∃ i,k=A.length-i∧i≤A.length∧(!((A.drop i).any J28||decide ((4000:Int)-szS A<0)))=F∧szS (A.take i)≤200*i ∧
  σ=fr [(4,.sl 4 (A.map encE)),(5,encI (szS (A.take i))),(6,encI i)]∧H=hp []) ?_ ?_
 ·exact .intro <| W.of ⟨_,0,rfl,QG _,hF,QM _,rfl,rfl⟩ ⟨rfl,rfl,rfl,trivial⟩ trivial
 clear hF;rintro k σ H ⟨i,rfl,hi,hF,hsz,rfl,rfl⟩
 rcases QI i A.length with hi'|hi'
 ·rw[Q6 hi',Q2H] at hF;have hz:=(hse A[i] (QF hi')).1;have hl:=JLx A[i] hz;have hsr:=JE9 A[i] hz 200 (by omega);have hsn:=JKZ (A.take i) A[i];rw[← Qd hi'] at hsn;have hlr:J28 A[i]=(decide (200<szF A[i])||decide (24<htF A[i])):=rfl;obtain ⟨e,he⟩:∃ e,A[i]=e:=⟨_,rfl⟩;rw[he] at hz hl hsr hsn hlr hF;refine kWQ ?_;intros;simp only[he];rw[J02] at hl hsr
  cases hb:J28 e with
  |true=>
    rw[hb] at hF hl;rw[J02];refine kQ ?_;intros;refine CallP.flat [] _ c87 hl rfl ?_;refine kWQ ?_;intros;exact .of (by rw[← hF];rfl)
  |false=>
    rw[hb] at hF hl hlr;rw[Qj] at hF
    have h200:szF e≤200:=by
     have:=hlr.symm;simp at this;omega
    rw[show min (szF e) (200+1)=szF e by omega] at hsr;rw[J02];refine kQ ?_;intros;refine CallP.flat [] _ c87 hl rfl ?_;refine kWQ ?_;intros;simp only[he];rw[J02];refine kQ ?_;intros;refine CallP.flat [] _ c170 hsr rfl ?_;refine kWQ ?_;intros
    refine .intro <| W.of ⟨_,by omega,i+1,rfl,hi',hF,by omega,rfl,rfl⟩ ⟨rfl,?_,rfl,trivial⟩ trivial
    show AV.val (.int .i64 _)=AV.val (.int .i64 _)
    congr 2;omega
 rw[Q9 hi'] at hF;rw[Qm hi'];refine kWQ ?_;intros;refine .of ?_;rw[← hF];show AV.val (.bool (decide _))=AV.val (.bool _)
 congr 2
 rw[Q0T];simp
def JGT (s:ByteArray)(hs:s.size<2^35):PX 261 [encS s] (encB (unitF s)):=by
 have h:=JJr s.data.toList (by exact hs);rw[JH0,J3b] at h;exact h
def JL7 (v:Va)(h0:v.name.size<2^35)(h1:v.value.size<2^35)(h2:v.start.size<2^35)(h3:v.unit.size<2^35):PX 181 [encV v] (encB (nameF v.name&&varF v)):=by
 refine PZ Tryz.func181 rfl ?_;obtain ⟨name,k,t,vl,st,fx,un⟩:=v;have hnm:=J5N name (by simp only at h0;omega);have hu:=JGT un h3;generalize hF:(nameF name&&varF ⟨name,k,t,vl,st,fx,un⟩)=F;unfold varF at hF;simp only at hF hu;generalize unitF un=b3 at hF hu
 cases hn:nameF name with
 |false=>
   rw[hn,QD] at hF;rw[hn] at hnm;unfold encV;refine kWS ?_;intros;refine CallP.flat [] _ c94 hnm rfl ?_;refine kWS ?_;intros;exact .of (by rw[← hF];rfl)
 |true=>
   rw[hn,QB] at hF;rw[hn] at hnm;clear hn
   by_cases hk:J7W k t=true
   case neg =>
    have hk':J7W k t=false:=by simpa using hk
    rw[hk',QD,QD,QD,QD] at hF;subst hF;unfold J7W at hk'
    have hkk:k<0∨3<k∨(t≠0∧t≠1)∨(t=1∧(k=0∨k=3)):=by
     simp at hk';omega
    clear hk hk';unfold encV;refine kWS ?_;intros;refine CallP.flat [] _ c94 hnm rfl ?_;refine kWS ?_;intros
    rcases hkk with h|h|⟨h,h'⟩|⟨rfl,rfl|rfl⟩
    all_goals first
     |(refine kO ?_;intros;exact .of rfl)
     |(refine kS ?_;intros;exact .of rfl)
     | (by_cases k0:k<0
        ·refine kO ?_;intros;exact .of rfl
        by_cases k3:3<k
        ·refine kO ?_;intros;exact .of rfl
        refine kO ?_;intros
        exact .of rfl)
   rw[hk,QB] at hF
   have hcs:(t=0∧(k=0∨k=1∨k=2∨k=3))∨(t=1∧(k=1∨k=2)):=by
    unfold J7W at hk;simp at hk;omega
   clear hk;have hv1:=J3r vl t h1 (by omega);have hv2:=J3r st t h2 (by omega);generalize valueF vl t=b1 at hF hv1;generalize valueF st t=b2 at hF hv2;clear h0 h1 h2 h3;unfold encV
   rcases hcs with ⟨rfl,rfl|rfl|rfl|rfl⟩|⟨rfl,rfl|rfl⟩
   all_goals
    simp only[Int.reduceEq,decide_true,decide_false,Qx,Q1t,Qj,Bool.or_self,if_true,if_false,QB,QD,eq_self,Q0j,reduceIte] at hF;refine kWS ?_;intros;refine CallP.flat [] _ c94 hnm rfl ?_;refine kWS ?_;intros
    repeat (any_goals (first
     |exact .of (by rw[← hF];rfl)
     |exact .of (by rw[← hF];exact QC encB (by assumption))
     |(refine CallP.flat [] _ c118 hv1 rfl ?_;refine kW ?_;refine kS ?_;intros)
     |(refine CallP.flat [] _ c118 hv2 rfl ?_;refine kW ?_;refine kS ?_;intros)
     |(refine CallP.flat [] _ c261 hu rfl ?_;refine kW ?_;refine kS ?_;intros)
     |(refine CondP.intro (fun h=>?_) (fun h=>?_)<;>refine kW ?_<;>(try simp only at h)<;>(try simp only[h,QB,QD,Q0e,Q0U,Qx,Qj,Q0W,Q0L,Q1t,Q0j] at hF)<;>refine kS ?_;intros)))
def isR (vs:List Va)(e:Ex)(t:Int):Bool:=builtF e&&(typR vs e).2&&decide ((typR vs e).1=t)
def JOv (s:Sys)(hv:s.vars.length≤2^60)(e:Ex)(t:Int)(hs:SzE e)(hx:TxE e):PX 262 [J0E s,encE e,encI t] (encB (isR s.vars e t)):=by
 refine PZ Tryz.func262 rfl ?_;have hb:=JK2 e hs hx;have ht:=JH4 s hv e hs;generalize hF:isR s.vars e t=F;unfold isR at hF;generalize builtF e=b at *;generalize typR s.vars e=r at *;obtain ⟨rt,rb⟩:=r;unfold JAM J0E at ht;unfold J0E;rw[J02] at hb ht ⊢
 cases b with
 |false=>
   refine kWQ ?_;intros;refine CallP.flat [] _ c125 hb rfl ?_;refine kWQ ?_;intros;exact .of (by rw[← hF];rfl)
 |true=>
   have ht':=ht rfl;simp only[QB] at hF ht';refine kWQ ?_;intros;refine CallP.flat [] _ c125 hb rfl ?_;refine kWQ ?_;intros;refine J00 [] _ c126 ht' ?_
   cases rb with
   |false=>
     refine kWQ ?_;intros;exact .of (by rw[← hF];rfl)
   |true=>
     rw[QB] at hF;refine kWQ ?_;intros;exact .of (by rw[← hF];rfl)
def J4z (l:List ByteArray):AV:=.sl 1 (l.map encS)
def memR (A:List ByteArray)(s:ByteArray):Bool:=A.any fun x=>decide (x=s)
def JOy (l:List ByteArray)(s:ByteArray)(hl:l.length<2^60):PX 263 [J4z l,encS s] (encB (memR l s)):=by
 refine PZ Tryz.func263 rfl ?_;generalize hF:memR l s=F;have hF2:memR (l.drop 0) s=F:=hF;unfold J4z;refine kWQ ?_;intros;refine LoopP.intro (fun k σ H=>∃ i,i≤l.length∧k=l.length-i∧memR (l.drop i) s=F∧σ=fr [(0,J4z l),(1,encS s),(5,encI i)]∧H=hp []) ?_ ?_
 ·exact .intro <| W.of ⟨_,0,QG _,rfl,hF2,rfl,rfl⟩ ⟨rfl,rfl,rfl,trivial⟩ trivial
 clear hF hF2;rintro k σ H ⟨i,hi,rfl,hF,rfl,rfl⟩;unfold J4z
 rcases QI i l.length with h1|h1
 ·rw[Q6 h1] at hF;unfold memR at hF;rw[Q2H] at hF;refine kWQ ?_;intros;generalize l[i]=x at hF ⊢;refine CondP.dec (fun h=>?_) (fun h=>?_)<;>refine kW ?_
  ·rw[Q2 h,Qx] at hF;refine kQ ?_;intros;exact .of (by rw[← hF];rfl)
  rw[Q1 h,Qj] at hF;refine kQ ?_;intros
  exact .intro <| W.of ⟨_,by omega,i+1,h1,rfl,hF,rfl,rfl⟩ ⟨rfl,rfl,rfl,trivial⟩ trivial
 rw[Q9 h1] at hF;refine kWQ ?_;intros;exact .of (by rw[← hF];rfl)
def J6R (l:List ByteArray)(hl:l.length<2^60)(hn:∀ x∈l,x.size<2^35):PX 180 [J4z l] (encB (risG l none)):=by
 refine PZ Tryz.func180 rfl ?_;generalize hF:risG l none=F;unfold J4z;refine kWQ ?_;intros;refine LoopP.intro (fun k σ H=>∃ i,i≤l.length∧k=l.length-i∧risG (l.drop i) (pvN l i)=F∧σ=fr [(0,J4z l),(3,encI i)]∧H=hp []) ?_ ?_
 ·exact .intro <| W.of ⟨_,0,QG _,rfl,hF,rfl,rfl⟩ ⟨rfl,rfl,trivial⟩ trivial
 clear hF;rintro k σ H ⟨i,hi,rfl,hF,rfl,rfl⟩;unfold J4z
 rcases QI i l.length with h1|h1
 ·rw[List.drop_eq_getElem_cons h1] at hF;unfold risG at hF;have hnm:=J5N l[i] (by have:=hn _ (QF h1);omega);have hpv:pvN l (i+1)=some l[i]:=by rw[J77,Q8 h1]
  rw[← hpv] at hF;obtain ⟨x,hx⟩:∃ x,l[i]=x:=⟨_,rfl⟩;rw[hx] at hF hnm
  cases hb:nameF x with
  |false=>
    rw[hb] at hF hnm;refine kWQ ?_;intros;simp only[hx];refine kQ ?_;intros;refine CallG.intro _ c94 hnm ?_;refine kWQ ?_;intros;exact .of (by rw[← hF];rfl)
  |true=>
    rw[hb,QB] at hF;rw[hb] at hnm
    cases i with
    |zero=>
      have hF2:(true&&risG (l.drop (0+1)) (pvN l (0+1)))=F:=hF;rw[QB] at hF2;refine kWQ ?_;intros;simp only[hx];refine kQ ?_;intros;refine CallG.intro _ c94 hnm ?_;refine kWQ ?_;intros
      exact .intro <| W.of ⟨_,by omega,1,by omega,rfl,hF2,rfl,rfl⟩ ⟨rfl,rfl,trivial⟩ trivial
    |succ i=>
      have h2:i<l.length:=by omega
      rw[J77,Q8 h2] at hF;have hF2:(Op.bytesLess l[i].toList x.toList&&risG (l.drop (i+1+1)) (pvN l (i+1+1)))=F:=hF;have e1:(((i+1:Nat):Int)-1).toNat=i:=by omega
      refine kWQ ?_;intros;simp only[hx];refine kQ ?_;intros;refine CallG.intro _ c94 hnm ?_;refine kWQ ?_;intros;simp only[e1,hx];refine kQ ?_;intros;generalize l[i]=y at hF2 ⊢;refine CondP.intro (fun h=>?_) (fun h=>?_)<;>refine kW ?_
      ·rw[h,QB] at hF2;refine kQ ?_;intros
       exact .intro <| W.of ⟨_,by omega,i+1+1,by omega,rfl,hF2,rfl,rfl⟩ ⟨rfl,rfl,trivial⟩ trivial
      rw[h,QD] at hF2;refine kQ ?_;intros;exact .of (by rw[← hF2];rfl)
 rw[Q9 h1] at hF;refine kWQ ?_;intros;exact .of (by rw[← hF];rfl)
def eqsR (vs:List Va)(l:List Eqn):Bool:=l.all fun q=>isR vs q.left 0&&isR vs q.right 0
def JMM (s:Sys)(hv:s.vars.length≤2^60)(l:List Eqn)(hl:l.length≤2^60)(hq:∀ q∈l,(SzE q.left∧TxE q.left)∧SzE q.right∧TxE q.right):PX 182 [J0E s,.sl 9 (l.map J0M)] (encB (eqsR s.vars l)):=by
 refine PZ Tryz.func182 rfl ?_;have hi:=fun e t h h'=>JOv s hv e t h h';obtain ⟨vs,qs,ns,ws⟩:=s;simp only at hv hi ⊢;generalize hF:eqsR vs l=F;have hF2:eqsR vs (l.drop 0)=F:=hF;unfold J0E at hi ⊢
 try simp only at hi
 refine kWQ ?_;intros
 refine LoopP.intro (fun k σ H=>∃ g i,i≤l.length∧k=l.length-i∧eqsR vs (l.drop i)=F∧σ=fr [(1,.sl 9 (l.map J0M)),(2,.op 2 g 0 0),(5,encI i)] ∧
  H=hp [(2,g,⟨26,4,[.agg [.sl 7 (vs.map encV),.sl 9 (qs.map J0M),.sl 9 (ns.map J0M),.sl 6 (ws.map J0m)]]⟩)]) ?_ ?_
 ·exact .intro <| W.of ⟨_,_,0,QG _,rfl,hF2,rfl,rfl⟩ ⟨rfl,rfl,rfl,trivial⟩ ⟨rfl,trivial⟩
 clear hF hF2;rintro k σ H ⟨g,i,hi',rfl,hF,rfl,rfl⟩
 rcases QI i l.length with h1|h1
 ·rw[List.drop_eq_getElem_cons h1] at hF;unfold eqsR at hF;rw[Q0l] at hF;have hz:=hq _ (QF h1);obtain ⟨q,hqq⟩:∃ q,l[i]=q:=⟨_,rfl⟩;rw[hqq] at hF hz;have t1:=hi q.left 0 hz.1.1 hz.1.2;have t2:=hi q.right 0 hz.2.1 hz.2.2;generalize isR vs q.left 0=y1 at hF t1;generalize isR vs q.right 0=y2 at hF t2;rw[J0C] at t1 t2;refine kWQ ?_;intros;simp only[hqq];refine kQ ?_;intros;refine CallG.intro _ c262 t1 ?_
  cases y1 with
  |false=>
    refine kWQ ?_;intros;exact .of (by rw[← hF];rfl)
  |true=>
    refine kWQ ?_;intros;simp only[hqq];refine kQ ?_;intros;refine CallG.intro _ c262 t2 ?_
    cases y2 with
    |false=>
      refine kWQ ?_;intros;exact .of (by rw[← hF];rfl)
    |true=>
      refine kWQ ?_;intros
      exact .intro <| W.of ⟨_,by omega,g,i+1,h1,rfl,hF,rfl,rfl⟩ ⟨rfl,rfl,rfl,trivial⟩ ⟨rfl,trivial⟩
 rw[Q9 h1] at hF;refine kWQ ?_;intros;exact .of (by rw[← hF];rfl)
def hpN (g1 a b c d:Nat)(s:Sys)(A B C D:List ByteArray):List (Nat×Nat×Blk):=
 [blkS g1 s,(101,a,⟨9,1,A.map encS⟩),(102,b,⟨9,1,B.map encS⟩),(103,c,⟨9,1,C.map encS⟩),(104,d,⟨9,1,D.map encS⟩)]
def endS {S:List Nat}{H:Hp}{k:Nat}{L:List AV}{n:Nat}{xs:List ByteArray}(h:L=xs.map encS)(hn:n=xs.length):AV.sl 1 (((L.drop 0).take n).map (J0U (J08 S H k)))=J4z xs:=by
 subst h;rw[J0S _ _ _ _ hn fun x=>by cases k<;>rfl];rfl
def J4S {α:Type}(l:List α)(i:Nat)(h:i<l.length):l.take i++[l[i]]=l.take (i+1):=(Qd h).symm
def JKv (s:Sys)(h1:s.vars.length≤2^40)(h2:s.eqs.length≤2^40)(h3:s.inits.length≤2^40)(h4:s.whens.length≤2^40):PX 179 [J0E s] (.tup [J4z (s.vars.map Va.name),J4z (s.eqs.map Eqn.name),J4z (s.inits.map Eqn.name),J4z (s.whens.map Whn.name)]):=by
 refine PC [101,102,103,104] Tryz.func179 rfl (by rfl) rfl ?_;have hSy:J0E s=.agg [.sl 7 (s.vars.map encV),.sl 9 (s.eqs.map J0M),.sl 9 (s.inits.map J0M),.sl 6 (s.whens.map J0m)]:=rfl;rw[hSy];(refine kWQ ?_;repeat intro γ)
 refine LoopP.intro (fun k σ H=>∃ g1 a b c d i,k=s.vars.length-i∧i≤s.vars.length ∧
  σ=fr [(1,.op 1 g1 0 0),(6,.own 101 a 0 i),(7,.own 102 b 0 0),(8,.own 103 c 0 0),(9,.own 104 d 0 0),(10,encI i)]∧H=hp (hpN g1 a b c d s ((s.vars.map Va.name).take i) [] [] [])) ?_ ?_
 ·exact .intro (J24 6 101 9 1 rfl rfl fun a=>J24 7 102 9 1 rfl rfl fun b=>J24 8 103 9 1 rfl rfl fun c=>J24 9 104 9 1 rfl rfl fun d=>W.of ⟨_,_,a,b,c,d,0,rfl,QG _,rfl,rfl⟩ ⟨rfl,rfl,rfl,rfl,rfl,rfl,trivial⟩ ⟨rfl,rfl,rfl,rfl,rfl,trivial⟩)
 rintro k σ H ⟨g1,a,b,c,d,i,rfl,hi,rfl,rfl⟩;unfold hpN blkS;have hlm:((s.vars.map Va.name).take i).length=i:=by rw[Qb,Q3];omega
 rcases QI i s.vars.length with hi'|hi'
 ·have hts:=J4S (s.vars.map Va.name) i (by rw[Q3];exact hi');rw[QY] at hts;(refine kWQ ?_;repeat intro γ)
  refine .intro <| W.of ⟨_,by omega,g1,γ,b,c,d,i+1,rfl,hi',rfl,rfl⟩ ⟨rfl,rfl,rfl,rfl,rfl,rfl,trivial⟩ ⟨rfl,?_,rfl,rfl,rfl,trivial⟩
  rw[← hts,QW];rfl
 obtain rfl:i=s.vars.length:=by omega
 rw[Qm (by rw[Q3];exact QM _)];(refine kWQ ?_;repeat intro γ)
 refine LoopP.intro (fun k σ H=>∃ g1 a b c d i,k=s.eqs.length-i∧i≤s.eqs.length ∧
  σ=fr [(1,.op 1 g1 0 0),(6,.own 101 a 0 s.vars.length),(7,.own 102 b 0 i),(8,.own 103 c 0 0),(9,.own 104 d 0 0),(11,encI i)]∧H=hp (hpN g1 a b c d s (s.vars.map Va.name) ((s.eqs.map Eqn.name).take i) [] [])) ?_ ?_
 ·exact .intro <| W.of ⟨_,g1,a,b,c,d,0,rfl,QG _,rfl,rfl⟩ ⟨rfl,rfl,rfl,rfl,rfl,rfl,trivial⟩ ⟨rfl,rfl,rfl,rfl,rfl,trivial⟩
 clear hlm hi hi' g1 a b c d;rintro k σ H ⟨g1,a,b,c,d,i,rfl,hi,rfl,rfl⟩;unfold hpN blkS;have hlm:((s.eqs.map Eqn.name).take i).length=i:=by rw[Qb,Q3];omega
 rcases QI i s.eqs.length with hi'|hi'
 ·have hts:=J4S (s.eqs.map Eqn.name) i (by rw[Q3];exact hi');rw[QY] at hts;(refine kWQ ?_;repeat intro γ)
  refine .intro <| W.of ⟨_,by omega,g1,a,γ,c,d,i+1,rfl,hi',rfl,rfl⟩ ⟨rfl,rfl,rfl,rfl,rfl,rfl,trivial⟩ ⟨rfl,rfl,?_,rfl,rfl,trivial⟩
  rw[← hts,QW];rfl
 obtain rfl:i=s.eqs.length:=by omega
 rw[Qm (by rw[Q3];exact QM _)];(refine kWQ ?_;repeat intro γ)
 refine LoopP.intro (fun k σ H=>∃ g1 a b c d i,k=s.inits.length-i∧i≤s.inits.length ∧
  σ=fr [(1,.op 1 g1 0 0),(6,.own 101 a 0 s.vars.length),(7,.own 102 b 0 s.eqs.length),(8,.own 103 c 0 i),(9,.own 104 d 0 0),(12,encI i)]∧H=hp (hpN g1 a b c d s (s.vars.map Va.name) (s.eqs.map Eqn.name) ((s.inits.map Eqn.name).take i) [])) ?_ ?_
 ·exact .intro <| W.of ⟨_,g1,a,b,c,d,0,rfl,QG _,rfl,rfl⟩ ⟨rfl,rfl,rfl,rfl,rfl,rfl,trivial⟩ ⟨rfl,rfl,rfl,rfl,rfl,trivial⟩
 clear hlm hi hi' g1 a b c d;rintro k σ H ⟨g1,a,b,c,d,i,rfl,hi,rfl,rfl⟩;unfold hpN blkS;have hlm:((s.inits.map Eqn.name).take i).length=i:=by rw[Qb,Q3];omega
 rcases QI i s.inits.length with hi'|hi'
 ·have hts:=J4S (s.inits.map Eqn.name) i (by rw[Q3];exact hi');rw[QY] at hts;(refine kWQ ?_;repeat intro γ)
  refine .intro <| W.of ⟨_,by omega,g1,a,b,γ,d,i+1,rfl,hi',rfl,rfl⟩ ⟨rfl,rfl,rfl,rfl,rfl,rfl,trivial⟩ ⟨rfl,rfl,rfl,?_,rfl,trivial⟩
  rw[← hts,QW];rfl
 obtain rfl:i=s.inits.length:=by omega
 rw[Qm (by rw[Q3];exact QM _)];(refine kWQ ?_;repeat intro γ)
 refine LoopP.intro (fun k σ H=>∃ g1 a b c d i,k=s.whens.length-i∧i≤s.whens.length ∧
  σ=fr [(1,.op 1 g1 0 0),(6,.own 101 a 0 s.vars.length),(7,.own 102 b 0 s.eqs.length),(8,.own 103 c 0 s.inits.length),(9,.own 104 d 0 i),(13,encI i)]∧H=hp (hpN g1 a b c d s (s.vars.map Va.name) (s.eqs.map Eqn.name) (s.inits.map Eqn.name) ((s.whens.map Whn.name).take i))) ?_ ?_
 ·exact .intro <| W.of ⟨_,g1,a,b,c,d,0,rfl,QG _,rfl,rfl⟩ ⟨rfl,rfl,rfl,rfl,rfl,rfl,trivial⟩ ⟨rfl,rfl,rfl,rfl,rfl,trivial⟩
 clear hlm hi hi' g1 a b c d;rintro k σ H ⟨g1,a,b,c,d,i,rfl,hi,rfl,rfl⟩;unfold hpN blkS;have hlm:((s.whens.map Whn.name).take i).length=i:=by rw[Qb,Q3];omega
 rcases QI i s.whens.length with hi'|hi'
 ·have hts:=J4S (s.whens.map Whn.name) i (by rw[Q3];exact hi');rw[QY] at hts;(refine kWQ ?_;repeat intro γ)
  refine .intro <| W.of ⟨_,by omega,g1,a,b,c,γ,i+1,rfl,hi',rfl,rfl⟩ ⟨rfl,rfl,rfl,rfl,rfl,rfl,trivial⟩ ⟨rfl,rfl,rfl,rfl,?_,trivial⟩
  rw[← hts,QW];rfl
 obtain rfl:i=s.whens.length:=by omega
 rw[Qm (by rw[Q3];exact QM _)];refine kWQ ?_;intros;refine .of ?_;show AV.tup [AV.sl 1 _,AV.sl 1 _,AV.sl 1 _,AV.sl 1 _]=_
 congr 1
 refine Q2S.2 ⟨endS rfl (by simp),Q2S.2 ⟨endS rfl (by simp),Q2S.2 ⟨endS rfl (by simp),Q2S.2 ⟨endS rfl (by simp),rfl⟩⟩⟩⟩
def J63 (vs:List Va):List Ac→List ByteArray→List ByteArray→Option (List ByteArray)
 |[],_,A=>some A
 |a :: r,S,A=>match vs.find? (fun v=>decide (v.name=a.var)) with
   |none=>none
   | some v=>if !isR vs a.value v.type then none
     else if a.kind=0 then (if !decide (v.kind=1)||memR A a.var then none else J63 vs r S (A++[a.var]))
     else if a.kind=1 then (if !decide (v.kind=0)||memR S a.var then none else J63 vs r (S++[a.var]) A)
     else none
def whenR (vs:List Va)(w:Whn)(A:List ByteArray):Option (List ByteArray):=if !isR vs w.cond 1||decide (w.acts.length=0) then none else J63 vs w.acts [] A
def ownS {b p e n:Nat}{H:Hp}{out:List ByteArray}(hb:H b=some (p,⟨e,1,out.map encS⟩))(hn:n=out.length):snap [b] H (.own b p 0 n)=J4z out:=by
 rw[J2c (by simp) hb (by simp[hn]),J0S _ _ _ _ hn fun _=>rfl];rfl
def JOg (p:Nat):Option (List ByteArray)→AV→Hp→Prop
 |none,r,h=>∃ g,∃ A:List ByteArray,r=.tup [.val (.slice none 0 0),encB false]∧h=hp [(50,g,⟨9,1,A.map encS⟩)]
 |some A,r,h=>∃ g,r=.tup [.own 50 g 0 A.length,encB true]∧h=hp [(50,g,⟨9,1,A.map encS⟩)]
def JMj (s:Sys)(hv:s.vars.length≤2^40)(w:Whn)(A:List ByteArray)(p:Nat)(hA:A.length≤2^40)(hl:w.acts.length≤2^40)(hc:SzE w.cond∧TxE w.cond)(he:∀ a∈w.acts,SzE a.value∧TxE a.value) :
  HCall Tryz.prog 183 [J0E s,J0m w,.own 50 p 0 A.length] (hp [(50,p,⟨9,1,A.map encS⟩)]) (JOg p (whenR s.vars w A)):=by
 refine J2j (E:=E 0) J3x (JMY 0) Tryz.func183 rfl (by rfl) (QJ rfl) ?_;have hi:=fun e t h h'=>JOv s (by omega) e t h h';have hfi:=fun n=>JDj s n (by omega);have hat:=JIS s.vars;obtain ⟨vs,qs,ns,ws⟩:=s;obtain ⟨wn,wc,ats⟩:=w;simp only at hv hi hfi hl hc he hat ⊢;generalize hF:whenR vs ⟨wn,wc,ats⟩ A=F;unfold whenR at hF;simp only at hF;have t0:=hi wc 1 hc.1 hc.2;unfold J0E at hi hfi t0 ⊢;unfold J0m
 try simp only at hi hfi t0
 generalize isR vs wc 1=y0 at hF t0;rw[J0C] at t0;(refine kWQ ?_;repeat intro γ);refine CallP.flat [] _ c262 t0 rfl ?_
 have bad:∀ {r H g B} (F:Option (List ByteArray)),none=F→r=AV.tup [.val (.slice none 0 0),encB false]→hpOk H [(50,g,⟨9,1,List.map encS B⟩)]→EndH r H (JOg p F):=by
  rintro r H g B F rfl h1 h2;exact EndH.of h2 ⟨g,B,h1,rfl⟩
 cases y0 with
 |false=>
   (refine kWQ ?_;repeat intro γ);exact bad F hF rfl ⟨rfl,trivial⟩
 |true=>
   simp only[Q0W,Qj] at hF;(refine kWQ ?_;repeat intro γ);refine CondP.dec (fun h=>?_) (fun h=>?_)<;>refine kW ?_
   ·rw[if_pos (Q2 (by omega))] at hF;(refine kQ ?_;repeat intro γ);exact bad F hF rfl ⟨rfl,trivial⟩
   rw[if_neg (by simp;intro h';exact h (by rw[h'];rfl))] at hF;(refine kQ ?_;repeat intro γ)
   refine LoopP.intro (fun k σ H=>∃ g3 g4 p g i,∃ S A:List ByteArray,k=ats.length-i∧i≤ats.length∧A.length≤2^40+i∧S.length≤i∧J63 vs (ats.drop i) S A=F ∧
    σ=fr [(2,.own 50 p 0 A.length),(3,.op 3 g3 0 0),(4,.op 4 g4 0 0),(8,.own 100 g 0 S.length),(9,encI i)] ∧
    H=hp [(3,g3,⟨26,4,[.agg [.sl 7 (vs.map encV),.sl 9 (qs.map J0M),.sl 9 (ns.map J0M),.sl 6 (ws.map J0m)]]⟩),(4,g4,⟨228,6,[.agg (encS wn::(J1C wc++[.sl 6 (ats.map J7m)]))]⟩),(50,p,⟨9,1,A.map encS⟩),(100,g,⟨9,1,S.map encS⟩)]) ?_ ?_
   ·exact .intro (J24 8 100 9 1 rfl rfl fun g=>W.of ⟨_,_,_,p,g,0,[],A,rfl,QG _,by omega,by simp,hF,rfl,rfl⟩ ⟨rfl,rfl,rfl,rfl,rfl,trivial⟩ ⟨rfl,rfl,rfl,rfl,trivial⟩)
   clear hF hA t0;rintro k σ H ⟨g3,g4,p',g,i,S,A,rfl,hii,hA,hS,hF,rfl,rfl⟩
   rcases QI i ats.length with h1|h1
   ·rw[List.drop_eq_getElem_cons h1] at hF;have hz:=he _ (QF h1);(refine kWQ ?_;repeat intro γ);generalize ats[i]=a at hF hz ⊢;obtain ⟨ak,av,ae⟩:=a;simp only at hz;unfold J63 at hF;simp only at hF;(refine kQ ?_;repeat intro γ);refine CallP.flat [] _ c84 (hfi av) rfl ?_
    rcases hat av with ⟨f1,f2⟩|⟨j,hj,f1,f2⟩
    ·rw[f2] at hF;generalize findR vs av=fi at f1 ⊢;(refine kWQ ?_;repeat intro γ);exact bad F hF rfl ⟨rfl,trivial⟩
    rw[f2] at hF;rw[f1];have t1:=hi ae vs[j].type hz.1 hz.2;(refine kWQ ?_;repeat intro γ);obtain ⟨v,hvj⟩:∃ v,vs[j]=v:=⟨_,rfl⟩;rw[hvj] at hF t1;simp only[hvj];replace hF:(if (!isR vs ae v.type)=true then none else if ak=0 then (if (!decide (v.kind=1)||memR A av)=true then none else J63 vs (List.drop (i+1) ats) S (A++[av])) else if ak=1 then (if (!decide (v.kind=0)||memR S av)=true then none else J63 vs (List.drop (i+1) ats) (S++[av]) A) else none)=F:=hF;generalize isR vs ae v.type=y1 at hF t1;rw[J0C] at t1;(refine kQ ?_;repeat intro γ);refine CallG.intro _ c262 t1 ?_
    cases y1 with
    |false=>
      (refine kWQ ?_;repeat intro γ);exact bad F hF rfl ⟨rfl,trivial⟩
    |true=>
      replace hF:(if ak=0 then (if (!decide (v.kind=1)||memR A av)=true then none else J63 vs (List.drop (i+1) ats) S (A++[av])) else if ak=1 then (if (!decide (v.kind=0)||memR S av)=true then none else J63 vs (List.drop (i+1) ats) (S++[av]) A) else none)=F:=hF;(refine kWQ ?_;repeat intro γ)
      try simp only[hvj]
      (refine kQ ?_;repeat intro γ);refine CondP.dec (fun k0=>?_) (fun k0=>?_)<;>refine kW ?_
      ·rw[if_pos k0] at hF;(refine kQ ?_;repeat intro γ)
       try simp only[hvj]
       (refine kQ ?_;repeat intro γ);refine CondP.dec (fun v1=>?_) (fun v1=>?_)<;>refine kW ?_
       case' refine_2=>
        rw[Q1 v1] at hF;(refine kQ ?_;repeat intro γ)
        try simp only[hvj]
        (refine kQ ?_;repeat intro γ);exact bad F hF rfl ⟨rfl,trivial⟩
       rw[Q2 v1] at hF;(refine kQ ?_;repeat intro γ)
       try simp only[hvj]
       (refine kQ ?_;repeat intro γ);have hin:=JOy A av (by omega);have hm:=@Q3 _ _ A encS;generalize memR A av=m at hF hin;refine CallP.flat [50] _ c263 (J0G (QC (fun z=>[z,encS av]) (ownS rfl rfl)) hin) rfl ?_
       cases m with
       |true=>
         (refine kWQ ?_;repeat intro γ)
         try simp only[hvj]
         (refine kQ ?_;repeat intro γ);exact bad F hF rfl ⟨rfl,trivial⟩
       |false=>
         (refine kWQ ?_;repeat intro γ)
         try simp only[hvj]
         (refine kQ ?_;repeat intro γ)
         refine .intro <| W.of ⟨_,by omega,g3,g4,γ,g,i+1,S,A++[av],rfl,h1,by rw[QQ,Q2V];omega,by omega,hF,rfl,rfl⟩ ⟨?_,rfl,rfl,rfl,rfl,trivial⟩ ⟨rfl,rfl,?_,rfl,trivial⟩
         ·exact QC (AV.own 50 _ 0) (by simp)
         show some (_,(⟨_,_,_++_⟩:Blk))=_
         rw[QW];rfl
      rw[if_neg k0] at hF;(refine kQ ?_;repeat intro γ)
      try simp only[hvj]
      (refine kQ ?_;repeat intro γ);refine CondP.dec (fun k1=>?_) (fun k1=>?_)<;>refine kW ?_
      case' refine_2=>
       rw[if_neg k1] at hF;(refine kQ ?_;repeat intro γ)
       try simp only[hvj]
       (refine kQ ?_;repeat intro γ);exact bad F hF rfl ⟨rfl,trivial⟩
      rw[if_pos k1] at hF;(refine kQ ?_;repeat intro γ)
      try simp only[hvj]
      (refine kQ ?_;repeat intro γ);refine CondP.dec (fun v1=>?_) (fun v1=>?_)<;>refine kW ?_
      case' refine_2=>
       rw[Q1 v1] at hF;(refine kQ ?_;repeat intro γ)
       try simp only[hvj]
       (refine kQ ?_;repeat intro γ);exact bad F hF rfl ⟨rfl,trivial⟩
      rw[Q2 v1] at hF;(refine kQ ?_;repeat intro γ)
      try simp only[hvj]
      (refine kQ ?_;repeat intro γ);have hin:=JOy S av (by omega);have hm:=@Q3 _ _ S encS;generalize memR S av=m at hF hin;refine CallP.flat [100] _ c263 (J0G (QC (fun z=>[z,encS av]) (ownS rfl rfl)) hin) rfl ?_
      cases m with
      |true=>
        (refine kWQ ?_;repeat intro γ)
        try simp only[hvj]
        (refine kQ ?_;repeat intro γ);exact bad F hF rfl ⟨rfl,trivial⟩
      |false=>
        (refine kWQ ?_;repeat intro γ)
        try simp only[hvj]
        (refine kQ ?_;repeat intro γ)
        refine .intro <| W.of ⟨_,by omega,g3,g4,p',γ,i+1,S++[av],A,rfl,h1,by omega,by rw[QQ,Q2V];omega,hF,rfl,rfl⟩ ⟨rfl,rfl,rfl,?_,rfl,trivial⟩ ⟨rfl,rfl,rfl,?_,trivial⟩
        ·exact QC (AV.own 100 _ 0) (by simp)
        show some (_,(⟨_,_,_++_⟩:Blk))=_
        rw[QW];rfl
   rw[Q9 h1] at hF;refine kWQ ?_;intros
   try simp only[hvj]
   refine kQ ?_;intros;subst hF;exact EndH.of (m:=[(50,p',⟨9,1,List.map encS A⟩)]) ⟨rfl,trivial⟩ ⟨p',rfl,rfl⟩
theorem J8G (vs:List Va):∀ (l:List Ac) (S A B:List ByteArray),J63 vs l S A=some B→B.length≤A.length+l.length
 |[],S,A,B,h=>by cases h;simp
 |a :: r, S,A,B,h=>by
   unfold J63 at h;split at h
   ·cases h
   split at h
   ·cases h
   split at h
   ·split at h
    ·cases h
    have:=J8G vs r _ _ _ h;simp only[QQ,QT,Q0R] at this ⊢;omega
   split at h
   ·split at h
    ·cases h
    have:=J8G vs r _ _ _ h;simp only[QT] at this ⊢;omega
   cases h
def JGw (vs:List Va)(w:Whn)(A B:List ByteArray)(h:whenR vs w A=some B):B.length≤A.length+w.acts.length:=by
 unfold whenR at h;split at h
 ·cases h
 exact J8G vs _ _ _ _ h
def J6m (vs:List Va):List Whn→List ByteArray→Bool
 |[],_=>true
 |w::r,A=>match whenR vs w A with
   |none=>false
   |some B=>J6m vs r B
def JDw (s:Sys):Bool:=
 (risG (s.vars.map Va.name) none&&risG (s.eqs.map Eqn.name) none&&risG (s.inits.map Eqn.name) none&&risG (s.whens.map Whn.name) none)
   && (s.vars.all fun v=>nameF v.name&&varF v)&&(eqsR s.vars s.eqs&&eqsR s.vars s.inits)&&J6m s.vars s.whens []
def JCK (s:Sys):Int:=if largeF s then 2 else if JDw s then 0 else 1
def J8Q (s:Sys)(hs:SzS s):PX 93 [J0E s] (encI (JCK s)):=by
 refine PZ Tryz.func93 rfl ?_;have hL:=JI3 s hs
 have hb:largeF s=false→s.vars.length≤200∧s.eqs.length≤200∧s.inits.length≤200∧s.whens.length≤200∧∀ w∈s.whens,w.acts.length≤20:=by
  intro h;unfold largeF at h;simp only[Q04,Qe] at h;obtain ⟨⟨⟨h1,h2⟩,h3⟩,h4⟩:=h;refine ⟨by omega,by omega,by omega,by omega,fun w hw=>?_⟩;have:=Q0q.1 h3 w hw;simp at this;exact this
 have hQ:∀ q∈s.eqs,(SzE q.left∧TxE q.left)∧SzE q.right∧TxE q.right:=fun q hq=>⟨hs.e _ (by unfold allF;exact Qz _ (Qz _ (J19 hq).1)),hs.e _ (by unfold allF;exact Qz _ (Qz _ (J19 hq).2))⟩;have hN:∀ q∈s.inits,(SzE q.left∧TxE q.left)∧SzE q.right∧TxE q.right:=fun q hq=>⟨hs.e _ (by unfold allF;exact Qz _ (Q0m _ (J19 hq).1)),hs.e _ (by unfold allF;exact Qz _ (Q0m _ (J19 hq).2))⟩;have hWc:∀ w∈s.whens,SzE w.cond∧TxE w.cond:=fun w hw=>hs.e _ (by unfold allF;exact Q0m _ (J4n hw).1);have hWa:∀ w∈s.whens,∀ a∈w.acts,SzE a.value∧TxE a.value:=fun w hw a ha=>hs.e _ (by unfold allF;exact Q0m _ ((J4n hw).2 a ha));have r1:=fun h=>J6R (s.vars.map Va.name) (by rw[Q3];have:=(hb h).1;omega) fun x hx=>by obtain ⟨v,hv,rfl⟩:=Qs.1 hx;exact (hs.t v hv).1
 have r2:=fun h=>J6R (s.eqs.map Eqn.name) (by rw[Q3];have:=(hb h).2.1;omega) fun x hx=>by obtain ⟨v,hv,rfl⟩:=Qs.1 hx;exact hs.m.1 v hv
 have r3:=fun h=>J6R (s.inits.map Eqn.name) (by rw[Q3];have:=(hb h).2.2.1;omega) fun x hx=>by obtain ⟨v,hv,rfl⟩:=Qs.1 hx;exact hs.m.2.1 v hv
 have r4:=fun h=>J6R (s.whens.map Whn.name) (by rw[Q3];have:=(hb h).2.2.2.1;omega) fun x hx=>by obtain ⟨v,hv,rfl⟩:=Qs.1 hx;exact hs.m.2.2 v hv
 have hnm:=fun h=>JKv s (by have:=(hb h).1;omega) (by have:=(hb h).2.1;omega) (by have:=(hb h).2.2.1;omega) (by have:=(hb h).2.2.2.1;omega);have hvr:∀ v∈s.vars,PX 181 [encV v] (encB (nameF v.name&&varF v)):=fun v hv=>JL7 v (hs.t v hv).1 (hs.t v hv).2.1 (hs.t v hv).2.2.1 (hs.t v hv).2.2.2;have q1:=fun h=>JMM s (by have:=(hb h).1;omega) s.eqs (by have:=(hb h).2.1;omega) hQ;have q2:=fun h=>JMM s (by have:=(hb h).1;omega) s.inits (by have:=(hb h).2.2.1;omega) hN;have hw:=fun h w hw A p hA=>JMj s (by have:=(hb h).1;omega) w A p hA (by have:=(hb h).2.2.2.2 w hw;omega) (hWc w hw) (hWa w hw);have hwl:=JGw s.vars;clear hs hQ hN hWc hWa;generalize hF:JCK s=F;unfold JCK at hF;obtain ⟨vs,qs,ns,ws⟩:=s;generalize largeF ⟨vs,qs,ns,ws⟩=la at *;unfold JDw at hF;simp only at *;generalize risG (vs.map Va.name) none=b1 at *;generalize risG (qs.map Eqn.name) none=b2 at *;generalize risG (ns.map Eqn.name) none=b3 at *;generalize risG (ws.map Whn.name) none=b4 at *;generalize eqsR vs qs=b5 at *;generalize eqsR vs ns=b6 at *;unfold J0E at *;simp only at *;refine kWQ ?_;intros;refine CallP.flat [] _ c178 hL rfl ?_
 cases la with
 |true=>
   refine kWQ ?_;intros;exact .of (by rw[← hF];rfl)
 |false =>
   replace hb:=hb rfl;replace r1:=r1 rfl;replace r2:=r2 rfl;replace r3:=r3 rfl;replace r4:=r4 rfl;replace hnm:=hnm rfl;replace q1:=q1 rfl;replace q2:=q2 rfl;replace hw:=hw rfl;simp only[Qc,if_false] at hF
   have bad:∀ {b:Bool} {r:AV},b=false→(if b=true then (0:Int) else 1)=F→r=encI 1→Fw.Ends r (encI F):=by
    rintro b r rfl h rfl;rw[← h];exact .of rfl
   refine kWQ ?_;intros;refine J00 [] _ c179 hnm ?_;refine kWQ ?_;intros;refine CallP.flat [] _ c180 r1 rfl ?_
   cases b1 with
   |false=>
     refine kWQ ?_;intros;exact bad (by simp) hF rfl
   |true=>
     refine kWQ ?_;intros;refine CallP.flat [] _ c180 r2 rfl ?_
     cases b2 with
     |false=>
       refine kWQ ?_;intros;exact bad (by simp) hF rfl
     |true=>
       refine kWQ ?_;intros;refine CallP.flat [] _ c180 r3 rfl ?_
       cases b3 with
       |false=>
         refine kWQ ?_;intros;exact bad (by simp) hF rfl
       |true=>
         refine kWQ ?_;intros;refine CallP.flat [] _ c180 r4 rfl ?_
         cases b4 with
         |false=>
           refine kWQ ?_;intros;exact bad (by simp) hF rfl
         |true=>
           refine kWQ ?_;intros;simp only[QB] at hF
           refine LoopP.intro (fun k σ H=>∃ g i,k=vs.length-i∧i≤vs.length∧(if (((vs.drop i).all fun v=>nameF v.name&&varF v)&&(b5&&b6)&&J6m vs ws [])=true then 0 else 1)=F ∧
            σ=fr [(1,.op 1 g 0 0),(7,encI i)]∧H=hp [(1,g,⟨26,4,[.agg [.sl 7 (vs.map encV),.sl 9 (qs.map J0M),.sl 9 (ns.map J0M),.sl 6 (ws.map J0m)]]⟩)]) ?_ ?_
           ·exact .intro <| W.of ⟨_,_,0,rfl,QG _,hF,rfl,rfl⟩ ⟨rfl,rfl,trivial⟩ ⟨rfl,trivial⟩
           clear hF r1 r2 r3 r4 hnm;rintro k σ H ⟨g1,i,rfl,hi,hF,rfl,rfl⟩
           rcases QI i vs.length with h1|h1
           ·have hv:=hvr _ (QF h1);rw[Q6 h1,Q0l] at hF;refine kWQ ?_;intros;generalize vs[i]=v at hF hv ⊢;generalize (nameF v.name&&varF v)=bv at hF hv;refine kQ ?_;intros;refine CallP.flat [] _ c181 hv rfl ?_
            cases bv with
            |false=>
              refine kWQ ?_;intros;exact bad (by simp) hF rfl
            |true=>
              rw[QB] at hF;refine kWQ ?_;intros
              exact .intro <| W.of ⟨_,by omega,g1,i+1,rfl,h1,hF,rfl,rfl⟩ ⟨rfl,rfl,trivial⟩ ⟨rfl,trivial⟩
           rw[Q9 h1] at hF;simp only[List.all_nil,QB] at hF;refine kWQ ?_;intros;refine CallP.flat [] _ c182 q1 rfl ?_
           cases b5 with
           |false=>
             refine kWQ ?_;intros;exact bad (by simp) hF rfl
           |true=>
             refine kWQ ?_;intros;refine CallP.flat [] _ c182 q2 rfl ?_
             cases b6 with
             |false=>
               refine kWQ ?_;intros;exact bad (by simp) hF rfl
             |true=>
               simp only[QB] at hF;refine kWQ ?_;intros
               refine LoopP.intro (fun k σ H=>∃ g1 g i,∃ A:List ByteArray,k=ws.length-i∧i≤ws.length∧A.length≤20*i∧(if J6m vs (ws.drop i) A=true then 0 else 1)=F ∧
                σ=fr [(1,.op 1 g1 0 0),(8,.own 100 g 0 A.length),(9,encI i)]∧H=hp [(1,g1,⟨26,4,[.agg [.sl 7 (vs.map encV),.sl 9 (qs.map J0M),.sl 9 (ns.map J0M),.sl 6 (ws.map J0m)]]⟩),(100,g,⟨9,1,A.map encS⟩)]) ?_ ?_
               ·exact .intro (J24 8 100 9 1 rfl rfl fun g=>W.of ⟨_,_,g,0,[],rfl,QG _,by simp,hF,rfl,rfl⟩ ⟨rfl,rfl,rfl,trivial⟩ ⟨rfl,rfl,trivial⟩)
               clear hF q1 q2;rintro k σ H ⟨g1,g,i,A,rfl,hi,hA,hF,rfl,rfl⟩
               rcases QI i ws.length with h2|h2
               ·have hwi:=hw _ (QF h2);have hwa:=hb.2.2.2.2 _ (QF h2);rw[Q6 h2] at hF;unfold J6m at hF;refine kWO ?_;intros;simp only[Q3];refine kO ?_;intros;refine J1B [(7,false),(8,true),(13,false)] (by kernel_rfl) ?_;refine kWQ ?_;intros;refine CallP.frame 1000000 [(50,100)] rfl c183 (hwi A g (by omega)) rfl ⟨J0X encS _ (fun _=>rfl) ..,trivial⟩ ?_;have hwl2:=hwl ws[i] A;generalize whenR vs ws[i] A=R at hF hwl2
                cases R with
                |none=>
                  rintro r0 h' ⟨g',A',rfl,rfl⟩;refine ⟨[(100,g',⟨9,1,A'.map encS⟩)],⟨J0X encS _ (fun _=>rfl) ..,trivial⟩,?_⟩;refine kWQ ?_;intros;exact bad rfl hF rfl
                |some B=>
                  rintro r0 h' ⟨g',rfl,rfl⟩;refine ⟨[(100,g',⟨9,1,B.map encS⟩),(1,g1,⟨26,4,[.agg [.sl 7 (vs.map encV),.sl 9 (qs.map J0M),.sl 9 (ns.map J0M),.sl 6 (ws.map J0m)]]⟩)],⟨J0X encS _ (fun _=>rfl) ..,rfl,trivial⟩,?_⟩;have:=hwl2 B rfl;refine kWQ ?_;intros
                  exact .intro <| W.of ⟨_,by omega,g1,g',i+1,B,rfl,h2,by omega,hF,rfl,rfl⟩ ⟨rfl,rfl,rfl,trivial⟩ ⟨rfl,rfl,trivial⟩
               rw[Q9 h2] at hF;refine kWQ ?_;intros;exact .of (by rw[← hF];rfl)
def okT (a b:Int×Bool):Bool:=(a.2==b.2)&&(!a.2||(decide (a.1=b.1)&&(decide (a.1=0)||decide (a.1=1))))
def opsT:List ByteArray:=[oNum,oTrue,oFalse,oTime,oInit,oNeg,oNot,oSample,oAdd,oSub,oMul,oDiv,oLess,oAtMost,oMore,oAtLeast,oEq,oNe,oAnd,oOr,oIf]
def JOn (o:ByteArray)(h:0≤J0d o):o=oVar∨o=oPre∨o∈opsT:=by
 by_cases h4:o=oVar;· exact .inl h4
 by_cases h5:o=oPre;· exact .inr (.inl h5)
 refine .inr (.inr (Q2t fun hn=>?_));rw[← J4q] at h;unfold J8X at h;unfold opsT at hn;simp only[QO,QZ,or_false,not_or] at hn;simp only[hn,h4,h5,if_false] at h;omega
def b01:Bool→Int:=fun b=>if b then 1 else 0
def J9Z {a:Int}(h:a=0∨a=1):∃ b,a=b01 b:=by
 rcases h with h|h
 ·exact ⟨false,h⟩
 exact ⟨true,h⟩
def ok0 (ks:List (ByteArray×Va))(vs:List Va)(o t:ByteArray)(n:Int):Bool:=okT (J4Q ks o t n []) (typH vs o t n [])
def ok1 (ks:List (ByteArray×Va))(vs:List Va)(o t:ByteArray)(n:Int):Bool:=[false,true].all fun a=>okT (J4Q ks o t n [(b01 a,true)]) (typH vs o t n [b01 a])
def ok2 (ks:List (ByteArray×Va))(vs:List Va)(o t:ByteArray)(n:Int):Bool:=[false,true].all fun a=>[false,true].all fun b=>(decide (o=oSample)&&(a||b))||okT (J4Q ks o t n [(b01 a,true),(b01 b,true)]) (typH vs o t n [b01 a,b01 b])
def ok3 (ks:List (ByteArray×Va))(vs:List Va)(o t:ByteArray)(n:Int):Bool:=[false,true].all fun a=>[false,true].all fun b=>[false,true].all fun c=>okT (J4Q ks o t n [(b01 a,true),(b01 b,true),(b01 c,true)]) (typH vs o t n [b01 a,b01 b,b01 c])
def okN (ks:List (ByteArray×Va))(vs:List Va)(o t:ByteArray)(n:Int):Bool:=match J0d o with
 |0=>ok0 ks vs o t n
 |1=>ok1 ks vs o t n
 |2=>ok2 ks vs o t n
 |3=>ok3 ks vs o t n
 |_=>false
def JNI (ks:List (ByteArray×Va))(vs:List Va)(t:ByteArray)(n:Int):(opsT.all fun o=>okN ks vs o t n)=true:=by kernel_rfl
def JMv (ks:List (ByteArray×Va))(vs:List Va)(o t:ByteArray)(n:Int)(ho:o∈opsT)(ts:List Int)(hk:(ts.length:Int)=J0d o)(h01:∀ a∈ts,a=0∨a=1)(hs:o=oSample→∀ a∈ts,a=0) :
  okT (J4Q ks o t n (ts.map fun a=>(a,true))) (typH vs o t n ts)=true:=by
 have h:=QL.1 (JNI ks vs t n) o ho;unfold okN at h;rw[← hk] at h
 match ts,h01,hs with
 |[],_,_=>exact h
 |[a],h01,_=>
   obtain ⟨x,rfl⟩:=J9Z (h01 a (by simp));exact QL.1 (show ok1 ks vs o t n=true from h) x (by cases x<;>simp)
 |[a, b],h01,hs=>
   obtain ⟨x,rfl⟩:=J9Z (h01 a (by simp));obtain ⟨y,rfl⟩:=J9Z (h01 b (by simp));have h2:=QL.1 (QL.1 (show ok2 ks vs o t n=true from h) x (by cases x<;>simp)) y (by cases y<;>simp);rw[Q09,Q5] at h2
   rcases h2 with ⟨h2,h3⟩|h2
   ·exfalso;have hs:=hs (Qh h2);have e1:=hs (b01 x) (by simp);have e2:=hs (b01 y) (by simp);cases x
    ·cases y
     ·simp at h3
     simp[b01] at e2
    simp[b01] at e1
   exact h2
 |[a,b,c],h01,_=>
   obtain ⟨x,rfl⟩:=J9Z (h01 a (by simp));obtain ⟨y,rfl⟩:=J9Z (h01 b (by simp));obtain ⟨z,rfl⟩:=J9Z (h01 c (by simp));exact QL.1 (QL.1 (QL.1 (show ok3 ks vs o t n=true from h) x (by cases x<;>simp)) y (by cases y<;>simp)) z (by cases z<;>simp)
 |a::b::c::d::l,_,_=>
   exfalso;have:=JEe o;simp only[QT] at hk;omega
def JMu (ks:List (ByteArray×Va))(o t:ByteArray)(n:Int)(rs:List (Int×Bool))(hk:(rs.length:Int)=J0d o)(hb:∃ r∈rs,r.2=false):(J4Q ks o t n rs).2=false:=by
 obtain ⟨r,hr,hb⟩:=hb;unfold J4Q
 by_cases h1:o=oVar∨o=oPre
 ·exfalso;have:J0d o=0:=by unfold J0d;rw[if_pos h1]
  have:rs=[]:=Qu.1 (by omega);rw[this] at hr;cases hr
 rw[if_neg h1]
 by_cases h2:o=oEq∨o=oNe
 ·rw[if_pos h2];have:J0d o=2:=by unfold J0d;rw[if_neg h1,if_pos h2]
  match rs,hr,hk with
  |[a,b],hr,_=>
    simp only[QO,QZ,or_false] at hr;show (a.2&&b.2&&decide (a.1=b.1))=false
    rcases hr with rfl|rfl<;>rw[hb]<;>simp
  |[],hr,_=>cases hr
  |[a],_,hk=>simp at hk;omega
  |a::b::c::l,_,hk=>simp at hk;omega
 rw[if_neg h2]
 by_cases h3:o=oIf
 ·rw[if_pos h3];have:J0d o=3:=by unfold J0d;rw[if_neg h1,if_neg h2,if_pos h3]
  match rs,hr,hk with
  |[a,b,c],hr,_=>
    simp only[QO,QZ,or_false] at hr;show (a.2&&(b.2&&c.2&&decide (b.1=c.1))&&decide (a.1=1))=false
    rcases hr with rfl|rfl|rfl<;>rw[hb]<;>simp
  |[],hr,_=>cases hr
  |[a],_,hk=>simp at hk;omega
  |[a,b],_,hk=>simp at hk;omega
  |a::b::c::d::l,_,hk=>simp at hk;omega
 rw[if_neg h3,if_pos];exact List.any_eq_true.2 ⟨r,hr,by rw[hb];rfl⟩
theorem JH6 (vs:List Va):∀ ks:List Ex,(∀ k∈ks,(typR vs k).2=true)→typL vs ks=some (ks.map fun k=>(typR vs k).1)
 |[],_=>by unfold typL;rfl
 |k::ks,h=>by
   unfold typL;rw[if_pos (h k (by simp)),JH6 vs ks fun x hx=>h x (by simp[hx])];rfl
theorem JH7 (vs:List Va):∀ ks:List Ex,(∃ k∈ks,(typR vs k).2=false)→typL vs ks=none
 |[],h=>by obtain ⟨k,hk,_⟩:=h;cases hk
 |k :: ks,h=>by
   unfold typL
   cases hb:(typR vs k).2 with
   |false=>rfl
   |true=>
     obtain ⟨x,hx,hx2⟩:=h
     rw[if_pos rfl,JH7 vs ks ⟨x,by
      rcases QO.1 hx with rfl|hx
      ·rw[hb] at hx2;cases hx2
      exact hx,hx2⟩];rfl
def JOo {a b:Int×Bool}(h:okT a b=true):a.2=b.2∧(a.2=true→a.1=b.1∧(a.1=0∨a.1=1)):=by
 unfold okT at h;rw[Q5] at h;refine ⟨by simpa using h.1,fun h2=>?_⟩;have:=h.2;rw[h2] at this
 simpa using this
def JKW (ks:List (ByteArray×Va))(vs:List Va)(hav:∀ n,J11 ks n=vs.find? fun v=>decide (v.name=n))(hv:∀ v∈vs,v.type=0∨v.type=1)(e:Ex) :
  builtF e=true→(typeF ks e).2=(typR vs e).2∧((typeF ks e).2=true→(typeF ks e).1=(typR vs e).1∧((typeF ks e).1=0∨(typeF ks e).1=1)):=by
 induction e using J1i with
 |h e ih=>
   intro hb;obtain ⟨hl,hkb⟩:=J0A hb;have ih':=fun k hk=>ih k hk (hkb k hk);rw[J6P,JCz]
   by_cases hok:∀ k∈e.kids,(typR vs k).2=true
   ·rw[JH6 vs _ hok]
    have e1:e.kids.map (typeF ks)=(e.kids.map fun k=>(typR vs k).1).map fun a=>(a,true):=by
     rw[Q0p];refine Qk fun k hk=>?_;have h1:=ih' k hk;have h2:=h1.1.trans (hok k hk);exact Prod.ext (h1.2 h2).1 h2
    rw[e1]
    by_cases hvp:e.op=oVar∨e.op=oPre
    ·have hx:J4Q ks e.op e.text e.order ((e.kids.map fun k=>(typR vs k).1).map fun a=>(a,true))=varT vs e.text e.order∧typH vs e.op e.text e.order (e.kids.map fun k=>(typR vs k).1)=varT vs e.text e.order:=by
      refine ⟨?_,by rcases hvp with ho|ho<;>rw[ho]<;>rfl⟩;unfold J4Q varT;rw[if_pos hvp,hav];cases vs.find? fun v=>decide (v.name=e.text)<;>rfl
     rw[hx.1];refine ⟨QC Prod.snd hx.2.symm,fun _=>⟨QC Prod.fst hx.2.symm,?_⟩⟩;unfold varT
     cases hf:vs.find? fun v=>decide (v.name=e.text) with
     |none=>exact .inl rfl
     |some v=>exact hv v (Q2B hf)
    have ho:e.op∈opsT:=by
     rcases JOn e.op (by omega) with ho|ho|ho
     ·exact (hvp (.inl ho)).elim
     ·exact (hvp (.inr ho)).elim
     exact ho
    refine JOo (JMv ks vs _ _ _ ho _ (by rw[Q3];exact hl) ?_ ?_)
    ·intro a ha;obtain ⟨k,hk,rfl⟩:=Qs.1 ha;have h1:=ih' k hk;have h2:=h1.2 (h1.1.trans (hok k hk));rw[← h2.1];exact h2.2
    intro hos a ha;obtain ⟨k,hk,rfl⟩:=Qs.1 ha
    have hkn:k.op=oNum:=by
     rw[J0t] at hb;simp only[Q5] at hb;have hsm:=hb.1.2
     have hlen:e.kids.length=2:=by
      have:J0d e.op=2:=by rw[hos];rfl
      omega
     generalize e.kids=l at hsm hlen hk
     match l,hlen with
     |[k0,k1],_=>
       unfold J2D at hsm;rw[Q2 hos] at hsm;simp only[QK,QB,Qw,Q04,Q1w,Qa] at hsm;simp only[QO,QZ,or_false] at hk
       rcases hk with rfl|rfl
       ·exact hsm.1.1.1.1
       exact hsm.1.1.1.2
    rw[JCz,hkn]
    have hk0:k.kids=[]:=by
     have h1:=(J0A (hkb k hk)).1;rw[hkn] at h1;have:J0d oNum=0:=rfl;exact Qu.1 (by omega)
    rw[hk0];rfl
   have hbad:∃ k∈e.kids,(typR vs k).2=false:=by
    refine Q2t fun hn=>hok fun k hk=>?_
    cases h:(typR vs k).2 with
    |true=>rfl
    |false=>exact (hn ⟨k,hk,h⟩).elim
   rw[JH7 vs _ hbad]
   have:=JMu ks e.op e.text e.order (e.kids.map (typeF ks)) (by rw[Q3];exact hl) (by
    obtain ⟨k,hk,hf⟩:=hbad
    exact ⟨_,Qs.2 ⟨k,hk,rfl⟩,(ih' k hk).1.trans hf⟩)
   rw[this];exact ⟨rfl,fun h=>by cases h⟩
def JFR (ks:List (ByteArray×Va))(vs:List Va)(hav:∀ n,J11 ks n=vs.find? fun v=>decide (v.name=n))(hv:∀ v∈vs,v.type=0∨v.type=1)(e:Ex)(t:Int):typedF ks e t=isR vs e t:=by
 unfold typedF isR
 cases hb:builtF e with
 |false=>rfl
 |true=>
   obtain ⟨h1,h2⟩:=JKW ks vs hav hv e hb;rw[← h1]
   cases h3:(typeF ks e).2 with
   |false=>rfl
   |true=>rw[(h2 h3).1]
theorem JJO:∀ a:List UInt8,Op.bytesLess a a=false
 |[]=>rfl
 |x::a=>by rw[JAe,JJO a];simp
theorem JAd:∀ a b c:List UInt8,Op.bytesLess a b=true→Op.bytesLess b c=true→Op.bytesLess a c=true
 |[],[],_,h,_=>by cases h
 |[],_::_,[],_,h=>by cases h
 |[],_::_,_::_,_,_=>rfl
 |_::_,[],_,h,_=>by cases h
 |_::_,_::_,[],_,h=>by cases h
 |x :: a,y::b,z::c,h1,h2=>by
   rw[JAe] at h1 h2 ⊢;simp only[Q09,Q5,Qa] at h1 h2 ⊢
   rcases h1 with h1|⟨rfl,h1⟩
   ·rcases h2 with h2 | ⟨rfl,h2⟩
    ·exact .inl (UInt8.lt_trans h1 h2)
    exact .inl h1
   rcases h2 with h2|⟨rfl,h2⟩
   ·exact .inl h2
   exact .inr ⟨rfl,JAd a b c h1 h2⟩
def J75 {n:ByteArray}{r:List ByteArray}{p:Option ByteArray}(h:risG (n::r) p=true):nameF n=true∧(∀ q,p=some q→Op.bytesLess q.toList n.toList=true)∧risG r (some n)=true:=by
 unfold risG at h;simp only[Q5] at h;refine ⟨h.1.1,?_,h.2⟩;rintro q rfl;exact h.1.2
theorem J90:∀ (l:List ByteArray) (q:ByteArray),risG l (some q)=true→∀ x∈l,Op.bytesLess q.toList x.toList=true
 |[],_,_,x,hx=>by cases hx
 |n::r,q,h,x,hx=>by
   obtain ⟨_,h2,h3⟩:=J75 h
   rcases QO.1 hx with rfl|hx
   ·exact h2 q rfl
   exact JAd _ _ _ (h2 q rfl) (J90 r n h3 x hx)
theorem JBI:∀ (l:List ByteArray) (p:Option ByteArray),risG l p=true→∀ x∈l,nameF x=true
 |[],_,_,x,hx=>by cases hx
 |n::r,p,h,x,hx=>by
   obtain ⟨h1,_,h3⟩:=J75 h
   rcases QO.1 hx with rfl|hx
   ·exact h1
   exact JBI r _ h3 x hx
theorem J5m:∀ (l:List ByteArray) (p:Option ByteArray),risG l p=true→l.Nodup
 |[],_,_=>Q3f
 |n::r,p,h=>by
   obtain ⟨_,_,h3⟩:=J75 h;refine List.nodup_cons.2 ⟨fun hm=>?_,J5m r _ h3⟩;have:=J90 r n h3 n hm;rw[JJO] at this;cases this
theorem JEJ {β:Type}(k:ByteArray)(v:β):∀ l:List (ByteArray×β),k ∉ l.map Prod.fst→putK l k v=l++[(k,v)]
 |[],_=>rfl
 |x::r,h=>by
   rw[QK,QO,not_or] at h;unfold putK;rw[if_neg h.1,JEJ k v r h.2];rfl
theorem JAC:∀ (vs:List Va) (l:List (ByteArray×Va)),(l.map Prod.fst++vs.map Va.name).Nodup→vs.foldl (fun l v=>putK l v.name v) l=l++vs.map fun v=>(v.name,v)
 |[],l,_=>by simp
 |v :: vs,l,h=>by
   rw[Q2g,JEJ]
   ·rw[JAC vs]
    ·simp
    rw[QW,Qo];exact h
   intro hm;rw[List.nodup_append] at h;exact h.2.2 _ hm _ (by simp) rfl
theorem J62:∀ (vs:List Va) (n:ByteArray),J11 (vs.map fun v=>(v.name,v)) n=vs.find? fun v=>decide (v.name=n)
 |[],_=>rfl
 |v::vs,n=>by
   rw[QK,Q2h];unfold J11
   by_cases h:n=v.name
   ·rw[if_pos h,Q2 h.symm]
   rw[if_neg h,Q1 (fun e=>h e.symm),J62 vs n]
def JNM (A:List ByteArray)(s:ByteArray):memR A s=memA s A:=by
 unfold memR memA
 congr 1
 funext x
 exact QS.2 ⟨Eq.symm,Eq.symm⟩
theorem J8F (ks:List (ByteArray×Va))(vs:List Va)(hav:∀ n,J11 ks n=vs.find? fun v=>decide (v.name=n))(hT:∀ e t,typedF ks e t=isR vs e t) :
  ∀ (l:List Ac) (S A:List ByteArray),J63 vs l S A=if (J4K ks l S A).1 then some (J4K ks l S A).2 else none
 |[],S,A=>rfl
 |a :: r,S,A=>by
   unfold J63 J4K badA;rw[hav]
   cases hf:vs.find? fun v=>decide (v.name=a.var) with
   |none=>rfl
   |some v=>
     simp only[hT,JNM]
     by_cases h0:a.kind=0
     ·simp only[h0,if_true,decide_true,Q0W,QD,Qj];cases isR vs a.value v.type<;>cases decide (v.kind=1)<;>cases memA a.var A<;>simp[J8F ks vs hav hT r]
     by_cases h1:a.kind=1
     ·simp only[h1,if_true,decide_true,Q0W,Q0U,Qj,if_false,(by decide:¬ (1:Int)=0)];cases isR vs a.value v.type<;>cases decide (v.kind=0)<;>cases memA a.var S<;>simp[J8F ks vs hav hT r]
     simp only[h0,h1,decide_false,Q0L,QB,Qx,if_true,if_false];cases isR vs a.value v.type<;>rfl
theorem J8e (ks:List (ByteArray×Va))(vs:List Va)(hav:∀ n,J11 ks n=vs.find? fun v=>decide (v.name=n))(hT:∀ e t,typedF ks e t=isR vs e t) :
  ∀ (l:List Whn) (A:List ByteArray),J6m vs l A=J4N ks l A
 |[],_=>rfl
 |w :: r,A=>by
   unfold J6m J4N whenR JAj;rw[hT,J8F ks vs hav hT];simp only
   by_cases hl:w.acts.length=0
   ·rw[Q2 hl,Q1 (p:=0<w.acts.length) (by omega)];simp
   rw[Q1 hl,Q2 (p:=0<w.acts.length) (by omega)];cases isR vs w.cond 1<;>cases (J4K ks w.acts [] A).1<;>simp[J8e ks vs hav hT r]
def JB1 {v:Va}(h:varF v=true):v.type=0∨v.type=1:=by
 unfold varF J7W at h;simp only[Q5,Qw,Q04,Q21] at h
 rcases h.1.1.1.1.1.1.1 with h|h
 ·exact .inl (by simpa using h)
 exact .inr (by simpa using h)
def JFP (s:Sys):JDw s=validF s:=by
 unfold JDw validF
 cases h1:risG (s.vars.map Va.name) none with
 |false=>rfl
 |true=>
   have e1:knownF s.vars=s.vars.map fun v=>(v.name,v):=by
    unfold knownF;rw[JAC _ _ (by simpa using J5m _ _ h1)];rfl
   have hav:∀ n,J11 (knownF s.vars) n=s.vars.find? fun v=>decide (v.name=n):=fun n=>by rw[e1,J62]
   have e2:(s.vars.all fun v=>nameF v.name&&varF v)=!(s.vars.any fun v=>!varF v):=by
    rw[List.not_any_eq_all_not];rw[Q0T,QL,QL];have hn:=JBI _ _ h1;refine ⟨fun h v hv=>?_,fun h v hv=>?_⟩
    ·have:=h v hv;rw[Q5] at this;simp[this.2]
    have:=h v hv;rw[Q3w] at this;rw[hn _ (Qs.2 ⟨v,hv,rfl⟩),this];rfl
   rw[e2]
   cases h2:(s.vars.any fun v=>!varF v) with
   |true=>simp
   |false=>
     have hv:∀ v∈s.vars,v.type=0∨v.type=1:=fun v hv=>JB1 (by
      have:=Q0q.1 h2 v hv
      simpa using this)
     have hT:=JFR (knownF s.vars) s.vars hav hv
     have e3:∀ l:List Eqn,eqsR s.vars l=l.all (eqT (knownF s.vars)):=by
      intro l;unfold eqsR
      congr 1
      funext q
      unfold eqT;rw[hT,hT]
     rw[e3,e3,J8e _ _ hav hT]
def J60 (s:Sys):JCK s=checkF s:=by
 unfold JCK checkF;rw[JFP]
structure U where
 name:ByteArray
 order:Int
 pre:Bool
 deriving DecidableEq
def encU (u:U):AV:=.agg [.val (.string u.name),.val (.int .i64 u.order),.val (.bool u.pre)]
def cmpS (a b:ByteArray):Int:=Lib.compareBytes a.data.toList b.data.toList
def JDl (a b:ByteArray):PX 289 [encS a,encS b] (encI (cmpS a b)):=by
 refine PZ Tryz.func289 rfl ?_;refine kWS ?_;intros;refine CallP.ext _ (JP2 a b) ?_;refine kWS ?_;intros;exact .of rfl
def JGW (a b:ByteArray):PX 195 [encS a,encS b] (encI (cmpS a b)):=by
 refine PZ Tryz.func195 rfl ?_;refine kWS ?_;intros;refine CallP.flat [] _ c289 (JDl a b) rfl ?_;refine kWS ?_;intros;exact .of rfl
def fitF (u:U):Bool:=nameF u.name&&decide (0≤u.order∧u.order≤6)&&(!u.pre||decide (u.order=0))
def JG0 (s s':ByteArray)(n n':Int)(p p':Bool):Int:=match decide (s=s') with
 |false=>cmpS s s'
 |true=>match decide (p=p') with
   |false=>match p' with
     |true=>-1
     |false=>1
   |true=>n-n'
def J2h (a b:U):Int:=JG0 a.name b.name a.order b.order a.pre b.pre
def J5v (s:ByteArray)(n:Int)(p:Bool):encU ⟨s,n,p⟩=.agg [.val (.string s),.val (.int .i64 n),.val (.bool p)]:=rfl
def beforeF (a b:U):Bool:=match decide (a.name=b.name) with
 |false=>Op.bytesLess a.name.toList b.name.toList
 |true=>match decide (a.pre=b.pre) with
   |false=>b.pre
   |true=>decide (a.order<b.order)
def JPL (u:U)(hs:u.name.size<2^35):PX 81 [encU u] (encB (fitF u)):=by
 refine PZ Tryz.func81 rfl ?_;obtain ⟨s,n,p⟩:=u;obtain ⟨F,hF⟩:∃ F,(nameF s&&decide (0≤n∧n≤6)&&(!p||decide (n=0)))=F:=⟨_,rfl⟩;rw[show fitF ⟨s,n,p⟩=F from hF];simp only at hs;rw[J5v];refine kWO ?_;intros;refine CallP.flat [] (encB (nameF s)) c90 (J2N s (by omega)) rfl ?_;refine kWO ?_;intros;refine CondP.intro (fun h1=>?_) (fun h1=>?_)<;>refine kW ?_
 ·rw[h1,QB] at hF;refine kO ?_;intros;refine CondP.dec (fun h2=>?_) (fun h2=>?_)<;>refine kW ?_
  ·refine kO ?_;intros;refine CondP.dec (fun h3=>?_) (fun h3=>?_)<;>refine kW ?_
   ·rw[Q2 (by omega),QB] at hF;refine kO ?_;intros;cases p
    ·refine kWO ?_;intros;exact .of (by rw[← hF];rfl)
    refine kWO ?_;intros;exact .of (by rw[← hF];simp;rfl)
   rw[Q1 (by omega),QD] at hF;refine kO ?_;intros;exact .of (by rw[← hF];rfl)
  rw[Q1 (by omega),QD] at hF;refine kO ?_;intros;exact .of (by rw[← hF];rfl)
 rw[h1,QD,QD] at hF;refine kO ?_;intros;exact .of (by rw[← hF];rfl)
def JLy (u:U)(hs:u.name.size<2^35):PX 85 [encU u] (encB (fitF u)):=by
 refine PZ Tryz.func85 rfl ?_;obtain ⟨s,n,p⟩:=u;obtain ⟨F,hF⟩:∃ F,(nameF s&&decide (0≤n∧n≤6)&&(!p||decide (n=0)))=F:=⟨_,rfl⟩;rw[show fitF ⟨s,n,p⟩=F from hF];simp only at hs;rw[J5v];refine kWO ?_;intros;refine CallP.flat [] (encB (nameF s)) c94 (J5N s (by omega)) rfl ?_;refine kWO ?_;intros;refine CondP.intro (fun h1=>?_) (fun h1=>?_)<;>refine kW ?_
 ·rw[h1,QB] at hF;refine kO ?_;intros;refine CondP.dec (fun h2=>?_) (fun h2=>?_)<;>refine kW ?_
  ·refine kO ?_;intros;refine CondP.dec (fun h3=>?_) (fun h3=>?_)<;>refine kW ?_
   ·rw[Q2 (by omega),QB] at hF;refine kO ?_;intros;cases p
    ·refine kWO ?_;intros;exact .of (by rw[← hF];rfl)
    refine kWO ?_;intros;exact .of (by rw[← hF];simp;rfl)
   rw[Q1 (by omega),QD] at hF;refine kO ?_;intros;exact .of (by rw[← hF];rfl)
  rw[Q1 (by omega),QD] at hF;refine kO ?_;intros;exact .of (by rw[← hF];rfl)
 rw[h1,QD,QD] at hF;refine kO ?_;intros;exact .of (by rw[← hF];rfl)
def JON (a b:U)(ha:0≤a.order∧a.order≤6)(hb:0≤b.order∧b.order≤6):PX 116 [encU a,encU b] (encI (J2h a b)):=by
 refine PZ Tryz.func116 rfl ?_;obtain ⟨s,n,p⟩:=a;obtain ⟨s',n',p'⟩:=b;obtain ⟨F,hF⟩:∃ F,JG0 s s' n n' p p'=F:=⟨_,rfl⟩;rw[show J2h ⟨s,n,p⟩ ⟨s',n',p'⟩=F from hF];unfold JG0 at hF;simp only at ha hb;rw[J5v,J5v];refine kWO ?_;intros;refine CondP.dec (fun h1=>?_) (fun h1=>?_)<;>refine kW ?_
 ·rw[Q2 h1] at hF;cases p<;>cases p'
  all_goals (refine kW ?_)
  all_goals (refine kS ?_;intros)
  all_goals exact .of (by rw[← hF];rfl)
 rw[Q1 h1] at hF;refine kO ?_;intros;refine CallP.flat [] (encI (cmpS s s')) c195 (JGW s s') rfl ?_;refine kWO ?_;intros;exact .of (by rw[← hF];rfl)
def JCl (a b:U):PX 119 [encU a,encU b] (encB (beforeF a b)):=by
 refine PZ Tryz.func119 rfl ?_;obtain ⟨s,n,p⟩:=a;obtain ⟨s',n',p'⟩:=b;obtain ⟨F,hF⟩:∃ F,(match decide (s=s') with|false=>Op.bytesLess s.toList s'.toList|true=>match decide (p=p') with|false=>p'|true=>decide (n<n'))=F:=⟨_,rfl⟩;rw[show beforeF ⟨s,n,p⟩ ⟨s',n',p'⟩=F from hF];rw[J5v,J5v];refine kWO ?_;intros;refine CondP.dec (fun h1=>?_) (fun h1=>?_)<;>refine kW ?_
 ·rw[Q2 h1] at hF;cases p<;>cases p'
  all_goals (refine kW ?_)
  all_goals (refine kS ?_;intros)
  all_goals exact .of (by rw[← hF];rfl)
 rw[Q1 h1] at hF;refine kO ?_;intros;exact .of (by rw[← hF];rfl)
def useF (e:Ex):U:=⟨e.text,e.order,decide (e.op=oPre)⟩
def JMW (e:Ex):PX 145 [encE e] (encU (useF e)):=by
 refine PZ Tryz.func145 rfl ?_;rw[J02];unfold useF encU;generalize e.kids=ks;generalize e.op=o;generalize e.text=tx;generalize e.order=od;refine kWS ?_;intros;exact .of rfl
def putU (A:List U)(u:U):List U:=if u∈A then A else A++[u]
def setU (A:List U):AV:=.mp (A.map encU) (A.map fun _=>encB true)
mutual
def J33:Ex→List U→List U
 |.mk o t n ks,A=>J4O ks (if o=oVar∨o=oPre then putU A ⟨t,n,decide (o=oPre)⟩ else A)
def J4O:List Ex→List U→List U
 |[],A=>A
 |k::ks,A=>J4O ks (J33 k A)
end
def JKT (e:Ex)(A:List U):J33 e A=J4O e.kids (if e.op=oVar∨e.op=oPre then putU A (useF e) else A):=by cases e;rfl
def J7X (u v:U):J13 T 54 (encU u) (encU v)=some (decide (u=v)):=by
 obtain ⟨a,b,c⟩:=u;obtain ⟨a',b',c'⟩:=v;show some ((a==a')&&((decide (b=b'))&&((c==c')&&true)))=_
 rw[J9Y]
 congr 1
 rw[Q0T];simp
theorem JHW (u:U):∀ A:List U,∃ r,J1E (J13 T 54 (encU u)) (A.map encU)=some r∧(match r with
  |some i=>u∈A∧(A.map fun _=>encB true).getD i .dead=encB true∧(A.map fun _=>encB true).set i (encB true)=A.map fun _=>encB true
  |none=>u ∉ A)
 |[]=>⟨none,rfl,by simp⟩
 |x :: l=>by
   obtain ⟨r,h1,h2⟩:=JHW u l;rw[QK];unfold J1E;rw[J7X]
   by_cases h:u=x
   ·rw[Q2 h];exact ⟨some 0,rfl,by simp[h],rfl,rfl⟩
   rw[Q1 h,h1];refine ⟨r.map (· + 1),rfl,?_⟩
   revert h2
   cases r with
   |none=>intro h2;simp[h];exact h2
   |some i=>
     rintro ⟨h2,h3,h4⟩;exact ⟨by simp[h2],h3,by show (_::_)=(_::_);exact QC _ h4⟩
def JOD (e:Ex):SzE e→∀ (A:List U) (p:Nat),HCall Tryz.prog 121 [encE e,.om 50 p] (hp [(50,p,⟨169,0,[setU A]⟩)]) (fun r h=>r=.tup []∧h=hp [(50,p,⟨169,0,[setU (J33 e A)]⟩)]):=by
 induction e using J1i with
 |h e ih=>
   intro hs A p;have hU:=JMW e;have ihk:=fun k hk=>ih k hk (hs.kid k hk);have hl:=hs.len;refine J2j (E:=E 0) J3x (JMY 0) Tryz.func121 rfl (by rfl) (QJ rfl) ?_;generalize hF:J33 e A=F;rw[JKT] at hF;clear ih hs;rw[J02] at hU ⊢;generalize useF e=u at hU hF;generalize e.kids=ks at *;generalize e.op=o at *;generalize e.text=tx at *;generalize e.order=od at *;have hput:(u∈A→putU A u=A)∧(u ∉ A→putU A u=A++[u]):=⟨fun h=>by unfold putU;rw[if_pos h],fun h=>by unfold putU;rw[if_neg h]⟩;obtain ⟨r2,hr2,hm2⟩:=JHW u A;have hlen:AV.val (.int .i64 ((ks.map encE).length:Nat))=encI ks.length:=by rw[Q3];rfl
   refine kWS ?_;intros;refine CondP.dec (fun h1=>?_) (fun h1=>?_)<;>refine kW ?_
   case' refine_2=>
    by_cases h2:o=oPre
   case' pos|refine_1=>
    rw[if_pos (by simp[*])] at hF;refine kS ?_;intros;refine J00 [] _ c145 hU ?_;refine kWS ?_;intros;refine Need.intro keyst54 ?_;refine kWS ?_;intros;refine LookP.intro r2 hr2 ?_
    rcases r2 with _|j
    case' none=>rw[hput.2 hm2] at hF
    case' some=>
     obtain ⟨m1,m2,m3⟩:=hm2;rw[hput.1 m1] at hF
    all_goals refine kW ?_
    all_goals refine kS ?_;intros
   case' neg=>
    rw[if_neg (by simp[*])] at hF;refine kS ?_;intros
   all_goals
    refine LoopP.intro (fun k σ H=>∃ i B,k=ks.length-i∧i≤ks.length∧J4O (ks.drop i) B=F∧σ=fr [(1,.om 50 p),(18,.sl 4 (ks.map encE)),(19,encI ks.length),(20,encI i)] ∧
     H=hp [(50,p,⟨169,0,[setU B]⟩)]) ?_ ?_
    case' refine_1=>
     first
      |exact .intro <| W.of ⟨_,0,_,rfl,QG _,hF,rfl,rfl⟩ ⟨rfl,rfl,hlen,rfl,trivial⟩ ⟨rfl,trivial⟩
      |exact .intro <| W.of ⟨_,0,_,rfl,QG _,hF,rfl,rfl⟩ ⟨rfl,rfl,hlen,rfl,trivial⟩ ⟨by show some (_,(⟨_,_,[.mp _ (List.set _ _ (encB true))]⟩:Blk))=_;rw[m3];rfl,trivial⟩
      |exact .intro <| W.of ⟨_,0,_,rfl,QG _,hF,rfl,rfl⟩ ⟨rfl,rfl,hlen,rfl,trivial⟩ ⟨by unfold setU;rw[QW,QW];rfl,trivial⟩
    case' refine_2=>
     clear hF;rintro k σ H ⟨i,B,rfl,hi,hF,rfl,rfl⟩
     rcases QI i ks.length with h9|h9
     ·rw[Q6 h9] at hF;have hk:=ihk _ (QF h9) B p;obtain ⟨k,hkk⟩:∃ k,ks[i]=k:=⟨_,rfl⟩;rw[hkk] at hF hk;unfold J4O at hF;rw[J02] at hk;refine kWQ ?_;intros;simp only[hkk,J02];refine kQ ?_;intros;refine CallP.frame 1000000 [(50,50)] rfl c121 hk rfl ⟨rfl,trivial⟩ ?_;rintro r0 h' ⟨rfl,rfl⟩;refine ⟨[(50,p,⟨169,0,[setU (J33 k B)]⟩)],⟨rfl,trivial⟩,?_⟩;refine kWQ ?_;intros
      exact .intro <| W.of ⟨_,by omega,i+1,_,rfl,h9,hF,rfl,rfl⟩ ⟨rfl,rfl,rfl,rfl,trivial⟩ ⟨rfl,trivial⟩
     rw[Q9 h9] at hF;refine kWQ ?_;intros;refine EndH.of (m:=[(50,p,⟨169,0,[setU B]⟩)]) ⟨rfl,trivial⟩ ⟨rfl,?_⟩;rw[← hF];rfl
inductive Vl where
 |num (q:Rat)
 |tr (b:Bool)
 deriving DecidableEq
def J07:Vl→AV
 |.num q=>J16 (encF q) false false
 |.tr b=>J16 nilQ b true
def Vl.sz:Vl→Nat
 |.num q=>szq q
 |.tr _=>0
def Vl.type:Vl→Int
 |.num _=>0
 |.tr _=>1
def shortV:Vl→Bool
 |.num q=>decide (nd q.num≤300)&&decide (nd q.den≤300)
 |.tr _=>true
def JCX (v:Vl)(h:v.sz<2^36):PX 101 [J07 v] (encB (shortV v)):=by
 refine PZ Tryz.func101 rfl ?_
 rcases v with q|b
 ·have a1:=J1D q;have a2:=J1J q;have h:szq q<2^36:=h;have h1:=JCY q.num q.den (by omega) (by omega);unfold shortV J07 J16 encF encQ at *;refine kWS ?_;intros;refine CallP.flat [] _ c151 h1 rfl ?_;refine kWS ?_;intros;exact .of rfl
 unfold J07 J16;refine kWS ?_;intros;exact .of rfl
def strV:Vl→ByteArray
 |.num q=>ofL ((qT q.num q.den).map UInt8.ofNat)
 |.tr b=>if b then sTrue else sFalse
def J9c (v:Vl)(h:v.sz<2^36):PX 102 [J07 v] (encS (strV v)):=by
 refine PZ Tryz.func102 rfl ?_
 rcases v with q|b
 ·have a1:=J1D q;have a2:=J1J q;have h:szq q<2^36:=h;have h1:=J9d q.num q.den (by omega) (by omega);unfold J07 J16 encF encQ strV at *;refine kWS ?_;intros;refine CallP.flat [] _ c150 h1 rfl ?_;refine kWS ?_;intros;exact .of rfl
 unfold J07 J16;cases b
 all_goals
  refine kWS ?_;intros;exact .of rfl
def sameV:Vl→Vl→Bool
 |.num p,.num q=>decide (p=q)
 |.tr a,.tr b=>decide (a=b)
 |_,_=>false
def J9v (p q:Rat):sgn (p-q).num=0↔p=q:=by
 have:sgn (p-q).num=0↔(p-q).num=0:=by
  unfold sgn;split
  ·simp[*]
  split<;>omega
 rw[this,Q2K];constructor
 ·intro h;grind
 intro h;grind
def JF5 (v w:Vl)(ht:v.type=w.type)(h:v.sz+w.sz+1<2^36):PX 279 [J07 v,J07 w] (encB (sameV v w)):=by
 refine PZ Tryz.func279 rfl ?_
 rcases v with q|b<;>rcases w with p|c
 ·have h1:=JK1 q p h;rw[show encI (sgn (q-p).num)=AV.val (.int .i64 (sgn (q-p).num)) from rfl] at h1;have h2:=J9v q p;unfold sameV J07 J16 encF encQ at *;refine kWS ?_;intros;refine CallP.flat [] _ c330 h1 rfl ?_;refine kWS ?_;intros;refine .of ?_;show AV.val (.bool (decide _))=AV.val (.bool (decide _))
  congr 2
  exact QS.2 h2
 ·cases ht
 ·cases ht
 unfold J07 J16;refine kWS ?_;intros;cases b<;>cases c
 all_goals
  refine kS ?_;intros;exact .of rfl
def J5u (l:List Vl):AV:=.sl 6 (l.map J07)
def J1u (q:Rat):PX 189 [encF q] (J07 (.num q)):=JCe (encF q) (.inr ⟨_,_,rfl⟩)
def J1z:Except Int Vl→AV
 |.ok v=>.tup [J07 v,encI 0]
 |.error c=>.tup [J16 nilQ false false,encI c]
structure Ev where
 time:Rat
 init:Bool
 vals:List (U×Vl)
def JP9 (e:Ev):AV:=.agg [encB (decide (e.time.num<0)),encW e.time.num.natAbs,encB (decide ((e.time.den:Int)<0)),encW (e.time.den:Int).natAbs,encB e.init,.mp (e.vals.map fun x=>encU x.1) (e.vals.map fun x=>J07 x.2)]
def J1L (e:Ev):AV:=.ep (JP9 e) 0
section
variable (x:AV) (l:List Vl) (a b:Vl) (p q:Rat) (c d:Bool) (e:Ev)
def JB0:PX 265 [x,J5u l,.ep (J07 a) 0] (J1z (.ok a)):=by
 refine PZ Tryz.func265 rfl ?_
 rcases a with q|b
 all_goals
  unfold J07 J16;refine kWS ?_;intros;exact .of rfl
def JKK:PX 266 [J1L e,J5u l] (J1z (.ok (.num e.time))):=by
 refine PZ Tryz.func266 rfl ?_;have h:=J1u e.time;refine kWS ?_;intros;refine J00 [] _ c189 h ?_;refine kWS ?_;intros;exact .of rfl
def JKN:PX 267 [J1L e,J5u l] (J1z (.ok (.tr e.init))):=by
 refine PZ Tryz.func267 rfl ?_;have h:=J2G e.init;refine kWS ?_;intros;refine J00 [] _ c194 h ?_;refine kWS ?_;intros;exact .of rfl
def JFN (h:szq e.time+szq p+szq q+1<2^36)(h0:q≠0):PX 268 [J1L e,J5u [.num p,.num q]] (J1z (.ok (.tr (multF (e.time-p) q)))):=by
 refine PZ Tryz.func268 rfl ?_;have hs:=J9s e.time p;have h1:=JAo e.time p (by omega);have h2:=JCf (e.time-p) q (by omega) h0;have h3:=J2G (multF (e.time-p) q);generalize multF (e.time-p) q=r at *;generalize e.time-p=s at *;unfold encF encQ at h1 h2;refine kWS ?_;intros;refine CallG.intro _ c80 h1 ?_;refine kWS ?_;intros;refine CallG.intro _ c269 h2 ?_;refine kWS ?_;intros;refine CallG.intro _ c194 h3 ?_;refine kWS ?_;intros;exact .of rfl
def JMo (h:szq p<2^36):PX 270 [x,J5u [.num p]] (J1z (.ok (.num (-p)))):=by
 refine PZ Tryz.func270 rfl ?_;have h1:=JJo p h;have h2:=J1u (-p);generalize -p=r at *;unfold encF encQ at h1 h2;refine kWS ?_;intros;refine J00 [] _ c146 h1 ?_;refine kWS ?_;intros;refine J00 [] _ c189 h2 ?_;refine kWS ?_;intros;exact .of rfl
def J5X (k:Nat)(r:Rat)(hk:J05 Tryz.prog k)(h1:PX k [encF p,encF q] (encF r)):PX 328 [x,J5u [.num p,.num q],.ep (.fn (.func k) [] []) 0] (J1z (.ok (.num r))):=by
 refine PZ Tryz.func328 rfl ?_;have h2:=J1u r;unfold encF encQ at h1 h2;refine kWS ?_;intros;refine CallG.intro _ hk h1 ?_;refine kWS ?_;intros;refine CallG.intro _ c189 h2 ?_;refine kWS ?_;intros;exact .of rfl
def divV (p q:Rat):Except Int Vl:=if q=0 then .error 12 else .ok (.num (p/q))
def sgn0 (z:Int):sgn z=0↔z=0:=by
 unfold sgn;split
 ·simp[*]
 split<;>omega
def JMp (h:szq p+szq q<2^36):PX 272 [x,J5u [.num p,.num q]] (J1z (divV p q)):=by
 refine PZ Tryz.func272 rfl ?_;have hs:=J5L q.num q.den;generalize hF:divV p q=F;unfold divV at hF
 by_cases h0:q=0
 ·rw[if_pos h0] at hF;have e0:sgn q.num=0:=(sgn0 _).2 (Q2K.2 h0);rw[e0] at hs;unfold encQ at hs;refine kWS ?_;intros;refine CallP.flat [] _ c111 hs rfl ?_;refine kWS ?_;intros;exact .of (by rw[← hF];rfl)
 rw[if_neg h0] at hF;have e0:¬ sgn q.num=0:=mt (sgn0 _).1 (JES h0);have h1:=JK0 p q h h0;have h2:=J1u (p/q);generalize p/q=r at *;unfold encF encQ at *;refine kWS ?_;intros;refine CallP.flat [] _ c111 hs rfl ?_;refine kWS ?_;intros;refine CallG.intro _ c149 h1 ?_;refine kWS ?_;intros;refine CallG.intro _ c189 h2 ?_;refine kWS ?_;intros;exact .of (by rw[← hF];rfl)
def JKP (k:Nat)(f:Int→Bool)(hk:J05 Tryz.prog k)(h1:∀ i:Int,PX k [encI i] (encB (f i)))(h:szq p+szq q+1<2^36) :
  PX 329 [x,J5u [.num p,.num q],.ep (.fn (.func k) [] []) 0] (J1z (.ok (.tr (f (sgn (p-q).num))))):=by
 refine PZ Tryz.func329 rfl ?_;have h0:=JK1 p q h;generalize sgn (p-q).num=i at *;have h1:=h1 i;have h2:=J2G (f i);unfold encF encQ at h0;refine kWS ?_;intros;refine CallG.intro _ c330 h0 ?_;refine kWS ?_;intros;refine CallG.intro _ hk h1 ?_;refine kWS ?_;intros;refine CallG.intro _ c194 h2 ?_;refine kWS ?_;intros;exact .of rfl
def JKM (i:Int):PX 274 [encI i] (encB (decide (i<0))):=by
 refine PZ Tryz.func274 rfl ?_;refine kWS ?_;intros;exact .of rfl
def JFO (i:Int):PX 275 [encI i] (encB (decide (i≤0))):=by
 refine PZ Tryz.func275 rfl ?_;refine kWS ?_;intros;exact .of rfl
def JKL (i:Int):PX 276 [encI i] (encB (decide (i>0))):=by
 refine PZ Tryz.func276 rfl ?_;refine kWS ?_;intros;exact .of rfl
def JCx (i:Int):PX 277 [encI i] (encB (decide (i≥0))):=by
 refine PZ Tryz.func277 rfl ?_;refine kWS ?_;intros;exact .of rfl
def JGx (ht:a.type=b.type)(h:a.sz+b.sz+1<2^36):PX 278 [x,J5u [a,b]] (J1z (.ok (.tr (sameV a b)))):=by
 refine PZ Tryz.func278 rfl ?_;have h1:=JF5 a b ht h;have h2:=J2G (sameV a b);generalize sameV a b=r at *
 rcases a with p|c<;>rcases b with q|d
 all_goals
  unfold J07 J16 encF encQ at h1;refine kWS ?_;intros;refine CallG.intro _ c279 h1 ?_;refine kWS ?_;intros;refine CallG.intro _ c194 h2 ?_;refine kWS ?_;intros;exact .of rfl
def JCw (ht:a.type=b.type)(h:a.sz+b.sz+1<2^36):PX 280 [x,J5u [a,b]] (J1z (.ok (.tr (!sameV a b)))):=by
 refine PZ Tryz.func280 rfl ?_;have h1:=JF5 a b ht h;have h2:=J2G (!sameV a b);generalize sameV a b=r at *
 rcases a with p|c<;>rcases b with q|d
 all_goals
  unfold J07 J16 encF encQ at h1;refine kWS ?_;intros;refine CallG.intro _ c279 h1 ?_;refine kWS ?_;intros;refine CallG.intro _ c194 h2 ?_;refine kWS ?_;intros;exact .of rfl
def JMn:PX 281 [x,J5u [.tr c]] (J1z (.ok (.tr (!c)))):=by
 refine PZ Tryz.func281 rfl ?_;have h2:=J2G (!c);refine kWS ?_;intros;refine J00 [] _ c194 h2 ?_;refine kWS ?_;intros;exact .of rfl
end
def fnA (k:Nat):AV:=.fn (.func k) [] []
def fnC (k:Nat)(x:AV):AV:=.fn (.func k) [] [.ep x 0]
def wayT:List (ByteArray×AV):=[
 (⟨#[116,114,117,101]⟩,fnC 265 (J07 (.tr true))),(⟨#[102,97,108,115,101]⟩,fnC 265 (J07 (.tr false))),(⟨#[116,105,109,101]⟩,fnA 266),
 (⟨#[105,110,105,116,105,97,108]⟩,fnA 267),(⟨#[115,97,109,112,108,101]⟩,fnA 268),(⟨#[110,101,103]⟩,fnA 270),
 (⟨#[97,100,100]⟩,fnC 328 (fnA 79)),(⟨#[115,117,98]⟩,fnC 328 (fnA 80)),(⟨#[109,117,108]⟩,fnC 328 (fnA 186)),(⟨#[100,105,118]⟩,fnA 272),
 (⟨#[108,101,115,115]⟩,fnC 329 (fnA 274)),(⟨#[97,116,109,111,115,116]⟩,fnC 329 (fnA 275)),(⟨#[109,111,114,101]⟩,fnC 329 (fnA 276)),(⟨#[97,116,108,101,97,115,116]⟩,fnC 329 (fnA 277)),
 (⟨#[101,113,117,97,108]⟩,fnA 278),(⟨#[117,110,101,113,117,97,108]⟩,fnA 280),(⟨#[110,111,116]⟩,fnA 281)]
def wayM:AV:=.mp (wayT.map fun x=>encS x.1) (wayT.map fun x=>x.2)
def JD5 {S:List Nat}{H:Hp}{n b g k e m:Nat}{f:Fn}{y:AV}(hS:b∈S)(hb:H b=some (g,⟨e,m,[y]⟩)):J08 S H (n+2) (.fn f [] [.op b g 0 k])=.fn f [] [.ep (J0U (J08 S H n) y) k]:=by
 simp only[J08,Q0H,QK,if_pos hS,hb,true_and];rfl
def JKH (v:Vl):PX 264 [J07 v] (fnC 265 (J07 v)):=by
 refine PC [1] Tryz.func264 rfl (by rfl) rfl ?_
 rcases v with q|b
 all_goals
  unfold J07 J16
  try unfold encF encQ
  refine kWS ?_;intros;refine .of ?_;show J08 [1] _ 3 (.fn _ [] [.op 1 _ 0 0])=_
  rw[JD5 (b:=1) (by simp) rfl];rfl
def JHv (k:Nat):PX 271 [fnA k] (fnC 328 (fnA k)):=by
 refine PC [1] Tryz.func271 rfl (by rfl) rfl ?_;unfold fnA;refine kWS ?_;intros;refine .of ?_;show J08 [1] _ 3 (.fn _ [] [.op 1 _ 0 0])=_
 rw[JD5 (b:=1) (by simp) rfl];rfl
def JDZ (k:Nat):PX 273 [fnA k] (fnC 329 (fnA k)):=by
 refine PC [1] Tryz.func273 rfl (by rfl) rfl ?_;unfold fnA;refine kWS ?_;intros;refine .of ?_;show J08 [1] _ 3 (.fn _ [] [.op 1 _ 0 0])=_
 rw[JD5 (b:=1) (by simp) rfl];rfl
def JMk:PX 187 [] wayM:=by
 refine PC [2] Tryz.func187 rfl (by rfl) rfl ?_;refine kWS ?_;intros
 repeat ((first
  |refine J00 [] _ c194 (J2G _) ?_
  |refine J00 [] _ c264 (JKH (.tr _)) ?_
  |refine J00 [] _ c271 (JHv _) ?_
  |refine J00 [] _ c273 (JDZ _) ?_
  |refine Need.intro keyst9 ?_
  |refine LookP.intro none (by rfl) ?_);refine kW ?_;refine kS ?_;intros)
 exact .of rfl
def J1W {β:Type}(l:List (U×β))(u:U):Option β:=match l with
 |[]=>none
 |x::r=>if u=x.1 then some x.2 else J1W r u
theorem JEW {β:Type}(f:β→AV)(u:U):∀ l:List (U×β),∃ r,J1E (J13 T 54 (encU u)) (l.map fun x=>encU x.1)=some r∧match r,J1W l u with
  |none,none=>True
  |some i,some b=>(l.map fun x=>f x.2).getD i .dead=f b
  |_,_=>False
 |[]=>⟨none,rfl,trivial⟩
 |x :: l=>by
   obtain ⟨r,h1,h2⟩:=JEW f u l;rw[QK];unfold J1E J1W;rw[J7X]
   by_cases h:u=x.1
   ·rw[Q2 h,if_pos h];exact ⟨some 0,rfl,rfl⟩
   rw[Q1 h,if_neg h,h1];refine ⟨r.map (· + 1),rfl,?_⟩
   revert h2
   cases r<;>cases J1W l u<;>intro h2<;>first|trivial|exact h2
def J9p (ks:List (ByteArray×Va))(n:ByteArray):Int:=match J11 ks n with
 |some v=>v.type
 |none=>0
def J21 (ks:List (ByteArray×Va))(ev:Ev)(u:U):Except Int Vl:=match J1W ev.vals u with
 |none=>.error 5
 |some v=>if v.type≠J9p ks u.name then .error 7 else .ok v
def JJZ (v:Vl):PX 282 [J07 v] (encI v.type):=by
 cases v with
 |num q=>exact J6i (encF q) false false (.inr ⟨_,_,rfl⟩)
 |tr b=>exact J6i nilQ b true (.inl rfl)
def JM3 (ks:List (ByteArray×Va))(ev:Ev)(u:U):PX 190 [encK ks,J1L ev,encU u] (J1z (J21 ks ev u)):=by
 refine PZ Tryz.func190 rfl ?_;generalize hF:J21 ks ev u=F;unfold J21 at hF;obtain ⟨r,hr,hm⟩:=JEW J07 u ev.vals;refine kWS ?_;intros;refine Need.intro keyst54 ?_;refine kW ?_;refine LookP.intro r hr ?_
 cases ha:J1W ev.vals u with
 |none=>
   rw[ha] at hm hF
   cases r with
   |some i=>exact hm.elim
   |none=>
     refine kWS ?_;intros;exact .of (by rw[← hF];rfl)
 |some v=>
   rw[ha] at hm hF
   cases r with
   |none=>exact hm.elim
   |some i=>
     have hm:(ev.vals.map fun x=>J07 x.2).getD i .dead=J07 v:=hm;have hT:=JJZ v;obtain ⟨r2,hr2,hm2⟩:=J27 encV u.name ks;replace hF:(if v.type≠J9p ks u.name then (.error 7:Except Int Vl) else .ok v)=F:=hF;unfold J9p at hF
     rcases v with q|b
     all_goals
      unfold J07 J16 at hT
      try unfold encF encQ at hT
      refine kW ?_;rw[hm];refine kWS ?_;intros;refine CallG.intro _ c282 hT ?_;refine kWS ?_;intros;refine Need.intro keyst9 ?_;refine kW ?_;refine LookP.intro r2 hr2 ?_
      cases ha2:J11 ks u.name with
      |none=>
        rw[ha2] at hm2 hF
        cases r2 with
        |some i=>exact hm2.elim
        |none=>
          refine kWS ?_;intros;exact .of (by rw[← hF];rfl)
      |some w=>
        rw[ha2] at hm2 hF
        cases r2 with
        |none=>exact hm2.elim
        |some i=>
          have hm2:(ks.map fun x=>encV x.2).getD i .dead=encV w:=hm2;refine kW ?_;rw[hm2];refine kWS ?_;intros;refine CondP.dec (fun c0=>?_) (fun c0=>?_)<;>refine kW ?_
          ·rw[if_neg (fun h=>h c0)] at hF;refine kS ?_;intros;exact .of (by rw[← hF];rfl)
          rw[if_pos c0] at hF;refine kS ?_;intros;exact .of (by rw[← hF];rfl)
def J2v (o:ByteArray)(t:Bool):Option Nat:=if o=oIf then (if t then some 1 else some 2) else if decide (o=oAnd)=t then some 1 else none
def nilE:AV:=.agg [encS ⟨#[]⟩,encS ⟨#[]⟩,encI 0,.val (.slice none 0 0)]
def JOK (x:Ex)(t:Bool)(hk:∀ i,J2v x.op t=some i→i<x.kids.length):PX 147 [encE x,encB t] (match J2v x.op t with
  |some i=>.tup [(x.kids.map encE).getD i .dead,encB true]
  |none=>.tup [nilE,encB false]):=by
 refine PZ Tryz.func147 rfl ?_;rw[J02];generalize x.op=o at *;generalize x.kids=es at *;unfold J2v at *
 have key:∀ i,i<es.length→∃ k:Ex,(es.map encE).getD i .dead=.agg [encS k.op,encS k.text,encI k.order,.sl 4 (k.kids.map encE)]:=by
  intro i hi;have h:(es.map encE).getD i .dead=encE es[i]:=by rw[Q4,Ql,Q8 hi];rfl
  exact ⟨_,h.trans (J02 _)⟩
 refine kWS ?_;intros;refine CondP.dec (fun h1=>?_) (fun h1=>?_)<;>refine kW ?_
 ·rw[if_pos h1] at hk ⊢;cases t
  ·rw[if_neg (by decide)] at hk ⊢;have hk:=hk 2 rfl;obtain ⟨k,hg⟩:=key 2 hk;refine kS ?_;intros;rw[show (es.map encE).getD (Int.toNat 2) .dead=.agg [encS k.op,encS k.text,encI k.order,.sl 4 (k.kids.map encE)] from hg];refine kWS ?_;intros;exact .of (QC (fun z=>AV.tup [z,encB true]) hg.symm)
  rw[if_pos rfl] at hk ⊢;have hk:=hk 1 rfl;obtain ⟨k,hg⟩:=key 1 hk;refine kS ?_;intros;rw[show (es.map encE).getD (Int.toNat 1) .dead=.agg [encS k.op,encS k.text,encI k.order,.sl 4 (k.kids.map encE)] from hg];refine kWS ?_;intros;exact .of (QC (fun z=>AV.tup [z,encB true]) hg.symm)
 rw[if_neg h1] at hk ⊢;refine kS ?_;intros
 by_cases h2:o=oAnd
 ·rw[Q2 h2] at hk ⊢;cases t
  ·rw[if_neg (by decide)] at hk ⊢;refine JAx rfl ?_;refine kWS ?_;intros;exact .of rfl
  rw[if_pos rfl] at hk ⊢;have hk:=hk 1 rfl;obtain ⟨k,hg⟩:=key 1 hk;refine JAw rfl ?_;refine kWS ?_;intros;rw[show (es.map encE).getD (Int.toNat 1) .dead=.agg [encS k.op,encS k.text,encI k.order,.sl 4 (k.kids.map encE)] from hg];refine kWS ?_;intros;exact .of (QC (fun z=>AV.tup [z,encB true]) hg.symm)
 rw[Q1 h2] at hk ⊢;cases t
 ·rw[if_pos rfl] at hk ⊢;have hk:=hk 1 rfl;obtain ⟨k,hg⟩:=key 1 hk;refine JAw rfl ?_;refine kWS ?_;intros;rw[show (es.map encE).getD (Int.toNat 1) .dead=.agg [encS k.op,encS k.text,encI k.order,.sl 4 (k.kids.map encE)] from hg];refine kWS ?_;intros;exact .of (QC (fun z=>AV.tup [z,encB true]) hg.symm)
 rw[if_neg (by decide)] at hk ⊢;refine JAx rfl ?_;refine kWS ?_;intros;exact .of rfl
def Vl.truth:Vl→Bool
 |.tr b=>b
 |.num _=>false
def numV (t:ByteArray):Rat:=match (J06 t.data.toList).1 with
 |some (n,d)=>Rat.divInt n d
 |none=>0
def wayF (ev:Ev)(o:ByteArray)(vs:List Vl):Except Int Vl:=
 if o=oTrue then .ok (.tr true) else if o=oFalse then .ok (.tr false) else if o=oTime then .ok (.num ev.time) else if o=oInit then .ok (.tr ev.init) else match vs with
 |[.num p]=>.ok (.num (-p))
 |[.tr c]=>.ok (.tr (!c))
 |[.num p,.num q]=>
   if o=oSample then .ok (.tr (multF (ev.time-p) q)) else if o=oAdd then .ok (.num (p+q)) else if o=oSub then .ok (.num (p-q)) else if o=oMul then .ok (.num (p*q)) else if o=oDiv then divV p q
   else if o=oLess then .ok (.tr (decide (p<q))) else if o=oAtMost then .ok (.tr (decide (p≤q))) else if o=oMore then .ok (.tr (decide (q<p))) else if o=oAtLeast then .ok (.tr (decide (q≤p)))
   else if o=oEq then .ok (.tr (sameV (.num p) (.num q))) else .ok (.tr (!sameV (.num p) (.num q)))
 |[.tr a,.tr b]=>if o=oEq then .ok (.tr (sameV (.tr a) (.tr b))) else .ok (.tr (!sameV (.tr a) (.tr b)))
 |_=>.error 0
def JKI (o:ByteArray)(vs:List Vl):Prop:=
 (o=oTrue∨o=oFalse∨o=oTime∨o=oInit)∨(o=oSample∧∃ p q,vs=[.num p,.num q]∧q≠0)∨(o=oNeg∧∃ p,vs=[.num p])∨(o=oNot∧∃ c,vs=[.tr c]) ∨
   ((o=oAdd∨o=oSub∨o=oMul∨o=oDiv∨o=oLess∨o=oAtMost∨o=oMore∨o=oAtLeast)∧∃ p q,vs=[.num p,.num q])∨((o=oEq∨o=oNe)∧∃ a b:Vl,vs=[a,b]∧a.type=b.type)
def szs:List Vl→Nat
 |[]=>0
 |v::l=>v.sz+szs l
def JMJ (p q:Rat):(p-q).num<0↔p<q:=by
 have h1:(p-q).num<0↔¬ 0≤(p-q).num:=by omega
 rw[h1,Rat.num_nonneg,← Rat.le_iff_sub_nonneg,Rat.not_le]
def JJ9 (p q:Rat):decide (sgn (p-q).num<0)=decide (p<q):=QS.2 ((J9w _).trans (JMJ p q))
def JJA (p q:Rat):decide (sgn (p-q).num≤0)=decide (p≤q):=by
 refine QS.2 ?_;have h1:=JMJ p q;have h2:=J9w (p-q).num;have h3:=J9v p q;rw[Rat.le_iff_lt_or_eq,← h1,← h2,← h3];omega
def JMQ (p q:Rat):decide (sgn (p-q).num>0)=decide (q<p):=by
 refine QS.2 ?_;have:=QS.1 (JJA p q);rw[← Rat.not_le,← this];omega
def JMR (p q:Rat):decide (sgn (p-q).num≥0)=decide (q≤p):=by
 refine QS.2 ?_;have:=QS.1 (JJ9 p q);rw[← Rat.not_lt,← this];omega
def Way (ev:Ev)(o:ByteArray)(vs:List Vl):Prop:=∃ k cap,J11 wayT o=some (.fn (.func k) [] cap)∧(cap=[]∨∃ x,cap=[.ep x 0])∧J05 Tryz.prog k∧PX k ([J1L ev,J5u vs]++cap) (J1z (wayF ev o vs))
def JOY (ev:Ev)(o:ByteArray)(vs:List Vl)(h:JKI o vs)(hz:szq ev.time+szs vs+1<2^36):Way ev o vs:=by
 rcases h with h|⟨rfl,p,q,rfl,h0⟩|⟨rfl,p,rfl⟩|⟨rfl,c,rfl⟩|⟨h,p,q,rfl⟩|⟨h,a,b,rfl,hab⟩
 ·rcases h with rfl | rfl | rfl | rfl
  ·exact ⟨_,_,(by kernel_rfl),(by first|exact .inl rfl|exact .inr ⟨_,rfl⟩),c265,JB0 (J1L ev) vs (.tr true)⟩
  ·exact ⟨_,_,(by kernel_rfl),(by first|exact .inl rfl|exact .inr ⟨_,rfl⟩),c265,JB0 (J1L ev) vs (.tr false)⟩
  ·exact ⟨_,_,(by kernel_rfl),(by first|exact .inl rfl|exact .inr ⟨_,rfl⟩),c266,JKK vs ev⟩
  exact ⟨_,_,(by kernel_rfl),(by first|exact .inl rfl|exact .inr ⟨_,rfl⟩),c267,JKN vs ev⟩
 ·simp only[szs,Vl.sz] at hz;exact ⟨_,_,(by kernel_rfl),(by first|exact .inl rfl|exact .inr ⟨_,rfl⟩),c268,JFN p q ev (by omega) h0⟩
 ·simp only[szs,Vl.sz] at hz;exact ⟨_,_,(by kernel_rfl),(by first|exact .inl rfl|exact .inr ⟨_,rfl⟩),c270,JMo (J1L ev) p (by omega)⟩
 ·exact ⟨_,_,(by kernel_rfl),(by first|exact .inl rfl|exact .inr ⟨_,rfl⟩),c281,JMn (J1L ev) c⟩
 ·simp only[szs,Vl.sz] at hz;have hc:=fun k f hk h1=>JKP (J1L ev) p q k f hk h1 (by omega)
  rcases h with rfl|rfl|rfl|rfl|rfl|rfl|rfl|rfl
  ·exact ⟨_,_,(by kernel_rfl),(by first|exact .inl rfl|exact .inr ⟨_,rfl⟩),c328,J5X (J1L ev) p q _ _ c79 (JK5 p q (by omega))⟩
  ·exact ⟨_,_,(by kernel_rfl),(by first|exact .inl rfl|exact .inr ⟨_,rfl⟩),c328,J5X (J1L ev) p q _ _ c80 (JAo p q (by omega))⟩
  ·exact ⟨_,_,(by kernel_rfl),(by first|exact .inl rfl|exact .inr ⟨_,rfl⟩),c328,J5X (J1L ev) p q _ _ c186 (JOL p q (by omega))⟩
  ·exact ⟨_,_,(by kernel_rfl),(by first|exact .inl rfl|exact .inr ⟨_,rfl⟩),c272,JMp (J1L ev) p q (by omega)⟩
  ·have:=hc _ _ c274 JKM;rw[JJ9] at this;exact ⟨_,_,(by kernel_rfl),(by first|exact .inl rfl|exact .inr ⟨_,rfl⟩),c329,this⟩
  ·have:=hc _ _ c275 JFO;rw[JJA] at this;exact ⟨_,_,(by kernel_rfl),(by first|exact .inl rfl|exact .inr ⟨_,rfl⟩),c329,this⟩
  ·have:=hc _ _ c276 JKL;rw[JMQ] at this;exact ⟨_,_,(by kernel_rfl),(by first|exact .inl rfl|exact .inr ⟨_,rfl⟩),c329,this⟩
  have:=hc _ _ c277 JCx;rw[JMR] at this;exact ⟨_,_,(by kernel_rfl),(by first|exact .inl rfl|exact .inr ⟨_,rfl⟩),c329,this⟩
 simp only[szs] at hz
 rcases h with rfl|rfl
 ·have:=JGx (J1L ev) a b hab (by omega);refine ⟨_,[],(by kernel_rfl),.inl rfl,c278,?_⟩
  rcases a with p|c<;>rcases b with q|d<;>first|exact this|cases hab
 have:=JCw (J1L ev) a b hab (by omega);refine ⟨_,[],(by kernel_rfl),.inl rfl,c280,?_⟩
 rcases a with p|c<;>rcases b with q|d<;>first|exact this|cases hab
def seqR:List (Except Int Vl)→Except Int (List Vl)
 |[]=>.ok []
 |.error c::_=>.error c
 |.ok v::r=>match seqR r with
   |.ok l=>.ok (v::l)
   |.error c=>.error c
def J7f (ks:List (ByteArray×Va))(ev:Ev)(o t:ByteArray)(n:Int)(rs:List (Except Int Vl)):Except Int Vl:=
 if o=oNum then .ok (.num (numV t))
 else if o=oVar∨o=oPre then J21 ks ev ⟨t,n,decide (o=oPre)⟩
 else if o=oIf∨o=oAnd∨o=oOr then match rs.getD 0 (.error 0) with
  |.error c=>.error c
  |.ok v=>match J2v o v.truth with
    |some i=>rs.getD i (.error 0)
    |none=>.ok v
 else match seqR rs with
  |.error c=>.error c
  |.ok vs=>wayF ev o vs
mutual
def evalF (ks:List (ByteArray×Va))(ev:Ev):Ex→Except Int Vl
 |.mk o t n es=>J7f ks ev o t n (JNj ks ev es)
def JNj (ks:List (ByteArray×Va))(ev:Ev):List Ex→List (Except Int Vl)
 |[]=>[]
 |e::es=>evalF ks ev e::JNj ks ev es
end
theorem JBl (ks:List (ByteArray×Va))(ev:Ev):∀ es:List Ex,JNj ks ev es=es.map (evalF ks ev)
 |[]=>rfl
 |e::es=>by rw[QK,← JBl ks ev es];rfl
def J29 (ks:List (ByteArray×Va))(ev:Ev)(e:Ex):evalF ks ev e=J7f ks ev e.op e.text e.order (e.kids.map (evalF ks ev)):=by
 cases e with
 |mk o t n es=>rw[← JBl];rfl
mutual
def wtF:Ex→Nat
 |.mk _ _ _ es=>wtL es+1
def wtL:List Ex→Nat
 |[]=>0
 |e::es=>wtF e+wtL es
end
def J6l (e:Ex):wtF e=wtL e.kids+1:=by cases e;rfl
theorem J9l:∀ {es:List Ex} {k:Ex},k∈es→wtF k≤wtL es
 |e::es,k,h=>by
   unfold wtL
   rcases QO.1 h with rfl|h
   ·omega
   have:=J9l h;omega
def JDt {e k:Ex}(h:k∈e.kids):wtF k<wtF e:=by rw[J6l e];have:=J9l h;omega
theorem JEb {f:Ex→Int→Int}(hf:∀ k l,f k l<0∨f k l≤l-wtF k):∀ (ks:List Ex) (l:Int),J2x f ks l<0∨J2x f ks l≤l-wtL ks
 |[],l=>by right;unfold J2x wtL;omega
 |k :: ks,l=>by
   unfold J2x wtL;split
   ·left;omega
   have:=hf k l;have:=JEb hf ks (f k l);omega
theorem JEU:∀ (d:Nat) (e:Ex) (l:Int),measF d e l<0∨measF d e l≤l-wtF e
 |0,e,l=>by left;unfold measF;omega
 |d + 1,e,l=>by
   rw[J6l];unfold measF;split
   ·left;omega
   have:=JEb (JEU d) e.kids (l-1);omega
def JOS (z:Int):zl z≤nd z:=by
 unfold zl nd;refine J0F hB9 ?_;have h1:z.natAbs<10 ^ (decT z.natAbs).length:=Go.Fw.decT_lt z.natAbs;exact QP h1 (Q2E (by decide) _)
def JKr {l:List UInt8}(h:(J06 l).2=true):∃ n d:Int,(J06 l).1=some (n,d)∧0<d∧n.natAbs.gcd d.natAbs=1∧nd n≤300∧nd d≤300:=by
 unfold J06 at *;split at h
 ·cases h
 rename_i n hn;split at h
 ·exact ⟨n,1,rfl,by decide,by simp,Qh h,JIl⟩
 split at h
 ·cases h
 rename_i d hd;split at h
 ·cases h
 rename_i h1;simp only[Q5,Qa] at h;refine ⟨n,d,by simp only[if_neg h1],by omega,h.2,h.1.1,h.1.2⟩
def J4A {t:ByteArray}(h:(J06 t.data.toList).2=true):encF (numV t)=qAV (J06 t.data.toList).1∧szq (numV t)≤300:=by
 obtain ⟨n,d,h1,h2,h3,h4,h5⟩:=JKr h;unfold numV;rw[h1];refine ⟨?_,?_⟩
 ·show encF (Rat.divInt n d)=encQ n d
  rw[J50 n d h2,h3];simp
 show szq (Rat.divInt n d)≤300
 have:=J3U n d (by omega);have:=JOS n;have:=JOS d;omega
def EvOk (ev:Ev):Prop:=szq ev.time≤300∧∀ x∈ev.vals,x.2.sz≤300
theorem J9b {β:Type}{u:U}{b:β}:∀ {l:List (U×β)},J1W l u=some b→∃ x∈l,x.2=b
 |[],h=>by cases h
 |x :: l,h=>by
   unfold J1W at h;split at h
   ·cases h;exact ⟨x,by simp,rfl⟩
   obtain ⟨y,hy,e⟩:=J9b h;exact ⟨y,by simp[hy],e⟩
def JLl {ks:List (ByteArray×Va)}{ev:Ev}(he:EvOk ev){u:U}{v:Vl}(h:J21 ks ev u=.ok v):v.sz≤300:=by
 unfold J21 at h;split at h
 ·cases h
 rename_i w hw;split at h
 ·cases h
 cases h;obtain ⟨x,hx,rfl⟩:=J9b hw;exact he.2 x hx
def JLk {ks:List (ByteArray×Va)}{ev:Ev}{u:U}{v:Vl}(h:J21 ks ev u=.ok v):v.type=J9p ks u.name:=by
 unfold J21 at h;split at h
 ·cases h
 split at h
 ·cases h
 rename_i h';cases h;exact Q2x.1 h'
theorem J9y:∀ {rs:List (Except Int Vl)} {vs:List Vl},seqR rs=.ok vs→rs=vs.map .ok
 |[],vs,h=>by cases h;rfl
 |.error c::r,vs,h=>by cases h
 |.ok v::r,vs,h=>by
   unfold seqR at h;split at h
   ·rename_i l hl;cases h;rw[J9y hl];rfl
   cases h
def J1v {c:Prop}[Decidable c]{a b:Except Int Vl}{M:Nat}(ha:∀ v,a=.ok v→v.sz≤M)(hb:∀ v,b=.ok v→v.sz≤M):∀ v,(if c then a else b)=.ok v→v.sz≤M:=by
 intro v h;split at h
 ·exact ha v h
 exact hb v h
def J5b {b:Bool}{M:Nat}:∀ v,(Except.ok (Vl.tr b):Except Int Vl)=.ok v→v.sz≤M:=fun v h=>by cases h;exact QG _
def J95 {q:Rat}{M:Nat}(hq:szq q≤M):∀ v,(Except.ok (Vl.num q):Except Int Vl)=.ok v→v.sz≤M:=fun v h=>by cases h;exact hq
def JBo {c:Int}{M:Nat}:∀ v,(Except.error c:Except Int Vl)=.ok v→v.sz≤M:=fun v h=>by cases h
def JMm {ev:Ev}{o:ByteArray}{vs:List Vl}(ht:szq ev.time≤300):∀ v,wayF ev o vs=.ok v→v.sz≤max 300 (szs vs+1):=by
 unfold wayF;refine J1v J5b (J1v J5b (J1v (J95 (by omega)) (J1v J5b ?_)))
 rcases vs with _|⟨a,_|⟨b,_|⟨c,l⟩⟩⟩
 ·exact JBo
 ·rcases a with p | x
  ·exact J95 (by rw[JD3];show szq p≤max 300 (szq p+0+1);omega)
  exact J5b
 ·rcases a with p | x<;>rcases b with q | y
  ·refine J1v J5b (J1v (J95 ?_) (J1v (J95 ?_) (J1v (J95 ?_) (J1v ?_ (J1v J5b (J1v J5b (J1v J5b (J1v J5b (J1v J5b J5b)))))))))
   ·have:=JHG p q;show _≤max 300 (szq p+(szq q+0)+1);omega
   ·have:=J9s p q;show _≤max 300 (szq p+(szq q+0)+1);omega
   ·have:=JN2 p q;show _≤max 300 (szq p+(szq q+0)+1);omega
   unfold divV;split
   ·exact JBo
   rename_i h0;refine J95 ?_;have:=JHF p q h0;show _≤max 300 (szq p+(szq q+0)+1);omega
  ·exact JBo
  ·exact JBo
  exact J1v J5b J5b
 rcases a with p|x<;>rcases b with q|y<;>exact JBo
theorem JHE {ks:List (ByteArray×Va)}{ev:Ev}:∀ {es:List Ex} {vs:List Vl},(∀ k∈es,∀ v,evalF ks ev k=.ok v→v.sz≤301*wtF k)→es.map (evalF ks ev)=vs.map .ok→szs vs≤301*wtL es
 |[],[],_,_=>QG _
 |[],v::vs,_,h=>by cases h
 |e::es,[],_,h=>by cases h
 |e::es,v::vs,hk,h=>by
   rw[QK,QK] at h
   injection h with h1 h2
   have a:=hk e (by simp) v h1;have b:=JHE (fun k h=>hk k (by simp[h])) h2;unfold szs wtL;omega
def J7c {ks:List (ByteArray×Va)}{ev:Ev}{es:List Ex}{i:Nat}{v:Vl}(h:(es.map (evalF ks ev)).getD i (.error 0)=.ok v):∃ k∈es,evalF ks ev k=.ok v:=by
 rw[Q4,Ql] at h
 cases hi:es[i]? with
 |none=>rw[hi] at h;cases h
 |some k=>
   rw[hi] at h;exact ⟨k,List.mem_of_getElem? hi,h⟩
def J2l {ks:List (ByteArray×Va)}{ev:Ev}(he:EvOk ev)(e:Ex):builtF e=true→∀ v,evalF ks ev e=.ok v→v.sz≤301*wtF e:=by
 induction e using J1i with
 |h e ih=>
   intro hb v h;have ihk:∀ k∈e.kids,∀ v,evalF ks ev k=.ok v→v.sz≤301*wtF k:=fun k hk=>ih k hk ((J0A hb).2 k hk);rw[J29] at h;unfold J7f at h;rw[J6l];split at h
   ·rename_i h1;cases h;have hx:textF e=true:=by rw[J0t] at hb;simp only[Q5] at hb;exact hb.1.1.2
    unfold textF at hx;rw[if_pos h1] at hx;simp only[Q5] at hx;have:=(J4A hx.1).2;show szq _≤_
    omega
   split at h
   ·have:=JLl he h;omega
   split at h
   ·split at h
    ·cases h
    rename_i w hw;split at h
    ·obtain ⟨k,hk,h⟩:=J7c h;have:=ihk k hk v h;have:=J9l hk;omega
    cases h;obtain ⟨k,hk,h⟩:=J7c hw;have:=ihk k hk _ h;have:=J9l hk;omega
   split at h
   ·cases h
   rename_i vs hvs;have:=JHE ihk (J9y hvs);have:=JMm he.1 v h;omega
def JMU {l:List (Int×Bool)}{t:Bool}(h:l.any (fun r=>!r.2||(decide (r.1=1) != t))=false):∀ r∈l,r.2=true∧decide (r.1=1)=t:=by
 intro r hr;have:=(Q0q.1 h) r hr;simp only[Q09,Qw,bne_iff_ne,not_or,Q2y,ne_eq,Q2x] at this;exact this
def J7D {t:ByteArray}(h:(J06 t.data.toList).2=true):∃ n d,readR t.data.toList=some (n,d)∧okR (n,d)∧numV t=Rat.divInt n d∧t.data.toList=(rT n d).map UInt8.ofNat:=by
 obtain ⟨h1,h2⟩:=J1t t.data.toList;rw[h1,Q31] at h;obtain ⟨⟨n,d⟩,hx⟩:=h;obtain ⟨h3,h4⟩:=J1Z hx;refine ⟨n,d,hx,h3,?_,h4⟩;unfold numV;rw[h2 _ hx]
def JO6 {s t:ByteArray}(h:s.data.toList=t.data.toList):s=t:=by
 apply Q1j;exact Q2a.1 h
def JBS {t:ByteArray}(h:(J06 t.data.toList).2=true)(h0:numV t=0):t=⟨#[48]⟩:=by
 obtain ⟨n,d,_,⟨hd,hg,_,_⟩,h2,h3⟩:=J7D h;rw[h2] at h0
 have hn:n=0:=by
  have h5:=(J2R n d (by have:0<d:=hd;omega)).1;rw[h0] at h5;have hg':n.natAbs.gcd (d:Int).natAbs=1:=hg;rw[hg'] at h5;have h6:(0:Rat).num=n/((1:Nat):Int):=h5;have h7:(0:Rat).num=0:=rfl;omega
 subst hn
 have hd1:d=1:=by
  have hg':Nat.gcd 0 d=1:=hg;rw[Nat.gcd_zero_left] at hg';exact hg'
 subst hd1;exact JO6 h3
theorem J8B {β:Type}{s:ByteArray}{b:β}:∀ {l:List (ByteArray×β)},J11 l s=some b→(s,b)∈l
 |[],h=>by cases h
 |x::l,h=>by
   unfold J11 at h;split at h
   ·rename_i e;cases h;subst e;exact Q0r
   exact Q02 _ (J8B h)
def ty01 (v:Vl):(v.type=0∧∃ q,v=.num q)∨(v.type=1∧∃ b,v=.tr b):=by
 cases v with
 |num q=>exact .inl ⟨rfl,q,rfl⟩
 |tr b=>exact .inr ⟨rfl,b,rfl⟩
def len2 {α:Type}{l:List α}(h:(l.length:Int)=2):∃ a b,l=[a,b]:=by
 match l,h with
 |[a,b],_=>exact ⟨a,b,rfl⟩
 |[],h=>simp at h
 |[_],h=>simp at h
 |_::_::_::_,h=>simp at h;omega
def len1 {α:Type}{l:List α}(h:(l.length:Int)=1):∃ a,l=[a]:=by
 match l,h with
 |[a],_=>exact ⟨a,rfl⟩
 |[],h=>simp at h
 |_::_::_,h=>simp at h;omega
def JOq {α:Type}{l:List α}(h:(l.length:Int)=3):∃ a b c,l=[a,b,c]:=by
 match l,h with
 |[a,b,c],_=>exact ⟨a,b,c,rfl⟩
 |[],h=>simp at h
 |[_],h=>simp at h
 |[_,_],h=>simp at h
 |_::_::_::_::_,h=>simp at h;omega
def JHV {o:ByteArray}{x:Int×Bool×Bool}(h:J11 shp o=some x):(o=oNum)∨((o=oAnd∨o=oOr)∧x=(2,true,true))∨(o=oTime∧x=(0,false,false))∨((o=oTrue∨o=oFalse∨o=oInit)∧x=(0,false,true)) ∨
  (o=oNeg∧x=(1,false,false))∨(o=oNot∧x=(1,true,true))∨(o=oSample∧x=(2,false,true))∨((o=oAdd∨o=oSub∨o=oMul∨o=oDiv)∧x=(2,false,false))∨((o=oLess∨o=oAtMost∨o=oMore∨o=oAtLeast)∧x=(2,false,true)):=by
 have:=J8B h;simp only[shp,QO,Q2b,QZ,or_false] at this
 rcases this with ⟨rfl,rfl,rfl,rfl⟩|⟨rfl,rfl,rfl,rfl⟩|⟨rfl,rfl,rfl,rfl⟩|⟨rfl,rfl,rfl,rfl⟩|⟨rfl,rfl,rfl,rfl⟩|⟨rfl,rfl,rfl,rfl⟩|⟨rfl,rfl,rfl,rfl⟩|⟨rfl,rfl,rfl,rfl⟩|⟨rfl,rfl,rfl,rfl⟩|⟨rfl,rfl,rfl,rfl⟩|⟨rfl,rfl,rfl,rfl⟩|⟨rfl,rfl,rfl,rfl⟩|⟨rfl,rfl,rfl,rfl⟩|⟨rfl,rfl,rfl,rfl⟩|⟨rfl,rfl,rfl,rfl⟩|⟨rfl,rfl,rfl,rfl⟩|⟨rfl,rfl,rfl,rfl⟩|⟨rfl,rfl,rfl,rfl⟩
 all_goals simp
def J17 {ks:List (ByteArray×Va)}{e:Ex}(hb:builtF e=true)(ht:(typeF ks e).2=true):∀ k∈e.kids,(typeF ks k).2=true:=by
 have hl:=(J0A hb).1;rw[J6P] at ht;unfold J4Q at ht;intro k hk;split at ht
 ·rename_i h;rw[show J0d e.op=0 by unfold J0d;rw[if_pos h]] at hl;have hnil:e.kids=[]:=Qn (by omega);rw[hnil] at hk;cases hk
 rename_i h0;split at ht
 ·rename_i h;rw[show J0d e.op=2 by unfold J0d;rw[if_neg h0,if_pos h]] at hl;obtain ⟨a,b,he⟩:=len2 hl;rw[he] at hk ht;have ht:((typeF ks a).2&&(typeF ks b).2&&decide ((typeF ks a).1=(typeF ks b).1))=true:=ht;simp only[Q5] at ht;simp only[QO,QZ,or_false] at hk
  rcases hk with rfl|rfl
  ·exact ht.1.1
  exact ht.1.2
 rename_i h1;split at ht
 ·rename_i h;rw[show J0d e.op=3 by unfold J0d;rw[if_neg h0,if_neg h1,if_pos h]] at hl;obtain ⟨a,b,c,he⟩:=JOq hl;rw[he] at hk ht;have ht:((typeF ks a).2&&((typeF ks b).2&&(typeF ks c).2&&decide ((typeF ks b).1=(typeF ks c).1))&&decide ((typeF ks a).1=1))=true:=ht;simp only[Q5] at ht;simp only[QO,QZ,or_false] at hk
  rcases hk with rfl|rfl|rfl
  ·exact ht.1.1
  ·exact ht.1.2.1.1
  exact ht.1.2.1.2
 split at ht
 ·cases ht
 rename_i h;have h:=Q23.2 h;exact (JMU h _ (Qs.2 ⟨k,hk,rfl⟩)).1
inductive Shape (ks:List (ByteArray×Va)) (e:Ex):Prop where
 |num (h:e.op=oNum) (hk:e.kids=[]) (ht:(typeF ks e).1=0)
 |ref (h:e.op=oVar∨e.op=oPre) (hk:e.kids=[]) (v:Va) (hv:J11 ks e.text=some v) (ht:(typeF ks e).1=v.type)
 |ite (h:e.op=oIf) (a b c:Ex) (hk:e.kids=[a,b,c]) (ha:(typeF ks a).1=1) (hb:(typeF ks b).1=(typeF ks e).1) (hc:(typeF ks c).1=(typeF ks e).1)
 |bin (h:e.op=oAnd∨e.op=oOr) (a b:Ex) (hk:e.kids=[a,b]) (ha:(typeF ks a).1=1) (hb:(typeF ks b).1=1) (ht:(typeF ks e).1=1)
 |eq (h:e.op=oEq∨e.op=oNe) (a b:Ex) (hk:e.kids=[a,b]) (hab:(typeF ks a).1=(typeF ks b).1) (ht:(typeF ks e).1=1)
 |time (h:e.op=oTime) (hk:e.kids=[]) (ht:(typeF ks e).1=0)
 |const (h:e.op=oTrue∨e.op=oFalse∨e.op=oInit) (hk:e.kids=[]) (ht:(typeF ks e).1=1)
 |neg (h:e.op=oNeg) (a:Ex) (hk:e.kids=[a]) (ha:(typeF ks a).1≠1) (ht:(typeF ks e).1=0)
 |not (h:e.op=oNot) (a:Ex) (hk:e.kids=[a]) (ha:(typeF ks a).1=1) (ht:(typeF ks e).1=1)
 |sample (h:e.op=oSample) (a b:Ex) (hk:e.kids=[a,b]) (ha:a.op=oNum) (hb:b.op=oNum) (h0:b.text≠⟨#[48]⟩) (ht:(typeF ks e).1=1)
 |arith (h:e.op=oAdd∨e.op=oSub∨e.op=oMul∨e.op=oDiv) (a b:Ex) (hk:e.kids=[a,b]) (ha:(typeF ks a).1≠1) (hb:(typeF ks b).1≠1) (ht:(typeF ks e).1=0)
 |comp (h:e.op=oLess∨e.op=oAtMost∨e.op=oMore∨e.op=oAtLeast) (a b:Ex) (hk:e.kids=[a,b]) (ha:(typeF ks a).1≠1) (hb:(typeF ks b).1≠1) (ht:(typeF ks e).1=1)
def nil0 {α:Type}{l:List α}(h:(l.length:Int)=0):l=[]:=Qn (by omega)
def J6Q {ks:List (ByteArray×Va)}{e:Ex}(hb:builtF e=true)(ht:(typeF ks e).2=true):Shape ks e:=by
 have hl:=(J0A hb).1
 have hsm:J2D e.op e.kids (e.kids.map builtF)=false:=by
  rw[J0t] at hb;simp only[Q5,Qw] at hb;exact hb.1.2
 have htt:=J6P ks e;rw[htt] at ht;unfold J4Q at ht htt;split at ht
 ·rename_i h;rw[if_pos h] at htt;rw[show J0d e.op=0 by unfold J0d;rw[if_pos h]] at hl
  cases ha:J11 ks e.text with
  |none=>rw[ha] at ht;cases ht
  |some v=>
    rw[ha] at htt;exact .ref h (nil0 hl) v ha (by rw[htt])
 rename_i h0;rw[if_neg h0] at htt;split at ht
 ·rename_i h;rw[if_pos h] at htt;rw[show J0d e.op=2 by unfold J0d;rw[if_neg h0,if_pos h]] at hl;obtain ⟨a,b,he⟩:=len2 hl;rw[he] at ht;have ht:((typeF ks a).2&&(typeF ks b).2&&decide ((typeF ks a).1=(typeF ks b).1))=true:=ht;simp only[Q5,Qa] at ht;exact .eq h a b he ht.2 (by rw[htt])
 rename_i h1;rw[if_neg h1] at htt;split at ht
 ·rename_i h;rw[if_pos h] at htt;rw[show J0d e.op=3 by unfold J0d;rw[if_neg h0,if_neg h1,if_pos h]] at hl;obtain ⟨a,b,c,he⟩:=JOq hl;rw[he] at ht htt;have ht:((typeF ks a).2&&((typeF ks b).2&&(typeF ks c).2&&decide ((typeF ks b).1=(typeF ks c).1))&&decide ((typeF ks a).1=1))=true:=ht;simp only[Q5,Qa] at ht;have h5:(typeF ks e).1=(typeF ks b).1:=by rw[htt];rfl
  exact .ite h a b c he ht.2 h5.symm (by rw[h5];exact ht.1.2.2.symm)
 rename_i h2;rw[if_neg h2] at htt;split at ht
 ·cases ht
 rename_i h3;rw[if_neg h3] at htt;have h3:=JMU (Q23.2 h3)
 have hkk:J0d e.op=match J11 shp e.op with|none=>-1|some x=>x.1:=by unfold J0d;rw[if_neg h0,if_neg h1,if_neg h2];try rfl
 cases hs:J11 shp e.op with
 |none=>rw[hs] at hkk;rw[hkk] at hl;simp only at hl;omega
 |some x=>
   rw[hs] at hkk;have hx:shpD e.op=x:=by unfold shpD;rw[hs]
   rw[hx] at h3 htt;replace hkk:(e.kids.length:Int)=x.1:=by rw[hl,hkk]
   have ht1:(typeF ks e).1=if x.2.2 then 1 else 0:=by rw[htt]
   have hkt:∀ k∈e.kids,decide ((typeF ks k).1=1)=x.2.1:=fun k hk=>(h3 _ (Qs.2 ⟨k,hk,rfl⟩)).2
   rcases JHV hs with h|⟨h,rfl⟩|⟨h,rfl⟩|⟨h,rfl⟩|⟨h,rfl⟩|⟨h,rfl⟩|⟨h,rfl⟩|⟨h,rfl⟩|⟨h,rfl⟩
   ·have hn:x=(0,false,false):=by
     rw[h] at hs;exact (Q0g (hs.symm.trans (by rfl:J11 shp oNum=some (0,false,false))))
    subst hn;exact .num h (nil0 hkk) ht1
   ·obtain ⟨a,b,he⟩:=len2 hkk;rw[he] at hkt;exact .bin h a b he (Qh (hkt a (by simp))) (Qh (hkt b (by simp))) ht1
   ·exact .time h (nil0 hkk) ht1
   ·exact .const h (nil0 hkk) ht1
   ·obtain ⟨a,he⟩:=len1 hkk;rw[he] at hkt;exact .neg h a he (Q0d (hkt a (by simp))) ht1
   ·obtain ⟨a,he⟩:=len1 hkk;rw[he] at hkt;exact .not h a he (Qh (hkt a (by simp))) ht1
   ·obtain ⟨a,b,he⟩:=len2 hkk;rw[he] at hkt hsm;unfold J2D at hsm;rw[Q2 h,QB] at hsm;simp only[QK,Q04,Q1w,Qa,Qe] at hsm;exact .sample h a b he hsm.1.1.1.1 hsm.1.1.1.2 hsm.2 ht1
   ·obtain ⟨a,b,he⟩:=len2 hkk;rw[he] at hkt;exact .arith h a b he (Q0d (hkt a (by simp))) (Q0d (hkt b (by simp))) ht1
   obtain ⟨a,b,he⟩:=len2 hkk;rw[he] at hkt;exact .comp h a b he (Q0d (hkt a (by simp))) (Q0d (hkt b (by simp))) ht1
def IsOp (o:ByteArray):Prop:=o≠oNum∧¬(o=oVar∨o=oPre)∧¬(o=oIf∨o=oAnd∨o=oOr)
def J4r {o:ByteArray}(h:o∈[oEq,oNe,oTime,oTrue,oFalse,oInit,oNeg,oNot,oSample,oAdd,oSub,oMul,oDiv,oLess,oAtMost,oMore,oAtLeast]):IsOp o:=by
 have:(([oEq,oNe,oTime,oTrue,oFalse,oInit,oNeg,oNot,oSample,oAdd,oSub,oMul,oDiv,oLess,oAtMost,oMore,oAtLeast]:List ByteArray).all fun o=>!decide (o=oNum)&&!(decide (o=oVar)||decide (o=oPre))&&!(decide (o=oIf)||decide (o=oAnd)||decide (o=oOr)))=true:=by kernel_rfl
 have:=QL.1 this o h;simp only[Q5,Qw,Q04,Qe] at this;exact ⟨this.1.1,by rintro (h|h);exact this.1.2.1 h;exact this.1.2.2 h,by rintro (h|h|h);exact this.2.1.1 h;exact this.2.1.2 h;exact this.2.2 h⟩
def J4B {o:ByteArray}(h:o=oIf∨o=oAnd∨o=oOr):o≠oNum∧¬(o=oVar∨o=oPre):=by rcases h with rfl|rfl|rfl<;>exact ⟨by decide,by decide⟩
section
variable {ks:List (ByteArray×Va)} {ev:Ev} {o t:ByteArray} {n:Int} {rs:List (Except Int Vl)}
def J1x (h:o=oNum):J7f ks ev o t n rs=.ok (.num (numV t)):=by unfold J7f;rw[if_pos h]
def J4w (h:o=oVar∨o=oPre):J7f ks ev o t n rs=J21 ks ev ⟨t,n,decide (o=oPre)⟩:=by
 unfold J7f;rw[if_neg (by rcases h with rfl|rfl<;>decide),if_pos h]
def J2k (h:o=oIf∨o=oAnd∨o=oOr):J7f ks ev o t n rs=match rs.getD 0 (.error 0) with
  |.error c=>.error c
  |.ok v=>match J2v o v.truth with
    |some i=>rs.getD i (.error 0)
    |none=>.ok v:=by
 unfold J7f;rw[if_neg (J4B h).1,if_neg (J4B h).2,if_pos h]
 try rfl
def J1A (h:IsOp o):J7f ks ev o t n rs=match seqR rs with
  |.error c=>.error c
  |.ok vs=>wayF ev o vs:=by
 unfold J7f;rw[if_neg h.1,if_neg h.2.1,if_neg h.2.2]
 try rfl
end
def Shape.isOp {ks:List (ByteArray×Va)}{e:Ex}(h:Shape ks e):e.op=oNum∨(e.op=oVar∨e.op=oPre)∨(e.op=oIf∨e.op=oAnd∨e.op=oOr)∨IsOp e.op:=by
 rcases h with ⟨h⟩|⟨h⟩|⟨h⟩|⟨h⟩|⟨h⟩|⟨h⟩|⟨h⟩|⟨h⟩|⟨h⟩|⟨h⟩|⟨h⟩|⟨h⟩
 ·exact .inl h
 ·exact .inr (.inl h)
 ·exact .inr (.inr (.inl (.inl h)))
 ·exact .inr (.inr (.inl (.inr h)))
 all_goals
  refine .inr (.inr (.inr (J4r ?_)))
  first|(rcases h with h|h|h|h)|(rcases h with h|h|h)|(rcases h with h|h)|skip
 all_goals rw[h];simp
def J6o {ks:List (ByteArray×Va)}{ev:Ev}{e:Ex}(hb:builtF e=true)(hs:Shape ks e)(ho:IsOp e.op)(hk:∀ k∈e.kids,∀ v,evalF ks ev k=.ok v→v.type=(typeF ks k).1){vs:List Vl}(h:e.kids.map (evalF ks ev)=vs.map .ok):JKI e.op vs:=by
 have two:∀ {a b:Ex},e.kids=[a,b]→∃ x y,vs=[x,y]∧x.type=(typeF ks a).1∧y.type=(typeF ks b).1∧evalF ks ev a=.ok x∧evalF ks ev b=.ok y:=by
  intro a b he;rw[he] at h hk
  rcases vs with _|⟨x,_|⟨y,_|⟨z,r⟩⟩⟩<;>simp at h
  exact ⟨x,y,rfl,hk a (by simp) x h.1,hk b (by simp) y h.2,h.1,h.2⟩
 have one:∀ {a:Ex},e.kids=[a]→∃ x,vs=[x]∧x.type=(typeF ks a).1:=by
  intro a he;rw[he] at h hk
  rcases vs with _|⟨x,_|⟨z,r⟩⟩<;>simp at h
  exact ⟨x,rfl,hk a (by simp) x h⟩
 have number:∀ {v:Vl} {t:Int},v.type=t→t≠1→∃ q,v=.num q:=by
  intro v t h1 h2
  rcases ty01 v with ⟨_,h⟩|⟨h,_⟩
  ·exact h
  exact absurd (h1.symm.trans h) h2
 have truth:∀ {v:Vl} {t:Int},v.type=t→t=1→∃ b,v=.tr b:=by
  intro v t h1 h2
  rcases ty01 v with ⟨h,_⟩|⟨_,h⟩
  ·rw[h1,h2] at h;cases h
  exact h
 rcases hs with ⟨h1⟩|⟨h1⟩|⟨h1⟩|⟨h1⟩|⟨h1,a,b,he,hab,_⟩|⟨h1⟩|⟨h1⟩|⟨h1,a,he,ha,_⟩|⟨h1,a,he,ha,_⟩|⟨h1,a,b,he,ha,hb',h0,_⟩|⟨h1,a,b,he,ha,hb',_⟩|⟨h1,a,b,he,ha,hb',_⟩
 ·exact absurd h1 ho.1
 ·exact absurd h1 ho.2.1
 ·exact absurd (.inl h1) ho.2.2
 ·exact absurd (.inr h1) ho.2.2
 ·obtain ⟨x,y,rfl,hx,hy,_⟩:=two he;exact .inr (.inr (.inr (.inr (.inr ⟨h1,x,y,rfl,by rw[hx,hy,hab]⟩))))
 ·exact .inl (.inr (.inr (.inl h1)))
 ·refine .inl ?_
  rcases h1 with h1|h1|h1
  ·exact .inl h1
  ·exact .inr (.inl h1)
  exact .inr (.inr (.inr h1))
 ·obtain ⟨x,rfl,hx⟩:=one he;obtain ⟨q,rfl⟩:=number hx ha;exact .inr (.inr (.inl ⟨h1,q,rfl⟩))
 ·obtain ⟨x,rfl,hx⟩:=one he;obtain ⟨q,rfl⟩:=truth hx ha;exact .inr (.inr (.inr (.inl ⟨h1,q,rfl⟩)))
 ·obtain ⟨x,y,rfl,_,_,ex,ey⟩:=two he;rw[J29,J1x ha] at ex;rw[J29,J1x hb'] at ey;cases ex;cases ey;refine .inr (.inl ⟨h1,_,_,rfl,fun hq=>h0 (JBS ?_ hq)⟩);have hbb:=(J0A hb).2 b (by rw[he];simp);rw[J0t] at hbb;simp only[Q5] at hbb;have hx:=hbb.1.1.2;unfold textF at hx;rw[if_pos hb'] at hx;simp only[Q5] at hx;exact hx.1
 ·obtain ⟨x,y,rfl,hx,hy,_⟩:=two he;obtain ⟨p,rfl⟩:=number hx ha;obtain ⟨q,rfl⟩:=number hy hb';refine .inr (.inr (.inr (.inr (.inl ⟨?_,p,q,rfl⟩))))
  rcases h1 with h1|h1|h1|h1<;>simp[h1]
 obtain ⟨x,y,rfl,hx,hy,_⟩:=two he;obtain ⟨p,rfl⟩:=number hx ha;obtain ⟨q,rfl⟩:=number hy hb';refine .inr (.inr (.inr (.inr (.inl ⟨?_,p,q,rfl⟩))))
 rcases h1 with h1|h1|h1|h1<;>simp[h1]
def typeW (o:ByteArray):Int:=if o=oTime∨o=oNeg∨o=oAdd∨o=oSub∨o=oMul∨o=oDiv then 0 else 1
def JMl {ev:Ev}{o:ByteArray}{vs:List Vl}(hw:JKI o vs){v:Vl}(h:wayF ev o vs=.ok v):v.type=typeW o:=by
 rcases hw with h1|⟨rfl,p,q,rfl,h0⟩|⟨rfl,p,rfl⟩|⟨rfl,c,rfl⟩|⟨h1,p,q,rfl⟩|⟨h1,a,b,rfl,hab⟩
 ·rcases h1 with rfl|rfl|rfl|rfl<;>(cases h;rfl)
 ·replace h:(.ok (.tr (multF (ev.time-p) q)):Except Int Vl)=.ok v:=h;cases h;rfl
 ·replace h:(.ok (.num (-p)):Except Int Vl)=.ok v:=h;cases h;rfl
 ·replace h:(.ok (.tr (!c)):Except Int Vl)=.ok v:=h;cases h;rfl
 ·rcases h1 with rfl | rfl | rfl | rfl | rfl | rfl | rfl | rfl
  ·replace h:(.ok (.num (p+q)):Except Int Vl)=.ok v:=h;cases h;rfl
  ·replace h:(.ok (.num (p-q)):Except Int Vl)=.ok v:=h;cases h;rfl
  ·replace h:(.ok (.num (p*q)):Except Int Vl)=.ok v:=h;cases h;rfl
  ·replace h:divV p q=.ok v:=h;unfold divV at h;split at h
   ·cases h
   cases h;rfl
  ·replace h:(.ok (.tr (decide (p<q))):Except Int Vl)=.ok v:=h;cases h;rfl
  ·replace h:(.ok (.tr (decide (p≤q))):Except Int Vl)=.ok v:=h;cases h;rfl
  ·replace h:(.ok (.tr (decide (q<p))):Except Int Vl)=.ok v:=h;cases h;rfl
  replace h:(.ok (.tr (decide (q≤p))):Except Int Vl)=.ok v:=h;cases h;rfl
 rcases a with p|x<;>rcases b with q|y<;>first|(cases hab;done)|skip
 ·rcases h1 with rfl | rfl
  ·replace h:(.ok (.tr (sameV (.num p) (.num q))):Except Int Vl)=.ok v:=h;cases h;rfl
  replace h:(.ok (.tr (!sameV (.num p) (.num q))):Except Int Vl)=.ok v:=h;cases h;rfl
 rcases h1 with rfl|rfl
 ·replace h:(.ok (.tr (sameV (.tr x) (.tr y))):Except Int Vl)=.ok v:=h;cases h;rfl
 replace h:(.ok (.tr (!sameV (.tr x) (.tr y))):Except Int Vl)=.ok v:=h;cases h;rfl
def Shape.typeW {ks:List (ByteArray×Va)}{e:Ex}(hs:Shape ks e)(ho:IsOp e.op):(typeF ks e).1=typeW e.op:=by
 rcases hs with ⟨h1⟩|⟨h1⟩|⟨h1⟩|⟨h1⟩|⟨h1,a,b,he,hab,ht⟩|⟨h1,he,ht⟩|⟨h1,he,ht⟩|⟨h1,a,he,ha,ht⟩|⟨h1,a,he,ha,ht⟩|⟨h1,a,b,he,ha,hb',h0,ht⟩|⟨h1,a,b,he,ha,hb',ht⟩|⟨h1,a,b,he,ha,hb',ht⟩
 ·exact absurd h1 ho.1
 ·exact absurd h1 ho.2.1
 ·exact absurd (.inl h1) ho.2.2
 ·exact absurd (.inr h1) ho.2.2
 all_goals
  rw[ht]
  first|(rcases h1 with h1|h1|h1|h1)|(rcases h1 with h1|h1|h1)|(rcases h1 with h1|h1)|skip
 all_goals (rw[h1];rfl)
def J6b {ks:List (ByteArray×Va)}{ev:Ev}(e:Ex):builtF e=true→(typeF ks e).2=true→∀ v,evalF ks ev e=.ok v→v.type=(typeF ks e).1:=by
 induction e using J1i with
 |h e ih=>
   intro hb ht v h;have ihk:∀ k∈e.kids,∀ v,evalF ks ev k=.ok v→v.type=(typeF ks k).1:=fun k hk=>ih k hk ((J0A hb).2 k hk) (J17 hb ht k hk);have hs:=J6Q hb ht;rw[J29] at h
   by_cases ho:IsOp e.op
   ·rw[J1A ho] at h;split at h
    ·cases h
    rename_i vs hvs;rw[hs.typeW ho];exact JMl (J6o hb hs ho ihk (J9y hvs)) h
   rcases hs with ⟨h1,he,ht'⟩|⟨h1,he,w,hw,ht'⟩|⟨h1,a,b,c,he,ha,hb',hc⟩|⟨h1,a,b,he,ha,hb',ht'⟩|⟨h1⟩|⟨h1⟩|⟨h1⟩|⟨h1⟩|⟨h1⟩|⟨h1⟩|⟨h1⟩|⟨h1⟩
   ·rw[J1x h1] at h;cases h;rw[ht'];rfl
   ·rw[J4w h1] at h;rw[JLk h,ht'];show J9p ks e.text=w.type
    unfold J9p;rw[hw]
   ·rw[J2k (.inl h1),he] at h;rw[he] at ihk
    have h:(match evalF ks ev a with
     |.error c=>.error c
     |.ok v=>match J2v e.op v.truth with
       |some i=>(List.map (evalF ks ev) [a,b,c]).getD i (.error 0)
       |none=>.ok v)=Except.ok v:=h
    split at h
    ·cases h
    rename_i x hx;unfold J2v at h;rw[if_pos h1] at h;cases hxt:x.truth
    ·rw[hxt] at h;have h:evalF ks ev c=.ok v:=h;rw[ihk c (by simp) v h,hc]
    rw[hxt] at h;have h:evalF ks ev b=.ok v:=h;rw[ihk b (by simp) v h,hb']
   ·rw[J2k (.inr h1),he] at h;rw[he] at ihk
    have h:(match evalF ks ev a with
     |.error c=>.error c
     |.ok v=>match J2v e.op v.truth with
       |some i=>(List.map (evalF ks ev) [a,b]).getD i (.error 0)
       |none=>.ok v)=Except.ok v:=h
    split at h
    ·cases h
    rename_i x hx;unfold J2v at h;rw[if_neg (by rcases h1 with h1|h1<;>rw[h1]<;>decide)] at h
    by_cases hd:decide (e.op=oAnd)=x.truth
    ·rw[if_pos hd] at h;have h:evalF ks ev b=.ok v:=h;rw[ihk b (by simp) v h,hb',ht']
    rw[if_neg hd] at h;cases h;rw[ihk a (by simp) v hx,ha,ht']
   all_goals
    exfalso;refine ho (J4r ?_)
    first|(rcases h1 with h1|h1|h1|h1)|(rcases h1 with h1|h1|h1)|(rcases h1 with h1|h1)|skip
   all_goals rw[h1];simp
def JKJ {ev:Ev}{o:ByteArray}{vs:List Vl}(hw:JKI o vs){c:Int}(h:wayF ev o vs=.error c):c=12:=by
 rcases hw with h1|⟨rfl,p,q,rfl,h0⟩|⟨rfl,p,rfl⟩|⟨rfl,x,rfl⟩|⟨h1,p,q,rfl⟩|⟨h1,a,b,rfl,hab⟩
 ·rcases h1 with rfl|rfl|rfl|rfl<;>cases h
 ·replace h:(.ok (.tr (multF (ev.time-p) q)):Except Int Vl)=.error c:=h;cases h
 ·replace h:(.ok (.num (-p)):Except Int Vl)=.error c:=h;cases h
 ·replace h:(.ok (.tr (!x)):Except Int Vl)=.error c:=h;cases h
 ·rcases h1 with rfl | rfl | rfl | rfl | rfl | rfl | rfl | rfl
  ·replace h:(.ok (.num (p+q)):Except Int Vl)=.error c:=h;cases h
  ·replace h:(.ok (.num (p-q)):Except Int Vl)=.error c:=h;cases h
  ·replace h:(.ok (.num (p*q)):Except Int Vl)=.error c:=h;cases h
  ·replace h:divV p q=.error c:=h;unfold divV at h;split at h
   ·cases h;rfl
   cases h
  ·replace h:(.ok (.tr (decide (p<q))):Except Int Vl)=.error c:=h;cases h
  ·replace h:(.ok (.tr (decide (p≤q))):Except Int Vl)=.error c:=h;cases h
  ·replace h:(.ok (.tr (decide (q<p))):Except Int Vl)=.error c:=h;cases h
  replace h:(.ok (.tr (decide (q≤p))):Except Int Vl)=.error c:=h;cases h
 rcases a with p|x<;>rcases b with q|y<;>first|(cases hab;done)|skip
 ·rcases h1 with rfl | rfl
  ·replace h:(.ok (.tr (sameV (.num p) (.num q))):Except Int Vl)=.error c:=h;cases h
  replace h:(.ok (.tr (!sameV (.num p) (.num q))):Except Int Vl)=.error c:=h;cases h
 rcases h1 with rfl|rfl
 ·replace h:(.ok (.tr (sameV (.tr x) (.tr y))):Except Int Vl)=.error c:=h;cases h
 replace h:(.ok (.tr (!sameV (.tr x) (.tr y))):Except Int Vl)=.error c:=h;cases h
theorem JEB:∀ {rs:List (Except Int Vl)} {c:Int},seqR rs=.error c→.error c∈rs
 |.error d::r,c,h=>by cases h;exact Q0r
 |.ok v::r,c,h=>by
   unfold seqR at h;split at h
   ·cases h
   rename_i d hd;cases h;exact Q02 _ (JEB hd)
def ErrC (c:Int):Prop:=c=5∨c=7∨c=12
def J1y {ks:List (ByteArray×Va)}{ev:Ev}(e:Ex):builtF e=true→(typeF ks e).2=true→∀ c,evalF ks ev e=.error c→ErrC c:=by
 induction e using J1i with
 |h e ih=>
   intro hb ht c h;have ihk:∀ k∈e.kids,∀ c,evalF ks ev k=.error c→ErrC c:=fun k hk=>ih k hk ((J0A hb).2 k hk) (J17 hb ht k hk);have hty:∀ k∈e.kids,∀ v,evalF ks ev k=.ok v→v.type=(typeF ks k).1:=fun k hk=>J6b k ((J0A hb).2 k hk) (J17 hb ht k hk);have hs:=J6Q hb ht;rw[J29] at h
   by_cases ho:IsOp e.op
   ·rw[J1A ho] at h;split at h
    ·rename_i d hd;cases h;obtain ⟨k,hk,h⟩:=Qs.1 (JEB hd);exact ihk k hk _ h
    rename_i vs hvs;exact .inr (.inr (JKJ (J6o hb hs ho hty (J9y hvs)) h))
   rcases hs with ⟨h1,he,ht'⟩|⟨h1,he,w,hw,ht'⟩|⟨h1,a,b,x,he,ha,hb',hc⟩|⟨h1,a,b,he,ha,hb',ht'⟩|⟨h1⟩|⟨h1⟩|⟨h1⟩|⟨h1⟩|⟨h1⟩|⟨h1⟩|⟨h1⟩|⟨h1⟩
   ·rw[J1x h1] at h;cases h
   ·rw[J4w h1] at h;unfold J21 at h;split at h
    ·cases h;exact .inl rfl
    split at h
    ·cases h;exact .inr (.inl rfl)
    cases h
   ·rw[J2k (.inl h1),he] at h;rw[he] at ihk
    have h:(match evalF ks ev a with
     |.error c=>.error c
     |.ok v=>match J2v e.op v.truth with
       |some i=>(List.map (evalF ks ev) [a,b,x]).getD i (.error 0)
       |none=>.ok v)=Except.error c:=h
    split at h
    ·rename_i d hd;cases h;exact ihk a (by simp) _ hd
    rename_i y hy;unfold J2v at h;rw[if_pos h1] at h;cases hxt:y.truth
    ·rw[hxt] at h;exact ihk x (by simp) c h
    rw[hxt] at h;exact ihk b (by simp) c h
   ·rw[J2k (.inr h1),he] at h;rw[he] at ihk
    have h:(match evalF ks ev a with
     |.error c=>.error c
     |.ok v=>match J2v e.op v.truth with
       |some i=>(List.map (evalF ks ev) [a,b]).getD i (.error 0)
       |none=>.ok v)=Except.error c:=h
    split at h
    ·rename_i d hd;cases h;exact ihk a (by simp) _ hd
    rename_i y hy;unfold J2v at h;rw[if_neg (by rcases h1 with h1|h1<;>rw[h1]<;>decide)] at h
    by_cases hd:decide (e.op=oAnd)=y.truth
    ·rw[if_pos hd] at h;exact ihk b (by simp) c h
    rw[if_neg hd] at h;cases h
   all_goals
    exfalso;refine ho (J4r ?_)
    first|(rcases h1 with h1|h1|h1|h1)|(rcases h1 with h1|h1|h1)|(rcases h1 with h1|h1)|skip
   all_goals rw[h1];simp
def ErrC.ne {c:Int}(h:ErrC c):¬ c=0:=by rcases h with rfl|rfl|rfl<;>decide
end Go.Proofs.YtlblbldolhiokaaGreatDoor
