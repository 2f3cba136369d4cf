/- Part 50 of a proof. -/
import Derived.Test.YtlblbldolhiokaaGreatDoorRs49
set_option linter.all false
set_option maxRecDepth 99999
set_option exponentiation.threshold 400
set_option maxHeartbeats 0
namespace Go.Proofs.YtlblbldolhiokaaGreatDoor
open Go Go.Fw
def J0Y {α:Type}(p:α→Bool):List α→Int→Int
 |[],_=>-1
 |y::r,i=>match p y with
   |true=>i
   |false=>J0Y p r (i+1)
theorem J3E {α:Type}(p:α→Bool):∀ (l:List α) (i:Int),0≤i→(0≤J0Y p l i↔l.any p=true)
 |[],i,h=>by simp[J0Y]
 |y :: r,i,h=>by
   unfold J0Y;split
   ·rename_i e;simp[e,h]
   rename_i e;rw[J3E p r (i+1) (by omega)];simp[e]
def JID (k:Nat)(p:Ex→Bool)(l:List Ex)(hl:l.length≤2^60)(hk:J05 Tryz.prog k)(hf:∀ x∈l,PX k [encE x] (encB (p x))) :
  PX 294 [.sl 4 (l.map encE),.fn (.func k) [] []] (encI (J0Y p l 0)):=by
 refine PZ Tryz.func294 rfl ?_;generalize hF:J0Y p l 0=F;refine kWS ?_;intros;refine LoopP.intro (fun n σ H=>∃ i,i≤l.length∧n=l.length-i∧J0Y p (l.drop i) i=F∧σ=fr [(0,.sl 4 (l.map encE)),(1,.fn (.func k) [] []),(7,encI l.length),(8,encI i)]∧H=hp []) ?_ ?_
 ·exact .intro <| W.of ⟨_,0,QG _,rfl,hF,rfl,rfl⟩ ⟨rfl,rfl,by simp;rfl,rfl,trivial⟩ trivial
 rintro n σ H ⟨i,hi,rfl,hc,rfl,rfl⟩;refine kWS ?_;intros;refine CondP.dec (fun h=>?_) (fun h=>?_)<;>refine kW ?_
 ·have hi':i<l.length:=by omega
  have hx:=hf _ (QF hi');rw[Q6 hi'] at hc;unfold J0Y at hc;refine kR ?_;intros;generalize l[i]=x at hx hc ⊢;rw[J02] at hx ⊢;refine kR ?_;intros;refine CallP.flat [] _ hk hx rfl ?_;refine kWS ?_;intros;refine CondP.intro (fun hq=>?_) (fun hq=>?_)<;>refine kW ?_
  ·rw[hq] at hc;refine kS ?_;intros;exact .of (by rw[← hc];rfl)
  rw[hq] at hc;refine kS ?_;intros
  exact .intro <| W.of ⟨_,by omega,i+1,hi',rfl,hc,rfl,rfl⟩ ⟨rfl,rfl,rfl,rfl,trivial⟩ trivial
 refine kS ?_;intros;rw[Q9 (by omega)] at hc;exact .of (by rw[← hc];rfl)
def JCG (k:Nat)(p:Ex→Bool)(l:List Ex)(hl:l.length≤2^60)(hk:J05 Tryz.prog k)(hf:∀ x∈l,PX k [encE x] (encB (p x))) :
  PX 202 [.sl 4 (l.map encE),.fn (.func k) [] []] (encB (l.any p)):=by
 refine PZ Tryz.func202 rfl ?_;refine kWS ?_;intros;refine CallP.flat [] _ c294 (JID k p l hl hk hf) rfl ?_;refine kWS ?_;intros;refine .of ?_;show AV.val (Value.bool (decide (0≤J0Y p l 0)))=AV.val (Value.bool (l.any p))
 congr 2
 rw[Q0T,decide_eq_true_iff];exact J3E p l 0 (by omega)
def J2D (o:ByteArray)(ks:List Ex)(bs:List Bool):Bool:=decide (o=oSample)&&match ks,bs with
 |k0::k1::_,_::b::_=>!decide (k0.op=oNum)||!decide (k1.op=oNum)||!b||hasP k1.text (b1 45)||decide (k1.text=⟨#[48]⟩)
 |_,_=>false
mutual
def builtF:Ex→Bool
 |.mk o t n ks=>decide ((ks.length:Int)=J0d o)&&textF (.mk o t n ks)&&!J2D o ks (J9W ks)&&(J9W ks).all id
def J9W:List Ex→List Bool
 |[]=>[]
 |k::ks=>builtF k::J9W ks
end
theorem J61:∀ ks:List Ex,J9W ks=ks.map builtF
 |[]=>rfl
 |k::ks=>by rw[QK,← J61 ks];rfl
def J0t (e:Ex):builtF e=(decide ((e.kids.length:Int)=J0d e.op)&&textF e&&!J2D e.op e.kids (e.kids.map builtF)&&e.kids.all builtF):=by
 cases e with
 |mk o t n ks=>
   rw[← J61];have:ks.all builtF=(J9W ks).all id:=by rw[J61,Q3E];rfl
   show builtF (.mk o t n ks)=(decide ((ks.length:Int)=J0d o)&&textF (.mk o t n ks)&&!J2D o ks (J9W ks)&&ks.all builtF)
   rw[this];rfl
def J1i {M:Ex→Prop}(h:∀ e:Ex,(∀ k∈e.kids,M k)→M e)(e:Ex):M e:=by
 have key:∀ n (e:Ex),SizeOf.sizeOf e≤n→M e:=by
  intro n
  induction n with
  |zero=>intro e he;cases e;simp at he
  |succ n ih=>
    intro e he;refine h e fun k hk=>ih k ?_
    cases e with
    |mk o t m ks=>
      have:=Q3R (show k∈ks from hk);simp at he;omega
 exact key _ e (QM _)
inductive TxE:Ex→Prop where
 |mk {o t:ByteArray} {n:Int} {ks:List Ex} (ht:t.size<2^21) (h:∀ k∈ks,TxE k):TxE (.mk o t n ks)
def TxE.kid {e:Ex}(h:TxE e):∀ k∈e.kids,TxE k:=by cases h;assumption
def TxE.low {e:Ex}(h:TxE e):e.text.size<2^21:=by cases h;assumption
def TxE.tx {e:Ex}(h:TxE e):e.text.size<2^35:=Q3C h.low (by decide)
def JK3 (e:Ex)(b:Bool)(h:PX 123 [encE e] (encB b)):PX 203 [encE e] (encB (!b)):=by
 refine PZ Tryz.func203 rfl ?_;rw[J02] at h ⊢;refine kWS ?_;intros;refine CallP.flat [] _ c123 h rfl ?_;refine kWS ?_;intros;exact .of rfl
def JFD (e:Ex):SzE e→TxE e→PX 123 [encE e] (encB (builtF e)):=by
 induction e using J1i with
 |h e ih=>
   intro hs ht;have ihk:∀ k∈e.kids,PX 123 [encE k] (encB (builtF k)):=fun k hk=>ih k hk (hs.kid k hk) (by cases ht;rename_i h;exact h k hk);clear ih;have htx:e.text.size<2^35:=ht.tx;have hlen:=hs.len;refine PZ Tryz.func123 rfl ?_;have hT:=JN0 e htx;generalize hF:builtF e=F;rw[J0t] at hF;generalize textF e=bt at hF hT;rw[J02] at hT ⊢;generalize hks:e.kids=ks at *;generalize e.op=o at *;refine kWS ?_;intros;refine CallG.intro _ c199 (JNU o) ?_;refine kWS ?_;intros;rw[Q3];refine CondP.dec (fun h=>?_) (fun h=>?_)<;>refine kW ?_
   case' refine_2=>
    rw[Q1 h,QD,QD,QD] at hF;refine kS ?_;intros;exact .of (by rw[← hF];rfl)
   have hlk:=h;rw[Q2 hlk,QB] at hF;refine kS ?_;intros;refine CallG.intro _ c200 hT ?_;refine kWS ?_;intros;refine CondP.intro (fun h1=>?_) (fun h1=>?_)<;>refine kW ?_
   case' refine_2=>
    rw[h1,QD,QD] at hF;refine kS ?_;intros;exact .of (by rw[← hF];rfl)
   rw[h1,QB] at hF;refine kS ?_;intros;have fin:J2D o ks (ks.map builtF)=false→ks.all builtF=F:=fun h=>by rw[← hF,h];rfl
   have bad:J2D o ks (ks.map builtF)=true→F=false:=fun h=>by rw[← hF,h];rfl
   clear hF;refine CondP.dec (fun h2=>?_) (fun h2=>?_)<;>refine kW ?_
   case' refine_2=>
    have hf:=fin (by unfold J2D;rw[Q1 h2];rfl)
   case' refine_1=>
    obtain ⟨k0,k1,rfl⟩:∃ k0 k1,ks=[k0,k1]:=by
     have h2':o=oSample:=h2;have:J0d oSample=2:=by rfl
     rw[h2',this] at hlk
     match ks,hlk with
     |[a,b],_=>exact ⟨a,b,rfl⟩
     |[],h=>simp at h
     |[_],h=>simp at h
     |_::_::_::_,h=>simp at h;omega
    have hk1:=ihk k1 (by simp)
    have hsm:J2D o [k0,k1] ([k0,k1].map builtF)=(!decide (k0.op=oNum)||!decide (k1.op=oNum)||!builtF k1||hasP k1.text (b1 45)||decide (k1.text=⟨#[48]⟩)):=by
     unfold J2D;rw[Q2 h2];rfl
    rw[hsm] at bad fin;generalize builtF k1=bk at bad fin hk1
    have ht1:k1.text.size<2^35:=by
     have hm:k1∈e.kids:=by rw[hks];simp
     have:TxE k1:=ht.kid k1 hm;exact this.tx
    have hHP:=JCh k1.text (b1 45) (by omega) (by decide)
    have hsl:List.map encE [k0,k1]=[.agg [encS k0.op,encS k0.text,encI k0.order,.sl 4 (k0.kids.map encE)],.agg [encS k1.op,encS k1.text,encI k1.order,.sl 4 (k1.kids.map encE)]]:=by
     rw[← J02,← J02];rfl
    rw[J02] at hk1;rw[hsl];generalize hT0:hasP k1.text (b1 45)=hp at *;refine kS ?_;intros;refine CondP.dec (fun h3=>?_) (fun h3=>?_)<;>refine kW ?_
    case' refine_2=>
     rw[bad (by rw[Q1 h3];rfl)];refine kS ?_;intros;exact .of rfl
    refine kS ?_;intros;refine CondP.dec (fun h4=>?_) (fun h4=>?_)<;>refine kW ?_
    case' refine_2=>
     rw[bad (by rw[Q1 h4];simp)];refine kS ?_;intros;exact .of rfl
    refine kS ?_;intros;refine CallP.flat [] _ c123 hk1 rfl ?_;refine kWS ?_;intros;refine CondP.intro (fun h5=>?_) (fun h5=>?_)<;>refine kW ?_
    case' refine_2=>
     rw[bad (by rw[h5];simp)];refine kS ?_;intros;exact .of rfl
    refine kS ?_;intros;refine CallP.flat [] _ c201 hHP rfl ?_;refine kWS ?_;intros;refine CondP.intro (fun h6=>?_) (fun h6=>?_)<;>refine kW ?_
    case' refine_1=>
     rw[bad (by rw[h6];simp)];refine kS ?_;intros;exact .of rfl
    refine kS ?_;intros;refine CondP.dec (fun h7=>?_) (fun h7=>?_)<;>refine kW ?_
    case' refine_1=>
     rw[bad (by rw[Q2 h7];simp)];refine kS ?_;intros;exact .of rfl
    have hf:=fin (by rw[Q2 h3,Q2 h4,h5,h6,Q1 h7];rfl);rw[← hsl]
   all_goals
    refine kS ?_;intros;refine CallP.flat [] _ c202 (JCG 203 (fun k=>!builtF k) _ hlen c203 fun k hk=>JK3 k _ (ihk k hk)) rfl ?_;refine kWS ?_;intros;refine .of ?_;rw[← hf,List.all_eq_not_any_not];rfl
structure Va where
 name:ByteArray
 kind:Int
 type:Int
 value:ByteArray
 start:ByteArray
 fixed:Bool
 unit:ByteArray
def encV (v:Va):AV:=.agg [encS v.name,encI v.kind,encI v.type,encS v.value,encS v.start,encB v.fixed,encS v.unit]
def encK (ks:List (ByteArray×Va)):AV:=.mp (ks.map fun x=>encS x.1) (ks.map fun x=>encV x.2)
def same2 (a b:Int×Bool):Int×Bool:=(a.1,a.2&&b.2&&decide (a.1=b.1))
def shpD (o:ByteArray):Int×Bool×Bool:=match J11 shp o with
 |some x=>x
 |none=>(0,false,false)
def J4Q (ks:List (ByteArray×Va))(o t:ByteArray)(n:Int)(rs:List (Int×Bool)):Int×Bool:=
 if o=oVar∨o=oPre then match J11 ks t with
  |some v=>(v.type,decide (n=0)||decide (v.kind=0)||decide (v.kind=3))
  |none=>(0,false)
 else if o=oEq∨o=oNe then (1,(same2 (rs.getD 0 (0,false)) (rs.getD 1 (0,false))).2)
 else if o=oIf then ((same2 (rs.getD 1 (0,false)) (rs.getD 2 (0,false))).1,(rs.getD 0 (0,false)).2&&(same2 (rs.getD 1 (0,false)) (rs.getD 2 (0,false))).2&&decide ((rs.getD 0 (0,false)).1=1))
 else if rs.any (fun r=>!r.2||(decide (r.1=1) != (shpD o).2.1)) then (0,false)
 else (if (shpD o).2.2 then 1 else 0,true)
mutual
def typeF (ks:List (ByteArray×Va)):Ex→Int×Bool
 |.mk o t n es=>J4Q ks o t n (JMt ks es)
def JMt (ks:List (ByteArray×Va)):List Ex→List (Int×Bool)
 |[]=>[]
 |e::es=>typeF ks e::JMt ks es
end
theorem JB4 (ks:List (ByteArray×Va)):∀ es:List Ex,JMt ks es=es.map (typeF ks)
 |[]=>rfl
 |e::es=>by rw[QK,← JB4 ks es];rfl
def J6P (ks:List (ByteArray×Va))(e:Ex):typeF ks e=J4Q ks e.op e.text e.order (e.kids.map (typeF ks)):=by
 cases e with
 |mk o t n es=>rw[← JB4];rfl
def JAM (r:Int×Bool):AV:=.tup [encI r.1,encB r.2]
def JHY (ks:List (ByteArray×Va))(a b:Ex)(ra rb:Int×Bool)(ha:PX 124 [encK ks,encE a] (JAM ra))(hb:PX 124 [encK ks,encE b] (JAM rb)) :
  PX 204 [encK ks,encE a,encE b] (JAM (same2 ra rb)):=by
 refine PZ Tryz.func204 rfl ?_;obtain ⟨x,bx⟩:=ra;obtain ⟨y,by'⟩:=rb;rw[J02] at ha hb;rw[J02 a,J02 b];generalize hF:same2 (x,bx) (y,by')=F;unfold same2 at hF;refine kWS ?_;intros;refine J00 [] _ c124 ha ?_;refine kWS ?_;intros;refine J00 [] _ c124 hb ?_;refine kWS ?_;intros;simp only at hF ⊢;cases bx
 ·refine kS ?_;intros;exact .of (by rw[← hF];rfl)
 cases by'
 ·refine kS ?_;intros;exact .of (by rw[← hF];rfl)
 simp only[QB] at hF;refine kS ?_;intros;exact .of (by rw[← hF];rfl)
def J0A {e:Ex}(h:builtF e=true):(e.kids.length:Int)=J0d e.op∧∀ k∈e.kids,builtF k=true:=by
 rw[J0t] at h;simp only[Q5] at h;exact ⟨Qh h.1.1.1,fun k hk=>QL.1 h.2 k hk⟩
def JJY (ks:List (ByteArray×Va))(e:Ex):SzE e→builtF e=true→PX 124 [encK ks,encE e] (JAM (typeF ks e)):=by
 induction e using J1i with
 |h e ih=>
   intro hs hb;obtain ⟨hkl,hbk⟩:=J0A hb;have ihk:∀ k∈e.kids,PX 124 [encK ks,encE k] (JAM (typeF ks k)):=fun k hk=>ih k hk (hs.kid k hk) (hbk k hk);clear ih hbk;have hlen:=hs.len;refine PZ Tryz.func124 rfl ?_;generalize hF:typeF ks e=F;rw[J6P] at hF;rw[J02];generalize hes:e.kids=es at *;generalize e.op=o at *;generalize e.text=t at *;generalize e.order=n at *;clear hs hb hes e;unfold J4Q at hF;refine kWS ?_;intros;refine CondP.dec (fun h1=>?_) (fun h1=>?_)<;>refine kX ?_
   case' refine_1=>refine CondP.pos h1 ?_
   case' refine_2=>refine CondP.dec (fun h2=>?_) (fun h2=>?_)
   case refine_2.refine_2=>
    rw[if_neg (by rintro (h|h);exact h1 h;exact h2 h)] at hF;refine kX ?_
    repeat (refine J4G ?_;refine kX ?_)
    refine CondP.dec (fun h3=>?_) (fun h3=>?_)<;>refine kX ?_
    case' refine_1=>refine CondP.pos h3 ?_
    case' refine_2=>refine CondP.dec (fun h4=>?_) (fun h4=>?_)
    case refine_2.refine_2=>
     rw[if_neg (by rintro (h|h);exact h3 h;exact h4 h)] at hF;refine kX ?_
     repeat (refine J4G ?_;refine kX ?_)
     refine CondP.dec (fun h5=>?_) (fun h5=>?_)<;>refine kX ?_
     ·rw[if_pos h5] at hF
      obtain ⟨a,b,c,rfl⟩:∃ a b c,es=[a,b,c]:=by
       have:J0d o=3:=by rw[h5];rfl
       rw[this] at hkl
       match es,hkl with
       |[a,b,c],_=>exact ⟨a,b,c,rfl⟩
       |[],h=>simp at h
       |[_],h=>simp at h
       |[_,_],h=>simp at h
       |_::_::_::_::_,h=>simp at h;omega
      have hca:=ihk a (by simp);have hsm:=JHY ks b c _ _ (ihk b (by simp)) (ihk c (by simp))
      have hsl:List.map encE [a,b,c]=[.agg [encS a.op,encS a.text,encI a.order,.sl 4 (a.kids.map encE)],.agg [encS b.op,encS b.text,encI b.order,.sl 4 (b.kids.map encE)],.agg [encS c.op,encS c.text,encI c.order,.sl 4 (c.kids.map encE)]]:=by
       rw[← J02,← J02,← J02];rfl
      replace hF:((same2 (typeF ks b) (typeF ks c)).1,(typeF ks a).2&&(same2 (typeF ks b) (typeF ks c)).2&&decide ((typeF ks a).1=1))=F:=hF;generalize same2 (typeF ks b) (typeF ks c)=sm at hF hsm;generalize typeF ks a=ta at hF hca;rw[J02 a] at hca;rw[J02 b,J02 c] at hsm;refine J0b (W.of (l:=[(0,encK ks),(3,.op 3 _ 0 0),(4,encI 0),(5,encB false),(20,encS o)]) (m:=[(3,_,⟨29,4,[.agg [encS o,encS t,encI n,.sl 4 ([a,b,c].map encE)]]⟩)]) ?_ ⟨rfl,rfl,rfl,rfl,rfl,trivial⟩ ⟨rfl,trivial⟩);rw[hsl];refine kWS ?_;intros;refine J00 [] _ c124 hca ?_;refine kWS ?_;intros;refine CallG.intro _ c204 hsm ?_;refine kWS ?_;intros;obtain ⟨tt,tb⟩:=ta;obtain ⟨st,sb⟩:=sm;simp only at hF ⊢;cases tb
      ·refine kS ?_;intros;exact .of (by rw[← hF];rfl)
      cases sb
      ·refine kS ?_;intros;exact .of (by rw[← hF];rfl)
      simp only[QB] at hF;refine kS ?_;intros;exact .of (by rw[← hF];rfl)
     rw[if_neg h5] at hF;refine J0b (W.of (l:=[(0,encK ks),(3,.op 3 _ 0 0),(4,encI 0),(5,encB false),(20,encS o)]) (m:=[(3,_,⟨29,4,[.agg [encS o,encS t,encI n,.sl 4 (es.map encE)]]⟩)]) ?_ ⟨rfl,rfl,rfl,rfl,rfl,trivial⟩ ⟨rfl,trivial⟩);refine kWS ?_;intros;refine CallG.intro _ c205 shapes_ok ?_;refine kWS ?_;intros;refine Need.intro keyst9 ?_;refine kW ?_;obtain ⟨r,hr,hm⟩:=J27 J8Y o shp;refine LookP.intro r hr ?_
     have hcase:(r=none∧shpD o=(0,false,false))∨∃ i,r=some i∧(shp.map fun x=>J8Y x.2).getD i .dead=J8Y (shpD o):=by
      unfold shpD
      revert hm
      cases J11 shp o<;>cases r<;>intro hm
      ·exact .inl ⟨rfl,rfl⟩
      ·exact hm.elim
      ·exact hm.elim
      exact .inr ⟨_,rfl,hm⟩
     rcases hcase with ⟨rfl,hx⟩|⟨i,rfl,hm'⟩
     case' inl=>
      refine kW ?_;refine kX ?_;refine kZ ?_;intros;refine J0b (W.of (l:=[(0,encK ks),(3,.op 3 _ 0 0),(4,encI 0),(5,encB false),(14,.op 14 _ 0 0)]) (m:=[(3,_,⟨29,4,[.agg [encS o,encS t,encI n,.sl 4 (es.map encE)]]⟩),(14,_,⟨249,3,[J8Y (shpD o)]⟩)]) ?_ ⟨rfl,rfl,rfl,rfl,rfl,trivial⟩ ⟨rfl,by rw[hx];rfl,trivial⟩)
     case' inr=>
      refine kW ?_;rw[hm'];refine kX ?_;refine kZ ?_;intros;refine J0b (W.of (l:=[(0,encK ks),(3,.op 3 _ 0 0),(4,encI 0),(5,encB false),(14,.op 14 _ 0 0)]) (m:=[(3,_,⟨29,4,[.agg [encS o,encS t,encI n,.sl 4 (es.map encE)]]⟩),(14,_,⟨249,3,[J8Y (shpD o)]⟩)]) ?_ ⟨rfl,rfl,rfl,rfl,rfl,trivial⟩ ⟨rfl,rfl,trivial⟩)
     all_goals
      generalize shpD o=x at hF ⊢;refine kWS ?_;intros
      refine LoopP.intro (fun m σ H=>∃ g i,m=es.length-i∧i≤es.length∧(if ((es.drop i).map (typeF ks)).any (fun r=>!r.2||(decide (r.1=1) != x.2.1)) then ((0,false):Int×Bool) else (if x.2.2 then 1 else 0,true))=F ∧
       σ=fr [(0,encK ks),(4,encI 0),(5,encB false),(14,.op 14 g 0 0),(104,.sl 4 (es.map encE)),(105,encI es.length),(106,encI i)] ∧
       H=hp [(14,g,⟨249,3,[J8Y x]⟩)]) ?_ ?_
      ·refine .intro <| W.of ⟨_,_,0,rfl,QG _,hF,rfl,rfl⟩ ⟨rfl,rfl,rfl,rfl,rfl,?_,rfl,trivial⟩ ⟨rfl,trivial⟩
       show AV.val (.int .i64 _)=AV.val (.int .i64 _)
       rw[Q3]
      clear hF;rintro m σ H ⟨g,i,rfl,hi,hF,rfl,rfl⟩;refine kWS ?_;intros;refine CondP.dec (fun h=>?_) (fun h=>?_)<;>refine kW ?_
      ·have hi':i<es.length:=by omega
       rw[Q6 hi',QK,Q2H] at hF;have hk:=ihk _ (QF hi');refine kR ?_;intros;generalize es[i]=k at hF hk ⊢;generalize typeF ks k=tk at hF hk;obtain ⟨kt,kb⟩:=tk;rw[J02] at hk ⊢;refine kR ?_;intros;refine J00 [] _ c124 hk ?_;refine kWS ?_;intros;simp only at hF ⊢;cases kb
       ·simp only[Q0L,Qx,if_true] at hF;refine kS ?_;intros;exact .of (by rw[← hF];rfl)
       simp only[Q0W,Qj] at hF;refine kS ?_;intros;refine CondP.intro (fun h6=>?_) (fun h6=>?_)<;>refine kW ?_
       ·rw[show (decide (kt=1) != x.2.1)=false by rw[bne,h6];rfl,Qj] at hF;refine kS ?_;intros
        exact .intro <| W.of ⟨_,by omega,_,i+1,rfl,hi',hF,rfl,rfl⟩ ⟨rfl,rfl,rfl,rfl,rfl,rfl,rfl,trivial⟩ ⟨rfl,trivial⟩
       rw[show (decide (kt=1) != x.2.1)=true by rw[bne,h6];rfl,Qx,if_pos rfl] at hF;refine kS ?_;intros;exact .of (by rw[← hF];rfl)
      rw[Q9 (by omega)] at hF;refine kS ?_;intros;refine CondP.intro (fun h6=>?_) (fun h6=>?_)<;>refine kW ?_
      ·rw[h6] at hF;refine kS ?_;intros;exact .of (by rw[← hF];rfl)
      rw[h6] at hF;refine kS ?_;intros;exact .of (by rw[← hF];rfl)
    all_goals
     have hv:o=oEq∨o=oNe:=by first|exact .inl h3|exact .inr h4
     rw[if_pos hv] at hF
     obtain ⟨a,b,rfl⟩:∃ a b,es=[a,b]:=by
      have:J0d o=2:=by rcases hv with h|h<;>rw[h]<;>rfl
      rw[this] at hkl
      match es,hkl with
      |[a,b],_=>exact ⟨a,b,rfl⟩
      |[],h=>simp at h
      |[_],h=>simp at h
      |_::_::_::_,h=>simp at h;omega
     have hsm:=JHY ks a b _ _ (ihk a (by simp)) (ihk b (by simp))
     have hsl:List.map encE [a,b]=[.agg [encS a.op,encS a.text,encI a.order,.sl 4 (a.kids.map encE)],.agg [encS b.op,encS b.text,encI b.order,.sl 4 (b.kids.map encE)]]:=by
      rw[← J02,← J02];rfl
     replace hF:(1,(same2 (typeF ks a) (typeF ks b)).2)=F:=hF;generalize same2 (typeF ks a) (typeF ks b)=sm at hF hsm;rw[J02 a,J02 b] at hsm;refine J0b (W.of (l:=[(0,encK ks),(3,.op 3 _ 0 0),(4,encI 0),(5,encB false),(20,encS o)]) (m:=[(3,_,⟨29,4,[.agg [encS o,encS t,encI n,.sl 4 ([a,b].map encE)]]⟩)]) ?_ ⟨rfl,rfl,rfl,rfl,rfl,trivial⟩ ⟨rfl,trivial⟩);rw[hsl];refine kWS ?_;intros;refine CallG.intro _ c204 hsm ?_;refine kWS ?_;intros;exact .of (by rw[← hF];rfl)
   all_goals
    have hv:o=oVar∨o=oPre:=by first|exact .inl h1|exact .inr h2
    rw[if_pos hv] at hF;refine J0b (W.of (l:=[(0,encK ks),(3,.op 3 _ 0 0),(4,encI 0),(5,encB false),(20,encS o)]) (m:=[(3,_,⟨29,4,[.agg [encS o,encS t,encI n,.sl 4 (es.map encE)]]⟩)]) ?_ ⟨rfl,rfl,rfl,rfl,rfl,trivial⟩ ⟨rfl,trivial⟩);refine kWS ?_;intros;refine Need.intro keyst9 ?_;refine kW ?_;obtain ⟨r,hr,hm⟩:=J27 encV t ks;refine LookP.intro r hr ?_
    cases ha:J11 ks t with
    |none=>
      rw[ha] at hm hF
      cases r with
      |some i=>exact hm.elim
      |none=>
        refine kWS ?_;intros;exact .of (by rw[← hF];rfl)
    |some v=>
      rw[ha] at hm hF
      cases r with
      |none=>exact hm.elim
      |some i=>
        refine kW ?_;rw[show (List.map (fun x=>encV x.snd) ks).getD i AV.dead=encV v from hm];refine kWS ?_;intros;replace hF:(v.type,decide (n=0)||decide (v.kind=0)||decide (v.kind=3))=F:=hF;refine CondP.dec (fun h3=>?_) (fun h3=>?_)<;>refine kW ?_
        ·rw[Q2 h3,Qx,Qx] at hF;refine kS ?_;intros;exact .of (by rw[← hF];rfl)
        rw[Q1 h3,Qj] at hF;refine kS ?_;intros;refine CondP.dec (fun h4=>?_) (fun h4=>?_)<;>refine kW ?_
        ·rw[Q2 h4,Qx] at hF;refine kS ?_;intros;exact .of (by rw[← hF];rfl)
        rw[Q1 h4,Qj] at hF;refine kS ?_;intros;exact .of (by rw[← hF];rfl)
def J16 (q:AV)(t is:Bool):AV:=match q with
 |.agg cs=>.agg (cs++[encB t,encB is])
 |_=>.dead
def J2G (b:Bool):PX 194 [encB b] (J16 nilQ b true):=by
 refine PZ Tryz.func194 rfl ?_;refine kWS ?_;intros;exact .of rfl
def JCe (q:AV)(h:q=nilQ∨∃ n d,q=encQ n d):PX 189 [q] (J16 q false false):=by
 refine PZ Tryz.func189 rfl ?_
 rcases h with rfl|⟨n,d,rfl⟩
 all_goals
  refine kWS ?_;intros;exact .of rfl
def J6i (q:AV)(t is:Bool)(h:q=nilQ∨∃ n d,q=encQ n d):PX 282 [J16 q t is] (encI (if is then 1 else 0)):=by
 refine PZ Tryz.func282 rfl ?_
 rcases h with rfl|⟨n,d,rfl⟩
 all_goals
  refine kWS ?_;intros;refine CondP.intro (fun h=>?_) (fun h=>?_)<;>refine kW ?_
  ·refine kS ?_;intros;exact .of (by rw[h];rfl)
  refine kS ?_;intros;exact .of (by rw[h];rfl)
def qAV:Option (Int×Int)→AV
 |some (n,d)=>encQ n d
 |none=>nilQ
def JEG (p:Option (Int×Int)×Bool):resQ p=.tup [qAV p.1,encB p.2]:=by
 obtain ⟨o,b⟩:=p;cases o<;>rfl
def J2L (o:Option (Int×Int)):qAV o=nilQ∨∃ n d,qAV o=encQ n d:=by
 cases o with
 |none=>exact .inl rfl
 |some q=>exact .inr ⟨q.1,q.2,rfl⟩
abbrev sTrue:ByteArray:=⟨#[116,114,117,101]⟩
abbrev sFalse:ByteArray:=⟨#[102,97,108,115,101]⟩
def resV (s:ByteArray):AV:=
 if s=sTrue∨s=sFalse then .tup [J16 nilQ (decide (s=sTrue)) true,encB true]
 else .tup [J16 (qAV (J06 s.data.toList).1) false false,encB (J06 s.data.toList).2]
def JCc (s:ByteArray)(hs:s.size<2^35):PX 112 [encS s] (resV s):=by
 refine PZ Tryz.func112 rfl ?_;generalize hF:resV s=F;unfold resV at hF;have hq:=J3P s.data.toList (by exact hs);rw[J12] at hq;have hT:=J2G;refine kWS ?_;intros;refine CondP.dec (fun h1=>?_) (fun h1=>?_)<;>refine kW ?_
 ·rw[if_pos (.inl h1),Q2 h1] at hF;refine kS ?_;intros;refine J00 [] _ c194 (J2G (decide (s=sTrue))) ?_;rw[Q2 h1];refine kWS ?_;intros;exact .of (by rw[← hF];rfl)
 refine kS ?_;intros;refine CondP.dec (fun h2=>?_) (fun h2=>?_)<;>refine kW ?_
 ·rw[if_pos (.inr h2),Q1 h1] at hF;refine kS ?_;intros;refine J00 [] _ c194 (J2G (decide (s=sTrue))) ?_;rw[Q1 h1];refine kWS ?_;intros;exact .of (by rw[← hF];rfl)
 rw[if_neg (by rintro (h|h);exact h1 h;exact h2 h)] at hF;rw[JEG] at hq;have hq2:=J2L (J06 s.data.toList).1;generalize qAV (J06 s.data.toList).1=q at *;generalize (J06 s.data.toList).2=b at *;have hN:=JCe q hq2;refine kS ?_;intros;refine J00 [] _ c134 hq ?_
 rcases hq2 with rfl|⟨n,d,rfl⟩
 all_goals
  refine kWS ?_;intros;refine J00 [] _ c189 hN ?_;refine kWS ?_;intros;exact .of (by rw[← hF];rfl)
def valueF (s:ByteArray)(t:Int):Bool:=
 if s=sTrue∨s=sFalse then decide (1=t) else (J06 s.data.toList).2&&decide (0=t)
def JDv (s:ByteArray)(t:Int)(hs:s.size<2^35):PX 320 [encS s,encI t] (encB (valueF s t)):=by
 refine PZ Tryz.func320 rfl ?_;have hp:=JCc s hs;generalize hF:valueF s t=F;unfold valueF at hF;unfold resV at hp;have hq2:=J2L (J06 s.data.toList).1;generalize qAV (J06 s.data.toList).1=q at *;generalize (J06 s.data.toList).2=b at *
 by_cases h1:s=sTrue∨s=sFalse
 ·rw[if_pos h1] at hp hF;refine kWS ?_;intros;refine J00 [] _ c112 hp ?_;refine kWS ?_;intros;refine CallP.flat [] _ c282 (J6i nilQ (decide (s=sTrue)) true (.inl rfl)) rfl ?_;refine kWS ?_;intros;exact .of (by rw[← hF];rfl)
 rw[if_neg h1] at hp hF;have hT:=J6i q false false hq2;refine kWS ?_;intros;refine J00 [] _ c112 hp ?_
 rcases hq2 with rfl|⟨n,d,rfl⟩
 all_goals
  refine kWS ?_;intros;refine CondP.intro (fun h2=>?_) (fun h2=>?_)<;>refine kW ?_
  ·rw[h2,QB] at hF;refine kS ?_;intros;refine CallP.flat [] _ c282 hT rfl ?_;refine kWS ?_;intros;exact .of (by rw[← hF];rfl)
  rw[h2,QD] at hF;refine kS ?_;intros;exact .of (by rw[← hF];rfl)
abbrev B4:Nat:=10000
def hB4:1<B4:=by decide
def encD (n:Nat):AV:=.val (.int .i64 n)
def J0s (l:List Nat):AV:=.sl 1 (l.map encD)
def encN (n:Nat):AV:=J0s (dg B4 n)
def g4 {l:List Nat}(h:Dig B4 l)(i:Nat)(hi:i<l.length):l[i]<10000:=h.get i hi
def repD (n:Nat):List.replicate n (mkEl { size:=1,bytes:=8,zero:=[Value.int .i64 0],kind:=Kd.int .i64 })=(List.replicate n 0).map encD:=by rw[Q2L];rfl
def setD {l:List Nat}{i:Nat}{z:Int}(n:Nat)(h:z=n):(l.map encD).set i (.val (.int .i64 z))=(l.set i n).map encD:=J9x encD l i n _ (by rw[h];rfl)
def ownD {b p e n:Nat}{H:Hp}{out:List Nat}(hb:H b=some (p,⟨e,1,out.map encD⟩))(hn:n=out.length):snap [b] H (.own b p 0 n)=J0s out:=by
 rw[J2c (by simp) hb (by simp[hn]),J0S _ _ _ _ hn fun _=>rfl];rfl
def endD {S:List Nat}{H:Hp}{k:Nat}{L:List AV}{n:Nat}{xs:List Nat}(h:L=xs.map encD)(hn:n=xs.length):AV.sl 1 (((L.drop 0).take n).map (J0U (J08 S H k)))=J0s xs:=by
 subst h;rw[J0S _ _ _ _ hn fun x=>by cases k<;>rfl];rfl
def JD1 {l:List Nat}(h:Dig B4 l):J0s (trimF l)=encN (vl B4 l):=by rw[J1n hB4 h];rfl
def J2a (l:List Nat)(hl:l.length<2^62):PX 313 [J0s l] (J0s (trimF l)):=by
 refine PZ Tryz.func313 rfl ?_;refine kWS ?_;intros;simp only[Q3];refine LoopP.intro (fun n σ H=>∃ i:Nat,n=i∧i≤l.length∧trimF (l.take i)=trimF l∧σ=fr [(0,J0s l),(3,encI i)]∧H=hp []) ?_ ?_
 ·exact .intro <| W.of ⟨_,l.length,rfl,QM _,by rw[Qi],rfl,rfl⟩ ⟨rfl,rfl,trivial⟩ trivial
 rintro n σ H ⟨i,rfl,hi,ht,rfl,rfl⟩
 have fin:trimF (l.take n)=l.take n→AV.sl 1 ((l.map encD).take n)=J0s (trimF l):=fun h=>by
  rw[← ht,h,← Q2d];rfl
 refine kWS ?_;intros;refine CondP.dec (fun h=>?_) (fun h=>?_)<;>refine kW ?_
 ·obtain ⟨i,rfl⟩:∃ k,n=k+1:=⟨n-1,by omega⟩;have e1:((((i+1:Nat):Int))-1).toNat=i:=by omega
  have e2:(((i+1:Nat):Int))-1=(i:Int):=by omega
  have hs:l.take (i+1)=l.take i++[l[i]'(by omega)]:=Qd (by omega);rw[hs,J8k] at ht fin;refine kS ?_;intros;simp only[e1];refine kR ?_;intros;refine CondP.dec (fun h=>?_) (fun h=>?_)<;>refine kW ?_
  ·have hd:l[i]'(by omega)=0:=by omega
   rw[if_pos hd] at ht;refine kS ?_;intros
   exact .intro <| W.of ⟨_,by omega,i,rfl,by omega,ht,rfl,rfl⟩ ⟨rfl,by rw[e2];rfl,trivial⟩ trivial
  have hd:¬ l[i]'(by omega)=0:=by omega
  rw[if_neg hd] at fin;refine kS ?_;intros;refine .of ?_;rw[← hs] at fin;exact fin rfl
 obtain rfl:n=0:=by omega
 refine kS ?_;intros;exact .of (fin rfl)
def putD {p e:Nat}{out r:List Nat}{x i j:Nat}{z:Int}(n:Nat)(h:z=n)(hi:i=out.length)(hj:j=i):some (p,(⟨e,1,((out++x::r).map encD).set j (.val (.int .i64 z))⟩:Blk))=some (p,⟨e,1,(out++[n]++r).map encD⟩):=by
 subst hj hi;rw[setD n h,J6y];simp
def J4m (n:Nat)(hn:n<2^63):PX 225 [.val (.int .u64 n)] (encN n):=by
 refine PC [100] Tryz.func225 rfl (by rfl) rfl ?_;obtain ⟨R,hR⟩:∃ R,dg B4 n=R:=⟨_,rfl⟩;unfold encN;have hRl:R.length≤16:=by rw[← hR];exact J0F hB4 (QP hn (by decide))
 rw[hR];(refine kWS ?_;repeat intro γ);refine LoopP.intro (fun m σ H=>∃ g n,∃ out:List Nat,m=n∧n<2^63∧out++dg B4 n=R∧σ=fr [(0,.val (.int .u64 n)),(3,.own 100 g 0 out.length)]∧H=hp [(100,g,⟨3,1,out.map encD⟩)]) ?_ ?_
 ·refine .intro (J24 3 100 3 1 rfl rfl fun g=>W.of ⟨_,g,n,[],rfl,hn,hR,rfl,rfl⟩ ⟨rfl,rfl,trivial⟩ ⟨rfl,trivial⟩)
 clear hR hn n;rintro m σ H ⟨g,n,out,rfl,hn,hR,rfl,rfl⟩;have hol:=QC List.length hR;rw[QQ] at hol;have hml:(out.map encD).length=out.length:=Q3 _;(refine kWS ?_;repeat intro γ);refine CondP.dec (fun h=>?_) (fun h=>?_)<;>refine kW ?_
 ·have hp:=J53 hB4 (n:=m) (by omega);rw[hp,Q1J] at hR;have hpl:=QC List.length hp;rw[QT] at hpl;have e1:(m:Int).tmod 10000=((m%10000:Nat):Int):=rfl;have e2:(m:Int).tdiv 10000=((m/10000:Nat):Int):=rfl;(refine kS ?_;repeat intro γ);simp only[e1,e2];(refine kS ?_;repeat intro γ)
  refine .intro <| W.of ⟨_,?_,γ,m/10000,out++[m%B4],rfl,by omega,hR,rfl,rfl⟩ ⟨rfl,?_,trivial⟩ ⟨?_,trivial⟩
  ·omega
  ·exact QC (AV.own 100 _ 0) (by simp)
  show some (_,(⟨_,_,_++_⟩:Blk))=_
  simp;rfl
 obtain rfl:m=0:=by omega
 rw[J0l,Q08] at hR;subst hR;refine kS ?_;intros;exact .of (endD rfl rfl)
def JO1 {b:Nat}(hb:1<b)(m n:Nat):(m<n→cmpN m n=-1)∧(n<m→cmpN m n=1)∧(m=n→cmpN m n=0):=by
 unfold cmpN;refine ⟨fun h=>by rw[if_pos h],fun h=>by rw[if_neg (by omega),if_pos h],fun h=>by rw[if_neg (by omega),if_neg (by omega)]⟩
def J2W (x y:Nat)(hx:(dg B4 x).length<2^62)(hy:(dg B4 y).length<2^62):PX 236 [encN x,encN y] (encI (cmpN x y)):=by
 refine PZ Tryz.func236 rfl ?_;obtain ⟨c1,c2,c3⟩:=JO1 hB4 x y;have dx:=J0J hB4 x;have dy:=J0J hB4 y;have l1:=@J54 B4 hB4 x y;have l2:=@J54 B4 hB4 y x;have vx:=J0v hB4 x;have vy:=J0v hB4 y;generalize cmpN x y=C at *;unfold encN;generalize dg B4 x=xs at *;generalize dg B4 y=ys at *;refine kWS ?_;intros;simp only[Q3];refine CondP.dec (fun h=>?_) (fun h=>?_)<;>refine kW ?_
 ·have hl : xs.length=ys.length:=by omega
  clear h l1 l2;refine kS ?_;intros;simp only[Q3];refine LoopP.intro (fun n σ H=>∃ i:Nat,n=i∧i≤xs.length∧xs.drop i=ys.drop i∧σ=fr [(0,J0s xs),(1,J0s ys),(5,encI ((i:Int)-1))]∧H=hp []) ?_ ?_
  ·exact .intro <| W.of ⟨_,xs.length,rfl,QM _,by rw[Q0G (by omega),Q0G (by omega)],rfl,rfl⟩ ⟨rfl,rfl,rfl,trivial⟩ trivial
  rintro n σ H ⟨i,rfl,hi,he,rfl,rfl⟩;refine kWS ?_;intros;refine CondP.dec (fun h=>?_) (fun h=>?_)<;>refine kW ?_
  ·obtain ⟨i,rfl⟩:∃ k,n=k+1:=⟨n-1,by omega⟩;have e1:(((i+1:Nat):Int)-1)=i:=by omega
   simp only[e1];have h1:=g4 dx i (by omega);have h2:=g4 dy i (by omega);refine kR ?_;intros;refine CondP.dec (fun h=>?_) (fun h=>?_)<;>refine kW ?_
   ·have:=JMC dx dy hl (i:=i) (by omega) he (by omega);refine kR ?_;intros;exact .of (by rw[c1 (by omega)];rfl)
   refine kR ?_;intros;refine CondP.dec (fun h=>?_) (fun h=>?_)<;>refine kW ?_
   ·have:=JMC dy dx hl.symm (i:=i) (by omega) he.symm (by omega);refine kR ?_;intros;exact .of (by rw[c2 (by omega)];rfl)
   refine kS ?_;intros
   refine .intro <| W.of ⟨_,by omega,i,rfl,by omega,?_,rfl,rfl⟩ ⟨rfl,rfl,rfl,trivial⟩ trivial
   rw[Q6 (by omega),Q6 (by omega:i<ys.length),he,show xs[i]=ys[i] from by omega]
  obtain rfl:n=0:=by omega
  simp only[Q0F] at he;subst he;refine kS ?_;intros;exact .of (by rw[c3 (by omega)];rfl)
 refine kS ?_;intros;simp only[Q3];refine CondP.dec (fun h=>?_) (fun h=>?_)<;>refine kW ?_
 ·refine kS ?_;intros;exact .of (by rw[c1 (l1 (by omega))];rfl)
 refine kS ?_;intros;exact .of (by rw[c2 (l2 (by omega))];rfl)
def J9n {b:Nat}(l:List Nat)(i:Nat):vl b (l.take (i+1))=vl b (l.take i)+l.getD i 0*b ^ i:=by
 rcases QI i l.length with h|h
 ·rw[J9o l i h,J0g h]
 rw[Qm (by omega),Qm h,Q4,Q0J h];simp
def JAH {l:List Nat}(h:Dig B4 l)(i:Nat):l.getD i 0<10000:=by
 rcases QI i l.length with h1|h1
 ·rw[← J0g h1];exact g4 h i h1
 rw[Q4,Q0J h1];decide
def J4t {l:List Nat}{i:Nat}(h:l.length≤i):l.getD i 0=0:=by rw[Q4,Q0J h];rfl
def JJS (x y:Nat)(hx:(dg B4 x).length<2^40)(hy:(dg B4 y).length<2^40):PX 311 [encN x,encN y] (encN (x+y)):=by
 refine PC [15] Tryz.func311 rfl (by rfl) rfl ?_;have dx:=J0J hB4 x;have dy:=J0J hB4 y;have vx:=J0v hB4 x;have vy:=J0v hB4 y;have bx:x<B4 ^ max (dg B4 x).length (dg B4 y).length:=QP (J1l hB4 x) (Q05 (by decide) (Q3M _ _));have by_:y<B4 ^ max (dg B4 x).length (dg B4 y).length:=QP (J1l hB4 y) (Q05 (by decide) (Q35 _ _));unfold encN;generalize hX:dg B4 x=X at *;generalize hY:dg B4 y=Y at *;refine kWS ?_;intros;simp only[Q3];obtain ⟨M,hM⟩:∃ M,max X.length Y.length=M:=⟨_,rfl⟩;rw[hM] at bx by_;have eM:(max (X.length:Int) (Y.length:Int))=(M:Int):=by omega
 simp only[eM];refine kS ?_;intros;have e0:((M:Int)+1).toNat=M+1:=by omega
 simp only[e0,repD]
 refine LoopP.intro (fun n σ H=>∃ p i c,∃ out:List Nat,i≤M+1∧n=M+1-i∧out.length=M+1∧Dig B4 out∧out.drop i=List.replicate (M+1-i) 0∧c≤1∧vl B4 out+c*B4 ^ i=vl B4 (X.take i)+vl B4 (Y.take i) ∧
  σ=fr [(0,J0s X),(1,J0s Y),(5,.own 15 p 0 (M+1)),(6,encI c),(7,encI i)]∧H=hp [(15,p,⟨3,1,out.map encD⟩)]) ?_ ?_
 ·exact .intro <| W.of ⟨_,_,0,0,List.replicate (M+1) 0,QG _,rfl,by simp,JAu (by decide) _,rfl,by omega,by rw[JDu];rfl,rfl,rfl⟩ ⟨rfl,rfl,rfl,rfl,rfl,trivial⟩ ⟨rfl,trivial⟩
 rintro n σ H ⟨p,i,c,out,hi,rfl,hl,hd,h0,hc,hv,rfl,rfl⟩;refine kWS ?_;intros;refine CondP.dec (fun h=>?_) (fun h=>?_)<;>refine kW ?_
 ·obtain ⟨hi',ho,hr⟩:=JLQ h0 (by omega);obtain ⟨s,hs⟩:∃ s,s=X.getD i 0+Y.getD i 0+c:=⟨_,rfl⟩;have hstep:vl B4 (out.set i (s%10000))+s/10000*B4 ^ (i+1)=vl B4 (X.take i)+vl B4 (Y.take i)+(X.getD i 0+Y.getD i 0)*B4 ^ i:=J6U (b:=B4) hi' hv (by omega);have hx1:=JAH dx i;have hy1:=JAH dy i
  have hgoal:vl B4 (X.take i)+vl B4 (Y.take i)+(X.getD i 0+Y.getD i 0)*B4 ^ i=vl B4 (X.take (i+1))+vl B4 (Y.take (i+1)):=by
   rw[J9n,J9n];grind
  rw[hgoal] at hstep;have hdr:(out.set i (s%10000)).drop (i+1)=List.replicate (M+1-(i+1)) 0:=by rw[drop_set,hr];congr 1
  have hds:Dig B4 (out.set i (s%10000)):=hd.set i (Q0B _ (by decide));have hln:(out.set i (s%10000)).length=M+1:=by rw[Q0y,hl]
  clear hgoal hr h0 hv
  rcases QI i X.length with h1|h1<;>rcases QI i Y.length with h2|h2
  case' inl.inl=>simp only[← J0g h1,← J0g h2] at hs hx1 hy1
  case' inl.inr=>simp only[← J0g h1,J4t h2,Q0O] at hs hx1 hy1
  case' inr.inl=>simp only[J4t h1,← J0g h2,Qq] at hs hx1 hy1
  case' inr.inr=>simp only[J4t h1,J4t h2,Qq] at hs hx1 hy1
  all_goals
   refine kQ ?_;intros
   (simp (disch:=omega) only [TD])
   refine kQ ?_;intros
   refine .intro <| W.of ⟨_,by omega,_,i+1,s/10000,out.set i (s%10000),by omega,rfl,hln,hds,hdr,by omega,hstep,rfl,rfl⟩ ⟨rfl,rfl,rfl,?_,rfl,trivial⟩ ⟨?_,trivial⟩
   ·show AV.val (.int .i64 _)=AV.val (.int .i64 _);congr 2;omega
   rw[← setD];rfl;omega
 obtain rfl:i=M+1:=by omega
 rw[Qm (by omega),Qm (by omega),vx,vy] at hv;obtain rfl:c=0:=JO9 hB4 bx by_ hv;rw[Q0Z,Q0O] at hv;refine kS ?_;intros;refine J00 [15] _ c313 (J0G ?_ (J2a out (by omega))) ?_
 ·exact QC (fun z=>[z]) (ownD rfl hl.symm)
 rw[JD1 hd,hv];refine kWS ?_;intros;exact .of rfl
def J4b (x y:Nat)(hx:(dg B4 x).length<2^40)(hle:y≤x):PX 312 [encN x,encN y] (encN (x-y)):=by
 refine PC [11] Tryz.func312 rfl (by rfl) rfl ?_;have dx:=J0J hB4 x;have dy:=J0J hB4 y;have vx:=J0v hB4 x;have vy:=J0v hB4 y;have hlen:=J0e hB4 hle;have hval:=J5e hB4 (dg B4 x) (dg B4 y) 0 (by omega) dx dy hlen (by rw[vx,vy];omega);have hdg:=J1p hB4 (dg B4 x) (dg B4 y) 0 (by omega) dx dy;have hsl:=J1o B4 (dg B4 x) (dg B4 y) 0;unfold encN;generalize hX:dg B4 x=X at *;generalize hY:dg B4 y=Y at *;generalize hR:subC B4 0 X Y=R at *;refine kWS ?_;intros;simp only[Q3,QV,repD]
 refine LoopP.intro (fun n σ H=>∃ p i c,∃ out:List Nat,i≤X.length∧n=X.length-i∧out.length=i∧c≤1∧out++subC B4 c (X.drop i) (Y.drop i)=R ∧
  σ=fr [(0,J0s X),(1,J0s Y),(5,.own 11 p 0 X.length),(6,encI c),(7,encI i)]∧H=hp [(11,p,⟨3,1,(out++List.replicate (X.length-i) 0).map encD⟩)]) ?_ ?_
 ·exact .intro <| W.of ⟨_,_,0,0,[],QG _,rfl,rfl,by omega,hR,rfl,rfl⟩ ⟨rfl,rfl,rfl,rfl,rfl,trivial⟩ ⟨rfl,trivial⟩
 rintro n σ H ⟨p,i,c,out,hi,rfl,ho,hc,hR,rfl,rfl⟩;refine kWS ?_;intros;refine CondP.dec (fun h=>?_) (fun h=>?_)<;>refine kW ?_
 ·(have h2:=h;try simp only[LN] at h2)
  have hi':i<X.length:=by omega
  have h1:=g4 dx i hi';rw[Q6 hi'] at hR;rw[show X.length-i=X.length-(i+1)+1 by omega,Q1D]
  have hget:((out++0::List.replicate (X.length-(i+1)) 0).map encD).getD i .dead=encD 0:=by
   rw[J0w _ _ _ (by simp;omega)];simp[Q0C,ho]
  have hlm:((out++0::List.replicate (X.length-(i+1)) 0).map encD).length=X.length:=by simp;omega
  rcases QI i Y.length with h2|h2
  case' inl=>
   have h3:=g4 dy i h2;rw[Q6 h2,subC,Q1J] at hR
  case' inr=>
   rw[Q9 h2,subC,Q1J] at hR
  case' inl=>
   refine kQ ?_;intros
   by_cases h4:X[i]<c+Y[i]
   case' pos=>rw[if_pos h4,if_pos h4] at hR
   case' neg=>rw[if_neg h4,if_neg h4] at hR
  case' inr=>
   refine kQ ?_;intros
   by_cases h4:X[i]<c
   case' pos=>
    rw[if_pos h4,if_pos h4] at hR;replace hR:out++[X[i]+B4-c]++subC B4 1 (X.drop (i+1)) (Y.drop (i+1))=R:=by rw[Q9 (by omega:Y.length≤i+1)];exact hR
   case' neg=>
    rw[if_neg h4,if_neg h4] at hR;replace hR:out++[X[i]-c]++subC B4 0 (X.drop (i+1)) (Y.drop (i+1))=R:=by rw[Q9 (by omega:Y.length≤i+1)];exact hR
  all_goals
   refine kQ ?_;intros;simp only[QV,Qq,hget];refine kWQ ?_;intros
  all_goals
   refine .intro <| W.of ⟨_,by omega,_,i+1,_,_,hi',rfl,by simp[ho],?_,hR,rfl,rfl⟩ ⟨rfl,rfl,rfl,rfl,rfl,trivial⟩ ⟨putD _ (by first|omega|(unfold B4;omega)) ho.symm (by omega),trivial⟩
   omega
 (have h2:=h;try simp only[LN] at h2)
 refine kS ?_;intros;rw[Q9 (by omega:X.length≤i),subC,Q08] at hR;subst hR;refine J00 [11] _ c313 (J0G ?_ (J2a out (by omega))) ?_
 ·refine QC (fun z=>[z]) (ownD (e:=3) (out:=out) ?_ (by omega));show some (_,(⟨_,_,_⟩:Blk))=_
  rw[show X.length-i=0 by omega];simp
 rw[JD1 hdg];rw[show vl B4 out=x-y by omega];refine kWS ?_;intros;exact .of rfl
def JMS {x y o c:Nat}(hx:x<10000)(hy:y<10000)(ho:o<10000)(hc:c<10000):x*y+o+c<100000000∧(x*y+o+c)/10000<10000:=JF0 (b:=10000) hx hy ho hc rfl
def T4:(∀ s:Nat,(s:Int).tdiv 10000=((s/10000:Nat):Int))∧(∀ s:Nat,(s:Int).tmod 10000=((s%10000:Nat):Int)):=⟨fun _=>rfl,fun _=>rfl⟩
def J1g (x y:Nat)(hx:(dg B4 x).length<2^39)(hy:(dg B4 y).length<2^39):PX 235 [encN x,encN y] (encN (x*y)):=by
 refine PC [16] Tryz.func235 rfl (by rfl) rfl ?_;have dx:=J0J hB4 x;have dy:=J0J hB4 y;have vx:=J0v hB4 x;have vy:=J0v hB4 y;unfold encN;generalize hX:dg B4 x=X at *;generalize hY:dg B4 y=Y at *;refine kWS ?_;intros;have e0:((((X.map encD).length:Int)+((Y.map encD).length:Int)+1).toNat)=X.length+Y.length+1:=by simp;omega
 simp only[e0,repD,Q3]
 refine LoopP.intro (fun n σ H=>∃ p i,∃ out:List Nat,i≤X.length∧n=X.length-i∧out.length=X.length+Y.length+1∧Dig B4 out∧vl B4 out=vl B4 (X.take i)*vl B4 Y ∧
  σ=fr [(0,J0s X),(1,J0s Y),(5,.own 16 p 0 (X.length+Y.length+1)),(6,encI i)]∧H=hp [(16,p,⟨3,1,out.map encD⟩)]) ?_ ?_
 ·exact .intro <| W.of ⟨_,_,0,List.replicate (X.length+Y.length+1) 0,QG _,rfl,by simp,JAu (by decide) _,by rw[JDu];simp[vl],rfl,rfl⟩ ⟨rfl,rfl,rfl,rfl,trivial⟩ ⟨rfl,trivial⟩
 rintro n σ H ⟨p,i,out,hi,rfl,hl,hd,hv,rfl,rfl⟩;refine kWS ?_;intros;refine CondP.dec (fun h=>?_) (fun h=>?_)<;>refine kW ?_
 ·(have h2:=h;try simp only[LN] at h2)
  have hi':i<X.length:=by omega
  have hxi:=g4 dx i hi';have htk:=J9o (b:=B4) X i hi'
  have hlt:vl B4 (X.take (i+1))*vl B4 Y<B4 ^ (i+1+Y.length):=by
   rcases JHo dx dy hi' with h|h|h
   ·exact h
   ·exact absurd h.2 (Nat.ne_of_gt (Q1V (by decide)))
   exact absurd h (by decide)
  refine kS ?_;intros;generalize hV:vl B4 (X.take i)*vl B4 Y=V at hv
  refine LoopP.intro (fun n σ H=>∃ p j c,∃ out:List Nat,j≤Y.length+1∧n=Y.length+2-j∧out.length=X.length+Y.length+1∧Dig B4 out∧c<10000∧vl B4 out+c*B4 ^ (i+j)=V+X[i]*vl B4 (Y.take j)*B4 ^ i ∧
   σ=fr [(0,J0s X),(1,J0s Y),(5,.own 16 p 0 (X.length+Y.length+1)),(6,encI i),(7,encI c),(8,encI j)]∧H=hp [(16,p,⟨3,1,out.map encD⟩)]) ?_ ?_
  ·exact .intro <| W.of ⟨_,_,0,0,out,by omega,rfl,hl,hd,by omega,by simp[vl,hv],rfl,rfl⟩ ⟨rfl,rfl,rfl,rfl,rfl,rfl,trivial⟩ ⟨rfl,trivial⟩
  clear hd hv hl p out;rintro n σ H ⟨p,j,c,out,hj,rfl,hl,hd,hc,hv,rfl,rfl⟩;have hT:V+X[i]*vl B4 Y*B4 ^ i=vl B4 (X.take (i+1))*vl B4 Y:=by rw[← hV,htk];grind
  rw[← hT] at hlt;have hfull:Y.length≤j→vl B4 out+c*B4 ^ (i+j)=V+X[i]*vl B4 Y*B4 ^ i:=fun h=>by rw[hv,Qm h]
  have hjl:Y.length≤j→0<c→j≤Y.length:=fun h h'=>by
   have:=JBO (b:=B4) (by decide) h' (by rw[← hfull h];exact Nat.le_add_left _ _) hlt;omega
  have hin:(j<Y.length∨0<c)→i+j<out.length:=fun h=>by omega
  have hyj:=JAH dy j;have hsum:=JHy (b:=B4) (i:=i) (V:=V) (a:=X[i]) (J9n (b:=B4) Y j);have e1:((i:Int)+(j:Int)).toNat=i+j:=by omega
  have e2:(i:Int)+(j:Int)=((i+j:Nat):Int):=by omega
  have step:∀ (h:i+j<out.length) (s:Nat),s=X[i]*Y.getD j 0+out[i+j]+c→s/10000<10000∧vl B4 (out.set (i+j) (s%10000))+s/10000*B4 ^ (i+(j+1))=V+X[i]*vl B4 (Y.take (j+1))*B4 ^ i:=by
   intro h s hs;have:=J6U (b:=B4) (s:=s) (T:=X[i]*Y.getD j 0) h hv hs;rw[hsum] at this;exact ⟨by rw[hs];exact (JMS hxi hyj (g4 hd _ h) hc).2,this⟩
  clear hv hsum hV
  rcases QI j Y.length with h1|h1
  ·have hin':=hin (.inl h1);have ho:=g4 hd (i+j) hin';have hst:=step hin';rw[← J0g h1] at hst hyj;have hcr:=JMS hxi hyj ho hc;refine kWQ ?_;intros;simp only[e1];refine kQ ?_;intros;have hm:(X[i]:Int)*(Y[j]:Nat)=((X[i]*Y[j]:Nat):Int):=(Q0S _ _).symm;generalize X[i]*Y[j]=q at hm hst hcr;simp only[hm];refine kQ ?_;intros;obtain ⟨s,hs⟩:∃ s,s=q+out[i+j]+c:=⟨_,rfl⟩;have hq:((out[i+j]:Nat):Int)+c+q=((s:Nat):Int):=by omega
   obtain ⟨st1,st2⟩:=hst s hs;simp only[e1,Qq,hq,T4];rw[J0w encD out (i+j) hin'];refine kWQ ?_;intros;simp only[hq,T4];refine kQ ?_;intros
   refine .intro <| W.of ⟨_,by omega,_,j+1,s/10000,out.set (i+j) (s%10000),by omega,rfl,by rw[Q0y,hl],hd.set _ (Q0B _ (by decide)),st1,st2,rfl,rfl⟩ ⟨rfl,rfl,rfl,rfl,rfl,rfl,trivial⟩ ⟨?_,trivial⟩
   rw[← setD (z:=((s%10000:Nat):Int)) _ rfl];rfl
  have hst:=fun h=>step h;simp only[J4t h1,Q39,Qq] at hst
  by_cases hc0:c=0
  ·subst hc0;have hv2:=hfull h1;rw[Q0Z,Q0O] at hv2;refine kWQ ?_;intros
   exact .intro <| W.of ⟨_,by omega,p,i+1,out,hi',rfl,hl,hd,by rw[hv2,hT],rfl,rfl⟩ ⟨rfl,rfl,rfl,rfl,trivial⟩ ⟨rfl,trivial⟩
  have hin':=hin (.inr (by omega));have hjl':=hjl h1 (by omega);have ho:=g4 hd (i+j) hin';refine kWQ ?_;intros;simp only[e1];refine kQ ?_;intros;obtain ⟨s,hs⟩:∃ s,s=out[i+j]+c:=⟨_,rfl⟩;have hq:((out[i+j]:Nat):Int)+c=((s:Nat):Int):=by omega
  obtain ⟨st1,st2⟩:=hst hin' s hs;simp only[e1,Qq,hq,T4];rw[J0w encD out (i+j) hin'];refine kWQ ?_;intros;simp only[hq,T4];refine kQ ?_;intros
  refine .intro <| W.of ⟨_,by omega,_,j+1,s/10000,out.set (i+j) (s%10000),by omega,rfl,by rw[Q0y,hl],hd.set _ (Q0B _ (by decide)),st1,st2,rfl,rfl⟩ ⟨rfl,rfl,rfl,rfl,rfl,rfl,trivial⟩ ⟨?_,trivial⟩
  rw[← setD (z:=((s%10000:Nat):Int)) _ rfl];rfl
 (have h2:=h;try simp only[LN] at h2)
 refine kS ?_;intros;rw[show i=X.length from by omega,Qi,vx,vy] at hv;refine J00 [16] _ c313 (J0G ?_ (J2a out (by omega))) ?_
 ·exact QC (fun z=>[z]) (ownD rfl hl.symm)
 rw[JD1 hd,hv];refine kWS ?_;intros;exact .of rfl
def JDG (x d:Nat)(hx:(dg B4 x).length<2^39)(hd:d<2^63):PX 361 [encN x,encI d] (encN (x*d)):=by
 refine PZ Tryz.func361 rfl ?_;have hl:(dg B4 d).length≤16:=J0F hB4 (QP hd (by decide));have hN:=J4m d hd;have hM:=J1g x d hx (by omega);unfold encN at *;refine kWQ ?_;intros;refine J00 [] _ c225 hN ?_;refine kWQ ?_;intros;refine J00 [] _ c235 hM ?_;refine kWQ ?_;intros;exact .of rfl
def JME (x f:Nat)(hx:(dg B4 x).length≤f+4)(hf:f<2^40):PX 360 [encN x,encI f] (encI ((x/B4 ^ f:Nat):Int)):=by
 refine PZ Tryz.func360 rfl ?_;rw[← JHC hB4];have dx:=J0J hB4 x;unfold encN;generalize dg B4 x=X at *
 have hlt:vl B4 (X.drop f)<10000 ^ 4:=by
  refine QP (J6p (dx.drop f)) (Q05 (by decide) ?_);rw[Q0N];omega
 refine kWQ ?_;intros;refine LoopP.intro (fun n σ H=>∃ i:Nat,n=i-f∧i≤X.length∧(f≤i∨i=X.length)∧σ=fr [(0,J0s X),(1,encI f),(5,encI (vl B4 (X.drop (max i f)):Nat)),(6,encI ((i:Int)-1))]∧H=hp []) ?_ ?_
 ·refine .intro <| W.of ⟨_,X.length,rfl,QM _,.inr rfl,rfl,rfl⟩ ⟨rfl,rfl,?_,?_,trivial⟩ trivial
  ·rw[Q0G (by omega)];rfl
  rfl
 rintro n σ H ⟨i,rfl,hi,hif,rfl,rfl⟩
 by_cases h:f<i
 ·obtain ⟨i,rfl⟩:∃ k,i=k+1:=⟨i-1,by omega⟩;have e1:(((i+1:Nat):Int)-1)=i:=by omega
  have hdv:=J5Y (b:=B4) X i (by omega)
  have hge:vl B4 (X.drop i)≤vl B4 (X.drop f):=by
   rw[J44 dx i (by omega),J44 dx f (by omega)];exact Nat.div_le_div_left (Q05 (by decide) (by omega)) (Q1V (by decide))
  rw[show max (i+1) f=i+1 by omega];replace hdv:vl B4 (X.drop i)=X[i]+10000*vl B4 (X.drop (i+1)):=hdv;generalize vl B4 (X.drop (i+1))=v at hdv ⊢;simp only[e1];refine kWQ ?_;intros
  refine .intro <| W.of ⟨_,by omega,i,rfl,by omega,.inl (by omega),rfl,rfl⟩ ⟨rfl,rfl,?_,rfl,trivial⟩ trivial
  show AV.val (.int .i64 _)=AV.val (.int .i64 _)
  rw[show max i f=i by omega,hdv]
  congr 2;omega
 have hmx:X.drop (max i f)=X.drop f:=by
  rcases hif with h1|h1
  ·rw[show max i f=f by omega]
  rw[Q0G (by omega),Q0G (by omega)]
 rw[hmx];refine kWQ ?_;intros;exact .of rfl
def J0I {x y x' y':AV}(h1:Le x x')(h2:Le y y'):Fw.Ends (.tup [x,y]) (.tup [x',y']):=by
 have h:=Le.cons h1 (Le.cons h2 J8N);exact Fw.Ends.le (Le.tup h.1 h.2)
def J3p (m n:Nat):(cmpN m n<0↔m<n)∧(0≤cmpN m n↔n≤m)∧(cmpN m n=0↔m=n)∧(cmpN m n≤0↔m≤n):=by
 unfold cmpN;split
 ·omega
 split<;>omega
def JNA (i:Nat)(R:List Nat)(q:Nat):(List.replicate (i+1) 0++R).set i q=List.replicate i 0++q::R:=by
 rw[Q27,Qo,Q3S];have:=J6y (List.replicate i 0) 0 q R
 rwa [Q1H] at this
def J7r (a b:Nat)(hb:0<b)(ha:(dg B4 a).length<2^37)(hbl:(dg B4 b).length<2^37):PX 308 [encN a,encN b] (.tup [encN (a/b),encN (a%b)]):=by
 refine PC [21] Tryz.func308 rfl (by rfl) rfl ?_;have hc:=J2W a b (by omega) (by omega);unfold encN at *;refine kWS ?_;intros;refine CallP.flat [] _ c236 hc rfl ?_;have hcs:=(J3p a b).1;generalize cmpN a b=c at hcs;clear hc;refine kWS ?_;intros;refine CondP.dec (fun h=>?_) (fun h=>?_)<;>refine kW ?_
 ·have hlt:=hcs.1 h;rw[Q0X hlt,Q0M hlt,J0l];refine kS ?_;intros;exact J0I (Le.nil 1) (Le.refl _)
 have hle:b≤a:=by
  rcases QI a b with h'|h'
  ·exact absurd (hcs.2 h') h
  exact h'
 clear h hcs;have hlab:=J0e hB4 hle
 have hlb:0<(dg B4 b).length:=by
  rcases Qr (dg B4 b).length with h|h
  ·have:=(J2A hB4 _).1 (Qu.1 h);omega
  exact h
 have da:=J0J hB4 a;have va:=J0v hB4 a
 have hsm:a/B4 ^ ((dg B4 a).length-(dg B4 b).length+1)<b:=by
  refine QP (Q03 ?_) (JIj hB4 b hb);rw[← Q1W];exact QP (J1l hB4 a) (Q05 (by decide) (by omega))
 have hdrop:=JHC hB4 a ((dg B4 a).length-(dg B4 b).length+1);have hget:=JEq hB4 a;have hdv0:=JNr hB4 hb;have hdv1:=JPA (b:=B4) (y:=b) hB4
 have hdvE:dvT B4 b=b/B4 ^ ((dg B4 b).length-2)+if 0<(dg B4 b).length-2 then 1 else 0:=rfl
 have hdv2:=fun r=>JPB (b:=B4) (r:=r) (y:=b) hB4;have htop:=JME b ((dg B4 b).length-2) (by omega) (by omega);unfold encN at *;generalize dvT B4 b=dv at *;generalize hA:dg B4 a=A at *;refine kS ?_;intros;simp only[QV,repD,Q3];have e1:((A.length:Int)-((dg B4 b).length:Int)+1).toNat=A.length-(dg B4 b).length+1:=by omega
 simp only[e1];refine kQ ?_;intros;obtain ⟨I,hI⟩:∃ I,I=A.length-(dg B4 b).length+1:=⟨_,rfl⟩;rw[← hI] at hsm hdrop ⊢;have hdI:=da.drop I;refine J00 [22] _ c313 (J0G ?_ (J2a (A.drop I) (by rw[Q0N];omega))) ?_
 ·have hsl:(A.map encD).take A.length=A.map encD:=by rw[Qm (by rw[Q3];exact QM _)]
  refine QC (fun z=>[z]) (ownD (e:=3) (out:=A.drop I) ?_ ?_)
  ·show some (_,(⟨_,_,_⟩:Blk))=_
   rw[hsl,Q2c];rfl
  rw[hsl];simp
 rw[JD1 hdI,hdrop];unfold encN;have eM:(max (0:Int) (((dg B4 b).length:Int)-2))=(((dg B4 b).length-2:Nat):Int):=by omega
 refine kWQ ?_;intros;simp only[eM];refine kQ ?_;intros;refine CallP.flat [] _ c360 htop rfl ?_;refine kWQ ?_;intros;have hd1:((b/B4 ^ ((dg B4 b).length-2):Nat):Int)+(if 0<(dg B4 b).length-2 then 1 else 0)=(dv:Int):=by rw[hdvE];split<;>omega
 obtain ⟨F,hF⟩:∃ F,F=(dg B4 b).length-2:=⟨_,rfl⟩;rw[← hF] at hd1 htop hdv2 ⊢;generalize b/B4 ^ F=tp at hd1 htop;replace hdv1:dv≤100000000:=hdv1;clear htop hdrop hdI e1 eM;refine CondP.dec (fun h=>?_) (fun h=>?_)<;>refine kX ?_
 case' refine_1=>
  refine kZ ?_;intros;rw[if_pos (by omega)] at hd1
 case' refine_2=>rw[if_neg (by omega),Int.add_zero] at hd1
 all_goals
  refine J0b (W.of (l:=[(0,J0s A),(1,J0s (dg B4 b)),(6,.own 21 _ 0 A.length),(7,J0s (dg B4 (a/B4 ^ I))),(8,encI F),(9,encI dv)]) (m:=[(21,_,⟨3,1,(List.replicate A.length 0).map encD⟩)]) ?_ ⟨rfl,rfl,rfl,rfl,rfl,QC encI hd1,trivial⟩ ⟨rfl,trivial⟩);clear hd1 h tp;refine kWQ ?_;intros
  refine LoopP.intro (fun n σ H=>∃ p i,∃ R:List Nat,n=i∧i≤I∧R.length+i=A.length∧Dig B4 R∧vl B4 R=a/B4 ^ i/b ∧
   σ=fr [(0,J0s A),(1,J0s (dg B4 b)),(6,.own 21 p 0 A.length),(7,J0s (dg B4 (a/B4 ^ i%b))),(8,encI F),(9,encI dv),(10,encI ((i:Int)-1))]∧H=hp [(21,p,⟨3,1,(List.replicate i 0++R).map encD⟩)]) ?_ ?_
  ·refine .intro <| W.of ⟨_,_,I,List.replicate (A.length-I) 0,rfl,QM _,by simp;omega,JAu (by decide) _,by rw[JDu,Q0X hsm],rfl,rfl⟩ ⟨rfl,rfl,rfl,?_,rfl,rfl,?_,trivial⟩ ⟨?_,trivial⟩
   ·rw[Q0M hsm];rfl
   ·show AV.val (.int .i64 _)=AV.val (.int .i64 _)
    congr 2;omega
   rw[List.replicate_append_replicate,show I+(A.length-I)=A.length by omega];rfl
  rintro n σ H ⟨p,i,R,rfl,hi,hR,dR,hv,rfl,rfl⟩;refine kWQ ?_;intros;refine CondP.dec (fun h=>?_) (fun h=>?_)<;>refine kW ?_
  ·obtain ⟨i,rfl⟩:∃ k,n=k+1:=⟨n-1,by omega⟩;have e1:(((i+1:Nat):Int)-1)=i:=by omega
   simp only[e1];have hi':i<A.length:=by omega
   have hai:=g4 da i hi';obtain ⟨hs1,hs2⟩:=JI2 (hget i hi') hb (show 0<B4 by decide);have hrb:=Q0B (a/B4 ^ (i+1)) hb;generalize a/B4 ^ (i+1)%b=r at hs1 hs2 hrb ⊢;have hrl:(dg B4 r).length≤(dg B4 b).length:=J0e hB4 (Q19 hrb);rw[← hv] at hs2;obtain ⟨d,hd⟩:∃ d,A[i]=d:=⟨_,rfl⟩;rw[hd] at hai hs1 hs2;have vr:=J0v hB4 r;have dr:=J0J hB4 r;obtain ⟨X,hX⟩:∃ X,dg B4 r=X:=⟨_,rfl⟩;rw[hX] at vr dr hrl ⊢;refine kQ ?_;intros;simp only[hd];have e3:((X.length:Int)+1).toNat=X.length+1:=by omega
   simp only[Q3,e3,repD,Q1D,QK]
   refine LoopP.intro (fun n σ H=>∃ p g k,n=X.length-k∧k≤X.length ∧
    σ=fr [(0,J0s A),(1,J0s (dg B4 b)),(6,.own 21 p 0 A.length),(7,J0s X),(8,encI F),(9,encI dv),(10,encI i),(11,.own 56 g 0 (X.length+1)),(12,encI k)] ∧
    H=hp [(21,p,⟨3,1,(List.replicate (i+1) 0++R).map encD⟩),(56,g,⟨3,1,(d::(X.take k++List.replicate (X.length-k) 0)).map encD⟩)]) ?_ ?_
   ·exact .intro <| W.of ⟨_,p,_,0,rfl,QG _,rfl,rfl⟩ ⟨rfl,rfl,rfl,rfl,rfl,rfl,rfl,rfl,rfl,trivial⟩ ⟨rfl,rfl,trivial⟩
   rintro n σ H ⟨p,g,k,rfl,hk,rfl,rfl⟩;have hxl:((d::(X.take k++List.replicate (X.length-k) 0)).map encD).length=X.length+1:=by simp;omega
   refine kWQ ?_;intros;refine CondP.dec (fun h=>?_) (fun h=>?_)<;>refine kW ?_
   ·(have h2:=h;try simp only[LN] at h2)
    have hk':k<X.length:=by omega
    have hget2:((d::(X.take k++List.replicate (X.length-k) 0)).map encD).getD (k+1) .dead=encD 0:=by
     rw[J0w _ _ _ (by simp;omega)];simp[Q0C,Q19 hk']
    have e4:((k:Int)+1).toNat=k+1:=by omega
    refine kQ ?_;intros;simp only[e4,Qq,hget2];refine kWQ ?_;intros
    refine .intro <| W.of ⟨_,by omega,p,_,k+1,rfl,hk',rfl,rfl⟩ ⟨rfl,rfl,rfl,rfl,rfl,rfl,rfl,rfl,rfl,trivial⟩ ⟨rfl,?_,trivial⟩
    have hst:(d::(X.take k++List.replicate (X.length-k) 0)).set (k+1) X[k]=d::(X.take (k+1)++List.replicate (X.length-(k+1)) 0):=by
     have:=J6y (d::X.take k) 0 X[k] (List.replicate (X.length-(k+1)) 0);rw[QT,Qb,Q10 hk,Q01] at this;rw[show X.length-k=X.length-(k+1)+1 by omega,Q1D,this,Qd hk',Qo];rfl
    rw[← hst,← setD (z:=((X[k]:Nat):Int)) X[k] rfl];rfl
   (have h2:=h;try simp only[LN] at h2)
   obtain rfl:k=X.length:=by omega
   rw[Qi,Q3F,List.replicate_zero,Q08] at hxl ⊢;have dN:Dig B4 (d::X):=Dig.cons hai dr;have vN:vl B4 (d::X)=d+B4*r:=by rw[vl,vr]
   refine kQ ?_;intros;refine J00 [56] _ c313 (J0G ?_ (J2a (d::X) (by rw[QT];omega))) ?_
   ·refine QC (fun z=>[z]) (ownD (e:=3) (out:=d::X) ?_ rfl);show some (_,(⟨_,_,_⟩:Blk))=_
    rw[Q08]
   rw[JD1 dN,vN]
   have hnb:d+B4*r<b*B4:=by
    have:=Qt B4 (show r+1≤b from hrb);rw[Q1M,Q0A B4 b] at this;have:d<B4:=hai;omega
   obtain ⟨N,hN⟩:∃ N,d+B4*r=N:=⟨_,rfl⟩;rw[hN] at hnb hs1 hs2 ⊢
   have hNl:(dg B4 N).length≤(dg B4 b).length+1:=J0F hB4 (by
    rw[Q0Q]
    exact QP hnb (Qf _ (Q19 (J1l hB4 b))))
   have hq0:=hdv2 N;have htop:=JME N F (by omega) (by omega);generalize hqq:N/B4 ^ F/dv=q0 at hq0
   have hqb:q0<10000:=by
    rcases QI q0 10000 with h'|h'
    ·exact h'
    have:=Qf b h';rw[show (B4:Nat)=10000 from rfl,Q0A b] at hnb;omega
   unfold encN;refine kWQ ?_;intros;unfold encN at htop;refine CallP.flat [] _ c360 htop rfl ?_;have hdiv:Int.tdiv ((N/B4 ^ F:Nat):Int) (dv:Int)=(q0:Int):=by rw[← hqq];rfl
   have hmd:=JDG b q0 (by omega) (by omega);have hsu:=J4b N (b*q0) (by omega) (by rw[Q0A];exact hq0);unfold encN at hmd hsu;refine kWQ ?_;intros;simp only[hdiv];refine kQ ?_;intros;refine J00 [] _ c361 hmd ?_;refine kWQ ?_;intros;refine J00 [] _ c312 hsu ?_;refine kWQ ?_;intros
   refine LoopP.intro (fun n σ H=>∃ p Z q,n=Z∧Z+b*q=N ∧
    σ=fr [(0,J0s A),(1,J0s (dg B4 b)),(6,.own 21 p 0 A.length),(7,J0s (dg B4 Z)),(8,encI F),(9,encI dv),(10,encI i),(13,encI q)] ∧
    H=hp [(21,p,⟨3,1,(List.replicate (i+1) 0++R).map encD⟩)]) ?_ ?_
   ·refine .intro <| W.of ⟨_,p,N-b*q0,q0,rfl,?_,rfl,rfl⟩ ⟨rfl,rfl,rfl,rfl,rfl,rfl,rfl,rfl,trivial⟩ ⟨rfl,trivial⟩
    rw[Q0A] at hq0;omega
   clear hq0 hqq hqb htop hdiv hmd hsu;rintro n σ H ⟨p,Z,q,rfl,hZ,rfl,rfl⟩;have hZl:=J0e hB4 (show n≤N by omega);have hc:=J2W n b (by omega) (by omega);have hcs:=(J3p n b).2.1;unfold encN at hc;generalize cmpN n b=c at hc hcs;have hql:q≤N/b:=by rw[Q2U hb,Q0A];omega
   have hNb:N/b<10000:=Q03 hnb;refine kWQ ?_;intros;refine CallP.flat [] _ c236 hc rfl ?_;refine kWQ ?_;intros;refine CondP.dec (fun h=>?_) (fun h=>?_)<;>refine kW ?_
   ·have hbZ:=hcs.1 h;have hsu:=J4b n b (by omega) hbZ;unfold encN at hsu;refine kQ ?_;intros;refine J00 [] _ c312 hsu ?_;refine kWQ ?_;intros
    refine .intro <| W.of ⟨_,by omega,p,n-b,q+1,rfl,?_,rfl,rfl⟩ ⟨rfl,rfl,rfl,rfl,rfl,rfl,rfl,rfl,trivial⟩ ⟨rfl,trivial⟩
    rw[Q1M];omega
   have hZb:n<b:=by
    rcases QI n b with h'|h'
    ·exact h'
    exact absurd (hcs.2 h') h
   have hq:N/b=q:=by rw[← hZ,Q1f _ _ hb,Q0X hZb,Qq]
   have hr:N%b=n:=by rw[← hZ,Q0k,Q0M hZb]
   rw[hq] at hs2;rw[hr] at hs1
   have hget2:((List.replicate (i+1) 0++R).map encD).getD i .dead=encD 0:=by
    rw[J0w _ _ _ (by simp;omega)];simp[Q0C]
   have hlen2:((List.replicate (i+1) 0++R).map encD).length=A.length:=by simp;omega
   refine kQ ?_;intros;simp only[QV,Qq,hget2];refine kWQ ?_;intros
   refine .intro <| W.of ⟨_,by omega,_,i,q::R,rfl,by omega,by simp;omega,Dig.cons (show q<B4 by unfold B4;omega) dR,?_,rfl,rfl⟩ ⟨rfl,rfl,rfl,?_,rfl,rfl,?_,trivial⟩ ⟨?_,trivial⟩
   ·rw[vl,hs2]
   ·rw[hs1];rfl
   ·rfl
   rw[← JNA,← setD (z:=(q:Int)) q rfl];rfl
  obtain rfl:n=0:=by omega
  rw[Q3B,Q2v] at hv ⊢;refine kQ ?_;intros;refine J00 [21] _ c313 (J0G ?_ (J2a R (by omega))) ?_
  ·refine QC (fun z=>[z]) (ownD (e:=3) (out:=R) ?_ (by omega));rfl
  rw[JD1 dR,hv];refine kWQ ?_;intros;exact .of rfl
def JBf (a b:Nat)(ha:(dg B4 a).length<2^37)(hb:(dg B4 b).length<2^37):PX 297 [encN a,encN b] (encN (Nat.gcd a b)):=by
 refine PZ Tryz.func297 rfl ?_;obtain ⟨G,hG⟩:∃ G,Nat.gcd a b=G:=⟨_,rfl⟩;rw[hG];unfold encN;refine kWQ ?_;intros;refine LoopP.intro (fun n σ H=>∃ a b,n=b∧(dg B4 a).length<2^37∧(dg B4 b).length<2^37∧Nat.gcd a b=G∧σ=fr [(0,J0s (dg B4 a)),(1,J0s (dg B4 b))]∧H=hp []) ?_ ?_
 ·exact .intro <| W.of ⟨_,a,b,rfl,ha,hb,hG,rfl,rfl⟩ ⟨rfl,rfl,trivial⟩ trivial
 clear ha hb hG a b;rintro n σ H ⟨a,b,rfl,ha,hb,hG,rfl,rfl⟩
 rcases Qr n with h0|h0
 ·subst h0;rw[Nat.gcd_zero_right] at hG;subst hG;rw[J0l];refine kWQ ?_;intros;refine CondP.neg (by decide) ?_;refine kWQ ?_;intros;exact .of rfl
 have hl:0<(dg B4 n).length:=by
  rcases Qr (dg B4 n).length with h|h
  ·have:=(J2A hB4 _).1 (Qu.1 h);omega
  exact h
 have hd:=J7r a n h0 ha hb;have hr:=Q0B a h0;have hml:=J0e hB4 (Q19 hr);rw[Q3D,Nat.gcd_rec,Q3D] at hG;unfold encN at hd;refine kWQ ?_;intros;refine J00 [] _ c308 hd ?_;refine kWQ ?_;intros
 exact .intro <| W.of ⟨_,hr,n,a%n,rfl,hb,by omega,hG,rfl,rfl⟩ ⟨rfl,rfl,trivial⟩ trivial
def J5h (n:Nat)(hn:(dg B4 n).length<2^37):PX 158 [encN n] (encI (decT n).length):=by
 refine PZ Tryz.func158 rfl ?_
 rcases Qr n with h0|h0
 ·subst h0;unfold encN;rw[J0l];refine kWQ ?_;intros;refine CondP.pos (by decide) ?_;refine kWQ ?_;intros;exact .of rfl
 have hl:0<(dg B4 n).length:=by
  rcases Qr (dg B4 n).length with h|h
  ·have:=(J2A hB4 _).1 (Qu.1 h);omega
  exact h
 have ht:(decT n).length=4*((dg B4 n).length-1)+(dg 10 ((dg B4 n).getD ((dg B4 n).length-1) 0)).length:=JC2 (k:=4) (by omega) n h0;have hd:=JAH (J0J hB4 n) ((dg B4 n).length-1);unfold encN;generalize (decT n).length=S at ht ⊢;generalize dg B4 n=A at *;obtain ⟨d,hdd⟩:∃ d,A[A.length-1]=d:=⟨_,rfl⟩;rw[← J0g (by omega),hdd] at hd ht;have e1:((A.length:Int)-1).toNat=A.length-1:=by omega
 refine kWQ ?_;intros;simp only[e1,hdd];refine kQ ?_;intros;have hS:S<2^40:=by have:=J0F (b:=10) (by omega) (QP hd (show 10000≤10 ^ 4 by decide));omega
 have hdl:(dg 10 d).length≤4:=J0F (by omega) (QP hd (by decide));refine LoopP.intro (fun m σ H=>∃ d c:Nat,m=d∧(dg 10 d).length≤4∧d<10000∧c+(dg 10 d).length=S∧σ=fr [(3,encI c),(4,encI d)]∧H=hp []) ?_ ?_
 ·refine .intro <| W.of ⟨_,d,4*(A.length-1),rfl,hdl,hd,ht.symm,rfl,rfl⟩ ⟨?_,rfl,trivial⟩ trivial
  show AV.val (.int .i64 _)=AV.val (.int .i64 _)
  congr 2;omega
 clear hdd hdl hd ht d;rintro m σ H ⟨d,c,rfl,hdl,hd,ht,rfl,rfl⟩
 rcases Qr m with h1|h1
 ·subst h1;rw[J0l] at ht;refine kWQ ?_;intros;exact .of (by rw[← ht];rfl)
 have hp:=QC List.length (J53 (b:=10) (by omega) h1);rw[QT] at hp;have e2:(m:Int).tdiv 10=((m/10:Nat):Int):=rfl;refine kWQ ?_;intros;simp only[e2];refine kQ ?_;intros;have hm10:m/10<m:=Q1z h1 (by omega)
 refine .intro <| W.of ⟨_,hm10,m/10,c+1,rfl,by omega,by omega,by omega,rfl,rfl⟩ ⟨rfl,rfl,trivial⟩ trivial
def encb (n:Nat):AV:=.val (.int .u8 n)
def setb {l:List Nat}{i:Nat}{z:Int}(n:Nat)(h:z=n):(l.map encb).set i (.val (.int .u8 z))=(l.set i n).map encb:=J9x encb l i n _ (by rw[h];rfl)
def repb (n:Nat):List.replicate n (mkEl { size:=1,bytes:=1,zero:=[Value.int .u8 0],kind:=Kd.int .u8 })=(List.replicate n 0).map encb:=by rw[Q2L];rfl
def ownb {b p e n:Nat}{H:Hp}{out:List Nat}(hb:H b=some (p,⟨e,1,out.map encb⟩))(hn:n=out.length):J08 [b] H 3 (.own b p 0 n)=.sl 1 (out.map encb):=by
 show snap [b] H (.own b p 0 n)=_
 rw[J2c (by simp) hb (by simp[hn]),J0S _ _ _ _ hn fun _=>rfl]
def JJI {l:List Nat}(h:l.all isDg=true):l.map encb=(l.map UInt8.ofNat).map (fun b=>AV.val (.int .u8 (b.toNat:Int))):=by
 rw[Q0p];refine Qk fun c hc=>?_;have:=QL.1 h c hc;unfold isDg at this;simp at this;show AV.val (.int .u8 (c:Int))=AV.val (.int .u8 ((UInt8.ofNat c).toNat:Int))
 rw[show (UInt8.ofNat c).toNat=c by simp;omega]
def JNu (n i p x:Nat)(hp:p<i)(hx:x=48+n/10 ^ p%10):(List.replicate (i-p) 48++dl n p).set (i-1-p) x=List.replicate (i-(p+1)) 48++dl n (p+1):=by
 have:=J6y (List.replicate (i-(p+1)) 48) 48 x (dl n p);rw[Q1H] at this;rw[show i-p=i-(p+1)+1 by omega,Q27,Qo,show i-1-p=i-(p+1) by omega];subst hx;exact this
def J5d (n:Nat)(hn:(dg B4 n).length<2^37):PX 159 [encN n] (encS (ofL ((decT n).map UInt8.ofNat))):=by
 refine PZ Tryz.func159 rfl ?_;have hs:=J5h n hn;unfold encN at *;have dA:=J0J hB4 n;have hg:=JEq hB4 n
 have hend:List.replicate ((decT n).length-min (4*(dg B4 n).length) (decT n).length) 48++dl n (min (4*(dg B4 n).length) (decT n).length)=decT n:=by
  rcases Qr n with h0|h0
  ·subst h0;rw[J0l];rfl
  have:(decT n).length≤4*(dg B4 n).length:=by
   rw[J55,if_neg (by omega)];refine J0F (by omega) (QP (J1l hB4 n) ?_);rw[Q1h];exact QM _
  rw[Nat.min_eq_right this,Q3F,JNv];rfl
 have hSl:(decT n).length≤4*(dg B4 n).length+1:=by
  rw[J55];split
  ·omega
  have:=J0F (b:=10) (by omega) (QP (J1l hB4 n) (by rw[show (B4:Nat)=10 ^ 4 from rfl,← Q1h];exact QM (10 ^ (4*(dg B4 n).length))));omega
 generalize hS:(decT n).length=S at hs hend hSl;generalize hA:dg B4 n=A at *;refine kWQ ?_;intros;refine CallP.flat [] _ c158 hs rfl ?_;refine kWQ ?_;intros;simp only[QV,repb];refine LoopP.intro (fun m σ H=>∃ p i,m=S-i∧i≤S∧σ=fr [(0,J0s A),(3,.own 11 p 0 S),(4,encI i)]∧H=hp [(11,p,⟨5,1,(List.replicate i 48++List.replicate (S-i) 0).map encb⟩)]) ?_ ?_
 ·exact .intro <| W.of ⟨_,_,0,rfl,QG _,rfl,rfl⟩ ⟨rfl,rfl,rfl,trivial⟩ ⟨rfl,trivial⟩
 rintro m σ H ⟨p,i,rfl,hi,rfl,rfl⟩;have hlen:((List.replicate i 48++List.replicate (S-i) 0).map encb).length=S:=by simp;omega
 refine kWQ ?_;intros;refine CondP.dec (fun h=>?_) (fun h=>?_)<;>refine kW ?_
 ·have hi':i<S:=by omega
  have hget:((List.replicate i 48++List.replicate (S-i) 0).map encb).getD i .dead=encb 0:=by
   rw[J0w _ _ _ (by simp;omega)];simp[Q0C]
  refine kQ ?_;intros;rw[hget];refine kWQ ?_;intros
  refine .intro <| W.of ⟨_,by omega,_,i+1,rfl,hi',rfl,rfl⟩ ⟨rfl,rfl,rfl,trivial⟩ ⟨?_,trivial⟩
  have hst:(List.replicate i 48++List.replicate (S-i) 0).set i 48=List.replicate (i+1) 48++List.replicate (S-(i+1)) 0:=by
   have:=J6y (List.replicate i 48) 0 48 (List.replicate (S-(i+1)) 0);rw[Q1H] at this;rw[show S-i=S-(i+1)+1 by omega,Q1D,this,Q27,Qo];rfl
  rw[← hst,← setb (z:=48) 48 rfl];rfl
 obtain rfl:i=S:=by omega
 rw[Q3F,List.replicate_zero,Q08] at hlen ⊢;refine kQ ?_;intros
 refine LoopP.intro (fun m σ H=>∃ p j,m=A.length-j∧j≤A.length∧σ=fr [(0,J0s A),(3,.own 11 p 0 i),(5,encI ((i:Int)-1-(min (4*j) i:Nat))),(6,encI j)] ∧
  H=hp [(11,p,⟨5,1,(List.replicate (i-min (4*j) i) 48++dl n (min (4*j) i)).map encb⟩)]) ?_ ?_
 ·refine .intro <| W.of ⟨_,_,0,rfl,QG _,rfl,rfl⟩ ⟨rfl,rfl,?_,rfl,trivial⟩ ⟨?_,trivial⟩
  ·show AV.val (.int .i64 _)=AV.val (.int .i64 _)
   congr 2;omega
  rw[Q39,Q10 (QG _),Q2l,dl,Q08];rfl
 clear hlen p;rintro m σ H ⟨p,j,rfl,hj,rfl,rfl⟩;refine kWQ ?_;intros;refine CondP.dec (fun h=>?_) (fun h=>?_)
 ·refine kW ?_
  (have h2:=h;try simp only[LN] at h2)
  have hj':j<A.length:=by omega
  have hdj:=g4 dA j hj';have hgj:=hg j hj';obtain ⟨d,hd⟩:∃ d,A[j]=d:=⟨_,rfl⟩;rw[hd] at hdj hgj;refine kQ ?_;intros;simp only[hd]
  refine LoopP.intro (fun m σ H=>∃ p k,m=4-k∧k≤4∧σ=fr [(0,J0s A),(3,.own 11 p 0 i),(5,encI ((i:Int)-1-(min (4*j+k) i:Nat))),(6,encI j),(7,encI (d/10 ^ k:Nat)),(8,encI k)] ∧
   H=hp [(11,p,⟨5,1,(List.replicate (i-min (4*j+k) i) 48++dl n (min (4*j+k) i)).map encb⟩)]) ?_ ?_
  ·exact .intro <| W.of ⟨_,p,0,rfl,QG _,rfl,rfl⟩ ⟨rfl,rfl,rfl,rfl,by rw[Q3B,Q2v];rfl,rfl,trivial⟩ ⟨rfl,trivial⟩
  clear p;rintro m σ H ⟨p,k,rfl,hk,rfl,rfl⟩
  rcases QI k 4 with hk4|hk4
  ·rcases QI (4*j+k) i with hp | hp
   ·skip
    rw[Q10 (Q19 hp)];have hlen:((List.replicate (i-(4*j+k)) 48++dl n (4*j+k)).map encb).length=i:=by simp[JBy];omega
    have hget:((List.replicate (i-(4*j+k)) 48++dl n (4*j+k)).map encb).getD (i-1-(4*j+k)) .dead=encb 48:=by
     rw[J0w _ _ _ (by simp[JBy];omega)]
     congr 1
     rw[Q0E (by simp;omega),Q38]
    have e1:((i:Int)-1-((4*j+k:Nat):Int)).toNat=i-1-(4*j+k):=by omega
    have e2:((d/10 ^ k:Nat):Int).tmod 10=((d/10 ^ k%10:Nat):Int):=rfl;have e3:((d/10 ^ k:Nat):Int).tdiv 10=((d/10 ^ (k+1):Nat):Int):=by rw[Q0Q,← Q1B];rfl
    have hx:48+d/10 ^ k%10=48+n/10 ^ (4*j+k)%10:=by
     rw[hgj,show (B4:Nat)=10 ^ 4 from rfl,JNx hk4]
    have hle:=Q1c d (10 ^ (k+1));obtain ⟨d',hd'⟩:∃ d',d/10 ^ (k+1)=d':=⟨_,rfl⟩;rw[hd'] at e3 hle;have hst:=JNu n i (4*j+k) (48+d/10 ^ k%10) hp hx;have hm:=Q0B (d/10 ^ k) (show 0<10 by omega);generalize d/10 ^ k%10=r at e2 hst hm;refine kWQ ?_;intros;simp only[e1,e2];refine kQ ?_;intros;simp only[e1,Qq,hget];refine kWQ ?_;intros;simp only[e3];refine kQ ?_;intros
    refine .intro <| W.of ⟨_,by omega,_,k+1,rfl,by omega,rfl,rfl⟩ ⟨rfl,rfl,?_,rfl,by rw[hd'];rfl,rfl,trivial⟩ ⟨?_,trivial⟩
    ·show AV.val (.int .i64 _)=AV.val (.int .i64 _)
     congr 2;omega
    rw[show min (4*j+(k+1)) i=4*j+k+1 by omega,← hst,← setb (z:=48+(r:Int)) (48+r) (by omega)];rfl
   rw[show min (4*j+k) i=min (4*(j+1)) i by omega];have hi':min (4*(j+1)) i=i:=by omega
   rw[hi'];refine kWQ ?_;intros
   refine .intro <| W.of ⟨_,by omega,_,j+1,rfl,hj',rfl,rfl⟩ ⟨rfl,rfl,?_,rfl,trivial⟩ ⟨?_,trivial⟩
   ·rw[hi'];rfl
   rw[hi'];rfl
  obtain rfl:k=4:=by omega
  rw[show min (4*j+4) i=min (4*(j+1)) i by omega];refine kWQ ?_;intros
  exact .intro <| W.of ⟨_,by omega,_,j+1,rfl,hj',rfl,rfl⟩ ⟨rfl,rfl,rfl,rfl,trivial⟩ ⟨rfl,trivial⟩
 (have h2:=h;try simp only[LN] at h2)
 obtain rfl:j=A.length:=by omega
 refine kX ?_;rw[hend];refine J0b (JLo 3 11 (x:=.own 11 p 0 i) (y:=.sl 1 ((decT n).map encb)) rfl (ownb (p:=p) (e:=5) rfl hS.symm) (W.of (l:=[(3,.sl 1 ((decT n).map encb))]) (m:=[]) ?_ ⟨rfl,trivial⟩ trivial));refine kWQ ?_;intros;refine BytesP.intro ((decT n).map UInt8.ofNat) (JJI (J2F n)) ?_;refine kWQ ?_;intros;exact .of rfl
def J8V {α:Type}(l:List α)(e i:Nat)(he:e≤i)(hi:i<l.length):(l.take (i+1)).drop e=(l.take i).drop e++[l[i]]:=by
 rw[Qd hi,List.drop_append_of_le_length (by simp;omega)]
def J3Y (t:List UInt8)(hD:isDs t=true)(hlt:t.length<2^35):PX 296 [encS (ofL t)] (encN (decU t)):=by
 refine PZ Tryz.func296 rfl ?_;have hsz:=J04 t
 have hdd:∀ i (hi:i<t.length),48≤(t[i]).toNat∧(t[i]).toNat≤57:=by
  intro i hi;have:=QL.1 hD _ (QF hi);unfold isD at this;simp at this;omega
 obtain ⟨C,hC⟩:∃ C,C=J2X 4 t.length (revD t t.length):=⟨_,rfl⟩;(refine kWQ ?_;repeat intro γ)
 refine LoopP.intro (fun k σ H=>∃ g z f,∃ out:List Nat,k=z.toNat∧z.toNat≤t.length∧-4<z∧z.toNat≤f∧out.length+z.toNat≤t.length∧out++J2X 4 f (revD t z.toNat)=C ∧
  σ=fr [(0,encS (ofL t)),(3,.own 100 g 0 out.length),(4,encI z)]∧H=hp [(100,g,⟨3,1,out.map encD⟩)]) ?_ ?_
 ·refine .intro (J24 3 100 3 1 rfl rfl fun g=>W.of ⟨_,g,(t.length:Int),t.length,[],rfl,by omega,by omega,by omega,by simp,by rw[hC];rfl,rfl,rfl⟩ ⟨rfl,rfl,rfl,trivial⟩ ⟨rfl,trivial⟩)
 rintro k σ H ⟨g,z,f,out,rfl,hz1,hz2,hzf,hol,hout,rfl,rfl⟩;(refine kWQ ?_;repeat intro γ);refine CondP.dec (fun h=>?_) (fun h=>?_)<;>refine kW ?_
 ·obtain ⟨f,rfl⟩:∃ f',f=f'+1:=⟨f-1,by omega⟩;have hR:revD t z.toNat≠[]:=fun e=>by have:=J6S t z.toNat hz1;rw[e] at this;simp at this;omega
  unfold J2X at hout;rw[if_neg hR,JBJ t _ 4 hz1,JBK t _ 4 hz1] at hout;have hmax:max 0 (z-4)=((z.toNat-4:Nat):Int):=by omega
  (refine kQ ?_;repeat intro γ);simp only[hmax]
  refine LoopP.intro (fun k σ H=>∃ g i w,k=z.toNat-i∧z.toNat-4≤i∧i≤z.toNat∧w=decU ((t.take i).drop (z.toNat-4)) ∧
   σ=fr [(0,encS (ofL t)),(3,.own 100 g 0 out.length),(4,encI z),(5,encI w),(6,encI i)]∧H=hp [(100,g,⟨3,1,out.map encD⟩)]) ?_ ?_
  ·refine .intro <| W.of ⟨_,g,z.toNat-4,0,rfl,QM _,by omega,?_,rfl,rfl⟩ ⟨rfl,rfl,rfl,rfl,rfl,trivial⟩ ⟨rfl,trivial⟩
   rw[Q0G (by simp;omega)];rfl
  clear g;rintro k σ H ⟨g,i,w,rfl,hi1,hi2,hw,rfl,rfl⟩
  have hwl:=JAQ ((t.take i).drop (z.toNat-4)) (fun j hj=>by
   rw[Q0o,Q0n]
   exact hdd _ (by simp at hj;omega))
  rw[← hw,Q0N,Qb] at hwl;have hw4:w<10 ^ 4:=QP hwl (Q05 (by omega) (by omega));have hml:(out.map encD).length=out.length:=Q3 _;(refine kWQ ?_;repeat intro γ);refine CondP.dec (fun h=>?_) (fun h=>?_)<;>refine kW ?_
  ·have hi':i<z.toNat:=by omega
   have hit:i<t.length:=by omega
   have hc:=hdd i hit
   have hs:decU ((t.take (i+1)).drop (z.toNat-4))=10*w+((t[i]).toNat-48):=by
    rw[hw,J8V t _ i hi1 hit];unfold decU;rw[QW];exact JC3 _ _
   have hb:=J0h t i hit;generalize (t[i]).toNat=d at hc hs hb;(refine kQ ?_;repeat intro γ);simp only[QV,hb];(refine kQ ?_;repeat intro γ)
   refine .intro <| W.of ⟨_,by omega,g,i+1,_,rfl,by omega,by omega,hs.symm,rfl,rfl⟩ ⟨rfl,rfl,rfl,?_,rfl,trivial⟩ ⟨rfl,trivial⟩
   show AV.val (.int .i64 _)=AV.val (.int .i64 _)
   congr 2;omega
  obtain rfl:i=z.toNat:=by omega
  (refine kQ ?_;repeat intro γ)
  refine .intro <| W.of ⟨(z-4).toNat,by omega,γ,z-4,f,out++[w],rfl,by omega,by omega,by omega,by simp;omega,?_,rfl,rfl⟩ ⟨rfl,?_,rfl,trivial⟩ ⟨?_,trivial⟩
  ·rw[hw,← hout,show (z-4).toNat=z.toNat-4 by omega];simp
  ·exact QC (AV.own 100 _ 0) (by simp)
  show some (_,(⟨_,_,_++_⟩:Blk))=_
  simp;rfl
 have hz0:z.toNat=0:=by omega
 have hCo:out=C:=by
  rw[← hout,hz0];have:J2X 4 f (revD t 0)=[]:=by cases f<;>rfl
  rw[this];simp
 have hdt:(t.map UInt8.toNat).all isDg=true:=by
  rw[Q3E,QL];intro x hx;have:=QL.1 hD x hx;unfold isD at this;simp at this;unfold isDg;exact Q2 (by simpa using this)
 have hrt:revD t t.length=(t.map UInt8.toNat).reverse.map (· - 48):=by unfold revD;rw[Qi]
 have hv:vl B4 out=decU t:=by
  rw[hCo,hC,show (B4:Nat)=10 ^ 4 from rfl,J87 (by omega) _ _ (by rw[J6S _ _ (QM _)];exact QM _),hrt];rfl
 have hd:Dig B4 out:=by
  rw[hCo,hC,hrt];exact J5z _ _ (JEp hdt)
 refine kQ ?_;intros;refine J00 [100] _ c313 (J0G ?_ (J2a out (by omega))) ?_
 ·exact QC (fun z=>[z]) (ownD rfl rfl)
 rw[JD1 hd,hv];refine kWQ ?_;intros;exact .of rfl
def J3e (n:Int):PX 184 [.val (.int .u8 n)] (encB (lttI n)):=by
 refine PZ Tryz.func184 rfl ?_;refine kW ?_
 (repeat (any_goals (first|((first|refine N0 ?_|refine A0 fun γ=>?_|refine C1 ?_|refine C2 ?_|refine C3 ?_|refine C4 ?_|refine C5 ?_|refine C6 ?_|refine C7 ?_|refine D0 fun γs=>?_|refine A1 fun γs=>?_|refine N2 ?_|refine N3 ?_|refine N1 ?_);refine kW ?_)|(refine CondP.dec (fun _=>?_) (fun _=>?_)<;>refine kW ?_)|(refine CondP.intro (fun _=>?_) (fun _=>?_)<;>refine kW ?_))))
 all_goals (refine .of ?_;show AV.val (Value.bool _)=AV.val (Value.bool _);congr 2;unfold lttI;first|exact (Q2 (by omega)).symm|exact (Q1 (by omega)).symm|exact QS.2 (by omega))
def JIh (n:Int):PX 185 [.val (.int .u8 n)] (encB (digI n)):=by
 refine PZ Tryz.func185 rfl ?_;refine kW ?_
 (repeat (any_goals (first|((first|refine N0 ?_|refine A0 fun γ=>?_|refine C1 ?_|refine C2 ?_|refine C3 ?_|refine C4 ?_|refine C5 ?_|refine C6 ?_|refine C7 ?_|refine D0 fun γs=>?_|refine A1 fun γs=>?_|refine N2 ?_|refine N3 ?_|refine N1 ?_);refine kW ?_)|(refine CondP.dec (fun _=>?_) (fun _=>?_)<;>refine kW ?_)|(refine CondP.intro (fun _=>?_) (fun _=>?_)<;>refine kW ?_))))
 all_goals (refine .of ?_;show AV.val (Value.bool _)=AV.val (Value.bool _);congr 2;unfold digI;first|exact (Q2 (by omega)).symm|exact (Q1 (by omega)).symm|exact QS.2 (by omega))
def J5N (s:ByteArray)(hs:s.size≤2^62):PX 94 [encS s] (encB (nameF s)):=by
 refine PZ Tryz.func94 rfl ?_;generalize hF:nameF s=F;unfold nameF at hF
 by_cases h1:s.size<1
 ·rw[Q1 (by omega)] at hF;refine kWO ?_;intros;exact .of (by rw[← hF];rfl)
 by_cases h2:80<s.size
 ·rw[Q1 (by omega)] at hF;refine kWO ?_;intros;exact .of (by rw[← hF];rfl)
 rw[Q2 (by omega),QB] at hF;have hlt:=J3e (byteAt s 0)
 cases hb:lttI (byteAt s 0) with
 |false=>
   rw[hb] at hF hlt;refine kWO ?_;intros;refine CallP.flat [] _ c184 hlt rfl ?_;refine kWO ?_;intros;exact .of (by rw[← hF];rfl)
 |true=>
   rw[hb,QB] at hF;rw[hb] at hlt;refine kWO ?_;intros;refine CallP.flat [] _ c184 hlt rfl ?_;refine kWO ?_;intros;refine LoopP.intro (fun k σ H=>∃ i,i≤s.size∧k=s.size-i∧JDf s i (s.size-i)=F∧σ=fr [(0,encS s),(3,encI i)]∧H=hp []) ?_ ?_
   ·exact .intro <| W.of ⟨_,0,QG _,rfl,hF,rfl,rfl⟩ ⟨rfl,rfl,trivial⟩ trivial
   clear hF hlt hb;rintro k σ H ⟨i,hi,rfl,hF,rfl,rfl⟩
   rcases QI i s.size with h3|h3
   ·rw[show s.size-i=s.size-(i+1)+1 by omega,JDf] at hF;have hl:=J3e (byteAt s i);have hd:=JIh (byteAt s i);generalize hn:byteAt s i=n at hF hl hd;have good:okI n=true→JDf s (i+1) (s.size-(i+1))=F:=fun h=>by rw[← hF,h];rfl
    have bad:okI n=false→F=false:=fun h=>by rw[← hF,h];rfl
    unfold okI sigI at good bad;clear hF
    cases h5:lttI n with
    |true=>
      rw[h5] at hl good;refine kWO ?_;intros;simp only[QV,hn];refine CallP.flat [] _ c184 hl rfl ?_;refine kWO ?_;intros
      exact .intro <| W.of ⟨_,by omega,i+1,by omega,rfl,good rfl,rfl,rfl⟩ ⟨rfl,rfl,trivial⟩ trivial
    |false =>
      rw[h5] at hl good bad
      cases h6:digI n with
      |true=>
        rw[h6] at hd good;refine kWO ?_;intros;simp only[QV,hn];refine CallP.flat [] _ c184 hl rfl ?_;refine kWO ?_;intros;refine CallP.flat [] _ c185 hd rfl ?_;refine kWO ?_;intros
        exact .intro <| W.of ⟨_,by omega,i+1,by omega,rfl,good rfl,rfl,rfl⟩ ⟨rfl,rfl,trivial⟩ trivial
      |false=>
        rw[h6] at hd good bad;simp only[Qj,Qa,Qe] at good bad;refine kWO ?_;intros;simp only[QV,hn];refine CallP.flat [] _ c184 hl rfl ?_;refine kWO ?_;intros;refine CallP.flat [] _ c185 hd rfl ?_;refine kW ?_
        by_cases h7:n=95∨n=46∨n=91∨n=93∨n=44∨n=39
        ·have hg:=good h7
         rcases h7 with h|h|h|h|h|h
         all_goals
          refine kO ?_;intros
          exact .intro <| W.of ⟨_,by omega,i+1,by omega,rfl,hg,rfl,rfl⟩ ⟨rfl,rfl,trivial⟩ trivial
        have hg:=bad h7;refine kO ?_;intros;exact .of (by rw[hg];rfl)
   rw[show s.size-i=0 by omega] at hF;refine kWO ?_;intros;exact .of (by rw[← hF];rfl)
def JDJ (n:Nat):isD n=true↔48≤n∧n≤57:=by
 unfold isD;rw[Q5,Nat.ble_eq,Nat.ble_eq]
def digB (l:List UInt8):Bool:=decide (1≤l.length)&&decide (l.length≤300)&&!(decide (1<l.length)&&decide (l.headD 0=48))&&isDs l
def JBz (l:List UInt8)(hl:l.length<2^62):PX 295 [encS (ofL l)] (encB (digB l)):=by
 refine PZ Tryz.func295 rfl ?_;have hsz:=J04 l;generalize hF:digB l=F;unfold digB at hF
 by_cases h0:l.length<1
 ·rw[Q1 (by omega)] at hF;refine kWO ?_;intros;exact .of (by rw[← hF];rfl)
 rw[Q2 (by omega),QB] at hF
 by_cases h1:300<l.length
 ·rw[Q1 (by omega)] at hF;refine kWO ?_;intros;exact .of (by rw[← hF];rfl)
 rw[Q2 (by omega),QB] at hF;have hb:=J0h l 0 (by omega)
 have hh:l.headD 0=l[0]:=by cases l with
  |nil=>simp at h0
  |cons c r=>rfl
 rw[hh] at hF
 by_cases h2:1<l.length∧l[0]=48
 ·have h48:(l[0]).toNat=48:=by rw[h2.2];rfl
  rw[Q2 h2.1,Q2 h2.2] at hF;refine kWO ?_;intros;rw[show byteAt (ofL l) (Int.toNat 0)=48 by rw[show Int.toNat 0=0 from rfl,hb,h48];rfl];refine kO ?_;intros;exact .of (by rw[← hF];rfl)
 have hd : (decide (1<l.length)&&decide (l[0]=48))=false:=by
  rcases QI 1 l.length with h|h
  ·rw[Q1 (fun e=>h2 ⟨h,e⟩),Q0U]
  rw[Q1 (by omega),QD]
 have hne:1<l.length→¬ ((l[0]).toNat:Int)=48:=fun h e=>h2 ⟨h,Q0h (by rw[show (48:UInt8).toNat=48 from rfl];omega)⟩;rw[hd,Q0L,QB] at hF;have hF2:isDs (l.drop 0)=F:=hF
 rcases QI 1 l.length with h3|h3
 case' inl=>have hn3:=hne h3
 all_goals
  refine kWO ?_;intros
  try rw[show byteAt (ofL l) (Int.toNat 0)=((l[0]).toNat:Int) from hb]
  refine kO ?_;intros;refine LoopP.intro (fun k σ H=>∃ i,i≤l.length∧k=l.length-i∧isDs (l.drop i)=F∧σ=fr [(0,encS (ofL l)),(3,encI i)]∧H=hp []) ?_ ?_
  ·exact .intro <| W.of ⟨_,0,QG _,rfl,hF2,rfl,rfl⟩ ⟨rfl,rfl,trivial⟩ trivial
  rintro k σ H ⟨i,hi,rfl,hF,rfl,rfl⟩
  rcases QI i l.length with h4|h4
  ·rw[Q6 h4] at hF;have hbi:=J0h l i h4;unfold isDs at hF;rw[Q0l] at hF;have hdi:=JDJ (l[i]).toNat;generalize (l[i]).toNat=d at hF hbi hdi
   cases h5:isD d with
   |true=>
     rw[h5,QB] at hF;have h6:=hdi.1 h5;refine kWO ?_;intros;simp only[QV,hbi];refine kO ?_;intros;simp only[QV,hbi];refine kO ?_;intros
     exact .intro <| W.of ⟨_,by omega,i+1,by omega,rfl,hF,rfl,rfl⟩ ⟨rfl,rfl,trivial⟩ trivial
   |false=>
     rw[h5,QD] at hF;have h6:¬ (48≤d∧d≤57):=fun h=>by rw[hdi.2 h] at h5;cases h5
     refine kWO ?_;intros;simp only[QV,hbi]
     rcases QI d 48 with h7|h7
     all_goals
      refine kO ?_;intros
      try simp only[QV,hbi]
      try refine kO ?_;intros
      exact .of (by rw[← hF];rfl)
  rw[Q9 h4] at hF;refine kWO ?_;intros;exact .of (by rw[← hF];rfl)
def J3a (l:List UInt8):(J03 l).1.length≤l.length∧(J03 l).1=l.take (J03 l).1.length∧(∀ j (h:j<l.length),j<(J03 l).1.length→l[j]≠47) ∧
  (∀ h:(J03 l).1.length<l.length,(J03 l).2.2=true∧(J03 l).2.1=l.drop ((J03 l).1.length+1)∧l[(J03 l).1.length]=47)∧(l.length≤(J03 l).1.length→(J03 l).2.2=false):=by
 induction l with
 |nil=>exact ⟨by decide,rfl,fun j h=>absurd h (by simp),fun h=>absurd h (by simp),fun _=>rfl⟩
 |cons c l ih=>
   by_cases hc:c=47
   ·have e:J03 (c::l)=([],l,true):=by unfold J03;rw[if_pos hc]
    rw[e];exact ⟨by simp,rfl,fun j h h'=>absurd h' (by simp),fun h=>⟨rfl,rfl,by simpa using hc⟩,fun h=>by simp at h⟩
   have e:J03 (c::l)=(c::(J03 l).1,(J03 l).2.1,(J03 l).2.2):=by rw[J03,if_neg hc]
   obtain ⟨h1,h2,h3,h4,h5⟩:=ih;rw[e];simp only[QT,Q0D];refine ⟨by omega,by rw[← h2],fun j h h'=>?_,fun h=>?_,fun h=>h5 (by omega)⟩
   ·cases j with
    |zero=>exact hc
    |succ j=>exact h3 j (by omega) (by omega)
   obtain ⟨a,b,d⟩:=h4 (by omega);exact ⟨a,by rw[b,Q1S],d⟩
def encR (n:Int)(d:Nat):AV:=.agg [encB (decide (n<0)),encN n.natAbs,encN d]
def J6I (m:Bool)(t:List UInt8):Option (Int×Nat):=
 if digB (J03 t).1=false then none
 else if (J03 t).2.2=true then
  if digB (J03 t).2.1=false then none
  else if decU (J03 t).2.1≤1∨Nat.gcd (decU (J03 t).1) (decU (J03 t).2.1)≠1 then none
  else if m=true∧decU (J03 t).1=0 then none
  else some (if m then -(decU (J03 t).1:Int) else decU (J03 t).1,decU (J03 t).2.1)
 else if m=true∧decU (J03 t).1=0 then none
 else some (if m then -(decU (J03 t).1:Int) else decU (J03 t).1,1)
def readR (l:List UInt8):Option (Int×Nat):=match l with
 |45::t=>J6I true t
 |t=>J6I false t
def nilR:AV:=.agg [encB false,.val (.slice none 0 0),.val (.slice none 0 0)]
def JBr:Option (Int×Nat)→AV
 |some (n,d)=>encR n d
 |none=>encR 0 0
def JNT:Le nilR (encR 0 0):=by
 have h:=Le.cons (Le.refl (encB false)) (Le.cons (Le.nil 1) (Le.cons (Le.nil 1) J8N))
 have e:encR 0 0=.agg [encB false,.sl 1 [],.sl 1 []]:=by
  unfold encR encN;rw[show (0:Int).natAbs=0 from rfl,J0l];rfl
 rw[e];exact Le.agg h.1 h.2
def J3h:Fw.Ends (.tup [nilR,encB false]) (.tup [JBr none,encB (none:Option (Int×Nat)).isSome]):=J0I JNT (Le.refl _)
def JBM (l:List UInt8):∃ t m,readR l=J6I m t∧t.length≤l.length∧((m=true∧l=45::t)∨(m=false∧t=l∧∀ c r,l=c::r→c≠45)):=by
 unfold readR;split
 ·rename_i t;exact ⟨t,true,rfl,by simp,.inl ⟨rfl,rfl⟩⟩
 rename_i h;exact ⟨l,false,rfl,QM _,.inr ⟨rfl,rfl,fun c r e e2=>h r (by rw[e,e2])⟩⟩
def JAN (m:Bool)(n d:Nat)(h:¬ (m=true∧n=0)):AV.agg [encB m,encN n,encN d]=encR (if m then -(n:Int) else n) d:=by
 unfold encR
 cases m with
 |true=>
   have:n≠0:=fun e=>h ⟨rfl,e⟩;rw[if_pos rfl,Q1q,Q06,Q2 (by omega)]
 |false=>rw[if_neg (by decide),Q06,Q1 (by omega)]
def J3k (l:List UInt8):digB l=true→isDs l=true∧(dg B4 (decU l)).length≤75:=by
 intro h;unfold digB at h;simp only[Q5,Qa] at h;refine ⟨h.2,J0F hB4 ?_⟩
 have hlt:=JAQ l (fun i hi=>by
  have:=QL.1 h.2 _ (QF hi)
  exact (JDJ _).1 this)
 refine QP hlt ?_;rw[show (B4:Nat)=10 ^ 4 from rfl,← Q1h];exact Q05 (by omega) (by omega)
def J8K (l : List UInt8)(hl:l.length<2^35):PX 207 [encS (ofL l)] (.tup [JBr (readR l),encB (readR l).isSome]):=by
 refine PZ Tryz.func207 rfl ?_;obtain ⟨t,m,hr,htl,hm⟩:=JBM l;rw[hr];clear hr;obtain ⟨p1,p2,p3,p4,p5⟩:=J3a t;generalize hF:J6I m t=F;unfold J6I at hF;have hsz:=J04 l
 have hstart:(m=true∧0<l.length∧byteAt (ofL l) 0=45∧(ofL l).extract 1 (ofL l).size=ofL t)∨(m=false∧t=l∧(l.length=0∨0<l.length∧byteAt (ofL l) 0≠45)):=by
  rcases hm with ⟨h1,h2⟩|⟨h1,h2,h3⟩
  ·refine .inl ⟨h1,by rw[h2];simp,by rw[h2,J0h _ 0 (by simp)];rfl,?_⟩;rw[h2,J09,J04,Qi];rfl
  refine .inr ⟨h1,h2,?_⟩
  cases l with
  |nil=>exact .inl rfl
  |cons c r=>
    refine .inr ⟨by simp,?_⟩;rw[J0h _ 0 (by simp)];have:=h3 c r rfl;intro e;apply this;apply Q0h;have e2:((c.toNat:Nat):Int)=45:=e;rw[show (45:UInt8).toNat=45 from rfl];omega
 clear hm;obtain ⟨p,hpl⟩:∃ p,(J03 t).1.length=p:=⟨_,rfl⟩;rw[hpl] at p1 p2 p3 p4 p5;have hx0:(ofL t).extract 0 p=ofL (J03 t).1:=by rw[J09,Q0F,← p2]
 have hx1:p<t.length→(ofL t).extract (p+1) (ofL t).size=ofL (J03 t).2.1:=fun h=>by rw[(p4 h).2.1,J09,J04,Qi]
 have p6:∀ h:p<t.length,(J03 t).2.2=true∧byteAt (ofL t) p=47∧(J03 t).2.1.length≤t.length:=fun h=>by
  obtain ⟨a,b,c⟩:=p4 h;refine ⟨a,by rw[J0h _ _ h,c];rfl,by rw[b];simp⟩
 have p7:∀ j,j<p→¬ byteAt (ofL t) j=47:=fun j h e=>p3 j (by omega) h (by
  rw[J0h _ _ (by omega)] at e;apply Q0h
  rw[show (47:UInt8).toNat=47 from rfl];omega)
 have hst:=J04 t;have ll:=JBz (J03 t).1 (by omega);have lr:=fun h=>J3Y (J03 t).1 h (by omega);have kl:=fun h=>JBz (J03 t).2.1 (by have:=(p6 h).2.2;omega);have kr:=fun h h'=>J3Y (J03 t).2.1 h' (by have:=(p6 h).2.2;omega);have sl:=J3k (J03 t).1;have sr:=J3k (J03 t).2.1;clear p2 p3 p4;generalize (J03 t).1=top at *;generalize (J03 t).2.1=low at *;generalize (J03 t).2.2=ok at *
 rcases hstart with ⟨hm,h0,hb,hx⟩|⟨hm,ht,h0⟩
 case' inl=>
  refine kWO ?_;intros;rw[show byteAt (ofL l) (Int.toNat 0)=45 from hb];refine kO ?_;intros
 case' inr=>rcases h0 with h0|⟨h0,hb⟩
 case' inr.inl=>
  refine kWO ?_;intros
 case' inr.inr=>
  refine kWO ?_;intros;refine CondP.neg (by exact hb) ?_;refine kWO ?_;intros
 all_goals
  refine LoopP.intro (fun k σ H=>∃ g i,i≤p∧k=p-i∧σ=fr [(0,encS (ofL t)),(2,.op 2 g 0 0),(4,encB m),(5,encI i)]∧H=hp [(2,g,⟨121,3,[nilR]⟩)]) ?_ ?_
  ·refine .intro <| W.of ⟨_,_,0,QG _,rfl,rfl,rfl⟩ ⟨?_,rfl,?_,rfl,trivial⟩ ⟨rfl,trivial⟩
   ·first
     |exact QC encS hx
     |(rw[ht];rfl)
   rw[hm]
   first
    |rfl
    |exact QC encB (Q1 hb)
  clear hsz hm
  try clear h0
  try clear hb
  try clear hx
  rintro k σ H ⟨g,i,hi,rfl,rfl,rfl⟩
  rcases QI i p with h1|h1
  ·have h47:=p7 i h1;refine kWO ?_;intros;simp only[QV];refine kO ?_;intros
   exact .intro <| W.of ⟨_,by omega,_,i+1,by omega,rfl,rfl,rfl⟩ ⟨rfl,rfl,rfl,rfl,trivial⟩ ⟨rfl,trivial⟩
  obtain rfl:i=p:=by omega
  have one:PX 225 [.val (.int .u64 1)] (encN 1):=J4m 1 (by decide)
  rcases QI i t.length with h2|h2
  case' inl=>
   obtain ⟨q1,q2,q3⟩:=p6 h2;refine kWO ?_;intros;simp only[QV];refine kO ?_;intros
  case' inr=>
   have q1:=p5 h2;refine kWO ?_;intros
  all_goals
   simp only[QV,hx0]
   cases hd:digB top with
   |false=>
     rw[hd] at ll;rw[hd,if_pos rfl] at hF;subst hF;refine CallP.flat [] _ c295 ll rfl ?_;refine kWO ?_;intros;exact J3h
   |true =>
     obtain ⟨hds,hn75⟩:=sl hd;have lr':=lr hds;rw[hd] at ll;rw[hd,if_neg (by decide)] at hF;clear lr sl hd hds;generalize decU top=n at *;refine CallP.flat [] _ c295 ll rfl ?_;refine kWO ?_;intros;simp only[QV,hx0];refine J00 [] _ c296 lr' ?_;refine kWO ?_;intros;refine J00 [] _ c225 one ?_;refine kWO ?_;intros;have hn0:(dg B4 n).length=0↔n=0:=Qu.trans (J2A hB4 n)
     first
      | (rw[if_neg (by rw[q1];decide)] at hF
         by_cases hz:m=true∧n=0
         ·rw[if_pos hz] at hF;obtain ⟨rfl,hz2⟩:=hz;have hz3:=hn0.2 hz2;subst hF;refine kQ ?_;intros;exact J3h
         rw[if_neg hz] at hF;subst hF;have hend:=JAN m n 1 hz
         cases m with
         |false=>
           refine kQ ?_;intros;exact .of (QC (fun z=>AV.tup [z,encB true]) hend)
         |true=>
           have hz3:¬ (dg B4 n).length=0:=fun h=>hz ⟨rfl,hn0.1 h⟩;refine kQ ?_;intros
           exact .of (QC (fun z=>AV.tup [z,encB true]) hend))
      | (have hx2:=hx1 h2
         have kl':=kl h2;have kr':=kr h2;have e1:((i:Int)+1).toNat=i+1:=by omega
         rw[if_pos q1] at hF;refine kO ?_;intros;simp only[e1,hx2]
         cases hd:digB low with
         |false=>
           rw[hd] at kl';rw[hd,if_pos rfl] at hF;subst hF;refine CallP.flat [] _ c295 kl' rfl ?_;refine kWO ?_;intros;exact J3h
         |true=>
           obtain ⟨hds,hd75⟩:=sr hd;have kr2:=kr' hds;rw[hd] at kl';rw[hd,if_neg (by decide)] at hF;clear kr kr' sr hd hds;generalize decU low=d at *;have one75:(dg B4 1).length≤75:=J0F hB4 (by decide);have hc:=J2W d 1 (by omega) (by omega);have hc1:=(J3p d 1).2.2.2;generalize cmpN d 1=c1 at hc hc1;refine CallP.flat [] _ c295 kl' rfl ?_;refine kWO ?_;intros;simp only[e1,hx2];refine J00 [] _ c296 kr2 ?_;refine kWO ?_;intros;refine J00 [] _ c225 one ?_;refine kWO ?_;intros;refine CallP.flat [] _ c236 hc rfl ?_;refine kW ?_
           by_cases h3:d≤1
           ·rw[if_pos (.inl h3)] at hF;subst hF;have h4:=hc1.2 h3;refine kO ?_;intros;exact J3h
           have h4:¬ c1≤0:=fun h=>h3 (hc1.1 h);have hg:=JBf n d (by omega) (by omega);have hg75:(dg B4 (n.gcd d)).length≤75:=Qg (J0e hB4 (Nat.gcd_le_right n (by omega))) hd75;have hcg:=J2W (n.gcd d) 1 (by omega) (by omega);have hcg1:=(J3p (n.gcd d) 1).2.2.1;generalize cmpN (n.gcd d) 1=c2 at hcg hcg1;refine kO ?_;intros;refine J00 [] _ c297 hg ?_;refine kWO ?_;intros;refine J00 [] _ c225 one ?_;refine kWO ?_;intros;refine CallP.flat [] _ c236 hcg rfl ?_;refine kW ?_
           by_cases h5:n.gcd d=1
           case neg=>
            rw[if_pos (.inr h5)] at hF;subst hF;have h6:¬ c2=0:=fun h=>h5 (hcg1.1 h);refine kO ?_;intros;exact J3h
           have h6:=hcg1.2 h5;rw[if_neg (by rintro (h|h);exact h3 h;exact h h5)] at hF;refine kO ?_;intros
           skip
           by_cases hz:m=true∧n=0
           ·rw[if_pos hz] at hF;obtain ⟨rfl,hz2⟩:=hz;have hz3:=hn0.2 hz2;subst hF;refine kQ ?_;intros;exact J3h
           rw[if_neg hz] at hF;subst hF;have hend:=JAN m n d hz
           cases m with
           |false=>
             refine kQ ?_;intros;exact .of (QC (fun z=>AV.tup [z,encB true]) hend)
           |true=>
             have hz3:¬ (dg B4 n).length=0:=fun h=>hz ⟨rfl,hn0.1 h⟩;refine kQ ?_;intros
             exact .of (QC (fun z=>AV.tup [z,encB true]) hend))
def l4 (n:Nat):Nat:=(dg B4 n).length
def J7V (x y:Nat):l4 (x*y)≤l4 x+l4 y:=by
 unfold l4;refine J0F hB4 ?_;rw[Q1W];exact Nat.mul_lt_mul'' (J1l hB4 x) (J1l hB4 y)
def JDI {x y:Nat}(h:x≤y):l4 x≤l4 y:=J0e hB4 h
def JOu (x y:Nat):l4 (x+y)≤max (l4 x) (l4 y)+1:=by
 unfold l4;refine J0F hB4 ?_;have h1:x<B4 ^ max (dg B4 x).length (dg B4 y).length:=QP (J1l hB4 x) (Q05 (by decide) (Q3M _ _));have h2:y<B4 ^ max (dg B4 x).length (dg B4 y).length:=QP (J1l hB4 y) (Q05 (by decide) (Q35 _ _));rw[Q0Q];show x+y<_*10000
 omega
def J7U (n:Nat):l4 n=0↔n=0:=Qu.trans (J2A hB4 n)
def JBa:l4 1=1:=by unfold l4;rw[J3z hB4 (by decide) (by decide)];rfl
def red (z:Int)(d:Nat):Int×Nat:=(z/(Nat.gcd z.natAbs d:Int),d/Nat.gcd z.natAbs d)
def JDA (z:Int)(d:Nat)(hd:0<d):(red z d).1.natAbs=z.natAbs/Nat.gcd z.natAbs d∧((red z d).1<0↔z<0):=by
 have hg:0<Nat.gcd z.natAbs d:=Q1k _ hd;obtain ⟨k,hk⟩:=Q2Z z.natAbs d;unfold red;generalize hG:Nat.gcd z.natAbs d=G at hg hk
 have hz:z=G*(if z<0 then -(k:Int) else k):=by
  have h1:((z.natAbs:Nat):Int)=G*k:=by rw[hk];exact Q0S _ _
  split
  ·rw[Q3a];omega
  omega
 have hdiv:z/(G:Int)=if z<0 then -(k:Int) else k:=by
  conv=>lhs;rw[hz]
  exact Int.mul_ediv_cancel_left _ (by omega)
 simp only;rw[hdiv];have hka:z.natAbs/G=k:=by rw[hk];exact Nat.mul_div_cancel_left _ hg
 rw[hka]
 by_cases h:z<0
 ·rw[if_pos h]
  have:0<k:=by
   rcases Qr k with e|e
   ·rw[e] at hk;omega
   exact e
  exact ⟨by omega,by omega⟩
 rw[if_neg h];exact ⟨by omega,by omega⟩
def JA0 (d:Nat)(hd:0<d):red 0 d=(0,1):=by
 unfold red;rw[show (0:Int).natAbs=0 from rfl,Nat.gcd_zero_left,Int.zero_ediv,Nat.div_self hd]
def eR (x:Int×Nat):AV:=encR x.1 x.2
def one_ok:PX 225 [.val (.int .u64 1)] (encN 1):=J4m 1 (by decide)
def JOr:Le (.agg [encB false,.val (.slice none 0 0),encN 1]) (encR 0 1):=by
 have h:=Le.cons (Le.refl (encB false)) (Le.cons (Le.nil 1) (Le.cons (Le.refl (encN 1)) J8N))
 have e:encR 0 1=.agg [encB false,.sl 1 [],encN 1]:=by
  unfold encR;rw[show (0:Int).natAbs=0 from rfl,show encN 0=.sl 1 [] by unfold encN;rw[J0l];rfl];rfl
 rw[e];exact Le.agg h.1 h.2
def J4p (z:Int)(m:Bool)(hm:z≠0→m=decide (z<0))(d:Nat)(hd:0<d)(hz:l4 z.natAbs<2^37)(hdl:l4 d<2^37):PX 224 [encB m,encN z.natAbs,encN d] (eR (red z d)):=by
 refine PZ Tryz.func224 rfl ?_
 by_cases h0:z=0
 ·subst h0;rw[JA0 d hd];unfold eR;have hn:(dg B4 (0:Int).natAbs).length=0:=(J7U 0).2 rfl;unfold encN;refine kWQ ?_;intros;refine J00 [] _ c225 one_ok ?_;refine kWQ ?_;intros;exact Fw.Ends.le JOr
 have hn:¬ (dg B4 z.natAbs).length=0:=fun h=>h0 (by have:=(J7U z.natAbs).1 h;omega);have hg:0<Nat.gcd z.natAbs d:=Q1k _ hd;have g1:=JBf z.natAbs d hz hdl;have gl:l4 (Nat.gcd z.natAbs d)<2^37:=Q13 (JDI (Nat.gcd_le_right _ hd)) hdl;have d1:=J7r z.natAbs (Nat.gcd z.natAbs d) hg hz gl;have d2:=J7r d (Nat.gcd z.natAbs d) hg hdl gl;obtain ⟨r1,r2⟩:=JDA z d hd;unfold eR encR;rw[r1,QS.2 r2,← hm h0];show Box (cpA _ _ _ (retC _ _ _ (.agg [encB m,encN (z.natAbs/Nat.gcd z.natAbs d),encN (d/Nat.gcd z.natAbs d)])) _ _)
 generalize Nat.gcd z.natAbs d=g at *;unfold encN at *;refine kWQ ?_;intros;refine J00 [] _ c297 g1 ?_;refine kWQ ?_;intros;refine J00 [] _ c308 d1 ?_;refine kWQ ?_;intros;refine J00 [] _ c308 d2 ?_;refine kWQ ?_;intros;exact .of rfl
def JMX (n:Nat)(hn:n<2^62):PX 153 [encI n] (encR n 1):=by
 refine PZ Tryz.func153 rfl ?_;have h1:=J4m n (by omega);have hl:l4 n≤16:=J0F hB4 (QP hn (by decide));have h2:=J4p (n:Int) false (fun h=>by rw[Q1 (by omega)]) 1 (by omega) (by rw[Q06];omega) (by rw[JBa];decide);have e:red (n:Int) 1=((n:Int),1):=by unfold red;rw[Nat.gcd_one_right];simp
 rw[e,Q06] at h2;unfold eR at h2;unfold encR encN at *;refine kWQ ?_;intros;refine J00 [] _ c225 h1 ?_;refine kWQ ?_;intros;refine J00 [] _ c225 one_ok ?_;refine kWQ ?_;intros;refine J00 [] _ c224 h2 ?_;refine kWQ ?_;intros;exact .of rfl
def J4L (n:Int)(d:Nat):PX 231 [encR n d] (encR (-n) d):=by
 refine PZ Tryz.func231 rfl ?_;have h0:=J7U n.natAbs;unfold l4 at h0;unfold encR;rw[Q1q]
 by_cases h1:n<0
 ·rw[Q2 h1,Q1 (by omega)];refine kWQ ?_;intros;exact .of rfl
 rw[Q1 h1]
 by_cases h2:n=0
 ·have h3:=h0.2 (by omega);rw[Q1 (by omega)];unfold encN;refine kWQ ?_;intros;refine .of ?_;show AV.agg [.val (.bool (decide _)),_,_]=AV.agg [encB false,_,_]
  rw[Q1 (by rw[h3];decide)];rfl
 have h3:¬ (dg B4 n.natAbs).length=0:=fun h=>by have:=h0.1 h;omega
 rw[Q2 (by omega)];unfold encN;refine kWQ ?_;intros;refine .of ?_;show AV.agg [.val (.bool (decide _)),_,_]=AV.agg [encB true,_,_]
 rw[Q2 (by omega)];rfl
def JAq (n:Int)(d:Nat):PX 208 [encR n d] (encI (sgn n)):=by
 refine PZ Tryz.func208 rfl ?_;have h0:=J7U n.natAbs;unfold l4 at h0;unfold sgn encR
 by_cases h2:n=0
 ·have h3:=h0.2 (by omega);rw[if_pos h2];unfold encN;refine kWQ ?_;intros;exact .of rfl
 have h3:¬ (dg B4 n.natAbs).length=0:=fun h=>by have:=h0.1 h;omega
 rw[if_neg h2];unfold encN
 by_cases h1:n<0
 ·rw[if_pos h1,Q2 h1];refine kWQ ?_;intros;exact .of rfl
 rw[if_neg h1,Q1 h1];refine kWQ ?_;intros;exact .of rfl
def J8I (n:Int)(d:Nat)(hd:l4 d<2^37):PX 160 [encR n d] (encB (decide (d=1))):=by
 refine PZ Tryz.func160 rfl ?_;have hc:=J2W d 1 (by unfold l4 at hd;omega) (by have:=JBa;unfold l4 at this;omega);have hcs:=(J3p d 1).2.2.1;generalize cmpN d 1=c at hc hcs;unfold encR encN at *;refine kWQ ?_;intros;refine CallG.intro _ c225 one_ok ?_;unfold encN;refine kWQ ?_;intros;refine CallG.intro _ c236 hc ?_;refine kWQ ?_;intros;refine .of ?_;show AV.val (.bool (decide _))=AV.val (.bool (decide _))
 congr 2
 exact QS.2 hcs
def JF3 (n:Int)(d:Nat):PX 131 [encR n d] (encB (decide (n=0))):=by
 refine PZ Tryz.func131 rfl ?_;have h0:=J7U n.natAbs;unfold l4 at h0;unfold encR encN;refine kWQ ?_;intros;refine .of ?_;show AV.val (.bool (decide _))=AV.val (.bool (decide _))
 congr 2
 exact QS.2 (by omega)
def JJs (l:List UInt8)(hl:l.length<2^35):PX 152 [encS (ofL l)] (encB (readR l).isSome):=by
 refine PZ Tryz.func152 rfl ?_;have h:=J8K l hl
 cases hr:readR l with
 |none=>
   rw[hr] at h;unfold JBr encR at h;refine kWQ ?_;intros;refine J00 [] _ c207 h ?_;refine kWQ ?_;intros;exact .of rfl
 |some x=>
   rw[hr] at h;unfold JBr encR at h;refine kWQ ?_;intros;refine J00 [] _ c207 h ?_;refine kWQ ?_;intros;exact .of rfl
def JHp (a b:Int×Nat):Int×Nat:=red (a.1*b.2+b.1*a.2) (a.2*b.2)
def JJk (a b:Int×Nat)(ha:0<a.2)(hb:0<b.2)(l1:l4 a.1.natAbs<2^35)(l2:l4 a.2<2^35)(l3:l4 b.1.natAbs<2^35)(l5:l4 b.2<2^35):PX 234 [eR a,eR b] (eR (JHp a b)):=by
 refine PZ Tryz.func234 rfl ?_;obtain ⟨x,u⟩:=a;obtain ⟨y,v⟩:=b;simp only at *;have m1:=J1g x.natAbs v (by unfold l4 at *;omega) (by unfold l4 at *;omega);have m2:=J1g y.natAbs u (by unfold l4 at *;omega) (by unfold l4 at *;omega);have m3:=J1g u v (by unfold l4 at *;omega) (by unfold l4 at *;omega);have k1:=J7V x.natAbs v;have k2:=J7V y.natAbs u;have k3:=J7V u v;have huv:0<u*v:=Q1F ha hb;obtain ⟨X,hX⟩:∃ X,X=x.natAbs*v:=⟨_,rfl⟩;obtain ⟨Y,hY⟩:∃ Y,Y=y.natAbs*u:=⟨_,rfl⟩;obtain ⟨D,hD⟩:∃ D,D=u*v:=⟨_,rfl⟩
 have zx:x*v=if x<0 then -(X:Int) else X:=by
  rw[hX,Q0S];split
  ·rw[show (x.natAbs:Int)=-x by omega];grind
  rw[show (x.natAbs:Int)=x by omega]
 have zy:y*u=if y<0 then -(Y:Int) else Y:=by
  rw[hY,Q0S];split
  ·rw[show (y.natAbs:Int)=-y by omega];grind
  rw[show (y.natAbs:Int)=y by omega]
 rw[← hX] at m1 k1;rw[← hY] at m2 k2;rw[← hD] at m3 k3 huv;unfold JHp eR encR;show Box (cpA _ _ _ (retC _ _ _ (eR (red (x*v+y*u) (u*v)))) _ _)
 rw[← hD];have hx0:x=0→X=0:=fun h=>by rw[hX,h];simp
 have hy0:y=0→Y=0:=fun h=>by rw[hY,h];simp
 clear hX hY hD;obtain ⟨Z,hZ⟩:∃ Z,x*v+y*u=Z:=⟨_,rfl⟩;rw[hZ];have low:=fun m hm h=>J4p Z m hm D huv h (by omega);unfold encN at m1 m2 m3 low ⊢;refine kWQ ?_;intros;refine CallG.intro _ c235 m1 ?_;refine kWQ ?_;intros;refine CallG.intro _ c235 m2 ?_;refine kWQ ?_;intros;refine CallG.intro _ c235 m3 ?_;refine kWQ ?_;intros;rw[zx,zy] at hZ;clear zx zy hx0 hy0;have hla:=JOu X Y;refine CondP.intro (fun h=>?_) (fun h=>?_)
 ·have hs:(x<0↔y<0):=by
   rw[beq_iff_eq,QS] at h;exact h
  have hab:Z.natAbs=X+Y:=by
   by_cases h1:x<0
   ·rw[if_pos h1,if_pos (hs.1 h1)] at hZ;omega
   rw[if_neg h1,if_neg (fun h2=>h1 (hs.2 h2))] at hZ;omega
  have hm:Z≠0→decide (x<0)=decide (Z<0):=fun hz=>QS.2 (by
   by_cases h1:x<0
   ·rw[if_pos h1,if_pos (hs.1 h1)] at hZ;omega
   rw[if_neg h1,if_neg (fun h2=>h1 (hs.2 h2))] at hZ;omega)
  have low':=low _ hm (by rw[hab];omega);have ad:=JJS X Y (by unfold l4 at *;omega) (by unfold l4 at *;omega);rw[hab] at low';unfold encN at ad;clear low hZ hm h hs;refine kWQ ?_;intros;refine CallG.intro _ c311 ad ?_;refine kWQ ?_;intros;refine CallG.intro _ c224 low' ?_;unfold eR encR;refine kWQ ?_;intros;exact .of rfl
 have hs:(x<0↔¬ y<0):=by
  have h':¬ (decide (x<0)=decide (y<0)):=fun e=>by rw[e] at h;simp at h
  rw[QS] at h';omega
 have hc:=J2W X Y (by unfold l4 at *;omega) (by unfold l4 at *;omega);have hcs:=(J3p X Y).2.1;unfold encN at hc;refine kWQ ?_;intros;refine CallP.flat [] _ c236 hc rfl ?_;generalize cmpN X Y=c at hcs;clear hc;refine kWQ ?_;intros;refine CondP.dec (fun h2=>?_) (fun h2=>?_)
 ·have hle:=hcs.1 h2
  have hab:Z.natAbs=X-Y:=by
   by_cases h1:x<0
   ·rw[if_pos h1,if_neg (hs.1 h1)] at hZ;omega
   rw[if_neg h1,if_pos (by omega)] at hZ;omega
  have hm:Z≠0→decide (x<0)=decide (Z<0):=fun hz=>QS.2 (by
   by_cases h1:x<0
   ·rw[if_pos h1,if_neg (hs.1 h1)] at hZ;omega
   rw[if_neg h1,if_pos (by omega)] at hZ;omega)
  have hsl:=JDI (Nat.sub_le X Y);have low':=low _ hm (by rw[hab];omega);have ad:=J4b X Y (by unfold l4 at *;omega) hle;rw[hab] at low';unfold encN at ad;clear low hZ hm h hs;refine kWQ ?_;intros;refine CallG.intro _ c312 ad ?_;refine kWQ ?_;intros;refine CallG.intro _ c224 low' ?_;unfold eR encR;refine kWQ ?_;intros;exact .of rfl
 have hle:X≤Y:=by
  rcases QI X Y with h'|h'
  ·omega
  exact absurd (hcs.2 h') h2
 have hab:Z.natAbs=Y-X:=by
  by_cases h1:x<0
  ·rw[if_pos h1,if_neg (hs.1 h1)] at hZ;omega
  rw[if_neg h1,if_pos (by omega)] at hZ;omega
 have hm:Z≠0→decide (y<0)=decide (Z<0):=fun hz=>QS.2 (by
  by_cases h1:x<0
  ·rw[if_pos h1,if_neg (hs.1 h1)] at hZ;omega
  rw[if_neg h1,if_pos (by omega)] at hZ;omega)
 have hsl:=JDI (Nat.sub_le Y X);have low':=low _ hm (by rw[hab];omega);have ad:=J4b Y X (by unfold l4 at *;omega) hle;rw[hab] at low';unfold encN at ad;clear low hZ hm h hs;refine kWQ ?_;intros;refine CallG.intro _ c312 ad ?_;refine kWQ ?_;intros;refine CallG.intro _ c224 low' ?_;unfold eR encR;refine kWQ ?_;intros;exact .of rfl
def JFA (a b:Int×Nat)(ha:0<a.2)(hb:0<b.2)(l1:l4 a.1.natAbs<2^35)(l2:l4 a.2<2^35)(l3:l4 b.1.natAbs<2^35)(l5:l4 b.2<2^35):PX 213 [eR a,eR b] (eR (red (a.1*b.2-b.1*a.2) (a.2*b.2))):=by
 refine PZ Tryz.func213 rfl ?_;have h1:=J4L b.1 b.2;have h2:=JJk a (-b.1,b.2) ha hb l1 l2 (by rw[Q1q];exact l3) l5;unfold JHp at h2;simp only[Int.neg_mul,← Q2q] at h2;generalize red (a.1*b.2-b.1*a.2) (a.2*b.2)=r at h2 ⊢;unfold eR encR at *;refine kWQ ?_;intros;refine CallG.intro _ c231 h1 ?_;refine kWQ ?_;intros;refine CallG.intro _ c234 h2 ?_;refine kWQ ?_;intros;exact .of rfl
def J9e (a b:Int×Nat)(ha:0<a.2)(hb:0<b.2)(l1:l4 a.1.natAbs<2^35)(l2:l4 a.2<2^35)(l3:l4 b.1.natAbs<2^35)(l5:l4 b.2<2^35):PX 309 [eR a,eR b] (encI (sgn (a.1*b.2-b.1*a.2))):=by
 refine PZ Tryz.func309 rfl ?_;have h1:=JFA a b ha hb l1 l2 l3 l5;have hd:0<a.2*b.2:=Q1F ha hb;generalize a.1*b.2-b.1*a.2=z at *;generalize a.2*b.2=d at *;obtain ⟨r1,r2⟩:=JDA z d hd;have h2:=JAq (red z d).1 (red z d).2
 have e:sgn (red z d).1=sgn z:=by
  unfold sgn
  by_cases h0:z=0
  ·subst h0;rw[JA0 d hd]
  have hne:(red z d).1≠0:=fun e=>by
   rw[e] at r1;have hg:0<Nat.gcd z.natAbs d:=Q1k _ hd;have:=Q3Z (Q3k (by omega) (Q2Z z.natAbs d)) hg;simp at r1;omega
  rw[if_neg hne,if_neg h0]
  by_cases h1:z<0
  ·rw[if_pos h1,if_pos (r2.2 h1)]
  rw[if_neg h1,if_neg (fun h=>h1 (r2.1 h))]
 rw[e] at h2;generalize red z d=r at h1 h2;unfold eR encR at *;refine kWQ ?_;intros;refine J00 [] _ c213 h1 ?_;refine kWQ ?_;intros;refine CallP.flat [] _ c208 h2 rfl ?_;refine kWQ ?_;intros;exact .of rfl
def JEr (n:Nat):(decT n).length≤4*l4 n+1:=by
 rw[J55];split
 ·omega
 have:=J0F (b:=10) (by omega) (QP (J1l hB4 n) (by rw[show (B4:Nat)=10 ^ 4 from rfl,← Q1h];exact QM (10 ^ (4*(dg B4 n).length))));unfold l4;omega
def rT (n:Int)(d:Nat):List Nat:=if d=1 then sT n else sT n++47::decT d
def J8H (n:Int)(d:Nat)(hn:l4 n.natAbs<2^36)(hd:l4 d<2^36):PX 76 [encR n d] (encT (rT n d)):=by
 refine PZ Tryz.func76 rfl ?_;have t1:=J5d n.natAbs (by unfold l4 at *;omega);have t2:=J5d d (by unfold l4 at *;omega);have hw:=J8I n d (by omega);have k1:=JEr n.natAbs;have k2:=JEr d;have z1:=J1T (decT n.natAbs);have z2:=J1T (decT d);have z3:=J1T (sT n);have s47:(⟨#[47]⟩:ByteArray).size=1:=rfl;have s45:(⟨#[45]⟩:ByteArray).size=1:=rfl;have e47:(⟨#[47]⟩:ByteArray)=ofL (List.map UInt8.ofNat [47]):=rfl;have e45:(⟨#[45]⟩:ByteArray)=ofL (List.map UInt8.ofNat [45]):=rfl
 have hst:sT n=if n<0 then 45::decT n.natAbs else decT n.natAbs:=rfl
 have z4:(sT n).length≤(decT n.natAbs).length+1:=by rw[hst];split<;>simp
 unfold rT;generalize hS:sT n=S at *;unfold encR encN at *;refine kWQ ?_;intros;refine CallP.flat [] _ c159 t1 rfl ?_;refine kWQ ?_;intros;have key:∀ s,s=ofL (S.map UInt8.ofNat)→s.size=S.length:=fun s h=>by rw[h,J04,Q3]
 refine CondP.dec (fun h=>?_) (fun h=>?_)<;>refine kX ?_
 case' refine_1=>
  rw[if_pos h] at hst;refine kZ ?_;intros;refine J0b (W.of (l:=[(1,.op 1 _ 0 0),(3,encS (ofL (S.map UInt8.ofNat)))]) (m:=[(1,_,⟨121,3,[.agg [encB (decide (n<0)),J0s (dg B4 n.natAbs),J0s (dg B4 d)]]⟩)]) ?_ ⟨rfl,QC encS (by rw[hst,e45,J2n];rfl),trivial⟩ ⟨rfl,trivial⟩)
 case' refine_2=>
  rw[if_neg h] at hst;refine J0b (W.of (l:=[(1,.op 1 _ 0 0),(3,encS (ofL (S.map UInt8.ofNat)))]) (m:=[(1,_,⟨121,3,[.agg [encB (decide (n<0)),J0s (dg B4 n.natAbs),J0s (dg B4 d)]]⟩)]) ?_ ⟨rfl,QC encS (by rw[hst]),trivial⟩ ⟨rfl,trivial⟩)
 all_goals
  clear t1 hst h;refine kWQ ?_;intros;refine CallP.flat [] _ c160 hw rfl ?_;refine kWQ ?_;intros;refine CondP.dec (fun h=>?_) (fun h=>?_)<;>refine kW ?_
  ·rw[if_pos h];refine kQ ?_;intros;exact .of rfl
  rw[if_neg h];refine kQ ?_;intros;refine CallP.flat [] _ c159 t2 rfl ?_;have z5:(ofL (S.map UInt8.ofNat)++(⟨#[47]⟩:ByteArray)).size=S.length+1:=by rw[Q20,z3,s47]
  refine kWQ ?_;intros;refine .of ?_;show encS _=encS _
  rw[e47,J2n,J2n,Qo];rfl
def J9V {l:List Nat}(h:l.all isDg=true):(l.map UInt8.ofNat).map UInt8.toNat=l:=by
 rw[Q0p];refine (Qk fun c hc=>?_).trans (Q3Y l);have:=QL.1 h c hc;unfold isDg at this;simp at this;simp;omega
def JOx (n:Nat):isD n=isDg n:=by
 rw[Q0T,JDJ];unfold isDg;rw[decide_eq_true_iff]
def JEf (l:List UInt8):isDs l=(l.map UInt8.toNat).all isDg:=by
 unfold isDs;rw[Q3E]
 congr 1
 funext c
 exact JOx _
def J7u (n:Nat):decU ((decT n).map UInt8.ofNat)=n:=by
 unfold decU;rw[J9V (J2F n),JC4]
def J6u (l:List UInt8):(l.map UInt8.toNat).map UInt8.ofNat=l:=by
 rw[Q0p];refine (Qk fun c hc=>?_).trans (Q3Y l);simp
def J3l (l:List UInt8):digB l=(J20 (l.map UInt8.toNat)&&decide (l.length≤300)):=by
 unfold digB J20;rw[JEf,Q3]
 cases l with
 |nil=>rfl
 |cons c r=>
   have e:decide ((c::r).headD 0=48)=decide (((c::r).map UInt8.toNat).getD 0 0=48):=QS.2 (by
    simp only[List.headD_cons,QK,Q2k];constructor
    ·rintro rfl;rfl
    intro h;exact Q0h (by rw[h];rfl))
   rw[e];generalize ((c::r).map UInt8.toNat).getD 0 0=x;generalize ((c::r).map UInt8.toNat).all isDg=b;generalize (c::r).length=n;rw[Q0T];simp only[Q5,Q09,Qw,Q21,Qa,Qe,ne_eq];constructor
   ·rintro ⟨⟨⟨h1,h2⟩,h3⟩,h4⟩;exact ⟨⟨⟨h1,by omega⟩,h4⟩,h2⟩
   rintro ⟨⟨⟨h1,h2⟩,h3⟩,h4⟩;exact ⟨⟨⟨h1,h4⟩,by omega⟩,h3⟩
def J7s {n:Nat}(h:(decT n).length≤300):digB ((decT n).map UInt8.ofNat)=true:=by
 rw[J3l,J9V (J2F n),J3m,Q3,Q2 h];rfl
def JC0 {l:List UInt8}(h:digB l=true):l=(decT (decU l)).map UInt8.ofNat∧(decT (decU l)).length≤300:=by
 rw[J3l,Q5] at h;have e:=J56 h.1;have h2:=Qh h.2;unfold decU;rw[e];exact ⟨(J6u l).symm,by rw[Q3];exact h2⟩
def JFt {a:List UInt8}(h:∀ c∈a,c≠47):J03 a=(a,[],false):=by
 induction a with
 |nil=>rfl
 |cons c r ih=>rw[J03,if_neg (h c (by simp)),ih (fun x hx=>h x (by simp[hx]))]
def JFs {a:List UInt8}(h:∀ c∈a,c≠47)(b:List UInt8):J03 (a++47::b)=(a,b,true):=by
 induction a with
 |nil=>rw[Q07,J03,if_pos rfl]
 |cons c r ih=>rw[Q01,J03,if_neg (h c (by simp)),ih (fun x hx=>h x (by simp[hx]))]
def JPh {l:List Nat}(h:l.all isDg=true)(x:UInt8)(hx:¬ (48≤x.toNat∧x.toNat≤57)):∀ c∈l.map UInt8.ofNat,c≠x:=by
 intro c hc e;obtain ⟨d,hd,rfl⟩:=Qs.1 hc;have:=QL.1 h d hd;unfold isDg at this;simp at this;subst e;apply hx;have e2:(UInt8.ofNat d).toNat=d:=by simp;omega
 rw[e2];exact this
def JIl:(decT 1).length≤300:=by
 rw[J55,if_neg (by decide),J3z (by decide) (by decide) (by decide)];decide
def okR (x:Int×Nat):Prop:=0<x.2∧Nat.gcd x.1.natAbs x.2=1∧(decT x.1.natAbs).length≤300∧(decT x.2).length≤300
def JBD (n:Int):sT n=if n<0 then 45::decT n.natAbs else decT n.natAbs:=rfl
def J91 {m:Bool}{t:List UInt8}{x:Int×Nat}(h:J6I m t=some x):okR x∧(x.1<0↔m=true)∧t=(decT x.1.natAbs++if x.2=1 then [] else 47::decT x.2).map UInt8.ofNat:=by
 obtain ⟨p1,p2,p3,p4,p5⟩:=J3a t;unfold J6I at h
 cases hd:digB (J03 t).1 with
 |false=>rw[hd,if_pos rfl] at h;cases h
 |true=>
   obtain ⟨t1,t2⟩:=JC0 hd;rw[hd,if_neg (by decide)] at h;generalize hn:decU (J03 t).1=n at *
   have sgnz:∀ hz:¬ (m=true∧n=0),((if m then -(n:Int) else n)<0↔m=true)∧(if m then -(n:Int) else (n:Int)).natAbs=n:=by
    intro hz
    cases m with
    |true=>have:n≠0:=fun e=>hz ⟨rfl,e⟩;rw[if_pos rfl];exact ⟨by simp;omega,by omega⟩
    |false=>rw[if_neg (by decide)];exact ⟨by simp,by omega⟩
   by_cases hb:(J03 t).2.2=true
   ·have hlt:(J03 t).1.length<t.length:=by
     rcases QI (J03 t).1.length t.length with h'|h'
     ·exact h'
     rw[p5 h'] at hb;cases hb
    obtain ⟨_,q2,q3⟩:=p4 hlt
    have ht:t=(J03 t).1++47::(J03 t).2.1:=by
     conv=>lhs;rw[← Q2T (J03 t).1.length t]
     rw[← p2,Q6 hlt,q3,← q2]
    rw[if_pos hb] at h
    cases hd2:digB (J03 t).2.1 with
    |false=>rw[hd2,if_pos rfl] at h;cases h
    |true=>
      obtain ⟨u1,u2⟩:=JC0 hd2;rw[hd2,if_neg (by decide)] at h;generalize hdd:decU (J03 t).2.1=d at *;split at h
      ·cases h
      rename_i hg;split at h
      ·cases h
      rename_i hz;cases h;obtain ⟨s1,s2⟩:=sgnz hz;have hg1:¬ d≤1:=fun e=>hg (.inl e);have hg2:Nat.gcd n d=1:=Decidable.byContradiction fun e=>hg (.inr e);refine ⟨⟨by simp only;omega,by simp only;rw[s2];exact hg2,by simp only;rw[s2];exact t2,u2⟩,s1,?_⟩;simp only;rw[s2,if_neg (by omega),QW,QK,← t1,← u1];exact ht
   have hge:t.length≤(J03 t).1.length:=by
    rcases QI (J03 t).1.length t.length with h'|h'
    ·exact absurd (p4 h').1 hb
    exact h'
   have ht:t=(J03 t).1:=by
    conv=>rhs;rw[p2]
    rw[Qm hge]
   rw[if_neg hb] at h;split at h
   ·cases h
   rename_i hz;cases h;obtain ⟨s1,s2⟩:=sgnz hz;refine ⟨⟨Nat.one_pos,by simp,by simp only;rw[s2];exact t2,JIl⟩,s1,?_⟩;simp only;rw[s2,if_pos trivial,Q08,← t1];exact ht
def JFo (n:Int)(d:Nat):rT n d=if n<0 then 45::(decT n.natAbs++if d=1 then [] else 47::decT d) else decT n.natAbs++if d=1 then [] else 47::decT d:=by
 unfold rT;rw[JBD];split<;>split<;>simp
def J1Z {l:List UInt8}{x:Int×Nat}(h:readR l=some x):okR x∧l=(rT x.1 x.2).map UInt8.ofNat:=by
 unfold readR at h;split at h
 ·rename_i t;obtain ⟨h1,h2,h3⟩:=J91 h;refine ⟨h1,?_⟩;rw[JFo,if_pos (h2.2 rfl),QK,← h3];rfl
 obtain ⟨h1,h2,h3⟩:=J91 h;refine ⟨h1,?_⟩;rw[JFo,if_neg (fun e=>by have:=h2.1 e;cases this),← h3]
def JKn (n:Int)(d:Nat)(h:okR (n,d)):J6I (decide (n<0)) ((decT n.natAbs++if d=1 then [] else 47::decT d).map UInt8.ofNat)=some (n,d):=by
 obtain ⟨h1,h2,h3,h4⟩:=h;simp only at *;have hz:¬ (decide (n<0)=true∧n.natAbs=0):=fun e=>by have:=Qh e.1;omega
 have hs:(if decide (n<0)=true then -((n.natAbs:Nat):Int) else (n.natAbs:Nat))=n:=by
  by_cases h:n<0
  ·rw[if_pos (Q2 h)];omega
  rw[if_neg (by simpa using h)];omega
 have h47:=JPh (J2F n.natAbs) 47 (by decide);unfold J6I
 by_cases hd:d=1
 ·rw[if_pos hd,Q08,JFt h47];simp only;rw[J7s h3,if_neg (by decide),if_neg (by decide),J7u,if_neg hz,hs,hd]
 rw[if_neg hd,QW,QK,show UInt8.ofNat 47=47 from rfl,JFs h47];simp only;rw[J7s h3,if_neg (by decide),if_pos trivial,J7s h4,if_neg (by decide),J7u,J7u,if_neg (by rintro (h|h);omega;exact h h2),if_neg hz,hs]
def J6T (n:Int)(d:Nat)(h:okR (n,d)):readR ((rT n d).map UInt8.ofNat)=some (n,d):=by
 have hb:=JKn n d h;rw[JFo]
 by_cases hn:n<0
 ·rw[if_pos hn,QK];rw[Q2 hn] at hb;exact hb
 rw[if_neg hn];rw[Q1 hn] at hb;have hc:=J3m n.natAbs;have hdg:=J2F n.natAbs;generalize hT:decT n.natAbs=T at *
 cases T with
 |nil=>simp[J20] at hc
 |cons c r=>
   rw[Q0l,Q5] at hdg;have hcd:=hdg.1;unfold isDg at hcd;simp at hcd;rw[Q01,QK] at hb ⊢;unfold readR;split
   ·rename_i t heq;have:=QC (fun l:List UInt8=>(l.headD 0).toNat) heq;simp at this;omega
   exact hb
def JDE {x:Int×Nat}(h:okR x):l4 x.1.natAbs≤300∧l4 x.2≤300:=by
 have key:∀ n:Nat,(decT n).length≤300→l4 n≤300:=fun n h=>by
  unfold l4;refine J0F hB4 (QP (decT_lt n) (Qg (Q05 (by omega) h) ?_));exact Q2E (by decide) _
 exact ⟨key _ h.2.2.1,key _ h.2.2.2⟩
def JNH {n:Int}{d:Nat}(h:okR (n,d)):okR ((n.natAbs:Int),d):=by
 obtain ⟨h1,h2,h3,h4⟩:=h;exact ⟨h1,by simpa using h2,by simpa using h3,h4⟩
def JLw (n:Int)(d:Nat)(h:okR (n,d)):PX 394 [encT (rT n d)] (.tup [encT (sT n),encT (decT d),encI 0]):=by
 refine PZ Tryz.func394 rfl ?_;have hl:=JDE h
 have hlen:((rT n d).map UInt8.ofNat).length<2^35:=by
  rw[Q3];have h1:=h.2.2.1;have h2:=h.2.2.2;have h3:(sT n).length≤(decT n.natAbs).length+1:=by rw[JBD];split<;>simp
  unfold rT;split
  ·simp only at h1;omega
  simp only[QQ,QT] at *;omega
 have hr:=J8K _ hlen;rw[J6T n d h,Q1v] at hr;have hw:=J8H n 1 (by simp only at hl;omega) (by rw[JBa];decide);have e:rT n 1=sT n:=by unfold rT;rw[if_pos rfl]
 rw[e] at hw;have ht:=J5d d (by simp only at hl;unfold l4 at hl;omega);unfold encT JBr encR at *;unfold encN at *;refine kWQ ?_;intros;refine J00 [] _ c207 hr ?_;refine kWQ ?_;intros;refine CallG.intro _ c225 one_ok ?_;refine kWQ ?_;intros;refine CallG.intro _ c76 hw ?_;refine kWQ ?_;intros;refine CallG.intro _ c159 ht ?_;refine kWQ ?_;intros;exact .of rfl
def J2s (n:Int)(d:Nat):Bool:=decide ((decT n.natAbs).length≤9)&&decide ((decT d).length≤9)
def JJh (n:Int)(d:Nat)(h:okR (n,d)):PX 382 [encR n d] (encB (J2s n d)):=by
 refine PZ Tryz.func382 rfl ?_;have hl:=JDE h;have ho:=J4L n d;have hw:=J8H (n.natAbs:Int) d (by rw[Q06];simp only at hl;omega) (by simp only at hl;omega);have hp:=JLw _ _ (JNH h);have e1:sT (n.natAbs:Int)=decT n.natAbs:=by rw[JBD,if_neg (by omega),Q06]
 rw[e1] at hp;have z1:=J1T (decT n.natAbs);have z2:=J1T (decT d);generalize hF:J2s n d=F;unfold J2s at hF;unfold encR at hw ho ⊢;rw[Q06,Q1 (by omega)] at hw;rw[Q1q] at ho;generalize hN:encN n.natAbs=N at *;generalize hD:encN d=D at *;unfold encN J0s at hN hD;unfold encT at hw hp;generalize rT (n.natAbs:Int) d=R at *
 by_cases hneg:n<0
 case' pos=>
  rw[Q2 hneg,Q1 (by omega)] at ho;rw[Q2 hneg];subst hN hD;refine kWQ ?_;intros;refine J00 [] _ c231 ho ?_;refine kWQ ?_;intros
 case' neg=>
  rw[Q1 hneg];subst hN hD;refine kWQ ?_;intros
 all_goals
  refine CallP.flat [] _ c76 hw rfl ?_;refine kWQ ?_;intros;refine J00 [] _ c394 hp ?_;refine kWQ ?_;intros;refine CondP.dec (fun h1=>?_) (fun h1=>?_)<;>refine kW ?_
  ·rw[Q2 (by omega),QB] at hF;refine kQ ?_;intros;refine .of ?_;rw[← hF];show AV.val (.bool (decide _))=AV.val (.bool (decide _))
   congr 2
   exact QS.2 (by omega)
  rw[Q1 (by omega),QD] at hF;refine kQ ?_;intros;exact .of (by rw[← hF];rfl)
def nlt (n:Int):Bool:=(decide (n<97)||decide (122<n))&&(decide (n<65)||decide (90<n))
def JG6 (n:Int):PX 389 [.val (.int .i32 n)] (encB (nlt n)):=by
 refine PZ Tryz.func389 rfl ?_;refine kW ?_
 (repeat (any_goals (first|((first|refine N0 ?_|refine A0 fun γ=>?_|refine C1 ?_|refine C2 ?_|refine C3 ?_|refine C4 ?_|refine C5 ?_|refine C6 ?_|refine C7 ?_|refine D0 fun γs=>?_|refine A1 fun γs=>?_|refine N2 ?_|refine N3 ?_|refine N1 ?_);refine kW ?_)|(refine CondP.dec (fun _=>?_) (fun _=>?_)<;>refine kW ?_)|(refine CondP.intro (fun _=>?_) (fun _=>?_)<;>refine kW ?_))))
 all_goals (refine .of ?_;show AV.val (Value.bool _)=AV.val (Value.bool _);congr 1;unfold nlt;simp_all<;>omega)
def JFU (n:Int):PX 400 [.val (.int .i32 n)] (encB (nlt n)):=by
 refine PZ Tryz.func400 rfl ?_;refine kW ?_
 (repeat (any_goals (first|((first|refine N0 ?_|refine A0 fun γ=>?_|refine C1 ?_|refine C2 ?_|refine C3 ?_|refine C4 ?_|refine C5 ?_|refine C6 ?_|refine C7 ?_|refine D0 fun γs=>?_|refine A1 fun γs=>?_|refine N2 ?_|refine N3 ?_|refine N1 ?_);refine kW ?_)|(refine CondP.dec (fun _=>?_) (fun _=>?_)<;>refine kW ?_)|(refine CondP.intro (fun _=>?_) (fun _=>?_)<;>refine kW ?_))))
 all_goals (refine .of ?_;show AV.val (Value.bool _)=AV.val (Value.bool _);congr 1;unfold nlt;simp_all<;>omega)
def JHZ (l:List UInt8)(p:Nat)(hp:p<l.length)(h:128≤(l[p]).toNat):128≤(runeAt (ofL l) p).1:=by
 unfold runeAt Utf8.decode
 have e:((ofL l).get! (p+0)).toNat=(l[p]).toNat:=by
  show (l.toArray[p+0]!).toNat=_
  rw[Q0O,getElem!_pos _ p (by simpa using hp)];simp
 simp only[e];rw[if_neg (by omega)];unfold Utf8.runeError;split
 ·split<;>simp<;>omega
 split
 ·split
  ·rename_i h2;simp at h2 ⊢;omega
  simp
 split
 ·split
  ·rename_i h2;simp at h2 ⊢;omega
  simp
 simp
def fiL:List UInt8→Int→Int
 |[],_=>-1
 |c::r,i=>if nlt c.toNat then i else fiL r (i+1)
def JAE (k:Nat)(l:List UInt8)(hl:l.length<2^62)(hk:J05 Tryz.prog k)(hf:∀ n:Int,PX k [.val (.int .i32 n)] (encB (nlt n))) :
  PX 398 [encS (ofL l),.fn (.func k) [] [],encB true] (encI (fiL l 0)):=by
 refine PZ Tryz.func398 rfl ?_;generalize hF:fiL l 0=F;refine kWS ?_;intros;refine LoopP.intro (fun m σ H=>∃ g p,m=l.length-p∧p≤l.length∧fiL (l.drop p) p=F∧σ=fr [(0,encS (ofL l)),(1,.fn (.func k) [] []),(2,encB true),(10,.it 10 g)]∧H=hp [(10,g,⟨0,0,[encS (ofL l),encI p]⟩)]) ?_ ?_
 ·exact .intro <| W.of ⟨_,_,0,rfl,QG _,hF,rfl,rfl⟩ ⟨rfl,rfl,rfl,rfl,trivial⟩ ⟨rfl,trivial⟩
 rintro m σ H ⟨g,p,rfl,hp,hF,rfl,rfl⟩;refine kWS ?_;intros;rw[J04];refine CondP.dec (fun h=>?_) (fun h=>?_)<;>refine kW ?_
 ·have hp':p<l.length:=by omega
  rw[Q6 hp'] at hF;unfold fiL at hF
  by_cases h8:(l[p]).toNat<128
  ·have hr:runeAt (ofL l) (Int.toNat p)=((l[p]).toNat,1):=J8r l p hp' h8;rw[hr];generalize l[p]=c at hF h8 ⊢;refine kS ?_;intros;refine CallP.flat [] _ hk (hf _) rfl ?_;refine kWS ?_;intros;refine CondP.intro (fun h1=>?_) (fun h1=>?_)<;>refine kW ?_
   ·have h1':nlt c.toNat=true:=by simpa using h1
    rw[if_pos h1'] at hF;refine kS ?_;intros;exact .of (by rw[← hF];rfl)
   have h1':nlt c.toNat=false:=by simpa using h1
   rw[if_neg (by rw[h1'];decide)] at hF;refine kS ?_;intros
   exact .intro <| W.of ⟨_,by omega,_,p+1,rfl,hp',hF,rfl,rfl⟩ ⟨rfl,rfl,rfl,rfl,trivial⟩ ⟨rfl,trivial⟩
  have hr:=JHZ l p hp' (by omega);have hn:nlt (l[p]).toNat=true:=by unfold nlt;simp;omega
  rw[if_pos hn] at hF;have hr2:nlt ((runeAt (ofL l) (Int.toNat p)).1:Nat)=true:=by unfold nlt;rw[QV];simp;omega
  refine kS ?_;intros;refine CallP.flat [] _ hk (hf _) rfl ?_;refine kW ?_;rw[hr2];refine kWS ?_;intros;exact .of (by rw[← hF];rfl)
 rw[Q9 (by omega)] at hF;refine kS ?_;intros;exact .of (by rw[← hF];rfl)
def J5O (k:Nat)(l:List UInt8)(hl:l.length<2^62)(hk:J05 Tryz.prog k)(hf:∀ n:Int,PX k [.val (.int .i32 n)] (encB (nlt n))) :
  PX 388 [encS (ofL l),.fn (.func k) [] []] (encI (fiL l 0)):=by
 refine PZ Tryz.func388 rfl ?_;refine kWS ?_;intros;refine CallP.flat [] _ c398 (JAE k l hl hk hf) rfl ?_;refine kWS ?_;intros;exact .of rfl
def J6L (k:Nat)(l:List UInt8)(hl:l.length<2^62)(hk:J05 Tryz.prog k)(hf:∀ n:Int,PX k [.val (.int .i32 n)] (encB (nlt n))) :
  PX 399 [encS (ofL l),.fn (.func k) [] []] (encB (decide (0≤fiL l 0))):=by
 refine PZ Tryz.func399 rfl ?_;refine kWS ?_;intros;refine CallP.flat [] _ c388 (J5O k l hl hk hf) rfl ?_;refine kWS ?_;intros;exact .of rfl
def symF (l:List UInt8):Bool:=decide (l≠[])&&decide (l.length≤8)&&!decide (0≤fiL l 0)
def JCV (l:List UInt8)(hl:l.length<2^62):PX 390 [encS (ofL l)] (encB (symF l)):=by
 refine PZ Tryz.func390 rfl ?_;generalize hF:symF l=F;unfold symF at hF;have hn:=JA4 l;have hsz:=J04 l;refine kWS ?_;intros;refine CondP.dec (fun h1=>?_) (fun h1=>?_)<;>refine kW ?_
 ·have h1':=hn.1 h1;subst h1';refine kS ?_;intros;exact .of (by rw[← hF];rfl)
 rw[Q2 (show l≠[] from fun e=>h1 (hn.2 e)),QB] at hF;refine kS ?_;intros;rw[hsz];refine CondP.dec (fun h=>?_) (fun h=>?_)<;>refine kW ?_
 ·rw[Q2 (by omega),QB] at hF;refine kS ?_;intros;refine CallP.flat [] _ c399 (J6L 400 l hl c400 JFU) rfl ?_;refine kWS ?_;intros;exact .of (by rw[← hF];rfl)
 rw[Q1 (by omega),QD] at hF;refine kS ?_;intros;exact .of (by rw[← hF];rfl)
def cntL (l:List UInt8)(c:UInt8):Nat:=l.count c
def JLO (l:List UInt8)(n:Nat)(h:n<256):J3Q Tryz.prog 405 [encS (ofL l),.val (.int .u8 n)] (.int .i64 (cntL l (UInt8.ofNat n))):=by
 refine ⟨rfl,fun κ w N vs hv=>?_⟩;rw[vrs2 hv];have h1:Tryz.prog.funcs[405]?=some Tryz.f405:=Tryz.func405;have h2:(Tryz.f405.name == "runtime.NumGoroutine")=false:=by kernel_rfl
 have h3:Tryz.f405.body.isNone=true:=by kernel_rfl
 have h4:Extern.findNext Tryz.f405=none:=by kernel_rfl
 have h5:Extern.find Tryz.f405=some Extern.BytealgCount.count:=by kernel_rfl
 simp only[callFunc,QA,run_program,QH,h1,h2,h3,h4,h5,run_mark,if_true,Qc,if_false];rw[show (Extern.BytealgCount.count #[.string (ofL l),.int .u8 n]).run Tryz.prog w=_ from Lib.run_countString (ofL l) n w,QV];rfl
def JM2 (l:List UInt8)(c:UInt8)(hl:l.length<2^62):PX 396 [encS (ofL l),encS (b1 c)] (encI (cntL l c)):=by
 refine PZ Tryz.func396 rfl ?_;have hb:(b1 c).size=1:=rfl;have hc:byteAt (b1 c) (Int.toNat 0)=(c.toNat:Int):=rfl;have he:=JLO l c.toNat c.toNat_lt;rw[Q2w] at he;refine kWS ?_;intros;rw[hc];refine CallP.ext _ he ?_;refine kWS ?_;intros;exact .of rfl
def JJt (s:ByteArray)(c:UInt8):PX 397 [encS s,encS (b1 c)] (encI (idxB s c)):=by
 refine PZ Tryz.func397 rfl ?_;refine kWS ?_;intros;refine CallP.flat [] _ c350 (JFC s c) rfl ?_;refine kWS ?_;intros;exact .of rfl
def splitL:List UInt8→List (List UInt8)
 |[]=>[[]]
 |c::r=>if c=46 then []::splitL r else match splitL r with
   |x::xs=>(c::x)::xs
   |[]=>[[c]]
def J2b (c:UInt8)(r:List UInt8):splitL (c::r)=if c=46 then []::splitL r else match splitL r with
 |x::xs=>(c::x)::xs
 |[]=>[[c]]:=rfl
def JHL (l:List UInt8):splitL l≠[]:=by
 cases l with
 |nil=>simp[splitL]
 |cons c r=>
   unfold splitL;split
   ·simp
   split<;>simp
def JFX (l:List UInt8):(splitL l).length=cntL l 46+1:=by
 induction l with
 |nil=>rfl
 |cons c r ih=>
   unfold splitL cntL;rw[List.count_cons];have hne:=JHL r
   by_cases hc:c=46
   ·rw[if_pos hc];subst hc;simp[ih,cntL]
   rw[if_neg hc]
   cases hr:splitL r with
   |nil=>exact absurd hr hne
   |cons x xs=>
     rw[hr] at ih;unfold cntL at ih;simp only[QT] at ih ⊢;rw[if_neg (by simpa using hc)];omega
def JFW (l:List UInt8):(idxB (ofL l) 46<0→splitL l=[l]∧cntL l 46=0)∧(0≤idxB (ofL l) 46→splitL l=l.take (idxB (ofL l) 46).toNat::splitL (l.drop ((idxB (ofL l) 46).toNat+1))∧cntL l 46=cntL (l.drop ((idxB (ofL l) 46).toNat+1)) 46+1):=by
 induction l with
 |nil=>exact ⟨fun _=>⟨rfl,rfl⟩,by decide⟩
 |cons c r ih=>
   rw[JBc,J2b]
   by_cases hc:c=46
   ·subst hc;simp[cntL]
   rw[if_neg hc,if_neg hc];obtain ⟨h1,h2⟩:=ih;have hcnt:cntL (c::r) 46=cntL r 46:=by unfold cntL;rw[List.count_cons,if_neg (by simpa using hc)];rfl
   rw[hcnt]
   by_cases hi:idxB (ofL r) 46<0
   ·rw[if_pos hi];obtain ⟨h3,h4⟩:=h1 hi;rw[h3];exact ⟨fun _=>⟨rfl,h4⟩,fun h=>by omega⟩
   rw[if_neg hi];obtain ⟨h3,h4⟩:=h2 (by omega);refine ⟨fun h=>by omega,fun _=>?_⟩;rw[show (idxB (ofL r) 46+1).toNat=(idxB (ofL r) 46).toNat+1 by omega,h3];refine ⟨?_,h4⟩;rw[Q0D,Q1S]
def encL (l:List UInt8):AV:=encS (ofL l)
def repS (n:Nat):List.replicate n (mkEl { size:=1,bytes:=16,zero:=[Value.string ⟨#[]⟩],kind:=Kd.str })=(List.replicate n ([]:List UInt8)).map encL:=by rw[Q2L];rfl
def setL (xs:List (List UInt8))(v:List UInt8)(n i:Nat)(h:i=xs.length):((xs++List.replicate (n+1) []).map encL).set i (encL v)=((xs++[v])++List.replicate n []).map encL:=by
 subst h;rw[Q1D,J9x encL _ _ v _ rfl,J6y];simp
def endL {S:List Nat}{H:Hp}{k:Nat}{L:List AV}{n:Nat}{xs:List (List UInt8)}(h:L=xs.map encL)(hn:n=xs.length):AV.sl 1 (((L.drop 0).take n).map (J0U (J08 S H k)))=.sl 1 (xs.map encL):=by
 subst h;rw[J0S _ _ _ _ hn fun x=>by cases k<;>rfl]
def JDM (l:List UInt8)(hl:l.length<2^40):PX 387 [encS (ofL l),encS (b1 46),encI 0,encI (-1)] (.sl 1 ((splitL l).map encL)):=by
 refine PC [31] Tryz.func387 rfl (by rfl) rfl ?_;have hb:(b1 46).size=1:=rfl;have hsz:=J04 l;have hcl:cntL l 46≤l.length:=List.count_le_length;refine kWS ?_;intros;refine CallP.flat [] _ c396 (JM2 l 46 (by omega)) rfl ?_;refine kWS ?_;intros;have e0:(min ((cntL l 46:Int)+1) (((ofL l).size:Int)+1)).toNat=cntL l 46+1:=by rw[hsz];omega
 have e1:min ((cntL l 46:Int)+1) (((ofL l).size:Int)+1)-1=cntL l 46:=by rw[hsz];omega
 simp only[e0,e1]
 refine LoopP.intro (fun k σ H=>∃ g,∃ xs:List (List UInt8),∃ m:List UInt8,k=cntL m 46∧splitL l=xs++splitL m∧xs.length+cntL m 46=cntL l 46∧m.length≤l.length ∧
  σ=fr [(0,encS (ofL m)),(1,encS (b1 46)),(2,encI 0),(3,encI (cntL l 46)),(9,.own 31 g 0 (cntL l 46+1)),(10,encI xs.length)] ∧
  H=hp [(31,g,⟨9,1,(xs++List.replicate (cntL m 46+1) []).map encL⟩)]) ?_ ?_
 ·refine .intro <| W.of ⟨_,_,[],l,rfl,rfl,by simp,QM _,rfl,rfl⟩ ⟨rfl,rfl,rfl,rfl,rfl,rfl,trivial⟩ ⟨?_,trivial⟩
  show some (_,(⟨_,_,_⟩:Blk))=some (_,⟨_,_,_⟩)
  rw[Q07,← repS]
 rintro k σ H ⟨g,xs,m,rfl,hs,hc,hm,rfl,rfl⟩;have hszm:=J04 m;have hli:=@JIF (ofL m) 46;obtain ⟨hi1,hi2⟩:=JFW m;refine kWS ?_;intros;refine CondP.dec (fun h=>?_) (fun h=>?_)<;>refine kW ?_
 ·refine kS ?_;intros;refine CallP.flat [] _ c397 (JJt (ofL m) 46) rfl ?_
  have hpos:0≤idxB (ofL m) 46:=by
   rcases Q3v (idxB (ofL m) 46) 0 with h'|h'
   ·have:=(hi1 h').2;omega
   exact h'
  obtain ⟨hsp,hcn⟩:=hi2 hpos;generalize idxB (ofL m) 46=j at *;refine kWS ?_;intros;refine CondP.neg (by omega) ?_;refine kWS ?_;intros;rw[Qq,QV,J0w encL _ _ (by simp)];refine kWS ?_;intros
  refine .intro <| W.of ⟨cntL (m.drop (j.toNat+1)) 46,by omega,g,xs++[m.take j.toNat],m.drop (j.toNat+1),rfl,by rw[hs,hsp];simp,by simp;omega,by simp<;>omega,rfl,rfl⟩ ⟨?_,rfl,rfl,rfl,rfl,?_,trivial⟩ ⟨?_,trivial⟩
  ·show encS ((ofL m).extract (j+(((b1 46).size:Nat):Int)).toNat (ofL m).size)=encS _
   rw[hb,J09,hszm,Qi,show (j+((1:Nat):Int)).toNat=j.toNat+1 by omega]
  ·show AV.val (.int .i64 _)=AV.val (.int .i64 _)
   congr 2;simp
  have hv:encS ((ofL m).extract 0 (j+0).toNat)=encL (m.take j.toNat):=by
   rw[J09,Int.add_zero,Q0F];rfl
  show some (g,(⟨9,1,List.set _ _ (encS ((ofL m).extract 0 (j+0).toNat))⟩:Blk))=_
  rw[hv,setL _ _ _ _ rfl,hcn]
 have hc0:cntL m 46=0:=by omega
 have hsm:splitL m=[m]:=by
  rcases Q3v (idxB (ofL m) 46) 0 with h'|h'
  ·exact (hi1 h').1
  have:=(hi2 h').2;omega
 rw[hsm] at hs;rw[hc0];refine kS ?_;intros;rw[Qq,QV,J0w encL _ _ (by simp)];refine kWS ?_;intros;refine .of ?_;rw[hs];refine endL (L:=((xs++List.replicate (0+1) []).map encL).set _ (encL m)) (xs:=xs++[m]) ?_ ?_
 ·exact (setL _ _ 0 _ (by omega)).trans (by simp)
 show ((xs.length:Int)+1).toNat-0=_
 rw[QQ,Q2V];omega
def JLt (l:List UInt8)(hl:l.length<2^40):PX 379 [encS (ofL l),encS (b1 46)] (.sl 1 ((splitL l).map encL)):=by
 refine PZ Tryz.func379 rfl ?_;refine kWS ?_;intros;refine J00 [] _ c387 (JDM l hl) ?_;refine kWS ?_;intros;exact .of rfl
def fitsF (n d:Int):Bool:=!decide (sgn n=0)&&decide (nd n≤9)&&decide (nd d≤9)
def JNd (n d:Int)(hn:zl n<2^36)(hd:zl d<2^36):PX 392 [encQ n d] (encB (fitsF n d)):=by
 refine PZ Tryz.func392 rfl ?_;generalize hF:fitsF n d=F;unfold fitsF at hF;have hs:=J5L n d;have h1:=JOJ n d;have h2:=JOP n d;generalize sgn n=s at hF hs;unfold encQ at hs h1 h2 ⊢;refine kWS ?_;intros;refine CallP.flat [] _ c111 hs rfl ?_;refine kWS ?_;intros;refine CondP.dec (fun h=>?_) (fun h=>?_)<;>refine kW ?_
 ·rw[Q2 h] at hF;refine kS ?_;intros;exact .of (by rw[← hF];rfl)
 rw[Q1 h,Q0L,QB] at hF;refine kS ?_;intros;refine J00 [] _ c402 h1 ?_;refine kWS ?_;intros;refine CallP.flat [] _ c217 (J3R n hn) rfl ?_;refine kWS ?_;intros;refine CondP.dec (fun h=>?_) (fun h=>?_)<;>refine kW ?_
 ·rw[Q2 (by omega),QB] at hF;refine kS ?_;intros;refine J00 [] _ c403 h2 ?_;refine kWS ?_;intros;refine CallP.flat [] _ c217 (J3R d hd) rfl ?_;refine kWS ?_;intros;refine .of ?_;rw[← hF];show AV.val (.bool _)=AV.val (.bool _)
  congr 2
  exact QS.2 (by omega)
 rw[Q1 (by omega),QD] at hF;refine kS ?_;intros;exact .of (by rw[← hF];rfl)
def wrT (n d:Int):List Nat:=if qT n d=[49] then [] else if d=1 then qT n d else 40::qT n d++[41]
def JNJ {a b:List Nat}(ha:∀ c∈a,c<256)(hb:∀ c∈b,c<256)(h:ofL (a.map UInt8.ofNat)=ofL (b.map UInt8.ofNat)):a=b:=by
 have h1:=QC (fun s:ByteArray=>s.data.toList.map UInt8.toNat) h;simp only[ofL,Q0p] at h1
 have key:∀ l:List Nat,(∀ c∈l,c<256)→l.map (UInt8.toNat∘UInt8.ofNat)=l:=by
  intro l hl;refine (Qk fun c hc=>?_).trans (Q3Y l);have:=hl c hc;simp;omega
 rwa [key a ha,key b hb] at h1
def decT_lt (n:Nat):∀ c∈decT n,c<256:=by
 intro c hc;have:=QL.1 (J2F n) c hc;unfold isDg at this;simp at this;omega
def JN6 (z:Int):∀ c∈sT z,c<256:=by
 intro c hc;unfold sT at hc;split at hc
 ·rcases QO.1 hc with h | h
  ·omega
  exact decT_lt _ c h
 exact decT_lt _ c hc
def JPV (n d:Int):∀ c∈qT n d,c<256:=by
 intro c hc;unfold qT at hc;split at hc
 ·exact JN6 _ c hc
 rcases Q0z.1 hc with h|h
 ·exact JN6 _ c h
 rcases QO.1 h with h|h
 ·omega
 exact JN6 _ c h
def JPW (n d:Int):(qT n d).length≤9*zl n+9*zl d+5:=by
 have s3:=JKj n;have s4:=JKj d;unfold qT;split
 ·omega
 simp;omega
def JKG (n d:Int)(hn:zl n<2^36)(hd:zl d<2^36):PX 393 [encQ n d] (encT (wrT n d)):=by
 refine PZ Tryz.func393 rfl ?_;have hs:=J9d n d hn hd;have hi:=J8P n d;have hle:=JPW n d;have hlt:=JPV n d;have hsz:=J1T (qT n d);generalize hF:wrT n d=F;unfold wrT at hF
 have h1:ofL ((qT n d).map UInt8.ofNat)=⟨#[49]⟩↔qT n d=[49]:=by
  constructor
  ·intro h;exact JNJ hlt (by simp) (h.trans (show (⟨#[49]⟩:ByteArray)=ofL ([49].map UInt8.ofNat) from rfl))
  intro h;rw[h];rfl
 generalize qT n d=q at *;unfold encQ at hs hi ⊢;refine kWS ?_;intros;refine CallP.flat [] _ c150 hs rfl ?_;refine kWS ?_;intros;refine CondP.dec (fun h=>?_) (fun h=>?_)<;>refine kW ?_
 ·rw[if_pos (h1.1 h)] at hF;refine kS ?_;intros;exact .of (by rw[← hF];rfl)
 rw[if_neg (fun e=>h (h1.2 e))] at hF;refine kS ?_;intros;refine CallP.flat [] _ c327 hi rfl ?_;refine kWS ?_;intros;refine CondP.dec (fun h2=>?_) (fun h2=>?_)<;>refine kW ?_
 ·rw[if_pos h2] at hF;refine kS ?_;intros;exact .of (by rw[← hF];rfl)
 rw[if_neg h2] at hF;have s5:(⟨#[40]⟩:ByteArray).size=1:=rfl;have s6:(⟨#[41]⟩:ByteArray).size=1:=rfl;refine kS ?_;intros;rw[Q20];refine kS ?_;intros;refine .of ?_;rw[← hF];have e1:(⟨#[40]⟩:ByteArray)=ofL (List.map UInt8.ofNat [40]):=rfl;have e2:(⟨#[41]⟩:ByteArray)=ofL (List.map UInt8.ofNat [41]):=rfl;show encS _=encS _
 rw[e1,e2,J2n,J2n];rfl
def JOI:PX 142 [encI 1] (encQ 1 1):=by
 refine PZ Tryz.func142 rfl ?_;refine kWS ?_;intros;refine J00 [] _ c216 Of1_ok ?_;refine kWS ?_;intros;refine J00 [] _ c216 Of1_ok ?_;refine kWS ?_;intros;exact .of rfl
def JP0 (l:List UInt8):∀ i:Int,0≤i→fiL l i=-1∨(i≤fiL l i∧fiL l i<i+l.length):=by
 induction l with
 |nil=>intro i hi;left;rfl
 |cons c r ih=>
   intro i hi;unfold fiL;split
   ·right;simp;omega
   rcases ih (i+1) (by omega) with h|h
   ·left;exact h
   right;simp;omega
def facT (s:ByteArray)(j:Nat):ByteArray:=
 if (cutP (s.extract j s.size) (b1 40)).2 then J9q (cutP (s.extract j s.size) (b1 40)).1 (b1 41) else s.extract j s.size
def facF (s:ByteArray):ByteArray×Option (Int×Int)×Bool:=
 if fiL s.data.toList 0<0 then (s,some (1,1),symF s.data.toList)
 else (s.extract 0 (fiL s.data.toList 0).toNat,(J06 (facT s (fiL s.data.toList 0).toNat).data.toList).1,
  (J06 (facT s (fiL s.data.toList 0).toNat).data.toList).2&&symF (s.extract 0 (fiL s.data.toList 0).toNat).data.toList&&match (J06 (facT s (fiL s.data.toList 0).toNat).data.toList).1 with
    |some (n,d)=>fitsF n d&&decide (ofL ((wrT n d).map UInt8.ofNat)=s.extract (fiL s.data.toList 0).toNat s.size)
    |none=>false)
def J3g (s:ByteArray)(a b:Nat):(s.extract a b).size≤s.size:=by
 have:=J09 s.data.toList a b;rw[J12] at this;rw[this,J04,Q0N,Qb];show _≤s.data.toList.length
 omega
def JC9 (s p:ByteArray):(cutP s p).1.size≤s.size:=by
 unfold cutP;split
 ·exact J3g ..
 exact QM _
def JFS (s p:ByteArray):(J9q s p).size≤s.size:=by
 unfold J9q;split
 ·exact J3g ..
 exact QM _
def JIW (s:ByteArray)(j:Nat):(facT s j).size≤s.size:=by
 unfold facT;split
 ·exact Qg (JFS ..) (Qg (JC9 ..) (J3g ..))
 exact J3g ..
def JHr {l:List UInt8}{n d:Int}(h:(J06 l).1=some (n,d)):zl n≤l.length∧zl d≤l.length+1:=by
 obtain ⟨hp1,hp2⟩:=JEM l;have h1:zl 1=1:=by unfold zl;rw[show (1:Int).natAbs=1 from rfl,J3z hB9 (by omega) (by unfold B9;omega)];rfl
 unfold J06 at h;split at h
 ·cases h
 rename_i x hx;have:=J4e hx;split at h
 ·cases h;omega
 split at h
 ·cases h
 rename_i y hy;have:=J4e hy;split at h<;>cases h
 omega
def JDB {l:List UInt8}(h:(J06 l).2=true):∃ n d,(J06 l).1=some (n,d):=by
 unfold J06 at *;split
 ·rename_i hx;rw[hx] at h;cases h
 rename_i x hx;rw[hx] at h;simp only at h;split
 ·exact ⟨_,_,rfl⟩
 rename_i hy;rw[hy] at h;simp only at h;split
 ·rename_i hz;rw[hz] at h;cases h
 rename_i y hz;rw[hz] at h;simp only at h;split
 ·rename_i h1;rw[if_pos h1] at h;cases h
 exact ⟨_,_,rfl⟩
def JIV (s:ByteArray)(hs:s.size<2^35):PX 380 [encS s] (.tup [encS (facF s).1,qAV (facF s).2.1,encB (facF s).2.2]):=by
 refine PZ Tryz.func380 rfl ?_;have hi:=J5O 389 s.data.toList (by exact Q3C hs (by decide)) c389 JG6;rw[J12] at hi;have hj:=JP0 s.data.toList 0 (by omega)
 have hj2:fiL s.data.toList 0≤s.size:=by
  have:s.data.toList.length=s.size:=rfl;omega
 generalize hF:facF s=F;unfold facF at hF;generalize fiL s.data.toList 0=j at *;refine kWS ?_;intros;refine CallP.flat [] _ c388 hi rfl ?_;refine kWS ?_;intros;refine CondP.dec (fun h=>?_) (fun h=>?_)<;>refine kW ?_
 ·rw[if_pos h] at hF;have hsy:=JCV s.data.toList (by exact Q3C hs (by decide));rw[J12] at hsy;refine kS ?_;intros;refine J00 [] _ c142 JOI ?_;refine kWS ?_;intros;refine CallP.flat [] _ c390 hsy rfl ?_;refine kWS ?_;intros;exact .of (by rw[← hF];rfl)
 rw[if_neg h] at hF;have he:=J3g s j.toNat s.size;have he2:=J3g s 0 j.toNat;have ht:=JIW s j.toNat;have hcs:=JC9 (s.extract j.toNat s.size) (b1 40);have hcp:=J6G (s.extract j.toNat s.size) (b1 40) (by omega) (by decide);have htx:=JAn (cutP (s.extract j.toNat s.size) (b1 40)).1 (b1 41) (by omega) (by decide);have hpq:=J3P (facT s j.toNat).data.toList (by show (facT s j.toNat).size<_;omega);rw[J12,JEG] at hpq;have hzl:=@JHr (facT s j.toNat).data.toList;have hps:=@JDB (facT s j.toNat).data.toList;have hlen:(facT s j.toNat).data.toList.length<2^35:=by show (facT s j.toNat).size<_;omega
 generalize hp:J06 (facT s j.toNat).data.toList=p at hF hpq hzl hps;have hsy:=JCV (s.extract 0 j.toNat).data.toList (by show (s.extract 0 j.toNat).size<_;omega);rw[J12] at hsy;generalize hsym:symF (s.extract 0 j.toNat).data.toList=sy at hF hsy;refine kS ?_;intros;refine J00 [] _ c302 hcp ?_
 have hfT:facT s j.toNat=if (cutP (s.extract j.toNat s.size) (b1 40)).2 then J9q (cutP (s.extract j.toNat s.size) (b1 40)).1 (b1 41) else s.extract j.toNat s.size:=rfl
 generalize cutP (s.extract j.toNat s.size) (b1 40)=cp at htx hfT;refine kWS ?_;intros;refine CondP.intro (fun h1=>?_) (fun h1=>?_)<;>refine kX ?_
 case' refine_1=>
  rw[if_pos h1] at hfT;rw[← hfT] at htx;refine kS ?_;intros;refine CallP.flat [] _ c391 htx rfl ?_;refine kX ?_;refine kZ ?_;intros
 case' refine_2=>
  rw[if_neg (by rw[h1];decide)] at hfT
 all_goals
  refine J0b (W.of (l:=[(0,encS s),(2,encS ⟨#[]⟩),(3,.op 3 _ 0 0),(4,encB false),(5,encI j),(6,encS (facT s j.toNat))]) (m:=[(3,_,⟨104,4,[nilQ]⟩)]) ?_ ⟨rfl,rfl,rfl,rfl,rfl,QC encS ?_,trivial⟩ ⟨rfl,trivial⟩)
 case' refine_1.refine_2=>exact rfl
 case' refine_2.refine_2=>exact hfT.symm
 all_goals
  clear hfT htx hcp hcs h1 cp;generalize facT s j.toNat=tt at *;obtain ⟨o,b⟩:=p;refine kWS ?_;intros;refine J00 [] _ c134 hpq ?_
  cases b with
  |false=>
    replace hF:(s.extract 0 j.toNat,o,false)=F:=hF
    rcases J2L o with ho|⟨n,d,ho⟩
    all_goals
     simp only[ho];refine kWS ?_;intros;exact .of (by rw[← hF,ho];rfl)
  |true=>
    obtain ⟨n,d,ho⟩:=hps rfl;replace ho:o=some (n,d):=ho;subst ho;obtain ⟨z1,z2⟩:=hzl rfl;have z1':zl n<2^36:=by omega
    have z2':zl d<2^36:=by omega
    have hfi:=JNd n d z1' z2';have hwr:=JKG n d z1' z2';replace hF:(s.extract 0 j.toNat,some (n,d),true&&sy&&(fitsF n d&&decide (ofL ((wrT n d).map UInt8.ofNat)=s.extract j.toNat s.size)))=F:=hF;rw[QB] at hF;generalize fitsF n d=fi at hfi hF;unfold encT at hwr;generalize ofL ((wrT n d).map UInt8.ofNat)=wr at hwr hF;refine kWS ?_;intros;refine CallG.intro _ c390 hsy ?_;refine kWS ?_;intros;refine CondP.intro (fun h1=>?_) (fun h1=>?_)<;>refine kW ?_
    case' refine_2=>
     rw[h1,QD] at hF;refine kS ?_;intros;exact .of (by rw[← hF];rfl)
    rw[h1,QB] at hF;refine kS ?_;intros;refine CallG.intro _ c392 hfi ?_;refine kWS ?_;intros;refine CondP.intro (fun h2=>?_) (fun h2=>?_)<;>refine kW ?_
    case' refine_2=>
     rw[h2,QD] at hF;refine kS ?_;intros;exact .of (by rw[← hF];rfl)
    rw[h2,QB] at hF;refine kS ?_;intros;refine CallG.intro _ c393 hwr ?_;refine kWS ?_;intros;exact .of (by rw[← hF];rfl)
def leqS (a b:ByteArray):Bool:=Op.bytesLess a.toList b.toList||decide (a=b)
def J4P:List (List UInt8)→ByteArray→Bool
 |[],_=>true
 |f::r,last=>(facF (ofL f)).2.2&&!leqS (facF (ofL f)).1 last&&J4P r (facF (ofL f)).1
def JFV (l:List UInt8):∀ f∈splitL l,f.length≤l.length:=by
 induction l with
 |nil=>intro f hf;simp[splitL] at hf;subst hf;simp
 |cons c r ih=>
   intro f hf;rw[J2b] at hf;split at hf
   ·rcases QO.1 hf with h | h
    ·subst h;simp
    have:=ih f h;simp;omega
   split at hf
   ·rename_i x xs hr
    rcases QO.1 hf with h|h
    ·subst h;have:=ih x (by rw[hr];simp);simp;omega
    have:=ih f (by rw[hr];simp[h]);simp;omega
   simp at hf;subst hf;simp
def JLL (s:ByteArray)(ks:List ByteArray):∃ r,J1E (J13 T 9 (encS s)) (ks.map encS)=some r:=by
 obtain ⟨r,h,_⟩:=J27 (β:=Unit) (fun _=>.dead) s (ks.map fun k=>(k,()));refine ⟨r,?_⟩;rw[Q0p] at h;exact h
def resU (s:ByteArray):AV:=
 if s=⟨#[49]⟩ then .tup [.dead,encB true]
 else if J4P (splitL s.data.toList) ⟨#[]⟩ then .tup [.dead,encB (decide (s.size≤80))]
 else .tup [.val (.map none),encB false]
def JJl (s:ByteArray)(hs:s.size<2^35):PX 365 [encS s] (resU s):=by
 refine PZ Tryz.func365 rfl ?_;have hsp:=JLt s.data.toList (by show s.size<_;omega);rw[J12] at hsp;have hsl:=JFV s.data.toList;have hsc:=JFX s.data.toList;have hcc:cntL s.data.toList 46≤s.size:=List.count_le_length
 have hfl:∀ f∈splitL s.data.toList,(ofL f).size<2^35:=fun f hf=>by
  have:=hsl f hf;have e:s.data.toList.length=s.size:=rfl;rw[J04];omega
 clear hsl;generalize hF:resU s=F;unfold resU at hF;generalize splitL s.data.toList=fs at *;refine kWS ?_;intros;refine CondP.dec (fun h=>?_) (fun h=>?_)<;>refine kW ?_
 ·rw[if_pos h] at hF;refine kS ?_;intros;exact .of (by rw[← hF];rfl)
 rw[if_neg h] at hF;refine kS ?_;intros;refine J00 [] _ c379 hsp ?_;refine kWS ?_;intros
 refine LoopP.intro (fun m σ H=>∃ g i last,∃ kl vs:List AV,(∃ ks:List ByteArray,kl=ks.map encS)∧m=fs.length-i∧i≤fs.length ∧
  (if J4P (fs.drop i) last then AV.tup [.dead,encB (decide (s.size≤80))] else .tup [.val (.map none),encB false])=F ∧
  σ=fr [(0,encS s),(4,.om 11 g),(5,encS last),(16,.sl 1 (fs.map encL)),(17,encI fs.length),(18,encI i)] ∧
  H=hp [(11,g,⟨384,0,[.mp kl vs]⟩)]) ?_ ?_
 ·refine .intro <| W.of ⟨_,_,0,_,[],[],⟨[],rfl⟩,rfl,QG _,hF,rfl,rfl⟩ ⟨rfl,rfl,rfl,rfl,?_,rfl,trivial⟩ ⟨rfl,trivial⟩
  show AV.val (.int .i64 _)=AV.val (.int .i64 _)
  rw[Q3]
 clear hF;rintro m σ H ⟨g,i,last,kl,vs,⟨ks,rfl⟩,rfl,hi,hF,rfl,rfl⟩;refine kWS ?_;intros;refine CondP.dec (fun h=>?_) (fun h=>?_)<;>refine kW ?_
 ·have hi':i<fs.length:=by omega
  rw[Q6 hi'] at hF;unfold J4P at hF;have hfa:=JIV (ofL fs[i]) (hfl _ (QF hi'));generalize facF (ofL fs[i])=fa at hF hfa;obtain ⟨nm,o,b⟩:=fa;refine kR ?_;intros;generalize fs[i]=f at hfa ⊢;refine J00 [] _ c380 hfa ?_;obtain ⟨q,hq⟩:∃ q,q=qAV o:=⟨_,rfl⟩;have hq2:=J2L o;rw[← hq] at hq2;replace hF:(if (b&&!leqS nm last&&J4P (fs.drop (i+1)) nm) then AV.tup [.dead,encB (decide (s.size≤80))] else .tup [.val (.map none),encB false])=F:=hF;show J1r _ _ _ (put _ _ (.tup [encS nm,qAV o,encB b])) _ _
  rw[← hq]
  rcases hq2 with rfl|⟨n,d,rfl⟩
  all_goals
   refine kWT ?_;intros
   cases b with
   |false=>
     replace hF:AV.tup [.val (.map none),encB false]=F:=hF;refine kT ?_;intros;exact .of (by rw[← hF];rfl)
   |true=>
     rw[QB] at hF;refine kT ?_;intros;refine CondP.intro (fun h2=>?_) (fun h2=>?_)<;>refine kW ?_
     ·rw[show leqS nm last=true from h2] at hF;replace hF:AV.tup [.val (.map none),encB false]=F:=hF;refine kT ?_;intros;exact .of (by rw[← hF];rfl)
     rw[show leqS nm last=false from h2,Q0L,QB] at hF;refine kT ?_;intros;refine J1B [(5,false),(6,true)] (by kernel_rfl) ?_;refine kWY ?_;intros;refine Need.intro keyst9 ?_;refine kWY ?_;intros;obtain ⟨r,hr⟩:=JLL nm ks;refine LookP.intro r hr ?_
     cases r with
     |none=>
       refine kWY ?_;intros
       exact .intro <| W.of ⟨_,by omega,_,i+1,nm,ks.map encS++[encS nm],_,⟨ks++[nm],by simp⟩,rfl,hi',hF,rfl,rfl⟩ ⟨rfl,rfl,rfl,rfl,rfl,rfl,trivial⟩ ⟨rfl,trivial⟩
     |some j=>
       refine kWY ?_;intros
       exact .intro <| W.of ⟨_,by omega,_,i+1,nm,ks.map encS,_,⟨ks,rfl⟩,rfl,hi',hF,rfl,rfl⟩ ⟨rfl,rfl,rfl,rfl,rfl,rfl,trivial⟩ ⟨rfl,trivial⟩
 rw[Q9 (by omega)] at hF;replace hF:AV.tup [.dead,encB (decide (s.size≤80))]=F:=hF;refine kS ?_;intros;refine .of ?_;rw[← hF];show AV.tup [_,.val (.bool (decide ((s.size:Int)≤80)))]=AV.tup [_,.val (.bool (decide (s.size≤80)))]
 rw[show decide ((s.size:Int)≤80)=decide (s.size≤80) from QS.2 (by omega)]
def unitF (s:ByteArray):Bool:=decide (s=⟨#[49]⟩)||(J4P (splitL s.data.toList) ⟨#[]⟩&&decide (s.size≤80))
def JQm (s:ByteArray)(hs:s.size<2^35):PX 321 [encS s] (encB (unitF s)):=by
 refine PZ Tryz.func321 rfl ?_;have hp:=JJl s hs;unfold resU at hp;generalize hF:unitF s=F;unfold unitF at hF;split at hp
 ·rename_i h1;rw[Q2 h1,Qx] at hF;refine kWS ?_;intros;refine J00 [] _ c365 hp ?_;refine kWS ?_;intros;exact .of (by rw[← hF];rfl)
 rename_i h1;rw[Q1 h1,Qj] at hF;split at hp
 ·rename_i h2;rw[h2,QB] at hF;refine kWS ?_;intros;refine J00 [] _ c365 hp ?_;refine kWS ?_;intros;exact .of (by rw[← hF];rfl)
 rename_i h2;rw[show J4P (splitL s.data.toList) ⟨#[]⟩=false by simpa using h2,QD] at hF;refine kWS ?_;intros;refine J00 [] _ c365 hp ?_;refine kWS ?_;intros;exact .of (by rw[← hF];rfl)
def ltN:List UInt8→Nat
 |[]=>0
 |c::r=>if lttI c.toNat then ltN r+1 else 0
def J6X (l:List UInt8):ltN l≤l.length∧(∀ j (h:j<l.length),j<ltN l→lttI (l[j]).toNat=true)∧∀ h:ltN l<l.length,lttI (l[ltN l]).toNat=false:=by
 induction l with
 |nil=>exact ⟨QM _,fun j h=>absurd h (by simp),fun h=>absurd h (by simp[ltN])⟩
 |cons c r ih=>
   obtain ⟨h1,h2,h3⟩:=ih
   by_cases hc:lttI c.toNat=true
   ·have e:ltN (c::r)=ltN r+1:=by rw[ltN,if_pos hc]
    simp only[e,QT];refine ⟨by omega,fun j h h'=>?_,fun h=>h3 (by omega)⟩
    cases j with
    |zero=>exact hc
    |succ j=>exact h2 j (by omega) (by omega)
   have e:ltN (c::r)=0:=by rw[ltN,if_neg hc]
   simp only[e,QT];exact ⟨by omega,fun j h h'=>absurd h' (by omega),fun h=>by simpa using hc⟩
def innB (r:List UInt8):List UInt8:=if r.headD 0=40∧r.getLastD 0=41 then (r.take (r.length-1)).drop 1 else r
def facR (l:List UInt8):Option (List UInt8×Int×Nat):=
 if ltN l<1∨8<ltN l then none
 else if l.drop (ltN l)=[] then some (l,1,1)
 else match readR (innB (l.drop (ltN l))) with
  |none=>none
  | some x=>if J2s x.1 x.2=false then none else if x.1=0 then none else if x.1=x.2 then none
    else if decide (x.2=1)=decide (innB (l.drop (ltN l))=l.drop (ltN l)) then some (l.take (ltN l),x) else none
def J5w (x:List UInt8×Int×Nat):AV:=.agg [encS (ofL x.1),encB (decide (x.2.1<0)),encN x.2.1.natAbs,encN x.2.2]
def JHw:AV:=.agg [encS ⟨#[]⟩,encB false,.val (.slice none 0 0),.val (.slice none 0 0)]
def JG9:Option (List UInt8×Int×Nat)→AV
 |some x=>J5w x
 |none=>J5w ([],0,0)
def J2m:Fw.Ends (.tup [JHw,encB false]) (.tup [JG9 none,encB (none:Option (List UInt8×Int×Nat)).isSome]):=by
 refine J0I ?_ (Le.refl _);have h:=Le.cons (Le.refl (encS ⟨#[]⟩)) (Le.cons (Le.refl (encB false)) (Le.cons (Le.nil 1) (Le.cons (Le.nil 1) J8N)))
 have e:JG9 none=.agg [encS ⟨#[]⟩,encB false,.sl 1 [],.sl 1 []]:=by
  unfold JG9 J5w encN;rw[show ((([]:List UInt8),(0:Int),(0:Nat))).2.1.natAbs=0 from rfl,show ((([]:List UInt8),(0:Int),(0:Nat))).2.2=0 from rfl,J0l];rfl
 rw[e];exact Le.agg h.1 h.2
def JG5 (l:List UInt8)(hl:l.length<2^35):PX 367 [encS (ofL l)] (.tup [JG9 (facR l),encB (facR l).isSome]):=by
 refine PZ Tryz.func367 rfl ?_;obtain ⟨p1,p2,p3⟩:=J6X l;generalize hF:facR l=F;unfold facR at hF;have hsz:=J04 l;obtain ⟨p,hpp⟩:∃ p,ltN l=p:=⟨_,rfl⟩;rw[hpp] at p1 p2 p3 hF;clear hpp;(refine kWO ?_;repeat intro γ);refine LoopP.intro (fun k σ H=>∃ g i,i≤p∧k=p-i∧σ=fr [(0,encS (ofL l)),(2,.op 2 g 0 0),(4,encI i)]∧H=hp [(2,g,⟨388,4,[JHw]⟩)]) ?_ ?_
 ·exact .intro <| W.of ⟨_,_,0,QG _,rfl,rfl,rfl⟩ ⟨rfl,rfl,rfl,trivial⟩ ⟨rfl,trivial⟩
 rintro k σ H ⟨g, i,hi,rfl,rfl,rfl⟩
 rcases QI i p with h1|h1
 ·have hb:=J0h l i (by omega);have hlt:=J3e ((l[i]'(by omega)).toNat:Int);rw[p2 i (by omega) h1] at hlt;(refine kWO ?_;repeat intro γ);simp only[QV,hb];refine CallP.flat [] _ c184 hlt rfl ?_;(refine kWO ?_;repeat intro γ)
  exact .intro <| W.of ⟨_,by omega,_,i+1,by omega,rfl,rfl,rfl⟩ ⟨rfl,rfl,rfl,trivial⟩ ⟨rfl,trivial⟩
 obtain rfl:i=p:=by omega
 rcases QI i l.length with h2|h2
 case' inl=>
  have hb:=J0h l i (by omega);have hlt:=J3e ((l[i]'(by omega)).toNat:Int);rw[p3 h2] at hlt;(refine kWO ?_;repeat intro γ);simp only[QV,hb];refine CallP.flat [] _ c184 hlt rfl ?_;(refine kWO ?_;repeat intro γ)
 case' inr=>
  (refine kWO ?_;repeat intro γ)
 all_goals
  by_cases h3:i<1
  ·rw[if_pos (.inl h3)] at hF;subst hF;(refine kO ?_;repeat intro γ);exact J2m
  by_cases h4:8<i
  ·rw[if_pos (.inr h4)] at hF;subst hF;(refine kO ?_;repeat intro γ);exact J2m
  rw[if_neg (by omega)] at hF;have hx:(ofL l).extract i (ofL l).size=ofL (l.drop i):=by rw[J09,hsz,Qi]
  have hx2:(ofL l).extract 0 i=ofL (l.take i):=by rw[J09,Q0F]
  (refine kO ?_;repeat intro γ);simp only[QV,hx];have hr2:(l.drop i).length<2^35:=by rw[Q0N];omega
  have hrs:=J04 (l.drop i);have hnil:=JA4 (l.drop i);generalize l.drop i=r at *;refine CondP.dec (fun h5=>?_) (fun h5=>?_)<;>refine kW ?_
  ·rw[if_pos (hnil.1 h5)] at hF;subst hF;have h1':=JMX 1 (by decide);unfold encR at h1';(refine kO ?_;repeat intro γ);refine J00 [] _ c153 h1' ?_;(refine kWO ?_;repeat intro γ);exact .of rfl
  have hrn:r≠[]:=fun e=>h5 (hnil.2 e);have hrp:0<r.length:=Q1C.2 hrn;rw[if_neg hrn] at hF
  have hb0:byteAt (ofL r) (Int.toNat 0)=((r.headD 0).toNat:Int):=by
   rw[J0h r (Int.toNat 0) hrp]
   cases r with
   |nil=>exact absurd rfl hrn
   |cons c r=>rfl
  have hbl:byteAt (ofL r) (((r.length:Int)-1).toNat)=((r.getLastD 0).toNat:Int):=by
   rw[show ((r.length:Int)-1).toNat=r.length-1 by omega,J0h r _ (by omega)]
   congr 2
   rw[Q1G,Q2A,Q8 (by omega)];rfl
  have t40:((r.headD 0).toNat:Int)=40↔r.headD 0=40:=⟨fun h=>Q0h (by rw[show (40:UInt8).toNat=40 from rfl];omega),fun h=>by rw[h];rfl⟩;have t41:((r.getLastD 0).toNat:Int)=41↔r.getLastD 0=41:=⟨fun h=>Q0h (by rw[show (41:UInt8).toNat=41 from rfl];omega),fun h=>by rw[h];rfl⟩
  have hin:innB r=if r.headD 0=40∧r.getLastD 0=41 then (r.take (r.length-1)).drop 1 else r:=rfl
  have hxi:(ofL r).extract 1 (((r.length:Int)-1).toNat)=ofL ((r.take (r.length-1)).drop 1):=by
   rw[show ((r.length:Int)-1).toNat=r.length-1 by omega,J09]
  have h2l:r.headD 0=40∧r.getLastD 0=41→1<r.length:=fun ⟨a,b⟩=>by
   rcases r with _|⟨c,_|⟨e,r⟩⟩
   ·exact absurd rfl hrn
   ·simp at a b;rw[a] at b;exact absurd b (by decide)
   simp
  have hil:(innB r).length≤r.length:=by rw[hin];split<;>simp<;>omega
  have hinT:((r.headD 0).toNat:Int)=40→((r.getLastD 0).toNat:Int)=41→innB r=(r.take (r.length-1)).drop 1∧1<r.length:=fun a b=>⟨by rw[hin,if_pos ⟨t40.1 a,t41.1 b⟩],h2l ⟨t40.1 a,t41.1 b⟩⟩;have hinF:¬ (((r.headD 0).toNat:Int)=40∧((r.getLastD 0).toNat:Int)=41)→innB r=r:=fun h=>by rw[hin,if_neg fun e=>h ⟨t40.2 e.1,t41.2 e.2⟩]
  clear hin h2l t40 t41;generalize innB r=q at *;(refine kO ?_;repeat intro γ);rw[hb0]
  rcases (show (((r.headD 0).toNat:Int)=40∧((r.getLastD 0).toNat:Int)=41)∨(((r.headD 0).toNat:Int)=40∧¬ ((r.getLastD 0).toNat:Int)=41)∨¬ ((r.headD 0).toNat:Int)=40 by omega) with ⟨h6,h7⟩|⟨h6,h7⟩|h6
  case' inl=>
   obtain ⟨hq,h8⟩:=hinT h6 h7;refine CondP.pos h6 ?_;refine kX ?_;(refine kZ ?_;repeat intro γ);simp only[hrs];(refine kZ ?_;repeat intro γ);rw[hbl];refine CondP.pos h7 ?_;refine kX ?_;(refine kZ ?_;repeat intro γ);refine J0b (W.of (l:=[(0,encS (ofL l)),(2,.op 2 _ 0 0),(4,encI i),(5,encS (ofL r)),(6,encS (ofL q))]) (m:=[(2,_,⟨388,4,[JHw]⟩)]) ?_ ⟨rfl,rfl,rfl,rfl,?_,trivial⟩ ⟨rfl,trivial⟩)
   rotate_left 1
   show encS ((ofL r).extract 1 (((ofL r).size:Int)-1).toNat)=encS (ofL q)
   rw[hrs,hxi,hq]
  case' inr.inl=>
   have hq:=hinF (fun e=>h7 e.2);refine CondP.pos h6 ?_;refine kX ?_;(refine kZ ?_;repeat intro γ);simp only[hrs];(refine kZ ?_;repeat intro γ);rw[hbl];refine CondP.neg h7 ?_;refine kX ?_;refine J0b (W.of (l:=[(0,encS (ofL l)),(2,.op 2 _ 0 0),(4,encI i),(5,encS (ofL r)),(6,encS (ofL q))]) (m:=[(2,_,⟨388,4,[JHw]⟩)]) ?_ ⟨rfl,rfl,rfl,rfl,QC (fun z=>encS (ofL z)) hq.symm,trivial⟩ ⟨rfl,trivial⟩)
  case' inr.inr=>
   have hq:=hinF (fun e=>h6 e.1);refine CondP.neg h6 ?_;refine kX ?_;(refine kZ ?_;repeat intro γ);refine J0b (W.of (l:=[(0,encS (ofL l)),(2,.op 2 _ 0 0),(4,encI i),(5,encS (ofL r)),(6,encS (ofL q))]) (m:=[(2,_,⟨388,4,[JHw]⟩)]) ?_ ⟨rfl,rfl,rfl,rfl,QC (fun z=>encS (ofL z)) hq.symm,trivial⟩ ⟨rfl,trivial⟩)
  all_goals
   clear hinT hinF hb0 hbl hxi hnil h5 hrp hq hx
   try clear h6
   try clear h7
   try clear h8
   try clear hb
   try clear hlt
   have hrd:=J8K q (by omega);have hok:=@J1Z q
   have hqr:ofL q=ofL r↔q=r:=⟨fun h=>by
    have:=QC (fun s:ByteArray=>s.data.toList) h
    simpa [ofL] using this,fun h=>by rw[h]⟩
   generalize readR q=o at *
   cases o with
   |none=>
     subst hF;unfold JBr encR at hrd;rw[Q2p] at hrd;(refine kWO ?_;repeat intro γ);refine J00 [] _ c207 hrd ?_;(refine kWO ?_;repeat intro γ);(refine kS ?_;repeat intro γ);exact J2m
   |some x=>
     obtain ⟨n,d⟩:=x;obtain ⟨hk,-⟩:=hok rfl;obtain ⟨l1,l2⟩:=JDE hk;simp only at hF l1 l2;rw[Q1v] at hrd;have hsh:=JJh n d hk;have hz:=JF3 n d;have ho:=JMX 1 (by decide);have hag:=J9e (n,d) (1,1) hk.1 Nat.one_pos (by simp only;omega) (by simp only;omega) (by simp only;rw[show (1:Int).natAbs=1 from rfl,JBa];decide) (by simp only;rw[JBa];decide);have hwh:=J8I n d (by omega)
     have hsg:sgn (n*((1:Nat):Int)-1*(d:Int))=0↔n=d:=by
      unfold sgn;rw[show n*((1:Nat):Int)-1*(d:Int)=n-d by omega];split
      ·omega
      split<;>omega
     simp only at hag;generalize sgn (n*((1:Nat):Int)-1*(d:Int))=s at hag hsg;unfold JBr at hrd;unfold eR at hag;simp only at hag;unfold encR at hrd hsh hz ho hag hwh;(refine kWO ?_;repeat intro γ);refine J00 [] _ c207 hrd ?_;(refine kWO ?_;repeat intro γ);refine D0 fun γs=>?_;(refine kWO ?_;repeat intro γ)
     cases hsv:J2s n d with
     |false=>
       rw[hsv] at hsh;rw[if_pos hsv] at hF;subst hF;refine CallG.intro _ c382 hsh ?_;(refine kWO ?_;repeat intro γ);exact J2m
     |true=>
       rw[hsv] at hsh;rw[if_neg (by rw[hsv];decide)] at hF;refine CallG.intro _ c382 hsh ?_;(refine kWO ?_;repeat intro γ)
       by_cases hn0:n=0
       ·rw[Q2 hn0] at hz;rw[if_pos hn0] at hF;subst hF;refine CallG.intro _ c131 hz ?_;(refine kWO ?_;repeat intro γ);exact J2m
       rw[Q1 hn0] at hz;rw[if_neg hn0] at hF;refine CallG.intro _ c131 hz ?_;(refine kWO ?_;repeat intro γ);refine CallG.intro _ c153 ho ?_;(refine kWO ?_;repeat intro γ);refine CallG.intro _ c309 hag ?_;refine kW ?_
       by_cases hnd:n=(d:Int)
       ·have hs0:=hsg.2 hnd;rw[if_pos hnd] at hF;subst hF;(refine kO ?_;repeat intro γ);exact J2m
       have hs0:¬ s=0:=fun e=>hnd (hsg.1 e);rw[if_neg hnd] at hF;(refine kO ?_;repeat intro γ);have h10:∀ b,decide (q=r)=b→decide (ofL q=ofL r)=b:=fun b h=>by rw[← h];exact QS.2 hqr
       cases h8:decide (d=1)
       all_goals
        rw[h8] at hwh hF;refine CallG.intro _ c160 hwh ?_;cases h9:decide (q=r)
        all_goals
         rw[h9] at hF;have h11:=h10 _ h9;(refine kWO ?_;repeat intro γ)
         try simp only[h11]
         try (refine kO ?_;repeat intro γ)
         first
          | (refine JAw rfl ?_
             rw[if_pos rfl] at hF;subst hF;(refine kWO ?_;repeat intro γ);refine D0 fun γs=>?_;refine kWO ?_;intros;refine .of ?_;show AV.tup [AV.agg [encS ((ofL l).extract 0 i),_,_,_],_]=_
             rw[hx2];rfl)
          | (refine JAx rfl ?_
             rw[if_neg (by decide)] at hF;subst hF;refine kWO ?_;intros
             exact J2m)
abbrev Fac:=List UInt8×Int×Nat
def dotN:List UInt8→Nat
 |[]=>0
 |c::r=>if c=46 then 0 else dotN r+1
def JIe (l:List UInt8):dotN l≤l.length∧(∀ j (h:j<l.length),j<dotN l→l[j]≠46)∧(∀ h:dotN l<l.length,l[dotN l]=46)∧splitL l=l.take (dotN l)::(if dotN l<l.length then splitL (l.drop (dotN l+1)) else []):=by
 induction l with
 |nil=>exact ⟨QM _,fun j h=>absurd h (by simp),fun h=>absurd h (by simp),rfl⟩
 |cons c r ih=>
   obtain ⟨h1,h2,h3,h4⟩:=ih
   by_cases hc:c=46
   ·have e:dotN (c::r)=0:=by rw[dotN,if_pos hc]
    simp only[e];refine ⟨by omega,fun j h h'=>absurd h' (by omega),fun h=>by simpa using hc,?_⟩;rw[J2b,if_pos hc,if_pos (by simp)];rfl
   have e:dotN (c::r)=dotN r+1:=by rw[dotN,if_neg hc]
   simp only[e,QT];refine ⟨by omega,fun j h h'=>?_,fun h=>h3 (by omega),?_⟩
   ·cases j with
    |zero=>exact hc
    |succ j=>exact h2 j (by omega) (by omega)
   rw[J2b,if_neg hc,h4];simp only[Q0D,Q1S]
   by_cases hd:dotN r<r.length
   ·rw[if_pos hd,if_pos (by omega)]
   rw[if_neg hd,if_neg (by omega)]
def JNt (l:List UInt8)(i:Nat)(hi:i≤l.length):∃ p,i+p≤l.length∧(∀ j,i≤j→j<i+p→¬ byteAt (ofL l) j=46)∧(i+p<l.length→byteAt (ofL l) (i+p)=46)∧splitL (l.drop i)=(l.take (i+p)).drop i::(if i+p<l.length then splitL (l.drop (i+p+1)) else []):=by
 obtain ⟨d1,d2,d3,d4⟩:=JIe (l.drop i);have hll:(l.drop i).length=l.length-i:=Q0N;have t46:∀ c:UInt8,(c.toNat:Int)=46↔c=46:=fun c=>⟨fun h=>Q0h (by rw[show (46:UInt8).toNat=46 from rfl];omega),fun h=>by rw[h];rfl⟩;refine ⟨dotN (l.drop i),by omega,fun j h1 h2 e=>?_,fun h=>?_,?_⟩
 ·have h3:=d2 (j-i) (by omega) (by omega);rw[Q0o] at h3;rw[J0h l j (by omega)] at e;apply h3;have:=(t46 _).1 e
  simpa [show i+(j-i)=j by omega] using this
 ·have h3:=d3 (by omega);rw[Q0o] at h3;rw[J0h l _ h,h3];rfl
 rw[d4,Q3V,hll,List.take_drop,show i+(dotN (l.drop i)+1)=i+dotN (l.drop i)+1 by omega]
 congr 1
 by_cases h:i+dotN (l.drop i)<l.length
 ·rw[if_pos h,if_pos (by omega)]
 rw[if_neg h,if_neg (by omega)]
def ltS (a b:ByteArray):Bool:=Op.bytesLess a.toList b.toList
def JG7:List (List UInt8)→List Fac→Option (List Fac)
 |[],acc=>some acc
 |f::r,acc=>match facR f with
   |none=>none
   |some x=>if decide (0<acc.length)&&!ltS (ofL ((acc.getLastD ([],0,0)).1)) (ofL x.1) then none else JG7 r (acc++[x])
def FacsF (l:List UInt8):Option (List Fac):=if l=[49] then some [] else if 80<l.length then none else JG7 (splitL l) []
def JNo:Option (List Fac)→AV
 |some x=>.sl 4 (x.map J5w)
 |none=>.sl 4 []
def JPe {S:List Nat}{H:Hp}{L:List AV}{n:Nat}{xs:List Fac}(h:L=xs.map J5w)(hn:n=xs.length):AV.sl 4 (((L.drop 0).take n).map (J0U (J08 S H 2)))=JNo (some xs):=by
 subst h;rw[J0S _ _ _ _ hn fun x=>rfl];rfl
def JGV (l:List UInt8)(hl:l.length<2^35):PX 326 [encS (ofL l)] (.tup [JNo (FacsF l),encB (FacsF l).isSome]):=by
 refine PC [100] Tryz.func326 rfl (by rfl) rfl ?_;have hsz:=J04 l;generalize hF:FacsF l=F;unfold FacsF at hF
 have h49:ofL l=⟨#[49]⟩↔l=[49]:=⟨fun h=>by
  have:=QC (fun s:ByteArray=>s.data.toList) h
  simpa [ofL] using this,fun h=>by rw[h];rfl⟩
 (refine kWO ?_;repeat intro γ);refine CondP.dec (fun h1=>?_) (fun h1=>?_)<;>refine kW ?_
 ·rw[if_pos (h49.1 h1)] at hF;subst hF;(refine kO ?_;repeat intro γ);exact J0I (Le.nil 4) (Le.refl _)
 rw[if_neg (fun e=>h1 (h49.2 e))] at hF
 by_cases h2:80<l.length
 ·rw[if_pos h2] at hF;subst hF;(refine kO ?_;repeat intro γ);exact J0I (Le.nil 4) (Le.refl _)
 rw[if_neg h2] at hF;(refine kO ?_;repeat intro γ)
 refine LoopP.intro (fun k σ H=>∃ g i acc fs,k=l.length+1-i∧i≤l.length+1∧fs=(if i≤l.length then splitL (l.drop i) else [])∧JG7 fs acc=F∧acc.length≤i ∧
  σ=fr [(0,encS (ofL l)),(4,.own 100 g 0 acc.length),(5,encI i)]∧H=hp [(100,g,⟨388,4,acc.map J5w⟩)]) ?_ ?_
 ·exact .intro (J24 4 100 388 4 rfl rfl fun g=>W.of ⟨_,g,0,[],splitL l,rfl,by omega,by rw[if_pos (by omega)];rfl,hF,by simp,rfl,rfl⟩ ⟨rfl,rfl,rfl,trivial⟩ ⟨rfl,trivial⟩)
 clear hF h1 h49;rintro k σ H ⟨g,i,acc,fs,rfl,hi,hfs,hF,hal,rfl,rfl⟩
 rcases QI l.length i with h1|h1
 ·rw[if_neg (by omega)] at hfs;subst hfs;have hF2:some acc=F:=hF;subst hF2;(refine kWO ?_;repeat intro γ);exact .of (QC (fun z=>AV.tup [z,encB true]) (JPe (by simp) (by simp)))
 rw[if_pos h1] at hfs;obtain ⟨p,d1,d2,d3,d4⟩:=JNt l i h1;rw[d4] at hfs;clear d4;subst hfs;(refine kWO ?_;repeat intro γ);refine LoopP.intro (fun k σ H=>∃ g j,k=i+p-j∧i≤j∧j≤i+p∧σ=fr [(0,encS (ofL l)),(4,.own 100 g 0 acc.length),(5,encI i),(6,encI j)]∧H=hp [(100,g,⟨388,4,acc.map J5w⟩)]) ?_ ?_
 ·exact .intro <| W.of ⟨_,g,i,rfl,QM _,by omega,rfl,rfl⟩ ⟨rfl,rfl,rfl,rfl,trivial⟩ ⟨rfl,trivial⟩
 clear g;rintro k σ H ⟨g,j,rfl,hj1,hj2,rfl,rfl⟩
 rcases QI j (i+p) with h3|h3
 ·have h4:=d2 j hj1 h3;(refine kWO ?_;repeat intro γ);simp only[QV];(refine kO ?_;repeat intro γ)
  exact .intro <| W.of ⟨_,by omega,g,j+1,rfl,by omega,by omega,rfl,rfl⟩ ⟨rfl,rfl,rfl,rfl,trivial⟩ ⟨rfl,trivial⟩
 obtain rfl:j=i+p:=by omega
 have hx:(ofL l).extract i (i+p)=ofL ((l.take (i+p)).drop i):=J09 l i (i+p);have hfl:((l.take (i+p)).drop i).length<2^35:=by rw[Q0N,Qb];omega
 have hfr:(if i+p<l.length then splitL (l.drop (i+p+1)) else [])=(if i+p+1≤l.length then splitL (l.drop (i+p+1)) else []):=rfl;rw[hfr] at hF;unfold JG7 at hF;have hfc:=JG5 _ hfl;generalize (l.take (i+p)).drop i=f at *
 rcases QI (i+p) l.length with h4|h4
 case' inl=>
  have h5:=d3 h4;(refine kWO ?_;repeat intro γ);simp only[QV];(refine kO ?_;repeat intro γ)
 case' inr=>
  (refine kWO ?_;repeat intro γ)
 all_goals
  simp only[QV,hx]
  cases hfo:facR f with
  |none=>
    rw[hfo] at hF hfc;subst hF;unfold JG9 J5w at hfc;rw[Q2p] at hfc;refine J00 [] _ c367 hfc ?_;(refine kWO ?_;repeat intro γ);refine D0 fun γs=>?_;(refine kWO ?_;repeat intro γ);exact J0I (Le.nil 4) (Le.refl _)
  |some x=>
    obtain ⟨nm,n,d⟩:=x;rw[hfo] at hF hfc;simp only at hF;unfold JG9 J5w at hfc;rw[Q1v] at hfc;simp only at hfc;refine J00 [] _ c367 hfc ?_;(refine kWO ?_;repeat intro γ);refine D0 fun γs=>?_;refine kW ?_;have hml:(acc.map J5w).length=acc.length:=Q3 _
    by_cases h6:0<acc.length
    case' pos=>
     obtain ⟨y,hy⟩:∃ y,acc.getLastD ([],0,0)=y:=⟨_,rfl⟩
     have hget:(acc.map J5w).getD (acc.length-1) .dead=J5w y:=by
      rw[J0w _ _ _ (by omega),← hy]
      congr 1
      rw[Q1G,Q2A,Q8 (by omega)];rfl
     rw[hy,Q2 h6,QB] at hF;have e1:((acc.length:Int)-1).toNat=acc.length-1:=by omega
     obtain ⟨ym,yn,yd⟩:=y;rw[show J5w (ym,yn,yd)=.agg [encS (ofL ym),encB (decide (yn<0)),encN yn.natAbs,encN yd] from rfl] at hget;simp only at hF;(refine kO ?_;repeat intro γ);simp only[e1,Qq,hget];(refine kWO ?_;repeat intro γ);refine CondP.intro (fun h7=>?_) (fun h7=>?_)<;>refine kW ?_
     case' refine_2=>
      rw[show ltS (ofL ym) (ofL nm)=false from h7,if_pos (by decide)] at hF;subst hF;(refine kO ?_;repeat intro γ);exact J0I (Le.nil 4) (Le.refl _)
     rw[show ltS (ofL ym) (ofL nm)=true from h7,if_neg (by decide)] at hF
    case' neg=>
     rw[Q1 h6,QD,if_neg (by decide)] at hF;(refine kO ?_;repeat intro γ)
    all_goals
     (refine kO ?_;repeat intro γ)
     refine .intro <| W.of ⟨_,by omega,γ,i+p+1,acc++[(nm,n,d)],_,rfl,by omega,rfl,hF,by simp;omega,rfl,rfl⟩ ⟨rfl,?_,rfl,trivial⟩ ⟨?_,trivial⟩
     ·exact QC (AV.own 100 _ 0) (by simp)
     show some (_,(⟨_,_,_++_⟩:Blk))=_
     rw[QW];rfl
def JJr (l:List UInt8)(hl:l.length<2^35):PX 261 [encS (ofL l)] (encB (FacsF l).isSome):=by
 refine PZ Tryz.func261 rfl ?_;have h:=JGV l hl;generalize FacsF l=o at *
 have h2:∃ xs,JNo o=.sl 4 xs:=by
  cases o with
  |none=>exact ⟨_,rfl⟩
  |some x=>exact ⟨_,rfl⟩
 obtain ⟨xs,h2⟩:=h2;rw[h2] at h;refine kWO ?_;intros;refine J00 [] _ c326 h ?_;refine kWO ?_;intros;exact .of rfl
def JCN (a:List UInt8):J20 (a.map UInt8.toNat)=true↔1≤a.length∧(a.length=1∨a.headD 0≠48)∧isDs a=true:=by
 unfold J20;rw[JEf,Q3];simp only[Q5,Q09,Qa,and_assoc];refine and_congr_right fun h1=>and_congr_left fun _=>or_congr_right ?_
 cases a with
 |nil=>simp at h1
 |cons c r=>
   simp only[QK,Q2k,List.headD_cons,ne_eq];refine not_congr ?_;exact ⟨fun h=>Q0h (by rw[h];rfl),fun h=>by rw[h];rfl⟩
def JNG (m:Bool)(a:List UInt8):okW m a=true↔1≤a.length∧(a.headD 0≠48∨(a.length=1∧m=false))∧isDs a=true:=by
 unfold okW;simp only[Q5,Qw,Q21,Q04,Qe,and_assoc];constructor
 ·rintro ⟨h1,h2,h3⟩
  have hl:1≤a.length:=by cases a with
   |nil=>simp at h1
   |cons c r=>simp
  exact ⟨hl,by rcases h2 with h|h;exact .inl h;exact .inr ⟨by omega,h.2⟩,h3⟩
 rintro ⟨h1,h2,h3⟩
 have he:a.isEmpty=false:=by cases a with
  |nil=>simp at h1
  |cons c r=>rfl
 exact ⟨he,by rcases h2 with h|h;exact .inl h;exact .inr ⟨by omega,h.2⟩,h3⟩
def JIk {a:List UInt8}(h:J20 (a.map UInt8.toNat)=true):decU a=0↔a=[48]:=by
 constructor
 ·intro h0;have:=J56 h;unfold decU at h0;rw[h0] at this;have h2:=QC (List.map UInt8.ofNat) this;rw[J6u] at h2;rw[← h2];rfl
 rintro rfl;rfl
def J4i (m:Bool)(a:List UInt8):okW m a=true↔J20 (a.map UInt8.toNat)=true∧¬ (m=true∧decU a=0):=by
 rw[JNG];constructor
 ·rintro ⟨h1,h2,h3⟩;have hc:J20 (a.map UInt8.toNat)=true:=(JCN a).2 ⟨h1,by rcases h2 with h | h;exact .inr h;exact .inl h.1,h3⟩;refine ⟨hc,fun ⟨hm,h0⟩=>?_⟩;have:=(JIk hc).1 h0;subst this
  rcases h2 with h|h
  ·exact h rfl
  rw[hm] at h;cases h.2
 rintro ⟨hc,hn⟩;obtain ⟨h1,h2,h3⟩:=(JCN a).1 hc;refine ⟨h1,?_,h3⟩
 by_cases hh:a.headD 0=48
 ·right;have hl:a.length=1:=h2.resolve_right (fun h=>h hh);refine ⟨hl,?_⟩
  cases m with
  |false=>rfl
  |true=>
    exfalso;obtain ⟨c,rfl⟩:=Q2Q.1 hl;simp at hh;subst hh;exact hn ⟨rfl,rfl⟩
 exact .inl hh
def JHx {a:List UInt8}(h:J20 (a.map UInt8.toNat)=true)(m:Bool):nd (if m then -(decU a:Int) else decU a)=a.length:=by
 have:(if m then -(decU a:Int) else (decU a:Int)).natAbs=decU a:=by cases m<;>simp
 unfold nd;rw[this];have:=J56 h;unfold decU;rw[this,Q3]
def J93 (t:List UInt8):J2M (45::t)=if okW true t then some (-(decU t:Int)) else none:=rfl
def J92 (t:List UInt8)(h:∀ r,t≠45::r):J2M t=if okW false t then some (decU t:Int) else none:=by
 unfold J2M;split
 ·rename_i r;exact absurd rfl (h r)
 rfl
def JEK (m:Bool)(t:List UInt8):Option (Int×Int)×Bool:=
 match (if okW m (J03 t).1 then some (if m then -(decU (J03 t).1:Int) else (decU (J03 t).1:Int)) else none) with
 |none=>(none,false)
 |some n=>match (J03 t).2.2 with
   |false=>(some (n,1),decide (nd n≤300))
   |true=>match J2M (J03 t).2.1 with
     |none=>(none,false)
     |some d=>if d≤1 then (none,false) else (some (n,d),decide (nd n≤300)&&decide (nd d≤300)&&decide (n.natAbs.gcd d.natAbs=1))
def JDC (l:List UInt8):∃ t m,readR l=J6I m t∧J06 l=JEK m t:=by
 unfold readR;split
 ·rename_i t;refine ⟨t,true,rfl,?_⟩;unfold J06 JEK;rw[show J03 (45::t)=(45::(J03 t).1,(J03 t).2.1,(J03 t).2.2) by rw[J03,if_neg (by decide)]];simp only[J93,if_true];rfl
 rename_i h;refine ⟨l,false,rfl,?_⟩;unfold J06 JEK
 have hh:∀ r,(J03 l).1≠45::r:=by
  intro r e;obtain ⟨p1,p2,p3,p4,p5⟩:=J3a l;rw[e] at p2
  cases l with
  |nil=>simp at p2
  |cons c l=>
    rw[QT,Q0D] at p2;have:=(Q2e p2).1;exact h l (by rw[this])
 rw[J92 _ hh];rfl
def J1t (l:List UInt8):(J06 l).2=(readR l).isSome∧∀ x,readR l=some x→J06 l=(some (x.1,(x.2:Int)),true):=by
 obtain ⟨t,m,e1,e2⟩:=JDC l;rw[e1,e2];unfold JEK J6I;generalize (J03 t).1=a;generalize (J03 t).2.1=b;generalize (J03 t).2.2=ok;have hda:=J3l a;have hdb:=J3l b
 by_cases ha:okW m a=true
 case neg=>
  have ha':okW m a=false:=by simpa using ha
  rw[ha']
  have:digB a=false∨(m=true∧decU a=0):=by
   by_cases h:J20 (a.map UInt8.toNat)=true
   ·right;exact Decidable.byContradiction fun e=>ha ((J4i m a).2 ⟨h,e⟩)
   left;rw[hda,show J20 (a.map UInt8.toNat)=false by simpa using h];rfl
  have hnone:(if digB a=false then none else if ok=true then if digB b=false then none else if decU b≤1∨Nat.gcd (decU a) (decU b)≠1 then none else if m=true∧decU a=0 then none else some (if m then -(decU a:Int) else (decU a:Int),decU b) else if m=true∧decU a=0 then none else some (if m then -(decU a:Int) else (decU a:Int),1))=none:=by
   rcases this with h|h
   ·rw[if_pos h]
   split
   ·rfl
   split
   ·split
    ·rfl
    split
    ·rfl
    first
     |rfl
     |rw[if_pos h]
   first
    |rfl
    |rw[if_pos h]
  rw[hnone];exact ⟨rfl,fun x h=>by cases h⟩
 obtain ⟨hc,hz⟩:=(J4i m a).1 ha;have hnd:=JHx hc m;have hna:(if m then -(decU a:Int) else (decU a:Int)).natAbs=decU a:=by cases m<;>simp
 rw[ha,if_pos rfl];simp only;rw[hnd,hna];rw[hc,QB] at hda;generalize (if m then -(decU a:Int) else (decU a:Int))=n at *
 by_cases hl:a.length≤300
 case neg=>
  rw[Q1 hl] at hda ⊢;rw[if_pos hda];refine ⟨?_,fun x h=>by cases h⟩
  cases ok with
  |false=>rfl
  |true=>
    cases J2M b with
    |none=>rfl
    |some d=>
      show (if d≤1 then ((none:Option (Int×Int)),false) else _).2=_
      split<;>rfl
 rw[Q2 hl] at hda ⊢;rw[if_neg (by rw[hda];decide)]
 cases ok with
 |false=>
   rw[if_neg (by decide),if_neg hz];exact ⟨rfl,fun x h=>by cases h;rfl⟩
 |true=>
   rw[if_pos rfl];simp only[QB]
   by_cases hb45:∃ r,b=45::r
   ·obtain ⟨r,rfl⟩:=hb45
    have hdf:digB (45::r)=false:=by
     rw[hdb]
     have:J20 ((45::r:List UInt8).map UInt8.toNat)=false:=by
      unfold J20;simp[isDg]
     rw[this];rfl
    rw[if_pos hdf,J93];refine ⟨?_,fun x h=>by cases h⟩
    cases okW true r with
    |false=>rfl
    |true=>
      simp only[if_true];rw[if_pos (by omega)];rfl
   rw[J92 b (fun r e=>hb45 ⟨r,e⟩)]
   by_cases hb:okW false b=true
   case neg=>
    have hb':okW false b=false:=by simpa using hb
    have:digB b=false:=by
     rw[hdb]
     by_cases h:J20 (b.map UInt8.toNat)=true
     ·exact absurd ((J4i false b).2 ⟨h,fun e=>by cases e.1⟩) hb
     rw[show J20 (b.map UInt8.toNat)=false by simpa using h];rfl
    rw[hb',if_pos this];exact ⟨rfl,fun x h=>by cases h⟩
   obtain ⟨hcb,_⟩:=(J4i false b).1 hb;have hndb:=JHx hcb false;rw[hb];rw[hcb,QB] at hdb;simp only[if_true,Qc,if_false] at hndb ⊢
   by_cases hlb:b.length≤300
   ·rw[Q2 hlb] at hdb;have hdn:¬ digB b=false:=by rw[hdb];decide
    by_cases hd1:decU b≤1
    ·rw[if_pos (show (decU b:Int)≤1 by omega),if_neg hdn,if_pos (.inl hd1)];exact ⟨rfl,fun x h=>by cases h⟩
    rw[if_neg (show ¬ (decU b:Int)≤1 by omega),if_neg hdn,hndb,Q2 hlb];simp only[QB,Q06]
    by_cases hg:Nat.gcd (decU a) (decU b)=1
    ·rw[if_neg (by rintro (h|h);omega;exact h hg),if_neg hz,Q2 hg];exact ⟨rfl,fun x h=>by cases h;rfl⟩
    rw[if_pos (.inr hg),Q1 hg];exact ⟨rfl,fun x h=>by cases h⟩
   rw[Q1 hlb] at hdb;rw[if_pos hdb];refine ⟨?_,fun x h=>by cases h⟩;split
   ·rfl
   rw[hndb,Q1 hlb];rfl
def JAe (x y:UInt8)(a b:List UInt8):Op.bytesLess (x::a) (y::b)=(decide (x<y)||(decide (x=y)&&Op.bytesLess a b)):=by
 simp only[Op.bytesLess]
 by_cases h1:x<y
 ·simp[h1]
 by_cases h2:x=y<;>simp[h1,h2]
theorem JJN:∀ a b:List UInt8,(Op.bytesLess a b||decide (a=b))=!Op.bytesLess b a
 |[],[]=>by simp[Op.bytesLess]
 |[],_::_=>by simp[Op.bytesLess]
 |_::_,[]=>by simp[Op.bytesLess]
 |x :: a, y::b=>by
   rw[JAe,JAe];have ih:=JJN a b
   by_cases h1:x<y
   ·have h2:¬ y<x:=fun h=>absurd (UInt8.lt_trans h1 h) (UInt8.lt_irrefl x);have h3:¬ y=x:=fun h=>by subst h;exact UInt8.lt_irrefl _ h1
    simp[h1,h2,h3]
   by_cases h2:x=y
   ·subst h2;simp only[h1,decide_false,decide_true,Qj,QB,Q2J,true_and];exact ih
   have h3:y<x:=by
    rcases QI y.toNat x.toNat with h|h
    ·exact Q3T.2 h
    exfalso
    rcases QI x.toNat y.toNat with h'|h'
    ·exact h1 (Q3T.2 h')
    exact h2 (Q0h (by omega))
   have h4:¬ y=x:=fun h=>h2 h.symm;simp[h1,h2,h3,h4]
def JO5 (s:ByteArray):∀ (n i:Nat) (r:List UInt8),s.size-i=n→ByteArray.toList.loop s i r=r.reverse++s.data.toList.drop i:=by
 intro n
 induction n with
 |zero=>
   intro i r h;have hs:s.data.toList.length=s.size:=rfl;rw[ByteArray.toList.loop,if_neg (by omega),Q9 (by omega),Q08]
 |succ n ih=>
   intro i r h;have hs:s.data.toList.length=s.size:=rfl;have hi:i<s.data.toList.length:=by omega
   rw[ByteArray.toList.loop,if_pos (by omega),ih (i+1) _ (by omega),Q6 hi,List.reverse_cons,Qo]
   have e:s.get! i=s.data.toList[i]:=by
    show s.data[i]! = _
    rw[getElem!_pos s.data i hi];simp
   rw[e];rfl
def J5H (s:ByteArray):s.toList=s.data.toList:=by
 have:=JO5 s _ 0 [] rfl
 simpa [ByteArray.toList] using this
def JAf {a b:ByteArray}(h:a.toList=b.toList):a=b:=by
 rw[J5H,J5H] at h;exact Q1j (Q2a.1 h)
def JNR (a b:ByteArray):leqS a b=!ltS b a:=by
 unfold leqS ltS;rw[← JJN]
 congr 1
 exact QS.2 ⟨fun h=>by rw[h],JAf⟩
def JNK (n:Int):nlt n=!lttI n:=by
 unfold nlt lttI;rw[Q0T];simp only[Q5,Q09,Qa,Qw,Qe];omega
def JIU (l:List UInt8):∀ i:Int,fiL l i=if ltN l<l.length then i+ltN l else -1:=by
 induction l with
 |nil=>intro i;rfl
 |cons c r ih=>
   intro i;unfold fiL;rw[JNK]
   by_cases hc:lttI c.toNat=true
   ·have e:ltN (c::r)=ltN r+1:=by rw[ltN,if_pos hc]
    rw[hc,e,if_neg (by decide),ih];simp only[QT]
    by_cases h:ltN r<r.length
    ·rw[if_pos h,if_pos (by omega)];omega
    rw[if_neg h,if_neg (by omega)]
   have hc':lttI c.toNat=false:=by simpa using hc
   have e:ltN (c::r)=0:=by rw[ltN,if_neg hc]
   rw[hc',e];simp
def JL1 (l:List UInt8):ltN (l.take (ltN l))=ltN l:=by
 induction l with
 |nil=>rfl
 |cons c r ih=>
   by_cases hc:lttI c.toNat=true
   ·have e:ltN (c::r)=ltN r+1:=by rw[ltN,if_pos hc]
    rw[e,Q0D,ltN,if_pos hc,ih]
   have e:ltN (c::r)=0:=by rw[ltN,if_neg hc]
   rw[e];rfl
def JHK (l:List UInt8):symF l=(decide (1≤l.length)&&decide (l.length≤8)&&decide (ltN l=l.length)):=by
 unfold symF;have h:=(J6X l).1;rw[JIU,show decide (l≠[])=decide (1≤l.length) from QS.2 (by rw[ne_eq,← Qu];omega)]
 congr 1
 rw[← decide_not];refine QS.2 ?_;split<;>omega
def J49 {a b:List UInt8}:ofL a=ofL b↔a=b:=⟨fun h=>by
 have:=QC (fun s:ByteArray=>s.data.toList) h
 simpa [ofL] using this,fun h=>by rw[h]⟩
def JOf (n:Int)(d:Nat):qT n (d:Int)=rT n d:=by
 unfold qT rT
 by_cases h:d=1
 ·rw[if_pos h,if_pos (by omega)]
 rw[if_neg h,if_neg (by omega)]
 congr 2
def J9C (n:Int)(d:Nat):fitsF n (d:Int)=(!decide (n=0)&&J2s n d):=by
 unfold fitsF J2s nd;have:(sgn n=0)↔n=0:=by unfold sgn;split<;>(try split)<;>omega
 rw[QS.2 this,Q06,Bool.and_assoc]
def JA2 (n:Int)(d:Nat):∃ c r,rT n d=c::r∧(c=45∨48≤c∧c≤57):=by
 have hc:=J3m n.natAbs;have hd:=J2F n.natAbs;rw[JFo]
 by_cases hn:n<0
 ·rw[if_pos hn];exact ⟨_,_,rfl,.inl rfl⟩
 rw[if_neg hn]
 cases hT:decT n.natAbs with
 |nil=>rw[hT] at hc;simp[J20] at hc
 |cons c r=>
   rw[hT,Q0l,Q5] at hd;have:=hd.1;unfold isDg at this;simp at this;exact ⟨_,_,rfl,.inr this⟩
def JMI (n:Int)(d:Nat)(h:okR (n,d)):rT n d=[49]↔n=1∧d=1:=by
 constructor
 ·intro e;have h1:=J6T n d h;rw[e] at h1
  have h2:readR (([49]:List Nat).map UInt8.ofNat)=some (1,1):=by
   have:okR (1,1):=⟨Nat.one_pos,by decide,JIl,JIl⟩;have h3:=J6T 1 1 this
   have e1:rT 1 1=[49]:=by
    unfold rT;rw[if_pos rfl,JBD,if_neg (by decide)];unfold decT;rw[if_neg (by decide),show (1:Int).natAbs=1 from rfl,J3z (by decide) (by decide) (by decide)];rfl
   rwa [e1] at h3
  rw[h2] at h1;cases h1;exact ⟨rfl,rfl⟩
 rintro ⟨rfl,rfl⟩;unfold rT;rw[if_pos rfl,JBD,if_neg (by decide)];unfold decT;rw[if_neg (by decide),show (1:Int).natAbs=1 from rfl,J3z (by decide) (by decide) (by decide)];rfl
def JGu (n:Int)(d:Nat)(h:okR (n,d)):wrT n (d:Int)=if n=1∧d=1 then [] else if d=1 then rT n d else 40::rT n d++[41]:=by
 unfold wrT;rw[JOf]
 by_cases h1:n=1∧d=1
 ·rw[if_pos h1,if_pos ((JMI n d h).2 h1)]
 rw[if_neg h1,if_neg (fun e=>h1 ((JMI n d h).1 e))]
 by_cases h2:d=1
 ·rw[if_pos h2,if_pos (by omega)]
 rw[if_neg h2,if_neg (by omega)]
def extL (l:List UInt8)(a b:Nat):(ofL l).extract a b=ofL ((l.take b).drop a):=J09 l a b
def JIo (l:List UInt8):(ofL l).data.toList=l:=by simp[ofL]
def facI (r:List UInt8):List UInt8:=match r with
 |40::t=>if t.getLast?=some 41 then t.take (t.length-1) else t
 |_=>r
def JNa (l:List UInt8)(c:UInt8):hasX (ofL l) (b1 c)=decide (l.getLast?=some c):=by
 unfold hasX;rw[show (b1 c).size=1 from rfl,J04,extL,Qi];rw[Q0T];simp only[Q5,Qa]
 rcases snoc l with rfl|⟨r,d,rfl⟩
 ·simp
 rw[List.getLast?_append];simp only[QQ,QT,Q0R,List.getLast?_singleton,Option.some_or,Qv];rw[show r.length+(0+1)-1=r.length by omega,List.drop_left]
 have:ofL [d]=b1 c↔d=c:=by
  have:b1 c=ofL [c]:=rfl;rw[this,J49];simp
 rw[this];exact ⟨fun h=>h.2,fun h=>⟨by omega,h⟩⟩
def JIL (l:List UInt8)(c:UInt8):hasP (ofL l) (b1 c)=decide (l.head?=some c):=by
 unfold hasP;rw[show (b1 c).size=1 from rfl,J04,extL,Q0F];rw[Q0T];simp only[Q5,Qa]
 cases l with
 |nil=>simp
 |cons d r=>
   simp only[QT,Q0D,Q2P,Q3N,Qv]
   have:ofL [d]=b1 c↔d=c:=by
    have:b1 c=ofL [c]:=rfl;rw[this,J49];simp
   rw[this];exact ⟨fun h=>h.2,fun h=>⟨by omega,h⟩⟩
def JNe (l:List UInt8)(p:Nat):facT (ofL l) p=ofL (facI (l.drop p)):=by
 unfold facT;rw[show (ofL l).extract p (ofL l).size=ofL (l.drop p) by rw[extL,J04,Qi]];generalize l.drop p=r;unfold cutP J9q;rw[JIL];unfold facI
 cases r with
 |nil=>rfl
 |cons c t=>
   by_cases hc:c=40
   ·subst hc;simp only[Q3N,decide_true,if_true];rw[show (ofL (40::t)).extract (b1 40).size (ofL (40::t)).size=ofL t by rw[extL,J04,Qi];rfl,JNa]
    by_cases h:t.getLast?=some 41
    ·rw[Q2 h,if_pos rfl,if_pos h,extL,J04];rfl
    rw[Q1 h,if_neg (by decide),if_neg h]
   have:decide ((c::t).head?=some 40)=false:=by simpa using hc
   rw[this];simp only[Qc,if_false];split
   ·rename_i h;cases h;exact absurd rfl hc
   rfl
def JIX {f:List UInt8}{x:Fac}(h:facR f=some x):1≤x.1.length:=by
 have hp:=(J6X f).1;unfold facR at h;split at h
 ·cases h
 rename_i h1;split at h
 ·cases h;show 1≤f.length
  omega
 split at h
 ·cases h
 split at h
 ·cases h
 split at h
 ·cases h
 split at h
 ·cases h
 split at h
 ·cases h;simp only[Qb];omega
 cases h
def JNf (f:List UInt8):facF (ofL f)=if f.length≤ltN f then (ofL f,some (1,1),symF f)
  else (ofL (f.take (ltN f)),(J06 (facI (f.drop (ltN f)))).1,(J06 (facI (f.drop (ltN f)))).2&&symF (f.take (ltN f))&&match (J06 (facI (f.drop (ltN f)))).1 with
   |some (n,d)=>fitsF n d&&decide (ofL ((wrT n d).map UInt8.ofNat)=ofL (f.drop (ltN f)))
   |none=>false):=by
 unfold facF;rw[JIo,JIU]
 by_cases h:ltN f<f.length
 ·rw[if_pos h,if_neg (by omega),if_neg (by omega),show ((0:Int)+(ltN f:Int)).toNat=ltN f by omega,JNe,JIo,extL,Q0F,JIo,extL,J04,Qi]
  try rfl
 rw[if_neg h,if_pos (by decide),if_pos (by omega)]
def JLM (f:List UInt8):(facF (ofL f)).2.2=(facR f).isSome∧∀ x,facR f=some x→(facF (ofL f)).1=ofL x.1:=by
 rw[JNf];have hle:=(J6X f).1;have hsy:=JHK (f.take (ltN f));rw[JL1,Qb,Q10 hle,Q2 rfl,Q0e] at hsy;unfold facR
 by_cases h0:f.length≤ltN f
 ·have e:ltN f=f.length:=by omega
  rw[if_pos h0,JHK,e,Q36,Q2 rfl,Q0e]
  by_cases h1:f.length<1∨8<f.length
  ·rw[if_pos h1];refine ⟨?_,fun x h=>by cases h⟩
   rcases h1 with h1|h1
   ·rw[Q1 (by omega)];rfl
   rw[Q1 (show ¬ f.length≤8 by omega),Q0U];rfl
  rw[if_neg h1,if_pos rfl,Q2 (by omega),Q2 (by omega)];exact ⟨rfl,fun x h=>by cases h;rfl⟩
 rw[if_neg h0]
 by_cases h1:ltN f<1∨8<ltN f
 ·rw[if_pos h1,hsy];refine ⟨?_,fun x h=>by cases h⟩
  have:(decide (1≤ltN f)&&decide (ltN f≤8))=false:=by
   rcases h1 with h1|h1
   ·rw[Q1 (by omega)];rfl
   rw[Q1 (show ¬ ltN f≤8 by omega),Q0U]
  simp only[this,Q0U,QD];rfl
 rw[if_neg h1,hsy,Q2 (by omega),Q2 (by omega)];have hr:f.drop (ltN f)≠[]:=fun e=>by have:=QC List.length e;simp at this;omega
 rw[if_neg hr];generalize f.drop (ltN f)=r at *;simp only[Q0e,QB];obtain ⟨q1,q2⟩:=J1t (facI r)
 have key:∀ b:Bool,(b=true→(match readR (innB r) with
   |none=>none
   | some x=>if J2s x.1 x.2=false then none else if x.1=0 then none else if x.1=x.2 then none
     else if decide (x.2=1)=decide (innB r=r) then some (f.take (ltN f),x) else none)=(none:Option Fac))→True:=fun _ _=>trivial
 clear key
 rcases r with _|⟨c,t⟩
 ·exact absurd rfl hr
 by_cases hc:c=40
 ·subst hc
  have hI:facI (40::t)=if t.getLast?=some 41 then t.take (t.length-1) else t:=rfl
  by_cases hl:t.getLast?=some 41
  ·
   rw[if_pos hl] at hI
   obtain ⟨u,rfl⟩:∃ u,t=u++[41]:=by
    rcases snoc t with h|⟨u,d,h⟩
    ·rw[h] at hl;simp at hl
    rw[h] at hl;simp at hl;exact ⟨u,by rw[h,hl]⟩
   have hI2:facI (40::(u++[41]))=u:=by rw[hI];simp
   have hB:innB (40::(u++[41]))=u:=by
    unfold innB;have hb2:(40::(u++[41]):List UInt8).headD 0=40∧(40::(u++[41]):List UInt8).getLastD 0=41:=⟨rfl,by rw[Q1G,← Q01,List.getLast?_append];rfl⟩;rw[if_pos hb2];simp
   rw[hI2] at q1 q2 ⊢;rw[hB];have hne:decide (u=40::(u++[41]))=false:=Q1 fun e=>by have:=QC List.length e;simp at this;omega
   rw[hne]
   cases ho:readR u with
   |none=>
     rw[ho] at q1;rw[q1];exact ⟨rfl,fun x h=>by cases h⟩
   |some x=>
     obtain ⟨n,d⟩:=x;rw[ho] at q1;obtain ⟨hk,htx⟩:=J1Z ho;rw[q2 _ ho];simp only[QB];rw[J9C,JGu n d hk]
     have hw:(ofL ((if n=1∧d=1 then [] else if d=1 then rT n d else 40::rT n d++[41]:List Nat).map UInt8.ofNat)=ofL (40::(u++[41])))↔d≠1:=by
      rw[J49]
      by_cases hd:d=1
      ·simp only[hd,and_true,if_true,ne_eq,not_true,iff_false]
       by_cases hn:n=1
       ·rw[if_pos hn];intro h;cases h
       rw[if_neg hn];obtain ⟨c,r,hcr,hh⟩:=JA2 n 1;rw[hcr];intro h;have:=QC (fun l:List UInt8=>(l.headD 0).toNat) h;simp at this;omega
      rw[if_neg (fun e=>hd e.2),if_neg hd];simp only[hd,ne_eq,not_false_eq_true,iff_true];rw[QW,QK,← htx];rfl
     rw[QS.2 hw]
     by_cases hs:J2s n d=false
     ·rw[if_pos hs,hs];exact ⟨by simp,fun x h=>by cases h⟩
     rw[if_neg hs,show J2s n d=true by simpa using hs]
     by_cases hn0:n=0
     ·rw[if_pos hn0,Q2 hn0];exact ⟨by simp,fun x h=>by cases h⟩
     rw[if_neg hn0,Q1 hn0]
     by_cases hd:d=1
     ·rw[Q2 hd,Q1 (by simpa using hd)];split
      ·exact ⟨rfl,fun x h=>by cases h⟩
      exact ⟨rfl,fun x h=>by cases h⟩
     rw[Q1 hd,Q2 hd]
     have hnd:¬ n=(d:Int):=fun e=>by
      have:=hk.2.1;simp only at this;rw[e,Q06,Nat.gcd_self] at this;exact hd this
     rw[if_neg hnd,if_pos rfl];exact ⟨rfl,fun x h=>by cases h;rfl⟩
  
  rw[if_neg hl] at hI
  have hB:innB (40::t)=40::t:=by
   unfold innB;rw[if_neg];rintro ⟨_,h⟩;rw[Q1G] at h
   cases t with
   |nil=>simp at h
   |cons a b=>
     rw[List.getLast?_cons_cons] at h
     cases hg:(a::b).getLast? with
     |none=>simp at hg
     |some z=>rw[hg] at h hl;simp at h;exact hl (by rw[h])
  rw[hI] at q1 q2 ⊢;rw[hB]
  have hno:readR (40::t)=none:=by
   cases ho:readR (40::t) with
   |none=>rfl
   |some x=>
     exfalso;obtain ⟨hk,htx⟩:=J1Z ho;obtain ⟨c,r,hcr,hh⟩:=JA2 x.1 x.2;rw[hcr] at htx;have:=QC (fun l:List UInt8=>(l.headD 0).toNat) htx;simp at this;omega
  rw[hno];refine ⟨?_,fun x h=>by cases h⟩
  cases ho:readR t with
  |none=>rw[ho] at q1;rw[q1];rfl
  |some x=>
    obtain ⟨n,d⟩:=x;obtain ⟨hk,htx⟩:=J1Z ho;rw[q2 _ ho];simp only[QB];rw[JGu n d hk]
    have hw:decide (ofL ((if n=1∧d=1 then [] else if d=1 then rT n d else 40::rT n d++[41]:List Nat).map UInt8.ofNat)=ofL (40::t))=false:=by
     refine Q1 ?_;rw[J49];split
     ·intro h;cases h
     split
     ·obtain ⟨c,r,hcr,hh⟩:=JA2 n d;rw[hcr];intro h;have:=QC (fun l:List UInt8=>(l.headD 0).toNat) h;simp at this;omega
     intro h;apply hl;rw[QW,QK] at h;have:=(Q2e h).2;rw[← this];simp
    rw[hw,Q0U];rfl
 
 have hI:facI (c::t)=c::t:=by
  unfold facI;split
  ·rename_i h;cases h;exact absurd rfl hc
  rfl
 have hB:innB (c::t)=c::t:=by
  unfold innB;rw[if_neg];rintro ⟨h,_⟩;exact hc h
 rw[hI] at q1 q2 ⊢;rw[hB,Q2 rfl]
 cases ho:readR (c::t) with
 |none=>
   rw[ho] at q1;rw[q1];exact ⟨rfl,fun x h=>by cases h⟩
 |some x=>
   obtain ⟨n,d⟩:=x;obtain ⟨hk,htx⟩:=J1Z ho;rw[q2 _ ho];simp only[QB];rw[J9C,JGu n d hk]
   have hw:(ofL ((if n=1∧d=1 then [] else if d=1 then rT n d else 40::rT n d++[41]:List Nat).map UInt8.ofNat)=ofL (c::t))↔d=1∧n≠1:=by
    rw[J49]
    by_cases hd:d=1
    ·by_cases hn:n=1
     ·rw[if_pos ⟨hn,hd⟩];exact ⟨fun h=>(by cases h),fun h=>absurd hn h.2⟩
     rw[if_neg (fun e=>hn e.1),if_pos hd,htx];exact ⟨fun _=>⟨hd,hn⟩,fun _=>rfl⟩
    rw[if_neg (fun e=>hd e.2),if_neg hd];refine ⟨fun h=>?_,fun h=>absurd h.1 hd⟩;rw[Q01,QK] at h;exact absurd (Q2e h).1.symm hc
   rw[QS.2 hw]
   by_cases hs:J2s n d=false
   ·rw[if_pos hs,hs];exact ⟨by simp,fun x h=>by cases h⟩
   rw[if_neg hs,show J2s n d=true by simpa using hs]
   by_cases hn0:n=0
   ·rw[if_pos hn0,Q2 hn0];exact ⟨by simp,fun x h=>by cases h⟩
   rw[if_neg hn0,Q1 hn0]
   by_cases hd:d=1
   ·subst hd
    by_cases hn:n=1
    ·subst hn;split
     ·exact ⟨by simp,fun x h=>by cases h⟩
     rename_i h;exact absurd rfl h
    rw[if_neg (by omega),show decide ((1:Nat)=1)=true from rfl,if_pos rfl,show decide ((1:Nat)=1∧n≠1)=true from Q2 ⟨rfl,hn⟩];exact ⟨rfl,fun x h=>by cases h;rfl⟩
   rw[Q1 hd,Q1 (fun e=>hd e.1)];split
   ·exact ⟨by simp,fun x h=>by cases h⟩
   exact ⟨by simp,fun x h=>by cases h⟩
theorem J8h:∀ (fs:List (List UInt8)) (acc:List Fac) (last:ByteArray),(acc=[]∧last=⟨#[]⟩∨0<acc.length∧last=ofL (acc.getLastD ([],0,0)).1)→(JG7 fs acc).isSome=J4P fs last
 |[],acc,last,_=>rfl
 |f :: r,acc,last,h=>by
   obtain ⟨h1,h2⟩:=JLM f;unfold JG7 J4P;rw[h1,JNR]
   cases hf:facR f with
   |none=>rfl
   |some x=>
     rw[h2 x hf];have hn:=JIX hf;have ih:=J8h r (acc++[x]) (ofL x.1) (.inr ⟨by simp,by rw[Q1G];simp⟩);simp only[Q1v,QB,Q3w]
     rcases h with ⟨rfl,rfl⟩|⟨ha,rfl⟩
     ·have:ltS ⟨#[]⟩ (ofL x.1)=true:=by
       unfold ltS;rw[J5H,J5H,JIo]
       cases hx:x.1 with
       |nil=>rw[hx] at hn;simp at hn
       |cons a b=>simp[Op.bytesLess]
      rw[this];simp only[Q0R,Nat.lt_irrefl,decide_false,QD,Qc,if_false,QB];exact ih
     rw[Q2 ha,QB]
     cases ltS (ofL (acc.getLastD ([],0,0)).1) (ofL x.1) with
     |true=>simp only[Q0W,Qc,if_false,QB];exact ih
     |false=>rfl
def JH0 (l:List UInt8):(FacsF l).isSome=unitF (ofL l):=by
 unfold FacsF unitF
 have h49:(ofL l=⟨#[49]⟩)↔l=[49]:=by
  have:(⟨#[49]⟩:ByteArray)=ofL [49]:=rfl;rw[this,J49]
 rw[QS.2 h49,JIo,J04]
 by_cases h:l=[49]
 ·rw[if_pos h,Q2 h];rfl
 rw[if_neg h,Q1 h,Qj]
 by_cases h2:80<l.length
 ·rw[if_pos h2,Q1 (by omega),Q0U];rfl
 rw[if_neg h2,Q2 (by omega),Q0e];exact J8h _ [] ⟨#[]⟩ (.inl ⟨rfl,rfl⟩)
structure Eqn where
 name:ByteArray
 left:Ex
 right:Ex
structure Ac where
 kind:Int
 var:ByteArray
 value:Ex
structure Whn where
 name:ByteArray
 cond:Ex
 acts:List Ac
structure Sys where
 vars:List Va
 eqs:List Eqn
 inits:List Eqn
 whens:List Whn
def J1C (e:Ex):List AV:=[encS e.op,encS e.text,encI e.order,.sl 4 (e.kids.map encE)]
def J0C (e:Ex):encE e=.agg (J1C e):=J02 e
def J0M (q:Eqn):AV:=.agg (encS q.name::(J1C q.left++J1C q.right))
def J7m (a:Ac):AV:=.agg (encI a.kind::encS a.var::J1C a.value)
def J0m (w:Whn):AV:=.agg (encS w.name::(J1C w.cond++[.sl 6 (w.acts.map J7m)]))
def J0E (s:Sys):AV:=.agg [.sl 7 (s.vars.map encV),.sl 9 (s.eqs.map J0M),.sl 9 (s.inits.map J0M),.sl 6 (s.whens.map J0m)]
def JI6 (w:Whn):PX 247 [J0m w] (encB (decide (20<w.acts.length))):=by
 refine PZ Tryz.func247 rfl ?_;refine kWS ?_;intros;refine .of ?_;show AV.val (.bool (decide _))=AV.val (.bool (decide _))
 rw[Q3]
 congr 2
 exact QS.2 (by omega)
def JIA (k:Nat)(p:Whn→Bool)(l:List Whn)(hl:l.length≤2^60)(hk:J05 Tryz.prog k)(hf:∀ x∈l,PX k [J0m x] (encB (p x))) :
  PX 318 [.sl 6 (l.map J0m),.fn (.func k) [] []] (encI (J0Y p l 0)):=by
 refine PZ Tryz.func318 rfl ?_;generalize hF:J0Y p l 0=F;refine kWS ?_;intros;refine LoopP.intro (fun n σ H=>∃ i,i≤l.length∧n=l.length-i∧J0Y p (l.drop i) i=F∧σ=fr [(0,.sl 6 (l.map J0m)),(1,.fn (.func k) [] []),(7,encI l.length),(8,encI i)]∧H=hp []) ?_ ?_
 ·exact .intro <| W.of ⟨_,0,QG _,rfl,hF,rfl,rfl⟩ ⟨rfl,rfl,by simp;rfl,rfl,trivial⟩ trivial
 rintro n σ H ⟨i,hi,rfl,hc,rfl,rfl⟩;refine kWS ?_;intros;refine CondP.dec (fun h=>?_) (fun h=>?_)<;>refine kW ?_
 ·have hi':i<l.length:=by omega
  have hx:=hf _ (QF hi');rw[Q6 hi'] at hc;unfold J0Y at hc;refine kR ?_;intros;generalize l[i]=x at hx hc ⊢;refine kR ?_;intros;refine CallP.flat [] _ hk hx rfl ?_;refine kWS ?_;intros;refine CondP.intro (fun hq=>?_) (fun hq=>?_)<;>refine kW ?_
  ·rw[hq] at hc;refine kS ?_;intros;exact .of (by rw[← hc];rfl)
  rw[hq] at hc;refine kS ?_;intros
  exact .intro <| W.of ⟨_,by omega,i+1,hi',rfl,hc,rfl,rfl⟩ ⟨rfl,rfl,rfl,rfl,trivial⟩ trivial
 refine kS ?_;intros;rw[Q9 (by omega)] at hc;exact .of (by rw[← hc];rfl)
def JCD (k:Nat)(p:Whn→Bool)(l:List Whn)(hl:l.length≤2^60)(hk:J05 Tryz.prog k)(hf:∀ x∈l,PX k [J0m x] (encB (p x))) :
  PX 246 [.sl 6 (l.map J0m),.fn (.func k) [] []] (encB (l.any p)):=by
 refine PZ Tryz.func246 rfl ?_;refine kWS ?_;intros;refine CallP.flat [] _ c318 (JIA k p l hl hk hf) rfl ?_;refine kWS ?_;intros;refine .of ?_;show AV.val (Value.bool (decide (0≤J0Y p l 0)))=AV.val (Value.bool (l.any p))
 congr 2
 rw[Q0T,decide_eq_true_iff];exact J3E p l 0 (by omega)
def JIB (k:Nat)(p:Va→Bool)(l:List Va)(hl:l.length≤2^60)(hk:J05 Tryz.prog k)(hf:∀ x∈l,PX k [encV x] (encB (p x))) :
  PX 319 [.sl 7 (l.map encV),.fn (.func k) [] []] (encI (J0Y p l 0)):=by
 refine PZ Tryz.func319 rfl ?_;generalize hF:J0Y p l 0=F;refine kWS ?_;intros;refine LoopP.intro (fun n σ H=>∃ i,i≤l.length∧n=l.length-i∧J0Y p (l.drop i) i=F∧σ=fr [(0,.sl 7 (l.map encV)),(1,.fn (.func k) [] []),(7,encI l.length),(8,encI i)]∧H=hp []) ?_ ?_
 ·exact .intro <| W.of ⟨_,0,QG _,rfl,hF,rfl,rfl⟩ ⟨rfl,rfl,by simp;rfl,rfl,trivial⟩ trivial
 rintro n σ H ⟨i,hi,rfl,hc,rfl,rfl⟩;refine kWS ?_;intros;refine CondP.dec (fun h=>?_) (fun h=>?_)<;>refine kW ?_
 ·have hi':i<l.length:=by omega
  have hx:=hf _ (QF hi');rw[Q6 hi'] at hc;unfold J0Y at hc;refine kR ?_;intros;generalize l[i]=x at hx hc ⊢;refine kR ?_;intros;refine CallP.flat [] _ hk hx rfl ?_;refine kWS ?_;intros;refine CondP.intro (fun hq=>?_) (fun hq=>?_)<;>refine kW ?_
  ·rw[hq] at hc;refine kS ?_;intros;exact .of (by rw[← hc];rfl)
  rw[hq] at hc;refine kS ?_;intros
  exact .intro <| W.of ⟨_,by omega,i+1,hi',rfl,hc,rfl,rfl⟩ ⟨rfl,rfl,rfl,rfl,trivial⟩ trivial
 refine kS ?_;intros;rw[Q9 (by omega)] at hc;exact .of (by rw[← hc];rfl)
def JCE (k:Nat)(p:Va→Bool)(l:List Va)(hl:l.length≤2^60)(hk:J05 Tryz.prog k)(hf:∀ x∈l,PX k [encV x] (encB (p x))) :
  PX 255 [.sl 7 (l.map encV),.fn (.func k) [] []] (encB (l.any p)):=by
 refine PZ Tryz.func255 rfl ?_;refine kWS ?_;intros;refine CallP.flat [] _ c319 (JIB k p l hl hk hf) rfl ?_;refine kWS ?_;intros;refine .of ?_;show AV.val (Value.bool (decide (0≤J0Y p l 0)))=AV.val (Value.bool (l.any p))
 congr 2
 rw[Q0T,decide_eq_true_iff];exact J3E p l 0 (by omega)
def J1R (l:List Eqn):List Ex:=l.flatMap fun q=>[q.left,q.right]
def J32 (w:Whn):List Ex:=w.cond::w.acts.map (·.value)
def allF (s:Sys):List Ex:=J1R s.eqs++J1R s.inits++s.whens.flatMap J32
def J0q (l:List Eqn):(J1R l).length=2*l.length:=by
 induction l with
 |nil=>rfl
 |cons q l ih=>unfold J1R at *;rw[Q1P,QQ,ih];simp;omega
def J5i (l:List Eqn)(q:Eqn):J1R (l++[q])=J1R l++[q.left,q.right]:=by unfold J1R;rw[Q2F];simp
def J6N (l:List Whn)(h:∀ w∈l,w.acts.length≤20):(l.flatMap J32).length≤21*l.length:=by
 induction l with
 |nil=>simp
 |cons w l ih=>
   have h1:=h w (by simp);have h2:=ih fun x hx=>h x (by simp[hx]);rw[Q1P,QQ];unfold J32 at *;simp at *;omega
def JMV (s:Sys)(h1:s.eqs.length≤120)(h2:s.inits.length≤120)(h3:s.whens.length≤120)(h4:∀ w∈s.whens,w.acts.length≤20):PX 132 [J0E s] (.sl 4 ((allF s).map encE)):=by
 refine PC [100] Tryz.func132 rfl (by rfl) rfl ?_;obtain ⟨vars,eqs,inits,whens⟩:=s;simp only at h1 h2 h3 h4;unfold J0E;(refine kWS ?_;repeat intro γ)
 refine LoopP.intro (fun k σ H=>∃ g1 g16 g3 i,∃ out:List Ex,k=2-i∧i≤2∧out=J1R (([eqs,inits].take i).flatten) ∧
  σ=fr [(1,.op 1 g1 0 0),(2,.val (.slice none 0 0)),(3,.own 100 g3 0 out.length),(16,.own 16 g16 0 2),(17,encI 2),(18,encI i)] ∧
  H=hp [(1,g1,⟨26,4,[J0E ⟨vars,eqs,inits,whens⟩]⟩),(16,g16,⟨23,1,[eqs,inits].map fun l=>.sl 9 (l.map J0M)⟩),(100,g3,⟨29,4,out.map encE⟩)]) ?_ ?_
 ·exact .intro (J24 3 100 29 4 rfl rfl fun g=>W.of ⟨_,_,_,g,0,[],rfl,by omega,rfl,rfl,rfl⟩ ⟨rfl,rfl,rfl,rfl,rfl,rfl,trivial⟩ ⟨rfl,rfl,rfl,trivial⟩)
 rintro k σ H ⟨g1,g16,g3,i,out,rfl,hi,hout,rfl,rfl⟩;(refine kWS ?_;repeat intro γ);refine CondP.dec (fun h=>?_) (fun h=>?_)<;>refine kW ?_
 ·have hi':i<[eqs,inits].length:=by simp;omega
  have hl:([eqs,inits][i]).length≤120:=by
   match i,hi' with
   |0,_=>exact h1
   |1,_=>exact h2
  have hout2:J1R (([eqs,inits].take (i+1)).flatten)=out++J1R [eqs,inits][i]:=by
   rw[Qd hi',List.flatten_append,hout];unfold J1R;rw[Q2F];simp
  have hol:out.length≤480:=by
   rw[hout,J0q,List.length_flatten]
   rcases i with _|_|i
   ·simp
   ·simp;omega
   omega
  (refine kR ?_;repeat intro γ);generalize [eqs,inits][i]=l at hl hout2 ⊢
  refine LoopP.intro (fun k σ H=>∃ g3 j,∃ out':List Ex,k=l.length-j∧j≤l.length∧out'=out++J1R (l.take j) ∧
   σ=fr [(1,.op 1 g1 0 0),(2,.val (.slice none 0 0)),(3,.own 100 g3 0 out'.length),(16,.own 16 g16 0 2),(17,encI 2),(18,encI i),(22,.sl 9 (l.map J0M)),(23,encI l.length),(24,encI j)] ∧
   H=hp [(1,g1,⟨26,4,[J0E ⟨vars,eqs,inits,whens⟩]⟩),(16,g16,⟨23,1,[eqs,inits].map fun l=>.sl 9 (l.map J0M)⟩),(100,g3,⟨29,4,out'.map encE⟩)]) ?_ ?_
  ·exact .intro <| W.of ⟨_,_,0,out,rfl,QG _,by simp[J1R],rfl,rfl⟩ ⟨rfl,rfl,rfl,rfl,rfl,rfl,rfl,rfl,rfl,trivial⟩ ⟨rfl,rfl,rfl,trivial⟩
  rintro k σ H ⟨g3,j,out',rfl,hj,ho',rfl,rfl⟩;(refine kWS ?_;repeat intro γ);refine CondP.dec (fun h=>?_) (fun h=>?_)<;>refine kW ?_
  ·have hj':j<l.length:=by omega
   have hs:=J5i (l.take j) l[j];rw[← Qd hj'] at hs
   have hol':out'.length≤800:=by
    rw[ho',QQ,J0q,Qb];omega
   (refine kR ?_;repeat intro γ);generalize l[j]=q at hs ⊢;(refine kR ?_;repeat intro γ)
   refine .intro <| W.of ⟨_,by omega,γ,j+1,out'++[q.left,q.right],rfl,hj',by rw[ho',hs,Qo],rfl,rfl⟩ ⟨rfl,rfl,?_,rfl,rfl,rfl,rfl,rfl,rfl,trivial⟩ ⟨rfl,rfl,?_,trivial⟩
   ·exact QC (AV.own 100 γ 0) (by simp)
   show some (_,(⟨_,_,out'.map encE++[.agg (J1C q.left),.agg (J1C q.right)]⟩:Blk))=_
   rw[← J0C,← J0C,QW];rfl
  have hje:j=l.length:=by omega
  rw[hje,Qi,← hout2] at ho';(refine kS ?_;repeat intro γ)
  exact .intro <| W.of ⟨_,by omega,_,_,_,i+1,out',rfl,by omega,ho',rfl,rfl⟩ ⟨rfl,rfl,rfl,rfl,rfl,rfl,trivial⟩ ⟨rfl,rfl,rfl,trivial⟩
 have hie:i=2:=by omega
 rw[hie] at hout;have hout0:out=J1R eqs++J1R inits:=by rw[hout];simp[J1R]
 have hol:out.length≤480:=by rw[hout0,QQ,J0q,J0q];omega
 (refine kS ?_;repeat intro γ)
 refine LoopP.intro (fun k σ H=>∃ g3 i,∃ out':List Ex,k=whens.length-i∧i≤whens.length∧out'=out++(whens.take i).flatMap J32 ∧
  σ=fr [(2,.val (.slice none 0 0)),(3,.own 100 g3 0 out'.length),(38,.sl 6 (whens.map J0m)),(39,encI whens.length),(40,encI i)] ∧
  H=hp [(100,g3,⟨29,4,out'.map encE⟩)]) ?_ ?_
 ·refine .intro <| W.of ⟨_,_,0,out,rfl,QG _,by simp,rfl,rfl⟩ ⟨rfl,rfl,rfl,?_,rfl,trivial⟩ ⟨rfl,trivial⟩
  show AV.val (.int .i64 _)=AV.val (.int .i64 _)
  rw[Q3]
 clear hout g3;rintro k σ H ⟨g3,i,out',rfl,hi,ho',rfl,rfl⟩;(refine kWS ?_;repeat intro γ);refine CondP.dec (fun h=>?_) (fun h=>?_)<;>refine kW ?_
 ·have hi':i<whens.length:=by omega
  have ha:=h4 whens[i] (QF hi')
  have hol':out'.length≤480+21*120:=by
   have:=J6N (whens.take i) fun w hw=>h4 w (Q1K hw);rw[Qb] at this;rw[ho',QQ];omega
  have ho2:out++(whens.take (i+1)).flatMap J32=out'++J32 whens[i]:=by
   rw[Qd hi',Q2F,ho'];simp
  (refine kR ?_;repeat intro γ);generalize whens[i]=w at ha ho2 ⊢;(refine kR ?_;repeat intro γ)
  refine LoopP.intro (fun k σ H=>∃ g3 j,∃ o3:List Ex,k=w.acts.length-j∧j≤w.acts.length∧o3=out'++w.cond::(w.acts.take j).map (·.value) ∧
   σ=fr [(2,.val (.slice none 0 0)),(3,.own 100 g3 0 o3.length),(38,.sl 6 (whens.map J0m)),(39,encI whens.length),(40,encI i),(50,.sl 6 (w.acts.map J7m)),(51,encI w.acts.length),(52,encI j)] ∧
   H=hp [(100,g3,⟨29,4,o3.map encE⟩)]) ?_ ?_
  ·refine .intro <| W.of ⟨_,γ,0,out'++[w.cond],rfl,QG _,by simp,rfl,rfl⟩ ⟨rfl,?_,rfl,rfl,rfl,rfl,rfl,rfl,trivial⟩ ⟨?_,trivial⟩
   ·exact QC (AV.own 100 γ 0) (by simp)
   show some (_,(⟨_,_,out'.map encE++[.agg (J1C w.cond)]⟩:Blk))=_
   rw[← J0C,QW];rfl
  rintro k σ H ⟨g3,j,o3,rfl,hj,ho3,rfl,rfl⟩
  have hol3:o3.length≤480+21*120+21:=by
   rw[ho3,QQ,QT,Q3,Qb];omega
  (refine kWS ?_;repeat intro γ);refine CondP.dec (fun h=>?_) (fun h=>?_)<;>refine kW ?_
  ·have hj':j<w.acts.length:=by omega
   have ho4:out'++w.cond::(w.acts.take (j+1)).map (·.value)=o3++[w.acts[j].value]:=by
    rw[Qd hj',QW,ho3];simp
   (refine kR ?_;repeat intro γ);generalize w.acts[j]=a at ho4 ⊢;(refine kR ?_;repeat intro γ)
   refine .intro <| W.of ⟨_,by omega,γ,j+1,o3++[a.value],rfl,hj',ho4.symm,rfl,rfl⟩ ⟨rfl,?_,rfl,rfl,rfl,rfl,rfl,rfl,trivial⟩ ⟨?_,trivial⟩
   ·exact QC (AV.own 100 γ 0) (by simp)
   show some (_,(⟨_,_,o3.map encE++[.agg (J1C a.value)]⟩:Blk))=_
   rw[← J0C,QW];rfl
  rw[show j=w.acts.length by omega,Qi] at ho3;refine kS ?_;intros
  exact .intro <| W.of ⟨_,by omega,_,i+1,o3,rfl,hi',by rw[ho3,ho2];rfl,rfl,rfl⟩ ⟨rfl,rfl,rfl,rfl,rfl,trivial⟩ ⟨rfl,trivial⟩
 rw[show i=whens.length by omega,Qi] at ho';refine kS ?_;intros;refine .of ?_;have e:allF ⟨vars,eqs,inits,whens⟩=out':=by rw[ho',hout0];rfl
 rw[e];show AV.sl 4 ((((out'.map encE).drop 0).take out'.length).map _)=_
 rw[Q0F,Qm (by simp),Q0p]
 congr 1
 refine Qk fun x _=>?_;show J0U _ (encE x)=encE x
 rw[J0C];rfl
end Go.Proofs.YtlblbldolhiokaaGreatDoor
