/- Part 50 of the proof. -/
import Derived.Test.YtlblbldolhiokaaGreatDoorRule49
import Derived.Test.YtlblbldolhiokaaGreatDoorRule46
import Derived.Shelf.Strings.Builder1
import Derived.Shelf.Strings.Builder2
import Derived.Shelf.Strings.OnBuilder
import Derived.Shelf.Strings.Repeat
import Derived.Test.YtlblbldolhiokaaGreatDoorProg
import Derived.Test.YtlblbldolhiokaaGreatDoorRule45
set_option linter.unusedVariables false
set_option linter.unusedSimpArgs false
set_option linter.unusedSectionVars false
set_option maxRecDepth 100000
set_option exponentiation.threshold 400
set_option maxHeartbeats 8000000
namespace Go.Proofs.YtlblbldolhiokaaGreatDoor
open Go Go.Fw
def J0t {α:Type} (p:α→Bool):List α→Int→Int
 | [],_=>-1
 | y::r,i=>match p y with
   | true=>i
   | false=>J0t p r (i+1)
theorem J2p {α:Type} (p:α→Bool):∀ (l:List α) (i:Int),0≤i→(0≤J0t p l i↔l.any p=true)
 | [],i,h=>by simp[J0t]
 | y :: r,i,h=>by
   unfold J0t;split
   ·rename_i e;simp[e,h]
   ·rename_i e;rw[J2p p r (i+1) (by omega)];simp[e]
theorem JCF (k:Nat) (p:Ex→Bool) (l:List Ex) (hl:l.length≤2^60) (hk:J05 Tryz.prog k) (hf:∀ x∈l,PureCall Tryz.prog k [encE x] (encB (p x))) :
  PureCall Tryz.prog 294 [.sl 4 (l.map encE),.fn (.func k) [] []] (encI (J0t p l 0)):=by
 refine PC [] Tryz.func294 rfl (by rfl) rfl ?_;generalize hF:J0t p l 0=F;refine kWS ?_;intros;refine LoopP.intro (fun n σ H=>∃ i,i≤l.length∧n=l.length-i∧J0t p (l.drop i) i=F∧σ=fr [(0,.sl 4 (l.map encE)),(1,.fn (.func k) [] []),(7,encI l.length),(8,encI i)]∧H=hp []) ?_ ?_
 ·exact .intro <| W.of ⟨_,0,Nat.zero_le _,rfl,hF,rfl,rfl⟩ ⟨rfl,rfl,by simp;rfl,rfl,trivial⟩ trivial
 ·rintro n σ H ⟨i,hi,rfl,hc,rfl,rfl⟩;refine kWS ?_;intros;refine CondP.dec (fun h=>?_) (fun h=>?_)<;>refine kW ?_
  ·have hi':i<l.length:=by omega
   have hx:=hf _ (List.getElem_mem hi');rw[List.drop_eq_getElem_cons hi'] at hc;unfold J0t at hc;refine kR ?_;intros;generalize l[i]=x at hx hc ⊢;rw[J01] at hx ⊢;refine kR ?_;intros;refine CallP.flat [] _ hk hx rfl ?_;refine kWS ?_;intros;refine CondP.intro (fun hq=>?_) (fun hq=>?_)<;>refine kW ?_
   ·rw[hq] at hc;refine kS ?_;intros;exact .of (by rw[← hc];rfl)
   ·rw[hq] at hc;refine kS ?_;intros
    exact .intro <| W.of ⟨_,by omega,i+1,hi',rfl,hc,rfl,rfl⟩ ⟨rfl,rfl,rfl,rfl,trivial⟩ trivial
  ·refine kS ?_;intros;rw[List.drop_eq_nil_of_le (by omega)] at hc;exact .of (by rw[← hc];rfl)
theorem J3e (k:Nat) (p:Ex→Bool) (l:List Ex) (hl:l.length≤2^60) (hk:J05 Tryz.prog k) (hf:∀ x∈l,PureCall Tryz.prog k [encE x] (encB (p x))) :
  PureCall Tryz.prog 202 [.sl 4 (l.map encE),.fn (.func k) [] []] (encB (l.any p)):=by
 refine PC [] Tryz.func202 rfl (by rfl) rfl ?_;refine kWS ?_;intros;refine CallP.flat [] _ c294 (JCF k p l hl hk hf) rfl ?_;refine kWS ?_;intros;refine .of ?_;show AV.val (Value.bool (decide (0≤J0t p l 0)))=AV.val (Value.bool (l.any p))
 congr 2
 rw[Bool.eq_iff_iff,decide_eq_true_iff];exact J2p p l 0 (by omega)
def J3i (o:ByteArray) (ks:List Ex) (bs:List Bool):Bool:=decide (o=oSample)&&match ks,bs with
 | k0::k1::_,_::b::_=>!decide (k0.op=oNum)||!decide (k1.op=oNum)||!b||hasP k1.text (b1 45)||decide (k1.text=⟨#[48]⟩)
 | _,_=>false
mutual
def builtF:Ex→Bool
 | .mk o t n ks=>decide ((ks.length:Int)=J0z o)&&textF (.mk o t n ks)&&!J3i o ks (J60 ks)&&(J60 ks).all id
def J60:List Ex→List Bool
 | []=>[]
 | k::ks=>builtF k::J60 ks
end
theorem J3U:∀ ks:List Ex,J60 ks=ks.map builtF
 | []=>rfl
 | k::ks=>by rw[List.map_cons,← J3U ks];rfl
theorem J2B (e:Ex):builtF e=(decide ((e.kids.length:Int)=J0z e.op)&&textF e&&!J3i e.op e.kids (e.kids.map builtF)&&e.kids.all builtF):=by
 cases e with
 | mk o t n ks=>
   rw[← J3U];have:ks.all builtF=(J60 ks).all id:=by rw[J3U,List.all_map];rfl
   show builtF (.mk o t n ks)=(decide ((ks.length:Int)=J0z o)&&textF (.mk o t n ks)&&!J3i o ks (J60 ks)&&ks.all builtF)
   rw[this];rfl
theorem J2s {M:Ex→Prop} (h:∀ e:Ex,(∀ k∈e.kids,M k)→M e) (e:Ex):M e:=by
 have key:∀ n (e:Ex),SizeOf.sizeOf e≤n→M e:=by
  intro n
  induction n with
  | zero=>intro e he;cases e;simp at he
  | succ n ih=>
    intro e he;refine h e fun k hk=>ih k ?_
    cases e with
    | mk o t m ks=>
      have:=List.sizeOf_lt_of_mem (show k∈ks from hk);simp at he;omega
 exact key _ e (Nat.le_refl _)
inductive TxE:Ex→Prop where
 | mk {o t:ByteArray} {n:Int} {ks:List Ex} (ht:t.size<2^21) (h:∀ k∈ks,TxE k):TxE (.mk o t n ks)
theorem TxE.kid {e:Ex} (h:TxE e):∀ k∈e.kids,TxE k:=by cases h;assumption
theorem TxE.low {e:Ex} (h:TxE e):e.text.size<2^21:=by cases h;assumption
theorem TxE.tx {e:Ex} (h:TxE e):e.text.size<2^35:=Nat.lt_trans h.low (by decide)
theorem JDU (e:Ex) (b:Bool) (h:PureCall Tryz.prog 123 [encE e] (encB b)):PureCall Tryz.prog 203 [encE e] (encB (!b)):=by
 refine PC [] Tryz.func203 rfl (by rfl) rfl ?_;rw[J01] at h ⊢;refine kWS ?_;intros;refine CallP.flat [] _ c123 h rfl ?_;refine kWS ?_;intros;exact .of rfl
theorem JA1 (e:Ex):SzE e→TxE e→PureCall Tryz.prog 123 [encE e] (encB (builtF e)):=by
 induction e using J2s with
 | h e ih=>
   intro hs ht;have ihk:∀ k∈e.kids,PureCall Tryz.prog 123 [encE k] (encB (builtF k)):=fun k hk=>ih k hk (hs.kid k hk) (by cases ht;rename_i h;exact h k hk);clear ih;have htx:e.text.size<2^35:=ht.tx;have hlen:=hs.len;refine PC [] Tryz.func123 rfl (by rfl) rfl ?_;have hT:=JFf e htx;generalize hF:builtF e=F;rw[J2B] at hF;generalize textF e=bt at hF hT;rw[J01] at hT ⊢;generalize hks:e.kids=ks at *;generalize e.op=o at *;refine kWS ?_;intros;refine CallG.intro _ c199 (JFw o) ?_;refine kWS ?_;intros;rw[List.length_map];refine CondP.dec (fun h=>?_) (fun h=>?_)<;>refine kW ?_
   case' refine_2=>
    rw[decide_eq_false h,Bool.false_and,Bool.false_and,Bool.false_and] at hF;refine kS ?_;intros;exact .of (by rw[← hF];rfl)
   have hlk:=h;rw[decide_eq_true hlk,Bool.true_and] at hF;refine kS ?_;intros;refine CallG.intro _ c200 hT ?_;refine kWS ?_;intros;refine CondP.intro (fun h1=>?_) (fun h1=>?_)<;>refine kW ?_
   case' refine_2=>
    rw[h1,Bool.false_and,Bool.false_and] at hF;refine kS ?_;intros;exact .of (by rw[← hF];rfl)
   rw[h1,Bool.true_and] at hF;refine kS ?_;intros;have fin:J3i o ks (ks.map builtF)=false→ks.all builtF=F:=fun h=>by rw[← hF,h];rfl
   have bad:J3i o ks (ks.map builtF)=true→F=false:=fun h=>by rw[← hF,h];rfl
   clear hF;refine CondP.dec (fun h2=>?_) (fun h2=>?_)<;>refine kW ?_
   case' refine_2=>
    have hf:=fin (by unfold J3i;rw[decide_eq_false h2];rfl)
   case' refine_1=>
    obtain ⟨k0,k1,rfl⟩:∃ k0 k1,ks=[k0,k1]:=by
     have h2':o=oSample:=h2;have:J0z oSample=2:=by rfl
     rw[h2',this] at hlk
     match ks,hlk with
     | [a,b],_=>exact ⟨a,b,rfl⟩
     | [],h=>simp at h
     | [_],h=>simp at h
     | _::_::_::_,h=>simp at h;omega
    have hk1:=ihk k1 (by simp)
    have hsm:J3i o [k0,k1] ([k0,k1].map builtF)=(!decide (k0.op=oNum)||!decide (k1.op=oNum)||!builtF k1||hasP k1.text (b1 45)||decide (k1.text=⟨#[48]⟩)):=by
     unfold J3i;rw[decide_eq_true h2];rfl
    rw[hsm] at bad fin;generalize builtF k1=bk at bad fin hk1
    have ht1:k1.text.size<2^35:=by
     have hm:k1∈e.kids:=by rw[hks];simp
     have:TxE k1:=ht.kid k1 hm;exact this.tx
    have hHP:=J8C k1.text (b1 45) (by omega) (by decide)
    have hsl:List.map encE [k0,k1]=[.agg [encS k0.op,encS k0.text,encI k0.order,.sl 4 (k0.kids.map encE)],.agg [encS k1.op,encS k1.text,encI k1.order,.sl 4 (k1.kids.map encE)]]:=by
     rw[← J01,← J01];rfl
    rw[J01] at hk1;rw[hsl];generalize hT0:hasP k1.text (b1 45)=hp at *;refine kS ?_;intros;refine CondP.dec (fun h3=>?_) (fun h3=>?_)<;>refine kW ?_
    case' refine_2=>
     rw[bad (by rw[decide_eq_false h3];rfl)];refine kS ?_;intros;exact .of rfl
    refine kS ?_;intros;refine CondP.dec (fun h4=>?_) (fun h4=>?_)<;>refine kW ?_
    case' refine_2=>
     rw[bad (by rw[decide_eq_false h4];simp)];refine kS ?_;intros;exact .of rfl
    refine kS ?_;intros;refine CallP.flat [] _ c123 hk1 rfl ?_;refine kWS ?_;intros;refine CondP.intro (fun h5=>?_) (fun h5=>?_)<;>refine kW ?_
    case' refine_2=>
     rw[bad (by rw[h5];simp)];refine kS ?_;intros;exact .of rfl
    refine kS ?_;intros;refine CallP.flat [] _ c201 hHP rfl ?_;refine kWS ?_;intros;refine CondP.intro (fun h6=>?_) (fun h6=>?_)<;>refine kW ?_
    case' refine_1=>
     rw[bad (by rw[h6];simp)];refine kS ?_;intros;exact .of rfl
    refine kS ?_;intros;refine CondP.dec (fun h7=>?_) (fun h7=>?_)<;>refine kW ?_
    case' refine_1=>
     rw[bad (by rw[decide_eq_true h7];simp)];refine kS ?_;intros;exact .of rfl
    have hf:=fin (by rw[decide_eq_true h3,decide_eq_true h4,h5,h6,decide_eq_false h7];rfl);rw[← hsl]
   all_goals
    refine kS ?_;intros;refine CallP.flat [] _ c202 (J3e 203 (fun k=>!builtF k) _ hlen c203 fun k hk=>JDU k _ (ihk k hk)) rfl ?_;refine kWS ?_;intros;refine .of ?_;rw[← hf,List.all_eq_not_any_not];rfl
structure Va where
 name:ByteArray
 kind:Int
 type:Int
 value:ByteArray
 start:ByteArray
 fixed:Bool
 unit:ByteArray
def encV (v:Va):AV:=.agg [encS v.name,encI v.kind,encI v.type,encS v.value,encS v.start,encB v.fixed,encS v.unit]
def encK (ks:List (ByteArray×Va)):AV:=.mp (ks.map fun x=>encS x.1) (ks.map fun x=>encV x.2)
def same2 (a b:Int×Bool):Int×Bool:=(a.1,a.2&&b.2&&decide (a.1=b.1))
def shpD (o:ByteArray):Int×Bool×Bool:=match J17 shp o with
 | some x=>x
 | none=>(0,false,false)
def J6A (ks:List (ByteArray×Va)) (o t:ByteArray) (n:Int) (rs:List (Int×Bool)):Int×Bool:=
 if o=oVar∨o=oPre then match J17 ks t with
  | some v=>(v.type,decide (n=0)||decide (v.kind=0)||decide (v.kind=3))
  | none=>(0,false)
 else if o=oEq∨o=oNe then (1,(same2 (rs.getD 0 (0,false)) (rs.getD 1 (0,false))).2)
 else if o=oIf then ((same2 (rs.getD 1 (0,false)) (rs.getD 2 (0,false))).1,(rs.getD 0 (0,false)).2&&(same2 (rs.getD 1 (0,false)) (rs.getD 2 (0,false))).2&&decide ((rs.getD 0 (0,false)).1=1))
 else if rs.any (fun r=>!r.2||(decide (r.1=1) != (shpD o).2.1)) then (0,false)
 else (if (shpD o).2.2 then 1 else 0,true)
mutual
def typeF (ks:List (ByteArray×Va)):Ex→Int×Bool
 | .mk o t n es=>J6A ks o t n (JFZ ks es)
def JFZ (ks:List (ByteArray×Va)):List Ex→List (Int×Bool)
 | []=>[]
 | e::es=>typeF ks e::JFZ ks es
end
theorem J6w (ks:List (ByteArray×Va)):∀ es:List Ex,JFZ ks es=es.map (typeF ks)
 | []=>rfl
 | e::es=>by rw[List.map_cons,← J6w ks es];rfl
theorem J2h (ks:List (ByteArray×Va)) (e:Ex):typeF ks e=J6A ks e.op e.text e.order (e.kids.map (typeF ks)):=by
 cases e with
 | mk o t n es=>rw[← J6w];rfl
def JCX (r:Int×Bool):AV:=.tup [encI r.1,encB r.2]
theorem JBj (ks:List (ByteArray×Va)) (a b:Ex) (ra rb:Int×Bool) (ha:PureCall Tryz.prog 124 [encK ks,encE a] (JCX ra)) (hb:PureCall Tryz.prog 124 [encK ks,encE b] (JCX rb)) :
  PureCall Tryz.prog 204 [encK ks,encE a,encE b] (JCX (same2 ra rb)):=by
 refine PC [] Tryz.func204 rfl (by rfl) rfl ?_;obtain ⟨x,bx⟩:=ra;obtain ⟨y,by'⟩:=rb;rw[J01] at ha hb;rw[J01 a,J01 b];generalize hF:same2 (x,bx) (y,by')=F;unfold same2 at hF;refine kWS ?_;intros;refine J00 [] _ c124 ha ?_;refine kWS ?_;intros;refine J00 [] _ c124 hb ?_;refine kWS ?_;intros;simp only at hF ⊢;cases bx
 ·refine kS ?_;intros;exact .of (by rw[← hF];rfl)
 cases by'
 ·refine kS ?_;intros;exact .of (by rw[← hF];rfl)
 simp only[Bool.true_and] at hF;refine kS ?_;intros;exact .of (by rw[← hF];rfl)
theorem J0m {e:Ex} (h:builtF e=true):(e.kids.length:Int)=J0z e.op∧∀ k∈e.kids,builtF k=true:=by
 rw[J2B] at h;simp only[Bool.and_eq_true] at h;exact ⟨of_decide_eq_true h.1.1.1,fun k hk=>List.all_eq_true.1 h.2 k hk⟩
theorem JDI (ks:List (ByteArray×Va)) (e:Ex):SzE e→builtF e=true→PureCall Tryz.prog 124 [encK ks,encE e] (JCX (typeF ks e)):=by
 induction e using J2s with
 | h e ih=>
   intro hs hb;obtain ⟨hkl,hbk⟩:=J0m hb;have ihk:∀ k∈e.kids,PureCall Tryz.prog 124 [encK ks,encE k] (JCX (typeF ks k)):=fun k hk=>ih k hk (hs.kid k hk) (hbk k hk);clear ih hbk;have hlen:=hs.len;refine PC [] Tryz.func124 rfl (by rfl) rfl ?_;generalize hF:typeF ks e=F;rw[J2h] at hF;rw[J01];generalize hes:e.kids=es at *;generalize e.op=o at *;generalize e.text=t at *;generalize e.order=n at *;clear hs hb hes e;unfold J6A at hF;refine kWS ?_;intros;refine CondP.dec (fun h1=>?_) (fun h1=>?_)<;>refine kX ?_
   case' refine_1=>refine CondP.pos h1 ?_
   case' refine_2=>refine CondP.dec (fun h2=>?_) (fun h2=>?_)
   case refine_2.refine_2=>
    rw[if_neg (by rintro (h | h);exact h1 h;exact h2 h)] at hF;refine kX ?_
    repeat (refine J0e ?_;refine kX ?_)
    refine CondP.dec (fun h3=>?_) (fun h3=>?_)<;>refine kX ?_
    case' refine_1=>refine CondP.pos h3 ?_
    case' refine_2=>refine CondP.dec (fun h4=>?_) (fun h4=>?_)
    case refine_2.refine_2=>
     rw[if_neg (by rintro (h | h);exact h3 h;exact h4 h)] at hF;refine kX ?_
     repeat (refine J0e ?_;refine kX ?_)
     refine CondP.dec (fun h5=>?_) (fun h5=>?_)<;>refine kX ?_
     ·rw[if_pos h5] at hF
      obtain ⟨a,b,c,rfl⟩:∃ a b c,es=[a,b,c]:=by
       have:J0z o=3:=by rw[h5];rfl
       rw[this] at hkl
       match es,hkl with
       | [a,b,c],_=>exact ⟨a,b,c,rfl⟩
       | [],h=>simp at h
       | [_],h=>simp at h
       | [_,_],h=>simp at h
       | _::_::_::_::_,h=>simp at h;omega
      have hca:=ihk a (by simp);have hsm:=JBj ks b c _ _ (ihk b (by simp)) (ihk c (by simp))
      have hsl:List.map encE [a,b,c]=[.agg [encS a.op,encS a.text,encI a.order,.sl 4 (a.kids.map encE)],.agg [encS b.op,encS b.text,encI b.order,.sl 4 (b.kids.map encE)],.agg [encS c.op,encS c.text,encI c.order,.sl 4 (c.kids.map encE)]]:=by
       rw[← J01,← J01,← J01];rfl
      replace hF:((same2 (typeF ks b) (typeF ks c)).1,(typeF ks a).2&&(same2 (typeF ks b) (typeF ks c)).2&&decide ((typeF ks a).1=1))=F:=hF;generalize same2 (typeF ks b) (typeF ks c)=sm at hF hsm;generalize typeF ks a=ta at hF hca;rw[J01 a] at hca;rw[J01 b,J01 c] at hsm;refine J0W (W.of (l:=[(0,encK ks),(3,.op 3 _ 0 0),(4,encI 0),(5,encB false),(20,encS o)]) (m:=[(3,_,⟨29,4,[.agg [encS o,encS t,encI n,.sl 4 ([a,b,c].map encE)]]⟩)]) ?_ ⟨rfl,rfl,rfl,rfl,rfl,trivial⟩ ⟨rfl,trivial⟩);rw[hsl];refine kWS ?_;intros;refine J00 [] _ c124 hca ?_;refine kWS ?_;intros;refine CallG.intro _ c204 hsm ?_;refine kWS ?_;intros;obtain ⟨tt,tb⟩:=ta;obtain ⟨st,sb⟩:=sm;simp only at hF ⊢;cases tb
      ·refine kS ?_;intros;exact .of (by rw[← hF];rfl)
      cases sb
      ·refine kS ?_;intros;exact .of (by rw[← hF];rfl)
      simp only[Bool.true_and] at hF;refine kS ?_;intros;exact .of (by rw[← hF];rfl)
     ·rw[if_neg h5] at hF;refine J0W (W.of (l:=[(0,encK ks),(3,.op 3 _ 0 0),(4,encI 0),(5,encB false),(20,encS o)]) (m:=[(3,_,⟨29,4,[.agg [encS o,encS t,encI n,.sl 4 (es.map encE)]]⟩)]) ?_ ⟨rfl,rfl,rfl,rfl,rfl,trivial⟩ ⟨rfl,trivial⟩);refine kWS ?_;intros;refine CallG.intro _ c205 shapes_ok ?_;refine kWS ?_;intros;refine Need.intro keyst9 ?_;refine kW ?_;obtain ⟨r,hr,hm⟩:=J1M J5N o shp;refine LookP.intro r hr ?_
      have hcase:(r=none∧shpD o=(0,false,false))∨∃ i,r=some i∧(shp.map fun x=>J5N x.2).getD i .dead=J5N (shpD o):=by
       unfold shpD
       revert hm
       cases J17 shp o<;>cases r<;>intro hm
       ·exact .inl ⟨rfl,rfl⟩
       ·exact hm.elim
       ·exact hm.elim
       ·exact .inr ⟨_,rfl,hm⟩
      rcases hcase with ⟨rfl,hx⟩ | ⟨i,rfl,hm'⟩
      case' inl=>
       refine kW ?_;refine kX ?_;refine kZ ?_;intros;refine J0W (W.of (l:=[(0,encK ks),(3,.op 3 _ 0 0),(4,encI 0),(5,encB false),(14,.op 14 _ 0 0)]) (m:=[(3,_,⟨29,4,[.agg [encS o,encS t,encI n,.sl 4 (es.map encE)]]⟩),(14,_,⟨249,3,[J5N (shpD o)]⟩)]) ?_ ⟨rfl,rfl,rfl,rfl,rfl,trivial⟩ ⟨rfl,by rw[hx];rfl,trivial⟩)
      case' inr=>
       refine kW ?_;rw[hm'];refine kX ?_;refine kZ ?_;intros;refine J0W (W.of (l:=[(0,encK ks),(3,.op 3 _ 0 0),(4,encI 0),(5,encB false),(14,.op 14 _ 0 0)]) (m:=[(3,_,⟨29,4,[.agg [encS o,encS t,encI n,.sl 4 (es.map encE)]]⟩),(14,_,⟨249,3,[J5N (shpD o)]⟩)]) ?_ ⟨rfl,rfl,rfl,rfl,rfl,trivial⟩ ⟨rfl,rfl,trivial⟩)
      all_goals
       generalize shpD o=x at hF ⊢;refine kWS ?_;intros
       refine LoopP.intro (fun m σ H=>∃ g i,m=es.length-i∧i≤es.length∧(if ((es.drop i).map (typeF ks)).any (fun r=>!r.2||(decide (r.1=1) != x.2.1)) then ((0,false):Int×Bool) else (if x.2.2 then 1 else 0,true))=F ∧
        σ=fr [(0,encK ks),(4,encI 0),(5,encB false),(14,.op 14 g 0 0),(104,.sl 4 (es.map encE)),(105,encI es.length),(106,encI i)] ∧
        H=hp [(14,g,⟨249,3,[J5N x]⟩)]) ?_ ?_
       ·refine .intro <| W.of ⟨_,_,0,rfl,Nat.zero_le _,hF,rfl,rfl⟩ ⟨rfl,rfl,rfl,rfl,rfl,?_,rfl,trivial⟩ ⟨rfl,trivial⟩
        show AV.val (.int .i64 _)=AV.val (.int .i64 _)
        rw[List.length_map]
       ·clear hF;rintro m σ H ⟨g,i,rfl,hi,hF,rfl,rfl⟩;refine kWS ?_;intros;refine CondP.dec (fun h=>?_) (fun h=>?_)<;>refine kW ?_
        ·have hi':i<es.length:=by omega
         rw[List.drop_eq_getElem_cons hi',List.map_cons,List.any_cons] at hF;have hk:=ihk _ (List.getElem_mem hi');refine kR ?_;intros;generalize es[i]=k at hF hk ⊢;generalize typeF ks k=tk at hF hk;obtain ⟨kt,kb⟩:=tk;rw[J01] at hk ⊢;refine kR ?_;intros;refine J00 [] _ c124 hk ?_;refine kWS ?_;intros;simp only at hF ⊢;cases kb
         ·simp only[Bool.not_false,Bool.true_or,if_true] at hF;refine kS ?_;intros;exact .of (by rw[← hF];rfl)
         simp only[Bool.not_true,Bool.false_or] at hF;refine kS ?_;intros;refine CondP.intro (fun h6=>?_) (fun h6=>?_)<;>refine kW ?_
         ·rw[show (decide (kt=1) != x.2.1)=false by rw[bne,h6];rfl,Bool.false_or] at hF;refine kS ?_;intros
          exact .intro <| W.of ⟨_,by omega,_,i+1,rfl,hi',hF,rfl,rfl⟩ ⟨rfl,rfl,rfl,rfl,rfl,rfl,rfl,trivial⟩ ⟨rfl,trivial⟩
         ·rw[show (decide (kt=1) != x.2.1)=true by rw[bne,h6];rfl,Bool.true_or,if_pos rfl] at hF;refine kS ?_;intros;exact .of (by rw[← hF];rfl)
        ·rw[List.drop_eq_nil_of_le (by omega)] at hF;refine kS ?_;intros;refine CondP.intro (fun h6=>?_) (fun h6=>?_)<;>refine kW ?_
         ·rw[h6] at hF;refine kS ?_;intros;exact .of (by rw[← hF];rfl)
         ·rw[h6] at hF;refine kS ?_;intros;exact .of (by rw[← hF];rfl)
    all_goals
     have hv:o=oEq∨o=oNe:=by first | exact .inl h3 | exact .inr h4
     rw[if_pos hv] at hF
     obtain ⟨a,b,rfl⟩:∃ a b,es=[a,b]:=by
      have:J0z o=2:=by rcases hv with h | h<;>rw[h]<;>rfl
      rw[this] at hkl
      match es,hkl with
      | [a,b],_=>exact ⟨a,b,rfl⟩
      | [],h=>simp at h
      | [_],h=>simp at h
      | _::_::_::_,h=>simp at h;omega
     have hsm:=JBj ks a b _ _ (ihk a (by simp)) (ihk b (by simp))
     have hsl:List.map encE [a,b]=[.agg [encS a.op,encS a.text,encI a.order,.sl 4 (a.kids.map encE)],.agg [encS b.op,encS b.text,encI b.order,.sl 4 (b.kids.map encE)]]:=by
      rw[← J01,← J01];rfl
     replace hF:(1,(same2 (typeF ks a) (typeF ks b)).2)=F:=hF;generalize same2 (typeF ks a) (typeF ks b)=sm at hF hsm;rw[J01 a,J01 b] at hsm;refine J0W (W.of (l:=[(0,encK ks),(3,.op 3 _ 0 0),(4,encI 0),(5,encB false),(20,encS o)]) (m:=[(3,_,⟨29,4,[.agg [encS o,encS t,encI n,.sl 4 ([a,b].map encE)]]⟩)]) ?_ ⟨rfl,rfl,rfl,rfl,rfl,trivial⟩ ⟨rfl,trivial⟩);rw[hsl];refine kWS ?_;intros;refine CallG.intro _ c204 hsm ?_;refine kWS ?_;intros;exact .of (by rw[← hF];rfl)
   all_goals
    have hv:o=oVar∨o=oPre:=by first | exact .inl h1 | exact .inr h2
    rw[if_pos hv] at hF;refine J0W (W.of (l:=[(0,encK ks),(3,.op 3 _ 0 0),(4,encI 0),(5,encB false),(20,encS o)]) (m:=[(3,_,⟨29,4,[.agg [encS o,encS t,encI n,.sl 4 (es.map encE)]]⟩)]) ?_ ⟨rfl,rfl,rfl,rfl,rfl,trivial⟩ ⟨rfl,trivial⟩);refine kWS ?_;intros;refine Need.intro keyst9 ?_;refine kW ?_;obtain ⟨r,hr,hm⟩:=J1M encV t ks;refine LookP.intro r hr ?_
    cases ha:J17 ks t with
    | none=>
      rw[ha] at hm hF
      cases r with
      | some i=>exact hm.elim
      | none=>
        refine kWS ?_;intros;exact .of (by rw[← hF];rfl)
    | some v=>
      rw[ha] at hm hF
      cases r with
      | none=>exact hm.elim
      | some i=>
        refine kW ?_;rw[show (List.map (fun x=>encV x.snd) ks).getD i AV.dead=encV v from hm];refine kWS ?_;intros;replace hF:(v.type,decide (n=0)||decide (v.kind=0)||decide (v.kind=3))=F:=hF;refine CondP.dec (fun h3=>?_) (fun h3=>?_)<;>refine kW ?_
        ·rw[decide_eq_true h3,Bool.true_or,Bool.true_or] at hF;refine kS ?_;intros;exact .of (by rw[← hF];rfl)
        rw[decide_eq_false h3,Bool.false_or] at hF;refine kS ?_;intros;refine CondP.dec (fun h4=>?_) (fun h4=>?_)<;>refine kW ?_
        ·rw[decide_eq_true h4,Bool.true_or] at hF;refine kS ?_;intros;exact .of (by rw[← hF];rfl)
        rw[decide_eq_false h4,Bool.false_or] at hF;refine kS ?_;intros;exact .of (by rw[← hF];rfl)
def J3l (q:AV) (t is:Bool):AV:=match q with
 | .agg cs=>.agg (cs++[encB t,encB is])
 | _=>.dead
theorem J93 (b:Bool):PureCall Tryz.prog 194 [encB b] (J3l nilQ b true):=by
 refine PC [] Tryz.func194 rfl (by rfl) rfl ?_;refine kWS ?_;intros;exact .of rfl
theorem JDO (q:AV) (h:q=nilQ∨∃ n d,q=encQ n d):PureCall Tryz.prog 189 [q] (J3l q false false):=by
 refine PC [] Tryz.func189 rfl (by rfl) rfl ?_
 rcases h with rfl | ⟨n,d,rfl⟩
 all_goals
  refine kWS ?_;intros;exact .of rfl
theorem J9y (q:AV) (t is:Bool) (h:q=nilQ∨∃ n d,q=encQ n d):PureCall Tryz.prog 282 [J3l q t is] (encI (if is then 1 else 0)):=by
 refine PC [] Tryz.func282 rfl (by rfl) rfl ?_
 rcases h with rfl | ⟨n,d,rfl⟩
 all_goals
  refine kWS ?_;intros;refine CondP.intro (fun h=>?_) (fun h=>?_)<;>refine kW ?_
  ·refine kS ?_;intros;exact .of (by rw[h];rfl)
  ·refine kS ?_;intros;exact .of (by rw[h];rfl)
def qAV:Option (Int×Int)→AV
 | some (n,d)=>encQ n d
 | none=>nilQ
theorem JBw (p:Option (Int×Int)×Bool):resQ p=.tup [qAV p.1,encB p.2]:=by
 obtain ⟨o,b⟩:=p;cases o<;>rfl
theorem J1T (o:Option (Int×Int)):qAV o=nilQ∨∃ n d,qAV o=encQ n d:=by
 cases o with
 | none=>exact .inl rfl
 | some q=>exact .inr ⟨q.1,q.2,rfl⟩
abbrev sTrue:ByteArray:=⟨#[116,114,117,101]⟩
abbrev sFalse:ByteArray:=⟨#[102,97,108,115,101]⟩
def resV (s:ByteArray):AV:=
 if s=sTrue∨s=sFalse then .tup [J3l nilQ (decide (s=sTrue)) true,encB true]
 else .tup [J3l (qAV (J0D s.data.toList).1) false false,encB (J0D s.data.toList).2]
theorem J8A (s:ByteArray) (hs:s.size<2^35):PureCall Tryz.prog 112 [encS s] (resV s):=by
 refine PC [] Tryz.func112 rfl (by rfl) rfl ?_;generalize hF:resV s=F;unfold resV at hF;have hq:=J2E s.data.toList (by exact hs);rw[J18] at hq;have hT:=J93;refine kWS ?_;intros;refine CondP.dec (fun h1=>?_) (fun h1=>?_)<;>refine kW ?_
 ·rw[if_pos (.inl h1),decide_eq_true h1] at hF;refine kS ?_;intros;refine J00 [] _ c194 (J93 (decide (s=sTrue))) ?_;rw[decide_eq_true h1];refine kWS ?_;intros;exact .of (by rw[← hF];rfl)
 refine kS ?_;intros;refine CondP.dec (fun h2=>?_) (fun h2=>?_)<;>refine kW ?_
 ·rw[if_pos (.inr h2),decide_eq_false h1] at hF;refine kS ?_;intros;refine J00 [] _ c194 (J93 (decide (s=sTrue))) ?_;rw[decide_eq_false h1];refine kWS ?_;intros;exact .of (by rw[← hF];rfl)
 rw[if_neg (by rintro (h | h);exact h1 h;exact h2 h)] at hF;rw[JBw] at hq;have hq2:=J1T (J0D s.data.toList).1;generalize qAV (J0D s.data.toList).1=q at *;generalize (J0D s.data.toList).2=b at *;have hN:=JDO q hq2;refine kS ?_;intros;refine J00 [] _ c134 hq ?_
 rcases hq2 with rfl | ⟨n,d,rfl⟩
 all_goals
  refine kWS ?_;intros;refine J00 [] _ c189 hN ?_;refine kWS ?_;intros;exact .of (by rw[← hF];rfl)
def valueF (s:ByteArray) (t:Int):Bool:=
 if s=sTrue∨s=sFalse then decide (1=t) else (J0D s.data.toList).2&&decide (0=t)
theorem J9E (s:ByteArray) (t:Int) (hs:s.size<2^35):PureCall Tryz.prog 320 [encS s,encI t] (encB (valueF s t)):=by
 refine PC [] Tryz.func320 rfl (by rfl) rfl ?_;have hp:=J8A s hs;generalize hF:valueF s t=F;unfold valueF at hF;unfold resV at hp;have hq2:=J1T (J0D s.data.toList).1;generalize qAV (J0D s.data.toList).1=q at *;generalize (J0D s.data.toList).2=b at *
 by_cases h1:s=sTrue∨s=sFalse
 ·rw[if_pos h1] at hp hF;refine kWS ?_;intros;refine J00 [] _ c112 hp ?_;refine kWS ?_;intros;refine CallP.flat [] _ c282 (J9y nilQ (decide (s=sTrue)) true (.inl rfl)) rfl ?_;refine kWS ?_;intros;exact .of (by rw[← hF];rfl)
 ·rw[if_neg h1] at hp hF;have hT:=J9y q false false hq2;refine kWS ?_;intros;refine J00 [] _ c112 hp ?_
  rcases hq2 with rfl | ⟨n,d,rfl⟩
  all_goals
   refine kWS ?_;intros;refine CondP.intro (fun h2=>?_) (fun h2=>?_)<;>refine kW ?_
   ·rw[h2,Bool.true_and] at hF;refine kS ?_;intros;refine CallP.flat [] _ c282 hT rfl ?_;refine kWS ?_;intros;exact .of (by rw[← hF];rfl)
   ·rw[h2,Bool.false_and] at hF;refine kS ?_;intros;exact .of (by rw[← hF];rfl)
abbrev B4:Nat:=10000
def encD (n:Nat):AV:=.val (.int .i64 n)
def JHl (l:List Nat):AV:=.sl 1 (l.map encD)
def encN (n:Nat):AV:=JHl (dg B4 n)
theorem g4 {l:List Nat} (h:Dig B4 l) (i:Nat) (hi:i<l.length):l[i]<10000:=h.get i hi
theorem JCW {x y x' y':AV} (h1:Le x x') (h2:Le y y'):Fw.Ends (.tup [x,y]) (.tup [x',y']):=by
 have h:=Le.cons h1 (Le.cons h2 J5D);exact Fw.Ends.le (Le.tup h.1 h.2)
theorem JHm:(decT 1).length≤300:=by
 rw[JEW,if_neg (by decide),J4u (by decide) (by decide) (by decide)];decide
def nlt (n:Int):Bool:=(decide (n<97)||decide (122<n))&&(decide (n<65)||decide (90<n))
theorem JAg (n:Int):PureCall Tryz.prog 389 [.val (.int .i32 n)] (encB (nlt n)):=by
 refine PC [] Tryz.func389 rfl (by rfl) rfl ?_;refine kW ?_
 (repeat (any_goals (first | ((first | refine N0 ?_ | refine A0 fun γ=>?_ | refine C1 ?_ | refine C2 ?_ | refine C3 ?_ | refine C4 ?_ | refine C5 ?_ | refine C6 ?_ | refine C7 ?_ | refine D0 fun γs=>?_ | refine A1 fun γs=>?_ | refine N2 ?_ | refine N3 ?_ | refine N1 ?_);refine kW ?_) | (refine CondP.dec (fun _=>?_) (fun _=>?_)<;>refine kW ?_) | (refine CondP.intro (fun _=>?_) (fun _=>?_)<;>refine kW ?_))))
 all_goals (refine .of ?_;show AV.val (Value.bool _)=AV.val (Value.bool _);congr 1;unfold nlt;simp_all<;>omega)
theorem JAF (n:Int):PureCall Tryz.prog 400 [.val (.int .i32 n)] (encB (nlt n)):=by
 refine PC [] Tryz.func400 rfl (by rfl) rfl ?_;refine kW ?_
 (repeat (any_goals (first | ((first | refine N0 ?_ | refine A0 fun γ=>?_ | refine C1 ?_ | refine C2 ?_ | refine C3 ?_ | refine C4 ?_ | refine C5 ?_ | refine C6 ?_ | refine C7 ?_ | refine D0 fun γs=>?_ | refine A1 fun γs=>?_ | refine N2 ?_ | refine N3 ?_ | refine N1 ?_);refine kW ?_) | (refine CondP.dec (fun _=>?_) (fun _=>?_)<;>refine kW ?_) | (refine CondP.intro (fun _=>?_) (fun _=>?_)<;>refine kW ?_))))
 all_goals (refine .of ?_;show AV.val (Value.bool _)=AV.val (Value.bool _);congr 1;unfold nlt;simp_all<;>omega)
theorem JBk (l:List UInt8) (p:Nat) (hp:p<l.length) (h:128≤(l[p]).toNat):128≤(runeAt (ofL l) p).1:=by
 unfold runeAt Utf8.decode
 have e:((ofL l).get! (p+0)).toNat=(l[p]).toNat:=by
  show (l.toArray[p+0]!).toNat=_
  rw[Nat.add_zero,getElem!_pos _ p (by simpa using hp)];simp
 simp only[e];rw[if_neg (by omega)];unfold Utf8.runeError;split
 ·split<;>simp<;>omega
 ·split
  ·split
   ·rename_i h2;simp at h2 ⊢;omega
   ·simp
  ·split
   ·split
    ·rename_i h2;simp at h2 ⊢;omega
    ·simp
   ·simp
def fiL:List UInt8→Int→Int
 | [],_=>-1
 | c::r,i=>if nlt c.toNat then i else fiL r (i+1)
theorem J6P (k:Nat) (l:List UInt8) (hl:l.length<2^62) (hk:J05 Tryz.prog k) (hf:∀ n:Int,PureCall Tryz.prog k [.val (.int .i32 n)] (encB (nlt n))) :
  PureCall Tryz.prog 398 [encS (ofL l),.fn (.func k) [] [],encB true] (encI (fiL l 0)):=by
 refine PC [] Tryz.func398 rfl (by rfl) rfl ?_;generalize hF:fiL l 0=F;refine kWS ?_;intros;refine LoopP.intro (fun m σ H=>∃ g p,m=l.length-p∧p≤l.length∧fiL (l.drop p) p=F∧σ=fr [(0,encS (ofL l)),(1,.fn (.func k) [] []),(2,encB true),(10,.it 10 g)]∧H=hp [(10,g,⟨0,0,[encS (ofL l),encI p]⟩)]) ?_ ?_
 ·exact .intro <| W.of ⟨_,_,0,rfl,Nat.zero_le _,hF,rfl,rfl⟩ ⟨rfl,rfl,rfl,rfl,trivial⟩ ⟨rfl,trivial⟩
 ·rintro m σ H ⟨g,p,rfl,hp,hF,rfl,rfl⟩;refine kWS ?_;intros;rw[J0G];refine CondP.dec (fun h=>?_) (fun h=>?_)<;>refine kW ?_
  ·have hp':p<l.length:=by omega
   rw[List.drop_eq_getElem_cons hp'] at hF;unfold fiL at hF
   by_cases h8:(l[p]).toNat<128
   ·have hr:runeAt (ofL l) (Int.toNat p)=((l[p]).toNat,1):=J5X l p hp' h8;rw[hr];generalize l[p]=c at hF h8 ⊢;refine kS ?_;intros;refine CallP.flat [] _ hk (hf _) rfl ?_;refine kWS ?_;intros;refine CondP.intro (fun h1=>?_) (fun h1=>?_)<;>refine kW ?_
    ·have h1':nlt c.toNat=true:=by simpa using h1
     rw[if_pos h1'] at hF;refine kS ?_;intros;exact .of (by rw[← hF];rfl)
    ·have h1':nlt c.toNat=false:=by simpa using h1
     rw[if_neg (by rw[h1'];decide)] at hF;refine kS ?_;intros
     exact .intro <| W.of ⟨_,by omega,_,p+1,rfl,hp',hF,rfl,rfl⟩ ⟨rfl,rfl,rfl,rfl,trivial⟩ ⟨rfl,trivial⟩
   ·have hr:=JBk l p hp' (by omega);have hn:nlt (l[p]).toNat=true:=by unfold nlt;simp;omega
    rw[if_pos hn] at hF;have hr2:nlt ((runeAt (ofL l) (Int.toNat p)).1:Nat)=true:=by unfold nlt;rw[Int.toNat_natCast];simp;omega
    refine kS ?_;intros;refine CallP.flat [] _ hk (hf _) rfl ?_;refine kW ?_;rw[hr2];refine kWS ?_;intros;exact .of (by rw[← hF];rfl)
  ·rw[List.drop_eq_nil_of_le (by omega)] at hF;refine kS ?_;intros;exact .of (by rw[← hF];rfl)
theorem J3B (k:Nat) (l:List UInt8) (hl:l.length<2^62) (hk:J05 Tryz.prog k) (hf:∀ n:Int,PureCall Tryz.prog k [.val (.int .i32 n)] (encB (nlt n))) :
  PureCall Tryz.prog 388 [encS (ofL l),.fn (.func k) [] []] (encI (fiL l 0)):=by
 refine PC [] Tryz.func388 rfl (by rfl) rfl ?_;refine kWS ?_;intros;refine CallP.flat [] _ c398 (J6P k l hl hk hf) rfl ?_;refine kWS ?_;intros;exact .of rfl
theorem J3n (k:Nat) (l:List UInt8) (hl:l.length<2^62) (hk:J05 Tryz.prog k) (hf:∀ n:Int,PureCall Tryz.prog k [.val (.int .i32 n)] (encB (nlt n))) :
  PureCall Tryz.prog 399 [encS (ofL l),.fn (.func k) [] []] (encB (decide (0≤fiL l 0))):=by
 refine PC [] Tryz.func399 rfl (by rfl) rfl ?_;refine kWS ?_;intros;refine CallP.flat [] _ c388 (J3B k l hl hk hf) rfl ?_;refine kWS ?_;intros;exact .of rfl
def symF (l:List UInt8):Bool:=decide (l≠[])&&decide (l.length≤8)&&!decide (0≤fiL l 0)
theorem J86 (l:List UInt8) (hl:l.length<2^62):PureCall Tryz.prog 390 [encS (ofL l)] (encB (symF l)):=by
 refine PC [] Tryz.func390 rfl (by rfl) rfl ?_;generalize hF:symF l=F;unfold symF at hF;have hn:=J8e l;have hsz:=J0G l;refine kWS ?_;intros;refine CondP.dec (fun h1=>?_) (fun h1=>?_)<;>refine kW ?_
 ·have h1':=hn.1 h1;subst h1';refine kS ?_;intros;exact .of (by rw[← hF];rfl)
 ·rw[decide_eq_true (show l≠[] from fun e=>h1 (hn.2 e)),Bool.true_and] at hF;refine kS ?_;intros;rw[hsz];refine CondP.dec (fun h=>?_) (fun h=>?_)<;>refine kW ?_
  ·rw[decide_eq_true (by omega),Bool.true_and] at hF;refine kS ?_;intros;refine CallP.flat [] _ c399 (J3n 400 l hl c400 JAF) rfl ?_;refine kWS ?_;intros;exact .of (by rw[← hF];rfl)
  ·rw[decide_eq_false (by omega),Bool.false_and] at hF;refine kS ?_;intros;exact .of (by rw[← hF];rfl)
def cntL (l:List UInt8) (c:UInt8):Nat:=l.count c
theorem JEQ (l:List UInt8) (n:Nat) (h:n<256):J2F Tryz.prog 405 [encS (ofL l),.val (.int .u8 n)] (.int .i64 (cntL l (UInt8.ofNat n))):=by
 refine ⟨rfl,fun κ w N vs hv=>?_⟩;rw[vrs2 hv];have h1:Tryz.prog.funcs[405]?=some Tryz.f405:=Tryz.func405;have h2:(Tryz.f405.name == "runtime.NumGoroutine")=false:=by kernel_rfl
 have h3:Tryz.f405.body.isNone=true:=by kernel_rfl
 have h4:Extern.findNext Tryz.f405=none:=by kernel_rfl
 have h5:Extern.find Tryz.f405=some Extern.BytealgCount.count:=by kernel_rfl
 simp only[callFunc,Sem.run_bind,run_program,Result.andThen_ok,h1,h2,h3,h4,h5,run_mark,if_true,Bool.false_eq_true,if_false];rw[show (Extern.BytealgCount.count #[.string (ofL l),.int .u8 n]).run Tryz.prog w=_ from Lib.run_countString (ofL l) n w,Int.toNat_natCast];rfl
theorem JEw (l:List UInt8) (c:UInt8) (hl:l.length<2^62):PureCall Tryz.prog 396 [encS (ofL l),encS (b1 c)] (encI (cntL l c)):=by
 refine PC [] Tryz.func396 rfl (by rfl) rfl ?_;have hb:(b1 c).size=1:=rfl;have hc:byteAt (b1 c) (Int.toNat 0)=(c.toNat:Int):=rfl;have he:=JEQ l c.toNat c.toNat_lt;rw[UInt8.ofNat_toNat] at he;refine kWS ?_;intros;rw[hc];refine CallP.ext _ he ?_;refine kWS ?_;intros;exact .of rfl
theorem JDR (s:ByteArray) (c:UInt8):PureCall Tryz.prog 397 [encS s,encS (b1 c)] (encI (idxB s c)):=by
 refine PC [] Tryz.func397 rfl (by rfl) rfl ?_;refine kWS ?_;intros;refine CallP.flat [] _ c350 (JA0 s c) rfl ?_;refine kWS ?_;intros;exact .of rfl
def splitL:List UInt8→List (List UInt8)
 | []=>[[]]
 | c::r=>if c=46 then []::splitL r else match splitL r with
   | x::xs=>(c::x)::xs
   | []=>[[c]]
theorem J4D (c:UInt8) (r:List UInt8):splitL (c::r)=if c=46 then []::splitL r else match splitL r with
 | x::xs=>(c::x)::xs
 | []=>[[c]]:=rfl
theorem JBa (l:List UInt8):splitL l≠[]:=by
 cases l with
 | nil=>simp[splitL]
 | cons c r=>
   unfold splitL;split
   ·simp
   ·split<;>simp
theorem JAI (l:List UInt8):(splitL l).length=cntL l 46+1:=by
 induction l with
 | nil=>rfl
 | cons c r ih=>
   unfold splitL cntL;rw[List.count_cons];have hne:=JBa r
   by_cases hc:c=46
   ·rw[if_pos hc];subst hc;simp[ih,cntL]
   ·rw[if_neg hc]
    cases hr:splitL r with
    | nil=>exact absurd hr hne
    | cons x xs=>
      rw[hr] at ih;unfold cntL at ih;simp only[List.length_cons] at ih ⊢;rw[if_neg (by simpa using hc)];omega
theorem JAH (l:List UInt8):(idxB (ofL l) 46<0→splitL l=[l]∧cntL l 46=0)∧(0≤idxB (ofL l) 46→splitL l=l.take (idxB (ofL l) 46).toNat::splitL (l.drop ((idxB (ofL l) 46).toNat+1))∧cntL l 46=cntL (l.drop ((idxB (ofL l) 46).toNat+1)) 46+1):=by
 induction l with
 | nil=>exact ⟨fun _=>⟨rfl,rfl⟩,by decide⟩
 | cons c r ih=>
   rw[J7Q,J4D]
   by_cases hc:c=46
   ·subst hc;simp[cntL]
   ·rw[if_neg hc,if_neg hc];obtain ⟨h1,h2⟩:=ih;have hcnt:cntL (c::r) 46=cntL r 46:=by unfold cntL;rw[List.count_cons,if_neg (by simpa using hc)];rfl
    rw[hcnt]
    by_cases hi:idxB (ofL r) 46<0
    ·rw[if_pos hi];obtain ⟨h3,h4⟩:=h1 hi;rw[h3];exact ⟨fun _=>⟨rfl,h4⟩,fun h=>by omega⟩
    ·rw[if_neg hi];obtain ⟨h3,h4⟩:=h2 (by omega);refine ⟨fun h=>by omega,fun _=>?_⟩;rw[show (idxB (ofL r) 46+1).toNat=(idxB (ofL r) 46).toNat+1 by omega,h3];refine ⟨?_,h4⟩;rw[List.take_succ_cons,List.drop_succ_cons]
def encL (l:List UInt8):AV:=encS (ofL l)
theorem repS (n:Nat):List.replicate n (mkEl { size:=1,bytes:=16,zero:=[Value.string ⟨#[]⟩],kind:=Kd.str })=(List.replicate n ([]:List UInt8)).map encL:=by rw[List.map_replicate];rfl
theorem setL (xs:List (List UInt8)) (v:List UInt8) (n i:Nat) (h:i=xs.length):((xs++List.replicate (n+1) []).map encL).set i (encL v)=((xs++[v])++List.replicate n []).map encL:=by
 subst h;rw[List.replicate_succ,JBh encL _ _ v _ rfl,JFA];simp
theorem endL {S:List Nat} {H:Hp} {k:Nat} {L:List AV} {n:Nat} {xs:List (List UInt8)} (h:L=xs.map encL) (hn:n=xs.length):AV.sl 1 (((L.drop 0).take n).map (J0R (J07 S H k)))=.sl 1 (xs.map encL):=by
 subst h;rw[J1Q _ _ _ _ hn fun x=>by cases k<;>rfl]
theorem J8k (l:List UInt8) (hl:l.length<2^40):PureCall Tryz.prog 387 [encS (ofL l),encS (b1 46),encI 0,encI (-1)] (.sl 1 ((splitL l).map encL)):=by
 refine PC [31] Tryz.func387 rfl (by rfl) rfl ?_;have hb:(b1 46).size=1:=rfl;have hsz:=J0G l;have hcl:cntL l 46≤l.length:=List.count_le_length;refine kWS ?_;intros;refine CallP.flat [] _ c396 (JEw l 46 (by omega)) rfl ?_;refine kWS ?_;intros;have e0:(min ((cntL l 46:Int)+1) (((ofL l).size:Int)+1)).toNat=cntL l 46+1:=by rw[hsz];omega
 have e1:min ((cntL l 46:Int)+1) (((ofL l).size:Int)+1)-1=cntL l 46:=by rw[hsz];omega
 simp only[e0,e1]
 refine LoopP.intro (fun k σ H=>∃ g,∃ xs:List (List UInt8),∃ m:List UInt8,k=cntL m 46∧splitL l=xs++splitL m∧xs.length+cntL m 46=cntL l 46∧m.length≤l.length ∧
  σ=fr [(0,encS (ofL m)),(1,encS (b1 46)),(2,encI 0),(3,encI (cntL l 46)),(9,.own 31 g 0 (cntL l 46+1)),(10,encI xs.length)] ∧
  H=hp [(31,g,⟨9,1,(xs++List.replicate (cntL m 46+1) []).map encL⟩)]) ?_ ?_
 ·refine .intro <| W.of ⟨_,_,[],l,rfl,rfl,by simp,Nat.le_refl _,rfl,rfl⟩ ⟨rfl,rfl,rfl,rfl,rfl,rfl,trivial⟩ ⟨?_,trivial⟩
  show some (_,(⟨_,_,_⟩:Blk))=some (_,⟨_,_,_⟩)
  rw[List.nil_append,← repS]
 ·rintro k σ H ⟨g,xs,m,rfl,hs,hc,hm,rfl,rfl⟩;have hszm:=J0G m;have hli:=@JCH (ofL m) 46;obtain ⟨hi1,hi2⟩:=JAH m;refine kWS ?_;intros;refine CondP.dec (fun h=>?_) (fun h=>?_)<;>refine kW ?_
  ·refine kS ?_;intros;refine CallP.flat [] _ c397 (JDR (ofL m) 46) rfl ?_
   have hpos:0≤idxB (ofL m) 46:=by
    rcases Int.lt_or_le (idxB (ofL m) 46) 0 with h' | h'
    ·have:=(hi1 h').2;omega
    ·exact h'
   obtain ⟨hsp,hcn⟩:=hi2 hpos;generalize idxB (ofL m) 46=j at *;refine kWS ?_;intros;refine CondP.neg (by omega) ?_;refine kWS ?_;intros;rw[Nat.zero_add,Int.toNat_natCast,J1j encL _ _ (by simp)];refine kWS ?_;intros
   refine .intro <| W.of ⟨cntL (m.drop (j.toNat+1)) 46,by omega,g,xs++[m.take j.toNat],m.drop (j.toNat+1),rfl,by rw[hs,hsp];simp,by simp;omega,by simp<;>omega,rfl,rfl⟩ ⟨?_,rfl,rfl,rfl,rfl,?_,trivial⟩ ⟨?_,trivial⟩
   ·show encS ((ofL m).extract (j+(((b1 46).size:Nat):Int)).toNat (ofL m).size)=encS _
    rw[hb,J0M,hszm,List.take_length,show (j+((1:Nat):Int)).toNat=j.toNat+1 by omega]
   ·show AV.val (.int .i64 _)=AV.val (.int .i64 _)
    congr 2;simp
   ·have hv:encS ((ofL m).extract 0 (j+0).toNat)=encL (m.take j.toNat):=by
     rw[J0M,Int.add_zero,List.drop_zero];rfl
    show some (g,(⟨9,1,List.set _ _ (encS ((ofL m).extract 0 (j+0).toNat))⟩:Blk))=_
    rw[hv,setL _ _ _ _ rfl,hcn]
  ·have hc0:cntL m 46=0:=by omega
   have hsm:splitL m=[m]:=by
    rcases Int.lt_or_le (idxB (ofL m) 46) 0 with h' | h'
    ·exact (hi1 h').1
    ·have:=(hi2 h').2;omega
   rw[hsm] at hs;rw[hc0];refine kS ?_;intros;rw[Nat.zero_add,Int.toNat_natCast,J1j encL _ _ (by simp)];refine kWS ?_;intros;refine .of ?_;rw[hs];refine endL (L:=((xs++List.replicate (0+1) []).map encL).set _ (encL m)) (xs:=xs++[m]) ?_ ?_
   ·exact (setL _ _ 0 _ (by omega)).trans (by simp)
   ·show ((xs.length:Int)+1).toNat-0=_
    rw[List.length_append,List.length_singleton];omega
theorem JEt (l:List UInt8) (hl:l.length<2^40):PureCall Tryz.prog 379 [encS (ofL l),encS (b1 46)] (.sl 1 ((splitL l).map encL)):=by
 refine PC [] Tryz.func379 rfl (by rfl) rfl ?_;refine kWS ?_;intros;refine J00 [] _ c387 (J8k l hl) ?_;refine kWS ?_;intros;exact .of rfl
def fitsF (n d:Int):Bool:=!decide (sgn n=0)&&decide (nd n≤9)&&decide (nd d≤9)
theorem JG5 (n d:Int) (hn:zl n<2^36) (hd:zl d<2^36):PureCall Tryz.prog 392 [encQ n d] (encB (fitsF n d)):=by
 refine PC [] Tryz.func392 rfl (by rfl) rfl ?_;generalize hF:fitsF n d=F;unfold fitsF at hF;have hs:=JEu n d;have h1:=JGQ n d;have h2:=JGT n d;generalize sgn n=s at hF hs;unfold encQ at hs h1 h2 ⊢;refine kWS ?_;intros;refine CallP.flat [] _ c111 hs rfl ?_;refine kWS ?_;intros;refine CondP.dec (fun h=>?_) (fun h=>?_)<;>refine kW ?_
 ·rw[decide_eq_true h] at hF;refine kS ?_;intros;exact .of (by rw[← hF];rfl)
 rw[decide_eq_false h,Bool.not_false,Bool.true_and] at hF;refine kS ?_;intros;refine J00 [] _ c402 h1 ?_;refine kWS ?_;intros;refine CallP.flat [] _ c217 (J2G n hn) rfl ?_;refine kWS ?_;intros;refine CondP.dec (fun h=>?_) (fun h=>?_)<;>refine kW ?_
 ·rw[decide_eq_true (by omega),Bool.true_and] at hF;refine kS ?_;intros;refine J00 [] _ c403 h2 ?_;refine kWS ?_;intros;refine CallP.flat [] _ c217 (J2G d hd) rfl ?_;refine kWS ?_;intros;refine .of ?_;rw[← hF];show AV.val (.bool _)=AV.val (.bool _)
  congr 2
  exact decide_eq_decide.2 (by omega)
 ·rw[decide_eq_false (by omega),Bool.false_and] at hF;refine kS ?_;intros;exact .of (by rw[← hF];rfl)
def wrT (n d:Int):List Nat:=if qT n d=[49] then [] else if d=1 then qT n d else 40::qT n d++[41]
theorem JFo {a b:List Nat} (ha:∀ c∈a,c<256) (hb:∀ c∈b,c<256) (h:ofL (a.map UInt8.ofNat)=ofL (b.map UInt8.ofNat)):a=b:=by
 have h1:=congrArg (fun s:ByteArray=>s.data.toList.map UInt8.toNat) h;simp only[ofL,List.map_map] at h1
 have key:∀ l:List Nat,(∀ c∈l,c<256)→l.map (UInt8.toNat∘UInt8.ofNat)=l:=by
  intro l hl;refine (List.map_congr_left fun c hc=>?_).trans (List.map_id l);have:=hl c hc;simp;omega
 rwa [key a ha,key b hb] at h1
theorem decT_lt (n:Nat):∀ c∈decT n,c<256:=by
 intro c hc;have:=List.all_eq_true.1 (JCf n) c hc;unfold isDg at this;simp at this;omega
theorem JFh (z:Int):∀ c∈sT z,c<256:=by
 intro c hc;unfold sT at hc;split at hc
 ·rcases List.mem_cons.1 hc with h | h
  ·omega
  ·exact decT_lt _ c h
 ·exact decT_lt _ c hc
theorem JHY (n d:Int):∀ c∈qT n d,c<256:=by
 intro c hc;unfold qT at hc;split at hc
 ·exact JFh _ c hc
 ·rcases List.mem_append.1 hc with h | h
  ·exact JFh _ c h
  ·rcases List.mem_cons.1 h with h | h
   ·omega
   ·exact JFh _ c h
theorem JHZ (n d:Int):(qT n d).length≤9*zl n+9*zl d+5:=by
 have s3:=JDu n;have s4:=JDu d;unfold qT;split
 ·omega
 ·simp;omega
theorem JDh (n d:Int) (hn:zl n<2^36) (hd:zl d<2^36):PureCall Tryz.prog 393 [encQ n d] (encT (wrT n d)):=by
 refine PC [] Tryz.func393 rfl (by rfl) rfl ?_;have hs:=J62 n d hn hd;have hi:=J97 n d;have hle:=JHZ n d;have hlt:=JHY n d;have hsz:=J2v (qT n d);generalize hF:wrT n d=F;unfold wrT at hF
 have h1:ofL ((qT n d).map UInt8.ofNat)=⟨#[49]⟩↔qT n d=[49]:=by
  constructor
  ·intro h;exact JFo hlt (by simp) (h.trans (show (⟨#[49]⟩:ByteArray)=ofL ([49].map UInt8.ofNat) from rfl))
  ·intro h;rw[h];rfl
 generalize qT n d=q at *;unfold encQ at hs hi ⊢;refine kWS ?_;intros;refine CallP.flat [] _ c150 hs rfl ?_;refine kWS ?_;intros;refine CondP.dec (fun h=>?_) (fun h=>?_)<;>refine kW ?_
 ·rw[if_pos (h1.1 h)] at hF;refine kS ?_;intros;exact .of (by rw[← hF];rfl)
 rw[if_neg (fun e=>h (h1.2 e))] at hF;refine kS ?_;intros;refine CallP.flat [] _ c327 hi rfl ?_;refine kWS ?_;intros;refine CondP.dec (fun h2=>?_) (fun h2=>?_)<;>refine kW ?_
 ·rw[if_pos h2] at hF;refine kS ?_;intros;exact .of (by rw[← hF];rfl)
 rw[if_neg h2] at hF;have s5:(⟨#[40]⟩:ByteArray).size=1:=rfl;have s6:(⟨#[41]⟩:ByteArray).size=1:=rfl;refine kS ?_;intros;rw[ByteArray.size_append];refine kS ?_;intros;refine .of ?_;rw[← hF];have e1:(⟨#[40]⟩:ByteArray)=ofL (List.map UInt8.ofNat [40]):=rfl;have e2:(⟨#[41]⟩:ByteArray)=ofL (List.map UInt8.ofNat [41]):=rfl;show encS _=encS _
 rw[e1,e2,J3x,J3x];rfl
theorem JGP:PureCall Tryz.prog 142 [encI 1] (encQ 1 1):=by
 refine PC [] Tryz.func142 rfl (by rfl) rfl ?_;refine kWS ?_;intros;refine J00 [] _ c216 Of1_ok ?_;refine kWS ?_;intros;refine J00 [] _ c216 Of1_ok ?_;refine kWS ?_;intros;exact .of rfl
theorem JGv (l:List UInt8):∀ i:Int,0≤i→fiL l i=-1∨(i≤fiL l i∧fiL l i<i+l.length):=by
 induction l with
 | nil=>intro i hi;left;rfl
 | cons c r ih=>
   intro i hi;unfold fiL;split
   ·right;simp;omega
   ·rcases ih (i+1) (by omega) with h | h
    ·left;exact h
    ·right;simp;omega
def facT (s:ByteArray) (j:Nat):ByteArray:=
 if (cutP (s.extract j s.size) (b1 40)).2 then J6x (cutP (s.extract j s.size) (b1 40)).1 (b1 41) else s.extract j s.size
def facF (s:ByteArray):ByteArray×Option (Int×Int)×Bool:=
 if fiL s.data.toList 0<0 then (s,some (1,1),symF s.data.toList)
 else (s.extract 0 (fiL s.data.toList 0).toNat,(J0D (facT s (fiL s.data.toList 0).toNat).data.toList).1,
  (J0D (facT s (fiL s.data.toList 0).toNat).data.toList).2&&symF (s.extract 0 (fiL s.data.toList 0).toNat).data.toList&&match (J0D (facT s (fiL s.data.toList 0).toNat).data.toList).1 with
    | some (n,d)=>fitsF n d&&decide (ofL ((wrT n d).map UInt8.ofNat)=s.extract (fiL s.data.toList 0).toNat s.size)
    | none=>false)
theorem J2O (s:ByteArray) (a b:Nat):(s.extract a b).size≤s.size:=by
 have:=J0M s.data.toList a b;rw[J18] at this;rw[this,J0G,List.length_drop,List.length_take];show _≤s.data.toList.length
 omega
theorem J7m (s p:ByteArray):(cutP s p).1.size≤s.size:=by
 unfold cutP;split
 ·exact J2O ..
 ·exact Nat.le_refl _
theorem JAC (s p:ByteArray):(J6x s p).size≤s.size:=by
 unfold J6x;split
 ·exact J2O ..
 ·exact Nat.le_refl _
theorem JCS (s:ByteArray) (j:Nat):(facT s j).size≤s.size:=by
 unfold facT;split
 ·exact Nat.le_trans (JAC ..) (Nat.le_trans (J7m ..) (J2O ..))
 ·exact J2O ..
theorem JC0 {l:List UInt8} {n d:Int} (h:(J0D l).1=some (n,d)):zl n≤l.length∧zl d≤l.length+1:=by
 obtain ⟨hp1,hp2⟩:=J9R l;have h1:zl 1=1:=by unfold zl;rw[show (1:Int).natAbs=1 from rfl,J4u hB9 (by omega) (by unfold B9;omega)];rfl
 unfold J0D at h;split at h
 ·cases h
 ·rename_i x hx;have:=J2k hx;split at h
  ·cases h;omega
  ·split at h
   ·cases h
   ·rename_i y hy;have:=J2k hy;split at h<;>cases h
    omega
theorem J8b {l:List UInt8} (h:(J0D l).2=true):∃ n d,(J0D l).1=some (n,d):=by
 unfold J0D at *;split
 ·rename_i hx;rw[hx] at h;cases h
 ·rename_i x hx;rw[hx] at h;simp only at h;split
  ·exact ⟨_,_,rfl⟩
  ·rename_i hy;rw[hy] at h;simp only at h;split
   ·rename_i hz;rw[hz] at h;cases h
   ·rename_i y hz;rw[hz] at h;simp only at h;split
    ·rename_i h1;rw[if_pos h1] at h;cases h
    ·exact ⟨_,_,rfl⟩
theorem JCR (s:ByteArray) (hs:s.size<2^35):PureCall Tryz.prog 380 [encS s] (.tup [encS (facF s).1,qAV (facF s).2.1,encB (facF s).2.2]):=by
 refine PC [] Tryz.func380 rfl (by rfl) rfl ?_;have hi:=J3B 389 s.data.toList (by exact Nat.lt_trans hs (by decide)) c389 JAg;rw[J18] at hi;have hj:=JGv s.data.toList 0 (by omega)
 have hj2:fiL s.data.toList 0≤s.size:=by
  have:s.data.toList.length=s.size:=rfl;omega
 generalize hF:facF s=F;unfold facF at hF;generalize fiL s.data.toList 0=j at *;refine kWS ?_;intros;refine CallP.flat [] _ c388 hi rfl ?_;refine kWS ?_;intros;refine CondP.dec (fun h=>?_) (fun h=>?_)<;>refine kW ?_
 ·rw[if_pos h] at hF;have hsy:=J86 s.data.toList (by exact Nat.lt_trans hs (by decide));rw[J18] at hsy;refine kS ?_;intros;refine J00 [] _ c142 JGP ?_;refine kWS ?_;intros;refine CallP.flat [] _ c390 hsy rfl ?_;refine kWS ?_;intros;exact .of (by rw[← hF];rfl)
 rw[if_neg h] at hF;have he:=J2O s j.toNat s.size;have he2:=J2O s 0 j.toNat;have ht:=JCS s j.toNat;have hcs:=J7m (s.extract j.toNat s.size) (b1 40);have hcp:=J3g (s.extract j.toNat s.size) (b1 40) (by omega) (by decide);have htx:=J6o (cutP (s.extract j.toNat s.size) (b1 40)).1 (b1 41) (by omega) (by decide);have hpq:=J2E (facT s j.toNat).data.toList (by show (facT s j.toNat).size<_;omega);rw[J18,JBw] at hpq;have hzl:=@JC0 (facT s j.toNat).data.toList;have hps:=@J8b (facT s j.toNat).data.toList;have hlen:(facT s j.toNat).data.toList.length<2^35:=by show (facT s j.toNat).size<_;omega
 generalize hp:J0D (facT s j.toNat).data.toList=p at hF hpq hzl hps;have hsy:=J86 (s.extract 0 j.toNat).data.toList (by show (s.extract 0 j.toNat).size<_;omega);rw[J18] at hsy;generalize hsym:symF (s.extract 0 j.toNat).data.toList=sy at hF hsy;refine kS ?_;intros;refine J00 [] _ c302 hcp ?_
 have hfT:facT s j.toNat=if (cutP (s.extract j.toNat s.size) (b1 40)).2 then J6x (cutP (s.extract j.toNat s.size) (b1 40)).1 (b1 41) else s.extract j.toNat s.size:=rfl
 generalize cutP (s.extract j.toNat s.size) (b1 40)=cp at htx hfT;refine kWS ?_;intros;refine CondP.intro (fun h1=>?_) (fun h1=>?_)<;>refine kX ?_
 case' refine_1=>
  rw[if_pos h1] at hfT;rw[← hfT] at htx;refine kS ?_;intros;refine CallP.flat [] _ c391 htx rfl ?_;refine kX ?_;refine kZ ?_;intros
 case' refine_2=>
  rw[if_neg (by rw[h1];decide)] at hfT
 all_goals
  refine J0W (W.of (l:=[(0,encS s),(2,encS ⟨#[]⟩),(3,.op 3 _ 0 0),(4,encB false),(5,encI j),(6,encS (facT s j.toNat))]) (m:=[(3,_,⟨104,4,[nilQ]⟩)]) ?_ ⟨rfl,rfl,rfl,rfl,rfl,congrArg encS ?_,trivial⟩ ⟨rfl,trivial⟩)
 case' refine_1.refine_2=>exact rfl
 case' refine_2.refine_2=>exact hfT.symm
 all_goals
  clear hfT htx hcp hcs h1 cp;generalize facT s j.toNat=tt at *;obtain ⟨o,b⟩:=p;refine kWS ?_;intros;refine J00 [] _ c134 hpq ?_
  cases b with
  | false=>
    replace hF:(s.extract 0 j.toNat,o,false)=F:=hF
    rcases J1T o with ho | ⟨n,d,ho⟩
    all_goals
     simp only[ho];refine kWS ?_;intros;exact .of (by rw[← hF,ho];rfl)
  | true=>
    obtain ⟨n,d,ho⟩:=hps rfl;replace ho:o=some (n,d):=ho;subst ho;obtain ⟨z1,z2⟩:=hzl rfl;have z1':zl n<2^36:=by omega
    have z2':zl d<2^36:=by omega
    have hfi:=JG5 n d z1' z2';have hwr:=JDh n d z1' z2';replace hF:(s.extract 0 j.toNat,some (n,d),true&&sy&&(fitsF n d&&decide (ofL ((wrT n d).map UInt8.ofNat)=s.extract j.toNat s.size)))=F:=hF;rw[Bool.true_and] at hF;generalize fitsF n d=fi at hfi hF;unfold encT at hwr;generalize ofL ((wrT n d).map UInt8.ofNat)=wr at hwr hF;refine kWS ?_;intros;refine CallG.intro _ c390 hsy ?_;refine kWS ?_;intros;refine CondP.intro (fun h1=>?_) (fun h1=>?_)<;>refine kW ?_
    case' refine_2=>
     rw[h1,Bool.false_and] at hF;refine kS ?_;intros;exact .of (by rw[← hF];rfl)
    rw[h1,Bool.true_and] at hF;refine kS ?_;intros;refine CallG.intro _ c392 hfi ?_;refine kWS ?_;intros;refine CondP.intro (fun h2=>?_) (fun h2=>?_)<;>refine kW ?_
    case' refine_2=>
     rw[h2,Bool.false_and] at hF;refine kS ?_;intros;exact .of (by rw[← hF];rfl)
    rw[h2,Bool.true_and] at hF;refine kS ?_;intros;refine CallG.intro _ c393 hwr ?_;refine kWS ?_;intros;exact .of (by rw[← hF];rfl)
def leqS (a b:ByteArray):Bool:=Op.bytesLess a.toList b.toList||decide (a=b)
def J49:List (List UInt8)→ByteArray→Bool
 | [],_=>true
 | f::r,last=>(facF (ofL f)).2.2&&!leqS (facF (ofL f)).1 last&&J49 r (facF (ofL f)).1
theorem JAG (l:List UInt8):∀ f∈splitL l,f.length≤l.length:=by
 induction l with
 | nil=>intro f hf;simp[splitL] at hf;subst hf;simp
 | cons c r ih=>
   intro f hf;rw[J4D] at hf;split at hf
   ·rcases List.mem_cons.1 hf with h | h
    ·subst h;simp
    ·have:=ih f h;simp;omega
   ·split at hf
    ·rename_i x xs hr
     rcases List.mem_cons.1 hf with h | h
     ·subst h;have:=ih x (by rw[hr];simp);simp;omega
     ·have:=ih f (by rw[hr];simp[h]);simp;omega
    ·simp at hf;subst hf;simp
theorem JEO (s:ByteArray) (ks:List ByteArray):∃ r,J0u (J0d T 9 (encS s)) (ks.map encS)=some r:=by
 obtain ⟨r,h,_⟩:=J1M (β:=Unit) (fun _=>.dead) s (ks.map fun k=>(k,()));refine ⟨r,?_⟩;rw[List.map_map] at h;exact h
def resU (s:ByteArray):AV:=
 if s=⟨#[49]⟩ then .tup [.dead,encB true]
 else if J49 (splitL s.data.toList) ⟨#[]⟩ then .tup [.dead,encB (decide (s.size≤80))]
 else .tup [.val (.map none),encB false]
theorem JDM (s:ByteArray) (hs:s.size<2^35):PureCall Tryz.prog 365 [encS s] (resU s):=by
 refine PC [] Tryz.func365 rfl (by rfl) rfl ?_;have hsp:=JEt s.data.toList (by show s.size<_;omega);rw[J18] at hsp;have hsl:=JAG s.data.toList;have hsc:=JAI s.data.toList;have hcc:cntL s.data.toList 46≤s.size:=List.count_le_length
 have hfl:∀ f∈splitL s.data.toList,(ofL f).size<2^35:=fun f hf=>by
  have:=hsl f hf;have e:s.data.toList.length=s.size:=rfl;rw[J0G];omega
 clear hsl;generalize hF:resU s=F;unfold resU at hF;generalize splitL s.data.toList=fs at *;refine kWS ?_;intros;refine CondP.dec (fun h=>?_) (fun h=>?_)<;>refine kW ?_
 ·rw[if_pos h] at hF;refine kS ?_;intros;exact .of (by rw[← hF];rfl)
 rw[if_neg h] at hF;refine kS ?_;intros;refine J00 [] _ c379 hsp ?_;refine kWS ?_;intros
 refine LoopP.intro (fun m σ H=>∃ g i last,∃ kl vs:List AV,(∃ ks:List ByteArray,kl=ks.map encS)∧m=fs.length-i∧i≤fs.length ∧
  (if J49 (fs.drop i) last then AV.tup [.dead,encB (decide (s.size≤80))] else .tup [.val (.map none),encB false])=F ∧
  σ=fr [(0,encS s),(4,.om 11 g),(5,encS last),(16,.sl 1 (fs.map encL)),(17,encI fs.length),(18,encI i)] ∧
  H=hp [(11,g,⟨384,0,[.mp kl vs]⟩)]) ?_ ?_
 ·refine .intro <| W.of ⟨_,_,0,_,[],[],⟨[],rfl⟩,rfl,Nat.zero_le _,hF,rfl,rfl⟩ ⟨rfl,rfl,rfl,rfl,?_,rfl,trivial⟩ ⟨rfl,trivial⟩
  show AV.val (.int .i64 _)=AV.val (.int .i64 _)
  rw[List.length_map]
 ·clear hF;rintro m σ H ⟨g,i,last,kl,vs,⟨ks,rfl⟩,rfl,hi,hF,rfl,rfl⟩;refine kWS ?_;intros;refine CondP.dec (fun h=>?_) (fun h=>?_)<;>refine kW ?_
  ·have hi':i<fs.length:=by omega
   rw[List.drop_eq_getElem_cons hi'] at hF;unfold J49 at hF;have hfa:=JCR (ofL fs[i]) (hfl _ (List.getElem_mem hi'));generalize facF (ofL fs[i])=fa at hF hfa;obtain ⟨nm,o,b⟩:=fa;refine kR ?_;intros;generalize fs[i]=f at hfa ⊢;refine J00 [] _ c380 hfa ?_;obtain ⟨q,hq⟩:∃ q,q=qAV o:=⟨_,rfl⟩;have hq2:=J1T o;rw[← hq] at hq2;replace hF:(if (b&&!leqS nm last&&J49 (fs.drop (i+1)) nm) then AV.tup [.dead,encB (decide (s.size≤80))] else .tup [.val (.map none),encB false])=F:=hF;show J1B _ _ _ (put _ _ (.tup [encS nm,qAV o,encB b])) _ _
   rw[← hq]
   rcases hq2 with rfl | ⟨n,d,rfl⟩
   all_goals
    refine kWT ?_;intros
    cases b with
    | false=>
      replace hF:AV.tup [.val (.map none),encB false]=F:=hF;refine kT ?_;intros;exact .of (by rw[← hF];rfl)
    | true=>
      rw[Bool.true_and] at hF;refine kT ?_;intros;refine CondP.intro (fun h2=>?_) (fun h2=>?_)<;>refine kW ?_
      ·rw[show leqS nm last=true from h2] at hF;replace hF:AV.tup [.val (.map none),encB false]=F:=hF;refine kT ?_;intros;exact .of (by rw[← hF];rfl)
      rw[show leqS nm last=false from h2,Bool.not_false,Bool.true_and] at hF;refine kT ?_;intros;refine J1D [(5,false),(6,true)] (by kernel_rfl) ?_;refine kWY ?_;intros;refine Need.intro keyst9 ?_;refine kWY ?_;intros;obtain ⟨r,hr⟩:=JEO nm ks;refine LookP.intro r hr ?_
      cases r with
      | none=>
        refine kWY ?_;intros
        exact .intro <| W.of ⟨_,by omega,_,i+1,nm,ks.map encS++[encS nm],_,⟨ks++[nm],by simp⟩,rfl,hi',hF,rfl,rfl⟩ ⟨rfl,rfl,rfl,rfl,rfl,rfl,trivial⟩ ⟨rfl,trivial⟩
      | some j=>
        refine kWY ?_;intros
        exact .intro <| W.of ⟨_,by omega,_,i+1,nm,ks.map encS,_,⟨ks,rfl⟩,rfl,hi',hF,rfl,rfl⟩ ⟨rfl,rfl,rfl,rfl,rfl,rfl,trivial⟩ ⟨rfl,trivial⟩
  ·rw[List.drop_eq_nil_of_le (by omega)] at hF;replace hF:AV.tup [.dead,encB (decide (s.size≤80))]=F:=hF;refine kS ?_;intros;refine .of ?_;rw[← hF];show AV.tup [_,.val (.bool (decide ((s.size:Int)≤80)))]=AV.tup [_,.val (.bool (decide (s.size≤80)))]
   rw[show decide ((s.size:Int)≤80)=decide (s.size≤80) from decide_eq_decide.2 (by omega)]
def unitF (s:ByteArray):Bool:=decide (s=⟨#[49]⟩)||(J49 (splitL s.data.toList) ⟨#[]⟩&&decide (s.size≤80))
theorem JIs (s:ByteArray) (hs:s.size<2^35):PureCall Tryz.prog 321 [encS s] (encB (unitF s)):=by
 refine PC [] Tryz.func321 rfl (by rfl) rfl ?_;have hp:=JDM s hs;unfold resU at hp;generalize hF:unitF s=F;unfold unitF at hF;split at hp
 ·rename_i h1;rw[decide_eq_true h1,Bool.true_or] at hF;refine kWS ?_;intros;refine J00 [] _ c365 hp ?_;refine kWS ?_;intros;exact .of (by rw[← hF];rfl)
 ·rename_i h1;rw[decide_eq_false h1,Bool.false_or] at hF;split at hp
  ·rename_i h2;rw[h2,Bool.true_and] at hF;refine kWS ?_;intros;refine J00 [] _ c365 hp ?_;refine kWS ?_;intros;exact .of (by rw[← hF];rfl)
  ·rename_i h2;rw[show J49 (splitL s.data.toList) ⟨#[]⟩=false by simpa using h2,Bool.false_and] at hF;refine kWS ?_;intros;refine J00 [] _ c365 hp ?_;refine kWS ?_;intros;exact .of (by rw[← hF];rfl)
structure Eqn where
 name:ByteArray
 left:Ex
 right:Ex
structure Ac where
 kind:Int
 var:ByteArray
 value:Ex
structure Whn where
 name:ByteArray
 cond:Ex
 acts:List Ac
structure Sys where
 vars:List Va
 eqs:List Eqn
 inits:List Eqn
 whens:List Whn
def J37 (e:Ex):List AV:=[encS e.op,encS e.text,encI e.order,.sl 4 (e.kids.map encE)]
theorem J0L (e:Ex):encE e=.agg (J37 e):=J01 e
def J0p (q:Eqn):AV:=.agg (encS q.name::(J37 q.left++J37 q.right))
def JCZ (a:Ac):AV:=.agg (encI a.kind::encS a.var::J37 a.value)
def J1A (w:Whn):AV:=.agg (encS w.name::(J37 w.cond++[.sl 6 (w.acts.map JCZ)]))
def J0T (s:Sys):AV:=.agg [.sl 7 (s.vars.map encV),.sl 9 (s.eqs.map J0p),.sl 9 (s.inits.map J0p),.sl 6 (s.whens.map J1A)]
theorem JCA (w:Whn):PureCall Tryz.prog 247 [J1A w] (encB (decide (20<w.acts.length))):=by
 refine PC [] Tryz.func247 rfl (by rfl) rfl ?_;refine kWS ?_;intros;refine .of ?_;show AV.val (.bool (decide _))=AV.val (.bool (decide _))
 rw[List.length_map]
 congr 2
 exact decide_eq_decide.2 (by omega)
theorem JCD (k:Nat) (p:Whn→Bool) (l:List Whn) (hl:l.length≤2^60) (hk:J05 Tryz.prog k) (hf:∀ x∈l,PureCall Tryz.prog k [J1A x] (encB (p x))) :
  PureCall Tryz.prog 318 [.sl 6 (l.map J1A),.fn (.func k) [] []] (encI (J0t p l 0)):=by
 refine PC [] Tryz.func318 rfl (by rfl) rfl ?_;generalize hF:J0t p l 0=F;refine kWS ?_;intros;refine LoopP.intro (fun n σ H=>∃ i,i≤l.length∧n=l.length-i∧J0t p (l.drop i) i=F∧σ=fr [(0,.sl 6 (l.map J1A)),(1,.fn (.func k) [] []),(7,encI l.length),(8,encI i)]∧H=hp []) ?_ ?_
 ·exact .intro <| W.of ⟨_,0,Nat.zero_le _,rfl,hF,rfl,rfl⟩ ⟨rfl,rfl,by simp;rfl,rfl,trivial⟩ trivial
 ·rintro n σ H ⟨i,hi,rfl,hc,rfl,rfl⟩;refine kWS ?_;intros;refine CondP.dec (fun h=>?_) (fun h=>?_)<;>refine kW ?_
  ·have hi':i<l.length:=by omega
   have hx:=hf _ (List.getElem_mem hi');rw[List.drop_eq_getElem_cons hi'] at hc;unfold J0t at hc;refine kR ?_;intros;generalize l[i]=x at hx hc ⊢;refine kR ?_;intros;refine CallP.flat [] _ hk hx rfl ?_;refine kWS ?_;intros;refine CondP.intro (fun hq=>?_) (fun hq=>?_)<;>refine kW ?_
   ·rw[hq] at hc;refine kS ?_;intros;exact .of (by rw[← hc];rfl)
   ·rw[hq] at hc;refine kS ?_;intros
    exact .intro <| W.of ⟨_,by omega,i+1,hi',rfl,hc,rfl,rfl⟩ ⟨rfl,rfl,rfl,rfl,trivial⟩ trivial
  ·refine kS ?_;intros;rw[List.drop_eq_nil_of_le (by omega)] at hc;exact .of (by rw[← hc];rfl)
theorem J7p (k:Nat) (p:Whn→Bool) (l:List Whn) (hl:l.length≤2^60) (hk:J05 Tryz.prog k) (hf:∀ x∈l,PureCall Tryz.prog k [J1A x] (encB (p x))) :
  PureCall Tryz.prog 246 [.sl 6 (l.map J1A),.fn (.func k) [] []] (encB (l.any p)):=by
 refine PC [] Tryz.func246 rfl (by rfl) rfl ?_;refine kWS ?_;intros;refine CallP.flat [] _ c318 (JCD k p l hl hk hf) rfl ?_;refine kWS ?_;intros;refine .of ?_;show AV.val (Value.bool (decide (0≤J0t p l 0)))=AV.val (Value.bool (l.any p))
 congr 2
 rw[Bool.eq_iff_iff,decide_eq_true_iff];exact J2p p l 0 (by omega)
theorem JCE (k:Nat) (p:Va→Bool) (l:List Va) (hl:l.length≤2^60) (hk:J05 Tryz.prog k) (hf:∀ x∈l,PureCall Tryz.prog k [encV x] (encB (p x))) :
  PureCall Tryz.prog 319 [.sl 7 (l.map encV),.fn (.func k) [] []] (encI (J0t p l 0)):=by
 refine PC [] Tryz.func319 rfl (by rfl) rfl ?_;generalize hF:J0t p l 0=F;refine kWS ?_;intros;refine LoopP.intro (fun n σ H=>∃ i,i≤l.length∧n=l.length-i∧J0t p (l.drop i) i=F∧σ=fr [(0,.sl 7 (l.map encV)),(1,.fn (.func k) [] []),(7,encI l.length),(8,encI i)]∧H=hp []) ?_ ?_
 ·exact .intro <| W.of ⟨_,0,Nat.zero_le _,rfl,hF,rfl,rfl⟩ ⟨rfl,rfl,by simp;rfl,rfl,trivial⟩ trivial
 ·rintro n σ H ⟨i,hi,rfl,hc,rfl,rfl⟩;refine kWS ?_;intros;refine CondP.dec (fun h=>?_) (fun h=>?_)<;>refine kW ?_
  ·have hi':i<l.length:=by omega
   have hx:=hf _ (List.getElem_mem hi');rw[List.drop_eq_getElem_cons hi'] at hc;unfold J0t at hc;refine kR ?_;intros;generalize l[i]=x at hx hc ⊢;refine kR ?_;intros;refine CallP.flat [] _ hk hx rfl ?_;refine kWS ?_;intros;refine CondP.intro (fun hq=>?_) (fun hq=>?_)<;>refine kW ?_
   ·rw[hq] at hc;refine kS ?_;intros;exact .of (by rw[← hc];rfl)
   ·rw[hq] at hc;refine kS ?_;intros
    exact .intro <| W.of ⟨_,by omega,i+1,hi',rfl,hc,rfl,rfl⟩ ⟨rfl,rfl,rfl,rfl,trivial⟩ trivial
  ·refine kS ?_;intros;rw[List.drop_eq_nil_of_le (by omega)] at hc;exact .of (by rw[← hc];rfl)
theorem J7q (k:Nat) (p:Va→Bool) (l:List Va) (hl:l.length≤2^60) (hk:J05 Tryz.prog k) (hf:∀ x∈l,PureCall Tryz.prog k [encV x] (encB (p x))) :
  PureCall Tryz.prog 255 [.sl 7 (l.map encV),.fn (.func k) [] []] (encB (l.any p)):=by
 refine PC [] Tryz.func255 rfl (by rfl) rfl ?_;refine kWS ?_;intros;refine CallP.flat [] _ c319 (JCE k p l hl hk hf) rfl ?_;refine kWS ?_;intros;refine .of ?_;show AV.val (Value.bool (decide (0≤J0t p l 0)))=AV.val (Value.bool (l.any p))
 congr 2
 rw[Bool.eq_iff_iff,decide_eq_true_iff];exact J2p p l 0 (by omega)
def J1H (l:List Eqn):List Ex:=l.flatMap fun q=>[q.left,q.right]
def J47 (w:Whn):List Ex:=w.cond::w.acts.map (·.value)
def allF (s:Sys):List Ex:=J1H s.eqs++J1H s.inits++s.whens.flatMap J47
theorem J1S (l:List Eqn):(J1H l).length=2*l.length:=by
 induction l with
 | nil=>rfl
 | cons q l ih=>unfold J1H at *;rw[List.flatMap_cons,List.length_append,ih];simp;omega
theorem JAL (l:List Eqn) (q:Eqn):J1H (l++[q])=J1H l++[q.left,q.right]:=by unfold J1H;rw[List.flatMap_append];simp
theorem J9D (l:List Whn) (h:∀ w∈l,w.acts.length≤20):(l.flatMap J47).length≤21*l.length:=by
 induction l with
 | nil=>simp
 | cons w l ih=>
   have h1:=h w (by simp);have h2:=ih fun x hx=>h x (by simp[hx]);rw[List.flatMap_cons,List.length_append];unfold J47 at *;simp at *;omega
theorem JHC (s:Sys) (h1:s.eqs.length≤120) (h2:s.inits.length≤120) (h3:s.whens.length≤120) (h4:∀ w∈s.whens,w.acts.length≤20):PureCall Tryz.prog 132 [J0T s] (.sl 4 ((allF s).map encE)):=by
 refine PC [100] Tryz.func132 rfl (by rfl) rfl ?_;obtain ⟨vars,eqs,inits,whens⟩:=s;simp only at h1 h2 h3 h4;unfold J0T;(refine kWS ?_;repeat intro γ)
 refine LoopP.intro (fun k σ H=>∃ g1 g16 g3 i,∃ out:List Ex,k=2-i∧i≤2∧out=J1H (([eqs,inits].take i).flatten) ∧
  σ=fr [(1,.op 1 g1 0 0),(2,.val (.slice none 0 0)),(3,.own 100 g3 0 out.length),(16,.own 16 g16 0 2),(17,encI 2),(18,encI i)] ∧
  H=hp [(1,g1,⟨26,4,[J0T ⟨vars,eqs,inits,whens⟩]⟩),(16,g16,⟨23,1,[eqs,inits].map fun l=>.sl 9 (l.map J0p)⟩),(100,g3,⟨29,4,out.map encE⟩)]) ?_ ?_
 ·exact .intro (JAv 3 100 29 4 rfl rfl fun g=>W.of ⟨_,_,_,g,0,[],rfl,by omega,rfl,rfl,rfl⟩ ⟨rfl,rfl,rfl,rfl,rfl,rfl,trivial⟩ ⟨rfl,rfl,rfl,trivial⟩)
 ·rintro k σ H ⟨g1,g16,g3,i,out,rfl,hi,hout,rfl,rfl⟩;(refine kWS ?_;repeat intro γ);refine CondP.dec (fun h=>?_) (fun h=>?_)<;>refine kW ?_
  ·have hi':i<[eqs,inits].length:=by simp;omega
   have hl:([eqs,inits][i]).length≤120:=by
    match i,hi' with
    | 0,_=>exact h1
    | 1,_=>exact h2
   have hout2:J1H (([eqs,inits].take (i+1)).flatten)=out++J1H [eqs,inits][i]:=by
    rw[List.take_succ_eq_append_getElem hi',List.flatten_append,hout];unfold J1H;rw[List.flatMap_append];simp
   have hol:out.length≤480:=by
    rw[hout,J1S,List.length_flatten]
    rcases i with _ | _ | i
    ·simp
    ·simp;omega
    ·omega
   (refine kR ?_;repeat intro γ);generalize [eqs,inits][i]=l at hl hout2 ⊢
   refine LoopP.intro (fun k σ H=>∃ g3 j,∃ out':List Ex,k=l.length-j∧j≤l.length∧out'=out++J1H (l.take j) ∧
    σ=fr [(1,.op 1 g1 0 0),(2,.val (.slice none 0 0)),(3,.own 100 g3 0 out'.length),(16,.own 16 g16 0 2),(17,encI 2),(18,encI i),(22,.sl 9 (l.map J0p)),(23,encI l.length),(24,encI j)] ∧
    H=hp [(1,g1,⟨26,4,[J0T ⟨vars,eqs,inits,whens⟩]⟩),(16,g16,⟨23,1,[eqs,inits].map fun l=>.sl 9 (l.map J0p)⟩),(100,g3,⟨29,4,out'.map encE⟩)]) ?_ ?_
   ·exact .intro <| W.of ⟨_,_,0,out,rfl,Nat.zero_le _,by simp[J1H],rfl,rfl⟩ ⟨rfl,rfl,rfl,rfl,rfl,rfl,rfl,rfl,rfl,trivial⟩ ⟨rfl,rfl,rfl,trivial⟩
   ·rintro k σ H ⟨g3,j,out',rfl,hj,ho',rfl,rfl⟩;(refine kWS ?_;repeat intro γ);refine CondP.dec (fun h=>?_) (fun h=>?_)<;>refine kW ?_
    ·have hj':j<l.length:=by omega
     have hs:=JAL (l.take j) l[j];rw[← List.take_succ_eq_append_getElem hj'] at hs
     have hol':out'.length≤800:=by
      rw[ho',List.length_append,J1S,List.length_take];omega
     (refine kR ?_;repeat intro γ);generalize l[j]=q at hs ⊢;(refine kR ?_;repeat intro γ)
     refine .intro <| W.of ⟨_,by omega,γ,j+1,out'++[q.left,q.right],rfl,hj',by rw[ho',hs,List.append_assoc],rfl,rfl⟩ ⟨rfl,rfl,?_,rfl,rfl,rfl,rfl,rfl,rfl,trivial⟩ ⟨rfl,rfl,?_,trivial⟩
     ·exact congrArg (AV.own 100 γ 0) (by simp)
     ·show some (_,(⟨_,_,out'.map encE++[.agg (J37 q.left),.agg (J37 q.right)]⟩:Blk))=_
      rw[← J0L,← J0L,List.map_append];rfl
    ·have hje:j=l.length:=by omega
     rw[hje,List.take_length,← hout2] at ho';(refine kS ?_;repeat intro γ)
     exact .intro <| W.of ⟨_,by omega,_,_,_,i+1,out',rfl,by omega,ho',rfl,rfl⟩ ⟨rfl,rfl,rfl,rfl,rfl,rfl,trivial⟩ ⟨rfl,rfl,rfl,trivial⟩
  ·have hie:i=2:=by omega
   rw[hie] at hout;have hout0:out=J1H eqs++J1H inits:=by rw[hout];simp[J1H]
   have hol:out.length≤480:=by rw[hout0,List.length_append,J1S,J1S];omega
   (refine kS ?_;repeat intro γ)
   refine LoopP.intro (fun k σ H=>∃ g3 i,∃ out':List Ex,k=whens.length-i∧i≤whens.length∧out'=out++(whens.take i).flatMap J47 ∧
    σ=fr [(2,.val (.slice none 0 0)),(3,.own 100 g3 0 out'.length),(38,.sl 6 (whens.map J1A)),(39,encI whens.length),(40,encI i)] ∧
    H=hp [(100,g3,⟨29,4,out'.map encE⟩)]) ?_ ?_
   ·refine .intro <| W.of ⟨_,_,0,out,rfl,Nat.zero_le _,by simp,rfl,rfl⟩ ⟨rfl,rfl,rfl,?_,rfl,trivial⟩ ⟨rfl,trivial⟩
    show AV.val (.int .i64 _)=AV.val (.int .i64 _)
    rw[List.length_map]
   ·clear hout g3;rintro k σ H ⟨g3,i,out',rfl,hi,ho',rfl,rfl⟩;(refine kWS ?_;repeat intro γ);refine CondP.dec (fun h=>?_) (fun h=>?_)<;>refine kW ?_
    ·have hi':i<whens.length:=by omega
     have ha:=h4 whens[i] (List.getElem_mem hi')
     have hol':out'.length≤480+21*120:=by
      have:=J9D (whens.take i) fun w hw=>h4 w (List.mem_of_mem_take hw);rw[List.length_take] at this;rw[ho',List.length_append];omega
     have ho2:out++(whens.take (i+1)).flatMap J47=out'++J47 whens[i]:=by
      rw[List.take_succ_eq_append_getElem hi',List.flatMap_append,ho'];simp
     (refine kR ?_;repeat intro γ);generalize whens[i]=w at ha ho2 ⊢;(refine kR ?_;repeat intro γ)
     refine LoopP.intro (fun k σ H=>∃ g3 j,∃ o3:List Ex,k=w.acts.length-j∧j≤w.acts.length∧o3=out'++w.cond::(w.acts.take j).map (·.value) ∧
      σ=fr [(2,.val (.slice none 0 0)),(3,.own 100 g3 0 o3.length),(38,.sl 6 (whens.map J1A)),(39,encI whens.length),(40,encI i),(50,.sl 6 (w.acts.map JCZ)),(51,encI w.acts.length),(52,encI j)] ∧
      H=hp [(100,g3,⟨29,4,o3.map encE⟩)]) ?_ ?_
     ·refine .intro <| W.of ⟨_,γ,0,out'++[w.cond],rfl,Nat.zero_le _,by simp,rfl,rfl⟩ ⟨rfl,?_,rfl,rfl,rfl,rfl,rfl,rfl,trivial⟩ ⟨?_,trivial⟩
      ·exact congrArg (AV.own 100 γ 0) (by simp)
      ·show some (_,(⟨_,_,out'.map encE++[.agg (J37 w.cond)]⟩:Blk))=_
       rw[← J0L,List.map_append];rfl
     ·rintro k σ H ⟨g3,j,o3,rfl,hj,ho3,rfl,rfl⟩
      have hol3:o3.length≤480+21*120+21:=by
       rw[ho3,List.length_append,List.length_cons,List.length_map,List.length_take];omega
      (refine kWS ?_;repeat intro γ);refine CondP.dec (fun h=>?_) (fun h=>?_)<;>refine kW ?_
      ·have hj':j<w.acts.length:=by omega
       have ho4:out'++w.cond::(w.acts.take (j+1)).map (·.value)=o3++[w.acts[j].value]:=by
        rw[List.take_succ_eq_append_getElem hj',List.map_append,ho3];simp
       (refine kR ?_;repeat intro γ);generalize w.acts[j]=a at ho4 ⊢;(refine kR ?_;repeat intro γ)
       refine .intro <| W.of ⟨_,by omega,γ,j+1,o3++[a.value],rfl,hj',ho4.symm,rfl,rfl⟩ ⟨rfl,?_,rfl,rfl,rfl,rfl,rfl,rfl,trivial⟩ ⟨?_,trivial⟩
       ·exact congrArg (AV.own 100 γ 0) (by simp)
       ·show some (_,(⟨_,_,o3.map encE++[.agg (J37 a.value)]⟩:Blk))=_
        rw[← J0L,List.map_append];rfl
      ·rw[show j=w.acts.length by omega,List.take_length] at ho3;(refine kS ?_;repeat intro γ)
       exact .intro <| W.of ⟨_,by omega,_,i+1,o3,rfl,hi',by rw[ho3,ho2];rfl,rfl,rfl⟩ ⟨rfl,rfl,rfl,rfl,rfl,trivial⟩ ⟨rfl,trivial⟩
    ·rw[show i=whens.length by omega,List.take_length] at ho';(refine kS ?_;repeat intro γ);refine .of ?_;have e:allF ⟨vars,eqs,inits,whens⟩=out':=by rw[ho',hout0];rfl
     rw[e];show AV.sl 4 ((((out'.map encE).drop 0).take out'.length).map _)=_
     rw[List.drop_zero,List.take_of_length_le (by simp),List.map_map]
     congr 1
     refine List.map_congr_left fun x _=>?_;show J0R _ (encE x)=encE x
     rw[J0L];rfl
def J9V:List Ex→Int→Bool
 | [],l=>decide (l<0)
 | e::r,l=>tooF e||J9V r (l-sizeF e)
def largeF (s:Sys):Bool:=decide (120<s.vars.length)||decide (120<max (max s.eqs.length s.inits.length) s.whens.length)||s.whens.any (fun w=>decide (20<w.acts.length))||J9V (allF s) 4000
structure SzS (s:Sys):Prop where
 v:s.vars.length≤2^60
 q:s.eqs.length≤2^60
 n:s.inits.length≤2^60
 w:s.whens.length≤2^60
 a:∀ w∈s.whens,w.acts.length≤2^60
 e:∀ e∈allF s,SzE e∧TxE e
 t:∀ v∈s.vars,v.name.size<2^35∧v.value.size<2^35∧v.start.size<2^35∧v.unit.size<2^35
 m:(∀ q∈s.eqs,q.name.size<2^35)∧(∀ q∈s.inits,q.name.size<2^35)∧∀ w∈s.whens,w.name.size<2^35
 v20:s.vars.length≤2^20
theorem JE9 (s:Sys) (hs:SzS s):PureCall Tryz.prog 174 [J0T s] (encB (largeF s)):=by
 refine PC [] Tryz.func174 rfl (by rfl) rfl ?_;have hW:=J7p 247 (fun w=>decide (20<w.acts.length)) s.whens hs.w c247 fun w _=>JCA w;have hA:=JHC s;have hv:=hs.v;have hq:=hs.q;have hn:=hs.n;have hw:=hs.w;have he:=hs.e;generalize hF:largeF s=F;unfold largeF at hF;generalize hall:allF s=es at *
 have hany:(s.whens.any fun w=>decide (20<w.acts.length))=false→∀ w∈s.whens,w.acts.length≤20:=by
  intro h w hw;have:=List.any_eq_false.1 h w hw;simp at this;exact this
 clear hs;unfold J0T at hA ⊢;refine kWS ?_;intros;rw[List.length_map];refine CondP.dec (fun h=>?_) (fun h=>?_)<;>refine kW ?_
 ·rw[decide_eq_true (by omega),Bool.true_or,Bool.true_or,Bool.true_or] at hF;refine kS ?_;intros;exact .of (by rw[← hF];rfl)
 rw[decide_eq_false (by omega),Bool.false_or] at hF;refine kS ?_;intros;simp only[List.length_map];refine CondP.dec (fun h=>?_) (fun h=>?_)<;>refine kW ?_
 ·rw[decide_eq_true (by omega),Bool.true_or,Bool.true_or] at hF;refine kS ?_;intros;exact .of (by rw[← hF];rfl)
 rw[decide_eq_false (by omega),Bool.false_or] at hF;refine kS ?_;intros;refine CallP.flat [] _ c246 hW rfl ?_;refine kWS ?_;intros;refine CondP.intro (fun h2=>?_) (fun h2=>?_)<;>refine kW ?_
 ·rw[h2,Bool.true_or] at hF;refine kS ?_;intros;exact .of (by rw[← hF];rfl)
 rw[h2,Bool.false_or] at hF;have hA:=hA (by omega) (by omega) (by omega) (hany h2)
 have hlen:es.length≤4000:=by
  have:=J9D s.whens (hany h2);rw[← hall];unfold allF;rw[List.length_append,List.length_append,J1S,J1S];omega
 refine kS ?_;intros;refine J00 [] _ c132 hA ?_;refine kWS ?_;intros
 refine LoopP.intro (fun k σ H=>∃ i,∃ l:Int,k=es.length-i∧i≤es.length∧l≤4000∧4000-201*i≤l∧J9V (es.drop i) l=F ∧
  σ=fr [(2,encB false),(3,encI l),(27,.sl 4 (es.map encE)),(28,encI es.length),(29,encI i)]∧H=hp []) ?_ ?_
 ·refine .intro <| W.of ⟨_,0,4000,rfl,Nat.zero_le _,by omega,by omega,hF,rfl,rfl⟩ ⟨rfl,rfl,rfl,?_,rfl,trivial⟩ trivial
  show AV.val (.int .i64 _)=AV.val (.int .i64 _)
  rw[List.length_map]
 ·clear hF;rintro k σ H ⟨i,l,rfl,hi,hl1,hl2,hF,rfl,rfl⟩;refine kWS ?_;intros;refine CondP.dec (fun h=>?_) (fun h=>?_)<;>refine kW ?_
  ·have hi':i<es.length:=by omega
   rw[List.drop_eq_getElem_cons hi'] at hF;unfold J9V at hF;have hz:=he es[i] (List.getElem_mem hi');refine kR ?_;intros;generalize es[i]=e at hF hz ⊢;have ht:=J2f e hz.1;have hsz:=JGN e hz.1;have hge:=J6L 24 e 200 (by omega);have hle:=J3t 24 e 200;have hdef:sizeF e=200-measF 24 e 200:=rfl;rw[J01] at ht hsz ⊢;refine kR ?_;intros;refine CallP.flat [] _ c83 ht rfl ?_;refine kWS ?_;intros;refine CondP.intro (fun h3=>?_) (fun h3=>?_)<;>refine kW ?_
   ·rw[h3,Bool.true_or] at hF;refine kS ?_;intros;exact .of (by rw[← hF];rfl)
   rw[h3,Bool.false_or] at hF;refine kS ?_;intros;refine CallP.flat [] _ c248 hsz rfl ?_;generalize sizeF e=z at hF hdef;refine kWS ?_;intros
   exact .intro <| W.of ⟨_,by omega,i+1,l-z,rfl,hi',by omega,by omega,hF,rfl,rfl⟩ ⟨rfl,rfl,rfl,rfl,rfl,trivial⟩ trivial
  ·rw[List.drop_eq_nil_of_le (by omega)] at hF;refine kS ?_;intros;exact .of (by rw[← hF];rfl)
def risG:List ByteArray→Option ByteArray→Bool
 | [],_=>true
 | n::r,p=>nameF n&&(match p with | none=>true | some p=>Op.bytesLess p.toList n.toList)&&risG r (some n)
def pvN (l:List ByteArray):Nat→Option ByteArray
 | 0=>none
 | i+1=>l[i]?
theorem J6F (l:List ByteArray) (i:Nat):pvN l (i+1)=l[i]?:=rfl
theorem J6n (x:Va):PureCall Tryz.prog 250 [encV x] (encS x.name):=by
 refine PC [] Tryz.func250 rfl (by rfl) rfl ?_;refine kWS ?_;intros;exact .of rfl
theorem JAR (l:List Va) (hl:l.length≤2^60) (hn:∀ x∈l,x.name.size<2^35) :
  PureCall Tryz.prog 249 [.sl 7 (l.map encV),.fn (.func 250) [] []] (encB (risG (l.map Va.name) none)):=by
 refine PC [] Tryz.func249 rfl (by rfl) rfl ?_;generalize hF:risG (l.map Va.name) none=F;refine kWS ?_;intros
 refine LoopP.intro (fun m σ H=>∃ i,i≤l.length∧m=l.length-i∧risG ((l.drop i).map Va.name) (pvN (l.map Va.name) i)=F ∧
  σ=fr [(0,.sl 7 (l.map encV)),(1,.fn (.func 250) [] []),(7,.sl 7 (l.map encV)),(8,encI l.length),(9,encI i)]∧H=hp []) ?_ ?_
 ·exact .intro <| W.of ⟨_,0,Nat.zero_le _,rfl,hF,rfl,rfl⟩ ⟨rfl,rfl,rfl,by simp;rfl,rfl,trivial⟩ trivial
 ·clear hF;rintro m σ H ⟨i,hi,rfl,hF,rfl,rfl⟩;refine kWS ?_;intros;refine CondP.dec (fun h=>?_) (fun h=>?_)<;>refine kW ?_
  ·have hi':i<l.length:=by omega
   have hx:=hn _ (List.getElem_mem hi');rw[List.drop_eq_getElem_cons hi',List.map_cons] at hF;unfold risG at hF;have hnx:(l.map Va.name)[i]?=some l[i].name:=by rw[List.getElem?_map,List.getElem?_eq_getElem hi'];rfl
   refine kR ?_;intros;generalize l[i]=x at hx hF hnx ⊢;have hnm:=J1V x.name (by omega);generalize nameF x.name=b at hF hnm;refine kR ?_;intros;refine CallG.intro _ c250 (J6n x) ?_;refine kWQ ?_;intros;refine CallG.intro _ c90 hnm ?_;refine kWQ ?_;intros;refine CondP.intro (fun hq=>?_) (fun hq=>?_)<;>refine kW ?_
   case' refine_2=>
    rw[hq,Bool.false_and,Bool.false_and] at hF;refine kR ?_;intros;exact .of (by rw[← hF];rfl)
   rw[hq,Bool.true_and] at hF
   cases i with
   | zero=>
     refine kR ?_;intros
     exact .intro <| W.of ⟨_,by omega,1,hi',rfl,by rw[← hF];show risG _ (pvN _ (0+1))=_;rw[J6F,hnx];rfl,rfl,rfl⟩ ⟨rfl,rfl,rfl,rfl,rfl,trivial⟩ trivial
   | succ i=>
     have hi2:i<l.length:=by omega
     rw[J6F,List.getElem?_map,List.getElem?_eq_getElem hi2] at hF;replace hF:(Op.bytesLess l[i].name.toList x.name.toList&&risG ((l.drop (i+1+1)).map Va.name) (some x.name))=F:=hF;have hp0:(0:Int)<((i+1:Nat):Int):=by omega
     refine kR ?_;intros
     try simp only[show ((i+1:Nat):Int)-1=(i:Int) by omega]
     refine kR ?_;intros;generalize l[i]=y at hF ⊢;refine kR ?_;intros;refine CallG.intro _ c250 (J6n y) ?_;refine kWR ?_;intros;refine CallG.intro _ c250 (J6n x) ?_;refine kWR ?_;intros;refine CondP.intro (fun h2=>?_) (fun h2=>?_)<;>refine kW ?_
     ·rw[h2,Bool.true_and] at hF;refine kR ?_;intros
      exact .intro <| W.of ⟨_,by omega,i+1+1,hi',rfl,by rw[J6F,hnx];exact hF,rfl,rfl⟩ ⟨rfl,rfl,rfl,rfl,rfl,trivial⟩ trivial
     ·rw[h2,Bool.false_and] at hF;refine kR ?_;intros;exact .of (by rw[← hF];rfl)
  ·refine kS ?_;intros;rw[List.drop_eq_nil_of_le (by omega)] at hF;exact .of (by rw[← hF];rfl)
theorem J6p (x:Eqn):PureCall Tryz.prog 252 [J0p x] (encS x.name):=by
 refine PC [] Tryz.func252 rfl (by rfl) rfl ?_;refine kWS ?_;intros;exact .of rfl
theorem J6m (x:Whn):PureCall Tryz.prog 254 [J1A x] (encS x.name):=by
 refine PC [] Tryz.func254 rfl (by rfl) rfl ?_;refine kWS ?_;intros;exact .of rfl
theorem J5f (l:List Eqn) (hl:l.length≤2^60) (hn:∀ x∈l,x.name.size<2^35) :
  PureCall Tryz.prog 251 [.sl 9 (l.map J0p),.fn (.func 252) [] []] (encB (risG (l.map Eqn.name) none)):=by
 refine PC [] Tryz.func251 rfl (by rfl) rfl ?_;generalize hF:risG (l.map Eqn.name) none=F;refine kWS ?_;intros
 refine LoopP.intro (fun m σ H=>∃ i,i≤l.length∧m=l.length-i∧risG ((l.drop i).map Eqn.name) (pvN (l.map Eqn.name) i)=F ∧
  σ=fr [(0,.sl 9 (l.map J0p)),(1,.fn (.func 252) [] []),(7,.sl 9 (l.map J0p)),(8,encI l.length),(9,encI i)]∧H=hp []) ?_ ?_
 ·exact .intro <| W.of ⟨_,0,Nat.zero_le _,rfl,hF,rfl,rfl⟩ ⟨rfl,rfl,rfl,by simp;rfl,rfl,trivial⟩ trivial
 ·clear hF;rintro m σ H ⟨i,hi,rfl,hF,rfl,rfl⟩;refine kWS ?_;intros;refine CondP.dec (fun h=>?_) (fun h=>?_)<;>refine kW ?_
  ·have hi':i<l.length:=by omega
   have hx:=hn _ (List.getElem_mem hi');rw[List.drop_eq_getElem_cons hi',List.map_cons] at hF;unfold risG at hF;have hnx:(l.map Eqn.name)[i]?=some l[i].name:=by rw[List.getElem?_map,List.getElem?_eq_getElem hi'];rfl
   refine kR ?_;intros;generalize l[i]=x at hx hF hnx ⊢;have hnm:=J1V x.name (by omega);generalize nameF x.name=b at hF hnm;refine kR ?_;intros;refine CallG.intro _ c252 (J6p x) ?_;refine kWQ ?_;intros;refine CallG.intro _ c90 hnm ?_;refine kWQ ?_;intros;refine CondP.intro (fun hq=>?_) (fun hq=>?_)<;>refine kW ?_
   case' refine_2=>
    rw[hq,Bool.false_and,Bool.false_and] at hF;refine kR ?_;intros;exact .of (by rw[← hF];rfl)
   rw[hq,Bool.true_and] at hF
   cases i with
   | zero=>
     refine kR ?_;intros
     exact .intro <| W.of ⟨_,by omega,1,hi',rfl,by rw[← hF];show risG _ (pvN _ (0+1))=_;rw[J6F,hnx];rfl,rfl,rfl⟩ ⟨rfl,rfl,rfl,rfl,rfl,trivial⟩ trivial
   | succ i=>
     have hi2:i<l.length:=by omega
     rw[J6F,List.getElem?_map,List.getElem?_eq_getElem hi2] at hF;replace hF:(Op.bytesLess l[i].name.toList x.name.toList&&risG ((l.drop (i+1+1)).map Eqn.name) (some x.name))=F:=hF;have hp0:(0:Int)<((i+1:Nat):Int):=by omega
     refine kR ?_;intros
     try simp only[show ((i+1:Nat):Int)-1=(i:Int) by omega]
     refine kR ?_;intros;generalize l[i]=y at hF ⊢;refine kR ?_;intros;refine CallG.intro _ c252 (J6p y) ?_;refine kWR ?_;intros;refine CallG.intro _ c252 (J6p x) ?_;refine kWR ?_;intros;refine CondP.intro (fun h2=>?_) (fun h2=>?_)<;>refine kW ?_
     ·rw[h2,Bool.true_and] at hF;refine kR ?_;intros
      exact .intro <| W.of ⟨_,by omega,i+1+1,hi',rfl,by rw[J6F,hnx];exact hF,rfl,rfl⟩ ⟨rfl,rfl,rfl,rfl,rfl,trivial⟩ trivial
     ·rw[h2,Bool.false_and] at hF;refine kR ?_;intros;exact .of (by rw[← hF];rfl)
  ·refine kS ?_;intros;rw[List.drop_eq_nil_of_le (by omega)] at hF;exact .of (by rw[← hF];rfl)
theorem JAQ (l:List Whn) (hl:l.length≤2^60) (hn:∀ x∈l,x.name.size<2^35) :
  PureCall Tryz.prog 253 [.sl 6 (l.map J1A),.fn (.func 254) [] []] (encB (risG (l.map Whn.name) none)):=by
 refine PC [] Tryz.func253 rfl (by rfl) rfl ?_;generalize hF:risG (l.map Whn.name) none=F;refine kWS ?_;intros
 refine LoopP.intro (fun m σ H=>∃ i,i≤l.length∧m=l.length-i∧risG ((l.drop i).map Whn.name) (pvN (l.map Whn.name) i)=F ∧
  σ=fr [(0,.sl 6 (l.map J1A)),(1,.fn (.func 254) [] []),(7,.sl 6 (l.map J1A)),(8,encI l.length),(9,encI i)]∧H=hp []) ?_ ?_
 ·exact .intro <| W.of ⟨_,0,Nat.zero_le _,rfl,hF,rfl,rfl⟩ ⟨rfl,rfl,rfl,by simp;rfl,rfl,trivial⟩ trivial
 ·clear hF;rintro m σ H ⟨i,hi,rfl,hF,rfl,rfl⟩;refine kWS ?_;intros;refine CondP.dec (fun h=>?_) (fun h=>?_)<;>refine kW ?_
  ·have hi':i<l.length:=by omega
   have hx:=hn _ (List.getElem_mem hi');rw[List.drop_eq_getElem_cons hi',List.map_cons] at hF;unfold risG at hF;have hnx:(l.map Whn.name)[i]?=some l[i].name:=by rw[List.getElem?_map,List.getElem?_eq_getElem hi'];rfl
   refine kR ?_;intros;generalize l[i]=x at hx hF hnx ⊢;have hnm:=J1V x.name (by omega);generalize nameF x.name=b at hF hnm;refine kR ?_;intros;refine CallG.intro _ c254 (J6m x) ?_;refine kWQ ?_;intros;refine CallG.intro _ c90 hnm ?_;refine kWQ ?_;intros;refine CondP.intro (fun hq=>?_) (fun hq=>?_)<;>refine kW ?_
   case' refine_2=>
    rw[hq,Bool.false_and,Bool.false_and] at hF;refine kR ?_;intros;exact .of (by rw[← hF];rfl)
   rw[hq,Bool.true_and] at hF
   cases i with
   | zero=>
     refine kR ?_;intros
     exact .intro <| W.of ⟨_,by omega,1,hi',rfl,by rw[← hF];show risG _ (pvN _ (0+1))=_;rw[J6F,hnx];rfl,rfl,rfl⟩ ⟨rfl,rfl,rfl,rfl,rfl,trivial⟩ trivial
   | succ i=>
     have hi2:i<l.length:=by omega
     rw[J6F,List.getElem?_map,List.getElem?_eq_getElem hi2] at hF;replace hF:(Op.bytesLess l[i].name.toList x.name.toList&&risG ((l.drop (i+1+1)).map Whn.name) (some x.name))=F:=hF;have hp0:(0:Int)<((i+1:Nat):Int):=by omega
     refine kR ?_;intros
     try simp only[show ((i+1:Nat):Int)-1=(i:Int) by omega]
     refine kR ?_;intros;generalize l[i]=y at hF ⊢;refine kR ?_;intros;refine CallG.intro _ c254 (J6m y) ?_;refine kWR ?_;intros;refine CallG.intro _ c254 (J6m x) ?_;refine kWR ?_;intros;refine CondP.intro (fun h2=>?_) (fun h2=>?_)<;>refine kW ?_
     ·rw[h2,Bool.true_and] at hF;refine kR ?_;intros
      exact .intro <| W.of ⟨_,by omega,i+1+1,hi',rfl,by rw[J6F,hnx];exact hF,rfl,rfl⟩ ⟨rfl,rfl,rfl,rfl,rfl,trivial⟩ trivial
     ·rw[h2,Bool.false_and] at hF;refine kR ?_;intros;exact .of (by rw[← hF];rfl)
  ·refine kS ?_;intros;rw[List.drop_eq_nil_of_le (by omega)] at hF;exact .of (by rw[← hF];rfl)
def JCB (k t:Int):Bool:=!((!decide (t=0)&&!decide (t=1))||decide (k<0)||decide (3<k)||(!decide (t=0)&&(decide (k=0)||decide (k=3))))
def varF (v:Va):Bool:=
 JCB v.kind v.type&&(if v.kind=2 then valueF v.value v.type else decide (v.value=⟨#[]⟩))
  && (decide (v.start=⟨#[]⟩)||((decide (v.kind=0)||decide (v.kind=1))&&valueF v.start v.type))&&!(v.fixed&&decide (v.start=⟨#[]⟩))
  && (decide (v.unit=⟨#[]⟩)||(decide (v.type=0)&&unitF v.unit))
theorem J8Q (v:Va) (h1:v.value.size<2^35) (h2:v.start.size<2^35) (h3:v.unit.size<2^35):PureCall Tryz.prog 257 [encV v] (encB (varF v)):=by
 refine PC [] Tryz.func257 rfl (by rfl) rfl ?_;obtain ⟨name,k,t,vl,st,fx,un⟩:=v;have hv1:=J9E vl t h1;have hv2:=J9E st t h2;have hu:=JIs un h3;generalize hF:varF ⟨name,k,t,vl,st,fx,un⟩=F;unfold varF at hF;simp only at hF hv1 hv2 hu;generalize valueF vl t=b1 at hF hv1;generalize valueF st t=b2 at hF hv2;generalize unitF un=b3 at hF hu;clear h1 h2 h3
 by_cases hk:JCB k t=true
 case' neg=>
  have hk':JCB k t=false:=by simpa using hk
  rw[hk',Bool.false_and,Bool.false_and,Bool.false_and,Bool.false_and] at hF;subst hF;unfold JCB at hk';refine kW ?_
  (repeat (any_goals (first | ((first | refine N0 ?_ | refine A0 fun γ=>?_ | refine C1 ?_ | refine C2 ?_ | refine C3 ?_ | refine C4 ?_ | refine C5 ?_ | refine C6 ?_ | refine C7 ?_ | refine D0 fun γs=>?_ | refine A1 fun γs=>?_ | refine N2 ?_ | refine N3 ?_ | refine N1 ?_);refine kW ?_) | (refine CondP.dec (fun _=>?_) (fun _=>?_)<;>refine kW ?_) | (refine CondP.intro (fun _=>?_) (fun _=>?_)<;>refine kW ?_))))
  all_goals first
   | exact .of rfl
   | (exfalso;simp_all<;>omega)
 rw[hk,Bool.true_and] at hF
 have hcs:(t=0∧(k=0∨k=1∨k=2∨k=3))∨(t=1∧(k=1∨k=2)):=by
  unfold JCB at hk;simp at hk;omega
 clear hk
 rcases hcs with ⟨rfl,rfl | rfl | rfl | rfl⟩ | ⟨rfl,rfl | rfl⟩
 all_goals
  simp only[Int.reduceEq,decide_true,decide_false,Bool.true_or,Bool.or_true,Bool.false_or,Bool.or_self,if_true,if_false,Bool.true_and,Bool.false_and,eq_self,Bool.or_false,reduceIte] at hF;(refine kWS ?_;repeat intro γ)
  repeat (any_goals (first
   | exact .of (by rw[← hF];rfl)
   | (refine CallP.flat [] _ c320 hv1 rfl ?_;refine kW ?_;(refine kS ?_;repeat intro γ))
   | (refine CallP.flat [] _ c320 hv2 rfl ?_;refine kW ?_;(refine kS ?_;repeat intro γ))
   | (refine CallP.flat [] _ c321 hu rfl ?_;refine kW ?_;(refine kS ?_;repeat intro γ))
   | (refine CondP.intro (fun h=>?_) (fun h=>?_)<;>refine kW ?_<;>(try simp only at h)<;>(try simp only[h,Bool.true_and,Bool.false_and,Bool.and_true,Bool.and_false,Bool.true_or,Bool.false_or,Bool.not_true,Bool.not_false,Bool.or_true,Bool.or_false] at hF)<;>(refine kS ?_;repeat intro γ))))
theorem JBR (v:Va) (h1:v.value.size<2^35) (h2:v.start.size<2^35) (h3:v.unit.size<2^35):PureCall Tryz.prog 256 [encV v] (encB (!varF v)):=by
 refine PC [] Tryz.func256 rfl (by rfl) rfl ?_;refine kWS ?_;intros;refine CallP.flat [] _ c257 (J8Q v h1 h2 h3) rfl ?_;refine kWS ?_;intros;exact .of rfl
def putK {β:Type} (l:List (ByteArray×β)) (k:ByteArray) (v:β):List (ByteArray×β):=match l with
 | []=>[(k,v)]
 | x::r=>if k=x.1 then (x.1,v)::r else x::putK r k v
theorem J8a {β:Type} (f:β→AV) (k:ByteArray) (v:β):∀ l:List (ByteArray×β),∃ r,J0u (J0d T 9 (encS k)) (l.map fun x=>encS x.1)=some r∧(match r with
  | some i=>(l.map fun x=>encS x.1)=((putK l k v).map fun x=>encS x.1)∧(l.map fun x=>f x.2).set i (f v)=(putK l k v).map fun x=>f x.2
  | none=>(l.map fun x=>encS x.1)++[encS k]=((putK l k v).map fun x=>encS x.1)∧(l.map fun x=>f x.2)++[f v]=(putK l k v).map fun x=>f x.2)
 | []=>⟨none,rfl,rfl,rfl⟩
 | x :: l=>by
   obtain ⟨r,h1,h2⟩:=J8a f k v l;rw[List.map_cons,List.map_cons];unfold J0u putK;rw[J4d]
   by_cases h:k=x.1
   ·rw[decide_eq_true h,if_pos h];exact ⟨some 0,rfl,rfl,rfl⟩
   ·rw[decide_eq_false h,if_neg h,h1];refine ⟨r.map (· + 1),rfl,?_⟩
    revert h2
    cases r with
    | none=>
      rintro ⟨h2,h3⟩;exact ⟨by rw[List.map_cons,← h2];rfl,by rw[List.map_cons,← h3];rfl⟩
    | some i=>
      rintro ⟨h2,h3⟩;exact ⟨by rw[List.map_cons,← h2],by rw[List.map_cons,← h3];rfl⟩
def knownF (vs:List Va):List (ByteArray×Va):=vs.foldl (fun l v=>putK l v.name v) []
theorem J9c (s:Sys) (hv:s.vars.length≤2^60):PureCall Tryz.prog 99 [J0T s] (encK (knownF s.vars)):=by
 refine PC [6] Tryz.func99 rfl (by rfl) rfl ?_;obtain ⟨vs,qs,ns,ws⟩:=s;simp only at hv ⊢;generalize hF:knownF vs=F;unfold knownF at hF;unfold J0T;refine kWS ?_;intros
 refine LoopP.intro (fun k σ H=>∃ g i,∃ l:List (ByteArray×Va),k=vs.length-i∧i≤vs.length∧(vs.drop i).foldl (fun l v=>putK l v.name v) l=F ∧
  σ=fr [(2,.val (.map none)),(3,.om 6 g),(8,.sl 7 (vs.map encV)),(9,encI vs.length),(10,encI i)] ∧
  H=hp [(6,g,⟨109,0,[encK l]⟩)]) ?_ ?_
 ·refine .intro <| W.of ⟨_,_,0,[],rfl,Nat.zero_le _,hF,rfl,rfl⟩ ⟨rfl,rfl,rfl,?_,rfl,trivial⟩ ⟨rfl,trivial⟩
  show AV.val (.int .i64 _)=AV.val (.int .i64 _)
  rw[List.length_map]
 ·clear hF;rintro k σ H ⟨g,i,l,rfl,hi,hF,rfl,rfl⟩;refine kWS ?_;intros;refine CondP.dec (fun h=>?_) (fun h=>?_)<;>refine kW ?_
  ·have hi':i<vs.length:=by omega
   rw[List.drop_eq_getElem_cons hi',List.foldl_cons] at hF;refine kR ?_;intros;generalize vs[i]=v at hF ⊢;refine kR ?_;intros;refine Need.intro keyst9 ?_;refine kWR ?_;intros;obtain ⟨r,hr,hm⟩:=J8a encV v.name v l;refine LookP.intro r hr ?_
   cases r with
   | some j=>
     refine kWR ?_;intros
     refine .intro <| W.of ⟨_,by omega,_,i+1,putK l v.name v,rfl,hi',hF,rfl,rfl⟩ ⟨rfl,rfl,rfl,rfl,rfl,trivial⟩ ⟨?_,trivial⟩
     exact congrArg (fun z=>some (g,(⟨109,0,[z]⟩:Blk))) (congr (congrArg AV.mp hm.1) hm.2)
   | none=>
     refine kWR ?_;intros
     refine .intro <| W.of ⟨_,by omega,_,i+1,putK l v.name v,rfl,hi',hF,rfl,rfl⟩ ⟨rfl,rfl,rfl,rfl,rfl,trivial⟩ ⟨?_,trivial⟩
     exact congrArg (fun z=>some (g,(⟨109,0,[z]⟩:Blk))) (congr (congrArg AV.mp hm.1) hm.2)
  ·rw[List.drop_eq_nil_of_le (by omega)] at hF;refine kS ?_;intros;exact .of (by rw[← hF];rfl)
def typedF (ks:List (ByteArray×Va)) (e:Ex) (t:Int):Bool:=builtF e&&(typeF ks e).2&&decide ((typeF ks e).1=t)
theorem J3q (ks:List (ByteArray×Va)) (e:Ex) (t:Int) (hs:SzE e) (hx:TxE e):PureCall Tryz.prog 258 [encK ks,encE e,encI t] (encB (typedF ks e t)):=by
 refine PC [] Tryz.func258 rfl (by rfl) rfl ?_;have hb:=JA1 e hs hx;have hT:=JDI ks e hs;generalize hF:typedF ks e t=F;unfold typedF at hF;generalize builtF e=b at hF hb hT;generalize typeF ks e=ty at hF hT;rw[J01] at hb hT ⊢;refine kWS ?_;intros;refine CallP.flat [] _ c123 hb rfl ?_;refine kWS ?_;intros
 cases b with
 | false=>
   rw[Bool.false_and,Bool.false_and] at hF;refine kS ?_;intros;exact .of (by rw[← hF];rfl)
 | true=>
   rw[Bool.true_and] at hF;obtain ⟨x,y⟩:=ty;simp only at hF;refine kS ?_;intros;refine J00 [] _ c124 (hT rfl) ?_;refine kWS ?_;intros
   cases y with
   | false=>
     rw[Bool.false_and] at hF;refine kS ?_;intros;exact .of (by rw[← hF];rfl)
   | true=>
     rw[Bool.true_and] at hF;refine kS ?_;intros;exact .of (by rw[← hF];rfl)
def setM (A:List ByteArray):AV:=.mp (A.map encS) (A.map fun _=>encB true)
def memA (s:ByteArray) (A:List ByteArray):Bool:=A.any fun x=>decide (s=x)
theorem J8W (s:ByteArray):∀ A:List ByteArray,∃ r,J0u (J0d T 9 (encS s)) (A.map encS)=some r∧(match r with
  | some i=>memA s A=true∧(A.map fun _=>encB true).getD i .dead=encB true
  | none=>memA s A=false)
 | []=>⟨none,rfl,rfl⟩
 | x :: l=>by
   obtain ⟨r,h1,h2⟩:=J8W s l;rw[List.map_cons];unfold J0u;rw[J4d]
   by_cases h:s=x
   ·rw[decide_eq_true h];exact ⟨some 0,rfl,by simp[memA,h],rfl⟩
   ·rw[decide_eq_false h,h1];refine ⟨r.map (· + 1),rfl,?_⟩
    revert h2
    cases r with
    | none=>intro h2;simpa [memA,h] using h2
    | some i=>rintro ⟨h2,h3⟩;exact ⟨by unfold memA at *;rw[List.any_cons,h2,Bool.or_true],h3⟩
theorem J73 (p:Nat) (e:Nat) (A:List ByteArray) (v:ByteArray):some (p,(⟨e,0,[.mp (A.map encS++[encS v]) ((A.map fun _=>encB true)++[encB true])]⟩:Blk))=some (p,⟨e,0,[setM (A++[v])]⟩):=by
 unfold setM;rw[List.map_append,List.map_append];rfl
def badA (ks:List (ByteArray×Va)) (a:Ac) (A:List ByteArray):Bool:=match J17 ks a.var with
 | none=>true
 | some v=>(!decide (a.kind=0)&&!decide (a.kind=1))||!decide (v.kind=if a.kind=0 then 1 else 0)||memA a.var A||!typedF ks a.value v.type
def J6l (ks:List (ByteArray×Va)):List Ac→List ByteArray→List ByteArray→Bool×List ByteArray
 | [],_,A=>(true,A)
 | a::r,S,A=>if badA ks a (if a.kind=0 then A else S) then (false,A) else if a.kind=0 then J6l ks r S (A++[a.var]) else J6l ks r (S++[a.var]) A
def J92 (ks:List (ByteArray×Va)) (w:Whn) (A:List ByteArray):Bool×List ByteArray:=((J6l ks w.acts [] A).1&&decide (0<w.acts.length),(J6l ks w.acts [] A).2)
theorem JGK (ks : List (ByteArray×Va)) (w:Whn) (A:List ByteArray) (p:Nat) (hl:w.acts.length≤2^40) (he:∀ a∈w.acts,SzE a.value∧TxE a.value) :
  HCall Tryz.prog 259 [encK ks,J1A w,.om 50 p] (hp [(50,p,⟨302,0,[setM A]⟩)]) (fun r h=>r=encB (J92 ks w A).1∧h=hp [(50,p,⟨302,0,[setM (J92 ks w A).2]⟩)]):=by
 refine J3v (E:=E 0) J44 (JHI 0) Tryz.func259 rfl (by rfl) (Nat.le_of_ble_eq_true rfl) ?_;obtain ⟨wn,wc,ats⟩:=w;simp only at hl he;generalize hF:J92 ks ⟨wn,wc,ats⟩ A=F;unfold J92 at hF;simp only at hF;obtain ⟨G,hG⟩:∃ G,J6l ks ats [] A=G:=⟨_,rfl⟩;rw[hG] at hF;unfold J1A;refine kWS ?_;intros
 refine LoopP.intro (fun k σ H=>∃ g g4 i,∃ S A:List ByteArray,k=ats.length-i∧i≤ats.length∧J6l ks (ats.drop i) S A=G ∧
  σ=fr [(0,encK ks),(2,.om 50 p),(4,.op 4 g4 0 0),(6,encB false),(7,.om 14 g),(16,.sl 6 (ats.map JCZ)),(17,encI ats.length),(18,encI i)] ∧
  H=hp [(4,g4,⟨228,6,[J1A ⟨wn,wc,ats⟩]⟩),(14,g,⟨302,0,[setM S]⟩),(50,p,⟨302,0,[setM A]⟩)]) ?_ ?_
 ·refine .intro <| W.of ⟨_,_,_,0,[],A,rfl,Nat.zero_le _,hG,rfl,rfl⟩ ⟨rfl,rfl,rfl,rfl,rfl,rfl,?_,rfl,trivial⟩ ⟨rfl,rfl,rfl,trivial⟩
  show AV.val (.int .i64 _)=AV.val (.int .i64 _)
  rw[List.length_map]
 ·clear hG A;rintro k σ H ⟨g,g4,i,S,A,rfl,hi,hG,rfl,rfl⟩;refine kWS ?_;intros;refine CondP.dec (fun h=>?_) (fun h=>?_)<;>refine kW ?_
  ·have hi':i<ats.length:=by omega
   rw[List.drop_eq_getElem_cons hi'] at hG;have hz:=he ats[i] (List.getElem_mem hi');refine kR ?_;intros;generalize ats[i]=a at hG hz ⊢;obtain ⟨ak,av,ae⟩:=a;simp only at hz;refine kR ?_;intros;refine Need.intro keyst9 ?_;refine kW ?_;obtain ⟨r,hr,hm⟩:=J1M encV av ks;refine LookP.intro r hr ?_;unfold J6l badA at hG;simp only at hG
   cases ha:J17 ks av with
   | none=>
     rw[ha] at hm hG
     cases r with
     | some i=>exact hm.elim
     | none=>
       replace hG:(false,A)=G:=hG;refine kWS ?_;intros;refine CondP.dec (fun _=>?_) (fun _=>?_)<;>refine kW ?_<;>refine kS ?_;intros
       all_goals exact EndH.of (m:=[(50,p,⟨302,0,[setM A]⟩)]) ⟨rfl,trivial⟩ ⟨by rw[← hF,← hG];rfl,by rw[← hF,← hG]⟩
   | some v=>
     rw[ha] at hm hG
     cases r with
     | none=>exact hm.elim
     | some j=>
       refine kW ?_;rw[show (List.map (fun x=>encV x.snd) ks).getD j AV.dead=encV v from hm];refine kWS ?_;intros;replace hG:(if ((!decide (ak=0)&&!decide (ak=1))||!decide (v.kind=if ak=0 then 1 else 0)||memA av (if ak=0 then A else S)||!typedF ks ae v.type) then (false,A) else if ak=0 then J6l ks (ats.drop (i+1)) S (A++[av]) else J6l ks (ats.drop (i+1)) (S++[av]) A)=G:=hG;have hty:=J3q ks ae v.type hz.1 hz.2;generalize typedF ks ae v.type=bt at hG hty;rw[J01] at hty;refine CondP.dec (fun h0=>?_) (fun h0=>?_)<;>refine kW ?_
       case' refine_1=>
        simp only[h0,decide_true,Bool.not_true,Bool.false_and,Bool.false_or,if_true] at hG;obtain ⟨r2,hr2,hm2⟩:=J8W av A;refine kS ?_;intros
       case' refine_2=>
        by_cases h01:ak=1
        case' neg=>
         simp only[h0,h01,decide_false,Bool.not_false,Bool.true_and,Bool.true_or,if_true] at hG;refine kS ?_;intros;exact EndH.of (m:=[(50,p,⟨302,0,[setM A]⟩)]) ⟨rfl,trivial⟩ ⟨by rw[← hF,← hG];rfl,by rw[← hF,← hG]⟩
        simp only[h0,h01,decide_false,decide_true,Bool.not_true,Bool.not_false,Bool.and_false,Bool.false_or,if_false,Int.reduceEq] at hG;obtain ⟨r2,hr2,hm2⟩:=J8W av S;refine kS ?_;intros
       all_goals
        refine CondP.dec (fun h1=>?_) (fun h1=>?_)<;>refine kW ?_
        ·simp only[h1,decide_true,Bool.not_true,Bool.false_or] at hG;refine kS ?_;intros;refine Need.intro keyst9 ?_;refine kWS ?_;intros;refine LookP.intro r2 hr2 ?_
         cases r2 with
         | some j2=>
           obtain ⟨hm3,hm4⟩:=hm2;simp only[hm3,Bool.true_or,if_true] at hG;refine kW ?_;rw[hm4];refine kWS ?_;intros;exact EndH.of (m:=[(50,p,⟨302,0,[setM A]⟩)]) ⟨rfl,trivial⟩ ⟨by rw[← hF,← hG];rfl,by rw[← hF,← hG]⟩
         | none=>
           replace hm2:memA av _=false:=hm2;simp only[hm2,Bool.false_or] at hG;refine kWS ?_;intros;refine CallP.flat [] _ c258 hty rfl ?_;refine kWS ?_;intros
           cases bt with
           | false=>
             replace hG:(false,A)=G:=hG;refine kS ?_;intros;exact EndH.of (m:=[(50,p,⟨302,0,[setM A]⟩)]) ⟨rfl,trivial⟩ ⟨by rw[← hF,← hG];rfl,by rw[← hF,← hG]⟩
           | true=>
             simp only[Bool.not_true,Bool.false_eq_true,if_false] at hG;refine kS ?_;intros;refine Need.intro keyst9 ?_;refine kWS ?_;intros;refine LookP.intro none hr2 ?_;refine kWS ?_;intros
             first
              | refine .intro <| W.of ⟨_,by omega,_,_,i+1,S,A++[av],rfl,hi',hG,rfl,rfl⟩ ⟨rfl,rfl,rfl,rfl,rfl,rfl,rfl,rfl,trivial⟩ ⟨rfl,rfl,J73 ..,trivial⟩
              | refine .intro <| W.of ⟨_,by omega,_,_,i+1,S++[av],A,rfl,hi',hG,rfl,rfl⟩ ⟨rfl,rfl,rfl,rfl,rfl,rfl,rfl,rfl,trivial⟩ ⟨rfl,J73 ..,rfl,trivial⟩
        ·simp only[h1,decide_false,Bool.not_false,Bool.true_or,if_true] at hG;refine kS ?_;intros;exact EndH.of (m:=[(50,p,⟨302,0,[setM A]⟩)]) ⟨rfl,trivial⟩ ⟨by rw[← hF,← hG];rfl,by rw[← hF,← hG]⟩
  ·rw[List.drop_eq_nil_of_le (by omega)] at hG;refine kS ?_;intros;replace hG:(true,A)=G:=hG;refine EndH.of (m:=[(50,p,⟨302,0,[setM A]⟩)]) ⟨rfl,trivial⟩ ⟨?_,by rw[← hF,← hG]⟩;rw[← hF,← hG];show AV.val (.bool (decide _))=AV.val (.bool (decide _))
   congr 2
   exact decide_eq_decide.2 (by simp)
def eqT (ks:List (ByteArray×Va)) (q:Eqn):Bool:=typedF ks q.left 0&&typedF ks q.right 0
def J6u (ks:List (ByteArray×Va)):List Whn→List ByteArray→Bool
 | [],_=>true
 | w::r,A=>typedF ks w.cond 1&&(J92 ks w A).1&&J6u ks r (J92 ks w A).2
def validF (s:Sys):Bool:=
 risG (s.vars.map Va.name) none&&risG (s.eqs.map Eqn.name) none&&risG (s.inits.map Eqn.name) none&&risG (s.whens.map Whn.name) none
  && !(s.vars.any fun v=>!varF v)&&(s.eqs.all (eqT (knownF s.vars))&&s.inits.all (eqT (knownF s.vars)))&&J6u (knownF s.vars) s.whens []
theorem J3s {l:List Eqn} {q:Eqn} (h:q∈l):q.left∈J1H l∧q.right∈J1H l:=by
 unfold J1H;exact ⟨List.mem_flatMap.2 ⟨q,h,by simp⟩,List.mem_flatMap.2 ⟨q,h,by simp⟩⟩
theorem J9X {l:List Whn} {w:Whn} (h:w∈l):w.cond∈l.flatMap J47∧∀ a∈w.acts,a.value∈l.flatMap J47:=by
 refine ⟨List.mem_flatMap.2 ⟨w,h,by simp[J47]⟩,fun a ha=>List.mem_flatMap.2 ⟨w,h,?_⟩⟩;unfold J47;exact List.mem_cons_of_mem _ (List.mem_map.2 ⟨a,ha,rfl⟩)
theorem JDi (s:Sys) (hs:SzS s) (h20:∀ w∈s.whens,w.acts.length≤20):PureCall Tryz.prog 175 [J0T s] (encB (validF s)):=by
 refine PC [] Tryz.func175 rfl (by rfl) rfl ?_;have r1:=JAR s.vars hs.v fun v hv=>(hs.t v hv).1;have r2:=J5f s.eqs hs.q hs.m.1;have r3:=J5f s.inits hs.n hs.m.2.1;have r4:=JAQ s.whens hs.w hs.m.2.2;have hC:=J7q 256 (fun v=>!varF v) s.vars hs.v c256 fun v hv=>JBR v (hs.t v hv).2.1 (hs.t v hv).2.2.1 (hs.t v hv).2.2.2;have hK:=J9c s hs.v;have hQ:∀ q∈s.eqs,(SzE q.left∧TxE q.left)∧SzE q.right∧TxE q.right:=fun q hq=>⟨hs.e _ (by unfold allF;exact List.mem_append_left _ (List.mem_append_left _ (J3s hq).1)),hs.e _ (by unfold allF;exact List.mem_append_left _ (List.mem_append_left _ (J3s hq).2))⟩;have hN:∀ q∈s.inits,(SzE q.left∧TxE q.left)∧SzE q.right∧TxE q.right:=fun q hq=>⟨hs.e _ (by unfold allF;exact List.mem_append_left _ (List.mem_append_right _ (J3s hq).1)),hs.e _ (by unfold allF;exact List.mem_append_left _ (List.mem_append_right _ (J3s hq).2))⟩;have hWc:∀ w∈s.whens,SzE w.cond∧TxE w.cond:=fun w hw=>hs.e _ (by unfold allF;exact List.mem_append_right _ (J9X hw).1);have hWa:∀ w∈s.whens,∀ a∈w.acts,SzE a.value∧TxE a.value:=fun w hw a ha=>hs.e _ (by unfold allF;exact List.mem_append_right _ ((J9X hw).2 a ha));have hq:=hs.q;have hn:=hs.n;have hw:=hs.w;clear hs;generalize hF:validF s=F;unfold validF at hF;obtain ⟨vs,qs,ns,ws⟩:=s;simp only at *;generalize risG (vs.map Va.name) none=b1 at *;generalize risG (qs.map Eqn.name) none=b2 at *;generalize risG (ns.map Eqn.name) none=b3 at *;generalize risG (ws.map Whn.name) none=b4 at *;generalize (vs.any fun v=>!varF v)=b5 at *;generalize knownF vs=ks at *;unfold J0T at hK ⊢;refine kWS ?_;intros;refine CallP.flat [] _ c249 r1 rfl ?_;refine kWS ?_;intros;refine CondP.intro (fun h=>?_) (fun h=>?_)<;>refine kW ?_
 case' refine_2=>
  simp only[h,Bool.false_and] at hF;refine kS ?_;intros;exact .of (by rw[← hF];rfl)
 simp only[h,Bool.true_and] at hF;refine kS ?_;intros;refine CallP.flat [] _ c251 r2 rfl ?_;refine kWS ?_;intros;refine CondP.intro (fun h=>?_) (fun h=>?_)<;>refine kW ?_
 case' refine_2=>
  simp only[h,Bool.false_and] at hF;refine kS ?_;intros;exact .of (by rw[← hF];rfl)
 simp only[h,Bool.true_and] at hF;refine kS ?_;intros;refine CallP.flat [] _ c251 r3 rfl ?_;refine kWS ?_;intros;refine CondP.intro (fun h=>?_) (fun h=>?_)<;>refine kW ?_
 case' refine_2=>
  simp only[h,Bool.false_and] at hF;refine kS ?_;intros;exact .of (by rw[← hF];rfl)
 simp only[h,Bool.true_and] at hF;refine kS ?_;intros;refine CallP.flat [] _ c253 r4 rfl ?_;refine kWS ?_;intros;refine CondP.intro (fun h=>?_) (fun h=>?_)<;>refine kW ?_
 case' refine_2=>
  simp only[h,Bool.false_and] at hF;refine kS ?_;intros;exact .of (by rw[← hF];rfl)
 simp only[h,Bool.true_and] at hF;refine kS ?_;intros;refine CallP.flat [] _ c255 hC rfl ?_;refine kWS ?_;intros;refine CondP.intro (fun h=>?_) (fun h=>?_)<;>refine kW ?_
 ·simp only[h,Bool.not_true,Bool.false_and] at hF;refine kS ?_;intros;exact .of (by rw[← hF];rfl)
 simp only[h,Bool.not_false,Bool.true_and] at hF;refine kS ?_;intros;refine J00 [] _ c99 hK ?_;refine kWS ?_;intros
 have hQN:∀ l∈[qs,ns],l.length≤2^60∧∀ q∈l,(SzE q.left∧TxE q.left)∧SzE q.right∧TxE q.right:=by
  intro l hl
  rcases List.mem_cons.1 hl with h | h
  ·rw[h];exact ⟨hq,hQ⟩
  ·rw[List.mem_singleton.1 h];exact ⟨hn,hN⟩
 obtain ⟨wh,hwh⟩:∃ wh,J6u ks ws []=wh:=⟨_,rfl⟩;rw[hwh] at hF;replace hF:([qs,ns].all (fun l=>l.all (eqT ks))&&wh)=F:=by rw[← hF];simp
 clear hQ hN r1 r2 r3 r4 hC hK
 refine LoopP.intro (fun k σ H=>∃ g1 g42 i,k=2-i∧i≤2∧(([qs,ns].drop i).all (fun l=>l.all (eqT ks))&&wh)=F ∧
  σ=fr [(1,.op 1 g1 0 0),(2,encB false),(3,encK ks),(42,.own 42 g42 0 2),(43,encI 2),(44,encI i)] ∧
  H=hp [(1,g1,⟨26,4,[.agg [.sl 7 (vs.map encV),.sl 9 (qs.map J0p),.sl 9 (ns.map J0p),.sl 6 (ws.map J1A)]]⟩),(42,g42,⟨23,1,[qs,ns].map fun l=>.sl 9 (l.map J0p)⟩)]) ?_ ?_
 ·exact .intro <| W.of ⟨_,_,_,0,rfl,by omega,hF,rfl,rfl⟩ ⟨rfl,rfl,rfl,rfl,rfl,rfl,trivial⟩ ⟨rfl,rfl,trivial⟩
 ·clear hF;rintro k σ H ⟨g1,g42,i,rfl,hi,hF,rfl,rfl⟩;refine kWS ?_;intros;refine CondP.dec (fun h=>?_) (fun h=>?_)<;>refine kW ?_
  ·have hi':i<[qs,ns].length:=by simp;omega
   rw[List.drop_eq_getElem_cons hi',List.all_cons] at hF;obtain ⟨hl,hlq⟩:=hQN _ (List.getElem_mem hi');refine kR ?_;intros;generalize [qs,ns][i]=l at hF hl hlq ⊢;obtain ⟨rs,hrs⟩:∃ rs,([qs,ns].drop (i+1)).all (fun l=>l.all (eqT ks))=rs:=⟨_,rfl⟩;rw[hrs] at hF
   refine LoopP.intro (fun k σ H=>∃ j,k=l.length-j∧j≤l.length∧((l.drop j).all (eqT ks)&&rs&&wh)=F ∧
    σ=fr [(1,.op 1 g1 0 0),(2,encB false),(3,encK ks),(42,.own 42 g42 0 2),(43,encI 2),(44,encI i),(48,.sl 9 (l.map J0p)),(49,encI l.length),(50,encI j)] ∧
    H=hp [(1,g1,⟨26,4,[.agg [.sl 7 (vs.map encV),.sl 9 (qs.map J0p),.sl 9 (ns.map J0p),.sl 6 (ws.map J1A)]]⟩),(42,g42,⟨23,1,[qs,ns].map fun l=>.sl 9 (l.map J0p)⟩)]) ?_ ?_
   ·exact .intro <| W.of ⟨_,0,rfl,Nat.zero_le _,hF,rfl,rfl⟩ ⟨rfl,rfl,rfl,rfl,rfl,rfl,rfl,rfl,rfl,trivial⟩ ⟨rfl,rfl,trivial⟩
   ·clear hF;rintro k σ H ⟨j,rfl,hj,hF,rfl,rfl⟩;refine kWS ?_;intros;refine CondP.dec (fun h=>?_) (fun h=>?_)<;>refine kW ?_
    ·have hj':j<l.length:=by omega
     rw[List.drop_eq_getElem_cons hj',List.all_cons] at hF;have hz:=hlq _ (List.getElem_mem hj');refine kR ?_;intros;generalize l[j]=q at hF hz ⊢;unfold eqT at hF;have t1:=J3q ks q.left 0 hz.1.1 hz.1.2;have t2:=J3q ks q.right 0 hz.2.1 hz.2.2;generalize typedF ks q.left 0=y1 at hF t1;generalize typedF ks q.right 0=y2 at hF t2;rw[J0L] at t1 t2;refine kR ?_;intros;refine CallP.flat [] _ c258 t1 rfl ?_;refine kWS ?_;intros;refine CondP.intro (fun h1=>?_) (fun h1=>?_)<;>refine kW ?_
     case' refine_2=>
      simp only[h1,Bool.false_and] at hF;refine kS ?_;intros;exact .of (by rw[← hF];rfl)
     simp only[h1,Bool.true_and] at hF;refine kS ?_;intros;refine CallP.flat [] _ c258 t2 rfl ?_;refine kWS ?_;intros;refine CondP.intro (fun h2=>?_) (fun h2=>?_)<;>refine kW ?_
     case' refine_2=>
      simp only[h2,Bool.false_and] at hF;refine kS ?_;intros;exact .of (by rw[← hF];rfl)
     simp only[h2,Bool.true_and] at hF;refine kS ?_;intros
     exact .intro <| W.of ⟨_,by omega,j+1,rfl,hj',hF,rfl,rfl⟩ ⟨rfl,rfl,rfl,rfl,rfl,rfl,rfl,rfl,rfl,trivial⟩ ⟨rfl,rfl,trivial⟩
    ·rw[List.drop_eq_nil_of_le (by omega)] at hF;refine kS ?_;intros
     exact .intro <| W.of ⟨_,by omega,_,_,i+1,rfl,by omega,by rw[hrs];exact hF,rfl,rfl⟩ ⟨rfl,rfl,rfl,rfl,rfl,rfl,trivial⟩ ⟨rfl,rfl,trivial⟩
  ·rw[List.drop_eq_nil_of_le (by simp;omega)] at hF;replace hF:wh=F:=hF;rw[← hwh] at hF;refine kS ?_;intros
   refine LoopP.intro (fun k σ H=>∃ g i,∃ A:List ByteArray,k=ws.length-i∧i≤ws.length∧J6u ks (ws.drop i) A=F ∧
    σ=fr [(2,encB false),(3,encK ks),(8,.om 68 g),(70,.sl 6 (ws.map J1A)),(71,encI ws.length),(72,encI i)] ∧
    H=hp [(68,g,⟨302,0,[setM A]⟩)]) ?_ ?_
   ·refine .intro <| W.of ⟨_,_,0,[],rfl,Nat.zero_le _,hF,rfl,rfl⟩ ⟨rfl,rfl,rfl,rfl,?_,rfl,trivial⟩ ⟨rfl,trivial⟩
    show AV.val (.int .i64 _)=AV.val (.int .i64 _)
    rw[List.length_map]
   ·clear hF hwh;rintro k σ H ⟨g,i,A,rfl,hi,hF,rfl,rfl⟩;refine kWS ?_;intros;refine CondP.dec (fun h=>?_) (fun h=>?_)<;>refine kW ?_
    ·have hi':i<ws.length:=by omega
     rw[List.drop_eq_getElem_cons hi'] at hF;unfold J6u at hF;have hz:=hWc _ (List.getElem_mem hi');have hza:=hWa _ (List.getElem_mem hi');have h20':=h20 _ (List.getElem_mem hi');refine kR ?_;intros;generalize ws[i]=w at hF hz hza h20' ⊢;have t1:=J3q ks w.cond 1 hz.1 hz.2;generalize typedF ks w.cond 1=y1 at hF t1;rw[J0L] at t1;refine kR ?_;intros;refine CallP.flat [] _ c258 t1 rfl ?_;refine kWS ?_;intros;refine CondP.intro (fun h1=>?_) (fun h1=>?_)<;>refine kW ?_
     case' refine_2=>
      simp only[h1,Bool.false_and] at hF;refine kS ?_;intros;exact .of (by rw[← hF];rfl)
     simp only[h1,Bool.true_and] at hF;refine kS ?_;intros;refine CallP.frame 1000000 [(50,68)] rfl c259 (JGK ks w A g (by omega) hza) rfl ⟨rfl,trivial⟩ ?_;rintro r0 h' ⟨rfl,rfl⟩;refine ⟨[(68,g,⟨302,0,[setM (J92 ks w A).2]⟩)],⟨rfl,trivial⟩,?_⟩;refine kWS ?_;intros;refine CondP.intro (fun h2=>?_) (fun h2=>?_)<;>refine kW ?_
     case' refine_2=>
      simp only[h2,Bool.false_and] at hF;refine kS ?_;intros;exact .of (by rw[← hF];rfl)
     simp only[h2,Bool.true_and] at hF;refine kS ?_;intros
     exact .intro <| W.of ⟨_,by omega,_,i+1,_,rfl,hi',hF,rfl,rfl⟩ ⟨rfl,rfl,rfl,rfl,rfl,rfl,trivial⟩ ⟨rfl,trivial⟩
    ·rw[List.drop_eq_nil_of_le (by omega)] at hF;refine kS ?_;intros;exact .of (by rw[← hF];rfl)
def checkF (s:Sys):Int:=if largeF s then 2 else if validF s then 0 else 1
theorem JEx (s:Sys) (hs:SzS s):PureCall Tryz.prog 89 [J0T s] (encI (checkF s)):=by
 refine PC [] Tryz.func89 rfl (by rfl) rfl ?_;have hL:=JE9 s hs
 have h20:largeF s=false→∀ w∈s.whens,w.acts.length≤20:=by
  intro h w hw;unfold largeF at h;simp only[Bool.or_eq_false_iff] at h;have:=List.any_eq_false.1 h.1.2 w hw;simp at this;exact this
 have hV:=fun h=>JDi s hs (h20 h);generalize hF:checkF s=F;unfold checkF at hF;generalize largeF s=a at hF hL hV;generalize validF s=b at hF hV;clear h20 hs;unfold J0T at hL hV ⊢;refine kWS ?_;intros;refine CallP.flat [] _ c174 hL rfl ?_;refine kWS ?_;intros
 cases a with
 | true=>
   refine kS ?_;intros;exact .of (by rw[← hF];rfl)
 | false=>
   refine kS ?_;intros;refine CallP.flat [] _ c175 (hV rfl) rfl ?_;refine kWS ?_;intros
   cases b with
   | true=>
     refine kS ?_;intros;exact .of (by rw[← hF];rfl)
   | false=>
     refine kS ?_;intros;exact .of (by rw[← hF];rfl)
abbrev oTrue:ByteArray:=⟨#[116,114,117,101]⟩
abbrev oFalse:ByteArray:=⟨#[102,97,108,115,101]⟩
abbrev oTime:ByteArray:=⟨#[116,105,109,101]⟩
abbrev oInit:ByteArray:=⟨#[105,110,105,116,105,97,108]⟩
abbrev oNeg:ByteArray:=⟨#[110,101,103]⟩
abbrev oNot:ByteArray:=⟨#[110,111,116]⟩
abbrev oAdd:ByteArray:=⟨#[97,100,100]⟩
abbrev oSub:ByteArray:=⟨#[115,117,98]⟩
abbrev oMul:ByteArray:=⟨#[109,117,108]⟩
abbrev oDiv:ByteArray:=⟨#[100,105,118]⟩
abbrev oLess:ByteArray:=⟨#[108,101,115,115]⟩
abbrev oAtMost:ByteArray:=⟨#[97,116,109,111,115,116]⟩
abbrev oMore:ByteArray:=⟨#[109,111,114,101]⟩
abbrev oAtLeast:ByteArray:=⟨#[97,116,108,101,97,115,116]⟩
abbrev oAnd:ByteArray:=⟨#[97,110,100]⟩
abbrev oOr:ByteArray:=⟨#[111,114]⟩
mutual
def szF:Ex→Nat
 | .mk _ _ _ ks=>1+szL ks
def szL:List Ex→Nat
 | []=>0
 | k::ks=>szF k+szL ks
end
mutual
def htF:Ex→Nat
 | .mk _ _ _ ks=>1+htL ks
def htL:List Ex→Nat
 | []=>0
 | k::ks=>max (htF k) (htL ks)
end
def allI (l:List Int) (t:Int):Bool:=l.all fun x=>decide (x=t)
def varT (vs:List Va) (tx:ByteArray) (od:Int):Int×Bool:=match vs.find? fun v=>decide (v.name=tx) with
 | none=>(0,false)
 | some v=>(v.type,decide (od=0)||decide (v.kind=0)||decide (v.kind=3))
def typH (vs:List Va) (o tx:ByteArray) (od:Int) (rs:List Int):Int×Bool:=
 if o=oNum then (0,true) else if o=oTime then (0,true) else if o=oTrue then (1,true) else if o=oFalse then (1,true) else if o=oInit then (1,true) else if o=oSample then (1,true)
 else if o=oVar then varT vs tx od else if o=oPre then varT vs tx od
 else if o=oNeg then (0,allI rs 0) else if o=oAdd then (0,allI rs 0) else if o=oSub then (0,allI rs 0) else if o=oMul then (0,allI rs 0) else if o=oDiv then (0,allI rs 0)
 else if o=oLess then (1,allI rs 0) else if o=oAtMost then (1,allI rs 0) else if o=oMore then (1,allI rs 0) else if o=oAtLeast then (1,allI rs 0)
 else if o=oAnd then (1,allI rs 1) else if o=oOr then (1,allI rs 1) else if o=oNot then (1,allI rs 1)
 else if o=oEq then (1,decide (rs.getD 0 0=rs.getD 1 0)) else if o=oNe then (1,decide (rs.getD 0 0=rs.getD 1 0))
 else (rs.getD 1 0,decide (rs.getD 0 0=1)&&decide (rs.getD 1 0=rs.getD 2 0))
mutual
def typR (vs:List Va):Ex→Int×Bool
 | .mk o t n ks=>match typL vs ks with
   | none=>(0,false)
   | some rs=>typH vs o t n rs
def typL (vs:List Va):List Ex→Option (List Int)
 | []=>some []
 | k::ks=>if (typR vs k).2 then (typL vs ks).map ((typR vs k).1::·) else none
end
structure U where
 name:ByteArray
 order:Int
 pre:Bool
 deriving DecidableEq
def encU (u:U):AV:=.agg [.val (.string u.name),.val (.int .i64 u.order),.val (.bool u.pre)]
def cmpS (a b:ByteArray):Int:=Lib.compareBytes a.data.toList b.data.toList
theorem J98 (a b:ByteArray):PureCall Tryz.prog 289 [encS a,encS b] (encI (cmpS a b)):=by
 refine PC [] Tryz.func289 rfl (by rfl) rfl ?_;refine kWS ?_;intros;refine CallP.ext _ (JGx a b) ?_;refine kWS ?_;intros;exact .of rfl
theorem JAz (a b:ByteArray):PureCall Tryz.prog 195 [encS a,encS b] (encI (cmpS a b)):=by
 refine PC [] Tryz.func195 rfl (by rfl) rfl ?_;refine kWS ?_;intros;refine CallP.flat [] _ c289 (J98 a b) rfl ?_;refine kWS ?_;intros;exact .of rfl
def fitF (u:U):Bool:=nameF u.name&&decide (0≤u.order∧u.order≤6)&&(!u.pre||decide (u.order=0))
def JFt (s s':ByteArray) (n n':Int) (p p':Bool):Int:=match decide (s=s') with
 | false=>cmpS s s'
 | true=>match decide (p=p') with
   | false=>match p' with
     | true=>-1
     | false=>1
   | true=>n-n'
def J6N (a b:U):Int:=JFt a.name b.name a.order b.order a.pre b.pre
theorem J8n (s:ByteArray) (n:Int) (p:Bool):encU ⟨s,n,p⟩=.agg [.val (.string s),.val (.int .i64 n),.val (.bool p)]:=rfl
theorem JFM (u:U) (hs:u.name.size<2^35):PureCall Tryz.prog 81 [encU u] (encB (fitF u)):=by
 refine PC [] Tryz.func81 rfl (by rfl) rfl ?_;obtain ⟨s,n,p⟩:=u;obtain ⟨F,hF⟩:∃ F,(nameF s&&decide (0≤n∧n≤6)&&(!p||decide (n=0)))=F:=⟨_,rfl⟩;rw[show fitF ⟨s,n,p⟩=F from hF];simp only at hs;rw[J8n];refine kWO ?_;intros;refine CallP.flat [] (encB (nameF s)) c90 (J1V s (by omega)) rfl ?_;refine kWO ?_;intros;refine CondP.intro (fun h1=>?_) (fun h1=>?_)<;>refine kW ?_
 ·rw[h1,Bool.true_and] at hF;refine kO ?_;intros;refine CondP.dec (fun h2=>?_) (fun h2=>?_)<;>refine kW ?_
  ·refine kO ?_;intros;refine CondP.dec (fun h3=>?_) (fun h3=>?_)<;>refine kW ?_
   ·rw[decide_eq_true (by omega),Bool.true_and] at hF;refine kO ?_;intros;cases p
    ·refine kWO ?_;intros;exact .of (by rw[← hF];rfl)
    ·refine kWO ?_;intros;exact .of (by rw[← hF];simp;rfl)
   ·rw[decide_eq_false (by omega),Bool.false_and] at hF;refine kO ?_;intros;exact .of (by rw[← hF];rfl)
  ·rw[decide_eq_false (by omega),Bool.false_and] at hF;refine kO ?_;intros;exact .of (by rw[← hF];rfl)
 ·rw[h1,Bool.false_and,Bool.false_and] at hF;refine kO ?_;intros;exact .of (by rw[← hF];rfl)
theorem JDP (a b:U) (ha:0≤a.order∧a.order≤6) (hb:0≤b.order∧b.order≤6):PureCall Tryz.prog 116 [encU a,encU b] (encI (J6N a b)):=by
 refine PC [] Tryz.func116 rfl (by rfl) rfl ?_;obtain ⟨s,n,p⟩:=a;obtain ⟨s',n',p'⟩:=b;obtain ⟨F,hF⟩:∃ F,JFt s s' n n' p p'=F:=⟨_,rfl⟩;rw[show J6N ⟨s,n,p⟩ ⟨s',n',p'⟩=F from hF];unfold JFt at hF;simp only at ha hb;rw[J8n,J8n];refine kWO ?_;intros;refine CondP.dec (fun h1=>?_) (fun h1=>?_)<;>refine kW ?_
 ·rw[decide_eq_true h1] at hF;cases p<;>cases p'
  all_goals (refine kW ?_)
  all_goals (refine kS ?_;intros)
  all_goals exact .of (by rw[← hF];rfl)
 ·rw[decide_eq_false h1] at hF;refine kO ?_;intros;refine CallP.flat [] (encI (cmpS s s')) c195 (JAz s s') rfl ?_;refine kWO ?_;intros;exact .of (by rw[← hF];rfl)
def putU (A:List U) (u:U):List U:=if u∈A then A else A++[u]
mutual
def JHM:Ex→List U→List U
 | .mk o t n ks,A=>JGd ks (if o=oVar∨o=oPre then putU A ⟨t,n,decide (o=oPre)⟩ else A)
def JGd:List Ex→List U→List U
 | [],A=>A
 | k::ks,A=>JGd ks (JHM k A)
end
theorem JCC (u v:U):J0d T 54 (encU u) (encU v)=some (decide (u=v)):=by
 obtain ⟨a,b,c⟩:=u;obtain ⟨a',b',c'⟩:=v;show some ((a==a')&&((decide (b=b'))&&((c==c')&&true)))=_
 rw[J61]
 congr 1
 rw[Bool.eq_iff_iff];simp
inductive Vl where
 | num (q:Rat)
 | tr (b:Bool)
 deriving DecidableEq
def J25:Vl→AV
 | .num q=>J3l (encF q) false false
 | .tr b=>J3l nilQ b true
def Vl.type:Vl→Int
 | .num _=>0
 | .tr _=>1
def JDt:Vl→Vl→Bool
 | .num p,.num q=>decide (p=q)
 | .tr a,.tr b=>decide (a=b)
 | _,_=>false
structure Ev where
 time:Rat
 init:Bool
 vals:List (U×Vl)
def JH1 (e:Ev):AV:=.agg [encB (decide (e.time.num<0)),encW e.time.num.natAbs,encB (decide ((e.time.den:Int)<0)),encW (e.time.den:Int).natAbs,encB e.init,.mp (e.vals.map fun x=>encU x.1) (e.vals.map fun x=>J25 x.2)]
def JCY (e:Ev):AV:=.ep (JH1 e) 0
section
variable (x:AV) (l:List Vl) (a b:Vl) (p q:Rat) (c d:Bool) (e:Ev)
def divV (p q:Rat):Except Int Vl:=if q=0 then .error 12 else .ok (.num (p/q))
end
def JFK {β:Type} (l:List (U×β)) (u:U):Option β:=match l with
 | []=>none
 | x::r=>if u=x.1 then some x.2 else JFK r u
def JHN (ks:List (ByteArray×Va)) (n:ByteArray):Int:=match J17 ks n with
 | some v=>v.type
 | none=>0
def JH8 (ks:List (ByteArray×Va)) (ev:Ev) (u:U):Except Int Vl:=match JFK ev.vals u with
 | none=>.error 5
 | some v=>if v.type≠JHN ks u.name then .error 7 else .ok v
def JHb (o:ByteArray) (t:Bool):Option Nat:=if o=oIf then (if t then some 1 else some 2) else if decide (o=oAnd)=t then some 1 else none
def nilE:AV:=.agg [encS ⟨#[]⟩,encS ⟨#[]⟩,encI 0,.val (.slice none 0 0)]
def Vl.truth:Vl→Bool
 | .tr b=>b
 | .num _=>false
def numV (t:ByteArray):Rat:=match (J0D t.data.toList).1 with
 | some (n,d)=>Rat.divInt n d
 | none=>0
def wayF (ev:Ev) (o:ByteArray) (vs:List Vl):Except Int Vl:=
 if o=oTrue then .ok (.tr true) else if o=oFalse then .ok (.tr false) else if o=oTime then .ok (.num ev.time) else if o=oInit then .ok (.tr ev.init) else match vs with
 | [.num p]=>.ok (.num (-p))
 | [.tr c]=>.ok (.tr (!c))
 | [.num p,.num q]=>
   if o=oSample then .ok (.tr (JHd (ev.time-p) q)) else if o=oAdd then .ok (.num (p+q)) else if o=oSub then .ok (.num (p-q)) else if o=oMul then .ok (.num (p*q)) else if o=oDiv then divV p q
   else if o=oLess then .ok (.tr (decide (p<q))) else if o=oAtMost then .ok (.tr (decide (p≤q))) else if o=oMore then .ok (.tr (decide (q<p))) else if o=oAtLeast then .ok (.tr (decide (q≤p)))
   else if o=oEq then .ok (.tr (JDt (.num p) (.num q))) else .ok (.tr (!JDt (.num p) (.num q)))
 | [.tr a,.tr b]=>if o=oEq then .ok (.tr (JDt (.tr a) (.tr b))) else .ok (.tr (!JDt (.tr a) (.tr b)))
 | _=>.error 0
def seqR:List (Except Int Vl)→Except Int (List Vl)
 | []=>.ok []
 | .error c::_=>.error c
 | .ok v::r=>match seqR r with
   | .ok l=>.ok (v::l)
   | .error c=>.error c
def JHi (ks:List (ByteArray×Va)) (ev:Ev) (o t:ByteArray) (n:Int) (rs:List (Except Int Vl)):Except Int Vl:=
 if o=oNum then .ok (.num (numV t))
 else if o=oVar∨o=oPre then JH8 ks ev ⟨t,n,decide (o=oPre)⟩
 else if o=oIf∨o=oAnd∨o=oOr then match rs.getD 0 (.error 0) with
  | .error c=>.error c
  | .ok v=>match JHb o v.truth with
    | some i=>rs.getD i (.error 0)
    | none=>.ok v
 else match seqR rs with
  | .error c=>.error c
  | .ok vs=>wayF ev o vs
mutual
def JHj (ks:List (ByteArray×Va)) (ev:Ev):Ex→Except Int Vl
 | .mk o t n es=>JHi ks ev o t n (JGy ks ev es)
def JGy (ks:List (ByteArray×Va)) (ev:Ev):List Ex→List (Except Int Vl)
 | []=>[]
 | e::es=>JHj ks ev e::JGy ks ev es
end
mutual
def wtF:Ex→Nat
 | .mk _ _ _ es=>wtL es+1
def wtL:List Ex→Nat
 | []=>0
 | e::es=>wtF e+wtL es
end
theorem J5R (e:Ex):wtF e=wtL e.kids+1:=by cases e;rfl
theorem JBO:∀ {es:List Ex} {k:Ex},k∈es→wtF k≤wtL es
 | e::es,k,h=>by
   unfold wtL
   rcases List.mem_cons.1 h with rfl | h
   ·omega
   ·have:=JBO h;omega
theorem JBN {e k:Ex} (h:k∈e.kids):wtF k<wtF e:=by rw[J5R e];have:=JBO h;omega
theorem J9d {f:Ex→Int→Int} (hf:∀ k l,f k l<0∨f k l≤l-wtF k):∀ (ks:List Ex) (l:Int),J2o f ks l<0∨J2o f ks l≤l-wtL ks
 | [],l=>by right;unfold J2o wtL;omega
 | k :: ks,l=>by
   unfold J2o wtL;split
   ·left;omega
   ·have:=hf k l;have:=J9d hf ks (f k l);omega
theorem J9Y:∀ (d:Nat) (e:Ex) (l:Int),measF d e l<0∨measF d e l≤l-wtF e
 | 0,e,l=>by left;unfold measF;omega
 | d + 1,e,l=>by
   rw[J5R];unfold measF;split
   ·left;omega
   ·have:=J9d (J9Y d) e.kids (l-1);omega
theorem JGW (z:Int):zl z≤nd z:=by
 unfold zl nd;refine J15 hB9 ?_;have h1:z.natAbs<10 ^ (decT z.natAbs).length:=Go.Fw.decT_lt z.natAbs;exact Nat.lt_of_lt_of_le h1 (Nat.pow_le_pow_left (by decide) _)
theorem JE0 {l:List UInt8} (h:(J0D l).2=true):∃ n d:Int,(J0D l).1=some (n,d)∧0<d∧n.natAbs.gcd d.natAbs=1∧nd n≤300∧nd d≤300:=by
 unfold J0D at *;split at h
 ·cases h
 ·rename_i n hn;split at h
  ·exact ⟨n,1,rfl,by decide,by simp,of_decide_eq_true h,JHm⟩
  ·split at h
   ·cases h
   ·rename_i d hd;split at h
    ·cases h
    ·rename_i h1;simp only[Bool.and_eq_true,decide_eq_true_eq] at h;refine ⟨n,d,by simp only[if_neg h1],by omega,h.2,h.1.1,h.1.2⟩
theorem JC4 {t:ByteArray} (h:(J0D t.data.toList).2=true):encF (numV t)=qAV (J0D t.data.toList).1∧szq (numV t)≤300:=by
 obtain ⟨n,d,h1,h2,h3,h4,h5⟩:=JE0 h;unfold numV;rw[h1];refine ⟨?_,?_⟩
 ·show encF (Rat.divInt n d)=encQ n d
  rw[JET n d h2,h3];simp
 ·show szq (Rat.divInt n d)≤300
  have:=JAE n d (by omega);have:=JGW n;have:=JGW d;omega
theorem JFL {l:List (Int×Bool)} {t:Bool} (h:l.any (fun r=>!r.2||(decide (r.1=1) != t))=false):∀ r∈l,r.2=true∧decide (r.1=1)=t:=by
 intro r hr;have:=(List.any_eq_false.1 h) r hr;simp only[Bool.or_eq_true,Bool.not_eq_true',bne_iff_ne,not_or,Bool.not_eq_false,ne_eq,Classical.not_not] at this;exact this
theorem J7z {β:Type} {s:ByteArray} {b:β}:∀ {l:List (ByteArray×β)},J17 l s=some b→(s,b)∈l
 | [],h=>by cases h
 | x::l,h=>by
   unfold J17 at h;split at h
   ·rename_i e;cases h;subst e;exact List.mem_cons_self
   ·exact List.mem_cons_of_mem _ (J7z h)
theorem len2 {α:Type} {l:List α} (h:(l.length:Int)=2):∃ a b,l=[a,b]:=by
 match l,h with
 | [a,b],_=>exact ⟨a,b,rfl⟩
 | [],h=>simp at h
 | [_],h=>simp at h
 | _::_::_::_,h=>simp at h;omega
theorem len1 {α:Type} {l:List α} (h:(l.length:Int)=1):∃ a,l=[a]:=by
 match l,h with
 | [a],_=>exact ⟨a,rfl⟩
 | [],h=>simp at h
 | _::_::_,h=>simp at h;omega
theorem JGp {α:Type} {l:List α} (h:(l.length:Int)=3):∃ a b c,l=[a,b,c]:=by
 match l,h with
 | [a,b,c],_=>exact ⟨a,b,c,rfl⟩
 | [],h=>simp at h
 | [_],h=>simp at h
 | [_,_],h=>simp at h
 | _::_::_::_::_,h=>simp at h;omega
theorem JBf {o:ByteArray} {x:Int×Bool×Bool} (h:J17 shp o=some x):(o=oNum)∨((o=oAnd∨o=oOr)∧x=(2,true,true))∨(o=oTime∧x=(0,false,false))∨((o=oTrue∨o=oFalse∨o=oInit)∧x=(0,false,true)) ∨
  (o=oNeg∧x=(1,false,false))∨(o=oNot∧x=(1,true,true))∨(o=oSample∧x=(2,false,true))∨((o=oAdd∨o=oSub∨o=oMul∨o=oDiv)∧x=(2,false,false))∨((o=oLess∨o=oAtMost∨o=oMore∨o=oAtLeast)∧x=(2,false,true)):=by
 have:=J7z h;simp only[shp,List.mem_cons,Prod.mk.injEq,List.not_mem_nil,or_false] at this
 rcases this with ⟨rfl,rfl,rfl,rfl⟩ | ⟨rfl,rfl,rfl,rfl⟩ | ⟨rfl,rfl,rfl,rfl⟩ | ⟨rfl,rfl,rfl,rfl⟩ | ⟨rfl,rfl,rfl,rfl⟩ | ⟨rfl,rfl,rfl,rfl⟩ | ⟨rfl,rfl,rfl,rfl⟩ | ⟨rfl,rfl,rfl,rfl⟩ | ⟨rfl,rfl,rfl,rfl⟩ | ⟨rfl,rfl,rfl,rfl⟩ | ⟨rfl,rfl,rfl,rfl⟩ | ⟨rfl,rfl,rfl,rfl⟩ | ⟨rfl,rfl,rfl,rfl⟩ | ⟨rfl,rfl,rfl,rfl⟩ | ⟨rfl,rfl,rfl,rfl⟩ | ⟨rfl,rfl,rfl,rfl⟩ | ⟨rfl,rfl,rfl,rfl⟩ | ⟨rfl,rfl,rfl,rfl⟩
 all_goals simp
theorem JAB {ks:List (ByteArray×Va)} {e:Ex} (hb:builtF e=true) (ht:(typeF ks e).2=true):∀ k∈e.kids,(typeF ks k).2=true:=by
 have hl:=(J0m hb).1;rw[J2h] at ht;unfold J6A at ht;intro k hk;split at ht
 ·rename_i h;rw[show J0z e.op=0 by unfold J0z;rw[if_pos h]] at hl;have hnil:e.kids=[]:=List.eq_nil_of_length_eq_zero (by omega);rw[hnil] at hk;cases hk
 ·rename_i h0;split at ht
  ·rename_i h;rw[show J0z e.op=2 by unfold J0z;rw[if_neg h0,if_pos h]] at hl;obtain ⟨a,b,he⟩:=len2 hl;rw[he] at hk ht;have ht:((typeF ks a).2&&(typeF ks b).2&&decide ((typeF ks a).1=(typeF ks b).1))=true:=ht;simp only[Bool.and_eq_true] at ht;simp only[List.mem_cons,List.not_mem_nil,or_false] at hk
   rcases hk with rfl | rfl
   ·exact ht.1.1
   ·exact ht.1.2
  ·rename_i h1;split at ht
   ·rename_i h;rw[show J0z e.op=3 by unfold J0z;rw[if_neg h0,if_neg h1,if_pos h]] at hl;obtain ⟨a,b,c,he⟩:=JGp hl;rw[he] at hk ht;have ht:((typeF ks a).2&&((typeF ks b).2&&(typeF ks c).2&&decide ((typeF ks b).1=(typeF ks c).1))&&decide ((typeF ks a).1=1))=true:=ht;simp only[Bool.and_eq_true] at ht;simp only[List.mem_cons,List.not_mem_nil,or_false] at hk
    rcases hk with rfl | rfl | rfl
    ·exact ht.1.1
    ·exact ht.1.2.1.1
    ·exact ht.1.2.1.2
   ·split at ht
    ·cases ht
    ·rename_i h;have h:=Bool.eq_false_iff.2 h;exact (JFL h _ (List.mem_map.2 ⟨k,hk,rfl⟩)).1
inductive Shape (ks:List (ByteArray×Va)) (e:Ex):Prop where
 | num (h:e.op=oNum) (hk:e.kids=[]) (ht:(typeF ks e).1=0)
 | ref (h:e.op=oVar∨e.op=oPre) (hk:e.kids=[]) (v:Va) (hv:J17 ks e.text=some v) (ht:(typeF ks e).1=v.type)
 | ite (h:e.op=oIf) (a b c:Ex) (hk:e.kids=[a,b,c]) (ha:(typeF ks a).1=1) (hb:(typeF ks b).1=(typeF ks e).1) (hc:(typeF ks c).1=(typeF ks e).1)
 | bin (h:e.op=oAnd∨e.op=oOr) (a b:Ex) (hk:e.kids=[a,b]) (ha:(typeF ks a).1=1) (hb:(typeF ks b).1=1) (ht:(typeF ks e).1=1)
 | eq (h:e.op=oEq∨e.op=oNe) (a b:Ex) (hk:e.kids=[a,b]) (hab:(typeF ks a).1=(typeF ks b).1) (ht:(typeF ks e).1=1)
 | time (h:e.op=oTime) (hk:e.kids=[]) (ht:(typeF ks e).1=0)
 | const (h:e.op=oTrue∨e.op=oFalse∨e.op=oInit) (hk:e.kids=[]) (ht:(typeF ks e).1=1)
 | neg (h:e.op=oNeg) (a:Ex) (hk:e.kids=[a]) (ha:(typeF ks a).1≠1) (ht:(typeF ks e).1=0)
 | not (h:e.op=oNot) (a:Ex) (hk:e.kids=[a]) (ha:(typeF ks a).1=1) (ht:(typeF ks e).1=1)
 | sample (h:e.op=oSample) (a b:Ex) (hk:e.kids=[a,b]) (ha:a.op=oNum) (hb:b.op=oNum) (h0:b.text≠⟨#[48]⟩) (ht:(typeF ks e).1=1)
 | arith (h:e.op=oAdd∨e.op=oSub∨e.op=oMul∨e.op=oDiv) (a b:Ex) (hk:e.kids=[a,b]) (ha:(typeF ks a).1≠1) (hb:(typeF ks b).1≠1) (ht:(typeF ks e).1=0)
 | comp (h:e.op=oLess∨e.op=oAtMost∨e.op=oMore∨e.op=oAtLeast) (a b:Ex) (hk:e.kids=[a,b]) (ha:(typeF ks a).1≠1) (hb:(typeF ks b).1≠1) (ht:(typeF ks e).1=1)
theorem nil0 {α:Type} {l:List α} (h:(l.length:Int)=0):l=[]:=List.eq_nil_of_length_eq_zero (by omega)
theorem JDs {ks:List (ByteArray×Va)} {e:Ex} (hb:builtF e=true) (ht:(typeF ks e).2=true):Shape ks e:=by
 have hl:=(J0m hb).1
 have hsm:J3i e.op e.kids (e.kids.map builtF)=false:=by
  rw[J2B] at hb;simp only[Bool.and_eq_true,Bool.not_eq_true'] at hb;exact hb.1.2
 have htt:=J2h ks e;rw[htt] at ht;unfold J6A at ht htt;split at ht
 ·rename_i h;rw[if_pos h] at htt;rw[show J0z e.op=0 by unfold J0z;rw[if_pos h]] at hl
  cases ha:J17 ks e.text with
  | none=>rw[ha] at ht;cases ht
  | some v=>
    rw[ha] at htt;exact .ref h (nil0 hl) v ha (by rw[htt])
 ·rename_i h0;rw[if_neg h0] at htt;split at ht
  ·rename_i h;rw[if_pos h] at htt;rw[show J0z e.op=2 by unfold J0z;rw[if_neg h0,if_pos h]] at hl;obtain ⟨a,b,he⟩:=len2 hl;rw[he] at ht;have ht:((typeF ks a).2&&(typeF ks b).2&&decide ((typeF ks a).1=(typeF ks b).1))=true:=ht;simp only[Bool.and_eq_true,decide_eq_true_eq] at ht;exact .eq h a b he ht.2 (by rw[htt])
  ·rename_i h1;rw[if_neg h1] at htt;split at ht
   ·rename_i h;rw[if_pos h] at htt;rw[show J0z e.op=3 by unfold J0z;rw[if_neg h0,if_neg h1,if_pos h]] at hl;obtain ⟨a,b,c,he⟩:=JGp hl;rw[he] at ht htt;have ht:((typeF ks a).2&&((typeF ks b).2&&(typeF ks c).2&&decide ((typeF ks b).1=(typeF ks c).1))&&decide ((typeF ks a).1=1))=true:=ht;simp only[Bool.and_eq_true,decide_eq_true_eq] at ht;have h5:(typeF ks e).1=(typeF ks b).1:=by rw[htt];rfl
    exact .ite h a b c he ht.2 h5.symm (by rw[h5];exact ht.1.2.2.symm)
   ·rename_i h2;rw[if_neg h2] at htt;split at ht
    ·cases ht
    ·rename_i h3;rw[if_neg h3] at htt;have h3:=JFL (Bool.eq_false_iff.2 h3)
     have hkk:J0z e.op=match J17 shp e.op with | none=>-1 | some x=>x.1:=by unfold J0z;rw[if_neg h0,if_neg h1,if_neg h2];try rfl
     cases hs:J17 shp e.op with
     | none=>rw[hs] at hkk;rw[hkk] at hl;simp only at hl;omega
     | some x=>
       rw[hs] at hkk;have hx:shpD e.op=x:=by unfold shpD;rw[hs]
       rw[hx] at h3 htt;replace hkk:(e.kids.length:Int)=x.1:=by rw[hl,hkk]
       have ht1:(typeF ks e).1=if x.2.2 then 1 else 0:=by rw[htt]
       have hkt:∀ k∈e.kids,decide ((typeF ks k).1=1)=x.2.1:=fun k hk=>(h3 _ (List.mem_map.2 ⟨k,hk,rfl⟩)).2
       rcases JBf hs with h | ⟨h,rfl⟩ | ⟨h,rfl⟩ | ⟨h,rfl⟩ | ⟨h,rfl⟩ | ⟨h,rfl⟩ | ⟨h,rfl⟩ | ⟨h,rfl⟩ | ⟨h,rfl⟩
       ·have hn:x=(0,false,false):=by
         rw[h] at hs;exact (Option.some.inj (hs.symm.trans (by rfl:J17 shp oNum=some (0,false,false))))
        subst hn;exact .num h (nil0 hkk) ht1
       ·obtain ⟨a,b,he⟩:=len2 hkk;rw[he] at hkt;exact .bin h a b he (of_decide_eq_true (hkt a (by simp))) (of_decide_eq_true (hkt b (by simp))) ht1
       ·exact .time h (nil0 hkk) ht1
       ·exact .const h (nil0 hkk) ht1
       ·obtain ⟨a,he⟩:=len1 hkk;rw[he] at hkt;exact .neg h a he (of_decide_eq_false (hkt a (by simp))) ht1
       ·obtain ⟨a,he⟩:=len1 hkk;rw[he] at hkt;exact .not h a he (of_decide_eq_true (hkt a (by simp))) ht1
       ·obtain ⟨a,b,he⟩:=len2 hkk;rw[he] at hkt hsm;unfold J3i at hsm;rw[decide_eq_true h,Bool.true_and] at hsm;simp only[List.map_cons,Bool.or_eq_false_iff,Bool.not_eq_false',decide_eq_true_eq,decide_eq_false_iff_not] at hsm;exact .sample h a b he hsm.1.1.1.1 hsm.1.1.1.2 hsm.2 ht1
       ·obtain ⟨a,b,he⟩:=len2 hkk;rw[he] at hkt;exact .arith h a b he (of_decide_eq_false (hkt a (by simp))) (of_decide_eq_false (hkt b (by simp))) ht1
       ·obtain ⟨a,b,he⟩:=len2 hkk;rw[he] at hkt;exact .comp h a b he (of_decide_eq_false (hkt a (by simp))) (of_decide_eq_false (hkt b (by simp))) ht1
def ErrC (c:Int):Prop:=c=5∨c=7∨c=12
theorem ErrC.ne {c:Int} (h:ErrC c):¬ c=0:=by rcases h with rfl | rfl | rfl<;>decide
theorem J69:∀ es:List Ex,es.length≤wtL es
 | []=>Nat.zero_le _
 | e::es=>by
   unfold wtL;have:=J69 es;have:=J5R e;simp only[List.length_cons];omega
theorem JDn {S:List Nat} {H:Hp} {n b g k e m:Nat} {y:AV} (hS:b∈S) (hb:H b=some (g,⟨e,m,[y]⟩)):J07 S H (n+1) (.op b g 0 k)=.ep (J0R (J07 S H n) y) k:=by
 simp only[J07,if_pos hS,hb,true_and];rfl
structure Bd where
 use:U
 value:ByteArray
structure EnvA where
 time:ByteArray
 init:Bool
 binds:List Bd
def JG9 (b:Bd):AV:=.agg [.val (.string b.use.name),.val (.int .i64 b.use.order),.val (.bool b.use.pre),encS b.value]
def J2w (e:EnvA):AV:=.agg [encS e.time,encB e.init,.sl 4 (e.binds.map JG9)]
def valV (s:ByteArray):Option Vl:=if s=sTrue∨s=sFalse then some (.tr (decide (s=sTrue))) else if (J0D s.data.toList).2 then some (.num (numV s)) else none
theorem JBu {s:ByteArray} {v:Vl} (h:valV s=some v):resV s=.tup [J25 v,encB true]:=by
 unfold valV at h;unfold resV;split at h
 ·rename_i h1;cases h;rw[if_pos h1];rfl
 ·rename_i h1;rw[if_neg h1];split at h
  ·rename_i h2;cases h;rw[h2,← (JC4 h2).1];rfl
  ·cases h
theorem JBv {s:ByteArray} (h:valV s=none):∃ q,(q=nilQ∨∃ n d,q=encQ n d)∧resV s=.tup [J3l q false false,encB false]:=by
 unfold valV at h;unfold resV;split at h
 ·cases h
 ·rename_i h1;rw[if_neg h1];split at h
  ·cases h
  ·rename_i h2;exact ⟨_,J1T _,by rw[Bool.eq_false_iff.2 h2]⟩
def putV {β:Type} (l:List (U×β)) (k:U) (v:β):List (U×β):=match l with
 | []=>[(k,v)]
 | x::r=>if k=x.1 then (x.1,v)::r else x::putV r k v
theorem J4P {β:Type} (f:β→AV) (k:U) (v:β):∀ l:List (U×β),∃ r,J0u (J0d T 54 (encU k)) (l.map fun x=>encU x.1)=some r∧(match r with
  | some i=>(l.map fun x=>encU x.1)=((putV l k v).map fun x=>encU x.1)∧(l.map fun x=>f x.2).set i (f v)=(putV l k v).map fun x=>f x.2
  | none=>(l.map fun x=>encU x.1)++[encU k]=((putV l k v).map fun x=>encU x.1)∧(l.map fun x=>f x.2)++[f v]=(putV l k v).map fun x=>f x.2)
 | []=>⟨none,rfl,rfl,rfl⟩
 | x :: l=>by
   obtain ⟨r,h1,h2⟩:=J4P f k v l;rw[List.map_cons,List.map_cons];unfold J0u putV;rw[JCC]
   by_cases h:k=x.1
   ·rw[decide_eq_true h,if_pos h];exact ⟨some 0,rfl,rfl,rfl⟩
   ·rw[decide_eq_false h,if_neg h,h1];refine ⟨r.map (· + 1),rfl,?_⟩
    revert h2
    cases r with
    | none=>
      rintro ⟨h2,h3⟩;exact ⟨by rw[List.map_cons,← h2];rfl,by rw[List.map_cons,← h3];rfl⟩
    | some i=>
      rintro ⟨h2,h3⟩;exact ⟨by rw[List.map_cons,← h2],by rw[List.map_cons,← h3];rfl⟩
def J3P:Option U→U→Bool
 | none,_=>false
 | some q,u=>decide (0≤J6N q u)
def J4R:Option U→List Bd→List (U×Vl)→Option (List (U×Vl))
 | _,[],l=>some l
 | p,b::r,l=>match valV b.value with
   | none=>none
   | some v=>if !fitF b.use||J3P p b.use then none else J4R (some b.use) r (putV l b.use v)
def openF (e:EnvA):Option Ev:=if (J0D e.time.data.toList).2 then (J4R none e.binds []).map fun l=>⟨numV e.time,e.init,l⟩ else none
def JDz (bs:List Bd) (i:Nat):Option U:=match i with
 | 0=>none
 | i+1=>bs[i]?.map Bd.use
def JG6:Option Ev→AV
 | some ev=>.tup [JCY ev,encB true]
 | none=>.tup [.val (.pointer none),encB false]
def hpO1 (g1 g2 gm:Nat) (e:EnvA) (t:Rat) (l:List (U×Vl)):List (Nat×Nat×Blk):=
 [(1,g1,⟨33,3,[J2w e]⟩),(15,g2,⟨269,6,[.agg [encB (decide (t.num<0)),encW t.num.natAbs,encB (decide ((t.den:Int)<0)),encW (t.den:Int).natAbs,encB e.init,.om 13 gm]]⟩),(13,gm,⟨267,0,[.mp (l.map fun x=>encU x.1) (l.map fun x=>J25 x.2)]⟩)]
theorem J4i {u:U} (h:fitF u=true):0≤u.order∧u.order≤6:=by
 unfold fitF at h;simp only[Bool.and_eq_true,decide_eq_true_eq] at h;exact h.1.2
theorem JDo {S:List Nat} {H:Hp} {n b g e m:Nat} {ks vs:List AV} (hS:b∈S) (hb:H b=some (g,⟨e,m,[.mp ks vs]⟩)):J07 S H (n+1) (.om b g)=.mp ks vs:=by
 simp only[J07,if_pos hS,hb,if_true]
structure SzB (e:EnvA):Prop where
 t:e.time.size<2^35
 l:e.binds.length≤2^30
 b:∀ b∈e.binds,b.use.name.size<2^35∧b.value.size<2^35
theorem JGO (e:EnvA) (hz:SzB e):PureCall Tryz.prog 141 [J2w e] (JG6 (openF e)):=by
 refine PC [15,13] Tryz.func141 rfl (by rfl) rfl ?_;obtain ⟨tm,ini,bs⟩:=e;obtain ⟨hzt,hzl,hzb⟩:=hz;simp only at hzt hzl hzb;generalize hF:openF ⟨tm,ini,bs⟩=F;unfold openF at hF;have hpq:=J2E tm.data.toList hzt;rw[J18,JBw] at hpq;simp only at hF
 cases hok:(J0D tm.data.toList).2 with
 | false=>
   rw[hok] at hF hpq;have hq2:=J1T (J0D tm.data.toList).1;generalize qAV (J0D tm.data.toList).1=q at *;unfold J2w
   rcases hq2 with rfl | ⟨n,d,rfl⟩
   all_goals
    refine kWS ?_;intros;refine J00 [] _ c134 hpq ?_;refine kWS ?_;intros;exact .of (by rw[← hF];rfl)
 | true=>
   rw[← (JC4 hok).1,hok] at hpq;rw[hok] at hF;generalize numV tm=t at *;replace hF:(J4R none bs []).map (fun l=>(⟨t,ini,l⟩:Ev))=F:=hF;unfold encF encQ at hpq;unfold J2w;refine kWS ?_;intros;refine J00 [] _ c134 hpq ?_;refine kWS ?_;intros
   refine LoopP.intro (fun j σ H=>∃ g1 g2 gm i,∃ l:List (U×Vl),j=bs.length-i∧i≤bs.length∧(∀ k (h:k<bs.length),k<i→fitF bs[k].use=true)∧(J4R (JDz bs i) (bs.drop i) l).map (fun l=>(⟨t,ini,l⟩:Ev))=F ∧
    σ=fr [(1,.op 1 g1 0 0),(4,.op 15 g2 0 0),(29,.sl 4 (bs.map JG9)),(30,encI bs.length),(31,encI i)]∧H=hp (hpO1 g1 g2 gm ⟨tm,ini,bs⟩ t l)) ?_ ?_
   ·exact .intro <| W.of ⟨_,_,_,_,0,[],rfl,Nat.zero_le _,fun k _ h=>absurd h (by omega),hF,rfl,rfl⟩ ⟨rfl,rfl,rfl,(by rw[List.length_map];rfl),rfl,trivial⟩ ⟨rfl,rfl,rfl,trivial⟩
   ·clear hF;rintro j σ H ⟨g1,g2,gm,i,l,rfl,hi,hfit,hF,rfl,rfl⟩;unfold hpO1;simp only
    rcases Nat.lt_or_ge i bs.length with h9 | h9
    ·rw[List.drop_eq_getElem_cons h9] at hF;have hb:=hzb _ (List.getElem_mem h9)
     have hprev:JDz bs (i+1)=some bs[i].use:=by
      show bs[i]?.map Bd.use=some _
      rw[List.getElem?_eq_getElem h9];rfl
     have hfx:∀ k (h:k<bs.length),k<i+1→fitF bs[i].use=true→fitF bs[k].use=true:=by
      intro k h hk hc
      rcases Nat.lt_or_ge k i with h | h
      ·exact hfit k _ h
      ·obtain rfl:k=i:=by omega
       exact hc
     obtain ⟨b,hbb⟩:∃ b,bs[i]=b:=⟨_,rfl⟩;rw[hbb] at hF hb hprev hfx;have hV:=J8A b.value hb.2;have hFit:=JFM b.use hb.1;unfold J4R at hF
     cases hv:valV b.value with
     | none=>
       rw[hv] at hF;obtain ⟨q,hq,he⟩:=JBv hv;rw[he] at hV
       rcases hq with rfl | ⟨n,d,rfl⟩
       all_goals
        refine kWQ ?_;intros;simp only[hbb];refine kQ ?_;intros;refine J00 [] _ c112 hV ?_;refine kWQ ?_;intros;exact .of (by rw[← hF];rfl)
     | some v=>
       rw[hv] at hF;rw[JBu hv] at hV;replace hF:(if !fitF b.use||J3P (JDz bs i) b.use then none else J4R (some b.use) (bs.drop (i+1)) (putV l b.use v)).map (fun l=>(⟨t,ini,l⟩:Ev))=F:=hF;have hb64:bs.length<2^62:=by omega
       rcases i with _ | i
       ·rcases v with q | x
        ·unfold J25 J3l encF encQ at hV;refine kWQ ?_;intros;simp only[hbb];refine kQ ?_;intros;refine J00 [] _ c112 hV ?_;refine kWQ ?_;intros;refine CallG.intro _ c81 hFit ?_
         cases hf:fitF b.use with
         | false=>
           rw[hf] at hF;refine kWQ ?_;intros;exact .of (by rw[← hF];rfl)
         | true=>
           rw[hf] at hF;replace hF:(J4R (some b.use) (bs.drop (0+1)) (putV l b.use (.num q))).map (fun l=>(⟨t,ini,l⟩:Ev))=F:=hF;refine kWO ?_;intros;refine J1D [(7,false),(8,true)] (by kernel_rfl) ?_;refine kWQ ?_;intros;refine Need.intro keyst54 ?_;refine kWQ ?_;intros;obtain ⟨r,hr,hm⟩:=J4P J25 b.use (.num q) l;refine LookP.intro r hr ?_
           cases r with
           | some j=>
             refine kWQ ?_;intros
             refine .intro <| W.of ⟨_,by omega,g1,g2,gm,0+1,putV l b.use (.num q),rfl,h9,fun k h hk=>hfx k h hk hf,(by rw[hprev];exact hF),rfl,rfl⟩ ⟨rfl,rfl,rfl,rfl,rfl,trivial⟩ ⟨rfl,rfl,?_,trivial⟩
             exact congrArg (fun z=>some (gm,(⟨267,0,[z]⟩:Blk))) (congr (congrArg AV.mp hm.1) hm.2)
           | none=>
             refine kWQ ?_;intros
             refine .intro <| W.of ⟨_,by omega,g1,g2,gm,0+1,putV l b.use (.num q),rfl,h9,fun k h hk=>hfx k h hk hf,(by rw[hprev];exact hF),rfl,rfl⟩ ⟨rfl,rfl,rfl,rfl,rfl,trivial⟩ ⟨rfl,rfl,?_,trivial⟩
             exact congrArg (fun z=>some (gm,(⟨267,0,[z]⟩:Blk))) (congr (congrArg AV.mp hm.1) hm.2)
        ·unfold J25 J3l at hV;refine kWQ ?_;intros;simp only[hbb];refine kQ ?_;intros;refine J00 [] _ c112 hV ?_;refine kWQ ?_;intros;refine CallG.intro _ c81 hFit ?_
         cases hf:fitF b.use with
         | false=>
           rw[hf] at hF;refine kWQ ?_;intros;exact .of (by rw[← hF];rfl)
         | true=>
           rw[hf] at hF;replace hF:(J4R (some b.use) (bs.drop (0+1)) (putV l b.use (.tr x))).map (fun l=>(⟨t,ini,l⟩:Ev))=F:=hF;refine kWO ?_;intros;refine J1D [(7,false),(8,true)] (by kernel_rfl) ?_;refine kWQ ?_;intros;refine Need.intro keyst54 ?_;refine kWQ ?_;intros;obtain ⟨r,hr,hm⟩:=J4P J25 b.use (.tr x) l;refine LookP.intro r hr ?_
           cases r with
           | some j=>
             refine kWQ ?_;intros
             refine .intro <| W.of ⟨_,by omega,g1,g2,gm,0+1,putV l b.use (.tr x),rfl,h9,fun k h hk=>hfx k h hk hf,(by rw[hprev];exact hF),rfl,rfl⟩ ⟨rfl,rfl,rfl,rfl,rfl,trivial⟩ ⟨rfl,rfl,?_,trivial⟩
             exact congrArg (fun z=>some (gm,(⟨267,0,[z]⟩:Blk))) (congr (congrArg AV.mp hm.1) hm.2)
           | none=>
             refine kWQ ?_;intros
             refine .intro <| W.of ⟨_,by omega,g1,g2,gm,0+1,putV l b.use (.tr x),rfl,h9,fun k h hk=>hfx k h hk hf,(by rw[hprev];exact hF),rfl,rfl⟩ ⟨rfl,rfl,rfl,rfl,rfl,trivial⟩ ⟨rfl,rfl,?_,trivial⟩
             exact congrArg (fun z=>some (gm,(⟨267,0,[z]⟩:Blk))) (congr (congrArg AV.mp hm.1) hm.2)
       ·have h8 : i<bs.length:=by omega
        have hpv:JDz bs (i+1)=some bs[i].use:=by
         show bs[i]?.map Bd.use=some _
         rw[List.getElem?_eq_getElem h8];rfl
        have hfp:=J4i (hfit i h8 (by omega));rw[hpv] at hF;have hix:(((i+1:Nat):Int)-1).toNat=i:=by omega
        obtain ⟨pb,hpb⟩:∃ pb,bs[i]=pb:=⟨_,rfl⟩;rw[hpb] at hF hpv hfp;have hL:=JDP pb.use b.use hfp
        rcases v with q | x
        ·unfold J25 J3l encF encQ at hV;refine kWQ ?_;intros;simp only[hbb];refine kQ ?_;intros;refine J00 [] _ c112 hV ?_;refine kWQ ?_;intros;refine CallG.intro _ c81 hFit ?_
         cases hf:fitF b.use with
         | false=>
           rw[hf] at hF;refine kWQ ?_;intros;exact .of (by rw[← hF];rfl)
         | true=>
           rw[hf] at hF;have hL:=hL (J4i hf);refine kWQ ?_;intros;simp only[hix,hpb];refine CallG.intro _ c116 hL ?_
           cases hge:J3P (some pb.use) b.use with
           | true=>
             rw[hge] at hF;have hle:0≤J6N pb.use b.use:=of_decide_eq_true hge;refine kWQ ?_;intros;exact .of (by rw[← hF];rfl)
           | false=>
             rw[hge] at hF;have hle:¬ 0≤J6N pb.use b.use:=of_decide_eq_false hge;replace hF:(J4R (some b.use) (bs.drop (i+1+1)) (putV l b.use (.num q))).map (fun l=>(⟨t,ini,l⟩:Ev))=F:=hF;refine kWO ?_;intros;refine J1D [(7,false),(8,true)] (by kernel_rfl) ?_;refine kWQ ?_;intros;refine Need.intro keyst54 ?_;refine kWQ ?_;intros;obtain ⟨r,hr,hm⟩:=J4P J25 b.use (.num q) l;refine LookP.intro r hr ?_
             cases r with
             | some j=>
               refine kWQ ?_;intros
               refine .intro <| W.of ⟨_,by omega,g1,g2,gm,i+1+1,putV l b.use (.num q),rfl,h9,fun k h hk=>hfx k h hk hf,(by rw[hprev];exact hF),rfl,rfl⟩ ⟨rfl,rfl,rfl,rfl,rfl,trivial⟩ ⟨rfl,rfl,?_,trivial⟩
               exact congrArg (fun z=>some (gm,(⟨267,0,[z]⟩:Blk))) (congr (congrArg AV.mp hm.1) hm.2)
             | none=>
               refine kWQ ?_;intros
               refine .intro <| W.of ⟨_,by omega,g1,g2,gm,i+1+1,putV l b.use (.num q),rfl,h9,fun k h hk=>hfx k h hk hf,(by rw[hprev];exact hF),rfl,rfl⟩ ⟨rfl,rfl,rfl,rfl,rfl,trivial⟩ ⟨rfl,rfl,?_,trivial⟩
               exact congrArg (fun z=>some (gm,(⟨267,0,[z]⟩:Blk))) (congr (congrArg AV.mp hm.1) hm.2)
        ·unfold J25 J3l at hV;refine kWQ ?_;intros;simp only[hbb];refine kQ ?_;intros;refine J00 [] _ c112 hV ?_;refine kWQ ?_;intros;refine CallG.intro _ c81 hFit ?_
         cases hf:fitF b.use with
         | false=>
           rw[hf] at hF;refine kWQ ?_;intros;exact .of (by rw[← hF];rfl)
         | true=>
           rw[hf] at hF;have hL:=hL (J4i hf);refine kWQ ?_;intros;simp only[hix,hpb];refine CallG.intro _ c116 hL ?_
           cases hge:J3P (some pb.use) b.use with
           | true=>
             rw[hge] at hF;have hle:0≤J6N pb.use b.use:=of_decide_eq_true hge;refine kWQ ?_;intros;exact .of (by rw[← hF];rfl)
           | false=>
             rw[hge] at hF;have hle:¬ 0≤J6N pb.use b.use:=of_decide_eq_false hge;replace hF:(J4R (some b.use) (bs.drop (i+1+1)) (putV l b.use (.tr x))).map (fun l=>(⟨t,ini,l⟩:Ev))=F:=hF;refine kWO ?_;intros;refine J1D [(7,false),(8,true)] (by kernel_rfl) ?_;refine kWQ ?_;intros;refine Need.intro keyst54 ?_;refine kWQ ?_;intros;obtain ⟨r,hr,hm⟩:=J4P J25 b.use (.tr x) l;refine LookP.intro r hr ?_
             cases r with
             | some j=>
               refine kWQ ?_;intros
               refine .intro <| W.of ⟨_,by omega,g1,g2,gm,i+1+1,putV l b.use (.tr x),rfl,h9,fun k h hk=>hfx k h hk hf,(by rw[hprev];exact hF),rfl,rfl⟩ ⟨rfl,rfl,rfl,rfl,rfl,trivial⟩ ⟨rfl,rfl,?_,trivial⟩
               exact congrArg (fun z=>some (gm,(⟨267,0,[z]⟩:Blk))) (congr (congrArg AV.mp hm.1) hm.2)
             | none=>
               refine kWQ ?_;intros
               refine .intro <| W.of ⟨_,by omega,g1,g2,gm,i+1+1,putV l b.use (.tr x),rfl,h9,fun k h hk=>hfx k h hk hf,(by rw[hprev];exact hF),rfl,rfl⟩ ⟨rfl,rfl,rfl,rfl,rfl,trivial⟩ ⟨rfl,rfl,?_,trivial⟩
               exact congrArg (fun z=>some (gm,(⟨267,0,[z]⟩:Blk))) (congr (congrArg AV.mp hm.1) hm.2)
    ·obtain rfl:i=bs.length:=by omega
     rw[List.drop_length] at hF;replace hF:some (⟨t,ini,l⟩:Ev)=F:=by rw[← hF];unfold J4R;rfl
     refine kWQ ?_;intros;refine .of ?_;rw[← hF];refine (congrArg (fun z=>AV.tup [z,encB true]) ((JDn (by simp) rfl).trans ?_));show AV.ep (.agg [_,_,_,_,_,J07 [15,13] _ 2 (.om 13 gm)]) 0=_
     rw[JDo (by simp) rfl];rfl
def JE3 (e:EnvA):Except Int Ev:=if 1000<e.binds.length then .error 2 else match openF e with
 | none=>.error 1
 | some ev=>.ok ev
def JH0:Except Int Ev→AV
 | .ok ev=>.tup [JCY ev,encI 0]
 | .error c=>.tup [.val (.pointer none),encI c]
theorem JEv (e:EnvA) (hz:SzB e):PureCall Tryz.prog 67 [J2w e] (JH0 (JE3 e)):=by
 refine PC [] Tryz.func67 rfl (by rfl) rfl ?_;have ho:=JGO e hz;have hl:=hz.l;generalize hF:JE3 e=F;unfold JE3 at hF;generalize openF e=oe at *;unfold J2w at *;have hml:=@List.length_map _ _ e.binds JG9;refine kWQ ?_;intros;refine CondP.dec (fun h1=>?_) (fun h1=>?_)<;>refine kW ?_
 ·rw[if_pos (by first | omega | (rw[List.length_map] at h1;omega))] at hF;refine kQ ?_;intros;exact .of (by rw[← hF];rfl)
 ·rw[if_neg (by first | omega | (rw[List.length_map] at h1;omega))] at hF;refine kQ ?_;intros;refine J00 [] _ c141 ho ?_
  cases oe with
  | none=>
    refine kWQ ?_;intros;exact .of (by rw[← hF];rfl)
  | some ev=>
    refine kWQ ?_;intros;exact .of (by rw[← hF];rfl)
def typeS (s:Sys) (x:Ex):Int×Int:=if checkF s≠0 then (0,checkF s) else if tooF x then (0,2) else if !builtF x then (0,1) else if (typeF (knownF s.vars) x).2 then ((typeF (knownF s.vars) x).1,0) else (0,1)
theorem JEs (s:Sys) (x:Ex) (hs:SzS s) (hz:SzE x) (hx:TxE x):PureCall Tryz.prog 48 [J0T s,encE x] (.tup [encI (typeS s x).1,encI (typeS s x).2]):=by
 refine PC [] Tryz.func48 rfl (by rfl) rfl ?_;have hc:=JEx s hs;have ht:=J2f x hz;have hb:=JA1 x hz hx;have hk:=J9c s hs.v;have hT:=JDI (knownF s.vars) x hz;generalize hF:typeS s x=F;unfold typeS at hF;generalize checkF s=ck at *;generalize tooF x=tl at *;generalize typeF (knownF s.vars) x=ty at *;generalize knownF s.vars=ks at *;obtain ⟨vs,qs,ns,ws⟩:=s;rw[J01] at *;unfold J0T at *;simp only at *;refine kWQ ?_;intros;refine CallP.flat [] _ c89 hc rfl ?_
 by_cases h0:ck=0
 case' neg=>
  rw[if_pos h0] at hF;refine kWQ ?_;intros;exact .of (by rw[← hF];rfl)
 rw[if_neg (by simp[h0])] at hF;refine kWQ ?_;intros;refine CallP.flat [] _ c83 ht rfl ?_
 cases tl with
 | true=>
   refine kWQ ?_;intros;exact .of (by rw[← hF];rfl)
 | false=>
   refine kWQ ?_;intros;refine CallP.flat [] _ c123 hb rfl ?_
   cases hbb:builtF x with
   | false=>
     rw[hbb] at hF;refine kWQ ?_;intros;exact .of (by rw[← hF];rfl)
   | true=>
     rw[hbb] at hF;have hT:=hT hbb;obtain ⟨t,b⟩:=ty;refine kWQ ?_;intros;refine CallG.intro _ c99 hk ?_;refine kWQ ?_;intros;refine CallG.intro _ c124 hT ?_
     cases b with
     | false=>
       refine kWQ ?_;intros;exact .of (by rw[← hF];rfl)
     | true=>
       refine kWQ ?_;intros;exact .of (by rw[← hF];rfl)
theorem J9F {s:Sys} {x:Ex} (h:(typeS s x).2=0):checkF s=0∧tooF x=false∧builtF x=true∧(typeF (knownF s.vars) x).2=true∧(typeS s x).1=(typeF (knownF s.vars) x).1:=by
 unfold typeS at *;split at h
 ·rename_i h1;exact absurd h h1
 ·rename_i h1;split at h
  ·cases h
  ·rename_i h2;split at h
   ·cases h
   ·rename_i h3;split at h
    ·rename_i h4;refine ⟨Classical.not_not.1 h1,Bool.eq_false_iff.2 h2,by simpa using h3,h4,?_⟩;rw[if_neg h1,if_neg h2,if_neg h3,if_pos h4]
    ·cases h
theorem JFb {x:Ex} (h:tooF x=false):wtF x≤200:=by
 unfold tooF at h;have h1:=of_decide_eq_false h;have:=J9Y 24 x 200;omega
structure G where
 eqs:List ByteArray
 uses:List U
 joined:List (List Int)
def J1r (l:List U):AV:=.sl 3 (l.map encU)
theorem J7P (s:Sys) (hv:s.vars.length≤2^60):PureCall Tryz.prog 68 [J0T s] (encK (knownF s.vars)):=by
 refine PC [6] Tryz.func68 rfl (by rfl) rfl ?_;obtain ⟨vs,qs,ns,ws⟩:=s;simp only at hv ⊢;generalize hF:knownF vs=F;unfold knownF at hF;unfold J0T;refine kWS ?_;intros
 refine LoopP.intro (fun k σ H=>∃ g i,∃ l:List (ByteArray×Va),k=vs.length-i∧i≤vs.length∧(vs.drop i).foldl (fun l v=>putK l v.name v) l=F ∧
  σ=fr [(2,.val (.map none)),(3,.om 6 g),(8,.sl 7 (vs.map encV)),(9,encI vs.length),(10,encI i)] ∧
  H=hp [(6,g,⟨109,0,[encK l]⟩)]) ?_ ?_
 ·refine .intro <| W.of ⟨_,_,0,[],rfl,Nat.zero_le _,hF,rfl,rfl⟩ ⟨rfl,rfl,rfl,?_,rfl,trivial⟩ ⟨rfl,trivial⟩
  show AV.val (.int .i64 _)=AV.val (.int .i64 _)
  rw[List.length_map]
 ·clear hF;rintro k σ H ⟨g,i,l,rfl,hi,hF,rfl,rfl⟩;refine kWS ?_;intros;refine CondP.dec (fun h=>?_) (fun h=>?_)<;>refine kW ?_
  ·have hi':i<vs.length:=by omega
   rw[List.drop_eq_getElem_cons hi',List.foldl_cons] at hF;refine kR ?_;intros;generalize vs[i]=v at hF ⊢;refine kR ?_;intros;refine Need.intro keyst9 ?_;refine kWR ?_;intros;obtain ⟨r,hr,hm⟩:=J8a encV v.name v l;refine LookP.intro r hr ?_
   cases r with
   | some j=>
     refine kWR ?_;intros
     refine .intro <| W.of ⟨_,by omega,_,i+1,putK l v.name v,rfl,hi',hF,rfl,rfl⟩ ⟨rfl,rfl,rfl,rfl,rfl,trivial⟩ ⟨?_,trivial⟩
     exact congrArg (fun z=>some (g,(⟨109,0,[z]⟩:Blk))) (congr (congrArg AV.mp hm.1) hm.2)
   | none=>
     refine kWR ?_;intros
     refine .intro <| W.of ⟨_,by omega,_,i+1,putK l v.name v,rfl,hi',hF,rfl,rfl⟩ ⟨rfl,rfl,rfl,rfl,rfl,trivial⟩ ⟨?_,trivial⟩
     exact congrArg (fun z=>some (g,(⟨109,0,[z]⟩:Blk))) (congr (congrArg AV.mp hm.1) hm.2)
  ·rw[List.drop_eq_nil_of_le (by omega)] at hF;refine kS ?_;intros;exact .of (by rw[← hF];rfl)
def unkB (ks:List (ByteArray×Va)) (p:Option U) (u:U):Bool:=(match J17 ks u.name with
    | some v=>decide (v.kind=0)
    | none=>false)&&(!u.pre&&(fitF u&&!J3P p u))
def unkL (ks:List (ByteArray×Va)):Option U→List U→Bool
 | _,[]=>true
 | p,u::r=>unkB ks p u&&unkL ks (some u) r
def unkF (ks:List (ByteArray×Va)) (l:List U):Bool:=unkL ks none l&&decide (l.length≤400)
def prvU (l:List U) (i:Nat):Option U:=match i with
 | 0=>none
 | i+1=>l[i]?
theorem J5h {u:U} (h:fitF u=true):0≤u.order∧u.order≤6:=by
 unfold fitF at h;simp only[Bool.and_eq_true,decide_eq_true_eq] at h;exact h.1.2
theorem JBS (ks:List (ByteArray×Va)) (p:Option U) (u:U) (r:List U):unkL ks p (u::r)=(unkB ks p u&&unkL ks (some u) r):=rfl
theorem J8R (ks:List (ByteArray×Va)) (l:List U) (hl:l.length≤2^60) (hz:∀ u∈l,u.name.size<2^35):PureCall Tryz.prog 135 [encK ks,J1r l] (encB (unkF ks l)):=by
 refine PC [] Tryz.func135 rfl (by rfl) rfl ?_;generalize hF:unkF ks l=F;unfold unkF at hF;unfold J1r;have hml:=@List.length_map _ _ l encU;refine kWQ ?_;intros
 refine LoopP.intro (fun k σ H=>∃ i,k=l.length-i∧i≤l.length∧(∀ j (h:j<l.length),j<i→fitF l[j]=true)∧(unkL ks (prvU l i) (l.drop i)&&decide (l.length≤400))=F ∧
   σ=fr [(0,encK ks),(1,.sl 3 (l.map encU)),(9,.sl 3 (l.map encU)),(10,encI l.length),(11,encI i)]∧H=hp []) ?_ ?_
 ·exact .intro (W.of ⟨_,0,rfl,Nat.zero_le _,fun j h h'=>absurd h' (by omega),hF,rfl,rfl⟩ ⟨rfl,rfl,rfl,by first | rfl | exact congrArg (fun n:Nat=>encI n) hml,rfl,trivial⟩ trivial)
 clear hF;rintro k σ H ⟨i,rfl,hi,hfit,hT,rfl,rfl⟩
 rcases Nat.lt_or_ge i l.length with h2 | h2
 ·rw[List.drop_eq_getElem_cons h2,JBS] at hT;have hbz:=hz _ (List.getElem_mem h2);have hnx:prvU l (i+1)=some l[i]:=List.getElem?_eq_getElem h2;obtain ⟨u,huu⟩:∃ u,l[i]=u:=⟨_,rfl⟩;rw[huu] at hT hbz hnx
  have hfx:∀ k (h:k<l.length),k<i+1→fitF u=true→fitF l[k]=true:=by
   intro k h hk hf
   rcases Nat.lt_or_ge k i with h' | h'
   ·exact hfit k h h'
   ·obtain rfl:k=i:=by omega
    rw[huu];exact hf
  have hFi:=JFM u hbz;obtain ⟨r2,hr2,hm2⟩:=J1M encV u.name ks;unfold unkB at hT;rw[← hnx] at hT;refine kWQ ?_;intros;simp only[huu,encU];refine kQ ?_;intros;refine Need.intro keyst9 ?_;refine kWQ ?_;intros;refine LookP.intro r2 hr2 ?_
  cases ha:J17 ks u.name with
  | none=>
    rw[ha] at hm2 hT
    cases r2 with
    | some i=>exact hm2.elim
    | none=>
      refine kWQ ?_;intros;exact .of (by rw[← hT];rfl)
  | some v=>
    rw[ha] at hm2 hT
    cases r2 with
    | none=>exact hm2.elim
    | some ii=>
      have hm2:(ks.map fun x=>encV x.2).getD ii .dead=encV v:=hm2;refine kW ?_;rw[hm2];obtain ⟨nm,kd,ty,vl,st,fx,un⟩:=v;simp only at hT
      by_cases k0:kd=0
      case' neg=>
       rw[decide_eq_false k0] at hT;refine kQ ?_;intros;exact .of (by rw[← hT];rfl)
      rw[decide_eq_true k0,Bool.true_and] at hT;obtain ⟨us,uo,up⟩:=u
      cases up with
      | true=>
        refine kQ ?_;intros;exact .of (by rw[← hT];rfl)
      | false=>
      rw[Bool.not_false,Bool.true_and] at hT;refine kQ ?_;intros;refine CallG.intro _ c81 hFi ?_
      cases hf:fitF ⟨us,uo,false⟩ with
      | false=>
        rw[hf] at hT;refine kWQ ?_;intros;exact .of (by rw[← hT];rfl)
      | true=>
      rw[hf,Bool.true_and] at hT;rw[hf] at hfx;have hfit2:=J5h hf
      rcases i with _ | k
      ·replace hT:(unkL ks (prvU l 1) (l.drop 1)&&decide (l.length≤400))=F:=hT;refine kWQ ?_;intros
       exact .intro <| W.of ⟨_,by omega,0+1,rfl,h2,fun k h hk=>hfx k h hk rfl,hT,rfl,rfl⟩ ⟨rfl,rfl,rfl,rfl,rfl,trivial⟩ trivial
      ·have h8:k<l.length:=by omega
       have hpv:prvU l (k+1)=some l[k]:=List.getElem?_eq_getElem h8;have hix:(((k+1:Nat):Int)-1).toNat=k:=by omega
       have hfp:=J5h (hfit k h8 (by omega));obtain ⟨pb,hpb⟩:∃ pb,l[k]=pb:=⟨_,rfl⟩;rw[hpb] at hpv hfp;have hL:=JDP pb ⟨us,uo,false⟩ hfp hfit2;rw[hpv] at hT;refine kWQ ?_;intros;simp only[hix,hpb];refine CallG.intro _ c116 hL ?_
       cases hge:J3P (some pb) ⟨us,uo,false⟩ with
       | true=>
         rw[hge] at hT;have hle:0≤J6N pb ⟨us,uo,false⟩:=of_decide_eq_true hge;refine kWQ ?_;intros;exact .of (by rw[← hT];rfl)
       | false=>
         rw[hge] at hT;have hle:¬ 0≤J6N pb ⟨us,uo,false⟩:=of_decide_eq_false hge;refine kWQ ?_;intros
         exact .intro <| W.of ⟨_,by omega,k+1+1,rfl,h2,fun k h hk=>hfx k h hk rfl,hT,rfl,rfl⟩ ⟨rfl,rfl,rfl,rfl,rfl,trivial⟩ trivial
 ·obtain rfl:i=l.length:=by omega
  rw[List.drop_eq_nil_of_le h2] at hT;refine kWQ ?_;intros;refine .of ?_;rw[← hT];show AV.val (.bool (decide _))=AV.val (.bool (true&&decide _))
  rw[Bool.true_and]
  congr 2
  exact decide_eq_decide.2 (by omega)
def numF (s:Sys) (x:Ex) (l:List U):Int:=if (typeS s x).2≠0 then (typeS s x).2 else if (typeS s x).1≠0 then 7 else if unkF (knownF s.vars) l=false then 1 else 0
theorem J1U (s:Sys) (hs:SzS s) (x:Ex) (hz:SzE x) (hx:TxE x) (l:List U) (hl:l.length≤2^60) (hn:∀ u∈l,u.name.size<2^35):PureCall Tryz.prog 63 [J0T s,encE x,J1r l] (encI (numF s x l)):=by
 refine PC [] Tryz.func63 rfl (by rfl) rfl ?_;have hT:=JEs s x hs hz hx;have hK:=J7P s hs.v;have hU:=J8R (knownF s.vars) l hl hn;generalize hF:numF s x l=F;unfold numF at hF;generalize unkF (knownF s.vars) l=uk at *;generalize typeS s x=ty at *;obtain ⟨t1,t2⟩:=ty;generalize knownF s.vars=ks at *;obtain ⟨vs,qs,ns,ws⟩:=s;rw[J01] at *;unfold J0T J1r at *;simp only at *;clear hs hz hx hl hn;refine kWQ ?_;intros;refine CallP.flat [] _ c48 hT rfl ?_
 by_cases h0:t2=0
 case' neg=>
  rw[if_pos h0] at hF;refine kWQ ?_;intros;exact .of (by rw[← hF];rfl)
 rw[if_neg (fun h=>h h0)] at hF
 by_cases h1:t1=0
 case' neg=>
  rw[if_pos h1] at hF;refine kWQ ?_;intros;exact .of (by rw[← hF];rfl)
 rw[if_neg (fun h=>h h1)] at hF;refine kWQ ?_;intros;refine J00 [] _ c68 hK ?_;refine kWQ ?_;intros;refine CallP.flat [] _ c135 hU rfl ?_
 cases uk with
 | false=>
   rw[if_pos rfl] at hF;refine kWQ ?_;intros;exact .of (by rw[← hF];rfl)
 | true=>
   rw[if_neg (by decide)] at hF;refine kWQ ?_;intros;exact .of (by rw[← hF];rfl)
end Go.Proofs.YtlblbldolhiokaaGreatDoor
namespace Go.Proofs
open Go.Shelf
def Tryz.lays156_ren:Go.Shelf.Ren:=⟨fun | 156=>212 | 165=>299 | 166=>283 | 169=>287 | 240=>331 | 241=>349 | 276=>368 | 277=>374 | n=>n,fun | 31=>39 | 9=>9 | 3=>3 | 4=>4 | 0=>0 | 20=>20 | 72=>314 | 76=>317 | 70=>312 | 37=>283 | 75=>316 | 127=>355 | 164=>391 | 5=>5 | 80=>128 | n=>n,fun | n=>n⟩
theorem J0o:Go.Proofs.Lays.n156 Tryz.prog Tryz.lays156_ren:={
 mixed:=by kernel_rfl
 f156:=Tryz.func212.trans (congrArg some (by kernel_rfl))
 f165:=Tryz.func299.trans (congrArg some (by kernel_rfl))
 f166:=Tryz.func283.trans (congrArg some (by kernel_rfl))
 f169:=Tryz.func287.trans (congrArg some (by kernel_rfl))
 f240:=Tryz.func331.trans (congrArg some (by kernel_rfl))
 f241:=Tryz.func349.trans (congrArg some (by kernel_rfl))
 f276:=Tryz.func368.trans (congrArg some (by kernel_rfl))
 f277:=Tryz.func374.trans (congrArg some (by kernel_rfl))
 t0:=Tryz.underlying0
 a0:=Tryz.isAgg0
 z0:=Tryz.sizeOf0
 v0:=Tryz.zeroValue0
 t3:=Tryz.underlying3
 a3:=Tryz.isAgg3
 z3:=Tryz.sizeOf3
 v3:=Tryz.zeroValue3
 t4:=Tryz.underlying4
 a4:=Tryz.isAgg4
 z4:=Tryz.sizeOf4
 v4:=Tryz.zeroValue4
 t9:=Tryz.underlying9
 a9:=Tryz.isAgg9
 z9:=Tryz.sizeOf9
 v9:=Tryz.zeroValue9
 t20:=Tryz.underlying20
 a20:=Tryz.isAgg20
 z20:=Tryz.sizeOf20
 v20:=Tryz.zeroValue20
 t31:=Tryz.underlying39
 a31:=Tryz.isAgg39
 z31:=Tryz.sizeOf39
 v31:=Tryz.zeroValue39
 t37:=Tryz.underlying283
 a37:=Tryz.isAgg283
 z37:=Tryz.sizeOf283
 v37:=Tryz.zeroValue283
 t70:=Tryz.underlying312
 a70:=Tryz.isAgg312
 z70:=Tryz.sizeOf312
 v70:=Tryz.zeroValue312
 t72:=Tryz.underlying314
 a72:=Tryz.isAgg314
 z72:=Tryz.sizeOf314
 v72:=Tryz.zeroValue314
 t75:=Tryz.underlying316
 a75:=Tryz.isAgg316
 z75:=Tryz.sizeOf316
 v75:=Tryz.zeroValue316
 t76:=Tryz.underlying317
 a76:=Tryz.isAgg317
 z76:=Tryz.sizeOf317
 v76:=Tryz.zeroValue317
 t127:=Tryz.underlying355
 a127:=Tryz.isAgg355
 z127:=Tryz.sizeOf355
 v127:=Tryz.zeroValue355
 t164:=Tryz.underlying391
 a164:=Tryz.isAgg391
 z164:=Tryz.sizeOf391
 v164:=Tryz.zeroValue391 }
theorem J0N:Builder.Extra Tryz.prog Tryz.lays156_ren:={
 sizeBuilder:=by kernel_rfl
 liesBuilder:=by kernel_rfl
 t5:=Tryz.underlying5
 a5:=Tryz.isAgg5
 z5:=Tryz.sizeOf5
 v5:=Tryz.zeroValue5
 infoByte:=by kernel_rfl
 cellsByte:=by kernel_rfl
 sizeByte:=by kernel_rfl
 neB5:=by decide }
def Tryz.lays105_ren:Go.Shelf.Ren:=⟨fun | 105=>211 | 212=>298 | 99=>201 | 165=>299 | 166=>283 | 170=>300 | 169=>287 | 263=>347 | 264=>348 | 206=>293 | 240=>331 | 241=>349 | 276=>368 | 277=>374 | n=>n,fun | 9=>9 | 3=>3 | 4=>4 | 20=>20 | 0=>0 | 46=>239 | 109=>326 | 5=>5 | 72=>314 | 76=>317 | 51=>285 | 146=>366 | 53=>274 | 148=>368 | 70=>312 | 37=>283 | 75=>316 | 127=>355 | 164=>391 | 80=>128 | n=>n,fun | n=>n⟩
theorem J85:Go.Proofs.Lays.n105 Tryz.prog Tryz.lays105_ren:={
 mixed:=by kernel_rfl
 f99:=Tryz.func201.trans (congrArg some (by kernel_rfl))
 f105:=Tryz.func211.trans (congrArg some (by kernel_rfl))
 f165:=Tryz.func299.trans (congrArg some (by kernel_rfl))
 f166:=Tryz.func283.trans (congrArg some (by kernel_rfl))
 f169:=Tryz.func287.trans (congrArg some (by kernel_rfl))
 f170:=Tryz.func300.trans (congrArg some (by kernel_rfl))
 f206:=Tryz.func293.trans (congrArg some (by kernel_rfl))
 f212:=Tryz.func298.trans (congrArg some (by kernel_rfl))
 f240:=Tryz.func331.trans (congrArg some (by kernel_rfl))
 f241:=Tryz.func349.trans (congrArg some (by kernel_rfl))
 f263:=Tryz.func347.trans (congrArg some (by kernel_rfl))
 f264:=Tryz.func348.trans (congrArg some (by kernel_rfl))
 f276:=Tryz.func368.trans (congrArg some (by kernel_rfl))
 f277:=Tryz.func374.trans (congrArg some (by kernel_rfl))
 t0:=Tryz.underlying0
 a0:=Tryz.isAgg0
 z0:=Tryz.sizeOf0
 v0:=Tryz.zeroValue0
 t3:=Tryz.underlying3
 a3:=Tryz.isAgg3
 z3:=Tryz.sizeOf3
 v3:=Tryz.zeroValue3
 t4:=Tryz.underlying4
 a4:=Tryz.isAgg4
 z4:=Tryz.sizeOf4
 v4:=Tryz.zeroValue4
 t5:=Tryz.underlying5
 a5:=Tryz.isAgg5
 z5:=Tryz.sizeOf5
 v5:=Tryz.zeroValue5
 t9:=Tryz.underlying9
 a9:=Tryz.isAgg9
 z9:=Tryz.sizeOf9
 v9:=Tryz.zeroValue9
 t20:=Tryz.underlying20
 a20:=Tryz.isAgg20
 z20:=Tryz.sizeOf20
 v20:=Tryz.zeroValue20
 t37:=Tryz.underlying283
 a37:=Tryz.isAgg283
 z37:=Tryz.sizeOf283
 v37:=Tryz.zeroValue283
 t46:=Tryz.underlying239
 a46:=Tryz.isAgg239
 z46:=Tryz.sizeOf239
 v46:=Tryz.zeroValue239
 t51:=Tryz.underlying285
 a51:=Tryz.isAgg285
 z51:=Tryz.sizeOf285
 v51:=Tryz.zeroValue285
 t53:=Tryz.underlying274
 a53:=Tryz.isAgg274
 z53:=Tryz.sizeOf274
 v53:=Tryz.zeroValue274
 t70:=Tryz.underlying312
 a70:=Tryz.isAgg312
 z70:=Tryz.sizeOf312
 v70:=Tryz.zeroValue312
 t72:=Tryz.underlying314
 a72:=Tryz.isAgg314
 z72:=Tryz.sizeOf314
 v72:=Tryz.zeroValue314
 t75:=Tryz.underlying316
 a75:=Tryz.isAgg316
 z75:=Tryz.sizeOf316
 v75:=Tryz.zeroValue316
 t76:=Tryz.underlying317
 a76:=Tryz.isAgg317
 z76:=Tryz.sizeOf317
 v76:=Tryz.zeroValue317
 t109:=Tryz.underlying326
 a109:=Tryz.isAgg326
 z109:=Tryz.sizeOf326
 v109:=Tryz.zeroValue326
 t127:=Tryz.underlying355
 a127:=Tryz.isAgg355
 z127:=Tryz.sizeOf355
 v127:=Tryz.zeroValue355
 t146:=Tryz.underlying366
 a146:=Tryz.isAgg366
 z146:=Tryz.sizeOf366
 v146:=Tryz.zeroValue366
 t148:=Tryz.underlying368
 a148:=Tryz.isAgg368
 z148:=Tryz.sizeOf368
 v148:=Tryz.zeroValue368
 t164:=Tryz.underlying391
 a164:=Tryz.isAgg391
 z164:=Tryz.sizeOf391
 v164:=Tryz.zeroValue391 }
theorem J1t:Builder.Extra Tryz.prog Tryz.lays105_ren:={
 sizeBuilder:=by kernel_rfl
 liesBuilder:=by kernel_rfl
 t5:=Tryz.underlying5
 a5:=Tryz.isAgg5
 z5:=Tryz.sizeOf5
 v5:=Tryz.zeroValue5
 infoByte:=by kernel_rfl
 cellsByte:=by kernel_rfl
 sizeByte:=by kernel_rfl
 neB5:=by decide }
end Go.Proofs
namespace Go.Proofs.YtlblbldolhiokaaGreatDoor
open Go Go.Fw Go.RowKit
def joinB (l:List ByteArray) (sep:ByteArray):ByteArray:=⟨(Lib.join (l.map (·.data.toList)) sep.data.toList).toArray⟩
def repB (s:ByteArray) (n:Nat):ByteArray:=⟨(Lib.repeatL s.data.toList n).toArray⟩
theorem JGR (l:List ByteArray) (sep:ByteArray) (hl:l.length≤2^40) (hs:(joinB l sep).size≤140737488355328):PureCall Tryz.prog 212 [.sl 1 (l.map encS),encS sep] (encS (joinB l sep)):=by
 intro O w vs hO hv;obtain ⟨hlen,hr⟩:=hv;obtain ⟨vl⟩:=vs
 rcases vl with _ | ⟨a,_ | ⟨b,_ | ⟨c,r⟩⟩⟩<;>simp at hlen
 have h0:=hr 0 (by simp) (by simp);have h1:=hr 1 (by simp) (by simp);simp only[List.getElem_cons_zero,List.getElem_cons_succ,List.getElem_toArray] at h0 h1;cases h1;have fin:∀ {e:Ending} {w':World},(e=.returned (.string (joinB l sep))∧Below w.heap.size w w')→∃ v,e=.returned v∧VR KM.empty w' O (encS (joinB l sep)) v∧Below w.heap.size w w':=fun ⟨he,hb⟩=>⟨_,he,.val _ rfl,hb⟩;generalize hL:l.map encS=L at h0
 cases h0 with
 | slnil n=>
   obtain rfl:l=[]:=List.map_eq_nil_iff.1 hL;exact (Any.strings_Join_none J0o J0N none 0 sep w).mono fun e w' ⟨he,hw⟩=>fin ⟨he,hw ▸ Below.refl _ _⟩
 | slemp n a=>
   obtain rfl:l=[]:=List.map_eq_nil_iff.1 hL;exact (Any.strings_Join_none J0o J0N (some a) 0 sep w).mono fun e w' ⟨he,hw⟩=>fin ⟨he,hw ▸ Below.refl _ _⟩
 | sl n xs c o cap f hcap hO' hblk hcl hcell hrel hpl=>
   subst hL;obtain ⟨A,e,z,hb,hs'⟩:=hblk
   have:=Any.strings_Join J0o J0N c o cap l sep w (fun j x hx=>by
    obtain ⟨hj,rfl⟩:=List.getElem?_eq_some_iff.1 hx;have h2:=hcell j (by simpa using hj) 0 Nat.one_pos;have h3:=hrel j (by simpa using hj) 0 (by simp[AV.cells,encS]);have e1:((l.map encS)[j]'(by simpa using hj)).cells[0]'(by simp[AV.cells,encS])=encS l[j]:=by simp[AV.cells,encS]
    rw[e1] at h3
    have h4:f j 0=.string l[j]:=by
     generalize f j 0=v at h3;cases h3;rfl
    rw[h4] at h2
    simpa using h2) (Array.getElem?_eq_some_iff.1 hb).1 (by omega) (by simpa using hcap) (by simpa [joinB,ByteArray.size] using hs)
   have hlm:(l.map encS).length=l.length:=List.length_map ..;rw[hlm];exact this.mono fun e w' h=>fin h
theorem JDL (s:ByteArray) (n:Nat) (hn:n≤2^62) (hs:s.size*n≤140737488355328):PureCall Tryz.prog 211 [encS s,encI n] (encS (repB s n)):=by
 intro O w vs hO hv;obtain ⟨hlen,hr⟩:=hv;obtain ⟨vl⟩:=vs
 rcases vl with _ | ⟨a,_ | ⟨b,_ | ⟨c,r⟩⟩⟩<;>simp at hlen
 have h0:=hr 0 (by simp) (by simp);have h1:=hr 1 (by simp) (by simp);simp only[List.getElem_cons_zero,List.getElem_cons_succ,List.getElem_toArray] at h0 h1;cases h0;cases h1;exact (Any.strings_Repeat J85 J1t s n w (by omega) hs).mono fun e w' ⟨he,hb⟩=>⟨_,he,.val _ rfl,hb⟩
end Go.Proofs.YtlblbldolhiokaaGreatDoor
namespace Go.Proofs.YtlblbldolhiokaaGreatDoor
open Go Go.Fw
def JDr (o t:ByteArray) (n:Int) (rs:List ByteArray):ByteArray:=
 if o=oNum then t
 else if o=oVar then (if n=0 then b1 64++t else b1 64++t++b1 58++repB (b1 39) n.toNat)
 else if o=oPre then ⟨#[112,114,101,64]⟩++t
 else match rs with
  | []=>o
  | r::l=>o++b1 40++joinB (r::l) (b1 59)++b1 41
mutual
def showF:Ex→ByteArray
 | .mk o t n es=>JDr o t n (JFg es)
def JFg:List Ex→List ByteArray
 | []=>[]
 | e::es=>showF e::JFg es
end
theorem J72:∀ es:List Ex,JFg es=es.map showF
 | []=>rfl
 | e::es=>by rw[List.map_cons,← J72 es];rfl
theorem J9L (e:Ex):showF e=JDr e.op e.text e.order (e.kids.map showF):=by
 cases e with
 | mk o t n es=>rw[← J72];rfl
theorem J0E (a b:ByteArray):(a++b).size=a.size+b.size:=ByteArray.size_append
theorem J7G (s:ByteArray) (n:Nat):(repB s n).size=s.size*n:=by
 show (Lib.repeatL s.data.toList n).toArray.size=_
 rw[List.size_toArray]
 have:∀ n,(Lib.repeatL s.data.toList n).length=s.data.toList.length*n:=by
  intro n
  induction n with
  | zero=>rfl
  | succ n ih=>unfold Lib.repeatL;rw[List.length_append,ih,Nat.mul_succ];omega
 rw[this n,Array.length_toList];rfl
theorem J3a (sep:List UInt8):∀ r:List (List UInt8),(Lib.joinTail sep r).length=(r.map fun x=>sep.length+x.length).sum
 | []=>rfl
 | x::r=>by
   have:=J3a sep r;unfold Lib.joinTail at *;simp only[List.map_cons,List.flatten_cons,List.length_append,List.sum_cons,this]
def szB (l:List ByteArray):Nat:=(l.map ByteArray.size).sum
theorem J5g (l:List ByteArray) (sep:ByteArray):(joinB l sep).size≤szB l+l.length*sep.size:=by
 show (Lib.join _ _).toArray.size≤_
 cases l with
 | nil=>simp[Lib.join_nil]
 | cons x r=>
   rw[List.map_cons,Lib.join_cons,List.size_toArray,List.length_append,J3a]
   have key:∀ r:List ByteArray,((r.map (·.data.toList)).map fun x=>sep.data.toList.length+x.length).sum≤szB r+r.length*sep.size:=by
    intro r
    induction r with
    | nil=>simp[szB]
    | cons y r ih=>
      unfold szB at *;simp only[List.map_cons,List.sum_cons,List.length_cons,Nat.succ_mul] at *;have e1:y.data.toList.length=y.size:=Array.length_toList;have e2:sep.data.toList.length=sep.size:=Array.length_toList;omega
   have:=key r;have e1:x.data.toList.length=x.size:=Array.length_toList;have e2:szB (x::r)=x.size+szB r:=rfl;rw[List.length_cons,Nat.succ_mul];omega
theorem JF8 {es:List Ex} {C:Nat} (h:∀ k∈es,(showF k).size+1≤C*wtF k):szB (es.map showF)+es.length≤C*wtL es:=by
 induction es with
 | nil=>simp[szB]
 | cons e es ih=>
   have a:=h e (by simp);have b:=ih fun k hk=>h k (by simp[hk]);unfold szB at *;simp only[List.map_cons,List.sum_cons,List.length_cons] at *;unfold wtL;rw[Nat.mul_add];omega
theorem JC1 {e:Ex} (hb:builtF e=true):e.op.size≤8:=by
 have hl:=(J0m hb).1;unfold J0z at hl;split at hl
 ·rename_i h;rcases h with h | h<;>rw[h]<;>decide
 ·split at hl
  ·rename_i h;rcases h with h | h<;>rw[h]<;>decide
  ·split at hl
   ·rename_i h;rw[h];decide
   ·split at hl
    ·omega
    ·rename_i x hx
     rcases JBf hx with h | ⟨h,_⟩ | ⟨h,_⟩ | ⟨h,_⟩ | ⟨h,_⟩ | ⟨h,_⟩ | ⟨h,_⟩ | ⟨h,_⟩ | ⟨h,_⟩
     ·rw[h];decide
     ·rcases h with h | h<;>rw[h]<;>decide
     ·rw[h];decide
     ·rcases h with h | h | h<;>rw[h]<;>decide
     ·rw[h];decide
     ·rw[h];decide
     ·rw[h];decide
     ·rcases h with h | h | h | h<;>rw[h]<;>decide
     ·rcases h with h | h | h | h<;>rw[h]<;>decide
theorem J6I {e:Ex} (hb:builtF e=true) (h:e.op=oVar):0≤e.order∧e.order≤6:=by
 have hx:textF e=true:=by rw[J2B] at hb;simp only[Bool.and_eq_true] at hb;exact hb.1.1.2
 unfold textF at hx;rw[if_neg (by rw[h];decide),if_pos h] at hx;simp only[Bool.and_eq_true,decide_eq_true_eq] at hx;exact ⟨hx.1.2,hx.2⟩
theorem J5W (e:Ex):builtF e=true→TxE e→(showF e).size+1≤(2^21+20)*wtF e:=by
 induction e using J2s with
 | h e ih=>
   intro hb hx;have ihk:=fun k hk=>ih k hk ((J0m hb).2 k hk) (hx.kid k hk);have ht:=hx.low;have ho:=JC1 hb;have hw:=J5R e;have hl:=J69 e.kids;rw[J9L];unfold JDr;have hsum:=JF8 ihk;have e0:2^21+20≤(2^21+20)*wtF e:=Nat.le_mul_of_pos_right _ (by omega);split
   ·omega
   ·split
    ·rename_i h1;have:=J6I hb h1;split
     ·rw[J0E];show 1+_+1≤_;omega
     ·rw[J0E,J0E,J0E,J7G];show 1+_+1+1*_+1≤_;omega
    ·split
     ·rw[J0E];show 4+_+1≤_;omega
     ·split
      ·omega
      ·rename_i r l hrl;have:=J5g (r::l) (b1 59);rw[J0E,J0E,J0E];have e1:(r::l).length=e.kids.length:=by rw[← hrl,List.length_map]
       rw[← hrl] at this ⊢;rw[List.length_map] at this;show _+1+_+1+1≤_
       have e3:(b1 59).size=1:=rfl;rw[e3] at this;have e4:(2^21+20)*wtF e=(2^21+20)*wtL e.kids+(2^21+20):=by rw[hw,Nat.mul_succ]
       omega
theorem JHa {b p e n:Nat} {H:Hp} {out:List ByteArray} (hb:H b=some (p,⟨e,1,out.map encS⟩)) (hn:n=out.length):snap [b] H (.own b p 0 n)=.sl 1 (out.map encS):=by
 rw[J3r (by simp) hb (by simp[hn]),J1Q _ _ _ _ hn fun _=>rfl]
theorem JBg (e:Ex):SzE e→TxE e→builtF e=true→wtF e≤1000→PureCall Tryz.prog 128 [encE e] (encS (showF e)):=by
 induction e using J2s with
 | h e ih=>
   intro hz hx hb hw;have ihk:=fun k hk=>ih k hk (hz.kid k hk) (hx.kid k hk) ((J0m hb).2 k hk) (by have:=JBN hk;omega);have hwt:wtL e.kids≤1000:=by have:=J5R e;omega
   have hlen:e.kids.length≤1000:=Nat.le_trans (J69 _) hwt;have hsum:szB (e.kids.map showF)+e.kids.length≤(2^21+20)*1000:=Nat.le_trans (JF8 fun k hk=>J5W k ((J0m hb).2 k hk) (hx.kid k hk)) (Nat.mul_le_mul_left _ hwt);have hord:=J6I hb;have htx:=hx.tx;have hos:=JC1 hb;clear ih;refine PC [] Tryz.func128 rfl (by rfl) rfl ?_;generalize hF:showF e=F;rw[J9L] at hF;rw[J01];clear hz hx hb hw hwt;have z1:({ data:=#[64] }:ByteArray).size=1:=rfl;have z2:({ data:=#[112,114,101,64] }:ByteArray).size=4:=rfl;have z3:({ data:=#[58] }:ByteArray).size=1:=rfl;have z4:({ data:=#[40] }:ByteArray).size=1:=rfl;have z5:({ data:=#[41] }:ByteArray).size=1:=rfl;obtain ⟨o,t,od,es⟩:=e;simp only[Ex.op,Ex.text,Ex.order,Ex.kids] at *;unfold JDr at hF
   by_cases h1:o=oNum
   ·rw[if_pos h1] at hF;(refine kWS ?_;repeat intro γ);exact .of (by rw[← hF];rfl)
   rw[if_neg h1] at hF
   by_cases h2:o=oVar
   ·rw[if_pos h2] at hF
    by_cases h3:od=0
    ·rw[if_pos h3] at hF;(refine kWS ?_;repeat intro γ);exact .of (by rw[← hF];rfl)
    ·rw[if_neg h3] at hF;obtain ⟨ho1,ho2⟩:=hord h2;have hR:=JDL (b1 39) od.toNat (by omega) (by show 1*_≤_;omega);rw[show ((od.toNat:Nat):Int)=od by omega] at hR;have y1:=J0E { data:=#[64] } t;have y2:=J0E ({ data:=#[64] }++t) { data:=#[58] };have y3:=J7G (b1 39) od.toNat;have y4:(b1 39).size=1:=rfl;rw[y4] at y3;generalize repB (b1 39) od.toNat=rb at *;(refine kWS ?_;repeat intro γ);refine CallG.intro _ c211 hR ?_;(refine kWS ?_;repeat intro γ);exact .of (by rw[← hF];rfl)
   rw[if_neg h2] at hF
   by_cases h3:o=oPre
   ·rw[if_pos h3] at hF;(refine kWS ?_;repeat intro γ);exact .of (by rw[← hF];rfl)
   rw[if_neg h3] at hF;have hml:=@List.length_map _ _ es encE
   by_cases h4:es=[]
   ·subst h4;(refine kWS ?_;repeat intro γ);exact .of (by rw[← hF];rfl)
   have h5:¬ es.length=0:=fun h=>h4 (List.eq_nil_of_length_eq_zero h)
   replace hF:o++b1 40++joinB (es.map showF) (b1 59)++b1 41=F:=by
    rw[← hF]
    cases es with
    | nil=>exact absurd rfl h4
    | cons k r=>rfl
   (refine kWQ ?_;repeat intro γ)
   refine LoopP.intro (fun j σ H=>∃ g1 gl i,∃ l:List ByteArray,j=es.length-i∧i≤es.length∧l=(es.take i).map showF ∧
    σ=fr [(1,.op 1 g1 0 0),(3,.own 50 gl 0 l.length),(40,.sl 4 (es.map encE)),(41,encI es.length),(42,encI i)] ∧
    H=hp [(1,g1,⟨29,4,[.agg [encS o,encS t,encI od,.sl 4 (es.map encE)]]⟩),(50,gl,⟨9,1,l.map encS⟩)]) ?_ ?_
   ·exact .intro (JAv 3 50 9 1 rfl rfl fun gl=>W.of ⟨_,_,gl,0,[],rfl,Nat.zero_le _,rfl,rfl,rfl⟩ ⟨rfl,rfl,rfl,(by first | rfl | (rw[List.length_map];rfl)),rfl,trivial⟩ ⟨rfl,rfl,trivial⟩)
   ·rintro j σ H ⟨g1,gl,i,l,rfl,hi,rfl,rfl,rfl⟩;have hll:((es.take i).map showF).length=i:=by rw[List.length_map,List.length_take];omega
    rcases Nat.lt_or_ge i es.length with h9 | h9
    ·have hk:=ihk _ (List.getElem_mem h9);have htk:(es.take (i+1)).map showF=(es.take i).map showF++[showF es[i]]:=by rw[List.take_succ_eq_append_getElem h9,List.map_append];rfl
     obtain ⟨k,hkk⟩:∃ k,es[i]=k:=⟨_,rfl⟩;rw[hkk] at hk htk;rw[J01] at hk;generalize hL:(es.take i).map showF=l at *;have hml:=@List.length_map _ _ l encS;(refine kWQ ?_;repeat intro γ);simp only[hkk,J01];(refine kQ ?_;repeat intro γ);refine CallP.flat [] _ c128 hk rfl ?_;(refine kWQ ?_;repeat intro γ)
     refine .intro <| W.of ⟨_,by omega,g1,γ,i+1,l++[showF k],rfl,h9,htk.symm,rfl,rfl⟩ ⟨rfl,?_,rfl,rfl,rfl,trivial⟩ ⟨rfl,?_,trivial⟩
     ·exact congrArg (AV.own 50 _ 0) (by simp)
     ·rw[List.map_append];rfl
    ·obtain rfl:i=es.length:=by omega
     rw[List.take_length] at *;have hj:=J5g (es.map showF) (b1 59)
     have hJ:=JGR (es.map showF) (b1 59) (by rw[List.length_map];omega) (by
      refine Nat.le_trans hj ?_;rw[List.length_map];show szB _+es.length*1≤_
      omega)
     have x1:(joinB (es.map showF) (b1 59)).size≤2^46:=by
      refine Nat.le_trans hj ?_;rw[List.length_map];show szB _+es.length*1≤_
      omega
     have hls:(es.map showF).length=es.length:=List.length_map ..;generalize joinB (es.map showF) (b1 59)=jb at *;have y1:=J0E o { data:=#[40] };have y2:=J0E (o++{ data:=#[40] }) jb;have y3:=J0E (o++{ data:=#[40] }++jb) { data:=#[41] };(refine kWQ ?_;repeat intro γ);refine CallG.flat _ c212 (J03 (congrArg (fun z=>[z,encS (b1 59)]) (JHa rfl hls.symm)) hJ) rfl ?_;(refine kWQ ?_;repeat intro γ);exact .of (by rw[← hF];rfl)
end Go.Proofs.YtlblbldolhiokaaGreatDoor
