/- Part 50 of the proof. -/
import Derived.Test.YtlblbldolhiokaaGreatDoorNeed49
set_option linter.unusedVariables false
set_option linter.unusedSimpArgs false
set_option linter.unusedSectionVars false
set_option maxRecDepth 100000
set_option exponentiation.threshold 400
set_option maxHeartbeats 8000000
namespace Go.Proofs.YtlblbldolhiokaaGreatDoor
open Go Go.Fw
inductive Ex where
 | mk (op text:ByteArray) (order:Int) (kids:List Ex)
def Ex.op:Ex→ByteArray | .mk o _ _ _=>o
def Ex.text:Ex→ByteArray | .mk _ t _ _=>t
def Ex.order:Ex→Int | .mk _ _ n _=>n
def Ex.kids:Ex→List Ex | .mk _ _ _ ks=>ks
mutual
def encE:Ex→AV
 | .mk o t n ks=>.agg [encS o,encS t,encI n,.sl 4 (JJa ks)]
def JJa:List Ex→List AV
 | []=>[]
 | k::ks=>encE k::JJa ks
end
theorem J9M:∀ ks:List Ex,JJa ks=ks.map encE
 | []=>rfl
 | k::ks=>by rw[List.map_cons,← J9M ks];rfl
theorem JJb (o t:ByteArray) (n:Int) (ks:List Ex):encE (.mk o t n ks)=.agg [encS o,encS t,encI n,.sl 4 (ks.map encE)]:=by rw[← J9M];rfl
theorem J02 (e:Ex):encE e=.agg [encS e.op,encS e.text,encI e.order,.sl 4 (e.kids.map encE)]:=by cases e;exact JJb ..
inductive SzE:Ex→Prop where
 | mk {o t:ByteArray} {n:Int} {ks:List Ex} (ho:o.size≤2^60) (ht:t.size≤2^60) (hk:ks.length≤2^60) (h:∀ k∈ks,SzE k):SzE (.mk o t n ks)
theorem SzE.kid {e:Ex} (h:SzE e):∀ k∈e.kids,SzE k:=by cases h;assumption
theorem SzE.len {e:Ex} (h:SzE e):e.kids.length≤2^60:=by cases h;assumption
theorem SzE.tx {e:Ex} (h:SzE e):e.text.size≤2^60:=by cases h;assumption
theorem SzE.os {e:Ex} (h:SzE e):e.op.size≤2^60:=by cases h;assumption
def J2E (f:Ex→Int→Int):List Ex→Int→Int
 | [],l=>l
 | k::ks,l=>if f k l<0 then -1 else J2E f ks (f k l)
def measF:Nat→Ex→Int→Int
 | 0,_,_=>-1
 | d+1,e,l=>if l-1<0 then -1 else J2E (measF d) e.kids (l-1)
theorem JBj {f:Ex→Int→Int} (hf:∀ k l,f k l<0∨f k l≤l):∀ (ks:List Ex) (l:Int),J2E f ks l<0∨J2E f ks l≤l
 | [],l=>.inr (Int.le_refl _)
 | k :: ks,l=>by
   unfold J2E;split
   ·left;omega
   ·have:=hf k l;have:=JBj hf ks (f k l);omega
theorem J4n:∀ (d:Nat) (e:Ex) (l:Int),measF d e l<0∨measF d e l≤l
 | 0,e,l=>by left;unfold measF;omega
 | d + 1,e,l=>by
   unfold measF;split
   ·left;omega
   ·have:=JBj (J4n d) e.kids (l-1);omega
theorem JBk {f:Ex→Int→Int} (hf:∀ k l,0≤l→-1≤f k l):∀ (ks:List Ex) (l:Int),0≤l→-1≤J2E f ks l
 | [],l,h=>by unfold J2E;omega
 | k::ks,l,h=>by
   unfold J2E;have:=hf k l h;split
   ·omega
   ·exact JBk hf ks _ (by omega)
theorem J7y:∀ (d:Nat) (e:Ex) (l:Int),0≤l→-1≤measF d e l
 | 0,e,l,h=>by unfold measF;omega
 | d+1,e,l,h=>by
   unfold measF;split
   ·omega
   ·exact JBk (J7y d) _ _ (by omega)
theorem J4I:∀ (d:Nat) (e:Ex) (l:Int),d≤1000→SzE e→0≤l→l≤1000→PureCall Tryz.prog 169 [encE e,encI d,encI l] (encI (measF d e l))
 | 0,e,l,hd,he,h0,h1=>by
   refine PC [] Tryz.func169 rfl (by rfl) rfl ?_;rw[J02];refine kWS ?_;intros;exact .of rfl
 | d + 1,e,l,hd,he,h0,h1=>by
   refine PC [] Tryz.func169 rfl (by rfl) rfl ?_;have ih:=J4I d;have hle:=J4n d;have hk:=he.len;generalize hF:measF (d+1) e l=F;unfold measF at hF;rw[J02];refine kWS ?_;intros;refine CondP.dec (fun h=>?_) (fun h=>?_)<;>refine kW ?_
   ·rw[if_pos h] at hF;refine kS ?_;intros;exact .of (by rw[← hF];rfl)
   ·rw[if_neg h] at hF;refine kS ?_;intros
    refine LoopP.intro (fun m σ H=>∃ i,∃ l':Int,m=e.kids.length-i∧i≤e.kids.length∧0≤l'∧l'≤1000∧J2E (measF d) (e.kids.drop i) l'=F ∧
     σ=fr [(1,encI ((d+1:Nat):Int)),(2,encI l'),(18,.sl 4 (e.kids.map encE)),(19,encI e.kids.length),(20,encI i)]∧H=hp []) ?_ ?_
    ·refine .intro <| W.of ⟨_,0,l-1,rfl,Nat.zero_le _,by omega,by omega,hF,rfl,rfl⟩ ⟨rfl,rfl,rfl,?_,rfl,trivial⟩ trivial
     show AV.val (.int .i64 _)=AV.val (.int .i64 _)
     rw[List.length_map]
    ·clear hF h h0 h1;rintro m σ H ⟨i,l',rfl,hi,h0,h1,hF,rfl,rfl⟩;refine kWS ?_;intros;refine CondP.dec (fun h=>?_) (fun h=>?_)<;>refine kW ?_
     ·have hi':i<e.kids.length:=by omega
      rw[List.drop_eq_getElem_cons hi'] at hF;unfold J2E at hF;have hm:=hle e.kids[i] l';have hs:=he.kid _ (List.getElem_mem hi');refine kR ?_;intros;generalize e.kids[i]=k at hF hm hs ⊢;rw[J02];refine kR ?_;intros;simp only[show ((d+1:Nat):Int)-1=(d:Int) by omega];have hi2:=ih k l' (by omega) hs h0 h1;rw[J02 k] at hi2;refine J00 [] _ c169 hi2 ?_;generalize measF d k l'=r at hF hm;refine kWS ?_;intros;refine CondP.dec (fun h=>?_) (fun h=>?_)<;>refine kW ?_
      ·rw[if_pos h] at hF;refine kS ?_;intros;exact .of (by rw[← hF];rfl)
      ·rw[if_neg h] at hF;refine kS ?_;intros
       exact .intro <| W.of ⟨_,by omega,i+1,r,rfl,hi',by omega,by omega,hF,rfl,rfl⟩ ⟨rfl,rfl,rfl,rfl,rfl,trivial⟩ trivial
     ·rw[List.drop_eq_nil_of_le (by omega)] at hF;refine kS ?_;intros;exact .of (by rw[← hF];rfl)
def tooF (e:Ex):Bool:=decide (measF 24 e 200<0)
def sizeF (e:Ex):Int:=200-measF 24 e 200
theorem J3I (e:Ex) (he:SzE e):PureCall Tryz.prog 83 [encE e] (encB (tooF e)):=by
 refine PC [] Tryz.func83 rfl (by rfl) rfl ?_;have hm:=J4I 24 e 200 (by omega) he (by omega) (by omega);rw[J02] at hm ⊢;refine kWS ?_;intros;refine CallP.flat [] _ c169 hm rfl ?_;refine kWS ?_;intros;exact .of rfl
theorem JJu (e:Ex) (he:SzE e):PureCall Tryz.prog 248 [encE e] (encI (sizeF e)):=by
 refine PC [] Tryz.func248 rfl (by rfl) rfl ?_;have hm:=J4I 24 e 200 (by omega) he (by omega) (by omega);have hle:=J4n 24 e 200;have hge:=J7y 24 e 200 (by omega);unfold sizeF;rw[J02] at hm ⊢;refine kWS ?_;intros;refine CallP.flat [] _ c169 hm rfl ?_;generalize measF 24 e 200=r at *;refine kWS ?_;intros;exact .of rfl
def shp:List (ByteArray×Int×Bool×Bool):=[
 (⟨#[110,117,109]⟩,0,false,false),(⟨#[116,105,109,101]⟩,0,false,false),(⟨#[110,101,103]⟩,1,false,false),
 (⟨#[116,114,117,101]⟩,0,false,true),(⟨#[102,97,108,115,101]⟩,0,false,true),(⟨#[105,110,105,116,105,97,108]⟩,0,false,true),
 (⟨#[97,100,100]⟩,2,false,false),(⟨#[115,117,98]⟩,2,false,false),(⟨#[109,117,108]⟩,2,false,false),(⟨#[100,105,118]⟩,2,false,false),
 (⟨#[108,101,115,115]⟩,2,false,true),(⟨#[97,116,109,111,115,116]⟩,2,false,true),(⟨#[109,111,114,101]⟩,2,false,true),(⟨#[97,116,108,101,97,115,116]⟩,2,false,true),
 (⟨#[97,110,100]⟩,2,true,true),(⟨#[111,114]⟩,2,true,true),(⟨#[110,111,116]⟩,1,true,true),(⟨#[115,97,109,112,108,101]⟩,2,false,true)]
def J6e (x:Int×Bool×Bool):AV:=.agg [encI x.1,encB x.2.1,encB x.2.2]
def shpM:AV:=.mp (shp.map fun x=>encS x.1) (shp.map fun x=>J6e x.2)
theorem shapes_ok:PureCall Tryz.prog 205 [] shpM:=by
 exact J1E J8U (fuel:=60) (n:=5) (by kernel_rfl)
def J1H {β:Type} (l:List (ByteArray×β)) (s:ByteArray):Option β:=match l with
 | []=>none
 | x::r=>if s=x.1 then some x.2 else J1H r s
theorem J7W (s y:ByteArray):(s==y)=decide (s=y):=by
 rw[Bool.eq_iff_iff]
 cases s with | mk a=>cases y with | mk b=>
 show (a==b)=true↔_
 simp
theorem J5s (s y:ByteArray):J0e T 9 (encS s) (encS y)=some (decide (s=y)):=by
 show some (s==y)=_
 rw[J7W]
theorem J1f {β:Type} (f:β→AV) (s:ByteArray):∀ l:List (ByteArray×β),∃ r,J0i (J0e T 9 (encS s)) (l.map fun x=>encS x.1)=some r∧match r,J1H l s with
  | none,none=>True
  | some i,some b=>(l.map fun x=>f x.2).getD i .dead=f b
  | _,_=>False
 | []=>⟨none,rfl,trivial⟩
 | x :: l=>by
   obtain ⟨r,h1,h2⟩:=J1f f s l;rw[List.map_cons];unfold J0i J1H;rw[J5s]
   by_cases h:s=x.1
   ·rw[decide_eq_true h,if_pos h];exact ⟨some 0,rfl,rfl⟩
   ·rw[decide_eq_false h,if_neg h,h1];refine ⟨r.map (· + 1),rfl,?_⟩
    revert h2
    cases r<;>cases J1H l s<;>intro h2<;>first | trivial | exact h2
abbrev oVar:ByteArray:=⟨#[118,97,114]⟩
abbrev oPre:ByteArray:=⟨#[112,114,101]⟩
abbrev oEq:ByteArray:=⟨#[101,113,117,97,108]⟩
abbrev oNe:ByteArray:=⟨#[117,110,101,113,117,97,108]⟩
abbrev oIf:ByteArray:=⟨#[105,102]⟩
abbrev oNum:ByteArray:=⟨#[110,117,109]⟩
abbrev oSample:ByteArray:=⟨#[115,97,109,112,108,101]⟩
def J1K (o:ByteArray):Int:=if o=oVar∨o=oPre then 0 else if o=oEq∨o=oNe then 2 else if o=oIf then 3 else match J1H shp o with
 | none=>-1
 | some x=>x.1
theorem JJL (o:ByteArray):PureCall Tryz.prog 199 [encS o] (encI (J1K o)):=by
 refine PC [] Tryz.func199 rfl (by rfl) rfl ?_;generalize hF:J1K o=F;unfold J1K at hF;refine kWS ?_;intros;refine CondP.dec (fun h1=>?_) (fun h1=>?_)<;>refine kW ?_
 ·rw[if_pos (.inl h1)] at hF;refine kS ?_;intros;exact .of (by rw[← hF];rfl)
 refine kS ?_;intros;refine CondP.dec (fun h2=>?_) (fun h2=>?_)<;>refine kW ?_
 ·rw[if_pos (.inr h2)] at hF;refine kS ?_;intros;exact .of (by rw[← hF];rfl)
 rw[if_neg (by rintro (h | h);exact h1 h;exact h2 h)] at hF;refine kS ?_;intros;refine CondP.dec (fun h3=>?_) (fun h3=>?_)<;>refine kW ?_
 ·rw[if_pos (.inl h3)] at hF;refine kS ?_;intros;exact .of (by rw[← hF];rfl)
 refine kS ?_;intros;refine CondP.dec (fun h4=>?_) (fun h4=>?_)<;>refine kW ?_
 ·rw[if_pos (.inr h4)] at hF;refine kS ?_;intros;exact .of (by rw[← hF];rfl)
 rw[if_neg (by rintro (h | h);exact h3 h;exact h4 h)] at hF;refine kS ?_;intros;refine CondP.dec (fun h5=>?_) (fun h5=>?_)<;>refine kW ?_
 ·rw[if_pos h5] at hF;refine kS ?_;intros;exact .of (by rw[← hF];rfl)
 rw[if_neg h5] at hF;refine kS ?_;intros;refine J00 [] _ c205 shapes_ok ?_;refine kWS ?_;intros;obtain ⟨r,hr,hm⟩:=J1f J6e o shp;refine Need.intro keyst9 ?_;refine kW ?_;refine LookP.intro r hr ?_
 cases ha:J1H shp o with
 | none=>
   rw[ha] at hm hF
   cases r with
   | some i=>exact hm.elim
   | none=>
     refine kWS ?_;intros;exact .of (by rw[← hF];rfl)
 | some x=>
   rw[ha] at hm hF
   cases r with
   | none=>exact hm.elim
   | some i=>
     refine kW ?_;rw[show (List.map (fun x=>J6e x.snd) shp).getD i AV.dead=J6e x from hm];refine kWS ?_;intros;exact .of (by rw[← hF];rfl)
theorem JCj (p:Option (Int×Int)×Bool):(∃ a,a=nilQ∧resQ p=.tup [a,encB p.2])∨∃ a,(∃ n d,a=encQ n d)∧resQ p=.tup [a,encB p.2]:=by
 unfold resQ
 cases p.1 with
 | none=>exact .inl ⟨_,rfl,rfl⟩
 | some q=>exact .inr ⟨_,⟨_,_,rfl⟩,rfl⟩
def textF (e:Ex):Bool:=
 if e.op=oNum then (J0B e.text.data.toList).2&&decide (e.order=0)
 else if e.op=oVar then nameF e.text&&decide (0≤e.order)&&decide (e.order≤6)
 else if e.op=oPre then nameF e.text&&decide (e.order=0)
 else decide (e.text=⟨#[]⟩)&&decide (e.order=0)
theorem JIx (e:Ex) (ht:e.text.size<2^35):PureCall Tryz.prog 200 [encE e] (encB (textF e)):=by
 refine PC [] Tryz.func200 rfl (by rfl) rfl ?_;rw[J02];generalize hF:textF e=F;unfold textF at hF;generalize e.op=o at hF;refine kWS ?_;intros;refine CondP.dec (fun h1=>?_) (fun h1=>?_)<;>refine kW ?_
 ·rw[if_pos h1] at hF;have hq:=J2f e.text.data.toList (by exact ht);rw[J1B] at hq;have hrs:=JCj (J0B e.text.data.toList);generalize (J0B e.text.data.toList).2=q at hF hrs
  rcases hrs with ⟨a,rfl,hrs⟩ | ⟨a,⟨x,y,rfl⟩,hrs⟩
  all_goals
   rw[hrs] at hq;refine kS ?_;intros;refine J00 [] _ c134 hq ?_;refine kWS ?_;intros;refine CondP.intro (fun h2=>?_) (fun h2=>?_)<;>refine kW ?_
   ·rw[h2,Bool.true_and] at hF;refine kS ?_;intros;exact .of (by rw[← hF];rfl)
   ·rw[h2,Bool.false_and] at hF;refine kS ?_;intros;exact .of (by rw[← hF];rfl)
 rw[if_neg h1] at hF;refine kS ?_;intros;refine CondP.dec (fun h2=>?_) (fun h2=>?_)<;>refine kW ?_
 ·rw[if_pos h2] at hF;have hn:=J1s e.text (by omega);generalize nameF e.text=q at hF hn;refine kS ?_;intros;refine CallP.flat [] _ c90 hn rfl ?_;refine kWS ?_;intros;refine CondP.intro (fun h3=>?_) (fun h3=>?_)<;>refine kW ?_
  ·rw[h3,Bool.true_and] at hF;refine kS ?_;intros;refine CondP.dec (fun h4=>?_) (fun h4=>?_)<;>refine kW ?_
   ·rw[decide_eq_true h4,Bool.true_and] at hF;refine kS ?_;intros;exact .of (by rw[← hF];rfl)
   ·rw[decide_eq_false h4,Bool.false_and] at hF;refine kS ?_;intros;exact .of (by rw[← hF];rfl)
  ·rw[h3,Bool.false_and,Bool.false_and] at hF;refine kS ?_;intros;exact .of (by rw[← hF];rfl)
 rw[if_neg h2] at hF;refine kS ?_;intros;refine CondP.dec (fun h3=>?_) (fun h3=>?_)<;>refine kW ?_
 ·rw[if_pos h3] at hF;have hn:=J1s e.text (by omega);generalize nameF e.text=q at hF hn;refine kS ?_;intros;refine CallP.flat [] _ c90 hn rfl ?_;refine kWS ?_;intros;refine CondP.intro (fun h4=>?_) (fun h4=>?_)<;>refine kW ?_
  ·rw[h4,Bool.true_and] at hF;refine kS ?_;intros;exact .of (by rw[← hF];rfl)
  ·rw[h4,Bool.false_and] at hF;refine kS ?_;intros;exact .of (by rw[← hF];rfl)
 rw[if_neg h3] at hF;refine kS ?_;intros;refine CondP.dec (fun h4=>?_) (fun h4=>?_)<;>refine kW ?_
 ·rw[decide_eq_true h4,Bool.true_and] at hF;refine kS ?_;intros;exact .of (by rw[← hF];rfl)
 ·rw[decide_eq_false h4,Bool.false_and] at hF;refine kS ?_;intros;exact .of (by rw[← hF];rfl)
def J13 {α:Type} (p:α→Bool):List α→Int→Int
 | [],_=>-1
 | y::r,i=>match p y with
   | true=>i
   | false=>J13 p r (i+1)
theorem J3T {α:Type} (p:α→Bool):∀ (l:List α) (i:Int),0≤i→(0≤J13 p l i↔l.any p=true)
 | [],i,h=>by simp[J13]
 | y :: r,i,h=>by
   unfold J13;split
   ·rename_i e;simp[e,h]
   ·rename_i e;rw[J3T p r (i+1) (by omega)];simp[e]
theorem JEs (k:Nat) (p:Ex→Bool) (l:List Ex) (hl:l.length≤2^60) (hk:J03 Tryz.prog k) (hf:∀ x∈l,PureCall Tryz.prog k [encE x] (encB (p x))) :
  PureCall Tryz.prog 294 [.sl 4 (l.map encE),.fn (.func k) [] []] (encI (J13 p l 0)):=by
 refine PC [] Tryz.func294 rfl (by rfl) rfl ?_;generalize hF:J13 p l 0=F;refine kWS ?_;intros;refine LoopP.intro (fun n σ H=>∃ i,i≤l.length∧n=l.length-i∧J13 p (l.drop i) i=F∧σ=fr [(0,.sl 4 (l.map encE)),(1,.fn (.func k) [] []),(7,encI l.length),(8,encI i)]∧H=hp []) ?_ ?_
 ·exact .intro <| W.of ⟨_,0,Nat.zero_le _,rfl,hF,rfl,rfl⟩ ⟨rfl,rfl,by simp;rfl,rfl,trivial⟩ trivial
 ·rintro n σ H ⟨i,hi,rfl,hc,rfl,rfl⟩;refine kWS ?_;intros;refine CondP.dec (fun h=>?_) (fun h=>?_)<;>refine kW ?_
  ·have hi':i<l.length:=by omega
   have hx:=hf _ (List.getElem_mem hi');rw[List.drop_eq_getElem_cons hi'] at hc;unfold J13 at hc;refine kR ?_;intros;generalize l[i]=x at hx hc ⊢;rw[J02] at hx ⊢;refine kR ?_;intros;refine CallP.flat [] _ hk hx rfl ?_;refine kWS ?_;intros;refine CondP.intro (fun hq=>?_) (fun hq=>?_)<;>refine kW ?_
   ·rw[hq] at hc;refine kS ?_;intros;exact .of (by rw[← hc];rfl)
   ·rw[hq] at hc;refine kS ?_;intros
    exact .intro <| W.of ⟨_,by omega,i+1,hi',rfl,hc,rfl,rfl⟩ ⟨rfl,rfl,rfl,rfl,trivial⟩ trivial
  ·refine kS ?_;intros;rw[List.drop_eq_nil_of_le (by omega)] at hc;exact .of (by rw[← hc];rfl)
theorem J9g (k:Nat) (p:Ex→Bool) (l:List Ex) (hl:l.length≤2^60) (hk:J03 Tryz.prog k) (hf:∀ x∈l,PureCall Tryz.prog k [encE x] (encB (p x))) :
  PureCall Tryz.prog 202 [.sl 4 (l.map encE),.fn (.func k) [] []] (encB (l.any p)):=by
 refine PC [] Tryz.func202 rfl (by rfl) rfl ?_;refine kWS ?_;intros;refine CallP.flat [] _ c294 (JEs k p l hl hk hf) rfl ?_;refine kWS ?_;intros;refine .of ?_;show AV.val (Value.bool (decide (0≤J13 p l 0)))=AV.val (Value.bool (l.any p))
 congr 2
 rw[Bool.eq_iff_iff,decide_eq_true_iff];exact J3T p l 0 (by omega)
def J6d (o:ByteArray) (ks:List Ex) (bs:List Bool):Bool:=decide (o=oSample)&&match ks,bs with
 | k0::k1::_,_::b::_=>!decide (k0.op=oNum)||!decide (k1.op=oNum)||!b||hasP k1.text (b1 45)||decide (k1.text=⟨#[48]⟩)
 | _,_=>false
mutual
def builtF:Ex→Bool
 | .mk o t n ks=>decide ((ks.length:Int)=J1K o)&&textF (.mk o t n ks)&&!J6d o ks (J7V ks)&&(J7V ks).all id
def J7V:List Ex→List Bool
 | []=>[]
 | k::ks=>builtF k::J7V ks
end
theorem J4R:∀ ks:List Ex,J7V ks=ks.map builtF
 | []=>rfl
 | k::ks=>by rw[List.map_cons,← J4R ks];rfl
theorem J1G (e:Ex):builtF e=(decide ((e.kids.length:Int)=J1K e.op)&&textF e&&!J6d e.op e.kids (e.kids.map builtF)&&e.kids.all builtF):=by
 cases e with
 | mk o t n ks=>
   rw[← J4R];have:ks.all builtF=(J7V ks).all id:=by rw[J4R,List.all_map];rfl
   show builtF (.mk o t n ks)=(decide ((ks.length:Int)=J1K o)&&textF (.mk o t n ks)&&!J6d o ks (J7V ks)&&ks.all builtF)
   rw[this];rfl
theorem J2X {M:Ex→Prop} (h:∀ e:Ex,(∀ k∈e.kids,M k)→M e) (e:Ex):M e:=by
 have key:∀ n (e:Ex),SizeOf.sizeOf e≤n→M e:=by
  intro n
  induction n with
  | zero=>intro e he;cases e;simp at he
  | succ n ih=>
    intro e he;refine h e fun k hk=>ih k ?_
    cases e with
    | mk o t m ks=>
      have:=List.sizeOf_lt_of_mem (show k∈ks from hk);simp at he;omega
 exact key _ e (Nat.le_refl _)
inductive TxE:Ex→Prop where
 | mk {o t:ByteArray} {n:Int} {ks:List Ex} (ht:t.size<2^21) (h:∀ k∈ks,TxE k):TxE (.mk o t n ks)
theorem TxE.kid {e:Ex} (h:TxE e):∀ k∈e.kids,TxE k:=by cases h;assumption
theorem TxE.low {e:Ex} (h:TxE e):e.text.size<2^21:=by cases h;assumption
theorem TxE.tx {e:Ex} (h:TxE e):e.text.size<2^35:=Nat.lt_trans h.low (by decide)
theorem JGH (e:Ex) (b:Bool) (h:PureCall Tryz.prog 123 [encE e] (encB b)):PureCall Tryz.prog 203 [encE e] (encB (!b)):=by
 refine PC [] Tryz.func203 rfl (by rfl) rfl ?_;rw[J02] at h ⊢;refine kWS ?_;intros;refine CallP.flat [] _ c123 h rfl ?_;refine kWS ?_;intros;exact .of rfl
theorem J8b (e:Ex):SzE e→TxE e→PureCall Tryz.prog 123 [encE e] (encB (builtF e)):=by
 induction e using J2X with
 | h e ih=>
   intro hs ht;have ihk:∀ k∈e.kids,PureCall Tryz.prog 123 [encE k] (encB (builtF k)):=fun k hk=>ih k hk (hs.kid k hk) (by cases ht;rename_i h;exact h k hk);clear ih;have htx:e.text.size<2^35:=ht.tx;have hlen:=hs.len;refine PC [] Tryz.func123 rfl (by rfl) rfl ?_;have hT:=JIx e htx;generalize hF:builtF e=F;rw[J1G] at hF;generalize textF e=bt at hF hT;rw[J02] at hT ⊢;generalize hks:e.kids=ks at *;generalize e.op=o at *;refine kWS ?_;intros;refine CallG.intro _ c199 (JJL o) ?_;refine kWS ?_;intros;rw[List.length_map];refine CondP.dec (fun h=>?_) (fun h=>?_)<;>refine kW ?_
   case' refine_2=>
    rw[decide_eq_false h,Bool.false_and,Bool.false_and,Bool.false_and] at hF;refine kS ?_;intros;exact .of (by rw[← hF];rfl)
   have hlk:=h;rw[decide_eq_true hlk,Bool.true_and] at hF;refine kS ?_;intros;refine CallG.intro _ c200 hT ?_;refine kWS ?_;intros;refine CondP.intro (fun h1=>?_) (fun h1=>?_)<;>refine kW ?_
   case' refine_2=>
    rw[h1,Bool.false_and,Bool.false_and] at hF;refine kS ?_;intros;exact .of (by rw[← hF];rfl)
   rw[h1,Bool.true_and] at hF;refine kS ?_;intros;have fin:J6d o ks (ks.map builtF)=false→ks.all builtF=F:=fun h=>by rw[← hF,h];rfl
   have bad:J6d o ks (ks.map builtF)=true→F=false:=fun h=>by rw[← hF,h];rfl
   clear hF;refine CondP.dec (fun h2=>?_) (fun h2=>?_)<;>refine kW ?_
   case' refine_2=>
    have hf:=fin (by unfold J6d;rw[decide_eq_false h2];rfl)
   case' refine_1=>
    obtain ⟨k0,k1,rfl⟩:∃ k0 k1,ks=[k0,k1]:=by
     have h2':o=oSample:=h2;have:J1K oSample=2:=by rfl
     rw[h2',this] at hlk
     match ks,hlk with
     | [a,b],_=>exact ⟨a,b,rfl⟩
     | [],h=>simp at h
     | [_],h=>simp at h
     | _::_::_::_,h=>simp at h;omega
    have hk1:=ihk k1 (by simp)
    have hsm:J6d o [k0,k1] ([k0,k1].map builtF)=(!decide (k0.op=oNum)||!decide (k1.op=oNum)||!builtF k1||hasP k1.text (b1 45)||decide (k1.text=⟨#[48]⟩)):=by
     unfold J6d;rw[decide_eq_true h2];rfl
    rw[hsm] at bad fin;generalize builtF k1=bk at bad fin hk1
    have ht1:k1.text.size<2^35:=by
     have hm:k1∈e.kids:=by rw[hks];simp
     have:TxE k1:=ht.kid k1 hm;exact this.tx
    have hHP:=JA6 k1.text (b1 45) (by omega) (by decide)
    have hsl:List.map encE [k0,k1]=[.agg [encS k0.op,encS k0.text,encI k0.order,.sl 4 (k0.kids.map encE)],.agg [encS k1.op,encS k1.text,encI k1.order,.sl 4 (k1.kids.map encE)]]:=by
     rw[← J02,← J02];rfl
    rw[J02] at hk1;rw[hsl];generalize hT0:hasP k1.text (b1 45)=hp at *;refine kS ?_;intros;refine CondP.dec (fun h3=>?_) (fun h3=>?_)<;>refine kW ?_
    case' refine_2=>
     rw[bad (by rw[decide_eq_false h3];rfl)];refine kS ?_;intros;exact .of rfl
    refine kS ?_;intros;refine CondP.dec (fun h4=>?_) (fun h4=>?_)<;>refine kW ?_
    case' refine_2=>
     rw[bad (by rw[decide_eq_false h4];simp)];refine kS ?_;intros;exact .of rfl
    refine kS ?_;intros;refine CallP.flat [] _ c123 hk1 rfl ?_;refine kWS ?_;intros;refine CondP.intro (fun h5=>?_) (fun h5=>?_)<;>refine kW ?_
    case' refine_2=>
     rw[bad (by rw[h5];simp)];refine kS ?_;intros;exact .of rfl
    refine kS ?_;intros;refine CallP.flat [] _ c201 hHP rfl ?_;refine kWS ?_;intros;refine CondP.intro (fun h6=>?_) (fun h6=>?_)<;>refine kW ?_
    case' refine_1=>
     rw[bad (by rw[h6];simp)];refine kS ?_;intros;exact .of rfl
    refine kS ?_;intros;refine CondP.dec (fun h7=>?_) (fun h7=>?_)<;>refine kW ?_
    case' refine_1=>
     rw[bad (by rw[decide_eq_true h7];simp)];refine kS ?_;intros;exact .of rfl
    have hf:=fin (by rw[decide_eq_true h3,decide_eq_true h4,h5,h6,decide_eq_false h7];rfl);rw[← hsl]
   all_goals
    refine kS ?_;intros;refine CallP.flat [] _ c202 (J9g 203 (fun k=>!builtF k) _ hlen c203 fun k hk=>JGH k _ (ihk k hk)) rfl ?_;refine kWS ?_;intros;refine .of ?_;rw[← hf,List.all_eq_not_any_not];rfl
structure Va where
 name:ByteArray
 kind:Int
 type:Int
 value:ByteArray
 start:ByteArray
 fixed:Bool
 unit:ByteArray
def encV (v:Va):AV:=.agg [encS v.name,encI v.kind,encI v.type,encS v.value,encS v.start,encB v.fixed,encS v.unit]
def encK (ks:List (ByteArray×Va)):AV:=.mp (ks.map fun x=>encS x.1) (ks.map fun x=>encV x.2)
def same2 (a b:Int×Bool):Int×Bool:=(a.1,a.2&&b.2&&decide (a.1=b.1))
def shpD (o:ByteArray):Int×Bool×Bool:=match J1H shp o with
 | some x=>x
 | none=>(0,false,false)
def JDt (ks:List (ByteArray×Va)) (o t:ByteArray) (n:Int) (rs:List (Int×Bool)):Int×Bool:=
 if o=oVar∨o=oPre then match J1H ks t with
  | some v=>(v.type,decide (n=0)||decide (v.kind=0)||decide (v.kind=3))
  | none=>(0,false)
 else if o=oEq∨o=oNe then (1,(same2 (rs.getD 0 (0,false)) (rs.getD 1 (0,false))).2)
 else if o=oIf then ((same2 (rs.getD 1 (0,false)) (rs.getD 2 (0,false))).1,(rs.getD 0 (0,false)).2&&(same2 (rs.getD 1 (0,false)) (rs.getD 2 (0,false))).2&&decide ((rs.getD 0 (0,false)).1=1))
 else if rs.any (fun r=>!r.2||(decide (r.1=1) != (shpD o).2.1)) then (0,false)
 else (if (shpD o).2.2 then 1 else 0,true)
mutual
def typeF (ks:List (ByteArray×Va)):Ex→Int×Bool
 | .mk o t n es=>JDt ks o t n (JIs ks es)
def JIs (ks:List (ByteArray×Va)):List Ex→List (Int×Bool)
 | []=>[]
 | e::es=>typeF ks e::JIs ks es
end
theorem J8k (ks:List (ByteArray×Va)):∀ es:List Ex,JIs ks es=es.map (typeF ks)
 | []=>rfl
 | e::es=>by rw[List.map_cons,← J8k ks es];rfl
theorem J7i (ks:List (ByteArray×Va)) (e:Ex):typeF ks e=JDt ks e.op e.text e.order (e.kids.map (typeF ks)):=by
 cases e with
 | mk o t n es=>rw[← J8k];rfl
def JFC (r:Int×Bool):AV:=.tup [encI r.1,encB r.2]
theorem JEH (ks:List (ByteArray×Va)) (a b:Ex) (ra rb:Int×Bool) (ha:PureCall Tryz.prog 124 [encK ks,encE a] (JFC ra)) (hb:PureCall Tryz.prog 124 [encK ks,encE b] (JFC rb)) :
  PureCall Tryz.prog 204 [encK ks,encE a,encE b] (JFC (same2 ra rb)):=by
 refine PC [] Tryz.func204 rfl (by rfl) rfl ?_;obtain ⟨x,bx⟩:=ra;obtain ⟨y,by'⟩:=rb;rw[J02] at ha hb;rw[J02 a,J02 b];generalize hF:same2 (x,bx) (y,by')=F;unfold same2 at hF;refine kWS ?_;intros;refine J00 [] _ c124 ha ?_;refine kWS ?_;intros;refine J00 [] _ c124 hb ?_;refine kWS ?_;intros;simp only at hF ⊢;cases bx
 ·refine kS ?_;intros;exact .of (by rw[← hF];rfl)
 cases by'
 ·refine kS ?_;intros;exact .of (by rw[← hF];rfl)
 simp only[Bool.true_and] at hF;refine kS ?_;intros;exact .of (by rw[← hF];rfl)
theorem J0C {e:Ex} (h:builtF e=true):(e.kids.length:Int)=J1K e.op∧∀ k∈e.kids,builtF k=true:=by
 rw[J1G] at h;simp only[Bool.and_eq_true] at h;exact ⟨of_decide_eq_true h.1.1.1,fun k hk=>List.all_eq_true.1 h.2 k hk⟩
theorem JFy (ks:List (ByteArray×Va)) (e:Ex):SzE e→builtF e=true→PureCall Tryz.prog 124 [encK ks,encE e] (JFC (typeF ks e)):=by
 induction e using J2X with
 | h e ih=>
   intro hs hb;obtain ⟨hkl,hbk⟩:=J0C hb;have ihk:∀ k∈e.kids,PureCall Tryz.prog 124 [encK ks,encE k] (JFC (typeF ks k)):=fun k hk=>ih k hk (hs.kid k hk) (hbk k hk);clear ih hbk;have hlen:=hs.len;refine PC [] Tryz.func124 rfl (by rfl) rfl ?_;generalize hF:typeF ks e=F;rw[J7i] at hF;rw[J02];generalize hes:e.kids=es at *;generalize e.op=o at *;generalize e.text=t at *;generalize e.order=n at *;clear hs hb hes e;unfold JDt at hF;refine kWS ?_;intros;refine CondP.dec (fun h1=>?_) (fun h1=>?_)<;>refine kX ?_
   case' refine_1=>refine CondP.pos h1 ?_
   case' refine_2=>refine CondP.dec (fun h2=>?_) (fun h2=>?_)
   case refine_2.refine_2=>
    rw[if_neg (by rintro (h | h);exact h1 h;exact h2 h)] at hF;refine kX ?_
    repeat (refine J3E ?_;refine kX ?_)
    refine CondP.dec (fun h3=>?_) (fun h3=>?_)<;>refine kX ?_
    case' refine_1=>refine CondP.pos h3 ?_
    case' refine_2=>refine CondP.dec (fun h4=>?_) (fun h4=>?_)
    case refine_2.refine_2=>
     rw[if_neg (by rintro (h | h);exact h3 h;exact h4 h)] at hF;refine kX ?_
     repeat (refine J3E ?_;refine kX ?_)
     refine CondP.dec (fun h5=>?_) (fun h5=>?_)<;>refine kX ?_
     ·rw[if_pos h5] at hF
      obtain ⟨a,b,c,rfl⟩:∃ a b c,es=[a,b,c]:=by
       have:J1K o=3:=by rw[h5];rfl
       rw[this] at hkl
       match es,hkl with
       | [a,b,c],_=>exact ⟨a,b,c,rfl⟩
       | [],h=>simp at h
       | [_],h=>simp at h
       | [_,_],h=>simp at h
       | _::_::_::_::_,h=>simp at h;omega
      have hca:=ihk a (by simp);have hsm:=JEH ks b c _ _ (ihk b (by simp)) (ihk c (by simp))
      have hsl:List.map encE [a,b,c]=[.agg [encS a.op,encS a.text,encI a.order,.sl 4 (a.kids.map encE)],.agg [encS b.op,encS b.text,encI b.order,.sl 4 (b.kids.map encE)],.agg [encS c.op,encS c.text,encI c.order,.sl 4 (c.kids.map encE)]]:=by
       rw[← J02,← J02,← J02];rfl
      replace hF:((same2 (typeF ks b) (typeF ks c)).1,(typeF ks a).2&&(same2 (typeF ks b) (typeF ks c)).2&&decide ((typeF ks a).1=1))=F:=hF;generalize same2 (typeF ks b) (typeF ks c)=sm at hF hsm;generalize typeF ks a=ta at hF hca;rw[J02 a] at hca;rw[J02 b,J02 c] at hsm;refine J0q (W.of (l:=[(0,encK ks),(3,.op 3 _ 0 0),(4,encI 0),(5,encB false),(20,encS o)]) (m:=[(3,_,⟨29,4,[.agg [encS o,encS t,encI n,.sl 4 ([a,b,c].map encE)]]⟩)]) ?_ ⟨rfl,rfl,rfl,rfl,rfl,trivial⟩ ⟨rfl,trivial⟩);rw[hsl];refine kWS ?_;intros;refine J00 [] _ c124 hca ?_;refine kWS ?_;intros;refine CallG.intro _ c204 hsm ?_;refine kWS ?_;intros;obtain ⟨tt,tb⟩:=ta;obtain ⟨st,sb⟩:=sm;simp only at hF ⊢;cases tb
      ·refine kS ?_;intros;exact .of (by rw[← hF];rfl)
      cases sb
      ·refine kS ?_;intros;exact .of (by rw[← hF];rfl)
      simp only[Bool.true_and] at hF;refine kS ?_;intros;exact .of (by rw[← hF];rfl)
     ·rw[if_neg h5] at hF;refine J0q (W.of (l:=[(0,encK ks),(3,.op 3 _ 0 0),(4,encI 0),(5,encB false),(20,encS o)]) (m:=[(3,_,⟨29,4,[.agg [encS o,encS t,encI n,.sl 4 (es.map encE)]]⟩)]) ?_ ⟨rfl,rfl,rfl,rfl,rfl,trivial⟩ ⟨rfl,trivial⟩);refine kWS ?_;intros;refine CallG.intro _ c205 shapes_ok ?_;refine kWS ?_;intros;refine Need.intro keyst9 ?_;refine kW ?_;obtain ⟨r,hr,hm⟩:=J1f J6e o shp;refine LookP.intro r hr ?_
      have hcase:(r=none∧shpD o=(0,false,false))∨∃ i,r=some i∧(shp.map fun x=>J6e x.2).getD i .dead=J6e (shpD o):=by
       unfold shpD
       revert hm
       cases J1H shp o<;>cases r<;>intro hm
       ·exact .inl ⟨rfl,rfl⟩
       ·exact hm.elim
       ·exact hm.elim
       ·exact .inr ⟨_,rfl,hm⟩
      rcases hcase with ⟨rfl,hx⟩ | ⟨i,rfl,hm'⟩
      case' inl=>
       refine kW ?_;refine kX ?_;refine kZ ?_;intros;refine J0q (W.of (l:=[(0,encK ks),(3,.op 3 _ 0 0),(4,encI 0),(5,encB false),(14,.op 14 _ 0 0)]) (m:=[(3,_,⟨29,4,[.agg [encS o,encS t,encI n,.sl 4 (es.map encE)]]⟩),(14,_,⟨249,3,[J6e (shpD o)]⟩)]) ?_ ⟨rfl,rfl,rfl,rfl,rfl,trivial⟩ ⟨rfl,by rw[hx];rfl,trivial⟩)
      case' inr=>
       refine kW ?_;rw[hm'];refine kX ?_;refine kZ ?_;intros;refine J0q (W.of (l:=[(0,encK ks),(3,.op 3 _ 0 0),(4,encI 0),(5,encB false),(14,.op 14 _ 0 0)]) (m:=[(3,_,⟨29,4,[.agg [encS o,encS t,encI n,.sl 4 (es.map encE)]]⟩),(14,_,⟨249,3,[J6e (shpD o)]⟩)]) ?_ ⟨rfl,rfl,rfl,rfl,rfl,trivial⟩ ⟨rfl,rfl,trivial⟩)
      all_goals
       generalize shpD o=x at hF ⊢;refine kWS ?_;intros
       refine LoopP.intro (fun m σ H=>∃ g i,m=es.length-i∧i≤es.length∧(if ((es.drop i).map (typeF ks)).any (fun r=>!r.2||(decide (r.1=1) != x.2.1)) then ((0,false):Int×Bool) else (if x.2.2 then 1 else 0,true))=F ∧
        σ=fr [(0,encK ks),(4,encI 0),(5,encB false),(14,.op 14 g 0 0),(104,.sl 4 (es.map encE)),(105,encI es.length),(106,encI i)] ∧
        H=hp [(14,g,⟨249,3,[J6e x]⟩)]) ?_ ?_
       ·refine .intro <| W.of ⟨_,_,0,rfl,Nat.zero_le _,hF,rfl,rfl⟩ ⟨rfl,rfl,rfl,rfl,rfl,?_,rfl,trivial⟩ ⟨rfl,trivial⟩
        show AV.val (.int .i64 _)=AV.val (.int .i64 _)
        rw[List.length_map]
       ·clear hF;rintro m σ H ⟨g,i,rfl,hi,hF,rfl,rfl⟩;refine kWS ?_;intros;refine CondP.dec (fun h=>?_) (fun h=>?_)<;>refine kW ?_
        ·have hi':i<es.length:=by omega
         rw[List.drop_eq_getElem_cons hi',List.map_cons,List.any_cons] at hF;have hk:=ihk _ (List.getElem_mem hi');refine kR ?_;intros;generalize es[i]=k at hF hk ⊢;generalize typeF ks k=tk at hF hk;obtain ⟨kt,kb⟩:=tk;rw[J02] at hk ⊢;refine kR ?_;intros;refine J00 [] _ c124 hk ?_;refine kWS ?_;intros;simp only at hF ⊢;cases kb
         ·simp only[Bool.not_false,Bool.true_or,if_true] at hF;refine kS ?_;intros;exact .of (by rw[← hF];rfl)
         simp only[Bool.not_true,Bool.false_or] at hF;refine kS ?_;intros;refine CondP.intro (fun h6=>?_) (fun h6=>?_)<;>refine kW ?_
         ·rw[show (decide (kt=1) != x.2.1)=false by rw[bne,h6];rfl,Bool.false_or] at hF;refine kS ?_;intros
          exact .intro <| W.of ⟨_,by omega,_,i+1,rfl,hi',hF,rfl,rfl⟩ ⟨rfl,rfl,rfl,rfl,rfl,rfl,rfl,trivial⟩ ⟨rfl,trivial⟩
         ·rw[show (decide (kt=1) != x.2.1)=true by rw[bne,h6];rfl,Bool.true_or,if_pos rfl] at hF;refine kS ?_;intros;exact .of (by rw[← hF];rfl)
        ·rw[List.drop_eq_nil_of_le (by omega)] at hF;refine kS ?_;intros;refine CondP.intro (fun h6=>?_) (fun h6=>?_)<;>refine kW ?_
         ·rw[h6] at hF;refine kS ?_;intros;exact .of (by rw[← hF];rfl)
         ·rw[h6] at hF;refine kS ?_;intros;exact .of (by rw[← hF];rfl)
    all_goals
     have hv:o=oEq∨o=oNe:=by first | exact .inl h3 | exact .inr h4
     rw[if_pos hv] at hF
     obtain ⟨a,b,rfl⟩:∃ a b,es=[a,b]:=by
      have:J1K o=2:=by rcases hv with h | h<;>rw[h]<;>rfl
      rw[this] at hkl
      match es,hkl with
      | [a,b],_=>exact ⟨a,b,rfl⟩
      | [],h=>simp at h
      | [_],h=>simp at h
      | _::_::_::_,h=>simp at h;omega
     have hsm:=JEH ks a b _ _ (ihk a (by simp)) (ihk b (by simp))
     have hsl:List.map encE [a,b]=[.agg [encS a.op,encS a.text,encI a.order,.sl 4 (a.kids.map encE)],.agg [encS b.op,encS b.text,encI b.order,.sl 4 (b.kids.map encE)]]:=by
      rw[← J02,← J02];rfl
     replace hF:(1,(same2 (typeF ks a) (typeF ks b)).2)=F:=hF;generalize same2 (typeF ks a) (typeF ks b)=sm at hF hsm;rw[J02 a,J02 b] at hsm;refine J0q (W.of (l:=[(0,encK ks),(3,.op 3 _ 0 0),(4,encI 0),(5,encB false),(20,encS o)]) (m:=[(3,_,⟨29,4,[.agg [encS o,encS t,encI n,.sl 4 ([a,b].map encE)]]⟩)]) ?_ ⟨rfl,rfl,rfl,rfl,rfl,trivial⟩ ⟨rfl,trivial⟩);rw[hsl];refine kWS ?_;intros;refine CallG.intro _ c204 hsm ?_;refine kWS ?_;intros;exact .of (by rw[← hF];rfl)
   all_goals
    have hv:o=oVar∨o=oPre:=by first | exact .inl h1 | exact .inr h2
    rw[if_pos hv] at hF;refine J0q (W.of (l:=[(0,encK ks),(3,.op 3 _ 0 0),(4,encI 0),(5,encB false),(20,encS o)]) (m:=[(3,_,⟨29,4,[.agg [encS o,encS t,encI n,.sl 4 (es.map encE)]]⟩)]) ?_ ⟨rfl,rfl,rfl,rfl,rfl,trivial⟩ ⟨rfl,trivial⟩);refine kWS ?_;intros;refine Need.intro keyst9 ?_;refine kW ?_;obtain ⟨r,hr,hm⟩:=J1f encV t ks;refine LookP.intro r hr ?_
    cases ha:J1H ks t with
    | none=>
      rw[ha] at hm hF
      cases r with
      | some i=>exact hm.elim
      | none=>
        refine kWS ?_;intros;exact .of (by rw[← hF];rfl)
    | some v=>
      rw[ha] at hm hF
      cases r with
      | none=>exact hm.elim
      | some i=>
        refine kW ?_;rw[show (List.map (fun x=>encV x.snd) ks).getD i AV.dead=encV v from hm];refine kWS ?_;intros;replace hF:(v.type,decide (n=0)||decide (v.kind=0)||decide (v.kind=3))=F:=hF;refine CondP.dec (fun h3=>?_) (fun h3=>?_)<;>refine kW ?_
        ·rw[decide_eq_true h3,Bool.true_or,Bool.true_or] at hF;refine kS ?_;intros;exact .of (by rw[← hF];rfl)
        rw[decide_eq_false h3,Bool.false_or] at hF;refine kS ?_;intros;refine CondP.dec (fun h4=>?_) (fun h4=>?_)<;>refine kW ?_
        ·rw[decide_eq_true h4,Bool.true_or] at hF;refine kS ?_;intros;exact .of (by rw[← hF];rfl)
        rw[decide_eq_false h4,Bool.false_or] at hF;refine kS ?_;intros;exact .of (by rw[← hF];rfl)
def J0u (q:AV) (t is:Bool):AV:=match q with
 | .agg cs=>.agg (cs++[encB t,encB is])
 | _=>.dead
theorem J1m (b:Bool):PureCall Tryz.prog 194 [encB b] (J0u nilQ b true):=by
 refine PC [] Tryz.func194 rfl (by rfl) rfl ?_;refine kWS ?_;intros;exact .of rfl
theorem JA3 (q:AV) (h:q=nilQ∨∃ n d,q=encQ n d):PureCall Tryz.prog 189 [q] (J0u q false false):=by
 refine PC [] Tryz.func189 rfl (by rfl) rfl ?_
 rcases h with rfl | ⟨n,d,rfl⟩
 all_goals
  refine kWS ?_;intros;exact .of rfl
theorem J4y (q:AV) (t is:Bool) (h:q=nilQ∨∃ n d,q=encQ n d):PureCall Tryz.prog 282 [J0u q t is] (encI (if is then 1 else 0)):=by
 refine PC [] Tryz.func282 rfl (by rfl) rfl ?_
 rcases h with rfl | ⟨n,d,rfl⟩
 all_goals
  refine kWS ?_;intros;refine CondP.intro (fun h=>?_) (fun h=>?_)<;>refine kW ?_
  ·refine kS ?_;intros;exact .of (by rw[h];rfl)
  ·refine kS ?_;intros;exact .of (by rw[h];rfl)
def qAV:Option (Int×Int)→AV
 | some (n,d)=>encQ n d
 | none=>nilQ
theorem JBS (p:Option (Int×Int)×Bool):resQ p=.tup [qAV p.1,encB p.2]:=by
 obtain ⟨o,b⟩:=p;cases o<;>rfl
theorem J1q (o:Option (Int×Int)):qAV o=nilQ∨∃ n d,qAV o=encQ n d:=by
 cases o with
 | none=>exact .inl rfl
 | some q=>exact .inr ⟨q.1,q.2,rfl⟩
abbrev sTrue:ByteArray:=⟨#[116,114,117,101]⟩
abbrev sFalse:ByteArray:=⟨#[102,97,108,115,101]⟩
def resV (s:ByteArray):AV:=
 if s=sTrue∨s=sFalse then .tup [J0u nilQ (decide (s=sTrue)) true,encB true]
 else .tup [J0u (qAV (J0B s.data.toList).1) false false,encB (J0B s.data.toList).2]
theorem JA2 (s:ByteArray) (hs:s.size<2^35):PureCall Tryz.prog 112 [encS s] (resV s):=by
 refine PC [] Tryz.func112 rfl (by rfl) rfl ?_;generalize hF:resV s=F;unfold resV at hF;have hq:=J2f s.data.toList (by exact hs);rw[J1B] at hq;have hT:=J1m;refine kWS ?_;intros;refine CondP.dec (fun h1=>?_) (fun h1=>?_)<;>refine kW ?_
 ·rw[if_pos (.inl h1),decide_eq_true h1] at hF;refine kS ?_;intros;refine J00 [] _ c194 (J1m (decide (s=sTrue))) ?_;rw[decide_eq_true h1];refine kWS ?_;intros;exact .of (by rw[← hF];rfl)
 refine kS ?_;intros;refine CondP.dec (fun h2=>?_) (fun h2=>?_)<;>refine kW ?_
 ·rw[if_pos (.inr h2),decide_eq_false h1] at hF;refine kS ?_;intros;refine J00 [] _ c194 (J1m (decide (s=sTrue))) ?_;rw[decide_eq_false h1];refine kWS ?_;intros;exact .of (by rw[← hF];rfl)
 rw[if_neg (by rintro (h | h);exact h1 h;exact h2 h)] at hF;rw[JBS] at hq;have hq2:=J1q (J0B s.data.toList).1;generalize qAV (J0B s.data.toList).1=q at *;generalize (J0B s.data.toList).2=b at *;have hN:=JA3 q hq2;refine kS ?_;intros;refine J00 [] _ c134 hq ?_
 rcases hq2 with rfl | ⟨n,d,rfl⟩
 all_goals
  refine kWS ?_;intros;refine J00 [] _ c189 hN ?_;refine kWS ?_;intros;exact .of (by rw[← hF];rfl)
def valueF (s:ByteArray) (t:Int):Bool:=
 if s=sTrue∨s=sFalse then decide (1=t) else (J0B s.data.toList).2&&decide (0=t)
theorem JBC (s:ByteArray) (t:Int) (hs:s.size<2^35):PureCall Tryz.prog 320 [encS s,encI t] (encB (valueF s t)):=by
 refine PC [] Tryz.func320 rfl (by rfl) rfl ?_;have hp:=JA2 s hs;generalize hF:valueF s t=F;unfold valueF at hF;unfold resV at hp;have hq2:=J1q (J0B s.data.toList).1;generalize qAV (J0B s.data.toList).1=q at *;generalize (J0B s.data.toList).2=b at *
 by_cases h1:s=sTrue∨s=sFalse
 ·rw[if_pos h1] at hp hF;refine kWS ?_;intros;refine J00 [] _ c112 hp ?_;refine kWS ?_;intros;refine CallP.flat [] _ c282 (J4y nilQ (decide (s=sTrue)) true (.inl rfl)) rfl ?_;refine kWS ?_;intros;exact .of (by rw[← hF];rfl)
 ·rw[if_neg h1] at hp hF;have hT:=J4y q false false hq2;refine kWS ?_;intros;refine J00 [] _ c112 hp ?_
  rcases hq2 with rfl | ⟨n,d,rfl⟩
  all_goals
   refine kWS ?_;intros;refine CondP.intro (fun h2=>?_) (fun h2=>?_)<;>refine kW ?_
   ·rw[h2,Bool.true_and] at hF;refine kS ?_;intros;refine CallP.flat [] _ c282 hT rfl ?_;refine kWS ?_;intros;exact .of (by rw[← hF];rfl)
   ·rw[h2,Bool.false_and] at hF;refine kS ?_;intros;exact .of (by rw[← hF];rfl)
abbrev B4:Nat:=10000
def encD (n:Nat):AV:=.val (.int .i64 n)
def JLG (l:List Nat):AV:=.sl 1 (l.map encD)
def encN (n:Nat):AV:=JLG (dg B4 n)
theorem g4 {l:List Nat} (h:Dig B4 l) (i:Nat) (hi:i<l.length):l[i]<10000:=h.get i hi
theorem JFB {x y x' y':AV} (h1:Le x x') (h2:Le y y'):Fw.Ends (.tup [x,y]) (.tup [x',y']):=by
 have h:=Le.cons h1 (Le.cons h2 JK1);exact Fw.Ends.le (Le.tup h.1 h.2)
theorem JJM (n:Nat):isD n=true↔48≤n∧n≤57:=by
 unfold isD;rw[Bool.and_eq_true,Nat.ble_eq,Nat.ble_eq]
def digB (l:List UInt8):Bool:=decide (1≤l.length)&&decide (l.length≤300)&&!(decide (1<l.length)&&decide (l.headD 0=48))&&isDs l
theorem J75 (l:List UInt8):(J07 l).1.length≤l.length∧(J07 l).1=l.take (J07 l).1.length∧(∀ j (h:j<l.length),j<(J07 l).1.length→l[j]≠47) ∧
  (∀ h:(J07 l).1.length<l.length,(J07 l).2.2=true∧(J07 l).2.1=l.drop ((J07 l).1.length+1)∧l[(J07 l).1.length]=47)∧(l.length≤(J07 l).1.length→(J07 l).2.2=false):=by
 induction l with
 | nil=>exact ⟨by decide,rfl,fun j h=>absurd h (by simp),fun h=>absurd h (by simp),fun _=>rfl⟩
 | cons c l ih=>
   by_cases hc:c=47
   ·have e:J07 (c::l)=([],l,true):=by unfold J07;rw[if_pos hc]
    rw[e];exact ⟨by simp,rfl,fun j h h'=>absurd h' (by simp),fun h=>⟨rfl,rfl,by simpa using hc⟩,fun h=>by simp at h⟩
   ·have e:J07 (c::l)=(c::(J07 l).1,(J07 l).2.1,(J07 l).2.2):=by rw[J07,if_neg hc]
    obtain ⟨h1,h2,h3,h4,h5⟩:=ih;rw[e];simp only[List.length_cons,List.take_succ_cons];refine ⟨by omega,by rw[← h2],fun j h h'=>?_,fun h=>?_,fun h=>h5 (by omega)⟩
    ·cases j with
     | zero=>exact hc
     | succ j=>exact h3 j (by omega) (by omega)
    ·obtain ⟨a,b,d⟩:=h4 (by omega);exact ⟨a,by rw[b,List.drop_succ_cons],d⟩
def JCl (m:Bool) (t:List UInt8):Option (Int×Nat):=
 if digB (J07 t).1=false then none
 else if (J07 t).2.2=true then
  if digB (J07 t).2.1=false then none
  else if decU (J07 t).2.1≤1∨Nat.gcd (decU (J07 t).1) (decU (J07 t).2.1)≠1 then none
  else if m=true∧decU (J07 t).1=0 then none
  else some (if m then -(decU (J07 t).1:Int) else decU (J07 t).1,decU (J07 t).2.1)
 else if m=true∧decU (J07 t).1=0 then none
 else some (if m then -(decU (J07 t).1:Int) else decU (J07 t).1,1)
def JAX (l:List UInt8):Option (Int×Nat):=match l with
 | 45::t=>JCl true t
 | t=>JCl false t
def l4 (n:Nat):Nat:=(dg B4 n).length
def rT (n:Int) (d:Nat):List Nat:=if d=1 then sT n else sT n++47::decT d
theorem JKY (n:Nat):isD n=isDg n:=by
 rw[Bool.eq_iff_iff,JJM];unfold isDg;rw[decide_eq_true_iff]
theorem JBl (l:List UInt8):isDs l=(l.map UInt8.toNat).all isDg:=by
 unfold isDs;rw[List.all_map]
 congr 1
 funext c
 exact JKY _
theorem J5C (l:List UInt8):(l.map UInt8.toNat).map UInt8.ofNat=l:=by
 rw[List.map_map];refine (List.map_congr_left fun c hc=>?_).trans (List.map_id l);simp
theorem J4O (l:List UInt8):digB l=(J2I (l.map UInt8.toNat)&&decide (l.length≤300)):=by
 unfold digB J2I;rw[JBl,List.length_map]
 cases l with
 | nil=>rfl
 | cons c r=>
   have e:decide ((c::r).headD 0=48)=decide (((c::r).map UInt8.toNat).getD 0 0=48):=decide_eq_decide.2 (by
    simp only[List.headD_cons,List.map_cons,List.getD_cons_zero];constructor
    ·rintro rfl;rfl
    ·intro h;exact UInt8.toNat.inj (by rw[h];rfl))
   rw[e];generalize ((c::r).map UInt8.toNat).getD 0 0=x;generalize ((c::r).map UInt8.toNat).all isDg=b;generalize (c::r).length=n;rw[Bool.eq_iff_iff];simp only[Bool.and_eq_true,Bool.or_eq_true,Bool.not_eq_true',Bool.and_eq_false_iff,decide_eq_true_eq,decide_eq_false_iff_not,ne_eq];constructor
   ·rintro ⟨⟨⟨h1,h2⟩,h3⟩,h4⟩;exact ⟨⟨⟨h1,by omega⟩,h4⟩,h2⟩
   ·rintro ⟨⟨⟨h1,h2⟩,h3⟩,h4⟩;exact ⟨⟨⟨h1,h4⟩,by omega⟩,h3⟩
theorem J9T {l:List UInt8} (h:digB l=true):l=(decT (decU l)).map UInt8.ofNat∧(decT (decU l)).length≤300:=by
 rw[J4O,Bool.and_eq_true] at h;have e:=J3e h.1;have h2:=of_decide_eq_true h.2;unfold decU;rw[e];exact ⟨(J5C l).symm,by rw[List.length_map];exact h2⟩
theorem JKm:(decT 1).length≤300:=by
 rw[JHa,if_neg (by decide),J6C (by decide) (by decide) (by decide)];decide
def okR (x:Int×Nat):Prop:=0<x.2∧Nat.gcd x.1.natAbs x.2=1∧(decT x.1.natAbs).length≤300∧(decT x.2).length≤300
theorem JKL (n:Int):sT n=if n<0 then 45::decT n.natAbs else decT n.natAbs:=rfl
theorem J72 {m:Bool} {t:List UInt8} {x:Int×Nat} (h:JCl m t=some x):okR x∧(x.1<0↔m=true)∧t=(decT x.1.natAbs++if x.2=1 then [] else 47::decT x.2).map UInt8.ofNat:=by
 obtain ⟨p1,p2,p3,p4,p5⟩:=J75 t;unfold JCl at h
 cases hd:digB (J07 t).1 with
 | false=>rw[hd,if_pos rfl] at h;cases h
 | true=>
   obtain ⟨t1,t2⟩:=J9T hd;rw[hd,if_neg (by decide)] at h;generalize hn:decU (J07 t).1=n at *
   have sgnz:∀ hz:¬ (m=true∧n=0),((if m then -(n:Int) else n)<0↔m=true)∧(if m then -(n:Int) else (n:Int)).natAbs=n:=by
    intro hz
    cases m with
    | true=>have:n≠0:=fun e=>hz ⟨rfl,e⟩;rw[if_pos rfl];exact ⟨by simp;omega,by omega⟩
    | false=>rw[if_neg (by decide)];exact ⟨by simp,by omega⟩
   by_cases hb:(J07 t).2.2=true
   ·have hlt:(J07 t).1.length<t.length:=by
     rcases Nat.lt_or_ge (J07 t).1.length t.length with h' | h'
     ·exact h'
     ·rw[p5 h'] at hb;cases hb
    obtain ⟨_,q2,q3⟩:=p4 hlt
    have ht:t=(J07 t).1++47::(J07 t).2.1:=by
     conv=>lhs;rw[← List.take_append_drop (J07 t).1.length t]
     rw[← p2,List.drop_eq_getElem_cons hlt,q3,← q2]
    rw[if_pos hb] at h
    cases hd2:digB (J07 t).2.1 with
    | false=>rw[hd2,if_pos rfl] at h;cases h
    | true=>
      obtain ⟨u1,u2⟩:=J9T hd2;rw[hd2,if_neg (by decide)] at h;generalize hdd:decU (J07 t).2.1=d at *;split at h
      ·cases h
      ·rename_i hg;split at h
       ·cases h
       ·rename_i hz;cases h;obtain ⟨s1,s2⟩:=sgnz hz;have hg1:¬ d≤1:=fun e=>hg (.inl e);have hg2:Nat.gcd n d=1:=Decidable.byContradiction fun e=>hg (.inr e);refine ⟨⟨by simp only;omega,by simp only;rw[s2];exact hg2,by simp only;rw[s2];exact t2,u2⟩,s1,?_⟩;simp only;rw[s2,if_neg (by omega),List.map_append,List.map_cons,← t1,← u1];exact ht
   ·have hge:t.length≤(J07 t).1.length:=by
     rcases Nat.lt_or_ge (J07 t).1.length t.length with h' | h'
     ·exact absurd (p4 h').1 hb
     ·exact h'
    have ht:t=(J07 t).1:=by
     conv=>rhs;rw[p2]
     rw[List.take_of_length_le hge]
    rw[if_neg hb] at h;split at h
    ·cases h
    ·rename_i hz;cases h;obtain ⟨s1,s2⟩:=sgnz hz;refine ⟨⟨Nat.one_pos,by simp,by simp only;rw[s2];exact t2,JKm⟩,s1,?_⟩;simp only;rw[s2,if_pos trivial,List.append_nil,← t1];exact ht
theorem JKN (n:Int) (d:Nat):rT n d=if n<0 then 45::(decT n.natAbs++if d=1 then [] else 47::decT d) else decT n.natAbs++if d=1 then [] else 47::decT d:=by
 unfold rT;rw[JKL];split<;>split<;>simp
theorem JCk {l:List UInt8} {x:Int×Nat} (h:JAX l=some x):okR x∧l=(rT x.1 x.2).map UInt8.ofNat:=by
 unfold JAX at h;split at h
 ·rename_i t;obtain ⟨h1,h2,h3⟩:=J72 h;refine ⟨h1,?_⟩;rw[JKN,if_pos (h2.2 rfl),List.map_cons,← h3];rfl
 ·obtain ⟨h1,h2,h3⟩:=J72 h;refine ⟨h1,?_⟩;rw[JKN,if_neg (fun e=>by have:=h2.1 e;cases this),← h3]
def nlt (n:Int):Bool:=(decide (n<97)||decide (122<n))&&(decide (n<65)||decide (90<n))
theorem JD4 (n:Int):PureCall Tryz.prog 389 [.val (.int .i32 n)] (encB (nlt n)):=by
 refine PC [] Tryz.func389 rfl (by rfl) rfl ?_;refine kW ?_
 (repeat (any_goals (first | ((first | refine N0 ?_ | refine A0 fun γ=>?_ | refine C1 ?_ | refine C2 ?_ | refine C3 ?_ | refine C4 ?_ | refine C5 ?_ | refine C6 ?_ | refine C7 ?_ | refine D0 fun γs=>?_ | refine A1 fun γs=>?_ | refine N2 ?_ | refine N3 ?_ | refine N1 ?_);refine kW ?_) | (refine CondP.dec (fun _=>?_) (fun _=>?_)<;>refine kW ?_) | (refine CondP.intro (fun _=>?_) (fun _=>?_)<;>refine kW ?_))))
 all_goals (refine .of ?_;show AV.val (Value.bool _)=AV.val (Value.bool _);congr 1;unfold nlt;simp_all<;>omega)
theorem JCQ (n:Int):PureCall Tryz.prog 400 [.val (.int .i32 n)] (encB (nlt n)):=by
 refine PC [] Tryz.func400 rfl (by rfl) rfl ?_;refine kW ?_
 (repeat (any_goals (first | ((first | refine N0 ?_ | refine A0 fun γ=>?_ | refine C1 ?_ | refine C2 ?_ | refine C3 ?_ | refine C4 ?_ | refine C5 ?_ | refine C6 ?_ | refine C7 ?_ | refine D0 fun γs=>?_ | refine A1 fun γs=>?_ | refine N2 ?_ | refine N3 ?_ | refine N1 ?_);refine kW ?_) | (refine CondP.dec (fun _=>?_) (fun _=>?_)<;>refine kW ?_) | (refine CondP.intro (fun _=>?_) (fun _=>?_)<;>refine kW ?_))))
 all_goals (refine .of ?_;show AV.val (Value.bool _)=AV.val (Value.bool _);congr 1;unfold nlt;simp_all<;>omega)
theorem JEI (l:List UInt8) (p:Nat) (hp:p<l.length) (h:128≤(l[p]).toNat):128≤(runeAt (ofL l) p).1:=by
 unfold runeAt Utf8.decode
 have e:((ofL l).get! (p+0)).toNat=(l[p]).toNat:=by
  show (l.toArray[p+0]!).toNat=_
  rw[Nat.add_zero,getElem!_pos _ p (by simpa using hp)];simp
 simp only[e];rw[if_neg (by omega)];unfold Utf8.runeError;split
 ·split<;>simp<;>omega
 ·split
  ·split
   ·rename_i h2;simp at h2 ⊢;omega
   ·simp
  ·split
   ·split
    ·rename_i h2;simp at h2 ⊢;omega
    ·simp
   ·simp
def fiL:List UInt8→Int→Int
 | [],_=>-1
 | c::r,i=>if nlt c.toNat then i else fiL r (i+1)
theorem J84 (k:Nat) (l:List UInt8) (hl:l.length<2^62) (hk:J03 Tryz.prog k) (hf:∀ n:Int,PureCall Tryz.prog k [.val (.int .i32 n)] (encB (nlt n))) :
  PureCall Tryz.prog 398 [encS (ofL l),.fn (.func k) [] [],encB true] (encI (fiL l 0)):=by
 refine PC [] Tryz.func398 rfl (by rfl) rfl ?_;generalize hF:fiL l 0=F;refine kWS ?_;intros;refine LoopP.intro (fun m σ H=>∃ g p,m=l.length-p∧p≤l.length∧fiL (l.drop p) p=F∧σ=fr [(0,encS (ofL l)),(1,.fn (.func k) [] []),(2,encB true),(10,.it 10 g)]∧H=hp [(10,g,⟨0,0,[encS (ofL l),encI p]⟩)]) ?_ ?_
 ·exact .intro <| W.of ⟨_,_,0,rfl,Nat.zero_le _,hF,rfl,rfl⟩ ⟨rfl,rfl,rfl,rfl,trivial⟩ ⟨rfl,trivial⟩
 ·rintro m σ H ⟨g,p,rfl,hp,hF,rfl,rfl⟩;refine kWS ?_;intros;rw[J0J];refine CondP.dec (fun h=>?_) (fun h=>?_)<;>refine kW ?_
  ·have hp':p<l.length:=by omega
   rw[List.drop_eq_getElem_cons hp'] at hF;unfold fiL at hF
   by_cases h8:(l[p]).toNat<128
   ·have hr:runeAt (ofL l) (Int.toNat p)=((l[p]).toNat,1):=J6t l p hp' h8;rw[hr];generalize l[p]=c at hF h8 ⊢;refine kS ?_;intros;refine CallP.flat [] _ hk (hf _) rfl ?_;refine kWS ?_;intros;refine CondP.intro (fun h1=>?_) (fun h1=>?_)<;>refine kW ?_
    ·have h1':nlt c.toNat=true:=by simpa using h1
     rw[if_pos h1'] at hF;refine kS ?_;intros;exact .of (by rw[← hF];rfl)
    ·have h1':nlt c.toNat=false:=by simpa using h1
     rw[if_neg (by rw[h1'];decide)] at hF;refine kS ?_;intros
     exact .intro <| W.of ⟨_,by omega,_,p+1,rfl,hp',hF,rfl,rfl⟩ ⟨rfl,rfl,rfl,rfl,trivial⟩ ⟨rfl,trivial⟩
   ·have hr:=JEI l p hp' (by omega);have hn:nlt (l[p]).toNat=true:=by unfold nlt;simp;omega
    rw[if_pos hn] at hF;have hr2:nlt ((runeAt (ofL l) (Int.toNat p)).1:Nat)=true:=by unfold nlt;rw[Int.toNat_natCast];simp;omega
    refine kS ?_;intros;refine CallP.flat [] _ hk (hf _) rfl ?_;refine kW ?_;rw[hr2];refine kWS ?_;intros;exact .of (by rw[← hF];rfl)
  ·rw[List.drop_eq_nil_of_le (by omega)] at hF;refine kS ?_;intros;exact .of (by rw[← hF];rfl)
theorem J3t (k:Nat) (l:List UInt8) (hl:l.length<2^62) (hk:J03 Tryz.prog k) (hf:∀ n:Int,PureCall Tryz.prog k [.val (.int .i32 n)] (encB (nlt n))) :
  PureCall Tryz.prog 388 [encS (ofL l),.fn (.func k) [] []] (encI (fiL l 0)):=by
 refine PC [] Tryz.func388 rfl (by rfl) rfl ?_;refine kWS ?_;intros;refine CallP.flat [] _ c398 (J84 k l hl hk hf) rfl ?_;refine kWS ?_;intros;exact .of rfl
theorem J4j (k:Nat) (l:List UInt8) (hl:l.length<2^62) (hk:J03 Tryz.prog k) (hf:∀ n:Int,PureCall Tryz.prog k [.val (.int .i32 n)] (encB (nlt n))) :
  PureCall Tryz.prog 399 [encS (ofL l),.fn (.func k) [] []] (encB (decide (0≤fiL l 0))):=by
 refine PC [] Tryz.func399 rfl (by rfl) rfl ?_;refine kWS ?_;intros;refine CallP.flat [] _ c388 (J3t k l hl hk hf) rfl ?_;refine kWS ?_;intros;exact .of rfl
def symF (l:List UInt8):Bool:=decide (l≠[])&&decide (l.length≤8)&&!decide (0≤fiL l 0)
theorem J9x (l:List UInt8) (hl:l.length<2^62):PureCall Tryz.prog 390 [encS (ofL l)] (encB (symF l)):=by
 refine PC [] Tryz.func390 rfl (by rfl) rfl ?_;generalize hF:symF l=F;unfold symF at hF;have hn:=JAb l;have hsz:=J0J l;refine kWS ?_;intros;refine CondP.dec (fun h1=>?_) (fun h1=>?_)<;>refine kW ?_
 ·have h1':=hn.1 h1;subst h1';refine kS ?_;intros;exact .of (by rw[← hF];rfl)
 ·rw[decide_eq_true (show l≠[] from fun e=>h1 (hn.2 e)),Bool.true_and] at hF;refine kS ?_;intros;rw[hsz];refine CondP.dec (fun h=>?_) (fun h=>?_)<;>refine kW ?_
  ·rw[decide_eq_true (by omega),Bool.true_and] at hF;refine kS ?_;intros;refine CallP.flat [] _ c399 (J4j 400 l hl c400 JCQ) rfl ?_;refine kWS ?_;intros;exact .of (by rw[← hF];rfl)
  ·rw[decide_eq_false (by omega),Bool.false_and] at hF;refine kS ?_;intros;exact .of (by rw[← hF];rfl)
def cntL (l:List UInt8) (c:UInt8):Nat:=l.count c
theorem JHW (l:List UInt8) (n:Nat) (h:n<256):J2g Tryz.prog 405 [encS (ofL l),.val (.int .u8 n)] (.int .i64 (cntL l (UInt8.ofNat n))):=by
 refine ⟨rfl,fun κ w N vs hv=>?_⟩;rw[vrs2 hv];have h1:Tryz.prog.funcs[405]?=some Tryz.f405:=Tryz.func405;have h2:(Tryz.f405.name == "runtime.NumGoroutine")=false:=by kernel_rfl
 have h3:Tryz.f405.body.isNone=true:=by kernel_rfl
 have h4:Extern.findNext Tryz.f405=none:=by kernel_rfl
 have h5:Extern.find Tryz.f405=some Extern.BytealgCount.count:=by kernel_rfl
 simp only[callFunc,Sem.run_bind,run_program,Result.andThen_ok,h1,h2,h3,h4,h5,run_mark,if_true,Bool.false_eq_true,if_false];rw[show (Extern.BytealgCount.count #[.string (ofL l),.int .u8 n]).run Tryz.prog w=_ from Lib.run_countString (ofL l) n w,Int.toNat_natCast];rfl
theorem JI3 (l:List UInt8) (c:UInt8) (hl:l.length<2^62):PureCall Tryz.prog 396 [encS (ofL l),encS (b1 c)] (encI (cntL l c)):=by
 refine PC [] Tryz.func396 rfl (by rfl) rfl ?_;have hb:(b1 c).size=1:=rfl;have hc:byteAt (b1 c) (Int.toNat 0)=(c.toNat:Int):=rfl;have he:=JHW l c.toNat c.toNat_lt;rw[UInt8.ofNat_toNat] at he;refine kWS ?_;intros;rw[hc];refine CallP.ext _ he ?_;refine kWS ?_;intros;exact .of rfl
theorem JGA (s:ByteArray) (c:UInt8):PureCall Tryz.prog 397 [encS s,encS (b1 c)] (encI (idxB s c)):=by
 refine PC [] Tryz.func397 rfl (by rfl) rfl ?_;refine kWS ?_;intros;refine CallP.flat [] _ c350 (JC6 s c) rfl ?_;refine kWS ?_;intros;exact .of rfl
def splitL:List UInt8→List (List UInt8)
 | []=>[[]]
 | c::r=>if c=46 then []::splitL r else match splitL r with
   | x::xs=>(c::x)::xs
   | []=>[[c]]
theorem J5M (c:UInt8) (r:List UInt8):splitL (c::r)=if c=46 then []::splitL r else match splitL r with
 | x::xs=>(c::x)::xs
 | []=>[[c]]:=rfl
theorem JE3 (l:List UInt8):splitL l≠[]:=by
 cases l with
 | nil=>simp[splitL]
 | cons c r=>
   unfold splitL;split
   ·simp
   ·split<;>simp
theorem JCT (l:List UInt8):(splitL l).length=cntL l 46+1:=by
 induction l with
 | nil=>rfl
 | cons c r ih=>
   unfold splitL cntL;rw[List.count_cons];have hne:=JE3 r
   by_cases hc:c=46
   ·rw[if_pos hc];subst hc;simp[ih,cntL]
   ·rw[if_neg hc]
    cases hr:splitL r with
    | nil=>exact absurd hr hne
    | cons x xs=>
      rw[hr] at ih;unfold cntL at ih;simp only[List.length_cons] at ih ⊢;rw[if_neg (by simpa using hc)];omega
theorem JCS (l:List UInt8):(idxB (ofL l) 46<0→splitL l=[l]∧cntL l 46=0)∧(0≤idxB (ofL l) 46→splitL l=l.take (idxB (ofL l) 46).toNat::splitL (l.drop ((idxB (ofL l) 46).toNat+1))∧cntL l 46=cntL (l.drop ((idxB (ofL l) 46).toNat+1)) 46+1):=by
 induction l with
 | nil=>exact ⟨fun _=>⟨rfl,rfl⟩,by decide⟩
 | cons c r ih=>
   rw[J99,J5M]
   by_cases hc:c=46
   ·subst hc;simp[cntL]
   ·rw[if_neg hc,if_neg hc];obtain ⟨h1,h2⟩:=ih;have hcnt:cntL (c::r) 46=cntL r 46:=by unfold cntL;rw[List.count_cons,if_neg (by simpa using hc)];rfl
    rw[hcnt]
    by_cases hi:idxB (ofL r) 46<0
    ·rw[if_pos hi];obtain ⟨h3,h4⟩:=h1 hi;rw[h3];exact ⟨fun _=>⟨rfl,h4⟩,fun h=>by omega⟩
    ·rw[if_neg hi];obtain ⟨h3,h4⟩:=h2 (by omega);refine ⟨fun h=>by omega,fun _=>?_⟩;rw[show (idxB (ofL r) 46+1).toNat=(idxB (ofL r) 46).toNat+1 by omega,h3];refine ⟨?_,h4⟩;rw[List.take_succ_cons,List.drop_succ_cons]
def encL (l:List UInt8):AV:=encS (ofL l)
theorem repS (n:Nat):List.replicate n (mkEl { size:=1,bytes:=16,zero:=[Value.string ⟨#[]⟩],kind:=Kd.str })=(List.replicate n ([]:List UInt8)).map encL:=by rw[List.map_replicate];rfl
theorem setL (xs:List (List UInt8)) (v:List UInt8) (n i:Nat) (h:i=xs.length):((xs++List.replicate (n+1) []).map encL).set i (encL v)=((xs++[v])++List.replicate n []).map encL:=by
 subst h;rw[List.replicate_succ,JEF encL _ _ v _ rfl,JIH];simp
theorem endL {S:List Nat} {H:Hp} {k:Nat} {L:List AV} {n:Nat} {xs:List (List UInt8)} (h:L=xs.map encL) (hn:n=xs.length):AV.sl 1 (((L.drop 0).take n).map (J0V (J04 S H k)))=.sl 1 (xs.map encL):=by
 subst h;rw[J1T _ _ _ _ hn fun x=>by cases k<;>rfl]
theorem JAg (l:List UInt8) (hl:l.length<2^40):PureCall Tryz.prog 387 [encS (ofL l),encS (b1 46),encI 0,encI (-1)] (.sl 1 ((splitL l).map encL)):=by
 refine PC [31] Tryz.func387 rfl (by rfl) rfl ?_;have hb:(b1 46).size=1:=rfl;have hsz:=J0J l;have hcl:cntL l 46≤l.length:=List.count_le_length;refine kWS ?_;intros;refine CallP.flat [] _ c396 (JI3 l 46 (by omega)) rfl ?_;refine kWS ?_;intros;have e0:(min ((cntL l 46:Int)+1) (((ofL l).size:Int)+1)).toNat=cntL l 46+1:=by rw[hsz];omega
 have e1:min ((cntL l 46:Int)+1) (((ofL l).size:Int)+1)-1=cntL l 46:=by rw[hsz];omega
 simp only[e0,e1]
 refine LoopP.intro (fun k σ H=>∃ g,∃ xs:List (List UInt8),∃ m:List UInt8,k=cntL m 46∧splitL l=xs++splitL m∧xs.length+cntL m 46=cntL l 46∧m.length≤l.length ∧
  σ=fr [(0,encS (ofL m)),(1,encS (b1 46)),(2,encI 0),(3,encI (cntL l 46)),(9,.own 31 g 0 (cntL l 46+1)),(10,encI xs.length)] ∧
  H=hp [(31,g,⟨9,1,(xs++List.replicate (cntL m 46+1) []).map encL⟩)]) ?_ ?_
 ·refine .intro <| W.of ⟨_,_,[],l,rfl,rfl,by simp,Nat.le_refl _,rfl,rfl⟩ ⟨rfl,rfl,rfl,rfl,rfl,rfl,trivial⟩ ⟨?_,trivial⟩
  show some (_,(⟨_,_,_⟩:Blk))=some (_,⟨_,_,_⟩)
  rw[List.nil_append,← repS]
 ·rintro k σ H ⟨g,xs,m,rfl,hs,hc,hm,rfl,rfl⟩;have hszm:=J0J m;have hli:=@JEu (ofL m) 46;obtain ⟨hi1,hi2⟩:=JCS m;refine kWS ?_;intros;refine CondP.dec (fun h=>?_) (fun h=>?_)<;>refine kW ?_
  ·refine kS ?_;intros;refine CallP.flat [] _ c397 (JGA (ofL m) 46) rfl ?_
   have hpos:0≤idxB (ofL m) 46:=by
    rcases Int.lt_or_le (idxB (ofL m) 46) 0 with h' | h'
    ·have:=(hi1 h').2;omega
    ·exact h'
   obtain ⟨hsp,hcn⟩:=hi2 hpos;generalize idxB (ofL m) 46=j at *;refine kWS ?_;intros;refine CondP.neg (by omega) ?_;refine kWS ?_;intros;rw[Nat.zero_add,Int.toNat_natCast,J25 encL _ _ (by simp)];refine kWS ?_;intros
   refine .intro <| W.of ⟨cntL (m.drop (j.toNat+1)) 46,by omega,g,xs++[m.take j.toNat],m.drop (j.toNat+1),rfl,by rw[hs,hsp];simp,by simp;omega,by simp<;>omega,rfl,rfl⟩ ⟨?_,rfl,rfl,rfl,rfl,?_,trivial⟩ ⟨?_,trivial⟩
   ·show encS ((ofL m).extract (j+(((b1 46).size:Nat):Int)).toNat (ofL m).size)=encS _
    rw[hb,J0P,hszm,List.take_length,show (j+((1:Nat):Int)).toNat=j.toNat+1 by omega]
   ·show AV.val (.int .i64 _)=AV.val (.int .i64 _)
    congr 2;simp
   ·have hv:encS ((ofL m).extract 0 (j+0).toNat)=encL (m.take j.toNat):=by
     rw[J0P,Int.add_zero,List.drop_zero];rfl
    show some (g,(⟨9,1,List.set _ _ (encS ((ofL m).extract 0 (j+0).toNat))⟩:Blk))=_
    rw[hv,setL _ _ _ _ rfl,hcn]
  ·have hc0:cntL m 46=0:=by omega
   have hsm:splitL m=[m]:=by
    rcases Int.lt_or_le (idxB (ofL m) 46) 0 with h' | h'
    ·exact (hi1 h').1
    ·have:=(hi2 h').2;omega
   rw[hsm] at hs;rw[hc0];refine kS ?_;intros;rw[Nat.zero_add,Int.toNat_natCast,J25 encL _ _ (by simp)];refine kWS ?_;intros;refine .of ?_;rw[hs];refine endL (L:=((xs++List.replicate (0+1) []).map encL).set _ (encL m)) (xs:=xs++[m]) ?_ ?_
   ·exact (setL _ _ 0 _ (by omega)).trans (by simp)
   ·show ((xs.length:Int)+1).toNat-0=_
    rw[List.length_append,List.length_singleton];omega
theorem JHz (l:List UInt8) (hl:l.length<2^40):PureCall Tryz.prog 379 [encS (ofL l),encS (b1 46)] (.sl 1 ((splitL l).map encL)):=by
 refine PC [] Tryz.func379 rfl (by rfl) rfl ?_;refine kWS ?_;intros;refine J00 [] _ c387 (JAg l hl) ?_;refine kWS ?_;intros;exact .of rfl
def fitsF (n d:Int):Bool:=!decide (sgn n=0)&&decide (nd n≤9)&&decide (nd d≤9)
theorem JJU (n d:Int) (hn:zl n<2^36) (hd:zl d<2^36):PureCall Tryz.prog 392 [encQ n d] (encB (fitsF n d)):=by
 refine PC [] Tryz.func392 rfl (by rfl) rfl ?_;generalize hF:fitsF n d=F;unfold fitsF at hF;have hs:=J4z n d;have h1:=JJx n d;have h2:=JK4 n d;generalize sgn n=s at hF hs;unfold encQ at hs h1 h2 ⊢;refine kWS ?_;intros;refine CallP.flat [] _ c111 hs rfl ?_;refine kWS ?_;intros;refine CondP.dec (fun h=>?_) (fun h=>?_)<;>refine kW ?_
 ·rw[decide_eq_true h] at hF;refine kS ?_;intros;exact .of (by rw[← hF];rfl)
 rw[decide_eq_false h,Bool.not_false,Bool.true_and] at hF;refine kS ?_;intros;refine J00 [] _ c402 h1 ?_;refine kWS ?_;intros;refine CallP.flat [] _ c217 (J2h n hn) rfl ?_;refine kWS ?_;intros;refine CondP.dec (fun h=>?_) (fun h=>?_)<;>refine kW ?_
 ·rw[decide_eq_true (by omega),Bool.true_and] at hF;refine kS ?_;intros;refine J00 [] _ c403 h2 ?_;refine kWS ?_;intros;refine CallP.flat [] _ c217 (J2h d hd) rfl ?_;refine kWS ?_;intros;refine .of ?_;rw[← hF];show AV.val (.bool _)=AV.val (.bool _)
  congr 2
  exact decide_eq_decide.2 (by omega)
 ·rw[decide_eq_false (by omega),Bool.false_and] at hF;refine kS ?_;intros;exact .of (by rw[← hF];rfl)
def wrT (n d:Int):List Nat:=if qT n d=[49] then [] else if d=1 then qT n d else 40::qT n d++[41]
theorem JJD {a b:List Nat} (ha:∀ c∈a,c<256) (hb:∀ c∈b,c<256) (h:ofL (a.map UInt8.ofNat)=ofL (b.map UInt8.ofNat)):a=b:=by
 have h1:=congrArg (fun s:ByteArray=>s.data.toList.map UInt8.toNat) h;simp only[ofL,List.map_map] at h1
 have key:∀ l:List Nat,(∀ c∈l,c<256)→l.map (UInt8.toNat∘UInt8.ofNat)=l:=by
  intro l hl;refine (List.map_congr_left fun c hc=>?_).trans (List.map_id l);have:=hl c hc;simp;omega
 rwa [key a ha,key b hb] at h1
theorem decT_lt (n:Nat):∀ c∈decT n,c<256:=by
 intro c hc;have:=List.all_eq_true.1 (JFH n) c hc;unfold isDg at this;simp at this;omega
theorem JJ3 (z:Int):∀ c∈sT z,c<256:=by
 intro c hc;unfold sT at hc;split at hc
 ·rcases List.mem_cons.1 hc with h | h
  ·omega
  ·exact decT_lt _ c h
 ·exact decT_lt _ c hc
theorem JL7 (n d:Int):∀ c∈qT n d,c<256:=by
 intro c hc;unfold qT at hc;split at hc
 ·exact JJ3 _ c hc
 ·rcases List.mem_append.1 hc with h | h
  ·exact JJ3 _ c h
  ·rcases List.mem_cons.1 h with h | h
   ·omega
   ·exact JJ3 _ c h
theorem JL8 (n d:Int):(qT n d).length≤9*zl n+9*zl d+5:=by
 have s3:=JGs n;have s4:=JGs d;unfold qT;split
 ·omega
 ·simp;omega
theorem JGU (n d:Int) (hn:zl n<2^36) (hd:zl d<2^36):PureCall Tryz.prog 393 [encQ n d] (encT (wrT n d)):=by
 refine PC [] Tryz.func393 rfl (by rfl) rfl ?_;have hs:=J7Z n d hn hd;have hi:=J6Z n d;have hle:=JL8 n d;have hlt:=JL7 n d;have hsz:=J3b (qT n d);generalize hF:wrT n d=F;unfold wrT at hF
 have h1:ofL ((qT n d).map UInt8.ofNat)=⟨#[49]⟩↔qT n d=[49]:=by
  constructor
  ·intro h;exact JJD hlt (by simp) (h.trans (show (⟨#[49]⟩:ByteArray)=ofL ([49].map UInt8.ofNat) from rfl))
  ·intro h;rw[h];rfl
 generalize qT n d=q at *;unfold encQ at hs hi ⊢;refine kWS ?_;intros;refine CallP.flat [] _ c150 hs rfl ?_;refine kWS ?_;intros;refine CondP.dec (fun h=>?_) (fun h=>?_)<;>refine kW ?_
 ·rw[if_pos (h1.1 h)] at hF;refine kS ?_;intros;exact .of (by rw[← hF];rfl)
 rw[if_neg (fun e=>h (h1.2 e))] at hF;refine kS ?_;intros;refine CallP.flat [] _ c327 hi rfl ?_;refine kWS ?_;intros;refine CondP.dec (fun h2=>?_) (fun h2=>?_)<;>refine kW ?_
 ·rw[if_pos h2] at hF;refine kS ?_;intros;exact .of (by rw[← hF];rfl)
 rw[if_neg h2] at hF;have s5:(⟨#[40]⟩:ByteArray).size=1:=rfl;have s6:(⟨#[41]⟩:ByteArray).size=1:=rfl;refine kS ?_;intros;rw[ByteArray.size_append];refine kS ?_;intros;refine .of ?_;rw[← hF];have e1:(⟨#[40]⟩:ByteArray)=ofL (List.map UInt8.ofNat [40]):=rfl;have e2:(⟨#[41]⟩:ByteArray)=ofL (List.map UInt8.ofNat [41]):=rfl;show encS _=encS _
 rw[e1,e2,J4r,J4r];rfl
theorem JJw:PureCall Tryz.prog 142 [encI 1] (encQ 1 1):=by
 refine PC [] Tryz.func142 rfl (by rfl) rfl ?_;refine kWS ?_;intros;refine J00 [] _ c216 Of1_ok ?_;refine kWS ?_;intros;refine J00 [] _ c216 Of1_ok ?_;refine kWS ?_;intros;exact .of rfl
theorem JKZ (l:List UInt8):∀ i:Int,0≤i→fiL l i=-1∨(i≤fiL l i∧fiL l i<i+l.length):=by
 induction l with
 | nil=>intro i hi;left;rfl
 | cons c r ih=>
   intro i hi;unfold fiL;split
   ·right;simp;omega
   ·rcases ih (i+1) (by omega) with h | h
    ·left;exact h
    ·right;simp;omega
def facT (s:ByteArray) (j:Nat):ByteArray:=
 if (cutP (s.extract j s.size) (b1 40)).2 then J8l (cutP (s.extract j s.size) (b1 40)).1 (b1 41) else s.extract j s.size
def facF (s:ByteArray):ByteArray×Option (Int×Int)×Bool:=
 if fiL s.data.toList 0<0 then (s,some (1,1),symF s.data.toList)
 else (s.extract 0 (fiL s.data.toList 0).toNat,(J0B (facT s (fiL s.data.toList 0).toNat).data.toList).1,
  (J0B (facT s (fiL s.data.toList 0).toNat).data.toList).2&&symF (s.extract 0 (fiL s.data.toList 0).toNat).data.toList&&match (J0B (facT s (fiL s.data.toList 0).toNat).data.toList).1 with
    | some (n,d)=>fitsF n d&&decide (ofL ((wrT n d).map UInt8.ofNat)=s.extract (fiL s.data.toList 0).toNat s.size)
    | none=>false)
theorem J2r (s:ByteArray) (a b:Nat):(s.extract a b).size≤s.size:=by
 have:=J0P s.data.toList a b;rw[J1B] at this;rw[this,J0J,List.length_drop,List.length_take];show _≤s.data.toList.length
 omega
theorem J9b (s p:ByteArray):(cutP s p).1.size≤s.size:=by
 unfold cutP;split
 ·exact J2r ..
 ·exact Nat.le_refl _
theorem JCN (s p:ByteArray):(J8l s p).size≤s.size:=by
 unfold J8l;split
 ·exact J2r ..
 ·exact Nat.le_refl _
theorem JF6 (s:ByteArray) (j:Nat):(facT s j).size≤s.size:=by
 unfold facT;split
 ·exact Nat.le_trans (JCN ..) (Nat.le_trans (J9b ..) (J2r ..))
 ·exact J2r ..
theorem JEa {l:List UInt8} {n d:Int} (h:(J0B l).1=some (n,d)):zl n≤l.length∧zl d≤l.length+1:=by
 obtain ⟨hp1,hp2⟩:=JBV l;have h1:zl 1=1:=by unfold zl;rw[show (1:Int).natAbs=1 from rfl,J6C hB9 (by omega) (by unfold B9;omega)];rfl
 unfold J0B at h;split at h
 ·cases h
 ·rename_i x hx;have:=J3P hx;split at h
  ·cases h;omega
  ·split at h
   ·cases h
   ·rename_i y hy;have:=J3P hy;split at h<;>cases h
    omega
theorem JAY {l:List UInt8} (h:(J0B l).2=true):∃ n d,(J0B l).1=some (n,d):=by
 unfold J0B at *;split
 ·rename_i hx;rw[hx] at h;cases h
 ·rename_i x hx;rw[hx] at h;simp only at h;split
  ·exact ⟨_,_,rfl⟩
  ·rename_i hy;rw[hy] at h;simp only at h;split
   ·rename_i hz;rw[hz] at h;cases h
   ·rename_i y hz;rw[hz] at h;simp only at h;split
    ·rename_i h1;rw[if_pos h1] at h;cases h
    ·exact ⟨_,_,rfl⟩
theorem JF5 (s:ByteArray) (hs:s.size<2^35):PureCall Tryz.prog 380 [encS s] (.tup [encS (facF s).1,qAV (facF s).2.1,encB (facF s).2.2]):=by
 refine PC [] Tryz.func380 rfl (by rfl) rfl ?_;have hi:=J3t 389 s.data.toList (by exact Nat.lt_trans hs (by decide)) c389 JD4;rw[J1B] at hi;have hj:=JKZ s.data.toList 0 (by omega)
 have hj2:fiL s.data.toList 0≤s.size:=by
  have:s.data.toList.length=s.size:=rfl;omega
 generalize hF:facF s=F;unfold facF at hF;generalize fiL s.data.toList 0=j at *;refine kWS ?_;intros;refine CallP.flat [] _ c388 hi rfl ?_;refine kWS ?_;intros;refine CondP.dec (fun h=>?_) (fun h=>?_)<;>refine kW ?_
 ·rw[if_pos h] at hF;have hsy:=J9x s.data.toList (by exact Nat.lt_trans hs (by decide));rw[J1B] at hsy;refine kS ?_;intros;refine J00 [] _ c142 JJw ?_;refine kWS ?_;intros;refine CallP.flat [] _ c390 hsy rfl ?_;refine kWS ?_;intros;exact .of (by rw[← hF];rfl)
 rw[if_neg h] at hF;have he:=J2r s j.toNat s.size;have he2:=J2r s 0 j.toNat;have ht:=JF6 s j.toNat;have hcs:=J9b (s.extract j.toNat s.size) (b1 40);have hcp:=J4d (s.extract j.toNat s.size) (b1 40) (by omega) (by decide);have htx:=J8X (cutP (s.extract j.toNat s.size) (b1 40)).1 (b1 41) (by omega) (by decide);have hpq:=J2f (facT s j.toNat).data.toList (by show (facT s j.toNat).size<_;omega);rw[J1B,JBS] at hpq;have hzl:=@JEa (facT s j.toNat).data.toList;have hps:=@JAY (facT s j.toNat).data.toList;have hlen:(facT s j.toNat).data.toList.length<2^35:=by show (facT s j.toNat).size<_;omega
 generalize hp:J0B (facT s j.toNat).data.toList=p at hF hpq hzl hps;have hsy:=J9x (s.extract 0 j.toNat).data.toList (by show (s.extract 0 j.toNat).size<_;omega);rw[J1B] at hsy;generalize hsym:symF (s.extract 0 j.toNat).data.toList=sy at hF hsy;refine kS ?_;intros;refine J00 [] _ c302 hcp ?_
 have hfT:facT s j.toNat=if (cutP (s.extract j.toNat s.size) (b1 40)).2 then J8l (cutP (s.extract j.toNat s.size) (b1 40)).1 (b1 41) else s.extract j.toNat s.size:=rfl
 generalize cutP (s.extract j.toNat s.size) (b1 40)=cp at htx hfT;refine kWS ?_;intros;refine CondP.intro (fun h1=>?_) (fun h1=>?_)<;>refine kX ?_
 case' refine_1=>
  rw[if_pos h1] at hfT;rw[← hfT] at htx;refine kS ?_;intros;refine CallP.flat [] _ c391 htx rfl ?_;refine kX ?_;refine kZ ?_;intros
 case' refine_2=>
  rw[if_neg (by rw[h1];decide)] at hfT
 all_goals
  refine J0q (W.of (l:=[(0,encS s),(2,encS ⟨#[]⟩),(3,.op 3 _ 0 0),(4,encB false),(5,encI j),(6,encS (facT s j.toNat))]) (m:=[(3,_,⟨104,4,[nilQ]⟩)]) ?_ ⟨rfl,rfl,rfl,rfl,rfl,congrArg encS ?_,trivial⟩ ⟨rfl,trivial⟩)
 case' refine_1.refine_2=>exact rfl
 case' refine_2.refine_2=>exact hfT.symm
 all_goals
  clear hfT htx hcp hcs h1 cp;generalize facT s j.toNat=tt at *;obtain ⟨o,b⟩:=p;refine kWS ?_;intros;refine J00 [] _ c134 hpq ?_
  cases b with
  | false=>
    replace hF:(s.extract 0 j.toNat,o,false)=F:=hF
    rcases J1q o with ho | ⟨n,d,ho⟩
    all_goals
     simp only[ho];refine kWS ?_;intros;exact .of (by rw[← hF,ho];rfl)
  | true=>
    obtain ⟨n,d,ho⟩:=hps rfl;replace ho:o=some (n,d):=ho;subst ho;obtain ⟨z1,z2⟩:=hzl rfl;have z1':zl n<2^36:=by omega
    have z2':zl d<2^36:=by omega
    have hfi:=JJU n d z1' z2';have hwr:=JGU n d z1' z2';replace hF:(s.extract 0 j.toNat,some (n,d),true&&sy&&(fitsF n d&&decide (ofL ((wrT n d).map UInt8.ofNat)=s.extract j.toNat s.size)))=F:=hF;rw[Bool.true_and] at hF;generalize fitsF n d=fi at hfi hF;unfold encT at hwr;generalize ofL ((wrT n d).map UInt8.ofNat)=wr at hwr hF;refine kWS ?_;intros;refine CallG.intro _ c390 hsy ?_;refine kWS ?_;intros;refine CondP.intro (fun h1=>?_) (fun h1=>?_)<;>refine kW ?_
    case' refine_2=>
     rw[h1,Bool.false_and] at hF;refine kS ?_;intros;exact .of (by rw[← hF];rfl)
    rw[h1,Bool.true_and] at hF;refine kS ?_;intros;refine CallG.intro _ c392 hfi ?_;refine kWS ?_;intros;refine CondP.intro (fun h2=>?_) (fun h2=>?_)<;>refine kW ?_
    case' refine_2=>
     rw[h2,Bool.false_and] at hF;refine kS ?_;intros;exact .of (by rw[← hF];rfl)
    rw[h2,Bool.true_and] at hF;refine kS ?_;intros;refine CallG.intro _ c393 hwr ?_;refine kWS ?_;intros;exact .of (by rw[← hF];rfl)
def leqS (a b:ByteArray):Bool:=Op.bytesLess a.toList b.toList||decide (a=b)
def J58:List (List UInt8)→ByteArray→Bool
 | [],_=>true
 | f::r,last=>(facF (ofL f)).2.2&&!leqS (facF (ofL f)).1 last&&J58 r (facF (ofL f)).1
theorem JCR (l:List UInt8):∀ f∈splitL l,f.length≤l.length:=by
 induction l with
 | nil=>intro f hf;simp[splitL] at hf;subst hf;simp
 | cons c r ih=>
   intro f hf;rw[J5M] at hf;split at hf
   ·rcases List.mem_cons.1 hf with h | h
    ·subst h;simp
    ·have:=ih f h;simp;omega
   ·split at hf
    ·rename_i x xs hr
     rcases List.mem_cons.1 hf with h | h
     ·subst h;have:=ih x (by rw[hr];simp);simp;omega
     ·have:=ih f (by rw[hr];simp[h]);simp;omega
    ·simp at hf;subst hf;simp
theorem JHU (s:ByteArray) (ks:List ByteArray):∃ r,J0i (J0e T 9 (encS s)) (ks.map encS)=some r:=by
 obtain ⟨r,h,_⟩:=J1f (β:=Unit) (fun _=>.dead) s (ks.map fun k=>(k,()));refine ⟨r,?_⟩;rw[List.map_map] at h;exact h
def resU (s:ByteArray):AV:=
 if s=⟨#[49]⟩ then .tup [.dead,encB true]
 else if J58 (splitL s.data.toList) ⟨#[]⟩ then .tup [.dead,encB (decide (s.size≤80))]
 else .tup [.val (.map none),encB false]
theorem JG5 (s:ByteArray) (hs:s.size<2^35):PureCall Tryz.prog 365 [encS s] (resU s):=by
 refine PC [] Tryz.func365 rfl (by rfl) rfl ?_;have hsp:=JHz s.data.toList (by show s.size<_;omega);rw[J1B] at hsp;have hsl:=JCR s.data.toList;have hsc:=JCT s.data.toList;have hcc:cntL s.data.toList 46≤s.size:=List.count_le_length
 have hfl:∀ f∈splitL s.data.toList,(ofL f).size<2^35:=fun f hf=>by
  have:=hsl f hf;have e:s.data.toList.length=s.size:=rfl;rw[J0J];omega
 clear hsl;generalize hF:resU s=F;unfold resU at hF;generalize splitL s.data.toList=fs at *;refine kWS ?_;intros;refine CondP.dec (fun h=>?_) (fun h=>?_)<;>refine kW ?_
 ·rw[if_pos h] at hF;refine kS ?_;intros;exact .of (by rw[← hF];rfl)
 rw[if_neg h] at hF;refine kS ?_;intros;refine J00 [] _ c379 hsp ?_;refine kWS ?_;intros
 refine LoopP.intro (fun m σ H=>∃ g i last,∃ kl vs:List AV,(∃ ks:List ByteArray,kl=ks.map encS)∧m=fs.length-i∧i≤fs.length ∧
  (if J58 (fs.drop i) last then AV.tup [.dead,encB (decide (s.size≤80))] else .tup [.val (.map none),encB false])=F ∧
  σ=fr [(0,encS s),(4,.om 11 g),(5,encS last),(16,.sl 1 (fs.map encL)),(17,encI fs.length),(18,encI i)] ∧
  H=hp [(11,g,⟨384,0,[.mp kl vs]⟩)]) ?_ ?_
 ·refine .intro <| W.of ⟨_,_,0,_,[],[],⟨[],rfl⟩,rfl,Nat.zero_le _,hF,rfl,rfl⟩ ⟨rfl,rfl,rfl,rfl,?_,rfl,trivial⟩ ⟨rfl,trivial⟩
  show AV.val (.int .i64 _)=AV.val (.int .i64 _)
  rw[List.length_map]
 ·clear hF;rintro m σ H ⟨g,i,last,kl,vs,⟨ks,rfl⟩,rfl,hi,hF,rfl,rfl⟩;refine kWS ?_;intros;refine CondP.dec (fun h=>?_) (fun h=>?_)<;>refine kW ?_
  ·have hi':i<fs.length:=by omega
   rw[List.drop_eq_getElem_cons hi'] at hF;unfold J58 at hF;have hfa:=JF5 (ofL fs[i]) (hfl _ (List.getElem_mem hi'));generalize facF (ofL fs[i])=fa at hF hfa;obtain ⟨nm,o,b⟩:=fa;refine kR ?_;intros;generalize fs[i]=f at hfa ⊢;refine J00 [] _ c380 hfa ?_;obtain ⟨q,hq⟩:∃ q,q=qAV o:=⟨_,rfl⟩;have hq2:=J1q o;rw[← hq] at hq2;replace hF:(if (b&&!leqS nm last&&J58 (fs.drop (i+1)) nm) then AV.tup [.dead,encB (decide (s.size≤80))] else .tup [.val (.map none),encB false])=F:=hF;show J1P _ _ _ (put _ _ (.tup [encS nm,qAV o,encB b])) _ _
   rw[← hq]
   rcases hq2 with rfl | ⟨n,d,rfl⟩
   all_goals
    refine kWT ?_;intros
    cases b with
    | false=>
      replace hF:AV.tup [.val (.map none),encB false]=F:=hF;refine kT ?_;intros;exact .of (by rw[← hF];rfl)
    | true=>
      rw[Bool.true_and] at hF;refine kT ?_;intros;refine CondP.intro (fun h2=>?_) (fun h2=>?_)<;>refine kW ?_
      ·rw[show leqS nm last=true from h2] at hF;replace hF:AV.tup [.val (.map none),encB false]=F:=hF;refine kT ?_;intros;exact .of (by rw[← hF];rfl)
      rw[show leqS nm last=false from h2,Bool.not_false,Bool.true_and] at hF;refine kT ?_;intros;refine J0y [(5,false),(6,true)] (by kernel_rfl) ?_;refine kWY ?_;intros;refine Need.intro keyst9 ?_;refine kWY ?_;intros;obtain ⟨r,hr⟩:=JHU nm ks;refine LookP.intro r hr ?_
      cases r with
      | none=>
        refine kWY ?_;intros
        exact .intro <| W.of ⟨_,by omega,_,i+1,nm,ks.map encS++[encS nm],_,⟨ks++[nm],by simp⟩,rfl,hi',hF,rfl,rfl⟩ ⟨rfl,rfl,rfl,rfl,rfl,rfl,trivial⟩ ⟨rfl,trivial⟩
      | some j=>
        refine kWY ?_;intros
        exact .intro <| W.of ⟨_,by omega,_,i+1,nm,ks.map encS,_,⟨ks,rfl⟩,rfl,hi',hF,rfl,rfl⟩ ⟨rfl,rfl,rfl,rfl,rfl,rfl,trivial⟩ ⟨rfl,trivial⟩
  ·rw[List.drop_eq_nil_of_le (by omega)] at hF;replace hF:AV.tup [.dead,encB (decide (s.size≤80))]=F:=hF;refine kS ?_;intros;refine .of ?_;rw[← hF];show AV.tup [_,.val (.bool (decide ((s.size:Int)≤80)))]=AV.tup [_,.val (.bool (decide (s.size≤80)))]
   rw[show decide ((s.size:Int)≤80)=decide (s.size≤80) from decide_eq_decide.2 (by omega)]
def unitF (s:ByteArray):Bool:=decide (s=⟨#[49]⟩)||(J58 (splitL s.data.toList) ⟨#[]⟩&&decide (s.size≤80))
theorem JMM (s:ByteArray) (hs:s.size<2^35):PureCall Tryz.prog 321 [encS s] (encB (unitF s)):=by
 refine PC [] Tryz.func321 rfl (by rfl) rfl ?_;have hp:=JG5 s hs;unfold resU at hp;generalize hF:unitF s=F;unfold unitF at hF;split at hp
 ·rename_i h1;rw[decide_eq_true h1,Bool.true_or] at hF;refine kWS ?_;intros;refine J00 [] _ c365 hp ?_;refine kWS ?_;intros;exact .of (by rw[← hF];rfl)
 ·rename_i h1;rw[decide_eq_false h1,Bool.false_or] at hF;split at hp
  ·rename_i h2;rw[h2,Bool.true_and] at hF;refine kWS ?_;intros;refine J00 [] _ c365 hp ?_;refine kWS ?_;intros;exact .of (by rw[← hF];rfl)
  ·rename_i h2;rw[show J58 (splitL s.data.toList) ⟨#[]⟩=false by simpa using h2,Bool.false_and] at hF;refine kWS ?_;intros;refine J00 [] _ c365 hp ?_;refine kWS ?_;intros;exact .of (by rw[← hF];rfl)
theorem J9n (a:List UInt8):J2I (a.map UInt8.toNat)=true↔1≤a.length∧(a.length=1∨a.headD 0≠48)∧isDs a=true:=by
 unfold J2I;rw[JBl,List.length_map];simp only[Bool.and_eq_true,Bool.or_eq_true,decide_eq_true_eq,and_assoc];refine and_congr_right fun h1=>and_congr_left fun _=>or_congr_right ?_
 cases a with
 | nil=>simp at h1
 | cons c r=>
   simp only[List.map_cons,List.getD_cons_zero,List.headD_cons,ne_eq];refine not_congr ?_;exact ⟨fun h=>UInt8.toNat.inj (by rw[h];rfl),fun h=>by rw[h];rfl⟩
theorem JJC (m:Bool) (a:List UInt8):okW m a=true↔1≤a.length∧(a.headD 0≠48∨(a.length=1∧m=false))∧isDs a=true:=by
 unfold okW;simp only[Bool.and_eq_true,Bool.not_eq_true',Bool.and_eq_false_iff,Bool.or_eq_false_iff,decide_eq_false_iff_not,and_assoc];constructor
 ·rintro ⟨h1,h2,h3⟩
  have hl:1≤a.length:=by cases a with
   | nil=>simp at h1
   | cons c r=>simp
  exact ⟨hl,by rcases h2 with h | h;exact .inl h;exact .inr ⟨by omega,h.2⟩,h3⟩
 ·rintro ⟨h1,h2,h3⟩
  have he:a.isEmpty=false:=by cases a with
   | nil=>simp at h1
   | cons c r=>rfl
  exact ⟨he,by rcases h2 with h | h;exact .inl h;exact .inr ⟨by omega,h.2⟩,h3⟩
theorem JFF {a:List UInt8} (h:J2I (a.map UInt8.toNat)=true):decU a=0↔a=[48]:=by
 constructor
 ·intro h0;have:=J3e h;unfold decU at h0;rw[h0] at this;have h2:=congrArg (List.map UInt8.ofNat) this;rw[J5C] at h2;rw[← h2];rfl
 ·rintro rfl;rfl
theorem J3R (m:Bool) (a:List UInt8):okW m a=true↔J2I (a.map UInt8.toNat)=true∧¬ (m=true∧decU a=0):=by
 rw[JJC];constructor
 ·rintro ⟨h1,h2,h3⟩;have hc:J2I (a.map UInt8.toNat)=true:=(J9n a).2 ⟨h1,by rcases h2 with h | h;exact .inr h;exact .inl h.1,h3⟩;refine ⟨hc,fun ⟨hm,h0⟩=>?_⟩;have:=(JFF hc).1 h0;subst this
  rcases h2 with h | h
  ·exact h rfl
  ·rw[hm] at h;cases h.2
 ·rintro ⟨hc,hn⟩;obtain ⟨h1,h2,h3⟩:=(J9n a).1 hc;refine ⟨h1,?_,h3⟩
  by_cases hh:a.headD 0=48
  ·right;have hl:a.length=1:=h2.resolve_right (fun h=>h hh);refine ⟨hl,?_⟩
   cases m with
   | false=>rfl
   | true=>
     exfalso;obtain ⟨c,rfl⟩:=List.length_eq_one_iff.1 hl;simp at hh;subst hh;exact hn ⟨rfl,rfl⟩
  ·exact .inl hh
theorem JEi {a:List UInt8} (h:J2I (a.map UInt8.toNat)=true) (m:Bool):nd (if m then -(decU a:Int) else decU a)=a.length:=by
 have:(if m then -(decU a:Int) else (decU a:Int)).natAbs=decU a:=by cases m<;>simp
 unfold nd;rw[this];have:=J3e h;unfold decU;rw[this,List.length_map]
theorem J74 (t:List UInt8):J1r (45::t)=if okW true t then some (-(decU t:Int)) else none:=rfl
theorem J73 (t:List UInt8) (h:∀ r,t≠45::r):J1r t=if okW false t then some (decU t:Int) else none:=by
 unfold J1r;split
 ·rename_i r;exact absurd rfl (h r)
 ·rfl
def JBU (m:Bool) (t:List UInt8):Option (Int×Int)×Bool:=
 match (if okW m (J07 t).1 then some (if m then -(decU (J07 t).1:Int) else (decU (J07 t).1:Int)) else none) with
 | none=>(none,false)
 | some n=>match (J07 t).2.2 with
   | false=>(some (n,1),decide (nd n≤300))
   | true=>match J1r (J07 t).2.1 with
     | none=>(none,false)
     | some d=>if d≤1 then (none,false) else (some (n,d),decide (nd n≤300)&&decide (nd d≤300)&&decide (n.natAbs.gcd d.natAbs=1))
theorem JAZ (l:List UInt8):∃ t m,JAX l=JCl m t∧J0B l=JBU m t:=by
 unfold JAX;split
 ·rename_i t;refine ⟨t,true,rfl,?_⟩;unfold J0B JBU;rw[show J07 (45::t)=(45::(J07 t).1,(J07 t).2.1,(J07 t).2.2) by rw[J07,if_neg (by decide)]];simp only[J74,if_true];rfl
 ·rename_i h;refine ⟨l,false,rfl,?_⟩;unfold J0B JBU
  have hh:∀ r,(J07 l).1≠45::r:=by
   intro r e;obtain ⟨p1,p2,p3,p4,p5⟩:=J75 l;rw[e] at p2
   cases l with
   | nil=>simp at p2
   | cons c l=>
     rw[List.length_cons,List.take_succ_cons] at p2;have:=(List.cons.inj p2).1;exact h l (by rw[this])
  rw[J73 _ hh];rfl
theorem JCo (l:List UInt8):(J0B l).2=(JAX l).isSome∧∀ x,JAX l=some x→J0B l=(some (x.1,(x.2:Int)),true):=by
 obtain ⟨t,m,e1,e2⟩:=JAZ l;rw[e1,e2];unfold JBU JCl;generalize (J07 t).1=a;generalize (J07 t).2.1=b;generalize (J07 t).2.2=ok;have hda:=J4O a;have hdb:=J4O b
 by_cases ha:okW m a=true
 case neg=>
  have ha':okW m a=false:=by simpa using ha
  rw[ha']
  have:digB a=false∨(m=true∧decU a=0):=by
   by_cases h:J2I (a.map UInt8.toNat)=true
   ·right;exact Decidable.byContradiction fun e=>ha ((J3R m a).2 ⟨h,e⟩)
   ·left;rw[hda,show J2I (a.map UInt8.toNat)=false by simpa using h];rfl
  have hnone:(if digB a=false then none else if ok=true then if digB b=false then none else if decU b≤1∨Nat.gcd (decU a) (decU b)≠1 then none else if m=true∧decU a=0 then none else some (if m then -(decU a:Int) else (decU a:Int),decU b) else if m=true∧decU a=0 then none else some (if m then -(decU a:Int) else (decU a:Int),1))=none:=by
   rcases this with h | h
   ·rw[if_pos h]
   ·split
    ·rfl
    ·split
     ·split
      ·rfl
      ·split
       ·rfl
       ·first
         | rfl
         | rw[if_pos h]
     ·first
       | rfl
       | rw[if_pos h]
  rw[hnone];exact ⟨rfl,fun x h=>by cases h⟩
 obtain ⟨hc,hz⟩:=(J3R m a).1 ha;have hnd:=JEi hc m;have hna:(if m then -(decU a:Int) else (decU a:Int)).natAbs=decU a:=by cases m<;>simp
 rw[ha,if_pos rfl];simp only;rw[hnd,hna];rw[hc,Bool.true_and] at hda;generalize (if m then -(decU a:Int) else (decU a:Int))=n at *
 by_cases hl:a.length≤300
 case neg=>
  rw[decide_eq_false hl] at hda ⊢;rw[if_pos hda];refine ⟨?_,fun x h=>by cases h⟩
  cases ok with
  | false=>rfl
  | true=>
    cases J1r b with
    | none=>rfl
    | some d=>
      show (if d≤1 then ((none:Option (Int×Int)),false) else _).2=_
      split<;>rfl
 rw[decide_eq_true hl] at hda ⊢;rw[if_neg (by rw[hda];decide)]
 cases ok with
 | false=>
   rw[if_neg (by decide),if_neg hz];exact ⟨rfl,fun x h=>by cases h;rfl⟩
 | true=>
   rw[if_pos rfl];simp only[Bool.true_and]
   by_cases hb45:∃ r,b=45::r
   ·obtain ⟨r,rfl⟩:=hb45
    have hdf:digB (45::r)=false:=by
     rw[hdb]
     have:J2I ((45::r:List UInt8).map UInt8.toNat)=false:=by
      unfold J2I;simp[isDg]
     rw[this];rfl
    rw[if_pos hdf,J74];refine ⟨?_,fun x h=>by cases h⟩
    cases okW true r with
    | false=>rfl
    | true=>
      simp only[if_true];rw[if_pos (by omega)];rfl
   ·rw[J73 b (fun r e=>hb45 ⟨r,e⟩)]
    by_cases hb:okW false b=true
    case neg=>
     have hb':okW false b=false:=by simpa using hb
     have:digB b=false:=by
      rw[hdb]
      by_cases h:J2I (b.map UInt8.toNat)=true
      ·exact absurd ((J3R false b).2 ⟨h,fun e=>by cases e.1⟩) hb
      ·rw[show J2I (b.map UInt8.toNat)=false by simpa using h];rfl
     rw[hb',if_pos this];exact ⟨rfl,fun x h=>by cases h⟩
    obtain ⟨hcb,_⟩:=(J3R false b).1 hb;have hndb:=JEi hcb false;rw[hb];rw[hcb,Bool.true_and] at hdb;simp only[if_true,Bool.false_eq_true,if_false] at hndb ⊢
    by_cases hlb:b.length≤300
    ·rw[decide_eq_true hlb] at hdb;have hdn:¬ digB b=false:=by rw[hdb];decide
     by_cases hd1:decU b≤1
     ·rw[if_pos (show (decU b:Int)≤1 by omega),if_neg hdn,if_pos (.inl hd1)];exact ⟨rfl,fun x h=>by cases h⟩
     rw[if_neg (show ¬ (decU b:Int)≤1 by omega),if_neg hdn,hndb,decide_eq_true hlb];simp only[Bool.true_and,Int.natAbs_natCast]
     by_cases hg:Nat.gcd (decU a) (decU b)=1
     ·rw[if_neg (by rintro (h | h);omega;exact h hg),if_neg hz,decide_eq_true hg];exact ⟨rfl,fun x h=>by cases h;rfl⟩
     ·rw[if_pos (.inr hg),decide_eq_false hg];exact ⟨rfl,fun x h=>by cases h⟩
    ·rw[decide_eq_false hlb] at hdb;rw[if_pos hdb];refine ⟨?_,fun x h=>by cases h⟩;split
     ·rfl
     ·rw[hndb,decide_eq_false hlb];rfl
theorem J8Q (x y:UInt8) (a b:List UInt8):Op.bytesLess (x::a) (y::b)=(decide (x<y)||(decide (x=y)&&Op.bytesLess a b)):=by
 simp only[Op.bytesLess]
 by_cases h1:x<y
 ·simp[h1]
 ·by_cases h2:x=y<;>simp[h1,h2]
theorem JIV:∀ a b:List UInt8,(Op.bytesLess a b||decide (a=b))=!Op.bytesLess b a
 | [],[]=>by simp[Op.bytesLess]
 | [],_::_=>by simp[Op.bytesLess]
 | _::_,[]=>by simp[Op.bytesLess]
 | x :: a, y::b=>by
   rw[J8Q,J8Q];have ih:=JIV a b
   by_cases h1:x<y
   ·have h2:¬ y<x:=fun h=>absurd (UInt8.lt_trans h1 h) (UInt8.lt_irrefl x);have h3:¬ y=x:=fun h=>by subst h;exact UInt8.lt_irrefl _ h1
    simp[h1,h2,h3]
   ·by_cases h2:x=y
    ·subst h2;simp only[h1,decide_false,decide_true,Bool.false_or,Bool.true_and,List.cons.injEq,true_and];exact ih
    ·have h3:y<x:=by
      rcases Nat.lt_or_ge y.toNat x.toNat with h | h
      ·exact UInt8.lt_iff_toNat_lt.2 h
      ·exfalso
       rcases Nat.lt_or_ge x.toNat y.toNat with h' | h'
       ·exact h1 (UInt8.lt_iff_toNat_lt.2 h')
       ·exact h2 (UInt8.toNat.inj (by omega))
     have h4:¬ y=x:=fun h=>h2 h.symm;simp[h1,h2,h3,h4]
structure Eqn where
 name:ByteArray
 left:Ex
 right:Ex
structure Ac where
 kind:Int
 var:ByteArray
 value:Ex
structure Whn where
 name:ByteArray
 cond:Ex
 acts:List Ac
structure Sys where
 vars:List Va
 eqs:List Eqn
 inits:List Eqn
 whens:List Whn
def J33 (e:Ex):List AV:=[encS e.op,encS e.text,encI e.order,.sl 4 (e.kids.map encE)]
theorem J0G (e:Ex):encE e=.agg (J33 e):=J02 e
def J0o (q:Eqn):AV:=.agg (encS q.name::(J33 q.left++J33 q.right))
def J9N (a:Ac):AV:=.agg (encI a.kind::encS a.var::J33 a.value)
def J17 (w:Whn):AV:=.agg (encS w.name::(J33 w.cond++[.sl 6 (w.acts.map J9N)]))
def J0k (s:Sys):AV:=.agg [.sl 7 (s.vars.map encV),.sl 9 (s.eqs.map J0o),.sl 9 (s.inits.map J0o),.sl 6 (s.whens.map J17)]
theorem JEn (w:Whn):PureCall Tryz.prog 247 [J17 w] (encB (decide (20<w.acts.length))):=by
 refine PC [] Tryz.func247 rfl (by rfl) rfl ?_;refine kWS ?_;intros;refine .of ?_;show AV.val (.bool (decide _))=AV.val (.bool (decide _))
 rw[List.length_map]
 congr 2
 exact decide_eq_decide.2 (by omega)
theorem JEq (k:Nat) (p:Whn→Bool) (l:List Whn) (hl:l.length≤2^60) (hk:J03 Tryz.prog k) (hf:∀ x∈l,PureCall Tryz.prog k [J17 x] (encB (p x))) :
  PureCall Tryz.prog 318 [.sl 6 (l.map J17),.fn (.func k) [] []] (encI (J13 p l 0)):=by
 refine PC [] Tryz.func318 rfl (by rfl) rfl ?_;generalize hF:J13 p l 0=F;refine kWS ?_;intros;refine LoopP.intro (fun n σ H=>∃ i,i≤l.length∧n=l.length-i∧J13 p (l.drop i) i=F∧σ=fr [(0,.sl 6 (l.map J17)),(1,.fn (.func k) [] []),(7,encI l.length),(8,encI i)]∧H=hp []) ?_ ?_
 ·exact .intro <| W.of ⟨_,0,Nat.zero_le _,rfl,hF,rfl,rfl⟩ ⟨rfl,rfl,by simp;rfl,rfl,trivial⟩ trivial
 ·rintro n σ H ⟨i,hi,rfl,hc,rfl,rfl⟩;refine kWS ?_;intros;refine CondP.dec (fun h=>?_) (fun h=>?_)<;>refine kW ?_
  ·have hi':i<l.length:=by omega
   have hx:=hf _ (List.getElem_mem hi');rw[List.drop_eq_getElem_cons hi'] at hc;unfold J13 at hc;refine kR ?_;intros;generalize l[i]=x at hx hc ⊢;refine kR ?_;intros;refine CallP.flat [] _ hk hx rfl ?_;refine kWS ?_;intros;refine CondP.intro (fun hq=>?_) (fun hq=>?_)<;>refine kW ?_
   ·rw[hq] at hc;refine kS ?_;intros;exact .of (by rw[← hc];rfl)
   ·rw[hq] at hc;refine kS ?_;intros
    exact .intro <| W.of ⟨_,by omega,i+1,hi',rfl,hc,rfl,rfl⟩ ⟨rfl,rfl,rfl,rfl,trivial⟩ trivial
  ·refine kS ?_;intros;rw[List.drop_eq_nil_of_le (by omega)] at hc;exact .of (by rw[← hc];rfl)
theorem J9e (k:Nat) (p:Whn→Bool) (l:List Whn) (hl:l.length≤2^60) (hk:J03 Tryz.prog k) (hf:∀ x∈l,PureCall Tryz.prog k [J17 x] (encB (p x))) :
  PureCall Tryz.prog 246 [.sl 6 (l.map J17),.fn (.func k) [] []] (encB (l.any p)):=by
 refine PC [] Tryz.func246 rfl (by rfl) rfl ?_;refine kWS ?_;intros;refine CallP.flat [] _ c318 (JEq k p l hl hk hf) rfl ?_;refine kWS ?_;intros;refine .of ?_;show AV.val (Value.bool (decide (0≤J13 p l 0)))=AV.val (Value.bool (l.any p))
 congr 2
 rw[Bool.eq_iff_iff,decide_eq_true_iff];exact J3T p l 0 (by omega)
theorem JEr (k:Nat) (p:Va→Bool) (l:List Va) (hl:l.length≤2^60) (hk:J03 Tryz.prog k) (hf:∀ x∈l,PureCall Tryz.prog k [encV x] (encB (p x))) :
  PureCall Tryz.prog 319 [.sl 7 (l.map encV),.fn (.func k) [] []] (encI (J13 p l 0)):=by
 refine PC [] Tryz.func319 rfl (by rfl) rfl ?_;generalize hF:J13 p l 0=F;refine kWS ?_;intros;refine LoopP.intro (fun n σ H=>∃ i,i≤l.length∧n=l.length-i∧J13 p (l.drop i) i=F∧σ=fr [(0,.sl 7 (l.map encV)),(1,.fn (.func k) [] []),(7,encI l.length),(8,encI i)]∧H=hp []) ?_ ?_
 ·exact .intro <| W.of ⟨_,0,Nat.zero_le _,rfl,hF,rfl,rfl⟩ ⟨rfl,rfl,by simp;rfl,rfl,trivial⟩ trivial
 ·rintro n σ H ⟨i,hi,rfl,hc,rfl,rfl⟩;refine kWS ?_;intros;refine CondP.dec (fun h=>?_) (fun h=>?_)<;>refine kW ?_
  ·have hi':i<l.length:=by omega
   have hx:=hf _ (List.getElem_mem hi');rw[List.drop_eq_getElem_cons hi'] at hc;unfold J13 at hc;refine kR ?_;intros;generalize l[i]=x at hx hc ⊢;refine kR ?_;intros;refine CallP.flat [] _ hk hx rfl ?_;refine kWS ?_;intros;refine CondP.intro (fun hq=>?_) (fun hq=>?_)<;>refine kW ?_
   ·rw[hq] at hc;refine kS ?_;intros;exact .of (by rw[← hc];rfl)
   ·rw[hq] at hc;refine kS ?_;intros
    exact .intro <| W.of ⟨_,by omega,i+1,hi',rfl,hc,rfl,rfl⟩ ⟨rfl,rfl,rfl,rfl,trivial⟩ trivial
  ·refine kS ?_;intros;rw[List.drop_eq_nil_of_le (by omega)] at hc;exact .of (by rw[← hc];rfl)
theorem J9f (k:Nat) (p:Va→Bool) (l:List Va) (hl:l.length≤2^60) (hk:J03 Tryz.prog k) (hf:∀ x∈l,PureCall Tryz.prog k [encV x] (encB (p x))) :
  PureCall Tryz.prog 255 [.sl 7 (l.map encV),.fn (.func k) [] []] (encB (l.any p)):=by
 refine PC [] Tryz.func255 rfl (by rfl) rfl ?_;refine kWS ?_;intros;refine CallP.flat [] _ c319 (JEr k p l hl hk hf) rfl ?_;refine kWS ?_;intros;refine .of ?_;show AV.val (Value.bool (decide (0≤J13 p l 0)))=AV.val (Value.bool (l.any p))
 congr 2
 rw[Bool.eq_iff_iff,decide_eq_true_iff];exact J3T p l 0 (by omega)
def J1U (l:List Eqn):List Ex:=l.flatMap fun q=>[q.left,q.right]
def J54 (w:Whn):List Ex:=w.cond::w.acts.map (·.value)
def allF (s:Sys):List Ex:=J1U s.eqs++J1U s.inits++s.whens.flatMap J54
theorem J1p (l:List Eqn):(J1U l).length=2*l.length:=by
 induction l with
 | nil=>rfl
 | cons q l ih=>unfold J1U at *;rw[List.flatMap_cons,List.length_append,ih];simp;omega
theorem JCY (l:List Eqn) (q:Eqn):J1U (l++[q])=J1U l++[q.left,q.right]:=by unfold J1U;rw[List.flatMap_append];simp
theorem JBB (l:List Whn) (h:∀ w∈l,w.acts.length≤20):(l.flatMap J54).length≤21*l.length:=by
 induction l with
 | nil=>simp
 | cons w l ih=>
   have h1:=h w (by simp);have h2:=ih fun x hx=>h x (by simp[hx]);rw[List.flatMap_cons,List.length_append];unfold J54 at *;simp at *;omega
theorem JKv (s:Sys) (h1:s.eqs.length≤120) (h2:s.inits.length≤120) (h3:s.whens.length≤120) (h4:∀ w∈s.whens,w.acts.length≤20):PureCall Tryz.prog 132 [J0k s] (.sl 4 ((allF s).map encE)):=by
 refine PC [100] Tryz.func132 rfl (by rfl) rfl ?_;obtain ⟨vars,eqs,inits,whens⟩:=s;simp only at h1 h2 h3 h4;unfold J0k;(refine kWS ?_;repeat intro γ)
 refine LoopP.intro (fun k σ H=>∃ g1 g16 g3 i,∃ out:List Ex,k=2-i∧i≤2∧out=J1U (([eqs,inits].take i).flatten) ∧
  σ=fr [(1,.op 1 g1 0 0),(2,.val (.slice none 0 0)),(3,.own 100 g3 0 out.length),(16,.own 16 g16 0 2),(17,encI 2),(18,encI i)] ∧
  H=hp [(1,g1,⟨26,4,[J0k ⟨vars,eqs,inits,whens⟩]⟩),(16,g16,⟨23,1,[eqs,inits].map fun l=>.sl 9 (l.map J0o)⟩),(100,g3,⟨29,4,out.map encE⟩)]) ?_ ?_
 ·exact .intro (JB0 3 100 29 4 rfl rfl fun g=>W.of ⟨_,_,_,g,0,[],rfl,by omega,rfl,rfl,rfl⟩ ⟨rfl,rfl,rfl,rfl,rfl,rfl,trivial⟩ ⟨rfl,rfl,rfl,trivial⟩)
 ·rintro k σ H ⟨g1,g16,g3,i,out,rfl,hi,hout,rfl,rfl⟩;(refine kWS ?_;repeat intro γ);refine CondP.dec (fun h=>?_) (fun h=>?_)<;>refine kW ?_
  ·have hi':i<[eqs,inits].length:=by simp;omega
   have hl:([eqs,inits][i]).length≤120:=by
    match i,hi' with
    | 0,_=>exact h1
    | 1,_=>exact h2
   have hout2:J1U (([eqs,inits].take (i+1)).flatten)=out++J1U [eqs,inits][i]:=by
    rw[List.take_succ_eq_append_getElem hi',List.flatten_append,hout];unfold J1U;rw[List.flatMap_append];simp
   have hol:out.length≤480:=by
    rw[hout,J1p,List.length_flatten]
    rcases i with _ | _ | i
    ·simp
    ·simp;omega
    ·omega
   (refine kR ?_;repeat intro γ);generalize [eqs,inits][i]=l at hl hout2 ⊢
   refine LoopP.intro (fun k σ H=>∃ g3 j,∃ out':List Ex,k=l.length-j∧j≤l.length∧out'=out++J1U (l.take j) ∧
    σ=fr [(1,.op 1 g1 0 0),(2,.val (.slice none 0 0)),(3,.own 100 g3 0 out'.length),(16,.own 16 g16 0 2),(17,encI 2),(18,encI i),(22,.sl 9 (l.map J0o)),(23,encI l.length),(24,encI j)] ∧
    H=hp [(1,g1,⟨26,4,[J0k ⟨vars,eqs,inits,whens⟩]⟩),(16,g16,⟨23,1,[eqs,inits].map fun l=>.sl 9 (l.map J0o)⟩),(100,g3,⟨29,4,out'.map encE⟩)]) ?_ ?_
   ·exact .intro <| W.of ⟨_,_,0,out,rfl,Nat.zero_le _,by simp[J1U],rfl,rfl⟩ ⟨rfl,rfl,rfl,rfl,rfl,rfl,rfl,rfl,rfl,trivial⟩ ⟨rfl,rfl,rfl,trivial⟩
   ·rintro k σ H ⟨g3,j,out',rfl,hj,ho',rfl,rfl⟩;(refine kWS ?_;repeat intro γ);refine CondP.dec (fun h=>?_) (fun h=>?_)<;>refine kW ?_
    ·have hj':j<l.length:=by omega
     have hs:=JCY (l.take j) l[j];rw[← List.take_succ_eq_append_getElem hj'] at hs
     have hol':out'.length≤800:=by
      rw[ho',List.length_append,J1p,List.length_take];omega
     (refine kR ?_;repeat intro γ);generalize l[j]=q at hs ⊢;(refine kR ?_;repeat intro γ)
     refine .intro <| W.of ⟨_,by omega,γ,j+1,out'++[q.left,q.right],rfl,hj',by rw[ho',hs,List.append_assoc],rfl,rfl⟩ ⟨rfl,rfl,?_,rfl,rfl,rfl,rfl,rfl,rfl,trivial⟩ ⟨rfl,rfl,?_,trivial⟩
     ·exact congrArg (AV.own 100 γ 0) (by simp)
     ·show some (_,(⟨_,_,out'.map encE++[.agg (J33 q.left),.agg (J33 q.right)]⟩:Blk))=_
      rw[← J0G,← J0G,List.map_append];rfl
    ·have hje:j=l.length:=by omega
     rw[hje,List.take_length,← hout2] at ho';(refine kS ?_;repeat intro γ)
     exact .intro <| W.of ⟨_,by omega,_,_,_,i+1,out',rfl,by omega,ho',rfl,rfl⟩ ⟨rfl,rfl,rfl,rfl,rfl,rfl,trivial⟩ ⟨rfl,rfl,rfl,trivial⟩
  ·have hie:i=2:=by omega
   rw[hie] at hout;have hout0:out=J1U eqs++J1U inits:=by rw[hout];simp[J1U]
   have hol:out.length≤480:=by rw[hout0,List.length_append,J1p,J1p];omega
   (refine kS ?_;repeat intro γ)
   refine LoopP.intro (fun k σ H=>∃ g3 i,∃ out':List Ex,k=whens.length-i∧i≤whens.length∧out'=out++(whens.take i).flatMap J54 ∧
    σ=fr [(2,.val (.slice none 0 0)),(3,.own 100 g3 0 out'.length),(38,.sl 6 (whens.map J17)),(39,encI whens.length),(40,encI i)] ∧
    H=hp [(100,g3,⟨29,4,out'.map encE⟩)]) ?_ ?_
   ·refine .intro <| W.of ⟨_,_,0,out,rfl,Nat.zero_le _,by simp,rfl,rfl⟩ ⟨rfl,rfl,rfl,?_,rfl,trivial⟩ ⟨rfl,trivial⟩
    show AV.val (.int .i64 _)=AV.val (.int .i64 _)
    rw[List.length_map]
   ·clear hout g3;rintro k σ H ⟨g3,i,out',rfl,hi,ho',rfl,rfl⟩;(refine kWS ?_;repeat intro γ);refine CondP.dec (fun h=>?_) (fun h=>?_)<;>refine kW ?_
    ·have hi':i<whens.length:=by omega
     have ha:=h4 whens[i] (List.getElem_mem hi')
     have hol':out'.length≤480+21*120:=by
      have:=JBB (whens.take i) fun w hw=>h4 w (List.mem_of_mem_take hw);rw[List.length_take] at this;rw[ho',List.length_append];omega
     have ho2:out++(whens.take (i+1)).flatMap J54=out'++J54 whens[i]:=by
      rw[List.take_succ_eq_append_getElem hi',List.flatMap_append,ho'];simp
     (refine kR ?_;repeat intro γ);generalize whens[i]=w at ha ho2 ⊢;(refine kR ?_;repeat intro γ)
     refine LoopP.intro (fun k σ H=>∃ g3 j,∃ o3:List Ex,k=w.acts.length-j∧j≤w.acts.length∧o3=out'++w.cond::(w.acts.take j).map (·.value) ∧
      σ=fr [(2,.val (.slice none 0 0)),(3,.own 100 g3 0 o3.length),(38,.sl 6 (whens.map J17)),(39,encI whens.length),(40,encI i),(50,.sl 6 (w.acts.map J9N)),(51,encI w.acts.length),(52,encI j)] ∧
      H=hp [(100,g3,⟨29,4,o3.map encE⟩)]) ?_ ?_
     ·refine .intro <| W.of ⟨_,γ,0,out'++[w.cond],rfl,Nat.zero_le _,by simp,rfl,rfl⟩ ⟨rfl,?_,rfl,rfl,rfl,rfl,rfl,rfl,trivial⟩ ⟨?_,trivial⟩
      ·exact congrArg (AV.own 100 γ 0) (by simp)
      ·show some (_,(⟨_,_,out'.map encE++[.agg (J33 w.cond)]⟩:Blk))=_
       rw[← J0G,List.map_append];rfl
     ·rintro k σ H ⟨g3,j,o3,rfl,hj,ho3,rfl,rfl⟩
      have hol3:o3.length≤480+21*120+21:=by
       rw[ho3,List.length_append,List.length_cons,List.length_map,List.length_take];omega
      (refine kWS ?_;repeat intro γ);refine CondP.dec (fun h=>?_) (fun h=>?_)<;>refine kW ?_
      ·have hj':j<w.acts.length:=by omega
       have ho4:out'++w.cond::(w.acts.take (j+1)).map (·.value)=o3++[w.acts[j].value]:=by
        rw[List.take_succ_eq_append_getElem hj',List.map_append,ho3];simp
       (refine kR ?_;repeat intro γ);generalize w.acts[j]=a at ho4 ⊢;(refine kR ?_;repeat intro γ)
       refine .intro <| W.of ⟨_,by omega,γ,j+1,o3++[a.value],rfl,hj',ho4.symm,rfl,rfl⟩ ⟨rfl,?_,rfl,rfl,rfl,rfl,rfl,rfl,trivial⟩ ⟨?_,trivial⟩
       ·exact congrArg (AV.own 100 γ 0) (by simp)
       ·show some (_,(⟨_,_,o3.map encE++[.agg (J33 a.value)]⟩:Blk))=_
        rw[← J0G,List.map_append];rfl
      ·rw[show j=w.acts.length by omega,List.take_length] at ho3;(refine kS ?_;repeat intro γ)
       exact .intro <| W.of ⟨_,by omega,_,i+1,o3,rfl,hi',by rw[ho3,ho2];rfl,rfl,rfl⟩ ⟨rfl,rfl,rfl,rfl,rfl,trivial⟩ ⟨rfl,trivial⟩
    ·rw[show i=whens.length by omega,List.take_length] at ho';(refine kS ?_;repeat intro γ);refine .of ?_;have e:allF ⟨vars,eqs,inits,whens⟩=out':=by rw[ho',hout0];rfl
     rw[e];show AV.sl 4 ((((out'.map encE).drop 0).take out'.length).map _)=_
     rw[List.drop_zero,List.take_of_length_le (by simp),List.map_map]
     congr 1
     refine List.map_congr_left fun x _=>?_;show J0V _ (encE x)=encE x
     rw[J0G];rfl
def J79:List Ex→Int→Bool
 | [],l=>decide (l<0)
 | e::r,l=>tooF e||J79 r (l-sizeF e)
def largeF (s:Sys):Bool:=decide (120<s.vars.length)||decide (120<max (max s.eqs.length s.inits.length) s.whens.length)||s.whens.any (fun w=>decide (20<w.acts.length))||J79 (allF s) 4000
structure SzS (s:Sys):Prop where
 v:s.vars.length≤2^60
 q:s.eqs.length≤2^60
 n:s.inits.length≤2^60
 w:s.whens.length≤2^60
 a:∀ w∈s.whens,w.acts.length≤2^60
 e:∀ e∈allF s,SzE e∧TxE e
 t:∀ v∈s.vars,v.name.size<2^35∧v.value.size<2^35∧v.start.size<2^35∧v.unit.size<2^35
 m:(∀ q∈s.eqs,q.name.size<2^35)∧(∀ q∈s.inits,q.name.size<2^35)∧∀ w∈s.whens,w.name.size<2^35
 v20:s.vars.length≤2^20
theorem JHC (s:Sys) (hs:SzS s):PureCall Tryz.prog 174 [J0k s] (encB (largeF s)):=by
 refine PC [] Tryz.func174 rfl (by rfl) rfl ?_;have hW:=J9e 247 (fun w=>decide (20<w.acts.length)) s.whens hs.w c247 fun w _=>JEn w;have hA:=JKv s;have hv:=hs.v;have hq:=hs.q;have hn:=hs.n;have hw:=hs.w;have he:=hs.e;generalize hF:largeF s=F;unfold largeF at hF;generalize hall:allF s=es at *
 have hany:(s.whens.any fun w=>decide (20<w.acts.length))=false→∀ w∈s.whens,w.acts.length≤20:=by
  intro h w hw;have:=List.any_eq_false.1 h w hw;simp at this;exact this
 clear hs;unfold J0k at hA ⊢;refine kWS ?_;intros;rw[List.length_map];refine CondP.dec (fun h=>?_) (fun h=>?_)<;>refine kW ?_
 ·rw[decide_eq_true (by omega),Bool.true_or,Bool.true_or,Bool.true_or] at hF;refine kS ?_;intros;exact .of (by rw[← hF];rfl)
 rw[decide_eq_false (by omega),Bool.false_or] at hF;refine kS ?_;intros;simp only[List.length_map];refine CondP.dec (fun h=>?_) (fun h=>?_)<;>refine kW ?_
 ·rw[decide_eq_true (by omega),Bool.true_or,Bool.true_or] at hF;refine kS ?_;intros;exact .of (by rw[← hF];rfl)
 rw[decide_eq_false (by omega),Bool.false_or] at hF;refine kS ?_;intros;refine CallP.flat [] _ c246 hW rfl ?_;refine kWS ?_;intros;refine CondP.intro (fun h2=>?_) (fun h2=>?_)<;>refine kW ?_
 ·rw[h2,Bool.true_or] at hF;refine kS ?_;intros;exact .of (by rw[← hF];rfl)
 rw[h2,Bool.false_or] at hF;have hA:=hA (by omega) (by omega) (by omega) (hany h2)
 have hlen:es.length≤4000:=by
  have:=JBB s.whens (hany h2);rw[← hall];unfold allF;rw[List.length_append,List.length_append,J1p,J1p];omega
 refine kS ?_;intros;refine J00 [] _ c132 hA ?_;refine kWS ?_;intros
 refine LoopP.intro (fun k σ H=>∃ i,∃ l:Int,k=es.length-i∧i≤es.length∧l≤4000∧4000-201*i≤l∧J79 (es.drop i) l=F ∧
  σ=fr [(2,encB false),(3,encI l),(27,.sl 4 (es.map encE)),(28,encI es.length),(29,encI i)]∧H=hp []) ?_ ?_
 ·refine .intro <| W.of ⟨_,0,4000,rfl,Nat.zero_le _,by omega,by omega,hF,rfl,rfl⟩ ⟨rfl,rfl,rfl,?_,rfl,trivial⟩ trivial
  show AV.val (.int .i64 _)=AV.val (.int .i64 _)
  rw[List.length_map]
 ·clear hF;rintro k σ H ⟨i,l,rfl,hi,hl1,hl2,hF,rfl,rfl⟩;refine kWS ?_;intros;refine CondP.dec (fun h=>?_) (fun h=>?_)<;>refine kW ?_
  ·have hi':i<es.length:=by omega
   rw[List.drop_eq_getElem_cons hi'] at hF;unfold J79 at hF;have hz:=he es[i] (List.getElem_mem hi');refine kR ?_;intros;generalize es[i]=e at hF hz ⊢;have ht:=J3I e hz.1;have hsz:=JJu e hz.1;have hge:=J7y 24 e 200 (by omega);have hle:=J4n 24 e 200;have hdef:sizeF e=200-measF 24 e 200:=rfl;rw[J02] at ht hsz ⊢;refine kR ?_;intros;refine CallP.flat [] _ c83 ht rfl ?_;refine kWS ?_;intros;refine CondP.intro (fun h3=>?_) (fun h3=>?_)<;>refine kW ?_
   ·rw[h3,Bool.true_or] at hF;refine kS ?_;intros;exact .of (by rw[← hF];rfl)
   rw[h3,Bool.false_or] at hF;refine kS ?_;intros;refine CallP.flat [] _ c248 hsz rfl ?_;generalize sizeF e=z at hF hdef;refine kWS ?_;intros
   exact .intro <| W.of ⟨_,by omega,i+1,l-z,rfl,hi',by omega,by omega,hF,rfl,rfl⟩ ⟨rfl,rfl,rfl,rfl,rfl,trivial⟩ trivial
  ·rw[List.drop_eq_nil_of_le (by omega)] at hF;refine kS ?_;intros;exact .of (by rw[← hF];rfl)
def risG:List ByteArray→Option ByteArray→Bool
 | [],_=>true
 | n::r,p=>nameF n&&(match p with | none=>true | some p=>Op.bytesLess p.toList n.toList)&&risG r (some n)
def pvN (l:List ByteArray):Nat→Option ByteArray
 | 0=>none
 | i+1=>l[i]?
theorem J7s (l:List ByteArray) (i:Nat):pvN l (i+1)=l[i]?:=rfl
theorem J8W (x:Va):PureCall Tryz.prog 250 [encV x] (encS x.name):=by
 refine PC [] Tryz.func250 rfl (by rfl) rfl ?_;refine kWS ?_;intros;exact .of rfl
theorem JCf (l:List Va) (hl:l.length≤2^60) (hn:∀ x∈l,x.name.size<2^35) :
  PureCall Tryz.prog 249 [.sl 7 (l.map encV),.fn (.func 250) [] []] (encB (risG (l.map Va.name) none)):=by
 refine PC [] Tryz.func249 rfl (by rfl) rfl ?_;generalize hF:risG (l.map Va.name) none=F;refine kWS ?_;intros
 refine LoopP.intro (fun m σ H=>∃ i,i≤l.length∧m=l.length-i∧risG ((l.drop i).map Va.name) (pvN (l.map Va.name) i)=F ∧
  σ=fr [(0,.sl 7 (l.map encV)),(1,.fn (.func 250) [] []),(7,.sl 7 (l.map encV)),(8,encI l.length),(9,encI i)]∧H=hp []) ?_ ?_
 ·exact .intro <| W.of ⟨_,0,Nat.zero_le _,rfl,hF,rfl,rfl⟩ ⟨rfl,rfl,rfl,by simp;rfl,rfl,trivial⟩ trivial
 ·clear hF;rintro m σ H ⟨i,hi,rfl,hF,rfl,rfl⟩;refine kWS ?_;intros;refine CondP.dec (fun h=>?_) (fun h=>?_)<;>refine kW ?_
  ·have hi':i<l.length:=by omega
   have hx:=hn _ (List.getElem_mem hi');rw[List.drop_eq_getElem_cons hi',List.map_cons] at hF;unfold risG at hF;have hnx:(l.map Va.name)[i]?=some l[i].name:=by rw[List.getElem?_map,List.getElem?_eq_getElem hi'];rfl
   refine kR ?_;intros;generalize l[i]=x at hx hF hnx ⊢;have hnm:=J1s x.name (by omega);generalize nameF x.name=b at hF hnm;refine kR ?_;intros;refine CallG.intro _ c250 (J8W x) ?_;refine kWQ ?_;intros;refine CallG.intro _ c90 hnm ?_;refine kWQ ?_;intros;refine CondP.intro (fun hq=>?_) (fun hq=>?_)<;>refine kW ?_
   case' refine_2=>
    rw[hq,Bool.false_and,Bool.false_and] at hF;refine kR ?_;intros;exact .of (by rw[← hF];rfl)
   rw[hq,Bool.true_and] at hF
   cases i with
   | zero=>
     refine kR ?_;intros
     exact .intro <| W.of ⟨_,by omega,1,hi',rfl,by rw[← hF];show risG _ (pvN _ (0+1))=_;rw[J7s,hnx];rfl,rfl,rfl⟩ ⟨rfl,rfl,rfl,rfl,rfl,trivial⟩ trivial
   | succ i=>
     have hi2:i<l.length:=by omega
     rw[J7s,List.getElem?_map,List.getElem?_eq_getElem hi2] at hF;replace hF:(Op.bytesLess l[i].name.toList x.name.toList&&risG ((l.drop (i+1+1)).map Va.name) (some x.name))=F:=hF;have hp0:(0:Int)<((i+1:Nat):Int):=by omega
     refine kR ?_;intros
     try simp only[show ((i+1:Nat):Int)-1=(i:Int) by omega]
     refine kR ?_;intros;generalize l[i]=y at hF ⊢;refine kR ?_;intros;refine CallG.intro _ c250 (J8W y) ?_;refine kWR ?_;intros;refine CallG.intro _ c250 (J8W x) ?_;refine kWR ?_;intros;refine CondP.intro (fun h2=>?_) (fun h2=>?_)<;>refine kW ?_
     ·rw[h2,Bool.true_and] at hF;refine kR ?_;intros
      exact .intro <| W.of ⟨_,by omega,i+1+1,hi',rfl,by rw[J7s,hnx];exact hF,rfl,rfl⟩ ⟨rfl,rfl,rfl,rfl,rfl,trivial⟩ trivial
     ·rw[h2,Bool.false_and] at hF;refine kR ?_;intros;exact .of (by rw[← hF];rfl)
  ·refine kS ?_;intros;rw[List.drop_eq_nil_of_le (by omega)] at hF;exact .of (by rw[← hF];rfl)
theorem J8Z (x:Eqn):PureCall Tryz.prog 252 [J0o x] (encS x.name):=by
 refine PC [] Tryz.func252 rfl (by rfl) rfl ?_;refine kWS ?_;intros;exact .of rfl
theorem J8V (x:Whn):PureCall Tryz.prog 254 [J17 x] (encS x.name):=by
 refine PC [] Tryz.func254 rfl (by rfl) rfl ?_;refine kWS ?_;intros;exact .of rfl
theorem J71 (l:List Eqn) (hl:l.length≤2^60) (hn:∀ x∈l,x.name.size<2^35) :
  PureCall Tryz.prog 251 [.sl 9 (l.map J0o),.fn (.func 252) [] []] (encB (risG (l.map Eqn.name) none)):=by
 refine PC [] Tryz.func251 rfl (by rfl) rfl ?_;generalize hF:risG (l.map Eqn.name) none=F;refine kWS ?_;intros
 refine LoopP.intro (fun m σ H=>∃ i,i≤l.length∧m=l.length-i∧risG ((l.drop i).map Eqn.name) (pvN (l.map Eqn.name) i)=F ∧
  σ=fr [(0,.sl 9 (l.map J0o)),(1,.fn (.func 252) [] []),(7,.sl 9 (l.map J0o)),(8,encI l.length),(9,encI i)]∧H=hp []) ?_ ?_
 ·exact .intro <| W.of ⟨_,0,Nat.zero_le _,rfl,hF,rfl,rfl⟩ ⟨rfl,rfl,rfl,by simp;rfl,rfl,trivial⟩ trivial
 ·clear hF;rintro m σ H ⟨i,hi,rfl,hF,rfl,rfl⟩;refine kWS ?_;intros;refine CondP.dec (fun h=>?_) (fun h=>?_)<;>refine kW ?_
  ·have hi':i<l.length:=by omega
   have hx:=hn _ (List.getElem_mem hi');rw[List.drop_eq_getElem_cons hi',List.map_cons] at hF;unfold risG at hF;have hnx:(l.map Eqn.name)[i]?=some l[i].name:=by rw[List.getElem?_map,List.getElem?_eq_getElem hi'];rfl
   refine kR ?_;intros;generalize l[i]=x at hx hF hnx ⊢;have hnm:=J1s x.name (by omega);generalize nameF x.name=b at hF hnm;refine kR ?_;intros;refine CallG.intro _ c252 (J8Z x) ?_;refine kWQ ?_;intros;refine CallG.intro _ c90 hnm ?_;refine kWQ ?_;intros;refine CondP.intro (fun hq=>?_) (fun hq=>?_)<;>refine kW ?_
   case' refine_2=>
    rw[hq,Bool.false_and,Bool.false_and] at hF;refine kR ?_;intros;exact .of (by rw[← hF];rfl)
   rw[hq,Bool.true_and] at hF
   cases i with
   | zero=>
     refine kR ?_;intros
     exact .intro <| W.of ⟨_,by omega,1,hi',rfl,by rw[← hF];show risG _ (pvN _ (0+1))=_;rw[J7s,hnx];rfl,rfl,rfl⟩ ⟨rfl,rfl,rfl,rfl,rfl,trivial⟩ trivial
   | succ i=>
     have hi2:i<l.length:=by omega
     rw[J7s,List.getElem?_map,List.getElem?_eq_getElem hi2] at hF;replace hF:(Op.bytesLess l[i].name.toList x.name.toList&&risG ((l.drop (i+1+1)).map Eqn.name) (some x.name))=F:=hF;have hp0:(0:Int)<((i+1:Nat):Int):=by omega
     refine kR ?_;intros
     try simp only[show ((i+1:Nat):Int)-1=(i:Int) by omega]
     refine kR ?_;intros;generalize l[i]=y at hF ⊢;refine kR ?_;intros;refine CallG.intro _ c252 (J8Z y) ?_;refine kWR ?_;intros;refine CallG.intro _ c252 (J8Z x) ?_;refine kWR ?_;intros;refine CondP.intro (fun h2=>?_) (fun h2=>?_)<;>refine kW ?_
     ·rw[h2,Bool.true_and] at hF;refine kR ?_;intros
      exact .intro <| W.of ⟨_,by omega,i+1+1,hi',rfl,by rw[J7s,hnx];exact hF,rfl,rfl⟩ ⟨rfl,rfl,rfl,rfl,rfl,trivial⟩ trivial
     ·rw[h2,Bool.false_and] at hF;refine kR ?_;intros;exact .of (by rw[← hF];rfl)
  ·refine kS ?_;intros;rw[List.drop_eq_nil_of_le (by omega)] at hF;exact .of (by rw[← hF];rfl)
theorem JCe (l:List Whn) (hl:l.length≤2^60) (hn:∀ x∈l,x.name.size<2^35) :
  PureCall Tryz.prog 253 [.sl 6 (l.map J17),.fn (.func 254) [] []] (encB (risG (l.map Whn.name) none)):=by
 refine PC [] Tryz.func253 rfl (by rfl) rfl ?_;generalize hF:risG (l.map Whn.name) none=F;refine kWS ?_;intros
 refine LoopP.intro (fun m σ H=>∃ i,i≤l.length∧m=l.length-i∧risG ((l.drop i).map Whn.name) (pvN (l.map Whn.name) i)=F ∧
  σ=fr [(0,.sl 6 (l.map J17)),(1,.fn (.func 254) [] []),(7,.sl 6 (l.map J17)),(8,encI l.length),(9,encI i)]∧H=hp []) ?_ ?_
 ·exact .intro <| W.of ⟨_,0,Nat.zero_le _,rfl,hF,rfl,rfl⟩ ⟨rfl,rfl,rfl,by simp;rfl,rfl,trivial⟩ trivial
 ·clear hF;rintro m σ H ⟨i,hi,rfl,hF,rfl,rfl⟩;refine kWS ?_;intros;refine CondP.dec (fun h=>?_) (fun h=>?_)<;>refine kW ?_
  ·have hi':i<l.length:=by omega
   have hx:=hn _ (List.getElem_mem hi');rw[List.drop_eq_getElem_cons hi',List.map_cons] at hF;unfold risG at hF;have hnx:(l.map Whn.name)[i]?=some l[i].name:=by rw[List.getElem?_map,List.getElem?_eq_getElem hi'];rfl
   refine kR ?_;intros;generalize l[i]=x at hx hF hnx ⊢;have hnm:=J1s x.name (by omega);generalize nameF x.name=b at hF hnm;refine kR ?_;intros;refine CallG.intro _ c254 (J8V x) ?_;refine kWQ ?_;intros;refine CallG.intro _ c90 hnm ?_;refine kWQ ?_;intros;refine CondP.intro (fun hq=>?_) (fun hq=>?_)<;>refine kW ?_
   case' refine_2=>
    rw[hq,Bool.false_and,Bool.false_and] at hF;refine kR ?_;intros;exact .of (by rw[← hF];rfl)
   rw[hq,Bool.true_and] at hF
   cases i with
   | zero=>
     refine kR ?_;intros
     exact .intro <| W.of ⟨_,by omega,1,hi',rfl,by rw[← hF];show risG _ (pvN _ (0+1))=_;rw[J7s,hnx];rfl,rfl,rfl⟩ ⟨rfl,rfl,rfl,rfl,rfl,trivial⟩ trivial
   | succ i=>
     have hi2:i<l.length:=by omega
     rw[J7s,List.getElem?_map,List.getElem?_eq_getElem hi2] at hF;replace hF:(Op.bytesLess l[i].name.toList x.name.toList&&risG ((l.drop (i+1+1)).map Whn.name) (some x.name))=F:=hF;have hp0:(0:Int)<((i+1:Nat):Int):=by omega
     refine kR ?_;intros
     try simp only[show ((i+1:Nat):Int)-1=(i:Int) by omega]
     refine kR ?_;intros;generalize l[i]=y at hF ⊢;refine kR ?_;intros;refine CallG.intro _ c254 (J8V y) ?_;refine kWR ?_;intros;refine CallG.intro _ c254 (J8V x) ?_;refine kWR ?_;intros;refine CondP.intro (fun h2=>?_) (fun h2=>?_)<;>refine kW ?_
     ·rw[h2,Bool.true_and] at hF;refine kR ?_;intros
      exact .intro <| W.of ⟨_,by omega,i+1+1,hi',rfl,by rw[J7s,hnx];exact hF,rfl,rfl⟩ ⟨rfl,rfl,rfl,rfl,rfl,trivial⟩ trivial
     ·rw[h2,Bool.false_and] at hF;refine kR ?_;intros;exact .of (by rw[← hF];rfl)
  ·refine kS ?_;intros;rw[List.drop_eq_nil_of_le (by omega)] at hF;exact .of (by rw[← hF];rfl)
def JD0 (k t:Int):Bool:=!((!decide (t=0)&&!decide (t=1))||decide (k<0)||decide (3<k)||(!decide (t=0)&&(decide (k=0)||decide (k=3))))
def varF (v:Va):Bool:=
 JD0 v.kind v.type&&(if v.kind=2 then valueF v.value v.type else decide (v.value=⟨#[]⟩))
  && (decide (v.start=⟨#[]⟩)||((decide (v.kind=0)||decide (v.kind=1))&&valueF v.start v.type))&&!(v.fixed&&decide (v.start=⟨#[]⟩))
  && (decide (v.unit=⟨#[]⟩)||(decide (v.type=0)&&unitF v.unit))
theorem JAM (v:Va) (h1:v.value.size<2^35) (h2:v.start.size<2^35) (h3:v.unit.size<2^35):PureCall Tryz.prog 257 [encV v] (encB (varF v)):=by
 refine PC [] Tryz.func257 rfl (by rfl) rfl ?_;obtain ⟨name,k,t,vl,st,fx,un⟩:=v;have hv1:=JBC vl t h1;have hv2:=JBC st t h2;have hu:=JMM un h3;generalize hF:varF ⟨name,k,t,vl,st,fx,un⟩=F;unfold varF at hF;simp only at hF hv1 hv2 hu;generalize valueF vl t=b1 at hF hv1;generalize valueF st t=b2 at hF hv2;generalize unitF un=b3 at hF hu;clear h1 h2 h3
 by_cases hk:JD0 k t=true
 case' neg=>
  have hk':JD0 k t=false:=by simpa using hk
  rw[hk',Bool.false_and,Bool.false_and,Bool.false_and,Bool.false_and] at hF;subst hF;unfold JD0 at hk';refine kW ?_
  (repeat (any_goals (first | ((first | refine N0 ?_ | refine A0 fun γ=>?_ | refine C1 ?_ | refine C2 ?_ | refine C3 ?_ | refine C4 ?_ | refine C5 ?_ | refine C6 ?_ | refine C7 ?_ | refine D0 fun γs=>?_ | refine A1 fun γs=>?_ | refine N2 ?_ | refine N3 ?_ | refine N1 ?_);refine kW ?_) | (refine CondP.dec (fun _=>?_) (fun _=>?_)<;>refine kW ?_) | (refine CondP.intro (fun _=>?_) (fun _=>?_)<;>refine kW ?_))))
  all_goals first
   | exact .of rfl
   | (exfalso;simp_all<;>omega)
 rw[hk,Bool.true_and] at hF
 have hcs:(t=0∧(k=0∨k=1∨k=2∨k=3))∨(t=1∧(k=1∨k=2)):=by
  unfold JD0 at hk;simp at hk;omega
 clear hk
 rcases hcs with ⟨rfl,rfl | rfl | rfl | rfl⟩ | ⟨rfl,rfl | rfl⟩
 all_goals
  simp only[Int.reduceEq,decide_true,decide_false,Bool.true_or,Bool.or_true,Bool.false_or,Bool.or_self,if_true,if_false,Bool.true_and,Bool.false_and,eq_self,Bool.or_false,reduceIte] at hF;(refine kWS ?_;repeat intro γ)
  repeat (any_goals (first
   | exact .of (by rw[← hF];rfl)
   | (refine CallP.flat [] _ c320 hv1 rfl ?_;refine kW ?_;(refine kS ?_;repeat intro γ))
   | (refine CallP.flat [] _ c320 hv2 rfl ?_;refine kW ?_;(refine kS ?_;repeat intro γ))
   | (refine CallP.flat [] _ c321 hu rfl ?_;refine kW ?_;(refine kS ?_;repeat intro γ))
   | (refine CondP.intro (fun h=>?_) (fun h=>?_)<;>refine kW ?_<;>(try simp only at h)<;>(try simp only[h,Bool.true_and,Bool.false_and,Bool.and_true,Bool.and_false,Bool.true_or,Bool.false_or,Bool.not_true,Bool.not_false,Bool.or_true,Bool.or_false] at hF)<;>(refine kS ?_;repeat intro γ))))
theorem JDp (v:Va) (h1:v.value.size<2^35) (h2:v.start.size<2^35) (h3:v.unit.size<2^35):PureCall Tryz.prog 256 [encV v] (encB (!varF v)):=by
 refine PC [] Tryz.func256 rfl (by rfl) rfl ?_;refine kWS ?_;intros;refine CallP.flat [] _ c257 (JAM v h1 h2 h3) rfl ?_;refine kWS ?_;intros;exact .of rfl
def putK {β:Type} (l:List (ByteArray×β)) (k:ByteArray) (v:β):List (ByteArray×β):=match l with
 | []=>[(k,v)]
 | x::r=>if k=x.1 then (x.1,v)::r else x::putK r k v
theorem JEU {β:Type} (f:β→AV) (k:ByteArray) (v:β):∀ l:List (ByteArray×β),∃ r,J0i (J0e T 9 (encS k)) (l.map fun x=>encS x.1)=some r∧(match r with
  | some i=>(l.map fun x=>encS x.1)=((putK l k v).map fun x=>encS x.1)∧(l.map fun x=>f x.2).set i (f v)=(putK l k v).map fun x=>f x.2
  | none=>(l.map fun x=>encS x.1)++[encS k]=((putK l k v).map fun x=>encS x.1)∧(l.map fun x=>f x.2)++[f v]=(putK l k v).map fun x=>f x.2)
 | []=>⟨none,rfl,rfl,rfl⟩
 | x :: l=>by
   obtain ⟨r,h1,h2⟩:=JEU f k v l;rw[List.map_cons,List.map_cons];unfold J0i putK;rw[J5s]
   by_cases h:k=x.1
   ·rw[decide_eq_true h,if_pos h];exact ⟨some 0,rfl,rfl,rfl⟩
   ·rw[decide_eq_false h,if_neg h,h1];refine ⟨r.map (· + 1),rfl,?_⟩
    revert h2
    cases r with
    | none=>
      rintro ⟨h2,h3⟩;exact ⟨by rw[List.map_cons,← h2];rfl,by rw[List.map_cons,← h3];rfl⟩
    | some i=>
      rintro ⟨h2,h3⟩;exact ⟨by rw[List.map_cons,← h2],by rw[List.map_cons,← h3];rfl⟩
def knownF (vs:List Va):List (ByteArray×Va):=vs.foldl (fun l v=>putK l v.name v) []
theorem J82 (s:Sys) (hv:s.vars.length≤2^60):PureCall Tryz.prog 99 [J0k s] (encK (knownF s.vars)):=by
 refine PC [6] Tryz.func99 rfl (by rfl) rfl ?_;obtain ⟨vs,qs,ns,ws⟩:=s;simp only at hv ⊢;generalize hF:knownF vs=F;unfold knownF at hF;unfold J0k;refine kWS ?_;intros
 refine LoopP.intro (fun k σ H=>∃ g i,∃ l:List (ByteArray×Va),k=vs.length-i∧i≤vs.length∧(vs.drop i).foldl (fun l v=>putK l v.name v) l=F ∧
  σ=fr [(2,.val (.map none)),(3,.om 6 g),(8,.sl 7 (vs.map encV)),(9,encI vs.length),(10,encI i)] ∧
  H=hp [(6,g,⟨109,0,[encK l]⟩)]) ?_ ?_
 ·refine .intro <| W.of ⟨_,_,0,[],rfl,Nat.zero_le _,hF,rfl,rfl⟩ ⟨rfl,rfl,rfl,?_,rfl,trivial⟩ ⟨rfl,trivial⟩
  show AV.val (.int .i64 _)=AV.val (.int .i64 _)
  rw[List.length_map]
 ·clear hF;rintro k σ H ⟨g,i,l,rfl,hi,hF,rfl,rfl⟩;refine kWS ?_;intros;refine CondP.dec (fun h=>?_) (fun h=>?_)<;>refine kW ?_
  ·have hi':i<vs.length:=by omega
   rw[List.drop_eq_getElem_cons hi',List.foldl_cons] at hF;refine kR ?_;intros;generalize vs[i]=v at hF ⊢;refine kR ?_;intros;refine Need.intro keyst9 ?_;refine kWR ?_;intros;obtain ⟨r,hr,hm⟩:=JEU encV v.name v l;refine LookP.intro r hr ?_
   cases r with
   | some j=>
     refine kWR ?_;intros
     refine .intro <| W.of ⟨_,by omega,_,i+1,putK l v.name v,rfl,hi',hF,rfl,rfl⟩ ⟨rfl,rfl,rfl,rfl,rfl,trivial⟩ ⟨?_,trivial⟩
     exact congrArg (fun z=>some (g,(⟨109,0,[z]⟩:Blk))) (congr (congrArg AV.mp hm.1) hm.2)
   | none=>
     refine kWR ?_;intros
     refine .intro <| W.of ⟨_,by omega,_,i+1,putK l v.name v,rfl,hi',hF,rfl,rfl⟩ ⟨rfl,rfl,rfl,rfl,rfl,trivial⟩ ⟨?_,trivial⟩
     exact congrArg (fun z=>some (g,(⟨109,0,[z]⟩:Blk))) (congr (congrArg AV.mp hm.1) hm.2)
  ·rw[List.drop_eq_nil_of_le (by omega)] at hF;refine kS ?_;intros;exact .of (by rw[← hF];rfl)
def typedF (ks:List (ByteArray×Va)) (e:Ex) (t:Int):Bool:=builtF e&&(typeF ks e).2&&decide ((typeF ks e).1=t)
theorem J4m (ks:List (ByteArray×Va)) (e:Ex) (t:Int) (hs:SzE e) (hx:TxE e):PureCall Tryz.prog 258 [encK ks,encE e,encI t] (encB (typedF ks e t)):=by
 refine PC [] Tryz.func258 rfl (by rfl) rfl ?_;have hb:=J8b e hs hx;have hT:=JFy ks e hs;generalize hF:typedF ks e t=F;unfold typedF at hF;generalize builtF e=b at hF hb hT;generalize typeF ks e=ty at hF hT;rw[J02] at hb hT ⊢;refine kWS ?_;intros;refine CallP.flat [] _ c123 hb rfl ?_;refine kWS ?_;intros
 cases b with
 | false=>
   rw[Bool.false_and,Bool.false_and] at hF;refine kS ?_;intros;exact .of (by rw[← hF];rfl)
 | true=>
   rw[Bool.true_and] at hF;obtain ⟨x,y⟩:=ty;simp only at hF;refine kS ?_;intros;refine J00 [] _ c124 (hT rfl) ?_;refine kWS ?_;intros
   cases y with
   | false=>
     rw[Bool.false_and] at hF;refine kS ?_;intros;exact .of (by rw[← hF];rfl)
   | true=>
     rw[Bool.true_and] at hF;refine kS ?_;intros;exact .of (by rw[← hF];rfl)
def setM (A:List ByteArray):AV:=.mp (A.map encS) (A.map fun _=>encB true)
def memA (s:ByteArray) (A:List ByteArray):Bool:=A.any fun x=>decide (s=x)
theorem JAT (s:ByteArray):∀ A:List ByteArray,∃ r,J0i (J0e T 9 (encS s)) (A.map encS)=some r∧(match r with
  | some i=>memA s A=true∧(A.map fun _=>encB true).getD i .dead=encB true
  | none=>memA s A=false)
 | []=>⟨none,rfl,rfl⟩
 | x :: l=>by
   obtain ⟨r,h1,h2⟩:=JAT s l;rw[List.map_cons];unfold J0i;rw[J5s]
   by_cases h:s=x
   ·rw[decide_eq_true h];exact ⟨some 0,rfl,by simp[memA,h],rfl⟩
   ·rw[decide_eq_false h,h1];refine ⟨r.map (· + 1),rfl,?_⟩
    revert h2
    cases r with
    | none=>intro h2;simpa [memA,h] using h2
    | some i=>rintro ⟨h2,h3⟩;exact ⟨by unfold memA at *;rw[List.any_cons,h2,Bool.or_true],h3⟩
theorem J8r (p:Nat) (e:Nat) (A:List ByteArray) (v:ByteArray):some (p,(⟨e,0,[.mp (A.map encS++[encS v]) ((A.map fun _=>encB true)++[encB true])]⟩:Blk))=some (p,⟨e,0,[setM (A++[v])]⟩):=by
 unfold setM;rw[List.map_append,List.map_append];rfl
def badA (ks:List (ByteArray×Va)) (a:Ac) (A:List ByteArray):Bool:=match J1H ks a.var with
 | none=>true
 | some v=>(!decide (a.kind=0)&&!decide (a.kind=1))||!decide (v.kind=if a.kind=0 then 1 else 0)||memA a.var A||!typedF ks a.value v.type
def J6V (ks:List (ByteArray×Va)):List Ac→List ByteArray→List ByteArray→Bool×List ByteArray
 | [],_,A=>(true,A)
 | a::r,S,A=>if badA ks a (if a.kind=0 then A else S) then (false,A) else if a.kind=0 then J6V ks r S (A++[a.var]) else J6V ks r (S++[a.var]) A
def J9r (ks:List (ByteArray×Va)) (w:Whn) (A:List ByteArray):Bool×List ByteArray:=((J6V ks w.acts [] A).1&&decide (0<w.acts.length),(J6V ks w.acts [] A).2)
theorem JJn (ks : List (ByteArray×Va)) (w:Whn) (A:List ByteArray) (p:Nat) (hl:w.acts.length≤2^40) (he:∀ a∈w.acts,SzE a.value∧TxE a.value) :
  HCall Tryz.prog 259 [encK ks,J17 w,.om 50 p] (hp [(50,p,⟨302,0,[setM A]⟩)]) (fun r h=>r=encB (J9r ks w A).1∧h=hp [(50,p,⟨302,0,[setM (J9r ks w A).2]⟩)]):=by
 refine J2q (E:=E 0) J3q (JK5 0) Tryz.func259 rfl (by rfl) (Nat.le_of_ble_eq_true rfl) ?_;obtain ⟨wn,wc,ats⟩:=w;simp only at hl he;generalize hF:J9r ks ⟨wn,wc,ats⟩ A=F;unfold J9r at hF;simp only at hF;obtain ⟨G,hG⟩:∃ G,J6V ks ats [] A=G:=⟨_,rfl⟩;rw[hG] at hF;unfold J17;refine kWS ?_;intros
 refine LoopP.intro (fun k σ H=>∃ g g4 i,∃ S A:List ByteArray,k=ats.length-i∧i≤ats.length∧J6V ks (ats.drop i) S A=G ∧
  σ=fr [(0,encK ks),(2,.om 50 p),(4,.op 4 g4 0 0),(6,encB false),(7,.om 14 g),(16,.sl 6 (ats.map J9N)),(17,encI ats.length),(18,encI i)] ∧
  H=hp [(4,g4,⟨228,6,[J17 ⟨wn,wc,ats⟩]⟩),(14,g,⟨302,0,[setM S]⟩),(50,p,⟨302,0,[setM A]⟩)]) ?_ ?_
 ·refine .intro <| W.of ⟨_,_,_,0,[],A,rfl,Nat.zero_le _,hG,rfl,rfl⟩ ⟨rfl,rfl,rfl,rfl,rfl,rfl,?_,rfl,trivial⟩ ⟨rfl,rfl,rfl,trivial⟩
  show AV.val (.int .i64 _)=AV.val (.int .i64 _)
  rw[List.length_map]
 ·clear hG A;rintro k σ H ⟨g,g4,i,S,A,rfl,hi,hG,rfl,rfl⟩;refine kWS ?_;intros;refine CondP.dec (fun h=>?_) (fun h=>?_)<;>refine kW ?_
  ·have hi':i<ats.length:=by omega
   rw[List.drop_eq_getElem_cons hi'] at hG;have hz:=he ats[i] (List.getElem_mem hi');refine kR ?_;intros;generalize ats[i]=a at hG hz ⊢;obtain ⟨ak,av,ae⟩:=a;simp only at hz;refine kR ?_;intros;refine Need.intro keyst9 ?_;refine kW ?_;obtain ⟨r,hr,hm⟩:=J1f encV av ks;refine LookP.intro r hr ?_;unfold J6V badA at hG;simp only at hG
   cases ha:J1H ks av with
   | none=>
     rw[ha] at hm hG
     cases r with
     | some i=>exact hm.elim
     | none=>
       replace hG:(false,A)=G:=hG;refine kWS ?_;intros;refine CondP.dec (fun _=>?_) (fun _=>?_)<;>refine kW ?_<;>refine kS ?_;intros
       all_goals exact EndH.of (m:=[(50,p,⟨302,0,[setM A]⟩)]) ⟨rfl,trivial⟩ ⟨by rw[← hF,← hG];rfl,by rw[← hF,← hG]⟩
   | some v=>
     rw[ha] at hm hG
     cases r with
     | none=>exact hm.elim
     | some j=>
       refine kW ?_;rw[show (List.map (fun x=>encV x.snd) ks).getD j AV.dead=encV v from hm];refine kWS ?_;intros;replace hG:(if ((!decide (ak=0)&&!decide (ak=1))||!decide (v.kind=if ak=0 then 1 else 0)||memA av (if ak=0 then A else S)||!typedF ks ae v.type) then (false,A) else if ak=0 then J6V ks (ats.drop (i+1)) S (A++[av]) else J6V ks (ats.drop (i+1)) (S++[av]) A)=G:=hG;have hty:=J4m ks ae v.type hz.1 hz.2;generalize typedF ks ae v.type=bt at hG hty;rw[J02] at hty;refine CondP.dec (fun h0=>?_) (fun h0=>?_)<;>refine kW ?_
       case' refine_1=>
        simp only[h0,decide_true,Bool.not_true,Bool.false_and,Bool.false_or,if_true] at hG;obtain ⟨r2,hr2,hm2⟩:=JAT av A;refine kS ?_;intros
       case' refine_2=>
        by_cases h01:ak=1
        case' neg=>
         simp only[h0,h01,decide_false,Bool.not_false,Bool.true_and,Bool.true_or,if_true] at hG;refine kS ?_;intros;exact EndH.of (m:=[(50,p,⟨302,0,[setM A]⟩)]) ⟨rfl,trivial⟩ ⟨by rw[← hF,← hG];rfl,by rw[← hF,← hG]⟩
        simp only[h0,h01,decide_false,decide_true,Bool.not_true,Bool.not_false,Bool.and_false,Bool.false_or,if_false,Int.reduceEq] at hG;obtain ⟨r2,hr2,hm2⟩:=JAT av S;refine kS ?_;intros
       all_goals
        refine CondP.dec (fun h1=>?_) (fun h1=>?_)<;>refine kW ?_
        ·simp only[h1,decide_true,Bool.not_true,Bool.false_or] at hG;refine kS ?_;intros;refine Need.intro keyst9 ?_;refine kWS ?_;intros;refine LookP.intro r2 hr2 ?_
         cases r2 with
         | some j2=>
           obtain ⟨hm3,hm4⟩:=hm2;simp only[hm3,Bool.true_or,if_true] at hG;refine kW ?_;rw[hm4];refine kWS ?_;intros;exact EndH.of (m:=[(50,p,⟨302,0,[setM A]⟩)]) ⟨rfl,trivial⟩ ⟨by rw[← hF,← hG];rfl,by rw[← hF,← hG]⟩
         | none=>
           replace hm2:memA av _=false:=hm2;simp only[hm2,Bool.false_or] at hG;refine kWS ?_;intros;refine CallP.flat [] _ c258 hty rfl ?_;refine kWS ?_;intros
           cases bt with
           | false=>
             replace hG:(false,A)=G:=hG;refine kS ?_;intros;exact EndH.of (m:=[(50,p,⟨302,0,[setM A]⟩)]) ⟨rfl,trivial⟩ ⟨by rw[← hF,← hG];rfl,by rw[← hF,← hG]⟩
           | true=>
             simp only[Bool.not_true,Bool.false_eq_true,if_false] at hG;refine kS ?_;intros;refine Need.intro keyst9 ?_;refine kWS ?_;intros;refine LookP.intro none hr2 ?_;refine kWS ?_;intros
             first
              | refine .intro <| W.of ⟨_,by omega,_,_,i+1,S,A++[av],rfl,hi',hG,rfl,rfl⟩ ⟨rfl,rfl,rfl,rfl,rfl,rfl,rfl,rfl,trivial⟩ ⟨rfl,rfl,J8r ..,trivial⟩
              | refine .intro <| W.of ⟨_,by omega,_,_,i+1,S++[av],A,rfl,hi',hG,rfl,rfl⟩ ⟨rfl,rfl,rfl,rfl,rfl,rfl,rfl,rfl,trivial⟩ ⟨rfl,J8r ..,rfl,trivial⟩
        ·simp only[h1,decide_false,Bool.not_false,Bool.true_or,if_true] at hG;refine kS ?_;intros;exact EndH.of (m:=[(50,p,⟨302,0,[setM A]⟩)]) ⟨rfl,trivial⟩ ⟨by rw[← hF,← hG];rfl,by rw[← hF,← hG]⟩
  ·rw[List.drop_eq_nil_of_le (by omega)] at hG;refine kS ?_;intros;replace hG:(true,A)=G:=hG;refine EndH.of (m:=[(50,p,⟨302,0,[setM A]⟩)]) ⟨rfl,trivial⟩ ⟨?_,by rw[← hF,← hG]⟩;rw[← hF,← hG];show AV.val (.bool (decide _))=AV.val (.bool (decide _))
   congr 2
   exact decide_eq_decide.2 (by simp)
def eqT (ks:List (ByteArray×Va)) (q:Eqn):Bool:=typedF ks q.left 0&&typedF ks q.right 0
def J53 (ks:List (ByteArray×Va)):List Whn→List ByteArray→Bool
 | [],_=>true
 | w::r,A=>typedF ks w.cond 1&&(J9r ks w A).1&&J53 ks r (J9r ks w A).2
def validF (s:Sys):Bool:=
 risG (s.vars.map Va.name) none&&risG (s.eqs.map Eqn.name) none&&risG (s.inits.map Eqn.name) none&&risG (s.whens.map Whn.name) none
  && !(s.vars.any fun v=>!varF v)&&(s.eqs.all (eqT (knownF s.vars))&&s.inits.all (eqT (knownF s.vars)))&&J53 (knownF s.vars) s.whens []
theorem J1e {l:List Eqn} {q:Eqn} (h:q∈l):q.left∈J1U l∧q.right∈J1U l:=by
 unfold J1U;exact ⟨List.mem_flatMap.2 ⟨q,h,by simp⟩,List.mem_flatMap.2 ⟨q,h,by simp⟩⟩
theorem J7w {l:List Whn} {w:Whn} (h:w∈l):w.cond∈l.flatMap J54∧∀ a∈w.acts,a.value∈l.flatMap J54:=by
 refine ⟨List.mem_flatMap.2 ⟨w,h,by simp[J54]⟩,fun a ha=>List.mem_flatMap.2 ⟨w,h,?_⟩⟩;unfold J54;exact List.mem_cons_of_mem _ (List.mem_map.2 ⟨a,ha,rfl⟩)
theorem JGe (s:Sys) (hs:SzS s) (h20:∀ w∈s.whens,w.acts.length≤20):PureCall Tryz.prog 175 [J0k s] (encB (validF s)):=by
 refine PC [] Tryz.func175 rfl (by rfl) rfl ?_;have r1:=JCf s.vars hs.v fun v hv=>(hs.t v hv).1;have r2:=J71 s.eqs hs.q hs.m.1;have r3:=J71 s.inits hs.n hs.m.2.1;have r4:=JCe s.whens hs.w hs.m.2.2;have hC:=J9f 256 (fun v=>!varF v) s.vars hs.v c256 fun v hv=>JDp v (hs.t v hv).2.1 (hs.t v hv).2.2.1 (hs.t v hv).2.2.2;have hK:=J82 s hs.v;have hQ:∀ q∈s.eqs,(SzE q.left∧TxE q.left)∧SzE q.right∧TxE q.right:=fun q hq=>⟨hs.e _ (by unfold allF;exact List.mem_append_left _ (List.mem_append_left _ (J1e hq).1)),hs.e _ (by unfold allF;exact List.mem_append_left _ (List.mem_append_left _ (J1e hq).2))⟩;have hN:∀ q∈s.inits,(SzE q.left∧TxE q.left)∧SzE q.right∧TxE q.right:=fun q hq=>⟨hs.e _ (by unfold allF;exact List.mem_append_left _ (List.mem_append_right _ (J1e hq).1)),hs.e _ (by unfold allF;exact List.mem_append_left _ (List.mem_append_right _ (J1e hq).2))⟩;have hWc:∀ w∈s.whens,SzE w.cond∧TxE w.cond:=fun w hw=>hs.e _ (by unfold allF;exact List.mem_append_right _ (J7w hw).1);have hWa:∀ w∈s.whens,∀ a∈w.acts,SzE a.value∧TxE a.value:=fun w hw a ha=>hs.e _ (by unfold allF;exact List.mem_append_right _ ((J7w hw).2 a ha));have hq:=hs.q;have hn:=hs.n;have hw:=hs.w;clear hs;generalize hF:validF s=F;unfold validF at hF;obtain ⟨vs,qs,ns,ws⟩:=s;simp only at *;generalize risG (vs.map Va.name) none=b1 at *;generalize risG (qs.map Eqn.name) none=b2 at *;generalize risG (ns.map Eqn.name) none=b3 at *;generalize risG (ws.map Whn.name) none=b4 at *;generalize (vs.any fun v=>!varF v)=b5 at *;generalize knownF vs=ks at *;unfold J0k at hK ⊢;refine kWS ?_;intros;refine CallP.flat [] _ c249 r1 rfl ?_;refine kWS ?_;intros;refine CondP.intro (fun h=>?_) (fun h=>?_)<;>refine kW ?_
 case' refine_2=>
  simp only[h,Bool.false_and] at hF;refine kS ?_;intros;exact .of (by rw[← hF];rfl)
 simp only[h,Bool.true_and] at hF;refine kS ?_;intros;refine CallP.flat [] _ c251 r2 rfl ?_;refine kWS ?_;intros;refine CondP.intro (fun h=>?_) (fun h=>?_)<;>refine kW ?_
 case' refine_2=>
  simp only[h,Bool.false_and] at hF;refine kS ?_;intros;exact .of (by rw[← hF];rfl)
 simp only[h,Bool.true_and] at hF;refine kS ?_;intros;refine CallP.flat [] _ c251 r3 rfl ?_;refine kWS ?_;intros;refine CondP.intro (fun h=>?_) (fun h=>?_)<;>refine kW ?_
 case' refine_2=>
  simp only[h,Bool.false_and] at hF;refine kS ?_;intros;exact .of (by rw[← hF];rfl)
 simp only[h,Bool.true_and] at hF;refine kS ?_;intros;refine CallP.flat [] _ c253 r4 rfl ?_;refine kWS ?_;intros;refine CondP.intro (fun h=>?_) (fun h=>?_)<;>refine kW ?_
 case' refine_2=>
  simp only[h,Bool.false_and] at hF;refine kS ?_;intros;exact .of (by rw[← hF];rfl)
 simp only[h,Bool.true_and] at hF;refine kS ?_;intros;refine CallP.flat [] _ c255 hC rfl ?_;refine kWS ?_;intros;refine CondP.intro (fun h=>?_) (fun h=>?_)<;>refine kW ?_
 ·simp only[h,Bool.not_true,Bool.false_and] at hF;refine kS ?_;intros;exact .of (by rw[← hF];rfl)
 simp only[h,Bool.not_false,Bool.true_and] at hF;refine kS ?_;intros;refine J00 [] _ c99 hK ?_;refine kWS ?_;intros
 have hQN:∀ l∈[qs,ns],l.length≤2^60∧∀ q∈l,(SzE q.left∧TxE q.left)∧SzE q.right∧TxE q.right:=by
  intro l hl
  rcases List.mem_cons.1 hl with h | h
  ·rw[h];exact ⟨hq,hQ⟩
  ·rw[List.mem_singleton.1 h];exact ⟨hn,hN⟩
 obtain ⟨wh,hwh⟩:∃ wh,J53 ks ws []=wh:=⟨_,rfl⟩;rw[hwh] at hF;replace hF:([qs,ns].all (fun l=>l.all (eqT ks))&&wh)=F:=by rw[← hF];simp
 clear hQ hN r1 r2 r3 r4 hC hK
 refine LoopP.intro (fun k σ H=>∃ g1 g42 i,k=2-i∧i≤2∧(([qs,ns].drop i).all (fun l=>l.all (eqT ks))&&wh)=F ∧
  σ=fr [(1,.op 1 g1 0 0),(2,encB false),(3,encK ks),(42,.own 42 g42 0 2),(43,encI 2),(44,encI i)] ∧
  H=hp [(1,g1,⟨26,4,[.agg [.sl 7 (vs.map encV),.sl 9 (qs.map J0o),.sl 9 (ns.map J0o),.sl 6 (ws.map J17)]]⟩),(42,g42,⟨23,1,[qs,ns].map fun l=>.sl 9 (l.map J0o)⟩)]) ?_ ?_
 ·exact .intro <| W.of ⟨_,_,_,0,rfl,by omega,hF,rfl,rfl⟩ ⟨rfl,rfl,rfl,rfl,rfl,rfl,trivial⟩ ⟨rfl,rfl,trivial⟩
 ·clear hF;rintro k σ H ⟨g1,g42,i,rfl,hi,hF,rfl,rfl⟩;refine kWS ?_;intros;refine CondP.dec (fun h=>?_) (fun h=>?_)<;>refine kW ?_
  ·have hi':i<[qs,ns].length:=by simp;omega
   rw[List.drop_eq_getElem_cons hi',List.all_cons] at hF;obtain ⟨hl,hlq⟩:=hQN _ (List.getElem_mem hi');refine kR ?_;intros;generalize [qs,ns][i]=l at hF hl hlq ⊢;obtain ⟨rs,hrs⟩:∃ rs,([qs,ns].drop (i+1)).all (fun l=>l.all (eqT ks))=rs:=⟨_,rfl⟩;rw[hrs] at hF
   refine LoopP.intro (fun k σ H=>∃ j,k=l.length-j∧j≤l.length∧((l.drop j).all (eqT ks)&&rs&&wh)=F ∧
    σ=fr [(1,.op 1 g1 0 0),(2,encB false),(3,encK ks),(42,.own 42 g42 0 2),(43,encI 2),(44,encI i),(48,.sl 9 (l.map J0o)),(49,encI l.length),(50,encI j)] ∧
    H=hp [(1,g1,⟨26,4,[.agg [.sl 7 (vs.map encV),.sl 9 (qs.map J0o),.sl 9 (ns.map J0o),.sl 6 (ws.map J17)]]⟩),(42,g42,⟨23,1,[qs,ns].map fun l=>.sl 9 (l.map J0o)⟩)]) ?_ ?_
   ·exact .intro <| W.of ⟨_,0,rfl,Nat.zero_le _,hF,rfl,rfl⟩ ⟨rfl,rfl,rfl,rfl,rfl,rfl,rfl,rfl,rfl,trivial⟩ ⟨rfl,rfl,trivial⟩
   ·clear hF;rintro k σ H ⟨j,rfl,hj,hF,rfl,rfl⟩;refine kWS ?_;intros;refine CondP.dec (fun h=>?_) (fun h=>?_)<;>refine kW ?_
    ·have hj':j<l.length:=by omega
     rw[List.drop_eq_getElem_cons hj',List.all_cons] at hF;have hz:=hlq _ (List.getElem_mem hj');refine kR ?_;intros;generalize l[j]=q at hF hz ⊢;unfold eqT at hF;have t1:=J4m ks q.left 0 hz.1.1 hz.1.2;have t2:=J4m ks q.right 0 hz.2.1 hz.2.2;generalize typedF ks q.left 0=y1 at hF t1;generalize typedF ks q.right 0=y2 at hF t2;rw[J0G] at t1 t2;refine kR ?_;intros;refine CallP.flat [] _ c258 t1 rfl ?_;refine kWS ?_;intros;refine CondP.intro (fun h1=>?_) (fun h1=>?_)<;>refine kW ?_
     case' refine_2=>
      simp only[h1,Bool.false_and] at hF;refine kS ?_;intros;exact .of (by rw[← hF];rfl)
     simp only[h1,Bool.true_and] at hF;refine kS ?_;intros;refine CallP.flat [] _ c258 t2 rfl ?_;refine kWS ?_;intros;refine CondP.intro (fun h2=>?_) (fun h2=>?_)<;>refine kW ?_
     case' refine_2=>
      simp only[h2,Bool.false_and] at hF;refine kS ?_;intros;exact .of (by rw[← hF];rfl)
     simp only[h2,Bool.true_and] at hF;refine kS ?_;intros
     exact .intro <| W.of ⟨_,by omega,j+1,rfl,hj',hF,rfl,rfl⟩ ⟨rfl,rfl,rfl,rfl,rfl,rfl,rfl,rfl,rfl,trivial⟩ ⟨rfl,rfl,trivial⟩
    ·rw[List.drop_eq_nil_of_le (by omega)] at hF;refine kS ?_;intros
     exact .intro <| W.of ⟨_,by omega,_,_,i+1,rfl,by omega,by rw[hrs];exact hF,rfl,rfl⟩ ⟨rfl,rfl,rfl,rfl,rfl,rfl,trivial⟩ ⟨rfl,rfl,trivial⟩
  ·rw[List.drop_eq_nil_of_le (by simp;omega)] at hF;replace hF:wh=F:=hF;rw[← hwh] at hF;refine kS ?_;intros
   refine LoopP.intro (fun k σ H=>∃ g i,∃ A:List ByteArray,k=ws.length-i∧i≤ws.length∧J53 ks (ws.drop i) A=F ∧
    σ=fr [(2,encB false),(3,encK ks),(8,.om 68 g),(70,.sl 6 (ws.map J17)),(71,encI ws.length),(72,encI i)] ∧
    H=hp [(68,g,⟨302,0,[setM A]⟩)]) ?_ ?_
   ·refine .intro <| W.of ⟨_,_,0,[],rfl,Nat.zero_le _,hF,rfl,rfl⟩ ⟨rfl,rfl,rfl,rfl,?_,rfl,trivial⟩ ⟨rfl,trivial⟩
    show AV.val (.int .i64 _)=AV.val (.int .i64 _)
    rw[List.length_map]
   ·clear hF hwh;rintro k σ H ⟨g,i,A,rfl,hi,hF,rfl,rfl⟩;refine kWS ?_;intros;refine CondP.dec (fun h=>?_) (fun h=>?_)<;>refine kW ?_
    ·have hi':i<ws.length:=by omega
     rw[List.drop_eq_getElem_cons hi'] at hF;unfold J53 at hF;have hz:=hWc _ (List.getElem_mem hi');have hza:=hWa _ (List.getElem_mem hi');have h20':=h20 _ (List.getElem_mem hi');refine kR ?_;intros;generalize ws[i]=w at hF hz hza h20' ⊢;have t1:=J4m ks w.cond 1 hz.1 hz.2;generalize typedF ks w.cond 1=y1 at hF t1;rw[J0G] at t1;refine kR ?_;intros;refine CallP.flat [] _ c258 t1 rfl ?_;refine kWS ?_;intros;refine CondP.intro (fun h1=>?_) (fun h1=>?_)<;>refine kW ?_
     case' refine_2=>
      simp only[h1,Bool.false_and] at hF;refine kS ?_;intros;exact .of (by rw[← hF];rfl)
     simp only[h1,Bool.true_and] at hF;refine kS ?_;intros;refine CallP.frame 1000000 [(50,68)] rfl c259 (JJn ks w A g (by omega) hza) rfl ⟨rfl,trivial⟩ ?_;rintro r0 h' ⟨rfl,rfl⟩;refine ⟨[(68,g,⟨302,0,[setM (J9r ks w A).2]⟩)],⟨rfl,trivial⟩,?_⟩;refine kWS ?_;intros;refine CondP.intro (fun h2=>?_) (fun h2=>?_)<;>refine kW ?_
     case' refine_2=>
      simp only[h2,Bool.false_and] at hF;refine kS ?_;intros;exact .of (by rw[← hF];rfl)
     simp only[h2,Bool.true_and] at hF;refine kS ?_;intros
     exact .intro <| W.of ⟨_,by omega,_,i+1,_,rfl,hi',hF,rfl,rfl⟩ ⟨rfl,rfl,rfl,rfl,rfl,rfl,trivial⟩ ⟨rfl,trivial⟩
    ·rw[List.drop_eq_nil_of_le (by omega)] at hF;refine kS ?_;intros;exact .of (by rw[← hF];rfl)
def checkF (s:Sys):Int:=if largeF s then 2 else if validF s then 0 else 1
theorem JC9 (s:Sys) (hs:SzS s):PureCall Tryz.prog 89 [J0k s] (encI (checkF s)):=by
 refine PC [] Tryz.func89 rfl (by rfl) rfl ?_;have hL:=JHC s hs
 have h20:largeF s=false→∀ w∈s.whens,w.acts.length≤20:=by
  intro h w hw;unfold largeF at h;simp only[Bool.or_eq_false_iff] at h;have:=List.any_eq_false.1 h.1.2 w hw;simp at this;exact this
 have hV:=fun h=>JGe s hs (h20 h);generalize hF:checkF s=F;unfold checkF at hF;generalize largeF s=a at hF hL hV;generalize validF s=b at hF hV;clear h20 hs;unfold J0k at hL hV ⊢;refine kWS ?_;intros;refine CallP.flat [] _ c174 hL rfl ?_;refine kWS ?_;intros
 cases a with
 | true=>
   refine kS ?_;intros;exact .of (by rw[← hF];rfl)
 | false=>
   refine kS ?_;intros;refine CallP.flat [] _ c175 (hV rfl) rfl ?_;refine kWS ?_;intros
   cases b with
   | true=>
     refine kS ?_;intros;exact .of (by rw[← hF];rfl)
   | false=>
     refine kS ?_;intros;exact .of (by rw[← hF];rfl)
abbrev oTrue:ByteArray:=⟨#[116,114,117,101]⟩
abbrev oFalse:ByteArray:=⟨#[102,97,108,115,101]⟩
abbrev oTime:ByteArray:=⟨#[116,105,109,101]⟩
abbrev oInit:ByteArray:=⟨#[105,110,105,116,105,97,108]⟩
abbrev oNeg:ByteArray:=⟨#[110,101,103]⟩
abbrev oNot:ByteArray:=⟨#[110,111,116]⟩
abbrev oAdd:ByteArray:=⟨#[97,100,100]⟩
abbrev oSub:ByteArray:=⟨#[115,117,98]⟩
abbrev oMul:ByteArray:=⟨#[109,117,108]⟩
abbrev oDiv:ByteArray:=⟨#[100,105,118]⟩
abbrev oLess:ByteArray:=⟨#[108,101,115,115]⟩
abbrev oAtMost:ByteArray:=⟨#[97,116,109,111,115,116]⟩
abbrev oMore:ByteArray:=⟨#[109,111,114,101]⟩
abbrev oAtLeast:ByteArray:=⟨#[97,116,108,101,97,115,116]⟩
abbrev oAnd:ByteArray:=⟨#[97,110,100]⟩
abbrev oOr:ByteArray:=⟨#[111,114]⟩
mutual
def szF:Ex→Nat
 | .mk _ _ _ ks=>1+szL ks
def szL:List Ex→Nat
 | []=>0
 | k::ks=>szF k+szL ks
end
mutual
def htF:Ex→Nat
 | .mk _ _ _ ks=>1+htL ks
def htL:List Ex→Nat
 | []=>0
 | k::ks=>max (htF k) (htL ks)
end
theorem JKI (e:Ex):szF e=1+szL e.kids:=by cases e;rfl
theorem JIN (e:Ex):htF e=1+htL e.kids:=by cases e;rfl
def J5q (e:Ex):Bool:=decide (200<szF e)||decide (24<htF e)
theorem J95:∀ (d:Nat) (e:Ex) (l:Int),0≤l→(htF e≤d∧(szF e:Int)≤l→measF d e l=l-szF e)∧(¬ (htF e≤d∧(szF e:Int)≤l)→measF d e l<0):=by
 intro d
 induction d with
 | zero=>
   intro e l hl;have:1≤htF e:=by rw[JIN];omega
   exact ⟨fun h=>absurd h.1 (by omega),fun _=>by unfold measF;omega⟩
 | succ d ih=>
   intro e l hl;have hz:=JKI e;have hh:=JIN e
   have key:∀ (ks:List Ex) (l:Int),0≤l→(htL ks≤d∧(szL ks:Int)≤l→J2E (measF d) ks l=l-szL ks)∧(¬ (htL ks≤d∧(szL ks:Int)≤l)→J2E (measF d) ks l<0):=by
    intro ks
    induction ks with
    | nil=>intro l hl;exact ⟨fun _=>by simp[J2E,szL],fun h=>absurd ⟨by simp[htL],by simp[szL];omega⟩ h⟩
    | cons k ks ihk=>
      intro l hl;obtain ⟨a1,a2⟩:=ih k l hl;unfold J2E htL szL
      by_cases hk:htF k≤d∧(szF k:Int)≤l
      ·rw[a1 hk,if_neg (by omega)];obtain ⟨b1,b2⟩:=ihk (l-szF k) (by omega);exact ⟨fun h=>by rw[b1 ⟨by omega,by omega⟩];omega,fun h=>b2 (fun h'=>h ⟨by omega,by omega⟩)⟩
      ·rw[if_pos (a2 hk)];exact ⟨fun h=>absurd ⟨by omega,by omega⟩ hk,fun _=>by omega⟩
   unfold measF
   by_cases h1:l-1<0
   ·rw[if_pos h1];exact ⟨fun h=>by omega,fun _=>by omega⟩
   ·rw[if_neg h1];obtain ⟨b1,b2⟩:=key e.kids (l-1) (by omega);exact ⟨fun h=>by rw[b1 ⟨by omega,by omega⟩];omega,fun h=>b2 (fun h'=>h ⟨by omega,by omega⟩)⟩
theorem J4J (e:Ex):tooF e=J5q e:=by
 obtain ⟨h1,h2⟩:=J95 24 e 200 (by omega);unfold tooF J5q;rw[← Bool.decide_or];refine decide_eq_decide.2 ?_
 by_cases h:htF e≤24∧(szF e:Int)≤200
 ·rw[h1 h];omega
 ·have:=h2 h;omega
theorem JEB (e:Ex) (h:J5q e=false):sizeF e=szF e:=by
 unfold J5q at h;simp at h;unfold sizeF;rw[(J95 24 e 200 (by omega)).1 ⟨by omega,by omega⟩];omega
def allI (l:List Int) (t:Int):Bool:=l.all fun x=>decide (x=t)
def varT (vs:List Va) (tx:ByteArray) (od:Int):Int×Bool:=match vs.find? fun v=>decide (v.name=tx) with
 | none=>(0,false)
 | some v=>(v.type,decide (od=0)||decide (v.kind=0)||decide (v.kind=3))
def typH (vs:List Va) (o tx:ByteArray) (od:Int) (rs:List Int):Int×Bool:=
 if o=oNum then (0,true) else if o=oTime then (0,true) else if o=oTrue then (1,true) else if o=oFalse then (1,true) else if o=oInit then (1,true) else if o=oSample then (1,true)
 else if o=oVar then varT vs tx od else if o=oPre then varT vs tx od
 else if o=oNeg then (0,allI rs 0) else if o=oAdd then (0,allI rs 0) else if o=oSub then (0,allI rs 0) else if o=oMul then (0,allI rs 0) else if o=oDiv then (0,allI rs 0)
 else if o=oLess then (1,allI rs 0) else if o=oAtMost then (1,allI rs 0) else if o=oMore then (1,allI rs 0) else if o=oAtLeast then (1,allI rs 0)
 else if o=oAnd then (1,allI rs 1) else if o=oOr then (1,allI rs 1) else if o=oNot then (1,allI rs 1)
 else if o=oEq then (1,decide (rs.getD 0 0=rs.getD 1 0)) else if o=oNe then (1,decide (rs.getD 0 0=rs.getD 1 0))
 else (rs.getD 1 0,decide (rs.getD 0 0=1)&&decide (rs.getD 1 0=rs.getD 2 0))
mutual
def typR (vs:List Va):Ex→Int×Bool
 | .mk o t n ks=>match typL vs ks with
   | none=>(0,false)
   | some rs=>typH vs o t n rs
def typL (vs:List Va):List Ex→Option (List Int)
 | []=>some []
 | k::ks=>if (typR vs k).2 then (typL vs ks).map ((typR vs k).1::·) else none
end
theorem JIW:∀ a:List UInt8,Op.bytesLess a a=false
 | []=>rfl
 | x::a=>by rw[J8Q,JIW a];simp
theorem JC2:∀ a b c:List UInt8,Op.bytesLess a b=true→Op.bytesLess b c=true→Op.bytesLess a c=true
 | [],[],_,h,_=>by cases h
 | [],_::_,[],_,h=>by cases h
 | [],_::_,_::_,_,_=>rfl
 | _::_,[],_,h,_=>by cases h
 | _::_,_::_,[],_,h=>by cases h
 | x :: a,y::b,z::c,h1,h2=>by
   rw[J8Q] at h1 h2 ⊢;simp only[Bool.or_eq_true,Bool.and_eq_true,decide_eq_true_eq] at h1 h2 ⊢
   rcases h1 with h1 | ⟨rfl,h1⟩
   ·rcases h2 with h2 | ⟨rfl,h2⟩
    ·exact .inl (UInt8.lt_trans h1 h2)
    ·exact .inl h1
   ·rcases h2 with h2 | ⟨rfl,h2⟩
    ·exact .inl h2
    ·exact .inr ⟨rfl,JC2 a b c h1 h2⟩
structure U where
 name:ByteArray
 order:Int
 pre:Bool
 deriving DecidableEq
def encU (u:U):AV:=.agg [.val (.string u.name),.val (.int .i64 u.order),.val (.bool u.pre)]
def cmpS (a b:ByteArray):Int:=Lib.compareBytes a.data.toList b.data.toList
theorem JB4 (a b:ByteArray):PureCall Tryz.prog 289 [encS a,encS b] (encI (cmpS a b)):=by
 refine PC [] Tryz.func289 rfl (by rfl) rfl ?_;refine kWS ?_;intros;refine CallP.ext _ (JKb a b) ?_;refine kWS ?_;intros;exact .of rfl
theorem JDO (a b:ByteArray):PureCall Tryz.prog 195 [encS a,encS b] (encI (cmpS a b)):=by
 refine PC [] Tryz.func195 rfl (by rfl) rfl ?_;refine kWS ?_;intros;refine CallP.flat [] _ c289 (JB4 a b) rfl ?_;refine kWS ?_;intros;exact .of rfl
def fitF (u:U):Bool:=nameF u.name&&decide (0≤u.order∧u.order≤6)&&(!u.pre||decide (u.order=0))
def JCy (s s':ByteArray) (n n':Int) (p p':Bool):Int:=match decide (s=s') with
 | false=>cmpS s s'
 | true=>match decide (p=p') with
   | false=>match p' with
     | true=>-1
     | false=>1
   | true=>n-n'
def J23 (a b:U):Int:=JCy a.name b.name a.order b.order a.pre b.pre
theorem JAk (s:ByteArray) (n:Int) (p:Bool):encU ⟨s,n,p⟩=.agg [.val (.string s),.val (.int .i64 n),.val (.bool p)]:=rfl
def J0L (a b:U):Bool:=match decide (a.name=b.name) with
 | false=>Op.bytesLess a.name.toList b.name.toList
 | true=>match decide (a.pre=b.pre) with
   | false=>b.pre
   | true=>decide (a.order<b.order)
theorem JKx (u:U) (hs:u.name.size<2^35):PureCall Tryz.prog 81 [encU u] (encB (fitF u)):=by
 refine PC [] Tryz.func81 rfl (by rfl) rfl ?_;obtain ⟨s,n,p⟩:=u;obtain ⟨F,hF⟩:∃ F,(nameF s&&decide (0≤n∧n≤6)&&(!p||decide (n=0)))=F:=⟨_,rfl⟩;rw[show fitF ⟨s,n,p⟩=F from hF];simp only at hs;rw[JAk];refine kWO ?_;intros;refine CallP.flat [] (encB (nameF s)) c90 (J1s s (by omega)) rfl ?_;refine kWO ?_;intros;refine CondP.intro (fun h1=>?_) (fun h1=>?_)<;>refine kW ?_
 ·rw[h1,Bool.true_and] at hF;refine kO ?_;intros;refine CondP.dec (fun h2=>?_) (fun h2=>?_)<;>refine kW ?_
  ·refine kO ?_;intros;refine CondP.dec (fun h3=>?_) (fun h3=>?_)<;>refine kW ?_
   ·rw[decide_eq_true (by omega),Bool.true_and] at hF;refine kO ?_;intros;cases p
    ·refine kWO ?_;intros;exact .of (by rw[← hF];rfl)
    ·refine kWO ?_;intros;exact .of (by rw[← hF];simp;rfl)
   ·rw[decide_eq_false (by omega),Bool.false_and] at hF;refine kO ?_;intros;exact .of (by rw[← hF];rfl)
  ·rw[decide_eq_false (by omega),Bool.false_and] at hF;refine kO ?_;intros;exact .of (by rw[← hF];rfl)
 ·rw[h1,Bool.false_and,Bool.false_and] at hF;refine kO ?_;intros;exact .of (by rw[← hF];rfl)
theorem JK0 (a b:U) (ha:0≤a.order∧a.order≤6) (hb:0≤b.order∧b.order≤6):PureCall Tryz.prog 116 [encU a,encU b] (encI (J23 a b)):=by
 refine PC [] Tryz.func116 rfl (by rfl) rfl ?_;obtain ⟨s,n,p⟩:=a;obtain ⟨s',n',p'⟩:=b;obtain ⟨F,hF⟩:∃ F,JCy s s' n n' p p'=F:=⟨_,rfl⟩;rw[show J23 ⟨s,n,p⟩ ⟨s',n',p'⟩=F from hF];unfold JCy at hF;simp only at ha hb;rw[JAk,JAk];refine kWO ?_;intros;refine CondP.dec (fun h1=>?_) (fun h1=>?_)<;>refine kW ?_
 ·rw[decide_eq_true h1] at hF;cases p<;>cases p'
  all_goals (refine kW ?_)
  all_goals (refine kS ?_;intros)
  all_goals exact .of (by rw[← hF];rfl)
 ·rw[decide_eq_false h1] at hF;refine kO ?_;intros;refine CallP.flat [] (encI (cmpS s s')) c195 (JDO s s') rfl ?_;refine kWO ?_;intros;exact .of (by rw[← hF];rfl)
def useF (e:Ex):U:=⟨e.text,e.order,decide (e.op=oPre)⟩
theorem JIZ (e:Ex):PureCall Tryz.prog 145 [encE e] (encU (useF e)):=by
 refine PC [] Tryz.func145 rfl (by rfl) rfl ?_;rw[J02];unfold useF encU;generalize e.kids=ks;generalize e.op=o;generalize e.text=tx;generalize e.order=od;refine kWS ?_;intros;exact .of rfl
def putU (A:List U) (u:U):List U:=if u∈A then A else A++[u]
def setU (A:List U):AV:=.mp (A.map encU) (A.map fun _=>encB true)
mutual
def J35:Ex→List U→List U
 | .mk o t n ks,A=>J3K ks (if o=oVar∨o=oPre then putU A ⟨t,n,decide (o=oPre)⟩ else A)
def J3K:List Ex→List U→List U
 | [],A=>A
 | k::ks,A=>J3K ks (J35 k A)
end
theorem JGf (e:Ex) (A:List U):J35 e A=J3K e.kids (if e.op=oVar∨e.op=oPre then putU A (useF e) else A):=by cases e;rfl
theorem J5r (u v:U):J0e T 54 (encU u) (encU v)=some (decide (u=v)):=by
 obtain ⟨a,b,c⟩:=u;obtain ⟨a',b',c'⟩:=v;show some ((a==a')&&((decide (b=b'))&&((c==c')&&true)))=_
 rw[J7W]
 congr 1
 rw[Bool.eq_iff_iff];simp
theorem JEE (u:U):∀ A:List U,∃ r,J0i (J0e T 54 (encU u)) (A.map encU)=some r∧(match r with
  | some i=>u∈A∧(A.map fun _=>encB true).getD i .dead=encB true∧(A.map fun _=>encB true).set i (encB true)=A.map fun _=>encB true
  | none=>u ∉ A)
 | []=>⟨none,rfl,by simp⟩
 | x :: l=>by
   obtain ⟨r,h1,h2⟩:=JEE u l;rw[List.map_cons];unfold J0i;rw[J5r]
   by_cases h:u=x
   ·rw[decide_eq_true h];exact ⟨some 0,rfl,by simp[h],rfl,rfl⟩
   ·rw[decide_eq_false h,h1];refine ⟨r.map (· + 1),rfl,?_⟩
    revert h2
    cases r with
    | none=>intro h2;simp[h];exact h2
    | some i=>
      rintro ⟨h2,h3,h4⟩;exact ⟨by simp[h2],h3,by show (_::_)=(_::_);exact congrArg _ h4⟩
theorem JJr (e:Ex):SzE e→∀ (A:List U) (p:Nat),HCall Tryz.prog 121 [encE e,.om 50 p] (hp [(50,p,⟨169,0,[setU A]⟩)]) (fun r h=>r=.tup []∧h=hp [(50,p,⟨169,0,[setU (J35 e A)]⟩)]):=by
 induction e using J2X with
 | h e ih=>
   intro hs A p;have hU:=JIZ e;have ihk:=fun k hk=>ih k hk (hs.kid k hk);have hl:=hs.len;refine J2q (E:=E 0) J3q (JK5 0) Tryz.func121 rfl (by rfl) (Nat.le_of_ble_eq_true rfl) ?_;generalize hF:J35 e A=F;rw[JGf] at hF;clear ih hs;rw[J02] at hU ⊢;generalize useF e=u at hU hF;generalize e.kids=ks at *;generalize e.op=o at *;generalize e.text=tx at *;generalize e.order=od at *;have hput:(u∈A→putU A u=A)∧(u ∉ A→putU A u=A++[u]):=⟨fun h=>by unfold putU;rw[if_pos h],fun h=>by unfold putU;rw[if_neg h]⟩;obtain ⟨r2,hr2,hm2⟩:=JEE u A;have hlen:AV.val (.int .i64 ((ks.map encE).length:Nat))=encI ks.length:=by rw[List.length_map];rfl
   refine kWS ?_;intros;refine CondP.dec (fun h1=>?_) (fun h1=>?_)<;>refine kW ?_
   case' refine_2=>
    by_cases h2:o=oPre
   case' pos | refine_1=>
    rw[if_pos (by simp[*])] at hF;refine kS ?_;intros;refine J00 [] _ c145 hU ?_;refine kWS ?_;intros;refine Need.intro keyst54 ?_;refine kWS ?_;intros;refine LookP.intro r2 hr2 ?_
    rcases r2 with _ | j
    case' none=>rw[hput.2 hm2] at hF
    case' some=>
     obtain ⟨m1,m2,m3⟩:=hm2;rw[hput.1 m1] at hF
    all_goals refine kW ?_
    all_goals refine kS ?_;intros
   case' neg=>
    rw[if_neg (by simp[*])] at hF;refine kS ?_;intros
   all_goals
    refine LoopP.intro (fun k σ H=>∃ i B,k=ks.length-i∧i≤ks.length∧J3K (ks.drop i) B=F∧σ=fr [(1,.om 50 p),(18,.sl 4 (ks.map encE)),(19,encI ks.length),(20,encI i)] ∧
     H=hp [(50,p,⟨169,0,[setU B]⟩)]) ?_ ?_
    case' refine_1=>
     first
      | exact .intro <| W.of ⟨_,0,_,rfl,Nat.zero_le _,hF,rfl,rfl⟩ ⟨rfl,rfl,hlen,rfl,trivial⟩ ⟨rfl,trivial⟩
      | exact .intro <| W.of ⟨_,0,_,rfl,Nat.zero_le _,hF,rfl,rfl⟩ ⟨rfl,rfl,hlen,rfl,trivial⟩ ⟨by show some (_,(⟨_,_,[.mp _ (List.set _ _ (encB true))]⟩:Blk))=_;rw[m3];rfl,trivial⟩
      | exact .intro <| W.of ⟨_,0,_,rfl,Nat.zero_le _,hF,rfl,rfl⟩ ⟨rfl,rfl,hlen,rfl,trivial⟩ ⟨by unfold setU;rw[List.map_append,List.map_append];rfl,trivial⟩
    case' refine_2=>
     clear hF;rintro k σ H ⟨i,B,rfl,hi,hF,rfl,rfl⟩
     rcases Nat.lt_or_ge i ks.length with h9 | h9
     ·rw[List.drop_eq_getElem_cons h9] at hF;have hk:=ihk _ (List.getElem_mem h9) B p;obtain ⟨k,hkk⟩:∃ k,ks[i]=k:=⟨_,rfl⟩;rw[hkk] at hF hk;unfold J3K at hF;rw[J02] at hk;refine kWQ ?_;intros;simp only[hkk,J02];refine kQ ?_;intros;refine CallP.frame 1000000 [(50,50)] rfl c121 hk rfl ⟨rfl,trivial⟩ ?_;rintro r0 h' ⟨rfl,rfl⟩;refine ⟨[(50,p,⟨169,0,[setU (J35 k B)]⟩)],⟨rfl,trivial⟩,?_⟩;refine kWQ ?_;intros
      exact .intro <| W.of ⟨_,by omega,i+1,_,rfl,h9,hF,rfl,rfl⟩ ⟨rfl,rfl,rfl,rfl,trivial⟩ ⟨rfl,trivial⟩
     ·rw[List.drop_eq_nil_of_le h9] at hF;refine kWQ ?_;intros;refine EndH.of (m:=[(50,p,⟨169,0,[setU B]⟩)]) ⟨rfl,trivial⟩ ⟨rfl,?_⟩;rw[← hF];rfl
inductive Vl where
 | num (q:Rat)
 | tr (b:Bool)
 deriving DecidableEq
def J0A:Vl→AV
 | .num q=>J0u (encF q) false false
 | .tr b=>J0u nilQ b true
def Vl.sz:Vl→Nat
 | .num q=>szq q
 | .tr _=>0
def Vl.type:Vl→Int
 | .num _=>0
 | .tr _=>1
def shortV:Vl→Bool
 | .num q=>decide (nd q.num≤300)&&decide (nd q.den≤300)
 | .tr _=>true
theorem JG3 (v:Vl) (h:v.sz<2^36):PureCall Tryz.prog 101 [J0A v] (encB (shortV v)):=by
 refine PC [] Tryz.func101 rfl (by rfl) rfl ?_
 rcases v with q | b
 ·have a1:=J0s q;have a2:=J12 q;have h:szq q<2^36:=h;have h1:=J9z q.num q.den (by omega) (by omega);unfold shortV J0A J0u encF encQ at *;refine kWS ?_;intros;refine CallP.flat [] _ c151 h1 rfl ?_;refine kWS ?_;intros;exact .of rfl
 ·unfold J0A J0u;refine kWS ?_;intros;exact .of rfl
def strV:Vl→ByteArray
 | .num q=>ofL ((qT q.num q.den).map UInt8.ofNat)
 | .tr b=>if b then sTrue else sFalse
theorem JDK (v:Vl) (h:v.sz<2^36):PureCall Tryz.prog 102 [J0A v] (encS (strV v)):=by
 refine PC [] Tryz.func102 rfl (by rfl) rfl ?_
 rcases v with q | b
 ·have a1:=J0s q;have a2:=J12 q;have h:szq q<2^36:=h;have h1:=J7Z q.num q.den (by omega) (by omega);unfold J0A J0u encF encQ strV at *;refine kWS ?_;intros;refine CallP.flat [] _ c150 h1 rfl ?_;refine kWS ?_;intros;exact .of rfl
 ·unfold J0A J0u;cases b
  all_goals
   refine kWS ?_;intros;exact .of rfl
def sameV:Vl→Vl→Bool
 | .num p,.num q=>decide (p=q)
 | .tr a,.tr b=>decide (a=b)
 | _,_=>false
theorem JBL (p q:Rat):sgn (p-q).num=0↔p=q:=by
 have:sgn (p-q).num=0↔(p-q).num=0:=by
  unfold sgn;split
  ·simp[*]
  ·split<;>omega
 rw[this,Rat.num_eq_zero];constructor
 ·intro h;grind
 ·intro h;grind
theorem JC4 (v w:Vl) (ht:v.type=w.type) (h:v.sz+w.sz+1<2^36):PureCall Tryz.prog 279 [J0A v,J0A w] (encB (sameV v w)):=by
 refine PC [] Tryz.func279 rfl (by rfl) rfl ?_
 rcases v with q | b<;>rcases w with p | c
 ·have h1:=JGG q p h;rw[show encI (sgn (q-p).num)=AV.val (.int .i64 (sgn (q-p).num)) from rfl] at h1;have h2:=JBL q p;unfold sameV J0A J0u encF encQ at *;refine kWS ?_;intros;refine CallP.flat [] _ c330 h1 rfl ?_;refine kWS ?_;intros;refine .of ?_;show AV.val (.bool (decide _))=AV.val (.bool (decide _))
  congr 2
  exact decide_eq_decide.2 h2
 ·cases ht
 ·cases ht
 ·unfold J0A J0u;refine kWS ?_;intros;cases b<;>cases c
  all_goals
   refine kS ?_;intros;exact .of rfl
def J4N (l:List Vl):AV:=.sl 6 (l.map J0A)
theorem J1y (q:Rat):PureCall Tryz.prog 189 [encF q] (J0A (.num q)):=JA3 (encF q) (.inr ⟨_,_,rfl⟩)
def J1l:Except Int Vl→AV
 | .ok v=>.tup [J0A v,encI 0]
 | .error c=>.tup [J0u nilQ false false,encI c]
structure Ev where
 time:Rat
 init:Bool
 vals:List (U×Vl)
def JKi (e:Ev):AV:=.agg [encB (decide (e.time.num<0)),encW e.time.num.natAbs,encB (decide ((e.time.den:Int)<0)),encW (e.time.den:Int).natAbs,encB e.init,.mp (e.vals.map fun x=>encU x.1) (e.vals.map fun x=>J0A x.2)]
def J0z (e:Ev):AV:=.ep (JKi e) 0
section
variable (x:AV) (l:List Vl) (a b:Vl) (p q:Rat) (c d:Bool) (e:Ev)
theorem J8f:PureCall Tryz.prog 265 [x,J4N l,.ep (J0A a) 0] (J1l (.ok a)):=by
 refine PC [] Tryz.func265 rfl (by rfl) rfl ?_
 rcases a with q | b
 all_goals
  unfold J0A J0u;refine kWS ?_;intros;exact .of rfl
theorem JGY:PureCall Tryz.prog 266 [J0z e,J4N l] (J1l (.ok (.num e.time))):=by
 refine PC [] Tryz.func266 rfl (by rfl) rfl ?_;have h:=J1y e.time;refine kWS ?_;intros;refine J00 [] _ c189 h ?_;refine kWS ?_;intros;exact .of rfl
theorem JGb:PureCall Tryz.prog 267 [J0z e,J4N l] (J1l (.ok (.tr e.init))):=by
 refine PC [] Tryz.func267 rfl (by rfl) rfl ?_;have h:=J1m e.init;refine kWS ?_;intros;refine J00 [] _ c194 h ?_;refine kWS ?_;intros;exact .of rfl
theorem JCJ (h:szq e.time+szq p+szq q+1<2^36) (h0:q≠0):PureCall Tryz.prog 268 [J0z e,J4N [.num p,.num q]] (J1l (.ok (.tr (multF (e.time-p) q)))):=by
 refine PC [] Tryz.func268 rfl (by rfl) rfl ?_;have hs:=JDz e.time p;have h1:=JB2 e.time p (by omega);have h2:=JA4 (e.time-p) q (by omega) h0;have h3:=J1m (multF (e.time-p) q);generalize multF (e.time-p) q=r at *;generalize e.time-p=s at *;unfold encF encQ at h1 h2;refine kWS ?_;intros;refine CallG.intro _ c80 h1 ?_;refine kWS ?_;intros;refine CallG.intro _ c269 h2 ?_;refine kWS ?_;intros;refine CallG.intro _ c194 h3 ?_;refine kWS ?_;intros;exact .of rfl
theorem JIo (h:szq p<2^36):PureCall Tryz.prog 270 [x,J4N [.num p]] (J1l (.ok (.num (-p)))):=by
 refine PC [] Tryz.func270 rfl (by rfl) rfl ?_;have h1:=JG7 p h;have h2:=J1y (-p);generalize -p=r at *;unfold encF encQ at h1 h2;refine kWS ?_;intros;refine J00 [] _ c146 h1 ?_;refine kWS ?_;intros;refine J00 [] _ c189 h2 ?_;refine kWS ?_;intros;exact .of rfl
theorem J42 (k:Nat) (r:Rat) (hk:J03 Tryz.prog k) (h1:PureCall Tryz.prog k [encF p,encF q] (encF r)):PureCall Tryz.prog 328 [x,J4N [.num p,.num q],.ep (.fn (.func k) [] []) 0] (J1l (.ok (.num r))):=by
 refine PC [] Tryz.func328 rfl (by rfl) rfl ?_;have h2:=J1y r;unfold encF encQ at h1 h2;refine kWS ?_;intros;refine CallG.intro _ hk h1 ?_;refine kWS ?_;intros;refine CallG.intro _ c189 h2 ?_;refine kWS ?_;intros;exact .of rfl
def divV (p q:Rat):Except Int Vl:=if q=0 then .error 12 else .ok (.num (p/q))
theorem sgn0 (z:Int):sgn z=0↔z=0:=by
 unfold sgn;split
 ·simp[*]
 ·split<;>omega
theorem JIp (h:szq p+szq q<2^36):PureCall Tryz.prog 272 [x,J4N [.num p,.num q]] (J1l (divV p q)):=by
 refine PC [] Tryz.func272 rfl (by rfl) rfl ?_;have hs:=J4z q.num q.den;generalize hF:divV p q=F;unfold divV at hF
 by_cases h0:q=0
 ·rw[if_pos h0] at hF;have e0:sgn q.num=0:=(sgn0 _).2 (Rat.num_eq_zero.2 h0);rw[e0] at hs;unfold encQ at hs;refine kWS ?_;intros;refine CallP.flat [] _ c111 hs rfl ?_;refine kWS ?_;intros;exact .of (by rw[← hF];rfl)
 ·rw[if_neg h0] at hF;have e0:¬ sgn q.num=0:=mt (sgn0 _).1 (JEf h0);have h1:=JGF p q h h0;have h2:=J1y (p/q);generalize p/q=r at *;unfold encF encQ at *;refine kWS ?_;intros;refine CallP.flat [] _ c111 hs rfl ?_;refine kWS ?_;intros;refine CallG.intro _ c149 h1 ?_;refine kWS ?_;intros;refine CallG.intro _ c189 h2 ?_;refine kWS ?_;intros;exact .of (by rw[← hF];rfl)
theorem JGd (k:Nat) (f:Int→Bool) (hk:J03 Tryz.prog k) (h1:∀ i:Int,PureCall Tryz.prog k [encI i] (encB (f i))) (h:szq p+szq q+1<2^36) :
  PureCall Tryz.prog 329 [x,J4N [.num p,.num q],.ep (.fn (.func k) [] []) 0] (J1l (.ok (.tr (f (sgn (p-q).num))))):=by
 refine PC [] Tryz.func329 rfl (by rfl) rfl ?_;have h0:=JGG p q h;generalize sgn (p-q).num=i at *;have h1:=h1 i;have h2:=J1m (f i);unfold encF encQ at h0;refine kWS ?_;intros;refine CallG.intro _ c330 h0 ?_;refine kWS ?_;intros;refine CallG.intro _ hk h1 ?_;refine kWS ?_;intros;refine CallG.intro _ c194 h2 ?_;refine kWS ?_;intros;exact .of rfl
theorem JGa (i:Int):PureCall Tryz.prog 274 [encI i] (encB (decide (i<0))):=by
 refine PC [] Tryz.func274 rfl (by rfl) rfl ?_;refine kWS ?_;intros;exact .of rfl
theorem JCK (i:Int):PureCall Tryz.prog 275 [encI i] (encB (decide (i≤0))):=by
 refine PC [] Tryz.func275 rfl (by rfl) rfl ?_;refine kWS ?_;intros;exact .of rfl
theorem JGZ (i:Int):PureCall Tryz.prog 276 [encI i] (encB (decide (i>0))):=by
 refine PC [] Tryz.func276 rfl (by rfl) rfl ?_;refine kWS ?_;intros;exact .of rfl
theorem JAK (i:Int):PureCall Tryz.prog 277 [encI i] (encB (decide (i≥0))):=by
 refine PC [] Tryz.func277 rfl (by rfl) rfl ?_;refine kWS ?_;intros;exact .of rfl
theorem JDn (ht:a.type=b.type) (h:a.sz+b.sz+1<2^36):PureCall Tryz.prog 278 [x,J4N [a,b]] (J1l (.ok (.tr (sameV a b)))):=by
 refine PC [] Tryz.func278 rfl (by rfl) rfl ?_;have h1:=JC4 a b ht h;have h2:=J1m (sameV a b);generalize sameV a b=r at *
 rcases a with p | c<;>rcases b with q | d
 all_goals
  unfold J0A J0u encF encQ at h1;refine kWS ?_;intros;refine CallG.intro _ c279 h1 ?_;refine kWS ?_;intros;refine CallG.intro _ c194 h2 ?_;refine kWS ?_;intros;exact .of rfl
theorem JAJ (ht:a.type=b.type) (h:a.sz+b.sz+1<2^36):PureCall Tryz.prog 280 [x,J4N [a,b]] (J1l (.ok (.tr (!sameV a b)))):=by
 refine PC [] Tryz.func280 rfl (by rfl) rfl ?_;have h1:=JC4 a b ht h;have h2:=J1m (!sameV a b);generalize sameV a b=r at *
 rcases a with p | c<;>rcases b with q | d
 all_goals
  unfold J0A J0u encF encQ at h1;refine kWS ?_;intros;refine CallG.intro _ c279 h1 ?_;refine kWS ?_;intros;refine CallG.intro _ c194 h2 ?_;refine kWS ?_;intros;exact .of rfl
theorem JIn:PureCall Tryz.prog 281 [x,J4N [.tr c]] (J1l (.ok (.tr (!c)))):=by
 refine PC [] Tryz.func281 rfl (by rfl) rfl ?_;have h2:=J1m (!c);refine kWS ?_;intros;refine J00 [] _ c194 h2 ?_;refine kWS ?_;intros;exact .of rfl
end
def fnA (k:Nat):AV:=.fn (.func k) [] []
def fnC (k:Nat) (x:AV):AV:=.fn (.func k) [] [.ep x 0]
def wayT:List (ByteArray×AV):=[
 (⟨#[116,114,117,101]⟩,fnC 265 (J0A (.tr true))),(⟨#[102,97,108,115,101]⟩,fnC 265 (J0A (.tr false))),(⟨#[116,105,109,101]⟩,fnA 266),
 (⟨#[105,110,105,116,105,97,108]⟩,fnA 267),(⟨#[115,97,109,112,108,101]⟩,fnA 268),(⟨#[110,101,103]⟩,fnA 270),
 (⟨#[97,100,100]⟩,fnC 328 (fnA 79)),(⟨#[115,117,98]⟩,fnC 328 (fnA 80)),(⟨#[109,117,108]⟩,fnC 328 (fnA 186)),(⟨#[100,105,118]⟩,fnA 272),
 (⟨#[108,101,115,115]⟩,fnC 329 (fnA 274)),(⟨#[97,116,109,111,115,116]⟩,fnC 329 (fnA 275)),(⟨#[109,111,114,101]⟩,fnC 329 (fnA 276)),(⟨#[97,116,108,101,97,115,116]⟩,fnC 329 (fnA 277)),
 (⟨#[101,113,117,97,108]⟩,fnA 278),(⟨#[117,110,101,113,117,97,108]⟩,fnA 280),(⟨#[110,111,116]⟩,fnA 281)]
def wayM:AV:=.mp (wayT.map fun x=>encS x.1) (wayT.map fun x=>x.2)
theorem JAS {S:List Nat} {H:Hp} {n b g k e m:Nat} {f:Fn} {y:AV} (hS:b∈S) (hb:H b=some (g,⟨e,m,[y]⟩)):J04 S H (n+2) (.fn f [] [.op b g 0 k])=.fn f [] [.ep (J0V (J04 S H n) y) k]:=by
 simp only[J04,List.map_nil,List.map_cons,if_pos hS,hb,true_and];rfl
theorem JGV (v:Vl):PureCall Tryz.prog 264 [J0A v] (fnC 265 (J0A v)):=by
 refine PC [1] Tryz.func264 rfl (by rfl) rfl ?_
 rcases v with q | b
 all_goals
  unfold J0A J0u
  try unfold encF encQ
  refine kWS ?_;intros;refine .of ?_;show J04 [1] _ 3 (.fn _ [] [.op 1 _ 0 0])=_
  rw[JAS (b:=1) (by simp) rfl];rfl
theorem JEe (k:Nat):PureCall Tryz.prog 271 [fnA k] (fnC 328 (fnA k)):=by
 refine PC [1] Tryz.func271 rfl (by rfl) rfl ?_;unfold fnA;refine kWS ?_;intros;refine .of ?_;show J04 [1] _ 3 (.fn _ [] [.op 1 _ 0 0])=_
 rw[JAS (b:=1) (by simp) rfl];rfl
theorem JAv (k:Nat):PureCall Tryz.prog 273 [fnA k] (fnC 329 (fnA k)):=by
 refine PC [1] Tryz.func273 rfl (by rfl) rfl ?_;unfold fnA;refine kWS ?_;intros;refine .of ?_;show J04 [1] _ 3 (.fn _ [] [.op 1 _ 0 0])=_
 rw[JAS (b:=1) (by simp) rfl];rfl
theorem JIk:PureCall Tryz.prog 187 [] wayM:=by
 refine PC [2] Tryz.func187 rfl (by rfl) rfl ?_;refine kWS ?_;intros
 repeat ((first
  | refine J00 [] _ c194 (J1m _) ?_
  | refine J00 [] _ c264 (JGV (.tr _)) ?_
  | refine J00 [] _ c271 (JEe _) ?_
  | refine J00 [] _ c273 (JAv _) ?_
  | refine Need.intro keyst9 ?_
  | refine LookP.intro none (by rfl) ?_);refine kW ?_;refine kS ?_;intros)
 exact .of rfl
def J0p {β:Type} (l:List (U×β)) (u:U):Option β:=match l with
 | []=>none
 | x::r=>if u=x.1 then some x.2 else J0p r u
theorem JBe {β:Type} (f:β→AV) (u:U):∀ l:List (U×β),∃ r,J0i (J0e T 54 (encU u)) (l.map fun x=>encU x.1)=some r∧match r,J0p l u with
  | none,none=>True
  | some i,some b=>(l.map fun x=>f x.2).getD i .dead=f b
  | _,_=>False
 | []=>⟨none,rfl,trivial⟩
 | x :: l=>by
   obtain ⟨r,h1,h2⟩:=JBe f u l;rw[List.map_cons];unfold J0i J0p;rw[J5r]
   by_cases h:u=x.1
   ·rw[decide_eq_true h,if_pos h];exact ⟨some 0,rfl,rfl⟩
   ·rw[decide_eq_false h,if_neg h,h1];refine ⟨r.map (· + 1),rfl,?_⟩
    revert h2
    cases r<;>cases J0p l u<;>intro h2<;>first | trivial | exact h2
def JCM (ks:List (ByteArray×Va)) (n:ByteArray):Int:=match J1H ks n with
 | some v=>v.type
 | none=>0
def J2B (ks:List (ByteArray×Va)) (ev:Ev) (u:U):Except Int Vl:=match J0p ev.vals u with
 | none=>.error 5
 | some v=>if v.type≠JCM ks u.name then .error 7 else .ok v
theorem JFz (v:Vl):PureCall Tryz.prog 282 [J0A v] (encI v.type):=by
 cases v with
 | num q=>exact J4y (encF q) false false (.inr ⟨_,_,rfl⟩)
 | tr b=>exact J4y nilQ b true (.inl rfl)
theorem JI4 (ks:List (ByteArray×Va)) (ev:Ev) (u:U):PureCall Tryz.prog 190 [encK ks,J0z ev,encU u] (J1l (J2B ks ev u)):=by
 refine PC [] Tryz.func190 rfl (by rfl) rfl ?_;generalize hF:J2B ks ev u=F;unfold J2B at hF;obtain ⟨r,hr,hm⟩:=JBe J0A u ev.vals;refine kWS ?_;intros;refine Need.intro keyst54 ?_;refine kW ?_;refine LookP.intro r hr ?_
 cases ha:J0p ev.vals u with
 | none=>
   rw[ha] at hm hF
   cases r with
   | some i=>exact hm.elim
   | none=>
     refine kWS ?_;intros;exact .of (by rw[← hF];rfl)
 | some v=>
   rw[ha] at hm hF
   cases r with
   | none=>exact hm.elim
   | some i=>
     have hm:(ev.vals.map fun x=>J0A x.2).getD i .dead=J0A v:=hm;have hT:=JFz v;obtain ⟨r2,hr2,hm2⟩:=J1f encV u.name ks;replace hF:(if v.type≠JCM ks u.name then (.error 7:Except Int Vl) else .ok v)=F:=hF;unfold JCM at hF
     rcases v with q | b
     all_goals
      unfold J0A J0u at hT
      try unfold encF encQ at hT
      refine kW ?_;rw[hm];refine kWS ?_;intros;refine CallG.intro _ c282 hT ?_;refine kWS ?_;intros;refine Need.intro keyst9 ?_;refine kW ?_;refine LookP.intro r2 hr2 ?_
      cases ha2:J1H ks u.name with
      | none=>
        rw[ha2] at hm2 hF
        cases r2 with
        | some i=>exact hm2.elim
        | none=>
          refine kWS ?_;intros;exact .of (by rw[← hF];rfl)
      | some w=>
        rw[ha2] at hm2 hF
        cases r2 with
        | none=>exact hm2.elim
        | some i=>
          have hm2:(ks.map fun x=>encV x.2).getD i .dead=encV w:=hm2;refine kW ?_;rw[hm2];refine kWS ?_;intros;refine CondP.dec (fun c0=>?_) (fun c0=>?_)<;>refine kW ?_
          ·rw[if_neg (fun h=>h c0)] at hF;refine kS ?_;intros;exact .of (by rw[← hF];rfl)
          ·rw[if_pos c0] at hF;refine kS ?_;intros;exact .of (by rw[← hF];rfl)
def J2C (o:ByteArray) (t:Bool):Option Nat:=if o=oIf then (if t then some 1 else some 2) else if decide (o=oAnd)=t then some 1 else none
def nilE:AV:=.agg [encS ⟨#[]⟩,encS ⟨#[]⟩,encI 0,.val (.slice none 0 0)]
theorem JJy (x:Ex) (t:Bool) (hk:∀ i,J2C x.op t=some i→i<x.kids.length):PureCall Tryz.prog 147 [encE x,encB t] (match J2C x.op t with
  | some i=>.tup [(x.kids.map encE).getD i .dead,encB true]
  | none=>.tup [nilE,encB false]):=by
 refine PC [] Tryz.func147 rfl (by rfl) rfl ?_;rw[J02];generalize x.op=o at *;generalize x.kids=es at *;unfold J2C at *
 have key:∀ i,i<es.length→∃ k:Ex,(es.map encE).getD i .dead=.agg [encS k.op,encS k.text,encI k.order,.sl 4 (k.kids.map encE)]:=by
  intro i hi;have h:(es.map encE).getD i .dead=encE es[i]:=by rw[List.getD_eq_getElem?_getD,List.getElem?_map,List.getElem?_eq_getElem hi];rfl
  exact ⟨_,h.trans (J02 _)⟩
 refine kWS ?_;intros;refine CondP.dec (fun h1=>?_) (fun h1=>?_)<;>refine kW ?_
 ·rw[if_pos h1] at hk ⊢;cases t
  ·rw[if_neg (by decide)] at hk ⊢;have hk:=hk 2 rfl;obtain ⟨k,hg⟩:=key 2 hk;refine kS ?_;intros;rw[show (es.map encE).getD (Int.toNat 2) .dead=.agg [encS k.op,encS k.text,encI k.order,.sl 4 (k.kids.map encE)] from hg];refine kWS ?_;intros;exact .of (congrArg (fun z=>AV.tup [z,encB true]) hg.symm)
  ·rw[if_pos rfl] at hk ⊢;have hk:=hk 1 rfl;obtain ⟨k,hg⟩:=key 1 hk;refine kS ?_;intros;rw[show (es.map encE).getD (Int.toNat 1) .dead=.agg [encS k.op,encS k.text,encI k.order,.sl 4 (k.kids.map encE)] from hg];refine kWS ?_;intros;exact .of (congrArg (fun z=>AV.tup [z,encB true]) hg.symm)
 ·rw[if_neg h1] at hk ⊢;refine kS ?_;intros
  by_cases h2:o=oAnd
  ·rw[decide_eq_true h2] at hk ⊢;cases t
   ·rw[if_neg (by decide)] at hk ⊢;refine JC8 rfl ?_;refine kWS ?_;intros;exact .of rfl
   ·rw[if_pos rfl] at hk ⊢;have hk:=hk 1 rfl;obtain ⟨k,hg⟩:=key 1 hk;refine JC7 rfl ?_;refine kWS ?_;intros;rw[show (es.map encE).getD (Int.toNat 1) .dead=.agg [encS k.op,encS k.text,encI k.order,.sl 4 (k.kids.map encE)] from hg];refine kWS ?_;intros;exact .of (congrArg (fun z=>AV.tup [z,encB true]) hg.symm)
  ·rw[decide_eq_false h2] at hk ⊢;cases t
   ·rw[if_pos rfl] at hk ⊢;have hk:=hk 1 rfl;obtain ⟨k,hg⟩:=key 1 hk;refine JC7 rfl ?_;refine kWS ?_;intros;rw[show (es.map encE).getD (Int.toNat 1) .dead=.agg [encS k.op,encS k.text,encI k.order,.sl 4 (k.kids.map encE)] from hg];refine kWS ?_;intros;exact .of (congrArg (fun z=>AV.tup [z,encB true]) hg.symm)
   ·rw[if_neg (by decide)] at hk ⊢;refine JC8 rfl ?_;refine kWS ?_;intros;exact .of rfl
def Vl.truth:Vl→Bool
 | .tr b=>b
 | .num _=>false
def numV (t:ByteArray):Rat:=match (J0B t.data.toList).1 with
 | some (n,d)=>Rat.divInt n d
 | none=>0
def wayF (ev:Ev) (o:ByteArray) (vs:List Vl):Except Int Vl:=
 if o=oTrue then .ok (.tr true) else if o=oFalse then .ok (.tr false) else if o=oTime then .ok (.num ev.time) else if o=oInit then .ok (.tr ev.init) else match vs with
 | [.num p]=>.ok (.num (-p))
 | [.tr c]=>.ok (.tr (!c))
 | [.num p,.num q]=>
   if o=oSample then .ok (.tr (multF (ev.time-p) q)) else if o=oAdd then .ok (.num (p+q)) else if o=oSub then .ok (.num (p-q)) else if o=oMul then .ok (.num (p*q)) else if o=oDiv then divV p q
   else if o=oLess then .ok (.tr (decide (p<q))) else if o=oAtMost then .ok (.tr (decide (p≤q))) else if o=oMore then .ok (.tr (decide (q<p))) else if o=oAtLeast then .ok (.tr (decide (q≤p)))
   else if o=oEq then .ok (.tr (sameV (.num p) (.num q))) else .ok (.tr (!sameV (.num p) (.num q)))
 | [.tr a,.tr b]=>if o=oEq then .ok (.tr (sameV (.tr a) (.tr b))) else .ok (.tr (!sameV (.tr a) (.tr b)))
 | _=>.error 0
def JGW (o:ByteArray) (vs:List Vl):Prop:=
 (o=oTrue∨o=oFalse∨o=oTime∨o=oInit)∨(o=oSample∧∃ p q,vs=[.num p,.num q]∧q≠0)∨(o=oNeg∧∃ p,vs=[.num p])∨(o=oNot∧∃ c,vs=[.tr c]) ∨
   ((o=oAdd∨o=oSub∨o=oMul∨o=oDiv∨o=oLess∨o=oAtMost∨o=oMore∨o=oAtLeast)∧∃ p q,vs=[.num p,.num q])∨((o=oEq∨o=oNe)∧∃ a b:Vl,vs=[a,b]∧a.type=b.type)
def szs:List Vl→Nat
 | []=>0
 | v::l=>v.sz+szs l
theorem JIJ (p q:Rat):(p-q).num<0↔p<q:=by
 have h1:(p-q).num<0↔¬ 0≤(p-q).num:=by omega
 rw[h1,Rat.num_nonneg,← Rat.le_iff_sub_nonneg,Rat.not_le]
theorem JIT (p q:Rat):decide (sgn (p-q).num<0)=decide (p<q):=decide_eq_decide.2 ((J7o _).trans (JIJ p q))
theorem JIU (p q:Rat):decide (sgn (p-q).num≤0)=decide (p≤q):=by
 refine decide_eq_decide.2 ?_;have h1:=JIJ p q;have h2:=J7o (p-q).num;have h3:=JBL p q;rw[Rat.le_iff_lt_or_eq,← h1,← h2,← h3];omega
theorem JKp (p q:Rat):decide (sgn (p-q).num>0)=decide (q<p):=by
 refine decide_eq_decide.2 ?_;have:=decide_eq_decide.1 (JIU p q);rw[← Rat.not_le,← this];omega
theorem JKq (p q:Rat):decide (sgn (p-q).num≥0)=decide (q≤p):=by
 refine decide_eq_decide.2 ?_;have:=decide_eq_decide.1 (JIT p q);rw[← Rat.not_lt,← this];omega
def Way (ev:Ev) (o:ByteArray) (vs:List Vl):Prop:=∃ k cap,J1H wayT o=some (.fn (.func k) [] cap)∧(cap=[]∨∃ x,cap=[.ep x 0])∧J03 Tryz.prog k∧PureCall Tryz.prog k ([J0z ev,J4N vs]++cap) (J1l (wayF ev o vs))
theorem JKE (ev:Ev) (o:ByteArray) (vs:List Vl) (h:JGW o vs) (hz:szq ev.time+szs vs+1<2^36):Way ev o vs:=by
 rcases h with h | ⟨rfl,p,q,rfl,h0⟩ | ⟨rfl,p,rfl⟩ | ⟨rfl,c,rfl⟩ | ⟨h,p,q,rfl⟩ | ⟨h,a,b,rfl,hab⟩
 ·rcases h with rfl | rfl | rfl | rfl
  ·exact ⟨_,_,(by kernel_rfl),(by first | exact .inl rfl | exact .inr ⟨_,rfl⟩),c265,J8f (J0z ev) vs (.tr true)⟩
  ·exact ⟨_,_,(by kernel_rfl),(by first | exact .inl rfl | exact .inr ⟨_,rfl⟩),c265,J8f (J0z ev) vs (.tr false)⟩
  ·exact ⟨_,_,(by kernel_rfl),(by first | exact .inl rfl | exact .inr ⟨_,rfl⟩),c266,JGY vs ev⟩
  ·exact ⟨_,_,(by kernel_rfl),(by first | exact .inl rfl | exact .inr ⟨_,rfl⟩),c267,JGb vs ev⟩
 ·simp only[szs,Vl.sz] at hz;exact ⟨_,_,(by kernel_rfl),(by first | exact .inl rfl | exact .inr ⟨_,rfl⟩),c268,JCJ p q ev (by omega) h0⟩
 ·simp only[szs,Vl.sz] at hz;exact ⟨_,_,(by kernel_rfl),(by first | exact .inl rfl | exact .inr ⟨_,rfl⟩),c270,JIo (J0z ev) p (by omega)⟩
 ·exact ⟨_,_,(by kernel_rfl),(by first | exact .inl rfl | exact .inr ⟨_,rfl⟩),c281,JIn (J0z ev) c⟩
 ·simp only[szs,Vl.sz] at hz;have hc:=fun k f hk h1=>JGd (J0z ev) p q k f hk h1 (by omega)
  rcases h with rfl | rfl | rfl | rfl | rfl | rfl | rfl | rfl
  ·exact ⟨_,_,(by kernel_rfl),(by first | exact .inl rfl | exact .inr ⟨_,rfl⟩),c328,J42 (J0z ev) p q _ _ c79 (JGJ p q (by omega))⟩
  ·exact ⟨_,_,(by kernel_rfl),(by first | exact .inl rfl | exact .inr ⟨_,rfl⟩),c328,J42 (J0z ev) p q _ _ c80 (JB2 p q (by omega))⟩
  ·exact ⟨_,_,(by kernel_rfl),(by first | exact .inl rfl | exact .inr ⟨_,rfl⟩),c328,J42 (J0z ev) p q _ _ c186 (JJz p q (by omega))⟩
  ·exact ⟨_,_,(by kernel_rfl),(by first | exact .inl rfl | exact .inr ⟨_,rfl⟩),c272,JIp (J0z ev) p q (by omega)⟩
  ·have:=hc _ _ c274 JGa;rw[JIT] at this;exact ⟨_,_,(by kernel_rfl),(by first | exact .inl rfl | exact .inr ⟨_,rfl⟩),c329,this⟩
  ·have:=hc _ _ c275 JCK;rw[JIU] at this;exact ⟨_,_,(by kernel_rfl),(by first | exact .inl rfl | exact .inr ⟨_,rfl⟩),c329,this⟩
  ·have:=hc _ _ c276 JGZ;rw[JKp] at this;exact ⟨_,_,(by kernel_rfl),(by first | exact .inl rfl | exact .inr ⟨_,rfl⟩),c329,this⟩
  ·have:=hc _ _ c277 JAK;rw[JKq] at this;exact ⟨_,_,(by kernel_rfl),(by first | exact .inl rfl | exact .inr ⟨_,rfl⟩),c329,this⟩
 ·simp only[szs] at hz
  rcases h with rfl | rfl
  ·have:=JDn (J0z ev) a b hab (by omega);refine ⟨_,[],(by kernel_rfl),.inl rfl,c278,?_⟩
   rcases a with p | c<;>rcases b with q | d<;>first | exact this | cases hab
  ·have:=JAJ (J0z ev) a b hab (by omega);refine ⟨_,[],(by kernel_rfl),.inl rfl,c280,?_⟩
   rcases a with p | c<;>rcases b with q | d<;>first | exact this | cases hab
def seqR:List (Except Int Vl)→Except Int (List Vl)
 | []=>.ok []
 | .error c::_=>.error c
 | .ok v::r=>match seqR r with
   | .ok l=>.ok (v::l)
   | .error c=>.error c
def J4h (ks:List (ByteArray×Va)) (ev:Ev) (o t:ByteArray) (n:Int) (rs:List (Except Int Vl)):Except Int Vl:=
 if o=oNum then .ok (.num (numV t))
 else if o=oVar∨o=oPre then J2B ks ev ⟨t,n,decide (o=oPre)⟩
 else if o=oIf∨o=oAnd∨o=oOr then match rs.getD 0 (.error 0) with
  | .error c=>.error c
  | .ok v=>match J2C o v.truth with
    | some i=>rs.getD i (.error 0)
    | none=>.ok v
 else match seqR rs with
  | .error c=>.error c
  | .ok vs=>wayF ev o vs
mutual
def evalF (ks:List (ByteArray×Va)) (ev:Ev):Ex→Except Int Vl
 | .mk o t n es=>J4h ks ev o t n (JJY ks ev es)
def JJY (ks:List (ByteArray×Va)) (ev:Ev):List Ex→List (Except Int Vl)
 | []=>[]
 | e::es=>evalF ks ev e::JJY ks ev es
end
theorem J9H (ks:List (ByteArray×Va)) (ev:Ev):∀ es:List Ex,JJY ks ev es=es.map (evalF ks ev)
 | []=>rfl
 | e::es=>by rw[List.map_cons,← J9H ks ev es];rfl
theorem J1h (ks:List (ByteArray×Va)) (ev:Ev) (e:Ex):evalF ks ev e=J4h ks ev e.op e.text e.order (e.kids.map (evalF ks ev)):=by
 cases e with
 | mk o t n es=>rw[← J9H];rfl
mutual
def wtF:Ex→Nat
 | .mk _ _ _ es=>wtL es+1
def wtL:List Ex→Nat
 | []=>0
 | e::es=>wtF e+wtL es
end
theorem J52 (e:Ex):wtF e=wtL e.kids+1:=by cases e;rfl
theorem J7g:∀ {es:List Ex} {k:Ex},k∈es→wtF k≤wtL es
 | e::es,k,h=>by
   unfold wtL
   rcases List.mem_cons.1 h with rfl | h
   ·omega
   ·have:=J7g h;omega
theorem JIA {e k:Ex} (h:k∈e.kids):wtF k<wtF e:=by rw[J52 e];have:=J7g h;omega
theorem JBi {f:Ex→Int→Int} (hf:∀ k l,f k l<0∨f k l≤l-wtF k):∀ (ks:List Ex) (l:Int),J2E f ks l<0∨J2E f ks l≤l-wtL ks
 | [],l=>by right;unfold J2E wtL;omega
 | k :: ks,l=>by
   unfold J2E wtL;split
   ·left;omega
   ·have:=hf k l;have:=JBi hf ks (f k l);omega
theorem JBc:∀ (d:Nat) (e:Ex) (l:Int),measF d e l<0∨measF d e l≤l-wtF e
 | 0,e,l=>by left;unfold measF;omega
 | d + 1,e,l=>by
   rw[J52];unfold measF;split
   ·left;omega
   ·have:=JBi (JBc d) e.kids (l-1);omega
theorem JK8 (z:Int):zl z≤nd z:=by
 unfold zl nd;refine J15 hB9 ?_;have h1:z.natAbs<10 ^ (decT z.natAbs).length:=Go.Fw.decT_lt z.natAbs;exact Nat.lt_of_lt_of_le h1 (Nat.pow_le_pow_left (by decide) _)
theorem JH0 {l:List UInt8} (h:(J0B l).2=true):∃ n d:Int,(J0B l).1=some (n,d)∧0<d∧n.natAbs.gcd d.natAbs=1∧nd n≤300∧nd d≤300:=by
 unfold J0B at *;split at h
 ·cases h
 ·rename_i n hn;split at h
  ·exact ⟨n,1,rfl,by decide,by simp,of_decide_eq_true h,JKm⟩
  ·split at h
   ·cases h
   ·rename_i d hd;split at h
    ·cases h
    ·rename_i h1;simp only[Bool.and_eq_true,decide_eq_true_eq] at h;refine ⟨n,d,by simp only[if_neg h1],by omega,h.2,h.1.1,h.1.2⟩
theorem J4G {t:ByteArray} (h:(J0B t.data.toList).2=true):encF (numV t)=qAV (J0B t.data.toList).1∧szq (numV t)≤300:=by
 obtain ⟨n,d,h1,h2,h3,h4,h5⟩:=JH0 h;unfold numV;rw[h1];refine ⟨?_,?_⟩
 ·show encF (Rat.divInt n d)=encQ n d
  rw[J3c n d h2,h3];simp
 ·show szq (Rat.divInt n d)≤300
  have:=J2k n d (by omega);have:=JK8 n;have:=JK8 d;omega
def EvOk (ev:Ev):Prop:=szq ev.time≤300∧∀ x∈ev.vals,x.2.sz≤300
theorem J7Y {β:Type} {u:U} {b:β}:∀ {l:List (U×β)},J0p l u=some b→∃ x∈l,x.2=b
 | [],h=>by cases h
 | x :: l,h=>by
   unfold J0p at h;split at h
   ·cases h;exact ⟨x,by simp,rfl⟩
   ·obtain ⟨y,hy,e⟩:=J7Y h;exact ⟨y,by simp[hy],e⟩
theorem JHt {ks:List (ByteArray×Va)} {ev:Ev} (he:EvOk ev) {u:U} {v:Vl} (h:J2B ks ev u=.ok v):v.sz≤300:=by
 unfold J2B at h;split at h
 ·cases h
 ·rename_i w hw;split at h
  ·cases h
  ·cases h;obtain ⟨x,hx,rfl⟩:=J7Y hw;exact he.2 x hx
theorem JHs {ks:List (ByteArray×Va)} {ev:Ev} {u:U} {v:Vl} (h:J2B ks ev u=.ok v):v.type=JCM ks u.name:=by
 unfold J2B at h;split at h
 ·cases h
 ·split at h
  ·cases h
  ·rename_i h';cases h;exact Classical.not_not.1 h'
theorem J7p:∀ {rs:List (Except Int Vl)} {vs:List Vl},seqR rs=.ok vs→rs=vs.map .ok
 | [],vs,h=>by cases h;rfl
 | .error c::r,vs,h=>by cases h
 | .ok v::r,vs,h=>by
   unfold seqR at h;split at h
   ·rename_i l hl;cases h;rw[J7p hl];rfl
   ·cases h
theorem J1W {c:Prop} [Decidable c] {a b:Except Int Vl} {M:Nat} (ha:∀ v,a=.ok v→v.sz≤M) (hb:∀ v,b=.ok v→v.sz≤M):∀ v,(if c then a else b)=.ok v→v.sz≤M:=by
 intro v h;split at h
 ·exact ha v h
 ·exact hb v h
theorem J44 {b:Bool} {M:Nat}:∀ v,(Except.ok (Vl.tr b):Except Int Vl)=.ok v→v.sz≤M:=fun v h=>by cases h;exact Nat.zero_le _
theorem J77 {q:Rat} {M:Nat} (hq:szq q≤M):∀ v,(Except.ok (Vl.num q):Except Int Vl)=.ok v→v.sz≤M:=fun v h=>by cases h;exact hq
theorem J9L {c:Int} {M:Nat}:∀ v,(Except.error c:Except Int Vl)=.ok v→v.sz≤M:=fun v h=>by cases h
theorem JIm {ev:Ev} {o:ByteArray} {vs:List Vl} (ht:szq ev.time≤300):∀ v,wayF ev o vs=.ok v→v.sz≤max 300 (szs vs+1):=by
 unfold wayF;refine J1W J44 (J1W J44 (J1W (J77 (by omega)) (J1W J44 ?_)))
 rcases vs with _ | ⟨a,_ | ⟨b,_ | ⟨c,l⟩⟩⟩
 ·exact J9L
 ·rcases a with p | x
  ·exact J77 (by rw[JAP];show szq p≤max 300 (szq p+0+1);omega)
  ·exact J44
 ·rcases a with p | x<;>rcases b with q | y
  ·refine J1W J44 (J1W (J77 ?_) (J1W (J77 ?_) (J1W (J77 ?_) (J1W ?_ (J1W J44 (J1W J44 (J1W J44 (J1W J44 (J1W J44 J44)))))))))
   ·have:=JE0 p q;show _≤max 300 (szq p+(szq q+0)+1);omega
   ·have:=JDz p q;show _≤max 300 (szq p+(szq q+0)+1);omega
   ·have:=JIz p q;show _≤max 300 (szq p+(szq q+0)+1);omega
   ·unfold divV;split
    ·exact J9L
    ·rename_i h0;refine J77 ?_;have:=JJ0 p q h0;show _≤max 300 (szq p+(szq q+0)+1);omega
  ·exact J9L
  ·exact J9L
  ·exact J1W J44 J44
 ·rcases a with p | x<;>rcases b with q | y<;>exact J9L
theorem JDy {ks:List (ByteArray×Va)} {ev:Ev}:∀ {es:List Ex} {vs:List Vl},(∀ k∈es,∀ v,evalF ks ev k=.ok v→v.sz≤301*wtF k)→es.map (evalF ks ev)=vs.map .ok→szs vs≤301*wtL es
 | [],[],_,_=>Nat.zero_le _
 | [],v::vs,_,h=>by cases h
 | e::es,[],_,h=>by cases h
 | e::es,v::vs,hk,h=>by
   rw[List.map_cons,List.map_cons] at h
   injection h with h1 h2
   have a:=hk e (by simp) v h1;have b:=JDy (fun k h=>hk k (by simp[h])) h2;unfold szs wtL;omega
theorem J5w {ks:List (ByteArray×Va)} {ev:Ev} {es:List Ex} {i:Nat} {v:Vl} (h:(es.map (evalF ks ev)).getD i (.error 0)=.ok v):∃ k∈es,evalF ks ev k=.ok v:=by
 rw[List.getD_eq_getElem?_getD,List.getElem?_map] at h
 cases hi:es[i]? with
 | none=>rw[hi] at h;cases h
 | some k=>
   rw[hi] at h;exact ⟨k,List.mem_of_getElem? hi,h⟩
theorem JBq {ks:List (ByteArray×Va)} {ev:Ev} (he:EvOk ev) (e:Ex):builtF e=true→∀ v,evalF ks ev e=.ok v→v.sz≤301*wtF e:=by
 induction e using J2X with
 | h e ih=>
   intro hb v h;have ihk:∀ k∈e.kids,∀ v,evalF ks ev k=.ok v→v.sz≤301*wtF k:=fun k hk=>ih k hk ((J0C hb).2 k hk);rw[J1h] at h;unfold J4h at h;rw[J52];split at h
   ·rename_i h1;cases h;have hx:textF e=true:=by rw[J1G] at hb;simp only[Bool.and_eq_true] at hb;exact hb.1.1.2
    unfold textF at hx;rw[if_pos h1] at hx;simp only[Bool.and_eq_true] at hx;have:=(J4G hx.1).2;show szq _≤_
    omega
   ·split at h
    ·have:=JHt he h;omega
    ·split at h
     ·split at h
      ·cases h
      ·rename_i w hw;split at h
       ·obtain ⟨k,hk,h⟩:=J5w h;have:=ihk k hk v h;have:=J7g hk;omega
       ·cases h;obtain ⟨k,hk,h⟩:=J5w hw;have:=ihk k hk _ h;have:=J7g hk;omega
     ·split at h
      ·cases h
      ·rename_i vs hvs;have:=JDy ihk (J7p hvs);have:=JIm he.1 v h;omega
theorem JIX {l:List (Int×Bool)} {t:Bool} (h:l.any (fun r=>!r.2||(decide (r.1=1) != t))=false):∀ r∈l,r.2=true∧decide (r.1=1)=t:=by
 intro r hr;have:=(List.any_eq_false.1 h) r hr;simp only[Bool.or_eq_true,Bool.not_eq_true',bne_iff_ne,not_or,Bool.not_eq_false,ne_eq,Classical.not_not] at this;exact this
end Go.Proofs.YtlblbldolhiokaaGreatDoor
