/- Part 50 of the proof. -/
import Derived.Test.YtlblbldolhiokaaGreatDoorDual49
set_option linter.unusedVariables false
set_option linter.unusedSimpArgs false
set_option linter.unusedSectionVars false
set_option maxRecDepth 100000
set_option exponentiation.threshold 400
set_option maxHeartbeats 8000000
namespace Go.Proofs.YtlblbldolhiokaaGreatDoor
open Go Go.Fw
def shp:List (ByteArray×Int×Bool×Bool):=[
 (⟨#[110,117,109]⟩,0,false,false),(⟨#[116,105,109,101]⟩,0,false,false),(⟨#[110,101,103]⟩,1,false,false),
 (⟨#[116,114,117,101]⟩,0,false,true),(⟨#[102,97,108,115,101]⟩,0,false,true),(⟨#[105,110,105,116,105,97,108]⟩,0,false,true),
 (⟨#[97,100,100]⟩,2,false,false),(⟨#[115,117,98]⟩,2,false,false),(⟨#[109,117,108]⟩,2,false,false),(⟨#[100,105,118]⟩,2,false,false),
 (⟨#[108,101,115,115]⟩,2,false,true),(⟨#[97,116,109,111,115,116]⟩,2,false,true),(⟨#[109,111,114,101]⟩,2,false,true),(⟨#[97,116,108,101,97,115,116]⟩,2,false,true),
 (⟨#[97,110,100]⟩,2,true,true),(⟨#[111,114]⟩,2,true,true),(⟨#[110,111,116]⟩,1,true,true),(⟨#[115,97,109,112,108,101]⟩,2,false,true)]
def J6P (x:Int×Bool×Bool):AV:=.agg [encI x.1,encB x.2.1,encB x.2.2]
def shpM:AV:=.mp (shp.map fun x=>encS x.1) (shp.map fun x=>J6P x.2)
theorem shapes_ok:PX 205 [] shpM:=by
 exact J2S J9i (fuel:=60) (n:=5) (by kernel_rfl)
def J0f {β:Type}(l:List (ByteArray×β))(s:ByteArray):Option β:=match l with
 |[]=>none
 |x::r=>if s=x.1 then some x.2 else J0f r s
theorem J7G (s y:ByteArray):(s==y)=decide (s=y):=by
 rw[Bool.eq_iff_iff]
 cases s with|mk a=>cases y with|mk b=>
 show (a==b)=true↔_
 simp
theorem J5Y (s y:ByteArray):J0h T 9 (encS s) (encS y)=some (decide (s=y)):=by
 show some (s==y)=_
 rw[J7G]
theorem J1J {β:Type}(f:β→AV)(s:ByteArray):∀ l:List (ByteArray×β),∃ r,J10 (J0h T 9 (encS s)) (l.map fun x=>encS x.1)=some r∧match r,J0f l s with
  |none,none=>True
  |some i,some b=>(l.map fun x=>f x.2).getD i .dead=f b
  |_,_=>False
 |[]=>⟨none,rfl,trivial⟩
 |x :: l=>by
   obtain ⟨r,h1,h2⟩:=J1J f s l;rw[List.map_cons];unfold J10 J0f;rw[J5Y]
   by_cases h:s=x.1
   ·rw[decide_eq_true h,if_pos h];exact ⟨some 0,rfl,rfl⟩
   ·rw[decide_eq_false h,if_neg h,h1];refine ⟨r.map (· + 1),rfl,?_⟩
    revert h2
    cases r<;>cases J0f l s<;>intro h2<;>first|trivial|exact h2
abbrev oVar:ByteArray:=⟨#[118,97,114]⟩
abbrev oPre:ByteArray:=⟨#[112,114,101]⟩
abbrev oEq:ByteArray:=⟨#[101,113,117,97,108]⟩
abbrev oNe:ByteArray:=⟨#[117,110,101,113,117,97,108]⟩
abbrev oIf:ByteArray:=⟨#[105,102]⟩
abbrev oNum:ByteArray:=⟨#[110,117,109]⟩
abbrev oSample:ByteArray:=⟨#[115,97,109,112,108,101]⟩
def J1H (o:ByteArray):Int:=if o=oVar∨o=oPre then 0 else if o=oEq∨o=oNe then 2 else if o=oIf then 3 else match J0f shp o with
 |none=>-1
 |some x=>x.1
theorem JJ5 (o:ByteArray):PX 199 [encS o] (encI (J1H o)):=by
 refine PZ Tryz.func199 rfl ?_;generalize hF:J1H o=F;unfold J1H at hF;refine kWS ?_;intros;refine CondP.dec (fun h1=>?_) (fun h1=>?_)<;>refine kW ?_
 ·rw[if_pos (.inl h1)] at hF;refine kS ?_;intros;exact .of (by rw[← hF];rfl)
 refine kS ?_;intros;refine CondP.dec (fun h2=>?_) (fun h2=>?_)<;>refine kW ?_
 ·rw[if_pos (.inr h2)] at hF;refine kS ?_;intros;exact .of (by rw[← hF];rfl)
 rw[if_neg (by rintro (h|h);exact h1 h;exact h2 h)] at hF;refine kS ?_;intros;refine CondP.dec (fun h3=>?_) (fun h3=>?_)<;>refine kW ?_
 ·rw[if_pos (.inl h3)] at hF;refine kS ?_;intros;exact .of (by rw[← hF];rfl)
 refine kS ?_;intros;refine CondP.dec (fun h4=>?_) (fun h4=>?_)<;>refine kW ?_
 ·rw[if_pos (.inr h4)] at hF;refine kS ?_;intros;exact .of (by rw[← hF];rfl)
 rw[if_neg (by rintro (h|h);exact h3 h;exact h4 h)] at hF;refine kS ?_;intros;refine CondP.dec (fun h5=>?_) (fun h5=>?_)<;>refine kW ?_
 ·rw[if_pos h5] at hF;refine kS ?_;intros;exact .of (by rw[← hF];rfl)
 rw[if_neg h5] at hF;refine kS ?_;intros;refine J00 [] _ c205 shapes_ok ?_;refine kWS ?_;intros;obtain ⟨r,hr,hm⟩:=J1J J6P o shp;refine Need.intro keyst9 ?_;refine kW ?_;refine LookP.intro r hr ?_
 cases ha:J0f shp o with
 |none=>
   rw[ha] at hm hF
   cases r with
   |some i=>exact hm.elim
   |none=>
     refine kWS ?_;intros;exact .of (by rw[← hF];rfl)
 |some x=>
   rw[ha] at hm hF
   cases r with
   |none=>exact hm.elim
   |some i=>
     refine kW ?_;rw[show (List.map (fun x=>J6P x.snd) shp).getD i AV.dead=J6P x from hm];refine kWS ?_;intros;exact .of (by rw[← hF];rfl)
theorem JCm (p:Option (Int×Int)×Bool):(∃ a,a=nilQ∧resQ p=.tup [a,encB p.2])∨∃ a,(∃ n d,a=encQ n d)∧resQ p=.tup [a,encB p.2]:=by
 unfold resQ
 cases p.1 with
 |none=>exact .inl ⟨_,rfl,rfl⟩
 |some q=>exact .inr ⟨_,⟨_,_,rfl⟩,rfl⟩
def textF (e:Ex):Bool:=
 if e.op=oNum then (J08 e.text.data.toList).2&&decide (e.order=0)
 else if e.op=oVar then nameF e.text&&decide (0≤e.order)&&decide (e.order≤6)
 else if e.op=oPre then nameF e.text&&decide (e.order=0)
 else decide (e.text=⟨#[]⟩)&&decide (e.order=0)
theorem JIl (e:Ex)(ht:e.text.size<2^35):PX 200 [encE e] (encB (textF e)):=by
 refine PZ Tryz.func200 rfl ?_;rw[J01];generalize hF:textF e=F;unfold textF at hF;generalize e.op=o at hF;refine kWS ?_;intros;refine CondP.dec (fun h1=>?_) (fun h1=>?_)<;>refine kW ?_
 ·rw[if_pos h1] at hF;have hq:=J1R e.text.data.toList (by exact ht);rw[J0v] at hq;have hrs:=JCm (J08 e.text.data.toList);generalize (J08 e.text.data.toList).2=q at hF hrs
  rcases hrs with ⟨a,rfl,hrs⟩|⟨a,⟨x,y,rfl⟩,hrs⟩
  all_goals
   rw[hrs] at hq;refine kS ?_;intros;refine J00 [] _ c134 hq ?_;refine kWS ?_;intros;refine CondP.intro (fun h2=>?_) (fun h2=>?_)<;>refine kW ?_
   ·rw[h2,Bool.true_and] at hF;refine kS ?_;intros;exact .of (by rw[← hF];rfl)
   ·rw[h2,Bool.false_and] at hF;refine kS ?_;intros;exact .of (by rw[← hF];rfl)
 rw[if_neg h1] at hF;refine kS ?_;intros;refine CondP.dec (fun h2=>?_) (fun h2=>?_)<;>refine kW ?_
 ·rw[if_pos h2] at hF;have hn:=J1w e.text (by omega);generalize nameF e.text=q at hF hn;refine kS ?_;intros;refine CallP.flat [] _ c90 hn rfl ?_;refine kWS ?_;intros;refine CondP.intro (fun h3=>?_) (fun h3=>?_)<;>refine kW ?_
  ·rw[h3,Bool.true_and] at hF;refine kS ?_;intros;refine CondP.dec (fun h4=>?_) (fun h4=>?_)<;>refine kW ?_
   ·rw[decide_eq_true h4,Bool.true_and] at hF;refine kS ?_;intros;exact .of (by rw[← hF];rfl)
   ·rw[decide_eq_false h4,Bool.false_and] at hF;refine kS ?_;intros;exact .of (by rw[← hF];rfl)
  ·rw[h3,Bool.false_and,Bool.false_and] at hF;refine kS ?_;intros;exact .of (by rw[← hF];rfl)
 rw[if_neg h2] at hF;refine kS ?_;intros;refine CondP.dec (fun h3=>?_) (fun h3=>?_)<;>refine kW ?_
 ·rw[if_pos h3] at hF;have hn:=J1w e.text (by omega);generalize nameF e.text=q at hF hn;refine kS ?_;intros;refine CallP.flat [] _ c90 hn rfl ?_;refine kWS ?_;intros;refine CondP.intro (fun h4=>?_) (fun h4=>?_)<;>refine kW ?_
  ·rw[h4,Bool.true_and] at hF;refine kS ?_;intros;exact .of (by rw[← hF];rfl)
  ·rw[h4,Bool.false_and] at hF;refine kS ?_;intros;exact .of (by rw[← hF];rfl)
 rw[if_neg h3] at hF;refine kS ?_;intros;refine CondP.dec (fun h4=>?_) (fun h4=>?_)<;>refine kW ?_
 ·rw[decide_eq_true h4,Bool.true_and] at hF;refine kS ?_;intros;exact .of (by rw[← hF];rfl)
 ·rw[decide_eq_false h4,Bool.false_and] at hF;refine kS ?_;intros;exact .of (by rw[← hF];rfl)
def J0d {α:Type}(p:α→Bool):List α→Int→Int
 |[],_=>-1
 |y::r,i=>match p y with
   |true=>i
   |false=>J0d p r (i+1)
theorem J2Y {α:Type}(p:α→Bool):∀ (l:List α) (i:Int),0≤i→(0≤J0d p l i↔l.any p=true)
 |[],i,h=>by simp[J0d]
 |y :: r,i,h=>by
   unfold J0d;split
   ·rename_i e;simp[e,h]
   ·rename_i e;rw[J2Y p r (i+1) (by omega)];simp[e]
theorem JEk (k:Nat)(p:Ex→Bool)(l:List Ex)(hl:l.length≤2^60)(hk:J03 Tryz.prog k)(hf:∀ x∈l,PX k [encE x] (encB (p x))) :
  PX 294 [.sl 4 (l.map encE),.fn (.func k) [] []] (encI (J0d p l 0)):=by
 refine PZ Tryz.func294 rfl ?_;generalize hF:J0d p l 0=F;refine kWS ?_;intros;refine LoopP.intro (fun n σ H=>∃ i,i≤l.length∧n=l.length-i∧J0d p (l.drop i) i=F∧σ=fr [(0,.sl 4 (l.map encE)),(1,.fn (.func k) [] []),(7,encI l.length),(8,encI i)]∧H=hp []) ?_ ?_
 ·exact .intro <| W.of ⟨_,0,Nat.zero_le _,rfl,hF,rfl,rfl⟩ ⟨rfl,rfl,by simp;rfl,rfl,trivial⟩ trivial
 ·rintro n σ H ⟨i,hi,rfl,hc,rfl,rfl⟩;refine kWS ?_;intros;refine CondP.dec (fun h=>?_) (fun h=>?_)<;>refine kW ?_
  ·have hi':i<l.length:=by omega
   have hx:=hf _ (List.getElem_mem hi');rw[List.drop_eq_getElem_cons hi'] at hc;unfold J0d at hc;refine kR ?_;intros;generalize l[i]=x at hx hc ⊢;rw[J01] at hx ⊢;refine kR ?_;intros;refine CallP.flat [] _ hk hx rfl ?_;refine kWS ?_;intros;refine CondP.intro (fun hq=>?_) (fun hq=>?_)<;>refine kW ?_
   ·rw[hq] at hc;refine kS ?_;intros;exact .of (by rw[← hc];rfl)
   ·rw[hq] at hc;refine kS ?_;intros
    exact .intro <| W.of ⟨_,by omega,i+1,hi',rfl,hc,rfl,rfl⟩ ⟨rfl,rfl,rfl,rfl,trivial⟩ trivial
  ·refine kS ?_;intros;rw[List.drop_eq_nil_of_le (by omega)] at hc;exact .of (by rw[← hc];rfl)
theorem J4V (k:Nat)(p:Ex→Bool)(l:List Ex)(hl:l.length≤2^60)(hk:J03 Tryz.prog k)(hf:∀ x∈l,PX k [encE x] (encB (p x))) :
  PX 202 [.sl 4 (l.map encE),.fn (.func k) [] []] (encB (l.any p)):=by
 refine PZ Tryz.func202 rfl ?_;refine kWS ?_;intros;refine CallP.flat [] _ c294 (JEk k p l hl hk hf) rfl ?_;refine kWS ?_;intros;refine .of ?_;show AV.val (Value.bool (decide (0≤J0d p l 0)))=AV.val (Value.bool (l.any p))
 congr 2
 rw[Bool.eq_iff_iff,decide_eq_true_iff];exact J2Y p l 0 (by omega)
def J4c (o:ByteArray)(ks:List Ex)(bs:List Bool):Bool:=decide (o=oSample)&&match ks,bs with
 |k0::k1::_,_::b::_=>!decide (k0.op=oNum)||!decide (k1.op=oNum)||!b||hasP k1.text (b1 45)||decide (k1.text=⟨#[48]⟩)
 |_,_=>false
mutual
def builtF:Ex→Bool
 |.mk o t n ks=>decide ((ks.length:Int)=J1H o)&&textF (.mk o t n ks)&&!J4c o ks (J7F ks)&&(J7F ks).all id
def J7F:List Ex→List Bool
 |[]=>[]
 |k::ks=>builtF k::J7F ks
end
theorem J4J:∀ ks:List Ex,J7F ks=ks.map builtF
 |[]=>rfl
 |k::ks=>by rw[List.map_cons,← J4J ks];rfl
theorem J0u (e:Ex):builtF e=(decide ((e.kids.length:Int)=J1H e.op)&&textF e&&!J4c e.op e.kids (e.kids.map builtF)&&e.kids.all builtF):=by
 cases e with
 |mk o t n ks=>
   rw[← J4J];have:ks.all builtF=(J7F ks).all id:=by rw[J4J,List.all_map];rfl
   show builtF (.mk o t n ks)=(decide ((ks.length:Int)=J1H o)&&textF (.mk o t n ks)&&!J4c o ks (J7F ks)&&ks.all builtF)
   rw[this];rfl
theorem J1D {M:Ex→Prop}(h:∀ e:Ex,(∀ k∈e.kids,M k)→M e)(e:Ex):M e:=by
 have key:∀ n (e:Ex),SizeOf.sizeOf e≤n→M e:=by
  intro n
  induction n with
  |zero=>intro e he;cases e;simp at he
  |succ n ih=>
    intro e he;refine h e fun k hk=>ih k ?_
    cases e with
    |mk o t m ks=>
      have:=List.sizeOf_lt_of_mem (show k∈ks from hk);simp at he;omega
 exact key _ e (Nat.le_refl _)
inductive TxE:Ex→Prop where
 |mk {o t:ByteArray} {n:Int} {ks:List Ex} (ht:t.size<2^21) (h:∀ k∈ks,TxE k):TxE (.mk o t n ks)
theorem TxE.kid {e:Ex}(h:TxE e):∀ k∈e.kids,TxE k:=by cases h;assumption
theorem TxE.low {e:Ex}(h:TxE e):e.text.size<2^21:=by cases h;assumption
theorem TxE.tx {e:Ex}(h:TxE e):e.text.size<2^35:=Nat.lt_trans h.low (by decide)
theorem JGA (e:Ex)(b:Bool)(h:PX 123 [encE e] (encB b)):PX 203 [encE e] (encB (!b)):=by
 refine PZ Tryz.func203 rfl ?_;rw[J01] at h ⊢;refine kWS ?_;intros;refine CallP.flat [] _ c123 h rfl ?_;refine kWS ?_;intros;exact .of rfl
theorem JCG (e:Ex):SzE e→TxE e→PX 123 [encE e] (encB (builtF e)):=by
 induction e using J1D with
 |h e ih=>
   intro hs ht;have ihk:∀ k∈e.kids,PX 123 [encE k] (encB (builtF k)):=fun k hk=>ih k hk (hs.kid k hk) (by cases ht;rename_i h;exact h k hk);clear ih;have htx:e.text.size<2^35:=ht.tx;have hlen:=hs.len;refine PZ Tryz.func123 rfl ?_;have hT:=JIl e htx;generalize hF:builtF e=F;rw[J0u] at hF;generalize textF e=bt at hF hT;rw[J01] at hT ⊢;generalize hks:e.kids=ks at *;generalize e.op=o at *;refine kWS ?_;intros;refine CallG.intro _ c199 (JJ5 o) ?_;refine kWS ?_;intros;rw[List.length_map];refine CondP.dec (fun h=>?_) (fun h=>?_)<;>refine kW ?_
   case' refine_2=>
    rw[decide_eq_false h,Bool.false_and,Bool.false_and,Bool.false_and] at hF;refine kS ?_;intros;exact .of (by rw[← hF];rfl)
   have hlk:=h;rw[decide_eq_true hlk,Bool.true_and] at hF;refine kS ?_;intros;refine CallG.intro _ c200 hT ?_;refine kWS ?_;intros;refine CondP.intro (fun h1=>?_) (fun h1=>?_)<;>refine kW ?_
   case' refine_2=>
    rw[h1,Bool.false_and,Bool.false_and] at hF;refine kS ?_;intros;exact .of (by rw[← hF];rfl)
   rw[h1,Bool.true_and] at hF;refine kS ?_;intros;have fin:J4c o ks (ks.map builtF)=false→ks.all builtF=F:=fun h=>by rw[← hF,h];rfl
   have bad:J4c o ks (ks.map builtF)=true→F=false:=fun h=>by rw[← hF,h];rfl
   clear hF;refine CondP.dec (fun h2=>?_) (fun h2=>?_)<;>refine kW ?_
   case' refine_2=>
    have hf:=fin (by unfold J4c;rw[decide_eq_false h2];rfl)
   case' refine_1=>
    obtain ⟨k0,k1,rfl⟩:∃ k0 k1,ks=[k0,k1]:=by
     have h2':o=oSample:=h2;have:J1H oSample=2:=by rfl
     rw[h2',this] at hlk
     match ks,hlk with
     |[a,b],_=>exact ⟨a,b,rfl⟩
     |[],h=>simp at h
     |[_],h=>simp at h
     |_::_::_::_,h=>simp at h;omega
    have hk1:=ihk k1 (by simp)
    have hsm:J4c o [k0,k1] ([k0,k1].map builtF)=(!decide (k0.op=oNum)||!decide (k1.op=oNum)||!builtF k1||hasP k1.text (b1 45)||decide (k1.text=⟨#[48]⟩)):=by
     unfold J4c;rw[decide_eq_true h2];rfl
    rw[hsm] at bad fin;generalize builtF k1=bk at bad fin hk1
    have ht1:k1.text.size<2^35:=by
     have hm:k1∈e.kids:=by rw[hks];simp
     have:TxE k1:=ht.kid k1 hm;exact this.tx
    have hHP:=J9u k1.text (b1 45) (by omega) (by decide)
    have hsl:List.map encE [k0,k1]=[.agg [encS k0.op,encS k0.text,encI k0.order,.sl 4 (k0.kids.map encE)],.agg [encS k1.op,encS k1.text,encI k1.order,.sl 4 (k1.kids.map encE)]]:=by
     rw[← J01,← J01];rfl
    rw[J01] at hk1;rw[hsl];generalize hT0:hasP k1.text (b1 45)=hp at *;refine kS ?_;intros;refine CondP.dec (fun h3=>?_) (fun h3=>?_)<;>refine kW ?_
    case' refine_2=>
     rw[bad (by rw[decide_eq_false h3];rfl)];refine kS ?_;intros;exact .of rfl
    refine kS ?_;intros;refine CondP.dec (fun h4=>?_) (fun h4=>?_)<;>refine kW ?_
    case' refine_2=>
     rw[bad (by rw[decide_eq_false h4];simp)];refine kS ?_;intros;exact .of rfl
    refine kS ?_;intros;refine CallP.flat [] _ c123 hk1 rfl ?_;refine kWS ?_;intros;refine CondP.intro (fun h5=>?_) (fun h5=>?_)<;>refine kW ?_
    case' refine_2=>
     rw[bad (by rw[h5];simp)];refine kS ?_;intros;exact .of rfl
    refine kS ?_;intros;refine CallP.flat [] _ c201 hHP rfl ?_;refine kWS ?_;intros;refine CondP.intro (fun h6=>?_) (fun h6=>?_)<;>refine kW ?_
    case' refine_1=>
     rw[bad (by rw[h6];simp)];refine kS ?_;intros;exact .of rfl
    refine kS ?_;intros;refine CondP.dec (fun h7=>?_) (fun h7=>?_)<;>refine kW ?_
    case' refine_1=>
     rw[bad (by rw[decide_eq_true h7];simp)];refine kS ?_;intros;exact .of rfl
    have hf:=fin (by rw[decide_eq_true h3,decide_eq_true h4,h5,h6,decide_eq_false h7];rfl);rw[← hsl]
   all_goals
    refine kS ?_;intros;refine CallP.flat [] _ c202 (J4V 203 (fun k=>!builtF k) _ hlen c203 fun k hk=>JGA k _ (ihk k hk)) rfl ?_;refine kWS ?_;intros;refine .of ?_;rw[← hf,List.all_eq_not_any_not];rfl
structure Va where
 name:ByteArray
 kind:Int
 type:Int
 value:ByteArray
 start:ByteArray
 fixed:Bool
 unit:ByteArray
def encV (v:Va):AV:=.agg [encS v.name,encI v.kind,encI v.type,encS v.value,encS v.start,encB v.fixed,encS v.unit]
def encK (ks:List (ByteArray×Va)):AV:=.mp (ks.map fun x=>encS x.1) (ks.map fun x=>encV x.2)
def same2 (a b:Int×Bool):Int×Bool:=(a.1,a.2&&b.2&&decide (a.1=b.1))
def shpD (o:ByteArray):Int×Bool×Bool:=match J0f shp o with
 |some x=>x
 |none=>(0,false,false)
def J4b (ks:List (ByteArray×Va))(o t:ByteArray)(n:Int)(rs:List (Int×Bool)):Int×Bool:=
 if o=oVar∨o=oPre then match J0f ks t with
  |some v=>(v.type,decide (n=0)||decide (v.kind=0)||decide (v.kind=3))
  |none=>(0,false)
 else if o=oEq∨o=oNe then (1,(same2 (rs.getD 0 (0,false)) (rs.getD 1 (0,false))).2)
 else if o=oIf then ((same2 (rs.getD 1 (0,false)) (rs.getD 2 (0,false))).1,(rs.getD 0 (0,false)).2&&(same2 (rs.getD 1 (0,false)) (rs.getD 2 (0,false))).2&&decide ((rs.getD 0 (0,false)).1=1))
 else if rs.any (fun r=>!r.2||(decide (r.1=1) != (shpD o).2.1)) then (0,false)
 else (if (shpD o).2.2 then 1 else 0,true)
mutual
def typeF (ks:List (ByteArray×Va)):Ex→Int×Bool
 |.mk o t n es=>J4b ks o t n (JIf ks es)
def JIf (ks:List (ByteArray×Va)):List Ex→List (Int×Bool)
 |[]=>[]
 |e::es=>typeF ks e::JIf ks es
end
theorem J8R (ks:List (ByteArray×Va)):∀ es:List Ex,JIf ks es=es.map (typeF ks)
 |[]=>rfl
 |e::es=>by rw[List.map_cons,← J8R ks es];rfl
theorem J25 (ks:List (ByteArray×Va))(e:Ex):typeF ks e=J4b ks e.op e.text e.order (e.kids.map (typeF ks)):=by
 cases e with
 |mk o t n es=>rw[← J8R];rfl
def JF3 (r:Int×Bool):AV:=.tup [encI r.1,encB r.2]
theorem JEE (ks:List (ByteArray×Va))(a b:Ex)(ra rb:Int×Bool)(ha:PX 124 [encK ks,encE a] (JF3 ra))(hb:PX 124 [encK ks,encE b] (JF3 rb)) :
  PX 204 [encK ks,encE a,encE b] (JF3 (same2 ra rb)):=by
 refine PZ Tryz.func204 rfl ?_;obtain ⟨x,bx⟩:=ra;obtain ⟨y,by'⟩:=rb;rw[J01] at ha hb;rw[J01 a,J01 b];generalize hF:same2 (x,bx) (y,by')=F;unfold same2 at hF;refine kWS ?_;intros;refine J00 [] _ c124 ha ?_;refine kWS ?_;intros;refine J00 [] _ c124 hb ?_;refine kWS ?_;intros;simp only at hF ⊢;cases bx
 ·refine kS ?_;intros;exact .of (by rw[← hF];rfl)
 cases by'
 ·refine kS ?_;intros;exact .of (by rw[← hF];rfl)
 simp only[Bool.true_and] at hF;refine kS ?_;intros;exact .of (by rw[← hF];rfl)
theorem J06 {e:Ex}(h:builtF e=true):(e.kids.length:Int)=J1H e.op∧∀ k∈e.kids,builtF k=true:=by
 rw[J0u] at h;simp only[Bool.and_eq_true] at h;exact ⟨of_decide_eq_true h.1.1.1,fun k hk=>List.all_eq_true.1 h.2 k hk⟩
theorem JFq (ks:List (ByteArray×Va))(e:Ex):SzE e→builtF e=true→PX 124 [encK ks,encE e] (JF3 (typeF ks e)):=by
 induction e using J1D with
 |h e ih=>
   intro hs hb;obtain ⟨hkl,hbk⟩:=J06 hb;have ihk:∀ k∈e.kids,PX 124 [encK ks,encE k] (JF3 (typeF ks k)):=fun k hk=>ih k hk (hs.kid k hk) (hbk k hk);clear ih hbk;have hlen:=hs.len;refine PZ Tryz.func124 rfl ?_;generalize hF:typeF ks e=F;rw[J25] at hF;rw[J01];generalize hes:e.kids=es at *;generalize e.op=o at *;generalize e.text=t at *;generalize e.order=n at *;clear hs hb hes e;unfold J4b at hF;refine kWS ?_;intros;refine CondP.dec (fun h1=>?_) (fun h1=>?_)<;>refine kX ?_
   case' refine_1=>refine CondP.pos h1 ?_
   case' refine_2=>refine CondP.dec (fun h2=>?_) (fun h2=>?_)
   case refine_2.refine_2=>
    rw[if_neg (by rintro (h|h);exact h1 h;exact h2 h)] at hF;refine kX ?_
    repeat (refine J0r ?_;refine kX ?_)
    refine CondP.dec (fun h3=>?_) (fun h3=>?_)<;>refine kX ?_
    case' refine_1=>refine CondP.pos h3 ?_
    case' refine_2=>refine CondP.dec (fun h4=>?_) (fun h4=>?_)
    case refine_2.refine_2=>
     rw[if_neg (by rintro (h|h);exact h3 h;exact h4 h)] at hF;refine kX ?_
     repeat (refine J0r ?_;refine kX ?_)
     refine CondP.dec (fun h5=>?_) (fun h5=>?_)<;>refine kX ?_
     ·rw[if_pos h5] at hF
      obtain ⟨a,b,c,rfl⟩:∃ a b c,es=[a,b,c]:=by
       have:J1H o=3:=by rw[h5];rfl
       rw[this] at hkl
       match es,hkl with
       |[a,b,c],_=>exact ⟨a,b,c,rfl⟩
       |[],h=>simp at h
       |[_],h=>simp at h
       |[_,_],h=>simp at h
       |_::_::_::_::_,h=>simp at h;omega
      have hca:=ihk a (by simp);have hsm:=JEE ks b c _ _ (ihk b (by simp)) (ihk c (by simp))
      have hsl:List.map encE [a,b,c]=[.agg [encS a.op,encS a.text,encI a.order,.sl 4 (a.kids.map encE)],.agg [encS b.op,encS b.text,encI b.order,.sl 4 (b.kids.map encE)],.agg [encS c.op,encS c.text,encI c.order,.sl 4 (c.kids.map encE)]]:=by
       rw[← J01,← J01,← J01];rfl
      replace hF:((same2 (typeF ks b) (typeF ks c)).1,(typeF ks a).2&&(same2 (typeF ks b) (typeF ks c)).2&&decide ((typeF ks a).1=1))=F:=hF;generalize same2 (typeF ks b) (typeF ks c)=sm at hF hsm;generalize typeF ks a=ta at hF hca;rw[J01 a] at hca;rw[J01 b,J01 c] at hsm;refine J0e (W.of (l:=[(0,encK ks),(3,.op 3 _ 0 0),(4,encI 0),(5,encB false),(20,encS o)]) (m:=[(3,_,⟨29,4,[.agg [encS o,encS t,encI n,.sl 4 ([a,b,c].map encE)]]⟩)]) ?_ ⟨rfl,rfl,rfl,rfl,rfl,trivial⟩ ⟨rfl,trivial⟩);rw[hsl];refine kWS ?_;intros;refine J00 [] _ c124 hca ?_;refine kWS ?_;intros;refine CallG.intro _ c204 hsm ?_;refine kWS ?_;intros;obtain ⟨tt,tb⟩:=ta;obtain ⟨st,sb⟩:=sm;simp only at hF ⊢;cases tb
      ·refine kS ?_;intros;exact .of (by rw[← hF];rfl)
      cases sb
      ·refine kS ?_;intros;exact .of (by rw[← hF];rfl)
      simp only[Bool.true_and] at hF;refine kS ?_;intros;exact .of (by rw[← hF];rfl)
     ·rw[if_neg h5] at hF;refine J0e (W.of (l:=[(0,encK ks),(3,.op 3 _ 0 0),(4,encI 0),(5,encB false),(20,encS o)]) (m:=[(3,_,⟨29,4,[.agg [encS o,encS t,encI n,.sl 4 (es.map encE)]]⟩)]) ?_ ⟨rfl,rfl,rfl,rfl,rfl,trivial⟩ ⟨rfl,trivial⟩);refine kWS ?_;intros;refine CallG.intro _ c205 shapes_ok ?_;refine kWS ?_;intros;refine Need.intro keyst9 ?_;refine kW ?_;obtain ⟨r,hr,hm⟩:=J1J J6P o shp;refine LookP.intro r hr ?_
      have hcase:(r=none∧shpD o=(0,false,false))∨∃ i,r=some i∧(shp.map fun x=>J6P x.2).getD i .dead=J6P (shpD o):=by
       unfold shpD
       revert hm
       cases J0f shp o<;>cases r<;>intro hm
       ·exact .inl ⟨rfl,rfl⟩
       ·exact hm.elim
       ·exact hm.elim
       ·exact .inr ⟨_,rfl,hm⟩
      rcases hcase with ⟨rfl,hx⟩|⟨i,rfl,hm'⟩
      case' inl=>
       refine kW ?_;refine kX ?_;refine kZ ?_;intros;refine J0e (W.of (l:=[(0,encK ks),(3,.op 3 _ 0 0),(4,encI 0),(5,encB false),(14,.op 14 _ 0 0)]) (m:=[(3,_,⟨29,4,[.agg [encS o,encS t,encI n,.sl 4 (es.map encE)]]⟩),(14,_,⟨249,3,[J6P (shpD o)]⟩)]) ?_ ⟨rfl,rfl,rfl,rfl,rfl,trivial⟩ ⟨rfl,by rw[hx];rfl,trivial⟩)
      case' inr=>
       refine kW ?_;rw[hm'];refine kX ?_;refine kZ ?_;intros;refine J0e (W.of (l:=[(0,encK ks),(3,.op 3 _ 0 0),(4,encI 0),(5,encB false),(14,.op 14 _ 0 0)]) (m:=[(3,_,⟨29,4,[.agg [encS o,encS t,encI n,.sl 4 (es.map encE)]]⟩),(14,_,⟨249,3,[J6P (shpD o)]⟩)]) ?_ ⟨rfl,rfl,rfl,rfl,rfl,trivial⟩ ⟨rfl,rfl,trivial⟩)
      all_goals
       generalize shpD o=x at hF ⊢;refine kWS ?_;intros
       refine LoopP.intro (fun m σ H=>∃ g i,m=es.length-i∧i≤es.length∧(if ((es.drop i).map (typeF ks)).any (fun r=>!r.2||(decide (r.1=1) != x.2.1)) then ((0,false):Int×Bool) else (if x.2.2 then 1 else 0,true))=F ∧
        σ=fr [(0,encK ks),(4,encI 0),(5,encB false),(14,.op 14 g 0 0),(104,.sl 4 (es.map encE)),(105,encI es.length),(106,encI i)] ∧
        H=hp [(14,g,⟨249,3,[J6P x]⟩)]) ?_ ?_
       ·refine .intro <| W.of ⟨_,_,0,rfl,Nat.zero_le _,hF,rfl,rfl⟩ ⟨rfl,rfl,rfl,rfl,rfl,?_,rfl,trivial⟩ ⟨rfl,trivial⟩
        show AV.val (.int .i64 _)=AV.val (.int .i64 _)
        rw[List.length_map]
       ·clear hF;rintro m σ H ⟨g,i,rfl,hi,hF,rfl,rfl⟩;refine kWS ?_;intros;refine CondP.dec (fun h=>?_) (fun h=>?_)<;>refine kW ?_
        ·have hi':i<es.length:=by omega
         rw[List.drop_eq_getElem_cons hi',List.map_cons,List.any_cons] at hF;have hk:=ihk _ (List.getElem_mem hi');refine kR ?_;intros;generalize es[i]=k at hF hk ⊢;generalize typeF ks k=tk at hF hk;obtain ⟨kt,kb⟩:=tk;rw[J01] at hk ⊢;refine kR ?_;intros;refine J00 [] _ c124 hk ?_;refine kWS ?_;intros;simp only at hF ⊢;cases kb
         ·simp only[Bool.not_false,Bool.true_or,if_true] at hF;refine kS ?_;intros;exact .of (by rw[← hF];rfl)
         simp only[Bool.not_true,Bool.false_or] at hF;refine kS ?_;intros;refine CondP.intro (fun h6=>?_) (fun h6=>?_)<;>refine kW ?_
         ·rw[show (decide (kt=1) != x.2.1)=false by rw[bne,h6];rfl,Bool.false_or] at hF;refine kS ?_;intros
          exact .intro <| W.of ⟨_,by omega,_,i+1,rfl,hi',hF,rfl,rfl⟩ ⟨rfl,rfl,rfl,rfl,rfl,rfl,rfl,trivial⟩ ⟨rfl,trivial⟩
         ·rw[show (decide (kt=1) != x.2.1)=true by rw[bne,h6];rfl,Bool.true_or,if_pos rfl] at hF;refine kS ?_;intros;exact .of (by rw[← hF];rfl)
        ·rw[List.drop_eq_nil_of_le (by omega)] at hF;refine kS ?_;intros;refine CondP.intro (fun h6=>?_) (fun h6=>?_)<;>refine kW ?_
         ·rw[h6] at hF;refine kS ?_;intros;exact .of (by rw[← hF];rfl)
         ·rw[h6] at hF;refine kS ?_;intros;exact .of (by rw[← hF];rfl)
    all_goals
     have hv:o=oEq∨o=oNe:=by first|exact .inl h3|exact .inr h4
     rw[if_pos hv] at hF
     obtain ⟨a,b,rfl⟩:∃ a b,es=[a,b]:=by
      have:J1H o=2:=by rcases hv with h|h<;>rw[h]<;>rfl
      rw[this] at hkl
      match es,hkl with
      |[a,b],_=>exact ⟨a,b,rfl⟩
      |[],h=>simp at h
      |[_],h=>simp at h
      |_::_::_::_,h=>simp at h;omega
     have hsm:=JEE ks a b _ _ (ihk a (by simp)) (ihk b (by simp))
     have hsl:List.map encE [a,b]=[.agg [encS a.op,encS a.text,encI a.order,.sl 4 (a.kids.map encE)],.agg [encS b.op,encS b.text,encI b.order,.sl 4 (b.kids.map encE)]]:=by
      rw[← J01,← J01];rfl
     replace hF:(1,(same2 (typeF ks a) (typeF ks b)).2)=F:=hF;generalize same2 (typeF ks a) (typeF ks b)=sm at hF hsm;rw[J01 a,J01 b] at hsm;refine J0e (W.of (l:=[(0,encK ks),(3,.op 3 _ 0 0),(4,encI 0),(5,encB false),(20,encS o)]) (m:=[(3,_,⟨29,4,[.agg [encS o,encS t,encI n,.sl 4 ([a,b].map encE)]]⟩)]) ?_ ⟨rfl,rfl,rfl,rfl,rfl,trivial⟩ ⟨rfl,trivial⟩);rw[hsl];refine kWS ?_;intros;refine CallG.intro _ c204 hsm ?_;refine kWS ?_;intros;exact .of (by rw[← hF];rfl)
   all_goals
    have hv:o=oVar∨o=oPre:=by first|exact .inl h1|exact .inr h2
    rw[if_pos hv] at hF;refine J0e (W.of (l:=[(0,encK ks),(3,.op 3 _ 0 0),(4,encI 0),(5,encB false),(20,encS o)]) (m:=[(3,_,⟨29,4,[.agg [encS o,encS t,encI n,.sl 4 (es.map encE)]]⟩)]) ?_ ⟨rfl,rfl,rfl,rfl,rfl,trivial⟩ ⟨rfl,trivial⟩);refine kWS ?_;intros;refine Need.intro keyst9 ?_;refine kW ?_;obtain ⟨r,hr,hm⟩:=J1J encV t ks;refine LookP.intro r hr ?_
    cases ha:J0f ks t with
    |none=>
      rw[ha] at hm hF
      cases r with
      |some i=>exact hm.elim
      |none=>
        refine kWS ?_;intros;exact .of (by rw[← hF];rfl)
    |some v=>
      rw[ha] at hm hF
      cases r with
      |none=>exact hm.elim
      |some i=>
        refine kW ?_;rw[show (List.map (fun x=>encV x.snd) ks).getD i AV.dead=encV v from hm];refine kWS ?_;intros;replace hF:(v.type,decide (n=0)||decide (v.kind=0)||decide (v.kind=3))=F:=hF;refine CondP.dec (fun h3=>?_) (fun h3=>?_)<;>refine kW ?_
        ·rw[decide_eq_true h3,Bool.true_or,Bool.true_or] at hF;refine kS ?_;intros;exact .of (by rw[← hF];rfl)
        rw[decide_eq_false h3,Bool.false_or] at hF;refine kS ?_;intros;refine CondP.dec (fun h4=>?_) (fun h4=>?_)<;>refine kW ?_
        ·rw[decide_eq_true h4,Bool.true_or] at hF;refine kS ?_;intros;exact .of (by rw[← hF];rfl)
        rw[decide_eq_false h4,Bool.false_or] at hF;refine kS ?_;intros;exact .of (by rw[← hF];rfl)
def J11 (q:AV)(t is:Bool):AV:=match q with
 |.agg cs=>.agg (cs++[encB t,encB is])
 |_=>.dead
theorem J1p (b:Bool):PX 194 [encB b] (J11 nilQ b true):=by
 refine PZ Tryz.func194 rfl ?_;refine kWS ?_;intros;exact .of rfl
theorem J9r (q:AV)(h:q=nilQ∨∃ n d,q=encQ n d):PX 189 [q] (J11 q false false):=by
 refine PZ Tryz.func189 rfl ?_
 rcases h with rfl|⟨n,d,rfl⟩
 all_goals
  refine kWS ?_;intros;exact .of rfl
theorem J4x (q:AV)(t is:Bool)(h:q=nilQ∨∃ n d,q=encQ n d):PX 282 [J11 q t is] (encI (if is then 1 else 0)):=by
 refine PZ Tryz.func282 rfl ?_
 rcases h with rfl|⟨n,d,rfl⟩
 all_goals
  refine kWS ?_;intros;refine CondP.intro (fun h=>?_) (fun h=>?_)<;>refine kW ?_
  ·refine kS ?_;intros;exact .of (by rw[h];rfl)
  ·refine kS ?_;intros;exact .of (by rw[h];rfl)
def qAV:Option (Int×Int)→AV
 |some (n,d)=>encQ n d
 |none=>nilQ
theorem J6m (p:Option (Int×Int)×Bool):resQ p=.tup [qAV p.1,encB p.2]:=by
 obtain ⟨o,b⟩:=p;cases o<;>rfl
theorem J1M (o:Option (Int×Int)):qAV o=nilQ∨∃ n d,qAV o=encQ n d:=by
 cases o with
 |none=>exact .inl rfl
 |some q=>exact .inr ⟨q.1,q.2,rfl⟩
abbrev sTrue:ByteArray:=⟨#[116,114,117,101]⟩
abbrev sFalse:ByteArray:=⟨#[102,97,108,115,101]⟩
def resV (s:ByteArray):AV:=
 if s=sTrue∨s=sFalse then .tup [J11 nilQ (decide (s=sTrue)) true,encB true]
 else .tup [J11 (qAV (J08 s.data.toList).1) false false,encB (J08 s.data.toList).2]
theorem J9q (s:ByteArray)(hs:s.size<2^35):PX 112 [encS s] (resV s):=by
 refine PZ Tryz.func112 rfl ?_;generalize hF:resV s=F;unfold resV at hF;have hq:=J1R s.data.toList (by exact hs);rw[J0v] at hq;have hT:=J1p;refine kWS ?_;intros;refine CondP.dec (fun h1=>?_) (fun h1=>?_)<;>refine kW ?_
 ·rw[if_pos (.inl h1),decide_eq_true h1] at hF;refine kS ?_;intros;refine J00 [] _ c194 (J1p (decide (s=sTrue))) ?_;rw[decide_eq_true h1];refine kWS ?_;intros;exact .of (by rw[← hF];rfl)
 refine kS ?_;intros;refine CondP.dec (fun h2=>?_) (fun h2=>?_)<;>refine kW ?_
 ·rw[if_pos (.inr h2),decide_eq_false h1] at hF;refine kS ?_;intros;refine J00 [] _ c194 (J1p (decide (s=sTrue))) ?_;rw[decide_eq_false h1];refine kWS ?_;intros;exact .of (by rw[← hF];rfl)
 rw[if_neg (by rintro (h|h);exact h1 h;exact h2 h)] at hF;rw[J6m] at hq;have hq2:=J1M (J08 s.data.toList).1;generalize qAV (J08 s.data.toList).1=q at *;generalize (J08 s.data.toList).2=b at *;have hN:=J9r q hq2;refine kS ?_;intros;refine J00 [] _ c134 hq ?_
 rcases hq2 with rfl|⟨n,d,rfl⟩
 all_goals
  refine kWS ?_;intros;refine J00 [] _ c189 hN ?_;refine kWS ?_;intros;exact .of (by rw[← hF];rfl)
def valueF (s:ByteArray)(t:Int):Bool:=
 if s=sTrue∨s=sFalse then decide (1=t) else (J08 s.data.toList).2&&decide (0=t)
theorem JBD (s:ByteArray)(t:Int)(hs:s.size<2^35):PX 320 [encS s,encI t] (encB (valueF s t)):=by
 refine PZ Tryz.func320 rfl ?_;have hp:=J9q s hs;generalize hF:valueF s t=F;unfold valueF at hF;unfold resV at hp;have hq2:=J1M (J08 s.data.toList).1;generalize qAV (J08 s.data.toList).1=q at *;generalize (J08 s.data.toList).2=b at *
 by_cases h1:s=sTrue∨s=sFalse
 ·rw[if_pos h1] at hp hF;refine kWS ?_;intros;refine J00 [] _ c112 hp ?_;refine kWS ?_;intros;refine CallP.flat [] _ c282 (J4x nilQ (decide (s=sTrue)) true (.inl rfl)) rfl ?_;refine kWS ?_;intros;exact .of (by rw[← hF];rfl)
 ·rw[if_neg h1] at hp hF;have hT:=J4x q false false hq2;refine kWS ?_;intros;refine J00 [] _ c112 hp ?_
  rcases hq2 with rfl|⟨n,d,rfl⟩
  all_goals
   refine kWS ?_;intros;refine CondP.intro (fun h2=>?_) (fun h2=>?_)<;>refine kW ?_
   ·rw[h2,Bool.true_and] at hF;refine kS ?_;intros;refine CallP.flat [] _ c282 hT rfl ?_;refine kWS ?_;intros;exact .of (by rw[← hF];rfl)
   ·rw[h2,Bool.false_and] at hF;refine kS ?_;intros;exact .of (by rw[← hF];rfl)
abbrev B4:Nat:=10000
def encD (n:Nat):AV:=.val (.int .i64 n)
def JLB (l:List Nat):AV:=.sl 1 (l.map encD)
def encN (n:Nat):AV:=JLB (dg B4 n)
theorem g4 {l:List Nat}(h:Dig B4 l)(i:Nat)(hi:i<l.length):l[i]<10000:=h.get i hi
theorem JF2 {x y x' y':AV}(h1:Le x x')(h2:Le y y'):Fw.Ends (.tup [x,y]) (.tup [x',y']):=by
 have h:=Le.cons h1 (Le.cons h2 J6H);exact Fw.Ends.le (Le.tup h.1 h.2)
theorem JJ6 (n:Nat):isD n=true↔48≤n∧n≤57:=by
 unfold isD;rw[Bool.and_eq_true,Nat.ble_eq,Nat.ble_eq]
def digB (l:List UInt8):Bool:=decide (1≤l.length)&&decide (l.length≤300)&&!(decide (1<l.length)&&decide (l.headD 0=48))&&isDs l
theorem J4B (l:List UInt8):(J07 l).1.length≤l.length∧(J07 l).1=l.take (J07 l).1.length∧(∀ j (h:j<l.length),j<(J07 l).1.length→l[j]≠47) ∧
  (∀ h:(J07 l).1.length<l.length,(J07 l).2.2=true∧(J07 l).2.1=l.drop ((J07 l).1.length+1)∧l[(J07 l).1.length]=47)∧(l.length≤(J07 l).1.length→(J07 l).2.2=false):=by
 induction l with
 |nil=>exact ⟨by decide,rfl,fun j h=>absurd h (by simp),fun h=>absurd h (by simp),fun _=>rfl⟩
 |cons c l ih=>
   by_cases hc:c=47
   ·have e:J07 (c::l)=([],l,true):=by unfold J07;rw[if_pos hc]
    rw[e];exact ⟨by simp,rfl,fun j h h'=>absurd h' (by simp),fun h=>⟨rfl,rfl,by simpa using hc⟩,fun h=>by simp at h⟩
   ·have e:J07 (c::l)=(c::(J07 l).1,(J07 l).2.1,(J07 l).2.2):=by rw[J07,if_neg hc]
    obtain ⟨h1,h2,h3,h4,h5⟩:=ih;rw[e];simp only[List.length_cons,List.take_succ_cons];refine ⟨by omega,by rw[← h2],fun j h h'=>?_,fun h=>?_,fun h=>h5 (by omega)⟩
    ·cases j with
     |zero=>exact hc
     |succ j=>exact h3 j (by omega) (by omega)
    ·obtain ⟨a,b,d⟩:=h4 (by omega);exact ⟨a,by rw[b,List.drop_succ_cons],d⟩
def J8f (m:Bool)(t:List UInt8):Option (Int×Nat):=
 if digB (J07 t).1=false then none
 else if (J07 t).2.2=true then
  if digB (J07 t).2.1=false then none
  else if decU (J07 t).2.1≤1∨Nat.gcd (decU (J07 t).1) (decU (J07 t).2.1)≠1 then none
  else if m=true∧decU (J07 t).1=0 then none
  else some (if m then -(decU (J07 t).1:Int) else decU (J07 t).1,decU (J07 t).2.1)
 else if m=true∧decU (J07 t).1=0 then none
 else some (if m then -(decU (J07 t).1:Int) else decU (J07 t).1,1)
def J7d (l:List UInt8):Option (Int×Nat):=match l with
 |45::t=>J8f true t
 |t=>J8f false t
def rT (n:Int)(d:Nat):List Nat:=if d=1 then sT n else sT n++47::decT d
theorem J7E {l:List Nat}(h:l.all isDg=true):(l.map UInt8.ofNat).map UInt8.toNat=l:=by
 rw[List.map_map];refine (List.map_congr_left fun c hc=>?_).trans (List.map_id l);have:=List.all_eq_true.1 h c hc;unfold isDg at this;simp at this;simp;omega
theorem JKJ (n:Nat):isD n=isDg n:=by
 rw[Bool.eq_iff_iff,JJ6];unfold isDg;rw[decide_eq_true_iff]
theorem JBq (l:List UInt8):isDs l=(l.map UInt8.toNat).all isDg:=by
 unfold isDs;rw[List.all_map]
 congr 1
 funext c
 exact JKJ _
theorem J5y (n:Nat):decU ((decT n).map UInt8.ofNat)=n:=by
 unfold decU;rw[J7E (J3J n),J9N]
theorem J58 (l:List UInt8):(l.map UInt8.toNat).map UInt8.ofNat=l:=by
 rw[List.map_map];refine (List.map_congr_left fun c hc=>?_).trans (List.map_id l);simp
theorem J2y (l:List UInt8):digB l=(J1o (l.map UInt8.toNat)&&decide (l.length≤300)):=by
 unfold digB J1o;rw[JBq,List.length_map]
 cases l with
 |nil=>rfl
 |cons c r=>
   have e:decide ((c::r).headD 0=48)=decide (((c::r).map UInt8.toNat).getD 0 0=48):=decide_eq_decide.2 (by
    simp only[List.headD_cons,List.map_cons,List.getD_cons_zero];constructor
    ·rintro rfl;rfl
    ·intro h;exact UInt8.toNat.inj (by rw[h];rfl))
   rw[e];generalize ((c::r).map UInt8.toNat).getD 0 0=x;generalize ((c::r).map UInt8.toNat).all isDg=b;generalize (c::r).length=n;rw[Bool.eq_iff_iff];simp only[Bool.and_eq_true,Bool.or_eq_true,Bool.not_eq_true',Bool.and_eq_false_iff,decide_eq_true_eq,decide_eq_false_iff_not,ne_eq];constructor
   ·rintro ⟨⟨⟨h1,h2⟩,h3⟩,h4⟩;exact ⟨⟨⟨h1,by omega⟩,h4⟩,h2⟩
   ·rintro ⟨⟨⟨h1,h2⟩,h3⟩,h4⟩;exact ⟨⟨⟨h1,h4⟩,by omega⟩,h3⟩
theorem J5t {n:Nat}(h:(decT n).length≤300):digB ((decT n).map UInt8.ofNat)=true:=by
 rw[J2y,J7E (J3J n),J73,List.length_map,decide_eq_true h];rfl
theorem J9H {l:List UInt8}(h:digB l=true):l=(decT (decU l)).map UInt8.ofNat∧(decT (decU l)).length≤300:=by
 rw[J2y,Bool.and_eq_true] at h;have e:=J3e h.1;have h2:=of_decide_eq_true h.2;unfold decU;rw[e];exact ⟨(J58 l).symm,by rw[List.length_map];exact h2⟩
theorem JCr {a:List UInt8}(h:∀ c∈a,c≠47):J07 a=(a,[],false):=by
 induction a with
 |nil=>rfl
 |cons c r ih=>rw[J07,if_neg (h c (by simp)),ih (fun x hx=>h x (by simp[hx]))]
theorem JCq {a:List UInt8}(h:∀ c∈a,c≠47)(b:List UInt8):J07 (a++47::b)=(a,b,true):=by
 induction a with
 |nil=>rw[List.nil_append,J07,if_pos rfl]
 |cons c r ih=>rw[List.cons_append,J07,if_neg (h c (by simp)),ih (fun x hx=>h x (by simp[hx]))]
theorem JLC {l:List Nat}(h:l.all isDg=true)(x:UInt8)(hx:¬ (48≤x.toNat∧x.toNat≤57)):∀ c∈l.map UInt8.ofNat,c≠x:=by
 intro c hc e;obtain ⟨d,hd,rfl⟩:=List.mem_map.1 hc;have:=List.all_eq_true.1 h d hd;unfold isDg at this;simp at this;subst e;apply hx;have e2:(UInt8.ofNat d).toNat=d:=by simp;omega
 rw[e2];exact this
theorem JKZ:(decT 1).length≤300:=by
 rw[JHL,if_neg (by decide),J5v (by decide) (by decide) (by decide)];decide
def okR (x:Int×Nat):Prop:=0<x.2∧Nat.gcd x.1.natAbs x.2=1∧(decT x.1.natAbs).length≤300∧(decT x.2).length≤300
theorem JK5 (n:Int):sT n=if n<0 then 45::decT n.natAbs else decT n.natAbs:=rfl
theorem J6n {m:Bool}{t:List UInt8}{x:Int×Nat}(h:J8f m t=some x):okR x∧(x.1<0↔m=true)∧t=(decT x.1.natAbs++if x.2=1 then [] else 47::decT x.2).map UInt8.ofNat:=by
 obtain ⟨p1,p2,p3,p4,p5⟩:=J4B t;unfold J8f at h
 cases hd:digB (J07 t).1 with
 |false=>rw[hd,if_pos rfl] at h;cases h
 |true=>
   obtain ⟨t1,t2⟩:=J9H hd;rw[hd,if_neg (by decide)] at h;generalize hn:decU (J07 t).1=n at *
   have sgnz:∀ hz:¬ (m=true∧n=0),((if m then -(n:Int) else n)<0↔m=true)∧(if m then -(n:Int) else (n:Int)).natAbs=n:=by
    intro hz
    cases m with
    |true=>have:n≠0:=fun e=>hz ⟨rfl,e⟩;rw[if_pos rfl];exact ⟨by simp;omega,by omega⟩
    |false=>rw[if_neg (by decide)];exact ⟨by simp,by omega⟩
   by_cases hb:(J07 t).2.2=true
   ·have hlt:(J07 t).1.length<t.length:=by
     rcases Nat.lt_or_ge (J07 t).1.length t.length with h'|h'
     ·exact h'
     ·rw[p5 h'] at hb;cases hb
    obtain ⟨_,q2,q3⟩:=p4 hlt
    have ht:t=(J07 t).1++47::(J07 t).2.1:=by
     conv=>lhs;rw[← List.take_append_drop (J07 t).1.length t]
     rw[← p2,List.drop_eq_getElem_cons hlt,q3,← q2]
    rw[if_pos hb] at h
    cases hd2:digB (J07 t).2.1 with
    |false=>rw[hd2,if_pos rfl] at h;cases h
    |true=>
      obtain ⟨u1,u2⟩:=J9H hd2;rw[hd2,if_neg (by decide)] at h;generalize hdd:decU (J07 t).2.1=d at *;split at h
      ·cases h
      ·rename_i hg;split at h
       ·cases h
       ·rename_i hz;cases h;obtain ⟨s1,s2⟩:=sgnz hz;have hg1:¬ d≤1:=fun e=>hg (.inl e);have hg2:Nat.gcd n d=1:=Decidable.byContradiction fun e=>hg (.inr e);refine ⟨⟨by simp only;omega,by simp only;rw[s2];exact hg2,by simp only;rw[s2];exact t2,u2⟩,s1,?_⟩;simp only;rw[s2,if_neg (by omega),List.map_append,List.map_cons,← t1,← u1];exact ht
   ·have hge:t.length≤(J07 t).1.length:=by
     rcases Nat.lt_or_ge (J07 t).1.length t.length with h'|h'
     ·exact absurd (p4 h').1 hb
     ·exact h'
    have ht:t=(J07 t).1:=by
     conv=>rhs;rw[p2]
     rw[List.take_of_length_le hge]
    rw[if_neg hb] at h;split at h
    ·cases h
    ·rename_i hz;cases h;obtain ⟨s1,s2⟩:=sgnz hz;refine ⟨⟨Nat.one_pos,by simp,by simp only;rw[s2];exact t2,JKZ⟩,s1,?_⟩;simp only;rw[s2,if_pos trivial,List.append_nil,← t1];exact ht
theorem JGj (n:Int)(d:Nat):rT n d=if n<0 then 45::(decT n.natAbs++if d=1 then [] else 47::decT d) else decT n.natAbs++if d=1 then [] else 47::decT d:=by
 unfold rT;rw[JK5];split<;>split<;>simp
theorem JCn {l:List UInt8}{x:Int×Nat}(h:J7d l=some x):okR x∧l=(rT x.1 x.2).map UInt8.ofNat:=by
 unfold J7d at h;split at h
 ·rename_i t;obtain ⟨h1,h2,h3⟩:=J6n h;refine ⟨h1,?_⟩;rw[JGj,if_pos (h2.2 rfl),List.map_cons,← h3];rfl
 ·obtain ⟨h1,h2,h3⟩:=J6n h;refine ⟨h1,?_⟩;rw[JGj,if_neg (fun e=>by have:=h2.1 e;cases this),← h3]
theorem JGi (n:Int)(d:Nat)(h:okR (n,d)):J8f (decide (n<0)) ((decT n.natAbs++if d=1 then [] else 47::decT d).map UInt8.ofNat)=some (n,d):=by
 obtain ⟨h1,h2,h3,h4⟩:=h;simp only at *;have hz:¬ (decide (n<0)=true∧n.natAbs=0):=fun e=>by have:=of_decide_eq_true e.1;omega
 have hs:(if decide (n<0)=true then -((n.natAbs:Nat):Int) else (n.natAbs:Nat))=n:=by
  by_cases h:n<0
  ·rw[if_pos (decide_eq_true h)];omega
  ·rw[if_neg (by simpa using h)];omega
 have h47:=JLC (J3J n.natAbs) 47 (by decide);unfold J8f
 by_cases hd:d=1
 ·rw[if_pos hd,List.append_nil,JCr h47];simp only;rw[J5t h3,if_neg (by decide),if_neg (by decide),J5y,if_neg hz,hs,hd]
 ·rw[if_neg hd,List.map_append,List.map_cons,show UInt8.ofNat 47=47 from rfl,JCq h47];simp only;rw[J5t h3,if_neg (by decide),if_pos trivial,J5t h4,if_neg (by decide),J5y,J5y,if_neg (by rintro (h|h);omega;exact h h2),if_neg hz,hs]
theorem JBS (n:Int)(d:Nat)(h:okR (n,d)):J7d ((rT n d).map UInt8.ofNat)=some (n,d):=by
 have hb:=JGi n d h;rw[JGj]
 by_cases hn:n<0
 ·rw[if_pos hn,List.map_cons];rw[decide_eq_true hn] at hb;exact hb
 ·rw[if_neg hn];rw[decide_eq_false hn] at hb;have hc:=J73 n.natAbs;have hdg:=J3J n.natAbs;generalize hT:decT n.natAbs=T at *
  cases T with
  |nil=>simp[J1o] at hc
  |cons c r=>
    rw[List.all_cons,Bool.and_eq_true] at hdg;have hcd:=hdg.1;unfold isDg at hcd;simp at hcd;rw[List.cons_append,List.map_cons] at hb ⊢;unfold J7d;split
    ·rename_i t heq;have:=congrArg (fun l:List UInt8=>(l.headD 0).toNat) heq;simp at this;omega
    ·exact hb
def nlt (n:Int):Bool:=(decide (n<97)||decide (122<n))&&(decide (n<65)||decide (90<n))
theorem JD2 (n:Int):PX 389 [.val (.int .i32 n)] (encB (nlt n)):=by
 refine PZ Tryz.func389 rfl ?_;refine kW ?_
 (repeat (any_goals (first|((first|refine N0 ?_|refine A0 fun γ=>?_|refine C1 ?_|refine C2 ?_|refine C3 ?_|refine C4 ?_|refine C5 ?_|refine C6 ?_|refine C7 ?_|refine D0 fun γs=>?_|refine A1 fun γs=>?_|refine N2 ?_|refine N3 ?_|refine N1 ?_);refine kW ?_)|(refine CondP.dec (fun _=>?_) (fun _=>?_)<;>refine kW ?_)|(refine CondP.intro (fun _=>?_) (fun _=>?_)<;>refine kW ?_))))
 all_goals (refine .of ?_;show AV.val (Value.bool _)=AV.val (Value.bool _);congr 1;unfold nlt;simp_all<;>omega)
theorem JCW (n:Int):PX 400 [.val (.int .i32 n)] (encB (nlt n)):=by
 refine PZ Tryz.func400 rfl ?_;refine kW ?_
 (repeat (any_goals (first|((first|refine N0 ?_|refine A0 fun γ=>?_|refine C1 ?_|refine C2 ?_|refine C3 ?_|refine C4 ?_|refine C5 ?_|refine C6 ?_|refine C7 ?_|refine D0 fun γs=>?_|refine A1 fun γs=>?_|refine N2 ?_|refine N3 ?_|refine N1 ?_);refine kW ?_)|(refine CondP.dec (fun _=>?_) (fun _=>?_)<;>refine kW ?_)|(refine CondP.intro (fun _=>?_) (fun _=>?_)<;>refine kW ?_))))
 all_goals (refine .of ?_;show AV.val (Value.bool _)=AV.val (Value.bool _);congr 1;unfold nlt;simp_all<;>omega)
theorem JEF (l:List UInt8)(p:Nat)(hp:p<l.length)(h:128≤(l[p]).toNat):128≤(runeAt (ofL l) p).1:=by
 unfold runeAt Utf8.decode
 have e:((ofL l).get! (p+0)).toNat=(l[p]).toNat:=by
  show (l.toArray[p+0]!).toNat=_
  rw[Nat.add_zero,getElem!_pos _ p (by simpa using hp)];simp
 simp only[e];rw[if_neg (by omega)];unfold Utf8.runeError;split
 ·split<;>simp<;>omega
 ·split
  ·split
   ·rename_i h2;simp at h2 ⊢;omega
   ·simp
  ·split
   ·split
    ·rename_i h2;simp at h2 ⊢;omega
    ·simp
   ·simp
def fiL:List UInt8→Int→Int
 |[],_=>-1
 |c::r,i=>if nlt c.toNat then i else fiL r (i+1)
theorem J7o (k:Nat)(l:List UInt8)(hl:l.length<2^62)(hk:J03 Tryz.prog k)(hf:∀ n:Int,PX k [.val (.int .i32 n)] (encB (nlt n))) :
  PX 398 [encS (ofL l),.fn (.func k) [] [],encB true] (encI (fiL l 0)):=by
 refine PZ Tryz.func398 rfl ?_;generalize hF:fiL l 0=F;refine kWS ?_;intros;refine LoopP.intro (fun m σ H=>∃ g p,m=l.length-p∧p≤l.length∧fiL (l.drop p) p=F∧σ=fr [(0,encS (ofL l)),(1,.fn (.func k) [] []),(2,encB true),(10,.it 10 g)]∧H=hp [(10,g,⟨0,0,[encS (ofL l),encI p]⟩)]) ?_ ?_
 ·exact .intro <| W.of ⟨_,_,0,rfl,Nat.zero_le _,hF,rfl,rfl⟩ ⟨rfl,rfl,rfl,rfl,trivial⟩ ⟨rfl,trivial⟩
 ·rintro m σ H ⟨g,p,rfl,hp,hF,rfl,rfl⟩;refine kWS ?_;intros;rw[J0K];refine CondP.dec (fun h=>?_) (fun h=>?_)<;>refine kW ?_
  ·have hp':p<l.length:=by omega
   rw[List.drop_eq_getElem_cons hp'] at hF;unfold fiL at hF
   by_cases h8:(l[p]).toNat<128
   ·have hr:runeAt (ofL l) (Int.toNat p)=((l[p]).toNat,1):=J6b l p hp' h8;rw[hr];generalize l[p]=c at hF h8 ⊢;refine kS ?_;intros;refine CallP.flat [] _ hk (hf _) rfl ?_;refine kWS ?_;intros;refine CondP.intro (fun h1=>?_) (fun h1=>?_)<;>refine kW ?_
    ·have h1':nlt c.toNat=true:=by simpa using h1
     rw[if_pos h1'] at hF;refine kS ?_;intros;exact .of (by rw[← hF];rfl)
    ·have h1':nlt c.toNat=false:=by simpa using h1
     rw[if_neg (by rw[h1'];decide)] at hF;refine kS ?_;intros
     exact .intro <| W.of ⟨_,by omega,_,p+1,rfl,hp',hF,rfl,rfl⟩ ⟨rfl,rfl,rfl,rfl,trivial⟩ ⟨rfl,trivial⟩
   ·have hr:=JEF l p hp' (by omega);have hn:nlt (l[p]).toNat=true:=by unfold nlt;simp;omega
    rw[if_pos hn] at hF;have hr2:nlt ((runeAt (ofL l) (Int.toNat p)).1:Nat)=true:=by unfold nlt;rw[Int.toNat_natCast];simp;omega
    refine kS ?_;intros;refine CallP.flat [] _ hk (hf _) rfl ?_;refine kW ?_;rw[hr2];refine kWS ?_;intros;exact .of (by rw[← hF];rfl)
  ·rw[List.drop_eq_nil_of_le (by omega)] at hF;refine kS ?_;intros;exact .of (by rw[← hF];rfl)
theorem J3u (k:Nat)(l:List UInt8)(hl:l.length<2^62)(hk:J03 Tryz.prog k)(hf:∀ n:Int,PX k [.val (.int .i32 n)] (encB (nlt n))) :
  PX 388 [encS (ofL l),.fn (.func k) [] []] (encI (fiL l 0)):=by
 refine PZ Tryz.func388 rfl ?_;refine kWS ?_;intros;refine CallP.flat [] _ c398 (J7o k l hl hk hf) rfl ?_;refine kWS ?_;intros;exact .of rfl
theorem J4f (k:Nat)(l:List UInt8)(hl:l.length<2^62)(hk:J03 Tryz.prog k)(hf:∀ n:Int,PX k [.val (.int .i32 n)] (encB (nlt n))) :
  PX 399 [encS (ofL l),.fn (.func k) [] []] (encB (decide (0≤fiL l 0))):=by
 refine PZ Tryz.func399 rfl ?_;refine kWS ?_;intros;refine CallP.flat [] _ c388 (J3u k l hl hk hf) rfl ?_;refine kWS ?_;intros;exact .of rfl
def symF (l:List UInt8):Bool:=decide (l≠[])&&decide (l.length≤8)&&!decide (0≤fiL l 0)
theorem J9n (l:List UInt8)(hl:l.length<2^62):PX 390 [encS (ofL l)] (encB (symF l)):=by
 refine PZ Tryz.func390 rfl ?_;generalize hF:symF l=F;unfold symF at hF;have hn:=JAb l;have hsz:=J0K l;refine kWS ?_;intros;refine CondP.dec (fun h1=>?_) (fun h1=>?_)<;>refine kW ?_
 ·have h1':=hn.1 h1;subst h1';refine kS ?_;intros;exact .of (by rw[← hF];rfl)
 ·rw[decide_eq_true (show l≠[] from fun e=>h1 (hn.2 e)),Bool.true_and] at hF;refine kS ?_;intros;rw[hsz];refine CondP.dec (fun h=>?_) (fun h=>?_)<;>refine kW ?_
  ·rw[decide_eq_true (by omega),Bool.true_and] at hF;refine kS ?_;intros;refine CallP.flat [] _ c399 (J4f 400 l hl c400 JCW) rfl ?_;refine kWS ?_;intros;exact .of (by rw[← hF];rfl)
  ·rw[decide_eq_false (by omega),Bool.false_and] at hF;refine kS ?_;intros;exact .of (by rw[← hF];rfl)
def cntL (l:List UInt8)(c:UInt8):Nat:=l.count c
theorem JHE (l:List UInt8)(n:Nat)(h:n<256):J2k Tryz.prog 405 [encS (ofL l),.val (.int .u8 n)] (.int .i64 (cntL l (UInt8.ofNat n))):=by
 refine ⟨rfl,fun κ w N vs hv=>?_⟩;rw[vrs2 hv];have h1:Tryz.prog.funcs[405]?=some Tryz.f405:=Tryz.func405;have h2:(Tryz.f405.name == "runtime.NumGoroutine")=false:=by kernel_rfl
 have h3:Tryz.f405.body.isNone=true:=by kernel_rfl
 have h4:Extern.findNext Tryz.f405=none:=by kernel_rfl
 have h5:Extern.find Tryz.f405=some Extern.BytealgCount.count:=by kernel_rfl
 simp only[callFunc,Sem.run_bind,run_program,Result.andThen_ok,h1,h2,h3,h4,h5,run_mark,if_true,Bool.false_eq_true,if_false];rw[show (Extern.BytealgCount.count #[.string (ofL l),.int .u8 n]).run Tryz.prog w=_ from Lib.run_countString (ofL l) n w,Int.toNat_natCast];rfl
theorem JHn (l:List UInt8)(c:UInt8)(hl:l.length<2^62):PX 396 [encS (ofL l),encS (b1 c)] (encI (cntL l c)):=by
 refine PZ Tryz.func396 rfl ?_;have hb:(b1 c).size=1:=rfl;have hc:byteAt (b1 c) (Int.toNat 0)=(c.toNat:Int):=rfl;have he:=JHE l c.toNat c.toNat_lt;rw[UInt8.ofNat_toNat] at he;refine kWS ?_;intros;rw[hc];refine CallP.ext _ he ?_;refine kWS ?_;intros;exact .of rfl
theorem JG3 (s:ByteArray)(c:UInt8):PX 397 [encS s,encS (b1 c)] (encI (idxB s c)):=by
 refine PZ Tryz.func397 rfl ?_;refine kWS ?_;intros;refine CallP.flat [] _ c350 (JCD s c) rfl ?_;refine kWS ?_;intros;exact .of rfl
def splitL:List UInt8→List (List UInt8)
 |[]=>[[]]
 |c::r=>if c=46 then []::splitL r else match splitL r with
   |x::xs=>(c::x)::xs
   |[]=>[[c]]
theorem J5A (c:UInt8)(r:List UInt8):splitL (c::r)=if c=46 then []::splitL r else match splitL r with
 |x::xs=>(c::x)::xs
 |[]=>[[c]]:=rfl
theorem JE4 (l:List UInt8):splitL l≠[]:=by
 cases l with
 |nil=>simp[splitL]
 |cons c r=>
   unfold splitL;split
   ·simp
   ·split<;>simp
theorem JCZ (l:List UInt8):(splitL l).length=cntL l 46+1:=by
 induction l with
 |nil=>rfl
 |cons c r ih=>
   unfold splitL cntL;rw[List.count_cons];have hne:=JE4 r
   by_cases hc:c=46
   ·rw[if_pos hc];subst hc;simp[ih,cntL]
   ·rw[if_neg hc]
    cases hr:splitL r with
    |nil=>exact absurd hr hne
    |cons x xs=>
      rw[hr] at ih;unfold cntL at ih;simp only[List.length_cons] at ih ⊢;rw[if_neg (by simpa using hc)];omega
theorem JCY (l:List UInt8):(idxB (ofL l) 46<0→splitL l=[l]∧cntL l 46=0)∧(0≤idxB (ofL l) 46→splitL l=l.take (idxB (ofL l) 46).toNat::splitL (l.drop ((idxB (ofL l) 46).toNat+1))∧cntL l 46=cntL (l.drop ((idxB (ofL l) 46).toNat+1)) 46+1):=by
 induction l with
 |nil=>exact ⟨fun _=>⟨rfl,rfl⟩,by decide⟩
 |cons c r ih=>
   rw[J8u,J5A]
   by_cases hc:c=46
   ·subst hc;simp[cntL]
   ·rw[if_neg hc,if_neg hc];obtain ⟨h1,h2⟩:=ih;have hcnt:cntL (c::r) 46=cntL r 46:=by unfold cntL;rw[List.count_cons,if_neg (by simpa using hc)];rfl
    rw[hcnt]
    by_cases hi:idxB (ofL r) 46<0
    ·rw[if_pos hi];obtain ⟨h3,h4⟩:=h1 hi;rw[h3];exact ⟨fun _=>⟨rfl,h4⟩,fun h=>by omega⟩
    ·rw[if_neg hi];obtain ⟨h3,h4⟩:=h2 (by omega);refine ⟨fun h=>by omega,fun _=>?_⟩;rw[show (idxB (ofL r) 46+1).toNat=(idxB (ofL r) 46).toNat+1 by omega,h3];refine ⟨?_,h4⟩;rw[List.take_succ_cons,List.drop_succ_cons]
def encL (l:List UInt8):AV:=encS (ofL l)
theorem repS (n:Nat):List.replicate n (mkEl { size:=1,bytes:=16,zero:=[Value.string ⟨#[]⟩],kind:=Kd.str })=(List.replicate n ([]:List UInt8)).map encL:=by rw[List.map_replicate];rfl
theorem setL (xs:List (List UInt8))(v:List UInt8)(n i:Nat)(h:i=xs.length):((xs++List.replicate (n+1) []).map encL).set i (encL v)=((xs++[v])++List.replicate n []).map encL:=by
 subst h;rw[List.replicate_succ,JEC encL _ _ v _ rfl,JI3];simp
theorem endL {S:List Nat}{H:Hp}{k:Nat}{L:List AV}{n:Nat}{xs:List (List UInt8)}(h:L=xs.map encL)(hn:n=xs.length):AV.sl 1 (((L.drop 0).take n).map (J0N (J05 S H k)))=.sl 1 (xs.map encL):=by
 subst h;rw[J19 _ _ _ _ hn fun x=>by cases k<;>rfl]
theorem JAf (l:List UInt8)(hl:l.length<2^40):PX 387 [encS (ofL l),encS (b1 46),encI 0,encI (-1)] (.sl 1 ((splitL l).map encL)):=by
 refine PC [31] Tryz.func387 rfl (by rfl) rfl ?_;have hb:(b1 46).size=1:=rfl;have hsz:=J0K l;have hcl:cntL l 46≤l.length:=List.count_le_length;refine kWS ?_;intros;refine CallP.flat [] _ c396 (JHn l 46 (by omega)) rfl ?_;refine kWS ?_;intros;have e0:(min ((cntL l 46:Int)+1) (((ofL l).size:Int)+1)).toNat=cntL l 46+1:=by rw[hsz];omega
 have e1:min ((cntL l 46:Int)+1) (((ofL l).size:Int)+1)-1=cntL l 46:=by rw[hsz];omega
 simp only[e0,e1]
 refine LoopP.intro (fun k σ H=>∃ g,∃ xs:List (List UInt8),∃ m:List UInt8,k=cntL m 46∧splitL l=xs++splitL m∧xs.length+cntL m 46=cntL l 46∧m.length≤l.length ∧
  σ=fr [(0,encS (ofL m)),(1,encS (b1 46)),(2,encI 0),(3,encI (cntL l 46)),(9,.own 31 g 0 (cntL l 46+1)),(10,encI xs.length)] ∧
  H=hp [(31,g,⟨9,1,(xs++List.replicate (cntL m 46+1) []).map encL⟩)]) ?_ ?_
 ·refine .intro <| W.of ⟨_,_,[],l,rfl,rfl,by simp,Nat.le_refl _,rfl,rfl⟩ ⟨rfl,rfl,rfl,rfl,rfl,rfl,trivial⟩ ⟨?_,trivial⟩
  show some (_,(⟨_,_,_⟩:Blk))=some (_,⟨_,_,_⟩)
  rw[List.nil_append,← repS]
 ·rintro k σ H ⟨g,xs,m,rfl,hs,hc,hm,rfl,rfl⟩;have hszm:=J0K m;have hli:=@JEm (ofL m) 46;obtain ⟨hi1,hi2⟩:=JCY m;refine kWS ?_;intros;refine CondP.dec (fun h=>?_) (fun h=>?_)<;>refine kW ?_
  ·refine kS ?_;intros;refine CallP.flat [] _ c397 (JG3 (ofL m) 46) rfl ?_
   have hpos:0≤idxB (ofL m) 46:=by
    rcases Int.lt_or_le (idxB (ofL m) 46) 0 with h'|h'
    ·have:=(hi1 h').2;omega
    ·exact h'
   obtain ⟨hsp,hcn⟩:=hi2 hpos;generalize idxB (ofL m) 46=j at *;refine kWS ?_;intros;refine CondP.neg (by omega) ?_;refine kWS ?_;intros;rw[Nat.zero_add,Int.toNat_natCast,J2D encL _ _ (by simp)];refine kWS ?_;intros
   refine .intro <| W.of ⟨cntL (m.drop (j.toNat+1)) 46,by omega,g,xs++[m.take j.toNat],m.drop (j.toNat+1),rfl,by rw[hs,hsp];simp,by simp;omega,by simp<;>omega,rfl,rfl⟩ ⟨?_,rfl,rfl,rfl,rfl,?_,trivial⟩ ⟨?_,trivial⟩
   ·show encS ((ofL m).extract (j+(((b1 46).size:Nat):Int)).toNat (ofL m).size)=encS _
    rw[hb,J0S,hszm,List.take_length,show (j+((1:Nat):Int)).toNat=j.toNat+1 by omega]
   ·show AV.val (.int .i64 _)=AV.val (.int .i64 _)
    congr 2;simp
   ·have hv:encS ((ofL m).extract 0 (j+0).toNat)=encL (m.take j.toNat):=by
     rw[J0S,Int.add_zero,List.drop_zero];rfl
    show some (g,(⟨9,1,List.set _ _ (encS ((ofL m).extract 0 (j+0).toNat))⟩:Blk))=_
    rw[hv,setL _ _ _ _ rfl,hcn]
  ·have hc0:cntL m 46=0:=by omega
   have hsm:splitL m=[m]:=by
    rcases Int.lt_or_le (idxB (ofL m) 46) 0 with h'|h'
    ·exact (hi1 h').1
    ·have:=(hi2 h').2;omega
   rw[hsm] at hs;rw[hc0];refine kS ?_;intros;rw[Nat.zero_add,Int.toNat_natCast,J2D encL _ _ (by simp)];refine kWS ?_;intros;refine .of ?_;rw[hs];refine endL (L:=((xs++List.replicate (0+1) []).map encL).set _ (encL m)) (xs:=xs++[m]) ?_ ?_
   ·exact (setL _ _ 0 _ (by omega)).trans (by simp)
   ·show ((xs.length:Int)+1).toNat-0=_
    rw[List.length_append,List.length_singleton];omega
theorem JHi (l:List UInt8)(hl:l.length<2^40):PX 379 [encS (ofL l),encS (b1 46)] (.sl 1 ((splitL l).map encL)):=by
 refine PZ Tryz.func379 rfl ?_;refine kWS ?_;intros;refine J00 [] _ c387 (JAf l hl) ?_;refine kWS ?_;intros;exact .of rfl
def fitsF (n d:Int):Bool:=!decide (sgn n=0)&&decide (nd n≤9)&&decide (nd d≤9)
theorem JJF (n d:Int)(hn:zl n<2^36)(hd:zl d<2^36):PX 392 [encQ n d] (encB (fitsF n d)):=by
 refine PZ Tryz.func392 rfl ?_;generalize hF:fitsF n d=F;unfold fitsF at hF;have hs:=J4y n d;have h1:=JJk n d;have h2:=JJq n d;generalize sgn n=s at hF hs;unfold encQ at hs h1 h2 ⊢;refine kWS ?_;intros;refine CallP.flat [] _ c111 hs rfl ?_;refine kWS ?_;intros;refine CondP.dec (fun h=>?_) (fun h=>?_)<;>refine kW ?_
 ·rw[decide_eq_true h] at hF;refine kS ?_;intros;exact .of (by rw[← hF];rfl)
 rw[decide_eq_false h,Bool.not_false,Bool.true_and] at hF;refine kS ?_;intros;refine J00 [] _ c402 h1 ?_;refine kWS ?_;intros;refine CallP.flat [] _ c217 (J2l n hn) rfl ?_;refine kWS ?_;intros;refine CondP.dec (fun h=>?_) (fun h=>?_)<;>refine kW ?_
 ·rw[decide_eq_true (by omega),Bool.true_and] at hF;refine kS ?_;intros;refine J00 [] _ c403 h2 ?_;refine kWS ?_;intros;refine CallP.flat [] _ c217 (J2l d hd) rfl ?_;refine kWS ?_;intros;refine .of ?_;rw[← hF];show AV.val (.bool _)=AV.val (.bool _)
  congr 2
  exact decide_eq_decide.2 (by omega)
 ·rw[decide_eq_false (by omega),Bool.false_and] at hF;refine kS ?_;intros;exact .of (by rw[← hF];rfl)
def wrT (n d:Int):List Nat:=if qT n d=[49] then [] else if d=1 then qT n d else 40::qT n d++[41]
theorem JIx {a b:List Nat}(ha:∀ c∈a,c<256)(hb:∀ c∈b,c<256)(h:ofL (a.map UInt8.ofNat)=ofL (b.map UInt8.ofNat)):a=b:=by
 have h1:=congrArg (fun s:ByteArray=>s.data.toList.map UInt8.toNat) h;simp only[ofL,List.map_map] at h1
 have key:∀ l:List Nat,(∀ c∈l,c<256)→l.map (UInt8.toNat∘UInt8.ofNat)=l:=by
  intro l hl;refine (List.map_congr_left fun c hc=>?_).trans (List.map_id l);have:=hl c hc;simp;omega
 rwa [key a ha,key b hb] at h1
theorem decT_lt (n:Nat):∀ c∈decT n,c<256:=by
 intro c hc;have:=List.all_eq_true.1 (J3J n) c hc;unfold isDg at this;simp at this;omega
theorem JIn (z:Int):∀ c∈sT z,c<256:=by
 intro c hc;unfold sT at hc;split at hc
 ·rcases List.mem_cons.1 hc with h | h
  ·omega
  ·exact decT_lt _ c h
 ·exact decT_lt _ c hc
theorem JKy (n d:Int):∀ c∈qT n d,c<256:=by
 intro c hc;unfold qT at hc;split at hc
 ·exact JIn _ c hc
 ·rcases List.mem_append.1 hc with h | h
  ·exact JIn _ c h
  ·rcases List.mem_cons.1 h with h | h
   ·omega
   ·exact JIn _ c h
theorem JKz (n d:Int):(qT n d).length≤9*zl n+9*zl d+5:=by
 have s3:=JGe n;have s4:=JGe d;unfold qT;split
 ·omega
 ·simp;omega
theorem JGN (n d:Int)(hn:zl n<2^36)(hd:zl d<2^36):PX 393 [encQ n d] (encT (wrT n d)):=by
 refine PZ Tryz.func393 rfl ?_;have hs:=J31 n d hn hd;have hi:=J6J n d;have hle:=JKz n d;have hlt:=JKy n d;have hsz:=J3b (qT n d);generalize hF:wrT n d=F;unfold wrT at hF
 have h1:ofL ((qT n d).map UInt8.ofNat)=⟨#[49]⟩↔qT n d=[49]:=by
  constructor
  ·intro h;exact JIx hlt (by simp) (h.trans (show (⟨#[49]⟩:ByteArray)=ofL ([49].map UInt8.ofNat) from rfl))
  ·intro h;rw[h];rfl
 generalize qT n d=q at *;unfold encQ at hs hi ⊢;refine kWS ?_;intros;refine CallP.flat [] _ c150 hs rfl ?_;refine kWS ?_;intros;refine CondP.dec (fun h=>?_) (fun h=>?_)<;>refine kW ?_
 ·rw[if_pos (h1.1 h)] at hF;refine kS ?_;intros;exact .of (by rw[← hF];rfl)
 rw[if_neg (fun e=>h (h1.2 e))] at hF;refine kS ?_;intros;refine CallP.flat [] _ c327 hi rfl ?_;refine kWS ?_;intros;refine CondP.dec (fun h2=>?_) (fun h2=>?_)<;>refine kW ?_
 ·rw[if_pos h2] at hF;refine kS ?_;intros;exact .of (by rw[← hF];rfl)
 rw[if_neg h2] at hF;have s5:(⟨#[40]⟩:ByteArray).size=1:=rfl;have s6:(⟨#[41]⟩:ByteArray).size=1:=rfl;refine kS ?_;intros;rw[ByteArray.size_append];refine kS ?_;intros;refine .of ?_;rw[← hF];have e1:(⟨#[40]⟩:ByteArray)=ofL (List.map UInt8.ofNat [40]):=rfl;have e2:(⟨#[41]⟩:ByteArray)=ofL (List.map UInt8.ofNat [41]):=rfl;show encS _=encS _
 rw[e1,e2,J4p,J4p];rfl
theorem JJj:PX 142 [encI 1] (encQ 1 1):=by
 refine PZ Tryz.func142 rfl ?_;refine kWS ?_;intros;refine J00 [] _ c216 Of1_ok ?_;refine kWS ?_;intros;refine J00 [] _ c216 Of1_ok ?_;refine kWS ?_;intros;exact .of rfl
theorem JKM (l:List UInt8):∀ i:Int,0≤i→fiL l i=-1∨(i≤fiL l i∧fiL l i<i+l.length):=by
 induction l with
 |nil=>intro i hi;left;rfl
 |cons c r ih=>
   intro i hi;unfold fiL;split
   ·right;simp;omega
   ·rcases ih (i+1) (by omega) with h | h
    ·left;exact h
    ·right;simp;omega
def facT (s:ByteArray)(j:Nat):ByteArray:=
 if (cutP (s.extract j s.size) (b1 40)).2 then J8S (cutP (s.extract j s.size) (b1 40)).1 (b1 41) else s.extract j s.size
def facF (s:ByteArray):ByteArray×Option (Int×Int)×Bool:=
 if fiL s.data.toList 0<0 then (s,some (1,1),symF s.data.toList)
 else (s.extract 0 (fiL s.data.toList 0).toNat,(J08 (facT s (fiL s.data.toList 0).toNat).data.toList).1,
  (J08 (facT s (fiL s.data.toList 0).toNat).data.toList).2&&symF (s.extract 0 (fiL s.data.toList 0).toNat).data.toList&&match (J08 (facT s (fiL s.data.toList 0).toNat).data.toList).1 with
    |some (n,d)=>fitsF n d&&decide (ofL ((wrT n d).map UInt8.ofNat)=s.extract (fiL s.data.toList 0).toNat s.size)
    |none=>false)
theorem J2w (s:ByteArray)(a b:Nat):(s.extract a b).size≤s.size:=by
 have:=J0S s.data.toList a b;rw[J0v] at this;rw[this,J0K,List.length_drop,List.length_take];show _≤s.data.toList.length
 omega
theorem J9S (s p:ByteArray):(cutP s p).1.size≤s.size:=by
 unfold cutP;split
 ·exact J2w ..
 ·exact Nat.le_refl _
theorem JCU (s p:ByteArray):(J8S s p).size≤s.size:=by
 unfold J8S;split
 ·exact J2w ..
 ·exact Nat.le_refl _
theorem JEx (s:ByteArray)(j:Nat):(facT s j).size≤s.size:=by
 unfold facT;split
 ·exact Nat.le_trans (JCU ..) (Nat.le_trans (J9S ..) (J2w ..))
 ·exact J2w ..
theorem JEU {l:List UInt8}{n d:Int}(h:(J08 l).1=some (n,d)):zl n≤l.length∧zl d≤l.length+1:=by
 obtain ⟨hp1,hp2⟩:=JBX l;have h1:zl 1=1:=by unfold zl;rw[show (1:Int).natAbs=1 from rfl,J5v hB9 (by omega) (by unfold B9;omega)];rfl
 unfold J08 at h;split at h
 ·cases h
 ·rename_i x hx;have:=J3Q hx;split at h
  ·cases h;omega
  ·split at h
   ·cases h
   ·rename_i y hy;have:=J3Q hy;split at h<;>cases h
    omega
theorem JAY {l:List UInt8}(h:(J08 l).2=true):∃ n d,(J08 l).1=some (n,d):=by
 unfold J08 at *;split
 ·rename_i hx;rw[hx] at h;cases h
 ·rename_i x hx;rw[hx] at h;simp only at h;split
  ·exact ⟨_,_,rfl⟩
  ·rename_i hy;rw[hy] at h;simp only at h;split
   ·rename_i hz;rw[hz] at h;cases h
   ·rename_i y hz;rw[hz] at h;simp only at h;split
    ·rename_i h1;rw[if_pos h1] at h;cases h
    ·exact ⟨_,_,rfl⟩
theorem JEw (s:ByteArray)(hs:s.size<2^35):PX 380 [encS s] (.tup [encS (facF s).1,qAV (facF s).2.1,encB (facF s).2.2]):=by
 refine PZ Tryz.func380 rfl ?_;have hi:=J3u 389 s.data.toList (by exact Nat.lt_trans hs (by decide)) c389 JD2;rw[J0v] at hi;have hj:=JKM s.data.toList 0 (by omega)
 have hj2:fiL s.data.toList 0≤s.size:=by
  have:s.data.toList.length=s.size:=rfl;omega
 generalize hF:facF s=F;unfold facF at hF;generalize fiL s.data.toList 0=j at *;refine kWS ?_;intros;refine CallP.flat [] _ c388 hi rfl ?_;refine kWS ?_;intros;refine CondP.dec (fun h=>?_) (fun h=>?_)<;>refine kW ?_
 ·rw[if_pos h] at hF;have hsy:=J9n s.data.toList (by exact Nat.lt_trans hs (by decide));rw[J0v] at hsy;refine kS ?_;intros;refine J00 [] _ c142 JJj ?_;refine kWS ?_;intros;refine CallP.flat [] _ c390 hsy rfl ?_;refine kWS ?_;intros;exact .of (by rw[← hF];rfl)
 rw[if_neg h] at hF;have he:=J2w s j.toNat s.size;have he2:=J2w s 0 j.toNat;have ht:=JEx s j.toNat;have hcs:=J9S (s.extract j.toNat s.size) (b1 40);have hcp:=J4Z (s.extract j.toNat s.size) (b1 40) (by omega) (by decide);have htx:=J8G (cutP (s.extract j.toNat s.size) (b1 40)).1 (b1 41) (by omega) (by decide);have hpq:=J1R (facT s j.toNat).data.toList (by show (facT s j.toNat).size<_;omega);rw[J0v,J6m] at hpq;have hzl:=@JEU (facT s j.toNat).data.toList;have hps:=@JAY (facT s j.toNat).data.toList;have hlen:(facT s j.toNat).data.toList.length<2^35:=by show (facT s j.toNat).size<_;omega
 generalize hp:J08 (facT s j.toNat).data.toList=p at hF hpq hzl hps;have hsy:=J9n (s.extract 0 j.toNat).data.toList (by show (s.extract 0 j.toNat).size<_;omega);rw[J0v] at hsy;generalize hsym:symF (s.extract 0 j.toNat).data.toList=sy at hF hsy;refine kS ?_;intros;refine J00 [] _ c302 hcp ?_
 have hfT:facT s j.toNat=if (cutP (s.extract j.toNat s.size) (b1 40)).2 then J8S (cutP (s.extract j.toNat s.size) (b1 40)).1 (b1 41) else s.extract j.toNat s.size:=rfl
 generalize cutP (s.extract j.toNat s.size) (b1 40)=cp at htx hfT;refine kWS ?_;intros;refine CondP.intro (fun h1=>?_) (fun h1=>?_)<;>refine kX ?_
 case' refine_1=>
  rw[if_pos h1] at hfT;rw[← hfT] at htx;refine kS ?_;intros;refine CallP.flat [] _ c391 htx rfl ?_;refine kX ?_;refine kZ ?_;intros
 case' refine_2=>
  rw[if_neg (by rw[h1];decide)] at hfT
 all_goals
  refine J0e (W.of (l:=[(0,encS s),(2,encS ⟨#[]⟩),(3,.op 3 _ 0 0),(4,encB false),(5,encI j),(6,encS (facT s j.toNat))]) (m:=[(3,_,⟨104,4,[nilQ]⟩)]) ?_ ⟨rfl,rfl,rfl,rfl,rfl,congrArg encS ?_,trivial⟩ ⟨rfl,trivial⟩)
 case' refine_1.refine_2=>exact rfl
 case' refine_2.refine_2=>exact hfT.symm
 all_goals
  clear hfT htx hcp hcs h1 cp;generalize facT s j.toNat=tt at *;obtain ⟨o,b⟩:=p;refine kWS ?_;intros;refine J00 [] _ c134 hpq ?_
  cases b with
  |false=>
    replace hF:(s.extract 0 j.toNat,o,false)=F:=hF
    rcases J1M o with ho|⟨n,d,ho⟩
    all_goals
     simp only[ho];refine kWS ?_;intros;exact .of (by rw[← hF,ho];rfl)
  |true=>
    obtain ⟨n,d,ho⟩:=hps rfl;replace ho:o=some (n,d):=ho;subst ho;obtain ⟨z1,z2⟩:=hzl rfl;have z1':zl n<2^36:=by omega
    have z2':zl d<2^36:=by omega
    have hfi:=JJF n d z1' z2';have hwr:=JGN n d z1' z2';replace hF:(s.extract 0 j.toNat,some (n,d),true&&sy&&(fitsF n d&&decide (ofL ((wrT n d).map UInt8.ofNat)=s.extract j.toNat s.size)))=F:=hF;rw[Bool.true_and] at hF;generalize fitsF n d=fi at hfi hF;unfold encT at hwr;generalize ofL ((wrT n d).map UInt8.ofNat)=wr at hwr hF;refine kWS ?_;intros;refine CallG.intro _ c390 hsy ?_;refine kWS ?_;intros;refine CondP.intro (fun h1=>?_) (fun h1=>?_)<;>refine kW ?_
    case' refine_2=>
     rw[h1,Bool.false_and] at hF;refine kS ?_;intros;exact .of (by rw[← hF];rfl)
    rw[h1,Bool.true_and] at hF;refine kS ?_;intros;refine CallG.intro _ c392 hfi ?_;refine kWS ?_;intros;refine CondP.intro (fun h2=>?_) (fun h2=>?_)<;>refine kW ?_
    case' refine_2=>
     rw[h2,Bool.false_and] at hF;refine kS ?_;intros;exact .of (by rw[← hF];rfl)
    rw[h2,Bool.true_and] at hF;refine kS ?_;intros;refine CallG.intro _ c393 hwr ?_;refine kWS ?_;intros;exact .of (by rw[← hF];rfl)
def leqS (a b:ByteArray):Bool:=Op.bytesLess a.toList b.toList||decide (a=b)
def J55:List (List UInt8)→ByteArray→Bool
 |[],_=>true
 |f::r,last=>(facF (ofL f)).2.2&&!leqS (facF (ofL f)).1 last&&J55 r (facF (ofL f)).1
theorem JCX (l:List UInt8):∀ f∈splitL l,f.length≤l.length:=by
 induction l with
 |nil=>intro f hf;simp[splitL] at hf;subst hf;simp
 |cons c r ih=>
   intro f hf;rw[J5A] at hf;split at hf
   ·rcases List.mem_cons.1 hf with h | h
    ·subst h;simp
    ·have:=ih f h;simp;omega
   ·split at hf
    ·rename_i x xs hr
     rcases List.mem_cons.1 hf with h|h
     ·subst h;have:=ih x (by rw[hr];simp);simp;omega
     ·have:=ih f (by rw[hr];simp[h]);simp;omega
    ·simp at hf;subst hf;simp
theorem JHC (s:ByteArray)(ks:List ByteArray):∃ r,J10 (J0h T 9 (encS s)) (ks.map encS)=some r:=by
 obtain ⟨r,h,_⟩:=J1J (β:=Unit) (fun _=>.dead) s (ks.map fun k=>(k,()));refine ⟨r,?_⟩;rw[List.map_map] at h;exact h
def resU (s:ByteArray):AV:=
 if s=⟨#[49]⟩ then .tup [.dead,encB true]
 else if J55 (splitL s.data.toList) ⟨#[]⟩ then .tup [.dead,encB (decide (s.size≤80))]
 else .tup [.val (.map none),encB false]
theorem JFx (s:ByteArray)(hs:s.size<2^35):PX 365 [encS s] (resU s):=by
 refine PZ Tryz.func365 rfl ?_;have hsp:=JHi s.data.toList (by show s.size<_;omega);rw[J0v] at hsp;have hsl:=JCX s.data.toList;have hsc:=JCZ s.data.toList;have hcc:cntL s.data.toList 46≤s.size:=List.count_le_length
 have hfl:∀ f∈splitL s.data.toList,(ofL f).size<2^35:=fun f hf=>by
  have:=hsl f hf;have e:s.data.toList.length=s.size:=rfl;rw[J0K];omega
 clear hsl;generalize hF:resU s=F;unfold resU at hF;generalize splitL s.data.toList=fs at *;refine kWS ?_;intros;refine CondP.dec (fun h=>?_) (fun h=>?_)<;>refine kW ?_
 ·rw[if_pos h] at hF;refine kS ?_;intros;exact .of (by rw[← hF];rfl)
 rw[if_neg h] at hF;refine kS ?_;intros;refine J00 [] _ c379 hsp ?_;refine kWS ?_;intros
 refine LoopP.intro (fun m σ H=>∃ g i last,∃ kl vs:List AV,(∃ ks:List ByteArray,kl=ks.map encS)∧m=fs.length-i∧i≤fs.length ∧
  (if J55 (fs.drop i) last then AV.tup [.dead,encB (decide (s.size≤80))] else .tup [.val (.map none),encB false])=F ∧
  σ=fr [(0,encS s),(4,.om 11 g),(5,encS last),(16,.sl 1 (fs.map encL)),(17,encI fs.length),(18,encI i)] ∧
  H=hp [(11,g,⟨384,0,[.mp kl vs]⟩)]) ?_ ?_
 ·refine .intro <| W.of ⟨_,_,0,_,[],[],⟨[],rfl⟩,rfl,Nat.zero_le _,hF,rfl,rfl⟩ ⟨rfl,rfl,rfl,rfl,?_,rfl,trivial⟩ ⟨rfl,trivial⟩
  show AV.val (.int .i64 _)=AV.val (.int .i64 _)
  rw[List.length_map]
 ·clear hF;rintro m σ H ⟨g,i,last,kl,vs,⟨ks,rfl⟩,rfl,hi,hF,rfl,rfl⟩;refine kWS ?_;intros;refine CondP.dec (fun h=>?_) (fun h=>?_)<;>refine kW ?_
  ·have hi':i<fs.length:=by omega
   rw[List.drop_eq_getElem_cons hi'] at hF;unfold J55 at hF;have hfa:=JEw (ofL fs[i]) (hfl _ (List.getElem_mem hi'));generalize facF (ofL fs[i])=fa at hF hfa;obtain ⟨nm,o,b⟩:=fa;refine kR ?_;intros;generalize fs[i]=f at hfa ⊢;refine J00 [] _ c380 hfa ?_;obtain ⟨q,hq⟩:∃ q,q=qAV o:=⟨_,rfl⟩;have hq2:=J1M o;rw[← hq] at hq2;replace hF:(if (b&&!leqS nm last&&J55 (fs.drop (i+1)) nm) then AV.tup [.dead,encB (decide (s.size≤80))] else .tup [.val (.map none),encB false])=F:=hF;show J1Y _ _ _ (put _ _ (.tup [encS nm,qAV o,encB b])) _ _
   rw[← hq]
   rcases hq2 with rfl|⟨n,d,rfl⟩
   all_goals
    refine kWT ?_;intros
    cases b with
    |false=>
      replace hF:AV.tup [.val (.map none),encB false]=F:=hF;refine kT ?_;intros;exact .of (by rw[← hF];rfl)
    |true=>
      rw[Bool.true_and] at hF;refine kT ?_;intros;refine CondP.intro (fun h2=>?_) (fun h2=>?_)<;>refine kW ?_
      ·rw[show leqS nm last=true from h2] at hF;replace hF:AV.tup [.val (.map none),encB false]=F:=hF;refine kT ?_;intros;exact .of (by rw[← hF];rfl)
      rw[show leqS nm last=false from h2,Bool.not_false,Bool.true_and] at hF;refine kT ?_;intros;refine J1Z [(5,false),(6,true)] (by kernel_rfl) ?_;refine kWY ?_;intros;refine Need.intro keyst9 ?_;refine kWY ?_;intros;obtain ⟨r,hr⟩:=JHC nm ks;refine LookP.intro r hr ?_
      cases r with
      |none=>
        refine kWY ?_;intros
        exact .intro <| W.of ⟨_,by omega,_,i+1,nm,ks.map encS++[encS nm],_,⟨ks++[nm],by simp⟩,rfl,hi',hF,rfl,rfl⟩ ⟨rfl,rfl,rfl,rfl,rfl,rfl,trivial⟩ ⟨rfl,trivial⟩
      |some j=>
        refine kWY ?_;intros
        exact .intro <| W.of ⟨_,by omega,_,i+1,nm,ks.map encS,_,⟨ks,rfl⟩,rfl,hi',hF,rfl,rfl⟩ ⟨rfl,rfl,rfl,rfl,rfl,rfl,trivial⟩ ⟨rfl,trivial⟩
  ·rw[List.drop_eq_nil_of_le (by omega)] at hF;replace hF:AV.tup [.dead,encB (decide (s.size≤80))]=F:=hF;refine kS ?_;intros;refine .of ?_;rw[← hF];show AV.tup [_,.val (.bool (decide ((s.size:Int)≤80)))]=AV.tup [_,.val (.bool (decide (s.size≤80)))]
   rw[show decide ((s.size:Int)≤80)=decide (s.size≤80) from decide_eq_decide.2 (by omega)]
def unitF (s:ByteArray):Bool:=decide (s=⟨#[49]⟩)||(J55 (splitL s.data.toList) ⟨#[]⟩&&decide (s.size≤80))
theorem JMI (s:ByteArray)(hs:s.size<2^35):PX 321 [encS s] (encB (unitF s)):=by
 refine PZ Tryz.func321 rfl ?_;have hp:=JFx s hs;unfold resU at hp;generalize hF:unitF s=F;unfold unitF at hF;split at hp
 ·rename_i h1;rw[decide_eq_true h1,Bool.true_or] at hF;refine kWS ?_;intros;refine J00 [] _ c365 hp ?_;refine kWS ?_;intros;exact .of (by rw[← hF];rfl)
 ·rename_i h1;rw[decide_eq_false h1,Bool.false_or] at hF;split at hp
  ·rename_i h2;rw[h2,Bool.true_and] at hF;refine kWS ?_;intros;refine J00 [] _ c365 hp ?_;refine kWS ?_;intros;exact .of (by rw[← hF];rfl)
  ·rename_i h2;rw[show J55 (splitL s.data.toList) ⟨#[]⟩=false by simpa using h2,Bool.false_and] at hF;refine kWS ?_;intros;refine J00 [] _ c365 hp ?_;refine kWS ?_;intros;exact .of (by rw[← hF];rfl)
theorem J9d (a:List UInt8):J1o (a.map UInt8.toNat)=true↔1≤a.length∧(a.length=1∨a.headD 0≠48)∧isDs a=true:=by
 unfold J1o;rw[JBq,List.length_map];simp only[Bool.and_eq_true,Bool.or_eq_true,decide_eq_true_eq,and_assoc];refine and_congr_right fun h1=>and_congr_left fun _=>or_congr_right ?_
 cases a with
 |nil=>simp at h1
 |cons c r=>
   simp only[List.map_cons,List.getD_cons_zero,List.headD_cons,ne_eq];refine not_congr ?_;exact ⟨fun h=>UInt8.toNat.inj (by rw[h];rfl),fun h=>by rw[h];rfl⟩
theorem JIw (m:Bool)(a:List UInt8):okW m a=true↔1≤a.length∧(a.headD 0≠48∨(a.length=1∧m=false))∧isDs a=true:=by
 unfold okW;simp only[Bool.and_eq_true,Bool.not_eq_true',Bool.and_eq_false_iff,Bool.or_eq_false_iff,decide_eq_false_iff_not,and_assoc];constructor
 ·rintro ⟨h1,h2,h3⟩
  have hl:1≤a.length:=by cases a with
   |nil=>simp at h1
   |cons c r=>simp
  exact ⟨hl,by rcases h2 with h|h;exact .inl h;exact .inr ⟨by omega,h.2⟩,h3⟩
 ·rintro ⟨h1,h2,h3⟩
  have he:a.isEmpty=false:=by cases a with
   |nil=>simp at h1
   |cons c r=>rfl
  exact ⟨he,by rcases h2 with h|h;exact .inl h;exact .inr ⟨by omega,h.2⟩,h3⟩
theorem J9M {a:List UInt8}(h:J1o (a.map UInt8.toNat)=true):decU a=0↔a=[48]:=by
 constructor
 ·intro h0;have:=J3e h;unfold decU at h0;rw[h0] at this;have h2:=congrArg (List.map UInt8.ofNat) this;rw[J58] at h2;rw[← h2];rfl
 ·rintro rfl;rfl
theorem J1u (m:Bool)(a:List UInt8):okW m a=true↔J1o (a.map UInt8.toNat)=true∧¬ (m=true∧decU a=0):=by
 rw[JIw];constructor
 ·rintro ⟨h1,h2,h3⟩;have hc:J1o (a.map UInt8.toNat)=true:=(J9d a).2 ⟨h1,by rcases h2 with h | h;exact .inr h;exact .inl h.1,h3⟩;refine ⟨hc,fun ⟨hm,h0⟩=>?_⟩;have:=(J9M hc).1 h0;subst this
  rcases h2 with h|h
  ·exact h rfl
  ·rw[hm] at h;cases h.2
 ·rintro ⟨hc,hn⟩;obtain ⟨h1,h2,h3⟩:=(J9d a).1 hc;refine ⟨h1,?_,h3⟩
  by_cases hh:a.headD 0=48
  ·right;have hl:a.length=1:=h2.resolve_right (fun h=>h hh);refine ⟨hl,?_⟩
   cases m with
   |false=>rfl
   |true=>
     exfalso;obtain ⟨c,rfl⟩:=List.length_eq_one_iff.1 hl;simp at hh;subst hh;exact hn ⟨rfl,rfl⟩
  ·exact .inl hh
theorem JEc {a:List UInt8}(h:J1o (a.map UInt8.toNat)=true)(m:Bool):nd (if m then -(decU a:Int) else decU a)=a.length:=by
 have:(if m then -(decU a:Int) else (decU a:Int)).natAbs=decU a:=by cases m<;>simp
 unfold nd;rw[this];have:=J3e h;unfold decU;rw[this,List.length_map]
theorem J6p (t:List UInt8):J1U (45::t)=if okW true t then some (-(decU t:Int)) else none:=rfl
theorem J6o (t:List UInt8)(h:∀ r,t≠45::r):J1U t=if okW false t then some (decU t:Int) else none:=by
 unfold J1U;split
 ·rename_i r;exact absurd rfl (h r)
 ·rfl
def JBW (m:Bool)(t:List UInt8):Option (Int×Int)×Bool:=
 match (if okW m (J07 t).1 then some (if m then -(decU (J07 t).1:Int) else (decU (J07 t).1:Int)) else none) with
 |none=>(none,false)
 |some n=>match (J07 t).2.2 with
   |false=>(some (n,1),decide (nd n≤300))
   |true=>match J1U (J07 t).2.1 with
     |none=>(none,false)
     |some d=>if d≤1 then (none,false) else (some (n,d),decide (nd n≤300)&&decide (nd d≤300)&&decide (n.natAbs.gcd d.natAbs=1))
theorem JAZ (l:List UInt8):∃ t m,J7d l=J8f m t∧J08 l=JBW m t:=by
 unfold J7d;split
 ·rename_i t;refine ⟨t,true,rfl,?_⟩;unfold J08 JBW;rw[show J07 (45::t)=(45::(J07 t).1,(J07 t).2.1,(J07 t).2.2) by rw[J07,if_neg (by decide)]];simp only[J6p,if_true];rfl
 ·rename_i h;refine ⟨l,false,rfl,?_⟩;unfold J08 JBW
  have hh:∀ r,(J07 l).1≠45::r:=by
   intro r e;obtain ⟨p1,p2,p3,p4,p5⟩:=J4B l;rw[e] at p2
   cases l with
   |nil=>simp at p2
   |cons c l=>
     rw[List.length_cons,List.take_succ_cons] at p2;have:=(List.cons.inj p2).1;exact h l (by rw[this])
  rw[J6o _ hh];rfl
theorem J4A (l:List UInt8):(J08 l).2=(J7d l).isSome∧∀ x,J7d l=some x→J08 l=(some (x.1,(x.2:Int)),true):=by
 obtain ⟨t,m,e1,e2⟩:=JAZ l;rw[e1,e2];unfold JBW J8f;generalize (J07 t).1=a;generalize (J07 t).2.1=b;generalize (J07 t).2.2=ok;have hda:=J2y a;have hdb:=J2y b
 by_cases ha:okW m a=true
 case neg=>
  have ha':okW m a=false:=by simpa using ha
  rw[ha']
  have:digB a=false∨(m=true∧decU a=0):=by
   by_cases h:J1o (a.map UInt8.toNat)=true
   ·right;exact Decidable.byContradiction fun e=>ha ((J1u m a).2 ⟨h,e⟩)
   ·left;rw[hda,show J1o (a.map UInt8.toNat)=false by simpa using h];rfl
  have hnone:(if digB a=false then none else if ok=true then if digB b=false then none else if decU b≤1∨Nat.gcd (decU a) (decU b)≠1 then none else if m=true∧decU a=0 then none else some (if m then -(decU a:Int) else (decU a:Int),decU b) else if m=true∧decU a=0 then none else some (if m then -(decU a:Int) else (decU a:Int),1))=none:=by
   rcases this with h|h
   ·rw[if_pos h]
   ·split
    ·rfl
    ·split
     ·split
      ·rfl
      ·split
       ·rfl
       ·first
         |rfl
         |rw[if_pos h]
     ·first
       |rfl
       |rw[if_pos h]
  rw[hnone];exact ⟨rfl,fun x h=>by cases h⟩
 obtain ⟨hc,hz⟩:=(J1u m a).1 ha;have hnd:=JEc hc m;have hna:(if m then -(decU a:Int) else (decU a:Int)).natAbs=decU a:=by cases m<;>simp
 rw[ha,if_pos rfl];simp only;rw[hnd,hna];rw[hc,Bool.true_and] at hda;generalize (if m then -(decU a:Int) else (decU a:Int))=n at *
 by_cases hl:a.length≤300
 case neg=>
  rw[decide_eq_false hl] at hda ⊢;rw[if_pos hda];refine ⟨?_,fun x h=>by cases h⟩
  cases ok with
  |false=>rfl
  |true=>
    cases J1U b with
    |none=>rfl
    |some d=>
      show (if d≤1 then ((none:Option (Int×Int)),false) else _).2=_
      split<;>rfl
 rw[decide_eq_true hl] at hda ⊢;rw[if_neg (by rw[hda];decide)]
 cases ok with
 |false=>
   rw[if_neg (by decide),if_neg hz];exact ⟨rfl,fun x h=>by cases h;rfl⟩
 |true=>
   rw[if_pos rfl];simp only[Bool.true_and]
   by_cases hb45:∃ r,b=45::r
   ·obtain ⟨r,rfl⟩:=hb45
    have hdf:digB (45::r)=false:=by
     rw[hdb]
     have:J1o ((45::r:List UInt8).map UInt8.toNat)=false:=by
      unfold J1o;simp[isDg]
     rw[this];rfl
    rw[if_pos hdf,J6p];refine ⟨?_,fun x h=>by cases h⟩
    cases okW true r with
    |false=>rfl
    |true=>
      simp only[if_true];rw[if_pos (by omega)];rfl
   ·rw[J6o b (fun r e=>hb45 ⟨r,e⟩)]
    by_cases hb:okW false b=true
    case neg=>
     have hb':okW false b=false:=by simpa using hb
     have:digB b=false:=by
      rw[hdb]
      by_cases h:J1o (b.map UInt8.toNat)=true
      ·exact absurd ((J1u false b).2 ⟨h,fun e=>by cases e.1⟩) hb
      ·rw[show J1o (b.map UInt8.toNat)=false by simpa using h];rfl
     rw[hb',if_pos this];exact ⟨rfl,fun x h=>by cases h⟩
    obtain ⟨hcb,_⟩:=(J1u false b).1 hb;have hndb:=JEc hcb false;rw[hb];rw[hcb,Bool.true_and] at hdb;simp only[if_true,Bool.false_eq_true,if_false] at hndb ⊢
    by_cases hlb:b.length≤300
    ·rw[decide_eq_true hlb] at hdb;have hdn:¬ digB b=false:=by rw[hdb];decide
     by_cases hd1:decU b≤1
     ·rw[if_pos (show (decU b:Int)≤1 by omega),if_neg hdn,if_pos (.inl hd1)];exact ⟨rfl,fun x h=>by cases h⟩
     rw[if_neg (show ¬ (decU b:Int)≤1 by omega),if_neg hdn,hndb,decide_eq_true hlb];simp only[Bool.true_and,Int.natAbs_natCast]
     by_cases hg:Nat.gcd (decU a) (decU b)=1
     ·rw[if_neg (by rintro (h|h);omega;exact h hg),if_neg hz,decide_eq_true hg];exact ⟨rfl,fun x h=>by cases h;rfl⟩
     ·rw[if_pos (.inr hg),decide_eq_false hg];exact ⟨rfl,fun x h=>by cases h⟩
    ·rw[decide_eq_false hlb] at hdb;rw[if_pos hdb];refine ⟨?_,fun x h=>by cases h⟩;split
     ·rfl
     ·rw[hndb,decide_eq_false hlb];rfl
theorem JFn (x y:UInt8)(a b:List UInt8):Op.bytesLess (x::a) (y::b)=(decide (x<y)||(decide (x=y)&&Op.bytesLess a b)):=by
 simp only[Op.bytesLess]
 by_cases h1:x<y
 ·simp[h1]
 ·by_cases h2:x=y<;>simp[h1,h2]
theorem JK7 (n:Int)(d:Nat):qT n (d:Int)=rT n d:=by
 unfold qT rT
 by_cases h:d=1
 ·rw[if_pos h,if_pos (by omega)]
 ·rw[if_neg h,if_neg (by omega)]
  congr 2
structure Eqn where
 name:ByteArray
 left:Ex
 right:Ex
structure Ac where
 kind:Int
 var:ByteArray
 value:Ex
structure Whn where
 name:ByteArray
 cond:Ex
 acts:List Ac
structure Sys where
 vars:List Va
 eqs:List Eqn
 inits:List Eqn
 whens:List Whn
def J3o (e:Ex):List AV:=[encS e.op,encS e.text,encI e.order,.sl 4 (e.kids.map encE)]
theorem J0R (e:Ex):encE e=.agg (J3o e):=J01 e
def J0m (q:Eqn):AV:=.agg (encS q.name::(J3o q.left++J3o q.right))
def JF4 (a:Ac):AV:=.agg (encI a.kind::encS a.var::J3o a.value)
def J1Q (w:Whn):AV:=.agg (encS w.name::(J3o w.cond++[.sl 6 (w.acts.map JF4)]))
def J0Q (s:Sys):AV:=.agg [.sl 7 (s.vars.map encV),.sl 9 (s.eqs.map J0m),.sl 9 (s.inits.map J0m),.sl 6 (s.whens.map J1Q)]
theorem JEh (w:Whn):PX 247 [J1Q w] (encB (decide (20<w.acts.length))):=by
 refine PZ Tryz.func247 rfl ?_;refine kWS ?_;intros;refine .of ?_;show AV.val (.bool (decide _))=AV.val (.bool (decide _))
 rw[List.length_map]
 congr 2
 exact decide_eq_decide.2 (by omega)
theorem JEi (k:Nat)(p:Whn→Bool)(l:List Whn)(hl:l.length≤2^60)(hk:J03 Tryz.prog k)(hf:∀ x∈l,PX k [J1Q x] (encB (p x))) :
  PX 318 [.sl 6 (l.map J1Q),.fn (.func k) [] []] (encI (J0d p l 0)):=by
 refine PZ Tryz.func318 rfl ?_;generalize hF:J0d p l 0=F;refine kWS ?_;intros;refine LoopP.intro (fun n σ H=>∃ i,i≤l.length∧n=l.length-i∧J0d p (l.drop i) i=F∧σ=fr [(0,.sl 6 (l.map J1Q)),(1,.fn (.func k) [] []),(7,encI l.length),(8,encI i)]∧H=hp []) ?_ ?_
 ·exact .intro <| W.of ⟨_,0,Nat.zero_le _,rfl,hF,rfl,rfl⟩ ⟨rfl,rfl,by simp;rfl,rfl,trivial⟩ trivial
 ·rintro n σ H ⟨i,hi,rfl,hc,rfl,rfl⟩;refine kWS ?_;intros;refine CondP.dec (fun h=>?_) (fun h=>?_)<;>refine kW ?_
  ·have hi':i<l.length:=by omega
   have hx:=hf _ (List.getElem_mem hi');rw[List.drop_eq_getElem_cons hi'] at hc;unfold J0d at hc;refine kR ?_;intros;generalize l[i]=x at hx hc ⊢;refine kR ?_;intros;refine CallP.flat [] _ hk hx rfl ?_;refine kWS ?_;intros;refine CondP.intro (fun hq=>?_) (fun hq=>?_)<;>refine kW ?_
   ·rw[hq] at hc;refine kS ?_;intros;exact .of (by rw[← hc];rfl)
   ·rw[hq] at hc;refine kS ?_;intros
    exact .intro <| W.of ⟨_,by omega,i+1,hi',rfl,hc,rfl,rfl⟩ ⟨rfl,rfl,rfl,rfl,trivial⟩ trivial
  ·refine kS ?_;intros;rw[List.drop_eq_nil_of_le (by omega)] at hc;exact .of (by rw[← hc];rfl)
theorem J9V (k:Nat)(p:Whn→Bool)(l:List Whn)(hl:l.length≤2^60)(hk:J03 Tryz.prog k)(hf:∀ x∈l,PX k [J1Q x] (encB (p x))) :
  PX 246 [.sl 6 (l.map J1Q),.fn (.func k) [] []] (encB (l.any p)):=by
 refine PZ Tryz.func246 rfl ?_;refine kWS ?_;intros;refine CallP.flat [] _ c318 (JEi k p l hl hk hf) rfl ?_;refine kWS ?_;intros;refine .of ?_;show AV.val (Value.bool (decide (0≤J0d p l 0)))=AV.val (Value.bool (l.any p))
 congr 2
 rw[Bool.eq_iff_iff,decide_eq_true_iff];exact J2Y p l 0 (by omega)
theorem JEj (k:Nat)(p:Va→Bool)(l:List Va)(hl:l.length≤2^60)(hk:J03 Tryz.prog k)(hf:∀ x∈l,PX k [encV x] (encB (p x))) :
  PX 319 [.sl 7 (l.map encV),.fn (.func k) [] []] (encI (J0d p l 0)):=by
 refine PZ Tryz.func319 rfl ?_;generalize hF:J0d p l 0=F;refine kWS ?_;intros;refine LoopP.intro (fun n σ H=>∃ i,i≤l.length∧n=l.length-i∧J0d p (l.drop i) i=F∧σ=fr [(0,.sl 7 (l.map encV)),(1,.fn (.func k) [] []),(7,encI l.length),(8,encI i)]∧H=hp []) ?_ ?_
 ·exact .intro <| W.of ⟨_,0,Nat.zero_le _,rfl,hF,rfl,rfl⟩ ⟨rfl,rfl,by simp;rfl,rfl,trivial⟩ trivial
 ·rintro n σ H ⟨i,hi,rfl,hc,rfl,rfl⟩;refine kWS ?_;intros;refine CondP.dec (fun h=>?_) (fun h=>?_)<;>refine kW ?_
  ·have hi':i<l.length:=by omega
   have hx:=hf _ (List.getElem_mem hi');rw[List.drop_eq_getElem_cons hi'] at hc;unfold J0d at hc;refine kR ?_;intros;generalize l[i]=x at hx hc ⊢;refine kR ?_;intros;refine CallP.flat [] _ hk hx rfl ?_;refine kWS ?_;intros;refine CondP.intro (fun hq=>?_) (fun hq=>?_)<;>refine kW ?_
   ·rw[hq] at hc;refine kS ?_;intros;exact .of (by rw[← hc];rfl)
   ·rw[hq] at hc;refine kS ?_;intros
    exact .intro <| W.of ⟨_,by omega,i+1,hi',rfl,hc,rfl,rfl⟩ ⟨rfl,rfl,rfl,rfl,trivial⟩ trivial
  ·refine kS ?_;intros;rw[List.drop_eq_nil_of_le (by omega)] at hc;exact .of (by rw[← hc];rfl)
theorem J9W (k:Nat)(p:Va→Bool)(l:List Va)(hl:l.length≤2^60)(hk:J03 Tryz.prog k)(hf:∀ x∈l,PX k [encV x] (encB (p x))) :
  PX 255 [.sl 7 (l.map encV),.fn (.func k) [] []] (encB (l.any p)):=by
 refine PZ Tryz.func255 rfl ?_;refine kWS ?_;intros;refine CallP.flat [] _ c319 (JEj k p l hl hk hf) rfl ?_;refine kWS ?_;intros;refine .of ?_;show AV.val (Value.bool (decide (0≤J0d p l 0)))=AV.val (Value.bool (l.any p))
 congr 2
 rw[Bool.eq_iff_iff,decide_eq_true_iff];exact J2Y p l 0 (by omega)
def J1e (l:List Eqn):List Ex:=l.flatMap fun q=>[q.left,q.right]
def J52 (w:Whn):List Ex:=w.cond::w.acts.map (·.value)
def allF (s:Sys):List Ex:=J1e s.eqs++J1e s.inits++s.whens.flatMap J52
theorem J1s (l:List Eqn):(J1e l).length=2*l.length:=by
 induction l with
 |nil=>rfl
 |cons q l ih=>unfold J1e at *;rw[List.flatMap_cons,List.length_append,ih];simp;omega
theorem JCc (l:List Eqn)(q:Eqn):J1e (l++[q])=J1e l++[q.left,q.right]:=by unfold J1e;rw[List.flatMap_append];simp
theorem JBC (l:List Whn)(h:∀ w∈l,w.acts.length≤20):(l.flatMap J52).length≤21*l.length:=by
 induction l with
 |nil=>simp
 |cons w l ih=>
   have h1:=h w (by simp);have h2:=ih fun x hx=>h x (by simp[hx]);rw[List.flatMap_cons,List.length_append];unfold J52 at *;simp at *;omega
theorem JKi (s:Sys)(h1:s.eqs.length≤120)(h2:s.inits.length≤120)(h3:s.whens.length≤120)(h4:∀ w∈s.whens,w.acts.length≤20):PX 132 [J0Q s] (.sl 4 ((allF s).map encE)):=by
 refine PC [100] Tryz.func132 rfl (by rfl) rfl ?_;obtain ⟨vars,eqs,inits,whens⟩:=s;simp only at h1 h2 h3 h4;unfold J0Q;(refine kWS ?_;repeat intro γ)
 refine LoopP.intro (fun k σ H=>∃ g1 g16 g3 i,∃ out:List Ex,k=2-i∧i≤2∧out=J1e (([eqs,inits].take i).flatten) ∧
  σ=fr [(1,.op 1 g1 0 0),(2,.val (.slice none 0 0)),(3,.own 100 g3 0 out.length),(16,.own 16 g16 0 2),(17,encI 2),(18,encI i)] ∧
  H=hp [(1,g1,⟨26,4,[J0Q ⟨vars,eqs,inits,whens⟩]⟩),(16,g16,⟨23,1,[eqs,inits].map fun l=>.sl 9 (l.map J0m)⟩),(100,g3,⟨29,4,out.map encE⟩)]) ?_ ?_
 ·exact .intro (J9j 3 100 29 4 rfl rfl fun g=>W.of ⟨_,_,_,g,0,[],rfl,by omega,rfl,rfl,rfl⟩ ⟨rfl,rfl,rfl,rfl,rfl,rfl,trivial⟩ ⟨rfl,rfl,rfl,trivial⟩)
 ·rintro k σ H ⟨g1,g16,g3,i,out,rfl,hi,hout,rfl,rfl⟩;(refine kWS ?_;repeat intro γ);refine CondP.dec (fun h=>?_) (fun h=>?_)<;>refine kW ?_
  ·have hi':i<[eqs,inits].length:=by simp;omega
   have hl:([eqs,inits][i]).length≤120:=by
    match i,hi' with
    |0,_=>exact h1
    |1,_=>exact h2
   have hout2:J1e (([eqs,inits].take (i+1)).flatten)=out++J1e [eqs,inits][i]:=by
    rw[List.take_succ_eq_append_getElem hi',List.flatten_append,hout];unfold J1e;rw[List.flatMap_append];simp
   have hol:out.length≤480:=by
    rw[hout,J1s,List.length_flatten]
    rcases i with _|_|i
    ·simp
    ·simp;omega
    ·omega
   (refine kR ?_;repeat intro γ);generalize [eqs,inits][i]=l at hl hout2 ⊢
   refine LoopP.intro (fun k σ H=>∃ g3 j,∃ out':List Ex,k=l.length-j∧j≤l.length∧out'=out++J1e (l.take j) ∧
    σ=fr [(1,.op 1 g1 0 0),(2,.val (.slice none 0 0)),(3,.own 100 g3 0 out'.length),(16,.own 16 g16 0 2),(17,encI 2),(18,encI i),(22,.sl 9 (l.map J0m)),(23,encI l.length),(24,encI j)] ∧
    H=hp [(1,g1,⟨26,4,[J0Q ⟨vars,eqs,inits,whens⟩]⟩),(16,g16,⟨23,1,[eqs,inits].map fun l=>.sl 9 (l.map J0m)⟩),(100,g3,⟨29,4,out'.map encE⟩)]) ?_ ?_
   ·exact .intro <| W.of ⟨_,_,0,out,rfl,Nat.zero_le _,by simp[J1e],rfl,rfl⟩ ⟨rfl,rfl,rfl,rfl,rfl,rfl,rfl,rfl,rfl,trivial⟩ ⟨rfl,rfl,rfl,trivial⟩
   ·rintro k σ H ⟨g3,j,out',rfl,hj,ho',rfl,rfl⟩;(refine kWS ?_;repeat intro γ);refine CondP.dec (fun h=>?_) (fun h=>?_)<;>refine kW ?_
    ·have hj':j<l.length:=by omega
     have hs:=JCc (l.take j) l[j];rw[← List.take_succ_eq_append_getElem hj'] at hs
     have hol':out'.length≤800:=by
      rw[ho',List.length_append,J1s,List.length_take];omega
     (refine kR ?_;repeat intro γ);generalize l[j]=q at hs ⊢;(refine kR ?_;repeat intro γ)
     refine .intro <| W.of ⟨_,by omega,γ,j+1,out'++[q.left,q.right],rfl,hj',by rw[ho',hs,List.append_assoc],rfl,rfl⟩ ⟨rfl,rfl,?_,rfl,rfl,rfl,rfl,rfl,rfl,trivial⟩ ⟨rfl,rfl,?_,trivial⟩
     ·exact congrArg (AV.own 100 γ 0) (by simp)
     ·show some (_,(⟨_,_,out'.map encE++[.agg (J3o q.left),.agg (J3o q.right)]⟩:Blk))=_
      rw[← J0R,← J0R,List.map_append];rfl
    ·have hje:j=l.length:=by omega
     rw[hje,List.take_length,← hout2] at ho';(refine kS ?_;repeat intro γ)
     exact .intro <| W.of ⟨_,by omega,_,_,_,i+1,out',rfl,by omega,ho',rfl,rfl⟩ ⟨rfl,rfl,rfl,rfl,rfl,rfl,trivial⟩ ⟨rfl,rfl,rfl,trivial⟩
  ·have hie:i=2:=by omega
   rw[hie] at hout;have hout0:out=J1e eqs++J1e inits:=by rw[hout];simp[J1e]
   have hol:out.length≤480:=by rw[hout0,List.length_append,J1s,J1s];omega
   (refine kS ?_;repeat intro γ)
   refine LoopP.intro (fun k σ H=>∃ g3 i,∃ out':List Ex,k=whens.length-i∧i≤whens.length∧out'=out++(whens.take i).flatMap J52 ∧
    σ=fr [(2,.val (.slice none 0 0)),(3,.own 100 g3 0 out'.length),(38,.sl 6 (whens.map J1Q)),(39,encI whens.length),(40,encI i)] ∧
    H=hp [(100,g3,⟨29,4,out'.map encE⟩)]) ?_ ?_
   ·refine .intro <| W.of ⟨_,_,0,out,rfl,Nat.zero_le _,by simp,rfl,rfl⟩ ⟨rfl,rfl,rfl,?_,rfl,trivial⟩ ⟨rfl,trivial⟩
    show AV.val (.int .i64 _)=AV.val (.int .i64 _)
    rw[List.length_map]
   ·clear hout g3;rintro k σ H ⟨g3,i,out',rfl,hi,ho',rfl,rfl⟩;(refine kWS ?_;repeat intro γ);refine CondP.dec (fun h=>?_) (fun h=>?_)<;>refine kW ?_
    ·have hi':i<whens.length:=by omega
     have ha:=h4 whens[i] (List.getElem_mem hi')
     have hol':out'.length≤480+21*120:=by
      have:=JBC (whens.take i) fun w hw=>h4 w (List.mem_of_mem_take hw);rw[List.length_take] at this;rw[ho',List.length_append];omega
     have ho2:out++(whens.take (i+1)).flatMap J52=out'++J52 whens[i]:=by
      rw[List.take_succ_eq_append_getElem hi',List.flatMap_append,ho'];simp
     (refine kR ?_;repeat intro γ);generalize whens[i]=w at ha ho2 ⊢;(refine kR ?_;repeat intro γ)
     refine LoopP.intro (fun k σ H=>∃ g3 j,∃ o3:List Ex,k=w.acts.length-j∧j≤w.acts.length∧o3=out'++w.cond::(w.acts.take j).map (·.value) ∧
      σ=fr [(2,.val (.slice none 0 0)),(3,.own 100 g3 0 o3.length),(38,.sl 6 (whens.map J1Q)),(39,encI whens.length),(40,encI i),(50,.sl 6 (w.acts.map JF4)),(51,encI w.acts.length),(52,encI j)] ∧
      H=hp [(100,g3,⟨29,4,o3.map encE⟩)]) ?_ ?_
     ·refine .intro <| W.of ⟨_,γ,0,out'++[w.cond],rfl,Nat.zero_le _,by simp,rfl,rfl⟩ ⟨rfl,?_,rfl,rfl,rfl,rfl,rfl,rfl,trivial⟩ ⟨?_,trivial⟩
      ·exact congrArg (AV.own 100 γ 0) (by simp)
      ·show some (_,(⟨_,_,out'.map encE++[.agg (J3o w.cond)]⟩:Blk))=_
       rw[← J0R,List.map_append];rfl
     ·rintro k σ H ⟨g3,j,o3,rfl,hj,ho3,rfl,rfl⟩
      have hol3:o3.length≤480+21*120+21:=by
       rw[ho3,List.length_append,List.length_cons,List.length_map,List.length_take];omega
      (refine kWS ?_;repeat intro γ);refine CondP.dec (fun h=>?_) (fun h=>?_)<;>refine kW ?_
      ·have hj':j<w.acts.length:=by omega
       have ho4:out'++w.cond::(w.acts.take (j+1)).map (·.value)=o3++[w.acts[j].value]:=by
        rw[List.take_succ_eq_append_getElem hj',List.map_append,ho3];simp
       (refine kR ?_;repeat intro γ);generalize w.acts[j]=a at ho4 ⊢;(refine kR ?_;repeat intro γ)
       refine .intro <| W.of ⟨_,by omega,γ,j+1,o3++[a.value],rfl,hj',ho4.symm,rfl,rfl⟩ ⟨rfl,?_,rfl,rfl,rfl,rfl,rfl,rfl,trivial⟩ ⟨?_,trivial⟩
       ·exact congrArg (AV.own 100 γ 0) (by simp)
       ·show some (_,(⟨_,_,o3.map encE++[.agg (J3o a.value)]⟩:Blk))=_
        rw[← J0R,List.map_append];rfl
      ·rw[show j=w.acts.length by omega,List.take_length] at ho3;(refine kS ?_;repeat intro γ)
       exact .intro <| W.of ⟨_,by omega,_,i+1,o3,rfl,hi',by rw[ho3,ho2];rfl,rfl,rfl⟩ ⟨rfl,rfl,rfl,rfl,rfl,trivial⟩ ⟨rfl,trivial⟩
    ·rw[show i=whens.length by omega,List.take_length] at ho';(refine kS ?_;repeat intro γ);refine .of ?_;have e:allF ⟨vars,eqs,inits,whens⟩=out':=by rw[ho',hout0];rfl
     rw[e];show AV.sl 4 ((((out'.map encE).drop 0).take out'.length).map _)=_
     rw[List.drop_zero,List.take_of_length_le (by simp),List.map_map]
     congr 1
     refine List.map_congr_left fun x _=>?_;show J0N _ (encE x)=encE x
     rw[J0R];rfl
def JBd:List Ex→Int→Bool
 |[],l=>decide (l<0)
 |e::r,l=>tooF e||JBd r (l-sizeF e)
def largeF (s:Sys):Bool:=decide (120<s.vars.length)||decide (120<max (max s.eqs.length s.inits.length) s.whens.length)||s.whens.any (fun w=>decide (20<w.acts.length))||JBd (allF s) 4000
structure SzS (s:Sys):Prop where
 v:s.vars.length≤2^60
 q:s.eqs.length≤2^60
 n:s.inits.length≤2^60
 w:s.whens.length≤2^60
 a:∀ w∈s.whens,w.acts.length≤2^60
 e:∀ e∈allF s,SzE e∧TxE e
 t:∀ v∈s.vars,v.name.size<2^35∧v.value.size<2^35∧v.start.size<2^35∧v.unit.size<2^35
 m:(∀ q∈s.eqs,q.name.size<2^35)∧(∀ q∈s.inits,q.name.size<2^35)∧∀ w∈s.whens,w.name.size<2^35
 v20:s.vars.length≤2^20
theorem JGw (s:Sys)(hs:SzS s):PX 174 [J0Q s] (encB (largeF s)):=by
 refine PZ Tryz.func174 rfl ?_;have hW:=J9V 247 (fun w=>decide (20<w.acts.length)) s.whens hs.w c247 fun w _=>JEh w;have hA:=JKi s;have hv:=hs.v;have hq:=hs.q;have hn:=hs.n;have hw:=hs.w;have he:=hs.e;generalize hF:largeF s=F;unfold largeF at hF;generalize hall:allF s=es at *
 have hany:(s.whens.any fun w=>decide (20<w.acts.length))=false→∀ w∈s.whens,w.acts.length≤20:=by
  intro h w hw;have:=List.any_eq_false.1 h w hw;simp at this;exact this
 clear hs;unfold J0Q at hA ⊢;refine kWS ?_;intros;rw[List.length_map];refine CondP.dec (fun h=>?_) (fun h=>?_)<;>refine kW ?_
 ·rw[decide_eq_true (by omega),Bool.true_or,Bool.true_or,Bool.true_or] at hF;refine kS ?_;intros;exact .of (by rw[← hF];rfl)
 rw[decide_eq_false (by omega),Bool.false_or] at hF;refine kS ?_;intros;simp only[List.length_map];refine CondP.dec (fun h=>?_) (fun h=>?_)<;>refine kW ?_
 ·rw[decide_eq_true (by omega),Bool.true_or,Bool.true_or] at hF;refine kS ?_;intros;exact .of (by rw[← hF];rfl)
 rw[decide_eq_false (by omega),Bool.false_or] at hF;refine kS ?_;intros;refine CallP.flat [] _ c246 hW rfl ?_;refine kWS ?_;intros;refine CondP.intro (fun h2=>?_) (fun h2=>?_)<;>refine kW ?_
 ·rw[h2,Bool.true_or] at hF;refine kS ?_;intros;exact .of (by rw[← hF];rfl)
 rw[h2,Bool.false_or] at hF;have hA:=hA (by omega) (by omega) (by omega) (hany h2)
 have hlen:es.length≤4000:=by
  have:=JBC s.whens (hany h2);rw[← hall];unfold allF;rw[List.length_append,List.length_append,J1s,J1s];omega
 refine kS ?_;intros;refine J00 [] _ c132 hA ?_;refine kWS ?_;intros
 refine LoopP.intro (fun k σ H=>∃ i,∃ l:Int,k=es.length-i∧i≤es.length∧l≤4000∧4000-201*i≤l∧JBd (es.drop i) l=F ∧
  σ=fr [(2,encB false),(3,encI l),(27,.sl 4 (es.map encE)),(28,encI es.length),(29,encI i)]∧H=hp []) ?_ ?_
 ·refine .intro <| W.of ⟨_,0,4000,rfl,Nat.zero_le _,by omega,by omega,hF,rfl,rfl⟩ ⟨rfl,rfl,rfl,?_,rfl,trivial⟩ trivial
  show AV.val (.int .i64 _)=AV.val (.int .i64 _)
  rw[List.length_map]
 ·clear hF;rintro k σ H ⟨i,l,rfl,hi,hl1,hl2,hF,rfl,rfl⟩;refine kWS ?_;intros;refine CondP.dec (fun h=>?_) (fun h=>?_)<;>refine kW ?_
  ·have hi':i<es.length:=by omega
   rw[List.drop_eq_getElem_cons hi'] at hF;unfold JBd at hF;have hz:=he es[i] (List.getElem_mem hi');refine kR ?_;intros;generalize es[i]=e at hF hz ⊢;have ht:=J3M e hz.1;have hsz:=JJh e hz.1;have hge:=J7j 24 e 200 (by omega);have hle:=J4k 24 e 200;have hdef:sizeF e=200-measF 24 e 200:=rfl;rw[J01] at ht hsz ⊢;refine kR ?_;intros;refine CallP.flat [] _ c83 ht rfl ?_;refine kWS ?_;intros;refine CondP.intro (fun h3=>?_) (fun h3=>?_)<;>refine kW ?_
   ·rw[h3,Bool.true_or] at hF;refine kS ?_;intros;exact .of (by rw[← hF];rfl)
   rw[h3,Bool.false_or] at hF;refine kS ?_;intros;refine CallP.flat [] _ c248 hsz rfl ?_;generalize sizeF e=z at hF hdef;refine kWS ?_;intros
   exact .intro <| W.of ⟨_,by omega,i+1,l-z,rfl,hi',by omega,by omega,hF,rfl,rfl⟩ ⟨rfl,rfl,rfl,rfl,rfl,trivial⟩ trivial
  ·rw[List.drop_eq_nil_of_le (by omega)] at hF;refine kS ?_;intros;exact .of (by rw[← hF];rfl)
def risG:List ByteArray→Option ByteArray→Bool
 |[],_=>true
 |n::r,p=>nameF n&&(match p with|none=>true|some p=>Op.bytesLess p.toList n.toList)&&risG r (some n)
def pvN (l:List ByteArray):Nat→Option ByteArray
 |0=>none
 |i+1=>l[i]?
theorem J7e (l:List ByteArray)(i:Nat):pvN l (i+1)=l[i]?:=rfl
theorem J8F (x:Va):PX 250 [encV x] (encS x.name):=by
 refine PZ Tryz.func250 rfl ?_;refine kWS ?_;intros;exact .of rfl
theorem JCi (l:List Va)(hl:l.length≤2^60)(hn:∀ x∈l,x.name.size<2^35) :
  PX 249 [.sl 7 (l.map encV),.fn (.func 250) [] []] (encB (risG (l.map Va.name) none)):=by
 refine PZ Tryz.func249 rfl ?_;generalize hF:risG (l.map Va.name) none=F;refine kWS ?_;intros
 refine LoopP.intro (fun m σ H=>∃ i,i≤l.length∧m=l.length-i∧risG ((l.drop i).map Va.name) (pvN (l.map Va.name) i)=F ∧
  σ=fr [(0,.sl 7 (l.map encV)),(1,.fn (.func 250) [] []),(7,.sl 7 (l.map encV)),(8,encI l.length),(9,encI i)]∧H=hp []) ?_ ?_
 ·exact .intro <| W.of ⟨_,0,Nat.zero_le _,rfl,hF,rfl,rfl⟩ ⟨rfl,rfl,rfl,by simp;rfl,rfl,trivial⟩ trivial
 ·clear hF;rintro m σ H ⟨i,hi,rfl,hF,rfl,rfl⟩;refine kWS ?_;intros;refine CondP.dec (fun h=>?_) (fun h=>?_)<;>refine kW ?_
  ·have hi':i<l.length:=by omega
   have hx:=hn _ (List.getElem_mem hi');rw[List.drop_eq_getElem_cons hi',List.map_cons] at hF;unfold risG at hF;have hnx:(l.map Va.name)[i]?=some l[i].name:=by rw[List.getElem?_map,List.getElem?_eq_getElem hi'];rfl
   refine kR ?_;intros;generalize l[i]=x at hx hF hnx ⊢;have hnm:=J1w x.name (by omega);generalize nameF x.name=b at hF hnm;refine kR ?_;intros;refine CallG.intro _ c250 (J8F x) ?_;refine kWQ ?_;intros;refine CallG.intro _ c90 hnm ?_;refine kWQ ?_;intros;refine CondP.intro (fun hq=>?_) (fun hq=>?_)<;>refine kW ?_
   case' refine_2=>
    rw[hq,Bool.false_and,Bool.false_and] at hF;refine kR ?_;intros;exact .of (by rw[← hF];rfl)
   rw[hq,Bool.true_and] at hF
   cases i with
   |zero=>
     refine kR ?_;intros
     exact .intro <| W.of ⟨_,by omega,1,hi',rfl,by rw[← hF];show risG _ (pvN _ (0+1))=_;rw[J7e,hnx];rfl,rfl,rfl⟩ ⟨rfl,rfl,rfl,rfl,rfl,trivial⟩ trivial
   |succ i=>
     have hi2:i<l.length:=by omega
     rw[J7e,List.getElem?_map,List.getElem?_eq_getElem hi2] at hF;replace hF:(Op.bytesLess l[i].name.toList x.name.toList&&risG ((l.drop (i+1+1)).map Va.name) (some x.name))=F:=hF;have hp0:(0:Int)<((i+1:Nat):Int):=by omega
     refine kR ?_;intros
     try simp only[show ((i+1:Nat):Int)-1=(i:Int) by omega]
     refine kR ?_;intros;generalize l[i]=y at hF ⊢;refine kR ?_;intros;refine CallG.intro _ c250 (J8F y) ?_;refine kWR ?_;intros;refine CallG.intro _ c250 (J8F x) ?_;refine kWR ?_;intros;refine CondP.intro (fun h2=>?_) (fun h2=>?_)<;>refine kW ?_
     ·rw[h2,Bool.true_and] at hF;refine kR ?_;intros
      exact .intro <| W.of ⟨_,by omega,i+1+1,hi',rfl,by rw[J7e,hnx];exact hF,rfl,rfl⟩ ⟨rfl,rfl,rfl,rfl,rfl,trivial⟩ trivial
     ·rw[h2,Bool.false_and] at hF;refine kR ?_;intros;exact .of (by rw[← hF];rfl)
  ·refine kS ?_;intros;rw[List.drop_eq_nil_of_le (by omega)] at hF;exact .of (by rw[← hF];rfl)
theorem J8J (x:Eqn):PX 252 [J0m x] (encS x.name):=by
 refine PZ Tryz.func252 rfl ?_;refine kWS ?_;intros;exact .of rfl
theorem J8E (x:Whn):PX 254 [J1Q x] (encS x.name):=by
 refine PZ Tryz.func254 rfl ?_;refine kWS ?_;intros;exact .of rfl
theorem J6j (l:List Eqn)(hl:l.length≤2^60)(hn:∀ x∈l,x.name.size<2^35) :
  PX 251 [.sl 9 (l.map J0m),.fn (.func 252) [] []] (encB (risG (l.map Eqn.name) none)):=by
 refine PZ Tryz.func251 rfl ?_;generalize hF:risG (l.map Eqn.name) none=F;refine kWS ?_;intros
 refine LoopP.intro (fun m σ H=>∃ i,i≤l.length∧m=l.length-i∧risG ((l.drop i).map Eqn.name) (pvN (l.map Eqn.name) i)=F ∧
  σ=fr [(0,.sl 9 (l.map J0m)),(1,.fn (.func 252) [] []),(7,.sl 9 (l.map J0m)),(8,encI l.length),(9,encI i)]∧H=hp []) ?_ ?_
 ·exact .intro <| W.of ⟨_,0,Nat.zero_le _,rfl,hF,rfl,rfl⟩ ⟨rfl,rfl,rfl,by simp;rfl,rfl,trivial⟩ trivial
 ·clear hF;rintro m σ H ⟨i,hi,rfl,hF,rfl,rfl⟩;refine kWS ?_;intros;refine CondP.dec (fun h=>?_) (fun h=>?_)<;>refine kW ?_
  ·have hi':i<l.length:=by omega
   have hx:=hn _ (List.getElem_mem hi');rw[List.drop_eq_getElem_cons hi',List.map_cons] at hF;unfold risG at hF;have hnx:(l.map Eqn.name)[i]?=some l[i].name:=by rw[List.getElem?_map,List.getElem?_eq_getElem hi'];rfl
   refine kR ?_;intros;generalize l[i]=x at hx hF hnx ⊢;have hnm:=J1w x.name (by omega);generalize nameF x.name=b at hF hnm;refine kR ?_;intros;refine CallG.intro _ c252 (J8J x) ?_;refine kWQ ?_;intros;refine CallG.intro _ c90 hnm ?_;refine kWQ ?_;intros;refine CondP.intro (fun hq=>?_) (fun hq=>?_)<;>refine kW ?_
   case' refine_2=>
    rw[hq,Bool.false_and,Bool.false_and] at hF;refine kR ?_;intros;exact .of (by rw[← hF];rfl)
   rw[hq,Bool.true_and] at hF
   cases i with
   |zero=>
     refine kR ?_;intros
     exact .intro <| W.of ⟨_,by omega,1,hi',rfl,by rw[← hF];show risG _ (pvN _ (0+1))=_;rw[J7e,hnx];rfl,rfl,rfl⟩ ⟨rfl,rfl,rfl,rfl,rfl,trivial⟩ trivial
   |succ i=>
     have hi2:i<l.length:=by omega
     rw[J7e,List.getElem?_map,List.getElem?_eq_getElem hi2] at hF;replace hF:(Op.bytesLess l[i].name.toList x.name.toList&&risG ((l.drop (i+1+1)).map Eqn.name) (some x.name))=F:=hF;have hp0:(0:Int)<((i+1:Nat):Int):=by omega
     refine kR ?_;intros
     try simp only[show ((i+1:Nat):Int)-1=(i:Int) by omega]
     refine kR ?_;intros;generalize l[i]=y at hF ⊢;refine kR ?_;intros;refine CallG.intro _ c252 (J8J y) ?_;refine kWR ?_;intros;refine CallG.intro _ c252 (J8J x) ?_;refine kWR ?_;intros;refine CondP.intro (fun h2=>?_) (fun h2=>?_)<;>refine kW ?_
     ·rw[h2,Bool.true_and] at hF;refine kR ?_;intros
      exact .intro <| W.of ⟨_,by omega,i+1+1,hi',rfl,by rw[J7e,hnx];exact hF,rfl,rfl⟩ ⟨rfl,rfl,rfl,rfl,rfl,trivial⟩ trivial
     ·rw[h2,Bool.false_and] at hF;refine kR ?_;intros;exact .of (by rw[← hF];rfl)
  ·refine kS ?_;intros;rw[List.drop_eq_nil_of_le (by omega)] at hF;exact .of (by rw[← hF];rfl)
theorem JCh (l:List Whn)(hl:l.length≤2^60)(hn:∀ x∈l,x.name.size<2^35) :
  PX 253 [.sl 6 (l.map J1Q),.fn (.func 254) [] []] (encB (risG (l.map Whn.name) none)):=by
 refine PZ Tryz.func253 rfl ?_;generalize hF:risG (l.map Whn.name) none=F;refine kWS ?_;intros
 refine LoopP.intro (fun m σ H=>∃ i,i≤l.length∧m=l.length-i∧risG ((l.drop i).map Whn.name) (pvN (l.map Whn.name) i)=F ∧
  σ=fr [(0,.sl 6 (l.map J1Q)),(1,.fn (.func 254) [] []),(7,.sl 6 (l.map J1Q)),(8,encI l.length),(9,encI i)]∧H=hp []) ?_ ?_
 ·exact .intro <| W.of ⟨_,0,Nat.zero_le _,rfl,hF,rfl,rfl⟩ ⟨rfl,rfl,rfl,by simp;rfl,rfl,trivial⟩ trivial
 ·clear hF;rintro m σ H ⟨i,hi,rfl,hF,rfl,rfl⟩;refine kWS ?_;intros;refine CondP.dec (fun h=>?_) (fun h=>?_)<;>refine kW ?_
  ·have hi':i<l.length:=by omega
   have hx:=hn _ (List.getElem_mem hi');rw[List.drop_eq_getElem_cons hi',List.map_cons] at hF;unfold risG at hF;have hnx:(l.map Whn.name)[i]?=some l[i].name:=by rw[List.getElem?_map,List.getElem?_eq_getElem hi'];rfl
   refine kR ?_;intros;generalize l[i]=x at hx hF hnx ⊢;have hnm:=J1w x.name (by omega);generalize nameF x.name=b at hF hnm;refine kR ?_;intros;refine CallG.intro _ c254 (J8E x) ?_;refine kWQ ?_;intros;refine CallG.intro _ c90 hnm ?_;refine kWQ ?_;intros;refine CondP.intro (fun hq=>?_) (fun hq=>?_)<;>refine kW ?_
   case' refine_2=>
    rw[hq,Bool.false_and,Bool.false_and] at hF;refine kR ?_;intros;exact .of (by rw[← hF];rfl)
   rw[hq,Bool.true_and] at hF
   cases i with
   |zero=>
     refine kR ?_;intros
     exact .intro <| W.of ⟨_,by omega,1,hi',rfl,by rw[← hF];show risG _ (pvN _ (0+1))=_;rw[J7e,hnx];rfl,rfl,rfl⟩ ⟨rfl,rfl,rfl,rfl,rfl,trivial⟩ trivial
   |succ i=>
     have hi2:i<l.length:=by omega
     rw[J7e,List.getElem?_map,List.getElem?_eq_getElem hi2] at hF;replace hF:(Op.bytesLess l[i].name.toList x.name.toList&&risG ((l.drop (i+1+1)).map Whn.name) (some x.name))=F:=hF;have hp0:(0:Int)<((i+1:Nat):Int):=by omega
     refine kR ?_;intros
     try simp only[show ((i+1:Nat):Int)-1=(i:Int) by omega]
     refine kR ?_;intros;generalize l[i]=y at hF ⊢;refine kR ?_;intros;refine CallG.intro _ c254 (J8E y) ?_;refine kWR ?_;intros;refine CallG.intro _ c254 (J8E x) ?_;refine kWR ?_;intros;refine CondP.intro (fun h2=>?_) (fun h2=>?_)<;>refine kW ?_
     ·rw[h2,Bool.true_and] at hF;refine kR ?_;intros
      exact .intro <| W.of ⟨_,by omega,i+1+1,hi',rfl,by rw[J7e,hnx];exact hF,rfl,rfl⟩ ⟨rfl,rfl,rfl,rfl,rfl,trivial⟩ trivial
     ·rw[h2,Bool.false_and] at hF;refine kR ?_;intros;exact .of (by rw[← hF];rfl)
  ·refine kS ?_;intros;rw[List.drop_eq_nil_of_le (by omega)] at hF;exact .of (by rw[← hF];rfl)
def J8s (k t:Int):Bool:=!((!decide (t=0)&&!decide (t=1))||decide (k<0)||decide (3<k)||(!decide (t=0)&&(decide (k=0)||decide (k=3))))
def varF (v:Va):Bool:=
 J8s v.kind v.type&&(if v.kind=2 then valueF v.value v.type else decide (v.value=⟨#[]⟩))
  && (decide (v.start=⟨#[]⟩)||((decide (v.kind=0)||decide (v.kind=1))&&valueF v.start v.type))&&!(v.fixed&&decide (v.start=⟨#[]⟩))
  && (decide (v.unit=⟨#[]⟩)||(decide (v.type=0)&&unitF v.unit))
theorem JAB (v:Va)(h1:v.value.size<2^35)(h2:v.start.size<2^35)(h3:v.unit.size<2^35):PX 257 [encV v] (encB (varF v)):=by
 refine PZ Tryz.func257 rfl ?_;obtain ⟨name,k,t,vl,st,fx,un⟩:=v;have hv1:=JBD vl t h1;have hv2:=JBD st t h2;have hu:=JMI un h3;generalize hF:varF ⟨name,k,t,vl,st,fx,un⟩=F;unfold varF at hF;simp only at hF hv1 hv2 hu;generalize valueF vl t=b1 at hF hv1;generalize valueF st t=b2 at hF hv2;generalize unitF un=b3 at hF hu;clear h1 h2 h3
 by_cases hk:J8s k t=true
 case' neg=>
  have hk':J8s k t=false:=by simpa using hk
  rw[hk',Bool.false_and,Bool.false_and,Bool.false_and,Bool.false_and] at hF;subst hF;unfold J8s at hk';refine kW ?_
  (repeat (any_goals (first|((first|refine N0 ?_|refine A0 fun γ=>?_|refine C1 ?_|refine C2 ?_|refine C3 ?_|refine C4 ?_|refine C5 ?_|refine C6 ?_|refine C7 ?_|refine D0 fun γs=>?_|refine A1 fun γs=>?_|refine N2 ?_|refine N3 ?_|refine N1 ?_);refine kW ?_)|(refine CondP.dec (fun _=>?_) (fun _=>?_)<;>refine kW ?_)|(refine CondP.intro (fun _=>?_) (fun _=>?_)<;>refine kW ?_))))
  all_goals first
   |exact .of rfl
   |(exfalso;simp_all<;>omega)
 rw[hk,Bool.true_and] at hF
 have hcs:(t=0∧(k=0∨k=1∨k=2∨k=3))∨(t=1∧(k=1∨k=2)):=by
  unfold J8s at hk;simp at hk;omega
 clear hk
 rcases hcs with ⟨rfl,rfl|rfl|rfl|rfl⟩|⟨rfl,rfl|rfl⟩
 all_goals
  simp only[Int.reduceEq,decide_true,decide_false,Bool.true_or,Bool.or_true,Bool.false_or,Bool.or_self,if_true,if_false,Bool.true_and,Bool.false_and,eq_self,Bool.or_false,reduceIte] at hF;(refine kWS ?_;repeat intro γ)
  repeat (any_goals (first
   |exact .of (by rw[← hF];rfl)
   |(refine CallP.flat [] _ c320 hv1 rfl ?_;refine kW ?_;(refine kS ?_;repeat intro γ))
   |(refine CallP.flat [] _ c320 hv2 rfl ?_;refine kW ?_;(refine kS ?_;repeat intro γ))
   |(refine CallP.flat [] _ c321 hu rfl ?_;refine kW ?_;(refine kS ?_;repeat intro γ))
   |(refine CondP.intro (fun h=>?_) (fun h=>?_)<;>refine kW ?_<;>(try simp only at h)<;>(try simp only[h,Bool.true_and,Bool.false_and,Bool.and_true,Bool.and_false,Bool.true_or,Bool.false_or,Bool.not_true,Bool.not_false,Bool.or_true,Bool.or_false] at hF)<;>(refine kS ?_;repeat intro γ))))
theorem JDp (v:Va)(h1:v.value.size<2^35)(h2:v.start.size<2^35)(h3:v.unit.size<2^35):PX 256 [encV v] (encB (!varF v)):=by
 refine PZ Tryz.func256 rfl ?_;refine kWS ?_;intros;refine CallP.flat [] _ c257 (JAB v h1 h2 h3) rfl ?_;refine kWS ?_;intros;exact .of rfl
def putK {β:Type}(l:List (ByteArray×β))(k:ByteArray)(v:β):List (ByteArray×β):=match l with
 |[]=>[(k,v)]
 |x::r=>if k=x.1 then (x.1,v)::r else x::putK r k v
theorem JAX {β:Type}(f:β→AV)(k:ByteArray)(v:β):∀ l:List (ByteArray×β),∃ r,J10 (J0h T 9 (encS k)) (l.map fun x=>encS x.1)=some r∧(match r with
  |some i=>(l.map fun x=>encS x.1)=((putK l k v).map fun x=>encS x.1)∧(l.map fun x=>f x.2).set i (f v)=(putK l k v).map fun x=>f x.2
  |none=>(l.map fun x=>encS x.1)++[encS k]=((putK l k v).map fun x=>encS x.1)∧(l.map fun x=>f x.2)++[f v]=(putK l k v).map fun x=>f x.2)
 |[]=>⟨none,rfl,rfl,rfl⟩
 |x :: l=>by
   obtain ⟨r,h1,h2⟩:=JAX f k v l;rw[List.map_cons,List.map_cons];unfold J10 putK;rw[J5Y]
   by_cases h:k=x.1
   ·rw[decide_eq_true h,if_pos h];exact ⟨some 0,rfl,rfl,rfl⟩
   ·rw[decide_eq_false h,if_neg h,h1];refine ⟨r.map (· + 1),rfl,?_⟩
    revert h2
    cases r with
    |none=>
      rintro ⟨h2,h3⟩;exact ⟨by rw[List.map_cons,← h2];rfl,by rw[List.map_cons,← h3];rfl⟩
    |some i=>
      rintro ⟨h2,h3⟩;exact ⟨by rw[List.map_cons,← h2],by rw[List.map_cons,← h3];rfl⟩
def knownF (vs:List Va):List (ByteArray×Va):=vs.foldl (fun l v=>putK l v.name v) []
theorem J7m (s:Sys)(hv:s.vars.length≤2^60):PX 99 [J0Q s] (encK (knownF s.vars)):=by
 refine PC [6] Tryz.func99 rfl (by rfl) rfl ?_;obtain ⟨vs,qs,ns,ws⟩:=s;simp only at hv ⊢;generalize hF:knownF vs=F;unfold knownF at hF;unfold J0Q;refine kWS ?_;intros
 refine LoopP.intro (fun k σ H=>∃ g i,∃ l:List (ByteArray×Va),k=vs.length-i∧i≤vs.length∧(vs.drop i).foldl (fun l v=>putK l v.name v) l=F ∧
  σ=fr [(2,.val (.map none)),(3,.om 6 g),(8,.sl 7 (vs.map encV)),(9,encI vs.length),(10,encI i)] ∧
  H=hp [(6,g,⟨109,0,[encK l]⟩)]) ?_ ?_
 ·refine .intro <| W.of ⟨_,_,0,[],rfl,Nat.zero_le _,hF,rfl,rfl⟩ ⟨rfl,rfl,rfl,?_,rfl,trivial⟩ ⟨rfl,trivial⟩
  show AV.val (.int .i64 _)=AV.val (.int .i64 _)
  rw[List.length_map]
 ·clear hF;rintro k σ H ⟨g,i,l,rfl,hi,hF,rfl,rfl⟩;refine kWS ?_;intros;refine CondP.dec (fun h=>?_) (fun h=>?_)<;>refine kW ?_
  ·have hi':i<vs.length:=by omega
   rw[List.drop_eq_getElem_cons hi',List.foldl_cons] at hF;refine kR ?_;intros;generalize vs[i]=v at hF ⊢;refine kR ?_;intros;refine Need.intro keyst9 ?_;refine kWR ?_;intros;obtain ⟨r,hr,hm⟩:=JAX encV v.name v l;refine LookP.intro r hr ?_
   cases r with
   |some j=>
     refine kWR ?_;intros
     refine .intro <| W.of ⟨_,by omega,_,i+1,putK l v.name v,rfl,hi',hF,rfl,rfl⟩ ⟨rfl,rfl,rfl,rfl,rfl,trivial⟩ ⟨?_,trivial⟩
     exact congrArg (fun z=>some (g,(⟨109,0,[z]⟩:Blk))) (congr (congrArg AV.mp hm.1) hm.2)
   |none=>
     refine kWR ?_;intros
     refine .intro <| W.of ⟨_,by omega,_,i+1,putK l v.name v,rfl,hi',hF,rfl,rfl⟩ ⟨rfl,rfl,rfl,rfl,rfl,trivial⟩ ⟨?_,trivial⟩
     exact congrArg (fun z=>some (g,(⟨109,0,[z]⟩:Blk))) (congr (congrArg AV.mp hm.1) hm.2)
  ·rw[List.drop_eq_nil_of_le (by omega)] at hF;refine kS ?_;intros;exact .of (by rw[← hF];rfl)
def typedF (ks:List (ByteArray×Va))(e:Ex)(t:Int):Bool:=builtF e&&(typeF ks e).2&&decide ((typeF ks e).1=t)
theorem J4i (ks:List (ByteArray×Va))(e:Ex)(t:Int)(hs:SzE e)(hx:TxE e):PX 258 [encK ks,encE e,encI t] (encB (typedF ks e t)):=by
 refine PZ Tryz.func258 rfl ?_;have hb:=JCG e hs hx;have hT:=JFq ks e hs;generalize hF:typedF ks e t=F;unfold typedF at hF;generalize builtF e=b at hF hb hT;generalize typeF ks e=ty at hF hT;rw[J01] at hb hT ⊢;refine kWS ?_;intros;refine CallP.flat [] _ c123 hb rfl ?_;refine kWS ?_;intros
 cases b with
 |false=>
   rw[Bool.false_and,Bool.false_and] at hF;refine kS ?_;intros;exact .of (by rw[← hF];rfl)
 |true=>
   rw[Bool.true_and] at hF;obtain ⟨x,y⟩:=ty;simp only at hF;refine kS ?_;intros;refine J00 [] _ c124 (hT rfl) ?_;refine kWS ?_;intros
   cases y with
   |false=>
     rw[Bool.false_and] at hF;refine kS ?_;intros;exact .of (by rw[← hF];rfl)
   |true=>
     rw[Bool.true_and] at hF;refine kS ?_;intros;exact .of (by rw[← hF];rfl)
def setM (A:List ByteArray):AV:=.mp (A.map encS) (A.map fun _=>encB true)
def memA (s:ByteArray)(A:List ByteArray):Bool:=A.any fun x=>decide (s=x)
theorem JAL (s:ByteArray):∀ A:List ByteArray,∃ r,J10 (J0h T 9 (encS s)) (A.map encS)=some r∧(match r with
  |some i=>memA s A=true∧(A.map fun _=>encB true).getD i .dead=encB true
  |none=>memA s A=false)
 |[]=>⟨none,rfl,rfl⟩
 |x :: l=>by
   obtain ⟨r,h1,h2⟩:=JAL s l;rw[List.map_cons];unfold J10;rw[J5Y]
   by_cases h:s=x
   ·rw[decide_eq_true h];exact ⟨some 0,rfl,by simp[memA,h],rfl⟩
   ·rw[decide_eq_false h,h1];refine ⟨r.map (· + 1),rfl,?_⟩
    revert h2
    cases r with
    |none=>intro h2;simpa [memA,h] using h2
    |some i=>rintro ⟨h2,h3⟩;exact ⟨by unfold memA at *;rw[List.any_cons,h2,Bool.or_true],h3⟩
theorem J8Y (p:Nat)(e:Nat)(A:List ByteArray)(v:ByteArray):some (p,(⟨e,0,[.mp (A.map encS++[encS v]) ((A.map fun _=>encB true)++[encB true])]⟩:Blk))=some (p,⟨e,0,[setM (A++[v])]⟩):=by
 unfold setM;rw[List.map_append,List.map_append];rfl
def badA (ks:List (ByteArray×Va))(a:Ac)(A:List ByteArray):Bool:=match J0f ks a.var with
 |none=>true
 |some v=>(!decide (a.kind=0)&&!decide (a.kind=1))||!decide (v.kind=if a.kind=0 then 1 else 0)||memA a.var A||!typedF ks a.value v.type
def J8D (ks:List (ByteArray×Va)):List Ac→List ByteArray→List ByteArray→Bool×List ByteArray
 |[],_,A=>(true,A)
 |a::r,S,A=>if badA ks a (if a.kind=0 then A else S) then (false,A) else if a.kind=0 then J8D ks r S (A++[a.var]) else J8D ks r (S++[a.var]) A
def JAz (ks:List (ByteArray×Va))(w:Whn)(A:List ByteArray):Bool×List ByteArray:=((J8D ks w.acts [] A).1&&decide (0<w.acts.length),(J8D ks w.acts [] A).2)
theorem JJe (ks : List (ByteArray×Va))(w:Whn)(A:List ByteArray)(p:Nat)(hl:w.acts.length≤2^40)(he:∀ a∈w.acts,SzE a.value∧TxE a.value) :
  HCall Tryz.prog 259 [encK ks,J1Q w,.om 50 p] (hp [(50,p,⟨302,0,[setM A]⟩)]) (fun r h=>r=encB (JAz ks w A).1∧h=hp [(50,p,⟨302,0,[setM (JAz ks w A).2]⟩)]):=by
 refine J4n (E:=E 0) J4L (JKl 0) Tryz.func259 rfl (by rfl) (Nat.le_of_ble_eq_true rfl) ?_;obtain ⟨wn,wc,ats⟩:=w;simp only at hl he;generalize hF:JAz ks ⟨wn,wc,ats⟩ A=F;unfold JAz at hF;simp only at hF;obtain ⟨G,hG⟩:∃ G,J8D ks ats [] A=G:=⟨_,rfl⟩;rw[hG] at hF;unfold J1Q;refine kWS ?_;intros
 refine LoopP.intro (fun k σ H=>∃ g g4 i,∃ S A:List ByteArray,k=ats.length-i∧i≤ats.length∧J8D ks (ats.drop i) S A=G ∧
  σ=fr [(0,encK ks),(2,.om 50 p),(4,.op 4 g4 0 0),(6,encB false),(7,.om 14 g),(16,.sl 6 (ats.map JF4)),(17,encI ats.length),(18,encI i)] ∧
  H=hp [(4,g4,⟨228,6,[J1Q ⟨wn,wc,ats⟩]⟩),(14,g,⟨302,0,[setM S]⟩),(50,p,⟨302,0,[setM A]⟩)]) ?_ ?_
 ·refine .intro <| W.of ⟨_,_,_,0,[],A,rfl,Nat.zero_le _,hG,rfl,rfl⟩ ⟨rfl,rfl,rfl,rfl,rfl,rfl,?_,rfl,trivial⟩ ⟨rfl,rfl,rfl,trivial⟩
  show AV.val (.int .i64 _)=AV.val (.int .i64 _)
  rw[List.length_map]
 ·clear hG A;rintro k σ H ⟨g,g4,i,S,A,rfl,hi,hG,rfl,rfl⟩;refine kWS ?_;intros;refine CondP.dec (fun h=>?_) (fun h=>?_)<;>refine kW ?_
  ·have hi':i<ats.length:=by omega
   rw[List.drop_eq_getElem_cons hi'] at hG;have hz:=he ats[i] (List.getElem_mem hi');refine kR ?_;intros;generalize ats[i]=a at hG hz ⊢;obtain ⟨ak,av,ae⟩:=a;simp only at hz;refine kR ?_;intros;refine Need.intro keyst9 ?_;refine kW ?_;obtain ⟨r,hr,hm⟩:=J1J encV av ks;refine LookP.intro r hr ?_;unfold J8D badA at hG;simp only at hG
   cases ha:J0f ks av with
   |none=>
     rw[ha] at hm hG
     cases r with
     |some i=>exact hm.elim
     |none=>
       replace hG:(false,A)=G:=hG;refine kWS ?_;intros;refine CondP.dec (fun _=>?_) (fun _=>?_)<;>refine kW ?_<;>refine kS ?_;intros
       all_goals exact EndH.of (m:=[(50,p,⟨302,0,[setM A]⟩)]) ⟨rfl,trivial⟩ ⟨by rw[← hF,← hG];rfl,by rw[← hF,← hG]⟩
   |some v=>
     rw[ha] at hm hG
     cases r with
     |none=>exact hm.elim
     |some j=>
       refine kW ?_;rw[show (List.map (fun x=>encV x.snd) ks).getD j AV.dead=encV v from hm];refine kWS ?_;intros;replace hG:(if ((!decide (ak=0)&&!decide (ak=1))||!decide (v.kind=if ak=0 then 1 else 0)||memA av (if ak=0 then A else S)||!typedF ks ae v.type) then (false,A) else if ak=0 then J8D ks (ats.drop (i+1)) S (A++[av]) else J8D ks (ats.drop (i+1)) (S++[av]) A)=G:=hG;have hty:=J4i ks ae v.type hz.1 hz.2;generalize typedF ks ae v.type=bt at hG hty;rw[J01] at hty;refine CondP.dec (fun h0=>?_) (fun h0=>?_)<;>refine kW ?_
       case' refine_1=>
        simp only[h0,decide_true,Bool.not_true,Bool.false_and,Bool.false_or,if_true] at hG;obtain ⟨r2,hr2,hm2⟩:=JAL av A;refine kS ?_;intros
       case' refine_2=>
        by_cases h01:ak=1
        case' neg=>
         simp only[h0,h01,decide_false,Bool.not_false,Bool.true_and,Bool.true_or,if_true] at hG;refine kS ?_;intros;exact EndH.of (m:=[(50,p,⟨302,0,[setM A]⟩)]) ⟨rfl,trivial⟩ ⟨by rw[← hF,← hG];rfl,by rw[← hF,← hG]⟩
        simp only[h0,h01,decide_false,decide_true,Bool.not_true,Bool.not_false,Bool.and_false,Bool.false_or,if_false,Int.reduceEq] at hG;obtain ⟨r2,hr2,hm2⟩:=JAL av S;refine kS ?_;intros
       all_goals
        refine CondP.dec (fun h1=>?_) (fun h1=>?_)<;>refine kW ?_
        ·simp only[h1,decide_true,Bool.not_true,Bool.false_or] at hG;refine kS ?_;intros;refine Need.intro keyst9 ?_;refine kWS ?_;intros;refine LookP.intro r2 hr2 ?_
         cases r2 with
         |some j2=>
           obtain ⟨hm3,hm4⟩:=hm2;simp only[hm3,Bool.true_or,if_true] at hG;refine kW ?_;rw[hm4];refine kWS ?_;intros;exact EndH.of (m:=[(50,p,⟨302,0,[setM A]⟩)]) ⟨rfl,trivial⟩ ⟨by rw[← hF,← hG];rfl,by rw[← hF,← hG]⟩
         |none=>
           replace hm2:memA av _=false:=hm2;simp only[hm2,Bool.false_or] at hG;refine kWS ?_;intros;refine CallP.flat [] _ c258 hty rfl ?_;refine kWS ?_;intros
           cases bt with
           |false=>
             replace hG:(false,A)=G:=hG;refine kS ?_;intros;exact EndH.of (m:=[(50,p,⟨302,0,[setM A]⟩)]) ⟨rfl,trivial⟩ ⟨by rw[← hF,← hG];rfl,by rw[← hF,← hG]⟩
           |true=>
             simp only[Bool.not_true,Bool.false_eq_true,if_false] at hG;refine kS ?_;intros;refine Need.intro keyst9 ?_;refine kWS ?_;intros;refine LookP.intro none hr2 ?_;refine kWS ?_;intros
             first
              |refine .intro <| W.of ⟨_,by omega,_,_,i+1,S,A++[av],rfl,hi',hG,rfl,rfl⟩ ⟨rfl,rfl,rfl,rfl,rfl,rfl,rfl,rfl,trivial⟩ ⟨rfl,rfl,J8Y ..,trivial⟩
              |refine .intro <| W.of ⟨_,by omega,_,_,i+1,S++[av],A,rfl,hi',hG,rfl,rfl⟩ ⟨rfl,rfl,rfl,rfl,rfl,rfl,rfl,rfl,trivial⟩ ⟨rfl,J8Y ..,rfl,trivial⟩
        ·simp only[h1,decide_false,Bool.not_false,Bool.true_or,if_true] at hG;refine kS ?_;intros;exact EndH.of (m:=[(50,p,⟨302,0,[setM A]⟩)]) ⟨rfl,trivial⟩ ⟨by rw[← hF,← hG];rfl,by rw[← hF,← hG]⟩
  ·rw[List.drop_eq_nil_of_le (by omega)] at hG;refine kS ?_;intros;replace hG:(true,A)=G:=hG;refine EndH.of (m:=[(50,p,⟨302,0,[setM A]⟩)]) ⟨rfl,trivial⟩ ⟨?_,by rw[← hF,← hG]⟩;rw[← hF,← hG];show AV.val (.bool (decide _))=AV.val (.bool (decide _))
   congr 2
   exact decide_eq_decide.2 (by simp)
def eqT (ks:List (ByteArray×Va))(q:Eqn):Bool:=typedF ks q.left 0&&typedF ks q.right 0
def J8O (ks:List (ByteArray×Va)):List Whn→List ByteArray→Bool
 |[],_=>true
 |w::r,A=>typedF ks w.cond 1&&(JAz ks w A).1&&J8O ks r (JAz ks w A).2
def validF (s:Sys):Bool:=
 risG (s.vars.map Va.name) none&&risG (s.eqs.map Eqn.name) none&&risG (s.inits.map Eqn.name) none&&risG (s.whens.map Whn.name) none
  && !(s.vars.any fun v=>!varF v)&&(s.eqs.all (eqT (knownF s.vars))&&s.inits.all (eqT (knownF s.vars)))&&J8O (knownF s.vars) s.whens []
theorem J4j {l:List Eqn}{q:Eqn}(h:q∈l):q.left∈J1e l∧q.right∈J1e l:=by
 unfold J1e;exact ⟨List.mem_flatMap.2 ⟨q,h,by simp⟩,List.mem_flatMap.2 ⟨q,h,by simp⟩⟩
theorem JBg {l:List Whn}{w:Whn}(h:w∈l):w.cond∈l.flatMap J52∧∀ a∈w.acts,a.value∈l.flatMap J52:=by
 refine ⟨List.mem_flatMap.2 ⟨w,h,by simp[J52]⟩,fun a ha=>List.mem_flatMap.2 ⟨w,h,?_⟩⟩;unfold J52;exact List.mem_cons_of_mem _ (List.mem_map.2 ⟨a,ha,rfl⟩)
theorem JGW (s:Sys)(hs:SzS s)(h20:∀ w∈s.whens,w.acts.length≤20):PX 175 [J0Q s] (encB (validF s)):=by
 refine PZ Tryz.func175 rfl ?_;have r1:=JCi s.vars hs.v fun v hv=>(hs.t v hv).1;have r2:=J6j s.eqs hs.q hs.m.1;have r3:=J6j s.inits hs.n hs.m.2.1;have r4:=JCh s.whens hs.w hs.m.2.2;have hC:=J9W 256 (fun v=>!varF v) s.vars hs.v c256 fun v hv=>JDp v (hs.t v hv).2.1 (hs.t v hv).2.2.1 (hs.t v hv).2.2.2;have hK:=J7m s hs.v;have hQ:∀ q∈s.eqs,(SzE q.left∧TxE q.left)∧SzE q.right∧TxE q.right:=fun q hq=>⟨hs.e _ (by unfold allF;exact List.mem_append_left _ (List.mem_append_left _ (J4j hq).1)),hs.e _ (by unfold allF;exact List.mem_append_left _ (List.mem_append_left _ (J4j hq).2))⟩;have hN:∀ q∈s.inits,(SzE q.left∧TxE q.left)∧SzE q.right∧TxE q.right:=fun q hq=>⟨hs.e _ (by unfold allF;exact List.mem_append_left _ (List.mem_append_right _ (J4j hq).1)),hs.e _ (by unfold allF;exact List.mem_append_left _ (List.mem_append_right _ (J4j hq).2))⟩;have hWc:∀ w∈s.whens,SzE w.cond∧TxE w.cond:=fun w hw=>hs.e _ (by unfold allF;exact List.mem_append_right _ (JBg hw).1);have hWa:∀ w∈s.whens,∀ a∈w.acts,SzE a.value∧TxE a.value:=fun w hw a ha=>hs.e _ (by unfold allF;exact List.mem_append_right _ ((JBg hw).2 a ha));have hq:=hs.q;have hn:=hs.n;have hw:=hs.w;clear hs;generalize hF:validF s=F;unfold validF at hF;obtain ⟨vs,qs,ns,ws⟩:=s;simp only at *;generalize risG (vs.map Va.name) none=b1 at *;generalize risG (qs.map Eqn.name) none=b2 at *;generalize risG (ns.map Eqn.name) none=b3 at *;generalize risG (ws.map Whn.name) none=b4 at *;generalize (vs.any fun v=>!varF v)=b5 at *;generalize knownF vs=ks at *;unfold J0Q at hK ⊢;refine kWS ?_;intros;refine CallP.flat [] _ c249 r1 rfl ?_;refine kWS ?_;intros;refine CondP.intro (fun h=>?_) (fun h=>?_)<;>refine kW ?_
 case' refine_2=>
  simp only[h,Bool.false_and] at hF;refine kS ?_;intros;exact .of (by rw[← hF];rfl)
 simp only[h,Bool.true_and] at hF;refine kS ?_;intros;refine CallP.flat [] _ c251 r2 rfl ?_;refine kWS ?_;intros;refine CondP.intro (fun h=>?_) (fun h=>?_)<;>refine kW ?_
 case' refine_2=>
  simp only[h,Bool.false_and] at hF;refine kS ?_;intros;exact .of (by rw[← hF];rfl)
 simp only[h,Bool.true_and] at hF;refine kS ?_;intros;refine CallP.flat [] _ c251 r3 rfl ?_;refine kWS ?_;intros;refine CondP.intro (fun h=>?_) (fun h=>?_)<;>refine kW ?_
 case' refine_2=>
  simp only[h,Bool.false_and] at hF;refine kS ?_;intros;exact .of (by rw[← hF];rfl)
 simp only[h,Bool.true_and] at hF;refine kS ?_;intros;refine CallP.flat [] _ c253 r4 rfl ?_;refine kWS ?_;intros;refine CondP.intro (fun h=>?_) (fun h=>?_)<;>refine kW ?_
 case' refine_2=>
  simp only[h,Bool.false_and] at hF;refine kS ?_;intros;exact .of (by rw[← hF];rfl)
 simp only[h,Bool.true_and] at hF;refine kS ?_;intros;refine CallP.flat [] _ c255 hC rfl ?_;refine kWS ?_;intros;refine CondP.intro (fun h=>?_) (fun h=>?_)<;>refine kW ?_
 ·simp only[h,Bool.not_true,Bool.false_and] at hF;refine kS ?_;intros;exact .of (by rw[← hF];rfl)
 simp only[h,Bool.not_false,Bool.true_and] at hF;refine kS ?_;intros;refine J00 [] _ c99 hK ?_;refine kWS ?_;intros
 have hQN:∀ l∈[qs,ns],l.length≤2^60∧∀ q∈l,(SzE q.left∧TxE q.left)∧SzE q.right∧TxE q.right:=by
  intro l hl
  rcases List.mem_cons.1 hl with h|h
  ·rw[h];exact ⟨hq,hQ⟩
  ·rw[List.mem_singleton.1 h];exact ⟨hn,hN⟩
 obtain ⟨wh,hwh⟩:∃ wh,J8O ks ws []=wh:=⟨_,rfl⟩;rw[hwh] at hF;replace hF:([qs,ns].all (fun l=>l.all (eqT ks))&&wh)=F:=by rw[← hF];simp
 clear hQ hN r1 r2 r3 r4 hC hK
 refine LoopP.intro (fun k σ H=>∃ g1 g42 i,k=2-i∧i≤2∧(([qs,ns].drop i).all (fun l=>l.all (eqT ks))&&wh)=F ∧
  σ=fr [(1,.op 1 g1 0 0),(2,encB false),(3,encK ks),(42,.own 42 g42 0 2),(43,encI 2),(44,encI i)] ∧
  H=hp [(1,g1,⟨26,4,[.agg [.sl 7 (vs.map encV),.sl 9 (qs.map J0m),.sl 9 (ns.map J0m),.sl 6 (ws.map J1Q)]]⟩),(42,g42,⟨23,1,[qs,ns].map fun l=>.sl 9 (l.map J0m)⟩)]) ?_ ?_
 ·exact .intro <| W.of ⟨_,_,_,0,rfl,by omega,hF,rfl,rfl⟩ ⟨rfl,rfl,rfl,rfl,rfl,rfl,trivial⟩ ⟨rfl,rfl,trivial⟩
 ·clear hF;rintro k σ H ⟨g1,g42,i,rfl,hi,hF,rfl,rfl⟩;refine kWS ?_;intros;refine CondP.dec (fun h=>?_) (fun h=>?_)<;>refine kW ?_
  ·have hi':i<[qs,ns].length:=by simp;omega
   rw[List.drop_eq_getElem_cons hi',List.all_cons] at hF;obtain ⟨hl,hlq⟩:=hQN _ (List.getElem_mem hi');refine kR ?_;intros;generalize [qs,ns][i]=l at hF hl hlq ⊢;obtain ⟨rs,hrs⟩:∃ rs,([qs,ns].drop (i+1)).all (fun l=>l.all (eqT ks))=rs:=⟨_,rfl⟩;rw[hrs] at hF
   refine LoopP.intro (fun k σ H=>∃ j,k=l.length-j∧j≤l.length∧((l.drop j).all (eqT ks)&&rs&&wh)=F ∧
    σ=fr [(1,.op 1 g1 0 0),(2,encB false),(3,encK ks),(42,.own 42 g42 0 2),(43,encI 2),(44,encI i),(48,.sl 9 (l.map J0m)),(49,encI l.length),(50,encI j)] ∧
    H=hp [(1,g1,⟨26,4,[.agg [.sl 7 (vs.map encV),.sl 9 (qs.map J0m),.sl 9 (ns.map J0m),.sl 6 (ws.map J1Q)]]⟩),(42,g42,⟨23,1,[qs,ns].map fun l=>.sl 9 (l.map J0m)⟩)]) ?_ ?_
   ·exact .intro <| W.of ⟨_,0,rfl,Nat.zero_le _,hF,rfl,rfl⟩ ⟨rfl,rfl,rfl,rfl,rfl,rfl,rfl,rfl,rfl,trivial⟩ ⟨rfl,rfl,trivial⟩
   ·clear hF;rintro k σ H ⟨j,rfl,hj,hF,rfl,rfl⟩;refine kWS ?_;intros;refine CondP.dec (fun h=>?_) (fun h=>?_)<;>refine kW ?_
    ·have hj':j<l.length:=by omega
     rw[List.drop_eq_getElem_cons hj',List.all_cons] at hF;have hz:=hlq _ (List.getElem_mem hj');refine kR ?_;intros;generalize l[j]=q at hF hz ⊢;unfold eqT at hF;have t1:=J4i ks q.left 0 hz.1.1 hz.1.2;have t2:=J4i ks q.right 0 hz.2.1 hz.2.2;generalize typedF ks q.left 0=y1 at hF t1;generalize typedF ks q.right 0=y2 at hF t2;rw[J0R] at t1 t2;refine kR ?_;intros;refine CallP.flat [] _ c258 t1 rfl ?_;refine kWS ?_;intros;refine CondP.intro (fun h1=>?_) (fun h1=>?_)<;>refine kW ?_
     case' refine_2=>
      simp only[h1,Bool.false_and] at hF;refine kS ?_;intros;exact .of (by rw[← hF];rfl)
     simp only[h1,Bool.true_and] at hF;refine kS ?_;intros;refine CallP.flat [] _ c258 t2 rfl ?_;refine kWS ?_;intros;refine CondP.intro (fun h2=>?_) (fun h2=>?_)<;>refine kW ?_
     case' refine_2=>
      simp only[h2,Bool.false_and] at hF;refine kS ?_;intros;exact .of (by rw[← hF];rfl)
     simp only[h2,Bool.true_and] at hF;refine kS ?_;intros
     exact .intro <| W.of ⟨_,by omega,j+1,rfl,hj',hF,rfl,rfl⟩ ⟨rfl,rfl,rfl,rfl,rfl,rfl,rfl,rfl,rfl,trivial⟩ ⟨rfl,rfl,trivial⟩
    ·rw[List.drop_eq_nil_of_le (by omega)] at hF;refine kS ?_;intros
     exact .intro <| W.of ⟨_,by omega,_,_,i+1,rfl,by omega,by rw[hrs];exact hF,rfl,rfl⟩ ⟨rfl,rfl,rfl,rfl,rfl,rfl,trivial⟩ ⟨rfl,rfl,trivial⟩
  ·rw[List.drop_eq_nil_of_le (by simp;omega)] at hF;replace hF:wh=F:=hF;rw[← hwh] at hF;refine kS ?_;intros
   refine LoopP.intro (fun k σ H=>∃ g i,∃ A:List ByteArray,k=ws.length-i∧i≤ws.length∧J8O ks (ws.drop i) A=F ∧
    σ=fr [(2,encB false),(3,encK ks),(8,.om 68 g),(70,.sl 6 (ws.map J1Q)),(71,encI ws.length),(72,encI i)] ∧
    H=hp [(68,g,⟨302,0,[setM A]⟩)]) ?_ ?_
   ·refine .intro <| W.of ⟨_,_,0,[],rfl,Nat.zero_le _,hF,rfl,rfl⟩ ⟨rfl,rfl,rfl,rfl,?_,rfl,trivial⟩ ⟨rfl,trivial⟩
    show AV.val (.int .i64 _)=AV.val (.int .i64 _)
    rw[List.length_map]
   ·clear hF hwh;rintro k σ H ⟨g,i,A,rfl,hi,hF,rfl,rfl⟩;refine kWS ?_;intros;refine CondP.dec (fun h=>?_) (fun h=>?_)<;>refine kW ?_
    ·have hi':i<ws.length:=by omega
     rw[List.drop_eq_getElem_cons hi'] at hF;unfold J8O at hF;have hz:=hWc _ (List.getElem_mem hi');have hza:=hWa _ (List.getElem_mem hi');have h20':=h20 _ (List.getElem_mem hi');refine kR ?_;intros;generalize ws[i]=w at hF hz hza h20' ⊢;have t1:=J4i ks w.cond 1 hz.1 hz.2;generalize typedF ks w.cond 1=y1 at hF t1;rw[J0R] at t1;refine kR ?_;intros;refine CallP.flat [] _ c258 t1 rfl ?_;refine kWS ?_;intros;refine CondP.intro (fun h1=>?_) (fun h1=>?_)<;>refine kW ?_
     case' refine_2=>
      simp only[h1,Bool.false_and] at hF;refine kS ?_;intros;exact .of (by rw[← hF];rfl)
     simp only[h1,Bool.true_and] at hF;refine kS ?_;intros;refine CallP.frame 1000000 [(50,68)] rfl c259 (JJe ks w A g (by omega) hza) rfl ⟨rfl,trivial⟩ ?_;rintro r0 h' ⟨rfl,rfl⟩;refine ⟨[(68,g,⟨302,0,[setM (JAz ks w A).2]⟩)],⟨rfl,trivial⟩,?_⟩;refine kWS ?_;intros;refine CondP.intro (fun h2=>?_) (fun h2=>?_)<;>refine kW ?_
     case' refine_2=>
      simp only[h2,Bool.false_and] at hF;refine kS ?_;intros;exact .of (by rw[← hF];rfl)
     simp only[h2,Bool.true_and] at hF;refine kS ?_;intros
     exact .intro <| W.of ⟨_,by omega,_,i+1,_,rfl,hi',hF,rfl,rfl⟩ ⟨rfl,rfl,rfl,rfl,rfl,rfl,trivial⟩ ⟨rfl,trivial⟩
    ·rw[List.drop_eq_nil_of_le (by omega)] at hF;refine kS ?_;intros;exact .of (by rw[← hF];rfl)
def checkF (s:Sys):Int:=if largeF s then 2 else if validF s then 0 else 1
theorem JHo (s:Sys)(hs:SzS s):PX 89 [J0Q s] (encI (checkF s)):=by
 refine PZ Tryz.func89 rfl ?_;have hL:=JGw s hs
 have h20:largeF s=false→∀ w∈s.whens,w.acts.length≤20:=by
  intro h w hw;unfold largeF at h;simp only[Bool.or_eq_false_iff] at h;have:=List.any_eq_false.1 h.1.2 w hw;simp at this;exact this
 have hV:=fun h=>JGW s hs (h20 h);generalize hF:checkF s=F;unfold checkF at hF;generalize largeF s=a at hF hL hV;generalize validF s=b at hF hV;clear h20 hs;unfold J0Q at hL hV ⊢;refine kWS ?_;intros;refine CallP.flat [] _ c174 hL rfl ?_;refine kWS ?_;intros
 cases a with
 |true=>
   refine kS ?_;intros;exact .of (by rw[← hF];rfl)
 |false=>
   refine kS ?_;intros;refine CallP.flat [] _ c175 (hV rfl) rfl ?_;refine kWS ?_;intros
   cases b with
   |true=>
     refine kS ?_;intros;exact .of (by rw[← hF];rfl)
   |false=>
     refine kS ?_;intros;exact .of (by rw[← hF];rfl)
abbrev oTrue:ByteArray:=⟨#[116,114,117,101]⟩
abbrev oFalse:ByteArray:=⟨#[102,97,108,115,101]⟩
abbrev oTime:ByteArray:=⟨#[116,105,109,101]⟩
abbrev oInit:ByteArray:=⟨#[105,110,105,116,105,97,108]⟩
abbrev oNeg:ByteArray:=⟨#[110,101,103]⟩
abbrev oNot:ByteArray:=⟨#[110,111,116]⟩
abbrev oAdd:ByteArray:=⟨#[97,100,100]⟩
abbrev oSub:ByteArray:=⟨#[115,117,98]⟩
abbrev oMul:ByteArray:=⟨#[109,117,108]⟩
abbrev oDiv:ByteArray:=⟨#[100,105,118]⟩
abbrev oLess:ByteArray:=⟨#[108,101,115,115]⟩
abbrev oAtMost:ByteArray:=⟨#[97,116,109,111,115,116]⟩
abbrev oMore:ByteArray:=⟨#[109,111,114,101]⟩
abbrev oAtLeast:ByteArray:=⟨#[97,116,108,101,97,115,116]⟩
abbrev oAnd:ByteArray:=⟨#[97,110,100]⟩
abbrev oOr:ByteArray:=⟨#[111,114]⟩
mutual
def szF:Ex→Nat
 |.mk _ _ _ ks=>1+szL ks
def szL:List Ex→Nat
 |[]=>0
 |k::ks=>szF k+szL ks
end
mutual
def htF:Ex→Nat
 |.mk _ _ _ ks=>1+htL ks
def htL:List Ex→Nat
 |[]=>0
 |k::ks=>max (htF k) (htL ks)
end
def JAg (vs:List Va)(s:ByteArray):Int:=J0d (fun v:Va=>decide (v.name=s)) vs 0
theorem JJn (s:Sys)(n:ByteArray)(hv:s.vars.length≤2^60):PX 84 [J0Q s,encS n] (encI (JAg s.vars n)):=by
 refine PZ Tryz.func84 rfl ?_;obtain ⟨vs,qs,ns,ws⟩:=s;simp only at hv ⊢;generalize hF:JAg vs n=F;unfold JAg at hF;unfold J0Q;refine kWQ ?_;intros
 refine LoopP.intro (fun k σ H=>∃ g i,i≤vs.length∧k=vs.length-i∧J0d (fun v:Va=>decide (v.name=n)) (vs.drop i) i=F∧σ=fr [(1,encS n),(2,.op 2 g 0 0),(5,encI i)] ∧
  H=hp [(2,g,⟨26,4,[.agg [.sl 7 (vs.map encV),.sl 9 (qs.map J0m),.sl 9 (ns.map J0m),.sl 6 (ws.map J1Q)]]⟩)]) ?_ ?_
 ·exact .intro <| W.of ⟨_,_,0,Nat.zero_le _,rfl,hF,rfl,rfl⟩ ⟨rfl,rfl,rfl,trivial⟩ ⟨rfl,trivial⟩
 ·rintro k σ H ⟨g,i,hi,rfl,hF,rfl,rfl⟩
  rcases Nat.lt_or_ge i vs.length with h1|h1
  ·rw[List.drop_eq_getElem_cons h1] at hF;unfold J0d at hF;refine kWQ ?_;intros;generalize vs[i]=v at hF ⊢;refine CondP.dec (fun h=>?_) (fun h=>?_)<;>refine kW ?_
   ·rw[decide_eq_true h] at hF;refine kQ ?_;intros;exact .of (by rw[← hF];rfl)
   ·rw[decide_eq_false h] at hF;refine kQ ?_;intros
    exact .intro <| W.of ⟨_,by omega,g,i+1,h1,rfl,hF,rfl,rfl⟩ ⟨rfl,rfl,rfl,trivial⟩ ⟨rfl,trivial⟩
  ·rw[List.drop_eq_nil_of_le (by omega)] at hF;refine kWQ ?_;intros;exact .of (by rw[← hF];rfl)
def allI (l:List Int)(t:Int):Bool:=l.all fun x=>decide (x=t)
def varT (vs:List Va)(tx:ByteArray)(od:Int):Int×Bool:=match vs.find? fun v=>decide (v.name=tx) with
 |none=>(0,false)
 |some v=>(v.type,decide (od=0)||decide (v.kind=0)||decide (v.kind=3))
def typH (vs:List Va)(o tx:ByteArray)(od:Int)(rs:List Int):Int×Bool:=
 if o=oNum then (0,true) else if o=oTime then (0,true) else if o=oTrue then (1,true) else if o=oFalse then (1,true) else if o=oInit then (1,true) else if o=oSample then (1,true)
 else if o=oVar then varT vs tx od else if o=oPre then varT vs tx od
 else if o=oNeg then (0,allI rs 0) else if o=oAdd then (0,allI rs 0) else if o=oSub then (0,allI rs 0) else if o=oMul then (0,allI rs 0) else if o=oDiv then (0,allI rs 0)
 else if o=oLess then (1,allI rs 0) else if o=oAtMost then (1,allI rs 0) else if o=oMore then (1,allI rs 0) else if o=oAtLeast then (1,allI rs 0)
 else if o=oAnd then (1,allI rs 1) else if o=oOr then (1,allI rs 1) else if o=oNot then (1,allI rs 1)
 else if o=oEq then (1,decide (rs.getD 0 0=rs.getD 1 0)) else if o=oNe then (1,decide (rs.getD 0 0=rs.getD 1 0))
 else (rs.getD 1 0,decide (rs.getD 0 0=1)&&decide (rs.getD 1 0=rs.getD 2 0))
mutual
def typR (vs:List Va):Ex→Int×Bool
 |.mk o t n ks=>match typL vs ks with
   |none=>(0,false)
   |some rs=>typH vs o t n rs
def typL (vs:List Va):List Ex→Option (List Int)
 |[]=>some []
 |k::ks=>if (typR vs k).2 then (typL vs ks).map ((typR vs k).1::·) else none
end
def JLA (l:List ByteArray):AV:=.sl 1 (l.map encS)
theorem ownS {b p e n:Nat}{H:Hp}{out:List ByteArray}(hb:H b=some (p,⟨e,1,out.map encS⟩))(hn:n=out.length):snap [b] H (.own b p 0 n)=JLA out:=by
 rw[J2q (by simp) hb (by simp[hn]),J19 _ _ _ _ hn fun _=>rfl];rfl
theorem JIK:∀ a:List UInt8,Op.bytesLess a a=false
 |[]=>rfl
 |x::a=>by rw[JFn,JIK a];simp
theorem JC7:∀ a b c:List UInt8,Op.bytesLess a b=true→Op.bytesLess b c=true→Op.bytesLess a c=true
 |[],[],_,h,_=>by cases h
 |[],_::_,[],_,h=>by cases h
 |[],_::_,_::_,_,_=>rfl
 |_::_,[],_,h,_=>by cases h
 |_::_,_::_,[],_,h=>by cases h
 |x :: a,y::b,z::c,h1,h2=>by
   rw[JFn] at h1 h2 ⊢;simp only[Bool.or_eq_true,Bool.and_eq_true,decide_eq_true_eq] at h1 h2 ⊢
   rcases h1 with h1|⟨rfl,h1⟩
   ·rcases h2 with h2 | ⟨rfl,h2⟩
    ·exact .inl (UInt8.lt_trans h1 h2)
    ·exact .inl h1
   ·rcases h2 with h2 | ⟨rfl,h2⟩
    ·exact .inl h2
    ·exact .inr ⟨rfl,JC7 a b c h1 h2⟩
theorem J8d {n:ByteArray}{r:List ByteArray}{p:Option ByteArray}(h:risG (n::r) p=true):nameF n=true∧(∀ q,p=some q→Op.bytesLess q.toList n.toList=true)∧risG r (some n)=true:=by
 unfold risG at h;simp only[Bool.and_eq_true] at h;refine ⟨h.1.1,?_,h.2⟩;rintro q rfl;exact h.1.2
theorem J6l:∀ (l:List ByteArray) (q:ByteArray),risG l (some q)=true→∀ x∈l,Op.bytesLess q.toList x.toList=true
 |[],_,_,x,hx=>by cases hx
 |n::r,q,h,x,hx=>by
   obtain ⟨_,h2,h3⟩:=J8d h
   rcases List.mem_cons.1 hx with rfl|hx
   ·exact h2 q rfl
   ·exact JC7 _ _ _ (h2 q rfl) (J6l r n h3 x hx)
theorem J6k:∀ (l:List ByteArray) (p:Option ByteArray),risG l p=true→l.Nodup
 |[],_,_=>List.nodup_nil
 |n::r,p,h=>by
   obtain ⟨_,_,h3⟩:=J8d h;refine List.nodup_cons.2 ⟨fun hm=>?_,J6k r _ h3⟩;have:=J6l r n h3 n hm;rw[JIK] at this;cases this
theorem JBU {β:Type}(k:ByteArray)(v:β):∀ l:List (ByteArray×β),k ∉ l.map Prod.fst→putK l k v=l++[(k,v)]
 |[],_=>rfl
 |x::r,h=>by
   rw[List.map_cons,List.mem_cons,not_or] at h;unfold putK;rw[if_neg h.1,JBU k v r h.2];rfl
theorem JBm:∀ (vs:List Va) (l:List (ByteArray×Va)),(l.map Prod.fst++vs.map Va.name).Nodup→vs.foldl (fun l v=>putK l v.name v) l=l++vs.map fun v=>(v.name,v)
 |[],l,_=>by simp
 |v :: vs,l,h=>by
   rw[List.foldl_cons,JBU]
   ·rw[JBm vs]
    ·simp
    ·rw[List.map_append,List.append_assoc];exact h
   ·intro hm;rw[List.nodup_append] at h;exact h.2.2 _ hm _ (by simp) rfl
theorem J7H:∀ (vs:List Va) (n:ByteArray),J0f (vs.map fun v=>(v.name,v)) n=vs.find? fun v=>decide (v.name=n)
 |[],_=>rfl
 |v::vs,n=>by
   rw[List.map_cons,List.find?_cons];unfold J0f
   by_cases h:n=v.name
   ·rw[if_pos h,decide_eq_true h.symm]
   ·rw[if_neg h,decide_eq_false (fun e=>h e.symm),J7H vs n]
theorem JDn {v:Va}(h:varF v=true):v.type=0∨v.type=1:=by
 unfold varF J8s at h;simp only[Bool.and_eq_true,Bool.not_eq_true',Bool.or_eq_false_iff,Bool.and_eq_false_iff] at h
 rcases h.1.1.1.1.1.1.1 with h|h
 ·exact .inl (by simpa using h)
 ·exact .inr (by simpa using h)
structure U where
 name:ByteArray
 order:Int
 pre:Bool
 deriving DecidableEq
def encU (u:U):AV:=.agg [.val (.string u.name),.val (.int .i64 u.order),.val (.bool u.pre)]
def cmpS (a b:ByteArray):Int:=Lib.compareBytes a.data.toList b.data.toList
theorem JB4 (a b:ByteArray):PX 289 [encS a,encS b] (encI (cmpS a b)):=by
 refine PZ Tryz.func289 rfl ?_;refine kWS ?_;intros;refine CallP.ext _ (JKO a b) ?_;refine kWS ?_;intros;exact .of rfl
theorem JDM (a b:ByteArray):PX 195 [encS a,encS b] (encI (cmpS a b)):=by
 refine PZ Tryz.func195 rfl ?_;refine kWS ?_;intros;refine CallP.flat [] _ c289 (JB4 a b) rfl ?_;refine kWS ?_;intros;exact .of rfl
def fitF (u:U):Bool:=nameF u.name&&decide (0≤u.order∧u.order≤6)&&(!u.pre||decide (u.order=0))
def JJ2 (s s':ByteArray)(n n':Int)(p p':Bool):Int:=match decide (s=s') with
 |false=>cmpS s s'
 |true=>match decide (p=p') with
   |false=>match p' with
     |true=>-1
     |false=>1
   |true=>n-n'
def J7l (a b:U):Int:=JJ2 a.name b.name a.order b.order a.pre b.pre
theorem JAk (s:ByteArray)(n:Int)(p:Bool):encU ⟨s,n,p⟩=.agg [.val (.string s),.val (.int .i64 n),.val (.bool p)]:=rfl
theorem JIM (u:U)(hs:u.name.size<2^35):PX 81 [encU u] (encB (fitF u)):=by
 refine PZ Tryz.func81 rfl ?_;obtain ⟨s,n,p⟩:=u;obtain ⟨F,hF⟩:∃ F,(nameF s&&decide (0≤n∧n≤6)&&(!p||decide (n=0)))=F:=⟨_,rfl⟩;rw[show fitF ⟨s,n,p⟩=F from hF];simp only at hs;rw[JAk];refine kWO ?_;intros;refine CallP.flat [] (encB (nameF s)) c90 (J1w s (by omega)) rfl ?_;refine kWO ?_;intros;refine CondP.intro (fun h1=>?_) (fun h1=>?_)<;>refine kW ?_
 ·rw[h1,Bool.true_and] at hF;refine kO ?_;intros;refine CondP.dec (fun h2=>?_) (fun h2=>?_)<;>refine kW ?_
  ·refine kO ?_;intros;refine CondP.dec (fun h3=>?_) (fun h3=>?_)<;>refine kW ?_
   ·rw[decide_eq_true (by omega),Bool.true_and] at hF;refine kO ?_;intros;cases p
    ·refine kWO ?_;intros;exact .of (by rw[← hF];rfl)
    ·refine kWO ?_;intros;exact .of (by rw[← hF];simp;rfl)
   ·rw[decide_eq_false (by omega),Bool.false_and] at hF;refine kO ?_;intros;exact .of (by rw[← hF];rfl)
  ·rw[decide_eq_false (by omega),Bool.false_and] at hF;refine kO ?_;intros;exact .of (by rw[← hF];rfl)
 ·rw[h1,Bool.false_and,Bool.false_and] at hF;refine kO ?_;intros;exact .of (by rw[← hF];rfl)
theorem JG1 (a b:U)(ha:0≤a.order∧a.order≤6)(hb:0≤b.order∧b.order≤6):PX 116 [encU a,encU b] (encI (J7l a b)):=by
 refine PZ Tryz.func116 rfl ?_;obtain ⟨s,n,p⟩:=a;obtain ⟨s',n',p'⟩:=b;obtain ⟨F,hF⟩:∃ F,JJ2 s s' n n' p p'=F:=⟨_,rfl⟩;rw[show J7l ⟨s,n,p⟩ ⟨s',n',p'⟩=F from hF];unfold JJ2 at hF;simp only at ha hb;rw[JAk,JAk];refine kWO ?_;intros;refine CondP.dec (fun h1=>?_) (fun h1=>?_)<;>refine kW ?_
 ·rw[decide_eq_true h1] at hF;cases p<;>cases p'
  all_goals (refine kW ?_)
  all_goals (refine kS ?_;intros)
  all_goals exact .of (by rw[← hF];rfl)
 ·rw[decide_eq_false h1] at hF;refine kO ?_;intros;refine CallP.flat [] (encI (cmpS s s')) c195 (JDM s s') rfl ?_;refine kWO ?_;intros;exact .of (by rw[← hF];rfl)
def useF (e:Ex):U:=⟨e.text,e.order,decide (e.op=oPre)⟩
theorem JKk (e:Ex):PX 145 [encE e] (encU (useF e)):=by
 refine PZ Tryz.func145 rfl ?_;rw[J01];unfold useF encU;generalize e.kids=ks;generalize e.op=o;generalize e.text=tx;generalize e.order=od;refine kWS ?_;intros;exact .of rfl
def putU (A:List U)(u:U):List U:=if u∈A then A else A++[u]
mutual
def JKo:Ex→List U→List U
 |.mk o t n ks,A=>JK1 ks (if o=oVar∨o=oPre then putU A ⟨t,n,decide (o=oPre)⟩ else A)
def JK1:List Ex→List U→List U
 |[],A=>A
 |k::ks,A=>JK1 ks (JKo k A)
end
theorem J8t (u v:U):J0h T 54 (encU u) (encU v)=some (decide (u=v)):=by
 obtain ⟨a,b,c⟩:=u;obtain ⟨a',b',c'⟩:=v;show some ((a==a')&&((decide (b=b'))&&((c==c')&&true)))=_
 rw[J7G]
 congr 1
 rw[Bool.eq_iff_iff];simp
inductive Vl where
 |num (q:Rat)
 |tr (b:Bool)
 deriving DecidableEq
def J0C:Vl→AV
 |.num q=>J11 (encF q) false false
 |.tr b=>J11 nilQ b true
def Vl.sz:Vl→Nat
 |.num q=>szq q
 |.tr _=>0
def Vl.type:Vl→Int
 |.num _=>0
 |.tr _=>1
def shortV:Vl→Bool
 |.num q=>decide (nd q.num≤300)&&decide (nd q.den≤300)
 |.tr _=>true
theorem JFu (v:Vl)(h:v.sz<2^36):PX 101 [J0C v] (encB (shortV v)):=by
 refine PZ Tryz.func101 rfl ?_
 rcases v with q|b
 ·have a1:=J0n q;have a2:=J0x q;have h:szq q<2^36:=h;have h1:=J3s q.num q.den (by omega) (by omega);unfold shortV J0C J11 encF encQ at *;refine kWS ?_;intros;refine CallP.flat [] _ c151 h1 rfl ?_;refine kWS ?_;intros;exact .of rfl
 ·unfold J0C J11;refine kWS ?_;intros;exact .of rfl
def strV:Vl→ByteArray
 |.num q=>ofL ((qT q.num q.den).map UInt8.ofNat)
 |.tr b=>if b then sTrue else sFalse
theorem JDI (v:Vl)(h:v.sz<2^36):PX 102 [J0C v] (encS (strV v)):=by
 refine PZ Tryz.func102 rfl ?_
 rcases v with q|b
 ·have a1:=J0n q;have a2:=J0x q;have h:szq q<2^36:=h;have h1:=J31 q.num q.den (by omega) (by omega);unfold J0C J11 encF encQ strV at *;refine kWS ?_;intros;refine CallP.flat [] _ c150 h1 rfl ?_;refine kWS ?_;intros;exact .of rfl
 ·unfold J0C J11;cases b
  all_goals
   refine kWS ?_;intros;exact .of rfl
def sameV:Vl→Vl→Bool
 |.num p,.num q=>decide (p=q)
 |.tr a,.tr b=>decide (a=b)
 |_,_=>false
theorem JBL (p q:Rat):sgn (p-q).num=0↔p=q:=by
 have:sgn (p-q).num=0↔(p-q).num=0:=by
  unfold sgn;split
  ·simp[*]
  ·split<;>omega
 rw[this,Rat.num_eq_zero];constructor
 ·intro h;grind
 ·intro h;grind
theorem JCA (v w:Vl)(ht:v.type=w.type)(h:v.sz+w.sz+1<2^36):PX 279 [J0C v,J0C w] (encB (sameV v w)):=by
 refine PZ Tryz.func279 rfl ?_
 rcases v with q|b<;>rcases w with p|c
 ·have h1:=JG9 q p h;rw[show encI (sgn (q-p).num)=AV.val (.int .i64 (sgn (q-p).num)) from rfl] at h1;have h2:=JBL q p;unfold sameV J0C J11 encF encQ at *;refine kWS ?_;intros;refine CallP.flat [] _ c330 h1 rfl ?_;refine kWS ?_;intros;refine .of ?_;show AV.val (.bool (decide _))=AV.val (.bool (decide _))
  congr 2
  exact decide_eq_decide.2 h2
 ·cases ht
 ·cases ht
 ·unfold J0C J11;refine kWS ?_;intros;cases b<;>cases c
  all_goals
   refine kS ?_;intros;exact .of rfl
def J4G (l:List Vl):AV:=.sl 6 (l.map J0C)
theorem J24 (q:Rat):PX 189 [encF q] (J0C (.num q)):=J9r (encF q) (.inr ⟨_,_,rfl⟩)
def J1n:Except Int Vl→AV
 |.ok v=>.tup [J0C v,encI 0]
 |.error c=>.tup [J11 nilQ false false,encI c]
structure Ev where
 time:Rat
 init:Bool
 vals:List (U×Vl)
def JKV (e:Ev):AV:=.agg [encB (decide (e.time.num<0)),encW e.time.num.natAbs,encB (decide ((e.time.den:Int)<0)),encW (e.time.den:Int).natAbs,encB e.init,.mp (e.vals.map fun x=>encU x.1) (e.vals.map fun x=>J0C x.2)]
def J0p (e:Ev):AV:=.ep (JKV e) 0
section
variable (x:AV) (l:List Vl) (a b:Vl) (p q:Rat) (c d:Bool) (e:Ev)
theorem J8P:PX 265 [x,J4G l,.ep (J0C a) 0] (J1n (.ok a)):=by
 refine PZ Tryz.func265 rfl ?_
 rcases a with q|b
 all_goals
  unfold J0C J11;refine kWS ?_;intros;exact .of rfl
theorem JGR:PX 266 [J0p e,J4G l] (J1n (.ok (.num e.time))):=by
 refine PZ Tryz.func266 rfl ?_;have h:=J24 e.time;refine kWS ?_;intros;refine J00 [] _ c189 h ?_;refine kWS ?_;intros;exact .of rfl
theorem JGU:PX 267 [J0p e,J4G l] (J1n (.ok (.tr e.init))):=by
 refine PZ Tryz.func267 rfl ?_;have h:=J1p e.init;refine kWS ?_;intros;refine J00 [] _ c194 h ?_;refine kWS ?_;intros;exact .of rfl
theorem JCQ (h:szq e.time+szq p+szq q+1<2^36)(h0:q≠0):PX 268 [J0p e,J4G [.num p,.num q]] (J1n (.ok (.tr (multF (e.time-p) q)))):=by
 refine PZ Tryz.func268 rfl ?_;have hs:=JAF e.time p;have h1:=J8H e.time p (by omega);have h2:=J9s (e.time-p) q (by omega) h0;have h3:=J1p (multF (e.time-p) q);generalize multF (e.time-p) q=r at *;generalize e.time-p=s at *;unfold encF encQ at h1 h2;refine kWS ?_;intros;refine CallG.intro _ c80 h1 ?_;refine kWS ?_;intros;refine CallG.intro _ c269 h2 ?_;refine kWS ?_;intros;refine CallG.intro _ c194 h3 ?_;refine kWS ?_;intros;exact .of rfl
theorem JIb (h:szq p<2^36):PX 270 [x,J4G [.num p]] (J1n (.ok (.num (-p)))):=by
 refine PZ Tryz.func270 rfl ?_;have h1:=JFz p h;have h2:=J24 (-p);generalize -p=r at *;unfold encF encQ at h1 h2;refine kWS ?_;intros;refine J00 [] _ c146 h1 ?_;refine kWS ?_;intros;refine J00 [] _ c189 h2 ?_;refine kWS ?_;intros;exact .of rfl
theorem J41 (k:Nat)(r:Rat)(hk:J03 Tryz.prog k)(h1:PX k [encF p,encF q] (encF r)):PX 328 [x,J4G [.num p,.num q],.ep (.fn (.func k) [] []) 0] (J1n (.ok (.num r))):=by
 refine PZ Tryz.func328 rfl ?_;have h2:=J24 r;unfold encF encQ at h1 h2;refine kWS ?_;intros;refine CallG.intro _ hk h1 ?_;refine kWS ?_;intros;refine CallG.intro _ c189 h2 ?_;refine kWS ?_;intros;exact .of rfl
def divV (p q:Rat):Except Int Vl:=if q=0 then .error 12 else .ok (.num (p/q))
theorem sgn0 (z:Int):sgn z=0↔z=0:=by
 unfold sgn;split
 ·simp[*]
 ·split<;>omega
theorem JIc (h:szq p+szq q<2^36):PX 272 [x,J4G [.num p,.num q]] (J1n (divV p q)):=by
 refine PZ Tryz.func272 rfl ?_;have hs:=J4y q.num q.den;generalize hF:divV p q=F;unfold divV at hF
 by_cases h0:q=0
 ·rw[if_pos h0] at hF;have e0:sgn q.num=0:=(sgn0 _).2 (Rat.num_eq_zero.2 h0);rw[e0] at hs;unfold encQ at hs;refine kWS ?_;intros;refine CallP.flat [] _ c111 hs rfl ?_;refine kWS ?_;intros;exact .of (by rw[← hF];rfl)
 ·rw[if_neg h0] at hF;have e0:¬ sgn q.num=0:=mt (sgn0 _).1 (JEY h0);have h1:=JB3 p q h h0;have h2:=J24 (p/q);generalize p/q=r at *;unfold encF encQ at *;refine kWS ?_;intros;refine CallP.flat [] _ c111 hs rfl ?_;refine kWS ?_;intros;refine CallG.intro _ c149 h1 ?_;refine kWS ?_;intros;refine CallG.intro _ c189 h2 ?_;refine kWS ?_;intros;exact .of (by rw[← hF];rfl)
theorem JGV (k:Nat)(f:Int→Bool)(hk:J03 Tryz.prog k)(h1:∀ i:Int,PX k [encI i] (encB (f i)))(h:szq p+szq q+1<2^36) :
  PX 329 [x,J4G [.num p,.num q],.ep (.fn (.func k) [] []) 0] (J1n (.ok (.tr (f (sgn (p-q).num))))):=by
 refine PZ Tryz.func329 rfl ?_;have h0:=JG9 p q h;generalize sgn (p-q).num=i at *;have h1:=h1 i;have h2:=J1p (f i);unfold encF encQ at h0;refine kWS ?_;intros;refine CallG.intro _ c330 h0 ?_;refine kWS ?_;intros;refine CallG.intro _ hk h1 ?_;refine kWS ?_;intros;refine CallG.intro _ c194 h2 ?_;refine kWS ?_;intros;exact .of rfl
theorem JGT (i:Int):PX 274 [encI i] (encB (decide (i<0))):=by
 refine PZ Tryz.func274 rfl ?_;refine kWS ?_;intros;exact .of rfl
theorem JCR (i:Int):PX 275 [encI i] (encB (decide (i≤0))):=by
 refine PZ Tryz.func275 rfl ?_;refine kWS ?_;intros;exact .of rfl
theorem JGS (i:Int):PX 276 [encI i] (encB (decide (i>0))):=by
 refine PZ Tryz.func276 rfl ?_;refine kWS ?_;intros;exact .of rfl
theorem JA9 (i:Int):PX 277 [encI i] (encB (decide (i≥0))):=by
 refine PZ Tryz.func277 rfl ?_;refine kWS ?_;intros;exact .of rfl
theorem JDl (ht:a.type=b.type)(h:a.sz+b.sz+1<2^36):PX 278 [x,J4G [a,b]] (J1n (.ok (.tr (sameV a b)))):=by
 refine PZ Tryz.func278 rfl ?_;have h1:=JCA a b ht h;have h2:=J1p (sameV a b);generalize sameV a b=r at *
 rcases a with p|c<;>rcases b with q|d
 all_goals
  unfold J0C J11 encF encQ at h1;refine kWS ?_;intros;refine CallG.intro _ c279 h1 ?_;refine kWS ?_;intros;refine CallG.intro _ c194 h2 ?_;refine kWS ?_;intros;exact .of rfl
theorem JA8 (ht:a.type=b.type)(h:a.sz+b.sz+1<2^36):PX 280 [x,J4G [a,b]] (J1n (.ok (.tr (!sameV a b)))):=by
 refine PZ Tryz.func280 rfl ?_;have h1:=JCA a b ht h;have h2:=J1p (!sameV a b);generalize sameV a b=r at *
 rcases a with p|c<;>rcases b with q|d
 all_goals
  unfold J0C J11 encF encQ at h1;refine kWS ?_;intros;refine CallG.intro _ c279 h1 ?_;refine kWS ?_;intros;refine CallG.intro _ c194 h2 ?_;refine kWS ?_;intros;exact .of rfl
theorem JIa:PX 281 [x,J4G [.tr c]] (J1n (.ok (.tr (!c)))):=by
 refine PZ Tryz.func281 rfl ?_;have h2:=J1p (!c);refine kWS ?_;intros;refine J00 [] _ c194 h2 ?_;refine kWS ?_;intros;exact .of rfl
end
def fnA (k:Nat):AV:=.fn (.func k) [] []
def fnC (k:Nat)(x:AV):AV:=.fn (.func k) [] [.ep x 0]
def wayT:List (ByteArray×AV):=[
 (⟨#[116,114,117,101]⟩,fnC 265 (J0C (.tr true))),(⟨#[102,97,108,115,101]⟩,fnC 265 (J0C (.tr false))),(⟨#[116,105,109,101]⟩,fnA 266),
 (⟨#[105,110,105,116,105,97,108]⟩,fnA 267),(⟨#[115,97,109,112,108,101]⟩,fnA 268),(⟨#[110,101,103]⟩,fnA 270),
 (⟨#[97,100,100]⟩,fnC 328 (fnA 79)),(⟨#[115,117,98]⟩,fnC 328 (fnA 80)),(⟨#[109,117,108]⟩,fnC 328 (fnA 186)),(⟨#[100,105,118]⟩,fnA 272),
 (⟨#[108,101,115,115]⟩,fnC 329 (fnA 274)),(⟨#[97,116,109,111,115,116]⟩,fnC 329 (fnA 275)),(⟨#[109,111,114,101]⟩,fnC 329 (fnA 276)),(⟨#[97,116,108,101,97,115,116]⟩,fnC 329 (fnA 277)),
 (⟨#[101,113,117,97,108]⟩,fnA 278),(⟨#[117,110,101,113,117,97,108]⟩,fnA 280),(⟨#[110,111,116]⟩,fnA 281)]
def wayM:AV:=.mp (wayT.map fun x=>encS x.1) (wayT.map fun x=>x.2)
theorem JAJ {S:List Nat}{H:Hp}{n b g k e m:Nat}{f:Fn}{y:AV}(hS:b∈S)(hb:H b=some (g,⟨e,m,[y]⟩)):J05 S H (n+2) (.fn f [] [.op b g 0 k])=.fn f [] [.ep (J0N (J05 S H n) y) k]:=by
 simp only[J05,List.map_nil,List.map_cons,if_pos hS,hb,true_and];rfl
theorem JGO (v:Vl):PX 264 [J0C v] (fnC 265 (J0C v)):=by
 refine PC [1] Tryz.func264 rfl (by rfl) rfl ?_
 rcases v with q|b
 all_goals
  unfold J0C J11
  try unfold encF encQ
  refine kWS ?_;intros;refine .of ?_;show J05 [1] _ 3 (.fn _ [] [.op 1 _ 0 0])=_
  rw[JAJ (b:=1) (by simp) rfl];rfl
theorem JEW (k:Nat):PX 271 [fnA k] (fnC 328 (fnA k)):=by
 refine PC [1] Tryz.func271 rfl (by rfl) rfl ?_;unfold fnA;refine kWS ?_;intros;refine .of ?_;show J05 [1] _ 3 (.fn _ [] [.op 1 _ 0 0])=_
 rw[JAJ (b:=1) (by simp) rfl];rfl
theorem JAu (k:Nat):PX 273 [fnA k] (fnC 329 (fnA k)):=by
 refine PC [1] Tryz.func273 rfl (by rfl) rfl ?_;unfold fnA;refine kWS ?_;intros;refine .of ?_;show J05 [1] _ 3 (.fn _ [] [.op 1 _ 0 0])=_
 rw[JAJ (b:=1) (by simp) rfl];rfl
theorem JIX:PX 187 [] wayM:=by
 refine PC [2] Tryz.func187 rfl (by rfl) rfl ?_;refine kWS ?_;intros
 repeat ((first
  |refine J00 [] _ c194 (J1p _) ?_
  |refine J00 [] _ c264 (JGO (.tr _)) ?_
  |refine J00 [] _ c271 (JEW _) ?_
  |refine J00 [] _ c273 (JAu _) ?_
  |refine Need.intro keyst9 ?_
  |refine LookP.intro none (by rfl) ?_);refine kW ?_;refine kS ?_;intros)
 exact .of rfl
def J4W {β:Type}(l:List (U×β))(u:U):Option β:=match l with
 |[]=>none
 |x::r=>if u=x.1 then some x.2 else J4W r u
theorem JBj {β:Type}(f:β→AV)(u:U):∀ l:List (U×β),∃ r,J10 (J0h T 54 (encU u)) (l.map fun x=>encU x.1)=some r∧match r,J4W l u with
  |none,none=>True
  |some i,some b=>(l.map fun x=>f x.2).getD i .dead=f b
  |_,_=>False
 |[]=>⟨none,rfl,trivial⟩
 |x :: l=>by
   obtain ⟨r,h1,h2⟩:=JBj f u l;rw[List.map_cons];unfold J10 J4W;rw[J8t]
   by_cases h:u=x.1
   ·rw[decide_eq_true h,if_pos h];exact ⟨some 0,rfl,rfl⟩
   ·rw[decide_eq_false h,if_neg h,h1];refine ⟨r.map (· + 1),rfl,?_⟩
    revert h2
    cases r<;>cases J4W l u<;>intro h2<;>first|trivial|exact h2
def JCT (ks:List (ByteArray×Va))(n:ByteArray):Int:=match J0f ks n with
 |some v=>v.type
 |none=>0
def J2i (ks:List (ByteArray×Va))(ev:Ev)(u:U):Except Int Vl:=match J4W ev.vals u with
 |none=>.error 5
 |some v=>if v.type≠JCT ks u.name then .error 7 else .ok v
theorem JFr (v:Vl):PX 282 [J0C v] (encI v.type):=by
 cases v with
 |num q=>exact J4x (encF q) false false (.inr ⟨_,_,rfl⟩)
 |tr b=>exact J4x nilQ b true (.inl rfl)
theorem JHq (ks:List (ByteArray×Va))(ev:Ev)(u:U):PX 190 [encK ks,J0p ev,encU u] (J1n (J2i ks ev u)):=by
 refine PZ Tryz.func190 rfl ?_;generalize hF:J2i ks ev u=F;unfold J2i at hF;obtain ⟨r,hr,hm⟩:=JBj J0C u ev.vals;refine kWS ?_;intros;refine Need.intro keyst54 ?_;refine kW ?_;refine LookP.intro r hr ?_
 cases ha:J4W ev.vals u with
 |none=>
   rw[ha] at hm hF
   cases r with
   |some i=>exact hm.elim
   |none=>
     refine kWS ?_;intros;exact .of (by rw[← hF];rfl)
 |some v=>
   rw[ha] at hm hF
   cases r with
   |none=>exact hm.elim
   |some i=>
     have hm:(ev.vals.map fun x=>J0C x.2).getD i .dead=J0C v:=hm;have hT:=JFr v;obtain ⟨r2,hr2,hm2⟩:=J1J encV u.name ks;replace hF:(if v.type≠JCT ks u.name then (.error 7:Except Int Vl) else .ok v)=F:=hF;unfold JCT at hF
     rcases v with q|b
     all_goals
      unfold J0C J11 at hT
      try unfold encF encQ at hT
      refine kW ?_;rw[hm];refine kWS ?_;intros;refine CallG.intro _ c282 hT ?_;refine kWS ?_;intros;refine Need.intro keyst9 ?_;refine kW ?_;refine LookP.intro r2 hr2 ?_
      cases ha2:J0f ks u.name with
      |none=>
        rw[ha2] at hm2 hF
        cases r2 with
        |some i=>exact hm2.elim
        |none=>
          refine kWS ?_;intros;exact .of (by rw[← hF];rfl)
      |some w=>
        rw[ha2] at hm2 hF
        cases r2 with
        |none=>exact hm2.elim
        |some i=>
          have hm2:(ks.map fun x=>encV x.2).getD i .dead=encV w:=hm2;refine kW ?_;rw[hm2];refine kWS ?_;intros;refine CondP.dec (fun c0=>?_) (fun c0=>?_)<;>refine kW ?_
          ·rw[if_neg (fun h=>h c0)] at hF;refine kS ?_;intros;exact .of (by rw[← hF];rfl)
          ·rw[if_pos c0] at hF;refine kS ?_;intros;exact .of (by rw[← hF];rfl)
def J2J (o:ByteArray)(t:Bool):Option Nat:=if o=oIf then (if t then some 1 else some 2) else if decide (o=oAnd)=t then some 1 else none
def nilE:AV:=.agg [encS ⟨#[]⟩,encS ⟨#[]⟩,encI 0,.val (.slice none 0 0)]
theorem JJl (x:Ex)(t:Bool)(hk:∀ i,J2J x.op t=some i→i<x.kids.length):PX 147 [encE x,encB t] (match J2J x.op t with
  |some i=>.tup [(x.kids.map encE).getD i .dead,encB true]
  |none=>.tup [nilE,encB false]):=by
 refine PZ Tryz.func147 rfl ?_;rw[J01];generalize x.op=o at *;generalize x.kids=es at *;unfold J2J at *
 have key:∀ i,i<es.length→∃ k:Ex,(es.map encE).getD i .dead=.agg [encS k.op,encS k.text,encI k.order,.sl 4 (k.kids.map encE)]:=by
  intro i hi;have h:(es.map encE).getD i .dead=encE es[i]:=by rw[List.getD_eq_getElem?_getD,List.getElem?_map,List.getElem?_eq_getElem hi];rfl
  exact ⟨_,h.trans (J01 _)⟩
 refine kWS ?_;intros;refine CondP.dec (fun h1=>?_) (fun h1=>?_)<;>refine kW ?_
 ·rw[if_pos h1] at hk ⊢;cases t
  ·rw[if_neg (by decide)] at hk ⊢;have hk:=hk 2 rfl;obtain ⟨k,hg⟩:=key 2 hk;refine kS ?_;intros;rw[show (es.map encE).getD (Int.toNat 2) .dead=.agg [encS k.op,encS k.text,encI k.order,.sl 4 (k.kids.map encE)] from hg];refine kWS ?_;intros;exact .of (congrArg (fun z=>AV.tup [z,encB true]) hg.symm)
  ·rw[if_pos rfl] at hk ⊢;have hk:=hk 1 rfl;obtain ⟨k,hg⟩:=key 1 hk;refine kS ?_;intros;rw[show (es.map encE).getD (Int.toNat 1) .dead=.agg [encS k.op,encS k.text,encI k.order,.sl 4 (k.kids.map encE)] from hg];refine kWS ?_;intros;exact .of (congrArg (fun z=>AV.tup [z,encB true]) hg.symm)
 ·rw[if_neg h1] at hk ⊢;refine kS ?_;intros
  by_cases h2:o=oAnd
  ·rw[decide_eq_true h2] at hk ⊢;cases t
   ·rw[if_neg (by decide)] at hk ⊢;refine JCF rfl ?_;refine kWS ?_;intros;exact .of rfl
   ·rw[if_pos rfl] at hk ⊢;have hk:=hk 1 rfl;obtain ⟨k,hg⟩:=key 1 hk;refine JCE rfl ?_;refine kWS ?_;intros;rw[show (es.map encE).getD (Int.toNat 1) .dead=.agg [encS k.op,encS k.text,encI k.order,.sl 4 (k.kids.map encE)] from hg];refine kWS ?_;intros;exact .of (congrArg (fun z=>AV.tup [z,encB true]) hg.symm)
  ·rw[decide_eq_false h2] at hk ⊢;cases t
   ·rw[if_pos rfl] at hk ⊢;have hk:=hk 1 rfl;obtain ⟨k,hg⟩:=key 1 hk;refine JCE rfl ?_;refine kWS ?_;intros;rw[show (es.map encE).getD (Int.toNat 1) .dead=.agg [encS k.op,encS k.text,encI k.order,.sl 4 (k.kids.map encE)] from hg];refine kWS ?_;intros;exact .of (congrArg (fun z=>AV.tup [z,encB true]) hg.symm)
   ·rw[if_neg (by decide)] at hk ⊢;refine JCF rfl ?_;refine kWS ?_;intros;exact .of rfl
def Vl.truth:Vl→Bool
 |.tr b=>b
 |.num _=>false
def numV (t:ByteArray):Rat:=match (J08 t.data.toList).1 with
 |some (n,d)=>Rat.divInt n d
 |none=>0
def wayF (ev:Ev)(o:ByteArray)(vs:List Vl):Except Int Vl:=
 if o=oTrue then .ok (.tr true) else if o=oFalse then .ok (.tr false) else if o=oTime then .ok (.num ev.time) else if o=oInit then .ok (.tr ev.init) else match vs with
 |[.num p]=>.ok (.num (-p))
 |[.tr c]=>.ok (.tr (!c))
 |[.num p,.num q]=>
   if o=oSample then .ok (.tr (multF (ev.time-p) q)) else if o=oAdd then .ok (.num (p+q)) else if o=oSub then .ok (.num (p-q)) else if o=oMul then .ok (.num (p*q)) else if o=oDiv then divV p q
   else if o=oLess then .ok (.tr (decide (p<q))) else if o=oAtMost then .ok (.tr (decide (p≤q))) else if o=oMore then .ok (.tr (decide (q<p))) else if o=oAtLeast then .ok (.tr (decide (q≤p)))
   else if o=oEq then .ok (.tr (sameV (.num p) (.num q))) else .ok (.tr (!sameV (.num p) (.num q)))
 |[.tr a,.tr b]=>if o=oEq then .ok (.tr (sameV (.tr a) (.tr b))) else .ok (.tr (!sameV (.tr a) (.tr b)))
 |_=>.error 0
def JGP (o:ByteArray)(vs:List Vl):Prop:=
 (o=oTrue∨o=oFalse∨o=oTime∨o=oInit)∨(o=oSample∧∃ p q,vs=[.num p,.num q]∧q≠0)∨(o=oNeg∧∃ p,vs=[.num p])∨(o=oNot∧∃ c,vs=[.tr c]) ∨
   ((o=oAdd∨o=oSub∨o=oMul∨o=oDiv∨o=oLess∨o=oAtMost∨o=oMore∨o=oAtLeast)∧∃ p q,vs=[.num p,.num q])∨((o=oEq∨o=oNe)∧∃ a b:Vl,vs=[a,b]∧a.type=b.type)
def szs:List Vl→Nat
 |[]=>0
 |v::l=>v.sz+szs l
theorem JI5 (p q:Rat):(p-q).num<0↔p<q:=by
 have h1:(p-q).num<0↔¬ 0≤(p-q).num:=by omega
 rw[h1,Rat.num_nonneg,← Rat.le_iff_sub_nonneg,Rat.not_le]
theorem JII (p q:Rat):decide (sgn (p-q).num<0)=decide (p<q):=decide_eq_decide.2 ((J7U _).trans (JI5 p q))
theorem JIJ (p q:Rat):decide (sgn (p-q).num≤0)=decide (p≤q):=by
 refine decide_eq_decide.2 ?_;have h1:=JI5 p q;have h2:=J7U (p-q).num;have h3:=JBL p q;rw[Rat.le_iff_lt_or_eq,← h1,← h2,← h3];omega
theorem JKc (p q:Rat):decide (sgn (p-q).num>0)=decide (q<p):=by
 refine decide_eq_decide.2 ?_;have:=decide_eq_decide.1 (JIJ p q);rw[← Rat.not_le,← this];omega
theorem JKd (p q:Rat):decide (sgn (p-q).num≥0)=decide (q≤p):=by
 refine decide_eq_decide.2 ?_;have:=decide_eq_decide.1 (JII p q);rw[← Rat.not_lt,← this];omega
def Way (ev:Ev)(o:ByteArray)(vs:List Vl):Prop:=∃ k cap,J0f wayT o=some (.fn (.func k) [] cap)∧(cap=[]∨∃ x,cap=[.ep x 0])∧J03 Tryz.prog k∧PX k ([J0p ev,J4G vs]++cap) (J1n (wayF ev o vs))
theorem JJz (ev:Ev)(o:ByteArray)(vs:List Vl)(h:JGP o vs)(hz:szq ev.time+szs vs+1<2^36):Way ev o vs:=by
 rcases h with h|⟨rfl,p,q,rfl,h0⟩|⟨rfl,p,rfl⟩|⟨rfl,c,rfl⟩|⟨h,p,q,rfl⟩|⟨h,a,b,rfl,hab⟩
 ·rcases h with rfl | rfl | rfl | rfl
  ·exact ⟨_,_,(by kernel_rfl),(by first|exact .inl rfl|exact .inr ⟨_,rfl⟩),c265,J8P (J0p ev) vs (.tr true)⟩
  ·exact ⟨_,_,(by kernel_rfl),(by first|exact .inl rfl|exact .inr ⟨_,rfl⟩),c265,J8P (J0p ev) vs (.tr false)⟩
  ·exact ⟨_,_,(by kernel_rfl),(by first|exact .inl rfl|exact .inr ⟨_,rfl⟩),c266,JGR vs ev⟩
  ·exact ⟨_,_,(by kernel_rfl),(by first|exact .inl rfl|exact .inr ⟨_,rfl⟩),c267,JGU vs ev⟩
 ·simp only[szs,Vl.sz] at hz;exact ⟨_,_,(by kernel_rfl),(by first|exact .inl rfl|exact .inr ⟨_,rfl⟩),c268,JCQ p q ev (by omega) h0⟩
 ·simp only[szs,Vl.sz] at hz;exact ⟨_,_,(by kernel_rfl),(by first|exact .inl rfl|exact .inr ⟨_,rfl⟩),c270,JIb (J0p ev) p (by omega)⟩
 ·exact ⟨_,_,(by kernel_rfl),(by first|exact .inl rfl|exact .inr ⟨_,rfl⟩),c281,JIa (J0p ev) c⟩
 ·simp only[szs,Vl.sz] at hz;have hc:=fun k f hk h1=>JGV (J0p ev) p q k f hk h1 (by omega)
  rcases h with rfl|rfl|rfl|rfl|rfl|rfl|rfl|rfl
  ·exact ⟨_,_,(by kernel_rfl),(by first|exact .inl rfl|exact .inr ⟨_,rfl⟩),c328,J41 (J0p ev) p q _ _ c79 (JB7 p q (by omega))⟩
  ·exact ⟨_,_,(by kernel_rfl),(by first|exact .inl rfl|exact .inr ⟨_,rfl⟩),c328,J41 (J0p ev) p q _ _ c80 (J8H p q (by omega))⟩
  ·exact ⟨_,_,(by kernel_rfl),(by first|exact .inl rfl|exact .inr ⟨_,rfl⟩),c328,J41 (J0p ev) p q _ _ c186 (JG0 p q (by omega))⟩
  ·exact ⟨_,_,(by kernel_rfl),(by first|exact .inl rfl|exact .inr ⟨_,rfl⟩),c272,JIc (J0p ev) p q (by omega)⟩
  ·have:=hc _ _ c274 JGT;rw[JII] at this;exact ⟨_,_,(by kernel_rfl),(by first|exact .inl rfl|exact .inr ⟨_,rfl⟩),c329,this⟩
  ·have:=hc _ _ c275 JCR;rw[JIJ] at this;exact ⟨_,_,(by kernel_rfl),(by first|exact .inl rfl|exact .inr ⟨_,rfl⟩),c329,this⟩
  ·have:=hc _ _ c276 JGS;rw[JKc] at this;exact ⟨_,_,(by kernel_rfl),(by first|exact .inl rfl|exact .inr ⟨_,rfl⟩),c329,this⟩
  ·have:=hc _ _ c277 JA9;rw[JKd] at this;exact ⟨_,_,(by kernel_rfl),(by first|exact .inl rfl|exact .inr ⟨_,rfl⟩),c329,this⟩
 ·simp only[szs] at hz
  rcases h with rfl|rfl
  ·have:=JDl (J0p ev) a b hab (by omega);refine ⟨_,[],(by kernel_rfl),.inl rfl,c278,?_⟩
   rcases a with p|c<;>rcases b with q|d<;>first|exact this|cases hab
  ·have:=JA8 (J0p ev) a b hab (by omega);refine ⟨_,[],(by kernel_rfl),.inl rfl,c280,?_⟩
   rcases a with p|c<;>rcases b with q|d<;>first|exact this|cases hab
def seqR:List (Except Int Vl)→Except Int (List Vl)
 |[]=>.ok []
 |.error c::_=>.error c
 |.ok v::r=>match seqR r with
   |.ok l=>.ok (v::l)
   |.error c=>.error c
def J1P (ks:List (ByteArray×Va))(ev:Ev)(o t:ByteArray)(n:Int)(rs:List (Except Int Vl)):Except Int Vl:=
 if o=oNum then .ok (.num (numV t))
 else if o=oVar∨o=oPre then J2i ks ev ⟨t,n,decide (o=oPre)⟩
 else if o=oIf∨o=oAnd∨o=oOr then match rs.getD 0 (.error 0) with
  |.error c=>.error c
  |.ok v=>match J2J o v.truth with
    |some i=>rs.getD i (.error 0)
    |none=>.ok v
 else match seqR rs with
  |.error c=>.error c
  |.ok vs=>wayF ev o vs
mutual
def evalF (ks:List (ByteArray×Va))(ev:Ev):Ex→Except Int Vl
 |.mk o t n es=>J1P ks ev o t n (JJG ks ev es)
def JJG (ks:List (ByteArray×Va))(ev:Ev):List Ex→List (Except Int Vl)
 |[]=>[]
 |e::es=>evalF ks ev e::JJG ks ev es
end
theorem J94 (ks:List (ByteArray×Va))(ev:Ev):∀ es:List Ex,JJG ks ev es=es.map (evalF ks ev)
 |[]=>rfl
 |e::es=>by rw[List.map_cons,← J94 ks ev es];rfl
theorem J0l (ks:List (ByteArray×Va))(ev:Ev)(e:Ex):evalF ks ev e=J1P ks ev e.op e.text e.order (e.kids.map (evalF ks ev)):=by
 cases e with
 |mk o t n es=>rw[← J94];rfl
mutual
def wtF:Ex→Nat
 |.mk _ _ _ es=>wtL es+1
def wtL:List Ex→Nat
 |[]=>0
 |e::es=>wtF e+wtL es
end
theorem J4N (e:Ex):wtF e=wtL e.kids+1:=by cases e;rfl
theorem J7P:∀ {es:List Ex} {k:Ex},k∈es→wtF k≤wtL es
 |e::es,k,h=>by
   unfold wtL
   rcases List.mem_cons.1 h with rfl|h
   ·omega
   ·have:=J7P h;omega
theorem JBB {e k:Ex}(h:k∈e.kids):wtF k<wtF e:=by rw[J4N e];have:=J7P h;omega
theorem JBn {f:Ex→Int→Int}(hf:∀ k l,f k l<0∨f k l≤l-wtF k):∀ (ks:List Ex) (l:Int),J3V f ks l<0∨J3V f ks l≤l-wtL ks
 |[],l=>by right;unfold J3V wtL;omega
 |k :: ks,l=>by
   unfold J3V wtL;split
   ·left;omega
   ·have:=hf k l;have:=JBn hf ks (f k l);omega
theorem JBh:∀ (d:Nat) (e:Ex) (l:Int),measF d e l<0∨measF d e l≤l-wtF e
 |0,e,l=>by left;unfold measF;omega
 |d + 1,e,l=>by
   rw[J4N];unfold measF;split
   ·left;omega
   ·have:=JBn (JBh d) e.kids (l-1);omega
theorem JJt (z:Int):zl z≤nd z:=by
 unfold zl nd;refine J1A hB9 ?_;have h1:z.natAbs<10 ^ (decT z.natAbs).length:=Go.Fw.decT_lt z.natAbs;exact Nat.lt_of_lt_of_le h1 (Nat.pow_le_pow_left (by decide) _)
theorem JBV {l:List UInt8}(h:(J08 l).2=true):∃ n d:Int,(J08 l).1=some (n,d)∧0<d∧n.natAbs.gcd d.natAbs=1∧nd n≤300∧nd d≤300:=by
 unfold J08 at *;split at h
 ·cases h
 ·rename_i n hn;split at h
  ·exact ⟨n,1,rfl,by decide,by simp,of_decide_eq_true h,JKZ⟩
  ·split at h
   ·cases h
   ·rename_i d hd;split at h
    ·cases h
    ·rename_i h1;simp only[Bool.and_eq_true,decide_eq_true_eq] at h;refine ⟨n,d,by simp only[if_neg h1],by omega,h.2,h.1.1,h.1.2⟩
theorem J0y {t:ByteArray}(h:(J08 t.data.toList).2=true):encF (numV t)=qAV (J08 t.data.toList).1∧szq (numV t)≤300:=by
 obtain ⟨n,d,h1,h2,h3,h4,h5⟩:=JBV h;unfold numV;rw[h1];refine ⟨?_,?_⟩
 ·show encF (Rat.divInt n d)=encQ n d
  rw[J3c n d h2,h3];simp
 ·show szq (Rat.divInt n d)≤300
  have:=J2p n d (by omega);have:=JJt n;have:=JJt d;omega
def EvOk (ev:Ev):Prop:=szq ev.time≤300∧∀ x∈ev.vals,x.2.sz≤300
theorem J7I {β:Type}{u:U}{b:β}:∀ {l:List (U×β)},J4W l u=some b→∃ x∈l,x.2=b
 |[],h=>by cases h
 |x :: l,h=>by
   unfold J4W at h;split at h
   ·cases h;exact ⟨x,by simp,rfl⟩
   ·obtain ⟨y,hy,e⟩:=J7I h;exact ⟨y,by simp[hy],e⟩
theorem JHd {ks:List (ByteArray×Va)}{ev:Ev}(he:EvOk ev){u:U}{v:Vl}(h:J2i ks ev u=.ok v):v.sz≤300:=by
 unfold J2i at h;split at h
 ·cases h
 ·rename_i w hw;split at h
  ·cases h
  ·cases h;obtain ⟨x,hx,rfl⟩:=J7I hw;exact he.2 x hx
theorem JHc {ks:List (ByteArray×Va)}{ev:Ev}{u:U}{v:Vl}(h:J2i ks ev u=.ok v):v.type=JCT ks u.name:=by
 unfold J2i at h;split at h
 ·cases h
 ·split at h
  ·cases h
  ·rename_i h';cases h;exact Classical.not_not.1 h'
theorem J7V:∀ {rs:List (Except Int Vl)} {vs:List Vl},seqR rs=.ok vs→rs=vs.map .ok
 |[],vs,h=>by cases h;rfl
 |.error c::r,vs,h=>by cases h
 |.ok v::r,vs,h=>by
   unfold seqR at h;split at h
   ·rename_i l hl;cases h;rw[J7V hl];rfl
   ·cases h
theorem J1b {c:Prop}[Decidable c]{a b:Except Int Vl}{M:Nat}(ha:∀ v,a=.ok v→v.sz≤M)(hb:∀ v,b=.ok v→v.sz≤M):∀ v,(if c then a else b)=.ok v→v.sz≤M:=by
 intro v h;split at h
 ·exact ha v h
 ·exact hb v h
theorem J43 {b:Bool}{M:Nat}:∀ v,(Except.ok (Vl.tr b):Except Int Vl)=.ok v→v.sz≤M:=fun v h=>by cases h;exact Nat.zero_le _
theorem J6q {q:Rat}{M:Nat}(hq:szq q≤M):∀ v,(Except.ok (Vl.num q):Except Int Vl)=.ok v→v.sz≤M:=fun v h=>by cases h;exact hq
theorem J98 {c:Int}{M:Nat}:∀ v,(Except.error c:Except Int Vl)=.ok v→v.sz≤M:=fun v h=>by cases h
theorem JIZ {ev:Ev}{o:ByteArray}{vs:List Vl}(ht:szq ev.time≤300):∀ v,wayF ev o vs=.ok v→v.sz≤max 300 (szs vs+1):=by
 unfold wayF;refine J1b J43 (J1b J43 (J1b (J6q (by omega)) (J1b J43 ?_)))
 rcases vs with _|⟨a,_|⟨b,_|⟨c,l⟩⟩⟩
 ·exact J98
 ·rcases a with p | x
  ·exact J6q (by rw[JAG];show szq p≤max 300 (szq p+0+1);omega)
  ·exact J43
 ·rcases a with p | x<;>rcases b with q | y
  ·refine J1b J43 (J1b (J6q ?_) (J1b (J6q ?_) (J1b (J6q ?_) (J1b ?_ (J1b J43 (J1b J43 (J1b J43 (J1b J43 (J1b J43 J43)))))))))
   ·have:=JAH p q;show _≤max 300 (szq p+(szq q+0)+1);omega
   ·have:=JAF p q;show _≤max 300 (szq p+(szq q+0)+1);omega
   ·have:=JE1 p q;show _≤max 300 (szq p+(szq q+0)+1);omega
   ·unfold divV;split
    ·exact J98
    ·rename_i h0;refine J6q ?_;have:=JE2 p q h0;show _≤max 300 (szq p+(szq q+0)+1);omega
  ·exact J98
  ·exact J98
  ·exact J1b J43 J43
 ·rcases a with p|x<;>rcases b with q|y<;>exact J98
theorem JE0 {ks:List (ByteArray×Va)}{ev:Ev}:∀ {es:List Ex} {vs:List Vl},(∀ k∈es,∀ v,evalF ks ev k=.ok v→v.sz≤301*wtF k)→es.map (evalF ks ev)=vs.map .ok→szs vs≤301*wtL es
 |[],[],_,_=>Nat.zero_le _
 |[],v::vs,_,h=>by cases h
 |e::es,[],_,h=>by cases h
 |e::es,v::vs,hk,h=>by
   rw[List.map_cons,List.map_cons] at h
   injection h with h1 h2
   have a:=hk e (by simp) v h1;have b:=JE0 (fun k h=>hk k (by simp[h])) h2;unfold szs wtL;omega
theorem J5c {ks:List (ByteArray×Va)}{ev:Ev}{es:List Ex}{i:Nat}{v:Vl}(h:(es.map (evalF ks ev)).getD i (.error 0)=.ok v):∃ k∈es,evalF ks ev k=.ok v:=by
 rw[List.getD_eq_getElem?_getD,List.getElem?_map] at h
 cases hi:es[i]? with
 |none=>rw[hi] at h;cases h
 |some k=>
   rw[hi] at h;exact ⟨k,List.mem_of_getElem? hi,h⟩
theorem JBu {ks:List (ByteArray×Va)}{ev:Ev}(he:EvOk ev)(e:Ex):builtF e=true→∀ v,evalF ks ev e=.ok v→v.sz≤301*wtF e:=by
 induction e using J1D with
 |h e ih=>
   intro hb v h;have ihk:∀ k∈e.kids,∀ v,evalF ks ev k=.ok v→v.sz≤301*wtF k:=fun k hk=>ih k hk ((J06 hb).2 k hk);rw[J0l] at h;unfold J1P at h;rw[J4N];split at h
   ·rename_i h1;cases h;have hx:textF e=true:=by rw[J0u] at hb;simp only[Bool.and_eq_true] at hb;exact hb.1.1.2
    unfold textF at hx;rw[if_pos h1] at hx;simp only[Bool.and_eq_true] at hx;have:=(J0y hx.1).2;show szq _≤_
    omega
   ·split at h
    ·have:=JHd he h;omega
    ·split at h
     ·split at h
      ·cases h
      ·rename_i w hw;split at h
       ·obtain ⟨k,hk,h⟩:=J5c h;have:=ihk k hk v h;have:=J7P hk;omega
       ·cases h;obtain ⟨k,hk,h⟩:=J5c hw;have:=ihk k hk _ h;have:=J7P hk;omega
     ·split at h
      ·cases h
      ·rename_i vs hvs;have:=JE0 ihk (J7V hvs);have:=JIZ he.1 v h;omega
theorem JIL {l:List (Int×Bool)}{t:Bool}(h:l.any (fun r=>!r.2||(decide (r.1=1) != t))=false):∀ r∈l,r.2=true∧decide (r.1=1)=t:=by
 intro r hr;have:=(List.any_eq_false.1 h) r hr;simp only[Bool.or_eq_true,Bool.not_eq_true',bne_iff_ne,not_or,Bool.not_eq_false,ne_eq,Classical.not_not] at this;exact this
end Go.Proofs.YtlblbldolhiokaaGreatDoor
