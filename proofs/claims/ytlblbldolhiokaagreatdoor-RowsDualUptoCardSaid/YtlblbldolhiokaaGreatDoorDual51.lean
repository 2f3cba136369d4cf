/- Part 51 of the proof. -/
import Derived.Test.YtlblbldolhiokaaGreatDoorDual50
import Derived.Test.YtlblbldolhiokaaGreatDoorDual46
import Derived.Shelf.Strings.Builder1
import Derived.Shelf.Strings.Builder2
import Derived.Shelf.Strings.OnBuilder
import Derived.Shelf.Strings.Repeat
import Derived.Test.YtlblbldolhiokaaGreatDoorProg
import Derived.Test.YtlblbldolhiokaaGreatDoorDual45
import Derived.Test.YtlblbldolhiokaaGreatDoorDual49
import Derived.KernelRfl
set_option linter.unusedVariables false
set_option linter.unusedSimpArgs false
set_option linter.unusedSectionVars false
set_option maxRecDepth 100000
set_option exponentiation.threshold 400
set_option maxHeartbeats 8000000
namespace Go.Proofs.YtlblbldolhiokaaGreatDoor
open Go Go.Fw
theorem JEb {t:ByteArray}(h:(J08 t.data.toList).2=true):∃ n d,J7d t.data.toList=some (n,d)∧okR (n,d)∧numV t=Rat.divInt n d∧t.data.toList=(rT n d).map UInt8.ofNat:=by
 obtain ⟨h1,h2⟩:=J4A t.data.toList;rw[h1,Option.isSome_iff_exists] at h;obtain ⟨⟨n,d⟩,hx⟩:=h;obtain ⟨h3,h4⟩:=JCn hx;refine ⟨n,d,hx,h3,?_,h4⟩;unfold numV;rw[h2 _ hx]
theorem JJc {s t:ByteArray}(h:s.data.toList=t.data.toList):s=t:=by
 apply ByteArray.ext;exact Array.toList_inj.1 h
theorem JEa {t:ByteArray}(h:(J08 t.data.toList).2=true)(h0:numV t=0):t=⟨#[48]⟩:=by
 obtain ⟨n,d,_,⟨hd,hg,_,_⟩,h2,h3⟩:=JEb h;rw[h2] at h0
 have hn:n=0:=by
  have h5:=(J20 n d (by have:0<d:=hd;omega)).1;rw[h0] at h5;have hg':n.natAbs.gcd (d:Int).natAbs=1:=hg;rw[hg'] at h5;have h6:(0:Rat).num=n/((1:Nat):Int):=h5;have h7:(0:Rat).num=0:=rfl;omega
 subst hn
 have hd1:d=1:=by
  have hg':Nat.gcd 0 d=1:=hg;rw[Nat.gcd_zero_left] at hg';exact hg'
 subst hd1;exact JJc h3
theorem J9g {β:Type}{s:ByteArray}{b:β}:∀ {l:List (ByteArray×β)},J0f l s=some b→(s,b)∈l
 |[],h=>by cases h
 |x::l,h=>by
   unfold J0f at h;split at h
   ·rename_i e;cases h;subst e;exact List.mem_cons_self
   ·exact List.mem_cons_of_mem _ (J9g h)
theorem ty01 (v:Vl):(v.type=0∧∃ q,v=.num q)∨(v.type=1∧∃ b,v=.tr b):=by
 cases v with
 |num q=>exact .inl ⟨rfl,q,rfl⟩
 |tr b=>exact .inr ⟨rfl,b,rfl⟩
theorem len2 {α:Type}{l:List α}(h:(l.length:Int)=2):∃ a b,l=[a,b]:=by
 match l,h with
 |[a,b],_=>exact ⟨a,b,rfl⟩
 |[],h=>simp at h
 |[_],h=>simp at h
 |_::_::_::_,h=>simp at h;omega
theorem len1 {α:Type}{l:List α}(h:(l.length:Int)=1):∃ a,l=[a]:=by
 match l,h with
 |[a],_=>exact ⟨a,rfl⟩
 |[],h=>simp at h
 |_::_::_,h=>simp at h;omega
theorem JKG {α:Type}{l:List α}(h:(l.length:Int)=3):∃ a b c,l=[a,b,c]:=by
 match l,h with
 |[a,b,c],_=>exact ⟨a,b,c,rfl⟩
 |[],h=>simp at h
 |[_],h=>simp at h
 |[_,_],h=>simp at h
 |_::_::_::_::_,h=>simp at h;omega
theorem JEA {o:ByteArray}{x:Int×Bool×Bool}(h:J0f shp o=some x):(o=oNum)∨((o=oAnd∨o=oOr)∧x=(2,true,true))∨(o=oTime∧x=(0,false,false))∨((o=oTrue∨o=oFalse∨o=oInit)∧x=(0,false,true)) ∨
  (o=oNeg∧x=(1,false,false))∨(o=oNot∧x=(1,true,true))∨(o=oSample∧x=(2,false,true))∨((o=oAdd∨o=oSub∨o=oMul∨o=oDiv)∧x=(2,false,false))∨((o=oLess∨o=oAtMost∨o=oMore∨o=oAtLeast)∧x=(2,false,true)):=by
 have:=J9g h;simp only[shp,List.mem_cons,Prod.mk.injEq,List.not_mem_nil,or_false] at this
 rcases this with ⟨rfl,rfl,rfl,rfl⟩|⟨rfl,rfl,rfl,rfl⟩|⟨rfl,rfl,rfl,rfl⟩|⟨rfl,rfl,rfl,rfl⟩|⟨rfl,rfl,rfl,rfl⟩|⟨rfl,rfl,rfl,rfl⟩|⟨rfl,rfl,rfl,rfl⟩|⟨rfl,rfl,rfl,rfl⟩|⟨rfl,rfl,rfl,rfl⟩|⟨rfl,rfl,rfl,rfl⟩|⟨rfl,rfl,rfl,rfl⟩|⟨rfl,rfl,rfl,rfl⟩|⟨rfl,rfl,rfl,rfl⟩|⟨rfl,rfl,rfl,rfl⟩|⟨rfl,rfl,rfl,rfl⟩|⟨rfl,rfl,rfl,rfl⟩|⟨rfl,rfl,rfl,rfl⟩|⟨rfl,rfl,rfl,rfl⟩
 all_goals simp
theorem J0P {ks:List (ByteArray×Va)}{e:Ex}(hb:builtF e=true)(ht:(typeF ks e).2=true):∀ k∈e.kids,(typeF ks k).2=true:=by
 have hl:=(J06 hb).1;rw[J25] at ht;unfold J4b at ht;intro k hk;split at ht
 ·rename_i h;rw[show J1H e.op=0 by unfold J1H;rw[if_pos h]] at hl;have hnil:e.kids=[]:=List.eq_nil_of_length_eq_zero (by omega);rw[hnil] at hk;cases hk
 ·rename_i h0;split at ht
  ·rename_i h;rw[show J1H e.op=2 by unfold J1H;rw[if_neg h0,if_pos h]] at hl;obtain ⟨a,b,he⟩:=len2 hl;rw[he] at hk ht;have ht:((typeF ks a).2&&(typeF ks b).2&&decide ((typeF ks a).1=(typeF ks b).1))=true:=ht;simp only[Bool.and_eq_true] at ht;simp only[List.mem_cons,List.not_mem_nil,or_false] at hk
   rcases hk with rfl|rfl
   ·exact ht.1.1
   ·exact ht.1.2
  ·rename_i h1;split at ht
   ·rename_i h;rw[show J1H e.op=3 by unfold J1H;rw[if_neg h0,if_neg h1,if_pos h]] at hl;obtain ⟨a,b,c,he⟩:=JKG hl;rw[he] at hk ht;have ht:((typeF ks a).2&&((typeF ks b).2&&(typeF ks c).2&&decide ((typeF ks b).1=(typeF ks c).1))&&decide ((typeF ks a).1=1))=true:=ht;simp only[Bool.and_eq_true] at ht;simp only[List.mem_cons,List.not_mem_nil,or_false] at hk
    rcases hk with rfl|rfl|rfl
    ·exact ht.1.1
    ·exact ht.1.2.1.1
    ·exact ht.1.2.1.2
   ·split at ht
    ·cases ht
    ·rename_i h;have h:=Bool.eq_false_iff.2 h;exact (JIL h _ (List.mem_map.2 ⟨k,hk,rfl⟩)).1
inductive Shape (ks:List (ByteArray×Va)) (e:Ex):Prop where
 |num (h:e.op=oNum) (hk:e.kids=[]) (ht:(typeF ks e).1=0)
 |ref (h:e.op=oVar∨e.op=oPre) (hk:e.kids=[]) (v:Va) (hv:J0f ks e.text=some v) (ht:(typeF ks e).1=v.type)
 |ite (h:e.op=oIf) (a b c:Ex) (hk:e.kids=[a,b,c]) (ha:(typeF ks a).1=1) (hb:(typeF ks b).1=(typeF ks e).1) (hc:(typeF ks c).1=(typeF ks e).1)
 |bin (h:e.op=oAnd∨e.op=oOr) (a b:Ex) (hk:e.kids=[a,b]) (ha:(typeF ks a).1=1) (hb:(typeF ks b).1=1) (ht:(typeF ks e).1=1)
 |eq (h:e.op=oEq∨e.op=oNe) (a b:Ex) (hk:e.kids=[a,b]) (hab:(typeF ks a).1=(typeF ks b).1) (ht:(typeF ks e).1=1)
 |time (h:e.op=oTime) (hk:e.kids=[]) (ht:(typeF ks e).1=0)
 |const (h:e.op=oTrue∨e.op=oFalse∨e.op=oInit) (hk:e.kids=[]) (ht:(typeF ks e).1=1)
 |neg (h:e.op=oNeg) (a:Ex) (hk:e.kids=[a]) (ha:(typeF ks a).1≠1) (ht:(typeF ks e).1=0)
 |not (h:e.op=oNot) (a:Ex) (hk:e.kids=[a]) (ha:(typeF ks a).1=1) (ht:(typeF ks e).1=1)
 |sample (h:e.op=oSample) (a b:Ex) (hk:e.kids=[a,b]) (ha:a.op=oNum) (hb:b.op=oNum) (h0:b.text≠⟨#[48]⟩) (ht:(typeF ks e).1=1)
 |arith (h:e.op=oAdd∨e.op=oSub∨e.op=oMul∨e.op=oDiv) (a b:Ex) (hk:e.kids=[a,b]) (ha:(typeF ks a).1≠1) (hb:(typeF ks b).1≠1) (ht:(typeF ks e).1=0)
 |comp (h:e.op=oLess∨e.op=oAtMost∨e.op=oMore∨e.op=oAtLeast) (a b:Ex) (hk:e.kids=[a,b]) (ha:(typeF ks a).1≠1) (hb:(typeF ks b).1≠1) (ht:(typeF ks e).1=1)
theorem nil0 {α:Type}{l:List α}(h:(l.length:Int)=0):l=[]:=List.eq_nil_of_length_eq_zero (by omega)
theorem J1k {ks:List (ByteArray×Va)}{e:Ex}(hb:builtF e=true)(ht:(typeF ks e).2=true):Shape ks e:=by
 have hl:=(J06 hb).1
 have hsm:J4c e.op e.kids (e.kids.map builtF)=false:=by
  rw[J0u] at hb;simp only[Bool.and_eq_true,Bool.not_eq_true'] at hb;exact hb.1.2
 have htt:=J25 ks e;rw[htt] at ht;unfold J4b at ht htt;split at ht
 ·rename_i h;rw[if_pos h] at htt;rw[show J1H e.op=0 by unfold J1H;rw[if_pos h]] at hl
  cases ha:J0f ks e.text with
  |none=>rw[ha] at ht;cases ht
  |some v=>
    rw[ha] at htt;exact .ref h (nil0 hl) v ha (by rw[htt])
 ·rename_i h0;rw[if_neg h0] at htt;split at ht
  ·rename_i h;rw[if_pos h] at htt;rw[show J1H e.op=2 by unfold J1H;rw[if_neg h0,if_pos h]] at hl;obtain ⟨a,b,he⟩:=len2 hl;rw[he] at ht;have ht:((typeF ks a).2&&(typeF ks b).2&&decide ((typeF ks a).1=(typeF ks b).1))=true:=ht;simp only[Bool.and_eq_true,decide_eq_true_eq] at ht;exact .eq h a b he ht.2 (by rw[htt])
  ·rename_i h1;rw[if_neg h1] at htt;split at ht
   ·rename_i h;rw[if_pos h] at htt;rw[show J1H e.op=3 by unfold J1H;rw[if_neg h0,if_neg h1,if_pos h]] at hl;obtain ⟨a,b,c,he⟩:=JKG hl;rw[he] at ht htt;have ht:((typeF ks a).2&&((typeF ks b).2&&(typeF ks c).2&&decide ((typeF ks b).1=(typeF ks c).1))&&decide ((typeF ks a).1=1))=true:=ht;simp only[Bool.and_eq_true,decide_eq_true_eq] at ht;have h5:(typeF ks e).1=(typeF ks b).1:=by rw[htt];rfl
    exact .ite h a b c he ht.2 h5.symm (by rw[h5];exact ht.1.2.2.symm)
   ·rename_i h2;rw[if_neg h2] at htt;split at ht
    ·cases ht
    ·rename_i h3;rw[if_neg h3] at htt;have h3:=JIL (Bool.eq_false_iff.2 h3)
     have hkk:J1H e.op=match J0f shp e.op with|none=>-1|some x=>x.1:=by unfold J1H;rw[if_neg h0,if_neg h1,if_neg h2];try rfl
     cases hs:J0f shp e.op with
     |none=>rw[hs] at hkk;rw[hkk] at hl;simp only at hl;omega
     |some x=>
       rw[hs] at hkk;have hx:shpD e.op=x:=by unfold shpD;rw[hs]
       rw[hx] at h3 htt;replace hkk:(e.kids.length:Int)=x.1:=by rw[hl,hkk]
       have ht1:(typeF ks e).1=if x.2.2 then 1 else 0:=by rw[htt]
       have hkt:∀ k∈e.kids,decide ((typeF ks k).1=1)=x.2.1:=fun k hk=>(h3 _ (List.mem_map.2 ⟨k,hk,rfl⟩)).2
       rcases JEA hs with h|⟨h,rfl⟩|⟨h,rfl⟩|⟨h,rfl⟩|⟨h,rfl⟩|⟨h,rfl⟩|⟨h,rfl⟩|⟨h,rfl⟩|⟨h,rfl⟩
       ·have hn:x=(0,false,false):=by
         rw[h] at hs;exact (Option.some.inj (hs.symm.trans (by rfl:J0f shp oNum=some (0,false,false))))
        subst hn;exact .num h (nil0 hkk) ht1
       ·obtain ⟨a,b,he⟩:=len2 hkk;rw[he] at hkt;exact .bin h a b he (of_decide_eq_true (hkt a (by simp))) (of_decide_eq_true (hkt b (by simp))) ht1
       ·exact .time h (nil0 hkk) ht1
       ·exact .const h (nil0 hkk) ht1
       ·obtain ⟨a,he⟩:=len1 hkk;rw[he] at hkt;exact .neg h a he (of_decide_eq_false (hkt a (by simp))) ht1
       ·obtain ⟨a,he⟩:=len1 hkk;rw[he] at hkt;exact .not h a he (of_decide_eq_true (hkt a (by simp))) ht1
       ·obtain ⟨a,b,he⟩:=len2 hkk;rw[he] at hkt hsm;unfold J4c at hsm;rw[decide_eq_true h,Bool.true_and] at hsm;simp only[List.map_cons,Bool.or_eq_false_iff,Bool.not_eq_false',decide_eq_true_eq,decide_eq_false_iff_not] at hsm;exact .sample h a b he hsm.1.1.1.1 hsm.1.1.1.2 hsm.2 ht1
       ·obtain ⟨a,b,he⟩:=len2 hkk;rw[he] at hkt;exact .arith h a b he (of_decide_eq_false (hkt a (by simp))) (of_decide_eq_false (hkt b (by simp))) ht1
       ·obtain ⟨a,b,he⟩:=len2 hkk;rw[he] at hkt;exact .comp h a b he (of_decide_eq_false (hkt a (by simp))) (of_decide_eq_false (hkt b (by simp))) ht1
def IsOp (o:ByteArray):Prop:=o≠oNum∧¬(o=oVar∨o=oPre)∧¬(o=oIf∨o=oAnd∨o=oOr)
theorem JGz {o:ByteArray}(h:o∈[oEq,oNe,oTime,oTrue,oFalse,oInit,oNeg,oNot,oSample,oAdd,oSub,oMul,oDiv,oLess,oAtMost,oMore,oAtLeast]):IsOp o:=by
 have:(([oEq,oNe,oTime,oTrue,oFalse,oInit,oNeg,oNot,oSample,oAdd,oSub,oMul,oDiv,oLess,oAtMost,oMore,oAtLeast]:List ByteArray).all fun o=>!decide (o=oNum)&&!(decide (o=oVar)||decide (o=oPre))&&!(decide (o=oIf)||decide (o=oAnd)||decide (o=oOr)))=true:=by kernel_rfl
 have:=List.all_eq_true.1 this o h;simp only[Bool.and_eq_true,Bool.not_eq_true',Bool.or_eq_false_iff,decide_eq_false_iff_not] at this;exact ⟨this.1.1,by rintro (h|h);exact this.1.2.1 h;exact this.1.2.2 h,by rintro (h|h|h);exact this.2.1.1 h;exact this.2.1.2 h;exact this.2.2 h⟩
theorem J3G {o:ByteArray}(h:o=oIf∨o=oAnd∨o=oOr):o≠oNum∧¬(o=oVar∨o=oPre):=by rcases h with rfl|rfl|rfl<;>exact ⟨by decide,by decide⟩
section
variable {ks:List (ByteArray×Va)} {ev:Ev} {o t:ByteArray} {n:Int} {rs:List (Except Int Vl)}
theorem J2b (h:o=oNum):J1P ks ev o t n rs=.ok (.num (numV t)):=by unfold J1P;rw[if_pos h]
theorem J5g (h:o=oVar∨o=oPre):J1P ks ev o t n rs=J2i ks ev ⟨t,n,decide (o=oPre)⟩:=by
 unfold J1P;rw[if_neg (by rcases h with rfl|rfl<;>decide),if_pos h]
theorem J3Y (h:o=oIf∨o=oAnd∨o=oOr):J1P ks ev o t n rs=match rs.getD 0 (.error 0) with
  |.error c=>.error c
  |.ok v=>match J2J o v.truth with
    |some i=>rs.getD i (.error 0)
    |none=>.ok v:=by
 unfold J1P;rw[if_neg (J3G h).1,if_neg (J3G h).2,if_pos h]
 try rfl
theorem J7v (h:IsOp o):J1P ks ev o t n rs=match seqR rs with
  |.error c=>.error c
  |.ok vs=>wayF ev o vs:=by
 unfold J1P;rw[if_neg h.1,if_neg h.2.1,if_neg h.2.2]
 try rfl
end
theorem Shape.isOp {ks:List (ByteArray×Va)}{e:Ex}(h:Shape ks e):e.op=oNum∨(e.op=oVar∨e.op=oPre)∨(e.op=oIf∨e.op=oAnd∨e.op=oOr)∨IsOp e.op:=by
 rcases h with ⟨h⟩|⟨h⟩|⟨h⟩|⟨h⟩|⟨h⟩|⟨h⟩|⟨h⟩|⟨h⟩|⟨h⟩|⟨h⟩|⟨h⟩|⟨h⟩
 ·exact .inl h
 ·exact .inr (.inl h)
 ·exact .inr (.inr (.inl (.inl h)))
 ·exact .inr (.inr (.inl (.inr h)))
 all_goals
  refine .inr (.inr (.inr (JGz ?_)))
  first|(rcases h with h|h|h|h)|(rcases h with h|h|h)|(rcases h with h|h)|skip
 all_goals rw[h];simp
theorem J53 {ks:List (ByteArray×Va)}{ev:Ev}{e:Ex}(hb:builtF e=true)(hs:Shape ks e)(ho:IsOp e.op)(hk:∀ k∈e.kids,∀ v,evalF ks ev k=.ok v→v.type=(typeF ks k).1){vs:List Vl}(h:e.kids.map (evalF ks ev)=vs.map .ok):JGP e.op vs:=by
 have two:∀ {a b:Ex},e.kids=[a,b]→∃ x y,vs=[x,y]∧x.type=(typeF ks a).1∧y.type=(typeF ks b).1∧evalF ks ev a=.ok x∧evalF ks ev b=.ok y:=by
  intro a b he;rw[he] at h hk
  rcases vs with _|⟨x,_|⟨y,_|⟨z,r⟩⟩⟩<;>simp at h
  exact ⟨x,y,rfl,hk a (by simp) x h.1,hk b (by simp) y h.2,h.1,h.2⟩
 have one:∀ {a:Ex},e.kids=[a]→∃ x,vs=[x]∧x.type=(typeF ks a).1:=by
  intro a he;rw[he] at h hk
  rcases vs with _|⟨x,_|⟨z,r⟩⟩<;>simp at h
  exact ⟨x,rfl,hk a (by simp) x h⟩
 have number:∀ {v:Vl} {t:Int},v.type=t→t≠1→∃ q,v=.num q:=by
  intro v t h1 h2
  rcases ty01 v with ⟨_,h⟩|⟨h,_⟩
  ·exact h
  ·exact absurd (h1.symm.trans h) h2
 have truth:∀ {v:Vl} {t:Int},v.type=t→t=1→∃ b,v=.tr b:=by
  intro v t h1 h2
  rcases ty01 v with ⟨h,_⟩|⟨_,h⟩
  ·rw[h1,h2] at h;cases h
  ·exact h
 rcases hs with ⟨h1⟩|⟨h1⟩|⟨h1⟩|⟨h1⟩|⟨h1,a,b,he,hab,_⟩|⟨h1⟩|⟨h1⟩|⟨h1,a,he,ha,_⟩|⟨h1,a,he,ha,_⟩|⟨h1,a,b,he,ha,hb',h0,_⟩|⟨h1,a,b,he,ha,hb',_⟩|⟨h1,a,b,he,ha,hb',_⟩
 ·exact absurd h1 ho.1
 ·exact absurd h1 ho.2.1
 ·exact absurd (.inl h1) ho.2.2
 ·exact absurd (.inr h1) ho.2.2
 ·obtain ⟨x,y,rfl,hx,hy,_⟩:=two he;exact .inr (.inr (.inr (.inr (.inr ⟨h1,x,y,rfl,by rw[hx,hy,hab]⟩))))
 ·exact .inl (.inr (.inr (.inl h1)))
 ·refine .inl ?_
  rcases h1 with h1|h1|h1
  ·exact .inl h1
  ·exact .inr (.inl h1)
  ·exact .inr (.inr (.inr h1))
 ·obtain ⟨x,rfl,hx⟩:=one he;obtain ⟨q,rfl⟩:=number hx ha;exact .inr (.inr (.inl ⟨h1,q,rfl⟩))
 ·obtain ⟨x,rfl,hx⟩:=one he;obtain ⟨q,rfl⟩:=truth hx ha;exact .inr (.inr (.inr (.inl ⟨h1,q,rfl⟩)))
 ·obtain ⟨x,y,rfl,_,_,ex,ey⟩:=two he;rw[J0l,J2b ha] at ex;rw[J0l,J2b hb'] at ey;cases ex;cases ey;refine .inr (.inl ⟨h1,_,_,rfl,fun hq=>h0 (JEa ?_ hq)⟩);have hbb:=(J06 hb).2 b (by rw[he];simp);rw[J0u] at hbb;simp only[Bool.and_eq_true] at hbb;have hx:=hbb.1.1.2;unfold textF at hx;rw[if_pos hb'] at hx;simp only[Bool.and_eq_true] at hx;exact hx.1
 ·obtain ⟨x,y,rfl,hx,hy,_⟩:=two he;obtain ⟨p,rfl⟩:=number hx ha;obtain ⟨q,rfl⟩:=number hy hb';refine .inr (.inr (.inr (.inr (.inl ⟨?_,p,q,rfl⟩))))
  rcases h1 with h1|h1|h1|h1<;>simp[h1]
 ·obtain ⟨x,y,rfl,hx,hy,_⟩:=two he;obtain ⟨p,rfl⟩:=number hx ha;obtain ⟨q,rfl⟩:=number hy hb';refine .inr (.inr (.inr (.inr (.inl ⟨?_,p,q,rfl⟩))))
  rcases h1 with h1|h1|h1|h1<;>simp[h1]
def typeW (o:ByteArray):Int:=if o=oTime∨o=oNeg∨o=oAdd∨o=oSub∨o=oMul∨o=oDiv then 0 else 1
theorem JIY {ev:Ev}{o:ByteArray}{vs:List Vl}(hw:JGP o vs){v:Vl}(h:wayF ev o vs=.ok v):v.type=typeW o:=by
 rcases hw with h1|⟨rfl,p,q,rfl,h0⟩|⟨rfl,p,rfl⟩|⟨rfl,c,rfl⟩|⟨h1,p,q,rfl⟩|⟨h1,a,b,rfl,hab⟩
 ·rcases h1 with rfl|rfl|rfl|rfl<;>(cases h;rfl)
 ·replace h:(.ok (.tr (multF (ev.time-p) q)):Except Int Vl)=.ok v:=h;cases h;rfl
 ·replace h:(.ok (.num (-p)):Except Int Vl)=.ok v:=h;cases h;rfl
 ·replace h:(.ok (.tr (!c)):Except Int Vl)=.ok v:=h;cases h;rfl
 ·rcases h1 with rfl | rfl | rfl | rfl | rfl | rfl | rfl | rfl
  ·replace h:(.ok (.num (p+q)):Except Int Vl)=.ok v:=h;cases h;rfl
  ·replace h:(.ok (.num (p-q)):Except Int Vl)=.ok v:=h;cases h;rfl
  ·replace h:(.ok (.num (p*q)):Except Int Vl)=.ok v:=h;cases h;rfl
  ·replace h:divV p q=.ok v:=h;unfold divV at h;split at h
   ·cases h
   ·cases h;rfl
  ·replace h:(.ok (.tr (decide (p<q))):Except Int Vl)=.ok v:=h;cases h;rfl
  ·replace h:(.ok (.tr (decide (p≤q))):Except Int Vl)=.ok v:=h;cases h;rfl
  ·replace h:(.ok (.tr (decide (q<p))):Except Int Vl)=.ok v:=h;cases h;rfl
  ·replace h:(.ok (.tr (decide (q≤p))):Except Int Vl)=.ok v:=h;cases h;rfl
 ·rcases a with p | x<;>rcases b with q | y<;>first | (cases hab;done) | skip
  ·rcases h1 with rfl | rfl
   ·replace h:(.ok (.tr (sameV (.num p) (.num q))):Except Int Vl)=.ok v:=h;cases h;rfl
   ·replace h:(.ok (.tr (!sameV (.num p) (.num q))):Except Int Vl)=.ok v:=h;cases h;rfl
  ·rcases h1 with rfl | rfl
   ·replace h:(.ok (.tr (sameV (.tr x) (.tr y))):Except Int Vl)=.ok v:=h;cases h;rfl
   ·replace h:(.ok (.tr (!sameV (.tr x) (.tr y))):Except Int Vl)=.ok v:=h;cases h;rfl
theorem Shape.typeW {ks:List (ByteArray×Va)}{e:Ex}(hs:Shape ks e)(ho:IsOp e.op):(typeF ks e).1=typeW e.op:=by
 rcases hs with ⟨h1⟩|⟨h1⟩|⟨h1⟩|⟨h1⟩|⟨h1,a,b,he,hab,ht⟩|⟨h1,he,ht⟩|⟨h1,he,ht⟩|⟨h1,a,he,ha,ht⟩|⟨h1,a,he,ha,ht⟩|⟨h1,a,b,he,ha,hb',h0,ht⟩|⟨h1,a,b,he,ha,hb',ht⟩|⟨h1,a,b,he,ha,hb',ht⟩
 ·exact absurd h1 ho.1
 ·exact absurd h1 ho.2.1
 ·exact absurd (.inl h1) ho.2.2
 ·exact absurd (.inr h1) ho.2.2
 all_goals
  rw[ht]
  first|(rcases h1 with h1|h1|h1|h1)|(rcases h1 with h1|h1|h1)|(rcases h1 with h1|h1)|skip
 all_goals (rw[h1];rfl)
theorem J7w {ks:List (ByteArray×Va)}{ev:Ev}(e:Ex):builtF e=true→(typeF ks e).2=true→∀ v,evalF ks ev e=.ok v→v.type=(typeF ks e).1:=by
 induction e using J1D with
 |h e ih=>
   intro hb ht v h;have ihk:∀ k∈e.kids,∀ v,evalF ks ev k=.ok v→v.type=(typeF ks k).1:=fun k hk=>ih k hk ((J06 hb).2 k hk) (J0P hb ht k hk);have hs:=J1k hb ht;rw[J0l] at h
   by_cases ho:IsOp e.op
   ·rw[J7v ho] at h;split at h
    ·cases h
    ·rename_i vs hvs;rw[hs.typeW ho];exact JIY (J53 hb hs ho ihk (J7V hvs)) h
   rcases hs with ⟨h1,he,ht'⟩|⟨h1,he,w,hw,ht'⟩|⟨h1,a,b,c,he,ha,hb',hc⟩|⟨h1,a,b,he,ha,hb',ht'⟩|⟨h1⟩|⟨h1⟩|⟨h1⟩|⟨h1⟩|⟨h1⟩|⟨h1⟩|⟨h1⟩|⟨h1⟩
   ·rw[J2b h1] at h;cases h;rw[ht'];rfl
   ·rw[J5g h1] at h;rw[JHc h,ht'];show JCT ks e.text=w.type
    unfold JCT;rw[hw]
   ·rw[J3Y (.inl h1),he] at h;rw[he] at ihk
    have h:(match evalF ks ev a with
     |.error c=>.error c
     |.ok v=>match J2J e.op v.truth with
       |some i=>(List.map (evalF ks ev) [a,b,c]).getD i (.error 0)
       |none=>.ok v)=Except.ok v:=h
    split at h
    ·cases h
    ·rename_i x hx;unfold J2J at h;rw[if_pos h1] at h;cases hxt:x.truth
     ·rw[hxt] at h;have h:evalF ks ev c=.ok v:=h;rw[ihk c (by simp) v h,hc]
     ·rw[hxt] at h;have h:evalF ks ev b=.ok v:=h;rw[ihk b (by simp) v h,hb']
   ·rw[J3Y (.inr h1),he] at h;rw[he] at ihk
    have h:(match evalF ks ev a with
     |.error c=>.error c
     |.ok v=>match J2J e.op v.truth with
       |some i=>(List.map (evalF ks ev) [a,b]).getD i (.error 0)
       |none=>.ok v)=Except.ok v:=h
    split at h
    ·cases h
    ·rename_i x hx;unfold J2J at h;rw[if_neg (by rcases h1 with h1 | h1<;>rw[h1]<;>decide)] at h
     by_cases hd:decide (e.op=oAnd)=x.truth
     ·rw[if_pos hd] at h;have h:evalF ks ev b=.ok v:=h;rw[ihk b (by simp) v h,hb',ht']
     ·rw[if_neg hd] at h;cases h;rw[ihk a (by simp) v hx,ha,ht']
   all_goals
    exfalso;refine ho (JGz ?_)
    first|(rcases h1 with h1|h1|h1|h1)|(rcases h1 with h1|h1|h1)|(rcases h1 with h1|h1)|skip
   all_goals rw[h1];simp
theorem JGQ {ev:Ev}{o:ByteArray}{vs:List Vl}(hw:JGP o vs){c:Int}(h:wayF ev o vs=.error c):c=12:=by
 rcases hw with h1|⟨rfl,p,q,rfl,h0⟩|⟨rfl,p,rfl⟩|⟨rfl,x,rfl⟩|⟨h1,p,q,rfl⟩|⟨h1,a,b,rfl,hab⟩
 ·rcases h1 with rfl|rfl|rfl|rfl<;>cases h
 ·replace h:(.ok (.tr (multF (ev.time-p) q)):Except Int Vl)=.error c:=h;cases h
 ·replace h:(.ok (.num (-p)):Except Int Vl)=.error c:=h;cases h
 ·replace h:(.ok (.tr (!x)):Except Int Vl)=.error c:=h;cases h
 ·rcases h1 with rfl | rfl | rfl | rfl | rfl | rfl | rfl | rfl
  ·replace h:(.ok (.num (p+q)):Except Int Vl)=.error c:=h;cases h
  ·replace h:(.ok (.num (p-q)):Except Int Vl)=.error c:=h;cases h
  ·replace h:(.ok (.num (p*q)):Except Int Vl)=.error c:=h;cases h
  ·replace h:divV p q=.error c:=h;unfold divV at h;split at h
   ·cases h;rfl
   ·cases h
  ·replace h:(.ok (.tr (decide (p<q))):Except Int Vl)=.error c:=h;cases h
  ·replace h:(.ok (.tr (decide (p≤q))):Except Int Vl)=.error c:=h;cases h
  ·replace h:(.ok (.tr (decide (q<p))):Except Int Vl)=.error c:=h;cases h
  ·replace h:(.ok (.tr (decide (q≤p))):Except Int Vl)=.error c:=h;cases h
 ·rcases a with p | x<;>rcases b with q | y<;>first | (cases hab;done) | skip
  ·rcases h1 with rfl | rfl
   ·replace h:(.ok (.tr (sameV (.num p) (.num q))):Except Int Vl)=.error c:=h;cases h
   ·replace h:(.ok (.tr (!sameV (.num p) (.num q))):Except Int Vl)=.error c:=h;cases h
  ·rcases h1 with rfl | rfl
   ·replace h:(.ok (.tr (sameV (.tr x) (.tr y))):Except Int Vl)=.error c:=h;cases h
   ·replace h:(.ok (.tr (!sameV (.tr x) (.tr y))):Except Int Vl)=.error c:=h;cases h
theorem JBM:∀ {rs:List (Except Int Vl)} {c:Int},seqR rs=.error c→.error c∈rs
 |.error d::r,c,h=>by cases h;exact List.mem_cons_self
 |.ok v::r,c,h=>by
   unfold seqR at h;split at h
   ·cases h
   ·rename_i d hd;cases h;exact List.mem_cons_of_mem _ (JBM hd)
def ErrC (c:Int):Prop:=c=5∨c=7∨c=12
theorem J5h {ks:List (ByteArray×Va)}{ev:Ev}(e:Ex):builtF e=true→(typeF ks e).2=true→∀ c,evalF ks ev e=.error c→ErrC c:=by
 induction e using J1D with
 |h e ih=>
   intro hb ht c h;have ihk:∀ k∈e.kids,∀ c,evalF ks ev k=.error c→ErrC c:=fun k hk=>ih k hk ((J06 hb).2 k hk) (J0P hb ht k hk);have hty:∀ k∈e.kids,∀ v,evalF ks ev k=.ok v→v.type=(typeF ks k).1:=fun k hk=>J7w k ((J06 hb).2 k hk) (J0P hb ht k hk);have hs:=J1k hb ht;rw[J0l] at h
   by_cases ho:IsOp e.op
   ·rw[J7v ho] at h;split at h
    ·rename_i d hd;cases h;obtain ⟨k,hk,h⟩:=List.mem_map.1 (JBM hd);exact ihk k hk _ h
    ·rename_i vs hvs;exact .inr (.inr (JGQ (J53 hb hs ho hty (J7V hvs)) h))
   rcases hs with ⟨h1,he,ht'⟩|⟨h1,he,w,hw,ht'⟩|⟨h1,a,b,x,he,ha,hb',hc⟩|⟨h1,a,b,he,ha,hb',ht'⟩|⟨h1⟩|⟨h1⟩|⟨h1⟩|⟨h1⟩|⟨h1⟩|⟨h1⟩|⟨h1⟩|⟨h1⟩
   ·rw[J2b h1] at h;cases h
   ·rw[J5g h1] at h;unfold J2i at h;split at h
    ·cases h;exact .inl rfl
    ·split at h
     ·cases h;exact .inr (.inl rfl)
     ·cases h
   ·rw[J3Y (.inl h1),he] at h;rw[he] at ihk
    have h:(match evalF ks ev a with
     |.error c=>.error c
     |.ok v=>match J2J e.op v.truth with
       |some i=>(List.map (evalF ks ev) [a,b,x]).getD i (.error 0)
       |none=>.ok v)=Except.error c:=h
    split at h
    ·rename_i d hd;cases h;exact ihk a (by simp) _ hd
    ·rename_i y hy;unfold J2J at h;rw[if_pos h1] at h;cases hxt:y.truth
     ·rw[hxt] at h;exact ihk x (by simp) c h
     ·rw[hxt] at h;exact ihk b (by simp) c h
   ·rw[J3Y (.inr h1),he] at h;rw[he] at ihk
    have h:(match evalF ks ev a with
     |.error c=>.error c
     |.ok v=>match J2J e.op v.truth with
       |some i=>(List.map (evalF ks ev) [a,b]).getD i (.error 0)
       |none=>.ok v)=Except.error c:=h
    split at h
    ·rename_i d hd;cases h;exact ihk a (by simp) _ hd
    ·rename_i y hy;unfold J2J at h;rw[if_neg (by rcases h1 with h1 | h1<;>rw[h1]<;>decide)] at h
     by_cases hd:decide (e.op=oAnd)=y.truth
     ·rw[if_pos hd] at h;exact ihk b (by simp) c h
     ·rw[if_neg hd] at h;cases h
   all_goals
    exfalso;refine ho (JGz ?_)
    first|(rcases h1 with h1|h1|h1|h1)|(rcases h1 with h1|h1|h1)|(rcases h1 with h1|h1)|skip
   all_goals rw[h1];simp
theorem ErrC.ne {c:Int}(h:ErrC c):¬ c=0:=by rcases h with rfl|rfl|rfl<;>decide
theorem JJW (q:Rat):0<q.den:=by have:=q.den_nz;omega
def evFn (ks:List (ByteArray×Va))(ev:Ev):Nat→AV
 |0=>.dead
 |n+1=>.fn (.func 188) [] [.ep (encK ks) 0,.ep (J0p ev) 0,.ep (evFn ks ev n) 0,.ep wayM 0]
theorem JGy {e k:Ex}(h:k∈e.kids):SizeOf.sizeOf k<SizeOf.sizeOf e:=by
 cases e with
 |mk o t m ks=>
   have:=List.sizeOf_lt_of_mem (show k∈ks from h);simp;omega
theorem J51:∀ es:List Ex,es.length≤wtL es
 |[]=>Nat.zero_le _
 |e::es=>by
   unfold wtL;have:=J51 es;have:=J4N e;simp only[List.length_cons];omega
theorem JL0 {b p e n:Nat}{H:Hp}{out:List Vl}(hb:H b=some (p,⟨e,6,out.map J0C⟩))(hn:n=out.length):snap [b] H (.own b p 0 n)=J4G out:=by
 rw[J2q (by simp) hb (by simp[hn]),J19 _ _ _ _ hn fun v=>by cases v<;>rfl];rfl
def JCl (ev:Ev)(o:ByteArray)(vs:List Vl)(rs:List (Except Int Vl)):Except Int Vl:=match seqR rs with
 |.error c=>.error c
 |.ok r=>wayF ev o (vs++r)
theorem JGh (ev:Ev)(o:ByteArray)(vs:List Vl)(v:Vl)(rs:List (Except Int Vl)):JCl ev o vs (.ok v::rs)=JCl ev o (vs++[v]) rs:=by
 unfold JCl;rw[show seqR (.ok v::rs)=match seqR rs with|.ok l=>.ok (v::l)|.error c=>.error c from rfl]
 cases seqR rs with
 |error c=>rfl
 |ok l=>simp
def hpE (g5 g6 gl:Nat)(e:AV)(vs:List Vl):List (Nat×Nat×Blk):=[(5,g5,⟨29,4,[e]⟩),(6,g6,⟨148,6,[J11 nilQ false false]⟩),(93,gl,⟨148,6,vs.map J0C⟩)]
theorem JHm (ks:List (ByteArray×Va))(ev:Ev)(he:EvOk ev)(e:Ex):SzE e→TxE e→builtF e=true→(typeF ks e).2=true→wtF e≤1000→∀ n,SizeOf.sizeOf e≤n →
  PX 188 [encE e,.ep (encK ks) 0,.ep (J0p ev) 0,.ep (evFn ks ev n) 0,.ep wayM 0] (J1n (evalF ks ev e)):=by
 induction e using J1D with
 |h e ih=>
   intro hz hx hb ht hw n hn;have hpos:0<SizeOf.sizeOf e:=by cases e;simp;omega
   obtain ⟨m,rfl⟩:∃ m,n=m+1:=⟨n-1,by omega⟩;have hm:∀ k∈e.kids,SizeOf.sizeOf k≤m:=fun k hk=>by have:=JGy hk;omega
   have ihk:∀ k∈e.kids,PX 188 [encE k,.ep (encK ks) 0,.ep (J0p ev) 0,.ep (evFn ks ev m) 0,.ep wayM 0] (J1n (evalF ks ev k)):=
    fun k hk=>ih k hk (hz.kid k hk) (hx.kid k hk) ((J06 hb).2 k hk) (J0P hb ht k hk) (by have:=JBB hk;omega) m (hm k hk)
   clear ih;have hty:∀ k∈e.kids,∀ v,evalF ks ev k=.ok v→v.type=(typeF ks k).1:=fun k hk=>J7w k ((J06 hb).2 k hk) (J0P hb ht k hk);have herr:∀ k∈e.kids,∀ c,evalF ks ev k=.error c→¬ c=0:=fun k hk c h=>(J5h k ((J06 hb).2 k hk) (J0P hb ht k hk) c h).ne;have hsz:∀ k∈e.kids,∀ v,evalF ks ev k=.ok v→v.sz≤301*wtF k:=fun k hk=>JBu he k ((J06 hb).2 k hk);have hs:=J1k hb ht;have hso:=hs.isOp;have hwt:wtL e.kids≤1000:=by have:=J4N e;omega
   have hlen:e.kids.length≤1000:=Nat.le_trans (J51 _) hwt;have htx:=hx.tx
   have htxt:e.op=oNum→(J08 e.text.data.toList).2=true:=by
    intro h1;have hx:textF e=true:=by rw[J0u] at hb;simp only[Bool.and_eq_true] at hb;exact hb.1.1.2
    unfold textF at hx;rw[if_pos h1] at hx;simp only[Bool.and_eq_true] at hx;exact hx.1
   have hUse:=JKk e;have hBound:=JHq ks ev (useF e);have hway:=fun (vs:List Vl) (ho:IsOp e.op) (h:e.kids.map (evalF ks ev)=vs.map .ok)=>J53 hb hs ho hty h
   have hfirst:e.op=oIf∨e.op=oAnd∨e.op=oOr→0<e.kids.length∧∀ t i,J2J e.op t=some i→i<e.kids.length:=by
    intro h
    rcases hs with ⟨h1⟩|⟨h1⟩|⟨h1,a,b,c,hk,_⟩|⟨h1,a,b,hk,_⟩|⟨h1⟩|⟨h1⟩|⟨h1⟩|⟨h1⟩|⟨h1⟩|⟨h1⟩|⟨h1⟩|⟨h1⟩
    ·exact absurd h1 (J3G h).1
    ·exact absurd h1 (J3G h).2
    ·rw[hk];refine ⟨by simp,fun t i hi=>?_⟩;unfold J2J at hi;rw[if_pos h1] at hi;cases t<;>cases hi<;>simp
    ·rw[hk];refine ⟨by simp,fun t i hi=>?_⟩;unfold J2J at hi;rw[if_neg (by rcases h1 with h1 | h1<;>rw[h1]<;>decide)] at hi;split at hi
     ·cases hi;simp
     ·cases hi
    all_goals
     exfalso
     have hop:IsOp e.op:=JGz (by
      first|(rcases h1 with h1|h1|h1|h1)|(rcases h1 with h1|h1|h1)|(rcases h1 with h1|h1)|skip
      all_goals rw[h1];simp)
     exact hop.2.2 h
   have hNext:=fun t=>JJl e t;clear hz hx hb ht hw hn hm hs;refine PZ Tryz.func188 rfl ?_;generalize hF:evalF ks ev e=F;rw[J0l] at hF;rw[J01] at hUse hNext ⊢;generalize hus:useF e=us at *;obtain ⟨o,t,od,es⟩:=e;simp only[Ex.op,Ex.text,Ex.order,Ex.kids] at *
   rcases hso with h1|h1|h1|h1
   ·rw[J2b h1] at hF;obtain ⟨hq1,hq2⟩:=J0y (htxt h1);have hp:=J1R t.data.toList htx;rw[J0v,J6m,← hq1] at hp;have hN:=J24 (numV t);generalize numV t=q at *;generalize (J08 t.data.toList).2=b at *;unfold encF encQ at hp;(refine kWS ?_;repeat intro γ);refine J00 [] _ c134 hp ?_;(refine kWS ?_;repeat intro γ);refine J00 [] _ c189 hN ?_;(refine kWS ?_;repeat intro γ);exact .of (by rw[← hF];rfl)
   ·rw[J5g h1] at hF;replace hF:J2i ks ev us=F:=by rw[← hus];exact hF
    rw[hF] at hBound
    have hcond:¬ o=oNum:=by rcases h1 with rfl|rfl<;>decide
    by_cases h2:o=oVar
    case' neg=>have h3:o=oPre:=h1.resolve_left h2
    all_goals
     (refine kWS ?_;repeat intro γ);refine CallG.intro _ c145 hUse ?_;(refine kWS ?_;repeat intro γ);refine CallG.intro _ c190 hBound ?_
     rcases F with c|q|b
     all_goals
      (refine kWS ?_;repeat intro γ);exact .of rfl
   ·rw[J3Y h1] at hF;have n1:¬ o=oNum:=(J3G h1).1;have n2:¬ o=oVar:=fun h=>(J3G h1).2 (.inl h);have n3:¬ o=oPre:=fun h=>(J3G h1).2 (.inr h);obtain ⟨hl0,hnx⟩:=hfirst h1;have hk0:=ihk _ (List.getElem_mem hl0);have he0:=herr _ (List.getElem_mem hl0);have h0:(es.map (evalF ks ev)).getD 0 (.error 0)=evalF ks ev es[0]:=by rw[List.getD_eq_getElem?_getD,List.getElem?_map,List.getElem?_eq_getElem hl0];rfl
    rw[h0] at hF
    have g0:(es.map encE).getD (Int.toNat 0) .dead=encE es[0]:=by
     show (es.map encE).getD 0 .dead=_
     rw[List.getD_eq_getElem?_getD,List.getElem?_map,List.getElem?_eq_getElem hl0];rfl
    generalize es[0]=k0 at *
    by_cases h4:o=oIf
    case' neg=>
     by_cases h5:o=oAnd
     case' neg=>have h6:o=oOr:=(h1.resolve_left h4).resolve_left h5
    all_goals
     rw[J01] at g0 hk0;(refine kWS ?_;repeat intro γ);rw[g0];(refine kWS ?_;repeat intro γ);refine CallG.intro _ c188 hk0 ?_
     rcases hr:evalF ks ev k0 with c|v
     ·rw[hr] at hF;have hc:=he0 c hr;replace hF:Except.error c=F:=hF;(refine kWS ?_;repeat intro γ);exact .of (by rw[← hF];rfl)
     ·rw[hr] at hF;clear he0 hr
      replace hF:(match J2J o v.truth with
       |some i=>(List.map (evalF ks ev) es).getD i (.error 0)
       |none=>.ok v)=F:=hF
      have hN:=hNext v.truth (hnx v.truth);have hnx:=hnx v.truth
      rcases hni:J2J o v.truth with _|i
      ·rw[hni] at hN hF;replace hF:Except.ok v=F:=hF;replace hN:PX 147 [.agg [encS o,encS t,encI od,.sl 4 (es.map encE)],encB v.truth] (.tup [nilE,encB false]):=hN
       rcases v with q|b
       all_goals
        unfold J1n J0C J11
        try unfold encF encQ
        (refine kWS ?_;repeat intro γ);refine J00 [] _ c147 hN ?_;(refine kWS ?_;repeat intro γ);exact .of (by rw[← hF];rfl)
      ·rw[hni] at hN hF;have hi:=hnx i hni;have hki:=ihk _ (List.getElem_mem hi);have gi:(es.map encE).getD i .dead=encE es[i]:=by rw[List.getD_eq_getElem?_getD,List.getElem?_map,List.getElem?_eq_getElem hi];rfl
       have fi:(es.map (evalF ks ev)).getD i (.error 0)=evalF ks ev es[i]:=by rw[List.getD_eq_getElem?_getD,List.getElem?_map,List.getElem?_eq_getElem hi];rfl
       replace hF:(es.map (evalF ks ev)).getD i (.error 0)=F:=hF;rw[fi] at hF;replace hN:PX 147 [.agg [encS o,encS t,encI od,.sl 4 (es.map encE)],encB v.truth] (.tup [(es.map encE).getD i .dead,encB true]):=hN;rw[gi] at hN;generalize es[i]=k at *;rw[J01 k] at hN hki;rw[hF] at hki
       rcases v with q|b
       all_goals
        unfold J1n J0C J11
        try unfold encF encQ
        (refine kWS ?_;repeat intro γ);refine J00 [] _ c147 hN ?_;(refine kWS ?_;repeat intro γ);refine J00 [] _ c188 hki ?_
        rcases F with c|q|b
        all_goals
         (refine kWS ?_;repeat intro γ);exact .of rfl
   ·rw[J7v h1] at hF;have n1:¬ o=oNum:=h1.1;have n2:¬ o=oVar:=fun h=>h1.2.1 (.inl h);have n3:¬ o=oPre:=fun h=>h1.2.1 (.inr h);have n4:¬ o=oIf:=fun h=>h1.2.2 (.inl h);have n5:¬ o=oAnd:=fun h=>h1.2.2 (.inr (.inl h));have n6:¬ o=oOr:=fun h=>h1.2.2 (.inr (.inr h));have hsq:∀ vs:List Vl,(es.map (evalF ks ev))=vs.map .ok→Way ev o vs:=fun vs h=>JJz ev o vs (hway vs h1 h) (by have:=JE0 hsz h;have:=he.1;omega);clear hNext hBound hUse hus hfirst hway hsz hty htxt;replace hF:JCl ev o [] (es.map (evalF ks ev))=F:=by rw[← hF];rfl
    (refine kWS ?_;repeat intro γ)
    refine LoopP.intro (fun j σ H=>∃ g5 g6 gl i,∃ vs:List Vl,j=es.length-i∧i≤es.length∧(es.take i).map (evalF ks ev)=vs.map .ok∧JCl ev o vs ((es.drop i).map (evalF ks ev))=F ∧
     σ=fr [(1,.ep (encK ks) 0),(2,.ep (J0p ev) 0),(3,.ep (evFn ks ev (m+1)) 0),(4,.ep wayM 0),(5,.op 5 g5 0 0),(6,.op 6 g6 0 0),(14,.own 93 gl 0 vs.length),(74,.sl 4 (es.map encE)),(75,encI es.length),(76,encI i)] ∧
     H=hp (hpE g5 g6 gl (.agg [encS o,encS t,encI od,.sl 4 (es.map encE)]) vs)) ?_ ?_
    ·exact .intro (J9j 14 93 148 6 rfl rfl fun gl=>W.of ⟨_,_,_,gl,0,[],rfl,Nat.zero_le _,rfl,hF,rfl,rfl⟩ ⟨rfl,rfl,rfl,rfl,rfl,rfl,rfl,rfl,(by rw[List.length_map];rfl),rfl,trivial⟩ ⟨rfl,rfl,rfl,trivial⟩)
    ·clear hF;rintro j σ H ⟨g5,g6,gl,i,vs,rfl,hi,hvs,hF,rfl,rfl⟩;unfold hpE
     have hvl:vs.length=i:=by
      have:=congrArg List.length hvs;rw[List.length_map,List.length_map,List.length_take] at this;omega
     rcases Nat.lt_or_ge i es.length with h9|h9
     ·rw[List.drop_eq_getElem_cons h9,List.map_cons] at hF;have hk:=ihk _ (List.getElem_mem h9);have hek:=herr _ (List.getElem_mem h9);have htk:(es.take (i+1)).map (evalF ks ev)=vs.map .ok++[evalF ks ev es[i]]:=by rw[List.take_succ_eq_append_getElem h9,List.map_append,hvs];rfl
      obtain ⟨k,hkk⟩:∃ k,es[i]=k:=⟨_,rfl⟩;rw[hkk] at hF hk hek htk;rw[J01] at hk;(refine kWQ ?_;repeat intro γ);simp only[hkk,J01];(refine kQ ?_;repeat intro γ);refine J00 [] _ c188 hk ?_
      rcases hr:evalF ks ev k with c|v
      ·have hc:=hek c hr;rw[hr] at hF;replace hF:Except.error c=F:=hF;(refine kWQ ?_;repeat intro γ);exact .of (by rw[← hF];rfl)
      ·rw[hr,JGh] at hF;rw[hr] at htk;have hml:=@List.length_map _ _ vs J0C;clear hek hk
       rcases v with q|b
       ·unfold J1n J0C J11 encF encQ;(refine kWQ ?_;repeat intro γ)
        refine .intro <| W.of ⟨_,by omega,g5,g6,γ,i+1,vs++[.num q],rfl,h9,(by rw[htk,List.map_append];rfl),hF,rfl,rfl⟩ ⟨rfl,rfl,rfl,rfl,rfl,rfl,?_,rfl,rfl,rfl,trivial⟩ ⟨rfl,rfl,?_,trivial⟩
        ·exact congrArg (AV.own 93 _ 0) (by simp)
        ·rw[List.map_append];rfl
       ·unfold J1n J0C J11;(refine kWQ ?_;repeat intro γ)
        refine .intro <| W.of ⟨_,by omega,g5,g6,γ,i+1,vs++[.tr b],rfl,h9,(by rw[htk,List.map_append];rfl),hF,rfl,rfl⟩ ⟨rfl,rfl,rfl,rfl,rfl,rfl,?_,rfl,rfl,rfl,trivial⟩ ⟨rfl,rfl,?_,trivial⟩
        ·exact congrArg (AV.own 93 _ 0) (by simp)
        ·rw[List.map_append];rfl
     ·obtain rfl:i=es.length:=by omega
      rw[List.drop_length] at hF;rw[List.take_length] at hvs;replace hF:wayF ev o vs=F:=by rw[← hF];unfold JCl seqR;simp
      obtain ⟨kf,cap,ha,hcap,hcal,hcl⟩:=hsq vs hvs;obtain ⟨r,hr,hm⟩:=J1J (fun x:AV=>x) o wayT;rw[ha] at hm
      cases r with
      |none=>exact hm.elim
      |some ix=>
        replace hm:(wayT.map fun x=>x.2).getD ix .dead=.fn (.func kf) [] cap:=hm;(refine kWQ ?_;repeat intro γ);refine Need.intro keyst9 ?_;refine kW ?_;refine LookP.intro (some ix) hr ?_;refine kW ?_;rw[hm]
        rcases hcap with rfl|⟨x,rfl⟩
        all_goals
         (refine kWQ ?_;repeat intro γ);refine J00 [93] _ hcal (J04 (congrArg (fun z=>J0p ev::z::_) (JL0 rfl rfl)) hcl) ?_;rw[hF]
         rcases F with c|q|b
         all_goals
          (refine kWQ ?_;repeat intro γ);exact .of rfl
def capE (g3 g5 g8 g9:Nat):List AV:=[.op 3 g3 0 0,.op 5 g5 0 0,.op 8 g8 0 0,.op 9 g9 0 0]
theorem J1W {S:List Nat}{H:Hp}{n b g k e m:Nat}{y:AV}(hS:b∈S)(hb:H b=some (g,⟨e,m,[y]⟩)):J05 S H (n+1) (.op b g 0 k)=.ep (J0N (J05 S H n) y) k:=by
 simp only[J05,if_pos hS,hb,true_and];rfl
theorem J7T {S:List Nat}{H:Hp}(n:Nat)(ks vs:List AV):J0N (J05 S H n) (.mp ks vs)=.mp ks vs:=by cases n<;>rfl
theorem JE5 {S:List Nat}{H:Hp}(n:Nat)(x:AV)(k:Nat):J0N (J05 S H n) (.ep x k)=.ep x k:=by cases n<;>rfl
theorem J97 {ks:List (ByteArray×Va)}{ev:Ev}{H:Hp}{g3 g5 g8 g9 a3 a5 a8 a9:Nat}(h3:H 3=some (g3,⟨a3,1,[encK ks]⟩))(h5:H 5=some (g5,⟨a5,1,[J0p ev]⟩))
  (h8:H 8=some (g8,⟨a8,1,[.fn (.func 188) [] (capE g3 g5 g8 g9)]⟩))(h9:H 9=some (g9,⟨a9,1,[wayM]⟩)) :
  ∀ n,J05 [3,5,8,9] H (2*n) (.fn (.func 188) [] (capE g3 g5 g8 g9))=evFn ks ev n
 |0=>rfl
 |n+1=>by
   rw[show 2*(n+1)=2*n+1+1 by omega];show AV.fn _ [] [J05 _ _ (2*n+1) (.op 3 g3 0 0),J05 _ _ (2*n+1) (.op 5 g5 0 0),J05 _ _ (2*n+1) (.op 8 g8 0 0),J05 _ _ (2*n+1) (.op 9 g9 0 0)]=_
   rw[J1W (by simp) h3,J1W (by simp) h5,J1W (by simp) h8,J1W (by simp) h9];have:=J97 h3 h5 h8 h9 n;unfold encK wayM J0p at *;rw[J7T,JE5,J7T];rw[show J0N (J05 [3,5,8,9] H (2*n)) (.fn (.func 188) [] (capE g3 g5 g8 g9))=evFn ks ev n from this];rfl
theorem JKR {ks:List (ByteArray×Va)}{ev:Ev}{H:Hp}{g3 g5 g8 g9 a3 a5 a8 a9:Nat}(h3:H 3=some (g3,⟨a3,1,[encK ks]⟩))(h5:H 5=some (g5,⟨a5,1,[J0p ev]⟩))
  (h8:H 8=some (g8,⟨a8,1,[.fn (.func 188) [] (capE g3 g5 g8 g9)]⟩))(h9:H 9=some (g9,⟨a9,1,[wayM]⟩))(n:Nat)(o t:ByteArray)(d:Int)(l:List AV) :
  (.agg [encS o,encS t,encI d,.sl 4 l]::capE g3 g5 g8 g9).map (J3P (2*n+1) [3,5,8,9] H)=[.agg [encS o,encS t,encI d,.sl 4 l],.ep (encK ks) 0,.ep (J0p ev) 0,.ep (evFn ks ev n) 0,.ep wayM 0]:=by
 have:=J97 h3 h5 h8 h9 n
 have d3:J3P (2*n+1) [3,5,8,9] H (.op 3 g3 0 0)=.ep (encK ks) 0:=by
  rw[show J3P (2*n+1) [3,5,8,9] H (.op 3 g3 0 0)=J05 [3,5,8,9] H (2*n+1) (.op 3 g3 0 0) from rfl,J1W (by simp) h3];unfold encK;rw[J7T]
 have d5:J3P (2*n+1) [3,5,8,9] H (.op 5 g5 0 0)=.ep (J0p ev) 0:=by
  rw[show J3P (2*n+1) [3,5,8,9] H (.op 5 g5 0 0)=J05 [3,5,8,9] H (2*n+1) (.op 5 g5 0 0) from rfl,J1W (by simp) h5];unfold J0p;rw[JE5]
 have d8:J3P (2*n+1) [3,5,8,9] H (.op 8 g8 0 0)=.ep (evFn ks ev n) 0:=by
  rw[show J3P (2*n+1) [3,5,8,9] H (.op 8 g8 0 0)=J05 [3,5,8,9] H (2*n+1) (.op 8 g8 0 0) from rfl,J1W (by simp) h8];exact congrArg (fun z=>AV.ep z 0) this
 have d9:J3P (2*n+1) [3,5,8,9] H (.op 9 g9 0 0)=.ep wayM 0:=by
  rw[show J3P (2*n+1) [3,5,8,9] H (.op 9 g9 0 0)=J05 [3,5,8,9] H (2*n+1) (.op 9 g9 0 0) from rfl,J1W (by simp) h9];unfold wayM;rw[J7T]
 unfold capE;simp only[List.map_cons,List.map_nil,d3,d5,d8,d9];rfl
theorem JJo (ks:List (ByteArray×Va))(ev:Ev)(he:EvOk ev)(e:Ex)(hz:SzE e)(hx:TxE e)(hb:builtF e=true)(ht:(typeF ks e).2=true)(hw:wtF e≤1000) :
  PX 100 [encK ks,encE e,J0p ev] (J1n (evalF ks ev e)):=by
 refine PZ Tryz.func100 rfl ?_;have hc:=JHm ks ev he e hz hx hb ht hw (SizeOf.sizeOf e) (Nat.le_refl _);generalize evalF ks ev e=F at *;generalize SizeOf.sizeOf e=n at *;rw[J01] at hc ⊢;refine kWS ?_;intros;refine J00 [] _ c187 JIX ?_;refine kWS ?_;intros;refine JB5 (2*n+1) [3,5,8,9] _ c188 (J04 (JKR rfl rfl rfl rfl n _ _ _ _) hc) ?_
 rcases F with c|q|b
 all_goals
  refine kWS ?_;intros;exact .of rfl
structure Bd where
 use:U
 value:ByteArray
structure EnvA where
 time:ByteArray
 init:Bool
 binds:List Bd
def J9A (b:Bd):AV:=.agg [.val (.string b.use.name),.val (.int .i64 b.use.order),.val (.bool b.use.pre),encS b.value]
def J1V (e:EnvA):AV:=.agg [encS e.time,encB e.init,.sl 4 (e.binds.map J9A)]
def valV (s:ByteArray):Option Vl:=if s=sTrue∨s=sFalse then some (.tr (decide (s=sTrue))) else if (J08 s.data.toList).2 then some (.num (numV s)) else none
theorem JEO {s:ByteArray}{v:Vl}(h:valV s=some v):resV s=.tup [J0C v,encB true]:=by
 unfold valV at h;unfold resV;split at h
 ·rename_i h1;cases h;rw[if_pos h1];rfl
 ·rename_i h1;rw[if_neg h1];split at h
  ·rename_i h2;cases h;rw[h2,← (J0y h2).1];rfl
  ·cases h
theorem JEP {s:ByteArray}(h:valV s=none):∃ q,(q=nilQ∨∃ n d,q=encQ n d)∧resV s=.tup [J11 q false false,encB false]:=by
 unfold valV at h;unfold resV;split at h
 ·cases h
 ·rename_i h1;rw[if_neg h1];split at h
  ·cases h
  ·rename_i h2;exact ⟨_,J1M _,by rw[Bool.eq_false_iff.2 h2]⟩
theorem JId {s:ByteArray}{v:Vl}(h:valV s=some v):v.sz≤300:=by
 unfold valV at h;split at h
 ·cases h;exact Nat.zero_le _
 ·split at h
  ·rename_i h2;cases h;exact (J0y h2).2
  ·cases h
def putV {β:Type}(l:List (U×β))(k:U)(v:β):List (U×β):=match l with
 |[]=>[(k,v)]
 |x::r=>if k=x.1 then (x.1,v)::r else x::putV r k v
theorem J5L {β:Type}(f:β→AV)(k:U)(v:β):∀ l:List (U×β),∃ r,J10 (J0h T 54 (encU k)) (l.map fun x=>encU x.1)=some r∧(match r with
  |some i=>(l.map fun x=>encU x.1)=((putV l k v).map fun x=>encU x.1)∧(l.map fun x=>f x.2).set i (f v)=(putV l k v).map fun x=>f x.2
  |none=>(l.map fun x=>encU x.1)++[encU k]=((putV l k v).map fun x=>encU x.1)∧(l.map fun x=>f x.2)++[f v]=(putV l k v).map fun x=>f x.2)
 |[]=>⟨none,rfl,rfl,rfl⟩
 |x :: l=>by
   obtain ⟨r,h1,h2⟩:=J5L f k v l;rw[List.map_cons,List.map_cons];unfold J10 putV;rw[J8t]
   by_cases h:k=x.1
   ·rw[decide_eq_true h,if_pos h];exact ⟨some 0,rfl,rfl,rfl⟩
   ·rw[decide_eq_false h,if_neg h,h1];refine ⟨r.map (· + 1),rfl,?_⟩
    revert h2
    cases r with
    |none=>
      rintro ⟨h2,h3⟩;exact ⟨by rw[List.map_cons,← h2];rfl,by rw[List.map_cons,← h3];rfl⟩
    |some i=>
      rintro ⟨h2,h3⟩;exact ⟨by rw[List.map_cons,← h2],by rw[List.map_cons,← h3];rfl⟩
def J3F:Option U→U→Bool
 |none,_=>false
 |some q,u=>decide (0≤J7l q u)
def J3E:Option U→List Bd→List (U×Vl)→Option (List (U×Vl))
 |_,[],l=>some l
 |p,b::r,l=>match valV b.value with
   |none=>none
   |some v=>if !fitF b.use||J3F p b.use then none else J3E (some b.use) r (putV l b.use v)
def openF (e:EnvA):Option Ev:=if (J08 e.time.data.toList).2 then (J3E none e.binds []).map fun l=>⟨numV e.time,e.init,l⟩ else none
def JGl (bs:List Bd)(i:Nat):Option U:=match i with
 |0=>none
 |i+1=>bs[i]?.map Bd.use
def JJM:Option Ev→AV
 |some ev=>.tup [J0p ev,encB true]
 |none=>.tup [.val (.pointer none),encB false]
def hpO1 (g1 g2 gm:Nat)(e:EnvA)(t:Rat)(l:List (U×Vl)):List (Nat×Nat×Blk):=
 [(1,g1,⟨33,3,[J1V e]⟩),(15,g2,⟨269,6,[.agg [encB (decide (t.num<0)),encW t.num.natAbs,encB (decide ((t.den:Int)<0)),encW (t.den:Int).natAbs,encB e.init,.om 13 gm]]⟩),(13,gm,⟨267,0,[.mp (l.map fun x=>encU x.1) (l.map fun x=>J0C x.2)]⟩)]
theorem J5f {u:U}(h:fitF u=true):0≤u.order∧u.order≤6:=by
 unfold fitF at h;simp only[Bool.and_eq_true,decide_eq_true_eq] at h;exact h.1.2
theorem JGb {S:List Nat}{H:Hp}{n b g e m:Nat}{ks vs:List AV}(hS:b∈S)(hb:H b=some (g,⟨e,m,[.mp ks vs]⟩)):J05 S H (n+1) (.om b g)=.mp ks vs:=by
 simp only[J05,if_pos hS,hb,if_true]
structure SzB (e:EnvA):Prop where
 t:e.time.size<2^35
 l:e.binds.length≤2^30
 b:∀ b∈e.binds,b.use.name.size<2^35∧b.value.size<2^35
theorem JJi (e:EnvA)(hz:SzB e):PX 141 [J1V e] (JJM (openF e)):=by
 refine PC [15,13] Tryz.func141 rfl (by rfl) rfl ?_;obtain ⟨tm,ini,bs⟩:=e;obtain ⟨hzt,hzl,hzb⟩:=hz;simp only at hzt hzl hzb;generalize hF:openF ⟨tm,ini,bs⟩=F;unfold openF at hF;have hpq:=J1R tm.data.toList hzt;rw[J0v,J6m] at hpq;simp only at hF
 cases hok:(J08 tm.data.toList).2 with
 |false=>
   rw[hok] at hF hpq;have hq2:=J1M (J08 tm.data.toList).1;generalize qAV (J08 tm.data.toList).1=q at *;unfold J1V
   rcases hq2 with rfl|⟨n,d,rfl⟩
   all_goals
    refine kWS ?_;intros;refine J00 [] _ c134 hpq ?_;refine kWS ?_;intros;exact .of (by rw[← hF];rfl)
 |true=>
   rw[← (J0y hok).1,hok] at hpq;rw[hok] at hF;generalize numV tm=t at *;replace hF:(J3E none bs []).map (fun l=>(⟨t,ini,l⟩:Ev))=F:=hF;unfold encF encQ at hpq;unfold J1V;refine kWS ?_;intros;refine J00 [] _ c134 hpq ?_;refine kWS ?_;intros
   refine LoopP.intro (fun j σ H=>∃ g1 g2 gm i,∃ l:List (U×Vl),j=bs.length-i∧i≤bs.length∧(∀ k (h:k<bs.length),k<i→fitF bs[k].use=true)∧(J3E (JGl bs i) (bs.drop i) l).map (fun l=>(⟨t,ini,l⟩:Ev))=F ∧
    σ=fr [(1,.op 1 g1 0 0),(4,.op 15 g2 0 0),(29,.sl 4 (bs.map J9A)),(30,encI bs.length),(31,encI i)]∧H=hp (hpO1 g1 g2 gm ⟨tm,ini,bs⟩ t l)) ?_ ?_
   ·exact .intro <| W.of ⟨_,_,_,_,0,[],rfl,Nat.zero_le _,fun k _ h=>absurd h (by omega),hF,rfl,rfl⟩ ⟨rfl,rfl,rfl,(by rw[List.length_map];rfl),rfl,trivial⟩ ⟨rfl,rfl,rfl,trivial⟩
   ·clear hF;rintro j σ H ⟨g1,g2,gm,i,l,rfl,hi,hfit,hF,rfl,rfl⟩;unfold hpO1;simp only
    rcases Nat.lt_or_ge i bs.length with h9|h9
    ·rw[List.drop_eq_getElem_cons h9] at hF;have hb:=hzb _ (List.getElem_mem h9)
     have hprev:JGl bs (i+1)=some bs[i].use:=by
      show bs[i]?.map Bd.use=some _
      rw[List.getElem?_eq_getElem h9];rfl
     have hfx:∀ k (h:k<bs.length),k<i+1→fitF bs[i].use=true→fitF bs[k].use=true:=by
      intro k h hk hc
      rcases Nat.lt_or_ge k i with h|h
      ·exact hfit k _ h
      ·obtain rfl:k=i:=by omega
       exact hc
     obtain ⟨b,hbb⟩:∃ b,bs[i]=b:=⟨_,rfl⟩;rw[hbb] at hF hb hprev hfx;have hV:=J9q b.value hb.2;have hFit:=JIM b.use hb.1;unfold J3E at hF
     cases hv:valV b.value with
     |none=>
       rw[hv] at hF;obtain ⟨q,hq,he⟩:=JEP hv;rw[he] at hV
       rcases hq with rfl|⟨n,d,rfl⟩
       all_goals
        refine kWQ ?_;intros;simp only[hbb];refine kQ ?_;intros;refine J00 [] _ c112 hV ?_;refine kWQ ?_;intros;exact .of (by rw[← hF];rfl)
     |some v=>
       rw[hv] at hF;rw[JEO hv] at hV;replace hF:(if !fitF b.use||J3F (JGl bs i) b.use then none else J3E (some b.use) (bs.drop (i+1)) (putV l b.use v)).map (fun l=>(⟨t,ini,l⟩:Ev))=F:=hF;have hb64:bs.length<2^62:=by omega
       rcases i with _|i
       ·rcases v with q | x
        ·unfold J0C J11 encF encQ at hV;refine kWQ ?_;intros;simp only[hbb];refine kQ ?_;intros;refine J00 [] _ c112 hV ?_;refine kWQ ?_;intros;refine CallG.intro _ c81 hFit ?_
         cases hf:fitF b.use with
         |false=>
           rw[hf] at hF;refine kWQ ?_;intros;exact .of (by rw[← hF];rfl)
         |true=>
           rw[hf] at hF;replace hF:(J3E (some b.use) (bs.drop (0+1)) (putV l b.use (.num q))).map (fun l=>(⟨t,ini,l⟩:Ev))=F:=hF;refine kWO ?_;intros;refine J1Z [(7,false),(8,true)] (by kernel_rfl) ?_;refine kWQ ?_;intros;refine Need.intro keyst54 ?_;refine kWQ ?_;intros;obtain ⟨r,hr,hm⟩:=J5L J0C b.use (.num q) l;refine LookP.intro r hr ?_
           cases r with
           |some j=>
             refine kWQ ?_;intros
             refine .intro <| W.of ⟨_,by omega,g1,g2,gm,0+1,putV l b.use (.num q),rfl,h9,fun k h hk=>hfx k h hk hf,(by rw[hprev];exact hF),rfl,rfl⟩ ⟨rfl,rfl,rfl,rfl,rfl,trivial⟩ ⟨rfl,rfl,?_,trivial⟩
             exact congrArg (fun z=>some (gm,(⟨267,0,[z]⟩:Blk))) (congr (congrArg AV.mp hm.1) hm.2)
           |none=>
             refine kWQ ?_;intros
             refine .intro <| W.of ⟨_,by omega,g1,g2,gm,0+1,putV l b.use (.num q),rfl,h9,fun k h hk=>hfx k h hk hf,(by rw[hprev];exact hF),rfl,rfl⟩ ⟨rfl,rfl,rfl,rfl,rfl,trivial⟩ ⟨rfl,rfl,?_,trivial⟩
             exact congrArg (fun z=>some (gm,(⟨267,0,[z]⟩:Blk))) (congr (congrArg AV.mp hm.1) hm.2)
        ·unfold J0C J11 at hV;refine kWQ ?_;intros;simp only[hbb];refine kQ ?_;intros;refine J00 [] _ c112 hV ?_;refine kWQ ?_;intros;refine CallG.intro _ c81 hFit ?_
         cases hf:fitF b.use with
         |false=>
           rw[hf] at hF;refine kWQ ?_;intros;exact .of (by rw[← hF];rfl)
         |true=>
           rw[hf] at hF;replace hF:(J3E (some b.use) (bs.drop (0+1)) (putV l b.use (.tr x))).map (fun l=>(⟨t,ini,l⟩:Ev))=F:=hF;refine kWO ?_;intros;refine J1Z [(7,false),(8,true)] (by kernel_rfl) ?_;refine kWQ ?_;intros;refine Need.intro keyst54 ?_;refine kWQ ?_;intros;obtain ⟨r,hr,hm⟩:=J5L J0C b.use (.tr x) l;refine LookP.intro r hr ?_
           cases r with
           |some j=>
             refine kWQ ?_;intros
             refine .intro <| W.of ⟨_,by omega,g1,g2,gm,0+1,putV l b.use (.tr x),rfl,h9,fun k h hk=>hfx k h hk hf,(by rw[hprev];exact hF),rfl,rfl⟩ ⟨rfl,rfl,rfl,rfl,rfl,trivial⟩ ⟨rfl,rfl,?_,trivial⟩
             exact congrArg (fun z=>some (gm,(⟨267,0,[z]⟩:Blk))) (congr (congrArg AV.mp hm.1) hm.2)
           |none=>
             refine kWQ ?_;intros
             refine .intro <| W.of ⟨_,by omega,g1,g2,gm,0+1,putV l b.use (.tr x),rfl,h9,fun k h hk=>hfx k h hk hf,(by rw[hprev];exact hF),rfl,rfl⟩ ⟨rfl,rfl,rfl,rfl,rfl,trivial⟩ ⟨rfl,rfl,?_,trivial⟩
             exact congrArg (fun z=>some (gm,(⟨267,0,[z]⟩:Blk))) (congr (congrArg AV.mp hm.1) hm.2)
       ·have h8 : i<bs.length:=by omega
        have hpv:JGl bs (i+1)=some bs[i].use:=by
         show bs[i]?.map Bd.use=some _
         rw[List.getElem?_eq_getElem h8];rfl
        have hfp:=J5f (hfit i h8 (by omega));rw[hpv] at hF;have hix:(((i+1:Nat):Int)-1).toNat=i:=by omega
        obtain ⟨pb,hpb⟩:∃ pb,bs[i]=pb:=⟨_,rfl⟩;rw[hpb] at hF hpv hfp;have hL:=JG1 pb.use b.use hfp
        rcases v with q|x
        ·unfold J0C J11 encF encQ at hV;refine kWQ ?_;intros;simp only[hbb];refine kQ ?_;intros;refine J00 [] _ c112 hV ?_;refine kWQ ?_;intros;refine CallG.intro _ c81 hFit ?_
         cases hf:fitF b.use with
         |false=>
           rw[hf] at hF;refine kWQ ?_;intros;exact .of (by rw[← hF];rfl)
         |true=>
           rw[hf] at hF;have hL:=hL (J5f hf);refine kWQ ?_;intros;simp only[hix,hpb];refine CallG.intro _ c116 hL ?_
           cases hge:J3F (some pb.use) b.use with
           |true=>
             rw[hge] at hF;have hle:0≤J7l pb.use b.use:=of_decide_eq_true hge;refine kWQ ?_;intros;exact .of (by rw[← hF];rfl)
           |false=>
             rw[hge] at hF;have hle:¬ 0≤J7l pb.use b.use:=of_decide_eq_false hge;replace hF:(J3E (some b.use) (bs.drop (i+1+1)) (putV l b.use (.num q))).map (fun l=>(⟨t,ini,l⟩:Ev))=F:=hF;refine kWO ?_;intros;refine J1Z [(7,false),(8,true)] (by kernel_rfl) ?_;refine kWQ ?_;intros;refine Need.intro keyst54 ?_;refine kWQ ?_;intros;obtain ⟨r,hr,hm⟩:=J5L J0C b.use (.num q) l;refine LookP.intro r hr ?_
             cases r with
             |some j=>
               refine kWQ ?_;intros
               refine .intro <| W.of ⟨_,by omega,g1,g2,gm,i+1+1,putV l b.use (.num q),rfl,h9,fun k h hk=>hfx k h hk hf,(by rw[hprev];exact hF),rfl,rfl⟩ ⟨rfl,rfl,rfl,rfl,rfl,trivial⟩ ⟨rfl,rfl,?_,trivial⟩
               exact congrArg (fun z=>some (gm,(⟨267,0,[z]⟩:Blk))) (congr (congrArg AV.mp hm.1) hm.2)
             |none=>
               refine kWQ ?_;intros
               refine .intro <| W.of ⟨_,by omega,g1,g2,gm,i+1+1,putV l b.use (.num q),rfl,h9,fun k h hk=>hfx k h hk hf,(by rw[hprev];exact hF),rfl,rfl⟩ ⟨rfl,rfl,rfl,rfl,rfl,trivial⟩ ⟨rfl,rfl,?_,trivial⟩
               exact congrArg (fun z=>some (gm,(⟨267,0,[z]⟩:Blk))) (congr (congrArg AV.mp hm.1) hm.2)
        ·unfold J0C J11 at hV;refine kWQ ?_;intros;simp only[hbb];refine kQ ?_;intros;refine J00 [] _ c112 hV ?_;refine kWQ ?_;intros;refine CallG.intro _ c81 hFit ?_
         cases hf:fitF b.use with
         |false=>
           rw[hf] at hF;refine kWQ ?_;intros;exact .of (by rw[← hF];rfl)
         |true=>
           rw[hf] at hF;have hL:=hL (J5f hf);refine kWQ ?_;intros;simp only[hix,hpb];refine CallG.intro _ c116 hL ?_
           cases hge:J3F (some pb.use) b.use with
           |true=>
             rw[hge] at hF;have hle:0≤J7l pb.use b.use:=of_decide_eq_true hge;refine kWQ ?_;intros;exact .of (by rw[← hF];rfl)
           |false=>
             rw[hge] at hF;have hle:¬ 0≤J7l pb.use b.use:=of_decide_eq_false hge;replace hF:(J3E (some b.use) (bs.drop (i+1+1)) (putV l b.use (.tr x))).map (fun l=>(⟨t,ini,l⟩:Ev))=F:=hF;refine kWO ?_;intros;refine J1Z [(7,false),(8,true)] (by kernel_rfl) ?_;refine kWQ ?_;intros;refine Need.intro keyst54 ?_;refine kWQ ?_;intros;obtain ⟨r,hr,hm⟩:=J5L J0C b.use (.tr x) l;refine LookP.intro r hr ?_
             cases r with
             |some j=>
               refine kWQ ?_;intros
               refine .intro <| W.of ⟨_,by omega,g1,g2,gm,i+1+1,putV l b.use (.tr x),rfl,h9,fun k h hk=>hfx k h hk hf,(by rw[hprev];exact hF),rfl,rfl⟩ ⟨rfl,rfl,rfl,rfl,rfl,trivial⟩ ⟨rfl,rfl,?_,trivial⟩
               exact congrArg (fun z=>some (gm,(⟨267,0,[z]⟩:Blk))) (congr (congrArg AV.mp hm.1) hm.2)
             |none=>
               refine kWQ ?_;intros
               refine .intro <| W.of ⟨_,by omega,g1,g2,gm,i+1+1,putV l b.use (.tr x),rfl,h9,fun k h hk=>hfx k h hk hf,(by rw[hprev];exact hF),rfl,rfl⟩ ⟨rfl,rfl,rfl,rfl,rfl,trivial⟩ ⟨rfl,rfl,?_,trivial⟩
               exact congrArg (fun z=>some (gm,(⟨267,0,[z]⟩:Blk))) (congr (congrArg AV.mp hm.1) hm.2)
    ·obtain rfl:i=bs.length:=by omega
     rw[List.drop_length] at hF;replace hF:some (⟨t,ini,l⟩:Ev)=F:=by rw[← hF];unfold J3E;rfl
     refine kWQ ?_;intros;refine .of ?_;rw[← hF];refine (congrArg (fun z=>AV.tup [z,encB true]) ((J1W (by simp) rfl).trans ?_));show AV.ep (.agg [_,_,_,_,_,J05 [15,13] _ 2 (.om 13 gm)]) 0=_
     rw[JGb (by simp) rfl];rfl
theorem JBT {u:U}{v:Vl}:∀ {l:List (U×Vl)} {x:U×Vl},x∈putV l u v→x.2=v∨x∈l
 |[],x,h=>by simp only[putV,List.mem_cons,List.not_mem_nil,or_false] at h;subst h;exact .inl rfl
 |y :: l,x,h=>by
   unfold putV at h;split at h
   ·rcases List.mem_cons.1 h with rfl | h
    ·exact .inl rfl
    ·exact .inr (List.mem_cons_of_mem _ h)
   ·rcases List.mem_cons.1 h with rfl | h
    ·exact .inr List.mem_cons_self
    ·rcases JBT h with h | h
     ·exact .inl h
     ·exact .inr (List.mem_cons_of_mem _ h)
theorem JBa:∀ {bs:List Bd} {p:Option U} {l r:List (U×Vl)},J3E p bs l=some r→(∀ x∈l,x.2.sz≤300)→∀ x∈r,x.2.sz≤300
 |[],p,l,r,h,hl=>by unfold J3E at h;cases h;exact hl
 |b :: bs,p,l,r,h,hl=>by
   unfold J3E at h;split at h
   ·cases h
   ·rename_i v hv;split at h
    ·cases h
    ·refine JBa h fun x hx=>?_
     rcases JBT hx with e|hx
     ·rw[e];exact JId hv
     ·exact hl x hx
theorem JGp {e:EnvA}{ev:Ev}(h:openF e=some ev):EvOk ev:=by
 unfold openF at h;split at h
 ·rename_i h1
  cases ho:J3E none e.binds [] with
  |none=>rw[ho] at h;cases h
  |some l=>
    rw[ho] at h;cases h;exact ⟨(J0y h1).2,JBa ho fun x hx=>by cases hx⟩
 ·cases h
def openS (e:EnvA):Except Int Ev:=if 1000<e.binds.length then .error 2 else match openF e with
 |none=>.error 1
 |some ev=>.ok ev
def JKU:Except Int Ev→AV
 |.ok ev=>.tup [J0p ev,encI 0]
 |.error c=>.tup [.val (.pointer none),encI c]
theorem JCB (e:EnvA)(hz:SzB e):PX 67 [J1V e] (JKU (openS e)):=by
 refine PZ Tryz.func67 rfl ?_;have ho:=JJi e hz;have hl:=hz.l;generalize hF:openS e=F;unfold openS at hF;generalize openF e=oe at *;unfold J1V at *;have hml:=@List.length_map _ _ e.binds J9A;refine kWQ ?_;intros;refine CondP.dec (fun h1=>?_) (fun h1=>?_)<;>refine kW ?_
 ·rw[if_pos (by first|omega|(rw[List.length_map] at h1;omega))] at hF;refine kQ ?_;intros;exact .of (by rw[← hF];rfl)
 ·rw[if_neg (by first | omega | (rw[List.length_map] at h1;omega))] at hF;refine kQ ?_;intros;refine J00 [] _ c141 ho ?_
  cases oe with
  |none=>
    refine kWQ ?_;intros;exact .of (by rw[← hF];rfl)
  |some ev=>
    refine kWQ ?_;intros;exact .of (by rw[← hF];rfl)
def typeS (s:Sys)(x:Ex):Int×Int:=if checkF s≠0 then (0,checkF s) else if tooF x then (0,2) else if !builtF x then (0,1) else if (typeF (knownF s.vars) x).2 then ((typeF (knownF s.vars) x).1,0) else (0,1)
theorem JC9 (s:Sys)(x:Ex)(hs:SzS s)(hz:SzE x)(hx:TxE x):PX 48 [J0Q s,encE x] (.tup [encI (typeS s x).1,encI (typeS s x).2]):=by
 refine PZ Tryz.func48 rfl ?_;have hc:=JHo s hs;have ht:=J3M x hz;have hb:=JCG x hz hx;have hk:=J7m s hs.v;have hT:=JFq (knownF s.vars) x hz;generalize hF:typeS s x=F;unfold typeS at hF;generalize checkF s=ck at *;generalize tooF x=tl at *;generalize typeF (knownF s.vars) x=ty at *;generalize knownF s.vars=ks at *;obtain ⟨vs,qs,ns,ws⟩:=s;rw[J01] at *;unfold J0Q at *;simp only at *;refine kWQ ?_;intros;refine CallP.flat [] _ c89 hc rfl ?_
 by_cases h0:ck=0
 case' neg=>
  rw[if_pos h0] at hF;refine kWQ ?_;intros;exact .of (by rw[← hF];rfl)
 rw[if_neg (by simp[h0])] at hF;refine kWQ ?_;intros;refine CallP.flat [] _ c83 ht rfl ?_
 cases tl with
 |true=>
   refine kWQ ?_;intros;exact .of (by rw[← hF];rfl)
 |false=>
   refine kWQ ?_;intros;refine CallP.flat [] _ c123 hb rfl ?_
   cases hbb:builtF x with
   |false=>
     rw[hbb] at hF;refine kWQ ?_;intros;exact .of (by rw[← hF];rfl)
   |true=>
     rw[hbb] at hF;have hT:=hT hbb;obtain ⟨t,b⟩:=ty;refine kWQ ?_;intros;refine CallG.intro _ c99 hk ?_;refine kWQ ?_;intros;refine CallG.intro _ c124 hT ?_
     cases b with
     |false=>
       refine kWQ ?_;intros;exact .of (by rw[← hF];rfl)
     |true=>
       refine kWQ ?_;intros;exact .of (by rw[← hF];rfl)
theorem J7Q {s:Sys}{x:Ex}(h:(typeS s x).2=0):checkF s=0∧tooF x=false∧builtF x=true∧(typeF (knownF s.vars) x).2=true∧(typeS s x).1=(typeF (knownF s.vars) x).1:=by
 unfold typeS at *;split at h
 ·rename_i h1;exact absurd h h1
 ·rename_i h1;split at h
  ·cases h
  ·rename_i h2;split at h
   ·cases h
   ·rename_i h3;split at h
    ·rename_i h4;refine ⟨Classical.not_not.1 h1,Bool.eq_false_iff.2 h2,by simpa using h3,h4,?_⟩;rw[if_neg h1,if_neg h2,if_neg h3,if_pos h4]
    ·cases h
theorem JDy {x:Ex}(h:tooF x=false):wtF x≤200:=by
 unfold tooF at h;have h1:=of_decide_eq_false h;have:=JBh 24 x 200;omega
def outV:Except Int Vl→ByteArray×Int
 |.error c=>(⟨#[]⟩,c)
 |.ok v=>if shortV v then (strV v,0) else (⟨#[]⟩,2)
def evalS (s:Sys)(x:Ex)(e:EnvA):ByteArray×Int:=if (typeS s x).2≠0 then (⟨#[]⟩,(typeS s x).2) else match openS e with
 |.error c=>(⟨#[]⟩,c)
 |.ok ev=>outV (evalF (knownF s.vars) ev x)
def JKT (p:ByteArray×Int):AV:=.tup [encS p.1,encI p.2]
theorem JGo {e:EnvA}{ev:Ev}(h:openS e=.ok ev):EvOk ev:=by
 unfold openS at h;split at h
 ·cases h
 ·split at h
  ·cases h
  ·rename_i ev' h';cases h;exact JGp h'
theorem J8i {e:EnvA}{c:Int}(h:openS e=.error c):c=1∨c=2:=by
 unfold openS at h;split at h
 ·cases h;exact .inr rfl
 ·split at h
  ·cases h;exact .inl rfl
  ·cases h
theorem JHl (s:Sys)(x:Ex)(e:EnvA)(hs:SzS s)(hz:SzE x)(hx:TxE x)(he:SzB e):PX 38 [J0Q s,encE x,J1V e] (JKT (evalS s x e)):=by
 refine PZ Tryz.func38 rfl ?_;have hT:=JC9 s x hs hz hx;have hO:=JCB e he;have hk:=J7m s hs.v;generalize hF:evalS s x e=F;unfold evalS at hF;have hty:=@J7Q s x;have hev:=@JGo e;have her:=@J8i e;generalize typeS s x=ty at *;obtain ⟨t,c⟩:=ty;generalize hks:knownF s.vars=ks at *;obtain ⟨vs,qs,ns,ws⟩:=s;generalize openS e=oe at *;have hE:=fun ev he hb ht hw=>JJo ks ev he x hz hx hb ht hw;have hsz:=fun ev he hb v h=>@JBu ks ev he x hb v h;have hec:=fun ev hb ht c h=>@J5h ks ev x hb ht c h;rw[J01] at *;unfold J0Q J1V at *;simp only at *;refine kWQ ?_;intros;refine J00 [] _ c48 hT ?_
 by_cases h0:c=0
 case' neg=>
  rw[if_pos h0] at hF;refine kWQ ?_;intros;exact .of (by rw[← hF];rfl)
 subst h0;rw[if_neg (by simp)] at hF;obtain ⟨hck,htl,hbb,htt,_⟩:=hty rfl;have hwt:=JDy htl;refine kWQ ?_;intros;refine J00 [] _ c67 hO ?_
 cases oe with
 |error c=>
   have hc:¬ c=0:=by rcases her rfl with rfl|rfl<;>decide
   refine kWQ ?_;intros;exact .of (by rw[← hF];rfl)
 |ok ev =>
   have hev:=hev rfl;have hE:=hE ev hev hbb htt (by omega);have hsz:=hsz ev hev hbb;have hec:=hec ev hbb htt;replace hF:outV (evalF ks ev x)=F:=hF;generalize evalF ks ev x=r at *;refine kWQ ?_;intros;refine CallG.intro _ c99 hk ?_;refine kWQ ?_;intros;refine CallG.intro _ c100 hE ?_
   cases r with
   |error c=>
     have hc:=(hec c rfl).ne;refine kWQ ?_;intros;exact .of (by rw[← hF];rfl)
   |ok v=>
     have hsz:=hsz v rfl;have hS:=JFu v (by omega);have hR:=JDI v (by omega);replace hF:(if shortV v then (strV v,0) else (⟨#[]⟩,2))=F:=hF;generalize shortV v=sv at *;generalize strV v=str at *
     rcases v with q|b
     all_goals
      unfold J0C J11 at hS hR
      try unfold encF encQ at hS hR
      unfold J1n J0C J11
      try unfold encF encQ
      refine kWQ ?_;intros;refine CallP.flat [] _ c101 hS rfl ?_
      cases sv with
      |false=>
        refine kWQ ?_;intros;exact .of (by rw[← hF];rfl)
      |true=>
        refine kWQ ?_;intros;refine CallP.flat [] _ c102 hR rfl ?_;refine kWQ ?_;intros;exact .of (by rw[← hF];rfl)
theorem J7D {s:Sys}(h:checkF s=0):(∀ n,J0f (knownF s.vars) n=s.vars.find? fun v=>decide (v.name=n))∧∀ v∈s.vars,v.type=0∨v.type=1:=by
 unfold checkF at h
 have hL:largeF s=false:=by
  cases h1:largeF s
  ·rfl
  ·rw[h1] at h;simp at h
 rw[hL] at h
 have hV:validF s=true:=by
  cases h1:validF s
  ·rw[h1] at h;simp at h
  ·rfl
 unfold validF at hV;simp only[Bool.and_eq_true,Bool.not_eq_true'] at hV;obtain ⟨⟨⟨⟨⟨⟨h1,_⟩,_⟩,_⟩,hv⟩,_⟩,_⟩:=hV
 refine ⟨fun n=>?_,fun v hvm=>JDn (by
  have:=List.any_eq_false.1 hv v hvm
  simpa using this)⟩
 have e1:knownF s.vars=s.vars.map fun v=>(v.name,v):=by
  unfold knownF;rw[JBm _ _ (by simpa using J6k _ _ h1)];rfl
 rw[e1,J7H]
theorem J6t {n:ByteArray}{v:Va}:∀ {vs:List Va} {i:Int},(vs.find? fun v=>decide (v.name=n))=some v→∃ j,∃ hj:j<vs.length,J0d (fun v:Va=>decide (v.name=n)) vs i=i+j∧vs[j]=v
 |[],i,h=>by cases h
 |x :: r,i,h=>by
   unfold J0d;rw[List.find?_cons] at h
   cases hx:decide (x.name=n) with
   |true=>
     rw[hx] at h;cases h;exact ⟨0,by simp,by simp,rfl⟩
   |false=>
     rw[hx] at h;obtain ⟨j,hj,h1,h2⟩:=J6t (vs:=r) (i:=i+1) h;exact ⟨j+1,by simp;omega,by simp only;rw[h1];push_cast;omega,h2⟩
def J7s:Option U→List Bd→Bool
 |_,[]=>true
 |p,b::r=>(valV b.value).isSome&&fitF b.use&&!J3F p b.use&&J7s (some b.use) r
end Go.Proofs.YtlblbldolhiokaaGreatDoor
namespace Go.Proofs
open Go.Shelf
def Tryz.lays156_ren:Go.Shelf.Ren:=⟨fun|156=>212|165=>299|166=>283|169=>287|240=>331|241=>349|276=>368|277=>374|n=>n,fun|31=>39|9=>9|3=>3|4=>4|0=>0|20=>20|72=>314|76=>317|70=>312|37=>283|75=>316|127=>355|164=>391|5=>5|80=>128|n=>n,fun|n=>n⟩
theorem J15:Go.Proofs.Lays.n156 Tryz.prog Tryz.lays156_ren:={
 mixed:=by kernel_rfl
 f156:=Tryz.func212.trans (congrArg some (by kernel_rfl))
 f165:=Tryz.func299.trans (congrArg some (by kernel_rfl))
 f166:=Tryz.func283.trans (congrArg some (by kernel_rfl))
 f169:=Tryz.func287.trans (congrArg some (by kernel_rfl))
 f240:=Tryz.func331.trans (congrArg some (by kernel_rfl))
 f241:=Tryz.func349.trans (congrArg some (by kernel_rfl))
 f276:=Tryz.func368.trans (congrArg some (by kernel_rfl))
 f277:=Tryz.func374.trans (congrArg some (by kernel_rfl))
 t0:=Tryz.underlying0
 a0:=Tryz.isAgg0
 z0:=Tryz.sizeOf0
 v0:=Tryz.zeroValue0
 t3:=Tryz.underlying3
 a3:=Tryz.isAgg3
 z3:=Tryz.sizeOf3
 v3:=Tryz.zeroValue3
 t4:=Tryz.underlying4
 a4:=Tryz.isAgg4
 z4:=Tryz.sizeOf4
 v4:=Tryz.zeroValue4
 t9:=Tryz.underlying9
 a9:=Tryz.isAgg9
 z9:=Tryz.sizeOf9
 v9:=Tryz.zeroValue9
 t20:=Tryz.underlying20
 a20:=Tryz.isAgg20
 z20:=Tryz.sizeOf20
 v20:=Tryz.zeroValue20
 t31:=Tryz.underlying39
 a31:=Tryz.isAgg39
 z31:=Tryz.sizeOf39
 v31:=Tryz.zeroValue39
 t37:=Tryz.underlying283
 a37:=Tryz.isAgg283
 z37:=Tryz.sizeOf283
 v37:=Tryz.zeroValue283
 t70:=Tryz.underlying312
 a70:=Tryz.isAgg312
 z70:=Tryz.sizeOf312
 v70:=Tryz.zeroValue312
 t72:=Tryz.underlying314
 a72:=Tryz.isAgg314
 z72:=Tryz.sizeOf314
 v72:=Tryz.zeroValue314
 t75:=Tryz.underlying316
 a75:=Tryz.isAgg316
 z75:=Tryz.sizeOf316
 v75:=Tryz.zeroValue316
 t76:=Tryz.underlying317
 a76:=Tryz.isAgg317
 z76:=Tryz.sizeOf317
 v76:=Tryz.zeroValue317
 t127:=Tryz.underlying355
 a127:=Tryz.isAgg355
 z127:=Tryz.sizeOf355
 v127:=Tryz.zeroValue355
 t164:=Tryz.underlying391
 a164:=Tryz.isAgg391
 z164:=Tryz.sizeOf391
 v164:=Tryz.zeroValue391 }
theorem J0U:Builder.Extra Tryz.prog Tryz.lays156_ren:={
 sizeBuilder:=by kernel_rfl
 liesBuilder:=by kernel_rfl
 t5:=Tryz.underlying5
 a5:=Tryz.isAgg5
 z5:=Tryz.sizeOf5
 v5:=Tryz.zeroValue5
 infoByte:=by kernel_rfl
 cellsByte:=by kernel_rfl
 sizeByte:=by kernel_rfl
 neB5:=by decide }
def Tryz.lays105_ren:Go.Shelf.Ren:=⟨fun|105=>211|212=>298|99=>201|165=>299|166=>283|170=>300|169=>287|263=>347|264=>348|206=>293|240=>331|241=>349|276=>368|277=>374|n=>n,fun|9=>9|3=>3|4=>4|20=>20|0=>0|46=>239|109=>326|5=>5|72=>314|76=>317|51=>285|146=>366|53=>274|148=>368|70=>312|37=>283|75=>316|127=>355|164=>391|80=>128|n=>n,fun|n=>n⟩
theorem J9m:Go.Proofs.Lays.n105 Tryz.prog Tryz.lays105_ren:={
 mixed:=by kernel_rfl
 f99:=Tryz.func201.trans (congrArg some (by kernel_rfl))
 f105:=Tryz.func211.trans (congrArg some (by kernel_rfl))
 f165:=Tryz.func299.trans (congrArg some (by kernel_rfl))
 f166:=Tryz.func283.trans (congrArg some (by kernel_rfl))
 f169:=Tryz.func287.trans (congrArg some (by kernel_rfl))
 f170:=Tryz.func300.trans (congrArg some (by kernel_rfl))
 f206:=Tryz.func293.trans (congrArg some (by kernel_rfl))
 f212:=Tryz.func298.trans (congrArg some (by kernel_rfl))
 f240:=Tryz.func331.trans (congrArg some (by kernel_rfl))
 f241:=Tryz.func349.trans (congrArg some (by kernel_rfl))
 f263:=Tryz.func347.trans (congrArg some (by kernel_rfl))
 f264:=Tryz.func348.trans (congrArg some (by kernel_rfl))
 f276:=Tryz.func368.trans (congrArg some (by kernel_rfl))
 f277:=Tryz.func374.trans (congrArg some (by kernel_rfl))
 t0:=Tryz.underlying0
 a0:=Tryz.isAgg0
 z0:=Tryz.sizeOf0
 v0:=Tryz.zeroValue0
 t3:=Tryz.underlying3
 a3:=Tryz.isAgg3
 z3:=Tryz.sizeOf3
 v3:=Tryz.zeroValue3
 t4:=Tryz.underlying4
 a4:=Tryz.isAgg4
 z4:=Tryz.sizeOf4
 v4:=Tryz.zeroValue4
 t5:=Tryz.underlying5
 a5:=Tryz.isAgg5
 z5:=Tryz.sizeOf5
 v5:=Tryz.zeroValue5
 t9:=Tryz.underlying9
 a9:=Tryz.isAgg9
 z9:=Tryz.sizeOf9
 v9:=Tryz.zeroValue9
 t20:=Tryz.underlying20
 a20:=Tryz.isAgg20
 z20:=Tryz.sizeOf20
 v20:=Tryz.zeroValue20
 t37:=Tryz.underlying283
 a37:=Tryz.isAgg283
 z37:=Tryz.sizeOf283
 v37:=Tryz.zeroValue283
 t46:=Tryz.underlying239
 a46:=Tryz.isAgg239
 z46:=Tryz.sizeOf239
 v46:=Tryz.zeroValue239
 t51:=Tryz.underlying285
 a51:=Tryz.isAgg285
 z51:=Tryz.sizeOf285
 v51:=Tryz.zeroValue285
 t53:=Tryz.underlying274
 a53:=Tryz.isAgg274
 z53:=Tryz.sizeOf274
 v53:=Tryz.zeroValue274
 t70:=Tryz.underlying312
 a70:=Tryz.isAgg312
 z70:=Tryz.sizeOf312
 v70:=Tryz.zeroValue312
 t72:=Tryz.underlying314
 a72:=Tryz.isAgg314
 z72:=Tryz.sizeOf314
 v72:=Tryz.zeroValue314
 t75:=Tryz.underlying316
 a75:=Tryz.isAgg316
 z75:=Tryz.sizeOf316
 v75:=Tryz.zeroValue316
 t76:=Tryz.underlying317
 a76:=Tryz.isAgg317
 z76:=Tryz.sizeOf317
 v76:=Tryz.zeroValue317
 t109:=Tryz.underlying326
 a109:=Tryz.isAgg326
 z109:=Tryz.sizeOf326
 v109:=Tryz.zeroValue326
 t127:=Tryz.underlying355
 a127:=Tryz.isAgg355
 z127:=Tryz.sizeOf355
 v127:=Tryz.zeroValue355
 t146:=Tryz.underlying366
 a146:=Tryz.isAgg366
 z146:=Tryz.sizeOf366
 v146:=Tryz.zeroValue366
 t148:=Tryz.underlying368
 a148:=Tryz.isAgg368
 z148:=Tryz.sizeOf368
 v148:=Tryz.zeroValue368
 t164:=Tryz.underlying391
 a164:=Tryz.isAgg391
 z164:=Tryz.sizeOf391
 v164:=Tryz.zeroValue391 }
theorem J2O:Builder.Extra Tryz.prog Tryz.lays105_ren:={
 sizeBuilder:=by kernel_rfl
 liesBuilder:=by kernel_rfl
 t5:=Tryz.underlying5
 a5:=Tryz.isAgg5
 z5:=Tryz.sizeOf5
 v5:=Tryz.zeroValue5
 infoByte:=by kernel_rfl
 cellsByte:=by kernel_rfl
 sizeByte:=by kernel_rfl
 neB5:=by decide }
end Go.Proofs
namespace Go.Proofs.YtlblbldolhiokaaGreatDoor
open Go Go.Fw Go.RowKit
def joinB (l:List ByteArray)(sep:ByteArray):ByteArray:=⟨(Lib.join (l.map (·.data.toList)) sep.data.toList).toArray⟩
def repB (s:ByteArray)(n:Nat):ByteArray:=⟨(Lib.repeatL s.data.toList n).toArray⟩
theorem JJm (l:List ByteArray)(sep:ByteArray)(hl:l.length≤2^40)(hs:(joinB l sep).size≤140737488355328):PX 212 [.sl 1 (l.map encS),encS sep] (encS (joinB l sep)):=by
 intro O w vs hO hv;obtain ⟨hlen,hr⟩:=hv;obtain ⟨vl⟩:=vs
 rcases vl with _|⟨a,_|⟨b,_|⟨c,r⟩⟩⟩<;>simp at hlen
 have h0:=hr 0 (by simp) (by simp);have h1:=hr 1 (by simp) (by simp);simp only[List.getElem_cons_zero,List.getElem_cons_succ,List.getElem_toArray] at h0 h1;cases h1;have fin:∀ {e:Ending} {w':World},(e=.returned (.string (joinB l sep))∧Below w.heap.size w w')→∃ v,e=.returned v∧VR KM.empty w' O (encS (joinB l sep)) v∧Below w.heap.size w w':=fun ⟨he,hb⟩=>⟨_,he,.val _ rfl,hb⟩;generalize hL:l.map encS=L at h0
 cases h0 with
 |slnil n=>
   obtain rfl:l=[]:=List.map_eq_nil_iff.1 hL;exact (Any.strings_Join_none J15 J0U none 0 sep w).mono fun e w' ⟨he,hw⟩=>fin ⟨he,hw ▸ Below.refl _ _⟩
 |slemp n a=>
   obtain rfl:l=[]:=List.map_eq_nil_iff.1 hL;exact (Any.strings_Join_none J15 J0U (some a) 0 sep w).mono fun e w' ⟨he,hw⟩=>fin ⟨he,hw ▸ Below.refl _ _⟩
 |sl n xs c o cap f hcap hO' hblk hcl hcell hrel hpl=>
   subst hL;obtain ⟨A,e,z,hb,hs'⟩:=hblk
   have:=Any.strings_Join J15 J0U c o cap l sep w (fun j x hx=>by
    obtain ⟨hj,rfl⟩:=List.getElem?_eq_some_iff.1 hx;have h2:=hcell j (by simpa using hj) 0 Nat.one_pos;have h3:=hrel j (by simpa using hj) 0 (by simp[AV.cells,encS]);have e1:((l.map encS)[j]'(by simpa using hj)).cells[0]'(by simp[AV.cells,encS])=encS l[j]:=by simp[AV.cells,encS]
    rw[e1] at h3
    have h4:f j 0=.string l[j]:=by
     generalize f j 0=v at h3;cases h3;rfl
    rw[h4] at h2
    simpa using h2) (Array.getElem?_eq_some_iff.1 hb).1 (by omega) (by simpa using hcap) (by simpa [joinB,ByteArray.size] using hs)
   have hlm:(l.map encS).length=l.length:=List.length_map ..;rw[hlm];exact this.mono fun e w' h=>fin h
theorem JFv (s:ByteArray)(n:Nat)(hn:n≤2^62)(hs:s.size*n≤140737488355328):PX 211 [encS s,encI n] (encS (repB s n)):=by
 intro O w vs hO hv;obtain ⟨hlen,hr⟩:=hv;obtain ⟨vl⟩:=vs
 rcases vl with _|⟨a,_|⟨b,_|⟨c,r⟩⟩⟩<;>simp at hlen
 have h0:=hr 0 (by simp) (by simp);have h1:=hr 1 (by simp) (by simp);simp only[List.getElem_cons_zero,List.getElem_cons_succ,List.getElem_toArray] at h0 h1;cases h0;cases h1;exact (Any.strings_Repeat J9m J2O s n w (by omega) hs).mono fun e w' ⟨he,hb⟩=>⟨_,he,.val _ rfl,hb⟩
end Go.Proofs.YtlblbldolhiokaaGreatDoor
namespace Go.Proofs.YtlblbldolhiokaaGreatDoor
open Go Go.Fw
def JGd (o t:ByteArray)(n:Int)(rs:List ByteArray):ByteArray:=
 if o=oNum then t
 else if o=oVar then (if n=0 then b1 64++t else b1 64++t++b1 58++repB (b1 39) n.toNat)
 else if o=oPre then ⟨#[112,114,101,64]⟩++t
 else match rs with
  |[]=>o
  |r::l=>o++b1 40++joinB (r::l) (b1 59)++b1 41
mutual
def showF:Ex→ByteArray
 |.mk o t n es=>JGd o t n (JIm es)
def JIm:List Ex→List ByteArray
 |[]=>[]
 |e::es=>showF e::JIm es
end
theorem J8X:∀ es:List Ex,JIm es=es.map showF
 |[]=>rfl
 |e::es=>by rw[List.map_cons,← J8X es];rfl
theorem JBK (e:Ex):showF e=JGd e.op e.text e.order (e.kids.map showF):=by
 cases e with
 |mk o t n es=>rw[← J8X];rfl
theorem J0G (a b:ByteArray):(a++b).size=a.size+b.size:=ByteArray.size_append
theorem J8e (s:ByteArray)(n:Nat):(repB s n).size=s.size*n:=by
 show (Lib.repeatL s.data.toList n).toArray.size=_
 rw[List.size_toArray]
 have:∀ n,(Lib.repeatL s.data.toList n).length=s.data.toList.length*n:=by
  intro n
  induction n with
  |zero=>rfl
  |succ n ih=>unfold Lib.repeatL;rw[List.length_append,ih,Nat.mul_succ];omega
 rw[this n,Array.length_toList];rfl
theorem J4R (sep:List UInt8):∀ r:List (List UInt8),(Lib.joinTail sep r).length=(r.map fun x=>sep.length+x.length).sum
 |[]=>rfl
 |x::r=>by
   have:=J4R sep r;unfold Lib.joinTail at *;simp only[List.map_cons,List.flatten_cons,List.length_append,List.sum_cons,this]
def szB (l:List ByteArray):Nat:=(l.map ByteArray.size).sum
theorem J6r (l:List ByteArray)(sep:ByteArray):(joinB l sep).size≤szB l+l.length*sep.size:=by
 show (Lib.join _ _).toArray.size≤_
 cases l with
 |nil=>simp[Lib.join_nil]
 |cons x r=>
   rw[List.map_cons,Lib.join_cons,List.size_toArray,List.length_append,J4R]
   have key:∀ r:List ByteArray,((r.map (·.data.toList)).map fun x=>sep.data.toList.length+x.length).sum≤szB r+r.length*sep.size:=by
    intro r
    induction r with
    |nil=>simp[szB]
    |cons y r ih=>
      unfold szB at *;simp only[List.map_cons,List.sum_cons,List.length_cons,Nat.succ_mul] at *;have e1:y.data.toList.length=y.size:=Array.length_toList;have e2:sep.data.toList.length=sep.size:=Array.length_toList;omega
   have:=key r;have e1:x.data.toList.length=x.size:=Array.length_toList;have e2:szB (x::r)=x.size+szB r:=rfl;rw[List.length_cons,Nat.succ_mul];omega
theorem JI1 {es:List Ex}{C:Nat}(h:∀ k∈es,(showF k).size+1≤C*wtF k):szB (es.map showF)+es.length≤C*wtL es:=by
 induction es with
 |nil=>simp[szB]
 |cons e es ih=>
   have a:=h e (by simp);have b:=ih fun k hk=>h k (by simp[hk]);unfold szB at *;simp only[List.map_cons,List.sum_cons,List.length_cons] at *;unfold wtL;rw[Nat.mul_add];omega
theorem JEV {e:Ex}(hb:builtF e=true):e.op.size≤8:=by
 have hl:=(J06 hb).1;unfold J1H at hl;split at hl
 ·rename_i h;rcases h with h|h<;>rw[h]<;>decide
 ·split at hl
  ·rename_i h;rcases h with h|h<;>rw[h]<;>decide
  ·split at hl
   ·rename_i h;rw[h];decide
   ·split at hl
    ·omega
    ·rename_i x hx
     rcases JEA hx with h|⟨h,_⟩|⟨h,_⟩|⟨h,_⟩|⟨h,_⟩|⟨h,_⟩|⟨h,_⟩|⟨h,_⟩|⟨h,_⟩
     ·rw[h];decide
     ·rcases h with h|h<;>rw[h]<;>decide
     ·rw[h];decide
     ·rcases h with h|h|h<;>rw[h]<;>decide
     ·rw[h];decide
     ·rw[h];decide
     ·rw[h];decide
     ·rcases h with h|h|h|h<;>rw[h]<;>decide
     ·rcases h with h|h|h|h<;>rw[h]<;>decide
theorem J3S {e:Ex}(hb:builtF e=true)(h:e.op=oVar):0≤e.order∧e.order≤6:=by
 have hx:textF e=true:=by rw[J0u] at hb;simp only[Bool.and_eq_true] at hb;exact hb.1.1.2
 unfold textF at hx;rw[if_neg (by rw[h];decide),if_pos h] at hx;simp only[Bool.and_eq_true,decide_eq_true_eq] at hx;exact ⟨hx.1.2,hx.2⟩
theorem J6Z (e:Ex):builtF e=true→TxE e→(showF e).size+1≤(2^21+20)*wtF e:=by
 induction e using J1D with
 |h e ih=>
   intro hb hx;have ihk:=fun k hk=>ih k hk ((J06 hb).2 k hk) (hx.kid k hk);have ht:=hx.low;have ho:=JEV hb;have hw:=J4N e;have hl:=J51 e.kids;rw[JBK];unfold JGd;have hsum:=JI1 ihk;have e0:2^21+20≤(2^21+20)*wtF e:=Nat.le_mul_of_pos_right _ (by omega);split
   ·omega
   ·split
    ·rename_i h1;have:=J3S hb h1;split
     ·rw[J0G];show 1+_+1≤_;omega
     ·rw[J0G,J0G,J0G,J8e];show 1+_+1+1*_+1≤_;omega
    ·split
     ·rw[J0G];show 4+_+1≤_;omega
     ·split
      ·omega
      ·rename_i r l hrl;have:=J6r (r::l) (b1 59);rw[J0G,J0G,J0G];have e1:(r::l).length=e.kids.length:=by rw[← hrl,List.length_map]
       rw[← hrl] at this ⊢;rw[List.length_map] at this;show _+1+_+1+1≤_
       have e3:(b1 59).size=1:=rfl;rw[e3] at this;have e4:(2^21+20)*wtF e=(2^21+20)*wtL e.kids+(2^21+20):=by rw[hw,Nat.mul_succ]
       omega
theorem JL1 {b p e n:Nat}{H:Hp}{out:List ByteArray}(hb:H b=some (p,⟨e,1,out.map encS⟩))(hn:n=out.length):snap [b] H (.own b p 0 n)=.sl 1 (out.map encS):=by
 rw[J2q (by simp) hb (by simp[hn]),J19 _ _ _ _ hn fun _=>rfl]
theorem JEB (e:Ex):SzE e→TxE e→builtF e=true→wtF e≤1000→PX 128 [encE e] (encS (showF e)):=by
 induction e using J1D with
 |h e ih=>
   intro hz hx hb hw;have ihk:=fun k hk=>ih k hk (hz.kid k hk) (hx.kid k hk) ((J06 hb).2 k hk) (by have:=JBB hk;omega);have hwt:wtL e.kids≤1000:=by have:=J4N e;omega
   have hlen:e.kids.length≤1000:=Nat.le_trans (J51 _) hwt;have hsum:szB (e.kids.map showF)+e.kids.length≤(2^21+20)*1000:=Nat.le_trans (JI1 fun k hk=>J6Z k ((J06 hb).2 k hk) (hx.kid k hk)) (Nat.mul_le_mul_left _ hwt);have hord:=J3S hb;have htx:=hx.tx;have hos:=JEV hb;clear ih;refine PZ Tryz.func128 rfl ?_;generalize hF:showF e=F;rw[JBK] at hF;rw[J01];clear hz hx hb hw hwt;have z1:({ data:=#[64] }:ByteArray).size=1:=rfl;have z2:({ data:=#[112,114,101,64] }:ByteArray).size=4:=rfl;have z3:({ data:=#[58] }:ByteArray).size=1:=rfl;have z4:({ data:=#[40] }:ByteArray).size=1:=rfl;have z5:({ data:=#[41] }:ByteArray).size=1:=rfl;obtain ⟨o,t,od,es⟩:=e;simp only[Ex.op,Ex.text,Ex.order,Ex.kids] at *;unfold JGd at hF
   by_cases h1:o=oNum
   ·rw[if_pos h1] at hF;(refine kWS ?_;repeat intro γ);exact .of (by rw[← hF];rfl)
   rw[if_neg h1] at hF
   by_cases h2:o=oVar
   ·rw[if_pos h2] at hF
    by_cases h3:od=0
    ·rw[if_pos h3] at hF;(refine kWS ?_;repeat intro γ);exact .of (by rw[← hF];rfl)
    ·rw[if_neg h3] at hF;obtain ⟨ho1,ho2⟩:=hord h2;have hR:=JFv (b1 39) od.toNat (by omega) (by show 1*_≤_;omega);rw[show ((od.toNat:Nat):Int)=od by omega] at hR;have y1:=J0G { data:=#[64] } t;have y2:=J0G ({ data:=#[64] }++t) { data:=#[58] };have y3:=J8e (b1 39) od.toNat;have y4:(b1 39).size=1:=rfl;rw[y4] at y3;generalize repB (b1 39) od.toNat=rb at *;(refine kWS ?_;repeat intro γ);refine CallG.intro _ c211 hR ?_;(refine kWS ?_;repeat intro γ);exact .of (by rw[← hF];rfl)
   rw[if_neg h2] at hF
   by_cases h3:o=oPre
   ·rw[if_pos h3] at hF;(refine kWS ?_;repeat intro γ);exact .of (by rw[← hF];rfl)
   rw[if_neg h3] at hF;have hml:=@List.length_map _ _ es encE
   by_cases h4:es=[]
   ·subst h4;(refine kWS ?_;repeat intro γ);exact .of (by rw[← hF];rfl)
   have h5:¬ es.length=0:=fun h=>h4 (List.eq_nil_of_length_eq_zero h)
   replace hF:o++b1 40++joinB (es.map showF) (b1 59)++b1 41=F:=by
    rw[← hF]
    cases es with
    |nil=>exact absurd rfl h4
    |cons k r=>rfl
   (refine kWQ ?_;repeat intro γ)
   refine LoopP.intro (fun j σ H=>∃ g1 gl i,∃ l:List ByteArray,j=es.length-i∧i≤es.length∧l=(es.take i).map showF ∧
    σ=fr [(1,.op 1 g1 0 0),(3,.own 50 gl 0 l.length),(40,.sl 4 (es.map encE)),(41,encI es.length),(42,encI i)] ∧
    H=hp [(1,g1,⟨29,4,[.agg [encS o,encS t,encI od,.sl 4 (es.map encE)]]⟩),(50,gl,⟨9,1,l.map encS⟩)]) ?_ ?_
   ·exact .intro (J9j 3 50 9 1 rfl rfl fun gl=>W.of ⟨_,_,gl,0,[],rfl,Nat.zero_le _,rfl,rfl,rfl⟩ ⟨rfl,rfl,rfl,(by first|rfl|(rw[List.length_map];rfl)),rfl,trivial⟩ ⟨rfl,rfl,trivial⟩)
   ·rintro j σ H ⟨g1,gl,i,l,rfl,hi,rfl,rfl,rfl⟩;have hll:((es.take i).map showF).length=i:=by rw[List.length_map,List.length_take];omega
    rcases Nat.lt_or_ge i es.length with h9|h9
    ·have hk:=ihk _ (List.getElem_mem h9);have htk:(es.take (i+1)).map showF=(es.take i).map showF++[showF es[i]]:=by rw[List.take_succ_eq_append_getElem h9,List.map_append];rfl
     obtain ⟨k,hkk⟩:∃ k,es[i]=k:=⟨_,rfl⟩;rw[hkk] at hk htk;rw[J01] at hk;generalize hL:(es.take i).map showF=l at *;have hml:=@List.length_map _ _ l encS;(refine kWQ ?_;repeat intro γ);simp only[hkk,J01];(refine kQ ?_;repeat intro γ);refine CallP.flat [] _ c128 hk rfl ?_;(refine kWQ ?_;repeat intro γ)
     refine .intro <| W.of ⟨_,by omega,g1,γ,i+1,l++[showF k],rfl,h9,htk.symm,rfl,rfl⟩ ⟨rfl,?_,rfl,rfl,rfl,trivial⟩ ⟨rfl,?_,trivial⟩
     ·exact congrArg (AV.own 50 _ 0) (by simp)
     ·rw[List.map_append];rfl
    ·obtain rfl:i=es.length:=by omega
     rw[List.take_length] at *;have hj:=J6r (es.map showF) (b1 59)
     have hJ:=JJm (es.map showF) (b1 59) (by rw[List.length_map];omega) (by
      refine Nat.le_trans hj ?_;rw[List.length_map];show szB _+es.length*1≤_
      omega)
     have x1:(joinB (es.map showF) (b1 59)).size≤2^46:=by
      refine Nat.le_trans hj ?_;rw[List.length_map];show szB _+es.length*1≤_
      omega
     have hls:(es.map showF).length=es.length:=List.length_map ..;generalize joinB (es.map showF) (b1 59)=jb at *;have y1:=J0G o { data:=#[40] };have y2:=J0G (o++{ data:=#[40] }) jb;have y3:=J0G (o++{ data:=#[40] }++jb) { data:=#[41] };(refine kWQ ?_;repeat intro γ);refine CallG.flat _ c212 (J04 (congrArg (fun z=>[z,encS (b1 59)]) (JL1 rfl hls.symm)) hJ) rfl ?_;(refine kWQ ?_;repeat intro γ);exact .of (by rw[← hF];rfl)
end Go.Proofs.YtlblbldolhiokaaGreatDoor
namespace Go.Proofs.YtlblbldolhiokaaGreatDoor
open Go Go.Fw Go.RowKit
def bldB (p buf:AV):Blk:=⟨solo,2,[.agg [p,buf]]⟩
def J34:AV:=.val (.pointer none)
theorem J9U {H:Hp}{b g:Nat}{p buf:AV}(hb:H b=some (g,bldB p buf))(hp:p=J34∨p=.op b g 0 0)(hbc:buf.cells=[buf]) :
  HCall Tryz.prog 331 [.op b g 0 0] H fun r H'=>r=.tup []∧H'=setH H b (some (g,bldB (.op b g 0 0) buf)):=by
 intro gh κ w vs hr hv;obtain ⟨hlen,hv⟩:=hv;obtain ⟨vl⟩:=vs
 rcases vl with _|⟨a,_|⟨a2,r⟩⟩<;>simp at hlen
 have h0:=hv 0 (by simp) (by simp);simp only[List.getElem_cons_zero,List.getElem_toArray] at h0
 cases h0 with
 |op _ _ _ _ c K hκ hc hn=>
 obtain ⟨K',hκ',hbr⟩:=hr.blk _ _ _ hb;have hbr:BlkRel κ w (Nset gh.O κ H) K (bldB p buf):=by rw[hκ] at hκ';cases hκ';exact hbr
 obtain ⟨hn2,hcl,h3⟩:=hbr.rows hn
 rcases h3 with ⟨h3,_⟩|⟨c',A,f,hc',hbk,hm,hs,hf,hpl,hvv,hso⟩
 ·rw[h3] at hc;cases hc
 rw[hc'] at hc;cases hc;have hsz:A.size=2:=hso rfl;simp only[Nat.zero_mul,Nat.add_zero];have e0:A[0]?=some (f 0 0):=by have:=hf 0 (by simp[bldB]) 0 (by simp[bldB]);simpa [bldB] using this
 have hv0:VR κ w (Nset gh.O κ H) p (f 0 0):=hvv 0 (by simp[bldB]) 0 (by simp[bldB]);have hcell:w.cell? ⟨c,0,none⟩=some (f 0 0):=by simp[World.cell?,hbk,e0]
 have hself:VR κ w (Nset gh.O κ H) (.op b g 0 0) (.pointer (some ⟨c,0,none⟩)):=by
  have:=VR.op (w:=w) (N:=Nset gh.O κ H) b g 0 0 c K hκ hc' hn
  simpa using this
 rcases hp with rfl|rfl
 ·have hf0:f 0 0=.pointer none:=by generalize f 0 0=v at hv0;cases hv0;rfl
  rw[hf0] at hcell;obtain ⟨up,hup,hex,w',u,κ',hrun,hR,hvr,_,_⟩:=J2x (P:=Tryz.prog) J4L hr (t:=312) hself hself (C:=fun up=>up=some (b,g,bldB (.op b g 0 0) buf)) ⟨_,rfl,rfl,rfl,_,hb,by simp[bldB],by simp[bldB],by simp[AV.cells],by simp[bldB,J5D,over,AV.cells]⟩;subst hup;have hK:=Any.Builder_copyCheck_fresh { J15 with } J0U.toX72 c w hcell (by simp[World.shape?,hbk,hsz];rfl) (by simp[World.frozen?,hbk]);refine hK.mono ?_;rintro e w' ⟨rfl,rfl⟩
  have hst:=run_storeCells_at Tryz.prog c 0 solo [.pointer (some ⟨c,0,none⟩)] 0 A w hbk (by simp[hsz]) (fun v hv=>by
   simp only[List.mem_singleton] at hv;subst hv;rfl)
  have ht:=J0W (J4L 312 _ rfl)
  have hrun':(Instr.storeAt 312 (.pointer (some ⟨c,0,none⟩)) (.pointer (some ⟨c,0,none⟩))).run Tryz.prog w=.ok () (w.setCell ⟨c,0,none⟩ (.pointer (some ⟨c,0,none⟩))):=by
   have hA:(A.toList.take 0++[Value.pointer (some ⟨c,0,none⟩)]++A.toList.drop 1).toArray=A.setIfInBounds 0 (.pointer (some ⟨c,0,none⟩)):=by
    obtain ⟨L⟩:=A
    rcases L with _|⟨x,r⟩
    ·simp at hsz
    ·simp
   rw[setCell_eq_setRow w c 0 A solo (0,0) _ hbk,← hA];simp only[Nat.add_zero] at hst
   simpa [Instr.storeAt,Instr.sureAddr,Sem.run_bind,storeVar,ht.run_size w,Value.cells] using hst
  rw[hrun'] at hrun;cases hrun;exact ⟨_,.tup [],_,κ',rfl,⟨rfl,rfl⟩,hR,.tup [] #[] rfl (fun i h=>by simp at h),hvr⟩
 ·have hf0:f 0 0=.pointer (some ⟨c,0,none⟩):=by
   generalize f 0 0=v at hv0
   cases hv0 with
   |op _ _ _ _ c2 K2 hκ2 hc2 hn2=>
     rw[hκ] at hκ2;cases hκ2;rw[hc'] at hc2;cases hc2;simp
  rw[hf0] at hcell;refine (Any.Builder_copyCheck_used { J15 with } J0U.toX72 c w hcell).mono ?_;rintro e w' ⟨rfl,rfl⟩
  have hH:setH H b (some (g,bldB (.op b g 0 0) buf))=H:=by
   funext x;unfold setH;split
   ·rename_i h;rw[h,hb]
   ·rfl
  exact ⟨_,.tup [],H,κ,rfl,⟨rfl,hH.symm⟩,hr,.tup [] #[] rfl (fun i h=>by simp at h),fun h=>h⟩
theorem J9l {κ:KM}{w:World}{N:Nat→Prop}{b g i k c o:Nat}(h:VR κ w N (.op b g i k) (.pointer (some ⟨c,o,none⟩))):∃ K,κ b g=some K∧K.c=some c∧0<K.n:=by
 generalize hv:Value.pointer (some ⟨c,o,none⟩)=v at h
 cases h with
 |op _ _ _ _ c2 K2 h1 h2 h3=>cases hv;exact ⟨_,h1,h2,h3⟩
theorem JAx {gh:Gh}{κ:KM}{H:Hp}{w:World}{b g c:Nat}{p buf:AV}(hr:HRel gh κ H w)(hb:H b=some (g,bldB p buf))(hs:VR κ w (Nset gh.O κ H) (.op b g 0 0) (.pointer (some ⟨c,0,none⟩)))(hp:p.cells=[p])(hbc:buf.cells=[buf]) :
  ∃ v0 v1,w.heap[c]?=some (.cells #[v0,v1] solo (0,0))∧VR κ w (Nset gh.O κ H) p v0∧VR κ w (Nset gh.O κ H) buf v1:=by
 obtain ⟨K,hκ,hc,hn⟩:=J9l hs;obtain ⟨K1,hκ1,hbr⟩:=hr.blk _ _ _ hb;rw[hκ] at hκ1;cases hκ1;obtain ⟨hn2,hcl,h3⟩:=hbr.rows hn
 rcases h3 with ⟨h3,_⟩|⟨c',A,f,hc',hbk,hm,hs',hf,hpl,hvv,hso⟩
 ·rw[h3] at hc;cases hc
 rw[hc'] at hc;cases hc;have hsz:A.size=2:=hso rfl;obtain ⟨L⟩:=A
 rcases L with _|⟨v0,_|⟨v1,_|⟨v2,r⟩⟩⟩<;>simp at hsz
 have e0:=hf 0 (by simp[bldB]) 0 (by simp[bldB]);have e1:=hf 0 (by simp[bldB]) 1 (by simp[bldB]);simp[bldB] at e0 e1;subst e0 e1;exact ⟨_,_,hbk,hvv 0 (by simp[bldB]) 0 (by simp[bldB]),hvv 0 (by simp[bldB]) 1 (by simp[bldB])⟩
theorem J9k {κ:KM}{w:World}{N:Nat→Prop}{b g off len:Nat}{v:Value}(h:VR κ w N (.own b g off len) v):∃ ao n' cap,v=.slice ao n' cap:=by
 cases h<;>exact ⟨_,_,_,rfl⟩
theorem JFm {gh:Gh}{κ:KM}{H:Hp}{w:World}{b g c d γ len n' cap:Nat}{ao:Option Addr}{p buf:AV}(hr:HRel gh κ H w)(hb:H b=some (g,bldB p buf))(hs:VR κ w (Nset gh.O κ H) (.op b g 0 0) (.pointer (some ⟨c,0,none⟩)))(hp:p.cells=[p])(hbc:buf.cells=[buf])
  (hx:VR κ w (Nset gh.O κ H) (.own d γ 0 len) (.slice ao n' cap)) :
  ∃ κ',HRel gh κ' (setH H b (some (g,bldB p (.own d γ 0 len)))) (w.setCell ⟨c,1,none⟩ (.slice ao n' cap))∧∀ {y:AV} {v:Value},VR κ w (Nset gh.O κ H) y v→VR κ' (w.setCell ⟨c,1,none⟩ (.slice ao n' cap)) (Nset gh.O κ' (setH H b (some (g,bldB p (.own d γ 0 len))))) y v:=by
 obtain ⟨v0,v1,hbk,_,_⟩:=JAx hr hb hs hp hbc;obtain ⟨K,hκ,hc,hn⟩:=J9l hs
 have hptr:VR κ w (Nset gh.O κ H) (.op b g 0 1) (.pointer (some ⟨c,1,none⟩)):=by
  have:=VR.op (w:=w) (N:=Nset gh.O κ H) b g 0 1 c K hκ hc hn
  simpa using this
 obtain ⟨up,hup,hex,w',u,κ',hrun,hR,hvr,_,_⟩:=J2x (P:=Tryz.prog) J4L hr (t:=283) hptr hx (C:=fun up=>up=some (b,g,bldB p (.own d γ 0 len))) ⟨_,rfl,rfl,rfl,_,hb,by simp[bldB],by simp[bldB],by simp[AV.cells],by simp[bldB,J5D,over,AV.cells]⟩;subst hup
 have hst:=run_storeCells_at Tryz.prog c 1 solo [.slice ao n' cap] 0 #[v0,v1] w hbk (by simp) (fun v hv=>by
  simp only[List.mem_singleton] at hv;subst hv;rfl)
 have ht:=J0W (J4L 283 _ rfl)
 have hrun':(Instr.storeAt 283 (.pointer (some ⟨c,1,none⟩)) (.slice ao n' cap)).run Tryz.prog w=.ok () (w.setCell ⟨c,1,none⟩ (.slice ao n' cap)):=by
  rw[setCell_eq_setRow w c 1 _ solo (0,0) _ hbk];simp only[Nat.add_zero] at hst
  simpa [Instr.storeAt,Instr.sureAddr,Sem.run_bind,storeVar,ht.run_size w,Value.cells] using hst
 rw[hrun'] at hrun;cases hrun;exact ⟨κ',hR,hvr⟩
theorem J6M {P:Program}{w:World}{ops:Array Oper}{rest:List Oper}{o:Oper}{a:Act}{Q:Exit→Act→World→Prop}(hgd:o.guard=none)(sl x:Operand)(t u:TypeId)
  (ho:o.op=.call { callee:=.builtin .append,args:=#[sl,x],argTypes:=#[t,u] })(v:Value)(hs:a.eval sl=v)(s:ByteArray)(hx:a.eval x=.string s){v':Value}{w':World}
  (hr:(Builtin.append_ #[t,u] o.type #[v,.string s]).run P w=.ok v' w')(h:wpList P ops Q rest (a.put o.dst v') w'):wpList P ops Q (o::rest) a w:=by
 refine wpList_plain hgd fun K hK=>?_;unfold Oper.wp execOp;simp only[ho,resolve,invoke,builtin,Sem.run_bind,Sem.run_pure,Result.andThen_ok,List.map_toArray,List.map_cons,List.map_nil,hs,hx,hr];exact hK _ _ h
theorem J6R {H:Hp}{b g d g0:Nat}{p:AV}{l:List UInt8}{s:ByteArray}(hb:H b=some (g,bldB p (.own d g0 0 l.length)))(hp:p=J34∨p=.op b g 0 0)(hd:H d=some (g0,⟨5,1,BY l⟩))(hbd:b≠d)
  (hs:l.length+s.size≤140737488355328) :
  HCall Tryz.prog 283 [.op b g 0 0,encS s] H fun r H'=>r=.tup [encI s.size,.val .nilIface]∧∃ γ,H'=setH (setH H d (some (γ,⟨5,1,BY (l++s.data.toList)⟩))) b (some (g,bldB (.op b g 0 0) (.own d γ 0 (l.length+s.size)))):=by
 intro gh κ w vs hr hv;obtain ⟨hlen,hv⟩:=hv;obtain ⟨vl⟩:=vs
 rcases vl with _|⟨a,_|⟨a2,_|⟨a3,r⟩⟩⟩<;>simp at hlen
 have h0:=hv 0 (by simp) (by simp);have h1:=hv 1 (by simp) (by simp);simp only[List.getElem_cons_zero,List.getElem_cons_succ,List.getElem_toArray] at h0 h1;cases h1
 have hcc:=J9U hb hp rfl gh κ w #[a] hr ⟨rfl,fun i h h'=>by
  have:i=0:=by simpa using h
  subst this;exact h0⟩
 cases h0 with
 |op _ _ _ _ c K hκ hc hn=>
 simp only[Nat.add_zero,Nat.zero_mul] at hcc ⊢;have L:Lays.n166 Tryz.prog Tryz.lays156_ren:={ J15 with };have X:=J0U;have hcc':Calls Tryz.prog (Tryz.lays156_ren.f 240) _ _ _:=hcc;have e5:Tryz.lays156_ren.t 5=5:=rfl;have e72:Tryz.lays156_ren.t 72=solo:=rfl;have hT:=J4L;show Calls Tryz.prog (Tryz.lays156_ren.f 166) _ _ _
 clear hcc;generalize Tryz.lays156_ren=ρ at L X hcc' e5 e72 ⊢;obtain ⟨i0,hi,hz0,hz1,hz2⟩:=info_parts X.infoByte;have mixed:=L.mixed;have t72:=L.t72;have a72:=L.a72;have z72:=L.z72;have v72:=L.v72;have u72:=run_underlying L.t72;have t70:=L.t70;have a70:=L.a70;have z70:=L.z70;have v70:=L.v70;have u70:=run_underlying L.t70;have t37:=L.t37;have a37:=L.a37;have z37:=L.z37;have v37:=L.v37;have u37:=run_underlying L.t37;have t3:=L.t3;have a3:=L.a3;have z3:=L.z3;have v3:=L.v3;have u3:=run_underlying L.t3;have t9:=L.t9;have a9:=L.a9;have z9:=L.z9;have v9:=L.v9;have u9:=run_underlying L.t9;have t4:=L.t4;have a4:=L.a4;have z4:=L.z4;have v4:=L.v4;have u4:=run_underlying L.t4;have t164:=L.t164;have a164:=L.a164;have z164:=L.z164;have v164:=L.v164;have u164:=run_underlying L.t164;have t5:=X.t5;have a5:=X.a5;have z5:=X.z5;have v5:=X.v5;have u5:=run_underlying X.t5;have e240:∀ args w,(callFunc (ρ.f 240) args).run Tryz.prog w=.ok (.enter (ρ.f 240) args) w:=enters_of L.f240 (by kernel_rfl) rfl
 go_enter L.f166,Body.n166_ntmps ρ
 go_wp2_with (go_at_fn (ρ.f 240);refine hcc'.mono ?_)
 rintro e w1 ⟨v0,r0,H1,κ1,he,⟨hr0,hH1⟩,hr1,hv0,ht1⟩;subst he hr0 hH1
 have hself:VR κ w (Nset gh.O κ H) (.op b g 0 0) (.pointer (some ⟨c,0,none⟩)):=by
  have:=VR.op (w:=w) (N:=Nset gh.O κ H) b g 0 0 c K hκ hc hn
  simpa using this
 have hself:=ht1 hself;have hb1:(setH H b (some (g,bldB (.op b g 0 0) (.own d g0 0 l.length)))) b=some (g,bldB (.op b g 0 0) (.own d g0 0 l.length)):=by simp[setH]
 have hd1:(setH H b (some (g,bldB (.op b g 0 0) (.own d g0 0 l.length)))) d=some (g0,⟨5,1,BY l⟩):=by rw[setH,if_neg (Ne.symm hbd)];exact hd
 generalize hH1:setH H b (some (g,bldB (.op b g 0 0) (.own d g0 0 l.length)))=H1 at hr1 hv0 ht1 hself hb1 hd1;obtain ⟨p1,v,hbk,_,hv1⟩:=JAx hr1 hb1 hself rfl rfl;have c1:w1.cell? ⟨c,1,none⟩=some v:=by rw[Lib.cell_of_heap hbk];rfl
 obtain ⟨G,hG⟩:=hr1.fresh;obtain ⟨v',w2,κ2,hrun,hr2,ht2,hv2,hk2⟩:=J9F (P:=Tryz.prog) (ty:=ρ.t 37) (u:=ρ.t 9) hr1 (d:=d) (g:=g0) (γ:=G) (s:=s) L.t37 L.t9 hi hz0 hz1 hz2 (by rw[e5];decide) (hG _ _ (Nat.le_refl _)) (by rw[e5];exact hd1) hv1 hs;rw[e5] at hr2 ht2 hv2;have hself2:=ht2 hself;have hb2:app H1 (some (d,G,⟨5,1,BY (l++s.data.toList)⟩)) b=some (g,bldB (.op b g 0 0) (.own d g0 0 l.length)):=by simp only[app,setH];rw[if_neg hbd];exact hb1
 generalize hH2:app H1 (some (d,G,⟨5,1,BY (l++s.data.toList)⟩))=H2 at hr2 ht2 hv2 hself2 hb2;obtain ⟨p2,v2,hbk2,_,_⟩:=JAx hr2 hb2 hself2 rfl rfl;have d1:w2.cell? ⟨c,1,none⟩=some v2:=by rw[Lib.cell_of_heap hbk2];rfl
 have f1:w2.frozen? ⟨c,1,none⟩=false:=Lib.frozen_of_heap hbk2 1;obtain ⟨ao,n',cap,rfl⟩:∃ ao n' cap,v'=.slice ao n' cap:=J9k hv2
 go_wp2_with (at_builtin;refine J6M rfl _ _ (ρ.t 37) (ρ.t 9) rfl v rfl s rfl hrun ?_)
 go_ret2
 obtain ⟨κ3,hr3,ht3⟩:=JFm hr2 hb2 hself2 rfl rfl hv2;subst hH2 hH1
 have eH:∀ z,setH (app (setH H b z) (some (d,G,⟨5,1,BY (l++s.data.toList)⟩))) b (some (g,bldB (.op b g 0 0) (.own d G 0 (l.length+s.size))))=setH (setH H d (some (G,⟨5,1,BY (l++s.data.toList)⟩))) b (some (g,bldB (.op b g 0 0) (.own d G 0 (l.length+s.size)))):=by
  intro z;funext x;simp only[app,setH];split<;>(try split)<;>rfl
 rw[eH] at hr3 ht3
 exact ⟨_,.tup [encI s.size,.val .nilIface],_,κ3,rfl,⟨rfl,_,rfl⟩,hr3,.tup _ _ rfl (fun i h h'=>by
  match i,h with
  |0,_=>exact .val _ rfl
  |1,_=>exact .val _ rfl),fun h=>ht3 (ht2 (ht1 h))⟩
theorem HRel.drop {gh:Gh}{κ:KM}{H:Hp}{w w':World}{d g c:Nat}{B:Blk}{K:KI}(hr:HRel gh κ H w)(hd:H d=some (g,B))(hκ:κ d g=some K)(hc:K.c=some c)(hs:w.heap.size≤w'.heap.size)(hb:∀ k,k<w.heap.size→k≠c→w'.heap[k]?=w.heap[k]?)(ho:w'.os=w.os)(ht:w'.tape=w.tape)(hu:w'.output=w.output) :
  HRel gh κ (rem H [d]) w'∧∀ {x:AV} {u:Value},VR κ w (Nset gh.O κ H) x u→VR κ w' (Nset gh.O κ (rem H [d])) x u:=by
 have hag:Agree (Nset gh.O κ H) w w':=⟨hs,fun k hk hn=>hb k hk fun e=>hn (.inr ⟨d,g,B,K,hd,hκ,e ▸ hc⟩)⟩;have hr':=hr.rem [d];have tr:∀ {x:AV} {u:Value},VR κ w (Nset gh.O κ H) x u→VR κ w' (Nset gh.O κ (rem H [d])) x u:=fun h=>h.step (KM.le.refl _) hag fun k _ h=>J0M [d] h;have hag':Agree (Fw.Own κ H) w w':=⟨hs,fun k hk hn=>hb k hk fun e=>hn ⟨d,g,B,K,hd,hκ,e ▸ hc⟩⟩;refine ⟨⟨fun b g' B' h=>?_,hr'.inj,hr'.mine,hr.keep hag',ho.trans hr.os,ht.trans hr.tape,hu.trans hr.output,hr.fresh,hr.apart⟩,tr⟩;obtain ⟨K',hk,hbr⟩:=hr'.blk _ _ _ h
 have hbd:b≠d:=by
  rintro rfl;simp[Fw.rem] at h
 have hHb:H b=some (g',B'):=by
  unfold Fw.rem at h;split at h
  ·cases h
  ·exact h
 obtain ⟨K2,hk2,hbr2⟩:=hr.blk _ _ _ hHb;exact ⟨K2,hk2,hbr2.step (KM.le.refl _) hag (fun k _ h=>J0M [d] h) fun k hk=>hb k (hr.lt ⟨b,g',B',K2,hHb,hk2,hk⟩) fun e=>hbd (hr.inj _ _ _ _ _ _ _ _ c hHb hd hk2 hκ (e ▸ hk) hc)⟩
end Go.Proofs.YtlblbldolhiokaaGreatDoor
namespace Go.Proofs.YtlblbldolhiokaaGreatDoor
open Go Go.Fw
theorem JHp {e:Nat}{H:Hp}{b g d g0:Nat}{p:AV}{l:List UInt8}(s:ByteArray){args:List AV}{C:AV→Hp→Prop}(ha:args=[.op b g 0 0,encS s])(hb:H b=some (g,bldB p (.own d g0 0 l.length)))(hpf:p=J34∨p=.op b g 0 0)(hd:H d=some (g0,⟨5,1,BY l⟩))(hbd:b≠d)
  (hs:l.length+s.size≤140737488355328)(h:∀ γ,∃ m,hpOk (setH (setH H d (some (γ,⟨5,1,BY (l++s.data.toList)⟩))) b (some (g,bldB (.op b g 0 0) (.own d γ 0 (l++s.data.toList).length)))) m∧C (.tup [encI s.size,.val .nilIface]) (hp m)) :
  CallP (E e) 283 args H C:=by
 subst ha;refine CallP.own c283 (HCall.mono (J6R hb hpf hd hbd hs) ?_);rintro r h' ⟨rfl,γ,rfl⟩;obtain ⟨m,h1,h2⟩:=h γ;have e1:l.length+s.size=(l++s.data.toList).length:=by rw[List.length_append];rfl
 rw[e1];exact ⟨hp m,h1.sub,h2⟩
def eqF (w:ByteArray)(q:Eqn):ByteArray:=w++b1 32++q.name++b1 32++showF q.left++b1 32++showF q.right++b1 10
def eqsL (w:ByteArray):List Eqn→List UInt8
 |[]=>[]
 |q::r=>(eqF w q).data.toList++eqsL w r
structure QnOk (q:Eqn):Prop where
 n:q.name.size<2^35
 l:SzE q.left∧TxE q.left∧builtF q.left=true∧wtF q.left≤1000
 r:SzE q.right∧TxE q.right∧builtF q.right=true∧wtF q.right≤1000
theorem J2r {e:Ex}(h:TxE e)(hb:builtF e=true)(hw:wtF e≤1000):(showF e).size≤2^32:=by
 have:=J6Z e hb h;have h2:(2^21+20)*wtF e≤(2^21+20)*1000:=Nat.mul_le_mul_left _ hw;omega
theorem JHG {w:ByteArray}{q:Eqn}(hw:w.size≤10)(h:QnOk q):(eqF w q).size≤2^36:=by
 have h1:=J2r h.l.2.1 h.l.2.2.1 h.l.2.2.2;have h2:=J2r h.r.2.1 h.r.2.2.1 h.r.2.2.2;have h3:=h.n;unfold eqF;simp only[J0G];show _+1+_+1+_+1+_+1≤_
 omega
theorem JGY (w:ByteArray)(hw:w.size≤10)(qs:List Eqn)(hq:∀ q∈qs,QnOk q)(hn:qs.length≤120)(p:AV)(g g1:Nat)(hpf:p=J34∨p=.op 50 g 0 0)(l:List UInt8)(hl:l.length≤2^46) :
  HCall Tryz.prog 285 [encS w,.sl 9 (qs.map J0m),.op 50 g 0 0] (hp [(50,g,bldB p (.own 51 g1 0 l.length)),(51,g1,⟨5,1,BY l⟩)])
   (fun r h=>r=.tup []∧∃ p' g',(p'=J34∨p'=.op 50 g 0 0)∧h=hp [(50,g,bldB p' (.own 51 g' 0 (l++eqsL w qs).length)),(51,g',⟨5,1,BY (l++eqsL w qs)⟩)]):=by
 refine J4n (E:=E 0) J4L (JKl 0) Tryz.func285 rfl (by rfl) (Nat.le_of_ble_eq_true rfl) ?_;have hml:=@List.length_map _ _ qs J0m;generalize hR:l++eqsL w qs=R;(refine kWQ ?_;repeat intro γ)
 refine LoopP.intro (fun k σ H=>∃ p' g1 i,∃ t:List UInt8,k=qs.length-i∧i≤qs.length∧t.length≤i*2^36+2^46∧(p'=J34∨p'=.op 50 g 0 0)∧t++eqsL w (qs.drop i)=R ∧
   σ=fr [(0,encS w),(2,.op 50 g 0 0),(7,.sl 9 (qs.map J0m)),(8,encI qs.length),(9,encI i)] ∧
   H=hp [(50,g,bldB p' (.own 51 g1 0 t.length)),(51,g1,⟨5,1,BY t⟩)]) ?_ ?_
 ·exact .intro (W.of ⟨_,p,g1,0,l,rfl,Nat.zero_le _,by omega,hpf,hR,rfl,rfl⟩ ⟨rfl,rfl,rfl,rfl,rfl,trivial⟩ ⟨rfl,rfl,trivial⟩)
 ·rintro k σ H ⟨p',g1,i,t,rfl,hi,ht,hpf,hT,rfl,rfl⟩
  rcases Nat.lt_or_ge i qs.length with h1|h1
  ·rw[List.drop_eq_getElem_cons h1] at hT;have hqi:=hq _ (List.getElem_mem h1);have hs1:=JEB _ hqi.l.1 hqi.l.2.1 hqi.l.2.2.1 hqi.l.2.2.2;have hs2:=JEB _ hqi.r.1 hqi.r.2.1 hqi.r.2.2.1 hqi.r.2.2.2;have hz:=JHG hw hqi;have hz1:=J2r hqi.l.2.1 hqi.l.2.2.1 hqi.l.2.2.2;have hz2:=J2r hqi.r.2.1 hqi.r.2.2.1 hqi.r.2.2.2;have hzn:=hqi.n;rw[J0R] at hs1 hs2;(refine kWO ?_;repeat intro γ)
   (simp (disch:=omega) only [LG];refine kW ?_)
   (refine kO ?_;repeat intro γ);generalize qs[i]=q at *;obtain ⟨qn,ql,qr⟩:=q;simp only at hs1 hs2 hz1 hz2 hzn;unfold eqsL at hT;unfold eqF at hT hz;simp only[b1] at hT hz;generalize showF ql=sl at *;generalize showF qr=sr at *;have z1:({ data:=#[32] }:ByteArray).size=1:=rfl;have z2:({ data:=#[10] }:ByteArray).size=1:=rfl;have y1:=J0G w { data:=#[32] };have y2:=J0G (w++{ data:=#[32] }) qn;have y3:=J0G (w++{ data:=#[32] }++qn) { data:=#[32] };have y4:=J0G (w++{ data:=#[32] }++qn++{ data:=#[32] }) sl;have y5:=J0G (w++{ data:=#[32] }++qn++{ data:=#[32] }++sl) { data:=#[32] };have y6:=J0G (w++{ data:=#[32] }++qn++{ data:=#[32] }++sl++{ data:=#[32] }) sr;have y7:=J0G (w++{ data:=#[32] }++qn++{ data:=#[32] }++sl++{ data:=#[32] }++sr) { data:=#[10] };refine J1Z [(16,false),(17,true)] (by kernel_rfl) ?_;(refine kWQ ?_;repeat intro γ);refine CallG.intro _ c128 hs1 ?_;(refine kWQ ?_;repeat intro γ);refine CallG.intro _ c128 hs2 ?_;(refine kWQ ?_;repeat intro γ);refine JHp (b:=50) (g:=g) (d:=51) (g0:=g1) (p:=p') (l:=t) (w++{ data:=#[32] }++qn++{ data:=#[32] }++sl++{ data:=#[32] }++sr++{ data:=#[10] }) (by kernel_rfl) rfl hpf rfl (by decide) (by omega) fun γ=>⟨[(6,_,⟨58,9,[J0m ⟨qn,ql,qr⟩]⟩),(50,g,_),(51,γ,_)],⟨rfl,rfl,rfl,trivial⟩,?_⟩;(refine kWQ ?_;repeat intro γ);obtain ⟨z,hzz⟩:∃ z,w++{ data:=#[32] }++qn++{ data:=#[32] }++sl++{ data:=#[32] }++sr++{ data:=#[10] }=z:=⟨_,rfl⟩;rw[hzz] at hT hz ⊢;have hzl:z.data.toList.length=z.size:=rfl
   refine .intro <| W.of ⟨_,by omega,.op 50 g 0 0,γ,i+1,t++z.data.toList,rfl,h1,by rw[List.length_append,hzl];omega,.inr rfl,by rw[List.append_assoc];exact hT,rfl,rfl⟩ ⟨rfl,rfl,rfl,rfl,rfl,trivial⟩ ⟨rfl,rfl,trivial⟩
  ·rw[List.drop_eq_nil_of_le h1] at hT;(refine kWQ ?_;repeat intro γ);refine EndH.of (m:=[(50,g,bldB p' (.own 51 g1 0 t.length)),(51,g1,⟨5,1,BY t⟩)]) ⟨rfl,rfl,trivial⟩ ⟨rfl,p',g1,hpf,?_⟩;rw[← hT];unfold eqsL;rw[List.append_nil]
def ExOk (e:Ex):Prop:=SzE e∧TxE e∧builtF e=true∧wtF e≤1000
structure AcOk (a:Ac):Prop where
 k:0≤a.kind∧a.kind≤1
 n:a.var.size<2^35
 e:ExOk a.value
structure WnOk (w:Whn):Prop where
 n:w.name.size<2^35
 e:ExOk w.cond
 l:w.acts.length≤20
 a:∀ a∈w.acts,AcOk a
structure VaOk (v:Va):Prop where
 s:v.name.size<2^35∧v.value.size<2^35∧v.start.size<2^35∧v.unit.size<2^35
 k:0≤v.kind∧v.kind≤3
 t:0≤v.type∧v.type≤1
structure TextOk (s:Sys):Prop where
 lv:s.vars.length≤120
 lq:s.eqs.length≤120
 ln:s.inits.length≤120
 lw:s.whens.length≤120
 v:∀ v∈s.vars,VaOk v
 q:∀ q∈s.eqs,QnOk q
 n:∀ q∈s.inits,QnOk q
 w:∀ w∈s.whens,WnOk w
theorem CallP.eqs {S:Blk}{gs g g1:Nat}{p:AV}(hpf:p=J34∨p=.op 3 g 0 0)(w:ByteArray)(hw:w.size≤10){qs:List Eqn}(hq:∀ q∈qs,QnOk q)(hn:qs.length≤120){t:List UInt8}(ht:t.length≤2^46){args:List AV}{C:AV→Hp→Prop}
  (ha:args=[encS w,.sl 9 (qs.map J0m),.op 3 g 0 0])
  (hC:∀ p' g',(p'=J34∨p'=.op 3 g 0 0)→C (.tup []) (hp [(1,gs,S),(3,g,bldB p' (.own 100 g' 0 (t++eqsL w qs).length)),(100,g',⟨5,1,BY (t++eqsL w qs)⟩)])) :
  CallP (E 0) 285 args (hp [(1,gs,S),(3,g,bldB p (.own 100 g1 0 t.length)),(100,g1,⟨5,1,BY t⟩)]) C:=by
 subst ha
 have key:∀ p0,(p0=J34∨p0=.op 50 g 0 0)→p=mv (fun b=>some (fwd 1000000 [(50,3),(51,100)] b)) 2 p0→CallP (E 0) 285 [encS w,.sl 9 (qs.map J0m),.op 3 g 0 0] (hp [(1,gs,S),(3,g,bldB p (.own 100 g1 0 t.length)),(100,g1,⟨5,1,BY t⟩)]) C:=by
  intro p0 h0 hp0;refine CallP.frame 1000000 [(50,3),(51,100)] rfl c285 (JGY w hw qs hq hn p0 g g1 h0 t ht) rfl ⟨?_,J1x (fun b:UInt8=>AV.val (.int .u8 (b.toNat:Int))) _ (fun _=>rfl) ..,trivial⟩ ?_
  ·rcases h0 with rfl | rfl
   ·subst hp0;rfl
   ·subst hp0;rfl
  ·rintro r0 h' ⟨rfl,p',g',h2,rfl⟩;refine ⟨[(1,gs,S),(3,g,bldB (mv (fun b=>some (fwd 1000000 [(50,3),(51,100)] b)) 2 p') (.own 100 g' 0 (t++eqsL w qs).length)),(100,g',⟨5,1,BY (t++eqsL w qs)⟩)],⟨rfl,rfl,J1x (fun b:UInt8=>AV.val (.int .u8 (b.toNat:Int))) _ (fun _=>rfl) ..,trivial⟩,hC _ _ ?_⟩
   rcases h2 with rfl|rfl
   ·exact .inl rfl
   ·exact .inr rfl
 rcases hpf with rfl|rfl
 ·exact key J34 (.inl rfl) rfl
 ·exact key (.op 50 g 0 0) (.inr rfl) rfl
def lenV (v:Va):Nat:=v.name.size+v.value.size+v.start.size+v.unit.size
def JCx:List Va→Nat
 |[]=>0
 |v::r=>lenV v+JCx r
def greatS (s:Sys):Bool:=decide (40000<JCx s.vars)||decide (200<s.vars.length)||decide (200<s.eqs.length)||decide (200<s.inits.length)||decide (200<s.whens.length)
theorem JG6 (s:Sys)(hs:SzS s)(hl:s.vars.length≤2^20):PX 22 [J0Q s] (encB (greatS s)):=by
 refine PZ Tryz.func22 rfl ?_;have ht:=hs.t;generalize hF:greatS s=F;unfold greatS at hF;obtain ⟨vs,qs,ns,ws⟩:=s;simp only at hl ht hF;unfold J0Q;simp only;have mv:=@List.length_map _ _ vs encV;have mq:=@List.length_map _ _ qs J0m;have mn:=@List.length_map _ _ ns J0m;have mw:=@List.length_map _ _ ws J1Q;obtain ⟨S,hS⟩:∃ z,JCx vs=z:=⟨_,rfl⟩;rw[hS] at hF;refine kWQ ?_;intros
 refine LoopP.intro (fun k σ H=>∃ gs i,∃ t:Nat,k=vs.length-i∧i≤vs.length∧t≤i*2^38∧t+JCx (vs.drop i)=S ∧
   σ=fr [(1,.op 1 gs 0 0),(3,encI t),(4,encI i)] ∧
   H=hp [(1,gs,⟨26,4,[.agg [.sl 7 (vs.map encV),.sl 9 (qs.map J0m),.sl 9 (ns.map J0m),.sl 6 (ws.map J1Q)]]⟩)]) ?_ ?_
 ·exact .intro (W.of ⟨_,_,0,0,rfl,Nat.zero_le _,Nat.zero_le _,by rw[Nat.zero_add];exact hS,rfl,rfl⟩ ⟨rfl,rfl,rfl,trivial⟩ ⟨rfl,trivial⟩)
 rintro k σ H ⟨gs,i,t,rfl,hi,htt,hT,rfl,rfl⟩
 rcases Nat.lt_or_ge i vs.length with h1|h1
 ·rw[List.drop_eq_getElem_cons h1] at hT;have hvi:=ht _ (List.getElem_mem h1);unfold JCx lenV at hT;obtain ⟨q1,q2,q3,q4⟩:=hvi;refine kWQ ?_;intros
  refine .intro <| W.of ⟨_,by omega,gs,i+1,t+(vs[i].name.size+vs[i].value.size+vs[i].start.size+vs[i].unit.size),rfl,h1,by omega,by omega,rfl,rfl⟩ ⟨rfl,?_,rfl,trivial⟩ ⟨rfl,trivial⟩
  exact congrArg encI (by push_cast;omega)
 ·rw[List.drop_eq_nil_of_le h1] at hT;unfold JCx at hT;rw[Nat.add_zero] at hT;subst hT;refine kWO ?_;intros;refine CondP.dec (fun c1=>?_) (fun c1=>?_)<;>refine kW ?_
  ·refine kQ ?_;intros;have e:F=true:=by rw[← hF];simp only[Bool.or_eq_true,decide_eq_true_eq];omega
   exact .of (by rw[e];rfl)
  refine kQ ?_;intros;refine CondP.dec (fun c2=>?_) (fun c2=>?_)<;>refine kW ?_
  ·refine kQ ?_;intros;have e:F=true:=by rw[← hF];simp only[Bool.or_eq_true,decide_eq_true_eq];omega
   exact .of (by rw[e];rfl)
  refine kQ ?_;intros;refine CondP.dec (fun c3=>?_) (fun c3=>?_)<;>refine kW ?_
  ·refine kQ ?_;intros;have e:F=true:=by rw[← hF];simp only[Bool.or_eq_true,decide_eq_true_eq];omega
   exact .of (by rw[e];rfl)
  refine kQ ?_;intros;refine CondP.dec (fun c4=>?_) (fun c4=>?_)<;>refine kW ?_
  ·refine kQ ?_;intros;have e:F=true:=by rw[← hF];simp only[Bool.or_eq_true,decide_eq_true_eq];omega
   exact .of (by rw[e];rfl)
  refine kQ ?_;intros;refine .of ?_;rw[decide_eq_false (by omega),decide_eq_false (by omega),decide_eq_false (by omega),decide_eq_false (by omega)] at hF;simp only[Bool.false_or] at hF;rw[← hF];exact congrArg encB (decide_eq_decide.2 (by omega))
theorem J8l {q:Rat}(h:shortV (.num q)=true):okR (q.num,q.den):=by
 have h:(decide (nd q.num≤300)&&decide (nd q.den≤300))=true:=h;simp only[Bool.and_eq_true,decide_eq_true_eq] at h;exact ⟨JJW q,q.reduced,h.1,h.2⟩
theorem JE3 {q:Rat}(h:shortV (.num q)=true):(J08 (strV (.num q)).data.toList).2=true∧(strV (.num q)).size<2^35:=by
 have hk:=J8l h
 have e:(strV (.num q)).data.toList=(rT q.num q.den).map UInt8.ofNat:=by
  show ((qT q.num q.den).map UInt8.ofNat).toArray.toList=_
  rw[JK7]
 have hr:=JBS _ _ hk;constructor
 ·rw[e,(J4A _).1,hr];rfl
 ·have hl:(strV (.num q)).size=(rT q.num q.den).length:=by
   show (strV (.num q)).data.toList.length=_
   rw[e,List.length_map]
  obtain ⟨_,_,h3,h4⟩:=hk;have h3:(decT q.num.natAbs).length≤300:=h3;have h4:(decT q.den).length≤300:=h4;rw[hl,JGj];split<;>split<;>simp only[List.length_cons,List.length_append,List.length_nil]<;>omega
theorem JHk (t:ByteArray)(ht:t.size<2^35):PX 60 [encS t] (encB (J08 t.data.toList).2):=by
 refine PZ Tryz.func60 rfl ?_;have hpq:=J1R t.data.toList ht;rw[J0v,J6m] at hpq;have hq2:=J1M (J08 t.data.toList).1;generalize qAV (J08 t.data.toList).1=q at *;generalize (J08 t.data.toList).2=ok at *
 rcases hq2 with rfl|⟨n,d,rfl⟩
 all_goals
  refine kWS ?_;intros;refine J00 [] _ c134 hpq ?_;refine kWS ?_;intros;exact .of rfl
def isQ (t:ByteArray):Bool:=(J08 t.data.toList).2
def toldQ (q:Rat):ByteArray×Int:=if shortV (.num q) then (strV (.num q),0) else (⟨#[]⟩,2)
theorem JIh (q:Rat)(h:szq q<2^36):PX 164 [encF q] (.tup [encS (toldQ q).1,encI (toldQ q).2]):=by
 refine PZ Tryz.func164 rfl ?_;have a1:=J0n q;have a2:=J0x q;have h1:=J3s q.num q.den (by omega) (by omega);have h2:=J31 q.num q.den (by omega) (by omega);have hF:(if shortV (.num q)=true then (strV (.num q),(0:Int)) else (⟨#[]⟩,2))=toldQ q:=rfl;unfold shortV strV at hF;simp only at hF;generalize toldQ q=F at *;unfold encF encQ at *;generalize (decide (nd q.num≤300)&&decide (nd q.den≤300))=sh at *;refine kWS ?_;intros;refine CallP.flat [] _ c151 h1 rfl ?_
 cases sh with
 |true=>
   rw[if_pos rfl] at hF;refine kWS ?_;intros;refine CallP.flat [] _ c150 h2 rfl ?_;refine kWS ?_;intros;exact .of (by rw[← hF];rfl)
 |false=>
   rw[if_neg (by decide)] at hF;refine kWS ?_;intros;exact .of (by rw[← hF];rfl)
def J3D (l:List ByteArray):AV:=.tup (if l.all isQ=true then [.sl 4 ((l.map numV).map encF),encB true] else [.val (.slice none 0 0),encB false])
theorem endF {S:List Nat}{H:Hp}{k:Nat}{L:List AV}{n:Nat}{xs:List Rat}(h:L=xs.map encF)(hn:n=xs.length):AV.sl 4 (((L.drop 0).take n).map (J0N (J05 S H k)))=.sl 4 (xs.map encF):=by
 subst h;rw[J19 _ _ _ _ hn fun x=>by cases k<;>rfl]
theorem JET (l:List ByteArray)(hn:l.length≤2^40)(hl:∀ t∈l,t.size<2^35):PX 163 [.sl 1 (l.map encS)] (J3D l):=by
 refine PC [25] Tryz.func163 rfl (by rfl) rfl ?_;have hml:=@List.length_map _ _ l encS;(refine kWQ ?_;repeat intro γ)
 refine LoopP.intro (fun k σ H=>∃ g i,k=l.length-i∧i≤l.length∧(∀ t∈l.take i,isQ t=true)∧σ=fr [(4,.own 25 g 0 i),(9,.sl 1 (l.map encS)),(10,encI l.length),(11,encI i)] ∧
  H=hp [(25,g,⟨104,4,((l.take i).map numV).map encF⟩)]) ?_ ?_
 ·exact .intro (J9j 4 25 104 4 rfl rfl fun g=>W.of ⟨_,g,0,rfl,Nat.zero_le _,(fun t h=>by cases h),rfl,rfl⟩ ⟨rfl,rfl,(by first|rfl|exact congrArg (fun n:Nat=>encI n) hml),rfl,trivial⟩ ⟨rfl,trivial⟩)
 rintro k σ H ⟨g,i,rfl,hi,hall,rfl,rfl⟩;have hlt:((l.take i).map numV).length=i:=by simp;omega
 rcases Nat.lt_or_ge i l.length with h9|h9
 ·obtain ⟨t,htt⟩:∃ t,l[i]=t:=⟨_,rfl⟩;have hm:t∈l:=htt ▸ List.getElem_mem h9;have hpq:=J1R t.data.toList (hl t hm);rw[J0v,J6m] at hpq
  cases hok:(J08 t.data.toList).2 with
  |true=>
    rw[← (J0y hok).1,hok] at hpq;have e1:((l.take (i+1)).map numV).map encF=((l.take i).map numV).map encF++[encF (numV t)]:=by rw[List.take_succ_eq_append_getElem h9,htt];simp
    have hall':∀ u∈l.take (i+1),isQ u=true:=by
     intro u hu;rw[List.take_succ_eq_append_getElem h9,htt] at hu
     rcases List.mem_append.1 hu with hu|hu
     ·exact hall u hu
     ·rcases List.mem_singleton.1 hu with rfl
      exact hok
    generalize numV t=q at *;unfold encF encQ at hpq;(refine kWQ ?_;repeat intro γ);simp only[htt];(refine kQ ?_;repeat intro γ);refine J00 [] _ c134 hpq ?_;(refine kWQ ?_;repeat intro γ)
    refine .intro <| W.of ⟨_,by omega,γ,i+1,rfl,h9,hall',rfl,rfl⟩ ⟨rfl,rfl,rfl,rfl,trivial⟩ ⟨?_,trivial⟩
    exact Eq.trans rfl (congrArg (fun z=>some (γ,(⟨104,4,z⟩:Blk))) e1.symm)
  |false=>
    rw[hok] at hpq;have hq2:=J1M (J08 t.data.toList).1;generalize qAV (J08 t.data.toList).1=q at *
    have hF:J3D l=.tup [.val (.slice none 0 0),encB false]:=by
     unfold J3D;rw[if_neg];intro h;have:=List.all_eq_true.1 h t hm;unfold isQ at this;rw[hok] at this;cases this
    rw[hF]
    rcases hq2 with rfl|⟨n,d,rfl⟩
    all_goals
     (refine kWQ ?_;repeat intro γ);simp only[htt];(refine kQ ?_;repeat intro γ);refine J00 [] _ c134 hpq ?_;(refine kWQ ?_;repeat intro γ);exact .of rfl
 ·obtain rfl:i=l.length:=by omega
  rw[List.take_length] at *
  have hF:J3D l=.tup [.sl 4 ((l.map numV).map encF),encB true]:=by
   unfold J3D;rw[if_pos (List.all_eq_true.2 hall)]
  rw[hF];(refine kWQ ?_;repeat intro γ);exact .of (congrArg (fun z=>AV.tup [z,encB true]) (endF rfl (by simp)))
def twoF (f:Rat→Rat→Rat)(a b:ByteArray):ByteArray×Int:=if isQ a=true∧isQ b=true then toldQ (f (numV a) (numV b)) else (⟨#[]⟩,1)
theorem JBE {k:Nat}(hc:J03 Tryz.prog k)(f:Rat→Rat→Rat)(a b:ByteArray)(ha:a.size<2^35)(hb:b.size<2^35)
  (hk:isQ a=true→isQ b=true→PX k [encF (numV a),encF (numV b)] (encF (f (numV a) (numV b)))∧szq (f (numV a) (numV b))<2^36) :
  PX 78 [encS a,encS b,.fn (.func k) [] []] (.tup [encS (twoF f a b).1,encI (twoF f a b).2]):=by
 refine PZ Tryz.func78 rfl ?_;have hP:=JET [a,b] (by simp) (by intro t ht;simp at ht;rcases ht with rfl|rfl<;>assumption)
 by_cases h:isQ a=true∧isQ b=true
 ·obtain ⟨h1,h2⟩:=hk h.1 h.2;have hF:toldQ (f (numV a) (numV b))=twoF f a b:=by unfold twoF;rw[if_pos h]
  have h3:=JIh _ h2;rw[hF] at h3
  have hP:PX 163 [.sl 1 ([a,b].map encS)] (.tup [.sl 4 [encF (numV a),encF (numV b)],encB true]):=by
   unfold J3D at hP;rw[if_pos (by simp[h.1,h.2])] at hP;exact hP
  generalize twoF f a b=F at *;generalize f (numV a) (numV b)=z at *;generalize numV a=x at *;generalize numV b=y at *;clear hk h hF h2;unfold encF encQ at *;refine kWQ ?_;intros;refine J00 [13] _ c163 (J04 (congrArg (fun z=>[z]) (ownS (out:=[a,b]) rfl rfl)) hP) ?_;refine kWQ ?_;intros;refine CallG.intro _ hc h1 ?_;refine kWQ ?_;intros;refine CallG.intro _ c164 h3 ?_;refine kWQ ?_;intros;exact .of rfl
 ·have hF:(⟨#[]⟩,(1:Int))=twoF f a b:=by unfold twoF;rw[if_neg h]
  have hP:PX 163 [.sl 1 ([a,b].map encS)] (.tup [.val (.slice none 0 0),encB false]):=by
   unfold J3D at hP;rw[if_neg (by simpa using h)] at hP;exact hP
  generalize twoF f a b=F at *;clear hk;refine kWQ ?_;intros;refine J00 [13] _ c163 (J04 (congrArg (fun z=>[z]) (ownS (out:=[a,b]) rfl rfl)) hP) ?_;refine kWQ ?_;intros;exact .of (by rw[← hF];rfl)
theorem J9o (a b:ByteArray)(ha:a.size<2^35)(hb:b.size<2^35):PX 26 [encS a,encS b] (.tup [encS (twoF (· + ·) a b).1,encI (twoF (· + ·) a b).2]):=by
 refine PZ Tryz.func26 rfl ?_
 have h:=JBE c79 (· + ·) a b ha hb fun h1 h2=>by
  have q1:=(J0y h1).2;have q2:=(J0y h2).2;have q3:=JAH (numV a) (numV b);exact ⟨JB7 _ _ (by omega),by show szq (numV a+numV b)<_;omega⟩
 generalize twoF (· + ·) a b=F at *;refine kWQ ?_;intros;refine CallP.flat [] _ c78 h rfl ?_;refine kWQ ?_;intros;exact .of rfl
theorem J6E (a b:ByteArray)(ha:a.size<2^35)(hb:b.size<2^35):PX 27 [encS a,encS b] (.tup [encS (twoF (· - ·) a b).1,encI (twoF (· - ·) a b).2]):=by
 refine PZ Tryz.func27 rfl ?_
 have h:=JBE c80 (· - ·) a b ha hb fun h1 h2=>by
  have q1:=(J0y h1).2;have q2:=(J0y h2).2;have q3:=JAF (numV a) (numV b);exact ⟨J8H _ _ (by omega),by show szq (numV a-numV b)<_;omega⟩
 generalize twoF (· - ·) a b=F at *;refine kWQ ?_;intros;refine CallP.flat [] _ c78 h rfl ?_;refine kWQ ?_;intros;exact .of rfl
theorem J6F (a b:ByteArray)(ha:a.size<2^35)(hb:b.size<2^35):PX 97 [encS a,encS b] (.tup [encS (twoF (· * ·) a b).1,encI (twoF (· * ·) a b).2]):=by
 refine PZ Tryz.func97 rfl ?_
 have h:=JBE c186 (· * ·) a b ha hb fun h1 h2=>by
  have q1:=(J0y h1).2;have q2:=(J0y h2).2;have q3:=JE1 (numV a) (numV b);exact ⟨JG0 _ _ (by omega),by show szq (numV a*numV b)<_;omega⟩
 generalize twoF (· * ·) a b=F at *;refine kWQ ?_;intros;refine CallP.flat [] _ c78 h rfl ?_;refine kWQ ?_;intros;exact .of rfl
theorem JGq {b:ByteArray}(h:isQ b=true)(h0:numV b=0):b=⟨#[48]⟩:=by
 unfold isQ at h;obtain ⟨n,d,e1,hd,hg,_,_⟩:=JBV h;unfold numV at h0;rw[e1] at h0;replace h0:Rat.divInt n d=0:=h0
 have hn:n=0:=by
  have:=(J20 n d hd).1;rw[h0,hg] at this
  simpa using this.symm
 subst hn;have hd1:d=1:=by simp at hg;omega
 subst hd1
 have key:b.data.toList=[48]:=by
  generalize b.data.toList=l at *;unfold J08 at e1 h
  cases hp:J1U (J07 l).1 with
  |none=>rw[hp] at h;cases h
  |some m=>
    rw[hp] at e1 h;simp only at e1 h
    cases hs:(J07 l).2.2 with
    |true=>
      rw[hs] at e1 h;simp only at e1 h
      cases hq:J1U (J07 l).2.1 with
      |none=>rw[hq] at h;cases h
      |some d'=>
        rw[hq] at e1 h;simp only at e1 h
        by_cases hd':d'≤1
        ·rw[if_pos hd'] at h;cases h
        ·rw[if_neg hd'] at e1;cases e1;omega
    |false =>
      rw[hs] at e1;simp only at e1;cases e1;obtain ⟨p1,p2,p3,p4,p5⟩:=J4B l
      have hle:l.length≤(J07 l).1.length:=by
       rcases Nat.lt_or_ge (J07 l).1.length l.length with h'|h'
       ·rw[(p4 h').1] at hs;cases hs
       ·exact h'
      have hpl:(J07 l).1=l:=by rw[p2];exact List.take_of_length_le hle
      rw[hpl] at hp;unfold J1U at hp;split at hp
      ·split at hp
       ·rename_i t hk;have e:=Option.some.inj hp;exact absurd ⟨rfl,by omega⟩ ((J1u true t).1 hk).2
       ·cases hp
      ·split at hp
       ·rename_i hk;have h1:=((J1u false _).1 hk).1
        have h2:decU l=0:=by
         have:=Option.some.inj hp;omega
        exact (J9M h1).1 h2
       ·cases hp
 obtain ⟨⟨l⟩⟩:=b;simp at key;subst key;rfl
def divT (a b:ByteArray):ByteArray×Int:=if b=⟨#[48]⟩∧isQ a=true then (⟨#[]⟩,12) else twoF (· / ·) a b
theorem JFw (a b:ByteArray)(ha:a.size<2^35)(hb:b.size<2^35):PX 98 [encS a,encS b] (.tup [encS (divT a b).1,encI (divT a b).2]):=by
 refine PZ Tryz.func98 rfl ?_;have hI:=JHk a ha
 have h:¬ (b=⟨#[48]⟩∧isQ a=true)→PX 78 [encS a,encS b,.fn (.func 149) [] []] (.tup [encS (twoF (· / ·) a b).1,encI (twoF (· / ·) a b).2]):=fun hne=>JBE c149 (· / ·) a b ha hb fun h1 h2=>by
  have h0:numV b≠0:=fun e=>hne ⟨JGq h2 e,h1⟩;have q1:=(J0y h1).2;have q2:=(J0y h2).2;have q3:=JE2 (numV a) (numV b) h0;exact ⟨JB3 _ _ (by omega) h0,by show szq (numV a/numV b)<_;omega⟩
 have hF:(if b=⟨#[48]⟩∧isQ a=true then (⟨#[]⟩,12) else twoF (· / ·) a b)=divT a b:=rfl;generalize divT a b=F at *;generalize twoF (· / ·) a b=G at *;have hI:PX 60 [encS a] (encB (isQ a)):=hI;generalize isQ a=qa at *
 by_cases h1:b=⟨#[48]⟩
 ·subst h1
  cases qa with
  |true=>
    rw[if_pos ⟨rfl,rfl⟩] at hF;refine kWQ ?_;intros
    (repeat (simp only[beq_self_eq_true,decide_true];refine kQ ?_;intros))
    refine CallP.flat [] _ c60 hI rfl ?_;refine kWQ ?_;intros;exact .of (by rw[← hF];rfl)
  |false=>
    have h:=h (by simp);rw[if_neg (by simp)] at hF;refine kWQ ?_;intros
    (repeat (simp only[beq_self_eq_true,decide_true];refine kQ ?_;intros))
    refine CallP.flat [] _ c60 hI rfl ?_;refine kWQ ?_;intros;refine CallP.flat [] _ c78 h rfl ?_;refine kWQ ?_;intros;exact .of (by rw[← hF];rfl)
 ·have h:=h (fun k=>h1 k.1);rw[if_neg (fun k=>h1 k.1)] at hF;refine kWQ ?_;intros;refine CallP.flat [] _ c78 h rfl ?_;refine kWQ ?_;intros;exact .of (by rw[← hF];rfl)
structure G where
 eqs:List ByteArray
 uses:List U
 joined:List (List Int)
def J2M (l:List U):AV:=.sl 3 (l.map encU)
theorem J8r (s:Sys)(hv:s.vars.length≤2^60):PX 68 [J0Q s] (encK (knownF s.vars)):=by
 refine PC [6] Tryz.func68 rfl (by rfl) rfl ?_;obtain ⟨vs,qs,ns,ws⟩:=s;simp only at hv ⊢;generalize hF:knownF vs=F;unfold knownF at hF;unfold J0Q;refine kWS ?_;intros
 refine LoopP.intro (fun k σ H=>∃ g i,∃ l:List (ByteArray×Va),k=vs.length-i∧i≤vs.length∧(vs.drop i).foldl (fun l v=>putK l v.name v) l=F ∧
  σ=fr [(2,.val (.map none)),(3,.om 6 g),(8,.sl 7 (vs.map encV)),(9,encI vs.length),(10,encI i)] ∧
  H=hp [(6,g,⟨109,0,[encK l]⟩)]) ?_ ?_
 ·refine .intro <| W.of ⟨_,_,0,[],rfl,Nat.zero_le _,hF,rfl,rfl⟩ ⟨rfl,rfl,rfl,?_,rfl,trivial⟩ ⟨rfl,trivial⟩
  show AV.val (.int .i64 _)=AV.val (.int .i64 _)
  rw[List.length_map]
 ·clear hF;rintro k σ H ⟨g,i,l,rfl,hi,hF,rfl,rfl⟩;refine kWS ?_;intros;refine CondP.dec (fun h=>?_) (fun h=>?_)<;>refine kW ?_
  ·have hi':i<vs.length:=by omega
   rw[List.drop_eq_getElem_cons hi',List.foldl_cons] at hF;refine kR ?_;intros;generalize vs[i]=v at hF ⊢;refine kR ?_;intros;refine Need.intro keyst9 ?_;refine kWR ?_;intros;obtain ⟨r,hr,hm⟩:=JAX encV v.name v l;refine LookP.intro r hr ?_
   cases r with
   |some j=>
     refine kWR ?_;intros
     refine .intro <| W.of ⟨_,by omega,_,i+1,putK l v.name v,rfl,hi',hF,rfl,rfl⟩ ⟨rfl,rfl,rfl,rfl,rfl,trivial⟩ ⟨?_,trivial⟩
     exact congrArg (fun z=>some (g,(⟨109,0,[z]⟩:Blk))) (congr (congrArg AV.mp hm.1) hm.2)
   |none=>
     refine kWR ?_;intros
     refine .intro <| W.of ⟨_,by omega,_,i+1,putK l v.name v,rfl,hi',hF,rfl,rfl⟩ ⟨rfl,rfl,rfl,rfl,rfl,trivial⟩ ⟨?_,trivial⟩
     exact congrArg (fun z=>some (g,(⟨109,0,[z]⟩:Blk))) (congr (congrArg AV.mp hm.1) hm.2)
  ·rw[List.drop_eq_nil_of_le (by omega)] at hF;refine kS ?_;intros;exact .of (by rw[← hF];rfl)
def unkB (ks:List (ByteArray×Va))(p:Option U)(u:U):Bool:=(match J0f ks u.name with
    |some v=>decide (v.kind=0)
    |none=>false)&&(!u.pre&&(fitF u&&!J3F p u))
def unkL (ks:List (ByteArray×Va)):Option U→List U→Bool
 |_,[]=>true
 |p,u::r=>unkB ks p u&&unkL ks (some u) r
def unkF (ks:List (ByteArray×Va))(l:List U):Bool:=unkL ks none l&&decide (l.length≤400)
def prvU (l:List U)(i:Nat):Option U:=match i with
 |0=>none
 |i+1=>l[i]?
theorem J6s {u:U}(h:fitF u=true):0≤u.order∧u.order≤6:=by
 unfold fitF at h;simp only[Bool.and_eq_true,decide_eq_true_eq] at h;exact h.1.2
theorem JDq (ks:List (ByteArray×Va))(p:Option U)(u:U)(r:List U):unkL ks p (u::r)=(unkB ks p u&&unkL ks (some u) r):=rfl
theorem JAC (ks:List (ByteArray×Va))(l:List U)(hl:l.length≤2^60)(hz:∀ u∈l,u.name.size<2^35):PX 135 [encK ks,J2M l] (encB (unkF ks l)):=by
 refine PZ Tryz.func135 rfl ?_;generalize hF:unkF ks l=F;unfold unkF at hF;unfold J2M;have hml:=@List.length_map _ _ l encU;refine kWQ ?_;intros
 refine LoopP.intro (fun k σ H=>∃ i,k=l.length-i∧i≤l.length∧(∀ j (h:j<l.length),j<i→fitF l[j]=true)∧(unkL ks (prvU l i) (l.drop i)&&decide (l.length≤400))=F ∧
   σ=fr [(0,encK ks),(1,.sl 3 (l.map encU)),(9,.sl 3 (l.map encU)),(10,encI l.length),(11,encI i)]∧H=hp []) ?_ ?_
 ·exact .intro (W.of ⟨_,0,rfl,Nat.zero_le _,fun j h h'=>absurd h' (by omega),hF,rfl,rfl⟩ ⟨rfl,rfl,rfl,by first|rfl|exact congrArg (fun n:Nat=>encI n) hml,rfl,trivial⟩ trivial)
 clear hF;rintro k σ H ⟨i,rfl,hi,hfit,hT,rfl,rfl⟩
 rcases Nat.lt_or_ge i l.length with h2|h2
 ·rw[List.drop_eq_getElem_cons h2,JDq] at hT;have hbz:=hz _ (List.getElem_mem h2);have hnx:prvU l (i+1)=some l[i]:=List.getElem?_eq_getElem h2;obtain ⟨u,huu⟩:∃ u,l[i]=u:=⟨_,rfl⟩;rw[huu] at hT hbz hnx
  have hfx:∀ k (h:k<l.length),k<i+1→fitF u=true→fitF l[k]=true:=by
   intro k h hk hf
   rcases Nat.lt_or_ge k i with h'|h'
   ·exact hfit k h h'
   ·obtain rfl:k=i:=by omega
    rw[huu];exact hf
  have hFi:=JIM u hbz;obtain ⟨r2,hr2,hm2⟩:=J1J encV u.name ks;unfold unkB at hT;rw[← hnx] at hT;refine kWQ ?_;intros;simp only[huu,encU];refine kQ ?_;intros;refine Need.intro keyst9 ?_;refine kWQ ?_;intros;refine LookP.intro r2 hr2 ?_
  cases ha:J0f ks u.name with
  |none=>
    rw[ha] at hm2 hT
    cases r2 with
    |some i=>exact hm2.elim
    |none=>
      refine kWQ ?_;intros;exact .of (by rw[← hT];rfl)
  |some v=>
    rw[ha] at hm2 hT
    cases r2 with
    |none=>exact hm2.elim
    |some ii=>
      have hm2:(ks.map fun x=>encV x.2).getD ii .dead=encV v:=hm2;refine kW ?_;rw[hm2];obtain ⟨nm,kd,ty,vl,st,fx,un⟩:=v;simp only at hT
      by_cases k0:kd=0
      case' neg=>
       rw[decide_eq_false k0] at hT;refine kQ ?_;intros;exact .of (by rw[← hT];rfl)
      rw[decide_eq_true k0,Bool.true_and] at hT;obtain ⟨us,uo,up⟩:=u
      cases up with
      |true=>
        refine kQ ?_;intros;exact .of (by rw[← hT];rfl)
      |false=>
      rw[Bool.not_false,Bool.true_and] at hT;refine kQ ?_;intros;refine CallG.intro _ c81 hFi ?_
      cases hf:fitF ⟨us,uo,false⟩ with
      |false=>
        rw[hf] at hT;refine kWQ ?_;intros;exact .of (by rw[← hT];rfl)
      |true=>
      rw[hf,Bool.true_and] at hT;rw[hf] at hfx;have hfit2:=J6s hf
      rcases i with _|k
      ·replace hT:(unkL ks (prvU l 1) (l.drop 1)&&decide (l.length≤400))=F:=hT;refine kWQ ?_;intros
       exact .intro <| W.of ⟨_,by omega,0+1,rfl,h2,fun k h hk=>hfx k h hk rfl,hT,rfl,rfl⟩ ⟨rfl,rfl,rfl,rfl,rfl,trivial⟩ trivial
      ·have h8:k<l.length:=by omega
       have hpv:prvU l (k+1)=some l[k]:=List.getElem?_eq_getElem h8;have hix:(((k+1:Nat):Int)-1).toNat=k:=by omega
       have hfp:=J6s (hfit k h8 (by omega));obtain ⟨pb,hpb⟩:∃ pb,l[k]=pb:=⟨_,rfl⟩;rw[hpb] at hpv hfp;have hL:=JG1 pb ⟨us,uo,false⟩ hfp hfit2;rw[hpv] at hT;refine kWQ ?_;intros;simp only[hix,hpb];refine CallG.intro _ c116 hL ?_
       cases hge:J3F (some pb) ⟨us,uo,false⟩ with
       |true=>
         rw[hge] at hT;have hle:0≤J7l pb ⟨us,uo,false⟩:=of_decide_eq_true hge;refine kWQ ?_;intros;exact .of (by rw[← hT];rfl)
       |false=>
         rw[hge] at hT;have hle:¬ 0≤J7l pb ⟨us,uo,false⟩:=of_decide_eq_false hge;refine kWQ ?_;intros
         exact .intro <| W.of ⟨_,by omega,k+1+1,rfl,h2,fun k h hk=>hfx k h hk rfl,hT,rfl,rfl⟩ ⟨rfl,rfl,rfl,rfl,rfl,trivial⟩ trivial
 ·obtain rfl:i=l.length:=by omega
  rw[List.drop_eq_nil_of_le h2] at hT;refine kWQ ?_;intros;refine .of ?_;rw[← hT];show AV.val (.bool (decide _))=AV.val (.bool (true&&decide _))
  rw[Bool.true_and]
  congr 2
  exact decide_eq_decide.2 (by omega)
def numF (s:Sys)(x:Ex)(l:List U):Int:=if (typeS s x).2≠0 then (typeS s x).2 else if (typeS s x).1≠0 then 7 else if unkF (knownF s.vars) l=false then 1 else 0
theorem J1v (s:Sys)(hs:SzS s)(x:Ex)(hz:SzE x)(hx:TxE x)(l:List U)(hl:l.length≤2^60)(hn:∀ u∈l,u.name.size<2^35):PX 63 [J0Q s,encE x,J2M l] (encI (numF s x l)):=by
 refine PZ Tryz.func63 rfl ?_;have hT:=JC9 s x hs hz hx;have hK:=J8r s hs.v;have hU:=JAC (knownF s.vars) l hl hn;generalize hF:numF s x l=F;unfold numF at hF;generalize unkF (knownF s.vars) l=uk at *;generalize typeS s x=ty at *;obtain ⟨t1,t2⟩:=ty;generalize knownF s.vars=ks at *;obtain ⟨vs,qs,ns,ws⟩:=s;rw[J01] at *;unfold J0Q J2M at *;simp only at *;clear hs hz hx hl hn;refine kWQ ?_;intros;refine CallP.flat [] _ c48 hT rfl ?_
 by_cases h0:t2=0
 case' neg=>
  rw[if_pos h0] at hF;refine kWQ ?_;intros;exact .of (by rw[← hF];rfl)
 rw[if_neg (fun h=>h h0)] at hF
 by_cases h1:t1=0
 case' neg=>
  rw[if_pos h1] at hF;refine kWQ ?_;intros;exact .of (by rw[← hF];rfl)
 rw[if_neg (fun h=>h h1)] at hF;refine kWQ ?_;intros;refine J00 [] _ c68 hK ?_;refine kWQ ?_;intros;refine CallP.flat [] _ c135 hU rfl ?_
 cases uk with
 |false=>
   rw[if_pos rfl] at hF;refine kWQ ?_;intros;exact .of (by rw[← hF];rfl)
 |true=>
   rw[if_neg (by decide)] at hF;refine kWQ ?_;intros;exact .of (by rw[← hF];rfl)
def opE (o:ByteArray)(l:List Ex):Ex:=.mk o ⟨#[]⟩ 0 l
def numE (t:ByteArray):Ex:=.mk oNum t 0 []
def refE (t:ByteArray)(n:Int):Ex:=.mk oVar t n []
def GdE (e:Ex):Prop:=SzE e∧TxE e
theorem J8z {o t:ByteArray}{n:Int}{l:List Ex}(h1:o.size≤100)(h2:t.size≤100)(h3:l.length≤100)(h:∀ e∈l,GdE e):GdE (.mk o t n l):=
 ⟨SzE.mk (by omega) (by omega) (by omega) fun k hk=>(h k hk).1,TxE.mk (by omega) fun k hk=>(h k hk).2⟩
theorem JEZ (s:ByteArray):PX 237 [encS s] (encE (numE s)):=by
 refine J1m (r:=.agg [encS ⟨#[110,117,109]⟩,encS s,encI 0,.val (.slice none 0 0)]) ?_ 3 ?_
 ·refine PZ Tryz.func237 rfl ?_;refine kWQ ?_;intros;exact .of rfl
 ·rw[J01];simp[leN,allB,valB,encS,encI,numE,oNum,oVar,Ex.op,Ex.text,Ex.order,Ex.kids]
theorem JKE (o:ByteArray)(l:List Ex):PX 238 [encS o,.sl 4 (l.map encE)] (.agg [encS o,encS ⟨#[]⟩,encI 0,.sl 4 (l.map encE)]):=by
 refine PZ Tryz.func238 rfl ?_;refine kWQ ?_;intros;exact .of rfl
theorem JL9 {S:List Nat}{H:Hp}{k:Nat}{L:List AV}{n:Nat}{xs:List Ex}(h:L=xs.map encE)(hn:n=xs.length):AV.sl 4 (((L.drop 0).take n).map (J0N (J05 S H k)))=.sl 4 (xs.map encE):=by
 subst h;rw[J19 _ _ _ _ hn fun x=>by rw[J01];cases k<;>rfl]
theorem J1t {b p e n:Nat}{H:Hp}{out:List Ex}(hb:H b=some (p,⟨e,4,out.map encE⟩))(hn:n=out.length):snap [b] H (.own b p 0 n)=.sl 4 (out.map encE):=by
 rw[J2q (by simp) hb (by simp[hn]),J19 _ _ _ _ hn fun v=>by rw[J01];rfl]
theorem JFb (e:Ex):SzE e→wtF e≤1000→PX 92 [encE e] (encE e):=by
 induction e using J1D with
 |h e ih=>
   intro hz hw;have ihk:=fun k hk=>ih k hk (hz.kid k hk) (by have:=JBB hk;omega);have hwt:wtL e.kids≤1000:=by have:=J4N e;omega
   have hlen:e.kids.length≤1000:=Nat.le_trans (J51 _) hwt;clear ih;refine PC [17] Tryz.func92 rfl (by rfl) rfl ?_;rw[J01];obtain ⟨o,t,od,es⟩:=e;simp only[Ex.op,Ex.text,Ex.order,Ex.kids] at *;have hml:=@List.length_map _ _ es encE;(refine kWQ ?_;repeat intro γ)
   refine LoopP.intro (fun j σ H=>∃ g1 g2 gl i,∃ l:List Ex,j=es.length-i∧i≤es.length∧l=es.take i ∧
    σ=fr [(1,.op 1 g1 0 0),(2,.op 2 g2 0 0),(3,.own 17 gl 0 l.length),(7,.sl 4 (es.map encE)),(8,encI es.length),(9,encI i)] ∧
    H=hp [(1,g1,⟨29,4,[.agg [encS o,encS t,encI od,.sl 4 (es.map encE)]]⟩),(2,g2,⟨29,4,[nilE]⟩),(17,gl,⟨29,4,l.map encE⟩)]) ?_ ?_
   ·exact .intro (J9j 3 17 29 4 rfl rfl fun gl=>W.of ⟨_,_,_,gl,0,[],rfl,Nat.zero_le _,rfl,rfl,rfl⟩ ⟨rfl,rfl,rfl,rfl,(by first|rfl|exact congrArg (fun n:Nat=>encI n) hml),rfl,trivial⟩ ⟨rfl,rfl,rfl,trivial⟩)
   rintro j σ H ⟨g1,g2,gl,i,l,rfl,hi,hl,rfl,rfl⟩;have hmt:=@List.length_map _ _ l encE;have htl:l.length=i:=by rw[hl,List.length_take];omega
   rcases Nat.lt_or_ge i es.length with h9|h9
   ·have hk:=ihk _ (List.getElem_mem h9);have htk:es.take (i+1)=l++[es[i]]:=by rw[List.take_succ_eq_append_getElem h9,hl]
    obtain ⟨k,hkk⟩:∃ k,es[i]=k:=⟨_,rfl⟩;rw[hkk] at hk htk;rw[J01] at hk;clear hl;(refine kWQ ?_;repeat intro γ);simp only[hkk,J01];(refine kQ ?_;repeat intro γ);refine J00 [] _ c92 hk ?_;(refine kWQ ?_;repeat intro γ)
    refine .intro <| W.of ⟨_,by omega,g1,g2,γ,i+1,l++[k],rfl,h9,htk.symm,rfl,rfl⟩ ⟨rfl,rfl,?_,rfl,rfl,rfl,trivial⟩ ⟨rfl,rfl,?_,trivial⟩
    ·exact congrArg (AV.own 17 _ 0) (by simp)
    ·have e1:(l++[k]).map encE=l.map encE++[.agg [encS k.op,encS k.text,encI k.order,.sl 4 (k.kids.map encE)]]:=by rw[List.map_append,← J01];rfl
     rw[e1];rfl
   ·obtain rfl:i=es.length:=by omega
    rw[List.take_length] at hl;subst hl;(refine kWQ ?_;repeat intro γ);refine .of ?_;exact congrArg (fun z=>AV.agg [encS o,encS t,encI od,z]) (JL9 rfl rfl)
mutual
def highF:Ex→Bool
 |.mk o t n es=>(decide (o=oVar)&&decide (n=6))||JJC es
def JJC:List Ex→Bool
 |[]=>false
 |e::es=>highF e||JJC es
end
theorem J8v:∀ es:List Ex,JJC es=es.any highF
 |[]=>rfl
 |e::es=>by rw[List.any_cons,← J8v es];rfl
theorem J4m (e:Ex):highF e=((decide (e.op=oVar)&&decide (e.order=6))||e.kids.any highF):=by
 cases e with
 |mk o t n es=>rw[← J8v];rfl
theorem JD0 (e:Ex):SzE e→PX 161 [encE e] (encB (highF e)):=by
 induction e using J1D with
 |h e ih=>
   intro hz;obtain ⟨o,t,od,es⟩:=e;have hC:=J4V 161 highF es hz.len c161 fun k hk=>ih k hk (hz.kid k hk);have hG:highF (.mk o t od es)=((decide (o=oVar)&&decide (od=6))||es.any highF):=J4m _;clear ih;refine PZ Tryz.func161 rfl ?_;obtain ⟨F,hF⟩:∃ F,highF (.mk o t od es)=F:=⟨_,rfl⟩;rw[hF];rw[hG] at hF;clear hG;rw[show encE (.mk o t od es)=.agg [encS o,encS t,encI od,.sl 4 (es.map encE)] from J01 _];generalize es.any highF=an at *
   by_cases h1:o=oVar
   ·rw[decide_eq_true h1,Bool.true_and] at hF
    by_cases h2:od=6
    ·rw[decide_eq_true h2,Bool.true_or] at hF;refine kWS ?_;intros;exact .of (by rw[← hF];rfl)
    ·rw[decide_eq_false h2,Bool.false_or] at hF;refine kWS ?_;intros;refine CallP.flat [] _ c202 hC rfl ?_;refine kWS ?_;intros;exact .of (by rw[← hF];rfl)
   ·rw[decide_eq_false h1,Bool.false_and,Bool.false_or] at hF;refine kWS ?_;intros;refine CallP.flat [] _ c202 hC rfl ?_;refine kWS ?_;intros;exact .of (by rw[← hF];rfl)
def J0o (ks:List (ByteArray×Va))(t:ByteArray):Int:=match J0f ks t with
 |some v=>v.kind
 |none=>0
def dE:Ex:=numE ⟨#[48]⟩
def derG (ks:List (ByteArray×Va))(o t:ByteArray)(n:Int)(es ds:List Ex):Ex:=
 if o=oTime then numE ⟨#[49]⟩
 else if o=oVar then (if J0o ks t=0∨J0o ks t=3 then refE t (n+1) else dE)
 else if o=oNum∨o=oPre then dE
 else if o=oIf then opE oIf [es.getD 0 dE,ds.getD 1 dE,ds.getD 2 dE]
 else if o=oNeg then opE oNeg [ds.getD 0 dE]
 else if o=oAdd∨o=oSub then opE o [ds.getD 0 dE,ds.getD 1 dE]
 else if o=oMul then opE oAdd [opE oMul [ds.getD 0 dE,es.getD 1 dE],opE oMul [es.getD 0 dE,ds.getD 1 dE]]
 else opE oDiv [opE oSub [opE oMul [ds.getD 0 dE,es.getD 1 dE],opE oMul [es.getD 0 dE,ds.getD 1 dE]],opE oMul [es.getD 1 dE,es.getD 1 dE]]
mutual
def derF (ks:List (ByteArray×Va)):Ex→Ex
 |.mk o t n es=>derG ks o t n es (derL ks es)
def derL (ks:List (ByteArray×Va)):List Ex→List Ex
 |[]=>[]
 |e::es=>derF ks e::derL ks es
end
theorem JBy (ks:List (ByteArray×Va)):∀ es:List Ex,derL ks es=es.map (derF ks)
 |[]=>rfl
 |e::es=>by rw[List.map_cons,← JBy ks es];rfl
theorem J7y (ks:List (ByteArray×Va))(e:Ex):derF ks e=derG ks e.op e.text e.order e.kids (e.kids.map (derF ks)):=by
 cases e with
 |mk o t n es=>rw[← JBy];rfl
theorem JBx (t:ByteArray)(n:Int):Fw.Ends (.agg [encS oVar,encS t,encI n,.val (.slice none 0 0)]) (encE (refE t n)):=by
 have h:=Le.cons (Le.refl (encS oVar)) (Le.cons (Le.refl (encS t)) (Le.cons (Le.refl (encI n)) (Le.cons (Le.nil 4) J6H)));rw[show encE (refE t n)=.agg [encS oVar,encS t,encI n,.sl 4 []] from J01 _];exact ⟨Le.agg h.1 h.2⟩
theorem JFA (ks:List (ByteArray×Va))(e:Ex):SzE e→TxE e→builtF e=true→(typeF ks e).2=true→(typeF ks e).1≠1→wtF e≤1000→PX 162 [encK ks,encE e] (encE (derF ks e)):=by
 induction e using J1D with
 |h e ih=>
   intro hz hx hb ht h1 hw;have ihk:=fun k hk=>ih k hk (hz.kid k hk) (hx.kid k hk) ((J06 hb).2 k hk) (J0P hb ht k hk);have hwk:∀ k∈e.kids,wtF k≤1000:=fun k hk=>by have:=JBB hk;omega
   have hcp:=fun k (hk:k∈e.kids)=>JFb k (hz.kid k hk) (hwk k hk);clear ih;have hs:=J1k hb ht;have hord:=J3S hb;have htx:=hx.tx;obtain ⟨o,t,n,es⟩:=e;obtain ⟨r,hr,hm⟩:=J1J encV t ks;have hG:derF ks (.mk o t n es)=derG ks o t n es (es.map (derF ks)):=J7y ks _;refine PZ Tryz.func162 rfl ?_;obtain ⟨F,hF⟩:∃ F,derF ks (.mk o t n es)=F:=⟨_,rfl⟩;rw[hF];rw[hG] at hF;clear hG;rw[show encE (.mk o t n es)=.agg [encS o,encS t,encI n,.sl 4 (es.map encE)] from J01 _];clear hz hx hb ht hw;have hn1:=JEZ ⟨#[49]⟩;have hn0:=JEZ ⟨#[48]⟩;have hop:=JKE;rw[J01] at hn1 hn0
   rcases hs with ⟨h,hk,_⟩|⟨h,hk,v,hv,_⟩|⟨h,a,b,c,hk,ha,hb,hc⟩|⟨h,a,b,hk,ha,hb,h2⟩|⟨h,a,b,hk,hab,h2⟩|⟨h,hk,_⟩|⟨h,hk,h2⟩|⟨h,a,hk,ha,_⟩|⟨h,a,hk,ha,h2⟩|⟨h,a,b,hk,ha,hb,h0,h2⟩|⟨h,a,b,hk,ha,hb,_⟩|⟨h,a,b,hk,ha,hb,h2⟩
   ·have h:o=oNum:=h;subst h;have hF:dE=F:=hF;subst hF;unfold dE;rw[J01];refine kWS ?_;intros;refine J00 [] _ c237 hn0 ?_;refine kWS ?_;intros;exact .of rfl
   ·rcases (show o=oVar∨o=oPre from h) with h | h
    ·have hv2:J0f ks t=some v:=hv;rw[hv2] at hm;subst h;have hF:(if J0o ks t=0∨J0o ks t=3 then refE t (n+1) else dE)=F:=hF;have hkk:J0o ks t=v.kind:=by unfold J0o;rw[hv2]
     rw[hkk] at hF;obtain ⟨q1,q2⟩:=(show 0≤n∧n≤6 from hord rfl)
     cases r with
     |none=>exact hm.elim
     |some ii=>
       have hm:(ks.map fun x=>encV x.2).getD ii .dead=encV v:=hm;refine kWS ?_;intros;refine Need.intro keyst9 ?_;refine kWS ?_;intros;refine LookP.intro (some ii) hr ?_;refine kW ?_;rw[hm];obtain ⟨nm,kd,ty,vl,st,fx,un⟩:=v;simp only at hF
       by_cases k0:kd=0
       ·rw[if_pos (.inl k0)] at hF;subst hF;refine kS ?_;intros;exact JBx t (n+1)
       by_cases k3:kd=3
       ·rw[if_pos (.inr k3)] at hF;subst hF;refine kS ?_;intros;exact JBx t (n+1)
       rw[if_neg (by rintro (h|h);exact k0 h;exact k3 h)] at hF;subst hF;unfold dE;rw[J01];refine kS ?_;intros;refine J00 [] _ c237 hn0 ?_;refine kWS ?_;intros;exact .of rfl
    ·subst h;have hF:dE=F:=hF;subst hF;unfold dE;rw[J01];refine kWS ?_;intros;refine J00 [] _ c237 hn0 ?_;refine kWS ?_;intros;exact .of rfl
   ·have h:o=oIf:=h;have hk:es=[a,b,c]:=hk;subst h hk;have hF:opE oIf [a,derF ks b,derF ks c]=F:=hF;subst hF;have cpA:=hcp a (by simp[Ex.kids]);have ihB:=ihk b (by simp[Ex.kids]) (by rw[hb];exact h1) (hwk b (by simp[Ex.kids]));have ihC:=ihk c (by simp[Ex.kids]) (by rw[hc];exact h1) (hwk c (by simp[Ex.kids]));rw[J01] at cpA;rw[J01,J01 (derF ks b)] at ihB;rw[J01,J01 (derF ks c)] at ihC;rw[J01];simp only[List.map_cons,List.map_nil,J01];refine kWS ?_;intros;refine CallG.intro _ c92 cpA ?_;refine kWS ?_;intros;refine CallG.intro _ c162 ihB ?_;refine kWS ?_;intros;refine CallG.intro _ c162 ihC ?_;refine kWS ?_;intros;refine J0V (b:=61) _ c238 rfl rfl (Nat.succ_pos 3) (J04 (congrArg (fun z=>[encS oIf,z]) (J1t (out:=[a,derF ks b,derF ks c]) (by simp only[List.map_cons,List.map_nil,J01,opE,Ex.op,Ex.text,Ex.order,Ex.kids];rfl) rfl)) (hop oIf [a,derF ks b,derF ks c])) ?_;refine kWS ?_;intros;exact .of rfl
   ·exact absurd h2 h1
   ·exact absurd h2 h1
   ·have h:o=oTime:=h;subst h;have hF:numE ⟨#[49]⟩=F:=hF;subst hF;rw[J01];refine kWS ?_;intros;refine J00 [] _ c237 hn1 ?_;refine kWS ?_;intros;exact .of rfl
   ·exact absurd h2 h1
   ·have h:o=oNeg:=h;have hk:es=[a]:=hk;subst h hk;have hF:opE oNeg [derF ks a]=F:=hF;subst hF;have ihA:=ihk a (List.mem_cons_self ..) ha (hwk a (List.mem_cons_self ..));rw[J01,J01 (derF ks a)] at ihA;rw[J01];simp only[List.map_cons,List.map_nil,J01];refine kWS ?_;intros;refine J00 [] _ c162 ihA ?_;refine kWS ?_;intros;refine J00 [73] _ c238 (J04 (congrArg (fun z=>[encS oNeg,z]) (J1t (out:=[derF ks a]) (by simp only[List.map_cons,List.map_nil,J01];rfl) rfl)) (hop oNeg [derF ks a])) ?_;refine kWS ?_;intros;exact .of rfl
   ·exact absurd h2 h1
   ·exact absurd h2 h1
   ·have hk:es=[a,b]:=hk;have h:o=oAdd∨o=oSub∨o=oMul∨o=oDiv:=h;subst hk;have cpA:=hcp a (by simp[Ex.kids]);have cpB:=hcp b (by simp[Ex.kids]);have ihA:=ihk a (by simp[Ex.kids]) ha (hwk a (by simp[Ex.kids]));have ihB:=ihk b (by simp[Ex.kids]) hb (hwk b (by simp[Ex.kids]));rw[J01] at cpA cpB;rw[J01,J01 (derF ks a)] at ihA;rw[J01,J01 (derF ks b)] at ihB;simp only[List.map_cons,List.map_nil,J01 a,J01 b]
    rcases h with rfl|rfl|rfl|rfl
    ·have hF:opE oAdd [derF ks a,derF ks b]=F:=hF;subst hF;rw[J01];refine kWS ?_;intros;refine CallG.intro _ c162 ihA ?_;refine kWS ?_;intros;refine CallG.intro _ c162 ihB ?_;refine kWS ?_;intros;refine J00 [97] _ c238 (J04 (congrArg (fun z=>[encS oAdd,z]) (J1t (out:=[derF ks a,derF ks b]) (by simp only[List.map_cons,List.map_nil,J01,opE,Ex.op,Ex.text,Ex.order,Ex.kids];rfl) rfl)) (hop oAdd [derF ks a,derF ks b])) ?_;refine kWS ?_;intros;exact .of rfl
    ·have hF:opE oSub [derF ks a,derF ks b]=F:=hF;subst hF;rw[J01];refine kWS ?_;intros;refine CallG.intro _ c162 ihA ?_;refine kWS ?_;intros;refine CallG.intro _ c162 ihB ?_;refine kWS ?_;intros;refine J00 [97] _ c238 (J04 (congrArg (fun z=>[encS oSub,z]) (J1t (out:=[derF ks a,derF ks b]) (by simp only[List.map_cons,List.map_nil,J01,opE,Ex.op,Ex.text,Ex.order,Ex.kids];rfl) rfl)) (hop oSub [derF ks a,derF ks b])) ?_;refine kWS ?_;intros;exact .of rfl
    ·have hF:opE oAdd [opE oMul [derF ks a,b],opE oMul [a,derF ks b]]=F:=hF;subst hF;rw[J01];refine kWS ?_;intros;refine CallG.intro _ c162 ihA ?_;refine kWS ?_;intros;refine CallG.intro _ c162 ihB ?_;refine kWS ?_;intros;refine CallG.intro _ c92 cpB ?_;refine kWS ?_;intros;refine J0V (b:=102) _ c238 rfl rfl (Nat.succ_pos 3) (J04 (congrArg (fun z=>[encS oMul,z]) (J1t (out:=[derF ks a,b]) (by simp only[List.map_cons,List.map_nil,J01,opE,Ex.op,Ex.text,Ex.order,Ex.kids];rfl) rfl)) (hop oMul [derF ks a,b])) ?_;refine kWS ?_;intros;refine CallG.intro _ c92 cpA ?_;refine kWS ?_;intros;refine J0V (b:=107) _ c238 rfl rfl (Nat.succ_pos 3) (J04 (congrArg (fun z=>[encS oMul,z]) (J1t (out:=[a,derF ks b]) (by simp only[List.map_cons,List.map_nil,J01,opE,Ex.op,Ex.text,Ex.order,Ex.kids];rfl) rfl)) (hop oMul [a,derF ks b])) ?_;refine kWS ?_;intros;refine J00 [114] _ c238 (J04 (congrArg (fun z=>[encS oAdd,z]) (J1t (out:=[opE oMul [derF ks a,b],opE oMul [a,derF ks b]]) (by simp only[List.map_cons,List.map_nil,J01,opE,Ex.op,Ex.text,Ex.order,Ex.kids];rfl) rfl)) (hop oAdd [opE oMul [derF ks a,b],opE oMul [a,derF ks b]])) ?_;refine kWS ?_;intros;exact .of rfl
    ·have hF:opE oDiv [opE oSub [opE oMul [derF ks a,b],opE oMul [a,derF ks b]],opE oMul [b,b]]=F:=hF;subst hF;rw[J01];refine kWS ?_;intros;refine CallG.intro _ c162 ihA ?_;refine kWS ?_;intros;refine CallG.intro _ c162 ihB ?_;refine kWS ?_;intros;refine CallG.intro _ c92 cpB ?_;refine kWS ?_;intros;refine J0V (b:=102) _ c238 rfl rfl (Nat.succ_pos 3) (J04 (congrArg (fun z=>[encS oMul,z]) (J1t (out:=[derF ks a,b]) (by simp only[List.map_cons,List.map_nil,J01,opE,Ex.op,Ex.text,Ex.order,Ex.kids];rfl) rfl)) (hop oMul [derF ks a,b])) ?_;refine kWS ?_;intros;refine CallG.intro _ c92 cpA ?_;refine kWS ?_;intros;refine J0V (b:=107) _ c238 rfl rfl (Nat.succ_pos 3) (J04 (congrArg (fun z=>[encS oMul,z]) (J1t (out:=[a,derF ks b]) (by simp only[List.map_cons,List.map_nil,J01,opE,Ex.op,Ex.text,Ex.order,Ex.kids];rfl) rfl)) (hop oMul [a,derF ks b])) ?_;refine kWS ?_;intros;refine J0V (b:=118) _ c238 rfl rfl (Nat.succ_pos 3) (J04 (congrArg (fun z=>[encS oSub,z]) (J1t (out:=[opE oMul [derF ks a,b],opE oMul [a,derF ks b]]) (by simp only[List.map_cons,List.map_nil,J01,opE,Ex.op,Ex.text,Ex.order,Ex.kids];rfl) rfl)) (hop oSub [opE oMul [derF ks a,b],opE oMul [a,derF ks b]])) ?_;refine kWS ?_;intros;refine CallG.intro _ c92 cpB ?_;refine kWS ?_;intros;refine CallG.intro _ c92 cpB ?_;refine kWS ?_;intros;refine J0V (b:=124) _ c238 rfl rfl (Nat.succ_pos 3) (J04 (congrArg (fun z=>[encS oMul,z]) (J1t (out:=[b,b]) (by simp only[List.map_cons,List.map_nil,J01,opE,Ex.op,Ex.text,Ex.order,Ex.kids];rfl) rfl)) (hop oMul [b,b])) ?_;refine kWS ?_;intros;refine J0V (b:=126) _ c238 rfl rfl (Nat.succ_pos 3) (J04 (congrArg (fun z=>[encS oDiv,z]) (J1t (out:=[opE oSub [opE oMul [derF ks a,b],opE oMul [a,derF ks b]],opE oMul [b,b]]) (by simp only[List.map_cons,List.map_nil,J01,opE,Ex.op,Ex.text,Ex.order,Ex.kids];rfl) rfl)) (hop oDiv [opE oSub [opE oMul [derF ks a,b],opE oMul [a,derF ks b]],opE oMul [b,b]])) ?_;refine kWS ?_;intros;exact .of rfl
   ·exact absurd h2 h1
theorem J7f {P:Program}{f:Nat}{a a':List AV}{r:AV}(h:PureCall P f a r)(hl:a'.length=a.length∧∀ i (h:i<a'.length) (h':i<a.length),Le a'[i] a[i]):PureCall P f a' r:=by
 intro O w vs hO hv;exact h O w vs hO ⟨hl.1.symm.trans hv.1,fun i h1 h2=>hl.2 i (hl.1.symm ▸ h1) h1 w O _ (hv.2 i (hl.1.symm ▸ h1) h2)⟩
def zE:Ex:=.mk ⟨#[]⟩ ⟨#[]⟩ 0 []
theorem JL4:Le nilE (encE zE):=by
 have h:=Le.cons (Le.refl (encS ⟨#[]⟩)) (Le.cons (Le.refl (encS ⟨#[]⟩)) (Le.cons (Le.refl (encI 0)) (Le.cons (Le.nil 4) J6H)));rw[show encE zE=.agg [encS ⟨#[]⟩,encS ⟨#[]⟩,encI 0,.sl 4 []] from J01 _];exact Le.agg h.1 h.2
theorem JAj (c:Int):Fw.Ends (.tup [nilE,encI c]) (.tup [encE zE,encI c]):=JF2 JL4 (Le.refl _)
theorem J8k {o:ByteArray}{l:List Ex}(ho:o.size≤8)(hl:l.length≤100)(h:∀ e∈l,GdE e):GdE (opE o l):=J8z (by omega) (by decide) hl h
theorem J5d {l:List Ex}(h:∀ e∈l,GdE e)(i:Nat):GdE (l.getD i dE):=by
 rw[List.getD_eq_getElem?_getD]
 cases hi:l[i]? with
 |none=>exact J8z (by decide) (by decide) (by decide) (by simp)
 |some e=>exact h e (List.mem_of_getElem? hi)
theorem JJV {ks:List (ByteArray×Va)}{o t:ByteArray}{n:Int}{es ds:List Ex}(ht:t.size<2^21)(ho:o.size≤2^60)(hes:∀ e∈es,GdE e)(hds:∀ e∈ds,GdE e):GdE (derG ks o t n es ds):=by
 have hd:GdE dE:=J8z (by decide) (by decide) (by decide) (by simp);have e0:=J5d hes 0;have e1:=J5d hes 1;have d0:=J5d hds 0;have d1:=J5d hds 1;have d2:=J5d hds 2;have two:∀ {o:ByteArray} {a b:Ex},o.size≤8→GdE a→GdE b→GdE (opE o [a,b]):=fun ho ha hb=>J8k ho (by show 2≤100;decide) (by simp only[List.forall_mem_cons,List.not_mem_nil,false_imp_iff,implies_true,and_true];exact ⟨ha,hb⟩);unfold derG;split
 ·exact J8z (by decide) (by decide) (by decide) (by simp)
 ·split
  ·split
   ·exact ⟨SzE.mk (by decide) (by omega) (by decide) (by simp),TxE.mk ht (by simp)⟩
   ·exact hd
  ·split
   ·exact hd
   ·split
    ·exact J8k (by decide) (by show 3≤100;decide) (by simp only[List.forall_mem_cons,List.not_mem_nil,false_imp_iff,implies_true,and_true];exact ⟨e0,d1,d2⟩)
    ·split
     ·exact J8k (by decide) (by show 1≤100;decide) (by simp only[List.forall_mem_cons,List.not_mem_nil,false_imp_iff,implies_true,and_true];exact d0)
     ·split
      ·rename_i h
       rcases h with h|h<;>rw[h]<;>exact two (by decide) d0 d1
      ·split
       ·exact two (by decide) (two (by decide) d0 e1) (two (by decide) e0 d1)
       ·exact two (by decide) (two (by decide) (two (by decide) d0 e1) (two (by decide) e0 d1)) (two (by decide) e1 e1)
theorem JFB (ks:List (ByteArray×Va))(e:Ex):GdE e→GdE (derF ks e):=by
 induction e using J1D with
 |h e ih=>
   intro h;rw[J7y];refine JJV h.2.low h.1.os (fun k hk=>⟨h.1.kid k hk,h.2.kid k hk⟩) fun x hx=>?_;obtain ⟨k,hk,rfl⟩:=List.mem_map.1 hx;exact ih k hk ⟨h.1.kid k hk,h.2.kid k hk⟩
def derivedF (ks:List (ByteArray×Va))(e:Ex):Ex×Int:=if highF e then (zE,3) else if tooF (derF ks e) then (zE,2) else (derF ks e,0)
theorem JD7 (ks:List (ByteArray×Va))(e:Ex)(hg:GdE e)(hb:builtF e=true)(ht:(typeF ks e).2=true)(h1:(typeF ks e).1≠1)(hw:wtF e≤1000):PX 77 [encK ks,encE e] (.tup [encE (derivedF ks e).1,encI (derivedF ks e).2]):=by
 refine PZ Tryz.func77 rfl ?_;have hH:=JD0 e hg.1;have hD:=JFA ks e hg.1 hg.2 hb ht h1 hw;have hT:=J3M (derF ks e) (JFB ks e hg).1;generalize hF:derivedF ks e=F;unfold derivedF at hF;generalize derF ks e=d at *;generalize highF e=h at *;generalize tooF d=tl at *;rw[J01 d] at hT hD;rw[J01 e] at hH hD ⊢
 cases h with
 |true=>
   rw[if_pos rfl] at hF;refine kWQ ?_;intros;refine CallP.flat [] _ c161 hH rfl ?_;refine kWQ ?_;intros;rw[← hF];exact JAj 3
 |false=>
 rw[if_neg (by decide)] at hF;refine kWQ ?_;intros;refine CallP.flat [] _ c161 hH rfl ?_;refine kWQ ?_;intros;refine J00 [] _ c162 hD ?_;refine kWQ ?_;intros;refine CallP.flat [] _ c83 hT rfl ?_
 cases tl with
 |true=>
   rw[if_pos rfl] at hF;refine kWQ ?_;intros;rw[← hF];exact JAj 2
 |false=>
   rw[if_neg (by decide)] at hF;refine kWQ ?_;intros;refine .of ?_;rw[← hF];simp only;rw[J01 d];rfl
def J1T (s:Sys)(x:Ex):Ex×Int:=if numF s x []≠0 then (zE,numF s x []) else derivedF (knownF s.vars) x
theorem J8m {s:Sys}{x:Ex}{l:List U}(h:numF s x l=0):(typeS s x).2=0∧(typeS s x).1=0∧unkF (knownF s.vars) l=true:=by
 unfold numF at h;split at h
 ·rename_i h1;exact absurd h h1
 ·rename_i h1;have h1:(typeS s x).2=0:=Decidable.not_not.1 h1;split at h
  ·cases h
  ·rename_i h2;have h2:(typeS s x).1=0:=Decidable.not_not.1 h2;split at h
   ·cases h
   ·rename_i h3;exact ⟨h1,h2,by cases hh:unkF (knownF s.vars) l;exact absurd hh h3;rfl⟩
theorem J9x (s:Sys)(hs:SzS s)(x:Ex)(hg:GdE x):PX 23 [J0Q s,encE x] (.tup [encE (J1T s x).1,encI (J1T s x).2]):=by
 refine PZ Tryz.func23 rfl ?_;have hN:=J1v s hs x hg.1 hg.2 [] (by simp) (by simp)
 have hN:PX 63 [J0Q s,encE x,.val (.slice none 0 0)] (encI (numF s x [])):=by
  refine J7f hN ⟨rfl,fun i h h'=>?_⟩
  match i,h with
  |0,_=>exact Le.refl _
  |1,_=>exact Le.refl _
  |2,_=>exact Le.nil 3
 have hK:=J8r s hs.v;have hz:=@J8m s x [];have hty:=@J7Q s x;have hD:=fun hb ht h1 hw=>JD7 (knownF s.vars) x hg hb ht h1 hw;generalize hF:J1T s x=F;unfold J1T at hF;generalize numF s x []=nm at *;generalize typeS s x=ty at *;generalize hkv:knownF s.vars=ks at *;generalize derivedF ks x=dd at *;obtain ⟨vs,qs,ns,ws⟩:=s;obtain ⟨d1,d2⟩:=dd;unfold J0Q at *;rw[J01 x] at hN hD ⊢;rw[J01 d1] at hD;simp only at *;refine kWQ ?_;intros;refine CallP.flat [] _ c63 hN rfl ?_
 by_cases h0:nm=0
 case' neg=>
  rw[if_pos h0] at hF;refine kWQ ?_;intros;rw[← hF];exact JAj nm
 rw[if_neg (fun h=>h h0)] at hF;obtain ⟨t1,t2,_⟩:=hz h0;obtain ⟨_,htl,hb,ht,h5⟩:=hty t1;have hD:=hD hb ht (by rw[← h5,t2];decide) (by have:=JDy htl;omega);refine kWQ ?_;intros;refine CallG.intro _ c68 hK ?_;refine kWQ ?_;intros;refine CallG.intro _ c77 hD ?_;refine kWQ ?_;intros;refine .of ?_;rw[← hF];simp only;rw[J01 d1];rfl
mutual
def putF (u:U)(b:Ex):Ex→Ex
 |.mk o t n es=>if (o=oVar∨o=oPre)∧(⟨t,n,decide (o=oPre)⟩:U)=u then b else .mk o t n (putL u b es)
def putL (u:U)(b:Ex):List Ex→List Ex
 |[]=>[]
 |e::es=>putF u b e::putL u b es
end
theorem JD1 {s:Sys}(hc:checkF s=0)(n:ByteArray):(J0f (knownF s.vars) n=none∧JAg s.vars n<0)∨∃ v j,∃ hj:j<s.vars.length,J0f (knownF s.vars) n=some v∧JAg s.vars n=(j:Nat)∧s.vars[j]=v:=by
 obtain ⟨h1,_⟩:=J7D hc;rw[h1 n]
 cases hf:s.vars.find? fun v=>decide (v.name=n) with
 |none=>
   left;refine ⟨rfl,?_⟩
   have hn:(s.vars.any fun v=>decide (v.name=n))=false:=by
    rw[List.any_eq_false];intro v hv;exact List.find?_eq_none.1 hf v hv
   unfold JAg
   rcases Int.lt_or_le (J0d (fun v:Va=>decide (v.name=n)) s.vars 0) 0 with h|h
   ·exact h
   ·rw[(J2Y _ s.vars 0 (by omega)).1 h] at hn;cases hn
 |some v=>
   right;obtain ⟨j,hj,h2,h3⟩:=J6t (i:=0) hf;exact ⟨v,j,hj,rfl,by unfold JAg;rw[h2];omega,h3⟩
def dF:ByteArray×ByteArray×Bool:=(⟨#[]⟩,⟨#[]⟩,false)
def resT (v:ByteArray)(d:ByteArray×Int):ByteArray×ByteArray×Bool:=(v,d.1,decide (d.2=0))
def J6Q (v o:ByteArray)(a b:ByteArray×ByteArray×Bool):ByteArray×ByteArray×Bool:=
 if a.2.2=false then dF
 else if o=oNeg then resT v (twoF (· - ·) ⟨#[48]⟩ a.2.1)
 else if b.2.2=false then dF
 else if o=oAdd then resT v (twoF (· + ·) a.2.1 b.2.1)
 else if o=oSub then resT v (twoF (· - ·) a.2.1 b.2.1)
 else if (twoF (· * ·) a.2.1 b.1).2≠0∨(twoF (· * ·) a.1 b.2.1).2≠0 then dF
 else if o=oMul then resT v (twoF (· + ·) (twoF (· * ·) a.2.1 b.1).1 (twoF (· * ·) a.1 b.2.1).1)
 else if (twoF (· - ·) (twoF (· * ·) a.2.1 b.1).1 (twoF (· * ·) a.1 b.2.1).1).2≠0∨(twoF (· * ·) b.1 b.1).2≠0 then dF
 else resT v (divT (twoF (· - ·) (twoF (· * ·) a.2.1 b.1).1 (twoF (· * ·) a.1 b.2.1).1).1 (twoF (· * ·) b.1 b.1).1)
def JD4 (EV:Ex→ByteArray×Int)(K:ByteArray→Int)(o t:ByteArray)(n:Int)(es:List Ex)(ds:List (ByteArray×ByteArray×Bool)):ByteArray×ByteArray×Bool:=
 if (EV (.mk o t n es)).2≠0 then dF
 else if o=oNum∨o=oPre then ((EV (.mk o t n es)).1,⟨#[48]⟩,true)
 else if o=oTime then ((EV (.mk o t n es)).1,⟨#[49]⟩,true)
 else if o=oVar then
  if K t=1∨K t=2 then ((EV (.mk o t n es)).1,⟨#[48]⟩,true) else resT (EV (.mk o t n es)).1 (EV (refE t (n+1)))
 else if o=oIf then
  if (EV (es.getD 0 dE)).2≠0 then dF else if (EV (es.getD 0 dE)).1=sTrue then ds.getD 1 dF else ds.getD 2 dF
 else J6Q (EV (.mk o t n es)).1 o (ds.getD 0 dF) (ds.getD 1 dF)
mutual
def dualF (EV:Ex→ByteArray×Int)(K:ByteArray→Int):Ex→ByteArray×ByteArray×Bool
 |.mk o t n es=>JD4 EV K o t n es (JJQ EV K es)
def JJQ (EV:Ex→ByteArray×Int)(K:ByteArray→Int):List Ex→List (ByteArray×ByteArray×Bool)
 |[]=>[]
 |e::es=>dualF EV K e::JJQ EV K es
end
theorem J9B (EV:Ex→ByteArray×Int)(K:ByteArray→Int):∀ es:List Ex,JJQ EV K es=es.map (dualF EV K)
 |[]=>rfl
 |e::es=>by rw[List.map_cons,← J9B EV K es];rfl
theorem J4q (EV:Ex→ByteArray×Int)(K:ByteArray→Int)(o t:ByteArray)(n:Int)(es:List Ex):dualF EV K (.mk o t n es)=JD4 EV K o t n es (es.map (dualF EV K)):=by
 rw[← J9B];rfl
theorem JDz (q:Rat):(toldQ q).1.size<2^35:=by
 unfold toldQ;split
 ·rename_i h;exact (JE3 h).2
 ·decide
theorem J2o (f:Rat→Rat→Rat)(a b:ByteArray):(twoF f a b).1.size<2^35:=by
 unfold twoF;split
 ·exact JDz _
 ·decide
theorem JF7 (a b:ByteArray):(divT a b).1.size<2^35:=by
 unfold divT;split
 ·decide
 ·exact J2o _ _ _
theorem JF5 {EV:Ex→ByteArray×Int}(K:ByteArray→Int)(h:∀ x,(EV x).1.size<2^35)(x:Ex):(dualF EV K x).1.size<2^35∧(dualF EV K x).2.1.size<2^35:=by
 have hdF:dF.1.size<2^35∧dF.2.1.size<2^35:=by decide
 induction x using J1D with
 |h e ih=>
   obtain ⟨o,t,n,es⟩:=e;rw[J4q]
   have hd:∀ i,((es.map (dualF EV K)).getD i dF).1.size<2^35∧((es.map (dualF EV K)).getD i dF).2.1.size<2^35:=fun i=>by
    rw[List.getD_eq_getElem?_getD,List.getElem?_map]
    cases hq:es[i]? with
    |none=>exact hdF
    |some k=>exact ih k (List.mem_of_getElem? hq)
   unfold JD4;split
   ·exact hdF
   split
   ·exact ⟨h _,by show ByteArray.size ⟨#[_]⟩<2^35;exact (by decide:1<2^35)⟩
   split
   ·exact ⟨h _,by show ByteArray.size ⟨#[_]⟩<2^35;exact (by decide:1<2^35)⟩
   split
   ·split
    ·exact ⟨h _,by show ByteArray.size ⟨#[_]⟩<2^35;exact (by decide:1<2^35)⟩
    ·exact ⟨h _,h _⟩
   split
   ·split
    ·exact hdF
    ·split
     ·exact hd 1
     ·exact hd 2
   unfold J6Q resT
   repeat' split
   all_goals first
    |exact hdF
    |exact ⟨h _,J2o _ _ _⟩
    |exact ⟨h _,JF7 _ _⟩
theorem JIr (s:ByteArray)(n:Int):PX 62 [encS s,encI n] (encE (refE s n)):=by
 refine J1m (r:=.agg [encS ⟨#[118,97,114]⟩,encS s,encI n,.val (.slice none 0 0)]) ?_ 3 ?_
 ·refine PZ Tryz.func62 rfl ?_;refine kWQ ?_;intros;exact .of rfl
 ·rw[J01];simp[leN,allB,valB,encS,encI,refE,oNum,oVar,Ex.op,Ex.text,Ex.order,Ex.kids]
def JJL (p:ByteArray×ByteArray×Bool):AV:=.tup [encS p.1,encS p.2.1,encB p.2.2]
theorem JJP (vs:List Va)(qs ns:List Eqn)(ws:List Whn)(hs:SzS ⟨vs,qs,ns,ws⟩)(hck:checkF ⟨vs,qs,ns,ws⟩=0)(tm:ByteArray)(ini:Bool)(bs:List Bd){EV:Ex→ByteArray×Int}(hsz:∀ x,(EV x).1.size<2^35)
  (hEv:∀ x,SzE x→TxE x→PX 38 [.agg [.sl 7 (vs.map encV),.sl 9 (qs.map J0m),.sl 9 (ns.map J0m),.sl 6 (ws.map J1Q)],encE x,.agg [encS tm,encB ini,.sl 4 (bs.map J9A)]] (.tup [encS (EV x).1,encI (EV x).2]))(x:Ex) :
  SzE x→TxE x→builtF x=true→(typeF (knownF vs) x).2=true→(typeF (knownF vs) x).1≠1 →
  PX 37 [.agg [.sl 7 (vs.map encV),.sl 9 (qs.map J0m),.sl 9 (ns.map J0m),.sl 6 (ws.map J1Q)],encE x,.agg [encS tm,encB ini,.sl 4 (bs.map J9A)]] (JJL (dualF EV (J0o (knownF vs)) x)):=by
 have hsd:=JF5 (J0o (knownF vs)) hsz
 induction x using J1D with
 |h e ih=>
   intro hz hx hb ht h1;have ihk:=fun k hk=>ih k hk (hz.kid k hk) (hx.kid k hk) ((J06 hb).2 k hk) (J0P hb ht k hk);have hEk:=fun k hk=>hEv k (hz.kid k hk) (hx.kid k hk);have hsh:=J1k hb ht;have hord:=J3S hb;have hE:=hEv e hz hx;have htx:=hx.tx;obtain ⟨o,t,n,es⟩:=e;have hG:=J4q EV (J0o (knownF vs)) o t n es;refine PZ Tryz.func37 rfl ?_;obtain ⟨F,hF⟩:∃ F,dualF EV (J0o (knownF vs)) (.mk o t n es)=F:=⟨_,rfl⟩;rw[hF];rw[hG] at hF;unfold JD4 at hF;rw[show encE (.mk o t n es)=.agg [encS o,encS t,encI n,.sl 4 (es.map encE)] from J01 _] at hE ⊢;unfold JJL at *;generalize EV (.mk o t n es)=ev at *;obtain ⟨v,c⟩:=ev;simp only at hE hF;have hmv:=@List.length_map _ _ vs encV
   by_cases hc:c=0
   case' neg=>
    rw[if_pos hc] at hF;refine kWQ ?_;intros;refine J00 [] _ c38 hE ?_;refine kWQ ?_;intros;exact .of (by rw[← hF];rfl)
   rw[if_neg (fun k=>k hc)] at hF;subst hc
   rcases hsh with ⟨h,hk,_⟩|⟨h,hk,v0,hv,_⟩|⟨h,a,b,c,hk,ha,hb,hc⟩|⟨h,a,b,hk,ha,hb,h2⟩|⟨h,a,b,hk,hab,h2⟩|⟨h,hk,_⟩|⟨h,hk,h2⟩|⟨h,a,hk,ha,_⟩|⟨h,a,hk,ha,h2⟩|⟨h,a,b,hk,ha,hb,h0,h2⟩|⟨h,a,b,hk,ha2,hb2,_⟩|⟨h,a,b,hk,ha,hb,h2⟩
   ·have h:o=oNum:=h;subst h;rw[if_pos (.inl rfl)] at hF;refine kWQ ?_;intros;refine J00 [] _ c38 hE ?_;refine kWS ?_;intros
    (repeat (simp only[beq_self_eq_true,decide_true];refine kQ ?_;intros))
    exact .of (by rw[← hF];rfl)
   ·rcases (show o=oVar∨o=oPre from h) with h | h
    ·subst h;rw[if_neg (by decide),if_neg (by decide),if_pos rfl] at hF;have hv:J0f (knownF vs) t=some v0:=hv;have hkk:J0o (knownF vs) t=v0.kind:=by unfold J0o;rw[hv]
     rw[hkk] at hF
     rcases JD1 hck t with ⟨q,_⟩|⟨v1,j,hj,q1,q2,q3⟩
     ·rw[hv] at q;cases q
     rw[hv] at q1;cases q1;have hFd:=JJn ⟨vs,qs,ns,ws⟩ t (Nat.le_trans hs.v20 (by decide));unfold J0Q at hFd;rw[q2] at hFd;replace hj:j<vs.length:=hj;replace q3:vs[j]=v0:=q3;have hR:=JIr t (n+1);obtain ⟨o1,o2⟩:=(show 0≤n∧n≤6 from hord rfl);have hE2:=hEv (refE t (n+1)) (SzE.mk (by show ByteArray.size ⟨#[_,_,_]⟩≤_;exact (by decide:3≤2^60)) (by have:t.size<2^35:=htx;show t.size≤_;omega) (by simp) (by simp)) (TxE.mk hx.low (by simp));rw[J01] at hE2 hR;generalize EV (refE t (n+1))=e2 at *;refine kWQ ?_;intros;refine J00 [] _ c38 hE ?_;refine kWS ?_;intros
     (repeat (simp only[beq_self_eq_true,decide_true];refine kQ ?_;intros))
     refine CallP.flat [] _ c84 hFd rfl ?_;refine kWQ ?_;intros;simp only[q3]
     by_cases k1:v0.kind=1
     ·rw[if_pos (.inl k1)] at hF;simp only[k1,decide_true];refine kQ ?_;intros;exact .of (by rw[← hF];rfl)
     by_cases k2:v0.kind=2
     ·rw[if_pos (.inr k2)] at hF;simp only[k2,decide_true];refine kQ ?_;intros
      (repeat (simp only[beq_self_eq_true,decide_true];refine kQ ?_;intros))
      exact .of (by rw[← hF];rfl)
     rw[if_neg (fun k=>k.elim k1 k2)] at hF;unfold resT at hF;simp only[decide_eq_false k1,decide_eq_false k2];refine kQ ?_;intros;refine CallG.intro _ c62 hR ?_;refine kWQ ?_;intros;refine CallG.intro _ c38 hE2 ?_;refine kWQ ?_;intros;exact .of (by rw[← hF];rfl)
    ·subst h;rw[if_pos (.inr rfl)] at hF;refine kWQ ?_;intros;refine J00 [] _ c38 hE ?_;refine kWS ?_;intros
     (repeat (simp only[beq_self_eq_true,decide_true];refine kQ ?_;intros))
     exact .of (by rw[← hF];rfl)
   ·have h:o=oIf:=h;have hk:es=[a,b,c]:=hk;subst h hk;rw[if_neg (by decide),if_neg (by decide),if_neg (by decide),if_pos rfl] at hF;have hEa:=hEk a (by simp[Ex.kids]);have ihB:=ihk b (by simp[Ex.kids]) (by rw[hb];exact h1);have ihC:=ihk c (by simp[Ex.kids]) (by rw[hc];exact h1);rw[J01] at hEa ihB ihC;simp only[List.map_cons,List.map_nil,List.getD_cons_zero,List.getD_cons_succ,J01] at hF hE ⊢;generalize EV a=ea at *;obtain ⟨va,ca⟩:=ea;simp only at hEa hF;generalize dualF EV (J0o (knownF vs)) b=db at *;generalize dualF EV (J0o (knownF vs)) c=dc at *;refine kWQ ?_;intros;refine J00 [] _ c38 hE ?_;refine kWS ?_;intros
    (repeat (simp only[beq_self_eq_true,decide_true];refine kQ ?_;intros))
    refine CallG.intro _ c38 hEa ?_
    by_cases hca:ca=0
    case' neg=>
     rw[if_pos hca] at hF;refine kWQ ?_;intros;exact .of (by rw[← hF];rfl)
    rw[if_neg (fun k=>k hca)] at hF;subst hca
    by_cases hva:va=sTrue
    ·rw[if_pos hva] at hF;subst hva;refine kWS ?_;intros
     (repeat (simp only[beq_self_eq_true,decide_true];refine kQ ?_;intros))
     refine CallG.intro _ c37 ihB ?_;refine kWQ ?_;intros;exact .of (by rw[← hF];rfl)
    ·rw[if_neg hva] at hF;refine kWQ ?_;intros;refine CallG.intro _ c37 ihC ?_;refine kWQ ?_;intros;exact .of (by rw[← hF];rfl)
   ·exact absurd h2 h1
   ·exact absurd h2 h1
   ·have h:o=oTime:=h;subst h;rw[if_neg (by decide),if_pos rfl] at hF;refine kWQ ?_;intros;refine J00 [] _ c38 hE ?_;refine kWS ?_;intros
    (repeat (simp only[beq_self_eq_true,decide_true];refine kQ ?_;intros))
    exact .of (by rw[← hF];rfl)
   ·exact absurd h2 h1
   ·have h:o=oNeg:=h;have hk:es=[a]:=hk;subst h hk;rw[if_neg (by decide),if_neg (by decide),if_neg (by decide),if_neg (by decide)] at hF;replace hF:J6Q v oNeg (dualF EV (J0o (knownF vs)) a) dF=F:=hF;have ihA:=ihk a (by simp[Ex.kids]) ha;have hda:=hsd a;rw[J01] at ihA;simp only[List.map_cons,List.map_nil,J01] at hE ⊢;generalize dualF EV (J0o (knownF vs)) a=da at *;obtain ⟨x1,x2,x3⟩:=da;unfold J6Q at hF;simp only at hF ihA hda;have hS:=J6E ⟨#[48]⟩ x2 (by decide) hda.2;generalize twoF (· - ·) ⟨#[48]⟩ x2=p at *;unfold resT at hF;refine kWQ ?_;intros;refine J00 [] _ c38 hE ?_;refine kWS ?_;intros
    (repeat (simp only[beq_self_eq_true,decide_true];refine kQ ?_;intros))
    refine CallG.intro _ c37 ihA ?_
    cases x3 with
    |false=>
      rw[if_pos rfl] at hF;refine kWQ ?_;intros;exact .of (by rw[← hF];rfl)
    |true=>
      rw[if_neg (by decide),if_pos trivial] at hF;refine kWS ?_;intros
      (repeat (simp only[beq_self_eq_true,decide_true];refine kQ ?_;intros))
      refine CallP.flat [] _ c27 hS rfl ?_;refine kWQ ?_;intros;exact .of (by rw[← hF];rfl)
   ·exact absurd h2 h1
   ·exact absurd h2 h1
   ·have hk:es=[a,b]:=hk;have h:o=oAdd∨o=oSub∨o=oMul∨o=oDiv:=h;subst hk
    have hF:J6Q v o (dualF EV (J0o (knownF vs)) a) (dualF EV (J0o (knownF vs)) b)=F:=by
     rcases h with rfl|rfl|rfl|rfl<;>(rw[if_neg (by decide),if_neg (by decide),if_neg (by decide),if_neg (by decide)] at hF;exact hF)
    have ihA:=ihk a (by simp[Ex.kids]) ha2;have ihB:=ihk b (by simp[Ex.kids]) hb2;have hda:=hsd a;have hdb:=hsd b;rw[J01] at ihA ihB;simp only[List.map_cons,List.map_nil,J01] at hE ⊢;generalize dualF EV (J0o (knownF vs)) a=da at *;generalize dualF EV (J0o (knownF vs)) b=db at *;obtain ⟨x1,x2,x3⟩:=da;obtain ⟨y1,y2,y3⟩:=db;unfold J6Q at hF;simp only at hF ihA ihB hda hdb;have hA:=J9o x2 y2 hda.2 hdb.2;have hS:=J6E x2 y2 hda.2 hdb.2;have hM1:=J6F x2 y1 hda.2 hdb.1;have hM2:=J6F x1 y2 hda.1 hdb.2;have hM3:=J6F y1 y1 hdb.1 hdb.1;have z1:=J2o (· * ·) x2 y1;have z2:=J2o (· * ·) x1 y2;have z3:=J2o (· * ·) y1 y1;generalize twoF (· * ·) x2 y1=p1 at *;generalize twoF (· * ·) x1 y2=p2 at *;generalize twoF (· * ·) y1 y1=p3 at *;have hA2:=J9o p1.1 p2.1 z1 z2;have hS2:=J6E p1.1 p2.1 z1 z2;have z4:=J2o (· - ·) p1.1 p2.1;generalize twoF (· - ·) p1.1 p2.1=p4 at *;have hD:=JFw p4.1 p3.1 z4 z3;generalize divT p4.1 p3.1=p5 at *;generalize twoF (· + ·) p1.1 p2.1=p6 at *;generalize twoF (· + ·) x2 y2=p7 at *;generalize twoF (· - ·) x2 y2=p8 at *;obtain ⟨m1,n1⟩:=p1;obtain ⟨m2,n2⟩:=p2;obtain ⟨m3,n3⟩:=p3;obtain ⟨m4,n4⟩:=p4;simp only at *;unfold resT at hF
    rcases h with rfl|rfl|rfl|rfl
    all_goals
     refine kWQ ?_;intros;refine J00 [] _ c38 hE ?_;refine kWS ?_;intros
     (repeat (simp only[beq_self_eq_true,decide_true];refine kQ ?_;intros))
     refine CallG.intro _ c37 ihA ?_
     by_cases gx:x3=false
     case' pos=>
      subst gx;rw[if_pos rfl] at hF;refine kWQ ?_;intros;exact .of (by rw[← hF];rfl)
     obtain rfl:x3=true:=by simpa using gx
     rw[if_neg (by decide),if_neg (by decide)] at hF;refine kWS ?_;intros
     (repeat (simp only[beq_self_eq_true,decide_true];refine kQ ?_;intros))
     refine CallG.intro _ c37 ihB ?_
     by_cases gy:y3=false
     case' pos=>
      subst gy;rw[if_pos rfl] at hF;refine kWQ ?_;intros;exact .of (by rw[← hF];rfl)
     obtain rfl:y3=true:=by simpa using gy
     rw[if_neg (by decide)] at hF;refine kWS ?_;intros
     (repeat (simp only[beq_self_eq_true,decide_true];refine kQ ?_;intros))
    ·rw[if_pos rfl] at hF;refine CallP.flat [] _ c26 hA rfl ?_;refine kWQ ?_;intros;exact .of (by rw[← hF];rfl)
    ·rw[if_neg (by decide),if_pos rfl] at hF;refine CallP.flat [] _ c27 hS rfl ?_;refine kWQ ?_;intros;exact .of (by rw[← hF];rfl)
    all_goals
     rw[if_neg (by decide),if_neg (by decide)] at hF;refine CallP.flat [] _ c97 hM1 rfl ?_;refine kWQ ?_;intros;refine CallP.flat [] _ c97 hM2 rfl ?_
     by_cases g1:n1=0
     case' neg=>
      rw[if_pos (.inl g1)] at hF;refine kWQ ?_;intros;exact .of (by rw[← hF];rfl)
     by_cases g2:n2=0
     case' neg=>
      rw[if_pos (.inr g2)] at hF;refine kWQ ?_;intros;exact .of (by rw[← hF];rfl)
     rw[if_neg (fun k=>k.elim (fun k=>k g1) (fun k=>k g2))] at hF;refine kWS ?_;intros
     (repeat (simp only[beq_self_eq_true,decide_true];refine kQ ?_;intros))
    ·rw[if_pos rfl] at hF;refine CallP.flat [] _ c26 hA2 rfl ?_;refine kWQ ?_;intros;exact .of (by rw[← hF];rfl)
    ·rw[if_neg (by decide)] at hF;refine CallP.flat [] _ c27 hS2 rfl ?_;refine kWQ ?_;intros;refine CallP.flat [] _ c97 hM3 rfl ?_
     by_cases g4:n4=0
     case' neg=>
      rw[if_pos (.inl g4)] at hF;refine kWQ ?_;intros;exact .of (by rw[← hF];rfl)
     by_cases g3:n3=0
     case' neg=>
      rw[if_pos (.inr g3)] at hF;refine kWQ ?_;intros;exact .of (by rw[← hF];rfl)
     rw[if_neg (fun k=>k.elim (fun k=>k g4) (fun k=>k g3))] at hF;refine kWS ?_;intros
     (repeat (simp only[beq_self_eq_true,decide_true];refine kQ ?_;intros))
     refine CallP.flat [] _ c98 hD rfl ?_;refine kWQ ?_;intros;exact .of (by rw[← hF];rfl)
   ·exact absurd h2 h1
theorem JHj (e:Ex):SzE e→PX 25 [encE e,encE e] (encB true):=by
 induction e using J1D with
 |h e ih=>
   intro hz;have ihk:=fun k hk=>ih k hk (hz.kid k hk);have hlen:=hz.len;clear ih;refine PZ Tryz.func25 rfl ?_;rw[J01];obtain ⟨o,t,od,es⟩:=e;simp only[Ex.op,Ex.text,Ex.order,Ex.kids] at *;have hml:=@List.length_map _ _ es encE;refine kWQ ?_;intros;simp only[decide_true];refine kQ ?_;intros
   try simp only[decide_true]
   refine kQ ?_;intros
   refine LoopP.intro (fun j σ H=>∃ g1 g2 i,j=es.length-i∧i≤es.length∧σ=fr [(2,.op 2 g1 0 0),(3,.op 3 g2 0 0),(5,encI i)] ∧
    H=hp [(2,g1,⟨29,4,[.agg [encS o,encS t,encI od,.sl 4 (es.map encE)]]⟩),(3,g2,⟨29,4,[.agg [encS o,encS t,encI od,.sl 4 (es.map encE)]]⟩)]) ?_ ?_
   ·exact .intro (W.of ⟨_,_,_,0,rfl,Nat.zero_le _,rfl,rfl⟩ ⟨rfl,rfl,rfl,trivial⟩ ⟨rfl,rfl,trivial⟩)
   rintro j σ H ⟨g1,g2,i,rfl,hi,rfl,rfl⟩
   rcases Nat.lt_or_ge i es.length with h9|h9
   ·have hk:=ihk _ (List.getElem_mem h9);obtain ⟨k,hkk⟩:∃ k,es[i]=k:=⟨_,rfl⟩;rw[hkk,J01] at hk;refine kWQ ?_;intros;simp only[hkk,J01];refine kQ ?_;intros
    try simp only[hkk,J01]
    refine kQ ?_;intros;refine CallG.intro _ c25 hk ?_;refine kWQ ?_;intros
    exact .intro <| W.of ⟨_,by omega,g1,g2,i+1,rfl,h9,rfl,rfl⟩ ⟨rfl,rfl,rfl,trivial⟩ ⟨rfl,rfl,trivial⟩
   ·refine kWQ ?_;intros;exact .of rfl
theorem J72 {s:Sys}{x:Ex}(h:(J1T s x).2=0):checkF s=0∧builtF x=true∧typeF (knownF s.vars) x=(0,true)∧highF x=false∧(J1T s x).1=derF (knownF s.vars) x:=by
 unfold J1T at h ⊢
 by_cases h0:numF s x []=0
 ·rw[if_neg (fun k=>k h0)] at h ⊢;obtain ⟨t1,t2,_⟩:=J8m h0;obtain ⟨hc,_,hb,ht,h5⟩:=J7Q t1;refine ⟨hc,hb,Prod.ext (by rw[← h5,t2]) ht,?_⟩;unfold derivedF at h ⊢
  cases hh:highF x with
  |true=>rw[hh,if_pos rfl] at h;cases h
  |false=>
    rw[hh,if_neg (by decide)] at h;rw[if_neg (by decide)];refine ⟨rfl,?_⟩
    cases htl:tooF (derF (knownF s.vars) x) with
    |true=>rw[htl,if_pos rfl] at h;cases h
    |false=>rw[if_neg (by decide)]
 ·rw[if_pos h0] at h;exact absurd h h0
theorem JFl {o:ByteArray}{l:List Ex}(h1:J1H o=(l.length:Int))(h2:o≠oNum∧o≠oVar∧o≠oPre∧o≠oSample)(h:∀ e∈l,builtF e=true):builtF (opE o l)=true:=by
 rw[J0u];have a:decide (((opE o l).kids.length:Int)=J1H (opE o l).op)=true:=decide_eq_true h1.symm
 have b:textF (opE o l)=true:=by
  unfold textF;rw[if_neg (show ¬ (opE o l).op=oNum from h2.1),if_neg (show ¬ (opE o l).op=oVar from h2.2.1),if_neg (show ¬ (opE o l).op=oPre from h2.2.2.1)];rfl
 have c:J4c (opE o l).op (opE o l).kids ((opE o l).kids.map builtF)=false:=by
  unfold J4c;rw[show decide ((opE o l).op=oSample)=false from decide_eq_false h2.2.2.2,Bool.false_and]
 rw[a,b,c];exact List.all_eq_true.2 h
theorem JKp (ks:List (ByteArray×Va)){o:ByteArray}(ho:o=oAdd∨o=oSub∨o=oMul∨o=oDiv):J4b ks o ⟨#[]⟩ 0 [(0,true),(0,true)]=(0,true):=by
 rcases ho with rfl|rfl|rfl|rfl
 ·kernel_rfl
 ·kernel_rfl
 ·kernel_rfl
 ·kernel_rfl
theorem JKq (ks:List (ByteArray×Va)):J4b ks oNeg ⟨#[]⟩ 0 [(0,true)]=(0,true):=by kernel_rfl
def KsOk (ks:List (ByteArray×Va)):Prop:=∀ t v,J0f ks t=some v→(v.type=0∨v.type=1)∧0≤v.kind∧v.kind≤3
theorem JDo {v:Va}(h:varF v=true):0≤v.kind∧v.kind≤3:=by
 unfold varF at h;simp only[Bool.and_eq_true] at h;have h:=h.1.1.1.1
 have hk:J8s v.kind v.type=true:=by first|exact h.1|exact h|exact h.2|simp_all
 unfold J8s at hk;simp only[Bool.not_eq_true',Bool.or_eq_false_iff,decide_eq_false_iff_not] at hk;omega
theorem ksOk {s:Sys}(h:checkF s=0):KsOk (knownF s.vars):=by
 intro t v hv;obtain ⟨h1,h2⟩:=J7D h;rw[h1] at hv;have hm:=List.mem_of_find?_eq_some hv;refine ⟨h2 v hm,?_⟩;unfold checkF at h
 have hL:largeF s=false:=by
  cases h1:largeF s
  ·rfl
  ·rw[h1] at h;simp at h
 rw[hL] at h
 have hV:validF s=true:=by
  cases h1:validF s
  ·rw[h1] at h;simp at h
  ·rfl
 unfold validF at hV;simp only[Bool.and_eq_true,Bool.not_eq_true'] at hV;obtain ⟨⟨⟨⟨⟨⟨_,_⟩,_⟩,_⟩,hv2⟩,_⟩,_⟩:=hV
 exact JDo (by
  have:=List.any_eq_false.1 hv2 v hm
  simpa using this)
theorem JHz {ks:List (ByteArray×Va)}(hk:KsOk ks)(x:Ex):builtF x=true→(typeF ks x).2=true→(typeF ks x).1=0∨(typeF ks x).1=1:=by
 induction x using J1D with
 |h e ih=>
   intro hb ht;have ihk:=fun k hk=>ih k hk ((J06 hb).2 k hk) (J0P hb ht k hk)
   rcases J1k hb ht with ⟨_,_,h2⟩|⟨_,_,v0,hv,h2⟩|⟨_,a,b,c,hk2,_,hb2,_⟩|⟨_,a,b,_,_,_,h2⟩|⟨_,a,b,_,_,h2⟩|⟨_,_,h2⟩|⟨_,_,h2⟩|⟨_,a,_,_,h2⟩|⟨_,a,_,_,h2⟩|⟨_,a,b,_,_,_,_,h2⟩|⟨_,a,b,_,_,_,h2⟩|⟨_,a,b,_,_,_,h2⟩
   ·exact .inl h2
   ·rw[h2];exact (hk _ _ hv).1
   ·rw[← hb2];exact ihk b (by rw[hk2];simp)
   ·exact .inr h2
   ·exact .inr h2
   ·exact .inl h2
   ·exact .inr h2
   ·exact .inl h2
   ·exact .inr h2
   ·exact .inr h2
   ·exact .inl h2
   ·exact .inr h2
theorem JEX (ks:List (ByteArray×Va)):(builtF (numE ⟨#[48]⟩)=true∧typeF ks (numE ⟨#[48]⟩)=(0,true))∧(builtF (numE ⟨#[49]⟩)=true∧typeF ks (numE ⟨#[49]⟩)=(0,true)):=
 ⟨⟨by kernel_rfl,by kernel_rfl⟩,⟨by kernel_rfl,by kernel_rfl⟩⟩
theorem J1N {ks:List (ByteArray×Va)}{x y:Ex}(hx:builtF x=true∧typeF ks x=(0,true))(hy:builtF y=true∧typeF ks y=(0,true)){o:ByteArray}(ho:o=oAdd∨o=oSub∨o=oMul∨o=oDiv):builtF (opE o [x,y])=true∧typeF ks (opE o [x,y])=(0,true):=by
 refine ⟨JFl ?_ ?_ ?_,?_⟩
 ·rcases ho with rfl | rfl | rfl | rfl
  ·kernel_rfl
  ·kernel_rfl
  ·kernel_rfl
  ·kernel_rfl
 ·rcases ho with rfl|rfl|rfl|rfl<;>decide
 ·simp only[List.forall_mem_cons,List.not_mem_nil,false_imp_iff,implies_true,and_true];exact ⟨hx.1,hy.1⟩
 ·have e:typeF ks (opE o [x,y])=J4b ks o ⟨#[]⟩ 0 [typeF ks x,typeF ks y]:=J25 _ _;rw[e,hx.2,hy.2];exact JKp _ ho
theorem J9L {ks:List (ByteArray×Va)}(hk:KsOk ks)(x:Ex):builtF x=true→typeF ks x=(0,true)→highF x=false→builtF (derF ks x)=true∧typeF ks (derF ks x)=(0,true):=by
 induction x using J1D with
 |h e ih=>
   intro hb ht hh;have ht2:(typeF ks e).2=true:=by rw[ht]
   have ht1:(typeF ks e).1=0:=by rw[ht]
   have hhk:∀ k∈e.kids,highF k=false:=by
    rw[J4m,Bool.or_eq_false_iff] at hh;exact fun k hk=>by simpa using List.any_eq_false.1 hh.2 k hk
   have ty:∀ k∈e.kids,(typeF ks k).1≠1→typeF ks k=(0,true):=fun k hkm h=>by
    have h2:=J0P hb ht2 k hkm
    rcases JHz hk k ((J06 hb).2 k hkm) h2 with h3|h3
    ·exact Prod.ext h3 h2
    ·exact absurd h3 h
   have ihk:=fun k hkm h=>ih k hkm ((J06 hb).2 k hkm) (ty k hkm h) (hhk k hkm);have bk:=fun k hkm h=>And.intro ((J06 hb).2 k hkm) (ty k hkm h);have hbk:=(J06 hb).2;have htk:=J0P hb ht2;have hsh:=J1k hb ht2;have hord:=J3S hb
   have hnm:e.op=oVar→nameF e.text=true:=fun h=>by
    rw[J0u] at hb;simp only[Bool.and_eq_true] at hb;have:=hb.1.1.2;unfold textF at this;rw[if_neg (by rw[h];decide),if_pos h] at this;simp only[Bool.and_eq_true] at this;exact this.1.1
   obtain ⟨nb,nc⟩:=JEX ks;rw[J7y]
   rcases hsh with ⟨h,hk2,_⟩|⟨h,hk2,v0,hv,h2⟩|⟨h,a,b,c,hk2,ha,hb2,hc⟩|⟨h,a,b,hk2,ha,hb2,h2⟩|⟨h,a,b,hk2,hab,h2⟩|⟨h,hk2,_⟩|⟨h,hk2,h2⟩|⟨h,a,hk2,ha,_⟩|⟨h,a,hk2,ha,h2⟩|⟨h,a,b,hk2,ha,hb2,h0,h2⟩|⟨h,a,b,hk2,ha,hb2,_⟩|⟨h,a,b,hk2,ha,hb2,h2⟩
   ·rw[h];exact nb
   ·rcases h with h | h
    ·have hl:e.order≠6:=by
      rw[J4m,Bool.or_eq_false_iff,h] at hh;have:=hh.1
      simpa using this
     obtain ⟨o1,o2⟩:=hord h;have hkk:J0o ks e.text=v0.kind:=by unfold J0o;rw[hv]
     unfold derG;rw[if_neg (by rw[h];decide),if_pos h,hkk];split
     ·rename_i hkd;constructor
      ·rw[J0u]
       have a:textF (refE e.text (e.order+1))=true:=by
        unfold textF;rw[if_neg (by show ¬ oVar=oNum;decide),if_pos (show (refE e.text (e.order+1)).op=oVar from rfl)];simp only[Bool.and_eq_true,decide_eq_true_eq];exact ⟨⟨hnm h,by show 0≤e.order+1;omega⟩,by show e.order+1≤6;omega⟩
       rw[a];rfl
      ·rw[J25];unfold J4b;rw[if_pos (.inl rfl)];have hv':J0f ks (refE e.text (e.order+1)).text=some v0:=hv;rw[hv'];have:v0.type=0:=by rw[← h2,ht1]
       rcases hkd with k|k<;>simp[this,k]
     ·exact nb
    ·rw[h];exact nb
   ·have q1:=ihk b (by rw[hk2];simp) (by rw[hb2,ht1];decide);have q2:=ihk c (by rw[hk2];simp) (by rw[hc,ht1];decide);have q3:=hbk a (by rw[hk2];simp);have q4:=htk a (by rw[hk2];simp);have e1:derG ks e.op e.text e.order e.kids (e.kids.map (derF ks))=opE oIf [a,derF ks b,derF ks c]:=by rw[h,hk2];rfl
    rw[e1];refine ⟨JFl (by kernel_rfl) (by decide) ?_,?_⟩
    ·simp only[List.forall_mem_cons,List.not_mem_nil,false_imp_iff,implies_true,and_true];exact ⟨q3,q1.1,q2.1⟩
    ·have e2:typeF ks (opE oIf [a,derF ks b,derF ks c])=J4b ks oIf ⟨#[]⟩ 0 [typeF ks a,typeF ks (derF ks b),typeF ks (derF ks c)]:=J25 _ _;have e3:typeF ks a=(1,true):=Prod.ext ha q4;rw[e2,q1.2,q2.2,e3]
     try exact (by kernel_rfl:J4b ks oIf ⟨#[]⟩ 0 [(1,true),(0,true),(0,true)]=(0,true))
   ·exact absurd (h2.symm.trans ht1) (by decide)
   ·exact absurd (h2.symm.trans ht1) (by decide)
   ·rw[h];exact nc
   ·exact absurd (h2.symm.trans ht1) (by decide)
   ·have q1:=ihk a (by rw[hk2];simp) ha;have e1:derG ks e.op e.text e.order e.kids (e.kids.map (derF ks))=opE oNeg [derF ks a]:=by rw[h,hk2];rfl
    rw[e1];refine ⟨JFl (by kernel_rfl) (by decide) ?_,?_⟩
    ·simp only[List.forall_mem_cons,List.not_mem_nil,false_imp_iff,implies_true,and_true];exact q1.1
    ·have e2:typeF ks (opE oNeg [derF ks a])=J4b ks oNeg ⟨#[]⟩ 0 [typeF ks (derF ks a)]:=J25 _ _;rw[e2,q1.2];exact JKq _
   ·exact absurd (h2.symm.trans ht1) (by decide)
   ·exact absurd (h2.symm.trans ht1) (by decide)
   ·have q1:=ihk a (by rw[hk2];simp) ha;have q2:=ihk b (by rw[hk2];simp) hb2;have b1:=bk a (by rw[hk2];simp) ha;have b2:=bk b (by rw[hk2];simp) hb2;have m1:=J1N q1 b2 (.inr (.inr (.inl rfl)):oMul=oAdd∨oMul=oSub∨oMul=oMul∨oMul=oDiv);have m2:=J1N b1 q2 (.inr (.inr (.inl rfl)):oMul=oAdd∨oMul=oSub∨oMul=oMul∨oMul=oDiv);have m3:=J1N b2 b2 (.inr (.inr (.inl rfl)):oMul=oAdd∨oMul=oSub∨oMul=oMul∨oMul=oDiv)
    rcases h with h|h|h|h
    ·have e1:derG ks e.op e.text e.order e.kids (e.kids.map (derF ks))=opE oAdd [derF ks a,derF ks b]:=by rw[h,hk2];rfl
     rw[e1];exact J1N q1 q2 (.inl rfl)
    ·have e1:derG ks e.op e.text e.order e.kids (e.kids.map (derF ks))=opE oSub [derF ks a,derF ks b]:=by rw[h,hk2];rfl
     rw[e1];exact J1N q1 q2 (.inr (.inl rfl))
    ·have e1:derG ks e.op e.text e.order e.kids (e.kids.map (derF ks))=opE oAdd [opE oMul [derF ks a,b],opE oMul [a,derF ks b]]:=by rw[h,hk2];rfl
     rw[e1];exact J1N m1 m2 (.inl rfl)
    ·have e1:derG ks e.op e.text e.order e.kids (e.kids.map (derF ks))=opE oDiv [opE oSub [opE oMul [derF ks a,b],opE oMul [a,derF ks b]],opE oMul [b,b]]:=by rw[h,hk2];rfl
     rw[e1];exact J1N (J1N m1 m2 (.inr (.inl rfl))) m3 (.inr (.inr (.inr rfl)))
   ·exact absurd (h2.symm.trans ht1) (by decide)
theorem J3T {q:Rat}(h:shortV (.num q)=true):numV (strV (.num q))=q∧isQ (strV (.num q))=true:=by
 have hk:=J8l h
 have e:(strV (.num q)).data.toList=(rT q.num q.den).map UInt8.ofNat:=by
  show ((qT q.num q.den).map UInt8.ofNat).toArray.toList=_
  rw[JK7]
 have hr:=(J4A _).2 _ (JBS _ _ hk);unfold numV isQ;rw[e,hr];exact ⟨Rat.num_divInt_den q,rfl⟩
theorem J18 {z:Rat}(h:(toldQ z).2=0):shortV (.num z)=true∧(toldQ z).1=strV (.num z):=by
 unfold toldQ at h ⊢
 cases hs:shortV (.num z) with
 |true=>exact ⟨rfl,by rw[if_pos rfl]⟩
 |false=>rw[hs,if_neg (by decide)] at h;cases h
theorem J26 (f:Rat→Rat→Rat){p q:Rat}(hp:shortV (.num p)=true)(hq:shortV (.num q)=true):twoF f (strV (.num p)) (strV (.num q))=toldQ (f p q):=by
 unfold twoF;rw[if_pos ⟨(J3T hp).2,(J3T hq).2⟩,(J3T hp).1,(J3T hq).1]
theorem JJT {p q:Rat}(hp:shortV (.num p)=true)(hq:shortV (.num q)=true)(h0:q≠0):divT (strV (.num p)) (strV (.num q))=toldQ (p/q):=by
 unfold divT;rw[if_neg,J26 _ hp hq];rintro ⟨e,_⟩;have:=(J3T hq).1;rw[e] at this;exact h0 (this.symm.trans (by kernel_rfl))
theorem JAi {s:Sys}{env:EnvA}{ev:Ev}(ho:openS env=.ok ev){y:Ex}(h:(evalS s y env).2=0)(hb:builtF y=true){t:Int}(ht:typeF (knownF s.vars) y=(t,true)) :
  ∃ w:Vl,evalF (knownF s.vars) ev y=.ok w∧w.type=t∧shortV w=true∧(evalS s y env).1=strV w:=by
 unfold evalS at h ⊢
 by_cases h0:(typeS s y).2=0
 ·rw[if_neg (fun k=>k h0),ho] at h ⊢;simp only at h ⊢
  cases hv:evalF (knownF s.vars) ev y with
  |error c=>
    rw[hv] at h;have h:c=0:=h;have:=(J5h y hb (by rw[ht]) c hv).ne;exact absurd h this
  |ok w=>
    rw[hv] at h;unfold outV at h ⊢;simp only at h ⊢
    cases hs:shortV w with
    |true=>exact ⟨w,rfl,by rw[J7w y hb (by rw[ht]) w hv,ht],hs,by rw[if_pos rfl]⟩
    |false=>rw[hs,if_neg (by decide)] at h;cases h
 ·rw[if_pos h0] at h;exact absurd h h0
theorem JBb {w:Vl}(h:w.type=0):∃ q,w=.num q:=by
 cases w with
 |num q=>exact ⟨q,rfl⟩
 |tr b=>cases h
section
variable {ks:List (ByteArray×Va)} {ev:Ev} {x y:Ex} {p q:Rat}
theorem JJK:J1P ks ev oAdd ⟨#[]⟩ 0 [.ok (.num p),.ok (.num q)]=.ok (.num (p+q)):=by kernel_rfl
theorem JIC (hx:evalF ks ev x=.ok (.num p))(hy:evalF ks ev y=.ok (.num q)):evalF ks ev (opE oAdd [x,y])=.ok (.num (p+q)):=by
 have e:evalF ks ev (opE oAdd [x,y])=J1P ks ev oAdd ⟨#[]⟩ 0 [evalF ks ev x,evalF ks ev y]:=J0l _ _ _;rw[e,hx,hy];exact JJK
theorem JJH:J1P ks ev oSub ⟨#[]⟩ 0 [.ok (.num p),.ok (.num q)]=.ok (.num (p-q)):=by kernel_rfl
theorem JI9 (hx:evalF ks ev x=.ok (.num p))(hy:evalF ks ev y=.ok (.num q)):evalF ks ev (opE oSub [x,y])=.ok (.num (p-q)):=by
 have e:evalF ks ev (opE oSub [x,y])=J1P ks ev oSub ⟨#[]⟩ 0 [evalF ks ev x,evalF ks ev y]:=J0l _ _ _;rw[e,hx,hy];exact JJH
theorem JJJ:J1P ks ev oMul ⟨#[]⟩ 0 [.ok (.num p),.ok (.num q)]=.ok (.num (p*q)):=by kernel_rfl
theorem J95 (hx:evalF ks ev x=.ok (.num p))(hy:evalF ks ev y=.ok (.num q)):evalF ks ev (opE oMul [x,y])=.ok (.num (p*q)):=by
 have e:evalF ks ev (opE oMul [x,y])=J1P ks ev oMul ⟨#[]⟩ 0 [evalF ks ev x,evalF ks ev y]:=J0l _ _ _;rw[e,hx,hy];exact JJJ
theorem JEy {t:ByteArray}{n:Int}:J1P ks ev oDiv t n [.ok (.num p),.ok (.num q)]=divV p q:=by kernel_rfl
theorem JKQ (hx:evalF ks ev x=.ok (.num p))(hy:evalF ks ev y=.ok (.num q)):evalF ks ev (opE oDiv [x,y])=divV p q:=by
 have e:evalF ks ev (opE oDiv [x,y])=J1P ks ev oDiv ⟨#[]⟩ 0 [evalF ks ev x,evalF ks ev y]:=J0l _ _ _;rw[e,hx,hy];exact JEy
theorem JJI:J1P ks ev oNeg ⟨#[]⟩ 0 [.ok (.num p)]=.ok (.num (-p)):=by kernel_rfl
theorem JKP (hx:evalF ks ev x=.ok (.num p)):evalF ks ev (opE oNeg [x])=.ok (.num (-p)):=by
 have e:evalF ks ev (opE oNeg [x])=J1P ks ev oNeg ⟨#[]⟩ 0 [evalF ks ev x]:=J0l _ _ _;rw[e,hx];exact JJI
theorem JIA {t:ByteArray}{n:Int}{a b:Except Int Vl}:J1P ks ev oIf t n [.ok (.tr true),a,b]=a:=by kernel_rfl
theorem JIB {t:ByteArray}{n:Int}{a b:Except Int Vl}:J1P ks ev oIf t n [.ok (.tr false),a,b]=b:=by kernel_rfl
theorem JL8 {c:Ex}{b:Bool}(hc:evalF ks ev c=.ok (.tr b)):evalF ks ev (opE oIf [c,x,y])=if b then evalF ks ev x else evalF ks ev y:=by
 have e:evalF ks ev (opE oIf [c,x,y])=J1P ks ev oIf ⟨#[]⟩ 0 [evalF ks ev c,evalF ks ev x,evalF ks ev y]:=J0l _ _ _;rw[e,hc];cases b
 ·exact JIB
 ·exact JIA
end
theorem JCt (ks:List (ByteArray×Va))(ev:Ev):(evalF ks ev (numE ⟨#[48]⟩)=.ok (.num 0)∧shortV (.num 0)=true∧(⟨#[48]⟩:ByteArray)=strV (.num 0))∧(evalF ks ev (numE ⟨#[49]⟩)=.ok (.num 1)∧shortV (.num 1)=true∧(⟨#[49]⟩:ByteArray)=strV (.num 1)):=by
 refine ⟨⟨?_,?_,?_⟩,?_,?_,?_⟩
 ·kernel_rfl
 ·kernel_rfl
 ·kernel_rfl
 ·kernel_rfl
 ·kernel_rfl
 ·kernel_rfl
theorem JHI {s:Sys}{env:EnvA}{ev:Ev}(hc:checkF s=0)(ho:openS env=.ok ev)(x:Ex):builtF x=true→typeF (knownF s.vars) x=(0,true)→highF x=false→(dualF (fun y=>evalS s y env) (J0o (knownF s.vars)) x).2.2=true →
  ∃ q d:Rat,shortV (.num q)=true∧shortV (.num d)=true∧evalF (knownF s.vars) ev x=.ok (.num q)∧evalF (knownF s.vars) ev (derF (knownF s.vars) x)=.ok (.num d) ∧
    (dualF (fun y=>evalS s y env) (J0o (knownF s.vars)) x).1=strV (.num q)∧(dualF (fun y=>evalS s y env) (J0o (knownF s.vars)) x).2.1=strV (.num d):=by
 have hk:=ksOk hc
 induction x using J1D with
 |h e ih=>
   intro hb ht hh hD;have hdt:=J9L hk e hb ht hh;have ht2:(typeF (knownF s.vars) e).2=true:=by rw[ht]
   have ht1:(typeF (knownF s.vars) e).1=0:=by rw[ht]
   have hhk:∀ k∈e.kids,highF k=false:=by
    rw[J4m,Bool.or_eq_false_iff] at hh;exact fun k hk=>by simpa using List.any_eq_false.1 hh.2 k hk
   have ty:∀ k∈e.kids,(typeF (knownF s.vars) k).1≠1→typeF (knownF s.vars) k=(0,true):=fun k hkm h=>by
    have h2:=J0P hb ht2 k hkm
    rcases JHz hk k ((J06 hb).2 k hkm) h2 with h3|h3
    ·exact Prod.ext h3 h2
    ·exact absurd h3 h
   have ihk:=fun k hkm h=>ih k hkm ((J06 hb).2 k hkm) (ty k hkm h) (hhk k hkm);have hbk:=(J06 hb).2;have htk:=J0P hb ht2;have hsh:=J1k hb ht2;have hev:=fun h=>JAi (s:=s) ho (y:=e) h hb ht;have hder:=J7y (knownF s.vars) e;have hevF:=J0l (knownF s.vars) ev e;obtain ⟨nb,nc⟩:=JCt (knownF s.vars) ev;obtain ⟨o,t,n,es⟩:=e;rw[J4q] at hD ⊢;unfold JD4 at hD ⊢
   by_cases h0:(evalS s (.mk o t n es) env).2=0
   case' neg=>
    rw[if_pos h0] at hD;cases hD
   obtain ⟨w,hw,hwt,hws,hwv⟩:=hev h0;obtain ⟨q,rfl⟩:=JBb hwt;rw[if_neg (fun k=>k h0)] at hD ⊢;simp only[hwv] at hD ⊢
   rcases hsh with ⟨h,hk2,_⟩|⟨h,hk2,v0,hv,h2⟩|⟨h,a,b,c,hk2,ha,hb2,hc2⟩|⟨h,a,b,hk2,ha,hb2,h2⟩|⟨h,a,b,hk2,hab,h2⟩|⟨h,hk2,_⟩|⟨h,hk2,h2⟩|⟨h,a,hk2,ha,_⟩|⟨h,a,hk2,ha,h2⟩|⟨h,a,b,hk2,ha,hb2,h00,h2⟩|⟨h,a,b,hk2,ha2,hb2,_⟩|⟨h,a,b,hk2,ha,hb2,h2⟩
   ·have h:o=oNum:=h;subst h;rw[if_pos (.inl rfl)] at hD ⊢;exact ⟨q,0,hws,nb.2.1,hw,by rw[hder];exact nb.1,rfl,nb.2.2⟩
   ·rcases (show o=oVar∨o=oPre from h) with h | h
    ·subst h;rw[if_neg (by decide),if_neg (by decide),if_pos rfl] at hD ⊢;have hv:J0f (knownF s.vars) t=some v0:=hv;have hkk:J0o (knownF s.vars) t=v0.kind:=by unfold J0o;rw[hv]
     obtain ⟨_,k0,k3⟩:=hk t v0 hv;rw[hkk] at hD ⊢
     by_cases k12:v0.kind=1∨v0.kind=2
     ·rw[if_pos k12] at hD ⊢;refine ⟨q,0,hws,nb.2.1,hw,?_,rfl,nb.2.2⟩;rw[hder];show evalF _ ev (derG _ oVar t n es _)=_
      unfold derG;rw[if_neg (by decide),if_pos rfl,hkk,if_neg (by omega)];exact nb.1
     ·rw[if_neg k12] at hD ⊢
      have e1:derF (knownF s.vars) (.mk oVar t n es)=refE t (n+1):=by
       rw[hder];show derG _ oVar t n es _=_
       unfold derG;rw[if_neg (by decide),if_pos rfl,hkk,if_pos (by omega)]
      rw[e1] at hdt ⊢;have h5:(evalS s (refE t (n+1)) env).2=0:=of_decide_eq_true hD;obtain ⟨w2,g1,g2,g3,g4⟩:=JAi ho h5 hdt.1 hdt.2;obtain ⟨d,rfl⟩:=JBb g2;exact ⟨q,d,hws,g3,hw,g1,rfl,g4⟩
    ·subst h;rw[if_pos (.inr rfl)] at hD ⊢;exact ⟨q,0,hws,nb.2.1,hw,by rw[hder];exact nb.1,rfl,nb.2.2⟩
   ·have h:o=oIf:=h;have hk2:es=[a,b,c]:=hk2;subst h hk2;rw[if_neg (by decide),if_neg (by decide),if_neg (by decide),if_pos rfl] at hD ⊢;simp only[List.map_cons,List.map_nil,List.getD_cons_zero,List.getD_cons_succ] at hD ⊢
    by_cases h6:(evalS s a env).2=0
    case' neg=>rw[if_pos h6] at hD;cases hD
    rw[if_neg (fun k=>k h6)] at hD ⊢;have ha3:typeF (knownF s.vars) a=(1,true):=Prod.ext ha (htk a (by simp[Ex.kids]));obtain ⟨wa,g1,g2,g3,g4⟩:=JAi ho h6 (hbk a (by simp[Ex.kids])) ha3;have e1:derF (knownF s.vars) (.mk oIf t n [a,b,c])=opE oIf [a,derF (knownF s.vars) b,derF (knownF s.vars) c]:=hder;rw[e1]
    cases wa with
    |num z=>cases g2
    |tr z=>
      rw[JL8 g1];rw[g4] at hD ⊢;have e2:evalF (knownF s.vars) ev (.mk oIf t n [a,b,c])=J1P (knownF s.vars) ev oIf t n [evalF (knownF s.vars) ev a,evalF (knownF s.vars) ev b,evalF (knownF s.vars) ev c]:=hevF
      cases z with
      |true=>
        rw[if_pos (by rfl)] at hD ⊢;obtain ⟨q',d,r1,r2,r3,r4,r5,r6⟩:=ihk b (by simp[Ex.kids]) (by rw[hb2,ht1];decide) hD;exact ⟨q',d,r1,r2,by rw[e2,g1];exact JIA.trans r3,r4,r5,r6⟩
      |false=>
        rw[if_neg (show ¬ strV (.tr false)=sTrue by decide)] at hD ⊢;obtain ⟨q',d,r1,r2,r3,r4,r5,r6⟩:=ihk c (by simp[Ex.kids]) (by rw[hc2,ht1];decide) hD;exact ⟨q',d,r1,r2,by rw[e2,g1];exact JIB.trans r3,r4,r5,r6⟩
   ·exact absurd (h2.symm.trans ht1) (by decide)
   ·exact absurd (h2.symm.trans ht1) (by decide)
   ·have h:o=oTime:=h;subst h;rw[if_neg (by decide),if_pos rfl] at hD ⊢;exact ⟨q,1,hws,nc.2.1,hw,by rw[hder];exact nc.1,rfl,nc.2.2⟩
   ·exact absurd (h2.symm.trans ht1) (by decide)
   ·have h:o=oNeg:=h;have hk2:es=[a]:=hk2;subst h hk2;rw[if_neg (by decide),if_neg (by decide),if_neg (by decide),if_neg (by decide)] at hD ⊢;simp only[List.map_cons,List.map_nil,List.getD_cons_zero,List.getD_cons_succ] at hD ⊢;have hih:=ihk a (by simp[Ex.kids]) ha;have e1:derF (knownF s.vars) (.mk oNeg t n [a])=opE oNeg [derF (knownF s.vars) a]:=hder;rw[e1];clear hder e1 hdt hev hevF;generalize dualF (fun y=>evalS s y env) (J0o (knownF s.vars)) a=A at *;generalize (([]:List (ByteArray×ByteArray×Bool)).getD 0 dF)=B at *;obtain ⟨x1,x2,x3⟩:=A;unfold J6Q at hD ⊢;simp only at hD hih ⊢
    cases x3 with
    |false=>rw[if_pos rfl] at hD;cases hD
    |true=>
      obtain ⟨q',d,r1,r2,r3,r4,rfl,rfl⟩:=hih rfl;rw[if_neg (by decide),if_pos trivial] at hD ⊢;rw[nb.2.2,J26 _ nb.2.1 r2] at hD ⊢;have h7:=J18 (of_decide_eq_true hD);refine ⟨q,0-d,hws,h7.1,hw,?_,rfl,h7.2⟩;rw[JKP r4,show (0:Rat)-d=-d by grind]
   ·exact absurd (h2.symm.trans ht1) (by decide)
   ·exact absurd (h2.symm.trans ht1) (by decide)
   ·have hk2:es=[a,b]:=hk2;have h:o=oAdd∨o=oSub∨o=oMul∨o=oDiv:=h;subst hk2;have hA:=ihk a (by simp[Ex.kids]) ha2;have hB:=ihk b (by simp[Ex.kids]) hb2;clear hdt hev ihk ih;generalize dualF (fun y=>evalS s y env) (J0o (knownF s.vars))=DF at *
    have hD2:(J6Q (strV (.num q)) o (DF a) (DF b)).2.2=true:=by
     rcases h with rfl|rfl|rfl|rfl<;>(rw[if_neg (by decide),if_neg (by decide),if_neg (by decide),if_neg (by decide)] at hD;exact hD)
    suffices hG:∃ d:Rat,shortV (.num d)=true∧evalF (knownF s.vars) ev (derF (knownF s.vars) (.mk o t n [a,b]))=.ok (.num d)∧J6Q (strV (.num q)) o (DF a) (DF b)=(strV (.num q),strV (.num d),true) by
     obtain ⟨d,u1,u2,u3⟩:=hG;refine ⟨q,d,hws,u1,hw,u2,?_,?_⟩
     ·rcases h with rfl|rfl|rfl|rfl<;>(rw[if_neg (by decide),if_neg (by decide),if_neg (by decide),if_neg (by decide)];exact congrArg (fun z=>z.1) u3)
     ·rcases h with rfl|rfl|rfl|rfl<;>(rw[if_neg (by decide),if_neg (by decide),if_neg (by decide),if_neg (by decide)];exact congrArg (fun z=>z.2.1) u3)
    clear hD;generalize DF a=A at *;generalize DF b=B at *;obtain ⟨x1,x2,x3⟩:=A;obtain ⟨y1,y2,y3⟩:=B;unfold J6Q at hD2 ⊢;simp only at hD2 hA hB ⊢
    have ho3:¬ o=oNeg:=by rcases h with rfl|rfl|rfl|rfl<;>decide
    cases x3 with
    |false=>rw[if_pos rfl] at hD2;cases hD2
    |true=>
    rw[if_neg (by decide),if_neg ho3] at hD2 ⊢
    cases y3 with
    |false=>rw[if_pos rfl] at hD2;cases hD2
    |true=>
    rw[if_neg (by decide)] at hD2 ⊢;obtain ⟨p,dp,r1,r2,r3,r4,rfl,rfl⟩:=hA rfl;obtain ⟨p2,d2,s1,s2,s3,s4,rfl,rfl⟩:=hB rfl;clear hA hB;rw[J26 (· * ·) r2 s1,J26 (· * ·) r1 s2,J26 (· + ·) r2 s2,J26 (· - ·) r2 s2,J26 (· * ·) s1 s1] at hD2 ⊢;rw[hder]
    rcases h with rfl|rfl|rfl|rfl
    ·rw[if_pos rfl] at hD2 ⊢;have h7:=J18 (of_decide_eq_true hD2);refine ⟨dp+d2,h7.1,JIC r4 s4,?_⟩;unfold resT at hD2 ⊢;rw[h7.2];exact Prod.ext rfl (Prod.ext rfl hD2)
    ·rw[if_neg (by decide),if_pos rfl] at hD2 ⊢;have h7:=J18 (of_decide_eq_true hD2);refine ⟨dp-d2,h7.1,JI9 r4 s4,?_⟩;unfold resT at hD2 ⊢;rw[h7.2];exact Prod.ext rfl (Prod.ext rfl hD2)
    ·rw[if_neg (by decide),if_neg (by decide)] at hD2 ⊢
     by_cases g1:(toldQ (dp*p2)).2=0
     case' neg=>rw[if_pos (.inl g1)] at hD2;cases hD2
     by_cases g2:(toldQ (p*d2)).2=0
     case' neg=>rw[if_pos (.inr g2)] at hD2;cases hD2
     rw[if_neg (fun k=>k.elim (fun k=>k g1) (fun k=>k g2)),if_pos rfl] at hD2 ⊢;have m1:=J18 g1;have m2:=J18 g2;rw[m1.2,m2.2,J26 (· + ·) m1.1 m2.1] at hD2 ⊢;have h7:=J18 (of_decide_eq_true hD2);refine ⟨dp*p2+p*d2,h7.1,JIC (J95 r4 s3) (J95 r3 s4),?_⟩;unfold resT at hD2 ⊢;rw[h7.2];exact Prod.ext rfl (Prod.ext rfl hD2)
    ·rw[if_neg (by decide),if_neg (by decide)] at hD2 ⊢
     by_cases g1:(toldQ (dp*p2)).2=0
     case' neg=>rw[if_pos (.inl g1)] at hD2;cases hD2
     by_cases g2:(toldQ (p*d2)).2=0
     case' neg=>rw[if_pos (.inr g2)] at hD2;cases hD2
     rw[if_neg (fun k=>k.elim (fun k=>k g1) (fun k=>k g2)),if_neg (by decide)] at hD2 ⊢;have m1:=J18 g1;have m2:=J18 g2;rw[m1.2,m2.2,J26 (· - ·) m1.1 m2.1] at hD2 ⊢
     by_cases g4:(toldQ (dp*p2-p*d2)).2=0
     case' neg=>rw[if_pos (.inl g4)] at hD2;cases hD2
     by_cases g3:(toldQ (p2*p2)).2=0
     case' neg=>rw[if_pos (.inr g3)] at hD2;cases hD2
     rw[if_neg (fun k=>k.elim (fun k=>k g4) (fun k=>k g3))] at hD2 ⊢;have m4:=J18 g4;have m3:=J18 g3
     have hp2:p2≠0:=by
      rw[hw] at hevF;have e2:J1P (knownF s.vars) ev oDiv t n [evalF (knownF s.vars) ev a,evalF (knownF s.vars) ev b]=.ok (.num q):=hevF.symm;rw[r3,s3] at e2;have e3:=JEy.symm.trans e2;intro e0;unfold divV at e3;rw[if_pos e0] at e3;cases e3
     have hp3:p2*p2≠0:=by
      intro e0
      rcases Rat.mul_eq_zero.1 e0 with e0|e0<;>exact hp2 e0
     rw[m4.2,m3.2,JJT m4.1 m3.1 hp3] at hD2 ⊢;have h7:=J18 (of_decide_eq_true hD2);refine ⟨(dp*p2-p*d2)/(p2*p2),h7.1,(JKQ (JI9 (J95 r4 s3) (J95 r3 s4)) (J95 s3 s3)).trans (by unfold divV;rw[if_neg hp3]),?_⟩;unfold resT at hD2 ⊢;rw[h7.2];exact Prod.ext rfl (Prod.ext rfl hD2)
   ·exact absurd (h2.symm.trans ht1) (by decide)
end Go.Proofs.YtlblbldolhiokaaGreatDoor
