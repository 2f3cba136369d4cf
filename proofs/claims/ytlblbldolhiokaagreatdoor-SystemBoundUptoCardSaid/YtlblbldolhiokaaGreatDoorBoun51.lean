/- Part 51 of the proof. -/
import Derived.Test.YtlblbldolhiokaaGreatDoorBoun50
import Derived.Test.YtlblbldolhiokaaGreatDoorBoun46
import Derived.Shelf.Strings.Builder1
import Derived.Shelf.Strings.Builder2
import Derived.Shelf.Strings.OnBuilder
import Derived.Shelf.Strings.Repeat
import Derived.Test.YtlblbldolhiokaaGreatDoorProg
import Derived.Test.YtlblbldolhiokaaGreatDoorBoun45
import Derived.Test.YtlblbldolhiokaaGreatDoorBoun49
import Derived.Shelf.Small.Strs
import Derived.Shelf.SlGeneric
import Derived.Shelf.SlSortCmp.WholeK
set_option linter.unusedVariables false
set_option linter.unusedSimpArgs false
set_option linter.unusedSectionVars false
set_option maxRecDepth 100000
set_option exponentiation.threshold 400
set_option maxHeartbeats 8000000
namespace Go.Proofs.YtlblbldolhiokaaGreatDoor
open Go Go.Fw
theorem JFD {t:ByteArray}(h:(J06 t.data.toList).2=true):∃ n d,JAr t.data.toList=some (n,d)∧okR (n,d)∧numV t=Rat.divInt n d∧t.data.toList=(rT n d).map UInt8.ofNat:=by
 obtain ⟨h1,h2⟩:=JDF t.data.toList;rw[h1,Option.isSome_iff_exists] at h;obtain ⟨⟨n,d⟩,hx⟩:=h;obtain ⟨h3,h4⟩:=JDA hx;refine ⟨n,d,hx,h3,?_,h4⟩;unfold numV;rw[h2 _ hx]
theorem JKO {s t:ByteArray}(h:s.data.toList=t.data.toList):s=t:=by
 apply ByteArray.ext;exact Array.toList_inj.1 h
theorem JFC {t:ByteArray}(h:(J06 t.data.toList).2=true)(h0:numV t=0):t=⟨#[48]⟩:=by
 obtain ⟨n,d,_,⟨hd,hg,_,_⟩,h2,h3⟩:=JFD h;rw[h2] at h0
 have hn:n=0:=by
  have h5:=(J2v n d (by have:0<d:=hd;omega)).1;rw[h0] at h5;have hg':n.natAbs.gcd (d:Int).natAbs=1:=hg;rw[hg'] at h5;have h6:(0:Rat).num=n/((1:Nat):Int):=h5;have h7:(0:Rat).num=0:=rfl;omega
 subst hn
 have hd1:d=1:=by
  have hg':Nat.gcd 0 d=1:=hg;rw[Nat.gcd_zero_left] at hg';exact hg'
 subst hd1;exact JKO h3
theorem J6S {β:Type}{s:ByteArray}{b:β}:∀ {l:List (ByteArray×β)},J1E l s=some b→(s,b)∈l
 |[],h=>by cases h
 |x::l,h=>by
   unfold J1E at h;split at h
   ·rename_i e;cases h;subst e;exact List.mem_cons_self
   ·exact List.mem_cons_of_mem _ (J6S h)
theorem ty01 (v:Vl):(v.type=0∧∃ q,v=.num q)∨(v.type=1∧∃ b,v=.tr b):=by
 cases v with
 |num q=>exact .inl ⟨rfl,q,rfl⟩
 |tr b=>exact .inr ⟨rfl,b,rfl⟩
theorem len2 {α:Type}{l:List α}(h:(l.length:Int)=2):∃ a b,l=[a,b]:=by
 match l,h with
 |[a,b],_=>exact ⟨a,b,rfl⟩
 |[],h=>simp at h
 |[_],h=>simp at h
 |_::_::_::_,h=>simp at h;omega
theorem len1 {α:Type}{l:List α}(h:(l.length:Int)=1):∃ a,l=[a]:=by
 match l,h with
 |[a],_=>exact ⟨a,rfl⟩
 |[],h=>simp at h
 |_::_::_,h=>simp at h;omega
theorem JL5 {α:Type}{l:List α}(h:(l.length:Int)=3):∃ a b c,l=[a,b,c]:=by
 match l,h with
 |[a,b,c],_=>exact ⟨a,b,c,rfl⟩
 |[],h=>simp at h
 |[_],h=>simp at h
 |[_,_],h=>simp at h
 |_::_::_::_::_,h=>simp at h;omega
theorem JEi {o:ByteArray}{x:Int×Bool×Bool}(h:J1E shp o=some x):(o=oNum)∨((o=oAnd∨o=oOr)∧x=(2,true,true))∨(o=oTime∧x=(0,false,false))∨((o=oTrue∨o=oFalse∨o=oInit)∧x=(0,false,true)) ∨
  (o=oNeg∧x=(1,false,false))∨(o=oNot∧x=(1,true,true))∨(o=oSample∧x=(2,false,true))∨((o=oAdd∨o=oSub∨o=oMul∨o=oDiv)∧x=(2,false,false))∨((o=oLess∨o=oAtMost∨o=oMore∨o=oAtLeast)∧x=(2,false,true)):=by
 have:=J6S h;simp only[shp,List.mem_cons,Prod.mk.injEq,List.not_mem_nil,or_false] at this
 rcases this with ⟨rfl,rfl,rfl,rfl⟩|⟨rfl,rfl,rfl,rfl⟩|⟨rfl,rfl,rfl,rfl⟩|⟨rfl,rfl,rfl,rfl⟩|⟨rfl,rfl,rfl,rfl⟩|⟨rfl,rfl,rfl,rfl⟩|⟨rfl,rfl,rfl,rfl⟩|⟨rfl,rfl,rfl,rfl⟩|⟨rfl,rfl,rfl,rfl⟩|⟨rfl,rfl,rfl,rfl⟩|⟨rfl,rfl,rfl,rfl⟩|⟨rfl,rfl,rfl,rfl⟩|⟨rfl,rfl,rfl,rfl⟩|⟨rfl,rfl,rfl,rfl⟩|⟨rfl,rfl,rfl,rfl⟩|⟨rfl,rfl,rfl,rfl⟩|⟨rfl,rfl,rfl,rfl⟩|⟨rfl,rfl,rfl,rfl⟩
 all_goals simp
theorem J0w {ks:List (ByteArray×Va)}{e:Ex}(hb:builtF e=true)(ht:(typeF ks e).2=true):∀ k∈e.kids,(typeF ks k).2=true:=by
 have hl:=(J0B hb).1;rw[J81] at ht;unfold JEO at ht;intro k hk;split at ht
 ·rename_i h;rw[show J1P e.op=0 by unfold J1P;rw[if_pos h]] at hl;have hnil:e.kids=[]:=List.eq_nil_of_length_eq_zero (by omega);rw[hnil] at hk;cases hk
 ·rename_i h0;split at ht
  ·rename_i h;rw[show J1P e.op=2 by unfold J1P;rw[if_neg h0,if_pos h]] at hl;obtain ⟨a,b,he⟩:=len2 hl;rw[he] at hk ht;have ht:((typeF ks a).2&&(typeF ks b).2&&decide ((typeF ks a).1=(typeF ks b).1))=true:=ht;simp only[Bool.and_eq_true] at ht;simp only[List.mem_cons,List.not_mem_nil,or_false] at hk
   rcases hk with rfl|rfl
   ·exact ht.1.1
   ·exact ht.1.2
  ·rename_i h1;split at ht
   ·rename_i h;rw[show J1P e.op=3 by unfold J1P;rw[if_neg h0,if_neg h1,if_pos h]] at hl;obtain ⟨a,b,c,he⟩:=JL5 hl;rw[he] at hk ht;have ht:((typeF ks a).2&&((typeF ks b).2&&(typeF ks c).2&&decide ((typeF ks b).1=(typeF ks c).1))&&decide ((typeF ks a).1=1))=true:=ht;simp only[Bool.and_eq_true] at ht;simp only[List.mem_cons,List.not_mem_nil,or_false] at hk
    rcases hk with rfl|rfl|rfl
    ·exact ht.1.1
    ·exact ht.1.2.1.1
    ·exact ht.1.2.1.2
   ·split at ht
    ·cases ht
    ·rename_i h;have h:=Bool.eq_false_iff.2 h;exact (JJ9 h _ (List.mem_map.2 ⟨k,hk,rfl⟩)).1
inductive Shape (ks:List (ByteArray×Va)) (e:Ex):Prop where
 |num (h:e.op=oNum) (hk:e.kids=[]) (ht:(typeF ks e).1=0)
 |ref (h:e.op=oVar∨e.op=oPre) (hk:e.kids=[]) (v:Va) (hv:J1E ks e.text=some v) (ht:(typeF ks e).1=v.type)
 |ite (h:e.op=oIf) (a b c:Ex) (hk:e.kids=[a,b,c]) (ha:(typeF ks a).1=1) (hb:(typeF ks b).1=(typeF ks e).1) (hc:(typeF ks c).1=(typeF ks e).1)
 |bin (h:e.op=oAnd∨e.op=oOr) (a b:Ex) (hk:e.kids=[a,b]) (ha:(typeF ks a).1=1) (hb:(typeF ks b).1=1) (ht:(typeF ks e).1=1)
 |eq (h:e.op=oEq∨e.op=oNe) (a b:Ex) (hk:e.kids=[a,b]) (hab:(typeF ks a).1=(typeF ks b).1) (ht:(typeF ks e).1=1)
 |time (h:e.op=oTime) (hk:e.kids=[]) (ht:(typeF ks e).1=0)
 |const (h:e.op=oTrue∨e.op=oFalse∨e.op=oInit) (hk:e.kids=[]) (ht:(typeF ks e).1=1)
 |neg (h:e.op=oNeg) (a:Ex) (hk:e.kids=[a]) (ha:(typeF ks a).1≠1) (ht:(typeF ks e).1=0)
 |not (h:e.op=oNot) (a:Ex) (hk:e.kids=[a]) (ha:(typeF ks a).1=1) (ht:(typeF ks e).1=1)
 |sample (h:e.op=oSample) (a b:Ex) (hk:e.kids=[a,b]) (ha:a.op=oNum) (hb:b.op=oNum) (h0:b.text≠⟨#[48]⟩) (ht:(typeF ks e).1=1)
 |arith (h:e.op=oAdd∨e.op=oSub∨e.op=oMul∨e.op=oDiv) (a b:Ex) (hk:e.kids=[a,b]) (ha:(typeF ks a).1≠1) (hb:(typeF ks b).1≠1) (ht:(typeF ks e).1=0)
 |comp (h:e.op=oLess∨e.op=oAtMost∨e.op=oMore∨e.op=oAtLeast) (a b:Ex) (hk:e.kids=[a,b]) (ha:(typeF ks a).1≠1) (hb:(typeF ks b).1≠1) (ht:(typeF ks e).1=1)
theorem nil0 {α:Type}{l:List α}(h:(l.length:Int)=0):l=[]:=List.eq_nil_of_length_eq_zero (by omega)
theorem J4s {ks:List (ByteArray×Va)}{e:Ex}(hb:builtF e=true)(ht:(typeF ks e).2=true):Shape ks e:=by
 have hl:=(J0B hb).1
 have hsm:J6l e.op e.kids (e.kids.map builtF)=false:=by
  rw[J1C] at hb;simp only[Bool.and_eq_true,Bool.not_eq_true'] at hb;exact hb.1.2
 have htt:=J81 ks e;rw[htt] at ht;unfold JEO at ht htt;split at ht
 ·rename_i h;rw[if_pos h] at htt;rw[show J1P e.op=0 by unfold J1P;rw[if_pos h]] at hl
  cases ha:J1E ks e.text with
  |none=>rw[ha] at ht;cases ht
  |some v=>
    rw[ha] at htt;exact .ref h (nil0 hl) v ha (by rw[htt])
 ·rename_i h0;rw[if_neg h0] at htt;split at ht
  ·rename_i h;rw[if_pos h] at htt;rw[show J1P e.op=2 by unfold J1P;rw[if_neg h0,if_pos h]] at hl;obtain ⟨a,b,he⟩:=len2 hl;rw[he] at ht;have ht:((typeF ks a).2&&(typeF ks b).2&&decide ((typeF ks a).1=(typeF ks b).1))=true:=ht;simp only[Bool.and_eq_true,decide_eq_true_eq] at ht;exact .eq h a b he ht.2 (by rw[htt])
  ·rename_i h1;rw[if_neg h1] at htt;split at ht
   ·rename_i h;rw[if_pos h] at htt;rw[show J1P e.op=3 by unfold J1P;rw[if_neg h0,if_neg h1,if_pos h]] at hl;obtain ⟨a,b,c,he⟩:=JL5 hl;rw[he] at ht htt;have ht:((typeF ks a).2&&((typeF ks b).2&&(typeF ks c).2&&decide ((typeF ks b).1=(typeF ks c).1))&&decide ((typeF ks a).1=1))=true:=ht;simp only[Bool.and_eq_true,decide_eq_true_eq] at ht;have h5:(typeF ks e).1=(typeF ks b).1:=by rw[htt];rfl
    exact .ite h a b c he ht.2 h5.symm (by rw[h5];exact ht.1.2.2.symm)
   ·rename_i h2;rw[if_neg h2] at htt;split at ht
    ·cases ht
    ·rename_i h3;rw[if_neg h3] at htt;have h3:=JJ9 (Bool.eq_false_iff.2 h3)
     have hkk:J1P e.op=match J1E shp e.op with|none=>-1|some x=>x.1:=by unfold J1P;rw[if_neg h0,if_neg h1,if_neg h2];try rfl
     cases hs:J1E shp e.op with
     |none=>rw[hs] at hkk;rw[hkk] at hl;simp only at hl;omega
     |some x=>
       rw[hs] at hkk;have hx:shpD e.op=x:=by unfold shpD;rw[hs]
       rw[hx] at h3 htt;replace hkk:(e.kids.length:Int)=x.1:=by rw[hl,hkk]
       have ht1:(typeF ks e).1=if x.2.2 then 1 else 0:=by rw[htt]
       have hkt:∀ k∈e.kids,decide ((typeF ks k).1=1)=x.2.1:=fun k hk=>(h3 _ (List.mem_map.2 ⟨k,hk,rfl⟩)).2
       rcases JEi hs with h|⟨h,rfl⟩|⟨h,rfl⟩|⟨h,rfl⟩|⟨h,rfl⟩|⟨h,rfl⟩|⟨h,rfl⟩|⟨h,rfl⟩|⟨h,rfl⟩
       ·have hn:x=(0,false,false):=by
         rw[h] at hs;exact (Option.some.inj (hs.symm.trans (by rfl:J1E shp oNum=some (0,false,false))))
        subst hn;exact .num h (nil0 hkk) ht1
       ·obtain ⟨a,b,he⟩:=len2 hkk;rw[he] at hkt;exact .bin h a b he (of_decide_eq_true (hkt a (by simp))) (of_decide_eq_true (hkt b (by simp))) ht1
       ·exact .time h (nil0 hkk) ht1
       ·exact .const h (nil0 hkk) ht1
       ·obtain ⟨a,he⟩:=len1 hkk;rw[he] at hkt;exact .neg h a he (of_decide_eq_false (hkt a (by simp))) ht1
       ·obtain ⟨a,he⟩:=len1 hkk;rw[he] at hkt;exact .not h a he (of_decide_eq_true (hkt a (by simp))) ht1
       ·obtain ⟨a,b,he⟩:=len2 hkk;rw[he] at hkt hsm;unfold J6l at hsm;rw[decide_eq_true h,Bool.true_and] at hsm;simp only[List.map_cons,Bool.or_eq_false_iff,Bool.not_eq_false',decide_eq_true_eq,decide_eq_false_iff_not] at hsm;exact .sample h a b he hsm.1.1.1.1 hsm.1.1.1.2 hsm.2 ht1
       ·obtain ⟨a,b,he⟩:=len2 hkk;rw[he] at hkt;exact .arith h a b he (of_decide_eq_false (hkt a (by simp))) (of_decide_eq_false (hkt b (by simp))) ht1
       ·obtain ⟨a,b,he⟩:=len2 hkk;rw[he] at hkt;exact .comp h a b he (of_decide_eq_false (hkt a (by simp))) (of_decide_eq_false (hkt b (by simp))) ht1
def IsOp (o:ByteArray):Prop:=o≠oNum∧¬(o=oVar∨o=oPre)∧¬(o=oIf∨o=oAnd∨o=oOr)
theorem JHs {o:ByteArray}(h:o∈[oEq,oNe,oTime,oTrue,oFalse,oInit,oNeg,oNot,oSample,oAdd,oSub,oMul,oDiv,oLess,oAtMost,oMore,oAtLeast]):IsOp o:=by
 have:(([oEq,oNe,oTime,oTrue,oFalse,oInit,oNeg,oNot,oSample,oAdd,oSub,oMul,oDiv,oLess,oAtMost,oMore,oAtLeast]:List ByteArray).all fun o=>!decide (o=oNum)&&!(decide (o=oVar)||decide (o=oPre))&&!(decide (o=oIf)||decide (o=oAnd)||decide (o=oOr)))=true:=by kernel_rfl
 have:=List.all_eq_true.1 this o h;simp only[Bool.and_eq_true,Bool.not_eq_true',Bool.or_eq_false_iff,decide_eq_false_iff_not] at this;exact ⟨this.1.1,by rintro (h|h);exact this.1.2.1 h;exact this.1.2.2 h,by rintro (h|h|h);exact this.2.1.1 h;exact this.2.1.2 h;exact this.2.2 h⟩
theorem J3D {o:ByteArray}(h:o=oIf∨o=oAnd∨o=oOr):o≠oNum∧¬(o=oVar∨o=oPre):=by rcases h with rfl|rfl|rfl<;>exact ⟨by decide,by decide⟩
section
variable {ks:List (ByteArray×Va)} {ev:Ev} {o t:ByteArray} {n:Int} {rs:List (Except Int Vl)}
theorem J2d (h:o=oNum):J4L ks ev o t n rs=.ok (.num (numV t)):=by unfold J4L;rw[if_pos h]
theorem J5x (h:o=oVar∨o=oPre):J4L ks ev o t n rs=J1c ks ev ⟨t,n,decide (o=oPre)⟩:=by
 unfold J4L;rw[if_neg (by rcases h with rfl|rfl<;>decide),if_pos h]
theorem J3b (h:o=oIf∨o=oAnd∨o=oOr):J4L ks ev o t n rs=match rs.getD 0 (.error 0) with
  |.error c=>.error c
  |.ok v=>match J29 o v.truth with
    |some i=>rs.getD i (.error 0)
    |none=>.ok v:=by
 unfold J4L;rw[if_neg (J3D h).1,if_neg (J3D h).2,if_pos h]
 try rfl
theorem J8R (h:IsOp o):J4L ks ev o t n rs=match seqR rs with
  |.error c=>.error c
  |.ok vs=>wayF ev o vs:=by
 unfold J4L;rw[if_neg h.1,if_neg h.2.1,if_neg h.2.2]
 try rfl
end
theorem Shape.isOp {ks:List (ByteArray×Va)}{e:Ex}(h:Shape ks e):e.op=oNum∨(e.op=oVar∨e.op=oPre)∨(e.op=oIf∨e.op=oAnd∨e.op=oOr)∨IsOp e.op:=by
 rcases h with ⟨h⟩|⟨h⟩|⟨h⟩|⟨h⟩|⟨h⟩|⟨h⟩|⟨h⟩|⟨h⟩|⟨h⟩|⟨h⟩|⟨h⟩|⟨h⟩
 ·exact .inl h
 ·exact .inr (.inl h)
 ·exact .inr (.inr (.inl (.inl h)))
 ·exact .inr (.inr (.inl (.inr h)))
 all_goals
  refine .inr (.inr (.inr (JHs ?_)))
  first|(rcases h with h|h|h|h)|(rcases h with h|h|h)|(rcases h with h|h)|skip
 all_goals rw[h];simp
theorem J3M {ks:List (ByteArray×Va)}{ev:Ev}{e:Ex}(hb:builtF e=true)(hs:Shape ks e)(ho:IsOp e.op)(hk:∀ k∈e.kids,∀ v,evalF ks ev k=.ok v→v.type=(typeF ks k).1){vs:List Vl}(h:e.kids.map (evalF ks ev)=vs.map .ok):JHA e.op vs:=by
 have two:∀ {a b:Ex},e.kids=[a,b]→∃ x y,vs=[x,y]∧x.type=(typeF ks a).1∧y.type=(typeF ks b).1∧evalF ks ev a=.ok x∧evalF ks ev b=.ok y:=by
  intro a b he;rw[he] at h hk
  rcases vs with _|⟨x,_|⟨y,_|⟨z,r⟩⟩⟩<;>simp at h
  exact ⟨x,y,rfl,hk a (by simp) x h.1,hk b (by simp) y h.2,h.1,h.2⟩
 have one:∀ {a:Ex},e.kids=[a]→∃ x,vs=[x]∧x.type=(typeF ks a).1:=by
  intro a he;rw[he] at h hk
  rcases vs with _|⟨x,_|⟨z,r⟩⟩<;>simp at h
  exact ⟨x,rfl,hk a (by simp) x h⟩
 have number:∀ {v:Vl} {t:Int},v.type=t→t≠1→∃ q,v=.num q:=by
  intro v t h1 h2
  rcases ty01 v with ⟨_,h⟩|⟨h,_⟩
  ·exact h
  ·exact absurd (h1.symm.trans h) h2
 have truth:∀ {v:Vl} {t:Int},v.type=t→t=1→∃ b,v=.tr b:=by
  intro v t h1 h2
  rcases ty01 v with ⟨h,_⟩|⟨_,h⟩
  ·rw[h1,h2] at h;cases h
  ·exact h
 rcases hs with ⟨h1⟩|⟨h1⟩|⟨h1⟩|⟨h1⟩|⟨h1,a,b,he,hab,_⟩|⟨h1⟩|⟨h1⟩|⟨h1,a,he,ha,_⟩|⟨h1,a,he,ha,_⟩|⟨h1,a,b,he,ha,hb',h0,_⟩|⟨h1,a,b,he,ha,hb',_⟩|⟨h1,a,b,he,ha,hb',_⟩
 ·exact absurd h1 ho.1
 ·exact absurd h1 ho.2.1
 ·exact absurd (.inl h1) ho.2.2
 ·exact absurd (.inr h1) ho.2.2
 ·obtain ⟨x,y,rfl,hx,hy,_⟩:=two he;exact .inr (.inr (.inr (.inr (.inr ⟨h1,x,y,rfl,by rw[hx,hy,hab]⟩))))
 ·exact .inl (.inr (.inr (.inl h1)))
 ·refine .inl ?_
  rcases h1 with h1|h1|h1
  ·exact .inl h1
  ·exact .inr (.inl h1)
  ·exact .inr (.inr (.inr h1))
 ·obtain ⟨x,rfl,hx⟩:=one he;obtain ⟨q,rfl⟩:=number hx ha;exact .inr (.inr (.inl ⟨h1,q,rfl⟩))
 ·obtain ⟨x,rfl,hx⟩:=one he;obtain ⟨q,rfl⟩:=truth hx ha;exact .inr (.inr (.inr (.inl ⟨h1,q,rfl⟩)))
 ·obtain ⟨x,y,rfl,_,_,ex,ey⟩:=two he;rw[J1U,J2d ha] at ex;rw[J1U,J2d hb'] at ey;cases ex;cases ey;refine .inr (.inl ⟨h1,_,_,rfl,fun hq=>h0 (JFC ?_ hq)⟩);have hbb:=(J0B hb).2 b (by rw[he];simp);rw[J1C] at hbb;simp only[Bool.and_eq_true] at hbb;have hx:=hbb.1.1.2;unfold textF at hx;rw[if_pos hb'] at hx;simp only[Bool.and_eq_true] at hx;exact hx.1
 ·obtain ⟨x,y,rfl,hx,hy,_⟩:=two he;obtain ⟨p,rfl⟩:=number hx ha;obtain ⟨q,rfl⟩:=number hy hb';refine .inr (.inr (.inr (.inr (.inl ⟨?_,p,q,rfl⟩))))
  rcases h1 with h1|h1|h1|h1<;>simp[h1]
 ·obtain ⟨x,y,rfl,hx,hy,_⟩:=two he;obtain ⟨p,rfl⟩:=number hx ha;obtain ⟨q,rfl⟩:=number hy hb';refine .inr (.inr (.inr (.inr (.inl ⟨?_,p,q,rfl⟩))))
  rcases h1 with h1|h1|h1|h1<;>simp[h1]
def typeW (o:ByteArray):Int:=if o=oTime∨o=oNeg∨o=oAdd∨o=oSub∨o=oMul∨o=oDiv then 0 else 1
theorem JJP {ev:Ev}{o:ByteArray}{vs:List Vl}(hw:JHA o vs){v:Vl}(h:wayF ev o vs=.ok v):v.type=typeW o:=by
 rcases hw with h1|⟨rfl,p,q,rfl,h0⟩|⟨rfl,p,rfl⟩|⟨rfl,c,rfl⟩|⟨h1,p,q,rfl⟩|⟨h1,a,b,rfl,hab⟩
 ·rcases h1 with rfl|rfl|rfl|rfl<;>(cases h;rfl)
 ·replace h:(.ok (.tr (multF (ev.time-p) q)):Except Int Vl)=.ok v:=h;cases h;rfl
 ·replace h:(.ok (.num (-p)):Except Int Vl)=.ok v:=h;cases h;rfl
 ·replace h:(.ok (.tr (!c)):Except Int Vl)=.ok v:=h;cases h;rfl
 ·rcases h1 with rfl | rfl | rfl | rfl | rfl | rfl | rfl | rfl
  ·replace h:(.ok (.num (p+q)):Except Int Vl)=.ok v:=h;cases h;rfl
  ·replace h:(.ok (.num (p-q)):Except Int Vl)=.ok v:=h;cases h;rfl
  ·replace h:(.ok (.num (p*q)):Except Int Vl)=.ok v:=h;cases h;rfl
  ·replace h:divV p q=.ok v:=h;unfold divV at h;split at h
   ·cases h
   ·cases h;rfl
  ·replace h:(.ok (.tr (decide (p<q))):Except Int Vl)=.ok v:=h;cases h;rfl
  ·replace h:(.ok (.tr (decide (p≤q))):Except Int Vl)=.ok v:=h;cases h;rfl
  ·replace h:(.ok (.tr (decide (q<p))):Except Int Vl)=.ok v:=h;cases h;rfl
  ·replace h:(.ok (.tr (decide (q≤p))):Except Int Vl)=.ok v:=h;cases h;rfl
 ·rcases a with p | x<;>rcases b with q | y<;>first | (cases hab;done) | skip
  ·rcases h1 with rfl | rfl
   ·replace h:(.ok (.tr (sameV (.num p) (.num q))):Except Int Vl)=.ok v:=h;cases h;rfl
   ·replace h:(.ok (.tr (!sameV (.num p) (.num q))):Except Int Vl)=.ok v:=h;cases h;rfl
  ·rcases h1 with rfl | rfl
   ·replace h:(.ok (.tr (sameV (.tr x) (.tr y))):Except Int Vl)=.ok v:=h;cases h;rfl
   ·replace h:(.ok (.tr (!sameV (.tr x) (.tr y))):Except Int Vl)=.ok v:=h;cases h;rfl
theorem Shape.typeW {ks:List (ByteArray×Va)}{e:Ex}(hs:Shape ks e)(ho:IsOp e.op):(typeF ks e).1=typeW e.op:=by
 rcases hs with ⟨h1⟩|⟨h1⟩|⟨h1⟩|⟨h1⟩|⟨h1,a,b,he,hab,ht⟩|⟨h1,he,ht⟩|⟨h1,he,ht⟩|⟨h1,a,he,ha,ht⟩|⟨h1,a,he,ha,ht⟩|⟨h1,a,b,he,ha,hb',h0,ht⟩|⟨h1,a,b,he,ha,hb',ht⟩|⟨h1,a,b,he,ha,hb',ht⟩
 ·exact absurd h1 ho.1
 ·exact absurd h1 ho.2.1
 ·exact absurd (.inl h1) ho.2.2
 ·exact absurd (.inr h1) ho.2.2
 all_goals
  rw[ht]
  first|(rcases h1 with h1|h1|h1|h1)|(rcases h1 with h1|h1|h1)|(rcases h1 with h1|h1)|skip
 all_goals (rw[h1];rfl)
theorem J8S {ks:List (ByteArray×Va)}{ev:Ev}(e:Ex):builtF e=true→(typeF ks e).2=true→∀ v,evalF ks ev e=.ok v→v.type=(typeF ks e).1:=by
 induction e using J1y with
 |h e ih=>
   intro hb ht v h;have ihk:∀ k∈e.kids,∀ v,evalF ks ev k=.ok v→v.type=(typeF ks k).1:=fun k hk=>ih k hk ((J0B hb).2 k hk) (J0w hb ht k hk);have hs:=J4s hb ht;rw[J1U] at h
   by_cases ho:IsOp e.op
   ·rw[J8R ho] at h;split at h
    ·cases h
    ·rename_i vs hvs;rw[hs.typeW ho];exact JJP (J3M hb hs ho ihk (J86 hvs)) h
   rcases hs with ⟨h1,he,ht'⟩|⟨h1,he,w,hw,ht'⟩|⟨h1,a,b,c,he,ha,hb',hc⟩|⟨h1,a,b,he,ha,hb',ht'⟩|⟨h1⟩|⟨h1⟩|⟨h1⟩|⟨h1⟩|⟨h1⟩|⟨h1⟩|⟨h1⟩|⟨h1⟩
   ·rw[J2d h1] at h;cases h;rw[ht'];rfl
   ·rw[J5x h1] at h;rw[JIU h,ht'];show J80 ks e.text=w.type
    unfold J80;rw[hw]
   ·rw[J3b (.inl h1),he] at h;rw[he] at ihk
    have h:(match evalF ks ev a with
     |.error c=>.error c
     |.ok v=>match J29 e.op v.truth with
       |some i=>(List.map (evalF ks ev) [a,b,c]).getD i (.error 0)
       |none=>.ok v)=Except.ok v:=h
    split at h
    ·cases h
    ·rename_i x hx;unfold J29 at h;rw[if_pos h1] at h;cases hxt:x.truth
     ·rw[hxt] at h;have h:evalF ks ev c=.ok v:=h;rw[ihk c (by simp) v h,hc]
     ·rw[hxt] at h;have h:evalF ks ev b=.ok v:=h;rw[ihk b (by simp) v h,hb']
   ·rw[J3b (.inr h1),he] at h;rw[he] at ihk
    have h:(match evalF ks ev a with
     |.error c=>.error c
     |.ok v=>match J29 e.op v.truth with
       |some i=>(List.map (evalF ks ev) [a,b]).getD i (.error 0)
       |none=>.ok v)=Except.ok v:=h
    split at h
    ·cases h
    ·rename_i x hx;unfold J29 at h;rw[if_neg (by rcases h1 with h1 | h1<;>rw[h1]<;>decide)] at h
     by_cases hd:decide (e.op=oAnd)=x.truth
     ·rw[if_pos hd] at h;have h:evalF ks ev b=.ok v:=h;rw[ihk b (by simp) v h,hb',ht']
     ·rw[if_neg hd] at h;cases h;rw[ihk a (by simp) v hx,ha,ht']
   all_goals
    exfalso;refine ho (JHs ?_)
    first|(rcases h1 with h1|h1|h1|h1)|(rcases h1 with h1|h1|h1)|(rcases h1 with h1|h1)|skip
   all_goals rw[h1];simp
theorem JBX {ev:Ev}{o:ByteArray}{vs:List Vl}(hw:JHA o vs){c:Int}(h:wayF ev o vs=.error c):c=12:=by
 rcases hw with h1|⟨rfl,p,q,rfl,h0⟩|⟨rfl,p,rfl⟩|⟨rfl,x,rfl⟩|⟨h1,p,q,rfl⟩|⟨h1,a,b,rfl,hab⟩
 ·rcases h1 with rfl|rfl|rfl|rfl<;>cases h
 ·replace h:(.ok (.tr (multF (ev.time-p) q)):Except Int Vl)=.error c:=h;cases h
 ·replace h:(.ok (.num (-p)):Except Int Vl)=.error c:=h;cases h
 ·replace h:(.ok (.tr (!x)):Except Int Vl)=.error c:=h;cases h
 ·rcases h1 with rfl | rfl | rfl | rfl | rfl | rfl | rfl | rfl
  ·replace h:(.ok (.num (p+q)):Except Int Vl)=.error c:=h;cases h
  ·replace h:(.ok (.num (p-q)):Except Int Vl)=.error c:=h;cases h
  ·replace h:(.ok (.num (p*q)):Except Int Vl)=.error c:=h;cases h
  ·replace h:divV p q=.error c:=h;unfold divV at h;split at h
   ·cases h;rfl
   ·cases h
  ·replace h:(.ok (.tr (decide (p<q))):Except Int Vl)=.error c:=h;cases h
  ·replace h:(.ok (.tr (decide (p≤q))):Except Int Vl)=.error c:=h;cases h
  ·replace h:(.ok (.tr (decide (q<p))):Except Int Vl)=.error c:=h;cases h
  ·replace h:(.ok (.tr (decide (q≤p))):Except Int Vl)=.error c:=h;cases h
 ·rcases a with p | x<;>rcases b with q | y<;>first | (cases hab;done) | skip
  ·rcases h1 with rfl | rfl
   ·replace h:(.ok (.tr (sameV (.num p) (.num q))):Except Int Vl)=.error c:=h;cases h
   ·replace h:(.ok (.tr (!sameV (.num p) (.num q))):Except Int Vl)=.error c:=h;cases h
  ·rcases h1 with rfl | rfl
   ·replace h:(.ok (.tr (sameV (.tr x) (.tr y))):Except Int Vl)=.error c:=h;cases h
   ·replace h:(.ok (.tr (!sameV (.tr x) (.tr y))):Except Int Vl)=.error c:=h;cases h
theorem J87:∀ {rs:List (Except Int Vl)} {c:Int},seqR rs=.error c→.error c∈rs
 |.error d::r,c,h=>by cases h;exact List.mem_cons_self
 |.ok v::r,c,h=>by
   unfold seqR at h;split at h
   ·cases h
   ·rename_i d hd;cases h;exact List.mem_cons_of_mem _ (J87 hd)
def ErrC (c:Int):Prop:=c=5∨c=7∨c=12
theorem J5y {ks:List (ByteArray×Va)}{ev:Ev}(e:Ex):builtF e=true→(typeF ks e).2=true→∀ c,evalF ks ev e=.error c→ErrC c:=by
 induction e using J1y with
 |h e ih=>
   intro hb ht c h;have ihk:∀ k∈e.kids,∀ c,evalF ks ev k=.error c→ErrC c:=fun k hk=>ih k hk ((J0B hb).2 k hk) (J0w hb ht k hk);have hty:∀ k∈e.kids,∀ v,evalF ks ev k=.ok v→v.type=(typeF ks k).1:=fun k hk=>J8S k ((J0B hb).2 k hk) (J0w hb ht k hk);have hs:=J4s hb ht;rw[J1U] at h
   by_cases ho:IsOp e.op
   ·rw[J8R ho] at h;split at h
    ·rename_i d hd;cases h;obtain ⟨k,hk,h⟩:=List.mem_map.1 (J87 hd);exact ihk k hk _ h
    ·rename_i vs hvs;exact .inr (.inr (JBX (J3M hb hs ho hty (J86 hvs)) h))
   rcases hs with ⟨h1,he,ht'⟩|⟨h1,he,w,hw,ht'⟩|⟨h1,a,b,x,he,ha,hb',hc⟩|⟨h1,a,b,he,ha,hb',ht'⟩|⟨h1⟩|⟨h1⟩|⟨h1⟩|⟨h1⟩|⟨h1⟩|⟨h1⟩|⟨h1⟩|⟨h1⟩
   ·rw[J2d h1] at h;cases h
   ·rw[J5x h1] at h;unfold J1c at h;split at h
    ·cases h;exact .inl rfl
    ·split at h
     ·cases h;exact .inr (.inl rfl)
     ·cases h
   ·rw[J3b (.inl h1),he] at h;rw[he] at ihk
    have h:(match evalF ks ev a with
     |.error c=>.error c
     |.ok v=>match J29 e.op v.truth with
       |some i=>(List.map (evalF ks ev) [a,b,x]).getD i (.error 0)
       |none=>.ok v)=Except.error c:=h
    split at h
    ·rename_i d hd;cases h;exact ihk a (by simp) _ hd
    ·rename_i y hy;unfold J29 at h;rw[if_pos h1] at h;cases hxt:y.truth
     ·rw[hxt] at h;exact ihk x (by simp) c h
     ·rw[hxt] at h;exact ihk b (by simp) c h
   ·rw[J3b (.inr h1),he] at h;rw[he] at ihk
    have h:(match evalF ks ev a with
     |.error c=>.error c
     |.ok v=>match J29 e.op v.truth with
       |some i=>(List.map (evalF ks ev) [a,b]).getD i (.error 0)
       |none=>.ok v)=Except.error c:=h
    split at h
    ·rename_i d hd;cases h;exact ihk a (by simp) _ hd
    ·rename_i y hy;unfold J29 at h;rw[if_neg (by rcases h1 with h1 | h1<;>rw[h1]<;>decide)] at h
     by_cases hd:decide (e.op=oAnd)=y.truth
     ·rw[if_pos hd] at h;exact ihk b (by simp) c h
     ·rw[if_neg hd] at h;cases h
   all_goals
    exfalso;refine ho (JHs ?_)
    first|(rcases h1 with h1|h1|h1|h1)|(rcases h1 with h1|h1|h1)|(rcases h1 with h1|h1)|skip
   all_goals rw[h1];simp
theorem ErrC.ne {c:Int}(h:ErrC c):¬ c=0:=by rcases h with rfl|rfl|rfl<;>decide
def evFn (ks:List (ByteArray×Va))(ev:Ev):Nat→AV
 |0=>.dead
 |n+1=>.fn (.func 188) [] [.ep (encK ks) 0,.ep (J13 ev) 0,.ep (evFn ks ev n) 0,.ep wayM 0]
theorem JHr {e k:Ex}(h:k∈e.kids):SizeOf.sizeOf k<SizeOf.sizeOf e:=by
 cases e with
 |mk o t m ks=>
   have:=List.sizeOf_lt_of_mem (show k∈ks from h);simp;omega
theorem J7w:∀ es:List Ex,es.length≤wtL es
 |[]=>Nat.zero_le _
 |e::es=>by
   unfold wtL;have:=J7w es;have:=J5A e;simp only[List.length_cons];omega
theorem JLk {b p e n:Nat}{H:Hp}{out:List Vl}(hb:H b=some (p,⟨e,6,out.map J0A⟩))(hn:n=out.length):snap [b] H (.own b p 0 n)=J4M out:=by
 rw[J4r (by simp) hb (by simp[hn]),J1K _ _ _ _ hn fun v=>by cases v<;>rfl];rfl
def JD8 (ev:Ev)(o:ByteArray)(vs:List Vl)(rs:List (Except Int Vl)):Except Int Vl:=match seqR rs with
 |.error c=>.error c
 |.ok r=>wayF ev o (vs++r)
theorem JHY (ev:Ev)(o:ByteArray)(vs:List Vl)(v:Vl)(rs:List (Except Int Vl)):JD8 ev o vs (.ok v::rs)=JD8 ev o (vs++[v]) rs:=by
 unfold JD8;rw[show seqR (.ok v::rs)=match seqR rs with|.ok l=>.ok (v::l)|.error c=>.error c from rfl]
 cases seqR rs with
 |error c=>rfl
 |ok l=>simp
def hpE (g5 g6 gl:Nat)(e:AV)(vs:List Vl):List (Nat×Nat×Blk):=[(5,g5,⟨29,4,[e]⟩),(6,g6,⟨148,6,[J0q nilQ false false]⟩),(93,gl,⟨148,6,vs.map J0A⟩)]
theorem JIe (ks:List (ByteArray×Va))(ev:Ev)(he:EvOk ev)(e:Ex):SzE e→TxE e→builtF e=true→(typeF ks e).2=true→wtF e≤1000→∀ n,SizeOf.sizeOf e≤n →
  PX 188 [encE e,.ep (encK ks) 0,.ep (J13 ev) 0,.ep (evFn ks ev n) 0,.ep wayM 0] (J1p (evalF ks ev e)):=by
 induction e using J1y with
 |h e ih=>
   intro hz hx hb ht hw n hn;have hpos:0<SizeOf.sizeOf e:=by cases e;simp;omega
   obtain ⟨m,rfl⟩:∃ m,n=m+1:=⟨n-1,by omega⟩;have hm:∀ k∈e.kids,SizeOf.sizeOf k≤m:=fun k hk=>by have:=JHr hk;omega
   have ihk:∀ k∈e.kids,PX 188 [encE k,.ep (encK ks) 0,.ep (J13 ev) 0,.ep (evFn ks ev m) 0,.ep wayM 0] (J1p (evalF ks ev k)):=
    fun k hk=>ih k hk (hz.kid k hk) (hx.kid k hk) ((J0B hb).2 k hk) (J0w hb ht k hk) (by have:=JIn hk;omega) m (hm k hk)
   clear ih;have hty:∀ k∈e.kids,∀ v,evalF ks ev k=.ok v→v.type=(typeF ks k).1:=fun k hk=>J8S k ((J0B hb).2 k hk) (J0w hb ht k hk);have herr:∀ k∈e.kids,∀ c,evalF ks ev k=.error c→¬ c=0:=fun k hk c h=>(J5y k ((J0B hb).2 k hk) (J0w hb ht k hk) c h).ne;have hsz:∀ k∈e.kids,∀ v,evalF ks ev k=.ok v→v.sz≤301*wtF k:=fun k hk=>JCD he k ((J0B hb).2 k hk);have hs:=J4s hb ht;have hso:=hs.isOp;have hwt:wtL e.kids≤1000:=by have:=J5A e;omega
   have hlen:e.kids.length≤1000:=Nat.le_trans (J7w _) hwt;have htx:=hx.tx
   have htxt:e.op=oNum→(J06 e.text.data.toList).2=true:=by
    intro h1;have hx:textF e=true:=by rw[J1C] at hb;simp only[Bool.and_eq_true] at hb;exact hb.1.1.2
    unfold textF at hx;rw[if_pos h1] at hx;simp only[Bool.and_eq_true] at hx;exact hx.1
   have hUse:=JJB e;have hBound:=JIh ks ev (useF e);have hway:=fun (vs:List Vl) (ho:IsOp e.op) (h:e.kids.map (evalF ks ev)=vs.map .ok)=>J3M hb hs ho hty h
   have hfirst:e.op=oIf∨e.op=oAnd∨e.op=oOr→0<e.kids.length∧∀ t i,J29 e.op t=some i→i<e.kids.length:=by
    intro h
    rcases hs with ⟨h1⟩|⟨h1⟩|⟨h1,a,b,c,hk,_⟩|⟨h1,a,b,hk,_⟩|⟨h1⟩|⟨h1⟩|⟨h1⟩|⟨h1⟩|⟨h1⟩|⟨h1⟩|⟨h1⟩|⟨h1⟩
    ·exact absurd h1 (J3D h).1
    ·exact absurd h1 (J3D h).2
    ·rw[hk];refine ⟨by simp,fun t i hi=>?_⟩;unfold J29 at hi;rw[if_pos h1] at hi;cases t<;>cases hi<;>simp
    ·rw[hk];refine ⟨by simp,fun t i hi=>?_⟩;unfold J29 at hi;rw[if_neg (by rcases h1 with h1 | h1<;>rw[h1]<;>decide)] at hi;split at hi
     ·cases hi;simp
     ·cases hi
    all_goals
     exfalso
     have hop:IsOp e.op:=JHs (by
      first|(rcases h1 with h1|h1|h1|h1)|(rcases h1 with h1|h1|h1)|(rcases h1 with h1|h1)|skip
      all_goals rw[h1];simp)
     exact hop.2.2 h
   have hNext:=fun t=>JKb e t;clear hz hx hb ht hw hn hm hs;refine PZ Tryz.func188 rfl ?_;generalize hF:evalF ks ev e=F;rw[J1U] at hF;rw[J02] at hUse hNext ⊢;generalize hus:useF e=us at *;obtain ⟨o,t,od,es⟩:=e;simp only[Ex.op,Ex.text,Ex.order,Ex.kids] at *
   rcases hso with h1|h1|h1|h1
   ·rw[J2d h1] at hF;obtain ⟨hq1,hq2⟩:=J4G (htxt h1);have hp:=J22 t.data.toList htx;rw[J17,J9J,← hq1] at hp;have hN:=J23 (numV t);generalize numV t=q at *;generalize (J06 t.data.toList).2=b at *;unfold encF encQ at hp;(refine kWS ?_;repeat intro γ);refine J00 [] _ c134 hp ?_;(refine kWS ?_;repeat intro γ);refine J00 [] _ c189 hN ?_;(refine kWS ?_;repeat intro γ);exact .of (by rw[← hF];rfl)
   ·rw[J5x h1] at hF;replace hF:J1c ks ev us=F:=by rw[← hus];exact hF
    rw[hF] at hBound
    have hcond:¬ o=oNum:=by rcases h1 with rfl|rfl<;>decide
    by_cases h2:o=oVar
    case' neg=>have h3:o=oPre:=h1.resolve_left h2
    all_goals
     (refine kWS ?_;repeat intro γ);refine CallG.intro _ c145 hUse ?_;(refine kWS ?_;repeat intro γ);refine CallG.intro _ c190 hBound ?_
     rcases F with c|q|b
     all_goals
      (refine kWS ?_;repeat intro γ);exact .of rfl
   ·rw[J3b h1] at hF;have n1:¬ o=oNum:=(J3D h1).1;have n2:¬ o=oVar:=fun h=>(J3D h1).2 (.inl h);have n3:¬ o=oPre:=fun h=>(J3D h1).2 (.inr h);obtain ⟨hl0,hnx⟩:=hfirst h1;have hk0:=ihk _ (List.getElem_mem hl0);have he0:=herr _ (List.getElem_mem hl0);have h0:(es.map (evalF ks ev)).getD 0 (.error 0)=evalF ks ev es[0]:=by rw[List.getD_eq_getElem?_getD,List.getElem?_map,List.getElem?_eq_getElem hl0];rfl
    rw[h0] at hF
    have g0:(es.map encE).getD (Int.toNat 0) .dead=encE es[0]:=by
     show (es.map encE).getD 0 .dead=_
     rw[List.getD_eq_getElem?_getD,List.getElem?_map,List.getElem?_eq_getElem hl0];rfl
    generalize es[0]=k0 at *
    by_cases h4:o=oIf
    case' neg=>
     by_cases h5:o=oAnd
     case' neg=>have h6:o=oOr:=(h1.resolve_left h4).resolve_left h5
    all_goals
     rw[J02] at g0 hk0;(refine kWS ?_;repeat intro γ);rw[g0];(refine kWS ?_;repeat intro γ);refine CallG.intro _ c188 hk0 ?_
     rcases hr:evalF ks ev k0 with c|v
     ·rw[hr] at hF;have hc:=he0 c hr;replace hF:Except.error c=F:=hF;(refine kWS ?_;repeat intro γ);exact .of (by rw[← hF];rfl)
     ·rw[hr] at hF;clear he0 hr
      replace hF:(match J29 o v.truth with
       |some i=>(List.map (evalF ks ev) es).getD i (.error 0)
       |none=>.ok v)=F:=hF
      have hN:=hNext v.truth (hnx v.truth);have hnx:=hnx v.truth
      rcases hni:J29 o v.truth with _|i
      ·rw[hni] at hN hF;replace hF:Except.ok v=F:=hF;replace hN:PX 147 [.agg [encS o,encS t,encI od,.sl 4 (es.map encE)],encB v.truth] (.tup [nilE,encB false]):=hN
       rcases v with q|b
       all_goals
        unfold J1p J0A J0q
        try unfold encF encQ
        (refine kWS ?_;repeat intro γ);refine J00 [] _ c147 hN ?_;(refine kWS ?_;repeat intro γ);exact .of (by rw[← hF];rfl)
      ·rw[hni] at hN hF;have hi:=hnx i hni;have hki:=ihk _ (List.getElem_mem hi);have gi:(es.map encE).getD i .dead=encE es[i]:=by rw[List.getD_eq_getElem?_getD,List.getElem?_map,List.getElem?_eq_getElem hi];rfl
       have fi:(es.map (evalF ks ev)).getD i (.error 0)=evalF ks ev es[i]:=by rw[List.getD_eq_getElem?_getD,List.getElem?_map,List.getElem?_eq_getElem hi];rfl
       replace hF:(es.map (evalF ks ev)).getD i (.error 0)=F:=hF;rw[fi] at hF;replace hN:PX 147 [.agg [encS o,encS t,encI od,.sl 4 (es.map encE)],encB v.truth] (.tup [(es.map encE).getD i .dead,encB true]):=hN;rw[gi] at hN;generalize es[i]=k at *;rw[J02 k] at hN hki;rw[hF] at hki
       rcases v with q|b
       all_goals
        unfold J1p J0A J0q
        try unfold encF encQ
        (refine kWS ?_;repeat intro γ);refine J00 [] _ c147 hN ?_;(refine kWS ?_;repeat intro γ);refine J00 [] _ c188 hki ?_
        rcases F with c|q|b
        all_goals
         (refine kWS ?_;repeat intro γ);exact .of rfl
   ·rw[J8R h1] at hF;have n1:¬ o=oNum:=h1.1;have n2:¬ o=oVar:=fun h=>h1.2.1 (.inl h);have n3:¬ o=oPre:=fun h=>h1.2.1 (.inr h);have n4:¬ o=oIf:=fun h=>h1.2.2 (.inl h);have n5:¬ o=oAnd:=fun h=>h1.2.2 (.inr (.inl h));have n6:¬ o=oOr:=fun h=>h1.2.2 (.inr (.inr h));have hsq:∀ vs:List Vl,(es.map (evalF ks ev))=vs.map .ok→Way ev o vs:=fun vs h=>JKo ev o vs (hway vs h1 h) (by have:=JET hsz h;have:=he.1;omega);clear hNext hBound hUse hus hfirst hway hsz hty htxt;replace hF:JD8 ev o [] (es.map (evalF ks ev))=F:=by rw[← hF];rfl
    (refine kWS ?_;repeat intro γ)
    refine LoopP.intro (fun j σ H=>∃ g5 g6 gl i,∃ vs:List Vl,j=es.length-i∧i≤es.length∧(es.take i).map (evalF ks ev)=vs.map .ok∧JD8 ev o vs ((es.drop i).map (evalF ks ev))=F ∧
     σ=fr [(1,.ep (encK ks) 0),(2,.ep (J13 ev) 0),(3,.ep (evFn ks ev (m+1)) 0),(4,.ep wayM 0),(5,.op 5 g5 0 0),(6,.op 6 g6 0 0),(14,.own 93 gl 0 vs.length),(74,.sl 4 (es.map encE)),(75,encI es.length),(76,encI i)] ∧
     H=hp (hpE g5 g6 gl (.agg [encS o,encS t,encI od,.sl 4 (es.map encE)]) vs)) ?_ ?_
    ·exact .intro (JAD 14 93 148 6 rfl rfl fun gl=>W.of ⟨_,_,_,gl,0,[],rfl,Nat.zero_le _,rfl,hF,rfl,rfl⟩ ⟨rfl,rfl,rfl,rfl,rfl,rfl,rfl,rfl,(by rw[List.length_map];rfl),rfl,trivial⟩ ⟨rfl,rfl,rfl,trivial⟩)
    ·clear hF;rintro j σ H ⟨g5,g6,gl,i,vs,rfl,hi,hvs,hF,rfl,rfl⟩;unfold hpE
     have hvl:vs.length=i:=by
      have:=congrArg List.length hvs;rw[List.length_map,List.length_map,List.length_take] at this;omega
     rcases Nat.lt_or_ge i es.length with h9|h9
     ·rw[List.drop_eq_getElem_cons h9,List.map_cons] at hF;have hk:=ihk _ (List.getElem_mem h9);have hek:=herr _ (List.getElem_mem h9);have htk:(es.take (i+1)).map (evalF ks ev)=vs.map .ok++[evalF ks ev es[i]]:=by rw[List.take_succ_eq_append_getElem h9,List.map_append,hvs];rfl
      obtain ⟨k,hkk⟩:∃ k,es[i]=k:=⟨_,rfl⟩;rw[hkk] at hF hk hek htk;rw[J02] at hk;(refine kWQ ?_;repeat intro γ);simp only[hkk,J02];(refine kQ ?_;repeat intro γ);refine J00 [] _ c188 hk ?_
      rcases hr:evalF ks ev k with c|v
      ·have hc:=hek c hr;rw[hr] at hF;replace hF:Except.error c=F:=hF;(refine kWQ ?_;repeat intro γ);exact .of (by rw[← hF];rfl)
      ·rw[hr,JHY] at hF;rw[hr] at htk;have hml:=@List.length_map _ _ vs J0A;clear hek hk
       rcases v with q|b
       ·unfold J1p J0A J0q encF encQ;(refine kWQ ?_;repeat intro γ)
        refine .intro <| W.of ⟨_,by omega,g5,g6,γ,i+1,vs++[.num q],rfl,h9,(by rw[htk,List.map_append];rfl),hF,rfl,rfl⟩ ⟨rfl,rfl,rfl,rfl,rfl,rfl,?_,rfl,rfl,rfl,trivial⟩ ⟨rfl,rfl,?_,trivial⟩
        ·exact congrArg (AV.own 93 _ 0) (by simp)
        ·rw[List.map_append];rfl
       ·unfold J1p J0A J0q;(refine kWQ ?_;repeat intro γ)
        refine .intro <| W.of ⟨_,by omega,g5,g6,γ,i+1,vs++[.tr b],rfl,h9,(by rw[htk,List.map_append];rfl),hF,rfl,rfl⟩ ⟨rfl,rfl,rfl,rfl,rfl,rfl,?_,rfl,rfl,rfl,trivial⟩ ⟨rfl,rfl,?_,trivial⟩
        ·exact congrArg (AV.own 93 _ 0) (by simp)
        ·rw[List.map_append];rfl
     ·obtain rfl:i=es.length:=by omega
      rw[List.drop_length] at hF;rw[List.take_length] at hvs;replace hF:wayF ev o vs=F:=by rw[← hF];unfold JD8 seqR;simp
      obtain ⟨kf,cap,ha,hcap,hcal,hcl⟩:=hsq vs hvs;obtain ⟨r,hr,hm⟩:=J1l (fun x:AV=>x) o wayT;rw[ha] at hm
      cases r with
      |none=>exact hm.elim
      |some ix=>
        replace hm:(wayT.map fun x=>x.2).getD ix .dead=.fn (.func kf) [] cap:=hm;(refine kWQ ?_;repeat intro γ);refine Need.intro keyst9 ?_;refine kW ?_;refine LookP.intro (some ix) hr ?_;refine kW ?_;rw[hm]
        rcases hcap with rfl|⟨x,rfl⟩
        all_goals
         (refine kWQ ?_;repeat intro γ);refine J00 [93] _ hcal (J0U (congrArg (fun z=>J13 ev::z::_) (JLk rfl rfl)) hcl) ?_;rw[hF]
         rcases F with c|q|b
         all_goals
          (refine kWQ ?_;repeat intro γ);exact .of rfl
end Go.Proofs.YtlblbldolhiokaaGreatDoor
namespace Go.Proofs
open Go.Shelf
def Tryz.lays169_ren:Go.Shelf.Ren:=⟨fun|169=>287|n=>n,fun|70=>312|9=>9|0=>0|72=>314|37=>283|127=>355|3=>3|5=>5|n=>n,fun|n=>n⟩
theorem JAG:Go.Proofs.Lays.n169 Tryz.prog Tryz.lays169_ren:={
 mixed:=by kernel_rfl
 f169:=Tryz.func287.trans (congrArg some (by kernel_rfl))
 t0:=Tryz.underlying0
 a0:=Tryz.isAgg0
 z0:=Tryz.sizeOf0
 v0:=Tryz.zeroValue0
 t3:=Tryz.underlying3
 a3:=Tryz.isAgg3
 z3:=Tryz.sizeOf3
 v3:=Tryz.zeroValue3
 t9:=Tryz.underlying9
 a9:=Tryz.isAgg9
 z9:=Tryz.sizeOf9
 v9:=Tryz.zeroValue9
 t37:=Tryz.underlying283
 a37:=Tryz.isAgg283
 z37:=Tryz.sizeOf283
 v37:=Tryz.zeroValue283
 t70:=Tryz.underlying312
 a70:=Tryz.isAgg312
 z70:=Tryz.sizeOf312
 v70:=Tryz.zeroValue312
 t72:=Tryz.underlying314
 a72:=Tryz.isAgg314
 z72:=Tryz.sizeOf314
 v72:=Tryz.zeroValue314
 t127:=Tryz.underlying355
 a127:=Tryz.isAgg355
 z127:=Tryz.sizeOf355
 v127:=Tryz.zeroValue355 }
theorem J2P:Builder.Extra Tryz.prog Tryz.lays169_ren:={
 sizeBuilder:=by kernel_rfl
 liesBuilder:=by kernel_rfl
 t5:=Tryz.underlying5
 a5:=Tryz.isAgg5
 z5:=Tryz.sizeOf5
 v5:=Tryz.zeroValue5
 infoByte:=by kernel_rfl
 cellsByte:=by kernel_rfl
 sizeByte:=by kernel_rfl
 neB5:=by decide }
def Tryz.lays156_ren:Go.Shelf.Ren:=⟨fun|156=>212|165=>299|166=>283|169=>287|240=>331|241=>349|276=>368|277=>374|n=>n,fun|31=>39|9=>9|3=>3|4=>4|0=>0|20=>20|72=>314|76=>317|70=>312|37=>283|75=>316|127=>355|164=>391|5=>5|80=>128|n=>n,fun|n=>n⟩
theorem J10:Go.Proofs.Lays.n156 Tryz.prog Tryz.lays156_ren:={
 mixed:=by kernel_rfl
 f156:=Tryz.func212.trans (congrArg some (by kernel_rfl))
 f165:=Tryz.func299.trans (congrArg some (by kernel_rfl))
 f166:=Tryz.func283.trans (congrArg some (by kernel_rfl))
 f169:=Tryz.func287.trans (congrArg some (by kernel_rfl))
 f240:=Tryz.func331.trans (congrArg some (by kernel_rfl))
 f241:=Tryz.func349.trans (congrArg some (by kernel_rfl))
 f276:=Tryz.func368.trans (congrArg some (by kernel_rfl))
 f277:=Tryz.func374.trans (congrArg some (by kernel_rfl))
 t0:=Tryz.underlying0
 a0:=Tryz.isAgg0
 z0:=Tryz.sizeOf0
 v0:=Tryz.zeroValue0
 t3:=Tryz.underlying3
 a3:=Tryz.isAgg3
 z3:=Tryz.sizeOf3
 v3:=Tryz.zeroValue3
 t4:=Tryz.underlying4
 a4:=Tryz.isAgg4
 z4:=Tryz.sizeOf4
 v4:=Tryz.zeroValue4
 t9:=Tryz.underlying9
 a9:=Tryz.isAgg9
 z9:=Tryz.sizeOf9
 v9:=Tryz.zeroValue9
 t20:=Tryz.underlying20
 a20:=Tryz.isAgg20
 z20:=Tryz.sizeOf20
 v20:=Tryz.zeroValue20
 t31:=Tryz.underlying39
 a31:=Tryz.isAgg39
 z31:=Tryz.sizeOf39
 v31:=Tryz.zeroValue39
 t37:=Tryz.underlying283
 a37:=Tryz.isAgg283
 z37:=Tryz.sizeOf283
 v37:=Tryz.zeroValue283
 t70:=Tryz.underlying312
 a70:=Tryz.isAgg312
 z70:=Tryz.sizeOf312
 v70:=Tryz.zeroValue312
 t72:=Tryz.underlying314
 a72:=Tryz.isAgg314
 z72:=Tryz.sizeOf314
 v72:=Tryz.zeroValue314
 t75:=Tryz.underlying316
 a75:=Tryz.isAgg316
 z75:=Tryz.sizeOf316
 v75:=Tryz.zeroValue316
 t76:=Tryz.underlying317
 a76:=Tryz.isAgg317
 z76:=Tryz.sizeOf317
 v76:=Tryz.zeroValue317
 t127:=Tryz.underlying355
 a127:=Tryz.isAgg355
 z127:=Tryz.sizeOf355
 v127:=Tryz.zeroValue355
 t164:=Tryz.underlying391
 a164:=Tryz.isAgg391
 z164:=Tryz.sizeOf391
 v164:=Tryz.zeroValue391 }
theorem J0S:Builder.Extra Tryz.prog Tryz.lays156_ren:={
 sizeBuilder:=by kernel_rfl
 liesBuilder:=by kernel_rfl
 t5:=Tryz.underlying5
 a5:=Tryz.isAgg5
 z5:=Tryz.sizeOf5
 v5:=Tryz.zeroValue5
 infoByte:=by kernel_rfl
 cellsByte:=by kernel_rfl
 sizeByte:=by kernel_rfl
 neB5:=by decide }
def Tryz.lays105_ren:Go.Shelf.Ren:=⟨fun|105=>211|212=>298|99=>201|165=>299|166=>283|170=>300|169=>287|263=>347|264=>348|206=>293|240=>331|241=>349|276=>368|277=>374|n=>n,fun|9=>9|3=>3|4=>4|20=>20|0=>0|46=>239|109=>326|5=>5|72=>314|76=>317|51=>285|146=>366|53=>274|148=>368|70=>312|37=>283|75=>316|127=>355|164=>391|80=>128|n=>n,fun|n=>n⟩
theorem JAI:Go.Proofs.Lays.n105 Tryz.prog Tryz.lays105_ren:={
 mixed:=by kernel_rfl
 f99:=Tryz.func201.trans (congrArg some (by kernel_rfl))
 f105:=Tryz.func211.trans (congrArg some (by kernel_rfl))
 f165:=Tryz.func299.trans (congrArg some (by kernel_rfl))
 f166:=Tryz.func283.trans (congrArg some (by kernel_rfl))
 f169:=Tryz.func287.trans (congrArg some (by kernel_rfl))
 f170:=Tryz.func300.trans (congrArg some (by kernel_rfl))
 f206:=Tryz.func293.trans (congrArg some (by kernel_rfl))
 f212:=Tryz.func298.trans (congrArg some (by kernel_rfl))
 f240:=Tryz.func331.trans (congrArg some (by kernel_rfl))
 f241:=Tryz.func349.trans (congrArg some (by kernel_rfl))
 f263:=Tryz.func347.trans (congrArg some (by kernel_rfl))
 f264:=Tryz.func348.trans (congrArg some (by kernel_rfl))
 f276:=Tryz.func368.trans (congrArg some (by kernel_rfl))
 f277:=Tryz.func374.trans (congrArg some (by kernel_rfl))
 t0:=Tryz.underlying0
 a0:=Tryz.isAgg0
 z0:=Tryz.sizeOf0
 v0:=Tryz.zeroValue0
 t3:=Tryz.underlying3
 a3:=Tryz.isAgg3
 z3:=Tryz.sizeOf3
 v3:=Tryz.zeroValue3
 t4:=Tryz.underlying4
 a4:=Tryz.isAgg4
 z4:=Tryz.sizeOf4
 v4:=Tryz.zeroValue4
 t5:=Tryz.underlying5
 a5:=Tryz.isAgg5
 z5:=Tryz.sizeOf5
 v5:=Tryz.zeroValue5
 t9:=Tryz.underlying9
 a9:=Tryz.isAgg9
 z9:=Tryz.sizeOf9
 v9:=Tryz.zeroValue9
 t20:=Tryz.underlying20
 a20:=Tryz.isAgg20
 z20:=Tryz.sizeOf20
 v20:=Tryz.zeroValue20
 t37:=Tryz.underlying283
 a37:=Tryz.isAgg283
 z37:=Tryz.sizeOf283
 v37:=Tryz.zeroValue283
 t46:=Tryz.underlying239
 a46:=Tryz.isAgg239
 z46:=Tryz.sizeOf239
 v46:=Tryz.zeroValue239
 t51:=Tryz.underlying285
 a51:=Tryz.isAgg285
 z51:=Tryz.sizeOf285
 v51:=Tryz.zeroValue285
 t53:=Tryz.underlying274
 a53:=Tryz.isAgg274
 z53:=Tryz.sizeOf274
 v53:=Tryz.zeroValue274
 t70:=Tryz.underlying312
 a70:=Tryz.isAgg312
 z70:=Tryz.sizeOf312
 v70:=Tryz.zeroValue312
 t72:=Tryz.underlying314
 a72:=Tryz.isAgg314
 z72:=Tryz.sizeOf314
 v72:=Tryz.zeroValue314
 t75:=Tryz.underlying316
 a75:=Tryz.isAgg316
 z75:=Tryz.sizeOf316
 v75:=Tryz.zeroValue316
 t76:=Tryz.underlying317
 a76:=Tryz.isAgg317
 z76:=Tryz.sizeOf317
 v76:=Tryz.zeroValue317
 t109:=Tryz.underlying326
 a109:=Tryz.isAgg326
 z109:=Tryz.sizeOf326
 v109:=Tryz.zeroValue326
 t127:=Tryz.underlying355
 a127:=Tryz.isAgg355
 z127:=Tryz.sizeOf355
 v127:=Tryz.zeroValue355
 t146:=Tryz.underlying366
 a146:=Tryz.isAgg366
 z146:=Tryz.sizeOf366
 v146:=Tryz.zeroValue366
 t148:=Tryz.underlying368
 a148:=Tryz.isAgg368
 z148:=Tryz.sizeOf368
 v148:=Tryz.zeroValue368
 t164:=Tryz.underlying391
 a164:=Tryz.isAgg391
 z164:=Tryz.sizeOf391
 v164:=Tryz.zeroValue391 }
theorem J2Q:Builder.Extra Tryz.prog Tryz.lays105_ren:={
 sizeBuilder:=by kernel_rfl
 liesBuilder:=by kernel_rfl
 t5:=Tryz.underlying5
 a5:=Tryz.isAgg5
 z5:=Tryz.sizeOf5
 v5:=Tryz.zeroValue5
 infoByte:=by kernel_rfl
 cellsByte:=by kernel_rfl
 sizeByte:=by kernel_rfl
 neB5:=by decide }
end Go.Proofs
namespace Go.Proofs.YtlblbldolhiokaaGreatDoor
open Go Go.Fw Go.RowKit
def joinB (l:List ByteArray)(sep:ByteArray):ByteArray:=⟨(Lib.join (l.map (·.data.toList)) sep.data.toList).toArray⟩
def repB (s:ByteArray)(n:Nat):ByteArray:=⟨(Lib.repeatL s.data.toList n).toArray⟩
theorem JGn (l:List ByteArray)(sep:ByteArray)(hl:l.length≤2^40)(hs:(joinB l sep).size≤140737488355328):PX 212 [.sl 1 (l.map encS),encS sep] (encS (joinB l sep)):=by
 intro O w vs hO hv;obtain ⟨hlen,hr⟩:=hv;obtain ⟨vl⟩:=vs
 rcases vl with _|⟨a,_|⟨b,_|⟨c,r⟩⟩⟩<;>simp at hlen
 have h0:=hr 0 (by simp) (by simp);have h1:=hr 1 (by simp) (by simp);simp only[List.getElem_cons_zero,List.getElem_cons_succ,List.getElem_toArray] at h0 h1;cases h1;have fin:∀ {e:Ending} {w':World},(e=.returned (.string (joinB l sep))∧Below w.heap.size w w')→∃ v,e=.returned v∧VR KM.empty w' O (encS (joinB l sep)) v∧Below w.heap.size w w':=fun ⟨he,hb⟩=>⟨_,he,.val _ rfl,hb⟩;generalize hL:l.map encS=L at h0
 cases h0 with
 |slnil n=>
   obtain rfl:l=[]:=List.map_eq_nil_iff.1 hL;exact (Any.strings_Join_none J10 J0S none 0 sep w).mono fun e w' ⟨he,hw⟩=>fin ⟨he,hw ▸ Below.refl _ _⟩
 |slemp n a=>
   obtain rfl:l=[]:=List.map_eq_nil_iff.1 hL;exact (Any.strings_Join_none J10 J0S (some a) 0 sep w).mono fun e w' ⟨he,hw⟩=>fin ⟨he,hw ▸ Below.refl _ _⟩
 |sl n xs c o cap f hcap hO' hblk hcl hcell hrel hpl=>
   subst hL;obtain ⟨A,e,z,hb,hs'⟩:=hblk
   have:=Any.strings_Join J10 J0S c o cap l sep w (fun j x hx=>by
    obtain ⟨hj,rfl⟩:=List.getElem?_eq_some_iff.1 hx;have h2:=hcell j (by simpa using hj) 0 Nat.one_pos;have h3:=hrel j (by simpa using hj) 0 (by simp[AV.cells,encS]);have e1:((l.map encS)[j]'(by simpa using hj)).cells[0]'(by simp[AV.cells,encS])=encS l[j]:=by simp[AV.cells,encS]
    rw[e1] at h3
    have h4:f j 0=.string l[j]:=by
     generalize f j 0=v at h3;cases h3;rfl
    rw[h4] at h2
    simpa using h2) (Array.getElem?_eq_some_iff.1 hb).1 (by omega) (by simpa using hcap) (by simpa [joinB,ByteArray.size] using hs)
   have hlm:(l.map encS).length=l.length:=List.length_map ..;rw[hlm];exact this.mono fun e w' h=>fin h
theorem JGg (s:ByteArray)(n:Nat)(hn:n≤2^62)(hs:s.size*n≤140737488355328):PX 211 [encS s,encI n] (encS (repB s n)):=by
 intro O w vs hO hv;obtain ⟨hlen,hr⟩:=hv;obtain ⟨vl⟩:=vs
 rcases vl with _|⟨a,_|⟨b,_|⟨c,r⟩⟩⟩<;>simp at hlen
 have h0:=hr 0 (by simp) (by simp);have h1:=hr 1 (by simp) (by simp);simp only[List.getElem_cons_zero,List.getElem_cons_succ,List.getElem_toArray] at h0 h1;cases h0;cases h1;exact (Any.strings_Repeat JAI J2Q s n w (by omega) hs).mono fun e w' ⟨he,hb⟩=>⟨_,he,.val _ rfl,hb⟩
end Go.Proofs.YtlblbldolhiokaaGreatDoor
namespace Go.Proofs.YtlblbldolhiokaaGreatDoor
open Go Go.Fw
def JHT (o t:ByteArray)(n:Int)(rs:List ByteArray):ByteArray:=
 if o=oNum then t
 else if o=oVar then (if n=0 then b1 64++t else b1 64++t++b1 58++repB (b1 39) n.toNat)
 else if o=oPre then ⟨#[112,114,101,64]⟩++t
 else match rs with
  |[]=>o
  |r::l=>o++b1 40++joinB (r::l) (b1 59)++b1 41
mutual
def showF:Ex→ByteArray
 |.mk o t n es=>JHT o t n (JJf es)
def JJf:List Ex→List ByteArray
 |[]=>[]
 |e::es=>showF e::JJf es
end
theorem J9A:∀ es:List Ex,JJf es=es.map showF
 |[]=>rfl
 |e::es=>by rw[List.map_cons,← J9A es];rfl
theorem JBh (e:Ex):showF e=JHT e.op e.text e.order (e.kids.map showF):=by
 cases e with
 |mk o t n es=>rw[← J9A];rfl
theorem J07 (a b:ByteArray):(a++b).size=a.size+b.size:=ByteArray.size_append
theorem J9K (s:ByteArray)(n:Nat):(repB s n).size=s.size*n:=by
 show (Lib.repeatL s.data.toList n).toArray.size=_
 rw[List.size_toArray]
 have:∀ n,(Lib.repeatL s.data.toList n).length=s.data.toList.length*n:=by
  intro n
  induction n with
  |zero=>rfl
  |succ n ih=>unfold Lib.repeatL;rw[List.length_append,ih,Nat.mul_succ];omega
 rw[this n,Array.length_toList];rfl
theorem J4X (sep:List UInt8):∀ r:List (List UInt8),(Lib.joinTail sep r).length=(r.map fun x=>sep.length+x.length).sum
 |[]=>rfl
 |x::r=>by
   have:=J4X sep r;unfold Lib.joinTail at *;simp only[List.map_cons,List.flatten_cons,List.length_append,List.sum_cons,this]
def szB (l:List ByteArray):Nat:=(l.map ByteArray.size).sum
theorem J2s (l:List ByteArray)(sep:ByteArray):(joinB l sep).size≤szB l+l.length*sep.size:=by
 show (Lib.join _ _).toArray.size≤_
 cases l with
 |nil=>simp[Lib.join_nil]
 |cons x r=>
   rw[List.map_cons,Lib.join_cons,List.size_toArray,List.length_append,J4X]
   have key:∀ r:List ByteArray,((r.map (·.data.toList)).map fun x=>sep.data.toList.length+x.length).sum≤szB r+r.length*sep.size:=by
    intro r
    induction r with
    |nil=>simp[szB]
    |cons y r ih=>
      unfold szB at *;simp only[List.map_cons,List.sum_cons,List.length_cons,Nat.succ_mul] at *;have e1:y.data.toList.length=y.size:=Array.length_toList;have e2:sep.data.toList.length=sep.size:=Array.length_toList;omega
   have:=key r;have e1:x.data.toList.length=x.size:=Array.length_toList;have e2:szB (x::r)=x.size+szB r:=rfl;rw[List.length_cons,Nat.succ_mul];omega
theorem JIs {es:List Ex}{C:Nat}(h:∀ k∈es,(showF k).size+1≤C*wtF k):szB (es.map showF)+es.length≤C*wtL es:=by
 induction es with
 |nil=>simp[szB]
 |cons e es ih=>
   have a:=h e (by simp);have b:=ih fun k hk=>h k (by simp[hk]);unfold szB at *;simp only[List.map_cons,List.sum_cons,List.length_cons] at *;unfold wtL;rw[Nat.mul_add];omega
theorem JF8 {e:Ex}(hb:builtF e=true):e.op.size≤8:=by
 have hl:=(J0B hb).1;unfold J1P at hl;split at hl
 ·rename_i h;rcases h with h|h<;>rw[h]<;>decide
 ·split at hl
  ·rename_i h;rcases h with h|h<;>rw[h]<;>decide
  ·split at hl
   ·rename_i h;rw[h];decide
   ·split at hl
    ·omega
    ·rename_i x hx
     rcases JEi hx with h|⟨h,_⟩|⟨h,_⟩|⟨h,_⟩|⟨h,_⟩|⟨h,_⟩|⟨h,_⟩|⟨h,_⟩|⟨h,_⟩
     ·rw[h];decide
     ·rcases h with h|h<;>rw[h]<;>decide
     ·rw[h];decide
     ·rcases h with h|h|h<;>rw[h]<;>decide
     ·rw[h];decide
     ·rw[h];decide
     ·rw[h];decide
     ·rcases h with h|h|h|h<;>rw[h]<;>decide
     ·rcases h with h|h|h|h<;>rw[h]<;>decide
theorem JBt {e:Ex}(hb:builtF e=true)(h:e.op=oVar):0≤e.order∧e.order≤6:=by
 have hx:textF e=true:=by rw[J1C] at hb;simp only[Bool.and_eq_true] at hb;exact hb.1.1.2
 unfold textF at hx;rw[if_neg (by rw[h];decide),if_pos h] at hx;simp only[Bool.and_eq_true,decide_eq_true_eq] at hx;exact ⟨hx.1.2,hx.2⟩
theorem J70 (e:Ex):builtF e=true→TxE e→(showF e).size+1≤(2^21+20)*wtF e:=by
 induction e using J1y with
 |h e ih=>
   intro hb hx;have ihk:=fun k hk=>ih k hk ((J0B hb).2 k hk) (hx.kid k hk);have ht:=hx.low;have ho:=JF8 hb;have hw:=J5A e;have hl:=J7w e.kids;rw[JBh];unfold JHT;have hsum:=JIs ihk;have e0:2^21+20≤(2^21+20)*wtF e:=Nat.le_mul_of_pos_right _ (by omega);split
   ·omega
   ·split
    ·rename_i h1;have:=JBt hb h1;split
     ·rw[J07];show 1+_+1≤_;omega
     ·rw[J07,J07,J07,J9K];show 1+_+1+1*_+1≤_;omega
    ·split
     ·rw[J07];show 4+_+1≤_;omega
     ·split
      ·omega
      ·rename_i r l hrl;have:=J2s (r::l) (b1 59);rw[J07,J07,J07];have e1:(r::l).length=e.kids.length:=by rw[← hrl,List.length_map]
       rw[← hrl] at this ⊢;rw[List.length_map] at this;show _+1+_+1+1≤_
       have e3:(b1 59).size=1:=rfl;rw[e3] at this;have e4:(2^21+20)*wtF e=(2^21+20)*wtL e.kids+(2^21+20):=by rw[hw,Nat.mul_succ]
       omega
theorem JJn {b p e n:Nat}{H:Hp}{out:List ByteArray}(hb:H b=some (p,⟨e,1,out.map encS⟩))(hn:n=out.length):snap [b] H (.own b p 0 n)=.sl 1 (out.map encS):=by
 rw[J4r (by simp) hb (by simp[hn]),J1K _ _ _ _ hn fun _=>rfl]
theorem J84 (e:Ex):SzE e→TxE e→builtF e=true→wtF e≤1000→PX 128 [encE e] (encS (showF e)):=by
 induction e using J1y with
 |h e ih=>
   intro hz hx hb hw;have ihk:=fun k hk=>ih k hk (hz.kid k hk) (hx.kid k hk) ((J0B hb).2 k hk) (by have:=JIn hk;omega);have hwt:wtL e.kids≤1000:=by have:=J5A e;omega
   have hlen:e.kids.length≤1000:=Nat.le_trans (J7w _) hwt;have hsum:szB (e.kids.map showF)+e.kids.length≤(2^21+20)*1000:=Nat.le_trans (JIs fun k hk=>J70 k ((J0B hb).2 k hk) (hx.kid k hk)) (Nat.mul_le_mul_left _ hwt);have hord:=JBt hb;have htx:=hx.tx;have hos:=JF8 hb;clear ih;refine PZ Tryz.func128 rfl ?_;generalize hF:showF e=F;rw[JBh] at hF;rw[J02];clear hz hx hb hw hwt;have z1:({ data:=#[64] }:ByteArray).size=1:=rfl;have z2:({ data:=#[112,114,101,64] }:ByteArray).size=4:=rfl;have z3:({ data:=#[58] }:ByteArray).size=1:=rfl;have z4:({ data:=#[40] }:ByteArray).size=1:=rfl;have z5:({ data:=#[41] }:ByteArray).size=1:=rfl;obtain ⟨o,t,od,es⟩:=e;simp only[Ex.op,Ex.text,Ex.order,Ex.kids] at *;unfold JHT at hF
   by_cases h1:o=oNum
   ·rw[if_pos h1] at hF;(refine kWS ?_;repeat intro γ);exact .of (by rw[← hF];rfl)
   rw[if_neg h1] at hF
   by_cases h2:o=oVar
   ·rw[if_pos h2] at hF
    by_cases h3:od=0
    ·rw[if_pos h3] at hF;(refine kWS ?_;repeat intro γ);exact .of (by rw[← hF];rfl)
    ·rw[if_neg h3] at hF;obtain ⟨ho1,ho2⟩:=hord h2;have hR:=JGg (b1 39) od.toNat (by omega) (by show 1*_≤_;omega);rw[show ((od.toNat:Nat):Int)=od by omega] at hR;have y1:=J07 { data:=#[64] } t;have y2:=J07 ({ data:=#[64] }++t) { data:=#[58] };have y3:=J9K (b1 39) od.toNat;have y4:(b1 39).size=1:=rfl;rw[y4] at y3;generalize repB (b1 39) od.toNat=rb at *;(refine kWS ?_;repeat intro γ);refine CallG.intro _ c211 hR ?_;(refine kWS ?_;repeat intro γ);exact .of (by rw[← hF];rfl)
   rw[if_neg h2] at hF
   by_cases h3:o=oPre
   ·rw[if_pos h3] at hF;(refine kWS ?_;repeat intro γ);exact .of (by rw[← hF];rfl)
   rw[if_neg h3] at hF;have hml:=@List.length_map _ _ es encE
   by_cases h4:es=[]
   ·subst h4;(refine kWS ?_;repeat intro γ);exact .of (by rw[← hF];rfl)
   have h5:¬ es.length=0:=fun h=>h4 (List.eq_nil_of_length_eq_zero h)
   replace hF:o++b1 40++joinB (es.map showF) (b1 59)++b1 41=F:=by
    rw[← hF]
    cases es with
    |nil=>exact absurd rfl h4
    |cons k r=>rfl
   (refine kWQ ?_;repeat intro γ)
   refine LoopP.intro (fun j σ H=>∃ g1 gl i,∃ l:List ByteArray,j=es.length-i∧i≤es.length∧l=(es.take i).map showF ∧
    σ=fr [(1,.op 1 g1 0 0),(3,.own 50 gl 0 l.length),(40,.sl 4 (es.map encE)),(41,encI es.length),(42,encI i)] ∧
    H=hp [(1,g1,⟨29,4,[.agg [encS o,encS t,encI od,.sl 4 (es.map encE)]]⟩),(50,gl,⟨9,1,l.map encS⟩)]) ?_ ?_
   ·exact .intro (JAD 3 50 9 1 rfl rfl fun gl=>W.of ⟨_,_,gl,0,[],rfl,Nat.zero_le _,rfl,rfl,rfl⟩ ⟨rfl,rfl,rfl,(by first|rfl|(rw[List.length_map];rfl)),rfl,trivial⟩ ⟨rfl,rfl,trivial⟩)
   ·rintro j σ H ⟨g1,gl,i,l,rfl,hi,rfl,rfl,rfl⟩;have hll:((es.take i).map showF).length=i:=by rw[List.length_map,List.length_take];omega
    rcases Nat.lt_or_ge i es.length with h9|h9
    ·have hk:=ihk _ (List.getElem_mem h9);have htk:(es.take (i+1)).map showF=(es.take i).map showF++[showF es[i]]:=by rw[List.take_succ_eq_append_getElem h9,List.map_append];rfl
     obtain ⟨k,hkk⟩:∃ k,es[i]=k:=⟨_,rfl⟩;rw[hkk] at hk htk;rw[J02] at hk;generalize hL:(es.take i).map showF=l at *;have hml:=@List.length_map _ _ l encS;(refine kWQ ?_;repeat intro γ);simp only[hkk,J02];(refine kQ ?_;repeat intro γ);refine CallP.flat [] _ c128 hk rfl ?_;(refine kWQ ?_;repeat intro γ)
     refine .intro <| W.of ⟨_,by omega,g1,γ,i+1,l++[showF k],rfl,h9,htk.symm,rfl,rfl⟩ ⟨rfl,?_,rfl,rfl,rfl,trivial⟩ ⟨rfl,?_,trivial⟩
     ·exact congrArg (AV.own 50 _ 0) (by simp)
     ·rw[List.map_append];rfl
    ·obtain rfl:i=es.length:=by omega
     rw[List.take_length] at *;have hj:=J2s (es.map showF) (b1 59)
     have hJ:=JGn (es.map showF) (b1 59) (by rw[List.length_map];omega) (by
      refine Nat.le_trans hj ?_;rw[List.length_map];show szB _+es.length*1≤_
      omega)
     have x1:(joinB (es.map showF) (b1 59)).size≤2^46:=by
      refine Nat.le_trans hj ?_;rw[List.length_map];show szB _+es.length*1≤_
      omega
     have hls:(es.map showF).length=es.length:=List.length_map ..;generalize joinB (es.map showF) (b1 59)=jb at *;have y1:=J07 o { data:=#[40] };have y2:=J07 (o++{ data:=#[40] }) jb;have y3:=J07 (o++{ data:=#[40] }++jb) { data:=#[41] };(refine kWQ ?_;repeat intro γ);refine CallG.flat _ c212 (J0U (congrArg (fun z=>[z,encS (b1 59)]) (JJn rfl hls.symm)) hJ) rfl ?_;(refine kWQ ?_;repeat intro γ);exact .of (by rw[← hF];rfl)
end Go.Proofs.YtlblbldolhiokaaGreatDoor
namespace Go.Proofs.YtlblbldolhiokaaGreatDoor
open Go Go.Fw Go.RowKit
def bldB (p buf:AV):Blk:=⟨solo,2,[.agg [p,buf]]⟩
def J1R:AV:=.val (.pointer none)
theorem J9x {H:Hp}{b g:Nat}{p buf:AV}(hb:H b=some (g,bldB p buf))(hp:p=J1R∨p=.op b g 0 0)(hbc:buf.cells=[buf]) :
  HCall Tryz.prog 331 [.op b g 0 0] H fun r H'=>r=.tup []∧H'=setH H b (some (g,bldB (.op b g 0 0) buf)):=by
 intro gh κ w vs hr hv;obtain ⟨hlen,hv⟩:=hv;obtain ⟨vl⟩:=vs
 rcases vl with _|⟨a,_|⟨a2,r⟩⟩<;>simp at hlen
 have h0:=hv 0 (by simp) (by simp);simp only[List.getElem_cons_zero,List.getElem_toArray] at h0
 cases h0 with
 |op _ _ _ _ c K hκ hc hn=>
 obtain ⟨K',hκ',hbr⟩:=hr.blk _ _ _ hb;have hbr:BlkRel κ w (Nset gh.O κ H) K (bldB p buf):=by rw[hκ] at hκ';cases hκ';exact hbr
 obtain ⟨hn2,hcl,h3⟩:=hbr.rows hn
 rcases h3 with ⟨h3,_⟩|⟨c',A,f,hc',hbk,hm,hs,hf,hpl,hvv,hso⟩
 ·rw[h3] at hc;cases hc
 rw[hc'] at hc;cases hc;have hsz:A.size=2:=hso rfl;simp only[Nat.zero_mul,Nat.add_zero];have e0:A[0]?=some (f 0 0):=by have:=hf 0 (by simp[bldB]) 0 (by simp[bldB]);simpa [bldB] using this
 have hv0:VR κ w (Nset gh.O κ H) p (f 0 0):=hvv 0 (by simp[bldB]) 0 (by simp[bldB]);have hcell:w.cell? ⟨c,0,none⟩=some (f 0 0):=by simp[World.cell?,hbk,e0]
 have hself:VR κ w (Nset gh.O κ H) (.op b g 0 0) (.pointer (some ⟨c,0,none⟩)):=by
  have:=VR.op (w:=w) (N:=Nset gh.O κ H) b g 0 0 c K hκ hc' hn
  simpa using this
 rcases hp with rfl|rfl
 ·have hf0:f 0 0=.pointer none:=by generalize f 0 0=v at hv0;cases hv0;rfl
  rw[hf0] at hcell;obtain ⟨up,hup,hex,w',u,κ',hrun,hR,hvr,_,_⟩:=J2u (P:=Tryz.prog) J4S hr (t:=312) hself hself (C:=fun up=>up=some (b,g,bldB (.op b g 0 0) buf)) ⟨_,rfl,rfl,rfl,_,hb,by simp[bldB],by simp[bldB],by simp[AV.cells],by simp[bldB,J5O,over,AV.cells]⟩;subst hup;have hK:=Any.Builder_copyCheck_fresh { J10 with } J0S.toX72 c w hcell (by simp[World.shape?,hbk,hsz];rfl) (by simp[World.frozen?,hbk]);refine hK.mono ?_;rintro e w' ⟨rfl,rfl⟩
  have hst:=run_storeCells_at Tryz.prog c 0 solo [.pointer (some ⟨c,0,none⟩)] 0 A w hbk (by simp[hsz]) (fun v hv=>by
   simp only[List.mem_singleton] at hv;subst hv;rfl)
  have ht:=J0T (J4S 312 _ rfl)
  have hrun':(Instr.storeAt 312 (.pointer (some ⟨c,0,none⟩)) (.pointer (some ⟨c,0,none⟩))).run Tryz.prog w=.ok () (w.setCell ⟨c,0,none⟩ (.pointer (some ⟨c,0,none⟩))):=by
   have hA:(A.toList.take 0++[Value.pointer (some ⟨c,0,none⟩)]++A.toList.drop 1).toArray=A.setIfInBounds 0 (.pointer (some ⟨c,0,none⟩)):=by
    obtain ⟨L⟩:=A
    rcases L with _|⟨x,r⟩
    ·simp at hsz
    ·simp
   rw[setCell_eq_setRow w c 0 A solo (0,0) _ hbk,← hA];simp only[Nat.add_zero] at hst
   simpa [Instr.storeAt,Instr.sureAddr,Sem.run_bind,storeVar,ht.run_size w,Value.cells] using hst
  rw[hrun'] at hrun;cases hrun;exact ⟨_,.tup [],_,κ',rfl,⟨rfl,rfl⟩,hR,.tup [] #[] rfl (fun i h=>by simp at h),hvr⟩
 ·have hf0:f 0 0=.pointer (some ⟨c,0,none⟩):=by
   generalize f 0 0=v at hv0
   cases hv0 with
   |op _ _ _ _ c2 K2 hκ2 hc2 hn2=>
     rw[hκ] at hκ2;cases hκ2;rw[hc'] at hc2;cases hc2;simp
  rw[hf0] at hcell;refine (Any.Builder_copyCheck_used { J10 with } J0S.toX72 c w hcell).mono ?_;rintro e w' ⟨rfl,rfl⟩
  have hH:setH H b (some (g,bldB (.op b g 0 0) buf))=H:=by
   funext x;unfold setH;split
   ·rename_i h;rw[h,hb]
   ·rfl
  exact ⟨_,.tup [],H,κ,rfl,⟨rfl,hH.symm⟩,hr,.tup [] #[] rfl (fun i h=>by simp at h),fun h=>h⟩
theorem JAF {κ:KM}{w:World}{N:Nat→Prop}{b g i k c o:Nat}(h:VR κ w N (.op b g i k) (.pointer (some ⟨c,o,none⟩))):∃ K,κ b g=some K∧K.c=some c∧0<K.n:=by
 generalize hv:Value.pointer (some ⟨c,o,none⟩)=v at h
 cases h with
 |op _ _ _ _ c2 K2 h1 h2 h3=>cases hv;exact ⟨_,h1,h2,h3⟩
theorem J8i {gh:Gh}{κ:KM}{H:Hp}{w:World}{b g c:Nat}{p buf:AV}(hr:HRel gh κ H w)(hb:H b=some (g,bldB p buf))(hs:VR κ w (Nset gh.O κ H) (.op b g 0 0) (.pointer (some ⟨c,0,none⟩)))(hp:p.cells=[p])(hbc:buf.cells=[buf]) :
  ∃ v0 v1,w.heap[c]?=some (.cells #[v0,v1] solo (0,0))∧VR κ w (Nset gh.O κ H) p v0∧VR κ w (Nset gh.O κ H) buf v1:=by
 obtain ⟨K,hκ,hc,hn⟩:=JAF hs;obtain ⟨K1,hκ1,hbr⟩:=hr.blk _ _ _ hb;rw[hκ] at hκ1;cases hκ1;obtain ⟨hn2,hcl,h3⟩:=hbr.rows hn
 rcases h3 with ⟨h3,_⟩|⟨c',A,f,hc',hbk,hm,hs',hf,hpl,hvv,hso⟩
 ·rw[h3] at hc;cases hc
 rw[hc'] at hc;cases hc;have hsz:A.size=2:=hso rfl;obtain ⟨L⟩:=A
 rcases L with _|⟨v0,_|⟨v1,_|⟨v2,r⟩⟩⟩<;>simp at hsz
 have e0:=hf 0 (by simp[bldB]) 0 (by simp[bldB]);have e1:=hf 0 (by simp[bldB]) 1 (by simp[bldB]);simp[bldB] at e0 e1;subst e0 e1;exact ⟨_,_,hbk,hvv 0 (by simp[bldB]) 0 (by simp[bldB]),hvv 0 (by simp[bldB]) 1 (by simp[bldB])⟩
theorem JAE {κ:KM}{w:World}{N:Nat→Prop}{b g off len:Nat}{v:Value}(h:VR κ w N (.own b g off len) v):∃ ao n' cap,v=.slice ao n' cap:=by
 cases h<;>exact ⟨_,_,_,rfl⟩
theorem JGT {gh:Gh}{κ:KM}{H:Hp}{w:World}{b g c d γ len n' cap:Nat}{ao:Option Addr}{p buf:AV}(hr:HRel gh κ H w)(hb:H b=some (g,bldB p buf))(hs:VR κ w (Nset gh.O κ H) (.op b g 0 0) (.pointer (some ⟨c,0,none⟩)))(hp:p.cells=[p])(hbc:buf.cells=[buf])
  (hx:VR κ w (Nset gh.O κ H) (.own d γ 0 len) (.slice ao n' cap)) :
  ∃ κ',HRel gh κ' (setH H b (some (g,bldB p (.own d γ 0 len)))) (w.setCell ⟨c,1,none⟩ (.slice ao n' cap))∧∀ {y:AV} {v:Value},VR κ w (Nset gh.O κ H) y v→VR κ' (w.setCell ⟨c,1,none⟩ (.slice ao n' cap)) (Nset gh.O κ' (setH H b (some (g,bldB p (.own d γ 0 len))))) y v:=by
 obtain ⟨v0,v1,hbk,_,_⟩:=J8i hr hb hs hp hbc;obtain ⟨K,hκ,hc,hn⟩:=JAF hs
 have hptr:VR κ w (Nset gh.O κ H) (.op b g 0 1) (.pointer (some ⟨c,1,none⟩)):=by
  have:=VR.op (w:=w) (N:=Nset gh.O κ H) b g 0 1 c K hκ hc hn
  simpa using this
 obtain ⟨up,hup,hex,w',u,κ',hrun,hR,hvr,_,_⟩:=J2u (P:=Tryz.prog) J4S hr (t:=283) hptr hx (C:=fun up=>up=some (b,g,bldB p (.own d γ 0 len))) ⟨_,rfl,rfl,rfl,_,hb,by simp[bldB],by simp[bldB],by simp[AV.cells],by simp[bldB,J5O,over,AV.cells]⟩;subst hup
 have hst:=run_storeCells_at Tryz.prog c 1 solo [.slice ao n' cap] 0 #[v0,v1] w hbk (by simp) (fun v hv=>by
  simp only[List.mem_singleton] at hv;subst hv;rfl)
 have ht:=J0T (J4S 283 _ rfl)
 have hrun':(Instr.storeAt 283 (.pointer (some ⟨c,1,none⟩)) (.slice ao n' cap)).run Tryz.prog w=.ok () (w.setCell ⟨c,1,none⟩ (.slice ao n' cap)):=by
  rw[setCell_eq_setRow w c 1 _ solo (0,0) _ hbk];simp only[Nat.add_zero] at hst
  simpa [Instr.storeAt,Instr.sureAddr,Sem.run_bind,storeVar,ht.run_size w,Value.cells] using hst
 rw[hrun'] at hrun;cases hrun;exact ⟨κ',hR,hvr⟩
theorem J6c {P:Program}{w:World}{ops:Array Oper}{rest:List Oper}{o:Oper}{a:Act}{Q:Exit→Act→World→Prop}(hgd:o.guard=none)(sl x:Operand)(t u:TypeId)
  (ho:o.op=.call { callee:=.builtin .append,args:=#[sl,x],argTypes:=#[t,u] })(v:Value)(hs:a.eval sl=v)(s:ByteArray)(hx:a.eval x=.string s){v':Value}{w':World}
  (hr:(Builtin.append_ #[t,u] o.type #[v,.string s]).run P w=.ok v' w')(h:wpList P ops Q rest (a.put o.dst v') w'):wpList P ops Q (o::rest) a w:=by
 refine wpList_plain hgd fun K hK=>?_;unfold Oper.wp execOp;simp only[ho,resolve,invoke,builtin,Sem.run_bind,Sem.run_pure,Result.andThen_ok,List.map_toArray,List.map_cons,List.map_nil,hs,hx,hr];exact hK _ _ h
theorem J6n {H:Hp}{b g d g0:Nat}{p:AV}{l:List UInt8}{s:ByteArray}(hb:H b=some (g,bldB p (.own d g0 0 l.length)))(hp:p=J1R∨p=.op b g 0 0)(hd:H d=some (g0,⟨5,1,BY l⟩))(hbd:b≠d)
  (hs:l.length+s.size≤140737488355328) :
  HCall Tryz.prog 283 [.op b g 0 0,encS s] H fun r H'=>r=.tup [encI s.size,.val .nilIface]∧∃ γ,H'=setH (setH H d (some (γ,⟨5,1,BY (l++s.data.toList)⟩))) b (some (g,bldB (.op b g 0 0) (.own d γ 0 (l.length+s.size)))):=by
 intro gh κ w vs hr hv;obtain ⟨hlen,hv⟩:=hv;obtain ⟨vl⟩:=vs
 rcases vl with _|⟨a,_|⟨a2,_|⟨a3,r⟩⟩⟩<;>simp at hlen
 have h0:=hv 0 (by simp) (by simp);have h1:=hv 1 (by simp) (by simp);simp only[List.getElem_cons_zero,List.getElem_cons_succ,List.getElem_toArray] at h0 h1;cases h1
 have hcc:=J9x hb hp rfl gh κ w #[a] hr ⟨rfl,fun i h h'=>by
  have:i=0:=by simpa using h
  subst this;exact h0⟩
 cases h0 with
 |op _ _ _ _ c K hκ hc hn=>
 simp only[Nat.add_zero,Nat.zero_mul] at hcc ⊢;have L:Lays.n166 Tryz.prog Tryz.lays156_ren:={ J10 with };have X:=J0S;have hcc':Calls Tryz.prog (Tryz.lays156_ren.f 240) _ _ _:=hcc;have e5:Tryz.lays156_ren.t 5=5:=rfl;have e72:Tryz.lays156_ren.t 72=solo:=rfl;have hT:=J4S;show Calls Tryz.prog (Tryz.lays156_ren.f 166) _ _ _
 clear hcc;generalize Tryz.lays156_ren=ρ at L X hcc' e5 e72 ⊢;obtain ⟨i0,hi,hz0,hz1,hz2⟩:=info_parts X.infoByte;have mixed:=L.mixed;have t72:=L.t72;have a72:=L.a72;have z72:=L.z72;have v72:=L.v72;have u72:=run_underlying L.t72;have t70:=L.t70;have a70:=L.a70;have z70:=L.z70;have v70:=L.v70;have u70:=run_underlying L.t70;have t37:=L.t37;have a37:=L.a37;have z37:=L.z37;have v37:=L.v37;have u37:=run_underlying L.t37;have t3:=L.t3;have a3:=L.a3;have z3:=L.z3;have v3:=L.v3;have u3:=run_underlying L.t3;have t9:=L.t9;have a9:=L.a9;have z9:=L.z9;have v9:=L.v9;have u9:=run_underlying L.t9;have t4:=L.t4;have a4:=L.a4;have z4:=L.z4;have v4:=L.v4;have u4:=run_underlying L.t4;have t164:=L.t164;have a164:=L.a164;have z164:=L.z164;have v164:=L.v164;have u164:=run_underlying L.t164;have t5:=X.t5;have a5:=X.a5;have z5:=X.z5;have v5:=X.v5;have u5:=run_underlying X.t5;have e240:∀ args w,(callFunc (ρ.f 240) args).run Tryz.prog w=.ok (.enter (ρ.f 240) args) w:=enters_of L.f240 (by kernel_rfl) rfl
 go_enter L.f166,Body.n166_ntmps ρ
 go_wp2_with (go_at_fn (ρ.f 240);refine hcc'.mono ?_)
 rintro e w1 ⟨v0,r0,H1,κ1,he,⟨hr0,hH1⟩,hr1,hv0,ht1⟩;subst he hr0 hH1
 have hself:VR κ w (Nset gh.O κ H) (.op b g 0 0) (.pointer (some ⟨c,0,none⟩)):=by
  have:=VR.op (w:=w) (N:=Nset gh.O κ H) b g 0 0 c K hκ hc hn
  simpa using this
 have hself:=ht1 hself;have hb1:(setH H b (some (g,bldB (.op b g 0 0) (.own d g0 0 l.length)))) b=some (g,bldB (.op b g 0 0) (.own d g0 0 l.length)):=by simp[setH]
 have hd1:(setH H b (some (g,bldB (.op b g 0 0) (.own d g0 0 l.length)))) d=some (g0,⟨5,1,BY l⟩):=by rw[setH,if_neg (Ne.symm hbd)];exact hd
 generalize hH1:setH H b (some (g,bldB (.op b g 0 0) (.own d g0 0 l.length)))=H1 at hr1 hv0 ht1 hself hb1 hd1;obtain ⟨p1,v,hbk,_,hv1⟩:=J8i hr1 hb1 hself rfl rfl;have c1:w1.cell? ⟨c,1,none⟩=some v:=by rw[Lib.cell_of_heap hbk];rfl
 obtain ⟨G,hG⟩:=hr1.fresh;obtain ⟨v',w2,κ2,hrun,hr2,ht2,hv2,hk2⟩:=J9m (P:=Tryz.prog) (ty:=ρ.t 37) (u:=ρ.t 9) hr1 (d:=d) (g:=g0) (γ:=G) (s:=s) L.t37 L.t9 hi hz0 hz1 hz2 (by rw[e5];decide) (hG _ _ (Nat.le_refl _)) (by rw[e5];exact hd1) hv1 hs;rw[e5] at hr2 ht2 hv2;have hself2:=ht2 hself;have hb2:app H1 (some (d,G,⟨5,1,BY (l++s.data.toList)⟩)) b=some (g,bldB (.op b g 0 0) (.own d g0 0 l.length)):=by simp only[app,setH];rw[if_neg hbd];exact hb1
 generalize hH2:app H1 (some (d,G,⟨5,1,BY (l++s.data.toList)⟩))=H2 at hr2 ht2 hv2 hself2 hb2;obtain ⟨p2,v2,hbk2,_,_⟩:=J8i hr2 hb2 hself2 rfl rfl;have d1:w2.cell? ⟨c,1,none⟩=some v2:=by rw[Lib.cell_of_heap hbk2];rfl
 have f1:w2.frozen? ⟨c,1,none⟩=false:=Lib.frozen_of_heap hbk2 1;obtain ⟨ao,n',cap,rfl⟩:∃ ao n' cap,v'=.slice ao n' cap:=JAE hv2
 go_wp2_with (at_builtin;refine J6c rfl _ _ (ρ.t 37) (ρ.t 9) rfl v rfl s rfl hrun ?_)
 go_ret2
 obtain ⟨κ3,hr3,ht3⟩:=JGT hr2 hb2 hself2 rfl rfl hv2;subst hH2 hH1
 have eH:∀ z,setH (app (setH H b z) (some (d,G,⟨5,1,BY (l++s.data.toList)⟩))) b (some (g,bldB (.op b g 0 0) (.own d G 0 (l.length+s.size))))=setH (setH H d (some (G,⟨5,1,BY (l++s.data.toList)⟩))) b (some (g,bldB (.op b g 0 0) (.own d G 0 (l.length+s.size)))):=by
  intro z;funext x;simp only[app,setH];split<;>(try split)<;>rfl
 rw[eH] at hr3 ht3
 exact ⟨_,.tup [encI s.size,.val .nilIface],_,κ3,rfl,⟨rfl,_,rfl⟩,hr3,.tup _ _ rfl (fun i h h'=>by
  match i,h with
  |0,_=>exact .val _ rfl
  |1,_=>exact .val _ rfl),fun h=>ht3 (ht2 (ht1 h))⟩
end Go.Proofs.YtlblbldolhiokaaGreatDoor
namespace Go.Proofs.YtlblbldolhiokaaGreatDoor
open Go Go.Fw
structure G where
 eqs:List ByteArray
 uses:List U
 joined:List (List Int)
def JDX (l:List U):AV:=.sl 3 (l.map encU)
theorem J9b (L:List Nat)(j:Nat)(h:j∈L):(L.filter (· ≠ j)).length<L.length:=by
 refine Nat.lt_of_le_of_ne (List.length_filter_le _ _) fun e=>?_;have:=(List.length_filter_eq_length_iff.1 e) j h;simp at this
theorem JB3 (L:List Nat)(j:Nat):(L.map Fw.encN).filter (fun x=>match x with|.val (.int _ i)=>!decide (i=(j:Int))|_=>true)=(L.filter (· ≠ j)).map Fw.encN:=by
 rw[List.filter_map]
 congr 1
 refine List.filter_congr fun i _=>?_;simp only[Function.comp_apply,Fw.encN]
 by_cases h:i=j
 ·simp[h]
 ·have:¬ (i:Int)=j:=by omega
  simp[h,this]
theorem ownM {b g e:Nat}{H:Hp}{A:List U}(hb:H b=some (g,⟨e,0,[setU A]⟩)):J03 [b] H 3 (.om b g)=setU A:=by
 unfold J03 setU;rw[hb];simp[setU]
theorem JIO:∀ (a b:List UInt8),(Lib.compareBytes a b<0)↔Op.bytesLess a b=true:=by
 intro a
 induction a with
 |nil=>intro b;cases b<;>simp[Lib.compareBytes,Op.bytesLess]
 |cons x a ih=>
   intro b
   cases b with
   |nil=>simp[Lib.compareBytes,Op.bytesLess]
   |cons y b=>
     unfold Lib.compareBytes Op.bytesLess;have h1:=ih b
     by_cases hxy:x<y
     ·simp[hxy]
     ·by_cases hyx:y<x
      ·have hne:¬ x=y:=fun e=>by subst e;exact hxy hyx
       simp[hxy,hyx,hne]
      ·have:x=y:=UInt8.le_antisymm (UInt8.not_lt.1 hyx) (UInt8.not_lt.1 hxy);subst this;simp[hxy,h1]
theorem J3C (a b:U):decide (0≤J1o a b)=!J0F a b:=by
 unfold J1o JDO J0F
 by_cases h1:a.name=b.name
 ·simp only[decide_eq_true h1]
  by_cases h2:a.pre=b.pre
  ·simp only[decide_eq_true h2];rw[← decide_not];exact decide_eq_decide.2 (by omega)
  ·simp only[decide_eq_false h2];cases b.pre<;>rfl
 ·simp only[decide_eq_false h1];have:=JIO a.name.data.toList b.name.data.toList;rw[ByteArray.toList_eq,ByteArray.toList_eq];cases hb:Op.bytesLess a.name.data.toList b.name.data.toList
  ·rw[hb] at this;exact decide_eq_true (by unfold cmpS;simp at this;exact this)
  ·rw[hb] at this;exact decide_eq_false (by unfold cmpS;simp at this;omega)
theorem JA9 (u:U):J0F u u=false:=by unfold J0F;simp
theorem J3t (u v w:U)(h1:J0F u v=true)(h2:J0F v w=true):J0F u w=true:=by
 unfold J0F at h1 h2 ⊢
 by_cases e1:u.name=v.name
 ·rw[decide_eq_true e1] at h1;simp only at h1
  by_cases e2:v.name=w.name
  ·rw[decide_eq_true e2] at h2;rw[decide_eq_true (e1.trans e2)];simp only at h2 ⊢
   by_cases p1:u.pre=v.pre
   ·rw[decide_eq_true p1] at h1
    by_cases p2:v.pre=w.pre
    ·rw[decide_eq_true p2] at h2;rw[decide_eq_true (p1.trans p2)];simp only[decide_eq_true_eq] at h1 h2 ⊢;omega
    ·rw[decide_eq_false p2] at h2;rw[decide_eq_false (fun q=>p2 (p1.symm.trans q))];exact h2
   ·rw[decide_eq_false p1] at h1;simp only at h1
    by_cases p2:v.pre=w.pre
    ·rw[decide_eq_false (fun q=>p1 (q.trans p2.symm))];simp only;rw[← p2];exact h1
    ·rw[decide_eq_false p2] at h2;simp only at h2;exact absurd (h1.trans h2.symm) p2
  ·rw[decide_eq_false e2] at h2;rw[decide_eq_false (fun q=>e2 (e1.symm.trans q)),e1];exact h2
 ·rw[decide_eq_false e1] at h1;simp only at h1
  by_cases e2:v.name=w.name
  ·rw[decide_eq_false (fun q=>e1 (q.trans e2.symm))];simp only;rw[← e2];exact h1
  ·rw[decide_eq_false e2] at h2;simp only at h2;have h3:=J8j _ _ _ h1 h2;rw[decide_eq_false (fun q=>by rw[q,JGU] at h3;cases h3)];exact h3
def atR:List U→U→Nat
 |[],_=>0
 |x::r,u=>if J0F x u then atR r u+1 else 0
theorem JIX (x:U)(r:List U)(u:U):atR (x::r) u=if J0F x u then atR r u+1 else 0:=rfl
theorem endU {S:List Nat}{H:Hp}{k:Nat}{L:List AV}{n:Nat}{xs:List U}(h:L=xs.map encU)(hn:n=xs.length):AV.sl 3 (((L.drop 0).take n).map (J0O (J03 S H k)))=AV.sl 3 (xs.map encU):=by
 subst h;rw[J1K _ _ _ _ hn fun x=>by cases k<;>rfl]
def insR (l:List U)(u:U):List U:=if l[atR l u]?=some u then l else l.take (atR l u)++[u]++l.drop (atR l u)
theorem JJj {P:Program}{f:Nat}{a a':List AV}{r:AV}(h:PureCall P f a r)(hl:a'.length=a.length∧∀ i (h:i<a'.length) (h':i<a.length),Le a'[i] a[i]):PureCall P f a' r:=by
 intro O w vs hO hv;exact h O w vs hO ⟨hl.1.symm.trans hv.1,fun i h1 h2=>hl.2 i (hl.1.symm ▸ h1) h1 w O _ (hv.2 i (hl.1.symm ▸ h1) h2)⟩
mutual
def usesR:Ex→List U→List U
 |.mk o t n ks,l=>J2R ks (if o=oVar∨o=oPre then insR l ⟨t,n,decide (o=oPre)⟩ else l)
def J2R:List Ex→List U→List U
 |[],l=>l
 |k::ks,l=>J2R ks (usesR k l)
end
theorem JHu (l:List U)(u:U):(insR l u).length≤l.length+1:=by
 unfold insR;split
 ·omega
 ·simp;omega
mutual
theorem J92:∀ (e:Ex) (l:List U),(usesR e l).length≤l.length+szF e
 |.mk o t n ks,l=>by
   unfold usesR szF;refine Nat.le_trans (J6t ks _) ?_;split
   ·have:=JHu l ⟨t,n,decide (o=oPre)⟩;omega
   ·omega
theorem J6t:∀ (ks:List Ex) (l:List U),(J2R ks l).length≤l.length+szL ks
 |[],l=>by unfold J2R;omega
 |k::ks,l=>by
   unfold J2R szL;refine Nat.le_trans (J6t ks _) ?_;have:=J92 k l;omega
end
def J12 (e:Ex):List U×Int:=if J5o e then ([],2) else if builtF e then (usesR e [],0) else ([],1)
def JLI (x:List U×Int):AV:=.tup [JDX x.1,encI x.2]
theorem JN1 {s:Sys}(hs:SzS s):∀ q∈s.eqs,(SzE q.left∧TxE q.left)∧SzE q.right∧TxE q.right:=fun q hq=>⟨hs.e _ (by unfold allF;exact List.mem_append_left _ (List.mem_append_left _ (J1k hq).1)),hs.e _ (by unfold allF;exact List.mem_append_left _ (List.mem_append_left _ (J1k hq).2))⟩
theorem JGW (u v:U)(h:J0F u v=false)(hne:u≠v):J0F v u=true:=by
 unfold J0F at h ⊢
 by_cases e1:u.name=v.name
 ·rw[decide_eq_true e1] at h;rw[decide_eq_true e1.symm];simp only at h ⊢
  by_cases p1:u.pre=v.pre
  ·rw[decide_eq_true p1] at h;rw[decide_eq_true p1.symm];simp only[decide_eq_true_eq,decide_eq_false_iff_not] at h ⊢;refine Int.lt_iff_le_and_ne.2 ⟨by omega,fun e=>hne ?_⟩;obtain ⟨a,b,c⟩:=u;obtain ⟨a',b',c'⟩:=v;simp only at e1 p1 e;rw[e1,p1,e]
  ·rw[decide_eq_false p1] at h;rw[decide_eq_false (fun q=>p1 q.symm)];simp only at h ⊢
   cases hu:u.pre with
   |true=>rfl
   |false=>exact absurd (hu.trans h.symm) p1
 ·rw[decide_eq_false e1] at h;rw[decide_eq_false (fun q=>e1 q.symm)];simp only at h ⊢;have:=JJ8 u.name.toList v.name.toList;rw[h,Bool.false_or,decide_eq_false (fun q=>e1 (ByteArray.ext (by rw[ByteArray.toList_eq,ByteArray.toList_eq] at q;exact Array.toList_inj.1 q)))] at this
  simpa using this.symm
def insS:List U→U→List U
 |[],u=>[u]
 |x::r,u=>if J0F x u then x::insS r u else if x=u then x::r else u::x::r
theorem JB0:∀ (l:List U) (u:U),insR l u=insS l u
 |[],u=>rfl
 |x :: r,u=>by
   have ih:=JB0 r u;unfold insR at ih ⊢;rw[JIX];unfold insS
   cases hb:J0F x u with
   |true=>
     simp only[if_true,List.getElem?_cons_succ,List.take_succ_cons,List.drop_succ_cons];rw[← ih];split<;>rfl
   |false=>
     simp only[Bool.false_eq_true,if_false,List.getElem?_cons_zero,Option.some.injEq,List.take_zero,List.drop_zero];split<;>rfl
theorem J8G (v:U):∀ (l:List U) (u:U),v∈insS l u↔v∈l∨v=u
 |[],u=>by simp[insS]
 |x :: r,u=>by
   unfold insS
   cases hb:J0F x u with
   |true=>
     rw[if_pos rfl,List.mem_cons,List.mem_cons,J8G v r u,or_assoc]
   |false=>
     rw[if_neg (by simp)]
     by_cases hx:x=u
     ·rw[if_pos hx];refine ⟨.inl,fun h=>h.elim id fun h=>?_⟩;rw[h,← hx];simp
     ·rw[if_neg hx,List.mem_cons,or_comm]
def SrtU (l:List U):Prop:=l.Pairwise fun a b=>J0F a b=true
theorem JBc:∀ (l:List U) (u:U),SrtU l→SrtU (insS l u)
 |[],u,_=>List.pairwise_singleton ..
 |x :: r,u,h=>by
   obtain ⟨h1,h2⟩:=List.pairwise_cons.1 h;unfold insS
   cases hb:J0F x u with
   |true=>
     rw[if_pos rfl];refine List.pairwise_cons.2 ⟨fun y hy=>?_,JBc r u h2⟩
     rcases (J8G y r u).1 hy with hy|rfl
     ·exact h1 y hy
     ·exact hb
   |false=>
     rw[if_neg (by simp)]
     by_cases hx:x=u
     ·rw[if_pos hx];exact h
     ·rw[if_neg hx];have hux:=JGW x u hb hx;refine List.pairwise_cons.2 ⟨fun y hy=>?_,h⟩
      rcases List.mem_cons.1 hy with rfl|hy
      ·exact hux
      ·exact J3t _ _ _ hux (h1 y hy)
def JFL (o:ByteArray):Prop:=o=oVar∨o=oPre
mutual
def OccE:Ex→U→Prop
 |.mk o t n ks,u=>(JFL o∧u=⟨t,n,decide (o=oPre)⟩)∨OccL ks u
def OccL:List Ex→U→Prop
 |[],_=>False
 |k::ks,u=>OccE k u∨OccL ks u
end
mutual
theorem J5e (u:U):∀ (e:Ex) (A:List U),u∈J38 e A↔u∈A∨OccE e u
 |.mk o t n ks,A=>by
   unfold J38 OccE;rw[J9Q u ks]
   by_cases h:o=oVar∨o=oPre
   ·rw[if_pos h];unfold putU JFL;split
    ·rename_i hm;constructor
     ·rintro (h1 | h1)
      ·exact .inl h1
      ·exact .inr (.inr h1)
     ·rintro (h1 | ⟨_,h1⟩ | h1)
      ·exact .inl h1
      ·rw[h1];exact .inl hm
      ·exact .inr h1
    ·rw[List.mem_append,List.mem_singleton];constructor
     ·rintro ((h1 | h1) | h1)
      ·exact .inl h1
      ·exact .inr (.inl ⟨h,h1⟩)
      ·exact .inr (.inr h1)
     ·rintro (h1 | ⟨_,h1⟩ | h1)
      ·exact .inl (.inl h1)
      ·exact .inl (.inr h1)
      ·exact .inr h1
   ·rw[if_neg h];unfold JFL;constructor
    ·rintro (h1 | h1)
     ·exact .inl h1
     ·exact .inr (.inr h1)
    ·rintro (h1 | ⟨h2,_⟩ | h1)
     ·exact .inl h1
     ·exact absurd h2 h
     ·exact .inr h1
theorem J9Q (u:U):∀ (ks:List Ex) (A:List U),u∈J3N ks A↔u∈A∨OccL ks u
 |[],A=>by unfold J3N OccL;simp
 |k::ks,A=>by
   unfold J3N OccL;rw[J9Q u ks,J5e u k,or_assoc]
end
mutual
theorem J2Z (u:U):∀ (e:Ex) (A:List U),u∈usesR e A↔u∈A∨OccE e u
 |.mk o t n ks,A=>by
   unfold usesR OccE;rw[J7L u ks]
   by_cases h:o=oVar∨o=oPre
   ·rw[if_pos h,JB0,J8G,or_assoc];unfold JFL;simp only[h,true_and]
   ·rw[if_neg h];unfold JFL;simp only[h,false_and,false_or]
theorem J7L (u:U):∀ (ks:List Ex) (A:List U),u∈J2R ks A↔u∈A∨OccL ks u
 |[],A=>by unfold J2R OccL;simp
 |k::ks,A=>by
   unfold J2R OccL;rw[J7L u ks,J2Z u k,or_assoc]
end
mutual
theorem J3Q:∀ (e:Ex) (A:List U),SrtU A→SrtU (usesR e A)
 |.mk o t n ks,A,h=>by
   unfold usesR;refine J6x ks _ ?_;split
   ·rw[JB0];exact JBc _ _ h
   ·exact h
theorem J6x:∀ (ks:List Ex) (A:List U),SrtU A→SrtU (J2R ks A)
 |[],A,h=>by unfold J2R;exact h
 |k::ks,A,h=>by unfold J2R;exact J6x ks _ (J3Q k A h)
end
end Go.Proofs.YtlblbldolhiokaaGreatDoor
namespace Go.Proofs
open Go.Shelf
def Tryz.lays106_ren:Go.Shelf.Ren:=⟨fun|106=>195|213=>289|265=>335|n=>n,fun|9=>9|3=>3|n=>n,fun|n=>n⟩
theorem JAH:Go.Proofs.Lays.n106 Tryz.prog Tryz.lays106_ren:={
 mixed:=by kernel_rfl
 f106:=Tryz.func195.trans (congrArg some (by kernel_rfl))
 f213:=Tryz.func289.trans (congrArg some (by kernel_rfl))
 f265:=Tryz.func335.trans (congrArg some (by kernel_rfl))
 t3:=Tryz.underlying3
 a3:=Tryz.isAgg3
 z3:=Tryz.sizeOf3
 v3:=Tryz.zeroValue3
 t9:=Tryz.underlying9
 a9:=Tryz.isAgg9
 z9:=Tryz.sizeOf9
 v9:=Tryz.zeroValue9 }
def Tryz.sortU_ren:Go.Shelf.Ren:=⟨fun|6=>198|15=>292|14=>291|28=>345|29=>346|20=>337|21=>338|22=>339|23=>340|24=>341|25=>342|26=>343|27=>344|46=>369|47=>370|48=>371|49=>372|50=>373|57=>383|n=>n,fun|22=>30|24=>54|25=>163|3=>3|39=>239|0=>0|53=>285|55=>274|4=>4|46=>359|45=>358|50=>146|5=>5|9=>9|66=>393|70=>397|76=>406|77=>407|n=>n,fun|n=>n⟩
theorem JDm:Go.Proofs.SlLaysF0.n6 Tryz.prog Tryz.sortU_ren:={
 mixed:=by kernel_rfl
 f6:=⟨Tryz.f198.name,by decide,Tryz.func198.trans (congrArg some (by kernel_rfl))⟩
 f14:=⟨Tryz.f291.name,by decide,Tryz.func291.trans (congrArg some (by kernel_rfl))⟩
 f15:=Tryz.func292.trans (congrArg some (by kernel_rfl))
 f20:=⟨Tryz.f337.name,by decide,Tryz.func337.trans (congrArg some (by kernel_rfl))⟩
 f21:=⟨Tryz.f338.name,by decide,Tryz.func338.trans (congrArg some (by kernel_rfl))⟩
 f22:=⟨Tryz.f339.name,by decide,Tryz.func339.trans (congrArg some (by kernel_rfl))⟩
 f23:=⟨Tryz.f340.name,by decide,Tryz.func340.trans (congrArg some (by kernel_rfl))⟩
 f24:=⟨Tryz.f341.name,by decide,Tryz.func341.trans (congrArg some (by kernel_rfl))⟩
 f25:=⟨Tryz.f342.name,by decide,Tryz.func342.trans (congrArg some (by kernel_rfl))⟩
 f26:=⟨Tryz.f343.name,by decide,Tryz.func343.trans (congrArg some (by kernel_rfl))⟩
 f27:=⟨Tryz.f344.name,by decide,Tryz.func344.trans (congrArg some (by kernel_rfl))⟩
 f28:=Tryz.func345.trans (congrArg some (by kernel_rfl))
 f29:=Tryz.func346.trans (congrArg some (by kernel_rfl))
 f46:=⟨Tryz.f369.name,by decide,Tryz.func369.trans (congrArg some (by kernel_rfl))⟩
 f47:=Tryz.func370.trans (congrArg some (by kernel_rfl))
 f48:=Tryz.func371.trans (congrArg some (by kernel_rfl))
 f49:=⟨Tryz.f372.name,by decide,Tryz.func372.trans (congrArg some (by kernel_rfl))⟩
 f50:=⟨Tryz.f373.name,by decide,Tryz.func373.trans (congrArg some (by kernel_rfl))⟩
 f57:=⟨Tryz.f383.name,by decide,Tryz.func383.trans (congrArg some (by kernel_rfl))⟩
 t0:=Tryz.underlying0
 a0:=Tryz.isAgg0
 z0:=Tryz.sizeOf0
 v0:=Tryz.zeroValue0
 t3:=Tryz.underlying3
 a3:=Tryz.isAgg3
 z3:=Tryz.sizeOf3
 v3:=Tryz.zeroValue3
 t4:=Tryz.underlying4
 a4:=Tryz.isAgg4
 z4:=Tryz.sizeOf4
 v4:=Tryz.zeroValue4
 t5:=Tryz.underlying5
 a5:=Tryz.isAgg5
 z5:=Tryz.sizeOf5
 v5:=Tryz.zeroValue5
 t9:=Tryz.underlying9
 a9:=Tryz.isAgg9
 z9:=Tryz.sizeOf9
 v9:=Tryz.zeroValue9
 t22:=Tryz.underlying30
 a22:=Tryz.isAgg30
 z22:=Tryz.sizeOf30
 v22:=Tryz.zeroValue30
 t25:=Tryz.underlying163
 a25:=Tryz.isAgg163
 z25:=Tryz.sizeOf163
 v25:=Tryz.zeroValue163
 t39:=Tryz.underlying239
 a39:=Tryz.isAgg239
 z39:=Tryz.sizeOf239
 v39:=Tryz.zeroValue239
 t45:=Tryz.underlying358
 a45:=Tryz.isAgg358
 z45:=Tryz.sizeOf358
 v45:=Tryz.zeroValue358
 t46:=Tryz.underlying359
 a46:=Tryz.isAgg359
 z46:=Tryz.sizeOf359
 v46:=Tryz.zeroValue359
 t50:=Tryz.underlying146
 a50:=Tryz.isAgg146
 z50:=Tryz.sizeOf146
 v50:=Tryz.zeroValue146
 t53:=Tryz.underlying285
 a53:=Tryz.isAgg285
 z53:=Tryz.sizeOf285
 v53:=Tryz.zeroValue285
 t55:=Tryz.underlying274
 a55:=Tryz.isAgg274
 z55:=Tryz.sizeOf274
 v55:=Tryz.zeroValue274
 t66:=Tryz.underlying393
 a66:=Tryz.isAgg393
 z66:=Tryz.sizeOf393
 v66:=Tryz.zeroValue393
 t70:=Tryz.underlying397
 a70:=Tryz.isAgg397
 z70:=Tryz.sizeOf397
 v70:=Tryz.zeroValue397
 t76:=Tryz.underlying406
 a76:=Tryz.isAgg406
 z76:=Tryz.sizeOf406
 v76:=Tryz.zeroValue406
 t77:=Tryz.underlying407
 a77:=Tryz.isAgg407
 z77:=Tryz.sizeOf407
 v77:=Tryz.zeroValue407 }
end Go.Proofs
namespace Go.Proofs.YtlblbldolhiokaaGreatDoor
open Go Go.Fw Go.RowKit Go.Shelf Go.Sort
def UB:={u:U // 0≤u.order∧u.order≤6}
instance:Inhabited UB:=⟨⟨⟨⟨#[]⟩,0,false⟩,by decide⟩⟩
def J0l (x:UB):List Value:=[.string x.1.name,.int .i64 x.1.order,.bool x.1.pre]
theorem JDN (x y:UB)(W:World):Calls Tryz.prog 116 #[.agg (J0l x).toArray,.agg (J0l y).toArray] W fun e w'=>e=.returned (.int .i64 (J1o x.1 y.1))∧∃ q os',w'=Go.Sort.grow (W.drewN q) os':=by
 have hcon:=fun W'=>Any.strings_Compare JAH x.1.name y.1.name W'
 change ∀ W',Calls Tryz.prog 195 _ _ _ at hcon
 obtain ⟨⟨xn,xo,xp⟩,hx⟩:=x;obtain ⟨⟨yn,yo,yp⟩,hy⟩:=y;simp only[J0l] at *
 by_cases h1:xn=yn
 ·subst h1;clear hcon;cases xp<;>cases yp
  all_goals
   rw[show J1o ⟨xn,xo,_⟩ ⟨xn,yo,_⟩=_ by unfold J1o JDO;simp only[decide_true];rfl]
   go_enter Tryz.func116,Tryz.ntmps116
   go_wp2
   go_ret
   refine ⟨?_,0,_,by rw[alloc_eq_grow,alloc_eq_grow,grow_grow];rfl⟩
   first
    |rfl
    |exact congrArg (fun n=>Ending.returned (.int .i64 n)) (show wrap64 (xo-yo)=xo-yo by unfold wrap64;omega)
 ·rw[show J1o ⟨xn,xo,xp⟩ ⟨yn,yo,yp⟩=Lib.compareBytes xn.data.toList yn.data.toList by unfold J1o JDO;simp only[decide_eq_false h1];rfl]
  have h2:(xn.toList==yn.toList)=false:=by
   rw[beq_eq_false_iff_ne];intro e;rw[ByteArray.toList_eq,ByteArray.toList_eq] at e;exact h1 (ByteArray.ext (Array.toList_inj.1 e))
  have h3:∀ {C:Prop},(!xn.toList==yn.toList)=false→C:=fun h=>by rw[h2] at h;cases h
  generalize Lib.compareBytes xn.data.toList yn.data.toList=r at hcon ⊢
  go_enter Tryz.func116,Tryz.ntmps116
  go_wp2_with (go_at_call 195;refine (hcon _).mono ?_;rintro e w' ⟨rfl,rfl⟩)
  all_goals first|exact h3 (by assumption)|(go_ret;exact ⟨rfl,0,_,by rw[alloc_eq_grow,alloc_eq_grow,grow_grow];rfl⟩)
theorem JHm (x y:UB):ltOf (fun x y:UB=>J1o x.1 y.1) x y=J0F x.1 y.1:=by
 have:=J3C x.1 y.1;unfold ltOf
 cases hb:J0F x.1 y.1 with
 |true=>rw[hb] at this;have:=of_decide_eq_false this;exact decide_eq_true (show J1o x.1 y.1<0 by omega)
 |false=>rw[hb] at this;have:=of_decide_eq_true this;exact decide_eq_false (show ¬ J1o x.1 y.1<0 by omega)
theorem swoU:Go.Sort.SWO (ltOf fun x y:UB=>J1o x.1 y.1) where
 irrefl x:=by rw[JHm];exact JA9 _
 trans x y z h1 h2:=by rw[JHm] at *;exact J3t _ _ _ h1 h2
 ntrans x y z h1 h2:=by
  rw[JHm] at *
  cases hb:J0F x.1 z.1 with
  |false=>rfl
  |true=>
    by_cases e:x.1=y.1
    ·rw[e,h2] at hb;cases hb
    ·have:=JGW _ _ h1 e;have:=J3t _ _ _ this hb;rw[h2] at this;cases this
theorem JHP:PX 198 [.sl 3 [],.fn (.func 116) [] []] (.tup []):=J1L J8o (fuel:=50) (n:=10) (by kernel_rfl)
theorem J7h (d:Array UB)(i j:Nat)(hi:i<d.size)(hj:j<3):(flatK J0l 3 d)[i*3+j]?=some ((J0l d[i])[j]!):=by
 have hs:i*3+j<(flatK J0l 3 d).size:=by rw[size_flatK];omega
 have h:=get_flatK J0l 3 d (i*3+j) (by omega);rw[getElem!_pos (flatK J0l 3 d) (i*3+j) hs] at h;rw[Array.getElem?_eq_getElem hs,h,show (i*3+j)/3=i by omega,show (i*3+j)%3=j by omega,getElem!_pos d i hi]
theorem JEa (w:World)(c n:Nat)(d:Array UB)(os:Array Obj)(A:Array Value)(e:Nat)(hbk:w.heap[c]?=some (.cells A e (0,0))) :
  (∀ x,x<w.heap.size→x≠c→(sortWorldK J0l 3 w c 0 n d os).heap[x]?=w.heap[x]?)∧(sortWorldK J0l 3 w c 0 n d os).heap[c]?=some (.cells (putCells id 0 (flatK J0l 3 d) A) e (0,0))∧w.heap.size≤(sortWorldK J0l 3 w c 0 n d os).heap.size:=by
 have hlt:=(Array.getElem?_eq_some_iff.1 hbk).1;have hh:(sortWorldK J0l 3 w c 0 n d os).heap=w.heap.modify c (onCells (putCells id 0 (flatK J0l 3 d)))++os:=rfl;refine ⟨fun x hx hne=>?_,?_,?_⟩
 ·rw[hh,Array.getElem?_append_left (by simpa using hx),Array.getElem?_modify,if_neg (fun q=>hne q.symm)]
 ·rw[hh,Array.getElem?_append_left (by simpa using hlt),Array.getElem?_modify,if_pos rfl,hbk];rfl
 ·rw[hh];simp
theorem JF1 (A:Array Value)(d:Array UB)(hA:d.size*3≤A.size)(i j:Nat)(hi:i<d.size)(hj:j<3):(putCells id 0 (flatK J0l 3 d) A)[i*3+j]?=some ((J0l d[i])[j]!):=by
 have h:=J7h d i j hi hj;have hs:i*3+j<(flatK J0l 3 d).size:=(Array.getElem?_eq_some_iff.1 h).1;have ha:i*3+j<A.size:=by rw[size_flatK] at hs;omega
 unfold putCells;rw[Array.getElem?_mapIdx,Array.getElem?_eq_getElem ha];simp only[Option.map_some];rw[if_pos ⟨Nat.zero_le _,by omega⟩,Nat.sub_zero,getElem!_pos (flatK J0l 3 d) (i*3+j) hs];rw[Array.getElem?_eq_getElem hs] at h;exact h
theorem JCt {gh:Gh}{κ:KM}{H:Hp}{w:World}{b g c:Nat}{K:KI}{B:Blk}{A:Array Value}(hr:HRel gh κ H w)(hb:H b=some (g,B))(hκ:κ b g=some K)(hc:K.c=some c)(hn3:K.n=3)(hm:K.m=A.size)(e3:Nat)(he:e3≠solo)
  (hbk:w.heap[c]?=some (.cells A e3 (0,0)))(n:Nat)(l:List UB)(os:Array Obj)(hA:l.length*3≤A.size) :
  HRel gh κ (setH H b (some (g,⟨e3,3,(l.map (·.1)).map encU⟩))) (sortWorldK J0l 3 w c 0 n l.toArray os) ∧
   ∀ {x:AV} {v:Value},VR κ w (Nset gh.O κ H) x v→VR κ (sortWorldK J0l 3 w c 0 n l.toArray os) (Nset gh.O κ (setH H b (some (g,⟨e3,3,(l.map (·.1)).map encU⟩)))) x v:=by
 obtain ⟨h1,h2,h3⟩:=JEa w c n l.toArray os A e3 hbk
 have hset:κ.set b g K=κ:=by
  funext x y
  unfold KM.set;split
  ·rename_i h;rw[h.1,h.2,hκ]
  ·rfl
 have key:=hr.replace (d:=b) (γ:=g) (K:=K) (B:=⟨e3,3,(l.map (·.1)).map encU⟩) (w':=sortWorldK J0l 3 w c 0 n l.toArray os) (J0V hr ..)
  ⟨h3,fun x hx hN=>h1 x hx (fun q=>hN ⟨b,g,B,K,hb,hκ,q ▸ hc⟩)⟩
  (fun b' g' B' K' c' hne hb' hκ' hc'=>h1 c' (hr.lt ⟨b',g',B',K',hb',hκ',hc'⟩) (fun q=>hne (hr.inj _ _ _ _ _ _ _ _ _ hb' hb hκ' hκ hc' (q ▸ hc))))
  ⟨rfl,rfl,rfl⟩ (.inr hκ) (fun x hx=>.inr ⟨g,B,K,hb,hκ,hx⟩) (fun tr=>.inl ⟨Nat.succ_pos 2,hn3,fun i hi=>by simp[encU,AV.cells],.inr ⟨c,_,fun i j=>(J0l l[i]!)[j]!,hc,h2,by rw[hm];simp[putCells],by simpa [putCells] using hA,fun i hi j hj=>?_,fun i j hi hj=>?_,fun i hi j hj=>?_,fun q=>absurd q he⟩⟩)
 ·rw[hset] at key;exact key
 ·have hi':i<l.length:=by simpa using hi
  have:=JF1 A l.toArray (by simpa using hA) i j (by simpa using hi') hj;rw[this]
  congr 1
  simp[getElem!_pos l i hi']
 ·match j,hj with
  |0,_=>rfl
  |1,_=>rfl
  |2,_=>rfl
 ·have hi':i<l.length:=by simpa using hi
  have hx:((l.map (·.1)).map encU)[i]'hi=encU (l[i]).1:=by simp
  have hg:l[i]! = l[i]:=getElem!_pos l i hi';simp only[hg]
  have hv:∀ (a:AV) (ha:a=encU (l[i]).1) (hj:j<a.cells.length),VR (κ.set b g K) (sortWorldK J0l 3 w c 0 n l.toArray os) (Nset gh.O (κ.set b g K) (setH H b (some (g,⟨e3,3,(l.map (·.1)).map encU⟩)))) (a.cells[j]'hj) ((J0l l[i])[j]!):=by
   rintro a rfl hj
   match j,hj with
   |0,_=>exact .val _ rfl
   |1,_=>exact .val _ rfl
   |2,_=>exact .val _ rfl
  exact hv _ hx hj
theorem JHJ {κ:KM}{w:World}{N:Nat→Prop}(x:UB):∀ (j:Nat) (hj:j<(encU x.1).cells.length) (v:Value),VR κ w N (encU x.1).cells[j] v→v=(J0l x)[j]!
 |0,_,v,h=>by cases h;rfl
 |1,_,v,h=>by cases h;rfl
 |2,_,v,h=>by cases h;rfl
theorem JFT {κ:KM}{w:World}{N:Nat→Prop}{c e3:Nat}{A:Array Value}{f:Nat→Nat→Value}(l:List UB)(hbk:w.heap[c]?=some (.cells A e3 (0,0)))
  (hf:∀ i,i<l.length→∀ j,j<3→A[i*3+j]?=some (f i j))(hv:∀ i (h:i<l.length) j (h':j<(encU (l[i]).1).cells.length),VR κ w N (encU (l[i]).1).cells[j] (f i j)):HoldsK J0l 3 w c 0 l.toArray:=by
 intro t ht;rw[size_flatK] at ht;have hi:t/3<l.length:=by simp at ht;omega
 have hj:t%3<3:=Nat.mod_lt _ (by decide);have h1:=J7h l.toArray (t/3) (t%3) (by simpa using hi) hj;have h2:=hf _ hi _ hj;rw[show t/3*3+t%3=t by omega] at h1 h2;have hs:t<(flatK J0l 3 l.toArray).size:=(Array.getElem?_eq_some_iff.1 h1).1
 have h3:(flatK J0l 3 l.toArray)[t]! = (J0l (l[t/3]))[t%3]! :=by
  rw[getElem!_pos (flatK J0l 3 l.toArray) t hs];rw[Array.getElem?_eq_getElem hs] at h1;exact (Option.some.inj h1).trans (by simp)
 have h4:=hv _ hi (t%3) hj;have h5:f (t/3) (t%3)=(J0l (l[t/3]))[t%3]! := JHJ _ _ hj _ h4;refine ⟨?_,by simp[World.frozen?,hbk]⟩;simp only[Nat.zero_add,World.cell?,hbk,id];rw[h3,← h5]
 simpa using h2
theorem JIc {H:Hp}{b g:Nat}(lB:List UB)(hb:H b=some (g,⟨54,3,(lB.map (·.1)).map encU⟩))(hl:lB.length<2^40) :
  HCall Tryz.prog 198 [.own b g 0 lB.length,.fn (.func 116) [] []] H fun r H'=>r=.tup []∧∃ l':List UB,l'.Perm lB∧(l'.Pairwise fun a c=>J0F c.1 a.1=false)∧H'=setH H b (some (g,⟨54,3,(l'.map (·.1)).map encU⟩)):=by
 intro gh κ w vs hr hv;obtain ⟨hlen,hv⟩:=hv;obtain ⟨vl⟩:=vs
 rcases vl with _|⟨a,_|⟨a2,_|⟨a3,r⟩⟩⟩<;>simp at hlen
 have h0:=hv 0 (by simp) (by simp);have h1:=hv 1 (by simp) (by simp);simp only[List.getElem_cons_zero,List.getElem_cons_succ,List.getElem_toArray] at h0 h1
 cases h1 with
 |fn _ _ _ vf vc e1 e2 _ _=>
 obtain rfl:vf=#[]:=Array.eq_empty_of_size_eq_zero e1.symm;obtain rfl:vc=#[]:=Array.eq_empty_of_size_eq_zero e2.symm;generalize hn:lB.length=n at h0
 cases h0 with
 |ownnil _ _ K hκ hc=>
   obtain rfl:lB=[]:=List.length_eq_zero_iff.1 hn;refine (JHP (Nset gh.O κ H) w _ (fun c hc=>?_) ⟨rfl,fun i h h'=>?_⟩).mono ?_
   ·rcases hc with hc | ⟨b',g',B,K',h1,h2,h3⟩
    ·exact Nat.lt_of_lt_of_le (hr.apart c hc).1 hr.kept.size
    ·exact hr.lt ⟨b',g',B,K',h1,h2,h3⟩
   ·match i,h with
    |0,_=>exact .slnil 3
    |1,_=>exact .fn _ _ _ _ _ rfl rfl (fun i h=>by simp at h) (fun i h=>by simp at h)
   ·rintro e w' ⟨v,rfl,hv',hbl⟩;obtain ⟨q1,q2⟩:=J0a hr hbl
    have hH:setH H b (some (g,⟨54,3,(([]:List UB).map (·.1)).map encU⟩))=H:=by
     funext x;unfold setH;split
     ·rename_i h;rw[h,hb]
     ·rfl
    exact ⟨v,.tup [],H,κ,rfl,⟨rfl,[],.refl _,List.Pairwise.nil,hH.symm⟩,q1,hv'.lift,q2⟩
 |own _ _ _ _ cap c K hκ hc hcap hm hn3=>
   subst hn;obtain ⟨K',hκ',hbr⟩:=hr.blk _ _ _ hb;rw[hκ] at hκ';cases hκ';obtain ⟨hn2,hcl,h3⟩:=hbr.rows hn3;have hn2:K.n=3:=hn2
   rcases h3 with ⟨h3,_⟩|⟨c',A,f,hc',hbk,hmA,hsA,hf,hpl,hvv,hso⟩
   ·rw[h3] at hc;cases hc
   rw[hc'] at hc;cases hc;have hl':=hl
   have hH:=JFT (κ:=κ) (N:=Nset gh.O κ H) (f:=f) lB hbk (fun i hi j hj=>hf i (by simpa using hi) j hj) (fun i hi j hj=>by
    have hx:((lB.map (·.1)).map encU)[i]'(by simpa using hi)=encU (lB[i]).1:=by simp
    have:=hvv i (by simpa using hi) j (by simp only[hx];exact hj);simp only[hx] at this
    exact this)
   have hlt:=(Array.getElem?_eq_some_iff.1 hbk).1;have eg:∀ args w,(callFunc 116 args).run Tryz.prog w=.ok (.enter 116 args) w:=enters_of Tryz.func116 (by kernel_rfl) rfl;have hcon:=AnyQ.slices_SortFunc JDm 3 Tryz.isAgg54 Tryz.sizeOf54 J0l (fun _=>rfl) (fun x v hv=>by simp[J0l] at hv;rcases hv with rfl|rfl|rfl<;>rfl) (fun x y:UB=>J1o x.1 y.1) swoU 116 #[] c 0 cap lB.toArray w eg (fun _ _ _ _ x y=>JDN x y _) hH hlt (by simp;omega)
   change Calls Tryz.prog 198 _ _ _ at hcon
   simp only[Nat.zero_mul];refine Calls.mono hcon ?_;rintro e w' ⟨rfl,d',n,os,hp,hs,rfl⟩;obtain ⟨ld⟩:=d';obtain ⟨p1,_,p3⟩:=hp;have p1:ld.length=lB.length:=by simpa using p1
   have p3:ld.Perm lB:=by
    have h3:(ld.toArray.extract 0 lB.length).toList.Perm (lB.toArray.extract 0 lB.length).toList:=p3;have e1:(ld.toArray.extract 0 lB.length).toList=ld:=by simp[← p1]
    have e2:(lB.toArray.extract 0 lB.length).toList=lB:=by simp
    rw[e1,e2] at h3;exact h3
   have hn3':K.n=3:=hn2;obtain ⟨q1,q2⟩:=JCt hr hb hκ hc' hn3' hmA 54 (by decide) hbk n ld os (by rw[p1];simpa using hsA);refine ⟨_,.tup [],_,κ,rfl,⟨rfl,ld,p3,?_,rfl⟩,q1,.tup [] #[] rfl (fun i h=>by simp at h),q2⟩;rw[List.pairwise_iff_getElem];intro i j hi hj hij;have:=hs i j (Nat.zero_le _) hij (by simpa [p1] using hj);rw[JHm] at this
   simpa [getElem!_pos,hi,hj] using this
end Go.Proofs.YtlblbldolhiokaaGreatDoor
namespace Go.Proofs.YtlblbldolhiokaaGreatDoor
open Go Go.Fw
theorem J6y:∀ {a b:List U},SrtU a→SrtU b→(∀ u,u∈a↔u∈b)→a=b
 |[],[],_,_,_=>rfl
 |[],y::b,_,_,h=>by have:=(h y).2 (by simp);cases this
 |x::a,[],_,_,h=>by have:=(h x).1 (by simp);cases this
 |x :: a,y::b,ha,hb,h=>by
   obtain ⟨a1,a2⟩:=List.pairwise_cons.1 ha;obtain ⟨b1,b2⟩:=List.pairwise_cons.1 hb
   have hxy:x=y:=by
    rcases List.mem_cons.1 ((h x).1 (by simp)) with e|e
    ·exact e
    ·rcases List.mem_cons.1 ((h y).2 (by simp)) with e' | e'
     ·exact e'.symm
     ·have:=J3t _ _ _ (a1 y e') (b1 x e);rw[JA9] at this;cases this
   subst hxy;rw[J6y a2 b2 fun u=>?_];constructor
   ·intro hu
    rcases List.mem_cons.1 ((h u).1 (by simp[hu])) with rfl|e
    ·have:=a1 u hu;rw[JA9] at this;cases this
    ·exact e
   ·intro hu
    rcases List.mem_cons.1 ((h u).2 (by simp[hu])) with rfl|e
    ·have:=b1 u hu;rw[JA9] at this;cases this
    ·exact e
theorem JDI {A:List U}(h:A.Nodup)(u:U):(putU A u).Nodup:=by
 unfold putU;split
 ·exact h
 ·rename_i hu;rw[List.nodup_append];exact ⟨h,by simp,fun a ha b hb=>by rintro rfl;simp at hb;subst hb;exact hu ha⟩
mutual
theorem J5a:∀ (e:Ex) (A:List U),A.Nodup→(J38 e A).Nodup
 |.mk o t n ks,A,h=>by
   unfold J38;refine J5Z ks _ ?_;split
   ·exact JDI h _
   ·exact h
theorem J5Z:∀ (ks:List Ex) (A:List U),A.Nodup→(J3N ks A).Nodup
 |[],A,h=>by unfold J3N;exact h
 |k::ks,A,h=>by unfold J3N;exact J5Z ks _ (J5a k A h)
end
theorem JFI:∀ acc:List U,(∀ u∈acc,0≤u.order∧u.order≤6)→∃ lB:List UB,lB.map (·.1)=acc
 |[],_=>⟨[],rfl⟩
 |u::r,h=>by
   obtain ⟨l,hl⟩:=JFI r fun v hv=>h v (by simp[hv]);exact ⟨⟨u,h u (by simp)⟩::l,show u::l.map (·.1)=_ by rw[hl]⟩
theorem JDT {P:Program}{f:Nat}{args:List AV}{H:Hp}{Q Q':AV→Hp→Prop}(h:HCall P f args H Q)(hq:∀ r H',Q r H'→Q' r H'):HCall P f args H Q':=
 fun gh κ w vs hr hv=>(h gh κ w vs hr hv).mono fun e w' ⟨v,r,H',κ',he,hQ,h1,h2,h3⟩=>⟨v,r,H',κ',he,hq _ _ hQ,h1,h2,h3⟩
theorem JKt {l:List UB}{A:List U}(hA:A.Nodup)(hp:(l.map (·.1)).Perm A)(hs:l.Pairwise fun a c=>J0F c.1 a.1=false):SrtU (l.map (·.1)):=by
 have hn:(l.map (·.1)).Nodup:=hp.nodup_iff.2 hA;unfold SrtU;rw[List.pairwise_map];have hn':l.Pairwise fun a c=>a.1≠c.1:=List.pairwise_map.1 hn;refine (hs.and hn').imp ?_;rintro a c ⟨h1,h2⟩;exact JGW _ _ h1 (fun e=>h2 e.symm)
theorem JF4 {A acc:List U}{L:List Nat}{j:Nat}{u d:U}(hn:L.Nodup)(hj:j∈L)(hu:A.getD j d=u)(h:(acc++L.map fun j=>A.getD j d).Perm A):((acc++[u])++(L.filter (· ≠ j)).map fun j=>A.getD j d).Perm A:=by
 refine List.Perm.trans ?_ h;rw[List.append_assoc];refine List.Perm.append_left _ ?_;have e:L.filter (· ≠ j)=L.erase j:=by rw[hn.erase_eq_filter];congr 1;funext x;by_cases hx:x=j<;>simp[hx]
 rw[e,List.singleton_append,← hu];exact ((List.perm_cons_erase hj).map fun j=>A.getD j d).symm
theorem JGe (A S:List U)(hn:A.Nodup)(ho:∀ u∈A,0≤u.order∧u.order≤6)(hl:A.length<2^39)(hS:SrtU S)(hm:∀ u,u∈S↔u∈A):PX 122 [setU A] (JDX S):=by
 refine PC [14] Tryz.func122 rfl (by rfl) rfl ?_;obtain ⟨B,hB⟩:∃ B,B=A:=⟨_,rfl⟩;unfold setU;(refine kWQ ?_;repeat intro γ)
 refine LoopP.intro (fun k σ H=>∃ gi gl,∃ L:List Nat,∃ acc:List U,∃ cur,k=L.length∧(∀ j∈L,j<A.length)∧L.Nodup∧(acc++L.map fun j=>A.getD j ⟨⟨#[]⟩,0,false⟩).Perm A ∧
  σ=fr [(3,.own 14 gl 0 acc.length),(6,.it 6 gi)] ∧
  H=hp [(6,gi,⟨0,0,[setU A,.tup (L.map Fw.encN),cur]⟩),(14,gl,⟨54,3,acc.map encU⟩)]) ?_ ?_
 ·refine .intro (JAD 3 14 54 3 rfl rfl fun gl=>W.of ⟨_,_,gl,List.range A.length,[],.dead,rfl,fun j hj=>by simpa using hj,List.nodup_range,?_,rfl,rfl⟩ ⟨rfl,rfl,trivial⟩ ⟨rfl,rfl,trivial⟩)
  rw[List.nil_append,show (List.range A.length).map (fun j=>A.getD j ⟨⟨#[]⟩,0,false⟩)=A by
   refine List.ext_getElem (by simp) fun i h1 h2=>?_
   simp[List.getD_eq_getElem?_getD,h2]]
 rintro k σ H ⟨gi,gl,L,acc,cur,rfl,hL,hLn,hp,rfl,rfl⟩;unfold setU;have hal:acc.length≤A.length:=by have:=hp.length_eq;simp at this;omega
 have hml:=@List.length_map _ _ acc encU;(refine kWQ ?_;repeat intro γ);refine NextM.intro L (fun hL0=>?_) (fun j hj=>?_)
 ·subst hL0;have hp:acc.Perm A:=by simpa using hp
  obtain ⟨lB,hlB⟩:∃ lB:List UB,lB.map (·.1)=acc:=JFI acc fun u hu=>ho u (hp.mem_iff.1 hu);subst hlB;(refine kWQ ?_;repeat intro γ);refine CallP.own c198 (JDT (JIc (b:=14) (g:=gl) lB rfl (by simp at hal;omega)) ?_);rintro r H' ⟨rfl,l',hp',hs',rfl⟩;have hpA:(l'.map (·.1)).Perm A:=(hp'.map _).trans hp;have hfin:l'.map (·.1)=S:=J6y (JKt hn hpA hs') hS fun u=>(hpA.mem_iff).trans (hm u).symm;have hll:lB.length=(l'.map (·.1)).length:=by rw[List.length_map];exact hp'.length_eq.symm
  (refine kWQ ?_;repeat intro γ);refine .of ?_;rw[← hfin];exact endU rfl hll
 ·have hjA:=hL j hj;obtain ⟨u,huu⟩:∃ u,A.getD j ⟨⟨#[]⟩,0,false⟩=u:=⟨_,rfl⟩
  have hgd:(A.map encU).getD (j:Int).toNat .dead=encU u:=by
   rw[Int.toNat_natCast,List.getD_eq_getElem?_getD,List.getElem?_map,List.getElem?_eq_getElem hjA,← huu,List.getD_eq_getElem?_getD,List.getElem?_eq_getElem hjA];rfl
  have hlt:(L.filter (· ≠ j)).length<L.length:=J9b L j hj;have hL':∀ k∈L.filter (· ≠ j),k<A.length:=fun k hk=>hL k (List.mem_filter.1 hk).1;have hfl:(L.map Fw.encN).filter (fun x=>match x with|.val (.int _ i)=>!decide (i=(j:Int))|_=>true)=(L.filter (· ≠ j)).map Fw.encN:=JB3 L j;have hp':=JF4 hLn hj huu hp;have hal':acc.length+1≤A.length:=by have:=hp'.length_eq;simp at this;omega
  have hAj:A[j]=u:=by rw[← huu,List.getD_eq_getElem?_getD,List.getElem?_eq_getElem hjA];rfl
  (refine kWQ ?_;repeat intro γ)
  try simp only[hAj]
  refine .intro <| W.of ⟨_,hlt,gi,γ,L.filter (· ≠ j),acc++[u],Fw.encN j,rfl,hL',hLn.filter _,hp',rfl,rfl⟩ ⟨?_,rfl,trivial⟩ ⟨congrArg (fun z=>some (gi,(⟨0,0,[setU A,.tup z,Fw.encN j]⟩:Blk))) hfl,?_,trivial⟩
  ·exact congrArg (AV.own 14 _ 0) (by simp)
  ·rw[List.map_append];rfl
def capE (g3 g5 g8 g9:Nat):List AV:=[.op 3 g3 0 0,.op 5 g5 0 0,.op 8 g8 0 0,.op 9 g9 0 0]
theorem J1S {S:List Nat}{H:Hp}{n b g k e m:Nat}{y:AV}(hS:b∈S)(hb:H b=some (g,⟨e,m,[y]⟩)):J03 S H (n+1) (.op b g 0 k)=.ep (J0O (J03 S H n) y) k:=by
 simp only[J03,if_pos hS,hb,true_and];rfl
theorem J83 {S:List Nat}{H:Hp}(n:Nat)(ks vs:List AV):J0O (J03 S H n) (.mp ks vs)=.mp ks vs:=by cases n<;>rfl
theorem JEb {S:List Nat}{H:Hp}(n:Nat)(x:AV)(k:Nat):J0O (J03 S H n) (.ep x k)=.ep x k:=by cases n<;>rfl
theorem J9f {ks:List (ByteArray×Va)}{ev:Ev}{H:Hp}{g3 g5 g8 g9 a3 a5 a8 a9:Nat}(h3:H 3=some (g3,⟨a3,1,[encK ks]⟩))(h5:H 5=some (g5,⟨a5,1,[J13 ev]⟩))
  (h8:H 8=some (g8,⟨a8,1,[.fn (.func 188) [] (capE g3 g5 g8 g9)]⟩))(h9:H 9=some (g9,⟨a9,1,[wayM]⟩)) :
  ∀ n,J03 [3,5,8,9] H (2*n) (.fn (.func 188) [] (capE g3 g5 g8 g9))=evFn ks ev n
 |0=>rfl
 |n+1=>by
   rw[show 2*(n+1)=2*n+1+1 by omega];show AV.fn _ [] [J03 _ _ (2*n+1) (.op 3 g3 0 0),J03 _ _ (2*n+1) (.op 5 g5 0 0),J03 _ _ (2*n+1) (.op 8 g8 0 0),J03 _ _ (2*n+1) (.op 9 g9 0 0)]=_
   rw[J1S (by simp) h3,J1S (by simp) h5,J1S (by simp) h8,J1S (by simp) h9];have:=J9f h3 h5 h8 h9 n;unfold encK wayM J13 at *;rw[J83,JEb,J83];rw[show J0O (J03 [3,5,8,9] H (2*n)) (.fn (.func 188) [] (capE g3 g5 g8 g9))=evFn ks ev n from this];rfl
theorem JLD {ks:List (ByteArray×Va)}{ev:Ev}{H:Hp}{g3 g5 g8 g9 a3 a5 a8 a9:Nat}(h3:H 3=some (g3,⟨a3,1,[encK ks]⟩))(h5:H 5=some (g5,⟨a5,1,[J13 ev]⟩))
  (h8:H 8=some (g8,⟨a8,1,[.fn (.func 188) [] (capE g3 g5 g8 g9)]⟩))(h9:H 9=some (g9,⟨a9,1,[wayM]⟩))(n:Nat)(o t:ByteArray)(d:Int)(l:List AV) :
  (.agg [encS o,encS t,encI d,.sl 4 l]::capE g3 g5 g8 g9).map (J3R (2*n+1) [3,5,8,9] H)=[.agg [encS o,encS t,encI d,.sl 4 l],.ep (encK ks) 0,.ep (J13 ev) 0,.ep (evFn ks ev n) 0,.ep wayM 0]:=by
 have:=J9f h3 h5 h8 h9 n
 have d3:J3R (2*n+1) [3,5,8,9] H (.op 3 g3 0 0)=.ep (encK ks) 0:=by
  rw[show J3R (2*n+1) [3,5,8,9] H (.op 3 g3 0 0)=J03 [3,5,8,9] H (2*n+1) (.op 3 g3 0 0) from rfl,J1S (by simp) h3];unfold encK;rw[J83]
 have d5:J3R (2*n+1) [3,5,8,9] H (.op 5 g5 0 0)=.ep (J13 ev) 0:=by
  rw[show J3R (2*n+1) [3,5,8,9] H (.op 5 g5 0 0)=J03 [3,5,8,9] H (2*n+1) (.op 5 g5 0 0) from rfl,J1S (by simp) h5];unfold J13;rw[JEb]
 have d8:J3R (2*n+1) [3,5,8,9] H (.op 8 g8 0 0)=.ep (evFn ks ev n) 0:=by
  rw[show J3R (2*n+1) [3,5,8,9] H (.op 8 g8 0 0)=J03 [3,5,8,9] H (2*n+1) (.op 8 g8 0 0) from rfl,J1S (by simp) h8];exact congrArg (fun z=>AV.ep z 0) this
 have d9:J3R (2*n+1) [3,5,8,9] H (.op 9 g9 0 0)=.ep wayM 0:=by
  rw[show J3R (2*n+1) [3,5,8,9] H (.op 9 g9 0 0)=J03 [3,5,8,9] H (2*n+1) (.op 9 g9 0 0) from rfl,J1S (by simp) h9];unfold wayM;rw[J83]
 unfold capE;simp only[List.map_cons,List.map_nil,d3,d5,d8,d9];rfl
theorem JKd (ks:List (ByteArray×Va))(ev:Ev)(he:EvOk ev)(e:Ex)(hz:SzE e)(hx:TxE e)(hb:builtF e=true)(ht:(typeF ks e).2=true)(hw:wtF e≤1000) :
  PX 100 [encK ks,encE e,J13 ev] (J1p (evalF ks ev e)):=by
 refine PZ Tryz.func100 rfl ?_;have hc:=JIe ks ev he e hz hx hb ht hw (SizeOf.sizeOf e) (Nat.le_refl _);generalize evalF ks ev e=F at *;generalize SizeOf.sizeOf e=n at *;rw[J02] at hc ⊢;refine kWS ?_;intros;refine J00 [] _ c187 JJO ?_;refine kWS ?_;intros;refine JBQ (2*n+1) [3,5,8,9] _ c188 (J0U (JLD rfl rfl rfl rfl n _ _ _ _) hc) ?_
 rcases F with c|q|b
 all_goals
  refine kWS ?_;intros;exact .of rfl
structure Bd where
 use:U
 value:ByteArray
structure EnvA where
 time:ByteArray
 init:Bool
 binds:List Bd
def J0r (b:Bd):AV:=.agg [.val (.string b.use.name),.val (.int .i64 b.use.order),.val (.bool b.use.pre),encS b.value]
def J0e (e:EnvA):AV:=.agg [encS e.time,encB e.init,.sl 4 (e.binds.map J0r)]
def valV (s:ByteArray):Option Vl:=if s=sTrue∨s=sFalse then some (.tr (decide (s=sTrue))) else if (J06 s.data.toList).2 then some (.num (numV s)) else none
theorem J9I {s:ByteArray}{v:Vl}(h:valV s=some v):resV s=.tup [J0A v,encB true]:=by
 unfold valV at h;unfold resV;split at h
 ·rename_i h1;cases h;rw[if_pos h1];rfl
 ·rename_i h1;rw[if_neg h1];split at h
  ·rename_i h2;cases h;rw[h2,← (J4G h2).1];rfl
  ·cases h
theorem JEx {s:ByteArray}(h:valV s=none):∃ q,(q=nilQ∨∃ n d,q=encQ n d)∧resV s=.tup [J0q q false false,encB false]:=by
 unfold valV at h;unfold resV;split at h
 ·cases h
 ·rename_i h1;rw[if_neg h1];split at h
  ·cases h
  ·rename_i h2;exact ⟨_,J1Z _,by rw[Bool.eq_false_iff.2 h2]⟩
theorem JJU {s:ByteArray}{v:Vl}(h:valV s=some v):v.sz≤300:=by
 unfold valV at h;split at h
 ·cases h;exact Nat.zero_le _
 ·split at h
  ·rename_i h2;cases h;exact (J4G h2).2
  ·cases h
def putV {β:Type}(l:List (U×β))(k:U)(v:β):List (U×β):=match l with
 |[]=>[(k,v)]
 |x::r=>if k=x.1 then (x.1,v)::r else x::putV r k v
theorem J5V {β:Type}(f:β→AV)(k:U)(v:β):∀ l:List (U×β),∃ r,J0k (J0b T 54 (encU k)) (l.map fun x=>encU x.1)=some r∧(match r with
  |some i=>(l.map fun x=>encU x.1)=((putV l k v).map fun x=>encU x.1)∧(l.map fun x=>f x.2).set i (f v)=(putV l k v).map fun x=>f x.2
  |none=>(l.map fun x=>encU x.1)++[encU k]=((putV l k v).map fun x=>encU x.1)∧(l.map fun x=>f x.2)++[f v]=(putV l k v).map fun x=>f x.2)
 |[]=>⟨none,rfl,rfl,rfl⟩
 |x :: l=>by
   obtain ⟨r,h1,h2⟩:=J5V f k v l;rw[List.map_cons,List.map_cons];unfold J0k putV;rw[J5p]
   by_cases h:k=x.1
   ·rw[decide_eq_true h,if_pos h];exact ⟨some 0,rfl,rfl,rfl⟩
   ·rw[decide_eq_false h,if_neg h,h1];refine ⟨r.map (· + 1),rfl,?_⟩
    revert h2
    cases r with
    |none=>
      rintro ⟨h2,h3⟩;exact ⟨by rw[List.map_cons,← h2];rfl,by rw[List.map_cons,← h3];rfl⟩
    |some i=>
      rintro ⟨h2,h3⟩;exact ⟨by rw[List.map_cons,← h2],by rw[List.map_cons,← h3];rfl⟩
def J28:Option U→U→Bool
 |none,_=>false
 |some q,u=>decide (0≤J1o q u)
def J1a:Option U→List Bd→List (U×Vl)→Option (List (U×Vl))
 |_,[],l=>some l
 |p,b::r,l=>match valV b.value with
   |none=>none
   |some v=>if !fitF b.use||J28 p b.use then none else J1a (some b.use) r (putV l b.use v)
def openF (e:EnvA):Option Ev:=if (J06 e.time.data.toList).2 then (J1a none e.binds []).map fun l=>⟨numV e.time,e.init,l⟩ else none
def JHc (bs:List Bd)(i:Nat):Option U:=match i with
 |0=>none
 |i+1=>bs[i]?.map Bd.use
def JKC:Option Ev→AV
 |some ev=>.tup [J13 ev,encB true]
 |none=>.tup [.val (.pointer none),encB false]
def hpO1 (g1 g2 gm:Nat)(e:EnvA)(t:Rat)(l:List (U×Vl)):List (Nat×Nat×Blk):=
 [(1,g1,⟨33,3,[J0e e]⟩),(15,g2,⟨269,6,[.agg [encB (decide (t.num<0)),encW t.num.natAbs,encB (decide ((t.den:Int)<0)),encW (t.den:Int).natAbs,encB e.init,.om 13 gm]]⟩),(13,gm,⟨267,0,[.mp (l.map fun x=>encU x.1) (l.map fun x=>J0A x.2)]⟩)]
theorem J5w {u:U}(h:fitF u=true):0≤u.order∧u.order≤6:=by
 unfold fitF at h;simp only[Bool.and_eq_true,decide_eq_true_eq] at h;exact h.1.2
theorem JHR {S:List Nat}{H:Hp}{n b g e m:Nat}{ks vs:List AV}(hS:b∈S)(hb:H b=some (g,⟨e,m,[.mp ks vs]⟩)):J03 S H (n+1) (.om b g)=.mp ks vs:=by
 simp only[J03,if_pos hS,hb,if_true]
structure SzB (e:EnvA):Prop where
 t:e.time.size<2^35
 l:e.binds.length≤2^30
 b:∀ b∈e.binds,b.use.name.size<2^35∧b.value.size<2^35
theorem JKY (e:EnvA)(hz:SzB e):PX 141 [J0e e] (JKC (openF e)):=by
 refine PC [15,13] Tryz.func141 rfl (by rfl) rfl ?_;obtain ⟨tm,ini,bs⟩:=e;obtain ⟨hzt,hzl,hzb⟩:=hz;simp only at hzt hzl hzb;generalize hF:openF ⟨tm,ini,bs⟩=F;unfold openF at hF;have hpq:=J22 tm.data.toList hzt;rw[J17,J9J] at hpq;simp only at hF
 cases hok:(J06 tm.data.toList).2 with
 |false=>
   rw[hok] at hF hpq;have hq2:=J1Z (J06 tm.data.toList).1;generalize qAV (J06 tm.data.toList).1=q at *;unfold J0e
   rcases hq2 with rfl|⟨n,d,rfl⟩
   all_goals
    refine kWS ?_;intros;refine J00 [] _ c134 hpq ?_;refine kWS ?_;intros;exact .of (by rw[← hF];rfl)
 |true=>
   rw[← (J4G hok).1,hok] at hpq;rw[hok] at hF;generalize numV tm=t at *;replace hF:(J1a none bs []).map (fun l=>(⟨t,ini,l⟩:Ev))=F:=hF;unfold encF encQ at hpq;unfold J0e;refine kWS ?_;intros;refine J00 [] _ c134 hpq ?_;refine kWS ?_;intros
   refine LoopP.intro (fun j σ H=>∃ g1 g2 gm i,∃ l:List (U×Vl),j=bs.length-i∧i≤bs.length∧(∀ k (h:k<bs.length),k<i→fitF bs[k].use=true)∧(J1a (JHc bs i) (bs.drop i) l).map (fun l=>(⟨t,ini,l⟩:Ev))=F ∧
    σ=fr [(1,.op 1 g1 0 0),(4,.op 15 g2 0 0),(29,.sl 4 (bs.map J0r)),(30,encI bs.length),(31,encI i)]∧H=hp (hpO1 g1 g2 gm ⟨tm,ini,bs⟩ t l)) ?_ ?_
   ·exact .intro <| W.of ⟨_,_,_,_,0,[],rfl,Nat.zero_le _,fun k _ h=>absurd h (by omega),hF,rfl,rfl⟩ ⟨rfl,rfl,rfl,(by rw[List.length_map];rfl),rfl,trivial⟩ ⟨rfl,rfl,rfl,trivial⟩
   ·clear hF;rintro j σ H ⟨g1,g2,gm,i,l,rfl,hi,hfit,hF,rfl,rfl⟩;unfold hpO1;simp only
    rcases Nat.lt_or_ge i bs.length with h9|h9
    ·rw[List.drop_eq_getElem_cons h9] at hF;have hb:=hzb _ (List.getElem_mem h9)
     have hprev:JHc bs (i+1)=some bs[i].use:=by
      show bs[i]?.map Bd.use=some _
      rw[List.getElem?_eq_getElem h9];rfl
     have hfx:∀ k (h:k<bs.length),k<i+1→fitF bs[i].use=true→fitF bs[k].use=true:=by
      intro k h hk hc
      rcases Nat.lt_or_ge k i with h|h
      ·exact hfit k _ h
      ·obtain rfl:k=i:=by omega
       exact hc
     obtain ⟨b,hbb⟩:∃ b,bs[i]=b:=⟨_,rfl⟩;rw[hbb] at hF hb hprev hfx;have hV:=J6W b.value hb.2;have hFit:=JJC b.use hb.1;unfold J1a at hF
     cases hv:valV b.value with
     |none=>
       rw[hv] at hF;obtain ⟨q,hq,he⟩:=JEx hv;rw[he] at hV
       rcases hq with rfl|⟨n,d,rfl⟩
       all_goals
        refine kWQ ?_;intros;simp only[hbb];refine kQ ?_;intros;refine J00 [] _ c112 hV ?_;refine kWQ ?_;intros;exact .of (by rw[← hF];rfl)
     |some v=>
       rw[hv] at hF;rw[J9I hv] at hV;replace hF:(if !fitF b.use||J28 (JHc bs i) b.use then none else J1a (some b.use) (bs.drop (i+1)) (putV l b.use v)).map (fun l=>(⟨t,ini,l⟩:Ev))=F:=hF;have hb64:bs.length<2^62:=by omega
       rcases i with _|i
       ·rcases v with q | x
        ·unfold J0A J0q encF encQ at hV;refine kWQ ?_;intros;simp only[hbb];refine kQ ?_;intros;refine J00 [] _ c112 hV ?_;refine kWQ ?_;intros;refine CallG.intro _ c81 hFit ?_
         cases hf:fitF b.use with
         |false=>
           rw[hf] at hF;refine kWQ ?_;intros;exact .of (by rw[← hF];rfl)
         |true=>
           rw[hf] at hF;replace hF:(J1a (some b.use) (bs.drop (0+1)) (putV l b.use (.num q))).map (fun l=>(⟨t,ini,l⟩:Ev))=F:=hF;refine kWO ?_;intros;refine J11 [(7,false),(8,true)] (by kernel_rfl) ?_;refine kWQ ?_;intros;refine Need.intro keyst54 ?_;refine kWQ ?_;intros;obtain ⟨r,hr,hm⟩:=J5V J0A b.use (.num q) l;refine LookP.intro r hr ?_
           cases r with
           |some j=>
             refine kWQ ?_;intros
             refine .intro <| W.of ⟨_,by omega,g1,g2,gm,0+1,putV l b.use (.num q),rfl,h9,fun k h hk=>hfx k h hk hf,(by rw[hprev];exact hF),rfl,rfl⟩ ⟨rfl,rfl,rfl,rfl,rfl,trivial⟩ ⟨rfl,rfl,?_,trivial⟩
             exact congrArg (fun z=>some (gm,(⟨267,0,[z]⟩:Blk))) (congr (congrArg AV.mp hm.1) hm.2)
           |none=>
             refine kWQ ?_;intros
             refine .intro <| W.of ⟨_,by omega,g1,g2,gm,0+1,putV l b.use (.num q),rfl,h9,fun k h hk=>hfx k h hk hf,(by rw[hprev];exact hF),rfl,rfl⟩ ⟨rfl,rfl,rfl,rfl,rfl,trivial⟩ ⟨rfl,rfl,?_,trivial⟩
             exact congrArg (fun z=>some (gm,(⟨267,0,[z]⟩:Blk))) (congr (congrArg AV.mp hm.1) hm.2)
        ·unfold J0A J0q at hV;refine kWQ ?_;intros;simp only[hbb];refine kQ ?_;intros;refine J00 [] _ c112 hV ?_;refine kWQ ?_;intros;refine CallG.intro _ c81 hFit ?_
         cases hf:fitF b.use with
         |false=>
           rw[hf] at hF;refine kWQ ?_;intros;exact .of (by rw[← hF];rfl)
         |true=>
           rw[hf] at hF;replace hF:(J1a (some b.use) (bs.drop (0+1)) (putV l b.use (.tr x))).map (fun l=>(⟨t,ini,l⟩:Ev))=F:=hF;refine kWO ?_;intros;refine J11 [(7,false),(8,true)] (by kernel_rfl) ?_;refine kWQ ?_;intros;refine Need.intro keyst54 ?_;refine kWQ ?_;intros;obtain ⟨r,hr,hm⟩:=J5V J0A b.use (.tr x) l;refine LookP.intro r hr ?_
           cases r with
           |some j=>
             refine kWQ ?_;intros
             refine .intro <| W.of ⟨_,by omega,g1,g2,gm,0+1,putV l b.use (.tr x),rfl,h9,fun k h hk=>hfx k h hk hf,(by rw[hprev];exact hF),rfl,rfl⟩ ⟨rfl,rfl,rfl,rfl,rfl,trivial⟩ ⟨rfl,rfl,?_,trivial⟩
             exact congrArg (fun z=>some (gm,(⟨267,0,[z]⟩:Blk))) (congr (congrArg AV.mp hm.1) hm.2)
           |none=>
             refine kWQ ?_;intros
             refine .intro <| W.of ⟨_,by omega,g1,g2,gm,0+1,putV l b.use (.tr x),rfl,h9,fun k h hk=>hfx k h hk hf,(by rw[hprev];exact hF),rfl,rfl⟩ ⟨rfl,rfl,rfl,rfl,rfl,trivial⟩ ⟨rfl,rfl,?_,trivial⟩
             exact congrArg (fun z=>some (gm,(⟨267,0,[z]⟩:Blk))) (congr (congrArg AV.mp hm.1) hm.2)
       ·have h8 : i<bs.length:=by omega
        have hpv:JHc bs (i+1)=some bs[i].use:=by
         show bs[i]?.map Bd.use=some _
         rw[List.getElem?_eq_getElem h8];rfl
        have hfp:=J5w (hfit i h8 (by omega));rw[hpv] at hF;have hix:(((i+1:Nat):Int)-1).toNat=i:=by omega
        obtain ⟨pb,hpb⟩:∃ pb,bs[i]=pb:=⟨_,rfl⟩;rw[hpb] at hF hpv hfp;have hL:=JGk pb.use b.use hfp
        rcases v with q|x
        ·unfold J0A J0q encF encQ at hV;refine kWQ ?_;intros;simp only[hbb];refine kQ ?_;intros;refine J00 [] _ c112 hV ?_;refine kWQ ?_;intros;refine CallG.intro _ c81 hFit ?_
         cases hf:fitF b.use with
         |false=>
           rw[hf] at hF;refine kWQ ?_;intros;exact .of (by rw[← hF];rfl)
         |true=>
           rw[hf] at hF;have hL:=hL (J5w hf);refine kWQ ?_;intros;simp only[hix,hpb];refine CallG.intro _ c116 hL ?_
           cases hge:J28 (some pb.use) b.use with
           |true=>
             rw[hge] at hF;have hle:0≤J1o pb.use b.use:=of_decide_eq_true hge;refine kWQ ?_;intros;exact .of (by rw[← hF];rfl)
           |false=>
             rw[hge] at hF;have hle:¬ 0≤J1o pb.use b.use:=of_decide_eq_false hge;replace hF:(J1a (some b.use) (bs.drop (i+1+1)) (putV l b.use (.num q))).map (fun l=>(⟨t,ini,l⟩:Ev))=F:=hF;refine kWO ?_;intros;refine J11 [(7,false),(8,true)] (by kernel_rfl) ?_;refine kWQ ?_;intros;refine Need.intro keyst54 ?_;refine kWQ ?_;intros;obtain ⟨r,hr,hm⟩:=J5V J0A b.use (.num q) l;refine LookP.intro r hr ?_
             cases r with
             |some j=>
               refine kWQ ?_;intros
               refine .intro <| W.of ⟨_,by omega,g1,g2,gm,i+1+1,putV l b.use (.num q),rfl,h9,fun k h hk=>hfx k h hk hf,(by rw[hprev];exact hF),rfl,rfl⟩ ⟨rfl,rfl,rfl,rfl,rfl,trivial⟩ ⟨rfl,rfl,?_,trivial⟩
               exact congrArg (fun z=>some (gm,(⟨267,0,[z]⟩:Blk))) (congr (congrArg AV.mp hm.1) hm.2)
             |none=>
               refine kWQ ?_;intros
               refine .intro <| W.of ⟨_,by omega,g1,g2,gm,i+1+1,putV l b.use (.num q),rfl,h9,fun k h hk=>hfx k h hk hf,(by rw[hprev];exact hF),rfl,rfl⟩ ⟨rfl,rfl,rfl,rfl,rfl,trivial⟩ ⟨rfl,rfl,?_,trivial⟩
               exact congrArg (fun z=>some (gm,(⟨267,0,[z]⟩:Blk))) (congr (congrArg AV.mp hm.1) hm.2)
        ·unfold J0A J0q at hV;refine kWQ ?_;intros;simp only[hbb];refine kQ ?_;intros;refine J00 [] _ c112 hV ?_;refine kWQ ?_;intros;refine CallG.intro _ c81 hFit ?_
         cases hf:fitF b.use with
         |false=>
           rw[hf] at hF;refine kWQ ?_;intros;exact .of (by rw[← hF];rfl)
         |true=>
           rw[hf] at hF;have hL:=hL (J5w hf);refine kWQ ?_;intros;simp only[hix,hpb];refine CallG.intro _ c116 hL ?_
           cases hge:J28 (some pb.use) b.use with
           |true=>
             rw[hge] at hF;have hle:0≤J1o pb.use b.use:=of_decide_eq_true hge;refine kWQ ?_;intros;exact .of (by rw[← hF];rfl)
           |false=>
             rw[hge] at hF;have hle:¬ 0≤J1o pb.use b.use:=of_decide_eq_false hge;replace hF:(J1a (some b.use) (bs.drop (i+1+1)) (putV l b.use (.tr x))).map (fun l=>(⟨t,ini,l⟩:Ev))=F:=hF;refine kWO ?_;intros;refine J11 [(7,false),(8,true)] (by kernel_rfl) ?_;refine kWQ ?_;intros;refine Need.intro keyst54 ?_;refine kWQ ?_;intros;obtain ⟨r,hr,hm⟩:=J5V J0A b.use (.tr x) l;refine LookP.intro r hr ?_
             cases r with
             |some j=>
               refine kWQ ?_;intros
               refine .intro <| W.of ⟨_,by omega,g1,g2,gm,i+1+1,putV l b.use (.tr x),rfl,h9,fun k h hk=>hfx k h hk hf,(by rw[hprev];exact hF),rfl,rfl⟩ ⟨rfl,rfl,rfl,rfl,rfl,trivial⟩ ⟨rfl,rfl,?_,trivial⟩
               exact congrArg (fun z=>some (gm,(⟨267,0,[z]⟩:Blk))) (congr (congrArg AV.mp hm.1) hm.2)
             |none=>
               refine kWQ ?_;intros
               refine .intro <| W.of ⟨_,by omega,g1,g2,gm,i+1+1,putV l b.use (.tr x),rfl,h9,fun k h hk=>hfx k h hk hf,(by rw[hprev];exact hF),rfl,rfl⟩ ⟨rfl,rfl,rfl,rfl,rfl,trivial⟩ ⟨rfl,rfl,?_,trivial⟩
               exact congrArg (fun z=>some (gm,(⟨267,0,[z]⟩:Blk))) (congr (congrArg AV.mp hm.1) hm.2)
    ·obtain rfl:i=bs.length:=by omega
     rw[List.drop_length] at hF;replace hF:some (⟨t,ini,l⟩:Ev)=F:=by rw[← hF];unfold J1a;rfl
     refine kWQ ?_;intros;refine .of ?_;rw[← hF];refine (congrArg (fun z=>AV.tup [z,encB true]) ((J1S (by simp) rfl).trans ?_));show AV.ep (.agg [_,_,_,_,_,J03 [15,13] _ 2 (.om 13 gm)]) 0=_
     rw[JHR (by simp) rfl];rfl
theorem JBo {u:U}{v:Vl}:∀ {l:List (U×Vl)} {x:U×Vl},x∈putV l u v→x.2=v∨x∈l
 |[],x,h=>by simp only[putV,List.mem_cons,List.not_mem_nil,or_false] at h;subst h;exact .inl rfl
 |y :: l,x,h=>by
   unfold putV at h;split at h
   ·rcases List.mem_cons.1 h with rfl | h
    ·exact .inl rfl
    ·exact .inr (List.mem_cons_of_mem _ h)
   ·rcases List.mem_cons.1 h with rfl | h
    ·exact .inr List.mem_cons_self
    ·rcases JBo h with h | h
     ·exact .inl h
     ·exact .inr (List.mem_cons_of_mem _ h)
theorem JBw:∀ {bs:List Bd} {p:Option U} {l r:List (U×Vl)},J1a p bs l=some r→(∀ x∈l,x.2.sz≤300)→∀ x∈r,x.2.sz≤300
 |[],p,l,r,h,hl=>by unfold J1a at h;cases h;exact hl
 |b :: bs,p,l,r,h,hl=>by
   unfold J1a at h;split at h
   ·cases h
   ·rename_i v hv;split at h
    ·cases h
    ·refine JBw h fun x hx=>?_
     rcases JBo hx with e|hx
     ·rw[e];exact JJU hv
     ·exact hl x hx
theorem JHh {e:EnvA}{ev:Ev}(h:openF e=some ev):EvOk ev:=by
 unfold openF at h;split at h
 ·rename_i h1
  cases ho:J1a none e.binds [] with
  |none=>rw[ho] at h;cases h
  |some l=>
    rw[ho] at h;cases h;exact ⟨(J4G h1).2,JBw ho fun x hx=>by cases hx⟩
 ·cases h
def openS (e:EnvA):Except Int Ev:=if 1000<e.binds.length then .error 2 else match openF e with
 |none=>.error 1
 |some ev=>.ok ev
def JLJ:Except Int Ev→AV
 |.ok ev=>.tup [J13 ev,encI 0]
 |.error c=>.tup [.val (.pointer none),encI c]
theorem JCU (e:EnvA)(hz:SzB e):PX 67 [J0e e] (JLJ (openS e)):=by
 refine PZ Tryz.func67 rfl ?_;have ho:=JKY e hz;have hl:=hz.l;generalize hF:openS e=F;unfold openS at hF;generalize openF e=oe at *;unfold J0e at *;have hml:=@List.length_map _ _ e.binds J0r;refine kWQ ?_;intros;refine CondP.dec (fun h1=>?_) (fun h1=>?_)<;>refine kW ?_
 ·rw[if_pos (by first|omega|(rw[List.length_map] at h1;omega))] at hF;refine kQ ?_;intros;exact .of (by rw[← hF];rfl)
 ·rw[if_neg (by first | omega | (rw[List.length_map] at h1;omega))] at hF;refine kQ ?_;intros;refine J00 [] _ c141 ho ?_
  cases oe with
  |none=>
    refine kWQ ?_;intros;exact .of (by rw[← hF];rfl)
  |some ev=>
    refine kWQ ?_;intros;exact .of (by rw[← hF];rfl)
def typeS (s:Sys)(x:Ex):Int×Int:=if checkF s≠0 then (0,checkF s) else if tooF x then (0,2) else if !builtF x then (0,1) else if (typeF (knownF s.vars) x).2 then ((typeF (knownF s.vars) x).1,0) else (0,1)
theorem JCS (s:Sys)(x:Ex)(hs:SzS s)(hz:SzE x)(hx:TxE x):PX 48 [J0h s,encE x] (.tup [encI (typeS s x).1,encI (typeS s x).2]):=by
 refine PZ Tryz.func48 rfl ?_;have hc:=JCZ s hs;have ht:=J3K x hz;have hb:=J8w x hz hx;have hk:=J8K s hs.v;have hT:=JGa (knownF s.vars) x hz;generalize hF:typeS s x=F;unfold typeS at hF;generalize checkF s=ck at *;generalize tooF x=tl at *;generalize typeF (knownF s.vars) x=ty at *;generalize knownF s.vars=ks at *;obtain ⟨vs,qs,ns,ws⟩:=s;rw[J02] at *;unfold J0h at *;simp only at *;refine kWQ ?_;intros;refine CallP.flat [] _ c89 hc rfl ?_
 by_cases h0:ck=0
 case' neg=>
  rw[if_pos h0] at hF;refine kWQ ?_;intros;exact .of (by rw[← hF];rfl)
 rw[if_neg (by simp[h0])] at hF;refine kWQ ?_;intros;refine CallP.flat [] _ c83 ht rfl ?_
 cases tl with
 |true=>
   refine kWQ ?_;intros;exact .of (by rw[← hF];rfl)
 |false=>
   refine kWQ ?_;intros;refine CallP.flat [] _ c123 hb rfl ?_
   cases hbb:builtF x with
   |false=>
     rw[hbb] at hF;refine kWQ ?_;intros;exact .of (by rw[← hF];rfl)
   |true=>
     rw[hbb] at hF;have hT:=hT hbb;obtain ⟨t,b⟩:=ty;refine kWQ ?_;intros;refine CallG.intro _ c99 hk ?_;refine kWQ ?_;intros;refine CallG.intro _ c124 hT ?_
     cases b with
     |false=>
       refine kWQ ?_;intros;exact .of (by rw[← hF];rfl)
     |true=>
       refine kWQ ?_;intros;exact .of (by rw[← hF];rfl)
theorem J4q {s:Sys}{x:Ex}(h:(typeS s x).2=0):checkF s=0∧tooF x=false∧builtF x=true∧(typeF (knownF s.vars) x).2=true∧(typeS s x).1=(typeF (knownF s.vars) x).1:=by
 unfold typeS at *;split at h
 ·rename_i h1;exact absurd h h1
 ·rename_i h1;split at h
  ·cases h
  ·rename_i h2;split at h
   ·cases h
   ·rename_i h3;split at h
    ·rename_i h4;refine ⟨Classical.not_not.1 h1,Bool.eq_false_iff.2 h2,by simpa using h3,h4,?_⟩;rw[if_neg h1,if_neg h2,if_neg h3,if_pos h4]
    ·cases h
theorem J5I {x:Ex}(h:tooF x=false):wtF x≤200:=by
 unfold tooF at h;have h1:=of_decide_eq_false h;have:=JBz 24 x 200;omega
def outV:Except Int Vl→ByteArray×Int
 |.error c=>(⟨#[]⟩,c)
 |.ok v=>if shortV v then (strV v,0) else (⟨#[]⟩,2)
def J31 (s:Sys)(x:Ex)(e:EnvA):ByteArray×Int:=if (typeS s x).2≠0 then (⟨#[]⟩,(typeS s x).2) else match openS e with
 |.error c=>(⟨#[]⟩,c)
 |.ok ev=>outV (evalF (knownF s.vars) ev x)
def JKB (p:ByteArray×Int):AV:=.tup [encS p.1,encI p.2]
theorem JHg {e:EnvA}{ev:Ev}(h:openS e=.ok ev):EvOk ev:=by
 unfold openS at h;split at h
 ·cases h
 ·split at h
  ·cases h
  ·rename_i ev' h';cases h;exact JHh h'
theorem JF7 {e:EnvA}{c:Int}(h:openS e=.error c):c=1∨c=2:=by
 unfold openS at h;split at h
 ·cases h;exact .inr rfl
 ·split at h
  ·cases h;exact .inl rfl
  ·cases h
theorem J57 (s:Sys)(x:Ex)(e:EnvA)(hs:SzS s)(hz:SzE x)(hx:TxE x)(he:SzB e):PX 38 [J0h s,encE x,J0e e] (JKB (J31 s x e)):=by
 refine PZ Tryz.func38 rfl ?_;have hT:=JCS s x hs hz hx;have hO:=JCU e he;have hk:=J8K s hs.v;generalize hF:J31 s x e=F;unfold J31 at hF;have hty:=@J4q s x;have hev:=@JHg e;have her:=@JF7 e;generalize typeS s x=ty at *;obtain ⟨t,c⟩:=ty;generalize hks:knownF s.vars=ks at *;obtain ⟨vs,qs,ns,ws⟩:=s;generalize openS e=oe at *;have hE:=fun ev he hb ht hw=>JKd ks ev he x hz hx hb ht hw;have hsz:=fun ev he hb v h=>@JCD ks ev he x hb v h;have hec:=fun ev hb ht c h=>@J5y ks ev x hb ht c h;rw[J02] at *;unfold J0h J0e at *;simp only at *;refine kWQ ?_;intros;refine J00 [] _ c48 hT ?_
 by_cases h0:c=0
 case' neg=>
  rw[if_pos h0] at hF;refine kWQ ?_;intros;exact .of (by rw[← hF];rfl)
 subst h0;rw[if_neg (by simp)] at hF;obtain ⟨hck,htl,hbb,htt,_⟩:=hty rfl;have hwt:=J5I htl;refine kWQ ?_;intros;refine J00 [] _ c67 hO ?_
 cases oe with
 |error c=>
   have hc:¬ c=0:=by rcases her rfl with rfl|rfl<;>decide
   refine kWQ ?_;intros;exact .of (by rw[← hF];rfl)
 |ok ev =>
   have hev:=hev rfl;have hE:=hE ev hev hbb htt (by omega);have hsz:=hsz ev hev hbb;have hec:=hec ev hbb htt;replace hF:outV (evalF ks ev x)=F:=hF;generalize evalF ks ev x=r at *;refine kWQ ?_;intros;refine CallG.intro _ c99 hk ?_;refine kWQ ?_;intros;refine CallG.intro _ c100 hE ?_
   cases r with
   |error c=>
     have hc:=(hec c rfl).ne;refine kWQ ?_;intros;exact .of (by rw[← hF];rfl)
   |ok v=>
     have hsz:=hsz v rfl;have hS:=JGf v (by omega);have hR:=JDn v (by omega);replace hF:(if shortV v then (strV v,0) else (⟨#[]⟩,2))=F:=hF;generalize shortV v=sv at *;generalize strV v=str at *
     rcases v with q|b
     all_goals
      unfold J0A J0q at hS hR
      try unfold encF encQ at hS hR
      unfold J1p J0A J0q
      try unfold encF encQ
      refine kWQ ?_;intros;refine CallP.flat [] _ c101 hS rfl ?_
      cases sv with
      |false=>
        refine kWQ ?_;intros;exact .of (by rw[← hF];rfl)
      |true=>
        refine kWQ ?_;intros;refine CallP.flat [] _ c102 hR rfl ?_;refine kWQ ?_;intros;exact .of (by rw[← hF];rfl)
def wKind:List ByteArray:=[⟨#[99,111,110,116,105,110,117,111,117,115]⟩,⟨#[100,105,115,99,114,101,116,101]⟩,⟨#[112,97,114,97,109]⟩,⟨#[105,110,112,117,116]⟩]
def wType:List ByteArray:=[⟨#[110,117,109,98,101,114]⟩,⟨#[116,114,117,116,104]⟩]
def wAct:List ByteArray:=[⟨#[97,115,115,105,103,110]⟩,⟨#[114,101,105,110,105,116]⟩]
theorem JHq:PX 332 [] (.sl 1 (wKind.map encS)):=by
 exact J1L J8o (fuel:=60) (n:=3) (by kernel_rfl)
theorem JHK:PX 333 [] (.sl 1 (wType.map encS)):=by
 exact J1L J8o (fuel:=60) (n:=3) (by kernel_rfl)
theorem JKR:PX 286 [] (.sl 1 (wAct.map encS)):=by
 exact J1L J8o (fuel:=60) (n:=3) (by kernel_rfl)
def addW (w s:ByteArray)(l:List ByteArray):List ByteArray:=if s=⟨#[]⟩ then l else l++[w++s]
theorem J8J (w s:ByteArray)(l:List ByteArray)(g g1:Nat)(hl:l.length≤1000)(hw:w.size≤2^40)(hs:s.size≤2^40) :
  HCall Tryz.prog 334 [encS w,encS s,.op 50 g 0 0] (hp [(50,g,⟨39,1,[.own 51 g1 0 l.length]⟩),(51,g1,⟨9,1,l.map encS⟩)])
   (fun r h=>r=.tup []∧∃ g',h=hp [(50,g,⟨39,1,[.own 51 g' 0 (addW w s l).length]⟩),(51,g',⟨9,1,(addW w s l).map encS⟩)]):=by
 refine J2D (E:=E 0) J4S (JIf 0) Tryz.func334 rfl (by rfl) (Nat.le_of_ble_eq_true rfl) ?_;have hml:=@List.length_map _ _ l encS;have y1:=J07 w s;generalize hF:addW w s l=F;unfold addW at hF;(refine kWQ ?_;repeat intro γ);refine CondP.dec (fun h1=>?_) (fun h1=>?_)<;>refine kW ?_
 ·rw[if_pos h1] at hF;(refine kQ ?_;repeat intro γ);refine EndH.of (m:=[(50,g,⟨39,1,[.own 51 g1 0 l.length]⟩),(51,g1,⟨9,1,l.map encS⟩)]) ⟨rfl,rfl,trivial⟩ ⟨rfl,g1,?_⟩;rw[← hF]
 ·rw[if_neg h1] at hF;(refine kQ ?_;repeat intro γ);refine EndH.of (m:=[(50,g,⟨39,1,[.own 51 γ 0 (l.length+1)]⟩),(51,γ,⟨9,1,l.map encS++[encS (w++s)]⟩)]) ⟨rfl,rfl,trivial⟩ ⟨rfl,γ,?_⟩;rw[← hF,List.map_append,List.length_append];rfl
def J5k (v:Va):List ByteArray:=
 addW ⟨#[117,110,105,116,61]⟩ v.unit ((fun l=>if v.fixed then l++[⟨#[102,105,120,101,100]⟩] else l) (addW ⟨#[115,116,97,114,116,61]⟩ v.start (addW ⟨#[118,97,108,117,101,61]⟩ v.value
  [⟨#[118,97,114]⟩,v.name,wKind.getD v.kind.toNat ⟨#[]⟩,wType.getD v.type.toNat ⟨#[]⟩])))
def lineF (v:Va):ByteArray:=joinB (J5k v) (b1 32)++b1 10
theorem J2z (w s:ByteArray)(l:List ByteArray):(addW w s l).length≤l.length+1:=by
 unfold addW;split
 ·omega
 ·simp
theorem JEX (a b:List ByteArray):szB (a++b)=szB a+szB b:=by unfold szB;rw[List.map_append,List.sum_append]
theorem JBL (w s:ByteArray)(l:List ByteArray):szB (addW w s l)≤szB l+w.size+s.size:=by
 unfold addW;split
 ·omega
 ·rw[JEX];unfold szB;simp only[List.map_cons,List.map_nil,List.sum_cons,List.sum_nil,J07];omega
theorem JC2 (v:Va)(h:v.name.size<2^35∧v.value.size<2^35∧v.start.size<2^35∧v.unit.size<2^35):(J5k v).length≤8∧szB (J5k v)≤2^37+300:=by
 unfold J5k;generalize hA:addW ⟨#[118,97,108,117,101,61]⟩ v.value _=A;have a1:=J2z ⟨#[118,97,108,117,101,61]⟩ v.value [⟨#[118,97,114]⟩,v.name,wKind.getD v.kind.toNat ⟨#[]⟩,wType.getD v.type.toNat ⟨#[]⟩];have a2:=JBL ⟨#[118,97,108,117,101,61]⟩ v.value [⟨#[118,97,114]⟩,v.name,wKind.getD v.kind.toNat ⟨#[]⟩,wType.getD v.type.toNat ⟨#[]⟩];rw[hA] at a1 a2
 have k1:∀ n:Nat,(wKind.getD n ⟨#[]⟩).size≤10:=by
  intro n
  match n with
  |0=>decide
  |1=>decide
  |2=>decide
  |3=>decide
  |n+4=>exact Nat.zero_le _
 have k2:∀ n:Nat,(wType.getD n ⟨#[]⟩).size≤10:=by
  intro n
  match n with
  |0=>decide
  |1=>decide
  |n+2=>exact Nat.zero_le _
 have k1:=k1 v.kind.toNat;have k2:=k2 v.type.toNat;have a3:szB [⟨#[118,97,114]⟩,v.name,wKind.getD v.kind.toNat ⟨#[]⟩,wType.getD v.type.toNat ⟨#[]⟩]=3+(v.name.size+((wKind.getD v.kind.toNat ⟨#[]⟩).size+((wType.getD v.type.toNat ⟨#[]⟩).size+0))):=rfl;have a4:(⟨#[118,97,108,117,101,61]⟩:ByteArray).size=6:=rfl;generalize hB:addW ⟨#[115,116,97,114,116,61]⟩ v.start A=B;have b1:=J2z ⟨#[115,116,97,114,116,61]⟩ v.start A;have b2:=JBL ⟨#[115,116,97,114,116,61]⟩ v.start A;have b4:(⟨#[115,116,97,114,116,61]⟩:ByteArray).size=6:=rfl;rw[hB] at b1 b2
 have c0:(if v.fixed=true then B++[⟨#[102,105,120,101,100]⟩] else B).length≤B.length+1∧szB (if v.fixed=true then B++[⟨#[102,105,120,101,100]⟩] else B)≤szB B+5:=by
  split
  ·rw[JEX,List.length_append];exact ⟨Nat.le_refl _,Nat.le_refl _⟩
  ·exact ⟨by omega,by omega⟩
 show (addW _ v.unit (if v.fixed=true then B++[⟨#[102,105,120,101,100]⟩] else B)).length≤8∧szB (addW _ v.unit (if v.fixed=true then B++[⟨#[102,105,120,101,100]⟩] else B))≤2^37+300
 generalize (if v.fixed=true then B++[⟨#[102,105,120,101,100]⟩] else B)=C at *;have d1:=J2z ⟨#[117,110,105,116,61]⟩ v.unit C;have d2:=JBL ⟨#[117,110,105,116,61]⟩ v.unit C;have d4:(⟨#[117,110,105,116,61]⟩:ByteArray).size=5:=rfl;simp only[List.length_cons,List.length_nil] at a1;exact ⟨by omega,by omega⟩
def hpL (g1 g3 gl:Nat)(v:Va)(l:List ByteArray):List (Nat×Nat×Blk):=[(1,g1,⟨89,7,[encV v]⟩),(3,g3,⟨39,1,[.own 17 gl 0 l.length]⟩),(17,gl,⟨9,1,l.map encS⟩)]
theorem JJu (v:Va)(h:v.name.size<2^35∧v.value.size<2^35∧v.start.size<2^35∧v.unit.size<2^35)(hk:0≤v.kind∧v.kind≤3)(ht:0≤v.type∧v.type≤1):PX 284 [encV v] (encS (lineF v)):=by
 refine PZ Tryz.func284 rfl ?_;obtain ⟨hL1,hL2⟩:=JC2 v h;have hj:=J2s (J5k v) (b1 32);have h32:(b1 32).size=1:=rfl;rw[h32] at hj;have hJ:=JGn (J5k v) (b1 32) (by omega) (by omega);generalize hF:lineF v=F;unfold lineF at hF;have hLL:J5k v=J5k v:=rfl;generalize hL:J5k v=L at *;have y1:=J07 (joinB L (b1 32)) { data:=#[10] };have y2:({ data:=#[10] }:ByteArray).size=1:=rfl;have hs1:(joinB L (b1 32)).size≤2^40:=by omega
 generalize joinB L (b1 32)=jb at *;clear hLL hj;unfold J5k at hL;obtain ⟨nm,kd,ty,vl,st,fx,un⟩:=v;simp only at *
 have gk:(wKind.map encS).getD kd.toNat .dead=encS (wKind.getD kd.toNat ⟨#[]⟩):=by
  have:kd.toNat<wKind.length:=by show _<4;omega
  rw[List.getD_eq_getElem?_getD,List.getElem?_map,List.getD_eq_getElem?_getD,List.getElem?_eq_getElem this];rfl
 have gt:(wType.map encS).getD ty.toNat .dead=encS (wType.getD ty.toNat ⟨#[]⟩):=by
  have:ty.toNat<wType.length:=by show _<2;omega
  rw[List.getD_eq_getElem?_getD,List.getElem?_map,List.getD_eq_getElem?_getD,List.getElem?_eq_getElem this];rfl
 have lk:(wKind.map encS).length=4:=rfl;have lt:(wType.map encS).length=2:=rfl;have hKW:=JHq;have hTW:=JHK;generalize wKind.map encS=ks at *;generalize wType.map encS=ts at *;generalize wKind.getD kd.toNat ⟨#[]⟩=wk at *;generalize wType.getD ty.toNat ⟨#[]⟩=wt at *;unfold encV;simp only;(refine kWQ ?_;repeat intro γ);refine CallG.intro _ c332 hKW ?_;(refine kWQ ?_;repeat intro γ);rw[gk];(refine kWQ ?_;repeat intro γ);refine CallG.intro _ c333 hTW ?_;(refine kWQ ?_;repeat intro γ);rw[gt];(refine kWQ ?_;repeat intro γ);have z1:({ data:=#[118,97,108,117,101,61] }:ByteArray).size≤2^40:=by decide
 have z2:({ data:=#[115,116,97,114,116,61] }:ByteArray).size≤2^40:=by decide
 have z3:({ data:=#[117,110,105,116,61] }:ByteArray).size≤2^40:=by decide
 have hA1:=J2z ⟨#[118,97,108,117,101,61]⟩ vl [⟨#[118,97,114]⟩,nm,wk,wt];refine CallP.frame 1000000 [(50,3),(51,17)] rfl c334 (J8J ⟨#[118,97,108,117,101,61]⟩ vl [⟨#[118,97,114]⟩,nm,wk,wt] _ _ (by show 4≤1000;decide) z1 (by omega)) rfl ⟨rfl,rfl,trivial⟩ ?_;rintro r0 h' ⟨rfl,g',rfl⟩;generalize addW ⟨#[118,97,108,117,101,61]⟩ vl [⟨#[118,97,114]⟩,nm,wk,wt]=A at *;refine ⟨hpL _ _ g' ⟨nm,kd,ty,vl,st,fx,un⟩ A,⟨rfl,rfl,J0P encS _ (fun _=>rfl) ..,trivial⟩,?_⟩;unfold hpL encV;have hA:A.length≤5:=hA1;have hmA:=@List.length_map _ _ A encS;(refine kWQ ?_;repeat intro γ);have hB1:=J2z ⟨#[115,116,97,114,116,61]⟩ st A;refine CallP.frame 1000000 [(50,3),(51,17)] rfl c334 (J8J ⟨#[115,116,97,114,116,61]⟩ st A _ _ (by omega) z2 (by omega)) rfl ⟨rfl,J0P encS _ (fun _=>rfl) ..,trivial⟩ ?_;rintro r0 h' ⟨rfl,g',rfl⟩;generalize addW ⟨#[115,116,97,114,116,61]⟩ st A=B at *;refine ⟨hpL _ _ g' ⟨nm,kd,ty,vl,st,fx,un⟩ B,⟨rfl,rfl,J0P encS _ (fun _=>rfl) ..,trivial⟩,?_⟩;unfold hpL encV;have hB:B.length≤6:=by omega
 have hmB:=@List.length_map _ _ B encS;(refine kWQ ?_;repeat intro γ);obtain ⟨C,hC⟩:∃ C,(if fx=true then B++[⟨#[102,105,120,101,100]⟩] else B)=C:=⟨_,rfl⟩;rw[hC] at hL
 have hC1:C.length≤7:=by
  rw[← hC];split
  ·rw[List.length_append];show _+1≤7;omega
  ·omega
 have hmC:=@List.length_map _ _ C encS;have hD1:=J2z ⟨#[117,110,105,116,61]⟩ un C;have fin:=fun g3 gl=>J8J ⟨#[117,110,105,116,61]⟩ un C g3 gl (by omega) z3 (by omega);have hls:L.length=L.length:=rfl;cases fx
 ·rw[if_neg (by decide)] at hC;subst hC;(refine kWQ ?_;repeat intro γ);refine CallP.frame 1000000 [(50,3),(51,17)] rfl c334 (fin _ g') (by rfl) ⟨rfl,J0P encS _ (fun _=>rfl) ..,trivial⟩ ?_;rintro r0 h' ⟨rfl,g',rfl⟩;rw[hL];refine ⟨hpL _ _ g' ⟨nm,kd,ty,vl,st,false,un⟩ L,⟨rfl,rfl,J0P encS _ (fun _=>rfl) ..,trivial⟩,?_⟩;unfold hpL encV;(refine kWQ ?_;repeat intro γ);refine CallP.flat [17] _ c212 (J0U (congrArg (fun z=>[z,encS (b1 32)]) (JJn rfl rfl)) hJ) rfl ?_;(refine kWQ ?_;repeat intro γ);exact .of (by rw[← hF];rfl)
 ·rw[if_pos rfl] at hC;have hCm:List.map encS B++[encS ⟨#[102,105,120,101,100]⟩]=C.map encS:=by rw[← hC,List.map_append];rfl
  have hCl:B.length+1=C.length:=by rw[← hC,List.length_append];rfl
  (refine kWQ ?_;repeat intro γ);refine CallP.frame 1000000 [(50,3),(51,17)] rfl c334 (fin _ γ) (by rfl) ⟨congrArg (fun n=>some (_,(⟨39,1,[.own 51 γ 0 n]⟩:Blk))) hCl,?_,trivial⟩ ?_
  ·show some (mvB _ (γ,(⟨9,1,List.map encS B++[encS ⟨#[102,105,120,101,100]⟩]⟩:Blk)))=_
   rw[hCm];exact J0P encS _ (fun _=>rfl) ..
  rintro r0 h' ⟨rfl,g',rfl⟩;rw[hL];refine ⟨hpL _ _ g' ⟨nm,kd,ty,vl,st,true,un⟩ L,⟨rfl,rfl,J0P encS _ (fun _=>rfl) ..,trivial⟩,?_⟩;unfold hpL encV;(refine kWQ ?_;repeat intro γ);refine CallP.flat [17] _ c212 (J0U (congrArg (fun z=>[z,encS (b1 32)]) (JJn rfl rfl)) hJ) rfl ?_;(refine kWQ ?_;repeat intro γ);exact .of (by rw[← hF];rfl)
end Go.Proofs.YtlblbldolhiokaaGreatDoor
namespace Go.Proofs.YtlblbldolhiokaaGreatDoor
open Go Go.Fw Go.RowKit
theorem JAK {P:Program}{ρ:Go.Shelf.Ren}(L:Lays.n169 P ρ)(X:Builder.Extra P ρ)(b g cap:Nat)(l:List UInt8)(p:Value)(cur:Array Value)(w:World)(h0:l≠[])(hbk:w.heap[b]?=some (.cells #[p,.slice (some ⟨g,0,none⟩) l.length cap] (ρ.t 72) (0,0)))
  (hg:w.heap[g]?=some (.cells cur (ρ.t 5) (0,0)))(hnc:l.length≤cap)(hcm:cap≤maxLen)(hcs:cur.size=cap)(htake:cur.toList.take l.length=Lib.byteCells l) :
  Calls P (ρ.f 169) #[.pointer (some ⟨b,0,none⟩)] w fun e w'=>e=.returned (.string ⟨l.toArray⟩)∧w'=w.drew.freeze ⟨g,0,none⟩ l.length:=by
 have hl0:l.length≠0:=by simpa using h0
 have c1:w.drew.cell? ⟨b,1,none⟩=some (.slice (some ⟨g,0,none⟩) l.length cap):=by
  have:w.drew.heap[b]?=some (.cells #[p,.slice (some ⟨g,0,none⟩) l.length cap] (ρ.t 72) (0,0)):=hbk;rw[Lib.cell_of_heap this];rfl
 have hSD:(Builtin.unsafeSliceData_ #[(ρ.t 37)] (ρ.t 127) #[.slice (some ⟨g,0,none⟩) l.length cap]).run P w.drew=.ok (.pointer (some ⟨g,0,none⟩)) w.drew:=
  Lib.run_unsafeSliceData_row _ _ _ _ _ _ (by omega)
 have hUS:(Builtin.unsafeString_ #[(ρ.t 127),(ρ.t 3)] (ρ.t 9) #[.pointer (some ⟨g,0,none⟩),.int .i64 l.length]).run P w.drew=.ok (.string ⟨l.toArray⟩) (w.drew.freeze ⟨g,0,none⟩ l.length):=by
  refine Lib.run_unsafeString_row w.drew (ρ.t 127) (ρ.t 3) (ρ.t 9) (ρ.t 5) L.t127 X.cellsByte g cur.size (by have hg':w.drew.heap[g]?=some (.cells cur (ρ.t 5) (0,0)):=hg;simp[World.shape?,hg']) l h0 (by omega) (by unfold maxLen at hcm;omega) ?_;intro j x hx;have hg':w.drew.heap[g]?=some (.cells cur (ρ.t 5) (0,0)):=hg;have hj:j<l.length:=(List.getElem?_eq_some_iff.1 hx).1
  have e1:cur.toList[j]?=some (.int .u8 x.toNat):=by
   have:(cur.toList.take l.length)[j]?=some (.int .u8 x.toNat):=by rw[htake];simp[Lib.byteCells,hx]
   rwa [List.getElem?_take,if_pos hj] at this
  rw[Addr.add_lit,Lib.cell_of_heap hg',Nat.zero_add,← Array.getElem?_toList,e1]
 have mixed:=L.mixed;have t72:=L.t72;have a72:=L.a72;have z72:=L.z72;have v72:=L.v72;have u72:=run_underlying L.t72;have t70:=L.t70;have a70:=L.a70;have z70:=L.z70;have v70:=L.v70;have u70:=run_underlying L.t70;have t37:=L.t37;have a37:=L.a37;have z37:=L.z37;have v37:=L.v37;have u37:=run_underlying L.t37;have t127:=L.t127;have a127:=L.a127;have z127:=L.z127;have v127:=L.v127;have u127:=run_underlying L.t127;have t3:=L.t3;have a3:=L.a3;have z3:=L.z3;have v3:=L.v3;have u3:=run_underlying L.t3;have t9:=L.t9;have a9:=L.a9;have z9:=L.z9;have v9:=L.v9;have u9:=run_underlying L.t9;have t5:=X.t5;have a5:=X.a5;have z5:=X.z5;have v5:=X.v5;have u5:=run_underlying X.t5
 go_enter L.f169,Body.n169_ntmps ρ
 go_wp2
 go_region_o
 all_goals (go_wp2;go_ret;exact ⟨rfl,rfl⟩)
theorem HRel.drop {gh:Gh}{κ:KM}{H:Hp}{w w':World}{d g c:Nat}{B:Blk}{K:KI}(hr:HRel gh κ H w)(hd:H d=some (g,B))(hκ:κ d g=some K)(hc:K.c=some c)(hs:w.heap.size≤w'.heap.size)(hb:∀ k,k<w.heap.size→k≠c→w'.heap[k]?=w.heap[k]?)(ho:w'.os=w.os)(ht:w'.tape=w.tape)(hu:w'.output=w.output) :
  HRel gh κ (rem H [d]) w'∧∀ {x:AV} {u:Value},VR κ w (Nset gh.O κ H) x u→VR κ w' (Nset gh.O κ (rem H [d])) x u:=by
 have hag:Agree (Nset gh.O κ H) w w':=⟨hs,fun k hk hn=>hb k hk fun e=>hn (.inr ⟨d,g,B,K,hd,hκ,e ▸ hc⟩)⟩;have hr':=hr.rem [d];have tr:∀ {x:AV} {u:Value},VR κ w (Nset gh.O κ H) x u→VR κ w' (Nset gh.O κ (rem H [d])) x u:=fun h=>h.step (KM.le.refl _) hag fun k _ h=>J0N [d] h;have hag':Agree (Fw.Own κ H) w w':=⟨hs,fun k hk hn=>hb k hk fun e=>hn ⟨d,g,B,K,hd,hκ,e ▸ hc⟩⟩;refine ⟨⟨fun b g' B' h=>?_,hr'.inj,hr'.mine,hr.keep hag',ho.trans hr.os,ht.trans hr.tape,hu.trans hr.output,hr.fresh,hr.apart⟩,tr⟩;obtain ⟨K',hk,hbr⟩:=hr'.blk _ _ _ h
 have hbd:b≠d:=by
  rintro rfl;simp[Fw.rem] at h
 have hHb:H b=some (g',B'):=by
  unfold Fw.rem at h;split at h
  ·cases h
  ·exact h
 obtain ⟨K2,hk2,hbr2⟩:=hr.blk _ _ _ hHb;exact ⟨K2,hk2,hbr2.step (KM.le.refl _) hag (fun k _ h=>J0N [d] h) fun k hk=>hb k (hr.lt ⟨b,g',B',K2,hHb,hk2,hk⟩) fun e=>hbd (hr.inj _ _ _ _ _ _ _ _ c hHb hd hk2 hκ (e ▸ hk) hc)⟩
theorem JAM {κ:KM}{w:World}{N:Nat→Prop}{l:List UInt8}{XS:List Value}(h:Row κ w N 1 (BY l) XS):XS=Lib.byteCells l:=by
 have hl:XS.length=l.length:=by simpa using h.len
 refine List.ext_getElem (by simp[Lib.byteCells,hl]) fun i h1 h2=>?_;have hi:i<l.length:=hl ▸ h1;have:=h.rel i (by simpa using hi) 0 (by simp[BY,AV.cells]);have e1:((BY l)[i]'(by simpa using hi)).cells[0]'(by simp[BY,AV.cells])=.val (.int .u8 (l[i].toNat:Int)):=by simp[BY,AV.cells]
 rw[e1] at this;have e2:XS.getD (i*1+0) undef=XS[i]:=by simp[List.getD_eq_getElem?_getD,List.getElem?_eq_getElem h1]
 rw[e2] at this;have e3:(Lib.byteCells l)[i]=.int .u8 (l[i].toNat:Int):=by simp[Lib.byteCells]
 rw[e3];generalize XS[i]=v at this;cases this;rfl
theorem JDt {H:Hp}{b g d g0:Nat}{p:AV}{l:List UInt8}(hb:H b=some (g,bldB p (.own d g0 0 l.length)))(hp:p.cells=[p])(hd:H d=some (g0,⟨5,1,BY l⟩)) :
  HCall Tryz.prog 287 [.op b g 0 0] H fun r H'=>r=.val (.string ⟨l.toArray⟩)∧H'=rem H [d]:=by
 intro gh κ w vs hr hv;obtain ⟨hlen,hv⟩:=hv;obtain ⟨vl⟩:=vs
 rcases vl with _|⟨a,_|⟨a2,r⟩⟩<;>simp at hlen
 have h0:=hv 0 (by simp) (by simp);simp only[List.getElem_cons_zero,List.getElem_toArray] at h0
 obtain ⟨c,rfl⟩:∃ c,a=.pointer (some ⟨c,0,none⟩):=by
  cases h0 with
  |op _ _ _ _ c K hκ hc hn=>exact ⟨c,by simp⟩
 obtain ⟨v0,v1,hbk,_,hv1⟩:=J8i hr hb h0 hp rfl;have L:=JAG;have X:=J2P;have e5:Tryz.lays169_ren.t 5=5:=rfl;have e72:Tryz.lays169_ren.t 72=solo:=rfl;show Calls Tryz.prog (Tryz.lays169_ren.f 169) _ _ _
 generalize Tryz.lays169_ren=ρ at L X e5 e72 ⊢
 have fin:∀ {e:Ending} {w':World},l=[]→(e=.returned (.string ⟨#[]⟩)∧Below w.heap.size w w')→∃ v r H' κ',e=.returned v∧(r=.val (.string ⟨l.toArray⟩)∧H'=rem H [d])∧HRel gh κ' H' w'∧VR κ' w' (Nset gh.O κ' H') r v∧∀ {x:AV} {u:Value},VR κ w (Nset gh.O κ H) x u→VR κ' w' (Nset gh.O κ' H') x u:=by
  rintro e w' rfl ⟨rfl,hB⟩;obtain ⟨q1,q2⟩:=J0a hr hB;exact ⟨_,_,_,κ,rfl,⟨rfl,rfl⟩,q1.rem [d],.val _ rfl,fun h=>(q2 h).mono fun k h=>J0N [d] h⟩
 have hbk:w.heap[c]?=some (.cells #[v0,v1] (ρ.t 72) (0,0)):=by rw[e72];exact hbk
 obtain ⟨K,hk,hbr⟩:=hr.blk _ _ _ hd;generalize hlen:l.length=len at hv1
 cases hv1 with
 |ownnil _ _ K' hk' hc=>
   exact (Any.Builder_String_nil L X w.heap.size c v0 w hbk).mono fun e w' h=>fin (List.eq_nil_of_length_eq_zero hlen) h
 |own _ _ _ _ cap cd K' hk' hc h1 h2 hp2=>
   rw[hk] at hk';cases hk';have hbr:=hbr.rows hp2;obtain ⟨A,hbk2,hm,hrow⟩:=hbr.row hc 0 len (by rw[← hlen];simp);have hKn:K.n=1:=hbr.1;have htk:(BY l).take len=BY l:=List.take_of_length_le (by rw[← hlen];simp);simp only[List.drop_zero,Nat.zero_mul,htk,hKn,Nat.mul_one] at hrow;have hcs:A.size=cap:=by rw[← hm,← h2.1,hKn];omega
   simp only[Nat.zero_add,Nat.zero_mul] at h2 hbk ⊢;replace hbk2:w.heap[cd]?=some (.cells A (ρ.t 5) (0,0)):=by rw[e5];exact hbk2
   have hdh:w.drew.heap=w.heap:=rfl
   by_cases hl:l=[]
   ·subst hl;obtain rfl:len=0:=by simpa using hlen.symm
    by_cases h0:cap=0
    ·subst h0;exact (Any.Builder_String_noroom L X w.heap.size c cd v0 A w (Nat.le_refl _) hbk hbk2).mono fun e w' h=>fin rfl h
    ·exact (Any.Builder_String_room L X w.heap.size c cd cap v0 w h0 hbk).mono fun e w' h=>fin rfl h
   ·refine (JAK L X c cd cap l v0 A w hl (by rw[hlen];exact hbk) hbk2 (by omega) h2.2 hcs ?_).mono ?_
    ·rw[hlen];exact JAM hrow
    ·rintro e w' ⟨rfl,rfl⟩
     obtain ⟨q1,q2⟩:=HRel.drop (w':=w.drew.freeze ⟨cd,0,none⟩ l.length) hr hd hk hc (by unfold World.freeze;split<;>simp[hdh]) (fun k hk hne=>by
      unfold World.freeze;split
      ·rfl
      ·simp[hdh,Array.getElem?_modify,Ne.symm hne]) (by unfold World.freeze;split<;>rfl) (by unfold World.freeze;split<;>rfl) (by unfold World.freeze;split<;>rfl)
     exact ⟨_,_,_,κ,rfl,⟨rfl,rfl⟩,q1,.val _ rfl,q2⟩
end Go.Proofs.YtlblbldolhiokaaGreatDoor
namespace Go.Proofs.YtlblbldolhiokaaGreatDoor
open Go Go.Fw
theorem J40 {e:Nat}{H:Hp}{b g d g0:Nat}{p:AV}{l:List UInt8}(s:ByteArray){args:List AV}{C:AV→Hp→Prop}(ha:args=[.op b g 0 0,encS s])(hb:H b=some (g,bldB p (.own d g0 0 l.length)))(hpf:p=J1R∨p=.op b g 0 0)(hd:H d=some (g0,⟨5,1,BY l⟩))(hbd:b≠d)
  (hs:l.length+s.size≤140737488355328)(h:∀ γ,∃ m,hpOk (setH (setH H d (some (γ,⟨5,1,BY (l++s.data.toList)⟩))) b (some (g,bldB (.op b g 0 0) (.own d γ 0 (l++s.data.toList).length)))) m∧C (.tup [encI s.size,.val .nilIface]) (hp m)) :
  CallP (E e) 283 args H C:=by
 subst ha;refine CallP.own c283 (HCall.mono (J6n hb hpf hd hbd hs) ?_);rintro r h' ⟨rfl,γ,rfl⟩;obtain ⟨m,h1,h2⟩:=h γ;have e1:l.length+s.size=(l++s.data.toList).length:=by rw[List.length_append];rfl
 rw[e1];exact ⟨hp m,h1.sub,h2⟩
def eqF (w:ByteArray)(q:Eqn):ByteArray:=w++b1 32++q.name++b1 32++showF q.left++b1 32++showF q.right++b1 10
def eqsL (w:ByteArray):List Eqn→List UInt8
 |[]=>[]
 |q::r=>(eqF w q).data.toList++eqsL w r
structure QnOk (q:Eqn):Prop where
 n:q.name.size<2^35
 l:SzE q.left∧TxE q.left∧builtF q.left=true∧wtF q.left≤1000
 r:SzE q.right∧TxE q.right∧builtF q.right=true∧wtF q.right≤1000
theorem J1V {e:Ex}(h:TxE e)(hb:builtF e=true)(hw:wtF e≤1000):(showF e).size≤2^32:=by
 have:=J70 e hb h;have h2:(2^21+20)*wtF e≤(2^21+20)*1000:=Nat.mul_le_mul_left _ hw;omega
theorem JCG {w:ByteArray}{q:Eqn}(hw:w.size≤10)(h:QnOk q):(eqF w q).size≤2^36:=by
 have h1:=J1V h.l.2.1 h.l.2.2.1 h.l.2.2.2;have h2:=J1V h.r.2.1 h.r.2.2.1 h.r.2.2.2;have h3:=h.n;unfold eqF;simp only[J07];show _+1+_+1+_+1+_+1≤_
 omega
theorem JHM (w:ByteArray)(hw:w.size≤10)(qs:List Eqn)(hq:∀ q∈qs,QnOk q)(hn:qs.length≤120)(p:AV)(g g1:Nat)(hpf:p=J1R∨p=.op 50 g 0 0)(l:List UInt8)(hl:l.length≤2^46) :
  HCall Tryz.prog 285 [encS w,.sl 9 (qs.map J0i),.op 50 g 0 0] (hp [(50,g,bldB p (.own 51 g1 0 l.length)),(51,g1,⟨5,1,BY l⟩)])
   (fun r h=>r=.tup []∧∃ p' g',(p'=J1R∨p'=.op 50 g 0 0)∧h=hp [(50,g,bldB p' (.own 51 g' 0 (l++eqsL w qs).length)),(51,g',⟨5,1,BY (l++eqsL w qs)⟩)]):=by
 refine J2D (E:=E 0) J4S (JIf 0) Tryz.func285 rfl (by rfl) (Nat.le_of_ble_eq_true rfl) ?_;have hml:=@List.length_map _ _ qs J0i;generalize hR:l++eqsL w qs=R;(refine kWQ ?_;repeat intro γ)
 refine LoopP.intro (fun k σ H=>∃ p' g1 i,∃ t:List UInt8,k=qs.length-i∧i≤qs.length∧t.length≤i*2^36+2^46∧(p'=J1R∨p'=.op 50 g 0 0)∧t++eqsL w (qs.drop i)=R ∧
   σ=fr [(0,encS w),(2,.op 50 g 0 0),(7,.sl 9 (qs.map J0i)),(8,encI qs.length),(9,encI i)] ∧
   H=hp [(50,g,bldB p' (.own 51 g1 0 t.length)),(51,g1,⟨5,1,BY t⟩)]) ?_ ?_
 ·exact .intro (W.of ⟨_,p,g1,0,l,rfl,Nat.zero_le _,by omega,hpf,hR,rfl,rfl⟩ ⟨rfl,rfl,rfl,rfl,rfl,trivial⟩ ⟨rfl,rfl,trivial⟩)
 ·rintro k σ H ⟨p',g1,i,t,rfl,hi,ht,hpf,hT,rfl,rfl⟩
  rcases Nat.lt_or_ge i qs.length with h1|h1
  ·rw[List.drop_eq_getElem_cons h1] at hT;have hqi:=hq _ (List.getElem_mem h1);have hs1:=J84 _ hqi.l.1 hqi.l.2.1 hqi.l.2.2.1 hqi.l.2.2.2;have hs2:=J84 _ hqi.r.1 hqi.r.2.1 hqi.r.2.2.1 hqi.r.2.2.2;have hz:=JCG hw hqi;have hz1:=J1V hqi.l.2.1 hqi.l.2.2.1 hqi.l.2.2.2;have hz2:=J1V hqi.r.2.1 hqi.r.2.2.1 hqi.r.2.2.2;have hzn:=hqi.n;rw[J0H] at hs1 hs2;(refine kWO ?_;repeat intro γ)
   (simp (disch:=omega) only [LG];refine kW ?_)
   (refine kO ?_;repeat intro γ);generalize qs[i]=q at *;obtain ⟨qn,ql,qr⟩:=q;simp only at hs1 hs2 hz1 hz2 hzn;unfold eqsL at hT;unfold eqF at hT hz;simp only[b1] at hT hz;generalize showF ql=sl at *;generalize showF qr=sr at *;have z1:({ data:=#[32] }:ByteArray).size=1:=rfl;have z2:({ data:=#[10] }:ByteArray).size=1:=rfl;have y1:=J07 w { data:=#[32] };have y2:=J07 (w++{ data:=#[32] }) qn;have y3:=J07 (w++{ data:=#[32] }++qn) { data:=#[32] };have y4:=J07 (w++{ data:=#[32] }++qn++{ data:=#[32] }) sl;have y5:=J07 (w++{ data:=#[32] }++qn++{ data:=#[32] }++sl) { data:=#[32] };have y6:=J07 (w++{ data:=#[32] }++qn++{ data:=#[32] }++sl++{ data:=#[32] }) sr;have y7:=J07 (w++{ data:=#[32] }++qn++{ data:=#[32] }++sl++{ data:=#[32] }++sr) { data:=#[10] };refine J11 [(16,false),(17,true)] (by kernel_rfl) ?_;(refine kWQ ?_;repeat intro γ);refine CallG.intro _ c128 hs1 ?_;(refine kWQ ?_;repeat intro γ);refine CallG.intro _ c128 hs2 ?_;(refine kWQ ?_;repeat intro γ);refine J40 (b:=50) (g:=g) (d:=51) (g0:=g1) (p:=p') (l:=t) (w++{ data:=#[32] }++qn++{ data:=#[32] }++sl++{ data:=#[32] }++sr++{ data:=#[10] }) (by kernel_rfl) rfl hpf rfl (by decide) (by omega) fun γ=>⟨[(6,_,⟨58,9,[J0i ⟨qn,ql,qr⟩]⟩),(50,g,_),(51,γ,_)],⟨rfl,rfl,rfl,trivial⟩,?_⟩;(refine kWQ ?_;repeat intro γ);obtain ⟨z,hzz⟩:∃ z,w++{ data:=#[32] }++qn++{ data:=#[32] }++sl++{ data:=#[32] }++sr++{ data:=#[10] }=z:=⟨_,rfl⟩;rw[hzz] at hT hz ⊢;have hzl:z.data.toList.length=z.size:=rfl
   refine .intro <| W.of ⟨_,by omega,.op 50 g 0 0,γ,i+1,t++z.data.toList,rfl,h1,by rw[List.length_append,hzl];omega,.inr rfl,by rw[List.append_assoc];exact hT,rfl,rfl⟩ ⟨rfl,rfl,rfl,rfl,rfl,trivial⟩ ⟨rfl,rfl,trivial⟩
  ·rw[List.drop_eq_nil_of_le h1] at hT;(refine kWQ ?_;repeat intro γ);refine EndH.of (m:=[(50,g,bldB p' (.own 51 g1 0 t.length)),(51,g1,⟨5,1,BY t⟩)]) ⟨rfl,rfl,trivial⟩ ⟨rfl,p',g1,hpf,?_⟩;rw[← hT];unfold eqsL;rw[List.append_nil]
def J7M:List Va→List UInt8
 |[]=>[]
 |v::r=>(lineF v).data.toList++J7M r
def actB (a:Ac):ByteArray:=b1 32++wAct.getD a.kind.toNat ⟨#[]⟩++b1 32++a.var++b1 32++showF a.value
def JGY:List Ac→List UInt8
 |[]=>[]
 |a::r=>(actB a).data.toList++JGY r
def JKn (w:Whn):ByteArray:=⟨#[119,104,101,110,32]⟩++w.name++b1 32++showF w.cond
def J6s:List Whn→List UInt8
 |[]=>[]
 |w::r=>(JKn w).data.toList++(JGY w.acts++([10]++J6s r))
def wEq:ByteArray:=⟨#[101,113]⟩
def JHF:ByteArray:=⟨#[105,110,105,116]⟩
def JAi (s:Sys):List UInt8:=J7M s.vars++eqsL wEq s.eqs++eqsL JHF s.inits++J6s s.whens
def ExOk (e:Ex):Prop:=SzE e∧TxE e∧builtF e=true∧wtF e≤1000
structure AcOk (a:Ac):Prop where
 k:0≤a.kind∧a.kind≤1
 n:a.var.size<2^35
 e:ExOk a.value
structure WnOk (w:Whn):Prop where
 n:w.name.size<2^35
 e:ExOk w.cond
 l:w.acts.length≤20
 a:∀ a∈w.acts,AcOk a
structure VaOk (v:Va):Prop where
 s:v.name.size<2^35∧v.value.size<2^35∧v.start.size<2^35∧v.unit.size<2^35
 k:0≤v.kind∧v.kind≤3
 t:0≤v.type∧v.type≤1
structure TextOk (s:Sys):Prop where
 lv:s.vars.length≤120
 lq:s.eqs.length≤120
 ln:s.inits.length≤120
 lw:s.whens.length≤120
 v:∀ v∈s.vars,VaOk v
 q:∀ q∈s.eqs,QnOk q
 n:∀ q∈s.inits,QnOk q
 w:∀ w∈s.whens,WnOk w
theorem JDM {v:Va}(h:VaOk v):(lineF v).size≤2^37+310:=by
 obtain ⟨h1,h2⟩:=JC2 v h.s;have hj:=J2s (J5k v) (b1 32);have h32:(b1 32).size=1:=rfl;have h10:(b1 10).size=1:=rfl;unfold lineF;rw[J07,h10];rw[h32] at hj;omega
theorem J8T {w:ByteArray}(hw:w.size≤10):∀ {qs:List Eqn},(∀ q∈qs,QnOk q)→(eqsL w qs).length≤qs.length*2^36
 |[],_=>by simp[eqsL]
 |q::r,h=>by
   have h1:=JCG hw (h q (by simp));have h2:=J8T hw (qs:=r) fun x hx=>h x (by simp[hx]);unfold eqsL;rw[List.length_append,List.length_cons,Nat.succ_mul];have e:(eqF w q).data.toList.length=(eqF w q).size:=rfl;omega
theorem CallP.eqs {S:Blk}{gs g g1:Nat}{p:AV}(hpf:p=J1R∨p=.op 3 g 0 0)(w:ByteArray)(hw:w.size≤10){qs:List Eqn}(hq:∀ q∈qs,QnOk q)(hn:qs.length≤120){t:List UInt8}(ht:t.length≤2^46){args:List AV}{C:AV→Hp→Prop}
  (ha:args=[encS w,.sl 9 (qs.map J0i),.op 3 g 0 0])
  (hC:∀ p' g',(p'=J1R∨p'=.op 3 g 0 0)→C (.tup []) (hp [(1,gs,S),(3,g,bldB p' (.own 100 g' 0 (t++eqsL w qs).length)),(100,g',⟨5,1,BY (t++eqsL w qs)⟩)])) :
  CallP (E 0) 285 args (hp [(1,gs,S),(3,g,bldB p (.own 100 g1 0 t.length)),(100,g1,⟨5,1,BY t⟩)]) C:=by
 subst ha
 have key:∀ p0,(p0=J1R∨p0=.op 50 g 0 0)→p=mv (fun b=>some (fwd 1000000 [(50,3),(51,100)] b)) 2 p0→CallP (E 0) 285 [encS w,.sl 9 (qs.map J0i),.op 3 g 0 0] (hp [(1,gs,S),(3,g,bldB p (.own 100 g1 0 t.length)),(100,g1,⟨5,1,BY t⟩)]) C:=by
  intro p0 h0 hp0;refine CallP.frame 1000000 [(50,3),(51,100)] rfl c285 (JHM w hw qs hq hn p0 g g1 h0 t ht) rfl ⟨?_,J0P (fun b:UInt8=>AV.val (.int .u8 (b.toNat:Int))) _ (fun _=>rfl) ..,trivial⟩ ?_
  ·rcases h0 with rfl | rfl
   ·subst hp0;rfl
   ·subst hp0;rfl
  ·rintro r0 h' ⟨rfl,p',g',h2,rfl⟩;refine ⟨[(1,gs,S),(3,g,bldB (mv (fun b=>some (fwd 1000000 [(50,3),(51,100)] b)) 2 p') (.own 100 g' 0 (t++eqsL w qs).length)),(100,g',⟨5,1,BY (t++eqsL w qs)⟩)],⟨rfl,rfl,J0P (fun b:UInt8=>AV.val (.int .u8 (b.toNat:Int))) _ (fun _=>rfl) ..,trivial⟩,hC _ _ ?_⟩
   rcases h2 with rfl|rfl
   ·exact .inl rfl
   ·exact .inr rfl
 rcases hpf with rfl|rfl
 ·exact key J1R (.inl rfl) rfl
 ·exact key (.op 50 g 0 0) (.inr rfl) rfl
theorem JCo (s:Sys)(h:TextOk s):PX 191 [J0h s] (.val (.string ⟨(JAi s).toArray⟩)):=by
 refine PZ Tryz.func191 rfl ?_;generalize hR:JAi s=R;unfold JAi at hR;obtain ⟨vs,qs,ns,ws⟩:=s;obtain ⟨lv,lq,ln,lw,hv,hq,hn,hw⟩:=h;simp only at lv lq ln lw hv hq hn hw hR;unfold J0h;simp only;have mv1:=@List.length_map _ _ vs encV;have mw1:=@List.length_map _ _ ws J19;obtain ⟨LV,hLV⟩:∃ z,J7M vs=z:=⟨_,rfl⟩;rw[hLV] at hR;have nq:=J8T (w:=wEq) (by decide) hq;have nn:=J8T (w:=JHF) (by decide) hn;(refine kWQ ?_;repeat intro γ)
 refine LoopP.intro (fun k σ H=>∃ g p' g1 gs i,∃ t:List UInt8,k=vs.length-i∧i≤vs.length∧t.length≤i*(2^37+310)∧(p'=J1R∨p'=.op 3 g 0 0)∧t++J7M (vs.drop i)=LV ∧
   σ=fr [(1,.op 1 gs 0 0),(3,.op 3 g 0 0),(12,.sl 7 (vs.map encV)),(13,encI vs.length),(14,encI i)] ∧
   H=hp [(1,gs,⟨26,4,[.agg [.sl 7 (vs.map encV),.sl 9 (qs.map J0i),.sl 9 (ns.map J0i),.sl 6 (ws.map J19)]]⟩),(3,g,bldB p' (.own 100 g1 0 t.length)),(100,g1,⟨5,1,BY t⟩)]) ?_ ?_
 ·exact .intro (JJA 3 γ 0 1 100 5 1 ⟨314,2,[.agg [J1R,.val (.slice none 0 0)]]⟩ [J1R,.val (.slice none 0 0)] rfl rfl rfl rfl (by decide) fun g1=>W.of ⟨_,γ,J1R,g1,_,0,[],rfl,Nat.zero_le _,by simp,.inl rfl,hLV,rfl,rfl⟩ ⟨rfl,rfl,rfl,rfl,rfl,trivial⟩ ⟨rfl,rfl,rfl,trivial⟩)
 rintro k σ H ⟨g,p',g1,gs,i,t,rfl,hi,ht,hpf,hT,rfl,rfl⟩
 rcases Nat.lt_or_ge i vs.length with h1|h1
 ·rw[List.drop_eq_getElem_cons h1] at hT;have hvi:=hv _ (List.getElem_mem h1);have hl:=JJu _ hvi.s hvi.k hvi.t;have hz:=JDM hvi;(refine kWO ?_;repeat intro γ)
  (simp (disch:=omega) only [LG];refine kW ?_)
  (refine kO ?_;repeat intro γ);generalize vs[i]=v at *;unfold J7M at hT;refine CallP.flat [] _ c284 hl rfl ?_;generalize lineF v=z at *;(refine kWO ?_;repeat intro γ);have hzl:z.data.toList.length=z.size:=rfl;refine J40 (b:=3) (g:=g) (d:=100) (g0:=g1) (p:=p') (l:=t) z (by kernel_rfl) rfl hpf rfl (by decide) (by omega) fun γ2=>⟨[(1,gs,_),(3,g,_),(100,γ2,_)],⟨rfl,rfl,rfl,trivial⟩,?_⟩;(refine kWO ?_;repeat intro γ)
  exact .intro <| W.of ⟨_,by omega,g,.op 3 g 0 0,γ2,gs,i+1,t++z.data.toList,rfl,h1,by rw[List.length_append,hzl];omega,.inr rfl,by rw[List.append_assoc];exact hT,rfl,rfl⟩ ⟨rfl,rfl,rfl,rfl,rfl,trivial⟩ ⟨rfl,rfl,rfl,trivial⟩
 ·rw[List.drop_eq_nil_of_le h1] at hT;unfold J7M at hT;rw[List.append_nil] at hT;subst hT;clear hLV;have ht:t.length≤2^45:=by omega
  (refine kWO ?_;repeat intro γ);refine CallP.eqs hpf wEq (by decide) hq lq (by omega) (by kernel_rfl) fun p2 g2 hpf=>?_;obtain ⟨t2,hT2⟩:∃ z,t++eqsL wEq qs=z:=⟨_,rfl⟩;have ht2:t2.length≤t.length+qs.length*2^36:=by rw[← hT2,List.length_append];omega
  rw[hT2] at hR ⊢;(refine kWO ?_;repeat intro γ);refine CallP.eqs hpf JHF (by decide) hn ln (by omega) (by kernel_rfl) fun p3 g3 hpf=>?_;obtain ⟨t3,hT3⟩:∃ z,t2++eqsL JHF ns=z:=⟨_,rfl⟩;have ht3:t3.length≤t2.length+ns.length*2^36:=by rw[← hT3,List.length_append];omega
  rw[hT3] at hR ⊢;(refine kWO ?_;repeat intro γ)
  refine LoopP.intro (fun k σ H=>∃ p' g1 i,∃ t:List UInt8,k=ws.length-i∧i≤ws.length∧t.length≤2^45+i*(22*(2^35+2^32+20))∧(p'=J1R∨p'=.op 3 g 0 0)∧t++J6s (ws.drop i)=R ∧
   σ=fr [(3,.op 3 g 0 0),(32,.sl 6 (ws.map J19)),(33,encI ws.length),(34,encI i)] ∧
   H=hp [(3,g,bldB p' (.own 100 g1 0 t.length)),(100,g1,⟨5,1,BY t⟩)]) ?_ ?_
  ·exact .intro (W.of ⟨_,p3,g3,0,t3,rfl,Nat.zero_le _,by omega,hpf,hR,rfl,rfl⟩ ⟨rfl,rfl,congrArg (fun n:Nat=>encI n) mw1,rfl,trivial⟩ ⟨rfl,rfl,trivial⟩)
  clear hT2 hT3 hR nq nn ht ht2 ht3 hpf;rintro k σ H ⟨p',g1,i,t,rfl,hi,ht,hpf,hT,rfl,rfl⟩
  rcases Nat.lt_or_ge i ws.length with h1|h1
  ·rw[List.drop_eq_getElem_cons h1] at hT;have hwi:=hw _ (List.getElem_mem h1);have hs1:=J84 _ hwi.e.1 hwi.e.2.1 hwi.e.2.2.1 hwi.e.2.2.2;have hz1:=J1V hwi.e.2.1 hwi.e.2.2.1 hwi.e.2.2.2;rw[J0H] at hs1;(refine kWO ?_;repeat intro γ)
   (simp (disch:=omega) only [LG];refine kW ?_)
   (refine kO ?_;repeat intro γ);generalize ws[i]=wh at *;obtain ⟨wn,wc,ats⟩:=wh;obtain ⟨hwn,_,hal,hac⟩:=hwi;simp only at hs1 hz1 hwn hal hac;rw[J6s] at hT;simp only[JKn,b1] at hT;generalize showF wc=sl at *;have z1:({ data:=#[32] }:ByteArray).size=1:=rfl;have z2:({ data:=#[119,104,101,110,32] }:ByteArray).size=5:=rfl;have y1:=J07 { data:=#[119,104,101,110,32] } wn;have y2:=J07 ({ data:=#[119,104,101,110,32] }++wn) { data:=#[32] };have y3:=J07 ({ data:=#[119,104,101,110,32] }++wn++{ data:=#[32] }) sl;refine J11 [(8,false),(9,true)] (by kernel_rfl) ?_;(refine kWQ ?_;repeat intro γ);refine CallG.intro _ c128 hs1 ?_;(refine kWQ ?_;repeat intro γ);refine J40 (b:=3) (g:=g) (d:=100) (g0:=g1) (p:=p') (l:=t) ({ data:=#[119,104,101,110,32] }++wn++{ data:=#[32] }++sl) (by kernel_rfl) rfl hpf rfl (by decide) (by omega) fun γ2=>⟨[(3,g,_),(8,_,⟨228,6,[.agg (encS wn::(J36 wc++[.sl 6 (ats.map J9i)]))]⟩),(100,γ2,_)],⟨rfl,rfl,rfl,trivial⟩,?_⟩;obtain ⟨z,hzz⟩:∃ z,{ data:=#[119,104,101,110,32] }++wn++{ data:=#[32] }++sl=z:=⟨_,rfl⟩;rw[hzz] at hT y3 ⊢;have hzl:z.data.toList.length=z.size:=rfl;obtain ⟨X,hX⟩:∃ z,[10]++J6s (ws.drop (i+1))=z:=⟨_,rfl⟩;rw[hX,← List.append_assoc] at hT;obtain ⟨t2,ht2⟩:∃ z2,t++z.data.toList=z2:=⟨_,rfl⟩;have htl:t2.length≤2^45+i*(22*(2^35+2^32+20))+2^35+2^32+20:=by rw[← ht2,List.length_append,hzl];omega
   rw[ht2] at hT ⊢;clear hzz y1 y2 y3 hzl ht2 ht;have ma1:=@List.length_map _ _ ats J9i;(refine kWO ?_;repeat intro γ)
   refine LoopP.intro (fun k σ H=>∃ p' g1 j,∃ t:List UInt8,k=ats.length-j∧j≤ats.length∧t.length≤2^45+i*(22*(2^35+2^32+20))+2^35+2^32+20+j*(2^35+2^32+20)∧(p'=J1R∨p'=.op 3 g 0 0)∧t++(JGY (ats.drop j)++X)=R ∧
    σ=fr [(3,.op 3 g 0 0),(32,.sl 6 (ws.map J19)),(33,encI ws.length),(34,encI i),(48,.sl 6 (ats.map J9i)),(49,encI ats.length),(50,encI j)] ∧
    H=hp [(3,g,bldB p' (.own 100 g1 0 t.length)),(100,g1,⟨5,1,BY t⟩)]) ?_ ?_
   ·exact .intro (W.of ⟨_,.op 3 g 0 0,γ2,0,t2,rfl,Nat.zero_le _,by omega,.inr rfl,hT,rfl,rfl⟩ ⟨rfl,rfl,rfl,rfl,rfl,congrArg (fun n:Nat=>encI n) ma1,rfl,trivial⟩ ⟨rfl,rfl,trivial⟩)
   clear hT htl hs1 hz1 hpf;rintro k σ H ⟨p',g1,j,t,rfl,hj,ht,hpf,hT,rfl,rfl⟩
   rcases Nat.lt_or_ge j ats.length with h2|h2
   ·rw[List.drop_eq_getElem_cons h2] at hT;have hai:=hac _ (List.getElem_mem h2);have hs1:=J84 _ hai.e.1 hai.e.2.1 hai.e.2.2.1 hai.e.2.2.2;have hz1:=J1V hai.e.2.1 hai.e.2.2.1 hai.e.2.2.2;rw[J0H] at hs1;(refine kWO ?_;repeat intro γ)
    (simp (disch:=omega) only [LG];refine kW ?_)
    (refine kO ?_;repeat intro γ);generalize ats[j]=ac at *;obtain ⟨ak,av,ae⟩:=ac;obtain ⟨hk,hvs,_⟩:=hai;simp only at hs1 hz1 hk hvs;rw[JGY] at hT;simp only[actB,b1] at hT;generalize showF ae=sl at *
    have gk:(wAct.map encS).getD ak.toNat .dead=encS (wAct.getD ak.toNat ⟨#[]⟩):=by
     have:ak.toNat<wAct.length:=by show _<2;omega
     rw[List.getD_eq_getElem?_getD,List.getElem?_map,List.getD_eq_getElem?_getD,List.getElem?_eq_getElem this];rfl
    have kw:(wAct.getD ak.toNat ⟨#[]⟩).size≤6:=by
     have:ak.toNat=0∨ak.toNat=1:=by omega
     rcases this with h|h<;>rw[h]<;>decide
    have lk:(wAct.map encS).length=2:=rfl;have hAW:=JKR;generalize wAct.map encS=ks at *;generalize wAct.getD ak.toNat ⟨#[]⟩=wa at *;have y1:=J07 { data:=#[32] } wa;have y2:=J07 ({ data:=#[32] }++wa) { data:=#[32] };have y3:=J07 ({ data:=#[32] }++wa++{ data:=#[32] }) av;have y4:=J07 ({ data:=#[32] }++wa++{ data:=#[32] }++av) { data:=#[32] };have y5:=J07 ({ data:=#[32] }++wa++{ data:=#[32] }++av++{ data:=#[32] }) sl;refine J11 [(15,false),(16,true)] (by kernel_rfl) ?_;(refine kWQ ?_;repeat intro γ);refine CallG.intro _ c286 hAW ?_;(refine kWQ ?_;repeat intro γ);rw[gk];(refine kWQ ?_;repeat intro γ);refine CallG.intro _ c128 hs1 ?_;(refine kWQ ?_;repeat intro γ);refine J40 (b:=3) (g:=g) (d:=100) (g0:=g1) (p:=p') (l:=t) ({ data:=#[32] }++wa++{ data:=#[32] }++av++{ data:=#[32] }++sl) (by kernel_rfl) rfl hpf rfl (by decide) (by omega) fun γ2=>⟨[(3,g,_),(100,γ2,_)],⟨rfl,rfl,trivial⟩,?_⟩;obtain ⟨z,hzz⟩:∃ z,{ data:=#[32] }++wa++{ data:=#[32] }++av++{ data:=#[32] }++sl=z:=⟨_,rfl⟩;rw[hzz] at hT y5 ⊢;have hzl:z.data.toList.length=z.size:=rfl;(refine kWO ?_;repeat intro γ)
    refine .intro <| W.of ⟨_,by omega,.op 3 g 0 0,γ2,j+1,t++z.data.toList,rfl,h2,by rw[List.length_append,hzl];omega,.inr rfl,by rw[List.append_assoc,← List.append_assoc z.data.toList];exact hT,rfl,rfl⟩ ⟨rfl,rfl,rfl,rfl,rfl,rfl,rfl,trivial⟩ ⟨rfl,rfl,trivial⟩
   ·rw[List.drop_eq_nil_of_le h2] at hT;rw[JGY,List.nil_append,← hX,← List.append_assoc] at hT;(refine kWO ?_;repeat intro γ);refine J40 (b:=3) (g:=g) (d:=100) (g0:=g1) (p:=p') (l:=t) { data:=#[10] } (by kernel_rfl) rfl hpf rfl (by decide) (by show _+1≤_;omega) fun γ2=>⟨[(3,g,_),(100,γ2,_)],⟨rfl,rfl,trivial⟩,?_⟩;(refine kWO ?_;repeat intro γ)
    refine .intro <| W.of ⟨_,by omega,.op 3 g 0 0,γ2,i+1,t++[10],rfl,h1,by rw[List.length_append];show _+1≤_;omega,.inr rfl,hT,rfl,rfl⟩ ⟨rfl,rfl,rfl,rfl,trivial⟩ ⟨rfl,rfl,trivial⟩
  ·rw[List.drop_eq_nil_of_le h1] at hT;rw[J6s,List.append_nil] at hT;subst hT;(refine kWO ?_;repeat intro γ);refine CallP.own c287 (HCall.mono (JDt (b:=3) (g:=g) (d:=100) (g0:=g1) (p:=p') (l:=t) rfl (by rcases hpf with rfl|rfl<;>rfl) rfl) ?_);rintro r h' ⟨rfl,rfl⟩;refine ⟨hp [],fun _=>.inr rfl,?_⟩;(refine kWO ?_;repeat intro γ);exact .of rfl
theorem JHb {l:List (ByteArray×Va)}{k:ByteArray}{v:Va}:∀ {x},x∈putK l k v→x∈l∨x=(k,v):=by
 induction l with
 |nil=>intro x h;right;simpa [putK] using h
 |cons y r ih=>
   intro x h;unfold putK at h;split at h
   ·rename_i e
    rcases List.mem_cons.1 h with rfl|h
    ·right;rw[e]
    ·left;simp[h]
   ·rcases List.mem_cons.1 h with rfl | h
    ·left;simp
    ·rcases ih h with h | h
     ·left;simp[h]
     ·exact .inr h
theorem JFK {vs:List Va}{x:ByteArray×Va}(h:x∈knownF vs):x.1=x.2.name∧x.2∈vs:=by
 have key:∀ (us:List Va) (l:List (ByteArray×Va)) (S:List Va),(∀ y∈l,y.1=y.2.name∧y.2∈S)→(∀ u∈us,u∈S)→∀ y∈us.foldl (fun l v=>putK l v.name v) l,y.1=y.2.name∧y.2∈S:=by
  intro us
  induction us with
  |nil=>intro l S h1 _;exact h1
  |cons u r ih=>
    intro l S h1 h2;rw[List.foldl_cons];refine ih _ _ (fun y hy=>?_) fun z hz=>h2 z (by simp[hz])
    rcases JHb hy with h|rfl
    ·exact h1 y h
    ·exact ⟨rfl,h2 u (by simp)⟩
 exact key vs [] vs (by simp) (fun _ h=>h) x h
theorem J9O:∀ {l:List Ex} {n:Int},J7J l n=false→∀ e∈l,tooF e=false
 |[],_,_,e,h=>by simp at h
 |x::r,n,h,e,he=>by
   unfold J7J at h;simp only[Bool.or_eq_false_iff] at h
   rcases List.mem_cons.1 he with rfl|he
   ·exact h.1
   ·exact J9O h.2 e he
theorem J8n {ks:List (ByteArray×Va)}:∀ {l:List Ac} {S A:List ByteArray},(J6V ks l S A).1=true→∀ a∈l,(0≤a.kind∧a.kind≤1)∧(∃ v,J1E ks a.var=some v)∧builtF a.value=true
 |[],_,_,_,a,h=>by simp at h
 |x :: r,S,A,h,a,ha=>by
   unfold J6V at h
   by_cases hb:badA ks x (if x.kind=0 then A else S)=true
   ·rw[if_pos hb] at h;cases h
   ·rw[if_neg hb] at h
    rcases List.mem_cons.1 ha with rfl|ha
    ·unfold badA at hb
     revert hb
     cases hv:J1E ks a.var with
     |none=>intro hb;exact absurd rfl hb
     |some v=>
       intro hb;simp only[Bool.or_eq_true,not_or,Bool.and_eq_true,Bool.not_eq_true',decide_eq_false_iff_not,decide_eq_true_eq,typedF] at hb;obtain ⟨⟨⟨h1,_⟩,_⟩,h4⟩:=hb;refine ⟨by omega,⟨v,rfl⟩,?_⟩;have h5:=(Bool.not_eq_false _).mp h4;simp only[Bool.and_eq_true] at h5;exact h5.1.1
    ·by_cases h0:x.kind=0
     ·rw[if_pos h0] at h;exact J8n h a ha
     ·rw[if_neg h0] at h;exact J8n h a ha
theorem J8z {ks:List (ByteArray×Va)}:∀ {l:List Whn} {A:List ByteArray},J5B ks l A=true→∀ w∈l,builtF w.cond=true∧∀ a∈w.acts,(0≤a.kind∧a.kind≤1)∧(∃ v,J1E ks a.var=some v)∧builtF a.value=true
 |[],_,_,w,h=>by simp at h
 |x :: r,A,h,w,hw=>by
   unfold J5B at h;simp only[Bool.and_eq_true,typedF] at h
   rcases List.mem_cons.1 hw with rfl|hw
   ·refine ⟨h.1.1.1.1,?_⟩;have:=h.1.2;unfold JAC at this;simp only[Bool.and_eq_true] at this;exact J8n this.1
   ·exact J8z h.2 w hw
theorem JDj {s:Sys}(hs:SzS s)(hc:checkF s=0):TextOk s:=by
 unfold checkF at hc
 have hL:largeF s=false:=by
  cases h:largeF s
  ·rfl
  ·rw[h] at hc;simp at hc
 rw[hL] at hc
 have hV:validF s=true:=by
  cases h:validF s
  ·rw[h] at hc;simp at hc
  ·rfl
 unfold largeF at hL;simp only[Bool.or_eq_false_iff,decide_eq_false_iff_not] at hL;obtain ⟨⟨⟨l1,l2⟩,l3⟩,l4⟩:=hL;have ht:=J9O l4;unfold validF at hV;simp only[Bool.and_eq_true,Bool.not_eq_true'] at hV;obtain ⟨⟨⟨_,hv⟩,hq,hn⟩,hw⟩:=hV;have ex:∀ e∈allF s,builtF e=true→ExOk e:=fun e he hb=>⟨(hs.e e he).1,(hs.e e he).2,hb,Nat.le_trans (J5I (ht e he)) (by decide)⟩
 have eqk:∀ (l:List Eqn),(∀ e∈J1X l,e∈allF s)→(∀ q∈l,q.name.size<2^35)→l.all (eqT (knownF s.vars))=true→∀ q∈l,QnOk q:=by
  intro l h1 h2 h3 q hq;have:=List.all_eq_true.1 h3 q hq;unfold eqT typedF at this;simp only[Bool.and_eq_true] at this;exact ⟨h2 q hq,ex _ (h1 _ (J1k hq).1) this.1.1.1,ex _ (h1 _ (J1k hq).2) this.2.1.1⟩
 refine ⟨by omega,by omega,by omega,by omega,fun v hvm=>?_,eqk _ (fun e he=>by simp[allF,he]) hs.m.1 hq,eqk _ (fun e he=>by simp[allF,he]) hs.m.2.1 hn,fun w hwm=>?_⟩
 ·have:=List.any_eq_false.1 hv v hvm;simp only[Bool.not_eq_true,Bool.not_eq_false'] at this;unfold varF at this;simp only[Bool.and_eq_true] at this;have hk:=this.1.1.1.1;unfold JAz at hk;simp only[Bool.not_eq_true',Bool.or_eq_false_iff,Bool.and_eq_false_iff,decide_eq_false_iff_not,Bool.not_eq_false',decide_eq_true_eq] at hk;exact ⟨hs.t v hvm,by omega,by omega⟩
 ·have hwk:=J8z hw w hwm;have hm:=J8F hwm;have hl:=List.any_eq_false.1 l3 w hwm;refine ⟨hs.m.2.2 w hwm,ex _ (by simp[allF,hm.1]) hwk.1,by simpa using hl,fun a ha=>?_⟩;obtain ⟨h1,⟨v,h2⟩,h3⟩:=hwk.2 a ha;have:=JFK (J6S h2);refine ⟨h1,?_,ex _ (by simp[allF,hm.2 a ha]) h3⟩;rw[show a.var=v.name from this.1];exact (hs.t v this.2).1
def J9C (s:Sys):ByteArray×Int:=if checkF s≠0 then (⟨#[]⟩,checkF s) else if 8000<(JAi s).length then (⟨#[]⟩,2) else (⟨(JAi s).toArray⟩,0)
theorem JKW (s:Sys)(hs:SzS s):PX 103 [J0h s] (.tup [encS (J9C s).1,encI (J9C s).2]):=by
 refine PZ Tryz.func103 rfl ?_;have hC:=JCZ s hs;generalize hF:J9C s=F;unfold J9C at hF;have ht:=fun h=>JCo s (JDj hs h);generalize checkF s=ck at *;obtain ⟨vs,qs,ns,ws⟩:=s;unfold J0h at *;refine kWQ ?_;intros;refine CallP.flat [] _ c89 hC rfl ?_;refine kWQ ?_;intros;refine CondP.dec (fun h0=>?_) (fun h0=>?_)<;>refine kW ?_
 ·have ht:=ht h0;rw[if_neg (by omega)] at hF;generalize hT:JAi _=t at *;refine kQ ?_;intros;refine CallP.flat [] _ c191 ht rfl ?_;refine kWQ ?_;intros;have hz:(({ data:=t.toArray }:ByteArray).size:Int)=(t.length:Int):=rfl;rw[hz];refine CondP.dec (fun h1=>?_) (fun h1=>?_)<;>refine kW ?_
  ·refine kQ ?_;intros;refine .of ?_;rw[if_pos (by omega)] at hF;rw[← hF];rfl
  ·refine kQ ?_;intros;refine .of ?_;rw[if_neg (by omega)] at hF;rw[← hF];rfl
 ·rw[if_pos h0] at hF;refine kQ ?_;intros;refine .of ?_;rw[← hF];rfl
end Go.Proofs.YtlblbldolhiokaaGreatDoor
