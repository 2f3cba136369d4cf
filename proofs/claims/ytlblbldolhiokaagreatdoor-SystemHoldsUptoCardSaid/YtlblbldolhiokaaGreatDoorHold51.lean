/- Part 51 of the proof. -/
import Derived.Test.YtlblbldolhiokaaGreatDoorHold50
import Derived.Test.YtlblbldolhiokaaGreatDoorHold46
import Derived.Shelf.Strings.Builder1
import Derived.Shelf.Strings.Builder2
import Derived.Shelf.Strings.OnBuilder
import Derived.Shelf.Strings.Repeat
import Derived.Test.YtlblbldolhiokaaGreatDoorProg
import Derived.Test.YtlblbldolhiokaaGreatDoorHold45
import Derived.Test.YtlblbldolhiokaaGreatDoorHold49
import Derived.KernelRfl
import Derived.Test.YtlblbldolhiokaaGreatDoorHold48
import Derived.Test.YtlblbldolhiokaaGreatDoorRows
import Derived.Test.YtlblbldolhiokaaGreatDoorCards
import Derived.Test.YtlblbldolhiokaaGreatDoorTie
import Derived.ProofKit
import Derived.OpenShut
import Derived.Deep.DeepHandedRow
set_option linter.unusedVariables false
set_option linter.unusedSimpArgs false
set_option linter.unusedSectionVars false
set_option maxRecDepth 100000
set_option exponentiation.threshold 400
set_option maxHeartbeats 8000000
namespace Go.Proofs.YtlblbldolhiokaaGreatDoor
open Go Go.Fw
theorem JDv {t:ByteArray} (h:(J0B t.data.toList).2=true):∃ n d,JA4 t.data.toList=some (n,d)∧okR (n,d)∧numV t=Rat.divInt n d∧t.data.toList=(rT n d).map UInt8.ofNat:=by
 obtain ⟨h1,h2⟩:=JCG t.data.toList;rw[h1,Option.isSome_iff_exists] at h;obtain ⟨⟨n,d⟩,hx⟩:=h;obtain ⟨h3,h4⟩:=JCC hx;refine ⟨n,d,hx,h3,?_,h4⟩;unfold numV;rw[h2 _ hx]
theorem JIb {s t:ByteArray} (h:s.data.toList=t.data.toList):s=t:=by
 apply ByteArray.ext;exact Array.toList_inj.1 h
theorem JDu {t:ByteArray} (h:(J0B t.data.toList).2=true) (h0:numV t=0):t=⟨#[48]⟩:=by
 obtain ⟨n,d,_,⟨hd,hg,_,_⟩,h2,h3⟩:=JDv h;rw[h2] at h0
 have hn:n=0:=by
  have h5:=(J2k n d (by have:0<d:=hd;omega)).1;rw[h0] at h5;have hg':n.natAbs.gcd (d:Int).natAbs=1:=hg;rw[hg'] at h5;have h6:(0:Rat).num=n/((1:Nat):Int):=h5;have h7:(0:Rat).num=0:=rfl;omega
 subst hn
 have hd1:d=1:=by
  have hg':Nat.gcd 0 d=1:=hg;rw[Nat.gcd_zero_left] at hg';exact hg'
 subst hd1;exact JIb h3
theorem J60 {β:Type} {s:ByteArray} {b:β}:∀ {l:List (ByteArray×β)},J1C l s=some b→(s,b)∈l
 | [],h=>by cases h
 | x::l,h=>by
   unfold J1C at h;split at h
   ·rename_i e;cases h;subst e;exact List.mem_cons_self
   ·exact List.mem_cons_of_mem _ (J60 h)
theorem ty01 (v:Vl):(v.type=0∧∃ q,v=.num q)∨(v.type=1∧∃ b,v=.tr b):=by
 cases v with
 | num q=>exact .inl ⟨rfl,q,rfl⟩
 | tr b=>exact .inr ⟨rfl,b,rfl⟩
theorem len2 {α:Type} {l:List α} (h:(l.length:Int)=2):∃ a b,l=[a,b]:=by
 match l,h with
 | [a,b],_=>exact ⟨a,b,rfl⟩
 | [],h=>simp at h
 | [_],h=>simp at h
 | _::_::_::_,h=>simp at h;omega
theorem len1 {α:Type} {l:List α} (h:(l.length:Int)=1):∃ a,l=[a]:=by
 match l,h with
 | [a],_=>exact ⟨a,rfl⟩
 | [],h=>simp at h
 | _::_::_,h=>simp at h;omega
theorem JJH {α:Type} {l:List α} (h:(l.length:Int)=3):∃ a b c,l=[a,b,c]:=by
 match l,h with
 | [a,b,c],_=>exact ⟨a,b,c,rfl⟩
 | [],h=>simp at h
 | [_],h=>simp at h
 | [_,_],h=>simp at h
 | _::_::_::_::_,h=>simp at h;omega
theorem JDU {o:ByteArray} {x:Int×Bool×Bool} (h:J1C shp o=some x):(o=oNum)∨((o=oAnd∨o=oOr)∧x=(2,true,true))∨(o=oTime∧x=(0,false,false))∨((o=oTrue∨o=oFalse∨o=oInit)∧x=(0,false,true)) ∨
  (o=oNeg∧x=(1,false,false))∨(o=oNot∧x=(1,true,true))∨(o=oSample∧x=(2,false,true))∨((o=oAdd∨o=oSub∨o=oMul∨o=oDiv)∧x=(2,false,false))∨((o=oLess∨o=oAtMost∨o=oMore∨o=oAtLeast)∧x=(2,false,true)):=by
 have:=J60 h;simp only[shp,List.mem_cons,Prod.mk.injEq,List.not_mem_nil,or_false] at this
 rcases this with ⟨rfl,rfl,rfl,rfl⟩ | ⟨rfl,rfl,rfl,rfl⟩ | ⟨rfl,rfl,rfl,rfl⟩ | ⟨rfl,rfl,rfl,rfl⟩ | ⟨rfl,rfl,rfl,rfl⟩ | ⟨rfl,rfl,rfl,rfl⟩ | ⟨rfl,rfl,rfl,rfl⟩ | ⟨rfl,rfl,rfl,rfl⟩ | ⟨rfl,rfl,rfl,rfl⟩ | ⟨rfl,rfl,rfl,rfl⟩ | ⟨rfl,rfl,rfl,rfl⟩ | ⟨rfl,rfl,rfl,rfl⟩ | ⟨rfl,rfl,rfl,rfl⟩ | ⟨rfl,rfl,rfl,rfl⟩ | ⟨rfl,rfl,rfl,rfl⟩ | ⟨rfl,rfl,rfl,rfl⟩ | ⟨rfl,rfl,rfl,rfl⟩ | ⟨rfl,rfl,rfl,rfl⟩
 all_goals simp
theorem J1K {ks:List (ByteArray×Va)} {e:Ex} (hb:builtF e=true) (ht:(typeF ks e).2=true):∀ k∈e.kids,(typeF ks k).2=true:=by
 have hl:=(J0D hb).1;rw[J7K] at ht;unfold JDD at ht;intro k hk;split at ht
 ·rename_i h;rw[show J1E e.op=0 by unfold J1E;rw[if_pos h]] at hl;have hnil:e.kids=[]:=List.eq_nil_of_length_eq_zero (by omega);rw[hnil] at hk;cases hk
 ·rename_i h0;split at ht
  ·rename_i h;rw[show J1E e.op=2 by unfold J1E;rw[if_neg h0,if_pos h]] at hl;obtain ⟨a,b,he⟩:=len2 hl;rw[he] at hk ht;have ht:((typeF ks a).2&&(typeF ks b).2&&decide ((typeF ks a).1=(typeF ks b).1))=true:=ht;simp only[Bool.and_eq_true] at ht;simp only[List.mem_cons,List.not_mem_nil,or_false] at hk
   rcases hk with rfl | rfl
   ·exact ht.1.1
   ·exact ht.1.2
  ·rename_i h1;split at ht
   ·rename_i h;rw[show J1E e.op=3 by unfold J1E;rw[if_neg h0,if_neg h1,if_pos h]] at hl;obtain ⟨a,b,c,he⟩:=JJH hl;rw[he] at hk ht;have ht:((typeF ks a).2&&((typeF ks b).2&&(typeF ks c).2&&decide ((typeF ks b).1=(typeF ks c).1))&&decide ((typeF ks a).1=1))=true:=ht;simp only[Bool.and_eq_true] at ht;simp only[List.mem_cons,List.not_mem_nil,or_false] at hk
    rcases hk with rfl | rfl | rfl
    ·exact ht.1.1
    ·exact ht.1.2.1.1
    ·exact ht.1.2.1.2
   ·split at ht
    ·cases ht
    ·rename_i h;have h:=Bool.eq_false_iff.2 h;exact (JHQ h _ (List.mem_map.2 ⟨k,hk,rfl⟩)).1
inductive Shape (ks:List (ByteArray×Va)) (e:Ex):Prop where
 | num (h:e.op=oNum) (hk:e.kids=[]) (ht:(typeF ks e).1=0)
 | ref (h:e.op=oVar∨e.op=oPre) (hk:e.kids=[]) (v:Va) (hv:J1C ks e.text=some v) (ht:(typeF ks e).1=v.type)
 | ite (h:e.op=oIf) (a b c:Ex) (hk:e.kids=[a,b,c]) (ha:(typeF ks a).1=1) (hb:(typeF ks b).1=(typeF ks e).1) (hc:(typeF ks c).1=(typeF ks e).1)
 | bin (h:e.op=oAnd∨e.op=oOr) (a b:Ex) (hk:e.kids=[a,b]) (ha:(typeF ks a).1=1) (hb:(typeF ks b).1=1) (ht:(typeF ks e).1=1)
 | eq (h:e.op=oEq∨e.op=oNe) (a b:Ex) (hk:e.kids=[a,b]) (hab:(typeF ks a).1=(typeF ks b).1) (ht:(typeF ks e).1=1)
 | time (h:e.op=oTime) (hk:e.kids=[]) (ht:(typeF ks e).1=0)
 | const (h:e.op=oTrue∨e.op=oFalse∨e.op=oInit) (hk:e.kids=[]) (ht:(typeF ks e).1=1)
 | neg (h:e.op=oNeg) (a:Ex) (hk:e.kids=[a]) (ha:(typeF ks a).1≠1) (ht:(typeF ks e).1=0)
 | not (h:e.op=oNot) (a:Ex) (hk:e.kids=[a]) (ha:(typeF ks a).1=1) (ht:(typeF ks e).1=1)
 | sample (h:e.op=oSample) (a b:Ex) (hk:e.kids=[a,b]) (ha:a.op=oNum) (hb:b.op=oNum) (h0:b.text≠⟨#[48]⟩) (ht:(typeF ks e).1=1)
 | arith (h:e.op=oAdd∨e.op=oSub∨e.op=oMul∨e.op=oDiv) (a b:Ex) (hk:e.kids=[a,b]) (ha:(typeF ks a).1≠1) (hb:(typeF ks b).1≠1) (ht:(typeF ks e).1=0)
 | comp (h:e.op=oLess∨e.op=oAtMost∨e.op=oMore∨e.op=oAtLeast) (a b:Ex) (hk:e.kids=[a,b]) (ha:(typeF ks a).1≠1) (hb:(typeF ks b).1≠1) (ht:(typeF ks e).1=1)
theorem nil0 {α:Type} {l:List α} (h:(l.length:Int)=0):l=[]:=List.eq_nil_of_length_eq_zero (by omega)
theorem J7P {ks:List (ByteArray×Va)} {e:Ex} (hb:builtF e=true) (ht:(typeF ks e).2=true):Shape ks e:=by
 have hl:=(J0D hb).1
 have hsm:J6J e.op e.kids (e.kids.map builtF)=false:=by
  rw[J1T] at hb;simp only[Bool.and_eq_true,Bool.not_eq_true'] at hb;exact hb.1.2
 have htt:=J7K ks e;rw[htt] at ht;unfold JDD at ht htt;split at ht
 ·rename_i h;rw[if_pos h] at htt;rw[show J1E e.op=0 by unfold J1E;rw[if_pos h]] at hl
  cases ha:J1C ks e.text with
  | none=>rw[ha] at ht;cases ht
  | some v=>
    rw[ha] at htt;exact .ref h (nil0 hl) v ha (by rw[htt])
 ·rename_i h0;rw[if_neg h0] at htt;split at ht
  ·rename_i h;rw[if_pos h] at htt;rw[show J1E e.op=2 by unfold J1E;rw[if_neg h0,if_pos h]] at hl;obtain ⟨a,b,he⟩:=len2 hl;rw[he] at ht;have ht:((typeF ks a).2&&(typeF ks b).2&&decide ((typeF ks a).1=(typeF ks b).1))=true:=ht;simp only[Bool.and_eq_true,decide_eq_true_eq] at ht;exact .eq h a b he ht.2 (by rw[htt])
  ·rename_i h1;rw[if_neg h1] at htt;split at ht
   ·rename_i h;rw[if_pos h] at htt;rw[show J1E e.op=3 by unfold J1E;rw[if_neg h0,if_neg h1,if_pos h]] at hl;obtain ⟨a,b,c,he⟩:=JJH hl;rw[he] at ht htt;have ht:((typeF ks a).2&&((typeF ks b).2&&(typeF ks c).2&&decide ((typeF ks b).1=(typeF ks c).1))&&decide ((typeF ks a).1=1))=true:=ht;simp only[Bool.and_eq_true,decide_eq_true_eq] at ht;have h5:(typeF ks e).1=(typeF ks b).1:=by rw[htt];rfl
    exact .ite h a b c he ht.2 h5.symm (by rw[h5];exact ht.1.2.2.symm)
   ·rename_i h2;rw[if_neg h2] at htt;split at ht
    ·cases ht
    ·rename_i h3;rw[if_neg h3] at htt;have h3:=JHQ (Bool.eq_false_iff.2 h3)
     have hkk:J1E e.op=match J1C shp e.op with | none=>-1 | some x=>x.1:=by unfold J1E;rw[if_neg h0,if_neg h1,if_neg h2];try rfl
     cases hs:J1C shp e.op with
     | none=>rw[hs] at hkk;rw[hkk] at hl;simp only at hl;omega
     | some x=>
       rw[hs] at hkk;have hx:shpD e.op=x:=by unfold shpD;rw[hs]
       rw[hx] at h3 htt;replace hkk:(e.kids.length:Int)=x.1:=by rw[hl,hkk]
       have ht1:(typeF ks e).1=if x.2.2 then 1 else 0:=by rw[htt]
       have hkt:∀ k∈e.kids,decide ((typeF ks k).1=1)=x.2.1:=fun k hk=>(h3 _ (List.mem_map.2 ⟨k,hk,rfl⟩)).2
       rcases JDU hs with h | ⟨h,rfl⟩ | ⟨h,rfl⟩ | ⟨h,rfl⟩ | ⟨h,rfl⟩ | ⟨h,rfl⟩ | ⟨h,rfl⟩ | ⟨h,rfl⟩ | ⟨h,rfl⟩
       ·have hn:x=(0,false,false):=by
         rw[h] at hs;exact (Option.some.inj (hs.symm.trans (by rfl:J1C shp oNum=some (0,false,false))))
        subst hn;exact .num h (nil0 hkk) ht1
       ·obtain ⟨a,b,he⟩:=len2 hkk;rw[he] at hkt;exact .bin h a b he (of_decide_eq_true (hkt a (by simp))) (of_decide_eq_true (hkt b (by simp))) ht1
       ·exact .time h (nil0 hkk) ht1
       ·exact .const h (nil0 hkk) ht1
       ·obtain ⟨a,he⟩:=len1 hkk;rw[he] at hkt;exact .neg h a he (of_decide_eq_false (hkt a (by simp))) ht1
       ·obtain ⟨a,he⟩:=len1 hkk;rw[he] at hkt;exact .not h a he (of_decide_eq_true (hkt a (by simp))) ht1
       ·obtain ⟨a,b,he⟩:=len2 hkk;rw[he] at hkt hsm;unfold J6J at hsm;rw[decide_eq_true h,Bool.true_and] at hsm;simp only[List.map_cons,Bool.or_eq_false_iff,Bool.not_eq_false',decide_eq_true_eq,decide_eq_false_iff_not] at hsm;exact .sample h a b he hsm.1.1.1.1 hsm.1.1.1.2 hsm.2 ht1
       ·obtain ⟨a,b,he⟩:=len2 hkk;rw[he] at hkt;exact .arith h a b he (of_decide_eq_false (hkt a (by simp))) (of_decide_eq_false (hkt b (by simp))) ht1
       ·obtain ⟨a,b,he⟩:=len2 hkk;rw[he] at hkt;exact .comp h a b he (of_decide_eq_false (hkt a (by simp))) (of_decide_eq_false (hkt b (by simp))) ht1
def IsOp (o:ByteArray):Prop:=o≠oNum∧¬(o=oVar∨o=oPre)∧¬(o=oIf∨o=oAnd∨o=oOr)
theorem JGF {o:ByteArray} (h:o∈[oEq,oNe,oTime,oTrue,oFalse,oInit,oNeg,oNot,oSample,oAdd,oSub,oMul,oDiv,oLess,oAtMost,oMore,oAtLeast]):IsOp o:=by
 have:(([oEq,oNe,oTime,oTrue,oFalse,oInit,oNeg,oNot,oSample,oAdd,oSub,oMul,oDiv,oLess,oAtMost,oMore,oAtLeast]:List ByteArray).all fun o=>!decide (o=oNum)&&!(decide (o=oVar)||decide (o=oPre))&&!(decide (o=oIf)||decide (o=oAnd)||decide (o=oOr)))=true:=by kernel_rfl
 have:=List.all_eq_true.1 this o h;simp only[Bool.and_eq_true,Bool.not_eq_true',Bool.or_eq_false_iff,decide_eq_false_iff_not] at this;exact ⟨this.1.1,by rintro (h | h);exact this.1.2.1 h;exact this.1.2.2 h,by rintro (h | h | h);exact this.2.1.1 h;exact this.2.1.2 h;exact this.2.2 h⟩
theorem J2y {o:ByteArray} (h:o=oIf∨o=oAnd∨o=oOr):o≠oNum∧¬(o=oVar∨o=oPre):=by rcases h with rfl | rfl | rfl<;>exact ⟨by decide,by decide⟩
section
variable {ks:List (ByteArray×Va)} {ev:Ev} {o t:ByteArray} {n:Int} {rs:List (Except Int Vl)}
theorem J2M (h:o=oNum):J5X ks ev o t n rs=.ok (.num (numV t)):=by unfold J5X;rw[if_pos h]
theorem J5W (h:o=oVar∨o=oPre):J5X ks ev o t n rs=J2V ks ev ⟨t,n,decide (o=oPre)⟩:=by
 unfold J5X;rw[if_neg (by rcases h with rfl | rfl<;>decide),if_pos h]
theorem J3I (h:o=oIf∨o=oAnd∨o=oOr):J5X ks ev o t n rs=match rs.getD 0 (.error 0) with
  | .error c=>.error c
  | .ok v=>match J25 o v.truth with
    | some i=>rs.getD i (.error 0)
    | none=>.ok v:=by
 unfold J5X;rw[if_neg (J2y h).1,if_neg (J2y h).2,if_pos h]
 try rfl
theorem J7k (h:IsOp o):J5X ks ev o t n rs=match seqR rs with
  | .error c=>.error c
  | .ok vs=>wayF ev o vs:=by
 unfold J5X;rw[if_neg h.1,if_neg h.2.1,if_neg h.2.2]
 try rfl
end
theorem Shape.isOp {ks:List (ByteArray×Va)} {e:Ex} (h:Shape ks e):e.op=oNum∨(e.op=oVar∨e.op=oPre)∨(e.op=oIf∨e.op=oAnd∨e.op=oOr)∨IsOp e.op:=by
 rcases h with ⟨h⟩ | ⟨h⟩ | ⟨h⟩ | ⟨h⟩ | ⟨h⟩ | ⟨h⟩ | ⟨h⟩ | ⟨h⟩ | ⟨h⟩ | ⟨h⟩ | ⟨h⟩ | ⟨h⟩
 ·exact .inl h
 ·exact .inr (.inl h)
 ·exact .inr (.inr (.inl (.inl h)))
 ·exact .inr (.inr (.inl (.inr h)))
 all_goals
  refine .inr (.inr (.inr (JGF ?_)))
  first | (rcases h with h | h | h | h) | (rcases h with h | h | h) | (rcases h with h | h) | skip
 all_goals rw[h];simp
theorem J4p {ks:List (ByteArray×Va)} {ev:Ev} {e:Ex} (hb:builtF e=true) (hs:Shape ks e) (ho:IsOp e.op) (hk:∀ k∈e.kids,∀ v,evalF ks ev k=.ok v→v.type=(typeF ks k).1) {vs:List Vl} (h:e.kids.map (evalF ks ev)=vs.map .ok):JFc e.op vs:=by
 have two:∀ {a b:Ex},e.kids=[a,b]→∃ x y,vs=[x,y]∧x.type=(typeF ks a).1∧y.type=(typeF ks b).1∧evalF ks ev a=.ok x∧evalF ks ev b=.ok y:=by
  intro a b he;rw[he] at h hk
  rcases vs with _ | ⟨x,_ | ⟨y,_ | ⟨z,r⟩⟩⟩<;>simp at h
  exact ⟨x,y,rfl,hk a (by simp) x h.1,hk b (by simp) y h.2,h.1,h.2⟩
 have one:∀ {a:Ex},e.kids=[a]→∃ x,vs=[x]∧x.type=(typeF ks a).1:=by
  intro a he;rw[he] at h hk
  rcases vs with _ | ⟨x,_ | ⟨z,r⟩⟩<;>simp at h
  exact ⟨x,rfl,hk a (by simp) x h⟩
 have number:∀ {v:Vl} {t:Int},v.type=t→t≠1→∃ q,v=.num q:=by
  intro v t h1 h2
  rcases ty01 v with ⟨_,h⟩ | ⟨h,_⟩
  ·exact h
  ·exact absurd (h1.symm.trans h) h2
 have truth:∀ {v:Vl} {t:Int},v.type=t→t=1→∃ b,v=.tr b:=by
  intro v t h1 h2
  rcases ty01 v with ⟨h,_⟩ | ⟨_,h⟩
  ·rw[h1,h2] at h;cases h
  ·exact h
 rcases hs with ⟨h1⟩ | ⟨h1⟩ | ⟨h1⟩ | ⟨h1⟩ | ⟨h1,a,b,he,hab,_⟩ | ⟨h1⟩ | ⟨h1⟩ | ⟨h1,a,he,ha,_⟩ | ⟨h1,a,he,ha,_⟩ | ⟨h1,a,b,he,ha,hb',h0,_⟩ | ⟨h1,a,b,he,ha,hb',_⟩ | ⟨h1,a,b,he,ha,hb',_⟩
 ·exact absurd h1 ho.1
 ·exact absurd h1 ho.2.1
 ·exact absurd (.inl h1) ho.2.2
 ·exact absurd (.inr h1) ho.2.2
 ·obtain ⟨x,y,rfl,hx,hy,_⟩:=two he;exact .inr (.inr (.inr (.inr (.inr ⟨h1,x,y,rfl,by rw[hx,hy,hab]⟩))))
 ·exact .inl (.inr (.inr (.inl h1)))
 ·refine .inl ?_
  rcases h1 with h1 | h1 | h1
  ·exact .inl h1
  ·exact .inr (.inl h1)
  ·exact .inr (.inr (.inr h1))
 ·obtain ⟨x,rfl,hx⟩:=one he;obtain ⟨q,rfl⟩:=number hx ha;exact .inr (.inr (.inl ⟨h1,q,rfl⟩))
 ·obtain ⟨x,rfl,hx⟩:=one he;obtain ⟨q,rfl⟩:=truth hx ha;exact .inr (.inr (.inr (.inl ⟨h1,q,rfl⟩)))
 ·obtain ⟨x,y,rfl,_,_,ex,ey⟩:=two he;rw[J2i,J2M ha] at ex;rw[J2i,J2M hb'] at ey;cases ex;cases ey;refine .inr (.inl ⟨h1,_,_,rfl,fun hq=>h0 (JDu ?_ hq)⟩);have hbb:=(J0D hb).2 b (by rw[he];simp);rw[J1T] at hbb;simp only[Bool.and_eq_true] at hbb;have hx:=hbb.1.1.2;unfold textF at hx;rw[if_pos hb'] at hx;simp only[Bool.and_eq_true] at hx;exact hx.1
 ·obtain ⟨x,y,rfl,hx,hy,_⟩:=two he;obtain ⟨p,rfl⟩:=number hx ha;obtain ⟨q,rfl⟩:=number hy hb';refine .inr (.inr (.inr (.inr (.inl ⟨?_,p,q,rfl⟩))))
  rcases h1 with h1 | h1 | h1 | h1<;>simp[h1]
 ·obtain ⟨x,y,rfl,hx,hy,_⟩:=two he;obtain ⟨p,rfl⟩:=number hx ha;obtain ⟨q,rfl⟩:=number hy hb';refine .inr (.inr (.inr (.inr (.inl ⟨?_,p,q,rfl⟩))))
  rcases h1 with h1 | h1 | h1 | h1<;>simp[h1]
def typeW (o:ByteArray):Int:=if o=oTime∨o=oNeg∨o=oAdd∨o=oSub∨o=oMul∨o=oDiv then 0 else 1
theorem JHc {ev:Ev} {o:ByteArray} {vs:List Vl} (hw:JFc o vs) {v:Vl} (h:wayF ev o vs=.ok v):v.type=typeW o:=by
 rcases hw with h1 | ⟨rfl,p,q,rfl,h0⟩ | ⟨rfl,p,rfl⟩ | ⟨rfl,c,rfl⟩ | ⟨h1,p,q,rfl⟩ | ⟨h1,a,b,rfl,hab⟩
 ·rcases h1 with rfl | rfl | rfl | rfl<;>(cases h;rfl)
 ·replace h:(.ok (.tr (multF (ev.time-p) q)):Except Int Vl)=.ok v:=h;cases h;rfl
 ·replace h:(.ok (.num (-p)):Except Int Vl)=.ok v:=h;cases h;rfl
 ·replace h:(.ok (.tr (!c)):Except Int Vl)=.ok v:=h;cases h;rfl
 ·rcases h1 with rfl | rfl | rfl | rfl | rfl | rfl | rfl | rfl
  ·replace h:(.ok (.num (p+q)):Except Int Vl)=.ok v:=h;cases h;rfl
  ·replace h:(.ok (.num (p-q)):Except Int Vl)=.ok v:=h;cases h;rfl
  ·replace h:(.ok (.num (p*q)):Except Int Vl)=.ok v:=h;cases h;rfl
  ·replace h:divV p q=.ok v:=h;unfold divV at h;split at h
   ·cases h
   ·cases h;rfl
  ·replace h:(.ok (.tr (decide (p<q))):Except Int Vl)=.ok v:=h;cases h;rfl
  ·replace h:(.ok (.tr (decide (p≤q))):Except Int Vl)=.ok v:=h;cases h;rfl
  ·replace h:(.ok (.tr (decide (q<p))):Except Int Vl)=.ok v:=h;cases h;rfl
  ·replace h:(.ok (.tr (decide (q≤p))):Except Int Vl)=.ok v:=h;cases h;rfl
 ·rcases a with p | x<;>rcases b with q | y<;>first | (cases hab;done) | skip
  ·rcases h1 with rfl | rfl
   ·replace h:(.ok (.tr (sameV (.num p) (.num q))):Except Int Vl)=.ok v:=h;cases h;rfl
   ·replace h:(.ok (.tr (!sameV (.num p) (.num q))):Except Int Vl)=.ok v:=h;cases h;rfl
  ·rcases h1 with rfl | rfl
   ·replace h:(.ok (.tr (sameV (.tr x) (.tr y))):Except Int Vl)=.ok v:=h;cases h;rfl
   ·replace h:(.ok (.tr (!sameV (.tr x) (.tr y))):Except Int Vl)=.ok v:=h;cases h;rfl
theorem Shape.typeW {ks:List (ByteArray×Va)} {e:Ex} (hs:Shape ks e) (ho:IsOp e.op):(typeF ks e).1=typeW e.op:=by
 rcases hs with ⟨h1⟩ | ⟨h1⟩ | ⟨h1⟩ | ⟨h1⟩ | ⟨h1,a,b,he,hab,ht⟩ | ⟨h1,he,ht⟩ | ⟨h1,he,ht⟩ | ⟨h1,a,he,ha,ht⟩ | ⟨h1,a,he,ha,ht⟩ | ⟨h1,a,b,he,ha,hb',h0,ht⟩ | ⟨h1,a,b,he,ha,hb',ht⟩ | ⟨h1,a,b,he,ha,hb',ht⟩
 ·exact absurd h1 ho.1
 ·exact absurd h1 ho.2.1
 ·exact absurd (.inl h1) ho.2.2
 ·exact absurd (.inr h1) ho.2.2
 all_goals
  rw[ht]
  first | (rcases h1 with h1 | h1 | h1 | h1) | (rcases h1 with h1 | h1 | h1) | (rcases h1 with h1 | h1) | skip
 all_goals (rw[h1];rfl)
theorem J7l {ks:List (ByteArray×Va)} {ev:Ev} (e:Ex):builtF e=true→(typeF ks e).2=true→∀ v,evalF ks ev e=.ok v→v.type=(typeF ks e).1:=by
 induction e using J4D with
 | h e ih=>
   intro hb ht v h;have ihk:∀ k∈e.kids,∀ v,evalF ks ev k=.ok v→v.type=(typeF ks k).1:=fun k hk=>ih k hk ((J0D hb).2 k hk) (J1K hb ht k hk);have hs:=J7P hb ht;rw[J2i] at h
   by_cases ho:IsOp e.op
   ·rw[J7k ho] at h;split at h
    ·cases h
    ·rename_i vs hvs;rw[hs.typeW ho];exact JHc (J4p hb hs ho ihk (J7R hvs)) h
   rcases hs with ⟨h1,he,ht'⟩ | ⟨h1,he,w,hw,ht'⟩ | ⟨h1,a,b,c,he,ha,hb',hc⟩ | ⟨h1,a,b,he,ha,hb',ht'⟩ | ⟨h1⟩ | ⟨h1⟩ | ⟨h1⟩ | ⟨h1⟩ | ⟨h1⟩ | ⟨h1⟩ | ⟨h1⟩ | ⟨h1⟩
   ·rw[J2M h1] at h;cases h;rw[ht'];rfl
   ·rw[J5W h1] at h;rw[JGp h,ht'];show JBp ks e.text=w.type
    unfold JBp;rw[hw]
   ·rw[J3I (.inl h1),he] at h;rw[he] at ihk
    have h:(match evalF ks ev a with
     | .error c=>.error c
     | .ok v=>match J25 e.op v.truth with
       | some i=>(List.map (evalF ks ev) [a,b,c]).getD i (.error 0)
       | none=>.ok v)=Except.ok v:=h
    split at h
    ·cases h
    ·rename_i x hx;unfold J25 at h;rw[if_pos h1] at h;cases hxt:x.truth
     ·rw[hxt] at h;have h:evalF ks ev c=.ok v:=h;rw[ihk c (by simp) v h,hc]
     ·rw[hxt] at h;have h:evalF ks ev b=.ok v:=h;rw[ihk b (by simp) v h,hb']
   ·rw[J3I (.inr h1),he] at h;rw[he] at ihk
    have h:(match evalF ks ev a with
     | .error c=>.error c
     | .ok v=>match J25 e.op v.truth with
       | some i=>(List.map (evalF ks ev) [a,b]).getD i (.error 0)
       | none=>.ok v)=Except.ok v:=h
    split at h
    ·cases h
    ·rename_i x hx;unfold J25 at h;rw[if_neg (by rcases h1 with h1 | h1<;>rw[h1]<;>decide)] at h
     by_cases hd:decide (e.op=oAnd)=x.truth
     ·rw[if_pos hd] at h;have h:evalF ks ev b=.ok v:=h;rw[ihk b (by simp) v h,hb',ht']
     ·rw[if_neg hd] at h;cases h;rw[ihk a (by simp) v hx,ha,ht']
   all_goals
    exfalso;refine ho (JGF ?_)
    first | (rcases h1 with h1 | h1 | h1 | h1) | (rcases h1 with h1 | h1 | h1) | (rcases h1 with h1 | h1) | skip
   all_goals rw[h1];simp
theorem JFd {ev:Ev} {o:ByteArray} {vs:List Vl} (hw:JFc o vs) {c:Int} (h:wayF ev o vs=.error c):c=12:=by
 rcases hw with h1 | ⟨rfl,p,q,rfl,h0⟩ | ⟨rfl,p,rfl⟩ | ⟨rfl,x,rfl⟩ | ⟨h1,p,q,rfl⟩ | ⟨h1,a,b,rfl,hab⟩
 ·rcases h1 with rfl | rfl | rfl | rfl<;>cases h
 ·replace h:(.ok (.tr (multF (ev.time-p) q)):Except Int Vl)=.error c:=h;cases h
 ·replace h:(.ok (.num (-p)):Except Int Vl)=.error c:=h;cases h
 ·replace h:(.ok (.tr (!x)):Except Int Vl)=.error c:=h;cases h
 ·rcases h1 with rfl | rfl | rfl | rfl | rfl | rfl | rfl | rfl
  ·replace h:(.ok (.num (p+q)):Except Int Vl)=.error c:=h;cases h
  ·replace h:(.ok (.num (p-q)):Except Int Vl)=.error c:=h;cases h
  ·replace h:(.ok (.num (p*q)):Except Int Vl)=.error c:=h;cases h
  ·replace h:divV p q=.error c:=h;unfold divV at h;split at h
   ·cases h;rfl
   ·cases h
  ·replace h:(.ok (.tr (decide (p<q))):Except Int Vl)=.error c:=h;cases h
  ·replace h:(.ok (.tr (decide (p≤q))):Except Int Vl)=.error c:=h;cases h
  ·replace h:(.ok (.tr (decide (q<p))):Except Int Vl)=.error c:=h;cases h
  ·replace h:(.ok (.tr (decide (q≤p))):Except Int Vl)=.error c:=h;cases h
 ·rcases a with p | x<;>rcases b with q | y<;>first | (cases hab;done) | skip
  ·rcases h1 with rfl | rfl
   ·replace h:(.ok (.tr (sameV (.num p) (.num q))):Except Int Vl)=.error c:=h;cases h
   ·replace h:(.ok (.tr (!sameV (.num p) (.num q))):Except Int Vl)=.error c:=h;cases h
  ·rcases h1 with rfl | rfl
   ·replace h:(.ok (.tr (sameV (.tr x) (.tr y))):Except Int Vl)=.error c:=h;cases h
   ·replace h:(.ok (.tr (!sameV (.tr x) (.tr y))):Except Int Vl)=.error c:=h;cases h
theorem JAo:∀ {rs:List (Except Int Vl)} {c:Int},seqR rs=.error c→.error c∈rs
 | .error d::r,c,h=>by cases h;exact List.mem_cons_self
 | .ok v::r,c,h=>by
   unfold seqR at h;split at h
   ·cases h
   ·rename_i d hd;cases h;exact List.mem_cons_of_mem _ (JAo hd)
def ErrC (c:Int):Prop:=c=5∨c=7∨c=12
theorem J2N {ks:List (ByteArray×Va)} {ev:Ev} (e:Ex):builtF e=true→(typeF ks e).2=true→∀ c,evalF ks ev e=.error c→ErrC c:=by
 induction e using J4D with
 | h e ih=>
   intro hb ht c h;have ihk:∀ k∈e.kids,∀ c,evalF ks ev k=.error c→ErrC c:=fun k hk=>ih k hk ((J0D hb).2 k hk) (J1K hb ht k hk);have hty:∀ k∈e.kids,∀ v,evalF ks ev k=.ok v→v.type=(typeF ks k).1:=fun k hk=>J7l k ((J0D hb).2 k hk) (J1K hb ht k hk);have hs:=J7P hb ht;rw[J2i] at h
   by_cases ho:IsOp e.op
   ·rw[J7k ho] at h;split at h
    ·rename_i d hd;cases h;obtain ⟨k,hk,h⟩:=List.mem_map.1 (JAo hd);exact ihk k hk _ h
    ·rename_i vs hvs;exact .inr (.inr (JFd (J4p hb hs ho hty (J7R hvs)) h))
   rcases hs with ⟨h1,he,ht'⟩ | ⟨h1,he,w,hw,ht'⟩ | ⟨h1,a,b,x,he,ha,hb',hc⟩ | ⟨h1,a,b,he,ha,hb',ht'⟩ | ⟨h1⟩ | ⟨h1⟩ | ⟨h1⟩ | ⟨h1⟩ | ⟨h1⟩ | ⟨h1⟩ | ⟨h1⟩ | ⟨h1⟩
   ·rw[J2M h1] at h;cases h
   ·rw[J5W h1] at h;unfold J2V at h;split at h
    ·cases h;exact .inl rfl
    ·split at h
     ·cases h;exact .inr (.inl rfl)
     ·cases h
   ·rw[J3I (.inl h1),he] at h;rw[he] at ihk
    have h:(match evalF ks ev a with
     | .error c=>.error c
     | .ok v=>match J25 e.op v.truth with
       | some i=>(List.map (evalF ks ev) [a,b,x]).getD i (.error 0)
       | none=>.ok v)=Except.error c:=h
    split at h
    ·rename_i d hd;cases h;exact ihk a (by simp) _ hd
    ·rename_i y hy;unfold J25 at h;rw[if_pos h1] at h;cases hxt:y.truth
     ·rw[hxt] at h;exact ihk x (by simp) c h
     ·rw[hxt] at h;exact ihk b (by simp) c h
   ·rw[J3I (.inr h1),he] at h;rw[he] at ihk
    have h:(match evalF ks ev a with
     | .error c=>.error c
     | .ok v=>match J25 e.op v.truth with
       | some i=>(List.map (evalF ks ev) [a,b]).getD i (.error 0)
       | none=>.ok v)=Except.error c:=h
    split at h
    ·rename_i d hd;cases h;exact ihk a (by simp) _ hd
    ·rename_i y hy;unfold J25 at h;rw[if_neg (by rcases h1 with h1 | h1<;>rw[h1]<;>decide)] at h
     by_cases hd:decide (e.op=oAnd)=y.truth
     ·rw[if_pos hd] at h;exact ihk b (by simp) c h
     ·rw[if_neg hd] at h;cases h
   all_goals
    exfalso;refine ho (JGF ?_)
    first | (rcases h1 with h1 | h1 | h1 | h1) | (rcases h1 with h1 | h1 | h1) | (rcases h1 with h1 | h1) | skip
   all_goals rw[h1];simp
theorem ErrC.ne {c:Int} (h:ErrC c):¬ c=0:=by rcases h with rfl | rfl | rfl<;>decide
def evFn (ks:List (ByteArray×Va)) (ev:Ev):Nat→AV
 | 0=>.dead
 | n+1=>.fn (.func 188) [] [.ep (encK ks) 0,.ep (J0u ev) 0,.ep (evFn ks ev n) 0,.ep wayM 0]
theorem JGE {e k:Ex} (h:k∈e.kids):SizeOf.sizeOf k<SizeOf.sizeOf e:=by
 cases e with
 | mk o t m ks=>
   have:=List.sizeOf_lt_of_mem (show k∈ks from h);simp;omega
theorem J7J:∀ es:List Ex,es.length≤wtL es
 | []=>Nat.zero_le _
 | e::es=>by
   unfold wtL;have:=J7J es;have:=J4m e;simp only[List.length_cons];omega
theorem JJx {b p e n:Nat} {H:Hp} {out:List Vl} (hb:H b=some (p,⟨e,6,out.map J04⟩)) (hn:n=out.length):snap [b] H (.own b p 0 n)=J42 out:=by
 rw[J7M (by simp) hb (by simp[hn]),J1N _ _ _ _ hn fun v=>by cases v<;>rfl];rfl
def JCA (ev:Ev) (o:ByteArray) (vs:List Vl) (rs:List (Except Int Vl)):Except Int Vl:=match seqR rs with
 | .error c=>.error c
 | .ok r=>wayF ev o (vs++r)
theorem JFy (ev:Ev) (o:ByteArray) (vs:List Vl) (v:Vl) (rs:List (Except Int Vl)):JCA ev o vs (.ok v::rs)=JCA ev o (vs++[v]) rs:=by
 unfold JCA;rw[show seqR (.ok v::rs)=match seqR rs with | .ok l=>.ok (v::l) | .error c=>.error c from rfl]
 cases seqR rs with
 | error c=>rfl
 | ok l=>simp
def hpE (g5 g6 gl:Nat) (e:AV) (vs:List Vl):List (Nat×Nat×Blk):=[(5,g5,⟨29,4,[e]⟩),(6,g6,⟨148,6,[J0j nilQ false false]⟩),(93,gl,⟨148,6,vs.map J04⟩)]
theorem JGx (ks:List (ByteArray×Va)) (ev:Ev) (he:EvOk ev) (e:Ex):SzE e→TxE e→builtF e=true→(typeF ks e).2=true→wtF e≤1000→∀ n,SizeOf.sizeOf e≤n →
  PureCall Tryz.prog 188 [encE e,.ep (encK ks) 0,.ep (J0u ev) 0,.ep (evFn ks ev n) 0,.ep wayM 0] (J1S (evalF ks ev e)):=by
 induction e using J4D with
 | h e ih=>
   intro hz hx hb ht hw n hn;have hpos:0<SizeOf.sizeOf e:=by cases e;simp;omega
   obtain ⟨m,rfl⟩:∃ m,n=m+1:=⟨n-1,by omega⟩;have hm:∀ k∈e.kids,SizeOf.sizeOf k≤m:=fun k hk=>by have:=JGE hk;omega
   have ihk:∀ k∈e.kids,PureCall Tryz.prog 188 [encE k,.ep (encK ks) 0,.ep (J0u ev) 0,.ep (evFn ks ev m) 0,.ep wayM 0] (J1S (evalF ks ev k)):=
    fun k hk=>ih k hk (hz.kid k hk) (hx.kid k hk) ((J0D hb).2 k hk) (J1K hb ht k hk) (by have:=JH5 hk;omega) m (hm k hk)
   clear ih;have hty:∀ k∈e.kids,∀ v,evalF ks ev k=.ok v→v.type=(typeF ks k).1:=fun k hk=>J7l k ((J0D hb).2 k hk) (J1K hb ht k hk);have herr:∀ k∈e.kids,∀ c,evalF ks ev k=.error c→¬ c=0:=fun k hk c h=>(J2N k ((J0D hb).2 k hk) (J1K hb ht k hk) c h).ne;have hsz:∀ k∈e.kids,∀ v,evalF ks ev k=.ok v→v.sz≤301*wtF k:=fun k hk=>J3J he k ((J0D hb).2 k hk);have hs:=J7P hb ht;have hso:=hs.isOp;have hwt:wtL e.kids≤1000:=by have:=J4m e;omega
   have hlen:e.kids.length≤1000:=Nat.le_trans (J7J _) hwt;have htx:=hx.tx
   have htxt:e.op=oNum→(J0B e.text.data.toList).2=true:=by
    intro h1;have hx:textF e=true:=by rw[J1T] at hb;simp only[Bool.and_eq_true] at hb;exact hb.1.1.2
    unfold textF at hx;rw[if_pos h1] at hx;simp only[Bool.and_eq_true] at hx;exact hx.1
   have hUse:=JJk e;have hBound:=JGz ks ev (useF e);have hway:=fun (vs:List Vl) (ho:IsOp e.op) (h:e.kids.map (evalF ks ev)=vs.map .ok)=>J4p hb hs ho hty h
   have hfirst:e.op=oIf∨e.op=oAnd∨e.op=oOr→0<e.kids.length∧∀ t i,J25 e.op t=some i→i<e.kids.length:=by
    intro h
    rcases hs with ⟨h1⟩ | ⟨h1⟩ | ⟨h1,a,b,c,hk,_⟩ | ⟨h1,a,b,hk,_⟩ | ⟨h1⟩ | ⟨h1⟩ | ⟨h1⟩ | ⟨h1⟩ | ⟨h1⟩ | ⟨h1⟩ | ⟨h1⟩ | ⟨h1⟩
    ·exact absurd h1 (J2y h).1
    ·exact absurd h1 (J2y h).2
    ·rw[hk];refine ⟨by simp,fun t i hi=>?_⟩;unfold J25 at hi;rw[if_pos h1] at hi;cases t<;>cases hi<;>simp
    ·rw[hk];refine ⟨by simp,fun t i hi=>?_⟩;unfold J25 at hi;rw[if_neg (by rcases h1 with h1 | h1<;>rw[h1]<;>decide)] at hi;split at hi
     ·cases hi;simp
     ·cases hi
    all_goals
     exfalso
     have hop:IsOp e.op:=JGF (by
      first | (rcases h1 with h1 | h1 | h1 | h1) | (rcases h1 with h1 | h1 | h1) | (rcases h1 with h1 | h1) | skip
      all_goals rw[h1];simp)
     exact hop.2.2 h
   have hNext:=fun t=>JIn e t;clear hz hx hb ht hw hn hm hs;refine PC [] Tryz.func188 rfl (by rfl) rfl ?_;generalize hF:evalF ks ev e=F;rw[J2i] at hF;rw[J03] at hUse hNext ⊢;generalize hus:useF e=us at *;obtain ⟨o,t,od,es⟩:=e;simp only[Ex.op,Ex.text,Ex.order,Ex.kids] at *
   rcases hso with h1 | h1 | h1 | h1
   ·rw[J2M h1] at hF;obtain ⟨hq1,hq2⟩:=J3y (htxt h1);have hp:=J2W t.data.toList htx;rw[J18,JAu,← hq1] at hp;have hN:=J1M (numV t);generalize numV t=q at *;generalize (J0B t.data.toList).2=b at *;unfold encF encQ at hp;(refine kWS ?_;repeat intro γ);refine J00 [] _ c134 hp ?_;(refine kWS ?_;repeat intro γ);refine J00 [] _ c189 hN ?_;(refine kWS ?_;repeat intro γ);exact .of (by rw[← hF];rfl)
   ·rw[J5W h1] at hF;replace hF:J2V ks ev us=F:=by rw[← hus];exact hF
    rw[hF] at hBound
    have hcond:¬ o=oNum:=by rcases h1 with rfl | rfl<;>decide
    by_cases h2:o=oVar
    case' neg=>have h3:o=oPre:=h1.resolve_left h2
    all_goals
     (refine kWS ?_;repeat intro γ);refine CallG.intro _ c145 hUse ?_;(refine kWS ?_;repeat intro γ);refine CallG.intro _ c190 hBound ?_
     rcases F with c | q | b
     all_goals
      (refine kWS ?_;repeat intro γ);exact .of rfl
   ·rw[J3I h1] at hF;have n1:¬ o=oNum:=(J2y h1).1;have n2:¬ o=oVar:=fun h=>(J2y h1).2 (.inl h);have n3:¬ o=oPre:=fun h=>(J2y h1).2 (.inr h);obtain ⟨hl0,hnx⟩:=hfirst h1;have hk0:=ihk _ (List.getElem_mem hl0);have he0:=herr _ (List.getElem_mem hl0);have h0:(es.map (evalF ks ev)).getD 0 (.error 0)=evalF ks ev es[0]:=by rw[List.getD_eq_getElem?_getD,List.getElem?_map,List.getElem?_eq_getElem hl0];rfl
    rw[h0] at hF
    have g0:(es.map encE).getD (Int.toNat 0) .dead=encE es[0]:=by
     show (es.map encE).getD 0 .dead=_
     rw[List.getD_eq_getElem?_getD,List.getElem?_map,List.getElem?_eq_getElem hl0];rfl
    generalize es[0]=k0 at *
    by_cases h4:o=oIf
    case' neg=>
     by_cases h5:o=oAnd
     case' neg=>have h6:o=oOr:=(h1.resolve_left h4).resolve_left h5
    all_goals
     rw[J03] at g0 hk0;(refine kWS ?_;repeat intro γ);rw[g0];(refine kWS ?_;repeat intro γ);refine CallG.intro _ c188 hk0 ?_
     rcases hr:evalF ks ev k0 with c | v
     ·rw[hr] at hF;have hc:=he0 c hr;replace hF:Except.error c=F:=hF;(refine kWS ?_;repeat intro γ);exact .of (by rw[← hF];rfl)
     ·rw[hr] at hF;clear he0 hr
      replace hF:(match J25 o v.truth with
       | some i=>(List.map (evalF ks ev) es).getD i (.error 0)
       | none=>.ok v)=F:=hF
      have hN:=hNext v.truth (hnx v.truth);have hnx:=hnx v.truth
      rcases hni:J25 o v.truth with _ | i
      ·rw[hni] at hN hF;replace hF:Except.ok v=F:=hF;replace hN:PureCall Tryz.prog 147 [.agg [encS o,encS t,encI od,.sl 4 (es.map encE)],encB v.truth] (.tup [nilE,encB false]):=hN
       rcases v with q | b
       all_goals
        unfold J1S J04 J0j
        try unfold encF encQ
        (refine kWS ?_;repeat intro γ);refine J00 [] _ c147 hN ?_;(refine kWS ?_;repeat intro γ);exact .of (by rw[← hF];rfl)
      ·rw[hni] at hN hF;have hi:=hnx i hni;have hki:=ihk _ (List.getElem_mem hi);have gi:(es.map encE).getD i .dead=encE es[i]:=by rw[List.getD_eq_getElem?_getD,List.getElem?_map,List.getElem?_eq_getElem hi];rfl
       have fi:(es.map (evalF ks ev)).getD i (.error 0)=evalF ks ev es[i]:=by rw[List.getD_eq_getElem?_getD,List.getElem?_map,List.getElem?_eq_getElem hi];rfl
       replace hF:(es.map (evalF ks ev)).getD i (.error 0)=F:=hF;rw[fi] at hF;replace hN:PureCall Tryz.prog 147 [.agg [encS o,encS t,encI od,.sl 4 (es.map encE)],encB v.truth] (.tup [(es.map encE).getD i .dead,encB true]):=hN;rw[gi] at hN;generalize es[i]=k at *;rw[J03 k] at hN hki;rw[hF] at hki
       rcases v with q | b
       all_goals
        unfold J1S J04 J0j
        try unfold encF encQ
        (refine kWS ?_;repeat intro γ);refine J00 [] _ c147 hN ?_;(refine kWS ?_;repeat intro γ);refine J00 [] _ c188 hki ?_
        rcases F with c | q | b
        all_goals
         (refine kWS ?_;repeat intro γ);exact .of rfl
   ·rw[J7k h1] at hF;have n1:¬ o=oNum:=h1.1;have n2:¬ o=oVar:=fun h=>h1.2.1 (.inl h);have n3:¬ o=oPre:=fun h=>h1.2.1 (.inr h);have n4:¬ o=oIf:=fun h=>h1.2.2 (.inl h);have n5:¬ o=oAnd:=fun h=>h1.2.2 (.inr (.inl h));have n6:¬ o=oOr:=fun h=>h1.2.2 (.inr (.inr h));have hsq:∀ vs:List Vl,(es.map (evalF ks ev))=vs.map .ok→Way ev o vs:=fun vs h=>JJ2 ev o vs (hway vs h1 h) (by have:=JDI hsz h;have:=he.1;omega);clear hNext hBound hUse hus hfirst hway hsz hty htxt;replace hF:JCA ev o [] (es.map (evalF ks ev))=F:=by rw[← hF];rfl
    (refine kWS ?_;repeat intro γ)
    refine LoopP.intro (fun j σ H=>∃ g5 g6 gl i,∃ vs:List Vl,j=es.length-i∧i≤es.length∧(es.take i).map (evalF ks ev)=vs.map .ok∧JCA ev o vs ((es.drop i).map (evalF ks ev))=F ∧
     σ=fr [(1,.ep (encK ks) 0),(2,.ep (J0u ev) 0),(3,.ep (evFn ks ev (m+1)) 0),(4,.ep wayM 0),(5,.op 5 g5 0 0),(6,.op 6 g6 0 0),(14,.own 93 gl 0 vs.length),(74,.sl 4 (es.map encE)),(75,encI es.length),(76,encI i)] ∧
     H=hp (hpE g5 g6 gl (.agg [encS o,encS t,encI od,.sl 4 (es.map encE)]) vs)) ?_ ?_
    ·exact .intro (J9M 14 93 148 6 rfl rfl fun gl=>W.of ⟨_,_,_,gl,0,[],rfl,Nat.zero_le _,rfl,hF,rfl,rfl⟩ ⟨rfl,rfl,rfl,rfl,rfl,rfl,rfl,rfl,(by rw[List.length_map];rfl),rfl,trivial⟩ ⟨rfl,rfl,rfl,trivial⟩)
    ·clear hF;rintro j σ H ⟨g5,g6,gl,i,vs,rfl,hi,hvs,hF,rfl,rfl⟩;unfold hpE
     have hvl:vs.length=i:=by
      have:=congrArg List.length hvs;rw[List.length_map,List.length_map,List.length_take] at this;omega
     rcases Nat.lt_or_ge i es.length with h9 | h9
     ·rw[List.drop_eq_getElem_cons h9,List.map_cons] at hF;have hk:=ihk _ (List.getElem_mem h9);have hek:=herr _ (List.getElem_mem h9);have htk:(es.take (i+1)).map (evalF ks ev)=vs.map .ok++[evalF ks ev es[i]]:=by rw[List.take_succ_eq_append_getElem h9,List.map_append,hvs];rfl
      obtain ⟨k,hkk⟩:∃ k,es[i]=k:=⟨_,rfl⟩;rw[hkk] at hF hk hek htk;rw[J03] at hk;(refine kWQ ?_;repeat intro γ);simp only[hkk,J03];(refine kQ ?_;repeat intro γ);refine J00 [] _ c188 hk ?_
      rcases hr:evalF ks ev k with c | v
      ·have hc:=hek c hr;rw[hr] at hF;replace hF:Except.error c=F:=hF;(refine kWQ ?_;repeat intro γ);exact .of (by rw[← hF];rfl)
      ·rw[hr,JFy] at hF;rw[hr] at htk;have hml:=@List.length_map _ _ vs J04;clear hek hk
       rcases v with q | b
       ·unfold J1S J04 J0j encF encQ;(refine kWQ ?_;repeat intro γ)
        refine .intro <| W.of ⟨_,by omega,g5,g6,γ,i+1,vs++[.num q],rfl,h9,(by rw[htk,List.map_append];rfl),hF,rfl,rfl⟩ ⟨rfl,rfl,rfl,rfl,rfl,rfl,?_,rfl,rfl,rfl,trivial⟩ ⟨rfl,rfl,?_,trivial⟩
        ·exact congrArg (AV.own 93 _ 0) (by simp)
        ·rw[List.map_append];rfl
       ·unfold J1S J04 J0j;(refine kWQ ?_;repeat intro γ)
        refine .intro <| W.of ⟨_,by omega,g5,g6,γ,i+1,vs++[.tr b],rfl,h9,(by rw[htk,List.map_append];rfl),hF,rfl,rfl⟩ ⟨rfl,rfl,rfl,rfl,rfl,rfl,?_,rfl,rfl,rfl,trivial⟩ ⟨rfl,rfl,?_,trivial⟩
        ·exact congrArg (AV.own 93 _ 0) (by simp)
        ·rw[List.map_append];rfl
     ·obtain rfl:i=es.length:=by omega
      rw[List.drop_length] at hF;rw[List.take_length] at hvs;replace hF:wayF ev o vs=F:=by rw[← hF];unfold JCA seqR;simp
      obtain ⟨kf,cap,ha,hcap,hcal,hcl⟩:=hsq vs hvs;obtain ⟨r,hr,hm⟩:=J1b (fun x:AV=>x) o wayT;rw[ha] at hm
      cases r with
      | none=>exact hm.elim
      | some ix=>
        replace hm:(wayT.map fun x=>x.2).getD ix .dead=.fn (.func kf) [] cap:=hm;(refine kWQ ?_;repeat intro γ);refine Need.intro keyst9 ?_;refine kW ?_;refine LookP.intro (some ix) hr ?_;refine kW ?_;rw[hm]
        rcases hcap with rfl | ⟨x,rfl⟩
        all_goals
         (refine kWQ ?_;repeat intro γ);refine J00 [93] _ hcal (J0Z (congrArg (fun z=>J0u ev::z::_) (JJx rfl rfl)) hcl) ?_;rw[hF]
         rcases F with c | q | b
         all_goals
          (refine kWQ ?_;repeat intro γ);exact .of rfl
def capE (g3 g5 g8 g9:Nat):List AV:=[.op 3 g3 0 0,.op 5 g5 0 0,.op 8 g8 0 0,.op 9 g9 0 0]
theorem J1H {S:List Nat} {H:Hp} {n b g k e m:Nat} {y:AV} (hS:b∈S) (hb:H b=some (g,⟨e,m,[y]⟩)):J06 S H (n+1) (.op b g 0 k)=.ep (J0U (J06 S H n) y) k:=by
 simp only[J06,if_pos hS,hb,true_and];rfl
theorem J7N {S:List Nat} {H:Hp} (n:Nat) (ks vs:List AV):J0U (J06 S H n) (.mp ks vs)=.mp ks vs:=by cases n<;>rfl
theorem JDN {S:List Nat} {H:Hp} (n:Nat) (x:AV) (k:Nat):J0U (J06 S H n) (.ep x k)=.ep x k:=by cases n<;>rfl
theorem J8m {ks:List (ByteArray×Va)} {ev:Ev} {H:Hp} {g3 g5 g8 g9 a3 a5 a8 a9:Nat} (h3:H 3=some (g3,⟨a3,1,[encK ks]⟩)) (h5:H 5=some (g5,⟨a5,1,[J0u ev]⟩))
  (h8:H 8=some (g8,⟨a8,1,[.fn (.func 188) [] (capE g3 g5 g8 g9)]⟩)) (h9:H 9=some (g9,⟨a9,1,[wayM]⟩)) :
  ∀ n,J06 [3,5,8,9] H (2*n) (.fn (.func 188) [] (capE g3 g5 g8 g9))=evFn ks ev n
 | 0=>rfl
 | n+1=>by
   rw[show 2*(n+1)=2*n+1+1 by omega];show AV.fn _ [] [J06 _ _ (2*n+1) (.op 3 g3 0 0),J06 _ _ (2*n+1) (.op 5 g5 0 0),J06 _ _ (2*n+1) (.op 8 g8 0 0),J06 _ _ (2*n+1) (.op 9 g9 0 0)]=_
   rw[J1H (by simp) h3,J1H (by simp) h5,J1H (by simp) h8,J1H (by simp) h9];have:=J8m h3 h5 h8 h9 n;unfold encK wayM J0u at *;rw[J7N,JDN,J7N];rw[show J0U (J06 [3,5,8,9] H (2*n)) (.fn (.func 188) [] (capE g3 g5 g8 g9))=evFn ks ev n from this];rfl
theorem JJO {ks:List (ByteArray×Va)} {ev:Ev} {H:Hp} {g3 g5 g8 g9 a3 a5 a8 a9:Nat} (h3:H 3=some (g3,⟨a3,1,[encK ks]⟩)) (h5:H 5=some (g5,⟨a5,1,[J0u ev]⟩))
  (h8:H 8=some (g8,⟨a8,1,[.fn (.func 188) [] (capE g3 g5 g8 g9)]⟩)) (h9:H 9=some (g9,⟨a9,1,[wayM]⟩)) (n:Nat) (o t:ByteArray) (d:Int) (l:List AV) :
  (.agg [encS o,encS t,encI d,.sl 4 l]::capE g3 g5 g8 g9).map (J38 (2*n+1) [3,5,8,9] H)=[.agg [encS o,encS t,encI d,.sl 4 l],.ep (encK ks) 0,.ep (J0u ev) 0,.ep (evFn ks ev n) 0,.ep wayM 0]:=by
 have:=J8m h3 h5 h8 h9 n
 have d3:J38 (2*n+1) [3,5,8,9] H (.op 3 g3 0 0)=.ep (encK ks) 0:=by
  rw[show J38 (2*n+1) [3,5,8,9] H (.op 3 g3 0 0)=J06 [3,5,8,9] H (2*n+1) (.op 3 g3 0 0) from rfl,J1H (by simp) h3];unfold encK;rw[J7N]
 have d5:J38 (2*n+1) [3,5,8,9] H (.op 5 g5 0 0)=.ep (J0u ev) 0:=by
  rw[show J38 (2*n+1) [3,5,8,9] H (.op 5 g5 0 0)=J06 [3,5,8,9] H (2*n+1) (.op 5 g5 0 0) from rfl,J1H (by simp) h5];unfold J0u;rw[JDN]
 have d8:J38 (2*n+1) [3,5,8,9] H (.op 8 g8 0 0)=.ep (evFn ks ev n) 0:=by
  rw[show J38 (2*n+1) [3,5,8,9] H (.op 8 g8 0 0)=J06 [3,5,8,9] H (2*n+1) (.op 8 g8 0 0) from rfl,J1H (by simp) h8];exact congrArg (fun z=>AV.ep z 0) this
 have d9:J38 (2*n+1) [3,5,8,9] H (.op 9 g9 0 0)=.ep wayM 0:=by
  rw[show J38 (2*n+1) [3,5,8,9] H (.op 9 g9 0 0)=J06 [3,5,8,9] H (2*n+1) (.op 9 g9 0 0) from rfl,J1H (by simp) h9];unfold wayM;rw[J7N]
 unfold capE;simp only[List.map_cons,List.map_nil,d3,d5,d8,d9];rfl
theorem JFJ (ks:List (ByteArray×Va)) (ev:Ev) (he:EvOk ev) (e:Ex) (hz:SzE e) (hx:TxE e) (hb:builtF e=true) (ht:(typeF ks e).2=true) (hw:wtF e≤1000) :
  PureCall Tryz.prog 100 [encK ks,encE e,J0u ev] (J1S (evalF ks ev e)):=by
 refine PC [] Tryz.func100 rfl (by rfl) rfl ?_;have hc:=JGx ks ev he e hz hx hb ht hw (SizeOf.sizeOf e) (Nat.le_refl _);generalize evalF ks ev e=F at *;generalize SizeOf.sizeOf e=n at *;rw[J03] at hc ⊢;refine kWS ?_;intros;refine J00 [] _ c187 JHb ?_;refine kWS ?_;intros;refine JAY (2*n+1) [3,5,8,9] _ c188 (J0Z (JJO rfl rfl rfl rfl n _ _ _ _) hc) ?_
 rcases F with c | q | b
 all_goals
  refine kWS ?_;intros;exact .of rfl
structure Bd where
 use:U
 value:ByteArray
structure EnvA where
 time:ByteArray
 init:Bool
 binds:List Bd
def JCR (b:Bd):AV:=.agg [.val (.string b.use.name),.val (.int .i64 b.use.order),.val (.bool b.use.pre),encS b.value]
def J0c (e:EnvA):AV:=.agg [encS e.time,encB e.init,.sl 4 (e.binds.map JCR)]
def valV (s:ByteArray):Option Vl:=if s=sTrue∨s=sFalse then some (.tr (decide (s=sTrue))) else if (J0B s.data.toList).2 then some (.num (numV s)) else none
theorem JDi {s:ByteArray} {v:Vl} (h:valV s=some v):resV s=.tup [J04 v,encB true]:=by
 unfold valV at h;unfold resV;split at h
 ·rename_i h1;cases h;rw[if_pos h1];rfl
 ·rename_i h1;rw[if_neg h1];split at h
  ·rename_i h2;cases h;rw[h2,← (J3y h2).1];rfl
  ·cases h
theorem JDj {s:ByteArray} (h:valV s=none):∃ q,(q=nilQ∨∃ n d,q=encQ n d)∧resV s=.tup [J0j q false false,encB false]:=by
 unfold valV at h;unfold resV;split at h
 ·cases h
 ·rename_i h1;rw[if_neg h1];split at h
  ·cases h
  ·rename_i h2;exact ⟨_,J1k _,by rw[Bool.eq_false_iff.2 h2]⟩
theorem JHh {s:ByteArray} {v:Vl} (h:valV s=some v):v.sz≤300:=by
 unfold valV at h;split at h
 ·cases h;exact Nat.zero_le _
 ·split at h
  ·rename_i h2;cases h;exact (J3y h2).2
  ·cases h
def putV {β:Type} (l:List (U×β)) (k:U) (v:β):List (U×β):=match l with
 | []=>[(k,v)]
 | x::r=>if k=x.1 then (x.1,v)::r else x::putV r k v
theorem J58 {β:Type} (f:β→AV) (k:U) (v:β):∀ l:List (U×β),∃ r,J0t (J0h T 54 (encU k)) (l.map fun x=>encU x.1)=some r∧(match r with
  | some i=>(l.map fun x=>encU x.1)=((putV l k v).map fun x=>encU x.1)∧(l.map fun x=>f x.2).set i (f v)=(putV l k v).map fun x=>f x.2
  | none=>(l.map fun x=>encU x.1)++[encU k]=((putV l k v).map fun x=>encU x.1)∧(l.map fun x=>f x.2)++[f v]=(putV l k v).map fun x=>f x.2)
 | []=>⟨none,rfl,rfl,rfl⟩
 | x :: l=>by
   obtain ⟨r,h1,h2⟩:=J58 f k v l;rw[List.map_cons,List.map_cons];unfold J0t putV;rw[J8c]
   by_cases h:k=x.1
   ·rw[decide_eq_true h,if_pos h];exact ⟨some 0,rfl,rfl,rfl⟩
   ·rw[decide_eq_false h,if_neg h,h1];refine ⟨r.map (· + 1),rfl,?_⟩
    revert h2
    cases r with
    | none=>
      rintro ⟨h2,h3⟩;exact ⟨by rw[List.map_cons,← h2];rfl,by rw[List.map_cons,← h3];rfl⟩
    | some i=>
      rintro ⟨h2,h3⟩;exact ⟨by rw[List.map_cons,← h2],by rw[List.map_cons,← h3];rfl⟩
def J5B:Option U→U→Bool
 | none,_=>false
 | some q,u=>decide (0≤JAB q u)
def J2x:Option U→List Bd→List (U×Vl)→Option (List (U×Vl))
 | _,[],l=>some l
 | p,b::r,l=>match valV b.value with
   | none=>none
   | some v=>if !fitF b.use||J5B p b.use then none else J2x (some b.use) r (putV l b.use v)
def openF (e:EnvA):Option Ev:=if (J0B e.time.data.toList).2 then (J2x none e.binds []).map fun l=>⟨numV e.time,e.init,l⟩ else none
def JG1 (bs:List Bd) (i:Nat):Option U:=match i with
 | 0=>none
 | i+1=>bs[i]?.map Bd.use
def JIP:Option Ev→AV
 | some ev=>.tup [J0u ev,encB true]
 | none=>.tup [.val (.pointer none),encB false]
def hpO1 (g1 g2 gm:Nat) (e:EnvA) (t:Rat) (l:List (U×Vl)):List (Nat×Nat×Blk):=
 [(1,g1,⟨33,3,[J0c e]⟩),(15,g2,⟨269,6,[.agg [encB (decide (t.num<0)),encW t.num.natAbs,encB (decide ((t.den:Int)<0)),encW (t.den:Int).natAbs,encB e.init,.om 13 gm]]⟩),(13,gm,⟨267,0,[.mp (l.map fun x=>encU x.1) (l.map fun x=>J04 x.2)]⟩)]
theorem J5V {u:U} (h:fitF u=true):0≤u.order∧u.order≤6:=by
 unfold fitF at h;simp only[Bool.and_eq_true,decide_eq_true_eq] at h;exact h.1.2
theorem JFs {S:List Nat} {H:Hp} {n b g e m:Nat} {ks vs:List AV} (hS:b∈S) (hb:H b=some (g,⟨e,m,[.mp ks vs]⟩)):J06 S H (n+1) (.om b g)=.mp ks vs:=by
 simp only[J06,if_pos hS,hb,if_true]
structure SzB (e:EnvA):Prop where
 t:e.time.size<2^35
 l:e.binds.length≤2^30
 b:∀ b∈e.binds,b.use.name.size<2^35∧b.value.size<2^35
theorem JIk (e:EnvA) (hz:SzB e):PureCall Tryz.prog 141 [J0c e] (JIP (openF e)):=by
 refine PC [15,13] Tryz.func141 rfl (by rfl) rfl ?_;obtain ⟨tm,ini,bs⟩:=e;obtain ⟨hzt,hzl,hzb⟩:=hz;simp only at hzt hzl hzb;generalize hF:openF ⟨tm,ini,bs⟩=F;unfold openF at hF;have hpq:=J2W tm.data.toList hzt;rw[J18,JAu] at hpq;simp only at hF
 cases hok:(J0B tm.data.toList).2 with
 | false=>
   rw[hok] at hF hpq;have hq2:=J1k (J0B tm.data.toList).1;generalize qAV (J0B tm.data.toList).1=q at *;unfold J0c
   rcases hq2 with rfl | ⟨n,d,rfl⟩
   all_goals
    refine kWS ?_;intros;refine J00 [] _ c134 hpq ?_;refine kWS ?_;intros;exact .of (by rw[← hF];rfl)
 | true=>
   rw[← (J3y hok).1,hok] at hpq;rw[hok] at hF;generalize numV tm=t at *;replace hF:(J2x none bs []).map (fun l=>(⟨t,ini,l⟩:Ev))=F:=hF;unfold encF encQ at hpq;unfold J0c;refine kWS ?_;intros;refine J00 [] _ c134 hpq ?_;refine kWS ?_;intros
   refine LoopP.intro (fun j σ H=>∃ g1 g2 gm i,∃ l:List (U×Vl),j=bs.length-i∧i≤bs.length∧(∀ k (h:k<bs.length),k<i→fitF bs[k].use=true)∧(J2x (JG1 bs i) (bs.drop i) l).map (fun l=>(⟨t,ini,l⟩:Ev))=F ∧
    σ=fr [(1,.op 1 g1 0 0),(4,.op 15 g2 0 0),(29,.sl 4 (bs.map JCR)),(30,encI bs.length),(31,encI i)]∧H=hp (hpO1 g1 g2 gm ⟨tm,ini,bs⟩ t l)) ?_ ?_
   ·exact .intro <| W.of ⟨_,_,_,_,0,[],rfl,Nat.zero_le _,fun k _ h=>absurd h (by omega),hF,rfl,rfl⟩ ⟨rfl,rfl,rfl,(by rw[List.length_map];rfl),rfl,trivial⟩ ⟨rfl,rfl,rfl,trivial⟩
   ·clear hF;rintro j σ H ⟨g1,g2,gm,i,l,rfl,hi,hfit,hF,rfl,rfl⟩;unfold hpO1;simp only
    rcases Nat.lt_or_ge i bs.length with h9 | h9
    ·rw[List.drop_eq_getElem_cons h9] at hF;have hb:=hzb _ (List.getElem_mem h9)
     have hprev:JG1 bs (i+1)=some bs[i].use:=by
      show bs[i]?.map Bd.use=some _
      rw[List.getElem?_eq_getElem h9];rfl
     have hfx:∀ k (h:k<bs.length),k<i+1→fitF bs[i].use=true→fitF bs[k].use=true:=by
      intro k h hk hc
      rcases Nat.lt_or_ge k i with h | h
      ·exact hfit k _ h
      ·obtain rfl:k=i:=by omega
       exact hc
     obtain ⟨b,hbb⟩:∃ b,bs[i]=b:=⟨_,rfl⟩;rw[hbb] at hF hb hprev hfx;have hV:=J9Y b.value hb.2;have hFit:=JJl b.use hb.1;unfold J2x at hF
     cases hv:valV b.value with
     | none=>
       rw[hv] at hF;obtain ⟨q,hq,he⟩:=JDj hv;rw[he] at hV
       rcases hq with rfl | ⟨n,d,rfl⟩
       all_goals
        refine kWQ ?_;intros;simp only[hbb];refine kQ ?_;intros;refine J00 [] _ c112 hV ?_;refine kWQ ?_;intros;exact .of (by rw[← hF];rfl)
     | some v=>
       rw[hv] at hF;rw[JDi hv] at hV;replace hF:(if !fitF b.use||J5B (JG1 bs i) b.use then none else J2x (some b.use) (bs.drop (i+1)) (putV l b.use v)).map (fun l=>(⟨t,ini,l⟩:Ev))=F:=hF;have hb64:bs.length<2^62:=by omega
       rcases i with _ | i
       ·rcases v with q | x
        ·unfold J04 J0j encF encQ at hV;refine kWQ ?_;intros;simp only[hbb];refine kQ ?_;intros;refine J00 [] _ c112 hV ?_;refine kWQ ?_;intros;refine CallG.intro _ c81 hFit ?_
         cases hf:fitF b.use with
         | false=>
           rw[hf] at hF;refine kWQ ?_;intros;exact .of (by rw[← hF];rfl)
         | true=>
           rw[hf] at hF;replace hF:(J2x (some b.use) (bs.drop (0+1)) (putV l b.use (.num q))).map (fun l=>(⟨t,ini,l⟩:Ev))=F:=hF;refine kWO ?_;intros;refine J0y [(7,false),(8,true)] (by kernel_rfl) ?_;refine kWQ ?_;intros;refine Need.intro keyst54 ?_;refine kWQ ?_;intros;obtain ⟨r,hr,hm⟩:=J58 J04 b.use (.num q) l;refine LookP.intro r hr ?_
           cases r with
           | some j=>
             refine kWQ ?_;intros
             refine .intro <| W.of ⟨_,by omega,g1,g2,gm,0+1,putV l b.use (.num q),rfl,h9,fun k h hk=>hfx k h hk hf,(by rw[hprev];exact hF),rfl,rfl⟩ ⟨rfl,rfl,rfl,rfl,rfl,trivial⟩ ⟨rfl,rfl,?_,trivial⟩
             exact congrArg (fun z=>some (gm,(⟨267,0,[z]⟩:Blk))) (congr (congrArg AV.mp hm.1) hm.2)
           | none=>
             refine kWQ ?_;intros
             refine .intro <| W.of ⟨_,by omega,g1,g2,gm,0+1,putV l b.use (.num q),rfl,h9,fun k h hk=>hfx k h hk hf,(by rw[hprev];exact hF),rfl,rfl⟩ ⟨rfl,rfl,rfl,rfl,rfl,trivial⟩ ⟨rfl,rfl,?_,trivial⟩
             exact congrArg (fun z=>some (gm,(⟨267,0,[z]⟩:Blk))) (congr (congrArg AV.mp hm.1) hm.2)
        ·unfold J04 J0j at hV;refine kWQ ?_;intros;simp only[hbb];refine kQ ?_;intros;refine J00 [] _ c112 hV ?_;refine kWQ ?_;intros;refine CallG.intro _ c81 hFit ?_
         cases hf:fitF b.use with
         | false=>
           rw[hf] at hF;refine kWQ ?_;intros;exact .of (by rw[← hF];rfl)
         | true=>
           rw[hf] at hF;replace hF:(J2x (some b.use) (bs.drop (0+1)) (putV l b.use (.tr x))).map (fun l=>(⟨t,ini,l⟩:Ev))=F:=hF;refine kWO ?_;intros;refine J0y [(7,false),(8,true)] (by kernel_rfl) ?_;refine kWQ ?_;intros;refine Need.intro keyst54 ?_;refine kWQ ?_;intros;obtain ⟨r,hr,hm⟩:=J58 J04 b.use (.tr x) l;refine LookP.intro r hr ?_
           cases r with
           | some j=>
             refine kWQ ?_;intros
             refine .intro <| W.of ⟨_,by omega,g1,g2,gm,0+1,putV l b.use (.tr x),rfl,h9,fun k h hk=>hfx k h hk hf,(by rw[hprev];exact hF),rfl,rfl⟩ ⟨rfl,rfl,rfl,rfl,rfl,trivial⟩ ⟨rfl,rfl,?_,trivial⟩
             exact congrArg (fun z=>some (gm,(⟨267,0,[z]⟩:Blk))) (congr (congrArg AV.mp hm.1) hm.2)
           | none=>
             refine kWQ ?_;intros
             refine .intro <| W.of ⟨_,by omega,g1,g2,gm,0+1,putV l b.use (.tr x),rfl,h9,fun k h hk=>hfx k h hk hf,(by rw[hprev];exact hF),rfl,rfl⟩ ⟨rfl,rfl,rfl,rfl,rfl,trivial⟩ ⟨rfl,rfl,?_,trivial⟩
             exact congrArg (fun z=>some (gm,(⟨267,0,[z]⟩:Blk))) (congr (congrArg AV.mp hm.1) hm.2)
       ·have h8 : i<bs.length:=by omega
        have hpv:JG1 bs (i+1)=some bs[i].use:=by
         show bs[i]?.map Bd.use=some _
         rw[List.getElem?_eq_getElem h8];rfl
        have hfp:=J5V (hfit i h8 (by omega));rw[hpv] at hF;have hix:(((i+1:Nat):Int)-1).toNat=i:=by omega
        obtain ⟨pb,hpb⟩:∃ pb,bs[i]=pb:=⟨_,rfl⟩;rw[hpb] at hF hpv hfp;have hL:=JIp pb.use b.use hfp
        rcases v with q | x
        ·unfold J04 J0j encF encQ at hV;refine kWQ ?_;intros;simp only[hbb];refine kQ ?_;intros;refine J00 [] _ c112 hV ?_;refine kWQ ?_;intros;refine CallG.intro _ c81 hFit ?_
         cases hf:fitF b.use with
         | false=>
           rw[hf] at hF;refine kWQ ?_;intros;exact .of (by rw[← hF];rfl)
         | true=>
           rw[hf] at hF;have hL:=hL (J5V hf);refine kWQ ?_;intros;simp only[hix,hpb];refine CallG.intro _ c116 hL ?_
           cases hge:J5B (some pb.use) b.use with
           | true=>
             rw[hge] at hF;have hle:0≤JAB pb.use b.use:=of_decide_eq_true hge;refine kWQ ?_;intros;exact .of (by rw[← hF];rfl)
           | false=>
             rw[hge] at hF;have hle:¬ 0≤JAB pb.use b.use:=of_decide_eq_false hge;replace hF:(J2x (some b.use) (bs.drop (i+1+1)) (putV l b.use (.num q))).map (fun l=>(⟨t,ini,l⟩:Ev))=F:=hF;refine kWO ?_;intros;refine J0y [(7,false),(8,true)] (by kernel_rfl) ?_;refine kWQ ?_;intros;refine Need.intro keyst54 ?_;refine kWQ ?_;intros;obtain ⟨r,hr,hm⟩:=J58 J04 b.use (.num q) l;refine LookP.intro r hr ?_
             cases r with
             | some j=>
               refine kWQ ?_;intros
               refine .intro <| W.of ⟨_,by omega,g1,g2,gm,i+1+1,putV l b.use (.num q),rfl,h9,fun k h hk=>hfx k h hk hf,(by rw[hprev];exact hF),rfl,rfl⟩ ⟨rfl,rfl,rfl,rfl,rfl,trivial⟩ ⟨rfl,rfl,?_,trivial⟩
               exact congrArg (fun z=>some (gm,(⟨267,0,[z]⟩:Blk))) (congr (congrArg AV.mp hm.1) hm.2)
             | none=>
               refine kWQ ?_;intros
               refine .intro <| W.of ⟨_,by omega,g1,g2,gm,i+1+1,putV l b.use (.num q),rfl,h9,fun k h hk=>hfx k h hk hf,(by rw[hprev];exact hF),rfl,rfl⟩ ⟨rfl,rfl,rfl,rfl,rfl,trivial⟩ ⟨rfl,rfl,?_,trivial⟩
               exact congrArg (fun z=>some (gm,(⟨267,0,[z]⟩:Blk))) (congr (congrArg AV.mp hm.1) hm.2)
        ·unfold J04 J0j at hV;refine kWQ ?_;intros;simp only[hbb];refine kQ ?_;intros;refine J00 [] _ c112 hV ?_;refine kWQ ?_;intros;refine CallG.intro _ c81 hFit ?_
         cases hf:fitF b.use with
         | false=>
           rw[hf] at hF;refine kWQ ?_;intros;exact .of (by rw[← hF];rfl)
         | true=>
           rw[hf] at hF;have hL:=hL (J5V hf);refine kWQ ?_;intros;simp only[hix,hpb];refine CallG.intro _ c116 hL ?_
           cases hge:J5B (some pb.use) b.use with
           | true=>
             rw[hge] at hF;have hle:0≤JAB pb.use b.use:=of_decide_eq_true hge;refine kWQ ?_;intros;exact .of (by rw[← hF];rfl)
           | false=>
             rw[hge] at hF;have hle:¬ 0≤JAB pb.use b.use:=of_decide_eq_false hge;replace hF:(J2x (some b.use) (bs.drop (i+1+1)) (putV l b.use (.tr x))).map (fun l=>(⟨t,ini,l⟩:Ev))=F:=hF;refine kWO ?_;intros;refine J0y [(7,false),(8,true)] (by kernel_rfl) ?_;refine kWQ ?_;intros;refine Need.intro keyst54 ?_;refine kWQ ?_;intros;obtain ⟨r,hr,hm⟩:=J58 J04 b.use (.tr x) l;refine LookP.intro r hr ?_
             cases r with
             | some j=>
               refine kWQ ?_;intros
               refine .intro <| W.of ⟨_,by omega,g1,g2,gm,i+1+1,putV l b.use (.tr x),rfl,h9,fun k h hk=>hfx k h hk hf,(by rw[hprev];exact hF),rfl,rfl⟩ ⟨rfl,rfl,rfl,rfl,rfl,trivial⟩ ⟨rfl,rfl,?_,trivial⟩
               exact congrArg (fun z=>some (gm,(⟨267,0,[z]⟩:Blk))) (congr (congrArg AV.mp hm.1) hm.2)
             | none=>
               refine kWQ ?_;intros
               refine .intro <| W.of ⟨_,by omega,g1,g2,gm,i+1+1,putV l b.use (.tr x),rfl,h9,fun k h hk=>hfx k h hk hf,(by rw[hprev];exact hF),rfl,rfl⟩ ⟨rfl,rfl,rfl,rfl,rfl,trivial⟩ ⟨rfl,rfl,?_,trivial⟩
               exact congrArg (fun z=>some (gm,(⟨267,0,[z]⟩:Blk))) (congr (congrArg AV.mp hm.1) hm.2)
    ·obtain rfl:i=bs.length:=by omega
     rw[List.drop_length] at hF;replace hF:some (⟨t,ini,l⟩:Ev)=F:=by rw[← hF];unfold J2x;rfl
     refine kWQ ?_;intros;refine .of ?_;rw[← hF];refine (congrArg (fun z=>AV.tup [z,encB true]) ((J1H (by simp) rfl).trans ?_));show AV.ep (.agg [_,_,_,_,_,J06 [15,13] _ 2 (.om 13 gm)]) 0=_
     rw[JFs (by simp) rfl];rfl
theorem JAw {u:U} {v:Vl}:∀ {l:List (U×Vl)} {x:U×Vl},x∈putV l u v→x.2=v∨x∈l
 | [],x,h=>by simp only[putV,List.mem_cons,List.not_mem_nil,or_false] at h;subst h;exact .inl rfl
 | y :: l,x,h=>by
   unfold putV at h;split at h
   ·rcases List.mem_cons.1 h with rfl | h
    ·exact .inl rfl
    ·exact .inr (List.mem_cons_of_mem _ h)
   ·rcases List.mem_cons.1 h with rfl | h
    ·exact .inr List.mem_cons_self
    ·rcases JAw h with h | h
     ·exact .inl h
     ·exact .inr (List.mem_cons_of_mem _ h)
theorem JB3:∀ {bs:List Bd} {p:Option U} {l r:List (U×Vl)},J2x p bs l=some r→(∀ x∈l,x.2.sz≤300)→∀ x∈r,x.2.sz≤300
 | [],p,l,r,h,hl=>by unfold J2x at h;cases h;exact hl
 | b :: bs,p,l,r,h,hl=>by
   unfold J2x at h;split at h
   ·cases h
   ·rename_i v hv;split at h
    ·cases h
    ·refine JB3 h fun x hx=>?_
     rcases JAw hx with e | hx
     ·rw[e];exact JHh hv
     ·exact hl x hx
theorem JG5 {e:EnvA} {ev:Ev} (h:openF e=some ev):EvOk ev:=by
 unfold openF at h;split at h
 ·rename_i h1
  cases ho:J2x none e.binds [] with
  | none=>rw[ho] at h;cases h
  | some l=>
    rw[ho] at h;cases h;exact ⟨(J3y h1).2,JB3 ho fun x hx=>by cases hx⟩
 ·cases h
def openS (e:EnvA):Except Int Ev:=if 1000<e.binds.length then .error 2 else match openF e with
 | none=>.error 1
 | some ev=>.ok ev
def JK5:Except Int Ev→AV
 | .ok ev=>.tup [J0u ev,encI 0]
 | .error c=>.tup [.val (.pointer none),encI c]
theorem JBX (e:EnvA) (hz:SzB e):PureCall Tryz.prog 67 [J0c e] (JK5 (openS e)):=by
 refine PC [] Tryz.func67 rfl (by rfl) rfl ?_;have ho:=JIk e hz;have hl:=hz.l;generalize hF:openS e=F;unfold openS at hF;generalize openF e=oe at *;unfold J0c at *;have hml:=@List.length_map _ _ e.binds JCR;refine kWQ ?_;intros;refine CondP.dec (fun h1=>?_) (fun h1=>?_)<;>refine kW ?_
 ·rw[if_pos (by first | omega | (rw[List.length_map] at h1;omega))] at hF;refine kQ ?_;intros;exact .of (by rw[← hF];rfl)
 ·rw[if_neg (by first | omega | (rw[List.length_map] at h1;omega))] at hF;refine kQ ?_;intros;refine J00 [] _ c141 ho ?_
  cases oe with
  | none=>
    refine kWQ ?_;intros;exact .of (by rw[← hF];rfl)
  | some ev=>
    refine kWQ ?_;intros;exact .of (by rw[← hF];rfl)
def typeS (s:Sys) (x:Ex):Int×Int:=if checkF s≠0 then (0,checkF s) else if tooF x then (0,2) else if !builtF x then (0,1) else if (typeF (knownF s.vars) x).2 then ((typeF (knownF s.vars) x).1,0) else (0,1)
theorem JGu (s:Sys) (x:Ex) (hs:SzS s) (hz:SzE x) (hx:TxE x):PureCall Tryz.prog 48 [J0Y s,encE x] (.tup [encI (typeS s x).1,encI (typeS s x).2]):=by
 refine PC [] Tryz.func48 rfl (by rfl) rfl ?_;have hc:=J8C s hs;have ht:=J64 x hz;have hb:=JBc x hz hx;have hk:=J4Z s hs.v;have hT:=JF5 (knownF s.vars) x hz;generalize hF:typeS s x=F;unfold typeS at hF;generalize checkF s=ck at *;generalize tooF x=tl at *;generalize typeF (knownF s.vars) x=ty at *;generalize knownF s.vars=ks at *;obtain ⟨vs,qs,ns,ws⟩:=s;rw[J03] at *;unfold J0Y at *;simp only at *;refine kWQ ?_;intros;refine CallP.flat [] _ c89 hc rfl ?_
 by_cases h0:ck=0
 case' neg=>
  rw[if_pos h0] at hF;refine kWQ ?_;intros;exact .of (by rw[← hF];rfl)
 rw[if_neg (by simp[h0])] at hF;refine kWQ ?_;intros;refine CallP.flat [] _ c83 ht rfl ?_
 cases tl with
 | true=>
   refine kWQ ?_;intros;exact .of (by rw[← hF];rfl)
 | false=>
   refine kWQ ?_;intros;refine CallP.flat [] _ c123 hb rfl ?_
   cases hbb:builtF x with
   | false=>
     rw[hbb] at hF;refine kWQ ?_;intros;exact .of (by rw[← hF];rfl)
   | true=>
     rw[hbb] at hF;have hT:=hT hbb;obtain ⟨t,b⟩:=ty;refine kWQ ?_;intros;refine CallG.intro _ c99 hk ?_;refine kWQ ?_;intros;refine CallG.intro _ c124 hT ?_
     cases b with
     | false=>
       refine kWQ ?_;intros;exact .of (by rw[← hF];rfl)
     | true=>
       refine kWQ ?_;intros;exact .of (by rw[← hF];rfl)
theorem JFm {s:Sys} {x:Ex} (h:(typeS s x).2=0):checkF s=0∧tooF x=false∧builtF x=true∧(typeF (knownF s.vars) x).2=true∧(typeS s x).1=(typeF (knownF s.vars) x).1:=by
 unfold typeS at *;split at h
 ·rename_i h1;exact absurd h h1
 ·rename_i h1;split at h
  ·cases h
  ·rename_i h2;split at h
   ·cases h
   ·rename_i h3;split at h
    ·rename_i h4;refine ⟨Classical.not_not.1 h1,Bool.eq_false_iff.2 h2,by simpa using h3,h4,?_⟩;rw[if_neg h1,if_neg h2,if_neg h3,if_pos h4]
    ·cases h
theorem J9u {x:Ex} (h:tooF x=false):wtF x≤200:=by
 unfold tooF at h;have h1:=of_decide_eq_false h;have:=JB6 24 x 200;omega
def outV:Except Int Vl→ByteArray×Int
 | .error c=>(⟨#[]⟩,c)
 | .ok v=>if shortV v then (strV v,0) else (⟨#[]⟩,2)
def JCQ (s:Sys) (x:Ex) (e:EnvA):ByteArray×Int:=if (typeS s x).2≠0 then (⟨#[]⟩,(typeS s x).2) else match openS e with
 | .error c=>(⟨#[]⟩,c)
 | .ok ev=>outV (evalF (knownF s.vars) ev x)
def JK4 (p:ByteArray×Int):AV:=.tup [encS p.1,encI p.2]
theorem J7W {e:EnvA} {ev:Ev} (h:openS e=.ok ev):EvOk ev:=by
 unfold openS at h;split at h
 ·cases h
 ·split at h
  ·cases h
  ·rename_i ev' h';cases h;exact JG5 h'
theorem J5A {e:EnvA} {c:Int} (h:openS e=.error c):c=1∨c=2:=by
 unfold openS at h;split at h
 ·cases h;exact .inr rfl
 ·split at h
  ·cases h;exact .inl rfl
  ·cases h
theorem J8A (s:Sys) (x:Ex) (e:EnvA) (hs:SzS s) (hz:SzE x) (hx:TxE x) (he:SzB e):PureCall Tryz.prog 38 [J0Y s,encE x,J0c e] (JK4 (JCQ s x e)):=by
 refine PC [] Tryz.func38 rfl (by rfl) rfl ?_;have hT:=JGu s x hs hz hx;have hO:=JBX e he;have hk:=J4Z s hs.v;generalize hF:JCQ s x e=F;unfold JCQ at hF;have hty:=@JFm s x;have hev:=@J7W e;have her:=@J5A e;generalize typeS s x=ty at *;obtain ⟨t,c⟩:=ty;generalize hks:knownF s.vars=ks at *;obtain ⟨vs,qs,ns,ws⟩:=s;generalize openS e=oe at *;have hE:=fun ev he hb ht hw=>JFJ ks ev he x hz hx hb ht hw;have hsz:=fun ev he hb v h=>@J3J ks ev he x hb v h;have hec:=fun ev hb ht c h=>@J2N ks ev x hb ht c h;rw[J03] at *;unfold J0Y J0c at *;simp only at *;refine kWQ ?_;intros;refine J00 [] _ c48 hT ?_
 by_cases h0:c=0
 case' neg=>
  rw[if_pos h0] at hF;refine kWQ ?_;intros;exact .of (by rw[← hF];rfl)
 subst h0;rw[if_neg (by simp)] at hF;obtain ⟨hck,htl,hbb,htt,_⟩:=hty rfl;have hwt:=J9u htl;refine kWQ ?_;intros;refine J00 [] _ c67 hO ?_
 cases oe with
 | error c=>
   have hc:¬ c=0:=by rcases her rfl with rfl | rfl<;>decide
   refine kWQ ?_;intros;exact .of (by rw[← hF];rfl)
 | ok ev =>
   have hev:=hev rfl;have hE:=hE ev hev hbb htt (by omega);have hsz:=hsz ev hev hbb;have hec:=hec ev hbb htt;replace hF:outV (evalF ks ev x)=F:=hF;generalize evalF ks ev x=r at *;refine kWQ ?_;intros;refine CallG.intro _ c99 hk ?_;refine kWQ ?_;intros;refine CallG.intro _ c100 hE ?_
   cases r with
   | error c=>
     have hc:=(hec c rfl).ne;refine kWQ ?_;intros;exact .of (by rw[← hF];rfl)
   | ok v=>
     have hsz:=hsz v rfl;have hS:=J9T v (by omega);have hR:=J7A v (by omega);replace hF:(if shortV v then (strV v,0) else (⟨#[]⟩,2))=F:=hF;generalize shortV v=sv at *;generalize strV v=str at *
     rcases v with q | b
     all_goals
      unfold J04 J0j at hS hR
      try unfold encF encQ at hS hR
      unfold J1S J04 J0j
      try unfold encF encQ
      refine kWQ ?_;intros;refine CallP.flat [] _ c101 hS rfl ?_
      cases sv with
      | false=>
        refine kWQ ?_;intros;exact .of (by rw[← hF];rfl)
      | true=>
        refine kWQ ?_;intros;refine CallP.flat [] _ c102 hR rfl ?_;refine kWQ ?_;intros;exact .of (by rw[← hF];rfl)
end Go.Proofs.YtlblbldolhiokaaGreatDoor
namespace Go.Proofs
open Go.Shelf
def Tryz.lays169_ren:Go.Shelf.Ren:=⟨fun | 169=>287 | n=>n,fun | 70=>312 | 9=>9 | 0=>0 | 72=>314 | 37=>283 | 127=>355 | 3=>3 | 5=>5 | n=>n,fun | n=>n⟩
theorem J9P:Go.Proofs.Lays.n169 Tryz.prog Tryz.lays169_ren:={
 mixed:=by kernel_rfl
 f169:=Tryz.func287.trans (congrArg some (by kernel_rfl))
 t0:=Tryz.underlying0
 a0:=Tryz.isAgg0
 z0:=Tryz.sizeOf0
 v0:=Tryz.zeroValue0
 t3:=Tryz.underlying3
 a3:=Tryz.isAgg3
 z3:=Tryz.sizeOf3
 v3:=Tryz.zeroValue3
 t9:=Tryz.underlying9
 a9:=Tryz.isAgg9
 z9:=Tryz.sizeOf9
 v9:=Tryz.zeroValue9
 t37:=Tryz.underlying283
 a37:=Tryz.isAgg283
 z37:=Tryz.sizeOf283
 v37:=Tryz.zeroValue283
 t70:=Tryz.underlying312
 a70:=Tryz.isAgg312
 z70:=Tryz.sizeOf312
 v70:=Tryz.zeroValue312
 t72:=Tryz.underlying314
 a72:=Tryz.isAgg314
 z72:=Tryz.sizeOf314
 v72:=Tryz.zeroValue314
 t127:=Tryz.underlying355
 a127:=Tryz.isAgg355
 z127:=Tryz.sizeOf355
 v127:=Tryz.zeroValue355 }
theorem J2A:Builder.Extra Tryz.prog Tryz.lays169_ren:={
 sizeBuilder:=by kernel_rfl
 liesBuilder:=by kernel_rfl
 t5:=Tryz.underlying5
 a5:=Tryz.isAgg5
 z5:=Tryz.sizeOf5
 v5:=Tryz.zeroValue5
 infoByte:=by kernel_rfl
 cellsByte:=by kernel_rfl
 sizeByte:=by kernel_rfl
 neB5:=by decide }
def Tryz.lays156_ren:Go.Shelf.Ren:=⟨fun | 156=>212 | 165=>299 | 166=>283 | 169=>287 | 240=>331 | 241=>349 | 276=>368 | 277=>374 | n=>n,fun | 31=>39 | 9=>9 | 3=>3 | 4=>4 | 0=>0 | 20=>20 | 72=>314 | 76=>317 | 70=>312 | 37=>283 | 75=>316 | 127=>355 | 164=>391 | 5=>5 | 80=>128 | n=>n,fun | n=>n⟩
theorem J0x:Go.Proofs.Lays.n156 Tryz.prog Tryz.lays156_ren:={
 mixed:=by kernel_rfl
 f156:=Tryz.func212.trans (congrArg some (by kernel_rfl))
 f165:=Tryz.func299.trans (congrArg some (by kernel_rfl))
 f166:=Tryz.func283.trans (congrArg some (by kernel_rfl))
 f169:=Tryz.func287.trans (congrArg some (by kernel_rfl))
 f240:=Tryz.func331.trans (congrArg some (by kernel_rfl))
 f241:=Tryz.func349.trans (congrArg some (by kernel_rfl))
 f276:=Tryz.func368.trans (congrArg some (by kernel_rfl))
 f277:=Tryz.func374.trans (congrArg some (by kernel_rfl))
 t0:=Tryz.underlying0
 a0:=Tryz.isAgg0
 z0:=Tryz.sizeOf0
 v0:=Tryz.zeroValue0
 t3:=Tryz.underlying3
 a3:=Tryz.isAgg3
 z3:=Tryz.sizeOf3
 v3:=Tryz.zeroValue3
 t4:=Tryz.underlying4
 a4:=Tryz.isAgg4
 z4:=Tryz.sizeOf4
 v4:=Tryz.zeroValue4
 t9:=Tryz.underlying9
 a9:=Tryz.isAgg9
 z9:=Tryz.sizeOf9
 v9:=Tryz.zeroValue9
 t20:=Tryz.underlying20
 a20:=Tryz.isAgg20
 z20:=Tryz.sizeOf20
 v20:=Tryz.zeroValue20
 t31:=Tryz.underlying39
 a31:=Tryz.isAgg39
 z31:=Tryz.sizeOf39
 v31:=Tryz.zeroValue39
 t37:=Tryz.underlying283
 a37:=Tryz.isAgg283
 z37:=Tryz.sizeOf283
 v37:=Tryz.zeroValue283
 t70:=Tryz.underlying312
 a70:=Tryz.isAgg312
 z70:=Tryz.sizeOf312
 v70:=Tryz.zeroValue312
 t72:=Tryz.underlying314
 a72:=Tryz.isAgg314
 z72:=Tryz.sizeOf314
 v72:=Tryz.zeroValue314
 t75:=Tryz.underlying316
 a75:=Tryz.isAgg316
 z75:=Tryz.sizeOf316
 v75:=Tryz.zeroValue316
 t76:=Tryz.underlying317
 a76:=Tryz.isAgg317
 z76:=Tryz.sizeOf317
 v76:=Tryz.zeroValue317
 t127:=Tryz.underlying355
 a127:=Tryz.isAgg355
 z127:=Tryz.sizeOf355
 v127:=Tryz.zeroValue355
 t164:=Tryz.underlying391
 a164:=Tryz.isAgg391
 z164:=Tryz.sizeOf391
 v164:=Tryz.zeroValue391 }
theorem J0O:Builder.Extra Tryz.prog Tryz.lays156_ren:={
 sizeBuilder:=by kernel_rfl
 liesBuilder:=by kernel_rfl
 t5:=Tryz.underlying5
 a5:=Tryz.isAgg5
 z5:=Tryz.sizeOf5
 v5:=Tryz.zeroValue5
 infoByte:=by kernel_rfl
 cellsByte:=by kernel_rfl
 sizeByte:=by kernel_rfl
 neB5:=by decide }
def Tryz.lays105_ren:Go.Shelf.Ren:=⟨fun | 105=>211 | 212=>298 | 99=>201 | 165=>299 | 166=>283 | 170=>300 | 169=>287 | 263=>347 | 264=>348 | 206=>293 | 240=>331 | 241=>349 | 276=>368 | 277=>374 | n=>n,fun | 9=>9 | 3=>3 | 4=>4 | 20=>20 | 0=>0 | 46=>239 | 109=>326 | 5=>5 | 72=>314 | 76=>317 | 51=>285 | 146=>366 | 53=>274 | 148=>368 | 70=>312 | 37=>283 | 75=>316 | 127=>355 | 164=>391 | 80=>128 | n=>n,fun | n=>n⟩
theorem J9Q:Go.Proofs.Lays.n105 Tryz.prog Tryz.lays105_ren:={
 mixed:=by kernel_rfl
 f99:=Tryz.func201.trans (congrArg some (by kernel_rfl))
 f105:=Tryz.func211.trans (congrArg some (by kernel_rfl))
 f165:=Tryz.func299.trans (congrArg some (by kernel_rfl))
 f166:=Tryz.func283.trans (congrArg some (by kernel_rfl))
 f169:=Tryz.func287.trans (congrArg some (by kernel_rfl))
 f170:=Tryz.func300.trans (congrArg some (by kernel_rfl))
 f206:=Tryz.func293.trans (congrArg some (by kernel_rfl))
 f212:=Tryz.func298.trans (congrArg some (by kernel_rfl))
 f240:=Tryz.func331.trans (congrArg some (by kernel_rfl))
 f241:=Tryz.func349.trans (congrArg some (by kernel_rfl))
 f263:=Tryz.func347.trans (congrArg some (by kernel_rfl))
 f264:=Tryz.func348.trans (congrArg some (by kernel_rfl))
 f276:=Tryz.func368.trans (congrArg some (by kernel_rfl))
 f277:=Tryz.func374.trans (congrArg some (by kernel_rfl))
 t0:=Tryz.underlying0
 a0:=Tryz.isAgg0
 z0:=Tryz.sizeOf0
 v0:=Tryz.zeroValue0
 t3:=Tryz.underlying3
 a3:=Tryz.isAgg3
 z3:=Tryz.sizeOf3
 v3:=Tryz.zeroValue3
 t4:=Tryz.underlying4
 a4:=Tryz.isAgg4
 z4:=Tryz.sizeOf4
 v4:=Tryz.zeroValue4
 t5:=Tryz.underlying5
 a5:=Tryz.isAgg5
 z5:=Tryz.sizeOf5
 v5:=Tryz.zeroValue5
 t9:=Tryz.underlying9
 a9:=Tryz.isAgg9
 z9:=Tryz.sizeOf9
 v9:=Tryz.zeroValue9
 t20:=Tryz.underlying20
 a20:=Tryz.isAgg20
 z20:=Tryz.sizeOf20
 v20:=Tryz.zeroValue20
 t37:=Tryz.underlying283
 a37:=Tryz.isAgg283
 z37:=Tryz.sizeOf283
 v37:=Tryz.zeroValue283
 t46:=Tryz.underlying239
 a46:=Tryz.isAgg239
 z46:=Tryz.sizeOf239
 v46:=Tryz.zeroValue239
 t51:=Tryz.underlying285
 a51:=Tryz.isAgg285
 z51:=Tryz.sizeOf285
 v51:=Tryz.zeroValue285
 t53:=Tryz.underlying274
 a53:=Tryz.isAgg274
 z53:=Tryz.sizeOf274
 v53:=Tryz.zeroValue274
 t70:=Tryz.underlying312
 a70:=Tryz.isAgg312
 z70:=Tryz.sizeOf312
 v70:=Tryz.zeroValue312
 t72:=Tryz.underlying314
 a72:=Tryz.isAgg314
 z72:=Tryz.sizeOf314
 v72:=Tryz.zeroValue314
 t75:=Tryz.underlying316
 a75:=Tryz.isAgg316
 z75:=Tryz.sizeOf316
 v75:=Tryz.zeroValue316
 t76:=Tryz.underlying317
 a76:=Tryz.isAgg317
 z76:=Tryz.sizeOf317
 v76:=Tryz.zeroValue317
 t109:=Tryz.underlying326
 a109:=Tryz.isAgg326
 z109:=Tryz.sizeOf326
 v109:=Tryz.zeroValue326
 t127:=Tryz.underlying355
 a127:=Tryz.isAgg355
 z127:=Tryz.sizeOf355
 v127:=Tryz.zeroValue355
 t146:=Tryz.underlying366
 a146:=Tryz.isAgg366
 z146:=Tryz.sizeOf366
 v146:=Tryz.zeroValue366
 t148:=Tryz.underlying368
 a148:=Tryz.isAgg368
 z148:=Tryz.sizeOf368
 v148:=Tryz.zeroValue368
 t164:=Tryz.underlying391
 a164:=Tryz.isAgg391
 z164:=Tryz.sizeOf391
 v164:=Tryz.zeroValue391 }
theorem J2B:Builder.Extra Tryz.prog Tryz.lays105_ren:={
 sizeBuilder:=by kernel_rfl
 liesBuilder:=by kernel_rfl
 t5:=Tryz.underlying5
 a5:=Tryz.isAgg5
 z5:=Tryz.sizeOf5
 v5:=Tryz.zeroValue5
 infoByte:=by kernel_rfl
 cellsByte:=by kernel_rfl
 sizeByte:=by kernel_rfl
 neB5:=by decide }
end Go.Proofs
namespace Go.Proofs.YtlblbldolhiokaaGreatDoor
open Go Go.Fw Go.RowKit
def joinB (l:List ByteArray) (sep:ByteArray):ByteArray:=⟨(Lib.join (l.map (·.data.toList)) sep.data.toList).toArray⟩
def repB (s:ByteArray) (n:Nat):ByteArray:=⟨(Lib.repeatL s.data.toList n).toArray⟩
theorem JFE (l:List ByteArray) (sep:ByteArray) (hl:l.length≤2^40) (hs:(joinB l sep).size≤140737488355328):PureCall Tryz.prog 212 [.sl 1 (l.map encS),encS sep] (encS (joinB l sep)):=by
 intro O w vs hO hv;obtain ⟨hlen,hr⟩:=hv;obtain ⟨vl⟩:=vs
 rcases vl with _ | ⟨a,_ | ⟨b,_ | ⟨c,r⟩⟩⟩<;>simp at hlen
 have h0:=hr 0 (by simp) (by simp);have h1:=hr 1 (by simp) (by simp);simp only[List.getElem_cons_zero,List.getElem_cons_succ,List.getElem_toArray] at h0 h1;cases h1;have fin:∀ {e:Ending} {w':World},(e=.returned (.string (joinB l sep))∧Below w.heap.size w w')→∃ v,e=.returned v∧VR KM.empty w' O (encS (joinB l sep)) v∧Below w.heap.size w w':=fun ⟨he,hb⟩=>⟨_,he,.val _ rfl,hb⟩;generalize hL:l.map encS=L at h0
 cases h0 with
 | slnil n=>
   obtain rfl:l=[]:=List.map_eq_nil_iff.1 hL;exact (Any.strings_Join_none J0x J0O none 0 sep w).mono fun e w' ⟨he,hw⟩=>fin ⟨he,hw ▸ Below.refl _ _⟩
 | slemp n a=>
   obtain rfl:l=[]:=List.map_eq_nil_iff.1 hL;exact (Any.strings_Join_none J0x J0O (some a) 0 sep w).mono fun e w' ⟨he,hw⟩=>fin ⟨he,hw ▸ Below.refl _ _⟩
 | sl n xs c o cap f hcap hO' hblk hcl hcell hrel hpl=>
   subst hL;obtain ⟨A,e,z,hb,hs'⟩:=hblk
   have:=Any.strings_Join J0x J0O c o cap l sep w (fun j x hx=>by
    obtain ⟨hj,rfl⟩:=List.getElem?_eq_some_iff.1 hx;have h2:=hcell j (by simpa using hj) 0 Nat.one_pos;have h3:=hrel j (by simpa using hj) 0 (by simp[AV.cells,encS]);have e1:((l.map encS)[j]'(by simpa using hj)).cells[0]'(by simp[AV.cells,encS])=encS l[j]:=by simp[AV.cells,encS]
    rw[e1] at h3
    have h4:f j 0=.string l[j]:=by
     generalize f j 0=v at h3;cases h3;rfl
    rw[h4] at h2
    simpa using h2) (Array.getElem?_eq_some_iff.1 hb).1 (by omega) (by simpa using hcap) (by simpa [joinB,ByteArray.size] using hs)
   have hlm:(l.map encS).length=l.length:=List.length_map ..;rw[hlm];exact this.mono fun e w' h=>fin h
theorem JF9 (s:ByteArray) (n:Nat) (hn:n≤2^62) (hs:s.size*n≤140737488355328):PureCall Tryz.prog 211 [encS s,encI n] (encS (repB s n)):=by
 intro O w vs hO hv;obtain ⟨hlen,hr⟩:=hv;obtain ⟨vl⟩:=vs
 rcases vl with _ | ⟨a,_ | ⟨b,_ | ⟨c,r⟩⟩⟩<;>simp at hlen
 have h0:=hr 0 (by simp) (by simp);have h1:=hr 1 (by simp) (by simp);simp only[List.getElem_cons_zero,List.getElem_cons_succ,List.getElem_toArray] at h0 h1;cases h0;cases h1;exact (Any.strings_Repeat J9Q J2B s n w (by omega) hs).mono fun e w' ⟨he,hb⟩=>⟨_,he,.val _ rfl,hb⟩
end Go.Proofs.YtlblbldolhiokaaGreatDoor
namespace Go.Proofs.YtlblbldolhiokaaGreatDoor
open Go Go.Fw
def JFu (o t:ByteArray) (n:Int) (rs:List ByteArray):ByteArray:=
 if o=oNum then t
 else if o=oVar then (if n=0 then b1 64++t else b1 64++t++b1 58++repB (b1 39) n.toNat)
 else if o=oPre then ⟨#[112,114,101,64]⟩++t
 else match rs with
  | []=>o
  | r::l=>o++b1 40++joinB (r::l) (b1 59)++b1 41
mutual
def showF:Ex→ByteArray
 | .mk o t n es=>JFu o t n (JHs es)
def JHs:List Ex→List ByteArray
 | []=>[]
 | e::es=>showF e::JHs es
end
theorem J8N:∀ es:List Ex,JHs es=es.map showF
 | []=>rfl
 | e::es=>by rw[List.map_cons,← J8N es];rfl
theorem JAm (e:Ex):showF e=JFu e.op e.text e.order (e.kids.map showF):=by
 cases e with
 | mk o t n es=>rw[← J8N];rfl
theorem J07 (a b:ByteArray):(a++b).size=a.size+b.size:=ByteArray.size_append
theorem J8U (s:ByteArray) (n:Nat):(repB s n).size=s.size*n:=by
 show (Lib.repeatL s.data.toList n).toArray.size=_
 rw[List.size_toArray]
 have:∀ n,(Lib.repeatL s.data.toList n).length=s.data.toList.length*n:=by
  intro n
  induction n with
  | zero=>rfl
  | succ n ih=>unfold Lib.repeatL;rw[List.length_append,ih,Nat.mul_succ];omega
 rw[this n,Array.length_toList];rfl
theorem J4C (sep:List UInt8):∀ r:List (List UInt8),(Lib.joinTail sep r).length=(r.map fun x=>sep.length+x.length).sum
 | []=>rfl
 | x::r=>by
   have:=J4C sep r;unfold Lib.joinTail at *;simp only[List.map_cons,List.flatten_cons,List.length_append,List.sum_cons,this]
def szB (l:List ByteArray):Nat:=(l.map ByteArray.size).sum
theorem J2g (l:List ByteArray) (sep:ByteArray):(joinB l sep).size≤szB l+l.length*sep.size:=by
 show (Lib.join _ _).toArray.size≤_
 cases l with
 | nil=>simp[Lib.join_nil]
 | cons x r=>
   rw[List.map_cons,Lib.join_cons,List.size_toArray,List.length_append,J4C]
   have key:∀ r:List ByteArray,((r.map (·.data.toList)).map fun x=>sep.data.toList.length+x.length).sum≤szB r+r.length*sep.size:=by
    intro r
    induction r with
    | nil=>simp[szB]
    | cons y r ih=>
      unfold szB at *;simp only[List.map_cons,List.sum_cons,List.length_cons,Nat.succ_mul] at *;have e1:y.data.toList.length=y.size:=Array.length_toList;have e2:sep.data.toList.length=sep.size:=Array.length_toList;omega
   have:=key r;have e1:x.data.toList.length=x.size:=Array.length_toList;have e2:szB (x::r)=x.size+szB r:=rfl;rw[List.length_cons,Nat.succ_mul];omega
theorem JHA {es:List Ex} {C:Nat} (h:∀ k∈es,(showF k).size+1≤C*wtF k):szB (es.map showF)+es.length≤C*wtL es:=by
 induction es with
 | nil=>simp[szB]
 | cons e es ih=>
   have a:=h e (by simp);have b:=ih fun k hk=>h k (by simp[hk]);unfold szB at *;simp only[List.map_cons,List.sum_cons,List.length_cons] at *;unfold wtL;rw[Nat.mul_add];omega
theorem JDr {e:Ex} (hb:builtF e=true):e.op.size≤8:=by
 have hl:=(J0D hb).1;unfold J1E at hl;split at hl
 ·rename_i h;rcases h with h | h<;>rw[h]<;>decide
 ·split at hl
  ·rename_i h;rcases h with h | h<;>rw[h]<;>decide
  ·split at hl
   ·rename_i h;rw[h];decide
   ·split at hl
    ·omega
    ·rename_i x hx
     rcases JDU hx with h | ⟨h,_⟩ | ⟨h,_⟩ | ⟨h,_⟩ | ⟨h,_⟩ | ⟨h,_⟩ | ⟨h,_⟩ | ⟨h,_⟩ | ⟨h,_⟩
     ·rw[h];decide
     ·rcases h with h | h<;>rw[h]<;>decide
     ·rw[h];decide
     ·rcases h with h | h | h<;>rw[h]<;>decide
     ·rw[h];decide
     ·rw[h];decide
     ·rw[h];decide
     ·rcases h with h | h | h | h<;>rw[h]<;>decide
     ·rcases h with h | h | h | h<;>rw[h]<;>decide
theorem JB0 {e:Ex} (hb:builtF e=true) (h:e.op=oVar):0≤e.order∧e.order≤6:=by
 have hx:textF e=true:=by rw[J1T] at hb;simp only[Bool.and_eq_true] at hb;exact hb.1.1.2
 unfold textF at hx;rw[if_neg (by rw[h];decide),if_pos h] at hx;simp only[Bool.and_eq_true,decide_eq_true_eq] at hx;exact ⟨hx.1.2,hx.2⟩
theorem J6W (e:Ex):builtF e=true→TxE e→(showF e).size+1≤(2^21+20)*wtF e:=by
 induction e using J4D with
 | h e ih=>
   intro hb hx;have ihk:=fun k hk=>ih k hk ((J0D hb).2 k hk) (hx.kid k hk);have ht:=hx.low;have ho:=JDr hb;have hw:=J4m e;have hl:=J7J e.kids;rw[JAm];unfold JFu;have hsum:=JHA ihk;have e0:2^21+20≤(2^21+20)*wtF e:=Nat.le_mul_of_pos_right _ (by omega);split
   ·omega
   ·split
    ·rename_i h1;have:=JB0 hb h1;split
     ·rw[J07];show 1+_+1≤_;omega
     ·rw[J07,J07,J07,J8U];show 1+_+1+1*_+1≤_;omega
    ·split
     ·rw[J07];show 4+_+1≤_;omega
     ·split
      ·omega
      ·rename_i r l hrl;have:=J2g (r::l) (b1 59);rw[J07,J07,J07];have e1:(r::l).length=e.kids.length:=by rw[← hrl,List.length_map]
       rw[← hrl] at this ⊢;rw[List.length_map] at this;show _+1+_+1+1≤_
       have e3:(b1 59).size=1:=rfl;rw[e3] at this;have e4:(2^21+20)*wtF e=(2^21+20)*wtL e.kids+(2^21+20):=by rw[hw,Nat.mul_succ]
       omega
theorem JHz {b p e n:Nat} {H:Hp} {out:List ByteArray} (hb:H b=some (p,⟨e,1,out.map encS⟩)) (hn:n=out.length):snap [b] H (.own b p 0 n)=.sl 1 (out.map encS):=by
 rw[J7M (by simp) hb (by simp[hn]),J1N _ _ _ _ hn fun _=>rfl]
theorem J7O (e:Ex):SzE e→TxE e→builtF e=true→wtF e≤1000→PureCall Tryz.prog 128 [encE e] (encS (showF e)):=by
 induction e using J4D with
 | h e ih=>
   intro hz hx hb hw;have ihk:=fun k hk=>ih k hk (hz.kid k hk) (hx.kid k hk) ((J0D hb).2 k hk) (by have:=JH5 hk;omega);have hwt:wtL e.kids≤1000:=by have:=J4m e;omega
   have hlen:e.kids.length≤1000:=Nat.le_trans (J7J _) hwt;have hsum:szB (e.kids.map showF)+e.kids.length≤(2^21+20)*1000:=Nat.le_trans (JHA fun k hk=>J6W k ((J0D hb).2 k hk) (hx.kid k hk)) (Nat.mul_le_mul_left _ hwt);have hord:=JB0 hb;have htx:=hx.tx;have hos:=JDr hb;clear ih;refine PC [] Tryz.func128 rfl (by rfl) rfl ?_;generalize hF:showF e=F;rw[JAm] at hF;rw[J03];clear hz hx hb hw hwt;have z1:({ data:=#[64] }:ByteArray).size=1:=rfl;have z2:({ data:=#[112,114,101,64] }:ByteArray).size=4:=rfl;have z3:({ data:=#[58] }:ByteArray).size=1:=rfl;have z4:({ data:=#[40] }:ByteArray).size=1:=rfl;have z5:({ data:=#[41] }:ByteArray).size=1:=rfl;obtain ⟨o,t,od,es⟩:=e;simp only[Ex.op,Ex.text,Ex.order,Ex.kids] at *;unfold JFu at hF
   by_cases h1:o=oNum
   ·rw[if_pos h1] at hF;(refine kWS ?_;repeat intro γ);exact .of (by rw[← hF];rfl)
   rw[if_neg h1] at hF
   by_cases h2:o=oVar
   ·rw[if_pos h2] at hF
    by_cases h3:od=0
    ·rw[if_pos h3] at hF;(refine kWS ?_;repeat intro γ);exact .of (by rw[← hF];rfl)
    ·rw[if_neg h3] at hF;obtain ⟨ho1,ho2⟩:=hord h2;have hR:=JF9 (b1 39) od.toNat (by omega) (by show 1*_≤_;omega);rw[show ((od.toNat:Nat):Int)=od by omega] at hR;have y1:=J07 { data:=#[64] } t;have y2:=J07 ({ data:=#[64] }++t) { data:=#[58] };have y3:=J8U (b1 39) od.toNat;have y4:(b1 39).size=1:=rfl;rw[y4] at y3;generalize repB (b1 39) od.toNat=rb at *;(refine kWS ?_;repeat intro γ);refine CallG.intro _ c211 hR ?_;(refine kWS ?_;repeat intro γ);exact .of (by rw[← hF];rfl)
   rw[if_neg h2] at hF
   by_cases h3:o=oPre
   ·rw[if_pos h3] at hF;(refine kWS ?_;repeat intro γ);exact .of (by rw[← hF];rfl)
   rw[if_neg h3] at hF;have hml:=@List.length_map _ _ es encE
   by_cases h4:es=[]
   ·subst h4;(refine kWS ?_;repeat intro γ);exact .of (by rw[← hF];rfl)
   have h5:¬ es.length=0:=fun h=>h4 (List.eq_nil_of_length_eq_zero h)
   replace hF:o++b1 40++joinB (es.map showF) (b1 59)++b1 41=F:=by
    rw[← hF]
    cases es with
    | nil=>exact absurd rfl h4
    | cons k r=>rfl
   (refine kWQ ?_;repeat intro γ)
   refine LoopP.intro (fun j σ H=>∃ g1 gl i,∃ l:List ByteArray,j=es.length-i∧i≤es.length∧l=(es.take i).map showF ∧
    σ=fr [(1,.op 1 g1 0 0),(3,.own 50 gl 0 l.length),(40,.sl 4 (es.map encE)),(41,encI es.length),(42,encI i)] ∧
    H=hp [(1,g1,⟨29,4,[.agg [encS o,encS t,encI od,.sl 4 (es.map encE)]]⟩),(50,gl,⟨9,1,l.map encS⟩)]) ?_ ?_
   ·exact .intro (J9M 3 50 9 1 rfl rfl fun gl=>W.of ⟨_,_,gl,0,[],rfl,Nat.zero_le _,rfl,rfl,rfl⟩ ⟨rfl,rfl,rfl,(by first | rfl | (rw[List.length_map];rfl)),rfl,trivial⟩ ⟨rfl,rfl,trivial⟩)
   ·rintro j σ H ⟨g1,gl,i,l,rfl,hi,rfl,rfl,rfl⟩;have hll:((es.take i).map showF).length=i:=by rw[List.length_map,List.length_take];omega
    rcases Nat.lt_or_ge i es.length with h9 | h9
    ·have hk:=ihk _ (List.getElem_mem h9);have htk:(es.take (i+1)).map showF=(es.take i).map showF++[showF es[i]]:=by rw[List.take_succ_eq_append_getElem h9,List.map_append];rfl
     obtain ⟨k,hkk⟩:∃ k,es[i]=k:=⟨_,rfl⟩;rw[hkk] at hk htk;rw[J03] at hk;generalize hL:(es.take i).map showF=l at *;have hml:=@List.length_map _ _ l encS;(refine kWQ ?_;repeat intro γ);simp only[hkk,J03];(refine kQ ?_;repeat intro γ);refine CallP.flat [] _ c128 hk rfl ?_;(refine kWQ ?_;repeat intro γ)
     refine .intro <| W.of ⟨_,by omega,g1,γ,i+1,l++[showF k],rfl,h9,htk.symm,rfl,rfl⟩ ⟨rfl,?_,rfl,rfl,rfl,trivial⟩ ⟨rfl,?_,trivial⟩
     ·exact congrArg (AV.own 50 _ 0) (by simp)
     ·rw[List.map_append];rfl
    ·obtain rfl:i=es.length:=by omega
     rw[List.take_length] at *;have hj:=J2g (es.map showF) (b1 59)
     have hJ:=JFE (es.map showF) (b1 59) (by rw[List.length_map];omega) (by
      refine Nat.le_trans hj ?_;rw[List.length_map];show szB _+es.length*1≤_
      omega)
     have x1:(joinB (es.map showF) (b1 59)).size≤2^46:=by
      refine Nat.le_trans hj ?_;rw[List.length_map];show szB _+es.length*1≤_
      omega
     have hls:(es.map showF).length=es.length:=List.length_map ..;generalize joinB (es.map showF) (b1 59)=jb at *;have y1:=J07 o { data:=#[40] };have y2:=J07 (o++{ data:=#[40] }) jb;have y3:=J07 (o++{ data:=#[40] }++jb) { data:=#[41] };(refine kWQ ?_;repeat intro γ);refine CallG.flat _ c212 (J0Z (congrArg (fun z=>[z,encS (b1 59)]) (JHz rfl hls.symm)) hJ) rfl ?_;(refine kWQ ?_;repeat intro γ);exact .of (by rw[← hF];rfl)
def wKind:List ByteArray:=[⟨#[99,111,110,116,105,110,117,111,117,115]⟩,⟨#[100,105,115,99,114,101,116,101]⟩,⟨#[112,97,114,97,109]⟩,⟨#[105,110,112,117,116]⟩]
def wType:List ByteArray:=[⟨#[110,117,109,98,101,114]⟩,⟨#[116,114,117,116,104]⟩]
def wAct:List ByteArray:=[⟨#[97,115,115,105,103,110]⟩,⟨#[114,101,105,110,105,116]⟩]
theorem JGD:PureCall Tryz.prog 332 [] (.sl 1 (wKind.map encS)):=by
 exact J1P J9L (fuel:=60) (n:=3) (by kernel_rfl)
theorem JFl:PureCall Tryz.prog 333 [] (.sl 1 (wType.map encS)):=by
 exact J1P J9L (fuel:=60) (n:=3) (by kernel_rfl)
theorem JIe:PureCall Tryz.prog 286 [] (.sl 1 (wAct.map encS)):=by
 exact J1P J9L (fuel:=60) (n:=3) (by kernel_rfl)
def addW (w s:ByteArray) (l:List ByteArray):List ByteArray:=if s=⟨#[]⟩ then l else l++[w++s]
theorem J7b (w s:ByteArray) (l:List ByteArray) (g g1:Nat) (hl:l.length≤1000) (hw:w.size≤2^40) (hs:s.size≤2^40) :
  HCall Tryz.prog 334 [encS w,encS s,.op 50 g 0 0] (hp [(50,g,⟨39,1,[.own 51 g1 0 l.length]⟩),(51,g1,⟨9,1,l.map encS⟩)])
   (fun r h=>r=.tup []∧∃ g',h=hp [(50,g,⟨39,1,[.own 51 g' 0 (addW w s l).length]⟩),(51,g',⟨9,1,(addW w s l).map encS⟩)]):=by
 refine J3F (E:=E 0) J47 (JIv 0) Tryz.func334 rfl (by rfl) (Nat.le_of_ble_eq_true rfl) ?_;have hml:=@List.length_map _ _ l encS;have y1:=J07 w s;generalize hF:addW w s l=F;unfold addW at hF;(refine kWQ ?_;repeat intro γ);refine CondP.dec (fun h1=>?_) (fun h1=>?_)<;>refine kW ?_
 ·rw[if_pos h1] at hF;(refine kQ ?_;repeat intro γ);refine EndH.of (m:=[(50,g,⟨39,1,[.own 51 g1 0 l.length]⟩),(51,g1,⟨9,1,l.map encS⟩)]) ⟨rfl,rfl,trivial⟩ ⟨rfl,g1,?_⟩;rw[← hF]
 ·rw[if_neg h1] at hF;(refine kQ ?_;repeat intro γ);refine EndH.of (m:=[(50,g,⟨39,1,[.own 51 γ 0 (l.length+1)]⟩),(51,γ,⟨9,1,l.map encS++[encS (w++s)]⟩)]) ⟨rfl,rfl,trivial⟩ ⟨rfl,γ,?_⟩;rw[← hF,List.map_append,List.length_append];rfl
def J5L (v:Va):List ByteArray:=
 addW ⟨#[117,110,105,116,61]⟩ v.unit ((fun l=>if v.fixed then l++[⟨#[102,105,120,101,100]⟩] else l) (addW ⟨#[115,116,97,114,116,61]⟩ v.start (addW ⟨#[118,97,108,117,101,61]⟩ v.value
  [⟨#[118,97,114]⟩,v.name,wKind.getD v.kind.toNat ⟨#[]⟩,wType.getD v.type.toNat ⟨#[]⟩])))
def lineF (v:Va):ByteArray:=joinB (J5L v) (b1 32)++b1 10
theorem J2n (w s:ByteArray) (l:List ByteArray):(addW w s l).length≤l.length+1:=by
 unfold addW;split
 ·omega
 ·simp
theorem JDL (a b:List ByteArray):szB (a++b)=szB a+szB b:=by unfold szB;rw[List.map_append,List.sum_append]
theorem JAU (w s:ByteArray) (l:List ByteArray):szB (addW w s l)≤szB l+w.size+s.size:=by
 unfold addW;split
 ·omega
 ·rw[JDL];unfold szB;simp only[List.map_cons,List.map_nil,List.sum_cons,List.sum_nil,J07];omega
theorem JB9 (v:Va) (h:v.name.size<2^35∧v.value.size<2^35∧v.start.size<2^35∧v.unit.size<2^35):(J5L v).length≤8∧szB (J5L v)≤2^37+300:=by
 unfold J5L;generalize hA:addW ⟨#[118,97,108,117,101,61]⟩ v.value _=A;have a1:=J2n ⟨#[118,97,108,117,101,61]⟩ v.value [⟨#[118,97,114]⟩,v.name,wKind.getD v.kind.toNat ⟨#[]⟩,wType.getD v.type.toNat ⟨#[]⟩];have a2:=JAU ⟨#[118,97,108,117,101,61]⟩ v.value [⟨#[118,97,114]⟩,v.name,wKind.getD v.kind.toNat ⟨#[]⟩,wType.getD v.type.toNat ⟨#[]⟩];rw[hA] at a1 a2
 have k1:∀ n:Nat,(wKind.getD n ⟨#[]⟩).size≤10:=by
  intro n
  match n with
  | 0=>decide
  | 1=>decide
  | 2=>decide
  | 3=>decide
  | n+4=>exact Nat.zero_le _
 have k2:∀ n:Nat,(wType.getD n ⟨#[]⟩).size≤10:=by
  intro n
  match n with
  | 0=>decide
  | 1=>decide
  | n+2=>exact Nat.zero_le _
 have k1:=k1 v.kind.toNat;have k2:=k2 v.type.toNat;have a3:szB [⟨#[118,97,114]⟩,v.name,wKind.getD v.kind.toNat ⟨#[]⟩,wType.getD v.type.toNat ⟨#[]⟩]=3+(v.name.size+((wKind.getD v.kind.toNat ⟨#[]⟩).size+((wType.getD v.type.toNat ⟨#[]⟩).size+0))):=rfl;have a4:(⟨#[118,97,108,117,101,61]⟩:ByteArray).size=6:=rfl;generalize hB:addW ⟨#[115,116,97,114,116,61]⟩ v.start A=B;have b1:=J2n ⟨#[115,116,97,114,116,61]⟩ v.start A;have b2:=JAU ⟨#[115,116,97,114,116,61]⟩ v.start A;have b4:(⟨#[115,116,97,114,116,61]⟩:ByteArray).size=6:=rfl;rw[hB] at b1 b2
 have c0:(if v.fixed=true then B++[⟨#[102,105,120,101,100]⟩] else B).length≤B.length+1∧szB (if v.fixed=true then B++[⟨#[102,105,120,101,100]⟩] else B)≤szB B+5:=by
  split
  ·rw[JDL,List.length_append];exact ⟨Nat.le_refl _,Nat.le_refl _⟩
  ·exact ⟨by omega,by omega⟩
 show (addW _ v.unit (if v.fixed=true then B++[⟨#[102,105,120,101,100]⟩] else B)).length≤8∧szB (addW _ v.unit (if v.fixed=true then B++[⟨#[102,105,120,101,100]⟩] else B))≤2^37+300
 generalize (if v.fixed=true then B++[⟨#[102,105,120,101,100]⟩] else B)=C at *;have d1:=J2n ⟨#[117,110,105,116,61]⟩ v.unit C;have d2:=JAU ⟨#[117,110,105,116,61]⟩ v.unit C;have d4:(⟨#[117,110,105,116,61]⟩:ByteArray).size=5:=rfl;simp only[List.length_cons,List.length_nil] at a1;exact ⟨by omega,by omega⟩
def hpL (g1 g3 gl:Nat) (v:Va) (l:List ByteArray):List (Nat×Nat×Blk):=[(1,g1,⟨89,7,[encV v]⟩),(3,g3,⟨39,1,[.own 17 gl 0 l.length]⟩),(17,gl,⟨9,1,l.map encS⟩)]
theorem JI8 (v:Va) (h:v.name.size<2^35∧v.value.size<2^35∧v.start.size<2^35∧v.unit.size<2^35) (hk:0≤v.kind∧v.kind≤3) (ht:0≤v.type∧v.type≤1):PureCall Tryz.prog 284 [encV v] (encS (lineF v)):=by
 refine PC [] Tryz.func284 rfl (by rfl) rfl ?_;obtain ⟨hL1,hL2⟩:=JB9 v h;have hj:=J2g (J5L v) (b1 32);have h32:(b1 32).size=1:=rfl;rw[h32] at hj;have hJ:=JFE (J5L v) (b1 32) (by omega) (by omega);generalize hF:lineF v=F;unfold lineF at hF;have hLL:J5L v=J5L v:=rfl;generalize hL:J5L v=L at *;have y1:=J07 (joinB L (b1 32)) { data:=#[10] };have y2:({ data:=#[10] }:ByteArray).size=1:=rfl;have hs1:(joinB L (b1 32)).size≤2^40:=by omega
 generalize joinB L (b1 32)=jb at *;clear hLL hj;unfold J5L at hL;obtain ⟨nm,kd,ty,vl,st,fx,un⟩:=v;simp only at *
 have gk:(wKind.map encS).getD kd.toNat .dead=encS (wKind.getD kd.toNat ⟨#[]⟩):=by
  have:kd.toNat<wKind.length:=by show _<4;omega
  rw[List.getD_eq_getElem?_getD,List.getElem?_map,List.getD_eq_getElem?_getD,List.getElem?_eq_getElem this];rfl
 have gt:(wType.map encS).getD ty.toNat .dead=encS (wType.getD ty.toNat ⟨#[]⟩):=by
  have:ty.toNat<wType.length:=by show _<2;omega
  rw[List.getD_eq_getElem?_getD,List.getElem?_map,List.getD_eq_getElem?_getD,List.getElem?_eq_getElem this];rfl
 have lk:(wKind.map encS).length=4:=rfl;have lt:(wType.map encS).length=2:=rfl;have hKW:=JGD;have hTW:=JFl;generalize wKind.map encS=ks at *;generalize wType.map encS=ts at *;generalize wKind.getD kd.toNat ⟨#[]⟩=wk at *;generalize wType.getD ty.toNat ⟨#[]⟩=wt at *;unfold encV;simp only;(refine kWQ ?_;repeat intro γ);refine CallG.intro _ c332 hKW ?_;(refine kWQ ?_;repeat intro γ);rw[gk];(refine kWQ ?_;repeat intro γ);refine CallG.intro _ c333 hTW ?_;(refine kWQ ?_;repeat intro γ);rw[gt];(refine kWQ ?_;repeat intro γ);have z1:({ data:=#[118,97,108,117,101,61] }:ByteArray).size≤2^40:=by decide
 have z2:({ data:=#[115,116,97,114,116,61] }:ByteArray).size≤2^40:=by decide
 have z3:({ data:=#[117,110,105,116,61] }:ByteArray).size≤2^40:=by decide
 have hA1:=J2n ⟨#[118,97,108,117,101,61]⟩ vl [⟨#[118,97,114]⟩,nm,wk,wt];refine CallP.frame 1000000 [(50,3),(51,17)] rfl c334 (J7b ⟨#[118,97,108,117,101,61]⟩ vl [⟨#[118,97,114]⟩,nm,wk,wt] _ _ (by show 4≤1000;decide) z1 (by omega)) rfl ⟨rfl,rfl,trivial⟩ ?_;rintro r0 h' ⟨rfl,g',rfl⟩;generalize addW ⟨#[118,97,108,117,101,61]⟩ vl [⟨#[118,97,114]⟩,nm,wk,wt]=A at *;refine ⟨hpL _ _ g' ⟨nm,kd,ty,vl,st,fx,un⟩ A,⟨rfl,rfl,J0W encS _ (fun _=>rfl) ..,trivial⟩,?_⟩;unfold hpL encV;have hA:A.length≤5:=hA1;have hmA:=@List.length_map _ _ A encS;(refine kWQ ?_;repeat intro γ);have hB1:=J2n ⟨#[115,116,97,114,116,61]⟩ st A;refine CallP.frame 1000000 [(50,3),(51,17)] rfl c334 (J7b ⟨#[115,116,97,114,116,61]⟩ st A _ _ (by omega) z2 (by omega)) rfl ⟨rfl,J0W encS _ (fun _=>rfl) ..,trivial⟩ ?_;rintro r0 h' ⟨rfl,g',rfl⟩;generalize addW ⟨#[115,116,97,114,116,61]⟩ st A=B at *;refine ⟨hpL _ _ g' ⟨nm,kd,ty,vl,st,fx,un⟩ B,⟨rfl,rfl,J0W encS _ (fun _=>rfl) ..,trivial⟩,?_⟩;unfold hpL encV;have hB:B.length≤6:=by omega
 have hmB:=@List.length_map _ _ B encS;(refine kWQ ?_;repeat intro γ);obtain ⟨C,hC⟩:∃ C,(if fx=true then B++[⟨#[102,105,120,101,100]⟩] else B)=C:=⟨_,rfl⟩;rw[hC] at hL
 have hC1:C.length≤7:=by
  rw[← hC];split
  ·rw[List.length_append];show _+1≤7;omega
  ·omega
 have hmC:=@List.length_map _ _ C encS;have hD1:=J2n ⟨#[117,110,105,116,61]⟩ un C;have fin:=fun g3 gl=>J7b ⟨#[117,110,105,116,61]⟩ un C g3 gl (by omega) z3 (by omega);have hls:L.length=L.length:=rfl;cases fx
 ·rw[if_neg (by decide)] at hC;subst hC;(refine kWQ ?_;repeat intro γ);refine CallP.frame 1000000 [(50,3),(51,17)] rfl c334 (fin _ g') (by rfl) ⟨rfl,J0W encS _ (fun _=>rfl) ..,trivial⟩ ?_;rintro r0 h' ⟨rfl,g',rfl⟩;rw[hL];refine ⟨hpL _ _ g' ⟨nm,kd,ty,vl,st,false,un⟩ L,⟨rfl,rfl,J0W encS _ (fun _=>rfl) ..,trivial⟩,?_⟩;unfold hpL encV;(refine kWQ ?_;repeat intro γ);refine CallP.flat [17] _ c212 (J0Z (congrArg (fun z=>[z,encS (b1 32)]) (JHz rfl rfl)) hJ) rfl ?_;(refine kWQ ?_;repeat intro γ);exact .of (by rw[← hF];rfl)
 ·rw[if_pos rfl] at hC;have hCm:List.map encS B++[encS ⟨#[102,105,120,101,100]⟩]=C.map encS:=by rw[← hC,List.map_append];rfl
  have hCl:B.length+1=C.length:=by rw[← hC,List.length_append];rfl
  (refine kWQ ?_;repeat intro γ);refine CallP.frame 1000000 [(50,3),(51,17)] rfl c334 (fin _ γ) (by rfl) ⟨congrArg (fun n=>some (_,(⟨39,1,[.own 51 γ 0 n]⟩:Blk))) hCl,?_,trivial⟩ ?_
  ·show some (mvB _ (γ,(⟨9,1,List.map encS B++[encS ⟨#[102,105,120,101,100]⟩]⟩:Blk)))=_
   rw[hCm];exact J0W encS _ (fun _=>rfl) ..
  rintro r0 h' ⟨rfl,g',rfl⟩;rw[hL];refine ⟨hpL _ _ g' ⟨nm,kd,ty,vl,st,true,un⟩ L,⟨rfl,rfl,J0W encS _ (fun _=>rfl) ..,trivial⟩,?_⟩;unfold hpL encV;(refine kWQ ?_;repeat intro γ);refine CallP.flat [17] _ c212 (J0Z (congrArg (fun z=>[z,encS (b1 32)]) (JHz rfl rfl)) hJ) rfl ?_;(refine kWQ ?_;repeat intro γ);exact .of (by rw[← hF];rfl)
end Go.Proofs.YtlblbldolhiokaaGreatDoor
namespace Go.Proofs.YtlblbldolhiokaaGreatDoor
open Go Go.Fw Go.RowKit
def bldB (p buf:AV):Blk:=⟨solo,2,[.agg [p,buf]]⟩
def J1G:AV:=.val (.pointer none)
theorem J96 {H:Hp} {b g:Nat} {p buf:AV} (hb:H b=some (g,bldB p buf)) (hp:p=J1G∨p=.op b g 0 0) (hbc:buf.cells=[buf]) :
  HCall Tryz.prog 331 [.op b g 0 0] H fun r H'=>r=.tup []∧H'=setH H b (some (g,bldB (.op b g 0 0) buf)):=by
 intro gh κ w vs hr hv;obtain ⟨hlen,hv⟩:=hv;obtain ⟨vl⟩:=vs
 rcases vl with _ | ⟨a,_ | ⟨a2,r⟩⟩<;>simp at hlen
 have h0:=hv 0 (by simp) (by simp);simp only[List.getElem_cons_zero,List.getElem_toArray] at h0
 cases h0 with
 | op _ _ _ _ c K hκ hc hn=>
 obtain ⟨K',hκ',hbr⟩:=hr.blk _ _ _ hb;have hbr:BlkRel κ w (Nset gh.O κ H) K (bldB p buf):=by rw[hκ] at hκ';cases hκ';exact hbr
 obtain ⟨hn2,hcl,h3⟩:=hbr.rows hn
 rcases h3 with ⟨h3,_⟩ | ⟨c',A,f,hc',hbk,hm,hs,hf,hpl,hvv,hso⟩
 ·rw[h3] at hc;cases hc
 rw[hc'] at hc;cases hc;have hsz:A.size=2:=hso rfl;simp only[Nat.zero_mul,Nat.add_zero];have e0:A[0]?=some (f 0 0):=by have:=hf 0 (by simp[bldB]) 0 (by simp[bldB]);simpa [bldB] using this
 have hv0:VR κ w (Nset gh.O κ H) p (f 0 0):=hvv 0 (by simp[bldB]) 0 (by simp[bldB]);have hcell:w.cell? ⟨c,0,none⟩=some (f 0 0):=by simp[World.cell?,hbk,e0]
 have hself:VR κ w (Nset gh.O κ H) (.op b g 0 0) (.pointer (some ⟨c,0,none⟩)):=by
  have:=VR.op (w:=w) (N:=Nset gh.O κ H) b g 0 0 c K hκ hc' hn
  simpa using this
 rcases hp with rfl | rfl
 ·have hf0:f 0 0=.pointer none:=by generalize f 0 0=v at hv0;cases hv0;rfl
  rw[hf0] at hcell;obtain ⟨up,hup,hex,w',u,κ',hrun,hR,hvr,_,_⟩:=J2j (P:=Tryz.prog) J47 hr (t:=312) hself hself (C:=fun up=>up=some (b,g,bldB (.op b g 0 0) buf)) ⟨_,rfl,rfl,rfl,_,hb,by simp[bldB],by simp[bldB],by simp[AV.cells],by simp[bldB,J50,over,AV.cells]⟩;subst hup;have hK:=Any.Builder_copyCheck_fresh { J0x with } J0O.toX72 c w hcell (by simp[World.shape?,hbk,hsz];rfl) (by simp[World.frozen?,hbk]);refine hK.mono ?_;rintro e w' ⟨rfl,rfl⟩
  have hst:=run_storeCells_at Tryz.prog c 0 solo [.pointer (some ⟨c,0,none⟩)] 0 A w hbk (by simp[hsz]) (fun v hv=>by
   simp only[List.mem_singleton] at hv;subst hv;rfl)
  have ht:=J0Q (J47 312 _ rfl)
  have hrun':(Instr.storeAt 312 (.pointer (some ⟨c,0,none⟩)) (.pointer (some ⟨c,0,none⟩))).run Tryz.prog w=.ok () (w.setCell ⟨c,0,none⟩ (.pointer (some ⟨c,0,none⟩))):=by
   have hA:(A.toList.take 0++[Value.pointer (some ⟨c,0,none⟩)]++A.toList.drop 1).toArray=A.setIfInBounds 0 (.pointer (some ⟨c,0,none⟩)):=by
    obtain ⟨L⟩:=A
    rcases L with _ | ⟨x,r⟩
    ·simp at hsz
    ·simp
   rw[setCell_eq_setRow w c 0 A solo (0,0) _ hbk,← hA];simp only[Nat.add_zero] at hst
   simpa [Instr.storeAt,Instr.sureAddr,Sem.run_bind,storeVar,ht.run_size w,Value.cells] using hst
  rw[hrun'] at hrun;cases hrun;exact ⟨_,.tup [],_,κ',rfl,⟨rfl,rfl⟩,hR,.tup [] #[] rfl (fun i h=>by simp at h),hvr⟩
 ·have hf0:f 0 0=.pointer (some ⟨c,0,none⟩):=by
   generalize f 0 0=v at hv0
   cases hv0 with
   | op _ _ _ _ c2 K2 hκ2 hc2 hn2=>
     rw[hκ] at hκ2;cases hκ2;rw[hc'] at hc2;cases hc2;simp
  rw[hf0] at hcell;refine (Any.Builder_copyCheck_used { J0x with } J0O.toX72 c w hcell).mono ?_;rintro e w' ⟨rfl,rfl⟩
  have hH:setH H b (some (g,bldB (.op b g 0 0) buf))=H:=by
   funext x;unfold setH;split
   ·rename_i h;rw[h,hb]
   ·rfl
  exact ⟨_,.tup [],H,κ,rfl,⟨rfl,hH.symm⟩,hr,.tup [] #[] rfl (fun i h=>by simp at h),fun h=>h⟩
theorem J9O {κ:KM} {w:World} {N:Nat→Prop} {b g i k c o:Nat} (h:VR κ w N (.op b g i k) (.pointer (some ⟨c,o,none⟩))):∃ K,κ b g=some K∧K.c=some c∧0<K.n:=by
 generalize hv:Value.pointer (some ⟨c,o,none⟩)=v at h
 cases h with
 | op _ _ _ _ c2 K2 h1 h2 h3=>cases hv;exact ⟨_,h1,h2,h3⟩
theorem J80 {gh:Gh} {κ:KM} {H:Hp} {w:World} {b g c:Nat} {p buf:AV} (hr:HRel gh κ H w) (hb:H b=some (g,bldB p buf)) (hs:VR κ w (Nset gh.O κ H) (.op b g 0 0) (.pointer (some ⟨c,0,none⟩))) (hp:p.cells=[p]) (hbc:buf.cells=[buf]) :
  ∃ v0 v1,w.heap[c]?=some (.cells #[v0,v1] solo (0,0))∧VR κ w (Nset gh.O κ H) p v0∧VR κ w (Nset gh.O κ H) buf v1:=by
 obtain ⟨K,hκ,hc,hn⟩:=J9O hs;obtain ⟨K1,hκ1,hbr⟩:=hr.blk _ _ _ hb;rw[hκ] at hκ1;cases hκ1;obtain ⟨hn2,hcl,h3⟩:=hbr.rows hn
 rcases h3 with ⟨h3,_⟩ | ⟨c',A,f,hc',hbk,hm,hs',hf,hpl,hvv,hso⟩
 ·rw[h3] at hc;cases hc
 rw[hc'] at hc;cases hc;have hsz:A.size=2:=hso rfl;obtain ⟨L⟩:=A
 rcases L with _ | ⟨v0,_ | ⟨v1,_ | ⟨v2,r⟩⟩⟩<;>simp at hsz
 have e0:=hf 0 (by simp[bldB]) 0 (by simp[bldB]);have e1:=hf 0 (by simp[bldB]) 1 (by simp[bldB]);simp[bldB] at e0 e1;subst e0 e1;exact ⟨_,_,hbk,hvv 0 (by simp[bldB]) 0 (by simp[bldB]),hvv 0 (by simp[bldB]) 1 (by simp[bldB])⟩
theorem J9N {κ:KM} {w:World} {N:Nat→Prop} {b g off len:Nat} {v:Value} (h:VR κ w N (.own b g off len) v):∃ ao n' cap,v=.slice ao n' cap:=by
 cases h<;>exact ⟨_,_,_,rfl⟩
theorem JF2 {gh:Gh} {κ:KM} {H:Hp} {w:World} {b g c d γ len n' cap:Nat} {ao:Option Addr} {p buf:AV} (hr:HRel gh κ H w) (hb:H b=some (g,bldB p buf)) (hs:VR κ w (Nset gh.O κ H) (.op b g 0 0) (.pointer (some ⟨c,0,none⟩))) (hp:p.cells=[p]) (hbc:buf.cells=[buf])
  (hx:VR κ w (Nset gh.O κ H) (.own d γ 0 len) (.slice ao n' cap)) :
  ∃ κ',HRel gh κ' (setH H b (some (g,bldB p (.own d γ 0 len)))) (w.setCell ⟨c,1,none⟩ (.slice ao n' cap))∧∀ {y:AV} {v:Value},VR κ w (Nset gh.O κ H) y v→VR κ' (w.setCell ⟨c,1,none⟩ (.slice ao n' cap)) (Nset gh.O κ' (setH H b (some (g,bldB p (.own d γ 0 len))))) y v:=by
 obtain ⟨v0,v1,hbk,_,_⟩:=J80 hr hb hs hp hbc;obtain ⟨K,hκ,hc,hn⟩:=J9O hs
 have hptr:VR κ w (Nset gh.O κ H) (.op b g 0 1) (.pointer (some ⟨c,1,none⟩)):=by
  have:=VR.op (w:=w) (N:=Nset gh.O κ H) b g 0 1 c K hκ hc hn
  simpa using this
 obtain ⟨up,hup,hex,w',u,κ',hrun,hR,hvr,_,_⟩:=J2j (P:=Tryz.prog) J47 hr (t:=283) hptr hx (C:=fun up=>up=some (b,g,bldB p (.own d γ 0 len))) ⟨_,rfl,rfl,rfl,_,hb,by simp[bldB],by simp[bldB],by simp[AV.cells],by simp[bldB,J50,over,AV.cells]⟩;subst hup
 have hst:=run_storeCells_at Tryz.prog c 1 solo [.slice ao n' cap] 0 #[v0,v1] w hbk (by simp) (fun v hv=>by
  simp only[List.mem_singleton] at hv;subst hv;rfl)
 have ht:=J0Q (J47 283 _ rfl)
 have hrun':(Instr.storeAt 283 (.pointer (some ⟨c,1,none⟩)) (.slice ao n' cap)).run Tryz.prog w=.ok () (w.setCell ⟨c,1,none⟩ (.slice ao n' cap)):=by
  rw[setCell_eq_setRow w c 1 _ solo (0,0) _ hbk];simp only[Nat.add_zero] at hst
  simpa [Instr.storeAt,Instr.sureAddr,Sem.run_bind,storeVar,ht.run_size w,Value.cells] using hst
 rw[hrun'] at hrun;cases hrun;exact ⟨κ',hR,hvr⟩
theorem J6A {P:Program} {w:World} {ops:Array Oper} {rest:List Oper} {o:Oper} {a:Act} {Q:Exit→Act→World→Prop} (hgd:o.guard=none) (sl x:Operand) (t u:TypeId)
  (ho:o.op=.call { callee:=.builtin .append,args:=#[sl,x],argTypes:=#[t,u] }) (v:Value) (hs:a.eval sl=v) (s:ByteArray) (hx:a.eval x=.string s) {v':Value} {w':World}
  (hr:(Builtin.append_ #[t,u] o.type #[v,.string s]).run P w=.ok v' w') (h:wpList P ops Q rest (a.put o.dst v') w'):wpList P ops Q (o::rest) a w:=by
 refine wpList_plain hgd fun K hK=>?_;unfold Oper.wp execOp;simp only[ho,resolve,invoke,builtin,Sem.run_bind,Sem.run_pure,Result.andThen_ok,List.map_toArray,List.map_cons,List.map_nil,hs,hx,hr];exact hK _ _ h
theorem J6M {H:Hp} {b g d g0:Nat} {p:AV} {l:List UInt8} {s:ByteArray} (hb:H b=some (g,bldB p (.own d g0 0 l.length))) (hp:p=J1G∨p=.op b g 0 0) (hd:H d=some (g0,⟨5,1,BY l⟩)) (hbd:b≠d)
  (hs:l.length+s.size≤140737488355328) :
  HCall Tryz.prog 283 [.op b g 0 0,encS s] H fun r H'=>r=.tup [encI s.size,.val .nilIface]∧∃ γ,H'=setH (setH H d (some (γ,⟨5,1,BY (l++s.data.toList)⟩))) b (some (g,bldB (.op b g 0 0) (.own d γ 0 (l.length+s.size)))):=by
 intro gh κ w vs hr hv;obtain ⟨hlen,hv⟩:=hv;obtain ⟨vl⟩:=vs
 rcases vl with _ | ⟨a,_ | ⟨a2,_ | ⟨a3,r⟩⟩⟩<;>simp at hlen
 have h0:=hv 0 (by simp) (by simp);have h1:=hv 1 (by simp) (by simp);simp only[List.getElem_cons_zero,List.getElem_cons_succ,List.getElem_toArray] at h0 h1;cases h1
 have hcc:=J96 hb hp rfl gh κ w #[a] hr ⟨rfl,fun i h h'=>by
  have:i=0:=by simpa using h
  subst this;exact h0⟩
 cases h0 with
 | op _ _ _ _ c K hκ hc hn=>
 simp only[Nat.add_zero,Nat.zero_mul] at hcc ⊢;have L:Lays.n166 Tryz.prog Tryz.lays156_ren:={ J0x with };have X:=J0O;have hcc':Calls Tryz.prog (Tryz.lays156_ren.f 240) _ _ _:=hcc;have e5:Tryz.lays156_ren.t 5=5:=rfl;have e72:Tryz.lays156_ren.t 72=solo:=rfl;have hT:=J47;show Calls Tryz.prog (Tryz.lays156_ren.f 166) _ _ _
 clear hcc;generalize Tryz.lays156_ren=ρ at L X hcc' e5 e72 ⊢;obtain ⟨i0,hi,hz0,hz1,hz2⟩:=info_parts X.infoByte;have mixed:=L.mixed;have t72:=L.t72;have a72:=L.a72;have z72:=L.z72;have v72:=L.v72;have u72:=run_underlying L.t72;have t70:=L.t70;have a70:=L.a70;have z70:=L.z70;have v70:=L.v70;have u70:=run_underlying L.t70;have t37:=L.t37;have a37:=L.a37;have z37:=L.z37;have v37:=L.v37;have u37:=run_underlying L.t37;have t3:=L.t3;have a3:=L.a3;have z3:=L.z3;have v3:=L.v3;have u3:=run_underlying L.t3;have t9:=L.t9;have a9:=L.a9;have z9:=L.z9;have v9:=L.v9;have u9:=run_underlying L.t9;have t4:=L.t4;have a4:=L.a4;have z4:=L.z4;have v4:=L.v4;have u4:=run_underlying L.t4;have t164:=L.t164;have a164:=L.a164;have z164:=L.z164;have v164:=L.v164;have u164:=run_underlying L.t164;have t5:=X.t5;have a5:=X.a5;have z5:=X.z5;have v5:=X.v5;have u5:=run_underlying X.t5;have e240:∀ args w,(callFunc (ρ.f 240) args).run Tryz.prog w=.ok (.enter (ρ.f 240) args) w:=enters_of L.f240 (by kernel_rfl) rfl
 go_enter L.f166,Body.n166_ntmps ρ
 go_wp2_with (go_at_fn (ρ.f 240);refine hcc'.mono ?_)
 rintro e w1 ⟨v0,r0,H1,κ1,he,⟨hr0,hH1⟩,hr1,hv0,ht1⟩;subst he hr0 hH1
 have hself:VR κ w (Nset gh.O κ H) (.op b g 0 0) (.pointer (some ⟨c,0,none⟩)):=by
  have:=VR.op (w:=w) (N:=Nset gh.O κ H) b g 0 0 c K hκ hc hn
  simpa using this
 have hself:=ht1 hself;have hb1:(setH H b (some (g,bldB (.op b g 0 0) (.own d g0 0 l.length)))) b=some (g,bldB (.op b g 0 0) (.own d g0 0 l.length)):=by simp[setH]
 have hd1:(setH H b (some (g,bldB (.op b g 0 0) (.own d g0 0 l.length)))) d=some (g0,⟨5,1,BY l⟩):=by rw[setH,if_neg (Ne.symm hbd)];exact hd
 generalize hH1:setH H b (some (g,bldB (.op b g 0 0) (.own d g0 0 l.length)))=H1 at hr1 hv0 ht1 hself hb1 hd1;obtain ⟨p1,v,hbk,_,hv1⟩:=J80 hr1 hb1 hself rfl rfl;have c1:w1.cell? ⟨c,1,none⟩=some v:=by rw[Lib.cell_of_heap hbk];rfl
 obtain ⟨G,hG⟩:=hr1.fresh;obtain ⟨v',w2,κ2,hrun,hr2,ht2,hv2,hk2⟩:=J8t (P:=Tryz.prog) (ty:=ρ.t 37) (u:=ρ.t 9) hr1 (d:=d) (g:=g0) (γ:=G) (s:=s) L.t37 L.t9 hi hz0 hz1 hz2 (by rw[e5];decide) (hG _ _ (Nat.le_refl _)) (by rw[e5];exact hd1) hv1 hs;rw[e5] at hr2 ht2 hv2;have hself2:=ht2 hself;have hb2:app H1 (some (d,G,⟨5,1,BY (l++s.data.toList)⟩)) b=some (g,bldB (.op b g 0 0) (.own d g0 0 l.length)):=by simp only[app,setH];rw[if_neg hbd];exact hb1
 generalize hH2:app H1 (some (d,G,⟨5,1,BY (l++s.data.toList)⟩))=H2 at hr2 ht2 hv2 hself2 hb2;obtain ⟨p2,v2,hbk2,_,_⟩:=J80 hr2 hb2 hself2 rfl rfl;have d1:w2.cell? ⟨c,1,none⟩=some v2:=by rw[Lib.cell_of_heap hbk2];rfl
 have f1:w2.frozen? ⟨c,1,none⟩=false:=Lib.frozen_of_heap hbk2 1;obtain ⟨ao,n',cap,rfl⟩:∃ ao n' cap,v'=.slice ao n' cap:=J9N hv2
 go_wp2_with (at_builtin;refine J6A rfl _ _ (ρ.t 37) (ρ.t 9) rfl v rfl s rfl hrun ?_)
 go_ret2
 obtain ⟨κ3,hr3,ht3⟩:=JF2 hr2 hb2 hself2 rfl rfl hv2;subst hH2 hH1
 have eH:∀ z,setH (app (setH H b z) (some (d,G,⟨5,1,BY (l++s.data.toList)⟩))) b (some (g,bldB (.op b g 0 0) (.own d G 0 (l.length+s.size))))=setH (setH H d (some (G,⟨5,1,BY (l++s.data.toList)⟩))) b (some (g,bldB (.op b g 0 0) (.own d G 0 (l.length+s.size)))):=by
  intro z;funext x;simp only[app,setH];split<;>(try split)<;>rfl
 rw[eH] at hr3 ht3
 exact ⟨_,.tup [encI s.size,.val .nilIface],_,κ3,rfl,⟨rfl,_,rfl⟩,hr3,.tup _ _ rfl (fun i h h'=>by
  match i,h with
  | 0,_=>exact .val _ rfl
  | 1,_=>exact .val _ rfl),fun h=>ht3 (ht2 (ht1 h))⟩
theorem J9S {P:Program} {ρ:Go.Shelf.Ren} (L:Lays.n169 P ρ) (X:Builder.Extra P ρ) (b g cap:Nat) (l:List UInt8) (p:Value) (cur:Array Value) (w:World) (h0:l≠[]) (hbk:w.heap[b]?=some (.cells #[p,.slice (some ⟨g,0,none⟩) l.length cap] (ρ.t 72) (0,0)))
  (hg:w.heap[g]?=some (.cells cur (ρ.t 5) (0,0))) (hnc:l.length≤cap) (hcm:cap≤maxLen) (hcs:cur.size=cap) (htake:cur.toList.take l.length=Lib.byteCells l) :
  Calls P (ρ.f 169) #[.pointer (some ⟨b,0,none⟩)] w fun e w'=>e=.returned (.string ⟨l.toArray⟩)∧w'=w.drew.freeze ⟨g,0,none⟩ l.length:=by
 have hl0:l.length≠0:=by simpa using h0
 have c1:w.drew.cell? ⟨b,1,none⟩=some (.slice (some ⟨g,0,none⟩) l.length cap):=by
  have:w.drew.heap[b]?=some (.cells #[p,.slice (some ⟨g,0,none⟩) l.length cap] (ρ.t 72) (0,0)):=hbk;rw[Lib.cell_of_heap this];rfl
 have hSD:(Builtin.unsafeSliceData_ #[(ρ.t 37)] (ρ.t 127) #[.slice (some ⟨g,0,none⟩) l.length cap]).run P w.drew=.ok (.pointer (some ⟨g,0,none⟩)) w.drew:=
  Lib.run_unsafeSliceData_row _ _ _ _ _ _ (by omega)
 have hUS:(Builtin.unsafeString_ #[(ρ.t 127),(ρ.t 3)] (ρ.t 9) #[.pointer (some ⟨g,0,none⟩),.int .i64 l.length]).run P w.drew=.ok (.string ⟨l.toArray⟩) (w.drew.freeze ⟨g,0,none⟩ l.length):=by
  refine Lib.run_unsafeString_row w.drew (ρ.t 127) (ρ.t 3) (ρ.t 9) (ρ.t 5) L.t127 X.cellsByte g cur.size (by have hg':w.drew.heap[g]?=some (.cells cur (ρ.t 5) (0,0)):=hg;simp[World.shape?,hg']) l h0 (by omega) (by unfold maxLen at hcm;omega) ?_;intro j x hx;have hg':w.drew.heap[g]?=some (.cells cur (ρ.t 5) (0,0)):=hg;have hj:j<l.length:=(List.getElem?_eq_some_iff.1 hx).1
  have e1:cur.toList[j]?=some (.int .u8 x.toNat):=by
   have:(cur.toList.take l.length)[j]?=some (.int .u8 x.toNat):=by rw[htake];simp[Lib.byteCells,hx]
   rwa [List.getElem?_take,if_pos hj] at this
  rw[Addr.add_lit,Lib.cell_of_heap hg',Nat.zero_add,← Array.getElem?_toList,e1]
 have mixed:=L.mixed;have t72:=L.t72;have a72:=L.a72;have z72:=L.z72;have v72:=L.v72;have u72:=run_underlying L.t72;have t70:=L.t70;have a70:=L.a70;have z70:=L.z70;have v70:=L.v70;have u70:=run_underlying L.t70;have t37:=L.t37;have a37:=L.a37;have z37:=L.z37;have v37:=L.v37;have u37:=run_underlying L.t37;have t127:=L.t127;have a127:=L.a127;have z127:=L.z127;have v127:=L.v127;have u127:=run_underlying L.t127;have t3:=L.t3;have a3:=L.a3;have z3:=L.z3;have v3:=L.v3;have u3:=run_underlying L.t3;have t9:=L.t9;have a9:=L.a9;have z9:=L.z9;have v9:=L.v9;have u9:=run_underlying L.t9;have t5:=X.t5;have a5:=X.a5;have z5:=X.z5;have v5:=X.v5;have u5:=run_underlying X.t5
 go_enter L.f169,Body.n169_ntmps ρ
 go_wp2
 go_region_o
 all_goals (go_wp2;go_ret;exact ⟨rfl,rfl⟩)
theorem HRel.drop {gh:Gh} {κ:KM} {H:Hp} {w w':World} {d g c:Nat} {B:Blk} {K:KI} (hr:HRel gh κ H w) (hd:H d=some (g,B)) (hκ:κ d g=some K) (hc:K.c=some c) (hs:w.heap.size≤w'.heap.size) (hb:∀ k,k<w.heap.size→k≠c→w'.heap[k]?=w.heap[k]?) (ho:w'.os=w.os) (ht:w'.tape=w.tape) (hu:w'.output=w.output) :
  HRel gh κ (rem H [d]) w'∧∀ {x:AV} {u:Value},VR κ w (Nset gh.O κ H) x u→VR κ w' (Nset gh.O κ (rem H [d])) x u:=by
 have hag:Agree (Nset gh.O κ H) w w':=⟨hs,fun k hk hn=>hb k hk fun e=>hn (.inr ⟨d,g,B,K,hd,hκ,e ▸ hc⟩)⟩;have hr':=hr.rem [d];have tr:∀ {x:AV} {u:Value},VR κ w (Nset gh.O κ H) x u→VR κ w' (Nset gh.O κ (rem H [d])) x u:=fun h=>h.step (KM.le.refl _) hag fun k _ h=>J0J [d] h;have hag':Agree (Fw.Own κ H) w w':=⟨hs,fun k hk hn=>hb k hk fun e=>hn ⟨d,g,B,K,hd,hκ,e ▸ hc⟩⟩;refine ⟨⟨fun b g' B' h=>?_,hr'.inj,hr'.mine,hr.keep hag',ho.trans hr.os,ht.trans hr.tape,hu.trans hr.output,hr.fresh,hr.apart⟩,tr⟩;obtain ⟨K',hk,hbr⟩:=hr'.blk _ _ _ h
 have hbd:b≠d:=by
  rintro rfl;simp[Fw.rem] at h
 have hHb:H b=some (g',B'):=by
  unfold Fw.rem at h;split at h
  ·cases h
  ·exact h
 obtain ⟨K2,hk2,hbr2⟩:=hr.blk _ _ _ hHb;exact ⟨K2,hk2,hbr2.step (KM.le.refl _) hag (fun k _ h=>J0J [d] h) fun k hk=>hb k (hr.lt ⟨b,g',B',K2,hHb,hk2,hk⟩) fun e=>hbd (hr.inj _ _ _ _ _ _ _ _ c hHb hd hk2 hκ (e ▸ hk) hc)⟩
theorem J9V {κ:KM} {w:World} {N:Nat→Prop} {l:List UInt8} {XS:List Value} (h:Row κ w N 1 (BY l) XS):XS=Lib.byteCells l:=by
 have hl:XS.length=l.length:=by simpa using h.len
 refine List.ext_getElem (by simp[Lib.byteCells,hl]) fun i h1 h2=>?_;have hi:i<l.length:=hl ▸ h1;have:=h.rel i (by simpa using hi) 0 (by simp[BY,AV.cells]);have e1:((BY l)[i]'(by simpa using hi)).cells[0]'(by simp[BY,AV.cells])=.val (.int .u8 (l[i].toNat:Int)):=by simp[BY,AV.cells]
 rw[e1] at this;have e2:XS.getD (i*1+0) undef=XS[i]:=by simp[List.getD_eq_getElem?_getD,List.getElem?_eq_getElem h1]
 rw[e2] at this;have e3:(Lib.byteCells l)[i]=.int .u8 (l[i].toNat:Int):=by simp[Lib.byteCells]
 rw[e3];generalize XS[i]=v at this;cases this;rfl
theorem JCj {H:Hp} {b g d g0:Nat} {p:AV} {l:List UInt8} (hb:H b=some (g,bldB p (.own d g0 0 l.length))) (hp:p.cells=[p]) (hd:H d=some (g0,⟨5,1,BY l⟩)) :
  HCall Tryz.prog 287 [.op b g 0 0] H fun r H'=>r=.val (.string ⟨l.toArray⟩)∧H'=rem H [d]:=by
 intro gh κ w vs hr hv;obtain ⟨hlen,hv⟩:=hv;obtain ⟨vl⟩:=vs
 rcases vl with _ | ⟨a,_ | ⟨a2,r⟩⟩<;>simp at hlen
 have h0:=hv 0 (by simp) (by simp);simp only[List.getElem_cons_zero,List.getElem_toArray] at h0
 obtain ⟨c,rfl⟩:∃ c,a=.pointer (some ⟨c,0,none⟩):=by
  cases h0 with
  | op _ _ _ _ c K hκ hc hn=>exact ⟨c,by simp⟩
 obtain ⟨v0,v1,hbk,_,hv1⟩:=J80 hr hb h0 hp rfl;have L:=J9P;have X:=J2A;have e5:Tryz.lays169_ren.t 5=5:=rfl;have e72:Tryz.lays169_ren.t 72=solo:=rfl;show Calls Tryz.prog (Tryz.lays169_ren.f 169) _ _ _
 generalize Tryz.lays169_ren=ρ at L X e5 e72 ⊢
 have fin:∀ {e:Ending} {w':World},l=[]→(e=.returned (.string ⟨#[]⟩)∧Below w.heap.size w w')→∃ v r H' κ',e=.returned v∧(r=.val (.string ⟨l.toArray⟩)∧H'=rem H [d])∧HRel gh κ' H' w'∧VR κ' w' (Nset gh.O κ' H') r v∧∀ {x:AV} {u:Value},VR κ w (Nset gh.O κ H) x u→VR κ' w' (Nset gh.O κ' H') x u:=by
  rintro e w' rfl ⟨rfl,hB⟩;obtain ⟨q1,q2⟩:=J0l hr hB;exact ⟨_,_,_,κ,rfl,⟨rfl,rfl⟩,q1.rem [d],.val _ rfl,fun h=>(q2 h).mono fun k h=>J0J [d] h⟩
 have hbk:w.heap[c]?=some (.cells #[v0,v1] (ρ.t 72) (0,0)):=by rw[e72];exact hbk
 obtain ⟨K,hk,hbr⟩:=hr.blk _ _ _ hd;generalize hlen:l.length=len at hv1
 cases hv1 with
 | ownnil _ _ K' hk' hc=>
   exact (Any.Builder_String_nil L X w.heap.size c v0 w hbk).mono fun e w' h=>fin (List.eq_nil_of_length_eq_zero hlen) h
 | own _ _ _ _ cap cd K' hk' hc h1 h2 hp2=>
   rw[hk] at hk';cases hk';have hbr:=hbr.rows hp2;obtain ⟨A,hbk2,hm,hrow⟩:=hbr.row hc 0 len (by rw[← hlen];simp);have hKn:K.n=1:=hbr.1;have htk:(BY l).take len=BY l:=List.take_of_length_le (by rw[← hlen];simp);simp only[List.drop_zero,Nat.zero_mul,htk,hKn,Nat.mul_one] at hrow;have hcs:A.size=cap:=by rw[← hm,← h2.1,hKn];omega
   simp only[Nat.zero_add,Nat.zero_mul] at h2 hbk ⊢;replace hbk2:w.heap[cd]?=some (.cells A (ρ.t 5) (0,0)):=by rw[e5];exact hbk2
   have hdh:w.drew.heap=w.heap:=rfl
   by_cases hl:l=[]
   ·subst hl;obtain rfl:len=0:=by simpa using hlen.symm
    by_cases h0:cap=0
    ·subst h0;exact (Any.Builder_String_noroom L X w.heap.size c cd v0 A w (Nat.le_refl _) hbk hbk2).mono fun e w' h=>fin rfl h
    ·exact (Any.Builder_String_room L X w.heap.size c cd cap v0 w h0 hbk).mono fun e w' h=>fin rfl h
   ·refine (J9S L X c cd cap l v0 A w hl (by rw[hlen];exact hbk) hbk2 (by omega) h2.2 hcs ?_).mono ?_
    ·rw[hlen];exact J9V hrow
    ·rintro e w' ⟨rfl,rfl⟩
     obtain ⟨q1,q2⟩:=HRel.drop (w':=w.drew.freeze ⟨cd,0,none⟩ l.length) hr hd hk hc (by unfold World.freeze;split<;>simp[hdh]) (fun k hk hne=>by
      unfold World.freeze;split
      ·rfl
      ·simp[hdh,Array.getElem?_modify,Ne.symm hne]) (by unfold World.freeze;split<;>rfl) (by unfold World.freeze;split<;>rfl) (by unfold World.freeze;split<;>rfl)
     exact ⟨_,_,_,κ,rfl,⟨rfl,rfl⟩,q1,.val _ rfl,q2⟩
end Go.Proofs.YtlblbldolhiokaaGreatDoor
namespace Go.Proofs.YtlblbldolhiokaaGreatDoor
open Go Go.Fw
theorem J3h {e:Nat} {H:Hp} {b g d g0:Nat} {p:AV} {l:List UInt8} (s:ByteArray) {args:List AV} {C:AV→Hp→Prop} (ha:args=[.op b g 0 0,encS s]) (hb:H b=some (g,bldB p (.own d g0 0 l.length))) (hpf:p=J1G∨p=.op b g 0 0) (hd:H d=some (g0,⟨5,1,BY l⟩)) (hbd:b≠d)
  (hs:l.length+s.size≤140737488355328) (h:∀ γ,∃ m,hpOk (setH (setH H d (some (γ,⟨5,1,BY (l++s.data.toList)⟩))) b (some (g,bldB (.op b g 0 0) (.own d γ 0 (l++s.data.toList).length)))) m∧C (.tup [encI s.size,.val .nilIface]) (hp m)) :
  CallP (E e) 283 args H C:=by
 subst ha;refine CallP.own c283 (HCall.mono (J6M hb hpf hd hbd hs) ?_);rintro r h' ⟨rfl,γ,rfl⟩;obtain ⟨m,h1,h2⟩:=h γ;have e1:l.length+s.size=(l++s.data.toList).length:=by rw[List.length_append];rfl
 rw[e1];exact ⟨hp m,h1.sub,h2⟩
def eqF (w:ByteArray) (q:Eqn):ByteArray:=w++b1 32++q.name++b1 32++showF q.left++b1 32++showF q.right++b1 10
def eqsL (w:ByteArray):List Eqn→List UInt8
 | []=>[]
 | q::r=>(eqF w q).data.toList++eqsL w r
structure QnOk (q:Eqn):Prop where
 n:q.name.size<2^35
 l:SzE q.left∧TxE q.left∧builtF q.left=true∧wtF q.left≤1000
 r:SzE q.right∧TxE q.right∧builtF q.right=true∧wtF q.right≤1000
theorem J1L {e:Ex} (h:TxE e) (hb:builtF e=true) (hw:wtF e≤1000):(showF e).size≤2^32:=by
 have:=J6W e hb h;have h2:(2^21+20)*wtF e≤(2^21+20)*1000:=Nat.mul_le_mul_left _ hw;omega
theorem JBL {w:ByteArray} {q:Eqn} (hw:w.size≤10) (h:QnOk q):(eqF w q).size≤2^36:=by
 have h1:=J1L h.l.2.1 h.l.2.2.1 h.l.2.2.2;have h2:=J1L h.r.2.1 h.r.2.2.1 h.r.2.2.2;have h3:=h.n;unfold eqF;simp only[J07];show _+1+_+1+_+1+_+1≤_
 omega
theorem JFo (w:ByteArray) (hw:w.size≤10) (qs:List Eqn) (hq:∀ q∈qs,QnOk q) (hn:qs.length≤120) (p:AV) (g g1:Nat) (hpf:p=J1G∨p=.op 50 g 0 0) (l:List UInt8) (hl:l.length≤2^46) :
  HCall Tryz.prog 285 [encS w,.sl 9 (qs.map J0f),.op 50 g 0 0] (hp [(50,g,bldB p (.own 51 g1 0 l.length)),(51,g1,⟨5,1,BY l⟩)])
   (fun r h=>r=.tup []∧∃ p' g',(p'=J1G∨p'=.op 50 g 0 0)∧h=hp [(50,g,bldB p' (.own 51 g' 0 (l++eqsL w qs).length)),(51,g',⟨5,1,BY (l++eqsL w qs)⟩)]):=by
 refine J3F (E:=E 0) J47 (JIv 0) Tryz.func285 rfl (by rfl) (Nat.le_of_ble_eq_true rfl) ?_;have hml:=@List.length_map _ _ qs J0f;generalize hR:l++eqsL w qs=R;(refine kWQ ?_;repeat intro γ)
 refine LoopP.intro (fun k σ H=>∃ p' g1 i,∃ t:List UInt8,k=qs.length-i∧i≤qs.length∧t.length≤i*2^36+2^46∧(p'=J1G∨p'=.op 50 g 0 0)∧t++eqsL w (qs.drop i)=R ∧
   σ=fr [(0,encS w),(2,.op 50 g 0 0),(7,.sl 9 (qs.map J0f)),(8,encI qs.length),(9,encI i)] ∧
   H=hp [(50,g,bldB p' (.own 51 g1 0 t.length)),(51,g1,⟨5,1,BY t⟩)]) ?_ ?_
 ·exact .intro (W.of ⟨_,p,g1,0,l,rfl,Nat.zero_le _,by omega,hpf,hR,rfl,rfl⟩ ⟨rfl,rfl,rfl,rfl,rfl,trivial⟩ ⟨rfl,rfl,trivial⟩)
 ·rintro k σ H ⟨p',g1,i,t,rfl,hi,ht,hpf,hT,rfl,rfl⟩
  rcases Nat.lt_or_ge i qs.length with h1 | h1
  ·rw[List.drop_eq_getElem_cons h1] at hT;have hqi:=hq _ (List.getElem_mem h1);have hs1:=J7O _ hqi.l.1 hqi.l.2.1 hqi.l.2.2.1 hqi.l.2.2.2;have hs2:=J7O _ hqi.r.1 hqi.r.2.1 hqi.r.2.2.1 hqi.r.2.2.2;have hz:=JBL hw hqi;have hz1:=J1L hqi.l.2.1 hqi.l.2.2.1 hqi.l.2.2.2;have hz2:=J1L hqi.r.2.1 hqi.r.2.2.1 hqi.r.2.2.2;have hzn:=hqi.n;rw[J0I] at hs1 hs2;(refine kWO ?_;repeat intro γ)
   (simp (disch:=omega) only [LG];refine kW ?_)
   (refine kO ?_;repeat intro γ);generalize qs[i]=q at *;obtain ⟨qn,ql,qr⟩:=q;simp only at hs1 hs2 hz1 hz2 hzn;unfold eqsL at hT;unfold eqF at hT hz;simp only[b1] at hT hz;generalize showF ql=sl at *;generalize showF qr=sr at *;have z1:({ data:=#[32] }:ByteArray).size=1:=rfl;have z2:({ data:=#[10] }:ByteArray).size=1:=rfl;have y1:=J07 w { data:=#[32] };have y2:=J07 (w++{ data:=#[32] }) qn;have y3:=J07 (w++{ data:=#[32] }++qn) { data:=#[32] };have y4:=J07 (w++{ data:=#[32] }++qn++{ data:=#[32] }) sl;have y5:=J07 (w++{ data:=#[32] }++qn++{ data:=#[32] }++sl) { data:=#[32] };have y6:=J07 (w++{ data:=#[32] }++qn++{ data:=#[32] }++sl++{ data:=#[32] }) sr;have y7:=J07 (w++{ data:=#[32] }++qn++{ data:=#[32] }++sl++{ data:=#[32] }++sr) { data:=#[10] };refine J0y [(16,false),(17,true)] (by kernel_rfl) ?_;(refine kWQ ?_;repeat intro γ);refine CallG.intro _ c128 hs1 ?_;(refine kWQ ?_;repeat intro γ);refine CallG.intro _ c128 hs2 ?_;(refine kWQ ?_;repeat intro γ);refine J3h (b:=50) (g:=g) (d:=51) (g0:=g1) (p:=p') (l:=t) (w++{ data:=#[32] }++qn++{ data:=#[32] }++sl++{ data:=#[32] }++sr++{ data:=#[10] }) (by kernel_rfl) rfl hpf rfl (by decide) (by omega) fun γ=>⟨[(6,_,⟨58,9,[J0f ⟨qn,ql,qr⟩]⟩),(50,g,_),(51,γ,_)],⟨rfl,rfl,rfl,trivial⟩,?_⟩;(refine kWQ ?_;repeat intro γ);obtain ⟨z,hzz⟩:∃ z,w++{ data:=#[32] }++qn++{ data:=#[32] }++sl++{ data:=#[32] }++sr++{ data:=#[10] }=z:=⟨_,rfl⟩;rw[hzz] at hT hz ⊢;have hzl:z.data.toList.length=z.size:=rfl
   refine .intro <| W.of ⟨_,by omega,.op 50 g 0 0,γ,i+1,t++z.data.toList,rfl,h1,by rw[List.length_append,hzl];omega,.inr rfl,by rw[List.append_assoc];exact hT,rfl,rfl⟩ ⟨rfl,rfl,rfl,rfl,rfl,trivial⟩ ⟨rfl,rfl,trivial⟩
  ·rw[List.drop_eq_nil_of_le h1] at hT;(refine kWQ ?_;repeat intro γ);refine EndH.of (m:=[(50,g,bldB p' (.own 51 g1 0 t.length)),(51,g1,⟨5,1,BY t⟩)]) ⟨rfl,rfl,trivial⟩ ⟨rfl,p',g1,hpf,?_⟩;rw[← hT];unfold eqsL;rw[List.append_nil]
def J6n:List Va→List UInt8
 | []=>[]
 | v::r=>(lineF v).data.toList++J6n r
def actB (a:Ac):ByteArray:=b1 32++wAct.getD a.kind.toNat ⟨#[]⟩++b1 32++a.var++b1 32++showF a.value
def JF3:List Ac→List UInt8
 | []=>[]
 | a::r=>(actB a).data.toList++JF3 r
def JJ1 (w:Whn):ByteArray:=⟨#[119,104,101,110,32]⟩++w.name++b1 32++showF w.cond
def J6R:List Whn→List UInt8
 | []=>[]
 | w::r=>(JJ1 w).data.toList++(JF3 w.acts++([10]++J6R r))
def wEq:ByteArray:=⟨#[101,113]⟩
def JFi:ByteArray:=⟨#[105,110,105,116]⟩
def J9v (s:Sys):List UInt8:=J6n s.vars++eqsL wEq s.eqs++eqsL JFi s.inits++J6R s.whens
def ExOk (e:Ex):Prop:=SzE e∧TxE e∧builtF e=true∧wtF e≤1000
structure AcOk (a:Ac):Prop where
 k:0≤a.kind∧a.kind≤1
 n:a.var.size<2^35
 e:ExOk a.value
structure WnOk (w:Whn):Prop where
 n:w.name.size<2^35
 e:ExOk w.cond
 l:w.acts.length≤20
 a:∀ a∈w.acts,AcOk a
structure VaOk (v:Va):Prop where
 s:v.name.size<2^35∧v.value.size<2^35∧v.start.size<2^35∧v.unit.size<2^35
 k:0≤v.kind∧v.kind≤3
 t:0≤v.type∧v.type≤1
structure TextOk (s:Sys):Prop where
 lv:s.vars.length≤120
 lq:s.eqs.length≤120
 ln:s.inits.length≤120
 lw:s.whens.length≤120
 v:∀ v∈s.vars,VaOk v
 q:∀ q∈s.eqs,QnOk q
 n:∀ q∈s.inits,QnOk q
 w:∀ w∈s.whens,WnOk w
theorem JCK {v:Va} (h:VaOk v):(lineF v).size≤2^37+310:=by
 obtain ⟨h1,h2⟩:=JB9 v h.s;have hj:=J2g (J5L v) (b1 32);have h32:(b1 32).size=1:=rfl;have h10:(b1 10).size=1:=rfl;unfold lineF;rw[J07,h10];rw[h32] at hj;omega
theorem J7m {w:ByteArray} (hw:w.size≤10):∀ {qs:List Eqn},(∀ q∈qs,QnOk q)→(eqsL w qs).length≤qs.length*2^36
 | [],_=>by simp[eqsL]
 | q::r,h=>by
   have h1:=JBL hw (h q (by simp));have h2:=J7m hw (qs:=r) fun x hx=>h x (by simp[hx]);unfold eqsL;rw[List.length_append,List.length_cons,Nat.succ_mul];have e:(eqF w q).data.toList.length=(eqF w q).size:=rfl;omega
theorem CallP.eqs {S:Blk} {gs g g1:Nat} {p:AV} (hpf:p=J1G∨p=.op 3 g 0 0) (w:ByteArray) (hw:w.size≤10) {qs:List Eqn} (hq:∀ q∈qs,QnOk q) (hn:qs.length≤120) {t:List UInt8} (ht:t.length≤2^46) {args:List AV} {C:AV→Hp→Prop}
  (ha:args=[encS w,.sl 9 (qs.map J0f),.op 3 g 0 0])
  (hC:∀ p' g',(p'=J1G∨p'=.op 3 g 0 0)→C (.tup []) (hp [(1,gs,S),(3,g,bldB p' (.own 100 g' 0 (t++eqsL w qs).length)),(100,g',⟨5,1,BY (t++eqsL w qs)⟩)])) :
  CallP (E 0) 285 args (hp [(1,gs,S),(3,g,bldB p (.own 100 g1 0 t.length)),(100,g1,⟨5,1,BY t⟩)]) C:=by
 subst ha
 have key:∀ p0,(p0=J1G∨p0=.op 50 g 0 0)→p=mv (fun b=>some (fwd 1000000 [(50,3),(51,100)] b)) 2 p0→CallP (E 0) 285 [encS w,.sl 9 (qs.map J0f),.op 3 g 0 0] (hp [(1,gs,S),(3,g,bldB p (.own 100 g1 0 t.length)),(100,g1,⟨5,1,BY t⟩)]) C:=by
  intro p0 h0 hp0;refine CallP.frame 1000000 [(50,3),(51,100)] rfl c285 (JFo w hw qs hq hn p0 g g1 h0 t ht) rfl ⟨?_,J0W (fun b:UInt8=>AV.val (.int .u8 (b.toNat:Int))) _ (fun _=>rfl) ..,trivial⟩ ?_
  ·rcases h0 with rfl | rfl
   ·subst hp0;rfl
   ·subst hp0;rfl
  ·rintro r0 h' ⟨rfl,p',g',h2,rfl⟩;refine ⟨[(1,gs,S),(3,g,bldB (mv (fun b=>some (fwd 1000000 [(50,3),(51,100)] b)) 2 p') (.own 100 g' 0 (t++eqsL w qs).length)),(100,g',⟨5,1,BY (t++eqsL w qs)⟩)],⟨rfl,rfl,J0W (fun b:UInt8=>AV.val (.int .u8 (b.toNat:Int))) _ (fun _=>rfl) ..,trivial⟩,hC _ _ ?_⟩
   rcases h2 with rfl | rfl
   ·exact .inl rfl
   ·exact .inr rfl
 rcases hpf with rfl | rfl
 ·exact key J1G (.inl rfl) rfl
 ·exact key (.op 50 g 0 0) (.inr rfl) rfl
theorem JBs (s:Sys) (h:TextOk s):PureCall Tryz.prog 191 [J0Y s] (.val (.string ⟨(J9v s).toArray⟩)):=by
 refine PC [] Tryz.func191 rfl (by rfl) rfl ?_;generalize hR:J9v s=R;unfold J9v at hR;obtain ⟨vs,qs,ns,ws⟩:=s;obtain ⟨lv,lq,ln,lw,hv,hq,hn,hw⟩:=h;simp only at lv lq ln lw hv hq hn hw hR;unfold J0Y;simp only;have mv1:=@List.length_map _ _ vs encV;have mw1:=@List.length_map _ _ ws J13;obtain ⟨LV,hLV⟩:∃ z,J6n vs=z:=⟨_,rfl⟩;rw[hLV] at hR;have nq:=J7m (w:=wEq) (by decide) hq;have nn:=J7m (w:=JFi) (by decide) hn;(refine kWQ ?_;repeat intro γ)
 refine LoopP.intro (fun k σ H=>∃ g p' g1 gs i,∃ t:List UInt8,k=vs.length-i∧i≤vs.length∧t.length≤i*(2^37+310)∧(p'=J1G∨p'=.op 3 g 0 0)∧t++J6n (vs.drop i)=LV ∧
   σ=fr [(1,.op 1 gs 0 0),(3,.op 3 g 0 0),(12,.sl 7 (vs.map encV)),(13,encI vs.length),(14,encI i)] ∧
   H=hp [(1,gs,⟨26,4,[.agg [.sl 7 (vs.map encV),.sl 9 (qs.map J0f),.sl 9 (ns.map J0f),.sl 6 (ws.map J13)]]⟩),(3,g,bldB p' (.own 100 g1 0 t.length)),(100,g1,⟨5,1,BY t⟩)]) ?_ ?_
 ·exact .intro (JJi 3 γ 0 1 100 5 1 ⟨314,2,[.agg [J1G,.val (.slice none 0 0)]]⟩ [J1G,.val (.slice none 0 0)] rfl rfl rfl rfl (by decide) fun g1=>W.of ⟨_,γ,J1G,g1,_,0,[],rfl,Nat.zero_le _,by simp,.inl rfl,hLV,rfl,rfl⟩ ⟨rfl,rfl,rfl,rfl,rfl,trivial⟩ ⟨rfl,rfl,rfl,trivial⟩)
 rintro k σ H ⟨g,p',g1,gs,i,t,rfl,hi,ht,hpf,hT,rfl,rfl⟩
 rcases Nat.lt_or_ge i vs.length with h1 | h1
 ·rw[List.drop_eq_getElem_cons h1] at hT;have hvi:=hv _ (List.getElem_mem h1);have hl:=JI8 _ hvi.s hvi.k hvi.t;have hz:=JCK hvi;(refine kWO ?_;repeat intro γ)
  (simp (disch:=omega) only [LG];refine kW ?_)
  (refine kO ?_;repeat intro γ);generalize vs[i]=v at *;unfold J6n at hT;refine CallP.flat [] _ c284 hl rfl ?_;generalize lineF v=z at *;(refine kWO ?_;repeat intro γ);have hzl:z.data.toList.length=z.size:=rfl;refine J3h (b:=3) (g:=g) (d:=100) (g0:=g1) (p:=p') (l:=t) z (by kernel_rfl) rfl hpf rfl (by decide) (by omega) fun γ2=>⟨[(1,gs,_),(3,g,_),(100,γ2,_)],⟨rfl,rfl,rfl,trivial⟩,?_⟩;(refine kWO ?_;repeat intro γ)
  exact .intro <| W.of ⟨_,by omega,g,.op 3 g 0 0,γ2,gs,i+1,t++z.data.toList,rfl,h1,by rw[List.length_append,hzl];omega,.inr rfl,by rw[List.append_assoc];exact hT,rfl,rfl⟩ ⟨rfl,rfl,rfl,rfl,rfl,trivial⟩ ⟨rfl,rfl,rfl,trivial⟩
 ·rw[List.drop_eq_nil_of_le h1] at hT;unfold J6n at hT;rw[List.append_nil] at hT;subst hT;clear hLV;have ht:t.length≤2^45:=by omega
  (refine kWO ?_;repeat intro γ);refine CallP.eqs hpf wEq (by decide) hq lq (by omega) (by kernel_rfl) fun p2 g2 hpf=>?_;obtain ⟨t2,hT2⟩:∃ z,t++eqsL wEq qs=z:=⟨_,rfl⟩;have ht2:t2.length≤t.length+qs.length*2^36:=by rw[← hT2,List.length_append];omega
  rw[hT2] at hR ⊢;(refine kWO ?_;repeat intro γ);refine CallP.eqs hpf JFi (by decide) hn ln (by omega) (by kernel_rfl) fun p3 g3 hpf=>?_;obtain ⟨t3,hT3⟩:∃ z,t2++eqsL JFi ns=z:=⟨_,rfl⟩;have ht3:t3.length≤t2.length+ns.length*2^36:=by rw[← hT3,List.length_append];omega
  rw[hT3] at hR ⊢;(refine kWO ?_;repeat intro γ)
  refine LoopP.intro (fun k σ H=>∃ p' g1 i,∃ t:List UInt8,k=ws.length-i∧i≤ws.length∧t.length≤2^45+i*(22*(2^35+2^32+20))∧(p'=J1G∨p'=.op 3 g 0 0)∧t++J6R (ws.drop i)=R ∧
   σ=fr [(3,.op 3 g 0 0),(32,.sl 6 (ws.map J13)),(33,encI ws.length),(34,encI i)] ∧
   H=hp [(3,g,bldB p' (.own 100 g1 0 t.length)),(100,g1,⟨5,1,BY t⟩)]) ?_ ?_
  ·exact .intro (W.of ⟨_,p3,g3,0,t3,rfl,Nat.zero_le _,by omega,hpf,hR,rfl,rfl⟩ ⟨rfl,rfl,congrArg (fun n:Nat=>encI n) mw1,rfl,trivial⟩ ⟨rfl,rfl,trivial⟩)
  clear hT2 hT3 hR nq nn ht ht2 ht3 hpf;rintro k σ H ⟨p',g1,i,t,rfl,hi,ht,hpf,hT,rfl,rfl⟩
  rcases Nat.lt_or_ge i ws.length with h1 | h1
  ·rw[List.drop_eq_getElem_cons h1] at hT;have hwi:=hw _ (List.getElem_mem h1);have hs1:=J7O _ hwi.e.1 hwi.e.2.1 hwi.e.2.2.1 hwi.e.2.2.2;have hz1:=J1L hwi.e.2.1 hwi.e.2.2.1 hwi.e.2.2.2;rw[J0I] at hs1;(refine kWO ?_;repeat intro γ)
   (simp (disch:=omega) only [LG];refine kW ?_)
   (refine kO ?_;repeat intro γ);generalize ws[i]=wh at *;obtain ⟨wn,wc,ats⟩:=wh;obtain ⟨hwn,_,hal,hac⟩:=hwi;simp only at hs1 hz1 hwn hal hac;rw[J6R] at hT;simp only[JJ1,b1] at hT;generalize showF wc=sl at *;have z1:({ data:=#[32] }:ByteArray).size=1:=rfl;have z2:({ data:=#[119,104,101,110,32] }:ByteArray).size=5:=rfl;have y1:=J07 { data:=#[119,104,101,110,32] } wn;have y2:=J07 ({ data:=#[119,104,101,110,32] }++wn) { data:=#[32] };have y3:=J07 ({ data:=#[119,104,101,110,32] }++wn++{ data:=#[32] }) sl;refine J0y [(8,false),(9,true)] (by kernel_rfl) ?_;(refine kWQ ?_;repeat intro γ);refine CallG.intro _ c128 hs1 ?_;(refine kWQ ?_;repeat intro γ);refine J3h (b:=3) (g:=g) (d:=100) (g0:=g1) (p:=p') (l:=t) ({ data:=#[119,104,101,110,32] }++wn++{ data:=#[32] }++sl) (by kernel_rfl) rfl hpf rfl (by decide) (by omega) fun γ2=>⟨[(3,g,_),(8,_,⟨228,6,[.agg (encS wn::(J2U wc++[.sl 6 (ats.map J8p)]))]⟩),(100,γ2,_)],⟨rfl,rfl,rfl,trivial⟩,?_⟩;obtain ⟨z,hzz⟩:∃ z,{ data:=#[119,104,101,110,32] }++wn++{ data:=#[32] }++sl=z:=⟨_,rfl⟩;rw[hzz] at hT y3 ⊢;have hzl:z.data.toList.length=z.size:=rfl;obtain ⟨X,hX⟩:∃ z,[10]++J6R (ws.drop (i+1))=z:=⟨_,rfl⟩;rw[hX,← List.append_assoc] at hT;obtain ⟨t2,ht2⟩:∃ z2,t++z.data.toList=z2:=⟨_,rfl⟩;have htl:t2.length≤2^45+i*(22*(2^35+2^32+20))+2^35+2^32+20:=by rw[← ht2,List.length_append,hzl];omega
   rw[ht2] at hT ⊢;clear hzz y1 y2 y3 hzl ht2 ht;have ma1:=@List.length_map _ _ ats J8p;(refine kWO ?_;repeat intro γ)
   refine LoopP.intro (fun k σ H=>∃ p' g1 j,∃ t:List UInt8,k=ats.length-j∧j≤ats.length∧t.length≤2^45+i*(22*(2^35+2^32+20))+2^35+2^32+20+j*(2^35+2^32+20)∧(p'=J1G∨p'=.op 3 g 0 0)∧t++(JF3 (ats.drop j)++X)=R ∧
    σ=fr [(3,.op 3 g 0 0),(32,.sl 6 (ws.map J13)),(33,encI ws.length),(34,encI i),(48,.sl 6 (ats.map J8p)),(49,encI ats.length),(50,encI j)] ∧
    H=hp [(3,g,bldB p' (.own 100 g1 0 t.length)),(100,g1,⟨5,1,BY t⟩)]) ?_ ?_
   ·exact .intro (W.of ⟨_,.op 3 g 0 0,γ2,0,t2,rfl,Nat.zero_le _,by omega,.inr rfl,hT,rfl,rfl⟩ ⟨rfl,rfl,rfl,rfl,rfl,congrArg (fun n:Nat=>encI n) ma1,rfl,trivial⟩ ⟨rfl,rfl,trivial⟩)
   clear hT htl hs1 hz1 hpf;rintro k σ H ⟨p',g1,j,t,rfl,hj,ht,hpf,hT,rfl,rfl⟩
   rcases Nat.lt_or_ge j ats.length with h2 | h2
   ·rw[List.drop_eq_getElem_cons h2] at hT;have hai:=hac _ (List.getElem_mem h2);have hs1:=J7O _ hai.e.1 hai.e.2.1 hai.e.2.2.1 hai.e.2.2.2;have hz1:=J1L hai.e.2.1 hai.e.2.2.1 hai.e.2.2.2;rw[J0I] at hs1;(refine kWO ?_;repeat intro γ)
    (simp (disch:=omega) only [LG];refine kW ?_)
    (refine kO ?_;repeat intro γ);generalize ats[j]=ac at *;obtain ⟨ak,av,ae⟩:=ac;obtain ⟨hk,hvs,_⟩:=hai;simp only at hs1 hz1 hk hvs;rw[JF3] at hT;simp only[actB,b1] at hT;generalize showF ae=sl at *
    have gk:(wAct.map encS).getD ak.toNat .dead=encS (wAct.getD ak.toNat ⟨#[]⟩):=by
     have:ak.toNat<wAct.length:=by show _<2;omega
     rw[List.getD_eq_getElem?_getD,List.getElem?_map,List.getD_eq_getElem?_getD,List.getElem?_eq_getElem this];rfl
    have kw:(wAct.getD ak.toNat ⟨#[]⟩).size≤6:=by
     have:ak.toNat=0∨ak.toNat=1:=by omega
     rcases this with h | h<;>rw[h]<;>decide
    have lk:(wAct.map encS).length=2:=rfl;have hAW:=JIe;generalize wAct.map encS=ks at *;generalize wAct.getD ak.toNat ⟨#[]⟩=wa at *;have y1:=J07 { data:=#[32] } wa;have y2:=J07 ({ data:=#[32] }++wa) { data:=#[32] };have y3:=J07 ({ data:=#[32] }++wa++{ data:=#[32] }) av;have y4:=J07 ({ data:=#[32] }++wa++{ data:=#[32] }++av) { data:=#[32] };have y5:=J07 ({ data:=#[32] }++wa++{ data:=#[32] }++av++{ data:=#[32] }) sl;refine J0y [(15,false),(16,true)] (by kernel_rfl) ?_;(refine kWQ ?_;repeat intro γ);refine CallG.intro _ c286 hAW ?_;(refine kWQ ?_;repeat intro γ);rw[gk];(refine kWQ ?_;repeat intro γ);refine CallG.intro _ c128 hs1 ?_;(refine kWQ ?_;repeat intro γ);refine J3h (b:=3) (g:=g) (d:=100) (g0:=g1) (p:=p') (l:=t) ({ data:=#[32] }++wa++{ data:=#[32] }++av++{ data:=#[32] }++sl) (by kernel_rfl) rfl hpf rfl (by decide) (by omega) fun γ2=>⟨[(3,g,_),(100,γ2,_)],⟨rfl,rfl,trivial⟩,?_⟩;obtain ⟨z,hzz⟩:∃ z,{ data:=#[32] }++wa++{ data:=#[32] }++av++{ data:=#[32] }++sl=z:=⟨_,rfl⟩;rw[hzz] at hT y5 ⊢;have hzl:z.data.toList.length=z.size:=rfl;(refine kWO ?_;repeat intro γ)
    refine .intro <| W.of ⟨_,by omega,.op 3 g 0 0,γ2,j+1,t++z.data.toList,rfl,h2,by rw[List.length_append,hzl];omega,.inr rfl,by rw[List.append_assoc,← List.append_assoc z.data.toList];exact hT,rfl,rfl⟩ ⟨rfl,rfl,rfl,rfl,rfl,rfl,rfl,trivial⟩ ⟨rfl,rfl,trivial⟩
   ·rw[List.drop_eq_nil_of_le h2] at hT;rw[JF3,List.nil_append,← hX,← List.append_assoc] at hT;(refine kWO ?_;repeat intro γ);refine J3h (b:=3) (g:=g) (d:=100) (g0:=g1) (p:=p') (l:=t) { data:=#[10] } (by kernel_rfl) rfl hpf rfl (by decide) (by show _+1≤_;omega) fun γ2=>⟨[(3,g,_),(100,γ2,_)],⟨rfl,rfl,trivial⟩,?_⟩;(refine kWO ?_;repeat intro γ)
    refine .intro <| W.of ⟨_,by omega,.op 3 g 0 0,γ2,i+1,t++[10],rfl,h1,by rw[List.length_append];show _+1≤_;omega,.inr rfl,hT,rfl,rfl⟩ ⟨rfl,rfl,rfl,rfl,trivial⟩ ⟨rfl,rfl,trivial⟩
  ·rw[List.drop_eq_nil_of_le h1] at hT;rw[J6R,List.append_nil] at hT;subst hT;(refine kWO ?_;repeat intro γ);refine CallP.own c287 (HCall.mono (JCj (b:=3) (g:=g) (d:=100) (g0:=g1) (p:=p') (l:=t) rfl (by rcases hpf with rfl | rfl<;>rfl) rfl) ?_);rintro r h' ⟨rfl,rfl⟩;refine ⟨hp [],fun _=>.inr rfl,?_⟩;(refine kWO ?_;repeat intro γ);exact .of rfl
theorem JG0 {l:List (ByteArray×Va)} {k:ByteArray} {v:Va}:∀ {x},x∈putK l k v→x∈l∨x=(k,v):=by
 induction l with
 | nil=>intro x h;right;simpa [putK] using h
 | cons y r ih=>
   intro x h;unfold putK at h;split at h
   ·rename_i e
    rcases List.mem_cons.1 h with rfl | h
    ·right;rw[e]
    ·left;simp[h]
   ·rcases List.mem_cons.1 h with rfl | h
    ·left;simp
    ·rcases ih h with h | h
     ·left;simp[h]
     ·exact .inr h
theorem JE1 {vs:List Va} {x:ByteArray×Va} (h:x∈knownF vs):x.1=x.2.name∧x.2∈vs:=by
 have key:∀ (us:List Va) (l:List (ByteArray×Va)) (S:List Va),(∀ y∈l,y.1=y.2.name∧y.2∈S)→(∀ u∈us,u∈S)→∀ y∈us.foldl (fun l v=>putK l v.name v) l,y.1=y.2.name∧y.2∈S:=by
  intro us
  induction us with
  | nil=>intro l S h1 _;exact h1
  | cons u r ih=>
    intro l S h1 h2;rw[List.foldl_cons];refine ih _ _ (fun y hy=>?_) fun z hz=>h2 z (by simp[hz])
    rcases JG0 hy with h | rfl
    ·exact h1 y h
    ·exact ⟨rfl,h2 u (by simp)⟩
 exact key vs [] vs (by simp) (fun _ h=>h) x h
theorem J5C:∀ {l:List Ex} {n:Int},J6m l n=false→∀ e∈l,tooF e=false
 | [],_,_,e,h=>by simp at h
 | x::r,n,h,e,he=>by
   unfold J6m at h;simp only[Bool.or_eq_false_iff] at h
   rcases List.mem_cons.1 he with rfl | he
   ·exact h.1
   ·exact J5C h.2 e he
theorem J83 {ks:List (ByteArray×Va)}:∀ {l:List Ac} {S A:List ByteArray},(J63 ks l S A).1=true→∀ a∈l,(0≤a.kind∧a.kind≤1)∧(∃ v,J1C ks a.var=some v)∧builtF a.value=true
 | [],_,_,_,a,h=>by simp at h
 | x :: r,S,A,h,a,ha=>by
   unfold J63 at h
   by_cases hb:badA ks x (if x.kind=0 then A else S)=true
   ·rw[if_pos hb] at h;cases h
   ·rw[if_neg hb] at h
    rcases List.mem_cons.1 ha with rfl | ha
    ·unfold badA at hb
     revert hb
     cases hv:J1C ks a.var with
     | none=>intro hb;exact absurd rfl hb
     | some v=>
       intro hb;simp only[Bool.or_eq_true,not_or,Bool.and_eq_true,Bool.not_eq_true',decide_eq_false_iff_not,decide_eq_true_eq,typedF] at hb;obtain ⟨⟨⟨h1,_⟩,_⟩,h4⟩:=hb;refine ⟨by omega,⟨v,rfl⟩,?_⟩;have h5:=(Bool.not_eq_false _).mp h4;simp only[Bool.and_eq_true] at h5;exact h5.1.1
    ·by_cases h0:x.kind=0
     ·rw[if_pos h0] at h;exact J83 h a ha
     ·rw[if_neg h0] at h;exact J83 h a ha
theorem J8F {ks:List (ByteArray×Va)}:∀ {l:List Whn} {A:List ByteArray},J4n ks l A=true→∀ w∈l,builtF w.cond=true∧∀ a∈w.acts,(0≤a.kind∧a.kind≤1)∧(∃ v,J1C ks a.var=some v)∧builtF a.value=true
 | [],_,_,w,h=>by simp at h
 | x :: r,A,h,w,hw=>by
   unfold J4n at h;simp only[Bool.and_eq_true,typedF] at h
   rcases List.mem_cons.1 hw with rfl | hw
   ·refine ⟨h.1.1.1.1,?_⟩;have:=h.1.2;unfold J9K at this;simp only[Bool.and_eq_true] at this;exact J83 this.1
   ·exact J8F h.2 w hw
theorem JCc {s:Sys} (hs:SzS s) (hc:checkF s=0):TextOk s:=by
 unfold checkF at hc
 have hL:largeF s=false:=by
  cases h:largeF s
  ·rfl
  ·rw[h] at hc;simp at hc
 rw[hL] at hc
 have hV:validF s=true:=by
  cases h:validF s
  ·rw[h] at hc;simp at hc
  ·rfl
 unfold largeF at hL;simp only[Bool.or_eq_false_iff,decide_eq_false_iff_not] at hL;obtain ⟨⟨⟨l1,l2⟩,l3⟩,l4⟩:=hL;have ht:=J5C l4;unfold validF at hV;simp only[Bool.and_eq_true,Bool.not_eq_true'] at hV;obtain ⟨⟨⟨_,hv⟩,hq,hn⟩,hw⟩:=hV;have ex:∀ e∈allF s,builtF e=true→ExOk e:=fun e he hb=>⟨(hs.e e he).1,(hs.e e he).2,hb,Nat.le_trans (J9u (ht e he)) (by decide)⟩
 have eqk:∀ (l:List Eqn),(∀ e∈J1O l,e∈allF s)→(∀ q∈l,q.name.size<2^35)→l.all (eqT (knownF s.vars))=true→∀ q∈l,QnOk q:=by
  intro l h1 h2 h3 q hq;have:=List.all_eq_true.1 h3 q hq;unfold eqT typedF at this;simp only[Bool.and_eq_true] at this;exact ⟨h2 q hq,ex _ (h1 _ (J1w hq).1) this.1.1.1,ex _ (h1 _ (J1w hq).2) this.2.1.1⟩
 refine ⟨by omega,by omega,by omega,by omega,fun v hvm=>?_,eqk _ (fun e he=>by simp[allF,he]) hs.m.1 hq,eqk _ (fun e he=>by simp[allF,he]) hs.m.2.1 hn,fun w hwm=>?_⟩
 ·have:=List.any_eq_false.1 hv v hvm;simp only[Bool.not_eq_true,Bool.not_eq_false'] at this;unfold varF at this;simp only[Bool.and_eq_true] at this;have hk:=this.1.1.1.1;unfold JCM at hk;simp only[Bool.not_eq_true',Bool.or_eq_false_iff,Bool.and_eq_false_iff,decide_eq_false_iff_not,Bool.not_eq_false',decide_eq_true_eq] at hk;exact ⟨hs.t v hvm,by omega,by omega⟩
 ·have hwk:=J8F hw w hwm;have hm:=J7Y hwm;have hl:=List.any_eq_false.1 l3 w hwm;refine ⟨hs.m.2.2 w hwm,ex _ (by simp[allF,hm.1]) hwk.1,by simpa using hl,fun a ha=>?_⟩;obtain ⟨h1,⟨v,h2⟩,h3⟩:=hwk.2 a ha;have:=JE1 (J60 h2);refine ⟨h1,?_,ex _ (by simp[allF,hm.2 a ha]) h3⟩;rw[show a.var=v.name from this.1];exact (hs.t v this.2).1
def J8P (s:Sys):ByteArray×Int:=if checkF s≠0 then (⟨#[]⟩,checkF s) else if 8000<(J9v s).length then (⟨#[]⟩,2) else (⟨(J9v s).toArray⟩,0)
theorem JIi (s:Sys) (hs:SzS s):PureCall Tryz.prog 103 [J0Y s] (.tup [encS (J8P s).1,encI (J8P s).2]):=by
 refine PC [] Tryz.func103 rfl (by rfl) rfl ?_;have hC:=J8C s hs;generalize hF:J8P s=F;unfold J8P at hF;have ht:=fun h=>JBs s (JCc hs h);generalize checkF s=ck at *;obtain ⟨vs,qs,ns,ws⟩:=s;unfold J0Y at *;refine kWQ ?_;intros;refine CallP.flat [] _ c89 hC rfl ?_;refine kWQ ?_;intros;refine CondP.dec (fun h0=>?_) (fun h0=>?_)<;>refine kW ?_
 ·have ht:=ht h0;rw[if_neg (by omega)] at hF;generalize hT:J9v _=t at *;refine kQ ?_;intros;refine CallP.flat [] _ c191 ht rfl ?_;refine kWQ ?_;intros;have hz:(({ data:=t.toArray }:ByteArray).size:Int)=(t.length:Int):=rfl;rw[hz];refine CondP.dec (fun h1=>?_) (fun h1=>?_)<;>refine kW ?_
  ·refine kQ ?_;intros;refine .of ?_;rw[if_pos (by omega)] at hF;rw[← hF];rfl
  ·refine kQ ?_;intros;refine .of ?_;rw[if_neg (by omega)] at hF;rw[← hF];rfl
 ·rw[if_pos h0] at hF;refine kQ ?_;intros;refine .of ?_;rw[← hF];rfl
def opE (o:ByteArray) (l:List Ex):Ex:=.mk o ⟨#[]⟩ 0 l
def numE (t:ByteArray):Ex:=.mk oNum t 0 []
def refE (t:ByteArray) (n:Int):Ex:=.mk oVar t n []
def exS:Sys:=⟨[⟨⟨#[107]⟩,2,0,⟨#[50]⟩,⟨#[]⟩,false,⟨#[]⟩⟩,⟨⟨#[120]⟩,0,0,⟨#[]⟩,⟨#[49]⟩,true,⟨#[]⟩⟩],[⟨⟨#[101]⟩,refE ⟨#[120]⟩ 1,opE ⟨#[110,101,103]⟩ [opE ⟨#[109,117,108]⟩ [refE ⟨#[107]⟩ 0,refE ⟨#[120]⟩ 0]]⟩],[],[]⟩
def exT:List UInt8:=[118,97,114,32,107,32,112,97,114,97,109,32,110,117,109,98,101,114,32,118,97,108,117,101,61,50,10,118,97,114,32,120,32,99,111,110,116,105,110,117,111,117,115,32,110,117,109,98,101,114,32,115,116,97,114,116,61,49,32,102,105,120,101,100,10,101,113,32,101,32,64,120,58,39,32,110,101,103,40,109,117,108,40,64,107,59,64,120,41,41,10]
def J3H:EnvA:=⟨⟨#[51,47,50]⟩,false,[⟨⟨⟨#[120]⟩,0,false⟩,⟨#[48]⟩⟩]⟩
def ex1:Ex:=opE ⟨#[100,105,118]⟩ [numE ⟨#[49]⟩,refE ⟨#[120]⟩ 0]
def ex2:Ex:=opE ⟨#[105,102]⟩ [opE ⟨#[108,101,115,115]⟩ [refE ⟨#[120]⟩ 0,numE ⟨#[49]⟩],numE ⟨#[48]⟩,opE ⟨#[100,105,118]⟩ [numE ⟨#[49]⟩,refE ⟨#[120]⟩ 0]]
def ex3:Ex:=opE ⟨#[115,97,109,112,108,101]⟩ [numE ⟨#[48]⟩,numE ⟨#[49,47,50]⟩]
theorem JIN:JCQ exS ex1 J3H=(⟨#[]⟩,12):=by kernel_rfl
theorem JIM:JCQ exS ex2 J3H=(⟨#[48]⟩,0):=by kernel_rfl
theorem JIL:JCQ exS ex3 J3H=(⟨#[116,114,117,101]⟩,0):=by kernel_rfl
def GdE (e:Ex):Prop:=SzE e∧TxE e
theorem J2K {o t:ByteArray} {n:Int} {l:List Ex} (h1:o.size≤100) (h2:t.size≤100) (h3:l.length≤100) (h:∀ e∈l,GdE e):GdE (.mk o t n l):=
 ⟨SzE.mk (by omega) (by omega) (by omega) fun k hk=>(h k hk).1,TxE.mk (by omega) fun k hk=>(h k hk).2⟩
theorem gd1:GdE ex1:=by
 refine J2K (by decide) (by decide) (by decide) ?_;simp only[List.forall_mem_cons,List.not_mem_nil,false_imp_iff,implies_true,and_true];exact ⟨J2K (by decide) (by decide) (by decide) (by simp),J2K (by decide) (by decide) (by decide) (by simp)⟩
theorem gd2:GdE ex2:=by
 refine J2K (by decide) (by decide) (by decide) ?_;simp only[List.forall_mem_cons,List.not_mem_nil,false_imp_iff,implies_true,and_true]
 refine ⟨J2K (by decide) (by decide) (by decide) ?_,J2K (by decide) (by decide) (by decide) (by simp),J2K (by decide) (by decide) (by decide) ?_⟩ <;>
  simp only[List.forall_mem_cons,List.not_mem_nil,false_imp_iff,implies_true,and_true] <;>
  exact ⟨J2K (by decide) (by decide) (by decide) (by simp),J2K (by decide) (by decide) (by decide) (by simp)⟩
theorem gd3:GdE ex3:=by
 refine J2K (by decide) (by decide) (by decide) ?_;simp only[List.forall_mem_cons,List.not_mem_nil,false_imp_iff,implies_true,and_true];exact ⟨J2K (by decide) (by decide) (by decide) (by simp),J2K (by decide) (by decide) (by decide) (by simp)⟩
theorem JAh:SzS exS:=by
 refine ⟨by decide,by decide,by decide,by decide,by simp[exS],?_,?_,?_,by decide⟩
 ·intro e he;simp only[exS,allF,J1O,List.flatMap_cons,List.flatMap_nil,List.append_nil,List.mem_cons,List.not_mem_nil,or_false] at he
  rcases he with rfl | rfl
  ·exact J2K (by decide) (by decide) (by decide) (by simp)
  ·refine J2K (by decide) (by decide) (by decide) ?_;simp only[List.forall_mem_cons,List.not_mem_nil,false_imp_iff,implies_true,and_true];refine J2K (by decide) (by decide) (by decide) ?_;simp only[List.forall_mem_cons,List.not_mem_nil,false_imp_iff,implies_true,and_true];exact ⟨J2K (by decide) (by decide) (by decide) (by simp),J2K (by decide) (by decide) (by decide) (by simp)⟩
 ·intro v hv;simp only[exS,List.mem_cons,List.not_mem_nil,or_false] at hv
  rcases hv with rfl | rfl<;>decide
 ·refine ⟨?_,by simp[exS],by simp[exS]⟩;intro q hq;simp only[exS,List.mem_cons,List.not_mem_nil,or_false] at hq;subst hq;decide
theorem JEL:J8P exS=(⟨exT.toArray⟩,0):=by kernel_rfl
theorem JDK:SzB J3H:=by
 refine ⟨by decide,by decide,fun b hb=>?_⟩;simp only[J3H,List.mem_cons,List.not_mem_nil,or_false] at hb;subst hb;decide
theorem JJp:PureCall Tryz.prog 103 [J0Y exS] (.tup [encS ⟨exT.toArray⟩,encI 0]):=by
 have:=JIi exS JAh;rw[JEL] at this;exact this
theorem JJR:PureCall Tryz.prog 38 [J0Y exS,encE ex1,J0c J3H] (.tup [encS ⟨#[]⟩,encI 12]):=by
 have:=J8A exS ex1 J3H JAh gd1.1 gd1.2 JDK;rw[JIN] at this;exact this
theorem JJQ:PureCall Tryz.prog 38 [J0Y exS,encE ex2,J0c J3H] (.tup [encS ⟨#[48]⟩,encI 0]):=by
 have:=J8A exS ex2 J3H JAh gd2.1 gd2.2 JDK;rw[JIM] at this;exact this
theorem JJP:PureCall Tryz.prog 38 [J0Y exS,encE ex3,J0c J3H] (.tup [encS ⟨#[116,114,117,101]⟩,encI 0]):=by
 have:=J8A exS ex3 J3H JAh gd3.1 gd3.2 JDK;rw[JIL] at this;exact this
def tab2:Tab:=[(103,[J0Y exS],.tup [encS ⟨exT.toArray⟩,encI 0]),(38,[J0Y exS,encE ex1,J0c J3H],.tup [encS ⟨#[]⟩,encI 12]),
 (38,[J0Y exS,encE ex2,J0c J3H],.tup [encS ⟨#[48]⟩,encI 0]),(38,[J0Y exS,encE ex3,J0c J3H],.tup [encS ⟨#[116,114,117,101]⟩,encI 0])]
theorem JHp:TabOk XR.E.P tab2:=by
 refine ⟨?_⟩;unfold tab2;simp only[List.forall_mem_cons,List.not_mem_nil,false_imp_iff,implies_true,and_true];exact ⟨⟨c103,JJp,rfl⟩,⟨c38,JJR,rfl⟩,⟨c38,JJQ,rfl⟩,⟨c38,JJP,rfl⟩⟩
theorem JCe:PureCall Tryz.prog 40 [] (encB true):=JC2 J9L JHp (fuel:=100) (n:=10) (by kernel_rfl)
def numO:Vl→Rat
 | .num q=>q
 | .tr _=>0
def resL (ks:List (ByteArray×Va)) (ev:Ev):List Eqn→Except Int (List Rat)
 | []=>.ok []
 | q :: r=>match evalF ks ev q.left with
   | .error c=>.error c
   | .ok a=>match evalF ks ev q.right with
     | .error c=>.error c
     | .ok b=>match resL ks ev r with
       | .error c=>.error c
       | .ok l=>.ok ((numO a-numO b)::l)
def conR (out:List Rat):Except Int (List Rat)→Except Int (List Rat)
 | .error c=>.error c
 | .ok l=>.ok (out++l)
def residF (s:Sys) (e:EnvA):Except Int (List Rat):=if checkF s≠0 then .error (checkF s) else match openS e with
 | .error c=>.error c
 | .ok ev=>resL (knownF s.vars) ev s.eqs
def J6L (l:List Rat):AV:=.sl 6 (l.map fun q=>J04 (.num q))
def JBM:Except Int (List Rat)→AV
 | .ok l=>.tup [J6L l,encI 0]
 | .error c=>.tup [.sl 6 [],encI c]
structure SideOk (ks:List (ByteArray×Va)) (e:Ex):Prop where
 g:GdE e
 b:builtF e=true
 t:typeF ks e=(0,true)
 l:tooF e=false
theorem SideOk.w {ks:List (ByteArray×Va)} {e:Ex} (h:SideOk ks e):wtF e≤200:=J9u h.l
theorem JAS {s:Sys} (hc:checkF s=0):largeF s=false∧validF s=true:=by
 unfold checkF at hc;cases h:largeF s
 ·rw[h] at hc;cases h':validF s
  ·rw[h'] at hc;simp at hc
  ·exact ⟨rfl,rfl⟩
 ·rw[h] at hc;simp at hc
theorem J32 {s:Sys} (hs:SzS s) (hc:checkF s=0):s.eqs.length≤120∧∀ q∈s.eqs,SideOk (knownF s.vars) q.left∧SideOk (knownF s.vars) q.right:=by
 obtain ⟨hL,hV⟩:=JAS hc;unfold largeF at hL;simp only[Bool.or_eq_false_iff,decide_eq_false_iff_not] at hL;obtain ⟨⟨⟨l1,l2⟩,l3⟩,l4⟩:=hL;have ht:=J5C l4;unfold validF at hV;simp only[Bool.and_eq_true,Bool.not_eq_true'] at hV;obtain ⟨⟨⟨_,hv⟩,hq,hn⟩,hw⟩:=hV;refine ⟨by omega,fun q hq'=>?_⟩;have:=List.all_eq_true.1 hq q hq';unfold eqT typedF at this;simp only[Bool.and_eq_true,decide_eq_true_eq] at this;have m:=J1w hq';have m1:q.left∈allF s:=by simp[allF,m.1]
 have m2:q.right∈allF s:=by simp[allF,m.2]
 exact ⟨⟨hs.e _ m1,this.1.1.1,Prod.ext this.1.2 this.1.1.2,ht _ m1⟩,⟨hs.e _ m2,this.2.1.1,Prod.ext this.2.2 this.2.1.2,ht _ m2⟩⟩
theorem J4X {ks:List (ByteArray×Va)} {ev:Ev} {e:Ex} (h:SideOk ks e) {v:Vl} (hv:evalF ks ev e=.ok v):∃ q,v=.num q:=by
 have:=J7l e h.b (by rw[h.t]) v hv;rw[h.t] at this
 rcases v with q | b
 ·exact ⟨q,rfl⟩
 ·cases this
theorem JK3 {S:List Nat} {H:Hp} {k:Nat} {L:List AV} {n:Nat} {xs:List Rat} (h:L=xs.map fun q=>J04 (.num q)) (hn:n=xs.length):AV.sl 6 (((L.drop 0).take n).map (J0U (J06 S H k)))=J6L xs:=by
 subst h;rw[J1N _ _ _ _ hn fun x=>by cases k<;>rfl];rfl
theorem J4B (s:Sys) (hs:SzS s) (e:EnvA) (he:SzB e):PureCall Tryz.prog 108 [J0Y s,J0c e] (JBM (residF s e)):=by
 refine PC [68] Tryz.func108 rfl (by rfl) rfl ?_;have hC:=J8C s hs;have hO:=JBX e he;have hk:=J4Z s hs.v;have hsd:=@J32 s hs;generalize hF:residF s e=F;unfold residF at hF;have hev:=@J7W e;have her:=@J5A e;generalize checkF s=ck at *;generalize hks:knownF s.vars=ks at *;generalize openS e=oe at *;have hE:=fun ev (he:EvOk ev) (x:Ex) (h:SideOk ks x)=>JFJ ks ev he x h.g.1 h.g.2 h.b (by rw[h.t]) (by have:=h.w;omega);have hsz:=fun ev (he:EvOk ev) (x:Ex) (h:SideOk ks x)=>J3J (ks:=ks) he x h.b;have hec:=fun ev (x:Ex) (h:SideOk ks x)=>J2N (ks:=ks) (ev:=ev) x h.b (by rw[h.t]);obtain ⟨vs,qs,ns,ws⟩:=s;obtain ⟨tm,ini,bs⟩:=e;unfold J0Y J0c at *;simp only at *;have hmq:=@List.length_map _ _ qs J0f;(refine kWQ ?_;repeat intro γ);refine CallP.flat [] _ c89 hC rfl ?_
 by_cases h0:ck=0
 case' neg=>
  rw[if_pos h0] at hF;(refine kWQ ?_;repeat intro γ);rw[← hF];exact J1p (Le.nil 6) (Le.refl _)
 rw[if_neg (fun h=>h h0)] at hF;replace hsd:=hsd h0;obtain ⟨hql,hsd⟩:=hsd;(refine kWQ ?_;repeat intro γ);refine J00 [] _ c67 hO ?_
 cases oe with
 | error c=>
   have hc:¬ c=0:=by rcases her rfl with rfl | rfl<;>decide
   (refine kWQ ?_;repeat intro γ);rw[← hF];exact J1p (Le.nil 6) (Le.refl _)
 | ok ev=>
   have hev:=hev rfl;replace hE:=hE ev hev;replace hsz:=hsz ev hev;replace hec:=hec ev;replace hF:resL ks ev qs=F:=hF;clear her hC hO h0 hs he;(refine kWQ ?_;repeat intro γ);refine J00 [] _ c99 hk ?_;(refine kWQ ?_;repeat intro γ)
   refine LoopP.intro (fun j σ H=>∃ gl i,∃ l:List Rat,j=qs.length-i∧i≤qs.length∧l.length=i∧conR l (resL ks ev (qs.drop i))=F ∧
    σ=fr [(7,J0u ev),(9,encK ks),(10,.own 68 gl 0 l.length),(32,.sl 9 (qs.map J0f)),(33,encI qs.length),(34,encI i)] ∧
    H=hp [(68,gl,⟨148,6,l.map fun q=>J04 (.num q)⟩)]) ?_ ?_
   ·exact .intro (J9M 10 68 148 6 rfl rfl fun gl=>W.of ⟨_,gl,0,[],rfl,Nat.zero_le _,rfl,(by rw[← hF];show conR [] (resL ks ev qs)=_;cases resL ks ev qs<;>rfl),rfl,rfl⟩ ⟨rfl,rfl,rfl,rfl,(by first | rfl | exact congrArg (fun n:Nat=>encI n) hmq),rfl,trivial⟩ ⟨rfl,trivial⟩)
   clear hF;rintro j σ H ⟨gl,i,l,rfl,hi,hli,hF,rfl,rfl⟩;have hml:=@List.length_map _ _ l fun q=>J04 (.num q)
   rcases Nat.lt_or_ge i qs.length with h9 | h9
   ·rw[List.drop_eq_getElem_cons h9] at hF;have hq:=hsd _ (List.getElem_mem h9);obtain ⟨q,hqq⟩:∃ q,qs[i]=q:=⟨_,rfl⟩;rw[hqq] at hF hq;obtain ⟨nm,lf,rt⟩:=q;obtain ⟨h1,h2⟩:=hq;have hE1:=hE _ h1;have hE2:=hE _ h2;have hc1:=hec _ h1;have hc2:=hec _ h2;have hz1:=hsz _ h1;have hz2:=hsz _ h2;have hw1:=h1.w;have hw2:=h2.w;have hv1:=fun v=>@J4X _ ev _ h1 v;have hv2:=fun v=>@J4X _ ev _ h2 v;clear h1 h2;simp only at hF hE1 hE2 hc1 hc2 hz1 hz2 hw1 hw2 hv1 hv2;unfold resL at hF;simp only at hF;generalize evalF ks ev lf=r1 at *;generalize evalF ks ev rt=r2 at *;rw[J03] at hE1 hE2;(refine kWQ ?_;repeat intro γ);simp only[hqq,J0f,J2U,List.cons_append,List.nil_append];(refine kQ ?_;repeat intro γ);refine J00 [] _ c100 hE1 ?_
    rcases r1 with c | v1
    ·have hc:=(hc1 c rfl).ne;(refine kWQ ?_;repeat intro γ);rw[← hF];exact J1p (Le.nil 6) (Le.refl _)
    obtain ⟨q1,rfl⟩:=hv1 v1 rfl;unfold J1S J04 J0j;unfold encF encQ;(refine kWQ ?_;repeat intro γ);refine J00 [] _ c100 hE2 ?_
    rcases r2 with c | v2
    ·have hc:=(hc2 c rfl).ne;(refine kWQ ?_;repeat intro γ);rw[← hF];exact J1p (Le.nil 6) (Le.refl _)
    obtain ⟨q2,rfl⟩:=hv2 v2 rfl;have hz1:=hz1 _ rfl;have hz2:=hz2 _ rfl;simp only[Vl.sz] at hz1 hz2;have hS:=J87 q1 q2 (by omega);have hN:=J1M (q1-q2);simp only[numO] at hF;generalize q1-q2=q3 at *;unfold encF encQ at hS hN;unfold J1S J04 J0j;unfold encF encQ;(refine kWQ ?_;repeat intro γ);refine J00 [] _ c80 hS ?_;(refine kWQ ?_;repeat intro γ);refine J00 [] _ c189 hN ?_;(refine kWQ ?_;repeat intro γ)
    refine .intro <| W.of ⟨_,by omega,γ,i+1,l++[q3],rfl,h9,by simp;omega,?_,rfl,rfl⟩ ⟨rfl,rfl,?_,rfl,rfl,rfl,trivial⟩ ⟨?_,trivial⟩
    ·rw[← hF];cases resL ks ev (qs.drop (i+1))<;>simp[conR]
    ·exact congrArg (AV.own 68 _ 0) (by simp)
    ·have e1:(l++[q3]).map (fun q=>J04 (.num q))=l.map (fun q=>J04 (.num q))++[J04 (.num q3)]:=by rw[List.map_append];rfl
     exact Eq.trans rfl (congrArg (fun z=>some (γ,(⟨148,6,z⟩:Blk))) e1.symm)
   ·obtain rfl:i=qs.length:=by omega
    rw[List.drop_eq_nil_of_le (Nat.le_refl _)] at hF;(refine kWQ ?_;repeat intro γ);refine .of ?_;rw[← hF];show AV.tup [_,_]=AV.tup [J6L (l++[]),_]
    rw[List.append_nil];exact congrArg (fun z=>AV.tup [z,encI 0]) (JK3 rfl (by simp))
def shoL:List Rat→Option (List ByteArray)
 | []=>some []
 | q::r=>if shortV (.num q) then (shoL r).map fun l=>strV (.num q)::l else none
def residS (s:Sys) (e:EnvA):List ByteArray×Int:=match residF s e with
 | .error c=>([],c)
 | .ok l=>match shoL l with
   | none=>([],2)
   | some l=>(l,0)
def JJT (p:List ByteArray×Int):AV:=.tup [.sl 1 (p.1.map encS),encI p.2]
theorem JK2 {S:List Nat} {H:Hp} {k:Nat} {L:List AV} {n:Nat} {xs:List ByteArray} (h:L=xs.map encS) (hn:n=xs.length):AV.sl 1 (((L.drop 0).take n).map (J0U (J06 S H k)))=.sl 1 (xs.map encS):=by
 subst h;rw[J1N _ _ _ _ hn fun x=>by cases k<;>rfl]
def conT (out:List ByteArray):Option (List ByteArray)→List ByteArray×Int
 | none=>([],2)
 | some l=>(out++l,0)
theorem JDk {ks:List (ByteArray×Va)} {ev:Ev} (hev:EvOk ev):∀ {l:List Eqn} {r:List Rat},(∀ q∈l,SideOk ks q.left∧SideOk ks q.right)→resL ks ev l=.ok r→r.length=l.length∧∀ q∈r,szq q<2^32
 | [],r,_,h=>by cases h;exact ⟨rfl,fun q hq=>by cases hq⟩
 | x :: l, r,hs,h=>by
   unfold resL at h;obtain ⟨h1,h2⟩:=hs x (by simp)
   cases e1:evalF ks ev x.left with
   | error c=>rw[e1] at h;cases h
   | ok a=>
     cases e2:evalF ks ev x.right with
     | error c=>rw[e1,e2] at h;cases h
     | ok b=>
       cases e3:resL ks ev l with
       | error c=>rw[e1,e2,e3] at h;cases h
       | ok t=>
         rw[e1,e2,e3] at h;cases h;obtain ⟨h3,h4⟩:=JDk hev (fun q hq=>hs q (by simp[hq])) e3;refine ⟨by simp[h3],fun q hq=>?_⟩
         rcases List.mem_cons.1 hq with rfl | hq
         ·obtain ⟨p,rfl⟩:=J4X h1 e1;obtain ⟨p',rfl⟩:=J4X h2 e2;have a1:=J3J (ks:=ks) hev x.left h1.b _ e1;have a2:=J3J (ks:=ks) hev x.right h2.b _ e2;have b1:=h1.w;have b2:=h2.w;simp only[Vl.sz] at a1 a2;have:=J9w p p';simp only[numO];omega
         ·exact h4 q hq
theorem J56 {s:Sys} (hs:SzS s) {e:EnvA} {r:List Rat} (h:residF s e=.ok r):checkF s=0∧r.length=s.eqs.length∧r.length≤120∧∀ q∈r,szq q<2^32:=by
 unfold residF at h
 by_cases h0:checkF s=0
 case' neg=>rw[if_pos h0] at h;cases h
 rw[if_neg (fun k=>k h0)] at h
 cases ho:openS e with
 | error c=>rw[ho] at h;cases h
 | ok ev=>
   rw[ho] at h;obtain ⟨h1,h2⟩:=J32 hs h0;obtain ⟨h3,h4⟩:=JDk (J7W ho) h2 h;exact ⟨h0,h3,by omega,h4⟩
theorem JAv {ks:List (ByteArray×Va)} {ev:Ev}:∀ {l:List Eqn} {c:Int},(∀ q∈l,SideOk ks q.left∧SideOk ks q.right)→resL ks ev l=.error c→¬ c=0
 | [],c,_,h=>by cases h
 | x :: l,c,hs,h=>by
   unfold resL at h;obtain ⟨h1,h2⟩:=hs x (by simp)
   cases e1:evalF ks ev x.left with
   | error c=>rw[e1] at h;cases h;exact (J2N x.left h1.b (by rw[h1.t]) _ e1).ne
   | ok a=>
     cases e2:evalF ks ev x.right with
     | error c=>rw[e1,e2] at h;cases h;exact (J2N x.right h2.b (by rw[h2.t]) _ e2).ne
     | ok b=>
       cases e3:resL ks ev l with
       | error c=>rw[e1,e2,e3] at h;cases h;exact JAv (fun q hq=>hs q (by simp[hq])) e3
       | ok t=>rw[e1,e2,e3] at h;cases h
theorem J3v {s:Sys} (hs:SzS s) {e:EnvA} {c:Int} (h:residF s e=.error c):¬ c=0:=by
 unfold residF at h
 by_cases h0:checkF s=0
 case' neg=>rw[if_pos h0] at h;cases h;exact h0
 rw[if_neg (fun k=>k h0)] at h
 cases ho:openS e with
 | error c=>rw[ho] at h;cases h;rcases J5A ho with rfl | rfl<;>decide
 | ok ev=>rw[ho] at h;exact JAv (J32 hs h0).2 h
theorem J9W (s:Sys) (hs:SzS s) (e:EnvA) (he:SzB e):PureCall Tryz.prog 42 [J0Y s,J0c e] (JJT (residS s e)):=by
 refine PC [33] Tryz.func42 rfl (by rfl) rfl ?_;have hR:=J4B s hs e he;have hsz:=fun r=>@J56 s hs e r;have her:=fun c=>@J3v s hs e c;generalize hF:residS s e=F;unfold residS at hF;generalize residF s e=rf at *;obtain ⟨vs,qs,ns,ws⟩:=s;obtain ⟨tm,ini,bs⟩:=e;unfold J0Y J0c at *;simp only at *;clear hs he;(refine kWQ ?_;repeat intro γ);refine J00 [] _ c108 hR ?_
 rcases rf with c | rs
 ·have hc:=her c rfl;(refine kWQ ?_;repeat intro γ);rw[← hF];exact J1p (Le.nil 1) (Le.refl _)
 ·obtain ⟨_,_,hl,hz⟩:=hsz rs rfl;replace hF:conT [] (shoL rs)=F:=by rw[← hF];show conT [] (shoL rs)=(match shoL rs with | none=>([],2) | some l=>(l,0));cases shoL rs<;>rfl
  have hmr:=@List.length_map _ _ rs fun q=>J04 (.num q);clear hsz her hR;(refine kWQ ?_;repeat intro γ)
  refine LoopP.intro (fun j σ H=>∃ gl i,∃ l:List ByteArray,j=rs.length-i∧i≤rs.length∧l.length=i∧conT l (shoL (rs.drop i))=F ∧
   σ=fr [(8,.own 33 gl 0 l.length),(20,J6L rs),(21,encI rs.length),(22,encI i)]∧H=hp [(33,gl,⟨9,1,l.map encS⟩)]) ?_ ?_
  ·exact .intro (J9M 8 33 9 1 rfl rfl fun gl=>W.of ⟨_,gl,0,[],rfl,Nat.zero_le _,rfl,hF,rfl,rfl⟩ ⟨rfl,rfl,(by first | rfl | exact congrArg (fun n:Nat=>encI n) hmr),rfl,trivial⟩ ⟨rfl,trivial⟩)
  clear hF;rintro j σ H ⟨gl,i,l,rfl,hi,hli,hF,rfl,rfl⟩;have hml:=@List.length_map _ _ l encS
  rcases Nat.lt_or_ge i rs.length with h9 | h9
  ·rw[List.drop_eq_getElem_cons h9] at hF;have hq:=hz _ (List.getElem_mem h9);obtain ⟨q,hqq⟩:∃ q,rs[i]=q:=⟨_,rfl⟩;rw[hqq] at hF hq;have hSh:=J9T (.num q) (by simp only[Vl.sz];omega);have hSt:=J7A (.num q) (by simp only[Vl.sz];omega);unfold shoL at hF;generalize shortV (.num q)=sv at *;generalize strV (.num q)=str at *;have hq':J04 (.num q)=.agg [encB (decide (q.num<0)),encW q.num.natAbs,encB (decide ((q.den:Int)<0)),encW (q.den:Int).natAbs,encB false,encB false]:=rfl;rw[hq'] at hSh hSt;unfold J6L;(refine kWQ ?_;repeat intro γ);simp only[hqq,hq'];(refine kQ ?_;repeat intro γ);refine J00 [] _ c101 hSh ?_
   cases sv with
   | false=>
     (refine kWQ ?_;repeat intro γ);rw[← hF];exact J1p (Le.nil 1) (Le.refl _)
   | true=>
     rw[if_pos rfl] at hF;(refine kWQ ?_;repeat intro γ);refine J00 [] _ c102 hSt ?_;(refine kWQ ?_;repeat intro γ)
     refine .intro <| W.of ⟨_,by omega,γ,i+1,l++[str],rfl,h9,by simp;omega,?_,rfl,rfl⟩ ⟨?_,rfl,rfl,rfl,trivial⟩ ⟨?_,trivial⟩
     ·rw[← hF];cases shoL (rs.drop (i+1))<;>simp[conT]
     ·exact congrArg (AV.own 33 _ 0) (by simp)
     ·have e1:(l++[str]).map encS=l.map encS++[encS str]:=by rw[List.map_append];rfl
      rw[e1];rfl
  ·obtain rfl:i=rs.length:=by omega
   rw[List.drop_eq_nil_of_le (Nat.le_refl _)] at hF;(refine kWQ ?_;repeat intro γ);refine .of ?_;rw[← hF];show AV.tup [_,_]=AV.tup [.sl 1 ((l++[]).map encS),_]
   rw[List.append_nil];exact congrArg (fun z=>AV.tup [z,encI 0]) (JK2 rfl (by simp))
theorem JEB (q:Rat):PureCall Tryz.prog 110 [J04 (.num q)] (encB (decide (q≠0))):=by
 refine PC [] Tryz.func110 rfl (by rfl) rfl ?_;have hS:=J3c q.num q.den
 have hd:decide (q≠0)=decide (sgn q.num≠0):=by
  refine decide_eq_decide.2 (not_congr ?_)
  have:sgn q.num=0↔q.num=0:=by
   unfold sgn;split
   ·simp[*]
   ·split<;>omega
  rw[this,Rat.num_eq_zero]
 rw[hd];generalize sgn q.num=g at *;unfold J04 J0j;unfold encF encQ at *;refine kWQ ?_;intros;refine CallP.flat [] _ c111 hS rfl ?_;refine kWQ ?_;intros;refine .of ?_;show AV.val (.bool (!decide (g=0)))=AV.val (.bool (decide (g≠0)))
 by_cases h:g=0<;>simp[h]
theorem JE4 (k:Nat) (p:Rat→Bool) (l:List Rat) (hl:l.length≤2^60) (hk:J02 Tryz.prog k) (hf:∀ x∈l,PureCall Tryz.prog k [J04 (.num x)] (encB (p x))) :
  PureCall Tryz.prog 192 [J6L l,.fn (.func k) [] []] (encI (J0d p l 0)):=by
 refine PC [] Tryz.func192 rfl (by rfl) rfl ?_;generalize hF:J0d p l 0=F;unfold J6L;refine kWS ?_;intros;refine LoopP.intro (fun n σ H=>∃ i,i≤l.length∧n=l.length-i∧J0d p (l.drop i) i=F∧σ=fr [(0,.sl 6 (l.map fun q=>J04 (.num q))),(1,.fn (.func k) [] []),(7,encI l.length),(8,encI i)]∧H=hp []) ?_ ?_
 ·exact .intro <| W.of ⟨_,0,Nat.zero_le _,rfl,hF,rfl,rfl⟩ ⟨rfl,rfl,by simp;rfl,rfl,trivial⟩ trivial
 ·rintro n σ H ⟨i,hi,rfl,hc,rfl,rfl⟩;refine kWS ?_;intros;refine CondP.dec (fun h=>?_) (fun h=>?_)<;>refine kW ?_
  ·have hi':i<l.length:=by omega
   have hx:=hf _ (List.getElem_mem hi');rw[List.drop_eq_getElem_cons hi'] at hc;unfold J0d at hc;refine kR ?_;intros;generalize l[i]=x at hx hc ⊢;unfold J04 J0j at hx ⊢;unfold encF encQ at hx ⊢;refine kR ?_;intros;refine CallP.flat [] _ hk hx rfl ?_;refine kWS ?_;intros;refine CondP.intro (fun hq=>?_) (fun hq=>?_)<;>refine kW ?_
   ·rw[hq] at hc;refine kS ?_;intros;exact .of (by rw[← hc];rfl)
   ·rw[hq] at hc;refine kS ?_;intros
    exact .intro <| W.of ⟨_,by omega,i+1,hi',rfl,hc,rfl,rfl⟩ ⟨rfl,rfl,rfl,rfl,trivial⟩ trivial
  ·refine kS ?_;intros;rw[List.drop_eq_nil_of_le (by omega)] at hc;exact .of (by rw[← hc];rfl)
theorem J99 (k:Nat) (p:Rat→Bool) (l:List Rat) (hl:l.length≤2^60) (hk:J02 Tryz.prog k) (hf:∀ x∈l,PureCall Tryz.prog k [J04 (.num x)] (encB (p x))) :
  PureCall Tryz.prog 109 [J6L l,.fn (.func k) [] []] (encB (l.any p)):=by
 refine PC [] Tryz.func109 rfl (by rfl) rfl ?_;have hI:=JE4 k p l hl hk hf;unfold J6L at *;refine kWS ?_;intros;refine CallP.flat [] _ c192 hI rfl ?_;refine kWS ?_;intros;refine .of ?_;show AV.val (Value.bool (decide (0≤J0d p l 0)))=AV.val (Value.bool (l.any p))
 congr 2
 rw[Bool.eq_iff_iff,decide_eq_true_iff];exact J2I p l 0 (by omega)
def holdsS (s:Sys) (e:EnvA):Bool×Int:=match residF s e with
 | .error c=>(false,c)
 | .ok l=>(!l.any fun q=>decide (q≠0),0)
theorem JGw (s:Sys) (hs:SzS s) (e:EnvA) (he:SzB e):PureCall Tryz.prog 41 [J0Y s,J0c e] (.tup [encB (holdsS s e).1,encI (holdsS s e).2]):=by
 refine PC [] Tryz.func41 rfl (by rfl) rfl ?_;have hR:=J4B s hs e he;have hsz:=fun r=>@J56 s hs e r;have her:=fun c=>@J3v s hs e c;generalize hF:holdsS s e=F;unfold holdsS at hF;generalize residF s e=rf at *;obtain ⟨vs,qs,ns,ws⟩:=s;obtain ⟨tm,ini,bs⟩:=e;unfold J0Y J0c at *;simp only at *;clear hs he;refine kWQ ?_;intros;refine J00 [] _ c108 hR ?_
 rcases rf with c | rs
 ·have hc:=her c rfl;refine kWQ ?_;intros;exact .of (by rw[← hF];rfl)
 ·obtain ⟨_,_,hl,hz⟩:=hsz rs rfl;have hC:=J99 110 (fun q=>decide (q≠0)) rs (by omega) c110 fun x _=>JEB x;replace hF:(!rs.any fun q=>decide (q≠0),(0:Int))=F:=hF;generalize (rs.any fun q=>decide (q≠0))=an at *;unfold JBM J6L at *;refine kWQ ?_;intros;refine CallP.flat [] _ c109 hC rfl ?_
  cases an with
  | true=>
    refine kWQ ?_;intros;exact .of (by rw[← hF];rfl)
  | false=>
    refine kWQ ?_;intros;exact .of (by rw[← hF];rfl)
theorem JDY (n:Int):sT n=[48]↔n=0:=by
 rw[JHD];constructor
 ·intro h;split at h
  ·cases h
  ·have:=J8z n.natAbs;rw[h] at this;have:n.natAbs=0:=this.symm;omega
 ·rintro rfl;rfl
theorem JFq (q:Rat):strV (.num q)=⟨#[48]⟩↔q=0:=by
 have hl:∀ l:List Nat,(∀ c∈l,c<256)→(ofL (l.map UInt8.ofNat)=⟨#[48]⟩↔l=[48]):=by
  intro l hl;constructor
  ·intro h;have h:(l.map UInt8.ofNat)=[48]:=congrArg (fun b:ByteArray=>b.data.toList) h
   rcases l with _ | ⟨c,_ | ⟨d,r⟩⟩
   ·cases h
   ·have h1:=hl c (by simp);simp only[List.map_cons,List.map_nil,List.cons.injEq,and_true] at h;have h2:c%256=48:=congrArg UInt8.toNat h;have h3:c=48:=by omega
    rw[h3]
   ·simp at h
  ·rintro rfl;rfl
 show ofL ((qT q.num q.den).map UInt8.ofNat)=_↔_
 rw[← Rat.num_eq_zero (q:=q),← JDY];unfold qT
 by_cases h:(q.den:Int)=1
 ·rw[if_pos h];exact hl _ (JC1 _)
 ·rw[if_neg h]
  rw[hl _ (fun c hc=>by
   rcases List.mem_append.1 hc with h | h
   ·exact JC1 _ c h
   ·rcases List.mem_cons.1 h with rfl | h
    ·decide
    ·exact JC1 _ c h)]
  constructor
  ·intro h1;have:(47:Nat)∈([48]:List Nat):=by rw[← h1];simp
   simp at this
  ·intro h1;exfalso;have h0:q.num=0:=(JDY _).1 h1;have:q=0:=Rat.num_eq_zero.1 h0;rw[this] at h;exact h rfl
theorem J4y:∀ {rs:List Rat} {l:List ByteArray},shoL rs=some l→l=rs.map fun q=>strV (.num q)
 | [],l,h=>by cases h;rfl
 | q :: r,l,h=>by
   unfold shoL at h;split at h
   ·cases hr:shoL r with
    | none=>rw[hr] at h;cases h
    | some t=>
      rw[hr] at h;cases h;rw[J4y hr];rfl
   ·cases h
theorem JEA {s:Sys} (hs:SzS s) {e:EnvA} :
  (¬ (residS s e).2=0∧((holdsS s e).2=(residS s e).2∨(residS s e).2=2)) ∨
  ((residS s e).2=0∧(holdsS s e).2=0∧(residS s e).1.length=s.eqs.length∧(holdsS s e).1=(residS s e).1.all fun t=>decide (t=⟨#[48]⟩)):=by
 unfold residS holdsS
 cases hr:residF s e with
 | error c=>exact .inl ⟨J3v hs hr,.inl rfl⟩
 | ok rs=>
   simp only
   cases hl:shoL rs with
   | none=>exact .inl ⟨(by decide:¬ (2:Int)=0),.inr rfl⟩
   | some l=>
     right;obtain ⟨_,h2,_,_⟩:=J56 hs hr;refine ⟨by trivial,by trivial,?_,?_⟩
     ·simp only;rw[J4y hl,List.length_map,h2]
     ·simp only;rw[J4y hl,List.all_map,List.not_any_eq_all_not]
      congr 1
      funext q
      show (!decide (q≠0))=decide (strV (.num q)=⟨#[48]⟩)
      rw[Bool.eq_iff_iff];simp[JFq]
def J7h:Option U→List Bd→Bool
 | _,[]=>true
 | p,b::r=>(valV b.value).isSome&&fitF b.use&&!J5B p b.use&&J7h (some b.use) r
def lenV (v:Va):Nat:=v.name.size+v.value.size+v.start.size+v.unit.size
def JCL:List Va→Nat
 | []=>0
 | v::r=>lenV v+JCL r
def greatS (s:Sys):Bool:=decide (40000<JCL s.vars)||decide (200<s.vars.length)||decide (200<s.eqs.length)||decide (200<s.inits.length)||decide (200<s.whens.length)
theorem JFH (s:Sys) (hs:SzS s) (hl:s.vars.length≤2^20):PureCall Tryz.prog 22 [J0Y s] (encB (greatS s)):=by
 refine PC [] Tryz.func22 rfl (by rfl) rfl ?_;have ht:=hs.t;generalize hF:greatS s=F;unfold greatS at hF;obtain ⟨vs,qs,ns,ws⟩:=s;simp only at hl ht hF;unfold J0Y;simp only;have mv:=@List.length_map _ _ vs encV;have mq:=@List.length_map _ _ qs J0f;have mn:=@List.length_map _ _ ns J0f;have mw:=@List.length_map _ _ ws J13;obtain ⟨S,hS⟩:∃ z,JCL vs=z:=⟨_,rfl⟩;rw[hS] at hF;refine kWQ ?_;intros
 refine LoopP.intro (fun k σ H=>∃ gs i,∃ t:Nat,k=vs.length-i∧i≤vs.length∧t≤i*2^38∧t+JCL (vs.drop i)=S ∧
   σ=fr [(1,.op 1 gs 0 0),(3,encI t),(4,encI i)] ∧
   H=hp [(1,gs,⟨26,4,[.agg [.sl 7 (vs.map encV),.sl 9 (qs.map J0f),.sl 9 (ns.map J0f),.sl 6 (ws.map J13)]]⟩)]) ?_ ?_
 ·exact .intro (W.of ⟨_,_,0,0,rfl,Nat.zero_le _,Nat.zero_le _,by rw[Nat.zero_add];exact hS,rfl,rfl⟩ ⟨rfl,rfl,rfl,trivial⟩ ⟨rfl,trivial⟩)
 rintro k σ H ⟨gs,i,t,rfl,hi,htt,hT,rfl,rfl⟩
 rcases Nat.lt_or_ge i vs.length with h1 | h1
 ·rw[List.drop_eq_getElem_cons h1] at hT;have hvi:=ht _ (List.getElem_mem h1);unfold JCL lenV at hT;obtain ⟨q1,q2,q3,q4⟩:=hvi;refine kWQ ?_;intros
  refine .intro <| W.of ⟨_,by omega,gs,i+1,t+(vs[i].name.size+vs[i].value.size+vs[i].start.size+vs[i].unit.size),rfl,h1,by omega,by omega,rfl,rfl⟩ ⟨rfl,?_,rfl,trivial⟩ ⟨rfl,trivial⟩
  exact congrArg encI (by push_cast;omega)
 ·rw[List.drop_eq_nil_of_le h1] at hT;unfold JCL at hT;rw[Nat.add_zero] at hT;subst hT;refine kWO ?_;intros;refine CondP.dec (fun c1=>?_) (fun c1=>?_)<;>refine kW ?_
  ·refine kQ ?_;intros;have e:F=true:=by rw[← hF];simp only[Bool.or_eq_true,decide_eq_true_eq];omega
   exact .of (by rw[e];rfl)
  refine kQ ?_;intros;refine CondP.dec (fun c2=>?_) (fun c2=>?_)<;>refine kW ?_
  ·refine kQ ?_;intros;have e:F=true:=by rw[← hF];simp only[Bool.or_eq_true,decide_eq_true_eq];omega
   exact .of (by rw[e];rfl)
  refine kQ ?_;intros;refine CondP.dec (fun c3=>?_) (fun c3=>?_)<;>refine kW ?_
  ·refine kQ ?_;intros;have e:F=true:=by rw[← hF];simp only[Bool.or_eq_true,decide_eq_true_eq];omega
   exact .of (by rw[e];rfl)
  refine kQ ?_;intros;refine CondP.dec (fun c4=>?_) (fun c4=>?_)<;>refine kW ?_
  ·refine kQ ?_;intros;have e:F=true:=by rw[← hF];simp only[Bool.or_eq_true,decide_eq_true_eq];omega
   exact .of (by rw[e];rfl)
  refine kQ ?_;intros;refine .of ?_;rw[decide_eq_false (by omega),decide_eq_false (by omega),decide_eq_false (by omega),decide_eq_false (by omega)] at hF;simp only[Bool.false_or] at hF;rw[← hF];exact congrArg encB (decide_eq_decide.2 (by omega))
def manyF (e:EnvA):Bool:=decide (300<e.binds.length)&&decide (e.binds.length≤1000)
theorem JI5 (e:EnvA) (hl:e.binds.length≤2^60):PureCall Tryz.prog 39 [J0c e] (encB (manyF e)):=by
 refine PC [] Tryz.func39 rfl (by rfl) rfl ?_;obtain ⟨tm,ini,bs⟩:=e;simp only at hl;generalize hF:manyF ⟨tm,ini,bs⟩=F;unfold manyF at hF;simp only at hF;unfold J0c;have hml:=@List.length_map _ _ bs JCR;refine kWQ ?_;intros;refine CondP.dec (fun h1=>?_) (fun h1=>?_)<;>refine kW ?_
 ·refine kQ ?_;intros
  have h2:300<bs.length:=by first | omega | (rw[List.length_map] at h1;omega)
  rw[decide_eq_true h2,Bool.true_and] at hF;refine .of ?_;rw[← hF];show AV.val (.bool (decide _))=AV.val (.bool (decide _))
  congr 2
  exact decide_eq_decide.2 (by first | omega | (rw[List.length_map];omega))
 ·refine kQ ?_;intros
  have h2:¬ 300<bs.length:=by first | omega | (rw[List.length_map] at h1;omega)
  rw[decide_eq_false h2,Bool.false_and] at hF;exact .of (by rw[← hF];rfl)
theorem J6O (ha:PureCall Tryz.prog 40 [] (encB true)) (s:Sys) (hs:SzS s) (e:EnvA) (he:SzB e):PureCall Tryz.prog 9 [J0Y s,J0c e] (encB true):=by
 refine PC [] Tryz.func9 rfl (by rfl) rfl ?_;have hg:=JFH s hs hs.v20;have hm:=JI5 e (Nat.le_trans he.l (by decide));have h1:=JGw s hs e he;have h2:=J9W s hs e he;have hlaw:=JEA hs (e:=e);have hq:=hs.q;generalize greatS s=gr at *;generalize manyF e=mf at *;generalize residS s e=r at *;generalize holdsS s e=q at *;obtain ⟨ts,f⟩:=r;obtain ⟨b,g⟩:=q;obtain ⟨vs,qs,ns,ws⟩:=s;obtain ⟨tm,ini,bs⟩:=e;unfold J0Y J0c JJT at *;simp only at *;clear hs he;have hmq:=@List.length_map _ _ qs J0f;have hmt:=@List.length_map _ _ ts encS;refine kWQ ?_;intros;refine CallP.flat [] _ c22 hg rfl ?_
 cases gr with
 | true=>
   refine kWQ ?_;intros;refine CallP.flat [] _ c40 ha rfl ?_;refine kWQ ?_;intros;exact .of rfl
 | false=>
 refine kWQ ?_;intros;refine CallP.flat [] _ c39 hm rfl ?_
 cases mf with
 | true=>
   refine kWQ ?_;intros;refine CallP.flat [] _ c40 ha rfl ?_;refine kWQ ?_;intros;exact .of rfl
 | false=>
 refine kWQ ?_;intros;refine CallP.flat [] _ c41 h1 rfl ?_;refine kWQ ?_;intros;refine J00 [] _ c42 h2 ?_
 rcases hlaw with ⟨h0,h3⟩ | ⟨h0,h3,h4,h5⟩
 ·by_cases h6:g=f
  ·subst h6;refine kWQ ?_;intros
   (repeat (simp only[beq_self_eq_true,decide_true];refine kQ ?_;intros))
   refine CallP.flat [] _ c40 ha rfl ?_;refine kWQ ?_;intros
   (repeat (simp only[beq_self_eq_true,decide_true];refine kQ ?_;intros))
   exact .of rfl
  ·obtain rfl:=h3.resolve_left h6;refine kWQ ?_;intros
   (repeat (simp only[beq_self_eq_true,decide_true];refine kQ ?_;intros))
   refine CallP.flat [] _ c40 ha rfl ?_;refine kWQ ?_;intros
   (repeat (simp only[beq_self_eq_true,decide_true];refine kQ ?_;intros))
   exact .of rfl
 ·subst h0 h3;refine kWQ ?_;intros
  refine LoopP.intro (fun j σ H=>∃ g2 i,∃ acc:Bool,j=ts.length-i∧i≤ts.length∧b=(acc&&(ts.drop i).all fun t=>decide (t=⟨#[48]⟩)) ∧
   σ=fr [(2,.op 2 g2 0 0),(5,encB b),(6,encI 0),(7,.sl 1 (ts.map encS)),(9,encB acc),(10,encI i)] ∧
   H=hp [(2,g2,⟨26,4,[.agg [.sl 7 (vs.map encV),.sl 9 (qs.map J0f),.sl 9 (ns.map J0f),.sl 6 (ws.map J13)]]⟩)]) ?_ ?_
  ·exact .intro (W.of ⟨_,_,0,true,rfl,Nat.zero_le _,h5,rfl,rfl⟩ ⟨rfl,rfl,rfl,rfl,rfl,rfl,trivial⟩ ⟨rfl,trivial⟩)
  clear h5 h1 h2;rintro j σ H ⟨g2,i,acc,rfl,hi,hb,rfl,rfl⟩
  rcases Nat.lt_or_ge i ts.length with h9 | h9
  ·rw[List.drop_eq_getElem_cons h9,List.all_cons] at hb;obtain ⟨t,htt⟩:∃ t,ts[i]=t:=⟨_,rfl⟩;rw[htt] at hb
   cases acc with
   | false=>
     refine kWQ ?_;intros
     exact .intro <| W.of ⟨_,by omega,g2,i+1,false,rfl,h9,by rw[hb];rfl,rfl,rfl⟩ ⟨rfl,rfl,rfl,rfl,rfl,rfl,trivial⟩ ⟨rfl,trivial⟩
   | true=>
     refine kWQ ?_;intros;simp only[htt];refine kQ ?_;intros
     exact .intro <| W.of ⟨_,by omega,g2,i+1,decide (t=⟨#[48]⟩),rfl,h9,by rw[hb,Bool.true_and],rfl,rfl⟩ ⟨rfl,rfl,rfl,rfl,rfl,rfl,trivial⟩ ⟨rfl,trivial⟩
  ·obtain rfl:i=ts.length:=by omega
   rw[List.drop_eq_nil_of_le (Nat.le_refl _),List.all_nil,Bool.and_true] at hb;subst hb;refine kWQ ?_;intros
   (repeat (simp only[beq_self_eq_true,decide_true];refine kQ ?_;intros))
   refine CallP.flat [] _ c40 ha rfl ?_;refine kWQ ?_;intros
   (repeat (simp only[beq_self_eq_true,decide_true];refine kQ ?_;intros))
   exact .of rfl
theorem OpenB.low {H:Type} {L:DataW H→Prop} {N M:Nat} {enc:TypeId×Value→H} {P:Program} {w:World} {t:Nat} {Ψ:List AV→Prop} (h:OpenB L M enc P w t Ψ) (hn:N≤M):OpenB L N enc P w t Ψ:=fun fuel hf=>h fuel (Nat.le_trans hf hn)
theorem J1g {t e:Nat} {d:Fw.TD} (hd:T t=some d) (hk:d.kind=.slice e):Tryz.prog.underlying t=some (.slice e):=by
 obtain ⟨u,hu,hr⟩:=(J0Q (J47 _ _ hd)).und;rw[hk] at hr;cases u<;>simp[kdOf] at hr
 subst hr;exact hu
theorem u3:Tryz.prog.underlying 3=some (.int .i64):=by kernel_rfl
theorem u4:Tryz.prog.underlying 4=some .bool:=by kernel_rfl
theorem u9:Tryz.prog.underlying 9=some .string:=by kernel_rfl
section
variable {H:Type} {enc:TypeId×Value→H} {w:World} {L:DataW H→Prop} {B0:Nat}
abbrev pS (B0:Nat):List AV→Prop:=fun z=>∃ s:ByteArray,z=[AV.val (.string s)]∧s.size≤B0
abbrev pI:List AV→Prop:=fun z=>∃ n:Int,z=[AV.val (.int .i64 n)]
abbrev pB:List AV→Prop:=fun z=>∃ b:Bool,z=[AV.val (.bool b)]
theorem JJy (hL:LB L B0) (N:Nat):OpenB L (N+1) enc Tryz.prog w 54 fun z=>∃ u:U,z=(encU u).cells∧u.name.size≤B0:=by
 obtain ⟨fs,hu,hf⟩:=J0P (J47 54 _ rfl) rfl
 refine (J0R hL hu [(0,9,1,pS B0),(1,3,1,pI),(2,4,1,pB)] hf (by
  intro p hp;simp only[List.mem_cons,List.not_mem_nil,or_false] at hp
  rcases hp with rfl | rfl | rfl<;>kernel_rfl) (by kernel_rfl) (by
  intro p hp;simp only[List.mem_cons,List.not_mem_nil,or_false] at hp
  rcases hp with rfl | rfl | rfl
  ·exact J0a hL u9
  ·exact J2H u3
  ·exact J3x u4)).mono ?_
 rintro z ⟨zs,rfl,h⟩
 match zs,h with
 | [z0,z1,z2],⟨⟨s,h0,hs⟩,⟨n,h1⟩,⟨b,h2⟩,_⟩=>
   subst h0 h1 h2;exact ⟨⟨s,n,b⟩,rfl,hs⟩
def J9d (e:Ex):Prop:=SzE e∧TxE e
abbrev pExp (w:World):List AV→Prop:=fun z=>∃ e:Ex,z=(encE e).cells∧J9d e
theorem JDq (hL:LB L B0) (hB:B0<2^21):∀ N:Nat,OpenB L N enc Tryz.prog w 29 (pExp w)
 | 0=>by
   intro fuel hf cs x h _;obtain ⟨fs,hu,_⟩:=J0P (J47 29 _ rfl) rfl;obtain ⟨_,n,hn,_⟩:=DataW.trod_struct hu h;omega
 | N + 1=>by
   obtain ⟨fs,hu,hf⟩:=J0P (J47 29 _ rfl) rfl;have hk:=OpenB.low (J16 (n:=4) (f:=encE) (Φ:=J9d) hL (J1g (t:=27) (e:=29) rfl rfl) (by kernel_rfl) (by decide) (JDq hL hB N)) (Nat.le_succ N)
   refine (J0R hL hu [(0,9,1,pS B0),(1,9,1,pS B0),(2,3,1,pI),(3,27,1,_)] hf (by
    intro p hp;simp only[List.mem_cons,List.not_mem_nil,or_false] at hp
    rcases hp with rfl | rfl | rfl | rfl<;>kernel_rfl) (by kernel_rfl) (by
    intro p hp;simp only[List.mem_cons,List.not_mem_nil,or_false] at hp
    rcases hp with rfl | rfl | rfl | rfl
    ·exact J0a hL u9
    ·exact J0a hL u9
    ·exact J2H u3
    ·exact hk)).mono ?_
   rintro z ⟨zs,rfl,h⟩
   match zs,h with
   | [z0,z1,z2,z3],⟨⟨o,h0,ho⟩,⟨t,h1,ht⟩,⟨n,h2⟩,⟨l,h3,hl,hg⟩,_⟩=>
     subst h0 h1 h2 h3;refine ⟨.mk o t n l,?_,SzE.mk (by omega) (by omega) (by omega) fun k hk=>(hg k hk).1,TxE.mk (by omega) fun k hk=>(hg k hk).2⟩;rw[J03];rfl
theorem JJD (hL:LB L B0) (hB:B0<2^21) (N:Nat):OpenB L (N+1) enc Tryz.prog w 58 fun z=>∃ q:Eqn,z=(J0f q).cells∧q.name.size≤B0∧J9d q.left∧J9d q.right:=by
 obtain ⟨fs,hu,hf⟩:=J0P (J47 58 _ rfl) rfl
 refine (J0R hL hu [(0,9,1,pS B0),(1,29,4,pExp w),(5,29,4,pExp w)] hf (by
  intro p hp;simp only[List.mem_cons,List.not_mem_nil,or_false] at hp
  rcases hp with rfl | rfl | rfl<;>kernel_rfl) (by kernel_rfl) (by
  intro p hp;simp only[List.mem_cons,List.not_mem_nil,or_false] at hp
  rcases hp with rfl | rfl | rfl
  ·exact J0a hL u9
  ·exact JDq hL hB N
  ·exact JDq hL hB N)).mono ?_
 rintro z ⟨zs,rfl,h⟩
 match zs,h with
 | [z0,z1,z2],⟨⟨s,h0,hs⟩,⟨a,h1,ha⟩,⟨b,h2,hb⟩,_⟩=>
   subst h0 h1 h2;refine ⟨⟨s,a,b⟩,?_,hs,ha,hb⟩;rw[J0I,J0I];rfl
theorem JJF (hL:LB L B0) (hB:B0<2^21) (N:Nat):OpenB L (N+1) enc Tryz.prog w 260 fun z=>∃ a:Ac,z=(J8p a).cells∧J9d a.value:=by
 obtain ⟨fs,hu,hf⟩:=J0P (J47 260 _ rfl) rfl
 refine (J0R hL hu [(0,3,1,pI),(1,9,1,pS B0),(2,29,4,pExp w)] hf (by
  intro p hp;simp only[List.mem_cons,List.not_mem_nil,or_false] at hp
  rcases hp with rfl | rfl | rfl<;>kernel_rfl) (by kernel_rfl) (by
  intro p hp;simp only[List.mem_cons,List.not_mem_nil,or_false] at hp
  rcases hp with rfl | rfl | rfl
  ·exact J2H u3
  ·exact J0a hL u9
  ·exact JDq hL hB N)).mono ?_
 rintro z ⟨zs,rfl,h⟩
 match zs,h with
 | [z0,z1,z2],⟨⟨n,h0⟩,⟨s,h1,hs⟩,⟨b,h2,hb⟩,_⟩=>
   subst h0 h1 h2;refine ⟨⟨n,s,b⟩,?_,hb⟩;rw[J0I];rfl
theorem JJA (hL:LB L B0) (hB:B0<2^21) (N:Nat):OpenB L (N+3) enc Tryz.prog w 228 fun z=>∃ a:Whn,z=(J13 a).cells∧a.name.size≤B0∧a.acts.length≤B0∧J9d a.cond∧∀ x∈a.acts,J9d x.value:=by
 obtain ⟨fs,hu,hf⟩:=J0P (J47 228 _ rfl) rfl;have hk:=J16 (n:=6) (f:=J8p) (Φ:=fun a=>J9d a.value) hL (J1g (t:=226) (e:=260) rfl rfl) (by kernel_rfl) (by decide) (JJF (enc:=enc) (w:=w) hL hB N)
 refine (J0R hL hu [(0,9,1,pS B0),(1,29,4,pExp w),(5,226,1,_)] hf (by
  intro p hp;simp only[List.mem_cons,List.not_mem_nil,or_false] at hp
  rcases hp with rfl | rfl | rfl<;>kernel_rfl) (by kernel_rfl) (by
  intro p hp;simp only[List.mem_cons,List.not_mem_nil,or_false] at hp
  rcases hp with rfl | rfl | rfl
  ·exact J0a hL u9
  ·exact JDq hL hB _
  ·exact hk)).mono ?_
 rintro z ⟨zs,rfl,h⟩
 match zs,h with
 | [z0,z1,z2],⟨⟨s,h0,hs⟩,⟨a,h1,ha⟩,⟨l,h2,hl,hb⟩,_⟩=>
   subst h0 h1 h2;refine ⟨⟨s,a,l⟩,?_,hs,hl,ha,hb⟩;rw[J0I];rfl
theorem JJB (hL:LB L B0) (N:Nat):OpenB L (N+1) enc Tryz.prog w 89 fun z=>∃ v:Va,z=(encV v).cells∧v.name.size≤B0∧v.value.size≤B0∧v.start.size≤B0∧v.unit.size≤B0:=by
 obtain ⟨fs,hu,hf⟩:=J0P (J47 89 _ rfl) rfl
 refine (J0R hL hu [(0,9,1,pS B0),(1,3,1,pI),(2,3,1,pI),(3,9,1,pS B0),(4,9,1,pS B0),(5,4,1,pB),(6,9,1,pS B0)] hf (by
  intro p hp;simp only[List.mem_cons,List.not_mem_nil,or_false] at hp
  rcases hp with rfl | rfl | rfl | rfl | rfl | rfl | rfl<;>kernel_rfl) (by kernel_rfl) (by
  intro p hp;simp only[List.mem_cons,List.not_mem_nil,or_false] at hp
  rcases hp with rfl | rfl | rfl | rfl | rfl | rfl | rfl
  ·exact J0a hL u9
  ·exact J2H u3
  ·exact J2H u3
  ·exact J0a hL u9
  ·exact J0a hL u9
  ·exact J3x u4
  ·exact J0a hL u9)).mono ?_
 rintro z ⟨zs,rfl,h⟩
 match zs,h with
 | [z0,z1,z2,z3,z4,z5,z6],⟨⟨a,h0,g0⟩,⟨b,h1⟩,⟨c,h2⟩,⟨d,h3,g3⟩,⟨e,h4,g4⟩,⟨f,h5⟩,⟨g,h6,g6⟩,_⟩=>
   subst h0 h1 h2 h3 h4 h5 h6;exact ⟨⟨a,b,c,d,e,f,g⟩,rfl,g0,g3,g4,g6⟩
theorem JJC (hL:LB L B0) (hB:B0≤2^20) (N:Nat):OpenB L (N+5) enc Tryz.prog w 26 fun z=>∃ s:Sys,z=(J0Y s).cells∧SzS s:=by
 obtain ⟨fs,hu,hf⟩:=J0P (J47 26 _ rfl) rfl;have hB':B0<2^21:=by omega
 have k1:=OpenB.low (J16 (n:=7) (f:=encV) hL (J1g (t:=22) (e:=89) rfl rfl) (by kernel_rfl) (by decide) (JJB (enc:=enc) (w:=w) hL (N+2))) (N:=N+4) (by omega);have k2:=OpenB.low (J16 (n:=9) (f:=J0f) hL (J1g (t:=23) (e:=58) rfl rfl) (by kernel_rfl) (by decide) (JJD (enc:=enc) (w:=w) hL hB' (N+2))) (N:=N+4) (by omega);have k3:=OpenB.low (J16 (n:=6) (f:=J13) hL (J1g (t:=24) (e:=228) rfl rfl) (by kernel_rfl) (by decide) (JJA (enc:=enc) (w:=w) hL hB' N)) (N:=N+4) (by omega)
 refine (J0R hL hu [(0,22,1,_),(1,23,1,_),(2,23,1,_),(3,24,1,_)] hf (by
  intro p hp;simp only[List.mem_cons,List.not_mem_nil,or_false] at hp
  rcases hp with rfl | rfl | rfl | rfl<;>kernel_rfl) (by kernel_rfl) (by
  intro p hp;simp only[List.mem_cons,List.not_mem_nil,or_false] at hp
  rcases hp with rfl | rfl | rfl | rfl
  ·exact k1
  ·exact k2
  ·exact k2
  ·exact k3)).mono ?_
 rintro z ⟨zs,rfl,h⟩
 match zs,h with
 | [z0,z1,z2,z3],⟨⟨vs,h0,l0,g0⟩,⟨qs,h1,l1,g1⟩,⟨ns,h2,l2,g2⟩,⟨ws,h3,l3,g3⟩,_⟩=>
   subst h0 h1 h2 h3;refine ⟨⟨vs,qs,ns,ws⟩,rfl,⟨by simp only;omega,by simp only;omega,by simp only;omega,by simp only;omega,fun w hw=>?_,fun e he=>?_,fun v hv=>?_,⟨fun q hq=>?_,fun q hq=>?_,fun w hw=>?_⟩,by simp only;omega⟩⟩
   ·have:=(g3 w hw).2.1;omega
   ·unfold allF at he
    rcases List.mem_append.1 he with he | he
    ·rcases List.mem_append.1 he with he | he
     ·unfold J1O at he;obtain ⟨q,hq,he⟩:=List.mem_flatMap.1 he;simp only[List.mem_cons,List.not_mem_nil,or_false] at he
      rcases he with rfl | rfl
      ·exact (g1 q hq).2.1
      ·exact (g1 q hq).2.2
     ·unfold J1O at he;obtain ⟨q,hq,he⟩:=List.mem_flatMap.1 he;simp only[List.mem_cons,List.not_mem_nil,or_false] at he
      rcases he with rfl | rfl
      ·exact (g2 q hq).2.1
      ·exact (g2 q hq).2.2
    ·obtain ⟨x,hx,he⟩:=List.mem_flatMap.1 he;unfold J4o at he
     rcases List.mem_cons.1 he with rfl | he
     ·exact (g3 x hx).2.2.1
     ·obtain ⟨a,ha,rfl⟩:=List.mem_map.1 he;exact (g3 x hx).2.2.2 a ha
   ·have:=g0 v hv;exact ⟨by omega,by omega,by omega,by omega⟩
   ·have:=(g1 q hq).1;omega
   ·have:=(g2 q hq).1;omega
   ·have:=(g3 w hw).1;omega
end
section
variable {H:Type} {enc:TypeId×Value→H} {w:World} {L:DataW H→Prop} {B0:Nat}
theorem JJE (hL:LB L B0) (N:Nat):OpenB L (N+2) enc Tryz.prog w 82 fun z=>∃ b:Bd,z=(JCR b).cells∧b.use.name.size≤B0∧b.value.size≤B0:=by
 obtain ⟨fs,hu,hf⟩:=J0P (J47 82 _ rfl) rfl
 refine (J0R hL hu [(0,54,3,_),(3,9,1,pS B0)] hf (by
  intro p hp;simp only[List.mem_cons,List.not_mem_nil,or_false] at hp
  rcases hp with rfl | rfl<;>kernel_rfl) (by kernel_rfl) (by
  intro p hp;simp only[List.mem_cons,List.not_mem_nil,or_false] at hp
  rcases hp with rfl | rfl
  ·exact JJy hL N
  ·exact J0a hL u9)).mono ?_
 rintro z ⟨zs,rfl,h⟩
 match zs,h with
 | [z0,z1],⟨⟨u,h0,hs⟩,⟨v,h1,hv⟩,_⟩=>
   subst h0 h1;exact ⟨⟨u,v⟩,rfl,hs,hv⟩
theorem JI0 (hL:LB L B0) (hB:B0≤2^20) (N:Nat):OpenB L (N+4) enc Tryz.prog w 33 fun z=>∃ e:EnvA,z=(J0c e).cells∧SzB e:=by
 obtain ⟨fs,hu,hf⟩:=J0P (J47 33 _ rfl) rfl;have k:=J16 (n:=4) (f:=JCR) hL (J1g (t:=31) (e:=82) rfl rfl) (by kernel_rfl) (by decide) (JJE (enc:=enc) (w:=w) hL N)
 refine (J0R hL hu [(0,9,1,pS B0),(1,4,1,pB),(2,31,1,_)] hf (by
  intro p hp;simp only[List.mem_cons,List.not_mem_nil,or_false] at hp
  rcases hp with rfl | rfl | rfl<;>kernel_rfl) (by kernel_rfl) (by
  intro p hp;simp only[List.mem_cons,List.not_mem_nil,or_false] at hp
  rcases hp with rfl | rfl | rfl
  ·exact J0a hL u9
  ·exact J3x u4
  ·exact k)).mono ?_
 rintro z ⟨zs,rfl,h⟩
 match zs,h with
 | [z0,z1,z2],⟨⟨t,h0,ht⟩,⟨b,h1⟩,⟨l,h2,hl,hg⟩,_⟩=>
   subst h0 h1 h2
   exact ⟨⟨t,b,l⟩,rfl,by simp only;omega,by simp only;omega,fun x hx=>by
    have:=hg x hx
    constructor<;>omega⟩
end
structure G where
 eqs:List ByteArray
 uses:List U
 joined:List (List Int)
end Go.Proofs.YtlblbldolhiokaaGreatDoor
namespace Go.Proofs.YtlblbldolhiokaaGreatDoor
open Go Go.Fw Go.ChangeShapes Go.WideShapes Go.ChangeAt Go.RowKit
theorem JG4:ownKnob Tryz.prog.godebug=none:=by kernel_rfl
theorem J7c:laidOutB Tryz.prog=true:=by kernel_rfl
section
variable {H:Type}
theorem JK8 (d:DataW H):1≤Rows.uptoBulk d:=by
 cases d with
 | lit l=>cases l<;>simp[Rows.uptoBulk]
 | _=>simp[Rows.uptoBulk]
theorem J5z {d:DataW H} {l:List (DataW H)} (h:d∈l):Rows.uptoBulk d≤Rows.uptoBulkAll l:=by
 induction l with
 | nil=>cases h
 | cons x r ih=>
   simp only[Rows.uptoBulkAll]
   cases List.mem_cons.1 h with
   | inl e=>subst e;omega
   | inr e=>have:=ih e;omega
theorem JGo (l:List (DataW H)):l.length≤Rows.uptoBulkAll l:=by
 induction l with
 | nil=>simp[Rows.uptoBulkAll]
 | cons x r ih=>have:=JK8 x;simp only[Rows.uptoBulkAll,List.length_cons];omega
abbrev Blk (H:Type):DataW H→Prop:=fun d=>Rows.uptoBulk d≤1048576
theorem JHP:LB (Blk H) 1048576:=by
 refine ⟨fun e s h=>?_,fun p h d hd=>?_,fun s h=>?_⟩
 ·have h:Rows.uptoBulkAll e+Rows.uptoBulkAll s+1≤1048576:=by simpa [Blk,Rows.uptoBulk] using h
  refine ⟨by have:=JGo e;omega,fun d hd=>?_⟩;have:=J5z hd;show Rows.uptoBulk d≤1048576
  omega
 ·have h:Rows.uptoBulkAll p+1≤1048576:=by simpa [Blk,Rows.uptoBulk] using h
  have:=J5z hd;show Rows.uptoBulk d≤1048576
  omega
 ·have h:s.length+1≤1048576:=by simpa [Blk,Rows.uptoBulk] using h
  omega
theorem JDS {l:List (DataW H)} (h:Rows.uptoSmall H l=true):∀ d∈l,Blk H d:=fun d hd=>by
 have h:Rows.uptoBulkAll l≤1048576:=by simpa [Rows.uptoSmall] using h
 exact Nat.le_trans (J5z hd) h
end
section
variable {H:Type} {enc:TypeId×Value→H} {w:World} {L:DataW H→Prop} {N t:Nat} {Ψ:List AV→Prop}
theorem JB2 (hO:OpenB L N enc Tryz.prog w t Ψ) {fuel:Nat} (hf:fuel≤N) {v:Value} {x:DataW H×List MemPlace} (hv:∃ cs,v=.agg cs) (h:DataW.trod enc Tryz.prog w 0 (fun _=>true) true fuel t v.cells.toList=some x) (hl:L x.1):∃ z,Ψ z∧VR KM.empty w NoN (.agg z) v:=by
 obtain ⟨z,h1,h2⟩:=hO fuel hf _ x h hl;obtain ⟨cs,rfl⟩:=hv;have e:(Value.agg cs).cells.toList=cs.toList:=by simp[Value.cells]
 rw[e] at h1;refine ⟨z,h2,.agg _ cs (h1.len.trans (by simp)) (fun i h h'=>?_) (fun i h=>h1.pl _ (by simp))⟩;have:=h1.rel i h (by simpa using h');rw[Array.getElem_toList] at this;exact this
end
def flatD:Nat→DataW Unit→List Value
 | _,.lit (.int k n)=>[.int k n]
 | n+1,.agg ps=>ps.flatMap (flatD n)
 | _,_=>[]
def putT (d:DataW Unit):Obj→Obj
 | .cells _ t z=>.cells (flatD 3 d).toArray t z
 | o=>o
noncomputable def laidW (os:Os):World:=
 { World.holding Tryz.prog os ⟨#[],#[],[]⟩ with heap:=((World.holding Tryz.prog os ⟨#[],#[],[]⟩).heap.modify 1 (putT Rows.laid_unicode_utf8_first)).modify 2 (putT Rows.laid_unicode_utf8_acceptRanges) }
abbrev laidL:List (String×DataW Unit):=[("unicode/utf8.acceptRanges",Rows.laid_unicode_utf8_acceptRanges),("unicode/utf8.first",Rows.laid_unicode_utf8_first)]
theorem JGC (os:Os) (args:Array Value):laidMet Tryz.prog laidL ((laidW os).forCall (fun _ _=>0) ⟨#[],args,[]⟩).memory:=
 laidMet_of_run' 8 (by kernel_rfl) (by kernel_rfl)
theorem JCH:mapsRowed Tryz.prog=true:=by kernel_rfl
theorem J9y:Tryz.prog.stopsHeard=true:=by kernel_rfl
theorem JDy:Tryz.prog.mayEnter=true:=by kernel_rfl
theorem JAA:(Rows.systemHoldsUptoRow.lifted==Tryz.prog.liftsFinal)=true:=by kernel_rfl
theorem JI6:(Tryz.prog.make==some Rows.systemHoldsUptoRow.make)=true:=by kernel_rfl
theorem JJG:false=Tryz.pinned.checked.prog.looks []:=by kernel_rfl
theorem JI7:Tryz.pinned.checked.prog.mainIs=some (Rows.systemHoldsUptoCard.stood.harness.1,Rows.systemHoldsUptoCard.stood.harness.2.toList):=by kernel_rfl
theorem JCE {n:String} {k:FuncId} {g:Func} {ts:Array TypeId} (h1:Tryz.prog.funcNamed n=some k) (h2:Tryz.prog.funcs[k]?=some g) (h3:g.params=ts) (h4:ts.all (fun t=>!Tryz.prog.wantsStandIn t)=true)
  (f:FuncId) (fn:Func) (hf:Tryz.pinned.checked.prog.funcNamed n=some f) (hfn:Tryz.pinned.checked.prog.funcs[f]?=some fn) :
  false=Tryz.pinned.checked.prog.looks []∧∀ (j:Nat) t,fn.params[j]?=some t→Tryz.pinned.checked.prog.wantsStandIn t=false:=by
 obtain rfl:f=k:=Option.some.inj (hf.symm.trans h1);obtain rfl:fn=g:=Option.some.inj (hfn.symm.trans h2);refine ⟨JJG,fun j t ht=>?_⟩;rw[h3] at ht;have:=Array.all_eq_true'.1 h4 t (Array.mem_of_getElem? ht);have h5:Tryz.pinned.checked.prog.wantsStandIn t=Tryz.prog.wantsStandIn t:=rfl;rw[h5]
 simpa using this
end Go.Proofs.YtlblbldolhiokaaGreatDoor
