/- Part 51 of the proof. -/
import Derived.Test.YtlblbldolhiokaaGreatDoorType50
import Derived.Test.YtlblbldolhiokaaGreatDoorType49
set_option linter.unusedVariables false
set_option linter.unusedSimpArgs false
set_option linter.unusedSectionVars false
set_option maxRecDepth 100000
set_option exponentiation.threshold 400
set_option maxHeartbeats 8000000
namespace Go.Proofs.YtlblbldolhiokaaGreatDoor
open Go Go.Fw
theorem J9Z (x y:UInt8)(a b:List UInt8):Op.bytesLess (x::a) (y::b)=(decide (x<y)||(decide (x=y)&&Op.bytesLess a b)):=by
 simp only[Op.bytesLess]
 by_cases h1:x<y
 ·simp[h1]
 ·by_cases h2:x=y<;>simp[h1,h2]
theorem JI6:∀ a b:List UInt8,(Op.bytesLess a b||decide (a=b))=!Op.bytesLess b a
 |[],[]=>by simp[Op.bytesLess]
 |[],_::_=>by simp[Op.bytesLess]
 |_::_,[]=>by simp[Op.bytesLess]
 |x :: a, y::b=>by
   rw[J9Z,J9Z];have ih:=JI6 a b
   by_cases h1:x<y
   ·have h2:¬ y<x:=fun h=>absurd (UInt8.lt_trans h1 h) (UInt8.lt_irrefl x);have h3:¬ y=x:=fun h=>by subst h;exact UInt8.lt_irrefl _ h1
    simp[h1,h2,h3]
   ·by_cases h2:x=y
    ·subst h2;simp only[h1,decide_false,decide_true,Bool.false_or,Bool.true_and,List.cons.injEq,true_and];exact ih
    ·have h3:y<x:=by
      rcases Nat.lt_or_ge y.toNat x.toNat with h|h
      ·exact UInt8.lt_iff_toNat_lt.2 h
      ·exfalso
       rcases Nat.lt_or_ge x.toNat y.toNat with h'|h'
       ·exact h1 (UInt8.lt_iff_toNat_lt.2 h')
       ·exact h2 (UInt8.toNat.inj (by omega))
     have h4:¬ y=x:=fun h=>h2 h.symm;simp[h1,h2,h3,h4]
theorem JMe (s:ByteArray):∀ (n i:Nat) (r:List UInt8),s.size-i=n→ByteArray.toList.loop s i r=r.reverse++s.data.toList.drop i:=by
 intro n
 induction n with
 |zero=>
   intro i r h;have hs:s.data.toList.length=s.size:=rfl;rw[ByteArray.toList.loop,if_neg (by omega),List.drop_eq_nil_of_le (by omega),List.append_nil]
 |succ n ih=>
   intro i r h;have hs:s.data.toList.length=s.size:=rfl;have hi:i<s.data.toList.length:=by omega
   rw[ByteArray.toList.loop,if_pos (by omega),ih (i+1) _ (by omega),List.drop_eq_getElem_cons hi,List.reverse_cons,List.append_assoc]
   have e:s.get! i=s.data.toList[i]:=by
    show s.data[i]! = _
    rw[getElem!_pos s.data i hi];simp
   rw[e];rfl
theorem J4O (s:ByteArray):s.toList=s.data.toList:=by
 have:=JMe s _ 0 [] rfl
 simpa [ByteArray.toList] using this
theorem J9a {a b:ByteArray}(h:a.toList=b.toList):a=b:=by
 rw[J4O,J4O] at h;exact ByteArray.ext (Array.toList_inj.1 h)
theorem JM3 (a b:ByteArray):leqS a b=!ltS b a:=by
 unfold leqS ltS;rw[← JI6]
 congr 1
 exact decide_eq_decide.2 ⟨fun h=>by rw[h],J9a⟩
theorem JLx (n:Int):nlt n=!lttI n:=by
 unfold nlt lttI;rw[Bool.eq_iff_iff];simp only[Bool.and_eq_true,Bool.or_eq_true,decide_eq_true_eq,Bool.not_eq_true',decide_eq_false_iff_not];omega
theorem JHF (l:List UInt8):∀ i:Int,fiL l i=if ltN l<l.length then i+ltN l else -1:=by
 induction l with
 |nil=>intro i;rfl
 |cons c r ih=>
   intro i;unfold fiL;rw[JLx]
   by_cases hc:lttI c.toNat=true
   ·have e:ltN (c::r)=ltN r+1:=by rw[ltN,if_pos hc]
    rw[hc,e,if_neg (by decide),ih];simp only[List.length_cons]
    by_cases h:ltN r<r.length
    ·rw[if_pos h,if_pos (by omega)];omega
    ·rw[if_neg h,if_neg (by omega)]
   ·have hc':lttI c.toNat=false:=by simpa using hc
    have e:ltN (c::r)=0:=by rw[ltN,if_neg hc]
    rw[hc',e];simp
theorem JJf (l:List UInt8):ltN (l.take (ltN l))=ltN l:=by
 induction l with
 |nil=>rfl
 |cons c r ih=>
   by_cases hc:lttI c.toNat=true
   ·have e:ltN (c::r)=ltN r+1:=by rw[ltN,if_pos hc]
    rw[e,List.take_succ_cons,ltN,if_pos hc,ih]
   ·have e:ltN (c::r)=0:=by rw[ltN,if_neg hc]
    rw[e];rfl
theorem JG4 (l:List UInt8):symF l=(decide (1≤l.length)&&decide (l.length≤8)&&decide (ltN l=l.length)):=by
 unfold symF;have h:=(J5Z l).1;rw[JHF,show decide (l≠[])=decide (1≤l.length) from decide_eq_decide.2 (by rw[ne_eq,← List.length_eq_zero_iff];omega)]
 congr 1
 rw[← decide_not];refine decide_eq_decide.2 ?_;split<;>omega
theorem J3V {a b:List UInt8}:ofL a=ofL b↔a=b:=⟨fun h=>by
 have:=congrArg (fun s:ByteArray=>s.data.toList) h
 simpa [ofL] using this,fun h=>by rw[h]⟩
theorem JO2 (n:Int)(d:Nat):qT n (d:Int)=rT n d:=by
 unfold qT rT
 by_cases h:d=1
 ·rw[if_pos h,if_pos (by omega)]
 ·rw[if_neg h,if_neg (by omega)]
  congr 2
theorem J8C (n:Int)(d:Nat):fitsF n (d:Int)=(!decide (n=0)&&J2S n d):=by
 unfold fitsF J2S nd;have:(sgn n=0)↔n=0:=by unfold sgn;split<;>(try split)<;>omega
 rw[decide_eq_decide.2 this,Int.natAbs_natCast,Bool.and_assoc]
theorem J8x (n:Int)(d:Nat):∃ c r,rT n d=c::r∧(c=45∨48≤c∧c≤57):=by
 have hc:=J3D n.natAbs;have hd:=J1u n.natAbs;rw[JEX]
 by_cases hn:n<0
 ·rw[if_pos hn];exact ⟨_,_,rfl,.inl rfl⟩
 ·rw[if_neg hn]
  cases hT:decT n.natAbs with
  |nil=>rw[hT] at hc;simp[J1h] at hc
  |cons c r=>
    rw[hT,List.all_cons,Bool.and_eq_true] at hd;have:=hd.1;unfold isDg at this;simp at this;exact ⟨_,_,rfl,.inr this⟩
theorem JKw (n:Int)(d:Nat)(h:okR (n,d)):rT n d=[49]↔n=1∧d=1:=by
 constructor
 ·intro e;have h1:=J5V n d h;rw[e] at h1
  have h2:readR (([49]:List Nat).map UInt8.ofNat)=some (1,1):=by
   have:okR (1,1):=⟨Nat.one_pos,by decide,JHX,JHX⟩;have h3:=J5V 1 1 this
   have e1:rT 1 1=[49]:=by
    unfold rT;rw[if_pos rfl,JAA,if_neg (by decide)];unfold decT;rw[if_neg (by decide),show (1:Int).natAbs=1 from rfl,J3K (by decide) (by decide) (by decide)];rfl
   rwa [e1] at h3
  rw[h2] at h1;cases h1;exact ⟨rfl,rfl⟩
 ·rintro ⟨rfl,rfl⟩;unfold rT;rw[if_pos rfl,JAA,if_neg (by decide)];unfold decT;rw[if_neg (by decide),show (1:Int).natAbs=1 from rfl,J3K (by decide) (by decide) (by decide)];rfl
theorem JFh (n:Int)(d:Nat)(h:okR (n,d)):wrT n (d:Int)=if n=1∧d=1 then [] else if d=1 then rT n d else 40::rT n d++[41]:=by
 unfold wrT;rw[JO2]
 by_cases h1:n=1∧d=1
 ·rw[if_pos h1,if_pos ((JKw n d h).2 h1)]
 ·rw[if_neg h1,if_neg (fun e=>h1 ((JKw n d h).1 e))]
  by_cases h2:d=1
  ·rw[if_pos h2,if_pos (by omega)]
  ·rw[if_neg h2,if_neg (by omega)]
theorem extL (l:List UInt8)(a b:Nat):(ofL l).extract a b=ofL ((l.take b).drop a):=J0B l a b
theorem JHa (l:List UInt8):(ofL l).data.toList=l:=by simp[ofL]
def facI (r:List UInt8):List UInt8:=match r with
 |40::t=>if t.getLast?=some 41 then t.take (t.length-1) else t
 |_=>r
theorem JMC (l:List UInt8)(c:UInt8):hasX (ofL l) (b1 c)=decide (l.getLast?=some c):=by
 unfold hasX;rw[show (b1 c).size=1 from rfl,J06,extL,List.take_length];rw[Bool.eq_iff_iff];simp only[Bool.and_eq_true,decide_eq_true_eq]
 rcases snoc l with rfl|⟨r,d,rfl⟩
 ·simp
 ·rw[List.getLast?_append];simp only[List.length_append,List.length_cons,List.length_nil,List.getLast?_singleton,Option.some_or,Option.some.injEq];rw[show r.length+(0+1)-1=r.length by omega,List.drop_left]
  have:ofL [d]=b1 c↔d=c:=by
   have:b1 c=ofL [c]:=rfl;rw[this,J3V];simp
  rw[this];exact ⟨fun h=>h.2,fun h=>⟨by omega,h⟩⟩
theorem JH6 (l:List UInt8)(c:UInt8):hasP (ofL l) (b1 c)=decide (l.head?=some c):=by
 unfold hasP;rw[show (b1 c).size=1 from rfl,J06,extL,List.drop_zero];rw[Bool.eq_iff_iff];simp only[Bool.and_eq_true,decide_eq_true_eq]
 cases l with
 |nil=>simp
 |cons d r=>
   simp only[List.length_cons,List.take_succ_cons,List.take_zero,List.head?_cons,Option.some.injEq]
   have:ofL [d]=b1 c↔d=c:=by
    have:b1 c=ofL [c]:=rfl;rw[this,J3V];simp
   rw[this];exact ⟨fun h=>h.2,fun h=>⟨by omega,h⟩⟩
theorem JMG (l:List UInt8)(p:Nat):facT (ofL l) p=ofL (facI (l.drop p)):=by
 unfold facT;rw[show (ofL l).extract p (ofL l).size=ofL (l.drop p) by rw[extL,J06,List.take_length]];generalize l.drop p=r;unfold cutP J8m;rw[JH6];unfold facI
 cases r with
 |nil=>rfl
 |cons c t=>
   by_cases hc:c=40
   ·subst hc;simp only[List.head?_cons,decide_true,if_true];rw[show (ofL (40::t)).extract (b1 40).size (ofL (40::t)).size=ofL t by rw[extL,J06,List.take_length];rfl,JMC]
    by_cases h:t.getLast?=some 41
    ·rw[decide_eq_true h,if_pos rfl,if_pos h,extL,J06];rfl
    ·rw[decide_eq_false h,if_neg (by decide),if_neg h]
   ·have:decide ((c::t).head?=some 40)=false:=by simpa using hc
    rw[this];simp only[Bool.false_eq_true,if_false];split
    ·rename_i h;cases h;exact absurd rfl hc
    ·rfl
theorem JHI {f:List UInt8}{x:Fac}(h:facR f=some x):1≤x.1.length:=by
 have hp:=(J5Z f).1;unfold facR at h;split at h
 ·cases h
 ·rename_i h1;split at h
  ·cases h;show 1≤f.length
   omega
  ·split at h
   ·cases h
   ·split at h
    ·cases h
    ·split at h
     ·cases h
     ·split at h
      ·cases h
      ·split at h
       ·cases h;simp only[List.length_take];omega
       ·cases h
theorem JMH (f:List UInt8):facF (ofL f)=if f.length≤ltN f then (ofL f,some (1,1),symF f)
  else (ofL (f.take (ltN f)),(J0C (facI (f.drop (ltN f)))).1,(J0C (facI (f.drop (ltN f)))).2&&symF (f.take (ltN f))&&match (J0C (facI (f.drop (ltN f)))).1 with
   |some (n,d)=>fitsF n d&&decide (ofL ((wrT n d).map UInt8.ofNat)=ofL (f.drop (ltN f)))
   |none=>false):=by
 unfold facF;rw[JHa,JHF]
 by_cases h:ltN f<f.length
 ·rw[if_pos h,if_neg (by omega),if_neg (by omega),show ((0:Int)+(ltN f:Int)).toNat=ltN f by omega,JMG,JHa,extL,List.drop_zero,JHa,extL,J06,List.take_length]
  try rfl
 ·rw[if_neg h,if_pos (by decide),if_pos (by omega)]
theorem JK2 (f:List UInt8):(facF (ofL f)).2.2=(facR f).isSome∧∀ x,facR f=some x→(facF (ofL f)).1=ofL x.1:=by
 rw[JMH];have hle:=(J5Z f).1;have hsy:=JG4 (f.take (ltN f));rw[JJf,List.length_take,Nat.min_eq_left hle,decide_eq_true rfl,Bool.and_true] at hsy;unfold facR
 by_cases h0:f.length≤ltN f
 ·have e:ltN f=f.length:=by omega
  rw[if_pos h0,JG4,e,List.drop_length,decide_eq_true rfl,Bool.and_true]
  by_cases h1:f.length<1∨8<f.length
  ·rw[if_pos h1];refine ⟨?_,fun x h=>by cases h⟩
   rcases h1 with h1|h1
   ·rw[decide_eq_false (by omega)];rfl
   ·rw[decide_eq_false (show ¬ f.length≤8 by omega),Bool.and_false];rfl
  ·rw[if_neg h1,if_pos rfl,decide_eq_true (by omega),decide_eq_true (by omega)];exact ⟨rfl,fun x h=>by cases h;rfl⟩
 ·rw[if_neg h0]
  by_cases h1:ltN f<1∨8<ltN f
  ·rw[if_pos h1,hsy];refine ⟨?_,fun x h=>by cases h⟩
   have:(decide (1≤ltN f)&&decide (ltN f≤8))=false:=by
    rcases h1 with h1|h1
    ·rw[decide_eq_false (by omega)];rfl
    ·rw[decide_eq_false (show ¬ ltN f≤8 by omega),Bool.and_false]
   simp only[this,Bool.and_false,Bool.false_and];rfl
  ·rw[if_neg h1,hsy,decide_eq_true (by omega),decide_eq_true (by omega)];have hr:f.drop (ltN f)≠[]:=fun e=>by have:=congrArg List.length e;simp at this;omega
   rw[if_neg hr];generalize f.drop (ltN f)=r at *;simp only[Bool.and_true,Bool.true_and];obtain ⟨q1,q2⟩:=J1z (facI r)
   have key:∀ b:Bool,(b=true→(match readR (innB r) with
     |none=>none
     | some x=>if J2S x.1 x.2=false then none else if x.1=0 then none else if x.1=x.2 then none
       else if decide (x.2=1)=decide (innB r=r) then some (f.take (ltN f),x) else none)=(none:Option Fac))→True:=fun _ _=>trivial
   clear key
   rcases r with _|⟨c,t⟩
   ·exact absurd rfl hr
   by_cases hc:c=40
   ·subst hc
    have hI:facI (40::t)=if t.getLast?=some 41 then t.take (t.length-1) else t:=rfl
    by_cases hl:t.getLast?=some 41
    ·
     rw[if_pos hl] at hI
     obtain ⟨u,rfl⟩:∃ u,t=u++[41]:=by
      rcases snoc t with h|⟨u,d,h⟩
      ·rw[h] at hl;simp at hl
      ·rw[h] at hl;simp at hl;exact ⟨u,by rw[h,hl]⟩
     have hI2:facI (40::(u++[41]))=u:=by rw[hI];simp
     have hB:innB (40::(u++[41]))=u:=by
      unfold innB;have hb2:(40::(u++[41]):List UInt8).headD 0=40∧(40::(u++[41]):List UInt8).getLastD 0=41:=⟨rfl,by rw[List.getLastD_eq_getLast?,← List.cons_append,List.getLast?_append];rfl⟩;rw[if_pos hb2];simp
     rw[hI2] at q1 q2 ⊢;rw[hB];have hne:decide (u=40::(u++[41]))=false:=decide_eq_false fun e=>by have:=congrArg List.length e;simp at this;omega
     rw[hne]
     cases ho:readR u with
     |none=>
       rw[ho] at q1;rw[q1];exact ⟨rfl,fun x h=>by cases h⟩
     |some x=>
       obtain ⟨n,d⟩:=x;rw[ho] at q1;obtain ⟨hk,htx⟩:=J1K ho;rw[q2 _ ho];simp only[Bool.true_and];rw[J8C,JFh n d hk]
       have hw:(ofL ((if n=1∧d=1 then [] else if d=1 then rT n d else 40::rT n d++[41]:List Nat).map UInt8.ofNat)=ofL (40::(u++[41])))↔d≠1:=by
        rw[J3V]
        by_cases hd:d=1
        ·simp only[hd,and_true,if_true,ne_eq,not_true,iff_false]
         by_cases hn:n=1
         ·rw[if_pos hn];intro h;cases h
         ·rw[if_neg hn];obtain ⟨c,r,hcr,hh⟩:=J8x n 1;rw[hcr];intro h;have:=congrArg (fun l:List UInt8=>(l.headD 0).toNat) h;simp at this;omega
        ·rw[if_neg (fun e=>hd e.2),if_neg hd];simp only[hd,ne_eq,not_false_eq_true,iff_true];rw[List.map_append,List.map_cons,← htx];rfl
       rw[decide_eq_decide.2 hw]
       by_cases hs:J2S n d=false
       ·rw[if_pos hs,hs];exact ⟨by simp,fun x h=>by cases h⟩
       rw[if_neg hs,show J2S n d=true by simpa using hs]
       by_cases hn0:n=0
       ·rw[if_pos hn0,decide_eq_true hn0];exact ⟨by simp,fun x h=>by cases h⟩
       rw[if_neg hn0,decide_eq_false hn0]
       by_cases hd:d=1
       ·rw[decide_eq_true hd,decide_eq_false (by simpa using hd)];split
        ·exact ⟨rfl,fun x h=>by cases h⟩
        ·exact ⟨rfl,fun x h=>by cases h⟩
       ·rw[decide_eq_false hd,decide_eq_true hd]
        have hnd:¬ n=(d:Int):=fun e=>by
         have:=hk.2.1;simp only at this;rw[e,Int.natAbs_natCast,Nat.gcd_self] at this;exact hd this
        rw[if_neg hnd,if_pos rfl];exact ⟨rfl,fun x h=>by cases h;rfl⟩
    ·
     rw[if_neg hl] at hI
     have hB:innB (40::t)=40::t:=by
      unfold innB;rw[if_neg];rintro ⟨_,h⟩;rw[List.getLastD_eq_getLast?] at h
      cases t with
      |nil=>simp at h
      |cons a b=>
        rw[List.getLast?_cons_cons] at h
        cases hg:(a::b).getLast? with
        |none=>simp at hg
        |some z=>rw[hg] at h hl;simp at h;exact hl (by rw[h])
     rw[hI] at q1 q2 ⊢;rw[hB]
     have hno:readR (40::t)=none:=by
      cases ho:readR (40::t) with
      |none=>rfl
      |some x=>
        exfalso;obtain ⟨hk,htx⟩:=J1K ho;obtain ⟨c,r,hcr,hh⟩:=J8x x.1 x.2;rw[hcr] at htx;have:=congrArg (fun l:List UInt8=>(l.headD 0).toNat) htx;simp at this;omega
     rw[hno];refine ⟨?_,fun x h=>by cases h⟩
     cases ho:readR t with
     |none=>rw[ho] at q1;rw[q1];rfl
     |some x=>
       obtain ⟨n,d⟩:=x;obtain ⟨hk,htx⟩:=J1K ho;rw[q2 _ ho];simp only[Bool.true_and];rw[JFh n d hk]
       have hw:decide (ofL ((if n=1∧d=1 then [] else if d=1 then rT n d else 40::rT n d++[41]:List Nat).map UInt8.ofNat)=ofL (40::t))=false:=by
        refine decide_eq_false ?_;rw[J3V];split
        ·intro h;cases h
        ·split
         ·obtain ⟨c,r,hcr,hh⟩:=J8x n d;rw[hcr];intro h;have:=congrArg (fun l:List UInt8=>(l.headD 0).toNat) h;simp at this;omega
         ·intro h;apply hl;rw[List.map_append,List.map_cons] at h;have:=(List.cons.inj h).2;rw[← this];simp
       rw[hw,Bool.and_false];rfl
   ·
    have hI:facI (c::t)=c::t:=by
     unfold facI;split
     ·rename_i h;cases h;exact absurd rfl hc
     ·rfl
    have hB:innB (c::t)=c::t:=by
     unfold innB;rw[if_neg];rintro ⟨h,_⟩;exact hc h
    rw[hI] at q1 q2 ⊢;rw[hB,decide_eq_true rfl]
    cases ho:readR (c::t) with
    |none=>
      rw[ho] at q1;rw[q1];exact ⟨rfl,fun x h=>by cases h⟩
    |some x=>
      obtain ⟨n,d⟩:=x;obtain ⟨hk,htx⟩:=J1K ho;rw[q2 _ ho];simp only[Bool.true_and];rw[J8C,JFh n d hk]
      have hw:(ofL ((if n=1∧d=1 then [] else if d=1 then rT n d else 40::rT n d++[41]:List Nat).map UInt8.ofNat)=ofL (c::t))↔d=1∧n≠1:=by
       rw[J3V]
       by_cases hd:d=1
       ·by_cases hn:n=1
        ·rw[if_pos ⟨hn,hd⟩];exact ⟨fun h=>(by cases h),fun h=>absurd hn h.2⟩
        ·rw[if_neg (fun e=>hn e.1),if_pos hd,htx];exact ⟨fun _=>⟨hd,hn⟩,fun _=>rfl⟩
       ·rw[if_neg (fun e=>hd e.2),if_neg hd];refine ⟨fun h=>?_,fun h=>absurd h.1 hd⟩;rw[List.cons_append,List.map_cons] at h;exact absurd (List.cons.inj h).1.symm hc
      rw[decide_eq_decide.2 hw]
      by_cases hs:J2S n d=false
      ·rw[if_pos hs,hs];exact ⟨by simp,fun x h=>by cases h⟩
      rw[if_neg hs,show J2S n d=true by simpa using hs]
      by_cases hn0:n=0
      ·rw[if_pos hn0,decide_eq_true hn0];exact ⟨by simp,fun x h=>by cases h⟩
      rw[if_neg hn0,decide_eq_false hn0]
      by_cases hd:d=1
      ·subst hd
       by_cases hn:n=1
       ·subst hn;split
        ·exact ⟨by simp,fun x h=>by cases h⟩
        ·rename_i h;exact absurd rfl h
       ·rw[if_neg (by omega),show decide ((1:Nat)=1)=true from rfl,if_pos rfl,show decide ((1:Nat)=1∧n≠1)=true from decide_eq_true ⟨rfl,hn⟩];exact ⟨rfl,fun x h=>by cases h;rfl⟩
      ·rw[decide_eq_false hd,decide_eq_false (fun e=>hd e.1)];split
       ·exact ⟨by simp,fun x h=>by cases h⟩
       ·exact ⟨by simp,fun x h=>by cases h⟩
theorem J7l:∀ (fs:List (List UInt8)) (acc:List Fac) (last:ByteArray),(acc=[]∧last=⟨#[]⟩∨0<acc.length∧last=ofL (acc.getLastD ([],0,0)).1)→(JEs fs acc).isSome=J3i fs last
 |[],acc,last,_=>rfl
 |f :: r,acc,last,h=>by
   obtain ⟨h1,h2⟩:=JK2 f;unfold JEs J3i;rw[h1,JM3]
   cases hf:facR f with
   |none=>rfl
   |some x=>
     rw[h2 x hf];have hn:=JHI hf;have ih:=J7l r (acc++[x]) (ofL x.1) (.inr ⟨by simp,by rw[List.getLastD_eq_getLast?];simp⟩);simp only[Option.isSome_some,Bool.true_and,Bool.not_not]
     rcases h with ⟨rfl,rfl⟩|⟨ha,rfl⟩
     ·have:ltS ⟨#[]⟩ (ofL x.1)=true:=by
       unfold ltS;rw[J4O,J4O,JHa]
       cases hx:x.1 with
       |nil=>rw[hx] at hn;simp at hn
       |cons a b=>simp[Op.bytesLess]
      rw[this];simp only[List.length_nil,Nat.lt_irrefl,decide_false,Bool.false_and,Bool.false_eq_true,if_false,Bool.true_and];exact ih
     ·rw[decide_eq_true ha,Bool.true_and]
      cases ltS (ofL (acc.getLastD ([],0,0)).1) (ofL x.1) with
      |true=>simp only[Bool.not_true,Bool.false_eq_true,if_false,Bool.true_and];exact ih
      |false=>rfl
theorem JFm (l:List UInt8):(FacsF l).isSome=unitF (ofL l):=by
 unfold FacsF unitF
 have h49:(ofL l=⟨#[49]⟩)↔l=[49]:=by
  have:(⟨#[49]⟩:ByteArray)=ofL [49]:=rfl;rw[this,J3V]
 rw[decide_eq_decide.2 h49,JHa,J06]
 by_cases h:l=[49]
 ·rw[if_pos h,decide_eq_true h];rfl
 ·rw[if_neg h,decide_eq_false h,Bool.false_or]
  by_cases h2:80<l.length
  ·rw[if_pos h2,decide_eq_false (by omega),Bool.and_false];rfl
  ·rw[if_neg h2,decide_eq_true (by omega),Bool.and_true];exact J7l _ [] ⟨#[]⟩ (.inl ⟨rfl,rfl⟩)
structure Eqn where
 name:ByteArray
 left:Ex
 right:Ex
structure Ac where
 kind:Int
 var:ByteArray
 value:Ex
structure Whn where
 name:ByteArray
 cond:Ex
 acts:List Ac
structure Sys where
 vars:List Va
 eqs:List Eqn
 inits:List Eqn
 whens:List Whn
def J1S (e:Ex):List AV:=[encS e.op,encS e.text,encI e.order,.sl 4 (e.kids.map encE)]
theorem J08 (e:Ex):encE e=.agg (J1S e):=J02 e
def J0N (q:Eqn):AV:=.agg (encS q.name::(J1S q.left++J1S q.right))
def J6n (a:Ac):AV:=.agg (encI a.kind::encS a.var::J1S a.value)
def J0m (w:Whn):AV:=.agg (encS w.name::(J1S w.cond++[.sl 6 (w.acts.map J6n)]))
def J0M (s:Sys):AV:=.agg [.sl 7 (s.vars.map encV),.sl 9 (s.eqs.map J0N),.sl 9 (s.inits.map J0N),.sl 6 (s.whens.map J0m)]
theorem JGr (w:Whn):PX 247 [J0m w] (encB (decide (20<w.acts.length))):=by
 refine PZ Tryz.func247 rfl ?_;refine kWS ?_;intros;refine .of ?_;show AV.val (.bool (decide _))=AV.val (.bool (decide _))
 rw[List.length_map]
 congr 2
 exact decide_eq_decide.2 (by omega)
theorem JGx (k:Nat)(p:Whn→Bool)(l:List Whn)(hl:l.length≤2^60)(hk:J05 Tryz.prog k)(hf:∀ x∈l,PX k [J0m x] (encB (p x))) :
  PX 318 [.sl 6 (l.map J0m),.fn (.func k) [] []] (encI (J0k p l 0)):=by
 refine PZ Tryz.func318 rfl ?_;generalize hF:J0k p l 0=F;refine kWS ?_;intros;refine LoopP.intro (fun n σ H=>∃ i,i≤l.length∧n=l.length-i∧J0k p (l.drop i) i=F∧σ=fr [(0,.sl 6 (l.map J0m)),(1,.fn (.func k) [] []),(7,encI l.length),(8,encI i)]∧H=hp []) ?_ ?_
 ·exact .intro <| W.of ⟨_,0,Nat.zero_le _,rfl,hF,rfl,rfl⟩ ⟨rfl,rfl,by simp;rfl,rfl,trivial⟩ trivial
 ·rintro n σ H ⟨i,hi,rfl,hc,rfl,rfl⟩;refine kWS ?_;intros;refine CondP.dec (fun h=>?_) (fun h=>?_)<;>refine kW ?_
  ·have hi':i<l.length:=by omega
   have hx:=hf _ (List.getElem_mem hi');rw[List.drop_eq_getElem_cons hi'] at hc;unfold J0k at hc;refine kR ?_;intros;generalize l[i]=x at hx hc ⊢;refine kR ?_;intros;refine CallP.flat [] _ hk hx rfl ?_;refine kWS ?_;intros;refine CondP.intro (fun hq=>?_) (fun hq=>?_)<;>refine kW ?_
   ·rw[hq] at hc;refine kS ?_;intros;exact .of (by rw[← hc];rfl)
   ·rw[hq] at hc;refine kS ?_;intros
    exact .intro <| W.of ⟨_,by omega,i+1,hi',rfl,hc,rfl,rfl⟩ ⟨rfl,rfl,rfl,rfl,trivial⟩ trivial
  ·refine kS ?_;intros;rw[List.drop_eq_nil_of_le (by omega)] at hc;exact .of (by rw[← hc];rfl)
theorem JB6 (k:Nat)(p:Whn→Bool)(l:List Whn)(hl:l.length≤2^60)(hk:J05 Tryz.prog k)(hf:∀ x∈l,PX k [J0m x] (encB (p x))) :
  PX 246 [.sl 6 (l.map J0m),.fn (.func k) [] []] (encB (l.any p)):=by
 refine PZ Tryz.func246 rfl ?_;refine kWS ?_;intros;refine CallP.flat [] _ c318 (JGx k p l hl hk hf) rfl ?_;refine kWS ?_;intros;refine .of ?_;show AV.val (Value.bool (decide (0≤J0k p l 0)))=AV.val (Value.bool (l.any p))
 congr 2
 rw[Bool.eq_iff_iff,decide_eq_true_iff];exact J3z p l 0 (by omega)
theorem JGy (k:Nat)(p:Va→Bool)(l:List Va)(hl:l.length≤2^60)(hk:J05 Tryz.prog k)(hf:∀ x∈l,PX k [encV x] (encB (p x))) :
  PX 319 [.sl 7 (l.map encV),.fn (.func k) [] []] (encI (J0k p l 0)):=by
 refine PZ Tryz.func319 rfl ?_;generalize hF:J0k p l 0=F;refine kWS ?_;intros;refine LoopP.intro (fun n σ H=>∃ i,i≤l.length∧n=l.length-i∧J0k p (l.drop i) i=F∧σ=fr [(0,.sl 7 (l.map encV)),(1,.fn (.func k) [] []),(7,encI l.length),(8,encI i)]∧H=hp []) ?_ ?_
 ·exact .intro <| W.of ⟨_,0,Nat.zero_le _,rfl,hF,rfl,rfl⟩ ⟨rfl,rfl,by simp;rfl,rfl,trivial⟩ trivial
 ·rintro n σ H ⟨i,hi,rfl,hc,rfl,rfl⟩;refine kWS ?_;intros;refine CondP.dec (fun h=>?_) (fun h=>?_)<;>refine kW ?_
  ·have hi':i<l.length:=by omega
   have hx:=hf _ (List.getElem_mem hi');rw[List.drop_eq_getElem_cons hi'] at hc;unfold J0k at hc;refine kR ?_;intros;generalize l[i]=x at hx hc ⊢;refine kR ?_;intros;refine CallP.flat [] _ hk hx rfl ?_;refine kWS ?_;intros;refine CondP.intro (fun hq=>?_) (fun hq=>?_)<;>refine kW ?_
   ·rw[hq] at hc;refine kS ?_;intros;exact .of (by rw[← hc];rfl)
   ·rw[hq] at hc;refine kS ?_;intros
    exact .intro <| W.of ⟨_,by omega,i+1,hi',rfl,hc,rfl,rfl⟩ ⟨rfl,rfl,rfl,rfl,trivial⟩ trivial
  ·refine kS ?_;intros;rw[List.drop_eq_nil_of_le (by omega)] at hc;exact .of (by rw[← hc];rfl)
theorem JB7 (k:Nat)(p:Va→Bool)(l:List Va)(hl:l.length≤2^60)(hk:J05 Tryz.prog k)(hf:∀ x∈l,PX k [encV x] (encB (p x))) :
  PX 255 [.sl 7 (l.map encV),.fn (.func k) [] []] (encB (l.any p)):=by
 refine PZ Tryz.func255 rfl ?_;refine kWS ?_;intros;refine CallP.flat [] _ c319 (JGy k p l hl hk hf) rfl ?_;refine kWS ?_;intros;refine .of ?_;show AV.val (Value.bool (decide (0≤J0k p l 0)))=AV.val (Value.bool (l.any p))
 congr 2
 rw[Bool.eq_iff_iff,decide_eq_true_iff];exact J3z p l 0 (by omega)
def J1O (l:List Eqn):List Ex:=l.flatMap fun q=>[q.left,q.right]
def J3g (w:Whn):List Ex:=w.cond::w.acts.map (·.value)
def allF (s:Sys):List Ex:=J1O s.eqs++J1O s.inits++s.whens.flatMap J3g
theorem J0f (l:List Eqn):(J1O l).length=2*l.length:=by
 induction l with
 |nil=>rfl
 |cons q l ih=>unfold J1O at *;rw[List.flatMap_cons,List.length_append,ih];simp;omega
theorem J4k (l:List Eqn)(q:Eqn):J1O (l++[q])=J1O l++[q.left,q.right]:=by unfold J1O;rw[List.flatMap_append];simp
theorem J5Q (l:List Whn)(h:∀ w∈l,w.acts.length≤20):(l.flatMap J3g).length≤21*l.length:=by
 induction l with
 |nil=>simp
 |cons w l ih=>
   have h1:=h w (by simp);have h2:=ih fun x hx=>h x (by simp[hx]);rw[List.flatMap_cons,List.length_append];unfold J3g at *;simp at *;omega
theorem JNp (s:Sys)(h1:s.eqs.length≤120)(h2:s.inits.length≤120)(h3:s.whens.length≤120)(h4:∀ w∈s.whens,w.acts.length≤20):PX 132 [J0M s] (.sl 4 ((allF s).map encE)):=by
 refine PC [100] Tryz.func132 rfl (by rfl) rfl ?_;obtain ⟨vars,eqs,inits,whens⟩:=s;simp only at h1 h2 h3 h4;unfold J0M;(refine kWS ?_;repeat intro γ)
 refine LoopP.intro (fun k σ H=>∃ g1 g16 g3 i,∃ out:List Ex,k=2-i∧i≤2∧out=J1O (([eqs,inits].take i).flatten) ∧
  σ=fr [(1,.op 1 g1 0 0),(2,.val (.slice none 0 0)),(3,.own 100 g3 0 out.length),(16,.own 16 g16 0 2),(17,encI 2),(18,encI i)] ∧
  H=hp [(1,g1,⟨26,4,[J0M ⟨vars,eqs,inits,whens⟩]⟩),(16,g16,⟨23,1,[eqs,inits].map fun l=>.sl 9 (l.map J0N)⟩),(100,g3,⟨29,4,out.map encE⟩)]) ?_ ?_
 ·exact .intro (J2a 3 100 29 4 rfl rfl fun g=>W.of ⟨_,_,_,g,0,[],rfl,by omega,rfl,rfl,rfl⟩ ⟨rfl,rfl,rfl,rfl,rfl,rfl,trivial⟩ ⟨rfl,rfl,rfl,trivial⟩)
 ·rintro k σ H ⟨g1,g16,g3,i,out,rfl,hi,hout,rfl,rfl⟩;(refine kWS ?_;repeat intro γ);refine CondP.dec (fun h=>?_) (fun h=>?_)<;>refine kW ?_
  ·have hi':i<[eqs,inits].length:=by simp;omega
   have hl:([eqs,inits][i]).length≤120:=by
    match i,hi' with
    |0,_=>exact h1
    |1,_=>exact h2
   have hout2:J1O (([eqs,inits].take (i+1)).flatten)=out++J1O [eqs,inits][i]:=by
    rw[List.take_succ_eq_append_getElem hi',List.flatten_append,hout];unfold J1O;rw[List.flatMap_append];simp
   have hol:out.length≤480:=by
    rw[hout,J0f,List.length_flatten]
    rcases i with _|_|i
    ·simp
    ·simp;omega
    ·omega
   (refine kR ?_;repeat intro γ);generalize [eqs,inits][i]=l at hl hout2 ⊢
   refine LoopP.intro (fun k σ H=>∃ g3 j,∃ out':List Ex,k=l.length-j∧j≤l.length∧out'=out++J1O (l.take j) ∧
    σ=fr [(1,.op 1 g1 0 0),(2,.val (.slice none 0 0)),(3,.own 100 g3 0 out'.length),(16,.own 16 g16 0 2),(17,encI 2),(18,encI i),(22,.sl 9 (l.map J0N)),(23,encI l.length),(24,encI j)] ∧
    H=hp [(1,g1,⟨26,4,[J0M ⟨vars,eqs,inits,whens⟩]⟩),(16,g16,⟨23,1,[eqs,inits].map fun l=>.sl 9 (l.map J0N)⟩),(100,g3,⟨29,4,out'.map encE⟩)]) ?_ ?_
   ·exact .intro <| W.of ⟨_,_,0,out,rfl,Nat.zero_le _,by simp[J1O],rfl,rfl⟩ ⟨rfl,rfl,rfl,rfl,rfl,rfl,rfl,rfl,rfl,trivial⟩ ⟨rfl,rfl,rfl,trivial⟩
   ·rintro k σ H ⟨g3,j,out',rfl,hj,ho',rfl,rfl⟩;(refine kWS ?_;repeat intro γ);refine CondP.dec (fun h=>?_) (fun h=>?_)<;>refine kW ?_
    ·have hj':j<l.length:=by omega
     have hs:=J4k (l.take j) l[j];rw[← List.take_succ_eq_append_getElem hj'] at hs
     have hol':out'.length≤800:=by
      rw[ho',List.length_append,J0f,List.length_take];omega
     (refine kR ?_;repeat intro γ);generalize l[j]=q at hs ⊢;(refine kR ?_;repeat intro γ)
     refine .intro <| W.of ⟨_,by omega,γ,j+1,out'++[q.left,q.right],rfl,hj',by rw[ho',hs,List.append_assoc],rfl,rfl⟩ ⟨rfl,rfl,?_,rfl,rfl,rfl,rfl,rfl,rfl,trivial⟩ ⟨rfl,rfl,?_,trivial⟩
     ·exact congrArg (AV.own 100 γ 0) (by simp)
     ·show some (_,(⟨_,_,out'.map encE++[.agg (J1S q.left),.agg (J1S q.right)]⟩:Blk))=_
      rw[← J08,← J08,List.map_append];rfl
    ·have hje:j=l.length:=by omega
     rw[hje,List.take_length,← hout2] at ho';(refine kS ?_;repeat intro γ)
     exact .intro <| W.of ⟨_,by omega,_,_,_,i+1,out',rfl,by omega,ho',rfl,rfl⟩ ⟨rfl,rfl,rfl,rfl,rfl,rfl,trivial⟩ ⟨rfl,rfl,rfl,trivial⟩
  ·have hie:i=2:=by omega
   rw[hie] at hout;have hout0:out=J1O eqs++J1O inits:=by rw[hout];simp[J1O]
   have hol:out.length≤480:=by rw[hout0,List.length_append,J0f,J0f];omega
   (refine kS ?_;repeat intro γ)
   refine LoopP.intro (fun k σ H=>∃ g3 i,∃ out':List Ex,k=whens.length-i∧i≤whens.length∧out'=out++(whens.take i).flatMap J3g ∧
    σ=fr [(2,.val (.slice none 0 0)),(3,.own 100 g3 0 out'.length),(38,.sl 6 (whens.map J0m)),(39,encI whens.length),(40,encI i)] ∧
    H=hp [(100,g3,⟨29,4,out'.map encE⟩)]) ?_ ?_
   ·refine .intro <| W.of ⟨_,_,0,out,rfl,Nat.zero_le _,by simp,rfl,rfl⟩ ⟨rfl,rfl,rfl,?_,rfl,trivial⟩ ⟨rfl,trivial⟩
    show AV.val (.int .i64 _)=AV.val (.int .i64 _)
    rw[List.length_map]
   ·clear hout g3;rintro k σ H ⟨g3,i,out',rfl,hi,ho',rfl,rfl⟩;(refine kWS ?_;repeat intro γ);refine CondP.dec (fun h=>?_) (fun h=>?_)<;>refine kW ?_
    ·have hi':i<whens.length:=by omega
     have ha:=h4 whens[i] (List.getElem_mem hi')
     have hol':out'.length≤480+21*120:=by
      have:=J5Q (whens.take i) fun w hw=>h4 w (List.mem_of_mem_take hw);rw[List.length_take] at this;rw[ho',List.length_append];omega
     have ho2:out++(whens.take (i+1)).flatMap J3g=out'++J3g whens[i]:=by
      rw[List.take_succ_eq_append_getElem hi',List.flatMap_append,ho'];simp
     (refine kR ?_;repeat intro γ);generalize whens[i]=w at ha ho2 ⊢;(refine kR ?_;repeat intro γ)
     refine LoopP.intro (fun k σ H=>∃ g3 j,∃ o3:List Ex,k=w.acts.length-j∧j≤w.acts.length∧o3=out'++w.cond::(w.acts.take j).map (·.value) ∧
      σ=fr [(2,.val (.slice none 0 0)),(3,.own 100 g3 0 o3.length),(38,.sl 6 (whens.map J0m)),(39,encI whens.length),(40,encI i),(50,.sl 6 (w.acts.map J6n)),(51,encI w.acts.length),(52,encI j)] ∧
      H=hp [(100,g3,⟨29,4,o3.map encE⟩)]) ?_ ?_
     ·refine .intro <| W.of ⟨_,γ,0,out'++[w.cond],rfl,Nat.zero_le _,by simp,rfl,rfl⟩ ⟨rfl,?_,rfl,rfl,rfl,rfl,rfl,rfl,trivial⟩ ⟨?_,trivial⟩
      ·exact congrArg (AV.own 100 γ 0) (by simp)
      ·show some (_,(⟨_,_,out'.map encE++[.agg (J1S w.cond)]⟩:Blk))=_
       rw[← J08,List.map_append];rfl
     ·rintro k σ H ⟨g3,j,o3,rfl,hj,ho3,rfl,rfl⟩
      have hol3:o3.length≤480+21*120+21:=by
       rw[ho3,List.length_append,List.length_cons,List.length_map,List.length_take];omega
      (refine kWS ?_;repeat intro γ);refine CondP.dec (fun h=>?_) (fun h=>?_)<;>refine kW ?_
      ·have hj':j<w.acts.length:=by omega
       have ho4:out'++w.cond::(w.acts.take (j+1)).map (·.value)=o3++[w.acts[j].value]:=by
        rw[List.take_succ_eq_append_getElem hj',List.map_append,ho3];simp
       (refine kR ?_;repeat intro γ);generalize w.acts[j]=a at ho4 ⊢;(refine kR ?_;repeat intro γ)
       refine .intro <| W.of ⟨_,by omega,γ,j+1,o3++[a.value],rfl,hj',ho4.symm,rfl,rfl⟩ ⟨rfl,?_,rfl,rfl,rfl,rfl,rfl,rfl,trivial⟩ ⟨?_,trivial⟩
       ·exact congrArg (AV.own 100 γ 0) (by simp)
       ·show some (_,(⟨_,_,o3.map encE++[.agg (J1S a.value)]⟩:Blk))=_
        rw[← J08,List.map_append];rfl
      ·rw[show j=w.acts.length by omega,List.take_length] at ho3;(refine kS ?_;repeat intro γ)
       exact .intro <| W.of ⟨_,by omega,_,i+1,o3,rfl,hi',by rw[ho3,ho2];rfl,rfl,rfl⟩ ⟨rfl,rfl,rfl,rfl,rfl,trivial⟩ ⟨rfl,trivial⟩
    ·rw[show i=whens.length by omega,List.take_length] at ho';(refine kS ?_;repeat intro γ);refine .of ?_;have e:allF ⟨vars,eqs,inits,whens⟩=out':=by rw[ho',hout0];rfl
     rw[e];show AV.sl 4 ((((out'.map encE).drop 0).take out'.length).map _)=_
     rw[List.drop_zero,List.take_of_length_le (by simp),List.map_map]
     congr 1
     refine List.map_congr_left fun x _=>?_;show J0Z _ (encE x)=encE x
     rw[J08];rfl
def J3u:List Ex→Int→Bool
 |[],l=>decide (l<0)
 |e::r,l=>tooF e||J3u r (l-sizeF e)
def largeF (s:Sys):Bool:=decide (120<s.vars.length)||decide (120<max (max s.eqs.length s.inits.length) s.whens.length)||s.whens.any (fun w=>decide (20<w.acts.length))||J3u (allF s) 4000
structure SzS (s:Sys):Prop where
 v:s.vars.length≤2^60
 q:s.eqs.length≤2^60
 n:s.inits.length≤2^60
 w:s.whens.length≤2^60
 a:∀ w∈s.whens,w.acts.length≤2^60
 e:∀ e∈allF s,SzE e∧TxE e
 t:∀ v∈s.vars,v.name.size<2^35∧v.value.size<2^35∧v.start.size<2^35∧v.unit.size<2^35
 m:(∀ q∈s.eqs,q.name.size<2^35)∧(∀ q∈s.inits,q.name.size<2^35)∧∀ w∈s.whens,w.name.size<2^35
 v20:s.vars.length≤2^20
theorem JJh (s:Sys)(hs:SzS s):PX 174 [J0M s] (encB (largeF s)):=by
 refine PZ Tryz.func174 rfl ?_;have hW:=JB6 247 (fun w=>decide (20<w.acts.length)) s.whens hs.w c247 fun w _=>JGr w;have hA:=JNp s;have hv:=hs.v;have hq:=hs.q;have hn:=hs.n;have hw:=hs.w;have he:=hs.e;generalize hF:largeF s=F;unfold largeF at hF;generalize hall:allF s=es at *
 have hany:(s.whens.any fun w=>decide (20<w.acts.length))=false→∀ w∈s.whens,w.acts.length≤20:=by
  intro h w hw;have:=List.any_eq_false.1 h w hw;simp at this;exact this
 clear hs;unfold J0M at hA ⊢;refine kWS ?_;intros;rw[List.length_map];refine CondP.dec (fun h=>?_) (fun h=>?_)<;>refine kW ?_
 ·rw[decide_eq_true (by omega),Bool.true_or,Bool.true_or,Bool.true_or] at hF;refine kS ?_;intros;exact .of (by rw[← hF];rfl)
 rw[decide_eq_false (by omega),Bool.false_or] at hF;refine kS ?_;intros;simp only[List.length_map];refine CondP.dec (fun h=>?_) (fun h=>?_)<;>refine kW ?_
 ·rw[decide_eq_true (by omega),Bool.true_or,Bool.true_or] at hF;refine kS ?_;intros;exact .of (by rw[← hF];rfl)
 rw[decide_eq_false (by omega),Bool.false_or] at hF;refine kS ?_;intros;refine CallP.flat [] _ c246 hW rfl ?_;refine kWS ?_;intros;refine CondP.intro (fun h2=>?_) (fun h2=>?_)<;>refine kW ?_
 ·rw[h2,Bool.true_or] at hF;refine kS ?_;intros;exact .of (by rw[← hF];rfl)
 rw[h2,Bool.false_or] at hF;have hA:=hA (by omega) (by omega) (by omega) (hany h2)
 have hlen:es.length≤4000:=by
  have:=J5Q s.whens (hany h2);rw[← hall];unfold allF;rw[List.length_append,List.length_append,J0f,J0f];omega
 refine kS ?_;intros;refine J00 [] _ c132 hA ?_;refine kWS ?_;intros
 refine LoopP.intro (fun k σ H=>∃ i,∃ l:Int,k=es.length-i∧i≤es.length∧l≤4000∧4000-201*i≤l∧J3u (es.drop i) l=F ∧
  σ=fr [(2,encB false),(3,encI l),(27,.sl 4 (es.map encE)),(28,encI es.length),(29,encI i)]∧H=hp []) ?_ ?_
 ·refine .intro <| W.of ⟨_,0,4000,rfl,Nat.zero_le _,by omega,by omega,hF,rfl,rfl⟩ ⟨rfl,rfl,rfl,?_,rfl,trivial⟩ trivial
  show AV.val (.int .i64 _)=AV.val (.int .i64 _)
  rw[List.length_map]
 ·clear hF;rintro k σ H ⟨i,l,rfl,hi,hl1,hl2,hF,rfl,rfl⟩;refine kWS ?_;intros;refine CondP.dec (fun h=>?_) (fun h=>?_)<;>refine kW ?_
  ·have hi':i<es.length:=by omega
   rw[List.drop_eq_getElem_cons hi'] at hF;unfold J3u at hF;have hz:=he es[i] (List.getElem_mem hi');refine kR ?_;intros;generalize es[i]=e at hF hz ⊢;have ht:=J3d e hz.1;have hsz:=JMp e hz.1;have hge:=J93 24 e 200 (by omega);have hle:=J5Y 24 e 200;have hdef:sizeF e=200-measF 24 e 200:=rfl;rw[J02] at ht hsz ⊢;refine kR ?_;intros;refine CallP.flat [] _ c83 ht rfl ?_;refine kWS ?_;intros;refine CondP.intro (fun h3=>?_) (fun h3=>?_)<;>refine kW ?_
   ·rw[h3,Bool.true_or] at hF;refine kS ?_;intros;exact .of (by rw[← hF];rfl)
   rw[h3,Bool.false_or] at hF;refine kS ?_;intros;refine CallP.flat [] _ c248 hsz rfl ?_;generalize sizeF e=z at hF hdef;refine kWS ?_;intros
   exact .intro <| W.of ⟨_,by omega,i+1,l-z,rfl,hi',by omega,by omega,hF,rfl,rfl⟩ ⟨rfl,rfl,rfl,rfl,rfl,trivial⟩ trivial
  ·rw[List.drop_eq_nil_of_le (by omega)] at hF;refine kS ?_;intros;exact .of (by rw[← hF];rfl)
def risG:List ByteArray→Option ByteArray→Bool
 |[],_=>true
 |n::r,p=>nameF n&&(match p with|none=>true|some p=>Op.bytesLess p.toList n.toList)&&risG r (some n)
def pvN (l:List ByteArray):Nat→Option ByteArray
 |0=>none
 |i+1=>l[i]?
theorem J6B (l:List ByteArray)(i:Nat):pvN l (i+1)=l[i]?:=rfl
theorem J9h (x:Va):PX 250 [encV x] (encS x.name):=by
 refine PZ Tryz.func250 rfl ?_;refine kWS ?_;intros;exact .of rfl
theorem JES (l:List Va)(hl:l.length≤2^60)(hn:∀ x∈l,x.name.size<2^35) :
  PX 249 [.sl 7 (l.map encV),.fn (.func 250) [] []] (encB (risG (l.map Va.name) none)):=by
 refine PZ Tryz.func249 rfl ?_;generalize hF:risG (l.map Va.name) none=F;refine kWS ?_;intros
 refine LoopP.intro (fun m σ H=>∃ i,i≤l.length∧m=l.length-i∧risG ((l.drop i).map Va.name) (pvN (l.map Va.name) i)=F ∧
  σ=fr [(0,.sl 7 (l.map encV)),(1,.fn (.func 250) [] []),(7,.sl 7 (l.map encV)),(8,encI l.length),(9,encI i)]∧H=hp []) ?_ ?_
 ·exact .intro <| W.of ⟨_,0,Nat.zero_le _,rfl,hF,rfl,rfl⟩ ⟨rfl,rfl,rfl,by simp;rfl,rfl,trivial⟩ trivial
 ·clear hF;rintro m σ H ⟨i,hi,rfl,hF,rfl,rfl⟩;refine kWS ?_;intros;refine CondP.dec (fun h=>?_) (fun h=>?_)<;>refine kW ?_
  ·have hi':i<l.length:=by omega
   have hx:=hn _ (List.getElem_mem hi');rw[List.drop_eq_getElem_cons hi',List.map_cons] at hF;unfold risG at hF;have hnx:(l.map Va.name)[i]?=some l[i].name:=by rw[List.getElem?_map,List.getElem?_eq_getElem hi'];rfl
   refine kR ?_;intros;generalize l[i]=x at hx hF hnx ⊢;have hnm:=J21 x.name (by omega);generalize nameF x.name=b at hF hnm;refine kR ?_;intros;refine CallG.intro _ c250 (J9h x) ?_;refine kWQ ?_;intros;refine CallG.intro _ c90 hnm ?_;refine kWQ ?_;intros;refine CondP.intro (fun hq=>?_) (fun hq=>?_)<;>refine kW ?_
   case' refine_2=>
    rw[hq,Bool.false_and,Bool.false_and] at hF;refine kR ?_;intros;exact .of (by rw[← hF];rfl)
   rw[hq,Bool.true_and] at hF
   cases i with
   |zero=>
     refine kR ?_;intros
     exact .intro <| W.of ⟨_,by omega,1,hi',rfl,by rw[← hF];show risG _ (pvN _ (0+1))=_;rw[J6B,hnx];rfl,rfl,rfl⟩ ⟨rfl,rfl,rfl,rfl,rfl,trivial⟩ trivial
   |succ i=>
     have hi2:i<l.length:=by omega
     rw[J6B,List.getElem?_map,List.getElem?_eq_getElem hi2] at hF;replace hF:(Op.bytesLess l[i].name.toList x.name.toList&&risG ((l.drop (i+1+1)).map Va.name) (some x.name))=F:=hF;have hp0:(0:Int)<((i+1:Nat):Int):=by omega
     refine kR ?_;intros
     try simp only[show ((i+1:Nat):Int)-1=(i:Int) by omega]
     refine kR ?_;intros;generalize l[i]=y at hF ⊢;refine kR ?_;intros;refine CallG.intro _ c250 (J9h y) ?_;refine kWR ?_;intros;refine CallG.intro _ c250 (J9h x) ?_;refine kWR ?_;intros;refine CondP.intro (fun h2=>?_) (fun h2=>?_)<;>refine kW ?_
     ·rw[h2,Bool.true_and] at hF;refine kR ?_;intros
      exact .intro <| W.of ⟨_,by omega,i+1+1,hi',rfl,by rw[J6B,hnx];exact hF,rfl,rfl⟩ ⟨rfl,rfl,rfl,rfl,rfl,trivial⟩ trivial
     ·rw[h2,Bool.false_and] at hF;refine kR ?_;intros;exact .of (by rw[← hF];rfl)
  ·refine kS ?_;intros;rw[List.drop_eq_nil_of_le (by omega)] at hF;exact .of (by rw[← hF];rfl)
theorem J9l (x:Eqn):PX 252 [J0N x] (encS x.name):=by
 refine PZ Tryz.func252 rfl ?_;refine kWS ?_;intros;exact .of rfl
theorem J9g (x:Whn):PX 254 [J0m x] (encS x.name):=by
 refine PZ Tryz.func254 rfl ?_;refine kWS ?_;intros;exact .of rfl
theorem J82 (l:List Eqn)(hl:l.length≤2^60)(hn:∀ x∈l,x.name.size<2^35) :
  PX 251 [.sl 9 (l.map J0N),.fn (.func 252) [] []] (encB (risG (l.map Eqn.name) none)):=by
 refine PZ Tryz.func251 rfl ?_;generalize hF:risG (l.map Eqn.name) none=F;refine kWS ?_;intros
 refine LoopP.intro (fun m σ H=>∃ i,i≤l.length∧m=l.length-i∧risG ((l.drop i).map Eqn.name) (pvN (l.map Eqn.name) i)=F ∧
  σ=fr [(0,.sl 9 (l.map J0N)),(1,.fn (.func 252) [] []),(7,.sl 9 (l.map J0N)),(8,encI l.length),(9,encI i)]∧H=hp []) ?_ ?_
 ·exact .intro <| W.of ⟨_,0,Nat.zero_le _,rfl,hF,rfl,rfl⟩ ⟨rfl,rfl,rfl,by simp;rfl,rfl,trivial⟩ trivial
 ·clear hF;rintro m σ H ⟨i,hi,rfl,hF,rfl,rfl⟩;refine kWS ?_;intros;refine CondP.dec (fun h=>?_) (fun h=>?_)<;>refine kW ?_
  ·have hi':i<l.length:=by omega
   have hx:=hn _ (List.getElem_mem hi');rw[List.drop_eq_getElem_cons hi',List.map_cons] at hF;unfold risG at hF;have hnx:(l.map Eqn.name)[i]?=some l[i].name:=by rw[List.getElem?_map,List.getElem?_eq_getElem hi'];rfl
   refine kR ?_;intros;generalize l[i]=x at hx hF hnx ⊢;have hnm:=J21 x.name (by omega);generalize nameF x.name=b at hF hnm;refine kR ?_;intros;refine CallG.intro _ c252 (J9l x) ?_;refine kWQ ?_;intros;refine CallG.intro _ c90 hnm ?_;refine kWQ ?_;intros;refine CondP.intro (fun hq=>?_) (fun hq=>?_)<;>refine kW ?_
   case' refine_2=>
    rw[hq,Bool.false_and,Bool.false_and] at hF;refine kR ?_;intros;exact .of (by rw[← hF];rfl)
   rw[hq,Bool.true_and] at hF
   cases i with
   |zero=>
     refine kR ?_;intros
     exact .intro <| W.of ⟨_,by omega,1,hi',rfl,by rw[← hF];show risG _ (pvN _ (0+1))=_;rw[J6B,hnx];rfl,rfl,rfl⟩ ⟨rfl,rfl,rfl,rfl,rfl,trivial⟩ trivial
   |succ i=>
     have hi2:i<l.length:=by omega
     rw[J6B,List.getElem?_map,List.getElem?_eq_getElem hi2] at hF;replace hF:(Op.bytesLess l[i].name.toList x.name.toList&&risG ((l.drop (i+1+1)).map Eqn.name) (some x.name))=F:=hF;have hp0:(0:Int)<((i+1:Nat):Int):=by omega
     refine kR ?_;intros
     try simp only[show ((i+1:Nat):Int)-1=(i:Int) by omega]
     refine kR ?_;intros;generalize l[i]=y at hF ⊢;refine kR ?_;intros;refine CallG.intro _ c252 (J9l y) ?_;refine kWR ?_;intros;refine CallG.intro _ c252 (J9l x) ?_;refine kWR ?_;intros;refine CondP.intro (fun h2=>?_) (fun h2=>?_)<;>refine kW ?_
     ·rw[h2,Bool.true_and] at hF;refine kR ?_;intros
      exact .intro <| W.of ⟨_,by omega,i+1+1,hi',rfl,by rw[J6B,hnx];exact hF,rfl,rfl⟩ ⟨rfl,rfl,rfl,rfl,rfl,trivial⟩ trivial
     ·rw[h2,Bool.false_and] at hF;refine kR ?_;intros;exact .of (by rw[← hF];rfl)
  ·refine kS ?_;intros;rw[List.drop_eq_nil_of_le (by omega)] at hF;exact .of (by rw[← hF];rfl)
theorem JER (l:List Whn)(hl:l.length≤2^60)(hn:∀ x∈l,x.name.size<2^35) :
  PX 253 [.sl 6 (l.map J0m),.fn (.func 254) [] []] (encB (risG (l.map Whn.name) none)):=by
 refine PZ Tryz.func253 rfl ?_;generalize hF:risG (l.map Whn.name) none=F;refine kWS ?_;intros
 refine LoopP.intro (fun m σ H=>∃ i,i≤l.length∧m=l.length-i∧risG ((l.drop i).map Whn.name) (pvN (l.map Whn.name) i)=F ∧
  σ=fr [(0,.sl 6 (l.map J0m)),(1,.fn (.func 254) [] []),(7,.sl 6 (l.map J0m)),(8,encI l.length),(9,encI i)]∧H=hp []) ?_ ?_
 ·exact .intro <| W.of ⟨_,0,Nat.zero_le _,rfl,hF,rfl,rfl⟩ ⟨rfl,rfl,rfl,by simp;rfl,rfl,trivial⟩ trivial
 ·clear hF;rintro m σ H ⟨i,hi,rfl,hF,rfl,rfl⟩;refine kWS ?_;intros;refine CondP.dec (fun h=>?_) (fun h=>?_)<;>refine kW ?_
  ·have hi':i<l.length:=by omega
   have hx:=hn _ (List.getElem_mem hi');rw[List.drop_eq_getElem_cons hi',List.map_cons] at hF;unfold risG at hF;have hnx:(l.map Whn.name)[i]?=some l[i].name:=by rw[List.getElem?_map,List.getElem?_eq_getElem hi'];rfl
   refine kR ?_;intros;generalize l[i]=x at hx hF hnx ⊢;have hnm:=J21 x.name (by omega);generalize nameF x.name=b at hF hnm;refine kR ?_;intros;refine CallG.intro _ c254 (J9g x) ?_;refine kWQ ?_;intros;refine CallG.intro _ c90 hnm ?_;refine kWQ ?_;intros;refine CondP.intro (fun hq=>?_) (fun hq=>?_)<;>refine kW ?_
   case' refine_2=>
    rw[hq,Bool.false_and,Bool.false_and] at hF;refine kR ?_;intros;exact .of (by rw[← hF];rfl)
   rw[hq,Bool.true_and] at hF
   cases i with
   |zero=>
     refine kR ?_;intros
     exact .intro <| W.of ⟨_,by omega,1,hi',rfl,by rw[← hF];show risG _ (pvN _ (0+1))=_;rw[J6B,hnx];rfl,rfl,rfl⟩ ⟨rfl,rfl,rfl,rfl,rfl,trivial⟩ trivial
   |succ i=>
     have hi2:i<l.length:=by omega
     rw[J6B,List.getElem?_map,List.getElem?_eq_getElem hi2] at hF;replace hF:(Op.bytesLess l[i].name.toList x.name.toList&&risG ((l.drop (i+1+1)).map Whn.name) (some x.name))=F:=hF;have hp0:(0:Int)<((i+1:Nat):Int):=by omega
     refine kR ?_;intros
     try simp only[show ((i+1:Nat):Int)-1=(i:Int) by omega]
     refine kR ?_;intros;generalize l[i]=y at hF ⊢;refine kR ?_;intros;refine CallG.intro _ c254 (J9g y) ?_;refine kWR ?_;intros;refine CallG.intro _ c254 (J9g x) ?_;refine kWR ?_;intros;refine CondP.intro (fun h2=>?_) (fun h2=>?_)<;>refine kW ?_
     ·rw[h2,Bool.true_and] at hF;refine kR ?_;intros
      exact .intro <| W.of ⟨_,by omega,i+1+1,hi',rfl,by rw[J6B,hnx];exact hF,rfl,rfl⟩ ⟨rfl,rfl,rfl,rfl,rfl,trivial⟩ trivial
     ·rw[h2,Bool.false_and] at hF;refine kR ?_;intros;exact .of (by rw[← hF];rfl)
  ·refine kS ?_;intros;rw[List.drop_eq_nil_of_le (by omega)] at hF;exact .of (by rw[← hF];rfl)
def J6V (k t:Int):Bool:=!((!decide (t=0)&&!decide (t=1))||decide (k<0)||decide (3<k)||(!decide (t=0)&&(decide (k=0)||decide (k=3))))
def varF (v:Va):Bool:=
 J6V v.kind v.type&&(if v.kind=2 then valueF v.value v.type else decide (v.value=⟨#[]⟩))
  && (decide (v.start=⟨#[]⟩)||((decide (v.kind=0)||decide (v.kind=1))&&valueF v.start v.type))&&!(v.fixed&&decide (v.start=⟨#[]⟩))
  && (decide (v.unit=⟨#[]⟩)||(decide (v.type=0)&&unitF v.unit))
theorem JBo (v:Va)(h1:v.value.size<2^35)(h2:v.start.size<2^35)(h3:v.unit.size<2^35):PX 257 [encV v] (encB (varF v)):=by
 refine PZ Tryz.func257 rfl ?_;obtain ⟨name,k,t,vl,st,fx,un⟩:=v;have hv1:=JCj vl t h1;have hv2:=JCj st t h2;have hu:=JPH un h3;generalize hF:varF ⟨name,k,t,vl,st,fx,un⟩=F;unfold varF at hF;simp only at hF hv1 hv2 hu;generalize valueF vl t=b1 at hF hv1;generalize valueF st t=b2 at hF hv2;generalize unitF un=b3 at hF hu;clear h1 h2 h3
 by_cases hk:J6V k t=true
 case' neg=>
  have hk':J6V k t=false:=by simpa using hk
  rw[hk',Bool.false_and,Bool.false_and,Bool.false_and,Bool.false_and] at hF;subst hF;unfold J6V at hk';refine kW ?_
  (repeat (any_goals (first|((first|refine N0 ?_|refine A0 fun γ=>?_|refine C1 ?_|refine C2 ?_|refine C3 ?_|refine C4 ?_|refine C5 ?_|refine C6 ?_|refine C7 ?_|refine D0 fun γs=>?_|refine A1 fun γs=>?_|refine N2 ?_|refine N3 ?_|refine N1 ?_);refine kW ?_)|(refine CondP.dec (fun _=>?_) (fun _=>?_)<;>refine kW ?_)|(refine CondP.intro (fun _=>?_) (fun _=>?_)<;>refine kW ?_))))
  all_goals first
   |exact .of rfl
   |(exfalso;simp_all<;>omega)
 rw[hk,Bool.true_and] at hF
 have hcs:(t=0∧(k=0∨k=1∨k=2∨k=3))∨(t=1∧(k=1∨k=2)):=by
  unfold J6V at hk;simp at hk;omega
 clear hk
 rcases hcs with ⟨rfl,rfl|rfl|rfl|rfl⟩|⟨rfl,rfl|rfl⟩
 all_goals
  simp only[Int.reduceEq,decide_true,decide_false,Bool.true_or,Bool.or_true,Bool.false_or,Bool.or_self,if_true,if_false,Bool.true_and,Bool.false_and,eq_self,Bool.or_false,reduceIte] at hF;(refine kWS ?_;repeat intro γ)
  repeat (any_goals (first
   |exact .of (by rw[← hF];rfl)
   |(refine CallP.flat [] _ c320 hv1 rfl ?_;refine kW ?_;(refine kS ?_;repeat intro γ))
   |(refine CallP.flat [] _ c320 hv2 rfl ?_;refine kW ?_;(refine kS ?_;repeat intro γ))
   |(refine CallP.flat [] _ c321 hu rfl ?_;refine kW ?_;(refine kS ?_;repeat intro γ))
   |(refine CondP.intro (fun h=>?_) (fun h=>?_)<;>refine kW ?_<;>(try simp only at h)<;>(try simp only[h,Bool.true_and,Bool.false_and,Bool.and_true,Bool.and_false,Bool.true_or,Bool.false_or,Bool.not_true,Bool.not_false,Bool.or_true,Bool.or_false] at hF)<;>(refine kS ?_;repeat intro γ))))
theorem JFl (v:Va)(h1:v.value.size<2^35)(h2:v.start.size<2^35)(h3:v.unit.size<2^35):PX 256 [encV v] (encB (!varF v)):=by
 refine PZ Tryz.func256 rfl ?_;refine kWS ?_;intros;refine CallP.flat [] _ c257 (JBo v h1 h2 h3) rfl ?_;refine kWS ?_;intros;exact .of rfl
def putK {β:Type}(l:List (ByteArray×β))(k:ByteArray)(v:β):List (ByteArray×β):=match l with
 |[]=>[(k,v)]
 |x::r=>if k=x.1 then (x.1,v)::r else x::putK r k v
theorem JGU {β:Type}(f:β→AV)(k:ByteArray)(v:β):∀ l:List (ByteArray×β),∃ r,J0y (J0q T 9 (encS k)) (l.map fun x=>encS x.1)=some r∧(match r with
  |some i=>(l.map fun x=>encS x.1)=((putK l k v).map fun x=>encS x.1)∧(l.map fun x=>f x.2).set i (f v)=(putK l k v).map fun x=>f x.2
  |none=>(l.map fun x=>encS x.1)++[encS k]=((putK l k v).map fun x=>encS x.1)∧(l.map fun x=>f x.2)++[f v]=(putK l k v).map fun x=>f x.2)
 |[]=>⟨none,rfl,rfl,rfl⟩
 |x :: l=>by
   obtain ⟨r,h1,h2⟩:=JGU f k v l;rw[List.map_cons,List.map_cons];unfold J0y putK;rw[J6X]
   by_cases h:k=x.1
   ·rw[decide_eq_true h,if_pos h];exact ⟨some 0,rfl,rfl,rfl⟩
   ·rw[decide_eq_false h,if_neg h,h1];refine ⟨r.map (· + 1),rfl,?_⟩
    revert h2
    cases r with
    |none=>
      rintro ⟨h2,h3⟩;exact ⟨by rw[List.map_cons,← h2];rfl,by rw[List.map_cons,← h3];rfl⟩
    |some i=>
      rintro ⟨h2,h3⟩;exact ⟨by rw[List.map_cons,← h2],by rw[List.map_cons,← h3];rfl⟩
def knownF (vs:List Va):List (ByteArray×Va):=vs.foldl (fun l v=>putK l v.name v) []
theorem J97 (s:Sys)(hv:s.vars.length≤2^60):PX 99 [J0M s] (encK (knownF s.vars)):=by
 refine PC [6] Tryz.func99 rfl (by rfl) rfl ?_;obtain ⟨vs,qs,ns,ws⟩:=s;simp only at hv ⊢;generalize hF:knownF vs=F;unfold knownF at hF;unfold J0M;refine kWS ?_;intros
 refine LoopP.intro (fun k σ H=>∃ g i,∃ l:List (ByteArray×Va),k=vs.length-i∧i≤vs.length∧(vs.drop i).foldl (fun l v=>putK l v.name v) l=F ∧
  σ=fr [(2,.val (.map none)),(3,.om 6 g),(8,.sl 7 (vs.map encV)),(9,encI vs.length),(10,encI i)] ∧
  H=hp [(6,g,⟨109,0,[encK l]⟩)]) ?_ ?_
 ·refine .intro <| W.of ⟨_,_,0,[],rfl,Nat.zero_le _,hF,rfl,rfl⟩ ⟨rfl,rfl,rfl,?_,rfl,trivial⟩ ⟨rfl,trivial⟩
  show AV.val (.int .i64 _)=AV.val (.int .i64 _)
  rw[List.length_map]
 ·clear hF;rintro k σ H ⟨g,i,l,rfl,hi,hF,rfl,rfl⟩;refine kWS ?_;intros;refine CondP.dec (fun h=>?_) (fun h=>?_)<;>refine kW ?_
  ·have hi':i<vs.length:=by omega
   rw[List.drop_eq_getElem_cons hi',List.foldl_cons] at hF;refine kR ?_;intros;generalize vs[i]=v at hF ⊢;refine kR ?_;intros;refine Need.intro keyst9 ?_;refine kWR ?_;intros;obtain ⟨r,hr,hm⟩:=JGU encV v.name v l;refine LookP.intro r hr ?_
   cases r with
   |some j=>
     refine kWR ?_;intros
     refine .intro <| W.of ⟨_,by omega,_,i+1,putK l v.name v,rfl,hi',hF,rfl,rfl⟩ ⟨rfl,rfl,rfl,rfl,rfl,trivial⟩ ⟨?_,trivial⟩
     exact congrArg (fun z=>some (g,(⟨109,0,[z]⟩:Blk))) (congr (congrArg AV.mp hm.1) hm.2)
   |none=>
     refine kWR ?_;intros
     refine .intro <| W.of ⟨_,by omega,_,i+1,putK l v.name v,rfl,hi',hF,rfl,rfl⟩ ⟨rfl,rfl,rfl,rfl,rfl,trivial⟩ ⟨?_,trivial⟩
     exact congrArg (fun z=>some (g,(⟨109,0,[z]⟩:Blk))) (congr (congrArg AV.mp hm.1) hm.2)
  ·rw[List.drop_eq_nil_of_le (by omega)] at hF;refine kS ?_;intros;exact .of (by rw[← hF];rfl)
def typedF (ks:List (ByteArray×Va))(e:Ex)(t:Int):Bool:=builtF e&&(typeF ks e).2&&decide ((typeF ks e).1=t)
theorem J5R (ks:List (ByteArray×Va))(e:Ex)(t:Int)(hs:SzE e)(hx:TxE e):PX 258 [encK ks,encE e,encI t] (encB (typedF ks e t)):=by
 refine PZ Tryz.func258 rfl ?_;have hb:=J9s e hs hx;have hT:=JIE ks e hs;generalize hF:typedF ks e t=F;unfold typedF at hF;generalize builtF e=b at hF hb hT;generalize typeF ks e=ty at hF hT;rw[J02] at hb hT ⊢;refine kWS ?_;intros;refine CallP.flat [] _ c123 hb rfl ?_;refine kWS ?_;intros
 cases b with
 |false=>
   rw[Bool.false_and,Bool.false_and] at hF;refine kS ?_;intros;exact .of (by rw[← hF];rfl)
 |true=>
   rw[Bool.true_and] at hF;obtain ⟨x,y⟩:=ty;simp only at hF;refine kS ?_;intros;refine J00 [] _ c124 (hT rfl) ?_;refine kWS ?_;intros
   cases y with
   |false=>
     rw[Bool.false_and] at hF;refine kS ?_;intros;exact .of (by rw[← hF];rfl)
   |true=>
     rw[Bool.true_and] at hF;refine kS ?_;intros;exact .of (by rw[← hF];rfl)
def setM (A:List ByteArray):AV:=.mp (A.map encS) (A.map fun _=>encB true)
def memA (s:ByteArray)(A:List ByteArray):Bool:=A.any fun x=>decide (s=x)
theorem JBz (s:ByteArray):∀ A:List ByteArray,∃ r,J0y (J0q T 9 (encS s)) (A.map encS)=some r∧(match r with
  |some i=>memA s A=true∧(A.map fun _=>encB true).getD i .dead=encB true
  |none=>memA s A=false)
 |[]=>⟨none,rfl,rfl⟩
 |x :: l=>by
   obtain ⟨r,h1,h2⟩:=JBz s l;rw[List.map_cons];unfold J0y;rw[J6X]
   by_cases h:s=x
   ·rw[decide_eq_true h];exact ⟨some 0,rfl,by simp[memA,h],rfl⟩
   ·rw[decide_eq_false h,h1];refine ⟨r.map (· + 1),rfl,?_⟩
    revert h2
    cases r with
    |none=>intro h2;simpa [memA,h] using h2
    |some i=>rintro ⟨h2,h3⟩;exact ⟨by unfold memA at *;rw[List.any_cons,h2,Bool.or_true],h3⟩
theorem JA8 (p:Nat)(e:Nat)(A:List ByteArray)(v:ByteArray):some (p,(⟨e,0,[.mp (A.map encS++[encS v]) ((A.map fun _=>encB true)++[encB true])]⟩:Blk))=some (p,⟨e,0,[setM (A++[v])]⟩):=by
 unfold setM;rw[List.map_append,List.map_append];rfl
def badA (ks:List (ByteArray×Va))(a:Ac)(A:List ByteArray):Bool:=match J0u ks a.var with
 |none=>true
 |some v=>(!decide (a.kind=0)&&!decide (a.kind=1))||!decide (v.kind=if a.kind=0 then 1 else 0)||memA a.var A||!typedF ks a.value v.type
def J3c (ks:List (ByteArray×Va)):List Ac→List ByteArray→List ByteArray→Bool×List ByteArray
 |[],_,A=>(true,A)
 |a::r,S,A=>if badA ks a (if a.kind=0 then A else S) then (false,A) else if a.kind=0 then J3c ks r S (A++[a.var]) else J3c ks r (S++[a.var]) A
def J9e (ks:List (ByteArray×Va))(w:Whn)(A:List ByteArray):Bool×List ByteArray:=((J3c ks w.acts [] A).1&&decide (0<w.acts.length),(J3c ks w.acts [] A).2)
theorem JMj (ks : List (ByteArray×Va))(w:Whn)(A:List ByteArray)(p:Nat)(hl:w.acts.length≤2^40)(he:∀ a∈w.acts,SzE a.value∧TxE a.value) :
  HCall Tryz.prog 259 [encK ks,J0m w,.om 50 p] (hp [(50,p,⟨302,0,[setM A]⟩)]) (fun r h=>r=encB (J9e ks w A).1∧h=hp [(50,p,⟨302,0,[setM (J9e ks w A).2]⟩)]):=by
 refine J2M (E:=E 0) J5C (JLC 0) Tryz.func259 rfl (by rfl) (Nat.le_of_ble_eq_true rfl) ?_;obtain ⟨wn,wc,ats⟩:=w;simp only at hl he;generalize hF:J9e ks ⟨wn,wc,ats⟩ A=F;unfold J9e at hF;simp only at hF;obtain ⟨G,hG⟩:∃ G,J3c ks ats [] A=G:=⟨_,rfl⟩;rw[hG] at hF;unfold J0m;refine kWS ?_;intros
 refine LoopP.intro (fun k σ H=>∃ g g4 i,∃ S A:List ByteArray,k=ats.length-i∧i≤ats.length∧J3c ks (ats.drop i) S A=G ∧
  σ=fr [(0,encK ks),(2,.om 50 p),(4,.op 4 g4 0 0),(6,encB false),(7,.om 14 g),(16,.sl 6 (ats.map J6n)),(17,encI ats.length),(18,encI i)] ∧
  H=hp [(4,g4,⟨228,6,[J0m ⟨wn,wc,ats⟩]⟩),(14,g,⟨302,0,[setM S]⟩),(50,p,⟨302,0,[setM A]⟩)]) ?_ ?_
 ·refine .intro <| W.of ⟨_,_,_,0,[],A,rfl,Nat.zero_le _,hG,rfl,rfl⟩ ⟨rfl,rfl,rfl,rfl,rfl,rfl,?_,rfl,trivial⟩ ⟨rfl,rfl,rfl,trivial⟩
  show AV.val (.int .i64 _)=AV.val (.int .i64 _)
  rw[List.length_map]
 ·clear hG A;rintro k σ H ⟨g,g4,i,S,A,rfl,hi,hG,rfl,rfl⟩;refine kWS ?_;intros;refine CondP.dec (fun h=>?_) (fun h=>?_)<;>refine kW ?_
  ·have hi':i<ats.length:=by omega
   rw[List.drop_eq_getElem_cons hi'] at hG;have hz:=he ats[i] (List.getElem_mem hi');refine kR ?_;intros;generalize ats[i]=a at hG hz ⊢;obtain ⟨ak,av,ae⟩:=a;simp only at hz;refine kR ?_;intros;refine Need.intro keyst9 ?_;refine kW ?_;obtain ⟨r,hr,hm⟩:=J1n encV av ks;refine LookP.intro r hr ?_;unfold J3c badA at hG;simp only at hG
   cases ha:J0u ks av with
   |none=>
     rw[ha] at hm hG
     cases r with
     |some i=>exact hm.elim
     |none=>
       replace hG:(false,A)=G:=hG;refine kWS ?_;intros;refine CondP.dec (fun _=>?_) (fun _=>?_)<;>refine kW ?_<;>refine kS ?_;intros
       all_goals exact EndH.of (m:=[(50,p,⟨302,0,[setM A]⟩)]) ⟨rfl,trivial⟩ ⟨by rw[← hF,← hG];rfl,by rw[← hF,← hG]⟩
   |some v=>
     rw[ha] at hm hG
     cases r with
     |none=>exact hm.elim
     |some j=>
       refine kW ?_;rw[show (List.map (fun x=>encV x.snd) ks).getD j AV.dead=encV v from hm];refine kWS ?_;intros;replace hG:(if ((!decide (ak=0)&&!decide (ak=1))||!decide (v.kind=if ak=0 then 1 else 0)||memA av (if ak=0 then A else S)||!typedF ks ae v.type) then (false,A) else if ak=0 then J3c ks (ats.drop (i+1)) S (A++[av]) else J3c ks (ats.drop (i+1)) (S++[av]) A)=G:=hG;have hty:=J5R ks ae v.type hz.1 hz.2;generalize typedF ks ae v.type=bt at hG hty;rw[J02] at hty;refine CondP.dec (fun h0=>?_) (fun h0=>?_)<;>refine kW ?_
       case' refine_1=>
        simp only[h0,decide_true,Bool.not_true,Bool.false_and,Bool.false_or,if_true] at hG;obtain ⟨r2,hr2,hm2⟩:=JBz av A;refine kS ?_;intros
       case' refine_2=>
        by_cases h01:ak=1
        case' neg=>
         simp only[h0,h01,decide_false,Bool.not_false,Bool.true_and,Bool.true_or,if_true] at hG;refine kS ?_;intros;exact EndH.of (m:=[(50,p,⟨302,0,[setM A]⟩)]) ⟨rfl,trivial⟩ ⟨by rw[← hF,← hG];rfl,by rw[← hF,← hG]⟩
        simp only[h0,h01,decide_false,decide_true,Bool.not_true,Bool.not_false,Bool.and_false,Bool.false_or,if_false,Int.reduceEq] at hG;obtain ⟨r2,hr2,hm2⟩:=JBz av S;refine kS ?_;intros
       all_goals
        refine CondP.dec (fun h1=>?_) (fun h1=>?_)<;>refine kW ?_
        ·simp only[h1,decide_true,Bool.not_true,Bool.false_or] at hG;refine kS ?_;intros;refine Need.intro keyst9 ?_;refine kWS ?_;intros;refine LookP.intro r2 hr2 ?_
         cases r2 with
         |some j2=>
           obtain ⟨hm3,hm4⟩:=hm2;simp only[hm3,Bool.true_or,if_true] at hG;refine kW ?_;rw[hm4];refine kWS ?_;intros;exact EndH.of (m:=[(50,p,⟨302,0,[setM A]⟩)]) ⟨rfl,trivial⟩ ⟨by rw[← hF,← hG];rfl,by rw[← hF,← hG]⟩
         |none=>
           replace hm2:memA av _=false:=hm2;simp only[hm2,Bool.false_or] at hG;refine kWS ?_;intros;refine CallP.flat [] _ c258 hty rfl ?_;refine kWS ?_;intros
           cases bt with
           |false=>
             replace hG:(false,A)=G:=hG;refine kS ?_;intros;exact EndH.of (m:=[(50,p,⟨302,0,[setM A]⟩)]) ⟨rfl,trivial⟩ ⟨by rw[← hF,← hG];rfl,by rw[← hF,← hG]⟩
           |true=>
             simp only[Bool.not_true,Bool.false_eq_true,if_false] at hG;refine kS ?_;intros;refine Need.intro keyst9 ?_;refine kWS ?_;intros;refine LookP.intro none hr2 ?_;refine kWS ?_;intros
             first
              |refine .intro <| W.of ⟨_,by omega,_,_,i+1,S,A++[av],rfl,hi',hG,rfl,rfl⟩ ⟨rfl,rfl,rfl,rfl,rfl,rfl,rfl,rfl,trivial⟩ ⟨rfl,rfl,JA8 ..,trivial⟩
              |refine .intro <| W.of ⟨_,by omega,_,_,i+1,S++[av],A,rfl,hi',hG,rfl,rfl⟩ ⟨rfl,rfl,rfl,rfl,rfl,rfl,rfl,rfl,trivial⟩ ⟨rfl,JA8 ..,rfl,trivial⟩
        ·simp only[h1,decide_false,Bool.not_false,Bool.true_or,if_true] at hG;refine kS ?_;intros;exact EndH.of (m:=[(50,p,⟨302,0,[setM A]⟩)]) ⟨rfl,trivial⟩ ⟨by rw[← hF,← hG];rfl,by rw[← hF,← hG]⟩
  ·rw[List.drop_eq_nil_of_le (by omega)] at hG;refine kS ?_;intros;replace hG:(true,A)=G:=hG;refine EndH.of (m:=[(50,p,⟨302,0,[setM A]⟩)]) ⟨rfl,trivial⟩ ⟨?_,by rw[← hF,← hG]⟩;rw[← hF,← hG];show AV.val (.bool (decide _))=AV.val (.bool (decide _))
   congr 2
   exact decide_eq_decide.2 (by simp)
def eqT (ks:List (ByteArray×Va))(q:Eqn):Bool:=typedF ks q.left 0&&typedF ks q.right 0
def J3f (ks:List (ByteArray×Va)):List Whn→List ByteArray→Bool
 |[],_=>true
 |w::r,A=>typedF ks w.cond 1&&(J9e ks w A).1&&J3f ks r (J9e ks w A).2
def validF (s:Sys):Bool:=
 risG (s.vars.map Va.name) none&&risG (s.eqs.map Eqn.name) none&&risG (s.inits.map Eqn.name) none&&risG (s.whens.map Whn.name) none
  && !(s.vars.any fun v=>!varF v)&&(s.eqs.all (eqT (knownF s.vars))&&s.inits.all (eqT (knownF s.vars)))&&J3f (knownF s.vars) s.whens []
theorem J13 {l:List Eqn}{q:Eqn}(h:q∈l):q.left∈J1O l∧q.right∈J1O l:=by
 unfold J1O;exact ⟨List.mem_flatMap.2 ⟨q,h,by simp⟩,List.mem_flatMap.2 ⟨q,h,by simp⟩⟩
theorem J3w {l:List Whn}{w:Whn}(h:w∈l):w.cond∈l.flatMap J3g∧∀ a∈w.acts,a.value∈l.flatMap J3g:=by
 refine ⟨List.mem_flatMap.2 ⟨w,h,by simp[J3g]⟩,fun a ha=>List.mem_flatMap.2 ⟨w,h,?_⟩⟩;unfold J3g;exact List.mem_cons_of_mem _ (List.mem_map.2 ⟨a,ha,rfl⟩)
theorem JJ0 (s:Sys)(hs:SzS s)(h20:∀ w∈s.whens,w.acts.length≤20):PX 175 [J0M s] (encB (validF s)):=by
 refine PZ Tryz.func175 rfl ?_;have r1:=JES s.vars hs.v fun v hv=>(hs.t v hv).1;have r2:=J82 s.eqs hs.q hs.m.1;have r3:=J82 s.inits hs.n hs.m.2.1;have r4:=JER s.whens hs.w hs.m.2.2;have hC:=JB7 256 (fun v=>!varF v) s.vars hs.v c256 fun v hv=>JFl v (hs.t v hv).2.1 (hs.t v hv).2.2.1 (hs.t v hv).2.2.2;have hK:=J97 s hs.v;have hQ:∀ q∈s.eqs,(SzE q.left∧TxE q.left)∧SzE q.right∧TxE q.right:=fun q hq=>⟨hs.e _ (by unfold allF;exact List.mem_append_left _ (List.mem_append_left _ (J13 hq).1)),hs.e _ (by unfold allF;exact List.mem_append_left _ (List.mem_append_left _ (J13 hq).2))⟩;have hN:∀ q∈s.inits,(SzE q.left∧TxE q.left)∧SzE q.right∧TxE q.right:=fun q hq=>⟨hs.e _ (by unfold allF;exact List.mem_append_left _ (List.mem_append_right _ (J13 hq).1)),hs.e _ (by unfold allF;exact List.mem_append_left _ (List.mem_append_right _ (J13 hq).2))⟩;have hWc:∀ w∈s.whens,SzE w.cond∧TxE w.cond:=fun w hw=>hs.e _ (by unfold allF;exact List.mem_append_right _ (J3w hw).1);have hWa:∀ w∈s.whens,∀ a∈w.acts,SzE a.value∧TxE a.value:=fun w hw a ha=>hs.e _ (by unfold allF;exact List.mem_append_right _ ((J3w hw).2 a ha));have hq:=hs.q;have hn:=hs.n;have hw:=hs.w;clear hs;generalize hF:validF s=F;unfold validF at hF;obtain ⟨vs,qs,ns,ws⟩:=s;simp only at *;generalize risG (vs.map Va.name) none=b1 at *;generalize risG (qs.map Eqn.name) none=b2 at *;generalize risG (ns.map Eqn.name) none=b3 at *;generalize risG (ws.map Whn.name) none=b4 at *;generalize (vs.any fun v=>!varF v)=b5 at *;generalize knownF vs=ks at *;unfold J0M at hK ⊢;refine kWS ?_;intros;refine CallP.flat [] _ c249 r1 rfl ?_;refine kWS ?_;intros;refine CondP.intro (fun h=>?_) (fun h=>?_)<;>refine kW ?_
 case' refine_2=>
  simp only[h,Bool.false_and] at hF;refine kS ?_;intros;exact .of (by rw[← hF];rfl)
 simp only[h,Bool.true_and] at hF;refine kS ?_;intros;refine CallP.flat [] _ c251 r2 rfl ?_;refine kWS ?_;intros;refine CondP.intro (fun h=>?_) (fun h=>?_)<;>refine kW ?_
 case' refine_2=>
  simp only[h,Bool.false_and] at hF;refine kS ?_;intros;exact .of (by rw[← hF];rfl)
 simp only[h,Bool.true_and] at hF;refine kS ?_;intros;refine CallP.flat [] _ c251 r3 rfl ?_;refine kWS ?_;intros;refine CondP.intro (fun h=>?_) (fun h=>?_)<;>refine kW ?_
 case' refine_2=>
  simp only[h,Bool.false_and] at hF;refine kS ?_;intros;exact .of (by rw[← hF];rfl)
 simp only[h,Bool.true_and] at hF;refine kS ?_;intros;refine CallP.flat [] _ c253 r4 rfl ?_;refine kWS ?_;intros;refine CondP.intro (fun h=>?_) (fun h=>?_)<;>refine kW ?_
 case' refine_2=>
  simp only[h,Bool.false_and] at hF;refine kS ?_;intros;exact .of (by rw[← hF];rfl)
 simp only[h,Bool.true_and] at hF;refine kS ?_;intros;refine CallP.flat [] _ c255 hC rfl ?_;refine kWS ?_;intros;refine CondP.intro (fun h=>?_) (fun h=>?_)<;>refine kW ?_
 ·simp only[h,Bool.not_true,Bool.false_and] at hF;refine kS ?_;intros;exact .of (by rw[← hF];rfl)
 simp only[h,Bool.not_false,Bool.true_and] at hF;refine kS ?_;intros;refine J00 [] _ c99 hK ?_;refine kWS ?_;intros
 have hQN:∀ l∈[qs,ns],l.length≤2^60∧∀ q∈l,(SzE q.left∧TxE q.left)∧SzE q.right∧TxE q.right:=by
  intro l hl
  rcases List.mem_cons.1 hl with h|h
  ·rw[h];exact ⟨hq,hQ⟩
  ·rw[List.mem_singleton.1 h];exact ⟨hn,hN⟩
 obtain ⟨wh,hwh⟩:∃ wh,J3f ks ws []=wh:=⟨_,rfl⟩;rw[hwh] at hF;replace hF:([qs,ns].all (fun l=>l.all (eqT ks))&&wh)=F:=by rw[← hF];simp
 clear hQ hN r1 r2 r3 r4 hC hK
 refine LoopP.intro (fun k σ H=>∃ g1 g42 i,k=2-i∧i≤2∧(([qs,ns].drop i).all (fun l=>l.all (eqT ks))&&wh)=F ∧
  σ=fr [(1,.op 1 g1 0 0),(2,encB false),(3,encK ks),(42,.own 42 g42 0 2),(43,encI 2),(44,encI i)] ∧
  H=hp [(1,g1,⟨26,4,[.agg [.sl 7 (vs.map encV),.sl 9 (qs.map J0N),.sl 9 (ns.map J0N),.sl 6 (ws.map J0m)]]⟩),(42,g42,⟨23,1,[qs,ns].map fun l=>.sl 9 (l.map J0N)⟩)]) ?_ ?_
 ·exact .intro <| W.of ⟨_,_,_,0,rfl,by omega,hF,rfl,rfl⟩ ⟨rfl,rfl,rfl,rfl,rfl,rfl,trivial⟩ ⟨rfl,rfl,trivial⟩
 ·clear hF;rintro k σ H ⟨g1,g42,i,rfl,hi,hF,rfl,rfl⟩;refine kWS ?_;intros;refine CondP.dec (fun h=>?_) (fun h=>?_)<;>refine kW ?_
  ·have hi':i<[qs,ns].length:=by simp;omega
   rw[List.drop_eq_getElem_cons hi',List.all_cons] at hF;obtain ⟨hl,hlq⟩:=hQN _ (List.getElem_mem hi');refine kR ?_;intros;generalize [qs,ns][i]=l at hF hl hlq ⊢;obtain ⟨rs,hrs⟩:∃ rs,([qs,ns].drop (i+1)).all (fun l=>l.all (eqT ks))=rs:=⟨_,rfl⟩;rw[hrs] at hF
   refine LoopP.intro (fun k σ H=>∃ j,k=l.length-j∧j≤l.length∧((l.drop j).all (eqT ks)&&rs&&wh)=F ∧
    σ=fr [(1,.op 1 g1 0 0),(2,encB false),(3,encK ks),(42,.own 42 g42 0 2),(43,encI 2),(44,encI i),(48,.sl 9 (l.map J0N)),(49,encI l.length),(50,encI j)] ∧
    H=hp [(1,g1,⟨26,4,[.agg [.sl 7 (vs.map encV),.sl 9 (qs.map J0N),.sl 9 (ns.map J0N),.sl 6 (ws.map J0m)]]⟩),(42,g42,⟨23,1,[qs,ns].map fun l=>.sl 9 (l.map J0N)⟩)]) ?_ ?_
   ·exact .intro <| W.of ⟨_,0,rfl,Nat.zero_le _,hF,rfl,rfl⟩ ⟨rfl,rfl,rfl,rfl,rfl,rfl,rfl,rfl,rfl,trivial⟩ ⟨rfl,rfl,trivial⟩
   ·clear hF;rintro k σ H ⟨j,rfl,hj,hF,rfl,rfl⟩;refine kWS ?_;intros;refine CondP.dec (fun h=>?_) (fun h=>?_)<;>refine kW ?_
    ·have hj':j<l.length:=by omega
     rw[List.drop_eq_getElem_cons hj',List.all_cons] at hF;have hz:=hlq _ (List.getElem_mem hj');refine kR ?_;intros;generalize l[j]=q at hF hz ⊢;unfold eqT at hF;have t1:=J5R ks q.left 0 hz.1.1 hz.1.2;have t2:=J5R ks q.right 0 hz.2.1 hz.2.2;generalize typedF ks q.left 0=y1 at hF t1;generalize typedF ks q.right 0=y2 at hF t2;rw[J08] at t1 t2;refine kR ?_;intros;refine CallP.flat [] _ c258 t1 rfl ?_;refine kWS ?_;intros;refine CondP.intro (fun h1=>?_) (fun h1=>?_)<;>refine kW ?_
     case' refine_2=>
      simp only[h1,Bool.false_and] at hF;refine kS ?_;intros;exact .of (by rw[← hF];rfl)
     simp only[h1,Bool.true_and] at hF;refine kS ?_;intros;refine CallP.flat [] _ c258 t2 rfl ?_;refine kWS ?_;intros;refine CondP.intro (fun h2=>?_) (fun h2=>?_)<;>refine kW ?_
     case' refine_2=>
      simp only[h2,Bool.false_and] at hF;refine kS ?_;intros;exact .of (by rw[← hF];rfl)
     simp only[h2,Bool.true_and] at hF;refine kS ?_;intros
     exact .intro <| W.of ⟨_,by omega,j+1,rfl,hj',hF,rfl,rfl⟩ ⟨rfl,rfl,rfl,rfl,rfl,rfl,rfl,rfl,rfl,trivial⟩ ⟨rfl,rfl,trivial⟩
    ·rw[List.drop_eq_nil_of_le (by omega)] at hF;refine kS ?_;intros
     exact .intro <| W.of ⟨_,by omega,_,_,i+1,rfl,by omega,by rw[hrs];exact hF,rfl,rfl⟩ ⟨rfl,rfl,rfl,rfl,rfl,rfl,trivial⟩ ⟨rfl,rfl,trivial⟩
  ·rw[List.drop_eq_nil_of_le (by simp;omega)] at hF;replace hF:wh=F:=hF;rw[← hwh] at hF;refine kS ?_;intros
   refine LoopP.intro (fun k σ H=>∃ g i,∃ A:List ByteArray,k=ws.length-i∧i≤ws.length∧J3f ks (ws.drop i) A=F ∧
    σ=fr [(2,encB false),(3,encK ks),(8,.om 68 g),(70,.sl 6 (ws.map J0m)),(71,encI ws.length),(72,encI i)] ∧
    H=hp [(68,g,⟨302,0,[setM A]⟩)]) ?_ ?_
   ·refine .intro <| W.of ⟨_,_,0,[],rfl,Nat.zero_le _,hF,rfl,rfl⟩ ⟨rfl,rfl,rfl,rfl,?_,rfl,trivial⟩ ⟨rfl,trivial⟩
    show AV.val (.int .i64 _)=AV.val (.int .i64 _)
    rw[List.length_map]
   ·clear hF hwh;rintro k σ H ⟨g,i,A,rfl,hi,hF,rfl,rfl⟩;refine kWS ?_;intros;refine CondP.dec (fun h=>?_) (fun h=>?_)<;>refine kW ?_
    ·have hi':i<ws.length:=by omega
     rw[List.drop_eq_getElem_cons hi'] at hF;unfold J3f at hF;have hz:=hWc _ (List.getElem_mem hi');have hza:=hWa _ (List.getElem_mem hi');have h20':=h20 _ (List.getElem_mem hi');refine kR ?_;intros;generalize ws[i]=w at hF hz hza h20' ⊢;have t1:=J5R ks w.cond 1 hz.1 hz.2;generalize typedF ks w.cond 1=y1 at hF t1;rw[J08] at t1;refine kR ?_;intros;refine CallP.flat [] _ c258 t1 rfl ?_;refine kWS ?_;intros;refine CondP.intro (fun h1=>?_) (fun h1=>?_)<;>refine kW ?_
     case' refine_2=>
      simp only[h1,Bool.false_and] at hF;refine kS ?_;intros;exact .of (by rw[← hF];rfl)
     simp only[h1,Bool.true_and] at hF;refine kS ?_;intros;refine CallP.frame 1000000 [(50,68)] rfl c259 (JMj ks w A g (by omega) hza) rfl ⟨rfl,trivial⟩ ?_;rintro r0 h' ⟨rfl,rfl⟩;refine ⟨[(68,g,⟨302,0,[setM (J9e ks w A).2]⟩)],⟨rfl,trivial⟩,?_⟩;refine kWS ?_;intros;refine CondP.intro (fun h2=>?_) (fun h2=>?_)<;>refine kW ?_
     case' refine_2=>
      simp only[h2,Bool.false_and] at hF;refine kS ?_;intros;exact .of (by rw[← hF];rfl)
     simp only[h2,Bool.true_and] at hF;refine kS ?_;intros
     exact .intro <| W.of ⟨_,by omega,_,i+1,_,rfl,hi',hF,rfl,rfl⟩ ⟨rfl,rfl,rfl,rfl,rfl,rfl,trivial⟩ ⟨rfl,trivial⟩
    ·rw[List.drop_eq_nil_of_le (by omega)] at hF;refine kS ?_;intros;exact .of (by rw[← hF];rfl)
def checkF (s:Sys):Int:=if largeF s then 2 else if validF s then 0 else 1
theorem JDu (s:Sys)(hs:SzS s):PX 89 [J0M s] (encI (checkF s)):=by
 refine PZ Tryz.func89 rfl ?_;have hL:=JJh s hs
 have h20:largeF s=false→∀ w∈s.whens,w.acts.length≤20:=by
  intro h w hw;unfold largeF at h;simp only[Bool.or_eq_false_iff] at h;have:=List.any_eq_false.1 h.1.2 w hw;simp at this;exact this
 have hV:=fun h=>JJ0 s hs (h20 h);generalize hF:checkF s=F;unfold checkF at hF;generalize largeF s=a at hF hL hV;generalize validF s=b at hF hV;clear h20 hs;unfold J0M at hL hV ⊢;refine kWS ?_;intros;refine CallP.flat [] _ c174 hL rfl ?_;refine kWS ?_;intros
 cases a with
 |true=>
   refine kS ?_;intros;exact .of (by rw[← hF];rfl)
 |false=>
   refine kS ?_;intros;refine CallP.flat [] _ c175 (hV rfl) rfl ?_;refine kWS ?_;intros
   cases b with
   |true=>
     refine kS ?_;intros;exact .of (by rw[← hF];rfl)
   |false=>
     refine kS ?_;intros;exact .of (by rw[← hF];rfl)
abbrev oTrue:ByteArray:=⟨#[116,114,117,101]⟩
abbrev oFalse:ByteArray:=⟨#[102,97,108,115,101]⟩
abbrev oTime:ByteArray:=⟨#[116,105,109,101]⟩
abbrev oInit:ByteArray:=⟨#[105,110,105,116,105,97,108]⟩
abbrev oNeg:ByteArray:=⟨#[110,101,103]⟩
abbrev oNot:ByteArray:=⟨#[110,111,116]⟩
abbrev oAdd:ByteArray:=⟨#[97,100,100]⟩
abbrev oSub:ByteArray:=⟨#[115,117,98]⟩
abbrev oMul:ByteArray:=⟨#[109,117,108]⟩
abbrev oDiv:ByteArray:=⟨#[100,105,118]⟩
abbrev oLess:ByteArray:=⟨#[108,101,115,115]⟩
abbrev oAtMost:ByteArray:=⟨#[97,116,109,111,115,116]⟩
abbrev oMore:ByteArray:=⟨#[109,111,114,101]⟩
abbrev oAtLeast:ByteArray:=⟨#[97,116,108,101,97,115,116]⟩
abbrev oAnd:ByteArray:=⟨#[97,110,100]⟩
abbrev oOr:ByteArray:=⟨#[111,114]⟩
def J7a (o:ByteArray):Int:=
 if o=oNum then 0 else if o=oTrue then 0 else if o=oFalse then 0 else if o=oVar then 0 else if o=oPre then 0 else if o=oTime then 0 else if o=oInit then 0
 else if o=oNeg then 1 else if o=oNot then 1
 else if o=oSample then 2 else if o=oAdd then 2 else if o=oSub then 2 else if o=oMul then 2 else if o=oDiv then 2 else if o=oLess then 2 else if o=oAtMost then 2 else if o=oMore then 2 else if o=oAtLeast then 2
 else if o=oEq then 2 else if o=oNe then 2 else if o=oAnd then 2 else if o=oOr then 2 else if o=oIf then 3 else -1
theorem JMx (o:ByteArray):PX 206 [encS o] (encI (J7a o)):=by
 refine PZ Tryz.func206 rfl ?_;generalize hF:J7a o=F;unfold J7a at hF;refine kWS ?_;intros
 repeat
  refine CondP.dec (fun h=>?_) (fun h=>?_)<;>refine kW ?_
  ·rw[if_pos h] at hF;refine kS ?_;intros;exact .of (by rw[← hF];rfl)
  rw[if_neg h] at hF;refine kS ?_;intros
 exact .of (by rw[← hF];rfl)
theorem J3y (o:ByteArray):J7a o=J0S o:=by
 have key:∀ x:ByteArray,o=x→J7a x=J0S x→J7a o=J0S o:=fun x h e=>by rw[h];exact e
 by_cases h1:o=oNum;· exact key _ h1 (by kernel_rfl)
 by_cases h2:o=oTrue;· exact key _ h2 (by kernel_rfl)
 by_cases h3:o=oFalse;· exact key _ h3 (by kernel_rfl)
 by_cases h4:o=oVar;· exact key _ h4 (by kernel_rfl)
 by_cases h5:o=oPre;· exact key _ h5 (by kernel_rfl)
 by_cases h6:o=oTime;· exact key _ h6 (by kernel_rfl)
 by_cases h7:o=oInit;· exact key _ h7 (by kernel_rfl)
 by_cases h8:o=oNeg;· exact key _ h8 (by kernel_rfl)
 by_cases h9:o=oNot;· exact key _ h9 (by kernel_rfl)
 by_cases h10:o=oSample;· exact key _ h10 (by kernel_rfl)
 by_cases h11:o=oAdd;· exact key _ h11 (by kernel_rfl)
 by_cases h12:o=oSub;· exact key _ h12 (by kernel_rfl)
 by_cases h13:o=oMul;· exact key _ h13 (by kernel_rfl)
 by_cases h14:o=oDiv;· exact key _ h14 (by kernel_rfl)
 by_cases h15:o=oLess;· exact key _ h15 (by kernel_rfl)
 by_cases h16:o=oAtMost;· exact key _ h16 (by kernel_rfl)
 by_cases h17:o=oMore;· exact key _ h17 (by kernel_rfl)
 by_cases h18:o=oAtLeast;· exact key _ h18 (by kernel_rfl)
 by_cases h19:o=oEq;· exact key _ h19 (by kernel_rfl)
 by_cases h20:o=oNe;· exact key _ h20 (by kernel_rfl)
 by_cases h21:o=oAnd;· exact key _ h21 (by kernel_rfl)
 by_cases h22:o=oOr;· exact key _ h22 (by kernel_rfl)
 by_cases h23:o=oIf;· exact key _ h23 (by kernel_rfl)
 unfold J7a J0S;simp only[h1,h2,h3,h4,h5,h6,h7,h8,h9,h10,h11,h12,h13,h14,h15,h16,h17,h18,h19,h20,h21,h22,h23,if_false,or_self,shp,J0u]
mutual
def szF:Ex→Nat
 |.mk _ _ _ ks=>1+szL ks
def szL:List Ex→Nat
 |[]=>0
 |k::ks=>szF k+szL ks
end
mutual
def htF:Ex→Nat
 |.mk _ _ _ ks=>1+htL ks
def htL:List Ex→Nat
 |[]=>0
 |k::ks=>max (htF k) (htL ks)
end
theorem JCq (e:Ex):szF e=1+szL e.kids:=by cases e;rfl
theorem JH2 (e:Ex):htF e=1+htL e.kids:=by cases e;rfl
theorem JG1 (ks:List Ex)(i:Nat)(h:i<ks.length):szL (ks.take (i+1))=szL (ks.take i)+szF ks[i]:=by
 rw[List.take_succ_eq_append_getElem h];generalize ks.take i=l
 induction l with
 |nil=>simp[szL]
 |cons a l ih=>simp only[List.cons_append,szL,ih];omega
theorem JJB (ks:List Ex):∀ i,szL (ks.take i)≤szL ks:=by
 induction ks with
 |nil=>intro i;simp[szL]
 |cons k ks ih=>
   intro i
   cases i with
   |zero=>exact Nat.zero_le _
   |succ i=>simp only[List.take_succ_cons,szL];have:=ih i;omega
theorem JLh (e:Ex):1≤szF e:=by rw[JCq];omega
theorem JCx (e:Ex):SzE e→∀ m:Nat,m≤1000→PX 170 [encE e,encI m] (encI (min (szF e) (m+1):Nat)):=by
 induction e using J1R with
 |h e ih=>
   intro hs m hm;have ihk:∀ k∈e.kids,∀ m:Nat,m≤1000→PX 170 [encE k,encI m] (encI (min (szF k) (m+1):Nat)):=fun k hk=>ih k hk (hs.kid k hk);clear ih;have hlen:=hs.len;refine PZ Tryz.func170 rfl ?_;have hT:=JJB e.kids;have hS:=JG1 e.kids;rw[JCq];rw[J02];obtain ⟨N,hN⟩:∃ N,szL e.kids=N:=⟨_,rfl⟩;rw[hN] at hT ⊢;refine kWS ?_;intros
   refine LoopP.intro (fun k σ H=>∃ g i,k=e.kids.length-i∧i≤e.kids.length ∧
    σ=fr [(1,encI m),(2,.op 2 g 0 0),(5,encI (min (1+szL (e.kids.take i)) (m+1):Nat)),(6,encI i)]∧H=hp [(2,g,⟨29,4,[.agg [encS e.op,encS e.text,encI e.order,.sl 4 (e.kids.map encE)]]⟩)]) ?_ ?_
   ·refine .intro <| W.of ⟨_,_,0,rfl,Nat.zero_le _,rfl,rfl⟩ ⟨rfl,rfl,?_,rfl,trivial⟩ ⟨rfl,trivial⟩
    show AV.val (.int .i64 _)=AV.val (.int .i64 _)
    congr 2
   ·rintro k σ H ⟨g,i,rfl,hi,rfl,rfl⟩;have hTi:=hT i
    rcases Nat.lt_or_ge i e.kids.length with h1|h1
    ·have hSi:=hS i h1
     by_cases h2:1+szL (e.kids.take i)≤m
     ·have hk:=ihk e.kids[i] (List.getElem_mem h1) (m-(1+szL (e.kids.take i))) (by omega);have hkp:=JLh e.kids[i];rw[show min (1+szL (e.kids.take i)) (m+1)=1+szL (e.kids.take i) by omega];generalize szL (e.kids.take i)=s at *;have e1:(m:Int)-((1+s:Nat):Int)=((m-(1+s):Nat):Int):=by omega
      refine kWQ ?_;intros;generalize e.kids[i]=k at *;rw[J02] at hk ⊢;refine kQ ?_;intros;simp only[e1];refine CallP.flat [] _ c170 hk rfl ?_;refine kWQ ?_;intros
      refine .intro <| W.of ⟨_,by omega,g,i+1,rfl,h1,rfl,rfl⟩ ⟨rfl,rfl,?_,rfl,trivial⟩ ⟨rfl,trivial⟩
      show AV.val (.int .i64 _)=AV.val (.int .i64 _)
      congr 2
      rw[hSi];omega
     ·rw[show min (1+szL (e.kids.take i)) (m+1)=m+1 by omega];refine kWQ ?_;intros;refine .of ?_;show AV.val (.int .i64 _)=AV.val (.int .i64 _)
      congr 2;omega
    ·obtain rfl:i=e.kids.length:=by omega
     rw[List.take_length,hN];refine kWQ ?_;intros;exact .of rfl
theorem JNV (ks:List Ex)(d:Nat):d<htL ks↔∃ i,∃ h:i<ks.length,d<htF ks[i]:=by
 induction ks with
 |nil=>simp[htL]
 |cons k ks ih=>
   simp only[htL];rw[show d<max (htF k) (htL ks)↔d<htF k∨d<htL ks by omega,ih];constructor
   ·rintro (h | ⟨i,h,h'⟩)
    ·exact ⟨0,by simp,h⟩
    ·exact ⟨i+1,by simp;omega,h'⟩
   ·rintro ⟨i,h,h'⟩
    cases i with
    |zero=>exact .inl h'
    |succ i=>exact .inr ⟨i,by simp at h;omega,h'⟩
theorem JKC (e:Ex):SzE e→∀ d:Nat,d≤1000→PX 171 [encE e,encI d] (encB (decide (d<htF e))):=by
 induction e using J1R with
 |h e ih=>
   intro hs d hd;have ihk:∀ k∈e.kids,∀ d:Nat,d≤1000→PX 171 [encE k,encI d] (encB (decide (d<htF k))):=fun k hk=>ih k hk (hs.kid k hk);clear ih;have hlen:=hs.len;refine PZ Tryz.func171 rfl ?_;have hL:=JNV e.kids (d-1);rw[JH2];rw[J02]
   by_cases h0:d<1
   ·rw[decide_eq_true (by omega)];refine kWQ ?_;intros;exact .of rfl
   rw[show decide (d<1+htL e.kids)=decide (d-1<htL e.kids) from decide_eq_decide.2 (by omega)];have e1:(d:Int)-1=((d-1:Nat):Int):=by omega
   refine kWQ ?_;intros
   refine LoopP.intro (fun k σ H=>∃ g i,k=e.kids.length-i∧i≤e.kids.length∧(∀ j (h:j<e.kids.length),j<i→¬ d-1<htF e.kids[j]) ∧
    σ=fr [(1,encI d),(2,.op 2 g 0 0),(5,encI i)]∧H=hp [(2,g,⟨29,4,[.agg [encS e.op,encS e.text,encI e.order,.sl 4 (e.kids.map encE)]]⟩)]) ?_ ?_
   ·exact .intro <| W.of ⟨_,_,0,rfl,Nat.zero_le _,fun j h h'=>absurd h' (by omega),rfl,rfl⟩ ⟨rfl,rfl,rfl,trivial⟩ ⟨rfl,trivial⟩
   ·rintro k σ H ⟨g,i,rfl,hi,hj,rfl,rfl⟩
    rcases Nat.lt_or_ge i e.kids.length with h1|h1
    ·have hk:=ihk e.kids[i] (List.getElem_mem h1) (d-1) (by omega)
     by_cases h2:d-1<htF e.kids[i]
     ·rw[decide_eq_true h2] at hk;rw[decide_eq_true (hL.2 ⟨i,h1,h2⟩)];clear h2 hj hL;refine kWQ ?_;intros;generalize e.kids[i]=k at *;rw[J02] at hk ⊢;refine kQ ?_;intros;simp only[e1];refine CallP.flat [] _ c171 hk rfl ?_;refine kWQ ?_;intros;exact .of rfl
     ·rw[decide_eq_false h2] at hk
      have hj':∀ j (h:j<e.kids.length),j<i+1→¬ d-1<htF e.kids[j]:=fun j h h'=>by
       by_cases he:j=i
       ·subst he;exact h2
       ·exact hj j h (by omega)
      clear h2 hj;refine kWQ ?_;intros;generalize e.kids[i]=k at hk ⊢;rw[J02] at hk ⊢;refine kQ ?_;intros;simp only[e1];refine CallP.flat [] _ c171 hk rfl ?_;refine kWQ ?_;intros
      exact .intro <| W.of ⟨_,by omega,g,i+1,rfl,h1,hj',rfl,rfl⟩ ⟨rfl,rfl,rfl,trivial⟩ ⟨rfl,trivial⟩
    ·rw[decide_eq_false (fun e=>by obtain ⟨j,h,h'⟩:=hL.1 e;exact hj j h (by omega) h')];refine kWQ ?_;intros;exact .of rfl
def largeR (e:Ex):Bool:=decide (200<szF e)||decide (24<htF e)
theorem J9m (e:Ex)(hs:SzE e):PX 87 [encE e] (encB (largeR e)):=by
 refine PZ Tryz.func87 rfl ?_;have h1:=JCx e hs 200 (by omega);have h2:=JKC e hs 24 (by omega);generalize hF:largeR e=F;unfold largeR at hF;rw[J02] at h1 h2 ⊢
 by_cases h3:200<szF e
 ·rw[show min (szF e) (200+1)=201 by omega] at h1;rw[decide_eq_true h3] at hF;refine kWQ ?_;intros;refine CallP.flat [] _ c170 h1 rfl ?_;refine kWQ ?_;intros;exact .of (by rw[← hF];rfl)
 ·rw[show min (szF e) (200+1)=szF e by omega] at h1;rw[decide_eq_false h3,Bool.false_or] at hF;refine kWQ ?_;intros;refine CallP.flat [] _ c170 h1 rfl ?_;refine kWQ ?_;intros;refine CallP.flat [] _ c171 h2 rfl ?_;refine kWQ ?_;intros;exact .of (by rw[← hF];rfl)
theorem JAQ:∀ (d:Nat) (e:Ex) (l:Int),0≤l→(htF e≤d∧(szF e:Int)≤l→measF d e l=l-szF e)∧(¬ (htF e≤d∧(szF e:Int)≤l)→measF d e l<0):=by
 intro d
 induction d with
 |zero=>
   intro e l hl;have:1≤htF e:=by rw[JH2];omega
   exact ⟨fun h=>absurd h.1 (by omega),fun _=>by unfold measF;omega⟩
 |succ d ih=>
   intro e l hl;have hz:=JCq e;have hh:=JH2 e
   have key:∀ (ks:List Ex) (l:Int),0≤l→(htL ks≤d∧(szL ks:Int)≤l→J2X (measF d) ks l=l-szL ks)∧(¬ (htL ks≤d∧(szL ks:Int)≤l)→J2X (measF d) ks l<0):=by
    intro ks
    induction ks with
    |nil=>intro l hl;exact ⟨fun _=>by simp[J2X,szL],fun h=>absurd ⟨by simp[htL],by simp[szL];omega⟩ h⟩
    |cons k ks ihk=>
      intro l hl;obtain ⟨a1,a2⟩:=ih k l hl;unfold J2X htL szL
      by_cases hk:htF k≤d∧(szF k:Int)≤l
      ·rw[a1 hk,if_neg (by omega)];obtain ⟨b1,b2⟩:=ihk (l-szF k) (by omega);exact ⟨fun h=>by rw[b1 ⟨by omega,by omega⟩];omega,fun h=>b2 (fun h'=>h ⟨by omega,by omega⟩)⟩
      ·rw[if_pos (a2 hk)];exact ⟨fun h=>absurd ⟨by omega,by omega⟩ hk,fun _=>by omega⟩
   unfold measF
   by_cases h1:l-1<0
   ·rw[if_pos h1];exact ⟨fun h=>by omega,fun _=>by omega⟩
   ·rw[if_neg h1];obtain ⟨b1,b2⟩:=key e.kids (l-1) (by omega);exact ⟨fun h=>by rw[b1 ⟨by omega,by omega⟩];omega,fun h=>b2 (fun h'=>h ⟨by omega,by omega⟩)⟩
theorem J22 (e:Ex):tooF e=largeR e:=by
 obtain ⟨h1,h2⟩:=JAQ 24 e 200 (by omega);unfold tooF largeR;rw[← Bool.decide_or];refine decide_eq_decide.2 ?_
 by_cases h:htF e≤24∧(szF e:Int)≤200
 ·rw[h1 h];omega
 ·have:=h2 h;omega
theorem JA6 (e:Ex)(h:largeR e=false):sizeF e=szF e:=by
 unfold largeR at h;simp at h;unfold sizeF;rw[(JAQ 24 e 200 (by omega)).1 ⟨by omega,by omega⟩];omega
def findR (vs:List Va)(s:ByteArray):Int:=J0k (fun v:Va=>decide (v.name=s)) vs 0
theorem JIX (s:Sys)(n:ByteArray)(hv:s.vars.length≤2^60):PX 84 [J0M s,encS n] (encI (findR s.vars n)):=by
 refine PZ Tryz.func84 rfl ?_;obtain ⟨vs,qs,ns,ws⟩:=s;simp only at hv ⊢;generalize hF:findR vs n=F;unfold findR at hF;unfold J0M;refine kWQ ?_;intros
 refine LoopP.intro (fun k σ H=>∃ g i,i≤vs.length∧k=vs.length-i∧J0k (fun v:Va=>decide (v.name=n)) (vs.drop i) i=F∧σ=fr [(1,encS n),(2,.op 2 g 0 0),(5,encI i)] ∧
  H=hp [(2,g,⟨26,4,[.agg [.sl 7 (vs.map encV),.sl 9 (qs.map J0N),.sl 9 (ns.map J0N),.sl 6 (ws.map J0m)]]⟩)]) ?_ ?_
 ·exact .intro <| W.of ⟨_,_,0,Nat.zero_le _,rfl,hF,rfl,rfl⟩ ⟨rfl,rfl,rfl,trivial⟩ ⟨rfl,trivial⟩
 ·rintro k σ H ⟨g,i,hi,rfl,hF,rfl,rfl⟩
  rcases Nat.lt_or_ge i vs.length with h1|h1
  ·rw[List.drop_eq_getElem_cons h1] at hF;unfold J0k at hF;refine kWQ ?_;intros;generalize vs[i]=v at hF ⊢;refine CondP.dec (fun h=>?_) (fun h=>?_)<;>refine kW ?_
   ·rw[decide_eq_true h] at hF;refine kQ ?_;intros;exact .of (by rw[← hF];rfl)
   ·rw[decide_eq_false h] at hF;refine kQ ?_;intros
    exact .intro <| W.of ⟨_,by omega,g,i+1,h1,rfl,hF,rfl,rfl⟩ ⟨rfl,rfl,rfl,trivial⟩ ⟨rfl,trivial⟩
  ·rw[List.drop_eq_nil_of_le (by omega)] at hF;refine kWQ ?_;intros;exact .of (by rw[← hF];rfl)
theorem J34 (s:ByteArray):ofL s.data.toList=s:=J1G s
theorem J8c (s:ByteArray)(t:Int)(hs:s.size<2^35)(ht:t=0∨t=1):PX 118 [encS s,encI t] (encB (valueF s t)):=by
 refine PZ Tryz.func118 rfl ?_;have h1:=JLB s.data.toList (by exact hs);rw[J34,← (J1z s.data.toList).1] at h1;generalize hF:valueF s t=F;unfold valueF at hF;have hl:(s=sTrue∨s=sFalse)→(J0C s.data.toList).2=false:=by rintro (rfl|rfl)<;>kernel_rfl
 rcases ht with rfl|rfl
 ·rw[show decide ((1:Int)=0)=false from rfl,show decide ((0:Int)=0)=true from rfl,Bool.and_true] at hF
  have:(J0C s.data.toList).2=F:=by
   rw[← hF];split
   ·rename_i h;exact hl h
   ·rfl
  rw[this] at h1;refine kWQ ?_;intros;refine CallP.flat [] _ c152 h1 rfl ?_;refine kWQ ?_;intros;exact .of rfl
 ·rw[show decide ((1:Int)=1)=true from rfl,show decide ((0:Int)=1)=false from rfl,Bool.and_false] at hF;refine kWQ ?_;intros;refine CondP.dec (fun h=>?_) (fun h=>?_)<;>refine kW ?_
  ·rw[if_pos (.inl h)] at hF;refine kQ ?_;intros;exact .of (by rw[← hF];rfl)
  ·refine kQ ?_;intros
   by_cases h2:s=sFalse
   ·rw[if_pos (.inr h2)] at hF;refine .of ?_;rw[← hF];show AV.val (.bool (decide _))=_
    rw[decide_eq_true h2];rfl
   ·rw[if_neg (by rintro (e | e);exact h e;exact h2 e)] at hF;refine .of ?_;rw[← hF];show AV.val (.bool (decide _))=_
    rw[decide_eq_false h2];rfl
theorem JJE (l:List UInt8)(n:Int)(d:Nat)(h:readR l=some (n,d)):0<sgn n↔hasP (ofL l) (b1 45)=false∧l≠[48]:=by
 obtain ⟨hk,ht⟩:=J1K h;rw[JH6];have hs:0<sgn n↔0<n:=by unfold sgn;split<;>(try split)<;>omega
 rw[hs];obtain ⟨c,r,hcr,hh⟩:=J8x n d
 have hz:l=[48]↔n=0:=by
  constructor
  ·intro e;rw[e] at h
   have h2:readR [48]=some (0,1):=by
    have h3:okR (0,1):=⟨Nat.one_pos,by decide,by decide,JHX⟩;have h4:=J5V 0 1 h3;have e1:rT 0 1=[48]:=rfl
    rwa [e1] at h4
   rw[h2] at h;cases h;rfl
  ·rintro rfl;have hd:d=1:=by have:=hk.2.1;simpa using this
   subst hd;rw[ht];rfl
 have hneg:l.head?=some 45↔n<0:=by
  rw[ht,JEX]
  by_cases hn:n<0
  ·rw[if_pos hn];simp[hn]
  ·rw[if_neg hn];rw[JEX,if_neg hn] at hcr;rw[hcr];simp only[List.map_cons,List.head?_cons,Option.some.injEq,hn,iff_false];intro e;have:=congrArg UInt8.toNat e
   have hc:48≤c∧c≤57:=by
    have hdg:=J1u n.natAbs;have hcn:=J3D n.natAbs
    cases hT:decT n.natAbs with
    |nil=>rw[hT] at hcn;simp[J1h] at hcn
    |cons a b=>
      rw[hT,List.cons_append] at hcr;rw[hT,List.all_cons,Bool.and_eq_true] at hdg;have:=hdg.1;unfold isDg at this;simp at this;rw[← (List.cons.inj hcr).1];exact this
   simp at this;omega
 rw[show (decide (l.head?=some 45)=false)↔¬ n<0 by rw[decide_eq_false_iff_not,hneg],ne_eq,hz];omega
theorem J7N (e:Ex):SzE e→TxE e→PX 125 [encE e] (encB (builtF e)):=by
 induction e using J1R with
 |h e ih=>
   intro hs ht;have ihk:∀ k∈e.kids,PX 125 [encE k] (encB (builtF k)):=fun k hk=>ih k hk (hs.kid k hk) (ht.kid k hk);have htk:∀ k∈e.kids,TxE k:=ht.kid;clear ih;have htx:e.text.size<2^35:=ht.tx;have hlen:=hs.len;refine PZ Tryz.func125 rfl ?_;have hK:=JMx e.op;rw[J3y] at hK;have hIs:=JLB e.text.data.toList (by exact htx);rw[J34,← (J1z e.text.data.toList).1] at hIs;have hNm:=J7L e.text (by omega);generalize hF:builtF e=F;rw[J0t] at hF;unfold textF at hF;rw[J02];clear hs ht;generalize e.kids=ks at *;generalize e.op=o at *;generalize e.text=tx at *;generalize e.order=od at *;generalize hKK:J0S o=K at *;clear htx;(refine kWO ?_;repeat intro γ);refine D0 fun γs=>?_;(refine kWO ?_;repeat intro γ);refine CallG.intro _ c206 hK ?_
   by_cases hK0:K<0
   ·rw[decide_eq_false (by omega)] at hF;(refine kWO ?_;repeat intro γ);exact .of (by rw[← hF];rfl)
   (refine kWO ?_;repeat intro γ);refine CallG.intro _ c206 hK ?_;(refine kWO ?_;repeat intro γ);simp only[List.length_map]
   by_cases hKl:(ks.length:Int)=K
   case neg=>
    rw[decide_eq_false hKl] at hF;(refine kO ?_;repeat intro γ);exact .of (by rw[← hF];rfl)
   rw[decide_eq_true hKl,Bool.true_and] at hF;(refine kO ?_;repeat intro γ)
   refine LoopP.intro (fun k σ H=>∃ g i,k=ks.length-i∧i≤ks.length∧(∀ j (h:j<ks.length),j<i→builtF ks[j]=true) ∧
    σ=fr [(1,.op 1 g 0 0),(3,encI i)]∧H=hp [(1,g,⟨29,4,[.agg [encS o,encS tx,encI od,.sl 4 (ks.map encE)]]⟩)]) ?_ ?_
   ·exact .intro <| W.of ⟨_,_,0,rfl,Nat.zero_le _,fun j h h'=>absurd h' (by omega),rfl,rfl⟩ ⟨rfl,rfl,trivial⟩ ⟨rfl,trivial⟩
   ·rintro k σ H ⟨g,i,rfl,hi,hj,rfl,rfl⟩
    rcases Nat.lt_or_ge i ks.length with h1|h1
    ·have hk:=ihk ks[i] (List.getElem_mem h1)
     cases hb:builtF ks[i] with
     |false=>
       rw[hb] at hk
       have hall:ks.all builtF=false:=by
        rw[List.all_eq_false];exact ⟨ks[i],List.getElem_mem h1,by rw[hb];decide⟩
       rw[hall,Bool.and_false] at hF;clear hb hj;(refine kWQ ?_;repeat intro γ);generalize ks[i]=k at hk ⊢;rw[J02] at hk ⊢;(refine kQ ?_;repeat intro γ);refine CallP.flat [] _ c125 hk rfl ?_;(refine kWQ ?_;repeat intro γ);exact .of (by rw[← hF];rfl)
     |true=>
       rw[hb] at hk
       have hj':∀ j (h:j<ks.length),j<i+1→builtF ks[j]=true:=fun j h h'=>by
        by_cases he:j=i
        ·subst he;exact hb
        ·exact hj j h (by omega)
       clear hb hj;(refine kWQ ?_;repeat intro γ);generalize ks[i]=k at hk ⊢;rw[J02] at hk ⊢;(refine kQ ?_;repeat intro γ);refine CallP.flat [] _ c125 hk rfl ?_;(refine kWQ ?_;repeat intro γ)
       exact .intro <| W.of ⟨_,by omega,g,i+1,rfl,h1,hj',rfl,rfl⟩ ⟨rfl,rfl,trivial⟩ ⟨rfl,trivial⟩
    obtain rfl:i=ks.length:=by omega
    have hall:ks.all builtF=true:=by
     rw[List.all_eq_true];intro x hx;obtain ⟨j,hj',rfl⟩:=List.mem_iff_getElem.1 hx;exact hj j hj' hj'
    rw[hall,Bool.and_true] at hF;(refine kWQ ?_;repeat intro γ);refine CondP.dec (fun h2=>?_) (fun h2=>?_)<;>refine kW ?_
    ·
     rw[if_pos h2,show J1s o ks (ks.map builtF)=false by unfold J1s;rw[h2];rfl,Bool.not_false,Bool.and_true] at hF;(refine kQ ?_;repeat intro γ);refine CallP.flat [] _ c152 hIs rfl ?_;generalize (J0C tx.data.toList).2=b at hF;cases b
     ·(refine kWQ ?_;repeat intro γ);exact .of (by rw[← hF];rfl)
     ·(refine kWQ ?_;repeat intro γ);exact .of (by rw[← hF];rfl)
    rw[if_neg h2] at hF;(refine kQ ?_;repeat intro γ);refine CondP.dec (fun h3=>?_) (fun h3=>?_)<;>refine kW ?_
    ·rw[if_pos h3,show J1s o ks (ks.map builtF)=false by unfold J1s;rw[h3];rfl,Bool.not_false,Bool.and_true] at hF;(refine kQ ?_;repeat intro γ);refine CallP.flat [] _ c94 hNm rfl ?_;generalize nameF tx=b at hF;cases b
     ·(refine kWQ ?_;repeat intro γ);exact .of (by rw[← hF];rfl)
     ·rw[Bool.true_and] at hF;(refine kWQ ?_;repeat intro γ);refine CondP.dec (fun h4=>?_) (fun h4=>?_)<;>refine kW ?_
      ·rw[decide_eq_true h4,Bool.true_and] at hF;(refine kQ ?_;repeat intro γ);exact .of (by rw[← hF];rfl)
      ·rw[decide_eq_false h4,Bool.false_and] at hF;(refine kQ ?_;repeat intro γ);exact .of (by rw[← hF];rfl)
    rw[if_neg h3] at hF;(refine kQ ?_;repeat intro γ);refine CondP.dec (fun h4=>?_) (fun h4=>?_)<;>refine kW ?_
    ·rw[if_pos h4,show J1s o ks (ks.map builtF)=false by unfold J1s;rw[h4];rfl,Bool.not_false,Bool.and_true] at hF;(refine kQ ?_;repeat intro γ);refine CallP.flat [] _ c94 hNm rfl ?_;generalize nameF tx=b at hF;cases b
     ·(refine kWQ ?_;repeat intro γ);exact .of (by rw[← hF];rfl)
     ·rw[Bool.true_and] at hF;(refine kWQ ?_;repeat intro γ);exact .of (by rw[← hF];rfl)
    rw[if_neg h4] at hF;(refine kQ ?_;repeat intro γ);refine CondP.dec (fun h5=>?_) (fun h5=>?_)<;>refine kW ?_
    case' refine_2=>
     rw[show J1s o ks (ks.map builtF)=false by unfold J1s;rw[decide_eq_false h5];rfl,Bool.not_false,Bool.and_true] at hF;(refine kQ ?_;repeat intro γ);refine CondP.dec (fun h6=>?_) (fun h6=>?_)<;>refine kW ?_
     ·rw[decide_eq_true h6,Bool.true_and] at hF;(refine kQ ?_;repeat intro γ);exact .of (by rw[← hF];rfl)
     ·rw[decide_eq_false h6,Bool.false_and] at hF;(refine kQ ?_;repeat intro γ);exact .of (by rw[← hF];rfl)
    obtain ⟨k0,k1,rfl⟩:∃ k0 k1,ks=[k0,k1]:=by
     have h2':o=oSample:=h5;have:J0S oSample=2:=by rfl
     rw[← hKK,h2',this] at hKl
     match ks,hKl with
     |[a,b],_=>exact ⟨a,b,rfl⟩
     |[],h=>simp at h
     |[_],h=>simp at h
     |_::_::_::_,h=>simp at h;omega
    have hb1:builtF k1=true:=hj 1 (by simp) (by simp)
    have hsm:J1s o [k0,k1] ([k0,k1].map builtF)=(!decide (k0.op=oNum)||!decide (k1.op=oNum)||!builtF k1||hasP k1.text (b1 45)||decide (k1.text=⟨#[48]⟩)):=by
     unfold J1s;rw[decide_eq_true h5];rfl
    rw[hsm,hb1,Bool.not_true,Bool.or_false] at hF;have ht1:k1.text.size<2^35:=(htk k1 (by simp)).tx
    have hsl:List.map encE [k0,k1]=[.agg [encS k0.op,encS k0.text,encI k0.order,.sl 4 (k0.kids.map encE)],.agg [encS k1.op,encS k1.text,encI k1.order,.sl 4 (k1.kids.map encE)]]:=by
     rw[← J02,← J02];rfl
    have hrd:=J9k k1.text.data.toList (by exact ht1);rw[J34] at hrd;have hbt:=J0t k1;have hpr:=(J1z k1.text.data.toList).1;have hsp:=JJE k1.text.data.toList;rw[J34] at hsp
    have h48:k1.text.data.toList=[48]↔k1.text=⟨#[48]⟩:=by
     have:(⟨#[48]⟩:ByteArray)=ofL [48]:=rfl;rw[this,← J3V,J34]
    rw[hb1] at hbt;clear ihk htk hj hall hKl hlen hIs hNm hK hb1 hsm;rw[hsl]
    by_cases h6:k0.op=oNum
    case neg=>
     rw[decide_eq_false h6,Bool.not_false,Bool.true_or,Bool.true_or,Bool.true_or,Bool.not_true,Bool.and_false] at hF;(refine kQ ?_;repeat intro γ);exact .of (by rw[← hF];rfl)
    by_cases h7:k1.op=oNum
    case neg=>
     rw[decide_eq_false h7,Bool.not_false,Bool.or_true,Bool.true_or,Bool.true_or,Bool.not_true,Bool.and_false] at hF;(refine kQ ?_;repeat intro γ);exact .of (by rw[← hF];rfl)
    rw[decide_eq_true h6,decide_eq_true h7,Bool.not_true,Bool.false_or,Bool.false_or] at hF
    have hp2:(J0C k1.text.data.toList).2=true:=by
     have h8:textF k1=true:=by
      simp only[Bool.true_eq,Bool.and_eq_true] at hbt;exact hbt.1.1.2
     unfold textF at h8;rw[if_pos h7,Bool.and_eq_true] at h8;exact h8.1
    rw[hp2] at hpr
    cases hro:readR k1.text.data.toList with
    |none=>rw[hro] at hpr;cases hpr
    |some x=>
      obtain ⟨n,d⟩:=x;have hs:=hsp n d hro;rw[hro,Option.isSome_some] at hrd;have hsg:=JDq n d;rw[ne_eq,h48] at hs;unfold JAk at hrd;simp only at hrd;unfold encR at hrd hsg;generalize sgn n=sg at hs hsg;clear hro hp2 hpr hbt hsp h48 ht1;(refine kQ ?_;repeat intro γ);refine J00 [] _ c207 hrd ?_;(refine kWQ ?_;repeat intro γ);refine CondP.dec (fun h8=>?_) (fun h8=>?_)<;>refine kW ?_
      case' refine_2=>
       rw[decide_eq_false h8,Bool.false_and,Bool.false_and] at hF;(refine kQ ?_;repeat intro γ);exact .of (by rw[← hF];rfl)
      rw[decide_eq_true h8,Bool.true_and] at hF;(refine kQ ?_;repeat intro γ);refine CondP.dec (fun h9=>?_) (fun h9=>?_)<;>refine kW ?_
      case' refine_2=>
       rw[decide_eq_false h9,Bool.false_and] at hF;(refine kQ ?_;repeat intro γ);exact .of (by rw[← hF];rfl)
      rw[decide_eq_true h9,Bool.true_and] at hF;(refine kQ ?_;repeat intro γ);refine CallP.flat [] _ c208 hsg rfl ?_;(refine kWQ ?_;repeat intro γ);refine .of ?_;rw[← hF];show AV.val (.bool (decide _))=AV.val (.bool _)
      congr 2
      rw[Bool.eq_iff_iff];simp only[decide_eq_true_eq,Bool.not_eq_true',Bool.or_eq_false_iff,decide_eq_false_iff_not];exact hs
def JHP (l:List Int):AV:=.sl 1 (l.map encI)
def allI (l:List Int)(t:Int):Bool:=l.all fun x=>decide (x=t)
theorem JI9 (l:List Int)(t:Int)(hl:l.length<2^62):PX 209 [JHP l,encI t] (encB (allI l t)):=by
 refine PZ Tryz.func209 rfl ?_;generalize hF:allI l t=F;have hF2:allI (l.drop 0) t=F:=hF;unfold JHP;refine kWQ ?_;intros;refine LoopP.intro (fun k σ H=>∃ i,i≤l.length∧k=l.length-i∧allI (l.drop i) t=F∧σ=fr [(0,JHP l),(1,encI t),(5,encI i)]∧H=hp []) ?_ ?_
 ·exact .intro <| W.of ⟨_,0,Nat.zero_le _,rfl,hF2,rfl,rfl⟩ ⟨rfl,rfl,rfl,trivial⟩ trivial
 ·clear hF hF2;rintro k σ H ⟨i,hi,rfl,hF,rfl,rfl⟩;unfold JHP
  rcases Nat.lt_or_ge i l.length with h1|h1
  ·rw[List.drop_eq_getElem_cons h1] at hF;unfold allI at hF;rw[List.all_cons] at hF;refine kWQ ?_;intros;generalize l[i]=x at hF ⊢;refine CondP.dec (fun h=>?_) (fun h=>?_)<;>refine kW ?_
   ·rw[decide_eq_true h,Bool.true_and] at hF;refine kQ ?_;intros
    exact .intro <| W.of ⟨_,by omega,i+1,h1,rfl,hF,rfl,rfl⟩ ⟨rfl,rfl,rfl,trivial⟩ trivial
   ·rw[decide_eq_false h,Bool.false_and] at hF;refine kQ ?_;intros;exact .of (by rw[← hF];rfl)
  ·rw[List.drop_eq_nil_of_le h1] at hF;refine kWQ ?_;intros;exact .of (by rw[← hF];rfl)
theorem ownI {b p e n:Nat}{H:Hp}{out:List Int}(hb:H b=some (p,⟨e,1,out.map encI⟩))(hn:n=out.length):snap [b] H (.own b p 0 n)=JHP out:=by
 rw[J2F (by simp) hb (by simp[hn]),J0d _ _ _ _ hn fun _=>rfl];rfl
def varT (vs:List Va)(tx:ByteArray)(od:Int):Int×Bool:=match vs.find? fun v=>decide (v.name=tx) with
 |none=>(0,false)
 |some v=>(v.type,decide (od=0)||decide (v.kind=0)||decide (v.kind=3))
def typH (vs:List Va)(o tx:ByteArray)(od:Int)(rs:List Int):Int×Bool:=
 if o=oNum then (0,true) else if o=oTime then (0,true) else if o=oTrue then (1,true) else if o=oFalse then (1,true) else if o=oInit then (1,true) else if o=oSample then (1,true)
 else if o=oVar then varT vs tx od else if o=oPre then varT vs tx od
 else if o=oNeg then (0,allI rs 0) else if o=oAdd then (0,allI rs 0) else if o=oSub then (0,allI rs 0) else if o=oMul then (0,allI rs 0) else if o=oDiv then (0,allI rs 0)
 else if o=oLess then (1,allI rs 0) else if o=oAtMost then (1,allI rs 0) else if o=oMore then (1,allI rs 0) else if o=oAtLeast then (1,allI rs 0)
 else if o=oAnd then (1,allI rs 1) else if o=oOr then (1,allI rs 1) else if o=oNot then (1,allI rs 1)
 else if o=oEq then (1,decide (rs.getD 0 0=rs.getD 1 0)) else if o=oNe then (1,decide (rs.getD 0 0=rs.getD 1 0))
 else (rs.getD 1 0,decide (rs.getD 0 0=1)&&decide (rs.getD 1 0=rs.getD 2 0))
mutual
def typR (vs:List Va):Ex→Int×Bool
 |.mk o t n ks=>match typL vs ks with
   |none=>(0,false)
   |some rs=>typH vs o t n rs
def typL (vs:List Va):List Ex→Option (List Int)
 |[]=>some []
 |k::ks=>if (typR vs k).2 then (typL vs ks).map ((typR vs k).1::·) else none
end
theorem JBp (vs:List Va)(e:Ex):typR vs e=match typL vs e.kids with
 |none=>(0,false)
 |some rs=>typH vs e.op e.text e.order rs:=by cases e;rfl
theorem JFq (vs:List Va)(ks:List Ex):∀ (i:Nat) (acc:List Int),typL vs (ks.take i)=some acc→i<ks.length→∀ h:i<ks.length,
  ((typR vs ks[i]).2=true→typL vs (ks.take (i+1))=some (acc++[(typR vs ks[i]).1]))∧((typR vs ks[i]).2=false→typL vs ks=none):=by
 induction ks with
 |nil=>intro i acc _ h;simp at h
 |cons k ks ih=>
   intro i acc ha h1 h
   cases i with
   |zero=>
     simp only[List.take_zero,typL,Option.some.injEq] at ha;subst ha;simp only[List.getElem_cons_zero,List.take_succ_cons,List.take_zero,typL];exact ⟨fun e=>by rw[if_pos e];rfl,fun e=>by rw[if_neg (by rw[e];decide)]⟩
   |succ i=>
     rw[List.take_succ_cons,typL] at ha;split at ha
     ·rename_i hk;obtain ⟨acc',ha',rfl⟩:=Option.map_eq_some_iff.1 ha;obtain ⟨b1,b2⟩:=ih i acc' ha' (by simpa using h1) (by simpa using h);simp only[List.getElem_cons_succ,List.take_succ_cons,typL];rw[if_pos hk];exact ⟨fun e=>by rw[b1 e];rfl,fun e=>by rw[b2 e];split<;>rfl⟩
     ·cases ha
theorem JCn (vs:List Va):∀ (ks:List Ex) (acc:List Int),typL vs ks=some acc→acc.length=ks.length
 |[],acc,h=>by simp[typL] at h;subst h;rfl
 |k :: ks,acc,h=>by
   unfold typL at h;split at h
   ·obtain ⟨a,ha,rfl⟩:=Option.map_eq_some_iff.1 h;rw[List.length_cons,List.length_cons,JCn vs ks a ha]
   ·cases h
theorem JHD (vs:List Va)(n:ByteArray):(findR vs n<0∧vs.find? (fun v=>decide (v.name=n))=none)∨∃ i,∃ h:i<vs.length,findR vs n=i∧vs.find? (fun v=>decide (v.name=n))=some vs[i]:=by
 unfold findR
 have key:∀ (l:List Va) (k:Int),0≤k→(J0k (fun v:Va=>decide (v.name=n)) l k<0∧l.find? (fun v=>decide (v.name=n))=none)∨∃ i,∃ h:i<l.length,J0k (fun v:Va=>decide (v.name=n)) l k=k+i∧l.find? (fun v=>decide (v.name=n))=some l[i]:=by
  intro l
  induction l with
  |nil=>intro k hk;exact .inl ⟨by unfold J0k;omega,rfl⟩
  |cons v l ih=>
    intro k hk;unfold J0k;rw[List.find?_cons]
    by_cases h:v.name=n
    ·rw[decide_eq_true h];exact .inr ⟨0,by simp,by simp,rfl⟩
    ·rw[decide_eq_false h]
     rcases ih (k+1) (by omega) with h1|⟨i,h1,h2,h3⟩
     ·exact .inl h1
     ·exact .inr ⟨i+1,by simpa using h1,by simp only;rw[h2];omega,by simpa using h3⟩
 rcases key vs 0 (by omega) with h|⟨i,h,h2,h3⟩
 ·exact .inl h
 ·exact .inr ⟨i,h,by rw[h2];omega,h3⟩
theorem JDO (o:ByteArray):J0S o≤3:=by
 rw[← J3y];unfold J7a
 repeat (split;omega)
 omega
theorem JA0 (s : Sys)(hv:s.vars.length≤2^60)(e:Ex):SzE e→builtF e=true→PX 126 [J0M s,encE e] (J7b (typR s.vars e)):=by
 induction e using J1R with
 |h e ih=>
   intro hs hb;obtain ⟨hbk,hbl⟩:=J0A hb;have hk3:=JDO e.op;have ihk:∀ k∈e.kids,PX 126 [J0M s,encE k] (J7b (typR s.vars k)):=fun k hk=>ih k hk (hs.kid k hk) (hbl k hk);have hlen:=hs.len;clear ih hb hbl hs;refine PZ Tryz.func126 rfl ?_;have hFi:=JIX s e.text hv;have hat:=JHD s.vars e.text;generalize hF:typR s.vars e=F;rw[JBp] at hF;rw[J02];have hst:=JFq s.vars e.kids;have hll:=JCn s.vars e.kids;obtain ⟨vs,qs,ns,ws⟩:=s;simp only at hv hF hst hll hFi hat;generalize e.kids=ks at *;generalize e.op=o at *;generalize e.text=tx at *;generalize e.order=od at *;unfold J0M at ihk hFi ⊢
   try simp only at ihk
   try simp only at hFi
   (refine kWS ?_;repeat intro γ)
   refine LoopP.intro (fun k σ H=>∃ g2 g3 g i,∃ acc:List Int,k=ks.length-i∧i≤ks.length∧typL vs (ks.take i)=some acc∧acc.length=i ∧
    σ=fr [(2,.op 2 g2 0 0),(3,.op 3 g3 0 0),(6,.own 100 g 0 i),(7,encI i)] ∧
    H=hp [(2,g2,⟨26,4,[.agg [.sl 7 (vs.map encV),.sl 9 (qs.map J0N),.sl 9 (ns.map J0N),.sl 6 (ws.map J0m)]]⟩),(3,g3,⟨29,4,[.agg [encS o,encS tx,encI od,.sl 4 (ks.map encE)]]⟩),(100,g,⟨3,1,acc.map encI⟩)]) ?_ ?_
   ·exact .intro (J2a 6 100 3 1 rfl rfl fun g=>W.of ⟨_,_,_,g,0,[],rfl,Nat.zero_le _,rfl,rfl,rfl,rfl⟩ ⟨rfl,rfl,rfl,rfl,trivial⟩ ⟨rfl,rfl,rfl,trivial⟩)
   ·rintro k σ H ⟨g2,g3,g,i,acc,rfl,hi,hac,hal,rfl,rfl⟩;have hml:(acc.map encI).length=acc.length:=List.length_map _
    rcases Nat.lt_or_ge i ks.length with h1|h1
    ·have hk:=ihk ks[i] (List.getElem_mem h1);obtain ⟨b1,b2⟩:=hst i acc hac h1 h1;(refine kWQ ?_;repeat intro γ);generalize ks[i]=k at hk b1 b2 ⊢;generalize typR vs k=R at hk b1 b2;obtain ⟨kt,kb⟩:=R
     try simp only at b1
     try simp only at b2
     unfold J7b at hk;rw[J02] at hk ⊢;(refine kQ ?_;repeat intro γ);refine CallG.intro _ c126 hk ?_
     cases kb with
     |false=>
       rw[b2 rfl] at hF;(refine kWQ ?_;repeat intro γ);exact .of (by rw[← hF];rfl)
     |true=>
       have hac':=b1 rfl;(refine kWQ ?_;repeat intro γ)
       refine .intro <| W.of ⟨_,by omega,g2,g3,γ,i+1,acc++[kt],rfl,h1,hac',by simp[hal],rfl,rfl⟩ ⟨rfl,rfl,?_,rfl,trivial⟩ ⟨rfl,rfl,?_,trivial⟩
       ·exact congrArg (AV.own 100 _ 0) (by simp[hal])
       ·show some (_,(⟨_,_,_++_⟩:Blk))=_
        rw[List.map_append];rfl
    obtain rfl:i=ks.length:=by omega
    rw[List.take_length] at hac;rw[hac] at hF;simp only at hF;unfold typH at hF;clear hst hll;(refine kWQ ?_;repeat intro γ)
    repeat
     refine CondP.dec (fun h=>?_) (fun h=>?_)<;>refine kW ?_
     ·rw[if_pos h] at hF;(refine kQ ?_;repeat intro γ)
      first
       |exact .of (by rw[← hF];rfl)
       | (refine CallP.flat [100] _ c209 (J0D (congrArg (fun z=>[z,encI 0]) (ownI rfl hal.symm)) (JI9 acc 0 (by omega))) rfl ?_
          (refine kWQ ?_;repeat intro γ)
          exact .of (by rw[← hF];rfl))
       | (refine CallP.flat [100] _ c209 (J0D (congrArg (fun z=>[z,encI 1]) (ownI rfl hal.symm)) (JI9 acc 1 (by omega))) rfl ?_
          (refine kWQ ?_;repeat intro γ)
          exact .of (by rw[← hF];rfl))
       | (refine CallP.flat [] _ c84 hFi rfl ?_
          unfold varT at hF
          rcases hat with ⟨f1,f2⟩|⟨j,j1,f1,f2⟩
          ·rw[f2] at hF;(refine kWQ ?_;repeat intro γ);exact .of (by rw[← hF];rfl)
          ·rw[f2] at hF;rw[f1];(refine kWQ ?_;repeat intro γ);generalize vs[j]=v at hF ⊢;replace hF:(v.type,decide (od=0)||decide (v.kind=0)||decide (v.kind=3))=F:=hF;refine CondP.dec (fun c0=>?_) (fun c0=>?_)<;>refine kW ?_
           ·rw[decide_eq_true c0] at hF;(refine kQ ?_;repeat intro γ);exact .of (by rw[← hF];rfl)
           ·rw[decide_eq_false c0,Bool.false_or] at hF;(refine kQ ?_;repeat intro γ);refine CondP.dec (fun c1=>?_) (fun c1=>?_)<;>refine kW ?_
            ·rw[decide_eq_true c1] at hF;(refine kQ ?_;repeat intro γ);exact .of (by rw[← hF];rfl)
            ·rw[decide_eq_false c1,Bool.false_or] at hF;(refine kQ ?_;repeat intro γ)
             exact .of (by rw[← hF];rfl))
       | (have hk2:J0S o=2:=by rw[h];rfl
          rw[hk2] at hbk
          obtain ⟨a,b,rfl⟩:∃ a b,acc=[a,b]:=by
           match acc,hal with
           |[a,b],_=>exact ⟨a,b,rfl⟩
           |[],e=>simp at e;omega
           |[_],e=>simp at e;omega
           |_::_::_::_,e=>simp at e;omega
          (refine kQ ?_;repeat intro γ)
          exact .of (by rw[← hF];rfl))
     rw[if_neg h] at hF;(refine kQ ?_;repeat intro γ)
    have hk4:J0S o=3:=by
     by_cases hif:o=oIf
     ·rw[hif];rfl
     ·exfalso
      have hm:J0S o=-1:=by
       rw[← J3y];unfold J7a;simp only[oNum,oTrue,oFalse,oVar,oPre,oTime,oInit,oNeg,oNot,oSample,oAdd,oSub,oMul,oDiv,oLess,oAtMost,oMore,oAtLeast,oEq,oNe,oAnd,oOr, *,if_false]
      omega
    rw[hk4] at hbk
    obtain ⟨a,b,c,rfl⟩:∃ a b c,acc=[a,b,c]:=by
     match acc,hal with
     |[a,b,c],_=>exact ⟨a,b,c,rfl⟩
     |[],e=>simp at e;omega
     |[_],e=>simp at e;omega
     |[_,_],e=>simp at e;omega
     |_::_::_::_::_,e=>simp at e;omega
    replace hF:(b,decide (a=1)&&decide (b=c))=F:=hF;(refine kQ ?_;repeat intro γ);refine CondP.dec (fun c0=>?_) (fun c0=>?_)<;>refine kW ?_
    ·rw[decide_eq_true c0,Bool.true_and] at hF;(refine kQ ?_;repeat intro γ);exact .of (by rw[← hF];rfl)
    ·rw[decide_eq_false c0,Bool.false_and] at hF;(refine kQ ?_;repeat intro γ);exact .of (by rw[← hF];rfl)
def blkS (g:Nat)(s:Sys):Nat×Nat×Blk:=(1,g,⟨26,4,[.agg [.sl 7 (s.vars.map encV),.sl 9 (s.eqs.map J0N),.sl 9 (s.inits.map J0N),.sl 6 (s.whens.map J0m)]]⟩)
theorem JK5 (s:Sys)(h1:s.eqs.length≤120)(h2:s.inits.length≤120)(h3:s.whens.length≤120)(h4:∀ w∈s.whens,w.acts.length≤20):PX 133 [J0M s] (.sl 4 ((allF s).map encE)):=by
 refine PC [100] Tryz.func133 rfl (by rfl) rfl ?_;obtain ⟨vars,eqs,inits,whens⟩:=s;simp only at h1 h2 h3 h4;unfold J0M;(refine kWS ?_;repeat intro γ)
 refine LoopP.intro (fun k σ H=>∃ g1 g3 j,∃ out:List Ex,k=eqs.length-j∧j≤eqs.length∧out=J1O (eqs.take j) ∧
  σ=fr [(1,.op 1 g1 0 0),(3,.own 100 g3 0 out.length),(4,encI j)]∧H=hp [blkS g1 ⟨vars,eqs,inits,whens⟩,(100,g3,⟨29,4,out.map encE⟩)]) ?_ ?_
 ·exact .intro (J2a 3 100 29 4 rfl rfl fun g=>W.of ⟨_,_,g,0,[],rfl,Nat.zero_le _,rfl,rfl,rfl⟩ ⟨rfl,rfl,rfl,trivial⟩ ⟨rfl,rfl,trivial⟩)
 ·rintro k σ H ⟨g1,g3,j,out,rfl,hj,hout,rfl,rfl⟩;unfold blkS;simp only
  rcases Nat.lt_or_ge j eqs.length with hj'|hj'
  ·have hs:=J4k (eqs.take j) eqs[j];rw[← List.take_succ_eq_append_getElem hj'] at hs;have hol:out.length≤240:=by rw[hout,J0f,List.length_take];omega
   (refine kWQ ?_;repeat intro γ);generalize eqs[j]=q at hs ⊢;(refine kQ ?_;repeat intro γ)
   refine .intro <| W.of ⟨_,by omega,g1,γ 14,j+1,out++[q.left,q.right],rfl,hj',by rw[hs,hout],rfl,rfl⟩ ⟨rfl,?_,rfl,trivial⟩ ⟨rfl,?_,trivial⟩
   ·exact congrArg (AV.own 100 (γ 14) 0) (by simp)
   ·show some (_,(⟨_,_,out.map encE++[.agg (J1S q.left),.agg (J1S q.right)]⟩:Blk))=_
    rw[← J08,← J08,List.map_append];rfl
  obtain rfl:j=eqs.length:=by omega
  rw[List.take_length] at hout;have hol0:out.length≤240:=by rw[hout,J0f];omega
  (refine kWQ ?_;repeat intro γ)
  refine LoopP.intro (fun k σ H=>∃ g1 g3 j,∃ out':List Ex,k=inits.length-j∧j≤inits.length∧out'=out++J1O (inits.take j) ∧
   σ=fr [(1,.op 1 g1 0 0),(3,.own 100 g3 0 out'.length),(5,encI j)]∧H=hp [blkS g1 ⟨vars,eqs,inits,whens⟩,(100,g3,⟨29,4,out'.map encE⟩)]) ?_ ?_
  ·exact .intro <| W.of ⟨_,g1,g3,0,out,rfl,Nat.zero_le _,by simp[J1O],rfl,rfl⟩ ⟨rfl,rfl,rfl,trivial⟩ ⟨rfl,rfl,trivial⟩
  ·clear g1 g3;rintro k σ H ⟨g1,g3,j,out',rfl,hj,ho',rfl,rfl⟩;unfold blkS;simp only
   rcases Nat.lt_or_ge j inits.length with hj'|hj'
   ·have hs:=J4k (inits.take j) inits[j];rw[← List.take_succ_eq_append_getElem hj'] at hs;have hol:out'.length≤480:=by rw[ho',List.length_append,J0f,List.length_take];omega
    (refine kWQ ?_;repeat intro γ);generalize inits[j]=q at hs ⊢;(refine kQ ?_;repeat intro γ)
    refine .intro <| W.of ⟨_,by omega,g1,γ 14,j+1,out'++[q.left,q.right],rfl,hj',by rw[hs,ho',List.append_assoc],rfl,rfl⟩ ⟨rfl,?_,rfl,trivial⟩ ⟨rfl,?_,trivial⟩
    ·exact congrArg (AV.own 100 (γ 14) 0) (by simp)
    ·show some (_,(⟨_,_,out'.map encE++[.agg (J1S q.left),.agg (J1S q.right)]⟩:Blk))=_
     rw[← J08,← J08,List.map_append];rfl
   obtain rfl:j=inits.length:=by omega
   rw[List.take_length,hout] at ho';have hol:out'.length≤480:=by rw[ho',List.length_append,J0f,J0f];omega
   clear hout hol0;(refine kWQ ?_;repeat intro γ)
   refine LoopP.intro (fun k σ H=>∃ g1 g3 i,∃ o2:List Ex,k=whens.length-i∧i≤whens.length∧o2=out'++(whens.take i).flatMap J3g ∧
    σ=fr [(1,.op 1 g1 0 0),(3,.own 100 g3 0 o2.length),(6,encI i)]∧H=hp [blkS g1 ⟨vars,eqs,inits,whens⟩,(100,g3,⟨29,4,o2.map encE⟩)]) ?_ ?_
   ·exact .intro <| W.of ⟨_,g1,g3,0,out',rfl,Nat.zero_le _,by simp,rfl,rfl⟩ ⟨rfl,rfl,rfl,trivial⟩ ⟨rfl,rfl,trivial⟩
   ·clear g1 g3;rintro k σ H ⟨g1,g3,i,o2,rfl,hi,ho5,rfl,rfl⟩;unfold blkS;simp only
    rcases Nat.lt_or_ge i whens.length with hi'|hi'
    ·have ha:=h4 whens[i] (List.getElem_mem hi')
     have hol2:o2.length≤480+21*120:=by
      have:=J5Q (whens.take i) fun w hw=>h4 w (List.mem_of_mem_take hw);rw[List.length_take] at this;rw[ho5,List.length_append];omega
     obtain ⟨w,hw⟩:∃ w,whens[i]=w:=⟨_,rfl⟩
     have ho2:out'++(whens.take (i+1)).flatMap J3g=o2++J3g w:=by
      rw[List.take_succ_eq_append_getElem hi',List.flatMap_append,ho5,hw];simp
     rw[hw] at ha;(refine kWQ ?_;repeat intro γ);simp only[hw];(refine kQ ?_;repeat intro γ)
     refine LoopP.intro (fun k σ H=>∃ g1 g3 j,∃ o3:List Ex,k=w.acts.length-j∧j≤w.acts.length∧o3=o2++w.cond::(w.acts.take j).map (·.value) ∧
      σ=fr [(1,.op 1 g1 0 0),(3,.own 100 g3 0 o3.length),(6,encI i),(7,encI j)]∧H=hp [blkS g1 ⟨vars,eqs,inits,whens⟩,(100,g3,⟨29,4,o3.map encE⟩)]) ?_ ?_
     ·refine .intro <| W.of ⟨_,g1,γ,0,o2++[w.cond],rfl,Nat.zero_le _,by simp,rfl,rfl⟩ ⟨rfl,?_,rfl,rfl,trivial⟩ ⟨rfl,?_,trivial⟩
      ·exact congrArg (AV.own 100 γ 0) (by simp)
      ·show some (_,(⟨_,_,o2.map encE++[.agg (J1S w.cond)]⟩:Blk))=_
       rw[← J08,List.map_append];rfl
     ·clear g1 g3;rintro k σ H ⟨g1,g3,j,o3,rfl,hj,ho3,rfl,rfl⟩;unfold blkS;simp only
      have hol3:o3.length≤480+21*120+21:=by
       rw[ho3,List.length_append,List.length_cons,List.length_map,List.length_take];omega
      have hwl:(List.map J6n w.acts).length=w.acts.length:=List.length_map _
      rcases Nat.lt_or_ge j w.acts.length with hj'|hj'
      ·have ho4:o2++w.cond::(w.acts.take (j+1)).map (·.value)=o3++[w.acts[j].value]:=by
        rw[List.take_succ_eq_append_getElem hj',List.map_append,ho3];simp
       (refine kWQ ?_;repeat intro γ);simp only[hw];(refine kQ ?_;repeat intro γ);simp only[hw];(refine kQ ?_;repeat intro γ);generalize w.acts[j]=a at ho4 ⊢;(refine kQ ?_;repeat intro γ)
       refine .intro <| W.of ⟨_,by omega,g1,γ,j+1,o3++[a.value],rfl,hj',ho4.symm,rfl,rfl⟩ ⟨rfl,?_,rfl,rfl,trivial⟩ ⟨rfl,?_,trivial⟩
       ·exact congrArg (AV.own 100 γ 0) (by simp)
       ·show some (_,(⟨_,_,o3.map encE++[.agg (J1S a.value)]⟩:Blk))=_
        rw[← J08,List.map_append];rfl
      ·rw[show j=w.acts.length by omega,List.take_length] at ho3;(refine kWQ ?_;repeat intro γ);simp only[hw];(refine kQ ?_;repeat intro γ)
       exact .intro <| W.of ⟨_,by omega,g1,g3,i+1,o3,rfl,hi',by rw[ho3,ho2];rfl,rfl,rfl⟩ ⟨rfl,rfl,rfl,trivial⟩ ⟨rfl,rfl,trivial⟩
    ·rw[show i=whens.length by omega,List.take_length] at ho5;(refine kWQ ?_;repeat intro γ);refine .of ?_;have e:allF ⟨vars,eqs,inits,whens⟩=o2:=by rw[ho5,ho'];rfl
     rw[e];show AV.sl 4 ((((o2.map encE).drop 0).take o2.length).map _)=_
     rw[List.drop_zero,List.take_of_length_le (by simp),List.map_map]
     congr 1
     refine List.map_congr_left fun x _=>?_;show J0Z _ (encE x)=encE x
     rw[J08];rfl
theorem JMg (s:Sys)(h1:s.eqs.length≤120)(h2:s.inits.length≤120)(h3:s.whens.length≤120)(h4:∀ w∈s.whens,w.acts.length≤20):(allF s).length≤3000:=by
 unfold allF;have:=J5Q s.whens h4;rw[List.length_append,List.length_append,J0f,J0f];omega
def szS (l:List Ex):Nat:=(l.map szF).sum
theorem J89:∀ (l:List Ex) (L:Int),J3u l L=(l.any largeR||decide (L-szS l<0))
 |[],L=>by simp[J3u,szS]
 |e :: r,L=>by
   unfold J3u;rw[J89 r,J22,List.any_cons]
   cases h:largeR e with
   |true=>rfl
   |false=>
     rw[JA6 e h,Bool.false_or,Bool.false_or]
     congr 1
     refine decide_eq_decide.2 ?_;unfold szS;rw[List.map_cons,List.sum_cons];omega
theorem JJA (l:List Ex)(e:Ex):szS (l++[e])=szS l+szF e:=by unfold szS;simp
theorem JGp (s:Sys)(hs:SzS s):PX 178 [J0M s] (encB (!largeF s)):=by
 refine PZ Tryz.func178 rfl ?_;have hse:=hs.e;have hv:=hs.v;have hq:=hs.q;have hn:=hs.n;have hw:=hs.w;have ha:=hs.a;have hex:=JK5 s;have hal:=JMg s;generalize hF:(!largeF s)=F;unfold largeF at hF;rw[J89] at hF;clear hs;have hSy:J0M s=.agg [.sl 7 (s.vars.map encV),.sl 9 (s.eqs.map J0N),.sl 9 (s.inits.map J0N),.sl 6 (s.whens.map J0m)]:=rfl;rw[hSy] at hex ⊢;generalize allF s=A at *;obtain ⟨vars,eqs,inits,whens⟩:=s;simp only at *
 by_cases b1:120<vars.length
 ·rw[decide_eq_true b1] at hF;refine kWQ ?_;intros;exact .of (by rw[← hF];rfl)
 rw[decide_eq_false b1,Bool.false_or] at hF
 by_cases b2:120<max (max eqs.length inits.length) whens.length
 ·rw[decide_eq_true b2] at hF;have hF':F=false:=by rw[← hF];rfl
  clear hF
  by_cases c1:120<eqs.length
  ·refine kWQ ?_;intros;exact .of (by rw[hF'];rfl)
  by_cases c2:120<inits.length
  ·refine kWQ ?_;intros;exact .of (by rw[hF'];rfl)
  refine kWQ ?_;intros;exact .of (by rw[hF'];rfl)
 rw[decide_eq_false b2,Bool.false_or] at hF;refine kWQ ?_;intros
 refine LoopP.intro (fun k σ H=>∃ g i,k=whens.length-i∧i≤whens.length∧(∀ j (h:j<whens.length),j<i→whens[j].acts.length≤20) ∧
  σ=fr [(1,.op 1 g 0 0),(3,encI i)]∧H=hp [blkS g ⟨vars,eqs,inits,whens⟩]) ?_ ?_
 ·exact .intro <| W.of ⟨_,_,0,rfl,Nat.zero_le _,fun j h h'=>absurd h' (by omega),rfl,rfl⟩ ⟨rfl,rfl,trivial⟩ ⟨rfl,trivial⟩
 ·rintro k σ H ⟨g,i,rfl,hi,hj,rfl,rfl⟩;unfold blkS;simp only
  rcases Nat.lt_or_ge i whens.length with hi'|hi'
  ·obtain ⟨w,hw⟩:∃ w,whens[i]=w:=⟨_,rfl⟩;have hal2:=ha whens[i] (List.getElem_mem hi');have hwl:(List.map J6n w.acts).length=w.acts.length:=List.length_map _
   by_cases c1:20<w.acts.length
   ·have:(whens.any fun w=>decide (20<w.acts.length))=true:=List.any_eq_true.2 ⟨whens[i],List.getElem_mem hi',by rw[hw];exact decide_eq_true c1⟩;rw[this] at hF;refine kWQ ?_;intros;simp only[hw];refine kQ ?_;intros;exact .of (by rw[← hF];rfl)
   ·have hj':∀ j (h:j<whens.length),j<i+1→whens[j].acts.length≤20:=fun j h h'=>by
     by_cases he:j=i
     ·subst he;rw[hw];omega
     ·exact hj j h (by omega)
    clear hj;refine kWQ ?_;intros;simp only[hw];refine kQ ?_;intros
    exact .intro <| W.of ⟨_,by omega,g,i+1,rfl,hi',hj',rfl,rfl⟩ ⟨rfl,rfl,trivial⟩ ⟨rfl,trivial⟩
  obtain rfl:i=whens.length:=by omega
  have h20:∀ w∈whens,w.acts.length≤20:=fun w hw=>by
   obtain ⟨j,hj',rfl⟩:=List.mem_iff_getElem.1 hw;exact hj j hj' hj'
  have hany:(whens.any fun w=>decide (20<w.acts.length))=false:=by
   rw[List.any_eq_false];intro w hw;have:=h20 w hw;simp;omega
  rw[hany,Bool.false_or] at hF;have hex':=hex (by omega) (by omega) (by omega) h20;have hal':=hal (by omega) (by omega) (by omega) h20;clear hex hal hj hany h20;refine kWQ ?_;intros;refine J00 [] _ c133 hex' ?_;refine kWQ ?_;intros
  refine LoopP.intro (fun k σ H=>∃ i,k=A.length-i∧i≤A.length∧(!((A.drop i).any largeR||decide ((4000:Int)-szS A<0)))=F∧szS (A.take i)≤200*i ∧
   σ=fr [(4,.sl 4 (A.map encE)),(5,encI (szS (A.take i))),(6,encI i)]∧H=hp []) ?_ ?_
  ·exact .intro <| W.of ⟨_,0,rfl,Nat.zero_le _,hF,Nat.le_refl _,rfl,rfl⟩ ⟨rfl,rfl,rfl,trivial⟩ trivial
  ·clear hF;rintro k σ H ⟨i,rfl,hi,hF,hsz,rfl,rfl⟩
   rcases Nat.lt_or_ge i A.length with hi'|hi'
   ·rw[List.drop_eq_getElem_cons hi',List.any_cons] at hF;have hz:=(hse A[i] (List.getElem_mem hi')).1;have hl:=J9m A[i] hz;have hsr:=JCx A[i] hz 200 (by omega);have hsn:=JJA (A.take i) A[i];rw[← List.take_succ_eq_append_getElem hi'] at hsn;have hlr:largeR A[i]=(decide (200<szF A[i])||decide (24<htF A[i])):=rfl;obtain ⟨e,he⟩:∃ e,A[i]=e:=⟨_,rfl⟩;rw[he] at hz hl hsr hsn hlr hF;refine kWQ ?_;intros;simp only[he];rw[J02] at hl hsr
    cases hb:largeR e with
    |true=>
      rw[hb] at hF hl;rw[J02];refine kQ ?_;intros;refine CallP.flat [] _ c87 hl rfl ?_;refine kWQ ?_;intros;exact .of (by rw[← hF];rfl)
    |false=>
      rw[hb] at hF hl hlr;rw[Bool.false_or] at hF
      have h200:szF e≤200:=by
       have:=hlr.symm;simp at this;omega
      rw[show min (szF e) (200+1)=szF e by omega] at hsr;rw[J02];refine kQ ?_;intros;refine CallP.flat [] _ c87 hl rfl ?_;refine kWQ ?_;intros;simp only[he];rw[J02];refine kQ ?_;intros;refine CallP.flat [] _ c170 hsr rfl ?_;refine kWQ ?_;intros
      refine .intro <| W.of ⟨_,by omega,i+1,rfl,hi',hF,by omega,rfl,rfl⟩ ⟨rfl,?_,rfl,trivial⟩ trivial
      show AV.val (.int .i64 _)=AV.val (.int .i64 _)
      congr 2;omega
   ·rw[List.drop_eq_nil_of_le hi'] at hF;rw[List.take_of_length_le hi'];refine kWQ ?_;intros;refine .of ?_;rw[← hF];show AV.val (.bool (decide _))=AV.val (.bool _)
    congr 2
    rw[Bool.eq_iff_iff];simp
theorem JFE (s:ByteArray)(hs:s.size<2^35):PX 261 [encS s] (encB (unitF s)):=by
 have h:=JIS s.data.toList (by exact hs);rw[JFm,J34] at h;exact h
theorem JJm (v:Va)(h0:v.name.size<2^35)(h1:v.value.size<2^35)(h2:v.start.size<2^35)(h3:v.unit.size<2^35):PX 181 [encV v] (encB (nameF v.name&&varF v)):=by
 refine PZ Tryz.func181 rfl ?_;obtain ⟨name,k,t,vl,st,fx,un⟩:=v;have hnm:=J7L name (by simp only at h0;omega);have hu:=JFE un h3;generalize hF:(nameF name&&varF ⟨name,k,t,vl,st,fx,un⟩)=F;unfold varF at hF;simp only at hF hu;generalize unitF un=b3 at hF hu
 cases hn:nameF name with
 |false=>
   rw[hn,Bool.false_and] at hF;rw[hn] at hnm;unfold encV;refine kWS ?_;intros;refine CallP.flat [] _ c94 hnm rfl ?_;refine kWS ?_;intros;exact .of (by rw[← hF];rfl)
 |true=>
   rw[hn,Bool.true_and] at hF;rw[hn] at hnm;clear hn
   by_cases hk:J6V k t=true
   case neg =>
    have hk':J6V k t=false:=by simpa using hk
    rw[hk',Bool.false_and,Bool.false_and,Bool.false_and,Bool.false_and] at hF;subst hF;unfold J6V at hk'
    have hkk:k<0∨3<k∨(t≠0∧t≠1)∨(t=1∧(k=0∨k=3)):=by
     simp at hk';omega
    clear hk hk';unfold encV;refine kWS ?_;intros;refine CallP.flat [] _ c94 hnm rfl ?_;refine kWS ?_;intros
    rcases hkk with h|h|⟨h,h'⟩|⟨rfl,rfl|rfl⟩
    all_goals first
     |(refine kO ?_;intros;exact .of rfl)
     |(refine kS ?_;intros;exact .of rfl)
     | (by_cases k0:k<0
        ·refine kO ?_;intros;exact .of rfl
        by_cases k3:3<k
        ·refine kO ?_;intros;exact .of rfl
        refine kO ?_;intros
        exact .of rfl)
   rw[hk,Bool.true_and] at hF
   have hcs:(t=0∧(k=0∨k=1∨k=2∨k=3))∨(t=1∧(k=1∨k=2)):=by
    unfold J6V at hk;simp at hk;omega
   clear hk;have hv1:=J8c vl t h1 (by omega);have hv2:=J8c st t h2 (by omega);generalize valueF vl t=b1 at hF hv1;generalize valueF st t=b2 at hF hv2;clear h0 h1 h2 h3;unfold encV
   rcases hcs with ⟨rfl,rfl|rfl|rfl|rfl⟩|⟨rfl,rfl|rfl⟩
   all_goals
    simp only[Int.reduceEq,decide_true,decide_false,Bool.true_or,Bool.or_true,Bool.false_or,Bool.or_self,if_true,if_false,Bool.true_and,Bool.false_and,eq_self,Bool.or_false,reduceIte] at hF;refine kWS ?_;intros;refine CallP.flat [] _ c94 hnm rfl ?_;refine kWS ?_;intros
    repeat (any_goals (first
     |exact .of (by rw[← hF];rfl)
     |exact .of (by rw[← hF];exact congrArg encB (by assumption))
     |(refine CallP.flat [] _ c118 hv1 rfl ?_;refine kW ?_;refine kS ?_;intros)
     |(refine CallP.flat [] _ c118 hv2 rfl ?_;refine kW ?_;refine kS ?_;intros)
     |(refine CallP.flat [] _ c261 hu rfl ?_;refine kW ?_;refine kS ?_;intros)
     |(refine CondP.intro (fun h=>?_) (fun h=>?_)<;>refine kW ?_<;>(try simp only at h)<;>(try simp only[h,Bool.true_and,Bool.false_and,Bool.and_true,Bool.and_false,Bool.true_or,Bool.false_or,Bool.not_true,Bool.not_false,Bool.or_true,Bool.or_false] at hF)<;>refine kS ?_;intros)))
def isR (vs:List Va)(e:Ex)(t:Int):Bool:=builtF e&&(typR vs e).2&&decide ((typR vs e).1=t)
theorem JNR (s:Sys)(hv:s.vars.length≤2^60)(e:Ex)(t:Int)(hs:SzE e)(hx:TxE e):PX 262 [J0M s,encE e,encI t] (encB (isR s.vars e t)):=by
 refine PZ Tryz.func262 rfl ?_;have hb:=J7N e hs hx;have ht:=JA0 s hv e hs;generalize hF:isR s.vars e t=F;unfold isR at hF;generalize builtF e=b at *;generalize typR s.vars e=r at *;obtain ⟨rt,rb⟩:=r;unfold J7b J0M at ht;unfold J0M;rw[J02] at hb ht ⊢
 cases b with
 |false=>
   refine kWQ ?_;intros;refine CallP.flat [] _ c125 hb rfl ?_;refine kWQ ?_;intros;exact .of (by rw[← hF];rfl)
 |true=>
   have ht':=ht rfl;simp only[Bool.true_and] at hF ht';refine kWQ ?_;intros;refine CallP.flat [] _ c125 hb rfl ?_;refine kWQ ?_;intros;refine J00 [] _ c126 ht' ?_
   cases rb with
   |false=>
     refine kWQ ?_;intros;exact .of (by rw[← hF];rfl)
   |true=>
     rw[Bool.true_and] at hF;refine kWQ ?_;intros;exact .of (by rw[← hF];rfl)
def J48 (l:List ByteArray):AV:=.sl 1 (l.map encS)
def memR (A:List ByteArray)(s:ByteArray):Bool:=A.any fun x=>decide (x=s)
theorem JNU (l:List ByteArray)(s:ByteArray)(hl:l.length<2^60):PX 263 [J48 l,encS s] (encB (memR l s)):=by
 refine PZ Tryz.func263 rfl ?_;generalize hF:memR l s=F;have hF2:memR (l.drop 0) s=F:=hF;unfold J48;refine kWQ ?_;intros;refine LoopP.intro (fun k σ H=>∃ i,i≤l.length∧k=l.length-i∧memR (l.drop i) s=F∧σ=fr [(0,J48 l),(1,encS s),(5,encI i)]∧H=hp []) ?_ ?_
 ·exact .intro <| W.of ⟨_,0,Nat.zero_le _,rfl,hF2,rfl,rfl⟩ ⟨rfl,rfl,rfl,trivial⟩ trivial
 ·clear hF hF2;rintro k σ H ⟨i,hi,rfl,hF,rfl,rfl⟩;unfold J48
  rcases Nat.lt_or_ge i l.length with h1|h1
  ·rw[List.drop_eq_getElem_cons h1] at hF;unfold memR at hF;rw[List.any_cons] at hF;refine kWQ ?_;intros;generalize l[i]=x at hF ⊢;refine CondP.dec (fun h=>?_) (fun h=>?_)<;>refine kW ?_
   ·rw[decide_eq_true h,Bool.true_or] at hF;refine kQ ?_;intros;exact .of (by rw[← hF];rfl)
   ·rw[decide_eq_false h,Bool.false_or] at hF;refine kQ ?_;intros
    exact .intro <| W.of ⟨_,by omega,i+1,h1,rfl,hF,rfl,rfl⟩ ⟨rfl,rfl,rfl,trivial⟩ trivial
  ·rw[List.drop_eq_nil_of_le h1] at hF;refine kWQ ?_;intros;exact .of (by rw[← hF];rfl)
theorem J5T (l:List ByteArray)(hl:l.length<2^60)(hn:∀ x∈l,x.size<2^35):PX 180 [J48 l] (encB (risG l none)):=by
 refine PZ Tryz.func180 rfl ?_;generalize hF:risG l none=F;unfold J48;refine kWQ ?_;intros;refine LoopP.intro (fun k σ H=>∃ i,i≤l.length∧k=l.length-i∧risG (l.drop i) (pvN l i)=F∧σ=fr [(0,J48 l),(3,encI i)]∧H=hp []) ?_ ?_
 ·exact .intro <| W.of ⟨_,0,Nat.zero_le _,rfl,hF,rfl,rfl⟩ ⟨rfl,rfl,trivial⟩ trivial
 ·clear hF;rintro k σ H ⟨i,hi,rfl,hF,rfl,rfl⟩;unfold J48
  rcases Nat.lt_or_ge i l.length with h1|h1
  ·rw[List.drop_eq_getElem_cons h1] at hF;unfold risG at hF;have hnm:=J7L l[i] (by have:=hn _ (List.getElem_mem h1);omega);have hpv:pvN l (i+1)=some l[i]:=by rw[J6B,List.getElem?_eq_getElem h1]
   rw[← hpv] at hF;obtain ⟨x,hx⟩:∃ x,l[i]=x:=⟨_,rfl⟩;rw[hx] at hF hnm
   cases hb:nameF x with
   |false=>
     rw[hb] at hF hnm;refine kWQ ?_;intros;simp only[hx];refine kQ ?_;intros;refine CallG.intro _ c94 hnm ?_;refine kWQ ?_;intros;exact .of (by rw[← hF];rfl)
   |true=>
     rw[hb,Bool.true_and] at hF;rw[hb] at hnm
     cases i with
     |zero=>
       have hF2:(true&&risG (l.drop (0+1)) (pvN l (0+1)))=F:=hF;rw[Bool.true_and] at hF2;refine kWQ ?_;intros;simp only[hx];refine kQ ?_;intros;refine CallG.intro _ c94 hnm ?_;refine kWQ ?_;intros
       exact .intro <| W.of ⟨_,by omega,1,by omega,rfl,hF2,rfl,rfl⟩ ⟨rfl,rfl,trivial⟩ trivial
     |succ i=>
       have h2:i<l.length:=by omega
       rw[J6B,List.getElem?_eq_getElem h2] at hF;have hF2:(Op.bytesLess l[i].toList x.toList&&risG (l.drop (i+1+1)) (pvN l (i+1+1)))=F:=hF;have e1:(((i+1:Nat):Int)-1).toNat=i:=by omega
       refine kWQ ?_;intros;simp only[hx];refine kQ ?_;intros;refine CallG.intro _ c94 hnm ?_;refine kWQ ?_;intros;simp only[e1,hx];refine kQ ?_;intros;generalize l[i]=y at hF2 ⊢;refine CondP.intro (fun h=>?_) (fun h=>?_)<;>refine kW ?_
       ·rw[h,Bool.true_and] at hF2;refine kQ ?_;intros
        exact .intro <| W.of ⟨_,by omega,i+1+1,by omega,rfl,hF2,rfl,rfl⟩ ⟨rfl,rfl,trivial⟩ trivial
       ·rw[h,Bool.false_and] at hF2;refine kQ ?_;intros;exact .of (by rw[← hF2];rfl)
  ·rw[List.drop_eq_nil_of_le h1] at hF;refine kWQ ?_;intros;exact .of (by rw[← hF];rfl)
def eqsR (vs:List Va)(l:List Eqn):Bool:=l.all fun q=>isR vs q.left 0&&isR vs q.right 0
theorem JL0 (s:Sys)(hv:s.vars.length≤2^60)(l:List Eqn)(hl:l.length≤2^60)(hq:∀ q∈l,(SzE q.left∧TxE q.left)∧SzE q.right∧TxE q.right):PX 182 [J0M s,.sl 9 (l.map J0N)] (encB (eqsR s.vars l)):=by
 refine PZ Tryz.func182 rfl ?_;have hi:=fun e t h h'=>JNR s hv e t h h';obtain ⟨vs,qs,ns,ws⟩:=s;simp only at hv hi ⊢;generalize hF:eqsR vs l=F;have hF2:eqsR vs (l.drop 0)=F:=hF;unfold J0M at hi ⊢
 try simp only at hi
 refine kWQ ?_;intros
 refine LoopP.intro (fun k σ H=>∃ g i,i≤l.length∧k=l.length-i∧eqsR vs (l.drop i)=F∧σ=fr [(1,.sl 9 (l.map J0N)),(2,.op 2 g 0 0),(5,encI i)] ∧
  H=hp [(2,g,⟨26,4,[.agg [.sl 7 (vs.map encV),.sl 9 (qs.map J0N),.sl 9 (ns.map J0N),.sl 6 (ws.map J0m)]]⟩)]) ?_ ?_
 ·exact .intro <| W.of ⟨_,_,0,Nat.zero_le _,rfl,hF2,rfl,rfl⟩ ⟨rfl,rfl,rfl,trivial⟩ ⟨rfl,trivial⟩
 ·clear hF hF2;rintro k σ H ⟨g,i,hi',rfl,hF,rfl,rfl⟩
  rcases Nat.lt_or_ge i l.length with h1|h1
  ·rw[List.drop_eq_getElem_cons h1] at hF;unfold eqsR at hF;rw[List.all_cons] at hF;have hz:=hq _ (List.getElem_mem h1);obtain ⟨q,hqq⟩:∃ q,l[i]=q:=⟨_,rfl⟩;rw[hqq] at hF hz;have t1:=hi q.left 0 hz.1.1 hz.1.2;have t2:=hi q.right 0 hz.2.1 hz.2.2;generalize isR vs q.left 0=y1 at hF t1;generalize isR vs q.right 0=y2 at hF t2;rw[J08] at t1 t2;refine kWQ ?_;intros;simp only[hqq];refine kQ ?_;intros;refine CallG.intro _ c262 t1 ?_
   cases y1 with
   |false=>
     refine kWQ ?_;intros;exact .of (by rw[← hF];rfl)
   |true=>
     refine kWQ ?_;intros;simp only[hqq];refine kQ ?_;intros;refine CallG.intro _ c262 t2 ?_
     cases y2 with
     |false=>
       refine kWQ ?_;intros;exact .of (by rw[← hF];rfl)
     |true=>
       refine kWQ ?_;intros
       exact .intro <| W.of ⟨_,by omega,g,i+1,h1,rfl,hF,rfl,rfl⟩ ⟨rfl,rfl,rfl,trivial⟩ ⟨rfl,trivial⟩
  ·rw[List.drop_eq_nil_of_le h1] at hF;refine kWQ ?_;intros;exact .of (by rw[← hF];rfl)
def hpN (g1 a b c d:Nat)(s:Sys)(A B C D:List ByteArray):List (Nat×Nat×Blk):=
 [blkS g1 s,(101,a,⟨9,1,A.map encS⟩),(102,b,⟨9,1,B.map encS⟩),(103,c,⟨9,1,C.map encS⟩),(104,d,⟨9,1,D.map encS⟩)]
theorem endS {S:List Nat}{H:Hp}{k:Nat}{L:List AV}{n:Nat}{xs:List ByteArray}(h:L=xs.map encS)(hn:n=xs.length):AV.sl 1 (((L.drop 0).take n).map (J0Z (J07 S H k)))=J48 xs:=by
 subst h;rw[J0d _ _ _ _ hn fun x=>by cases k<;>rfl];rfl
theorem J3l {α:Type}(l:List α)(i:Nat)(h:i<l.length):l.take i++[l[i]]=l.take (i+1):=(List.take_succ_eq_append_getElem h).symm
theorem JJZ (s:Sys)(h1:s.vars.length≤2^40)(h2:s.eqs.length≤2^40)(h3:s.inits.length≤2^40)(h4:s.whens.length≤2^40):PX 179 [J0M s] (.tup [J48 (s.vars.map Va.name),J48 (s.eqs.map Eqn.name),J48 (s.inits.map Eqn.name),J48 (s.whens.map Whn.name)]):=by
 refine PC [101,102,103,104] Tryz.func179 rfl (by rfl) rfl ?_;have hSy:J0M s=.agg [.sl 7 (s.vars.map encV),.sl 9 (s.eqs.map J0N),.sl 9 (s.inits.map J0N),.sl 6 (s.whens.map J0m)]:=rfl;rw[hSy];(refine kWQ ?_;repeat intro γ)
 refine LoopP.intro (fun k σ H=>∃ g1 a b c d i,k=s.vars.length-i∧i≤s.vars.length ∧
  σ=fr [(1,.op 1 g1 0 0),(6,.own 101 a 0 i),(7,.own 102 b 0 0),(8,.own 103 c 0 0),(9,.own 104 d 0 0),(10,encI i)]∧H=hp (hpN g1 a b c d s ((s.vars.map Va.name).take i) [] [] [])) ?_ ?_
 ·exact .intro (J2a 6 101 9 1 rfl rfl fun a=>J2a 7 102 9 1 rfl rfl fun b=>J2a 8 103 9 1 rfl rfl fun c=>J2a 9 104 9 1 rfl rfl fun d=>W.of ⟨_,_,a,b,c,d,0,rfl,Nat.zero_le _,rfl,rfl⟩ ⟨rfl,rfl,rfl,rfl,rfl,rfl,trivial⟩ ⟨rfl,rfl,rfl,rfl,rfl,trivial⟩)
 ·rintro k σ H ⟨g1,a,b,c,d,i,rfl,hi,rfl,rfl⟩;unfold hpN blkS;have hlm:((s.vars.map Va.name).take i).length=i:=by rw[List.length_take,List.length_map];omega
  rcases Nat.lt_or_ge i s.vars.length with hi'|hi'
  ·have hts:=J3l (s.vars.map Va.name) i (by rw[List.length_map];exact hi');rw[List.getElem_map] at hts;(refine kWQ ?_;repeat intro γ)
   refine .intro <| W.of ⟨_,by omega,g1,γ,b,c,d,i+1,rfl,hi',rfl,rfl⟩ ⟨rfl,rfl,rfl,rfl,rfl,rfl,trivial⟩ ⟨rfl,?_,rfl,rfl,rfl,trivial⟩
   rw[← hts,List.map_append];rfl
  obtain rfl:i=s.vars.length:=by omega
  rw[List.take_of_length_le (by rw[List.length_map];exact Nat.le_refl _)];(refine kWQ ?_;repeat intro γ)
  refine LoopP.intro (fun k σ H=>∃ g1 a b c d i,k=s.eqs.length-i∧i≤s.eqs.length ∧
   σ=fr [(1,.op 1 g1 0 0),(6,.own 101 a 0 s.vars.length),(7,.own 102 b 0 i),(8,.own 103 c 0 0),(9,.own 104 d 0 0),(11,encI i)]∧H=hp (hpN g1 a b c d s (s.vars.map Va.name) ((s.eqs.map Eqn.name).take i) [] [])) ?_ ?_
  ·exact .intro <| W.of ⟨_,g1,a,b,c,d,0,rfl,Nat.zero_le _,rfl,rfl⟩ ⟨rfl,rfl,rfl,rfl,rfl,rfl,trivial⟩ ⟨rfl,rfl,rfl,rfl,rfl,trivial⟩
  ·clear hlm hi hi' g1 a b c d;rintro k σ H ⟨g1,a,b,c,d,i,rfl,hi,rfl,rfl⟩;unfold hpN blkS;have hlm:((s.eqs.map Eqn.name).take i).length=i:=by rw[List.length_take,List.length_map];omega
   rcases Nat.lt_or_ge i s.eqs.length with hi'|hi'
   ·have hts:=J3l (s.eqs.map Eqn.name) i (by rw[List.length_map];exact hi');rw[List.getElem_map] at hts;(refine kWQ ?_;repeat intro γ)
    refine .intro <| W.of ⟨_,by omega,g1,a,γ,c,d,i+1,rfl,hi',rfl,rfl⟩ ⟨rfl,rfl,rfl,rfl,rfl,rfl,trivial⟩ ⟨rfl,rfl,?_,rfl,rfl,trivial⟩
    rw[← hts,List.map_append];rfl
   obtain rfl:i=s.eqs.length:=by omega
   rw[List.take_of_length_le (by rw[List.length_map];exact Nat.le_refl _)];(refine kWQ ?_;repeat intro γ)
   refine LoopP.intro (fun k σ H=>∃ g1 a b c d i,k=s.inits.length-i∧i≤s.inits.length ∧
    σ=fr [(1,.op 1 g1 0 0),(6,.own 101 a 0 s.vars.length),(7,.own 102 b 0 s.eqs.length),(8,.own 103 c 0 i),(9,.own 104 d 0 0),(12,encI i)]∧H=hp (hpN g1 a b c d s (s.vars.map Va.name) (s.eqs.map Eqn.name) ((s.inits.map Eqn.name).take i) [])) ?_ ?_
   ·exact .intro <| W.of ⟨_,g1,a,b,c,d,0,rfl,Nat.zero_le _,rfl,rfl⟩ ⟨rfl,rfl,rfl,rfl,rfl,rfl,trivial⟩ ⟨rfl,rfl,rfl,rfl,rfl,trivial⟩
   ·clear hlm hi hi' g1 a b c d;rintro k σ H ⟨g1,a,b,c,d,i,rfl,hi,rfl,rfl⟩;unfold hpN blkS;have hlm:((s.inits.map Eqn.name).take i).length=i:=by rw[List.length_take,List.length_map];omega
    rcases Nat.lt_or_ge i s.inits.length with hi'|hi'
    ·have hts:=J3l (s.inits.map Eqn.name) i (by rw[List.length_map];exact hi');rw[List.getElem_map] at hts;(refine kWQ ?_;repeat intro γ)
     refine .intro <| W.of ⟨_,by omega,g1,a,b,γ,d,i+1,rfl,hi',rfl,rfl⟩ ⟨rfl,rfl,rfl,rfl,rfl,rfl,trivial⟩ ⟨rfl,rfl,rfl,?_,rfl,trivial⟩
     rw[← hts,List.map_append];rfl
    obtain rfl:i=s.inits.length:=by omega
    rw[List.take_of_length_le (by rw[List.length_map];exact Nat.le_refl _)];(refine kWQ ?_;repeat intro γ)
    refine LoopP.intro (fun k σ H=>∃ g1 a b c d i,k=s.whens.length-i∧i≤s.whens.length ∧
     σ=fr [(1,.op 1 g1 0 0),(6,.own 101 a 0 s.vars.length),(7,.own 102 b 0 s.eqs.length),(8,.own 103 c 0 s.inits.length),(9,.own 104 d 0 i),(13,encI i)]∧H=hp (hpN g1 a b c d s (s.vars.map Va.name) (s.eqs.map Eqn.name) (s.inits.map Eqn.name) ((s.whens.map Whn.name).take i))) ?_ ?_
    ·exact .intro <| W.of ⟨_,g1,a,b,c,d,0,rfl,Nat.zero_le _,rfl,rfl⟩ ⟨rfl,rfl,rfl,rfl,rfl,rfl,trivial⟩ ⟨rfl,rfl,rfl,rfl,rfl,trivial⟩
    ·clear hlm hi hi' g1 a b c d;rintro k σ H ⟨g1,a,b,c,d,i,rfl,hi,rfl,rfl⟩;unfold hpN blkS;have hlm:((s.whens.map Whn.name).take i).length=i:=by rw[List.length_take,List.length_map];omega
     rcases Nat.lt_or_ge i s.whens.length with hi'|hi'
     ·have hts:=J3l (s.whens.map Whn.name) i (by rw[List.length_map];exact hi');rw[List.getElem_map] at hts;(refine kWQ ?_;repeat intro γ)
      refine .intro <| W.of ⟨_,by omega,g1,a,b,c,γ,i+1,rfl,hi',rfl,rfl⟩ ⟨rfl,rfl,rfl,rfl,rfl,rfl,trivial⟩ ⟨rfl,rfl,rfl,rfl,?_,trivial⟩
      rw[← hts,List.map_append];rfl
     obtain rfl:i=s.whens.length:=by omega
     rw[List.take_of_length_le (by rw[List.length_map];exact Nat.le_refl _)];(refine kWQ ?_;repeat intro γ);refine .of ?_;show AV.tup [AV.sl 1 _,AV.sl 1 _,AV.sl 1 _,AV.sl 1 _]=_
     congr 1
     refine List.cons_eq_cons.2 ⟨endS rfl (by simp),List.cons_eq_cons.2 ⟨endS rfl (by simp),List.cons_eq_cons.2 ⟨endS rfl (by simp),List.cons_eq_cons.2 ⟨endS rfl (by simp),rfl⟩⟩⟩⟩
def J52 (vs:List Va):List Ac→List ByteArray→List ByteArray→Option (List ByteArray)
 |[],_,A=>some A
 |a :: r,S,A=>match vs.find? (fun v=>decide (v.name=a.var)) with
   |none=>none
   | some v=>if !isR vs a.value v.type then none
     else if a.kind=0 then (if !decide (v.kind=1)||memR A a.var then none else J52 vs r S (A++[a.var]))
     else if a.kind=1 then (if !decide (v.kind=0)||memR S a.var then none else J52 vs r (S++[a.var]) A)
     else none
def whenR (vs:List Va)(w:Whn)(A:List ByteArray):Option (List ByteArray):=if !isR vs w.cond 1||decide (w.acts.length=0) then none else J52 vs w.acts [] A
theorem ownS {b p e n:Nat}{H:Hp}{out:List ByteArray}(hb:H b=some (p,⟨e,1,out.map encS⟩))(hn:n=out.length):snap [b] H (.own b p 0 n)=J48 out:=by
 rw[J2F (by simp) hb (by simp[hn]),J0d _ _ _ _ hn fun _=>rfl];rfl
def JNE (p:Nat):Option (List ByteArray)→AV→Hp→Prop
 |none,r,h=>∃ g,∃ A:List ByteArray,r=.tup [.val (.slice none 0 0),encB false]∧h=hp [(50,g,⟨9,1,A.map encS⟩)]
 |some A,r,h=>∃ g,r=.tup [.own 50 g 0 A.length,encB true]∧h=hp [(50,g,⟨9,1,A.map encS⟩)]
theorem JLN (s:Sys)(hv:s.vars.length≤2^40)(w:Whn)(A:List ByteArray)(p:Nat)(hA:A.length≤2^40)(hl:w.acts.length≤2^40)(hc:SzE w.cond∧TxE w.cond)(he:∀ a∈w.acts,SzE a.value∧TxE a.value) :
  HCall Tryz.prog 183 [J0M s,J0m w,.own 50 p 0 A.length] (hp [(50,p,⟨9,1,A.map encS⟩)]) (JNE p (whenR s.vars w A)):=by
 refine J2M (E:=E 0) J5C (JLC 0) Tryz.func183 rfl (by rfl) (Nat.le_of_ble_eq_true rfl) ?_;have hi:=fun e t h h'=>JNR s (by omega) e t h h';have hfi:=fun n=>JIX s n (by omega);have hat:=JHD s.vars;obtain ⟨vs,qs,ns,ws⟩:=s;obtain ⟨wn,wc,ats⟩:=w;simp only at hv hi hfi hl hc he hat ⊢;generalize hF:whenR vs ⟨wn,wc,ats⟩ A=F;unfold whenR at hF;simp only at hF;have t0:=hi wc 1 hc.1 hc.2;unfold J0M at hi hfi t0 ⊢;unfold J0m
 try simp only at hi hfi t0
 generalize isR vs wc 1=y0 at hF t0;rw[J08] at t0;(refine kWQ ?_;repeat intro γ);refine CallP.flat [] _ c262 t0 rfl ?_
 have bad:∀ {r H g B} (F:Option (List ByteArray)),none=F→r=AV.tup [.val (.slice none 0 0),encB false]→hpOk H [(50,g,⟨9,1,List.map encS B⟩)]→EndH r H (JNE p F):=by
  rintro r H g B F rfl h1 h2;exact EndH.of h2 ⟨g,B,h1,rfl⟩
 cases y0 with
 |false=>
   (refine kWQ ?_;repeat intro γ);exact bad F hF rfl ⟨rfl,trivial⟩
 |true=>
   simp only[Bool.not_true,Bool.false_or] at hF;(refine kWQ ?_;repeat intro γ);refine CondP.dec (fun h=>?_) (fun h=>?_)<;>refine kW ?_
   ·rw[if_pos (decide_eq_true (by omega))] at hF;(refine kQ ?_;repeat intro γ);exact bad F hF rfl ⟨rfl,trivial⟩
   rw[if_neg (by simp;intro h';exact h (by rw[h'];rfl))] at hF;(refine kQ ?_;repeat intro γ)
   refine LoopP.intro (fun k σ H=>∃ g3 g4 p g i,∃ S A:List ByteArray,k=ats.length-i∧i≤ats.length∧A.length≤2^40+i∧S.length≤i∧J52 vs (ats.drop i) S A=F ∧
    σ=fr [(2,.own 50 p 0 A.length),(3,.op 3 g3 0 0),(4,.op 4 g4 0 0),(8,.own 100 g 0 S.length),(9,encI i)] ∧
    H=hp [(3,g3,⟨26,4,[.agg [.sl 7 (vs.map encV),.sl 9 (qs.map J0N),.sl 9 (ns.map J0N),.sl 6 (ws.map J0m)]]⟩),(4,g4,⟨228,6,[.agg (encS wn::(J1S wc++[.sl 6 (ats.map J6n)]))]⟩),(50,p,⟨9,1,A.map encS⟩),(100,g,⟨9,1,S.map encS⟩)]) ?_ ?_
   ·exact .intro (J2a 8 100 9 1 rfl rfl fun g=>W.of ⟨_,_,_,p,g,0,[],A,rfl,Nat.zero_le _,by omega,by simp,hF,rfl,rfl⟩ ⟨rfl,rfl,rfl,rfl,rfl,trivial⟩ ⟨rfl,rfl,rfl,rfl,trivial⟩)
   ·clear hF hA t0;rintro k σ H ⟨g3,g4,p',g,i,S,A,rfl,hii,hA,hS,hF,rfl,rfl⟩
    rcases Nat.lt_or_ge i ats.length with h1|h1
    ·rw[List.drop_eq_getElem_cons h1] at hF;have hz:=he _ (List.getElem_mem h1);(refine kWQ ?_;repeat intro γ);generalize ats[i]=a at hF hz ⊢;obtain ⟨ak,av,ae⟩:=a;simp only at hz;unfold J52 at hF;simp only at hF;(refine kQ ?_;repeat intro γ);refine CallP.flat [] _ c84 (hfi av) rfl ?_
     rcases hat av with ⟨f1,f2⟩|⟨j,hj,f1,f2⟩
     ·rw[f2] at hF;generalize findR vs av=fi at f1 ⊢;(refine kWQ ?_;repeat intro γ);exact bad F hF rfl ⟨rfl,trivial⟩
     ·rw[f2] at hF;rw[f1];have t1:=hi ae vs[j].type hz.1 hz.2;(refine kWQ ?_;repeat intro γ);obtain ⟨v,hvj⟩:∃ v,vs[j]=v:=⟨_,rfl⟩;rw[hvj] at hF t1;simp only[hvj];replace hF:(if (!isR vs ae v.type)=true then none else if ak=0 then (if (!decide (v.kind=1)||memR A av)=true then none else J52 vs (List.drop (i+1) ats) S (A++[av])) else if ak=1 then (if (!decide (v.kind=0)||memR S av)=true then none else J52 vs (List.drop (i+1) ats) (S++[av]) A) else none)=F:=hF;generalize isR vs ae v.type=y1 at hF t1;rw[J08] at t1;(refine kQ ?_;repeat intro γ);refine CallG.intro _ c262 t1 ?_
      cases y1 with
      |false=>
        (refine kWQ ?_;repeat intro γ);exact bad F hF rfl ⟨rfl,trivial⟩
      |true=>
        replace hF:(if ak=0 then (if (!decide (v.kind=1)||memR A av)=true then none else J52 vs (List.drop (i+1) ats) S (A++[av])) else if ak=1 then (if (!decide (v.kind=0)||memR S av)=true then none else J52 vs (List.drop (i+1) ats) (S++[av]) A) else none)=F:=hF;(refine kWQ ?_;repeat intro γ)
        try simp only[hvj]
        (refine kQ ?_;repeat intro γ);refine CondP.dec (fun k0=>?_) (fun k0=>?_)<;>refine kW ?_
        ·rw[if_pos k0] at hF;(refine kQ ?_;repeat intro γ)
         try simp only[hvj]
         (refine kQ ?_;repeat intro γ);refine CondP.dec (fun v1=>?_) (fun v1=>?_)<;>refine kW ?_
         case' refine_2=>
          rw[decide_eq_false v1] at hF;(refine kQ ?_;repeat intro γ)
          try simp only[hvj]
          (refine kQ ?_;repeat intro γ);exact bad F hF rfl ⟨rfl,trivial⟩
         rw[decide_eq_true v1] at hF;(refine kQ ?_;repeat intro γ)
         try simp only[hvj]
         (refine kQ ?_;repeat intro γ);have hin:=JNU A av (by omega);have hm:=@List.length_map _ _ A encS;generalize memR A av=m at hF hin;refine CallP.flat [50] _ c263 (J0D (congrArg (fun z=>[z,encS av]) (ownS rfl rfl)) hin) rfl ?_
         cases m with
         |true=>
           (refine kWQ ?_;repeat intro γ)
           try simp only[hvj]
           (refine kQ ?_;repeat intro γ);exact bad F hF rfl ⟨rfl,trivial⟩
         |false=>
           (refine kWQ ?_;repeat intro γ)
           try simp only[hvj]
           (refine kQ ?_;repeat intro γ)
           refine .intro <| W.of ⟨_,by omega,g3,g4,γ,g,i+1,S,A++[av],rfl,h1,by rw[List.length_append,List.length_singleton];omega,by omega,hF,rfl,rfl⟩ ⟨?_,rfl,rfl,rfl,rfl,trivial⟩ ⟨rfl,rfl,?_,rfl,trivial⟩
           ·exact congrArg (AV.own 50 _ 0) (by simp)
           ·show some (_,(⟨_,_,_++_⟩:Blk))=_
            rw[List.map_append];rfl
        ·rw[if_neg k0] at hF;(refine kQ ?_;repeat intro γ)
         try simp only[hvj]
         (refine kQ ?_;repeat intro γ);refine CondP.dec (fun k1=>?_) (fun k1=>?_)<;>refine kW ?_
         case' refine_2=>
          rw[if_neg k1] at hF;(refine kQ ?_;repeat intro γ)
          try simp only[hvj]
          (refine kQ ?_;repeat intro γ);exact bad F hF rfl ⟨rfl,trivial⟩
         rw[if_pos k1] at hF;(refine kQ ?_;repeat intro γ)
         try simp only[hvj]
         (refine kQ ?_;repeat intro γ);refine CondP.dec (fun v1=>?_) (fun v1=>?_)<;>refine kW ?_
         case' refine_2=>
          rw[decide_eq_false v1] at hF;(refine kQ ?_;repeat intro γ)
          try simp only[hvj]
          (refine kQ ?_;repeat intro γ);exact bad F hF rfl ⟨rfl,trivial⟩
         rw[decide_eq_true v1] at hF;(refine kQ ?_;repeat intro γ)
         try simp only[hvj]
         (refine kQ ?_;repeat intro γ);have hin:=JNU S av (by omega);have hm:=@List.length_map _ _ S encS;generalize memR S av=m at hF hin;refine CallP.flat [100] _ c263 (J0D (congrArg (fun z=>[z,encS av]) (ownS rfl rfl)) hin) rfl ?_
         cases m with
         |true=>
           (refine kWQ ?_;repeat intro γ)
           try simp only[hvj]
           (refine kQ ?_;repeat intro γ);exact bad F hF rfl ⟨rfl,trivial⟩
         |false=>
           (refine kWQ ?_;repeat intro γ)
           try simp only[hvj]
           (refine kQ ?_;repeat intro γ)
           refine .intro <| W.of ⟨_,by omega,g3,g4,p',γ,i+1,S++[av],A,rfl,h1,by omega,by rw[List.length_append,List.length_singleton];omega,hF,rfl,rfl⟩ ⟨rfl,rfl,rfl,?_,rfl,trivial⟩ ⟨rfl,rfl,rfl,?_,trivial⟩
           ·exact congrArg (AV.own 100 _ 0) (by simp)
           ·show some (_,(⟨_,_,_++_⟩:Blk))=_
            rw[List.map_append];rfl
    ·rw[List.drop_eq_nil_of_le h1] at hF;(refine kWQ ?_;repeat intro γ)
     try simp only[hvj]
     (refine kQ ?_;repeat intro γ);subst hF;exact EndH.of (m:=[(50,p',⟨9,1,List.map encS A⟩)]) ⟨rfl,trivial⟩ ⟨p',rfl,rfl⟩
theorem J7G (vs:List Va):∀ (l:List Ac) (S A B:List ByteArray),J52 vs l S A=some B→B.length≤A.length+l.length
 |[],S,A,B,h=>by cases h;simp
 |a :: r, S,A,B,h=>by
   unfold J52 at h;split at h
   ·cases h
   ·split at h
    ·cases h
    ·split at h
     ·split at h
      ·cases h
      ·have:=J7G vs r _ _ _ h;simp only[List.length_append,List.length_cons,List.length_nil] at this ⊢;omega
     ·split at h
      ·split at h
       ·cases h
       ·have:=J7G vs r _ _ _ h;simp only[List.length_cons] at this ⊢;omega
      ·cases h
theorem JFj (vs:List Va)(w:Whn)(A B:List ByteArray)(h:whenR vs w A=some B):B.length≤A.length+w.acts.length:=by
 unfold whenR at h;split at h
 ·cases h
 ·exact J7G vs _ _ _ _ h
def J5o (vs:List Va):List Whn→List ByteArray→Bool
 |[],_=>true
 |w::r,A=>match whenR vs w A with
   |none=>false
   |some B=>J5o vs r B
def JCk (s:Sys):Bool:=
 (risG (s.vars.map Va.name) none&&risG (s.eqs.map Eqn.name) none&&risG (s.inits.map Eqn.name) none&&risG (s.whens.map Whn.name) none)
   && (s.vars.all fun v=>nameF v.name&&varF v)&&(eqsR s.vars s.eqs&&eqsR s.vars s.inits)&&J5o s.vars s.whens []
def JBC (s:Sys):Int:=if largeF s then 2 else if JCk s then 0 else 1
theorem JIb (s:Sys)(hs:SzS s):PX 93 [J0M s] (encI (JBC s)):=by
 refine PZ Tryz.func93 rfl ?_;have hL:=JGp s hs
 have hb:largeF s=false→s.vars.length≤200∧s.eqs.length≤200∧s.inits.length≤200∧s.whens.length≤200∧∀ w∈s.whens,w.acts.length≤20:=by
  intro h;unfold largeF at h;simp only[Bool.or_eq_false_iff,decide_eq_false_iff_not] at h;obtain ⟨⟨⟨h1,h2⟩,h3⟩,h4⟩:=h;refine ⟨by omega,by omega,by omega,by omega,fun w hw=>?_⟩;have:=List.any_eq_false.1 h3 w hw;simp at this;exact this
 have hQ:∀ q∈s.eqs,(SzE q.left∧TxE q.left)∧SzE q.right∧TxE q.right:=fun q hq=>⟨hs.e _ (by unfold allF;exact List.mem_append_left _ (List.mem_append_left _ (J13 hq).1)),hs.e _ (by unfold allF;exact List.mem_append_left _ (List.mem_append_left _ (J13 hq).2))⟩;have hN:∀ q∈s.inits,(SzE q.left∧TxE q.left)∧SzE q.right∧TxE q.right:=fun q hq=>⟨hs.e _ (by unfold allF;exact List.mem_append_left _ (List.mem_append_right _ (J13 hq).1)),hs.e _ (by unfold allF;exact List.mem_append_left _ (List.mem_append_right _ (J13 hq).2))⟩;have hWc:∀ w∈s.whens,SzE w.cond∧TxE w.cond:=fun w hw=>hs.e _ (by unfold allF;exact List.mem_append_right _ (J3w hw).1);have hWa:∀ w∈s.whens,∀ a∈w.acts,SzE a.value∧TxE a.value:=fun w hw a ha=>hs.e _ (by unfold allF;exact List.mem_append_right _ ((J3w hw).2 a ha));have r1:=fun h=>J5T (s.vars.map Va.name) (by rw[List.length_map];have:=(hb h).1;omega) fun x hx=>by obtain ⟨v,hv,rfl⟩:=List.mem_map.1 hx;exact (hs.t v hv).1
 have r2:=fun h=>J5T (s.eqs.map Eqn.name) (by rw[List.length_map];have:=(hb h).2.1;omega) fun x hx=>by obtain ⟨v,hv,rfl⟩:=List.mem_map.1 hx;exact hs.m.1 v hv
 have r3:=fun h=>J5T (s.inits.map Eqn.name) (by rw[List.length_map];have:=(hb h).2.2.1;omega) fun x hx=>by obtain ⟨v,hv,rfl⟩:=List.mem_map.1 hx;exact hs.m.2.1 v hv
 have r4:=fun h=>J5T (s.whens.map Whn.name) (by rw[List.length_map];have:=(hb h).2.2.2.1;omega) fun x hx=>by obtain ⟨v,hv,rfl⟩:=List.mem_map.1 hx;exact hs.m.2.2 v hv
 have hnm:=fun h=>JJZ s (by have:=(hb h).1;omega) (by have:=(hb h).2.1;omega) (by have:=(hb h).2.2.1;omega) (by have:=(hb h).2.2.2.1;omega);have hvr:∀ v∈s.vars,PX 181 [encV v] (encB (nameF v.name&&varF v)):=fun v hv=>JJm v (hs.t v hv).1 (hs.t v hv).2.1 (hs.t v hv).2.2.1 (hs.t v hv).2.2.2;have q1:=fun h=>JL0 s (by have:=(hb h).1;omega) s.eqs (by have:=(hb h).2.1;omega) hQ;have q2:=fun h=>JL0 s (by have:=(hb h).1;omega) s.inits (by have:=(hb h).2.2.1;omega) hN;have hw:=fun h w hw A p hA=>JLN s (by have:=(hb h).1;omega) w A p hA (by have:=(hb h).2.2.2.2 w hw;omega) (hWc w hw) (hWa w hw);have hwl:=JFj s.vars;clear hs hQ hN hWc hWa;generalize hF:JBC s=F;unfold JBC at hF;obtain ⟨vs,qs,ns,ws⟩:=s;generalize largeF ⟨vs,qs,ns,ws⟩=la at *;unfold JCk at hF;simp only at *;generalize risG (vs.map Va.name) none=b1 at *;generalize risG (qs.map Eqn.name) none=b2 at *;generalize risG (ns.map Eqn.name) none=b3 at *;generalize risG (ws.map Whn.name) none=b4 at *;generalize eqsR vs qs=b5 at *;generalize eqsR vs ns=b6 at *;unfold J0M at *;simp only at *;refine kWQ ?_;intros;refine CallP.flat [] _ c178 hL rfl ?_
 cases la with
 |true=>
   refine kWQ ?_;intros;exact .of (by rw[← hF];rfl)
 |false =>
   replace hb:=hb rfl;replace r1:=r1 rfl;replace r2:=r2 rfl;replace r3:=r3 rfl;replace r4:=r4 rfl;replace hnm:=hnm rfl;replace q1:=q1 rfl;replace q2:=q2 rfl;replace hw:=hw rfl;simp only[Bool.false_eq_true,if_false] at hF
   have bad:∀ {b:Bool} {r:AV},b=false→(if b=true then (0:Int) else 1)=F→r=encI 1→Fw.Ends r (encI F):=by
    rintro b r rfl h rfl;rw[← h];exact .of rfl
   refine kWQ ?_;intros;refine J00 [] _ c179 hnm ?_;refine kWQ ?_;intros;refine CallP.flat [] _ c180 r1 rfl ?_
   cases b1 with
   |false=>
     refine kWQ ?_;intros;exact bad (by simp) hF rfl
   |true=>
     refine kWQ ?_;intros;refine CallP.flat [] _ c180 r2 rfl ?_
     cases b2 with
     |false=>
       refine kWQ ?_;intros;exact bad (by simp) hF rfl
     |true=>
       refine kWQ ?_;intros;refine CallP.flat [] _ c180 r3 rfl ?_
       cases b3 with
       |false=>
         refine kWQ ?_;intros;exact bad (by simp) hF rfl
       |true=>
         refine kWQ ?_;intros;refine CallP.flat [] _ c180 r4 rfl ?_
         cases b4 with
         |false=>
           refine kWQ ?_;intros;exact bad (by simp) hF rfl
         |true=>
           refine kWQ ?_;intros;simp only[Bool.true_and] at hF
           refine LoopP.intro (fun k σ H=>∃ g i,k=vs.length-i∧i≤vs.length∧(if (((vs.drop i).all fun v=>nameF v.name&&varF v)&&(b5&&b6)&&J5o vs ws [])=true then 0 else 1)=F ∧
            σ=fr [(1,.op 1 g 0 0),(7,encI i)]∧H=hp [(1,g,⟨26,4,[.agg [.sl 7 (vs.map encV),.sl 9 (qs.map J0N),.sl 9 (ns.map J0N),.sl 6 (ws.map J0m)]]⟩)]) ?_ ?_
           ·exact .intro <| W.of ⟨_,_,0,rfl,Nat.zero_le _,hF,rfl,rfl⟩ ⟨rfl,rfl,trivial⟩ ⟨rfl,trivial⟩
           ·clear hF r1 r2 r3 r4 hnm;rintro k σ H ⟨g1,i,rfl,hi,hF,rfl,rfl⟩
            rcases Nat.lt_or_ge i vs.length with h1|h1
            ·have hv:=hvr _ (List.getElem_mem h1);rw[List.drop_eq_getElem_cons h1,List.all_cons] at hF;refine kWQ ?_;intros;generalize vs[i]=v at hF hv ⊢;generalize (nameF v.name&&varF v)=bv at hF hv;refine kQ ?_;intros;refine CallP.flat [] _ c181 hv rfl ?_
             cases bv with
             |false=>
               refine kWQ ?_;intros;exact bad (by simp) hF rfl
             |true=>
               rw[Bool.true_and] at hF;refine kWQ ?_;intros
               exact .intro <| W.of ⟨_,by omega,g1,i+1,rfl,h1,hF,rfl,rfl⟩ ⟨rfl,rfl,trivial⟩ ⟨rfl,trivial⟩
            rw[List.drop_eq_nil_of_le h1] at hF;simp only[List.all_nil,Bool.true_and] at hF;refine kWQ ?_;intros;refine CallP.flat [] _ c182 q1 rfl ?_
            cases b5 with
            |false=>
              refine kWQ ?_;intros;exact bad (by simp) hF rfl
            |true=>
              refine kWQ ?_;intros;refine CallP.flat [] _ c182 q2 rfl ?_
              cases b6 with
              |false=>
                refine kWQ ?_;intros;exact bad (by simp) hF rfl
              |true=>
                simp only[Bool.true_and] at hF;refine kWQ ?_;intros
                refine LoopP.intro (fun k σ H=>∃ g1 g i,∃ A:List ByteArray,k=ws.length-i∧i≤ws.length∧A.length≤20*i∧(if J5o vs (ws.drop i) A=true then 0 else 1)=F ∧
                 σ=fr [(1,.op 1 g1 0 0),(8,.own 100 g 0 A.length),(9,encI i)]∧H=hp [(1,g1,⟨26,4,[.agg [.sl 7 (vs.map encV),.sl 9 (qs.map J0N),.sl 9 (ns.map J0N),.sl 6 (ws.map J0m)]]⟩),(100,g,⟨9,1,A.map encS⟩)]) ?_ ?_
                ·exact .intro (J2a 8 100 9 1 rfl rfl fun g=>W.of ⟨_,_,g,0,[],rfl,Nat.zero_le _,by simp,hF,rfl,rfl⟩ ⟨rfl,rfl,rfl,trivial⟩ ⟨rfl,rfl,trivial⟩)
                ·clear hF q1 q2;rintro k σ H ⟨g1,g,i,A,rfl,hi,hA,hF,rfl,rfl⟩
                 rcases Nat.lt_or_ge i ws.length with h2|h2
                 ·have hwi:=hw _ (List.getElem_mem h2);have hwa:=hb.2.2.2.2 _ (List.getElem_mem h2);rw[List.drop_eq_getElem_cons h2] at hF;unfold J5o at hF;refine kWO ?_;intros;simp only[List.length_map];refine kO ?_;intros;refine J0x [(7,false),(8,true),(13,false)] (by kernel_rfl) ?_;refine kWQ ?_;intros;refine CallP.frame 1000000 [(50,100)] rfl c183 (hwi A g (by omega)) rfl ⟨J0Q encS _ (fun _=>rfl) ..,trivial⟩ ?_;have hwl2:=hwl ws[i] A;generalize whenR vs ws[i] A=R at hF hwl2
                  cases R with
                  |none=>
                    rintro r0 h' ⟨g',A',rfl,rfl⟩;refine ⟨[(100,g',⟨9,1,A'.map encS⟩)],⟨J0Q encS _ (fun _=>rfl) ..,trivial⟩,?_⟩;refine kWQ ?_;intros;exact bad rfl hF rfl
                  |some B=>
                    rintro r0 h' ⟨g',rfl,rfl⟩;refine ⟨[(100,g',⟨9,1,B.map encS⟩),(1,g1,⟨26,4,[.agg [.sl 7 (vs.map encV),.sl 9 (qs.map J0N),.sl 9 (ns.map J0N),.sl 6 (ws.map J0m)]]⟩)],⟨J0Q encS _ (fun _=>rfl) ..,rfl,trivial⟩,?_⟩;have:=hwl2 B rfl;refine kWQ ?_;intros
                    exact .intro <| W.of ⟨_,by omega,g1,g',i+1,B,rfl,h2,by omega,hF,rfl,rfl⟩ ⟨rfl,rfl,rfl,trivial⟩ ⟨rfl,rfl,trivial⟩
                 ·rw[List.drop_eq_nil_of_le h2] at hF;refine kWQ ?_;intros;exact .of (by rw[← hF];rfl)
def okT (a b:Int×Bool):Bool:=(a.2==b.2)&&(!a.2||(decide (a.1=b.1)&&(decide (a.1=0)||decide (a.1=1))))
def opsT:List ByteArray:=[oNum,oTrue,oFalse,oTime,oInit,oNeg,oNot,oSample,oAdd,oSub,oMul,oDiv,oLess,oAtMost,oMore,oAtLeast,oEq,oNe,oAnd,oOr,oIf]
theorem JNK (o:ByteArray)(h:0≤J0S o):o=oVar∨o=oPre∨o∈opsT:=by
 by_cases h4:o=oVar;· exact .inl h4
 by_cases h5:o=oPre;· exact .inr (.inl h5)
 refine .inr (.inr (Classical.byContradiction fun hn=>?_));rw[← J3y] at h;unfold J7a at h;unfold opsT at hn;simp only[List.mem_cons,List.not_mem_nil,or_false,not_or] at hn;simp only[hn,h4,h5,if_false] at h;omega
def b01:Bool→Int:=fun b=>if b then 1 else 0
theorem J8Z {a:Int}(h:a=0∨a=1):∃ b,a=b01 b:=by
 rcases h with h|h
 ·exact ⟨false,h⟩
 ·exact ⟨true,h⟩
def ok0 (ks:List (ByteArray×Va))(vs:List Va)(o t:ByteArray)(n:Int):Bool:=okT (J3j ks o t n []) (typH vs o t n [])
def ok1 (ks:List (ByteArray×Va))(vs:List Va)(o t:ByteArray)(n:Int):Bool:=[false,true].all fun a=>okT (J3j ks o t n [(b01 a,true)]) (typH vs o t n [b01 a])
def ok2 (ks:List (ByteArray×Va))(vs:List Va)(o t:ByteArray)(n:Int):Bool:=[false,true].all fun a=>[false,true].all fun b=>(decide (o=oSample)&&(a||b))||okT (J3j ks o t n [(b01 a,true),(b01 b,true)]) (typH vs o t n [b01 a,b01 b])
def ok3 (ks:List (ByteArray×Va))(vs:List Va)(o t:ByteArray)(n:Int):Bool:=[false,true].all fun a=>[false,true].all fun b=>[false,true].all fun c=>okT (J3j ks o t n [(b01 a,true),(b01 b,true),(b01 c,true)]) (typH vs o t n [b01 a,b01 b,b01 c])
def okN (ks:List (ByteArray×Va))(vs:List Va)(o t:ByteArray)(n:Int):Bool:=match J0S o with
 |0=>ok0 ks vs o t n
 |1=>ok1 ks vs o t n
 |2=>ok2 ks vs o t n
 |3=>ok3 ks vs o t n
 |_=>false
theorem JLv (ks:List (ByteArray×Va))(vs:List Va)(t:ByteArray)(n:Int):(opsT.all fun o=>okN ks vs o t n)=true:=by kernel_rfl
theorem JLY (ks:List (ByteArray×Va))(vs:List Va)(o t:ByteArray)(n:Int)(ho:o∈opsT)(ts:List Int)(hk:(ts.length:Int)=J0S o)(h01:∀ a∈ts,a=0∨a=1)(hs:o=oSample→∀ a∈ts,a=0) :
  okT (J3j ks o t n (ts.map fun a=>(a,true))) (typH vs o t n ts)=true:=by
 have h:=List.all_eq_true.1 (JLv ks vs t n) o ho;unfold okN at h;rw[← hk] at h
 match ts,h01,hs with
 |[],_,_=>exact h
 |[a],h01,_=>
   obtain ⟨x,rfl⟩:=J8Z (h01 a (by simp));exact List.all_eq_true.1 (show ok1 ks vs o t n=true from h) x (by cases x<;>simp)
 |[a, b],h01,hs=>
   obtain ⟨x,rfl⟩:=J8Z (h01 a (by simp));obtain ⟨y,rfl⟩:=J8Z (h01 b (by simp));have h2:=List.all_eq_true.1 (List.all_eq_true.1 (show ok2 ks vs o t n=true from h) x (by cases x<;>simp)) y (by cases y<;>simp);rw[Bool.or_eq_true,Bool.and_eq_true] at h2
   rcases h2 with ⟨h2,h3⟩|h2
   ·exfalso;have hs:=hs (of_decide_eq_true h2);have e1:=hs (b01 x) (by simp);have e2:=hs (b01 y) (by simp);cases x
    ·cases y
     ·simp at h3
     ·simp[b01] at e2
    ·simp[b01] at e1
   ·exact h2
 |[a,b,c],h01,_=>
   obtain ⟨x,rfl⟩:=J8Z (h01 a (by simp));obtain ⟨y,rfl⟩:=J8Z (h01 b (by simp));obtain ⟨z,rfl⟩:=J8Z (h01 c (by simp));exact List.all_eq_true.1 (List.all_eq_true.1 (List.all_eq_true.1 (show ok3 ks vs o t n=true from h) x (by cases x<;>simp)) y (by cases y<;>simp)) z (by cases z<;>simp)
 |a::b::c::d::l,_,_=>
   exfalso;have:=JDO o;simp only[List.length_cons] at hk;omega
theorem JLX (ks:List (ByteArray×Va))(o t:ByteArray)(n:Int)(rs:List (Int×Bool))(hk:(rs.length:Int)=J0S o)(hb:∃ r∈rs,r.2=false):(J3j ks o t n rs).2=false:=by
 obtain ⟨r,hr,hb⟩:=hb;unfold J3j
 by_cases h1:o=oVar∨o=oPre
 ·exfalso;have:J0S o=0:=by unfold J0S;rw[if_pos h1]
  have:rs=[]:=List.length_eq_zero_iff.1 (by omega);rw[this] at hr;cases hr
 rw[if_neg h1]
 by_cases h2:o=oEq∨o=oNe
 ·rw[if_pos h2];have:J0S o=2:=by unfold J0S;rw[if_neg h1,if_pos h2]
  match rs,hr,hk with
  |[a,b],hr,_=>
    simp only[List.mem_cons,List.not_mem_nil,or_false] at hr;show (a.2&&b.2&&decide (a.1=b.1))=false
    rcases hr with rfl|rfl<;>rw[hb]<;>simp
  |[],hr,_=>cases hr
  |[a],_,hk=>simp at hk;omega
  |a::b::c::l,_,hk=>simp at hk;omega
 rw[if_neg h2]
 by_cases h3:o=oIf
 ·rw[if_pos h3];have:J0S o=3:=by unfold J0S;rw[if_neg h1,if_neg h2,if_pos h3]
  match rs,hr,hk with
  |[a,b,c],hr,_=>
    simp only[List.mem_cons,List.not_mem_nil,or_false] at hr;show (a.2&&(b.2&&c.2&&decide (b.1=c.1))&&decide (a.1=1))=false
    rcases hr with rfl|rfl|rfl<;>rw[hb]<;>simp
  |[],hr,_=>cases hr
  |[a],_,hk=>simp at hk;omega
  |[a,b],_,hk=>simp at hk;omega
  |a::b::c::d::l,_,hk=>simp at hk;omega
 rw[if_neg h3,if_pos];exact List.any_eq_true.2 ⟨r,hr,by rw[hb];rfl⟩
theorem JFr (vs:List Va):∀ ks:List Ex,(∀ k∈ks,(typR vs k).2=true)→typL vs ks=some (ks.map fun k=>(typR vs k).1)
 |[],_=>by unfold typL;rfl
 |k::ks,h=>by
   unfold typL;rw[if_pos (h k (by simp)),JFr vs ks fun x hx=>h x (by simp[hx])];rfl
theorem JFs (vs:List Va):∀ ks:List Ex,(∃ k∈ks,(typR vs k).2=false)→typL vs ks=none
 |[],h=>by obtain ⟨k,hk,_⟩:=h;cases hk
 |k :: ks,h=>by
   unfold typL
   cases hb:(typR vs k).2 with
   |false=>rfl
   |true=>
     obtain ⟨x,hx,hx2⟩:=h
     rw[if_pos rfl,JFs vs ks ⟨x,by
      rcases List.mem_cons.1 hx with rfl|hx
      ·rw[hb] at hx2;cases hx2
      ·exact hx,hx2⟩];rfl
theorem JNL {a b:Int×Bool}(h:okT a b=true):a.2=b.2∧(a.2=true→a.1=b.1∧(a.1=0∨a.1=1)):=by
 unfold okT at h;rw[Bool.and_eq_true] at h;refine ⟨by simpa using h.1,fun h2=>?_⟩;have:=h.2;rw[h2] at this
 simpa using this
theorem JCm (ks:List (ByteArray×Va))(vs:List Va)(hav:∀ n,J0u ks n=vs.find? fun v=>decide (v.name=n))(hv:∀ v∈vs,v.type=0∨v.type=1)(e:Ex) :
  builtF e=true→(typeF ks e).2=(typR vs e).2∧((typeF ks e).2=true→(typeF ks e).1=(typR vs e).1∧((typeF ks e).1=0∨(typeF ks e).1=1)):=by
 induction e using J1R with
 |h e ih=>
   intro hb;obtain ⟨hl,hkb⟩:=J0A hb;have ih':=fun k hk=>ih k hk (hkb k hk);rw[J5S,JBp]
   by_cases hok:∀ k∈e.kids,(typR vs k).2=true
   ·rw[JFr vs _ hok]
    have e1:e.kids.map (typeF ks)=(e.kids.map fun k=>(typR vs k).1).map fun a=>(a,true):=by
     rw[List.map_map];refine List.map_congr_left fun k hk=>?_;have h1:=ih' k hk;have h2:=h1.1.trans (hok k hk);exact Prod.ext (h1.2 h2).1 h2
    rw[e1]
    by_cases hvp:e.op=oVar∨e.op=oPre
    ·have hx:J3j ks e.op e.text e.order ((e.kids.map fun k=>(typR vs k).1).map fun a=>(a,true))=varT vs e.text e.order∧typH vs e.op e.text e.order (e.kids.map fun k=>(typR vs k).1)=varT vs e.text e.order:=by
      refine ⟨?_,by rcases hvp with ho|ho<;>rw[ho]<;>rfl⟩;unfold J3j varT;rw[if_pos hvp,hav];cases vs.find? fun v=>decide (v.name=e.text)<;>rfl
     rw[hx.1];refine ⟨congrArg Prod.snd hx.2.symm,fun _=>⟨congrArg Prod.fst hx.2.symm,?_⟩⟩;unfold varT
     cases hf:vs.find? fun v=>decide (v.name=e.text) with
     |none=>exact .inl rfl
     |some v=>exact hv v (List.mem_of_find?_eq_some hf)
    have ho:e.op∈opsT:=by
     rcases JNK e.op (by omega) with ho|ho|ho
     ·exact (hvp (.inl ho)).elim
     ·exact (hvp (.inr ho)).elim
     ·exact ho
    refine JNL (JLY ks vs _ _ _ ho _ (by rw[List.length_map];exact hl) ?_ ?_)
    ·intro a ha;obtain ⟨k,hk,rfl⟩:=List.mem_map.1 ha;have h1:=ih' k hk;have h2:=h1.2 (h1.1.trans (hok k hk));rw[← h2.1];exact h2.2
    ·intro hos a ha;obtain ⟨k,hk,rfl⟩:=List.mem_map.1 ha
     have hkn:k.op=oNum:=by
      rw[J0t] at hb;simp only[Bool.and_eq_true] at hb;have hsm:=hb.1.2
      have hlen:e.kids.length=2:=by
       have:J0S e.op=2:=by rw[hos];rfl
       omega
      generalize e.kids=l at hsm hlen hk
      match l,hlen with
      |[k0,k1],_=>
        unfold J1s at hsm;rw[decide_eq_true hos] at hsm;simp only[List.map_cons,Bool.true_and,Bool.not_eq_true',Bool.or_eq_false_iff,Bool.not_eq_false',decide_eq_true_eq] at hsm;simp only[List.mem_cons,List.not_mem_nil,or_false] at hk
        rcases hk with rfl|rfl
        ·exact hsm.1.1.1.1
        ·exact hsm.1.1.1.2
     rw[JBp,hkn]
     have hk0:k.kids=[]:=by
      have h1:=(J0A (hkb k hk)).1;rw[hkn] at h1;have:J0S oNum=0:=rfl;exact List.length_eq_zero_iff.1 (by omega)
     rw[hk0];rfl
   ·have hbad:∃ k∈e.kids,(typR vs k).2=false:=by
     refine Classical.byContradiction fun hn=>hok fun k hk=>?_
     cases h:(typR vs k).2 with
     |true=>rfl
     |false=>exact (hn ⟨k,hk,h⟩).elim
    rw[JFs vs _ hbad]
    have:=JLX ks e.op e.text e.order (e.kids.map (typeF ks)) (by rw[List.length_map];exact hl) (by
     obtain ⟨k,hk,hf⟩:=hbad
     exact ⟨_,List.mem_map.2 ⟨k,hk,rfl⟩,(ih' k hk).1.trans hf⟩)
    rw[this];exact ⟨rfl,fun h=>by cases h⟩
theorem JE8 (ks:List (ByteArray×Va))(vs:List Va)(hav:∀ n,J0u ks n=vs.find? fun v=>decide (v.name=n))(hv:∀ v∈vs,v.type=0∨v.type=1)(e:Ex)(t:Int):typedF ks e t=isR vs e t:=by
 unfold typedF isR
 cases hb:builtF e with
 |false=>rfl
 |true=>
   obtain ⟨h1,h2⟩:=JCm ks vs hav hv e hb;rw[← h1]
   cases h3:(typeF ks e).2 with
   |false=>rfl
   |true=>rw[(h2 h3).1]
theorem JI7:∀ a:List UInt8,Op.bytesLess a a=false
 |[]=>rfl
 |x::a=>by rw[J9Z,JI7 a];simp
theorem J9Y:∀ a b c:List UInt8,Op.bytesLess a b=true→Op.bytesLess b c=true→Op.bytesLess a c=true
 |[],[],_,h,_=>by cases h
 |[],_::_,[],_,h=>by cases h
 |[],_::_,_::_,_,_=>rfl
 |_::_,[],_,h,_=>by cases h
 |_::_,_::_,[],_,h=>by cases h
 |x :: a,y::b,z::c,h1,h2=>by
   rw[J9Z] at h1 h2 ⊢;simp only[Bool.or_eq_true,Bool.and_eq_true,decide_eq_true_eq] at h1 h2 ⊢
   rcases h1 with h1|⟨rfl,h1⟩
   ·rcases h2 with h2 | ⟨rfl,h2⟩
    ·exact .inl (UInt8.lt_trans h1 h2)
    ·exact .inl h1
   ·rcases h2 with h2 | ⟨rfl,h2⟩
    ·exact .inl h2
    ·exact .inr ⟨rfl,J9Y a b c h1 h2⟩
theorem J67 {n:ByteArray}{r:List ByteArray}{p:Option ByteArray}(h:risG (n::r) p=true):nameF n=true∧(∀ q,p=some q→Op.bytesLess q.toList n.toList=true)∧risG r (some n)=true:=by
 unfold risG at h;simp only[Bool.and_eq_true] at h;refine ⟨h.1.1,?_,h.2⟩;rintro q rfl;exact h.1.2
theorem J83:∀ (l:List ByteArray) (q:ByteArray),risG l (some q)=true→∀ x∈l,Op.bytesLess q.toList x.toList=true
 |[],_,_,x,hx=>by cases hx
 |n::r,q,h,x,hx=>by
   obtain ⟨_,h2,h3⟩:=J67 h
   rcases List.mem_cons.1 hx with rfl|hx
   ·exact h2 q rfl
   ·exact J9Y _ _ _ (h2 q rfl) (J83 r n h3 x hx)
theorem JAF:∀ (l:List ByteArray) (p:Option ByteArray),risG l p=true→∀ x∈l,nameF x=true
 |[],_,_,x,hx=>by cases hx
 |n::r,p,h,x,hx=>by
   obtain ⟨h1,_,h3⟩:=J67 h
   rcases List.mem_cons.1 hx with rfl|hx
   ·exact h1
   ·exact JAF r _ h3 x hx
theorem J4o:∀ (l:List ByteArray) (p:Option ByteArray),risG l p=true→l.Nodup
 |[],_,_=>List.nodup_nil
 |n::r,p,h=>by
   obtain ⟨_,_,h3⟩:=J67 h;refine List.nodup_cons.2 ⟨fun hm=>?_,J4o r _ h3⟩;have:=J83 r n h3 n hm;rw[JI7] at this;cases this
theorem JD7 {β:Type}(k:ByteArray)(v:β):∀ l:List (ByteArray×β),k ∉ l.map Prod.fst→putK l k v=l++[(k,v)]
 |[],_=>rfl
 |x::r,h=>by
   rw[List.map_cons,List.mem_cons,not_or] at h;unfold putK;rw[if_neg h.1,JD7 k v r h.2];rfl
theorem J98:∀ (vs:List Va) (l:List (ByteArray×Va)),(l.map Prod.fst++vs.map Va.name).Nodup→vs.foldl (fun l v=>putK l v.name v) l=l++vs.map fun v=>(v.name,v)
 |[],l,_=>by simp
 |v :: vs,l,h=>by
   rw[List.foldl_cons,JD7]
   ·rw[J98 vs]
    ·simp
    ·rw[List.map_append,List.append_assoc];exact h
   ·intro hm;rw[List.nodup_append] at h;exact h.2.2 _ hm _ (by simp) rfl
theorem J50:∀ (vs:List Va) (n:ByteArray),J0u (vs.map fun v=>(v.name,v)) n=vs.find? fun v=>decide (v.name=n)
 |[],_=>rfl
 |v::vs,n=>by
   rw[List.map_cons,List.find?_cons];unfold J0u
   by_cases h:n=v.name
   ·rw[if_pos h,decide_eq_true h.symm]
   ·rw[if_neg h,decide_eq_false (fun e=>h e.symm),J50 vs n]
theorem JLz (A:List ByteArray)(s:ByteArray):memR A s=memA s A:=by
 unfold memR memA
 congr 1
 funext x
 exact decide_eq_decide.2 ⟨Eq.symm,Eq.symm⟩
theorem J7F (ks:List (ByteArray×Va))(vs:List Va)(hav:∀ n,J0u ks n=vs.find? fun v=>decide (v.name=n))(hT:∀ e t,typedF ks e t=isR vs e t) :
  ∀ (l:List Ac) (S A:List ByteArray),J52 vs l S A=if (J3c ks l S A).1 then some (J3c ks l S A).2 else none
 |[],S,A=>rfl
 |a :: r,S,A=>by
   unfold J52 J3c badA;rw[hav]
   cases hf:vs.find? fun v=>decide (v.name=a.var) with
   |none=>rfl
   |some v=>
     simp only[hT,JLz]
     by_cases h0:a.kind=0
     ·simp only[h0,if_true,decide_true,Bool.not_true,Bool.false_and,Bool.false_or];cases isR vs a.value v.type<;>cases decide (v.kind=1)<;>cases memA a.var A<;>simp[J7F ks vs hav hT r]
     ·by_cases h1:a.kind=1
      ·simp only[h1,if_true,decide_true,Bool.not_true,Bool.and_false,Bool.false_or,if_false,(by decide:¬ (1:Int)=0)];cases isR vs a.value v.type<;>cases decide (v.kind=0)<;>cases memA a.var S<;>simp[J7F ks vs hav hT r]
      ·simp only[h0,h1,decide_false,Bool.not_false,Bool.true_and,Bool.true_or,if_true,if_false];cases isR vs a.value v.type<;>rfl
theorem J7i (ks:List (ByteArray×Va))(vs:List Va)(hav:∀ n,J0u ks n=vs.find? fun v=>decide (v.name=n))(hT:∀ e t,typedF ks e t=isR vs e t) :
  ∀ (l:List Whn) (A:List ByteArray),J5o vs l A=J3f ks l A
 |[],_=>rfl
 |w :: r,A=>by
   unfold J5o J3f whenR J9e;rw[hT,J7F ks vs hav hT];simp only
   by_cases hl:w.acts.length=0
   ·rw[decide_eq_true hl,decide_eq_false (p:=0<w.acts.length) (by omega)];simp
   ·rw[decide_eq_false hl,decide_eq_true (p:=0<w.acts.length) (by omega)];cases isR vs w.cond 1<;>cases (J3c ks w.acts [] A).1<;>simp[J7i ks vs hav hT r]
theorem J9x {v:Va}(h:varF v=true):v.type=0∨v.type=1:=by
 unfold varF J6V at h;simp only[Bool.and_eq_true,Bool.not_eq_true',Bool.or_eq_false_iff,Bool.and_eq_false_iff] at h
 rcases h.1.1.1.1.1.1.1 with h|h
 ·exact .inl (by simpa using h)
 ·exact .inr (by simpa using h)
theorem JE6 (s:Sys):JCk s=validF s:=by
 unfold JCk validF
 cases h1:risG (s.vars.map Va.name) none with
 |false=>rfl
 |true=>
   have e1:knownF s.vars=s.vars.map fun v=>(v.name,v):=by
    unfold knownF;rw[J98 _ _ (by simpa using J4o _ _ h1)];rfl
   have hav:∀ n,J0u (knownF s.vars) n=s.vars.find? fun v=>decide (v.name=n):=fun n=>by rw[e1,J50]
   have e2:(s.vars.all fun v=>nameF v.name&&varF v)=!(s.vars.any fun v=>!varF v):=by
    rw[List.not_any_eq_all_not];rw[Bool.eq_iff_iff,List.all_eq_true,List.all_eq_true];have hn:=JAF _ _ h1;refine ⟨fun h v hv=>?_,fun h v hv=>?_⟩
    ·have:=h v hv;rw[Bool.and_eq_true] at this;simp[this.2]
    ·have:=h v hv;rw[Bool.not_not] at this;rw[hn _ (List.mem_map.2 ⟨v,hv,rfl⟩),this];rfl
   rw[e2]
   cases h2:(s.vars.any fun v=>!varF v) with
   |true=>simp
   |false=>
     have hv:∀ v∈s.vars,v.type=0∨v.type=1:=fun v hv=>J9x (by
      have:=List.any_eq_false.1 h2 v hv
      simpa using this)
     have hT:=JE8 (knownF s.vars) s.vars hav hv
     have e3:∀ l:List Eqn,eqsR s.vars l=l.all (eqT (knownF s.vars)):=by
      intro l;unfold eqsR
      congr 1
      funext q
      unfold eqT;rw[hT,hT]
     rw[e3,e3,J7i _ _ hav hT]
theorem JF7 (s:Sys):JBC s=checkF s:=by
 unfold JBC checkF;rw[JE6]
structure U where
 name:ByteArray
 order:Int
 pre:Bool
 deriving DecidableEq
def encU (u:U):AV:=.agg [.val (.string u.name),.val (.int .i64 u.order),.val (.bool u.pre)]
def cmpS (a b:ByteArray):Int:=Lib.compareBytes a.data.toList b.data.toList
theorem JCb (a b:ByteArray):PX 289 [encS a,encS b] (encI (cmpS a b)):=by
 refine PZ Tryz.func289 rfl ?_;refine kWS ?_;intros;refine CallP.ext _ (JNY a b) ?_;refine kWS ?_;intros;exact .of rfl
theorem JFH (a b:ByteArray):PX 195 [encS a,encS b] (encI (cmpS a b)):=by
 refine PZ Tryz.func195 rfl ?_;refine kWS ?_;intros;refine CallP.flat [] _ c289 (JCb a b) rfl ?_;refine kWS ?_;intros;exact .of rfl
def fitF (u:U):Bool:=nameF u.name&&decide (0≤u.order∧u.order≤6)&&(!u.pre||decide (u.order=0))
def JEk (s s':ByteArray)(n n':Int)(p p':Bool):Int:=match decide (s=s') with
 |false=>cmpS s s'
 |true=>match decide (p=p') with
   |false=>match p' with
     |true=>-1
     |false=>1
   |true=>n-n'
def J2K (a b:U):Int:=JEk a.name b.name a.order b.order a.pre b.pre
theorem J6m (s:ByteArray)(n:Int)(p:Bool):encU ⟨s,n,p⟩=.agg [.val (.string s),.val (.int .i64 n),.val (.bool p)]:=rfl
def beforeF (a b:U):Bool:=match decide (a.name=b.name) with
 |false=>Op.bytesLess a.name.toList b.name.toList
 |true=>match decide (a.pre=b.pre) with
   |false=>b.pre
   |true=>decide (a.order<b.order)
theorem JNs (u:U)(hs:u.name.size<2^35):PX 81 [encU u] (encB (fitF u)):=by
 refine PZ Tryz.func81 rfl ?_;obtain ⟨s,n,p⟩:=u;obtain ⟨F,hF⟩:∃ F,(nameF s&&decide (0≤n∧n≤6)&&(!p||decide (n=0)))=F:=⟨_,rfl⟩;rw[show fitF ⟨s,n,p⟩=F from hF];simp only at hs;rw[J6m];refine kWO ?_;intros;refine CallP.flat [] (encB (nameF s)) c90 (J21 s (by omega)) rfl ?_;refine kWO ?_;intros;refine CondP.intro (fun h1=>?_) (fun h1=>?_)<;>refine kW ?_
 ·rw[h1,Bool.true_and] at hF;refine kO ?_;intros;refine CondP.dec (fun h2=>?_) (fun h2=>?_)<;>refine kW ?_
  ·refine kO ?_;intros;refine CondP.dec (fun h3=>?_) (fun h3=>?_)<;>refine kW ?_
   ·rw[decide_eq_true (by omega),Bool.true_and] at hF;refine kO ?_;intros;cases p
    ·refine kWO ?_;intros;exact .of (by rw[← hF];rfl)
    ·refine kWO ?_;intros;exact .of (by rw[← hF];simp;rfl)
   ·rw[decide_eq_false (by omega),Bool.false_and] at hF;refine kO ?_;intros;exact .of (by rw[← hF];rfl)
  ·rw[decide_eq_false (by omega),Bool.false_and] at hF;refine kO ?_;intros;exact .of (by rw[← hF];rfl)
 ·rw[h1,Bool.false_and,Bool.false_and] at hF;refine kO ?_;intros;exact .of (by rw[← hF];rfl)
theorem JMw (a b:U)(ha:0≤a.order∧a.order≤6)(hb:0≤b.order∧b.order≤6):PX 116 [encU a,encU b] (encI (J2K a b)):=by
 refine PZ Tryz.func116 rfl ?_;obtain ⟨s,n,p⟩:=a;obtain ⟨s',n',p'⟩:=b;obtain ⟨F,hF⟩:∃ F,JEk s s' n n' p p'=F:=⟨_,rfl⟩;rw[show J2K ⟨s,n,p⟩ ⟨s',n',p'⟩=F from hF];unfold JEk at hF;simp only at ha hb;rw[J6m,J6m];refine kWO ?_;intros;refine CondP.dec (fun h1=>?_) (fun h1=>?_)<;>refine kW ?_
 ·rw[decide_eq_true h1] at hF;cases p<;>cases p'
  all_goals (refine kW ?_)
  all_goals (refine kS ?_;intros)
  all_goals exact .of (by rw[← hF];rfl)
 ·rw[decide_eq_false h1] at hF;refine kO ?_;intros;refine CallP.flat [] (encI (cmpS s s')) c195 (JFH s s') rfl ?_;refine kWO ?_;intros;exact .of (by rw[← hF];rfl)
theorem JId (a b:U):PX 119 [encU a,encU b] (encB (beforeF a b)):=by
 refine PZ Tryz.func119 rfl ?_;obtain ⟨s,n,p⟩:=a;obtain ⟨s',n',p'⟩:=b;obtain ⟨F,hF⟩:∃ F,(match decide (s=s') with|false=>Op.bytesLess s.toList s'.toList|true=>match decide (p=p') with|false=>p'|true=>decide (n<n'))=F:=⟨_,rfl⟩;rw[show beforeF ⟨s,n,p⟩ ⟨s',n',p'⟩=F from hF];rw[J6m,J6m];refine kWO ?_;intros;refine CondP.dec (fun h1=>?_) (fun h1=>?_)<;>refine kW ?_
 ·rw[decide_eq_true h1] at hF;cases p<;>cases p'
  all_goals (refine kW ?_)
  all_goals (refine kS ?_;intros)
  all_goals exact .of (by rw[← hF];rfl)
 ·rw[decide_eq_false h1] at hF;refine kO ?_;intros;exact .of (by rw[← hF];rfl)
def useF (e:Ex):U:=⟨e.text,e.order,decide (e.op=oPre)⟩
theorem JL9 (e:Ex):PX 145 [encE e] (encU (useF e)):=by
 refine PZ Tryz.func145 rfl ?_;rw[J02];unfold useF encU;generalize e.kids=ks;generalize e.op=o;generalize e.text=tx;generalize e.order=od;refine kWS ?_;intros;exact .of rfl
def putU (A:List U)(u:U):List U:=if u∈A then A else A++[u]
def setU (A:List U):AV:=.mp (A.map encU) (A.map fun _=>encB true)
mutual
def J3Q:Ex→List U→List U
 |.mk o t n ks,A=>J3h ks (if o=oVar∨o=oPre then putU A ⟨t,n,decide (o=oPre)⟩ else A)
def J3h:List Ex→List U→List U
 |[],A=>A
 |k::ks,A=>J3h ks (J3Q k A)
end
theorem JJ3 (e:Ex)(A:List U):J3Q e A=J3h e.kids (if e.op=oVar∨e.op=oPre then putU A (useF e) else A):=by cases e;rfl
theorem J6W (u v:U):J0q T 54 (encU u) (encU v)=some (decide (u=v)):=by
 obtain ⟨a,b,c⟩:=u;obtain ⟨a',b',c'⟩:=v;show some ((a==a')&&((decide (b=b'))&&((c==c')&&true)))=_
 rw[J8Y]
 congr 1
 rw[Bool.eq_iff_iff];simp
theorem JGE (u:U):∀ A:List U,∃ r,J0y (J0q T 54 (encU u)) (A.map encU)=some r∧(match r with
  |some i=>u∈A∧(A.map fun _=>encB true).getD i .dead=encB true∧(A.map fun _=>encB true).set i (encB true)=A.map fun _=>encB true
  |none=>u ∉ A)
 |[]=>⟨none,rfl,by simp⟩
 |x :: l=>by
   obtain ⟨r,h1,h2⟩:=JGE u l;rw[List.map_cons];unfold J0y;rw[J6W]
   by_cases h:u=x
   ·rw[decide_eq_true h];exact ⟨some 0,rfl,by simp[h],rfl,rfl⟩
   ·rw[decide_eq_false h,h1];refine ⟨r.map (· + 1),rfl,?_⟩
    revert h2
    cases r with
    |none=>intro h2;simp[h];exact h2
    |some i=>
      rintro ⟨h2,h3,h4⟩;exact ⟨by simp[h2],h3,by show (_::_)=(_::_);exact congrArg _ h4⟩
theorem JMm (e:Ex):SzE e→∀ (A:List U) (p:Nat),HCall Tryz.prog 121 [encE e,.om 50 p] (hp [(50,p,⟨169,0,[setU A]⟩)]) (fun r h=>r=.tup []∧h=hp [(50,p,⟨169,0,[setU (J3Q e A)]⟩)]):=by
 induction e using J1R with
 |h e ih=>
   intro hs A p;have hU:=JL9 e;have ihk:=fun k hk=>ih k hk (hs.kid k hk);have hl:=hs.len;refine J2M (E:=E 0) J5C (JLC 0) Tryz.func121 rfl (by rfl) (Nat.le_of_ble_eq_true rfl) ?_;generalize hF:J3Q e A=F;rw[JJ3] at hF;clear ih hs;rw[J02] at hU ⊢;generalize useF e=u at hU hF;generalize e.kids=ks at *;generalize e.op=o at *;generalize e.text=tx at *;generalize e.order=od at *;have hput:(u∈A→putU A u=A)∧(u ∉ A→putU A u=A++[u]):=⟨fun h=>by unfold putU;rw[if_pos h],fun h=>by unfold putU;rw[if_neg h]⟩;obtain ⟨r2,hr2,hm2⟩:=JGE u A;have hlen:AV.val (.int .i64 ((ks.map encE).length:Nat))=encI ks.length:=by rw[List.length_map];rfl
   refine kWS ?_;intros;refine CondP.dec (fun h1=>?_) (fun h1=>?_)<;>refine kW ?_
   case' refine_2=>
    by_cases h2:o=oPre
   case' pos|refine_1=>
    rw[if_pos (by simp[*])] at hF;refine kS ?_;intros;refine J00 [] _ c145 hU ?_;refine kWS ?_;intros;refine Need.intro keyst54 ?_;refine kWS ?_;intros;refine LookP.intro r2 hr2 ?_
    rcases r2 with _|j
    case' none=>rw[hput.2 hm2] at hF
    case' some=>
     obtain ⟨m1,m2,m3⟩:=hm2;rw[hput.1 m1] at hF
    all_goals refine kW ?_
    all_goals refine kS ?_;intros
   case' neg=>
    rw[if_neg (by simp[*])] at hF;refine kS ?_;intros
   all_goals
    refine LoopP.intro (fun k σ H=>∃ i B,k=ks.length-i∧i≤ks.length∧J3h (ks.drop i) B=F∧σ=fr [(1,.om 50 p),(18,.sl 4 (ks.map encE)),(19,encI ks.length),(20,encI i)] ∧
     H=hp [(50,p,⟨169,0,[setU B]⟩)]) ?_ ?_
    case' refine_1=>
     first
      |exact .intro <| W.of ⟨_,0,_,rfl,Nat.zero_le _,hF,rfl,rfl⟩ ⟨rfl,rfl,hlen,rfl,trivial⟩ ⟨rfl,trivial⟩
      |exact .intro <| W.of ⟨_,0,_,rfl,Nat.zero_le _,hF,rfl,rfl⟩ ⟨rfl,rfl,hlen,rfl,trivial⟩ ⟨by show some (_,(⟨_,_,[.mp _ (List.set _ _ (encB true))]⟩:Blk))=_;rw[m3];rfl,trivial⟩
      |exact .intro <| W.of ⟨_,0,_,rfl,Nat.zero_le _,hF,rfl,rfl⟩ ⟨rfl,rfl,hlen,rfl,trivial⟩ ⟨by unfold setU;rw[List.map_append,List.map_append];rfl,trivial⟩
    case' refine_2=>
     clear hF;rintro k σ H ⟨i,B,rfl,hi,hF,rfl,rfl⟩
     rcases Nat.lt_or_ge i ks.length with h9|h9
     ·rw[List.drop_eq_getElem_cons h9] at hF;have hk:=ihk _ (List.getElem_mem h9) B p;obtain ⟨k,hkk⟩:∃ k,ks[i]=k:=⟨_,rfl⟩;rw[hkk] at hF hk;unfold J3h at hF;rw[J02] at hk;refine kWQ ?_;intros;simp only[hkk,J02];refine kQ ?_;intros;refine CallP.frame 1000000 [(50,50)] rfl c121 hk rfl ⟨rfl,trivial⟩ ?_;rintro r0 h' ⟨rfl,rfl⟩;refine ⟨[(50,p,⟨169,0,[setU (J3Q k B)]⟩)],⟨rfl,trivial⟩,?_⟩;refine kWQ ?_;intros
      exact .intro <| W.of ⟨_,by omega,i+1,_,rfl,h9,hF,rfl,rfl⟩ ⟨rfl,rfl,rfl,rfl,trivial⟩ ⟨rfl,trivial⟩
     ·rw[List.drop_eq_nil_of_le h9] at hF;refine kWQ ?_;intros;refine EndH.of (m:=[(50,p,⟨169,0,[setU B]⟩)]) ⟨rfl,trivial⟩ ⟨rfl,?_⟩;rw[← hF];rfl
inductive Vl where
 |num (q:Rat)
 |tr (b:Bool)
 deriving DecidableEq
def J0I:Vl→AV
 |.num q=>J17 (encF q) false false
 |.tr b=>J17 nilQ b true
def Vl.sz:Vl→Nat
 |.num q=>szq q
 |.tr _=>0
def Vl.type:Vl→Int
 |.num _=>0
 |.tr _=>1
def shortV:Vl→Bool
 |.num q=>decide (nd q.num≤300)&&decide (nd q.den≤300)
 |.tr _=>true
theorem JIK (v:Vl)(h:v.sz<2^36):PX 101 [J0I v] (encB (shortV v)):=by
 refine PZ Tryz.func101 rfl ?_
 rcases v with q|b
 ·have a1:=J15 q;have a2:=J1E q;have h:szq q<2^36:=h;have h1:=JBS q.num q.den (by omega) (by omega);unfold shortV J0I J17 encF encQ at *;refine kWS ?_;intros;refine CallP.flat [] _ c151 h1 rfl ?_;refine kWS ?_;intros;exact .of rfl
 ·unfold J0I J17;refine kWS ?_;intros;exact .of rfl
def strV:Vl→ByteArray
 |.num q=>ofL ((qT q.num q.den).map UInt8.ofNat)
 |.tr b=>if b then sTrue else sFalse
theorem JFB (v:Vl)(h:v.sz<2^36):PX 102 [J0I v] (encS (strV v)):=by
 refine PZ Tryz.func102 rfl ?_
 rcases v with q|b
 ·have a1:=J15 q;have a2:=J1E q;have h:szq q<2^36:=h;have h1:=J8b q.num q.den (by omega) (by omega);unfold J0I J17 encF encQ strV at *;refine kWS ?_;intros;refine CallP.flat [] _ c150 h1 rfl ?_;refine kWS ?_;intros;exact .of rfl
 ·unfold J0I J17;cases b
  all_goals
   refine kWS ?_;intros;exact .of rfl
def sameV:Vl→Vl→Bool
 |.num p,.num q=>decide (p=q)
 |.tr a,.tr b=>decide (a=b)
 |_,_=>false
theorem JCy (p q:Rat):sgn (p-q).num=0↔p=q:=by
 have:sgn (p-q).num=0↔(p-q).num=0:=by
  unfold sgn;split
  ·simp[*]
  ·split<;>omega
 rw[this,Rat.num_eq_zero];constructor
 ·intro h;grind
 ·intro h;grind
theorem JDr (v w:Vl)(ht:v.type=w.type)(h:v.sz+w.sz+1<2^36):PX 279 [J0I v,J0I w] (encB (sameV v w)):=by
 refine PZ Tryz.func279 rfl ?_
 rcases v with q|b<;>rcases w with p|c
 ·have h1:=JIa q p h;rw[show encI (sgn (q-p).num)=AV.val (.int .i64 (sgn (q-p).num)) from rfl] at h1;have h2:=JCy q p;unfold sameV J0I J17 encF encQ at *;refine kWS ?_;intros;refine CallP.flat [] _ c330 h1 rfl ?_;refine kWS ?_;intros;refine .of ?_;show AV.val (.bool (decide _))=AV.val (.bool (decide _))
  congr 2
  exact decide_eq_decide.2 h2
 ·cases ht
 ·cases ht
 ·unfold J0I J17;refine kWS ?_;intros;cases b<;>cases c
  all_goals
   refine kS ?_;intros;exact .of rfl
def J4v (l:List Vl):AV:=.sl 6 (l.map J0I)
theorem J2B (q:Rat):PX 189 [encF q] (J0I (.num q)):=JBW (encF q) (.inr ⟨_,_,rfl⟩)
def J1t:Except Int Vl→AV
 |.ok v=>.tup [J0I v,encI 0]
 |.error c=>.tup [J17 nilQ false false,encI c]
structure Ev where
 time:Rat
 init:Bool
 vals:List (U×Vl)
def JNd (e:Ev):AV:=.agg [encB (decide (e.time.num<0)),encW e.time.num.natAbs,encB (decide ((e.time.den:Int)<0)),encW (e.time.den:Int).natAbs,encB e.init,.mp (e.vals.map fun x=>encU x.1) (e.vals.map fun x=>J0I x.2)]
def J1C (e:Ev):AV:=.ep (JNd e) 0
section
variable (x:AV) (l:List Vl) (a b:Vl) (p q:Rat) (c d:Bool) (e:Ev)
theorem J9w:PX 265 [x,J4v l,.ep (J0I a) 0] (J1t (.ok a)):=by
 refine PZ Tryz.func265 rfl ?_
 rcases a with q|b
 all_goals
  unfold J0I J17;refine kWS ?_;intros;exact .of rfl
theorem JIu:PX 266 [J1C e,J4v l] (J1t (.ok (.num e.time))):=by
 refine PZ Tryz.func266 rfl ?_;have h:=J2B e.time;refine kWS ?_;intros;refine J00 [] _ c189 h ?_;refine kWS ?_;intros;exact .of rfl
theorem JIx:PX 267 [J1C e,J4v l] (J1t (.ok (.tr e.init))):=by
 refine PZ Tryz.func267 rfl ?_;have h:=J1v e.init;refine kWS ?_;intros;refine J00 [] _ c194 h ?_;refine kWS ?_;intros;exact .of rfl
theorem JE4 (h:szq e.time+szq p+szq q+1<2^36)(h0:q≠0):PX 268 [J1C e,J4v [.num p,.num q]] (J1t (.ok (.tr (multF (e.time-p) q)))):=by
 refine PZ Tryz.func268 rfl ?_;have hs:=JFz e.time p;have h1:=JCZ e.time p (by omega);have h2:=JBX (e.time-p) q (by omega) h0;have h3:=J1v (multF (e.time-p) q);generalize multF (e.time-p) q=r at *;generalize e.time-p=s at *;unfold encF encQ at h1 h2;refine kWS ?_;intros;refine CallG.intro _ c80 h1 ?_;refine kWS ?_;intros;refine CallG.intro _ c269 h2 ?_;refine kWS ?_;intros;refine CallG.intro _ c194 h3 ?_;refine kWS ?_;intros;exact .of rfl
theorem JLS (h:szq p<2^36):PX 270 [x,J4v [.num p]] (J1t (.ok (.num (-p)))):=by
 refine PZ Tryz.func270 rfl ?_;have h1:=JIP p h;have h2:=J2B (-p);generalize -p=r at *;unfold encF encQ at h1 h2;refine kWS ?_;intros;refine J00 [] _ c146 h1 ?_;refine kWS ?_;intros;refine J00 [] _ c189 h2 ?_;refine kWS ?_;intros;exact .of rfl
theorem J4a (k:Nat)(r:Rat)(hk:J05 Tryz.prog k)(h1:PX k [encF p,encF q] (encF r)):PX 328 [x,J4v [.num p,.num q],.ep (.fn (.func k) [] []) 0] (J1t (.ok (.num r))):=by
 refine PZ Tryz.func328 rfl ?_;have h2:=J2B r;unfold encF encQ at h1 h2;refine kWS ?_;intros;refine CallG.intro _ hk h1 ?_;refine kWS ?_;intros;refine CallG.intro _ c189 h2 ?_;refine kWS ?_;intros;exact .of rfl
def divV (p q:Rat):Except Int Vl:=if q=0 then .error 12 else .ok (.num (p/q))
theorem sgn0 (z:Int):sgn z=0↔z=0:=by
 unfold sgn;split
 ·simp[*]
 ·split<;>omega
theorem JLT (h:szq p+szq q<2^36):PX 272 [x,J4v [.num p,.num q]] (J1t (divV p q)):=by
 refine PZ Tryz.func272 rfl ?_;have hs:=J5k q.num q.den;generalize hF:divV p q=F;unfold divV at hF
 by_cases h0:q=0
 ·rw[if_pos h0] at hF;have e0:sgn q.num=0:=(sgn0 _).2 (Rat.num_eq_zero.2 h0);rw[e0] at hs;unfold encQ at hs;refine kWS ?_;intros;refine CallP.flat [] _ c111 hs rfl ?_;refine kWS ?_;intros;exact .of (by rw[← hF];rfl)
 ·rw[if_neg h0] at hF;have e0:¬ sgn q.num=0:=mt (sgn0 _).1 (JGf h0);have h1:=JIZ p q h h0;have h2:=J2B (p/q);generalize p/q=r at *;unfold encF encQ at *;refine kWS ?_;intros;refine CallP.flat [] _ c111 hs rfl ?_;refine kWS ?_;intros;refine CallG.intro _ c149 h1 ?_;refine kWS ?_;intros;refine CallG.intro _ c189 h2 ?_;refine kWS ?_;intros;exact .of (by rw[← hF];rfl)
theorem JIz (k:Nat)(f:Int→Bool)(hk:J05 Tryz.prog k)(h1:∀ i:Int,PX k [encI i] (encB (f i)))(h:szq p+szq q+1<2^36) :
  PX 329 [x,J4v [.num p,.num q],.ep (.fn (.func k) [] []) 0] (J1t (.ok (.tr (f (sgn (p-q).num))))):=by
 refine PZ Tryz.func329 rfl ?_;have h0:=JIa p q h;generalize sgn (p-q).num=i at *;have h1:=h1 i;have h2:=J1v (f i);unfold encF encQ at h0;refine kWS ?_;intros;refine CallG.intro _ c330 h0 ?_;refine kWS ?_;intros;refine CallG.intro _ hk h1 ?_;refine kWS ?_;intros;refine CallG.intro _ c194 h2 ?_;refine kWS ?_;intros;exact .of rfl
theorem JIw (i:Int):PX 274 [encI i] (encB (decide (i<0))):=by
 refine PZ Tryz.func274 rfl ?_;refine kWS ?_;intros;exact .of rfl
theorem JE5 (i:Int):PX 275 [encI i] (encB (decide (i≤0))):=by
 refine PZ Tryz.func275 rfl ?_;refine kWS ?_;intros;exact .of rfl
theorem JIv (i:Int):PX 276 [encI i] (encB (decide (i>0))):=by
 refine PZ Tryz.func276 rfl ?_;refine kWS ?_;intros;exact .of rfl
theorem JBn (i:Int):PX 277 [encI i] (encB (decide (i≥0))):=by
 refine PZ Tryz.func277 rfl ?_;refine kWS ?_;intros;exact .of rfl
theorem JFk (ht:a.type=b.type)(h:a.sz+b.sz+1<2^36):PX 278 [x,J4v [a,b]] (J1t (.ok (.tr (sameV a b)))):=by
 refine PZ Tryz.func278 rfl ?_;have h1:=JDr a b ht h;have h2:=J1v (sameV a b);generalize sameV a b=r at *
 rcases a with p|c<;>rcases b with q|d
 all_goals
  unfold J0I J17 encF encQ at h1;refine kWS ?_;intros;refine CallG.intro _ c279 h1 ?_;refine kWS ?_;intros;refine CallG.intro _ c194 h2 ?_;refine kWS ?_;intros;exact .of rfl
theorem JBm (ht:a.type=b.type)(h:a.sz+b.sz+1<2^36):PX 280 [x,J4v [a,b]] (J1t (.ok (.tr (!sameV a b)))):=by
 refine PZ Tryz.func280 rfl ?_;have h1:=JDr a b ht h;have h2:=J1v (!sameV a b);generalize sameV a b=r at *
 rcases a with p|c<;>rcases b with q|d
 all_goals
  unfold J0I J17 encF encQ at h1;refine kWS ?_;intros;refine CallG.intro _ c279 h1 ?_;refine kWS ?_;intros;refine CallG.intro _ c194 h2 ?_;refine kWS ?_;intros;exact .of rfl
theorem JLR:PX 281 [x,J4v [.tr c]] (J1t (.ok (.tr (!c)))):=by
 refine PZ Tryz.func281 rfl ?_;have h2:=J1v (!c);refine kWS ?_;intros;refine J00 [] _ c194 h2 ?_;refine kWS ?_;intros;exact .of rfl
end
def fnA (k:Nat):AV:=.fn (.func k) [] []
def fnC (k:Nat)(x:AV):AV:=.fn (.func k) [] [.ep x 0]
def wayT:List (ByteArray×AV):=[
 (⟨#[116,114,117,101]⟩,fnC 265 (J0I (.tr true))),(⟨#[102,97,108,115,101]⟩,fnC 265 (J0I (.tr false))),(⟨#[116,105,109,101]⟩,fnA 266),
 (⟨#[105,110,105,116,105,97,108]⟩,fnA 267),(⟨#[115,97,109,112,108,101]⟩,fnA 268),(⟨#[110,101,103]⟩,fnA 270),
 (⟨#[97,100,100]⟩,fnC 328 (fnA 79)),(⟨#[115,117,98]⟩,fnC 328 (fnA 80)),(⟨#[109,117,108]⟩,fnC 328 (fnA 186)),(⟨#[100,105,118]⟩,fnA 272),
 (⟨#[108,101,115,115]⟩,fnC 329 (fnA 274)),(⟨#[97,116,109,111,115,116]⟩,fnC 329 (fnA 275)),(⟨#[109,111,114,101]⟩,fnC 329 (fnA 276)),(⟨#[97,116,108,101,97,115,116]⟩,fnC 329 (fnA 277)),
 (⟨#[101,113,117,97,108]⟩,fnA 278),(⟨#[117,110,101,113,117,97,108]⟩,fnA 280),(⟨#[110,111,116]⟩,fnA 281)]
def wayM:AV:=.mp (wayT.map fun x=>encS x.1) (wayT.map fun x=>x.2)
theorem JBw {S:List Nat}{H:Hp}{n b g k e m:Nat}{f:Fn}{y:AV}(hS:b∈S)(hb:H b=some (g,⟨e,m,[y]⟩)):J07 S H (n+2) (.fn f [] [.op b g 0 k])=.fn f [] [.ep (J0Z (J07 S H n) y) k]:=by
 simp only[J07,List.map_nil,List.map_cons,if_pos hS,hb,true_and];rfl
theorem JIr (v:Vl):PX 264 [J0I v] (fnC 265 (J0I v)):=by
 refine PC [1] Tryz.func264 rfl (by rfl) rfl ?_
 rcases v with q|b
 all_goals
  unfold J0I J17
  try unfold encF encQ
  refine kWS ?_;intros;refine .of ?_;show J07 [1] _ 3 (.fn _ [] [.op 1 _ 0 0])=_
  rw[JBw (b:=1) (by simp) rfl];rfl
theorem JGe (k:Nat):PX 271 [fnA k] (fnC 328 (fnA k)):=by
 refine PC [1] Tryz.func271 rfl (by rfl) rfl ?_;unfold fnA;refine kWS ?_;intros;refine .of ?_;show J07 [1] _ 3 (.fn _ [] [.op 1 _ 0 0])=_
 rw[JBw (b:=1) (by simp) rfl];rfl
theorem JCS (k:Nat):PX 273 [fnA k] (fnC 329 (fnA k)):=by
 refine PC [1] Tryz.func273 rfl (by rfl) rfl ?_;unfold fnA;refine kWS ?_;intros;refine .of ?_;show J07 [1] _ 3 (.fn _ [] [.op 1 _ 0 0])=_
 rw[JBw (b:=1) (by simp) rfl];rfl
theorem JLO:PX 187 [] wayM:=by
 refine PC [2] Tryz.func187 rfl (by rfl) rfl ?_;refine kWS ?_;intros
 repeat ((first
  |refine J00 [] _ c194 (J1v _) ?_
  |refine J00 [] _ c264 (JIr (.tr _)) ?_
  |refine J00 [] _ c271 (JGe _) ?_
  |refine J00 [] _ c273 (JCS _) ?_
  |refine Need.intro keyst9 ?_
  |refine LookP.intro none (by rfl) ?_);refine kW ?_;refine kS ?_;intros)
 exact .of rfl
def J5B {β:Type}(l:List (U×β))(u:U):Option β:=match l with
 |[]=>none
 |x::r=>if u=x.1 then some x.2 else J5B r u
theorem JDH {β:Type}(f:β→AV)(u:U):∀ l:List (U×β),∃ r,J0y (J0q T 54 (encU u)) (l.map fun x=>encU x.1)=some r∧match r,J5B l u with
  |none,none=>True
  |some i,some b=>(l.map fun x=>f x.2).getD i .dead=f b
  |_,_=>False
 |[]=>⟨none,rfl,trivial⟩
 |x :: l=>by
   obtain ⟨r,h1,h2⟩:=JDH f u l;rw[List.map_cons];unfold J0y J5B;rw[J6W]
   by_cases h:u=x.1
   ·rw[decide_eq_true h,if_pos h];exact ⟨some 0,rfl,rfl⟩
   ·rw[decide_eq_false h,if_neg h,h1];refine ⟨r.map (· + 1),rfl,?_⟩
    revert h2
    cases r<;>cases J5B l u<;>intro h2<;>first|trivial|exact h2
def JE9 (ks:List (ByteArray×Va))(n:ByteArray):Int:=match J0u ks n with
 |some v=>v.type
 |none=>0
def J2t (ks:List (ByteArray×Va))(ev:Ev)(u:U):Except Int Vl:=match J5B ev.vals u with
 |none=>.error 5
 |some v=>if v.type≠JE9 ks u.name then .error 7 else .ok v
theorem JIF (v:Vl):PX 282 [J0I v] (encI v.type):=by
 cases v with
 |num q=>exact J5j (encF q) false false (.inr ⟨_,_,rfl⟩)
 |tr b=>exact J5j nilQ b true (.inl rfl)
theorem JKi (ks:List (ByteArray×Va))(ev:Ev)(u:U):PX 190 [encK ks,J1C ev,encU u] (J1t (J2t ks ev u)):=by
 refine PZ Tryz.func190 rfl ?_;generalize hF:J2t ks ev u=F;unfold J2t at hF;obtain ⟨r,hr,hm⟩:=JDH J0I u ev.vals;refine kWS ?_;intros;refine Need.intro keyst54 ?_;refine kW ?_;refine LookP.intro r hr ?_
 cases ha:J5B ev.vals u with
 |none=>
   rw[ha] at hm hF
   cases r with
   |some i=>exact hm.elim
   |none=>
     refine kWS ?_;intros;exact .of (by rw[← hF];rfl)
 |some v=>
   rw[ha] at hm hF
   cases r with
   |none=>exact hm.elim
   |some i=>
     have hm:(ev.vals.map fun x=>J0I x.2).getD i .dead=J0I v:=hm;have hT:=JIF v;obtain ⟨r2,hr2,hm2⟩:=J1n encV u.name ks;replace hF:(if v.type≠JE9 ks u.name then (.error 7:Except Int Vl) else .ok v)=F:=hF;unfold JE9 at hF
     rcases v with q|b
     all_goals
      unfold J0I J17 at hT
      try unfold encF encQ at hT
      refine kW ?_;rw[hm];refine kWS ?_;intros;refine CallG.intro _ c282 hT ?_;refine kWS ?_;intros;refine Need.intro keyst9 ?_;refine kW ?_;refine LookP.intro r2 hr2 ?_
      cases ha2:J0u ks u.name with
      |none=>
        rw[ha2] at hm2 hF
        cases r2 with
        |some i=>exact hm2.elim
        |none=>
          refine kWS ?_;intros;exact .of (by rw[← hF];rfl)
      |some w=>
        rw[ha2] at hm2 hF
        cases r2 with
        |none=>exact hm2.elim
        |some i=>
          have hm2:(ks.map fun x=>encV x.2).getD i .dead=encV w:=hm2;refine kW ?_;rw[hm2];refine kWS ?_;intros;refine CondP.dec (fun c0=>?_) (fun c0=>?_)<;>refine kW ?_
          ·rw[if_neg (fun h=>h c0)] at hF;refine kS ?_;intros;exact .of (by rw[← hF];rfl)
          ·rw[if_pos c0] at hF;refine kS ?_;intros;exact .of (by rw[← hF];rfl)
def J2V (o:ByteArray)(t:Bool):Option Nat:=if o=oIf then (if t then some 1 else some 2) else if decide (o=oAnd)=t then some 1 else none
def nilE:AV:=.agg [encS ⟨#[]⟩,encS ⟨#[]⟩,encI 0,.val (.slice none 0 0)]
theorem JMu (x:Ex)(t:Bool)(hk:∀ i,J2V x.op t=some i→i<x.kids.length):PX 147 [encE x,encB t] (match J2V x.op t with
  |some i=>.tup [(x.kids.map encE).getD i .dead,encB true]
  |none=>.tup [nilE,encB false]):=by
 refine PZ Tryz.func147 rfl ?_;rw[J02];generalize x.op=o at *;generalize x.kids=es at *;unfold J2V at *
 have key:∀ i,i<es.length→∃ k:Ex,(es.map encE).getD i .dead=.agg [encS k.op,encS k.text,encI k.order,.sl 4 (k.kids.map encE)]:=by
  intro i hi;have h:(es.map encE).getD i .dead=encE es[i]:=by rw[List.getD_eq_getElem?_getD,List.getElem?_map,List.getElem?_eq_getElem hi];rfl
  exact ⟨_,h.trans (J02 _)⟩
 refine kWS ?_;intros;refine CondP.dec (fun h1=>?_) (fun h1=>?_)<;>refine kW ?_
 ·rw[if_pos h1] at hk ⊢;cases t
  ·rw[if_neg (by decide)] at hk ⊢;have hk:=hk 2 rfl;obtain ⟨k,hg⟩:=key 2 hk;refine kS ?_;intros;rw[show (es.map encE).getD (Int.toNat 2) .dead=.agg [encS k.op,encS k.text,encI k.order,.sl 4 (k.kids.map encE)] from hg];refine kWS ?_;intros;exact .of (congrArg (fun z=>AV.tup [z,encB true]) hg.symm)
  ·rw[if_pos rfl] at hk ⊢;have hk:=hk 1 rfl;obtain ⟨k,hg⟩:=key 1 hk;refine kS ?_;intros;rw[show (es.map encE).getD (Int.toNat 1) .dead=.agg [encS k.op,encS k.text,encI k.order,.sl 4 (k.kids.map encE)] from hg];refine kWS ?_;intros;exact .of (congrArg (fun z=>AV.tup [z,encB true]) hg.symm)
 ·rw[if_neg h1] at hk ⊢;refine kS ?_;intros
  by_cases h2:o=oAnd
  ·rw[decide_eq_true h2] at hk ⊢;cases t
   ·rw[if_neg (by decide)] at hk ⊢;refine J9r rfl ?_;refine kWS ?_;intros;exact .of rfl
   ·rw[if_pos rfl] at hk ⊢;have hk:=hk 1 rfl;obtain ⟨k,hg⟩:=key 1 hk;refine J9q rfl ?_;refine kWS ?_;intros;rw[show (es.map encE).getD (Int.toNat 1) .dead=.agg [encS k.op,encS k.text,encI k.order,.sl 4 (k.kids.map encE)] from hg];refine kWS ?_;intros;exact .of (congrArg (fun z=>AV.tup [z,encB true]) hg.symm)
  ·rw[decide_eq_false h2] at hk ⊢;cases t
   ·rw[if_pos rfl] at hk ⊢;have hk:=hk 1 rfl;obtain ⟨k,hg⟩:=key 1 hk;refine J9q rfl ?_;refine kWS ?_;intros;rw[show (es.map encE).getD (Int.toNat 1) .dead=.agg [encS k.op,encS k.text,encI k.order,.sl 4 (k.kids.map encE)] from hg];refine kWS ?_;intros;exact .of (congrArg (fun z=>AV.tup [z,encB true]) hg.symm)
   ·rw[if_neg (by decide)] at hk ⊢;refine J9r rfl ?_;refine kWS ?_;intros;exact .of rfl
end Go.Proofs.YtlblbldolhiokaaGreatDoor
