/- Part 51 of the proof: abstract values and their rules; walks of the functions; plain lemmas. -/
import Derived.Test.YtlhdoekgipaihaaGreatDoorMg50
set_option linter.unusedVariables false
set_option linter.unusedSimpArgs false
set_option linter.unusedSectionVars false
set_option maxRecDepth 100000
set_option exponentiation.threshold 400
namespace Go.Proofs.YtlhdoekgipaihaaGreatDoor
open Go Go.Fw
theorem bytes_back {l:List Nat} (h:l.all isDg=true):(l.map UInt8.ofNat).map UInt8.toNat=l:=by
 rw[List.map_map]
 refine (List.map_congr_left fun c hc=>?_).trans (List.map_id l)
 have:=List.all_eq_true.1 h c hc
 unfold isDg at this
 simp at this
 simp;omega
theorem isD_dg (n:Nat):isD n=isDg n:=by
 rw[Bool.eq_iff_iff,isD_iff]
 unfold isDg
 rw[decide_eq_true_iff]
theorem isDs_map (l:List UInt8):isDs l=(l.map UInt8.toNat).all isDg:=by
 unfold isDs
 rw[List.all_map]
 congr 1
 funext c
 exact isD_dg _
theorem decU_decT (n:Nat):decU ((decT n).map UInt8.ofNat)=n:=by
 unfold decU
 rw[bytes_back (decT_dg n),decB_decT]
theorem toNat_bytes (l:List UInt8):(l.map UInt8.toNat).map UInt8.ofNat=l:=by
 rw[List.map_map]
 refine (List.map_congr_left fun c hc=>?_).trans (List.map_id l)
 simp
theorem digB_canon (l:List UInt8):digB l=(canon (l.map UInt8.toNat)&&decide (l.length≤300)):=by
 unfold digB canon
 rw[isDs_map,List.length_map]
 cases l with
 | nil=>rfl
 | cons c r=>
   have e:decide ((c::r).headD 0=48)=decide (((c::r).map UInt8.toNat).getD 0 0=48):=decide_eq_decide.2 (by
    simp only[List.headD_cons,List.map_cons,List.getD_cons_zero]
    constructor
    ·rintro rfl;rfl
    ·intro h;exact UInt8.toNat.inj (by rw[h];rfl))
   rw[e]
   generalize ((c::r).map UInt8.toNat).getD 0 0=x
   generalize ((c::r).map UInt8.toNat).all isDg=b
   generalize (c::r).length=n
   rw[Bool.eq_iff_iff]
   simp only[Bool.and_eq_true,Bool.or_eq_true,Bool.not_eq_true',Bool.and_eq_false_iff,decide_eq_true_eq,decide_eq_false_iff_not,ne_eq]
   constructor
   ·rintro ⟨⟨⟨h1,h2⟩,h3⟩,h4⟩
    exact ⟨⟨⟨h1,by omega⟩,h4⟩,h2⟩
   ·rintro ⟨⟨⟨h1,h2⟩,h3⟩,h4⟩
    exact ⟨⟨⟨h1,h4⟩,by omega⟩,h3⟩
theorem digB_decT {n:Nat} (h:(decT n).length≤300):digB ((decT n).map UInt8.ofNat)=true:=by
 rw[digB_canon,bytes_back (decT_dg n),decT_canon,List.length_map,decide_eq_true h];rfl
theorem digB_text {l:List UInt8} (h:digB l=true):l=(decT (decU l)).map UInt8.ofNat∧(decT (decU l)).length≤300:=by
 rw[digB_canon,Bool.and_eq_true] at h
 have e:=decT_decB h.1
 have h2:=of_decide_eq_true h.2
 unfold decU
 rw[e]
 exact ⟨(toNat_bytes l).symm,by rw[List.length_map];exact h2⟩
theorem pairB_none {a:List UInt8} (h:∀ c∈a,c≠47):pairB a=(a,[],false):=by
 induction a with
 | nil=>rfl
 | cons c r ih=>rw[pairB,if_neg (h c (by simp)),ih (fun x hx=>h x (by simp[hx]))]
theorem pairB_some {a:List UInt8} (h:∀ c∈a,c≠47) (b:List UInt8):pairB (a++47::b)=(a,b,true):=by
 induction a with
 | nil=>rw[List.nil_append,pairB,if_pos rfl]
 | cons c r ih=>rw[List.cons_append,pairB,if_neg (h c (by simp)),ih (fun x hx=>h x (by simp[hx]))]
theorem dg_ne {l:List Nat} (h:l.all isDg=true) (x:UInt8) (hx:¬ (48≤x.toNat∧x.toNat≤57)):∀ c∈l.map UInt8.ofNat,c≠x:=by
 intro c hc e
 obtain ⟨d,hd,rfl⟩:=List.mem_map.1 hc
 have:=List.all_eq_true.1 h d hd
 unfold isDg at this
 simp at this
 subst e
 apply hx
 have e2:(UInt8.ofNat d).toNat=d:=by simp;omega
 rw[e2];exact this
theorem decT1:(decT 1).length≤300:=by
 rw[decT_len,if_neg (by decide),dg_one (by decide) (by decide) (by decide)];decide
def okR (x:Int×Nat):Prop:=0<x.2∧Nat.gcd x.1.natAbs x.2=1∧(decT x.1.natAbs).length≤300∧(decT x.2).length≤300
theorem sT_abs (n:Int):sT n=if n<0 then 45::decT n.natAbs else decT n.natAbs:=rfl
theorem readB_text {m:Bool} {t:List UInt8} {x:Int×Nat} (h:readB m t=some x):okR x∧(x.1<0↔m=true)∧t=(decT x.1.natAbs++if x.2=1 then [] else 47::decT x.2).map UInt8.ofNat:=by
 obtain ⟨p1,p2,p3,p4,p5⟩:=pairB_spec t
 unfold readB at h
 cases hd:digB (pairB t).1 with
 | false=>rw[hd,if_pos rfl] at h;cases h
 | true=>
   obtain ⟨t1,t2⟩:=digB_text hd
   rw[hd,if_neg (by decide)] at h
   generalize hn:decU (pairB t).1=n at *
   have sgnz:∀ hz:¬ (m=true∧n=0),((if m then -(n:Int) else n)<0↔m=true)∧(if m then -(n:Int) else (n:Int)).natAbs=n:=by
    intro hz
    cases m with
    | true=>have:n≠0:=fun e=>hz ⟨rfl,e⟩;rw[if_pos rfl];exact ⟨by simp;omega,by omega⟩
    | false=>rw[if_neg (by decide)];exact ⟨by simp,by omega⟩
   by_cases hb:(pairB t).2.2=true
   ·have hlt:(pairB t).1.length<t.length:=by
     rcases Nat.lt_or_ge (pairB t).1.length t.length with h' | h'
     ·exact h'
     ·rw[p5 h'] at hb;cases hb
    obtain ⟨_,q2,q3⟩:=p4 hlt
    have ht:t=(pairB t).1++47::(pairB t).2.1:=by
     conv=>lhs;rw[← List.take_append_drop (pairB t).1.length t]
     rw[← p2,List.drop_eq_getElem_cons hlt,q3,← q2]
    rw[if_pos hb] at h
    cases hd2:digB (pairB t).2.1 with
    | false=>rw[hd2,if_pos rfl] at h;cases h
    | true=>
      obtain ⟨u1,u2⟩:=digB_text hd2
      rw[hd2,if_neg (by decide)] at h
      generalize hdd:decU (pairB t).2.1=d at *
      split at h
      ·cases h
      ·rename_i hg
       split at h
       ·cases h
       ·rename_i hz
        cases h
        obtain ⟨s1,s2⟩:=sgnz hz
        have hg1:¬ d≤1:=fun e=>hg (.inl e)
        have hg2:Nat.gcd n d=1:=Decidable.byContradiction fun e=>hg (.inr e)
        refine ⟨⟨by simp only;omega,by simp only;rw[s2];exact hg2,by simp only;rw[s2];exact t2,u2⟩,s1,?_⟩
        simp only
        rw[s2,if_neg (by omega),List.map_append,List.map_cons,← t1,← u1]
        exact ht
   ·have hge:t.length≤(pairB t).1.length:=by
     rcases Nat.lt_or_ge (pairB t).1.length t.length with h' | h'
     ·exact absurd (p4 h').1 hb
     ·exact h'
    have ht:t=(pairB t).1:=by
     conv=>rhs;rw[p2]
     rw[List.take_of_length_le hge]
    rw[if_neg hb] at h
    split at h
    ·cases h
    ·rename_i hz
     cases h
     obtain ⟨s1,s2⟩:=sgnz hz
     refine ⟨⟨Nat.one_pos,by simp,by simp only;rw[s2];exact t2,decT1⟩,s1,?_⟩
     simp only
     rw[s2,if_pos trivial,List.append_nil,← t1]
     exact ht
theorem rT_eq (n:Int) (d:Nat):rT n d=if n<0 then 45::(decT n.natAbs++if d=1 then [] else 47::decT d) else decT n.natAbs++if d=1 then [] else 47::decT d:=by
 unfold rT
 rw[sT_abs]
 split<;>split<;>simp
theorem readR_text {l:List UInt8} {x:Int×Nat} (h:readR l=some x):okR x∧l=(rT x.1 x.2).map UInt8.ofNat:=by
 unfold readR at h
 split at h
 ·rename_i t
  obtain ⟨h1,h2,h3⟩:=readB_text h
  refine ⟨h1,?_⟩
  rw[rT_eq,if_pos (h2.2 rfl),List.map_cons,← h3];rfl
 ·obtain ⟨h1,h2,h3⟩:=readB_text h
  refine ⟨h1,?_⟩
  rw[rT_eq,if_neg (fun e=>by have:=h2.1 e;cases this),← h3]
theorem readB_rT (n:Int) (d:Nat) (h:okR (n,d)):readB (decide (n<0)) ((decT n.natAbs++if d=1 then [] else 47::decT d).map UInt8.ofNat)=some (n,d):=by
 obtain ⟨h1,h2,h3,h4⟩:=h
 simp only at *
 have hz:¬ (decide (n<0)=true∧n.natAbs=0):=fun e=>by have:=of_decide_eq_true e.1;omega
 have hs:(if decide (n<0)=true then -((n.natAbs:Nat):Int) else (n.natAbs:Nat))=n:=by
  by_cases h:n<0
  ·rw[if_pos (decide_eq_true h)];omega
  ·rw[if_neg (by simpa using h)];omega
 have h47:=dg_ne (decT_dg n.natAbs) 47 (by decide)
 unfold readB
 by_cases hd:d=1
 ·rw[if_pos hd,List.append_nil,pairB_none h47]
  simp only
  rw[digB_decT h3,if_neg (by decide),if_neg (by decide),decU_decT,if_neg hz,hs,hd]
 ·rw[if_neg hd,List.map_append,List.map_cons,show UInt8.ofNat 47=47 from rfl,pairB_some h47]
  simp only
  rw[digB_decT h3,if_neg (by decide),if_pos trivial,digB_decT h4,if_neg (by decide),decU_decT,decU_decT,if_neg (by rintro (h | h);omega;exact h h2),if_neg hz,hs]
theorem readR_rT (n:Int) (d:Nat) (h:okR (n,d)):readR ((rT n d).map UInt8.ofNat)=some (n,d):=by
 have hb:=readB_rT n d h
 rw[rT_eq]
 by_cases hn:n<0
 ·rw[if_pos hn,List.map_cons]
  rw[decide_eq_true hn] at hb
  exact hb
 ·rw[if_neg hn]
  rw[decide_eq_false hn] at hb
  have hc:=decT_canon n.natAbs
  have hdg:=decT_dg n.natAbs
  generalize hT:decT n.natAbs=T at *
  cases T with
  | nil=>simp[canon] at hc
  | cons c r=>
    rw[List.all_cons,Bool.and_eq_true] at hdg
    have hcd:=hdg.1
    unfold isDg at hcd
    simp at hcd
    rw[List.cons_append,List.map_cons] at hb ⊢
    unfold readR
    split
    ·rename_i t heq
     have:=congrArg (fun l:List UInt8=>(l.headD 0).toNat) heq
     simp at this
     omega
    ·exact hb
theorem okR_len {x:Int×Nat} (h:okR x):l4 x.1.natAbs≤300∧l4 x.2≤300:=by
 have key:∀ n:Nat,(decT n).length≤300→l4 n≤300:=fun n h=>by
  unfold l4
  refine dg_len_le hB4 (Nat.lt_of_lt_of_le (decT_lt n) (Nat.le_trans (Nat.pow_le_pow_right (by omega) h) ?_))
  exact Nat.pow_le_pow_left (by decide) _
 exact ⟨key _ h.2.2.1,key _ h.2.2.2⟩
theorem okR_abs {n:Int} {d:Nat} (h:okR (n,d)):okR ((n.natAbs:Int),d):=by
 obtain ⟨h1,h2,h3,h4⟩:=h
 exact ⟨h1,by simpa using h2,by simpa using h3,h4⟩
theorem Parts_ok (n:Int) (d:Nat) (h:okR (n,d)):PureCall Tryz.prog 382 [encT (rT n d)] (.tup [encT (sT n),encT (decT d),encI 0]):=by
 refine PC [] Tryz.func382 rfl (by rfl) rfl ?_
 have hl:=okR_len h
 have hlen:((rT n d).map UInt8.ofNat).length<2^35:=by
  rw[List.length_map]
  have h1:=h.2.2.1
  have h2:=h.2.2.2
  have h3:(sT n).length≤(decT n.natAbs).length+1:=by rw[sT_abs];split<;>simp
  unfold rT
  split
  ·simp only at h1;omega
  ·simp only[List.length_append,List.length_cons] at *;omega
 have hr:=Read_ok _ hlen
 rw[readR_rT n d h,Option.isSome_some] at hr
 have hw:=WriteR_ok n 1 (by simp only at hl;omega) (by rw[l4_one];decide)
 have e:rT n 1=sT n:=by unfold rT;rw[if_pos rfl]
 rw[e] at hw
 have ht:=textNat_ok d (by simp only at hl;unfold l4 at hl;omega)
 unfold encT encRd encR at *
 unfold encN at *
 refine kW ?_
 (refine kQ ?_;repeat intro γ)
 refine CallP.pure [] _ c204 hr ?_
 refine kW ?_
 (refine kQ ?_;repeat intro γ)
 refine CallG.intro _ c247 one_ok ?_
 refine kW ?_
 (refine kQ ?_;repeat intro γ)
 refine CallG.intro _ c85 hw ?_
 refine kW ?_
 (refine kQ ?_;repeat intro γ)
 refine CallG.intro _ c169 ht ?_
 refine kW ?_
 (refine kQ ?_;repeat intro γ)
 exact .of rfl
def shortR (n:Int) (d:Nat):Bool:=decide ((decT n.natAbs).length≤9)&&decide ((decT d).length≤9)
theorem ShortR_ok (n:Int) (d:Nat) (h:okR (n,d)):PureCall Tryz.prog 368 [encR n d] (encB (shortR n d)):=by
 refine PC [] Tryz.func368 rfl (by rfl) rfl ?_
 have hl:=okR_len h
 have ho:=Opposite_ok n d
 have hw:=WriteR_ok (n.natAbs:Int) d (by rw[Int.natAbs_natCast];simp only at hl;omega) (by simp only at hl;omega)
 have hp:=Parts_ok _ _ (okR_abs h)
 have e1:sT (n.natAbs:Int)=decT n.natAbs:=by rw[sT_abs,if_neg (by omega),Int.natAbs_natCast]
 rw[e1] at hp
 have z1:=encT_size (decT n.natAbs)
 have z2:=encT_size (decT d)
 generalize hF:shortR n d=F
 unfold shortR at hF
 unfold encR at hw ho ⊢
 rw[Int.natAbs_natCast,decide_eq_false (by omega)] at hw
 rw[Int.natAbs_neg] at ho
 generalize hN:encN n.natAbs=N at *
 generalize hD:encN d=D at *
 unfold encN encDs at hN hD
 unfold encT at hw hp
 generalize rT (n.natAbs:Int) d=R at *
 by_cases hneg:n<0
 case' pos=>
  rw[decide_eq_true hneg,decide_eq_false (by omega)] at ho
  rw[decide_eq_true hneg]
  subst hN hD
  refine kW ?_
  (refine kQ ?_;repeat intro γ)
  refine CallP.pure [] _ c129 ho ?_
  refine kW ?_
  (refine kQ ?_;repeat intro γ)
 case' neg=>
  rw[decide_eq_false hneg]
  subst hN hD
  refine kW ?_
  (refine kQ ?_;repeat intro γ)
 all_goals
  refine CallP.flat [] _ c85 hw rfl ?_
  refine kW ?_
  (refine kQ ?_;repeat intro γ)
  refine CallP.pure [] _ c382 hp ?_
  refine kW ?_
  (refine kQ ?_;repeat intro γ)
  refine CondP.dec (fun h1=>?_) (fun h1=>?_)<;>refine kW ?_
  ·rw[decide_eq_true (by omega),Bool.true_and] at hF
   (refine kQ ?_;repeat intro γ)
   refine .of ?_
   rw[← hF]
   show AV.val (.bool (decide _))=AV.val (.bool (decide _))
   congr 2
   exact decide_eq_decide.2 (by omega)
  ·rw[decide_eq_false (by omega),Bool.false_and] at hF
   (refine kQ ?_;repeat intro γ)
   exact .of (by rw[← hF];rfl)
end Go.Proofs.YtlhdoekgipaihaaGreatDoor
namespace Go.Proofs.YtlhdoekgipaihaaGreatDoor
open Go Go.Fw
inductive Ex where
 | mk (op text:ByteArray) (order:Int) (kids:List Ex)
def Ex.op:Ex→ByteArray | .mk o _ _ _=>o
def Ex.text:Ex→ByteArray | .mk _ t _ _=>t
def Ex.order:Ex→Int | .mk _ _ n _=>n
def Ex.kids:Ex→List Ex | .mk _ _ _ ks=>ks
mutual
def encE:Ex→AV
 | .mk o t n ks=>.agg [encS o,encS t,encI n,.sl 4 (encEs ks)]
def encEs:List Ex→List AV
 | []=>[]
 | k::ks=>encE k::encEs ks
end
theorem encEs_map:∀ ks:List Ex,encEs ks=ks.map encE
 | []=>rfl
 | k::ks=>by rw[List.map_cons,← encEs_map ks];rfl
theorem encE_mk (o t:ByteArray) (n:Int) (ks:List Ex):encE (.mk o t n ks)=.agg [encS o,encS t,encI n,.sl 4 (ks.map encE)]:=by rw[← encEs_map];rfl
theorem encE_eq (e:Ex):encE e=.agg [encS e.op,encS e.text,encI e.order,.sl 4 (e.kids.map encE)]:=by cases e;exact encE_mk ..
inductive SzE:Ex→Prop where
 | mk {o t:ByteArray} {n:Int} {ks:List Ex} (ho:o.size≤2^60) (ht:t.size≤2^60) (hk:ks.length≤2^60) (h:∀ k∈ks,SzE k):SzE (.mk o t n ks)
theorem SzE.kid {e:Ex} (h:SzE e):∀ k∈e.kids,SzE k:=by cases h;assumption
theorem SzE.len {e:Ex} (h:SzE e):e.kids.length≤2^60:=by cases h;assumption
theorem SzE.tx {e:Ex} (h:SzE e):e.text.size≤2^60:=by cases h;assumption
theorem SzE.os {e:Ex} (h:SzE e):e.op.size≤2^60:=by cases h;assumption
def kidsL (f:Ex→Int→Int):List Ex→Int→Int
 | [],l=>l
 | k::ks,l=>if f k l<0 then -1 else kidsL f ks (f k l)
def measF:Nat→Ex→Int→Int
 | 0,_,_=>-1
 | d+1,e,l=>if l-1<0 then -1 else kidsL (measF d) e.kids (l-1)
theorem kidsL_le {f:Ex→Int→Int} (hf:∀ k l,f k l<0∨f k l≤l):∀ (ks:List Ex) (l:Int),kidsL f ks l<0∨kidsL f ks l≤l
 | [],l=>.inr (Int.le_refl _)
 | k :: ks,l=>by
   unfold kidsL
   split
   ·left;omega
   ·have:=hf k l
    have:=kidsL_le hf ks (f k l)
    omega
theorem measF_le:∀ (d:Nat) (e:Ex) (l:Int),measF d e l<0∨measF d e l≤l
 | 0,e,l=>by left;unfold measF;omega
 | d + 1,e,l=>by
   unfold measF
   split
   ·left;omega
   ·have:=kidsL_le (measF_le d) e.kids (l-1)
    omega
theorem kidsL_ge {f:Ex→Int→Int} (hf:∀ k l,0≤l→-1≤f k l):∀ (ks:List Ex) (l:Int),0≤l→-1≤kidsL f ks l
 | [],l,h=>by unfold kidsL;omega
 | k::ks,l,h=>by
   unfold kidsL
   have:=hf k l h
   split
   ·omega
   ·exact kidsL_ge hf ks _ (by omega)
theorem measF_ge:∀ (d:Nat) (e:Ex) (l:Int),0≤l→-1≤measF d e l
 | 0,e,l,h=>by unfold measF;omega
 | d+1,e,l,h=>by
   unfold measF
   split
   ·omega
   ·exact kidsL_ge (measF_ge d) _ _ (by omega)
theorem measure_ok:∀ (d:Nat) (e:Ex) (l:Int),d≤1000→SzE e→0≤l→l≤1000→PureCall Tryz.prog 223 [encE e,encI d,encI l] (encI (measF d e l))
 | 0,e,l,hd,he,h0,h1=>by
   refine PC [] Tryz.func223 rfl (by rfl) rfl ?_
   rw[encE_eq]
   refine kW ?_
   (refine kS ?_;repeat intro γ)
   exact .of rfl
 | d + 1,e,l,hd,he,h0,h1=>by
   refine PC [] Tryz.func223 rfl (by rfl) rfl ?_
   have ih:=measure_ok d
   have hle:=measF_le d
   have hk:=he.len
   generalize hF:measF (d+1) e l=F
   unfold measF at hF
   rw[encE_eq]
   refine kW ?_
   (refine kS ?_;repeat intro γ)
   refine CondP.dec (fun h=>?_) (fun h=>?_)<;>refine kW ?_
   ·rw[if_pos h] at hF
    (refine kS ?_;repeat intro γ)
    exact .of (by rw[← hF];rfl)
   ·rw[if_neg h] at hF
    (refine kS ?_;repeat intro γ)
    refine LoopP.intro (fun m σ H=>∃ i,∃ l':Int,m=e.kids.length-i∧i≤e.kids.length∧0≤l'∧l'≤1000∧kidsL (measF d) (e.kids.drop i) l'=F ∧
     σ=fr [(1,encI ((d+1:Nat):Int)),(2,encI l'),(18,.sl 4 (e.kids.map encE)),(19,encI e.kids.length),(20,encI i)]∧H=hp []) ?_ ?_
    ·refine .intro <| W.of ⟨_,0,l-1,rfl,Nat.zero_le _,by omega,by omega,hF,rfl,rfl⟩ ⟨rfl,rfl,rfl,?_,rfl,trivial⟩ trivial
     show AV.val (.int .i64 _)=AV.val (.int .i64 _)
     rw[List.length_map]
    ·clear hF h h0 h1
     rintro m σ H ⟨i,l',rfl,hi,h0,h1,hF,rfl,rfl⟩
     refine kW ?_
     (refine kS ?_;repeat intro γ)
     refine CondP.dec (fun h=>?_) (fun h=>?_)<;>refine kW ?_
     ·have hi':i<e.kids.length:=by omega
      rw[List.drop_eq_getElem_cons hi'] at hF
      unfold kidsL at hF
      have hm:=hle e.kids[i] l'
      have hs:=he.kid _ (List.getElem_mem hi')
      (refine kR ?_;repeat intro γ)
      generalize e.kids[i]=k at hF hm hs ⊢
      rw[encE_eq]
      (refine kR ?_;repeat intro γ)
      simp only[show ((d+1:Nat):Int)-1=(d:Int) by omega]
      have hi2:=ih k l' (by omega) hs h0 h1
      rw[encE_eq k] at hi2
      refine CallP.pure [] _ c223 hi2 ?_
      generalize measF d k l'=r at hF hm
      refine kW ?_
      (refine kS ?_;repeat intro γ)
      refine CondP.dec (fun h=>?_) (fun h=>?_)<;>refine kW ?_
      ·rw[if_pos h] at hF
       (refine kS ?_;repeat intro γ)
       exact .of (by rw[← hF];rfl)
      ·rw[if_neg h] at hF
       (refine kS ?_;repeat intro γ)
       exact .intro <| W.of ⟨_,by omega,i+1,r,rfl,hi',by omega,by omega,hF,rfl,rfl⟩ ⟨rfl,rfl,rfl,rfl,rfl,trivial⟩ trivial
     ·rw[List.drop_eq_nil_of_le (by omega)] at hF
      (refine kS ?_;repeat intro γ)
      exact .of (by rw[← hF];rfl)
def tooF (e:Ex):Bool:=decide (measF 24 e 200<0)
def sizeF (e:Ex):Int:=200-measF 24 e 200
theorem TooLarge_ok (e:Ex) (he:SzE e):PureCall Tryz.prog 110 [encE e] (encB (tooF e)):=by
 refine PC [] Tryz.func110 rfl (by rfl) rfl ?_
 have hm:=measure_ok 24 e 200 (by omega) he (by omega) (by omega)
 rw[encE_eq] at hm ⊢
 refine kW ?_
 (refine kS ?_;repeat intro γ)
 refine CallP.flat [] _ c223 hm rfl ?_
 refine kW ?_
 (refine kS ?_;repeat intro γ)
 exact .of rfl
theorem Size_ok (e:Ex) (he:SzE e):PureCall Tryz.prog 182 [encE e] (encI (sizeF e)):=by
 refine PC [] Tryz.func182 rfl (by rfl) rfl ?_
 have hm:=measure_ok 24 e 200 (by omega) he (by omega) (by omega)
 have hle:=measF_le 24 e 200
 have hge:=measF_ge 24 e 200 (by omega)
 unfold sizeF
 rw[encE_eq] at hm ⊢
 refine kW ?_
 (refine kS ?_;repeat intro γ)
 refine CallP.flat [] _ c223 hm rfl ?_
 generalize measF 24 e 200=r at *
 refine kW ?_
 (refine kS ?_;repeat intro γ)
 exact .of rfl
end Go.Proofs.YtlhdoekgipaihaaGreatDoor
namespace Go.Proofs.YtlhdoekgipaihaaGreatDoor
open Go Go.Fw
def shp:List (ByteArray×Int×Bool×Bool):=[
 (⟨#[110,117,109]⟩,0,false,false),(⟨#[116,105,109,101]⟩,0,false,false),(⟨#[110,101,103]⟩,1,false,false),
 (⟨#[116,114,117,101]⟩,0,false,true),(⟨#[102,97,108,115,101]⟩,0,false,true),(⟨#[105,110,105,116,105,97,108]⟩,0,false,true),
 (⟨#[97,100,100]⟩,2,false,false),(⟨#[115,117,98]⟩,2,false,false),(⟨#[109,117,108]⟩,2,false,false),(⟨#[100,105,118]⟩,2,false,false),
 (⟨#[108,101,115,115]⟩,2,false,true),(⟨#[97,116,109,111,115,116]⟩,2,false,true),(⟨#[109,111,114,101]⟩,2,false,true),(⟨#[97,116,108,101,97,115,116]⟩,2,false,true),
 (⟨#[97,110,100]⟩,2,true,true),(⟨#[111,114]⟩,2,true,true),(⟨#[110,111,116]⟩,1,true,true),(⟨#[115,97,109,112,108,101]⟩,2,false,true)]
def encSh (x:Int×Bool×Bool):AV:=.agg [encI x.1,encB x.2.1,encB x.2.2]
def shpM:AV:=.mp (shp.map fun x=>encS x.1) (shp.map fun x=>encSh x.2)
theorem shapes_ok:PureCall Tryz.prog 230 [] shpM:=by
 exact runs_pure XR_ok (fuel:=60) (n:=5) (by kernel_rfl)
def assoc {β:Type} (l:List (ByteArray×β)) (s:ByteArray):Option β:=match l with
 | []=>none
 | x::r=>if s=x.1 then some x.2 else assoc r s
theorem ba_beq (s y:ByteArray):(s==y)=decide (s=y):=by
 rw[Bool.eq_iff_iff]
 cases s with | mk a=>cases y with | mk b=>
 show (a==b)=true↔_
 simp
theorem keyEq_str (s y:ByteArray):keyEq T 9 (encS s) (encS y)=some (decide (s=y)):=by
 show some (s==y)=_
 rw[ba_beq]
theorem look_str {β:Type} (f:β→AV) (s:ByteArray):∀ l:List (ByteArray×β),∃ r,findK (keyEq T 9 (encS s)) (l.map fun x=>encS x.1)=some r∧match r,assoc l s with
  | none,none=>True
  | some i,some b=>(l.map fun x=>f x.2).getD i .dead=f b
  | _,_=>False
 | []=>⟨none,rfl,trivial⟩
 | x :: l=>by
   obtain ⟨r,h1,h2⟩:=look_str f s l
   rw[List.map_cons]
   unfold findK assoc
   rw[keyEq_str]
   by_cases h:s=x.1
   ·rw[decide_eq_true h,if_pos h]
    exact ⟨some 0,rfl,rfl⟩
   ·rw[decide_eq_false h,if_neg h,h1]
    refine ⟨r.map (· + 1),rfl,?_⟩
    revert h2
    cases r<;>cases assoc l s<;>intro h2<;>first | trivial | exact h2
abbrev oVar:ByteArray:=⟨#[118,97,114]⟩
abbrev oPre:ByteArray:=⟨#[112,114,101]⟩
abbrev oEq:ByteArray:=⟨#[101,113,117,97,108]⟩
abbrev oNe:ByteArray:=⟨#[117,110,101,113,117,97,108]⟩
abbrev oIf:ByteArray:=⟨#[105,102]⟩
abbrev oNum:ByteArray:=⟨#[110,117,109]⟩
abbrev oSample:ByteArray:=⟨#[115,97,109,112,108,101]⟩
def kidsF (o:ByteArray):Int:=if o=oVar∨o=oPre then 0 else if o=oEq∨o=oNe then 2 else if o=oIf then 3 else match assoc shp o with
 | none=>-1
 | some x=>x.1
theorem kids_ok (o:ByteArray):PureCall Tryz.prog 224 [encS o] (encI (kidsF o)):=by
 refine PC [] Tryz.func224 rfl (by rfl) rfl ?_
 generalize hF:kidsF o=F
 unfold kidsF at hF
 refine kW ?_
 (refine kS ?_;repeat intro γ)
 refine CondP.dec (fun h1=>?_) (fun h1=>?_)<;>refine kW ?_
 ·rw[if_pos (.inl h1)] at hF
  (refine kS ?_;repeat intro γ)
  exact .of (by rw[← hF];rfl)
 (refine kS ?_;repeat intro γ)
 refine CondP.dec (fun h2=>?_) (fun h2=>?_)<;>refine kW ?_
 ·rw[if_pos (.inr h2)] at hF
  (refine kS ?_;repeat intro γ)
  exact .of (by rw[← hF];rfl)
 rw[if_neg (by rintro (h | h);exact h1 h;exact h2 h)] at hF
 (refine kS ?_;repeat intro γ)
 refine CondP.dec (fun h3=>?_) (fun h3=>?_)<;>refine kW ?_
 ·rw[if_pos (.inl h3)] at hF
  (refine kS ?_;repeat intro γ)
  exact .of (by rw[← hF];rfl)
 (refine kS ?_;repeat intro γ)
 refine CondP.dec (fun h4=>?_) (fun h4=>?_)<;>refine kW ?_
 ·rw[if_pos (.inr h4)] at hF
  (refine kS ?_;repeat intro γ)
  exact .of (by rw[← hF];rfl)
 rw[if_neg (by rintro (h | h);exact h3 h;exact h4 h)] at hF
 (refine kS ?_;repeat intro γ)
 refine CondP.dec (fun h5=>?_) (fun h5=>?_)<;>refine kW ?_
 ·rw[if_pos h5] at hF
  (refine kS ?_;repeat intro γ)
  exact .of (by rw[← hF];rfl)
 rw[if_neg h5] at hF
 (refine kS ?_;repeat intro γ)
 refine CallP.pure [] _ c230 shapes_ok ?_
 refine kW ?_
 (refine kS ?_;repeat intro γ)
 obtain ⟨r,hr,hm⟩:=look_str encSh o shp
 refine Need.intro keyst9 ?_
 refine kW ?_
 refine LookP.intro r hr ?_
 cases ha:assoc shp o with
 | none=>
   rw[ha] at hm hF
   cases r with
   | some i=>exact hm.elim
   | none=>
     refine kW ?_
     (refine kS ?_;repeat intro γ)
     exact .of (by rw[← hF];rfl)
 | some x=>
   rw[ha] at hm hF
   cases r with
   | none=>exact hm.elim
   | some i=>
     refine kW ?_
     rw[show (List.map (fun x=>encSh x.snd) shp).getD i AV.dead=encSh x from hm]
     refine kW ?_
     (refine kS ?_;repeat intro γ)
     exact .of (by rw[← hF];rfl)
theorem resQ_shape (p:Option (Int×Int)×Bool):(∃ a,a=nilQ∧resQ p=.tup [a,encB p.2])∨∃ a,(∃ n d,a=encQ n d)∧resQ p=.tup [a,encB p.2]:=by
 unfold resQ
 cases p.1 with
 | none=>exact .inl ⟨_,rfl,rfl⟩
 | some q=>exact .inr ⟨_,⟨_,_,rfl⟩,rfl⟩
def textF (e:Ex):Bool:=
 if e.op=oNum then (parseQ e.text.data.toList).2&&decide (e.order=0)
 else if e.op=oVar then nameF e.text&&decide (0≤e.order)&&decide (e.order≤6)
 else if e.op=oPre then nameF e.text&&decide (e.order=0)
 else decide (e.text=⟨#[]⟩)&&decide (e.order=0)
theorem text_ok (e:Ex) (ht:e.text.size<2^35):PureCall Tryz.prog 225 [encE e] (encB (textF e)):=by
 refine PC [] Tryz.func225 rfl (by rfl) rfl ?_
 rw[encE_eq]
 generalize hF:textF e=F
 unfold textF at hF
 generalize e.op=o at hF
 refine kW ?_
 (refine kS ?_;repeat intro γ)
 refine CondP.dec (fun h1=>?_) (fun h1=>?_)<;>refine kW ?_
 ·rw[if_pos h1] at hF
  have hq:=ParseQ_ok e.text.data.toList (by exact ht)
  rw[ofL_self] at hq
  have hrs:=resQ_shape (parseQ e.text.data.toList)
  generalize (parseQ e.text.data.toList).2=q at hF hrs
  rcases hrs with ⟨a,rfl,hrs⟩ | ⟨a,⟨x,y,rfl⟩,hrs⟩
  all_goals
   rw[hrs] at hq
   (refine kS ?_;repeat intro γ)
   refine CallP.pure [] _ c113 hq ?_
   refine kW ?_
   (refine kS ?_;repeat intro γ)
   refine CondP.intro (fun h2=>?_) (fun h2=>?_)<;>refine kW ?_
   ·rw[h2,Bool.true_and] at hF
    (refine kS ?_;repeat intro γ)
    exact .of (by rw[← hF];rfl)
   ·rw[h2,Bool.false_and] at hF
    (refine kS ?_;repeat intro γ)
    exact .of (by rw[← hF];rfl)
 rw[if_neg h1] at hF
 (refine kS ?_;repeat intro γ)
 refine CondP.dec (fun h2=>?_) (fun h2=>?_)<;>refine kW ?_
 ·rw[if_pos h2] at hF
  have hn:=name61_ok e.text (by omega)
  generalize nameF e.text=q at hF hn
  (refine kS ?_;repeat intro γ)
  refine CallP.flat [] _ c120 hn rfl ?_
  refine kW ?_
  (refine kS ?_;repeat intro γ)
  refine CondP.intro (fun h3=>?_) (fun h3=>?_)<;>refine kW ?_
  ·rw[h3,Bool.true_and] at hF
   (refine kS ?_;repeat intro γ)
   refine CondP.dec (fun h4=>?_) (fun h4=>?_)<;>refine kW ?_
   ·rw[decide_eq_true h4,Bool.true_and] at hF
    (refine kS ?_;repeat intro γ)
    exact .of (by rw[← hF];rfl)
   ·rw[decide_eq_false h4,Bool.false_and] at hF
    (refine kS ?_;repeat intro γ)
    exact .of (by rw[← hF];rfl)
  ·rw[h3,Bool.false_and,Bool.false_and] at hF
   (refine kS ?_;repeat intro γ)
   exact .of (by rw[← hF];rfl)
 rw[if_neg h2] at hF
 (refine kS ?_;repeat intro γ)
 refine CondP.dec (fun h3=>?_) (fun h3=>?_)<;>refine kW ?_
 ·rw[if_pos h3] at hF
  have hn:=name61_ok e.text (by omega)
  generalize nameF e.text=q at hF hn
  (refine kS ?_;repeat intro γ)
  refine CallP.flat [] _ c120 hn rfl ?_
  refine kW ?_
  (refine kS ?_;repeat intro γ)
  refine CondP.intro (fun h4=>?_) (fun h4=>?_)<;>refine kW ?_
  ·rw[h4,Bool.true_and] at hF
   (refine kS ?_;repeat intro γ)
   exact .of (by rw[← hF];rfl)
  ·rw[h4,Bool.false_and] at hF
   (refine kS ?_;repeat intro γ)
   exact .of (by rw[← hF];rfl)
 rw[if_neg h3] at hF
 (refine kS ?_;repeat intro γ)
 refine CondP.dec (fun h4=>?_) (fun h4=>?_)<;>refine kW ?_
 ·rw[decide_eq_true h4,Bool.true_and] at hF
  (refine kS ?_;repeat intro γ)
  exact .of (by rw[← hF];rfl)
 ·rw[decide_eq_false h4,Bool.false_and] at hF
  (refine kS ?_;repeat intro γ)
  exact .of (by rw[← hF];rfl)
end Go.Proofs.YtlhdoekgipaihaaGreatDoor
namespace Go.Proofs.YtlhdoekgipaihaaGreatDoor
open Go Go.Fw
def indexP {α:Type} (p:α→Bool):List α→Int→Int
 | [],_=>-1
 | y::r,i=>match p y with
   | true=>i
   | false=>indexP p r (i+1)
theorem indexP_ge {α:Type} (p:α→Bool):∀ (l:List α) (i:Int),0≤i→(0≤indexP p l i↔l.any p=true)
 | [],i,h=>by simp[indexP]
 | y :: r,i,h=>by
   unfold indexP
   split
   ·rename_i e;simp[e,h]
   ·rename_i e
    rw[indexP_ge p r (i+1) (by omega)]
    simp[e]
theorem indexE_ok (k:Nat) (p:Ex→Bool) (l:List Ex) (hl:l.length≤2^60) (hk:Callable Tryz.prog k) (hf:∀ x∈l,PureCall Tryz.prog k [encE x] (encB (p x))) :
  PureCall Tryz.prog 315 [.sl 4 (l.map encE),.fn (.func k) [] []] (encI (indexP p l 0)):=by
 refine PC [] Tryz.func315 rfl (by rfl) rfl ?_
 generalize hF:indexP p l 0=F
 refine kW ?_
 (refine kS ?_;repeat intro γ)
 refine LoopP.intro (fun n σ H=>∃ i,i≤l.length∧n=l.length-i∧indexP p (l.drop i) i=F∧σ=fr [(0,.sl 4 (l.map encE)),(1,.fn (.func k) [] []),(7,encI l.length),(8,encI i)]∧H=hp []) ?_ ?_
 ·exact .intro <| W.of ⟨_,0,Nat.zero_le _,rfl,hF,rfl,rfl⟩ ⟨rfl,rfl,by simp;rfl,rfl,trivial⟩ trivial
 ·rintro n σ H ⟨i,hi,rfl,hc,rfl,rfl⟩
  refine kW ?_
  (refine kS ?_;repeat intro γ)
  refine CondP.dec (fun h=>?_) (fun h=>?_)<;>refine kW ?_
  ·have hi':i<l.length:=by omega
   have hx:=hf _ (List.getElem_mem hi')
   rw[List.drop_eq_getElem_cons hi'] at hc
   unfold indexP at hc
   (refine kR ?_;repeat intro γ)
   generalize l[i]=x at hx hc ⊢
   rw[encE_eq] at hx ⊢
   (refine kR ?_;repeat intro γ)
   refine CallP.flat [] _ hk hx rfl ?_
   refine kW ?_
   (refine kS ?_;repeat intro γ)
   refine CondP.intro (fun hq=>?_) (fun hq=>?_)<;>refine kW ?_
   ·rw[hq] at hc
    (refine kS ?_;repeat intro γ)
    exact .of (by rw[← hc];rfl)
   ·rw[hq] at hc
    (refine kS ?_;repeat intro γ)
    exact .intro <| W.of ⟨_,by omega,i+1,hi',rfl,hc,rfl,rfl⟩ ⟨rfl,rfl,rfl,rfl,trivial⟩ trivial
  ·(refine kS ?_;repeat intro γ)
   rw[List.drop_eq_nil_of_le (by omega)] at hc
   exact .of (by rw[← hc];rfl)
theorem containsE_ok (k:Nat) (p:Ex→Bool) (l:List Ex) (hl:l.length≤2^60) (hk:Callable Tryz.prog k) (hf:∀ x∈l,PureCall Tryz.prog k [encE x] (encB (p x))) :
  PureCall Tryz.prog 227 [.sl 4 (l.map encE),.fn (.func k) [] []] (encB (l.any p)):=by
 refine PC [] Tryz.func227 rfl (by rfl) rfl ?_
 refine kW ?_
 (refine kS ?_;repeat intro γ)
 refine CallP.flat [] _ c315 (indexE_ok k p l hl hk hf) rfl ?_
 refine kW ?_
 (refine kS ?_;repeat intro γ)
 refine .of ?_
 show AV.val (Value.bool (decide (0≤indexP p l 0)))=AV.val (Value.bool (l.any p))
 congr 2
 rw[Bool.eq_iff_iff,decide_eq_true_iff]
 exact indexP_ge p l 0 (by omega)
def sampF (o:ByteArray) (ks:List Ex) (bs:List Bool):Bool:=decide (o=oSample)&&match ks,bs with
 | k0::k1::_,_::b::_=>!decide (k0.op=oNum)||!decide (k1.op=oNum)||!b||hasP k1.text (b1 45)||decide (k1.text=⟨#[48]⟩)
 | _,_=>false
mutual
def builtF:Ex→Bool
 | .mk o t n ks=>decide ((ks.length:Int)=kidsF o)&&textF (.mk o t n ks)&&!sampF o ks (builtL ks)&&(builtL ks).all id
def builtL:List Ex→List Bool
 | []=>[]
 | k::ks=>builtF k::builtL ks
end
theorem builtL_map:∀ ks:List Ex,builtL ks=ks.map builtF
 | []=>rfl
 | k::ks=>by rw[List.map_cons,← builtL_map ks];rfl
theorem builtF_eq (e:Ex):builtF e=(decide ((e.kids.length:Int)=kidsF e.op)&&textF e&&!sampF e.op e.kids (e.kids.map builtF)&&e.kids.all builtF):=by
 cases e with
 | mk o t n ks=>
   rw[← builtL_map]
   have:ks.all builtF=(builtL ks).all id:=by rw[builtL_map,List.all_map];rfl
   show builtF (.mk o t n ks)=(decide ((ks.length:Int)=kidsF o)&&textF (.mk o t n ks)&&!sampF o ks (builtL ks)&&ks.all builtF)
   rw[this];rfl
theorem ex_ind {M:Ex→Prop} (h:∀ e:Ex,(∀ k∈e.kids,M k)→M e) (e:Ex):M e:=by
 have key:∀ n (e:Ex),SizeOf.sizeOf e≤n→M e:=by
  intro n
  induction n with
  | zero=>intro e he;cases e;simp at he
  | succ n ih=>
    intro e he
    refine h e fun k hk=>ih k ?_
    cases e with
    | mk o t m ks=>
      have:=List.sizeOf_lt_of_mem (show k∈ks from hk)
      simp at he
      omega
 exact key _ e (Nat.le_refl _)
inductive TxE:Ex→Prop where
 | mk {o t:ByteArray} {n:Int} {ks:List Ex} (ht:t.size<2^35) (h:∀ k∈ks,TxE k):TxE (.mk o t n ks)
theorem TxE.kid {e:Ex} (h:TxE e):∀ k∈e.kids,TxE k:=by cases h;assumption
theorem TxE.tx {e:Ex} (h:TxE e):e.text.size<2^35:=by cases h;assumption
theorem BuiltC_ok (e:Ex) (b:Bool) (h:PureCall Tryz.prog 111 [encE e] (encB b)):PureCall Tryz.prog 228 [encE e] (encB (!b)):=by
 refine PC [] Tryz.func228 rfl (by rfl) rfl ?_
 rw[encE_eq] at h ⊢
 refine kW ?_
 (refine kS ?_;repeat intro γ)
 refine CallP.flat [] _ c111 h rfl ?_
 refine kW ?_
 (refine kS ?_;repeat intro γ)
 exact .of rfl
set_option maxHeartbeats 1000000 in
theorem Built_ok (e:Ex):SzE e→TxE e→PureCall Tryz.prog 111 [encE e] (encB (builtF e)):=by
 induction e using ex_ind with
 | h e ih=>
   intro hs ht
   have ihk:∀ k∈e.kids,PureCall Tryz.prog 111 [encE k] (encB (builtF k)):=fun k hk=>ih k hk (hs.kid k hk) (by cases ht;rename_i h;exact h k hk)
   clear ih
   have htx:e.text.size<2^35:=by cases ht;assumption
   have hlen:=hs.len
   refine PC [] Tryz.func111 rfl (by rfl) rfl ?_
   have hT:=text_ok e htx
   generalize hF:builtF e=F
   rw[builtF_eq] at hF
   generalize textF e=bt at hF hT
   rw[encE_eq] at hT ⊢
   generalize hks:e.kids=ks at *
   generalize e.op=o at *
   refine kW ?_
   (refine kS ?_;repeat intro γ)
   refine CallG.intro _ c224 (kids_ok o) ?_
   refine kW ?_
   (refine kS ?_;repeat intro γ)
   rw[List.length_map]
   refine CondP.dec (fun h=>?_) (fun h=>?_)<;>refine kW ?_
   case' refine_2=>
    rw[decide_eq_false h,Bool.false_and,Bool.false_and,Bool.false_and] at hF
    (refine kS ?_;repeat intro γ)
    exact .of (by rw[← hF];rfl)
   have hlk:=h
   rw[decide_eq_true hlk,Bool.true_and] at hF
   (refine kS ?_;repeat intro γ)
   refine CallG.intro _ c225 hT ?_
   refine kW ?_
   (refine kS ?_;repeat intro γ)
   refine CondP.intro (fun h1=>?_) (fun h1=>?_)<;>refine kW ?_
   case' refine_2=>
    rw[h1,Bool.false_and,Bool.false_and] at hF
    (refine kS ?_;repeat intro γ)
    exact .of (by rw[← hF];rfl)
   rw[h1,Bool.true_and] at hF
   (refine kS ?_;repeat intro γ)
   have fin:sampF o ks (ks.map builtF)=false→ks.all builtF=F:=fun h=>by rw[← hF,h];rfl
   have bad:sampF o ks (ks.map builtF)=true→F=false:=fun h=>by rw[← hF,h];rfl
   clear hF
   refine CondP.dec (fun h2=>?_) (fun h2=>?_)<;>refine kW ?_
   case' refine_2=>
    have hf:=fin (by unfold sampF;rw[decide_eq_false h2];rfl)
   case' refine_1=>
    obtain ⟨k0,k1,rfl⟩:∃ k0 k1,ks=[k0,k1]:=by
     have h2':o=oSample:=h2
     have:kidsF oSample=2:=by rfl
     rw[h2',this] at hlk
     match ks,hlk with
     | [a,b],_=>exact ⟨a,b,rfl⟩
     | [],h=>simp at h
     | [_],h=>simp at h
     | _::_::_::_,h=>simp at h;omega
    have hk1:=ihk k1 (by simp)
    have hsm:sampF o [k0,k1] ([k0,k1].map builtF)=(!decide (k0.op=oNum)||!decide (k1.op=oNum)||!builtF k1||hasP k1.text (b1 45)||decide (k1.text=⟨#[48]⟩)):=by
     unfold sampF;rw[decide_eq_true h2];rfl
    rw[hsm] at bad fin
    generalize builtF k1=bk at bad fin hk1
    have ht1:k1.text.size<2^35:=by
     have hm:k1∈e.kids:=by rw[hks];simp
     have:TxE k1:=ht.kid k1 hm
     exact this.tx
    have hHP:=HasPrefix_ok k1.text (b1 45) (by omega) (by decide)
    have hsl:List.map encE [k0,k1]=[.agg [encS k0.op,encS k0.text,encI k0.order,.sl 4 (k0.kids.map encE)],.agg [encS k1.op,encS k1.text,encI k1.order,.sl 4 (k1.kids.map encE)]]:=by
     rw[← encE_eq,← encE_eq];rfl
    rw[encE_eq] at hk1
    rw[hsl]
    generalize hT0:hasP k1.text (b1 45)=hp at *
    (refine kS ?_;repeat intro γ)
    refine CondP.dec (fun h3=>?_) (fun h3=>?_)<;>refine kW ?_
    case' refine_2=>
     rw[bad (by rw[decide_eq_false h3];rfl)]
     (refine kS ?_;repeat intro γ)
     exact .of rfl
    (refine kS ?_;repeat intro γ)
    refine CondP.dec (fun h4=>?_) (fun h4=>?_)<;>refine kW ?_
    case' refine_2=>
     rw[bad (by rw[decide_eq_false h4];simp)]
     (refine kS ?_;repeat intro γ)
     exact .of rfl
    (refine kS ?_;repeat intro γ)
    refine CallP.flat [] _ c111 hk1 rfl ?_
    refine kW ?_
    (refine kS ?_;repeat intro γ)
    refine CondP.intro (fun h5=>?_) (fun h5=>?_)<;>refine kW ?_
    case' refine_2=>
     rw[bad (by rw[h5];simp)]
     (refine kS ?_;repeat intro γ)
     exact .of rfl
    (refine kS ?_;repeat intro γ)
    refine CallP.flat [] _ c226 hHP rfl ?_
    refine kW ?_
    (refine kS ?_;repeat intro γ)
    refine CondP.intro (fun h6=>?_) (fun h6=>?_)<;>refine kW ?_
    case' refine_1=>
     rw[bad (by rw[h6];simp)]
     (refine kS ?_;repeat intro γ)
     exact .of rfl
    (refine kS ?_;repeat intro γ)
    refine CondP.dec (fun h7=>?_) (fun h7=>?_)<;>refine kW ?_
    case' refine_1=>
     rw[bad (by rw[decide_eq_true h7];simp)]
     (refine kS ?_;repeat intro γ)
     exact .of rfl
    have hf:=fin (by rw[decide_eq_true h3,decide_eq_true h4,h5,h6,decide_eq_false h7];rfl)
    rw[← hsl]
   all_goals
    (refine kS ?_;repeat intro γ)
    refine CallP.flat [] _ c227 (containsE_ok 228 (fun k=>!builtF k) _ hlen c228 fun k hk=>BuiltC_ok k _ (ihk k hk)) rfl ?_
    refine kW ?_
    (refine kS ?_;repeat intro γ)
    refine .of ?_
    rw[← hf,List.all_eq_not_any_not];rfl
end Go.Proofs.YtlhdoekgipaihaaGreatDoor
namespace Go.Proofs.YtlhdoekgipaihaaGreatDoor
open Go Go.Fw
structure Va where
 name:ByteArray
 kind:Int
 type:Int
 value:ByteArray
 start:ByteArray
 fixed:Bool
 unit:ByteArray
def encV (v:Va):AV:=.agg [encS v.name,encI v.kind,encI v.type,encS v.value,encS v.start,encB v.fixed,encS v.unit]
def encK (ks:List (ByteArray×Va)):AV:=.mp (ks.map fun x=>encS x.1) (ks.map fun x=>encV x.2)
def same2 (a b:Int×Bool):Int×Bool:=(a.1,a.2&&b.2&&decide (a.1=b.1))
def shpD (o:ByteArray):Int×Bool×Bool:=match assoc shp o with
 | some x=>x
 | none=>(0,false,false)
def typeG (ks:List (ByteArray×Va)) (o t:ByteArray) (n:Int) (rs:List (Int×Bool)):Int×Bool:=
 if o=oVar∨o=oPre then match assoc ks t with
  | some v=>(v.type,decide (n=0)||decide (v.kind=0)||decide (v.kind=3))
  | none=>(0,false)
 else if o=oEq∨o=oNe then (1,(same2 (rs.getD 0 (0,false)) (rs.getD 1 (0,false))).2)
 else if o=oIf then ((same2 (rs.getD 1 (0,false)) (rs.getD 2 (0,false))).1,(rs.getD 0 (0,false)).2&&(same2 (rs.getD 1 (0,false)) (rs.getD 2 (0,false))).2&&decide ((rs.getD 0 (0,false)).1=1))
 else if rs.any (fun r=>!r.2||(decide (r.1=1) != (shpD o).2.1)) then (0,false)
 else (if (shpD o).2.2 then 1 else 0,true)
mutual
def typeF (ks:List (ByteArray×Va)):Ex→Int×Bool
 | .mk o t n es=>typeG ks o t n (typeL ks es)
def typeL (ks:List (ByteArray×Va)):List Ex→List (Int×Bool)
 | []=>[]
 | e::es=>typeF ks e::typeL ks es
end
theorem typeL_map (ks:List (ByteArray×Va)):∀ es:List Ex,typeL ks es=es.map (typeF ks)
 | []=>rfl
 | e::es=>by rw[List.map_cons,← typeL_map ks es];rfl
theorem typeF_eq (ks:List (ByteArray×Va)) (e:Ex):typeF ks e=typeG ks e.op e.text e.order (e.kids.map (typeF ks)):=by
 cases e with
 | mk o t n es=>rw[← typeL_map];rfl
def encT2 (r:Int×Bool):AV:=.tup [encI r.1,encB r.2]
theorem same_ok (ks:List (ByteArray×Va)) (a b:Ex) (ra rb:Int×Bool) (ha:PureCall Tryz.prog 112 [encK ks,encE a] (encT2 ra)) (hb:PureCall Tryz.prog 112 [encK ks,encE b] (encT2 rb)) :
  PureCall Tryz.prog 229 [encK ks,encE a,encE b] (encT2 (same2 ra rb)):=by
 refine PC [] Tryz.func229 rfl (by rfl) rfl ?_
 obtain ⟨x,bx⟩:=ra
 obtain ⟨y,by'⟩:=rb
 rw[encE_eq] at ha hb
 rw[encE_eq a,encE_eq b]
 generalize hF:same2 (x,bx) (y,by')=F
 unfold same2 at hF
 refine kW ?_
 (refine kS ?_;repeat intro γ)
 refine CallP.pure [] _ c112 ha ?_
 refine kW ?_
 (refine kS ?_;repeat intro γ)
 refine CallP.pure [] _ c112 hb ?_
 refine kW ?_
 (refine kS ?_;repeat intro γ)
 simp only at hF ⊢
 cases bx
 ·(refine kS ?_;repeat intro γ)
  exact .of (by rw[← hF];rfl)
 cases by'
 ·(refine kS ?_;repeat intro γ)
  exact .of (by rw[← hF];rfl)
 simp only[Bool.true_and] at hF
 (refine kS ?_;repeat intro γ)
 exact .of (by rw[← hF];rfl)
theorem built_kids {e:Ex} (h:builtF e=true):(e.kids.length:Int)=kidsF e.op∧∀ k∈e.kids,builtF k=true:=by
 rw[builtF_eq] at h
 simp only[Bool.and_eq_true] at h
 exact ⟨of_decide_eq_true h.1.1.1,fun k hk=>List.all_eq_true.1 h.2 k hk⟩
set_option maxHeartbeats 1000000 in
theorem Type_ok (ks:List (ByteArray×Va)) (e:Ex):SzE e→builtF e=true→PureCall Tryz.prog 112 [encK ks,encE e] (encT2 (typeF ks e)):=by
 induction e using ex_ind with
 | h e ih=>
   intro hs hb
   obtain ⟨hkl,hbk⟩:=built_kids hb
   have ihk:∀ k∈e.kids,PureCall Tryz.prog 112 [encK ks,encE k] (encT2 (typeF ks k)):=fun k hk=>ih k hk (hs.kid k hk) (hbk k hk)
   clear ih hbk
   have hlen:=hs.len
   refine PC [] Tryz.func112 rfl (by rfl) rfl ?_
   generalize hF:typeF ks e=F
   rw[typeF_eq] at hF
   rw[encE_eq]
   generalize hes:e.kids=es at *
   generalize e.op=o at *
   generalize e.text=t at *
   generalize e.order=n at *
   clear hs hb hes e
   unfold typeG at hF
   refine kW ?_
   (refine kS ?_;repeat intro γ)
   refine CondP.dec (fun h1=>?_) (fun h1=>?_)<;>refine kX ?_
   case' refine_1=>refine CondP.pos h1 ?_
   case' refine_2=>refine CondP.dec (fun h2=>?_) (fun h2=>?_)
   case refine_2.refine_2=>
    rw[if_neg (by rintro (h | h);exact h1 h;exact h2 h)] at hF
    refine kX ?_
    repeat (refine cpA_seq ?_;refine kX ?_)
    refine CondP.dec (fun h3=>?_) (fun h3=>?_)<;>refine kX ?_
    case' refine_1=>refine CondP.pos h3 ?_
    case' refine_2=>refine CondP.dec (fun h4=>?_) (fun h4=>?_)
    case refine_2.refine_2=>
     rw[if_neg (by rintro (h | h);exact h3 h;exact h4 h)] at hF
     refine kX ?_
     repeat (refine cpA_seq ?_;refine kX ?_)
     refine CondP.dec (fun h5=>?_) (fun h5=>?_)<;>refine kX ?_
     ·rw[if_pos h5] at hF
      obtain ⟨a,b,c,rfl⟩:∃ a b c,es=[a,b,c]:=by
       have:kidsF o=3:=by rw[h5];rfl
       rw[this] at hkl
       match es,hkl with
       | [a,b,c],_=>exact ⟨a,b,c,rfl⟩
       | [],h=>simp at h
       | [_],h=>simp at h
       | [_,_],h=>simp at h
       | _::_::_::_::_,h=>simp at h;omega
      have hca:=ihk a (by simp)
      have hsm:=same_ok ks b c _ _ (ihk b (by simp)) (ihk c (by simp))
      have hsl:List.map encE [a,b,c]=[.agg [encS a.op,encS a.text,encI a.order,.sl 4 (a.kids.map encE)],.agg [encS b.op,encS b.text,encI b.order,.sl 4 (b.kids.map encE)],.agg [encS c.op,encS c.text,encI c.order,.sl 4 (c.kids.map encE)]]:=by
       rw[← encE_eq,← encE_eq,← encE_eq];rfl
      replace hF:((same2 (typeF ks b) (typeF ks c)).1,(typeF ks a).2&&(same2 (typeF ks b) (typeF ks c)).2&&decide ((typeF ks a).1=1))=F:=hF
      generalize same2 (typeF ks b) (typeF ks c)=sm at hF hsm
      generalize typeF ks a=ta at hF hca
      rw[encE_eq a] at hca
      rw[encE_eq b,encE_eq c] at hsm
      refine cpA_seqW (W.of (l:=[(0,encK ks),(3,.op 3 _ 0 0),(4,encI 0),(5,encB false),(20,encS o)]) (m:=[(3,_,⟨42,4,[.agg [encS o,encS t,encI n,.sl 4 ([a,b,c].map encE)]]⟩)]) ?_ ⟨rfl,rfl,rfl,rfl,rfl,trivial⟩ ⟨rfl,trivial⟩)
      rw[hsl]
      refine kW ?_
      (refine kS ?_;repeat intro γ)
      refine CallP.pure [] _ c112 hca ?_
      refine kW ?_
      (refine kS ?_;repeat intro γ)
      refine CallG.intro _ c229 hsm ?_
      refine kW ?_
      (refine kS ?_;repeat intro γ)
      obtain ⟨tt,tb⟩:=ta
      obtain ⟨st,sb⟩:=sm
      simp only at hF ⊢
      cases tb
      ·(refine kS ?_;repeat intro γ)
       exact .of (by rw[← hF];rfl)
      cases sb
      ·(refine kS ?_;repeat intro γ)
       exact .of (by rw[← hF];rfl)
      simp only[Bool.true_and] at hF
      (refine kS ?_;repeat intro γ)
      exact .of (by rw[← hF];rfl)
     ·rw[if_neg h5] at hF
      refine cpA_seqW (W.of (l:=[(0,encK ks),(3,.op 3 _ 0 0),(4,encI 0),(5,encB false),(20,encS o)]) (m:=[(3,_,⟨42,4,[.agg [encS o,encS t,encI n,.sl 4 (es.map encE)]]⟩)]) ?_ ⟨rfl,rfl,rfl,rfl,rfl,trivial⟩ ⟨rfl,trivial⟩)
      refine kW ?_
      (refine kS ?_;repeat intro γ)
      refine CallG.intro _ c230 shapes_ok ?_
      refine kW ?_
      (refine kS ?_;repeat intro γ)
      refine Need.intro keyst9 ?_
      refine kW ?_
      obtain ⟨r,hr,hm⟩:=look_str encSh o shp
      refine LookP.intro r hr ?_
      have hcase:(r=none∧shpD o=(0,false,false))∨∃ i,r=some i∧(shp.map fun x=>encSh x.2).getD i .dead=encSh (shpD o):=by
       unfold shpD
       revert hm
       cases assoc shp o<;>cases r<;>intro hm
       ·exact .inl ⟨rfl,rfl⟩
       ·exact hm.elim
       ·exact hm.elim
       ·exact .inr ⟨_,rfl,hm⟩
      rcases hcase with ⟨rfl,hx⟩ | ⟨i,rfl,hm'⟩
      case' inl=>
       refine kW ?_
       refine kX ?_
       (refine kZ ?_;repeat intro γ)
       refine cpA_seqW (W.of (l:=[(0,encK ks),(3,.op 3 _ 0 0),(4,encI 0),(5,encB false),(14,.op 14 _ 0 0)]) (m:=[(3,_,⟨42,4,[.agg [encS o,encS t,encI n,.sl 4 (es.map encE)]]⟩),(14,_,⟨293,3,[encSh (shpD o)]⟩)]) ?_ ⟨rfl,rfl,rfl,rfl,rfl,trivial⟩ ⟨rfl,by rw[hx];rfl,trivial⟩)
      case' inr=>
       refine kW ?_
       rw[hm']
       refine kX ?_
       (refine kZ ?_;repeat intro γ)
       refine cpA_seqW (W.of (l:=[(0,encK ks),(3,.op 3 _ 0 0),(4,encI 0),(5,encB false),(14,.op 14 _ 0 0)]) (m:=[(3,_,⟨42,4,[.agg [encS o,encS t,encI n,.sl 4 (es.map encE)]]⟩),(14,_,⟨293,3,[encSh (shpD o)]⟩)]) ?_ ⟨rfl,rfl,rfl,rfl,rfl,trivial⟩ ⟨rfl,rfl,trivial⟩)
      all_goals
       generalize shpD o=x at hF ⊢
       refine kW ?_
       (refine kS ?_;repeat intro γ)
       refine LoopP.intro (fun m σ H=>∃ g i,m=es.length-i∧i≤es.length∧(if ((es.drop i).map (typeF ks)).any (fun r=>!r.2||(decide (r.1=1) != x.2.1)) then ((0,false):Int×Bool) else (if x.2.2 then 1 else 0,true))=F ∧
        σ=fr [(0,encK ks),(4,encI 0),(5,encB false),(14,.op 14 g 0 0),(104,.sl 4 (es.map encE)),(105,encI es.length),(106,encI i)] ∧
        H=hp [(14,g,⟨293,3,[encSh x]⟩)]) ?_ ?_
       ·refine .intro <| W.of ⟨_,_,0,rfl,Nat.zero_le _,hF,rfl,rfl⟩ ⟨rfl,rfl,rfl,rfl,rfl,?_,rfl,trivial⟩ ⟨rfl,trivial⟩
        show AV.val (.int .i64 _)=AV.val (.int .i64 _)
        rw[List.length_map]
       ·clear hF
        rintro m σ H ⟨g,i,rfl,hi,hF,rfl,rfl⟩
        refine kW ?_
        (refine kS ?_;repeat intro γ)
        refine CondP.dec (fun h=>?_) (fun h=>?_)<;>refine kW ?_
        ·have hi':i<es.length:=by omega
         rw[List.drop_eq_getElem_cons hi',List.map_cons,List.any_cons] at hF
         have hk:=ihk _ (List.getElem_mem hi')
         (refine kR ?_;repeat intro γ)
         generalize es[i]=k at hF hk ⊢
         generalize typeF ks k=tk at hF hk
         obtain ⟨kt,kb⟩:=tk
         rw[encE_eq] at hk ⊢
         (refine kR ?_;repeat intro γ)
         refine CallP.pure [] _ c112 hk ?_
         refine kW ?_
         (refine kS ?_;repeat intro γ)
         simp only at hF ⊢
         cases kb
         ·simp only[Bool.not_false,Bool.true_or,if_true] at hF
          (refine kS ?_;repeat intro γ)
          exact .of (by rw[← hF];rfl)
         simp only[Bool.not_true,Bool.false_or] at hF
         (refine kS ?_;repeat intro γ)
         refine CondP.intro (fun h6=>?_) (fun h6=>?_)<;>refine kW ?_
         ·rw[show (decide (kt=1) != x.2.1)=false by rw[bne,h6];rfl,Bool.false_or] at hF
          (refine kS ?_;repeat intro γ)
          exact .intro <| W.of ⟨_,by omega,_,i+1,rfl,hi',hF,rfl,rfl⟩ ⟨rfl,rfl,rfl,rfl,rfl,rfl,rfl,trivial⟩ ⟨rfl,trivial⟩
         ·rw[show (decide (kt=1) != x.2.1)=true by rw[bne,h6];rfl,Bool.true_or,if_pos rfl] at hF
          (refine kS ?_;repeat intro γ)
          exact .of (by rw[← hF];rfl)
        ·rw[List.drop_eq_nil_of_le (by omega)] at hF
         (refine kS ?_;repeat intro γ)
         refine CondP.intro (fun h6=>?_) (fun h6=>?_)<;>refine kW ?_
         ·rw[h6] at hF
          (refine kS ?_;repeat intro γ)
          exact .of (by rw[← hF];rfl)
         ·rw[h6] at hF
          (refine kS ?_;repeat intro γ)
          exact .of (by rw[← hF];rfl)
    all_goals
     have hv:o=oEq∨o=oNe:=by first | exact .inl h3 | exact .inr h4
     rw[if_pos hv] at hF
     obtain ⟨a,b,rfl⟩:∃ a b,es=[a,b]:=by
      have:kidsF o=2:=by rcases hv with h | h<;>rw[h]<;>rfl
      rw[this] at hkl
      match es,hkl with
      | [a,b],_=>exact ⟨a,b,rfl⟩
      | [],h=>simp at h
      | [_],h=>simp at h
      | _::_::_::_,h=>simp at h;omega
     have hsm:=same_ok ks a b _ _ (ihk a (by simp)) (ihk b (by simp))
     have hsl:List.map encE [a,b]=[.agg [encS a.op,encS a.text,encI a.order,.sl 4 (a.kids.map encE)],.agg [encS b.op,encS b.text,encI b.order,.sl 4 (b.kids.map encE)]]:=by
      rw[← encE_eq,← encE_eq];rfl
     replace hF:(1,(same2 (typeF ks a) (typeF ks b)).2)=F:=hF
     generalize same2 (typeF ks a) (typeF ks b)=sm at hF hsm
     rw[encE_eq a,encE_eq b] at hsm
     refine cpA_seqW (W.of (l:=[(0,encK ks),(3,.op 3 _ 0 0),(4,encI 0),(5,encB false),(20,encS o)]) (m:=[(3,_,⟨42,4,[.agg [encS o,encS t,encI n,.sl 4 ([a,b].map encE)]]⟩)]) ?_ ⟨rfl,rfl,rfl,rfl,rfl,trivial⟩ ⟨rfl,trivial⟩)
     rw[hsl]
     refine kW ?_
     (refine kS ?_;repeat intro γ)
     refine CallG.intro _ c229 hsm ?_
     refine kW ?_
     (refine kS ?_;repeat intro γ)
     exact .of (by rw[← hF];rfl)
   all_goals
    have hv:o=oVar∨o=oPre:=by first | exact .inl h1 | exact .inr h2
    rw[if_pos hv] at hF
    refine cpA_seqW (W.of (l:=[(0,encK ks),(3,.op 3 _ 0 0),(4,encI 0),(5,encB false),(20,encS o)]) (m:=[(3,_,⟨42,4,[.agg [encS o,encS t,encI n,.sl 4 (es.map encE)]]⟩)]) ?_ ⟨rfl,rfl,rfl,rfl,rfl,trivial⟩ ⟨rfl,trivial⟩)
    refine kW ?_
    (refine kS ?_;repeat intro γ)
    refine Need.intro keyst9 ?_
    refine kW ?_
    obtain ⟨r,hr,hm⟩:=look_str encV t ks
    refine LookP.intro r hr ?_
    cases ha:assoc ks t with
    | none=>
      rw[ha] at hm hF
      cases r with
      | some i=>exact hm.elim
      | none=>
        refine kW ?_
        (refine kS ?_;repeat intro γ)
        exact .of (by rw[← hF];rfl)
    | some v=>
      rw[ha] at hm hF
      cases r with
      | none=>exact hm.elim
      | some i=>
        refine kW ?_
        rw[show (List.map (fun x=>encV x.snd) ks).getD i AV.dead=encV v from hm]
        refine kW ?_
        (refine kS ?_;repeat intro γ)
        replace hF:(v.type,decide (n=0)||decide (v.kind=0)||decide (v.kind=3))=F:=hF
        refine CondP.dec (fun h3=>?_) (fun h3=>?_)<;>refine kW ?_
        ·rw[decide_eq_true h3,Bool.true_or,Bool.true_or] at hF
         (refine kS ?_;repeat intro γ)
         exact .of (by rw[← hF];rfl)
        rw[decide_eq_false h3,Bool.false_or] at hF
        (refine kS ?_;repeat intro γ)
        refine CondP.dec (fun h4=>?_) (fun h4=>?_)<;>refine kW ?_
        ·rw[decide_eq_true h4,Bool.true_or] at hF
         (refine kS ?_;repeat intro γ)
         exact .of (by rw[← hF];rfl)
        rw[decide_eq_false h4,Bool.false_or] at hF
        (refine kS ?_;repeat intro γ)
        exact .of (by rw[← hF];rfl)
end Go.Proofs.YtlhdoekgipaihaaGreatDoor
namespace Go.Proofs.YtlhdoekgipaihaaGreatDoor
open Go Go.Fw
def encVl (q:AV) (t is:Bool):AV:=match q with
 | .agg cs=>.agg (cs++[encB t,encB is])
 | _=>.dead
theorem True_ok (b:Bool):PureCall Tryz.prog 284 [encB b] (encVl nilQ b true):=by
 refine PC [] Tryz.func284 rfl (by rfl) rfl ?_
 refine kW ?_
 (refine kS ?_;repeat intro γ)
 exact .of rfl
theorem Number_ok (q:AV) (h:q=nilQ∨∃ n d,q=encQ n d):PureCall Tryz.prog 201 [q] (encVl q false false):=by
 refine PC [] Tryz.func201 rfl (by rfl) rfl ?_
 rcases h with rfl | ⟨n,d,rfl⟩
 all_goals
  refine kW ?_
  (refine kS ?_;repeat intro γ)
  exact .of rfl
theorem TypeV_ok (q:AV) (t is:Bool) (h:q=nilQ∨∃ n d,q=encQ n d):PureCall Tryz.prog 301 [encVl q t is] (encI (if is then 1 else 0)):=by
 refine PC [] Tryz.func301 rfl (by rfl) rfl ?_
 rcases h with rfl | ⟨n,d,rfl⟩
 all_goals
  refine kW ?_
  (refine kS ?_;repeat intro γ)
  refine CondP.intro (fun h=>?_) (fun h=>?_)<;>refine kW ?_
  ·(refine kS ?_;repeat intro γ)
   exact .of (by rw[h];rfl)
  ·(refine kS ?_;repeat intro γ)
   exact .of (by rw[h];rfl)
def qAV:Option (Int×Int)→AV
 | some (n,d)=>encQ n d
 | none=>nilQ
theorem resQ_q (p:Option (Int×Int)×Bool):resQ p=.tup [qAV p.1,encB p.2]:=by
 obtain ⟨o,b⟩:=p
 cases o<;>rfl
theorem qAV_cases (o:Option (Int×Int)):qAV o=nilQ∨∃ n d,qAV o=encQ n d:=by
 cases o with
 | none=>exact .inl rfl
 | some q=>exact .inr ⟨q.1,q.2,rfl⟩
abbrev sTrue:ByteArray:=⟨#[116,114,117,101]⟩
abbrev sFalse:ByteArray:=⟨#[102,97,108,115,101]⟩
def resV (s:ByteArray):AV:=
 if s=sTrue∨s=sFalse then .tup [encVl nilQ (decide (s=sTrue)) true,encB true]
 else .tup [encVl (qAV (parseQ s.data.toList).1) false false,encB (parseQ s.data.toList).2]
theorem ParseV_ok (s:ByteArray) (hs:s.size<2^35):PureCall Tryz.prog 263 [encS s] (resV s):=by
 refine PC [] Tryz.func263 rfl (by rfl) rfl ?_
 generalize hF:resV s=F
 unfold resV at hF
 have hq:=ParseQ_ok s.data.toList (by exact hs)
 rw[ofL_self] at hq
 have hT:=True_ok
 refine kW ?_
 (refine kS ?_;repeat intro γ)
 refine CondP.dec (fun h1=>?_) (fun h1=>?_)<;>refine kW ?_
 ·rw[if_pos (.inl h1),decide_eq_true h1] at hF
  (refine kS ?_;repeat intro γ)
  refine CallP.pure [] _ c284 (True_ok (decide (s=sTrue))) ?_
  rw[decide_eq_true h1]
  refine kW ?_
  (refine kS ?_;repeat intro γ)
  exact .of (by rw[← hF];rfl)
 (refine kS ?_;repeat intro γ)
 refine CondP.dec (fun h2=>?_) (fun h2=>?_)<;>refine kW ?_
 ·rw[if_pos (.inr h2),decide_eq_false h1] at hF
  (refine kS ?_;repeat intro γ)
  refine CallP.pure [] _ c284 (True_ok (decide (s=sTrue))) ?_
  rw[decide_eq_false h1]
  refine kW ?_
  (refine kS ?_;repeat intro γ)
  exact .of (by rw[← hF];rfl)
 rw[if_neg (by rintro (h | h);exact h1 h;exact h2 h)] at hF
 rw[resQ_q] at hq
 have hq2:=qAV_cases (parseQ s.data.toList).1
 generalize qAV (parseQ s.data.toList).1=q at *
 generalize (parseQ s.data.toList).2=b at *
 have hN:=Number_ok q hq2
 (refine kS ?_;repeat intro γ)
 refine CallP.pure [] _ c113 hq ?_
 rcases hq2 with rfl | ⟨n,d,rfl⟩
 all_goals
  refine kW ?_
  (refine kS ?_;repeat intro γ)
  refine CallP.pure [] _ c201 hN ?_
  refine kW ?_
  (refine kS ?_;repeat intro γ)
  exact .of (by rw[← hF];rfl)
def valueF (s:ByteArray) (t:Int):Bool:=
 if s=sTrue∨s=sFalse then decide (1=t) else (parseQ s.data.toList).2&&decide (0=t)
theorem value_ok (s:ByteArray) (t:Int) (hs:s.size<2^35):PureCall Tryz.prog 279 [encS s,encI t] (encB (valueF s t)):=by
 refine PC [] Tryz.func279 rfl (by rfl) rfl ?_
 have hp:=ParseV_ok s hs
 generalize hF:valueF s t=F
 unfold valueF at hF
 unfold resV at hp
 have hq2:=qAV_cases (parseQ s.data.toList).1
 generalize qAV (parseQ s.data.toList).1=q at *
 generalize (parseQ s.data.toList).2=b at *
 by_cases h1:s=sTrue∨s=sFalse
 ·rw[if_pos h1] at hp hF
  refine kW ?_
  (refine kS ?_;repeat intro γ)
  refine CallP.pure [] _ c263 hp ?_
  refine kW ?_
  (refine kS ?_;repeat intro γ)
  refine CallP.flat [] _ c301 (TypeV_ok nilQ (decide (s=sTrue)) true (.inl rfl)) rfl ?_
  refine kW ?_
  (refine kS ?_;repeat intro γ)
  exact .of (by rw[← hF];rfl)
 ·rw[if_neg h1] at hp hF
  have hT:=TypeV_ok q false false hq2
  refine kW ?_
  (refine kS ?_;repeat intro γ)
  refine CallP.pure [] _ c263 hp ?_
  rcases hq2 with rfl | ⟨n,d,rfl⟩
  all_goals
   refine kW ?_
   (refine kS ?_;repeat intro γ)
   refine CondP.intro (fun h2=>?_) (fun h2=>?_)<;>refine kW ?_
   ·rw[h2,Bool.true_and] at hF
    (refine kS ?_;repeat intro γ)
    refine CallP.flat [] _ c301 hT rfl ?_
    refine kW ?_
    (refine kS ?_;repeat intro γ)
    exact .of (by rw[← hF];rfl)
   ·rw[h2,Bool.false_and] at hF
    (refine kS ?_;repeat intro γ)
    exact .of (by rw[← hF];rfl)
end Go.Proofs.YtlhdoekgipaihaaGreatDoor
namespace Go.Proofs.YtlhdoekgipaihaaGreatDoor
open Go Go.Fw
def nlt (n:Int):Bool:=(decide (n<97)||decide (122<n))&&(decide (n<65)||decide (90<n))
theorem factorC_ok (n:Int):PureCall Tryz.prog 377 [.val (.int .i32 n)] (encB (nlt n)):=by
 refine PC [] Tryz.func377 rfl (by rfl) rfl ?_
 refine kW ?_
 (repeat (any_goals (first | ((first | refine N0 ?_ | refine A0 fun γ=>?_ | refine C1 ?_ | refine C2 ?_ | refine C3 ?_ | refine C4 ?_ | refine C5 ?_ | refine C6 ?_ | refine C7 ?_ | refine D0 fun γs=>?_ | refine A1 fun γs=>?_ | refine N2 ?_ | refine N3 ?_ | refine N1 ?_);refine kW ?_) | (refine CondP.dec (fun _=>?_) (fun _=>?_)<;>refine kW ?_) | (refine CondP.intro (fun _=>?_) (fun _=>?_)<;>refine kW ?_))))
 all_goals (refine .of ?_;show AV.val (Value.bool _)=AV.val (Value.bool _);congr 1;unfold nlt;simp_all<;>omega)
theorem symbolC_ok (n:Int):PureCall Tryz.prog 393 [.val (.int .i32 n)] (encB (nlt n)):=by
 refine PC [] Tryz.func393 rfl (by rfl) rfl ?_
 refine kW ?_
 (repeat (any_goals (first | ((first | refine N0 ?_ | refine A0 fun γ=>?_ | refine C1 ?_ | refine C2 ?_ | refine C3 ?_ | refine C4 ?_ | refine C5 ?_ | refine C6 ?_ | refine C7 ?_ | refine D0 fun γs=>?_ | refine A1 fun γs=>?_ | refine N2 ?_ | refine N3 ?_ | refine N1 ?_);refine kW ?_) | (refine CondP.dec (fun _=>?_) (fun _=>?_)<;>refine kW ?_) | (refine CondP.intro (fun _=>?_) (fun _=>?_)<;>refine kW ?_))))
 all_goals (refine .of ?_;show AV.val (Value.bool _)=AV.val (Value.bool _);congr 1;unfold nlt;simp_all<;>omega)
theorem rune_high (l:List UInt8) (p:Nat) (hp:p<l.length) (h:128≤(l[p]).toNat):128≤(runeAt (ofL l) p).1:=by
 unfold runeAt Utf8.decode
 have e:((ofL l).get! (p+0)).toNat=(l[p]).toNat:=by
  show (l.toArray[p+0]!).toNat=_
  rw[Nat.add_zero,getElem!_pos _ p (by simpa using hp)]
  simp
 simp only[e]
 rw[if_neg (by omega)]
 unfold Utf8.runeError
 split
 ·split<;>simp<;>omega
 ·split
  ·split
   ·rename_i h2;simp at h2 ⊢;omega
   ·simp
  ·split
   ·split
    ·rename_i h2;simp at h2 ⊢;omega
    ·simp
   ·simp
def fiL:List UInt8→Int→Int
 | [],_=>-1
 | c::r,i=>if nlt c.toNat then i else fiL r (i+1)
theorem indexFuncS_ok (k:Nat) (l:List UInt8) (hl:l.length<2^62) (hk:Callable Tryz.prog k) (hf:∀ n:Int,PureCall Tryz.prog k [.val (.int .i32 n)] (encB (nlt n))) :
  PureCall Tryz.prog 391 [encS (ofL l),.fn (.func k) [] [],encB true] (encI (fiL l 0)):=by
 refine PC [] Tryz.func391 rfl (by rfl) rfl ?_
 generalize hF:fiL l 0=F
 refine kW ?_
 (refine kS ?_;repeat intro γ)
 refine LoopP.intro (fun m σ H=>∃ g p,m=l.length-p∧p≤l.length∧fiL (l.drop p) p=F∧σ=fr [(0,encS (ofL l)),(1,.fn (.func k) [] []),(2,encB true),(10,.it 10 g)]∧H=hp [(10,g,⟨0,0,[encS (ofL l),encI p]⟩)]) ?_ ?_
 ·exact .intro <| W.of ⟨_,_,0,rfl,Nat.zero_le _,hF,rfl,rfl⟩ ⟨rfl,rfl,rfl,rfl,trivial⟩ ⟨rfl,trivial⟩
 ·rintro m σ H ⟨g,p,rfl,hp,hF,rfl,rfl⟩
  refine kW ?_
  (refine kS ?_;repeat intro γ)
  rw[ofL_size]
  refine CondP.dec (fun h=>?_) (fun h=>?_)<;>refine kW ?_
  ·have hp':p<l.length:=by omega
   rw[List.drop_eq_getElem_cons hp'] at hF
   unfold fiL at hF
   by_cases h8:(l[p]).toNat<128
   ·have hr:runeAt (ofL l) (Int.toNat p)=((l[p]).toNat,1):=rune_ascii l p hp' h8
    rw[hr]
    generalize l[p]=c at hF h8 ⊢
    (refine kS ?_;repeat intro γ)
    refine CallP.flat [] _ hk (hf _) rfl ?_
    refine kW ?_
    (refine kS ?_;repeat intro γ)
    refine CondP.intro (fun h1=>?_) (fun h1=>?_)<;>refine kW ?_
    ·have h1':nlt c.toNat=true:=by simpa using h1
     rw[if_pos h1'] at hF
     (refine kS ?_;repeat intro γ)
     exact .of (by rw[← hF];rfl)
    ·have h1':nlt c.toNat=false:=by simpa using h1
     rw[if_neg (by rw[h1'];decide)] at hF
     (refine kS ?_;repeat intro γ)
     exact .intro <| W.of ⟨_,by omega,_,p+1,rfl,hp',hF,rfl,rfl⟩ ⟨rfl,rfl,rfl,rfl,trivial⟩ ⟨rfl,trivial⟩
   ·have hr:=rune_high l p hp' (by omega)
    have hn:nlt (l[p]).toNat=true:=by unfold nlt;simp;omega
    rw[if_pos hn] at hF
    have hr2:nlt ((runeAt (ofL l) (Int.toNat p)).1:Nat)=true:=by unfold nlt;rw[Int.toNat_natCast];simp;omega
    (refine kS ?_;repeat intro γ)
    refine CallP.flat [] _ hk (hf _) rfl ?_
    refine kW ?_
    rw[hr2]
    refine kW ?_
    (refine kS ?_;repeat intro γ)
    exact .of (by rw[← hF];rfl)
  ·rw[List.drop_eq_nil_of_le (by omega)] at hF
   (refine kS ?_;repeat intro γ)
   exact .of (by rw[← hF];rfl)
theorem IndexFuncS_ok (k:Nat) (l:List UInt8) (hl:l.length<2^62) (hk:Callable Tryz.prog k) (hf:∀ n:Int,PureCall Tryz.prog k [.val (.int .i32 n)] (encB (nlt n))) :
  PureCall Tryz.prog 376 [encS (ofL l),.fn (.func k) [] []] (encI (fiL l 0)):=by
 refine PC [] Tryz.func376 rfl (by rfl) rfl ?_
 refine kW ?_
 (refine kS ?_;repeat intro γ)
 refine CallP.flat [] _ c391 (indexFuncS_ok k l hl hk hf) rfl ?_
 refine kW ?_
 (refine kS ?_;repeat intro γ)
 exact .of rfl
theorem ContainsFuncS_ok (k:Nat) (l:List UInt8) (hl:l.length<2^62) (hk:Callable Tryz.prog k) (hf:∀ n:Int,PureCall Tryz.prog k [.val (.int .i32 n)] (encB (nlt n))) :
  PureCall Tryz.prog 392 [encS (ofL l),.fn (.func k) [] []] (encB (decide (0≤fiL l 0))):=by
 refine PC [] Tryz.func392 rfl (by rfl) rfl ?_
 refine kW ?_
 (refine kS ?_;repeat intro γ)
 refine CallP.flat [] _ c376 (IndexFuncS_ok k l hl hk hf) rfl ?_
 refine kW ?_
 (refine kS ?_;repeat intro γ)
 exact .of rfl
def symF (l:List UInt8):Bool:=decide (l≠[])&&decide (l.length≤8)&&!decide (0≤fiL l 0)
theorem Symbol_ok (l:List UInt8) (hl:l.length<2^62):PureCall Tryz.prog 378 [encS (ofL l)] (encB (symF l)):=by
 refine PC [] Tryz.func378 rfl (by rfl) rfl ?_
 generalize hF:symF l=F
 unfold symF at hF
 have hn:=ofL_nil l
 have hsz:=ofL_size l
 refine kW ?_
 (refine kS ?_;repeat intro γ)
 refine CondP.dec (fun h1=>?_) (fun h1=>?_)<;>refine kW ?_
 ·have h1':=hn.1 h1
  subst h1'
  (refine kS ?_;repeat intro γ)
  exact .of (by rw[← hF];rfl)
 ·rw[decide_eq_true (show l≠[] from fun e=>h1 (hn.2 e)),Bool.true_and] at hF
  (refine kS ?_;repeat intro γ)
  rw[hsz]
  refine CondP.dec (fun h=>?_) (fun h=>?_)<;>refine kW ?_
  ·rw[decide_eq_true (by omega),Bool.true_and] at hF
   (refine kS ?_;repeat intro γ)
   refine CallP.flat [] _ c392 (ContainsFuncS_ok 393 l hl c393 symbolC_ok) rfl ?_
   refine kW ?_
   (refine kS ?_;repeat intro γ)
   exact .of (by rw[← hF];rfl)
  ·rw[decide_eq_false (by omega),Bool.false_and] at hF
   (refine kS ?_;repeat intro γ)
   exact .of (by rw[← hF];rfl)
end Go.Proofs.YtlhdoekgipaihaaGreatDoor
namespace Go.Proofs.YtlhdoekgipaihaaGreatDoor
open Go Go.Fw
def cntL (l:List UInt8) (c:UInt8):Nat:=l.count c
theorem extCount (l:List UInt8) (n:Nat) (h:n<256):ExtCall Tryz.prog 398 [encS (ofL l),.val (.int .u8 n)] (.int .i64 (cntL l (UInt8.ofNat n))):=by
 refine ⟨rfl,fun κ w N vs hv=>?_⟩
 rw[vrs2 hv]
 have h1:Tryz.prog.funcs[398]?=some Tryz.f398:=Tryz.func398
 have h2:(Tryz.f398.name == "runtime.NumGoroutine")=false:=by kernel_rfl
 have h3:Tryz.f398.body.isNone=true:=by kernel_rfl
 have h4:Extern.findNext Tryz.f398=none:=by kernel_rfl
 have h5:Extern.find Tryz.f398=some Extern.BytealgCount.count:=by kernel_rfl
 simp only[callFunc,Sem.run_bind,run_program,Result.andThen_ok,h1,h2,h3,h4,h5,run_mark,if_true,Bool.false_eq_true,if_false]
 rw[show (Extern.BytealgCount.count #[.string (ofL l),.int .u8 n]).run Tryz.prog w=_ from Lib.run_countString (ofL l) n w,Int.toNat_natCast];rfl
theorem Count_ok (l:List UInt8) (c:UInt8) (hl:l.length<2^62):PureCall Tryz.prog 389 [encS (ofL l),encS (b1 c)] (encI (cntL l c)):=by
 refine PC [] Tryz.func389 rfl (by rfl) rfl ?_
 have hb:(b1 c).size=1:=rfl
 have hc:byteAt (b1 c) (Int.toNat 0)=(c.toNat:Int):=rfl
 have he:=extCount l c.toNat c.toNat_lt
 rw[UInt8.ofNat_toNat] at he
 refine kW ?_
 (refine kS ?_;repeat intro γ)
 rw[hc]
 refine CallP.ext _ he ?_
 refine kW ?_
 (refine kS ?_;repeat intro γ)
 exact .of rfl
theorem IndexS_ok (s:ByteArray) (c:UInt8):PureCall Tryz.prog 390 [encS s,encS (b1 c)] (encI (idxB s c)):=by
 refine PC [] Tryz.func390 rfl (by rfl) rfl ?_
 refine kW ?_
 (refine kS ?_;repeat intro γ)
 refine CallP.flat [] _ c345 (Index_ok s c) rfl ?_
 refine kW ?_
 (refine kS ?_;repeat intro γ)
 exact .of rfl
def splitL:List UInt8→List (List UInt8)
 | []=>[[]]
 | c::r=>if c=46 then []::splitL r else match splitL r with
   | x::xs=>(c::x)::xs
   | []=>[[c]]
theorem splitL_cons (c:UInt8) (r:List UInt8):splitL (c::r)=if c=46 then []::splitL r else match splitL r with
 | x::xs=>(c::x)::xs
 | []=>[[c]]:=rfl
theorem splitL_ne (l:List UInt8):splitL l≠[]:=by
 cases l with
 | nil=>simp[splitL]
 | cons c r=>
   unfold splitL
   split
   ·simp
   ·split<;>simp
theorem splitL_cnt (l:List UInt8):(splitL l).length=cntL l 46+1:=by
 induction l with
 | nil=>rfl
 | cons c r ih=>
   unfold splitL cntL
   rw[List.count_cons]
   have hne:=splitL_ne r
   by_cases hc:c=46
   ·rw[if_pos hc];subst hc;simp[ih,cntL]
   ·rw[if_neg hc]
    cases hr:splitL r with
    | nil=>exact absurd hr hne
    | cons x xs=>
      rw[hr] at ih
      unfold cntL at ih
      simp only[List.length_cons] at ih ⊢
      rw[if_neg (by simpa using hc)]
      omega
theorem splitL_idx (l:List UInt8):(idxB (ofL l) 46<0→splitL l=[l]∧cntL l 46=0)∧(0≤idxB (ofL l) 46→splitL l=l.take (idxB (ofL l) 46).toNat::splitL (l.drop ((idxB (ofL l) 46).toNat+1))∧cntL l 46=cntL (l.drop ((idxB (ofL l) 46).toNat+1)) 46+1):=by
 induction l with
 | nil=>exact ⟨fun _=>⟨rfl,rfl⟩,by decide⟩
 | cons c r ih=>
   rw[idxB_cons,splitL_cons]
   by_cases hc:c=46
   ·subst hc
    simp[cntL]
   ·rw[if_neg hc,if_neg hc]
    obtain ⟨h1,h2⟩:=ih
    have hcnt:cntL (c::r) 46=cntL r 46:=by unfold cntL;rw[List.count_cons,if_neg (by simpa using hc)];rfl
    rw[hcnt]
    by_cases hi:idxB (ofL r) 46<0
    ·rw[if_pos hi]
     obtain ⟨h3,h4⟩:=h1 hi
     rw[h3]
     exact ⟨fun _=>⟨rfl,h4⟩,fun h=>by omega⟩
    ·rw[if_neg hi]
     obtain ⟨h3,h4⟩:=h2 (by omega)
     refine ⟨fun h=>by omega,fun _=>?_⟩
     rw[show (idxB (ofL r) 46+1).toNat=(idxB (ofL r) 46).toNat+1 by omega,h3]
     refine ⟨?_,h4⟩
     rw[List.take_succ_cons,List.drop_succ_cons]
def encL (l:List UInt8):AV:=encS (ofL l)
theorem repS (n:Nat):List.replicate n (mkEl { size:=1,bytes:=16,zero:=[Value.string ⟨#[]⟩],kind:=Kd.str })=(List.replicate n ([]:List UInt8)).map encL:=by rw[List.map_replicate];rfl
theorem setL (xs:List (List UInt8)) (v:List UInt8) (n i:Nat) (h:i=xs.length):((xs++List.replicate (n+1) []).map encL).set i (encL v)=((xs++[v])++List.replicate n []).map encL:=by
 subst h
 rw[List.replicate_succ,set_map encL _ _ v _ rfl,set_at];simp
theorem endL {S:List Nat} {H:Hp} {k:Nat} {L:List AV} {n:Nat} {xs:List (List UInt8)} (h:L=xs.map encL) (hn:n=xs.length):AV.sl 1 (((L.drop 0).take n).map (snapEl (snapC S H k)))=.sl 1 (xs.map encL):=by
 subst h
 rw[snap_list _ _ _ _ hn fun x=>by cases k<;>rfl]
theorem genSplit_ok (l:List UInt8) (hl:l.length<2^40):PureCall Tryz.prog 375 [encS (ofL l),encS (b1 46),encI 0,encI (-1)] (.sl 1 ((splitL l).map encL)):=by
 refine PC [31] Tryz.func375 rfl (by rfl) rfl ?_
 have hb:(b1 46).size=1:=rfl
 have hsz:=ofL_size l
 have hcl:cntL l 46≤l.length:=List.count_le_length
 refine kW ?_
 (refine kS ?_;repeat intro γ)
 refine CallP.flat [] _ c389 (Count_ok l 46 (by omega)) rfl ?_
 refine kW ?_
 (refine kS ?_;repeat intro γ)
 have e0:(min ((cntL l 46:Int)+1) (((ofL l).size:Int)+1)).toNat=cntL l 46+1:=by rw[hsz];omega
 have e1:min ((cntL l 46:Int)+1) (((ofL l).size:Int)+1)-1=cntL l 46:=by rw[hsz];omega
 simp only[e0,e1]
 refine LoopP.intro (fun k σ H=>∃ g,∃ xs:List (List UInt8),∃ m:List UInt8,k=cntL m 46∧splitL l=xs++splitL m∧xs.length+cntL m 46=cntL l 46∧m.length≤l.length ∧
  σ=fr [(0,encS (ofL m)),(1,encS (b1 46)),(2,encI 0),(3,encI (cntL l 46)),(9,.own 31 g 0 (cntL l 46+1)),(10,encI xs.length)] ∧
  H=hp [(31,g,⟨9,1,(xs++List.replicate (cntL m 46+1) []).map encL⟩)]) ?_ ?_
 ·refine .intro <| W.of ⟨_,_,[],l,rfl,rfl,by simp,Nat.le_refl _,rfl,rfl⟩ ⟨rfl,rfl,rfl,rfl,rfl,rfl,trivial⟩ ⟨?_,trivial⟩
  show some (_,(⟨_,_,_⟩:Blk))=some (_,⟨_,_,_⟩)
  rw[List.nil_append,← repS]
 ·rintro k σ H ⟨g,xs,m,rfl,hs,hc,hm,rfl,rfl⟩
  have hszm:=ofL_size m
  have hli:=@idxB_lt (ofL m) 46
  obtain ⟨hi1,hi2⟩:=splitL_idx m
  refine kW ?_
  (refine kS ?_;repeat intro γ)
  refine CondP.dec (fun h=>?_) (fun h=>?_)<;>refine kW ?_
  ·(refine kS ?_;repeat intro γ)
   refine CallP.flat [] _ c390 (IndexS_ok (ofL m) 46) rfl ?_
   have hpos:0≤idxB (ofL m) 46:=by
    rcases Int.lt_or_le (idxB (ofL m) 46) 0 with h' | h'
    ·have:=(hi1 h').2;omega
    ·exact h'
   obtain ⟨hsp,hcn⟩:=hi2 hpos
   generalize idxB (ofL m) 46=j at *
   refine kW ?_
   (refine kS ?_;repeat intro γ)
   refine CondP.neg (by omega) ?_
   refine kW ?_
   (refine kS ?_;repeat intro γ)
   rw[Nat.zero_add,Int.toNat_natCast,getD_map encL _ _ (by simp)]
   refine kW ?_
   (refine kS ?_;repeat intro γ)
   refine .intro <| W.of ⟨cntL (m.drop (j.toNat+1)) 46,by omega,g,xs++[m.take j.toNat],m.drop (j.toNat+1),rfl,by rw[hs,hsp];simp,by simp;omega,by simp<;>omega,rfl,rfl⟩ ⟨?_,rfl,rfl,rfl,rfl,?_,trivial⟩ ⟨?_,trivial⟩
   ·show encS ((ofL m).extract (j+(((b1 46).size:Nat):Int)).toNat (ofL m).size)=encS _
    rw[hb,ofL_extract,hszm,List.take_length,show (j+((1:Nat):Int)).toNat=j.toNat+1 by omega]
   ·show AV.val (.int .i64 _)=AV.val (.int .i64 _)
    congr 2;simp
   ·have hv:encS ((ofL m).extract 0 (j+0).toNat)=encL (m.take j.toNat):=by
     rw[ofL_extract,Int.add_zero,List.drop_zero];rfl
    show some (g,(⟨9,1,List.set _ _ (encS ((ofL m).extract 0 (j+0).toNat))⟩:Blk))=_
    rw[hv,setL _ _ _ _ rfl,hcn]
  ·have hc0:cntL m 46=0:=by omega
   have hsm:splitL m=[m]:=by
    rcases Int.lt_or_le (idxB (ofL m) 46) 0 with h' | h'
    ·exact (hi1 h').1
    ·have:=(hi2 h').2;omega
   rw[hsm] at hs
   rw[hc0]
   (refine kS ?_;repeat intro γ)
   rw[Nat.zero_add,Int.toNat_natCast,getD_map encL _ _ (by simp)]
   refine kW ?_
   (refine kS ?_;repeat intro γ)
   refine .of ?_
   rw[hs]
   refine endL (L:=((xs++List.replicate (0+1) []).map encL).set _ (encL m)) (xs:=xs++[m]) ?_ ?_
   ·exact (setL _ _ 0 _ (by omega)).trans (by simp)
   ·show ((xs.length:Int)+1).toNat-0=_
    rw[List.length_append,List.length_singleton];omega
theorem Split_ok (l:List UInt8) (hl:l.length<2^40):PureCall Tryz.prog 366 [encS (ofL l),encS (b1 46)] (.sl 1 ((splitL l).map encL)):=by
 refine PC [] Tryz.func366 rfl (by rfl) rfl ?_
 refine kW ?_
 (refine kS ?_;repeat intro γ)
 refine CallP.pure [] _ c375 (genSplit_ok l hl) ?_
 refine kW ?_
 (refine kS ?_;repeat intro γ)
 exact .of rfl
end Go.Proofs.YtlhdoekgipaihaaGreatDoor
namespace Go.Proofs.YtlhdoekgipaihaaGreatDoor
open Go Go.Fw
def fitsF (n d:Int):Bool:=!decide (sgn n=0)&&decide (nd n≤9)&&decide (nd d≤9)
theorem fits_ok (n d:Int) (hn:zl n<2^36) (hd:zl d<2^36):PureCall Tryz.prog 380 [encQ n d] (encB (fitsF n d)):=by
 refine PC [] Tryz.func380 rfl (by rfl) rfl ?_
 generalize hF:fitsF n d=F
 unfold fitsF at hF
 have hs:=SignQ_ok n d
 have h1:=NumQ_ok n d
 have h2:=DenQ_ok n d
 generalize sgn n=s at hF hs
 unfold encQ at hs h1 h2 ⊢
 refine kW ?_
 (refine kS ?_;repeat intro γ)
 refine CallP.flat [] _ c160 hs rfl ?_
 refine kW ?_
 (refine kS ?_;repeat intro γ)
 refine CondP.dec (fun h=>?_) (fun h=>?_)<;>refine kW ?_
 ·rw[decide_eq_true h] at hF
  (refine kS ?_;repeat intro γ)
  exact .of (by rw[← hF];rfl)
 rw[decide_eq_false h,Bool.not_false,Bool.true_and] at hF
 (refine kS ?_;repeat intro γ)
 refine CallP.pure [] _ c395 h1 ?_
 refine kW ?_
 (refine kS ?_;repeat intro γ)
 refine CallP.flat [] _ c234 (Digits_ok n hn) rfl ?_
 refine kW ?_
 (refine kS ?_;repeat intro γ)
 refine CondP.dec (fun h=>?_) (fun h=>?_)<;>refine kW ?_
 ·rw[decide_eq_true (by omega),Bool.true_and] at hF
  (refine kS ?_;repeat intro γ)
  refine CallP.pure [] _ c396 h2 ?_
  refine kW ?_
  (refine kS ?_;repeat intro γ)
  refine CallP.flat [] _ c234 (Digits_ok d hd) rfl ?_
  refine kW ?_
  (refine kS ?_;repeat intro γ)
  refine .of ?_
  rw[← hF]
  show AV.val (.bool _)=AV.val (.bool _)
  congr 2
  exact decide_eq_decide.2 (by omega)
 ·rw[decide_eq_false (by omega),Bool.false_and] at hF
  (refine kS ?_;repeat intro γ)
  exact .of (by rw[← hF];rfl)
def wrT (n d:Int):List Nat:=if qT n d=[49] then [] else if d=1 then qT n d else 40::qT n d++[41]
theorem ofT_inj {a b:List Nat} (ha:∀ c∈a,c<256) (hb:∀ c∈b,c<256) (h:ofL (a.map UInt8.ofNat)=ofL (b.map UInt8.ofNat)):a=b:=by
 have h1:=congrArg (fun s:ByteArray=>s.data.toList.map UInt8.toNat) h
 simp only[ofL,List.map_map] at h1
 have key:∀ l:List Nat,(∀ c∈l,c<256)→l.map (UInt8.toNat∘UInt8.ofNat)=l:=by
  intro l hl
  refine (List.map_congr_left fun c hc=>?_).trans (List.map_id l)
  have:=hl c hc
  simp;omega
 rwa [key a ha,key b hb] at h1
theorem decT_lt (n:Nat):∀ c∈decT n,c<256:=by
 intro c hc
 have:=List.all_eq_true.1 (decT_dg n) c hc
 unfold isDg at this
 simp at this
 omega
theorem sT_lt (z:Int):∀ c∈sT z,c<256:=by
 intro c hc
 unfold sT at hc
 split at hc
 ·rcases List.mem_cons.1 hc with h | h
  ·omega
  ·exact decT_lt _ c h
 ·exact decT_lt _ c hc
theorem qT_lt (n d:Int):∀ c∈qT n d,c<256:=by
 intro c hc
 unfold qT at hc
 split at hc
 ·exact sT_lt _ c hc
 ·rcases List.mem_append.1 hc with h | h
  ·exact sT_lt _ c h
  ·rcases List.mem_cons.1 h with h | h
   ·omega
   ·exact sT_lt _ c h
theorem qT_le (n d:Int):(qT n d).length≤9*zl n+9*zl d+5:=by
 have s3:=sT_le n
 have s4:=sT_le d
 unfold qT
 split
 ·omega
 ·simp;omega
theorem write_ok (n d:Int) (hn:zl n<2^36) (hd:zl d<2^36):PureCall Tryz.prog 381 [encQ n d] (encT (wrT n d)):=by
 refine PC [] Tryz.func381 rfl (by rfl) rfl ?_
 have hs:=StringQ_ok n d hn hd
 have hi:=IntegerQ_ok n d
 have hle:=qT_le n d
 have hlt:=qT_lt n d
 have hsz:=encT_size (qT n d)
 generalize hF:wrT n d=F
 unfold wrT at hF
 have h1:ofL ((qT n d).map UInt8.ofNat)=⟨#[49]⟩↔qT n d=[49]:=by
  constructor
  ·intro h
   exact ofT_inj hlt (by simp) (h.trans (show (⟨#[49]⟩:ByteArray)=ofL ([49].map UInt8.ofNat) from rfl))
  ·intro h;rw[h];rfl
 generalize qT n d=q at *
 unfold encQ at hs hi ⊢
 refine kW ?_
 (refine kS ?_;repeat intro γ)
 refine CallP.flat [] _ c162 hs rfl ?_
 refine kW ?_
 (refine kS ?_;repeat intro γ)
 refine CondP.dec (fun h=>?_) (fun h=>?_)<;>refine kW ?_
 ·rw[if_pos (h1.1 h)] at hF
  (refine kS ?_;repeat intro γ)
  exact .of (by rw[← hF];rfl)
 rw[if_neg (fun e=>h (h1.2 e))] at hF
 (refine kS ?_;repeat intro γ)
 refine CallP.flat [] _ c338 hi rfl ?_
 refine kW ?_
 (refine kS ?_;repeat intro γ)
 refine CondP.dec (fun h2=>?_) (fun h2=>?_)<;>refine kW ?_
 ·rw[if_pos h2] at hF
  (refine kS ?_;repeat intro γ)
  exact .of (by rw[← hF];rfl)
 rw[if_neg h2] at hF
 have s5:(⟨#[40]⟩:ByteArray).size=1:=rfl
 have s6:(⟨#[41]⟩:ByteArray).size=1:=rfl
 (refine kS ?_;repeat intro γ)
 rw[ByteArray.size_append]
 (refine kS ?_;repeat intro γ)
 refine .of ?_
 rw[← hF]
 have e1:(⟨#[40]⟩:ByteArray)=ofL (List.map UInt8.ofNat [40]):=rfl
 have e2:(⟨#[41]⟩:ByteArray)=ofL (List.map UInt8.ofNat [41]):=rfl
 show encS _=encS _
 rw[e1,e2,encT_app,encT_app];rfl
theorem Of1Q_ok:PureCall Tryz.prog 154 [encI 1] (encQ 1 1):=by
 refine PC [] Tryz.func154 rfl (by rfl) rfl ?_
 refine kW ?_
 (refine kS ?_;repeat intro γ)
 refine CallP.pure [] _ c233 Of1_ok ?_
 refine kW ?_
 (refine kS ?_;repeat intro γ)
 refine CallP.pure [] _ c233 Of1_ok ?_
 refine kW ?_
 (refine kS ?_;repeat intro γ)
 exact .of rfl
end Go.Proofs.YtlhdoekgipaihaaGreatDoor
namespace Go.Proofs.YtlhdoekgipaihaaGreatDoor
open Go Go.Fw
theorem fiL_le (l:List UInt8):∀ i:Int,0≤i→fiL l i=-1∨(i≤fiL l i∧fiL l i<i+l.length):=by
 induction l with
 | nil=>intro i hi;left;rfl
 | cons c r ih=>
   intro i hi
   unfold fiL
   split
   ·right;simp;omega
   ·rcases ih (i+1) (by omega) with h | h
    ·left;exact h
    ·right;simp;omega
def facT (s:ByteArray) (j:Nat):ByteArray:=
 if (cutP (s.extract j s.size) (b1 40)).2 then trimX (cutP (s.extract j s.size) (b1 40)).1 (b1 41) else s.extract j s.size
def facF (s:ByteArray):ByteArray×Option (Int×Int)×Bool:=
 if fiL s.data.toList 0<0 then (s,some (1,1),symF s.data.toList)
 else (s.extract 0 (fiL s.data.toList 0).toNat,(parseQ (facT s (fiL s.data.toList 0).toNat).data.toList).1,
  (parseQ (facT s (fiL s.data.toList 0).toNat).data.toList).2&&symF (s.extract 0 (fiL s.data.toList 0).toNat).data.toList&&match (parseQ (facT s (fiL s.data.toList 0).toNat).data.toList).1 with
    | some (n,d)=>fitsF n d&&decide (ofL ((wrT n d).map UInt8.ofNat)=s.extract (fiL s.data.toList 0).toNat s.size)
    | none=>false)
theorem ext_size (s:ByteArray) (a b:Nat):(s.extract a b).size≤s.size:=by
 have:=ofL_extract s.data.toList a b
 rw[ofL_self] at this
 rw[this,ofL_size,List.length_drop,List.length_take]
 show _≤s.data.toList.length
 omega
theorem cutP_size (s p:ByteArray):(cutP s p).1.size≤s.size:=by
 unfold cutP
 split
 ·exact ext_size ..
 ·exact Nat.le_refl _
theorem trimX_size (s p:ByteArray):(trimX s p).size≤s.size:=by
 unfold trimX
 split
 ·exact ext_size ..
 ·exact Nat.le_refl _
theorem facT_size (s:ByteArray) (j:Nat):(facT s j).size≤s.size:=by
 unfold facT
 split
 ·exact Nat.le_trans (trimX_size ..) (Nat.le_trans (cutP_size ..) (ext_size ..))
 ·exact ext_size ..
theorem parseQ_zl {l:List UInt8} {n d:Int} (h:(parseQ l).1=some (n,d)):zl n≤l.length∧zl d≤l.length+1:=by
 obtain ⟨hp1,hp2⟩:=pair_len l
 have h1:zl 1=1:=by unfold zl;rw[show (1:Int).natAbs=1 from rfl,dg_one hB9 (by omega) (by unfold B9;omega)];rfl
 unfold parseQ at h
 split at h
 ·cases h
 ·rename_i x hx
  have:=parseW_zl hx
  split at h
  ·cases h;omega
  ·split at h
   ·cases h
   ·rename_i y hy
    have:=parseW_zl hy
    split at h<;>cases h
    omega
theorem parseQ_some {l:List UInt8} (h:(parseQ l).2=true):∃ n d,(parseQ l).1=some (n,d):=by
 unfold parseQ at *
 split
 ·rename_i hx;rw[hx] at h;cases h
 ·rename_i x hx
  rw[hx] at h
  simp only at h
  split
  ·exact ⟨_,_,rfl⟩
  ·rename_i hy
   rw[hy] at h
   simp only at h
   split
   ·rename_i hz;rw[hz] at h;cases h
   ·rename_i y hz
    rw[hz] at h
    simp only at h
    split
    ·rename_i h1;rw[if_pos h1] at h;cases h
    ·exact ⟨_,_,rfl⟩
set_option maxHeartbeats 1000000 in
theorem factor_ok (s:ByteArray) (hs:s.size<2^35):PureCall Tryz.prog 367 [encS s] (.tup [encS (facF s).1,qAV (facF s).2.1,encB (facF s).2.2]):=by
 refine PC [] Tryz.func367 rfl (by rfl) rfl ?_
 have hi:=IndexFuncS_ok 377 s.data.toList (by exact Nat.lt_trans hs (by decide)) c377 factorC_ok
 rw[ofL_self] at hi
 have hj:=fiL_le s.data.toList 0 (by omega)
 have hj2:fiL s.data.toList 0≤s.size:=by
  have:s.data.toList.length=s.size:=rfl
  omega
 generalize hF:facF s=F
 unfold facF at hF
 generalize fiL s.data.toList 0=j at *
 refine kW ?_
 (refine kS ?_;repeat intro γ)
 refine CallP.flat [] _ c376 hi rfl ?_
 refine kW ?_
 (refine kS ?_;repeat intro γ)
 refine CondP.dec (fun h=>?_) (fun h=>?_)<;>refine kW ?_
 ·rw[if_pos h] at hF
  have hsy:=Symbol_ok s.data.toList (by exact Nat.lt_trans hs (by decide))
  rw[ofL_self] at hsy
  (refine kS ?_;repeat intro γ)
  refine CallP.pure [] _ c154 Of1Q_ok ?_
  refine kW ?_
  (refine kS ?_;repeat intro γ)
  refine CallP.flat [] _ c378 hsy rfl ?_
  refine kW ?_
  (refine kS ?_;repeat intro γ)
  exact .of (by rw[← hF];rfl)
 rw[if_neg h] at hF
 have he:=ext_size s j.toNat s.size
 have he2:=ext_size s 0 j.toNat
 have ht:=facT_size s j.toNat
 have hcs:=cutP_size (s.extract j.toNat s.size) (b1 40)
 have hcp:=CutPrefix_ok (s.extract j.toNat s.size) (b1 40) (by omega) (by decide)
 have htx:=TrimSuffix_ok (cutP (s.extract j.toNat s.size) (b1 40)).1 (b1 41) (by omega) (by decide)
 have hpq:=ParseQ_ok (facT s j.toNat).data.toList (by show (facT s j.toNat).size<_;omega)
 rw[ofL_self,resQ_q] at hpq
 have hzl:=@parseQ_zl (facT s j.toNat).data.toList
 have hps:=@parseQ_some (facT s j.toNat).data.toList
 have hlen:(facT s j.toNat).data.toList.length<2^35:=by show (facT s j.toNat).size<_;omega
 generalize hp:parseQ (facT s j.toNat).data.toList=p at hF hpq hzl hps
 have hsy:=Symbol_ok (s.extract 0 j.toNat).data.toList (by show (s.extract 0 j.toNat).size<_;omega)
 rw[ofL_self] at hsy
 generalize hsym:symF (s.extract 0 j.toNat).data.toList=sy at hF hsy
 (refine kS ?_;repeat intro γ)
 refine CallP.pure [] _ c317 hcp ?_
 have hfT:facT s j.toNat=if (cutP (s.extract j.toNat s.size) (b1 40)).2 then trimX (cutP (s.extract j.toNat s.size) (b1 40)).1 (b1 41) else s.extract j.toNat s.size:=rfl
 generalize cutP (s.extract j.toNat s.size) (b1 40)=cp at htx hfT
 refine kW ?_
 (refine kS ?_;repeat intro γ)
 refine CondP.intro (fun h1=>?_) (fun h1=>?_)<;>refine kX ?_
 case' refine_1=>
  rw[if_pos h1] at hfT
  rw[← hfT] at htx
  (refine kS ?_;repeat intro γ)
  refine CallP.flat [] _ c379 htx rfl ?_
  refine kX ?_
  (refine kZ ?_;repeat intro γ)
 case' refine_2=>
  rw[if_neg (by rw[h1];decide)] at hfT
 all_goals
  refine cpA_seqW (W.of (l:=[(0,encS s),(2,encS ⟨#[]⟩),(3,.op 3 _ 0 0),(4,encB false),(5,encI j),(6,encS (facT s j.toNat))]) (m:=[(3,_,⟨124,4,[nilQ]⟩)]) ?_ ⟨rfl,rfl,rfl,rfl,rfl,congrArg encS ?_,trivial⟩ ⟨rfl,trivial⟩)
 case' refine_1.refine_2=>exact rfl
 case' refine_2.refine_2=>exact hfT.symm
 all_goals
  clear hfT htx hcp hcs h1 cp
  generalize facT s j.toNat=tt at *
  obtain ⟨o,b⟩:=p
  refine kW ?_
  (refine kS ?_;repeat intro γ)
  refine CallP.pure [] _ c113 hpq ?_
  cases b with
  | false=>
    replace hF:(s.extract 0 j.toNat,o,false)=F:=hF
    rcases qAV_cases o with ho | ⟨n,d,ho⟩
    all_goals
     simp only[ho]
     refine kW ?_
     (refine kS ?_;repeat intro γ)
     exact .of (by rw[← hF,ho];rfl)
  | true=>
    obtain ⟨n,d,ho⟩:=hps rfl
    replace ho:o=some (n,d):=ho
    subst ho
    obtain ⟨z1,z2⟩:=hzl rfl
    have z1':zl n<2^36:=by omega
    have z2':zl d<2^36:=by omega
    have hfi:=fits_ok n d z1' z2'
    have hwr:=write_ok n d z1' z2'
    replace hF:(s.extract 0 j.toNat,some (n,d),true&&sy&&(fitsF n d&&decide (ofL ((wrT n d).map UInt8.ofNat)=s.extract j.toNat s.size)))=F:=hF
    rw[Bool.true_and] at hF
    generalize fitsF n d=fi at hfi hF
    unfold encT at hwr
    generalize ofL ((wrT n d).map UInt8.ofNat)=wr at hwr hF
    refine kW ?_
    (refine kS ?_;repeat intro γ)
    refine CallG.intro _ c378 hsy ?_
    refine kW ?_
    (refine kS ?_;repeat intro γ)
    refine CondP.intro (fun h1=>?_) (fun h1=>?_)<;>refine kW ?_
    case' refine_2=>
     rw[h1,Bool.false_and] at hF
     (refine kS ?_;repeat intro γ)
     exact .of (by rw[← hF];rfl)
    rw[h1,Bool.true_and] at hF
    (refine kS ?_;repeat intro γ)
    refine CallG.intro _ c380 hfi ?_
    refine kW ?_
    (refine kS ?_;repeat intro γ)
    refine CondP.intro (fun h2=>?_) (fun h2=>?_)<;>refine kW ?_
    case' refine_2=>
     rw[h2,Bool.false_and] at hF
     (refine kS ?_;repeat intro γ)
     exact .of (by rw[← hF];rfl)
    rw[h2,Bool.true_and] at hF
    (refine kS ?_;repeat intro γ)
    refine CallG.intro _ c381 hwr ?_
    refine kW ?_
    (refine kS ?_;repeat intro γ)
    exact .of (by rw[← hF];rfl)
end Go.Proofs.YtlhdoekgipaihaaGreatDoor
namespace Go.Proofs.YtlhdoekgipaihaaGreatDoor
open Go Go.Fw
def leqS (a b:ByteArray):Bool:=Op.bytesLess a.toList b.toList||decide (a=b)
def unitsG:List (List UInt8)→ByteArray→Bool
 | [],_=>true
 | f::r,last=>(facF (ofL f)).2.2&&!leqS (facF (ofL f)).1 last&&unitsG r (facF (ofL f)).1
theorem splitL_len (l:List UInt8):∀ f∈splitL l,f.length≤l.length:=by
 induction l with
 | nil=>intro f hf;simp[splitL] at hf;subst hf;simp
 | cons c r ih=>
   intro f hf
   rw[splitL_cons] at hf
   split at hf
   ·rcases List.mem_cons.1 hf with h | h
    ·subst h;simp
    ·have:=ih f h;simp;omega
   ·split at hf
    ·rename_i x xs hr
     rcases List.mem_cons.1 hf with h | h
     ·subst h
      have:=ih x (by rw[hr];simp)
      simp;omega
     ·have:=ih f (by rw[hr];simp[h])
      simp;omega
    ·simp at hf;subst hf;simp
theorem find_str (s:ByteArray) (ks:List ByteArray):∃ r,findK (keyEq T 9 (encS s)) (ks.map encS)=some r:=by
 obtain ⟨r,h,_⟩:=look_str (β:=Unit) (fun _=>.dead) s (ks.map fun k=>(k,()))
 refine ⟨r,?_⟩
 rw[List.map_map] at h
 exact h
def resU (s:ByteArray):AV:=
 if s=⟨#[49]⟩ then .tup [.dead,encB true]
 else if unitsG (splitL s.data.toList) ⟨#[]⟩ then .tup [.dead,encB (decide (s.size≤80))]
 else .tup [.val (.map none),encB false]
set_option maxHeartbeats 1000000 in
theorem ParseU_ok (s:ByteArray) (hs:s.size<2^35):PureCall Tryz.prog 336 [encS s] (resU s):=by
 refine PC [] Tryz.func336 rfl (by rfl) rfl ?_
 have hsp:=Split_ok s.data.toList (by show s.size<_;omega)
 rw[ofL_self] at hsp
 have hsl:=splitL_len s.data.toList
 have hsc:=splitL_cnt s.data.toList
 have hcc:cntL s.data.toList 46≤s.size:=List.count_le_length
 have hfl:∀ f∈splitL s.data.toList,(ofL f).size<2^35:=fun f hf=>by
  have:=hsl f hf
  have e:s.data.toList.length=s.size:=rfl
  rw[ofL_size];omega
 clear hsl
 generalize hF:resU s=F
 unfold resU at hF
 generalize splitL s.data.toList=fs at *
 refine kW ?_
 (refine kS ?_;repeat intro γ)
 refine CondP.dec (fun h=>?_) (fun h=>?_)<;>refine kW ?_
 ·rw[if_pos h] at hF
  (refine kS ?_;repeat intro γ)
  exact .of (by rw[← hF];rfl)
 rw[if_neg h] at hF
 (refine kS ?_;repeat intro γ)
 refine CallP.pure [] _ c366 hsp ?_
 refine kW ?_
 (refine kS ?_;repeat intro γ)
 refine LoopP.intro (fun m σ H=>∃ g i last,∃ kl vs:List AV,(∃ ks:List ByteArray,kl=ks.map encS)∧m=fs.length-i∧i≤fs.length ∧
  (if unitsG (fs.drop i) last then AV.tup [.dead,encB (decide (s.size≤80))] else .tup [.val (.map none),encB false])=F ∧
  σ=fr [(0,encS s),(4,.om 11 g),(5,encS last),(16,.sl 1 (fs.map encL)),(17,encI fs.length),(18,encI i)] ∧
  H=hp [(11,g,⟨373,0,[.mp kl vs]⟩)]) ?_ ?_
 ·refine .intro <| W.of ⟨_,_,0,_,[],[],⟨[],rfl⟩,rfl,Nat.zero_le _,hF,rfl,rfl⟩ ⟨rfl,rfl,rfl,rfl,?_,rfl,trivial⟩ ⟨rfl,trivial⟩
  show AV.val (.int .i64 _)=AV.val (.int .i64 _)
  rw[List.length_map]
 ·clear hF
  rintro m σ H ⟨g,i,last,kl,vs,⟨ks,rfl⟩,rfl,hi,hF,rfl,rfl⟩
  refine kW ?_
  (refine kS ?_;repeat intro γ)
  refine CondP.dec (fun h=>?_) (fun h=>?_)<;>refine kW ?_
  ·have hi':i<fs.length:=by omega
   rw[List.drop_eq_getElem_cons hi'] at hF
   unfold unitsG at hF
   have hfa:=factor_ok (ofL fs[i]) (hfl _ (List.getElem_mem hi'))
   generalize facF (ofL fs[i])=fa at hF hfa
   obtain ⟨nm,o,b⟩:=fa
   (refine kR ?_;repeat intro γ)
   generalize fs[i]=f at hfa ⊢
   refine CallP.pure [] _ c367 hfa ?_
   obtain ⟨q,hq⟩:∃ q,q=qAV o:=⟨_,rfl⟩
   have hq2:=qAV_cases o
   rw[← hq] at hq2
   replace hF:(if (b&&!leqS nm last&&unitsG (fs.drop (i+1)) nm) then AV.tup [.dead,encB (decide (s.size≤80))] else .tup [.val (.map none),encB false])=F:=hF
   show cvOps _ _ _ (put _ _ (.tup [encS nm,qAV o,encB b])) _ _
   rw[← hq]
   rcases hq2 with rfl | ⟨n,d,rfl⟩
   all_goals
    refine kW ?_
    (refine kT ?_;repeat intro γ)
    cases b with
    | false=>
      replace hF:AV.tup [.val (.map none),encB false]=F:=hF
      (refine kT ?_;repeat intro γ)
      exact .of (by rw[← hF];rfl)
    | true=>
      rw[Bool.true_and] at hF
      (refine kT ?_;repeat intro γ)
      refine CondP.intro (fun h2=>?_) (fun h2=>?_)<;>refine kW ?_
      ·rw[show leqS nm last=true from h2] at hF
       replace hF:AV.tup [.val (.map none),encB false]=F:=hF
       (refine kT ?_;repeat intro γ)
       exact .of (by rw[← hF];rfl)
      rw[show leqS nm last=false from h2,Bool.not_false,Bool.true_and] at hF
      (refine kT ?_;repeat intro γ)
      refine DrawH.segs [(5,false),(6,true)] (by kernel_rfl) ?_
      refine kW ?_
      (refine kY ?_;repeat intro γ)
      refine Need.intro keyst9 ?_
      refine kW ?_
      (refine kY ?_;repeat intro γ)
      obtain ⟨r,hr⟩:=find_str nm ks
      refine LookP.intro r hr ?_
      cases r with
      | none=>
        refine kW ?_
        (refine kY ?_;repeat intro γ)
        exact .intro <| W.of ⟨_,by omega,_,i+1,nm,ks.map encS++[encS nm],_,⟨ks++[nm],by simp⟩,rfl,hi',hF,rfl,rfl⟩ ⟨rfl,rfl,rfl,rfl,rfl,rfl,trivial⟩ ⟨rfl,trivial⟩
      | some j=>
        refine kW ?_
        (refine kY ?_;repeat intro γ)
        exact .intro <| W.of ⟨_,by omega,_,i+1,nm,ks.map encS,_,⟨ks,rfl⟩,rfl,hi',hF,rfl,rfl⟩ ⟨rfl,rfl,rfl,rfl,rfl,rfl,trivial⟩ ⟨rfl,trivial⟩
  ·rw[List.drop_eq_nil_of_le (by omega)] at hF
   replace hF:AV.tup [.dead,encB (decide (s.size≤80))]=F:=hF
   (refine kS ?_;repeat intro γ)
   refine .of ?_
   rw[← hF]
   show AV.tup [_,.val (.bool (decide ((s.size:Int)≤80)))]=AV.tup [_,.val (.bool (decide (s.size≤80)))]
   rw[show decide ((s.size:Int)≤80)=decide (s.size≤80) from decide_eq_decide.2 (by omega)]
def unitF (s:ByteArray):Bool:=decide (s=⟨#[49]⟩)||(unitsG (splitL s.data.toList) ⟨#[]⟩&&decide (s.size≤80))
theorem Is_ok (s:ByteArray) (hs:s.size<2^35):PureCall Tryz.prog 280 [encS s] (encB (unitF s)):=by
 refine PC [] Tryz.func280 rfl (by rfl) rfl ?_
 have hp:=ParseU_ok s hs
 unfold resU at hp
 generalize hF:unitF s=F
 unfold unitF at hF
 split at hp
 ·rename_i h1
  rw[decide_eq_true h1,Bool.true_or] at hF
  refine kW ?_
  (refine kS ?_;repeat intro γ)
  refine CallP.pure [] _ c336 hp ?_
  refine kW ?_
  (refine kS ?_;repeat intro γ)
  exact .of (by rw[← hF];rfl)
 ·rename_i h1
  rw[decide_eq_false h1,Bool.false_or] at hF
  split at hp
  ·rename_i h2
   rw[h2,Bool.true_and] at hF
   refine kW ?_
   (refine kS ?_;repeat intro γ)
   refine CallP.pure [] _ c336 hp ?_
   refine kW ?_
   (refine kS ?_;repeat intro γ)
   exact .of (by rw[← hF];rfl)
  ·rename_i h2
   rw[show unitsG (splitL s.data.toList) ⟨#[]⟩=false by simpa using h2,Bool.false_and] at hF
   refine kW ?_
   (refine kS ?_;repeat intro γ)
   refine CallP.pure [] _ c336 hp ?_
   refine kW ?_
   (refine kS ?_;repeat intro γ)
   exact .of (by rw[← hF];rfl)
end Go.Proofs.YtlhdoekgipaihaaGreatDoor
namespace Go.Proofs.YtlhdoekgipaihaaGreatDoor
open Go Go.Fw
def ltN:List UInt8→Nat
 | []=>0
 | c::r=>if lttI c.toNat then ltN r+1 else 0
theorem ltN_spec (l:List UInt8):ltN l≤l.length∧(∀ j (h:j<l.length),j<ltN l→lttI (l[j]).toNat=true)∧∀ h:ltN l<l.length,lttI (l[ltN l]).toNat=false:=by
 induction l with
 | nil=>exact ⟨Nat.le_refl _,fun j h=>absurd h (by simp),fun h=>absurd h (by simp[ltN])⟩
 | cons c r ih=>
   obtain ⟨h1,h2,h3⟩:=ih
   by_cases hc:lttI c.toNat=true
   ·have e:ltN (c::r)=ltN r+1:=by rw[ltN,if_pos hc]
    simp only[e,List.length_cons]
    refine ⟨by omega,fun j h h'=>?_,fun h=>h3 (by omega)⟩
    cases j with
    | zero=>exact hc
    | succ j=>exact h2 j (by omega) (by omega)
   ·have e:ltN (c::r)=0:=by rw[ltN,if_neg hc]
    simp only[e,List.length_cons]
    exact ⟨by omega,fun j h h'=>absurd h' (by omega),fun h=>by simpa using hc⟩
def innB (r:List UInt8):List UInt8:=if r.headD 0=40∧r.getLastD 0=41 then (r.take (r.length-1)).drop 1 else r
def facR (l:List UInt8):Option (List UInt8×Int×Nat):=
 if ltN l<1∨8<ltN l then none
 else if l.drop (ltN l)=[] then some (l,1,1)
 else match readR (innB (l.drop (ltN l))) with
  | none=>none
  | some x=>if shortR x.1 x.2=false then none else if x.1=0 then none else if x.1=x.2 then none
    else if decide (x.2=1)=decide (innB (l.drop (ltN l))=l.drop (ltN l)) then some (l.take (ltN l),x) else none
def encFc (x:List UInt8×Int×Nat):AV:=.agg [encS (ofL x.1),encB (decide (x.2.1<0)),encN x.2.1.natAbs,encN x.2.2]
def nilFc:AV:=.agg [encS ⟨#[]⟩,encB false,.val (.slice none 0 0),.val (.slice none 0 0)]
def encFo:Option (List UInt8×Int×Nat)→AV
 | some x=>encFc x
 | none=>encFc ([],0,0)
theorem ends_noF:Fw.Ends (.tup [nilFc,encB false]) (.tup [encFo none,encB (none:Option (List UInt8×Int×Nat)).isSome]):=by
 refine ends_tup2 ?_ (Le.refl _)
 have h:=Le.cons (Le.refl (encS ⟨#[]⟩)) (Le.cons (Le.refl (encB false)) (Le.cons (Le.nil 1) (Le.cons (Le.nil 1) Le.nils)))
 have e:encFo none=.agg [encS ⟨#[]⟩,encB false,.sl 1 [],.sl 1 []]:=by
  unfold encFo encFc encN
  rw[show ((([]:List UInt8),(0:Int),(0:Nat))).2.1.natAbs=0 from rfl,show ((([]:List UInt8),(0:Int),(0:Nat))).2.2=0 from rfl,dg_zero];rfl
 rw[e]
 exact Le.agg h.1 h.2
set_option maxHeartbeats 2000000 in
theorem factorR_ok (l:List UInt8) (hl:l.length<2^35):PureCall Tryz.prog 337 [encS (ofL l)] (.tup [encFo (facR l),encB (facR l).isSome]):=by
 refine PC [] Tryz.func337 rfl (by rfl) rfl ?_
 obtain ⟨p1,p2,p3⟩:=ltN_spec l
 generalize hF:facR l=F
 unfold facR at hF
 have hsz:=ofL_size l
 obtain ⟨p,hpp⟩:∃ p,ltN l=p:=⟨_,rfl⟩
 rw[hpp] at p1 p2 p3 hF
 clear hpp
 refine kW ?_
 (refine kO ?_;repeat intro γ)
 refine LoopP.intro (fun k σ H=>∃ g i,i≤p∧k=p-i∧σ=fr [(0,encS (ofL l)),(2,.op 2 g 0 0),(4,encI i)]∧H=hp [(2,g,⟨377,4,[nilFc]⟩)]) ?_ ?_
 ·exact .intro <| W.of ⟨_,_,0,Nat.zero_le _,rfl,rfl,rfl⟩ ⟨rfl,rfl,rfl,trivial⟩ ⟨rfl,trivial⟩
 ·rintro k σ H ⟨g, i,hi,rfl,rfl,rfl⟩
  rcases Nat.lt_or_ge i p with h1 | h1
  ·have hb:=byte_ofL l i (by omega)
   have hlt:=letterR_ok ((l[i]'(by omega)).toNat:Int)
   rw[p2 i (by omega) h1] at hlt
   refine kW ?_
   (refine kO ?_;repeat intro γ)
   simp only[Int.toNat_natCast,hb]
   refine CallP.flat [] _ c242 hlt rfl ?_
   refine kW ?_
   (refine kO ?_;repeat intro γ)
   exact .intro <| W.of ⟨_,by omega,_,i+1,by omega,rfl,rfl,rfl⟩ ⟨rfl,rfl,rfl,trivial⟩ ⟨rfl,trivial⟩
  obtain rfl:i=p:=by omega
  rcases Nat.lt_or_ge i l.length with h2 | h2
  case' inl=>
   have hb:=byte_ofL l i (by omega)
   have hlt:=letterR_ok ((l[i]'(by omega)).toNat:Int)
   rw[p3 h2] at hlt
   refine kW ?_
   (refine kO ?_;repeat intro γ)
   simp only[Int.toNat_natCast,hb]
   refine CallP.flat [] _ c242 hlt rfl ?_
   refine kW ?_
   (refine kO ?_;repeat intro γ)
  case' inr=>
   refine kW ?_
   (refine kO ?_;repeat intro γ)
  all_goals
   by_cases h3:i<1
   ·rw[if_pos (.inl h3)] at hF
    subst hF
    (refine kO ?_;repeat intro γ)
    exact ends_noF
   by_cases h4:8<i
   ·rw[if_pos (.inr h4)] at hF
    subst hF
    (refine kO ?_;repeat intro γ)
    exact ends_noF
   rw[if_neg (by omega)] at hF
   have hx:(ofL l).extract i (ofL l).size=ofL (l.drop i):=by rw[ofL_extract,hsz,List.take_length]
   have hx2:(ofL l).extract 0 i=ofL (l.take i):=by rw[ofL_extract,List.drop_zero]
   (refine kO ?_;repeat intro γ)
   simp only[Int.toNat_natCast,hx]
   have hr2:(l.drop i).length<2^35:=by rw[List.length_drop];omega
   have hrs:=ofL_size (l.drop i)
   have hnil:=ofL_nil (l.drop i)
   generalize l.drop i=r at *
   refine CondP.dec (fun h5=>?_) (fun h5=>?_)<;>refine kW ?_
   ·rw[if_pos (hnil.1 h5)] at hF
    subst hF
    have h1':=OfR_ok 1 (by decide)
    unfold encR at h1'
    (refine kO ?_;repeat intro γ)
    refine CallP.pure [] _ c128 h1' ?_
    refine kW ?_
    (refine kO ?_;repeat intro γ)
    exact .of rfl
   have hrn:r≠[]:=fun e=>h5 (hnil.2 e)
   have hrp:0<r.length:=List.length_pos_iff.2 hrn
   rw[if_neg hrn] at hF
   have hb0:byteAt (ofL r) (Int.toNat 0)=((r.headD 0).toNat:Int):=by
    rw[byte_ofL r (Int.toNat 0) hrp]
    cases r with
    | nil=>exact absurd rfl hrn
    | cons c r=>rfl
   have hbl:byteAt (ofL r) (((r.length:Int)-1).toNat)=((r.getLastD 0).toNat:Int):=by
    rw[show ((r.length:Int)-1).toNat=r.length-1 by omega,byte_ofL r _ (by omega)]
    congr 2
    rw[List.getLastD_eq_getLast?,List.getLast?_eq_getElem?,List.getElem?_eq_getElem (by omega)];rfl
   have t40:((r.headD 0).toNat:Int)=40↔r.headD 0=40:=⟨fun h=>UInt8.toNat.inj (by rw[show (40:UInt8).toNat=40 from rfl];omega),fun h=>by rw[h];rfl⟩
   have t41:((r.getLastD 0).toNat:Int)=41↔r.getLastD 0=41:=⟨fun h=>UInt8.toNat.inj (by rw[show (41:UInt8).toNat=41 from rfl];omega),fun h=>by rw[h];rfl⟩
   have hin:innB r=if r.headD 0=40∧r.getLastD 0=41 then (r.take (r.length-1)).drop 1 else r:=rfl
   have hxi:(ofL r).extract 1 (((r.length:Int)-1).toNat)=ofL ((r.take (r.length-1)).drop 1):=by
    rw[show ((r.length:Int)-1).toNat=r.length-1 by omega,ofL_extract]
   have h2l:r.headD 0=40∧r.getLastD 0=41→1<r.length:=fun ⟨a,b⟩=>by
    rcases r with _ | ⟨c,_ | ⟨e,r⟩⟩
    ·exact absurd rfl hrn
    ·simp at a b;rw[a] at b;exact absurd b (by decide)
    ·simp
   have hil:(innB r).length≤r.length:=by rw[hin];split<;>simp<;>omega
   have hinT:((r.headD 0).toNat:Int)=40→((r.getLastD 0).toNat:Int)=41→innB r=(r.take (r.length-1)).drop 1∧1<r.length:=fun a b=>⟨by rw[hin,if_pos ⟨t40.1 a,t41.1 b⟩],h2l ⟨t40.1 a,t41.1 b⟩⟩
   have hinF:¬ (((r.headD 0).toNat:Int)=40∧((r.getLastD 0).toNat:Int)=41)→innB r=r:=fun h=>by rw[hin,if_neg fun e=>h ⟨t40.2 e.1,t41.2 e.2⟩]
   clear hin h2l t40 t41
   generalize innB r=q at *
   (refine kO ?_;repeat intro γ)
   rw[hb0]
   rcases (show (((r.headD 0).toNat:Int)=40∧((r.getLastD 0).toNat:Int)=41)∨(((r.headD 0).toNat:Int)=40∧¬ ((r.getLastD 0).toNat:Int)=41)∨¬ ((r.headD 0).toNat:Int)=40 by omega) with ⟨h6,h7⟩ | ⟨h6,h7⟩ | h6
   case' inl=>
    obtain ⟨hq,h8⟩:=hinT h6 h7
    refine CondP.pos h6 ?_
    refine kX ?_
    (refine kZ ?_;repeat intro γ)
    simp only[hrs]
    (refine kZ ?_;repeat intro γ)
    rw[hbl]
    refine CondP.pos h7 ?_
    refine kX ?_
    (refine kZ ?_;repeat intro γ)
    refine cpA_seqW (W.of (l:=[(0,encS (ofL l)),(2,.op 2 _ 0 0),(4,encI i),(5,encS (ofL r)),(6,encS (ofL q))]) (m:=[(2,_,⟨377,4,[nilFc]⟩)]) ?_ ⟨rfl,rfl,rfl,rfl,?_,trivial⟩ ⟨rfl,trivial⟩)
    rotate_left 1
    ·show encS ((ofL r).extract 1 (((ofL r).size:Int)-1).toNat)=encS (ofL q)
     rw[hrs,hxi,hq]
   case' inr.inl=>
    have hq:=hinF (fun e=>h7 e.2)
    refine CondP.pos h6 ?_
    refine kX ?_
    (refine kZ ?_;repeat intro γ)
    simp only[hrs]
    (refine kZ ?_;repeat intro γ)
    rw[hbl]
    refine CondP.neg h7 ?_
    refine kX ?_
    refine cpA_seqW (W.of (l:=[(0,encS (ofL l)),(2,.op 2 _ 0 0),(4,encI i),(5,encS (ofL r)),(6,encS (ofL q))]) (m:=[(2,_,⟨377,4,[nilFc]⟩)]) ?_ ⟨rfl,rfl,rfl,rfl,congrArg (fun z=>encS (ofL z)) hq.symm,trivial⟩ ⟨rfl,trivial⟩)
   case' inr.inr=>
    have hq:=hinF (fun e=>h6 e.1)
    refine CondP.neg h6 ?_
    refine kX ?_
    (refine kZ ?_;repeat intro γ)
    refine cpA_seqW (W.of (l:=[(0,encS (ofL l)),(2,.op 2 _ 0 0),(4,encI i),(5,encS (ofL r)),(6,encS (ofL q))]) (m:=[(2,_,⟨377,4,[nilFc]⟩)]) ?_ ⟨rfl,rfl,rfl,rfl,congrArg (fun z=>encS (ofL z)) hq.symm,trivial⟩ ⟨rfl,trivial⟩)
   all_goals
    clear hinT hinF hb0 hbl hxi hnil h5 hrp hq hx
    try clear h6
    try clear h7
    try clear h8
    try clear hb
    try clear hlt
    have hrd:=Read_ok q (by omega)
    have hok:=@readR_text q
    have hqr:ofL q=ofL r↔q=r:=⟨fun h=>by
     have:=congrArg (fun s:ByteArray=>s.data.toList) h
     simpa [ofL] using this,fun h=>by rw[h]⟩
    generalize readR q=o at *
    cases o with
    | none=>
      subst hF
      unfold encRd encR at hrd
      rw[Option.isSome_none] at hrd
      refine kW ?_
      (refine kO ?_;repeat intro γ)
      refine CallP.pure [] _ c204 hrd ?_
      refine kW ?_
      (refine kO ?_;repeat intro γ)
      (refine kS ?_;repeat intro γ)
      exact ends_noF
    | some x=>
      obtain ⟨n,d⟩:=x
      obtain ⟨hk,-⟩:=hok rfl
      obtain ⟨l1,l2⟩:=okR_len hk
      simp only at hF l1 l2
      rw[Option.isSome_some] at hrd
      have hsh:=ShortR_ok n d hk
      have hz:=ZeroR_ok n d
      have ho:=OfR_ok 1 (by decide)
      have hag:=Against_ok (n,d) (1,1) hk.1 Nat.one_pos (by simp only;omega) (by simp only;omega) (by simp only;rw[show (1:Int).natAbs=1 from rfl,l4_one];decide) (by simp only;rw[l4_one];decide)
      have hwh:=WholeR_ok n d (by omega)
      have hsg:sgn (n*((1:Nat):Int)-1*(d:Int))=0↔n=d:=by
       unfold sgn
       rw[show n*((1:Nat):Int)-1*(d:Int)=n-d by omega]
       split
       ·omega
       ·split<;>omega
      simp only at hag
      generalize sgn (n*((1:Nat):Int)-1*(d:Int))=s at hag hsg
      unfold encRd at hrd
      unfold eR at hag
      simp only at hag
      unfold encR at hrd hsh hz ho hag hwh
      refine kW ?_
      (refine kO ?_;repeat intro γ)
      refine CallP.pure [] _ c204 hrd ?_
      refine kW ?_
      (refine kO ?_;repeat intro γ)
      refine D0 fun γs=>?_
      refine kW ?_
      (refine kO ?_;repeat intro γ)
      cases hsv:shortR n d with
      | false=>
        rw[hsv] at hsh
        rw[if_pos hsv] at hF
        subst hF
        refine CallG.intro _ c368 hsh ?_
        refine kW ?_
        (refine kO ?_;repeat intro γ)
        exact ends_noF
      | true=>
        rw[hsv] at hsh
        rw[if_neg (by rw[hsv];decide)] at hF
        refine CallG.intro _ c368 hsh ?_
        refine kW ?_
        (refine kO ?_;repeat intro γ)
        by_cases hn0:n=0
        ·rw[decide_eq_true hn0] at hz
         rw[if_pos hn0] at hF
         subst hF
         refine CallG.intro _ c166 hz ?_
         refine kW ?_
         (refine kO ?_;repeat intro γ)
         exact ends_noF
        rw[decide_eq_false hn0] at hz
        rw[if_neg hn0] at hF
        refine CallG.intro _ c166 hz ?_
        refine kW ?_
        (refine kO ?_;repeat intro γ)
        refine CallG.intro _ c128 ho ?_
        refine kW ?_
        (refine kO ?_;repeat intro γ)
        refine CallG.intro _ c306 hag ?_
        refine kW ?_
        by_cases hnd:n=(d:Int)
        ·have hs0:=hsg.2 hnd
         rw[if_pos hnd] at hF
         subst hF
         (refine kO ?_;repeat intro γ)
         exact ends_noF
        have hs0:¬ s=0:=fun e=>hnd (hsg.1 e)
        rw[if_neg hnd] at hF
        (refine kO ?_;repeat intro γ)
        have h10:∀ b,decide (q=r)=b→decide (ofL q=ofL r)=b:=fun b h=>by rw[← h];exact decide_eq_decide.2 hqr
        cases h8:decide (d=1)
        all_goals
         rw[h8] at hwh hF
         refine CallG.intro _ c170 hwh ?_
         cases h9:decide (q=r)
         all_goals
          rw[h9] at hF
          have h11:=h10 _ h9
          refine kW ?_
          (refine kO ?_;repeat intro γ)
          try simp only[h11]
          try (refine kO ?_;repeat intro γ)
          first
           | (refine CondP.bt rfl ?_
              rw[if_pos rfl] at hF
              subst hF
              refine kW ?_
              (refine kO ?_;repeat intro γ)
              refine D0 fun γs=>?_
              refine kW ?_
              (refine kO ?_;repeat intro γ)
              refine .of ?_
              show AV.tup [AV.agg [encS ((ofL l).extract 0 i),_,_,_],_]=_
              rw[hx2];rfl)
           | (refine CondP.bf rfl ?_
              rw[if_neg (by decide)] at hF
              subst hF
              refine kW ?_
              (refine kO ?_;repeat intro γ)
              exact ends_noF)
end Go.Proofs.YtlhdoekgipaihaaGreatDoor
namespace Go.Proofs.YtlhdoekgipaihaaGreatDoor
open Go Go.Fw
abbrev Fac:=List UInt8×Int×Nat
def dotN:List UInt8→Nat
 | []=>0
 | c::r=>if c=46 then 0 else dotN r+1
theorem dotN_spec (l:List UInt8):dotN l≤l.length∧(∀ j (h:j<l.length),j<dotN l→l[j]≠46)∧(∀ h:dotN l<l.length,l[dotN l]=46)∧splitL l=l.take (dotN l)::(if dotN l<l.length then splitL (l.drop (dotN l+1)) else []):=by
 induction l with
 | nil=>exact ⟨Nat.le_refl _,fun j h=>absurd h (by simp),fun h=>absurd h (by simp),rfl⟩
 | cons c r ih=>
   obtain ⟨h1,h2,h3,h4⟩:=ih
   by_cases hc:c=46
   ·have e:dotN (c::r)=0:=by rw[dotN,if_pos hc]
    simp only[e]
    refine ⟨by omega,fun j h h'=>absurd h' (by omega),fun h=>by simpa using hc,?_⟩
    rw[splitL_cons,if_pos hc,if_pos (by simp)];rfl
   ·have e:dotN (c::r)=dotN r+1:=by rw[dotN,if_neg hc]
    simp only[e,List.length_cons]
    refine ⟨by omega,fun j h h'=>?_,fun h=>h3 (by omega),?_⟩
    ·cases j with
     | zero=>exact hc
     | succ j=>exact h2 j (by omega) (by omega)
    ·rw[splitL_cons,if_neg hc,h4]
     simp only[List.take_succ_cons,List.drop_succ_cons]
     by_cases hd:dotN r<r.length
     ·rw[if_pos hd,if_pos (by omega)]
     ·rw[if_neg hd,if_neg (by omega)]
theorem dotN_at (l:List UInt8) (i:Nat) (hi:i≤l.length):∃ p,i+p≤l.length∧(∀ j,i≤j→j<i+p→¬ byteAt (ofL l) j=46)∧(i+p<l.length→byteAt (ofL l) (i+p)=46)∧splitL (l.drop i)=(l.take (i+p)).drop i::(if i+p<l.length then splitL (l.drop (i+p+1)) else []):=by
 obtain ⟨d1,d2,d3,d4⟩:=dotN_spec (l.drop i)
 have hll:(l.drop i).length=l.length-i:=List.length_drop
 have t46:∀ c:UInt8,(c.toNat:Int)=46↔c=46:=fun c=>⟨fun h=>UInt8.toNat.inj (by rw[show (46:UInt8).toNat=46 from rfl];omega),fun h=>by rw[h];rfl⟩
 refine ⟨dotN (l.drop i),by omega,fun j h1 h2 e=>?_,fun h=>?_,?_⟩
 ·have h3:=d2 (j-i) (by omega) (by omega)
  rw[List.getElem_drop] at h3
  rw[byte_ofL l j (by omega)] at e
  apply h3
  have:=(t46 _).1 e
  simpa [show i+(j-i)=j by omega] using this
 ·have h3:=d3 (by omega)
  rw[List.getElem_drop] at h3
  rw[byte_ofL l _ h,h3];rfl
 ·rw[d4,List.drop_drop,hll,List.take_drop,show i+(dotN (l.drop i)+1)=i+dotN (l.drop i)+1 by omega]
  congr 1
  by_cases h:i+dotN (l.drop i)<l.length
  ·rw[if_pos h,if_pos (by omega)]
  ·rw[if_neg h,if_neg (by omega)]
def ltS (a b:ByteArray):Bool:=Op.bytesLess a.toList b.toList
def facsR:List (List UInt8)→List Fac→Option (List Fac)
 | [],acc=>some acc
 | f::r,acc=>match facR f with
   | none=>none
   | some x=>if decide (0<acc.length)&&!ltS (ofL ((acc.getLastD ([],0,0)).1)) (ofL x.1) then none else facsR r (acc++[x])
def FacsF (l:List UInt8):Option (List Fac):=if l=[49] then some [] else if 80<l.length then none else facsR (splitL l) []
def encFs:Option (List Fac)→AV
 | some x=>.sl 4 (x.map encFc)
 | none=>.sl 4 []
theorem endFc {S:List Nat} {H:Hp} {L:List AV} {n:Nat} {xs:List Fac} (h:L=xs.map encFc) (hn:n=xs.length):AV.sl 4 (((L.drop 0).take n).map (snapEl (snapC S H 2)))=encFs (some xs):=by
 subst h
 rw[snap_list _ _ _ _ hn fun x=>rfl];rfl
set_option maxHeartbeats 2000000 in
theorem Factors_ok (l:List UInt8) (hl:l.length<2^35):PureCall Tryz.prog 281 [encS (ofL l)] (.tup [encFs (FacsF l),encB (FacsF l).isSome]):=by
 refine PC [100] Tryz.func281 rfl (by rfl) rfl ?_
 have hsz:=ofL_size l
 generalize hF:FacsF l=F
 unfold FacsF at hF
 have h49:ofL l=⟨#[49]⟩↔l=[49]:=⟨fun h=>by
  have:=congrArg (fun s:ByteArray=>s.data.toList) h
  simpa [ofL] using this,fun h=>by rw[h];rfl⟩
 refine kW ?_
 (refine kO ?_;repeat intro γ)
 refine CondP.dec (fun h1=>?_) (fun h1=>?_)<;>refine kW ?_
 ·rw[if_pos (h49.1 h1)] at hF
  subst hF
  (refine kO ?_;repeat intro γ)
  exact ends_tup2 (Le.nil 4) (Le.refl _)
 rw[if_neg (fun e=>h1 (h49.2 e))] at hF
 by_cases h2:80<l.length
 ·rw[if_pos h2] at hF
  subst hF
  (refine kO ?_;repeat intro γ)
  exact ends_tup2 (Le.nil 4) (Le.refl _)
 rw[if_neg h2] at hF
 (refine kO ?_;repeat intro γ)
 refine LoopP.intro (fun k σ H=>∃ g i acc fs,k=l.length+1-i∧i≤l.length+1∧fs=(if i≤l.length then splitL (l.drop i) else [])∧facsR fs acc=F∧acc.length≤i ∧
  σ=fr [(0,encS (ofL l)),(4,.own 100 g 0 acc.length),(5,encI i)]∧H=hp [(100,g,⟨377,4,acc.map encFc⟩)]) ?_ ?_
 ·exact .intro (W.mat 4 100 377 4 rfl rfl fun g=>W.of ⟨_,g,0,[],splitL l,rfl,by omega,by rw[if_pos (by omega)];rfl,hF,by simp,rfl,rfl⟩ ⟨rfl,rfl,rfl,trivial⟩ ⟨rfl,trivial⟩)
 ·clear hF h1 h49
  rintro k σ H ⟨g,i,acc,fs,rfl,hi,hfs,hF,hal,rfl,rfl⟩
  rcases Nat.lt_or_ge l.length i with h1 | h1
  ·rw[if_neg (by omega)] at hfs
   subst hfs
   have hF2:some acc=F:=hF
   subst hF2
   refine kW ?_
   (refine kO ?_;repeat intro γ)
   exact .of (congrArg (fun z=>AV.tup [z,encB true]) (endFc (by simp) (by simp)))
  rw[if_pos h1] at hfs
  obtain ⟨p,d1,d2,d3,d4⟩:=dotN_at l i h1
  rw[d4] at hfs
  clear d4
  subst hfs
  refine kW ?_
  (refine kO ?_;repeat intro γ)
  refine LoopP.intro (fun k σ H=>∃ g j,k=i+p-j∧i≤j∧j≤i+p∧σ=fr [(0,encS (ofL l)),(4,.own 100 g 0 acc.length),(5,encI i),(6,encI j)]∧H=hp [(100,g,⟨377,4,acc.map encFc⟩)]) ?_ ?_
  ·exact .intro <| W.of ⟨_,g,i,rfl,Nat.le_refl _,by omega,rfl,rfl⟩ ⟨rfl,rfl,rfl,rfl,trivial⟩ ⟨rfl,trivial⟩
  ·clear g
   rintro k σ H ⟨g,j,rfl,hj1,hj2,rfl,rfl⟩
   rcases Nat.lt_or_ge j (i+p) with h3 | h3
   ·have h4:=d2 j hj1 h3
    refine kW ?_
    (refine kO ?_;repeat intro γ)
    simp only[Int.toNat_natCast]
    (refine kO ?_;repeat intro γ)
    exact .intro <| W.of ⟨_,by omega,g,j+1,rfl,by omega,by omega,rfl,rfl⟩ ⟨rfl,rfl,rfl,rfl,trivial⟩ ⟨rfl,trivial⟩
   obtain rfl:j=i+p:=by omega
   have hx:(ofL l).extract i (i+p)=ofL ((l.take (i+p)).drop i):=ofL_extract l i (i+p)
   have hfl:((l.take (i+p)).drop i).length<2^35:=by rw[List.length_drop,List.length_take];omega
   have hfr:(if i+p<l.length then splitL (l.drop (i+p+1)) else [])=(if i+p+1≤l.length then splitL (l.drop (i+p+1)) else []):=rfl
   rw[hfr] at hF
   unfold facsR at hF
   have hfc:=factorR_ok _ hfl
   generalize (l.take (i+p)).drop i=f at *
   rcases Nat.lt_or_ge (i+p) l.length with h4 | h4
   case' inl=>
    have h5:=d3 h4
    refine kW ?_
    (refine kO ?_;repeat intro γ)
    simp only[Int.toNat_natCast]
    (refine kO ?_;repeat intro γ)
   case' inr=>
    refine kW ?_
    (refine kO ?_;repeat intro γ)
   all_goals
    simp only[Int.toNat_natCast,hx]
    cases hfo:facR f with
    | none=>
      rw[hfo] at hF hfc
      subst hF
      unfold encFo encFc at hfc
      rw[Option.isSome_none] at hfc
      refine CallP.pure [] _ c337 hfc ?_
      refine kW ?_
      (refine kO ?_;repeat intro γ)
      refine D0 fun γs=>?_
      refine kW ?_
      (refine kO ?_;repeat intro γ)
      exact ends_tup2 (Le.nil 4) (Le.refl _)
    | some x=>
      obtain ⟨nm,n,d⟩:=x
      rw[hfo] at hF hfc
      simp only at hF
      unfold encFo encFc at hfc
      rw[Option.isSome_some] at hfc
      simp only at hfc
      refine CallP.pure [] _ c337 hfc ?_
      refine kW ?_
      (refine kO ?_;repeat intro γ)
      refine D0 fun γs=>?_
      refine kW ?_
      have hml:(acc.map encFc).length=acc.length:=List.length_map _
      by_cases h6:0<acc.length
      case' pos=>
       obtain ⟨y,hy⟩:∃ y,acc.getLastD ([],0,0)=y:=⟨_,rfl⟩
       have hget:(acc.map encFc).getD (acc.length-1) .dead=encFc y:=by
        rw[getD_map _ _ _ (by omega),← hy]
        congr 1
        rw[List.getLastD_eq_getLast?,List.getLast?_eq_getElem?,List.getElem?_eq_getElem (by omega)];rfl
       rw[hy,decide_eq_true h6,Bool.true_and] at hF
       have e1:((acc.length:Int)-1).toNat=acc.length-1:=by omega
       obtain ⟨ym,yn,yd⟩:=y
       rw[show encFc (ym,yn,yd)=.agg [encS (ofL ym),encB (decide (yn<0)),encN yn.natAbs,encN yd] from rfl] at hget
       simp only at hF
       (refine kO ?_;repeat intro γ)
       simp only[e1,Nat.zero_add,hget]
       refine kW ?_
       (refine kO ?_;repeat intro γ)
       refine CondP.intro (fun h7=>?_) (fun h7=>?_)<;>refine kW ?_
       case' refine_2=>
        rw[show ltS (ofL ym) (ofL nm)=false from h7,if_pos (by decide)] at hF
        subst hF
        (refine kO ?_;repeat intro γ)
        exact ends_tup2 (Le.nil 4) (Le.refl _)
       rw[show ltS (ofL ym) (ofL nm)=true from h7,if_neg (by decide)] at hF
      case' neg=>
       rw[decide_eq_false h6,Bool.false_and,if_neg (by decide)] at hF
       (refine kO ?_;repeat intro γ)
      all_goals
       (refine kO ?_;repeat intro γ)
       refine .intro <| W.of ⟨_,by omega,γ,i+p+1,acc++[(nm,n,d)],_,rfl,by omega,rfl,hF,by simp;omega,rfl,rfl⟩ ⟨rfl,?_,rfl,trivial⟩ ⟨?_,trivial⟩
       ·exact congrArg (AV.own 100 _ 0) (by simp)
       ·show some (_,(⟨_,_,_++_⟩:Blk))=_
        rw[List.map_append];rfl
theorem IsUnit_ok (l:List UInt8) (hl:l.length<2^35):PureCall Tryz.prog 196 [encS (ofL l)] (encB (FacsF l).isSome):=by
 refine PC [] Tryz.func196 rfl (by rfl) rfl ?_
 have h:=Factors_ok l hl
 generalize FacsF l=o at *
 have h2:∃ xs,encFs o=.sl 4 xs:=by
  cases o with
  | none=>exact ⟨_,rfl⟩
  | some x=>exact ⟨_,rfl⟩
 obtain ⟨xs,h2⟩:=h2
 rw[h2] at h
 refine kW ?_
 (refine kO ?_;repeat intro γ)
 refine CallP.pure [] _ c281 h ?_
 refine kW ?_
 (refine kO ?_;repeat intro γ)
 exact .of rfl
end Go.Proofs.YtlhdoekgipaihaaGreatDoor
namespace Go.Proofs.YtlhdoekgipaihaaGreatDoor
open Go Go.Fw
theorem canon_iff (a:List UInt8):canon (a.map UInt8.toNat)=true↔1≤a.length∧(a.length=1∨a.headD 0≠48)∧isDs a=true:=by
 unfold canon
 rw[isDs_map,List.length_map]
 simp only[Bool.and_eq_true,Bool.or_eq_true,decide_eq_true_eq,and_assoc]
 refine and_congr_right fun h1=>and_congr_left fun _=>or_congr_right ?_
 cases a with
 | nil=>simp at h1
 | cons c r=>
   simp only[List.map_cons,List.getD_cons_zero,List.headD_cons,ne_eq]
   refine not_congr ?_
   exact ⟨fun h=>UInt8.toNat.inj (by rw[h];rfl),fun h=>by rw[h];rfl⟩
theorem okW_iff (m:Bool) (a:List UInt8):okW m a=true↔1≤a.length∧(a.headD 0≠48∨(a.length=1∧m=false))∧isDs a=true:=by
 unfold okW
 simp only[Bool.and_eq_true,Bool.not_eq_true',Bool.and_eq_false_iff,Bool.or_eq_false_iff,decide_eq_false_iff_not,and_assoc]
 constructor
 ·rintro ⟨h1,h2,h3⟩
  have hl:1≤a.length:=by cases a with
   | nil=>simp at h1
   | cons c r=>simp
  exact ⟨hl,by rcases h2 with h | h;exact .inl h;exact .inr ⟨by omega,h.2⟩,h3⟩
 ·rintro ⟨h1,h2,h3⟩
  have he:a.isEmpty=false:=by cases a with
   | nil=>simp at h1
   | cons c r=>rfl
  exact ⟨he,by rcases h2 with h | h;exact .inl h;exact .inr ⟨by omega,h.2⟩,h3⟩
theorem decU_zero {a:List UInt8} (h:canon (a.map UInt8.toNat)=true):decU a=0↔a=[48]:=by
 constructor
 ·intro h0
  have:=decT_decB h
  unfold decU at h0
  rw[h0] at this
  have h2:=congrArg (List.map UInt8.ofNat) this
  rw[toNat_bytes] at h2
  rw[← h2];rfl
 ·rintro rfl;rfl
theorem okW_canon (m:Bool) (a:List UInt8):okW m a=true↔canon (a.map UInt8.toNat)=true∧¬ (m=true∧decU a=0):=by
 rw[okW_iff]
 constructor
 ·rintro ⟨h1,h2,h3⟩
  have hc:canon (a.map UInt8.toNat)=true:=(canon_iff a).2 ⟨h1,by rcases h2 with h | h;exact .inr h;exact .inl h.1,h3⟩
  refine ⟨hc,fun ⟨hm,h0⟩=>?_⟩
  have:=(decU_zero hc).1 h0
  subst this
  rcases h2 with h | h
  ·exact h rfl
  ·rw[hm] at h;cases h.2
 ·rintro ⟨hc,hn⟩
  obtain ⟨h1,h2,h3⟩:=(canon_iff a).1 hc
  refine ⟨h1,?_,h3⟩
  by_cases hh:a.headD 0=48
  ·right
   have hl:a.length=1:=h2.resolve_right (fun h=>h hh)
   refine ⟨hl,?_⟩
   cases m with
   | false=>rfl
   | true=>
     exfalso
     obtain ⟨c,rfl⟩:=List.length_eq_one_iff.1 hl
     simp at hh
     subst hh
     exact hn ⟨rfl,rfl⟩
  ·exact .inl hh
theorem nd_decU {a:List UInt8} (h:canon (a.map UInt8.toNat)=true) (m:Bool):nd (if m then -(decU a:Int) else decU a)=a.length:=by
 have:(if m then -(decU a:Int) else (decU a:Int)).natAbs=decU a:=by cases m<;>simp
 unfold nd
 rw[this]
 have:=decT_decB h
 unfold decU
 rw[this,List.length_map]
theorem parseW_neg (t:List UInt8):parseW (45::t)=if okW true t then some (-(decU t:Int)) else none:=rfl
theorem parseW_pos (t:List UInt8) (h:∀ r,t≠45::r):parseW t=if okW false t then some (decU t:Int) else none:=by
 unfold parseW
 split
 ·rename_i r;exact absurd rfl (h r)
 ·rfl
def parseB (m:Bool) (t:List UInt8):Option (Int×Int)×Bool:=
 match (if okW m (pairB t).1 then some (if m then -(decU (pairB t).1:Int) else (decU (pairB t).1:Int)) else none) with
 | none=>(none,false)
 | some n=>match (pairB t).2.2 with
   | false=>(some (n,1),decide (nd n≤300))
   | true=>match parseW (pairB t).2.1 with
     | none=>(none,false)
     | some d=>if d≤1 then (none,false) else (some (n,d),decide (nd n≤300)&&decide (nd d≤300)&&decide (n.natAbs.gcd d.natAbs=1))
theorem parseQ_head (l:List UInt8):∃ t m,readR l=readB m t∧parseQ l=parseB m t:=by
 unfold readR
 split
 ·rename_i t
  refine ⟨t,true,rfl,?_⟩
  unfold parseQ parseB
  rw[show pairB (45::t)=(45::(pairB t).1,(pairB t).2.1,(pairB t).2.2) by rw[pairB,if_neg (by decide)]]
  simp only[parseW_neg,if_true]
  rfl
 ·rename_i h
  refine ⟨l,false,rfl,?_⟩
  unfold parseQ parseB
  have hh:∀ r,(pairB l).1≠45::r:=by
   intro r e
   obtain ⟨p1,p2,p3,p4,p5⟩:=pairB_spec l
   rw[e] at p2
   cases l with
   | nil=>simp at p2
   | cons c l=>
     rw[List.length_cons,List.take_succ_cons] at p2
     have:=(List.cons.inj p2).1
     exact h l (by rw[this])
  rw[parseW_pos _ hh]
  rfl
theorem parse_read (l:List UInt8):(parseQ l).2=(readR l).isSome∧∀ x,readR l=some x→parseQ l=(some (x.1,(x.2:Int)),true):=by
 obtain ⟨t,m,e1,e2⟩:=parseQ_head l
 rw[e1,e2]
 unfold parseB readB
 generalize (pairB t).1=a
 generalize (pairB t).2.1=b
 generalize (pairB t).2.2=ok
 have hda:=digB_canon a
 have hdb:=digB_canon b
 by_cases ha:okW m a=true
 case neg=>
  have ha':okW m a=false:=by simpa using ha
  rw[ha']
  have:digB a=false∨(m=true∧decU a=0):=by
   by_cases h:canon (a.map UInt8.toNat)=true
   ·right
    exact Decidable.byContradiction fun e=>ha ((okW_canon m a).2 ⟨h,e⟩)
   ·left
    rw[hda,show canon (a.map UInt8.toNat)=false by simpa using h];rfl
  have hnone:(if digB a=false then none else if ok=true then if digB b=false then none else if decU b≤1∨Nat.gcd (decU a) (decU b)≠1 then none else if m=true∧decU a=0 then none else some (if m then -(decU a:Int) else (decU a:Int),decU b) else if m=true∧decU a=0 then none else some (if m then -(decU a:Int) else (decU a:Int),1))=none:=by
   rcases this with h | h
   ·rw[if_pos h]
   ·split
    ·rfl
    ·split
     ·split
      ·rfl
      ·split
       ·rfl
       ·first
         | rfl
         | rw[if_pos h]
     ·first
       | rfl
       | rw[if_pos h]
  rw[hnone]
  exact ⟨rfl,fun x h=>by cases h⟩
 obtain ⟨hc,hz⟩:=(okW_canon m a).1 ha
 have hnd:=nd_decU hc m
 have hna:(if m then -(decU a:Int) else (decU a:Int)).natAbs=decU a:=by cases m<;>simp
 rw[ha,if_pos rfl]
 simp only
 rw[hnd,hna]
 rw[hc,Bool.true_and] at hda
 generalize (if m then -(decU a:Int) else (decU a:Int))=n at *
 by_cases hl:a.length≤300
 case neg=>
  rw[decide_eq_false hl] at hda ⊢
  rw[if_pos hda]
  refine ⟨?_,fun x h=>by cases h⟩
  cases ok with
  | false=>rfl
  | true=>
    cases parseW b with
    | none=>rfl
    | some d=>
      show (if d≤1 then ((none:Option (Int×Int)),false) else _).2=_
      split<;>rfl
 rw[decide_eq_true hl] at hda ⊢
 rw[if_neg (by rw[hda];decide)]
 cases ok with
 | false=>
   rw[if_neg (by decide),if_neg hz]
   exact ⟨rfl,fun x h=>by cases h;rfl⟩
 | true=>
   rw[if_pos rfl]
   simp only[Bool.true_and]
   by_cases hb45:∃ r,b=45::r
   ·obtain ⟨r,rfl⟩:=hb45
    have hdf:digB (45::r)=false:=by
     rw[hdb]
     have:canon ((45::r:List UInt8).map UInt8.toNat)=false:=by
      unfold canon
      simp[isDg]
     rw[this];rfl
    rw[if_pos hdf,parseW_neg]
    refine ⟨?_,fun x h=>by cases h⟩
    cases okW true r with
    | false=>rfl
    | true=>
      simp only[if_true]
      rw[if_pos (by omega)];rfl
   ·rw[parseW_pos b (fun r e=>hb45 ⟨r,e⟩)]
    by_cases hb:okW false b=true
    case neg=>
     have hb':okW false b=false:=by simpa using hb
     have:digB b=false:=by
      rw[hdb]
      by_cases h:canon (b.map UInt8.toNat)=true
      ·exact absurd ((okW_canon false b).2 ⟨h,fun e=>by cases e.1⟩) hb
      ·rw[show canon (b.map UInt8.toNat)=false by simpa using h];rfl
     rw[hb',if_pos this]
     exact ⟨rfl,fun x h=>by cases h⟩
    obtain ⟨hcb,_⟩:=(okW_canon false b).1 hb
    have hndb:=nd_decU hcb false
    rw[hb]
    rw[hcb,Bool.true_and] at hdb
    simp only[if_true,Bool.false_eq_true,if_false] at hndb ⊢
    by_cases hlb:b.length≤300
    ·rw[decide_eq_true hlb] at hdb
     have hdn:¬ digB b=false:=by rw[hdb];decide
     by_cases hd1:decU b≤1
     ·rw[if_pos (show (decU b:Int)≤1 by omega),if_neg hdn,if_pos (.inl hd1)]
      exact ⟨rfl,fun x h=>by cases h⟩
     rw[if_neg (show ¬ (decU b:Int)≤1 by omega),if_neg hdn,hndb,decide_eq_true hlb]
     simp only[Bool.true_and,Int.natAbs_natCast]
     by_cases hg:Nat.gcd (decU a) (decU b)=1
     ·rw[if_neg (by rintro (h | h);omega;exact h hg),if_neg hz,decide_eq_true hg]
      exact ⟨rfl,fun x h=>by cases h;rfl⟩
     ·rw[if_pos (.inr hg),decide_eq_false hg]
      exact ⟨rfl,fun x h=>by cases h⟩
    ·rw[decide_eq_false hlb] at hdb
     rw[if_pos hdb]
     refine ⟨?_,fun x h=>by cases h⟩
     split
     ·rfl
     ·rw[hndb,decide_eq_false hlb];rfl
end Go.Proofs.YtlhdoekgipaihaaGreatDoor
namespace Go.Proofs.YtlhdoekgipaihaaGreatDoor
open Go Go.Fw
theorem bl_cons (x y:UInt8) (a b:List UInt8):Op.bytesLess (x::a) (y::b)=(decide (x<y)||(decide (x=y)&&Op.bytesLess a b)):=by
 simp only[Op.bytesLess]
 by_cases h1:x<y
 ·simp[h1]
 ·by_cases h2:x=y<;>simp[h1,h2]
theorem bl_tot:∀ a b:List UInt8,(Op.bytesLess a b||decide (a=b))=!Op.bytesLess b a
 | [],[]=>by simp[Op.bytesLess]
 | [],_::_=>by simp[Op.bytesLess]
 | _::_,[]=>by simp[Op.bytesLess]
 | x :: a, y::b=>by
   rw[bl_cons,bl_cons]
   have ih:=bl_tot a b
   by_cases h1:x<y
   ·have h2:¬ y<x:=fun h=>absurd (UInt8.lt_trans h1 h) (UInt8.lt_irrefl x)
    have h3:¬ y=x:=fun h=>by subst h;exact UInt8.lt_irrefl _ h1
    simp[h1,h2,h3]
   ·by_cases h2:x=y
    ·subst h2
     simp only[h1,decide_false,decide_true,Bool.false_or,Bool.true_and,List.cons.injEq,true_and]
     exact ih
    ·have h3:y<x:=by
      rcases Nat.lt_or_ge y.toNat x.toNat with h | h
      ·exact UInt8.lt_iff_toNat_lt.2 h
      ·exfalso
       rcases Nat.lt_or_ge x.toNat y.toNat with h' | h'
       ·exact h1 (UInt8.lt_iff_toNat_lt.2 h')
       ·exact h2 (UInt8.toNat.inj (by omega))
     have h4:¬ y=x:=fun h=>h2 h.symm
     simp[h1,h2,h3,h4]
theorem ba_loop (s:ByteArray):∀ (n i:Nat) (r:List UInt8),s.size-i=n→ByteArray.toList.loop s i r=r.reverse++s.data.toList.drop i:=by
 intro n
 induction n with
 | zero=>
   intro i r h
   have hs:s.data.toList.length=s.size:=rfl
   rw[ByteArray.toList.loop,if_neg (by omega),List.drop_eq_nil_of_le (by omega),List.append_nil]
 | succ n ih=>
   intro i r h
   have hs:s.data.toList.length=s.size:=rfl
   have hi:i<s.data.toList.length:=by omega
   rw[ByteArray.toList.loop,if_pos (by omega),ih (i+1) _ (by omega),List.drop_eq_getElem_cons hi,List.reverse_cons,List.append_assoc]
   have e:s.get! i=s.data.toList[i]:=by
    show s.data[i]! = _
    rw[getElem!_pos s.data i hi];simp
   rw[e];rfl
theorem ba_toList (s:ByteArray):s.toList=s.data.toList:=by
 have:=ba_loop s _ 0 [] rfl
 simpa [ByteArray.toList] using this
theorem ba_toList_inj {a b:ByteArray} (h:a.toList=b.toList):a=b:=by
 rw[ba_toList,ba_toList] at h
 exact ByteArray.ext (Array.toList_inj.1 h)
theorem leqS_lt (a b:ByteArray):leqS a b=!ltS b a:=by
 unfold leqS ltS
 rw[← bl_tot]
 congr 1
 exact decide_eq_decide.2 ⟨fun h=>by rw[h],ba_toList_inj⟩
theorem nlt_ltt (n:Int):nlt n=!lttI n:=by
 unfold nlt lttI
 rw[Bool.eq_iff_iff]
 simp only[Bool.and_eq_true,Bool.or_eq_true,decide_eq_true_eq,Bool.not_eq_true',decide_eq_false_iff_not]
 omega
theorem fiL_ltN (l:List UInt8):∀ i:Int,fiL l i=if ltN l<l.length then i+ltN l else -1:=by
 induction l with
 | nil=>intro i;rfl
 | cons c r ih=>
   intro i
   unfold fiL
   rw[nlt_ltt]
   by_cases hc:lttI c.toNat=true
   ·have e:ltN (c::r)=ltN r+1:=by rw[ltN,if_pos hc]
    rw[hc,e,if_neg (by decide),ih]
    simp only[List.length_cons]
    by_cases h:ltN r<r.length
    ·rw[if_pos h,if_pos (by omega)];omega
    ·rw[if_neg h,if_neg (by omega)]
   ·have hc':lttI c.toNat=false:=by simpa using hc
    have e:ltN (c::r)=0:=by rw[ltN,if_neg hc]
    rw[hc',e]
    simp
theorem ltN_take (l:List UInt8):ltN (l.take (ltN l))=ltN l:=by
 induction l with
 | nil=>rfl
 | cons c r ih=>
   by_cases hc:lttI c.toNat=true
   ·have e:ltN (c::r)=ltN r+1:=by rw[ltN,if_pos hc]
    rw[e,List.take_succ_cons,ltN,if_pos hc,ih]
   ·have e:ltN (c::r)=0:=by rw[ltN,if_neg hc]
    rw[e];rfl
theorem symF_eq (l:List UInt8):symF l=(decide (1≤l.length)&&decide (l.length≤8)&&decide (ltN l=l.length)):=by
 unfold symF
 have h:=(ltN_spec l).1
 rw[fiL_ltN,show decide (l≠[])=decide (1≤l.length) from decide_eq_decide.2 (by rw[ne_eq,← List.length_eq_zero_iff];omega)]
 congr 1
 rw[← decide_not]
 refine decide_eq_decide.2 ?_
 split<;>omega
theorem ofL_inj {a b:List UInt8}:ofL a=ofL b↔a=b:=⟨fun h=>by
 have:=congrArg (fun s:ByteArray=>s.data.toList) h
 simpa [ofL] using this,fun h=>by rw[h]⟩
theorem qT_rT (n:Int) (d:Nat):qT n (d:Int)=rT n d:=by
 unfold qT rT
 by_cases h:d=1
 ·rw[if_pos h,if_pos (by omega)]
 ·rw[if_neg h,if_neg (by omega)]
  congr 2
theorem fits_short (n:Int) (d:Nat):fitsF n (d:Int)=(!decide (n=0)&&shortR n d):=by
 unfold fitsF shortR nd
 have:(sgn n=0)↔n=0:=by unfold sgn;split<;>(try split)<;>omega
 rw[decide_eq_decide.2 this,Int.natAbs_natCast,Bool.and_assoc]
theorem rT_head (n:Int) (d:Nat):∃ c r,rT n d=c::r∧(c=45∨48≤c∧c≤57):=by
 have hc:=decT_canon n.natAbs
 have hd:=decT_dg n.natAbs
 rw[rT_eq]
 by_cases hn:n<0
 ·rw[if_pos hn];exact ⟨_,_,rfl,.inl rfl⟩
 ·rw[if_neg hn]
  cases hT:decT n.natAbs with
  | nil=>rw[hT] at hc;simp[canon] at hc
  | cons c r=>
    rw[hT,List.all_cons,Bool.and_eq_true] at hd
    have:=hd.1
    unfold isDg at this
    simp at this
    exact ⟨_,_,rfl,.inr this⟩
theorem rT_one (n:Int) (d:Nat) (h:okR (n,d)):rT n d=[49]↔n=1∧d=1:=by
 constructor
 ·intro e
  have h1:=readR_rT n d h
  rw[e] at h1
  have h2:readR (([49]:List Nat).map UInt8.ofNat)=some (1,1):=by
   have:okR (1,1):=⟨Nat.one_pos,by decide,decT1,decT1⟩
   have h3:=readR_rT 1 1 this
   have e1:rT 1 1=[49]:=by
    unfold rT
    rw[if_pos rfl,sT_abs,if_neg (by decide)]
    unfold decT
    rw[if_neg (by decide),show (1:Int).natAbs=1 from rfl,dg_one (by decide) (by decide) (by decide)];rfl
   rwa [e1] at h3
  rw[h2] at h1
  cases h1;exact ⟨rfl,rfl⟩
 ·rintro ⟨rfl,rfl⟩
  unfold rT
  rw[if_pos rfl,sT_abs,if_neg (by decide)]
  unfold decT
  rw[if_neg (by decide),show (1:Int).natAbs=1 from rfl,dg_one (by decide) (by decide) (by decide)];rfl
theorem wrT_eq (n:Int) (d:Nat) (h:okR (n,d)):wrT n (d:Int)=if n=1∧d=1 then [] else if d=1 then rT n d else 40::rT n d++[41]:=by
 unfold wrT
 rw[qT_rT]
 by_cases h1:n=1∧d=1
 ·rw[if_pos h1,if_pos ((rT_one n d h).2 h1)]
 ·rw[if_neg h1,if_neg (fun e=>h1 ((rT_one n d h).1 e))]
  by_cases h2:d=1
  ·rw[if_pos h2,if_pos (by omega)]
  ·rw[if_neg h2,if_neg (by omega)]
theorem extL (l:List UInt8) (a b:Nat):(ofL l).extract a b=ofL ((l.take b).drop a):=ofL_extract l a b
theorem dataL (l:List UInt8):(ofL l).data.toList=l:=by simp[ofL]
def facI (r:List UInt8):List UInt8:=match r with
 | 40::t=>if t.getLast?=some 41 then t.take (t.length-1) else t
 | _=>r
theorem hasX_b1 (l:List UInt8) (c:UInt8):hasX (ofL l) (b1 c)=decide (l.getLast?=some c):=by
 unfold hasX
 rw[show (b1 c).size=1 from rfl,ofL_size,extL,List.take_length]
 rw[Bool.eq_iff_iff]
 simp only[Bool.and_eq_true,decide_eq_true_eq]
 rcases snoc l with rfl | ⟨r,d,rfl⟩
 ·simp
 ·rw[List.getLast?_append]
  simp only[List.length_append,List.length_cons,List.length_nil,List.getLast?_singleton,Option.some_or,Option.some.injEq]
  rw[show r.length+(0+1)-1=r.length by omega,List.drop_left]
  have:ofL [d]=b1 c↔d=c:=by
   have:b1 c=ofL [c]:=rfl
   rw[this,ofL_inj];simp
  rw[this]
  exact ⟨fun h=>h.2,fun h=>⟨by omega,h⟩⟩
theorem hasP_b1 (l:List UInt8) (c:UInt8):hasP (ofL l) (b1 c)=decide (l.head?=some c):=by
 unfold hasP
 rw[show (b1 c).size=1 from rfl,ofL_size,extL,List.drop_zero]
 rw[Bool.eq_iff_iff]
 simp only[Bool.and_eq_true,decide_eq_true_eq]
 cases l with
 | nil=>simp
 | cons d r=>
   simp only[List.length_cons,List.take_succ_cons,List.take_zero,List.head?_cons,Option.some.injEq]
   have:ofL [d]=b1 c↔d=c:=by
    have:b1 c=ofL [c]:=rfl
    rw[this,ofL_inj];simp
   rw[this]
   exact ⟨fun h=>h.2,fun h=>⟨by omega,h⟩⟩
theorem facT_eq (l:List UInt8) (p:Nat):facT (ofL l) p=ofL (facI (l.drop p)):=by
 unfold facT
 rw[show (ofL l).extract p (ofL l).size=ofL (l.drop p) by rw[extL,ofL_size,List.take_length]]
 generalize l.drop p=r
 unfold cutP trimX
 rw[hasP_b1]
 unfold facI
 cases r with
 | nil=>rfl
 | cons c t=>
   by_cases hc:c=40
   ·subst hc
    simp only[List.head?_cons,decide_true,if_true]
    rw[show (ofL (40::t)).extract (b1 40).size (ofL (40::t)).size=ofL t by rw[extL,ofL_size,List.take_length];rfl,hasX_b1]
    by_cases h:t.getLast?=some 41
    ·rw[decide_eq_true h,if_pos rfl,if_pos h,extL,ofL_size];rfl
    ·rw[decide_eq_false h,if_neg (by decide),if_neg h]
   ·have:decide ((c::t).head?=some 40)=false:=by simpa using hc
    rw[this]
    simp only[Bool.false_eq_true,if_false]
    split
    ·rename_i h;cases h;exact absurd rfl hc
    ·rfl
theorem facR_name {f:List UInt8} {x:Fac} (h:facR f=some x):1≤x.1.length:=by
 have hp:=(ltN_spec f).1
 unfold facR at h
 split at h
 ·cases h
 ·rename_i h1
  split at h
  ·cases h
   show 1≤f.length
   omega
  ·split at h
   ·cases h
   ·split at h
    ·cases h
    ·split at h
     ·cases h
     ·split at h
      ·cases h
      ·split at h
       ·cases h
        simp only[List.length_take];omega
       ·cases h
theorem facF_eq (f:List UInt8):facF (ofL f)=if f.length≤ltN f then (ofL f,some (1,1),symF f)
  else (ofL (f.take (ltN f)),(parseQ (facI (f.drop (ltN f)))).1,(parseQ (facI (f.drop (ltN f)))).2&&symF (f.take (ltN f))&&match (parseQ (facI (f.drop (ltN f)))).1 with
   | some (n,d)=>fitsF n d&&decide (ofL ((wrT n d).map UInt8.ofNat)=ofL (f.drop (ltN f)))
   | none=>false):=by
 unfold facF
 rw[dataL,fiL_ltN]
 by_cases h:ltN f<f.length
 ·rw[if_pos h,if_neg (by omega),if_neg (by omega),show ((0:Int)+(ltN f:Int)).toNat=ltN f by omega,facT_eq,dataL,extL,List.drop_zero,dataL,extL,ofL_size,List.take_length]
  try rfl
 ·rw[if_neg h,if_pos (by decide),if_pos (by omega)]
theorem fac_same (f:List UInt8):(facF (ofL f)).2.2=(facR f).isSome∧∀ x,facR f=some x→(facF (ofL f)).1=ofL x.1:=by
 rw[facF_eq]
 have hle:=(ltN_spec f).1
 have hsy:=symF_eq (f.take (ltN f))
 rw[ltN_take,List.length_take,Nat.min_eq_left hle,decide_eq_true rfl,Bool.and_true] at hsy
 unfold facR
 by_cases h0:f.length≤ltN f
 ·have e:ltN f=f.length:=by omega
  rw[if_pos h0,symF_eq,e,List.drop_length,decide_eq_true rfl,Bool.and_true]
  by_cases h1:f.length<1∨8<f.length
  ·rw[if_pos h1]
   refine ⟨?_,fun x h=>by cases h⟩
   rcases h1 with h1 | h1
   ·rw[decide_eq_false (by omega)];rfl
   ·rw[decide_eq_false (show ¬ f.length≤8 by omega),Bool.and_false];rfl
  ·rw[if_neg h1,if_pos rfl,decide_eq_true (by omega),decide_eq_true (by omega)]
   exact ⟨rfl,fun x h=>by cases h;rfl⟩
 ·rw[if_neg h0]
  by_cases h1:ltN f<1∨8<ltN f
  ·rw[if_pos h1,hsy]
   refine ⟨?_,fun x h=>by cases h⟩
   have:(decide (1≤ltN f)&&decide (ltN f≤8))=false:=by
    rcases h1 with h1 | h1
    ·rw[decide_eq_false (by omega)];rfl
    ·rw[decide_eq_false (show ¬ ltN f≤8 by omega),Bool.and_false]
   simp only[this,Bool.and_false,Bool.false_and];rfl
  ·rw[if_neg h1,hsy,decide_eq_true (by omega),decide_eq_true (by omega)]
   have hr:f.drop (ltN f)≠[]:=fun e=>by have:=congrArg List.length e;simp at this;omega
   rw[if_neg hr]
   generalize f.drop (ltN f)=r at *
   simp only[Bool.and_true,Bool.true_and]
   obtain ⟨q1,q2⟩:=parse_read (facI r)
   have key:∀ b:Bool,(b=true→(match readR (innB r) with
     | none=>none
     | some x=>if shortR x.1 x.2=false then none else if x.1=0 then none else if x.1=x.2 then none
       else if decide (x.2=1)=decide (innB r=r) then some (f.take (ltN f),x) else none)=(none:Option Fac))→True:=fun _ _=>trivial
   clear key
   rcases r with _ | ⟨c,t⟩
   ·exact absurd rfl hr
   by_cases hc:c=40
   ·subst hc
    have hI:facI (40::t)=if t.getLast?=some 41 then t.take (t.length-1) else t:=rfl
    by_cases hl:t.getLast?=some 41
    ·
     rw[if_pos hl] at hI
     obtain ⟨u,rfl⟩:∃ u,t=u++[41]:=by
      rcases snoc t with h | ⟨u,d,h⟩
      ·rw[h] at hl;simp at hl
      ·rw[h] at hl;simp at hl;exact ⟨u,by rw[h,hl]⟩
     have hI2:facI (40::(u++[41]))=u:=by rw[hI];simp
     have hB:innB (40::(u++[41]))=u:=by
      unfold innB
      have hb2:(40::(u++[41]):List UInt8).headD 0=40∧(40::(u++[41]):List UInt8).getLastD 0=41:=⟨rfl,by rw[List.getLastD_eq_getLast?,← List.cons_append,List.getLast?_append];rfl⟩
      rw[if_pos hb2]
      simp
     rw[hI2] at q1 q2 ⊢
     rw[hB]
     have hne:decide (u=40::(u++[41]))=false:=decide_eq_false fun e=>by have:=congrArg List.length e;simp at this;omega
     rw[hne]
     cases ho:readR u with
     | none=>
       rw[ho] at q1
       rw[q1]
       exact ⟨rfl,fun x h=>by cases h⟩
     | some x=>
       obtain ⟨n,d⟩:=x
       rw[ho] at q1
       obtain ⟨hk,htx⟩:=readR_text ho
       rw[q2 _ ho]
       simp only[Bool.true_and]
       rw[fits_short,wrT_eq n d hk]
       have hw:(ofL ((if n=1∧d=1 then [] else if d=1 then rT n d else 40::rT n d++[41]:List Nat).map UInt8.ofNat)=ofL (40::(u++[41])))↔d≠1:=by
        rw[ofL_inj]
        by_cases hd:d=1
        ·simp only[hd,and_true,if_true,ne_eq,not_true,iff_false]
         by_cases hn:n=1
         ·rw[if_pos hn];intro h;cases h
         ·rw[if_neg hn]
          obtain ⟨c,r,hcr,hh⟩:=rT_head n 1
          rw[hcr]
          intro h
          have:=congrArg (fun l:List UInt8=>(l.headD 0).toNat) h
          simp at this
          omega
        ·rw[if_neg (fun e=>hd e.2),if_neg hd]
         simp only[hd,ne_eq,not_false_eq_true,iff_true]
         rw[List.map_append,List.map_cons,← htx];rfl
       rw[decide_eq_decide.2 hw]
       by_cases hs:shortR n d=false
       ·rw[if_pos hs,hs]
        exact ⟨by simp,fun x h=>by cases h⟩
       rw[if_neg hs,show shortR n d=true by simpa using hs]
       by_cases hn0:n=0
       ·rw[if_pos hn0,decide_eq_true hn0]
        exact ⟨by simp,fun x h=>by cases h⟩
       rw[if_neg hn0,decide_eq_false hn0]
       by_cases hd:d=1
       ·rw[decide_eq_true hd,decide_eq_false (by simpa using hd)]
        split
        ·exact ⟨rfl,fun x h=>by cases h⟩
        ·exact ⟨rfl,fun x h=>by cases h⟩
       ·rw[decide_eq_false hd,decide_eq_true hd]
        have hnd:¬ n=(d:Int):=fun e=>by
         have:=hk.2.1
         simp only at this
         rw[e,Int.natAbs_natCast,Nat.gcd_self] at this
         exact hd this
        rw[if_neg hnd,if_pos rfl]
        exact ⟨rfl,fun x h=>by cases h;rfl⟩
    ·
     rw[if_neg hl] at hI
     have hB:innB (40::t)=40::t:=by
      unfold innB
      rw[if_neg]
      rintro ⟨_,h⟩
      rw[List.getLastD_eq_getLast?] at h
      cases t with
      | nil=>simp at h
      | cons a b=>
        rw[List.getLast?_cons_cons] at h
        cases hg:(a::b).getLast? with
        | none=>simp at hg
        | some z=>rw[hg] at h hl;simp at h;exact hl (by rw[h])
     rw[hI] at q1 q2 ⊢
     rw[hB]
     have hno:readR (40::t)=none:=by
      cases ho:readR (40::t) with
      | none=>rfl
      | some x=>
        exfalso
        obtain ⟨hk,htx⟩:=readR_text ho
        obtain ⟨c,r,hcr,hh⟩:=rT_head x.1 x.2
        rw[hcr] at htx
        have:=congrArg (fun l:List UInt8=>(l.headD 0).toNat) htx
        simp at this
        omega
     rw[hno]
     refine ⟨?_,fun x h=>by cases h⟩
     cases ho:readR t with
     | none=>rw[ho] at q1;rw[q1];rfl
     | some x=>
       obtain ⟨n,d⟩:=x
       obtain ⟨hk,htx⟩:=readR_text ho
       rw[q2 _ ho]
       simp only[Bool.true_and]
       rw[wrT_eq n d hk]
       have hw:decide (ofL ((if n=1∧d=1 then [] else if d=1 then rT n d else 40::rT n d++[41]:List Nat).map UInt8.ofNat)=ofL (40::t))=false:=by
        refine decide_eq_false ?_
        rw[ofL_inj]
        split
        ·intro h;cases h
        ·split
         ·obtain ⟨c,r,hcr,hh⟩:=rT_head n d
          rw[hcr]
          intro h
          have:=congrArg (fun l:List UInt8=>(l.headD 0).toNat) h
          simp at this
          omega
         ·intro h
          apply hl
          rw[List.map_append,List.map_cons] at h
          have:=(List.cons.inj h).2
          rw[← this];simp
       rw[hw,Bool.and_false];rfl
   ·
    have hI:facI (c::t)=c::t:=by
     unfold facI
     split
     ·rename_i h;cases h;exact absurd rfl hc
     ·rfl
    have hB:innB (c::t)=c::t:=by
     unfold innB
     rw[if_neg]
     rintro ⟨h,_⟩
     exact hc h
    rw[hI] at q1 q2 ⊢
    rw[hB,decide_eq_true rfl]
    cases ho:readR (c::t) with
    | none=>
      rw[ho] at q1
      rw[q1]
      exact ⟨rfl,fun x h=>by cases h⟩
    | some x=>
      obtain ⟨n,d⟩:=x
      obtain ⟨hk,htx⟩:=readR_text ho
      rw[q2 _ ho]
      simp only[Bool.true_and]
      rw[fits_short,wrT_eq n d hk]
      have hw:(ofL ((if n=1∧d=1 then [] else if d=1 then rT n d else 40::rT n d++[41]:List Nat).map UInt8.ofNat)=ofL (c::t))↔d=1∧n≠1:=by
       rw[ofL_inj]
       by_cases hd:d=1
       ·by_cases hn:n=1
        ·rw[if_pos ⟨hn,hd⟩]
         exact ⟨fun h=>(by cases h),fun h=>absurd hn h.2⟩
        ·rw[if_neg (fun e=>hn e.1),if_pos hd,htx]
         exact ⟨fun _=>⟨hd,hn⟩,fun _=>rfl⟩
       ·rw[if_neg (fun e=>hd e.2),if_neg hd]
        refine ⟨fun h=>?_,fun h=>absurd h.1 hd⟩
        rw[List.cons_append,List.map_cons] at h
        exact absurd (List.cons.inj h).1.symm hc
      rw[decide_eq_decide.2 hw]
      by_cases hs:shortR n d=false
      ·rw[if_pos hs,hs]
       exact ⟨by simp,fun x h=>by cases h⟩
      rw[if_neg hs,show shortR n d=true by simpa using hs]
      by_cases hn0:n=0
      ·rw[if_pos hn0,decide_eq_true hn0]
       exact ⟨by simp,fun x h=>by cases h⟩
      rw[if_neg hn0,decide_eq_false hn0]
      by_cases hd:d=1
      ·subst hd
       by_cases hn:n=1
       ·subst hn
        split
        ·exact ⟨by simp,fun x h=>by cases h⟩
        ·rename_i h;exact absurd rfl h
       ·rw[if_neg (by omega),show decide ((1:Nat)=1)=true from rfl,if_pos rfl,show decide ((1:Nat)=1∧n≠1)=true from decide_eq_true ⟨rfl,hn⟩]
        exact ⟨rfl,fun x h=>by cases h;rfl⟩
      ·rw[decide_eq_false hd,decide_eq_false (fun e=>hd e.1)]
       split
       ·exact ⟨by simp,fun x h=>by cases h⟩
       ·exact ⟨by simp,fun x h=>by cases h⟩
theorem units_same:∀ (fs:List (List UInt8)) (acc:List Fac) (last:ByteArray),(acc=[]∧last=⟨#[]⟩∨0<acc.length∧last=ofL (acc.getLastD ([],0,0)).1)→(facsR fs acc).isSome=unitsG fs last
 | [],acc,last,_=>rfl
 | f :: r,acc,last,h=>by
   obtain ⟨h1,h2⟩:=fac_same f
   unfold facsR unitsG
   rw[h1,leqS_lt]
   cases hf:facR f with
   | none=>rfl
   | some x=>
     rw[h2 x hf]
     have hn:=facR_name hf
     have ih:=units_same r (acc++[x]) (ofL x.1) (.inr ⟨by simp,by rw[List.getLastD_eq_getLast?];simp⟩)
     simp only[Option.isSome_some,Bool.true_and,Bool.not_not]
     rcases h with ⟨rfl,rfl⟩ | ⟨ha,rfl⟩
     ·have:ltS ⟨#[]⟩ (ofL x.1)=true:=by
       unfold ltS
       rw[ba_toList,ba_toList,dataL]
       cases hx:x.1 with
       | nil=>rw[hx] at hn;simp at hn
       | cons a b=>simp[Op.bytesLess]
      rw[this]
      simp only[List.length_nil,Nat.lt_irrefl,decide_false,Bool.false_and,Bool.false_eq_true,if_false,Bool.true_and]
      exact ih
     ·rw[decide_eq_true ha,Bool.true_and]
      cases ltS (ofL (acc.getLastD ([],0,0)).1) (ofL x.1) with
      | true=>simp only[Bool.not_true,Bool.false_eq_true,if_false,Bool.true_and];exact ih
      | false=>rfl
theorem unit_same (l:List UInt8):(FacsF l).isSome=unitF (ofL l):=by
 unfold FacsF unitF
 have h49:(ofL l=⟨#[49]⟩)↔l=[49]:=by
  have:(⟨#[49]⟩:ByteArray)=ofL [49]:=rfl
  rw[this,ofL_inj]
 rw[decide_eq_decide.2 h49,dataL,ofL_size]
 by_cases h:l=[49]
 ·rw[if_pos h,decide_eq_true h];rfl
 ·rw[if_neg h,decide_eq_false h,Bool.false_or]
  by_cases h2:80<l.length
  ·rw[if_pos h2,decide_eq_false (by omega),Bool.and_false];rfl
  ·rw[if_neg h2,decide_eq_true (by omega),Bool.and_true]
   exact units_same _ [] ⟨#[]⟩ (.inl ⟨rfl,rfl⟩)
end Go.Proofs.YtlhdoekgipaihaaGreatDoor
namespace Go.Proofs.YtlhdoekgipaihaaGreatDoor
open Go Go.Fw
structure Eqn where
 name:ByteArray
 left:Ex
 right:Ex
structure Ac where
 kind:Int
 var:ByteArray
 value:Ex
structure Whn where
 name:ByteArray
 cond:Ex
 acts:List Ac
structure Sys where
 vars:List Va
 eqs:List Eqn
 inits:List Eqn
 whens:List Whn
def cellsE (e:Ex):List AV:=[encS e.op,encS e.text,encI e.order,.sl 4 (e.kids.map encE)]
theorem encE_cells (e:Ex):encE e=.agg (cellsE e):=encE_eq e
def encQn (q:Eqn):AV:=.agg (encS q.name::(cellsE q.left++cellsE q.right))
def encAc (a:Ac):AV:=.agg (encI a.kind::encS a.var::cellsE a.value)
def encWn (w:Whn):AV:=.agg (encS w.name::(cellsE w.cond++[.sl 6 (w.acts.map encAc)]))
def encSy (s:Sys):AV:=.agg [.sl 7 (s.vars.map encV),.sl 9 (s.eqs.map encQn),.sl 9 (s.inits.map encQn),.sl 6 (s.whens.map encWn)]
theorem largeC_ok (w:Whn):PureCall Tryz.prog 180 [encWn w] (encB (decide (20<w.acts.length))):=by
 refine PC [] Tryz.func180 rfl (by rfl) rfl ?_
 refine kW ?_
 (refine kS ?_;repeat intro γ)
 refine .of ?_
 show AV.val (.bool (decide _))=AV.val (.bool (decide _))
 rw[List.length_map]
 congr 2
 exact decide_eq_decide.2 (by omega)
theorem indexW_ok (k:Nat) (p:Whn→Bool) (l:List Whn) (hl:l.length≤2^60) (hk:Callable Tryz.prog k) (hf:∀ x∈l,PureCall Tryz.prog k [encWn x] (encB (p x))) :
  PureCall Tryz.prog 277 [.sl 6 (l.map encWn),.fn (.func k) [] []] (encI (indexP p l 0)):=by
 refine PC [] Tryz.func277 rfl (by rfl) rfl ?_
 generalize hF:indexP p l 0=F
 refine kW ?_
 (refine kS ?_;repeat intro γ)
 refine LoopP.intro (fun n σ H=>∃ i,i≤l.length∧n=l.length-i∧indexP p (l.drop i) i=F∧σ=fr [(0,.sl 6 (l.map encWn)),(1,.fn (.func k) [] []),(7,encI l.length),(8,encI i)]∧H=hp []) ?_ ?_
 ·exact .intro <| W.of ⟨_,0,Nat.zero_le _,rfl,hF,rfl,rfl⟩ ⟨rfl,rfl,by simp;rfl,rfl,trivial⟩ trivial
 ·rintro n σ H ⟨i,hi,rfl,hc,rfl,rfl⟩
  refine kW ?_
  (refine kS ?_;repeat intro γ)
  refine CondP.dec (fun h=>?_) (fun h=>?_)<;>refine kW ?_
  ·have hi':i<l.length:=by omega
   have hx:=hf _ (List.getElem_mem hi')
   rw[List.drop_eq_getElem_cons hi'] at hc
   unfold indexP at hc
   (refine kR ?_;repeat intro γ)
   generalize l[i]=x at hx hc ⊢
   (refine kR ?_;repeat intro γ)
   refine CallP.flat [] _ hk hx rfl ?_
   refine kW ?_
   (refine kS ?_;repeat intro γ)
   refine CondP.intro (fun hq=>?_) (fun hq=>?_)<;>refine kW ?_
   ·rw[hq] at hc
    (refine kS ?_;repeat intro γ)
    exact .of (by rw[← hc];rfl)
   ·rw[hq] at hc
    (refine kS ?_;repeat intro γ)
    exact .intro <| W.of ⟨_,by omega,i+1,hi',rfl,hc,rfl,rfl⟩ ⟨rfl,rfl,rfl,rfl,trivial⟩ trivial
  ·(refine kS ?_;repeat intro γ)
   rw[List.drop_eq_nil_of_le (by omega)] at hc
   exact .of (by rw[← hc];rfl)
theorem containsW_ok (k:Nat) (p:Whn→Bool) (l:List Whn) (hl:l.length≤2^60) (hk:Callable Tryz.prog k) (hf:∀ x∈l,PureCall Tryz.prog k [encWn x] (encB (p x))) :
  PureCall Tryz.prog 179 [.sl 6 (l.map encWn),.fn (.func k) [] []] (encB (l.any p)):=by
 refine PC [] Tryz.func179 rfl (by rfl) rfl ?_
 refine kW ?_
 (refine kS ?_;repeat intro γ)
 refine CallP.flat [] _ c277 (indexW_ok k p l hl hk hf) rfl ?_
 refine kW ?_
 (refine kS ?_;repeat intro γ)
 refine .of ?_
 show AV.val (Value.bool (decide (0≤indexP p l 0)))=AV.val (Value.bool (l.any p))
 congr 2
 rw[Bool.eq_iff_iff,decide_eq_true_iff]
 exact indexP_ge p l 0 (by omega)
theorem indexV_ok (k:Nat) (p:Va→Bool) (l:List Va) (hl:l.length≤2^60) (hk:Callable Tryz.prog k) (hf:∀ x∈l,PureCall Tryz.prog k [encV x] (encB (p x))) :
  PureCall Tryz.prog 278 [.sl 7 (l.map encV),.fn (.func k) [] []] (encI (indexP p l 0)):=by
 refine PC [] Tryz.func278 rfl (by rfl) rfl ?_
 generalize hF:indexP p l 0=F
 refine kW ?_
 (refine kS ?_;repeat intro γ)
 refine LoopP.intro (fun n σ H=>∃ i,i≤l.length∧n=l.length-i∧indexP p (l.drop i) i=F∧σ=fr [(0,.sl 7 (l.map encV)),(1,.fn (.func k) [] []),(7,encI l.length),(8,encI i)]∧H=hp []) ?_ ?_
 ·exact .intro <| W.of ⟨_,0,Nat.zero_le _,rfl,hF,rfl,rfl⟩ ⟨rfl,rfl,by simp;rfl,rfl,trivial⟩ trivial
 ·rintro n σ H ⟨i,hi,rfl,hc,rfl,rfl⟩
  refine kW ?_
  (refine kS ?_;repeat intro γ)
  refine CondP.dec (fun h=>?_) (fun h=>?_)<;>refine kW ?_
  ·have hi':i<l.length:=by omega
   have hx:=hf _ (List.getElem_mem hi')
   rw[List.drop_eq_getElem_cons hi'] at hc
   unfold indexP at hc
   (refine kR ?_;repeat intro γ)
   generalize l[i]=x at hx hc ⊢
   (refine kR ?_;repeat intro γ)
   refine CallP.flat [] _ hk hx rfl ?_
   refine kW ?_
   (refine kS ?_;repeat intro γ)
   refine CondP.intro (fun hq=>?_) (fun hq=>?_)<;>refine kW ?_
   ·rw[hq] at hc
    (refine kS ?_;repeat intro γ)
    exact .of (by rw[← hc];rfl)
   ·rw[hq] at hc
    (refine kS ?_;repeat intro γ)
    exact .intro <| W.of ⟨_,by omega,i+1,hi',rfl,hc,rfl,rfl⟩ ⟨rfl,rfl,rfl,rfl,trivial⟩ trivial
  ·(refine kS ?_;repeat intro γ)
   rw[List.drop_eq_nil_of_le (by omega)] at hc
   exact .of (by rw[← hc];rfl)
theorem containsV_ok (k:Nat) (p:Va→Bool) (l:List Va) (hl:l.length≤2^60) (hk:Callable Tryz.prog k) (hf:∀ x∈l,PureCall Tryz.prog k [encV x] (encB (p x))) :
  PureCall Tryz.prog 189 [.sl 7 (l.map encV),.fn (.func k) [] []] (encB (l.any p)):=by
 refine PC [] Tryz.func189 rfl (by rfl) rfl ?_
 refine kW ?_
 (refine kS ?_;repeat intro γ)
 refine CallP.flat [] _ c278 (indexV_ok k p l hl hk hf) rfl ?_
 refine kW ?_
 (refine kS ?_;repeat intro γ)
 refine .of ?_
 show AV.val (Value.bool (decide (0≤indexP p l 0)))=AV.val (Value.bool (l.any p))
 congr 2
 rw[Bool.eq_iff_iff,decide_eq_true_iff]
 exact indexP_ge p l 0 (by omega)
end Go.Proofs.YtlhdoekgipaihaaGreatDoor
