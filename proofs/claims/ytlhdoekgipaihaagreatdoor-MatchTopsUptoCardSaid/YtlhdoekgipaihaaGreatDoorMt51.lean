/- Part 51 of the proof: abstract values and their rules; walks of the functions; plain lemmas. -/
import Derived.Test.YtlhdoekgipaihaaGreatDoorMt50
set_option linter.unusedVariables false
set_option linter.unusedSimpArgs false
set_option linter.unusedSectionVars false
set_option maxRecDepth 100000
set_option exponentiation.threshold 400
namespace Go.Proofs.YtlhdoekgipaihaaGreatDoor
open Go Go.Fw
structure Va where
 name:ByteArray
 kind:Int
 type:Int
 value:ByteArray
 start:ByteArray
 fixed:Bool
 unit:ByteArray
def encV (v:Va):AV:=.agg [encS v.name,encI v.kind,encI v.type,encS v.value,encS v.start,encB v.fixed,encS v.unit]
def encK (ks:List (ByteArray×Va)):AV:=.mp (ks.map fun x=>encS x.1) (ks.map fun x=>encV x.2)
def same2 (a b:Int×Bool):Int×Bool:=(a.1,a.2&&b.2&&decide (a.1=b.1))
def shpD (o:ByteArray):Int×Bool×Bool:=match assoc shp o with
 | some x=>x
 | none=>(0,false,false)
def typeG (ks:List (ByteArray×Va)) (o t:ByteArray) (n:Int) (rs:List (Int×Bool)):Int×Bool:=
 if o=oVar∨o=oPre then match assoc ks t with
  | some v=>(v.type,decide (n=0)||decide (v.kind=0)||decide (v.kind=3))
  | none=>(0,false)
 else if o=oEq∨o=oNe then (1,(same2 (rs.getD 0 (0,false)) (rs.getD 1 (0,false))).2)
 else if o=oIf then ((same2 (rs.getD 1 (0,false)) (rs.getD 2 (0,false))).1,(rs.getD 0 (0,false)).2&&(same2 (rs.getD 1 (0,false)) (rs.getD 2 (0,false))).2&&decide ((rs.getD 0 (0,false)).1=1))
 else if rs.any (fun r=>!r.2||(decide (r.1=1) != (shpD o).2.1)) then (0,false)
 else (if (shpD o).2.2 then 1 else 0,true)
mutual
def typeF (ks:List (ByteArray×Va)):Ex→Int×Bool
 | .mk o t n es=>typeG ks o t n (typeL ks es)
def typeL (ks:List (ByteArray×Va)):List Ex→List (Int×Bool)
 | []=>[]
 | e::es=>typeF ks e::typeL ks es
end
theorem typeL_map (ks:List (ByteArray×Va)):∀ es:List Ex,typeL ks es=es.map (typeF ks)
 | []=>rfl
 | e::es=>by rw[List.map_cons,← typeL_map ks es];rfl
theorem typeF_eq (ks:List (ByteArray×Va)) (e:Ex):typeF ks e=typeG ks e.op e.text e.order (e.kids.map (typeF ks)):=by
 cases e with
 | mk o t n es=>rw[← typeL_map];rfl
def encT2 (r:Int×Bool):AV:=.tup [encI r.1,encB r.2]
theorem same_ok (ks:List (ByteArray×Va)) (a b:Ex) (ra rb:Int×Bool) (ha:PureCall Tryz.prog 112 [encK ks,encE a] (encT2 ra)) (hb:PureCall Tryz.prog 112 [encK ks,encE b] (encT2 rb)) :
  PureCall Tryz.prog 229 [encK ks,encE a,encE b] (encT2 (same2 ra rb)):=by
 refine PC [] Tryz.func229 rfl (by rfl) rfl ?_
 obtain ⟨x,bx⟩:=ra
 obtain ⟨y,by'⟩:=rb
 rw[encE_eq] at ha hb
 rw[encE_eq a,encE_eq b]
 generalize hF:same2 (x,bx) (y,by')=F
 unfold same2 at hF
 refine kW ?_
 (refine kS ?_;repeat intro γ)
 refine CallP.pure [] _ c112 ha ?_
 refine kW ?_
 (refine kS ?_;repeat intro γ)
 refine CallP.pure [] _ c112 hb ?_
 refine kW ?_
 (refine kS ?_;repeat intro γ)
 simp only at hF ⊢
 cases bx
 ·(refine kS ?_;repeat intro γ)
  exact .of (by rw[← hF];rfl)
 cases by'
 ·(refine kS ?_;repeat intro γ)
  exact .of (by rw[← hF];rfl)
 simp only[Bool.true_and] at hF
 (refine kS ?_;repeat intro γ)
 exact .of (by rw[← hF];rfl)
theorem built_kids {e:Ex} (h:builtF e=true):(e.kids.length:Int)=kidsF e.op∧∀ k∈e.kids,builtF k=true:=by
 rw[builtF_eq] at h
 simp only[Bool.and_eq_true] at h
 exact ⟨of_decide_eq_true h.1.1.1,fun k hk=>List.all_eq_true.1 h.2 k hk⟩
set_option maxHeartbeats 1000000 in
theorem Type_ok (ks:List (ByteArray×Va)) (e:Ex):SzE e→builtF e=true→PureCall Tryz.prog 112 [encK ks,encE e] (encT2 (typeF ks e)):=by
 induction e using ex_ind with
 | h e ih=>
   intro hs hb
   obtain ⟨hkl,hbk⟩:=built_kids hb
   have ihk:∀ k∈e.kids,PureCall Tryz.prog 112 [encK ks,encE k] (encT2 (typeF ks k)):=fun k hk=>ih k hk (hs.kid k hk) (hbk k hk)
   clear ih hbk
   have hlen:=hs.len
   refine PC [] Tryz.func112 rfl (by rfl) rfl ?_
   generalize hF:typeF ks e=F
   rw[typeF_eq] at hF
   rw[encE_eq]
   generalize hes:e.kids=es at *
   generalize e.op=o at *
   generalize e.text=t at *
   generalize e.order=n at *
   clear hs hb hes e
   unfold typeG at hF
   refine kW ?_
   (refine kS ?_;repeat intro γ)
   refine CondP.dec (fun h1=>?_) (fun h1=>?_)<;>refine kX ?_
   case' refine_1=>refine CondP.pos h1 ?_
   case' refine_2=>refine CondP.dec (fun h2=>?_) (fun h2=>?_)
   case refine_2.refine_2=>
    rw[if_neg (by rintro (h | h);exact h1 h;exact h2 h)] at hF
    refine kX ?_
    repeat (refine cpA_seq ?_;refine kX ?_)
    refine CondP.dec (fun h3=>?_) (fun h3=>?_)<;>refine kX ?_
    case' refine_1=>refine CondP.pos h3 ?_
    case' refine_2=>refine CondP.dec (fun h4=>?_) (fun h4=>?_)
    case refine_2.refine_2=>
     rw[if_neg (by rintro (h | h);exact h3 h;exact h4 h)] at hF
     refine kX ?_
     repeat (refine cpA_seq ?_;refine kX ?_)
     refine CondP.dec (fun h5=>?_) (fun h5=>?_)<;>refine kX ?_
     ·rw[if_pos h5] at hF
      obtain ⟨a,b,c,rfl⟩:∃ a b c,es=[a,b,c]:=by
       have:kidsF o=3:=by rw[h5];rfl
       rw[this] at hkl
       match es,hkl with
       | [a,b,c],_=>exact ⟨a,b,c,rfl⟩
       | [],h=>simp at h
       | [_],h=>simp at h
       | [_,_],h=>simp at h
       | _::_::_::_::_,h=>simp at h;omega
      have hca:=ihk a (by simp)
      have hsm:=same_ok ks b c _ _ (ihk b (by simp)) (ihk c (by simp))
      have hsl:List.map encE [a,b,c]=[.agg [encS a.op,encS a.text,encI a.order,.sl 4 (a.kids.map encE)],.agg [encS b.op,encS b.text,encI b.order,.sl 4 (b.kids.map encE)],.agg [encS c.op,encS c.text,encI c.order,.sl 4 (c.kids.map encE)]]:=by
       rw[← encE_eq,← encE_eq,← encE_eq];rfl
      replace hF:((same2 (typeF ks b) (typeF ks c)).1,(typeF ks a).2&&(same2 (typeF ks b) (typeF ks c)).2&&decide ((typeF ks a).1=1))=F:=hF
      generalize same2 (typeF ks b) (typeF ks c)=sm at hF hsm
      generalize typeF ks a=ta at hF hca
      rw[encE_eq a] at hca
      rw[encE_eq b,encE_eq c] at hsm
      refine cpA_seqW (W.of (l:=[(0,encK ks),(3,.op 3 _ 0 0),(4,encI 0),(5,encB false),(20,encS o)]) (m:=[(3,_,⟨42,4,[.agg [encS o,encS t,encI n,.sl 4 ([a,b,c].map encE)]]⟩)]) ?_ ⟨rfl,rfl,rfl,rfl,rfl,trivial⟩ ⟨rfl,trivial⟩)
      rw[hsl]
      refine kW ?_
      (refine kS ?_;repeat intro γ)
      refine CallP.pure [] _ c112 hca ?_
      refine kW ?_
      (refine kS ?_;repeat intro γ)
      refine CallG.intro _ c229 hsm ?_
      refine kW ?_
      (refine kS ?_;repeat intro γ)
      obtain ⟨tt,tb⟩:=ta
      obtain ⟨st,sb⟩:=sm
      simp only at hF ⊢
      cases tb
      ·(refine kS ?_;repeat intro γ)
       exact .of (by rw[← hF];rfl)
      cases sb
      ·(refine kS ?_;repeat intro γ)
       exact .of (by rw[← hF];rfl)
      simp only[Bool.true_and] at hF
      (refine kS ?_;repeat intro γ)
      exact .of (by rw[← hF];rfl)
     ·rw[if_neg h5] at hF
      refine cpA_seqW (W.of (l:=[(0,encK ks),(3,.op 3 _ 0 0),(4,encI 0),(5,encB false),(20,encS o)]) (m:=[(3,_,⟨42,4,[.agg [encS o,encS t,encI n,.sl 4 (es.map encE)]]⟩)]) ?_ ⟨rfl,rfl,rfl,rfl,rfl,trivial⟩ ⟨rfl,trivial⟩)
      refine kW ?_
      (refine kS ?_;repeat intro γ)
      refine CallG.intro _ c230 shapes_ok ?_
      refine kW ?_
      (refine kS ?_;repeat intro γ)
      refine Need.intro keyst9 ?_
      refine kW ?_
      obtain ⟨r,hr,hm⟩:=look_str encSh o shp
      refine LookP.intro r hr ?_
      have hcase:(r=none∧shpD o=(0,false,false))∨∃ i,r=some i∧(shp.map fun x=>encSh x.2).getD i .dead=encSh (shpD o):=by
       unfold shpD
       revert hm
       cases assoc shp o<;>cases r<;>intro hm
       ·exact .inl ⟨rfl,rfl⟩
       ·exact hm.elim
       ·exact hm.elim
       ·exact .inr ⟨_,rfl,hm⟩
      rcases hcase with ⟨rfl,hx⟩ | ⟨i,rfl,hm'⟩
      case' inl=>
       refine kW ?_
       refine kX ?_
       (refine kZ ?_;repeat intro γ)
       refine cpA_seqW (W.of (l:=[(0,encK ks),(3,.op 3 _ 0 0),(4,encI 0),(5,encB false),(14,.op 14 _ 0 0)]) (m:=[(3,_,⟨42,4,[.agg [encS o,encS t,encI n,.sl 4 (es.map encE)]]⟩),(14,_,⟨293,3,[encSh (shpD o)]⟩)]) ?_ ⟨rfl,rfl,rfl,rfl,rfl,trivial⟩ ⟨rfl,by rw[hx];rfl,trivial⟩)
      case' inr=>
       refine kW ?_
       rw[hm']
       refine kX ?_
       (refine kZ ?_;repeat intro γ)
       refine cpA_seqW (W.of (l:=[(0,encK ks),(3,.op 3 _ 0 0),(4,encI 0),(5,encB false),(14,.op 14 _ 0 0)]) (m:=[(3,_,⟨42,4,[.agg [encS o,encS t,encI n,.sl 4 (es.map encE)]]⟩),(14,_,⟨293,3,[encSh (shpD o)]⟩)]) ?_ ⟨rfl,rfl,rfl,rfl,rfl,trivial⟩ ⟨rfl,rfl,trivial⟩)
      all_goals
       generalize shpD o=x at hF ⊢
       refine kW ?_
       (refine kS ?_;repeat intro γ)
       refine LoopP.intro (fun m σ H=>∃ g i,m=es.length-i∧i≤es.length∧(if ((es.drop i).map (typeF ks)).any (fun r=>!r.2||(decide (r.1=1) != x.2.1)) then ((0,false):Int×Bool) else (if x.2.2 then 1 else 0,true))=F ∧
        σ=fr [(0,encK ks),(4,encI 0),(5,encB false),(14,.op 14 g 0 0),(104,.sl 4 (es.map encE)),(105,encI es.length),(106,encI i)] ∧
        H=hp [(14,g,⟨293,3,[encSh x]⟩)]) ?_ ?_
       ·refine .intro <| W.of ⟨_,_,0,rfl,Nat.zero_le _,hF,rfl,rfl⟩ ⟨rfl,rfl,rfl,rfl,rfl,?_,rfl,trivial⟩ ⟨rfl,trivial⟩
        show AV.val (.int .i64 _)=AV.val (.int .i64 _)
        rw[List.length_map]
       ·clear hF
        rintro m σ H ⟨g,i,rfl,hi,hF,rfl,rfl⟩
        refine kW ?_
        (refine kS ?_;repeat intro γ)
        refine CondP.dec (fun h=>?_) (fun h=>?_)<;>refine kW ?_
        ·have hi':i<es.length:=by omega
         rw[List.drop_eq_getElem_cons hi',List.map_cons,List.any_cons] at hF
         have hk:=ihk _ (List.getElem_mem hi')
         (refine kR ?_;repeat intro γ)
         generalize es[i]=k at hF hk ⊢
         generalize typeF ks k=tk at hF hk
         obtain ⟨kt,kb⟩:=tk
         rw[encE_eq] at hk ⊢
         (refine kR ?_;repeat intro γ)
         refine CallP.pure [] _ c112 hk ?_
         refine kW ?_
         (refine kS ?_;repeat intro γ)
         simp only at hF ⊢
         cases kb
         ·simp only[Bool.not_false,Bool.true_or,if_true] at hF
          (refine kS ?_;repeat intro γ)
          exact .of (by rw[← hF];rfl)
         simp only[Bool.not_true,Bool.false_or] at hF
         (refine kS ?_;repeat intro γ)
         refine CondP.intro (fun h6=>?_) (fun h6=>?_)<;>refine kW ?_
         ·rw[show (decide (kt=1) != x.2.1)=false by rw[bne,h6];rfl,Bool.false_or] at hF
          (refine kS ?_;repeat intro γ)
          exact .intro <| W.of ⟨_,by omega,_,i+1,rfl,hi',hF,rfl,rfl⟩ ⟨rfl,rfl,rfl,rfl,rfl,rfl,rfl,trivial⟩ ⟨rfl,trivial⟩
         ·rw[show (decide (kt=1) != x.2.1)=true by rw[bne,h6];rfl,Bool.true_or,if_pos rfl] at hF
          (refine kS ?_;repeat intro γ)
          exact .of (by rw[← hF];rfl)
        ·rw[List.drop_eq_nil_of_le (by omega)] at hF
         (refine kS ?_;repeat intro γ)
         refine CondP.intro (fun h6=>?_) (fun h6=>?_)<;>refine kW ?_
         ·rw[h6] at hF
          (refine kS ?_;repeat intro γ)
          exact .of (by rw[← hF];rfl)
         ·rw[h6] at hF
          (refine kS ?_;repeat intro γ)
          exact .of (by rw[← hF];rfl)
    all_goals
     have hv:o=oEq∨o=oNe:=by first | exact .inl h3 | exact .inr h4
     rw[if_pos hv] at hF
     obtain ⟨a,b,rfl⟩:∃ a b,es=[a,b]:=by
      have:kidsF o=2:=by rcases hv with h | h<;>rw[h]<;>rfl
      rw[this] at hkl
      match es,hkl with
      | [a,b],_=>exact ⟨a,b,rfl⟩
      | [],h=>simp at h
      | [_],h=>simp at h
      | _::_::_::_,h=>simp at h;omega
     have hsm:=same_ok ks a b _ _ (ihk a (by simp)) (ihk b (by simp))
     have hsl:List.map encE [a,b]=[.agg [encS a.op,encS a.text,encI a.order,.sl 4 (a.kids.map encE)],.agg [encS b.op,encS b.text,encI b.order,.sl 4 (b.kids.map encE)]]:=by
      rw[← encE_eq,← encE_eq];rfl
     replace hF:(1,(same2 (typeF ks a) (typeF ks b)).2)=F:=hF
     generalize same2 (typeF ks a) (typeF ks b)=sm at hF hsm
     rw[encE_eq a,encE_eq b] at hsm
     refine cpA_seqW (W.of (l:=[(0,encK ks),(3,.op 3 _ 0 0),(4,encI 0),(5,encB false),(20,encS o)]) (m:=[(3,_,⟨42,4,[.agg [encS o,encS t,encI n,.sl 4 ([a,b].map encE)]]⟩)]) ?_ ⟨rfl,rfl,rfl,rfl,rfl,trivial⟩ ⟨rfl,trivial⟩)
     rw[hsl]
     refine kW ?_
     (refine kS ?_;repeat intro γ)
     refine CallG.intro _ c229 hsm ?_
     refine kW ?_
     (refine kS ?_;repeat intro γ)
     exact .of (by rw[← hF];rfl)
   all_goals
    have hv:o=oVar∨o=oPre:=by first | exact .inl h1 | exact .inr h2
    rw[if_pos hv] at hF
    refine cpA_seqW (W.of (l:=[(0,encK ks),(3,.op 3 _ 0 0),(4,encI 0),(5,encB false),(20,encS o)]) (m:=[(3,_,⟨42,4,[.agg [encS o,encS t,encI n,.sl 4 (es.map encE)]]⟩)]) ?_ ⟨rfl,rfl,rfl,rfl,rfl,trivial⟩ ⟨rfl,trivial⟩)
    refine kW ?_
    (refine kS ?_;repeat intro γ)
    refine Need.intro keyst9 ?_
    refine kW ?_
    obtain ⟨r,hr,hm⟩:=look_str encV t ks
    refine LookP.intro r hr ?_
    cases ha:assoc ks t with
    | none=>
      rw[ha] at hm hF
      cases r with
      | some i=>exact hm.elim
      | none=>
        refine kW ?_
        (refine kS ?_;repeat intro γ)
        exact .of (by rw[← hF];rfl)
    | some v=>
      rw[ha] at hm hF
      cases r with
      | none=>exact hm.elim
      | some i=>
        refine kW ?_
        rw[show (List.map (fun x=>encV x.snd) ks).getD i AV.dead=encV v from hm]
        refine kW ?_
        (refine kS ?_;repeat intro γ)
        replace hF:(v.type,decide (n=0)||decide (v.kind=0)||decide (v.kind=3))=F:=hF
        refine CondP.dec (fun h3=>?_) (fun h3=>?_)<;>refine kW ?_
        ·rw[decide_eq_true h3,Bool.true_or,Bool.true_or] at hF
         (refine kS ?_;repeat intro γ)
         exact .of (by rw[← hF];rfl)
        rw[decide_eq_false h3,Bool.false_or] at hF
        (refine kS ?_;repeat intro γ)
        refine CondP.dec (fun h4=>?_) (fun h4=>?_)<;>refine kW ?_
        ·rw[decide_eq_true h4,Bool.true_or] at hF
         (refine kS ?_;repeat intro γ)
         exact .of (by rw[← hF];rfl)
        rw[decide_eq_false h4,Bool.false_or] at hF
        (refine kS ?_;repeat intro γ)
        exact .of (by rw[← hF];rfl)
end Go.Proofs.YtlhdoekgipaihaaGreatDoor
namespace Go.Proofs.YtlhdoekgipaihaaGreatDoor
open Go Go.Fw
def encVl (q:AV) (t is:Bool):AV:=match q with
 | .agg cs=>.agg (cs++[encB t,encB is])
 | _=>.dead
theorem True_ok (b:Bool):PureCall Tryz.prog 284 [encB b] (encVl nilQ b true):=by
 refine PC [] Tryz.func284 rfl (by rfl) rfl ?_
 refine kW ?_
 (refine kS ?_;repeat intro γ)
 exact .of rfl
theorem Number_ok (q:AV) (h:q=nilQ∨∃ n d,q=encQ n d):PureCall Tryz.prog 201 [q] (encVl q false false):=by
 refine PC [] Tryz.func201 rfl (by rfl) rfl ?_
 rcases h with rfl | ⟨n,d,rfl⟩
 all_goals
  refine kW ?_
  (refine kS ?_;repeat intro γ)
  exact .of rfl
theorem TypeV_ok (q:AV) (t is:Bool) (h:q=nilQ∨∃ n d,q=encQ n d):PureCall Tryz.prog 301 [encVl q t is] (encI (if is then 1 else 0)):=by
 refine PC [] Tryz.func301 rfl (by rfl) rfl ?_
 rcases h with rfl | ⟨n,d,rfl⟩
 all_goals
  refine kW ?_
  (refine kS ?_;repeat intro γ)
  refine CondP.intro (fun h=>?_) (fun h=>?_)<;>refine kW ?_
  ·(refine kS ?_;repeat intro γ)
   exact .of (by rw[h];rfl)
  ·(refine kS ?_;repeat intro γ)
   exact .of (by rw[h];rfl)
def qAV:Option (Int×Int)→AV
 | some (n,d)=>encQ n d
 | none=>nilQ
theorem resQ_q (p:Option (Int×Int)×Bool):resQ p=.tup [qAV p.1,encB p.2]:=by
 obtain ⟨o,b⟩:=p
 cases o<;>rfl
theorem qAV_cases (o:Option (Int×Int)):qAV o=nilQ∨∃ n d,qAV o=encQ n d:=by
 cases o with
 | none=>exact .inl rfl
 | some q=>exact .inr ⟨q.1,q.2,rfl⟩
abbrev sTrue:ByteArray:=⟨#[116,114,117,101]⟩
abbrev sFalse:ByteArray:=⟨#[102,97,108,115,101]⟩
def resV (s:ByteArray):AV:=
 if s=sTrue∨s=sFalse then .tup [encVl nilQ (decide (s=sTrue)) true,encB true]
 else .tup [encVl (qAV (parseQ s.data.toList).1) false false,encB (parseQ s.data.toList).2]
theorem ParseV_ok (s:ByteArray) (hs:s.size<2^35):PureCall Tryz.prog 263 [encS s] (resV s):=by
 refine PC [] Tryz.func263 rfl (by rfl) rfl ?_
 generalize hF:resV s=F
 unfold resV at hF
 have hq:=ParseQ_ok s.data.toList (by exact hs)
 rw[ofL_self] at hq
 have hT:=True_ok
 refine kW ?_
 (refine kS ?_;repeat intro γ)
 refine CondP.dec (fun h1=>?_) (fun h1=>?_)<;>refine kW ?_
 ·rw[if_pos (.inl h1),decide_eq_true h1] at hF
  (refine kS ?_;repeat intro γ)
  refine CallP.pure [] _ c284 (True_ok (decide (s=sTrue))) ?_
  rw[decide_eq_true h1]
  refine kW ?_
  (refine kS ?_;repeat intro γ)
  exact .of (by rw[← hF];rfl)
 (refine kS ?_;repeat intro γ)
 refine CondP.dec (fun h2=>?_) (fun h2=>?_)<;>refine kW ?_
 ·rw[if_pos (.inr h2),decide_eq_false h1] at hF
  (refine kS ?_;repeat intro γ)
  refine CallP.pure [] _ c284 (True_ok (decide (s=sTrue))) ?_
  rw[decide_eq_false h1]
  refine kW ?_
  (refine kS ?_;repeat intro γ)
  exact .of (by rw[← hF];rfl)
 rw[if_neg (by rintro (h | h);exact h1 h;exact h2 h)] at hF
 rw[resQ_q] at hq
 have hq2:=qAV_cases (parseQ s.data.toList).1
 generalize qAV (parseQ s.data.toList).1=q at *
 generalize (parseQ s.data.toList).2=b at *
 have hN:=Number_ok q hq2
 (refine kS ?_;repeat intro γ)
 refine CallP.pure [] _ c113 hq ?_
 rcases hq2 with rfl | ⟨n,d,rfl⟩
 all_goals
  refine kW ?_
  (refine kS ?_;repeat intro γ)
  refine CallP.pure [] _ c201 hN ?_
  refine kW ?_
  (refine kS ?_;repeat intro γ)
  exact .of (by rw[← hF];rfl)
def valueF (s:ByteArray) (t:Int):Bool:=
 if s=sTrue∨s=sFalse then decide (1=t) else (parseQ s.data.toList).2&&decide (0=t)
theorem value_ok (s:ByteArray) (t:Int) (hs:s.size<2^35):PureCall Tryz.prog 279 [encS s,encI t] (encB (valueF s t)):=by
 refine PC [] Tryz.func279 rfl (by rfl) rfl ?_
 have hp:=ParseV_ok s hs
 generalize hF:valueF s t=F
 unfold valueF at hF
 unfold resV at hp
 have hq2:=qAV_cases (parseQ s.data.toList).1
 generalize qAV (parseQ s.data.toList).1=q at *
 generalize (parseQ s.data.toList).2=b at *
 by_cases h1:s=sTrue∨s=sFalse
 ·rw[if_pos h1] at hp hF
  refine kW ?_
  (refine kS ?_;repeat intro γ)
  refine CallP.pure [] _ c263 hp ?_
  refine kW ?_
  (refine kS ?_;repeat intro γ)
  refine CallP.flat [] _ c301 (TypeV_ok nilQ (decide (s=sTrue)) true (.inl rfl)) rfl ?_
  refine kW ?_
  (refine kS ?_;repeat intro γ)
  exact .of (by rw[← hF];rfl)
 ·rw[if_neg h1] at hp hF
  have hT:=TypeV_ok q false false hq2
  refine kW ?_
  (refine kS ?_;repeat intro γ)
  refine CallP.pure [] _ c263 hp ?_
  rcases hq2 with rfl | ⟨n,d,rfl⟩
  all_goals
   refine kW ?_
   (refine kS ?_;repeat intro γ)
   refine CondP.intro (fun h2=>?_) (fun h2=>?_)<;>refine kW ?_
   ·rw[h2,Bool.true_and] at hF
    (refine kS ?_;repeat intro γ)
    refine CallP.flat [] _ c301 hT rfl ?_
    refine kW ?_
    (refine kS ?_;repeat intro γ)
    exact .of (by rw[← hF];rfl)
   ·rw[h2,Bool.false_and] at hF
    (refine kS ?_;repeat intro γ)
    exact .of (by rw[← hF];rfl)
end Go.Proofs.YtlhdoekgipaihaaGreatDoor
namespace Go.Proofs.YtlhdoekgipaihaaGreatDoor
open Go Go.Fw
def nlt (n:Int):Bool:=(decide (n<97)||decide (122<n))&&(decide (n<65)||decide (90<n))
theorem factorC_ok (n:Int):PureCall Tryz.prog 377 [.val (.int .i32 n)] (encB (nlt n)):=by
 refine PC [] Tryz.func377 rfl (by rfl) rfl ?_
 refine kW ?_
 (repeat (any_goals (first | ((first | refine N0 ?_ | refine A0 fun γ=>?_ | refine C1 ?_ | refine C2 ?_ | refine C3 ?_ | refine C4 ?_ | refine C5 ?_ | refine C6 ?_ | refine C7 ?_ | refine D0 fun γs=>?_ | refine A1 fun γs=>?_ | refine N2 ?_ | refine N3 ?_ | refine N1 ?_);refine kW ?_) | (refine CondP.dec (fun _=>?_) (fun _=>?_)<;>refine kW ?_) | (refine CondP.intro (fun _=>?_) (fun _=>?_)<;>refine kW ?_))))
 all_goals (refine .of ?_;show AV.val (Value.bool _)=AV.val (Value.bool _);congr 1;unfold nlt;simp_all<;>omega)
theorem symbolC_ok (n:Int):PureCall Tryz.prog 393 [.val (.int .i32 n)] (encB (nlt n)):=by
 refine PC [] Tryz.func393 rfl (by rfl) rfl ?_
 refine kW ?_
 (repeat (any_goals (first | ((first | refine N0 ?_ | refine A0 fun γ=>?_ | refine C1 ?_ | refine C2 ?_ | refine C3 ?_ | refine C4 ?_ | refine C5 ?_ | refine C6 ?_ | refine C7 ?_ | refine D0 fun γs=>?_ | refine A1 fun γs=>?_ | refine N2 ?_ | refine N3 ?_ | refine N1 ?_);refine kW ?_) | (refine CondP.dec (fun _=>?_) (fun _=>?_)<;>refine kW ?_) | (refine CondP.intro (fun _=>?_) (fun _=>?_)<;>refine kW ?_))))
 all_goals (refine .of ?_;show AV.val (Value.bool _)=AV.val (Value.bool _);congr 1;unfold nlt;simp_all<;>omega)
theorem rune_high (l:List UInt8) (p:Nat) (hp:p<l.length) (h:128≤(l[p]).toNat):128≤(runeAt (ofL l) p).1:=by
 unfold runeAt Utf8.decode
 have e:((ofL l).get! (p+0)).toNat=(l[p]).toNat:=by
  show (l.toArray[p+0]!).toNat=_
  rw[Nat.add_zero,getElem!_pos _ p (by simpa using hp)]
  simp
 simp only[e]
 rw[if_neg (by omega)]
 unfold Utf8.runeError
 split
 ·split<;>simp<;>omega
 ·split
  ·split
   ·rename_i h2;simp at h2 ⊢;omega
   ·simp
  ·split
   ·split
    ·rename_i h2;simp at h2 ⊢;omega
    ·simp
   ·simp
def fiL:List UInt8→Int→Int
 | [],_=>-1
 | c::r,i=>if nlt c.toNat then i else fiL r (i+1)
theorem indexFuncS_ok (k:Nat) (l:List UInt8) (hl:l.length<2^62) (hk:Callable Tryz.prog k) (hf:∀ n:Int,PureCall Tryz.prog k [.val (.int .i32 n)] (encB (nlt n))) :
  PureCall Tryz.prog 391 [encS (ofL l),.fn (.func k) [] [],encB true] (encI (fiL l 0)):=by
 refine PC [] Tryz.func391 rfl (by rfl) rfl ?_
 generalize hF:fiL l 0=F
 refine kW ?_
 (refine kS ?_;repeat intro γ)
 refine LoopP.intro (fun m σ H=>∃ g p,m=l.length-p∧p≤l.length∧fiL (l.drop p) p=F∧σ=fr [(0,encS (ofL l)),(1,.fn (.func k) [] []),(2,encB true),(10,.it 10 g)]∧H=hp [(10,g,⟨0,0,[encS (ofL l),encI p]⟩)]) ?_ ?_
 ·exact .intro <| W.of ⟨_,_,0,rfl,Nat.zero_le _,hF,rfl,rfl⟩ ⟨rfl,rfl,rfl,rfl,trivial⟩ ⟨rfl,trivial⟩
 ·rintro m σ H ⟨g,p,rfl,hp,hF,rfl,rfl⟩
  refine kW ?_
  (refine kS ?_;repeat intro γ)
  rw[ofL_size]
  refine CondP.dec (fun h=>?_) (fun h=>?_)<;>refine kW ?_
  ·have hp':p<l.length:=by omega
   rw[List.drop_eq_getElem_cons hp'] at hF
   unfold fiL at hF
   by_cases h8:(l[p]).toNat<128
   ·have hr:runeAt (ofL l) (Int.toNat p)=((l[p]).toNat,1):=rune_ascii l p hp' h8
    rw[hr]
    generalize l[p]=c at hF h8 ⊢
    (refine kS ?_;repeat intro γ)
    refine CallP.flat [] _ hk (hf _) rfl ?_
    refine kW ?_
    (refine kS ?_;repeat intro γ)
    refine CondP.intro (fun h1=>?_) (fun h1=>?_)<;>refine kW ?_
    ·have h1':nlt c.toNat=true:=by simpa using h1
     rw[if_pos h1'] at hF
     (refine kS ?_;repeat intro γ)
     exact .of (by rw[← hF];rfl)
    ·have h1':nlt c.toNat=false:=by simpa using h1
     rw[if_neg (by rw[h1'];decide)] at hF
     (refine kS ?_;repeat intro γ)
     exact .intro <| W.of ⟨_,by omega,_,p+1,rfl,hp',hF,rfl,rfl⟩ ⟨rfl,rfl,rfl,rfl,trivial⟩ ⟨rfl,trivial⟩
   ·have hr:=rune_high l p hp' (by omega)
    have hn:nlt (l[p]).toNat=true:=by unfold nlt;simp;omega
    rw[if_pos hn] at hF
    have hr2:nlt ((runeAt (ofL l) (Int.toNat p)).1:Nat)=true:=by unfold nlt;rw[Int.toNat_natCast];simp;omega
    (refine kS ?_;repeat intro γ)
    refine CallP.flat [] _ hk (hf _) rfl ?_
    refine kW ?_
    rw[hr2]
    refine kW ?_
    (refine kS ?_;repeat intro γ)
    exact .of (by rw[← hF];rfl)
  ·rw[List.drop_eq_nil_of_le (by omega)] at hF
   (refine kS ?_;repeat intro γ)
   exact .of (by rw[← hF];rfl)
theorem IndexFuncS_ok (k:Nat) (l:List UInt8) (hl:l.length<2^62) (hk:Callable Tryz.prog k) (hf:∀ n:Int,PureCall Tryz.prog k [.val (.int .i32 n)] (encB (nlt n))) :
  PureCall Tryz.prog 376 [encS (ofL l),.fn (.func k) [] []] (encI (fiL l 0)):=by
 refine PC [] Tryz.func376 rfl (by rfl) rfl ?_
 refine kW ?_
 (refine kS ?_;repeat intro γ)
 refine CallP.flat [] _ c391 (indexFuncS_ok k l hl hk hf) rfl ?_
 refine kW ?_
 (refine kS ?_;repeat intro γ)
 exact .of rfl
theorem ContainsFuncS_ok (k:Nat) (l:List UInt8) (hl:l.length<2^62) (hk:Callable Tryz.prog k) (hf:∀ n:Int,PureCall Tryz.prog k [.val (.int .i32 n)] (encB (nlt n))) :
  PureCall Tryz.prog 392 [encS (ofL l),.fn (.func k) [] []] (encB (decide (0≤fiL l 0))):=by
 refine PC [] Tryz.func392 rfl (by rfl) rfl ?_
 refine kW ?_
 (refine kS ?_;repeat intro γ)
 refine CallP.flat [] _ c376 (IndexFuncS_ok k l hl hk hf) rfl ?_
 refine kW ?_
 (refine kS ?_;repeat intro γ)
 exact .of rfl
def symF (l:List UInt8):Bool:=decide (l≠[])&&decide (l.length≤8)&&!decide (0≤fiL l 0)
theorem Symbol_ok (l:List UInt8) (hl:l.length<2^62):PureCall Tryz.prog 378 [encS (ofL l)] (encB (symF l)):=by
 refine PC [] Tryz.func378 rfl (by rfl) rfl ?_
 generalize hF:symF l=F
 unfold symF at hF
 have hn:=ofL_nil l
 have hsz:=ofL_size l
 refine kW ?_
 (refine kS ?_;repeat intro γ)
 refine CondP.dec (fun h1=>?_) (fun h1=>?_)<;>refine kW ?_
 ·have h1':=hn.1 h1
  subst h1'
  (refine kS ?_;repeat intro γ)
  exact .of (by rw[← hF];rfl)
 ·rw[decide_eq_true (show l≠[] from fun e=>h1 (hn.2 e)),Bool.true_and] at hF
  (refine kS ?_;repeat intro γ)
  rw[hsz]
  refine CondP.dec (fun h=>?_) (fun h=>?_)<;>refine kW ?_
  ·rw[decide_eq_true (by omega),Bool.true_and] at hF
   (refine kS ?_;repeat intro γ)
   refine CallP.flat [] _ c392 (ContainsFuncS_ok 393 l hl c393 symbolC_ok) rfl ?_
   refine kW ?_
   (refine kS ?_;repeat intro γ)
   exact .of (by rw[← hF];rfl)
  ·rw[decide_eq_false (by omega),Bool.false_and] at hF
   (refine kS ?_;repeat intro γ)
   exact .of (by rw[← hF];rfl)
end Go.Proofs.YtlhdoekgipaihaaGreatDoor
namespace Go.Proofs.YtlhdoekgipaihaaGreatDoor
open Go Go.Fw
def cntL (l:List UInt8) (c:UInt8):Nat:=l.count c
theorem extCount (l:List UInt8) (n:Nat) (h:n<256):ExtCall Tryz.prog 398 [encS (ofL l),.val (.int .u8 n)] (.int .i64 (cntL l (UInt8.ofNat n))):=by
 refine ⟨rfl,fun κ w N vs hv=>?_⟩
 rw[vrs2 hv]
 have h1:Tryz.prog.funcs[398]?=some Tryz.f398:=Tryz.func398
 have h2:(Tryz.f398.name == "runtime.NumGoroutine")=false:=by kernel_rfl
 have h3:Tryz.f398.body.isNone=true:=by kernel_rfl
 have h4:Extern.findNext Tryz.f398=none:=by kernel_rfl
 have h5:Extern.find Tryz.f398=some Extern.BytealgCount.count:=by kernel_rfl
 simp only[callFunc,Sem.run_bind,run_program,Result.andThen_ok,h1,h2,h3,h4,h5,run_mark,if_true,Bool.false_eq_true,if_false]
 rw[show (Extern.BytealgCount.count #[.string (ofL l),.int .u8 n]).run Tryz.prog w=_ from Lib.run_countString (ofL l) n w,Int.toNat_natCast];rfl
theorem Count_ok (l:List UInt8) (c:UInt8) (hl:l.length<2^62):PureCall Tryz.prog 389 [encS (ofL l),encS (b1 c)] (encI (cntL l c)):=by
 refine PC [] Tryz.func389 rfl (by rfl) rfl ?_
 have hb:(b1 c).size=1:=rfl
 have hc:byteAt (b1 c) (Int.toNat 0)=(c.toNat:Int):=rfl
 have he:=extCount l c.toNat c.toNat_lt
 rw[UInt8.ofNat_toNat] at he
 refine kW ?_
 (refine kS ?_;repeat intro γ)
 rw[hc]
 refine CallP.ext _ he ?_
 refine kW ?_
 (refine kS ?_;repeat intro γ)
 exact .of rfl
theorem IndexS_ok (s:ByteArray) (c:UInt8):PureCall Tryz.prog 390 [encS s,encS (b1 c)] (encI (idxB s c)):=by
 refine PC [] Tryz.func390 rfl (by rfl) rfl ?_
 refine kW ?_
 (refine kS ?_;repeat intro γ)
 refine CallP.flat [] _ c345 (Index_ok s c) rfl ?_
 refine kW ?_
 (refine kS ?_;repeat intro γ)
 exact .of rfl
def splitL:List UInt8→List (List UInt8)
 | []=>[[]]
 | c::r=>if c=46 then []::splitL r else match splitL r with
   | x::xs=>(c::x)::xs
   | []=>[[c]]
theorem splitL_cons (c:UInt8) (r:List UInt8):splitL (c::r)=if c=46 then []::splitL r else match splitL r with
 | x::xs=>(c::x)::xs
 | []=>[[c]]:=rfl
theorem splitL_ne (l:List UInt8):splitL l≠[]:=by
 cases l with
 | nil=>simp[splitL]
 | cons c r=>
   unfold splitL
   split
   ·simp
   ·split<;>simp
theorem splitL_cnt (l:List UInt8):(splitL l).length=cntL l 46+1:=by
 induction l with
 | nil=>rfl
 | cons c r ih=>
   unfold splitL cntL
   rw[List.count_cons]
   have hne:=splitL_ne r
   by_cases hc:c=46
   ·rw[if_pos hc];subst hc;simp[ih,cntL]
   ·rw[if_neg hc]
    cases hr:splitL r with
    | nil=>exact absurd hr hne
    | cons x xs=>
      rw[hr] at ih
      unfold cntL at ih
      simp only[List.length_cons] at ih ⊢
      rw[if_neg (by simpa using hc)]
      omega
theorem splitL_idx (l:List UInt8):(idxB (ofL l) 46<0→splitL l=[l]∧cntL l 46=0)∧(0≤idxB (ofL l) 46→splitL l=l.take (idxB (ofL l) 46).toNat::splitL (l.drop ((idxB (ofL l) 46).toNat+1))∧cntL l 46=cntL (l.drop ((idxB (ofL l) 46).toNat+1)) 46+1):=by
 induction l with
 | nil=>exact ⟨fun _=>⟨rfl,rfl⟩,by decide⟩
 | cons c r ih=>
   rw[idxB_cons,splitL_cons]
   by_cases hc:c=46
   ·subst hc
    simp[cntL]
   ·rw[if_neg hc,if_neg hc]
    obtain ⟨h1,h2⟩:=ih
    have hcnt:cntL (c::r) 46=cntL r 46:=by unfold cntL;rw[List.count_cons,if_neg (by simpa using hc)];rfl
    rw[hcnt]
    by_cases hi:idxB (ofL r) 46<0
    ·rw[if_pos hi]
     obtain ⟨h3,h4⟩:=h1 hi
     rw[h3]
     exact ⟨fun _=>⟨rfl,h4⟩,fun h=>by omega⟩
    ·rw[if_neg hi]
     obtain ⟨h3,h4⟩:=h2 (by omega)
     refine ⟨fun h=>by omega,fun _=>?_⟩
     rw[show (idxB (ofL r) 46+1).toNat=(idxB (ofL r) 46).toNat+1 by omega,h3]
     refine ⟨?_,h4⟩
     rw[List.take_succ_cons,List.drop_succ_cons]
def encL (l:List UInt8):AV:=encS (ofL l)
theorem repS (n:Nat):List.replicate n (mkEl { size:=1,bytes:=16,zero:=[Value.string ⟨#[]⟩],kind:=Kd.str })=(List.replicate n ([]:List UInt8)).map encL:=by rw[List.map_replicate];rfl
theorem setL (xs:List (List UInt8)) (v:List UInt8) (n i:Nat) (h:i=xs.length):((xs++List.replicate (n+1) []).map encL).set i (encL v)=((xs++[v])++List.replicate n []).map encL:=by
 subst h
 rw[List.replicate_succ,set_map encL _ _ v _ rfl,set_at];simp
theorem endL {S:List Nat} {H:Hp} {k:Nat} {L:List AV} {n:Nat} {xs:List (List UInt8)} (h:L=xs.map encL) (hn:n=xs.length):AV.sl 1 (((L.drop 0).take n).map (snapEl (snapC S H k)))=.sl 1 (xs.map encL):=by
 subst h
 rw[snap_list _ _ _ _ hn fun x=>by cases k<;>rfl]
theorem genSplit_ok (l:List UInt8) (hl:l.length<2^40):PureCall Tryz.prog 375 [encS (ofL l),encS (b1 46),encI 0,encI (-1)] (.sl 1 ((splitL l).map encL)):=by
 refine PC [31] Tryz.func375 rfl (by rfl) rfl ?_
 have hb:(b1 46).size=1:=rfl
 have hsz:=ofL_size l
 have hcl:cntL l 46≤l.length:=List.count_le_length
 refine kW ?_
 (refine kS ?_;repeat intro γ)
 refine CallP.flat [] _ c389 (Count_ok l 46 (by omega)) rfl ?_
 refine kW ?_
 (refine kS ?_;repeat intro γ)
 have e0:(min ((cntL l 46:Int)+1) (((ofL l).size:Int)+1)).toNat=cntL l 46+1:=by rw[hsz];omega
 have e1:min ((cntL l 46:Int)+1) (((ofL l).size:Int)+1)-1=cntL l 46:=by rw[hsz];omega
 simp only[e0,e1]
 refine LoopP.intro (fun k σ H=>∃ g,∃ xs:List (List UInt8),∃ m:List UInt8,k=cntL m 46∧splitL l=xs++splitL m∧xs.length+cntL m 46=cntL l 46∧m.length≤l.length ∧
  σ=fr [(0,encS (ofL m)),(1,encS (b1 46)),(2,encI 0),(3,encI (cntL l 46)),(9,.own 31 g 0 (cntL l 46+1)),(10,encI xs.length)] ∧
  H=hp [(31,g,⟨9,1,(xs++List.replicate (cntL m 46+1) []).map encL⟩)]) ?_ ?_
 ·refine .intro <| W.of ⟨_,_,[],l,rfl,rfl,by simp,Nat.le_refl _,rfl,rfl⟩ ⟨rfl,rfl,rfl,rfl,rfl,rfl,trivial⟩ ⟨?_,trivial⟩
  show some (_,(⟨_,_,_⟩:Blk))=some (_,⟨_,_,_⟩)
  rw[List.nil_append,← repS]
 ·rintro k σ H ⟨g,xs,m,rfl,hs,hc,hm,rfl,rfl⟩
  have hszm:=ofL_size m
  have hli:=@idxB_lt (ofL m) 46
  obtain ⟨hi1,hi2⟩:=splitL_idx m
  refine kW ?_
  (refine kS ?_;repeat intro γ)
  refine CondP.dec (fun h=>?_) (fun h=>?_)<;>refine kW ?_
  ·(refine kS ?_;repeat intro γ)
   refine CallP.flat [] _ c390 (IndexS_ok (ofL m) 46) rfl ?_
   have hpos:0≤idxB (ofL m) 46:=by
    rcases Int.lt_or_le (idxB (ofL m) 46) 0 with h' | h'
    ·have:=(hi1 h').2;omega
    ·exact h'
   obtain ⟨hsp,hcn⟩:=hi2 hpos
   generalize idxB (ofL m) 46=j at *
   refine kW ?_
   (refine kS ?_;repeat intro γ)
   refine CondP.neg (by omega) ?_
   refine kW ?_
   (refine kS ?_;repeat intro γ)
   rw[Nat.zero_add,Int.toNat_natCast,getD_map encL _ _ (by simp)]
   refine kW ?_
   (refine kS ?_;repeat intro γ)
   refine .intro <| W.of ⟨cntL (m.drop (j.toNat+1)) 46,by omega,g,xs++[m.take j.toNat],m.drop (j.toNat+1),rfl,by rw[hs,hsp];simp,by simp;omega,by simp<;>omega,rfl,rfl⟩ ⟨?_,rfl,rfl,rfl,rfl,?_,trivial⟩ ⟨?_,trivial⟩
   ·show encS ((ofL m).extract (j+(((b1 46).size:Nat):Int)).toNat (ofL m).size)=encS _
    rw[hb,ofL_extract,hszm,List.take_length,show (j+((1:Nat):Int)).toNat=j.toNat+1 by omega]
   ·show AV.val (.int .i64 _)=AV.val (.int .i64 _)
    congr 2;simp
   ·have hv:encS ((ofL m).extract 0 (j+0).toNat)=encL (m.take j.toNat):=by
     rw[ofL_extract,Int.add_zero,List.drop_zero];rfl
    show some (g,(⟨9,1,List.set _ _ (encS ((ofL m).extract 0 (j+0).toNat))⟩:Blk))=_
    rw[hv,setL _ _ _ _ rfl,hcn]
  ·have hc0:cntL m 46=0:=by omega
   have hsm:splitL m=[m]:=by
    rcases Int.lt_or_le (idxB (ofL m) 46) 0 with h' | h'
    ·exact (hi1 h').1
    ·have:=(hi2 h').2;omega
   rw[hsm] at hs
   rw[hc0]
   (refine kS ?_;repeat intro γ)
   rw[Nat.zero_add,Int.toNat_natCast,getD_map encL _ _ (by simp)]
   refine kW ?_
   (refine kS ?_;repeat intro γ)
   refine .of ?_
   rw[hs]
   refine endL (L:=((xs++List.replicate (0+1) []).map encL).set _ (encL m)) (xs:=xs++[m]) ?_ ?_
   ·exact (setL _ _ 0 _ (by omega)).trans (by simp)
   ·show ((xs.length:Int)+1).toNat-0=_
    rw[List.length_append,List.length_singleton];omega
theorem Split_ok (l:List UInt8) (hl:l.length<2^40):PureCall Tryz.prog 366 [encS (ofL l),encS (b1 46)] (.sl 1 ((splitL l).map encL)):=by
 refine PC [] Tryz.func366 rfl (by rfl) rfl ?_
 refine kW ?_
 (refine kS ?_;repeat intro γ)
 refine CallP.pure [] _ c375 (genSplit_ok l hl) ?_
 refine kW ?_
 (refine kS ?_;repeat intro γ)
 exact .of rfl
end Go.Proofs.YtlhdoekgipaihaaGreatDoor
namespace Go.Proofs.YtlhdoekgipaihaaGreatDoor
open Go Go.Fw
def fitsF (n d:Int):Bool:=!decide (sgn n=0)&&decide (nd n≤9)&&decide (nd d≤9)
theorem fits_ok (n d:Int) (hn:zl n<2^36) (hd:zl d<2^36):PureCall Tryz.prog 380 [encQ n d] (encB (fitsF n d)):=by
 refine PC [] Tryz.func380 rfl (by rfl) rfl ?_
 generalize hF:fitsF n d=F
 unfold fitsF at hF
 have hs:=SignQ_ok n d
 have h1:=NumQ_ok n d
 have h2:=DenQ_ok n d
 generalize sgn n=s at hF hs
 unfold encQ at hs h1 h2 ⊢
 refine kW ?_
 (refine kS ?_;repeat intro γ)
 refine CallP.flat [] _ c160 hs rfl ?_
 refine kW ?_
 (refine kS ?_;repeat intro γ)
 refine CondP.dec (fun h=>?_) (fun h=>?_)<;>refine kW ?_
 ·rw[decide_eq_true h] at hF
  (refine kS ?_;repeat intro γ)
  exact .of (by rw[← hF];rfl)
 rw[decide_eq_false h,Bool.not_false,Bool.true_and] at hF
 (refine kS ?_;repeat intro γ)
 refine CallP.pure [] _ c395 h1 ?_
 refine kW ?_
 (refine kS ?_;repeat intro γ)
 refine CallP.flat [] _ c234 (Digits_ok n hn) rfl ?_
 refine kW ?_
 (refine kS ?_;repeat intro γ)
 refine CondP.dec (fun h=>?_) (fun h=>?_)<;>refine kW ?_
 ·rw[decide_eq_true (by omega),Bool.true_and] at hF
  (refine kS ?_;repeat intro γ)
  refine CallP.pure [] _ c396 h2 ?_
  refine kW ?_
  (refine kS ?_;repeat intro γ)
  refine CallP.flat [] _ c234 (Digits_ok d hd) rfl ?_
  refine kW ?_
  (refine kS ?_;repeat intro γ)
  refine .of ?_
  rw[← hF]
  show AV.val (.bool _)=AV.val (.bool _)
  congr 2
  exact decide_eq_decide.2 (by omega)
 ·rw[decide_eq_false (by omega),Bool.false_and] at hF
  (refine kS ?_;repeat intro γ)
  exact .of (by rw[← hF];rfl)
def wrT (n d:Int):List Nat:=if qT n d=[49] then [] else if d=1 then qT n d else 40::qT n d++[41]
theorem ofT_inj {a b:List Nat} (ha:∀ c∈a,c<256) (hb:∀ c∈b,c<256) (h:ofL (a.map UInt8.ofNat)=ofL (b.map UInt8.ofNat)):a=b:=by
 have h1:=congrArg (fun s:ByteArray=>s.data.toList.map UInt8.toNat) h
 simp only[ofL,List.map_map] at h1
 have key:∀ l:List Nat,(∀ c∈l,c<256)→l.map (UInt8.toNat∘UInt8.ofNat)=l:=by
  intro l hl
  refine (List.map_congr_left fun c hc=>?_).trans (List.map_id l)
  have:=hl c hc
  simp;omega
 rwa [key a ha,key b hb] at h1
theorem decT_lt (n:Nat):∀ c∈decT n,c<256:=by
 intro c hc
 have:=List.all_eq_true.1 (decT_dg n) c hc
 unfold isDg at this
 simp at this
 omega
theorem sT_lt (z:Int):∀ c∈sT z,c<256:=by
 intro c hc
 unfold sT at hc
 split at hc
 ·rcases List.mem_cons.1 hc with h | h
  ·omega
  ·exact decT_lt _ c h
 ·exact decT_lt _ c hc
theorem qT_lt (n d:Int):∀ c∈qT n d,c<256:=by
 intro c hc
 unfold qT at hc
 split at hc
 ·exact sT_lt _ c hc
 ·rcases List.mem_append.1 hc with h | h
  ·exact sT_lt _ c h
  ·rcases List.mem_cons.1 h with h | h
   ·omega
   ·exact sT_lt _ c h
theorem qT_le (n d:Int):(qT n d).length≤9*zl n+9*zl d+5:=by
 have s3:=sT_le n
 have s4:=sT_le d
 unfold qT
 split
 ·omega
 ·simp;omega
theorem write_ok (n d:Int) (hn:zl n<2^36) (hd:zl d<2^36):PureCall Tryz.prog 381 [encQ n d] (encT (wrT n d)):=by
 refine PC [] Tryz.func381 rfl (by rfl) rfl ?_
 have hs:=StringQ_ok n d hn hd
 have hi:=IntegerQ_ok n d
 have hle:=qT_le n d
 have hlt:=qT_lt n d
 have hsz:=encT_size (qT n d)
 generalize hF:wrT n d=F
 unfold wrT at hF
 have h1:ofL ((qT n d).map UInt8.ofNat)=⟨#[49]⟩↔qT n d=[49]:=by
  constructor
  ·intro h
   exact ofT_inj hlt (by simp) (h.trans (show (⟨#[49]⟩:ByteArray)=ofL ([49].map UInt8.ofNat) from rfl))
  ·intro h;rw[h];rfl
 generalize qT n d=q at *
 unfold encQ at hs hi ⊢
 refine kW ?_
 (refine kS ?_;repeat intro γ)
 refine CallP.flat [] _ c162 hs rfl ?_
 refine kW ?_
 (refine kS ?_;repeat intro γ)
 refine CondP.dec (fun h=>?_) (fun h=>?_)<;>refine kW ?_
 ·rw[if_pos (h1.1 h)] at hF
  (refine kS ?_;repeat intro γ)
  exact .of (by rw[← hF];rfl)
 rw[if_neg (fun e=>h (h1.2 e))] at hF
 (refine kS ?_;repeat intro γ)
 refine CallP.flat [] _ c338 hi rfl ?_
 refine kW ?_
 (refine kS ?_;repeat intro γ)
 refine CondP.dec (fun h2=>?_) (fun h2=>?_)<;>refine kW ?_
 ·rw[if_pos h2] at hF
  (refine kS ?_;repeat intro γ)
  exact .of (by rw[← hF];rfl)
 rw[if_neg h2] at hF
 have s5:(⟨#[40]⟩:ByteArray).size=1:=rfl
 have s6:(⟨#[41]⟩:ByteArray).size=1:=rfl
 (refine kS ?_;repeat intro γ)
 rw[ByteArray.size_append]
 (refine kS ?_;repeat intro γ)
 refine .of ?_
 rw[← hF]
 have e1:(⟨#[40]⟩:ByteArray)=ofL (List.map UInt8.ofNat [40]):=rfl
 have e2:(⟨#[41]⟩:ByteArray)=ofL (List.map UInt8.ofNat [41]):=rfl
 show encS _=encS _
 rw[e1,e2,encT_app,encT_app];rfl
theorem Of1Q_ok:PureCall Tryz.prog 154 [encI 1] (encQ 1 1):=by
 refine PC [] Tryz.func154 rfl (by rfl) rfl ?_
 refine kW ?_
 (refine kS ?_;repeat intro γ)
 refine CallP.pure [] _ c233 Of1_ok ?_
 refine kW ?_
 (refine kS ?_;repeat intro γ)
 refine CallP.pure [] _ c233 Of1_ok ?_
 refine kW ?_
 (refine kS ?_;repeat intro γ)
 exact .of rfl
end Go.Proofs.YtlhdoekgipaihaaGreatDoor
namespace Go.Proofs.YtlhdoekgipaihaaGreatDoor
open Go Go.Fw
theorem fiL_le (l:List UInt8):∀ i:Int,0≤i→fiL l i=-1∨(i≤fiL l i∧fiL l i<i+l.length):=by
 induction l with
 | nil=>intro i hi;left;rfl
 | cons c r ih=>
   intro i hi
   unfold fiL
   split
   ·right;simp;omega
   ·rcases ih (i+1) (by omega) with h | h
    ·left;exact h
    ·right;simp;omega
def facT (s:ByteArray) (j:Nat):ByteArray:=
 if (cutP (s.extract j s.size) (b1 40)).2 then trimX (cutP (s.extract j s.size) (b1 40)).1 (b1 41) else s.extract j s.size
def facF (s:ByteArray):ByteArray×Option (Int×Int)×Bool:=
 if fiL s.data.toList 0<0 then (s,some (1,1),symF s.data.toList)
 else (s.extract 0 (fiL s.data.toList 0).toNat,(parseQ (facT s (fiL s.data.toList 0).toNat).data.toList).1,
  (parseQ (facT s (fiL s.data.toList 0).toNat).data.toList).2&&symF (s.extract 0 (fiL s.data.toList 0).toNat).data.toList&&match (parseQ (facT s (fiL s.data.toList 0).toNat).data.toList).1 with
    | some (n,d)=>fitsF n d&&decide (ofL ((wrT n d).map UInt8.ofNat)=s.extract (fiL s.data.toList 0).toNat s.size)
    | none=>false)
theorem ext_size (s:ByteArray) (a b:Nat):(s.extract a b).size≤s.size:=by
 have:=ofL_extract s.data.toList a b
 rw[ofL_self] at this
 rw[this,ofL_size,List.length_drop,List.length_take]
 show _≤s.data.toList.length
 omega
theorem cutP_size (s p:ByteArray):(cutP s p).1.size≤s.size:=by
 unfold cutP
 split
 ·exact ext_size ..
 ·exact Nat.le_refl _
theorem trimX_size (s p:ByteArray):(trimX s p).size≤s.size:=by
 unfold trimX
 split
 ·exact ext_size ..
 ·exact Nat.le_refl _
theorem facT_size (s:ByteArray) (j:Nat):(facT s j).size≤s.size:=by
 unfold facT
 split
 ·exact Nat.le_trans (trimX_size ..) (Nat.le_trans (cutP_size ..) (ext_size ..))
 ·exact ext_size ..
theorem parseQ_zl {l:List UInt8} {n d:Int} (h:(parseQ l).1=some (n,d)):zl n≤l.length∧zl d≤l.length+1:=by
 obtain ⟨hp1,hp2⟩:=pair_len l
 have h1:zl 1=1:=by unfold zl;rw[show (1:Int).natAbs=1 from rfl,dg_one hB9 (by omega) (by unfold B9;omega)];rfl
 unfold parseQ at h
 split at h
 ·cases h
 ·rename_i x hx
  have:=parseW_zl hx
  split at h
  ·cases h;omega
  ·split at h
   ·cases h
   ·rename_i y hy
    have:=parseW_zl hy
    split at h<;>cases h
    omega
theorem parseQ_some {l:List UInt8} (h:(parseQ l).2=true):∃ n d,(parseQ l).1=some (n,d):=by
 unfold parseQ at *
 split
 ·rename_i hx;rw[hx] at h;cases h
 ·rename_i x hx
  rw[hx] at h
  simp only at h
  split
  ·exact ⟨_,_,rfl⟩
  ·rename_i hy
   rw[hy] at h
   simp only at h
   split
   ·rename_i hz;rw[hz] at h;cases h
   ·rename_i y hz
    rw[hz] at h
    simp only at h
    split
    ·rename_i h1;rw[if_pos h1] at h;cases h
    ·exact ⟨_,_,rfl⟩
set_option maxHeartbeats 1000000 in
theorem factor_ok (s:ByteArray) (hs:s.size<2^35):PureCall Tryz.prog 367 [encS s] (.tup [encS (facF s).1,qAV (facF s).2.1,encB (facF s).2.2]):=by
 refine PC [] Tryz.func367 rfl (by rfl) rfl ?_
 have hi:=IndexFuncS_ok 377 s.data.toList (by exact Nat.lt_trans hs (by decide)) c377 factorC_ok
 rw[ofL_self] at hi
 have hj:=fiL_le s.data.toList 0 (by omega)
 have hj2:fiL s.data.toList 0≤s.size:=by
  have:s.data.toList.length=s.size:=rfl
  omega
 generalize hF:facF s=F
 unfold facF at hF
 generalize fiL s.data.toList 0=j at *
 refine kW ?_
 (refine kS ?_;repeat intro γ)
 refine CallP.flat [] _ c376 hi rfl ?_
 refine kW ?_
 (refine kS ?_;repeat intro γ)
 refine CondP.dec (fun h=>?_) (fun h=>?_)<;>refine kW ?_
 ·rw[if_pos h] at hF
  have hsy:=Symbol_ok s.data.toList (by exact Nat.lt_trans hs (by decide))
  rw[ofL_self] at hsy
  (refine kS ?_;repeat intro γ)
  refine CallP.pure [] _ c154 Of1Q_ok ?_
  refine kW ?_
  (refine kS ?_;repeat intro γ)
  refine CallP.flat [] _ c378 hsy rfl ?_
  refine kW ?_
  (refine kS ?_;repeat intro γ)
  exact .of (by rw[← hF];rfl)
 rw[if_neg h] at hF
 have he:=ext_size s j.toNat s.size
 have he2:=ext_size s 0 j.toNat
 have ht:=facT_size s j.toNat
 have hcs:=cutP_size (s.extract j.toNat s.size) (b1 40)
 have hcp:=CutPrefix_ok (s.extract j.toNat s.size) (b1 40) (by omega) (by decide)
 have htx:=TrimSuffix_ok (cutP (s.extract j.toNat s.size) (b1 40)).1 (b1 41) (by omega) (by decide)
 have hpq:=ParseQ_ok (facT s j.toNat).data.toList (by show (facT s j.toNat).size<_;omega)
 rw[ofL_self,resQ_q] at hpq
 have hzl:=@parseQ_zl (facT s j.toNat).data.toList
 have hps:=@parseQ_some (facT s j.toNat).data.toList
 have hlen:(facT s j.toNat).data.toList.length<2^35:=by show (facT s j.toNat).size<_;omega
 generalize hp:parseQ (facT s j.toNat).data.toList=p at hF hpq hzl hps
 have hsy:=Symbol_ok (s.extract 0 j.toNat).data.toList (by show (s.extract 0 j.toNat).size<_;omega)
 rw[ofL_self] at hsy
 generalize hsym:symF (s.extract 0 j.toNat).data.toList=sy at hF hsy
 (refine kS ?_;repeat intro γ)
 refine CallP.pure [] _ c317 hcp ?_
 have hfT:facT s j.toNat=if (cutP (s.extract j.toNat s.size) (b1 40)).2 then trimX (cutP (s.extract j.toNat s.size) (b1 40)).1 (b1 41) else s.extract j.toNat s.size:=rfl
 generalize cutP (s.extract j.toNat s.size) (b1 40)=cp at htx hfT
 refine kW ?_
 (refine kS ?_;repeat intro γ)
 refine CondP.intro (fun h1=>?_) (fun h1=>?_)<;>refine kX ?_
 case' refine_1=>
  rw[if_pos h1] at hfT
  rw[← hfT] at htx
  (refine kS ?_;repeat intro γ)
  refine CallP.flat [] _ c379 htx rfl ?_
  refine kX ?_
  (refine kZ ?_;repeat intro γ)
 case' refine_2=>
  rw[if_neg (by rw[h1];decide)] at hfT
 all_goals
  refine cpA_seqW (W.of (l:=[(0,encS s),(2,encS ⟨#[]⟩),(3,.op 3 _ 0 0),(4,encB false),(5,encI j),(6,encS (facT s j.toNat))]) (m:=[(3,_,⟨124,4,[nilQ]⟩)]) ?_ ⟨rfl,rfl,rfl,rfl,rfl,congrArg encS ?_,trivial⟩ ⟨rfl,trivial⟩)
 case' refine_1.refine_2=>exact rfl
 case' refine_2.refine_2=>exact hfT.symm
 all_goals
  clear hfT htx hcp hcs h1 cp
  generalize facT s j.toNat=tt at *
  obtain ⟨o,b⟩:=p
  refine kW ?_
  (refine kS ?_;repeat intro γ)
  refine CallP.pure [] _ c113 hpq ?_
  cases b with
  | false=>
    replace hF:(s.extract 0 j.toNat,o,false)=F:=hF
    rcases qAV_cases o with ho | ⟨n,d,ho⟩
    all_goals
     simp only[ho]
     refine kW ?_
     (refine kS ?_;repeat intro γ)
     exact .of (by rw[← hF,ho];rfl)
  | true=>
    obtain ⟨n,d,ho⟩:=hps rfl
    replace ho:o=some (n,d):=ho
    subst ho
    obtain ⟨z1,z2⟩:=hzl rfl
    have z1':zl n<2^36:=by omega
    have z2':zl d<2^36:=by omega
    have hfi:=fits_ok n d z1' z2'
    have hwr:=write_ok n d z1' z2'
    replace hF:(s.extract 0 j.toNat,some (n,d),true&&sy&&(fitsF n d&&decide (ofL ((wrT n d).map UInt8.ofNat)=s.extract j.toNat s.size)))=F:=hF
    rw[Bool.true_and] at hF
    generalize fitsF n d=fi at hfi hF
    unfold encT at hwr
    generalize ofL ((wrT n d).map UInt8.ofNat)=wr at hwr hF
    refine kW ?_
    (refine kS ?_;repeat intro γ)
    refine CallG.intro _ c378 hsy ?_
    refine kW ?_
    (refine kS ?_;repeat intro γ)
    refine CondP.intro (fun h1=>?_) (fun h1=>?_)<;>refine kW ?_
    case' refine_2=>
     rw[h1,Bool.false_and] at hF
     (refine kS ?_;repeat intro γ)
     exact .of (by rw[← hF];rfl)
    rw[h1,Bool.true_and] at hF
    (refine kS ?_;repeat intro γ)
    refine CallG.intro _ c380 hfi ?_
    refine kW ?_
    (refine kS ?_;repeat intro γ)
    refine CondP.intro (fun h2=>?_) (fun h2=>?_)<;>refine kW ?_
    case' refine_2=>
     rw[h2,Bool.false_and] at hF
     (refine kS ?_;repeat intro γ)
     exact .of (by rw[← hF];rfl)
    rw[h2,Bool.true_and] at hF
    (refine kS ?_;repeat intro γ)
    refine CallG.intro _ c381 hwr ?_
    refine kW ?_
    (refine kS ?_;repeat intro γ)
    exact .of (by rw[← hF];rfl)
end Go.Proofs.YtlhdoekgipaihaaGreatDoor
namespace Go.Proofs.YtlhdoekgipaihaaGreatDoor
open Go Go.Fw
def leqS (a b:ByteArray):Bool:=Op.bytesLess a.toList b.toList||decide (a=b)
def unitsG:List (List UInt8)→ByteArray→Bool
 | [],_=>true
 | f::r,last=>(facF (ofL f)).2.2&&!leqS (facF (ofL f)).1 last&&unitsG r (facF (ofL f)).1
theorem splitL_len (l:List UInt8):∀ f∈splitL l,f.length≤l.length:=by
 induction l with
 | nil=>intro f hf;simp[splitL] at hf;subst hf;simp
 | cons c r ih=>
   intro f hf
   rw[splitL_cons] at hf
   split at hf
   ·rcases List.mem_cons.1 hf with h | h
    ·subst h;simp
    ·have:=ih f h;simp;omega
   ·split at hf
    ·rename_i x xs hr
     rcases List.mem_cons.1 hf with h | h
     ·subst h
      have:=ih x (by rw[hr];simp)
      simp;omega
     ·have:=ih f (by rw[hr];simp[h])
      simp;omega
    ·simp at hf;subst hf;simp
theorem find_str (s:ByteArray) (ks:List ByteArray):∃ r,findK (keyEq T 9 (encS s)) (ks.map encS)=some r:=by
 obtain ⟨r,h,_⟩:=look_str (β:=Unit) (fun _=>.dead) s (ks.map fun k=>(k,()))
 refine ⟨r,?_⟩
 rw[List.map_map] at h
 exact h
def resU (s:ByteArray):AV:=
 if s=⟨#[49]⟩ then .tup [.dead,encB true]
 else if unitsG (splitL s.data.toList) ⟨#[]⟩ then .tup [.dead,encB (decide (s.size≤80))]
 else .tup [.val (.map none),encB false]
set_option maxHeartbeats 1000000 in
theorem ParseU_ok (s:ByteArray) (hs:s.size<2^35):PureCall Tryz.prog 336 [encS s] (resU s):=by
 refine PC [] Tryz.func336 rfl (by rfl) rfl ?_
 have hsp:=Split_ok s.data.toList (by show s.size<_;omega)
 rw[ofL_self] at hsp
 have hsl:=splitL_len s.data.toList
 have hsc:=splitL_cnt s.data.toList
 have hcc:cntL s.data.toList 46≤s.size:=List.count_le_length
 have hfl:∀ f∈splitL s.data.toList,(ofL f).size<2^35:=fun f hf=>by
  have:=hsl f hf
  have e:s.data.toList.length=s.size:=rfl
  rw[ofL_size];omega
 clear hsl
 generalize hF:resU s=F
 unfold resU at hF
 generalize splitL s.data.toList=fs at *
 refine kW ?_
 (refine kS ?_;repeat intro γ)
 refine CondP.dec (fun h=>?_) (fun h=>?_)<;>refine kW ?_
 ·rw[if_pos h] at hF
  (refine kS ?_;repeat intro γ)
  exact .of (by rw[← hF];rfl)
 rw[if_neg h] at hF
 (refine kS ?_;repeat intro γ)
 refine CallP.pure [] _ c366 hsp ?_
 refine kW ?_
 (refine kS ?_;repeat intro γ)
 refine LoopP.intro (fun m σ H=>∃ g i last,∃ kl vs:List AV,(∃ ks:List ByteArray,kl=ks.map encS)∧m=fs.length-i∧i≤fs.length ∧
  (if unitsG (fs.drop i) last then AV.tup [.dead,encB (decide (s.size≤80))] else .tup [.val (.map none),encB false])=F ∧
  σ=fr [(0,encS s),(4,.om 11 g),(5,encS last),(16,.sl 1 (fs.map encL)),(17,encI fs.length),(18,encI i)] ∧
  H=hp [(11,g,⟨373,0,[.mp kl vs]⟩)]) ?_ ?_
 ·refine .intro <| W.of ⟨_,_,0,_,[],[],⟨[],rfl⟩,rfl,Nat.zero_le _,hF,rfl,rfl⟩ ⟨rfl,rfl,rfl,rfl,?_,rfl,trivial⟩ ⟨rfl,trivial⟩
  show AV.val (.int .i64 _)=AV.val (.int .i64 _)
  rw[List.length_map]
 ·clear hF
  rintro m σ H ⟨g,i,last,kl,vs,⟨ks,rfl⟩,rfl,hi,hF,rfl,rfl⟩
  refine kW ?_
  (refine kS ?_;repeat intro γ)
  refine CondP.dec (fun h=>?_) (fun h=>?_)<;>refine kW ?_
  ·have hi':i<fs.length:=by omega
   rw[List.drop_eq_getElem_cons hi'] at hF
   unfold unitsG at hF
   have hfa:=factor_ok (ofL fs[i]) (hfl _ (List.getElem_mem hi'))
   generalize facF (ofL fs[i])=fa at hF hfa
   obtain ⟨nm,o,b⟩:=fa
   (refine kR ?_;repeat intro γ)
   generalize fs[i]=f at hfa ⊢
   refine CallP.pure [] _ c367 hfa ?_
   obtain ⟨q,hq⟩:∃ q,q=qAV o:=⟨_,rfl⟩
   have hq2:=qAV_cases o
   rw[← hq] at hq2
   replace hF:(if (b&&!leqS nm last&&unitsG (fs.drop (i+1)) nm) then AV.tup [.dead,encB (decide (s.size≤80))] else .tup [.val (.map none),encB false])=F:=hF
   show cvOps _ _ _ (put _ _ (.tup [encS nm,qAV o,encB b])) _ _
   rw[← hq]
   rcases hq2 with rfl | ⟨n,d,rfl⟩
   all_goals
    refine kW ?_
    (refine kT ?_;repeat intro γ)
    cases b with
    | false=>
      replace hF:AV.tup [.val (.map none),encB false]=F:=hF
      (refine kT ?_;repeat intro γ)
      exact .of (by rw[← hF];rfl)
    | true=>
      rw[Bool.true_and] at hF
      (refine kT ?_;repeat intro γ)
      refine CondP.intro (fun h2=>?_) (fun h2=>?_)<;>refine kW ?_
      ·rw[show leqS nm last=true from h2] at hF
       replace hF:AV.tup [.val (.map none),encB false]=F:=hF
       (refine kT ?_;repeat intro γ)
       exact .of (by rw[← hF];rfl)
      rw[show leqS nm last=false from h2,Bool.not_false,Bool.true_and] at hF
      (refine kT ?_;repeat intro γ)
      refine DrawH.segs [(5,false),(6,true)] (by kernel_rfl) ?_
      refine kW ?_
      (refine kY ?_;repeat intro γ)
      refine Need.intro keyst9 ?_
      refine kW ?_
      (refine kY ?_;repeat intro γ)
      obtain ⟨r,hr⟩:=find_str nm ks
      refine LookP.intro r hr ?_
      cases r with
      | none=>
        refine kW ?_
        (refine kY ?_;repeat intro γ)
        exact .intro <| W.of ⟨_,by omega,_,i+1,nm,ks.map encS++[encS nm],_,⟨ks++[nm],by simp⟩,rfl,hi',hF,rfl,rfl⟩ ⟨rfl,rfl,rfl,rfl,rfl,rfl,trivial⟩ ⟨rfl,trivial⟩
      | some j=>
        refine kW ?_
        (refine kY ?_;repeat intro γ)
        exact .intro <| W.of ⟨_,by omega,_,i+1,nm,ks.map encS,_,⟨ks,rfl⟩,rfl,hi',hF,rfl,rfl⟩ ⟨rfl,rfl,rfl,rfl,rfl,rfl,trivial⟩ ⟨rfl,trivial⟩
  ·rw[List.drop_eq_nil_of_le (by omega)] at hF
   replace hF:AV.tup [.dead,encB (decide (s.size≤80))]=F:=hF
   (refine kS ?_;repeat intro γ)
   refine .of ?_
   rw[← hF]
   show AV.tup [_,.val (.bool (decide ((s.size:Int)≤80)))]=AV.tup [_,.val (.bool (decide (s.size≤80)))]
   rw[show decide ((s.size:Int)≤80)=decide (s.size≤80) from decide_eq_decide.2 (by omega)]
def unitF (s:ByteArray):Bool:=decide (s=⟨#[49]⟩)||(unitsG (splitL s.data.toList) ⟨#[]⟩&&decide (s.size≤80))
theorem Is_ok (s:ByteArray) (hs:s.size<2^35):PureCall Tryz.prog 280 [encS s] (encB (unitF s)):=by
 refine PC [] Tryz.func280 rfl (by rfl) rfl ?_
 have hp:=ParseU_ok s hs
 unfold resU at hp
 generalize hF:unitF s=F
 unfold unitF at hF
 split at hp
 ·rename_i h1
  rw[decide_eq_true h1,Bool.true_or] at hF
  refine kW ?_
  (refine kS ?_;repeat intro γ)
  refine CallP.pure [] _ c336 hp ?_
  refine kW ?_
  (refine kS ?_;repeat intro γ)
  exact .of (by rw[← hF];rfl)
 ·rename_i h1
  rw[decide_eq_false h1,Bool.false_or] at hF
  split at hp
  ·rename_i h2
   rw[h2,Bool.true_and] at hF
   refine kW ?_
   (refine kS ?_;repeat intro γ)
   refine CallP.pure [] _ c336 hp ?_
   refine kW ?_
   (refine kS ?_;repeat intro γ)
   exact .of (by rw[← hF];rfl)
  ·rename_i h2
   rw[show unitsG (splitL s.data.toList) ⟨#[]⟩=false by simpa using h2,Bool.false_and] at hF
   refine kW ?_
   (refine kS ?_;repeat intro γ)
   refine CallP.pure [] _ c336 hp ?_
   refine kW ?_
   (refine kS ?_;repeat intro γ)
   exact .of (by rw[← hF];rfl)
end Go.Proofs.YtlhdoekgipaihaaGreatDoor
namespace Go.Proofs.YtlhdoekgipaihaaGreatDoor
open Go Go.Fw
theorem canon_iff (a:List UInt8):canon (a.map UInt8.toNat)=true↔1≤a.length∧(a.length=1∨a.headD 0≠48)∧isDs a=true:=by
 unfold canon
 rw[isDs_map,List.length_map]
 simp only[Bool.and_eq_true,Bool.or_eq_true,decide_eq_true_eq,and_assoc]
 refine and_congr_right fun h1=>and_congr_left fun _=>or_congr_right ?_
 cases a with
 | nil=>simp at h1
 | cons c r=>
   simp only[List.map_cons,List.getD_cons_zero,List.headD_cons,ne_eq]
   refine not_congr ?_
   exact ⟨fun h=>UInt8.toNat.inj (by rw[h];rfl),fun h=>by rw[h];rfl⟩
theorem okW_iff (m:Bool) (a:List UInt8):okW m a=true↔1≤a.length∧(a.headD 0≠48∨(a.length=1∧m=false))∧isDs a=true:=by
 unfold okW
 simp only[Bool.and_eq_true,Bool.not_eq_true',Bool.and_eq_false_iff,Bool.or_eq_false_iff,decide_eq_false_iff_not,and_assoc]
 constructor
 ·rintro ⟨h1,h2,h3⟩
  have hl:1≤a.length:=by cases a with
   | nil=>simp at h1
   | cons c r=>simp
  exact ⟨hl,by rcases h2 with h | h;exact .inl h;exact .inr ⟨by omega,h.2⟩,h3⟩
 ·rintro ⟨h1,h2,h3⟩
  have he:a.isEmpty=false:=by cases a with
   | nil=>simp at h1
   | cons c r=>rfl
  exact ⟨he,by rcases h2 with h | h;exact .inl h;exact .inr ⟨by omega,h.2⟩,h3⟩
theorem decU_zero {a:List UInt8} (h:canon (a.map UInt8.toNat)=true):decU a=0↔a=[48]:=by
 constructor
 ·intro h0
  have:=decT_decB h
  unfold decU at h0
  rw[h0] at this
  have h2:=congrArg (List.map UInt8.ofNat) this
  rw[toNat_bytes] at h2
  rw[← h2];rfl
 ·rintro rfl;rfl
theorem okW_canon (m:Bool) (a:List UInt8):okW m a=true↔canon (a.map UInt8.toNat)=true∧¬ (m=true∧decU a=0):=by
 rw[okW_iff]
 constructor
 ·rintro ⟨h1,h2,h3⟩
  have hc:canon (a.map UInt8.toNat)=true:=(canon_iff a).2 ⟨h1,by rcases h2 with h | h;exact .inr h;exact .inl h.1,h3⟩
  refine ⟨hc,fun ⟨hm,h0⟩=>?_⟩
  have:=(decU_zero hc).1 h0
  subst this
  rcases h2 with h | h
  ·exact h rfl
  ·rw[hm] at h;cases h.2
 ·rintro ⟨hc,hn⟩
  obtain ⟨h1,h2,h3⟩:=(canon_iff a).1 hc
  refine ⟨h1,?_,h3⟩
  by_cases hh:a.headD 0=48
  ·right
   have hl:a.length=1:=h2.resolve_right (fun h=>h hh)
   refine ⟨hl,?_⟩
   cases m with
   | false=>rfl
   | true=>
     exfalso
     obtain ⟨c,rfl⟩:=List.length_eq_one_iff.1 hl
     simp at hh
     subst hh
     exact hn ⟨rfl,rfl⟩
  ·exact .inl hh
theorem nd_decU {a:List UInt8} (h:canon (a.map UInt8.toNat)=true) (m:Bool):nd (if m then -(decU a:Int) else decU a)=a.length:=by
 have:(if m then -(decU a:Int) else (decU a:Int)).natAbs=decU a:=by cases m<;>simp
 unfold nd
 rw[this]
 have:=decT_decB h
 unfold decU
 rw[this,List.length_map]
theorem parseW_neg (t:List UInt8):parseW (45::t)=if okW true t then some (-(decU t:Int)) else none:=rfl
theorem parseW_pos (t:List UInt8) (h:∀ r,t≠45::r):parseW t=if okW false t then some (decU t:Int) else none:=by
 unfold parseW
 split
 ·rename_i r;exact absurd rfl (h r)
 ·rfl
def parseB (m:Bool) (t:List UInt8):Option (Int×Int)×Bool:=
 match (if okW m (pairB t).1 then some (if m then -(decU (pairB t).1:Int) else (decU (pairB t).1:Int)) else none) with
 | none=>(none,false)
 | some n=>match (pairB t).2.2 with
   | false=>(some (n,1),decide (nd n≤300))
   | true=>match parseW (pairB t).2.1 with
     | none=>(none,false)
     | some d=>if d≤1 then (none,false) else (some (n,d),decide (nd n≤300)&&decide (nd d≤300)&&decide (n.natAbs.gcd d.natAbs=1))
theorem parseQ_head (l:List UInt8):∃ t m,readR l=readB m t∧parseQ l=parseB m t:=by
 unfold readR
 split
 ·rename_i t
  refine ⟨t,true,rfl,?_⟩
  unfold parseQ parseB
  rw[show pairB (45::t)=(45::(pairB t).1,(pairB t).2.1,(pairB t).2.2) by rw[pairB,if_neg (by decide)]]
  simp only[parseW_neg,if_true]
  rfl
 ·rename_i h
  refine ⟨l,false,rfl,?_⟩
  unfold parseQ parseB
  have hh:∀ r,(pairB l).1≠45::r:=by
   intro r e
   obtain ⟨p1,p2,p3,p4,p5⟩:=pairB_spec l
   rw[e] at p2
   cases l with
   | nil=>simp at p2
   | cons c l=>
     rw[List.length_cons,List.take_succ_cons] at p2
     have:=(List.cons.inj p2).1
     exact h l (by rw[this])
  rw[parseW_pos _ hh]
  rfl
theorem parse_read (l:List UInt8):(parseQ l).2=(readR l).isSome∧∀ x,readR l=some x→parseQ l=(some (x.1,(x.2:Int)),true):=by
 obtain ⟨t,m,e1,e2⟩:=parseQ_head l
 rw[e1,e2]
 unfold parseB readB
 generalize (pairB t).1=a
 generalize (pairB t).2.1=b
 generalize (pairB t).2.2=ok
 have hda:=digB_canon a
 have hdb:=digB_canon b
 by_cases ha:okW m a=true
 case neg=>
  have ha':okW m a=false:=by simpa using ha
  rw[ha']
  have:digB a=false∨(m=true∧decU a=0):=by
   by_cases h:canon (a.map UInt8.toNat)=true
   ·right
    exact Decidable.byContradiction fun e=>ha ((okW_canon m a).2 ⟨h,e⟩)
   ·left
    rw[hda,show canon (a.map UInt8.toNat)=false by simpa using h];rfl
  have hnone:(if digB a=false then none else if ok=true then if digB b=false then none else if decU b≤1∨Nat.gcd (decU a) (decU b)≠1 then none else if m=true∧decU a=0 then none else some (if m then -(decU a:Int) else (decU a:Int),decU b) else if m=true∧decU a=0 then none else some (if m then -(decU a:Int) else (decU a:Int),1))=none:=by
   rcases this with h | h
   ·rw[if_pos h]
   ·split
    ·rfl
    ·split
     ·split
      ·rfl
      ·split
       ·rfl
       ·first
         | rfl
         | rw[if_pos h]
     ·first
       | rfl
       | rw[if_pos h]
  rw[hnone]
  exact ⟨rfl,fun x h=>by cases h⟩
 obtain ⟨hc,hz⟩:=(okW_canon m a).1 ha
 have hnd:=nd_decU hc m
 have hna:(if m then -(decU a:Int) else (decU a:Int)).natAbs=decU a:=by cases m<;>simp
 rw[ha,if_pos rfl]
 simp only
 rw[hnd,hna]
 rw[hc,Bool.true_and] at hda
 generalize (if m then -(decU a:Int) else (decU a:Int))=n at *
 by_cases hl:a.length≤300
 case neg=>
  rw[decide_eq_false hl] at hda ⊢
  rw[if_pos hda]
  refine ⟨?_,fun x h=>by cases h⟩
  cases ok with
  | false=>rfl
  | true=>
    cases parseW b with
    | none=>rfl
    | some d=>
      show (if d≤1 then ((none:Option (Int×Int)),false) else _).2=_
      split<;>rfl
 rw[decide_eq_true hl] at hda ⊢
 rw[if_neg (by rw[hda];decide)]
 cases ok with
 | false=>
   rw[if_neg (by decide),if_neg hz]
   exact ⟨rfl,fun x h=>by cases h;rfl⟩
 | true=>
   rw[if_pos rfl]
   simp only[Bool.true_and]
   by_cases hb45:∃ r,b=45::r
   ·obtain ⟨r,rfl⟩:=hb45
    have hdf:digB (45::r)=false:=by
     rw[hdb]
     have:canon ((45::r:List UInt8).map UInt8.toNat)=false:=by
      unfold canon
      simp[isDg]
     rw[this];rfl
    rw[if_pos hdf,parseW_neg]
    refine ⟨?_,fun x h=>by cases h⟩
    cases okW true r with
    | false=>rfl
    | true=>
      simp only[if_true]
      rw[if_pos (by omega)];rfl
   ·rw[parseW_pos b (fun r e=>hb45 ⟨r,e⟩)]
    by_cases hb:okW false b=true
    case neg=>
     have hb':okW false b=false:=by simpa using hb
     have:digB b=false:=by
      rw[hdb]
      by_cases h:canon (b.map UInt8.toNat)=true
      ·exact absurd ((okW_canon false b).2 ⟨h,fun e=>by cases e.1⟩) hb
      ·rw[show canon (b.map UInt8.toNat)=false by simpa using h];rfl
     rw[hb',if_pos this]
     exact ⟨rfl,fun x h=>by cases h⟩
    obtain ⟨hcb,_⟩:=(okW_canon false b).1 hb
    have hndb:=nd_decU hcb false
    rw[hb]
    rw[hcb,Bool.true_and] at hdb
    simp only[if_true,Bool.false_eq_true,if_false] at hndb ⊢
    by_cases hlb:b.length≤300
    ·rw[decide_eq_true hlb] at hdb
     have hdn:¬ digB b=false:=by rw[hdb];decide
     by_cases hd1:decU b≤1
     ·rw[if_pos (show (decU b:Int)≤1 by omega),if_neg hdn,if_pos (.inl hd1)]
      exact ⟨rfl,fun x h=>by cases h⟩
     rw[if_neg (show ¬ (decU b:Int)≤1 by omega),if_neg hdn,hndb,decide_eq_true hlb]
     simp only[Bool.true_and,Int.natAbs_natCast]
     by_cases hg:Nat.gcd (decU a) (decU b)=1
     ·rw[if_neg (by rintro (h | h);omega;exact h hg),if_neg hz,decide_eq_true hg]
      exact ⟨rfl,fun x h=>by cases h;rfl⟩
     ·rw[if_pos (.inr hg),decide_eq_false hg]
      exact ⟨rfl,fun x h=>by cases h⟩
    ·rw[decide_eq_false hlb] at hdb
     rw[if_pos hdb]
     refine ⟨?_,fun x h=>by cases h⟩
     split
     ·rfl
     ·rw[hndb,decide_eq_false hlb];rfl
end Go.Proofs.YtlhdoekgipaihaaGreatDoor
namespace Go.Proofs.YtlhdoekgipaihaaGreatDoor
open Go Go.Fw
theorem bl_cons (x y:UInt8) (a b:List UInt8):Op.bytesLess (x::a) (y::b)=(decide (x<y)||(decide (x=y)&&Op.bytesLess a b)):=by
 simp only[Op.bytesLess]
 by_cases h1:x<y
 ·simp[h1]
 ·by_cases h2:x=y<;>simp[h1,h2]
theorem bl_tot:∀ a b:List UInt8,(Op.bytesLess a b||decide (a=b))=!Op.bytesLess b a
 | [],[]=>by simp[Op.bytesLess]
 | [],_::_=>by simp[Op.bytesLess]
 | _::_,[]=>by simp[Op.bytesLess]
 | x :: a, y::b=>by
   rw[bl_cons,bl_cons]
   have ih:=bl_tot a b
   by_cases h1:x<y
   ·have h2:¬ y<x:=fun h=>absurd (UInt8.lt_trans h1 h) (UInt8.lt_irrefl x)
    have h3:¬ y=x:=fun h=>by subst h;exact UInt8.lt_irrefl _ h1
    simp[h1,h2,h3]
   ·by_cases h2:x=y
    ·subst h2
     simp only[h1,decide_false,decide_true,Bool.false_or,Bool.true_and,List.cons.injEq,true_and]
     exact ih
    ·have h3:y<x:=by
      rcases Nat.lt_or_ge y.toNat x.toNat with h | h
      ·exact UInt8.lt_iff_toNat_lt.2 h
      ·exfalso
       rcases Nat.lt_or_ge x.toNat y.toNat with h' | h'
       ·exact h1 (UInt8.lt_iff_toNat_lt.2 h')
       ·exact h2 (UInt8.toNat.inj (by omega))
     have h4:¬ y=x:=fun h=>h2 h.symm
     simp[h1,h2,h3,h4]
theorem ofL_inj {a b:List UInt8}:ofL a=ofL b↔a=b:=⟨fun h=>by
 have:=congrArg (fun s:ByteArray=>s.data.toList) h
 simpa [ofL] using this,fun h=>by rw[h]⟩
theorem rT_head (n:Int) (d:Nat):∃ c r,rT n d=c::r∧(c=45∨48≤c∧c≤57):=by
 have hc:=decT_canon n.natAbs
 have hd:=decT_dg n.natAbs
 rw[rT_eq]
 by_cases hn:n<0
 ·rw[if_pos hn];exact ⟨_,_,rfl,.inl rfl⟩
 ·rw[if_neg hn]
  cases hT:decT n.natAbs with
  | nil=>rw[hT] at hc;simp[canon] at hc
  | cons c r=>
    rw[hT,List.all_cons,Bool.and_eq_true] at hd
    have:=hd.1
    unfold isDg at this
    simp at this
    exact ⟨_,_,rfl,.inr this⟩
theorem extL (l:List UInt8) (a b:Nat):(ofL l).extract a b=ofL ((l.take b).drop a):=ofL_extract l a b
theorem hasP_b1 (l:List UInt8) (c:UInt8):hasP (ofL l) (b1 c)=decide (l.head?=some c):=by
 unfold hasP
 rw[show (b1 c).size=1 from rfl,ofL_size,extL,List.drop_zero]
 rw[Bool.eq_iff_iff]
 simp only[Bool.and_eq_true,decide_eq_true_eq]
 cases l with
 | nil=>simp
 | cons d r=>
   simp only[List.length_cons,List.take_succ_cons,List.take_zero,List.head?_cons,Option.some.injEq]
   have:ofL [d]=b1 c↔d=c:=by
    have:b1 c=ofL [c]:=rfl
    rw[this,ofL_inj];simp
   rw[this]
   exact ⟨fun h=>h.2,fun h=>⟨by omega,h⟩⟩
end Go.Proofs.YtlhdoekgipaihaaGreatDoor
namespace Go.Proofs.YtlhdoekgipaihaaGreatDoor
open Go Go.Fw
structure Eqn where
 name:ByteArray
 left:Ex
 right:Ex
structure Ac where
 kind:Int
 var:ByteArray
 value:Ex
structure Whn where
 name:ByteArray
 cond:Ex
 acts:List Ac
structure Sys where
 vars:List Va
 eqs:List Eqn
 inits:List Eqn
 whens:List Whn
def cellsE (e:Ex):List AV:=[encS e.op,encS e.text,encI e.order,.sl 4 (e.kids.map encE)]
theorem encE_cells (e:Ex):encE e=.agg (cellsE e):=encE_eq e
def encQn (q:Eqn):AV:=.agg (encS q.name::(cellsE q.left++cellsE q.right))
def encAc (a:Ac):AV:=.agg (encI a.kind::encS a.var::cellsE a.value)
def encWn (w:Whn):AV:=.agg (encS w.name::(cellsE w.cond++[.sl 6 (w.acts.map encAc)]))
def encSy (s:Sys):AV:=.agg [.sl 7 (s.vars.map encV),.sl 9 (s.eqs.map encQn),.sl 9 (s.inits.map encQn),.sl 6 (s.whens.map encWn)]
theorem largeC_ok (w:Whn):PureCall Tryz.prog 180 [encWn w] (encB (decide (20<w.acts.length))):=by
 refine PC [] Tryz.func180 rfl (by rfl) rfl ?_
 refine kW ?_
 (refine kS ?_;repeat intro γ)
 refine .of ?_
 show AV.val (.bool (decide _))=AV.val (.bool (decide _))
 rw[List.length_map]
 congr 2
 exact decide_eq_decide.2 (by omega)
theorem indexW_ok (k:Nat) (p:Whn→Bool) (l:List Whn) (hl:l.length≤2^60) (hk:Callable Tryz.prog k) (hf:∀ x∈l,PureCall Tryz.prog k [encWn x] (encB (p x))) :
  PureCall Tryz.prog 277 [.sl 6 (l.map encWn),.fn (.func k) [] []] (encI (indexP p l 0)):=by
 refine PC [] Tryz.func277 rfl (by rfl) rfl ?_
 generalize hF:indexP p l 0=F
 refine kW ?_
 (refine kS ?_;repeat intro γ)
 refine LoopP.intro (fun n σ H=>∃ i,i≤l.length∧n=l.length-i∧indexP p (l.drop i) i=F∧σ=fr [(0,.sl 6 (l.map encWn)),(1,.fn (.func k) [] []),(7,encI l.length),(8,encI i)]∧H=hp []) ?_ ?_
 ·exact .intro <| W.of ⟨_,0,Nat.zero_le _,rfl,hF,rfl,rfl⟩ ⟨rfl,rfl,by simp;rfl,rfl,trivial⟩ trivial
 ·rintro n σ H ⟨i,hi,rfl,hc,rfl,rfl⟩
  refine kW ?_
  (refine kS ?_;repeat intro γ)
  refine CondP.dec (fun h=>?_) (fun h=>?_)<;>refine kW ?_
  ·have hi':i<l.length:=by omega
   have hx:=hf _ (List.getElem_mem hi')
   rw[List.drop_eq_getElem_cons hi'] at hc
   unfold indexP at hc
   (refine kR ?_;repeat intro γ)
   generalize l[i]=x at hx hc ⊢
   (refine kR ?_;repeat intro γ)
   refine CallP.flat [] _ hk hx rfl ?_
   refine kW ?_
   (refine kS ?_;repeat intro γ)
   refine CondP.intro (fun hq=>?_) (fun hq=>?_)<;>refine kW ?_
   ·rw[hq] at hc
    (refine kS ?_;repeat intro γ)
    exact .of (by rw[← hc];rfl)
   ·rw[hq] at hc
    (refine kS ?_;repeat intro γ)
    exact .intro <| W.of ⟨_,by omega,i+1,hi',rfl,hc,rfl,rfl⟩ ⟨rfl,rfl,rfl,rfl,trivial⟩ trivial
  ·(refine kS ?_;repeat intro γ)
   rw[List.drop_eq_nil_of_le (by omega)] at hc
   exact .of (by rw[← hc];rfl)
theorem containsW_ok (k:Nat) (p:Whn→Bool) (l:List Whn) (hl:l.length≤2^60) (hk:Callable Tryz.prog k) (hf:∀ x∈l,PureCall Tryz.prog k [encWn x] (encB (p x))) :
  PureCall Tryz.prog 179 [.sl 6 (l.map encWn),.fn (.func k) [] []] (encB (l.any p)):=by
 refine PC [] Tryz.func179 rfl (by rfl) rfl ?_
 refine kW ?_
 (refine kS ?_;repeat intro γ)
 refine CallP.flat [] _ c277 (indexW_ok k p l hl hk hf) rfl ?_
 refine kW ?_
 (refine kS ?_;repeat intro γ)
 refine .of ?_
 show AV.val (Value.bool (decide (0≤indexP p l 0)))=AV.val (Value.bool (l.any p))
 congr 2
 rw[Bool.eq_iff_iff,decide_eq_true_iff]
 exact indexP_ge p l 0 (by omega)
theorem indexV_ok (k:Nat) (p:Va→Bool) (l:List Va) (hl:l.length≤2^60) (hk:Callable Tryz.prog k) (hf:∀ x∈l,PureCall Tryz.prog k [encV x] (encB (p x))) :
  PureCall Tryz.prog 278 [.sl 7 (l.map encV),.fn (.func k) [] []] (encI (indexP p l 0)):=by
 refine PC [] Tryz.func278 rfl (by rfl) rfl ?_
 generalize hF:indexP p l 0=F
 refine kW ?_
 (refine kS ?_;repeat intro γ)
 refine LoopP.intro (fun n σ H=>∃ i,i≤l.length∧n=l.length-i∧indexP p (l.drop i) i=F∧σ=fr [(0,.sl 7 (l.map encV)),(1,.fn (.func k) [] []),(7,encI l.length),(8,encI i)]∧H=hp []) ?_ ?_
 ·exact .intro <| W.of ⟨_,0,Nat.zero_le _,rfl,hF,rfl,rfl⟩ ⟨rfl,rfl,by simp;rfl,rfl,trivial⟩ trivial
 ·rintro n σ H ⟨i,hi,rfl,hc,rfl,rfl⟩
  refine kW ?_
  (refine kS ?_;repeat intro γ)
  refine CondP.dec (fun h=>?_) (fun h=>?_)<;>refine kW ?_
  ·have hi':i<l.length:=by omega
   have hx:=hf _ (List.getElem_mem hi')
   rw[List.drop_eq_getElem_cons hi'] at hc
   unfold indexP at hc
   (refine kR ?_;repeat intro γ)
   generalize l[i]=x at hx hc ⊢
   (refine kR ?_;repeat intro γ)
   refine CallP.flat [] _ hk hx rfl ?_
   refine kW ?_
   (refine kS ?_;repeat intro γ)
   refine CondP.intro (fun hq=>?_) (fun hq=>?_)<;>refine kW ?_
   ·rw[hq] at hc
    (refine kS ?_;repeat intro γ)
    exact .of (by rw[← hc];rfl)
   ·rw[hq] at hc
    (refine kS ?_;repeat intro γ)
    exact .intro <| W.of ⟨_,by omega,i+1,hi',rfl,hc,rfl,rfl⟩ ⟨rfl,rfl,rfl,rfl,trivial⟩ trivial
  ·(refine kS ?_;repeat intro γ)
   rw[List.drop_eq_nil_of_le (by omega)] at hc
   exact .of (by rw[← hc];rfl)
theorem containsV_ok (k:Nat) (p:Va→Bool) (l:List Va) (hl:l.length≤2^60) (hk:Callable Tryz.prog k) (hf:∀ x∈l,PureCall Tryz.prog k [encV x] (encB (p x))) :
  PureCall Tryz.prog 189 [.sl 7 (l.map encV),.fn (.func k) [] []] (encB (l.any p)):=by
 refine PC [] Tryz.func189 rfl (by rfl) rfl ?_
 refine kW ?_
 (refine kS ?_;repeat intro γ)
 refine CallP.flat [] _ c278 (indexV_ok k p l hl hk hf) rfl ?_
 refine kW ?_
 (refine kS ?_;repeat intro γ)
 refine .of ?_
 show AV.val (Value.bool (decide (0≤indexP p l 0)))=AV.val (Value.bool (l.any p))
 congr 2
 rw[Bool.eq_iff_iff,decide_eq_true_iff]
 exact indexP_ge p l 0 (by omega)
end Go.Proofs.YtlhdoekgipaihaaGreatDoor
namespace Go.Proofs.YtlhdoekgipaihaaGreatDoor
open Go Go.Fw
def sides (l:List Eqn):List Ex:=l.flatMap fun q=>[q.left,q.right]
def whenE (w:Whn):List Ex:=w.cond::w.acts.map (·.value)
def allF (s:Sys):List Ex:=sides s.eqs++sides s.inits++s.whens.flatMap whenE
theorem sides_len (l:List Eqn):(sides l).length=2*l.length:=by
 induction l with
 | nil=>rfl
 | cons q l ih=>unfold sides at *;rw[List.flatMap_cons,List.length_append,ih];simp;omega
theorem sides_snoc (l:List Eqn) (q:Eqn):sides (l++[q])=sides l++[q.left,q.right]:=by unfold sides;rw[List.flatMap_append];simp
theorem when_len (l:List Whn) (h:∀ w∈l,w.acts.length≤20):(l.flatMap whenE).length≤21*l.length:=by
 induction l with
 | nil=>simp
 | cons w l ih=>
   have h1:=h w (by simp)
   have h2:=ih fun x hx=>h x (by simp[hx])
   rw[List.flatMap_cons,List.length_append]
   unfold whenE at *
   simp at *
   omega
set_option maxHeartbeats 1000000 in
theorem all_ok (s:Sys) (h1:s.eqs.length≤120) (h2:s.inits.length≤120) (h3:s.whens.length≤120) (h4:∀ w∈s.whens,w.acts.length≤20):PureCall Tryz.prog 181 [encSy s] (.sl 4 ((allF s).map encE)):=by
 refine PC [100] Tryz.func181 rfl (by rfl) rfl ?_
 obtain ⟨vars,eqs,inits,whens⟩:=s
 simp only at h1 h2 h3 h4
 unfold encSy
 refine kW ?_
 (refine kS ?_;repeat intro γ)
 refine LoopP.intro (fun k σ H=>∃ g1 g16 g3 i,∃ out:List Ex,k=2-i∧i≤2∧out=sides (([eqs,inits].take i).flatten) ∧
  σ=fr [(1,.op 1 g1 0 0),(2,.val (.slice none 0 0)),(3,.own 100 g3 0 out.length),(16,.own 16 g16 0 2),(17,encI 2),(18,encI i)] ∧
  H=hp [(1,g1,⟨26,4,[encSy ⟨vars,eqs,inits,whens⟩]⟩),(16,g16,⟨23,1,[eqs,inits].map fun l=>.sl 9 (l.map encQn)⟩),(100,g3,⟨42,4,out.map encE⟩)]) ?_ ?_
 ·exact .intro (W.mat 3 100 42 4 rfl rfl fun g=>W.of ⟨_,_,_,g,0,[],rfl,by omega,rfl,rfl,rfl⟩ ⟨rfl,rfl,rfl,rfl,rfl,rfl,trivial⟩ ⟨rfl,rfl,rfl,trivial⟩)
 ·rintro k σ H ⟨g1,g16,g3,i,out,rfl,hi,hout,rfl,rfl⟩
  refine kW ?_
  (refine kS ?_;repeat intro γ)
  refine CondP.dec (fun h=>?_) (fun h=>?_)<;>refine kW ?_
  ·have hi':i<[eqs,inits].length:=by simp;omega
   have hl:([eqs,inits][i]).length≤120:=by
    match i,hi' with
    | 0,_=>exact h1
    | 1,_=>exact h2
   have hout2:sides (([eqs,inits].take (i+1)).flatten)=out++sides [eqs,inits][i]:=by
    rw[List.take_succ_eq_append_getElem hi',List.flatten_append,hout]
    unfold sides
    rw[List.flatMap_append];simp
   have hol:out.length≤480:=by
    rw[hout,sides_len,List.length_flatten]
    rcases i with _ | _ | i
    ·simp
    ·simp;omega
    ·omega
   (refine kR ?_;repeat intro γ)
   generalize [eqs,inits][i]=l at hl hout2 ⊢
   refine LoopP.intro (fun k σ H=>∃ g3 j,∃ out':List Ex,k=l.length-j∧j≤l.length∧out'=out++sides (l.take j) ∧
    σ=fr [(1,.op 1 g1 0 0),(2,.val (.slice none 0 0)),(3,.own 100 g3 0 out'.length),(16,.own 16 g16 0 2),(17,encI 2),(18,encI i),(22,.sl 9 (l.map encQn)),(23,encI l.length),(24,encI j)] ∧
    H=hp [(1,g1,⟨26,4,[encSy ⟨vars,eqs,inits,whens⟩]⟩),(16,g16,⟨23,1,[eqs,inits].map fun l=>.sl 9 (l.map encQn)⟩),(100,g3,⟨42,4,out'.map encE⟩)]) ?_ ?_
   ·exact .intro <| W.of ⟨_,_,0,out,rfl,Nat.zero_le _,by simp[sides],rfl,rfl⟩ ⟨rfl,rfl,rfl,rfl,rfl,rfl,rfl,rfl,rfl,trivial⟩ ⟨rfl,rfl,rfl,trivial⟩
   ·rintro k σ H ⟨g3,j,out',rfl,hj,ho',rfl,rfl⟩
    refine kW ?_
    (refine kS ?_;repeat intro γ)
    refine CondP.dec (fun h=>?_) (fun h=>?_)<;>refine kW ?_
    ·have hj':j<l.length:=by omega
     have hs:=sides_snoc (l.take j) l[j]
     rw[← List.take_succ_eq_append_getElem hj'] at hs
     have hol':out'.length≤800:=by
      rw[ho',List.length_append,sides_len,List.length_take];omega
     (refine kR ?_;repeat intro γ)
     generalize l[j]=q at hs ⊢
     (refine kR ?_;repeat intro γ)
     refine .intro <| W.of ⟨_,by omega,γ,j+1,out'++[q.left,q.right],rfl,hj',by rw[ho',hs,List.append_assoc],rfl,rfl⟩ ⟨rfl,rfl,?_,rfl,rfl,rfl,rfl,rfl,rfl,trivial⟩ ⟨rfl,rfl,?_,trivial⟩
     ·exact congrArg (AV.own 100 γ 0) (by simp)
     ·show some (_,(⟨_,_,out'.map encE++[.agg (cellsE q.left),.agg (cellsE q.right)]⟩:Blk))=_
      rw[← encE_cells,← encE_cells,List.map_append];rfl
    ·have hje:j=l.length:=by omega
     rw[hje,List.take_length,← hout2] at ho'
     (refine kS ?_;repeat intro γ)
     exact .intro <| W.of ⟨_,by omega,_,_,_,i+1,out',rfl,by omega,ho',rfl,rfl⟩ ⟨rfl,rfl,rfl,rfl,rfl,rfl,trivial⟩ ⟨rfl,rfl,rfl,trivial⟩
  ·have hie:i=2:=by omega
   rw[hie] at hout
   have hout0:out=sides eqs++sides inits:=by rw[hout];simp[sides]
   have hol:out.length≤480:=by rw[hout0,List.length_append,sides_len,sides_len];omega
   (refine kS ?_;repeat intro γ)
   refine LoopP.intro (fun k σ H=>∃ g3 i,∃ out':List Ex,k=whens.length-i∧i≤whens.length∧out'=out++(whens.take i).flatMap whenE ∧
    σ=fr [(2,.val (.slice none 0 0)),(3,.own 100 g3 0 out'.length),(38,.sl 6 (whens.map encWn)),(39,encI whens.length),(40,encI i)] ∧
    H=hp [(100,g3,⟨42,4,out'.map encE⟩)]) ?_ ?_
   ·refine .intro <| W.of ⟨_,_,0,out,rfl,Nat.zero_le _,by simp,rfl,rfl⟩ ⟨rfl,rfl,rfl,?_,rfl,trivial⟩ ⟨rfl,trivial⟩
    show AV.val (.int .i64 _)=AV.val (.int .i64 _)
    rw[List.length_map]
   ·clear hout g3
    rintro k σ H ⟨g3,i,out',rfl,hi,ho',rfl,rfl⟩
    refine kW ?_
    (refine kS ?_;repeat intro γ)
    refine CondP.dec (fun h=>?_) (fun h=>?_)<;>refine kW ?_
    ·have hi':i<whens.length:=by omega
     have ha:=h4 whens[i] (List.getElem_mem hi')
     have hol':out'.length≤480+21*120:=by
      have:=when_len (whens.take i) fun w hw=>h4 w (List.mem_of_mem_take hw)
      rw[List.length_take] at this
      rw[ho',List.length_append];omega
     have ho2:out++(whens.take (i+1)).flatMap whenE=out'++whenE whens[i]:=by
      rw[List.take_succ_eq_append_getElem hi',List.flatMap_append,ho'];simp
     (refine kR ?_;repeat intro γ)
     generalize whens[i]=w at ha ho2 ⊢
     (refine kR ?_;repeat intro γ)
     refine LoopP.intro (fun k σ H=>∃ g3 j,∃ o3:List Ex,k=w.acts.length-j∧j≤w.acts.length∧o3=out'++w.cond::(w.acts.take j).map (·.value) ∧
      σ=fr [(2,.val (.slice none 0 0)),(3,.own 100 g3 0 o3.length),(38,.sl 6 (whens.map encWn)),(39,encI whens.length),(40,encI i),(50,.sl 6 (w.acts.map encAc)),(51,encI w.acts.length),(52,encI j)] ∧
      H=hp [(100,g3,⟨42,4,o3.map encE⟩)]) ?_ ?_
     ·refine .intro <| W.of ⟨_,γ,0,out'++[w.cond],rfl,Nat.zero_le _,by simp,rfl,rfl⟩ ⟨rfl,?_,rfl,rfl,rfl,rfl,rfl,rfl,trivial⟩ ⟨?_,trivial⟩
      ·exact congrArg (AV.own 100 γ 0) (by simp)
      ·show some (_,(⟨_,_,out'.map encE++[.agg (cellsE w.cond)]⟩:Blk))=_
       rw[← encE_cells,List.map_append];rfl
     ·rintro k σ H ⟨g3,j,o3,rfl,hj,ho3,rfl,rfl⟩
      have hol3:o3.length≤480+21*120+21:=by
       rw[ho3,List.length_append,List.length_cons,List.length_map,List.length_take];omega
      refine kW ?_
      (refine kS ?_;repeat intro γ)
      refine CondP.dec (fun h=>?_) (fun h=>?_)<;>refine kW ?_
      ·have hj':j<w.acts.length:=by omega
       have ho4:out'++w.cond::(w.acts.take (j+1)).map (·.value)=o3++[w.acts[j].value]:=by
        rw[List.take_succ_eq_append_getElem hj',List.map_append,ho3];simp
       (refine kR ?_;repeat intro γ)
       generalize w.acts[j]=a at ho4 ⊢
       (refine kR ?_;repeat intro γ)
       refine .intro <| W.of ⟨_,by omega,γ,j+1,o3++[a.value],rfl,hj',ho4.symm,rfl,rfl⟩ ⟨rfl,?_,rfl,rfl,rfl,rfl,rfl,rfl,trivial⟩ ⟨?_,trivial⟩
       ·exact congrArg (AV.own 100 γ 0) (by simp)
       ·show some (_,(⟨_,_,o3.map encE++[.agg (cellsE a.value)]⟩:Blk))=_
        rw[← encE_cells,List.map_append];rfl
      ·rw[show j=w.acts.length by omega,List.take_length] at ho3
       (refine kS ?_;repeat intro γ)
       exact .intro <| W.of ⟨_,by omega,_,i+1,o3,rfl,hi',by rw[ho3,ho2];rfl,rfl,rfl⟩ ⟨rfl,rfl,rfl,rfl,rfl,trivial⟩ ⟨rfl,trivial⟩
    ·rw[show i=whens.length by omega,List.take_length] at ho'
     (refine kS ?_;repeat intro γ)
     refine .of ?_
     have e:allF ⟨vars,eqs,inits,whens⟩=out':=by rw[ho',hout0];rfl
     rw[e]
     show AV.sl 4 ((((out'.map encE).drop 0).take out'.length).map _)=_
     rw[List.drop_zero,List.take_of_length_le (by simp),List.map_map]
     congr 1
     refine List.map_congr_left fun x _=>?_
     show snapEl _ (encE x)=encE x
     rw[encE_cells];rfl
end Go.Proofs.YtlhdoekgipaihaaGreatDoor
namespace Go.Proofs.YtlhdoekgipaihaaGreatDoor
open Go Go.Fw
def nodesL:List Ex→Int→Bool
 | [],l=>decide (l<0)
 | e::r,l=>tooF e||nodesL r (l-sizeF e)
def largeF (s:Sys):Bool:=decide (120<s.vars.length)||decide (120<max (max s.eqs.length s.inits.length) s.whens.length)||s.whens.any (fun w=>decide (20<w.acts.length))||nodesL (allF s) 4000
structure SzS (s:Sys):Prop where
 v:s.vars.length≤2^60
 q:s.eqs.length≤2^60
 n:s.inits.length≤2^60
 w:s.whens.length≤2^60
 a:∀ w∈s.whens,w.acts.length≤2^60
 e:∀ e∈allF s,SzE e∧TxE e
 t:∀ v∈s.vars,v.name.size<2^35∧v.value.size<2^35∧v.start.size<2^35∧v.unit.size<2^35
 m:(∀ q∈s.eqs,q.name.size<2^35)∧(∀ q∈s.inits,q.name.size<2^35)∧∀ w∈s.whens,w.name.size<2^35
set_option maxHeartbeats 1000000 in
theorem large_ok (s:Sys) (hs:SzS s):PureCall Tryz.prog 93 [encSy s] (encB (largeF s)):=by
 refine PC [] Tryz.func93 rfl (by rfl) rfl ?_
 have hW:=containsW_ok 180 (fun w=>decide (20<w.acts.length)) s.whens hs.w c180 fun w _=>largeC_ok w
 have hA:=all_ok s
 have hv:=hs.v
 have hq:=hs.q
 have hn:=hs.n
 have hw:=hs.w
 have he:=hs.e
 generalize hF:largeF s=F
 unfold largeF at hF
 generalize hall:allF s=es at *
 have hany:(s.whens.any fun w=>decide (20<w.acts.length))=false→∀ w∈s.whens,w.acts.length≤20:=by
  intro h w hw
  have:=List.any_eq_false.1 h w hw
  simp at this
  exact this
 clear hs
 unfold encSy at hA ⊢
 refine kW ?_
 (refine kS ?_;repeat intro γ)
 rw[List.length_map]
 refine CondP.dec (fun h=>?_) (fun h=>?_)<;>refine kW ?_
 ·rw[decide_eq_true (by omega),Bool.true_or,Bool.true_or,Bool.true_or] at hF
  (refine kS ?_;repeat intro γ)
  exact .of (by rw[← hF];rfl)
 rw[decide_eq_false (by omega),Bool.false_or] at hF
 (refine kS ?_;repeat intro γ)
 simp only[List.length_map]
 refine CondP.dec (fun h=>?_) (fun h=>?_)<;>refine kW ?_
 ·rw[decide_eq_true (by omega),Bool.true_or,Bool.true_or] at hF
  (refine kS ?_;repeat intro γ)
  exact .of (by rw[← hF];rfl)
 rw[decide_eq_false (by omega),Bool.false_or] at hF
 (refine kS ?_;repeat intro γ)
 refine CallP.flat [] _ c179 hW rfl ?_
 refine kW ?_
 (refine kS ?_;repeat intro γ)
 refine CondP.intro (fun h2=>?_) (fun h2=>?_)<;>refine kW ?_
 ·rw[h2,Bool.true_or] at hF
  (refine kS ?_;repeat intro γ)
  exact .of (by rw[← hF];rfl)
 rw[h2,Bool.false_or] at hF
 have hA:=hA (by omega) (by omega) (by omega) (hany h2)
 have hlen:es.length≤4000:=by
  have:=when_len s.whens (hany h2)
  rw[← hall]
  unfold allF
  rw[List.length_append,List.length_append,sides_len,sides_len];omega
 (refine kS ?_;repeat intro γ)
 refine CallP.pure [] _ c181 hA ?_
 refine kW ?_
 (refine kS ?_;repeat intro γ)
 refine LoopP.intro (fun k σ H=>∃ i,∃ l:Int,k=es.length-i∧i≤es.length∧l≤4000∧4000-201*i≤l∧nodesL (es.drop i) l=F ∧
  σ=fr [(2,encB false),(3,encI l),(27,.sl 4 (es.map encE)),(28,encI es.length),(29,encI i)]∧H=hp []) ?_ ?_
 ·refine .intro <| W.of ⟨_,0,4000,rfl,Nat.zero_le _,by omega,by omega,hF,rfl,rfl⟩ ⟨rfl,rfl,rfl,?_,rfl,trivial⟩ trivial
  show AV.val (.int .i64 _)=AV.val (.int .i64 _)
  rw[List.length_map]
 ·clear hF
  rintro k σ H ⟨i,l,rfl,hi,hl1,hl2,hF,rfl,rfl⟩
  refine kW ?_
  (refine kS ?_;repeat intro γ)
  refine CondP.dec (fun h=>?_) (fun h=>?_)<;>refine kW ?_
  ·have hi':i<es.length:=by omega
   rw[List.drop_eq_getElem_cons hi'] at hF
   unfold nodesL at hF
   have hz:=he es[i] (List.getElem_mem hi')
   (refine kR ?_;repeat intro γ)
   generalize es[i]=e at hF hz ⊢
   have ht:=TooLarge_ok e hz.1
   have hsz:=Size_ok e hz.1
   have hge:=measF_ge 24 e 200 (by omega)
   have hle:=measF_le 24 e 200
   have hdef:sizeF e=200-measF 24 e 200:=rfl
   rw[encE_eq] at ht hsz ⊢
   (refine kR ?_;repeat intro γ)
   refine CallP.flat [] _ c110 ht rfl ?_
   refine kW ?_
   (refine kS ?_;repeat intro γ)
   refine CondP.intro (fun h3=>?_) (fun h3=>?_)<;>refine kW ?_
   ·rw[h3,Bool.true_or] at hF
    (refine kS ?_;repeat intro γ)
    exact .of (by rw[← hF];rfl)
   rw[h3,Bool.false_or] at hF
   (refine kS ?_;repeat intro γ)
   refine CallP.flat [] _ c182 hsz rfl ?_
   generalize sizeF e=z at hF hdef
   refine kW ?_
   (refine kS ?_;repeat intro γ)
   exact .intro <| W.of ⟨_,by omega,i+1,l-z,rfl,hi',by omega,by omega,hF,rfl,rfl⟩ ⟨rfl,rfl,rfl,rfl,rfl,trivial⟩ trivial
  ·rw[List.drop_eq_nil_of_le (by omega)] at hF
   (refine kS ?_;repeat intro γ)
   exact .of (by rw[← hF];rfl)
end Go.Proofs.YtlhdoekgipaihaaGreatDoor
namespace Go.Proofs.YtlhdoekgipaihaaGreatDoor
open Go Go.Fw
def risG:List ByteArray→Option ByteArray→Bool
 | [],_=>true
 | n::r,p=>nameF n&&(match p with | none=>true | some p=>Op.bytesLess p.toList n.toList)&&risG r (some n)
def pvN (l:List ByteArray):Nat→Option ByteArray
 | 0=>none
 | i+1=>l[i]?
theorem pvN_s (l:List ByteArray) (i:Nat):pvN l (i+1)=l[i]?:=rfl
theorem VName_ok (x:Va):PureCall Tryz.prog 184 [encV x] (encS x.name):=by
 refine PC [] Tryz.func184 rfl (by rfl) rfl ?_
 refine kW ?_
 (refine kS ?_;repeat intro γ)
 exact .of rfl
set_option maxHeartbeats 1000000 in
theorem risingV_ok (l:List Va) (hl:l.length≤2^60) (hn:∀ x∈l,x.name.size<2^35) :
  PureCall Tryz.prog 183 [.sl 7 (l.map encV),.fn (.func 184) [] []] (encB (risG (l.map Va.name) none)):=by
 refine PC [] Tryz.func183 rfl (by rfl) rfl ?_
 generalize hF:risG (l.map Va.name) none=F
 refine kW ?_
 (refine kS ?_;repeat intro γ)
 refine LoopP.intro (fun m σ H=>∃ i,i≤l.length∧m=l.length-i∧risG ((l.drop i).map Va.name) (pvN (l.map Va.name) i)=F ∧
  σ=fr [(0,.sl 7 (l.map encV)),(1,.fn (.func 184) [] []),(7,.sl 7 (l.map encV)),(8,encI l.length),(9,encI i)]∧H=hp []) ?_ ?_
 ·exact .intro <| W.of ⟨_,0,Nat.zero_le _,rfl,hF,rfl,rfl⟩ ⟨rfl,rfl,rfl,by simp;rfl,rfl,trivial⟩ trivial
 ·clear hF
  rintro m σ H ⟨i,hi,rfl,hF,rfl,rfl⟩
  refine kW ?_
  (refine kS ?_;repeat intro γ)
  refine CondP.dec (fun h=>?_) (fun h=>?_)<;>refine kW ?_
  ·have hi':i<l.length:=by omega
   have hx:=hn _ (List.getElem_mem hi')
   rw[List.drop_eq_getElem_cons hi',List.map_cons] at hF
   unfold risG at hF
   have hnx:(l.map Va.name)[i]?=some l[i].name:=by rw[List.getElem?_map,List.getElem?_eq_getElem hi'];rfl
   (refine kR ?_;repeat intro γ)
   generalize l[i]=x at hx hF hnx ⊢
   have hnm:=name61_ok x.name (by omega)
   generalize nameF x.name=b at hF hnm
   (refine kR ?_;repeat intro γ)
   refine CallG.intro _ c184 (VName_ok x) ?_
   refine kW ?_
   (refine kQ ?_;repeat intro γ)
   refine CallG.intro _ c120 hnm ?_
   refine kW ?_
   (refine kQ ?_;repeat intro γ)
   refine CondP.intro (fun hq=>?_) (fun hq=>?_)<;>refine kW ?_
   case' refine_2=>
    rw[hq,Bool.false_and,Bool.false_and] at hF
    (refine kR ?_;repeat intro γ)
    exact .of (by rw[← hF];rfl)
   rw[hq,Bool.true_and] at hF
   cases i with
   | zero=>
     (refine kR ?_;repeat intro γ)
     exact .intro <| W.of ⟨_,by omega,1,hi',rfl,by rw[← hF];show risG _ (pvN _ (0+1))=_;rw[pvN_s,hnx];rfl,rfl,rfl⟩ ⟨rfl,rfl,rfl,rfl,rfl,trivial⟩ trivial
   | succ i=>
     have hi2:i<l.length:=by omega
     rw[pvN_s,List.getElem?_map,List.getElem?_eq_getElem hi2] at hF
     replace hF:(Op.bytesLess l[i].name.toList x.name.toList&&risG ((l.drop (i+1+1)).map Va.name) (some x.name))=F:=hF
     have hp0:(0:Int)<((i+1:Nat):Int):=by omega
     (refine kR ?_;repeat intro γ)
     try simp only[show ((i+1:Nat):Int)-1=(i:Int) by omega]
     (refine kR ?_;repeat intro γ)
     generalize l[i]=y at hF ⊢
     (refine kR ?_;repeat intro γ)
     refine CallG.intro _ c184 (VName_ok y) ?_
     refine kW ?_
     (refine kR ?_;repeat intro γ)
     refine CallG.intro _ c184 (VName_ok x) ?_
     refine kW ?_
     (refine kR ?_;repeat intro γ)
     refine CondP.intro (fun h2=>?_) (fun h2=>?_)<;>refine kW ?_
     ·rw[h2,Bool.true_and] at hF
      (refine kR ?_;repeat intro γ)
      exact .intro <| W.of ⟨_,by omega,i+1+1,hi',rfl,by rw[pvN_s,hnx];exact hF,rfl,rfl⟩ ⟨rfl,rfl,rfl,rfl,rfl,trivial⟩ trivial
     ·rw[h2,Bool.false_and] at hF
      (refine kR ?_;repeat intro γ)
      exact .of (by rw[← hF];rfl)
  ·(refine kS ?_;repeat intro γ)
   rw[List.drop_eq_nil_of_le (by omega)] at hF
   exact .of (by rw[← hF];rfl)
theorem QName_ok (x:Eqn):PureCall Tryz.prog 186 [encQn x] (encS x.name):=by
 refine PC [] Tryz.func186 rfl (by rfl) rfl ?_
 refine kW ?_
 (refine kS ?_;repeat intro γ)
 exact .of rfl
theorem WName_ok (x:Whn):PureCall Tryz.prog 188 [encWn x] (encS x.name):=by
 refine PC [] Tryz.func188 rfl (by rfl) rfl ?_
 refine kW ?_
 (refine kS ?_;repeat intro γ)
 exact .of rfl
set_option maxHeartbeats 1000000 in
theorem risingQ_ok (l:List Eqn) (hl:l.length≤2^60) (hn:∀ x∈l,x.name.size<2^35) :
  PureCall Tryz.prog 185 [.sl 9 (l.map encQn),.fn (.func 186) [] []] (encB (risG (l.map Eqn.name) none)):=by
 refine PC [] Tryz.func185 rfl (by rfl) rfl ?_
 generalize hF:risG (l.map Eqn.name) none=F
 refine kW ?_
 (refine kS ?_;repeat intro γ)
 refine LoopP.intro (fun m σ H=>∃ i,i≤l.length∧m=l.length-i∧risG ((l.drop i).map Eqn.name) (pvN (l.map Eqn.name) i)=F ∧
  σ=fr [(0,.sl 9 (l.map encQn)),(1,.fn (.func 186) [] []),(7,.sl 9 (l.map encQn)),(8,encI l.length),(9,encI i)]∧H=hp []) ?_ ?_
 ·exact .intro <| W.of ⟨_,0,Nat.zero_le _,rfl,hF,rfl,rfl⟩ ⟨rfl,rfl,rfl,by simp;rfl,rfl,trivial⟩ trivial
 ·clear hF
  rintro m σ H ⟨i,hi,rfl,hF,rfl,rfl⟩
  refine kW ?_
  (refine kS ?_;repeat intro γ)
  refine CondP.dec (fun h=>?_) (fun h=>?_)<;>refine kW ?_
  ·have hi':i<l.length:=by omega
   have hx:=hn _ (List.getElem_mem hi')
   rw[List.drop_eq_getElem_cons hi',List.map_cons] at hF
   unfold risG at hF
   have hnx:(l.map Eqn.name)[i]?=some l[i].name:=by rw[List.getElem?_map,List.getElem?_eq_getElem hi'];rfl
   (refine kR ?_;repeat intro γ)
   generalize l[i]=x at hx hF hnx ⊢
   have hnm:=name61_ok x.name (by omega)
   generalize nameF x.name=b at hF hnm
   (refine kR ?_;repeat intro γ)
   refine CallG.intro _ c186 (QName_ok x) ?_
   refine kW ?_
   (refine kQ ?_;repeat intro γ)
   refine CallG.intro _ c120 hnm ?_
   refine kW ?_
   (refine kQ ?_;repeat intro γ)
   refine CondP.intro (fun hq=>?_) (fun hq=>?_)<;>refine kW ?_
   case' refine_2=>
    rw[hq,Bool.false_and,Bool.false_and] at hF
    (refine kR ?_;repeat intro γ)
    exact .of (by rw[← hF];rfl)
   rw[hq,Bool.true_and] at hF
   cases i with
   | zero=>
     (refine kR ?_;repeat intro γ)
     exact .intro <| W.of ⟨_,by omega,1,hi',rfl,by rw[← hF];show risG _ (pvN _ (0+1))=_;rw[pvN_s,hnx];rfl,rfl,rfl⟩ ⟨rfl,rfl,rfl,rfl,rfl,trivial⟩ trivial
   | succ i=>
     have hi2:i<l.length:=by omega
     rw[pvN_s,List.getElem?_map,List.getElem?_eq_getElem hi2] at hF
     replace hF:(Op.bytesLess l[i].name.toList x.name.toList&&risG ((l.drop (i+1+1)).map Eqn.name) (some x.name))=F:=hF
     have hp0:(0:Int)<((i+1:Nat):Int):=by omega
     (refine kR ?_;repeat intro γ)
     try simp only[show ((i+1:Nat):Int)-1=(i:Int) by omega]
     (refine kR ?_;repeat intro γ)
     generalize l[i]=y at hF ⊢
     (refine kR ?_;repeat intro γ)
     refine CallG.intro _ c186 (QName_ok y) ?_
     refine kW ?_
     (refine kR ?_;repeat intro γ)
     refine CallG.intro _ c186 (QName_ok x) ?_
     refine kW ?_
     (refine kR ?_;repeat intro γ)
     refine CondP.intro (fun h2=>?_) (fun h2=>?_)<;>refine kW ?_
     ·rw[h2,Bool.true_and] at hF
      (refine kR ?_;repeat intro γ)
      exact .intro <| W.of ⟨_,by omega,i+1+1,hi',rfl,by rw[pvN_s,hnx];exact hF,rfl,rfl⟩ ⟨rfl,rfl,rfl,rfl,rfl,trivial⟩ trivial
     ·rw[h2,Bool.false_and] at hF
      (refine kR ?_;repeat intro γ)
      exact .of (by rw[← hF];rfl)
  ·(refine kS ?_;repeat intro γ)
   rw[List.drop_eq_nil_of_le (by omega)] at hF
   exact .of (by rw[← hF];rfl)
set_option maxHeartbeats 1000000 in
theorem risingW_ok (l:List Whn) (hl:l.length≤2^60) (hn:∀ x∈l,x.name.size<2^35) :
  PureCall Tryz.prog 187 [.sl 6 (l.map encWn),.fn (.func 188) [] []] (encB (risG (l.map Whn.name) none)):=by
 refine PC [] Tryz.func187 rfl (by rfl) rfl ?_
 generalize hF:risG (l.map Whn.name) none=F
 refine kW ?_
 (refine kS ?_;repeat intro γ)
 refine LoopP.intro (fun m σ H=>∃ i,i≤l.length∧m=l.length-i∧risG ((l.drop i).map Whn.name) (pvN (l.map Whn.name) i)=F ∧
  σ=fr [(0,.sl 6 (l.map encWn)),(1,.fn (.func 188) [] []),(7,.sl 6 (l.map encWn)),(8,encI l.length),(9,encI i)]∧H=hp []) ?_ ?_
 ·exact .intro <| W.of ⟨_,0,Nat.zero_le _,rfl,hF,rfl,rfl⟩ ⟨rfl,rfl,rfl,by simp;rfl,rfl,trivial⟩ trivial
 ·clear hF
  rintro m σ H ⟨i,hi,rfl,hF,rfl,rfl⟩
  refine kW ?_
  (refine kS ?_;repeat intro γ)
  refine CondP.dec (fun h=>?_) (fun h=>?_)<;>refine kW ?_
  ·have hi':i<l.length:=by omega
   have hx:=hn _ (List.getElem_mem hi')
   rw[List.drop_eq_getElem_cons hi',List.map_cons] at hF
   unfold risG at hF
   have hnx:(l.map Whn.name)[i]?=some l[i].name:=by rw[List.getElem?_map,List.getElem?_eq_getElem hi'];rfl
   (refine kR ?_;repeat intro γ)
   generalize l[i]=x at hx hF hnx ⊢
   have hnm:=name61_ok x.name (by omega)
   generalize nameF x.name=b at hF hnm
   (refine kR ?_;repeat intro γ)
   refine CallG.intro _ c188 (WName_ok x) ?_
   refine kW ?_
   (refine kQ ?_;repeat intro γ)
   refine CallG.intro _ c120 hnm ?_
   refine kW ?_
   (refine kQ ?_;repeat intro γ)
   refine CondP.intro (fun hq=>?_) (fun hq=>?_)<;>refine kW ?_
   case' refine_2=>
    rw[hq,Bool.false_and,Bool.false_and] at hF
    (refine kR ?_;repeat intro γ)
    exact .of (by rw[← hF];rfl)
   rw[hq,Bool.true_and] at hF
   cases i with
   | zero=>
     (refine kR ?_;repeat intro γ)
     exact .intro <| W.of ⟨_,by omega,1,hi',rfl,by rw[← hF];show risG _ (pvN _ (0+1))=_;rw[pvN_s,hnx];rfl,rfl,rfl⟩ ⟨rfl,rfl,rfl,rfl,rfl,trivial⟩ trivial
   | succ i=>
     have hi2:i<l.length:=by omega
     rw[pvN_s,List.getElem?_map,List.getElem?_eq_getElem hi2] at hF
     replace hF:(Op.bytesLess l[i].name.toList x.name.toList&&risG ((l.drop (i+1+1)).map Whn.name) (some x.name))=F:=hF
     have hp0:(0:Int)<((i+1:Nat):Int):=by omega
     (refine kR ?_;repeat intro γ)
     try simp only[show ((i+1:Nat):Int)-1=(i:Int) by omega]
     (refine kR ?_;repeat intro γ)
     generalize l[i]=y at hF ⊢
     (refine kR ?_;repeat intro γ)
     refine CallG.intro _ c188 (WName_ok y) ?_
     refine kW ?_
     (refine kR ?_;repeat intro γ)
     refine CallG.intro _ c188 (WName_ok x) ?_
     refine kW ?_
     (refine kR ?_;repeat intro γ)
     refine CondP.intro (fun h2=>?_) (fun h2=>?_)<;>refine kW ?_
     ·rw[h2,Bool.true_and] at hF
      (refine kR ?_;repeat intro γ)
      exact .intro <| W.of ⟨_,by omega,i+1+1,hi',rfl,by rw[pvN_s,hnx];exact hF,rfl,rfl⟩ ⟨rfl,rfl,rfl,rfl,rfl,trivial⟩ trivial
     ·rw[h2,Bool.false_and] at hF
      (refine kR ?_;repeat intro γ)
      exact .of (by rw[← hF];rfl)
  ·(refine kS ?_;repeat intro γ)
   rw[List.drop_eq_nil_of_le (by omega)] at hF
   exact .of (by rw[← hF];rfl)
end Go.Proofs.YtlhdoekgipaihaaGreatDoor
namespace Go.Proofs.YtlhdoekgipaihaaGreatDoor
open Go Go.Fw
def kindF (k t:Int):Bool:=!((!decide (t=0)&&!decide (t=1))||decide (k<0)||decide (3<k)||(!decide (t=0)&&(decide (k=0)||decide (k=3))))
def varF (v:Va):Bool:=
 kindF v.kind v.type&&(if v.kind=2 then valueF v.value v.type else decide (v.value=⟨#[]⟩))
  && (decide (v.start=⟨#[]⟩)||((decide (v.kind=0)||decide (v.kind=1))&&valueF v.start v.type))&&!(v.fixed&&decide (v.start=⟨#[]⟩))
  && (decide (v.unit=⟨#[]⟩)||(decide (v.type=0)&&unitF v.unit))
set_option maxHeartbeats 4000000 in
theorem variable_ok (v:Va) (h1:v.value.size<2^35) (h2:v.start.size<2^35) (h3:v.unit.size<2^35):PureCall Tryz.prog 191 [encV v] (encB (varF v)):=by
 refine PC [] Tryz.func191 rfl (by rfl) rfl ?_
 obtain ⟨name,k,t,vl,st,fx,un⟩:=v
 have hv1:=value_ok vl t h1
 have hv2:=value_ok st t h2
 have hu:=Is_ok un h3
 generalize hF:varF ⟨name,k,t,vl,st,fx,un⟩=F
 unfold varF at hF
 simp only at hF hv1 hv2 hu
 generalize valueF vl t=b1 at hF hv1
 generalize valueF st t=b2 at hF hv2
 generalize unitF un=b3 at hF hu
 clear h1 h2 h3
 by_cases hk:kindF k t=true
 case' neg=>
  have hk':kindF k t=false:=by simpa using hk
  rw[hk',Bool.false_and,Bool.false_and,Bool.false_and,Bool.false_and] at hF
  subst hF
  unfold kindF at hk'
  refine kW ?_
  (repeat (any_goals (first | ((first | refine N0 ?_ | refine A0 fun γ=>?_ | refine C1 ?_ | refine C2 ?_ | refine C3 ?_ | refine C4 ?_ | refine C5 ?_ | refine C6 ?_ | refine C7 ?_ | refine D0 fun γs=>?_ | refine A1 fun γs=>?_ | refine N2 ?_ | refine N3 ?_ | refine N1 ?_);refine kW ?_) | (refine CondP.dec (fun _=>?_) (fun _=>?_)<;>refine kW ?_) | (refine CondP.intro (fun _=>?_) (fun _=>?_)<;>refine kW ?_))))
  all_goals first
   | exact .of rfl
   | (exfalso;simp_all<;>omega)
 rw[hk,Bool.true_and] at hF
 have hcs:(t=0∧(k=0∨k=1∨k=2∨k=3))∨(t=1∧(k=1∨k=2)):=by
  unfold kindF at hk
  simp at hk
  omega
 clear hk
 rcases hcs with ⟨rfl,rfl | rfl | rfl | rfl⟩ | ⟨rfl,rfl | rfl⟩
 all_goals
  simp only[Int.reduceEq,decide_true,decide_false,Bool.true_or,Bool.or_true,Bool.false_or,Bool.or_self,if_true,if_false,Bool.true_and,Bool.false_and,eq_self,Bool.or_false,reduceIte] at hF
  refine kW ?_
  (refine kS ?_;repeat intro γ)
  repeat (any_goals (first
   | exact .of (by rw[← hF];rfl)
   | (refine CallP.flat [] _ c279 hv1 rfl ?_;refine kW ?_;(refine kS ?_;repeat intro γ))
   | (refine CallP.flat [] _ c279 hv2 rfl ?_;refine kW ?_;(refine kS ?_;repeat intro γ))
   | (refine CallP.flat [] _ c280 hu rfl ?_;refine kW ?_;(refine kS ?_;repeat intro γ))
   | (refine CondP.intro (fun h=>?_) (fun h=>?_)<;>refine kW ?_<;>(try simp only at h)<;>(try simp only[h,Bool.true_and,Bool.false_and,Bool.and_true,Bool.and_false,Bool.true_or,Bool.false_or,Bool.not_true,Bool.not_false,Bool.or_true,Bool.or_false] at hF)<;>(refine kS ?_;repeat intro γ))))
theorem validC_ok (v:Va) (h1:v.value.size<2^35) (h2:v.start.size<2^35) (h3:v.unit.size<2^35):PureCall Tryz.prog 190 [encV v] (encB (!varF v)):=by
 refine PC [] Tryz.func190 rfl (by rfl) rfl ?_
 refine kW ?_
 (refine kS ?_;repeat intro γ)
 refine CallP.flat [] _ c191 (variable_ok v h1 h2 h3) rfl ?_
 refine kW ?_
 (refine kS ?_;repeat intro γ)
 exact .of rfl
end Go.Proofs.YtlhdoekgipaihaaGreatDoor
namespace Go.Proofs.YtlhdoekgipaihaaGreatDoor
open Go Go.Fw
def putK {β:Type} (l:List (ByteArray×β)) (k:ByteArray) (v:β):List (ByteArray×β):=match l with
 | []=>[(k,v)]
 | x::r=>if k=x.1 then (x.1,v)::r else x::putK r k v
theorem put_str {β:Type} (f:β→AV) (k:ByteArray) (v:β):∀ l:List (ByteArray×β),∃ r,findK (keyEq T 9 (encS k)) (l.map fun x=>encS x.1)=some r∧(match r with
  | some i=>(l.map fun x=>encS x.1)=((putK l k v).map fun x=>encS x.1)∧(l.map fun x=>f x.2).set i (f v)=(putK l k v).map fun x=>f x.2
  | none=>(l.map fun x=>encS x.1)++[encS k]=((putK l k v).map fun x=>encS x.1)∧(l.map fun x=>f x.2)++[f v]=(putK l k v).map fun x=>f x.2)
 | []=>⟨none,rfl,rfl,rfl⟩
 | x :: l=>by
   obtain ⟨r,h1,h2⟩:=put_str f k v l
   rw[List.map_cons,List.map_cons]
   unfold findK putK
   rw[keyEq_str]
   by_cases h:k=x.1
   ·rw[decide_eq_true h,if_pos h]
    exact ⟨some 0,rfl,rfl,rfl⟩
   ·rw[decide_eq_false h,if_neg h,h1]
    refine ⟨r.map (· + 1),rfl,?_⟩
    revert h2
    cases r with
    | none=>
      rintro ⟨h2,h3⟩
      exact ⟨by rw[List.map_cons,← h2];rfl,by rw[List.map_cons,← h3];rfl⟩
    | some i=>
      rintro ⟨h2,h3⟩
      exact ⟨by rw[List.map_cons,← h2],by rw[List.map_cons,← h3];rfl⟩
def knownF (vs:List Va):List (ByteArray×Va):=vs.foldl (fun l v=>putK l v.name v) []
set_option maxHeartbeats 1000000 in
theorem known_ok (s:Sys) (hv:s.vars.length≤2^60):PureCall Tryz.prog 101 [encSy s] (encK (knownF s.vars)):=by
 refine PC [6] Tryz.func101 rfl (by rfl) rfl ?_
 obtain ⟨vs,qs,ns,ws⟩:=s
 simp only at hv ⊢
 generalize hF:knownF vs=F
 unfold knownF at hF
 unfold encSy
 refine kW ?_
 (refine kS ?_;repeat intro γ)
 refine LoopP.intro (fun k σ H=>∃ g i,∃ l:List (ByteArray×Va),k=vs.length-i∧i≤vs.length∧(vs.drop i).foldl (fun l v=>putK l v.name v) l=F ∧
  σ=fr [(2,.val (.map none)),(3,.om 6 g),(8,.sl 7 (vs.map encV)),(9,encI vs.length),(10,encI i)] ∧
  H=hp [(6,g,⟨129,0,[encK l]⟩)]) ?_ ?_
 ·refine .intro <| W.of ⟨_,_,0,[],rfl,Nat.zero_le _,hF,rfl,rfl⟩ ⟨rfl,rfl,rfl,?_,rfl,trivial⟩ ⟨rfl,trivial⟩
  show AV.val (.int .i64 _)=AV.val (.int .i64 _)
  rw[List.length_map]
 ·clear hF
  rintro k σ H ⟨g,i,l,rfl,hi,hF,rfl,rfl⟩
  refine kW ?_
  (refine kS ?_;repeat intro γ)
  refine CondP.dec (fun h=>?_) (fun h=>?_)<;>refine kW ?_
  ·have hi':i<vs.length:=by omega
   rw[List.drop_eq_getElem_cons hi',List.foldl_cons] at hF
   (refine kR ?_;repeat intro γ)
   generalize vs[i]=v at hF ⊢
   (refine kR ?_;repeat intro γ)
   refine Need.intro keyst9 ?_
   refine kW ?_
   (refine kR ?_;repeat intro γ)
   obtain ⟨r,hr,hm⟩:=put_str encV v.name v l
   refine LookP.intro r hr ?_
   cases r with
   | some j=>
     refine kW ?_
     (refine kR ?_;repeat intro γ)
     refine .intro <| W.of ⟨_,by omega,_,i+1,putK l v.name v,rfl,hi',hF,rfl,rfl⟩ ⟨rfl,rfl,rfl,rfl,rfl,trivial⟩ ⟨?_,trivial⟩
     exact congrArg (fun z=>some (g,(⟨129,0,[z]⟩:Blk))) (congr (congrArg AV.mp hm.1) hm.2)
   | none=>
     refine kW ?_
     (refine kR ?_;repeat intro γ)
     refine .intro <| W.of ⟨_,by omega,_,i+1,putK l v.name v,rfl,hi',hF,rfl,rfl⟩ ⟨rfl,rfl,rfl,rfl,rfl,trivial⟩ ⟨?_,trivial⟩
     exact congrArg (fun z=>some (g,(⟨129,0,[z]⟩:Blk))) (congr (congrArg AV.mp hm.1) hm.2)
  ·rw[List.drop_eq_nil_of_le (by omega)] at hF
   (refine kS ?_;repeat intro γ)
   exact .of (by rw[← hF];rfl)
def typedF (ks:List (ByteArray×Va)) (e:Ex) (t:Int):Bool:=builtF e&&(typeF ks e).2&&decide ((typeF ks e).1=t)
theorem typed_ok (ks:List (ByteArray×Va)) (e:Ex) (t:Int) (hs:SzE e) (hx:TxE e):PureCall Tryz.prog 192 [encK ks,encE e,encI t] (encB (typedF ks e t)):=by
 refine PC [] Tryz.func192 rfl (by rfl) rfl ?_
 have hb:=Built_ok e hs hx
 have hT:=Type_ok ks e hs
 generalize hF:typedF ks e t=F
 unfold typedF at hF
 generalize builtF e=b at hF hb hT
 generalize typeF ks e=ty at hF hT
 rw[encE_eq] at hb hT ⊢
 refine kW ?_
 (refine kS ?_;repeat intro γ)
 refine CallP.flat [] _ c111 hb rfl ?_
 refine kW ?_
 (refine kS ?_;repeat intro γ)
 cases b with
 | false=>
   rw[Bool.false_and,Bool.false_and] at hF
   (refine kS ?_;repeat intro γ)
   exact .of (by rw[← hF];rfl)
 | true=>
   rw[Bool.true_and] at hF
   obtain ⟨x,y⟩:=ty
   simp only at hF
   (refine kS ?_;repeat intro γ)
   refine CallP.pure [] _ c112 (hT rfl) ?_
   refine kW ?_
   (refine kS ?_;repeat intro γ)
   cases y with
   | false=>
     rw[Bool.false_and] at hF
     (refine kS ?_;repeat intro γ)
     exact .of (by rw[← hF];rfl)
   | true=>
     rw[Bool.true_and] at hF
     (refine kS ?_;repeat intro γ)
     exact .of (by rw[← hF];rfl)
end Go.Proofs.YtlhdoekgipaihaaGreatDoor
namespace Go.Proofs.YtlhdoekgipaihaaGreatDoor
open Go Go.Fw
def setM (A:List ByteArray):AV:=.mp (A.map encS) (A.map fun _=>encB true)
def memA (s:ByteArray) (A:List ByteArray):Bool:=A.any fun x=>decide (s=x)
theorem set_str (s:ByteArray):∀ A:List ByteArray,∃ r,findK (keyEq T 9 (encS s)) (A.map encS)=some r∧(match r with
  | some i=>memA s A=true∧(A.map fun _=>encB true).getD i .dead=encB true
  | none=>memA s A=false)
 | []=>⟨none,rfl,rfl⟩
 | x :: l=>by
   obtain ⟨r,h1,h2⟩:=set_str s l
   rw[List.map_cons]
   unfold findK
   rw[keyEq_str]
   by_cases h:s=x
   ·rw[decide_eq_true h]
    exact ⟨some 0,rfl,by simp[memA,h],rfl⟩
   ·rw[decide_eq_false h,h1]
    refine ⟨r.map (· + 1),rfl,?_⟩
    revert h2
    cases r with
    | none=>intro h2;simpa [memA,h] using h2
    | some i=>rintro ⟨h2,h3⟩;exact ⟨by unfold memA at *;rw[List.any_cons,h2,Bool.or_true],h3⟩
theorem setM_snoc (p:Nat) (e:Nat) (A:List ByteArray) (v:ByteArray):some (p,(⟨e,0,[.mp (A.map encS++[encS v]) ((A.map fun _=>encB true)++[encB true])]⟩:Blk))=some (p,⟨e,0,[setM (A++[v])]⟩):=by
 unfold setM;rw[List.map_append,List.map_append];rfl
def badA (ks:List (ByteArray×Va)) (a:Ac) (A:List ByteArray):Bool:=match assoc ks a.var with
 | none=>true
 | some v=>(!decide (a.kind=0)&&!decide (a.kind=1))||!decide (v.kind=if a.kind=0 then 1 else 0)||memA a.var A||!typedF ks a.value v.type
def actsG (ks:List (ByteArray×Va)):List Ac→List ByteArray→List ByteArray→Bool×List ByteArray
 | [],_,A=>(true,A)
 | a::r,S,A=>if badA ks a (if a.kind=0 then A else S) then (false,A) else if a.kind=0 then actsG ks r S (A++[a.var]) else actsG ks r (S++[a.var]) A
def actsF (ks:List (ByteArray×Va)) (w:Whn) (A:List ByteArray):Bool×List ByteArray:=((actsG ks w.acts [] A).1&&decide (0<w.acts.length),(actsG ks w.acts [] A).2)
set_option maxHeartbeats 2000000 in
theorem acts_ok (ks : List (ByteArray×Va)) (w:Whn) (A:List ByteArray) (p:Nat) (hl:w.acts.length≤2^40) (he:∀ a∈w.acts,SzE a.value∧TxE a.value) :
  HCall Tryz.prog 193 [encK ks,encWn w,.om 50 p] (hp [(50,p,⟨251,0,[setM A]⟩)]) (fun r h=>r=encB (actsF ks w A).1∧h=hp [(50,p,⟨251,0,[setM (actsF ks w A).2]⟩)]):=by
 refine hcall_cp (E:=E 0) T_ok (D_ok 0) Tryz.func193 rfl (by rfl) (Nat.le_of_ble_eq_true rfl) ?_
 obtain ⟨wn,wc,ats⟩:=w
 simp only at hl he
 generalize hF:actsF ks ⟨wn,wc,ats⟩ A=F
 unfold actsF at hF
 simp only at hF
 obtain ⟨G,hG⟩:∃ G,actsG ks ats [] A=G:=⟨_,rfl⟩
 rw[hG] at hF
 unfold encWn
 refine kW ?_
 (refine kS ?_;repeat intro γ)
 refine LoopP.intro (fun k σ H=>∃ g g4 i,∃ S A:List ByteArray,k=ats.length-i∧i≤ats.length∧actsG ks (ats.drop i) S A=G ∧
  σ=fr [(0,encK ks),(2,.om 50 p),(4,.op 4 g4 0 0),(6,encB false),(7,.om 14 g),(16,.sl 6 (ats.map encAc)),(17,encI ats.length),(18,encI i)] ∧
  H=hp [(4,g4,⟨163,6,[encWn ⟨wn,wc,ats⟩]⟩),(14,g,⟨251,0,[setM S]⟩),(50,p,⟨251,0,[setM A]⟩)]) ?_ ?_
 ·refine .intro <| W.of ⟨_,_,_,0,[],A,rfl,Nat.zero_le _,hG,rfl,rfl⟩ ⟨rfl,rfl,rfl,rfl,rfl,rfl,?_,rfl,trivial⟩ ⟨rfl,rfl,rfl,trivial⟩
  show AV.val (.int .i64 _)=AV.val (.int .i64 _)
  rw[List.length_map]
 ·clear hG A
  rintro k σ H ⟨g,g4,i,S,A,rfl,hi,hG,rfl,rfl⟩
  refine kW ?_
  (refine kS ?_;repeat intro γ)
  refine CondP.dec (fun h=>?_) (fun h=>?_)<;>refine kW ?_
  ·have hi':i<ats.length:=by omega
   rw[List.drop_eq_getElem_cons hi'] at hG
   have hz:=he ats[i] (List.getElem_mem hi')
   (refine kR ?_;repeat intro γ)
   generalize ats[i]=a at hG hz ⊢
   obtain ⟨ak,av,ae⟩:=a
   simp only at hz
   (refine kR ?_;repeat intro γ)
   refine Need.intro keyst9 ?_
   refine kW ?_
   obtain ⟨r,hr,hm⟩:=look_str encV av ks
   refine LookP.intro r hr ?_
   unfold actsG badA at hG
   simp only at hG
   cases ha:assoc ks av with
   | none=>
     rw[ha] at hm hG
     cases r with
     | some i=>exact hm.elim
     | none=>
       replace hG:(false,A)=G:=hG
       refine kW ?_
       (refine kS ?_;repeat intro γ)
       refine CondP.dec (fun _=>?_) (fun _=>?_)<;>refine kW ?_<;>(refine kS ?_;repeat intro γ)
       all_goals exact EndH.of (m:=[(50,p,⟨251,0,[setM A]⟩)]) ⟨rfl,trivial⟩ ⟨by rw[← hF,← hG];rfl,by rw[← hF,← hG]⟩
   | some v=>
     rw[ha] at hm hG
     cases r with
     | none=>exact hm.elim
     | some j=>
       refine kW ?_
       rw[show (List.map (fun x=>encV x.snd) ks).getD j AV.dead=encV v from hm]
       refine kW ?_
       (refine kS ?_;repeat intro γ)
       replace hG:(if ((!decide (ak=0)&&!decide (ak=1))||!decide (v.kind=if ak=0 then 1 else 0)||memA av (if ak=0 then A else S)||!typedF ks ae v.type) then (false,A) else if ak=0 then actsG ks (ats.drop (i+1)) S (A++[av]) else actsG ks (ats.drop (i+1)) (S++[av]) A)=G:=hG
       have hty:=typed_ok ks ae v.type hz.1 hz.2
       generalize typedF ks ae v.type=bt at hG hty
       rw[encE_eq] at hty
       refine CondP.dec (fun h0=>?_) (fun h0=>?_)<;>refine kW ?_
       case' refine_1=>
        simp only[h0,decide_true,Bool.not_true,Bool.false_and,Bool.false_or,if_true] at hG
        obtain ⟨r2,hr2,hm2⟩:=set_str av A
        (refine kS ?_;repeat intro γ)
       case' refine_2=>
        by_cases h01:ak=1
        case' neg=>
         simp only[h0,h01,decide_false,Bool.not_false,Bool.true_and,Bool.true_or,if_true] at hG
         (refine kS ?_;repeat intro γ)
         exact EndH.of (m:=[(50,p,⟨251,0,[setM A]⟩)]) ⟨rfl,trivial⟩ ⟨by rw[← hF,← hG];rfl,by rw[← hF,← hG]⟩
        simp only[h0,h01,decide_false,decide_true,Bool.not_true,Bool.not_false,Bool.and_false,Bool.false_or,if_false,Int.reduceEq] at hG
        obtain ⟨r2,hr2,hm2⟩:=set_str av S
        (refine kS ?_;repeat intro γ)
       all_goals
        refine CondP.dec (fun h1=>?_) (fun h1=>?_)<;>refine kW ?_
        ·simp only[h1,decide_true,Bool.not_true,Bool.false_or] at hG
         (refine kS ?_;repeat intro γ)
         refine Need.intro keyst9 ?_
         refine kW ?_
         (refine kS ?_;repeat intro γ)
         refine LookP.intro r2 hr2 ?_
         cases r2 with
         | some j2=>
           obtain ⟨hm3,hm4⟩:=hm2
           simp only[hm3,Bool.true_or,if_true] at hG
           refine kW ?_
           rw[hm4]
           refine kW ?_
           (refine kS ?_;repeat intro γ)
           exact EndH.of (m:=[(50,p,⟨251,0,[setM A]⟩)]) ⟨rfl,trivial⟩ ⟨by rw[← hF,← hG];rfl,by rw[← hF,← hG]⟩
         | none=>
           replace hm2:memA av _=false:=hm2
           simp only[hm2,Bool.false_or] at hG
           refine kW ?_
           (refine kS ?_;repeat intro γ)
           refine CallP.flat [] _ c192 hty rfl ?_
           refine kW ?_
           (refine kS ?_;repeat intro γ)
           cases bt with
           | false=>
             replace hG:(false,A)=G:=hG
             (refine kS ?_;repeat intro γ)
             exact EndH.of (m:=[(50,p,⟨251,0,[setM A]⟩)]) ⟨rfl,trivial⟩ ⟨by rw[← hF,← hG];rfl,by rw[← hF,← hG]⟩
           | true=>
             simp only[Bool.not_true,Bool.false_eq_true,if_false] at hG
             (refine kS ?_;repeat intro γ)
             refine Need.intro keyst9 ?_
             refine kW ?_
             (refine kS ?_;repeat intro γ)
             refine LookP.intro none hr2 ?_
             refine kW ?_
             (refine kS ?_;repeat intro γ)
             first
              | refine .intro <| W.of ⟨_,by omega,_,_,i+1,S,A++[av],rfl,hi',hG,rfl,rfl⟩ ⟨rfl,rfl,rfl,rfl,rfl,rfl,rfl,rfl,trivial⟩ ⟨rfl,rfl,setM_snoc ..,trivial⟩
              | refine .intro <| W.of ⟨_,by omega,_,_,i+1,S++[av],A,rfl,hi',hG,rfl,rfl⟩ ⟨rfl,rfl,rfl,rfl,rfl,rfl,rfl,rfl,trivial⟩ ⟨rfl,setM_snoc ..,rfl,trivial⟩
        ·simp only[h1,decide_false,Bool.not_false,Bool.true_or,if_true] at hG
         (refine kS ?_;repeat intro γ)
         exact EndH.of (m:=[(50,p,⟨251,0,[setM A]⟩)]) ⟨rfl,trivial⟩ ⟨by rw[← hF,← hG];rfl,by rw[← hF,← hG]⟩
  ·rw[List.drop_eq_nil_of_le (by omega)] at hG
   (refine kS ?_;repeat intro γ)
   replace hG:(true,A)=G:=hG
   refine EndH.of (m:=[(50,p,⟨251,0,[setM A]⟩)]) ⟨rfl,trivial⟩ ⟨?_,by rw[← hF,← hG]⟩
   rw[← hF,← hG]
   show AV.val (.bool (decide _))=AV.val (.bool (decide _))
   congr 2
   exact decide_eq_decide.2 (by simp)
end Go.Proofs.YtlhdoekgipaihaaGreatDoor
namespace Go.Proofs.YtlhdoekgipaihaaGreatDoor
open Go Go.Fw
def eqT (ks:List (ByteArray×Va)) (q:Eqn):Bool:=typedF ks q.left 0&&typedF ks q.right 0
def whensG (ks:List (ByteArray×Va)):List Whn→List ByteArray→Bool
 | [],_=>true
 | w::r,A=>typedF ks w.cond 1&&(actsF ks w A).1&&whensG ks r (actsF ks w A).2
def validF (s:Sys):Bool:=
 risG (s.vars.map Va.name) none&&risG (s.eqs.map Eqn.name) none&&risG (s.inits.map Eqn.name) none&&risG (s.whens.map Whn.name) none
  && !(s.vars.any fun v=>!varF v)&&(s.eqs.all (eqT (knownF s.vars))&&s.inits.all (eqT (knownF s.vars)))&&whensG (knownF s.vars) s.whens []
theorem mem_side {l:List Eqn} {q:Eqn} (h:q∈l):q.left∈sides l∧q.right∈sides l:=by
 unfold sides
 exact ⟨List.mem_flatMap.2 ⟨q,h,by simp⟩,List.mem_flatMap.2 ⟨q,h,by simp⟩⟩
theorem mem_when {l:List Whn} {w:Whn} (h:w∈l):w.cond∈l.flatMap whenE∧∀ a∈w.acts,a.value∈l.flatMap whenE:=by
 refine ⟨List.mem_flatMap.2 ⟨w,h,by simp[whenE]⟩,fun a ha=>List.mem_flatMap.2 ⟨w,h,?_⟩⟩
 unfold whenE
 exact List.mem_cons_of_mem _ (List.mem_map.2 ⟨a,ha,rfl⟩)
set_option maxHeartbeats 4000000 in
theorem valid_ok (s:Sys) (hs:SzS s) (h20:∀ w∈s.whens,w.acts.length≤20):PureCall Tryz.prog 94 [encSy s] (encB (validF s)):=by
 refine PC [] Tryz.func94 rfl (by rfl) rfl ?_
 have r1:=risingV_ok s.vars hs.v fun v hv=>(hs.t v hv).1
 have r2:=risingQ_ok s.eqs hs.q hs.m.1
 have r3:=risingQ_ok s.inits hs.n hs.m.2.1
 have r4:=risingW_ok s.whens hs.w hs.m.2.2
 have hC:=containsV_ok 190 (fun v=>!varF v) s.vars hs.v c190 fun v hv=>validC_ok v (hs.t v hv).2.1 (hs.t v hv).2.2.1 (hs.t v hv).2.2.2
 have hK:=known_ok s hs.v
 have hQ:∀ q∈s.eqs,(SzE q.left∧TxE q.left)∧SzE q.right∧TxE q.right:=fun q hq=>⟨hs.e _ (by unfold allF;exact List.mem_append_left _ (List.mem_append_left _ (mem_side hq).1)),hs.e _ (by unfold allF;exact List.mem_append_left _ (List.mem_append_left _ (mem_side hq).2))⟩
 have hN:∀ q∈s.inits,(SzE q.left∧TxE q.left)∧SzE q.right∧TxE q.right:=fun q hq=>⟨hs.e _ (by unfold allF;exact List.mem_append_left _ (List.mem_append_right _ (mem_side hq).1)),hs.e _ (by unfold allF;exact List.mem_append_left _ (List.mem_append_right _ (mem_side hq).2))⟩
 have hWc:∀ w∈s.whens,SzE w.cond∧TxE w.cond:=fun w hw=>hs.e _ (by unfold allF;exact List.mem_append_right _ (mem_when hw).1)
 have hWa:∀ w∈s.whens,∀ a∈w.acts,SzE a.value∧TxE a.value:=fun w hw a ha=>hs.e _ (by unfold allF;exact List.mem_append_right _ ((mem_when hw).2 a ha))
 have hq:=hs.q
 have hn:=hs.n
 have hw:=hs.w
 clear hs
 generalize hF:validF s=F
 unfold validF at hF
 obtain ⟨vs,qs,ns,ws⟩:=s
 simp only at *
 generalize risG (vs.map Va.name) none=b1 at *
 generalize risG (qs.map Eqn.name) none=b2 at *
 generalize risG (ns.map Eqn.name) none=b3 at *
 generalize risG (ws.map Whn.name) none=b4 at *
 generalize (vs.any fun v=>!varF v)=b5 at *
 generalize knownF vs=ks at *
 unfold encSy at hK ⊢
 refine kW ?_
 (refine kS ?_;repeat intro γ)
 refine CallP.flat [] _ c183 r1 rfl ?_
 refine kW ?_
 (refine kS ?_;repeat intro γ)
 refine CondP.intro (fun h=>?_) (fun h=>?_)<;>refine kW ?_
 case' refine_2=>
  simp only[h,Bool.false_and] at hF
  (refine kS ?_;repeat intro γ)
  exact .of (by rw[← hF];rfl)
 simp only[h,Bool.true_and] at hF
 (refine kS ?_;repeat intro γ)
 refine CallP.flat [] _ c185 r2 rfl ?_
 refine kW ?_
 (refine kS ?_;repeat intro γ)
 refine CondP.intro (fun h=>?_) (fun h=>?_)<;>refine kW ?_
 case' refine_2=>
  simp only[h,Bool.false_and] at hF
  (refine kS ?_;repeat intro γ)
  exact .of (by rw[← hF];rfl)
 simp only[h,Bool.true_and] at hF
 (refine kS ?_;repeat intro γ)
 refine CallP.flat [] _ c185 r3 rfl ?_
 refine kW ?_
 (refine kS ?_;repeat intro γ)
 refine CondP.intro (fun h=>?_) (fun h=>?_)<;>refine kW ?_
 case' refine_2=>
  simp only[h,Bool.false_and] at hF
  (refine kS ?_;repeat intro γ)
  exact .of (by rw[← hF];rfl)
 simp only[h,Bool.true_and] at hF
 (refine kS ?_;repeat intro γ)
 refine CallP.flat [] _ c187 r4 rfl ?_
 refine kW ?_
 (refine kS ?_;repeat intro γ)
 refine CondP.intro (fun h=>?_) (fun h=>?_)<;>refine kW ?_
 case' refine_2=>
  simp only[h,Bool.false_and] at hF
  (refine kS ?_;repeat intro γ)
  exact .of (by rw[← hF];rfl)
 simp only[h,Bool.true_and] at hF
 (refine kS ?_;repeat intro γ)
 refine CallP.flat [] _ c189 hC rfl ?_
 refine kW ?_
 (refine kS ?_;repeat intro γ)
 refine CondP.intro (fun h=>?_) (fun h=>?_)<;>refine kW ?_
 ·simp only[h,Bool.not_true,Bool.false_and] at hF
  (refine kS ?_;repeat intro γ)
  exact .of (by rw[← hF];rfl)
 simp only[h,Bool.not_false,Bool.true_and] at hF
 (refine kS ?_;repeat intro γ)
 refine CallP.pure [] _ c101 hK ?_
 refine kW ?_
 (refine kS ?_;repeat intro γ)
 have hQN:∀ l∈[qs,ns],l.length≤2^60∧∀ q∈l,(SzE q.left∧TxE q.left)∧SzE q.right∧TxE q.right:=by
  intro l hl
  rcases List.mem_cons.1 hl with h | h
  ·rw[h];exact ⟨hq,hQ⟩
  ·rw[List.mem_singleton.1 h];exact ⟨hn,hN⟩
 obtain ⟨wh,hwh⟩:∃ wh,whensG ks ws []=wh:=⟨_,rfl⟩
 rw[hwh] at hF
 replace hF:([qs,ns].all (fun l=>l.all (eqT ks))&&wh)=F:=by rw[← hF];simp
 clear hQ hN r1 r2 r3 r4 hC hK
 refine LoopP.intro (fun k σ H=>∃ g1 g42 i,k=2-i∧i≤2∧(([qs,ns].drop i).all (fun l=>l.all (eqT ks))&&wh)=F ∧
  σ=fr [(1,.op 1 g1 0 0),(2,encB false),(3,encK ks),(42,.own 42 g42 0 2),(43,encI 2),(44,encI i)] ∧
  H=hp [(1,g1,⟨26,4,[.agg [.sl 7 (vs.map encV),.sl 9 (qs.map encQn),.sl 9 (ns.map encQn),.sl 6 (ws.map encWn)]]⟩),(42,g42,⟨23,1,[qs,ns].map fun l=>.sl 9 (l.map encQn)⟩)]) ?_ ?_
 ·exact .intro <| W.of ⟨_,_,_,0,rfl,by omega,hF,rfl,rfl⟩ ⟨rfl,rfl,rfl,rfl,rfl,rfl,trivial⟩ ⟨rfl,rfl,trivial⟩
 ·clear hF
  rintro k σ H ⟨g1,g42,i,rfl,hi,hF,rfl,rfl⟩
  refine kW ?_
  (refine kS ?_;repeat intro γ)
  refine CondP.dec (fun h=>?_) (fun h=>?_)<;>refine kW ?_
  ·have hi':i<[qs,ns].length:=by simp;omega
   rw[List.drop_eq_getElem_cons hi',List.all_cons] at hF
   obtain ⟨hl,hlq⟩:=hQN _ (List.getElem_mem hi')
   (refine kR ?_;repeat intro γ)
   generalize [qs,ns][i]=l at hF hl hlq ⊢
   obtain ⟨rs,hrs⟩:∃ rs,([qs,ns].drop (i+1)).all (fun l=>l.all (eqT ks))=rs:=⟨_,rfl⟩
   rw[hrs] at hF
   refine LoopP.intro (fun k σ H=>∃ j,k=l.length-j∧j≤l.length∧((l.drop j).all (eqT ks)&&rs&&wh)=F ∧
    σ=fr [(1,.op 1 g1 0 0),(2,encB false),(3,encK ks),(42,.own 42 g42 0 2),(43,encI 2),(44,encI i),(48,.sl 9 (l.map encQn)),(49,encI l.length),(50,encI j)] ∧
    H=hp [(1,g1,⟨26,4,[.agg [.sl 7 (vs.map encV),.sl 9 (qs.map encQn),.sl 9 (ns.map encQn),.sl 6 (ws.map encWn)]]⟩),(42,g42,⟨23,1,[qs,ns].map fun l=>.sl 9 (l.map encQn)⟩)]) ?_ ?_
   ·exact .intro <| W.of ⟨_,0,rfl,Nat.zero_le _,hF,rfl,rfl⟩ ⟨rfl,rfl,rfl,rfl,rfl,rfl,rfl,rfl,rfl,trivial⟩ ⟨rfl,rfl,trivial⟩
   ·clear hF
    rintro k σ H ⟨j,rfl,hj,hF,rfl,rfl⟩
    refine kW ?_
    (refine kS ?_;repeat intro γ)
    refine CondP.dec (fun h=>?_) (fun h=>?_)<;>refine kW ?_
    ·have hj':j<l.length:=by omega
     rw[List.drop_eq_getElem_cons hj',List.all_cons] at hF
     have hz:=hlq _ (List.getElem_mem hj')
     (refine kR ?_;repeat intro γ)
     generalize l[j]=q at hF hz ⊢
     unfold eqT at hF
     have t1:=typed_ok ks q.left 0 hz.1.1 hz.1.2
     have t2:=typed_ok ks q.right 0 hz.2.1 hz.2.2
     generalize typedF ks q.left 0=y1 at hF t1
     generalize typedF ks q.right 0=y2 at hF t2
     rw[encE_cells] at t1 t2
     (refine kR ?_;repeat intro γ)
     refine CallP.flat [] _ c192 t1 rfl ?_
     refine kW ?_
     (refine kS ?_;repeat intro γ)
     refine CondP.intro (fun h1=>?_) (fun h1=>?_)<;>refine kW ?_
     case' refine_2=>
      simp only[h1,Bool.false_and] at hF
      (refine kS ?_;repeat intro γ)
      exact .of (by rw[← hF];rfl)
     simp only[h1,Bool.true_and] at hF
     (refine kS ?_;repeat intro γ)
     refine CallP.flat [] _ c192 t2 rfl ?_
     refine kW ?_
     (refine kS ?_;repeat intro γ)
     refine CondP.intro (fun h2=>?_) (fun h2=>?_)<;>refine kW ?_
     case' refine_2=>
      simp only[h2,Bool.false_and] at hF
      (refine kS ?_;repeat intro γ)
      exact .of (by rw[← hF];rfl)
     simp only[h2,Bool.true_and] at hF
     (refine kS ?_;repeat intro γ)
     exact .intro <| W.of ⟨_,by omega,j+1,rfl,hj',hF,rfl,rfl⟩ ⟨rfl,rfl,rfl,rfl,rfl,rfl,rfl,rfl,rfl,trivial⟩ ⟨rfl,rfl,trivial⟩
    ·rw[List.drop_eq_nil_of_le (by omega)] at hF
     (refine kS ?_;repeat intro γ)
     exact .intro <| W.of ⟨_,by omega,_,_,i+1,rfl,by omega,by rw[hrs];exact hF,rfl,rfl⟩ ⟨rfl,rfl,rfl,rfl,rfl,rfl,trivial⟩ ⟨rfl,rfl,trivial⟩
  ·rw[List.drop_eq_nil_of_le (by simp;omega)] at hF
   replace hF:wh=F:=hF
   rw[← hwh] at hF
   (refine kS ?_;repeat intro γ)
   refine LoopP.intro (fun k σ H=>∃ g i,∃ A:List ByteArray,k=ws.length-i∧i≤ws.length∧whensG ks (ws.drop i) A=F ∧
    σ=fr [(2,encB false),(3,encK ks),(8,.om 68 g),(70,.sl 6 (ws.map encWn)),(71,encI ws.length),(72,encI i)] ∧
    H=hp [(68,g,⟨251,0,[setM A]⟩)]) ?_ ?_
   ·refine .intro <| W.of ⟨_,_,0,[],rfl,Nat.zero_le _,hF,rfl,rfl⟩ ⟨rfl,rfl,rfl,rfl,?_,rfl,trivial⟩ ⟨rfl,trivial⟩
    show AV.val (.int .i64 _)=AV.val (.int .i64 _)
    rw[List.length_map]
   ·clear hF hwh
    rintro k σ H ⟨g,i,A,rfl,hi,hF,rfl,rfl⟩
    refine kW ?_
    (refine kS ?_;repeat intro γ)
    refine CondP.dec (fun h=>?_) (fun h=>?_)<;>refine kW ?_
    ·have hi':i<ws.length:=by omega
     rw[List.drop_eq_getElem_cons hi'] at hF
     unfold whensG at hF
     have hz:=hWc _ (List.getElem_mem hi')
     have hza:=hWa _ (List.getElem_mem hi')
     have h20':=h20 _ (List.getElem_mem hi')
     (refine kR ?_;repeat intro γ)
     generalize ws[i]=w at hF hz hza h20' ⊢
     have t1:=typed_ok ks w.cond 1 hz.1 hz.2
     generalize typedF ks w.cond 1=y1 at hF t1
     rw[encE_cells] at t1
     (refine kR ?_;repeat intro γ)
     refine CallP.flat [] _ c192 t1 rfl ?_
     refine kW ?_
     (refine kS ?_;repeat intro γ)
     refine CondP.intro (fun h1=>?_) (fun h1=>?_)<;>refine kW ?_
     case' refine_2=>
      simp only[h1,Bool.false_and] at hF
      (refine kS ?_;repeat intro γ)
      exact .of (by rw[← hF];rfl)
     simp only[h1,Bool.true_and] at hF
     (refine kS ?_;repeat intro γ)
     refine CallP.frame 1000000 [(50,68)] rfl c193 (acts_ok ks w A g (by omega) hza) rfl ⟨rfl,trivial⟩ ?_
     rintro r0 h' ⟨rfl,rfl⟩
     refine ⟨[(68,g,⟨251,0,[setM (actsF ks w A).2]⟩)],⟨rfl,trivial⟩,?_⟩
     refine kW ?_
     (refine kS ?_;repeat intro γ)
     refine CondP.intro (fun h2=>?_) (fun h2=>?_)<;>refine kW ?_
     case' refine_2=>
      simp only[h2,Bool.false_and] at hF
      (refine kS ?_;repeat intro γ)
      exact .of (by rw[← hF];rfl)
     simp only[h2,Bool.true_and] at hF
     (refine kS ?_;repeat intro γ)
     exact .intro <| W.of ⟨_,by omega,_,i+1,_,rfl,hi',hF,rfl,rfl⟩ ⟨rfl,rfl,rfl,rfl,rfl,rfl,trivial⟩ ⟨rfl,trivial⟩
    ·rw[List.drop_eq_nil_of_le (by omega)] at hF
     (refine kS ?_;repeat intro γ)
     exact .of (by rw[← hF];rfl)
def checkF (s:Sys):Int:=if largeF s then 2 else if validF s then 0 else 1
theorem Check_ok (s:Sys) (hs:SzS s):PureCall Tryz.prog 36 [encSy s] (encI (checkF s)):=by
 refine PC [] Tryz.func36 rfl (by rfl) rfl ?_
 have hL:=large_ok s hs
 have h20:largeF s=false→∀ w∈s.whens,w.acts.length≤20:=by
  intro h w hw
  unfold largeF at h
  simp only[Bool.or_eq_false_iff] at h
  have:=List.any_eq_false.1 h.1.2 w hw
  simp at this
  exact this
 have hV:=fun h=>valid_ok s hs (h20 h)
 generalize hF:checkF s=F
 unfold checkF at hF
 generalize largeF s=a at hF hL hV
 generalize validF s=b at hF hV
 clear h20 hs
 unfold encSy at hL hV ⊢
 refine kW ?_
 (refine kS ?_;repeat intro γ)
 refine CallP.flat [] _ c93 hL rfl ?_
 refine kW ?_
 (refine kS ?_;repeat intro γ)
 cases a with
 | true=>
   (refine kS ?_;repeat intro γ)
   exact .of (by rw[← hF];rfl)
 | false=>
   (refine kS ?_;repeat intro γ)
   refine CallP.flat [] _ c94 (hV rfl) rfl ?_
   refine kW ?_
   (refine kS ?_;repeat intro γ)
   cases b with
   | true=>
     (refine kS ?_;repeat intro γ)
     exact .of (by rw[← hF];rfl)
   | false=>
     (refine kS ?_;repeat intro γ)
     exact .of (by rw[← hF];rfl)
end Go.Proofs.YtlhdoekgipaihaaGreatDoor
namespace Go.Proofs.YtlhdoekgipaihaaGreatDoor
open Go Go.Fw
abbrev oTrue:ByteArray:=⟨#[116,114,117,101]⟩
abbrev oFalse:ByteArray:=⟨#[102,97,108,115,101]⟩
abbrev oTime:ByteArray:=⟨#[116,105,109,101]⟩
abbrev oInit:ByteArray:=⟨#[105,110,105,116,105,97,108]⟩
abbrev oNeg:ByteArray:=⟨#[110,101,103]⟩
abbrev oNot:ByteArray:=⟨#[110,111,116]⟩
abbrev oAdd:ByteArray:=⟨#[97,100,100]⟩
abbrev oSub:ByteArray:=⟨#[115,117,98]⟩
abbrev oMul:ByteArray:=⟨#[109,117,108]⟩
abbrev oDiv:ByteArray:=⟨#[100,105,118]⟩
abbrev oLess:ByteArray:=⟨#[108,101,115,115]⟩
abbrev oAtMost:ByteArray:=⟨#[97,116,109,111,115,116]⟩
abbrev oMore:ByteArray:=⟨#[109,111,114,101]⟩
abbrev oAtLeast:ByteArray:=⟨#[97,116,108,101,97,115,116]⟩
abbrev oAnd:ByteArray:=⟨#[97,110,100]⟩
abbrev oOr:ByteArray:=⟨#[111,114]⟩
def kidsR (o:ByteArray):Int:=
 if o=oNum then 0 else if o=oTrue then 0 else if o=oFalse then 0 else if o=oVar then 0 else if o=oPre then 0 else if o=oTime then 0 else if o=oInit then 0
 else if o=oNeg then 1 else if o=oNot then 1
 else if o=oSample then 2 else if o=oAdd then 2 else if o=oSub then 2 else if o=oMul then 2 else if o=oDiv then 2 else if o=oLess then 2 else if o=oAtMost then 2 else if o=oMore then 2 else if o=oAtLeast then 2
 else if o=oEq then 2 else if o=oNe then 2 else if o=oAnd then 2 else if o=oOr then 2 else if o=oIf then 3 else -1
set_option maxHeartbeats 1000000 in
theorem Kids_ok (o:ByteArray):PureCall Tryz.prog 258 [encS o] (encI (kidsR o)):=by
 refine PC [] Tryz.func258 rfl (by rfl) rfl ?_
 generalize hF:kidsR o=F
 unfold kidsR at hF
 refine kW ?_
 (refine kS ?_;repeat intro γ)
 repeat
  refine CondP.dec (fun h=>?_) (fun h=>?_)<;>refine kW ?_
  ·rw[if_pos h] at hF
   (refine kS ?_;repeat intro γ)
   exact .of (by rw[← hF];rfl)
  rw[if_neg h] at hF
  (refine kS ?_;repeat intro γ)
 exact .of (by rw[← hF];rfl)
theorem kids_same (o:ByteArray):kidsR o=kidsF o:=by
 have key:∀ x:ByteArray,o=x→kidsR x=kidsF x→kidsR o=kidsF o:=fun x h e=>by rw[h];exact e
 by_cases h1:o=oNum;· exact key _ h1 (by kernel_rfl)
 by_cases h2:o=oTrue;· exact key _ h2 (by kernel_rfl)
 by_cases h3:o=oFalse;· exact key _ h3 (by kernel_rfl)
 by_cases h4:o=oVar;· exact key _ h4 (by kernel_rfl)
 by_cases h5:o=oPre;· exact key _ h5 (by kernel_rfl)
 by_cases h6:o=oTime;· exact key _ h6 (by kernel_rfl)
 by_cases h7:o=oInit;· exact key _ h7 (by kernel_rfl)
 by_cases h8:o=oNeg;· exact key _ h8 (by kernel_rfl)
 by_cases h9:o=oNot;· exact key _ h9 (by kernel_rfl)
 by_cases h10:o=oSample;· exact key _ h10 (by kernel_rfl)
 by_cases h11:o=oAdd;· exact key _ h11 (by kernel_rfl)
 by_cases h12:o=oSub;· exact key _ h12 (by kernel_rfl)
 by_cases h13:o=oMul;· exact key _ h13 (by kernel_rfl)
 by_cases h14:o=oDiv;· exact key _ h14 (by kernel_rfl)
 by_cases h15:o=oLess;· exact key _ h15 (by kernel_rfl)
 by_cases h16:o=oAtMost;· exact key _ h16 (by kernel_rfl)
 by_cases h17:o=oMore;· exact key _ h17 (by kernel_rfl)
 by_cases h18:o=oAtLeast;· exact key _ h18 (by kernel_rfl)
 by_cases h19:o=oEq;· exact key _ h19 (by kernel_rfl)
 by_cases h20:o=oNe;· exact key _ h20 (by kernel_rfl)
 by_cases h21:o=oAnd;· exact key _ h21 (by kernel_rfl)
 by_cases h22:o=oOr;· exact key _ h22 (by kernel_rfl)
 by_cases h23:o=oIf;· exact key _ h23 (by kernel_rfl)
 unfold kidsR kidsF
 simp only[h1,h2,h3,h4,h5,h6,h7,h8,h9,h10,h11,h12,h13,h14,h15,h16,h17,h18,h19,h20,h21,h22,h23,if_false,or_self,shp,assoc]
mutual
def szF:Ex→Nat
 | .mk _ _ _ ks=>1+szL ks
def szL:List Ex→Nat
 | []=>0
 | k::ks=>szF k+szL ks
end
mutual
def htF:Ex→Nat
 | .mk _ _ _ ks=>1+htL ks
def htL:List Ex→Nat
 | []=>0
 | k::ks=>max (htF k) (htL ks)
end
theorem szF_eq (e:Ex):szF e=1+szL e.kids:=by cases e;rfl
theorem htF_eq (e:Ex):htF e=1+htL e.kids:=by cases e;rfl
theorem szL_split (ks:List Ex) (i:Nat) (h:i<ks.length):szL (ks.take (i+1))=szL (ks.take i)+szF ks[i]:=by
 rw[List.take_succ_eq_append_getElem h]
 generalize ks.take i=l
 induction l with
 | nil=>simp[szL]
 | cons a l ih=>simp only[List.cons_append,szL,ih];omega
theorem szL_take (ks:List Ex):∀ i,szL (ks.take i)≤szL ks:=by
 induction ks with
 | nil=>intro i;simp[szL]
 | cons k ks ih=>
   intro i
   cases i with
   | zero=>exact Nat.zero_le _
   | succ i=>simp only[List.take_succ_cons,szL];have:=ih i;omega
theorem szF_pos (e:Ex):1≤szF e:=by rw[szF_eq];omega
theorem sizeR_ok (e:Ex):SzE e→∀ m:Nat,m≤1000→PureCall Tryz.prog 195 [encE e,encI m] (encI (min (szF e) (m+1):Nat)):=by
 induction e using ex_ind with
 | h e ih=>
   intro hs m hm
   have ihk:∀ k∈e.kids,∀ m:Nat,m≤1000→PureCall Tryz.prog 195 [encE k,encI m] (encI (min (szF k) (m+1):Nat)):=fun k hk=>ih k hk (hs.kid k hk)
   clear ih
   have hlen:=hs.len
   refine PC [] Tryz.func195 rfl (by rfl) rfl ?_
   have hT:=szL_take e.kids
   have hS:=szL_split e.kids
   rw[szF_eq]
   rw[encE_eq]
   obtain ⟨N,hN⟩:∃ N,szL e.kids=N:=⟨_,rfl⟩
   rw[hN] at hT ⊢
   refine kW ?_
   (refine kS ?_;repeat intro γ)
   refine LoopP.intro (fun k σ H=>∃ g i,k=e.kids.length-i∧i≤e.kids.length ∧
    σ=fr [(1,encI m),(2,.op 2 g 0 0),(5,encI (min (1+szL (e.kids.take i)) (m+1):Nat)),(6,encI i)]∧H=hp [(2,g,⟨42,4,[.agg [encS e.op,encS e.text,encI e.order,.sl 4 (e.kids.map encE)]]⟩)]) ?_ ?_
   ·refine .intro <| W.of ⟨_,_,0,rfl,Nat.zero_le _,rfl,rfl⟩ ⟨rfl,rfl,?_,rfl,trivial⟩ ⟨rfl,trivial⟩
    show AV.val (.int .i64 _)=AV.val (.int .i64 _)
    congr 2
   ·rintro k σ H ⟨g,i,rfl,hi,rfl,rfl⟩
    have hTi:=hT i
    rcases Nat.lt_or_ge i e.kids.length with h1 | h1
    ·have hSi:=hS i h1
     by_cases h2:1+szL (e.kids.take i)≤m
     ·have hk:=ihk e.kids[i] (List.getElem_mem h1) (m-(1+szL (e.kids.take i))) (by omega)
      have hkp:=szF_pos e.kids[i]
      rw[show min (1+szL (e.kids.take i)) (m+1)=1+szL (e.kids.take i) by omega]
      generalize szL (e.kids.take i)=s at *
      have e1:(m:Int)-((1+s:Nat):Int)=((m-(1+s):Nat):Int):=by omega
      refine kW ?_
      (refine kQ ?_;repeat intro γ)
      generalize e.kids[i]=k at *
      rw[encE_eq] at hk ⊢
      (refine kQ ?_;repeat intro γ)
      simp only[e1]
      refine CallP.flat [] _ c195 hk rfl ?_
      refine kW ?_
      (refine kQ ?_;repeat intro γ)
      refine .intro <| W.of ⟨_,by omega,g,i+1,rfl,h1,rfl,rfl⟩ ⟨rfl,rfl,?_,rfl,trivial⟩ ⟨rfl,trivial⟩
      show AV.val (.int .i64 _)=AV.val (.int .i64 _)
      congr 2
      rw[hSi];omega
     ·rw[show min (1+szL (e.kids.take i)) (m+1)=m+1 by omega]
      refine kW ?_
      (refine kQ ?_;repeat intro γ)
      refine .of ?_
      show AV.val (.int .i64 _)=AV.val (.int .i64 _)
      congr 2;omega
    ·obtain rfl:i=e.kids.length:=by omega
     rw[List.take_length,hN]
     refine kW ?_
     (refine kQ ?_;repeat intro γ)
     exact .of rfl
theorem htL_le (ks:List Ex) (d:Nat):d<htL ks↔∃ i,∃ h:i<ks.length,d<htF ks[i]:=by
 induction ks with
 | nil=>simp[htL]
 | cons k ks ih=>
   simp only[htL]
   rw[show d<max (htF k) (htL ks)↔d<htF k∨d<htL ks by omega,ih]
   constructor
   ·rintro (h | ⟨i,h,h'⟩)
    ·exact ⟨0,by simp,h⟩
    ·exact ⟨i+1,by simp;omega,h'⟩
   ·rintro ⟨i,h,h'⟩
    cases i with
    | zero=>exact .inl h'
    | succ i=>exact .inr ⟨i,by simp at h;omega,h'⟩
theorem deepR_ok (e:Ex):SzE e→∀ d:Nat,d≤1000→PureCall Tryz.prog 238 [encE e,encI d] (encB (decide (d<htF e))):=by
 induction e using ex_ind with
 | h e ih=>
   intro hs d hd
   have ihk:∀ k∈e.kids,∀ d:Nat,d≤1000→PureCall Tryz.prog 238 [encE k,encI d] (encB (decide (d<htF k))):=fun k hk=>ih k hk (hs.kid k hk)
   clear ih
   have hlen:=hs.len
   refine PC [] Tryz.func238 rfl (by rfl) rfl ?_
   have hL:=htL_le e.kids (d-1)
   rw[htF_eq]
   rw[encE_eq]
   by_cases h0:d<1
   ·rw[decide_eq_true (by omega)]
    refine kW ?_
    (refine kQ ?_;repeat intro γ)
    exact .of rfl
   rw[show decide (d<1+htL e.kids)=decide (d-1<htL e.kids) from decide_eq_decide.2 (by omega)]
   have e1:(d:Int)-1=((d-1:Nat):Int):=by omega
   refine kW ?_
   (refine kQ ?_;repeat intro γ)
   refine LoopP.intro (fun k σ H=>∃ g i,k=e.kids.length-i∧i≤e.kids.length∧(∀ j (h:j<e.kids.length),j<i→¬ d-1<htF e.kids[j]) ∧
    σ=fr [(1,encI d),(2,.op 2 g 0 0),(5,encI i)]∧H=hp [(2,g,⟨42,4,[.agg [encS e.op,encS e.text,encI e.order,.sl 4 (e.kids.map encE)]]⟩)]) ?_ ?_
   ·exact .intro <| W.of ⟨_,_,0,rfl,Nat.zero_le _,fun j h h'=>absurd h' (by omega),rfl,rfl⟩ ⟨rfl,rfl,rfl,trivial⟩ ⟨rfl,trivial⟩
   ·rintro k σ H ⟨g,i,rfl,hi,hj,rfl,rfl⟩
    rcases Nat.lt_or_ge i e.kids.length with h1 | h1
    ·have hk:=ihk e.kids[i] (List.getElem_mem h1) (d-1) (by omega)
     by_cases h2:d-1<htF e.kids[i]
     ·rw[decide_eq_true h2] at hk
      rw[decide_eq_true (hL.2 ⟨i,h1,h2⟩)]
      clear h2 hj hL
      refine kW ?_
      (refine kQ ?_;repeat intro γ)
      generalize e.kids[i]=k at *
      rw[encE_eq] at hk ⊢
      (refine kQ ?_;repeat intro γ)
      simp only[e1]
      refine CallP.flat [] _ c238 hk rfl ?_
      refine kW ?_
      (refine kQ ?_;repeat intro γ)
      exact .of rfl
     ·rw[decide_eq_false h2] at hk
      have hj':∀ j (h:j<e.kids.length),j<i+1→¬ d-1<htF e.kids[j]:=fun j h h'=>by
       by_cases he:j=i
       ·subst he;exact h2
       ·exact hj j h (by omega)
      clear h2 hj
      refine kW ?_
      (refine kQ ?_;repeat intro γ)
      generalize e.kids[i]=k at hk ⊢
      rw[encE_eq] at hk ⊢
      (refine kQ ?_;repeat intro γ)
      simp only[e1]
      refine CallP.flat [] _ c238 hk rfl ?_
      refine kW ?_
      (refine kQ ?_;repeat intro γ)
      exact .intro <| W.of ⟨_,by omega,g,i+1,rfl,h1,hj',rfl,rfl⟩ ⟨rfl,rfl,rfl,trivial⟩ ⟨rfl,trivial⟩
    ·rw[decide_eq_false (fun e=>by obtain ⟨j,h,h'⟩:=hL.1 e;exact hj j h (by omega) h')]
     refine kW ?_
     (refine kQ ?_;repeat intro γ)
     exact .of rfl
def largeR (e:Ex):Bool:=decide (200<szF e)||decide (24<htF e)
theorem Large_ok (e:Ex) (hs:SzE e):PureCall Tryz.prog 116 [encE e] (encB (largeR e)):=by
 refine PC [] Tryz.func116 rfl (by rfl) rfl ?_
 have h1:=sizeR_ok e hs 200 (by omega)
 have h2:=deepR_ok e hs 24 (by omega)
 generalize hF:largeR e=F
 unfold largeR at hF
 rw[encE_eq] at h1 h2 ⊢
 by_cases h3:200<szF e
 ·rw[show min (szF e) (200+1)=201 by omega] at h1
  rw[decide_eq_true h3] at hF
  refine kW ?_
  (refine kQ ?_;repeat intro γ)
  refine CallP.flat [] _ c195 h1 rfl ?_
  refine kW ?_
  (refine kQ ?_;repeat intro γ)
  exact .of (by rw[← hF];rfl)
 ·rw[show min (szF e) (200+1)=szF e by omega] at h1
  rw[decide_eq_false h3,Bool.false_or] at hF
  refine kW ?_
  (refine kQ ?_;repeat intro γ)
  refine CallP.flat [] _ c195 h1 rfl ?_
  refine kW ?_
  (refine kQ ?_;repeat intro γ)
  refine CallP.flat [] _ c238 h2 rfl ?_
  refine kW ?_
  (refine kQ ?_;repeat intro γ)
  exact .of (by rw[← hF];rfl)
end Go.Proofs.YtlhdoekgipaihaaGreatDoor
namespace Go.Proofs.YtlhdoekgipaihaaGreatDoor
open Go Go.Fw
theorem measF_iff:∀ (d:Nat) (e:Ex) (l:Int),0≤l→(htF e≤d∧(szF e:Int)≤l→measF d e l=l-szF e)∧(¬ (htF e≤d∧(szF e:Int)≤l)→measF d e l<0):=by
 intro d
 induction d with
 | zero=>
   intro e l hl
   have:1≤htF e:=by rw[htF_eq];omega
   exact ⟨fun h=>absurd h.1 (by omega),fun _=>by unfold measF;omega⟩
 | succ d ih=>
   intro e l hl
   have hz:=szF_eq e
   have hh:=htF_eq e
   have key:∀ (ks:List Ex) (l:Int),0≤l→(htL ks≤d∧(szL ks:Int)≤l→kidsL (measF d) ks l=l-szL ks)∧(¬ (htL ks≤d∧(szL ks:Int)≤l)→kidsL (measF d) ks l<0):=by
    intro ks
    induction ks with
    | nil=>intro l hl;exact ⟨fun _=>by simp[kidsL,szL],fun h=>absurd ⟨by simp[htL],by simp[szL];omega⟩ h⟩
    | cons k ks ihk=>
      intro l hl
      obtain ⟨a1,a2⟩:=ih k l hl
      unfold kidsL htL szL
      by_cases hk:htF k≤d∧(szF k:Int)≤l
      ·rw[a1 hk,if_neg (by omega)]
       obtain ⟨b1,b2⟩:=ihk (l-szF k) (by omega)
       exact ⟨fun h=>by rw[b1 ⟨by omega,by omega⟩];omega,fun h=>b2 (fun h'=>h ⟨by omega,by omega⟩)⟩
      ·rw[if_pos (a2 hk)]
       exact ⟨fun h=>absurd ⟨by omega,by omega⟩ hk,fun _=>by omega⟩
   unfold measF
   by_cases h1:l-1<0
   ·rw[if_pos h1]
    exact ⟨fun h=>by omega,fun _=>by omega⟩
   ·rw[if_neg h1]
    obtain ⟨b1,b2⟩:=key e.kids (l-1) (by omega)
    exact ⟨fun h=>by rw[b1 ⟨by omega,by omega⟩];omega,fun h=>b2 (fun h'=>h ⟨by omega,by omega⟩)⟩
theorem large_same (e:Ex):tooF e=largeR e:=by
 obtain ⟨h1,h2⟩:=measF_iff 24 e 200 (by omega)
 unfold tooF largeR
 rw[← Bool.decide_or]
 refine decide_eq_decide.2 ?_
 by_cases h:htF e≤24∧(szF e:Int)≤200
 ·rw[h1 h];omega
 ·have:=h2 h;omega
theorem ofL_data (s:ByteArray):ofL s.data.toList=s:=ofL_self s
end Go.Proofs.YtlhdoekgipaihaaGreatDoor
namespace Go.Proofs.YtlhdoekgipaihaaGreatDoor
open Go Go.Fw
theorem step_pos (l:List UInt8) (n:Int) (d:Nat) (h:readR l=some (n,d)):0<sgn n↔hasP (ofL l) (b1 45)=false∧l≠[48]:=by
 obtain ⟨hk,ht⟩:=readR_text h
 rw[hasP_b1]
 have hs:0<sgn n↔0<n:=by unfold sgn;split<;>(try split)<;>omega
 rw[hs]
 obtain ⟨c,r,hcr,hh⟩:=rT_head n d
 have hz:l=[48]↔n=0:=by
  constructor
  ·intro e
   rw[e] at h
   have h2:readR [48]=some (0,1):=by
    have h3:okR (0,1):=⟨Nat.one_pos,by decide,by decide,decT1⟩
    have h4:=readR_rT 0 1 h3
    have e1:rT 0 1=[48]:=rfl
    rwa [e1] at h4
   rw[h2] at h;cases h;rfl
  ·rintro rfl
   have hd:d=1:=by have:=hk.2.1;simpa using this
   subst hd
   rw[ht];rfl
 have hneg:l.head?=some 45↔n<0:=by
  rw[ht,rT_eq]
  by_cases hn:n<0
  ·rw[if_pos hn];simp[hn]
  ·rw[if_neg hn]
   rw[rT_eq,if_neg hn] at hcr
   rw[hcr]
   simp only[List.map_cons,List.head?_cons,Option.some.injEq,hn,iff_false]
   intro e
   have:=congrArg UInt8.toNat e
   have hc:48≤c∧c≤57:=by
    have hdg:=decT_dg n.natAbs
    have hcn:=decT_canon n.natAbs
    cases hT:decT n.natAbs with
    | nil=>rw[hT] at hcn;simp[canon] at hcn
    | cons a b=>
      rw[hT,List.cons_append] at hcr
      rw[hT,List.all_cons,Bool.and_eq_true] at hdg
      have:=hdg.1
      unfold isDg at this
      simp at this
      rw[← (List.cons.inj hcr).1];exact this
   simp at this
   omega
 rw[show (decide (l.head?=some 45)=false)↔¬ n<0 by rw[decide_eq_false_iff_not,hneg],ne_eq,hz]
 omega
set_option maxHeartbeats 4000000 in
theorem BuiltR_ok (e:Ex):SzE e→TxE e→PureCall Tryz.prog 147 [encE e] (encB (builtF e)):=by
 induction e using ex_ind with
 | h e ih=>
   intro hs ht
   have ihk:∀ k∈e.kids,PureCall Tryz.prog 147 [encE k] (encB (builtF k)):=fun k hk=>ih k hk (hs.kid k hk) (ht.kid k hk)
   have htk:∀ k∈e.kids,TxE k:=ht.kid
   clear ih
   have htx:e.text.size<2^35:=ht.tx
   have hlen:=hs.len
   refine PC [] Tryz.func147 rfl (by rfl) rfl ?_
   have hK:=Kids_ok e.op
   rw[kids_same] at hK
   have hIs:=Is1_ok e.text.data.toList (by exact htx)
   rw[ofL_data,← (parse_read e.text.data.toList).1] at hIs
   have hNm:=IsName_ok e.text (by omega)
   generalize hF:builtF e=F
   rw[builtF_eq] at hF
   unfold textF at hF
   rw[encE_eq]
   clear hs ht
   generalize e.kids=ks at *
   generalize e.op=o at *
   generalize e.text=tx at *
   generalize e.order=od at *
   generalize hKK:kidsF o=K at *
   clear htx
   refine kW ?_
   (refine kO ?_;repeat intro γ)
   refine D0 fun γs=>?_
   refine kW ?_
   (refine kO ?_;repeat intro γ)
   refine CallG.intro _ c258 hK ?_
   by_cases hK0:K<0
   ·rw[decide_eq_false (by omega)] at hF
    refine kW ?_
    (refine kO ?_;repeat intro γ)
    exact .of (by rw[← hF];rfl)
   refine kW ?_
   (refine kO ?_;repeat intro γ)
   refine CallG.intro _ c258 hK ?_
   refine kW ?_
   (refine kO ?_;repeat intro γ)
   simp only[List.length_map]
   by_cases hKl:(ks.length:Int)=K
   case neg=>
    rw[decide_eq_false hKl] at hF
    (refine kO ?_;repeat intro γ)
    exact .of (by rw[← hF];rfl)
   rw[decide_eq_true hKl,Bool.true_and] at hF
   (refine kO ?_;repeat intro γ)
   refine LoopP.intro (fun k σ H=>∃ g i,k=ks.length-i∧i≤ks.length∧(∀ j (h:j<ks.length),j<i→builtF ks[j]=true) ∧
    σ=fr [(1,.op 1 g 0 0),(3,encI i)]∧H=hp [(1,g,⟨42,4,[.agg [encS o,encS tx,encI od,.sl 4 (ks.map encE)]]⟩)]) ?_ ?_
   ·exact .intro <| W.of ⟨_,_,0,rfl,Nat.zero_le _,fun j h h'=>absurd h' (by omega),rfl,rfl⟩ ⟨rfl,rfl,trivial⟩ ⟨rfl,trivial⟩
   ·rintro k σ H ⟨g,i,rfl,hi,hj,rfl,rfl⟩
    rcases Nat.lt_or_ge i ks.length with h1 | h1
    ·have hk:=ihk ks[i] (List.getElem_mem h1)
     cases hb:builtF ks[i] with
     | false=>
       rw[hb] at hk
       have hall:ks.all builtF=false:=by
        rw[List.all_eq_false]
        exact ⟨ks[i],List.getElem_mem h1,by rw[hb];decide⟩
       rw[hall,Bool.and_false] at hF
       clear hb hj
       refine kW ?_
       (refine kQ ?_;repeat intro γ)
       generalize ks[i]=k at hk ⊢
       rw[encE_eq] at hk ⊢
       (refine kQ ?_;repeat intro γ)
       refine CallP.flat [] _ c147 hk rfl ?_
       refine kW ?_
       (refine kQ ?_;repeat intro γ)
       exact .of (by rw[← hF];rfl)
     | true=>
       rw[hb] at hk
       have hj':∀ j (h:j<ks.length),j<i+1→builtF ks[j]=true:=fun j h h'=>by
        by_cases he:j=i
        ·subst he;exact hb
        ·exact hj j h (by omega)
       clear hb hj
       refine kW ?_
       (refine kQ ?_;repeat intro γ)
       generalize ks[i]=k at hk ⊢
       rw[encE_eq] at hk ⊢
       (refine kQ ?_;repeat intro γ)
       refine CallP.flat [] _ c147 hk rfl ?_
       refine kW ?_
       (refine kQ ?_;repeat intro γ)
       exact .intro <| W.of ⟨_,by omega,g,i+1,rfl,h1,hj',rfl,rfl⟩ ⟨rfl,rfl,trivial⟩ ⟨rfl,trivial⟩
    obtain rfl:i=ks.length:=by omega
    have hall:ks.all builtF=true:=by
     rw[List.all_eq_true]
     intro x hx
     obtain ⟨j,hj',rfl⟩:=List.mem_iff_getElem.1 hx
     exact hj j hj' hj'
    rw[hall,Bool.and_true] at hF
    refine kW ?_
    (refine kQ ?_;repeat intro γ)
    refine CondP.dec (fun h2=>?_) (fun h2=>?_)<;>refine kW ?_
    ·
     rw[if_pos h2,show sampF o ks (ks.map builtF)=false by unfold sampF;rw[h2];rfl,Bool.not_false,Bool.and_true] at hF
     (refine kQ ?_;repeat intro γ)
     refine CallP.flat [] _ c164 hIs rfl ?_
     generalize (parseQ tx.data.toList).2=b at hF
     cases b
     ·refine kW ?_
      (refine kQ ?_;repeat intro γ)
      exact .of (by rw[← hF];rfl)
     ·refine kW ?_
      (refine kQ ?_;repeat intro γ)
      exact .of (by rw[← hF];rfl)
    rw[if_neg h2] at hF
    (refine kQ ?_;repeat intro γ)
    refine CondP.dec (fun h3=>?_) (fun h3=>?_)<;>refine kW ?_
    ·rw[if_pos h3,show sampF o ks (ks.map builtF)=false by unfold sampF;rw[h3];rfl,Bool.not_false,Bool.and_true] at hF
     (refine kQ ?_;repeat intro γ)
     refine CallP.flat [] _ c124 hNm rfl ?_
     generalize nameF tx=b at hF
     cases b
     ·refine kW ?_
      (refine kQ ?_;repeat intro γ)
      exact .of (by rw[← hF];rfl)
     ·rw[Bool.true_and] at hF
      refine kW ?_
      (refine kQ ?_;repeat intro γ)
      refine CondP.dec (fun h4=>?_) (fun h4=>?_)<;>refine kW ?_
      ·rw[decide_eq_true h4,Bool.true_and] at hF
       (refine kQ ?_;repeat intro γ)
       exact .of (by rw[← hF];rfl)
      ·rw[decide_eq_false h4,Bool.false_and] at hF
       (refine kQ ?_;repeat intro γ)
       exact .of (by rw[← hF];rfl)
    rw[if_neg h3] at hF
    (refine kQ ?_;repeat intro γ)
    refine CondP.dec (fun h4=>?_) (fun h4=>?_)<;>refine kW ?_
    ·rw[if_pos h4,show sampF o ks (ks.map builtF)=false by unfold sampF;rw[h4];rfl,Bool.not_false,Bool.and_true] at hF
     (refine kQ ?_;repeat intro γ)
     refine CallP.flat [] _ c124 hNm rfl ?_
     generalize nameF tx=b at hF
     cases b
     ·refine kW ?_
      (refine kQ ?_;repeat intro γ)
      exact .of (by rw[← hF];rfl)
     ·rw[Bool.true_and] at hF
      refine kW ?_
      (refine kQ ?_;repeat intro γ)
      exact .of (by rw[← hF];rfl)
    rw[if_neg h4] at hF
    (refine kQ ?_;repeat intro γ)
    refine CondP.dec (fun h5=>?_) (fun h5=>?_)<;>refine kW ?_
    case' refine_2=>
     rw[show sampF o ks (ks.map builtF)=false by unfold sampF;rw[decide_eq_false h5];rfl,Bool.not_false,Bool.and_true] at hF
     (refine kQ ?_;repeat intro γ)
     refine CondP.dec (fun h6=>?_) (fun h6=>?_)<;>refine kW ?_
     ·rw[decide_eq_true h6,Bool.true_and] at hF
      (refine kQ ?_;repeat intro γ)
      exact .of (by rw[← hF];rfl)
     ·rw[decide_eq_false h6,Bool.false_and] at hF
      (refine kQ ?_;repeat intro γ)
      exact .of (by rw[← hF];rfl)
    obtain ⟨k0,k1,rfl⟩:∃ k0 k1,ks=[k0,k1]:=by
     have h2':o=oSample:=h5
     have:kidsF oSample=2:=by rfl
     rw[← hKK,h2',this] at hKl
     match ks,hKl with
     | [a,b],_=>exact ⟨a,b,rfl⟩
     | [],h=>simp at h
     | [_],h=>simp at h
     | _::_::_::_,h=>simp at h;omega
    have hb1:builtF k1=true:=hj 1 (by simp) (by simp)
    have hsm:sampF o [k0,k1] ([k0,k1].map builtF)=(!decide (k0.op=oNum)||!decide (k1.op=oNum)||!builtF k1||hasP k1.text (b1 45)||decide (k1.text=⟨#[48]⟩)):=by
     unfold sampF;rw[decide_eq_true h5];rfl
    rw[hsm,hb1,Bool.not_true,Bool.or_false] at hF
    have ht1:k1.text.size<2^35:=(htk k1 (by simp)).tx
    have hsl:List.map encE [k0,k1]=[.agg [encS k0.op,encS k0.text,encI k0.order,.sl 4 (k0.kids.map encE)],.agg [encS k1.op,encS k1.text,encI k1.order,.sl 4 (k1.kids.map encE)]]:=by
     rw[← encE_eq,← encE_eq];rfl
    have hrd:=Read_ok k1.text.data.toList (by exact ht1)
    rw[ofL_data] at hrd
    have hbt:=builtF_eq k1
    have hpr:=(parse_read k1.text.data.toList).1
    have hsp:=step_pos k1.text.data.toList
    rw[ofL_data] at hsp
    have h48:k1.text.data.toList=[48]↔k1.text=⟨#[48]⟩:=by
     have:(⟨#[48]⟩:ByteArray)=ofL [48]:=rfl
     rw[this,← ofL_inj,ofL_data]
    rw[hb1] at hbt
    clear ihk htk hj hall hKl hlen hIs hNm hK hb1 hsm
    rw[hsl]
    by_cases h6:k0.op=oNum
    case neg=>
     rw[decide_eq_false h6,Bool.not_false,Bool.true_or,Bool.true_or,Bool.true_or,Bool.not_true,Bool.and_false] at hF
     (refine kQ ?_;repeat intro γ)
     exact .of (by rw[← hF];rfl)
    by_cases h7:k1.op=oNum
    case neg=>
     rw[decide_eq_false h7,Bool.not_false,Bool.or_true,Bool.true_or,Bool.true_or,Bool.not_true,Bool.and_false] at hF
     (refine kQ ?_;repeat intro γ)
     exact .of (by rw[← hF];rfl)
    rw[decide_eq_true h6,decide_eq_true h7,Bool.not_true,Bool.false_or,Bool.false_or] at hF
    have hp2:(parseQ k1.text.data.toList).2=true:=by
     have h8:textF k1=true:=by
      simp only[Bool.true_eq,Bool.and_eq_true] at hbt
      exact hbt.1.1.2
     unfold textF at h8
     rw[if_pos h7,Bool.and_eq_true] at h8
     exact h8.1
    rw[hp2] at hpr
    cases hro:readR k1.text.data.toList with
    | none=>rw[hro] at hpr;cases hpr
    | some x=>
      obtain ⟨n,d⟩:=x
      have hs:=hsp n d hro
      rw[hro,Option.isSome_some] at hrd
      have hsg:=SignR_ok n d
      rw[ne_eq,h48] at hs
      unfold encRd at hrd
      simp only at hrd
      unfold encR at hrd hsg
      generalize sgn n=sg at hs hsg
      clear hro hp2 hpr hbt hsp h48 ht1
      (refine kQ ?_;repeat intro γ)
      refine CallP.pure [] _ c204 hrd ?_
      refine kW ?_
      (refine kQ ?_;repeat intro γ)
      refine CondP.dec (fun h8=>?_) (fun h8=>?_)<;>refine kW ?_
      case' refine_2=>
       rw[decide_eq_false h8,Bool.false_and,Bool.false_and] at hF
       (refine kQ ?_;repeat intro γ)
       exact .of (by rw[← hF];rfl)
      rw[decide_eq_true h8,Bool.true_and] at hF
      (refine kQ ?_;repeat intro γ)
      refine CondP.dec (fun h9=>?_) (fun h9=>?_)<;>refine kW ?_
      case' refine_2=>
       rw[decide_eq_false h9,Bool.false_and] at hF
       (refine kQ ?_;repeat intro γ)
       exact .of (by rw[← hF];rfl)
      rw[decide_eq_true h9,Bool.true_and] at hF
      (refine kQ ?_;repeat intro γ)
      refine CallP.flat [] _ c259 hsg rfl ?_
      refine kW ?_
      (refine kQ ?_;repeat intro γ)
      refine .of ?_
      rw[← hF]
      show AV.val (.bool (decide _))=AV.val (.bool _)
      congr 2
      rw[Bool.eq_iff_iff]
      simp only[decide_eq_true_eq,Bool.not_eq_true',Bool.or_eq_false_iff,decide_eq_false_iff_not]
      exact hs
end Go.Proofs.YtlhdoekgipaihaaGreatDoor
namespace Go.Proofs.YtlhdoekgipaihaaGreatDoor
open Go Go.Fw
def encIs (l:List Int):AV:=.sl 1 (l.map encI)
def allI (l:List Int) (t:Int):Bool:=l.all fun x=>decide (x=t)
theorem ownI {b p e n:Nat} {H:Hp} {out:List Int} (hb:H b=some (p,⟨e,1,out.map encI⟩)) (hn:n=out.length):snap [b] H (.own b p 0 n)=encIs out:=by
 rw[snap_own (by simp) hb (by simp[hn]),snap_list _ _ _ _ hn fun _=>rfl];rfl
def varT (vs:List Va) (tx:ByteArray) (od:Int):Int×Bool:=match vs.find? fun v=>decide (v.name=tx) with
 | none=>(0,false)
 | some v=>(v.type,decide (od=0)||decide (v.kind=0)||decide (v.kind=3))
def typH (vs:List Va) (o tx:ByteArray) (od:Int) (rs:List Int):Int×Bool:=
 if o=oNum then (0,true) else if o=oTime then (0,true) else if o=oTrue then (1,true) else if o=oFalse then (1,true) else if o=oInit then (1,true) else if o=oSample then (1,true)
 else if o=oVar then varT vs tx od else if o=oPre then varT vs tx od
 else if o=oNeg then (0,allI rs 0) else if o=oAdd then (0,allI rs 0) else if o=oSub then (0,allI rs 0) else if o=oMul then (0,allI rs 0) else if o=oDiv then (0,allI rs 0)
 else if o=oLess then (1,allI rs 0) else if o=oAtMost then (1,allI rs 0) else if o=oMore then (1,allI rs 0) else if o=oAtLeast then (1,allI rs 0)
 else if o=oAnd then (1,allI rs 1) else if o=oOr then (1,allI rs 1) else if o=oNot then (1,allI rs 1)
 else if o=oEq then (1,decide (rs.getD 0 0=rs.getD 1 0)) else if o=oNe then (1,decide (rs.getD 0 0=rs.getD 1 0))
 else (rs.getD 1 0,decide (rs.getD 0 0=1)&&decide (rs.getD 1 0=rs.getD 2 0))
mutual
def typR (vs:List Va):Ex→Int×Bool
 | .mk o t n ks=>match typL vs ks with
   | none=>(0,false)
   | some rs=>typH vs o t n rs
def typL (vs:List Va):List Ex→Option (List Int)
 | []=>some []
 | k::ks=>if (typR vs k).2 then (typL vs ks).map ((typR vs k).1::·) else none
end
theorem typR_eq (vs:List Va) (e:Ex):typR vs e=match typL vs e.kids with
 | none=>(0,false)
 | some rs=>typH vs e.op e.text e.order rs:=by cases e;rfl
theorem kidsF_le (o:ByteArray):kidsF o≤3:=by
 rw[← kids_same]
 unfold kidsR
 repeat (split;omega)
 omega
end Go.Proofs.YtlhdoekgipaihaaGreatDoor
namespace Go.Proofs.YtlhdoekgipaihaaGreatDoor
open Go Go.Fw
def isR (vs:List Va) (e:Ex) (t:Int):Bool:=builtF e&&(typR vs e).2&&decide ((typR vs e).1=t)
def memR (A:List ByteArray) (s:ByteArray):Bool:=A.any fun x=>decide (x=s)
end Go.Proofs.YtlhdoekgipaihaaGreatDoor
namespace Go.Proofs.YtlhdoekgipaihaaGreatDoor
open Go Go.Fw
def eqsR (vs:List Va) (l:List Eqn):Bool:=l.all fun q=>isR vs q.left 0&&isR vs q.right 0
theorem take_snoc {α:Type} (l:List α) (i:Nat) (h:i<l.length):l.take i++[l[i]]=l.take (i+1):=(List.take_succ_eq_append_getElem h).symm
end Go.Proofs.YtlhdoekgipaihaaGreatDoor
namespace Go.Proofs.YtlhdoekgipaihaaGreatDoor
open Go Go.Fw
def actsR (vs:List Va):List Ac→List ByteArray→List ByteArray→Option (List ByteArray)
 | [],_,A=>some A
 | a :: r,S,A=>match vs.find? (fun v=>decide (v.name=a.var)) with
   | none=>none
   | some v=>if !isR vs a.value v.type then none
     else if a.kind=0 then (if !decide (v.kind=1)||memR A a.var then none else actsR vs r S (A++[a.var]))
     else if a.kind=1 then (if !decide (v.kind=0)||memR S a.var then none else actsR vs r (S++[a.var]) A)
     else none
def whenR (vs:List Va) (w:Whn) (A:List ByteArray):Option (List ByteArray):=if !isR vs w.cond 1||decide (w.acts.length=0) then none else actsR vs w.acts [] A
end Go.Proofs.YtlhdoekgipaihaaGreatDoor
namespace Go.Proofs.YtlhdoekgipaihaaGreatDoor
open Go Go.Fw
def whensR (vs:List Va):List Whn→List ByteArray→Bool
 | [],_=>true
 | w::r,A=>match whenR vs w A with
   | none=>false
   | some B=>whensR vs r B
def validR (s:Sys):Bool:=
 (risG (s.vars.map Va.name) none&&risG (s.eqs.map Eqn.name) none&&risG (s.inits.map Eqn.name) none&&risG (s.whens.map Whn.name) none)
   && (s.vars.all fun v=>nameF v.name&&varF v)&&(eqsR s.vars s.eqs&&eqsR s.vars s.inits)&&whensR s.vars s.whens []
def checkR (s:Sys):Int:=if largeF s then 2 else if validR s then 0 else 1
end Go.Proofs.YtlhdoekgipaihaaGreatDoor
