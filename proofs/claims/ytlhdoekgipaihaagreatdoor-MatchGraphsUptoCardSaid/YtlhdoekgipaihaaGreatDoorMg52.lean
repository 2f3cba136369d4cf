/- Part 52 of the proof: abstract values and their rules; walks of the functions; plain lemmas. -/
import Derived.Test.YtlhdoekgipaihaaGreatDoorMg51
set_option linter.unusedVariables false
set_option linter.unusedSimpArgs false
set_option linter.unusedSectionVars false
set_option maxRecDepth 100000
set_option exponentiation.threshold 400
namespace Go.Proofs.YtlhdoekgipaihaaGreatDoor
open Go Go.Fw
def sides (l:List Eqn):List Ex:=l.flatMap fun q=>[q.left,q.right]
def whenE (w:Whn):List Ex:=w.cond::w.acts.map (·.value)
def allF (s:Sys):List Ex:=sides s.eqs++sides s.inits++s.whens.flatMap whenE
theorem sides_len (l:List Eqn):(sides l).length=2*l.length:=by
 induction l with
 | nil=>rfl
 | cons q l ih=>unfold sides at *;rw[List.flatMap_cons,List.length_append,ih];simp;omega
theorem sides_snoc (l:List Eqn) (q:Eqn):sides (l++[q])=sides l++[q.left,q.right]:=by unfold sides;rw[List.flatMap_append];simp
theorem when_len (l:List Whn) (h:∀ w∈l,w.acts.length≤20):(l.flatMap whenE).length≤21*l.length:=by
 induction l with
 | nil=>simp
 | cons w l ih=>
   have h1:=h w (by simp)
   have h2:=ih fun x hx=>h x (by simp[hx])
   rw[List.flatMap_cons,List.length_append]
   unfold whenE at *
   simp at *
   omega
set_option maxHeartbeats 1000000 in
theorem all_ok (s:Sys) (h1:s.eqs.length≤120) (h2:s.inits.length≤120) (h3:s.whens.length≤120) (h4:∀ w∈s.whens,w.acts.length≤20):PureCall Tryz.prog 181 [encSy s] (.sl 4 ((allF s).map encE)):=by
 refine PC [100] Tryz.func181 rfl (by rfl) rfl ?_
 obtain ⟨vars,eqs,inits,whens⟩:=s
 simp only at h1 h2 h3 h4
 unfold encSy
 refine kW ?_
 (refine kS ?_;repeat intro γ)
 refine LoopP.intro (fun k σ H=>∃ g1 g16 g3 i,∃ out:List Ex,k=2-i∧i≤2∧out=sides (([eqs,inits].take i).flatten) ∧
  σ=fr [(1,.op 1 g1 0 0),(2,.val (.slice none 0 0)),(3,.own 100 g3 0 out.length),(16,.own 16 g16 0 2),(17,encI 2),(18,encI i)] ∧
  H=hp [(1,g1,⟨26,4,[encSy ⟨vars,eqs,inits,whens⟩]⟩),(16,g16,⟨23,1,[eqs,inits].map fun l=>.sl 9 (l.map encQn)⟩),(100,g3,⟨42,4,out.map encE⟩)]) ?_ ?_
 ·exact .intro (W.mat 3 100 42 4 rfl rfl fun g=>W.of ⟨_,_,_,g,0,[],rfl,by omega,rfl,rfl,rfl⟩ ⟨rfl,rfl,rfl,rfl,rfl,rfl,trivial⟩ ⟨rfl,rfl,rfl,trivial⟩)
 ·rintro k σ H ⟨g1,g16,g3,i,out,rfl,hi,hout,rfl,rfl⟩
  refine kW ?_
  (refine kS ?_;repeat intro γ)
  refine CondP.dec (fun h=>?_) (fun h=>?_)<;>refine kW ?_
  ·have hi':i<[eqs,inits].length:=by simp;omega
   have hl:([eqs,inits][i]).length≤120:=by
    match i,hi' with
    | 0,_=>exact h1
    | 1,_=>exact h2
   have hout2:sides (([eqs,inits].take (i+1)).flatten)=out++sides [eqs,inits][i]:=by
    rw[List.take_succ_eq_append_getElem hi',List.flatten_append,hout]
    unfold sides
    rw[List.flatMap_append];simp
   have hol:out.length≤480:=by
    rw[hout,sides_len,List.length_flatten]
    rcases i with _ | _ | i
    ·simp
    ·simp;omega
    ·omega
   (refine kR ?_;repeat intro γ)
   generalize [eqs,inits][i]=l at hl hout2 ⊢
   refine LoopP.intro (fun k σ H=>∃ g3 j,∃ out':List Ex,k=l.length-j∧j≤l.length∧out'=out++sides (l.take j) ∧
    σ=fr [(1,.op 1 g1 0 0),(2,.val (.slice none 0 0)),(3,.own 100 g3 0 out'.length),(16,.own 16 g16 0 2),(17,encI 2),(18,encI i),(22,.sl 9 (l.map encQn)),(23,encI l.length),(24,encI j)] ∧
    H=hp [(1,g1,⟨26,4,[encSy ⟨vars,eqs,inits,whens⟩]⟩),(16,g16,⟨23,1,[eqs,inits].map fun l=>.sl 9 (l.map encQn)⟩),(100,g3,⟨42,4,out'.map encE⟩)]) ?_ ?_
   ·exact .intro <| W.of ⟨_,_,0,out,rfl,Nat.zero_le _,by simp[sides],rfl,rfl⟩ ⟨rfl,rfl,rfl,rfl,rfl,rfl,rfl,rfl,rfl,trivial⟩ ⟨rfl,rfl,rfl,trivial⟩
   ·rintro k σ H ⟨g3,j,out',rfl,hj,ho',rfl,rfl⟩
    refine kW ?_
    (refine kS ?_;repeat intro γ)
    refine CondP.dec (fun h=>?_) (fun h=>?_)<;>refine kW ?_
    ·have hj':j<l.length:=by omega
     have hs:=sides_snoc (l.take j) l[j]
     rw[← List.take_succ_eq_append_getElem hj'] at hs
     have hol':out'.length≤800:=by
      rw[ho',List.length_append,sides_len,List.length_take];omega
     (refine kR ?_;repeat intro γ)
     generalize l[j]=q at hs ⊢
     (refine kR ?_;repeat intro γ)
     refine .intro <| W.of ⟨_,by omega,γ,j+1,out'++[q.left,q.right],rfl,hj',by rw[ho',hs,List.append_assoc],rfl,rfl⟩ ⟨rfl,rfl,?_,rfl,rfl,rfl,rfl,rfl,rfl,trivial⟩ ⟨rfl,rfl,?_,trivial⟩
     ·exact congrArg (AV.own 100 γ 0) (by simp)
     ·show some (_,(⟨_,_,out'.map encE++[.agg (cellsE q.left),.agg (cellsE q.right)]⟩:Blk))=_
      rw[← encE_cells,← encE_cells,List.map_append];rfl
    ·have hje:j=l.length:=by omega
     rw[hje,List.take_length,← hout2] at ho'
     (refine kS ?_;repeat intro γ)
     exact .intro <| W.of ⟨_,by omega,_,_,_,i+1,out',rfl,by omega,ho',rfl,rfl⟩ ⟨rfl,rfl,rfl,rfl,rfl,rfl,trivial⟩ ⟨rfl,rfl,rfl,trivial⟩
  ·have hie:i=2:=by omega
   rw[hie] at hout
   have hout0:out=sides eqs++sides inits:=by rw[hout];simp[sides]
   have hol:out.length≤480:=by rw[hout0,List.length_append,sides_len,sides_len];omega
   (refine kS ?_;repeat intro γ)
   refine LoopP.intro (fun k σ H=>∃ g3 i,∃ out':List Ex,k=whens.length-i∧i≤whens.length∧out'=out++(whens.take i).flatMap whenE ∧
    σ=fr [(2,.val (.slice none 0 0)),(3,.own 100 g3 0 out'.length),(38,.sl 6 (whens.map encWn)),(39,encI whens.length),(40,encI i)] ∧
    H=hp [(100,g3,⟨42,4,out'.map encE⟩)]) ?_ ?_
   ·refine .intro <| W.of ⟨_,_,0,out,rfl,Nat.zero_le _,by simp,rfl,rfl⟩ ⟨rfl,rfl,rfl,?_,rfl,trivial⟩ ⟨rfl,trivial⟩
    show AV.val (.int .i64 _)=AV.val (.int .i64 _)
    rw[List.length_map]
   ·clear hout g3
    rintro k σ H ⟨g3,i,out',rfl,hi,ho',rfl,rfl⟩
    refine kW ?_
    (refine kS ?_;repeat intro γ)
    refine CondP.dec (fun h=>?_) (fun h=>?_)<;>refine kW ?_
    ·have hi':i<whens.length:=by omega
     have ha:=h4 whens[i] (List.getElem_mem hi')
     have hol':out'.length≤480+21*120:=by
      have:=when_len (whens.take i) fun w hw=>h4 w (List.mem_of_mem_take hw)
      rw[List.length_take] at this
      rw[ho',List.length_append];omega
     have ho2:out++(whens.take (i+1)).flatMap whenE=out'++whenE whens[i]:=by
      rw[List.take_succ_eq_append_getElem hi',List.flatMap_append,ho'];simp
     (refine kR ?_;repeat intro γ)
     generalize whens[i]=w at ha ho2 ⊢
     (refine kR ?_;repeat intro γ)
     refine LoopP.intro (fun k σ H=>∃ g3 j,∃ o3:List Ex,k=w.acts.length-j∧j≤w.acts.length∧o3=out'++w.cond::(w.acts.take j).map (·.value) ∧
      σ=fr [(2,.val (.slice none 0 0)),(3,.own 100 g3 0 o3.length),(38,.sl 6 (whens.map encWn)),(39,encI whens.length),(40,encI i),(50,.sl 6 (w.acts.map encAc)),(51,encI w.acts.length),(52,encI j)] ∧
      H=hp [(100,g3,⟨42,4,o3.map encE⟩)]) ?_ ?_
     ·refine .intro <| W.of ⟨_,γ,0,out'++[w.cond],rfl,Nat.zero_le _,by simp,rfl,rfl⟩ ⟨rfl,?_,rfl,rfl,rfl,rfl,rfl,rfl,trivial⟩ ⟨?_,trivial⟩
      ·exact congrArg (AV.own 100 γ 0) (by simp)
      ·show some (_,(⟨_,_,out'.map encE++[.agg (cellsE w.cond)]⟩:Blk))=_
       rw[← encE_cells,List.map_append];rfl
     ·rintro k σ H ⟨g3,j,o3,rfl,hj,ho3,rfl,rfl⟩
      have hol3:o3.length≤480+21*120+21:=by
       rw[ho3,List.length_append,List.length_cons,List.length_map,List.length_take];omega
      refine kW ?_
      (refine kS ?_;repeat intro γ)
      refine CondP.dec (fun h=>?_) (fun h=>?_)<;>refine kW ?_
      ·have hj':j<w.acts.length:=by omega
       have ho4:out'++w.cond::(w.acts.take (j+1)).map (·.value)=o3++[w.acts[j].value]:=by
        rw[List.take_succ_eq_append_getElem hj',List.map_append,ho3];simp
       (refine kR ?_;repeat intro γ)
       generalize w.acts[j]=a at ho4 ⊢
       (refine kR ?_;repeat intro γ)
       refine .intro <| W.of ⟨_,by omega,γ,j+1,o3++[a.value],rfl,hj',ho4.symm,rfl,rfl⟩ ⟨rfl,?_,rfl,rfl,rfl,rfl,rfl,rfl,trivial⟩ ⟨?_,trivial⟩
       ·exact congrArg (AV.own 100 γ 0) (by simp)
       ·show some (_,(⟨_,_,o3.map encE++[.agg (cellsE a.value)]⟩:Blk))=_
        rw[← encE_cells,List.map_append];rfl
      ·rw[show j=w.acts.length by omega,List.take_length] at ho3
       (refine kS ?_;repeat intro γ)
       exact .intro <| W.of ⟨_,by omega,_,i+1,o3,rfl,hi',by rw[ho3,ho2];rfl,rfl,rfl⟩ ⟨rfl,rfl,rfl,rfl,rfl,trivial⟩ ⟨rfl,trivial⟩
    ·rw[show i=whens.length by omega,List.take_length] at ho'
     (refine kS ?_;repeat intro γ)
     refine .of ?_
     have e:allF ⟨vars,eqs,inits,whens⟩=out':=by rw[ho',hout0];rfl
     rw[e]
     show AV.sl 4 ((((out'.map encE).drop 0).take out'.length).map _)=_
     rw[List.drop_zero,List.take_of_length_le (by simp),List.map_map]
     congr 1
     refine List.map_congr_left fun x _=>?_
     show snapEl _ (encE x)=encE x
     rw[encE_cells];rfl
end Go.Proofs.YtlhdoekgipaihaaGreatDoor
namespace Go.Proofs.YtlhdoekgipaihaaGreatDoor
open Go Go.Fw
def nodesL:List Ex→Int→Bool
 | [],l=>decide (l<0)
 | e::r,l=>tooF e||nodesL r (l-sizeF e)
def largeF (s:Sys):Bool:=decide (120<s.vars.length)||decide (120<max (max s.eqs.length s.inits.length) s.whens.length)||s.whens.any (fun w=>decide (20<w.acts.length))||nodesL (allF s) 4000
structure SzS (s:Sys):Prop where
 v:s.vars.length≤2^60
 q:s.eqs.length≤2^60
 n:s.inits.length≤2^60
 w:s.whens.length≤2^60
 a:∀ w∈s.whens,w.acts.length≤2^60
 e:∀ e∈allF s,SzE e∧TxE e
 t:∀ v∈s.vars,v.name.size<2^35∧v.value.size<2^35∧v.start.size<2^35∧v.unit.size<2^35
 m:(∀ q∈s.eqs,q.name.size<2^35)∧(∀ q∈s.inits,q.name.size<2^35)∧∀ w∈s.whens,w.name.size<2^35
set_option maxHeartbeats 1000000 in
theorem large_ok (s:Sys) (hs:SzS s):PureCall Tryz.prog 93 [encSy s] (encB (largeF s)):=by
 refine PC [] Tryz.func93 rfl (by rfl) rfl ?_
 have hW:=containsW_ok 180 (fun w=>decide (20<w.acts.length)) s.whens hs.w c180 fun w _=>largeC_ok w
 have hA:=all_ok s
 have hv:=hs.v
 have hq:=hs.q
 have hn:=hs.n
 have hw:=hs.w
 have he:=hs.e
 generalize hF:largeF s=F
 unfold largeF at hF
 generalize hall:allF s=es at *
 have hany:(s.whens.any fun w=>decide (20<w.acts.length))=false→∀ w∈s.whens,w.acts.length≤20:=by
  intro h w hw
  have:=List.any_eq_false.1 h w hw
  simp at this
  exact this
 clear hs
 unfold encSy at hA ⊢
 refine kW ?_
 (refine kS ?_;repeat intro γ)
 rw[List.length_map]
 refine CondP.dec (fun h=>?_) (fun h=>?_)<;>refine kW ?_
 ·rw[decide_eq_true (by omega),Bool.true_or,Bool.true_or,Bool.true_or] at hF
  (refine kS ?_;repeat intro γ)
  exact .of (by rw[← hF];rfl)
 rw[decide_eq_false (by omega),Bool.false_or] at hF
 (refine kS ?_;repeat intro γ)
 simp only[List.length_map]
 refine CondP.dec (fun h=>?_) (fun h=>?_)<;>refine kW ?_
 ·rw[decide_eq_true (by omega),Bool.true_or,Bool.true_or] at hF
  (refine kS ?_;repeat intro γ)
  exact .of (by rw[← hF];rfl)
 rw[decide_eq_false (by omega),Bool.false_or] at hF
 (refine kS ?_;repeat intro γ)
 refine CallP.flat [] _ c179 hW rfl ?_
 refine kW ?_
 (refine kS ?_;repeat intro γ)
 refine CondP.intro (fun h2=>?_) (fun h2=>?_)<;>refine kW ?_
 ·rw[h2,Bool.true_or] at hF
  (refine kS ?_;repeat intro γ)
  exact .of (by rw[← hF];rfl)
 rw[h2,Bool.false_or] at hF
 have hA:=hA (by omega) (by omega) (by omega) (hany h2)
 have hlen:es.length≤4000:=by
  have:=when_len s.whens (hany h2)
  rw[← hall]
  unfold allF
  rw[List.length_append,List.length_append,sides_len,sides_len];omega
 (refine kS ?_;repeat intro γ)
 refine CallP.pure [] _ c181 hA ?_
 refine kW ?_
 (refine kS ?_;repeat intro γ)
 refine LoopP.intro (fun k σ H=>∃ i,∃ l:Int,k=es.length-i∧i≤es.length∧l≤4000∧4000-201*i≤l∧nodesL (es.drop i) l=F ∧
  σ=fr [(2,encB false),(3,encI l),(27,.sl 4 (es.map encE)),(28,encI es.length),(29,encI i)]∧H=hp []) ?_ ?_
 ·refine .intro <| W.of ⟨_,0,4000,rfl,Nat.zero_le _,by omega,by omega,hF,rfl,rfl⟩ ⟨rfl,rfl,rfl,?_,rfl,trivial⟩ trivial
  show AV.val (.int .i64 _)=AV.val (.int .i64 _)
  rw[List.length_map]
 ·clear hF
  rintro k σ H ⟨i,l,rfl,hi,hl1,hl2,hF,rfl,rfl⟩
  refine kW ?_
  (refine kS ?_;repeat intro γ)
  refine CondP.dec (fun h=>?_) (fun h=>?_)<;>refine kW ?_
  ·have hi':i<es.length:=by omega
   rw[List.drop_eq_getElem_cons hi'] at hF
   unfold nodesL at hF
   have hz:=he es[i] (List.getElem_mem hi')
   (refine kR ?_;repeat intro γ)
   generalize es[i]=e at hF hz ⊢
   have ht:=TooLarge_ok e hz.1
   have hsz:=Size_ok e hz.1
   have hge:=measF_ge 24 e 200 (by omega)
   have hle:=measF_le 24 e 200
   have hdef:sizeF e=200-measF 24 e 200:=rfl
   rw[encE_eq] at ht hsz ⊢
   (refine kR ?_;repeat intro γ)
   refine CallP.flat [] _ c110 ht rfl ?_
   refine kW ?_
   (refine kS ?_;repeat intro γ)
   refine CondP.intro (fun h3=>?_) (fun h3=>?_)<;>refine kW ?_
   ·rw[h3,Bool.true_or] at hF
    (refine kS ?_;repeat intro γ)
    exact .of (by rw[← hF];rfl)
   rw[h3,Bool.false_or] at hF
   (refine kS ?_;repeat intro γ)
   refine CallP.flat [] _ c182 hsz rfl ?_
   generalize sizeF e=z at hF hdef
   refine kW ?_
   (refine kS ?_;repeat intro γ)
   exact .intro <| W.of ⟨_,by omega,i+1,l-z,rfl,hi',by omega,by omega,hF,rfl,rfl⟩ ⟨rfl,rfl,rfl,rfl,rfl,trivial⟩ trivial
  ·rw[List.drop_eq_nil_of_le (by omega)] at hF
   (refine kS ?_;repeat intro γ)
   exact .of (by rw[← hF];rfl)
end Go.Proofs.YtlhdoekgipaihaaGreatDoor
namespace Go.Proofs.YtlhdoekgipaihaaGreatDoor
open Go Go.Fw
def risG:List ByteArray→Option ByteArray→Bool
 | [],_=>true
 | n::r,p=>nameF n&&(match p with | none=>true | some p=>Op.bytesLess p.toList n.toList)&&risG r (some n)
def pvN (l:List ByteArray):Nat→Option ByteArray
 | 0=>none
 | i+1=>l[i]?
theorem pvN_s (l:List ByteArray) (i:Nat):pvN l (i+1)=l[i]?:=rfl
theorem VName_ok (x:Va):PureCall Tryz.prog 184 [encV x] (encS x.name):=by
 refine PC [] Tryz.func184 rfl (by rfl) rfl ?_
 refine kW ?_
 (refine kS ?_;repeat intro γ)
 exact .of rfl
set_option maxHeartbeats 1000000 in
theorem risingV_ok (l:List Va) (hl:l.length≤2^60) (hn:∀ x∈l,x.name.size<2^35) :
  PureCall Tryz.prog 183 [.sl 7 (l.map encV),.fn (.func 184) [] []] (encB (risG (l.map Va.name) none)):=by
 refine PC [] Tryz.func183 rfl (by rfl) rfl ?_
 generalize hF:risG (l.map Va.name) none=F
 refine kW ?_
 (refine kS ?_;repeat intro γ)
 refine LoopP.intro (fun m σ H=>∃ i,i≤l.length∧m=l.length-i∧risG ((l.drop i).map Va.name) (pvN (l.map Va.name) i)=F ∧
  σ=fr [(0,.sl 7 (l.map encV)),(1,.fn (.func 184) [] []),(7,.sl 7 (l.map encV)),(8,encI l.length),(9,encI i)]∧H=hp []) ?_ ?_
 ·exact .intro <| W.of ⟨_,0,Nat.zero_le _,rfl,hF,rfl,rfl⟩ ⟨rfl,rfl,rfl,by simp;rfl,rfl,trivial⟩ trivial
 ·clear hF
  rintro m σ H ⟨i,hi,rfl,hF,rfl,rfl⟩
  refine kW ?_
  (refine kS ?_;repeat intro γ)
  refine CondP.dec (fun h=>?_) (fun h=>?_)<;>refine kW ?_
  ·have hi':i<l.length:=by omega
   have hx:=hn _ (List.getElem_mem hi')
   rw[List.drop_eq_getElem_cons hi',List.map_cons] at hF
   unfold risG at hF
   have hnx:(l.map Va.name)[i]?=some l[i].name:=by rw[List.getElem?_map,List.getElem?_eq_getElem hi'];rfl
   (refine kR ?_;repeat intro γ)
   generalize l[i]=x at hx hF hnx ⊢
   have hnm:=name61_ok x.name (by omega)
   generalize nameF x.name=b at hF hnm
   (refine kR ?_;repeat intro γ)
   refine CallG.intro _ c184 (VName_ok x) ?_
   refine kW ?_
   (refine kQ ?_;repeat intro γ)
   refine CallG.intro _ c120 hnm ?_
   refine kW ?_
   (refine kQ ?_;repeat intro γ)
   refine CondP.intro (fun hq=>?_) (fun hq=>?_)<;>refine kW ?_
   case' refine_2=>
    rw[hq,Bool.false_and,Bool.false_and] at hF
    (refine kR ?_;repeat intro γ)
    exact .of (by rw[← hF];rfl)
   rw[hq,Bool.true_and] at hF
   cases i with
   | zero=>
     (refine kR ?_;repeat intro γ)
     exact .intro <| W.of ⟨_,by omega,1,hi',rfl,by rw[← hF];show risG _ (pvN _ (0+1))=_;rw[pvN_s,hnx];rfl,rfl,rfl⟩ ⟨rfl,rfl,rfl,rfl,rfl,trivial⟩ trivial
   | succ i=>
     have hi2:i<l.length:=by omega
     rw[pvN_s,List.getElem?_map,List.getElem?_eq_getElem hi2] at hF
     replace hF:(Op.bytesLess l[i].name.toList x.name.toList&&risG ((l.drop (i+1+1)).map Va.name) (some x.name))=F:=hF
     have hp0:(0:Int)<((i+1:Nat):Int):=by omega
     (refine kR ?_;repeat intro γ)
     try simp only[show ((i+1:Nat):Int)-1=(i:Int) by omega]
     (refine kR ?_;repeat intro γ)
     generalize l[i]=y at hF ⊢
     (refine kR ?_;repeat intro γ)
     refine CallG.intro _ c184 (VName_ok y) ?_
     refine kW ?_
     (refine kR ?_;repeat intro γ)
     refine CallG.intro _ c184 (VName_ok x) ?_
     refine kW ?_
     (refine kR ?_;repeat intro γ)
     refine CondP.intro (fun h2=>?_) (fun h2=>?_)<;>refine kW ?_
     ·rw[h2,Bool.true_and] at hF
      (refine kR ?_;repeat intro γ)
      exact .intro <| W.of ⟨_,by omega,i+1+1,hi',rfl,by rw[pvN_s,hnx];exact hF,rfl,rfl⟩ ⟨rfl,rfl,rfl,rfl,rfl,trivial⟩ trivial
     ·rw[h2,Bool.false_and] at hF
      (refine kR ?_;repeat intro γ)
      exact .of (by rw[← hF];rfl)
  ·(refine kS ?_;repeat intro γ)
   rw[List.drop_eq_nil_of_le (by omega)] at hF
   exact .of (by rw[← hF];rfl)
theorem QName_ok (x:Eqn):PureCall Tryz.prog 186 [encQn x] (encS x.name):=by
 refine PC [] Tryz.func186 rfl (by rfl) rfl ?_
 refine kW ?_
 (refine kS ?_;repeat intro γ)
 exact .of rfl
theorem WName_ok (x:Whn):PureCall Tryz.prog 188 [encWn x] (encS x.name):=by
 refine PC [] Tryz.func188 rfl (by rfl) rfl ?_
 refine kW ?_
 (refine kS ?_;repeat intro γ)
 exact .of rfl
set_option maxHeartbeats 1000000 in
theorem risingQ_ok (l:List Eqn) (hl:l.length≤2^60) (hn:∀ x∈l,x.name.size<2^35) :
  PureCall Tryz.prog 185 [.sl 9 (l.map encQn),.fn (.func 186) [] []] (encB (risG (l.map Eqn.name) none)):=by
 refine PC [] Tryz.func185 rfl (by rfl) rfl ?_
 generalize hF:risG (l.map Eqn.name) none=F
 refine kW ?_
 (refine kS ?_;repeat intro γ)
 refine LoopP.intro (fun m σ H=>∃ i,i≤l.length∧m=l.length-i∧risG ((l.drop i).map Eqn.name) (pvN (l.map Eqn.name) i)=F ∧
  σ=fr [(0,.sl 9 (l.map encQn)),(1,.fn (.func 186) [] []),(7,.sl 9 (l.map encQn)),(8,encI l.length),(9,encI i)]∧H=hp []) ?_ ?_
 ·exact .intro <| W.of ⟨_,0,Nat.zero_le _,rfl,hF,rfl,rfl⟩ ⟨rfl,rfl,rfl,by simp;rfl,rfl,trivial⟩ trivial
 ·clear hF
  rintro m σ H ⟨i,hi,rfl,hF,rfl,rfl⟩
  refine kW ?_
  (refine kS ?_;repeat intro γ)
  refine CondP.dec (fun h=>?_) (fun h=>?_)<;>refine kW ?_
  ·have hi':i<l.length:=by omega
   have hx:=hn _ (List.getElem_mem hi')
   rw[List.drop_eq_getElem_cons hi',List.map_cons] at hF
   unfold risG at hF
   have hnx:(l.map Eqn.name)[i]?=some l[i].name:=by rw[List.getElem?_map,List.getElem?_eq_getElem hi'];rfl
   (refine kR ?_;repeat intro γ)
   generalize l[i]=x at hx hF hnx ⊢
   have hnm:=name61_ok x.name (by omega)
   generalize nameF x.name=b at hF hnm
   (refine kR ?_;repeat intro γ)
   refine CallG.intro _ c186 (QName_ok x) ?_
   refine kW ?_
   (refine kQ ?_;repeat intro γ)
   refine CallG.intro _ c120 hnm ?_
   refine kW ?_
   (refine kQ ?_;repeat intro γ)
   refine CondP.intro (fun hq=>?_) (fun hq=>?_)<;>refine kW ?_
   case' refine_2=>
    rw[hq,Bool.false_and,Bool.false_and] at hF
    (refine kR ?_;repeat intro γ)
    exact .of (by rw[← hF];rfl)
   rw[hq,Bool.true_and] at hF
   cases i with
   | zero=>
     (refine kR ?_;repeat intro γ)
     exact .intro <| W.of ⟨_,by omega,1,hi',rfl,by rw[← hF];show risG _ (pvN _ (0+1))=_;rw[pvN_s,hnx];rfl,rfl,rfl⟩ ⟨rfl,rfl,rfl,rfl,rfl,trivial⟩ trivial
   | succ i=>
     have hi2:i<l.length:=by omega
     rw[pvN_s,List.getElem?_map,List.getElem?_eq_getElem hi2] at hF
     replace hF:(Op.bytesLess l[i].name.toList x.name.toList&&risG ((l.drop (i+1+1)).map Eqn.name) (some x.name))=F:=hF
     have hp0:(0:Int)<((i+1:Nat):Int):=by omega
     (refine kR ?_;repeat intro γ)
     try simp only[show ((i+1:Nat):Int)-1=(i:Int) by omega]
     (refine kR ?_;repeat intro γ)
     generalize l[i]=y at hF ⊢
     (refine kR ?_;repeat intro γ)
     refine CallG.intro _ c186 (QName_ok y) ?_
     refine kW ?_
     (refine kR ?_;repeat intro γ)
     refine CallG.intro _ c186 (QName_ok x) ?_
     refine kW ?_
     (refine kR ?_;repeat intro γ)
     refine CondP.intro (fun h2=>?_) (fun h2=>?_)<;>refine kW ?_
     ·rw[h2,Bool.true_and] at hF
      (refine kR ?_;repeat intro γ)
      exact .intro <| W.of ⟨_,by omega,i+1+1,hi',rfl,by rw[pvN_s,hnx];exact hF,rfl,rfl⟩ ⟨rfl,rfl,rfl,rfl,rfl,trivial⟩ trivial
     ·rw[h2,Bool.false_and] at hF
      (refine kR ?_;repeat intro γ)
      exact .of (by rw[← hF];rfl)
  ·(refine kS ?_;repeat intro γ)
   rw[List.drop_eq_nil_of_le (by omega)] at hF
   exact .of (by rw[← hF];rfl)
set_option maxHeartbeats 1000000 in
theorem risingW_ok (l:List Whn) (hl:l.length≤2^60) (hn:∀ x∈l,x.name.size<2^35) :
  PureCall Tryz.prog 187 [.sl 6 (l.map encWn),.fn (.func 188) [] []] (encB (risG (l.map Whn.name) none)):=by
 refine PC [] Tryz.func187 rfl (by rfl) rfl ?_
 generalize hF:risG (l.map Whn.name) none=F
 refine kW ?_
 (refine kS ?_;repeat intro γ)
 refine LoopP.intro (fun m σ H=>∃ i,i≤l.length∧m=l.length-i∧risG ((l.drop i).map Whn.name) (pvN (l.map Whn.name) i)=F ∧
  σ=fr [(0,.sl 6 (l.map encWn)),(1,.fn (.func 188) [] []),(7,.sl 6 (l.map encWn)),(8,encI l.length),(9,encI i)]∧H=hp []) ?_ ?_
 ·exact .intro <| W.of ⟨_,0,Nat.zero_le _,rfl,hF,rfl,rfl⟩ ⟨rfl,rfl,rfl,by simp;rfl,rfl,trivial⟩ trivial
 ·clear hF
  rintro m σ H ⟨i,hi,rfl,hF,rfl,rfl⟩
  refine kW ?_
  (refine kS ?_;repeat intro γ)
  refine CondP.dec (fun h=>?_) (fun h=>?_)<;>refine kW ?_
  ·have hi':i<l.length:=by omega
   have hx:=hn _ (List.getElem_mem hi')
   rw[List.drop_eq_getElem_cons hi',List.map_cons] at hF
   unfold risG at hF
   have hnx:(l.map Whn.name)[i]?=some l[i].name:=by rw[List.getElem?_map,List.getElem?_eq_getElem hi'];rfl
   (refine kR ?_;repeat intro γ)
   generalize l[i]=x at hx hF hnx ⊢
   have hnm:=name61_ok x.name (by omega)
   generalize nameF x.name=b at hF hnm
   (refine kR ?_;repeat intro γ)
   refine CallG.intro _ c188 (WName_ok x) ?_
   refine kW ?_
   (refine kQ ?_;repeat intro γ)
   refine CallG.intro _ c120 hnm ?_
   refine kW ?_
   (refine kQ ?_;repeat intro γ)
   refine CondP.intro (fun hq=>?_) (fun hq=>?_)<;>refine kW ?_
   case' refine_2=>
    rw[hq,Bool.false_and,Bool.false_and] at hF
    (refine kR ?_;repeat intro γ)
    exact .of (by rw[← hF];rfl)
   rw[hq,Bool.true_and] at hF
   cases i with
   | zero=>
     (refine kR ?_;repeat intro γ)
     exact .intro <| W.of ⟨_,by omega,1,hi',rfl,by rw[← hF];show risG _ (pvN _ (0+1))=_;rw[pvN_s,hnx];rfl,rfl,rfl⟩ ⟨rfl,rfl,rfl,rfl,rfl,trivial⟩ trivial
   | succ i=>
     have hi2:i<l.length:=by omega
     rw[pvN_s,List.getElem?_map,List.getElem?_eq_getElem hi2] at hF
     replace hF:(Op.bytesLess l[i].name.toList x.name.toList&&risG ((l.drop (i+1+1)).map Whn.name) (some x.name))=F:=hF
     have hp0:(0:Int)<((i+1:Nat):Int):=by omega
     (refine kR ?_;repeat intro γ)
     try simp only[show ((i+1:Nat):Int)-1=(i:Int) by omega]
     (refine kR ?_;repeat intro γ)
     generalize l[i]=y at hF ⊢
     (refine kR ?_;repeat intro γ)
     refine CallG.intro _ c188 (WName_ok y) ?_
     refine kW ?_
     (refine kR ?_;repeat intro γ)
     refine CallG.intro _ c188 (WName_ok x) ?_
     refine kW ?_
     (refine kR ?_;repeat intro γ)
     refine CondP.intro (fun h2=>?_) (fun h2=>?_)<;>refine kW ?_
     ·rw[h2,Bool.true_and] at hF
      (refine kR ?_;repeat intro γ)
      exact .intro <| W.of ⟨_,by omega,i+1+1,hi',rfl,by rw[pvN_s,hnx];exact hF,rfl,rfl⟩ ⟨rfl,rfl,rfl,rfl,rfl,trivial⟩ trivial
     ·rw[h2,Bool.false_and] at hF
      (refine kR ?_;repeat intro γ)
      exact .of (by rw[← hF];rfl)
  ·(refine kS ?_;repeat intro γ)
   rw[List.drop_eq_nil_of_le (by omega)] at hF
   exact .of (by rw[← hF];rfl)
end Go.Proofs.YtlhdoekgipaihaaGreatDoor
namespace Go.Proofs.YtlhdoekgipaihaaGreatDoor
open Go Go.Fw
def kindF (k t:Int):Bool:=!((!decide (t=0)&&!decide (t=1))||decide (k<0)||decide (3<k)||(!decide (t=0)&&(decide (k=0)||decide (k=3))))
def varF (v:Va):Bool:=
 kindF v.kind v.type&&(if v.kind=2 then valueF v.value v.type else decide (v.value=⟨#[]⟩))
  && (decide (v.start=⟨#[]⟩)||((decide (v.kind=0)||decide (v.kind=1))&&valueF v.start v.type))&&!(v.fixed&&decide (v.start=⟨#[]⟩))
  && (decide (v.unit=⟨#[]⟩)||(decide (v.type=0)&&unitF v.unit))
set_option maxHeartbeats 4000000 in
theorem variable_ok (v:Va) (h1:v.value.size<2^35) (h2:v.start.size<2^35) (h3:v.unit.size<2^35):PureCall Tryz.prog 191 [encV v] (encB (varF v)):=by
 refine PC [] Tryz.func191 rfl (by rfl) rfl ?_
 obtain ⟨name,k,t,vl,st,fx,un⟩:=v
 have hv1:=value_ok vl t h1
 have hv2:=value_ok st t h2
 have hu:=Is_ok un h3
 generalize hF:varF ⟨name,k,t,vl,st,fx,un⟩=F
 unfold varF at hF
 simp only at hF hv1 hv2 hu
 generalize valueF vl t=b1 at hF hv1
 generalize valueF st t=b2 at hF hv2
 generalize unitF un=b3 at hF hu
 clear h1 h2 h3
 by_cases hk:kindF k t=true
 case' neg=>
  have hk':kindF k t=false:=by simpa using hk
  rw[hk',Bool.false_and,Bool.false_and,Bool.false_and,Bool.false_and] at hF
  subst hF
  unfold kindF at hk'
  refine kW ?_
  (repeat (any_goals (first | ((first | refine N0 ?_ | refine A0 fun γ=>?_ | refine C1 ?_ | refine C2 ?_ | refine C3 ?_ | refine C4 ?_ | refine C5 ?_ | refine C6 ?_ | refine C7 ?_ | refine D0 fun γs=>?_ | refine A1 fun γs=>?_ | refine N2 ?_ | refine N3 ?_ | refine N1 ?_);refine kW ?_) | (refine CondP.dec (fun _=>?_) (fun _=>?_)<;>refine kW ?_) | (refine CondP.intro (fun _=>?_) (fun _=>?_)<;>refine kW ?_))))
  all_goals first
   | exact .of rfl
   | (exfalso;simp_all<;>omega)
 rw[hk,Bool.true_and] at hF
 have hcs:(t=0∧(k=0∨k=1∨k=2∨k=3))∨(t=1∧(k=1∨k=2)):=by
  unfold kindF at hk
  simp at hk
  omega
 clear hk
 rcases hcs with ⟨rfl,rfl | rfl | rfl | rfl⟩ | ⟨rfl,rfl | rfl⟩
 all_goals
  simp only[Int.reduceEq,decide_true,decide_false,Bool.true_or,Bool.or_true,Bool.false_or,Bool.or_self,if_true,if_false,Bool.true_and,Bool.false_and,eq_self,Bool.or_false,reduceIte] at hF
  refine kW ?_
  (refine kS ?_;repeat intro γ)
  repeat (any_goals (first
   | exact .of (by rw[← hF];rfl)
   | (refine CallP.flat [] _ c279 hv1 rfl ?_;refine kW ?_;(refine kS ?_;repeat intro γ))
   | (refine CallP.flat [] _ c279 hv2 rfl ?_;refine kW ?_;(refine kS ?_;repeat intro γ))
   | (refine CallP.flat [] _ c280 hu rfl ?_;refine kW ?_;(refine kS ?_;repeat intro γ))
   | (refine CondP.intro (fun h=>?_) (fun h=>?_)<;>refine kW ?_<;>(try simp only at h)<;>(try simp only[h,Bool.true_and,Bool.false_and,Bool.and_true,Bool.and_false,Bool.true_or,Bool.false_or,Bool.not_true,Bool.not_false,Bool.or_true,Bool.or_false] at hF)<;>(refine kS ?_;repeat intro γ))))
theorem validC_ok (v:Va) (h1:v.value.size<2^35) (h2:v.start.size<2^35) (h3:v.unit.size<2^35):PureCall Tryz.prog 190 [encV v] (encB (!varF v)):=by
 refine PC [] Tryz.func190 rfl (by rfl) rfl ?_
 refine kW ?_
 (refine kS ?_;repeat intro γ)
 refine CallP.flat [] _ c191 (variable_ok v h1 h2 h3) rfl ?_
 refine kW ?_
 (refine kS ?_;repeat intro γ)
 exact .of rfl
end Go.Proofs.YtlhdoekgipaihaaGreatDoor
namespace Go.Proofs.YtlhdoekgipaihaaGreatDoor
open Go Go.Fw
def putK {β:Type} (l:List (ByteArray×β)) (k:ByteArray) (v:β):List (ByteArray×β):=match l with
 | []=>[(k,v)]
 | x::r=>if k=x.1 then (x.1,v)::r else x::putK r k v
theorem put_str {β:Type} (f:β→AV) (k:ByteArray) (v:β):∀ l:List (ByteArray×β),∃ r,findK (keyEq T 9 (encS k)) (l.map fun x=>encS x.1)=some r∧(match r with
  | some i=>(l.map fun x=>encS x.1)=((putK l k v).map fun x=>encS x.1)∧(l.map fun x=>f x.2).set i (f v)=(putK l k v).map fun x=>f x.2
  | none=>(l.map fun x=>encS x.1)++[encS k]=((putK l k v).map fun x=>encS x.1)∧(l.map fun x=>f x.2)++[f v]=(putK l k v).map fun x=>f x.2)
 | []=>⟨none,rfl,rfl,rfl⟩
 | x :: l=>by
   obtain ⟨r,h1,h2⟩:=put_str f k v l
   rw[List.map_cons,List.map_cons]
   unfold findK putK
   rw[keyEq_str]
   by_cases h:k=x.1
   ·rw[decide_eq_true h,if_pos h]
    exact ⟨some 0,rfl,rfl,rfl⟩
   ·rw[decide_eq_false h,if_neg h,h1]
    refine ⟨r.map (· + 1),rfl,?_⟩
    revert h2
    cases r with
    | none=>
      rintro ⟨h2,h3⟩
      exact ⟨by rw[List.map_cons,← h2];rfl,by rw[List.map_cons,← h3];rfl⟩
    | some i=>
      rintro ⟨h2,h3⟩
      exact ⟨by rw[List.map_cons,← h2],by rw[List.map_cons,← h3];rfl⟩
def knownF (vs:List Va):List (ByteArray×Va):=vs.foldl (fun l v=>putK l v.name v) []
set_option maxHeartbeats 1000000 in
theorem known_ok (s:Sys) (hv:s.vars.length≤2^60):PureCall Tryz.prog 101 [encSy s] (encK (knownF s.vars)):=by
 refine PC [6] Tryz.func101 rfl (by rfl) rfl ?_
 obtain ⟨vs,qs,ns,ws⟩:=s
 simp only at hv ⊢
 generalize hF:knownF vs=F
 unfold knownF at hF
 unfold encSy
 refine kW ?_
 (refine kS ?_;repeat intro γ)
 refine LoopP.intro (fun k σ H=>∃ g i,∃ l:List (ByteArray×Va),k=vs.length-i∧i≤vs.length∧(vs.drop i).foldl (fun l v=>putK l v.name v) l=F ∧
  σ=fr [(2,.val (.map none)),(3,.om 6 g),(8,.sl 7 (vs.map encV)),(9,encI vs.length),(10,encI i)] ∧
  H=hp [(6,g,⟨129,0,[encK l]⟩)]) ?_ ?_
 ·refine .intro <| W.of ⟨_,_,0,[],rfl,Nat.zero_le _,hF,rfl,rfl⟩ ⟨rfl,rfl,rfl,?_,rfl,trivial⟩ ⟨rfl,trivial⟩
  show AV.val (.int .i64 _)=AV.val (.int .i64 _)
  rw[List.length_map]
 ·clear hF
  rintro k σ H ⟨g,i,l,rfl,hi,hF,rfl,rfl⟩
  refine kW ?_
  (refine kS ?_;repeat intro γ)
  refine CondP.dec (fun h=>?_) (fun h=>?_)<;>refine kW ?_
  ·have hi':i<vs.length:=by omega
   rw[List.drop_eq_getElem_cons hi',List.foldl_cons] at hF
   (refine kR ?_;repeat intro γ)
   generalize vs[i]=v at hF ⊢
   (refine kR ?_;repeat intro γ)
   refine Need.intro keyst9 ?_
   refine kW ?_
   (refine kR ?_;repeat intro γ)
   obtain ⟨r,hr,hm⟩:=put_str encV v.name v l
   refine LookP.intro r hr ?_
   cases r with
   | some j=>
     refine kW ?_
     (refine kR ?_;repeat intro γ)
     refine .intro <| W.of ⟨_,by omega,_,i+1,putK l v.name v,rfl,hi',hF,rfl,rfl⟩ ⟨rfl,rfl,rfl,rfl,rfl,trivial⟩ ⟨?_,trivial⟩
     exact congrArg (fun z=>some (g,(⟨129,0,[z]⟩:Blk))) (congr (congrArg AV.mp hm.1) hm.2)
   | none=>
     refine kW ?_
     (refine kR ?_;repeat intro γ)
     refine .intro <| W.of ⟨_,by omega,_,i+1,putK l v.name v,rfl,hi',hF,rfl,rfl⟩ ⟨rfl,rfl,rfl,rfl,rfl,trivial⟩ ⟨?_,trivial⟩
     exact congrArg (fun z=>some (g,(⟨129,0,[z]⟩:Blk))) (congr (congrArg AV.mp hm.1) hm.2)
  ·rw[List.drop_eq_nil_of_le (by omega)] at hF
   (refine kS ?_;repeat intro γ)
   exact .of (by rw[← hF];rfl)
def typedF (ks:List (ByteArray×Va)) (e:Ex) (t:Int):Bool:=builtF e&&(typeF ks e).2&&decide ((typeF ks e).1=t)
theorem typed_ok (ks:List (ByteArray×Va)) (e:Ex) (t:Int) (hs:SzE e) (hx:TxE e):PureCall Tryz.prog 192 [encK ks,encE e,encI t] (encB (typedF ks e t)):=by
 refine PC [] Tryz.func192 rfl (by rfl) rfl ?_
 have hb:=Built_ok e hs hx
 have hT:=Type_ok ks e hs
 generalize hF:typedF ks e t=F
 unfold typedF at hF
 generalize builtF e=b at hF hb hT
 generalize typeF ks e=ty at hF hT
 rw[encE_eq] at hb hT ⊢
 refine kW ?_
 (refine kS ?_;repeat intro γ)
 refine CallP.flat [] _ c111 hb rfl ?_
 refine kW ?_
 (refine kS ?_;repeat intro γ)
 cases b with
 | false=>
   rw[Bool.false_and,Bool.false_and] at hF
   (refine kS ?_;repeat intro γ)
   exact .of (by rw[← hF];rfl)
 | true=>
   rw[Bool.true_and] at hF
   obtain ⟨x,y⟩:=ty
   simp only at hF
   (refine kS ?_;repeat intro γ)
   refine CallP.pure [] _ c112 (hT rfl) ?_
   refine kW ?_
   (refine kS ?_;repeat intro γ)
   cases y with
   | false=>
     rw[Bool.false_and] at hF
     (refine kS ?_;repeat intro γ)
     exact .of (by rw[← hF];rfl)
   | true=>
     rw[Bool.true_and] at hF
     (refine kS ?_;repeat intro γ)
     exact .of (by rw[← hF];rfl)
end Go.Proofs.YtlhdoekgipaihaaGreatDoor
namespace Go.Proofs.YtlhdoekgipaihaaGreatDoor
open Go Go.Fw
def setM (A:List ByteArray):AV:=.mp (A.map encS) (A.map fun _=>encB true)
def memA (s:ByteArray) (A:List ByteArray):Bool:=A.any fun x=>decide (s=x)
theorem set_str (s:ByteArray):∀ A:List ByteArray,∃ r,findK (keyEq T 9 (encS s)) (A.map encS)=some r∧(match r with
  | some i=>memA s A=true∧(A.map fun _=>encB true).getD i .dead=encB true
  | none=>memA s A=false)
 | []=>⟨none,rfl,rfl⟩
 | x :: l=>by
   obtain ⟨r,h1,h2⟩:=set_str s l
   rw[List.map_cons]
   unfold findK
   rw[keyEq_str]
   by_cases h:s=x
   ·rw[decide_eq_true h]
    exact ⟨some 0,rfl,by simp[memA,h],rfl⟩
   ·rw[decide_eq_false h,h1]
    refine ⟨r.map (· + 1),rfl,?_⟩
    revert h2
    cases r with
    | none=>intro h2;simpa [memA,h] using h2
    | some i=>rintro ⟨h2,h3⟩;exact ⟨by unfold memA at *;rw[List.any_cons,h2,Bool.or_true],h3⟩
theorem setM_snoc (p:Nat) (e:Nat) (A:List ByteArray) (v:ByteArray):some (p,(⟨e,0,[.mp (A.map encS++[encS v]) ((A.map fun _=>encB true)++[encB true])]⟩:Blk))=some (p,⟨e,0,[setM (A++[v])]⟩):=by
 unfold setM;rw[List.map_append,List.map_append];rfl
def badA (ks:List (ByteArray×Va)) (a:Ac) (A:List ByteArray):Bool:=match assoc ks a.var with
 | none=>true
 | some v=>(!decide (a.kind=0)&&!decide (a.kind=1))||!decide (v.kind=if a.kind=0 then 1 else 0)||memA a.var A||!typedF ks a.value v.type
def actsG (ks:List (ByteArray×Va)):List Ac→List ByteArray→List ByteArray→Bool×List ByteArray
 | [],_,A=>(true,A)
 | a::r,S,A=>if badA ks a (if a.kind=0 then A else S) then (false,A) else if a.kind=0 then actsG ks r S (A++[a.var]) else actsG ks r (S++[a.var]) A
def actsF (ks:List (ByteArray×Va)) (w:Whn) (A:List ByteArray):Bool×List ByteArray:=((actsG ks w.acts [] A).1&&decide (0<w.acts.length),(actsG ks w.acts [] A).2)
set_option maxHeartbeats 2000000 in
theorem acts_ok (ks : List (ByteArray×Va)) (w:Whn) (A:List ByteArray) (p:Nat) (hl:w.acts.length≤2^40) (he:∀ a∈w.acts,SzE a.value∧TxE a.value) :
  HCall Tryz.prog 193 [encK ks,encWn w,.om 50 p] (hp [(50,p,⟨251,0,[setM A]⟩)]) (fun r h=>r=encB (actsF ks w A).1∧h=hp [(50,p,⟨251,0,[setM (actsF ks w A).2]⟩)]):=by
 refine hcall_cp (E:=E 0) T_ok (D_ok 0) Tryz.func193 rfl (by rfl) (Nat.le_of_ble_eq_true rfl) ?_
 obtain ⟨wn,wc,ats⟩:=w
 simp only at hl he
 generalize hF:actsF ks ⟨wn,wc,ats⟩ A=F
 unfold actsF at hF
 simp only at hF
 obtain ⟨G,hG⟩:∃ G,actsG ks ats [] A=G:=⟨_,rfl⟩
 rw[hG] at hF
 unfold encWn
 refine kW ?_
 (refine kS ?_;repeat intro γ)
 refine LoopP.intro (fun k σ H=>∃ g g4 i,∃ S A:List ByteArray,k=ats.length-i∧i≤ats.length∧actsG ks (ats.drop i) S A=G ∧
  σ=fr [(0,encK ks),(2,.om 50 p),(4,.op 4 g4 0 0),(6,encB false),(7,.om 14 g),(16,.sl 6 (ats.map encAc)),(17,encI ats.length),(18,encI i)] ∧
  H=hp [(4,g4,⟨163,6,[encWn ⟨wn,wc,ats⟩]⟩),(14,g,⟨251,0,[setM S]⟩),(50,p,⟨251,0,[setM A]⟩)]) ?_ ?_
 ·refine .intro <| W.of ⟨_,_,_,0,[],A,rfl,Nat.zero_le _,hG,rfl,rfl⟩ ⟨rfl,rfl,rfl,rfl,rfl,rfl,?_,rfl,trivial⟩ ⟨rfl,rfl,rfl,trivial⟩
  show AV.val (.int .i64 _)=AV.val (.int .i64 _)
  rw[List.length_map]
 ·clear hG A
  rintro k σ H ⟨g,g4,i,S,A,rfl,hi,hG,rfl,rfl⟩
  refine kW ?_
  (refine kS ?_;repeat intro γ)
  refine CondP.dec (fun h=>?_) (fun h=>?_)<;>refine kW ?_
  ·have hi':i<ats.length:=by omega
   rw[List.drop_eq_getElem_cons hi'] at hG
   have hz:=he ats[i] (List.getElem_mem hi')
   (refine kR ?_;repeat intro γ)
   generalize ats[i]=a at hG hz ⊢
   obtain ⟨ak,av,ae⟩:=a
   simp only at hz
   (refine kR ?_;repeat intro γ)
   refine Need.intro keyst9 ?_
   refine kW ?_
   obtain ⟨r,hr,hm⟩:=look_str encV av ks
   refine LookP.intro r hr ?_
   unfold actsG badA at hG
   simp only at hG
   cases ha:assoc ks av with
   | none=>
     rw[ha] at hm hG
     cases r with
     | some i=>exact hm.elim
     | none=>
       replace hG:(false,A)=G:=hG
       refine kW ?_
       (refine kS ?_;repeat intro γ)
       refine CondP.dec (fun _=>?_) (fun _=>?_)<;>refine kW ?_<;>(refine kS ?_;repeat intro γ)
       all_goals exact EndH.of (m:=[(50,p,⟨251,0,[setM A]⟩)]) ⟨rfl,trivial⟩ ⟨by rw[← hF,← hG];rfl,by rw[← hF,← hG]⟩
   | some v=>
     rw[ha] at hm hG
     cases r with
     | none=>exact hm.elim
     | some j=>
       refine kW ?_
       rw[show (List.map (fun x=>encV x.snd) ks).getD j AV.dead=encV v from hm]
       refine kW ?_
       (refine kS ?_;repeat intro γ)
       replace hG:(if ((!decide (ak=0)&&!decide (ak=1))||!decide (v.kind=if ak=0 then 1 else 0)||memA av (if ak=0 then A else S)||!typedF ks ae v.type) then (false,A) else if ak=0 then actsG ks (ats.drop (i+1)) S (A++[av]) else actsG ks (ats.drop (i+1)) (S++[av]) A)=G:=hG
       have hty:=typed_ok ks ae v.type hz.1 hz.2
       generalize typedF ks ae v.type=bt at hG hty
       rw[encE_eq] at hty
       refine CondP.dec (fun h0=>?_) (fun h0=>?_)<;>refine kW ?_
       case' refine_1=>
        simp only[h0,decide_true,Bool.not_true,Bool.false_and,Bool.false_or,if_true] at hG
        obtain ⟨r2,hr2,hm2⟩:=set_str av A
        (refine kS ?_;repeat intro γ)
       case' refine_2=>
        by_cases h01:ak=1
        case' neg=>
         simp only[h0,h01,decide_false,Bool.not_false,Bool.true_and,Bool.true_or,if_true] at hG
         (refine kS ?_;repeat intro γ)
         exact EndH.of (m:=[(50,p,⟨251,0,[setM A]⟩)]) ⟨rfl,trivial⟩ ⟨by rw[← hF,← hG];rfl,by rw[← hF,← hG]⟩
        simp only[h0,h01,decide_false,decide_true,Bool.not_true,Bool.not_false,Bool.and_false,Bool.false_or,if_false,Int.reduceEq] at hG
        obtain ⟨r2,hr2,hm2⟩:=set_str av S
        (refine kS ?_;repeat intro γ)
       all_goals
        refine CondP.dec (fun h1=>?_) (fun h1=>?_)<;>refine kW ?_
        ·simp only[h1,decide_true,Bool.not_true,Bool.false_or] at hG
         (refine kS ?_;repeat intro γ)
         refine Need.intro keyst9 ?_
         refine kW ?_
         (refine kS ?_;repeat intro γ)
         refine LookP.intro r2 hr2 ?_
         cases r2 with
         | some j2=>
           obtain ⟨hm3,hm4⟩:=hm2
           simp only[hm3,Bool.true_or,if_true] at hG
           refine kW ?_
           rw[hm4]
           refine kW ?_
           (refine kS ?_;repeat intro γ)
           exact EndH.of (m:=[(50,p,⟨251,0,[setM A]⟩)]) ⟨rfl,trivial⟩ ⟨by rw[← hF,← hG];rfl,by rw[← hF,← hG]⟩
         | none=>
           replace hm2:memA av _=false:=hm2
           simp only[hm2,Bool.false_or] at hG
           refine kW ?_
           (refine kS ?_;repeat intro γ)
           refine CallP.flat [] _ c192 hty rfl ?_
           refine kW ?_
           (refine kS ?_;repeat intro γ)
           cases bt with
           | false=>
             replace hG:(false,A)=G:=hG
             (refine kS ?_;repeat intro γ)
             exact EndH.of (m:=[(50,p,⟨251,0,[setM A]⟩)]) ⟨rfl,trivial⟩ ⟨by rw[← hF,← hG];rfl,by rw[← hF,← hG]⟩
           | true=>
             simp only[Bool.not_true,Bool.false_eq_true,if_false] at hG
             (refine kS ?_;repeat intro γ)
             refine Need.intro keyst9 ?_
             refine kW ?_
             (refine kS ?_;repeat intro γ)
             refine LookP.intro none hr2 ?_
             refine kW ?_
             (refine kS ?_;repeat intro γ)
             first
              | refine .intro <| W.of ⟨_,by omega,_,_,i+1,S,A++[av],rfl,hi',hG,rfl,rfl⟩ ⟨rfl,rfl,rfl,rfl,rfl,rfl,rfl,rfl,trivial⟩ ⟨rfl,rfl,setM_snoc ..,trivial⟩
              | refine .intro <| W.of ⟨_,by omega,_,_,i+1,S++[av],A,rfl,hi',hG,rfl,rfl⟩ ⟨rfl,rfl,rfl,rfl,rfl,rfl,rfl,rfl,trivial⟩ ⟨rfl,setM_snoc ..,rfl,trivial⟩
        ·simp only[h1,decide_false,Bool.not_false,Bool.true_or,if_true] at hG
         (refine kS ?_;repeat intro γ)
         exact EndH.of (m:=[(50,p,⟨251,0,[setM A]⟩)]) ⟨rfl,trivial⟩ ⟨by rw[← hF,← hG];rfl,by rw[← hF,← hG]⟩
  ·rw[List.drop_eq_nil_of_le (by omega)] at hG
   (refine kS ?_;repeat intro γ)
   replace hG:(true,A)=G:=hG
   refine EndH.of (m:=[(50,p,⟨251,0,[setM A]⟩)]) ⟨rfl,trivial⟩ ⟨?_,by rw[← hF,← hG]⟩
   rw[← hF,← hG]
   show AV.val (.bool (decide _))=AV.val (.bool (decide _))
   congr 2
   exact decide_eq_decide.2 (by simp)
end Go.Proofs.YtlhdoekgipaihaaGreatDoor
namespace Go.Proofs.YtlhdoekgipaihaaGreatDoor
open Go Go.Fw
def eqT (ks:List (ByteArray×Va)) (q:Eqn):Bool:=typedF ks q.left 0&&typedF ks q.right 0
def whensG (ks:List (ByteArray×Va)):List Whn→List ByteArray→Bool
 | [],_=>true
 | w::r,A=>typedF ks w.cond 1&&(actsF ks w A).1&&whensG ks r (actsF ks w A).2
def validF (s:Sys):Bool:=
 risG (s.vars.map Va.name) none&&risG (s.eqs.map Eqn.name) none&&risG (s.inits.map Eqn.name) none&&risG (s.whens.map Whn.name) none
  && !(s.vars.any fun v=>!varF v)&&(s.eqs.all (eqT (knownF s.vars))&&s.inits.all (eqT (knownF s.vars)))&&whensG (knownF s.vars) s.whens []
theorem mem_side {l:List Eqn} {q:Eqn} (h:q∈l):q.left∈sides l∧q.right∈sides l:=by
 unfold sides
 exact ⟨List.mem_flatMap.2 ⟨q,h,by simp⟩,List.mem_flatMap.2 ⟨q,h,by simp⟩⟩
theorem mem_when {l:List Whn} {w:Whn} (h:w∈l):w.cond∈l.flatMap whenE∧∀ a∈w.acts,a.value∈l.flatMap whenE:=by
 refine ⟨List.mem_flatMap.2 ⟨w,h,by simp[whenE]⟩,fun a ha=>List.mem_flatMap.2 ⟨w,h,?_⟩⟩
 unfold whenE
 exact List.mem_cons_of_mem _ (List.mem_map.2 ⟨a,ha,rfl⟩)
set_option maxHeartbeats 4000000 in
theorem valid_ok (s:Sys) (hs:SzS s) (h20:∀ w∈s.whens,w.acts.length≤20):PureCall Tryz.prog 94 [encSy s] (encB (validF s)):=by
 refine PC [] Tryz.func94 rfl (by rfl) rfl ?_
 have r1:=risingV_ok s.vars hs.v fun v hv=>(hs.t v hv).1
 have r2:=risingQ_ok s.eqs hs.q hs.m.1
 have r3:=risingQ_ok s.inits hs.n hs.m.2.1
 have r4:=risingW_ok s.whens hs.w hs.m.2.2
 have hC:=containsV_ok 190 (fun v=>!varF v) s.vars hs.v c190 fun v hv=>validC_ok v (hs.t v hv).2.1 (hs.t v hv).2.2.1 (hs.t v hv).2.2.2
 have hK:=known_ok s hs.v
 have hQ:∀ q∈s.eqs,(SzE q.left∧TxE q.left)∧SzE q.right∧TxE q.right:=fun q hq=>⟨hs.e _ (by unfold allF;exact List.mem_append_left _ (List.mem_append_left _ (mem_side hq).1)),hs.e _ (by unfold allF;exact List.mem_append_left _ (List.mem_append_left _ (mem_side hq).2))⟩
 have hN:∀ q∈s.inits,(SzE q.left∧TxE q.left)∧SzE q.right∧TxE q.right:=fun q hq=>⟨hs.e _ (by unfold allF;exact List.mem_append_left _ (List.mem_append_right _ (mem_side hq).1)),hs.e _ (by unfold allF;exact List.mem_append_left _ (List.mem_append_right _ (mem_side hq).2))⟩
 have hWc:∀ w∈s.whens,SzE w.cond∧TxE w.cond:=fun w hw=>hs.e _ (by unfold allF;exact List.mem_append_right _ (mem_when hw).1)
 have hWa:∀ w∈s.whens,∀ a∈w.acts,SzE a.value∧TxE a.value:=fun w hw a ha=>hs.e _ (by unfold allF;exact List.mem_append_right _ ((mem_when hw).2 a ha))
 have hq:=hs.q
 have hn:=hs.n
 have hw:=hs.w
 clear hs
 generalize hF:validF s=F
 unfold validF at hF
 obtain ⟨vs,qs,ns,ws⟩:=s
 simp only at *
 generalize risG (vs.map Va.name) none=b1 at *
 generalize risG (qs.map Eqn.name) none=b2 at *
 generalize risG (ns.map Eqn.name) none=b3 at *
 generalize risG (ws.map Whn.name) none=b4 at *
 generalize (vs.any fun v=>!varF v)=b5 at *
 generalize knownF vs=ks at *
 unfold encSy at hK ⊢
 refine kW ?_
 (refine kS ?_;repeat intro γ)
 refine CallP.flat [] _ c183 r1 rfl ?_
 refine kW ?_
 (refine kS ?_;repeat intro γ)
 refine CondP.intro (fun h=>?_) (fun h=>?_)<;>refine kW ?_
 case' refine_2=>
  simp only[h,Bool.false_and] at hF
  (refine kS ?_;repeat intro γ)
  exact .of (by rw[← hF];rfl)
 simp only[h,Bool.true_and] at hF
 (refine kS ?_;repeat intro γ)
 refine CallP.flat [] _ c185 r2 rfl ?_
 refine kW ?_
 (refine kS ?_;repeat intro γ)
 refine CondP.intro (fun h=>?_) (fun h=>?_)<;>refine kW ?_
 case' refine_2=>
  simp only[h,Bool.false_and] at hF
  (refine kS ?_;repeat intro γ)
  exact .of (by rw[← hF];rfl)
 simp only[h,Bool.true_and] at hF
 (refine kS ?_;repeat intro γ)
 refine CallP.flat [] _ c185 r3 rfl ?_
 refine kW ?_
 (refine kS ?_;repeat intro γ)
 refine CondP.intro (fun h=>?_) (fun h=>?_)<;>refine kW ?_
 case' refine_2=>
  simp only[h,Bool.false_and] at hF
  (refine kS ?_;repeat intro γ)
  exact .of (by rw[← hF];rfl)
 simp only[h,Bool.true_and] at hF
 (refine kS ?_;repeat intro γ)
 refine CallP.flat [] _ c187 r4 rfl ?_
 refine kW ?_
 (refine kS ?_;repeat intro γ)
 refine CondP.intro (fun h=>?_) (fun h=>?_)<;>refine kW ?_
 case' refine_2=>
  simp only[h,Bool.false_and] at hF
  (refine kS ?_;repeat intro γ)
  exact .of (by rw[← hF];rfl)
 simp only[h,Bool.true_and] at hF
 (refine kS ?_;repeat intro γ)
 refine CallP.flat [] _ c189 hC rfl ?_
 refine kW ?_
 (refine kS ?_;repeat intro γ)
 refine CondP.intro (fun h=>?_) (fun h=>?_)<;>refine kW ?_
 ·simp only[h,Bool.not_true,Bool.false_and] at hF
  (refine kS ?_;repeat intro γ)
  exact .of (by rw[← hF];rfl)
 simp only[h,Bool.not_false,Bool.true_and] at hF
 (refine kS ?_;repeat intro γ)
 refine CallP.pure [] _ c101 hK ?_
 refine kW ?_
 (refine kS ?_;repeat intro γ)
 have hQN:∀ l∈[qs,ns],l.length≤2^60∧∀ q∈l,(SzE q.left∧TxE q.left)∧SzE q.right∧TxE q.right:=by
  intro l hl
  rcases List.mem_cons.1 hl with h | h
  ·rw[h];exact ⟨hq,hQ⟩
  ·rw[List.mem_singleton.1 h];exact ⟨hn,hN⟩
 obtain ⟨wh,hwh⟩:∃ wh,whensG ks ws []=wh:=⟨_,rfl⟩
 rw[hwh] at hF
 replace hF:([qs,ns].all (fun l=>l.all (eqT ks))&&wh)=F:=by rw[← hF];simp
 clear hQ hN r1 r2 r3 r4 hC hK
 refine LoopP.intro (fun k σ H=>∃ g1 g42 i,k=2-i∧i≤2∧(([qs,ns].drop i).all (fun l=>l.all (eqT ks))&&wh)=F ∧
  σ=fr [(1,.op 1 g1 0 0),(2,encB false),(3,encK ks),(42,.own 42 g42 0 2),(43,encI 2),(44,encI i)] ∧
  H=hp [(1,g1,⟨26,4,[.agg [.sl 7 (vs.map encV),.sl 9 (qs.map encQn),.sl 9 (ns.map encQn),.sl 6 (ws.map encWn)]]⟩),(42,g42,⟨23,1,[qs,ns].map fun l=>.sl 9 (l.map encQn)⟩)]) ?_ ?_
 ·exact .intro <| W.of ⟨_,_,_,0,rfl,by omega,hF,rfl,rfl⟩ ⟨rfl,rfl,rfl,rfl,rfl,rfl,trivial⟩ ⟨rfl,rfl,trivial⟩
 ·clear hF
  rintro k σ H ⟨g1,g42,i,rfl,hi,hF,rfl,rfl⟩
  refine kW ?_
  (refine kS ?_;repeat intro γ)
  refine CondP.dec (fun h=>?_) (fun h=>?_)<;>refine kW ?_
  ·have hi':i<[qs,ns].length:=by simp;omega
   rw[List.drop_eq_getElem_cons hi',List.all_cons] at hF
   obtain ⟨hl,hlq⟩:=hQN _ (List.getElem_mem hi')
   (refine kR ?_;repeat intro γ)
   generalize [qs,ns][i]=l at hF hl hlq ⊢
   obtain ⟨rs,hrs⟩:∃ rs,([qs,ns].drop (i+1)).all (fun l=>l.all (eqT ks))=rs:=⟨_,rfl⟩
   rw[hrs] at hF
   refine LoopP.intro (fun k σ H=>∃ j,k=l.length-j∧j≤l.length∧((l.drop j).all (eqT ks)&&rs&&wh)=F ∧
    σ=fr [(1,.op 1 g1 0 0),(2,encB false),(3,encK ks),(42,.own 42 g42 0 2),(43,encI 2),(44,encI i),(48,.sl 9 (l.map encQn)),(49,encI l.length),(50,encI j)] ∧
    H=hp [(1,g1,⟨26,4,[.agg [.sl 7 (vs.map encV),.sl 9 (qs.map encQn),.sl 9 (ns.map encQn),.sl 6 (ws.map encWn)]]⟩),(42,g42,⟨23,1,[qs,ns].map fun l=>.sl 9 (l.map encQn)⟩)]) ?_ ?_
   ·exact .intro <| W.of ⟨_,0,rfl,Nat.zero_le _,hF,rfl,rfl⟩ ⟨rfl,rfl,rfl,rfl,rfl,rfl,rfl,rfl,rfl,trivial⟩ ⟨rfl,rfl,trivial⟩
   ·clear hF
    rintro k σ H ⟨j,rfl,hj,hF,rfl,rfl⟩
    refine kW ?_
    (refine kS ?_;repeat intro γ)
    refine CondP.dec (fun h=>?_) (fun h=>?_)<;>refine kW ?_
    ·have hj':j<l.length:=by omega
     rw[List.drop_eq_getElem_cons hj',List.all_cons] at hF
     have hz:=hlq _ (List.getElem_mem hj')
     (refine kR ?_;repeat intro γ)
     generalize l[j]=q at hF hz ⊢
     unfold eqT at hF
     have t1:=typed_ok ks q.left 0 hz.1.1 hz.1.2
     have t2:=typed_ok ks q.right 0 hz.2.1 hz.2.2
     generalize typedF ks q.left 0=y1 at hF t1
     generalize typedF ks q.right 0=y2 at hF t2
     rw[encE_cells] at t1 t2
     (refine kR ?_;repeat intro γ)
     refine CallP.flat [] _ c192 t1 rfl ?_
     refine kW ?_
     (refine kS ?_;repeat intro γ)
     refine CondP.intro (fun h1=>?_) (fun h1=>?_)<;>refine kW ?_
     case' refine_2=>
      simp only[h1,Bool.false_and] at hF
      (refine kS ?_;repeat intro γ)
      exact .of (by rw[← hF];rfl)
     simp only[h1,Bool.true_and] at hF
     (refine kS ?_;repeat intro γ)
     refine CallP.flat [] _ c192 t2 rfl ?_
     refine kW ?_
     (refine kS ?_;repeat intro γ)
     refine CondP.intro (fun h2=>?_) (fun h2=>?_)<;>refine kW ?_
     case' refine_2=>
      simp only[h2,Bool.false_and] at hF
      (refine kS ?_;repeat intro γ)
      exact .of (by rw[← hF];rfl)
     simp only[h2,Bool.true_and] at hF
     (refine kS ?_;repeat intro γ)
     exact .intro <| W.of ⟨_,by omega,j+1,rfl,hj',hF,rfl,rfl⟩ ⟨rfl,rfl,rfl,rfl,rfl,rfl,rfl,rfl,rfl,trivial⟩ ⟨rfl,rfl,trivial⟩
    ·rw[List.drop_eq_nil_of_le (by omega)] at hF
     (refine kS ?_;repeat intro γ)
     exact .intro <| W.of ⟨_,by omega,_,_,i+1,rfl,by omega,by rw[hrs];exact hF,rfl,rfl⟩ ⟨rfl,rfl,rfl,rfl,rfl,rfl,trivial⟩ ⟨rfl,rfl,trivial⟩
  ·rw[List.drop_eq_nil_of_le (by simp;omega)] at hF
   replace hF:wh=F:=hF
   rw[← hwh] at hF
   (refine kS ?_;repeat intro γ)
   refine LoopP.intro (fun k σ H=>∃ g i,∃ A:List ByteArray,k=ws.length-i∧i≤ws.length∧whensG ks (ws.drop i) A=F ∧
    σ=fr [(2,encB false),(3,encK ks),(8,.om 68 g),(70,.sl 6 (ws.map encWn)),(71,encI ws.length),(72,encI i)] ∧
    H=hp [(68,g,⟨251,0,[setM A]⟩)]) ?_ ?_
   ·refine .intro <| W.of ⟨_,_,0,[],rfl,Nat.zero_le _,hF,rfl,rfl⟩ ⟨rfl,rfl,rfl,rfl,?_,rfl,trivial⟩ ⟨rfl,trivial⟩
    show AV.val (.int .i64 _)=AV.val (.int .i64 _)
    rw[List.length_map]
   ·clear hF hwh
    rintro k σ H ⟨g,i,A,rfl,hi,hF,rfl,rfl⟩
    refine kW ?_
    (refine kS ?_;repeat intro γ)
    refine CondP.dec (fun h=>?_) (fun h=>?_)<;>refine kW ?_
    ·have hi':i<ws.length:=by omega
     rw[List.drop_eq_getElem_cons hi'] at hF
     unfold whensG at hF
     have hz:=hWc _ (List.getElem_mem hi')
     have hza:=hWa _ (List.getElem_mem hi')
     have h20':=h20 _ (List.getElem_mem hi')
     (refine kR ?_;repeat intro γ)
     generalize ws[i]=w at hF hz hza h20' ⊢
     have t1:=typed_ok ks w.cond 1 hz.1 hz.2
     generalize typedF ks w.cond 1=y1 at hF t1
     rw[encE_cells] at t1
     (refine kR ?_;repeat intro γ)
     refine CallP.flat [] _ c192 t1 rfl ?_
     refine kW ?_
     (refine kS ?_;repeat intro γ)
     refine CondP.intro (fun h1=>?_) (fun h1=>?_)<;>refine kW ?_
     case' refine_2=>
      simp only[h1,Bool.false_and] at hF
      (refine kS ?_;repeat intro γ)
      exact .of (by rw[← hF];rfl)
     simp only[h1,Bool.true_and] at hF
     (refine kS ?_;repeat intro γ)
     refine CallP.frame 1000000 [(50,68)] rfl c193 (acts_ok ks w A g (by omega) hza) rfl ⟨rfl,trivial⟩ ?_
     rintro r0 h' ⟨rfl,rfl⟩
     refine ⟨[(68,g,⟨251,0,[setM (actsF ks w A).2]⟩)],⟨rfl,trivial⟩,?_⟩
     refine kW ?_
     (refine kS ?_;repeat intro γ)
     refine CondP.intro (fun h2=>?_) (fun h2=>?_)<;>refine kW ?_
     case' refine_2=>
      simp only[h2,Bool.false_and] at hF
      (refine kS ?_;repeat intro γ)
      exact .of (by rw[← hF];rfl)
     simp only[h2,Bool.true_and] at hF
     (refine kS ?_;repeat intro γ)
     exact .intro <| W.of ⟨_,by omega,_,i+1,_,rfl,hi',hF,rfl,rfl⟩ ⟨rfl,rfl,rfl,rfl,rfl,rfl,trivial⟩ ⟨rfl,trivial⟩
    ·rw[List.drop_eq_nil_of_le (by omega)] at hF
     (refine kS ?_;repeat intro γ)
     exact .of (by rw[← hF];rfl)
def checkF (s:Sys):Int:=if largeF s then 2 else if validF s then 0 else 1
theorem Check_ok (s:Sys) (hs:SzS s):PureCall Tryz.prog 36 [encSy s] (encI (checkF s)):=by
 refine PC [] Tryz.func36 rfl (by rfl) rfl ?_
 have hL:=large_ok s hs
 have h20:largeF s=false→∀ w∈s.whens,w.acts.length≤20:=by
  intro h w hw
  unfold largeF at h
  simp only[Bool.or_eq_false_iff] at h
  have:=List.any_eq_false.1 h.1.2 w hw
  simp at this
  exact this
 have hV:=fun h=>valid_ok s hs (h20 h)
 generalize hF:checkF s=F
 unfold checkF at hF
 generalize largeF s=a at hF hL hV
 generalize validF s=b at hF hV
 clear h20 hs
 unfold encSy at hL hV ⊢
 refine kW ?_
 (refine kS ?_;repeat intro γ)
 refine CallP.flat [] _ c93 hL rfl ?_
 refine kW ?_
 (refine kS ?_;repeat intro γ)
 cases a with
 | true=>
   (refine kS ?_;repeat intro γ)
   exact .of (by rw[← hF];rfl)
 | false=>
   (refine kS ?_;repeat intro γ)
   refine CallP.flat [] _ c94 (hV rfl) rfl ?_
   refine kW ?_
   (refine kS ?_;repeat intro γ)
   cases b with
   | true=>
     (refine kS ?_;repeat intro γ)
     exact .of (by rw[← hF];rfl)
   | false=>
     (refine kS ?_;repeat intro γ)
     exact .of (by rw[← hF];rfl)
end Go.Proofs.YtlhdoekgipaihaaGreatDoor
namespace Go.Proofs.YtlhdoekgipaihaaGreatDoor
open Go Go.Fw
abbrev oTrue:ByteArray:=⟨#[116,114,117,101]⟩
abbrev oFalse:ByteArray:=⟨#[102,97,108,115,101]⟩
abbrev oTime:ByteArray:=⟨#[116,105,109,101]⟩
abbrev oInit:ByteArray:=⟨#[105,110,105,116,105,97,108]⟩
abbrev oNeg:ByteArray:=⟨#[110,101,103]⟩
abbrev oNot:ByteArray:=⟨#[110,111,116]⟩
abbrev oAdd:ByteArray:=⟨#[97,100,100]⟩
abbrev oSub:ByteArray:=⟨#[115,117,98]⟩
abbrev oMul:ByteArray:=⟨#[109,117,108]⟩
abbrev oDiv:ByteArray:=⟨#[100,105,118]⟩
abbrev oLess:ByteArray:=⟨#[108,101,115,115]⟩
abbrev oAtMost:ByteArray:=⟨#[97,116,109,111,115,116]⟩
abbrev oMore:ByteArray:=⟨#[109,111,114,101]⟩
abbrev oAtLeast:ByteArray:=⟨#[97,116,108,101,97,115,116]⟩
abbrev oAnd:ByteArray:=⟨#[97,110,100]⟩
abbrev oOr:ByteArray:=⟨#[111,114]⟩
def kidsR (o:ByteArray):Int:=
 if o=oNum then 0 else if o=oTrue then 0 else if o=oFalse then 0 else if o=oVar then 0 else if o=oPre then 0 else if o=oTime then 0 else if o=oInit then 0
 else if o=oNeg then 1 else if o=oNot then 1
 else if o=oSample then 2 else if o=oAdd then 2 else if o=oSub then 2 else if o=oMul then 2 else if o=oDiv then 2 else if o=oLess then 2 else if o=oAtMost then 2 else if o=oMore then 2 else if o=oAtLeast then 2
 else if o=oEq then 2 else if o=oNe then 2 else if o=oAnd then 2 else if o=oOr then 2 else if o=oIf then 3 else -1
set_option maxHeartbeats 1000000 in
theorem Kids_ok (o:ByteArray):PureCall Tryz.prog 258 [encS o] (encI (kidsR o)):=by
 refine PC [] Tryz.func258 rfl (by rfl) rfl ?_
 generalize hF:kidsR o=F
 unfold kidsR at hF
 refine kW ?_
 (refine kS ?_;repeat intro γ)
 repeat
  refine CondP.dec (fun h=>?_) (fun h=>?_)<;>refine kW ?_
  ·rw[if_pos h] at hF
   (refine kS ?_;repeat intro γ)
   exact .of (by rw[← hF];rfl)
  rw[if_neg h] at hF
  (refine kS ?_;repeat intro γ)
 exact .of (by rw[← hF];rfl)
theorem kids_same (o:ByteArray):kidsR o=kidsF o:=by
 have key:∀ x:ByteArray,o=x→kidsR x=kidsF x→kidsR o=kidsF o:=fun x h e=>by rw[h];exact e
 by_cases h1:o=oNum;· exact key _ h1 (by kernel_rfl)
 by_cases h2:o=oTrue;· exact key _ h2 (by kernel_rfl)
 by_cases h3:o=oFalse;· exact key _ h3 (by kernel_rfl)
 by_cases h4:o=oVar;· exact key _ h4 (by kernel_rfl)
 by_cases h5:o=oPre;· exact key _ h5 (by kernel_rfl)
 by_cases h6:o=oTime;· exact key _ h6 (by kernel_rfl)
 by_cases h7:o=oInit;· exact key _ h7 (by kernel_rfl)
 by_cases h8:o=oNeg;· exact key _ h8 (by kernel_rfl)
 by_cases h9:o=oNot;· exact key _ h9 (by kernel_rfl)
 by_cases h10:o=oSample;· exact key _ h10 (by kernel_rfl)
 by_cases h11:o=oAdd;· exact key _ h11 (by kernel_rfl)
 by_cases h12:o=oSub;· exact key _ h12 (by kernel_rfl)
 by_cases h13:o=oMul;· exact key _ h13 (by kernel_rfl)
 by_cases h14:o=oDiv;· exact key _ h14 (by kernel_rfl)
 by_cases h15:o=oLess;· exact key _ h15 (by kernel_rfl)
 by_cases h16:o=oAtMost;· exact key _ h16 (by kernel_rfl)
 by_cases h17:o=oMore;· exact key _ h17 (by kernel_rfl)
 by_cases h18:o=oAtLeast;· exact key _ h18 (by kernel_rfl)
 by_cases h19:o=oEq;· exact key _ h19 (by kernel_rfl)
 by_cases h20:o=oNe;· exact key _ h20 (by kernel_rfl)
 by_cases h21:o=oAnd;· exact key _ h21 (by kernel_rfl)
 by_cases h22:o=oOr;· exact key _ h22 (by kernel_rfl)
 by_cases h23:o=oIf;· exact key _ h23 (by kernel_rfl)
 unfold kidsR kidsF
 simp only[h1,h2,h3,h4,h5,h6,h7,h8,h9,h10,h11,h12,h13,h14,h15,h16,h17,h18,h19,h20,h21,h22,h23,if_false,or_self,shp,assoc]
mutual
def szF:Ex→Nat
 | .mk _ _ _ ks=>1+szL ks
def szL:List Ex→Nat
 | []=>0
 | k::ks=>szF k+szL ks
end
mutual
def htF:Ex→Nat
 | .mk _ _ _ ks=>1+htL ks
def htL:List Ex→Nat
 | []=>0
 | k::ks=>max (htF k) (htL ks)
end
theorem szF_eq (e:Ex):szF e=1+szL e.kids:=by cases e;rfl
theorem htF_eq (e:Ex):htF e=1+htL e.kids:=by cases e;rfl
theorem szL_split (ks:List Ex) (i:Nat) (h:i<ks.length):szL (ks.take (i+1))=szL (ks.take i)+szF ks[i]:=by
 rw[List.take_succ_eq_append_getElem h]
 generalize ks.take i=l
 induction l with
 | nil=>simp[szL]
 | cons a l ih=>simp only[List.cons_append,szL,ih];omega
theorem szL_take (ks:List Ex):∀ i,szL (ks.take i)≤szL ks:=by
 induction ks with
 | nil=>intro i;simp[szL]
 | cons k ks ih=>
   intro i
   cases i with
   | zero=>exact Nat.zero_le _
   | succ i=>simp only[List.take_succ_cons,szL];have:=ih i;omega
theorem szF_pos (e:Ex):1≤szF e:=by rw[szF_eq];omega
theorem sizeR_ok (e:Ex):SzE e→∀ m:Nat,m≤1000→PureCall Tryz.prog 195 [encE e,encI m] (encI (min (szF e) (m+1):Nat)):=by
 induction e using ex_ind with
 | h e ih=>
   intro hs m hm
   have ihk:∀ k∈e.kids,∀ m:Nat,m≤1000→PureCall Tryz.prog 195 [encE k,encI m] (encI (min (szF k) (m+1):Nat)):=fun k hk=>ih k hk (hs.kid k hk)
   clear ih
   have hlen:=hs.len
   refine PC [] Tryz.func195 rfl (by rfl) rfl ?_
   have hT:=szL_take e.kids
   have hS:=szL_split e.kids
   rw[szF_eq]
   rw[encE_eq]
   obtain ⟨N,hN⟩:∃ N,szL e.kids=N:=⟨_,rfl⟩
   rw[hN] at hT ⊢
   refine kW ?_
   (refine kS ?_;repeat intro γ)
   refine LoopP.intro (fun k σ H=>∃ g i,k=e.kids.length-i∧i≤e.kids.length ∧
    σ=fr [(1,encI m),(2,.op 2 g 0 0),(5,encI (min (1+szL (e.kids.take i)) (m+1):Nat)),(6,encI i)]∧H=hp [(2,g,⟨42,4,[.agg [encS e.op,encS e.text,encI e.order,.sl 4 (e.kids.map encE)]]⟩)]) ?_ ?_
   ·refine .intro <| W.of ⟨_,_,0,rfl,Nat.zero_le _,rfl,rfl⟩ ⟨rfl,rfl,?_,rfl,trivial⟩ ⟨rfl,trivial⟩
    show AV.val (.int .i64 _)=AV.val (.int .i64 _)
    congr 2
   ·rintro k σ H ⟨g,i,rfl,hi,rfl,rfl⟩
    have hTi:=hT i
    rcases Nat.lt_or_ge i e.kids.length with h1 | h1
    ·have hSi:=hS i h1
     by_cases h2:1+szL (e.kids.take i)≤m
     ·have hk:=ihk e.kids[i] (List.getElem_mem h1) (m-(1+szL (e.kids.take i))) (by omega)
      have hkp:=szF_pos e.kids[i]
      rw[show min (1+szL (e.kids.take i)) (m+1)=1+szL (e.kids.take i) by omega]
      generalize szL (e.kids.take i)=s at *
      have e1:(m:Int)-((1+s:Nat):Int)=((m-(1+s):Nat):Int):=by omega
      refine kW ?_
      (refine kQ ?_;repeat intro γ)
      generalize e.kids[i]=k at *
      rw[encE_eq] at hk ⊢
      (refine kQ ?_;repeat intro γ)
      simp only[e1]
      refine CallP.flat [] _ c195 hk rfl ?_
      refine kW ?_
      (refine kQ ?_;repeat intro γ)
      refine .intro <| W.of ⟨_,by omega,g,i+1,rfl,h1,rfl,rfl⟩ ⟨rfl,rfl,?_,rfl,trivial⟩ ⟨rfl,trivial⟩
      show AV.val (.int .i64 _)=AV.val (.int .i64 _)
      congr 2
      rw[hSi];omega
     ·rw[show min (1+szL (e.kids.take i)) (m+1)=m+1 by omega]
      refine kW ?_
      (refine kQ ?_;repeat intro γ)
      refine .of ?_
      show AV.val (.int .i64 _)=AV.val (.int .i64 _)
      congr 2;omega
    ·obtain rfl:i=e.kids.length:=by omega
     rw[List.take_length,hN]
     refine kW ?_
     (refine kQ ?_;repeat intro γ)
     exact .of rfl
theorem htL_le (ks:List Ex) (d:Nat):d<htL ks↔∃ i,∃ h:i<ks.length,d<htF ks[i]:=by
 induction ks with
 | nil=>simp[htL]
 | cons k ks ih=>
   simp only[htL]
   rw[show d<max (htF k) (htL ks)↔d<htF k∨d<htL ks by omega,ih]
   constructor
   ·rintro (h | ⟨i,h,h'⟩)
    ·exact ⟨0,by simp,h⟩
    ·exact ⟨i+1,by simp;omega,h'⟩
   ·rintro ⟨i,h,h'⟩
    cases i with
    | zero=>exact .inl h'
    | succ i=>exact .inr ⟨i,by simp at h;omega,h'⟩
theorem deepR_ok (e:Ex):SzE e→∀ d:Nat,d≤1000→PureCall Tryz.prog 238 [encE e,encI d] (encB (decide (d<htF e))):=by
 induction e using ex_ind with
 | h e ih=>
   intro hs d hd
   have ihk:∀ k∈e.kids,∀ d:Nat,d≤1000→PureCall Tryz.prog 238 [encE k,encI d] (encB (decide (d<htF k))):=fun k hk=>ih k hk (hs.kid k hk)
   clear ih
   have hlen:=hs.len
   refine PC [] Tryz.func238 rfl (by rfl) rfl ?_
   have hL:=htL_le e.kids (d-1)
   rw[htF_eq]
   rw[encE_eq]
   by_cases h0:d<1
   ·rw[decide_eq_true (by omega)]
    refine kW ?_
    (refine kQ ?_;repeat intro γ)
    exact .of rfl
   rw[show decide (d<1+htL e.kids)=decide (d-1<htL e.kids) from decide_eq_decide.2 (by omega)]
   have e1:(d:Int)-1=((d-1:Nat):Int):=by omega
   refine kW ?_
   (refine kQ ?_;repeat intro γ)
   refine LoopP.intro (fun k σ H=>∃ g i,k=e.kids.length-i∧i≤e.kids.length∧(∀ j (h:j<e.kids.length),j<i→¬ d-1<htF e.kids[j]) ∧
    σ=fr [(1,encI d),(2,.op 2 g 0 0),(5,encI i)]∧H=hp [(2,g,⟨42,4,[.agg [encS e.op,encS e.text,encI e.order,.sl 4 (e.kids.map encE)]]⟩)]) ?_ ?_
   ·exact .intro <| W.of ⟨_,_,0,rfl,Nat.zero_le _,fun j h h'=>absurd h' (by omega),rfl,rfl⟩ ⟨rfl,rfl,rfl,trivial⟩ ⟨rfl,trivial⟩
   ·rintro k σ H ⟨g,i,rfl,hi,hj,rfl,rfl⟩
    rcases Nat.lt_or_ge i e.kids.length with h1 | h1
    ·have hk:=ihk e.kids[i] (List.getElem_mem h1) (d-1) (by omega)
     by_cases h2:d-1<htF e.kids[i]
     ·rw[decide_eq_true h2] at hk
      rw[decide_eq_true (hL.2 ⟨i,h1,h2⟩)]
      clear h2 hj hL
      refine kW ?_
      (refine kQ ?_;repeat intro γ)
      generalize e.kids[i]=k at *
      rw[encE_eq] at hk ⊢
      (refine kQ ?_;repeat intro γ)
      simp only[e1]
      refine CallP.flat [] _ c238 hk rfl ?_
      refine kW ?_
      (refine kQ ?_;repeat intro γ)
      exact .of rfl
     ·rw[decide_eq_false h2] at hk
      have hj':∀ j (h:j<e.kids.length),j<i+1→¬ d-1<htF e.kids[j]:=fun j h h'=>by
       by_cases he:j=i
       ·subst he;exact h2
       ·exact hj j h (by omega)
      clear h2 hj
      refine kW ?_
      (refine kQ ?_;repeat intro γ)
      generalize e.kids[i]=k at hk ⊢
      rw[encE_eq] at hk ⊢
      (refine kQ ?_;repeat intro γ)
      simp only[e1]
      refine CallP.flat [] _ c238 hk rfl ?_
      refine kW ?_
      (refine kQ ?_;repeat intro γ)
      exact .intro <| W.of ⟨_,by omega,g,i+1,rfl,h1,hj',rfl,rfl⟩ ⟨rfl,rfl,rfl,trivial⟩ ⟨rfl,trivial⟩
    ·rw[decide_eq_false (fun e=>by obtain ⟨j,h,h'⟩:=hL.1 e;exact hj j h (by omega) h')]
     refine kW ?_
     (refine kQ ?_;repeat intro γ)
     exact .of rfl
def largeR (e:Ex):Bool:=decide (200<szF e)||decide (24<htF e)
theorem Large_ok (e:Ex) (hs:SzE e):PureCall Tryz.prog 116 [encE e] (encB (largeR e)):=by
 refine PC [] Tryz.func116 rfl (by rfl) rfl ?_
 have h1:=sizeR_ok e hs 200 (by omega)
 have h2:=deepR_ok e hs 24 (by omega)
 generalize hF:largeR e=F
 unfold largeR at hF
 rw[encE_eq] at h1 h2 ⊢
 by_cases h3:200<szF e
 ·rw[show min (szF e) (200+1)=201 by omega] at h1
  rw[decide_eq_true h3] at hF
  refine kW ?_
  (refine kQ ?_;repeat intro γ)
  refine CallP.flat [] _ c195 h1 rfl ?_
  refine kW ?_
  (refine kQ ?_;repeat intro γ)
  exact .of (by rw[← hF];rfl)
 ·rw[show min (szF e) (200+1)=szF e by omega] at h1
  rw[decide_eq_false h3,Bool.false_or] at hF
  refine kW ?_
  (refine kQ ?_;repeat intro γ)
  refine CallP.flat [] _ c195 h1 rfl ?_
  refine kW ?_
  (refine kQ ?_;repeat intro γ)
  refine CallP.flat [] _ c238 h2 rfl ?_
  refine kW ?_
  (refine kQ ?_;repeat intro γ)
  exact .of (by rw[← hF];rfl)
end Go.Proofs.YtlhdoekgipaihaaGreatDoor
namespace Go.Proofs.YtlhdoekgipaihaaGreatDoor
open Go Go.Fw
theorem measF_iff:∀ (d:Nat) (e:Ex) (l:Int),0≤l→(htF e≤d∧(szF e:Int)≤l→measF d e l=l-szF e)∧(¬ (htF e≤d∧(szF e:Int)≤l)→measF d e l<0):=by
 intro d
 induction d with
 | zero=>
   intro e l hl
   have:1≤htF e:=by rw[htF_eq];omega
   exact ⟨fun h=>absurd h.1 (by omega),fun _=>by unfold measF;omega⟩
 | succ d ih=>
   intro e l hl
   have hz:=szF_eq e
   have hh:=htF_eq e
   have key:∀ (ks:List Ex) (l:Int),0≤l→(htL ks≤d∧(szL ks:Int)≤l→kidsL (measF d) ks l=l-szL ks)∧(¬ (htL ks≤d∧(szL ks:Int)≤l)→kidsL (measF d) ks l<0):=by
    intro ks
    induction ks with
    | nil=>intro l hl;exact ⟨fun _=>by simp[kidsL,szL],fun h=>absurd ⟨by simp[htL],by simp[szL];omega⟩ h⟩
    | cons k ks ihk=>
      intro l hl
      obtain ⟨a1,a2⟩:=ih k l hl
      unfold kidsL htL szL
      by_cases hk:htF k≤d∧(szF k:Int)≤l
      ·rw[a1 hk,if_neg (by omega)]
       obtain ⟨b1,b2⟩:=ihk (l-szF k) (by omega)
       exact ⟨fun h=>by rw[b1 ⟨by omega,by omega⟩];omega,fun h=>b2 (fun h'=>h ⟨by omega,by omega⟩)⟩
      ·rw[if_pos (a2 hk)]
       exact ⟨fun h=>absurd ⟨by omega,by omega⟩ hk,fun _=>by omega⟩
   unfold measF
   by_cases h1:l-1<0
   ·rw[if_pos h1]
    exact ⟨fun h=>by omega,fun _=>by omega⟩
   ·rw[if_neg h1]
    obtain ⟨b1,b2⟩:=key e.kids (l-1) (by omega)
    exact ⟨fun h=>by rw[b1 ⟨by omega,by omega⟩];omega,fun h=>b2 (fun h'=>h ⟨by omega,by omega⟩)⟩
theorem large_same (e:Ex):tooF e=largeR e:=by
 obtain ⟨h1,h2⟩:=measF_iff 24 e 200 (by omega)
 unfold tooF largeR
 rw[← Bool.decide_or]
 refine decide_eq_decide.2 ?_
 by_cases h:htF e≤24∧(szF e:Int)≤200
 ·rw[h1 h];omega
 ·have:=h2 h;omega
theorem size_same (e:Ex) (h:largeR e=false):sizeF e=szF e:=by
 unfold largeR at h
 simp at h
 unfold sizeF
 rw[(measF_iff 24 e 200 (by omega)).1 ⟨by omega,by omega⟩];omega
def findR (vs:List Va) (s:ByteArray):Int:=indexP (fun v:Va=>decide (v.name=s)) vs 0
theorem Find_ok (s:Sys) (n:ByteArray) (hv:s.vars.length≤2^60):PureCall Tryz.prog 53 [encSy s,encS n] (encI (findR s.vars n)):=by
 refine PC [] Tryz.func53 rfl (by rfl) rfl ?_
 obtain ⟨vs,qs,ns,ws⟩:=s
 simp only at hv ⊢
 generalize hF:findR vs n=F
 unfold findR at hF
 unfold encSy
 refine kW ?_
 (refine kQ ?_;repeat intro γ)
 refine LoopP.intro (fun k σ H=>∃ g i,i≤vs.length∧k=vs.length-i∧indexP (fun v:Va=>decide (v.name=n)) (vs.drop i) i=F∧σ=fr [(1,encS n),(2,.op 2 g 0 0),(5,encI i)] ∧
  H=hp [(2,g,⟨26,4,[.agg [.sl 7 (vs.map encV),.sl 9 (qs.map encQn),.sl 9 (ns.map encQn),.sl 6 (ws.map encWn)]]⟩)]) ?_ ?_
 ·exact .intro <| W.of ⟨_,_,0,Nat.zero_le _,rfl,hF,rfl,rfl⟩ ⟨rfl,rfl,rfl,trivial⟩ ⟨rfl,trivial⟩
 ·rintro k σ H ⟨g,i,hi,rfl,hF,rfl,rfl⟩
  rcases Nat.lt_or_ge i vs.length with h1 | h1
  ·rw[List.drop_eq_getElem_cons h1] at hF
   unfold indexP at hF
   refine kW ?_
   (refine kQ ?_;repeat intro γ)
   generalize vs[i]=v at hF ⊢
   refine CondP.dec (fun h=>?_) (fun h=>?_)<;>refine kW ?_
   ·rw[decide_eq_true h] at hF
    (refine kQ ?_;repeat intro γ)
    exact .of (by rw[← hF];rfl)
   ·rw[decide_eq_false h] at hF
    (refine kQ ?_;repeat intro γ)
    exact .intro <| W.of ⟨_,by omega,g,i+1,h1,rfl,hF,rfl,rfl⟩ ⟨rfl,rfl,rfl,trivial⟩ ⟨rfl,trivial⟩
  ·rw[List.drop_eq_nil_of_le (by omega)] at hF
   refine kW ?_
   (refine kQ ?_;repeat intro γ)
   exact .of (by rw[← hF];rfl)
theorem ofL_data (s:ByteArray):ofL s.data.toList=s:=ofL_self s
theorem IsValue_ok (s:ByteArray) (t:Int) (hs:s.size<2^35) (ht:t=0∨t=1):PureCall Tryz.prog 165 [encS s,encI t] (encB (valueF s t)):=by
 refine PC [] Tryz.func165 rfl (by rfl) rfl ?_
 have h1:=Is1_ok s.data.toList (by exact hs)
 rw[ofL_data,← (parse_read s.data.toList).1] at h1
 generalize hF:valueF s t=F
 unfold valueF at hF
 have hl:(s=sTrue∨s=sFalse)→(parseQ s.data.toList).2=false:=by rintro (rfl | rfl)<;>kernel_rfl
 rcases ht with rfl | rfl
 ·rw[show decide ((1:Int)=0)=false from rfl,show decide ((0:Int)=0)=true from rfl,Bool.and_true] at hF
  have:(parseQ s.data.toList).2=F:=by
   rw[← hF]
   split
   ·rename_i h;exact hl h
   ·rfl
  rw[this] at h1
  refine kW ?_
  (refine kQ ?_;repeat intro γ)
  refine CallP.flat [] _ c164 h1 rfl ?_
  refine kW ?_
  (refine kQ ?_;repeat intro γ)
  exact .of rfl
 ·rw[show decide ((1:Int)=1)=true from rfl,show decide ((0:Int)=1)=false from rfl,Bool.and_false] at hF
  refine kW ?_
  (refine kQ ?_;repeat intro γ)
  refine CondP.dec (fun h=>?_) (fun h=>?_)<;>refine kW ?_
  ·rw[if_pos (.inl h)] at hF
   (refine kQ ?_;repeat intro γ)
   exact .of (by rw[← hF];rfl)
  ·(refine kQ ?_;repeat intro γ)
   by_cases h2:s=sFalse
   ·rw[if_pos (.inr h2)] at hF
    refine .of ?_
    rw[← hF]
    show AV.val (.bool (decide _))=_
    rw[decide_eq_true h2];rfl
   ·rw[if_neg (by rintro (e | e);exact h e;exact h2 e)] at hF
    refine .of ?_
    rw[← hF]
    show AV.val (.bool (decide _))=_
    rw[decide_eq_false h2];rfl
end Go.Proofs.YtlhdoekgipaihaaGreatDoor
namespace Go.Proofs.YtlhdoekgipaihaaGreatDoor
open Go Go.Fw
theorem step_pos (l:List UInt8) (n:Int) (d:Nat) (h:readR l=some (n,d)):0<sgn n↔hasP (ofL l) (b1 45)=false∧l≠[48]:=by
 obtain ⟨hk,ht⟩:=readR_text h
 rw[hasP_b1]
 have hs:0<sgn n↔0<n:=by unfold sgn;split<;>(try split)<;>omega
 rw[hs]
 obtain ⟨c,r,hcr,hh⟩:=rT_head n d
 have hz:l=[48]↔n=0:=by
  constructor
  ·intro e
   rw[e] at h
   have h2:readR [48]=some (0,1):=by
    have h3:okR (0,1):=⟨Nat.one_pos,by decide,by decide,decT1⟩
    have h4:=readR_rT 0 1 h3
    have e1:rT 0 1=[48]:=rfl
    rwa [e1] at h4
   rw[h2] at h;cases h;rfl
  ·rintro rfl
   have hd:d=1:=by have:=hk.2.1;simpa using this
   subst hd
   rw[ht];rfl
 have hneg:l.head?=some 45↔n<0:=by
  rw[ht,rT_eq]
  by_cases hn:n<0
  ·rw[if_pos hn];simp[hn]
  ·rw[if_neg hn]
   rw[rT_eq,if_neg hn] at hcr
   rw[hcr]
   simp only[List.map_cons,List.head?_cons,Option.some.injEq,hn,iff_false]
   intro e
   have:=congrArg UInt8.toNat e
   have hc:48≤c∧c≤57:=by
    have hdg:=decT_dg n.natAbs
    have hcn:=decT_canon n.natAbs
    cases hT:decT n.natAbs with
    | nil=>rw[hT] at hcn;simp[canon] at hcn
    | cons a b=>
      rw[hT,List.cons_append] at hcr
      rw[hT,List.all_cons,Bool.and_eq_true] at hdg
      have:=hdg.1
      unfold isDg at this
      simp at this
      rw[← (List.cons.inj hcr).1];exact this
   simp at this
   omega
 rw[show (decide (l.head?=some 45)=false)↔¬ n<0 by rw[decide_eq_false_iff_not,hneg],ne_eq,hz]
 omega
set_option maxHeartbeats 4000000 in
theorem BuiltR_ok (e:Ex):SzE e→TxE e→PureCall Tryz.prog 147 [encE e] (encB (builtF e)):=by
 induction e using ex_ind with
 | h e ih=>
   intro hs ht
   have ihk:∀ k∈e.kids,PureCall Tryz.prog 147 [encE k] (encB (builtF k)):=fun k hk=>ih k hk (hs.kid k hk) (ht.kid k hk)
   have htk:∀ k∈e.kids,TxE k:=ht.kid
   clear ih
   have htx:e.text.size<2^35:=ht.tx
   have hlen:=hs.len
   refine PC [] Tryz.func147 rfl (by rfl) rfl ?_
   have hK:=Kids_ok e.op
   rw[kids_same] at hK
   have hIs:=Is1_ok e.text.data.toList (by exact htx)
   rw[ofL_data,← (parse_read e.text.data.toList).1] at hIs
   have hNm:=IsName_ok e.text (by omega)
   generalize hF:builtF e=F
   rw[builtF_eq] at hF
   unfold textF at hF
   rw[encE_eq]
   clear hs ht
   generalize e.kids=ks at *
   generalize e.op=o at *
   generalize e.text=tx at *
   generalize e.order=od at *
   generalize hKK:kidsF o=K at *
   clear htx
   refine kW ?_
   (refine kO ?_;repeat intro γ)
   refine D0 fun γs=>?_
   refine kW ?_
   (refine kO ?_;repeat intro γ)
   refine CallG.intro _ c258 hK ?_
   by_cases hK0:K<0
   ·rw[decide_eq_false (by omega)] at hF
    refine kW ?_
    (refine kO ?_;repeat intro γ)
    exact .of (by rw[← hF];rfl)
   refine kW ?_
   (refine kO ?_;repeat intro γ)
   refine CallG.intro _ c258 hK ?_
   refine kW ?_
   (refine kO ?_;repeat intro γ)
   simp only[List.length_map]
   by_cases hKl:(ks.length:Int)=K
   case neg=>
    rw[decide_eq_false hKl] at hF
    (refine kO ?_;repeat intro γ)
    exact .of (by rw[← hF];rfl)
   rw[decide_eq_true hKl,Bool.true_and] at hF
   (refine kO ?_;repeat intro γ)
   refine LoopP.intro (fun k σ H=>∃ g i,k=ks.length-i∧i≤ks.length∧(∀ j (h:j<ks.length),j<i→builtF ks[j]=true) ∧
    σ=fr [(1,.op 1 g 0 0),(3,encI i)]∧H=hp [(1,g,⟨42,4,[.agg [encS o,encS tx,encI od,.sl 4 (ks.map encE)]]⟩)]) ?_ ?_
   ·exact .intro <| W.of ⟨_,_,0,rfl,Nat.zero_le _,fun j h h'=>absurd h' (by omega),rfl,rfl⟩ ⟨rfl,rfl,trivial⟩ ⟨rfl,trivial⟩
   ·rintro k σ H ⟨g,i,rfl,hi,hj,rfl,rfl⟩
    rcases Nat.lt_or_ge i ks.length with h1 | h1
    ·have hk:=ihk ks[i] (List.getElem_mem h1)
     cases hb:builtF ks[i] with
     | false=>
       rw[hb] at hk
       have hall:ks.all builtF=false:=by
        rw[List.all_eq_false]
        exact ⟨ks[i],List.getElem_mem h1,by rw[hb];decide⟩
       rw[hall,Bool.and_false] at hF
       clear hb hj
       refine kW ?_
       (refine kQ ?_;repeat intro γ)
       generalize ks[i]=k at hk ⊢
       rw[encE_eq] at hk ⊢
       (refine kQ ?_;repeat intro γ)
       refine CallP.flat [] _ c147 hk rfl ?_
       refine kW ?_
       (refine kQ ?_;repeat intro γ)
       exact .of (by rw[← hF];rfl)
     | true=>
       rw[hb] at hk
       have hj':∀ j (h:j<ks.length),j<i+1→builtF ks[j]=true:=fun j h h'=>by
        by_cases he:j=i
        ·subst he;exact hb
        ·exact hj j h (by omega)
       clear hb hj
       refine kW ?_
       (refine kQ ?_;repeat intro γ)
       generalize ks[i]=k at hk ⊢
       rw[encE_eq] at hk ⊢
       (refine kQ ?_;repeat intro γ)
       refine CallP.flat [] _ c147 hk rfl ?_
       refine kW ?_
       (refine kQ ?_;repeat intro γ)
       exact .intro <| W.of ⟨_,by omega,g,i+1,rfl,h1,hj',rfl,rfl⟩ ⟨rfl,rfl,trivial⟩ ⟨rfl,trivial⟩
    obtain rfl:i=ks.length:=by omega
    have hall:ks.all builtF=true:=by
     rw[List.all_eq_true]
     intro x hx
     obtain ⟨j,hj',rfl⟩:=List.mem_iff_getElem.1 hx
     exact hj j hj' hj'
    rw[hall,Bool.and_true] at hF
    refine kW ?_
    (refine kQ ?_;repeat intro γ)
    refine CondP.dec (fun h2=>?_) (fun h2=>?_)<;>refine kW ?_
    ·
     rw[if_pos h2,show sampF o ks (ks.map builtF)=false by unfold sampF;rw[h2];rfl,Bool.not_false,Bool.and_true] at hF
     (refine kQ ?_;repeat intro γ)
     refine CallP.flat [] _ c164 hIs rfl ?_
     generalize (parseQ tx.data.toList).2=b at hF
     cases b
     ·refine kW ?_
      (refine kQ ?_;repeat intro γ)
      exact .of (by rw[← hF];rfl)
     ·refine kW ?_
      (refine kQ ?_;repeat intro γ)
      exact .of (by rw[← hF];rfl)
    rw[if_neg h2] at hF
    (refine kQ ?_;repeat intro γ)
    refine CondP.dec (fun h3=>?_) (fun h3=>?_)<;>refine kW ?_
    ·rw[if_pos h3,show sampF o ks (ks.map builtF)=false by unfold sampF;rw[h3];rfl,Bool.not_false,Bool.and_true] at hF
     (refine kQ ?_;repeat intro γ)
     refine CallP.flat [] _ c124 hNm rfl ?_
     generalize nameF tx=b at hF
     cases b
     ·refine kW ?_
      (refine kQ ?_;repeat intro γ)
      exact .of (by rw[← hF];rfl)
     ·rw[Bool.true_and] at hF
      refine kW ?_
      (refine kQ ?_;repeat intro γ)
      refine CondP.dec (fun h4=>?_) (fun h4=>?_)<;>refine kW ?_
      ·rw[decide_eq_true h4,Bool.true_and] at hF
       (refine kQ ?_;repeat intro γ)
       exact .of (by rw[← hF];rfl)
      ·rw[decide_eq_false h4,Bool.false_and] at hF
       (refine kQ ?_;repeat intro γ)
       exact .of (by rw[← hF];rfl)
    rw[if_neg h3] at hF
    (refine kQ ?_;repeat intro γ)
    refine CondP.dec (fun h4=>?_) (fun h4=>?_)<;>refine kW ?_
    ·rw[if_pos h4,show sampF o ks (ks.map builtF)=false by unfold sampF;rw[h4];rfl,Bool.not_false,Bool.and_true] at hF
     (refine kQ ?_;repeat intro γ)
     refine CallP.flat [] _ c124 hNm rfl ?_
     generalize nameF tx=b at hF
     cases b
     ·refine kW ?_
      (refine kQ ?_;repeat intro γ)
      exact .of (by rw[← hF];rfl)
     ·rw[Bool.true_and] at hF
      refine kW ?_
      (refine kQ ?_;repeat intro γ)
      exact .of (by rw[← hF];rfl)
    rw[if_neg h4] at hF
    (refine kQ ?_;repeat intro γ)
    refine CondP.dec (fun h5=>?_) (fun h5=>?_)<;>refine kW ?_
    case' refine_2=>
     rw[show sampF o ks (ks.map builtF)=false by unfold sampF;rw[decide_eq_false h5];rfl,Bool.not_false,Bool.and_true] at hF
     (refine kQ ?_;repeat intro γ)
     refine CondP.dec (fun h6=>?_) (fun h6=>?_)<;>refine kW ?_
     ·rw[decide_eq_true h6,Bool.true_and] at hF
      (refine kQ ?_;repeat intro γ)
      exact .of (by rw[← hF];rfl)
     ·rw[decide_eq_false h6,Bool.false_and] at hF
      (refine kQ ?_;repeat intro γ)
      exact .of (by rw[← hF];rfl)
    obtain ⟨k0,k1,rfl⟩:∃ k0 k1,ks=[k0,k1]:=by
     have h2':o=oSample:=h5
     have:kidsF oSample=2:=by rfl
     rw[← hKK,h2',this] at hKl
     match ks,hKl with
     | [a,b],_=>exact ⟨a,b,rfl⟩
     | [],h=>simp at h
     | [_],h=>simp at h
     | _::_::_::_,h=>simp at h;omega
    have hb1:builtF k1=true:=hj 1 (by simp) (by simp)
    have hsm:sampF o [k0,k1] ([k0,k1].map builtF)=(!decide (k0.op=oNum)||!decide (k1.op=oNum)||!builtF k1||hasP k1.text (b1 45)||decide (k1.text=⟨#[48]⟩)):=by
     unfold sampF;rw[decide_eq_true h5];rfl
    rw[hsm,hb1,Bool.not_true,Bool.or_false] at hF
    have ht1:k1.text.size<2^35:=(htk k1 (by simp)).tx
    have hsl:List.map encE [k0,k1]=[.agg [encS k0.op,encS k0.text,encI k0.order,.sl 4 (k0.kids.map encE)],.agg [encS k1.op,encS k1.text,encI k1.order,.sl 4 (k1.kids.map encE)]]:=by
     rw[← encE_eq,← encE_eq];rfl
    have hrd:=Read_ok k1.text.data.toList (by exact ht1)
    rw[ofL_data] at hrd
    have hbt:=builtF_eq k1
    have hpr:=(parse_read k1.text.data.toList).1
    have hsp:=step_pos k1.text.data.toList
    rw[ofL_data] at hsp
    have h48:k1.text.data.toList=[48]↔k1.text=⟨#[48]⟩:=by
     have:(⟨#[48]⟩:ByteArray)=ofL [48]:=rfl
     rw[this,← ofL_inj,ofL_data]
    rw[hb1] at hbt
    clear ihk htk hj hall hKl hlen hIs hNm hK hb1 hsm
    rw[hsl]
    by_cases h6:k0.op=oNum
    case neg=>
     rw[decide_eq_false h6,Bool.not_false,Bool.true_or,Bool.true_or,Bool.true_or,Bool.not_true,Bool.and_false] at hF
     (refine kQ ?_;repeat intro γ)
     exact .of (by rw[← hF];rfl)
    by_cases h7:k1.op=oNum
    case neg=>
     rw[decide_eq_false h7,Bool.not_false,Bool.or_true,Bool.true_or,Bool.true_or,Bool.not_true,Bool.and_false] at hF
     (refine kQ ?_;repeat intro γ)
     exact .of (by rw[← hF];rfl)
    rw[decide_eq_true h6,decide_eq_true h7,Bool.not_true,Bool.false_or,Bool.false_or] at hF
    have hp2:(parseQ k1.text.data.toList).2=true:=by
     have h8:textF k1=true:=by
      simp only[Bool.true_eq,Bool.and_eq_true] at hbt
      exact hbt.1.1.2
     unfold textF at h8
     rw[if_pos h7,Bool.and_eq_true] at h8
     exact h8.1
    rw[hp2] at hpr
    cases hro:readR k1.text.data.toList with
    | none=>rw[hro] at hpr;cases hpr
    | some x=>
      obtain ⟨n,d⟩:=x
      have hs:=hsp n d hro
      rw[hro,Option.isSome_some] at hrd
      have hsg:=SignR_ok n d
      rw[ne_eq,h48] at hs
      unfold encRd at hrd
      simp only at hrd
      unfold encR at hrd hsg
      generalize sgn n=sg at hs hsg
      clear hro hp2 hpr hbt hsp h48 ht1
      (refine kQ ?_;repeat intro γ)
      refine CallP.pure [] _ c204 hrd ?_
      refine kW ?_
      (refine kQ ?_;repeat intro γ)
      refine CondP.dec (fun h8=>?_) (fun h8=>?_)<;>refine kW ?_
      case' refine_2=>
       rw[decide_eq_false h8,Bool.false_and,Bool.false_and] at hF
       (refine kQ ?_;repeat intro γ)
       exact .of (by rw[← hF];rfl)
      rw[decide_eq_true h8,Bool.true_and] at hF
      (refine kQ ?_;repeat intro γ)
      refine CondP.dec (fun h9=>?_) (fun h9=>?_)<;>refine kW ?_
      case' refine_2=>
       rw[decide_eq_false h9,Bool.false_and] at hF
       (refine kQ ?_;repeat intro γ)
       exact .of (by rw[← hF];rfl)
      rw[decide_eq_true h9,Bool.true_and] at hF
      (refine kQ ?_;repeat intro γ)
      refine CallP.flat [] _ c259 hsg rfl ?_
      refine kW ?_
      (refine kQ ?_;repeat intro γ)
      refine .of ?_
      rw[← hF]
      show AV.val (.bool (decide _))=AV.val (.bool _)
      congr 2
      rw[Bool.eq_iff_iff]
      simp only[decide_eq_true_eq,Bool.not_eq_true',Bool.or_eq_false_iff,decide_eq_false_iff_not]
      exact hs
end Go.Proofs.YtlhdoekgipaihaaGreatDoor
namespace Go.Proofs.YtlhdoekgipaihaaGreatDoor
open Go Go.Fw
def encIs (l:List Int):AV:=.sl 1 (l.map encI)
def allI (l:List Int) (t:Int):Bool:=l.all fun x=>decide (x=t)
theorem all_okR (l:List Int) (t:Int) (hl:l.length<2^62):PureCall Tryz.prog 302 [encIs l,encI t] (encB (allI l t)):=by
 refine PC [] Tryz.func302 rfl (by rfl) rfl ?_
 generalize hF:allI l t=F
 have hF2:allI (l.drop 0) t=F:=hF
 unfold encIs
 refine kW ?_
 (refine kQ ?_;repeat intro γ)
 refine LoopP.intro (fun k σ H=>∃ i,i≤l.length∧k=l.length-i∧allI (l.drop i) t=F∧σ=fr [(0,encIs l),(1,encI t),(5,encI i)]∧H=hp []) ?_ ?_
 ·exact .intro <| W.of ⟨_,0,Nat.zero_le _,rfl,hF2,rfl,rfl⟩ ⟨rfl,rfl,rfl,trivial⟩ trivial
 ·clear hF hF2
  rintro k σ H ⟨i,hi,rfl,hF,rfl,rfl⟩
  unfold encIs
  rcases Nat.lt_or_ge i l.length with h1 | h1
  ·rw[List.drop_eq_getElem_cons h1] at hF
   unfold allI at hF
   rw[List.all_cons] at hF
   refine kW ?_
   (refine kQ ?_;repeat intro γ)
   generalize l[i]=x at hF ⊢
   refine CondP.dec (fun h=>?_) (fun h=>?_)<;>refine kW ?_
   ·rw[decide_eq_true h,Bool.true_and] at hF
    (refine kQ ?_;repeat intro γ)
    exact .intro <| W.of ⟨_,by omega,i+1,h1,rfl,hF,rfl,rfl⟩ ⟨rfl,rfl,rfl,trivial⟩ trivial
   ·rw[decide_eq_false h,Bool.false_and] at hF
    (refine kQ ?_;repeat intro γ)
    exact .of (by rw[← hF];rfl)
  ·rw[List.drop_eq_nil_of_le h1] at hF
   refine kW ?_
   (refine kQ ?_;repeat intro γ)
   exact .of (by rw[← hF];rfl)
theorem ownI {b p e n:Nat} {H:Hp} {out:List Int} (hb:H b=some (p,⟨e,1,out.map encI⟩)) (hn:n=out.length):snap [b] H (.own b p 0 n)=encIs out:=by
 rw[snap_own (by simp) hb (by simp[hn]),snap_list _ _ _ _ hn fun _=>rfl];rfl
def varT (vs:List Va) (tx:ByteArray) (od:Int):Int×Bool:=match vs.find? fun v=>decide (v.name=tx) with
 | none=>(0,false)
 | some v=>(v.type,decide (od=0)||decide (v.kind=0)||decide (v.kind=3))
def typH (vs:List Va) (o tx:ByteArray) (od:Int) (rs:List Int):Int×Bool:=
 if o=oNum then (0,true) else if o=oTime then (0,true) else if o=oTrue then (1,true) else if o=oFalse then (1,true) else if o=oInit then (1,true) else if o=oSample then (1,true)
 else if o=oVar then varT vs tx od else if o=oPre then varT vs tx od
 else if o=oNeg then (0,allI rs 0) else if o=oAdd then (0,allI rs 0) else if o=oSub then (0,allI rs 0) else if o=oMul then (0,allI rs 0) else if o=oDiv then (0,allI rs 0)
 else if o=oLess then (1,allI rs 0) else if o=oAtMost then (1,allI rs 0) else if o=oMore then (1,allI rs 0) else if o=oAtLeast then (1,allI rs 0)
 else if o=oAnd then (1,allI rs 1) else if o=oOr then (1,allI rs 1) else if o=oNot then (1,allI rs 1)
 else if o=oEq then (1,decide (rs.getD 0 0=rs.getD 1 0)) else if o=oNe then (1,decide (rs.getD 0 0=rs.getD 1 0))
 else (rs.getD 1 0,decide (rs.getD 0 0=1)&&decide (rs.getD 1 0=rs.getD 2 0))
mutual
def typR (vs:List Va):Ex→Int×Bool
 | .mk o t n ks=>match typL vs ks with
   | none=>(0,false)
   | some rs=>typH vs o t n rs
def typL (vs:List Va):List Ex→Option (List Int)
 | []=>some []
 | k::ks=>if (typR vs k).2 then (typL vs ks).map ((typR vs k).1::·) else none
end
theorem typR_eq (vs:List Va) (e:Ex):typR vs e=match typL vs e.kids with
 | none=>(0,false)
 | some rs=>typH vs e.op e.text e.order rs:=by cases e;rfl
theorem typL_step (vs:List Va) (ks:List Ex):∀ (i:Nat) (acc:List Int),typL vs (ks.take i)=some acc→i<ks.length→∀ h:i<ks.length,
  ((typR vs ks[i]).2=true→typL vs (ks.take (i+1))=some (acc++[(typR vs ks[i]).1]))∧((typR vs ks[i]).2=false→typL vs ks=none):=by
 induction ks with
 | nil=>intro i acc _ h;simp at h
 | cons k ks ih=>
   intro i acc ha h1 h
   cases i with
   | zero=>
     simp only[List.take_zero,typL,Option.some.injEq] at ha
     subst ha
     simp only[List.getElem_cons_zero,List.take_succ_cons,List.take_zero,typL]
     exact ⟨fun e=>by rw[if_pos e];rfl,fun e=>by rw[if_neg (by rw[e];decide)]⟩
   | succ i=>
     rw[List.take_succ_cons,typL] at ha
     split at ha
     ·rename_i hk
      obtain ⟨acc',ha',rfl⟩:=Option.map_eq_some_iff.1 ha
      obtain ⟨b1,b2⟩:=ih i acc' ha' (by simpa using h1) (by simpa using h)
      simp only[List.getElem_cons_succ,List.take_succ_cons,typL]
      rw[if_pos hk]
      exact ⟨fun e=>by rw[b1 e];rfl,fun e=>by rw[b2 e];split<;>rfl⟩
     ·cases ha
theorem typL_len (vs:List Va):∀ (ks:List Ex) (acc:List Int),typL vs ks=some acc→acc.length=ks.length
 | [],acc,h=>by simp[typL] at h;subst h;rfl
 | k :: ks,acc,h=>by
   unfold typL at h
   split at h
   ·obtain ⟨a,ha,rfl⟩:=Option.map_eq_some_iff.1 h
    rw[List.length_cons,List.length_cons,typL_len vs ks a ha]
   ·cases h
theorem find_at (vs:List Va) (n:ByteArray):(findR vs n<0∧vs.find? (fun v=>decide (v.name=n))=none)∨∃ i,∃ h:i<vs.length,findR vs n=i∧vs.find? (fun v=>decide (v.name=n))=some vs[i]:=by
 unfold findR
 have key:∀ (l:List Va) (k:Int),0≤k→(indexP (fun v:Va=>decide (v.name=n)) l k<0∧l.find? (fun v=>decide (v.name=n))=none)∨∃ i,∃ h:i<l.length,indexP (fun v:Va=>decide (v.name=n)) l k=k+i∧l.find? (fun v=>decide (v.name=n))=some l[i]:=by
  intro l
  induction l with
  | nil=>intro k hk;exact .inl ⟨by unfold indexP;omega,rfl⟩
  | cons v l ih=>
    intro k hk
    unfold indexP
    rw[List.find?_cons]
    by_cases h:v.name=n
    ·rw[decide_eq_true h]
     exact .inr ⟨0,by simp,by simp,rfl⟩
    ·rw[decide_eq_false h]
     rcases ih (k+1) (by omega) with h1 | ⟨i,h1,h2,h3⟩
     ·exact .inl h1
     ·exact .inr ⟨i+1,by simpa using h1,by simp only;rw[h2];omega,by simpa using h3⟩
 rcases key vs 0 (by omega) with h | ⟨i,h,h2,h3⟩
 ·exact .inl h
 ·exact .inr ⟨i,h,by rw[h2];omega,h3⟩
theorem kidsF_le (o:ByteArray):kidsF o≤3:=by
 rw[← kids_same]
 unfold kidsR
 repeat (split;omega)
 omega
set_option maxHeartbeats 4000000 in
theorem typedR_ok (s : Sys) (hv:s.vars.length≤2^60) (e:Ex):SzE e→builtF e=true→PureCall Tryz.prog 203 [encSy s,encE e] (encT2 (typR s.vars e)):=by
 induction e using ex_ind with
 | h e ih=>
   intro hs hb
   obtain ⟨hbk,hbl⟩:=built_kids hb
   have hk3:=kidsF_le e.op
   have ihk:∀ k∈e.kids,PureCall Tryz.prog 203 [encSy s,encE k] (encT2 (typR s.vars k)):=fun k hk=>ih k hk (hs.kid k hk) (hbl k hk)
   have hlen:=hs.len
   clear ih hb hbl hs
   refine PC [] Tryz.func203 rfl (by rfl) rfl ?_
   have hFi:=Find_ok s e.text hv
   have hat:=find_at s.vars e.text
   generalize hF:typR s.vars e=F
   rw[typR_eq] at hF
   rw[encE_eq]
   have hst:=typL_step s.vars e.kids
   have hll:=typL_len s.vars e.kids
   obtain ⟨vs,qs,ns,ws⟩:=s
   simp only at hv hF hst hll hFi hat
   generalize e.kids=ks at *
   generalize e.op=o at *
   generalize e.text=tx at *
   generalize e.order=od at *
   unfold encSy at ihk hFi ⊢
   try simp only at ihk
   try simp only at hFi
   refine kW ?_
   (refine kS ?_;repeat intro γ)
   refine LoopP.intro (fun k σ H=>∃ g2 g3 g i,∃ acc:List Int,k=ks.length-i∧i≤ks.length∧typL vs (ks.take i)=some acc∧acc.length=i ∧
    σ=fr [(2,.op 2 g2 0 0),(3,.op 3 g3 0 0),(6,.own 100 g 0 i),(7,encI i)] ∧
    H=hp [(2,g2,⟨26,4,[.agg [.sl 7 (vs.map encV),.sl 9 (qs.map encQn),.sl 9 (ns.map encQn),.sl 6 (ws.map encWn)]]⟩),(3,g3,⟨42,4,[.agg [encS o,encS tx,encI od,.sl 4 (ks.map encE)]]⟩),(100,g,⟨3,1,acc.map encI⟩)]) ?_ ?_
   ·exact .intro (W.mat 6 100 3 1 rfl rfl fun g=>W.of ⟨_,_,_,g,0,[],rfl,Nat.zero_le _,rfl,rfl,rfl,rfl⟩ ⟨rfl,rfl,rfl,rfl,trivial⟩ ⟨rfl,rfl,rfl,trivial⟩)
   ·rintro k σ H ⟨g2,g3,g,i,acc,rfl,hi,hac,hal,rfl,rfl⟩
    have hml:(acc.map encI).length=acc.length:=List.length_map _
    rcases Nat.lt_or_ge i ks.length with h1 | h1
    ·have hk:=ihk ks[i] (List.getElem_mem h1)
     obtain ⟨b1,b2⟩:=hst i acc hac h1 h1
     refine kW ?_
     (refine kQ ?_;repeat intro γ)
     generalize ks[i]=k at hk b1 b2 ⊢
     generalize typR vs k=R at hk b1 b2
     obtain ⟨kt,kb⟩:=R
     try simp only at b1
     try simp only at b2
     unfold encT2 at hk
     rw[encE_eq] at hk ⊢
     (refine kQ ?_;repeat intro γ)
     refine CallG.intro _ c203 hk ?_
     cases kb with
     | false=>
       rw[b2 rfl] at hF
       refine kW ?_
       (refine kQ ?_;repeat intro γ)
       exact .of (by rw[← hF];rfl)
     | true=>
       have hac':=b1 rfl
       refine kW ?_
       (refine kQ ?_;repeat intro γ)
       refine .intro <| W.of ⟨_,by omega,g2,g3,γ,i+1,acc++[kt],rfl,h1,hac',by simp[hal],rfl,rfl⟩ ⟨rfl,rfl,?_,rfl,trivial⟩ ⟨rfl,rfl,?_,trivial⟩
       ·exact congrArg (AV.own 100 _ 0) (by simp[hal])
       ·show some (_,(⟨_,_,_++_⟩:Blk))=_
        rw[List.map_append];rfl
    obtain rfl:i=ks.length:=by omega
    rw[List.take_length] at hac
    rw[hac] at hF
    simp only at hF
    unfold typH at hF
    clear hst hll
    refine kW ?_
    (refine kQ ?_;repeat intro γ)
    repeat
     refine CondP.dec (fun h=>?_) (fun h=>?_)<;>refine kW ?_
     ·rw[if_pos h] at hF
      (refine kQ ?_;repeat intro γ)
      first
       | exact .of (by rw[← hF];rfl)
       | (refine CallP.flat [100] _ c302 (pure_args (congrArg (fun z=>[z,encI 0]) (ownI rfl hal.symm)) (all_okR acc 0 (by omega))) rfl ?_
          refine kW ?_
          (refine kQ ?_;repeat intro γ)
          exact .of (by rw[← hF];rfl))
       | (refine CallP.flat [100] _ c302 (pure_args (congrArg (fun z=>[z,encI 1]) (ownI rfl hal.symm)) (all_okR acc 1 (by omega))) rfl ?_
          refine kW ?_
          (refine kQ ?_;repeat intro γ)
          exact .of (by rw[← hF];rfl))
       | (refine CallP.flat [] _ c53 hFi rfl ?_
          unfold varT at hF
          rcases hat with ⟨f1,f2⟩ | ⟨j,j1,f1,f2⟩
          ·rw[f2] at hF
           refine kW ?_
           (refine kQ ?_;repeat intro γ)
           exact .of (by rw[← hF];rfl)
          ·rw[f2] at hF
           rw[f1]
           refine kW ?_
           (refine kQ ?_;repeat intro γ)
           generalize vs[j]=v at hF ⊢
           replace hF:(v.type,decide (od=0)||decide (v.kind=0)||decide (v.kind=3))=F:=hF
           refine CondP.dec (fun c0=>?_) (fun c0=>?_)<;>refine kW ?_
           ·rw[decide_eq_true c0] at hF
            (refine kQ ?_;repeat intro γ)
            exact .of (by rw[← hF];rfl)
           ·rw[decide_eq_false c0,Bool.false_or] at hF
            (refine kQ ?_;repeat intro γ)
            refine CondP.dec (fun c1=>?_) (fun c1=>?_)<;>refine kW ?_
            ·rw[decide_eq_true c1] at hF
             (refine kQ ?_;repeat intro γ)
             exact .of (by rw[← hF];rfl)
            ·rw[decide_eq_false c1,Bool.false_or] at hF
             (refine kQ ?_;repeat intro γ)
             exact .of (by rw[← hF];rfl))
       | (have hk2:kidsF o=2:=by rw[h];rfl
          rw[hk2] at hbk
          obtain ⟨a,b,rfl⟩:∃ a b,acc=[a,b]:=by
           match acc,hal with
           | [a,b],_=>exact ⟨a,b,rfl⟩
           | [],e=>simp at e;omega
           | [_],e=>simp at e;omega
           | _::_::_::_,e=>simp at e;omega
          (refine kQ ?_;repeat intro γ)
          exact .of (by rw[← hF];rfl))
     rw[if_neg h] at hF
     (refine kQ ?_;repeat intro γ)
    have hk4:kidsF o=3:=by
     by_cases hif:o=oIf
     ·rw[hif];rfl
     ·exfalso
      have hm:kidsF o=-1:=by
       rw[← kids_same]
       unfold kidsR
       simp only[oNum,oTrue,oFalse,oVar,oPre,oTime,oInit,oNeg,oNot,oSample,oAdd,oSub,oMul,oDiv,oLess,oAtMost,oMore,oAtLeast,oEq,oNe,oAnd,oOr, *,if_false]
      omega
    rw[hk4] at hbk
    obtain ⟨a,b,c,rfl⟩:∃ a b c,acc=[a,b,c]:=by
     match acc,hal with
     | [a,b,c],_=>exact ⟨a,b,c,rfl⟩
     | [],e=>simp at e;omega
     | [_],e=>simp at e;omega
     | [_,_],e=>simp at e;omega
     | _::_::_::_::_,e=>simp at e;omega
    replace hF:(b,decide (a=1)&&decide (b=c))=F:=hF
    (refine kQ ?_;repeat intro γ)
    refine CondP.dec (fun c0=>?_) (fun c0=>?_)<;>refine kW ?_
    ·rw[decide_eq_true c0,Bool.true_and] at hF
     (refine kQ ?_;repeat intro γ)
     exact .of (by rw[← hF];rfl)
    ·rw[decide_eq_false c0,Bool.false_and] at hF
     (refine kQ ?_;repeat intro γ)
     exact .of (by rw[← hF];rfl)
end Go.Proofs.YtlhdoekgipaihaaGreatDoor
namespace Go.Proofs.YtlhdoekgipaihaaGreatDoor
open Go Go.Fw
def blkS (g:Nat) (s:Sys):Nat×Nat×Blk:=(1,g,⟨26,4,[.agg [.sl 7 (s.vars.map encV),.sl 9 (s.eqs.map encQn),.sl 9 (s.inits.map encQn),.sl 6 (s.whens.map encWn)]]⟩)
set_option maxHeartbeats 2000000 in
theorem exprs_ok (s:Sys) (h1:s.eqs.length≤120) (h2:s.inits.length≤120) (h3:s.whens.length≤120) (h4:∀ w∈s.whens,w.acts.length≤20):PureCall Tryz.prog 194 [encSy s] (.sl 4 ((allF s).map encE)):=by
 refine PC [100] Tryz.func194 rfl (by rfl) rfl ?_
 obtain ⟨vars,eqs,inits,whens⟩:=s
 simp only at h1 h2 h3 h4
 unfold encSy
 refine kW ?_
 (refine kS ?_;repeat intro γ)
 refine LoopP.intro (fun k σ H=>∃ g1 g3 j,∃ out:List Ex,k=eqs.length-j∧j≤eqs.length∧out=sides (eqs.take j) ∧
  σ=fr [(1,.op 1 g1 0 0),(3,.own 100 g3 0 out.length),(4,encI j)]∧H=hp [blkS g1 ⟨vars,eqs,inits,whens⟩,(100,g3,⟨42,4,out.map encE⟩)]) ?_ ?_
 ·exact .intro (W.mat 3 100 42 4 rfl rfl fun g=>W.of ⟨_,_,g,0,[],rfl,Nat.zero_le _,rfl,rfl,rfl⟩ ⟨rfl,rfl,rfl,trivial⟩ ⟨rfl,rfl,trivial⟩)
 ·rintro k σ H ⟨g1,g3,j,out,rfl,hj,hout,rfl,rfl⟩
  unfold blkS
  simp only
  rcases Nat.lt_or_ge j eqs.length with hj' | hj'
  ·have hs:=sides_snoc (eqs.take j) eqs[j]
   rw[← List.take_succ_eq_append_getElem hj'] at hs
   have hol:out.length≤240:=by rw[hout,sides_len,List.length_take];omega
   refine kW ?_
   (refine kQ ?_;repeat intro γ)
   generalize eqs[j]=q at hs ⊢
   (refine kQ ?_;repeat intro γ)
   refine .intro <| W.of ⟨_,by omega,g1,γ 14,j+1,out++[q.left,q.right],rfl,hj',by rw[hs,hout],rfl,rfl⟩ ⟨rfl,?_,rfl,trivial⟩ ⟨rfl,?_,trivial⟩
   ·exact congrArg (AV.own 100 (γ 14) 0) (by simp)
   ·show some (_,(⟨_,_,out.map encE++[.agg (cellsE q.left),.agg (cellsE q.right)]⟩:Blk))=_
    rw[← encE_cells,← encE_cells,List.map_append];rfl
  obtain rfl:j=eqs.length:=by omega
  rw[List.take_length] at hout
  have hol0:out.length≤240:=by rw[hout,sides_len];omega
  refine kW ?_
  (refine kQ ?_;repeat intro γ)
  refine LoopP.intro (fun k σ H=>∃ g1 g3 j,∃ out':List Ex,k=inits.length-j∧j≤inits.length∧out'=out++sides (inits.take j) ∧
   σ=fr [(1,.op 1 g1 0 0),(3,.own 100 g3 0 out'.length),(5,encI j)]∧H=hp [blkS g1 ⟨vars,eqs,inits,whens⟩,(100,g3,⟨42,4,out'.map encE⟩)]) ?_ ?_
  ·exact .intro <| W.of ⟨_,g1,g3,0,out,rfl,Nat.zero_le _,by simp[sides],rfl,rfl⟩ ⟨rfl,rfl,rfl,trivial⟩ ⟨rfl,rfl,trivial⟩
  ·clear g1 g3
   rintro k σ H ⟨g1,g3,j,out',rfl,hj,ho',rfl,rfl⟩
   unfold blkS
   simp only
   rcases Nat.lt_or_ge j inits.length with hj' | hj'
   ·have hs:=sides_snoc (inits.take j) inits[j]
    rw[← List.take_succ_eq_append_getElem hj'] at hs
    have hol:out'.length≤480:=by rw[ho',List.length_append,sides_len,List.length_take];omega
    refine kW ?_
    (refine kQ ?_;repeat intro γ)
    generalize inits[j]=q at hs ⊢
    (refine kQ ?_;repeat intro γ)
    refine .intro <| W.of ⟨_,by omega,g1,γ 14,j+1,out'++[q.left,q.right],rfl,hj',by rw[hs,ho',List.append_assoc],rfl,rfl⟩ ⟨rfl,?_,rfl,trivial⟩ ⟨rfl,?_,trivial⟩
    ·exact congrArg (AV.own 100 (γ 14) 0) (by simp)
    ·show some (_,(⟨_,_,out'.map encE++[.agg (cellsE q.left),.agg (cellsE q.right)]⟩:Blk))=_
     rw[← encE_cells,← encE_cells,List.map_append];rfl
   obtain rfl:j=inits.length:=by omega
   rw[List.take_length,hout] at ho'
   have hol:out'.length≤480:=by rw[ho',List.length_append,sides_len,sides_len];omega
   clear hout hol0
   refine kW ?_
   (refine kQ ?_;repeat intro γ)
   refine LoopP.intro (fun k σ H=>∃ g1 g3 i,∃ o2:List Ex,k=whens.length-i∧i≤whens.length∧o2=out'++(whens.take i).flatMap whenE ∧
    σ=fr [(1,.op 1 g1 0 0),(3,.own 100 g3 0 o2.length),(6,encI i)]∧H=hp [blkS g1 ⟨vars,eqs,inits,whens⟩,(100,g3,⟨42,4,o2.map encE⟩)]) ?_ ?_
   ·exact .intro <| W.of ⟨_,g1,g3,0,out',rfl,Nat.zero_le _,by simp,rfl,rfl⟩ ⟨rfl,rfl,rfl,trivial⟩ ⟨rfl,rfl,trivial⟩
   ·clear g1 g3
    rintro k σ H ⟨g1,g3,i,o2,rfl,hi,ho5,rfl,rfl⟩
    unfold blkS
    simp only
    rcases Nat.lt_or_ge i whens.length with hi' | hi'
    ·have ha:=h4 whens[i] (List.getElem_mem hi')
     have hol2:o2.length≤480+21*120:=by
      have:=when_len (whens.take i) fun w hw=>h4 w (List.mem_of_mem_take hw)
      rw[List.length_take] at this
      rw[ho5,List.length_append];omega
     obtain ⟨w,hw⟩:∃ w,whens[i]=w:=⟨_,rfl⟩
     have ho2:out'++(whens.take (i+1)).flatMap whenE=o2++whenE w:=by
      rw[List.take_succ_eq_append_getElem hi',List.flatMap_append,ho5,hw];simp
     rw[hw] at ha
     refine kW ?_
     (refine kQ ?_;repeat intro γ)
     simp only[hw]
     (refine kQ ?_;repeat intro γ)
     refine LoopP.intro (fun k σ H=>∃ g1 g3 j,∃ o3:List Ex,k=w.acts.length-j∧j≤w.acts.length∧o3=o2++w.cond::(w.acts.take j).map (·.value) ∧
      σ=fr [(1,.op 1 g1 0 0),(3,.own 100 g3 0 o3.length),(6,encI i),(7,encI j)]∧H=hp [blkS g1 ⟨vars,eqs,inits,whens⟩,(100,g3,⟨42,4,o3.map encE⟩)]) ?_ ?_
     ·refine .intro <| W.of ⟨_,g1,γ,0,o2++[w.cond],rfl,Nat.zero_le _,by simp,rfl,rfl⟩ ⟨rfl,?_,rfl,rfl,trivial⟩ ⟨rfl,?_,trivial⟩
      ·exact congrArg (AV.own 100 γ 0) (by simp)
      ·show some (_,(⟨_,_,o2.map encE++[.agg (cellsE w.cond)]⟩:Blk))=_
       rw[← encE_cells,List.map_append];rfl
     ·clear g1 g3
      rintro k σ H ⟨g1,g3,j,o3,rfl,hj,ho3,rfl,rfl⟩
      unfold blkS
      simp only
      have hol3:o3.length≤480+21*120+21:=by
       rw[ho3,List.length_append,List.length_cons,List.length_map,List.length_take];omega
      have hwl:(List.map encAc w.acts).length=w.acts.length:=List.length_map _
      rcases Nat.lt_or_ge j w.acts.length with hj' | hj'
      ·have ho4:o2++w.cond::(w.acts.take (j+1)).map (·.value)=o3++[w.acts[j].value]:=by
        rw[List.take_succ_eq_append_getElem hj',List.map_append,ho3];simp
       refine kW ?_
       (refine kQ ?_;repeat intro γ)
       simp only[hw]
       (refine kQ ?_;repeat intro γ)
       simp only[hw]
       (refine kQ ?_;repeat intro γ)
       generalize w.acts[j]=a at ho4 ⊢
       (refine kQ ?_;repeat intro γ)
       refine .intro <| W.of ⟨_,by omega,g1,γ,j+1,o3++[a.value],rfl,hj',ho4.symm,rfl,rfl⟩ ⟨rfl,?_,rfl,rfl,trivial⟩ ⟨rfl,?_,trivial⟩
       ·exact congrArg (AV.own 100 γ 0) (by simp)
       ·show some (_,(⟨_,_,o3.map encE++[.agg (cellsE a.value)]⟩:Blk))=_
        rw[← encE_cells,List.map_append];rfl
      ·rw[show j=w.acts.length by omega,List.take_length] at ho3
       refine kW ?_
       (refine kQ ?_;repeat intro γ)
       simp only[hw]
       (refine kQ ?_;repeat intro γ)
       exact .intro <| W.of ⟨_,by omega,g1,g3,i+1,o3,rfl,hi',by rw[ho3,ho2];rfl,rfl,rfl⟩ ⟨rfl,rfl,rfl,trivial⟩ ⟨rfl,rfl,trivial⟩
    ·rw[show i=whens.length by omega,List.take_length] at ho5
     refine kW ?_
     (refine kQ ?_;repeat intro γ)
     refine .of ?_
     have e:allF ⟨vars,eqs,inits,whens⟩=o2:=by rw[ho5,ho'];rfl
     rw[e]
     show AV.sl 4 ((((o2.map encE).drop 0).take o2.length).map _)=_
     rw[List.drop_zero,List.take_of_length_le (by simp),List.map_map]
     congr 1
     refine List.map_congr_left fun x _=>?_
     show snapEl _ (encE x)=encE x
     rw[encE_cells];rfl
theorem all_len (s:Sys) (h1:s.eqs.length≤120) (h2:s.inits.length≤120) (h3:s.whens.length≤120) (h4:∀ w∈s.whens,w.acts.length≤20):(allF s).length≤3000:=by
 unfold allF
 have:=when_len s.whens h4
 rw[List.length_append,List.length_append,sides_len,sides_len]
 omega
def szS (l:List Ex):Nat:=(l.map szF).sum
theorem nodes_same:∀ (l:List Ex) (L:Int),nodesL l L=(l.any largeR||decide (L-szS l<0))
 | [],L=>by simp[nodesL,szS]
 | e :: r,L=>by
   unfold nodesL
   rw[nodes_same r,large_same,List.any_cons]
   cases h:largeR e with
   | true=>rfl
   | false=>
     rw[size_same e h,Bool.false_or,Bool.false_or]
     congr 1
     refine decide_eq_decide.2 ?_
     unfold szS
     rw[List.map_cons,List.sum_cons]
     omega
theorem szS_snoc (l:List Ex) (e:Ex):szS (l++[e])=szS l+szF e:=by unfold szS;simp
set_option maxHeartbeats 2000000 in
theorem limits_ok (s:Sys) (hs:SzS s):PureCall Tryz.prog 95 [encSy s] (encB (!largeF s)):=by
 refine PC [] Tryz.func95 rfl (by rfl) rfl ?_
 have hse:=hs.e
 have hv:=hs.v
 have hq:=hs.q
 have hn:=hs.n
 have hw:=hs.w
 have ha:=hs.a
 have hex:=exprs_ok s
 have hal:=all_len s
 generalize hF:(!largeF s)=F
 unfold largeF at hF
 rw[nodes_same] at hF
 clear hs
 have hSy:encSy s=.agg [.sl 7 (s.vars.map encV),.sl 9 (s.eqs.map encQn),.sl 9 (s.inits.map encQn),.sl 6 (s.whens.map encWn)]:=rfl
 rw[hSy] at hex ⊢
 generalize allF s=A at *
 obtain ⟨vars,eqs,inits,whens⟩:=s
 simp only at *
 by_cases b1:120<vars.length
 ·rw[decide_eq_true b1] at hF
  refine kW ?_
  (refine kQ ?_;repeat intro γ)
  exact .of (by rw[← hF];rfl)
 rw[decide_eq_false b1,Bool.false_or] at hF
 by_cases b2:120<max (max eqs.length inits.length) whens.length
 ·rw[decide_eq_true b2] at hF
  have hF':F=false:=by rw[← hF];rfl
  clear hF
  by_cases c1:120<eqs.length
  ·refine kW ?_
   (refine kQ ?_;repeat intro γ)
   exact .of (by rw[hF'];rfl)
  by_cases c2:120<inits.length
  ·refine kW ?_
   (refine kQ ?_;repeat intro γ)
   exact .of (by rw[hF'];rfl)
  refine kW ?_
  (refine kQ ?_;repeat intro γ)
  exact .of (by rw[hF'];rfl)
 rw[decide_eq_false b2,Bool.false_or] at hF
 refine kW ?_
 (refine kQ ?_;repeat intro γ)
 refine LoopP.intro (fun k σ H=>∃ g i,k=whens.length-i∧i≤whens.length∧(∀ j (h:j<whens.length),j<i→whens[j].acts.length≤20) ∧
  σ=fr [(1,.op 1 g 0 0),(3,encI i)]∧H=hp [blkS g ⟨vars,eqs,inits,whens⟩]) ?_ ?_
 ·exact .intro <| W.of ⟨_,_,0,rfl,Nat.zero_le _,fun j h h'=>absurd h' (by omega),rfl,rfl⟩ ⟨rfl,rfl,trivial⟩ ⟨rfl,trivial⟩
 ·rintro k σ H ⟨g,i,rfl,hi,hj,rfl,rfl⟩
  unfold blkS
  simp only
  rcases Nat.lt_or_ge i whens.length with hi' | hi'
  ·obtain ⟨w,hw⟩:∃ w,whens[i]=w:=⟨_,rfl⟩
   have hal2:=ha whens[i] (List.getElem_mem hi')
   have hwl:(List.map encAc w.acts).length=w.acts.length:=List.length_map _
   by_cases c1:20<w.acts.length
   ·have:(whens.any fun w=>decide (20<w.acts.length))=true:=List.any_eq_true.2 ⟨whens[i],List.getElem_mem hi',by rw[hw];exact decide_eq_true c1⟩
    rw[this] at hF
    refine kW ?_
    (refine kQ ?_;repeat intro γ)
    simp only[hw]
    (refine kQ ?_;repeat intro γ)
    exact .of (by rw[← hF];rfl)
   ·have hj':∀ j (h:j<whens.length),j<i+1→whens[j].acts.length≤20:=fun j h h'=>by
     by_cases he:j=i
     ·subst he;rw[hw];omega
     ·exact hj j h (by omega)
    clear hj
    refine kW ?_
    (refine kQ ?_;repeat intro γ)
    simp only[hw]
    (refine kQ ?_;repeat intro γ)
    exact .intro <| W.of ⟨_,by omega,g,i+1,rfl,hi',hj',rfl,rfl⟩ ⟨rfl,rfl,trivial⟩ ⟨rfl,trivial⟩
  obtain rfl:i=whens.length:=by omega
  have h20:∀ w∈whens,w.acts.length≤20:=fun w hw=>by
   obtain ⟨j,hj',rfl⟩:=List.mem_iff_getElem.1 hw
   exact hj j hj' hj'
  have hany:(whens.any fun w=>decide (20<w.acts.length))=false:=by
   rw[List.any_eq_false]
   intro w hw
   have:=h20 w hw
   simp;omega
  rw[hany,Bool.false_or] at hF
  have hex':=hex (by omega) (by omega) (by omega) h20
  have hal':=hal (by omega) (by omega) (by omega) h20
  clear hex hal hj hany h20
  refine kW ?_
  (refine kQ ?_;repeat intro γ)
  refine CallP.pure [] _ c194 hex' ?_
  refine kW ?_
  (refine kQ ?_;repeat intro γ)
  refine LoopP.intro (fun k σ H=>∃ i,k=A.length-i∧i≤A.length∧(!((A.drop i).any largeR||decide ((4000:Int)-szS A<0)))=F∧szS (A.take i)≤200*i ∧
   σ=fr [(4,.sl 4 (A.map encE)),(5,encI (szS (A.take i))),(6,encI i)]∧H=hp []) ?_ ?_
  ·exact .intro <| W.of ⟨_,0,rfl,Nat.zero_le _,hF,Nat.le_refl _,rfl,rfl⟩ ⟨rfl,rfl,rfl,trivial⟩ trivial
  ·clear hF
   rintro k σ H ⟨i,rfl,hi,hF,hsz,rfl,rfl⟩
   rcases Nat.lt_or_ge i A.length with hi' | hi'
   ·rw[List.drop_eq_getElem_cons hi',List.any_cons] at hF
    have hz:=(hse A[i] (List.getElem_mem hi')).1
    have hl:=Large_ok A[i] hz
    have hsr:=sizeR_ok A[i] hz 200 (by omega)
    have hsn:=szS_snoc (A.take i) A[i]
    rw[← List.take_succ_eq_append_getElem hi'] at hsn
    have hlr:largeR A[i]=(decide (200<szF A[i])||decide (24<htF A[i])):=rfl
    obtain ⟨e,he⟩:∃ e,A[i]=e:=⟨_,rfl⟩
    rw[he] at hz hl hsr hsn hlr hF
    refine kW ?_
    (refine kQ ?_;repeat intro γ)
    simp only[he]
    rw[encE_eq] at hl hsr
    cases hb:largeR e with
    | true=>
      rw[hb] at hF hl
      rw[encE_eq]
      (refine kQ ?_;repeat intro γ)
      refine CallP.flat [] _ c116 hl rfl ?_
      refine kW ?_
      (refine kQ ?_;repeat intro γ)
      exact .of (by rw[← hF];rfl)
    | false=>
      rw[hb] at hF hl hlr
      rw[Bool.false_or] at hF
      have h200:szF e≤200:=by
       have:=hlr.symm
       simp at this
       omega
      rw[show min (szF e) (200+1)=szF e by omega] at hsr
      rw[encE_eq]
      (refine kQ ?_;repeat intro γ)
      refine CallP.flat [] _ c116 hl rfl ?_
      refine kW ?_
      (refine kQ ?_;repeat intro γ)
      simp only[he]
      rw[encE_eq]
      (refine kQ ?_;repeat intro γ)
      refine CallP.flat [] _ c195 hsr rfl ?_
      refine kW ?_
      (refine kQ ?_;repeat intro γ)
      refine .intro <| W.of ⟨_,by omega,i+1,rfl,hi',hF,by omega,rfl,rfl⟩ ⟨rfl,?_,rfl,trivial⟩ trivial
      show AV.val (.int .i64 _)=AV.val (.int .i64 _)
      congr 2;omega
   ·rw[List.drop_eq_nil_of_le hi'] at hF
    rw[List.take_of_length_le hi']
    refine kW ?_
    (refine kQ ?_;repeat intro γ)
    refine .of ?_
    rw[← hF]
    show AV.val (.bool (decide _))=AV.val (.bool _)
    congr 2
    rw[Bool.eq_iff_iff]
    simp
end Go.Proofs.YtlhdoekgipaihaaGreatDoor
namespace Go.Proofs.YtlhdoekgipaihaaGreatDoor
open Go Go.Fw
theorem IsUnitS_ok (s:ByteArray) (hs:s.size<2^35):PureCall Tryz.prog 196 [encS s] (encB (unitF s)):=by
 have h:=IsUnit_ok s.data.toList (by exact hs)
 rw[unit_same,ofL_data] at h
 exact h
set_option maxHeartbeats 4000000 in
theorem isVar_ok (v:Va) (h0:v.name.size<2^35) (h1:v.value.size<2^35) (h2:v.start.size<2^35) (h3:v.unit.size<2^35):PureCall Tryz.prog 98 [encV v] (encB (nameF v.name&&varF v)):=by
 refine PC [] Tryz.func98 rfl (by rfl) rfl ?_
 obtain ⟨name,k,t,vl,st,fx,un⟩:=v
 have hnm:=IsName_ok name (by simp only at h0;omega)
 have hu:=IsUnitS_ok un h3
 generalize hF:(nameF name&&varF ⟨name,k,t,vl,st,fx,un⟩)=F
 unfold varF at hF
 simp only at hF hu
 generalize unitF un=b3 at hF hu
 cases hn:nameF name with
 | false=>
   rw[hn,Bool.false_and] at hF
   rw[hn] at hnm
   unfold encV
   refine kW ?_
   (refine kS ?_;repeat intro γ)
   refine CallP.flat [] _ c124 hnm rfl ?_
   refine kW ?_
   (refine kS ?_;repeat intro γ)
   exact .of (by rw[← hF];rfl)
 | true=>
   rw[hn,Bool.true_and] at hF
   rw[hn] at hnm
   clear hn
   by_cases hk:kindF k t=true
   case neg =>
    have hk':kindF k t=false:=by simpa using hk
    rw[hk',Bool.false_and,Bool.false_and,Bool.false_and,Bool.false_and] at hF
    subst hF
    unfold kindF at hk'
    have hkk:k<0∨3<k∨(t≠0∧t≠1)∨(t=1∧(k=0∨k=3)):=by
     simp at hk'
     omega
    clear hk hk'
    unfold encV
    refine kW ?_
    (refine kS ?_;repeat intro γ)
    refine CallP.flat [] _ c124 hnm rfl ?_
    refine kW ?_
    (refine kS ?_;repeat intro γ)
    rcases hkk with h | h | ⟨h,h'⟩ | ⟨rfl,rfl | rfl⟩
    all_goals first
     | ((refine kO ?_;repeat intro γ);exact .of rfl)
     | ((refine kS ?_;repeat intro γ);exact .of rfl)
     | (by_cases k0:k<0
        ·(refine kO ?_;repeat intro γ)
         exact .of rfl
        by_cases k3:3<k
        ·(refine kO ?_;repeat intro γ)
         exact .of rfl
        (refine kO ?_;repeat intro γ)
        exact .of rfl)
   rw[hk,Bool.true_and] at hF
   have hcs:(t=0∧(k=0∨k=1∨k=2∨k=3))∨(t=1∧(k=1∨k=2)):=by
    unfold kindF at hk
    simp at hk
    omega
   clear hk
   have hv1:=IsValue_ok vl t h1 (by omega)
   have hv2:=IsValue_ok st t h2 (by omega)
   generalize valueF vl t=b1 at hF hv1
   generalize valueF st t=b2 at hF hv2
   clear h0 h1 h2 h3
   unfold encV
   rcases hcs with ⟨rfl,rfl | rfl | rfl | rfl⟩ | ⟨rfl,rfl | rfl⟩
   all_goals
    simp only[Int.reduceEq,decide_true,decide_false,Bool.true_or,Bool.or_true,Bool.false_or,Bool.or_self,if_true,if_false,Bool.true_and,Bool.false_and,eq_self,Bool.or_false,reduceIte] at hF
    refine kW ?_
    (refine kS ?_;repeat intro γ)
    refine CallP.flat [] _ c124 hnm rfl ?_
    refine kW ?_
    (refine kS ?_;repeat intro γ)
    repeat (any_goals (first
     | exact .of (by rw[← hF];rfl)
     | exact .of (by rw[← hF];exact congrArg encB (by assumption))
     | (refine CallP.flat [] _ c165 hv1 rfl ?_;refine kW ?_;(refine kS ?_;repeat intro γ))
     | (refine CallP.flat [] _ c165 hv2 rfl ?_;refine kW ?_;(refine kS ?_;repeat intro γ))
     | (refine CallP.flat [] _ c196 hu rfl ?_;refine kW ?_;(refine kS ?_;repeat intro γ))
     | (refine CondP.intro (fun h=>?_) (fun h=>?_)<;>refine kW ?_<;>(try simp only at h)<;>(try simp only[h,Bool.true_and,Bool.false_and,Bool.and_true,Bool.and_false,Bool.true_or,Bool.false_or,Bool.not_true,Bool.not_false,Bool.or_true,Bool.or_false] at hF)<;>(refine kS ?_;repeat intro γ))))
end Go.Proofs.YtlhdoekgipaihaaGreatDoor
namespace Go.Proofs.YtlhdoekgipaihaaGreatDoor
open Go Go.Fw
def isR (vs:List Va) (e:Ex) (t:Int):Bool:=builtF e&&(typR vs e).2&&decide ((typR vs e).1=t)
theorem is_ok (s:Sys) (hv:s.vars.length≤2^60) (e:Ex) (t:Int) (hs:SzE e) (hx:TxE e):PureCall Tryz.prog 197 [encSy s,encE e,encI t] (encB (isR s.vars e t)):=by
 refine PC [] Tryz.func197 rfl (by rfl) rfl ?_
 have hb:=BuiltR_ok e hs hx
 have ht:=typedR_ok s hv e hs
 generalize hF:isR s.vars e t=F
 unfold isR at hF
 generalize builtF e=b at *
 generalize typR s.vars e=r at *
 obtain ⟨rt,rb⟩:=r
 unfold encT2 encSy at ht
 unfold encSy
 rw[encE_eq] at hb ht ⊢
 cases b with
 | false=>
   refine kW ?_
   (refine kQ ?_;repeat intro γ)
   refine CallP.flat [] _ c147 hb rfl ?_
   refine kW ?_
   (refine kQ ?_;repeat intro γ)
   exact .of (by rw[← hF];rfl)
 | true=>
   have ht':=ht rfl
   simp only[Bool.true_and] at hF ht'
   refine kW ?_
   (refine kQ ?_;repeat intro γ)
   refine CallP.flat [] _ c147 hb rfl ?_
   refine kW ?_
   (refine kQ ?_;repeat intro γ)
   refine CallP.pure [] _ c203 ht' ?_
   cases rb with
   | false=>
     refine kW ?_
     (refine kQ ?_;repeat intro γ)
     exact .of (by rw[← hF];rfl)
   | true=>
     rw[Bool.true_and] at hF
     refine kW ?_
     (refine kQ ?_;repeat intro γ)
     exact .of (by rw[← hF];rfl)
def encSs (l:List ByteArray):AV:=.sl 1 (l.map encS)
def memR (A:List ByteArray) (s:ByteArray):Bool:=A.any fun x=>decide (x=s)
theorem in_ok (l:List ByteArray) (s:ByteArray) (hl:l.length<2^60):PureCall Tryz.prog 198 [encSs l,encS s] (encB (memR l s)):=by
 refine PC [] Tryz.func198 rfl (by rfl) rfl ?_
 generalize hF:memR l s=F
 have hF2:memR (l.drop 0) s=F:=hF
 unfold encSs
 refine kW ?_
 (refine kQ ?_;repeat intro γ)
 refine LoopP.intro (fun k σ H=>∃ i,i≤l.length∧k=l.length-i∧memR (l.drop i) s=F∧σ=fr [(0,encSs l),(1,encS s),(5,encI i)]∧H=hp []) ?_ ?_
 ·exact .intro <| W.of ⟨_,0,Nat.zero_le _,rfl,hF2,rfl,rfl⟩ ⟨rfl,rfl,rfl,trivial⟩ trivial
 ·clear hF hF2
  rintro k σ H ⟨i,hi,rfl,hF,rfl,rfl⟩
  unfold encSs
  rcases Nat.lt_or_ge i l.length with h1 | h1
  ·rw[List.drop_eq_getElem_cons h1] at hF
   unfold memR at hF
   rw[List.any_cons] at hF
   refine kW ?_
   (refine kQ ?_;repeat intro γ)
   generalize l[i]=x at hF ⊢
   refine CondP.dec (fun h=>?_) (fun h=>?_)<;>refine kW ?_
   ·rw[decide_eq_true h,Bool.true_or] at hF
    (refine kQ ?_;repeat intro γ)
    exact .of (by rw[← hF];rfl)
   ·rw[decide_eq_false h,Bool.false_or] at hF
    (refine kQ ?_;repeat intro γ)
    exact .intro <| W.of ⟨_,by omega,i+1,h1,rfl,hF,rfl,rfl⟩ ⟨rfl,rfl,rfl,trivial⟩ trivial
  ·rw[List.drop_eq_nil_of_le h1] at hF
   refine kW ?_
   (refine kQ ?_;repeat intro γ)
   exact .of (by rw[← hF];rfl)
theorem rises_ok (l:List ByteArray) (hl:l.length<2^60) (hn:∀ x∈l,x.size<2^35):PureCall Tryz.prog 97 [encSs l] (encB (risG l none)):=by
 refine PC [] Tryz.func97 rfl (by rfl) rfl ?_
 generalize hF:risG l none=F
 unfold encSs
 refine kW ?_
 (refine kQ ?_;repeat intro γ)
 refine LoopP.intro (fun k σ H=>∃ i,i≤l.length∧k=l.length-i∧risG (l.drop i) (pvN l i)=F∧σ=fr [(0,encSs l),(3,encI i)]∧H=hp []) ?_ ?_
 ·exact .intro <| W.of ⟨_,0,Nat.zero_le _,rfl,hF,rfl,rfl⟩ ⟨rfl,rfl,trivial⟩ trivial
 ·clear hF
  rintro k σ H ⟨i,hi,rfl,hF,rfl,rfl⟩
  unfold encSs
  rcases Nat.lt_or_ge i l.length with h1 | h1
  ·rw[List.drop_eq_getElem_cons h1] at hF
   unfold risG at hF
   have hnm:=IsName_ok l[i] (by have:=hn _ (List.getElem_mem h1);omega)
   have hpv:pvN l (i+1)=some l[i]:=by rw[pvN_s,List.getElem?_eq_getElem h1]
   rw[← hpv] at hF
   obtain ⟨x,hx⟩:∃ x,l[i]=x:=⟨_,rfl⟩
   rw[hx] at hF hnm
   cases hb:nameF x with
   | false=>
     rw[hb] at hF hnm
     refine kW ?_
     (refine kQ ?_;repeat intro γ)
     simp only[hx]
     (refine kQ ?_;repeat intro γ)
     refine CallG.intro _ c124 hnm ?_
     refine kW ?_
     (refine kQ ?_;repeat intro γ)
     exact .of (by rw[← hF];rfl)
   | true=>
     rw[hb,Bool.true_and] at hF
     rw[hb] at hnm
     cases i with
     | zero=>
       have hF2:(true&&risG (l.drop (0+1)) (pvN l (0+1)))=F:=hF
       rw[Bool.true_and] at hF2
       refine kW ?_
       (refine kQ ?_;repeat intro γ)
       simp only[hx]
       (refine kQ ?_;repeat intro γ)
       refine CallG.intro _ c124 hnm ?_
       refine kW ?_
       (refine kQ ?_;repeat intro γ)
       exact .intro <| W.of ⟨_,by omega,1,by omega,rfl,hF2,rfl,rfl⟩ ⟨rfl,rfl,trivial⟩ trivial
     | succ i=>
       have h2:i<l.length:=by omega
       rw[pvN_s,List.getElem?_eq_getElem h2] at hF
       have hF2:(Op.bytesLess l[i].toList x.toList&&risG (l.drop (i+1+1)) (pvN l (i+1+1)))=F:=hF
       have e1:(((i+1:Nat):Int)-1).toNat=i:=by omega
       refine kW ?_
       (refine kQ ?_;repeat intro γ)
       simp only[hx]
       (refine kQ ?_;repeat intro γ)
       refine CallG.intro _ c124 hnm ?_
       refine kW ?_
       (refine kQ ?_;repeat intro γ)
       simp only[e1,hx]
       (refine kQ ?_;repeat intro γ)
       generalize l[i]=y at hF2 ⊢
       refine CondP.intro (fun h=>?_) (fun h=>?_)<;>refine kW ?_
       ·rw[h,Bool.true_and] at hF2
        (refine kQ ?_;repeat intro γ)
        exact .intro <| W.of ⟨_,by omega,i+1+1,by omega,rfl,hF2,rfl,rfl⟩ ⟨rfl,rfl,trivial⟩ trivial
       ·rw[h,Bool.false_and] at hF2
        (refine kQ ?_;repeat intro γ)
        exact .of (by rw[← hF2];rfl)
  ·rw[List.drop_eq_nil_of_le h1] at hF
   refine kW ?_
   (refine kQ ?_;repeat intro γ)
   exact .of (by rw[← hF];rfl)
end Go.Proofs.YtlhdoekgipaihaaGreatDoor
namespace Go.Proofs.YtlhdoekgipaihaaGreatDoor
open Go Go.Fw
def eqsR (vs:List Va) (l:List Eqn):Bool:=l.all fun q=>isR vs q.left 0&&isR vs q.right 0
set_option maxHeartbeats 1000000 in
theorem eqs_ok (s:Sys) (hv:s.vars.length≤2^60) (l:List Eqn) (hl:l.length≤2^60) (hq:∀ q∈l,(SzE q.left∧TxE q.left)∧SzE q.right∧TxE q.right):PureCall Tryz.prog 99 [encSy s,.sl 9 (l.map encQn)] (encB (eqsR s.vars l)):=by
 refine PC [] Tryz.func99 rfl (by rfl) rfl ?_
 have hi:=fun e t h h'=>is_ok s hv e t h h'
 obtain ⟨vs,qs,ns,ws⟩:=s
 simp only at hv hi ⊢
 generalize hF:eqsR vs l=F
 have hF2:eqsR vs (l.drop 0)=F:=hF
 unfold encSy at hi ⊢
 try simp only at hi
 refine kW ?_
 (refine kQ ?_;repeat intro γ)
 refine LoopP.intro (fun k σ H=>∃ g i,i≤l.length∧k=l.length-i∧eqsR vs (l.drop i)=F∧σ=fr [(1,.sl 9 (l.map encQn)),(2,.op 2 g 0 0),(5,encI i)] ∧
  H=hp [(2,g,⟨26,4,[.agg [.sl 7 (vs.map encV),.sl 9 (qs.map encQn),.sl 9 (ns.map encQn),.sl 6 (ws.map encWn)]]⟩)]) ?_ ?_
 ·exact .intro <| W.of ⟨_,_,0,Nat.zero_le _,rfl,hF2,rfl,rfl⟩ ⟨rfl,rfl,rfl,trivial⟩ ⟨rfl,trivial⟩
 ·clear hF hF2
  rintro k σ H ⟨g,i,hi',rfl,hF,rfl,rfl⟩
  rcases Nat.lt_or_ge i l.length with h1 | h1
  ·rw[List.drop_eq_getElem_cons h1] at hF
   unfold eqsR at hF
   rw[List.all_cons] at hF
   have hz:=hq _ (List.getElem_mem h1)
   obtain ⟨q,hqq⟩:∃ q,l[i]=q:=⟨_,rfl⟩
   rw[hqq] at hF hz
   have t1:=hi q.left 0 hz.1.1 hz.1.2
   have t2:=hi q.right 0 hz.2.1 hz.2.2
   generalize isR vs q.left 0=y1 at hF t1
   generalize isR vs q.right 0=y2 at hF t2
   rw[encE_cells] at t1 t2
   refine kW ?_
   (refine kQ ?_;repeat intro γ)
   simp only[hqq]
   (refine kQ ?_;repeat intro γ)
   refine CallG.intro _ c197 t1 ?_
   cases y1 with
   | false=>
     refine kW ?_
     (refine kQ ?_;repeat intro γ)
     exact .of (by rw[← hF];rfl)
   | true=>
     refine kW ?_
     (refine kQ ?_;repeat intro γ)
     simp only[hqq]
     (refine kQ ?_;repeat intro γ)
     refine CallG.intro _ c197 t2 ?_
     cases y2 with
     | false=>
       refine kW ?_
       (refine kQ ?_;repeat intro γ)
       exact .of (by rw[← hF];rfl)
     | true=>
       refine kW ?_
       (refine kQ ?_;repeat intro γ)
       exact .intro <| W.of ⟨_,by omega,g,i+1,h1,rfl,hF,rfl,rfl⟩ ⟨rfl,rfl,rfl,trivial⟩ ⟨rfl,trivial⟩
  ·rw[List.drop_eq_nil_of_le h1] at hF
   refine kW ?_
   (refine kQ ?_;repeat intro γ)
   exact .of (by rw[← hF];rfl)
def hpN (g1 a b c d:Nat) (s:Sys) (A B C D:List ByteArray):List (Nat×Nat×Blk):=
 [blkS g1 s,(101,a,⟨9,1,A.map encS⟩),(102,b,⟨9,1,B.map encS⟩),(103,c,⟨9,1,C.map encS⟩),(104,d,⟨9,1,D.map encS⟩)]
theorem endS {S:List Nat} {H:Hp} {k:Nat} {L:List AV} {n:Nat} {xs:List ByteArray} (h:L=xs.map encS) (hn:n=xs.length):AV.sl 1 (((L.drop 0).take n).map (snapEl (snapC S H k)))=encSs xs:=by
 subst h
 rw[snap_list _ _ _ _ hn fun x=>by cases k<;>rfl];rfl
theorem take_snoc {α:Type} (l:List α) (i:Nat) (h:i<l.length):l.take i++[l[i]]=l.take (i+1):=(List.take_succ_eq_append_getElem h).symm
set_option maxHeartbeats 2000000 in
theorem names_ok (s:Sys) (h1:s.vars.length≤2^40) (h2:s.eqs.length≤2^40) (h3:s.inits.length≤2^40) (h4:s.whens.length≤2^40):PureCall Tryz.prog 96 [encSy s] (.tup [encSs (s.vars.map Va.name),encSs (s.eqs.map Eqn.name),encSs (s.inits.map Eqn.name),encSs (s.whens.map Whn.name)]):=by
 refine PC [101,102,103,104] Tryz.func96 rfl (by rfl) rfl ?_
 have hSy:encSy s=.agg [.sl 7 (s.vars.map encV),.sl 9 (s.eqs.map encQn),.sl 9 (s.inits.map encQn),.sl 6 (s.whens.map encWn)]:=rfl
 rw[hSy]
 refine kW ?_
 (refine kQ ?_;repeat intro γ)
 refine LoopP.intro (fun k σ H=>∃ g1 a b c d i,k=s.vars.length-i∧i≤s.vars.length ∧
  σ=fr [(1,.op 1 g1 0 0),(6,.own 101 a 0 i),(7,.own 102 b 0 0),(8,.own 103 c 0 0),(9,.own 104 d 0 0),(10,encI i)]∧H=hp (hpN g1 a b c d s ((s.vars.map Va.name).take i) [] [] [])) ?_ ?_
 ·exact .intro (W.mat 6 101 9 1 rfl rfl fun a=>W.mat 7 102 9 1 rfl rfl fun b=>W.mat 8 103 9 1 rfl rfl fun c=>W.mat 9 104 9 1 rfl rfl fun d=>W.of ⟨_,_,a,b,c,d,0,rfl,Nat.zero_le _,rfl,rfl⟩ ⟨rfl,rfl,rfl,rfl,rfl,rfl,trivial⟩ ⟨rfl,rfl,rfl,rfl,rfl,trivial⟩)
 ·rintro k σ H ⟨g1,a,b,c,d,i,rfl,hi,rfl,rfl⟩
  unfold hpN blkS
  have hlm:((s.vars.map Va.name).take i).length=i:=by rw[List.length_take,List.length_map];omega
  rcases Nat.lt_or_ge i s.vars.length with hi' | hi'
  ·have hts:=take_snoc (s.vars.map Va.name) i (by rw[List.length_map];exact hi')
   rw[List.getElem_map] at hts
   refine kW ?_
   (refine kQ ?_;repeat intro γ)
   refine .intro <| W.of ⟨_,by omega,g1,γ,b,c,d,i+1,rfl,hi',rfl,rfl⟩ ⟨rfl,rfl,rfl,rfl,rfl,rfl,trivial⟩ ⟨rfl,?_,rfl,rfl,rfl,trivial⟩
   rw[← hts,List.map_append];rfl
  obtain rfl:i=s.vars.length:=by omega
  rw[List.take_of_length_le (by rw[List.length_map];exact Nat.le_refl _)]
  refine kW ?_
  (refine kQ ?_;repeat intro γ)
  refine LoopP.intro (fun k σ H=>∃ g1 a b c d i,k=s.eqs.length-i∧i≤s.eqs.length ∧
   σ=fr [(1,.op 1 g1 0 0),(6,.own 101 a 0 s.vars.length),(7,.own 102 b 0 i),(8,.own 103 c 0 0),(9,.own 104 d 0 0),(11,encI i)]∧H=hp (hpN g1 a b c d s (s.vars.map Va.name) ((s.eqs.map Eqn.name).take i) [] [])) ?_ ?_
  ·exact .intro <| W.of ⟨_,g1,a,b,c,d,0,rfl,Nat.zero_le _,rfl,rfl⟩ ⟨rfl,rfl,rfl,rfl,rfl,rfl,trivial⟩ ⟨rfl,rfl,rfl,rfl,rfl,trivial⟩
  ·clear hlm hi hi' g1 a b c d
   rintro k σ H ⟨g1,a,b,c,d,i,rfl,hi,rfl,rfl⟩
   unfold hpN blkS
   have hlm:((s.eqs.map Eqn.name).take i).length=i:=by rw[List.length_take,List.length_map];omega
   rcases Nat.lt_or_ge i s.eqs.length with hi' | hi'
   ·have hts:=take_snoc (s.eqs.map Eqn.name) i (by rw[List.length_map];exact hi')
    rw[List.getElem_map] at hts
    refine kW ?_
    (refine kQ ?_;repeat intro γ)
    refine .intro <| W.of ⟨_,by omega,g1,a,γ,c,d,i+1,rfl,hi',rfl,rfl⟩ ⟨rfl,rfl,rfl,rfl,rfl,rfl,trivial⟩ ⟨rfl,rfl,?_,rfl,rfl,trivial⟩
    rw[← hts,List.map_append];rfl
   obtain rfl:i=s.eqs.length:=by omega
   rw[List.take_of_length_le (by rw[List.length_map];exact Nat.le_refl _)]
   refine kW ?_
   (refine kQ ?_;repeat intro γ)
   refine LoopP.intro (fun k σ H=>∃ g1 a b c d i,k=s.inits.length-i∧i≤s.inits.length ∧
    σ=fr [(1,.op 1 g1 0 0),(6,.own 101 a 0 s.vars.length),(7,.own 102 b 0 s.eqs.length),(8,.own 103 c 0 i),(9,.own 104 d 0 0),(12,encI i)]∧H=hp (hpN g1 a b c d s (s.vars.map Va.name) (s.eqs.map Eqn.name) ((s.inits.map Eqn.name).take i) [])) ?_ ?_
   ·exact .intro <| W.of ⟨_,g1,a,b,c,d,0,rfl,Nat.zero_le _,rfl,rfl⟩ ⟨rfl,rfl,rfl,rfl,rfl,rfl,trivial⟩ ⟨rfl,rfl,rfl,rfl,rfl,trivial⟩
   ·clear hlm hi hi' g1 a b c d
    rintro k σ H ⟨g1,a,b,c,d,i,rfl,hi,rfl,rfl⟩
    unfold hpN blkS
    have hlm:((s.inits.map Eqn.name).take i).length=i:=by rw[List.length_take,List.length_map];omega
    rcases Nat.lt_or_ge i s.inits.length with hi' | hi'
    ·have hts:=take_snoc (s.inits.map Eqn.name) i (by rw[List.length_map];exact hi')
     rw[List.getElem_map] at hts
     refine kW ?_
     (refine kQ ?_;repeat intro γ)
     refine .intro <| W.of ⟨_,by omega,g1,a,b,γ,d,i+1,rfl,hi',rfl,rfl⟩ ⟨rfl,rfl,rfl,rfl,rfl,rfl,trivial⟩ ⟨rfl,rfl,rfl,?_,rfl,trivial⟩
     rw[← hts,List.map_append];rfl
    obtain rfl:i=s.inits.length:=by omega
    rw[List.take_of_length_le (by rw[List.length_map];exact Nat.le_refl _)]
    refine kW ?_
    (refine kQ ?_;repeat intro γ)
    refine LoopP.intro (fun k σ H=>∃ g1 a b c d i,k=s.whens.length-i∧i≤s.whens.length ∧
     σ=fr [(1,.op 1 g1 0 0),(6,.own 101 a 0 s.vars.length),(7,.own 102 b 0 s.eqs.length),(8,.own 103 c 0 s.inits.length),(9,.own 104 d 0 i),(13,encI i)]∧H=hp (hpN g1 a b c d s (s.vars.map Va.name) (s.eqs.map Eqn.name) (s.inits.map Eqn.name) ((s.whens.map Whn.name).take i))) ?_ ?_
    ·exact .intro <| W.of ⟨_,g1,a,b,c,d,0,rfl,Nat.zero_le _,rfl,rfl⟩ ⟨rfl,rfl,rfl,rfl,rfl,rfl,trivial⟩ ⟨rfl,rfl,rfl,rfl,rfl,trivial⟩
    ·clear hlm hi hi' g1 a b c d
     rintro k σ H ⟨g1,a,b,c,d,i,rfl,hi,rfl,rfl⟩
     unfold hpN blkS
     have hlm:((s.whens.map Whn.name).take i).length=i:=by rw[List.length_take,List.length_map];omega
     rcases Nat.lt_or_ge i s.whens.length with hi' | hi'
     ·have hts:=take_snoc (s.whens.map Whn.name) i (by rw[List.length_map];exact hi')
      rw[List.getElem_map] at hts
      refine kW ?_
      (refine kQ ?_;repeat intro γ)
      refine .intro <| W.of ⟨_,by omega,g1,a,b,c,γ,i+1,rfl,hi',rfl,rfl⟩ ⟨rfl,rfl,rfl,rfl,rfl,rfl,trivial⟩ ⟨rfl,rfl,rfl,rfl,?_,trivial⟩
      rw[← hts,List.map_append];rfl
     obtain rfl:i=s.whens.length:=by omega
     rw[List.take_of_length_le (by rw[List.length_map];exact Nat.le_refl _)]
     refine kW ?_
     (refine kQ ?_;repeat intro γ)
     refine .of ?_
     show AV.tup [AV.sl 1 _,AV.sl 1 _,AV.sl 1 _,AV.sl 1 _]=_
     congr 1
     refine List.cons_eq_cons.2 ⟨endS rfl (by simp),List.cons_eq_cons.2 ⟨endS rfl (by simp),List.cons_eq_cons.2 ⟨endS rfl (by simp),List.cons_eq_cons.2 ⟨endS rfl (by simp),rfl⟩⟩⟩⟩
end Go.Proofs.YtlhdoekgipaihaaGreatDoor
namespace Go.Proofs.YtlhdoekgipaihaaGreatDoor
open Go Go.Fw
def actsR (vs:List Va):List Ac→List ByteArray→List ByteArray→Option (List ByteArray)
 | [],_,A=>some A
 | a :: r,S,A=>match vs.find? (fun v=>decide (v.name=a.var)) with
   | none=>none
   | some v=>if !isR vs a.value v.type then none
     else if a.kind=0 then (if !decide (v.kind=1)||memR A a.var then none else actsR vs r S (A++[a.var]))
     else if a.kind=1 then (if !decide (v.kind=0)||memR S a.var then none else actsR vs r (S++[a.var]) A)
     else none
def whenR (vs:List Va) (w:Whn) (A:List ByteArray):Option (List ByteArray):=if !isR vs w.cond 1||decide (w.acts.length=0) then none else actsR vs w.acts [] A
theorem ownS {b p e n:Nat} {H:Hp} {out:List ByteArray} (hb:H b=some (p,⟨e,1,out.map encS⟩)) (hn:n=out.length):snap [b] H (.own b p 0 n)=encSs out:=by
 rw[snap_own (by simp) hb (by simp[hn]),snap_list _ _ _ _ hn fun _=>rfl];rfl
def postW (p:Nat):Option (List ByteArray)→AV→Hp→Prop
 | none,r,h=>∃ g,∃ A:List ByteArray,r=.tup [.val (.slice none 0 0),encB false]∧h=hp [(50,g,⟨9,1,A.map encS⟩)]
 | some A,r,h=>∃ g,r=.tup [.own 50 g 0 A.length,encB true]∧h=hp [(50,g,⟨9,1,A.map encS⟩)]
set_option maxHeartbeats 2000000 in
theorem when_ok (s:Sys) (hv:s.vars.length≤2^40) (w:Whn) (A:List ByteArray) (p:Nat) (hA:A.length≤2^40) (hl:w.acts.length≤2^40) (hc:SzE w.cond∧TxE w.cond) (he:∀ a∈w.acts,SzE a.value∧TxE a.value) :
  HCall Tryz.prog 100 [encSy s,encWn w,.own 50 p 0 A.length] (hp [(50,p,⟨9,1,A.map encS⟩)]) (postW p (whenR s.vars w A)):=by
 refine hcall_cp (E:=E 0) T_ok (D_ok 0) Tryz.func100 rfl (by rfl) (Nat.le_of_ble_eq_true rfl) ?_
 have hi:=fun e t h h'=>is_ok s (by omega) e t h h'
 have hfi:=fun n=>Find_ok s n (by omega)
 have hat:=find_at s.vars
 obtain ⟨vs,qs,ns,ws⟩:=s
 obtain ⟨wn,wc,ats⟩:=w
 simp only at hv hi hfi hl hc he hat ⊢
 generalize hF:whenR vs ⟨wn,wc,ats⟩ A=F
 unfold whenR at hF
 simp only at hF
 have t0:=hi wc 1 hc.1 hc.2
 unfold encSy at hi hfi t0 ⊢
 unfold encWn
 try simp only at hi hfi t0
 generalize isR vs wc 1=y0 at hF t0
 rw[encE_cells] at t0
 refine kW ?_
 (refine kQ ?_;repeat intro γ)
 refine CallP.flat [] _ c197 t0 rfl ?_
 have bad:∀ {r H g B} (F:Option (List ByteArray)),none=F→r=AV.tup [.val (.slice none 0 0),encB false]→hpOk H [(50,g,⟨9,1,List.map encS B⟩)]→EndH r H (postW p F):=by
  rintro r H g B F rfl h1 h2
  exact EndH.of h2 ⟨g,B,h1,rfl⟩
 cases y0 with
 | false=>
   refine kW ?_
   (refine kQ ?_;repeat intro γ)
   exact bad F hF rfl ⟨rfl,trivial⟩
 | true=>
   simp only[Bool.not_true,Bool.false_or] at hF
   refine kW ?_
   (refine kQ ?_;repeat intro γ)
   refine CondP.dec (fun h=>?_) (fun h=>?_)<;>refine kW ?_
   ·rw[if_pos (decide_eq_true (by omega))] at hF
    (refine kQ ?_;repeat intro γ)
    exact bad F hF rfl ⟨rfl,trivial⟩
   rw[if_neg (by simp;intro h';exact h (by rw[h'];rfl))] at hF
   (refine kQ ?_;repeat intro γ)
   refine LoopP.intro (fun k σ H=>∃ g3 g4 p g i,∃ S A:List ByteArray,k=ats.length-i∧i≤ats.length∧A.length≤2^40+i∧S.length≤i∧actsR vs (ats.drop i) S A=F ∧
    σ=fr [(2,.own 50 p 0 A.length),(3,.op 3 g3 0 0),(4,.op 4 g4 0 0),(8,.own 100 g 0 S.length),(9,encI i)] ∧
    H=hp [(3,g3,⟨26,4,[.agg [.sl 7 (vs.map encV),.sl 9 (qs.map encQn),.sl 9 (ns.map encQn),.sl 6 (ws.map encWn)]]⟩),(4,g4,⟨163,6,[.agg (encS wn::(cellsE wc++[.sl 6 (ats.map encAc)]))]⟩),(50,p,⟨9,1,A.map encS⟩),(100,g,⟨9,1,S.map encS⟩)]) ?_ ?_
   ·exact .intro (W.mat 8 100 9 1 rfl rfl fun g=>W.of ⟨_,_,_,p,g,0,[],A,rfl,Nat.zero_le _,by omega,by simp,hF,rfl,rfl⟩ ⟨rfl,rfl,rfl,rfl,rfl,trivial⟩ ⟨rfl,rfl,rfl,rfl,trivial⟩)
   ·clear hF hA t0
    rintro k σ H ⟨g3,g4,p',g,i,S,A,rfl,hii,hA,hS,hF,rfl,rfl⟩
    rcases Nat.lt_or_ge i ats.length with h1 | h1
    ·rw[List.drop_eq_getElem_cons h1] at hF
     have hz:=he _ (List.getElem_mem h1)
     refine kW ?_
     (refine kQ ?_;repeat intro γ)
     generalize ats[i]=a at hF hz ⊢
     obtain ⟨ak,av,ae⟩:=a
     simp only at hz
     unfold actsR at hF
     simp only at hF
     (refine kQ ?_;repeat intro γ)
     refine CallP.flat [] _ c53 (hfi av) rfl ?_
     rcases hat av with ⟨f1,f2⟩ | ⟨j,hj,f1,f2⟩
     ·rw[f2] at hF
      generalize findR vs av=fi at f1 ⊢
      refine kW ?_
      (refine kQ ?_;repeat intro γ)
      exact bad F hF rfl ⟨rfl,trivial⟩
     ·rw[f2] at hF
      rw[f1]
      have t1:=hi ae vs[j].type hz.1 hz.2
      refine kW ?_
      (refine kQ ?_;repeat intro γ)
      obtain ⟨v,hvj⟩:∃ v,vs[j]=v:=⟨_,rfl⟩
      rw[hvj] at hF t1
      simp only[hvj]
      replace hF:(if (!isR vs ae v.type)=true then none else if ak=0 then (if (!decide (v.kind=1)||memR A av)=true then none else actsR vs (List.drop (i+1) ats) S (A++[av])) else if ak=1 then (if (!decide (v.kind=0)||memR S av)=true then none else actsR vs (List.drop (i+1) ats) (S++[av]) A) else none)=F:=hF
      generalize isR vs ae v.type=y1 at hF t1
      rw[encE_cells] at t1
      (refine kQ ?_;repeat intro γ)
      refine CallG.intro _ c197 t1 ?_
      cases y1 with
      | false=>
        refine kW ?_
        (refine kQ ?_;repeat intro γ)
        exact bad F hF rfl ⟨rfl,trivial⟩
      | true=>
        replace hF:(if ak=0 then (if (!decide (v.kind=1)||memR A av)=true then none else actsR vs (List.drop (i+1) ats) S (A++[av])) else if ak=1 then (if (!decide (v.kind=0)||memR S av)=true then none else actsR vs (List.drop (i+1) ats) (S++[av]) A) else none)=F:=hF
        refine kW ?_
        (refine kQ ?_;repeat intro γ)
        try simp only[hvj]
        (refine kQ ?_;repeat intro γ)
        refine CondP.dec (fun k0=>?_) (fun k0=>?_)<;>refine kW ?_
        ·rw[if_pos k0] at hF
         (refine kQ ?_;repeat intro γ)
         try simp only[hvj]
         (refine kQ ?_;repeat intro γ)
         refine CondP.dec (fun v1=>?_) (fun v1=>?_)<;>refine kW ?_
         case' refine_2=>
          rw[decide_eq_false v1] at hF
          (refine kQ ?_;repeat intro γ)
          try simp only[hvj]
          (refine kQ ?_;repeat intro γ)
          exact bad F hF rfl ⟨rfl,trivial⟩
         rw[decide_eq_true v1] at hF
         (refine kQ ?_;repeat intro γ)
         try simp only[hvj]
         (refine kQ ?_;repeat intro γ)
         have hin:=in_ok A av (by omega)
         have hm:=@List.length_map _ _ A encS
         generalize memR A av=m at hF hin
         refine CallP.flat [50] _ c198 (pure_args (congrArg (fun z=>[z,encS av]) (ownS rfl rfl)) hin) rfl ?_
         cases m with
         | true=>
           refine kW ?_
           (refine kQ ?_;repeat intro γ)
           try simp only[hvj]
           (refine kQ ?_;repeat intro γ)
           exact bad F hF rfl ⟨rfl,trivial⟩
         | false=>
           refine kW ?_
           (refine kQ ?_;repeat intro γ)
           try simp only[hvj]
           (refine kQ ?_;repeat intro γ)
           refine .intro <| W.of ⟨_,by omega,g3,g4,γ,g,i+1,S,A++[av],rfl,h1,by rw[List.length_append,List.length_singleton];omega,by omega,hF,rfl,rfl⟩ ⟨?_,rfl,rfl,rfl,rfl,trivial⟩ ⟨rfl,rfl,?_,rfl,trivial⟩
           ·exact congrArg (AV.own 50 _ 0) (by simp)
           ·show some (_,(⟨_,_,_++_⟩:Blk))=_
            rw[List.map_append];rfl
        ·rw[if_neg k0] at hF
         (refine kQ ?_;repeat intro γ)
         try simp only[hvj]
         (refine kQ ?_;repeat intro γ)
         refine CondP.dec (fun k1=>?_) (fun k1=>?_)<;>refine kW ?_
         case' refine_2=>
          rw[if_neg k1] at hF
          (refine kQ ?_;repeat intro γ)
          try simp only[hvj]
          (refine kQ ?_;repeat intro γ)
          exact bad F hF rfl ⟨rfl,trivial⟩
         rw[if_pos k1] at hF
         (refine kQ ?_;repeat intro γ)
         try simp only[hvj]
         (refine kQ ?_;repeat intro γ)
         refine CondP.dec (fun v1=>?_) (fun v1=>?_)<;>refine kW ?_
         case' refine_2=>
          rw[decide_eq_false v1] at hF
          (refine kQ ?_;repeat intro γ)
          try simp only[hvj]
          (refine kQ ?_;repeat intro γ)
          exact bad F hF rfl ⟨rfl,trivial⟩
         rw[decide_eq_true v1] at hF
         (refine kQ ?_;repeat intro γ)
         try simp only[hvj]
         (refine kQ ?_;repeat intro γ)
         have hin:=in_ok S av (by omega)
         have hm:=@List.length_map _ _ S encS
         generalize memR S av=m at hF hin
         refine CallP.flat [100] _ c198 (pure_args (congrArg (fun z=>[z,encS av]) (ownS rfl rfl)) hin) rfl ?_
         cases m with
         | true=>
           refine kW ?_
           (refine kQ ?_;repeat intro γ)
           try simp only[hvj]
           (refine kQ ?_;repeat intro γ)
           exact bad F hF rfl ⟨rfl,trivial⟩
         | false=>
           refine kW ?_
           (refine kQ ?_;repeat intro γ)
           try simp only[hvj]
           (refine kQ ?_;repeat intro γ)
           refine .intro <| W.of ⟨_,by omega,g3,g4,p',γ,i+1,S++[av],A,rfl,h1,by omega,by rw[List.length_append,List.length_singleton];omega,hF,rfl,rfl⟩ ⟨rfl,rfl,rfl,?_,rfl,trivial⟩ ⟨rfl,rfl,rfl,?_,trivial⟩
           ·exact congrArg (AV.own 100 _ 0) (by simp)
           ·show some (_,(⟨_,_,_++_⟩:Blk))=_
            rw[List.map_append];rfl
    ·rw[List.drop_eq_nil_of_le h1] at hF
     refine kW ?_
     (refine kQ ?_;repeat intro γ)
     try simp only[hvj]
     (refine kQ ?_;repeat intro γ)
     subst hF
     exact EndH.of (m:=[(50,p',⟨9,1,List.map encS A⟩)]) ⟨rfl,trivial⟩ ⟨p',rfl,rfl⟩
end Go.Proofs.YtlhdoekgipaihaaGreatDoor
namespace Go.Proofs.YtlhdoekgipaihaaGreatDoor
open Go Go.Fw
theorem actsR_len (vs:List Va):∀ (l:List Ac) (S A B:List ByteArray),actsR vs l S A=some B→B.length≤A.length+l.length
 | [],S,A,B,h=>by cases h;simp
 | a :: r, S,A,B,h=>by
   unfold actsR at h
   split at h
   ·cases h
   ·split at h
    ·cases h
    ·split at h
     ·split at h
      ·cases h
      ·have:=actsR_len vs r _ _ _ h
       simp only[List.length_append,List.length_cons,List.length_nil] at this ⊢
       omega
     ·split at h
      ·split at h
       ·cases h
       ·have:=actsR_len vs r _ _ _ h
        simp only[List.length_cons] at this ⊢
        omega
      ·cases h
theorem whenR_len (vs:List Va) (w:Whn) (A B:List ByteArray) (h:whenR vs w A=some B):B.length≤A.length+w.acts.length:=by
 unfold whenR at h
 split at h
 ·cases h
 ·exact actsR_len vs _ _ _ _ h
def whensR (vs:List Va):List Whn→List ByteArray→Bool
 | [],_=>true
 | w::r,A=>match whenR vs w A with
   | none=>false
   | some B=>whensR vs r B
def validR (s:Sys):Bool:=
 (risG (s.vars.map Va.name) none&&risG (s.eqs.map Eqn.name) none&&risG (s.inits.map Eqn.name) none&&risG (s.whens.map Whn.name) none)
   && (s.vars.all fun v=>nameF v.name&&varF v)&&(eqsR s.vars s.eqs&&eqsR s.vars s.inits)&&whensR s.vars s.whens []
def checkR (s:Sys):Int:=if largeF s then 2 else if validR s then 0 else 1
set_option maxHeartbeats 4000000 in
theorem CheckR_ok (s:Sys) (hs:SzS s):PureCall Tryz.prog 37 [encSy s] (encI (checkR s)):=by
 refine PC [] Tryz.func37 rfl (by rfl) rfl ?_
 have hL:=limits_ok s hs
 have hb:largeF s=false→s.vars.length≤200∧s.eqs.length≤200∧s.inits.length≤200∧s.whens.length≤200∧∀ w∈s.whens,w.acts.length≤20:=by
  intro h
  unfold largeF at h
  simp only[Bool.or_eq_false_iff,decide_eq_false_iff_not] at h
  obtain ⟨⟨⟨h1,h2⟩,h3⟩,h4⟩:=h
  refine ⟨by omega,by omega,by omega,by omega,fun w hw=>?_⟩
  have:=List.any_eq_false.1 h3 w hw
  simp at this
  exact this
 have hQ:∀ q∈s.eqs,(SzE q.left∧TxE q.left)∧SzE q.right∧TxE q.right:=fun q hq=>⟨hs.e _ (by unfold allF;exact List.mem_append_left _ (List.mem_append_left _ (mem_side hq).1)),hs.e _ (by unfold allF;exact List.mem_append_left _ (List.mem_append_left _ (mem_side hq).2))⟩
 have hN:∀ q∈s.inits,(SzE q.left∧TxE q.left)∧SzE q.right∧TxE q.right:=fun q hq=>⟨hs.e _ (by unfold allF;exact List.mem_append_left _ (List.mem_append_right _ (mem_side hq).1)),hs.e _ (by unfold allF;exact List.mem_append_left _ (List.mem_append_right _ (mem_side hq).2))⟩
 have hWc:∀ w∈s.whens,SzE w.cond∧TxE w.cond:=fun w hw=>hs.e _ (by unfold allF;exact List.mem_append_right _ (mem_when hw).1)
 have hWa:∀ w∈s.whens,∀ a∈w.acts,SzE a.value∧TxE a.value:=fun w hw a ha=>hs.e _ (by unfold allF;exact List.mem_append_right _ ((mem_when hw).2 a ha))
 have r1:=fun h=>rises_ok (s.vars.map Va.name) (by rw[List.length_map];have:=(hb h).1;omega) fun x hx=>by obtain ⟨v,hv,rfl⟩:=List.mem_map.1 hx;exact (hs.t v hv).1
 have r2:=fun h=>rises_ok (s.eqs.map Eqn.name) (by rw[List.length_map];have:=(hb h).2.1;omega) fun x hx=>by obtain ⟨v,hv,rfl⟩:=List.mem_map.1 hx;exact hs.m.1 v hv
 have r3:=fun h=>rises_ok (s.inits.map Eqn.name) (by rw[List.length_map];have:=(hb h).2.2.1;omega) fun x hx=>by obtain ⟨v,hv,rfl⟩:=List.mem_map.1 hx;exact hs.m.2.1 v hv
 have r4:=fun h=>rises_ok (s.whens.map Whn.name) (by rw[List.length_map];have:=(hb h).2.2.2.1;omega) fun x hx=>by obtain ⟨v,hv,rfl⟩:=List.mem_map.1 hx;exact hs.m.2.2 v hv
 have hnm:=fun h=>names_ok s (by have:=(hb h).1;omega) (by have:=(hb h).2.1;omega) (by have:=(hb h).2.2.1;omega) (by have:=(hb h).2.2.2.1;omega)
 have hvr:∀ v∈s.vars,PureCall Tryz.prog 98 [encV v] (encB (nameF v.name&&varF v)):=fun v hv=>isVar_ok v (hs.t v hv).1 (hs.t v hv).2.1 (hs.t v hv).2.2.1 (hs.t v hv).2.2.2
 have q1:=fun h=>eqs_ok s (by have:=(hb h).1;omega) s.eqs (by have:=(hb h).2.1;omega) hQ
 have q2:=fun h=>eqs_ok s (by have:=(hb h).1;omega) s.inits (by have:=(hb h).2.2.1;omega) hN
 have hw:=fun h w hw A p hA=>when_ok s (by have:=(hb h).1;omega) w A p hA (by have:=(hb h).2.2.2.2 w hw;omega) (hWc w hw) (hWa w hw)
 have hwl:=whenR_len s.vars
 clear hs hQ hN hWc hWa
 generalize hF:checkR s=F
 unfold checkR at hF
 obtain ⟨vs,qs,ns,ws⟩:=s
 generalize largeF ⟨vs,qs,ns,ws⟩=la at *
 unfold validR at hF
 simp only at *
 generalize risG (vs.map Va.name) none=b1 at *
 generalize risG (qs.map Eqn.name) none=b2 at *
 generalize risG (ns.map Eqn.name) none=b3 at *
 generalize risG (ws.map Whn.name) none=b4 at *
 generalize eqsR vs qs=b5 at *
 generalize eqsR vs ns=b6 at *
 unfold encSy at *
 simp only at *
 refine kW ?_
 (refine kQ ?_;repeat intro γ)
 refine CallP.flat [] _ c95 hL rfl ?_
 cases la with
 | true=>
   refine kW ?_
   (refine kQ ?_;repeat intro γ)
   exact .of (by rw[← hF];rfl)
 | false =>
   replace hb:=hb rfl
   replace r1:=r1 rfl
   replace r2:=r2 rfl
   replace r3:=r3 rfl
   replace r4:=r4 rfl
   replace hnm:=hnm rfl
   replace q1:=q1 rfl
   replace q2:=q2 rfl
   replace hw:=hw rfl
   simp only[Bool.false_eq_true,if_false] at hF
   have bad:∀ {b:Bool} {r:AV},b=false→(if b=true then (0:Int) else 1)=F→r=encI 1→Fw.Ends r (encI F):=by
    rintro b r rfl h rfl
    rw[← h];exact .of rfl
   refine kW ?_
   (refine kQ ?_;repeat intro γ)
   refine CallP.pure [] _ c96 hnm ?_
   refine kW ?_
   (refine kQ ?_;repeat intro γ)
   refine CallP.flat [] _ c97 r1 rfl ?_
   cases b1 with
   | false=>
     refine kW ?_
     (refine kQ ?_;repeat intro γ)
     exact bad (by simp) hF rfl
   | true=>
     refine kW ?_
     (refine kQ ?_;repeat intro γ)
     refine CallP.flat [] _ c97 r2 rfl ?_
     cases b2 with
     | false=>
       refine kW ?_
       (refine kQ ?_;repeat intro γ)
       exact bad (by simp) hF rfl
     | true=>
       refine kW ?_
       (refine kQ ?_;repeat intro γ)
       refine CallP.flat [] _ c97 r3 rfl ?_
       cases b3 with
       | false=>
         refine kW ?_
         (refine kQ ?_;repeat intro γ)
         exact bad (by simp) hF rfl
       | true=>
         refine kW ?_
         (refine kQ ?_;repeat intro γ)
         refine CallP.flat [] _ c97 r4 rfl ?_
         cases b4 with
         | false=>
           refine kW ?_
           (refine kQ ?_;repeat intro γ)
           exact bad (by simp) hF rfl
         | true=>
           refine kW ?_
           (refine kQ ?_;repeat intro γ)
           simp only[Bool.true_and] at hF
           refine LoopP.intro (fun k σ H=>∃ g i,k=vs.length-i∧i≤vs.length∧(if (((vs.drop i).all fun v=>nameF v.name&&varF v)&&(b5&&b6)&&whensR vs ws [])=true then 0 else 1)=F ∧
            σ=fr [(1,.op 1 g 0 0),(7,encI i)]∧H=hp [(1,g,⟨26,4,[.agg [.sl 7 (vs.map encV),.sl 9 (qs.map encQn),.sl 9 (ns.map encQn),.sl 6 (ws.map encWn)]]⟩)]) ?_ ?_
           ·exact .intro <| W.of ⟨_,_,0,rfl,Nat.zero_le _,hF,rfl,rfl⟩ ⟨rfl,rfl,trivial⟩ ⟨rfl,trivial⟩
           ·clear hF r1 r2 r3 r4 hnm
            rintro k σ H ⟨g1,i,rfl,hi,hF,rfl,rfl⟩
            rcases Nat.lt_or_ge i vs.length with h1 | h1
            ·have hv:=hvr _ (List.getElem_mem h1)
             rw[List.drop_eq_getElem_cons h1,List.all_cons] at hF
             refine kW ?_
             (refine kQ ?_;repeat intro γ)
             generalize vs[i]=v at hF hv ⊢
             generalize (nameF v.name&&varF v)=bv at hF hv
             (refine kQ ?_;repeat intro γ)
             refine CallP.flat [] _ c98 hv rfl ?_
             cases bv with
             | false=>
               refine kW ?_
               (refine kQ ?_;repeat intro γ)
               exact bad (by simp) hF rfl
             | true=>
               rw[Bool.true_and] at hF
               refine kW ?_
               (refine kQ ?_;repeat intro γ)
               exact .intro <| W.of ⟨_,by omega,g1,i+1,rfl,h1,hF,rfl,rfl⟩ ⟨rfl,rfl,trivial⟩ ⟨rfl,trivial⟩
            rw[List.drop_eq_nil_of_le h1] at hF
            simp only[List.all_nil,Bool.true_and] at hF
            refine kW ?_
            (refine kQ ?_;repeat intro γ)
            refine CallP.flat [] _ c99 q1 rfl ?_
            cases b5 with
            | false=>
              refine kW ?_
              (refine kQ ?_;repeat intro γ)
              exact bad (by simp) hF rfl
            | true=>
              refine kW ?_
              (refine kQ ?_;repeat intro γ)
              refine CallP.flat [] _ c99 q2 rfl ?_
              cases b6 with
              | false=>
                refine kW ?_
                (refine kQ ?_;repeat intro γ)
                exact bad (by simp) hF rfl
              | true=>
                simp only[Bool.true_and] at hF
                refine kW ?_
                (refine kQ ?_;repeat intro γ)
                refine LoopP.intro (fun k σ H=>∃ g1 g i,∃ A:List ByteArray,k=ws.length-i∧i≤ws.length∧A.length≤20*i∧(if whensR vs (ws.drop i) A=true then 0 else 1)=F ∧
                 σ=fr [(1,.op 1 g1 0 0),(8,.own 100 g 0 A.length),(9,encI i)]∧H=hp [(1,g1,⟨26,4,[.agg [.sl 7 (vs.map encV),.sl 9 (qs.map encQn),.sl 9 (ns.map encQn),.sl 6 (ws.map encWn)]]⟩),(100,g,⟨9,1,A.map encS⟩)]) ?_ ?_
                ·exact .intro (W.mat 8 100 9 1 rfl rfl fun g=>W.of ⟨_,_,g,0,[],rfl,Nat.zero_le _,by simp,hF,rfl,rfl⟩ ⟨rfl,rfl,rfl,trivial⟩ ⟨rfl,rfl,trivial⟩)
                ·clear hF q1 q2
                 rintro k σ H ⟨g1,g,i,A,rfl,hi,hA,hF,rfl,rfl⟩
                 rcases Nat.lt_or_ge i ws.length with h2 | h2
                 ·have hwi:=hw _ (List.getElem_mem h2)
                  have hwa:=hb.2.2.2.2 _ (List.getElem_mem h2)
                  rw[List.drop_eq_getElem_cons h2] at hF
                  unfold whensR at hF
                  refine kW ?_
                  (refine kO ?_;repeat intro γ)
                  simp only[List.length_map]
                  (refine kO ?_;repeat intro γ)
                  refine DrawH.segs [(7,false),(8,true),(13,false)] (by kernel_rfl) ?_
                  refine kW ?_
                  (refine kQ ?_;repeat intro γ)
                  refine CallP.frame 1000000 [(50,100)] rfl c100 (hwi A g (by omega)) rfl ⟨mvB_flats encS _ (fun _=>rfl) ..,trivial⟩ ?_
                  have hwl2:=hwl ws[i] A
                  generalize whenR vs ws[i] A=R at hF hwl2
                  cases R with
                  | none=>
                    rintro r0 h' ⟨g',A',rfl,rfl⟩
                    refine ⟨[(100,g',⟨9,1,A'.map encS⟩)],⟨mvB_flats encS _ (fun _=>rfl) ..,trivial⟩,?_⟩
                    refine kW ?_
                    (refine kQ ?_;repeat intro γ)
                    exact bad rfl hF rfl
                  | some B=>
                    rintro r0 h' ⟨g',rfl,rfl⟩
                    refine ⟨[(100,g',⟨9,1,B.map encS⟩),(1,g1,⟨26,4,[.agg [.sl 7 (vs.map encV),.sl 9 (qs.map encQn),.sl 9 (ns.map encQn),.sl 6 (ws.map encWn)]]⟩)],⟨mvB_flats encS _ (fun _=>rfl) ..,rfl,trivial⟩,?_⟩
                    have:=hwl2 B rfl
                    refine kW ?_
                    (refine kQ ?_;repeat intro γ)
                    exact .intro <| W.of ⟨_,by omega,g1,g',i+1,B,rfl,h2,by omega,hF,rfl,rfl⟩ ⟨rfl,rfl,rfl,trivial⟩ ⟨rfl,rfl,trivial⟩
                 ·rw[List.drop_eq_nil_of_le h2] at hF
                  refine kW ?_
                  (refine kQ ?_;repeat intro γ)
                  exact .of (by rw[← hF];rfl)
end Go.Proofs.YtlhdoekgipaihaaGreatDoor
