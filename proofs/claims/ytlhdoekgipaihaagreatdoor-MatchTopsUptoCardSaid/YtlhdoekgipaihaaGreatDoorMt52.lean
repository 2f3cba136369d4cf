/- Part 52 of the proof: abstract values and their rules; walks of the functions; plain lemmas. -/
import Derived.Test.YtlhdoekgipaihaaGreatDoorMt51
import Derived.Test.YtlhdoekgipaihaaGreatDoorMt48
import Derived.Test.YtlhdoekgipaihaaGreatDoorRows
import Derived.Test.YtlhdoekgipaihaaGreatDoorCards
import Derived.Test.YtlhdoekgipaihaaGreatDoorTie
import Derived.ProofKit
import Derived.OpenShut
import Derived.Deep.DeepHandedRow
set_option linter.unusedVariables false
set_option linter.unusedSimpArgs false
set_option linter.unusedSectionVars false
set_option maxRecDepth 100000
set_option exponentiation.threshold 400
namespace Go.Proofs.YtlhdoekgipaihaaGreatDoor
open Go Go.Fw
def okT (a b:Int×Bool):Bool:=(a.2==b.2)&&(!a.2||(decide (a.1=b.1)&&(decide (a.1=0)||decide (a.1=1))))
def opsT:List ByteArray:=[oNum,oTrue,oFalse,oTime,oInit,oNeg,oNot,oSample,oAdd,oSub,oMul,oDiv,oLess,oAtMost,oMore,oAtLeast,oEq,oNe,oAnd,oOr,oIf]
theorem op_mem (o:ByteArray) (h:0≤kidsF o):o=oVar∨o=oPre∨o∈opsT:=by
 by_cases h4:o=oVar;· exact .inl h4
 by_cases h5:o=oPre;· exact .inr (.inl h5)
 refine .inr (.inr (Classical.byContradiction fun hn=>?_))
 rw[← kids_same] at h
 unfold kidsR at h
 unfold opsT at hn
 simp only[List.mem_cons,List.not_mem_nil,or_false,not_or] at hn
 simp only[hn,h4,h5,if_false] at h
 omega
def b01:Bool→Int:=fun b=>if b then 1 else 0
theorem b01_of {a:Int} (h:a=0∨a=1):∃ b,a=b01 b:=by
 rcases h with h | h
 ·exact ⟨false,h⟩
 ·exact ⟨true,h⟩
def ok0 (ks:List (ByteArray×Va)) (vs:List Va) (o t:ByteArray) (n:Int):Bool:=okT (typeG ks o t n []) (typH vs o t n [])
def ok1 (ks:List (ByteArray×Va)) (vs:List Va) (o t:ByteArray) (n:Int):Bool:=[false,true].all fun a=>okT (typeG ks o t n [(b01 a,true)]) (typH vs o t n [b01 a])
def ok2 (ks:List (ByteArray×Va)) (vs:List Va) (o t:ByteArray) (n:Int):Bool:=[false,true].all fun a=>[false,true].all fun b=>(decide (o=oSample)&&(a||b))||okT (typeG ks o t n [(b01 a,true),(b01 b,true)]) (typH vs o t n [b01 a,b01 b])
def ok3 (ks:List (ByteArray×Va)) (vs:List Va) (o t:ByteArray) (n:Int):Bool:=[false,true].all fun a=>[false,true].all fun b=>[false,true].all fun c=>okT (typeG ks o t n [(b01 a,true),(b01 b,true),(b01 c,true)]) (typH vs o t n [b01 a,b01 b,b01 c])
def okN (ks:List (ByteArray×Va)) (vs:List Va) (o t:ByteArray) (n:Int):Bool:=match kidsF o with
 | 0=>ok0 ks vs o t n
 | 1=>ok1 ks vs o t n
 | 2=>ok2 ks vs o t n
 | 3=>ok3 ks vs o t n
 | _=>false
theorem okN_all (ks:List (ByteArray×Va)) (vs:List Va) (t:ByteArray) (n:Int):(opsT.all fun o=>okN ks vs o t n)=true:=by kernel_rfl
theorem typ_all (ks:List (ByteArray×Va)) (vs:List Va) (o t:ByteArray) (n:Int) (ho:o∈opsT) (ts:List Int) (hk:(ts.length:Int)=kidsF o) (h01:∀ a∈ts,a=0∨a=1) (hs:o=oSample→∀ a∈ts,a=0) :
  okT (typeG ks o t n (ts.map fun a=>(a,true))) (typH vs o t n ts)=true:=by
 have h:=List.all_eq_true.1 (okN_all ks vs t n) o ho
 unfold okN at h
 rw[← hk] at h
 match ts,h01,hs with
 | [],_,_=>exact h
 | [a],h01,_=>
   obtain ⟨x,rfl⟩:=b01_of (h01 a (by simp))
   exact List.all_eq_true.1 (show ok1 ks vs o t n=true from h) x (by cases x<;>simp)
 | [a, b],h01,hs=>
   obtain ⟨x,rfl⟩:=b01_of (h01 a (by simp))
   obtain ⟨y,rfl⟩:=b01_of (h01 b (by simp))
   have h2:=List.all_eq_true.1 (List.all_eq_true.1 (show ok2 ks vs o t n=true from h) x (by cases x<;>simp)) y (by cases y<;>simp)
   rw[Bool.or_eq_true,Bool.and_eq_true] at h2
   rcases h2 with ⟨h2,h3⟩ | h2
   ·exfalso
    have hs:=hs (of_decide_eq_true h2)
    have e1:=hs (b01 x) (by simp)
    have e2:=hs (b01 y) (by simp)
    cases x
    ·cases y
     ·simp at h3
     ·simp[b01] at e2
    ·simp[b01] at e1
   ·exact h2
 | [a,b,c],h01,_=>
   obtain ⟨x,rfl⟩:=b01_of (h01 a (by simp))
   obtain ⟨y,rfl⟩:=b01_of (h01 b (by simp))
   obtain ⟨z,rfl⟩:=b01_of (h01 c (by simp))
   exact List.all_eq_true.1 (List.all_eq_true.1 (List.all_eq_true.1 (show ok3 ks vs o t n=true from h) x (by cases x<;>simp)) y (by cases y<;>simp)) z (by cases z<;>simp)
 | a::b::c::d::l,_,_=>
   exfalso
   have:=kidsF_le o
   simp only[List.length_cons] at hk
   omega
theorem typ_bad (ks:List (ByteArray×Va)) (o t:ByteArray) (n:Int) (rs:List (Int×Bool)) (hk:(rs.length:Int)=kidsF o) (hb:∃ r∈rs,r.2=false):(typeG ks o t n rs).2=false:=by
 obtain ⟨r,hr,hb⟩:=hb
 unfold typeG
 by_cases h1:o=oVar∨o=oPre
 ·exfalso
  have:kidsF o=0:=by unfold kidsF;rw[if_pos h1]
  have:rs=[]:=List.length_eq_zero_iff.1 (by omega)
  rw[this] at hr;cases hr
 rw[if_neg h1]
 by_cases h2:o=oEq∨o=oNe
 ·rw[if_pos h2]
  have:kidsF o=2:=by unfold kidsF;rw[if_neg h1,if_pos h2]
  match rs,hr,hk with
  | [a,b],hr,_=>
    simp only[List.mem_cons,List.not_mem_nil,or_false] at hr
    show (a.2&&b.2&&decide (a.1=b.1))=false
    rcases hr with rfl | rfl<;>rw[hb]<;>simp
  | [],hr,_=>cases hr
  | [a],_,hk=>simp at hk;omega
  | a::b::c::l,_,hk=>simp at hk;omega
 rw[if_neg h2]
 by_cases h3:o=oIf
 ·rw[if_pos h3]
  have:kidsF o=3:=by unfold kidsF;rw[if_neg h1,if_neg h2,if_pos h3]
  match rs,hr,hk with
  | [a,b,c],hr,_=>
    simp only[List.mem_cons,List.not_mem_nil,or_false] at hr
    show (a.2&&(b.2&&c.2&&decide (b.1=c.1))&&decide (a.1=1))=false
    rcases hr with rfl | rfl | rfl<;>rw[hb]<;>simp
  | [],hr,_=>cases hr
  | [a],_,hk=>simp at hk;omega
  | [a,b],_,hk=>simp at hk;omega
  | a::b::c::d::l,_,hk=>simp at hk;omega
 rw[if_neg h3,if_pos]
 exact List.any_eq_true.2 ⟨r,hr,by rw[hb];rfl⟩
theorem typL_ok (vs:List Va):∀ ks:List Ex,(∀ k∈ks,(typR vs k).2=true)→typL vs ks=some (ks.map fun k=>(typR vs k).1)
 | [],_=>by unfold typL;rfl
 | k::ks,h=>by
   unfold typL
   rw[if_pos (h k (by simp)),typL_ok vs ks fun x hx=>h x (by simp[hx])];rfl
theorem typL_no (vs:List Va):∀ ks:List Ex,(∃ k∈ks,(typR vs k).2=false)→typL vs ks=none
 | [],h=>by obtain ⟨k,hk,_⟩:=h;cases hk
 | k :: ks,h=>by
   unfold typL
   cases hb:(typR vs k).2 with
   | false=>rfl
   | true=>
     obtain ⟨x,hx,hx2⟩:=h
     rw[if_pos rfl,typL_no vs ks ⟨x,by
      rcases List.mem_cons.1 hx with rfl | hx
      ·rw[hb] at hx2;cases hx2
      ·exact hx,hx2⟩];rfl
theorem okT_of {a b:Int×Bool} (h:okT a b=true):a.2=b.2∧(a.2=true→a.1=b.1∧(a.1=0∨a.1=1)):=by
 unfold okT at h
 rw[Bool.and_eq_true] at h
 refine ⟨by simpa using h.1,fun h2=>?_⟩
 have:=h.2
 rw[h2] at this
 simpa using this
theorem typ_same (ks:List (ByteArray×Va)) (vs:List Va) (hav:∀ n,assoc ks n=vs.find? fun v=>decide (v.name=n)) (hv:∀ v∈vs,v.type=0∨v.type=1) (e:Ex) :
  builtF e=true→(typeF ks e).2=(typR vs e).2∧((typeF ks e).2=true→(typeF ks e).1=(typR vs e).1∧((typeF ks e).1=0∨(typeF ks e).1=1)):=by
 induction e using ex_ind with
 | h e ih=>
   intro hb
   obtain ⟨hl,hkb⟩:=built_kids hb
   have ih':=fun k hk=>ih k hk (hkb k hk)
   rw[typeF_eq,typR_eq]
   by_cases hok:∀ k∈e.kids,(typR vs k).2=true
   ·rw[typL_ok vs _ hok]
    have e1:e.kids.map (typeF ks)=(e.kids.map fun k=>(typR vs k).1).map fun a=>(a,true):=by
     rw[List.map_map]
     refine List.map_congr_left fun k hk=>?_
     have h1:=ih' k hk
     have h2:=h1.1.trans (hok k hk)
     exact Prod.ext (h1.2 h2).1 h2
    rw[e1]
    by_cases hvp:e.op=oVar∨e.op=oPre
    ·have hx:typeG ks e.op e.text e.order ((e.kids.map fun k=>(typR vs k).1).map fun a=>(a,true))=varT vs e.text e.order∧typH vs e.op e.text e.order (e.kids.map fun k=>(typR vs k).1)=varT vs e.text e.order:=by
      refine ⟨?_,by rcases hvp with ho | ho<;>rw[ho]<;>rfl⟩
      unfold typeG varT
      rw[if_pos hvp,hav]
      cases vs.find? fun v=>decide (v.name=e.text)<;>rfl
     rw[hx.1]
     refine ⟨congrArg Prod.snd hx.2.symm,fun _=>⟨congrArg Prod.fst hx.2.symm,?_⟩⟩
     unfold varT
     cases hf:vs.find? fun v=>decide (v.name=e.text) with
     | none=>exact .inl rfl
     | some v=>exact hv v (List.mem_of_find?_eq_some hf)
    have ho:e.op∈opsT:=by
     rcases op_mem e.op (by omega) with ho | ho | ho
     ·exact (hvp (.inl ho)).elim
     ·exact (hvp (.inr ho)).elim
     ·exact ho
    refine okT_of (typ_all ks vs _ _ _ ho _ (by rw[List.length_map];exact hl) ?_ ?_)
    ·intro a ha
     obtain ⟨k,hk,rfl⟩:=List.mem_map.1 ha
     have h1:=ih' k hk
     have h2:=h1.2 (h1.1.trans (hok k hk))
     rw[← h2.1];exact h2.2
    ·intro hos a ha
     obtain ⟨k,hk,rfl⟩:=List.mem_map.1 ha
     have hkn:k.op=oNum:=by
      rw[builtF_eq] at hb
      simp only[Bool.and_eq_true] at hb
      have hsm:=hb.1.2
      have hlen:e.kids.length=2:=by
       have:kidsF e.op=2:=by rw[hos];rfl
       omega
      generalize e.kids=l at hsm hlen hk
      match l,hlen with
      | [k0,k1],_=>
        unfold sampF at hsm
        rw[decide_eq_true hos] at hsm
        simp only[List.map_cons,Bool.true_and,Bool.not_eq_true',Bool.or_eq_false_iff,Bool.not_eq_false',decide_eq_true_eq] at hsm
        simp only[List.mem_cons,List.not_mem_nil,or_false] at hk
        rcases hk with rfl | rfl
        ·exact hsm.1.1.1.1
        ·exact hsm.1.1.1.2
     rw[typR_eq,hkn]
     have hk0:k.kids=[]:=by
      have h1:=(built_kids (hkb k hk)).1
      rw[hkn] at h1
      have:kidsF oNum=0:=rfl
      exact List.length_eq_zero_iff.1 (by omega)
     rw[hk0]
     rfl
   ·have hbad:∃ k∈e.kids,(typR vs k).2=false:=by
     refine Classical.byContradiction fun hn=>hok fun k hk=>?_
     cases h:(typR vs k).2 with
     | true=>rfl
     | false=>exact (hn ⟨k,hk,h⟩).elim
    rw[typL_no vs _ hbad]
    have:=typ_bad ks e.op e.text e.order (e.kids.map (typeF ks)) (by rw[List.length_map];exact hl) (by
     obtain ⟨k,hk,hf⟩:=hbad
     exact ⟨_,List.mem_map.2 ⟨k,hk,rfl⟩,(ih' k hk).1.trans hf⟩)
    rw[this]
    exact ⟨rfl,fun h=>by cases h⟩
theorem typed_same (ks:List (ByteArray×Va)) (vs:List Va) (hav:∀ n,assoc ks n=vs.find? fun v=>decide (v.name=n)) (hv:∀ v∈vs,v.type=0∨v.type=1) (e:Ex) (t:Int):typedF ks e t=isR vs e t:=by
 unfold typedF isR
 cases hb:builtF e with
 | false=>rfl
 | true=>
   obtain ⟨h1,h2⟩:=typ_same ks vs hav hv e hb
   rw[← h1]
   cases h3:(typeF ks e).2 with
   | false=>rfl
   | true=>rw[(h2 h3).1]
end Go.Proofs.YtlhdoekgipaihaaGreatDoor
namespace Go.Proofs.YtlhdoekgipaihaaGreatDoor
open Go Go.Fw
theorem bl_irr:∀ a:List UInt8,Op.bytesLess a a=false
 | []=>rfl
 | x::a=>by rw[bl_cons,bl_irr a];simp
theorem bl_trans:∀ a b c:List UInt8,Op.bytesLess a b=true→Op.bytesLess b c=true→Op.bytesLess a c=true
 | [],[],_,h,_=>by cases h
 | [],_::_,[],_,h=>by cases h
 | [],_::_,_::_,_,_=>rfl
 | _::_,[],_,h,_=>by cases h
 | _::_,_::_,[],_,h=>by cases h
 | x :: a,y::b,z::c,h1,h2=>by
   rw[bl_cons] at h1 h2 ⊢
   simp only[Bool.or_eq_true,Bool.and_eq_true,decide_eq_true_eq] at h1 h2 ⊢
   rcases h1 with h1 | ⟨rfl,h1⟩
   ·rcases h2 with h2 | ⟨rfl,h2⟩
    ·exact .inl (UInt8.lt_trans h1 h2)
    ·exact .inl h1
   ·rcases h2 with h2 | ⟨rfl,h2⟩
    ·exact .inl h2
    ·exact .inr ⟨rfl,bl_trans a b c h1 h2⟩
theorem risG_cons {n:ByteArray} {r:List ByteArray} {p:Option ByteArray} (h:risG (n::r) p=true):nameF n=true∧(∀ q,p=some q→Op.bytesLess q.toList n.toList=true)∧risG r (some n)=true:=by
 unfold risG at h
 simp only[Bool.and_eq_true] at h
 refine ⟨h.1.1,?_,h.2⟩
 rintro q rfl
 exact h.1.2
theorem risG_above:∀ (l:List ByteArray) (q:ByteArray),risG l (some q)=true→∀ x∈l,Op.bytesLess q.toList x.toList=true
 | [],_,_,x,hx=>by cases hx
 | n::r,q,h,x,hx=>by
   obtain ⟨_,h2,h3⟩:=risG_cons h
   rcases List.mem_cons.1 hx with rfl | hx
   ·exact h2 q rfl
   ·exact bl_trans _ _ _ (h2 q rfl) (risG_above r n h3 x hx)
theorem risG_name:∀ (l:List ByteArray) (p:Option ByteArray),risG l p=true→∀ x∈l,nameF x=true
 | [],_,_,x,hx=>by cases hx
 | n::r,p,h,x,hx=>by
   obtain ⟨h1,_,h3⟩:=risG_cons h
   rcases List.mem_cons.1 hx with rfl | hx
   ·exact h1
   ·exact risG_name r _ h3 x hx
theorem risG_nodup:∀ (l:List ByteArray) (p:Option ByteArray),risG l p=true→l.Nodup
 | [],_,_=>List.nodup_nil
 | n::r,p,h=>by
   obtain ⟨_,_,h3⟩:=risG_cons h
   refine List.nodup_cons.2 ⟨fun hm=>?_,risG_nodup r _ h3⟩
   have:=risG_above r n h3 n hm
   rw[bl_irr] at this;cases this
theorem putK_new {β:Type} (k:ByteArray) (v:β):∀ l:List (ByteArray×β),k ∉ l.map Prod.fst→putK l k v=l++[(k,v)]
 | [],_=>rfl
 | x::r,h=>by
   rw[List.map_cons,List.mem_cons,not_or] at h
   unfold putK
   rw[if_neg h.1,putK_new k v r h.2];rfl
theorem known_eq:∀ (vs:List Va) (l:List (ByteArray×Va)),(l.map Prod.fst++vs.map Va.name).Nodup→vs.foldl (fun l v=>putK l v.name v) l=l++vs.map fun v=>(v.name,v)
 | [],l,_=>by simp
 | v :: vs,l,h=>by
   rw[List.foldl_cons,putK_new]
   ·rw[known_eq vs]
    ·simp
    ·rw[List.map_append,List.append_assoc];exact h
   ·intro hm
    rw[List.nodup_append] at h
    exact h.2.2 _ hm _ (by simp) rfl
theorem assoc_find:∀ (vs:List Va) (n:ByteArray),assoc (vs.map fun v=>(v.name,v)) n=vs.find? fun v=>decide (v.name=n)
 | [],_=>rfl
 | v::vs,n=>by
   rw[List.map_cons,List.find?_cons]
   unfold assoc
   by_cases h:n=v.name
   ·rw[if_pos h,decide_eq_true h.symm]
   ·rw[if_neg h,decide_eq_false (fun e=>h e.symm),assoc_find vs n]
theorem mem_mem (A:List ByteArray) (s:ByteArray):memR A s=memA s A:=by
 unfold memR memA
 congr 1
 funext x
 exact decide_eq_decide.2 ⟨Eq.symm,Eq.symm⟩
theorem acts_same (ks:List (ByteArray×Va)) (vs:List Va) (hav:∀ n,assoc ks n=vs.find? fun v=>decide (v.name=n)) (hT:∀ e t,typedF ks e t=isR vs e t) :
  ∀ (l:List Ac) (S A:List ByteArray),actsR vs l S A=if (actsG ks l S A).1 then some (actsG ks l S A).2 else none
 | [],S,A=>rfl
 | a :: r,S,A=>by
   unfold actsR actsG badA
   rw[hav]
   cases hf:vs.find? fun v=>decide (v.name=a.var) with
   | none=>rfl
   | some v=>
     simp only[hT,mem_mem]
     by_cases h0:a.kind=0
     ·simp only[h0,if_true,decide_true,Bool.not_true,Bool.false_and,Bool.false_or]
      cases isR vs a.value v.type<;>cases decide (v.kind=1)<;>cases memA a.var A<;>simp[acts_same ks vs hav hT r]
     ·by_cases h1:a.kind=1
      ·simp only[h1,if_true,decide_true,Bool.not_true,Bool.and_false,Bool.false_or,if_false,(by decide:¬ (1:Int)=0)]
       cases isR vs a.value v.type<;>cases decide (v.kind=0)<;>cases memA a.var S<;>simp[acts_same ks vs hav hT r]
      ·simp only[h0,h1,decide_false,Bool.not_false,Bool.true_and,Bool.true_or,if_true,if_false]
       cases isR vs a.value v.type<;>rfl
theorem whens_same (ks:List (ByteArray×Va)) (vs:List Va) (hav:∀ n,assoc ks n=vs.find? fun v=>decide (v.name=n)) (hT:∀ e t,typedF ks e t=isR vs e t) :
  ∀ (l:List Whn) (A:List ByteArray),whensR vs l A=whensG ks l A
 | [],_=>rfl
 | w :: r,A=>by
   unfold whensR whensG whenR actsF
   rw[hT,acts_same ks vs hav hT]
   simp only
   by_cases hl:w.acts.length=0
   ·rw[decide_eq_true hl,decide_eq_false (p:=0<w.acts.length) (by omega)]
    simp
   ·rw[decide_eq_false hl,decide_eq_true (p:=0<w.acts.length) (by omega)]
    cases isR vs w.cond 1<;>cases (actsG ks w.acts [] A).1<;>simp[whens_same ks vs hav hT r]
theorem varF_type {v:Va} (h:varF v=true):v.type=0∨v.type=1:=by
 unfold varF kindF at h
 simp only[Bool.and_eq_true,Bool.not_eq_true',Bool.or_eq_false_iff,Bool.and_eq_false_iff] at h
 rcases h.1.1.1.1.1.1.1 with h | h
 ·exact .inl (by simpa using h)
 ·exact .inr (by simpa using h)
theorem valid_same (s:Sys):validR s=validF s:=by
 unfold validR validF
 cases h1:risG (s.vars.map Va.name) none with
 | false=>rfl
 | true=>
   have e1:knownF s.vars=s.vars.map fun v=>(v.name,v):=by
    unfold knownF
    rw[known_eq _ _ (by simpa using risG_nodup _ _ h1)];rfl
   have hav:∀ n,assoc (knownF s.vars) n=s.vars.find? fun v=>decide (v.name=n):=fun n=>by rw[e1,assoc_find]
   have e2:(s.vars.all fun v=>nameF v.name&&varF v)=!(s.vars.any fun v=>!varF v):=by
    rw[List.not_any_eq_all_not]
    rw[Bool.eq_iff_iff,List.all_eq_true,List.all_eq_true]
    have hn:=risG_name _ _ h1
    refine ⟨fun h v hv=>?_,fun h v hv=>?_⟩
    ·have:=h v hv
     rw[Bool.and_eq_true] at this
     simp[this.2]
    ·have:=h v hv
     rw[Bool.not_not] at this
     rw[hn _ (List.mem_map.2 ⟨v,hv,rfl⟩),this];rfl
   rw[e2]
   cases h2:(s.vars.any fun v=>!varF v) with
   | true=>simp
   | false=>
     have hv:∀ v∈s.vars,v.type=0∨v.type=1:=fun v hv=>varF_type (by
      have:=List.any_eq_false.1 h2 v hv
      simpa using this)
     have hT:=typed_same (knownF s.vars) s.vars hav hv
     have e3:∀ l:List Eqn,eqsR s.vars l=l.all (eqT (knownF s.vars)):=by
      intro l
      unfold eqsR
      congr 1
      funext q
      unfold eqT
      rw[hT,hT]
     rw[e3,e3,whens_same _ _ hav hT]
theorem check_same (s:Sys):checkR s=checkF s:=by
 unfold checkR checkF
 rw[valid_same]
end Go.Proofs.YtlhdoekgipaihaaGreatDoor
namespace Go.Proofs.YtlhdoekgipaihaaGreatDoor
open Go Go.Fw
structure U where
 name:ByteArray
 order:Int
 pre:Bool
 deriving DecidableEq
def encU (u:U):AV:=.agg [.val (.string u.name),.val (.int .i64 u.order),.val (.bool u.pre)]
def cmpS (a b:ByteArray):Int:=Lib.compareBytes a.data.toList b.data.toList
theorem Compare0_ok (a b:ByteArray):PureCall Tryz.prog 248 [encS a,encS b] (encI (cmpS a b)):=by
 refine PC [] Tryz.func248 rfl (by rfl) rfl ?_
 refine kW ?_
 (refine kS ?_;repeat intro γ)
 refine CallP.ext _ (extCS a b) ?_
 refine kW ?_
 (refine kS ?_;repeat intro γ)
 exact .of rfl
theorem Compare_ok (a b:ByteArray):PureCall Tryz.prog 130 [encS a,encS b] (encI (cmpS a b)):=by
 refine PC [] Tryz.func130 rfl (by rfl) rfl ?_
 refine kW ?_
 (refine kS ?_;repeat intro γ)
 refine CallP.flat [] _ c248 (Compare0_ok a b) rfl ?_
 refine kW ?_
 (refine kS ?_;repeat intro γ)
 exact .of rfl
def fitF (u:U):Bool:=nameF u.name&&decide (0≤u.order∧u.order≤6)&&(!u.pre||decide (u.order=0))
def lessG (s s':ByteArray) (n n':Int) (p p':Bool):Int:=match decide (s=s') with
 | false=>cmpS s s'
 | true=>match decide (p=p') with
   | false=>match p' with
     | true=>-1
     | false=>1
   | true=>n-n'
def lessF (a b:U):Int:=lessG a.name b.name a.order b.order a.pre b.pre
theorem encU_mk (s:ByteArray) (n:Int) (p:Bool):encU ⟨s,n,p⟩=.agg [.val (.string s),.val (.int .i64 n),.val (.bool p)]:=rfl
def beforeF (a b:U):Bool:=match decide (a.name=b.name) with
 | false=>Op.bytesLess a.name.toList b.name.toList
 | true=>match decide (a.pre=b.pre) with
   | false=>b.pre
   | true=>decide (a.order<b.order)
theorem Fit_ok (u:U) (hs:u.name.size<2^35):PureCall Tryz.prog 50 [encU u] (encB (fitF u)):=by
 refine PC [] Tryz.func50 rfl (by rfl) rfl ?_
 obtain ⟨s,n,p⟩:=u
 obtain ⟨F,hF⟩:∃ F,(nameF s&&decide (0≤n∧n≤6)&&(!p||decide (n=0)))=F:=⟨_,rfl⟩
 rw[show fitF ⟨s,n,p⟩=F from hF]
 simp only at hs
 rw[encU_mk]
 refine kW ?_
 (refine kO ?_;repeat intro γ)
 refine CallP.flat [] (encB (nameF s)) c120 (name61_ok s (by omega)) rfl ?_
 refine kW ?_
 (refine kO ?_;repeat intro γ)
 refine CondP.intro (fun h1=>?_) (fun h1=>?_)<;>refine kW ?_
 ·rw[h1,Bool.true_and] at hF
  (refine kO ?_;repeat intro γ)
  refine CondP.dec (fun h2=>?_) (fun h2=>?_)<;>refine kW ?_
  ·(refine kO ?_;repeat intro γ)
   refine CondP.dec (fun h3=>?_) (fun h3=>?_)<;>refine kW ?_
   ·rw[decide_eq_true (by omega),Bool.true_and] at hF
    (refine kO ?_;repeat intro γ)
    cases p
    ·refine kW ?_
     (refine kO ?_;repeat intro γ)
     exact .of (by rw[← hF];rfl)
    ·refine kW ?_
     (refine kO ?_;repeat intro γ)
     exact .of (by rw[← hF];simp;rfl)
   ·rw[decide_eq_false (by omega),Bool.false_and] at hF
    (refine kO ?_;repeat intro γ)
    exact .of (by rw[← hF];rfl)
  ·rw[decide_eq_false (by omega),Bool.false_and] at hF
   (refine kO ?_;repeat intro γ)
   exact .of (by rw[← hF];rfl)
 ·rw[h1,Bool.false_and,Bool.false_and] at hF
  (refine kO ?_;repeat intro γ)
  exact .of (by rw[← hF];rfl)
theorem Less_ok (a b:U) (ha:0≤a.order∧a.order≤6) (hb:0≤b.order∧b.order≤6):PureCall Tryz.prog 51 [encU a,encU b] (encI (lessF a b)):=by
 refine PC [] Tryz.func51 rfl (by rfl) rfl ?_
 obtain ⟨s,n,p⟩:=a
 obtain ⟨s',n',p'⟩:=b
 obtain ⟨F,hF⟩:∃ F,lessG s s' n n' p p'=F:=⟨_,rfl⟩
 rw[show lessF ⟨s,n,p⟩ ⟨s',n',p'⟩=F from hF]
 unfold lessG at hF
 simp only at ha hb
 rw[encU_mk,encU_mk]
 refine kW ?_
 (refine kO ?_;repeat intro γ)
 refine CondP.dec (fun h1=>?_) (fun h1=>?_)<;>refine kW ?_
 ·rw[decide_eq_true h1] at hF
  cases p<;>cases p'
  all_goals (refine kW ?_)
  all_goals ((refine kS ?_;repeat intro γ))
  all_goals exact .of (by rw[← hF];rfl)
 ·rw[decide_eq_false h1] at hF
  (refine kO ?_;repeat intro γ)
  refine CallP.flat [] (encI (cmpS s s')) c130 (Compare_ok s s') rfl ?_
  refine kW ?_
  (refine kO ?_;repeat intro γ)
  exact .of (by rw[← hF];rfl)
theorem Before_ok (a b:U):PureCall Tryz.prog 55 [encU a,encU b] (encB (beforeF a b)):=by
 refine PC [] Tryz.func55 rfl (by rfl) rfl ?_
 obtain ⟨s,n,p⟩:=a
 obtain ⟨s',n',p'⟩:=b
 obtain ⟨F,hF⟩:∃ F,(match decide (s=s') with | false=>Op.bytesLess s.toList s'.toList | true=>match decide (p=p') with | false=>p' | true=>decide (n<n'))=F:=⟨_,rfl⟩
 rw[show beforeF ⟨s,n,p⟩ ⟨s',n',p'⟩=F from hF]
 rw[encU_mk,encU_mk]
 refine kW ?_
 (refine kO ?_;repeat intro γ)
 refine CondP.dec (fun h1=>?_) (fun h1=>?_)<;>refine kW ?_
 ·rw[decide_eq_true h1] at hF
  cases p<;>cases p'
  all_goals (refine kW ?_)
  all_goals ((refine kS ?_;repeat intro γ))
  all_goals exact .of (by rw[← hF];rfl)
 ·rw[decide_eq_false h1] at hF
  (refine kO ?_;repeat intro γ)
  exact .of (by rw[← hF];rfl)
def useF (e:Ex):U:=⟨e.text,e.order,decide (e.op=oPre)⟩
theorem Use_ok (e:Ex):PureCall Tryz.prog 132 [encE e] (encU (useF e)):=by
 refine PC [] Tryz.func132 rfl (by rfl) rfl ?_
 rw[encE_eq]
 unfold useF encU
 generalize e.kids=ks
 generalize e.op=o
 generalize e.text=tx
 generalize e.order=od
 refine kW ?_
 (refine kS ?_;repeat intro γ)
 exact .of rfl
end Go.Proofs.YtlhdoekgipaihaaGreatDoor
namespace Go.Proofs.YtlhdoekgipaihaaGreatDoor
open Go Go.Fw
def putU (A:List U) (u:U):List U:=if u∈A then A else A++[u]
def setU (A:List U):AV:=.mp (A.map encU) (A.map fun _=>encB true)
mutual
def usesF:Ex→List U→List U
 | .mk o t n ks,A=>usesL ks (if o=oVar∨o=oPre then putU A ⟨t,n,decide (o=oPre)⟩ else A)
def usesL:List Ex→List U→List U
 | [],A=>A
 | k::ks,A=>usesL ks (usesF k A)
end
theorem usesF_eq (e:Ex) (A:List U):usesF e A=usesL e.kids (if e.op=oVar∨e.op=oPre then putU A (useF e) else A):=by cases e;rfl
theorem keyEq_use (u v:U):keyEq T 46 (encU u) (encU v)=some (decide (u=v)):=by
 obtain ⟨a,b,c⟩:=u
 obtain ⟨a',b',c'⟩:=v
 show some ((a==a')&&((decide (b=b'))&&((c==c')&&true)))=_
 rw[ba_beq]
 congr 1
 rw[Bool.eq_iff_iff]
 simp
theorem set_use (u:U):∀ A:List U,∃ r,findK (keyEq T 46 (encU u)) (A.map encU)=some r∧(match r with
  | some i=>u∈A∧(A.map fun _=>encB true).getD i .dead=encB true∧(A.map fun _=>encB true).set i (encB true)=A.map fun _=>encB true
  | none=>u ∉ A)
 | []=>⟨none,rfl,by simp⟩
 | x :: l=>by
   obtain ⟨r,h1,h2⟩:=set_use u l
   rw[List.map_cons]
   unfold findK
   rw[keyEq_use]
   by_cases h:u=x
   ·rw[decide_eq_true h]
    exact ⟨some 0,rfl,by simp[h],rfl,rfl⟩
   ·rw[decide_eq_false h,h1]
    refine ⟨r.map (· + 1),rfl,?_⟩
    revert h2
    cases r with
    | none=>intro h2;simp[h];exact h2
    | some i=>
      rintro ⟨h2,h3,h4⟩
      exact ⟨by simp[h2],h3,by show (_::_)=(_::_);exact congrArg _ h4⟩
theorem Uses_ok (e:Ex):SzE e→∀ (A:List U) (p:Nat),HCall Tryz.prog 57 [encE e,.om 50 p] (hp [(50,p,⟨90,0,[setU A]⟩)]) (fun r h=>r=.tup []∧h=hp [(50,p,⟨90,0,[setU (usesF e A)]⟩)]):=by
 induction e using ex_ind with
 | h e ih=>
   intro hs A p
   have hU:=Use_ok e
   have ihk:=fun k hk=>ih k hk (hs.kid k hk)
   have hl:=hs.len
   refine hcall_cp (E:=E 0) T_ok (D_ok 0) Tryz.func57 rfl (by rfl) (Nat.le_of_ble_eq_true rfl) ?_
   generalize hF:usesF e A=F
   rw[usesF_eq] at hF
   clear ih hs
   rw[encE_eq] at hU ⊢
   generalize useF e=u at hU hF
   generalize e.kids=ks at *
   generalize e.op=o at *
   generalize e.text=tx at *
   generalize e.order=od at *
   have hput:(u∈A→putU A u=A)∧(u ∉ A→putU A u=A++[u]):=⟨fun h=>by unfold putU;rw[if_pos h],fun h=>by unfold putU;rw[if_neg h]⟩
   obtain ⟨r2,hr2,hm2⟩:=set_use u A
   have hlen:AV.val (.int .i64 ((ks.map encE).length:Nat))=encI ks.length:=by rw[List.length_map];rfl
   refine kW ?_
   (refine kS ?_;repeat intro γ)
   refine CondP.dec (fun h1=>?_) (fun h1=>?_)<;>refine kW ?_
   case' refine_2=>
    by_cases h2:o=oPre
   case' pos | refine_1=>
    rw[if_pos (by simp[*])] at hF
    (refine kS ?_;repeat intro γ)
    refine CallP.pure [] _ c132 hU ?_
    refine kW ?_
    (refine kS ?_;repeat intro γ)
    refine Need.intro keyst46 ?_
    refine kW ?_
    (refine kS ?_;repeat intro γ)
    refine LookP.intro r2 hr2 ?_
    rcases r2 with _ | j
    case' none=>rw[hput.2 hm2] at hF
    case' some=>
     obtain ⟨m1,m2,m3⟩:=hm2
     rw[hput.1 m1] at hF
    all_goals refine kW ?_
    all_goals (refine kS ?_;repeat intro γ)
   case' neg=>
    rw[if_neg (by simp[*])] at hF
    (refine kS ?_;repeat intro γ)
   all_goals
    refine LoopP.intro (fun k σ H=>∃ i B,k=ks.length-i∧i≤ks.length∧usesL (ks.drop i) B=F∧σ=fr [(1,.om 50 p),(18,.sl 4 (ks.map encE)),(19,encI ks.length),(20,encI i)] ∧
     H=hp [(50,p,⟨90,0,[setU B]⟩)]) ?_ ?_
    case' refine_1=>
     first
      | exact .intro <| W.of ⟨_,0,_,rfl,Nat.zero_le _,hF,rfl,rfl⟩ ⟨rfl,rfl,hlen,rfl,trivial⟩ ⟨rfl,trivial⟩
      | exact .intro <| W.of ⟨_,0,_,rfl,Nat.zero_le _,hF,rfl,rfl⟩ ⟨rfl,rfl,hlen,rfl,trivial⟩ ⟨by show some (_,(⟨_,_,[.mp _ (List.set _ _ (encB true))]⟩:Blk))=_;rw[m3];rfl,trivial⟩
      | exact .intro <| W.of ⟨_,0,_,rfl,Nat.zero_le _,hF,rfl,rfl⟩ ⟨rfl,rfl,hlen,rfl,trivial⟩ ⟨by unfold setU;rw[List.map_append,List.map_append];rfl,trivial⟩
    case' refine_2=>
     clear hF
     rintro k σ H ⟨i,B,rfl,hi,hF,rfl,rfl⟩
     rcases Nat.lt_or_ge i ks.length with h9 | h9
     ·rw[List.drop_eq_getElem_cons h9] at hF
      have hk:=ihk _ (List.getElem_mem h9) B p
      obtain ⟨k,hkk⟩:∃ k,ks[i]=k:=⟨_,rfl⟩
      rw[hkk] at hF hk
      unfold usesL at hF
      rw[encE_eq] at hk
      refine kW ?_
      (refine kQ ?_;repeat intro γ)
      simp only[hkk,encE_eq]
      (refine kQ ?_;repeat intro γ)
      refine CallP.frame 1000000 [(50,50)] rfl c57 hk rfl ⟨rfl,trivial⟩ ?_
      rintro r0 h' ⟨rfl,rfl⟩
      refine ⟨[(50,p,⟨90,0,[setU (usesF k B)]⟩)],⟨rfl,trivial⟩,?_⟩
      refine kW ?_
      (refine kQ ?_;repeat intro γ)
      exact .intro <| W.of ⟨_,by omega,i+1,_,rfl,h9,hF,rfl,rfl⟩ ⟨rfl,rfl,rfl,rfl,trivial⟩ ⟨rfl,trivial⟩
     ·rw[List.drop_eq_nil_of_le h9] at hF
      refine kW ?_
      (refine kQ ?_;repeat intro γ)
      refine EndH.of (m:=[(50,p,⟨90,0,[setU B]⟩)]) ⟨rfl,trivial⟩ ⟨rfl,?_⟩
      rw[← hF];rfl
end Go.Proofs.YtlhdoekgipaihaaGreatDoor
namespace Go.Proofs.YtlhdoekgipaihaaGreatDoor
open Go Go.Fw
structure G where
 eqs:List ByteArray
 uses:List U
 joined:List (List Int)
def encUs (l:List U):AV:=.sl 3 (l.map encU)
def encG (g:G):AV:=.agg [.sl 1 (g.eqs.map encS),encUs g.uses,.sl 1 (g.joined.map encIs)]
def idxU (A:List U):List U→Nat→List Int
 | [],_=>[]
 | u::r,i=>if u∈A then (i:Int)::idxU A r (i+1) else idxU A r (i+1)
def occ (q:Eqn):List U:=usesF q.right (usesF q.left [])
def graphF (qs:List Eqn) (us:List U):G:=⟨qs.map Eqn.name,us,qs.map fun q=>idxU (occ q) us 0⟩
theorem cloneU_ok (xs:List U) (hl:xs.length≤2^40):HCall Tryz.prog 131 [encUs xs] (hp []) (Gives 5 0 xs.length 46 3 (xs.map encU)):=by
 refine hcall_cp (E:=E 0) T_ok (D_ok 0) Tryz.func131 rfl (by rfl) (Nat.le_of_ble_eq_true rfl) ?_
 unfold encUs
 refine kW ?_
 (refine kS ?_;repeat intro γ)
 refine Need.intro ?_ ?_
 ·by_cases h:xs=[]
  ·right
   subst h
   refine kV ?_
   refine CondP.tt ?_
   refine kV ?_
   refine cpA_retW ?_
   refine W.mat 2 5 46 3 rfl rfl fun γ=>?_
   refine W.of (l:=[(2,.own 5 γ 0 0)]) (m:=[(5,γ,⟨46,3,[]⟩)]) ?_ ⟨rfl,trivial⟩ ⟨rfl,trivial⟩
   refine kW ?_
   (refine kS ?_;repeat intro γ)
   exact EndH.of (m:=[(5,γ,⟨46,3,[]⟩)]) ⟨rfl,trivial⟩ ⟨γ,rfl,rfl⟩
  ·left
   simpa using h
 ·refine kW ?_
  (refine kS ?_;repeat intro γ)
  rename_i γ
  refine EndH.of (m:=[(5,γ,⟨46,3,xs.map encU⟩)]) ⟨rfl,trivial⟩ ⟨γ,?_,rfl⟩
  simp;rfl
theorem ownCI {b p e n:Nat} {H:Hp} {out:List Int} (hb:H b=some (p,⟨e,1,out.map encI⟩)) (hn:n=out.length):snapC [b] H 3 (.own b p 0 n)=encIs out:=ownI hb hn
def hpG (g4 g5 a b c i:Nat) (us:List U) (ns:List ByteArray) (js:List (List Int)):List (Nat×Nat×Blk):=
 [(4,g4,⟨31,3,[.agg [.val (.slice none 0 0),.val (.slice none 0 0),.val (.slice none 0 0)]]⟩),(5,g5,⟨31,3,[.agg [.own 101 a 0 i,.own 100 b 0 us.length,.own 102 c 0 i]]⟩),
  (100,b,⟨46,3,us.map encU⟩),(101,a,⟨9,1,(ns.take i).map encS⟩),(102,c,⟨95,1,(js.take i).map encIs⟩)]
set_option maxHeartbeats 2000000 in
theorem graph_ok (s:Sys) (us:List U) (h1:s.eqs.length≤2^20) (h2:us.length≤2^20) (he:∀ q∈s.eqs,SzE q.left∧SzE q.right):PureCall Tryz.prog 52 [encSy s,encUs us] (encG (graphF s.eqs us)):=by
 refine PC [100,101,102] Tryz.func52 rfl (by rfl) rfl ?_
 have hcl:=cloneU_ok us (by omega)
 obtain ⟨vs,qs,ns,ws⟩:=s
 simp only at *
 unfold encSy
 obtain ⟨J,hJ⟩:∃ J:Eqn→List Int,J=fun q=>idxU (occ q) us 0:=⟨_,rfl⟩
 refine kW ?_
 (refine kS ?_;repeat intro γ)
 refine CallP.frame 1000000 [(5,100)] rfl c131 hcl rfl trivial ?_
 rintro r0 h' ⟨δ,rfl,rfl⟩
 refine ⟨[(100,δ,⟨46,3,us.map encU⟩),(2,_,⟨26,4,[.agg [.sl 7 (vs.map encV),.sl 9 (qs.map encQn),.sl 9 (ns.map encQn),.sl 6 (ws.map encWn)]]⟩),(4,_,⟨31,3,[.agg [.val (.slice none 0 0),.val (.slice none 0 0),.val (.slice none 0 0)]]⟩)],⟨mvB_flats encU _ (fun _=>rfl) ..,rfl,rfl,trivial⟩,?_⟩
 refine kW ?_
 (refine kS ?_;repeat intro γ)
 refine LoopP.intro (fun n σ H=>∃ g4 g5 a b c i,n=qs.length-i∧i≤qs.length ∧
  σ=fr [(1,encUs us),(4,.op 4 g4 0 0),(5,.op 5 g5 0 0),(16,.sl 9 (qs.map encQn)),(17,encI qs.length),(18,encI i)] ∧
  H=hp (hpG g4 g5 a b c i us (qs.map Eqn.name) (qs.map J))) ?_ ?_
 ·refine .intro <| W.matc 5 _ 0 0 101 9 1 ⟨31,3,[.agg [.val (.slice none 0 0),.own 100 δ 0 us.length,.val (.slice none 0 0)]]⟩ [.val (.slice none 0 0),.own 100 δ 0 us.length,.val (.slice none 0 0)] rfl rfl rfl rfl (by decide) fun a=>?_
  refine W.matc 5 _ 0 2 102 95 1 ⟨31,3,[.agg [.own 101 a 0 0,.own 100 δ 0 us.length,.val (.slice none 0 0)]]⟩ [.own 101 a 0 0,.own 100 δ 0 us.length,.val (.slice none 0 0)] rfl rfl rfl rfl (by decide) fun c=>?_
  refine W.of ⟨_,_,_,a,δ,c,0,rfl,Nat.zero_le _,rfl,rfl⟩ ⟨rfl,rfl,rfl,rfl,?_,rfl,trivial⟩ ⟨rfl,rfl,rfl,rfl,rfl,trivial⟩
  show AV.val (.int .i64 _)=AV.val (.int .i64 _)
  rw[List.length_map]
 ·rintro n σ H ⟨g4,g5,a,b,c,i,rfl,hi,rfl,rfl⟩
  unfold hpG
  rcases Nat.lt_or_ge i qs.length with h9 | h9
  ·have hq := he _ (List.getElem_mem h9)
   have t1:=take_snoc (qs.map Eqn.name) i (by rw[List.length_map];exact h9)
   have t2:=take_snoc (qs.map J) i (by rw[List.length_map];exact h9)
   rw[List.getElem_map] at t1 t2
   obtain ⟨q,hqq⟩:∃ q,qs[i]=q:=⟨_,rfl⟩
   rw[hqq] at hq t1 t2
   have u1:=Uses_ok q.left hq.1
   have u2:=Uses_ok q.right hq.2
   obtain ⟨A1,hA1⟩:∃ A1,usesF q.left []=A1:=⟨_,rfl⟩
   obtain ⟨A2,hA2⟩:∃ A2,usesF q.right A1=A2:=⟨_,rfl⟩
   rw[encE_cells] at u1 u2
   refine kW ?_
   (refine kQ ?_;repeat intro γ)
   simp only[hqq]
   (refine kQ ?_;repeat intro γ)
   refine CallP.frame 1000000 [(50,22)] rfl c57 (u1 [] _) rfl ⟨rfl,trivial⟩ ?_
   rintro r0 h' ⟨rfl,rfl⟩
   rw[hA1]
   refine ⟨(22,_,⟨90,0,[setU A1]⟩)::(7,_,⟨44,9,[.agg (encS q.name::(cellsE q.left++cellsE q.right))]⟩)::hpG g4 g5 a b c i us (qs.map Eqn.name) (qs.map J),⟨rfl,rfl,rfl,rfl,rfl,rfl,rfl,trivial⟩,?_⟩
   unfold hpG
   refine kW ?_
   (refine kQ ?_;repeat intro γ)
   refine CallP.frame 1000000 [(50,22)] rfl c57 (u2 A1 _) rfl ⟨rfl,trivial⟩ ?_
   rintro r0 h' ⟨rfl,rfl⟩
   rw[hA2]
   refine ⟨(22,_,⟨90,0,[setU A2]⟩)::(7,_,⟨44,9,[.agg (encS q.name::(cellsE q.left++cellsE q.right))]⟩)::hpG g4 g5 a b c i us (qs.map Eqn.name) (qs.map J),⟨rfl,rfl,rfl,rfl,rfl,rfl,rfl,trivial⟩,?_⟩
   unfold hpG
   refine kW ?_
   (refine kQ ?_;repeat intro γ)
   have hJq:J q=idxU A2 us 0:=by rw[hJ,← hA2,← hA1];rfl
   refine LoopP.intro (fun n σ H=>∃ m g7 l j,∃ acc:List Int,n=us.length-j∧j≤us.length∧acc.length≤j∧acc++idxU A2 (us.drop j) j=J q ∧
    σ=fr [(1,encUs us),(4,.op 4 g4 0 0),(5,.op 5 g5 0 0),(7,.op 7 g7 0 0),(8,.om 22 m),(9,.own 103 l 0 acc.length),(16,.sl 9 (qs.map encQn)),(17,encI qs.length),(18,encI i),(31,encUs us),(32,encI us.length),(33,encI j)] ∧
    H=hp ((22,m,⟨90,0,[setU A2]⟩)::(7,g7,⟨44,9,[.agg (encS q.name::(cellsE q.left++cellsE q.right))]⟩)::(103,l,⟨3,1,acc.map encI⟩)::hpG g4 g5 a b c i us (qs.map Eqn.name) (qs.map J))) ?_ ?_
   ·refine .intro (W.mat 9 103 3 1 rfl rfl fun l=>W.of ⟨_,_,_,l,0,[],rfl,Nat.zero_le _,Nat.le_refl _,hJq.symm,rfl,rfl⟩ ⟨rfl,rfl,rfl,rfl,rfl,rfl,rfl,rfl,rfl,rfl,rfl,rfl,trivial⟩ ⟨rfl,rfl,rfl,rfl,rfl,rfl,rfl,rfl,trivial⟩)
   ·clear u1 u2
    rintro n σ H ⟨m,g7,l,j,acc,rfl,hj,hac,hacc,rfl,rfl⟩
    unfold hpG
    have hml:(acc.map encI).length=acc.length:=List.length_map _
    rcases Nat.lt_or_ge j us.length with h8 | h8
    ·rw[List.drop_eq_getElem_cons h8] at hacc
     unfold idxU at hacc
     obtain ⟨r2,hr2,hm2⟩:=set_use us[j] A2
     obtain ⟨u,huu⟩:∃ u,us[j]=u:=⟨_,rfl⟩
     rw[huu] at hacc hr2 hm2
     unfold encUs
     refine kW ?_
     (refine kQ ?_;repeat intro γ)
     simp only[huu]
     unfold encU
     (refine kQ ?_;repeat intro γ)
     refine Need.intro keyst46 ?_
     refine kW ?_
     (refine kQ ?_;repeat intro γ)
     refine LookP.intro r2 hr2 ?_
     cases r2 with
     | some k=>
       obtain ⟨m1,m2,m3⟩:=hm2
       rw[if_pos m1] at hacc
       refine kW ?_
       rw[m2]
       refine kW ?_
       (refine kQ ?_;repeat intro γ)
       refine .intro <| W.of ⟨_,by omega,m,g7,γ,j+1,acc++[(j:Int)],rfl,h8,by rw[List.length_append,List.length_singleton];omega,by rw[List.append_assoc];exact hacc,rfl,rfl⟩ ⟨rfl,rfl,rfl,rfl,rfl,?_,rfl,rfl,rfl,rfl,rfl,rfl,trivial⟩ ⟨rfl,rfl,?_,rfl,rfl,rfl,rfl,rfl,trivial⟩
       ·exact congrArg (AV.own 103 _ 0) (by simp)
       ·show some (_,(⟨_,_,_++_⟩:Blk))=_
        rw[List.map_append];rfl
     | none=>
       rw[if_neg hm2] at hacc
       refine kW ?_
       (refine kQ ?_;repeat intro γ)
       exact .intro <| W.of ⟨_,by omega,m,g7,_,j+1,acc,rfl,h8,by omega,hacc,rfl,rfl⟩ ⟨rfl,rfl,rfl,rfl,rfl,rfl,rfl,rfl,rfl,rfl,rfl,rfl,trivial⟩ ⟨rfl,rfl,rfl,rfl,rfl,rfl,rfl,rfl,trivial⟩
    ·rw[List.drop_eq_nil_of_le h8] at hacc
     obtain rfl:acc=J q:=by rw[← hacc];unfold idxU;rw[List.append_nil]
     refine kW ?_
     refine CondP.dec (fun h=>?_) (fun h=>?_)
     ·exact absurd h (by omega)
     refine cpA_exitW (W.frx 9 103 (x:=.own 103 l 0 (J q).length) (y:=encIs (J q)) rfl (ownCI (p:=l) (e:=3) rfl rfl) (W.of (l:=[(1,encUs us),(4,.op 4 g4 0 0),(5,.op 5 g5 0 0),(7,.op 7 g7 0 0),(9,encIs (J q)),(16,.sl 9 (qs.map encQn)),(17,encI qs.length),(18,encI i)])
      (m:=(7,g7,⟨44,9,[.agg (encS q.name::(cellsE q.left++cellsE q.right))]⟩)::hpG g4 g5 a b c i us (qs.map Eqn.name) (qs.map J)) ?_ ⟨rfl,rfl,rfl,rfl,rfl,rfl,rfl,rfl,trivial⟩ ⟨rfl,rfl,rfl,rfl,rfl,rfl,trivial⟩))
     unfold hpG
     have hm1:(((qs.map Eqn.name).take i).map encS).length=i:=by simp;omega
     have hm2:(((qs.map J).take i).map encIs).length=i:=by simp;omega
     refine kW ?_
     (refine kQ ?_;repeat intro γ)
     refine .intro <| W.of ⟨_,by omega,g4,g5,γ 5,b,γ 10,i+1,rfl,h9,rfl,rfl⟩ ⟨rfl,rfl,rfl,rfl,rfl,rfl,trivial⟩ ⟨rfl,rfl,rfl,?_,?_,trivial⟩
     ·rw[← t1,List.map_append];rfl
     ·rw[← t2,List.map_append];rfl
  ·obtain rfl:i=qs.length:=by omega
   rw[List.take_of_length_le (by rw[List.length_map];exact Nat.le_refl _),List.take_of_length_le (by rw[List.length_map];exact Nat.le_refl _)]
   refine kW ?_
   (refine kQ ?_;repeat intro γ)
   refine .of ?_
   show AV.agg [AV.sl 1 _,AV.sl 3 _,AV.sl 1 _]=_
   rw[snap_list _ _ _ _ (by simp) (fun _=>rfl),snap_list _ _ _ _ rfl (fun _=>rfl),snap_list _ _ _ _ (by simp) (fun _=>rfl),hJ]
   rfl
end Go.Proofs.YtlhdoekgipaihaaGreatDoor
namespace Go.Proofs.YtlhdoekgipaihaaGreatDoor
open Go Go.Fw
def kindsF (vs:List Va):List (ByteArray×Int):=vs.foldl (fun l v=>putK l v.name v.kind) []
def encKi (ks:List (ByteArray×Int)):AV:=.mp (ks.map fun x=>encS x.1) (ks.map fun x=>encI x.2)
def fitsG (ks:List (ByteArray×Int)):List U→Option U→Bool
 | [],_=>true
 | u::r,p=>decide (assoc ks u.name=some 0)&&fitF u&&!u.pre&&(match p with | none=>true | some p=>decide (lessF p u<0))&&fitsG ks r (some u)
def pvU (l:List U):Nat→Option U
 | 0=>none
 | i+1=>l[i]?
def gNil:G:=⟨[],[],[]⟩
def GraphF (s:Sys) (us:List U):G×Int:=
 if checkF s≠0 then (gNil,checkF s) else if !fitsG (kindsF s.vars) us none then (gNil,1) else if 400<us.length then (gNil,2) else (graphF s.eqs us,0)
def encGE (x:G×Int):AV:=.tup [encG x.1,encI x.2]
theorem ends_gnil (f:Int) {r:AV} (h:r=.tup [.agg [.val (.slice none 0 0),.val (.slice none 0 0),.val (.slice none 0 0)],encI f]) {F:G×Int} (hF:(gNil,f)=F):Fw.Ends r (encGE F):=by
 rw[h,← hF]
 have:=Le.cons (Le.nil 1) (Le.cons (Le.nil 3) (Le.cons (Le.nil 1) Le.nils))
 exact ends_tup2 (Le.agg this.1 this.2) (Le.refl _)
def hpK (g2 g4:Nat) (vs:List Va) (qs ns:List Eqn) (ws:List Whn):List (Nat×Nat×Blk):=
 [(2,g2,⟨26,4,[.agg [.sl 7 (vs.map encV),.sl 9 (qs.map encQn),.sl 9 (ns.map encQn),.sl 6 (ws.map encWn)]]⟩),(4,g4,⟨31,3,[.agg [.val (.slice none 0 0),.val (.slice none 0 0),.val (.slice none 0 0)]]⟩)]
set_option maxHeartbeats 2000000 in
theorem Graph_ok (s:Sys) (hs:SzS s) (us:List U) (h2:us.length≤2^60) (hn:∀ u∈us,u.name.size<2^35):PureCall Tryz.prog 15 [encSy s,encUs us] (encGE (GraphF s us)):=by
 refine PC [] Tryz.func15 rfl (by rfl) rfl ?_
 have hc:=Check_ok s hs
 have hb:checkF s=0→s.vars.length≤200∧s.eqs.length≤200:=by
  intro h
  unfold checkF at h
  split at h
  ·cases h
  ·rename_i h'
   unfold largeF at h'
   simp only[Bool.or_eq_true,decide_eq_true_eq,not_or] at h'
   omega
 have hQ:∀ q∈s.eqs,SzE q.left∧SzE q.right:=fun q hq=>⟨(hs.e _ (by unfold allF;exact List.mem_append_left _ (List.mem_append_left _ (mem_side hq).1))).1,(hs.e _ (by unfold allF;exact List.mem_append_left _ (List.mem_append_left _ (mem_side hq).2))).1⟩
 have hg:=fun h h'=>graph_ok s us h h' hQ
 generalize hF:GraphF s us=F
 unfold GraphF at hF
 generalize checkF s=ck at hF hc hb
 clear hs hQ
 obtain ⟨vs,qs,ns,ws⟩:=s
 simp only at *
 unfold encSy at *
 simp only at *
 refine kW ?_
 (refine kQ ?_;repeat intro γ)
 refine CallP.flat [] _ c36 hc rfl ?_
 by_cases h0:ck=0
 case' neg=>
  rw[if_pos h0] at hF
  refine kW ?_
  (refine kQ ?_;repeat intro γ)
  exact ends_gnil ck rfl hF
 rw[if_neg (by simp[h0])] at hF
 have hb:=hb h0
 refine kW ?_
 (refine kQ ?_;repeat intro γ)
 obtain ⟨K,hK⟩:∃ K,kindsF vs=K:=⟨_,rfl⟩
 rw[hK] at hF
 unfold kindsF at hK
 refine LoopP.intro (fun k σ H=>∃ g2 g4 g i,∃ l:List (ByteArray×Int),k=vs.length-i∧i≤vs.length∧(vs.drop i).foldl (fun l v=>putK l v.name v.kind) l=K ∧
  σ=fr [(1,encUs us),(2,.op 2 g2 0 0),(4,.op 4 g4 0 0),(7,.om 20 g),(22,.sl 7 (vs.map encV)),(23,encI vs.length),(24,encI i)] ∧
  H=hp ((20,g,⟨81,0,[encKi l]⟩)::hpK g2 g4 vs qs ns ws)) ?_ ?_
 ·refine .intro <| W.of ⟨_,_,_,_,0,[],rfl,Nat.zero_le _,hK,rfl,rfl⟩ ⟨rfl,rfl,rfl,rfl,rfl,rfl,rfl,trivial⟩ ⟨rfl,rfl,rfl,trivial⟩
 ·clear hK
  rintro k σ H ⟨g2,g4,g,i,l,rfl,hi,hK,rfl,rfl⟩
  unfold hpK
  rcases Nat.lt_or_ge i vs.length with h1 | h1
  ·rw[List.drop_eq_getElem_cons h1,List.foldl_cons] at hK
   obtain ⟨v,hvv⟩:∃ v,vs[i]=v:=⟨_,rfl⟩
   rw[hvv] at hK
   obtain ⟨r,hr,hm⟩:=put_str encI v.name v.kind l
   refine kW ?_
   (refine kQ ?_;repeat intro γ)
   simp only[hvv]
   (refine kQ ?_;repeat intro γ)
   refine Need.intro keyst9 ?_
   refine kW ?_
   (refine kQ ?_;repeat intro γ)
   refine LookP.intro r hr ?_
   cases r with
   | some j=>
     refine kW ?_
     (refine kQ ?_;repeat intro γ)
     refine .intro <| W.of ⟨_,by omega,_,_,_,i+1,putK l v.name v.kind,rfl,h1,hK,rfl,rfl⟩ ⟨rfl,rfl,rfl,rfl,rfl,rfl,rfl,trivial⟩ ⟨?_,rfl,rfl,trivial⟩
     exact congrArg (fun z=>some (g,(⟨81,0,[z]⟩:Blk))) (congr (congrArg AV.mp hm.1) hm.2)
   | none=>
     refine kW ?_
     (refine kQ ?_;repeat intro γ)
     refine .intro <| W.of ⟨_,by omega,_,_,_,i+1,putK l v.name v.kind,rfl,h1,hK,rfl,rfl⟩ ⟨rfl,rfl,rfl,rfl,rfl,rfl,rfl,trivial⟩ ⟨?_,rfl,rfl,trivial⟩
     exact congrArg (fun z=>some (g,(⟨81,0,[z]⟩:Blk))) (congr (congrArg AV.mp hm.1) hm.2)
  rw[List.drop_eq_nil_of_le h1] at hK
  replace hK:l=K:=hK
  subst hK
  refine kW ?_
  (refine kQ ?_;repeat intro γ)
  refine LoopP.intro (fun k σ H=>∃ g i,k=us.length-i∧i≤us.length∧(if (!fitsG l (us.drop i) (pvU us i))=true then (gNil,1) else if 400<us.length then (gNil,2) else (graphF qs us,0))=F∧(∀ p,pvU us i=some p→0≤p.order∧p.order≤6) ∧
   σ=fr [(1,encUs us),(2,.op 2 g2 0 0),(4,.op 4 g4 0 0),(7,.om 20 g),(34,encUs us),(35,encI us.length),(36,encI i)] ∧
   H=hp ((20,g,⟨81,0,[encKi l]⟩)::hpK g2 g4 vs qs ns ws)) ?_ ?_
  ·exact .intro <| W.of ⟨_,_,0,rfl,Nat.zero_le _,hF,(fun p h=>by cases h),rfl,rfl⟩ ⟨rfl,rfl,rfl,rfl,rfl,rfl,rfl,trivial⟩ ⟨rfl,rfl,rfl,trivial⟩
  ·clear hF
   rintro k σ H ⟨g,i,rfl,hi,hF,hpv,rfl,rfl⟩
   unfold hpK
   rcases Nat.lt_or_ge i us.length with h3 | h3
   ·rw[List.drop_eq_getElem_cons h3] at hF
    have hnu:=hn _ (List.getElem_mem h3)
    have hpu:pvU us (i+1)=some us[i]:=List.getElem?_eq_getElem h3
    obtain ⟨u,huu⟩:∃ u,us[i]=u:=⟨_,rfl⟩
    rw[huu] at hF hnu hpu
    unfold fitsG at hF
    obtain ⟨r,hr,hm⟩:=look_str encI u.name l
    have hfit:=Fit_ok u hnu
    unfold encUs
    refine kW ?_
    (refine kQ ?_;repeat intro γ)
    simp only[huu]
    unfold encU at hfit ⊢
    (refine kQ ?_;repeat intro γ)
    refine Need.intro keyst9 ?_
    refine kW ?_
    (refine kQ ?_;repeat intro γ)
    refine LookP.intro r hr ?_
    cases ha:assoc l u.name with
    | none=>
      rw[ha] at hm hF
      cases r with
      | some i=>exact hm.elim
      | none=>
        refine kW ?_
        (refine kQ ?_;repeat intro γ)
        exact ends_gnil 1 rfl (by simpa using hF)
    | some k=>
      rw[ha] at hm hF
      cases r with
      | none=>exact hm.elim
      | some j=>
        refine kW ?_
        rw[show (List.map (fun x=>encI x.snd) l).getD j AV.dead=encI k from hm]
        refine kW ?_
        (refine kQ ?_;repeat intro γ)
        have hk0:decide (some k=some 0)=decide (k=0):=decide_eq_decide.2 (by simp)
        rw[hk0] at hF
        refine CondP.dec (fun c0=>?_) (fun c0=>?_)<;>refine kW ?_
        case' refine_2=>
         rw[decide_eq_false c0] at hF
         (refine kQ ?_;repeat intro γ)
         exact ends_gnil 1 rfl (by simpa using hF)
        rw[decide_eq_true c0] at hF
        (refine kQ ?_;repeat intro γ)
        have hord:fitF u=true→0≤u.order∧u.order≤6:=by
         intro h
         unfold fitF at h
         simp only[Bool.and_eq_true,decide_eq_true_eq] at h
         exact h.1.2
        generalize fitF u=fu at hF hfit hord
        refine CallG.intro _ c50 hfit ?_
        cases fu with
        | false=>
          refine kW ?_
          (refine kQ ?_;repeat intro γ)
          exact ends_gnil 1 rfl (by simpa using hF)
        | true=>
          have hord:=hord rfl
          refine kW ?_
          (refine kQ ?_;repeat intro γ)
          refine CondP.intro (fun cp=>?_) (fun cp=>?_)<;>refine kW ?_
          ·rw[cp] at hF
           (refine kQ ?_;repeat intro γ)
           exact ends_gnil 1 rfl (by simpa using hF)
          rw[cp] at hF
          simp only[Bool.true_and,Bool.not_false] at hF
          (refine kQ ?_;repeat intro γ)
          cases i with
          | zero=>
            refine kW ?_
            (refine kQ ?_;repeat intro γ)
            exact .intro <| W.of ⟨_,by omega,g,1,rfl,h3,by rw[hpu];exact hF,(fun p h=>by rw[hpu] at h;cases h;exact hord),rfl,rfl⟩ ⟨rfl,rfl,rfl,rfl,rfl,rfl,rfl,trivial⟩ ⟨rfl,rfl,rfl,trivial⟩
          | succ i=>
            have h4:i<us.length:=by omega
            obtain ⟨p,hpp⟩:∃ p,us[i]=p:=⟨_,rfl⟩
            have hp1:pvU us (i+1)=some p:=(List.getElem?_eq_getElem h4).trans (congrArg some hpp)
            rw[hp1] at hF
            have hpo:=hpv p hp1
            have hle:=Less_ok p u hpo hord
            have e1:(((i+1:Nat):Int)-1).toNat=i:=by omega
            refine kW ?_
            (refine kQ ?_;repeat intro γ)
            simp only[e1,hpp]
            refine CallG.intro _ c51 hle ?_
            replace hF:(if (!(decide (lessF p u<0)&&fitsG l (List.drop (i+1+1) us) (some u)))=true then (gNil,1) else if 400<us.length then (gNil,2) else (graphF qs us,0))=F:=hF
            generalize lessF p u=lf at hF
            refine kW ?_
            (refine kQ ?_;repeat intro γ)
            refine CondP.dec (fun cl=>?_) (fun cl=>?_)<;>refine kW ?_
            ·rw[decide_eq_false (by omega)] at hF
             (refine kQ ?_;repeat intro γ)
             exact ends_gnil 1 rfl (by simpa using hF)
            ·rw[decide_eq_true (by omega),Bool.true_and] at hF
             (refine kQ ?_;repeat intro γ)
             exact .intro <| W.of ⟨_,by omega,g,i+1+1,rfl,h3,by rw[hpu];exact hF,(fun p h=>by rw[hpu] at h;cases h;exact hord),rfl,rfl⟩ ⟨rfl,rfl,rfl,rfl,rfl,rfl,rfl,trivial⟩ ⟨rfl,rfl,rfl,trivial⟩
   ·rw[List.drop_eq_nil_of_le h3] at hF
    unfold fitsG at hF
    simp only[Bool.not_true,Bool.false_eq_true,if_false] at hF
    refine kW ?_
    (refine kQ ?_;repeat intro γ)
    refine CondP.dec (fun h=>?_) (fun h=>?_)<;>refine kW ?_
    ·rw[if_pos (by omega)] at hF
     (refine kQ ?_;repeat intro γ)
     exact ends_gnil 2 rfl hF
    ·rw[if_neg (by omega)] at hF
     (refine kQ ?_;repeat intro γ)
     refine CallP.pure [] _ c52 (hg (by omega) (by omega)) ?_
     refine kW ?_
     (refine kQ ?_;repeat intro γ)
     exact .of (by rw[← hF];rfl)
end Go.Proofs.YtlhdoekgipaihaaGreatDoor
namespace Go.Proofs.YtlhdoekgipaihaaGreatDoor
open Go Go.Fw
def topF (A:List U) (n:ByteArray):Int:=A.foldl (fun m u=>if u.name=n then max m u.order else m) 0
theorem top_gen (n:ByteArray):∀ (A:List U) (m:Int),m≤A.foldl (fun m u=>if u.name=n then max m u.order else m) m∧(∀ u∈A,u.name=n→u.order≤A.foldl (fun m u=>if u.name=n then max m u.order else m) m) ∧
  (A.foldl (fun m u=>if u.name=n then max m u.order else m) m=m∨∃ u∈A,u.name=n∧u.order=A.foldl (fun m u=>if u.name=n then max m u.order else m) m)
 | [],m=>⟨Int.le_refl _,(fun u h=>by cases h),.inl rfl⟩
 | u :: A,m=>by
   rw[List.foldl_cons]
   obtain ⟨h1,h2,h3⟩:=top_gen n A (if u.name=n then max m u.order else m)
   refine ⟨Int.le_trans (by split<;>omega) h1,fun v hv hn=>?_,?_⟩
   ·rcases List.mem_cons.1 hv with rfl | hv
    ·exact Int.le_trans (by rw[if_pos hn];omega) h1
    ·exact h2 v hv hn
   ·rcases h3 with h3 | ⟨v,hv,h4,h5⟩
    ·by_cases hu:u.name=n
     ·rw[if_pos hu] at h3 ⊢
      by_cases hm:u.order≤m
      ·left;rw[h3];omega
      ·right;exact ⟨u,by simp,hu,by rw[h3];omega⟩
     ·rw[if_neg hu] at h3 ⊢
      exact .inl h3
    ·exact .inr ⟨v,by simp[hv],h4,h5⟩
theorem top_eq {A:List U} {n:ByteArray} {t:Int} (h0:0≤t) (h1:∀ u∈A,u.name=n→u.order≤t) (h2:t=0∨∃ u∈A,u.name=n∧u.order=t):t=topF A n:=by
 obtain ⟨a,b,c⟩:=top_gen n A 0
 unfold topF
 refine Int.le_antisymm ?_ ?_
 ·rcases h2 with h2 | ⟨u,hu,h3,h4⟩
  ·omega
  ·rw[← h4];exact b u hu h3
 ·rcases c with c | ⟨u,hu,h3,h4⟩
  ·omega
  ·rw[← h4];exact h1 u hu h3
def occS (qs:List Eqn) (A:List U):List U:=qs.foldl (fun A q=>usesF q.right (usesF q.left A)) A
def topsU (vs:List Va) (A:List U):List U:=(vs.filter fun v=>decide (v.kind=0)).map fun v=>⟨v.name,topF A v.name,false⟩
def TopsF (s:Sys):G×Int:=if checkF s≠0 then (gNil,checkF s) else (graphF s.eqs (topsU s.vars (occS s.eqs [])),0)
theorem topsU_snoc (vs:List Va) (A:List U) (i:Nat) (h:i<vs.length):topsU (vs.take (i+1)) A=if vs[i].kind=0 then topsU (vs.take i) A++[⟨vs[i].name,topF A vs[i].name,false⟩] else topsU (vs.take i) A:=by
 unfold topsU
 rw[← take_snoc vs i h,List.filter_append,List.map_append]
 by_cases h:vs[i].kind=0
 ·rw[if_pos h,List.filter_cons_of_pos (by simpa using h)];rfl
 ·rw[if_neg h,List.filter_cons_of_neg (by simpa using h)];simp
theorem topsU_len (vs:List Va) (A:List U):(topsU vs A).length≤vs.length:=by
 unfold topsU
 rw[List.length_map]
 exact List.length_filter_le _ _
theorem filter_short (L:List Nat) (j:Nat) (h:j∈L):(L.filter (· ≠ j)).length<L.length:=by
 refine Nat.lt_of_le_of_ne (List.length_filter_le _ _) fun e=>?_
 have:=(List.length_filter_eq_length_iff.1 e) j h
 simp at this
theorem filter_encN (L:List Nat) (j:Nat):(L.map Fw.encN).filter (fun x=>match x with | .val (.int _ i)=>!decide (i=(j:Int)) | _=>true)=(L.filter (· ≠ j)).map Fw.encN:=by
 rw[List.filter_map]
 congr 1
 refine List.filter_congr fun i _=>?_
 simp only[Function.comp_apply,Fw.encN]
 by_cases h:i=j
 ·simp[h]
 ·have:¬ (i:Int)=j:=by omega
  simp[h,this]
theorem ownU {b p e n:Nat} {H:Hp} {out:List U} (hb:H b=some (p,⟨e,3,out.map encU⟩)) (hn:n=out.length):snap [b] H (.own b p 0 n)=encUs out:=by
 rw[snap_own (by simp) hb (by simp[hn]),snap_list _ _ _ _ hn fun _=>rfl];rfl
theorem ownM {b g e:Nat} {H:Hp} {A:List U} (hb:H b=some (g,⟨e,0,[setU A]⟩)):snapC [b] H 3 (.om b g)=setU A:=by
 unfold snapC setU
 rw[hb]
 simp[setU]
def hpT (g2 g4:Nat) (vs:List Va) (qs ns:List Eqn) (ws:List Whn):List (Nat×Nat×Blk):=
 [(1,g2,⟨26,4,[.agg [.sl 7 (vs.map encV),.sl 9 (qs.map encQn),.sl 9 (ns.map encQn),.sl 6 (ws.map encWn)]]⟩),(2,g4,⟨31,3,[.agg [.val (.slice none 0 0),.val (.slice none 0 0),.val (.slice none 0 0)]]⟩)]
set_option maxHeartbeats 2000000 in
theorem Tops_ok (s:Sys) (hs:SzS s):PureCall Tryz.prog 17 [encSy s] (encGE (TopsF s)):=by
 refine PC [] Tryz.func17 rfl (by rfl) rfl ?_
 have hc:=Check_ok s hs
 have hb:checkF s=0→s.vars.length≤200∧s.eqs.length≤200:=by
  intro h
  unfold checkF at h
  split at h
  ·cases h
  ·rename_i h'
   unfold largeF at h'
   simp only[Bool.or_eq_true,decide_eq_true_eq,not_or] at h'
   omega
 have hQ:∀ q∈s.eqs,SzE q.left∧SzE q.right:=fun q hq=>⟨(hs.e _ (by unfold allF;exact List.mem_append_left _ (List.mem_append_left _ (mem_side hq).1))).1,(hs.e _ (by unfold allF;exact List.mem_append_left _ (List.mem_append_left _ (mem_side hq).2))).1⟩
 have hg:=fun us h h'=>graph_ok s us h h' hQ
 generalize hF:TopsF s=F
 unfold TopsF at hF
 generalize checkF s=ck at hF hc hb
 clear hs
 obtain ⟨vs,qs,ns,ws⟩:=s
 simp only at *
 unfold encSy at *
 simp only at *
 refine kW ?_
 (refine kQ ?_;repeat intro γ)
 refine CallP.flat [] _ c36 hc rfl ?_
 by_cases h0:ck=0
 case' neg=>
  rw[if_pos h0] at hF
  refine kW ?_
  (refine kQ ?_;repeat intro γ)
  exact ends_gnil ck rfl hF
 rw[if_neg (by simp[h0])] at hF
 have hb:=hb h0
 refine kW ?_
 (refine kQ ?_;repeat intro γ)
 obtain ⟨A,hA⟩:∃ A,occS qs []=A:=⟨_,rfl⟩
 rw[hA] at hF
 unfold occS at hA
 refine LoopP.intro (fun k σ H=>∃ g2 g4 g i,∃ B:List U,k=qs.length-i∧i≤qs.length∧(qs.drop i).foldl (fun A q=>usesF q.right (usesF q.left A)) B=A ∧
  σ=fr [(1,.op 1 g2 0 0),(2,.op 2 g4 0 0),(5,.om 19 g),(21,.sl 9 (qs.map encQn)),(22,encI qs.length),(23,encI i)] ∧
  H=hp ((19,g,⟨90,0,[setU B]⟩)::hpT g2 g4 vs qs ns ws)) ?_ ?_
 ·exact .intro <| W.of ⟨_,_,_,_,0,[],rfl,Nat.zero_le _,hA,rfl,rfl⟩ ⟨rfl,rfl,rfl,rfl,rfl,rfl,trivial⟩ ⟨rfl,rfl,rfl,trivial⟩
 ·clear hA
  rintro k σ H ⟨g2,g4,g,i,B,rfl,hi,hA,rfl,rfl⟩
  unfold hpT
  rcases Nat.lt_or_ge i qs.length with h1 | h1
  ·rw[List.drop_eq_getElem_cons h1,List.foldl_cons] at hA
   have hq:=hQ _ (List.getElem_mem h1)
   obtain ⟨q,hqq⟩:∃ q,qs[i]=q:=⟨_,rfl⟩
   rw[hqq] at hA hq
   have u1:=Uses_ok q.left hq.1
   have u2:=Uses_ok q.right hq.2
   obtain ⟨A1,hA1⟩:∃ A1,usesF q.left B=A1:=⟨_,rfl⟩
   obtain ⟨A2,hA2⟩:∃ A2,usesF q.right A1=A2:=⟨_,rfl⟩
   rw[hA1,hA2] at hA
   rw[encE_cells] at u1 u2
   refine kW ?_
   (refine kQ ?_;repeat intro γ)
   simp only[hqq]
   (refine kQ ?_;repeat intro γ)
   refine CallP.frame 1000000 [(50,19)] rfl c57 (u1 B _) rfl ⟨rfl,trivial⟩ ?_
   rintro r0 h' ⟨rfl,rfl⟩
   rw[hA1]
   refine ⟨(19,_,⟨90,0,[setU A1]⟩)::(7,_,⟨44,9,[.agg (encS q.name::(cellsE q.left++cellsE q.right))]⟩)::hpT g2 g4 vs qs ns ws,⟨rfl,rfl,rfl,rfl,trivial⟩,?_⟩
   unfold hpT
   refine kW ?_
   (refine kQ ?_;repeat intro γ)
   refine CallP.frame 1000000 [(50,19)] rfl c57 (u2 A1 _) rfl ⟨rfl,trivial⟩ ?_
   rintro r0 h' ⟨rfl,rfl⟩
   rw[hA2]
   refine ⟨(19,_,⟨90,0,[setU A2]⟩)::hpT g2 g4 vs qs ns ws,⟨rfl,rfl,rfl,trivial⟩,?_⟩
   unfold hpT
   refine kW ?_
   (refine kQ ?_;repeat intro γ)
   exact .intro <| W.of ⟨_,by omega,_,_,_,i+1,_,rfl,h1,hA,rfl,rfl⟩ ⟨rfl,rfl,rfl,rfl,rfl,rfl,trivial⟩ ⟨rfl,rfl,rfl,trivial⟩
  rw[List.drop_eq_nil_of_le h1] at hA
  replace hA:B=A:=hA
  subst hA
  refine kW ?_
  refine CondP.dec (fun h=>?_) (fun h=>?_)
  ·exact absurd h (by omega)
  refine cpA_exitW (W.frx 5 19 (x:=.om 19 g) (y:=setU B) rfl (ownM (e:=90) rfl) (W.of (l:=[(1,.op 1 g2 0 0),(2,.op 2 g4 0 0),(5,setU B)]) (m:=hpT g2 g4 vs qs ns ws) ?_ ⟨rfl,rfl,rfl,trivial⟩ ⟨rfl,rfl,trivial⟩))
  unfold hpT
  refine kW ?_
  (refine kQ ?_;repeat intro γ)
  clear h
  refine LoopP.intro (fun k σ H=>∃ g2 g4 gl i,k=vs.length-i∧i≤vs.length ∧
   σ=fr [(1,.op 1 g2 0 0),(2,.op 2 g4 0 0),(5,setU B),(8,.own 100 gl 0 (topsU (vs.take i) B).length),(37,.sl 7 (vs.map encV)),(38,encI vs.length),(39,encI i)] ∧
   H=hp ((100,gl,⟨46,3,(topsU (vs.take i) B).map encU⟩)::hpT g2 g4 vs qs ns ws)) ?_ ?_
  ·exact .intro (W.mat 8 100 46 3 rfl rfl fun gl=>W.of ⟨_,_,_,gl,0,rfl,Nat.zero_le _,rfl,rfl⟩ ⟨rfl,rfl,rfl,rfl,rfl,rfl,rfl,trivial⟩ ⟨rfl,rfl,rfl,trivial⟩)
  ·clear hi h1 i g2 g4
   rintro k σ H ⟨g2,g4,gl,i,rfl,hi,rfl,rfl⟩
   unfold hpT
   have hul:=topsU_len (vs.take i) B
   rw[List.length_take] at hul
   have hml:=@List.length_map _ _ (topsU (vs.take i) B) encU
   rcases Nat.lt_or_ge i vs.length with h1 | h1
   ·have hsn:=topsU_snoc vs B i h1
    obtain ⟨v,hvv⟩:∃ v,vs[i]=v:=⟨_,rfl⟩
    rw[hvv] at hsn
    generalize topsU (vs.take i) B=out at hsn hul hml
    refine kW ?_
    (refine kQ ?_;repeat intro γ)
    simp only[hvv]
    (refine kQ ?_;repeat intro γ)
    refine CondP.dec (fun c0=>?_) (fun c0=>?_)<;>refine kW ?_
    case' refine_2=>
     (refine kQ ?_;repeat intro γ)
     refine .intro <| W.of ⟨_,by omega,g2,g4,gl,i+1,rfl,h1,rfl,rfl⟩ ⟨rfl,rfl,rfl,?_,rfl,rfl,rfl,trivial⟩ ⟨?_,rfl,rfl,trivial⟩
     ·rw[hsn,if_neg c0];rfl
     ·rw[hsn,if_neg c0];rfl
    rw[if_pos c0] at hsn
    (refine kQ ?_;repeat intro γ)
    refine LoopP.intro (fun k σ H=>∃ gi g7,∃ L:List Nat,∃ top cur,k=L.length∧(∀ j∈L,j<B.length)∧0≤top∧(∀ j (h:j<B.length),j ∉ L→B[j].name=v.name→B[j].order≤top)∧(top=0∨∃ u∈B,u.name=v.name∧u.order=top) ∧
     σ=fr [(1,.op 1 g2 0 0),(2,.op 2 g4 0 0),(5,setU B),(8,.own 100 gl 0 out.length),(10,.op 10 g7 0 0),(11,encI top),(37,.sl 7 (vs.map encV)),(38,encI vs.length),(39,encI i),(47,.it 47 gi)] ∧
     H=hp ((47,gi,⟨0,0,[setU B,.tup (L.map Fw.encN),cur]⟩)::(10,g7,⟨83,7,[encV v]⟩)::(100,gl,⟨46,3,out.map encU⟩)::hpT g2 g4 vs qs ns ws)) ?_ ?_
    ·refine .intro <| W.of ⟨_,_,_,List.range B.length,0,.dead,rfl,fun j hj=>by simpa using hj,Int.le_refl _,fun j h hj=>absurd (by simpa using h) hj,.inl rfl,rfl,rfl⟩ ⟨rfl,rfl,rfl,rfl,rfl,rfl,rfl,rfl,rfl,rfl,trivial⟩ ⟨rfl,rfl,rfl,rfl,rfl,trivial⟩
    ·rintro k σ H ⟨gi,g7,L,top,cur,rfl,hL,ht0,ht1,ht2,rfl,rfl⟩
     unfold hpT setU
     refine kW ?_
     (refine kQ ?_;repeat intro γ)
     refine NextM.intro L (fun hL0=>?_) (fun j hj=>?_)
     ·subst hL0
      have htop:top=topF B v.name:=top_eq ht0 (fun u hu hn=>by
       obtain ⟨j,hj,rfl⟩:=List.mem_iff_getElem.1 hu
       exact ht1 j hj (by simp) hn) ht2
      rw[← htop] at hsn
      refine kW ?_
      (refine kQ ?_;repeat intro γ)
      refine .intro <| W.of ⟨_,by omega,g2,g4,γ,i+1,rfl,h1,rfl,rfl⟩ ⟨rfl,rfl,rfl,?_,rfl,rfl,rfl,trivial⟩ ⟨?_,rfl,rfl,trivial⟩
      ·rw[hsn]
       exact congrArg (AV.own 100 _ 0) (by simp)
      ·rw[hsn,List.map_append];rfl
     ·have hjB:=hL j hj
      obtain ⟨u,huu⟩:∃ u,B[j]=u:=⟨_,rfl⟩
      have hgd:(B.map encU).getD (j:Int).toNat .dead=encU u:=by
       rw[Int.toNat_natCast,List.getD_eq_getElem?_getD,List.getElem?_map,List.getElem?_eq_getElem hjB,huu];rfl
      have hlt:(L.filter (· ≠ j)).length<L.length:=filter_short L j hj
      have hL':∀ k∈L.filter (· ≠ j),k<B.length:=fun k hk=>hL k (List.mem_filter.1 hk).1
      have hfl:(L.map Fw.encN).filter (fun x=>match x with | .val (.int _ i)=>!decide (i=(j:Int)) | _=>true)=(L.filter (· ≠ j)).map Fw.encN:=filter_encN L j
      have ht1':∀ t:Int,top≤t→(u.name=v.name→u.order≤t)→∀ k (h:k<B.length),k ∉ L.filter (· ≠ j)→B[k].name=v.name→B[k].order≤t:=by
       intro t h1 h2 k hk hn hnm
       by_cases hkj:k=j
       ·subst hkj
        rw[huu] at hnm ⊢
        exact h2 hnm
       ·refine Int.le_trans (ht1 k hk (fun hkL=>hn (List.mem_filter.2 ⟨hkL,by simpa using hkj⟩)) hnm) h1
      refine kW ?_
      (refine kQ ?_;repeat intro γ)
      rw[hgd]
      unfold encU
      refine kW ?_
      (refine kQ ?_;repeat intro γ)
      refine CondP.dec (fun c1=>?_) (fun c1=>?_)<;>refine kW ?_
      ·(refine kQ ?_;repeat intro γ)
       refine .intro <| W.of ⟨_,hlt,gi,g7,L.filter (· ≠ j),max top u.order,Fw.encN j,rfl,hL',by omega,ht1' _ (by omega) (fun _=>by omega),?_,rfl,rfl⟩ ⟨rfl,rfl,rfl,rfl,rfl,rfl,rfl,rfl,rfl,rfl,trivial⟩ ⟨congrArg (fun z=>some (gi,(⟨0,0,[setU B,.tup z,Fw.encN j]⟩:Blk))) hfl,rfl,rfl,rfl,rfl,trivial⟩
       rcases Int.le_total u.order top with hm | hm
       ·rw[Int.max_eq_left hm];exact ht2
       ·rw[Int.max_eq_right hm];exact .inr ⟨u,by rw[← huu];exact List.getElem_mem _,c1,rfl⟩
      ·(refine kQ ?_;repeat intro γ)
       exact .intro <| W.of ⟨_,hlt,gi,g7,L.filter (· ≠ j),top,Fw.encN j,rfl,hL',ht0,ht1' _ (Int.le_refl _) (fun h=>absurd h c1),ht2,rfl,rfl⟩ ⟨rfl,rfl,rfl,rfl,rfl,rfl,rfl,rfl,rfl,rfl,trivial⟩ ⟨congrArg (fun z=>some (gi,(⟨0,0,[setU B,.tup z,Fw.encN j]⟩:Blk))) hfl,rfl,rfl,rfl,rfl,trivial⟩
   ·obtain rfl:i=vs.length:=by omega
    rw[List.take_length] at *
    have hgu:=hg (topsU vs B) (by omega) (by omega)
    generalize topsU vs B=out at *
    refine kW ?_
    (refine kQ ?_;repeat intro γ)
    refine CallP.pure [100] _ c52 (pure_args (congrArg (fun z=>[_,z]) (ownU rfl rfl)) hgu) ?_
    refine kW ?_
    (refine kQ ?_;repeat intro γ)
    exact .of (by rw[← hF];rfl)
end Go.Proofs.YtlhdoekgipaihaaGreatDoor
namespace Go.Proofs.YtlhdoekgipaihaaGreatDoor
open Go Go.Fw
def atR:List U→U→Nat
 | [],_=>0
 | x::r,u=>if beforeF x u then atR r u+1 else 0
theorem atR_cons (x:U) (r:List U) (u:U):atR (x::r) u=if beforeF x u then atR r u+1 else 0:=rfl
theorem eqU (u v:U):(decide (u.name=v.name)&&(decide (u.order=v.order)&&decide (u.pre=v.pre)))=decide (u=v):=by
 obtain ⟨a,b,c⟩:=u
 obtain ⟨a',b',c'⟩:=v
 simp only[U.mk.injEq,Bool.decide_and]
theorem endU {S:List Nat} {H:Hp} {k:Nat} {L:List AV} {n:Nat} {xs:List U} (h:L=xs.map encU) (hn:n=xs.length):AV.sl 3 (((L.drop 0).take n).map (snapEl (snapC S H k)))=AV.sl 3 (xs.map encU):=by
 subst h
 rw[snap_list _ _ _ _ hn fun x=>by cases k<;>rfl]
theorem insL (l:List U) (u:U) (i:Nat):List.drop 0 (List.take i (l.map encU))++[encU u]++List.drop i (List.take l.length (l.map encU))=(l.take i++[u]++l.drop i).map encU:=by
 rw[List.take_of_length_le (l:=l.map encU) (i:=l.length) (by simp),List.map_append,List.map_append,List.map_take,List.map_drop];rfl
def insR (l:List U) (u:U):List U:=if l[atR l u]?=some u then l else l.take (atR l u)++[u]++l.drop (atR l u)
set_option maxHeartbeats 2000000 in
theorem insert_ok (l:List U) (u:U) (hl:l.length≤2^40):PureCall Tryz.prog 260 [encUs l,encU u] (encUs (insR l u)):=by
 refine PC [38] Tryz.func260 rfl (by rfl) rfl ?_
 have hB:=fun x=>Before_ok x u
 generalize hF:insR l u=F
 unfold insR at hF
 unfold encUs
 refine kW ?_
 (refine kQ ?_;repeat intro γ)
 refine LoopP.intro (fun k σ H=>∃ g i,k=l.length-i∧i≤l.length∧atR l u=i+atR (l.drop i) u∧σ=fr [(0,.sl 3 (l.map encU)),(3,.op 3 g 0 0),(5,encI i)]∧H=hp [(3,g,⟨46,3,[encU u]⟩)]) ?_ ?_
 ·exact .intro <| W.of ⟨_,_,0,rfl,Nat.zero_le _,by simp,rfl,rfl⟩ ⟨rfl,rfl,rfl,trivial⟩ ⟨rfl,trivial⟩
 ·rintro k σ H ⟨g,i,rfl,hi,hat,rfl,rfl⟩
  rcases Nat.lt_or_ge i l.length with h1 | h1
  ·rw[List.drop_eq_getElem_cons h1] at hat
   rw[atR_cons] at hat
   have hg:l[i]?=some l[i]:=List.getElem?_eq_getElem h1
   obtain ⟨x,hx⟩:∃ x,l[i]=x:=⟨_,rfl⟩
   rw[hx] at hat hg
   have hb:=hB x
   generalize beforeF x u=b at hat hb
   unfold encU at hb
   refine kW ?_
   (refine kQ ?_;repeat intro γ)
   simp only[hx]
   unfold encU
   (refine kQ ?_;repeat intro γ)
   refine CallG.intro _ c55 hb ?_
   cases b with
   | true=>
     rw[if_pos rfl] at hat
     refine kW ?_
     (refine kQ ?_;repeat intro γ)
     exact .intro <| W.of ⟨_,by omega,g,i+1,rfl,h1,by omega,rfl,rfl⟩ ⟨rfl,rfl,rfl,trivial⟩ ⟨rfl,trivial⟩
   | false =>
     rw[if_neg (by simp)] at hat
     rw[show atR l u=i from hat,hg] at hF
     refine kW ?_
     (refine kQ ?_;repeat intro γ)
     refine Need.intro eqst46 ?_
     simp only[hx]
     refine kW ?_
     (refine kQ ?_;repeat intro γ)
     rw[eqU]
     refine CondP.dec (fun c1=>?_) (fun c1=>?_)<;>refine kW ?_
     ·rw[if_pos (congrArg some c1)] at hF
      (refine kQ ?_;repeat intro γ)
      exact .of (by rw[← hF];rfl)
     ·rw[if_neg (fun h=>c1 (Option.some.inj h))] at hF
      (refine kQ ?_;repeat intro γ)
      refine .of ?_
      rw[← hF]
      refine endU ?_ ?_
      ·first
        | exact (show List.drop 0 (List.take i (l.map encU))++[encU u]++List.drop i (List.take l.length (l.map encU))=_ from insL l u i)
        | exact (show List.drop 0 (List.take i (l.map encU))++[encU u]++List.drop i (List.take (l.map encU).length (l.map encU))=_ from by rw[List.length_map];exact insL l u i)
      ·first
        | exact (show (List.drop 0 (List.take i (l.map encU))).length+1+(List.drop i (List.take l.length (l.map encU))).length=(l.take i++[u]++l.drop i).length from by simp;omega)
        | exact (show (List.drop 0 (List.take i (l.map encU))).length+1+(List.drop i (List.take (l.map encU).length (l.map encU))).length=(l.take i++[u]++l.drop i).length from by simp;omega)
  ·obtain rfl:i=l.length:=by omega
   rw[List.drop_eq_nil_of_le h1] at hat
   replace hat:atR l u=l.length:=hat
   have hg:l[l.length]?=none:=List.getElem?_eq_none (Nat.le_refl _)
   rw[hat,hg,if_neg (by simp)] at hF
   refine kW ?_
   (refine kQ ?_;repeat intro γ)
   refine .of ?_
   rw[← hF]
   refine endU ?_ ?_
   ·first
     | exact (show List.drop 0 (List.take l.length (l.map encU))++[encU u]++List.drop l.length (List.take l.length (l.map encU))=_ from insL l u l.length)
     | exact (show List.drop 0 (List.take l.length (l.map encU))++[encU u]++List.drop l.length (List.take (l.map encU).length (l.map encU))=_ from by rw[List.length_map];exact insL l u l.length)
   ·first
     | exact (show (List.drop 0 (List.take l.length (l.map encU))).length+1+(List.drop l.length (List.take l.length (l.map encU))).length=(l.take l.length++[u]++l.drop l.length).length from by simp)
     | exact (show (List.drop 0 (List.take l.length (l.map encU))).length+1+(List.drop l.length (List.take (l.map encU).length (l.map encU))).length=(l.take l.length++[u]++l.drop l.length).length from by simp)
end Go.Proofs.YtlhdoekgipaihaaGreatDoor
namespace Go.Proofs.YtlhdoekgipaihaaGreatDoor
open Go Go.Fw
mutual
def usesR:Ex→List U→List U
 | .mk o t n ks,l=>usesRL ks (if o=oVar∨o=oPre then insR l ⟨t,n,decide (o=oPre)⟩ else l)
def usesRL:List Ex→List U→List U
 | [],l=>l
 | k::ks,l=>usesRL ks (usesR k l)
end
theorem usesR_eq (e:Ex) (l:List U):usesR e l=usesRL e.kids (if e.op=oVar∨e.op=oPre then insR l (useF e) else l):=by cases e;rfl
theorem insR_len (l:List U) (u:U):(insR l u).length≤l.length+1:=by
 unfold insR
 split
 ·omega
 ·simp;omega
mutual
theorem usesR_len:∀ (e:Ex) (l:List U),(usesR e l).length≤l.length+szF e
 | .mk o t n ks,l=>by
   unfold usesR szF
   refine Nat.le_trans (usesRL_len ks _) ?_
   split
   ·have:=insR_len l ⟨t,n,decide (o=oPre)⟩
    omega
   ·omega
theorem usesRL_len:∀ (ks:List Ex) (l:List U),(usesRL ks l).length≤l.length+szL ks
 | [],l=>by unfold usesRL;omega
 | k::ks,l=>by
   unfold usesRL szL
   refine Nat.le_trans (usesRL_len ks _) ?_
   have:=usesR_len k l
   omega
end
theorem szL_cons (k:Ex) (ks:List Ex):szL (k::ks)=szF k+szL ks:=rfl
theorem usesR_ok (e:Ex):SzE e→∀ l:List U,l.length+szF e≤2^30→PureCall Tryz.prog 148 [encE e,encUs l] (encUs (usesR e l)):=by
 induction e using ex_ind with
 | h e ih=>
   intro hs l hl
   have ihk:=fun k hk=>ih k hk (hs.kid k hk)
   have hlen:=hs.len
   have hsz:=szF_eq e
   have hin:=insert_ok l (useF e) (by omega)
   have hil:=insR_len l (useF e)
   refine PC [] Tryz.func148 rfl (by rfl) rfl ?_
   generalize hF:usesR e l=F
   rw[usesR_eq] at hF
   have hu:useF e=⟨e.text,e.order,decide (e.op=oPre)⟩:=rfl
   rw[hu] at hF hin hil
   clear ih hs hu
   rw[encE_eq]
   generalize e.kids=ks at *
   generalize e.op=o at *
   generalize e.text=tx at *
   generalize e.order=od at *
   unfold encU at hin
   refine kW ?_
   (refine kS ?_;repeat intro γ)
   refine CondP.dec (fun h1=>?_) (fun h1=>?_)<;>refine kW ?_
   case' refine_2=>
    by_cases h2:o=oPre
   case' pos | refine_1=>
    rw[if_pos (by simp[*])] at hF
    (refine kS ?_;repeat intro γ)
    refine CallP.pure [] _ c260 hin ?_
    refine kW ?_
    (refine kS ?_;repeat intro γ)
   case' neg=>
    rw[if_neg (by simp[*])] at hF
    (refine kS ?_;repeat intro γ)
   all_goals
    refine LoopP.intro (fun k σ H=>∃ g i,∃ acc:List U,k=ks.length-i∧i≤ks.length∧acc.length+szL (ks.drop i)≤2^30∧usesRL (ks.drop i) acc=F∧σ=fr [(1,encUs acc),(2,.op 2 g 0 0),(5,encI i)] ∧
     H=hp [(2,g,⟨42,4,[.agg [encS o,encS tx,encI od,.sl 4 (ks.map encE)]]⟩)]) ?_ ?_
    case' refine_1=>exact .intro <| W.of ⟨_,_,0,_,rfl,Nat.zero_le _,by first | (show l.length+szL ks≤2^30;omega) | (show (insR _ _).length+szL ks≤2^30;omega),hF,rfl,rfl⟩ ⟨rfl,rfl,rfl,trivial⟩ ⟨rfl,trivial⟩
    case' refine_2=>
     clear hF hin hil
     rintro k σ H ⟨g,i,acc,rfl,hi,hac,hF,rfl,rfl⟩
     rcases Nat.lt_or_ge i ks.length with h9 | h9
     ·rw[List.drop_eq_getElem_cons h9] at hF hac
      rw[szL_cons] at hac
      have hk:=ihk _ (List.getElem_mem h9) acc (by omega)
      have hln:=usesR_len ks[i] acc
      obtain ⟨k,hkk⟩:∃ k,ks[i]=k:=⟨_,rfl⟩
      rw[hkk] at hF hk hac hln
      unfold usesRL at hF
      rw[encE_eq] at hk
      refine kW ?_
      (refine kQ ?_;repeat intro γ)
      simp only[hkk,encE_eq]
      (refine kQ ?_;repeat intro γ)
      refine CallP.pure [] _ c148 hk ?_
      refine kW ?_
      (refine kQ ?_;repeat intro γ)
      exact .intro <| W.of ⟨_,by omega,g,i+1,_,rfl,h9,by omega,hF,rfl,rfl⟩ ⟨rfl,rfl,rfl,trivial⟩ ⟨rfl,trivial⟩
     ·rw[List.drop_eq_nil_of_le h9] at hF
      refine kW ?_
      (refine kQ ?_;repeat intro γ)
      exact .of (by rw[← hF];rfl)
def useOf (e:Ex):List U×Int:=if largeR e then ([],2) else if builtF e then (usesR e [],0) else ([],1)
def encUE (x:List U×Int):AV:=.tup [encUs x.1,encI x.2]
theorem pure_le {P:Program} {f:Nat} {a a':List AV} {r:AV} (h:PureCall P f a r) (hl:a'.length=a.length∧∀ i (h:i<a'.length) (h':i<a.length),Le a'[i] a[i]):PureCall P f a' r:=by
 intro O w vs hO hv
 exact h O w vs hO ⟨hl.1.symm.trans hv.1,fun i h1 h2=>hl.2 i (hl.1.symm ▸ h1) h1 w O _ (hv.2 i (hl.1.symm ▸ h1) h2)⟩
theorem useOf_ok (e:Ex) (hs:SzE e) (hx:TxE e):PureCall Tryz.prog 69 [encE e] (encUE (useOf e)):=by
 refine PC [] Tryz.func69 rfl (by rfl) rfl ?_
 have hL:=Large_ok e hs
 have hb:=BuiltR_ok e hs hx
 have hu:largeR e=false→PureCall Tryz.prog 148 [encE e,.val (.slice none 0 0)] (encUs (usesR e [])):=fun h=>by
  refine pure_le (usesR_ok e hs [] (by
   unfold largeR at h
   simp at h
   simp;omega)) (Le.cons (Le.refl _) (Le.cons (Le.nil 3) Le.nils))
 generalize hF:useOf e=F
 unfold useOf at hF
 generalize largeR e=la at *
 generalize builtF e=b at *
 rw[encE_eq] at *
 cases la with
 | true=>
   refine kW ?_
   (refine kQ ?_;repeat intro γ)
   refine CallP.flat [] _ c116 hL rfl ?_
   refine kW ?_
   (refine kQ ?_;repeat intro γ)
   subst hF
   exact ends_tup2 (Le.nil 3) (Le.refl _)
 | false=>
   have hu:=hu rfl
   refine kW ?_
   (refine kQ ?_;repeat intro γ)
   refine CallP.flat [] _ c116 hL rfl ?_
   refine kW ?_
   (refine kQ ?_;repeat intro γ)
   refine CallP.flat [] _ c147 hb rfl ?_
   cases b with
   | false=>
     refine kW ?_
     (refine kQ ?_;repeat intro γ)
     subst hF
     exact ends_tup2 (Le.nil 3) (Le.refl _)
   | true=>
     refine kW ?_
     (refine kQ ?_;repeat intro γ)
     refine CallP.pure [] _ c148 hu ?_
     refine kW ?_
     (refine kQ ?_;repeat intro γ)
     exact .of (by rw[← hF];rfl)
end Go.Proofs.YtlhdoekgipaihaaGreatDoor
namespace Go.Proofs.YtlhdoekgipaihaaGreatDoor
open Go Go.Fw
def memU (a:List U) (x:U):Bool:=a.any fun y=>decide (y=x)
def InR (q:Eqn):List U:=(useOf q.left).1++(useOf q.right).1.filter fun x=>!memU (useOf q.left).1 x
theorem useOf_len (e:Ex):(useOf e).1.length≤200:=by
 unfold useOf
 cases h:largeR e with
 | true=>simp
 | false=>
   unfold largeR at h
   simp at h
   cases builtF e with
   | false=>simp
   | true=>have:=usesR_len e [];simp at this ⊢;omega
theorem InR_len (q:Eqn):(InR q).length≤400:=by
 unfold InR
 have h1:=useOf_len q.left
 have h2:=useOf_len q.right
 have:=List.length_filter_le (fun x=>!memU (useOf q.left).1 x) (useOf q.right).1
 rw[List.length_append];omega
theorem InR_ok (q:Eqn) (h1:SzE q.left∧TxE q.left) (h2:SzE q.right∧TxE q.right):PureCall Tryz.prog 21 [encQn q] (encUs (InR q)):=by
 refine PC [23] Tryz.func21 rfl (by rfl) rfl ?_
 have u1:=useOf_ok q.left h1.1 h1.2
 have u2:=useOf_ok q.right h2.1 h2.2
 have l1:=useOf_len q.left
 have l2:=useOf_len q.right
 generalize hF:InR q=F
 unfold InR at hF
 unfold encQn
 rw[encE_cells] at u1 u2
 generalize useOf q.left=ua at *
 generalize useOf q.right=ub at *
 obtain ⟨a,ea⟩:=ua
 obtain ⟨b,eb⟩:=ub
 unfold encUE at u1 u2
 try simp only at u1
 try simp only at u2
 try simp only at l1
 try simp only at l2
 try simp only at hF
 refine kW ?_
 (refine kQ ?_;repeat intro γ)
 refine CallP.pure [] _ c69 u1 ?_
 refine kW ?_
 (refine kQ ?_;repeat intro γ)
 refine CallP.pure [] _ c69 u2 ?_
 refine kW ?_
 (refine kQ ?_;repeat intro γ)
 refine LoopP.intro (fun k σ H=>∃ g i,∃ out:List U,k=b.length-i∧i≤b.length∧out.length≤200+i∧(out++(b.drop i).filter fun x=>!memU a x)=F∧σ=fr [(3,encUs a),(5,encUs b),(7,.own 23 g 0 out.length),(8,encI i)] ∧
  H=hp [(23,g,⟨46,3,out.map encU⟩)]) ?_ ?_
 ·refine .intro <| W.of ⟨_,γ,0,a,rfl,Nat.zero_le _,by omega,hF,rfl,rfl⟩ ⟨rfl,rfl,?_,rfl,trivial⟩ ⟨rfl,trivial⟩
  show AV.own 23 γ 0 _=AV.own 23 γ 0 _
  simp
 ·clear hF u1 u2
  rintro k σ H ⟨g,i,out,rfl,hi,hol,hF,rfl,rfl⟩
  have hml:=@List.length_map _ _ out encU
  unfold encUs
  rcases Nat.lt_or_ge i b.length with h9 | h9
  ·rw[List.drop_eq_getElem_cons h9] at hF
   obtain ⟨x,hx⟩:∃ x,b[i]=x:=⟨_,rfl⟩
   rw[hx,List.filter_cons] at hF
   refine kW ?_
   (refine kQ ?_;repeat intro γ)
   refine LoopP.intro (fun k σ H=>∃ j,∃ f:Bool,k=a.length-j∧j≤a.length∧(f||memU (a.drop j) x)=memU a x∧σ=fr [(3,encUs a),(5,encUs b),(7,.own 23 g 0 out.length),(8,encI i),(9,encB f),(10,encI j)] ∧
    H=hp [(23,g,⟨46,3,out.map encU⟩)]) ?_ ?_
   ·exact .intro <| W.of ⟨_,0,false,rfl,Nat.zero_le _,by simp,rfl,rfl⟩ ⟨rfl,rfl,rfl,rfl,rfl,rfl,trivial⟩ ⟨rfl,trivial⟩
   ·rintro k σ H ⟨j,f,rfl,hj,hf,rfl,rfl⟩
    unfold encUs
    rcases Nat.lt_or_ge j a.length with h8 | h8
    ·rw[List.drop_eq_getElem_cons h8] at hf
     unfold memU at hf
     rw[List.any_cons] at hf
     obtain ⟨y,hy⟩:∃ y,a[j]=y:=⟨_,rfl⟩
     rw[hy] at hf
     cases f with
     | true=>
       refine kW ?_
       (refine kQ ?_;repeat intro γ)
       exact .intro <| W.of ⟨_,by omega,j+1,true,rfl,h8,by rw[Bool.true_or] at hf ⊢;exact hf,rfl,rfl⟩ ⟨rfl,rfl,rfl,rfl,rfl,rfl,trivial⟩ ⟨rfl,trivial⟩
     | false=>
       rw[Bool.false_or] at hf
       refine kW ?_
       (refine kQ ?_;repeat intro γ)
       simp only[hx,hy]
       unfold encU
       (refine kQ ?_;repeat intro γ)
       refine Need.intro eqst46 ?_
       try simp only[hx,hy]
       refine kW ?_
       (refine kQ ?_;repeat intro γ)
       rw[eqU]
       refine kW ?_
       (refine kQ ?_;repeat intro γ)
       exact .intro <| W.of ⟨_,by omega,j+1,decide (y=x),rfl,h8,hf,rfl,rfl⟩ ⟨rfl,rfl,rfl,rfl,rfl,rfl,trivial⟩ ⟨rfl,trivial⟩
    ·rw[List.drop_eq_nil_of_le h8] at hf
     rw[show f=memU a x by rw[← hf];simp[memU]]
     generalize memU a x=m at hF
     cases m with
     | true=>
       refine kW ?_
       (refine kQ ?_;repeat intro γ)
       exact .intro <| W.of ⟨_,by omega,g,i+1,out,rfl,h9,by omega,hF,rfl,rfl⟩ ⟨rfl,rfl,rfl,rfl,trivial⟩ ⟨rfl,trivial⟩
     | false=>
       refine kW ?_
       (refine kQ ?_;repeat intro γ)
       refine .intro <| W.of ⟨_,by omega,γ,i+1,out++[x],rfl,h9,by rw[List.length_append,List.length_singleton];omega,by rw[List.append_assoc];exact hF,rfl,rfl⟩ ⟨rfl,rfl,?_,rfl,trivial⟩ ⟨?_,trivial⟩
       ·exact congrArg (AV.own 23 _ 0) (by simp)
       ·show some (_,(⟨_,_,_++_⟩:Blk))=_
        rw[List.map_append,← hx];rfl
  ·rw[List.drop_eq_nil_of_le h9] at hF
   simp only[List.filter_nil,List.append_nil] at hF
   refine kW ?_
   (refine kQ ?_;repeat intro γ)
   exact .of (by rw[← hF];exact endU rfl (by simp))
end Go.Proofs.YtlhdoekgipaihaaGreatDoor
namespace Go.Proofs.YtlhdoekgipaihaaGreatDoor
open Go Go.Fw
def contR (vs:List Va) (n:ByteArray):Bool:=match vs.find? fun v=>decide (v.name=n) with
 | none=>false
 | some v=>decide (v.kind=0)
def fitsR (vs:List Va):List U→Option U→Bool
 | [],_=>true
 | u::r,p=>fitF u&&!u.pre&&contR vs u.name&&(match p with | none=>true | some p=>beforeF p u)&&fitsR vs r (some u)
theorem checkR_le (s:Sys) (h:checkR s=0):s.vars.length≤200∧s.eqs.length≤200:=by
 unfold checkR at h
 split at h
 ·cases h
 ·rename_i h'
  unfold largeF at h'
  simp only[Bool.or_eq_true,decide_eq_true_eq,not_or] at h'
  omega
theorem SzS.qs {s:Sys} (hs:SzS s):∀ q∈s.eqs,(SzE q.left∧TxE q.left)∧SzE q.right∧TxE q.right:=fun q hq=>⟨hs.e _ (by unfold allF;exact List.mem_append_left _ (List.mem_append_left _ (mem_side hq).1)),hs.e _ (by unfold allF;exact List.mem_append_left _ (List.mem_append_left _ (mem_side hq).2))⟩
end Go.Proofs.YtlhdoekgipaihaaGreatDoor
namespace Go.Proofs.YtlhdoekgipaihaaGreatDoor
open Go Go.Fw
theorem cmp_less:∀ (a b:List UInt8),(Lib.compareBytes a b<0)↔Op.bytesLess a b=true:=by
 intro a
 induction a with
 | nil=>intro b;cases b<;>simp[Lib.compareBytes,Op.bytesLess]
 | cons x a ih=>
   intro b
   cases b with
   | nil=>simp[Lib.compareBytes,Op.bytesLess]
   | cons y b=>
     unfold Lib.compareBytes Op.bytesLess
     have h1:=ih b
     by_cases hxy:x<y
     ·simp[hxy]
     ·by_cases hyx:y<x
      ·have hne:¬ x=y:=fun e=>by subst e;exact hxy hyx
       simp[hxy,hyx,hne]
      ·have:x=y:=UInt8.le_antisymm (UInt8.not_lt.1 hyx) (UInt8.not_lt.1 hxy)
       subst this
       simp[hxy,h1]
theorem less_before (a b:U):decide (0≤lessF a b)=!beforeF a b:=by
 unfold lessF lessG beforeF
 by_cases h1:a.name=b.name
 ·simp only[decide_eq_true h1]
  by_cases h2:a.pre=b.pre
  ·simp only[decide_eq_true h2]
   rw[← decide_not]
   exact decide_eq_decide.2 (by omega)
  ·simp only[decide_eq_false h2]
   cases b.pre<;>rfl
 ·simp only[decide_eq_false h1]
  have:=cmp_less a.name.data.toList b.name.data.toList
  rw[ByteArray.toList_eq,ByteArray.toList_eq]
  cases hb:Op.bytesLess a.name.data.toList b.name.data.toList
  ·rw[hb] at this
   exact decide_eq_true (by unfold cmpS;simp at this;exact this)
  ·rw[hb] at this
   exact decide_eq_false (by unfold cmpS;simp at this;omega)
theorem bf_trans (u v w:U) (h1:beforeF u v=true) (h2:beforeF v w=true):beforeF u w=true:=by
 unfold beforeF at h1 h2 ⊢
 by_cases e1:u.name=v.name
 ·rw[decide_eq_true e1] at h1
  simp only at h1
  by_cases e2:v.name=w.name
  ·rw[decide_eq_true e2] at h2
   rw[decide_eq_true (e1.trans e2)]
   simp only at h2 ⊢
   by_cases p1:u.pre=v.pre
   ·rw[decide_eq_true p1] at h1
    by_cases p2:v.pre=w.pre
    ·rw[decide_eq_true p2] at h2
     rw[decide_eq_true (p1.trans p2)]
     simp only[decide_eq_true_eq] at h1 h2 ⊢
     omega
    ·rw[decide_eq_false p2] at h2
     rw[decide_eq_false (fun q=>p2 (p1.symm.trans q))]
     exact h2
   ·rw[decide_eq_false p1] at h1
    simp only at h1
    by_cases p2:v.pre=w.pre
    ·rw[decide_eq_false (fun q=>p1 (q.trans p2.symm))]
     simp only
     rw[← p2];exact h1
    ·rw[decide_eq_false p2] at h2
     simp only at h2
     exact absurd (h1.trans h2.symm) p2
  ·rw[decide_eq_false e2] at h2
   rw[decide_eq_false (fun q=>e2 (e1.symm.trans q)),e1]
   exact h2
 ·rw[decide_eq_false e1] at h1
  simp only at h1
  by_cases e2:v.name=w.name
  ·rw[decide_eq_false (fun q=>e1 (q.trans e2.symm))]
   simp only
   rw[← e2];exact h1
  ·rw[decide_eq_false e2] at h2
   simp only at h2
   have h3:=bl_trans _ _ _ h1 h2
   rw[decide_eq_false (fun q=>by rw[q,bl_irr] at h3;cases h3)]
   exact h3
theorem bf_tot (u v:U) (h:beforeF u v=false) (hne:u≠v):beforeF v u=true:=by
 unfold beforeF at h ⊢
 by_cases e1:u.name=v.name
 ·rw[decide_eq_true e1] at h
  rw[decide_eq_true e1.symm]
  simp only at h ⊢
  by_cases p1:u.pre=v.pre
  ·rw[decide_eq_true p1] at h
   rw[decide_eq_true p1.symm]
   simp only[decide_eq_true_eq,decide_eq_false_iff_not] at h ⊢
   refine Int.lt_iff_le_and_ne.2 ⟨by omega,fun e=>hne ?_⟩
   obtain ⟨a,b,c⟩:=u
   obtain ⟨a',b',c'⟩:=v
   simp only at e1 p1 e
   rw[e1,p1,e]
  ·rw[decide_eq_false p1] at h
   rw[decide_eq_false (fun q=>p1 q.symm)]
   simp only at h ⊢
   cases hu:u.pre with
   | true=>rfl
   | false=>exact absurd (hu.trans h.symm) p1
 ·rw[decide_eq_false e1] at h
  rw[decide_eq_false (fun q=>e1 q.symm)]
  simp only at h ⊢
  have:=bl_tot u.name.toList v.name.toList
  rw[h,Bool.false_or,decide_eq_false (fun q=>e1 (ByteArray.ext (by rw[ByteArray.toList_eq,ByteArray.toList_eq] at q;exact Array.toList_inj.1 q)))] at this
  simpa using this.symm
def insS:List U→U→List U
 | [],u=>[u]
 | x::r,u=>if beforeF x u then x::insS r u else if x=u then x::r else u::x::r
theorem insR_eq:∀ (l:List U) (u:U),insR l u=insS l u
 | [],u=>rfl
 | x :: r,u=>by
   have ih:=insR_eq r u
   unfold insR at ih ⊢
   rw[atR_cons]
   unfold insS
   cases hb:beforeF x u with
   | true=>
     simp only[if_true,List.getElem?_cons_succ,List.take_succ_cons,List.drop_succ_cons]
     rw[← ih]
     split<;>rfl
   | false=>
     simp only[Bool.false_eq_true,if_false,List.getElem?_cons_zero,Option.some.injEq,List.take_zero,List.drop_zero]
     split<;>rfl
theorem mem_insS (v:U):∀ (l:List U) (u:U),v∈insS l u↔v∈l∨v=u
 | [],u=>by simp[insS]
 | x :: r,u=>by
   unfold insS
   cases hb:beforeF x u with
   | true=>
     rw[if_pos rfl,List.mem_cons,List.mem_cons,mem_insS v r u,or_assoc]
   | false=>
     rw[if_neg (by simp)]
     by_cases hx:x=u
     ·rw[if_pos hx]
      refine ⟨.inl,fun h=>h.elim id fun h=>?_⟩
      rw[h,← hx];simp
     ·rw[if_neg hx,List.mem_cons,or_comm]
def SrtU (l:List U):Prop:=l.Pairwise fun a b=>beforeF a b=true
theorem srt_insS:∀ (l:List U) (u:U),SrtU l→SrtU (insS l u)
 | [],u,_=>List.pairwise_singleton ..
 | x :: r,u,h=>by
   obtain ⟨h1,h2⟩:=List.pairwise_cons.1 h
   unfold insS
   cases hb:beforeF x u with
   | true=>
     rw[if_pos rfl]
     refine List.pairwise_cons.2 ⟨fun y hy=>?_,srt_insS r u h2⟩
     rcases (mem_insS y r u).1 hy with hy | rfl
     ·exact h1 y hy
     ·exact hb
   | false=>
     rw[if_neg (by simp)]
     by_cases hx:x=u
     ·rw[if_pos hx];exact h
     ·rw[if_neg hx]
      have hux:=bf_tot x u hb hx
      refine List.pairwise_cons.2 ⟨fun y hy=>?_,h⟩
      rcases List.mem_cons.1 hy with rfl | hy
      ·exact hux
      ·exact bf_trans _ _ _ hux (h1 y hy)
def isOcc (o:ByteArray):Prop:=o=oVar∨o=oPre
mutual
def OccE:Ex→U→Prop
 | .mk o t n ks,u=>(isOcc o∧u=⟨t,n,decide (o=oPre)⟩)∨OccL ks u
def OccL:List Ex→U→Prop
 | [],_=>False
 | k::ks,u=>OccE k u∨OccL ks u
end
mutual
theorem mem_usesF (u:U):∀ (e:Ex) (A:List U),u∈usesF e A↔u∈A∨OccE e u
 | .mk o t n ks,A=>by
   unfold usesF OccE
   rw[mem_usesL u ks]
   by_cases h:o=oVar∨o=oPre
   ·rw[if_pos h]
    unfold putU isOcc
    split
    ·rename_i hm
     constructor
     ·rintro (h1 | h1)
      ·exact .inl h1
      ·exact .inr (.inr h1)
     ·rintro (h1 | ⟨_,h1⟩ | h1)
      ·exact .inl h1
      ·rw[h1];exact .inl hm
      ·exact .inr h1
    ·rw[List.mem_append,List.mem_singleton]
     constructor
     ·rintro ((h1 | h1) | h1)
      ·exact .inl h1
      ·exact .inr (.inl ⟨h,h1⟩)
      ·exact .inr (.inr h1)
     ·rintro (h1 | ⟨_,h1⟩ | h1)
      ·exact .inl (.inl h1)
      ·exact .inl (.inr h1)
      ·exact .inr h1
   ·rw[if_neg h]
    unfold isOcc
    constructor
    ·rintro (h1 | h1)
     ·exact .inl h1
     ·exact .inr (.inr h1)
    ·rintro (h1 | ⟨h2,_⟩ | h1)
     ·exact .inl h1
     ·exact absurd h2 h
     ·exact .inr h1
theorem mem_usesL (u:U):∀ (ks:List Ex) (A:List U),u∈usesL ks A↔u∈A∨OccL ks u
 | [],A=>by unfold usesL OccL;simp
 | k::ks,A=>by
   unfold usesL OccL
   rw[mem_usesL u ks,mem_usesF u k,or_assoc]
end
mutual
theorem mem_usesR (u:U):∀ (e:Ex) (A:List U),u∈usesR e A↔u∈A∨OccE e u
 | .mk o t n ks,A=>by
   unfold usesR OccE
   rw[mem_usesRL u ks]
   by_cases h:o=oVar∨o=oPre
   ·rw[if_pos h,insR_eq,mem_insS,or_assoc]
    unfold isOcc
    simp only[h,true_and]
   ·rw[if_neg h]
    unfold isOcc
    simp only[h,false_and,false_or]
theorem mem_usesRL (u:U):∀ (ks:List Ex) (A:List U),u∈usesRL ks A↔u∈A∨OccL ks u
 | [],A=>by unfold usesRL OccL;simp
 | k::ks,A=>by
   unfold usesRL OccL
   rw[mem_usesRL u ks,mem_usesR u k,or_assoc]
end
mutual
theorem srt_usesR:∀ (e:Ex) (A:List U),SrtU A→SrtU (usesR e A)
 | .mk o t n ks,A,h=>by
   unfold usesR
   refine srt_usesRL ks _ ?_
   split
   ·rw[insR_eq];exact srt_insS _ _ h
   ·exact h
theorem srt_usesRL:∀ (ks:List Ex) (A:List U),SrtU A→SrtU (usesRL ks A)
 | [],A,h=>by unfold usesRL;exact h
 | k::ks,A,h=>by unfold usesRL;exact srt_usesRL ks _ (srt_usesR k A h)
end
end Go.Proofs.YtlhdoekgipaihaaGreatDoor
namespace Go.Proofs.YtlhdoekgipaihaaGreatDoor
open Go Go.Fw
structure OkS (s:Sys):Prop where
 r:risG (s.vars.map Va.name) none=true
 b:∀ q∈s.eqs,(largeR q.left=false∧builtF q.left=true)∧largeR q.right=false∧builtF q.right=true
theorem nodesL_mem:∀ (l:List Ex) (k:Int),nodesL l k=false→∀ e∈l,tooF e=false
 | [],_,_,e,he=>by cases he
 | x::r,k,h,e,he=>by
   unfold nodesL at h
   rw[Bool.or_eq_false_iff] at h
   rcases List.mem_cons.1 he with rfl | he
   ·exact h.1
   ·exact nodesL_mem r _ h.2 e he
theorem okS_of (s:Sys) (h:checkF s=0):OkS s:=by
 unfold checkF at h
 split at h
 ·cases h
 ·rename_i hl
  split at h
  ·rename_i hv
   have hlf:∀ e∈allF s,largeR e=false:=by
    intro e he
    rw[← large_same]
    unfold largeF at hl
    simp only[Bool.or_eq_true,not_or] at hl
    exact nodesL_mem _ _ (by simpa using hl.2) e he
   unfold validF at hv
   simp only[Bool.and_eq_true] at hv
   refine ⟨hv.1.1.1.1.1.1,fun q hq=>?_⟩
   have h1:=List.all_eq_true.1 hv.1.2.1 q hq
   unfold eqT typedF at h1
   simp only[Bool.and_eq_true] at h1
   refine ⟨⟨hlf _ ?_,h1.1.1.1⟩,hlf _ ?_,h1.2.1.1⟩
   ·unfold allF;exact List.mem_append_left _ (List.mem_append_left _ (mem_side hq).1)
   ·unfold allF;exact List.mem_append_left _ (List.mem_append_left _ (mem_side hq).2)
  ·cases h
theorem useOf_ok' {e:Ex} (h1:largeR e=false) (h2:builtF e=true):(useOf e).1=usesR e []:=by
 unfold useOf
 rw[h1,h2];rfl
theorem InR_mem {q:Eqn} (h:(largeR q.left=false∧builtF q.left=true)∧largeR q.right=false∧builtF q.right=true) (u:U):u∈InR q↔OccE q.left u∨OccE q.right u:=by
 unfold InR
 rw[useOf_ok' h.1.1 h.1.2,useOf_ok' h.2.1 h.2.2,List.mem_append,List.mem_filter,mem_usesR,mem_usesR]
 simp only[List.not_mem_nil,false_or]
 constructor
 ·rintro (h | ⟨h,_⟩)
  ·exact .inl h
  ·exact .inr h
 ·rintro (h | h)
  ·exact .inl h
  ·by_cases hm:OccE q.left u
   ·exact .inl hm
   ·refine .inr ⟨h,?_⟩
    have:u ∉ usesR q.left []:=fun hu=>hm (by simpa using (mem_usesR u q.left []).1 hu)
    unfold memU
    rw[Bool.not_eq_true',List.any_eq_false]
    intro y hy
    simp only[decide_eq_true_eq]
    rintro rfl
    exact this hy
theorem kinds_eq:∀ (vs:List Va) (l:List (ByteArray×Int)),(l.map Prod.fst++vs.map Va.name).Nodup→vs.foldl (fun l v=>putK l v.name v.kind) l=l++vs.map fun v=>(v.name,v.kind)
 | [],l,_=>by simp
 | v :: vs,l,h=>by
   rw[List.foldl_cons,putK_new]
   ·rw[kinds_eq vs]
    ·simp
    ·rw[List.map_append,List.append_assoc];exact h
   ·intro hm
    rw[List.nodup_append] at h
    exact h.2.2 _ hm _ (by simp) rfl
theorem assoc_kind:∀ (vs:List Va) (n:ByteArray),decide (assoc (vs.map fun v=>(v.name,v.kind)) n=some 0)=contR vs n
 | [],_=>rfl
 | v :: vs,n=>by
   have ih:=assoc_kind vs n
   unfold contR at ih ⊢
   rw[List.map_cons,List.find?_cons]
   show decide ((if n=v.name then some v.kind else assoc _ n)=some 0)=_
   by_cases h:n=v.name
   ·rw[if_pos h,decide_eq_true (p:=v.name=n) h.symm]
    exact decide_eq_decide.2 (by simp)
   ·rw[if_neg h,decide_eq_false (p:=v.name=n) (fun e=>h e.symm)]
    exact ih
theorem fits_same {s:Sys} (h:OkS s):∀ (us:List U) (p:Option U),fitsG (kindsF s.vars) us p=fitsR s.vars us p
 | [],_=>rfl
 | u :: r,p=>by
   have e1:decide (assoc (kindsF s.vars) u.name=some 0)=contR s.vars u.name:=by
    unfold kindsF
    rw[kinds_eq _ _ (by simpa using risG_nodup _ _ h.r)]
    exact assoc_kind _ _
   unfold fitsG fitsR
   rw[fits_same h r,e1]
   cases p with
   | none=>cases contR s.vars u.name<;>cases fitF u<;>cases u.pre<;>simp
   | some p=>
     have:=less_before p u
     have e2:decide (lessF p u<0)=beforeF p u:=by
      rw[show decide (lessF p u<0)=!decide (0≤lessF p u) by rw[← decide_not];exact decide_eq_decide.2 (by omega),this,Bool.not_not]
     simp only[e2]
     cases contR s.vars u.name<;>cases fitF u<;>cases u.pre<;>simp
theorem occS_mem (u:U):∀ (qs:List Eqn) (A:List U),u∈occS qs A↔u∈A∨∃ q∈qs,OccE q.left u∨OccE q.right u
 | [],A=>by unfold occS;simp
 | q::qs,A=>by
   have ih:=occS_mem u qs (usesF q.right (usesF q.left A))
   unfold occS at ih ⊢
   rw[List.foldl_cons,ih,mem_usesF,mem_usesF]
   simp only[List.mem_cons,exists_eq_or_imp,or_assoc]
theorem text_pre {e:Ex} (ho:e.op=oPre) (ht:textF e=true):e.order=0:=by
 unfold textF at ht
 rw[if_neg (by rw[ho];decide),if_neg (by rw[ho];decide),if_pos ho,Bool.and_eq_true] at ht
 exact of_decide_eq_true ht.2
mutual
theorem occ_pre (u:U) (hp:u.pre=true):∀ e:Ex,builtF e=true→OccE e u→u.order=0
 | .mk o t n ks,hb,h=>by
   unfold OccE at h
   rcases h with ⟨h1,h2⟩ | h
   ·rw[h2] at hp ⊢
    simp only at hp ⊢
    have ho:o=oPre:=of_decide_eq_true hp
    rw[builtF_eq] at hb
    simp only[Bool.and_eq_true] at hb
    have ht:=hb.1.1.2
    exact text_pre (e:=.mk o t n ks) ho ht
   ·exact occ_preL u hp ks (built_kids hb).2 h
theorem occ_preL (u:U) (hp:u.pre=true):∀ ks:List Ex,(∀ k∈ks,builtF k=true)→OccL ks u→u.order=0
 | [],_,h=>by unfold OccL at h;exact h.elim
 | k::ks,hb,h=>by
   unfold OccL at h
   rcases h with h | h
   ·exact occ_pre u hp k (hb k (by simp)) h
   ·exact occ_preL u hp ks (fun x hx=>hb x (by simp[hx])) h
end
end Go.Proofs.YtlhdoekgipaihaaGreatDoor
namespace Go.Proofs.YtlhdoekgipaihaaGreatDoor
open Go Go.Fw
theorem SameInts_ok (a:List Int) (h:a.length<2^60):PureCall Tryz.prog 65 [encIs a,encIs a] (encB true):=by
 refine PC [] Tryz.func65 rfl (by rfl) rfl ?_
 unfold encIs
 refine kW ?_
 (refine kQ ?_;repeat intro γ)
 refine LoopP.intro (fun n σ H=>∃ i,n=a.length-i∧i≤a.length∧σ=fr [(0,.sl 1 (a.map encI)),(1,.sl 1 (a.map encI)),(5,encI i)]∧H=hp []) ?_ ?_
 ·exact .intro <| W.of ⟨_,0,rfl,Nat.zero_le _,rfl,rfl⟩ ⟨rfl,rfl,rfl,trivial⟩ trivial
 ·rintro n σ H ⟨i,rfl,hi,rfl,rfl⟩
  rcases Nat.lt_or_ge i a.length with h1 | h1
  ·refine kW ?_
   (refine kQ ?_;repeat intro γ)
   exact .intro <| W.of ⟨_,by omega,i+1,rfl,h1,rfl,rfl⟩ ⟨rfl,rfl,rfl,trivial⟩ trivial
  ·refine kW ?_
   (refine kQ ?_;repeat intro γ)
   exact .of rfl
theorem SameNames_ok (a:List ByteArray) (h:a.length<2^60):PureCall Tryz.prog 58 [.sl 1 (a.map encS),.sl 1 (a.map encS)] (encB true):=by
 refine PC [] Tryz.func58 rfl (by rfl) rfl ?_
 refine kW ?_
 (refine kQ ?_;repeat intro γ)
 refine LoopP.intro (fun n σ H=>∃ i,n=a.length-i∧i≤a.length∧σ=fr [(0,.sl 1 (a.map encS)),(1,.sl 1 (a.map encS)),(5,encI i)]∧H=hp []) ?_ ?_
 ·exact .intro <| W.of ⟨_,0,rfl,Nat.zero_le _,rfl,rfl⟩ ⟨rfl,rfl,rfl,trivial⟩ trivial
 ·rintro n σ H ⟨i,rfl,hi,rfl,rfl⟩
  rcases Nat.lt_or_ge i a.length with h1 | h1
  ·refine kW ?_
   (refine kQ ?_;repeat intro γ)
   refine CondP.dec (fun c=>?_) (fun c=>?_)<;>refine kW ?_
   ·(refine kQ ?_;repeat intro γ)
    exact .intro <| W.of ⟨_,by omega,i+1,rfl,h1,rfl,rfl⟩ ⟨rfl,rfl,rfl,trivial⟩ trivial
   ·exact absurd trivial c
  ·refine kW ?_
   (refine kQ ?_;repeat intro γ)
   exact .of rfl
theorem SameUses_ok (a:List U) (h:a.length<2^60):PureCall Tryz.prog 59 [encUs a,encUs a] (encB true):=by
 refine PC [] Tryz.func59 rfl (by rfl) rfl ?_
 unfold encUs
 refine kW ?_
 (refine kQ ?_;repeat intro γ)
 refine LoopP.intro (fun n σ H=>∃ i,n=a.length-i∧i≤a.length∧σ=fr [(0,.sl 3 (a.map encU)),(1,.sl 3 (a.map encU)),(5,encI i)]∧H=hp []) ?_ ?_
 ·exact .intro <| W.of ⟨_,0,rfl,Nat.zero_le _,rfl,rfl⟩ ⟨rfl,rfl,rfl,trivial⟩ trivial
 ·rintro n σ H ⟨i,rfl,hi,rfl,rfl⟩
  rcases Nat.lt_or_ge i a.length with h1 | h1
  ·obtain ⟨x,hx⟩:∃ x,a[i]=x:=⟨_,rfl⟩
   refine kW ?_
   (refine kQ ?_;repeat intro γ)
   simp only[hx]
   unfold encU
   (refine kQ ?_;repeat intro γ)
   refine Need.intro eqst46 ?_
   try simp only[hx]
   refine kW ?_
   (refine kQ ?_;repeat intro γ)
   refine CondP.tt ?_
   refine kW ?_
   (refine kQ ?_;repeat intro γ)
   exact .intro <| W.of ⟨_,by omega,i+1,rfl,h1,rfl,rfl⟩ ⟨rfl,rfl,rfl,trivial⟩ trivial
  ·refine kW ?_
   (refine kQ ?_;repeat intro γ)
   exact .of rfl
theorem SameLists_ok (a:List (List Int)) (h:a.length<2^60) (hl:∀ l∈a,l.length<2^60):PureCall Tryz.prog 60 [.sl 1 (a.map encIs),.sl 1 (a.map encIs)] (encB true):=by
 refine PC [] Tryz.func60 rfl (by rfl) rfl ?_
 refine kW ?_
 (refine kQ ?_;repeat intro γ)
 refine LoopP.intro (fun n σ H=>∃ i,n=a.length-i∧i≤a.length∧σ=fr [(0,.sl 1 (a.map encIs)),(1,.sl 1 (a.map encIs)),(5,encI i)]∧H=hp []) ?_ ?_
 ·exact .intro <| W.of ⟨_,0,rfl,Nat.zero_le _,rfl,rfl⟩ ⟨rfl,rfl,rfl,trivial⟩ trivial
 ·rintro n σ H ⟨i,rfl,hi,rfl,rfl⟩
  rcases Nat.lt_or_ge i a.length with h1 | h1
  ·have hx1:=hl _ (List.getElem_mem h1)
   obtain ⟨x,hx⟩:∃ x,a[i]=x:=⟨_,rfl⟩
   rw[hx] at hx1
   have hs:=SameInts_ok x hx1
   refine kW ?_
   (refine kQ ?_;repeat intro γ)
   simp only[hx]
   (refine kQ ?_;repeat intro γ)
   refine CallG.intro _ c65 hs ?_
   refine kW ?_
   (refine kQ ?_;repeat intro γ)
   exact .intro <| W.of ⟨_,by omega,i+1,rfl,h1,rfl,rfl⟩ ⟨rfl,rfl,rfl,trivial⟩ trivial
  ·refine kW ?_
   (refine kQ ?_;repeat intro γ)
   exact .of rfl
theorem SameGraph_ok (g:G) (h1:g.eqs.length<2^60) (h2:g.uses.length<2^60) (h3:g.joined.length<2^60) (hl:∀ l∈g.joined,l.length<2^60):PureCall Tryz.prog 19 [encG g,encG g] (encB true):=by
 refine PC [] Tryz.func19 rfl (by rfl) rfl ?_
 obtain ⟨es,us,js⟩:=g
 simp only at *
 have a1:=SameNames_ok es h1
 have a2:=SameUses_ok us h2
 have a3:=SameLists_ok js h3 hl
 unfold encG encUs at *
 simp only at *
 refine kW ?_
 (refine kQ ?_;repeat intro γ)
 refine CallP.flat [] _ c58 a1 rfl ?_
 refine kW ?_
 (refine kQ ?_;repeat intro γ)
 refine CallP.flat [] _ c59 a2 rfl ?_
 refine kW ?_
 (refine kQ ?_;repeat intro γ)
 refine CallP.flat [] _ c60 a3 rfl ?_
 refine kW ?_
 (refine kQ ?_;repeat intro γ)
 exact .of rfl
end Go.Proofs.YtlhdoekgipaihaaGreatDoor
namespace Go.Proofs.YtlhdoekgipaihaaGreatDoor
open Go Go.Fw
theorem cloneI0_ok:HCall Tryz.prog 145 [.sl 1 []] (hp []) (Gives 5 0 0 3 1 []):=by
 refine hcall_cp (E:=E 0) T_ok (D_ok 0) Tryz.func145 rfl (by rfl) (Nat.le_of_ble_eq_true rfl) ?_
 refine kW ?_
 (refine kS ?_;repeat intro γ)
 refine Need.intro (.inr ?_) ?_
 ·refine kV ?_
  refine CondP.tt ?_
  refine kV ?_
  refine cpA_retW ?_
  refine W.mat 2 5 3 1 rfl rfl fun γ=>?_
  refine W.of (l:=[(2,.own 5 γ 0 0)]) (m:=[(5,γ,⟨3,1,[]⟩)]) ?_ ⟨rfl,trivial⟩ ⟨rfl,trivial⟩
  refine kW ?_
  (refine kS ?_;repeat intro γ)
  exact EndH.of (m:=[(5,γ,⟨3,1,[]⟩)]) ⟨rfl,trivial⟩ ⟨γ,rfl,rfl⟩
 ·refine kW ?_
  (refine kS ?_;repeat intro γ)
  rename_i γ
  exact EndH.of (m:=[(5,γ,⟨3,1,[]⟩)]) ⟨rfl,trivial⟩ ⟨γ,rfl,rfl⟩
theorem cloneB0_ok:HCall Tryz.prog 256 [.sl 1 []] (hp []) (Gives 5 0 0 4 1 []):=by
 refine hcall_cp (E:=E 0) T_ok (D_ok 0) Tryz.func256 rfl (by rfl) (Nat.le_of_ble_eq_true rfl) ?_
 refine kW ?_
 (refine kS ?_;repeat intro γ)
 refine Need.intro (.inr ?_) ?_
 ·refine kV ?_
  refine CondP.tt ?_
  refine kV ?_
  refine cpA_retW ?_
  refine W.mat 2 5 4 1 rfl rfl fun γ=>?_
  refine W.of (l:=[(2,.own 5 γ 0 0)]) (m:=[(5,γ,⟨4,1,[]⟩)]) ?_ ⟨rfl,trivial⟩ ⟨rfl,trivial⟩
  refine kW ?_
  (refine kS ?_;repeat intro γ)
  exact EndH.of (m:=[(5,γ,⟨4,1,[]⟩)]) ⟨rfl,trivial⟩ ⟨γ,rfl,rfl⟩
 ·refine kW ?_
  (refine kS ?_;repeat intro γ)
  rename_i γ
  exact EndH.of (m:=[(5,γ,⟨4,1,[]⟩)]) ⟨rfl,trivial⟩ ⟨γ,rfl,rfl⟩
theorem cloneL0_ok:HCall Tryz.prog 143 [.sl 1 []] (hp []) (Gives 5 0 0 95 1 []):=by
 refine hcall_cp (E:=E 0) T_ok (D_ok 0) Tryz.func143 rfl (by rfl) (Nat.le_of_ble_eq_true rfl) ?_
 refine kW ?_
 (refine kS ?_;repeat intro γ)
 refine Need.intro (.inr ?_) ?_
 ·refine kV ?_
  refine CondP.tt ?_
  refine kV ?_
  refine cpA_retW ?_
  refine W.mat 2 5 95 1 rfl rfl fun γ=>?_
  refine W.of (l:=[(2,.own 5 γ 0 0)]) (m:=[(5,γ,⟨95,1,[]⟩)]) ?_ ⟨rfl,trivial⟩ ⟨rfl,trivial⟩
  refine kW ?_
  (refine kS ?_;repeat intro γ)
  exact EndH.of (m:=[(5,γ,⟨95,1,[]⟩)]) ⟨rfl,trivial⟩ ⟨γ,rfl,rfl⟩
 ·refine kW ?_
  (refine kS ?_;repeat intro γ)
  rename_i γ
  exact EndH.of (m:=[(5,γ,⟨95,1,[]⟩)]) ⟨rfl,trivial⟩ ⟨γ,rfl,rfl⟩
noncomputable def XR2:XE:={ XR with news:=fun n args=>match n,args with
 | 145,[.sl 1 []]=>some (5,0,0,3,1,[])
 | 256,[.sl 1 []]=>some (5,0,0,4,1,[])
 | 143,[.sl 1 []]=>some (5,0,0,95,1,[])
 | _,_=>none }
theorem XR2_ok:XOk XR2 where
 hT:=XR_ok.hT
 eqs:=XR_ok.eqs
 keys:=XR_ok.keys
 arrs:=XR_ok.arrs
 ext:=XR_ok.ext
 mixed:=XR_ok.mixed
 news:=fun n args b off len e k xs h=>by
  simp only[XR2] at h
  split at h
  ·cases h;exact ⟨c145,(fun x hx=>by cases hx),cloneI0_ok⟩
  ·cases h;exact ⟨c256,(fun x hx=>by cases hx),cloneB0_ok⟩
  ·cases h;exact ⟨c143,(fun x hx=>by cases hx),cloneL0_ok⟩
  ·cases h
def encP (p:List ByteArray×List U):AV:=.agg [.sl 1 (p.1.map encS),.sl 3 (p.2.map encU)]
def bs1 (c:UInt8):ByteArray:=⟨#[c]⟩
def ux:U:=⟨bs1 120,0,false⟩
def uy:U:=⟨bs1 121,0,false⟩
def gA:G:=⟨[bs1 97,bs1 98,bs1 99],[ux,uy],[[0],[0],[0,1]]⟩
def gB:G:=⟨[bs1 97],[ux,uy],[[0,1]]⟩
def pTwo:List ByteArray×List U:=([bs1 97,bs1 98],[ux])
def pW:List ByteArray×List U:=([bs1 99],[uy])
def nilP:AV:=.agg [.val (.slice none 0 0),.val (.slice none 0 0)]
set_option maxRecDepth 100000
theorem use_ok1:PureCall Tryz.prog 61 [encS (bs1 120)] (encU ux):=runs_pure XR2_ok (fuel:=50) (n:=5) (by kernel_rfl)
theorem use_ok2:PureCall Tryz.prog 61 [encS (bs1 121)] (encU uy):=runs_pure XR2_ok (fuel:=50) (n:=5) (by kernel_rfl)
theorem xA2:PureCall Tryz.prog 62 [encG gA] (.tup [encIs [0,-1,1],encI 0]):=runs_pure XR2_ok (fuel:=1000) (n:=60) (by kernel_rfl)
theorem xA3:PureCall Tryz.prog 63 [encG gA] (.tup [encP pTwo,encP pW,nilP,encI 0]):=runs_pure XR2_ok (fuel:=1000) (n:=60) (by kernel_rfl)
theorem xA4:PureCall Tryz.prog 64 [encG gA] (.tup [encP pTwo,encI 0]):=runs_pure XR2_ok (fuel:=1000) (n:=60) (by kernel_rfl)
theorem xB2:PureCall Tryz.prog 62 [encG gB] (.tup [encIs [0],encI 0]):=runs_pure XR2_ok (fuel:=1000) (n:=60) (by kernel_rfl)
theorem xB3:PureCall Tryz.prog 67 [encG gB] (.tup [(.val (.slice none 0 0)),encI 0]):=runs_pure XR2_ok (fuel:=1000) (n:=60) (by kernel_rfl)
theorem xB4:PureCall Tryz.prog 68 [encG gB] (.tup [encI 1,encI 0]):=runs_pure XR2_ok (fuel:=1000) (n:=60) (by kernel_rfl)
theorem sI1:PureCall Tryz.prog 65 [encIs [0,-1,1],encIs [0,-1,1]] (encB true):=runs_pure XR2_ok (fuel:=50) (n:=5) (by kernel_rfl)
theorem sI2:PureCall Tryz.prog 65 [encIs [0],encIs [0]] (encB true):=runs_pure XR2_ok (fuel:=50) (n:=5) (by kernel_rfl)
theorem sP1:PureCall Tryz.prog 66 [encP pTwo,encP pTwo] (encB true):=runs_pure XR2_ok (fuel:=50) (n:=5) (by kernel_rfl)
theorem sP2:PureCall Tryz.prog 66 [encP pW,encP pW] (encB true):=runs_pure XR2_ok (fuel:=50) (n:=5) (by kernel_rfl)
theorem sP3:PureCall Tryz.prog 66 [nilP,nilP] (encB true):=runs_pure XR2_ok (fuel:=50) (n:=5) (by kernel_rfl)
theorem snapC_own {S:List Nat} {H:Hp} {n b g off len:Nat} {B:Blk} (hS:b∈S) (hb:H b=some (g,B)) (hl:off+len≤B.xs.length):snapC S H (n+1) (.own b g off len)=.sl B.n (((B.xs.drop off).take len).map (snapEl (snapC S H n))):=by
 simp only[snapC,if_pos hS,hb,true_and,if_pos hl]
theorem snapE_own {S:List Nat} {H:Hp} {n b g off len:Nat} {B:Blk} (hS:b∈S) (hb:H b=some (g,B)) (hl:off+len≤B.xs.length):snapEl (snapC S H (n+1)) (.own b g off len)=.sl B.n (((B.xs.drop off).take len).map (snapEl (snapC S H n))):=snapC_own hS hb hl
theorem cong1 {n:Nat} {a a':AV} (h:a=a'):AV.sl n [a]=AV.sl n [a']:=by rw[h]
theorem cong3 {n:Nat} {a b c a' b' c':AV} (h1:a=a') (h2:b=b') (h3:c=c'):AV.sl n [a,b,c]=AV.sl n [a',b',c']:=by rw[h1,h2,h3]
theorem congG {γ:Nat} {a b c a' b' c':AV} (h1:a=a') (h2:b=b') (h3:c=c'):some (γ,(⟨31,3,[.agg [a,b,c]]⟩:Blk))=some (γ,⟨31,3,[.agg [a',b',c']]⟩):=by rw[h1,h2,h3]
theorem congP {γ:Nat} {a b a' b':AV} (h1:a=a') (h2:b=b'):some (γ,(⟨99,2,[.agg [a,b]]⟩:Blk))=some (γ,⟨99,2,[.agg [a',b']]⟩):=by rw[h1,h2]
set_option maxHeartbeats 4000000 in
theorem awake13_ok:PureCall Tryz.prog 20 [] (encB true):=by
 refine PC [] Tryz.func20 rfl (by rfl) rfl ?_
 refine kX ?_
 (refine kZ ?_;repeat intro γ)
 refine cpA_seq ?_
 refine kX ?_
 (refine kZ ?_;repeat intro γ)
 refine cpA_seq ?_
 refine kX ?_
 (refine kZ ?_;repeat intro γ)
 refine CallP.pure [] _ c61 use_ok1 ?_
 refine kX ?_
 (refine kZ ?_;repeat intro γ)
 refine CallP.pure [] _ c61 use_ok2 ?_
 refine kX ?_
 (refine kZ ?_;repeat intro γ)
 rename Nat=>γ1
 refine cpA_seqW (W.frb [13,16,17,18,19,20] 1 γ1 _ rfl (by decide) (W.of (l:=[(1,.op 1 γ1 0 0)]) (m:=[(1,γ1,⟨31,3,[encG gA]⟩)]) ?_ ⟨rfl,trivial⟩ ⟨?_,trivial⟩))
 rotate_left
 ·refine congG ?_ ?_ ?_
  ·refine (snapC_own (B:=⟨9,1,gA.eqs.map encS⟩) ?_ rfl ?_).trans rfl<;>(first | decide | exact Nat.le_of_ble_eq_true rfl)
  ·refine (snapC_own (B:=⟨46,3,gA.uses.map encU⟩) ?_ rfl ?_).trans rfl<;>(first | decide | exact Nat.le_of_ble_eq_true rfl)
  ·refine (snapC_own (B:=⟨95,1,[.own 17 _ 0 1,.own 18 _ 0 1,.own 19 _ 0 2]⟩) (by decide) rfl (Nat.le_of_ble_eq_true rfl)).trans (cong3 ?_ ?_ ?_)
   ·refine Eq.trans (snapE_own (S:=[13,16,17,18,19,20]) (n:=1) (b:=17) (off:=0) (len:=1) (B:=⟨3,1,[encI 0]⟩) (by decide) ?_ (by decide)) ?_<;>rfl
   ·refine Eq.trans (snapE_own (S:=[13,16,17,18,19,20]) (n:=1) (b:=18) (off:=0) (len:=1) (B:=⟨3,1,[encI 0]⟩) (by decide) ?_ (by decide)) ?_<;>rfl
   ·refine Eq.trans (snapE_own (S:=[13,16,17,18,19,20]) (n:=1) (b:=19) (off:=0) (len:=2) (B:=⟨3,1,[encI 0,encI 1]⟩) (by decide) ?_ (by decide)) ?_<;>rfl
 refine kX ?_
 (refine kZ ?_;repeat intro γ)
 refine CallP.pure [] _ c62 xA2 ?_
 refine kX ?_
 (refine kZ ?_;repeat intro γ)
 refine cpA_seq ?_
 refine kX ?_
 (refine kZ ?_;repeat intro γ)
 refine CallP.pure [] _ c63 xA3 ?_
 refine kX ?_
 (refine kZ ?_;repeat intro γ)
 refine cpA_seq ?_
 refine kX ?_
 (refine kZ ?_;repeat intro γ)
 refine CallP.pure [] _ c64 xA4 ?_
 refine kX ?_
 (refine kZ ?_;repeat intro γ)
 refine cpA_seq ?_
 refine kX ?_
 (refine kZ ?_;repeat intro γ)
 refine CallP.pure [] _ c61 use_ok1 ?_
 refine kX ?_
 (refine kZ ?_;repeat intro γ)
 rename Nat=>γ10
 refine cpA_seqW (W.frb [39,41] 10 γ10 _ rfl (by decide) (W.of (l:=[(1,.op 1 γ1 0 0),(2,encIs [0,-1,1]),(3,encI 0),(4,.op 4 _ 0 0),(5,.op 5 _ 0 0),(6,.op 6 _ 0 0),(7,encI 0),(8,.op 8 _ 0 0),(9,encI 0),(10,.op 10 γ10 0 0)])
  (m:=[(1,γ1,⟨31,3,[encG gA]⟩),(4,_,⟨99,2,[encP pTwo]⟩),(5,_,⟨99,2,[encP pW]⟩),(6,_,⟨99,2,[nilP]⟩),(8,_,⟨99,2,[encP pTwo]⟩),(10,γ10,⟨99,2,[encP pTwo]⟩)])
  ?_ ⟨rfl,rfl,rfl,rfl,rfl,rfl,rfl,rfl,rfl,rfl,trivial⟩ ⟨rfl,rfl,rfl,rfl,rfl,?_,trivial⟩))
 rotate_left
 ·refine congP ?_ ?_
  ·refine (snapC_own (B:=⟨9,1,pTwo.1.map encS⟩) ?_ rfl ?_).trans rfl<;>(first | decide | exact Nat.le_of_ble_eq_true rfl)
  ·refine (snapC_own (B:=⟨46,3,pTwo.2.map encU⟩) ?_ rfl ?_).trans rfl<;>(first | decide | exact Nat.le_of_ble_eq_true rfl)
 refine kX ?_
 (refine kZ ?_;repeat intro γ)
 refine cpA_seq ?_
 refine kX ?_
 refine DrawH.segs [(34,false),(35,true),(43,false)] (by kernel_rfl) ?_
 refine kX ?_
 (refine kZ ?_;repeat intro γ)
 refine CallG.flat (encB true) c65 (pure_args ?_ sI1) rfl ?_
 ·show [_,snap [55] _ (.own 55 _ 0 3)]=_
  rw[snap_own (B:=⟨3,1,[encI 0,encI (-1),encI 1]⟩) (by decide) rfl (by decide)]
  rfl
 refine kX ?_
 (refine kZ ?_;repeat intro γ)
 refine CallG.flat (encB true) c66 sP1 rfl ?_
 refine kX ?_
 (refine kZ ?_;repeat intro γ)
 refine CallG.flat (encB true) c66 sP1 rfl ?_
 refine kX ?_
 (refine kZ ?_;repeat intro γ)
 refine CallG.intro (encU uy) c61 use_ok2 ?_
 refine kX ?_
 (refine kZ ?_;repeat intro γ)
 refine CallP.flat [73,75] (encB true) c66 (pure_args ?_ sP2) rfl ?_
 ·show [_,AV.agg [snapC [73,75] _ 3 (.own 73 _ 0 1),snapC [73,75] _ 3 (.own 75 _ 0 1)]]=_
  rw[snapC_own (B:=⟨9,1,[encS (bs1 99)]⟩) (by decide) rfl (by decide),snapC_own (B:=⟨46,3,[encU uy]⟩) (by decide) rfl (by decide)]
  rfl
 refine kX ?_
 (refine kZ ?_;repeat intro γ)
 refine CallG.flat (encB true) c66 sP3 rfl ?_
 refine kX ?_
 (refine kZ ?_;repeat intro γ)
 refine cpA_seqW (W.of (l:=[(1,.op 1 γ1 0 0)]) (m:=[(1,γ1,⟨31,3,[encG gA]⟩)]) ?_ ⟨rfl,trivial⟩ ⟨rfl,trivial⟩)
 refine kX ?_
 (refine kZ ?_;repeat intro γ)
 refine CallP.pure [] _ c61 use_ok1 ?_
 refine kX ?_
 (refine kZ ?_;repeat intro γ)
 refine CallP.pure [] _ c61 use_ok2 ?_
 refine kX ?_
 (refine kZ ?_;repeat intro γ)
 refine cpA_seqW (W.frb [86,89,90,91] 1 γ1 _ rfl (by decide) (W.of (l:=[(1,.op 1 γ1 0 0)]) (m:=[(1,γ1,⟨31,3,[encG gB]⟩)]) ?_ ⟨rfl,trivial⟩ ⟨?_,trivial⟩))
 rotate_left
 ·refine congG ?_ ?_ ?_
  ·refine (snapC_own (B:=⟨9,1,gB.eqs.map encS⟩) ?_ rfl ?_).trans rfl<;>(first | decide | exact Nat.le_of_ble_eq_true rfl)
  ·refine (snapC_own (B:=⟨46,3,gB.uses.map encU⟩) ?_ rfl ?_).trans rfl<;>(first | decide | exact Nat.le_of_ble_eq_true rfl)
  ·refine (snapC_own (B:=⟨95,1,[.own 90 _ 0 2]⟩) (by decide) rfl (Nat.le_of_ble_eq_true rfl)).trans (cong1 ?_)
   refine Eq.trans (snapE_own (S:=[86,89,90,91]) (n:=1) (b:=90) (off:=0) (len:=2) (B:=⟨3,1,[encI 0,encI 1]⟩) (by decide) ?_ (by decide)) ?_<;>rfl
 refine kX ?_
 (refine kZ ?_;repeat intro γ)
 refine CallP.pure [] _ c62 xB2 ?_
 refine kX ?_
 (refine kZ ?_;repeat intro γ)
 refine cpA_seq ?_
 refine kX ?_
 (refine kZ ?_;repeat intro γ)
 refine CallP.pure [] _ c67 xB3 ?_
 refine kX ?_
 (refine kZ ?_;repeat intro γ)
 refine cpA_seq ?_
 refine kX ?_
 (refine kZ ?_;repeat intro γ)
 refine CallP.pure [] _ c68 xB4 ?_
 refine kX ?_
 (refine kZ ?_;repeat intro γ)
 refine cpA_seq ?_
 refine kX ?_
 (refine kZ ?_;repeat intro γ)
 refine CallP.flat [120] (encB true) c65 (pure_args ?_ sI2) rfl ?_
 ·show [_,snap [120] _ (.own 120 _ 0 1)]=_
  rw[snap_own (B:=⟨3,1,[encI 0]⟩) (by decide) rfl (by decide)]
  rfl
 refine kW ?_
 (refine kS ?_;repeat intro γ)
 exact .of rfl
end Go.Proofs.YtlhdoekgipaihaaGreatDoor
namespace Go.Proofs.YtlhdoekgipaihaaGreatDoor
open Go Go.Fw
theorem idxU_len (A:List U):∀ (us:List U) (i:Nat),(idxU A us i).length≤us.length
 | [],_=>Nat.le_refl _
 | u::r,i=>by
   have:=idxU_len A r (i+1)
   unfold idxU
   split
   ·simp;omega
   ·simp;omega
theorem checkF_le (s:Sys) (h:checkF s=0):s.vars.length≤200∧s.eqs.length≤200:=checkR_le s (by rw[check_same];exact h)
structure SmG (g:G):Prop where
 e:g.eqs.length<2^60
 u:g.uses.length<2^60
 j:g.joined.length<2^60
 l:∀ l∈g.joined,l.length<2^60
theorem smG_nil:SmG gNil:=⟨by decide,by decide,by decide,fun l h=>by cases h⟩
theorem smG_graph (qs:List Eqn) (us:List U) (h1:qs.length≤2^20) (h2:us.length≤2^20):SmG (graphF qs us):=by
 refine ⟨?_,?_,?_,?_⟩
 ·unfold graphF;rw[List.length_map];omega
 ·unfold graphF;simp only;omega
 ·unfold graphF;rw[List.length_map];omega
 ·intro l hl
  obtain ⟨q,_,rfl⟩:=List.mem_map.1 hl
  have:=idxU_len (occ q) us 0
  omega
theorem TopsF_sm (s:Sys):SmG (TopsF s).1:=by
 unfold TopsF
 by_cases h:checkF s=0
 ·rw[if_neg (by simp[h])]
  have:=checkF_le s h
  have:=topsU_len s.vars (occS s.eqs [])
  exact smG_graph _ _ (by omega) (by omega)
 ·rw[if_pos h];exact smG_nil
theorem SameG {g:G} (h:SmG g):PureCall Tryz.prog 19 [encG g,encG g] (encB true):=SameGraph_ok g h.e h.u h.j h.l
end Go.Proofs.YtlhdoekgipaihaaGreatDoor
namespace Go.Proofs.YtlhdoekgipaihaaGreatDoor
open Go Go.Fw
theorem risG_pair:∀ (l:List ByteArray) (p:Option ByteArray),risG l p=true→l.Pairwise fun a b=>Op.bytesLess a.toList b.toList=true
 | [],_,_=>List.Pairwise.nil
 | n::r,p,h=>by
   obtain ⟨_,_,h3⟩:=risG_cons h
   exact List.pairwise_cons.2 ⟨risG_above r n h3,risG_pair r _ h3⟩
theorem text_var {e:Ex} (ho:e.op=oVar) (ht:textF e=true):0≤e.order∧e.order≤6:=by
 unfold textF at ht
 rw[if_neg (by rw[ho];decide),if_pos ho] at ht
 simp only[Bool.and_eq_true,decide_eq_true_eq] at ht
 exact ⟨ht.1.2,ht.2⟩
mutual
theorem occ_ord (u:U):∀ e:Ex,builtF e=true→OccE e u→0≤u.order∧u.order≤6
 | .mk o t n ks,hb,h=>by
   unfold OccE at h
   rcases h with ⟨h1,h2⟩ | h
   ·rw[h2]
    rw[builtF_eq] at hb
    simp only[Bool.and_eq_true] at hb
    have ht:=hb.1.1.2
    rcases h1 with ho | ho
    ·exact text_var (e:=.mk o t n ks) ho ht
    ·have:=text_pre (e:=.mk o t n ks) ho ht
     have:n=0:=this
     simp only
     omega
   ·exact occ_ordL u ks (built_kids hb).2 h
theorem occ_ordL (u:U):∀ ks:List Ex,(∀ k∈ks,builtF k=true)→OccL ks u→0≤u.order∧u.order≤6
 | [],_,h=>by unfold OccL at h;exact h.elim
 | k::ks,hb,h=>by
   unfold OccL at h
   rcases h with h | h
   ·exact occ_ord u k (hb k (by simp)) h
   ·exact occ_ordL u ks (fun x hx=>hb x (by simp[hx])) h
end
theorem top_ord {s:Sys} (h:OkS s) (n:ByteArray):0≤topF (occS s.eqs []) n∧topF (occS s.eqs []) n≤6:=by
 obtain ⟨a,b,c⟩:=top_gen n (occS s.eqs []) 0
 refine ⟨a,?_⟩
 unfold topF
 rcases c with c | ⟨u,hu,h1,h2⟩
 ·rw[c];omega
 ·rw[← h2]
  rw[occS_mem] at hu
  simp only[List.not_mem_nil,false_or] at hu
  obtain ⟨q,hq,hu⟩:=hu
  rcases hu with hu | hu
  ·exact (occ_ord u _ (h.b q hq).1.2 hu).2
  ·exact (occ_ord u _ (h.b q hq).2.2 hu).2
theorem find_self:∀ (vs:List Va),(vs.map Va.name).Nodup→∀ v∈vs,vs.find? (fun x=>decide (x.name=v.name))=some v
 | [],_,v,h=>by cases h
 | x :: r,hn,v,h=>by
   rw[List.map_cons] at hn
   obtain ⟨h1,h2⟩:=List.nodup_cons.1 hn
   rw[List.find?_cons]
   rcases List.mem_cons.1 h with rfl | h
   ·rw[decide_eq_true rfl]
   ·have:¬ x.name=v.name:=fun e=>h1 (by rw[e];exact List.mem_map.2 ⟨v,h,rfl⟩)
    rw[decide_eq_false this]
    exact find_self r h2 v h
theorem tops_fit {s:Sys} (h:OkS s):∀ (l:List Va) (pu:Option U),(∀ v∈l,v∈s.vars)→(l.map Va.name).Pairwise (fun a b=>Op.bytesLess a.toList b.toList=true)→(∀ u,pu=some u→∀ v∈l,Op.bytesLess u.name.toList v.name.toList=true) →
  fitsR s.vars (topsU l (occS s.eqs [])) pu=true
 | [],_,_,_,_=>rfl
 | v :: r, pu,hm,hp,hu=>by
   rw[List.map_cons] at hp
   obtain ⟨hp1,hp2⟩:=List.pairwise_cons.1 hp
   have ihm:∀ x∈r,x∈s.vars:=fun x hx=>hm x (by simp[hx])
   unfold topsU
   by_cases hk:v.kind=0
   ·rw[List.filter_cons_of_pos (by simpa using hk),List.map_cons]
    have ih:=tops_fit h r (some ⟨v.name,topF (occS s.eqs []) v.name,false⟩) ihm hp2 (by
     rintro u hu x hx
     cases hu
     exact hp1 _ (List.mem_map.2 ⟨x,hx,rfl⟩))
    unfold topsU at ih
    unfold fitsR
    rw[ih]
    have e1:fitF ⟨v.name,topF (occS s.eqs []) v.name,false⟩=true:=by
     have hn:nameF v.name=true:=risG_name _ _ h.r _ (List.mem_map.2 ⟨v,hm v (by simp),rfl⟩)
     have ho:=top_ord h v.name
     unfold fitF
     rw[hn,decide_eq_true ho];rfl
    have e2:contR s.vars v.name=true:=by
     unfold contR
     rw[find_self _ (risG_nodup _ _ h.r) v (hm v (by simp))]
     exact decide_eq_true hk
    rw[e1,e2]
    cases pu with
    | none=>rfl
    | some u=>
      have hb:=hu u rfl v (by simp)
      have e3:beforeF u ⟨v.name,topF (occS s.eqs []) v.name,false⟩=true:=by
       unfold beforeF
       rw[decide_eq_false (fun e=>by
        simp only at e
        rw[e,bl_irr] at hb;cases hb)]
       exact hb
      simp only[e3]
      rfl
   ·rw[List.filter_cons_of_neg (by simpa using hk)]
    exact tops_fit h r pu ihm hp2 fun u hpu x hx=>hu u hpu x (by simp[hx])
theorem Graph_tops (s:Sys) (h:checkF s=0):GraphF s (topsU s.vars (occS s.eqs []))=(graphF s.eqs (topsU s.vars (occS s.eqs [])),0):=by
 have hk:=okS_of s h
 unfold GraphF
 rw[if_neg (by simp[h]),fits_same hk,tops_fit hk s.vars none (fun v hv=>hv) (risG_pair _ _ hk.r) (fun u hu=>by cases hu),if_neg (by simp),if_neg (by
  have:=topsU_len s.vars (occS s.eqs [])
  have:=checkF_le s h
  omega)]
theorem tops_most (s:Sys) (h:checkF s=0):∀ q∈s.eqs,∀ x∈InR q,∀ t∈topsU s.vars (occS s.eqs []),x.name=t.name→x.order≤t.order:=by
 have hk:=okS_of s h
 intro q hq x hx t ht hn
 unfold topsU at ht
 obtain ⟨v,_,rfl⟩:=List.mem_map.1 ht
 exact (top_gen v.name (occS s.eqs []) 0).2.1 x (by
  rw[occS_mem]
  exact .inr ⟨q,hq,(InR_mem (hk.b q hq) x).1 hx⟩) hn
end Go.Proofs.YtlhdoekgipaihaaGreatDoor
namespace Go.Proofs.YtlhdoekgipaihaaGreatDoor
open Go Go.Fw
def hpM (g1 g3:Nat) (vs:List Va) (qs ns:List Eqn) (ws:List Whn) (g:G):List (Nat×Nat×Blk):=
 [(1,g1,⟨26,4,[.agg [.sl 7 (vs.map encV),.sl 9 (qs.map encQn),.sl 9 (ns.map encQn),.sl 6 (ws.map encWn)]]⟩),(3,g3,⟨31,3,[.agg [.sl 1 (g.eqs.map encS),.sl 3 (g.uses.map encU),.sl 1 (g.joined.map encIs)]]⟩)]
set_option maxHeartbeats 2000000 in
theorem MatchTops_ok (ha:PureCall Tryz.prog 20 [] (encB true)) (s:Sys) (hs:SzS s):PureCall Tryz.prog 4 [encSy s] (encB true):=by
 refine PC [] Tryz.func4 rfl (by rfl) rfl ?_
 have c1:=Tops_ok s hs
 have hul:checkF s=0→(topsU s.vars (occS s.eqs [])).length≤200:=fun h=>by
  have:=topsU_len s.vars (occS s.eqs [])
  have:=checkF_le s h
  omega
 have hnm:∀ u∈topsU s.vars (occS s.eqs []),u.name.size<2^35:=fun u hu=>by
  unfold topsU at hu
  obtain ⟨v,hv,rfl⟩:=List.mem_map.1 hu
  exact (hs.t v (List.mem_filter.1 hv).1).1
 have c2:=fun h=>Graph_ok s hs (topsU s.vars (occS s.eqs [])) (by have:=hul h;omega) hnm
 have hsm:=TopsF_sm s
 have hgt:=Graph_tops s
 have hmo:=tops_most s
 have hQ:=hs.qs
 have hql:=hs.q
 unfold TopsF at c1 hsm
 clear hs
 by_cases h:checkF s=0
 case' neg=>
  rw[if_pos h] at c1
  generalize checkF s=ck at *
  clear c2 hgt hmo hul hsm
  unfold encGE encG encUs at c1
  unfold encSy at *
  refine kW ?_
  (refine kQ ?_;repeat intro γ)
  refine CallP.pure [] _ c17 c1 ?_
  refine kW ?_
  (refine kQ ?_;repeat intro γ)
  refine CallP.flat [] (encB true) c20 ha rfl ?_
  refine kW ?_
  (refine kQ ?_;repeat intro γ)
  exact .of rfl
 rw[if_neg (by simp[h])] at c1 hsm
 have c2:=c2 h
 rw[hgt h] at c2
 have hmo:=hmo h
 have hul:=hul h
 clear hgt hnm h
 have hus:(graphF s.eqs (topsU s.vars (occS s.eqs []))).uses=topsU s.vars (occS s.eqs []):=rfl
 generalize topsU s.vars (occS s.eqs [])=T at *
 generalize graphF s.eqs T=g at *
 subst hus
 have s1:=SameG hsm
 obtain ⟨vs,qs,ns,ws⟩:=s
 unfold encGE encG encUs at *
 unfold encSy at *
 simp only at *
 refine kW ?_
 (refine kQ ?_;repeat intro γ)
 refine CallP.pure [] _ c17 c1 ?_
 refine kW ?_
 (refine kQ ?_;repeat intro γ)
 refine CallP.pure [] _ c15 c2 ?_
 refine kW ?_
 (refine kQ ?_;repeat intro γ)
 refine CallP.flat [] (encB true) c19 s1 rfl ?_
 refine kW ?_
 (refine kQ ?_;repeat intro γ)
 iterate 2
  refine CondP.tt ?_
  refine kW ?_
  (refine kQ ?_;repeat intro γ)
 have hl:g.uses.length≤200:=by assumption
 clear c1 c2 s1 hsm
 refine LoopP.intro (fun n σ H=>∃ g1 g3 i,n=qs.length-i∧i≤qs.length∧σ=fr [(1,.op 1 g1 0 0),(3,.op 3 g3 0 0),(7,encI i)]∧H=hp (hpM g1 g3 vs qs ns ws g)) ?_ ?_
 ·exact .intro <| W.of ⟨_,_,_,0,rfl,Nat.zero_le _,rfl,rfl⟩ ⟨rfl,rfl,rfl,trivial⟩ ⟨rfl,rfl,trivial⟩
 ·rintro n σ H ⟨g1,g3,i,rfl,hi,rfl,rfl⟩
  unfold hpM
  rcases Nat.lt_or_ge i qs.length with h1 | h1
  ·have hq := hQ _ (List.getElem_mem h1)
   have hm:=hmo _ (List.getElem_mem h1)
   obtain ⟨q,hqq⟩:∃ q,qs[i]=q:=⟨_,rfl⟩
   rw[hqq] at hq hm
   have u1:=InR_ok q hq.1 hq.2
   have ul:=InR_len q
   generalize InR q=l at u1 ul hm
   unfold encQn encUs at u1
   refine kW ?_
   (refine kQ ?_;repeat intro γ)
   simp only[hqq]
   refine CallP.pure [] _ c21 u1 ?_
   refine kW ?_
   (refine kQ ?_;repeat intro γ)
   refine LoopP.intro (fun n σ H=>∃ k,n=l.length-k∧k≤l.length∧σ=fr [(1,.op 1 g1 0 0),(3,.op 3 g3 0 0),(7,encI i),(8,encUs l),(9,encI k)]∧H=hp (hpM g1 g3 vs qs ns ws g)) ?_ ?_
   ·exact .intro <| W.of ⟨_,0,rfl,Nat.zero_le _,rfl,rfl⟩ ⟨rfl,rfl,rfl,rfl,rfl,trivial⟩ ⟨rfl,rfl,trivial⟩
   ·clear u1
    rintro n σ H ⟨k,rfl,hk,rfl,rfl⟩
    unfold hpM encUs
    rcases Nat.lt_or_ge k l.length with h2 | h2
    ·have hx := hm _ (List.getElem_mem h2)
     obtain ⟨x,hxx⟩:∃ x,l[k]=x:=⟨_,rfl⟩
     rw[hxx] at hx
     refine kW ?_
     (refine kQ ?_;repeat intro γ)
     refine LoopP.intro (fun n σ H=>∃ j,n=g.uses.length-j∧j≤g.uses.length∧σ=fr [(1,.op 1 g1 0 0),(3,.op 3 g3 0 0),(7,encI i),(8,encUs l),(9,encI k),(10,encI j)]∧H=hp (hpM g1 g3 vs qs ns ws g)) ?_ ?_
     ·exact .intro <| W.of ⟨_,0,rfl,Nat.zero_le _,rfl,rfl⟩ ⟨rfl,rfl,rfl,rfl,rfl,rfl,trivial⟩ ⟨rfl,rfl,trivial⟩
     ·rintro n σ H ⟨j,rfl,hj,rfl,rfl⟩
      unfold hpM encUs
      rcases Nat.lt_or_ge j g.uses.length with h3 | h3
      ·have hy:=hx _ (List.getElem_mem h3)
       obtain ⟨y,hyy⟩:∃ y,g.uses[j]=y:=⟨_,rfl⟩
       rw[hyy] at hy
       refine kW ?_
       (refine kQ ?_;repeat intro γ)
       simp only[hxx]
       unfold encU
       (refine kQ ?_;repeat intro γ)
       refine CondP.intro (fun cp=>?_) (fun cp=>?_)<;>refine kW ?_
       ·(refine kQ ?_;repeat intro γ)
        exact .intro <| W.of ⟨_,by omega,j+1,rfl,h3,rfl,rfl⟩ ⟨rfl,rfl,rfl,rfl,rfl,rfl,trivial⟩ ⟨rfl,rfl,trivial⟩
       ·(refine kQ ?_;repeat intro γ)
        simp only[hxx,hyy]
        (refine kQ ?_;repeat intro γ)
        refine CondP.dec (fun cn=>?_) (fun cn=>?_)<;>refine kW ?_
        ·have ho:=hy cn
         (refine kQ ?_;repeat intro γ)
         try simp only[hxx,hyy]
         (refine kQ ?_;repeat intro γ)
         exact .intro <| W.of ⟨_,by omega,j+1,rfl,h3,rfl,rfl⟩ ⟨rfl,rfl,rfl,rfl,rfl,rfl,trivial⟩ ⟨rfl,rfl,trivial⟩
        ·(refine kQ ?_;repeat intro γ)
         exact .intro <| W.of ⟨_,by omega,j+1,rfl,h3,rfl,rfl⟩ ⟨rfl,rfl,rfl,rfl,rfl,rfl,trivial⟩ ⟨rfl,rfl,trivial⟩
      ·refine kW ?_
       (refine kQ ?_;repeat intro γ)
       exact .intro <| W.of ⟨_,by omega,k+1,rfl,h2,rfl,rfl⟩ ⟨rfl,rfl,rfl,rfl,rfl,trivial⟩ ⟨rfl,rfl,trivial⟩
    ·refine kW ?_
     (refine kQ ?_;repeat intro γ)
     exact .intro <| W.of ⟨_,by omega,g1,g3,i+1,rfl,h1,rfl,rfl⟩ ⟨rfl,rfl,rfl,trivial⟩ ⟨rfl,rfl,trivial⟩
  ·refine kW ?_
   (refine kQ ?_;repeat intro γ)
   refine CallP.flat [] (encB true) c20 ha rfl ?_
   refine kW ?_
   (refine kQ ?_;repeat intro γ)
   exact .of rfl
end Go.Proofs.YtlhdoekgipaihaaGreatDoor
namespace Go.Proofs.YtlhdoekgipaihaaGreatDoor
open Go Go.Fw
theorem OpenB.low {H:Type} {L:DataW H→Prop} {N M:Nat} {enc:TypeId×Value→H} {P:Program} {w:World} {t:Nat} {Ψ:List AV→Prop} (h:OpenB L M enc P w t Ψ) (hn:N≤M):OpenB L N enc P w t Ψ:=fun fuel hf=>h fuel (Nat.le_trans hf hn)
theorem und_slice {t e:Nat} {d:Fw.TD} (hd:T t=some d) (hk:d.kind=.slice e):Tryz.prog.underlying t=some (.slice e):=by
 obtain ⟨u,hu,hr⟩:=(tfact (T_ok _ _ hd)).und
 rw[hk] at hr
 cases u<;>simp[kdOf] at hr
 subst hr;exact hu
theorem u3:Tryz.prog.underlying 3=some (.int .i64):=by kernel_rfl
theorem u4:Tryz.prog.underlying 4=some .bool:=by kernel_rfl
theorem u9:Tryz.prog.underlying 9=some .string:=by kernel_rfl
section
variable {H:Type} {enc:TypeId×Value→H} {w:World} {L:DataW H→Prop} {B0:Nat}
abbrev pS (B0:Nat):List AV→Prop:=fun z=>∃ s:ByteArray,z=[AV.val (.string s)]∧s.size≤B0
abbrev pI:List AV→Prop:=fun z=>∃ n:Int,z=[AV.val (.int .i64 n)]
abbrev pB:List AV→Prop:=fun z=>∃ b:Bool,z=[AV.val (.bool b)]
def GoodE (e:Ex):Prop:=SzE e∧TxE e
abbrev pExp (w:World):List AV→Prop:=fun z=>∃ e:Ex,z=(encE e).cells∧GoodE e
theorem openE (hL:LB L B0) (hB:B0<2^35):∀ N:Nat,OpenB L N enc Tryz.prog w 42 (pExp w)
 | 0=>by
   intro fuel hf cs x h _
   obtain ⟨fs,hu,_⟩:=und_struct (T_ok 42 _ rfl) rfl
   obtain ⟨_,n,hn,_⟩:=DataW.trod_struct hu h
   omega
 | N + 1=>by
   obtain ⟨fs,hu,hf⟩:=und_struct (T_ok 42 _ rfl) rfl
   have hk:=OpenB.low (openB_slice (n:=4) (f:=encE) (Φ:=GoodE) hL (und_slice (t:=40) (e:=42) rfl rfl) (by kernel_rfl) (by decide) (openE hL hB N)) (Nat.le_succ N)
   refine (openB_struct hL hu [(0,9,1,pS B0),(1,9,1,pS B0),(2,3,1,pI),(3,40,1,_)] hf (by
    intro p hp
    simp only[List.mem_cons,List.not_mem_nil,or_false] at hp
    rcases hp with rfl | rfl | rfl | rfl<;>kernel_rfl) (by kernel_rfl) (by
    intro p hp
    simp only[List.mem_cons,List.not_mem_nil,or_false] at hp
    rcases hp with rfl | rfl | rfl | rfl
    ·exact openB_str hL u9
    ·exact openB_str hL u9
    ·exact openB_int u3
    ·exact hk)).mono ?_
   rintro z ⟨zs,rfl,h⟩
   match zs,h with
   | [z0,z1,z2,z3],⟨⟨o,h0,ho⟩,⟨t,h1,ht⟩,⟨n,h2⟩,⟨l,h3,hl,hg⟩,_⟩=>
     subst h0 h1 h2 h3
     refine ⟨.mk o t n l,?_,SzE.mk (by omega) (by omega) (by omega) fun k hk=>(hg k hk).1,TxE.mk (by omega) fun k hk=>(hg k hk).2⟩
     rw[encE_eq];rfl
theorem openQn (hL:LB L B0) (hB:B0<2^35) (N:Nat):OpenB L (N+1) enc Tryz.prog w 44 fun z=>∃ q:Eqn,z=(encQn q).cells∧q.name.size≤B0∧GoodE q.left∧GoodE q.right:=by
 obtain ⟨fs,hu,hf⟩:=und_struct (T_ok 44 _ rfl) rfl
 refine (openB_struct hL hu [(0,9,1,pS B0),(1,42,4,pExp w),(5,42,4,pExp w)] hf (by
  intro p hp
  simp only[List.mem_cons,List.not_mem_nil,or_false] at hp
  rcases hp with rfl | rfl | rfl<;>kernel_rfl) (by kernel_rfl) (by
  intro p hp
  simp only[List.mem_cons,List.not_mem_nil,or_false] at hp
  rcases hp with rfl | rfl | rfl
  ·exact openB_str hL u9
  ·exact openE hL hB N
  ·exact openE hL hB N)).mono ?_
 rintro z ⟨zs,rfl,h⟩
 match zs,h with
 | [z0,z1,z2],⟨⟨s,h0,hs⟩,⟨a,h1,ha⟩,⟨b,h2,hb⟩,_⟩=>
   subst h0 h1 h2
   refine ⟨⟨s,a,b⟩,?_,hs,ha,hb⟩
   rw[encE_cells,encE_cells];rfl
theorem openAc (hL:LB L B0) (hB:B0<2^35) (N:Nat):OpenB L (N+1) enc Tryz.prog w 256 fun z=>∃ a:Ac,z=(encAc a).cells∧GoodE a.value:=by
 obtain ⟨fs,hu,hf⟩:=und_struct (T_ok 256 _ rfl) rfl
 refine (openB_struct hL hu [(0,3,1,pI),(1,9,1,pS B0),(2,42,4,pExp w)] hf (by
  intro p hp
  simp only[List.mem_cons,List.not_mem_nil,or_false] at hp
  rcases hp with rfl | rfl | rfl<;>kernel_rfl) (by kernel_rfl) (by
  intro p hp
  simp only[List.mem_cons,List.not_mem_nil,or_false] at hp
  rcases hp with rfl | rfl | rfl
  ·exact openB_int u3
  ·exact openB_str hL u9
  ·exact openE hL hB N)).mono ?_
 rintro z ⟨zs,rfl,h⟩
 match zs,h with
 | [z0,z1,z2],⟨⟨n,h0⟩,⟨s,h1,hs⟩,⟨b,h2,hb⟩,_⟩=>
   subst h0 h1 h2
   refine ⟨⟨n,s,b⟩,?_,hb⟩
   rw[encE_cells];rfl
theorem openWn (hL:LB L B0) (hB:B0<2^35) (N:Nat):OpenB L (N+3) enc Tryz.prog w 163 fun z=>∃ a:Whn,z=(encWn a).cells∧a.name.size≤B0∧a.acts.length≤B0∧GoodE a.cond∧∀ x∈a.acts,GoodE x.value:=by
 obtain ⟨fs,hu,hf⟩:=und_struct (T_ok 163 _ rfl) rfl
 have hk:=openB_slice (n:=6) (f:=encAc) (Φ:=fun a=>GoodE a.value) hL (und_slice (t:=161) (e:=256) rfl rfl) (by kernel_rfl) (by decide) (openAc (enc:=enc) (w:=w) hL hB N)
 refine (openB_struct hL hu [(0,9,1,pS B0),(1,42,4,pExp w),(5,161,1,_)] hf (by
  intro p hp
  simp only[List.mem_cons,List.not_mem_nil,or_false] at hp
  rcases hp with rfl | rfl | rfl<;>kernel_rfl) (by kernel_rfl) (by
  intro p hp
  simp only[List.mem_cons,List.not_mem_nil,or_false] at hp
  rcases hp with rfl | rfl | rfl
  ·exact openB_str hL u9
  ·exact openE hL hB _
  ·exact hk)).mono ?_
 rintro z ⟨zs,rfl,h⟩
 match zs,h with
 | [z0,z1,z2],⟨⟨s,h0,hs⟩,⟨a,h1,ha⟩,⟨l,h2,hl,hb⟩,_⟩=>
   subst h0 h1 h2
   refine ⟨⟨s,a,l⟩,?_,hs,hl,ha,hb⟩
   rw[encE_cells];rfl
theorem openVa (hL:LB L B0) (N:Nat):OpenB L (N+1) enc Tryz.prog w 83 fun z=>∃ v:Va,z=(encV v).cells∧v.name.size≤B0∧v.value.size≤B0∧v.start.size≤B0∧v.unit.size≤B0:=by
 obtain ⟨fs,hu,hf⟩:=und_struct (T_ok 83 _ rfl) rfl
 refine (openB_struct hL hu [(0,9,1,pS B0),(1,3,1,pI),(2,3,1,pI),(3,9,1,pS B0),(4,9,1,pS B0),(5,4,1,pB),(6,9,1,pS B0)] hf (by
  intro p hp
  simp only[List.mem_cons,List.not_mem_nil,or_false] at hp
  rcases hp with rfl | rfl | rfl | rfl | rfl | rfl | rfl<;>kernel_rfl) (by kernel_rfl) (by
  intro p hp
  simp only[List.mem_cons,List.not_mem_nil,or_false] at hp
  rcases hp with rfl | rfl | rfl | rfl | rfl | rfl | rfl
  ·exact openB_str hL u9
  ·exact openB_int u3
  ·exact openB_int u3
  ·exact openB_str hL u9
  ·exact openB_str hL u9
  ·exact openB_bool u4
  ·exact openB_str hL u9)).mono ?_
 rintro z ⟨zs,rfl,h⟩
 match zs,h with
 | [z0,z1,z2,z3,z4,z5,z6],⟨⟨a,h0,g0⟩,⟨b,h1⟩,⟨c,h2⟩,⟨d,h3,g3⟩,⟨e,h4,g4⟩,⟨f,h5⟩,⟨g,h6,g6⟩,_⟩=>
   subst h0 h1 h2 h3 h4 h5 h6
   exact ⟨⟨a,b,c,d,e,f,g⟩,rfl,g0,g3,g4,g6⟩
theorem openSy (hL:LB L B0) (hB:B0≤2^30) (N:Nat):OpenB L (N+5) enc Tryz.prog w 26 fun z=>∃ s:Sys,z=(encSy s).cells∧SzS s:=by
 obtain ⟨fs,hu,hf⟩:=und_struct (T_ok 26 _ rfl) rfl
 have hB':B0<2^35:=by omega
 have k1:=OpenB.low (openB_slice (n:=7) (f:=encV) hL (und_slice (t:=22) (e:=83) rfl rfl) (by kernel_rfl) (by decide) (openVa (enc:=enc) (w:=w) hL (N+2))) (N:=N+4) (by omega)
 have k2:=OpenB.low (openB_slice (n:=9) (f:=encQn) hL (und_slice (t:=23) (e:=44) rfl rfl) (by kernel_rfl) (by decide) (openQn (enc:=enc) (w:=w) hL hB' (N+2))) (N:=N+4) (by omega)
 have k3:=OpenB.low (openB_slice (n:=6) (f:=encWn) hL (und_slice (t:=24) (e:=163) rfl rfl) (by kernel_rfl) (by decide) (openWn (enc:=enc) (w:=w) hL hB' N)) (N:=N+4) (by omega)
 refine (openB_struct hL hu [(0,22,1,_),(1,23,1,_),(2,23,1,_),(3,24,1,_)] hf (by
  intro p hp
  simp only[List.mem_cons,List.not_mem_nil,or_false] at hp
  rcases hp with rfl | rfl | rfl | rfl<;>kernel_rfl) (by kernel_rfl) (by
  intro p hp
  simp only[List.mem_cons,List.not_mem_nil,or_false] at hp
  rcases hp with rfl | rfl | rfl | rfl
  ·exact k1
  ·exact k2
  ·exact k2
  ·exact k3)).mono ?_
 rintro z ⟨zs,rfl,h⟩
 match zs,h with
 | [z0,z1,z2,z3],⟨⟨vs,h0,l0,g0⟩,⟨qs,h1,l1,g1⟩,⟨ns,h2,l2,g2⟩,⟨ws,h3,l3,g3⟩,_⟩=>
   subst h0 h1 h2 h3
   refine ⟨⟨vs,qs,ns,ws⟩,rfl,⟨by simp only;omega,by simp only;omega,by simp only;omega,by simp only;omega,fun w hw=>?_,fun e he=>?_,fun v hv=>?_,fun q hq=>?_,fun q hq=>?_,fun w hw=>?_⟩⟩
   ·have:=(g3 w hw).2.1;omega
   ·unfold allF at he
    rcases List.mem_append.1 he with he | he
    ·rcases List.mem_append.1 he with he | he
     ·unfold sides at he
      obtain ⟨q,hq,he⟩:=List.mem_flatMap.1 he
      simp only[List.mem_cons,List.not_mem_nil,or_false] at he
      rcases he with rfl | rfl
      ·exact (g1 q hq).2.1
      ·exact (g1 q hq).2.2
     ·unfold sides at he
      obtain ⟨q,hq,he⟩:=List.mem_flatMap.1 he
      simp only[List.mem_cons,List.not_mem_nil,or_false] at he
      rcases he with rfl | rfl
      ·exact (g2 q hq).2.1
      ·exact (g2 q hq).2.2
    ·obtain ⟨x,hx,he⟩:=List.mem_flatMap.1 he
     unfold whenE at he
     rcases List.mem_cons.1 he with rfl | he
     ·exact (g3 x hx).2.2.1
     ·obtain ⟨a,ha,rfl⟩:=List.mem_map.1 he
      exact (g3 x hx).2.2.2 a ha
   ·have:=g0 v hv
    exact ⟨by omega,by omega,by omega,by omega⟩
   ·have:=(g1 q hq).1;omega
   ·have:=(g2 q hq).1;omega
   ·have:=(g3 w hw).1;omega
end
end Go.Proofs.YtlhdoekgipaihaaGreatDoor
namespace Go.Proofs.YtlhdoekgipaihaaGreatDoor
open Go Go.Fw Go.ChangeShapes Go.WideShapes Go.ChangeAt Go.RowKit
theorem own_knob:ownKnob Tryz.prog.godebug=none:=by kernel_rfl
theorem laid_out:laidOutB Tryz.prog=true:=by kernel_rfl
section
variable {H:Type}
theorem bulk1 (d:DataW H):1≤Rows.uptoBulk d:=by
 cases d with
 | lit l=>cases l<;>simp[Rows.uptoBulk]
 | _=>simp[Rows.uptoBulk]
theorem bulk_part {d:DataW H} {l:List (DataW H)} (h:d∈l):Rows.uptoBulk d≤Rows.uptoBulkAll l:=by
 induction l with
 | nil=>cases h
 | cons x r ih=>
   simp only[Rows.uptoBulkAll]
   cases List.mem_cons.1 h with
   | inl e=>subst e;omega
   | inr e=>have:=ih e;omega
theorem bulk_len (l:List (DataW H)):l.length≤Rows.uptoBulkAll l:=by
 induction l with
 | nil=>simp[Rows.uptoBulkAll]
 | cons x r ih=>have:=bulk1 x;simp only[Rows.uptoBulkAll,List.length_cons];omega
abbrev Blk (H:Type):DataW H→Prop:=fun d=>Rows.uptoBulk d≤1048576
theorem bulkLB:LB (Blk H) 1048576:=by
 refine ⟨fun e s h=>?_,fun p h d hd=>?_,fun s h=>?_⟩
 ·have h:Rows.uptoBulkAll e+Rows.uptoBulkAll s+1≤1048576:=by simpa [Blk,Rows.uptoBulk] using h
  refine ⟨by have:=bulk_len e;omega,fun d hd=>?_⟩
  have:=bulk_part hd
  show Rows.uptoBulk d≤1048576
  omega
 ·have h:Rows.uptoBulkAll p+1≤1048576:=by simpa [Blk,Rows.uptoBulk] using h
  have:=bulk_part hd
  show Rows.uptoBulk d≤1048576
  omega
 ·have h:s.length+1≤1048576:=by simpa [Blk,Rows.uptoBulk] using h
  omega
theorem small_all {l:List (DataW H)} (h:Rows.uptoSmall H l=true):∀ d∈l,Blk H d:=fun d hd=>by
 have h:Rows.uptoBulkAll l≤1048576:=by simpa [Rows.uptoSmall] using h
 exact Nat.le_trans (bulk_part hd) h
end
section
variable {H:Type} {enc:TypeId×Value→H} {w:World} {L:DataW H→Prop} {N t:Nat} {Ψ:List AV→Prop}
theorem open_agg (hO:OpenB L N enc Tryz.prog w t Ψ) {fuel:Nat} (hf:fuel≤N) {v:Value} {x:DataW H×List MemPlace} (hv:∃ cs,v=.agg cs) (h:DataW.trod enc Tryz.prog w 0 (fun _=>true) true fuel t v.cells.toList=some x) (hl:L x.1):∃ z,Ψ z∧VR KM.empty w NoN (.agg z) v:=by
 obtain ⟨z,h1,h2⟩:=hO fuel hf _ x h hl
 obtain ⟨cs,rfl⟩:=hv
 have e:(Value.agg cs).cells.toList=cs.toList:=by simp[Value.cells]
 rw[e] at h1
 refine ⟨z,h2,.agg _ cs (h1.len.trans (by simp)) (fun i h h'=>?_) (fun i h=>h1.pl _ (by simp))⟩
 have:=h1.rel i h (by simpa using h')
 rw[Array.getElem_toList] at this
 exact this
end
def flatD:Nat→DataW Unit→List Value
 | _,.lit (.int k n)=>[.int k n]
 | n+1,.agg ps=>ps.flatMap (flatD n)
 | _,_=>[]
def putT (d:DataW Unit):Obj→Obj
 | .cells _ t z=>.cells (flatD 3 d).toArray t z
 | o=>o
noncomputable def laidW (os:Os):World:=
 { World.holding Tryz.prog os ⟨#[],#[],[]⟩ with heap:=((World.holding Tryz.prog os ⟨#[],#[],[]⟩).heap.modify 1 (putT Rows.laid_unicode_utf8_first)).modify 2 (putT Rows.laid_unicode_utf8_acceptRanges) }
abbrev laidL:List (String×DataW Unit):=[("unicode/utf8.acceptRanges",Rows.laid_unicode_utf8_acceptRanges),("unicode/utf8.first",Rows.laid_unicode_utf8_first)]
theorem laid_met (os:Os) (args:Array Value):laidMet Tryz.prog laidL ((laidW os).forCall (fun _ _=>0) ⟨#[],args,[]⟩).memory:=
 laidMet_of_run' 8 (by kernel_rfl) (by kernel_rfl)
theorem maps_rowed:mapsRowed Tryz.prog=true:=by kernel_rfl
theorem stops_heard:Tryz.prog.stopsHeard=true:=by kernel_rfl
theorem may_enter:Tryz.prog.mayEnter=true:=by kernel_rfl
theorem lifts_final:(Rows.matchTopsUptoRow.lifted==Tryz.prog.liftsFinal)=true:=by kernel_rfl
theorem make_is:(Tryz.prog.make==some Rows.matchTopsUptoRow.make)=true:=by kernel_rfl
theorem looks0:false=Tryz.pinned.checked.prog.looks []:=by kernel_rfl
theorem main_is:Tryz.pinned.checked.prog.mainIs=some (Rows.matchTopsUptoCard.stood.harness.1,Rows.matchTopsUptoCard.stood.harness.2.toList):=by kernel_rfl
theorem plain_card {n:String} {k:FuncId} {g:Func} {ts:Array TypeId} (h1:Tryz.prog.funcNamed n=some k) (h2:Tryz.prog.funcs[k]?=some g) (h3:g.params=ts) (h4:ts.all (fun t=>!Tryz.prog.wantsStandIn t)=true)
  (f:FuncId) (fn:Func) (hf:Tryz.pinned.checked.prog.funcNamed n=some f) (hfn:Tryz.pinned.checked.prog.funcs[f]?=some fn) :
  false=Tryz.pinned.checked.prog.looks []∧∀ (j:Nat) t,fn.params[j]?=some t→Tryz.pinned.checked.prog.wantsStandIn t=false:=by
 obtain rfl:f=k:=Option.some.inj (hf.symm.trans h1)
 obtain rfl:fn=g:=Option.some.inj (hfn.symm.trans h2)
 refine ⟨looks0,fun j t ht=>?_⟩
 rw[h3] at ht
 have:=Array.all_eq_true'.1 h4 t (Array.mem_of_getElem? ht)
 have h5:Tryz.pinned.checked.prog.wantsStandIn t=Tryz.prog.wantsStandIn t:=rfl
 rw[h5]
 simpa using this
end Go.Proofs.YtlhdoekgipaihaaGreatDoor
