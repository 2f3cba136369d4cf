/- Part 52 of the proof. -/
import Derived.Test.YtlblbldolhiokaaGreatDoorNeed51
import Derived.KernelRfl
import Derived.Test.YtlblbldolhiokaaGreatDoorNeed46
import Derived.Test.YtlblbldolhiokaaGreatDoorNeed50
import Derived.Test.YtlblbldolhiokaaGreatDoorNeed48
import Derived.Test.YtlblbldolhiokaaGreatDoorRows
import Derived.Test.YtlblbldolhiokaaGreatDoorCards
import Derived.Test.YtlblbldolhiokaaGreatDoorTie
import Derived.ProofKit
import Derived.OpenShut
import Derived.Deep.DeepHandedRow
set_option linter.unusedVariables false
set_option linter.unusedSimpArgs false
set_option linter.unusedSectionVars false
set_option maxRecDepth 100000
set_option exponentiation.threshold 400
set_option maxHeartbeats 8000000
namespace Go.Proofs.YtlblbldolhiokaaGreatDoor
open Go Go.Fw
def opE (o:ByteArray) (l:List Ex):Ex:=.mk o ⟨#[]⟩ 0 l
def numE (t:ByteArray):Ex:=.mk oNum t 0 []
def refE (t:ByteArray) (n:Int):Ex:=.mk oVar t n []
def exS:Sys:=⟨[⟨⟨#[107]⟩,2,0,⟨#[50]⟩,⟨#[]⟩,false,⟨#[]⟩⟩,⟨⟨#[120]⟩,0,0,⟨#[]⟩,⟨#[49]⟩,true,⟨#[]⟩⟩],[⟨⟨#[101]⟩,refE ⟨#[120]⟩ 1,opE ⟨#[110,101,103]⟩ [opE ⟨#[109,117,108]⟩ [refE ⟨#[107]⟩ 0,refE ⟨#[120]⟩ 0]]⟩],[],[]⟩
def exT:List UInt8:=[118,97,114,32,107,32,112,97,114,97,109,32,110,117,109,98,101,114,32,118,97,108,117,101,61,50,10,118,97,114,32,120,32,99,111,110,116,105,110,117,111,117,115,32,110,117,109,98,101,114,32,115,116,97,114,116,61,49,32,102,105,120,101,100,10,101,113,32,101,32,64,120,58,39,32,110,101,103,40,109,117,108,40,64,107,59,64,120,41,41,10]
def J3X:EnvA:=⟨⟨#[51,47,50]⟩,false,[⟨⟨⟨#[120]⟩,0,false⟩,⟨#[48]⟩⟩]⟩
def ex1:Ex:=opE ⟨#[100,105,118]⟩ [numE ⟨#[49]⟩,refE ⟨#[120]⟩ 0]
def ex2:Ex:=opE ⟨#[105,102]⟩ [opE ⟨#[108,101,115,115]⟩ [refE ⟨#[120]⟩ 0,numE ⟨#[49]⟩],numE ⟨#[48]⟩,opE ⟨#[100,105,118]⟩ [numE ⟨#[49]⟩,refE ⟨#[120]⟩ 0]]
def ex3:Ex:=opE ⟨#[115,97,109,112,108,101]⟩ [numE ⟨#[48]⟩,numE ⟨#[49,47,50]⟩]
theorem JJX:J4M exS ex1 J3X=(⟨#[]⟩,12):=by kernel_rfl
theorem JJW:J4M exS ex2 J3X=(⟨#[48]⟩,0):=by kernel_rfl
theorem JJV:J4M exS ex3 J3X=(⟨#[116,114,117,101]⟩,0):=by kernel_rfl
def GdE (e:Ex):Prop:=SzE e∧TxE e
theorem J2V {o t:ByteArray} {n:Int} {l:List Ex} (h1:o.size≤100) (h2:t.size≤100) (h3:l.length≤100) (h:∀ e∈l,GdE e):GdE (.mk o t n l):=
 ⟨SzE.mk (by omega) (by omega) (by omega) fun k hk=>(h k hk).1,TxE.mk (by omega) fun k hk=>(h k hk).2⟩
theorem gd1:GdE ex1:=by
 refine J2V (by decide) (by decide) (by decide) ?_;simp only[List.forall_mem_cons,List.not_mem_nil,false_imp_iff,implies_true,and_true];exact ⟨J2V (by decide) (by decide) (by decide) (by simp),J2V (by decide) (by decide) (by decide) (by simp)⟩
theorem gd2:GdE ex2:=by
 refine J2V (by decide) (by decide) (by decide) ?_;simp only[List.forall_mem_cons,List.not_mem_nil,false_imp_iff,implies_true,and_true]
 refine ⟨J2V (by decide) (by decide) (by decide) ?_,J2V (by decide) (by decide) (by decide) (by simp),J2V (by decide) (by decide) (by decide) ?_⟩ <;>
  simp only[List.forall_mem_cons,List.not_mem_nil,false_imp_iff,implies_true,and_true] <;>
  exact ⟨J2V (by decide) (by decide) (by decide) (by simp),J2V (by decide) (by decide) (by decide) (by simp)⟩
theorem gd3:GdE ex3:=by
 refine J2V (by decide) (by decide) (by decide) ?_;simp only[List.forall_mem_cons,List.not_mem_nil,false_imp_iff,implies_true,and_true];exact ⟨J2V (by decide) (by decide) (by decide) (by simp),J2V (by decide) (by decide) (by decide) (by simp)⟩
theorem JBE:SzS exS:=by
 refine ⟨by decide,by decide,by decide,by decide,by simp[exS],?_,?_,?_,by decide⟩
 ·intro e he;simp only[exS,allF,J1U,List.flatMap_cons,List.flatMap_nil,List.append_nil,List.mem_cons,List.not_mem_nil,or_false] at he
  rcases he with rfl | rfl
  ·exact J2V (by decide) (by decide) (by decide) (by simp)
  ·refine J2V (by decide) (by decide) (by decide) ?_;simp only[List.forall_mem_cons,List.not_mem_nil,false_imp_iff,implies_true,and_true];refine J2V (by decide) (by decide) (by decide) ?_;simp only[List.forall_mem_cons,List.not_mem_nil,false_imp_iff,implies_true,and_true];exact ⟨J2V (by decide) (by decide) (by decide) (by simp),J2V (by decide) (by decide) (by decide) (by simp)⟩
 ·intro v hv;simp only[exS,List.mem_cons,List.not_mem_nil,or_false] at hv
  rcases hv with rfl | rfl<;>decide
 ·refine ⟨?_,by simp[exS],by simp[exS]⟩;intro q hq;simp only[exS,List.mem_cons,List.not_mem_nil,or_false] at hq;subst hq;decide
theorem JF7:J8s exS=(⟨exT.toArray⟩,0):=by kernel_rfl
theorem JE1:SzB J3X:=by
 refine ⟨by decide,by decide,fun b hb=>?_⟩;simp only[J3X,List.mem_cons,List.not_mem_nil,or_false] at hb;subst hb;decide
theorem JL0:PureCall Tryz.prog 103 [J0k exS] (.tup [encS ⟨exT.toArray⟩,encI 0]):=by
 have:=JJt exS JBE;rw[JF7] at this;exact this
theorem JKf:PureCall Tryz.prog 38 [J0k exS,encE ex1,J14 J3X] (.tup [encS ⟨#[]⟩,encI 12]):=by
 have:=J3w exS ex1 J3X JBE gd1.1 gd1.2 JE1;rw[JJX] at this;exact this
theorem JKe:PureCall Tryz.prog 38 [J0k exS,encE ex2,J14 J3X] (.tup [encS ⟨#[48]⟩,encI 0]):=by
 have:=J3w exS ex2 J3X JBE gd2.1 gd2.2 JE1;rw[JJW] at this;exact this
theorem JKd:PureCall Tryz.prog 38 [J0k exS,encE ex3,J14 J3X] (.tup [encS ⟨#[116,114,117,101]⟩,encI 0]):=by
 have:=J3w exS ex3 J3X JBE gd3.1 gd3.2 JE1;rw[JJV] at this;exact this
def tab2:Tab:=[(103,[J0k exS],.tup [encS ⟨exT.toArray⟩,encI 0]),(38,[J0k exS,encE ex1,J14 J3X],.tup [encS ⟨#[]⟩,encI 12]),
 (38,[J0k exS,encE ex2,J14 J3X],.tup [encS ⟨#[48]⟩,encI 0]),(38,[J0k exS,encE ex3,J14 J3X],.tup [encS ⟨#[116,114,117,101]⟩,encI 0])]
theorem JIy:TabOk XR.E.P tab2:=by
 refine ⟨?_⟩;unfold tab2;simp only[List.forall_mem_cons,List.not_mem_nil,false_imp_iff,implies_true,and_true];exact ⟨⟨c103,JL0,rfl⟩,⟨c38,JKf,rfl⟩,⟨c38,JKe,rfl⟩,⟨c38,JKd,rfl⟩⟩
theorem JDI:PureCall Tryz.prog 40 [] (encB true):=JCa J8U JIy (fuel:=100) (n:=10) (by kernel_rfl)
theorem JEd (u:U) (e:Ex):builtF e=true→OccE e u→0≤u.order∧u.order≤6:=by
 have kids:∀ ks:List Ex,(∀ k∈ks,OccE k u→0≤u.order∧u.order≤6)→OccL ks u→0≤u.order∧u.order≤6:=by
  intro ks
  induction ks with
  | nil=>intro _ h;unfold OccL at h;exact h.elim
  | cons k r ih=>
    intro hk h;unfold OccL at h
    rcases h with h | h
    ·exact hk k (by simp) h
    ·exact ih (fun x hx=>hk x (by simp[hx])) h
 induction e using J2X with
 | h e ih=>
   intro hb h;have hk:=(J0C hb).2
   cases e with
   | mk o t n ks=>
     unfold OccE at h
     rcases h with ⟨ho,rfl⟩ | h
     ·rw[J1G] at hb;simp only[Bool.and_eq_true] at hb;have hx:=hb.1.1.2;unfold textF at hx
      rcases ho with ho | ho
      ·rw[if_neg (show ¬ (Ex.mk o t n ks).op=oNum by show ¬ o=oNum;rw[ho];decide),if_pos (show (Ex.mk o t n ks).op=oVar from ho)] at hx;simp only[Bool.and_eq_true] at hx;exact ⟨of_decide_eq_true hx.1.2,of_decide_eq_true hx.2⟩
      ·rw[if_neg (show ¬ (Ex.mk o t n ks).op=oNum by show ¬ o=oNum;rw[ho];decide),if_neg (show ¬ (Ex.mk o t n ks).op=oVar by show ¬ o=oVar;rw[ho];decide),if_pos (show (Ex.mk o t n ks).op=oPre from ho)] at hx;simp only[Bool.and_eq_true] at hx;have:n=0:=of_decide_eq_true hx.2;subst this;exact ⟨Int.le_refl _,(by decide:(0:Int)≤6)⟩
     ·exact kids ks (fun k hk'=>ih k hk' (hk k hk')) h
theorem JGx (A:List U) (u:U):(putU A u).length≤A.length+1:=by
 unfold putU;split
 ·omega
 ·simp
mutual
theorem J8j:∀ (e:Ex) (A:List U),(J35 e A).length≤A.length+wtF e
 | .mk o t n ks,A=>by
   unfold J35 wtF;have h:=J8i ks (if o=oVar∨o=oPre then putU A ⟨t,n,decide (o=oPre)⟩ else A);split at h
   ·rename_i hc;rw[if_pos hc];have:=JGx A ⟨t,n,decide (o=oPre)⟩;omega
   ·rename_i hc;rw[if_neg hc];omega
theorem J8i:∀ (ks:List Ex) (A:List U),(J3K ks A).length≤A.length+wtL ks
 | [],A=>by unfold J3K wtL;omega
 | k::ks,A=>by
   unfold J3K wtL;have h1:=J8j k A;have h2:=J8i ks (J35 k A);omega
end
theorem JAR (e:Ex) (hb:builtF e=true) (hw:wtF e≤1000):PureCall Tryz.prog 122 [setU (J35 e [])] (JAj (usesR e [])):=by
 refine JG2 _ _ (J5a e [] List.nodup_nil) (fun u hu=>?_) (by have:=J8j e [];simp at this;omega) (J8o e [] List.Pairwise.nil) fun u=>?_
 ·rw[J5f] at hu
  rcases hu with h | h
  ·cases h
  ·exact JEd u e hb h
 ·rw[J5e,J5f]
theorem JL2 {b g e:Nat} {H:Hp} {A:List U} (hb:H b=some (g,⟨e,0,[setU A]⟩)):snap [b] H (.om b g)=setU A:=ownM hb
def bltF (e:Ex):Int:=if tooF e then 2 else if builtF e then 0 else 1
theorem JFr (e:Ex) (g:GdE e):PureCall Tryz.prog 120 [encE e] (encI (bltF e)):=by
 refine PC [] Tryz.func120 rfl (by rfl) rfl ?_;have h1:=J3I e g.1;have h2:=J8b e g.1 g.2;generalize hF:bltF e=F;unfold bltF at hF;generalize tooF e=a at *;generalize builtF e=b at *;rw[J02] at *;refine kWQ ?_;intros;refine CallP.flat [] _ c83 h1 rfl ?_
 cases a with
 | true=>
   refine kWQ ?_;intros;exact .of (by rw[← hF];rfl)
 | false=>
   refine kWQ ?_;intros;refine CallP.flat [] _ c123 h2 rfl ?_
   cases b with
   | true=>
     refine kWQ ?_;intros;exact .of (by rw[← hF];rfl)
   | false=>
     refine kWQ ?_;intros;exact .of (by rw[← hF];rfl)
theorem J57 (e:Ex):J4f e=if bltF e=0 then (usesR e [],0) else ([],bltF e):=by
 unfold J4f bltF;rw[← J4J];cases tooF e<;>cases builtF e<;>rfl
theorem JML (e:Ex) (g:GdE e):PureCall Tryz.prog 46 [encE e] (JKg (J4f e)):=by
 refine PC [11] Tryz.func46 rfl (by rfl) rfl ?_;have h1:=JFr e g;have u1:=JJr e g.1
 have hS:bltF e=0→PureCall Tryz.prog 122 [setU (J35 e [])] (JAj (usesR e [])):=fun h=>by
  unfold bltF at h
  cases ht:tooF e with
  | true=>rw[ht,if_pos rfl] at h;cases h
  | false=>
    rw[ht,if_neg (by decide)] at h
    cases hb:builtF e with
    | false=>rw[hb,if_neg (by decide)] at h;cases h
    | true=>exact JAR e hb (by have:=J5B ht;omega)
 rw[J57];generalize bltF e=bl at *;obtain ⟨A,hA⟩:∃ A,J35 e []=A:=⟨_,rfl⟩;rw[hA] at hS;generalize usesR e []=S at *;rw[J02] at *;refine kWQ ?_;intros;refine CallP.flat [] _ c120 h1 rfl ?_
 by_cases h0:bl=0
 case' neg=>
  rw[if_neg h0];refine kWQ ?_;intros;exact JFB (Le.nil 3) (Le.refl _)
 rw[if_pos h0];have hS:=hS h0;refine kWQ ?_;intros;refine CallP.frame 1000000 [(50,11)] rfl c121 (u1 [] _) rfl ⟨rfl,trivial⟩ ?_;rintro r0 h' ⟨rfl,rfl⟩;rw[hA];refine ⟨[(11,_,⟨169,0,[setU A]⟩),(1,_,⟨29,4,[.agg [encS e.op,encS e.text,encI e.order,.sl 4 (e.kids.map encE)]]⟩)],⟨rfl,rfl,trivial⟩,?_⟩;refine kWQ ?_;intros;refine J00 [11] _ c122 (J0S (congrArg (fun z=>[z]) (JL2 (e:=169) rfl)) hS) ?_;refine kWQ ?_;intros;exact .of rfl
theorem JFs {e:Ex} (h:bltF e=0):tooF e=false∧builtF e=true∧wtF e≤1000:=by
 unfold bltF at h
 cases ht:tooF e with
 | true=>rw[ht,if_pos rfl] at h;cases h
 | false=>
   rw[ht,if_neg (by decide)] at h
   cases hb:builtF e with
   | false=>rw[hb,if_neg (by decide)] at h;cases h
   | true=>exact ⟨rfl,rfl,by have:=J5B ht;omega⟩
structure SideOk (ks:List (ByteArray×Va)) (e:Ex):Prop where
 g:GdE e
 b:builtF e=true
 t:typeF ks e=(0,true)
 l:tooF e=false
theorem SideOk.w {ks:List (ByteArray×Va)} {e:Ex} (h:SideOk ks e):wtF e≤200:=J5B h.l
theorem J8C (b:Bd):J2G b=.agg [.val (.string b.use.name),.val (.int .i64 b.use.order),.val (.bool b.use.pre),encS b.value]:=rfl
def J4X (u:U):List Bd→Option ByteArray
 | []=>none
 | b::r=>if b.use=u then some b.value else J4X u r
theorem J6T {β:Type} {u:U}:∀ {l:List (U×β)},(∀ x∈l,u≠x.1)→J0p l u=none
 | [],_=>rfl
 | x::l,h=>by
   unfold J0p;rw[if_neg (h x (by simp))];exact J6T fun y hy=>h y (by simp[hy])
theorem J7X {β:Type} (k:U) (v:β) (u:U):∀ l:List (U×β),J0p (putV l k v) u=if u=k then some v else J0p l u
 | []=>rfl
 | x :: l=>by
   unfold putV
   by_cases h:k=x.1
   ·rw[if_pos h];unfold J0p;simp only;rw[← h];split<;>rfl
   ·rw[if_neg h];unfold J0p;rw[J7X k v u l]
    by_cases h2:u=x.1
    ·rw[if_pos h2,if_pos h2,if_neg (fun e=>h (by rw[← e,h2]))]
    ·rw[if_neg h2,if_neg h2]
theorem JEV {β:Type} {k:U} {v:β}:∀ {l:List (U×β)} {x:U×β},x∈putV l k v→x.1=k∨∃ y∈l,y.1=x.1
 | [],x,h=>by simp only[putV,List.mem_cons,List.not_mem_nil,or_false] at h;subst h;exact .inl rfl
 | y :: l,x,h=>by
   unfold putV at h;split at h
   ·rename_i e
    rcases List.mem_cons.1 h with rfl | h
    ·exact .inl e.symm
    ·exact .inr ⟨x,by simp[h],rfl⟩
   ·rcases List.mem_cons.1 h with rfl | h
    ·exact .inr ⟨x,by simp,rfl⟩
    ·rcases JEV h with h | ⟨z,h1,h2⟩
     ·exact .inl h
     ·exact .inr ⟨z,by simp[h1],h2⟩
theorem J78 (q u:U):J1k (some q) u=!J0L q u:=J5o q u
theorem J76 {p:Option U} {b:Bd} {bs:List Bd} {l r:List (U×Vl)} (h:J1J p (b::bs) l=some r):∃ v,valV b.value=some v∧fitF b.use=true∧J1k p b.use=false∧J1J (some b.use) bs (putV l b.use v)=some r:=by
 unfold J1J at h;split at h
 ·cases h
 ·rename_i v hv;split at h
  ·cases h
  ·rename_i hn;simp only[Bool.or_eq_true,Bool.not_eq_true',not_or,Bool.not_eq_false,Bool.not_eq_true] at hn;exact ⟨v,hv,hn.1,hn.2,h⟩
theorem J5Y:∀ {bs:List Bd} {q:U} {l r:List (U×Vl)},J1J (some q) bs l=some r→∀ b∈bs,J0L q b.use=true
 | [],q,l,r,_,b,hb=>by cases hb
 | c::bs,q,l,r,h,b,hb=>by
   obtain ⟨v,_,_,h3,h4⟩:=J76 h;rw[J78,Bool.not_eq_false'] at h3
   rcases List.mem_cons.1 hb with rfl | hb
   ·exact h3
   ·exact J2w _ _ _ h3 (J5Y h4 b hb)
theorem J3A (u:U):∀ {bs:List Bd} {p:Option U} {l r:List (U×Vl)},J1J p bs l=some r→(∀ b∈bs,∀ x∈l,b.use≠x.1)→J0p r u=match J0p l u with
  | some v=>some v
  | none=>(J4X u bs).bind valV
 | [],p,l,r,h,_=>by
   unfold J1J at h;cases h;cases J0p l u<;>rfl
 | b :: bs,p,l,r,h,hd=>by
   obtain ⟨v,h1,_,_,h4⟩:=J76 h
   have ih:=J3A u h4 (fun c hc x hx=>by
    rcases JEV hx with e | ⟨y,hy,e⟩
    ·rw[e];intro e2;have:=J5Y h4 c hc;rw[e2,J9o] at this;cases this
    ·rw[← e]
     exact hd c (by simp[hc]) y hy)
   rw[ih,J7X,J4X]
   by_cases hu:u=b.use
   ·rw[if_pos hu,if_pos hu.symm,J6T (l:=l) (fun x hx=>by rw[hu];exact hd b (by simp) x hx)];simp only;rw[Option.bind_some,h1]
   ·rw[if_neg hu,if_neg (fun e=>hu e.symm)]
def J2y:Option U→List Bd→Bool
 | _,[]=>true
 | p,b::r=>(valV b.value).isSome&&fitF b.use&&!J1k p b.use&&J2y (some b.use) r
theorem J4K:∀ (bs:List Bd) (p:Option U) (l:List (U×Vl)),(J1J p bs l).isSome=J2y p bs
 | [],p,l=>rfl
 | b :: r,p,l=>by
   unfold J1J J2y
   cases hv:valV b.value with
   | none=>rfl
   | some v=>
     cases hf:fitF b.use with
     | false=>rfl
     | true=>
       cases hn:J1k p b.use with
       | true=>rfl
       | false=>exact J4K r _ _
def lenV (v:Va):Nat:=v.name.size+v.value.size+v.start.size+v.unit.size
def JCz:List Va→Nat
 | []=>0
 | v::r=>lenV v+JCz r
def greatS (s:Sys):Bool:=decide (40000<JCz s.vars)||decide (200<s.vars.length)||decide (200<s.eqs.length)||decide (200<s.inits.length)||decide (200<s.whens.length)
theorem JGC (s:Sys) (hs:SzS s) (hl:s.vars.length≤2^20):PureCall Tryz.prog 22 [J0k s] (encB (greatS s)):=by
 refine PC [] Tryz.func22 rfl (by rfl) rfl ?_;have ht:=hs.t;generalize hF:greatS s=F;unfold greatS at hF;obtain ⟨vs,qs,ns,ws⟩:=s;simp only at hl ht hF;unfold J0k;simp only;have mv:=@List.length_map _ _ vs encV;have mq:=@List.length_map _ _ qs J0o;have mn:=@List.length_map _ _ ns J0o;have mw:=@List.length_map _ _ ws J17;obtain ⟨S,hS⟩:∃ z,JCz vs=z:=⟨_,rfl⟩;rw[hS] at hF;refine kWQ ?_;intros
 refine LoopP.intro (fun k σ H=>∃ gs i,∃ t:Nat,k=vs.length-i∧i≤vs.length∧t≤i*2^38∧t+JCz (vs.drop i)=S ∧
   σ=fr [(1,.op 1 gs 0 0),(3,encI t),(4,encI i)] ∧
   H=hp [(1,gs,⟨26,4,[.agg [.sl 7 (vs.map encV),.sl 9 (qs.map J0o),.sl 9 (ns.map J0o),.sl 6 (ws.map J17)]]⟩)]) ?_ ?_
 ·exact .intro (W.of ⟨_,_,0,0,rfl,Nat.zero_le _,Nat.zero_le _,by rw[Nat.zero_add];exact hS,rfl,rfl⟩ ⟨rfl,rfl,rfl,trivial⟩ ⟨rfl,trivial⟩)
 rintro k σ H ⟨gs,i,t,rfl,hi,htt,hT,rfl,rfl⟩
 rcases Nat.lt_or_ge i vs.length with h1 | h1
 ·rw[List.drop_eq_getElem_cons h1] at hT;have hvi:=ht _ (List.getElem_mem h1);unfold JCz lenV at hT;obtain ⟨q1,q2,q3,q4⟩:=hvi;refine kWQ ?_;intros
  refine .intro <| W.of ⟨_,by omega,gs,i+1,t+(vs[i].name.size+vs[i].value.size+vs[i].start.size+vs[i].unit.size),rfl,h1,by omega,by omega,rfl,rfl⟩ ⟨rfl,?_,rfl,trivial⟩ ⟨rfl,trivial⟩
  exact congrArg encI (by push_cast;omega)
 ·rw[List.drop_eq_nil_of_le h1] at hT;unfold JCz at hT;rw[Nat.add_zero] at hT;subst hT;refine kWO ?_;intros;refine CondP.dec (fun c1=>?_) (fun c1=>?_)<;>refine kW ?_
  ·refine kQ ?_;intros;have e:F=true:=by rw[← hF];simp only[Bool.or_eq_true,decide_eq_true_eq];omega
   exact .of (by rw[e];rfl)
  refine kQ ?_;intros;refine CondP.dec (fun c2=>?_) (fun c2=>?_)<;>refine kW ?_
  ·refine kQ ?_;intros;have e:F=true:=by rw[← hF];simp only[Bool.or_eq_true,decide_eq_true_eq];omega
   exact .of (by rw[e];rfl)
  refine kQ ?_;intros;refine CondP.dec (fun c3=>?_) (fun c3=>?_)<;>refine kW ?_
  ·refine kQ ?_;intros;have e:F=true:=by rw[← hF];simp only[Bool.or_eq_true,decide_eq_true_eq];omega
   exact .of (by rw[e];rfl)
  refine kQ ?_;intros;refine CondP.dec (fun c4=>?_) (fun c4=>?_)<;>refine kW ?_
  ·refine kQ ?_;intros;have e:F=true:=by rw[← hF];simp only[Bool.or_eq_true,decide_eq_true_eq];omega
   exact .of (by rw[e];rfl)
  refine kQ ?_;intros;refine .of ?_;rw[decide_eq_false (by omega),decide_eq_false (by omega),decide_eq_false (by omega),decide_eq_false (by omega)] at hF;simp only[Bool.false_or] at hF;rw[← hF];exact congrArg encB (decide_eq_decide.2 (by omega))
theorem JCp {e:EnvA} {ev:Ev} (h:openS e=.ok ev):openF e=some ev:=by
 unfold openS at h;split at h
 ·cases h
 ·split at h
  ·cases h
  ·rename_i ev' h';cases h;exact h'
def manyF (e:EnvA):Bool:=decide (300<e.binds.length)&&decide (e.binds.length≤1000)
theorem JJG (e:EnvA) (hl:e.binds.length≤2^60):PureCall Tryz.prog 39 [J14 e] (encB (manyF e)):=by
 refine PC [] Tryz.func39 rfl (by rfl) rfl ?_;obtain ⟨tm,ini,bs⟩:=e;simp only at hl;generalize hF:manyF ⟨tm,ini,bs⟩=F;unfold manyF at hF;simp only at hF;unfold J14;have hml:=@List.length_map _ _ bs J2G;refine kWQ ?_;intros;refine CondP.dec (fun h1=>?_) (fun h1=>?_)<;>refine kW ?_
 ·refine kQ ?_;intros
  have h2:300<bs.length:=by first | omega | (rw[List.length_map] at h1;omega)
  rw[decide_eq_true h2,Bool.true_and] at hF;refine .of ?_;rw[← hF];show AV.val (.bool (decide _))=AV.val (.bool (decide _))
  congr 2
  exact decide_eq_decide.2 (by first | omega | (rw[List.length_map];omega))
 ·refine kQ ?_;intros
  have h2:¬ 300<bs.length:=by first | omega | (rw[List.length_map] at h1;omega)
  rw[decide_eq_false h2,Bool.false_and] at hF;exact .of (by rw[← hF];rfl)
theorem JLE {S:List Nat} {H:Hp} {k:Nat} {L:List AV} {n:Nat} {xs:List Bd} (h:L=xs.map J2G) (hn:n=xs.length):AV.sl 4 (((L.drop 0).take n).map (J0V (J04 S H k)))=.sl 4 (xs.map J2G):=by
 subst h;rw[J1T _ _ _ _ hn fun x=>by cases k<;>rfl]
theorem JGh (e:Ex):(J4f e).1.length≤1000:=by
 rw[J57];split
 ·rename_i h;obtain ⟨h1,h2,h3⟩:=JFs h;have:=J8h e [];have h4:=JEB e (by rw[← J4J];exact h1)
  have:szF e≤200:=by
   have hl:J5q e=false:=by rw[← J4J];exact h1
   unfold J5q at hl;simp only[Bool.or_eq_false_iff,decide_eq_false_iff_not] at hl;omega
  simp at *;omega
 ·simp
theorem JAu {b c:Bool} {X Y:Prop} (e:b=c) (h:CondP c X Y):CondP b X Y:=e ▸ h
theorem JD5 {ks:List (ByteArray×Va)} {ev ev':Ev} (ht:ev.time=ev'.time) (hi:ev.init=ev'.init) (e:Ex):(∀ u,OccE e u→J0p ev.vals u=J0p ev'.vals u)→evalF ks ev e=evalF ks ev' e:=by
 have occ_kid:∀ (ks:List Ex) (k:Ex),k∈ks→∀ u,OccE k u→OccL ks u:=by
  intro ks
  induction ks with
  | nil=>intro k hk;cases hk
  | cons x r ih=>
    intro k hk u hu;unfold OccL
    rcases List.mem_cons.1 hk with rfl | hk
    ·exact .inl hu
    ·exact .inr (ih k hk u hu)
 induction e using J2X with
 | h e ih=>
   intro h
   have hk:e.kids.map (evalF ks ev)=e.kids.map (evalF ks ev'):=by
    refine List.map_congr_left fun k hk=>ih k hk fun u hu=>h u ?_
    cases e with
    | mk o t n es=>unfold OccE;exact .inr (occ_kid es k hk u hu)
   have hw:∀ o vs,wayF ev o vs=wayF ev' o vs:=fun o vs=>by unfold wayF;rw[ht,hi]
   rw[J1h,J1h,hk];unfold J4h
   by_cases h1:e.op=oNum
   ·rw[if_pos h1,if_pos h1]
   ·rw[if_neg h1,if_neg h1]
    by_cases h2:e.op=oVar∨e.op=oPre
    ·rw[if_pos h2,if_pos h2];unfold J2B;rw[h ⟨e.text,e.order,decide (e.op=oPre)⟩ (by cases e with | mk o t n es=>unfold OccE;exact .inl ⟨h2,rfl⟩)]
    ·rw[if_neg h2,if_neg h2];split
     ·rfl
     ·cases seqR (e.kids.map (evalF ks ev')) with
      | error c=>rfl
      | ok vs=>exact hw _ _
def J81 (e:EnvA) (l:List U):EnvA:=⟨e.time,e.init,e.binds.filter fun b=>decide (b.use∈l)⟩
theorem J2U (f:Bd→Bool):∀ (bs:List Bd) (p p':Option U),J2y p bs=true→(∀ u,J1k p u=false→J1k p' u=false)→J2y p' (bs.filter f)=true
 | [],_,_,_,_=>rfl
 | b :: r,p,p',h,hp=>by
   unfold J2y at h;simp only[Bool.and_eq_true,Bool.not_eq_true'] at h;obtain ⟨⟨⟨h1,h2⟩,h3⟩,h4⟩:=h;rw[List.filter_cons];split
   ·unfold J2y;rw[h1,h2,hp _ h3,J2U f r _ _ h4 fun _ h=>h];rfl
   ·refine J2U f r _ _ h4 fun u hu=>?_;have h5:=hp _ h3
    cases p' with
    | none=>rfl
    | some q=>
      rw[J78,Bool.not_eq_false'] at *;exact J2w _ _ _ h5 hu
theorem J3W (l:List U) (u:U) (hu:u∈l):∀ bs:List Bd,J4X u (bs.filter fun b=>decide (b.use∈l))=J4X u bs
 | []=>rfl
 | b :: r=>by
   have ih:=J3W l u hu r;rw[List.filter_cons]
   by_cases h:b.use=u
   ·rw[if_pos (by rw[h];exact decide_eq_true hu)];unfold J4X;rw[if_pos h,if_pos h]
   ·split
    ·unfold J4X;rw[if_neg h,if_neg h,ih]
    ·rw[ih,J4X,if_neg h]
theorem JEb {e:EnvA} {ev:Ev} (l:List U) (h:openS e=.ok ev):∃ ev',openS (J81 e l)=.ok ev'∧ev.time=ev'.time∧ev.init=ev'.init∧∀ u∈l,J0p ev.vals u=J0p ev'.vals u:=by
 have hl:¬ 1000<e.binds.length:=by
  intro h1;unfold openS at h;rw[if_pos h1] at h;cases h
 have ho:=JCp h;unfold openF at ho;split at ho
 ·rename_i ht
  cases h0:J1J none e.binds [] with
  | none=>rw[h0] at ho;cases ho
  | some l0=>
    rw[h0] at ho;cases ho;have hg:J2y none e.binds=true:=by rw[← J4K e.binds none [],h0];rfl
    have hg':=J2U (fun b=>decide (b.use∈l)) e.binds none none hg fun _ h=>h;rw[← J4K _ none [],Option.isSome_iff_exists] at hg';obtain ⟨l1,hl1⟩:=hg';refine ⟨⟨numV e.time,e.init,l1⟩,?_,rfl,rfl,fun u hu=>?_⟩
    ·have hl2:¬ 1000<(J81 e l).binds.length:=by
      have:=List.length_filter_le (fun b:Bd=>decide (b.use∈l)) e.binds;show ¬ 1000<(e.binds.filter fun b=>decide (b.use∈l)).length
      omega
     unfold openS;rw[if_neg hl2]
     have:openF (J81 e l)=some ⟨numV e.time,e.init,l1⟩:=by
      unfold openF;rw[if_pos (show (J0B (J81 e l).time.data.toList).2=true from ht)];show (J1J none (e.binds.filter fun b=>decide (b.use∈l)) []).map _=_
      rw[hl1];rfl
     rw[this]
    ·have a1:=J3A u h0 (fun b hb x hx=>by cases hx);have a2:=J3A u hl1 (fun b hb x hx=>by cases hx);rw[J3W l u hu] at a2;exact a1.trans a2.symm
 ·cases ho
theorem JCs {s:Sys} {x:Ex} {e:EnvA} (h0:(J4f x).2=0) (h1:¬ (J4M s x e).2=1) (h2:¬ (J4M s x e).2=2):J4M s x (J81 e (J4f x).1)=J4M s x e:=by
 have hu:(J4f x).1=usesR x []:=by
  rw[J57] at h0 ⊢;split at h0
  ·rename_i h;rw[if_pos h]
  ·rename_i h;exact absurd h0 h
 unfold J4M at *
 by_cases ht:(typeS s x).2=0
 ·rw[if_neg (fun h=>h ht)] at *;rw[if_neg (fun h=>h ht)]
  cases ho:openS e with
  | error c=>
    rw[ho] at h1 h2
    rcases J90 ho with rfl | rfl
    ·exact absurd rfl h1
    ·exact absurd rfl h2
  | ok ev=>
    obtain ⟨ev',q1,q2,q3,q4⟩:=JEb (J4f x).1 ho;rw[q1];simp only;rw[JD5 q2 q3 x fun u hu'=>q4 u (by rw[hu,J5e];exact .inr hu')]
 ·rw[if_pos ht,if_pos ht]
theorem JH5 (l:List U) (u:U) (hl:l.length≤2^60):PureCall Tryz.prog 47 [JAj l,encU u] (encB (decide (u∈l))):=by
 refine PC [] Tryz.func47 rfl (by rfl) rfl ?_;have hml:=@List.length_map _ _ l encU;generalize hF:decide (u∈l)=F;unfold JAj encU;refine kWQ ?_;intros;refine LoopP.intro (fun k σ H=>∃ g i,k=l.length-i∧i≤l.length∧decide (u∈l.drop i)=F∧σ=fr [(0,.sl 3 (l.map encU)),(3,.op 3 g 0 0),(5,encI i)]∧H=hp [(3,g,⟨54,3,[.agg [.val (.string u.name),.val (.int .i64 u.order),.val (.bool u.pre)]]⟩)]) ?_ ?_
 ·exact .intro <| W.of ⟨_,_,0,rfl,Nat.zero_le _,hF,rfl,rfl⟩ ⟨rfl,rfl,rfl,trivial⟩ ⟨rfl,trivial⟩
 clear hF;rintro k σ H ⟨g,i,rfl,hi,hF,rfl,rfl⟩
 rcases Nat.lt_or_ge i l.length with h9 | h9
 ·rw[List.drop_eq_getElem_cons h9] at hF;obtain ⟨v,hvv⟩:∃ v,l[i]=v:=⟨_,rfl⟩;rw[hvv] at hF;refine kWQ ?_;intros;simp only[hvv];unfold encU;refine kQ ?_;intros;refine Need.intro eqst54 ?_
  try simp only[hvv]
  refine kWQ ?_;intros;refine JAu (eqU v u) ?_;refine CondP.dec (fun c1=>?_) (fun c1=>?_)<;>refine kW ?_
  ·subst c1;refine kQ ?_;intros;refine .of ?_;rw[← hF,decide_eq_true (List.mem_cons_self ..)];rfl
  ·refine kQ ?_;intros
   refine .intro <| W.of ⟨_,by omega,g,i+1,rfl,h9,?_,rfl,rfl⟩ ⟨rfl,rfl,rfl,trivial⟩ ⟨rfl,trivial⟩
   rw[← hF];refine decide_eq_decide.2 ⟨fun h=>by simp[h],fun h=>?_⟩
   rcases List.mem_cons.1 h with e | e
   ·exact absurd e.symm c1
   ·exact e
 ·obtain rfl:i=l.length:=by omega
  rw[List.drop_eq_nil_of_le (Nat.le_refl _)] at hF;refine kWQ ?_;intros;exact .of (by rw[← hF];rfl)
theorem JCW {S:List Nat} {H:Hp} {n b g off len:Nat} {B:Blk} (hS:b∈S) (hb:H b=some (g,B)) (hl:off+len≤B.xs.length):J04 S H (n+1) (.own b g off len)=.sl B.n (((B.xs.drop off).take len).map (J0V (J04 S H n))):=by
 simp only[J04,if_pos hS,hb,true_and,if_pos hl]
theorem JJ1 {b g:Nat} {H:Hp} {tm:ByteArray} {ini:Bool} {l:List Bd} (hb:H b=some (g,⟨82,4,l.map J2G⟩)):snap [b] H (.agg [encS tm,encB ini,.own b g 0 l.length])=.agg [encS tm,encB ini,.sl 4 (l.map J2G)]:=by
 show AV.agg [encS tm,encB ini,J04 [b] H 3 (.own b g 0 l.length)]=_
 rw[JCW (by simp) hb (by simp),JLE rfl rfl]
theorem J6W (ha:PureCall Tryz.prog 40 [] (encB true)) (s:Sys) (hs:SzS s) (x:Ex) (gx:GdE x) (e:EnvA) (he:SzB e):PureCall Tryz.prog 11 [J0k s,encE x,J14 e] (encB true):=by
 refine PC [73] Tryz.func11 rfl (by rfl) rfl ?_;have hg:=JGC s hs hs.v20;have hm:=JJG e (Nat.le_trans he.l (by decide));have h1:=JML x gx;have h2:=J3w s x e hs gx.1 gx.2 he;have hle:SzB (J81 e (J4f x).1):=⟨he.t,Nat.le_trans (List.length_filter_le ..) he.l,fun b hb=>he.b b ((List.mem_filter.1 hb).1)⟩;have h3:=J3w s x (J81 e (J4f x).1) hs gx.1 gx.2 hle;have hlaw:=fun a b c=>@JCs s x e a b c;have hN:=fun u=>JH5 (J4f x).1 u;have hlen:=he.l;have hus:=JGh x;generalize greatS s=gr at *;generalize manyF e=mf at *;obtain ⟨lo,hlo⟩:∃ lo,J4f x=lo:=⟨_,rfl⟩;rw[hlo] at h1 h3 hlaw hN hus;obtain ⟨l,f0⟩:=lo;obtain ⟨r,hr⟩:∃ r,J4M s x e=r:=⟨_,rfl⟩;rw[hr] at h2 hlaw;obtain ⟨r',hr'⟩:∃ r',J4M s x (J81 e l)=r':=⟨_,rfl⟩;simp only at h1 h3 hlaw hN hus;rw[hr'] at h3 hlaw;clear hlo hr hr' hle;obtain ⟨a,f⟩:=r;obtain ⟨vs,qs,ns,ws⟩:=s;obtain ⟨tm,ini,bs⟩:=e;simp only at hlaw hlen;rw[J02] at *;unfold J0k J14 JKh J81 JKg at *;simp only at *;clear hs gx he;have hmb:=@List.length_map _ _ bs J2G;(refine kWQ ?_;repeat intro γ);refine CallP.flat [] _ c22 hg rfl ?_
 cases gr with
 | true=>
   (refine kWQ ?_;repeat intro γ);refine CallP.flat [] _ c40 ha rfl ?_;(refine kWQ ?_;repeat intro γ);exact .of rfl
 | false=>
 (refine kWQ ?_;repeat intro γ);refine CallP.flat [] _ c39 hm rfl ?_
 cases mf with
 | true=>
   (refine kWQ ?_;repeat intro γ);refine CallP.flat [] _ c40 ha rfl ?_;(refine kWQ ?_;repeat intro γ);exact .of rfl
 | false=>
 (refine kWQ ?_;repeat intro γ);refine J00 [] _ c46 h1 ?_;(refine kWQ ?_;repeat intro γ);refine CallP.flat [] _ c38 h2 rfl ?_
 have hcs:¬ f0=0∨(f0=0∧f=1)∨(f0=0∧¬ f=1∧f=2)∨(f0=0∧¬ f=1∧¬ f=2):=by
  by_cases a1:f0=0
  ·by_cases a2:f=1
   ·exact .inr (.inl ⟨a1,a2⟩)
   ·by_cases a3:f=2
    ·exact .inr (.inr (.inl ⟨a1,a2,a3⟩))
    ·exact .inr (.inr (.inr ⟨a1,a2,a3⟩))
  ·exact .inl a1
 rcases hcs with h4 | ⟨h4,h5⟩ | ⟨h4,h5,h6⟩ | ⟨h4,h5,h6⟩
 ·(refine kWQ ?_;repeat intro γ);refine CallP.flat [] _ c40 ha rfl ?_;(refine kWQ ?_;repeat intro γ);exact .of rfl
 ·(refine kWQ ?_;repeat intro γ);refine CallP.flat [] _ c40 ha rfl ?_;(refine kWQ ?_;repeat intro γ);exact .of rfl
 ·(refine kWQ ?_;repeat intro γ);refine CallP.flat [] _ c40 ha rfl ?_;(refine kWQ ?_;repeat intro γ);exact .of rfl
 obtain rfl:=hlaw h4 h5 h6;clear hlaw h1 h2;(refine kWQ ?_;repeat intro γ)
 refine LoopP.intro (fun k σ H=>∃ g3 g4 g5 g11 gl i,∃ o:List Bd,k=bs.length-i∧i≤bs.length∧o.length≤i∧(o++(bs.drop i).filter fun b=>decide (b.use∈l))=bs.filter (fun b=>decide (b.use∈l)) ∧
  σ=fr [(3,.op 3 g3 0 0),(4,.op 4 g4 0 0),(5,.op 5 g5 0 0),(7,JAj l),(9,encS a),(10,encI f),(11,.op 11 g11 0 0),(12,encI i)] ∧
  H = hp [(3,g3,⟨26,4,[.agg [.sl 7 (vs.map encV),.sl 9 (qs.map J0o),.sl 9 (ns.map J0o),.sl 6 (ws.map J17)]]⟩),(4,g4,⟨29,4,[.agg [encS x.op,encS x.text,encI x.order,.sl 4 (x.kids.map encE)]]⟩),(5,g5,⟨33,3,[.agg [encS tm,encB ini,.sl 4 (bs.map J2G)]]⟩),
    (11,g11,⟨33,3,[.agg [encS tm,encB ini,.own 73 gl 0 o.length]]⟩),(73,gl,⟨82,4,o.map J2G⟩)]) ?_ ?_
 ·refine .intro <| JIY 11 _ 0 2 73 82 4 ⟨33,3,[.agg [encS tm,encB ini,.val (.slice none 0 0)]]⟩ [encS tm,encB ini,.val (.slice none 0 0)] rfl rfl rfl rfl (by decide) fun gl=>?_
  exact W.of ⟨_,_,_,_,_,gl,0,[],rfl,Nat.zero_le _,Nat.le_refl _,rfl,rfl,rfl⟩ ⟨rfl,rfl,rfl,rfl,rfl,rfl,rfl,rfl,trivial⟩ ⟨rfl,rfl,rfl,rfl,rfl,trivial⟩
 rintro k σ H ⟨g3,g4,g5,g11,gl,i,o,rfl,hi,hol,hacc,rfl,rfl⟩;have hmo:=@List.length_map _ _ o J2G
 rcases Nat.lt_or_ge i bs.length with h9 | h9
 ·rw[List.drop_eq_getElem_cons h9,List.filter_cons] at hacc;obtain ⟨b,hbb⟩:∃ b,bs[i]=b:=⟨_,rfl⟩;rw[hbb] at hacc;have hn:=hN b.use (by omega);unfold encU at hn
  cases hin:decide (b.use∈l) with
  | true=>
    rw[hin] at hn hacc;rw[if_pos rfl] at hacc;replace hacc:((o++[b])++(bs.drop (i+1)).filter fun b=>decide (b.use∈l))=bs.filter (fun b=>decide (b.use∈l)):=by rw[List.append_assoc];exact hacc
    (refine kWQ ?_;repeat intro γ)
    (repeat (simp only[hbb,J8C];(refine kQ ?_;repeat intro γ)))
    refine CallP.flat [] _ c47 hn rfl ?_;(refine kWQ ?_;repeat intro γ)
    (repeat (simp only[hbb,J8C];(refine kQ ?_;repeat intro γ)))
    refine .intro <| W.of ⟨_,by omega,g3,g4,g5,_,γ 8,i+1,o++[b],rfl,h9,by simp;omega,hacc,rfl,rfl⟩ ⟨rfl,rfl,rfl,rfl,rfl,rfl,rfl,rfl,trivial⟩ ⟨rfl,rfl,rfl,?_,?_,trivial⟩
    ·have e2:(o++[b]).length=o.length+1:=by simp
     rw[e2];rfl
    ·have e1:(o++[b]).map J2G=o.map J2G++[J2G b]:=by rw[List.map_append];rfl
     exact Eq.trans rfl (congrArg (fun z=>some (γ 8,(⟨82,4,z⟩:Blk))) e1.symm)
  | false=>
    rw[hin] at hn hacc;rw[if_neg (by decide)] at hacc;(refine kWQ ?_;repeat intro γ)
    (repeat (simp only[hbb,J8C];(refine kQ ?_;repeat intro γ)))
    refine CallP.flat [] _ c47 hn rfl ?_;(refine kWQ ?_;repeat intro γ)
    exact .intro <| W.of ⟨_,by omega,g3,g4,g5,g11,gl,i+1,o,rfl,h9,by omega,hacc,rfl,rfl⟩ ⟨rfl,rfl,rfl,rfl,rfl,rfl,rfl,rfl,trivial⟩ ⟨rfl,rfl,rfl,rfl,rfl,trivial⟩
 ·obtain rfl:i=bs.length:=by omega
  rw[List.drop_eq_nil_of_le (Nat.le_refl _),List.filter_nil,List.append_nil] at hacc;rw[← hacc] at h3;(refine kWQ ?_;repeat intro γ);refine CallP.flat [73] _ c38 (J0S (congrArg (fun z=>[_,_,z]) (JJ1 rfl)) h3) rfl ?_;(refine kWQ ?_;repeat intro γ)
  (repeat (simp only[beq_self_eq_true,decide_true];(refine kQ ?_;repeat intro γ)))
  refine CallP.flat [] _ c40 ha rfl ?_;(refine kWQ ?_;repeat intro γ)
  (repeat (simp only[beq_self_eq_true,decide_true];(refine kQ ?_;repeat intro γ)))
  exact .of rfl
theorem OpenB.low {H:Type} {L:DataW H→Prop} {N M:Nat} {enc:TypeId×Value→H} {P:Program} {w:World} {t:Nat} {Ψ:List AV→Prop} (h:OpenB L M enc P w t Ψ) (hn:N≤M):OpenB L N enc P w t Ψ:=fun fuel hf=>h fuel (Nat.le_trans hf hn)
theorem J1n {t e:Nat} {d:Fw.TD} (hd:T t=some d) (hk:d.kind=.slice e):Tryz.prog.underlying t=some (.slice e):=by
 obtain ⟨u,hu,hr⟩:=(J0R (J3q _ _ hd)).und;rw[hk] at hr;cases u<;>simp[kdOf] at hr
 subst hr;exact hu
theorem u3:Tryz.prog.underlying 3=some (.int .i64):=by kernel_rfl
theorem u4:Tryz.prog.underlying 4=some .bool:=by kernel_rfl
theorem u9:Tryz.prog.underlying 9=some .string:=by kernel_rfl
section
variable {H:Type} {enc:TypeId×Value→H} {w:World} {L:DataW H→Prop} {B0:Nat}
abbrev pS (B0:Nat):List AV→Prop:=fun z=>∃ s:ByteArray,z=[AV.val (.string s)]∧s.size≤B0
abbrev pI:List AV→Prop:=fun z=>∃ n:Int,z=[AV.val (.int .i64 n)]
abbrev pB:List AV→Prop:=fun z=>∃ b:Bool,z=[AV.val (.bool b)]
theorem JLA (hL:LB L B0) (N:Nat):OpenB L (N+1) enc Tryz.prog w 54 fun z=>∃ u:U,z=(encU u).cells∧u.name.size≤B0:=by
 obtain ⟨fs,hu,hf⟩:=J0O (J3q 54 _ rfl) rfl
 refine (J0T hL hu [(0,9,1,pS B0),(1,3,1,pI),(2,4,1,pB)] hf (by
  intro p hp;simp only[List.mem_cons,List.not_mem_nil,or_false] at hp
  rcases hp with rfl | rfl | rfl<;>kernel_rfl) (by kernel_rfl) (by
  intro p hp;simp only[List.mem_cons,List.not_mem_nil,or_false] at hp
  rcases hp with rfl | rfl | rfl
  ·exact J0c hL u9
  ·exact J2S u3
  ·exact J4F u4)).mono ?_
 rintro z ⟨zs,rfl,h⟩
 match zs,h with
 | [z0,z1,z2],⟨⟨s,h0,hs⟩,⟨n,h1⟩,⟨b,h2⟩,_⟩=>
   subst h0 h1 h2;exact ⟨⟨s,n,b⟩,rfl,hs⟩
def JA7 (e:Ex):Prop:=SzE e∧TxE e
abbrev pExp (w:World):List AV→Prop:=fun z=>∃ e:Ex,z=(encE e).cells∧JA7 e
theorem JCq (hL:LB L B0) (hB:B0<2^21):∀ N:Nat,OpenB L N enc Tryz.prog w 29 (pExp w)
 | 0=>by
   intro fuel hf cs x h _;obtain ⟨fs,hu,_⟩:=J0O (J3q 29 _ rfl) rfl;obtain ⟨_,n,hn,_⟩:=DataW.trod_struct hu h;omega
 | N + 1=>by
   obtain ⟨fs,hu,hf⟩:=J0O (J3q 29 _ rfl) rfl;have hk:=OpenB.low (J1A (n:=4) (f:=encE) (Φ:=JA7) hL (J1n (t:=27) (e:=29) rfl rfl) (by kernel_rfl) (by decide) (JCq hL hB N)) (Nat.le_succ N)
   refine (J0T hL hu [(0,9,1,pS B0),(1,9,1,pS B0),(2,3,1,pI),(3,27,1,_)] hf (by
    intro p hp;simp only[List.mem_cons,List.not_mem_nil,or_false] at hp
    rcases hp with rfl | rfl | rfl | rfl<;>kernel_rfl) (by kernel_rfl) (by
    intro p hp;simp only[List.mem_cons,List.not_mem_nil,or_false] at hp
    rcases hp with rfl | rfl | rfl | rfl
    ·exact J0c hL u9
    ·exact J0c hL u9
    ·exact J2S u3
    ·exact hk)).mono ?_
   rintro z ⟨zs,rfl,h⟩
   match zs,h with
   | [z0,z1,z2,z3],⟨⟨o,h0,ho⟩,⟨t,h1,ht⟩,⟨n,h2⟩,⟨l,h3,hl,hg⟩,_⟩=>
     subst h0 h1 h2 h3;refine ⟨.mk o t n l,?_,SzE.mk (by omega) (by omega) (by omega) fun k hk=>(hg k hk).1,TxE.mk (by omega) fun k hk=>(hg k hk).2⟩;rw[J02];rfl
theorem JKR (hL:LB L B0) (hB:B0<2^21) (N:Nat):OpenB L (N+1) enc Tryz.prog w 58 fun z=>∃ q:Eqn,z=(J0o q).cells∧q.name.size≤B0∧JA7 q.left∧JA7 q.right:=by
 obtain ⟨fs,hu,hf⟩:=J0O (J3q 58 _ rfl) rfl
 refine (J0T hL hu [(0,9,1,pS B0),(1,29,4,pExp w),(5,29,4,pExp w)] hf (by
  intro p hp;simp only[List.mem_cons,List.not_mem_nil,or_false] at hp
  rcases hp with rfl | rfl | rfl<;>kernel_rfl) (by kernel_rfl) (by
  intro p hp;simp only[List.mem_cons,List.not_mem_nil,or_false] at hp
  rcases hp with rfl | rfl | rfl
  ·exact J0c hL u9
  ·exact JCq hL hB N
  ·exact JCq hL hB N)).mono ?_
 rintro z ⟨zs,rfl,h⟩
 match zs,h with
 | [z0,z1,z2],⟨⟨s,h0,hs⟩,⟨a,h1,ha⟩,⟨b,h2,hb⟩,_⟩=>
   subst h0 h1 h2;refine ⟨⟨s,a,b⟩,?_,hs,ha,hb⟩;rw[J0G,J0G];rfl
theorem JKT (hL:LB L B0) (hB:B0<2^21) (N:Nat):OpenB L (N+1) enc Tryz.prog w 260 fun z=>∃ a:Ac,z=(J9N a).cells∧JA7 a.value:=by
 obtain ⟨fs,hu,hf⟩:=J0O (J3q 260 _ rfl) rfl
 refine (J0T hL hu [(0,3,1,pI),(1,9,1,pS B0),(2,29,4,pExp w)] hf (by
  intro p hp;simp only[List.mem_cons,List.not_mem_nil,or_false] at hp
  rcases hp with rfl | rfl | rfl<;>kernel_rfl) (by kernel_rfl) (by
  intro p hp;simp only[List.mem_cons,List.not_mem_nil,or_false] at hp
  rcases hp with rfl | rfl | rfl
  ·exact J2S u3
  ·exact J0c hL u9
  ·exact JCq hL hB N)).mono ?_
 rintro z ⟨zs,rfl,h⟩
 match zs,h with
 | [z0,z1,z2],⟨⟨n,h0⟩,⟨s,h1,hs⟩,⟨b,h2,hb⟩,_⟩=>
   subst h0 h1 h2;refine ⟨⟨n,s,b⟩,?_,hb⟩;rw[J0G];rfl
theorem JKO (hL:LB L B0) (hB:B0<2^21) (N:Nat):OpenB L (N+3) enc Tryz.prog w 228 fun z=>∃ a:Whn,z=(J17 a).cells∧a.name.size≤B0∧a.acts.length≤B0∧JA7 a.cond∧∀ x∈a.acts,JA7 x.value:=by
 obtain ⟨fs,hu,hf⟩:=J0O (J3q 228 _ rfl) rfl;have hk:=J1A (n:=6) (f:=J9N) (Φ:=fun a=>JA7 a.value) hL (J1n (t:=226) (e:=260) rfl rfl) (by kernel_rfl) (by decide) (JKT (enc:=enc) (w:=w) hL hB N)
 refine (J0T hL hu [(0,9,1,pS B0),(1,29,4,pExp w),(5,226,1,_)] hf (by
  intro p hp;simp only[List.mem_cons,List.not_mem_nil,or_false] at hp
  rcases hp with rfl | rfl | rfl<;>kernel_rfl) (by kernel_rfl) (by
  intro p hp;simp only[List.mem_cons,List.not_mem_nil,or_false] at hp
  rcases hp with rfl | rfl | rfl
  ·exact J0c hL u9
  ·exact JCq hL hB _
  ·exact hk)).mono ?_
 rintro z ⟨zs,rfl,h⟩
 match zs,h with
 | [z0,z1,z2],⟨⟨s,h0,hs⟩,⟨a,h1,ha⟩,⟨l,h2,hl,hb⟩,_⟩=>
   subst h0 h1 h2;refine ⟨⟨s,a,l⟩,?_,hs,hl,ha,hb⟩;rw[J0G];rfl
theorem JKP (hL:LB L B0) (N:Nat):OpenB L (N+1) enc Tryz.prog w 89 fun z=>∃ v:Va,z=(encV v).cells∧v.name.size≤B0∧v.value.size≤B0∧v.start.size≤B0∧v.unit.size≤B0:=by
 obtain ⟨fs,hu,hf⟩:=J0O (J3q 89 _ rfl) rfl
 refine (J0T hL hu [(0,9,1,pS B0),(1,3,1,pI),(2,3,1,pI),(3,9,1,pS B0),(4,9,1,pS B0),(5,4,1,pB),(6,9,1,pS B0)] hf (by
  intro p hp;simp only[List.mem_cons,List.not_mem_nil,or_false] at hp
  rcases hp with rfl | rfl | rfl | rfl | rfl | rfl | rfl<;>kernel_rfl) (by kernel_rfl) (by
  intro p hp;simp only[List.mem_cons,List.not_mem_nil,or_false] at hp
  rcases hp with rfl | rfl | rfl | rfl | rfl | rfl | rfl
  ·exact J0c hL u9
  ·exact J2S u3
  ·exact J2S u3
  ·exact J0c hL u9
  ·exact J0c hL u9
  ·exact J4F u4
  ·exact J0c hL u9)).mono ?_
 rintro z ⟨zs,rfl,h⟩
 match zs,h with
 | [z0,z1,z2,z3,z4,z5,z6],⟨⟨a,h0,g0⟩,⟨b,h1⟩,⟨c,h2⟩,⟨d,h3,g3⟩,⟨e,h4,g4⟩,⟨f,h5⟩,⟨g,h6,g6⟩,_⟩=>
   subst h0 h1 h2 h3 h4 h5 h6;exact ⟨⟨a,b,c,d,e,f,g⟩,rfl,g0,g3,g4,g6⟩
theorem JKQ (hL:LB L B0) (hB:B0≤2^20) (N:Nat):OpenB L (N+5) enc Tryz.prog w 26 fun z=>∃ s:Sys,z=(J0k s).cells∧SzS s:=by
 obtain ⟨fs,hu,hf⟩:=J0O (J3q 26 _ rfl) rfl;have hB':B0<2^21:=by omega
 have k1:=OpenB.low (J1A (n:=7) (f:=encV) hL (J1n (t:=22) (e:=89) rfl rfl) (by kernel_rfl) (by decide) (JKP (enc:=enc) (w:=w) hL (N+2))) (N:=N+4) (by omega);have k2:=OpenB.low (J1A (n:=9) (f:=J0o) hL (J1n (t:=23) (e:=58) rfl rfl) (by kernel_rfl) (by decide) (JKR (enc:=enc) (w:=w) hL hB' (N+2))) (N:=N+4) (by omega);have k3:=OpenB.low (J1A (n:=6) (f:=J17) hL (J1n (t:=24) (e:=228) rfl rfl) (by kernel_rfl) (by decide) (JKO (enc:=enc) (w:=w) hL hB' N)) (N:=N+4) (by omega)
 refine (J0T hL hu [(0,22,1,_),(1,23,1,_),(2,23,1,_),(3,24,1,_)] hf (by
  intro p hp;simp only[List.mem_cons,List.not_mem_nil,or_false] at hp
  rcases hp with rfl | rfl | rfl | rfl<;>kernel_rfl) (by kernel_rfl) (by
  intro p hp;simp only[List.mem_cons,List.not_mem_nil,or_false] at hp
  rcases hp with rfl | rfl | rfl | rfl
  ·exact k1
  ·exact k2
  ·exact k2
  ·exact k3)).mono ?_
 rintro z ⟨zs,rfl,h⟩
 match zs,h with
 | [z0,z1,z2,z3],⟨⟨vs,h0,l0,g0⟩,⟨qs,h1,l1,g1⟩,⟨ns,h2,l2,g2⟩,⟨ws,h3,l3,g3⟩,_⟩=>
   subst h0 h1 h2 h3;refine ⟨⟨vs,qs,ns,ws⟩,rfl,⟨by simp only;omega,by simp only;omega,by simp only;omega,by simp only;omega,fun w hw=>?_,fun e he=>?_,fun v hv=>?_,⟨fun q hq=>?_,fun q hq=>?_,fun w hw=>?_⟩,by simp only;omega⟩⟩
   ·have:=(g3 w hw).2.1;omega
   ·unfold allF at he
    rcases List.mem_append.1 he with he | he
    ·rcases List.mem_append.1 he with he | he
     ·unfold J1U at he;obtain ⟨q,hq,he⟩:=List.mem_flatMap.1 he;simp only[List.mem_cons,List.not_mem_nil,or_false] at he
      rcases he with rfl | rfl
      ·exact (g1 q hq).2.1
      ·exact (g1 q hq).2.2
     ·unfold J1U at he;obtain ⟨q,hq,he⟩:=List.mem_flatMap.1 he;simp only[List.mem_cons,List.not_mem_nil,or_false] at he
      rcases he with rfl | rfl
      ·exact (g2 q hq).2.1
      ·exact (g2 q hq).2.2
    ·obtain ⟨x,hx,he⟩:=List.mem_flatMap.1 he;unfold J54 at he
     rcases List.mem_cons.1 he with rfl | he
     ·exact (g3 x hx).2.2.1
     ·obtain ⟨a,ha,rfl⟩:=List.mem_map.1 he;exact (g3 x hx).2.2.2 a ha
   ·have:=g0 v hv;exact ⟨by omega,by omega,by omega,by omega⟩
   ·have:=(g1 q hq).1;omega
   ·have:=(g2 q hq).1;omega
   ·have:=(g3 w hw).1;omega
end
theorem JFv (e:Ex):AV.agg (encE e).cells=encE e:=by rw[J0G];rfl
section
variable {H:Type} {enc:TypeId×Value→H} {w:World} {L:DataW H→Prop} {B0:Nat}
theorem JKS (hL:LB L B0) (N:Nat):OpenB L (N+2) enc Tryz.prog w 82 fun z=>∃ b:Bd,z=(J2G b).cells∧b.use.name.size≤B0∧b.value.size≤B0:=by
 obtain ⟨fs,hu,hf⟩:=J0O (J3q 82 _ rfl) rfl
 refine (J0T hL hu [(0,54,3,_),(3,9,1,pS B0)] hf (by
  intro p hp;simp only[List.mem_cons,List.not_mem_nil,or_false] at hp
  rcases hp with rfl | rfl<;>kernel_rfl) (by kernel_rfl) (by
  intro p hp;simp only[List.mem_cons,List.not_mem_nil,or_false] at hp
  rcases hp with rfl | rfl
  ·exact JLA hL N
  ·exact J0c hL u9)).mono ?_
 rintro z ⟨zs,rfl,h⟩
 match zs,h with
 | [z0,z1],⟨⟨u,h0,hs⟩,⟨v,h1,hv⟩,_⟩=>
   subst h0 h1;exact ⟨⟨u,v⟩,rfl,hs,hv⟩
theorem JJB (hL:LB L B0) (hB:B0≤2^20) (N:Nat):OpenB L (N+4) enc Tryz.prog w 33 fun z=>∃ e:EnvA,z=(J14 e).cells∧SzB e:=by
 obtain ⟨fs,hu,hf⟩:=J0O (J3q 33 _ rfl) rfl;have k:=J1A (n:=4) (f:=J2G) hL (J1n (t:=31) (e:=82) rfl rfl) (by kernel_rfl) (by decide) (JKS (enc:=enc) (w:=w) hL N)
 refine (J0T hL hu [(0,9,1,pS B0),(1,4,1,pB),(2,31,1,_)] hf (by
  intro p hp;simp only[List.mem_cons,List.not_mem_nil,or_false] at hp
  rcases hp with rfl | rfl | rfl<;>kernel_rfl) (by kernel_rfl) (by
  intro p hp;simp only[List.mem_cons,List.not_mem_nil,or_false] at hp
  rcases hp with rfl | rfl | rfl
  ·exact J0c hL u9
  ·exact J4F u4
  ·exact k)).mono ?_
 rintro z ⟨zs,rfl,h⟩
 match zs,h with
 | [z0,z1,z2],⟨⟨t,h0,ht⟩,⟨b,h1⟩,⟨l,h2,hl,hg⟩,_⟩=>
   subst h0 h1 h2
   exact ⟨⟨t,b,l⟩,rfl,by simp only;omega,by simp only;omega,fun x hx=>by
    have:=hg x hx
    constructor<;>omega⟩
end
end Go.Proofs.YtlblbldolhiokaaGreatDoor
namespace Go.Proofs.YtlblbldolhiokaaGreatDoor
open Go Go.Fw Go.ChangeShapes Go.WideShapes Go.ChangeAt Go.RowKit
theorem JH2:ownKnob Tryz.prog.godebug=none:=by kernel_rfl
theorem J4o:laidOutB Tryz.prog=true:=by kernel_rfl
section
variable {H:Type}
theorem JLI (d:DataW H):1≤Rows.uptoBulk d:=by
 cases d with
 | lit l=>cases l<;>simp[Rows.uptoBulk]
 | _=>simp[Rows.uptoBulk]
theorem J6R {d:DataW H} {l:List (DataW H)} (h:d∈l):Rows.uptoBulk d≤Rows.uptoBulkAll l:=by
 induction l with
 | nil=>cases h
 | cons x r ih=>
   simp only[Rows.uptoBulkAll]
   cases List.mem_cons.1 h with
   | inl e=>subst e;omega
   | inr e=>have:=ih e;omega
theorem JHr (l:List (DataW H)):l.length≤Rows.uptoBulkAll l:=by
 induction l with
 | nil=>simp[Rows.uptoBulkAll]
 | cons x r ih=>have:=JLI x;simp only[Rows.uptoBulkAll,List.length_cons];omega
abbrev Blk (H:Type):DataW H→Prop:=fun d=>Rows.uptoBulk d≤1048576
theorem JFq:LB (Blk H) 1048576:=by
 refine ⟨fun e s h=>?_,fun p h d hd=>?_,fun s h=>?_⟩
 ·have h:Rows.uptoBulkAll e+Rows.uptoBulkAll s+1≤1048576:=by simpa [Blk,Rows.uptoBulk] using h
  refine ⟨by have:=JHr e;omega,fun d hd=>?_⟩;have:=J6R hd;show Rows.uptoBulk d≤1048576
  omega
 ·have h:Rows.uptoBulkAll p+1≤1048576:=by simpa [Blk,Rows.uptoBulk] using h
  have:=J6R hd;show Rows.uptoBulk d≤1048576
  omega
 ·have h:s.length+1≤1048576:=by simpa [Blk,Rows.uptoBulk] using h
  omega
theorem JEA {l:List (DataW H)} (h:Rows.uptoSmall H l=true):∀ d∈l,Blk H d:=fun d hd=>by
 have h:Rows.uptoBulkAll l≤1048576:=by simpa [Rows.uptoSmall] using h
 exact Nat.le_trans (J6R hd) h
end
section
variable {H:Type} {enc:TypeId×Value→H} {w:World} {L:DataW H→Prop} {N t:Nat} {Ψ:List AV→Prop}
theorem J7u (hO:OpenB L N enc Tryz.prog w t Ψ) {fuel:Nat} (hf:fuel≤N) {v:Value} {x:DataW H×List MemPlace} (hv:∃ cs,v=.agg cs) (h:DataW.trod enc Tryz.prog w 0 (fun _=>true) true fuel t v.cells.toList=some x) (hl:L x.1):∃ z,Ψ z∧VR KM.empty w NoN (.agg z) v:=by
 obtain ⟨z,h1,h2⟩:=hO fuel hf _ x h hl;obtain ⟨cs,rfl⟩:=hv;have e:(Value.agg cs).cells.toList=cs.toList:=by simp[Value.cells]
 rw[e] at h1;refine ⟨z,h2,.agg _ cs (h1.len.trans (by simp)) (fun i h h'=>?_) (fun i h=>h1.pl _ (by simp))⟩;have:=h1.rel i h (by simpa using h');rw[Array.getElem_toList] at this;exact this
end
def flatD:Nat→DataW Unit→List Value
 | _,.lit (.int k n)=>[.int k n]
 | n+1,.agg ps=>ps.flatMap (flatD n)
 | _,_=>[]
def putT (d:DataW Unit):Obj→Obj
 | .cells _ t z=>.cells (flatD 3 d).toArray t z
 | o=>o
noncomputable def laidW (os:Os):World:=
 { World.holding Tryz.prog os ⟨#[],#[],[]⟩ with heap:=((World.holding Tryz.prog os ⟨#[],#[],[]⟩).heap.modify 1 (putT Rows.laid_unicode_utf8_first)).modify 2 (putT Rows.laid_unicode_utf8_acceptRanges) }
abbrev laidL:List (String×DataW Unit):=[("unicode/utf8.acceptRanges",Rows.laid_unicode_utf8_acceptRanges),("unicode/utf8.first",Rows.laid_unicode_utf8_first)]
theorem JHD (os:Os) (args:Array Value):laidMet Tryz.prog laidL ((laidW os).forCall (fun _ _=>0) ⟨#[],args,[]⟩).memory:=
 laidMet_of_run' 8 (by kernel_rfl) (by kernel_rfl)
theorem JCt:mapsRowed Tryz.prog=true:=by kernel_rfl
theorem JAQ:Tryz.prog.stopsHeard=true:=by kernel_rfl
theorem JEk:Tryz.prog.mayEnter=true:=by kernel_rfl
theorem JAd:(Rows.systemHoldsUptoRow.lifted==Tryz.prog.liftsFinal)=true:=by kernel_rfl
theorem JJH:(Tryz.prog.make==some Rows.systemHoldsUptoRow.make)=true:=by kernel_rfl
theorem JKU:false=Tryz.pinned.checked.prog.looks []:=by kernel_rfl
theorem JJI:Tryz.pinned.checked.prog.mainIs=some (Rows.systemHoldsUptoCard.stood.harness.1,Rows.systemHoldsUptoCard.stood.harness.2.toList):=by kernel_rfl
theorem JCm {n:String} {k:FuncId} {g:Func} {ts:Array TypeId} (h1:Tryz.prog.funcNamed n=some k) (h2:Tryz.prog.funcs[k]?=some g) (h3:g.params=ts) (h4:ts.all (fun t=>!Tryz.prog.wantsStandIn t)=true)
  (f:FuncId) (fn:Func) (hf:Tryz.pinned.checked.prog.funcNamed n=some f) (hfn:Tryz.pinned.checked.prog.funcs[f]?=some fn) :
  false=Tryz.pinned.checked.prog.looks []∧∀ (j:Nat) t,fn.params[j]?=some t→Tryz.pinned.checked.prog.wantsStandIn t=false:=by
 obtain rfl:f=k:=Option.some.inj (hf.symm.trans h1);obtain rfl:fn=g:=Option.some.inj (hfn.symm.trans h2);refine ⟨JKU,fun j t ht=>?_⟩;rw[h3] at ht;have:=Array.all_eq_true'.1 h4 t (Array.mem_of_getElem? ht);have h5:Tryz.pinned.checked.prog.wantsStandIn t=Tryz.prog.wantsStandIn t:=rfl;rw[h5]
 simpa using this
end Go.Proofs.YtlblbldolhiokaaGreatDoor
