/- Part 52 of the proof. -/
import Derived.Test.YtlblbldolhiokaaGreatDoorBoun51
import Derived.KernelRfl
import Derived.Test.YtlblbldolhiokaaGreatDoorBoun46
import Derived.Test.YtlblbldolhiokaaGreatDoorBoun50
import Derived.Test.YtlblbldolhiokaaGreatDoorBoun48
import Derived.Test.YtlblbldolhiokaaGreatDoorRows
import Derived.Test.YtlblbldolhiokaaGreatDoorCards
import Derived.Test.YtlblbldolhiokaaGreatDoorTie
import Derived.ProofKit
import Derived.OpenShut
import Derived.Deep.DeepHandedRow
set_option linter.unusedVariables false
set_option linter.unusedSimpArgs false
set_option linter.unusedSectionVars false
set_option maxRecDepth 100000
set_option exponentiation.threshold 400
set_option maxHeartbeats 8000000
namespace Go.Proofs.YtlblbldolhiokaaGreatDoor
open Go Go.Fw
def opE (o:ByteArray)(l:List Ex):Ex:=.mk o ⟨#[]⟩ 0 l
def numE (t:ByteArray):Ex:=.mk oNum t 0 []
def refE (t:ByteArray)(n:Int):Ex:=.mk oVar t n []
def exS:Sys:=⟨[⟨⟨#[107]⟩,2,0,⟨#[50]⟩,⟨#[]⟩,false,⟨#[]⟩⟩,⟨⟨#[120]⟩,0,0,⟨#[]⟩,⟨#[49]⟩,true,⟨#[]⟩⟩],[⟨⟨#[101]⟩,refE ⟨#[120]⟩ 1,opE ⟨#[110,101,103]⟩ [opE ⟨#[109,117,108]⟩ [refE ⟨#[107]⟩ 0,refE ⟨#[120]⟩ 0]]⟩],[],[]⟩
def exT:List UInt8:=[118,97,114,32,107,32,112,97,114,97,109,32,110,117,109,98,101,114,32,118,97,108,117,101,61,50,10,118,97,114,32,120,32,99,111,110,116,105,110,117,111,117,115,32,110,117,109,98,101,114,32,115,116,97,114,116,61,49,32,102,105,120,101,100,10,101,113,32,101,32,64,120,58,39,32,110,101,103,40,109,117,108,40,64,107,59,64,120,41,41,10]
def J3a:EnvA:=⟨⟨#[51,47,50]⟩,false,[⟨⟨⟨#[120]⟩,0,false⟩,⟨#[48]⟩⟩]⟩
def ex1:Ex:=opE ⟨#[100,105,118]⟩ [numE ⟨#[49]⟩,refE ⟨#[120]⟩ 0]
def ex2:Ex:=opE ⟨#[105,102]⟩ [opE ⟨#[108,101,115,115]⟩ [refE ⟨#[120]⟩ 0,numE ⟨#[49]⟩],numE ⟨#[48]⟩,opE ⟨#[100,105,118]⟩ [numE ⟨#[49]⟩,refE ⟨#[120]⟩ 0]]
def ex3:Ex:=opE ⟨#[115,97,109,112,108,101]⟩ [numE ⟨#[48]⟩,numE ⟨#[49,47,50]⟩]
theorem JK9:J31 exS ex1 J3a=(⟨#[]⟩,12):=by kernel_rfl
theorem JK8:J31 exS ex2 J3a=(⟨#[48]⟩,0):=by kernel_rfl
theorem JK7:J31 exS ex3 J3a=(⟨#[116,114,117,101]⟩,0):=by kernel_rfl
def GdE (e:Ex):Prop:=SzE e∧TxE e
theorem J2b {o t:ByteArray}{n:Int}{l:List Ex}(h1:o.size≤100)(h2:t.size≤100)(h3:l.length≤100)(h:∀ e∈l,GdE e):GdE (.mk o t n l):=
 ⟨SzE.mk (by omega) (by omega) (by omega) fun k hk=>(h k hk).1,TxE.mk (by omega) fun k hk=>(h k hk).2⟩
theorem gd1:GdE ex1:=by
 refine J2b (by decide) (by decide) (by decide) ?_;simp only[List.forall_mem_cons,List.not_mem_nil,false_imp_iff,implies_true,and_true];exact ⟨J2b (by decide) (by decide) (by decide) (by simp),J2b (by decide) (by decide) (by decide) (by simp)⟩
theorem gd2:GdE ex2:=by
 refine J2b (by decide) (by decide) (by decide) ?_;simp only[List.forall_mem_cons,List.not_mem_nil,false_imp_iff,implies_true,and_true]
 refine ⟨J2b (by decide) (by decide) (by decide) ?_,J2b (by decide) (by decide) (by decide) (by simp),J2b (by decide) (by decide) (by decide) ?_⟩ <;>
  simp only[List.forall_mem_cons,List.not_mem_nil,false_imp_iff,implies_true,and_true] <;>
  exact ⟨J2b (by decide) (by decide) (by decide) (by simp),J2b (by decide) (by decide) (by decide) (by simp)⟩
theorem gd3:GdE ex3:=by
 refine J2b (by decide) (by decide) (by decide) ?_;simp only[List.forall_mem_cons,List.not_mem_nil,false_imp_iff,implies_true,and_true];exact ⟨J2b (by decide) (by decide) (by decide) (by simp),J2b (by decide) (by decide) (by decide) (by simp)⟩
theorem JBb:SzS exS:=by
 refine ⟨by decide,by decide,by decide,by decide,by simp[exS],?_,?_,?_,by decide⟩
 ·intro e he;simp only[exS,allF,J1X,List.flatMap_cons,List.flatMap_nil,List.append_nil,List.mem_cons,List.not_mem_nil,or_false] at he
  rcases he with rfl|rfl
  ·exact J2b (by decide) (by decide) (by decide) (by simp)
  ·refine J2b (by decide) (by decide) (by decide) ?_;simp only[List.forall_mem_cons,List.not_mem_nil,false_imp_iff,implies_true,and_true];refine J2b (by decide) (by decide) (by decide) ?_;simp only[List.forall_mem_cons,List.not_mem_nil,false_imp_iff,implies_true,and_true];exact ⟨J2b (by decide) (by decide) (by decide) (by simp),J2b (by decide) (by decide) (by decide) (by simp)⟩
 ·intro v hv;simp only[exS,List.mem_cons,List.not_mem_nil,or_false] at hv
  rcases hv with rfl|rfl<;>decide
 ·refine ⟨?_,by simp[exS],by simp[exS]⟩;intro q hq;simp only[exS,List.mem_cons,List.not_mem_nil,or_false] at hq;subst hq;decide
theorem JFe:J9C exS=(⟨exT.toArray⟩,0):=by kernel_rfl
theorem JEW:SzB J3a:=by
 refine ⟨by decide,by decide,fun b hb=>?_⟩;simp only[J3a,List.mem_cons,List.not_mem_nil,or_false] at hb;subst hb;decide
theorem JLb:PX 103 [J0h exS] (.tup [encS ⟨exT.toArray⟩,encI 0]):=by
 have:=JKW exS JBb;rw[JFe] at this;exact this
theorem JLG:PX 38 [J0h exS,encE ex1,J0e J3a] (.tup [encS ⟨#[]⟩,encI 12]):=by
 have:=J57 exS ex1 J3a JBb gd1.1 gd1.2 JEW;rw[JK9] at this;exact this
theorem JLF:PX 38 [J0h exS,encE ex2,J0e J3a] (.tup [encS ⟨#[48]⟩,encI 0]):=by
 have:=J57 exS ex2 J3a JBb gd2.1 gd2.2 JEW;rw[JK8] at this;exact this
theorem JLE:PX 38 [J0h exS,encE ex3,J0e J3a] (.tup [encS ⟨#[116,114,117,101]⟩,encI 0]):=by
 have:=J57 exS ex3 J3a JBb gd3.1 gd3.2 JEW;rw[JK7] at this;exact this
def tab2:Tab:=[(103,[J0h exS],.tup [encS ⟨exT.toArray⟩,encI 0]),(38,[J0h exS,encE ex1,J0e J3a],.tup [encS ⟨#[]⟩,encI 12]),
 (38,[J0h exS,encE ex2,J0e J3a],.tup [encS ⟨#[48]⟩,encI 0]),(38,[J0h exS,encE ex3,J0e J3a],.tup [encS ⟨#[116,114,117,101]⟩,encI 0])]
theorem JJc:TabOk XR.E.P tab2:=by
 refine ⟨?_⟩;unfold tab2;simp only[List.forall_mem_cons,List.not_mem_nil,false_imp_iff,implies_true,and_true];exact ⟨⟨c103,JLb,rfl⟩,⟨c38,JLG,rfl⟩,⟨c38,JLF,rfl⟩,⟨c38,JLE,rfl⟩⟩
theorem JDl:PX 40 [] (encB true):=JD0 J8o JJc (fuel:=100) (n:=10) (by kernel_rfl)
theorem JF9 (u:U)(e:Ex):builtF e=true→OccE e u→0≤u.order∧u.order≤6:=by
 have kids:∀ ks:List Ex,(∀ k∈ks,OccE k u→0≤u.order∧u.order≤6)→OccL ks u→0≤u.order∧u.order≤6:=by
  intro ks
  induction ks with
  |nil=>intro _ h;unfold OccL at h;exact h.elim
  |cons k r ih=>
    intro hk h;unfold OccL at h
    rcases h with h|h
    ·exact hk k (by simp) h
    ·exact ih (fun x hx=>hk x (by simp[hx])) h
 induction e using J1y with
 |h e ih=>
   intro hb h;have hk:=(J0B hb).2
   cases e with
   |mk o t n ks=>
     unfold OccE at h
     rcases h with ⟨ho,rfl⟩|h
     ·rw[J1C] at hb;simp only[Bool.and_eq_true] at hb;have hx:=hb.1.1.2;unfold textF at hx
      rcases ho with ho|ho
      ·rw[if_neg (show ¬ (Ex.mk o t n ks).op=oNum by show ¬ o=oNum;rw[ho];decide),if_pos (show (Ex.mk o t n ks).op=oVar from ho)] at hx;simp only[Bool.and_eq_true] at hx;exact ⟨of_decide_eq_true hx.1.2,of_decide_eq_true hx.2⟩
      ·rw[if_neg (show ¬ (Ex.mk o t n ks).op=oNum by show ¬ o=oNum;rw[ho];decide),if_neg (show ¬ (Ex.mk o t n ks).op=oVar by show ¬ o=oVar;rw[ho];decide),if_pos (show (Ex.mk o t n ks).op=oPre from ho)] at hx;simp only[Bool.and_eq_true] at hx;have:n=0:=of_decide_eq_true hx.2;subst this;exact ⟨Int.le_refl _,(by decide:(0:Int)≤6)⟩
     ·exact kids ks (fun k hk'=>ih k hk' (hk k hk')) h
theorem JHa (A:List U)(u:U):(putU A u).length≤A.length+1:=by
 unfold putU;split
 ·omega
 ·simp
mutual
theorem J94:∀ (e:Ex) (A:List U),(J38 e A).length≤A.length+wtF e
 |.mk o t n ks,A=>by
   unfold J38 wtF;have h:=J93 ks (if o=oVar∨o=oPre then putU A ⟨t,n,decide (o=oPre)⟩ else A);split at h
   ·rename_i hc;rw[if_pos hc];have:=JHa A ⟨t,n,decide (o=oPre)⟩;omega
   ·rename_i hc;rw[if_neg hc];omega
theorem J93:∀ (ks:List Ex) (A:List U),(J3N ks A).length≤A.length+wtL ks
 |[],A=>by unfold J3N wtL;omega
 |k::ks,A=>by
   unfold J3N wtL;have h1:=J94 k A;have h2:=J93 ks (J38 k A);omega
end
theorem JAl (e:Ex)(hb:builtF e=true)(hw:wtF e≤1000):PX 122 [setU (J38 e [])] (JDX (usesR e [])):=by
 refine JGe _ _ (J5a e [] List.nodup_nil) (fun u hu=>?_) (by have:=J94 e [];simp at this;omega) (J3Q e [] List.Pairwise.nil) fun u=>?_
 ·rw[J5e] at hu
  rcases hu with h|h
  ·cases h
  ·exact JF9 u e hb h
 ·rw[J2Z,J5e]
theorem JLd {b g e:Nat}{H:Hp}{A:List U}(hb:H b=some (g,⟨e,0,[setU A]⟩)):snap [b] H (.om b g)=setU A:=ownM hb
def bltF (e:Ex):Int:=if tooF e then 2 else if builtF e then 0 else 1
theorem JGQ (e:Ex)(g:GdE e):PX 120 [encE e] (encI (bltF e)):=by
 refine PZ Tryz.func120 rfl ?_;have h1:=J3K e g.1;have h2:=J8w e g.1 g.2;generalize hF:bltF e=F;unfold bltF at hF;generalize tooF e=a at *;generalize builtF e=b at *;rw[J02] at *;refine kWQ ?_;intros;refine CallP.flat [] _ c83 h1 rfl ?_
 cases a with
 |true=>
   refine kWQ ?_;intros;exact .of (by rw[← hF];rfl)
 |false=>
   refine kWQ ?_;intros;refine CallP.flat [] _ c123 h2 rfl ?_
   cases b with
   |true=>
     refine kWQ ?_;intros;exact .of (by rw[← hF];rfl)
   |false=>
     refine kWQ ?_;intros;exact .of (by rw[← hF];rfl)
theorem J2S (e:Ex):J12 e=if bltF e=0 then (usesR e [],0) else ([],bltF e):=by
 unfold J12 bltF;rw[← J4J];cases tooF e<;>cases builtF e<;>rfl
theorem JMw (e:Ex)(g:GdE e):PX 46 [encE e] (JLI (J12 e)):=by
 refine PC [11] Tryz.func46 rfl (by rfl) rfl ?_;have h1:=JGQ e g;have u1:=JKU e g.1
 have hS:bltF e=0→PX 122 [setU (J38 e [])] (JDX (usesR e [])):=fun h=>by
  unfold bltF at h
  cases ht:tooF e with
  |true=>rw[ht,if_pos rfl] at h;cases h
  |false=>
    rw[ht,if_neg (by decide)] at h
    cases hb:builtF e with
    |false=>rw[hb,if_neg (by decide)] at h;cases h
    |true=>exact JAl e hb (by have:=J5I ht;omega)
 rw[J2S];generalize bltF e=bl at *;obtain ⟨A,hA⟩:∃ A,J38 e []=A:=⟨_,rfl⟩;rw[hA] at hS;generalize usesR e []=S at *;rw[J02] at *;refine kWQ ?_;intros;refine CallP.flat [] _ c120 h1 rfl ?_
 by_cases h0:bl=0
 case' neg=>
  rw[if_neg h0];refine kWQ ?_;intros;exact JFj (Le.nil 3) (Le.refl _)
 rw[if_pos h0];have hS:=hS h0;refine kWQ ?_;intros;refine CallP.frame 1000000 [(50,11)] rfl c121 (u1 [] _) rfl ⟨rfl,trivial⟩ ?_;rintro r0 h' ⟨rfl,rfl⟩;rw[hA];refine ⟨[(11,_,⟨169,0,[setU A]⟩),(1,_,⟨29,4,[.agg [encS e.op,encS e.text,encI e.order,.sl 4 (e.kids.map encE)]]⟩)],⟨rfl,rfl,trivial⟩,?_⟩;refine kWQ ?_;intros;refine J00 [11] _ c122 (J0U (congrArg (fun z=>[z]) (JLd (e:=169) rfl)) hS) ?_;refine kWQ ?_;intros;exact .of rfl
theorem JGS {e:Ex}(h:bltF e=0):tooF e=false∧builtF e=true∧wtF e≤1000:=by
 unfold bltF at h
 cases ht:tooF e with
 |true=>rw[ht,if_pos rfl] at h;cases h
 |false=>
   rw[ht,if_neg (by decide)] at h
   cases hb:builtF e with
   |false=>rw[hb,if_neg (by decide)] at h;cases h
   |true=>exact ⟨rfl,rfl,by have:=J5I ht;omega⟩
structure SideOk (ks:List (ByteArray×Va)) (e:Ex):Prop where
 g:GdE e
 b:builtF e=true
 t:typeF ks e=(0,true)
 l:tooF e=false
theorem SideOk.w {ks:List (ByteArray×Va)}{e:Ex}(h:SideOk ks e):wtF e≤200:=J5I h.l
theorem JBI {s:Sys}(hc:checkF s=0):largeF s=false∧validF s=true:=by
 unfold checkF at hc;cases h:largeF s
 ·rw[h] at hc;cases h':validF s
  ·rw[h'] at hc;simp at hc
  ·exact ⟨rfl,rfl⟩
 ·rw[h] at hc;simp at hc
theorem JCH (b:Bd):J0r b=.agg [.val (.string b.use.name),.val (.int .i64 b.use.order),.val (.bool b.use.pre),encS b.value]:=rfl
def J7O (u:U):List Bd→Option ByteArray
 |[]=>none
 |b::r=>if b.use=u then some b.value else J7O u r
theorem JDi {s:Sys}(h:checkF s=0):(∀ n,J1E (knownF s.vars) n=s.vars.find? fun v=>decide (v.name=n))∧∀ v∈s.vars,v.type=0∨v.type=1:=by
 unfold checkF at h
 have hL:largeF s=false:=by
  cases h1:largeF s
  ·rfl
  ·rw[h1] at h;simp at h
 rw[hL] at h
 have hV:validF s=true:=by
  cases h1:validF s
  ·rw[h1] at h;simp at h
  ·rfl
 unfold validF at hV;simp only[Bool.and_eq_true,Bool.not_eq_true'] at hV;obtain ⟨⟨⟨⟨⟨⟨h1,_⟩,_⟩,_⟩,hv⟩,_⟩,_⟩:=hV
 refine ⟨fun n=>?_,fun v hvm=>JEJ (by
  have:=List.any_eq_false.1 hv v hvm
  simpa using this)⟩
 have e1:knownF s.vars=s.vars.map fun v=>(v.name,v):=by
  unfold knownF;rw[JC5 _ _ (by simpa using J4E _ _ h1)];rfl
 rw[e1,J7l]
theorem J6T {β:Type}{u:U}:∀ {l:List (U×β)},(∀ x∈l,u≠x.1)→J1D l u=none
 |[],_=>rfl
 |x::l,h=>by
   unfold J1D;rw[if_neg (h x (by simp))];exact J6T fun y hy=>h y (by simp[hy])
theorem J7m {β:Type}(k:U)(v:β)(u:U):∀ l:List (U×β),J1D (putV l k v) u=if u=k then some v else J1D l u
 |[]=>rfl
 |x :: l=>by
   unfold putV
   by_cases h:k=x.1
   ·rw[if_pos h];unfold J1D;simp only;rw[← h];split<;>rfl
   ·rw[if_neg h];unfold J1D;rw[J7m k v u l]
    by_cases h2:u=x.1
    ·rw[if_pos h2,if_pos h2,if_neg (fun e=>h (by rw[← e,h2]))]
    ·rw[if_neg h2,if_neg h2]
theorem JF0 {β:Type}{k:U}{v:β}:∀ {l:List (U×β)} {x:U×β},x∈putV l k v→x.1=k∨∃ y∈l,y.1=x.1
 |[],x,h=>by simp only[putV,List.mem_cons,List.not_mem_nil,or_false] at h;subst h;exact .inl rfl
 |y :: l,x,h=>by
   unfold putV at h;split at h
   ·rename_i e
    rcases List.mem_cons.1 h with rfl|h
    ·exact .inl e.symm
    ·exact .inr ⟨x,by simp[h],rfl⟩
   ·rcases List.mem_cons.1 h with rfl | h
    ·exact .inr ⟨x,by simp,rfl⟩
    ·rcases JF0 h with h | ⟨z,h1,h2⟩
     ·exact .inl h
     ·exact .inr ⟨z,by simp[h1],h2⟩
theorem J7I (q u:U):J28 (some q) u=!J0F q u:=J3C q u
theorem J7G {p:Option U}{b:Bd}{bs:List Bd}{l r:List (U×Vl)}(h:J1a p (b::bs) l=some r):∃ v,valV b.value=some v∧fitF b.use=true∧J28 p b.use=false∧J1a (some b.use) bs (putV l b.use v)=some r:=by
 unfold J1a at h;split at h
 ·cases h
 ·rename_i v hv;split at h
  ·cases h
  ·rename_i hn;simp only[Bool.or_eq_true,Bool.not_eq_true',not_or,Bool.not_eq_false,Bool.not_eq_true] at hn;exact ⟨v,hv,hn.1,hn.2,h⟩
theorem J5Y:∀ {bs:List Bd} {q:U} {l r:List (U×Vl)},J1a (some q) bs l=some r→∀ b∈bs,J0F q b.use=true
 |[],q,l,r,_,b,hb=>by cases hb
 |c::bs,q,l,r,h,b,hb=>by
   obtain ⟨v,_,_,h3,h4⟩:=J7G h;rw[J7I,Bool.not_eq_false'] at h3
   rcases List.mem_cons.1 hb with rfl|hb
   ·exact h3
   ·exact J3t _ _ _ h3 (J5Y h4 b hb)
theorem J5X (u:U):∀ {bs:List Bd} {p:Option U} {l r:List (U×Vl)},J1a p bs l=some r→(∀ b∈bs,∀ x∈l,b.use≠x.1)→J1D r u=match J1D l u with
  |some v=>some v
  |none=>(J7O u bs).bind valV
 |[],p,l,r,h,_=>by
   unfold J1a at h;cases h;cases J1D l u<;>rfl
 |b :: bs,p,l,r,h,hd=>by
   obtain ⟨v,h1,_,_,h4⟩:=J7G h
   have ih:=J5X u h4 (fun c hc x hx=>by
    rcases JF0 hx with e|⟨y,hy,e⟩
    ·rw[e];intro e2;have:=J5Y h4 c hc;rw[e2,JA9] at this;cases this
    ·rw[← e]
     exact hd c (by simp[hc]) y hy)
   rw[ih,J7m,J7O]
   by_cases hu:u=b.use
   ·rw[if_pos hu,if_pos hu.symm,J6T (l:=l) (fun x hx=>by rw[hu];exact hd b (by simp) x hx)];simp only;rw[Option.bind_some,h1]
   ·rw[if_neg hu,if_neg (fun e=>hu e.symm)]
def J3Y:Option U→List Bd→Bool
 |_,[]=>true
 |p,b::r=>(valV b.value).isSome&&fitF b.use&&!J28 p b.use&&J3Y (some b.use) r
theorem J7N:∀ (bs:List Bd) (p:Option U) (l:List (U×Vl)),(J1a p bs l).isSome=J3Y p bs
 |[],p,l=>rfl
 |b :: r,p,l=>by
   unfold J1a J3Y
   cases hv:valV b.value with
   |none=>rfl
   |some v=>
     cases hf:fitF b.use with
     |false=>rfl
     |true=>
       cases hn:J28 p b.use with
       |true=>rfl
       |false=>exact J7N r _ _
def lenV (v:Va):Nat:=v.name.size+v.value.size+v.start.size+v.unit.size
def JDP:List Va→Nat
 |[]=>0
 |v::r=>lenV v+JDP r
def greatS (s:Sys):Bool:=decide (40000<JDP s.vars)||decide (200<s.vars.length)||decide (200<s.eqs.length)||decide (200<s.inits.length)||decide (200<s.whens.length)
theorem JGq (s:Sys)(hs:SzS s)(hl:s.vars.length≤2^20):PX 22 [J0h s] (encB (greatS s)):=by
 refine PZ Tryz.func22 rfl ?_;have ht:=hs.t;generalize hF:greatS s=F;unfold greatS at hF;obtain ⟨vs,qs,ns,ws⟩:=s;simp only at hl ht hF;unfold J0h;simp only;have mv:=@List.length_map _ _ vs encV;have mq:=@List.length_map _ _ qs J0i;have mn:=@List.length_map _ _ ns J0i;have mw:=@List.length_map _ _ ws J19;obtain ⟨S,hS⟩:∃ z,JDP vs=z:=⟨_,rfl⟩;rw[hS] at hF;refine kWQ ?_;intros
 refine LoopP.intro (fun k σ H=>∃ gs i,∃ t:Nat,k=vs.length-i∧i≤vs.length∧t≤i*2^38∧t+JDP (vs.drop i)=S ∧
   σ=fr [(1,.op 1 gs 0 0),(3,encI t),(4,encI i)] ∧
   H=hp [(1,gs,⟨26,4,[.agg [.sl 7 (vs.map encV),.sl 9 (qs.map J0i),.sl 9 (ns.map J0i),.sl 6 (ws.map J19)]]⟩)]) ?_ ?_
 ·exact .intro (W.of ⟨_,_,0,0,rfl,Nat.zero_le _,Nat.zero_le _,by rw[Nat.zero_add];exact hS,rfl,rfl⟩ ⟨rfl,rfl,rfl,trivial⟩ ⟨rfl,trivial⟩)
 rintro k σ H ⟨gs,i,t,rfl,hi,htt,hT,rfl,rfl⟩
 rcases Nat.lt_or_ge i vs.length with h1|h1
 ·rw[List.drop_eq_getElem_cons h1] at hT;have hvi:=ht _ (List.getElem_mem h1);unfold JDP lenV at hT;obtain ⟨q1,q2,q3,q4⟩:=hvi;refine kWQ ?_;intros
  refine .intro <| W.of ⟨_,by omega,gs,i+1,t+(vs[i].name.size+vs[i].value.size+vs[i].start.size+vs[i].unit.size),rfl,h1,by omega,by omega,rfl,rfl⟩ ⟨rfl,?_,rfl,trivial⟩ ⟨rfl,trivial⟩
  exact congrArg encI (by push_cast;omega)
 ·rw[List.drop_eq_nil_of_le h1] at hT;unfold JDP at hT;rw[Nat.add_zero] at hT;subst hT;refine kWO ?_;intros;refine CondP.dec (fun c1=>?_) (fun c1=>?_)<;>refine kW ?_
  ·refine kQ ?_;intros;have e:F=true:=by rw[← hF];simp only[Bool.or_eq_true,decide_eq_true_eq];omega
   exact .of (by rw[e];rfl)
  refine kQ ?_;intros;refine CondP.dec (fun c2=>?_) (fun c2=>?_)<;>refine kW ?_
  ·refine kQ ?_;intros;have e:F=true:=by rw[← hF];simp only[Bool.or_eq_true,decide_eq_true_eq];omega
   exact .of (by rw[e];rfl)
  refine kQ ?_;intros;refine CondP.dec (fun c3=>?_) (fun c3=>?_)<;>refine kW ?_
  ·refine kQ ?_;intros;have e:F=true:=by rw[← hF];simp only[Bool.or_eq_true,decide_eq_true_eq];omega
   exact .of (by rw[e];rfl)
  refine kQ ?_;intros;refine CondP.dec (fun c4=>?_) (fun c4=>?_)<;>refine kW ?_
  ·refine kQ ?_;intros;have e:F=true:=by rw[← hF];simp only[Bool.or_eq_true,decide_eq_true_eq];omega
   exact .of (by rw[e];rfl)
  refine kQ ?_;intros;refine .of ?_;rw[decide_eq_false (by omega),decide_eq_false (by omega),decide_eq_false (by omega),decide_eq_false (by omega)] at hF;simp only[Bool.false_or] at hF;rw[← hF];exact congrArg encB (decide_eq_decide.2 (by omega))
theorem JLp {S:List Nat}{H:Hp}{k:Nat}{L:List AV}{n:Nat}{xs:List Bd}(h:L=xs.map J0r)(hn:n=xs.length):AV.sl 4 (((L.drop 0).take n).map (J0O (J03 S H k)))=.sl 4 (xs.map J0r):=by
 subst h;rw[J1K _ _ _ _ hn fun x=>by cases k<;>rfl]
theorem J7z (e:Ex):(J12 e).1.length≤1000:=by
 rw[J2S];split
 ·rename_i h;obtain ⟨h1,h2,h3⟩:=JGS h;have:=J92 e [];have h4:=JEg e (by rw[← J4J];exact h1)
  have:szF e≤200:=by
   have hl:J5o e=false:=by rw[← J4J];exact h1
   unfold J5o at hl;simp only[Bool.or_eq_false_iff,decide_eq_false_iff_not] at hl;omega
  simp at *;omega
 ·simp
theorem JCv {S:List Nat}{H:Hp}{n b g off len:Nat}{B:Blk}(hS:b∈S)(hb:H b=some (g,B))(hl:off+len≤B.xs.length):J03 S H (n+1) (.own b g off len)=.sl B.n (((B.xs.drop off).take len).map (J0O (J03 S H n))):=by
 simp only[J03,if_pos hS,hb,true_and,if_pos hl]
end Go.Proofs.YtlblbldolhiokaaGreatDoor
namespace Go.Fw
open Go Go.RowKit
section
variable {E:En}
theorem JHy (hT:TOk E.P E.T){f:Nat}{fn:Func}{c:Code}{args:List AV}{H:Hp}{Q:AV→Hp→Prop}(hf:E.P.funcs[f]?=some fn)(hb:fn.body=some c)(hn:args.length≤fn.ntmps)
  (h:∀ (gh:Gh) (κ:KM) (a:Act) (w:World),gh.nt=fn.ntmps→Rel gh κ (J0j args) H a w→c.wp E.P (lift gh (retD E fn Q)) a w):HCall E.P f args H Q:=by
 intro gh κ w vs hr hv;refine calls_of_wp hf hb ?_
 have hr : Rel { gh with nt:=fn.ntmps,ref:=fun x v=>VR κ w (Nset gh.O κ H) x v } κ (J0j args) H { tmps:=vs++Array.replicate (fn.ntmps-vs.size) undef,defers:=[] } w:=by
  refine ⟨hr.nt rfl rfl rfl,fun x=>?_,?_,rfl,fun x v h=>h⟩
  ·show VR κ w (Nset gh.O κ H) (J0j args x) ((vs++Array.replicate (fn.ntmps-vs.size) undef).getD x undef)
   unfold J0j;have hs:=hv.1
   by_cases hx:x<args.length
   ·rw[List.getElem?_eq_getElem hx,Array.getD_eq_getD_getElem?,Array.getElem?_append_left (by omega),Array.getElem?_eq_getElem (by omega)];exact hv.2 x hx (by omega)
   ·rw[List.getElem?_eq_none (by omega),Array.getD_eq_getD_getElem?,Array.getElem?_append_right (by omega)]
    have:((Array.replicate (fn.ntmps-vs.size) undef)[x-vs.size]?).getD undef=undef:=by
     by_cases hlt:x-vs.size<fn.ntmps-vs.size
     ·simp[hlt]
     ·rw[Array.getElem?_eq_none (by simp;omega)];rfl
    rw[this];exact .tup [] #[] rfl (fun i h=>absurd h (by simp))
  ·have:=hv.1;simp;omega
 refine wp_mono (h _ _ _ _ rfl hr) ?_;rintro e a' w' ⟨κ',σ',H',hq,hr'⟩;have hq:=JEw hT hq
 have fin:(evRes E.T H' σ' fn.results.toList fun l=>∃ H'',Sub H'' H'∧Q (J3B l) H'')→a'.defers=[]∧∃ v,(results fn a'.tmps).run E.P w'=.ok v w'∧∃ u r H' κ',Ending.returned v=.returned u∧Q r H'∧HRel gh κ' H' w'∧VR κ' w' (Nset gh.O κ' H') r u ∧
   ∀ {x:AV} {u:Value},VR κ w (Nset gh.O κ H) x u→VR κ' w' (Nset gh.O κ' H') x u:=by
  intro h;obtain ⟨xs,v,⟨H'',hsub,hC⟩,hrun,us,hl,hv',rfl⟩:=J26 hT hr' fn _ h;obtain ⟨q1,q2⟩:=hr'.hp.sub hsub;exact ⟨hr'.defers,_,hrun,_,_,H'',κ',rfl,hC,q1.nt rfl rfl rfl,q2 (J8C hl hv'),fun h=>q2 (hr'.tr _ _ h)⟩
 cases e<;>first|exact fin hq|exact hq.elim
theorem JHV (hT:TOk E.P E.T){κ:KM}{w:World}{N:Nat→Prop}{t b g len k:Nat}{i:IntKind}{v:Value}(he:elemOfT E.T t fun _=>True)(hv:VR κ w N (.own b g 0 len) v) :
  ∃ u,(Instr.sliceAt t v (some (.int i len)) none none).run E.P w=.ok u w:=by
 obtain ⟨e,ed,hrr,hu,ht,_⟩:=J25 hT he w
 cases hv with
 |ownnil _ _ K' hk' hc=>
   exact ⟨_,by simp[Instr.sliceAt,Instr.slice,Instr.sliceBounds,Instr.sliceBound,asIntOf,Sem.run_bind,run_underlying hu,ht.run_size w];rfl⟩
 |own _ _ _ _ cap c K' hk' hc h1 h2 hp=>
   have e1:0≤(len:Int)∧(len:Int)≤len:=⟨by omega,by omega⟩
   by_cases hm:cap=len
   ·exact ⟨_,by simp[Instr.sliceAt,Instr.slice,Instr.sliceBounds,Instr.sliceBound,asIntOf,Sem.run_bind,run_underlying hu,ht.run_size w,e1,hm];rfl⟩
   ·exact ⟨_,by simp[Instr.sliceAt,Instr.slice,Instr.sliceBounds,Instr.sliceBound,asIntOf,Sem.run_bind,run_underlying hu,ht.run_size w,e1,hm];rfl⟩
theorem JJN (hT:TOk E.P E.T){gh:Gh}{κ:KM}{σ:Fr}{H:Hp}{a:Act}{w:World}(hr:Rel gh κ σ H a w){Q:Exit→Fr→Hp→Prop}{id s0 s1 d0 d1 d2 t:Nat}{o0 o1 o2:Oper}
  (h0:o0.op=.move (.tmp s0))(h1:o1.op=.move (.tmp s1))(h2:o2.op=.slice t (.tmp d0) (some (.tmp d1)) none none)(k0:o0.dst=some d0)(k1:o1.dst=some d1)(k2:o2.dst=some d2)
  (g0:o0.guard=none)(g1:o1.guard=none)(g2:o2.guard=none)(l0:d0<gh.nt)(l1:d1<gh.nt)(l2:d2<gh.nt)(hd:d0≠d1){b g len:Nat}(e0:σ s0=.own b g 0 len)(e1:σ s1=AV.val (.int .i64 len))(hs:s1≠d0)
  (he:elemOfT E.T t fun _=>True)(hq:Q .normal (put (put (put σ (some d0) (.own b g 0 len)) (some d1) (AV.val (.int .i64 len))) (some d2) .dead) H):(Code.region id #[o0,o1,o2] false).wp E.P (lift gh Q) a w:=by
 refine wp_region ?_;show wpOps E.P #[o0,o1,o2] _ [0,1,2] a w
 have q0:VR κ w (Nset gh.O κ H) (.own b g 0 len) (a.eval (.tmp s0)):=e0 ▸ hr.slots s0;have r1:Rel gh κ _ H _ w:=hr.put (some d0) (fun x h=>by cases h;exact l0) q0
 have q1:VR κ w (Nset gh.O κ H) (AV.val (.int .i64 len)) ((a.put (some d0) (a.eval (.tmp s0))).eval (.tmp s1)):=by
  have:=r1.slots s1;simp only[put_some,upd,if_neg hs,e1] at this;exact this
 have r2:Rel gh κ _ H _ w:=r1.put (some d1) (fun x h=>by cases h;exact l1) q1;have q2:=r2.slots d0;have q3:=r2.slots d1;simp only[put_some,upd,if_neg hd,if_true] at q2 q3;generalize hA:(a.put (some d0) (a.eval (.tmp s0))).put (some d1) ((a.put (some d0) (a.eval (.tmp s0))).eval (.tmp s1))=A at *;have hval:∀ {x v:Value},VR κ w (Nset gh.O κ H) (AV.val x) v→v=x:=fun h=>by cases h;rfl
 have q4:A.eval (.tmp d1)=.int .i64 len:=hval q3;obtain ⟨u,hu⟩:=JHV hT (i:=.i64) (k:=0) he q2;replace hu:(Instr.sliceAt t (A.eval (.tmp d0)) (some (.int .i64 len)) none none).run E.P w=.ok u w:=hu;have r3:Rel gh κ _ H (A.put (some d2) u) w:=r2.put (some d2) (fun x h=>by cases h;exact l2) (.dead u);have fin:lift gh Q .normal (A.put (some d2) u) w:=⟨κ,_,H,hq,r3⟩;have wq:∀ (o:Oper),o.guard=none→∀ y,Region.wanted o y=true:=fun o h y=>by simp[Region.wanted,h]
 show (if Region.wanted o0 _ then o0.wp E.P _ w (wpOps E.P #[o0,o1,o2] (lift gh Q) [1,2]) (lift gh Q)∨_ else _)
 rw[if_pos (wq _ g0 _)];refine .inl ?_;unfold Oper.wp;simp only[execOp,h0,k0,Sem.run_pure,Oper.upon_value];show (if Region.wanted o1 _ then o1.wp E.P _ w (wpOps E.P #[o0,o1,o2] (lift gh Q) [2]) (lift gh Q)∨_ else _)
 rw[if_pos (wq _ g1 _)];refine .inl ?_;unfold Oper.wp;simp only[execOp,h1,k1,Sem.run_pure,Oper.upon_value];show (if Region.wanted o2 _ then o2.wp E.P _ w (wpOps E.P #[o0,o1,o2] (lift gh Q) []) (lift gh Q)∨_ else _)
 rw[if_pos (wq _ g2 _)];refine .inl ?_;unfold Oper.wp;rw[hA];simp only[execOp,h2,k2,Option.map_some,Option.map_none,q4,Sem.run_bind,hu,Result.andThen_ok,Sem.run_pure,Oper.upon_value];exact fin
theorem JDU (hT:TOk E.P E.T){D:Array Oper→(Fr→Hp→Prop)→Fr→Hp→Prop}(hD:DOk E D){f:Nat}{fn:Func}{args:List AV}{H:Hp}{Q:AV→Hp→Prop}{i0 i1 s0 s1 d0 d1 d2 t:Nat}{ops:Array Oper}{o0 o1 o2:Oper}{rest:Code}{σ:Fr}{b g len:Nat}
  (hf:E.P.funcs[f]?=some fn)(hb:fn.body=some (.seq (.region i0 ops false) (.seq (.region i1 #[o0,o1,o2] false) rest)))(hg:J0M fn.ntmps (.seq (.region i0 ops false) (.seq (.region i1 #[o0,o1,o2] false) rest))=true)(hn:args.length≤fn.ntmps)
  (h0:o0.op=.move (.tmp s0))(h1:o1.op=.move (.tmp s1))(h2:o2.op=.slice t (.tmp d0) (some (.tmp d1)) none none)(k0:o0.dst=some d0)(k1:o1.dst=some d1)(k2:o2.dst=some d2)
  (g0:o0.guard=none)(g1:o1.guard=none)(g2:o2.guard=none)(l0:d0<fn.ntmps)(l1:d1<fn.ntmps)(l2:d2<fn.ntmps)(hd:d0≠d1)(e0:σ s0=.own b g 0 len)(e1:σ s1=AV.val (.int .i64 len))(hs:s1≠d0)
  (he:elemOfT E.T t fun _=>True)(hc:J1N E ops ops.toList (J0j args) H fun σ' H'=>σ'=σ∧H'=H)(hk:Box (cpA E D rest (retD E fn Q) (put (put (put σ (some d0) (.own b g 0 len)) (some d1) (AV.val (.int .i64 len))) (some d2) .dead) H)):HCall E.P f args H Q:=by
 refine JHy hT hf hb hn fun gh κ a w hnt hr=>?_;simp only[J0M,Bool.and_eq_true] at hg;rw[← hnt] at hg l0 l1 l2;have A0:=J3o hT hD (.region i0 ops false) (fun e σ' H'=>e=.normal∧σ'=σ∧H'=H) κ _ _ a w hg.1 (show J1N E ops ops.toList (J0j args) H (fun σ' H'=>Exit.normal=.normal∧σ'=σ∧H'=H) by simpa using hc) hr;refine wp_seq (wp_mono A0 ?_);rintro e a1 w1 ⟨κ1,σ1,H1,⟨rfl,rfl,rfl⟩,r1⟩;refine wp_seq (wp_mono (JJN hT r1 (Q:=fun e σ' H'=>e=.normal∧σ'=_∧H'=_) h0 h1 h2 k0 k1 k2 g0 g1 g2 l0 l1 l2 hd e0 e1 hs he ⟨rfl,rfl,rfl⟩) ?_);rintro e a2 w2 ⟨κ2,σ2,H2,⟨rfl,rfl,rfl⟩,r2⟩;exact J3o hT hD rest _ κ2 _ _ a2 w2 hg.2.2 hk.o r2
end
end Go.Fw
namespace Go.Proofs.YtlblbldolhiokaaGreatDoor
open Go Go.Fw
theorem JGI (xs:List Bd)(hl:xs.length≤2^40):HCall Tryz.prog 113 [.sl 4 (xs.map J0r)] (hp []) (J8u 5 0 xs.length 82 4 (xs.map J0r)):=by
 refine J2D (E:=E 0) J4S (JIf 0) Tryz.func113 rfl (by rfl) (Nat.le_of_ble_eq_true rfl) ?_;(refine kWS ?_;repeat intro γ);refine Need.intro ?_ ?_
 ·by_cases h:xs=[]
  ·right;subst h;refine kV ?_;refine CondP.tt ?_;refine kV ?_;refine JCP ?_;refine JAD 2 5 82 4 rfl rfl fun γ=>?_;refine W.of (l:=[(2,.own 5 γ 0 0)]) (m:=[(5,γ,⟨82,4,[]⟩)]) ?_ ⟨rfl,trivial⟩ ⟨rfl,trivial⟩;(refine kWS ?_;repeat intro γ);exact EndH.of (m:=[(5,γ,⟨82,4,[]⟩)]) ⟨rfl,trivial⟩ ⟨γ,rfl,rfl⟩
  ·left
   simpa using h
 ·(refine kWS ?_;repeat intro γ);rename_i γ;refine EndH.of (m:=[(5,γ,⟨82,4,xs.map J0r⟩)]) ⟨rfl,trivial⟩ ⟨γ,?_,rfl⟩;simp;rfl
theorem JIW (b:Bd)(u:U)(hb:0≤b.use.order∧b.use.order≤6)(hu:0≤u.order∧u.order≤6):PX 115 [J0r b,encU u] (encI (J1o b.use u)):=by
 refine PZ Tryz.func115 rfl ?_;have hL:=JGk b.use u hb hu;rw[JCH];unfold encU at *;refine kWQ ?_;intros;refine CallP.flat [] _ c116 hL rfl ?_;refine kWQ ?_;intros;exact .of rfl
theorem JCy (bs:List Bd)(u:U)(hl:bs.length≤2^20)(hb:∀ b∈bs,0≤b.use.order∧b.use.order≤6)(hu:0≤u.order∧u.order≤6)(ha:∀ b∈bs,J0F b.use u=true) :
  PX 114 [.sl 4 (bs.map J0r),encU u,.fn (.func 115) [] []] (.tup [encI bs.length,encB false]):=by
 refine PZ Tryz.func114 rfl ?_
 have hlt:∀ b∈bs,J1o b.use u<0:=fun b hbm=>by
  have h1:=ha b hbm;have h2:=J3C b.use u;rw[h1] at h2;have:=of_decide_eq_false h2;omega
 have hC:=fun b hbm=>JIW b u (hb b hbm) hu;have hml:=@List.length_map _ _ bs J0r;unfold encU at *;refine kWQ ?_;intros
 refine LoopP.intro (fun k σ H=>∃ g4 i,k=bs.length-i∧i≤bs.length ∧
  σ=fr [(0,.sl 4 (bs.map J0r)),(2,.fn (.func 115) [] []),(4,.op 4 g4 0 0),(8,encI bs.length),(9,encI i),(10,encI bs.length)]∧H=hp [(4,g4,⟨54,3,[.agg [.val (.string u.name),.val (.int .i64 u.order),.val (.bool u.pre)]]⟩)]) ?_ ?_
 ·exact .intro <| W.of ⟨_,_,0,rfl,Nat.zero_le _,rfl,rfl⟩ ⟨rfl,rfl,rfl,(by first|rfl|exact congrArg (fun n:Nat=>encI n) hml),rfl,(by first|rfl|exact congrArg (fun n:Nat=>encI n) hml),trivial⟩ ⟨rfl,trivial⟩
 rintro k σ H ⟨g4,i,rfl,hi,rfl,rfl⟩
 rcases Nat.lt_or_ge i bs.length with h9|h9
 ·have hsh:shrI .u64 ((i:Int)+(bs.length:Int)) 1=(((i+bs.length)/2:Nat):Int):=by
   unfold shrI;show Int.fdiv _ (2 ^ 1)=_
   rw[Int.fdiv_eq_ediv_of_nonneg _ (by decide)];omega
  obtain ⟨m,hm⟩:∃ m,(i+bs.length)/2=m:=⟨_,rfl⟩;rw[hm] at hsh;have hmb:m<bs.length:=by omega
  have him:i≤m:=by omega
  refine kWQ ?_;intros;simp only[hsh,Int.toNat_natCast];obtain ⟨b,hbb⟩:∃ b,bs[m]=b:=⟨_,rfl⟩;have hbm:b∈bs:=hbb ▸ List.getElem_mem hmb;have hCb:=hC b hbm;have hlb:=hlt b hbm;simp only[hbb];rw[JCH] at hCb;refine CallG.intro _ c115 hCb ?_;refine kWQ ?_;intros
  exact .intro <| W.of ⟨_,by omega,g4,m+1,rfl,hmb,rfl,rfl⟩ ⟨rfl,rfl,rfl,rfl,rfl,rfl,trivial⟩ ⟨rfl,trivial⟩
 ·obtain rfl:i=bs.length:=by omega
  refine kWQ ?_;intros;exact .of rfl
theorem JDR (xs:List Bd)(b:Bd)(p q:Nat)(hl:xs.length≤2^20):HCall Tryz.prog 117 [.own 50 p 0 xs.length,encI xs.length,.own 51 q 0 1] (hp [(50,p,⟨82,4,xs.map J0r⟩),(51,q,⟨82,4,[J0r b]⟩)])
  fun r h=>∃ γ,r=.own 50 γ 0 (xs.length+1)∧h=hp [(50,γ,⟨82,4,(xs++[b]).map J0r⟩),(51,q,⟨82,4,[J0r b]⟩)]:=by
 have hml:=@List.length_map _ _ xs J0r;refine JDU J4S (JIf 0) Tryz.func117 rfl (by rfl) (Nat.le_of_ble_eq_true rfl) rfl rfl rfl rfl rfl rfl rfl rfl rfl (Nat.le_of_ble_eq_true rfl) (Nat.le_of_ble_eq_true rfl) (Nat.le_of_ble_eq_true rfl) (by decide) (σ:=put (J0j _) (some 6) (.val (.slice none 0 0))) rfl rfl (by decide) ⟨_,rfl,_,rfl,_,rfl,trivial⟩ ⟨rfl,rfl⟩ ?_;(refine kWQ ?_;repeat intro γ);have e1:(xs++[b]).map J0r=xs.map J0r++[J0r b]:=by simp
 refine EndH.of (m:=[(50,γ,⟨82,4,(xs++[b]).map J0r⟩),(51,q,⟨82,4,[J0r b]⟩)]) ⟨?_,rfl,trivial⟩ ⟨γ,rfl,rfl⟩;exact Eq.trans rfl (congrArg (fun z=>some (γ,(⟨82,4,z⟩:Blk))) e1.symm)
theorem JLl {b p e n:Nat}{H:Hp}{out:List Bd}(hb:H b=some (p,⟨e,4,out.map J0r⟩))(hn:n=out.length):snap [b] H (.own b p 0 n)=.sl 4 (out.map J0r):=by
 rw[J4r (by simp) hb (by simp[hn]),J1K _ _ _ _ hn fun _=>rfl]
theorem JFa {u:U}(h:fitF u=true):0≤u.order∧u.order≤6:=by
 unfold fitF at h;simp only[Bool.and_eq_true,decide_eq_true_eq] at h;exact h.1.2
theorem JDs (e:EnvA)(he:SzB e)(u:U)(hu:u.name.size<2^35)(v:ByteArray)(hv:v.size<2^35){ev:Ev}(ho:openS e=.ok ev){w:Vl}(hw:valV v=some w)(hf:fitF u=true)(ha:∀ b∈e.binds,J0F b.use u=true)(hb:∀ b∈e.binds,fitF b.use=true)(hl:e.binds.length<1000) :
  PX 43 [J0e e,encU u,encS v] (.tup [J0e ⟨e.time,e.init,e.binds++[⟨u,v⟩]⟩,encI 0]):=by
 refine PC [41] Tryz.func43 rfl (by rfl) rfl ?_;have hO:=JCU e he;rw[ho] at hO;have hP:=J6W v hv;rw[J9I hw] at hP;have hF:=JJC u hu;rw[hf] at hF;obtain ⟨tm,ini,bs⟩:=e;simp only at ha hb hl;have hC:=JGI bs (by omega);have hS:=JCy bs u (by omega) (fun b hbm=>JFa (hb b hbm)) (JFa hf) ha;have hI:=fun p q=>JDR bs ⟨u,v⟩ p q (by omega);unfold J0e JLJ encU at *;simp only at *;have hml:=@List.length_map _ _ bs J0r;clear he ha hb;refine kWQ ?_;intros;refine J00 [] _ c67 hO ?_;refine kWQ ?_;intros
 rcases w with q|t
 all_goals
  unfold J0A J0q at hP
  try unfold encF encQ at hP
  refine J00 [] _ c112 hP ?_;refine kWQ ?_;intros;refine CallP.flat [] _ c81 hF rfl ?_;refine kWQ ?_;intros;refine CallP.frame 1000000 [(5,41)] rfl c113 hC rfl trivial ?_;rintro r0 h' ⟨δ,rfl,rfl⟩;refine ⟨[(41,δ,⟨82,4,bs.map J0r⟩),(4,_,⟨54,3,[.agg [.val (.string u.name),.val (.int .i64 u.order),.val (.bool u.pre)]]⟩),(6,_,⟨33,3,[.agg [encS ⟨#[]⟩,encB false,.val (.slice none 0 0)]]⟩),(12,_,⟨33,3,[.agg [encS tm,encB ini,.sl 4 (bs.map J0r)]]⟩)],⟨J0P J0r _ (fun _=>rfl) ..,rfl,rfl,rfl,trivial⟩,?_⟩;refine kWQ ?_;intros;refine CallP.flat [41] _ c114 (J0U (congrArg (fun z=>[z,_,_]) (JLl rfl rfl)) hS) rfl ?_;refine kWQ ?_;intros;refine CallP.frame 1000000 [(50,41),(51,63)] rfl c117 (hI δ _) rfl ⟨J0P J0r _ (fun _=>rfl) ..,rfl,trivial⟩ ?_;rintro r0 h' ⟨δ',rfl,rfl⟩;refine ⟨[(41,δ',⟨82,4,(bs++[(⟨u,v⟩:Bd)]).map J0r⟩),(6,_,⟨33,3,[.agg [encS ⟨#[]⟩,encB false,.val (.slice none 0 0)]]⟩),(12,_,⟨33,3,[.agg [encS tm,encB ini,.own 41 δ 0 bs.length]]⟩)],⟨J0P J0r _ (fun _=>rfl) ..,rfl,rfl,trivial⟩,?_⟩;have hl2:(bs++[(⟨u,v⟩:Bd)]).length=bs.length+1:=by simp
  refine kWQ ?_;intros;exact .of (congrArg (fun z=>AV.tup [.agg [encS tm,encB ini,z],encI 0]) (JLp rfl hl2.symm))
theorem JAw (u:U)(e:Ex):builtF e=true→OccE e u→fitF u=true:=by
 have kids:∀ ks:List Ex,(∀ k∈ks,OccE k u→fitF u=true)→OccL ks u→fitF u=true:=by
  intro ks
  induction ks with
  |nil=>intro _ h;unfold OccL at h;exact h.elim
  |cons k r ih=>
    intro hk h;unfold OccL at h
    rcases h with h|h
    ·exact hk k (by simp) h
    ·exact ih (fun x hx=>hk x (by simp[hx])) h
 induction e using J1y with
 |h e ih=>
   intro hb h;have hk:=(J0B hb).2
   cases e with
   |mk o t n ks=>
     unfold OccE at h
     rcases h with ⟨ho,rfl⟩|h
     ·rw[J1C] at hb;simp only[Bool.and_eq_true] at hb;have hx:=hb.1.1.2;unfold textF at hx;unfold fitF;simp only
      rcases ho with ho|ho
      ·rw[if_neg (show ¬ (Ex.mk o t n ks).op=oNum by show ¬ o=oNum;rw[ho];decide),if_pos (show (Ex.mk o t n ks).op=oVar from ho)] at hx;simp only[Bool.and_eq_true] at hx;have h1:nameF t=true:=hx.1.1;have h2:0≤n:=of_decide_eq_true hx.1.2;have h3:n≤6:=of_decide_eq_true hx.2;rw[h1,decide_eq_true (show 0≤n∧n≤6 from ⟨h2,h3⟩),show decide (o=oPre)=false by rw[ho];decide];rfl
      ·rw[if_neg (show ¬ (Ex.mk o t n ks).op=oNum by show ¬ o=oNum;rw[ho];decide),if_neg (show ¬ (Ex.mk o t n ks).op=oVar by show ¬ o=oVar;rw[ho];decide),if_pos (show (Ex.mk o t n ks).op=oPre from ho)] at hx;simp only[Bool.and_eq_true] at hx;have h1:nameF t=true:=hx.1;have h2:n=0:=of_decide_eq_true hx.2;subst h2;rw[h1];simp
     ·exact kids ks (fun k hk'=>ih k hk' (hk k hk')) h
def one1:ByteArray:=⟨#[49]⟩
def tyL (vs:List Va)(n:ByteArray):Int:=vs.foldl (fun t v=>if v.name=n then v.type else t) 0
def valB (values:List ByteArray)(i:Nat)(t:Int):ByteArray:=if t=0 then (match values[i]? with
 |some x=>if (J06 x.data.toList).2 then x else one1
 |none=>one1) else sTrue
def bndL (vs:List Va)(values:List ByteArray):Nat→List U→List Bd
 |_,[]=>[]
 |i,u::r=>⟨u,valB values i (tyL vs u.name)⟩::bndL vs values (i+1) r
theorem J2Y:(J06 one1.data.toList).2=true:=by kernel_rfl
theorem JDE:(J06 sTrue.data.toList).2=false:=by kernel_rfl
theorem JAs:(J06 sFalse.data.toList).2=false:=by kernel_rfl
theorem J7x {x:ByteArray}(h:(J06 x.data.toList).2=true):valV x=some (.num (numV x)):=by
 unfold valV;rw[if_neg,if_pos h];rintro (e|e)
 ·rw[e,JDE] at h;cases h
 ·rw[e,JAs] at h;cases h
theorem J7y (values:List ByteArray)(i:Nat){t:Int}(ht:t=0∨t=1):∃ v,valV (valB values i t)=some v∧v.type=t:=by
 unfold valB
 by_cases h:t=0
 ·rw[if_pos h,h]
  cases values[i]? with
  |none=>exact ⟨_,J7x J2Y,rfl⟩
  |some x=>
    simp only
    by_cases hx:(J06 x.data.toList).2=true
    ·rw[if_pos hx];exact ⟨_,J7x hx,rfl⟩
    ·rw[if_neg hx];exact ⟨_,J7x J2Y,rfl⟩
 ·rw[if_neg h];refine ⟨.tr true,by kernel_rfl,?_⟩;show (1:Int)=t
  omega
theorem JBZ (n:ByteArray):∀ (vs:List Va) (t0:Int),(vs.map Va.name).Nodup→vs.foldl (fun t v=>if v.name=n then v.type else t) t0=match vs.find? fun v=>decide (v.name=n) with
  |some v=>v.type
  |none=>t0
 |[],t0,_=>rfl
 |v :: r,t0,h=>by
   rw[List.map_cons,List.nodup_cons] at h;rw[List.foldl_cons,JBZ n r _ h.2,List.find?_cons]
   by_cases hv:v.name=n
   ·rw[decide_eq_true hv,if_pos hv]
    have hn:(r.find? fun v=>decide (v.name=n))=none:=by
     rw[List.find?_eq_none];intro w hw hq;have:=of_decide_eq_true hq;exact h.1 (by rw[hv,← this];exact List.mem_map.2 ⟨w,hw,rfl⟩)
    rw[hn]
   ·rw[decide_eq_false hv,if_neg hv]
theorem JBJ {s:Sys}(hc:checkF s=0):(s.vars.map Va.name).Nodup:=by
 obtain ⟨_,hV⟩:=JBI hc;unfold validF at hV;simp only[Bool.and_eq_true] at hV;exact J4E _ _ hV.1.1.1.1.1.1
theorem J5F {s:Sys}(hc:checkF s=0)(n:ByteArray):tyL s.vars n=J80 (knownF s.vars) n∧(tyL s.vars n=0∨tyL s.vars n=1):=by
 obtain ⟨h1,h2⟩:=JDi hc;have h3:=JBZ n s.vars 0 (JBJ hc)
 have e:tyL s.vars n=J80 (knownF s.vars) n:=by
  unfold tyL J80;rw[h1 n,h3];cases s.vars.find? fun v=>decide (v.name=n)<;>rfl
 refine ⟨e,?_⟩;unfold tyL;rw[h3]
 cases hf:s.vars.find? fun v=>decide (v.name=n) with
 |none=>exact .inl rfl
 |some v=>exact h2 v (List.mem_of_find?_eq_some hf)
theorem J6R (vs:List Va)(values:List ByteArray)(ht:∀ n,tyL vs n=0∨tyL vs n=1):∀ (l:List U) (i:Nat) (p:Option U),SrtU l→(∀ u∈l,fitF u=true)→(∀ u∈l,J28 p u=false)→J3Y p (bndL vs values i l)=true
 |[],_,_,_,_,_=>rfl
 |u::r,i,p,hs,hf,hp=>by
   obtain ⟨v,hv,_⟩:=J7y values i (ht u.name);obtain ⟨s1,s2⟩:=List.pairwise_cons.1 hs;unfold bndL J3Y;simp only;rw[hv,hf u (by simp),hp u (by simp),J6R vs values ht r (i+1) (some u) s2 (fun w hw=>hf w (by simp[hw])) fun w hw=>by rw[J7I,s1 w hw];rfl];rfl
theorem J7j (vs:List Va)(values:List ByteArray)(u:U):∀ (l:List U) (i:Nat),u∈l→∃ j,J7O u (bndL vs values i l)=some (valB values j (tyL vs u.name))
 |[],_,h=>by cases h
 |w :: r,i,h=>by
   unfold bndL J7O
   by_cases e:w=u
   ·subst e;exact ⟨i,by rw[if_pos rfl]⟩
   ·rw[if_neg e];exact J7j vs values u r (i+1) ((List.mem_cons.1 h).resolve_left fun q=>e q.symm)
theorem J2y (vs:List Va)(values:List ByteArray):∀ (l:List U) (i:Nat),(bndL vs values i l).length=l.length
 |[],_=>rfl
 |u::r,i=>by unfold bndL;simp[J2y vs values r (i+1)]
theorem JA8 (vs:List Va)(values:List ByteArray)(u:U):∀ (l:List U) (i:Nat),bndL vs values i (l++[u])=bndL vs values i l++[⟨u,valB values (i+l.length) (tyL vs u.name)⟩]
 |[],i=>rfl
 |w::r,i=>by
   show _::bndL vs values (i+1) (r++[u])=_
   rw[JA8 vs values u r (i+1)];show _=_::(bndL vs values (i+1) r++_)
   rw[show i+(w::r).length=i+1+r.length by simp;omega]
theorem J8D {tm:ByteArray}{ini:Bool}{bs:List Bd}(ht:(J06 tm.data.toList).2=true)(hl:bs.length≤1000)(hg:J3Y none bs=true):∃ ev,openS ⟨tm,ini,bs⟩=.ok ev∧ev.time=numV tm∧ev.init=ini∧∀ u,J1D ev.vals u=(J7O u bs).bind valV:=by
 rw[← J7N _ none [],Option.isSome_iff_exists] at hg;obtain ⟨l1,hl1⟩:=hg;refine ⟨⟨numV tm,ini,l1⟩,?_,rfl,rfl,fun u=>?_⟩
 ·unfold openS openF;simp only;rw[if_neg (by omega),if_pos ht,hl1];rfl
 ·exact J5X u hl1 (fun b hb x hx=>by cases hx)
theorem JDW {ks:List (ByteArray×Va)}{ev:Ev}(e:Ex):builtF e=true→(typeF ks e).2=true→(∀ u,OccE e u→∃ v,J1c ks ev u=.ok v)→∀ c,evalF ks ev e=.error c→c=12:=by
 have occ_kid:∀ (l:List Ex) (k:Ex),k∈l→∀ u,OccE k u→OccL l u:=by
  intro l
  induction l with
  |nil=>intro k hk;cases hk
  |cons x r ih=>
    intro k hk u hu;unfold OccL
    rcases List.mem_cons.1 hk with rfl|hk
    ·exact .inl hu
    ·exact .inr (ih k hk u hu)
 induction e using J1y with
 |h e ih=>
   intro hb ht h c hc
   have hk:∀ k∈e.kids,∀ c,evalF ks ev k=.error c→c=12:=fun k hk=>ih k hk ((J0B hb).2 k hk) (J0w hb ht k hk) fun u hu=>h u (by
    cases e with
    |mk o t n es=>unfold OccE;exact .inr (occ_kid es k hk u hu))
   have hE:=J5y (ev:=ev) e hb ht c hc;rw[J1U] at hc;unfold J4L at hc
   by_cases h1:e.op=oNum
   ·rw[if_pos h1] at hc;cases hc
   ·rw[if_neg h1] at hc
    by_cases h2:e.op=oVar∨e.op=oPre
    ·rw[if_pos h2] at hc;obtain ⟨v,hv⟩:=h ⟨e.text,e.order,decide (e.op=oPre)⟩ (by cases e with|mk o t n es=>unfold OccE;exact .inl ⟨h2,rfl⟩);rw[hv] at hc;cases hc
    ·rw[if_neg h2] at hc
     have hget:∀ i c,(e.kids.map (evalF ks ev)).getD i (.error 0)=.error c→c=0∨c=12:=fun i c hi=>by
      rw[List.getD_eq_getElem?_getD,List.getElem?_map] at hi
      cases hq:e.kids[i]? with
      |none=>rw[hq] at hi;cases hi;exact .inl rfl
      |some k=>rw[hq] at hi;exact .inr (hk k (List.mem_of_getElem? hq) c hi)
     have h12:c=0∨c=12→c=12:=fun q=>by rcases hE with rfl|rfl|rfl<;>rcases q with q|q<;>first|exact q|cases q
     split at hc
     ·split at hc
      ·rename_i d hd;cases hc;exact h12 (hget 0 _ hd)
      ·split at hc
       ·exact h12 (hget _ _ hc)
       ·cases hc
     ·rename_i h3;split at hc
      ·rename_i d hd;cases hc;obtain ⟨k,hkm,e2⟩:=List.mem_map.1 (J87 hd);exact hk k hkm _ e2
      ·rename_i vs hvs;have hs:=J4s hb ht;have hty:∀ k∈e.kids,∀ v,evalF ks ev k=.ok v→v.type=(typeF ks k).1:=fun k hk=>J8S k ((J0B hb).2 k hk) (J0w hb ht k hk)
       have hseq:∀ (rs:List (Except Int Vl)) (vs:List Vl),seqR rs=.ok vs→rs=vs.map .ok:=by
        intro rs
        induction rs with
        |nil=>intro vs h;cases h;rfl
        |cons r t ih=>
          intro vs h
          cases r with
          |error d=>cases h
          |ok v=>
            rw[show seqR (.ok v::t)=match seqR t with|.ok l=>.ok (v::l)|.error c=>.error c from rfl] at h
            cases ht:seqR t with
            |error d=>rw[ht] at h;cases h
            |ok l=>rw[ht] at h;cases h;rw[ih _ ht];rfl
       exact JBX (J3M hb hs ⟨h1,h2,h3⟩ hty (hseq _ _ hvs)) hc
theorem JFf {ks:List (ByteArray×Va)}{ev ev0:Ev}(ht:ev0.time=ev.time)(hi:ev0.init=ev.init)(hv:∀ u,J1D ev0.vals u=none)(e:Ex):evalF ks ev0 e=evalF ks ev e∨evalF ks ev0 e=.error 5:=by
 have seq:∀ l:List Ex,(∀ k∈l,evalF ks ev0 k=evalF ks ev k∨evalF ks ev0 k=.error 5)→seqR (l.map (evalF ks ev0))=seqR (l.map (evalF ks ev))∨seqR (l.map (evalF ks ev0))=.error 5:=by
  intro l
  induction l with
  |nil=>intro _;exact .inl rfl
  |cons k r ih=>
    intro h;rw[List.map_cons,List.map_cons]
    rcases h k (by simp) with e|e
    ·rw[e]
     cases evalF ks ev k with
     |error c=>exact .inl rfl
     |ok v=>
       rcases ih fun x hx=>h x (by simp[hx]) with e2|e2
       ·left;show (match seqR _ with | .ok l=>Except.ok (v::l) | .error c=>.error c)=(match seqR _ with | .ok l=>Except.ok (v::l) | .error c=>.error c)
        rw[e2]
       ·right;show (match seqR _ with | .ok l=>Except.ok (v::l) | .error c=>.error c)=_
        rw[e2]
    ·rw[e];exact .inr rfl
 induction e using J1y with
 |h e ih=>
   have hw:∀ o vs,wayF ev0 o vs=wayF ev o vs:=fun o vs=>by unfold wayF;rw[ht,hi]
   have hget:∀ i,(e.kids.map (evalF ks ev0)).getD i (.error 0)=(e.kids.map (evalF ks ev)).getD i (.error 0)∨(e.kids.map (evalF ks ev0)).getD i (.error 0)=.error 5:=fun i=>by
    rw[List.getD_eq_getElem?_getD,List.getD_eq_getElem?_getD,List.getElem?_map,List.getElem?_map]
    cases hq:e.kids[i]? with
    |none=>exact .inl rfl
    |some k=>exact ih k (List.mem_of_getElem? hq)
   rw[J1U,J1U];unfold J4L
   by_cases h1:e.op=oNum
   ·rw[if_pos h1,if_pos h1];exact .inl rfl
   ·rw[if_neg h1,if_neg h1]
    by_cases h2:e.op=oVar∨e.op=oPre
    ·rw[if_pos h2,if_pos h2];right;unfold J1c;rw[hv]
    ·rw[if_neg h2,if_neg h2]
     by_cases h3:e.op=oIf∨e.op=oAnd∨e.op=oOr
     ·rw[if_pos h3,if_pos h3]
      rcases hget 0 with e0|e0
      ·rw[e0]
       cases (e.kids.map (evalF ks ev)).getD 0 (.error 0) with
       |error c=>exact .inl rfl
       |ok v=>
         simp only
         cases J29 e.op v.truth with
         |none=>exact .inl rfl
         |some i=>exact hget i
      ·rw[e0];exact .inr rfl
     ·rw[if_neg h3,if_neg h3]
      rcases seq e.kids ih with e0|e0
      ·rw[e0]
       cases seqR (e.kids.map (evalF ks ev)) with
       |error c=>exact .inl rfl
       |ok vs=>exact .inl (hw _ _)
      ·rw[e0];exact .inr rfl
theorem JGR {s:Sys}(hs:SzS s){x:Ex}(values:List ByteArray)(h1:(typeS s x).2=0)(h2:(J12 x).2=0) :
  ((J31 s x ⟨one1,false,bndL s.vars values 0 (J12 x).1⟩).2=0∨(J31 s x ⟨one1,false,bndL s.vars values 0 (J12 x).1⟩).2=12∨(J31 s x ⟨one1,false,bndL s.vars values 0 (J12 x).1⟩).2=2) ∧
  ((J31 s x ⟨one1,false,[]⟩).2=(J31 s x ⟨one1,false,bndL s.vars values 0 (J12 x).1⟩).2∨((J31 s x ⟨one1,false,[]⟩).2=5∧(J12 x).1≠[])):=by
 obtain ⟨hc,htl,hb,ht,_⟩:=J4q h1;have hle:=J7z x
 have hu:(J12 x).1=usesR x []:=by
  rw[J2S] at h2 ⊢;split at h2
  ·rename_i h;rw[if_pos h]
  ·rename_i h;exact absurd h2 h
 have hty:=fun n=>(J5F hc n).2;have hmem:∀ u,u∈(J12 x).1↔OccE x u:=fun u=>by rw[hu,J2Z];simp
 have hsrt:SrtU (J12 x).1:=by rw[hu];exact J3Q x [] List.Pairwise.nil
 have hg:=J6R s.vars values hty (J12 x).1 0 none hsrt (fun u h=>JAw u x hb ((hmem u).1 h)) fun _ _=>rfl;obtain ⟨ev,e1,e2,e3,e4⟩:=J8D (tm:=one1) (ini:=false) J2Y (by rw[J2y];exact hle) hg;obtain ⟨ev0,f1,f2,f3,f4⟩:=J8D (tm:=one1) (ini:=false) (bs:=[]) J2Y (by simp) rfl
 have hbound:∀ u,OccE x u→∃ v,J1c (knownF s.vars) ev u=.ok v:=fun u h=>by
  obtain ⟨j,hj⟩:=J7j s.vars values u (J12 x).1 0 ((hmem u).2 h);obtain ⟨v,hv,hvt⟩:=J7y values j (hty u.name);refine ⟨v,?_⟩;unfold J1c;rw[e4,hj,Option.bind_some,hv];simp only;rw[if_neg (by rw[hvt,(J5F hc u.name).1];simp)]
 have hE:=JDW x hb ht hbound;have hN:=JFf (ks:=knownF s.vars) (ev:=ev) (ev0:=ev0) (by rw[e2,f2]) (by rw[e3,f3]) (fun u=>by rw[f4];rfl) x;unfold J31;rw[if_neg (fun h=>h h1),if_neg (fun h=>h h1),e1,f1];simp only;constructor
 ·cases hv:evalF (knownF s.vars) ev x with
  |error c=>rw[hE c hv];exact .inr (.inl rfl)
  |ok v=>
    unfold outV;simp only;split
    ·exact .inl rfl
    ·exact .inr (.inr rfl)
 ·rcases hN with h | h
  ·rw[h];exact .inl rfl
  ·by_cases hnil:(J12 x).1=[]
   ·left
    have:ev0=ev:=by
     rw[hnil] at e1;rw[show openS ⟨one1,false,bndL s.vars values 0 []⟩=openS ⟨one1,false,[]⟩ from rfl,f1] at e1;exact Except.ok.inj e1
    rw[this]
   ·exact .inr ⟨by rw[h];rfl,hnil⟩
theorem JId (t:ByteArray)(ht:t.size<2^35):PX 60 [encS t] (encB (J06 t.data.toList).2):=by
 refine PZ Tryz.func60 rfl ?_;have hpq:=J22 t.data.toList ht;rw[J17,J9J] at hpq;have hq2:=J1Z (J06 t.data.toList).1;generalize qAV (J06 t.data.toList).1=q at *;generalize (J06 t.data.toList).2=ok at *
 rcases hq2 with rfl|⟨n,d,rfl⟩
 all_goals
  refine kWS ?_;intros;refine J00 [] _ c134 hpq ?_;refine kWS ?_;intros;exact .of rfl
theorem JJw (t:ByteArray):Le (.agg [encS t,encB false,.val (.slice none 0 0)]) (J0e ⟨t,false,[]⟩):=by
 have h:=Le.cons (Le.refl (encS t)) (Le.cons (Le.refl (encB false)) (Le.cons (Le.nil 4) JGl));exact Le.agg h.1 h.2
theorem J53 (vs:List Va){values:List ByteArray}(hv:∀ x∈values,x.size<2^35):∀ (l:List U) (i:Nat),(∀ u∈l,u.name.size<2^35)→∀ b∈bndL vs values i l,b.use.name.size<2^35∧b.value.size<2^35
 |[],_,_,b,hb=>by cases hb
 |u :: r,i,hn,b,hb=>by
   unfold bndL at hb
   rcases List.mem_cons.1 hb with rfl|hb
   ·refine ⟨hn u (by simp),?_⟩;show (valB values i (tyL vs u.name)).size<2^35
    unfold valB;split
    ·split
     ·rename_i x hx;split
      ·exact hv x (List.mem_of_getElem? hx)
      ·decide
     ·decide
    ·decide
   ·exact J53 vs hv r (i+1) (fun w hw=>hn w (by simp[hw])) b hb
theorem J8h (vs:List Va)(values:List ByteArray):∀ (l:List U) (i:Nat) (b:Bd),b∈bndL vs values i l→b.use∈l
 |[],_,b,hb=>by cases hb
 |u::r,i,b,hb=>by
   unfold bndL at hb
   rcases List.mem_cons.1 hb with rfl|hb
   ·simp
   ·simp[J8h vs values r (i+1) b hb]
theorem J7K {n:ByteArray}(h:nameF n=true):n.size<2^35:=by
 unfold nameF at h;simp only[Bool.and_eq_true,decide_eq_true_eq] at h;omega
theorem JHO {l:List U}(h:SrtU l){i:Nat}(hi:i<l.length):∀ w∈l.take i,J0F w l[i]=true:=by
 intro w hw;have h1:l=l.take i++l[i]::l.drop (i+1):=by rw[← List.drop_eq_getElem_cons hi,List.take_append_drop]
 unfold SrtU at h;rw[h1,List.pairwise_append] at h;exact h.2.2 w hw l[i] List.mem_cons_self
theorem JEY {l:List U}(h:SrtU l)(i:Nat):SrtU (l.take i):=List.Pairwise.sublist (List.take_sublist i l) h
theorem JGV {s:Sys}(hs:SzS s){x:Ex}(values:List ByteArray)(hv:∀ x∈values,x.size<2^35)(h1:(typeS s x).2=0)(h2:(J12 x).2=0)(i:Nat)(hi:i<(J12 x).1.length) :
  PX 43 [J0e ⟨one1,false,bndL s.vars values 0 ((J12 x).1.take i)⟩,encU (J12 x).1[i],encS (valB values i (tyL s.vars (J12 x).1[i].name))]
   (.tup [J0e ⟨one1,false,bndL s.vars values 0 ((J12 x).1.take (i+1))⟩,encI 0]):=by
 obtain ⟨hc,htl,hb,ht,_⟩:=J4q h1;have hle:=J7z x
 have hu:(J12 x).1=usesR x []:=by
  rw[J2S] at h2 ⊢;split at h2
  ·rename_i h;rw[if_pos h]
  ·rename_i h;exact absurd h2 h
 have hty:=fun n=>(J5F hc n).2;have hfit:∀ u∈(J12 x).1,fitF u=true:=fun u h=>JAw u x hb (by rw[hu,J2Z] at h;simpa using h);have hsrt:SrtU (J12 x).1:=by rw[hu];exact J3Q x [] List.Pairwise.nil
 clear hu h2;generalize (J12 x).1=l at *
 have hname:∀ u∈l,u.name.size<2^35:=fun u h=>by
  have:=hfit u h;unfold fitF at this;simp only[Bool.and_eq_true] at this;exact J7K this.1.1
 have hft:∀ u∈l.take i,u∈l:=fun u h=>List.mem_of_mem_take h;have hg:=J6R s.vars values hty (l.take i) 0 none (JEY hsrt i) (fun u h=>hfit u (hft u h)) fun _ _=>rfl;obtain ⟨ev,e1,_⟩:=J8D (tm:=one1) (ini:=false) J2Y (by rw[J2y,List.length_take];omega) hg;obtain ⟨w,hw,_⟩:=J7y values i (hty l[i].name);have hz:SzB ⟨one1,false,bndL s.vars values 0 (l.take i)⟩:=⟨(by show one1.size<2^35;decide),by rw[J2y,List.length_take];omega,J53 s.vars hv _ 0 fun u h=>hname u (hft u h)⟩;have hm:=List.getElem_mem hi
 have hsnoc:bndL s.vars values 0 (l.take (i+1))=bndL s.vars values 0 (l.take i)++[⟨l[i],valB values i (tyL s.vars l[i].name)⟩]:=by
  rw[List.take_succ_eq_append_getElem hi,JA8,List.length_take];rw[show 0+min i l.length=i by omega]
 have hval:(valB values i (tyL s.vars l[i].name)).size<2^35:=by
  have:=J53 s.vars hv (l.take (i+1)) 0 (fun u h=>hname u (List.mem_of_mem_take h)) ⟨l[i],valB values i (tyL s.vars l[i].name)⟩ (by rw[hsnoc];simp);exact this.2
 have:=JDs ⟨one1,false,bndL s.vars values 0 (l.take i)⟩ hz l[i] (hname _ hm) _ hval e1 hw (hfit _ hm) (fun b hb=>JHO hsrt hi _ (J8h _ _ _ _ b hb)) (fun b hb=>hfit _ (hft _ (J8h _ _ _ _ b hb))) (by rw[J2y,List.length_take];omega);rw[hsnoc];exact this
theorem JL9 {g:Nat}{H:Hp}{γ:Nat}(hb:H 999=some (γ,⟨82,4,[]⟩)):some (g,(⟨33,3,([.agg [encS one1,encB false,.own 999 γ 0 0]]:List AV).map (J0O (J03 [999] H 3))⟩:Blk))=some (g,⟨33,3,[J0e ⟨one1,false,[]⟩]⟩):=by
 refine congrArg (fun z=>some (g,(⟨33,3,[.agg [encS one1,encB false,z]]⟩:Blk))) ?_;exact (JCv (B:=⟨82,4,[]⟩) (by decide) hb (by decide)).trans rfl
theorem J6p (ha:PX 40 [] (encB true))(s:Sys)(hs:SzS s)(x:Ex)(gx:GdE x)(values:List ByteArray)(hvl:values.length≤2^40)(hv:∀ x∈values,x.size<2^35) :
  PX 14 [J0h s,encE x,.sl 1 (values.map encS)] (encB true):=by
 refine PZ Tryz.func14 rfl ?_;have hg:=JGq s hs hs.v20;have h1:=JCS s x hs gx.1 gx.2;have h2:=JMw x gx;have hstep:=fun a b=>@JGV s hs x values hv a b;have hlaw:=fun a b=>@JGR s hs x values a b;have hv20:=hs.v20;have hR:=fun t ht=>JId t ht;have hus:=J7z x;have hE:=fun e he=>J57 s x e hs gx.1 gx.2 he
 have hszb:∀ (hT:(typeS s x).2=0) (hU:(J12 x).2=0),SzB ⟨one1,false,bndL s.vars values 0 (J12 x).1⟩:=fun hT hU=>by
  obtain ⟨hc,htl,hb,ht,_⟩:=J4q hT
  have hu:(J12 x).1=usesR x []:=by
   rw[J2S] at hU ⊢;split at hU
   ·rename_i h;rw[if_pos h]
   ·rename_i h;exact absurd hU h
  refine ⟨(by show one1.size<2^35;decide),by rw[J2y];omega,J53 s.vars hv _ 0 fun u h=>?_⟩;rw[hu,J2Z] at h;have:=JAw u x hb (by simpa using h);unfold fitF at this;simp only[Bool.and_eq_true] at this;exact J7K this.1.1
 have hE0:PX 38 [J0h s,encE x,.agg [encS one1,encB false,.val (.slice none 0 0)]] (JKB (J31 s x ⟨one1,false,[]⟩)):=by
  refine JJj (hE ⟨one1,false,[]⟩ ⟨by decide,by simp,by simp⟩) ⟨rfl,fun i h h'=>?_⟩
  match i,h with
  |0,_=>exact Le.refl _
  |1,_=>exact Le.refl _
  |2,_=>exact JJw one1
 generalize greatS s=gr at *;obtain ⟨⟨l,f0⟩,hlo⟩:∃ lo,J12 x=lo:=⟨_,rfl⟩;obtain ⟨⟨t1,t2⟩,hty⟩:∃ t,typeS s x=t:=⟨_,rfl⟩;rw[hlo] at h2 hstep hlaw hus hszb;rw[hty] at h1 hstep hlaw hszb;simp only at hstep hlaw hus hszb;have hEb:=fun hT hU=>hE _ (hszb hT hU);clear hE hszb hlo hty;obtain ⟨r0,hr0⟩:∃ r,J31 s x ⟨one1,false,[]⟩=r:=⟨_,rfl⟩;obtain ⟨r1,hr1⟩:∃ r,J31 s x ⟨one1,false,bndL s.vars values 0 l⟩=r:=⟨_,rfl⟩;rw[hr0] at hE0 hlaw;rw[hr1] at hlaw hEb;clear hr0 hr1;obtain ⟨p0,e0⟩:=r0;obtain ⟨p1,e1⟩:=r1;obtain ⟨vs,qs,ns,ws⟩:=s;simp only at *;rw[J02] at *;unfold J0h JLI JKB at *;simp only at *;clear hs gx;have hmv:=@List.length_map _ _ vs encV;have hml:=@List.length_map _ _ l encU;have hmt:=@List.length_map _ _ values encS;refine kWQ ?_;intros;refine CallP.flat [] _ c22 hg rfl ?_
 cases gr with
 |true=>
   refine kWQ ?_;intros;refine CallP.flat [] _ c40 ha rfl ?_;refine kWQ ?_;intros;exact .of rfl
 |false=>
 refine kWQ ?_;intros;refine J00 [] _ c48 h1 ?_;refine kWQ ?_;intros;refine J00 [] _ c46 h2 ?_
 by_cases k1:t2=0
 case' neg=>
  refine kWQ ?_;intros;refine CallP.flat [] _ c40 ha rfl ?_;refine kWQ ?_;intros;exact .of rfl
 by_cases k2:f0=0
 case' neg=>
  refine kWQ ?_;intros;refine CallP.flat [] _ c40 ha rfl ?_;refine kWQ ?_;intros;exact .of rfl
 have hstep:=hstep k1 k2;have hlaw:=hlaw k1 k2;have hEb:=hEb k1 k2;clear h1 h2 hg;refine kWQ ?_;intros
 refine LoopP.intro (fun k σ H=>∃ g3 g4 g11 i,k=l.length-i∧i≤l.length ∧
  σ=fr [(2,.sl 1 (values.map encS)),(3,.op 3 g3 0 0),(4,.op 4 g4 0 0),(9,JDX l),(11,.op 11 g11 0 0),(12,encI i)] ∧
  H = hp [(3,g3,⟨26,4,[.agg [.sl 7 (vs.map encV),.sl 9 (qs.map J0i),.sl 9 (ns.map J0i),.sl 6 (ws.map J19)]]⟩),(4,g4,⟨29,4,[.agg [encS x.op,encS x.text,encI x.order,.sl 4 (x.kids.map encE)]]⟩),
    (11,g11,⟨33,3,[J0e ⟨one1,false,bndL vs values 0 (l.take i)⟩]⟩)]) ?_ ?_
 ·refine .intro <| JJA 11 _ 0 2 999 82 4 ⟨33,3,[.agg [encS one1,encB false,.val (.slice none 0 0)]]⟩ [encS one1,encB false,.val (.slice none 0 0)] rfl rfl rfl rfl (by decide) fun gl=>?_
  refine JLt [999] 11 _ _ rfl (by decide) ?_;exact W.of ⟨_,_,_,_,0,rfl,Nat.zero_le _,rfl,rfl⟩ ⟨rfl,rfl,rfl,rfl,rfl,rfl,trivial⟩ ⟨rfl,rfl,JL9 rfl,trivial⟩
 rintro k σ H ⟨g3,g4,g11,i,rfl,hi,rfl,rfl⟩
 rcases Nat.lt_or_ge i l.length with h9|h9
 ·have hst:=hstep i h9;obtain ⟨u,huu⟩:∃ u,l[i]=u:=⟨_,rfl⟩;rw[huu] at hst;refine kWQ ?_;intros
  refine LoopP.intro (fun k σ H=>∃ g3 g4 g11 j,∃ t:Int,k=vs.length-j∧j≤vs.length∧(vs.drop j).foldl (fun t v=>if v.name=u.name then v.type else t) t=tyL vs u.name ∧
   σ=fr [(2,.sl 1 (values.map encS)),(3,.op 3 g3 0 0),(4,.op 4 g4 0 0),(9,JDX l),(11,.op 11 g11 0 0),(12,encI i),(13,encI t),(14,encI j)] ∧
   H = hp [(3,g3,⟨26,4,[.agg [.sl 7 (vs.map encV),.sl 9 (qs.map J0i),.sl 9 (ns.map J0i),.sl 6 (ws.map J19)]]⟩),(4,g4,⟨29,4,[.agg [encS x.op,encS x.text,encI x.order,.sl 4 (x.kids.map encE)]]⟩),
     (11,g11,⟨33,3,[J0e ⟨one1,false,bndL vs values 0 (l.take i)⟩]⟩)]) ?_ ?_
  ·exact .intro <| W.of ⟨_,_,_,_,0,0,rfl,Nat.zero_le _,rfl,rfl,rfl⟩ ⟨rfl,rfl,rfl,rfl,rfl,rfl,rfl,rfl,trivial⟩ ⟨rfl,rfl,rfl,trivial⟩
  rintro k σ H ⟨g3,g4,g11,j,t,rfl,hj,hacc,rfl,rfl⟩
  rcases Nat.lt_or_ge j vs.length with h8|h8
  ·rw[List.drop_eq_getElem_cons h8,List.foldl_cons] at hacc;obtain ⟨v,hvv⟩:∃ v,vs[j]=v:=⟨_,rfl⟩;rw[hvv] at hacc
   by_cases hn:v.name=u.name
   ·rw[if_pos hn] at hacc;refine kWQ ?_;intros
    (repeat (simp only[huu,hvv];refine kQ ?_;intros))
    exact .intro <| W.of ⟨_,by omega,g3,g4,g11,j+1,v.type,rfl,h8,hacc,rfl,rfl⟩ ⟨rfl,rfl,rfl,rfl,rfl,rfl,rfl,rfl,trivial⟩ ⟨rfl,rfl,rfl,trivial⟩
   ·rw[if_neg hn] at hacc;refine kWQ ?_;intros
    (repeat (simp only[huu,hvv];refine kQ ?_;intros))
    exact .intro <| W.of ⟨_,by omega,g3,g4,g11,j+1,t,rfl,h8,hacc,rfl,rfl⟩ ⟨rfl,rfl,rfl,rfl,rfl,rfl,rfl,rfl,trivial⟩ ⟨rfl,rfl,rfl,trivial⟩
  ·obtain rfl:j=vs.length:=by omega
   rw[List.drop_eq_nil_of_le (Nat.le_refl _)] at hacc;replace hacc:t=tyL vs u.name:=hacc;rw[← hacc] at hst
   by_cases ht0:t=0
   ·subst ht0
    rcases Nat.lt_or_ge i values.length with h7|h7
    ·obtain ⟨x0,hx0⟩:∃ x0,values[i]=x0:=⟨_,rfl⟩;have hv0:values[i]?=some x0:=by rw[List.getElem?_eq_getElem h7,hx0]
     have hr:=hR x0 (hv x0 (hx0 ▸ List.getElem_mem h7));unfold valB at hst;rw[if_pos rfl,hv0] at hst;simp only at hst
     cases hp:(J06 x0.data.toList).2 with
     |true=>
       rw[hp] at hr;rw[if_pos hp] at hst;refine kWQ ?_;intros
       (repeat (simp only[hx0];refine kQ ?_;intros))
       refine CallP.flat [] _ c60 hr rfl ?_;refine kWQ ?_;intros
       (repeat (simp only[hx0,huu];refine kQ ?_;intros))
       refine CallG.intro _ c43 hst ?_;refine kWQ ?_;intros
       exact .intro <| W.of ⟨_,by omega,g3,g4,g11,i+1,rfl,h9,rfl,rfl⟩ ⟨rfl,rfl,rfl,rfl,rfl,rfl,trivial⟩ ⟨rfl,rfl,rfl,trivial⟩
     |false=>
       rw[hp] at hr;rw[if_neg (by rw[hp];decide)] at hst;refine kWQ ?_;intros
       (repeat (simp only[hx0];refine kQ ?_;intros))
       refine CallP.flat [] _ c60 hr rfl ?_;refine kWQ ?_;intros
       (repeat (simp only[huu];refine kQ ?_;intros))
       refine CallG.intro _ c43 hst ?_;refine kWQ ?_;intros
       exact .intro <| W.of ⟨_,by omega,g3,g4,g11,i+1,rfl,h9,rfl,rfl⟩ ⟨rfl,rfl,rfl,rfl,rfl,rfl,trivial⟩ ⟨rfl,rfl,rfl,trivial⟩
    ·have hv0:values[i]?=none:=List.getElem?_eq_none h7;unfold valB at hst;rw[if_pos rfl,hv0] at hst;simp only at hst;refine kWQ ?_;intros
     (repeat (simp only[huu];refine kQ ?_;intros))
     refine CallG.intro _ c43 hst ?_;refine kWQ ?_;intros
     exact .intro <| W.of ⟨_,by omega,g3,g4,g11,i+1,rfl,h9,rfl,rfl⟩ ⟨rfl,rfl,rfl,rfl,rfl,rfl,trivial⟩ ⟨rfl,rfl,rfl,trivial⟩
   ·unfold valB at hst;rw[if_neg ht0] at hst;refine kWQ ?_;intros
    (repeat (simp only[huu];refine kQ ?_;intros))
    refine CallG.intro _ c43 hst ?_;refine kWQ ?_;intros
    exact .intro <| W.of ⟨_,by omega,g3,g4,g11,i+1,rfl,h9,rfl,rfl⟩ ⟨rfl,rfl,rfl,rfl,rfl,rfl,trivial⟩ ⟨rfl,rfl,rfl,trivial⟩
 ·obtain rfl:i=l.length:=by omega
  rw[List.take_length];refine kWQ ?_;intros;refine J00 [] _ c38 hEb ?_;obtain ⟨q1,q2⟩:=hlaw
  rcases Nat.eq_zero_or_pos l.length with hz|hz
  all_goals rcases q1 with rfl|rfl|rfl
  all_goals
   refine kWQ ?_;intros;refine J00 [] _ c38 hE0 ?_
   rcases q2 with rfl|⟨rfl,hne⟩
   all_goals
    first
    |exact absurd (List.eq_nil_of_length_eq_zero hz) hne
    | (refine kWQ ?_;intros
       refine CallP.flat [] _ c40 ha rfl ?_;refine kWQ ?_;intros
       (repeat (simp only[beq_self_eq_true,decide_true];refine kQ ?_;intros))
       exact .of rfl)
theorem OpenB.low {H:Type}{L:DataW H→Prop}{N M:Nat}{enc:TypeId×Value→H}{P:Program}{w:World}{t:Nat}{Ψ:List AV→Prop}(h:OpenB L M enc P w t Ψ)(hn:N≤M):OpenB L N enc P w t Ψ:=fun fuel hf=>h fuel (Nat.le_trans hf hn)
theorem J1W {t e:Nat}{d:Fw.TD}(hd:T t=some d)(hk:d.kind=.slice e):Tryz.prog.underlying t=some (.slice e):=by
 obtain ⟨u,hu,hr⟩:=(J0T (J4S _ _ hd)).und;rw[hk] at hr;cases u<;>simp[kdOf] at hr
 subst hr;exact hu
theorem u3:Tryz.prog.underlying 3=some (.int .i64):=by kernel_rfl
theorem u4:Tryz.prog.underlying 4=some .bool:=by kernel_rfl
theorem u9:Tryz.prog.underlying 9=some .string:=by kernel_rfl
section
variable {H:Type} {enc:TypeId×Value→H} {w:World} {L:DataW H→Prop} {B0:Nat}
abbrev pS (B0:Nat):List AV→Prop:=fun z=>∃ s:ByteArray,z=[AV.val (.string s)]∧s.size≤B0
abbrev pI:List AV→Prop:=fun z=>∃ n:Int,z=[AV.val (.int .i64 n)]
abbrev pB:List AV→Prop:=fun z=>∃ b:Bool,z=[AV.val (.bool b)]
def JAS (e:Ex):Prop:=SzE e∧TxE e
abbrev pExp (w:World):List AV→Prop:=fun z=>∃ e:Ex,z=(encE e).cells∧JAS e
theorem JDG (hL:LB L B0)(hB:B0<2^21):∀ N:Nat,OpenB L N enc Tryz.prog w 29 (pExp w)
 |0=>by
   intro fuel hf cs x h _;obtain ⟨fs,hu,_⟩:=J0f (J4S 29 _ rfl) rfl;obtain ⟨_,n,hn,_⟩:=DataW.trod_struct hu h;omega
 |N + 1=>by
   obtain ⟨fs,hu,hf⟩:=J0f (J4S 29 _ rfl) rfl;have hk:=OpenB.low (J1H (n:=4) (f:=encE) (Φ:=JAS) hL (J1W (t:=27) (e:=29) rfl rfl) (by kernel_rfl) (by decide) (JDG hL hB N)) (Nat.le_succ N)
   refine (J0x hL hu [(0,9,1,pS B0),(1,9,1,pS B0),(2,3,1,pI),(3,27,1,_)] hf (by
    intro p hp;simp only[List.mem_cons,List.not_mem_nil,or_false] at hp
    rcases hp with rfl|rfl|rfl|rfl<;>kernel_rfl) (by kernel_rfl) (by
    intro p hp;simp only[List.mem_cons,List.not_mem_nil,or_false] at hp
    rcases hp with rfl|rfl|rfl|rfl
    ·exact J0n hL u9
    ·exact J0n hL u9
    ·exact J3T u3
    ·exact hk)).mono ?_
   rintro z ⟨zs,rfl,h⟩
   match zs,h with
   |[z0,z1,z2,z3],⟨⟨o,h0,ho⟩,⟨t,h1,ht⟩,⟨n,h2⟩,⟨l,h3,hl,hg⟩,_⟩=>
     subst h0 h1 h2 h3;refine ⟨.mk o t n l,?_,SzE.mk (by omega) (by omega) (by omega) fun k hk=>(hg k hk).1,TxE.mk (by omega) fun k hk=>(hg k hk).2⟩;rw[J02];rfl
theorem JL2 (hL:LB L B0)(hB:B0<2^21)(N:Nat):OpenB L (N+1) enc Tryz.prog w 58 fun z=>∃ q:Eqn,z=(J0i q).cells∧q.name.size≤B0∧JAS q.left∧JAS q.right:=by
 obtain ⟨fs,hu,hf⟩:=J0f (J4S 58 _ rfl) rfl
 refine (J0x hL hu [(0,9,1,pS B0),(1,29,4,pExp w),(5,29,4,pExp w)] hf (by
  intro p hp;simp only[List.mem_cons,List.not_mem_nil,or_false] at hp
  rcases hp with rfl|rfl|rfl<;>kernel_rfl) (by kernel_rfl) (by
  intro p hp;simp only[List.mem_cons,List.not_mem_nil,or_false] at hp
  rcases hp with rfl|rfl|rfl
  ·exact J0n hL u9
  ·exact JDG hL hB N
  ·exact JDG hL hB N)).mono ?_
 rintro z ⟨zs,rfl,h⟩
 match zs,h with
 |[z0,z1,z2],⟨⟨s,h0,hs⟩,⟨a,h1,ha⟩,⟨b,h2,hb⟩,_⟩=>
   subst h0 h1 h2;refine ⟨⟨s,a,b⟩,?_,hs,ha,hb⟩;rw[J0H,J0H];rfl
theorem JL3 (hL:LB L B0)(hB:B0<2^21)(N:Nat):OpenB L (N+1) enc Tryz.prog w 260 fun z=>∃ a:Ac,z=(J9i a).cells∧JAS a.value:=by
 obtain ⟨fs,hu,hf⟩:=J0f (J4S 260 _ rfl) rfl
 refine (J0x hL hu [(0,3,1,pI),(1,9,1,pS B0),(2,29,4,pExp w)] hf (by
  intro p hp;simp only[List.mem_cons,List.not_mem_nil,or_false] at hp
  rcases hp with rfl|rfl|rfl<;>kernel_rfl) (by kernel_rfl) (by
  intro p hp;simp only[List.mem_cons,List.not_mem_nil,or_false] at hp
  rcases hp with rfl|rfl|rfl
  ·exact J3T u3
  ·exact J0n hL u9
  ·exact JDG hL hB N)).mono ?_
 rintro z ⟨zs,rfl,h⟩
 match zs,h with
 |[z0,z1,z2],⟨⟨n,h0⟩,⟨s,h1,hs⟩,⟨b,h2,hb⟩,_⟩=>
   subst h0 h1 h2;refine ⟨⟨n,s,b⟩,?_,hb⟩;rw[J0H];rfl
theorem JKy (hL:LB L B0)(hB:B0<2^21)(N:Nat):OpenB L (N+3) enc Tryz.prog w 228 fun z=>∃ a:Whn,z=(J19 a).cells∧a.name.size≤B0∧a.acts.length≤B0∧JAS a.cond∧∀ x∈a.acts,JAS x.value:=by
 obtain ⟨fs,hu,hf⟩:=J0f (J4S 228 _ rfl) rfl;have hk:=J1H (n:=6) (f:=J9i) (Φ:=fun a=>JAS a.value) hL (J1W (t:=226) (e:=260) rfl rfl) (by kernel_rfl) (by decide) (JL3 (enc:=enc) (w:=w) hL hB N)
 refine (J0x hL hu [(0,9,1,pS B0),(1,29,4,pExp w),(5,226,1,_)] hf (by
  intro p hp;simp only[List.mem_cons,List.not_mem_nil,or_false] at hp
  rcases hp with rfl|rfl|rfl<;>kernel_rfl) (by kernel_rfl) (by
  intro p hp;simp only[List.mem_cons,List.not_mem_nil,or_false] at hp
  rcases hp with rfl|rfl|rfl
  ·exact J0n hL u9
  ·exact JDG hL hB _
  ·exact hk)).mono ?_
 rintro z ⟨zs,rfl,h⟩
 match zs,h with
 |[z0,z1,z2],⟨⟨s,h0,hs⟩,⟨a,h1,ha⟩,⟨l,h2,hl,hb⟩,_⟩=>
   subst h0 h1 h2;refine ⟨⟨s,a,l⟩,?_,hs,hl,ha,hb⟩;rw[J0H];rfl
theorem JKz (hL:LB L B0)(N:Nat):OpenB L (N+1) enc Tryz.prog w 89 fun z=>∃ v:Va,z=(encV v).cells∧v.name.size≤B0∧v.value.size≤B0∧v.start.size≤B0∧v.unit.size≤B0:=by
 obtain ⟨fs,hu,hf⟩:=J0f (J4S 89 _ rfl) rfl
 refine (J0x hL hu [(0,9,1,pS B0),(1,3,1,pI),(2,3,1,pI),(3,9,1,pS B0),(4,9,1,pS B0),(5,4,1,pB),(6,9,1,pS B0)] hf (by
  intro p hp;simp only[List.mem_cons,List.not_mem_nil,or_false] at hp
  rcases hp with rfl|rfl|rfl|rfl|rfl|rfl|rfl<;>kernel_rfl) (by kernel_rfl) (by
  intro p hp;simp only[List.mem_cons,List.not_mem_nil,or_false] at hp
  rcases hp with rfl|rfl|rfl|rfl|rfl|rfl|rfl
  ·exact J0n hL u9
  ·exact J3T u3
  ·exact J3T u3
  ·exact J0n hL u9
  ·exact J0n hL u9
  ·exact JDH u4
  ·exact J0n hL u9)).mono ?_
 rintro z ⟨zs,rfl,h⟩
 match zs,h with
 |[z0,z1,z2,z3,z4,z5,z6],⟨⟨a,h0,g0⟩,⟨b,h1⟩,⟨c,h2⟩,⟨d,h3,g3⟩,⟨e,h4,g4⟩,⟨f,h5⟩,⟨g,h6,g6⟩,_⟩=>
   subst h0 h1 h2 h3 h4 h5 h6;exact ⟨⟨a,b,c,d,e,f,g⟩,rfl,g0,g3,g4,g6⟩
theorem JL0 (hL:LB L B0)(hB:B0≤2^20)(N:Nat):OpenB L (N+5) enc Tryz.prog w 26 fun z=>∃ s:Sys,z=(J0h s).cells∧SzS s:=by
 obtain ⟨fs,hu,hf⟩:=J0f (J4S 26 _ rfl) rfl;have hB':B0<2^21:=by omega
 have k1:=OpenB.low (J1H (n:=7) (f:=encV) hL (J1W (t:=22) (e:=89) rfl rfl) (by kernel_rfl) (by decide) (JKz (enc:=enc) (w:=w) hL (N+2))) (N:=N+4) (by omega);have k2:=OpenB.low (J1H (n:=9) (f:=J0i) hL (J1W (t:=23) (e:=58) rfl rfl) (by kernel_rfl) (by decide) (JL2 (enc:=enc) (w:=w) hL hB' (N+2))) (N:=N+4) (by omega);have k3:=OpenB.low (J1H (n:=6) (f:=J19) hL (J1W (t:=24) (e:=228) rfl rfl) (by kernel_rfl) (by decide) (JKy (enc:=enc) (w:=w) hL hB' N)) (N:=N+4) (by omega)
 refine (J0x hL hu [(0,22,1,_),(1,23,1,_),(2,23,1,_),(3,24,1,_)] hf (by
  intro p hp;simp only[List.mem_cons,List.not_mem_nil,or_false] at hp
  rcases hp with rfl|rfl|rfl|rfl<;>kernel_rfl) (by kernel_rfl) (by
  intro p hp;simp only[List.mem_cons,List.not_mem_nil,or_false] at hp
  rcases hp with rfl|rfl|rfl|rfl
  ·exact k1
  ·exact k2
  ·exact k2
  ·exact k3)).mono ?_
 rintro z ⟨zs,rfl,h⟩
 match zs,h with
 |[z0,z1,z2,z3],⟨⟨vs,h0,l0,g0⟩,⟨qs,h1,l1,g1⟩,⟨ns,h2,l2,g2⟩,⟨ws,h3,l3,g3⟩,_⟩=>
   subst h0 h1 h2 h3;refine ⟨⟨vs,qs,ns,ws⟩,rfl,⟨by simp only;omega,by simp only;omega,by simp only;omega,by simp only;omega,fun w hw=>?_,fun e he=>?_,fun v hv=>?_,⟨fun q hq=>?_,fun q hq=>?_,fun w hw=>?_⟩,by simp only;omega⟩⟩
   ·have:=(g3 w hw).2.1;omega
   ·unfold allF at he
    rcases List.mem_append.1 he with he|he
    ·rcases List.mem_append.1 he with he | he
     ·unfold J1X at he;obtain ⟨q,hq,he⟩:=List.mem_flatMap.1 he;simp only[List.mem_cons,List.not_mem_nil,or_false] at he
      rcases he with rfl|rfl
      ·exact (g1 q hq).2.1
      ·exact (g1 q hq).2.2
     ·unfold J1X at he;obtain ⟨q,hq,he⟩:=List.mem_flatMap.1 he;simp only[List.mem_cons,List.not_mem_nil,or_false] at he
      rcases he with rfl|rfl
      ·exact (g2 q hq).2.1
      ·exact (g2 q hq).2.2
    ·obtain ⟨x,hx,he⟩:=List.mem_flatMap.1 he;unfold J5C at he
     rcases List.mem_cons.1 he with rfl|he
     ·exact (g3 x hx).2.2.1
     ·obtain ⟨a,ha,rfl⟩:=List.mem_map.1 he;exact (g3 x hx).2.2.2 a ha
   ·have:=g0 v hv;exact ⟨by omega,by omega,by omega,by omega⟩
   ·have:=(g1 q hq).1;omega
   ·have:=(g2 q hq).1;omega
   ·have:=(g3 w hw).1;omega
end
theorem JGX (e:Ex):AV.agg (encE e).cells=encE e:=by rw[J0H];rfl
section
variable {H:Type} {enc:TypeId×Value→H} {w:World} {L:DataW H→Prop} {B0:Nat}
theorem JL1 (hL:LB L B0)(N:Nat):OpenB L N enc Tryz.prog w 39 fun z=>∃ l:List ByteArray,z=[AV.sl 1 (l.map encS)]∧l.length≤B0∧∀ s∈l,s.size≤B0:=
 (OpenB.low (J1H (n:=1) (f:=encS) (Φ:=fun s=>s.size≤B0) hL (J1W (t:=39) (e:=9) rfl rfl) (by kernel_rfl) (by decide) (J0n (N:=N) hL u9)) (by omega)).mono fun z ⟨l,h1,h2,h3⟩=>⟨l,h1,h2,h3⟩
end
end Go.Proofs.YtlblbldolhiokaaGreatDoor
namespace Go.Proofs.YtlblbldolhiokaaGreatDoor
open Go Go.Fw Go.ChangeShapes Go.WideShapes Go.ChangeAt Go.RowKit
theorem JHf:ownKnob Tryz.prog.godebug=none:=by kernel_rfl
theorem J4u:laidOutB Tryz.prog=true:=by kernel_rfl
section
variable {H:Type}
theorem JLs (d:DataW H):1≤Rows.uptoBulk d:=by
 cases d with
 |lit l=>cases l<;>simp[Rows.uptoBulk]
 |_=>simp[Rows.uptoBulk]
theorem J6Q {d:DataW H}{l:List (DataW H)}(h:d∈l):Rows.uptoBulk d≤Rows.uptoBulkAll l:=by
 induction l with
 |nil=>cases h
 |cons x r ih=>
   simp only[Rows.uptoBulkAll]
   cases List.mem_cons.1 h with
   |inl e=>subst e;omega
   |inr e=>have:=ih e;omega
theorem JIT (l:List (DataW H)):l.length≤Rows.uptoBulkAll l:=by
 induction l with
 |nil=>simp[Rows.uptoBulkAll]
 |cons x r ih=>have:=JLs x;simp only[Rows.uptoBulkAll,List.length_cons];omega
abbrev Blk (H:Type):DataW H→Prop:=fun d=>Rows.uptoBulk d≤1048576
theorem JGP:LB (Blk H) 1048576:=by
 refine ⟨fun e s h=>?_,fun p h d hd=>?_,fun s h=>?_⟩
 ·have h:Rows.uptoBulkAll e+Rows.uptoBulkAll s+1≤1048576:=by simpa [Blk,Rows.uptoBulk] using h
  refine ⟨by have:=JIT e;omega,fun d hd=>?_⟩;have:=J6Q hd;show Rows.uptoBulk d≤1048576
  omega
 ·have h:Rows.uptoBulkAll p+1≤1048576:=by simpa [Blk,Rows.uptoBulk] using h
  have:=J6Q hd;show Rows.uptoBulk d≤1048576
  omega
 ·have h:s.length+1≤1048576:=by simpa [Blk,Rows.uptoBulk] using h
  omega
theorem JEf {l:List (DataW H)}(h:Rows.uptoSmall H l=true):∀ d∈l,Blk H d:=fun d hd=>by
 have h:Rows.uptoBulkAll l≤1048576:=by simpa [Rows.uptoSmall] using h
 exact Nat.le_trans (J6Q hd) h
end
section
variable {H:Type} {enc:TypeId×Value→H} {w:World} {L:DataW H→Prop} {N t:Nat} {Ψ:List AV→Prop}
theorem JBv (hO:OpenB L N enc Tryz.prog w t Ψ){fuel:Nat}(hf:fuel≤N){v:Value}{x:DataW H×List MemPlace}(hv:∃ cs,v=.agg cs)(h:DataW.trod enc Tryz.prog w 0 (fun _=>true) true fuel t v.cells.toList=some x)(hl:L x.1):∃ z,Ψ z∧VR KM.empty w NoN (.agg z) v:=by
 obtain ⟨z,h1,h2⟩:=hO fuel hf _ x h hl;obtain ⟨cs,rfl⟩:=hv;have e:(Value.agg cs).cells.toList=cs.toList:=by simp[Value.cells]
 rw[e] at h1;refine ⟨z,h2,.agg _ cs (h1.len.trans (by simp)) (fun i h h'=>?_) (fun i h=>h1.pl _ (by simp))⟩;have:=h1.rel i h (by simpa using h');rw[Array.getElem_toList] at this;exact this
theorem JF6 (hO:OpenB L N enc Tryz.prog w t Ψ){fuel:Nat}(hf:fuel≤N){v:Value}{x:DataW H×List MemPlace}(hv:v.cells=#[v])(h:DataW.trod enc Tryz.prog w 0 (fun _=>true) true fuel t v.cells.toList=some x)(hl:L x.1):∃ z,Ψ [z]∧VR KM.empty w NoN z v:=by
 obtain ⟨z,h1,h2⟩:=hO fuel hf _ x h hl;rw[hv] at h1
 match z,h1.len with
 |[z],_=>exact ⟨z,h2,h1.rel 0 (by simp) (by simp)⟩
end
def flatD:Nat→DataW Unit→List Value
 |_,.lit (.int k n)=>[.int k n]
 |n+1,.agg ps=>ps.flatMap (flatD n)
 |_,_=>[]
def putT (d:DataW Unit):Obj→Obj
 |.cells _ t z=>.cells (flatD 3 d).toArray t z
 |o=>o
noncomputable def laidW (os:Os):World:=
 { World.holding Tryz.prog os ⟨#[],#[],[]⟩ with heap:=((World.holding Tryz.prog os ⟨#[],#[],[]⟩).heap.modify 1 (putT Rows.laid_unicode_utf8_first)).modify 2 (putT Rows.laid_unicode_utf8_acceptRanges) }
abbrev laidL:List (String×DataW Unit):=[("unicode/utf8.acceptRanges",Rows.laid_unicode_utf8_acceptRanges),("unicode/utf8.first",Rows.laid_unicode_utf8_first)]
theorem JHp (os:Os)(args:Array Value):laidMet Tryz.prog laidL ((laidW os).forCall (fun _ _=>0) ⟨#[],args,[]⟩).memory:=
 laidMet_of_run' 8 (by kernel_rfl) (by kernel_rfl)
theorem JDJ:mapsRowed Tryz.prog=true:=by kernel_rfl
theorem JAk:Tryz.prog.stopsHeard=true:=by kernel_rfl
theorem JFG:Tryz.prog.mayEnter=true:=by kernel_rfl
theorem JAy:(Rows.systemHoldsUptoRow.lifted==Tryz.prog.liftsFinal)=true:=by kernel_rfl
theorem JJs:(Tryz.prog.make==some Rows.systemHoldsUptoRow.make)=true:=by kernel_rfl
theorem JL4:false=Tryz.pinned.checked.prog.looks []:=by kernel_rfl
theorem JJt:Tryz.pinned.checked.prog.mainIs=some (Rows.systemHoldsUptoCard.stood.harness.1,Rows.systemHoldsUptoCard.stood.harness.2.toList):=by kernel_rfl
theorem JDC {n:String}{k:FuncId}{g:Func}{ts:Array TypeId}(h1:Tryz.prog.funcNamed n=some k)(h2:Tryz.prog.funcs[k]?=some g)(h3:g.params=ts)(h4:ts.all (fun t=>!Tryz.prog.wantsStandIn t)=true)
  (f:FuncId)(fn:Func)(hf:Tryz.pinned.checked.prog.funcNamed n=some f)(hfn:Tryz.pinned.checked.prog.funcs[f]?=some fn) :
  false=Tryz.pinned.checked.prog.looks []∧∀ (j:Nat) t,fn.params[j]?=some t→Tryz.pinned.checked.prog.wantsStandIn t=false:=by
 obtain rfl:f=k:=Option.some.inj (hf.symm.trans h1);obtain rfl:fn=g:=Option.some.inj (hfn.symm.trans h2);refine ⟨JL4,fun j t ht=>?_⟩;rw[h3] at ht;have:=Array.all_eq_true'.1 h4 t (Array.mem_of_getElem? ht);have h5:Tryz.pinned.checked.prog.wantsStandIn t=Tryz.prog.wantsStandIn t:=rfl;rw[h5]
 simpa using this
end Go.Proofs.YtlblbldolhiokaaGreatDoor
