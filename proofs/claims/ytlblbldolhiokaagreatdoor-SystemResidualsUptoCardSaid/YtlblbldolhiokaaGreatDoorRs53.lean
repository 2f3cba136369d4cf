/- Part 53 of a proof. -/
import Derived.Test.YtlblbldolhiokaaGreatDoorRs52
import Derived.Test.YtlblbldolhiokaaGreatDoorRs48
import Derived.Test.YtlblbldolhiokaaGreatDoorRows
import Derived.Test.YtlblbldolhiokaaGreatDoorCards
import Derived.Test.YtlblbldolhiokaaGreatDoorTie
import Derived.OpenShut
import Derived.Deep.DeepHandedRow
set_option linter.all false
set_option maxRecDepth 99999
set_option exponentiation.threshold 400
set_option maxHeartbeats 0
namespace Go.Proofs.YtlblbldolhiokaaGreatDoor
open Go Go.Fw
def opE (o:ByteArray)(l:List Ex):Ex:=.mk o ⟨#[]⟩ 0 l
def numE (t:ByteArray):Ex:=.mk oNum t 0 []
def refE (t:ByteArray)(n:Int):Ex:=.mk oVar t n []
def exS:Sys:=⟨[⟨⟨#[107]⟩,2,0,⟨#[50]⟩,⟨#[]⟩,false,⟨#[]⟩⟩,⟨⟨#[120]⟩,0,0,⟨#[]⟩,⟨#[49]⟩,true,⟨#[]⟩⟩],[⟨⟨#[101]⟩,refE ⟨#[120]⟩ 1,opE ⟨#[110,101,103]⟩ [opE ⟨#[109,117,108]⟩ [refE ⟨#[107]⟩ 0,refE ⟨#[120]⟩ 0]]⟩],[],[]⟩
def exT:List UInt8:=[118,97,114,32,107,32,112,97,114,97,109,32,110,117,109,98,101,114,32,118,97,108,117,101,61,50,10,118,97,114,32,120,32,99,111,110,116,105,110,117,111,117,115,32,110,117,109,98,101,114,32,115,116,97,114,116,61,49,32,102,105,120,101,100,10,101,113,32,101,32,64,120,58,39,32,110,101,103,40,109,117,108,40,64,107,59,64,120,41,41,10]
def J4v:EnvA:=⟨⟨#[51,47,50]⟩,false,[⟨⟨⟨#[120]⟩,0,false⟩,⟨#[48]⟩⟩]⟩
def ex1:Ex:=opE ⟨#[100,105,118]⟩ [numE ⟨#[49]⟩,refE ⟨#[120]⟩ 0]
def ex2:Ex:=opE ⟨#[105,102]⟩ [opE ⟨#[108,101,115,115]⟩ [refE ⟨#[120]⟩ 0,numE ⟨#[49]⟩],numE ⟨#[48]⟩,opE ⟨#[100,105,118]⟩ [numE ⟨#[49]⟩,refE ⟨#[120]⟩ 0]]
def ex3:Ex:=opE ⟨#[115,97,109,112,108,101]⟩ [numE ⟨#[48]⟩,numE ⟨#[49,47,50]⟩]
def JNi:JG8 exS ex1 J4v=(⟨#[]⟩,12):=by kernel_rfl
def JNh:JG8 exS ex2 J4v=(⟨#[48]⟩,0):=by kernel_rfl
def JNg:JG8 exS ex3 J4v=(⟨#[116,114,117,101]⟩,0):=by kernel_rfl
def GdE (e:Ex):Prop:=SzE e∧TxE e
def J3G {o t:ByteArray}{n:Int}{l:List Ex}(h1:o.size≤100)(h2:t.size≤100)(h3:l.length≤100)(h:∀ e∈l,GdE e):GdE (.mk o t n l):=
 ⟨SzE.mk (by omega) (by omega) (by omega) fun k hk=>(h k hk).1,TxE.mk (by omega) fun k hk=>(h k hk).2⟩
def gd1:GdE ex1:=by
 refine J3G (by decide) (by decide) (by decide) ?_;simp only[Q17,QZ,false_imp_iff,implies_true,and_true];exact ⟨J3G (by decide) (by decide) (by decide) (by simp),J3G (by decide) (by decide) (by decide) (by simp)⟩
def gd2:GdE ex2:=by
 refine J3G (by decide) (by decide) (by decide) ?_;simp only[Q17,QZ,false_imp_iff,implies_true,and_true]
 refine ⟨J3G (by decide) (by decide) (by decide) ?_,J3G (by decide) (by decide) (by decide) (by simp),J3G (by decide) (by decide) (by decide) ?_⟩ <;>
  simp only[Q17,QZ,false_imp_iff,implies_true,and_true] <;>
  exact ⟨J3G (by decide) (by decide) (by decide) (by simp),J3G (by decide) (by decide) (by decide) (by simp)⟩
def gd3:GdE ex3:=by
 refine J3G (by decide) (by decide) (by decide) ?_;simp only[Q17,QZ,false_imp_iff,implies_true,and_true];exact ⟨J3G (by decide) (by decide) (by decide) (by simp),J3G (by decide) (by decide) (by decide) (by simp)⟩
def JE1:SzS exS:=by
 refine ⟨by decide,by decide,by decide,by decide,by simp[exS],?_,?_,?_,by decide⟩
 ·intro e he;simp only[exS,allF,J1R,Q1P,List.flatMap_nil,Q08,QO,QZ,or_false] at he
  rcases he with rfl|rfl
  ·exact J3G (by decide) (by decide) (by decide) (by simp)
  refine J3G (by decide) (by decide) (by decide) ?_;simp only[Q17,QZ,false_imp_iff,implies_true,and_true];refine J3G (by decide) (by decide) (by decide) ?_;simp only[Q17,QZ,false_imp_iff,implies_true,and_true];exact ⟨J3G (by decide) (by decide) (by decide) (by simp),J3G (by decide) (by decide) (by decide) (by simp)⟩
 ·intro v hv;simp only[exS,QO,QZ,or_false] at hv
  rcases hv with rfl|rfl<;>decide
 refine ⟨?_,by simp[exS],by simp[exS]⟩;intro q hq;simp only[exS,QO,QZ,or_false] at hq;subst hq;decide
def JIY:JBC exS=(⟨exT.toArray⟩,0):=by kernel_rfl
def JHI:SzB J4v:=by
 refine ⟨by decide,by decide,fun b hb=>?_⟩;simp only[J4v,QO,QZ,or_false] at hb;subst hb;decide
def JPO:PX 103 [J0E exS] (.tup [encS ⟨exT.toArray⟩,encI 0]):=by
 have:=JOF exS JE1;rw[JIY] at this;exact this
def JP6:PX 38 [J0E exS,encE ex1,J0L J4v] (.tup [encS ⟨#[]⟩,encI 12]):=by
 have:=JAt exS ex1 J4v JE1 gd1.1 gd1.2 JHI;rw[JNi] at this;exact this
def JP5:PX 38 [J0E exS,encE ex2,J0L J4v] (.tup [encS ⟨#[48]⟩,encI 0]):=by
 have:=JAt exS ex2 J4v JE1 gd2.1 gd2.2 JHI;rw[JNh] at this;exact this
def JP4:PX 38 [J0E exS,encE ex3,J0L J4v] (.tup [encS ⟨#[116,114,117,101]⟩,encI 0]):=by
 have:=JAt exS ex3 J4v JE1 gd3.1 gd3.2 JHI;rw[JNg] at this;exact this
def tab2:Tab:=[(103,[J0E exS],.tup [encS ⟨exT.toArray⟩,encI 0]),(38,[J0E exS,encE ex1,J0L J4v],.tup [encS ⟨#[]⟩,encI 12]),
 (38,[J0E exS,encE ex2,J0L J4v],.tup [encS ⟨#[48]⟩,encI 0]),(38,[J0E exS,encE ex3,J0L J4v],.tup [encS ⟨#[116,114,117,101]⟩,encI 0])]
def JN1:TabOk XR.E.P tab2:=by
 refine ⟨?_⟩;unfold tab2;simp only[Q17,QZ,false_imp_iff,implies_true,and_true];exact ⟨⟨c103,JPO,rfl⟩,⟨c38,JP6,rfl⟩,⟨c38,JP5,rfl⟩,⟨c38,JP4,rfl⟩⟩
def JGN:PX 40 [] (encB true):=JFd JAk JN1 (fuel:=100) (n:=10) (by kernel_rfl)
def JHu (u:U)(e:Ex):builtF e=true→OccE e u→0≤u.order∧u.order≤6:=by
 have kids:∀ ks:List Ex,(∀ k∈ks,OccE k u→0≤u.order∧u.order≤6)→OccL ks u→0≤u.order∧u.order≤6:=by
  intro ks
  induction ks with
  |nil=>intro _ h;unfold OccL at h;exact h.elim
  |cons k r ih=>
    intro hk h;unfold OccL at h
    rcases h with h|h
    ·exact hk k (by simp) h
    exact ih (fun x hx=>hk x (by simp[hx])) h
 induction e using J1i with
 |h e ih=>
   intro hb h;have hk:=(J0A hb).2
   cases e with
   |mk o t n ks=>
     unfold OccE at h
     rcases h with ⟨ho,rfl⟩|h
     ·rw[J0t] at hb;simp only[Q5] at hb;have hx:=hb.1.1.2;unfold textF at hx
      rcases ho with ho|ho
      ·rw[if_neg (show ¬ (Ex.mk o t n ks).op=oNum by show ¬ o=oNum;rw[ho];decide),if_pos (show (Ex.mk o t n ks).op=oVar from ho)] at hx;simp only[Q5] at hx;exact ⟨Qh hx.1.2,Qh hx.2⟩
      rw[if_neg (show ¬ (Ex.mk o t n ks).op=oNum by show ¬ o=oNum;rw[ho];decide),if_neg (show ¬ (Ex.mk o t n ks).op=oVar by show ¬ o=oVar;rw[ho];decide),if_pos (show (Ex.mk o t n ks).op=oPre from ho)] at hx;simp only[Q5] at hx;have:n=0:=Qh hx.2;subst this;exact ⟨Int.le_refl _,(by decide:(0:Int)≤6)⟩
     exact kids ks (fun k hk'=>ih k hk' (hk k hk')) h
def JKp (A:List U)(u:U):(putU A u).length≤A.length+1:=by
 unfold putU;split
 ·omega
 simp
mutual
theorem JB3:∀ (e:Ex) (A:List U),(J33 e A).length≤A.length+wtF e
 |.mk o t n ks,A=>by
   unfold J33 wtF;have h:=JB2 ks (if o=oVar∨o=oPre then putU A ⟨t,n,decide (o=oPre)⟩ else A);split at h
   ·rename_i hc;rw[if_pos hc];have:=JKp A ⟨t,n,decide (o=oPre)⟩;omega
   rename_i hc;rw[if_neg hc];omega
theorem JB2:∀ (ks:List Ex) (A:List U),(J4O ks A).length≤A.length+wtL ks
 |[],A=>by unfold J4O wtL;omega
 |k::ks,A=>by
   unfold J4O wtL;have h1:=JB3 k A;have h2:=JB2 ks (J33 k A);omega
end
def JPQ {b g e:Nat}{H:Hp}{A:List U}(hb:H b=some (g,⟨e,0,[setU A]⟩)):snap [b] H (.om b g)=setU A:=ownM hb
def JLr (l:List U)(hl:l.length≤2^60):PX 36 [J3J l,J3J l] (encB true):=by
 refine PZ Tryz.func36 rfl ?_;have hml:=@Q3 _ _ l encU;unfold J3J;refine kWQ ?_;intros
 (repeat (simp only[Q0v,decide_true];refine kQ ?_;intros))
 refine LoopP.intro (fun k σ H=>∃ i,k=l.length-i∧i≤l.length∧σ=fr [(0,.sl 3 (l.map encU)),(1,.sl 3 (l.map encU)),(5,encI i)]∧H=hp []) ?_ ?_
 ·exact .intro <| W.of ⟨_,0,rfl,QG _,rfl,rfl⟩ ⟨rfl,rfl,rfl,trivial⟩ trivial
 rintro k σ H ⟨i,rfl,hi,rfl,rfl⟩
 rcases QI i l.length with h9|h9
 ·obtain ⟨u,huu⟩:∃ u,l[i]=u:=⟨_,rfl⟩;refine kWQ ?_;intros;simp only[huu];unfold encU;refine kQ ?_;intros;refine Need.intro eqst54 ?_
  try simp only[huu]
  refine kWQ ?_;intros;refine CondP.tt ?_;refine kWQ ?_;intros
  exact .intro <| W.of ⟨_,by omega,i+1,rfl,h9,rfl,rfl⟩ ⟨rfl,rfl,rfl,trivial⟩ trivial
 obtain rfl:i=l.length:=by omega
 refine kWQ ?_;intros;exact .of rfl
def JHD (l:List ByteArray)(hl:l.length≤2^60):PX 55 [.sl 1 (l.map encS),.sl 1 (l.map encS)] (encB true):=by
 refine PZ Tryz.func55 rfl ?_;have hml:=@Q3 _ _ l encS;refine kWQ ?_;intros
 (repeat (simp only[Q0v,decide_true];refine kQ ?_;intros))
 refine LoopP.intro (fun k σ H=>∃ i,k=l.length-i∧i≤l.length∧σ=fr [(0,.sl 1 (l.map encS)),(1,.sl 1 (l.map encS)),(5,encI i)]∧H=hp []) ?_ ?_
 ·exact .intro <| W.of ⟨_,0,rfl,QG _,rfl,rfl⟩ ⟨rfl,rfl,rfl,trivial⟩ trivial
 rintro k σ H ⟨i,rfl,hi,rfl,rfl⟩
 rcases QI i l.length with h9|h9
 ·obtain ⟨u,huu⟩:∃ u,l[i]=u:=⟨_,rfl⟩;refine kWQ ?_;intros;simp only[huu];refine kQ ?_;intros
  (repeat (simp only[Q0v,decide_true];refine kQ ?_;intros))
  exact .intro <| W.of ⟨_,by omega,i+1,rfl,h9,rfl,rfl⟩ ⟨rfl,rfl,rfl,trivial⟩ trivial
 obtain rfl:i=l.length:=by omega
 refine kWQ ?_;intros;exact .of rfl
def numO:Vl→Rat
 |.num q=>q
 |.tr _=>0
def resL (ks:List (ByteArray×Va))(ev:Ev):List Eqn→Except Int (List Rat)
 |[]=>.ok []
 |q :: r=>match evalF ks ev q.left with
   |.error c=>.error c
   |.ok a=>match evalF ks ev q.right with
     |.error c=>.error c
     |.ok b=>match resL ks ev r with
       |.error c=>.error c
       |.ok l=>.ok ((numO a-numO b)::l)
def conR (out:List Rat):Except Int (List Rat)→Except Int (List Rat)
 |.error c=>.error c
 |.ok l=>.ok (out++l)
def residF (s:Sys)(e:EnvA):Except Int (List Rat):=if checkF s≠0 then .error (checkF s) else match openS e with
 |.error c=>.error c
 |.ok ev=>resL (knownF s.vars) ev s.eqs
def J8Z (l:List Rat):AV:=.sl 6 (l.map fun q=>J07 (.num q))
def JEo:Except Int (List Rat)→AV
 |.ok l=>.tup [J8Z l,encI 0]
 |.error c=>.tup [.sl 6 [],encI c]
structure SideOk (ks:List (ByteArray×Va)) (e:Ex):Prop where
 g:GdE e
 b:builtF e=true
 t:typeF ks e=(0,true)
 l:tooF e=false
def SideOk.w {ks:List (ByteArray×Va)}{e:Ex}(h:SideOk ks e):wtF e≤200:=J5c h.l
def J88 {s:Sys}(hc:checkF s=0):largeF s=false∧validF s=true:=by
 unfold checkF at hc;cases h:largeF s
 ·rw[h] at hc;cases h':validF s
  ·rw[h'] at hc;simp at hc
  exact ⟨rfl,rfl⟩
 rw[h] at hc;simp at hc
def J2r {s:Sys}(hs:SzS s)(hc:checkF s=0):s.eqs.length≤120∧∀ q∈s.eqs,SideOk (knownF s.vars) q.left∧SideOk (knownF s.vars) q.right:=by
 obtain ⟨hL,hV⟩:=J88 hc;unfold largeF at hL;simp only[Q04,Qe] at hL;obtain ⟨⟨⟨l1,l2⟩,l3⟩,l4⟩:=hL;have ht:=J4k l4;unfold validF at hV;simp only[Q5,Qw] at hV;obtain ⟨⟨⟨_,hv⟩,hq,hn⟩,hw⟩:=hV;refine ⟨by omega,fun q hq'=>?_⟩;have:=QL.1 hq q hq';unfold eqT typedF at this;simp only[Q5,Qa] at this;have m:=J19 hq';have m1:q.left∈allF s:=by simp[allF,m.1]
 have m2:q.right∈allF s:=by simp[allF,m.2]
 exact ⟨⟨hs.e _ m1,this.1.1.1,Prod.ext this.1.2 this.1.1.2,ht _ m1⟩,⟨hs.e _ m2,this.2.1.1,Prod.ext this.2.2 this.2.1.2,ht _ m2⟩⟩
def J3V {ks:List (ByteArray×Va)}{ev:Ev}{e:Ex}(h:SideOk ks e){v:Vl}(hv:evalF ks ev e=.ok v):∃ q,v=.num q:=by
 have:=J6b e h.b (by rw[h.t]) v hv;rw[h.t] at this
 rcases v with q|b
 ·exact ⟨q,rfl⟩
 cases this
def JPd {S:List Nat}{H:Hp}{k:Nat}{L:List AV}{n:Nat}{xs:List Rat}(h:L=xs.map fun q=>J07 (.num q))(hn:n=xs.length):AV.sl 6 (((L.drop 0).take n).map (J0U (J08 S H k)))=J8Z xs:=by
 subst h;rw[J0S _ _ _ _ hn fun x=>by cases k<;>rfl];rfl
def J67 (s:Sys)(hs:SzS s)(e:EnvA)(he:SzB e):PX 108 [J0E s,J0L e] (JEo (residF s e)):=by
 refine PC [68] Tryz.func108 rfl (by rfl) rfl ?_;have hC:=J5R s hs;have hO:=JF8 e he;have hk:=J6Y s hs.v;have hsd:=@J2r s hs;generalize hF:residF s e=F;unfold residF at hF;have hev:=@J4g e;have her:=@J4h e;generalize checkF s=ck at *;generalize hks:knownF s.vars=ks at *;generalize openS e=oe at *;have hE:=fun ev (he:EvOk ev) (x:Ex) (h:SideOk ks x)=>JJy ks ev he x h.g.1 h.g.2 h.b (by rw[h.t]) (by have:=h.w;omega);have hsz:=fun ev (he:EvOk ev) (x:Ex) (h:SideOk ks x)=>J2l (ks:=ks) he x h.b;have hec:=fun ev (x:Ex) (h:SideOk ks x)=>J1y (ks:=ks) (ev:=ev) x h.b (by rw[h.t]);obtain ⟨vs,qs,ns,ws⟩:=s;obtain ⟨tm,ini,bs⟩:=e;unfold J0E J0L at *;simp only at *;have hmq:=@Q3 _ _ qs J0M;(refine kWQ ?_;repeat intro γ);refine CallP.flat [] _ c89 hC rfl ?_
 by_cases h0:ck=0
 case' neg=>
  rw[if_pos h0] at hF;(refine kWQ ?_;repeat intro γ);rw[← hF];exact J0I (Le.nil 6) (Le.refl _)
 rw[if_neg (fun h=>h h0)] at hF;replace hsd:=hsd h0;obtain ⟨hql,hsd⟩:=hsd;(refine kWQ ?_;repeat intro γ);refine J00 [] _ c67 hO ?_
 cases oe with
 |error c=>
   have hc:¬ c=0:=by rcases her rfl with rfl|rfl<;>decide
   (refine kWQ ?_;repeat intro γ);rw[← hF];exact J0I (Le.nil 6) (Le.refl _)
 |ok ev=>
   have hev:=hev rfl;replace hE:=hE ev hev;replace hsz:=hsz ev hev;replace hec:=hec ev;replace hF:resL ks ev qs=F:=hF;clear her hC hO h0 hs he;(refine kWQ ?_;repeat intro γ);refine J00 [] _ c99 hk ?_;(refine kWQ ?_;repeat intro γ)
   refine LoopP.intro (fun j σ H=>∃ gl i,∃ l:List Rat,j=qs.length-i∧i≤qs.length∧l.length=i∧conR l (resL ks ev (qs.drop i))=F ∧
    σ=fr [(7,J1L ev),(9,encK ks),(10,.own 68 gl 0 l.length),(32,.sl 9 (qs.map J0M)),(33,encI qs.length),(34,encI i)] ∧
    H=hp [(68,gl,⟨148,6,l.map fun q=>J07 (.num q)⟩)]) ?_ ?_
   ·exact .intro (J24 10 68 148 6 rfl rfl fun gl=>W.of ⟨_,gl,0,[],rfl,QG _,rfl,(by rw[← hF];show conR [] (resL ks ev qs)=_;cases resL ks ev qs<;>rfl),rfl,rfl⟩ ⟨rfl,rfl,rfl,rfl,(by first|rfl|exact QC (fun n:Nat=>encI n) hmq),rfl,trivial⟩ ⟨rfl,trivial⟩)
   clear hF;rintro j σ H ⟨gl,i,l,rfl,hi,hli,hF,rfl,rfl⟩;have hml:=@Q3 _ _ l fun q=>J07 (.num q)
   rcases QI i qs.length with h9|h9
   ·rw[Q6 h9] at hF;have hq:=hsd _ (QF h9);obtain ⟨q,hqq⟩:∃ q,qs[i]=q:=⟨_,rfl⟩;rw[hqq] at hF hq;obtain ⟨nm,lf,rt⟩:=q;obtain ⟨h1,h2⟩:=hq;have hE1:=hE _ h1;have hE2:=hE _ h2;have hc1:=hec _ h1;have hc2:=hec _ h2;have hz1:=hsz _ h1;have hz2:=hsz _ h2;have hw1:=h1.w;have hw2:=h2.w;have hv1:=fun v=>@J3V _ ev _ h1 v;have hv2:=fun v=>@J3V _ ev _ h2 v;clear h1 h2;simp only at hF hE1 hE2 hc1 hc2 hz1 hz2 hw1 hw2 hv1 hv2;unfold resL at hF;simp only at hF;generalize evalF ks ev lf=r1 at *;generalize evalF ks ev rt=r2 at *;rw[J02] at hE1 hE2;(refine kWQ ?_;repeat intro γ);simp only[hqq,J0M,J1C,Q01,Q07];(refine kQ ?_;repeat intro γ);refine J00 [] _ c100 hE1 ?_
    rcases r1 with c|v1
    ·have hc:=(hc1 c rfl).ne;(refine kWQ ?_;repeat intro γ);rw[← hF];exact J0I (Le.nil 6) (Le.refl _)
    obtain ⟨q1,rfl⟩:=hv1 v1 rfl;unfold J1z J07 J16;unfold encF encQ;(refine kWQ ?_;repeat intro γ);refine J00 [] _ c100 hE2 ?_
    rcases r2 with c|v2
    ·have hc:=(hc2 c rfl).ne;(refine kWQ ?_;repeat intro γ);rw[← hF];exact J0I (Le.nil 6) (Le.refl _)
    obtain ⟨q2,rfl⟩:=hv2 v2 rfl;have hz1:=hz1 _ rfl;have hz2:=hz2 _ rfl;simp only[Vl.sz] at hz1 hz2;have hS:=JAo q1 q2 (by omega);have hN:=J1u (q1-q2);simp only[numO] at hF;generalize q1-q2=q3 at *;unfold encF encQ at hS hN;unfold J1z J07 J16;unfold encF encQ;(refine kWQ ?_;repeat intro γ);refine J00 [] _ c80 hS ?_;(refine kWQ ?_;repeat intro γ);refine J00 [] _ c189 hN ?_;(refine kWQ ?_;repeat intro γ)
    refine .intro <| W.of ⟨_,by omega,γ,i+1,l++[q3],rfl,h9,by simp;omega,?_,rfl,rfl⟩ ⟨rfl,rfl,?_,rfl,rfl,rfl,trivial⟩ ⟨?_,trivial⟩
    ·rw[← hF];cases resL ks ev (qs.drop (i+1))<;>simp[conR]
    ·exact QC (AV.own 68 _ 0) (by simp)
    have e1:(l++[q3]).map (fun q=>J07 (.num q))=l.map (fun q=>J07 (.num q))++[J07 (.num q3)]:=by rw[QW];rfl
    exact Q41 rfl (QC (fun z=>some (γ,(⟨148,6,z⟩:Blk))) e1.symm)
   obtain rfl:i=qs.length:=by omega
   rw[Q9 (QM _)] at hF;refine kWQ ?_;intros;refine .of ?_;rw[← hF];show AV.tup [_,_]=AV.tup [J8Z (l++[]),_]
   rw[Q08];exact QC (fun z=>AV.tup [z,encI 0]) (JPd rfl (by simp))
def shoL:List Rat→Option (List ByteArray)
 |[]=>some []
 |q::r=>if shortV (.num q) then (shoL r).map fun l=>strV (.num q)::l else none
def residS (s:Sys)(e:EnvA):List ByteArray×Int:=match residF s e with
 |.error c=>([],c)
 |.ok l=>match shoL l with
   |none=>([],2)
   |some l=>(l,0)
def JNm (p:List ByteArray×Int):AV:=.tup [.sl 1 (p.1.map encS),encI p.2]
def JP7 {S:List Nat}{H:Hp}{k:Nat}{L:List AV}{n:Nat}{xs:List ByteArray}(h:L=xs.map encS)(hn:n=xs.length):AV.sl 1 (((L.drop 0).take n).map (J0U (J08 S H k)))=.sl 1 (xs.map encS):=by
 subst h;rw[J0S _ _ _ _ hn fun x=>by cases k<;>rfl]
def conT (out:List ByteArray):Option (List ByteArray)→List ByteArray×Int
 |none=>([],2)
 |some l=>(out++l,0)
theorem JHi {ks:List (ByteArray×Va)}{ev:Ev}(hev:EvOk ev):∀ {l:List Eqn} {r:List Rat},(∀ q∈l,SideOk ks q.left∧SideOk ks q.right)→resL ks ev l=.ok r→r.length=l.length∧∀ q∈r,szq q<2^32
 |[],r,_,h=>by cases h;exact ⟨rfl,fun q hq=>by cases hq⟩
 |x :: l, r,hs,h=>by
   unfold resL at h;obtain ⟨h1,h2⟩:=hs x (by simp)
   cases e1:evalF ks ev x.left with
   |error c=>rw[e1] at h;cases h
   |ok a=>
     cases e2:evalF ks ev x.right with
     |error c=>rw[e1,e2] at h;cases h
     |ok b=>
       cases e3:resL ks ev l with
       |error c=>rw[e1,e2,e3] at h;cases h
       |ok t=>
         rw[e1,e2,e3] at h;cases h;obtain ⟨h3,h4⟩:=JHi hev (fun q hq=>hs q (by simp[hq])) e3;refine ⟨by simp[h3],fun q hq=>?_⟩
         rcases QO.1 hq with rfl|hq
         ·obtain ⟨p,rfl⟩:=J3V h1 e1;obtain ⟨p',rfl⟩:=J3V h2 e2;have a1:=J2l (ks:=ks) hev x.left h1.b _ e1;have a2:=J2l (ks:=ks) hev x.right h2.b _ e2;have b1:=h1.w;have b2:=h2.w;simp only[Vl.sz] at a1 a2;have:=J9s p p';simp only[numO];omega
         exact h4 q hq
def J3B {s:Sys}(hs:SzS s){e:EnvA}{r:List Rat}(h:residF s e=.ok r):checkF s=0∧r.length=s.eqs.length∧r.length≤120∧∀ q∈r,szq q<2^32:=by
 unfold residF at h
 by_cases h0:checkF s=0
 case' neg=>rw[if_pos h0] at h;cases h
 rw[if_neg (fun k=>k h0)] at h
 cases ho:openS e with
 |error c=>rw[ho] at h;cases h
 |ok ev=>
   rw[ho] at h;obtain ⟨h1,h2⟩:=J2r hs h0;obtain ⟨h3,h4⟩:=JHi (J4g ho) h2 h;exact ⟨h0,h3,by omega,h4⟩
theorem JEH {ks:List (ByteArray×Va)}{ev:Ev}:∀ {l:List Eqn} {c:Int},(∀ q∈l,SideOk ks q.left∧SideOk ks q.right)→resL ks ev l=.error c→¬ c=0
 |[],c,_,h=>by cases h
 |x :: l,c,hs,h=>by
   unfold resL at h;obtain ⟨h1,h2⟩:=hs x (by simp)
   cases e1:evalF ks ev x.left with
   |error c=>rw[e1] at h;cases h;exact (J1y x.left h1.b (by rw[h1.t]) _ e1).ne
   |ok a=>
     cases e2:evalF ks ev x.right with
     |error c=>rw[e1,e2] at h;cases h;exact (J1y x.right h2.b (by rw[h2.t]) _ e2).ne
     |ok b=>
       cases e3:resL ks ev l with
       |error c=>rw[e1,e2,e3] at h;cases h;exact JEH (fun q hq=>hs q (by simp[hq])) e3
       |ok t=>rw[e1,e2,e3] at h;cases h
def J3X {s:Sys}(hs:SzS s){e:EnvA}{c:Int}(h:residF s e=.error c):¬ c=0:=by
 unfold residF at h
 by_cases h0:checkF s=0
 case' neg=>rw[if_pos h0] at h;cases h;exact h0
 rw[if_neg (fun k=>k h0)] at h
 cases ho:openS e with
 |error c=>rw[ho] at h;cases h;rcases J4h ho with rfl|rfl<;>decide
 |ok ev=>rw[ho] at h;exact JEH (J2r hs h0).2 h
def JCa (s:Sys)(hs:SzS s)(e:EnvA)(he:SzB e):PX 42 [J0E s,J0L e] (JNm (residS s e)):=by
 refine PC [33] Tryz.func42 rfl (by rfl) rfl ?_;have hR:=J67 s hs e he;have hsz:=fun r=>@J3B s hs e r;have her:=fun c=>@J3X s hs e c;generalize hF:residS s e=F;unfold residS at hF;generalize residF s e=rf at *;obtain ⟨vs,qs,ns,ws⟩:=s;obtain ⟨tm,ini,bs⟩:=e;unfold J0E J0L at *;simp only at *;clear hs he;(refine kWQ ?_;repeat intro γ);refine J00 [] _ c108 hR ?_
 rcases rf with c|rs
 ·have hc:=her c rfl;(refine kWQ ?_;repeat intro γ);rw[← hF];exact J0I (Le.nil 1) (Le.refl _)
 obtain ⟨_,_,hl,hz⟩:=hsz rs rfl;replace hF:conT [] (shoL rs)=F:=by rw[← hF];show conT [] (shoL rs)=(match shoL rs with|none=>([],2)|some l=>(l,0));cases shoL rs<;>rfl
 have hmr:=@Q3 _ _ rs fun q=>J07 (.num q);clear hsz her hR;(refine kWQ ?_;repeat intro γ)
 refine LoopP.intro (fun j σ H=>∃ gl i,∃ l:List ByteArray,j=rs.length-i∧i≤rs.length∧l.length=i∧conT l (shoL (rs.drop i))=F ∧
  σ=fr [(8,.own 33 gl 0 l.length),(20,J8Z rs),(21,encI rs.length),(22,encI i)]∧H=hp [(33,gl,⟨9,1,l.map encS⟩)]) ?_ ?_
 ·exact .intro (J24 8 33 9 1 rfl rfl fun gl=>W.of ⟨_,gl,0,[],rfl,QG _,rfl,hF,rfl,rfl⟩ ⟨rfl,rfl,(by first|rfl|exact QC (fun n:Nat=>encI n) hmr),rfl,trivial⟩ ⟨rfl,trivial⟩)
 clear hF;rintro j σ H ⟨gl,i,l,rfl,hi,hli,hF,rfl,rfl⟩;have hml:=@Q3 _ _ l encS
 rcases QI i rs.length with h9|h9
 ·rw[Q6 h9] at hF;have hq:=hz _ (QF h9);obtain ⟨q,hqq⟩:∃ q,rs[i]=q:=⟨_,rfl⟩;rw[hqq] at hF hq;have hSh:=JCX (.num q) (by simp only[Vl.sz];omega);have hSt:=J9c (.num q) (by simp only[Vl.sz];omega);unfold shoL at hF;generalize shortV (.num q)=sv at *;generalize strV (.num q)=str at *;have hq':J07 (.num q)=.agg [encB (decide (q.num<0)),encW q.num.natAbs,encB (decide ((q.den:Int)<0)),encW (q.den:Int).natAbs,encB false,encB false]:=rfl;rw[hq'] at hSh hSt;unfold J8Z;(refine kWQ ?_;repeat intro γ);simp only[hqq,hq'];(refine kQ ?_;repeat intro γ);refine J00 [] _ c101 hSh ?_
  cases sv with
  |false=>
    (refine kWQ ?_;repeat intro γ);rw[← hF];exact J0I (Le.nil 1) (Le.refl _)
  |true=>
    rw[if_pos rfl] at hF;(refine kWQ ?_;repeat intro γ);refine J00 [] _ c102 hSt ?_;(refine kWQ ?_;repeat intro γ)
    refine .intro <| W.of ⟨_,by omega,γ,i+1,l++[str],rfl,h9,by simp;omega,?_,rfl,rfl⟩ ⟨?_,rfl,rfl,rfl,trivial⟩ ⟨?_,trivial⟩
    ·rw[← hF];cases shoL (rs.drop (i+1))<;>simp[conT]
    ·exact QC (AV.own 33 _ 0) (by simp)
    have e1:(l++[str]).map encS=l.map encS++[encS str]:=by rw[QW];rfl
    rw[e1];rfl
 obtain rfl:i=rs.length:=by omega
 rw[Q9 (QM _)] at hF;refine kWQ ?_;intros;refine .of ?_;rw[← hF];show AV.tup [_,_]=AV.tup [.sl 1 ((l++[]).map encS),_]
 rw[Q08];exact QC (fun z=>AV.tup [z,encI 0]) (JP7 rfl (by simp))
def JIK (q:Rat):PX 110 [J07 (.num q)] (encB (decide (q≠0))):=by
 refine PZ Tryz.func110 rfl ?_;have hS:=J5L q.num q.den
 have hd:decide (q≠0)=decide (sgn q.num≠0):=by
  refine QS.2 (not_congr ?_)
  have:sgn q.num=0↔q.num=0:=by
   unfold sgn;split
   ·simp[*]
   split<;>omega
  rw[this,Q2K]
 rw[hd];generalize sgn q.num=g at *;unfold J07 J16;unfold encF encQ at *;refine kWQ ?_;intros;refine CallP.flat [] _ c111 hS rfl ?_;refine kWQ ?_;intros;refine .of ?_;show AV.val (.bool (!decide (g=0)))=AV.val (.bool (decide (g≠0)))
 by_cases h:g=0<;>simp[h]
def JIC (k:Nat)(p:Rat→Bool)(l:List Rat)(hl:l.length≤2^60)(hk:J05 Tryz.prog k)(hf:∀ x∈l,PX k [J07 (.num x)] (encB (p x))) :
  PX 192 [J8Z l,.fn (.func k) [] []] (encI (J0Y p l 0)):=by
 refine PZ Tryz.func192 rfl ?_;generalize hF:J0Y p l 0=F;unfold J8Z;refine kWS ?_;intros;refine LoopP.intro (fun n σ H=>∃ i,i≤l.length∧n=l.length-i∧J0Y p (l.drop i) i=F∧σ=fr [(0,.sl 6 (l.map fun q=>J07 (.num q))),(1,.fn (.func k) [] []),(7,encI l.length),(8,encI i)]∧H=hp []) ?_ ?_
 ·exact .intro <| W.of ⟨_,0,QG _,rfl,hF,rfl,rfl⟩ ⟨rfl,rfl,by simp;rfl,rfl,trivial⟩ trivial
 rintro n σ H ⟨i,hi,rfl,hc,rfl,rfl⟩;refine kWS ?_;intros;refine CondP.dec (fun h=>?_) (fun h=>?_)<;>refine kW ?_
 ·have hi':i<l.length:=by omega
  have hx:=hf _ (QF hi');rw[Q6 hi'] at hc;unfold J0Y at hc;refine kR ?_;intros;generalize l[i]=x at hx hc ⊢;unfold J07 J16 at hx ⊢;unfold encF encQ at hx ⊢;refine kR ?_;intros;refine CallP.flat [] _ hk hx rfl ?_;refine kWS ?_;intros;refine CondP.intro (fun hq=>?_) (fun hq=>?_)<;>refine kW ?_
  ·rw[hq] at hc;refine kS ?_;intros;exact .of (by rw[← hc];rfl)
  rw[hq] at hc;refine kS ?_;intros
  exact .intro <| W.of ⟨_,by omega,i+1,hi',rfl,hc,rfl,rfl⟩ ⟨rfl,rfl,rfl,rfl,trivial⟩ trivial
 refine kS ?_;intros;rw[Q9 (by omega)] at hc;exact .of (by rw[← hc];rfl)
def JCF (k:Nat)(p:Rat→Bool)(l:List Rat)(hl:l.length≤2^60)(hk:J05 Tryz.prog k)(hf:∀ x∈l,PX k [J07 (.num x)] (encB (p x))) :
  PX 109 [J8Z l,.fn (.func k) [] []] (encB (l.any p)):=by
 refine PZ Tryz.func109 rfl ?_;have hI:=JIC k p l hl hk hf;unfold J8Z at *;refine kWS ?_;intros;refine CallP.flat [] _ c192 hI rfl ?_;refine kWS ?_;intros;refine .of ?_;show AV.val (Value.bool (decide (0≤J0Y p l 0)))=AV.val (Value.bool (l.any p))
 congr 2
 rw[Q0T,decide_eq_true_iff];exact J3E p l 0 (by omega)
def holdsS (s:Sys)(e:EnvA):Bool×Int:=match residF s e with
 |.error c=>(false,c)
 |.ok l=>(!l.any fun q=>decide (q≠0),0)
def JLz (s:Sys)(hs:SzS s)(e:EnvA)(he:SzB e):PX 41 [J0E s,J0L e] (.tup [encB (holdsS s e).1,encI (holdsS s e).2]):=by
 refine PZ Tryz.func41 rfl ?_;have hR:=J67 s hs e he;have hsz:=fun r=>@J3B s hs e r;have her:=fun c=>@J3X s hs e c;generalize hF:holdsS s e=F;unfold holdsS at hF;generalize residF s e=rf at *;obtain ⟨vs,qs,ns,ws⟩:=s;obtain ⟨tm,ini,bs⟩:=e;unfold J0E J0L at *;simp only at *;clear hs he;refine kWQ ?_;intros;refine J00 [] _ c108 hR ?_
 rcases rf with c|rs
 ·have hc:=her c rfl;refine kWQ ?_;intros;exact .of (by rw[← hF];rfl)
 obtain ⟨_,_,hl,hz⟩:=hsz rs rfl;have hC:=JCF 110 (fun q=>decide (q≠0)) rs (by omega) c110 fun x _=>JIK x;replace hF:(!rs.any fun q=>decide (q≠0),(0:Int))=F:=hF;generalize (rs.any fun q=>decide (q≠0))=an at *;unfold JEo J8Z at *;refine kWQ ?_;intros;refine CallP.flat [] _ c109 hC rfl ?_
 cases an with
 |true=>
   refine kWQ ?_;intros;exact .of (by rw[← hF];rfl)
 |false=>
   refine kWQ ?_;intros;exact .of (by rw[← hF];rfl)
theorem JBA:∀ {rs:List Rat} {l:List ByteArray},shoL rs=some l→l=rs.map fun q=>strV (.num q)
 |[],l,h=>by cases h;rfl
 |q :: r,l,h=>by
   unfold shoL at h;split at h
   ·cases hr:shoL r with
    |none=>rw[hr] at h;cases h
    |some t=>
      rw[hr] at h;cases h;rw[JBA hr];rfl
   cases h
def pq (q:Rat):Int×Nat:=(q.num,q.den)
def eQ (q:Rat):AV:=encR q.num q.den
def J47 (z:Int)(d:Nat)(hd:0<d):red z d=pq (Rat.divInt z d):=by
 obtain ⟨h1,h2⟩:=J2R z d (by omega);rw[show ((d:Int)).natAbs=d from rfl] at h1 h2;unfold red pq;refine Prod.ext h1.symm ?_;show d/Nat.gcd z.natAbs d=(Rat.divInt z d).den
 have e:=Int.natCast_ediv d (Nat.gcd z.natAbs d);omega
def JOt (z:Int):l4 z.natAbs≤3*zl z:=by
 unfold l4;refine J0F hB4 ?_;rw[Q1h];exact QP (J1l hB9 z.natAbs) (Q2E (by decide) _)
def J2t (q:Rat):l4 q.num.natAbs≤3*szq q:=Qg (JOt _) (Qt _ (J1D q))
def J2O (q:Rat):l4 q.den≤3*szq q:=Qg (JOt (q.den:Int)) (Qt _ (J1J q))
def J10 (q:Rat):0<q.den:=by have:=q.den_nz;omega
def JLv (p q:Rat)(hp:szq p<2^32)(hq:szq q<2^32):PX 234 [eQ p,eQ q] (eQ (p+q)):=by
 have a1:=J2t p;have a2:=J2O p;have a3:=J2t q;have a4:=J2O q;have h:=JJk (pq p) (pq q) (J10 p) (J10 q) (by show l4 p.num.natAbs<_;omega) (by show l4 p.den<_;omega) (by show l4 q.num.natAbs<_;omega) (by show l4 q.den<_;omega)
 have e:JHp (pq p) (pq q)=pq (p+q):=by
  unfold JHp;show red (p.num*(q.den:Int)+q.num*(p.den:Int)) (p.den*q.den)=_
  rw[J47 _ _ (Q1F (J10 p) (J10 q)),J2Y,Q0S]
 rw[e] at h;exact h
def J8m (p q:Rat):p-q=Rat.divInt (p.num*q.den-q.num*p.den) (p.den*q.den):=by
 rw[Q2r,J2Y,Q3b,Q3c,Int.neg_mul,← Q2q]
def J8M (p q:Rat)(hp:szq p<2^32)(hq:szq q<2^32):PX 213 [eQ p,eQ q] (eQ (p-q)):=by
 have a1:=J2t p;have a2:=J2O p;have a3:=J2t q;have a4:=J2O q;have h:=JFA (pq p) (pq q) (J10 p) (J10 q) (by show l4 p.num.natAbs<_;omega) (by show l4 p.den<_;omega) (by show l4 q.num.natAbs<_;omega) (by show l4 q.den<_;omega)
 have e:red ((pq p).1*(pq q).2-(pq q).1*(pq p).2) ((pq p).2*(pq q).2)=pq (p-q):=by
  show red (p.num*(q.den:Int)-q.num*(p.den:Int)) (p.den*q.den)=_
  rw[J47 _ _ (Q1F (J10 p) (J10 q)),J8m,Q0S]
 rw[e] at h;exact h
def JN5 (z:Int)(d:Nat)(hd:0<d):sgn (red z d).1=sgn z:=by
 obtain ⟨r1,r2⟩:=JDA z d hd;unfold sgn
 by_cases h0:z=0
 ·subst h0;rw[JA0 d hd]
 have hne:(red z d).1≠0:=fun e=>by
  rw[e] at r1;have hg:0<Nat.gcd z.natAbs d:=Q1k _ hd;have:=Q3Z (Q3k (by omega) (Q2Z z.natAbs d)) hg;simp at r1;omega
 rw[if_neg hne,if_neg h0]
 by_cases h1:z<0
 ·rw[if_pos h1,if_pos (r2.2 h1)]
 rw[if_neg h1,if_neg (fun h=>h1 (r2.1 h))]
def J8R (p q:Rat)(hp:szq p<2^32)(hq:szq q<2^32):PX 309 [eQ p,eQ q] (encI (sgn (p-q).num)):=by
 have a1:=J2t p;have a2:=J2O p;have a3:=J2t q;have a4:=J2O q;have h:=J9e (pq p) (pq q) (J10 p) (J10 q) (by show l4 p.num.natAbs<_;omega) (by show l4 p.den<_;omega) (by show l4 q.num.natAbs<_;omega) (by show l4 q.den<_;omega);have hd:=Q1F (J10 p) (J10 q)
 have e:sgn ((pq p).1*(pq q).2-(pq q).1*(pq p).2)=sgn (p-q).num:=by
  rw[← JN5 _ _ hd,J47 _ _ hd,J8m,Q0S];rfl
 rw[e] at h;exact h
def JCd (q:Rat):PX 231 [eQ q] (eQ (-q)):=by
 have h:=J4L q.num q.den;unfold eQ;rw[Q3b,Q3c];exact h
def JF4 (q:Rat):PX 131 [eQ q] (encB (decide (q=0))):=by
 have h:=JF3 q.num q.den;rw[QS.2 (Q2K (q:=q))] at h;exact h
def JJW (q:Rat)(h:szq q<2^32):PX 160 [eQ q] (encB (decide (q.den=1))):=by
 have a2:=J2O q;exact J8I q.num q.den (by omega)
def JOd (x y:Int)(h:x*y≠0):(decide (x<0) != decide (y<0))=decide (x*y<0):=by
 have hx:x≠0:=fun e=>h (by rw[e,Int.zero_mul]);have hy:y≠0:=fun e=>h (by rw[e,Int.mul_zero])
 rcases Int.lt_or_gt_of_ne hx with h1|h1<;>rcases Int.lt_or_gt_of_ne hy with h2|h2
 ·have:=Int.mul_pos_of_neg_of_neg h1 h2;rw[Q2 h1,Q2 h2,Q1 (by omega)];rfl
 ·have:=Q2u h1 h2;rw[Q2 h1,Q1 (by omega),Q2 this];rfl
 ·have:=Int.mul_neg_of_pos_of_neg h1 h2;rw[Q1 (by omega),Q2 h2,Q2 this];rfl
 have:=Int.mul_pos h1 h2;rw[Q1 (by omega),Q1 (by omega),Q1 (by omega)];rfl
def JJc (p q:Rat)(hp:szq p<2^32)(hq:szq q<2^32):PX 233 [eQ p,eQ q] (eQ (p*q)):=by
 refine PZ Tryz.func233 rfl ?_;have a1:=J2t p;have a2:=J2O p;have a3:=J2t q;have a4:=J2O q;have b1:=J7V p.num.natAbs q.num.natAbs;have b2:=J7V p.den q.den;have h1:=J1g p.num.natAbs q.num.natAbs (by show l4 _<_;omega) (by show l4 _<_;omega);have h2:=J1g p.den q.den (by show l4 _<_;omega) (by show l4 _<_;omega);have h3:=J4p (p.num*q.num) (decide (p.num<0) != decide (q.num<0)) (JOd _ _) (p.den*q.den) (Q1F (J10 p) (J10 q)) (by rw[Q2R];omega) (by omega);rw[Q2R,J47 _ _ (Q1F (J10 p) (J10 q))] at h3;rw[J3c,← Q0S];generalize Rat.divInt (p.num*q.num) ((p.den*q.den:Nat):Int)=r at *;unfold eR pq eQ encR at *;refine kWQ ?_;intros;refine CallG.intro _ c235 h1 ?_;refine kWQ ?_;intros;refine CallG.intro _ c235 h2 ?_;refine kWQ ?_;intros;refine CallG.intro _ c224 h3 ?_;refine kWQ ?_;intros;exact .of rfl
def JNw (p q:Rat)(h0:q≠0):0<p.den*q.num.natAbs∧∃ z:Int,z.natAbs=p.num.natAbs*q.den∧(z≠0→(decide (p.num<0) != decide (q.num<0))=decide (z<0))∧red z (p.den*q.num.natAbs)=pq (p/q):=by
 have hn:=JES h0;have hd:0<p.den*q.num.natAbs:=Q1F (J10 p) (by omega);refine ⟨hd,?_⟩;have hdq:=J10 q
 have sg:∀ x:Int,x*(q.den:Int)<0↔x<0:=fun x=>by
  constructor
  ·intro h
   rcases Q3v x 0 with h1|h1
   ·exact h1
   have:=Int.mul_nonneg h1 (show (0:Int)≤q.den by omega);omega
  intro h;exact Q2u h (by omega)
 by_cases h1:q.num<0
 ·refine ⟨-(p.num*q.den),by rw[Q1q,Q2R];rfl,fun hz=>?_,?_⟩
  ·have h2:=sg p.num;have hp:p.num≠0:=fun e=>hz (by rw[e,Int.zero_mul];rfl);rw[Q2 h1]
   by_cases h3:p.num<0
   ·have h4:=h2.2 h3;rw[Q2 h3,Q1 (by omega)];rfl
   have h4:¬ p.num*(q.den:Int)<0:=fun h=>h3 (h2.1 h);rw[Q1 h3,Q2 (by omega)];rfl
  rw[J47 _ _ hd,J3j,← J4F (p.num*q.den) _ (Q1d (J2S p) hn),Q0S];have e:((q.num.natAbs:Nat):Int)=-q.num:=by omega
  rw[e,Q3a]
 refine ⟨p.num*q.den,by rw[Q2R];rfl,fun hz=>?_,?_⟩
 ·have h2:=sg p.num;rw[Q1 h1,QS.2 h2];cases decide (p.num<0)<;>rfl
 rw[J47 _ _ hd,J3j,Q0S];have e:((q.num.natAbs:Nat):Int)=q.num:=by omega
 rw[e]
def JF7 (p q:Rat)(hp:szq p<2^32)(hq:szq q<2^32)(h0:q≠0):PX 157 [eQ p,eQ q] (eQ (p/q)):=by
 refine PZ Tryz.func157 rfl ?_;have a1:=J2t p;have a2:=J2O p;have a3:=J2t q;have a4:=J2O q;have b1:=J7V p.num.natAbs q.den;have b2:=J7V p.den q.num.natAbs;have h1:=J1g p.num.natAbs q.den (by show l4 _<_;omega) (by show l4 _<_;omega);have h2:=J1g p.den q.num.natAbs (by show l4 _<_;omega) (by show l4 _<_;omega);obtain ⟨hd,z,hz,hs,hr⟩:=JNw p q h0;have h3:=J4p z (decide (p.num<0) != decide (q.num<0)) hs (p.den*q.num.natAbs) hd (by rw[hz];omega) (by omega);rw[hz,hr] at h3;generalize p/q=r at *;unfold eR pq eQ encR at *;refine kWQ ?_;intros;refine CallG.intro _ c235 h1 ?_;refine kWQ ?_;intros;refine CallG.intro _ c235 h2 ?_;refine kWQ ?_;intros;refine CallG.intro _ c224 h3 ?_;refine kWQ ?_;intros;exact .of rfl
def JJd (p q:Rat)(hp:szq p<2^30)(hq:szq q<2^30)(h0:q≠0):PX 230 [eQ p,eQ q] (encB (multF p q)):=by
 refine PZ Tryz.func230 rfl ?_;have h1:=JAq p.num p.den;have h2:=JF7 p q (by omega) (by omega) h0;have h3:=JJW (p/q) (by have:=JHF p q h0;omega);have hn:=J5j p.num;generalize hF:multF p q=F;unfold multF at hF;generalize p/q=r at *;unfold eQ encR at *;refine kWQ ?_;intros;refine CallP.flat [] _ c208 h1 rfl ?_;refine kWQ ?_;intros
 by_cases h4:0≤p.num
 ·have h5:=hn.2 h4;rw[Q2 h4,QB] at hF;subst hF;refine kWQ ?_;intros;refine J00 [] _ c157 h2 ?_;refine kWQ ?_;intros;refine CallP.flat [] _ c160 h3 rfl ?_;refine kWQ ?_;intros;exact .of rfl
 have h5:¬ 0≤sgn p.num:=fun h=>h4 (hn.1 h);rw[Q1 h4,QD] at hF;subst hF;refine kWQ ?_;intros;exact .of rfl
def JOM (l:List UInt8)(hl:l.length<2^35)(n:Int)(d:Nat)(hx:readR l=some (n,d)):PX 229 [encS (ofL l)] (encR n d):=by
 refine PZ Tryz.func229 rfl ?_;obtain ⟨t,m,hr,htl,hm⟩:=JBM l;rw[hr] at hx;clear hr;obtain ⟨p1,p2,p3,p4,p5⟩:=J3a t;unfold J6I at hx;have hsz:=J04 l
 have hstart:(m=true∧0<l.length∧byteAt (ofL l) 0=45∧(ofL l).extract 1 (ofL l).size=ofL t)∨(m=false∧t=l∧(l.length=0∨0<l.length∧byteAt (ofL l) 0≠45)):=by
  rcases hm with ⟨h1,h2⟩|⟨h1,h2,h3⟩
  ·refine .inl ⟨h1,by rw[h2];simp,by rw[h2,J0h _ 0 (by simp)];rfl,?_⟩;rw[h2,J09,J04,Qi];rfl
  refine .inr ⟨h1,h2,?_⟩
  cases l with
  |nil=>exact .inl rfl
  |cons c r=>
    refine .inr ⟨by simp,?_⟩;rw[J0h _ 0 (by simp)];have:=h3 c r rfl;intro e;apply this;apply Q0h;have e2:((c.toNat:Nat):Int)=45:=e;rw[show (45:UInt8).toNat=45 from rfl];omega
 clear hm;obtain ⟨p,hpl⟩:∃ p,(J03 t).1.length=p:=⟨_,rfl⟩;rw[hpl] at p1 p2 p3 p4 p5;have hx0:(ofL t).extract 0 p=ofL (J03 t).1:=by rw[J09,Q0F,← p2]
 have hx1:p<t.length→(ofL t).extract (p+1) (ofL t).size=ofL (J03 t).2.1:=fun h=>by rw[(p4 h).2.1,J09,J04,Qi]
 have p6:∀ h:p<t.length,(J03 t).2.2=true∧byteAt (ofL t) p=47∧(J03 t).2.1.length≤t.length:=fun h=>by
  obtain ⟨a,b,c⟩:=p4 h;refine ⟨a,by rw[J0h _ _ h,c];rfl,by rw[b];simp⟩
 have p7:∀ j,j<p→¬ byteAt (ofL t) j=47:=fun j h e=>p3 j (by omega) h (by
  rw[J0h _ _ (by omega)] at e;apply Q0h
  rw[show (47:UInt8).toNat=47 from rfl];omega)
 have hst:=J04 t
 have hd:digB (J03 t).1=true:=by
  cases h:digB (J03 t).1 with
  |true=>rfl
  |false=>rw[h,if_pos rfl] at hx;cases hx
 rw[hd,if_neg (by decide)] at hx;have lr:=J3Y (J03 t).1 (J3k _ hd).1 (by omega)
 have kr : p<t.length→PX 296 [encS (ofL (J03 t).2.1)] (encN (decU (J03 t).2.1))∧AV.agg [encB m,encN (decU (J03 t).1),encN (decU (J03 t).2.1)]=encR n d:=by
  intro h;rw[if_pos (p6 h).1] at hx
  cases h2:digB (J03 t).2.1 with
  |false=>rw[h2,if_pos rfl] at hx;cases hx
  |true=>
    rw[h2,if_neg (by decide)] at hx;refine ⟨J3Y _ (J3k _ h2).1 (by have:=(p6 h).2.2;omega),?_⟩;split at hx
    ·cases hx
    split at hx
    ·cases hx
    rename_i hz;cases hx;exact JAN m _ _ hz
 have nr:t.length≤p→AV.agg [encB m,encN (decU (J03 t).1),encN 1]=encR n d:=by
  intro h;rw[if_neg (by rw[p5 h];decide)] at hx;split at hx
  ·cases hx
  rename_i hz;cases hx;exact JAN m _ _ hz
 clear p2 p3 p4 hx hd;generalize (J03 t).1=top at *;generalize (J03 t).2.1=low at *;generalize (J03 t).2.2=ok at *;have one:PX 225 [.val (.int .u64 1)] (encN 1):=J4m 1 (by decide)
 rcases hstart with ⟨hm,h0,hb,hx⟩|⟨hm,ht,h0⟩
 case' inl=>
  refine kWO ?_;intros;rw[show byteAt (ofL l) (Int.toNat 0)=45 from hb];refine kO ?_;intros
 case' inr=>rcases h0 with h0|⟨h0,hb⟩
 case' inr.inl=>
  refine kWO ?_;intros
 case' inr.inr=>
  refine kWO ?_;intros;refine CondP.neg (by exact hb) ?_;refine kWO ?_;intros
 all_goals
  refine LoopP.intro (fun k σ H=>∃ g i,i≤p∧k=p-i∧σ=fr [(0,encS (ofL t)),(2,.op 2 g 0 0),(3,encB m),(4,encI i)]∧H=hp [(2,g,⟨121,3,[nilR]⟩)]) ?_ ?_
  ·refine .intro <| W.of ⟨_,_,0,QG _,rfl,rfl,rfl⟩ ⟨?_,rfl,?_,rfl,trivial⟩ ⟨rfl,trivial⟩
   ·first
     |exact QC encS hx
     |(rw[ht];rfl)
   rw[hm]
   first
    |rfl
    |exact QC encB (Q1 hb)
  clear hsz hm
  try clear h0
  try clear hb
  try clear hx
  rintro k σ H ⟨g,i,hi,rfl,rfl,rfl⟩
  rcases QI i p with h1|h1
  ·have h47:=p7 i h1;refine kWO ?_;intros;simp only[QV];refine kO ?_;intros
   exact .intro <| W.of ⟨_,by omega,_,i+1,by omega,rfl,rfl,rfl⟩ ⟨rfl,rfl,rfl,rfl,trivial⟩ ⟨rfl,trivial⟩
  obtain rfl:i=p:=by omega
  rcases QI i t.length with h2|h2
  ·obtain ⟨q1,q2,q3⟩:=p6 h2;obtain ⟨kr1,kr2⟩:=kr h2;have hx2:=hx1 h2;have e1:((i:Int)+1).toNat=i+1:=by omega
   refine kWO ?_;intros;simp only[QV];refine kO ?_;intros;refine J00 [] _ c225 one ?_;refine kWO ?_;intros;simp only[e1,hx2];refine J00 [] _ c296 kr1 ?_;refine kWO ?_;intros;simp only[QV,hx0];refine J00 [] _ c296 lr ?_;refine kWO ?_;intros;exact .of kr2
  have q1:=p5 h2;have nr:=nr h2;refine kWO ?_;intros;refine J00 [] _ c225 one ?_;refine kWO ?_;intros;simp only[QV,hx0];refine J00 [] _ c296 lr ?_;refine kWO ?_;intros;exact .of nr
def J52 {n:Int}{d:Nat}(h:okR (n,d)):(Rat.divInt n d).num=n∧(Rat.divInt n d).den=d:=by
 obtain ⟨hd,hg,_,_⟩:=h;have hd:0<d:=hd;have h1:=J47 n d hd;have hg:Nat.gcd n.natAbs d=1:=hg;unfold red pq at h1;rw[hg] at h1;have h2:=QC Prod.fst h1;have h3:=QC Prod.snd h1;simp only[Q2v] at h2 h3;have h4:n/((1:Nat):Int)=n:=by omega
 rw[h4] at h2;exact ⟨h2.symm,h3.symm⟩
def JFB (t:ByteArray)(ht:t.size<2^35)(h:(J06 t.data.toList).2=true):PX 229 [encS t] (eQ (numV t)):=by
 obtain ⟨n,d,h1,h2,h3,h4⟩:=J7D h;have:=JOM t.data.toList (by show t.size<_;exact ht) n d h1;rw[J12] at this;unfold eQ;rw[h3,(J52 h2).1,(J52 h2).2];exact this
def JF6 (t:ByteArray)(ht:t.size<2^35)(h:(J06 t.data.toList).2=true):PX 207 [encS t] (.tup [eQ (numV t),encB true]):=by
 obtain ⟨n,d,h1,h2,h3,h4⟩:=J7D h;have:=J8K t.data.toList (by show t.size<_;exact ht);rw[J12,h1] at this;unfold eQ;rw[h3,(J52 h2).1,(J52 h2).2];exact this
def JM0 (q:Rat)(h:szq q<2^32):PX 75 [eQ q] (encB (shortV (.num q))):=by
 refine PZ Tryz.func75 rfl ?_;have a1:=J2t q;have a2:=J2O q;have h1:=J5h q.num.natAbs (by show l4 _<_;omega);have h2:=J5h q.den (by show l4 _<_;omega);generalize hF:shortV (.num q)=F
 have hF:(decide (((decT q.num.natAbs).length:Int)≤300)&&decide (((decT q.den).length:Int)≤300))=F:=by
  rw[← hF];show _=(decide ((decT q.num.natAbs).length≤300)&&decide ((decT q.den).length≤300))
  rw[QS.2 (show ((decT q.num.natAbs).length:Int)≤300↔(decT q.num.natAbs).length≤300 by omega),QS.2 (show ((decT q.den).length:Int)≤300↔(decT q.den).length≤300 by omega)]
 unfold eQ encR at *;generalize (decT q.num.natAbs).length=x at *;generalize (decT q.den).length=y at *;refine kWQ ?_;intros;refine CallP.flat [] _ c158 h1 rfl ?_;refine kWQ ?_;intros;refine CondP.dec (fun h4=>?_) (fun h4=>?_)<;>refine kW ?_
 ·rw[Q2 h4,QB] at hF;refine kQ ?_;intros;refine CallP.flat [] _ c158 h2 rfl ?_;refine kWQ ?_;intros;exact .of (by rw[← hF];rfl)
 rw[Q1 h4,QD] at hF;refine kQ ?_;intros;exact .of (by rw[← hF];rfl)
def J0T:Vl→AV
 |.num q=>.agg [encB false,encB false,encB (decide (q.num<0)),encN q.num.natAbs,encN q.den]
 |.tr b=>.agg [encB true,encB b,encB false,.val (.slice none 0 0),.val (.slice none 0 0)]
def nilV:AV:=.agg [encB false,encB false,encB false,.val (.slice none 0 0),.val (.slice none 0 0)]
def J0R:Except Int Vl→AV
 |.ok v=>.tup [J0T v,encI 0]
 |.error c=>.tup [nilV,encI c]
def J1M (q:Rat):PX 226 [eQ q] (J0T (.num q)):=by
 refine PZ Tryz.func226 rfl ?_;unfold eQ encR J0T;refine kWQ ?_;intros;exact .of rfl
def J0o (b:Bool):PX 227 [encB b] (J0T (.tr b)):=by
 refine PZ Tryz.func227 rfl ?_;unfold J0T;refine kWQ ?_;intros;exact .of rfl
def JJi (v w:Vl)(ht:v.type=w.type)(hv:v.sz<2^32)(hw:w.sz<2^32):PX 310 [J0T v,J0T w] (encB (sameV v w)):=by
 refine PZ Tryz.func310 rfl ?_
 rcases v with p|b<;>rcases w with q|c
 ·have h1:=J8R p q hv hw;generalize hF:sameV (.num p) (.num q)=F;have hF:decide (sgn (p-q).num=0)=F:=by rw[← hF];exact QS.2 (J9v p q)
  generalize sgn (p-q).num=z at *;unfold J0T eQ encR at *;refine kWQ ?_;intros;refine CallP.flat [] _ c309 h1 rfl ?_;refine kWQ ?_;intros;exact .of (by rw[← hF];rfl)
 ·cases ht
 ·cases ht
 unfold J0T;generalize hF:sameV (.tr b) (.tr c)=F;have hF:decide (b=c)=F:=hF;cases b<;>cases c<;>subst hF<;>refine kW ?_
 all_goals
  refine kQ ?_;intros;exact .of rfl
def J0V (b:Bd):J1b b=.agg [.val (.string b.use.name),.val (.int .i64 b.use.order),.val (.bool b.use.pre),encS b.value]:=rfl
def J69 (u:U):List Bd→Option ByteArray
 |[]=>none
 |b::r=>if b.use=u then some b.value else J69 u r
def J6D (bs:List Bd)(u:U)(ty:Int):Except Int Vl:=match J69 u bs with
 |none=>.error 5
 |some x=>match valV x with
   |none=>.error 0
   |some v=>if v.type≠ty then .error 7 else .ok v
def JDd (b:Bd)(r:List Bd)(u:U)(ty:Int):J6D (b::r) u ty=if b.use=u then (match valV b.value with
  |none=>.error 0
  |some v=>if v.type≠ty then .error 7 else .ok v) else J6D r u ty:=by
 unfold J6D;rw[J69]
 by_cases h:b.use=u
 ·rw[if_pos h,if_pos h]
 rw[if_neg h,if_neg h]
def JJL (s:Sys)(bs:List Bd)(tm:ByteArray)(ini:Bool)(u:U)(hv:s.vars.length≤2^60)(hl:bs.length≤2^60)(j:Nat)(hj:j<s.vars.length)(hf:findR s.vars u.name=j)(hty:s.vars[j].type=0∨s.vars[j].type=1)
  (hvals:∀ b∈bs,b.value.size<2^35∧(valV b.value).isSome=true):PX 228 [J0E s,J0L ⟨tm,ini,bs⟩,encU u] (J0R (J6D bs u s.vars[j].type)):=by
 refine PZ Tryz.func228 rfl ?_;have hFd:=JDj s u.name hv;rw[hf] at hFd;generalize hF:J6D bs u s.vars[j].type=F;obtain ⟨vs,qs,ns,ws⟩:=s;simp only at hj hF hv hty;obtain ⟨un,uo,up⟩:=u;unfold J0E J0L encU at *;simp only at hFd;have mv1:=@Q3 _ _ vs encV;have mb1:=@Q3 _ _ bs J1b;refine kWQ ?_;intros
 refine LoopP.intro (fun k σ H=>∃ g3 g4 g5 g6 i,k=bs.length-i∧i≤bs.length∧J6D (bs.drop i) ⟨un,uo,up⟩ vs[j].type=F ∧
   σ=fr [(3,.op 3 g3 0 0),(4,.op 4 g4 0 0),(5,.op 5 g5 0 0),(6,.op 6 g6 0 0),(8,encI i)] ∧
   H=hp [(3,g3,⟨26,4,[.agg [.sl 7 (vs.map encV),.sl 9 (qs.map J0M),.sl 9 (ns.map J0M),.sl 6 (ws.map J0m)]]⟩),(4,g4,⟨33,3,[.agg [encS tm,encB ini,.sl 4 (bs.map J1b)]]⟩),(5,g5,⟨54,3,[.agg [.val (.string un),.val (.int .i64 uo),.val (.bool up)]]⟩),(6,g6,⟨200,5,[nilV]⟩)]) ?_ ?_
 ·exact .intro (W.of ⟨_,_,_,_,_,0,rfl,QG _,hF,rfl,rfl⟩ ⟨rfl,rfl,rfl,rfl,rfl,trivial⟩ ⟨rfl,rfl,rfl,rfl,trivial⟩)
 rintro k σ H ⟨g3,g4,g5,g6,i,rfl,hi,hT,rfl,rfl⟩
 rcases QI i bs.length with h1|h1
 ·rw[Q6 h1,JDd] at hT;have hb:=hvals _ (QF h1);obtain ⟨b,hbb⟩:∃ b,bs[i]=b:=⟨_,rfl⟩;rw[hbb] at hT hb;obtain ⟨⟨bn,bo,bp⟩,bv⟩:=b;simp only at hT hb;obtain ⟨hbs,hbv⟩:=hb;rw[Q31] at hbv;obtain ⟨v,hvv⟩:=hbv;rw[hvv] at hT;simp only at hT;refine kWQ ?_;intros;simp only[hbb,J0V];refine kQ ?_;intros;refine Need.intro eqst54 ?_
  try simp only[hbb,J0V]
  refine kWQ ?_;intros;rw[show (decide (bn=un)&&(decide (bo=uo)&&decide (bp=up)))=decide ((⟨bn,bo,bp⟩:U)=⟨un,uo,up⟩) from eqU ⟨bn,bo,bp⟩ ⟨un,uo,up⟩];refine CondP.dec (fun c1=>?_) (fun c1=>?_)<;>refine kW ?_
  ·rw[if_pos c1] at hT
   have hk : (bv=sTrue∧v=.tr true)∨(bv≠sTrue∧bv=sFalse∧v=.tr false)∨(bv≠sTrue∧bv≠sFalse∧(J06 bv.data.toList).2=true∧v=.num (numV bv)):=by
    unfold valV at hvv
    by_cases k1:bv=sTrue
    ·rw[if_pos (.inl k1),Q2 k1] at hvv;exact .inl ⟨k1,(Q0g hvv).symm⟩
    by_cases k2:bv=sFalse
    ·rw[if_pos (.inr k2),Q1 k1] at hvv;exact .inr (.inl ⟨k1,k2,(Q0g hvv).symm⟩)
    rw[if_neg (by rintro (h|h);exact k1 h;exact k2 h)] at hvv;split at hvv
    ·rename_i k3;exact .inr (.inr ⟨k1,k2,k3,(Q0g hvv).symm⟩)
    cases hvv
   obtain ⟨⟨nm,kd,ty,vl,st,fx,un2⟩,hva⟩:∃ z,vs[j]=z:=⟨_,rfl⟩;rw[hva] at hT hty;simp only at hT hty;clear hF hvv hvals hv
   rcases hk with ⟨k1,rfl⟩|⟨k1,k2,rfl⟩|⟨k1,k2,k3,rfl⟩
   ·subst k1;have hN:=J0o true
    rcases hty with rfl|rfl
    ·rw[if_pos (by decide)] at hT;refine kQ ?_;intros;simp only[hbb,J0V];refine kS ?_;intros;refine CallG.intro _ c84 hFd ?_;refine kWQ ?_;intros;simp only[hva];refine kS ?_;intros;exact .of (by rw[← hT];rfl)
    rw[if_neg (by decide)] at hT;refine kQ ?_;intros;simp only[hbb,J0V];refine kS ?_;intros;refine CallG.intro _ c84 hFd ?_;refine kWQ ?_;intros;simp only[hva];refine kS ?_;intros;unfold J0T at hN;refine J00 [] _ c227 hN ?_;refine kWQ ?_;intros;exact .of (by rw[← hT];rfl)
   ·subst k2;have hN:=J0o false
    rcases hty with rfl|rfl
    ·rw[if_pos (by decide)] at hT;refine kQ ?_;intros;simp only[hbb,J0V];refine kS ?_;intros;refine CallG.intro _ c84 hFd ?_;refine kWQ ?_;intros;simp only[hva];refine kS ?_;intros;exact .of (by rw[← hT];rfl)
    rw[if_neg (by decide)] at hT;refine kQ ?_;intros;simp only[hbb,J0V];refine kS ?_;intros;refine CallG.intro _ c84 hFd ?_;refine kWQ ?_;intros;simp only[hva];refine kS ?_;intros;unfold J0T at hN;refine J00 [] _ c227 hN ?_;refine kWQ ?_;intros;exact .of (by rw[← hT];rfl)
   have hL:=JFB bv hbs k3;have hvt:∀ q:Rat,(Vl.num q).type=0:=fun _=>rfl;have hN:=J1M (numV bv);generalize numV bv=q at *
   rcases hty with rfl|rfl
   ·rw[if_neg (fun h=>h rfl)] at hT;refine kQ ?_;intros;simp only[hbb,J0V];refine kS ?_;intros;refine CallG.intro _ c84 hFd ?_;refine kWQ ?_;intros;simp only[hva];refine kS ?_;intros;rw[show decide (bv=({ data:=#[102,97,108,115,101] }:ByteArray))=false from Q1 k2];refine kS ?_;intros;unfold J0T eQ encR at *;refine J00 [] _ c229 hL ?_;refine kWQ ?_;intros;refine J00 [] _ c226 hN ?_;refine kWQ ?_;intros;exact .of (by rw[← hT];rfl)
   rw[if_pos (show ¬ (Vl.num q).type=1 from by rw[hvt];decide)] at hT;refine kQ ?_;intros;simp only[hbb,J0V];refine kS ?_;intros;refine CallG.intro _ c84 hFd ?_;refine kWQ ?_;intros;simp only[hva];refine kS ?_;intros;rw[show decide (bv=({ data:=#[102,97,108,115,101] }:ByteArray))=false from Q1 k2];refine kS ?_;intros;exact .of (by rw[← hT];rfl)
  rw[if_neg c1] at hT;refine kQ ?_;intros
  exact .intro <| W.of ⟨_,by omega,g3,g4,g5,g6,i+1,rfl,h1,hT,rfl,rfl⟩ ⟨rfl,rfl,rfl,rfl,rfl,trivial⟩ ⟨rfl,rfl,rfl,rfl,trivial⟩
 obtain rfl:i=bs.length:=by omega
 rw[Q9 h1] at hT;refine kWQ ?_;intros;exact .of (by rw[← hT];rfl)
def JJa (ev:Ev)(o:ByteArray)(a b:Vl)(h:((o=oAdd∨o=oSub∨o=oMul∨o=oDiv∨o=oLess∨o=oAtMost∨o=oMore∨o=oAtLeast)∧∃ p q,a=.num p∧b=.num q)∨((o=oEq∨o=oNe)∧a.type=b.type))
  (ha:a.sz<2^30)(hb:b.sz<2^30):PX 232 [encS o,J0T a,J0T b] (J0R (wayF ev o [a,b])):=by
 refine PZ Tryz.func232 rfl ?_
 rcases h with ⟨h,p,q,rfl,rfl⟩|⟨h,hab⟩
 ·have hp:szq p<2^32:=by have:szq p<2^30:=ha;omega
  have hq:szq q<2^32:=by have:szq q<2^30:=hb;omega
  have hP:=JLv p q hp hq;have hM:=J8M p q hp hq;have hX:=JJc p q hp hq;have hA:=J8R p q hp hq;have hZ:=JF4 q;have hD:=JF7 p q hp hq
  rcases h with rfl|rfl|rfl|rfl|rfl|rfl|rfl|rfl
  ·have hw:wayF ev oAdd [.num p,.num q]=.ok (.num (p+q)):=by kernel_rfl
   rw[hw];have hN:=J1M (p+q);generalize p+q=r at *;clear hw;unfold J0R J0T eQ encR at *;refine kWS ?_;intros;refine J00 [] _ c234 hP ?_;refine kWQ ?_;intros;refine J00 [] _ c226 hN ?_;refine kWQ ?_;intros;exact .of rfl
  ·have hw:wayF ev oSub [.num p,.num q]=.ok (.num (p-q)):=by kernel_rfl
   rw[hw];have hN:=J1M (p-q);generalize p-q=r at *;clear hw;unfold J0R J0T eQ encR at *;refine kWS ?_;intros;refine J00 [] _ c213 hM ?_;refine kWQ ?_;intros;refine J00 [] _ c226 hN ?_;refine kWQ ?_;intros;exact .of rfl
  ·have hw:wayF ev oMul [.num p,.num q]=.ok (.num (p*q)):=by kernel_rfl
   rw[hw];have hN:=J1M (p*q);generalize p*q=r at *;clear hw;unfold J0R J0T eQ encR at *;refine kWS ?_;intros;refine J00 [] _ c233 hX ?_;refine kWQ ?_;intros;refine J00 [] _ c226 hN ?_;refine kWQ ?_;intros;exact .of rfl
  ·have hw:wayF ev oDiv [.num p,.num q]=divV p q:=by kernel_rfl
   rw[hw];unfold divV
   by_cases h0:q=0
   ·rw[if_pos h0];rw[Q2 h0] at hZ;unfold J0R J0T eQ encR at *;refine kWS ?_;intros;refine CallP.flat [] _ c131 hZ rfl ?_;refine kWQ ?_;intros;exact .of rfl
   rw[if_neg h0];rw[Q1 h0] at hZ;have hD:=hD h0;have hN:=J1M (p/q);clear hw;generalize p/q=r at *;unfold J0R J0T eQ encR at *;refine kWS ?_;intros;refine CallP.flat [] _ c131 hZ rfl ?_;refine kWQ ?_;intros;refine J00 [] _ c157 hD ?_;refine kWQ ?_;intros;refine J00 [] _ c226 hN ?_;refine kWQ ?_;intros;exact .of rfl
  ·have hw:wayF ev oLess [.num p,.num q]=.ok (.tr (decide (p<q))):=by kernel_rfl
   rw[hw,← JJ9];clear hw;generalize sgn (p-q).num=z at *;have hN:=J0o (decide (z<0));unfold J0R J0T eQ encR at *;refine kWS ?_;intros;refine CallP.flat [] _ c309 hA rfl ?_;refine kWQ ?_;intros;refine J00 [] _ c227 hN ?_;refine kWQ ?_;intros;exact .of rfl
  ·have hw:wayF ev oAtMost [.num p,.num q]=.ok (.tr (decide (p≤q))):=by kernel_rfl
   rw[hw,← JJA];clear hw;generalize sgn (p-q).num=z at *;have hN:=J0o (decide (z≤0));unfold J0R J0T eQ encR at *;refine kWS ?_;intros;refine CallP.flat [] _ c309 hA rfl ?_;refine kWQ ?_;intros;refine J00 [] _ c227 hN ?_;refine kWQ ?_;intros;exact .of rfl
  ·have hw:wayF ev oMore [.num p,.num q]=.ok (.tr (decide (q<p))):=by kernel_rfl
   rw[hw,← JMQ];clear hw;generalize sgn (p-q).num=z at *;have hN:=J0o (decide (z>0));unfold J0R J0T eQ encR at *;refine kWS ?_;intros;refine CallP.flat [] _ c309 hA rfl ?_;refine kWQ ?_;intros;refine J00 [] _ c227 hN ?_;refine kWQ ?_;intros;exact .of rfl
  have hw:wayF ev oAtLeast [.num p,.num q]=.ok (.tr (decide (q≤p))):=by kernel_rfl
  rw[hw,← JMR];clear hw;generalize sgn (p-q).num=z at *;have hN:=J0o (decide (z≥0));unfold J0R J0T eQ encR at *;refine kWS ?_;intros;refine CallP.flat [] _ c309 hA rfl ?_;refine kWQ ?_;intros;refine J00 [] _ c227 hN ?_;refine kWQ ?_;intros;exact .of rfl
 have hS:=JJi a b hab (by omega) (by omega)
 rcases h with rfl|rfl
 ·have hw:wayF ev oEq [a,b]=.ok (.tr (sameV a b)):=by
   rcases a with p|c<;>rcases b with q|d<;>first|(cases hab;done)|kernel_rfl
  rw[hw];clear hw;generalize sameV a b=sm at *;have hN:=J0o (sm)
  rcases a with p|c<;>rcases b with q|d<;>first|(cases hab;done)|skip
  all_goals
   unfold J0R J0T at *;refine kWS ?_;intros;refine CallP.flat [] _ c310 hS rfl ?_;refine kWQ ?_;intros;refine J00 [] _ c227 hN ?_;refine kWQ ?_;intros;exact .of rfl
 have hw:wayF ev oNe [a,b]=.ok (.tr (!sameV a b)):=by
  rcases a with p|c<;>rcases b with q|d<;>first|(cases hab;done)|kernel_rfl
 rw[hw];clear hw;generalize sameV a b=sm at *;have hN:=J0o (!sm)
 rcases a with p|c<;>rcases b with q|d<;>first|(cases hab;done)|skip
 all_goals
  unfold J0R J0T at *;refine kWS ?_;intros;refine CallP.flat [] _ c310 hS rfl ?_;refine kWQ ?_;intros;refine J00 [] _ c227 hN ?_;refine kWQ ?_;intros;exact .of rfl
def JJb (o:ByteArray)(a b:Vl)(h:o=oAnd∨o=oOr):PX 232 [encS o,J0T a,J0T b] (J0R (.ok b)):=by
 refine PZ Tryz.func232 rfl ?_
 rcases h with rfl|rfl
 all_goals
  rcases a with p|c<;>rcases b with q|d
  all_goals
   unfold J0R J0T;refine kWS ?_;intros;exact .of rfl
def JE0 {e:Ex}(hb:builtF e=true)(h1:e.op=oNum):(J06 e.text.data.toList).2=true:=by
 have hx:textF e=true:=by rw[J0t] at hb;simp only[Q5] at hb;exact hb.1.1.2
 unfold textF at hx;rw[if_pos h1] at hx;simp only[Q5] at hx;exact hx.1
def JDk (s:Sys)(e:EnvA)(ks:List (ByteArray×Va))(ev:Ev)(he:EvOk ev)(hT1:e.time.size<2^35)(hT2:(J06 e.time.data.toList).2=true)(hT3:numV e.time=ev.time)(hI:e.init=ev.init)
  (hB:∀ u:U,(∃ v,J11 ks u.name=some v)→PX 228 [J0E s,J0L e,encU u] (J0R (J21 ks ev u)))(x:Ex) :
  SzE x→TxE x→builtF x=true→(typeF ks x).2=true→wtF x≤1000→PX 154 [J0E s,encE x,J0L e] (J0R (evalF ks ev x)):=by
 induction x using J1i with
 |h x ih=>
   intro hz hx hb ht hw;have ihk:=fun k hk=>ih k hk (hz.kid k hk) (hx.kid k hk) ((J0A hb).2 k hk) (J17 hb ht k hk) (by have:=JDt hk;omega);clear ih;have hty:∀ k∈x.kids,∀ v,evalF ks ev k=.ok v→v.type=(typeF ks k).1:=fun k hk=>J6b k ((J0A hb).2 k hk) (J17 hb ht k hk);have herr:∀ k∈x.kids,∀ c,evalF ks ev k=.error c→¬ c=0:=fun k hk c h=>(J1y k ((J0A hb).2 k hk) (J17 hb ht k hk) c h).ne
   have hsz:∀ k∈x.kids,∀ v,evalF ks ev k=.ok v→v.sz<2^30:=fun k hk v h=>by
    have h1:=J2l he k ((J0A hb).2 k hk) v h;have h2:=JDt hk;have:301*wtF k≤301*1000:=Qt _ (by omega);omega
   have hs:=J6Q hb ht;have htx:=hx.tx;have hLong:=JFB e.time hT1 hT2;rw[hT3] at hLong;have hnum:=JE0 hb;have hRead:=fun h=>JF6 x.text htx (hnum h)
   have hkr:∀ k∈x.kids,k.op=oNum→PX 207 [encS k.text] (.tup [eQ (numV k.text),encB true])∧evalF ks ev k=.ok (.num (numV k.text))∧(J06 k.text.data.toList).2=true∧szq (numV k.text)≤300:=fun k hk h=>by
    have h1:=JE0 ((J0A hb).2 k hk) h;exact ⟨JF6 k.text (hx.kid k hk).tx h1,by rw[J29,J1x h],h1,(J4A h1).2⟩
   have hpre:x.op=oPre→x.order=0:=by
    intro h1;have hx:textF x=true:=by rw[J0t] at hb;simp only[Q5] at hb;exact hb.1.1.2
    unfold textF at hx;rw[if_neg (by rw[h1];decide),if_neg (by rw[h1];decide),if_pos h1] at hx;simp only[Q5,Qa] at hx;omega
   have hTm:szq ev.time≤300:=he.1;clear hz hx hb ht hw;refine PZ Tryz.func154 rfl ?_;generalize hF:evalF ks ev x=F;rw[J29] at hF;rw[J02];obtain ⟨o,t,n,es⟩:=x;obtain ⟨vs,qs,ns,ws⟩:=s;obtain ⟨tm,ini,bs⟩:=e;simp only[Ex.op,Ex.text,Ex.order,Ex.kids] at *;unfold J0E J0L at *;simp only at *
   rcases hs with ⟨h,hk,_⟩|⟨h,hk,v,hv,_⟩|⟨h,a,b,c,hk,ha,hb,hc⟩|⟨h,a,b,hk,ha,hb,_⟩|⟨h,a,b,hk,hab,_⟩|⟨h,hk,_⟩|⟨h,hk,_⟩|⟨h,a,hk,ha,_⟩|⟨h,a,hk,ha,_⟩|⟨h,a,b,hk,ha,hb,h0,_⟩|⟨h,a,b,hk,ha,hb,_⟩|⟨h,a,b,hk,ha,hb,_⟩
   ·simp only[Ex.op,Ex.kids] at h hk;rw[J1x h] at hF;have hR:=hRead h;have hN:=J1M (numV t);subst h hk hF;generalize numV t=r at *;unfold J0R J0T eQ encR at *;clear hRead hkr hLong hB ihk hnum hpre hty herr hsz;refine kWS ?_;intros;refine J00 [] _ c207 hR ?_;refine kWQ ?_;intros;refine J00 [] _ c226 hN ?_;refine kWQ ?_;intros;exact .of rfl
   ·simp only[Ex.op,Ex.kids,Ex.text] at h hk hv;rw[J4w h] at hF;have hBu:=hB ⟨t,n,decide (o=oPre)⟩ ⟨v,hv⟩;rw[hF] at hBu;clear hRead hkr hLong hB ihk hnum hty herr hsz hF;unfold encU at hBu;simp only at hBu;have hfin:∀ r:Except Int Vl,J0R r=J0R r:=fun _=>rfl
    rcases h with rfl|rfl
    ·rw[Q1 (show ¬ oVar=oPre by decide)] at hBu;subst hk
     rcases F with c|(q|b)
     all_goals
      unfold J0R at *
      try unfold J0T at *
      try unfold nilV at *
      refine kWS ?_;intros;refine J00 [] _ c228 hBu ?_;refine kWQ ?_;intros;exact .of rfl
    rw[Q2 (show oPre=oPre from rfl),hpre rfl] at hBu;subst hk
    rcases F with c|(q|b)
    all_goals
     unfold J0R at *
     try unfold J0T at *
     try unfold nilV at *
     refine kWS ?_;intros;refine J00 [] _ c228 hBu ?_;refine kWQ ?_;intros;exact .of rfl
   ·simp only[Ex.op,Ex.kids] at h hk;subst h hk;have ihA:=ihk a (by simp);have ihB:=ihk b (by simp);have ihC:=ihk c (by simp);rw[J2k (.inl rfl)] at hF;clear hRead hkr hLong hB hnum hpre ihk;simp only[QK,Q0H,J02] at *
    cases hra:evalF ks ev a with
    |error cc=>
      rw[hra] at hF ihA;have hF:(.error cc:Except Int Vl)=F:=hF;subst hF;have hne:=herr a (by simp) _ hra;unfold J0R nilV at *;refine kWS ?_;intros;refine CallG.intro _ c154 ihA ?_;refine kWQ ?_;intros;exact .of rfl
    |ok va=>
      rw[hra] at hF ihA
      obtain ⟨tb,rfl⟩:∃ tb,va=.tr tb:=by
       have h1:=hty a (by simp) _ hra
       rcases va with q|tb
       ·rw[ha] at h1;cases h1
       exact ⟨tb,rfl⟩
      cases tb
      ·have hF:evalF ks ev c=F:=hF;rw[hF] at ihC;clear hF hra hty herr hsz
       rcases F with cc|(q|tb)
       all_goals
        unfold J0R at *
        try unfold J0T at *
        try unfold nilV at *
        refine kWS ?_;intros;refine CallG.intro _ c154 ihA ?_;refine kWS ?_;intros;refine CallG.intro _ c154 ihC ?_;refine kWQ ?_;intros;exact .of rfl
      have hF:evalF ks ev b=F:=hF;rw[hF] at ihB;clear hF hra hty herr hsz
      rcases F with cc|(q|tb)
      all_goals
       unfold J0R at *
       try unfold J0T at *
       try unfold nilV at *
       refine kWS ?_;intros;refine CallG.intro _ c154 ihA ?_;refine kWS ?_;intros;refine CallG.intro _ c154 ihB ?_;refine kWQ ?_;intros;exact .of rfl
   ·simp only[Ex.op,Ex.kids] at h hk;subst hk;have ihA:=ihk a (by simp);have ihB:=ihk b (by simp);rw[J2k (.inr h)] at hF;clear hRead hkr hLong hB hnum hpre ihk;simp only[QK,Q0H,J02] at *
    cases hra:evalF ks ev a with
    |error cc=>
      rw[hra] at hF ihA;have hF:(.error cc:Except Int Vl)=F:=hF;subst hF;have hne:=herr a (by simp) _ hra;unfold J0R nilV at *
      rcases h with rfl|rfl
      all_goals
       refine kWS ?_;intros;refine CallG.intro _ c154 ihA ?_;refine kWQ ?_;intros;exact .of rfl
    |ok va =>
      rw[hra] at hF ihA
      obtain ⟨tb,rfl⟩:∃ tb,va=.tr tb:=by
       have h1:=hty a (by simp) _ hra
       rcases va with q|tb
       ·rw[ha] at h1;cases h1
       exact ⟨tb,rfl⟩
      rcases h with rfl|rfl
      all_goals cases tb
      ·have hF:(.ok (.tr false):Except Int Vl)=F:=by rw[← hF];kernel_rfl
       subst hF;clear hra hty herr hsz;unfold J0R J0T at *;refine kWS ?_;intros;refine CallG.intro _ c154 ihA ?_;refine kWS ?_;intros;exact .of rfl
      ·have hF:evalF ks ev b=F:=by rw[← hF];kernel_rfl
       have hTwo:=fun v=>JJb oAnd (.tr true) v (by first|exact .inl rfl|exact .inr rfl)
       cases hrb:evalF ks ev b with
       |error cc=>
         rw[hrb] at ihB hF;have hne:=herr b (by simp) _ hrb;subst hF;clear hra hty herr hsz;unfold J0R J0T nilV at *;refine kWS ?_;intros;refine CallG.intro _ c154 ihA ?_;refine kWS ?_;intros;refine CallG.intro _ c154 ihB ?_;refine kWQ ?_;intros;exact .of rfl
       |ok vb=>
         rw[hrb] at ihB hF
         obtain ⟨tc,rfl⟩:∃ tc,vb=.tr tc:=by
          have h1:=hty b (by simp) _ hrb
          rcases vb with q|tc
          ·rw[hb] at h1;cases h1
          exact ⟨tc,rfl⟩
         have hTwo:=hTwo (.tr tc);subst hF;clear hra hty herr hsz;unfold J0R J0T at *;refine kWS ?_;intros;refine CallG.intro _ c154 ihA ?_;refine kWS ?_;intros;refine CallG.intro _ c154 ihB ?_;refine kWS ?_;intros;refine J00 [] _ c232 hTwo ?_;refine kWQ ?_;intros;exact .of rfl
      ·have hF:evalF ks ev b=F:=by rw[← hF];kernel_rfl
       have hTwo:=fun v=>JJb oOr (.tr false) v (by first|exact .inl rfl|exact .inr rfl)
       cases hrb:evalF ks ev b with
       |error cc=>
         rw[hrb] at ihB hF;have hne:=herr b (by simp) _ hrb;subst hF;clear hra hty herr hsz;unfold J0R J0T nilV at *;refine kWS ?_;intros;refine CallG.intro _ c154 ihA ?_;refine kWS ?_;intros;refine CallG.intro _ c154 ihB ?_;refine kWQ ?_;intros;exact .of rfl
       |ok vb=>
         rw[hrb] at ihB hF
         obtain ⟨tc,rfl⟩:∃ tc,vb=.tr tc:=by
          have h1:=hty b (by simp) _ hrb
          rcases vb with q|tc
          ·rw[hb] at h1;cases h1
          exact ⟨tc,rfl⟩
         have hTwo:=hTwo (.tr tc);subst hF;clear hra hty herr hsz;unfold J0R J0T at *;refine kWS ?_;intros;refine CallG.intro _ c154 ihA ?_;refine kWS ?_;intros;refine CallG.intro _ c154 ihB ?_;refine kWS ?_;intros;refine J00 [] _ c232 hTwo ?_;refine kWQ ?_;intros;exact .of rfl
      have hF:(.ok (.tr true):Except Int Vl)=F:=by rw[← hF];kernel_rfl
      subst hF;clear hra hty herr hsz;unfold J0R J0T at *;refine kWS ?_;intros;refine CallG.intro _ c154 ihA ?_;refine kWS ?_;intros;exact .of rfl
   ·simp only[Ex.op,Ex.kids] at h hk;subst hk;have ihA:=ihk a (by simp);have ihB:=ihk b (by simp);have ho:IsOp o:=J4r (by rcases h with rfl | rfl<;>simp);rw[J1A ho] at hF
    have hno:o≠oNum∧o≠oTrue∧o≠oFalse∧o≠oVar∧o≠oPre∧o≠oTime∧o≠oInit∧o≠oSample∧o≠oNeg∧o≠oNot∧o≠oAnd∧o≠oOr∧o≠oIf:=by rcases h with rfl|rfl<;>decide
    obtain ⟨n0,n1,n2,n3,n4,n5,n6,n7,n8,n9,n10,n11,n12⟩:=hno;clear hRead hkr hLong hB hnum hpre ihk ho;simp only[QK,Q0H,J02] at *
    cases hra:evalF ks ev a with
    |error cc=>
      rw[hra] at hF ihA;have hF:(.error cc:Except Int Vl)=F:=hF;subst hF;have hne:=herr a (by simp) _ hra;unfold J0R nilV at *;refine kWS ?_;intros;refine CallG.intro _ c154 ihA ?_;refine kWQ ?_;intros;exact .of rfl
    |ok va=>
      cases hrb:evalF ks ev b with
      |error cc=>
        rw[hra] at hF ihA;rw[hrb] at hF ihB;have hF:(.error cc:Except Int Vl)=F:=hF;subst hF;have hne:=herr b (by simp) _ hrb;clear hra hty herr hsz;unfold J0R nilV at *
        rcases va with p|tb
        all_goals
         unfold J0T at *;refine kWS ?_;intros;refine CallG.intro _ c154 ihA ?_;refine kWS ?_;intros;refine CallG.intro _ c154 ihB ?_;refine kWQ ?_;intros;exact .of rfl
      |ok vb=>
        rw[hra] at hF ihA;rw[hrb] at hF ihB;have hF:wayF ev o [va,vb]=F:=hF;have ta:=hty a (by simp) _ hra;have tb:=hty b (by simp) _ hrb;have hTwo:=JJa ev o va vb (.inr ⟨h,by omega⟩) (hsz a (by simp) _ hra) (hsz b (by simp) _ hrb);rw[hF] at hTwo;clear hF hra hrb hty herr hsz
        rcases va with p|tb1<;>rcases vb with q|tb2<;>rcases F with cc|(r|tb3)
        all_goals
         unfold J0R at *;unfold J0T at *
         try unfold nilV at *
         refine kWS ?_;intros;refine CallG.intro _ c154 ihA ?_;refine kWS ?_;intros;refine CallG.intro _ c154 ihB ?_;refine kWS ?_;intros;refine J00 [] _ c232 hTwo ?_;refine kWQ ?_;intros;exact .of rfl
   ·simp only[Ex.op,Ex.kids] at h hk;subst h hk;rw[J1A (J4r (by simp))] at hF;have hF:(.ok (.num ev.time):Except Int Vl)=F:=by rw[← hF];kernel_rfl
    subst hF;have hN:=J1M ev.time;generalize ev.time=r at *;clear hRead hkr hB hnum hpre ihk hty herr hsz;unfold J0R J0T eQ encR at *;refine kWS ?_;intros;refine J00 [] _ c229 hLong ?_;refine kWQ ?_;intros;refine J00 [] _ c226 hN ?_;refine kWQ ?_;intros;exact .of rfl
   ·simp only[Ex.op,Ex.kids] at h hk;subst hk;clear hRead hkr hB hnum hpre ihk hty herr hsz hLong
    rcases h with rfl|rfl|rfl
    ·rw[J1A (J4r (by simp))] at hF;have hF:(.ok (.tr true):Except Int Vl)=F:=by rw[← hF];kernel_rfl
     subst hF;have hN:=J0o true;unfold J0R J0T at *;refine kWS ?_;intros;refine J00 [] _ c227 hN ?_;refine kWQ ?_;intros;exact .of rfl
    ·rw[J1A (J4r (by simp))] at hF;have hF:(.ok (.tr false):Except Int Vl)=F:=by rw[← hF];kernel_rfl
     subst hF;have hN:=J0o false;unfold J0R J0T at *;refine kWS ?_;intros;refine J00 [] _ c227 hN ?_;refine kWQ ?_;intros;exact .of rfl
    rw[J1A (J4r (by simp))] at hF;have hF:(.ok (.tr ev.init):Except Int Vl)=F:=by rw[← hF];kernel_rfl
    subst hF;have hN:=J0o ini;rw[← hI];unfold J0R J0T at *;refine kWS ?_;intros;refine J00 [] _ c227 hN ?_;refine kWQ ?_;intros;exact .of rfl
   ·simp only[Ex.op,Ex.kids] at h hk;subst h hk;have ihA:=ihk a (by simp);rw[J1A (J4r (by simp))] at hF;clear hRead hkr hLong hB hnum hpre ihk;simp only[QK,Q0H,J02] at *
    cases hra:evalF ks ev a with
    |error cc=>
      rw[hra] at hF ihA;have hF:(.error cc:Except Int Vl)=F:=hF;subst hF;have hne:=herr a (by simp) _ hra;unfold J0R nilV at *;refine kWS ?_;intros;refine CallG.intro _ c154 ihA ?_;refine kWQ ?_;intros;exact .of rfl
    |ok va=>
      rw[hra] at hF ihA
      obtain ⟨q,rfl⟩:∃ q,va=.num q:=by
       have h1:=hty a (by simp) _ hra
       rcases va with q|tb
       ·exact ⟨q,rfl⟩
       exact absurd h1.symm ha
      have hF:(.ok (.num (-q)):Except Int Vl)=F:=by rw[← hF];kernel_rfl
      subst hF;have hO:=JCd q;have hN:=J1M (-q);generalize -q=r at *;clear hra hty herr hsz;unfold J0R J0T eQ encR at *;refine kWS ?_;intros;refine CallG.intro _ c154 ihA ?_;refine kWS ?_;intros;refine J00 [] _ c231 hO ?_;refine kWQ ?_;intros;refine J00 [] _ c226 hN ?_;refine kWQ ?_;intros;exact .of rfl
   ·simp only[Ex.op,Ex.kids] at h hk;subst h hk;have ihA:=ihk a (by simp);rw[J1A (J4r (by simp))] at hF;clear hRead hkr hLong hB hnum hpre ihk;simp only[QK,Q0H,J02] at *
    cases hra:evalF ks ev a with
    |error cc=>
      rw[hra] at hF ihA;have hF:(.error cc:Except Int Vl)=F:=hF;subst hF;have hne:=herr a (by simp) _ hra;unfold J0R nilV at *;refine kWS ?_;intros;refine CallG.intro _ c154 ihA ?_;refine kWQ ?_;intros;exact .of rfl
    |ok va=>
      rw[hra] at hF ihA
      obtain ⟨tb,rfl⟩:∃ tb,va=.tr tb:=by
       have h1:=hty a (by simp) _ hra
       rcases va with q|tb
       ·rw[ha] at h1;cases h1
       exact ⟨tb,rfl⟩
      have hF:(.ok (.tr (!tb)):Except Int Vl)=F:=by rw[← hF];kernel_rfl
      subst hF;have hN:=J0o (!tb);clear hra hty herr hsz;unfold J0R J0T at *;refine kWS ?_;intros;refine CallG.intro _ c154 ihA ?_;refine kWS ?_;intros;refine J00 [] _ c227 hN ?_;refine kWQ ?_;intros;exact .of rfl
   ·simp only[Ex.op,Ex.kids] at h hk;subst h hk;obtain ⟨r1,e1,p1,s1⟩:=(show PX 207 [encS a.text] (.tup [eQ (numV a.text),encB true])∧evalF ks ev a=.ok (.num (numV a.text))∧(J06 a.text.data.toList).2=true∧szq (numV a.text)≤300 from hkr a (by simp) ha);obtain ⟨r2,e2,p2,s2⟩:=(show PX 207 [encS b.text] (.tup [eQ (numV b.text),encB true])∧evalF ks ev b=.ok (.num (numV b.text))∧(J06 b.text.data.toList).2=true∧szq (numV b.text)≤300 from hkr b (by simp) hb);rw[J1A (J4r (by simp))] at hF;simp only[QK,Q0H] at hF;rw[e1,e2] at hF;have hF:(.ok (.tr (multF (ev.time-numV a.text) (numV b.text))):Except Int Vl)=F:=by rw[← hF];kernel_rfl
    subst hF;have hq0:numV b.text≠0:=fun h=>h0 (JBS p2 h);have hM:=J8M ev.time (numV a.text) (by omega) (by omega);have hms:=J9s ev.time (numV a.text);have hTi:=JJd (ev.time-numV a.text) (numV b.text) (by omega) (by omega) hq0;have hN:=J0o (multF (ev.time-numV a.text) (numV b.text));generalize multF (ev.time-numV a.text) (numV b.text)=mb at *;generalize ev.time-numV a.text=d1 at *;generalize ev.time=t1 at *;generalize numV a.text=t2 at *;generalize numV b.text=t3 at *;clear hRead hkr hB hnum hpre ihk hty herr hsz e1 e2 p1 p2;simp only[QK,Q0H,J02] at *;unfold J0R J0T eQ encR at *;refine kWS ?_;intros;refine J00 [] _ c229 hLong ?_;refine kWS ?_;intros;refine J00 [] _ c207 r1 ?_;refine kWS ?_;intros;refine J00 [] _ c207 r2 ?_;refine kWS ?_;intros;refine CallG.intro _ c213 hM ?_;refine kWS ?_;intros;refine CallG.intro _ c230 hTi ?_;refine kWS ?_;intros;refine CallG.intro _ c227 hN ?_;refine kWQ ?_;intros;exact .of rfl
   ·simp only[Ex.op,Ex.kids] at h hk;subst hk;have ihA:=ihk a (by simp);have ihB:=ihk b (by simp);have ho:IsOp o:=J4r (by rcases h with rfl | rfl | rfl | rfl<;>simp);rw[J1A ho] at hF
    have hno:o≠oNum∧o≠oTrue∧o≠oFalse∧o≠oVar∧o≠oPre∧o≠oTime∧o≠oInit∧o≠oSample∧o≠oNeg∧o≠oNot∧o≠oAnd∧o≠oOr∧o≠oIf:=by rcases h with rfl|rfl|rfl|rfl<;>decide
    obtain ⟨n0,n1,n2,n3,n4,n5,n6,n7,n8,n9,n10,n11,n12⟩:=hno;clear hRead hkr hLong hB hnum hpre ihk ho;simp only[QK,Q0H,J02] at *
    cases hra:evalF ks ev a with
    |error cc=>
      rw[hra] at hF ihA;have hF:(.error cc:Except Int Vl)=F:=hF;subst hF;have hne:=herr a (by simp) _ hra;unfold J0R nilV at *;refine kWS ?_;intros;refine CallG.intro _ c154 ihA ?_;refine kWQ ?_;intros;exact .of rfl
    |ok va =>
      cases hrb:evalF ks ev b with
      |error cc=>
        rw[hra] at hF ihA;rw[hrb] at hF ihB;have hF:(.error cc:Except Int Vl)=F:=hF;subst hF;have hne:=herr b (by simp) _ hrb;clear hra hty herr hsz;unfold J0R nilV at *
        rcases va with p|tb
        all_goals
         unfold J0T at *;refine kWS ?_;intros;refine CallG.intro _ c154 ihA ?_;refine kWS ?_;intros;refine CallG.intro _ c154 ihB ?_;refine kWQ ?_;intros;exact .of rfl
      |ok vb=>
        rw[hra] at hF ihA;rw[hrb] at hF ihB;have hF:wayF ev o [va,vb]=F:=hF;have ta:=hty a (by simp) _ hra;have tb:=hty b (by simp) _ hrb
        have hTwo:=JJa ev o va vb (.inl ⟨by rcases h with h|h|h|h<;>simp[h],by
         rcases va with p|tb1
         ·rcases vb with q | tb2
          ·exact ⟨p,q,rfl,rfl⟩
          exact absurd tb.symm hb
         exact absurd ta.symm ha⟩) (hsz a (by simp) _ hra) (hsz b (by simp) _ hrb)
        rw[hF] at hTwo;clear hF hra hrb hty herr hsz
        rcases va with p|tb1<;>rcases vb with q|tb2<;>rcases F with cc|(r|tb3)
        all_goals
         unfold J0R at *;unfold J0T at *
         try unfold nilV at *
         refine kWS ?_;intros;refine CallG.intro _ c154 ihA ?_;refine kWS ?_;intros;refine CallG.intro _ c154 ihB ?_;refine kWS ?_;intros;refine J00 [] _ c232 hTwo ?_;refine kWQ ?_;intros;exact .of rfl
   simp only[Ex.op,Ex.kids] at h hk;subst hk;have ihA:=ihk a (by simp);have ihB:=ihk b (by simp);have ho:IsOp o:=J4r (by rcases h with rfl|rfl|rfl|rfl<;>simp);rw[J1A ho] at hF
   have hno:o≠oNum∧o≠oTrue∧o≠oFalse∧o≠oVar∧o≠oPre∧o≠oTime∧o≠oInit∧o≠oSample∧o≠oNeg∧o≠oNot∧o≠oAnd∧o≠oOr∧o≠oIf:=by rcases h with rfl|rfl|rfl|rfl<;>decide
   obtain ⟨n0,n1,n2,n3,n4,n5,n6,n7,n8,n9,n10,n11,n12⟩:=hno;clear hRead hkr hLong hB hnum hpre ihk ho;simp only[QK,Q0H,J02] at *
   cases hra:evalF ks ev a with
   |error cc=>
     rw[hra] at hF ihA;have hF:(.error cc:Except Int Vl)=F:=hF;subst hF;have hne:=herr a (by simp) _ hra;unfold J0R nilV at *;refine kWS ?_;intros;refine CallG.intro _ c154 ihA ?_;refine kWQ ?_;intros;exact .of rfl
   |ok va =>
     cases hrb:evalF ks ev b with
     |error cc=>
       rw[hra] at hF ihA;rw[hrb] at hF ihB;have hF:(.error cc:Except Int Vl)=F:=hF;subst hF;have hne:=herr b (by simp) _ hrb;clear hra hty herr hsz;unfold J0R nilV at *
       rcases va with p|tb
       all_goals
        unfold J0T at *;refine kWS ?_;intros;refine CallG.intro _ c154 ihA ?_;refine kWS ?_;intros;refine CallG.intro _ c154 ihB ?_;refine kWQ ?_;intros;exact .of rfl
     |ok vb=>
       rw[hra] at hF ihA;rw[hrb] at hF ihB;have hF:wayF ev o [va,vb]=F:=hF;have ta:=hty a (by simp) _ hra;have tb:=hty b (by simp) _ hrb
       have hTwo:=JJa ev o va vb (.inl ⟨by rcases h with h|h|h|h<;>simp[h],by
        rcases va with p|tb1
        ·rcases vb with q | tb2
         ·exact ⟨p,q,rfl,rfl⟩
         exact absurd tb.symm hb
        exact absurd ta.symm ha⟩) (hsz a (by simp) _ hra) (hsz b (by simp) _ hrb)
       rw[hF] at hTwo;clear hF hra hrb hty herr hsz
       rcases va with p|tb1<;>rcases vb with q|tb2<;>rcases F with cc|(r|tb3)
       all_goals
        unfold J0R at *;unfold J0T at *
        try unfold nilV at *
        refine kWS ?_;intros;refine CallG.intro _ c154 ihA ?_;refine kWS ?_;intros;refine CallG.intro _ c154 ihB ?_;refine kWS ?_;intros;refine J00 [] _ c232 hTwo ?_;refine kWQ ?_;intros;exact .of rfl
def JGK {s:Sys}(h:checkF s=0):(∀ n,J11 (knownF s.vars) n=s.vars.find? fun v=>decide (v.name=n))∧∀ v∈s.vars,v.type=0∨v.type=1:=by
 unfold checkF at h
 have hL:largeF s=false:=by
  cases h1:largeF s
  ·rfl
  rw[h1] at h;simp at h
 rw[hL] at h
 have hV:validF s=true:=by
  cases h1:validF s
  ·rw[h1] at h;simp at h
  rfl
 unfold validF at hV;simp only[Q5,Qw] at hV;obtain ⟨⟨⟨⟨⟨⟨h1,_⟩,_⟩,_⟩,hv⟩,_⟩,_⟩:=hV
 refine ⟨fun n=>?_,fun v hvm=>JB1 (by
  have:=Q0q.1 hv v hvm
  simpa using this)⟩
 have e1:knownF s.vars=s.vars.map fun v=>(v.name,v):=by
  unfold knownF;rw[JAC _ _ (by simpa using J5m _ _ h1)];rfl
 rw[e1,J62]
theorem J9D {n:ByteArray}{v:Va}:∀ {vs:List Va} {i:Int},(vs.find? fun v=>decide (v.name=n))=some v→∃ j,∃ hj:j<vs.length,J0Y (fun v:Va=>decide (v.name=n)) vs i=i+j∧vs[j]=v
 |[],i,h=>by cases h
 |x :: r,i,h=>by
   unfold J0Y;rw[Q2h] at h
   cases hx:decide (x.name=n) with
   |true=>
     rw[hx] at h;cases h;exact ⟨0,by simp,by simp,rfl⟩
   |false=>
     rw[hx] at h;obtain ⟨j,hj,h1,h2⟩:=J9D (vs:=r) (i:=i+1) h;exact ⟨j+1,by simp;omega,by simp only;rw[h1];push_cast;omega,h2⟩
theorem J8C {β:Type}{u:U}:∀ {l:List (U×β)},(∀ x∈l,u≠x.1)→J1W l u=none
 |[],_=>rfl
 |x::l,h=>by
   unfold J1W;rw[if_neg (h x (by simp))];exact J8C fun y hy=>h y (by simp[hy])
theorem J9a {β:Type}(k:U)(v:β)(u:U):∀ l:List (U×β),J1W (putV l k v) u=if u=k then some v else J1W l u
 |[]=>rfl
 |x :: l=>by
   unfold putV
   by_cases h:k=x.1
   ·rw[if_pos h];unfold J1W;simp only;rw[← h];split<;>rfl
   rw[if_neg h];unfold J1W;rw[J9a k v u l]
   by_cases h2:u=x.1
   ·rw[if_pos h2,if_pos h2,if_neg (fun e=>h (by rw[← e,h2]))]
   rw[if_neg h2,if_neg h2]
theorem JHl {β:Type}{k:U}{v:β}:∀ {l:List (U×β)} {x:U×β},x∈putV l k v→x.1=k∨∃ y∈l,y.1=x.1
 |[],x,h=>by simp only[putV,QO,QZ,or_false] at h;subst h;exact .inl rfl
 |y :: l,x,h=>by
   unfold putV at h;split at h
   ·rename_i e
    rcases QO.1 h with rfl|h
    ·exact .inl e.symm
    exact .inr ⟨x,by simp[h],rfl⟩
   rcases QO.1 h with rfl|h
   ·exact .inr ⟨x,by simp,rfl⟩
   rcases JHl h with h|⟨z,h1,h2⟩
   ·exact .inl h
   exact .inr ⟨z,by simp[h1],h2⟩
def J96 (q u:U):J2E (some q) u=!beforeF q u:=J7S q u
def J5p {p:Option U}{b:Bd}{bs:List Bd}{l r:List (U×Vl)}(h:openL p (b::bs) l=some r):∃ v,valV b.value=some v∧fitF b.use=true∧J2E p b.use=false∧openL (some b.use) bs (putV l b.use v)=some r:=by
 unfold openL at h;split at h
 ·cases h
 rename_i v hv;split at h
 ·cases h
 rename_i hn;simp only[Q09,Qw,not_or,Q2y,Bool.not_eq_true] at hn;exact ⟨v,hv,hn.1,hn.2,h⟩
theorem J7B:∀ {bs:List Bd} {q:U} {l r:List (U×Vl)},openL (some q) bs l=some r→∀ b∈bs,beforeF q b.use=true
 |[],q,l,r,_,b,hb=>by cases hb
 |c::bs,q,l,r,h,b,hb=>by
   obtain ⟨v,_,_,h3,h4⟩:=J5p h;rw[J96,Q1w] at h3
   rcases QO.1 hb with rfl|hb
   ·exact h3
   exact J5G _ _ _ h3 (J7B h4 b hb)
theorem J5o:∀ {bs:List Bd} {p:Option U} {l r:List (U×Vl)},openL p bs l=some r→∀ b∈bs,(valV b.value).isSome=true
 |[],p,l,r,_,b,hb=>by cases hb
 |c::bs,p,l,r,h,b,hb=>by
   obtain ⟨v,h1,_,_,h4⟩:=J5p h
   rcases QO.1 hb with rfl|hb
   ·rw[h1];rfl
   exact J5o h4 b hb
theorem J7A (u:U):∀ {bs:List Bd} {p:Option U} {l r:List (U×Vl)},openL p bs l=some r→(∀ b∈bs,∀ x∈l,b.use≠x.1)→J1W r u=match J1W l u with
  |some v=>some v
  |none=>(J69 u bs).bind valV
 |[],p,l,r,h,_=>by
   unfold openL at h;cases h;cases J1W l u<;>rfl
 |b :: bs,p,l,r,h,hd=>by
   obtain ⟨v,h1,_,_,h4⟩:=J5p h
   have ih:=J7A u h4 (fun c hc x hx=>by
    rcases JHl hx with e|⟨y,hy,e⟩
    ·rw[e];intro e2;have:=J7B h4 c hc;rw[e2,J9X] at this;cases this
    rw[← e]
    exact hd c (by simp[hc]) y hy)
   rw[ih,J9a,J69]
   by_cases hu:u=b.use
   ·rw[if_pos hu,if_pos hu.symm,J8C (l:=l) (fun x hx=>by rw[hu];exact hd b (by simp) x hx)];simp only;rw[Q1Y,h1]
   rw[if_neg hu,if_neg (fun e=>hu e.symm)]
def JGL {e:EnvA}{ev:Ev}(h:openF e=some ev)(ks:List (ByteArray×Va))(u:U):J6D e.binds u (J9p ks u.name)=J21 ks ev u:=by
 unfold openF at h;split at h
 ·cases ho:openL none e.binds [] with
  |none=>rw[ho] at h;cases h
  |some l=>
    rw[ho] at h;cases h;have ha:=J7A u ho (fun b _ x hx=>by cases hx);have hv:=J5o ho;unfold J6D J21;simp only;rw[ha];have e0:J1W ([]:List (U×Vl)) u=none:=rfl;rw[e0];simp only
    cases hf:J69 u e.binds with
    |none=>rfl
    |some x=>
      rw[Q1Y];simp only
      cases hx:valV x with
      |none=>
        exfalso
        have key:∀ bs:List Bd,J69 u bs=some x→∃ b∈bs,b.value=x:=by
         intro bs
         induction bs with
         |nil=>intro h;cases h
         |cons c r ih=>
           intro h;unfold J69 at h;split at h
           ·cases h;exact ⟨c,by simp,rfl⟩
           obtain ⟨b,hb,e⟩:=ih h;exact ⟨b,by simp[hb],e⟩
        obtain ⟨b,hb,e⟩:=key _ hf;have:=hv b hb;rw[e,hx] at this;cases this
      |some v=>rfl
 cases h
def J4C:Option U→List Bd→Bool
 |_,[]=>true
 |p,b::r=>(valV b.value).isSome&&fitF b.use&&!J2E p b.use&&J4C (some b.use) r
theorem J9B:∀ (bs:List Bd) (p:Option U) (l:List (U×Vl)),(openL p bs l).isSome=J4C p bs
 |[],p,l=>rfl
 |b :: r,p,l=>by
   unfold openL J4C
   cases hv:valV b.value with
   |none=>rfl
   |some v=>
     cases hf:fitF b.use with
     |false=>rfl
     |true=>
       cases hn:J2E p b.use with
       |true=>rfl
       |false=>exact J9B r _ _
def JMr (x:ByteArray):(valV x).isSome=(valueF x 0||valueF x 1):=by
 unfold valV valueF;split
 ·rfl
 split
 ·rename_i h;rw[h];rfl
 rename_i h;rw[Q23.2 h];rfl
def envF (e:EnvA):Int:=match openS e with
 |.error c=>c
 |.ok _=>0
def JNk (e:EnvA):envF e=if 1000<e.binds.length then 2 else if (J06 e.time.data.toList).2=true then (if J4C none e.binds=true then 0 else 1) else 1:=by
 unfold envF openS
 by_cases h0:1000<e.binds.length
 ·rw[if_pos h0,if_pos h0]
 rw[if_neg h0,if_neg h0,← J9B e.binds none []];unfold openF;generalize openL none e.binds []=o;generalize (J06 e.time.data.toList).2=p;cases p<;>cases o<;>rfl
def JPK (t:ByteArray)(ht:t.size<2^35):PX 152 [encS t] (encB (J06 t.data.toList).2):=by
 have:=JJs t.data.toList ht;rw[J12,← (J1t t.data.toList).1] at this;exact this
def JDm (e:EnvA)(hz:SzB e):PX 72 [J0L e] (encI (envF e)):=by
 refine PZ Tryz.func72 rfl ?_;obtain ⟨tm,ini,bs⟩:=e;obtain ⟨hzt,hzl,hzb⟩:=hz;simp only at hzt hzl hzb;have hIs:=JPK tm hzt;generalize hF:envF ⟨tm,ini,bs⟩=F;rw[JNk] at hF;simp only at hF;generalize (J06 tm.data.toList).2=ok at *;unfold J0L;have hml:=@Q3 _ _ bs J1b;refine kWQ ?_;intros;refine CondP.dec (fun h1=>?_) (fun h1=>?_)<;>refine kW ?_
 ·rw[if_pos (by first|omega|(rw[Q3] at h1;omega))] at hF;refine kQ ?_;intros;exact .of (by rw[← hF];rfl)
 rw[if_neg (by first|omega|(rw[Q3] at h1;omega))] at hF;refine kQ ?_;intros;refine CallP.flat [] _ c152 hIs rfl ?_
 cases ok with
 |false=>
   rw[if_neg (by decide)] at hF;refine kWQ ?_;intros;exact .of (by rw[← hF];rfl)
 |true=>
 rw[if_pos rfl] at hF;refine kWQ ?_;intros
 refine LoopP.intro (fun k σ H=>∃ g1 i,k=bs.length-i∧i≤bs.length∧(if J4C (J8W bs i) (bs.drop i)=true then (0:Int) else 1)=F ∧
   σ=fr [(1,.op 1 g1 0 0),(3,encI i)]∧H=hp [(1,g1,⟨33,3,[.agg [encS tm,encB ini,.sl 4 (bs.map J1b)]]⟩)]) ?_ ?_
 ·exact .intro (W.of ⟨_,_,0,rfl,QG _,hF,rfl,rfl⟩ ⟨rfl,rfl,trivial⟩ ⟨rfl,trivial⟩)
 clear hF hIs;rintro k σ H ⟨g1,i,rfl,hi,hT,rfl,rfl⟩
 rcases QI i bs.length with h2|h2
 ·rw[Q6 h2] at hT;have hbz:=hzb _ (QF h2)
  have hnx:J8W bs (i+1)=some bs[i].use:=by
   show bs[i]?.map Bd.use=_
   rw[Q8 h2];rfl
  obtain ⟨b,hbb⟩:∃ b,bs[i]=b:=⟨_,rfl⟩;rw[hbb] at hT hbz hnx;have hUs:=JLy b.use hbz.1;have hV0:=J3r b.value 0 hbz.2 (.inl rfl);have hV1:=J3r b.value 1 hbz.2 (.inr rfl);have hBf:=fun p=>JCl p b.use;rw[J4C,JMr] at hT;have hgo:∀ n,J2E (J8W bs i) b.use=n→J2E (J8W bs i) b.use=n:=fun _ h=>h;generalize fitF b.use=fu at *;generalize valueF b.value 0=v0 at *;generalize valueF b.value 1=v1 at *;rw[← hnx] at hT
  rcases i with _|k
  ·replace hT:(if ((v0||v1)&&fu&&!false&&J4C (J8W bs 1) (bs.drop 1))=true then (0:Int) else 1)=F:=hT;cases fu
   ·rw[Q0U,QD,QD] at hT;refine kWQ ?_;intros;simp only[hbb,J0V];refine kQ ?_;intros;refine CallG.intro _ c85 hUs ?_;refine kWQ ?_;intros;exact .of (by rw[← hT];rfl)
   cases v0
   ·cases v1
    ·refine kWQ ?_;intros;simp only[hbb,J0V];refine kQ ?_;intros;refine CallG.intro _ c85 hUs ?_;refine kWQ ?_;intros;refine CallG.intro _ c118 hV0 ?_;refine kWQ ?_;intros;refine CallG.intro _ c118 hV1 ?_;refine kWQ ?_;intros;exact .of (by rw[← hT];rfl)
    refine kWQ ?_;intros;simp only[hbb,J0V];refine kQ ?_;intros;refine CallG.intro _ c85 hUs ?_;refine kWQ ?_;intros;refine CallG.intro _ c118 hV0 ?_;refine kWQ ?_;intros;refine CallG.intro _ c118 hV1 ?_;refine kWQ ?_;intros
    exact .intro <| W.of ⟨_,by omega,g1,0+1,rfl,h2,hT,rfl,rfl⟩ ⟨rfl,rfl,trivial⟩ ⟨rfl,trivial⟩
   refine kWQ ?_;intros;simp only[hbb,J0V];refine kQ ?_;intros;refine CallG.intro _ c85 hUs ?_;refine kWQ ?_;intros;refine CallG.intro _ c118 hV0 ?_;refine kWQ ?_;intros
   exact .intro <| W.of ⟨_,by omega,g1,0+1,rfl,h2,hT,rfl,rfl⟩ ⟨rfl,rfl,trivial⟩ ⟨rfl,trivial⟩
  have h8:k<bs.length:=by omega
  have hpv:J8W bs (k+1)=some bs[k].use:=by
   show bs[k]?.map Bd.use=some _
   rw[Q8 h8];rfl
  have hix:(((k+1:Nat):Int)-1).toNat=k:=by omega
  obtain ⟨pb,hpb⟩:∃ pb,bs[k]=pb:=⟨_,rfl⟩;rw[hpb] at hpv;have hBf:=hBf pb.use;rw[hpv,J96,Q3w] at hT;generalize beforeF pb.use b.use=bf at *;cases fu
  ·rw[Q0U,QD,QD] at hT;refine kWQ ?_;intros;simp only[hbb,J0V];refine kQ ?_;intros;refine CallG.intro _ c85 hUs ?_;refine kWQ ?_;intros;exact .of (by rw[← hT];rfl)
  cases v0
  ·cases v1
   ·refine kWQ ?_;intros;simp only[hbb,J0V];refine kQ ?_;intros;refine CallG.intro _ c85 hUs ?_;refine kWQ ?_;intros;refine CallG.intro _ c118 hV0 ?_;refine kWQ ?_;intros;refine CallG.intro _ c118 hV1 ?_;refine kWQ ?_;intros;exact .of (by rw[← hT];rfl)
   refine kWQ ?_;intros;simp only[hbb,J0V];refine kQ ?_;intros;refine CallG.intro _ c85 hUs ?_;refine kWQ ?_;intros;refine CallG.intro _ c118 hV0 ?_;refine kWQ ?_;intros;refine CallG.intro _ c118 hV1 ?_;refine kWQ ?_;intros;simp only[hix,hpb,J0V];refine CallG.intro _ c119 hBf ?_;cases bf
   ·refine kWQ ?_;intros;exact .of (by rw[← hT];rfl)
   refine kWQ ?_;intros
   exact .intro <| W.of ⟨_,by omega,g1,k+1+1,rfl,h2,hT,rfl,rfl⟩ ⟨rfl,rfl,trivial⟩ ⟨rfl,trivial⟩
  refine kWQ ?_;intros;simp only[hbb,J0V];refine kQ ?_;intros;refine CallG.intro _ c85 hUs ?_;refine kWQ ?_;intros;refine CallG.intro _ c118 hV0 ?_;refine kWQ ?_;intros;simp only[hix,hpb,J0V];refine CallG.intro _ c119 hBf ?_;cases bf
  ·refine kWQ ?_;intros;exact .of (by rw[← hT];rfl)
  refine kWQ ?_;intros
  exact .intro <| W.of ⟨_,by omega,g1,k+1+1,rfl,h2,hT,rfl,rfl⟩ ⟨rfl,rfl,trivial⟩ ⟨rfl,trivial⟩
 obtain rfl:i=bs.length:=by omega
 rw[Q9 h2] at hT;refine kWQ ?_;intros;exact .of (by rw[← hT];rfl)
def lenV (v:Va):Nat:=v.name.size+v.value.size+v.start.size+v.unit.size
def JG1:List Va→Nat
 |[]=>0
 |v::r=>lenV v+JG1 r
def greatS (s:Sys):Bool:=decide (40000<JG1 s.vars)||decide (200<s.vars.length)||decide (200<s.eqs.length)||decide (200<s.inits.length)||decide (200<s.whens.length)
def JJw (s:Sys)(hs:SzS s)(hl:s.vars.length≤2^20):PX 22 [J0E s] (encB (greatS s)):=by
 refine PZ Tryz.func22 rfl ?_;have ht:=hs.t;generalize hF:greatS s=F;unfold greatS at hF;obtain ⟨vs,qs,ns,ws⟩:=s;simp only at hl ht hF;unfold J0E;simp only;have mv:=@Q3 _ _ vs encV;have mq:=@Q3 _ _ qs J0M;have mn:=@Q3 _ _ ns J0M;have mw:=@Q3 _ _ ws J0m;obtain ⟨S,hS⟩:∃ z,JG1 vs=z:=⟨_,rfl⟩;rw[hS] at hF;refine kWQ ?_;intros
 refine LoopP.intro (fun k σ H=>∃ gs i,∃ t:Nat,k=vs.length-i∧i≤vs.length∧t≤i*2^38∧t+JG1 (vs.drop i)=S ∧
   σ=fr [(1,.op 1 gs 0 0),(3,encI t),(4,encI i)] ∧
   H=hp [(1,gs,⟨26,4,[.agg [.sl 7 (vs.map encV),.sl 9 (qs.map J0M),.sl 9 (ns.map J0M),.sl 6 (ws.map J0m)]]⟩)]) ?_ ?_
 ·exact .intro (W.of ⟨_,_,0,0,rfl,QG _,QG _,by rw[Qq];exact hS,rfl,rfl⟩ ⟨rfl,rfl,rfl,trivial⟩ ⟨rfl,trivial⟩)
 rintro k σ H ⟨gs,i,t,rfl,hi,htt,hT,rfl,rfl⟩
 rcases QI i vs.length with h1|h1
 ·rw[Q6 h1] at hT;have hvi:=ht _ (QF h1);unfold JG1 lenV at hT;obtain ⟨q1,q2,q3,q4⟩:=hvi;refine kWQ ?_;intros
  refine .intro <| W.of ⟨_,by omega,gs,i+1,t+(vs[i].name.size+vs[i].value.size+vs[i].start.size+vs[i].unit.size),rfl,h1,by omega,by omega,rfl,rfl⟩ ⟨rfl,?_,rfl,trivial⟩ ⟨rfl,trivial⟩
  exact QC encI (by push_cast;omega)
 rw[Q9 h1] at hT;unfold JG1 at hT;rw[Q0O] at hT;subst hT;refine kWO ?_;intros;refine CondP.dec (fun c1=>?_) (fun c1=>?_)<;>refine kW ?_
 ·refine kQ ?_;intros;have e:F=true:=by rw[← hF];simp only[Q09,Qa];omega
  exact .of (by rw[e];rfl)
 refine kQ ?_;intros;refine CondP.dec (fun c2=>?_) (fun c2=>?_)<;>refine kW ?_
 ·refine kQ ?_;intros;have e:F=true:=by rw[← hF];simp only[Q09,Qa];omega
  exact .of (by rw[e];rfl)
 refine kQ ?_;intros;refine CondP.dec (fun c3=>?_) (fun c3=>?_)<;>refine kW ?_
 ·refine kQ ?_;intros;have e:F=true:=by rw[← hF];simp only[Q09,Qa];omega
  exact .of (by rw[e];rfl)
 refine kQ ?_;intros;refine CondP.dec (fun c4=>?_) (fun c4=>?_)<;>refine kW ?_
 ·refine kQ ?_;intros;have e:F=true:=by rw[← hF];simp only[Q09,Qa];omega
  exact .of (by rw[e];rfl)
 refine kQ ?_;intros;refine .of ?_;rw[Q1 (by omega),Q1 (by omega),Q1 (by omega),Q1 (by omega)] at hF;simp only[Qj] at hF;rw[← hF];exact QC encB (QS.2 (by omega))
def J94 {e:EnvA}{ev:Ev}(h:openS e=.ok ev):openF e=some ev:=by
 unfold openS at h;split at h
 ·cases h
 split at h
 ·cases h
 rename_i ev' h';cases h;exact h'
def J7C {e:EnvA}{ev:Ev}(h:openF e=some ev):(J06 e.time.data.toList).2=true∧numV e.time=ev.time∧e.init=ev.init∧∃ l,openL none e.binds []=some l:=by
 unfold openF at h;split at h
 ·rename_i h1
  cases ho:openL none e.binds [] with
  |none=>rw[ho] at h;cases h
  |some l=>rw[ho] at h;cases h;exact ⟨h1,rfl,rfl,l,rfl⟩
 cases h
def JDc (s:Sys)(hs:SzS s)(hc:checkF s=0)(e:EnvA)(he:SzB e)(ev:Ev)(ho:openF e=some ev)(u:U)(hk:∃ v,J11 (knownF s.vars) u.name=some v) :
  PX 228 [J0E s,J0L e,encU u] (J0R (J21 (knownF s.vars) ev u)):=by
 obtain ⟨v,hv⟩:=hk;obtain ⟨ha,ht⟩:=JGK hc;rw[ha] at hv;obtain ⟨j,hj,h1,h2⟩:=J9D (i:=0) hv
 have htk:J9p (knownF s.vars) u.name=s.vars[j].type:=by
  unfold J9p;rw[ha,hv,h2]
 obtain ⟨_,_,_,l,hl⟩:=J7C ho;have:=JJL s e.binds e.time e.init u hs.v (Qg he.l (by decide)) j hj (by unfold findR;rw[h1];omega) (ht _ (QF hj)) (fun b hb=>⟨(he.b b hb).2,J5o hl b hb⟩);rw[← htk,JGL ho] at this;exact this
def JCk (s:Sys)(hs:SzS s)(x:Ex)(hz:SzE x)(hx:TxE x)(e:EnvA)(he:SzB e)(ev:Ev)(h0:(typeS s x).2=0)(ho:openS e=.ok ev) :
  PX 154 [J0E s,encE x,J0L e] (J0R (evalF (knownF s.vars) ev x)):=by
 obtain ⟨hck,htl,hbb,htt,_⟩:=JDx h0;have hwt:=J5c htl;obtain ⟨p1,p2,p3,_⟩:=J7C (J94 ho);exact JDk s e (knownF s.vars) ev (J4g ho) he.t p1 p2 p3 (JDc s hs hck e he ev (J94 ho)) x hz hx hbb htt (by omega)
def manyF (e:EnvA):Bool:=decide (300<e.binds.length)&&decide (e.binds.length≤1000)
def JNN (e:EnvA)(hl:e.binds.length≤2^60):PX 39 [J0L e] (encB (manyF e)):=by
 refine PZ Tryz.func39 rfl ?_;obtain ⟨tm,ini,bs⟩:=e;simp only at hl;generalize hF:manyF ⟨tm,ini,bs⟩=F;unfold manyF at hF;simp only at hF;unfold J0L;have hml:=@Q3 _ _ bs J1b;refine kWQ ?_;intros;refine CondP.dec (fun h1=>?_) (fun h1=>?_)<;>refine kW ?_
 ·refine kQ ?_;intros
  have h2:300<bs.length:=by first|omega|(rw[Q3] at h1;omega)
  rw[Q2 h2,QB] at hF;refine .of ?_;rw[← hF];show AV.val (.bool (decide _))=AV.val (.bool (decide _))
  congr 2
  exact QS.2 (by first|omega|(rw[Q3];omega))
 refine kQ ?_;intros
 have h2:¬ 300<bs.length:=by first|omega|(rw[Q3] at h1;omega)
 rw[Q1 h2,QD] at hF;exact .of (by rw[← hF];rfl)
def JIc (l:List Rat):AV:=.sl 3 (l.map eQ)
def JDP:Except Int (List Rat)→AV
 |.ok l=>.tup [JIc l,encI 0]
 |.error c=>.tup [.sl 3 [],encI c]
def JFb {s:Sys}(hc:checkF s=0){x:Ex}(h:SideOk (knownF s.vars) x):typeS s x=(0,0):=by
 unfold typeS;rw[if_neg (fun k=>k hc),h.l,if_neg (by decide),h.b,if_neg (by decide),h.t,if_pos rfl]
def JPc {S:List Nat}{H:Hp}{k:Nat}{L:List AV}{n:Nat}{xs:List Rat}(h:L=xs.map eQ)(hn:n=xs.length):AV.sl 3 (((L.drop 0).take n).map (J0U (J08 S H k)))=JIc xs:=by
 subst h;rw[J0S _ _ _ _ hn fun x=>by cases k<;>rfl];rfl
def JBp (q:Rat):J0R (.ok (.num q))=.tup [.agg [encB false,encB false,encB (decide (q.num<0)),encN q.num.natAbs,encN q.den],encI 0]:=rfl
def JBq (c:Int):J0R (.error c)=.tup [.agg [encB false,encB false,encB false,.val (.slice none 0 0),.val (.slice none 0 0)],encI c]:=rfl
def JAO (q:Rat):eQ q=.agg [encB (decide (q.num<0)),encN q.num.natAbs,encN q.den]:=rfl
def J4d (s:Sys)(hs:SzS s)(e:EnvA)(he:SzB e):PX 130 [J0E s,J0L e] (JDP (residF s e)):=by
 refine PC [68] Tryz.func130 rfl (by rfl) rfl ?_;have hC:=J8Q s hs;rw[J60] at hC;have hO:=JDm e he;have hsd:=@J2r s hs;have hEv:=fun (x:Ex) (g:GdE x) ev h0 ho=>JCk s hs x g.1 g.2 e he ev h0 ho;have hst:=fun hc x h=>@JFb s hc x h;generalize hF:residF s e=F;unfold residF at hF;unfold envF at hO;have hev:=@J4g e;have her:=@J4h e;generalize checkF s=ck at *;generalize hks:knownF s.vars=ks at *;generalize openS e=oe at *;have hsz:=fun ev (he:EvOk ev) (x:Ex) (h:SideOk ks x)=>J2l (ks:=ks) he x h.b;have hec:=fun ev (x:Ex) (h:SideOk ks x)=>J1y (ks:=ks) (ev:=ev) x h.b (by rw[h.t]);obtain ⟨vs,qs,ns,ws⟩:=s;obtain ⟨tm,ini,bs⟩:=e;unfold J0E J0L at *;simp only at *;have hmq:=@Q3 _ _ qs J0M;(refine kWQ ?_;repeat intro γ);refine CallP.flat [] _ c93 hC rfl ?_
 by_cases h0:ck=0
 case' neg=>
  rw[if_pos h0] at hF;(refine kWQ ?_;repeat intro γ);rw[← hF];exact J0I (Le.nil 3) (Le.refl _)
 rw[if_neg (fun h=>h h0)] at hF;replace hsd:=hsd h0;obtain ⟨hql,hsd⟩:=hsd;replace hst:=hst h0;(refine kWQ ?_;repeat intro γ)
 cases oe with
 |error c=>
   have hc:¬ c=0:=by rcases her rfl with rfl|rfl<;>decide
   simp only at hO;refine CallP.flat [] _ c72 hO rfl ?_;(refine kWQ ?_;repeat intro γ);rw[← hF];exact J0I (Le.nil 3) (Le.refl _)
 |ok ev=>
   have hev:=hev rfl;replace hsz:=hsz ev hev;replace hec:=hec ev;replace hF:resL ks ev qs=F:=hF;have hE:∀ x,SideOk ks x→PX 154 _ (J0R (evalF ks ev x)):=fun x h=>hEv x h.g ev (by rw[hst x h]) rfl;simp only at hO;clear her hC h0 hs he hEv hst;refine CallP.flat [] _ c72 hO rfl ?_;(refine kWQ ?_;repeat intro γ)
   refine LoopP.intro (fun j σ H=>∃ g2 g3 gl i,∃ l:List Rat,j=qs.length-i∧i≤qs.length∧l.length=i∧conR l (resL ks ev (qs.drop i))=F ∧
    σ=fr [(2,.op 2 g2 0 0),(3,.op 3 g3 0 0),(8,.own 68 gl 0 l.length),(9,encI i)] ∧
    H=hp [(2,g2,⟨26,4,[.agg [.sl 7 (vs.map encV),.sl 9 (qs.map J0M),.sl 9 (ns.map J0M),.sl 6 (ws.map J0m)]]⟩),(3,g3,⟨33,3,[.agg [encS tm,encB ini,.sl 4 (bs.map J1b)]]⟩),(68,gl,⟨121,3,l.map eQ⟩)]) ?_ ?_
   ·exact .intro (J24 8 68 121 3 rfl rfl fun gl=>W.of ⟨_,_,_,gl,0,[],rfl,QG _,rfl,(by rw[← hF];show conR [] (resL ks ev qs)=_;cases resL ks ev qs<;>rfl),rfl,rfl⟩ ⟨rfl,rfl,rfl,rfl,trivial⟩ ⟨rfl,rfl,rfl,trivial⟩)
   clear hF;rintro j σ H ⟨g2,g3,gl,i,l,rfl,hi,hli,hF,rfl,rfl⟩;have hml:=@Q3 _ _ l eQ
   rcases QI i qs.length with h9|h9
   ·rw[Q6 h9] at hF;have hq:=hsd _ (QF h9);obtain ⟨q,hqq⟩:∃ q,qs[i]=q:=⟨_,rfl⟩;rw[hqq] at hF hq;obtain ⟨nm,lf,rt⟩:=q;obtain ⟨h1,h2⟩:=hq;have hE1:=hE _ h1;have hE2:=hE _ h2;have hc1:=hec _ h1;have hc2:=hec _ h2;have hz1:=hsz _ h1;have hz2:=hsz _ h2;have hw1:=h1.w;have hw2:=h2.w;have hv1:=fun v=>@J3V _ ev _ h1 v;have hv2:=fun v=>@J3V _ ev _ h2 v;clear h1 h2;simp only at hF hE1 hE2 hc1 hc2 hz1 hz2 hw1 hw2 hv1 hv2;unfold resL at hF;simp only at hF;generalize evalF ks ev lf=r1 at *;generalize evalF ks ev rt=r2 at *;rw[J02] at hE1 hE2
    rcases r1 with c|v1
    ·have hc:=(hc1 c rfl).ne;rw[JBq] at hE1;(refine kWQ ?_;repeat intro γ);simp only[hqq,J0M,J1C,Q01,Q07];(refine kQ ?_;repeat intro γ);refine CallG.intro _ c154 hE1 ?_;(refine kWQ ?_;repeat intro γ);rw[← hF];exact J0I (Le.nil 3) (Le.refl _)
    obtain ⟨q1,rfl⟩:=hv1 v1 rfl;rw[JBp] at hE1;have hz1:=hz1 _ rfl;(refine kWQ ?_;repeat intro γ);simp only[hqq,J0M,J1C,Q01,Q07];(refine kQ ?_;repeat intro γ);refine CallG.intro _ c154 hE1 ?_
    rcases r2 with c|v2
    ·have hc:=(hc2 c rfl).ne;rw[JBq] at hE2;(refine kWQ ?_;repeat intro γ);simp only[hqq,J0M,J1C,Q01,Q07];(refine kQ ?_;repeat intro γ);refine CallG.intro _ c154 hE2 ?_;(refine kWQ ?_;repeat intro γ);rw[← hF];exact J0I (Le.nil 3) (Le.refl _)
    obtain ⟨q2,rfl⟩:=hv2 v2 rfl;rw[JBp] at hE2;have hz2:=hz2 _ rfl;simp only[Vl.sz] at hz1 hz2;have hS:=J8M q1 q2 (by omega) (by omega);simp only[numO] at hF;generalize q1-q2=q3 at *;rw[JAO q1,JAO q2,JAO q3] at hS;(refine kWQ ?_;repeat intro γ);simp only[hqq,J0M,J1C,Q01,Q07];(refine kQ ?_;repeat intro γ);refine CallG.intro _ c154 hE2 ?_;(refine kWQ ?_;repeat intro γ);refine J00 [] _ c213 hS ?_;(refine kWQ ?_;repeat intro γ)
    refine .intro <| W.of ⟨_,by omega,g2,g3,γ,i+1,l++[q3],rfl,h9,by simp;omega,?_,rfl,rfl⟩ ⟨rfl,rfl,?_,rfl,trivial⟩ ⟨rfl,rfl,?_,trivial⟩
    ·rw[← hF];cases resL ks ev (qs.drop (i+1))<;>simp[conR]
    ·exact QC (AV.own 68 _ 0) (by simp)
    have e1:(l++[q3]).map eQ=l.map eQ++[eQ q3]:=by rw[QW];rfl
    exact Q41 rfl (QC (fun z=>some (γ,(⟨121,3,z⟩:Blk))) e1.symm)
   obtain rfl:i=qs.length:=by omega
   rw[Q9 (QM _)] at hF;refine kWQ ?_;intros;refine .of ?_;rw[← hF];show AV.tup [_,_]=AV.tup [JIc (l++[]),_]
   rw[Q08];exact QC (fun z=>AV.tup [z,encI 0]) (JPc rfl (by simp))
def occF (l:List Ex)(A:List U):List U:=l.foldl (fun a e=>J33 e a) A
def J4j (l:List Ex)(A:List U):List U:=l.foldl (fun a e=>J5Z e a) A
theorem J6V (u:U):∀ (l:List Ex) (A:List U),u∈occF l A↔u∈A∨∃ e∈l,OccE e u
 |[],A=>by simp[occF]
 |e::r,A=>by
   show u∈occF r (J33 e A)↔_
   rw[J6V u r,JBW,or_assoc];simp
theorem J7J (u:U):∀ (l:List Ex) (A:List U),u∈J4j l A↔u∈A∨∃ e∈l,OccE e u
 |[],A=>by simp[J4j]
 |e::r,A=>by
   show u∈J4j r (J5Z e A)↔_
   rw[J7J u r,JBU,or_assoc];simp
theorem J6v:∀ (l:List Ex) (A:List U),SrtU A→SrtU (J4j l A)
 |[],A,h=>h
 |e::r,A,h=>J6v r _ (JB7 e A h)
theorem J5r:∀ (l:List Ex) (A:List U),A.Nodup→(occF l A).Nodup
 |[],A,h=>h
 |e::r,A,h=>J5r r _ (J7F e A h)
theorem JA5:∀ (l:List Ex) (A:List U),(∀ e∈l,wtF e≤200)→(occF l A).length≤A.length+200*l.length
 |[],A,_=>by simp[occF]
 |e::r,A,h=>by
   have h1:=JA5 r (J33 e A) fun x hx=>h x (by simp[hx]);have h2:=JB3 e A;have h3:=h e (by simp);show (occF r (J33 e A)).length≤_
   simp only[QT];omega
def J8E {s:Sys}(hs:SzS s)(hc:checkF s=0):s.eqs.length≤120∧s.inits.length≤120∧s.whens.length≤120∧(∀ w∈s.whens,w.acts.length≤20)∧(∀ e∈allF s,GdE e∧builtF e=true∧tooF e=false):=by
 have hT:=J9T hs hc;obtain ⟨hL,hV⟩:=J88 hc;unfold largeF at hL;simp only[Q04,Qe] at hL;obtain ⟨⟨⟨l1,l2⟩,l3⟩,l4⟩:=hL;have ht:=J4k l4
 have hlw:∀ w∈s.whens,w.acts.length≤20:=fun w hw=>by
  have:=Q0q.1 l3 w hw
  simpa using this
 refine ⟨by omega,by omega,by omega,hlw,fun e he=>⟨hs.e e he,?_,ht e he⟩⟩;unfold validF at hV;simp only[Q5,Qw] at hV;obtain ⟨⟨⟨_,hv⟩,hq,hn⟩,hw⟩:=hV
 have side:∀ l:List Eqn,l.all (eqT (knownF s.vars))=true→e∈J1R l→builtF e=true:=by
  intro l h1 h2;unfold J1R at h2;obtain ⟨q,hq,h3⟩:=Q0i.1 h2;have:=QL.1 h1 q hq;unfold eqT typedF at this;simp only[Q5] at this
  rcases QO.1 h3 with rfl|h3
  ·exact this.1.1.1
  rcases QO.1 h3 with rfl|h3
  ·exact this.2.1.1
  cases h3
 unfold allF at he
 rcases Q0z.1 he with he|he
 ·rcases Q0z.1 he with he | he
  ·exact side _ hq he
  exact side _ hn he
 obtain ⟨w,hwm,h3⟩:=Q0i.1 he;have:=J6n hw w hwm;unfold J32 at h3
 rcases QO.1 h3 with rfl|h3
 ·exact this.1
 obtain ⟨a,ha,rfl⟩:=Qs.1 h3;exact (this.2 a ha).2.2
theorem JE3 {α:Type}(f:α→Nat)(B:Nat):∀ l:List α,(∀ x∈l,f x≤B)→(l.map f).sum≤B*l.length
 |[],_=>by simp
 |x::r,h=>by
   have h1:=h x (by simp);have h2:=JE3 f B r fun y hy=>h y (by simp[hy]);simp only[QK,Q2I,QT,Q3y];omega
def JJR {s:Sys}(h1:s.eqs.length≤120)(h2:s.inits.length≤120)(h3:s.whens.length≤120)(h4:∀ w∈s.whens,w.acts.length≤20):(allF s).length≤3000:=by
 unfold allF J1R;simp only[QQ,List.length_flatMap];have a:=JE3 (fun q:Eqn=>[q.left,q.right].length) 2 s.eqs fun _ _=>QM _;have b:=JE3 (fun q:Eqn=>[q.left,q.right].length) 2 s.inits fun _ _=>QM _;have c:=JE3 (fun w:Whn=>(J32 w).length) 21 s.whens fun w hw=>by have:=h4 w hw;simp[J32];omega
 omega
def usesS (s:Sys):List U×Int:=if checkF s≠0 then ([],checkF s) else (J4j (allF s) [],0)
def JLp (s:Sys)(hs:SzS s):PX 56 [J0E s] (JNl (usesS s)):=by
 refine PC [13] Tryz.func56 rfl (by rfl) rfl ?_;have hC:=J5R s hs;have hA:=JMV s;have hap:=fun hc=>@J8E s hs hc;have hal:=@JJR s;generalize hF:usesS s=F;unfold usesS at hF;generalize checkF s=ck at *;generalize allF s=L at *;obtain ⟨vs,qs,ns,ws⟩:=s;unfold J0E at *;simp only at *;clear hs;refine kWQ ?_;intros;refine CallP.flat [] _ c89 hC rfl ?_
 by_cases h0:ck=0
 case' neg=>
  rw[if_pos h0] at hF;refine kWQ ?_;intros;rw[← hF];exact J0I (Le.nil 3) (Le.refl _)
 rw[if_neg (fun h=>h h0)] at hF;obtain ⟨p1,p2,p3,p4,p5⟩:=hap h0;have hA:=hA p1 p2 p3 p4;have hal:=hal p1 p2 p3 p4;have hw:∀ e∈L,wtF e≤200:=fun e he=>J5c (p5 e he).2.2
 have hS:PX 122 [setU (occF L [])] (J3J (J4j L [])):=by
  refine JJg _ _ (J5r L [] Q3f) (fun u hu=>?_) (by have:=JA5 L [] hw;simp at this;omega) (J6v L [] List.Pairwise.nil) fun u=>?_
  ·rw[J6V] at hu
   rcases hu with h|⟨e,he,h⟩
   ·cases h
   exact JHu u e (p5 e he).2.1 h
  rw[J7J,J6V]
 have hml:=@Q3 _ _ L encE;refine kWQ ?_;intros;refine J00 [] _ c132 hA ?_;refine kWQ ?_;intros
 refine LoopP.intro (fun k σ H=>∃ g i A,k=L.length-i∧i≤L.length∧occF (L.drop i) A=occF L [] ∧
  σ=fr [(5,.om 13 g),(15,.sl 4 (L.map encE)),(16,encI L.length),(17,encI i)]∧H=hp [(13,g,⟨169,0,[setU A]⟩)]) ?_ ?_
 ·exact .intro (W.of ⟨_,_,0,[],rfl,QG _,rfl,rfl,rfl⟩ ⟨rfl,rfl,(by first|rfl|exact QC (fun n:Nat=>encI n) hml),rfl,trivial⟩ ⟨rfl,trivial⟩)
 rintro k σ H ⟨g,i,A,rfl,hi,hacc,rfl,rfl⟩
 rcases QI i L.length with h9|h9
 ·rw[Q6 h9] at hacc;have he:=p5 _ (QF h9);obtain ⟨e,hee⟩:∃ e,L[i]=e:=⟨_,rfl⟩;rw[hee] at hacc he;have u1:=JOD e he.1.1 A;obtain ⟨A1,hA1⟩:∃ A1,J33 e A=A1:=⟨_,rfl⟩;rw[hA1] at u1;replace hacc:occF (L.drop (i+1)) A1=occF L []:=by rw[← hA1];exact hacc
  rw[J02] at u1;refine kWQ ?_;intros;simp only[hee,J02];refine kQ ?_;intros;refine CallP.frame 1000000 [(50,13)] rfl c121 (u1 _) rfl ⟨rfl,trivial⟩ ?_;rintro r0 h' ⟨rfl,rfl⟩;refine ⟨[(13,_,⟨169,0,[setU A1]⟩)],⟨rfl,trivial⟩,?_⟩;refine kWQ ?_;intros;exact .intro (W.of ⟨_,by omega,_,i+1,A1,rfl,h9,hacc,rfl,rfl⟩ ⟨rfl,rfl,rfl,rfl,trivial⟩ ⟨rfl,trivial⟩)
 obtain rfl:i=L.length:=by omega
 rw[Q9 (QM _)] at hacc;replace hacc:A=occF L []:=hacc;rw[← hacc] at hS;refine kWQ ?_;intros;refine J00 [13] _ c122 (J0G (QC (fun z=>[z]) (JPQ (e:=169) rfl)) hS) ?_;refine kWQ ?_;intros;exact .of (by rw[← hF];rfl)
def JLq (s:Sys)(hs:SzS s):PX 57 [J0E s] (JNl (usesS s)):=by
 refine PZ Tryz.func57 rfl ?_;have hC:=J8Q s hs;rw[J60] at hC;have hA:=JEk s;have hap:=fun hc=>@J8E s hs hc;have hal:=@JJR s;generalize hF:usesS s=F;unfold usesS at hF;generalize checkF s=ck at *;generalize allF s=L at *;obtain ⟨vs,qs,ns,ws⟩:=s;unfold J0E at *;simp only at *;clear hs;refine kWQ ?_;intros;refine CallP.flat [] _ c93 hC rfl ?_
 by_cases h0:ck=0
 case' neg=>
  rw[if_pos h0] at hF;refine kWQ ?_;intros;rw[← hF];exact J0I (Le.nil 3) (Le.refl _)
 rw[if_neg (fun h=>h h0)] at hF;obtain ⟨p1,p2,p3,p4,p5⟩:=hap h0;have hA:=hA p1 p2 p3 p4;have hal:=hal p1 p2 p3 p4
 have hsz:∀ e∈L,szF e≤200:=fun e he=>by
  have hl:J28 e=false:=by rw[← J9A];exact (p5 e he).2.2
  unfold J28 at hl;simp only[Q04,Qe] at hl;omega
 have hml:=@Q3 _ _ L encE;refine kWQ ?_;intros;refine J00 [] _ c133 hA ?_;refine kWQ ?_;intros
 refine LoopP.intro (fun k σ H=>∃ i,∃ A:List U,∃ x:AV,k=L.length-i∧i≤L.length∧A.length≤200*i∧J4j (L.drop i) A=J4j L []∧Le x (J3J A)∧(x=J3J A∨x=.val (.slice none 0 0)) ∧
  σ=fr [(5,x),(6,.sl 4 (L.map encE)),(7,encI i)]∧H=hp []) ?_ ?_
 ·exact .intro (W.of ⟨_,0,[],_,rfl,QG _,QM _,rfl,Le.nil 3,.inr rfl,rfl,rfl⟩ ⟨rfl,rfl,rfl,trivial⟩ trivial)
 rintro k σ H ⟨i,A,x,rfl,hi,hAl,hacc,hle,hx,rfl,rfl⟩
 rcases QI i L.length with h9|h9
 ·rw[Q6 h9] at hacc;have he:=p5 _ (QF h9);have hse:=hsz _ (QF h9);obtain ⟨e,hee⟩:∃ e,L[i]=e:=⟨_,rfl⟩;rw[hee] at hacc he hse;have u1:=JKR e he.1.1 A (by omega);have hln:=J6r e A;obtain ⟨A1,hA1⟩:∃ A1,J5Z e A=A1:=⟨_,rfl⟩;rw[hA1] at u1 hln;replace hacc:J4j (L.drop (i+1)) A1=J4j L []:=by rw[← hA1];exact hacc
  have u1:PX 127 [encE e,x] (J3J A1):=by
   refine JNB u1 ⟨rfl,fun i h h'=>?_⟩
   match i,h with
   |0,_=>exact Le.refl _
   |1,_=>exact hle
  rw[J02] at u1
  rcases hx with rfl|rfl
  all_goals
   unfold J3J at *;refine kWQ ?_;intros;simp only[hee,J02];refine kQ ?_;intros;refine J00 [] _ c127 u1 ?_;refine kWQ ?_;intros;exact .intro (W.of ⟨_,by omega,i+1,A1,_,rfl,h9,by omega,hacc,Le.refl _,.inl rfl,rfl,rfl⟩ ⟨rfl,rfl,rfl,trivial⟩ trivial)
 obtain rfl:i=L.length:=by omega
 rw[Q9 (QM _)] at hacc;replace hacc:A=J4j L []:=hacc
 rcases hx with rfl|rfl
 all_goals
  unfold J3J at *;refine kWQ ?_;intros;rw[← hF,← hacc];exact J0I hle (Le.refl _)
def JJV (q:Rat)(h:szq q<2^32):PX 76 [eQ q] (encS (strV (.num q))):=by
 have a1:=J2t q;have a2:=J2O q;have h2:=J8H q.num q.den (by omega) (by omega);have e2:encT (rT q.num q.den)=encS (strV (.num q)):=by unfold encT strV;simp only;rw[JOf]
 rw[e2] at h2;exact h2
def JAr (s:Sys)(hs:SzS s)(e:EnvA)(he:SzB e):PX 53 [J0E s,J0L e] (JNm (residS s e)):=by
 refine PC [38] Tryz.func53 rfl (by rfl) rfl ?_;have hR:=J4d s hs e he;have hsz:=fun r=>@J3B s hs e r;have her:=fun c=>@J3X s hs e c;generalize hF:residS s e=F;unfold residS at hF;generalize residF s e=rf at *;obtain ⟨vs,qs,ns,ws⟩:=s;obtain ⟨tm,ini,bs⟩:=e;unfold J0E J0L at *;simp only at *;clear hs he;(refine kWQ ?_;repeat intro γ);refine J00 [] _ c130 hR ?_
 rcases rf with c|rs
 ·have hc:=her c rfl;(refine kWQ ?_;repeat intro γ);rw[← hF];exact J0I (Le.nil 1) (Le.refl _)
 obtain ⟨_,_,hl,hz⟩:=hsz rs rfl;replace hF:conT [] (shoL rs)=F:=by rw[← hF];show conT [] (shoL rs)=(match shoL rs with|none=>([],2)|some l=>(l,0));cases shoL rs<;>rfl
 have hmr:=@Q3 _ _ rs eQ;clear hsz her hR;unfold JDP JIc;(refine kWQ ?_;repeat intro γ)
 refine LoopP.intro (fun j σ H=>∃ gl i,∃ l:List ByteArray,j=rs.length-i∧i≤rs.length∧l.length=i∧conT l (shoL (rs.drop i))=F ∧
  σ=fr [(6,.sl 3 (rs.map eQ)),(8,.own 38 gl 0 l.length),(9,encI i)]∧H=hp [(38,gl,⟨9,1,l.map encS⟩)]) ?_ ?_
 ·exact .intro (J24 8 38 9 1 rfl rfl fun gl=>W.of ⟨_,gl,0,[],rfl,QG _,rfl,hF,rfl,rfl⟩ ⟨rfl,rfl,rfl,trivial⟩ ⟨rfl,trivial⟩)
 clear hF;rintro j σ H ⟨gl,i,l,rfl,hi,hli,hF,rfl,rfl⟩;have hml:=@Q3 _ _ l encS
 rcases QI i rs.length with h9|h9
 ·rw[Q6 h9] at hF;have hq:=hz _ (QF h9);obtain ⟨q,hqq⟩:∃ q,rs[i]=q:=⟨_,rfl⟩;rw[hqq] at hF hq;have hSh:=JM0 q hq;have hSt:=JJV q hq;unfold shoL at hF;generalize shortV (.num q)=sv at *;generalize strV (.num q)=str at *;rw[JAO q] at hSh hSt;(refine kWQ ?_;repeat intro γ);simp only[hqq,JAO];(refine kQ ?_;repeat intro γ);refine CallP.flat [] _ c75 hSh rfl ?_
  cases sv with
  |false=>
    (refine kWQ ?_;repeat intro γ);rw[← hF];exact J0I (Le.nil 1) (Le.refl _)
  |true=>
    rw[if_pos rfl] at hF;(refine kWQ ?_;repeat intro γ);simp only[hqq,JAO];(refine kQ ?_;repeat intro γ);refine CallP.flat [] _ c76 hSt rfl ?_;(refine kWQ ?_;repeat intro γ)
    refine .intro <| W.of ⟨_,by omega,γ,i+1,l++[str],rfl,h9,by simp;omega,?_,rfl,rfl⟩ ⟨rfl,?_,rfl,trivial⟩ ⟨?_,trivial⟩
    ·rw[← hF];cases shoL (rs.drop (i+1))<;>simp[conT]
    ·exact QC (AV.own 38 _ 0) (by simp)
    have e1:(l++[str]).map encS=l.map encS++[encS str]:=by rw[QW];rfl
    exact Q41 rfl (QC (fun z=>some (γ,(⟨9,1,z⟩:Blk))) e1.symm)
 obtain rfl:i=rs.length:=by omega
 rw[Q9 (QM _)] at hF;refine kWQ ?_;intros;refine .of ?_;rw[← hF];show AV.tup [_,_]=AV.tup [.sl 1 ((l++[]).map encS),_]
 rw[Q08];exact QC (fun z=>AV.tup [z,encI 0]) (JP7 rfl (by simp))
def JJv (s:Sys)(hs:SzS s)(e:EnvA)(he:SzB e):PX 54 [J0E s,J0L e] (.tup [encB (holdsS s e).1,encI (holdsS s e).2]):=by
 refine PZ Tryz.func54 rfl ?_;have hR:=J4d s hs e he;have hsz:=fun r=>@J3B s hs e r;have her:=fun c=>@J3X s hs e c;generalize hF:holdsS s e=F;unfold holdsS at hF;generalize residF s e=rf at *;obtain ⟨vs,qs,ns,ws⟩:=s;obtain ⟨tm,ini,bs⟩:=e;unfold J0E J0L at *;simp only at *;clear hs he;refine kWQ ?_;intros;refine J00 [] _ c130 hR ?_
 rcases rf with c|rs
 ·have hc:=her c rfl;refine kWQ ?_;intros;exact .of (by rw[← hF];rfl)
 obtain ⟨_,_,hl,hz⟩:=hsz rs rfl;replace hF:(!rs.any fun q=>decide (q≠0),(0:Int))=F:=hF;have hmr:=@Q3 _ _ rs eQ;clear hsz her hR;unfold JDP JIc;refine kWQ ?_;intros
 refine LoopP.intro (fun j σ H=>∃ i,j=rs.length-i∧i≤rs.length∧(!(rs.drop i).any fun q=>decide (q≠0),(0:Int))=F ∧
  σ=fr [(6,.sl 3 (rs.map eQ)),(8,encI i)]∧H=hp []) ?_ ?_
 ·exact .intro (W.of ⟨_,0,rfl,QG _,hF,rfl,rfl⟩ ⟨rfl,rfl,trivial⟩ trivial)
 clear hF;rintro j σ H ⟨i,rfl,hi,hF,rfl,rfl⟩
 rcases QI i rs.length with h9|h9
 ·rw[Q6 h9,Q2H] at hF;obtain ⟨q,hqq⟩:∃ q,rs[i]=q:=⟨_,rfl⟩;rw[hqq] at hF;have hZ:=JF4 q;rw[JAO q] at hZ
  by_cases h0:q=0
  ·rw[Q2 h0] at hZ;rw[Q1 (fun h=>h h0),Qj] at hF;refine kWQ ?_;intros;simp only[hqq,JAO];refine kQ ?_;intros;refine CallP.flat [] _ c131 hZ rfl ?_;refine kWQ ?_;intros;exact .intro (W.of ⟨_,by omega,i+1,rfl,h9,hF,rfl,rfl⟩ ⟨rfl,rfl,trivial⟩ trivial)
  rw[Q1 h0] at hZ;rw[Q2 h0,Qx] at hF;refine kWQ ?_;intros;simp only[hqq,JAO];refine kQ ?_;intros;refine CallP.flat [] _ c131 hZ rfl ?_;refine kWQ ?_;intros;exact .of (by rw[← hF];rfl)
 obtain rfl:i=rs.length:=by omega
 rw[Q9 (QM _)] at hF;refine kWQ ?_;intros;exact .of (by rw[← hF];rfl)
def parL:List Va→List Bd
 |[]=>[]
 |v::r=>if v.kind=2 then ⟨⟨v.name,0,false⟩,v.value⟩::parL r else parL r
def JBQ (v:Va)(r:List Va):parL (v::r)=if v.kind=2 then ⟨⟨v.name,0,false⟩,v.value⟩::parL r else parL r:=rfl
def paramS (s:Sys):EnvA×Int:=if checkF s≠0 then (⟨⟨#[]⟩,false,[]⟩,checkF s) else (⟨⟨#[48]⟩,false,parL s.vars⟩,0)
def JI5:Le (.agg [encS ⟨#[]⟩,encB false,.val (.slice none 0 0)]) (J0L ⟨⟨#[]⟩,false,[]⟩):=by
 have h:=Le.cons (Le.refl (encS ⟨#[]⟩)) (Le.cons (Le.refl (encB false)) (Le.cons (Le.nil 4) J8N));exact Le.agg h.1 h.2
def JP8 {S:List Nat}{H:Hp}{k:Nat}{L:List AV}{n:Nat}{xs:List Bd}(h:L=xs.map J1b)(hn:n=xs.length):AV.sl 4 (((L.drop 0).take n).map (J0U (J08 S H k)))=.sl 4 (xs.map J1b):=by
 subst h;rw[J0S _ _ _ _ hn fun x=>by cases k<;>rfl]
theorem JEL:∀ l:List Va,(parL l).length≤l.length
 |[]=>QM _
 |v::r=>by
   have:=JEL r;unfold parL;split<;>simp<;>omega
def JJm (s:Sys)(hs:SzS s):PX 58 [J0E s] (.tup [J0L (paramS s).1,encI (paramS s).2]):=by
 refine PC [34] Tryz.func58 rfl (by rfl) rfl ?_;have hC:=J5R s hs;have hv:=hs.v20;generalize hF:paramS s=F;unfold paramS at hF;generalize checkF s=ck at *;obtain ⟨vs,qs,ns,ws⟩:=s;unfold J0E at *;simp only at *;have hml:=@Q3 _ _ vs encV;clear hs;(refine kWQ ?_;repeat intro γ);refine CallP.flat [] _ c89 hC rfl ?_
 by_cases h0:ck=0
 case' neg=>
  rw[if_pos h0] at hF;(refine kWQ ?_;repeat intro γ);rw[← hF];exact J0I JI5 (Le.refl _)
 rw[if_neg (fun h=>h h0)] at hF;(refine kWQ ?_;repeat intro γ)
 refine LoopP.intro (fun k σ H=>∃ g2 g5 gl i,∃ l:List Bd,k=vs.length-i∧i≤vs.length∧l.length≤i∧l++parL (vs.drop i)=parL vs ∧
  σ=fr [(2,.op 2 g2 0 0),(5,.op 5 g5 0 0),(16,.sl 7 (vs.map encV)),(17,encI vs.length),(18,encI i)] ∧
  H=hp [(2,g2,⟨33,3,[.agg [encS ⟨#[]⟩,encB false,.val (.slice none 0 0)]]⟩),(5,g5,⟨33,3,[.agg [encS ⟨#[48]⟩,encB false,.own 34 gl 0 l.length]]⟩),(34,gl,⟨82,4,l.map J1b⟩)]) ?_ ?_
 ·refine .intro <| JJX 5 _ 0 2 34 82 4 ⟨33,3,[.agg [encS ⟨#[48]⟩,encB false,.val (.slice none 0 0)]]⟩ [encS ⟨#[48]⟩,encB false,.val (.slice none 0 0)] rfl rfl rfl rfl (by decide) fun a=>?_
  exact W.of ⟨_,_,_,a,0,[],rfl,QG _,QM _,rfl,rfl,rfl⟩ ⟨rfl,rfl,rfl,(by first|rfl|exact QC (fun n:Nat=>encI n) hml),rfl,trivial⟩ ⟨rfl,rfl,rfl,trivial⟩
 rintro k σ H ⟨g2,g5,gl,i,l,rfl,hi,hli,hacc,rfl,rfl⟩;have hmt:=@Q3 _ _ l J1b
 rcases QI i vs.length with h9|h9
 ·rw[Q6 h9] at hacc;obtain ⟨v,hvv⟩:∃ v,vs[i]=v:=⟨_,rfl⟩;rw[hvv] at hacc;obtain ⟨nm,kd,ty,vl,st,fx,un⟩:=v;rw[JBQ] at hacc;simp only at hacc
  by_cases h2:kd=2
  ·rw[if_pos h2] at hacc;replace hacc:(l++[(⟨⟨nm,0,false⟩,vl⟩:Bd)])++parL (vs.drop (i+1))=parL vs:=by rw[Qo];exact hacc
   (refine kWQ ?_;repeat intro γ);simp only[hvv,encV];(refine kQ ?_;repeat intro γ)
   refine .intro <| W.of ⟨_,by omega,g2,_,γ,i+1,l++[(⟨⟨nm,0,false⟩,vl⟩:Bd)],rfl,h9,by simp;omega,hacc,rfl,rfl⟩ ⟨rfl,rfl,rfl,rfl,rfl,trivial⟩ ⟨rfl,?_,?_,trivial⟩
   ·have e2:(l++[(⟨⟨nm,0,false⟩,vl⟩:Bd)]).length=l.length+1:=by simp
    rw[e2];rfl
   have e1:(l++[(⟨⟨nm,0,false⟩,vl⟩:Bd)]).map J1b=l.map J1b++[J1b ⟨⟨nm,0,false⟩,vl⟩]:=by rw[QW];rfl
   exact Q41 rfl (QC (fun z=>some (γ,(⟨82,4,z⟩:Blk))) e1.symm)
  rw[if_neg h2] at hacc;refine kWQ ?_;intros;simp only[hvv,encV];refine kQ ?_;intros
  exact .intro <| W.of ⟨_,by omega,g2,g5,gl,i+1,l,rfl,h9,by omega,hacc,rfl,rfl⟩ ⟨rfl,rfl,rfl,rfl,rfl,trivial⟩ ⟨rfl,rfl,rfl,trivial⟩
 obtain rfl:i=vs.length:=by omega
 rw[Q9 (QM _)] at hacc;replace hacc:l=parL vs:=by rw[← hacc];simp[parL]
 refine kWQ ?_;intros;refine .of ?_;rw[← hF,← hacc];exact QC (fun z=>AV.tup [.agg [encS ⟨#[48]⟩,encB false,z],encI 0]) (JP8 rfl rfl)
def JGQ (s:Sys)(hs:SzS s):PX 59 [J0E s] (.tup [J0L (paramS s).1,encI (paramS s).2]):=by
 refine PC [45] Tryz.func59 rfl (by rfl) rfl ?_;have hC:=J8Q s hs;rw[J60] at hC;have hv:=hs.v20;generalize hF:paramS s=F;unfold paramS at hF;generalize checkF s=ck at *;obtain ⟨vs,qs,ns,ws⟩:=s;unfold J0E at *;simp only at *;have hml:=@Q3 _ _ vs encV;clear hs;(refine kWQ ?_;repeat intro γ);refine CallP.flat [] _ c93 hC rfl ?_
 by_cases h0:ck=0
 case' neg=>
  rw[if_pos h0] at hF;(refine kWQ ?_;repeat intro γ);rw[← hF];exact J0I JI5 (Le.refl _)
 rw[if_neg (fun h=>h h0)] at hF;(refine kWQ ?_;repeat intro γ)
 refine LoopP.intro (fun k σ H=>∃ g1 g2 g5 gl i,∃ l:List Bd,k=vs.length-i∧i≤vs.length∧l.length≤i∧l++parL (vs.drop i)=parL vs ∧
  σ=fr [(1,.op 1 g1 0 0),(2,.op 2 g2 0 0),(5,.op 5 g5 0 0),(6,encI i)] ∧
  H=hp [(1,g1,⟨26,4,[.agg [.sl 7 (vs.map encV),.sl 9 (qs.map J0M),.sl 9 (ns.map J0M),.sl 6 (ws.map J0m)]]⟩),(2,g2,⟨33,3,[.agg [encS ⟨#[]⟩,encB false,.val (.slice none 0 0)]]⟩),(5,g5,⟨33,3,[.agg [encS ⟨#[48]⟩,encB false,.own 45 gl 0 l.length]]⟩),(45,gl,⟨82,4,l.map J1b⟩)]) ?_ ?_
 ·refine .intro <| JJX 5 _ 0 2 45 82 4 ⟨33,3,[.agg [encS ⟨#[48]⟩,encB false,.val (.slice none 0 0)]]⟩ [encS ⟨#[48]⟩,encB false,.val (.slice none 0 0)] rfl rfl rfl rfl (by decide) fun a=>?_
  exact W.of ⟨_,_,_,_,a,0,[],rfl,QG _,QM _,rfl,rfl,rfl⟩ ⟨rfl,rfl,rfl,rfl,trivial⟩ ⟨rfl,rfl,rfl,rfl,trivial⟩
 rintro k σ H ⟨g1,g2,g5,gl,i,l,rfl,hi,hli,hacc,rfl,rfl⟩;have hmt:=@Q3 _ _ l J1b
 rcases QI i vs.length with h9|h9
 ·rw[Q6 h9] at hacc;obtain ⟨v,hvv⟩:∃ v,vs[i]=v:=⟨_,rfl⟩;rw[hvv] at hacc;obtain ⟨nm,kd,ty,vl,st,fx,un⟩:=v;rw[JBQ] at hacc;simp only at hacc
  by_cases h2:kd=2
  ·rw[if_pos h2] at hacc;replace hacc:(l++[(⟨⟨nm,0,false⟩,vl⟩:Bd)])++parL (vs.drop (i+1))=parL vs:=by rw[Qo];exact hacc
   (refine kWQ ?_;repeat intro γ)
   (repeat (simp only[hvv,encV];(refine kQ ?_;repeat intro γ)))
   refine .intro <| W.of ⟨_,by omega,g1,g2,_,γ 17,i+1,l++[(⟨⟨nm,0,false⟩,vl⟩:Bd)],rfl,h9,by simp;omega,hacc,rfl,rfl⟩ ⟨rfl,rfl,rfl,rfl,trivial⟩ ⟨rfl,rfl,?_,?_,trivial⟩
   ·have e2:(l++[(⟨⟨nm,0,false⟩,vl⟩:Bd)]).length=l.length+1:=by simp
    rw[e2];rfl
   have e1:(l++[(⟨⟨nm,0,false⟩,vl⟩:Bd)]).map J1b=l.map J1b++[J1b ⟨⟨nm,0,false⟩,vl⟩]:=by rw[QW];rfl
   exact Q41 rfl (QC (fun z=>some (γ 17,(⟨82,4,z⟩:Blk))) e1.symm)
  rw[if_neg h2] at hacc;refine kWQ ?_;intros
  (repeat (simp only[hvv,encV];refine kQ ?_;intros))
  exact .intro <| W.of ⟨_,by omega,g1,g2,g5,gl,i+1,l,rfl,h9,by omega,hacc,rfl,rfl⟩ ⟨rfl,rfl,rfl,rfl,trivial⟩ ⟨rfl,rfl,rfl,rfl,trivial⟩
 obtain rfl:i=vs.length:=by omega
 rw[Q9 (QM _)] at hacc;replace hacc:l=parL vs:=by rw[← hacc];simp[parL]
 refine kWQ ?_;intros;refine .of ?_;rw[← hF,← hacc];exact QC (fun z=>AV.tup [.agg [encS ⟨#[48]⟩,encB false,z],encI 0]) (JP8 rfl rfl)
open Go.RowKit
def J65 {P:Program}{t:Nat}{d:Go.Fw.TD}(ht:TFact P t d)(ha:d.kind.agg=true)(vs:Array Value)(off:Nat)(w':World):(part t vs off).run P w'=.ok (.agg (vs.extract off (off+d.size))) w':=by
 simp[part,QA,ht.run_isAgg w',ha,ht.run_size w']
def nestBd:NestSt Tryz.prog 82 (JEa T [(0,54),(3,9)]):=by
 refine ⟨by kernel_rfl,fun cs ds b h κ w N us vs hu hv w'=>?_⟩;rw[show JEa T [(0,54),(3,9)]=[.str,.int .i64,.bool,.str] from rfl] at h
 obtain ⟨c0,c1,c2,c3,rfl⟩:∃ c0 c1 c2 c3,cs=[c0,c1,c2,c3]:=by
  rcases cs with _|⟨c0,_|⟨c1,_|⟨c2,_|⟨c3,_|⟨c4,r⟩⟩⟩⟩⟩
  all_goals first
   |exact ⟨_,_,_,_,rfl⟩
   |(exfalso;rcases ds with _|⟨d0,_|⟨d1,_|⟨d2,_|⟨d3,_|⟨d4,q⟩⟩⟩⟩⟩<;>simp[J0N] at h<;>(repeat' split at h)<;>simp_all)
 obtain ⟨d0,d1,d2,d3,rfl⟩:∃ c0 c1 c2 c3,ds=[c0,c1,c2,c3]:=by
  rcases ds with _|⟨c0,_|⟨c1,_|⟨c2,_|⟨c3,_|⟨c4,r⟩⟩⟩⟩⟩
  all_goals first
   |exact ⟨_,_,_,_,rfl⟩
   |(exfalso;simp[J0N] at h<;>(repeat' split at h)<;>simp_all)
 obtain ⟨a1,a2,h1,h2,rfl⟩:∃ a1 a2,J0N [.str,.int .i64,.bool] [c0,c1,c2] [d0,d1,d2]=some a1∧J1j .str c3 d3=some a2∧b=(a1&&a2):=by
  simp only[J0N] at h ⊢
  cases e0:J1j .str c0 d0 with
  |none=>rw[e0] at h;cases h
  |some b0=>
    cases e1:J1j (.int .i64) c1 d1 with
    |none=>rw[e0,e1] at h;cases h
    |some b1=>
      cases e2:J1j .bool c2 d2 with
      |none=>rw[e0,e1,e2] at h;cases h
      |some b2=>
        cases e3:J1j .str c3 d3 with
        |none=>rw[e0,e1,e2,e3] at h;cases h
        |some b3=>
          rw[e0,e1,e2,e3] at h;cases h;exact ⟨_,_,rfl,rfl,by cases b0<;>cases b1<;>cases b2<;>cases b3<;>rfl⟩
 cases hu with
 |agg _ _ l1 l2 l3=>
 cases hv with
 |agg _ _ k1 k2 k3=>
 have htU:=J0c (J3x 54 _ rfl);have htS:=J0c (J3x 9 _ rfl);obtain ⟨tdB,hB,hrB⟩:=(J0c (J3x 82 _ rfl)).und;obtain ⟨tdU,hU,hrU⟩:=htU.und;simp at hrB hrU;cases tdB<;>simp[kdOf] at hrB
 cases tdU<;>simp[kdOf] at hrU
 rename_i fB fU;have hfB:Tryz.prog.fieldsOf 82=fB:=by simp[Program.fieldsOf,hB]
 have hfU:Tryz.prog.fieldsOf 54=fU:=by simp[Program.fieldsOf,hU]
 have hbB:(Tryz.prog.fieldsOf 82).toList.all (fun f=>f.name != "_")=true:=by kernel_rfl
 have hbU:∀ f∈(Tryz.prog.fieldsOf 54).toList,f.name ≠ "_" := eqst54.blank
 have hin:∀ n,(Op.equalIn (n+1+1) 54 (.agg (us.extract 0 3)) (.agg (vs.extract 0 3))).run Tryz.prog w'=.ok a1 w':=fun n=>by
  rw[run_equalIn_struct (P:=Tryz.prog) w' (n+1) 54 _ _ (by rw[hfU];exact hU) eqst54.stood];refine J39 (κ:=κ) (w:=w) (N:=N) J3x n [c0,c1,c2] [d0,d1,d2] _ _ (.agg _ _ (by simp at l1;simp;omega) (fun i h h'=>?_) (fun i h=>?_)) (.agg _ _ (by simp at k1;simp;omega) (fun i h h'=>?_) (fun i h=>?_)) w' _ 0 [.str,.int .i64,.bool] a1 (by rw[hfU,hrU];rfl) (by simpa using h1) hbU
  ·match i,h,h' with
   |0,_,h'=>
     rw[Q0V];exact l2 0 (by simp) (by simp at l1;omega)
   |1,_,h'=>
     rw[Q0V];exact l2 1 (by simp) (by simp at l1;omega)
   |2,_,h'=>
     rw[Q0V];exact l2 2 (by simp) (by simp at l1;omega)
  ·simp only[Q0V,Qq];exact l3 _ _
  ·match i,h,h' with
   |0,_,h'=>
     rw[Q0V];exact k2 0 (by simp) (by simp at k1;omega)
   |1,_,h'=>
     rw[Q0V];exact k2 1 (by simp) (by simp at k1;omega)
   |2,_,h'=>
     rw[Q0V];exact k2 2 (by simp) (by simp at k1;omega)
  simp only[Q0V,Qq];exact k3 _ _
 have hst:(Op.equalIn (9999+1) 82 (.agg us) (.agg vs)).run Tryz.prog w'=.ok (a1&&a2) w':=by
  rw[run_equalIn_struct (P:=Tryz.prog) w' 9999 82 _ _ (by rw[hfB];exact hB) (by kernel_rfl),hfB];rw[hfB] at hbB;obtain ⟨fl⟩:=fB
  rcases fl with _|⟨f0,_|⟨f1,_|⟨f2,r⟩⟩⟩<;>simp at hrB
  obtain ⟨⟨o0,t0⟩,o1,t1⟩:=hrB;simp only[Q0l,List.all_nil,Q0e,Q5,bne_iff_ne] at hbB;have e1:(part 54 us 0).run Tryz.prog w'=.ok (.agg (us.extract 0 3)) w':=J65 htU (by rfl) us 0 w';have e2:(part 54 vs 0).run Tryz.prog w'=.ok (.agg (vs.extract 0 3)) w':=J65 htU (by rfl) vs 0 w';have e3:=J1S (P:=Tryz.prog) htS (by rfl) (vs:=us) (k:=3) (by simp at l1;omega) w';have e4:=J1S (P:=Tryz.prog) htS (by rfl) (vs:=vs) (k:=3) (by simp at k1;omega) w';have e5:(Op.equalIn 9999 9 (us[3]'(by simp at l1;omega)) (vs[3]'(by simp at k1;omega))).run Tryz.prog w'=.ok a2 w':=J2K htS (l2 3 (by simp) (by simp at l1;omega)) (k2 3 (by simp) (by simp at k1;omega)) h2 9998 w';have e6:(Op.equalIn 9999 54 (.agg (us.extract 0 3)) (.agg (vs.extract 0 3))).run Tryz.prog w'=.ok a1 w':=hin 9997;simp only[Op.eqFields,QA,Sem.run_ite,if_pos hbB.1,if_pos hbB.2,o0,t0,o1,t1,e1,e2,e3,e4,e5,e6,QH];cases a1<;>cases a2<;>simp
 exact hst
def JGP (e:EnvA)(hl:e.binds.length≤2^40):PX 45 [J0L e,J0L e] (encB true):=by
 refine PZ Tryz.func45 rfl ?_;obtain ⟨tm,ini,bs⟩:=e;simp only at hl;unfold J0L;have hml:=@Q3 _ _ bs J1b;refine kWQ ?_;intros
 (repeat (simp only[Q0v,decide_true];refine kQ ?_;intros))
 refine LoopP.intro (fun k σ H=>∃ g2 g3 i,k=bs.length-i∧i≤bs.length∧σ=fr [(2,.op 2 g2 0 0),(3,.op 3 g3 0 0),(5,encI i)] ∧
  H=hp [(2,g2,⟨33,3,[.agg [encS tm,encB ini,.sl 4 (bs.map J1b)]]⟩),(3,g3,⟨33,3,[.agg [encS tm,encB ini,.sl 4 (bs.map J1b)]]⟩)]) ?_ ?_
 ·exact .intro <| W.of ⟨_,_,_,0,rfl,QG _,rfl,rfl⟩ ⟨rfl,rfl,rfl,trivial⟩ ⟨rfl,rfl,trivial⟩
 rintro k σ H ⟨g2,g3,i,rfl,hi,rfl,rfl⟩
 rcases QI i bs.length with h9|h9
 ·obtain ⟨u,huu⟩:∃ u,bs[i]=u:=⟨_,rfl⟩;refine kWQ ?_;intros;simp only[huu,J0V];refine kQ ?_;intros;refine Need.intro nestBd ?_
  try simp only[huu,J0V]
  refine kWQ ?_;intros;refine CondP.tt ?_;refine kWQ ?_;intros
  exact .intro <| W.of ⟨_,by omega,g2,g3,i+1,rfl,h9,rfl,rfl⟩ ⟨rfl,rfl,rfl,trivial⟩ ⟨rfl,rfl,trivial⟩
 obtain rfl:i=bs.length:=by omega
 refine kWQ ?_;intros;exact .of rfl
def JFr (s:Sys)(hs:SzS s):(paramS s).1.binds.length≤2^40:=by
 unfold paramS;split
 ·simp
 exact Qg (JEL _) (Qg hs.v20 (by decide))
def JGz (s:Sys)(hs:SzS s):(usesS s).1.length≤2^40:=by
 unfold usesS
 by_cases h:checkF s=0
 ·rw[if_neg (fun k=>k h)];obtain ⟨p1,p2,p3,p4,p5⟩:=J8E hs h;have hal:=JJR p1 p2 p3 p4;have hn:(J4j (allF s) []).Nodup:=(J6v _ _ List.Pairwise.nil).nodup;have hp:(J4j (allF s) []).Perm (occF (allF s) []):=(List.perm_ext_iff_of_nodup hn (J5r _ _ Q3f)).2 fun u=>by rw[J7J,J6V]
  have h1:=JA5 (allF s) [] fun e he=>J5c (p5 e he).2.2;have h2:=hp.length_eq;simp at h1;show (J4j (allF s) []).length≤_
  omega
 rw[if_pos h];simp
def JFm (s:Sys)(hs:SzS s)(e:EnvA):(residS s e).1.length≤2^40:=by
 unfold residS
 cases hr:residF s e with
 |error c=>simp
 |ok l=>
   simp only
   cases hl:shoL l with
   |none=>simp
   |some t=>
     simp only;rw[JBA hl,Q3];have:=(J3B hs hr).2.2.1;omega
def J5J (ha:PX 40 [] (encB true))(s:Sys)(hs:SzS s)(e:EnvA)(he:SzB e):PX 13 [J0E s,J0L e] (encB true):=by
 refine PZ Tryz.func13 rfl ?_;have hg:=JJw s hs hs.v20;have hm:=JNN e (Qg he.l (by decide));have a1:=JCa s hs e he;have a2:=JAr s hs e he;have a3:=JLz s hs e he;have a4:=JJv s hs e he;have a5:=JLp s hs;have a6:=JLq s hs;have a7:=JJm s hs;have a8:=JGQ s hs;have b1:=JHD (residS s e).1 (Qg (JFm s hs e) (by decide));have b2:=JLr (usesS s).1 (Qg (JGz s hs) (by decide));have b3:=JGP (paramS s).1 (JFr s hs);generalize greatS s=gr at *;generalize manyF e=mf at *;generalize residS s e=rs at *;generalize holdsS s e=hd at *;generalize usesS s=us at *;generalize paramS s=ps at *;obtain ⟨ts,f⟩:=rs;obtain ⟨c,g⟩:=hd;obtain ⟨l,k⟩:=us;obtain ⟨⟨ptm,pini,pbs⟩,pm⟩:=ps;obtain ⟨vs,qs,ns,ws⟩:=s;obtain ⟨tm,ini,bs⟩:=e;unfold J0E J0L JNm JNl at *;simp only at *;clear hs he;refine kWQ ?_;intros;refine CallP.flat [] _ c22 hg rfl ?_
 cases gr with
 |true=>
   refine kWQ ?_;intros;refine CallP.flat [] _ c40 ha rfl ?_;refine kWQ ?_;intros;exact .of rfl
 |false=>
 refine kWQ ?_;intros;refine CallP.flat [] _ c39 hm rfl ?_
 cases mf with
 |true=>
   refine kWQ ?_;intros;refine CallP.flat [] _ c40 ha rfl ?_;refine kWQ ?_;intros;exact .of rfl
 |false=>
 refine kWQ ?_;intros;refine J00 [] _ c42 a1 ?_;refine kWQ ?_;intros;refine J00 [] _ c53 a2 ?_;refine kWQ ?_;intros;refine J00 [] _ c41 a3 ?_;refine kWQ ?_;intros;refine J00 [] _ c54 a4 ?_;refine kWQ ?_;intros;refine CallP.flat [] _ c55 b1 rfl ?_;refine kWQ ?_;intros
 (repeat (simp only[Q0v,decide_true];refine kQ ?_;intros))
 refine J00 [] _ c56 a5 ?_;refine kWQ ?_;intros;refine J00 [] _ c57 a6 ?_;refine kWQ ?_;intros;refine J00 [] _ c58 a7 ?_;refine kWQ ?_;intros;refine J00 [] _ c59 a8 ?_;refine kWQ ?_;intros;refine CallP.flat [] _ c36 b2 rfl ?_;refine kWQ ?_;intros
 (repeat (simp only[Q0v,decide_true];refine kQ ?_;intros))
 refine CallP.flat [] _ c45 b3 rfl ?_;refine kWQ ?_;intros
 (repeat (simp only[Q0v,decide_true];refine kQ ?_;intros))
 refine CallP.flat [] _ c40 ha rfl ?_;refine kWQ ?_;intros
 (repeat (simp only[Q0v,decide_true];refine kQ ?_;intros))
 exact .of rfl
end Go.Proofs.YtlblbldolhiokaaGreatDoor
namespace Go.Proofs.YtlblbldolhiokaaGreatDoor
open Go Go.Fw
def OpenB.low {H:Type}{L:DataW H→Prop}{N M:Nat}{enc:TypeId×Value→H}{P:Program}{w:World}{t:Nat}{Ψ:List AV→Prop}(h:OpenB L M enc P w t Ψ)(hn:N≤M):OpenB L N enc P w t Ψ:=fun fuel hf=>h fuel (Qg hf hn)
def J2H {t e:Nat}{d:Fw.TD}(hd:T t=some d)(hk:d.kind=.slice e):Tryz.prog.underlying t=some (.slice e):=by
 obtain ⟨u,hu,hr⟩:=(J0c (J3x _ _ hd)).und;rw[hk] at hr;cases u<;>simp[kdOf] at hr
 subst hr;exact hu
def u3:Tryz.prog.underlying 3=some (.int .i64):=by kernel_rfl
def u4:Tryz.prog.underlying 4=some .bool:=by kernel_rfl
def u9:Tryz.prog.underlying 9=some .string:=by kernel_rfl
section
variable {H:Type} {enc:TypeId×Value→H} {w:World} {L:DataW H→Prop} {B0:Nat}
abbrev pS (B0:Nat):List AV→Prop:=fun z=>∃ s:ByteArray,z=[AV.val (.string s)]∧s.size≤B0
abbrev pI:List AV→Prop:=fun z=>∃ n:Int,z=[AV.val (.int .i64 n)]
abbrev pB:List AV→Prop:=fun z=>∃ b:Bool,z=[AV.val (.bool b)]
def JPY (hL:LB L B0)(N:Nat):OpenB L (N+1) enc Tryz.prog w 54 fun z=>∃ u:U,z=(encU u).cells∧u.name.size≤B0:=by
 obtain ⟨fs,hu,hf⟩:=J0j (J3x 54 _ rfl) rfl
 refine (J0k hL hu [(0,9,1,pS B0),(1,3,1,pI),(2,4,1,pB)] hf (by
  intro p hp;simp only[QO,QZ,or_false] at hp
  rcases hp with rfl|rfl|rfl<;>kernel_rfl) (by kernel_rfl) (by
  intro p hp;simp only[QO,QZ,or_false] at hp
  rcases hp with rfl|rfl|rfl
  ·exact J0y hL u9
  ·exact J3D u3
  exact J5q u4)).mono ?_
 rintro z ⟨zs,rfl,h⟩
 match zs,h with
 |[z0,z1,z2],⟨⟨s,h0,hs⟩,⟨n,h1⟩,⟨b,h2⟩,_⟩=>
   subst h0 h1 h2;exact ⟨⟨s,n,b⟩,rfl,hs⟩
def JCi (e:Ex):Prop:=SzE e∧TxE e
abbrev pExp (w:World):List AV→Prop:=fun z=>∃ e:Ex,z=(encE e).cells∧JCi e
theorem JHs (hL:LB L B0)(hB:B0<2^21):∀ N:Nat,OpenB L N enc Tryz.prog w 29 (pExp w)
 |0=>by
   intro fuel hf cs x h _;obtain ⟨fs,hu,_⟩:=J0j (J3x 29 _ rfl) rfl;obtain ⟨_,n,hn,_⟩:=DataW.trod_struct hu h;omega
 |N + 1=>by
   obtain ⟨fs,hu,hf⟩:=J0j (J3x 29 _ rfl) rfl;have hk:=OpenB.low (J1a (n:=4) (f:=encE) (Φ:=JCi) hL (J2H (t:=27) (e:=29) rfl rfl) (by kernel_rfl) (by decide) (JHs hL hB N)) (Nat.le_succ N)
   refine (J0k hL hu [(0,9,1,pS B0),(1,9,1,pS B0),(2,3,1,pI),(3,27,1,_)] hf (by
    intro p hp;simp only[QO,QZ,or_false] at hp
    rcases hp with rfl|rfl|rfl|rfl<;>kernel_rfl) (by kernel_rfl) (by
    intro p hp;simp only[QO,QZ,or_false] at hp
    rcases hp with rfl|rfl|rfl|rfl
    ·exact J0y hL u9
    ·exact J0y hL u9
    ·exact J3D u3
    exact hk)).mono ?_
   rintro z ⟨zs,rfl,h⟩
   match zs,h with
   |[z0,z1,z2,z3],⟨⟨o,h0,ho⟩,⟨t,h1,ht⟩,⟨n,h2⟩,⟨l,h3,hl,hg⟩,_⟩=>
     subst h0 h1 h2 h3;refine ⟨.mk o t n l,?_,SzE.mk (by omega) (by omega) (by omega) fun k hk=>(hg k hk).1,TxE.mk (by omega) fun k hk=>(hg k hk).2⟩;rw[J02];rfl
def JOk (hL:LB L B0)(hB:B0<2^21)(N:Nat):OpenB L (N+1) enc Tryz.prog w 58 fun z=>∃ q:Eqn,z=(J0M q).cells∧q.name.size≤B0∧JCi q.left∧JCi q.right:=by
 obtain ⟨fs,hu,hf⟩:=J0j (J3x 58 _ rfl) rfl
 refine (J0k hL hu [(0,9,1,pS B0),(1,29,4,pExp w),(5,29,4,pExp w)] hf (by
  intro p hp;simp only[QO,QZ,or_false] at hp
  rcases hp with rfl|rfl|rfl<;>kernel_rfl) (by kernel_rfl) (by
  intro p hp;simp only[QO,QZ,or_false] at hp
  rcases hp with rfl|rfl|rfl
  ·exact J0y hL u9
  ·exact JHs hL hB N
  exact JHs hL hB N)).mono ?_
 rintro z ⟨zs,rfl,h⟩
 match zs,h with
 |[z0,z1,z2],⟨⟨s,h0,hs⟩,⟨a,h1,ha⟩,⟨b,h2,hb⟩,_⟩=>
   subst h0 h1 h2;refine ⟨⟨s,a,b⟩,?_,hs,ha,hb⟩;rw[J0C,J0C];rfl
def JOm (hL:LB L B0)(hB:B0<2^21)(N:Nat):OpenB L (N+1) enc Tryz.prog w 260 fun z=>∃ a:Ac,z=(J7m a).cells∧JCi a.value:=by
 obtain ⟨fs,hu,hf⟩:=J0j (J3x 260 _ rfl) rfl
 refine (J0k hL hu [(0,3,1,pI),(1,9,1,pS B0),(2,29,4,pExp w)] hf (by
  intro p hp;simp only[QO,QZ,or_false] at hp
  rcases hp with rfl|rfl|rfl<;>kernel_rfl) (by kernel_rfl) (by
  intro p hp;simp only[QO,QZ,or_false] at hp
  rcases hp with rfl|rfl|rfl
  ·exact J3D u3
  ·exact J0y hL u9
  exact JHs hL hB N)).mono ?_
 rintro z ⟨zs,rfl,h⟩
 match zs,h with
 |[z0,z1,z2],⟨⟨n,h0⟩,⟨s,h1,hs⟩,⟨b,h2,hb⟩,_⟩=>
   subst h0 h1 h2;refine ⟨⟨n,s,b⟩,?_,hb⟩;rw[J0C];rfl
def JOh (hL:LB L B0)(hB:B0<2^21)(N:Nat):OpenB L (N+3) enc Tryz.prog w 228 fun z=>∃ a:Whn,z=(J0m a).cells∧a.name.size≤B0∧a.acts.length≤B0∧JCi a.cond∧∀ x∈a.acts,JCi x.value:=by
 obtain ⟨fs,hu,hf⟩:=J0j (J3x 228 _ rfl) rfl;have hk:=J1a (n:=6) (f:=J7m) (Φ:=fun a=>JCi a.value) hL (J2H (t:=226) (e:=260) rfl rfl) (by kernel_rfl) (by decide) (JOm (enc:=enc) (w:=w) hL hB N)
 refine (J0k hL hu [(0,9,1,pS B0),(1,29,4,pExp w),(5,226,1,_)] hf (by
  intro p hp;simp only[QO,QZ,or_false] at hp
  rcases hp with rfl|rfl|rfl<;>kernel_rfl) (by kernel_rfl) (by
  intro p hp;simp only[QO,QZ,or_false] at hp
  rcases hp with rfl|rfl|rfl
  ·exact J0y hL u9
  ·exact JHs hL hB _
  exact hk)).mono ?_
 rintro z ⟨zs,rfl,h⟩
 match zs,h with
 |[z0,z1,z2],⟨⟨s,h0,hs⟩,⟨a,h1,ha⟩,⟨l,h2,hl,hb⟩,_⟩=>
   subst h0 h1 h2;refine ⟨⟨s,a,l⟩,?_,hs,hl,ha,hb⟩;rw[J0C];rfl
def JOi (hL:LB L B0)(N:Nat):OpenB L (N+1) enc Tryz.prog w 89 fun z=>∃ v:Va,z=(encV v).cells∧v.name.size≤B0∧v.value.size≤B0∧v.start.size≤B0∧v.unit.size≤B0:=by
 obtain ⟨fs,hu,hf⟩:=J0j (J3x 89 _ rfl) rfl
 refine (J0k hL hu [(0,9,1,pS B0),(1,3,1,pI),(2,3,1,pI),(3,9,1,pS B0),(4,9,1,pS B0),(5,4,1,pB),(6,9,1,pS B0)] hf (by
  intro p hp;simp only[QO,QZ,or_false] at hp
  rcases hp with rfl|rfl|rfl|rfl|rfl|rfl|rfl<;>kernel_rfl) (by kernel_rfl) (by
  intro p hp;simp only[QO,QZ,or_false] at hp
  rcases hp with rfl|rfl|rfl|rfl|rfl|rfl|rfl
  ·exact J0y hL u9
  ·exact J3D u3
  ·exact J3D u3
  ·exact J0y hL u9
  ·exact J0y hL u9
  ·exact J5q u4
  exact J0y hL u9)).mono ?_
 rintro z ⟨zs,rfl,h⟩
 match zs,h with
 |[z0,z1,z2,z3,z4,z5,z6],⟨⟨a,h0,g0⟩,⟨b,h1⟩,⟨c,h2⟩,⟨d,h3,g3⟩,⟨e,h4,g4⟩,⟨f,h5⟩,⟨g,h6,g6⟩,_⟩=>
   subst h0 h1 h2 h3 h4 h5 h6;exact ⟨⟨a,b,c,d,e,f,g⟩,rfl,g0,g3,g4,g6⟩
def JOj (hL:LB L B0)(hB:B0≤2^20)(N:Nat):OpenB L (N+5) enc Tryz.prog w 26 fun z=>∃ s:Sys,z=(J0E s).cells∧SzS s:=by
 obtain ⟨fs,hu,hf⟩:=J0j (J3x 26 _ rfl) rfl;have hB':B0<2^21:=by omega
 have k1:=OpenB.low (J1a (n:=7) (f:=encV) hL (J2H (t:=22) (e:=89) rfl rfl) (by kernel_rfl) (by decide) (JOi (enc:=enc) (w:=w) hL (N+2))) (N:=N+4) (by omega);have k2:=OpenB.low (J1a (n:=9) (f:=J0M) hL (J2H (t:=23) (e:=58) rfl rfl) (by kernel_rfl) (by decide) (JOk (enc:=enc) (w:=w) hL hB' (N+2))) (N:=N+4) (by omega);have k3:=OpenB.low (J1a (n:=6) (f:=J0m) hL (J2H (t:=24) (e:=228) rfl rfl) (by kernel_rfl) (by decide) (JOh (enc:=enc) (w:=w) hL hB' N)) (N:=N+4) (by omega)
 refine (J0k hL hu [(0,22,1,_),(1,23,1,_),(2,23,1,_),(3,24,1,_)] hf (by
  intro p hp;simp only[QO,QZ,or_false] at hp
  rcases hp with rfl|rfl|rfl|rfl<;>kernel_rfl) (by kernel_rfl) (by
  intro p hp;simp only[QO,QZ,or_false] at hp
  rcases hp with rfl|rfl|rfl|rfl
  ·exact k1
  ·exact k2
  ·exact k2
  exact k3)).mono ?_
 rintro z ⟨zs,rfl,h⟩
 match zs,h with
 |[z0,z1,z2,z3],⟨⟨vs,h0,l0,g0⟩,⟨qs,h1,l1,g1⟩,⟨ns,h2,l2,g2⟩,⟨ws,h3,l3,g3⟩,_⟩=>
   subst h0 h1 h2 h3;refine ⟨⟨vs,qs,ns,ws⟩,rfl,⟨by simp only;omega,by simp only;omega,by simp only;omega,by simp only;omega,fun w hw=>?_,fun e he=>?_,fun v hv=>?_,⟨fun q hq=>?_,fun q hq=>?_,fun w hw=>?_⟩,by simp only;omega⟩⟩
   ·have:=(g3 w hw).2.1;omega
   ·unfold allF at he
    rcases Q0z.1 he with he|he
    ·rcases Q0z.1 he with he | he
     ·unfold J1R at he;obtain ⟨q,hq,he⟩:=Q0i.1 he;simp only[QO,QZ,or_false] at he
      rcases he with rfl|rfl
      ·exact (g1 q hq).2.1
      exact (g1 q hq).2.2
     unfold J1R at he;obtain ⟨q,hq,he⟩:=Q0i.1 he;simp only[QO,QZ,or_false] at he
     rcases he with rfl|rfl
     ·exact (g2 q hq).2.1
     exact (g2 q hq).2.2
    obtain ⟨x,hx,he⟩:=Q0i.1 he;unfold J32 at he
    rcases QO.1 he with rfl|he
    ·exact (g3 x hx).2.2.1
    obtain ⟨a,ha,rfl⟩:=Qs.1 he;exact (g3 x hx).2.2.2 a ha
   ·have:=g0 v hv;exact ⟨by omega,by omega,by omega,by omega⟩
   ·have:=(g1 q hq).1;omega
   ·have:=(g2 q hq).1;omega
   have:=(g3 w hw).1;omega
end
section
variable {H:Type} {enc:TypeId×Value→H} {w:World} {L:DataW H→Prop} {B0:Nat}
def JOl (hL:LB L B0)(N:Nat):OpenB L (N+2) enc Tryz.prog w 82 fun z=>∃ b:Bd,z=(J1b b).cells∧b.use.name.size≤B0∧b.value.size≤B0:=by
 obtain ⟨fs,hu,hf⟩:=J0j (J3x 82 _ rfl) rfl
 refine (J0k hL hu [(0,54,3,_),(3,9,1,pS B0)] hf (by
  intro p hp;simp only[QO,QZ,or_false] at hp
  rcases hp with rfl|rfl<;>kernel_rfl) (by kernel_rfl) (by
  intro p hp;simp only[QO,QZ,or_false] at hp
  rcases hp with rfl|rfl
  ·exact JPY hL N
  exact J0y hL u9)).mono ?_
 rintro z ⟨zs,rfl,h⟩
 match zs,h with
 |[z0,z1],⟨⟨u,h0,hs⟩,⟨v,h1,hv⟩,_⟩=>
   subst h0 h1;exact ⟨⟨u,v⟩,rfl,hs,hv⟩
def JNF (hL:LB L B0)(hB:B0≤2^20)(N:Nat):OpenB L (N+4) enc Tryz.prog w 33 fun z=>∃ e:EnvA,z=(J0L e).cells∧SzB e:=by
 obtain ⟨fs,hu,hf⟩:=J0j (J3x 33 _ rfl) rfl;have k:=J1a (n:=4) (f:=J1b) hL (J2H (t:=31) (e:=82) rfl rfl) (by kernel_rfl) (by decide) (JOl (enc:=enc) (w:=w) hL N)
 refine (J0k hL hu [(0,9,1,pS B0),(1,4,1,pB),(2,31,1,_)] hf (by
  intro p hp;simp only[QO,QZ,or_false] at hp
  rcases hp with rfl|rfl|rfl<;>kernel_rfl) (by kernel_rfl) (by
  intro p hp;simp only[QO,QZ,or_false] at hp
  rcases hp with rfl|rfl|rfl
  ·exact J0y hL u9
  ·exact J5q u4
  exact k)).mono ?_
 rintro z ⟨zs,rfl,h⟩
 match zs,h with
 |[z0,z1,z2],⟨⟨t,h0,ht⟩,⟨b,h1⟩,⟨l,h2,hl,hg⟩,_⟩=>
   subst h0 h1 h2
   exact ⟨⟨t,b,l⟩,rfl,by simp only;omega,by simp only;omega,fun x hx=>by
    have:=hg x hx
    constructor<;>omega⟩
end
open Go.ChangeShapes Go.WideShapes Go.ChangeAt Go.RowKit
def JKt:ownKnob Tryz.prog.godebug=none:=by kernel_rfl
def JAB:laidOutB Tryz.prog=true:=by kernel_rfl
section
variable {H:Type}
def JPj (d:DataW H):1≤Rows.uptoBulk d:=by
 cases d with
 |lit l=>cases l<;>simp[Rows.uptoBulk]
 |_=>simp[Rows.uptoBulk]
def J8A {d:DataW H}{l:List (DataW H)}(h:d∈l):Rows.uptoBulk d≤Rows.uptoBulkAll l:=by
 induction l with
 |nil=>cases h
 |cons x r ih=>
   simp only[Rows.uptoBulkAll]
   cases QO.1 h with
   |inl e=>subst e;omega
   |inr e=>have:=ih e;omega
def JLj (l:List (DataW H)):l.length≤Rows.uptoBulkAll l:=by
 induction l with
 |nil=>simp[Rows.uptoBulkAll]
 |cons x r ih=>have:=JPj x;simp only[Rows.uptoBulkAll,QT];omega
abbrev Blk (H:Type):DataW H→Prop:=fun d=>Rows.uptoBulk d≤1048576
def JMT:LB (Blk H) 1048576:=by
 refine ⟨fun e s h=>?_,fun p h d hd=>?_,fun s h=>?_⟩
 ·have h:Rows.uptoBulkAll e+Rows.uptoBulkAll s+1≤1048576:=by simpa [Blk,Rows.uptoBulk] using h
  refine ⟨by have:=JLj e;omega,fun d hd=>?_⟩;have:=J8A hd;show Rows.uptoBulk d≤1048576
  omega
 ·have h:Rows.uptoBulkAll p+1≤1048576:=by simpa [Blk,Rows.uptoBulk] using h
  have:=J8A hd;show Rows.uptoBulk d≤1048576
  omega
 have h:s.length+1≤1048576:=by simpa [Blk,Rows.uptoBulk] using h
 omega
def JHS {l:List (DataW H)}(h:Rows.uptoSmall H l=true):∀ d∈l,Blk H d:=fun d hd=>by
 have h:Rows.uptoBulkAll l≤1048576:=by simpa [Rows.uptoSmall] using h
 exact Qg (J8A hd) h
end
section
variable {H:Type} {enc:TypeId×Value→H} {w:World} {L:DataW H→Prop} {N t:Nat} {Ψ:List AV→Prop}
def JEQ (hO:OpenB L N enc Tryz.prog w t Ψ){fuel:Nat}(hf:fuel≤N){v:Value}{x:DataW H×List MemPlace}(hv:∃ cs,v=.agg cs)(h:DataW.trod enc Tryz.prog w 0 (fun _=>true) true fuel t v.cells.toList=some x)(hl:L x.1):∃ z,Ψ z∧VR KM.empty w NoN (.agg z) v:=by
 obtain ⟨z,h1,h2⟩:=hO fuel hf _ x h hl;obtain ⟨cs,rfl⟩:=hv;have e:(Value.agg cs).cells.toList=cs.toList:=by simp[Value.cells]
 rw[e] at h1;refine ⟨z,h2,.agg _ cs (h1.len.trans (by simp)) (fun i h h'=>?_) (fun i h=>h1.pl _ (by simp))⟩;have:=h1.rel i h (by simpa using h');rw[Qy] at this;exact this
end
def flatD:Nat→DataW Unit→List Value
 |_,.lit (.int k n)=>[.int k n]
 |n+1,.agg ps=>ps.flatMap (flatD n)
 |_,_=>[]
def putT (d:DataW Unit):Obj→Obj
 |.cells _ t z=>.cells (flatD 3 d).toArray t z
 |o=>o
noncomputable def laidW (os:Os):World:=
 { World.holding Tryz.prog os ⟨#[],#[],[]⟩ with heap:=((World.holding Tryz.prog os ⟨#[],#[],[]⟩).heap.modify 1 (putT Rows.laid_unicode_utf8_first)).modify 2 (putT Rows.laid_unicode_utf8_acceptRanges) }
abbrev laidL:List (String×DataW Unit):=[("unicode/utf8.acceptRanges",Rows.laid_unicode_utf8_acceptRanges),("unicode/utf8.first",Rows.laid_unicode_utf8_first)]
def JL4 (os:Os)(args:Array Value):laidMet Tryz.prog laidL ((laidW os).forCall (fun _ _=>0) ⟨#[],args,[]⟩).memory:=
 laidMet_of_run' 8 (by kernel_rfl) (by kernel_rfl)
def JFv:mapsRowed Tryz.prog=true:=by kernel_rfl
def JD4:Tryz.prog.stopsHeard=true:=by kernel_rfl
def JI0:Tryz.prog.mayEnter=true:=by kernel_rfl
def JDH:(Rows.systemHoldsUptoRow.lifted==Tryz.prog.liftsFinal)=true:=by kernel_rfl
def JNO:(Tryz.prog.make==some Rows.systemHoldsUptoRow.make)=true:=by kernel_rfl
def JOp:false=Tryz.pinned.checked.prog.looks []:=by kernel_rfl
def JNP:Tryz.pinned.checked.prog.mainIs=some (Rows.systemHoldsUptoCard.stood.harness.1,Rows.systemHoldsUptoCard.stood.harness.2.toList):=by kernel_rfl
def JFp {n:String}{k:FuncId}{g:Func}{ts:Array TypeId}(h1:Tryz.prog.funcNamed n=some k)(h2:Tryz.prog.funcs[k]?=some g)(h3:g.params=ts)(h4:ts.all (fun t=>!Tryz.prog.wantsStandIn t)=true)
  (f:FuncId)(fn:Func)(hf:Tryz.pinned.checked.prog.funcNamed n=some f)(hfn:Tryz.pinned.checked.prog.funcs[f]?=some fn) :
  false=Tryz.pinned.checked.prog.looks []∧∀ (j:Nat) t,fn.params[j]?=some t→Tryz.pinned.checked.prog.wantsStandIn t=false:=by
 obtain rfl:f=k:=Q0g (hf.symm.trans h1);obtain rfl:fn=g:=Q0g (hfn.symm.trans h2);refine ⟨JOp,fun j t ht=>?_⟩;rw[h3] at ht;have:=Array.all_eq_true'.1 h4 t (Array.mem_of_getElem? ht);have h5:Tryz.pinned.checked.prog.wantsStandIn t=Tryz.prog.wantsStandIn t:=rfl;rw[h5]
 simpa using this
end Go.Proofs.YtlblbldolhiokaaGreatDoor
