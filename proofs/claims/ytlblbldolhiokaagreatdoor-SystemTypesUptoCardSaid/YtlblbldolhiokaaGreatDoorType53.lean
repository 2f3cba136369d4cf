/- Part 53 of the proof. -/
import Derived.Test.YtlblbldolhiokaaGreatDoorType52
import Derived.KernelRfl
import Derived.Test.YtlblbldolhiokaaGreatDoorType46
import Derived.Test.YtlblbldolhiokaaGreatDoorType51
import Derived.Test.YtlblbldolhiokaaGreatDoorType48
import Derived.Test.YtlblbldolhiokaaGreatDoorRows
import Derived.Test.YtlblbldolhiokaaGreatDoorCards
import Derived.Test.YtlblbldolhiokaaGreatDoorTie
import Derived.ProofKit
import Derived.OpenShut
import Derived.Deep.DeepHandedRow
set_option linter.unusedVariables false
set_option linter.unusedSimpArgs false
set_option linter.unusedSectionVars false
set_option maxRecDepth 100000
set_option exponentiation.threshold 400
set_option maxHeartbeats 8000000
namespace Go.Proofs.YtlblbldolhiokaaGreatDoor
open Go Go.Fw
def opE (o:ByteArray)(l:List Ex):Ex:=.mk o ⟨#[]⟩ 0 l
def numE (t:ByteArray):Ex:=.mk oNum t 0 []
def refE (t:ByteArray)(n:Int):Ex:=.mk oVar t n []
def exS:Sys:=⟨[⟨⟨#[107]⟩,2,0,⟨#[50]⟩,⟨#[]⟩,false,⟨#[]⟩⟩,⟨⟨#[120]⟩,0,0,⟨#[]⟩,⟨#[49]⟩,true,⟨#[]⟩⟩],[⟨⟨#[101]⟩,refE ⟨#[120]⟩ 1,opE ⟨#[110,101,103]⟩ [opE ⟨#[109,117,108]⟩ [refE ⟨#[107]⟩ 0,refE ⟨#[120]⟩ 0]]⟩],[],[]⟩
def exT:List UInt8:=[118,97,114,32,107,32,112,97,114,97,109,32,110,117,109,98,101,114,32,118,97,108,117,101,61,50,10,118,97,114,32,120,32,99,111,110,116,105,110,117,111,117,115,32,110,117,109,98,101,114,32,115,116,97,114,116,61,49,32,102,105,120,101,100,10,101,113,32,101,32,64,120,58,39,32,110,101,103,40,109,117,108,40,64,107,59,64,120,41,41,10]
def J43:EnvA:=⟨⟨#[51,47,50]⟩,false,[⟨⟨⟨#[120]⟩,0,false⟩,⟨#[48]⟩⟩]⟩
def ex1:Ex:=opE ⟨#[100,105,118]⟩ [numE ⟨#[49]⟩,refE ⟨#[120]⟩ 0]
def ex2:Ex:=opE ⟨#[105,102]⟩ [opE ⟨#[108,101,115,115]⟩ [refE ⟨#[120]⟩ 0,numE ⟨#[49]⟩],numE ⟨#[48]⟩,opE ⟨#[100,105,118]⟩ [numE ⟨#[49]⟩,refE ⟨#[120]⟩ 0]]
def ex3:Ex:=opE ⟨#[115,97,109,112,108,101]⟩ [numE ⟨#[48]⟩,numE ⟨#[49,47,50]⟩]
theorem JMK:JEt exS ex1 J43=(⟨#[]⟩,12):=by kernel_rfl
theorem JMJ:JEt exS ex2 J43=(⟨#[48]⟩,0):=by kernel_rfl
theorem JMI:JEt exS ex3 J43=(⟨#[116,114,117,101]⟩,0):=by kernel_rfl
def GdE (e:Ex):Prop:=SzE e∧TxE e
theorem J2k {o t:ByteArray}{n:Int}{l:List Ex}(h1:o.size≤100)(h2:t.size≤100)(h3:l.length≤100)(h:∀ e∈l,GdE e):GdE (.mk o t n l):=
 ⟨SzE.mk (by omega) (by omega) (by omega) fun k hk=>(h k hk).1,TxE.mk (by omega) fun k hk=>(h k hk).2⟩
theorem gd1:GdE ex1:=by
 refine J2k (by decide) (by decide) (by decide) ?_;simp only[List.forall_mem_cons,List.not_mem_nil,false_imp_iff,implies_true,and_true];exact ⟨J2k (by decide) (by decide) (by decide) (by simp),J2k (by decide) (by decide) (by decide) (by simp)⟩
theorem gd2:GdE ex2:=by
 refine J2k (by decide) (by decide) (by decide) ?_;simp only[List.forall_mem_cons,List.not_mem_nil,false_imp_iff,implies_true,and_true]
 refine ⟨J2k (by decide) (by decide) (by decide) ?_,J2k (by decide) (by decide) (by decide) (by simp),J2k (by decide) (by decide) (by decide) ?_⟩ <;>
  simp only[List.forall_mem_cons,List.not_mem_nil,false_imp_iff,implies_true,and_true] <;>
  exact ⟨J2k (by decide) (by decide) (by decide) (by simp),J2k (by decide) (by decide) (by decide) (by simp)⟩
theorem gd3:GdE ex3:=by
 refine J2k (by decide) (by decide) (by decide) ?_;simp only[List.forall_mem_cons,List.not_mem_nil,false_imp_iff,implies_true,and_true];exact ⟨J2k (by decide) (by decide) (by decide) (by simp),J2k (by decide) (by decide) (by decide) (by simp)⟩
theorem JCp:SzS exS:=by
 refine ⟨by decide,by decide,by decide,by decide,by simp[exS],?_,?_,?_,by decide⟩
 ·intro e he;simp only[exS,allF,J1O,List.flatMap_cons,List.flatMap_nil,List.append_nil,List.mem_cons,List.not_mem_nil,or_false] at he
  rcases he with rfl|rfl
  ·exact J2k (by decide) (by decide) (by decide) (by simp)
  ·refine J2k (by decide) (by decide) (by decide) ?_;simp only[List.forall_mem_cons,List.not_mem_nil,false_imp_iff,implies_true,and_true];refine J2k (by decide) (by decide) (by decide) ?_;simp only[List.forall_mem_cons,List.not_mem_nil,false_imp_iff,implies_true,and_true];exact ⟨J2k (by decide) (by decide) (by decide) (by simp),J2k (by decide) (by decide) (by decide) (by simp)⟩
 ·intro v hv;simp only[exS,List.mem_cons,List.not_mem_nil,or_false] at hv
  rcases hv with rfl|rfl<;>decide
 ·refine ⟨?_,by simp[exS],by simp[exS]⟩;intro q hq;simp only[exS,List.mem_cons,List.not_mem_nil,or_false] at hq;subst hq;decide
theorem JHJ:JA9 exS=(⟨exT.toArray⟩,0):=by kernel_rfl
theorem JG3:SzB J43:=by
 refine ⟨by decide,by decide,fun b hb=>?_⟩;simp only[J43,List.mem_cons,List.not_mem_nil,or_false] at hb;subst hb;decide
theorem JNv:PX 103 [J0M exS] (.tup [encS ⟨exT.toArray⟩,encI 0]):=by
 have:=JMo exS JCp;rw[JHJ] at this;exact this
theorem JNc:PX 38 [J0M exS,encE ex1,J1o J43] (.tup [encS ⟨#[]⟩,encI 12]):=by
 have:=J9n exS ex1 J43 JCp gd1.1 gd1.2 JG3;rw[JMK] at this;exact this
theorem JNb:PX 38 [J0M exS,encE ex2,J1o J43] (.tup [encS ⟨#[48]⟩,encI 0]):=by
 have:=J9n exS ex2 J43 JCp gd2.1 gd2.2 JG3;rw[JMJ] at this;exact this
theorem JNa:PX 38 [J0M exS,encE ex3,J1o J43] (.tup [encS ⟨#[116,114,117,101]⟩,encI 0]):=by
 have:=J9n exS ex3 J43 JCp gd3.1 gd3.2 JG3;rw[JMI] at this;exact this
def tab2:Tab:=[(103,[J0M exS],.tup [encS ⟨exT.toArray⟩,encI 0]),(38,[J0M exS,encE ex1,J1o J43],.tup [encS ⟨#[]⟩,encI 12]),
 (38,[J0M exS,encE ex2,J1o J43],.tup [encS ⟨#[48]⟩,encI 0]),(38,[J0M exS,encE ex3,J1o J43],.tup [encS ⟨#[116,114,117,101]⟩,encI 0])]
theorem JLe:TabOk XR.E.P tab2:=by
 refine ⟨?_⟩;unfold tab2;simp only[List.forall_mem_cons,List.not_mem_nil,false_imp_iff,implies_true,and_true];exact ⟨⟨c103,JNv,rfl⟩,⟨c38,JNc,rfl⟩,⟨c38,JNb,rfl⟩,⟨c38,JNa,rfl⟩⟩
theorem JF9:PX 40 [] (encB true):=JEN J9f JLe (fuel:=100) (n:=10) (by kernel_rfl)
theorem JGd (u:U)(e:Ex):builtF e=true→OccE e u→0≤u.order∧u.order≤6:=by
 have kids:∀ ks:List Ex,(∀ k∈ks,OccE k u→0≤u.order∧u.order≤6)→OccL ks u→0≤u.order∧u.order≤6:=by
  intro ks
  induction ks with
  |nil=>intro _ h;unfold OccL at h;exact h.elim
  |cons k r ih=>
    intro hk h;unfold OccL at h
    rcases h with h|h
    ·exact hk k (by simp) h
    ·exact ih (fun x hx=>hk x (by simp[hx])) h
 induction e using J1R with
 |h e ih=>
   intro hb h;have hk:=(J0A hb).2
   cases e with
   |mk o t n ks=>
     unfold OccE at h
     rcases h with ⟨ho,rfl⟩|h
     ·rw[J0t] at hb;simp only[Bool.and_eq_true] at hb;have hx:=hb.1.1.2;unfold textF at hx
      rcases ho with ho|ho
      ·rw[if_neg (show ¬ (Ex.mk o t n ks).op=oNum by show ¬ o=oNum;rw[ho];decide),if_pos (show (Ex.mk o t n ks).op=oVar from ho)] at hx;simp only[Bool.and_eq_true] at hx;exact ⟨of_decide_eq_true hx.1.2,of_decide_eq_true hx.2⟩
      ·rw[if_neg (show ¬ (Ex.mk o t n ks).op=oNum by show ¬ o=oNum;rw[ho];decide),if_neg (show ¬ (Ex.mk o t n ks).op=oVar by show ¬ o=oVar;rw[ho];decide),if_pos (show (Ex.mk o t n ks).op=oPre from ho)] at hx;simp only[Bool.and_eq_true] at hx;have:n=0:=of_decide_eq_true hx.2;subst this;exact ⟨Int.le_refl _,(by decide:(0:Int)≤6)⟩
     ·exact kids ks (fun k hk'=>ih k hk' (hk k hk')) h
theorem JJQ (A:List U)(u:U):(putU A u).length≤A.length+1:=by
 unfold putU;split
 ·omega
 ·simp
mutual
theorem J9z:∀ (e:Ex) (A:List U),(J3Q e A).length≤A.length+wtF e
 |.mk o t n ks,A=>by
   unfold J3Q wtF;have h:=J9y ks (if o=oVar∨o=oPre then putU A ⟨t,n,decide (o=oPre)⟩ else A);split at h
   ·rename_i hc;rw[if_pos hc];have:=JJQ A ⟨t,n,decide (o=oPre)⟩;omega
   ·rename_i hc;rw[if_neg hc];omega
theorem J9y:∀ (ks:List Ex) (A:List U),(J3h ks A).length≤A.length+wtL ks
 |[],A=>by unfold J3h wtL;omega
 |k::ks,A=>by
   unfold J3h wtL;have h1:=J9z k A;have h2:=J9y ks (J3Q k A);omega
end
theorem JBv (e:Ex)(hb:builtF e=true)(hw:wtF e≤1000):PX 122 [setU (J3Q e [])] (J47 (usesR e [])):=by
 refine JII _ _ (J6G e [] List.nodup_nil) (fun u hu=>?_) (by have:=J9z e [];simp at this;omega) (JA4 e [] List.Pairwise.nil) fun u=>?_
 ·rw[J6K] at hu
  rcases hu with h|h
  ·cases h
  ·exact JGd u e hb h
 ·rw[JAO,J6K]
theorem JNx {b g e:Nat}{H:Hp}{A:List U}(hb:H b=some (g,⟨e,0,[setU A]⟩)):snap [b] H (.om b g)=setU A:=ownM hb
def bltF (e:Ex):Int:=if tooF e then 2 else if builtF e then 0 else 1
theorem JBG (e:Ex)(g:GdE e):PX 120 [encE e] (encI (bltF e)):=by
 refine PZ Tryz.func120 rfl ?_;have h1:=J3d e g.1;have h2:=J9s e g.1 g.2;generalize hF:bltF e=F;unfold bltF at hF;generalize tooF e=a at *;generalize builtF e=b at *;rw[J02] at *;refine kWQ ?_;intros;refine CallP.flat [] _ c83 h1 rfl ?_
 cases a with
 |true=>
   refine kWQ ?_;intros;exact .of (by rw[← hF];rfl)
 |false=>
   refine kWQ ?_;intros;refine CallP.flat [] _ c123 h2 rfl ?_
   cases b with
   |true=>
     refine kWQ ?_;intros;exact .of (by rw[← hF];rfl)
   |false=>
     refine kWQ ?_;intros;exact .of (by rw[← hF];rfl)
theorem J5t (e:Ex):useOf e=if bltF e=0 then (usesR e [],0) else ([],bltF e):=by
 unfold useOf bltF;rw[← J22];cases tooF e<;>cases builtF e<;>rfl
theorem JPG (e:Ex)(g:GdE e):PX 46 [encE e] (JHN (useOf e)):=by
 refine PC [11] Tryz.func46 rfl (by rfl) rfl ?_;have h1:=JBG e g;have u1:=JMm e g.1
 have hS:bltF e=0→PX 122 [setU (J3Q e [])] (J47 (usesR e [])):=fun h=>by
  unfold bltF at h
  cases ht:tooF e with
  |true=>rw[ht,if_pos rfl] at h;cases h
  |false=>
    rw[ht,if_neg (by decide)] at h
    cases hb:builtF e with
    |false=>rw[hb,if_neg (by decide)] at h;cases h
    |true=>exact JBv e hb (by have:=J8n ht;omega)
 rw[J5t];generalize bltF e=bl at *;obtain ⟨A,hA⟩:∃ A,J3Q e []=A:=⟨_,rfl⟩;rw[hA] at hS;generalize usesR e []=S at *;rw[J02] at *;refine kWQ ?_;intros;refine CallP.flat [] _ c120 h1 rfl ?_
 by_cases h0:bl=0
 case' neg=>
  rw[if_neg h0];refine kWQ ?_;intros;exact J12 (Le.nil 3) (Le.refl _)
 rw[if_pos h0];have hS:=hS h0;refine kWQ ?_;intros;refine CallP.frame 1000000 [(50,11)] rfl c121 (u1 [] _) rfl ⟨rfl,trivial⟩ ?_;rintro r0 h' ⟨rfl,rfl⟩;rw[hA];refine ⟨[(11,_,⟨169,0,[setU A]⟩),(1,_,⟨29,4,[.agg [encS e.op,encS e.text,encI e.order,.sl 4 (e.kids.map encE)]]⟩)],⟨rfl,rfl,trivial⟩,?_⟩;refine kWQ ?_;intros;refine J00 [11] _ c122 (J0D (congrArg (fun z=>[z]) (JNx (e:=169) rfl)) hS) ?_;refine kWQ ?_;intros;exact .of rfl
theorem JGu (x p:ByteArray):joinB [x] p=x:=by
 unfold joinB;rw[List.map_cons,List.map_nil,Lib.join_cons];apply ByteArray.ext;simp[Lib.joinTail]
theorem JJl (p x:ByteArray)(r:List ByteArray)(y:ByteArray):joinB (x::r++[y]) p=joinB (x::r) p++p++y:=by
 apply ByteArray.ext;unfold joinB;rw[ByteArray.data_append,ByteArray.data_append];apply Array.toList_inj.1;simp[Lib.join_cons,Lib.joinTail,List.map_append]
theorem JEn (p:ByteArray){l:List ByteArray}(h:l≠[])(y:ByteArray):joinB (l++[y]) p=joinB l p++p++y:=by
 cases l with
 |nil=>exact absurd rfl h
 |cons x r=>exact JJl p x r y
theorem JGQ (s:ByteArray)(n:Nat):repB s (n+1)=repB s n++s:=by
 apply ByteArray.ext;unfold repB;rw[ByteArray.data_append,Lib.repeatL_add,Lib.repeatL_one];apply Array.toList_inj.1;simp
theorem JDo (x:ByteArray):x++⟨#[]⟩=x:=by
 apply ByteArray.ext;rw[ByteArray.data_append];simp
theorem JEL {e:Ex}(hb:builtF e=true)(h:J0S e.op=0)(h1:e.op≠oNum)(h2:e.op≠oVar)(h3:e.op≠oPre):showF e=e.op:=by
 have hl:=(J0A hb).1;have hn:e.kids=[]:=List.eq_nil_of_length_eq_zero (by omega);rw[J3p,hn];unfold JBy;rw[if_neg h1,if_neg h2,if_neg h3];rfl
theorem JEK {e:Ex}(hb:builtF e=true)(h1:e.op≠oNum)(h2:e.op≠oVar)(h3:e.op≠oPre)(h4:e.op≠oTrue)(h5:e.op≠oFalse)(h6:e.op≠oTime)(h7:e.op≠oInit) :
  showF e=e.op++b1 40++joinB (e.kids.map showF) (b1 59)++b1 41:=by
 have hl:=(J0A hb).1
 have hk : e.kids≠[]:=by
  intro hn;rw[hn] at hl;unfold J0S at hl;rw[if_neg (by rintro (h|h);exact h2 h;exact h3 h)] at hl;split at hl
  ·simp at hl
  ·split at hl
   ·simp at hl
   ·split at hl
    ·simp at hl
    ·rename_i x hx
     rcases JBx hx with h|⟨_,rfl⟩|⟨h,_⟩|⟨h|h|h,_⟩|⟨_,rfl⟩|⟨_,rfl⟩|⟨_,rfl⟩|⟨_,rfl⟩|⟨_,rfl⟩
     ·exact h1 h
     ·simp at hl
     ·exact h6 h
     ·exact h4 h
     ·exact h5 h
     ·exact h7 h
     ·simp at hl
     ·simp at hl
     ·simp at hl
     ·simp at hl
     ·simp at hl
 rw[J3p];unfold JBy;rw[if_neg h1,if_neg h2,if_neg h3]
 cases he:e.kids.map showF with
 |nil=>exact absurd (List.map_eq_nil_iff.1 he) hk
 |cons x r=>rfl
theorem JCr (l:List ByteArray)(i:Nat):szB (l.take i)≤szB l:=by
 have:=J8p (l.take i) (l.drop i);rw[List.take_append_drop] at this;omega
def ordB (t:ByteArray)(i:Nat):ByteArray:=if i=0 then b1 64++t else b1 64++t++b1 58++repB (b1 39) i
theorem JGb (t:ByteArray)(i:Nat):(ordB t i).size≤t.size+i+2:=by
 have a:(b1 64).size=1:=rfl;have b:(b1 58).size=1:=rfl;have c:(b1 39).size=1:=rfl;unfold ordB;split
 ·rw[J03,a];omega
 ·rw[J03,J03,J03,J68,a,b,c];omega
theorem JJW (t:ByteArray):ordB t 1=ordB t 0++b1 58++b1 39:=by
 unfold ordB;rw[if_pos rfl,if_neg (by decide)];have:repB (b1 39) 1=b1 39:=by kernel_rfl
 rw[this]
theorem JGa (t:ByteArray){i:Nat}(h:0<i):ordB t (i+1)=ordB t i++b1 39:=by
 unfold ordB;rw[if_neg (by omega),if_neg (by omega),JGQ];simp only[ByteArray.append_assoc]
theorem JJJ (e:Ex):SzE e→TxE e→builtF e=true→wtF e≤1000→PX 129 [encE e] (encS (showF e)):=by
 induction e using J1R with
 |h e ih=>
   intro hz hx hb hw;have ihk:=fun k hk=>ih k hk (hz.kid k hk) (hx.kid k hk) ((J0A hb).2 k hk) (by have:=JFg hk;omega);have hwt:wtL e.kids≤1000:=by have:=J54 e;omega
   have hlen:e.kids.length≤1000:=Nat.le_trans (J5n _) hwt;have hsum:szB (e.kids.map showF)+e.kids.length≤(2^21+20)*1000:=Nat.le_trans (JG2 fun k hk=>J4l k ((J0A hb).2 k hk) (hx.kid k hk)) (Nat.mul_le_mul_left _ hwt);have hord:=J8z hb;have htx:=hx.tx;have hos:=JC6 hb;have hlf:=fun h=>JEL hb h;have hnd:=JEK hb;have hG:=J3p e;clear ih;refine PZ Tryz.func129 rfl ?_;generalize showF e=F at *;rw[J02];clear hz hx hb hw hwt;obtain ⟨o,t,od,es⟩:=e;simp only[Ex.op,Ex.text,Ex.order,Ex.kids] at *;unfold JBy at hG
   by_cases h1:o=oNum
   ·rw[if_pos h1] at hG;clear hlf hnd;refine kWS ?_;intros;exact .of (by rw[hG];rfl)
   rw[if_neg h1] at hG
   by_cases h2:o=oTrue
   ·have hG:=hlf (by rw[h2];kernel_rfl) h1 (by rw[h2];decide) (by rw[h2];decide);clear hlf hnd;refine kWS ?_;intros;exact .of (by rw[hG];rfl)
   by_cases h3:o=oFalse
   ·have hG:=hlf (by rw[h3];kernel_rfl) h1 (by rw[h3];decide) (by rw[h3];decide);clear hlf hnd;refine kWS ?_;intros;exact .of (by rw[hG];rfl)
   by_cases h4:o=oTime
   ·have hG:=hlf (by rw[h4];kernel_rfl) h1 (by rw[h4];decide) (by rw[h4];decide);clear hlf hnd;refine kWS ?_;intros;exact .of (by rw[hG];rfl)
   by_cases h5:o=oInit
   ·have hG:=hlf (by rw[h5];kernel_rfl) h1 (by rw[h5];decide) (by rw[h5];decide);clear hlf hnd;refine kWS ?_;intros;exact .of (by rw[hG];rfl)
   by_cases h6:o=oPre
   ·rw[if_neg (by rw[h6];decide),if_pos h6] at hG;have z2:({ data:=#[112,114,101,64] }:ByteArray).size=4:=rfl;clear hlf hnd;refine kWS ?_;intros;exact .of (by rw[hG];rfl)
   by_cases h7:o=oVar
   ·rw[if_pos h7] at hG;obtain ⟨ho1,ho2⟩:=hord h7
    have hG:F=ordB t od.toNat:=by
     rw[hG];unfold ordB
     by_cases h8:od=0
     ·rw[if_pos h8,if_pos (by omega)]
     ·rw[if_neg h8,if_neg (by omega)]
    have z1:({ data:=#[64] }:ByteArray).size=1:=rfl;have y1:=J03 { data:=#[64] } t;clear hlf hnd hord ihk hsum;refine kWS ?_;intros
    refine LoopP.intro (fun k σ H=>∃ g1 i,∃ s:ByteArray,k=od.toNat-i∧i≤od.toNat∧s=ordB t i ∧
     σ=fr [(1,.op 1 g1 0 0),(3,encS s),(4,encI i)]∧H=hp [(1,g1,⟨29,4,[.agg [encS o,encS t,encI od,.sl 4 (es.map encE)]]⟩)]) ?_ ?_
    ·exact .intro (W.of ⟨_,_,0,_,rfl,Nat.zero_le _,rfl,rfl,rfl⟩ ⟨rfl,rfl,rfl,trivial⟩ ⟨rfl,trivial⟩)
    rintro k σ H ⟨g1,i,s,rfl,hi,hs,rfl,rfl⟩;have hsz:=JGb t i;rw[← hs] at hsz;have z3:({ data:=#[58] }:ByteArray).size=1:=rfl;have y3:=J03 s { data:=#[58] };have y4:=J03 (s++{ data:=#[58] }) { data:=#[39] };have y5:=J03 s { data:=#[39] };have z5:({ data:=#[39] }:ByteArray).size=1:=rfl
    rcases Nat.lt_or_ge i od.toNat with h9|h9
    ·rcases Nat.eq_zero_or_pos i with h10 | h10
     ·subst h10;refine kWQ ?_;intros
      exact .intro <| W.of ⟨_,by omega,g1,0+1,s++b1 58++b1 39,rfl,h9,by rw[JJW,hs],rfl,rfl⟩ ⟨rfl,rfl,rfl,trivial⟩ ⟨rfl,trivial⟩
     ·refine kWQ ?_;intros
      exact .intro <| W.of ⟨_,by omega,g1,i+1,s++b1 39,rfl,h9,by rw[JGa t h10,hs],rfl,rfl⟩ ⟨rfl,rfl,rfl,trivial⟩ ⟨rfl,trivial⟩
    ·obtain rfl:i=od.toNat:=by omega
     refine kWQ ?_;intros;exact .of (by rw[hG,← hs];rfl)
   replace hG:=hnd h1 h7 h6 h2 h3 h4 h5;clear hlf hnd hord;have z4:({ data:=#[40] }:ByteArray).size=1:=rfl;have z5:({ data:=#[41] }:ByteArray).size=1:=rfl;have z6:({ data:=#[59] }:ByteArray).size=1:=rfl;have y0:=J03 o { data:=#[40] };have hml:=@List.length_map _ _ es encE;refine kWQ ?_;intros
   refine LoopP.intro (fun j σ H=>∃ g1 i,∃ s:ByteArray,j=es.length-i∧i≤es.length∧s=o++b1 40++joinB ((es.map showF).take i) (b1 59) ∧
    σ=fr [(1,.op 1 g1 0 0),(5,encS s),(6,encI i)] ∧
    H=hp [(1,g1,⟨29,4,[.agg [encS o,encS t,encI od,.sl 4 (es.map encE)]]⟩)]) ?_ ?_
   ·exact .intro (W.of ⟨_,_,0,_,rfl,Nat.zero_le _,by rw[List.take_zero];exact (JDo _).symm,rfl,rfl⟩ ⟨rfl,rfl,rfl,trivial⟩ ⟨rfl,trivial⟩)
   rintro j σ H ⟨g1,i,s,rfl,hi,hs,rfl,rfl⟩
   have hsz:s.size≤2^33:=by
    have a:=J23 ((es.map showF).take i) (b1 59);have b:=JCr (es.map showF) i;have c:(b1 59).size=1:=rfl;have d:(b1 40).size=1:=rfl;rw[List.length_take,List.length_map,c] at a;rw[hs,J03,J03,d];omega
   have y1:=J03 s { data:=#[59] };have y2:=J03 s { data:=#[41] }
   rcases Nat.lt_or_ge i es.length with h9|h9
   ·have hk:=ihk _ (List.getElem_mem h9);have hm:i<(es.map showF).length:=by rw[List.length_map];exact h9
    have htk:(es.map showF).take (i+1)=(es.map showF).take i++[showF es[i]]:=by rw[List.take_succ_eq_append_getElem hm,List.getElem_map]
    have hkz:(showF es[i]).size≤2^32:=by
     have b:szB [showF es[i]]≤szB (es.map showF):=by
      have b:=JCr (es.map showF) (i+1);rw[htk,J8p] at b;omega
     have c:szB [showF es[i]]=(showF es[i]).size+0:=rfl;omega
    obtain ⟨k,hkk⟩:∃ k,es[i]=k:=⟨_,rfl⟩;rw[hkk] at hk htk hkz;rw[J02] at hk;have y3:=J03 s (showF k);have y4:=J03 (s++{ data:=#[59] }) (showF k)
    rcases Nat.eq_zero_or_pos i with h10|h10
    ·subst h10;refine kWQ ?_;intros;simp only[hkk,J02];refine kQ ?_;intros;refine CallP.flat [] _ c129 hk rfl ?_;refine kWQ ?_;intros
     refine .intro <| W.of ⟨_,by omega,g1,0+1,s++showF k,rfl,h9,?_,rfl,rfl⟩ ⟨rfl,rfl,rfl,trivial⟩ ⟨rfl,trivial⟩
     rw[htk,hs,List.take_zero,List.nil_append,JGu];have e0:joinB [] (b1 59)=⟨#[]⟩:=by kernel_rfl
     rw[e0,JDo]
    ·have hne:(es.map showF).take i≠[]:=by
      intro h;have:=congrArg List.length h;rw[List.length_take,List.length_map,List.length_nil] at this;omega
     refine kWQ ?_;intros;simp only[hkk,J02];refine kQ ?_;intros;refine CallP.flat [] _ c129 hk rfl ?_;refine kWQ ?_;intros
     refine .intro <| W.of ⟨_,by omega,g1,i+1,s++b1 59++showF k,rfl,h9,?_,rfl,rfl⟩ ⟨rfl,rfl,rfl,trivial⟩ ⟨rfl,trivial⟩
     rw[htk,hs,JEn _ hne];simp only[ByteArray.append_assoc]
   ·obtain rfl:i=es.length:=by omega
    have hfull:(es.map showF).take es.length=es.map showF:=by rw[show es.length=(es.map showF).length by rw[List.length_map],List.take_length]
    rw[hfull] at hs;refine kWQ ?_;intros;exact .of (by rw[hG,← hs];rfl)
def showS (e:Ex):ByteArray×Int:=if bltF e≠0 then (⟨#[]⟩,bltF e) else if 8000<(showF e).size then (⟨#[]⟩,2) else (showF e,0)
theorem J2u {e:Ex}(h:bltF e=0):tooF e=false∧builtF e=true∧wtF e≤1000:=by
 unfold bltF at h
 cases ht:tooF e with
 |true=>rw[ht,if_pos rfl] at h;cases h
 |false=>
   rw[ht,if_neg (by decide)] at h
   cases hb:builtF e with
   |false=>rw[hb,if_neg (by decide)] at h;cases h
   |true=>exact ⟨rfl,rfl,by have:=J8n ht;omega⟩
theorem JKc (e:Ex)(g:GdE e):PX 51 [encE e] (JK6 (showS e)):=by
 refine PZ Tryz.func51 rfl ?_;have h1:=JBG e g;have h2:=fun h=>J5y e g.1 g.2 (J2u h).2.1 (J2u h).2.2;generalize hF:showS e=F;unfold showS at hF;generalize bltF e=bl at *;generalize showF e=t at *;rw[J02] at *;refine kWQ ?_;intros;refine CallP.flat [] _ c120 h1 rfl ?_
 by_cases h0:bl=0
 case' neg=>
  rw[if_pos h0] at hF;refine kWQ ?_;intros;exact .of (by rw[← hF];rfl)
 rw[if_neg (fun h=>h h0)] at hF;refine kWQ ?_;intros;refine CallP.flat [] _ c128 (h2 h0) rfl ?_
 by_cases h3:8000<t.size
 ·rw[if_pos h3] at hF;refine kWQ ?_;intros;exact .of (by rw[← hF];rfl)
 ·rw[if_neg h3] at hF;refine kWQ ?_;intros;exact .of (by rw[← hF];rfl)
theorem JIJ (e:Ex)(g:GdE e):PX 52 [encE e] (JK6 (showS e)):=by
 refine PZ Tryz.func52 rfl ?_;have h1:=JCl e g.1 g.2;rw[J5t] at h1;have h2:=fun h=>JJJ e g.1 g.2 (J2u h).2.1 (J2u h).2.2;generalize hF:showS e=F;unfold showS at hF;generalize bltF e=bl at *;generalize showF e=t at *;rw[J02] at *
 by_cases h0:bl=0
 case' neg=>
  rw[if_pos h0] at hF;rw[if_neg h0] at h1;unfold JHN at h1;refine kWQ ?_;intros;refine J00 [] _ c50 h1 ?_;refine kWQ ?_;intros;exact .of (by rw[← hF];rfl)
 rw[if_neg (fun h=>h h0)] at hF;rw[if_pos h0] at h1;unfold JHN at h1;refine kWQ ?_;intros;refine J00 [] _ c50 h1 ?_;refine kWQ ?_;intros;refine CallP.flat [] _ c129 (h2 h0) rfl ?_
 by_cases h3:8000<t.size
 ·rw[if_pos h3] at hF;refine kWQ ?_;intros;exact .of (by rw[← hF];rfl)
 ·rw[if_neg h3] at hF;refine kWQ ?_;intros;exact .of (by rw[← hF];rfl)
theorem JKY (l:List U)(hl:l.length≤2^60):PX 36 [J47 l,J47 l] (encB true):=by
 refine PZ Tryz.func36 rfl ?_;have hml:=@List.length_map _ _ l encU;unfold J47;refine kWQ ?_;intros
 (repeat (simp only[beq_self_eq_true,decide_true];refine kQ ?_;intros))
 refine LoopP.intro (fun k σ H=>∃ i,k=l.length-i∧i≤l.length∧σ=fr [(0,.sl 3 (l.map encU)),(1,.sl 3 (l.map encU)),(5,encI i)]∧H=hp []) ?_ ?_
 ·exact .intro <| W.of ⟨_,0,rfl,Nat.zero_le _,rfl,rfl⟩ ⟨rfl,rfl,rfl,trivial⟩ trivial
 rintro k σ H ⟨i,rfl,hi,rfl,rfl⟩
 rcases Nat.lt_or_ge i l.length with h9|h9
 ·obtain ⟨u,huu⟩:∃ u,l[i]=u:=⟨_,rfl⟩;refine kWQ ?_;intros;simp only[huu];unfold encU;refine kQ ?_;intros;refine Need.intro eqst54 ?_
  try simp only[huu]
  refine kWQ ?_;intros;refine CondP.tt ?_;refine kWQ ?_;intros
  exact .intro <| W.of ⟨_,by omega,i+1,rfl,h9,rfl,rfl⟩ ⟨rfl,rfl,rfl,trivial⟩ trivial
 ·obtain rfl:i=l.length:=by omega
  refine kWQ ?_;intros;exact .of rfl
theorem JF5 {s:Sys}(h:checkF s=0):(∀ n,J0u (knownF s.vars) n=s.vars.find? fun v=>decide (v.name=n))∧∀ v∈s.vars,v.type=0∨v.type=1:=by
 unfold checkF at h
 have hL:largeF s=false:=by
  cases h1:largeF s
  ·rfl
  ·rw[h1] at h;simp at h
 rw[hL] at h
 have hV:validF s=true:=by
  cases h1:validF s
  ·rw[h1] at h;simp at h
  ·rfl
 unfold validF at hV;simp only[Bool.and_eq_true,Bool.not_eq_true'] at hV;obtain ⟨⟨⟨⟨⟨⟨h1,_⟩,_⟩,_⟩,hv⟩,_⟩,_⟩:=hV
 refine ⟨fun n=>?_,fun v hvm=>J9x (by
  have:=List.any_eq_false.1 hv v hvm
  simpa using this)⟩
 have e1:knownF s.vars=s.vars.map fun v=>(v.name,v):=by
  unfold knownF;rw[J98 _ _ (by simpa using J4o _ _ h1)];rfl
 rw[e1,J50]
def J9D:Option U→List Bd→Bool
 |_,[]=>true
 |p,b::r=>(valV b.value).isSome&&fitF b.use&&!J6E p b.use&&J9D (some b.use) r
theorem JKZ (s:Sys)(x:Ex)(hs:SzS s)(hz:SzE x)(hx:TxE x):PX 49 [J0M s,encE x] (.tup [encI (typeS s x).1,encI (typeS s x).2]):=by
 refine PZ Tryz.func49 rfl ?_;have hc:=JIb s hs;rw[JF7] at hc;have hl:=J9m x hz;rw[← J22] at hl;have hb:=J7N x hz hx;have ht:=JA0 s hs.v x hz
 have hsame:checkF s=0→builtF x=true→(typeF (knownF s.vars) x).2=(typR s.vars x).2∧((typeF (knownF s.vars) x).2=true→(typeF (knownF s.vars) x).1=(typR s.vars x).1):=fun h h2=>by
  obtain ⟨h3,h4⟩:=JF5 h;obtain ⟨h5,h6⟩:=JCm (knownF s.vars) s.vars h3 h4 x h2;exact ⟨h5,fun h=>(h6 h).1⟩
 generalize hF:typeS s x=F;unfold typeS at hF;generalize checkF s=ck at *;generalize tooF x=tl at *;generalize typeF (knownF s.vars) x=ty at *;generalize typR s.vars x=tr at *;obtain ⟨vs,qs,ns,ws⟩:=s;rw[J02] at *;unfold J0M J7b at *;simp only at *;refine kWQ ?_;intros;refine CallP.flat [] _ c93 hc rfl ?_
 by_cases h0:ck=0
 case neg=>
  rw[if_pos h0] at hF;refine kWQ ?_;intros;exact .of (by rw[← hF];rfl)
 rw[if_neg (fun h=>h h0)] at hF;refine kWQ ?_;intros;refine CallP.flat [] _ c87 hl rfl ?_
 cases tl with
 |true=>
   rw[if_pos rfl] at hF;refine kWQ ?_;intros;exact .of (by rw[← hF];rfl)
 |false=>
 rw[if_neg (by decide)] at hF;refine kWQ ?_;intros
 cases hbb:builtF x with
 |false=>
   rw[hbb] at hF hb;rw[if_pos (by decide)] at hF;refine CallP.flat [] _ c125 hb rfl ?_;refine kWQ ?_;intros;exact .of (by rw[← hF];rfl)
 |true=>
 rw[hbb] at hF hb;rw[if_neg (by decide)] at hF;obtain ⟨e1,e2⟩:=hsame h0 hbb;have ht:=ht hbb;obtain ⟨t1,t2⟩:=tr;obtain ⟨y1,y2⟩:=ty;simp only at e1 e2 hF ht;subst e1;refine CallP.flat [] _ c125 hb rfl ?_;refine kWQ ?_;intros;refine CallP.flat [] _ c126 ht rfl ?_
 cases y2 with
 |true=>
   rw[if_pos rfl] at hF;have e2:=e2 rfl;subst e2;refine kWQ ?_;intros;exact .of (by rw[← hF];rfl)
 |false=>
   rw[if_neg (by decide)] at hF;refine kWQ ?_;intros;exact .of (by rw[← hF];rfl)
def lenV (v:Va):Nat:=v.name.size+v.value.size+v.start.size+v.unit.size
def JEl:List Va→Nat
 |[]=>0
 |v::r=>lenV v+JEl r
def greatS (s:Sys):Bool:=decide (40000<JEl s.vars)||decide (200<s.vars.length)||decide (200<s.eqs.length)||decide (200<s.inits.length)||decide (200<s.whens.length)
theorem JIV (s:Sys)(hs:SzS s)(hl:s.vars.length≤2^20):PX 22 [J0M s] (encB (greatS s)):=by
 refine PZ Tryz.func22 rfl ?_;have ht:=hs.t;generalize hF:greatS s=F;unfold greatS at hF;obtain ⟨vs,qs,ns,ws⟩:=s;simp only at hl ht hF;unfold J0M;simp only;have mv:=@List.length_map _ _ vs encV;have mq:=@List.length_map _ _ qs J0N;have mn:=@List.length_map _ _ ns J0N;have mw:=@List.length_map _ _ ws J0m;obtain ⟨S,hS⟩:∃ z,JEl vs=z:=⟨_,rfl⟩;rw[hS] at hF;refine kWQ ?_;intros
 refine LoopP.intro (fun k σ H=>∃ gs i,∃ t:Nat,k=vs.length-i∧i≤vs.length∧t≤i*2^38∧t+JEl (vs.drop i)=S ∧
   σ=fr [(1,.op 1 gs 0 0),(3,encI t),(4,encI i)] ∧
   H=hp [(1,gs,⟨26,4,[.agg [.sl 7 (vs.map encV),.sl 9 (qs.map J0N),.sl 9 (ns.map J0N),.sl 6 (ws.map J0m)]]⟩)]) ?_ ?_
 ·exact .intro (W.of ⟨_,_,0,0,rfl,Nat.zero_le _,Nat.zero_le _,by rw[Nat.zero_add];exact hS,rfl,rfl⟩ ⟨rfl,rfl,rfl,trivial⟩ ⟨rfl,trivial⟩)
 rintro k σ H ⟨gs,i,t,rfl,hi,htt,hT,rfl,rfl⟩
 rcases Nat.lt_or_ge i vs.length with h1|h1
 ·rw[List.drop_eq_getElem_cons h1] at hT;have hvi:=ht _ (List.getElem_mem h1);unfold JEl lenV at hT;obtain ⟨q1,q2,q3,q4⟩:=hvi;refine kWQ ?_;intros
  refine .intro <| W.of ⟨_,by omega,gs,i+1,t+(vs[i].name.size+vs[i].value.size+vs[i].start.size+vs[i].unit.size),rfl,h1,by omega,by omega,rfl,rfl⟩ ⟨rfl,?_,rfl,trivial⟩ ⟨rfl,trivial⟩
  exact congrArg encI (by push_cast;omega)
 ·rw[List.drop_eq_nil_of_le h1] at hT;unfold JEl at hT;rw[Nat.add_zero] at hT;subst hT;refine kWO ?_;intros;refine CondP.dec (fun c1=>?_) (fun c1=>?_)<;>refine kW ?_
  ·refine kQ ?_;intros;have e:F=true:=by rw[← hF];simp only[Bool.or_eq_true,decide_eq_true_eq];omega
   exact .of (by rw[e];rfl)
  refine kQ ?_;intros;refine CondP.dec (fun c2=>?_) (fun c2=>?_)<;>refine kW ?_
  ·refine kQ ?_;intros;have e:F=true:=by rw[← hF];simp only[Bool.or_eq_true,decide_eq_true_eq];omega
   exact .of (by rw[e];rfl)
  refine kQ ?_;intros;refine CondP.dec (fun c3=>?_) (fun c3=>?_)<;>refine kW ?_
  ·refine kQ ?_;intros;have e:F=true:=by rw[← hF];simp only[Bool.or_eq_true,decide_eq_true_eq];omega
   exact .of (by rw[e];rfl)
  refine kQ ?_;intros;refine CondP.dec (fun c4=>?_) (fun c4=>?_)<;>refine kW ?_
  ·refine kQ ?_;intros;have e:F=true:=by rw[← hF];simp only[Bool.or_eq_true,decide_eq_true_eq];omega
   exact .of (by rw[e];rfl)
  refine kQ ?_;intros;refine .of ?_;rw[decide_eq_false (by omega),decide_eq_false (by omega),decide_eq_false (by omega),decide_eq_false (by omega)] at hF;simp only[Bool.false_or] at hF;rw[← hF];exact congrArg encB (decide_eq_decide.2 (by omega))
theorem JJ5 (e:Ex):(useOf e).1.length≤1000:=by
 rw[J5t];split
 ·rename_i h;obtain ⟨h1,h2,h3⟩:=J2u h;have:=J5s e [];have h4:=JA6 e (by rw[← J22];exact h1)
  have:szF e≤200:=by
   have hl:largeR e=false:=by rw[← J22];exact h1
   unfold largeR at hl;simp only[Bool.or_eq_false_iff,decide_eq_false_iff_not] at hl;omega
  simp at *;omega
 ·simp
theorem J7f (ha:PX 40 [] (encB true))(s:Sys)(hs:SzS s)(x:Ex)(g:GdE x):PX 12 [J0M s,encE x] (encB true):=by
 refine PZ Tryz.func12 rfl ?_;have hg:=JIV s hs hs.v20;have h1:=JDp s x hs g.1 g.2;have h2:=JKZ s x hs g.1 g.2;have h3:=JPG x g;have h4:=JCl x g.1 g.2;have h5:=JKc x g;have h6:=JIJ x g;have hU:=JKY (useOf x).1 (Nat.le_trans (JJ5 x) (by decide));generalize greatS s=gr at *;generalize typeS s x=ty at *;generalize useOf x=us at *;generalize showS x=sh at *;obtain ⟨t1,t2⟩:=ty;obtain ⟨l,f⟩:=us;obtain ⟨p,k⟩:=sh;obtain ⟨vs,qs,ns,ws⟩:=s;rw[J02] at *;unfold J0M JHN JK6 at *;simp only at *;clear hs g;refine kWQ ?_;intros;refine CallP.flat [] _ c22 hg rfl ?_
 cases gr with
 |true=>
   refine kWQ ?_;intros;refine CallP.flat [] _ c40 ha rfl ?_;refine kWQ ?_;intros;exact .of rfl
 |false=>
 refine kWQ ?_;intros;refine J00 [] _ c48 h1 ?_;refine kWQ ?_;intros;refine J00 [] _ c49 h2 ?_;refine kWQ ?_;intros;refine J00 [] _ c46 h3 ?_;refine kWQ ?_;intros;refine J00 [] _ c50 h4 ?_;refine kWQ ?_;intros;refine J00 [] _ c51 h5 ?_;refine kWQ ?_;intros;refine J00 [] _ c52 h6 ?_;refine kWQ ?_;intros
 (repeat (simp only[beq_self_eq_true,decide_true];refine kQ ?_;intros))
 refine CallP.flat [] _ c36 hU rfl ?_;refine kWQ ?_;intros
 (repeat (simp only[beq_self_eq_true,decide_true];refine kQ ?_;intros))
 refine CallP.flat [] _ c40 ha rfl ?_;refine kWQ ?_;intros
 (repeat (simp only[beq_self_eq_true,decide_true];refine kQ ?_;intros))
 exact .of rfl
theorem OpenB.low {H:Type}{L:DataW H→Prop}{N M:Nat}{enc:TypeId×Value→H}{P:Program}{w:World}{t:Nat}{Ψ:List AV→Prop}(h:OpenB L M enc P w t Ψ)(hn:N≤M):OpenB L N enc P w t Ψ:=fun fuel hf=>h fuel (Nat.le_trans hf hn)
theorem J2d {t e:Nat}{d:Fw.TD}(hd:T t=some d)(hk:d.kind=.slice e):Tryz.prog.underlying t=some (.slice e):=by
 obtain ⟨u,hu,hr⟩:=(J0a (J5C _ _ hd)).und;rw[hk] at hr;cases u<;>simp[kdOf] at hr
 subst hr;exact hu
theorem u3:Tryz.prog.underlying 3=some (.int .i64):=by kernel_rfl
theorem u4:Tryz.prog.underlying 4=some .bool:=by kernel_rfl
theorem u9:Tryz.prog.underlying 9=some .string:=by kernel_rfl
section
variable {H:Type} {enc:TypeId×Value→H} {w:World} {L:DataW H→Prop} {B0:Nat}
abbrev pS (B0:Nat):List AV→Prop:=fun z=>∃ s:ByteArray,z=[AV.val (.string s)]∧s.size≤B0
abbrev pI:List AV→Prop:=fun z=>∃ n:Int,z=[AV.val (.int .i64 n)]
abbrev pB:List AV→Prop:=fun z=>∃ b:Bool,z=[AV.val (.bool b)]
def JBa (e:Ex):Prop:=SzE e∧TxE e
abbrev pExp (w:World):List AV→Prop:=fun z=>∃ e:Ex,z=(encE e).cells∧JBa e
theorem JEc (hL:LB L B0)(hB:B0<2^21):∀ N:Nat,OpenB L N enc Tryz.prog w 29 (pExp w)
 |0=>by
   intro fuel hf cs x h _;obtain ⟨fs,hu,_⟩:=J0v (J5C 29 _ rfl) rfl;obtain ⟨_,n,hn,_⟩:=DataW.trod_struct hu h;omega
 |N + 1=>by
   obtain ⟨fs,hu,hf⟩:=J0v (J5C 29 _ rfl) rfl;have hk:=OpenB.low (J1e (n:=4) (f:=encE) (Φ:=JBa) hL (J2d (t:=27) (e:=29) rfl rfl) (by kernel_rfl) (by decide) (JEc hL hB N)) (Nat.le_succ N)
   refine (J18 hL hu [(0,9,1,pS B0),(1,9,1,pS B0),(2,3,1,pI),(3,27,1,_)] hf (by
    intro p hp;simp only[List.mem_cons,List.not_mem_nil,or_false] at hp
    rcases hp with rfl|rfl|rfl|rfl<;>kernel_rfl) (by kernel_rfl) (by
    intro p hp;simp only[List.mem_cons,List.not_mem_nil,or_false] at hp
    rcases hp with rfl|rfl|rfl|rfl
    ·exact J1F hL u9
    ·exact J1F hL u9
    ·exact J3s u3
    ·exact hk)).mono ?_
   rintro z ⟨zs,rfl,h⟩
   match zs,h with
   |[z0,z1,z2,z3],⟨⟨o,h0,ho⟩,⟨t,h1,ht⟩,⟨n,h2⟩,⟨l,h3,hl,hg⟩,_⟩=>
     subst h0 h1 h2 h3;refine ⟨.mk o t n l,?_,SzE.mk (by omega) (by omega) (by omega) fun k hk=>(hg k hk).1,TxE.mk (by omega) fun k hk=>(hg k hk).2⟩;rw[J02];rfl
theorem JNI (hL:LB L B0)(hB:B0<2^21)(N:Nat):OpenB L (N+1) enc Tryz.prog w 58 fun z=>∃ q:Eqn,z=(J0N q).cells∧q.name.size≤B0∧JBa q.left∧JBa q.right:=by
 obtain ⟨fs,hu,hf⟩:=J0v (J5C 58 _ rfl) rfl
 refine (J18 hL hu [(0,9,1,pS B0),(1,29,4,pExp w),(5,29,4,pExp w)] hf (by
  intro p hp;simp only[List.mem_cons,List.not_mem_nil,or_false] at hp
  rcases hp with rfl|rfl|rfl<;>kernel_rfl) (by kernel_rfl) (by
  intro p hp;simp only[List.mem_cons,List.not_mem_nil,or_false] at hp
  rcases hp with rfl|rfl|rfl
  ·exact J1F hL u9
  ·exact JEc hL hB N
  ·exact JEc hL hB N)).mono ?_
 rintro z ⟨zs,rfl,h⟩
 match zs,h with
 |[z0,z1,z2],⟨⟨s,h0,hs⟩,⟨a,h1,ha⟩,⟨b,h2,hb⟩,_⟩=>
   subst h0 h1 h2;refine ⟨⟨s,a,b⟩,?_,hs,ha,hb⟩;rw[J08,J08];rfl
theorem JNJ (hL:LB L B0)(hB:B0<2^21)(N:Nat):OpenB L (N+1) enc Tryz.prog w 260 fun z=>∃ a:Ac,z=(J6n a).cells∧JBa a.value:=by
 obtain ⟨fs,hu,hf⟩:=J0v (J5C 260 _ rfl) rfl
 refine (J18 hL hu [(0,3,1,pI),(1,9,1,pS B0),(2,29,4,pExp w)] hf (by
  intro p hp;simp only[List.mem_cons,List.not_mem_nil,or_false] at hp
  rcases hp with rfl|rfl|rfl<;>kernel_rfl) (by kernel_rfl) (by
  intro p hp;simp only[List.mem_cons,List.not_mem_nil,or_false] at hp
  rcases hp with rfl|rfl|rfl
  ·exact J3s u3
  ·exact J1F hL u9
  ·exact JEc hL hB N)).mono ?_
 rintro z ⟨zs,rfl,h⟩
 match zs,h with
 |[z0,z1,z2],⟨⟨n,h0⟩,⟨s,h1,hs⟩,⟨b,h2,hb⟩,_⟩=>
   subst h0 h1 h2;refine ⟨⟨n,s,b⟩,?_,hb⟩;rw[J08];rfl
theorem JNF (hL:LB L B0)(hB:B0<2^21)(N:Nat):OpenB L (N+3) enc Tryz.prog w 228 fun z=>∃ a:Whn,z=(J0m a).cells∧a.name.size≤B0∧a.acts.length≤B0∧JBa a.cond∧∀ x∈a.acts,JBa x.value:=by
 obtain ⟨fs,hu,hf⟩:=J0v (J5C 228 _ rfl) rfl;have hk:=J1e (n:=6) (f:=J6n) (Φ:=fun a=>JBa a.value) hL (J2d (t:=226) (e:=260) rfl rfl) (by kernel_rfl) (by decide) (JNJ (enc:=enc) (w:=w) hL hB N)
 refine (J18 hL hu [(0,9,1,pS B0),(1,29,4,pExp w),(5,226,1,_)] hf (by
  intro p hp;simp only[List.mem_cons,List.not_mem_nil,or_false] at hp
  rcases hp with rfl|rfl|rfl<;>kernel_rfl) (by kernel_rfl) (by
  intro p hp;simp only[List.mem_cons,List.not_mem_nil,or_false] at hp
  rcases hp with rfl|rfl|rfl
  ·exact J1F hL u9
  ·exact JEc hL hB _
  ·exact hk)).mono ?_
 rintro z ⟨zs,rfl,h⟩
 match zs,h with
 |[z0,z1,z2],⟨⟨s,h0,hs⟩,⟨a,h1,ha⟩,⟨l,h2,hl,hb⟩,_⟩=>
   subst h0 h1 h2;refine ⟨⟨s,a,l⟩,?_,hs,hl,ha,hb⟩;rw[J08];rfl
theorem JNG (hL:LB L B0)(N:Nat):OpenB L (N+1) enc Tryz.prog w 89 fun z=>∃ v:Va,z=(encV v).cells∧v.name.size≤B0∧v.value.size≤B0∧v.start.size≤B0∧v.unit.size≤B0:=by
 obtain ⟨fs,hu,hf⟩:=J0v (J5C 89 _ rfl) rfl
 refine (J18 hL hu [(0,9,1,pS B0),(1,3,1,pI),(2,3,1,pI),(3,9,1,pS B0),(4,9,1,pS B0),(5,4,1,pB),(6,9,1,pS B0)] hf (by
  intro p hp;simp only[List.mem_cons,List.not_mem_nil,or_false] at hp
  rcases hp with rfl|rfl|rfl|rfl|rfl|rfl|rfl<;>kernel_rfl) (by kernel_rfl) (by
  intro p hp;simp only[List.mem_cons,List.not_mem_nil,or_false] at hp
  rcases hp with rfl|rfl|rfl|rfl|rfl|rfl|rfl
  ·exact J1F hL u9
  ·exact J3s u3
  ·exact J3s u3
  ·exact J1F hL u9
  ·exact J1F hL u9
  ·exact JEd u4
  ·exact J1F hL u9)).mono ?_
 rintro z ⟨zs,rfl,h⟩
 match zs,h with
 |[z0,z1,z2,z3,z4,z5,z6],⟨⟨a,h0,g0⟩,⟨b,h1⟩,⟨c,h2⟩,⟨d,h3,g3⟩,⟨e,h4,g4⟩,⟨f,h5⟩,⟨g,h6,g6⟩,_⟩=>
   subst h0 h1 h2 h3 h4 h5 h6;exact ⟨⟨a,b,c,d,e,f,g⟩,rfl,g0,g3,g4,g6⟩
theorem JNH (hL:LB L B0)(hB:B0≤2^20)(N:Nat):OpenB L (N+5) enc Tryz.prog w 26 fun z=>∃ s:Sys,z=(J0M s).cells∧SzS s:=by
 obtain ⟨fs,hu,hf⟩:=J0v (J5C 26 _ rfl) rfl;have hB':B0<2^21:=by omega
 have k1:=OpenB.low (J1e (n:=7) (f:=encV) hL (J2d (t:=22) (e:=89) rfl rfl) (by kernel_rfl) (by decide) (JNG (enc:=enc) (w:=w) hL (N+2))) (N:=N+4) (by omega);have k2:=OpenB.low (J1e (n:=9) (f:=J0N) hL (J2d (t:=23) (e:=58) rfl rfl) (by kernel_rfl) (by decide) (JNI (enc:=enc) (w:=w) hL hB' (N+2))) (N:=N+4) (by omega);have k3:=OpenB.low (J1e (n:=6) (f:=J0m) hL (J2d (t:=24) (e:=228) rfl rfl) (by kernel_rfl) (by decide) (JNF (enc:=enc) (w:=w) hL hB' N)) (N:=N+4) (by omega)
 refine (J18 hL hu [(0,22,1,_),(1,23,1,_),(2,23,1,_),(3,24,1,_)] hf (by
  intro p hp;simp only[List.mem_cons,List.not_mem_nil,or_false] at hp
  rcases hp with rfl|rfl|rfl|rfl<;>kernel_rfl) (by kernel_rfl) (by
  intro p hp;simp only[List.mem_cons,List.not_mem_nil,or_false] at hp
  rcases hp with rfl|rfl|rfl|rfl
  ·exact k1
  ·exact k2
  ·exact k2
  ·exact k3)).mono ?_
 rintro z ⟨zs,rfl,h⟩
 match zs,h with
 |[z0,z1,z2,z3],⟨⟨vs,h0,l0,g0⟩,⟨qs,h1,l1,g1⟩,⟨ns,h2,l2,g2⟩,⟨ws,h3,l3,g3⟩,_⟩=>
   subst h0 h1 h2 h3;refine ⟨⟨vs,qs,ns,ws⟩,rfl,⟨by simp only;omega,by simp only;omega,by simp only;omega,by simp only;omega,fun w hw=>?_,fun e he=>?_,fun v hv=>?_,⟨fun q hq=>?_,fun q hq=>?_,fun w hw=>?_⟩,by simp only;omega⟩⟩
   ·have:=(g3 w hw).2.1;omega
   ·unfold allF at he
    rcases List.mem_append.1 he with he|he
    ·rcases List.mem_append.1 he with he | he
     ·unfold J1O at he;obtain ⟨q,hq,he⟩:=List.mem_flatMap.1 he;simp only[List.mem_cons,List.not_mem_nil,or_false] at he
      rcases he with rfl|rfl
      ·exact (g1 q hq).2.1
      ·exact (g1 q hq).2.2
     ·unfold J1O at he;obtain ⟨q,hq,he⟩:=List.mem_flatMap.1 he;simp only[List.mem_cons,List.not_mem_nil,or_false] at he
      rcases he with rfl|rfl
      ·exact (g2 q hq).2.1
      ·exact (g2 q hq).2.2
    ·obtain ⟨x,hx,he⟩:=List.mem_flatMap.1 he;unfold J3g at he
     rcases List.mem_cons.1 he with rfl|he
     ·exact (g3 x hx).2.2.1
     ·obtain ⟨a,ha,rfl⟩:=List.mem_map.1 he;exact (g3 x hx).2.2.2 a ha
   ·have:=g0 v hv;exact ⟨by omega,by omega,by omega,by omega⟩
   ·have:=(g1 q hq).1;omega
   ·have:=(g2 q hq).1;omega
   ·have:=(g3 w hw).1;omega
end
theorem JIA (e:Ex):AV.agg (encE e).cells=encE e:=by rw[J08];rfl
end Go.Proofs.YtlblbldolhiokaaGreatDoor
namespace Go.Proofs.YtlblbldolhiokaaGreatDoor
open Go Go.Fw Go.ChangeShapes Go.WideShapes Go.ChangeAt Go.RowKit
theorem JJV:ownKnob Tryz.prog.godebug=none:=by kernel_rfl
theorem J96:laidOutB Tryz.prog=true:=by kernel_rfl
section
variable {H:Type}
theorem JOD (d:DataW H):1≤Rows.uptoBulk d:=by
 cases d with
 |lit l=>cases l<;>simp[Rows.uptoBulk]
 |_=>simp[Rows.uptoBulk]
theorem J7B {d:DataW H}{l:List (DataW H)}(h:d∈l):Rows.uptoBulk d≤Rows.uptoBulkAll l:=by
 induction l with
 |nil=>cases h
 |cons x r ih=>
   simp only[Rows.uptoBulkAll]
   cases List.mem_cons.1 h with
   |inl e=>subst e;omega
   |inr e=>have:=ih e;omega
theorem JKR (l:List (DataW H)):l.length≤Rows.uptoBulkAll l:=by
 induction l with
 |nil=>simp[Rows.uptoBulkAll]
 |cons x r ih=>have:=JOD x;simp only[Rows.uptoBulkAll,List.length_cons];omega
abbrev Blk (H:Type):DataW H→Prop:=fun d=>Rows.uptoBulk d≤1048576
theorem JL7:LB (Blk H) 1048576:=by
 refine ⟨fun e s h=>?_,fun p h d hd=>?_,fun s h=>?_⟩
 ·have h:Rows.uptoBulkAll e+Rows.uptoBulkAll s+1≤1048576:=by simpa [Blk,Rows.uptoBulk] using h
  refine ⟨by have:=JKR e;omega,fun d hd=>?_⟩;have:=J7B hd;show Rows.uptoBulk d≤1048576
  omega
 ·have h:Rows.uptoBulkAll p+1≤1048576:=by simpa [Blk,Rows.uptoBulk] using h
  have:=J7B hd;show Rows.uptoBulk d≤1048576
  omega
 ·have h:s.length+1≤1048576:=by simpa [Blk,Rows.uptoBulk] using h
  omega
theorem JGC {l:List (DataW H)}(h:Rows.uptoSmall H l=true):∀ d∈l,Blk H d:=fun d hd=>by
 have h:Rows.uptoBulkAll l≤1048576:=by simpa [Rows.uptoSmall] using h
 exact Nat.le_trans (J7B hd) h
end
section
variable {H:Type} {enc:TypeId×Value→H} {w:World} {L:DataW H→Prop} {N t:Nat} {Ψ:List AV→Prop}
theorem JDC (hO:OpenB L N enc Tryz.prog w t Ψ){fuel:Nat}(hf:fuel≤N){v:Value}{x:DataW H×List MemPlace}(hv:∃ cs,v=.agg cs)(h:DataW.trod enc Tryz.prog w 0 (fun _=>true) true fuel t v.cells.toList=some x)(hl:L x.1):∃ z,Ψ z∧VR KM.empty w NoN (.agg z) v:=by
 obtain ⟨z,h1,h2⟩:=hO fuel hf _ x h hl;obtain ⟨cs,rfl⟩:=hv;have e:(Value.agg cs).cells.toList=cs.toList:=by simp[Value.cells]
 rw[e] at h1;refine ⟨z,h2,.agg _ cs (h1.len.trans (by simp)) (fun i h h'=>?_) (fun i h=>h1.pl _ (by simp))⟩;have:=h1.rel i h (by simpa using h');rw[Array.getElem_toList] at this;exact this
end
def flatD:Nat→DataW Unit→List Value
 |_,.lit (.int k n)=>[.int k n]
 |n+1,.agg ps=>ps.flatMap (flatD n)
 |_,_=>[]
def putT (d:DataW Unit):Obj→Obj
 |.cells _ t z=>.cells (flatD 3 d).toArray t z
 |o=>o
noncomputable def laidW (os:Os):World:=
 { World.holding Tryz.prog os ⟨#[],#[],[]⟩ with heap:=((World.holding Tryz.prog os ⟨#[],#[],[]⟩).heap.modify 1 (putT Rows.laid_unicode_utf8_first)).modify 2 (putT Rows.laid_unicode_utf8_acceptRanges) }
abbrev laidL:List (String×DataW Unit):=[("unicode/utf8.acceptRanges",Rows.laid_unicode_utf8_acceptRanges),("unicode/utf8.first",Rows.laid_unicode_utf8_first)]
theorem JJi (os:Os)(args:Array Value):laidMet Tryz.prog laidL ((laidW os).forCall (fun _ _=>0) ⟨#[],args,[]⟩).memory:=
 laidMet_of_run' 8 (by kernel_rfl) (by kernel_rfl)
theorem JEf:mapsRowed Tryz.prog=true:=by kernel_rfl
theorem JBu:Tryz.prog.stopsHeard=true:=by kernel_rfl
theorem JGm:Tryz.prog.mayEnter=true:=by kernel_rfl
theorem JCA:(Rows.systemHoldsUptoRow.lifted==Tryz.prog.liftsFinal)=true:=by kernel_rfl
theorem JM0:(Tryz.prog.make==some Rows.systemHoldsUptoRow.make)=true:=by kernel_rfl
theorem JNM:false=Tryz.pinned.checked.prog.looks []:=by kernel_rfl
theorem JM1:Tryz.pinned.checked.prog.mainIs=some (Rows.systemHoldsUptoCard.stood.harness.1,Rows.systemHoldsUptoCard.stood.harness.2.toList):=by kernel_rfl
theorem JEY {n:String}{k:FuncId}{g:Func}{ts:Array TypeId}(h1:Tryz.prog.funcNamed n=some k)(h2:Tryz.prog.funcs[k]?=some g)(h3:g.params=ts)(h4:ts.all (fun t=>!Tryz.prog.wantsStandIn t)=true)
  (f:FuncId)(fn:Func)(hf:Tryz.pinned.checked.prog.funcNamed n=some f)(hfn:Tryz.pinned.checked.prog.funcs[f]?=some fn) :
  false=Tryz.pinned.checked.prog.looks []∧∀ (j:Nat) t,fn.params[j]?=some t→Tryz.pinned.checked.prog.wantsStandIn t=false:=by
 obtain rfl:f=k:=Option.some.inj (hf.symm.trans h1);obtain rfl:fn=g:=Option.some.inj (hfn.symm.trans h2);refine ⟨JNM,fun j t ht=>?_⟩;rw[h3] at ht;have:=Array.all_eq_true'.1 h4 t (Array.mem_of_getElem? ht);have h5:Tryz.pinned.checked.prog.wantsStandIn t=Tryz.prog.wantsStandIn t:=rfl;rw[h5]
 simpa using this
end Go.Proofs.YtlblbldolhiokaaGreatDoor
