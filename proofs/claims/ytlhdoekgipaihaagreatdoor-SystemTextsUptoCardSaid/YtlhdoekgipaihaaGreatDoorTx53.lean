/- Part 53 of the proof. -/
import Derived.Test.YtlhdoekgipaihaaGreatDoorTx52
import Derived.KernelRfl
import Derived.Test.YtlhdoekgipaihaaGreatDoorTx46
import Derived.Test.YtlhdoekgipaihaaGreatDoorTx51
import Derived.Test.YtlhdoekgipaihaaGreatDoorTx48
import Derived.Test.YtlhdoekgipaihaaGreatDoorRows
import Derived.Test.YtlhdoekgipaihaaGreatDoorCards
import Derived.Test.YtlhdoekgipaihaaGreatDoorTie
import Derived.ProofKit
import Derived.OpenShut
import Derived.Deep.DeepHandedRow
set_option linter.unusedVariables false
set_option linter.unusedSimpArgs false
set_option linter.unusedSectionVars false
set_option maxRecDepth 100000
set_option exponentiation.threshold 400
set_option maxHeartbeats 8000000
namespace Go.Proofs.YtlhdoekgipaihaaGreatDoor
open Go Go.Fw
def opE (o:ByteArray) (l:List Ex):Ex:=.mk o ⟨#[]⟩ 0 l
def numE (t:ByteArray):Ex:=.mk oNum t 0 []
def refE (t:ByteArray) (n:Int):Ex:=.mk oVar t n []
def exS:Sys:=⟨[⟨⟨#[107]⟩,2,0,⟨#[50]⟩,⟨#[]⟩,false,⟨#[]⟩⟩,⟨⟨#[120]⟩,0,0,⟨#[]⟩,⟨#[49]⟩,true,⟨#[]⟩⟩],[⟨⟨#[101]⟩,refE ⟨#[120]⟩ 1,opE ⟨#[110,101,103]⟩ [opE ⟨#[109,117,108]⟩ [refE ⟨#[107]⟩ 0,refE ⟨#[120]⟩ 0]]⟩],[],[]⟩
def exT:List UInt8:=[118,97,114,32,107,32,112,97,114,97,109,32,110,117,109,98,101,114,32,118,97,108,117,101,61,50,10,118,97,114,32,120,32,99,111,110,116,105,110,117,111,117,115,32,110,117,109,98,101,114,32,115,116,97,114,116,61,49,32,102,105,120,101,100,10,101,113,32,101,32,64,120,58,39,32,110,101,103,40,109,117,108,40,64,107,59,64,120,41,41,10]
def J41:EnvA:=⟨⟨#[51,47,50]⟩,false,[⟨⟨⟨#[120]⟩,0,false⟩,⟨#[48]⟩⟩]⟩
def ex1:Ex:=opE ⟨#[100,105,118]⟩ [numE ⟨#[49]⟩,refE ⟨#[120]⟩ 0]
def ex2:Ex:=opE ⟨#[105,102]⟩ [opE ⟨#[108,101,115,115]⟩ [refE ⟨#[120]⟩ 0,numE ⟨#[49]⟩],numE ⟨#[48]⟩,opE ⟨#[100,105,118]⟩ [numE ⟨#[49]⟩,refE ⟨#[120]⟩ 0]]
def ex3:Ex:=opE ⟨#[115,97,109,112,108,101]⟩ [numE ⟨#[48]⟩,numE ⟨#[49,47,50]⟩]
theorem JLO:JEF exS ex1 J41=(⟨#[]⟩,12):=by kernel_rfl
theorem JLN:JEF exS ex2 J41=(⟨#[48]⟩,0):=by kernel_rfl
theorem JLM:JEF exS ex3 J41=(⟨#[116,114,117,101]⟩,0):=by kernel_rfl
def GdE (e:Ex):Prop:=SzE e∧TxE e
theorem J2h {o t:ByteArray} {n:Int} {l:List Ex} (h1:o.size≤100) (h2:t.size≤100) (h3:l.length≤100) (h:∀ e∈l,GdE e):GdE (.mk o t n l):=
 ⟨SzE.mk (by omega) (by omega) (by omega) fun k hk=>(h k hk).1,TxE.mk (by omega) fun k hk=>(h k hk).2⟩
theorem gd1:GdE ex1:=by
 refine J2h (by decide) (by decide) (by decide) ?_;simp only[List.forall_mem_cons,List.not_mem_nil,false_imp_iff,implies_true,and_true];exact ⟨J2h (by decide) (by decide) (by decide) (by simp),J2h (by decide) (by decide) (by decide) (by simp)⟩
theorem gd2:GdE ex2:=by
 refine J2h (by decide) (by decide) (by decide) ?_;simp only[List.forall_mem_cons,List.not_mem_nil,false_imp_iff,implies_true,and_true]
 refine ⟨J2h (by decide) (by decide) (by decide) ?_,J2h (by decide) (by decide) (by decide) (by simp),J2h (by decide) (by decide) (by decide) ?_⟩ <;>
  simp only[List.forall_mem_cons,List.not_mem_nil,false_imp_iff,implies_true,and_true] <;>
  exact ⟨J2h (by decide) (by decide) (by decide) (by simp),J2h (by decide) (by decide) (by decide) (by simp)⟩
theorem gd3:GdE ex3:=by
 refine J2h (by decide) (by decide) (by decide) ?_;simp only[List.forall_mem_cons,List.not_mem_nil,false_imp_iff,implies_true,and_true];exact ⟨J2h (by decide) (by decide) (by decide) (by simp),J2h (by decide) (by decide) (by decide) (by simp)⟩
theorem JCN:SzS exS:=by
 refine ⟨by decide,by decide,by decide,by decide,by simp[exS],?_,?_,?_,by decide⟩
 ·intro e he;simp only[exS,allF,J1Q,List.flatMap_cons,List.flatMap_nil,List.append_nil,List.mem_cons,List.not_mem_nil,or_false] at he
  rcases he with rfl | rfl
  ·exact J2h (by decide) (by decide) (by decide) (by simp)
  ·refine J2h (by decide) (by decide) (by decide) ?_;simp only[List.forall_mem_cons,List.not_mem_nil,false_imp_iff,implies_true,and_true];refine J2h (by decide) (by decide) (by decide) ?_;simp only[List.forall_mem_cons,List.not_mem_nil,false_imp_iff,implies_true,and_true];exact ⟨J2h (by decide) (by decide) (by decide) (by simp),J2h (by decide) (by decide) (by decide) (by simp)⟩
 ·intro v hv;simp only[exS,List.mem_cons,List.not_mem_nil,or_false] at hv
  rcases hv with rfl | rfl<;>decide
 ·refine ⟨?_,by simp[exS],by simp[exS]⟩;intro q hq;simp only[exS,List.mem_cons,List.not_mem_nil,or_false] at hq;subst hq;decide
theorem JGc:J2d exS=(⟨exT.toArray⟩,0):=by kernel_rfl
theorem JFS:SzB J41:=by
 refine ⟨by decide,by decide,fun b hb=>?_⟩;simp only[J41,List.mem_cons,List.not_mem_nil,or_false] at hb;subst hb;decide
theorem JN2:PureCall Tryz.prog 41 [J0M exS] (.tup [encS ⟨exT.toArray⟩,encI 0]):=by
 have:=JHV exS JCN;rw[JGc] at this;exact this
theorem JMf:PureCall Tryz.prog 39 [J0M exS,encE ex1,J1n J41] (.tup [encS ⟨#[]⟩,encI 12]):=by
 have:=J9X exS ex1 J41 JCN gd1.1 gd1.2 JFS;rw[JLO] at this;exact this
theorem JMe:PureCall Tryz.prog 39 [J0M exS,encE ex2,J1n J41] (.tup [encS ⟨#[48]⟩,encI 0]):=by
 have:=J9X exS ex2 J41 JCN gd2.1 gd2.2 JFS;rw[JLN] at this;exact this
theorem JMd:PureCall Tryz.prog 39 [J0M exS,encE ex3,J1n J41] (.tup [encS ⟨#[116,114,117,101]⟩,encI 0]):=by
 have:=J9X exS ex3 J41 JCN gd3.1 gd3.2 JFS;rw[JLM] at this;exact this
def tab2:Tab:=[(41,[J0M exS],.tup [encS ⟨exT.toArray⟩,encI 0]),(39,[J0M exS,encE ex1,J1n J41],.tup [encS ⟨#[]⟩,encI 12]),
 (39,[J0M exS,encE ex2,J1n J41],.tup [encS ⟨#[48]⟩,encI 0]),(39,[J0M exS,encE ex3,J1n J41],.tup [encS ⟨#[116,114,117,101]⟩,encI 0])]
theorem JKi:TabOk XR.E.P tab2:=by
 refine ⟨?_⟩;unfold tab2;simp only[List.forall_mem_cons,List.not_mem_nil,false_imp_iff,implies_true,and_true];exact ⟨⟨c41,JN2,rfl⟩,⟨c39,JMf,rfl⟩,⟨c39,JMe,rfl⟩,⟨c39,JMd,rfl⟩⟩
theorem JET:PureCall Tryz.prog 35 [] (encB true):=JDp J7T JKi (fuel:=100) (n:=10) (by kernel_rfl)
theorem OpenB.low {H:Type} {L:DataW H→Prop} {N M:Nat} {enc:TypeId×Value→H} {P:Program} {w:World} {t:Nat} {Ψ:List AV→Prop} (h:OpenB L M enc P w t Ψ) (hn:N≤M):OpenB L N enc P w t Ψ:=fun fuel hf=>h fuel (Nat.le_trans hf hn)
theorem J2Z {t e:Nat} {d:Fw.TD} (hd:T t=some d) (hk:d.kind=.slice e):Tryz.prog.underlying t=some (.slice e):=by
 obtain ⟨u,hu,hr⟩:=(J0a (J5k _ _ hd)).und;rw[hk] at hr;cases u<;>simp[kdOf] at hr
 subst hr;exact hu
theorem u3:Tryz.prog.underlying 3=some (.int .i64):=by kernel_rfl
theorem u4:Tryz.prog.underlying 4=some .bool:=by kernel_rfl
theorem u9:Tryz.prog.underlying 9=some .string:=by kernel_rfl
section
variable {H:Type} {enc:TypeId×Value→H} {w:World} {L:DataW H→Prop} {B0:Nat}
abbrev pS (B0:Nat):List AV→Prop:=fun z=>∃ s:ByteArray,z=[AV.val (.string s)]∧s.size≤B0
abbrev pI:List AV→Prop:=fun z=>∃ n:Int,z=[AV.val (.int .i64 n)]
abbrev pB:List AV→Prop:=fun z=>∃ b:Bool,z=[AV.val (.bool b)]
def JBA (e:Ex):Prop:=SzE e∧TxE e
abbrev pExp (w:World):List AV→Prop:=fun z=>∃ e:Ex,z=(encE e).cells∧JBA e
theorem JFz (hL:LB L B0) (hB:B0<2^21):∀ N:Nat,OpenB L N enc Tryz.prog w 42 (pExp w)
 | 0=>by
   intro fuel hf cs x h _;obtain ⟨fs,hu,_⟩:=J16 (J5k 42 _ rfl) rfl;obtain ⟨_,n,hn,_⟩:=DataW.trod_struct hu h;omega
 | N + 1=>by
   obtain ⟨fs,hu,hf⟩:=J16 (J5k 42 _ rfl) rfl;have hk:=OpenB.low (J1c (n:=4) (f:=encE) (Φ:=JBA) hL (J2Z (t:=40) (e:=42) rfl rfl) (by kernel_rfl) (by decide) (JFz hL hB N)) (Nat.le_succ N)
   refine (J17 hL hu [(0,9,1,pS B0),(1,9,1,pS B0),(2,3,1,pI),(3,40,1,_)] hf (by
    intro p hp;simp only[List.mem_cons,List.not_mem_nil,or_false] at hp
    rcases hp with rfl | rfl | rfl | rfl<;>kernel_rfl) (by kernel_rfl) (by
    intro p hp;simp only[List.mem_cons,List.not_mem_nil,or_false] at hp
    rcases hp with rfl | rfl | rfl | rfl
    ·exact J1F hL u9
    ·exact J1F hL u9
    ·exact J3q u3
    ·exact hk)).mono ?_
   rintro z ⟨zs,rfl,h⟩
   match zs,h with
   | [z0,z1,z2,z3],⟨⟨o,h0,ho⟩,⟨t,h1,ht⟩,⟨n,h2⟩,⟨l,h3,hl,hg⟩,_⟩=>
     subst h0 h1 h2 h3;refine ⟨.mk o t n l,?_,SzE.mk (by omega) (by omega) (by omega) fun k hk=>(hg k hk).1,TxE.mk (by omega) fun k hk=>(hg k hk).2⟩;rw[J03];rfl
theorem JML (hL:LB L B0) (hB:B0<2^21) (N:Nat):OpenB L (N+1) enc Tryz.prog w 44 fun z=>∃ q:Eqn,z=(J0J q).cells∧q.name.size≤B0∧JBA q.left∧JBA q.right:=by
 obtain ⟨fs,hu,hf⟩:=J16 (J5k 44 _ rfl) rfl
 refine (J17 hL hu [(0,9,1,pS B0),(1,42,4,pExp w),(5,42,4,pExp w)] hf (by
  intro p hp;simp only[List.mem_cons,List.not_mem_nil,or_false] at hp
  rcases hp with rfl | rfl | rfl<;>kernel_rfl) (by kernel_rfl) (by
  intro p hp;simp only[List.mem_cons,List.not_mem_nil,or_false] at hp
  rcases hp with rfl | rfl | rfl
  ·exact J1F hL u9
  ·exact JFz hL hB N
  ·exact JFz hL hB N)).mono ?_
 rintro z ⟨zs,rfl,h⟩
 match zs,h with
 | [z0,z1,z2],⟨⟨s,h0,hs⟩,⟨a,h1,ha⟩,⟨b,h2,hb⟩,_⟩=>
   subst h0 h1 h2;refine ⟨⟨s,a,b⟩,?_,hs,ha,hb⟩;rw[J04,J04];rfl
theorem JMM (hL:LB L B0) (hB:B0<2^21) (N:Nat):OpenB L (N+1) enc Tryz.prog w 256 fun z=>∃ a:Ac,z=(J4w a).cells∧JBA a.value:=by
 obtain ⟨fs,hu,hf⟩:=J16 (J5k 256 _ rfl) rfl
 refine (J17 hL hu [(0,3,1,pI),(1,9,1,pS B0),(2,42,4,pExp w)] hf (by
  intro p hp;simp only[List.mem_cons,List.not_mem_nil,or_false] at hp
  rcases hp with rfl | rfl | rfl<;>kernel_rfl) (by kernel_rfl) (by
  intro p hp;simp only[List.mem_cons,List.not_mem_nil,or_false] at hp
  rcases hp with rfl | rfl | rfl
  ·exact J3q u3
  ·exact J1F hL u9
  ·exact JFz hL hB N)).mono ?_
 rintro z ⟨zs,rfl,h⟩
 match zs,h with
 | [z0,z1,z2],⟨⟨n,h0⟩,⟨s,h1,hs⟩,⟨b,h2,hb⟩,_⟩=>
   subst h0 h1 h2;refine ⟨⟨n,s,b⟩,?_,hb⟩;rw[J04];rfl
theorem JMI (hL:LB L B0) (hB:B0<2^21) (N:Nat):OpenB L (N+3) enc Tryz.prog w 163 fun z=>∃ a:Whn,z=(J0Y a).cells∧a.name.size≤B0∧a.acts.length≤B0∧JBA a.cond∧∀ x∈a.acts,JBA x.value:=by
 obtain ⟨fs,hu,hf⟩:=J16 (J5k 163 _ rfl) rfl;have hk:=J1c (n:=6) (f:=J4w) (Φ:=fun a=>JBA a.value) hL (J2Z (t:=161) (e:=256) rfl rfl) (by kernel_rfl) (by decide) (JMM (enc:=enc) (w:=w) hL hB N)
 refine (J17 hL hu [(0,9,1,pS B0),(1,42,4,pExp w),(5,161,1,_)] hf (by
  intro p hp;simp only[List.mem_cons,List.not_mem_nil,or_false] at hp
  rcases hp with rfl | rfl | rfl<;>kernel_rfl) (by kernel_rfl) (by
  intro p hp;simp only[List.mem_cons,List.not_mem_nil,or_false] at hp
  rcases hp with rfl | rfl | rfl
  ·exact J1F hL u9
  ·exact JFz hL hB _
  ·exact hk)).mono ?_
 rintro z ⟨zs,rfl,h⟩
 match zs,h with
 | [z0,z1,z2],⟨⟨s,h0,hs⟩,⟨a,h1,ha⟩,⟨l,h2,hl,hb⟩,_⟩=>
   subst h0 h1 h2;refine ⟨⟨s,a,l⟩,?_,hs,hl,ha,hb⟩;rw[J04];rfl
theorem JMJ (hL:LB L B0) (N:Nat):OpenB L (N+1) enc Tryz.prog w 83 fun z=>∃ v:Va,z=(encV v).cells∧v.name.size≤B0∧v.value.size≤B0∧v.start.size≤B0∧v.unit.size≤B0:=by
 obtain ⟨fs,hu,hf⟩:=J16 (J5k 83 _ rfl) rfl
 refine (J17 hL hu [(0,9,1,pS B0),(1,3,1,pI),(2,3,1,pI),(3,9,1,pS B0),(4,9,1,pS B0),(5,4,1,pB),(6,9,1,pS B0)] hf (by
  intro p hp;simp only[List.mem_cons,List.not_mem_nil,or_false] at hp
  rcases hp with rfl | rfl | rfl | rfl | rfl | rfl | rfl<;>kernel_rfl) (by kernel_rfl) (by
  intro p hp;simp only[List.mem_cons,List.not_mem_nil,or_false] at hp
  rcases hp with rfl | rfl | rfl | rfl | rfl | rfl | rfl
  ·exact J1F hL u9
  ·exact J3q u3
  ·exact J3q u3
  ·exact J1F hL u9
  ·exact J1F hL u9
  ·exact JE4 u4
  ·exact J1F hL u9)).mono ?_
 rintro z ⟨zs,rfl,h⟩
 match zs,h with
 | [z0,z1,z2,z3,z4,z5,z6],⟨⟨a,h0,g0⟩,⟨b,h1⟩,⟨c,h2⟩,⟨d,h3,g3⟩,⟨e,h4,g4⟩,⟨f,h5⟩,⟨g,h6,g6⟩,_⟩=>
   subst h0 h1 h2 h3 h4 h5 h6;exact ⟨⟨a,b,c,d,e,f,g⟩,rfl,g0,g3,g4,g6⟩
theorem JMK (hL:LB L B0) (hB:B0≤2^20) (N:Nat):OpenB L (N+5) enc Tryz.prog w 26 fun z=>∃ s:Sys,z=(J0M s).cells∧SzS s:=by
 obtain ⟨fs,hu,hf⟩:=J16 (J5k 26 _ rfl) rfl;have hB':B0<2^21:=by omega
 have k1:=OpenB.low (J1c (n:=7) (f:=encV) hL (J2Z (t:=22) (e:=83) rfl rfl) (by kernel_rfl) (by decide) (JMJ (enc:=enc) (w:=w) hL (N+2))) (N:=N+4) (by omega);have k2:=OpenB.low (J1c (n:=9) (f:=J0J) hL (J2Z (t:=23) (e:=44) rfl rfl) (by kernel_rfl) (by decide) (JML (enc:=enc) (w:=w) hL hB' (N+2))) (N:=N+4) (by omega);have k3:=OpenB.low (J1c (n:=6) (f:=J0Y) hL (J2Z (t:=24) (e:=163) rfl rfl) (by kernel_rfl) (by decide) (JMI (enc:=enc) (w:=w) hL hB' N)) (N:=N+4) (by omega)
 refine (J17 hL hu [(0,22,1,_),(1,23,1,_),(2,23,1,_),(3,24,1,_)] hf (by
  intro p hp;simp only[List.mem_cons,List.not_mem_nil,or_false] at hp
  rcases hp with rfl | rfl | rfl | rfl<;>kernel_rfl) (by kernel_rfl) (by
  intro p hp;simp only[List.mem_cons,List.not_mem_nil,or_false] at hp
  rcases hp with rfl | rfl | rfl | rfl
  ·exact k1
  ·exact k2
  ·exact k2
  ·exact k3)).mono ?_
 rintro z ⟨zs,rfl,h⟩
 match zs,h with
 | [z0,z1,z2,z3],⟨⟨vs,h0,l0,g0⟩,⟨qs,h1,l1,g1⟩,⟨ns,h2,l2,g2⟩,⟨ws,h3,l3,g3⟩,_⟩=>
   subst h0 h1 h2 h3;refine ⟨⟨vs,qs,ns,ws⟩,rfl,⟨by simp only;omega,by simp only;omega,by simp only;omega,by simp only;omega,fun w hw=>?_,fun e he=>?_,fun v hv=>?_,⟨fun q hq=>?_,fun q hq=>?_,fun w hw=>?_⟩,by simp only;omega⟩⟩
   ·have:=(g3 w hw).2.1;omega
   ·unfold allF at he
    rcases List.mem_append.1 he with he | he
    ·rcases List.mem_append.1 he with he | he
     ·unfold J1Q at he;obtain ⟨q,hq,he⟩:=List.mem_flatMap.1 he;simp only[List.mem_cons,List.not_mem_nil,or_false] at he
      rcases he with rfl | rfl
      ·exact (g1 q hq).2.1
      ·exact (g1 q hq).2.2
     ·unfold J1Q at he;obtain ⟨q,hq,he⟩:=List.mem_flatMap.1 he;simp only[List.mem_cons,List.not_mem_nil,or_false] at he
      rcases he with rfl | rfl
      ·exact (g2 q hq).2.1
      ·exact (g2 q hq).2.2
    ·obtain ⟨x,hx,he⟩:=List.mem_flatMap.1 he;unfold J3f at he
     rcases List.mem_cons.1 he with rfl | he
     ·exact (g3 x hx).2.2.1
     ·obtain ⟨a,ha,rfl⟩:=List.mem_map.1 he;exact (g3 x hx).2.2.2 a ha
   ·have:=g0 v hv;exact ⟨by omega,by omega,by omega,by omega⟩
   ·have:=(g1 q hq).1;omega
   ·have:=(g2 q hq).1;omega
   ·have:=(g3 w hw).1;omega
end
structure G where
 eqs:List ByteArray
 uses:List U
 joined:List (List Int)
end Go.Proofs.YtlhdoekgipaihaaGreatDoor
namespace Go.Proofs.YtlhdoekgipaihaaGreatDoor
open Go Go.Fw Go.ChangeShapes Go.WideShapes Go.ChangeAt Go.RowKit
theorem JIb:ownKnob Tryz.prog.godebug=none:=by kernel_rfl
theorem JCq:laidOutB Tryz.prog=true:=by kernel_rfl
section
variable {H:Type}
theorem JNK (d:DataW H):1≤Rows.uptoBulk d:=by
 cases d with
 | lit l=>cases l<;>simp[Rows.uptoBulk]
 | _=>simp[Rows.uptoBulk]
theorem J72 {d:DataW H} {l:List (DataW H)} (h:d∈l):Rows.uptoBulk d≤Rows.uptoBulkAll l:=by
 induction l with
 | nil=>cases h
 | cons x r ih=>
   simp only[Rows.uptoBulkAll]
   cases List.mem_cons.1 h with
   | inl e=>subst e;omega
   | inr e=>have:=ih e;omega
theorem JJW (l:List (DataW H)):l.length≤Rows.uptoBulkAll l:=by
 induction l with
 | nil=>simp[Rows.uptoBulkAll]
 | cons x r ih=>have:=JNK x;simp only[Rows.uptoBulkAll,List.length_cons];omega
abbrev Blk (H:Type):DataW H→Prop:=fun d=>Rows.uptoBulk d≤1048576
theorem JMq:LB (Blk H) 1048576:=by
 refine ⟨fun e s h=>?_,fun p h d hd=>?_,fun s h=>?_⟩
 ·have h:Rows.uptoBulkAll e+Rows.uptoBulkAll s+1≤1048576:=by simpa [Blk,Rows.uptoBulk] using h
  refine ⟨by have:=JJW e;omega,fun d hd=>?_⟩;have:=J72 hd;show Rows.uptoBulk d≤1048576
  omega
 ·have h:Rows.uptoBulkAll p+1≤1048576:=by simpa [Blk,Rows.uptoBulk] using h
  have:=J72 hd;show Rows.uptoBulk d≤1048576
  omega
 ·have h:s.length+1≤1048576:=by simpa [Blk,Rows.uptoBulk] using h
  omega
theorem JFa {l:List (DataW H)} (h:Rows.uptoSmall H l=true):∀ d∈l,Blk H d:=fun d hd=>by
 have h:Rows.uptoBulkAll l≤1048576:=by simpa [Rows.uptoSmall] using h
 exact Nat.le_trans (J72 hd) h
end
section
variable {H:Type} {enc:TypeId×Value→H} {w:World} {L:DataW H→Prop} {N t:Nat} {Ψ:List AV→Prop}
theorem JId (hO:OpenB L N enc Tryz.prog w t Ψ) {fuel:Nat} (hf:fuel≤N) {v:Value} {x:DataW H×List MemPlace} (hv:∃ cs,v=.agg cs) (h:DataW.trod enc Tryz.prog w 0 (fun _=>true) true fuel t v.cells.toList=some x) (hl:L x.1):∃ z,Ψ z∧VR KM.empty w NoN (.agg z) v:=by
 obtain ⟨z,h1,h2⟩:=hO fuel hf _ x h hl;obtain ⟨cs,rfl⟩:=hv;have e:(Value.agg cs).cells.toList=cs.toList:=by simp[Value.cells]
 rw[e] at h1;refine ⟨z,h2,.agg _ cs (h1.len.trans (by simp)) (fun i h h'=>?_) (fun i h=>h1.pl _ (by simp))⟩;have:=h1.rel i h (by simpa using h');rw[Array.getElem_toList] at this;exact this
end
def flatD:Nat→DataW Unit→List Value
 | _,.lit (.int k n)=>[.int k n]
 | n+1,.agg ps=>ps.flatMap (flatD n)
 | _,_=>[]
def putT (d:DataW Unit):Obj→Obj
 | .cells _ t z=>.cells (flatD 3 d).toArray t z
 | o=>o
noncomputable def laidW (os:Os):World:=
 { World.holding Tryz.prog os ⟨#[],#[],[]⟩ with heap:=((World.holding Tryz.prog os ⟨#[],#[],[]⟩).heap.modify 1 (putT Rows.laid_unicode_utf8_first)).modify 2 (putT Rows.laid_unicode_utf8_acceptRanges) }
abbrev laidL:List (String×DataW Unit):=[("unicode/utf8.acceptRanges",Rows.laid_unicode_utf8_acceptRanges),("unicode/utf8.first",Rows.laid_unicode_utf8_first)]
theorem JIp (os:Os) (args:Array Value):laidMet Tryz.prog laidL ((laidW os).forCall (fun _ _=>0) ⟨#[],args,[]⟩).memory:=
 laidMet_of_run' 8 (by kernel_rfl) (by kernel_rfl)
theorem JE5:mapsRowed Tryz.prog=true:=by kernel_rfl
theorem JBU:Tryz.prog.stopsHeard=true:=by kernel_rfl
theorem JG8:Tryz.prog.mayEnter=true:=by kernel_rfl
theorem JBk:(Rows.matchTopsUptoRow.lifted==Tryz.prog.liftsFinal)=true:=by kernel_rfl
theorem JL3:(Tryz.prog.make==some Rows.matchTopsUptoRow.make)=true:=by kernel_rfl
theorem JMP:false=Tryz.pinned.checked.prog.looks []:=by kernel_rfl
theorem JL4:Tryz.pinned.checked.prog.mainIs=some (Rows.matchTopsUptoCard.stood.harness.1,Rows.matchTopsUptoCard.stood.harness.2.toList):=by kernel_rfl
theorem JE0 {n:String} {k:FuncId} {g:Func} {ts:Array TypeId} (h1:Tryz.prog.funcNamed n=some k) (h2:Tryz.prog.funcs[k]?=some g) (h3:g.params=ts) (h4:ts.all (fun t=>!Tryz.prog.wantsStandIn t)=true)
  (f:FuncId) (fn:Func) (hf:Tryz.pinned.checked.prog.funcNamed n=some f) (hfn:Tryz.pinned.checked.prog.funcs[f]?=some fn) :
  false=Tryz.pinned.checked.prog.looks []∧∀ (j:Nat) t,fn.params[j]?=some t→Tryz.pinned.checked.prog.wantsStandIn t=false:=by
 obtain rfl:f=k:=Option.some.inj (hf.symm.trans h1);obtain rfl:fn=g:=Option.some.inj (hfn.symm.trans h2);refine ⟨JMP,fun j t ht=>?_⟩;rw[h3] at ht;have:=Array.all_eq_true'.1 h4 t (Array.mem_of_getElem? ht);have h5:Tryz.pinned.checked.prog.wantsStandIn t=Tryz.prog.wantsStandIn t:=rfl;rw[h5]
 simpa using this
end Go.Proofs.YtlhdoekgipaihaaGreatDoor
