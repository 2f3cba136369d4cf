/- Part 52 of the proof. -/
import Derived.Test.YtlblbldolhiokaaGreatDoorDual51
import Derived.Test.YtlblbldolhiokaaGreatDoorDual46
import Derived.Test.YtlblbldolhiokaaGreatDoorDual50
import Derived.Test.YtlblbldolhiokaaGreatDoorDual48
import Derived.Test.YtlblbldolhiokaaGreatDoorRows
import Derived.Test.YtlblbldolhiokaaGreatDoorCards
import Derived.Test.YtlblbldolhiokaaGreatDoorTie
import Derived.ProofKit
import Derived.OpenShut
import Derived.Deep.DeepHandedRow
set_option linter.unusedVariables false
set_option linter.unusedSimpArgs false
set_option linter.unusedSectionVars false
set_option maxRecDepth 100000
set_option exponentiation.threshold 400
set_option maxHeartbeats 8000000
namespace Go.Proofs.YtlblbldolhiokaaGreatDoor
open Go Go.Fw
def bX:ByteArray:=⟨#[120]⟩
def bY:ByteArray:=⟨#[121]⟩
def nV (n:ByteArray):Va:=⟨n,0,0,⟨#[]⟩,⟨#[]⟩,false,⟨#[]⟩⟩
def s3:Sys:=⟨[nV bX,nV bY],[],[],[]⟩
def uX:U:=⟨bX,0,false⟩
def uY:U:=⟨bY,0,false⟩
def xy3:Ex:=opE oMul [refE bX 0,refE bY 0]
def xx3:Ex:=opE oMul [refE bX 0,refE bX 0]
theorem szS3:SzS s3:=by
 refine ⟨by decide,by decide,by decide,by decide,by simp[s3],?_,?_,?_,by decide⟩
 ·intro e he;simp only[s3,allF,J1e,List.flatMap_nil,List.append_nil,List.not_mem_nil] at he
 ·intro v hv;simp only[s3,List.mem_cons,List.not_mem_nil,or_false] at hv
  rcases hv with rfl|rfl<;>decide
 ·exact ⟨by simp[s3],by simp[s3],by simp[s3]⟩
theorem J8y (t:ByteArray)(h:t.size≤100):GdE (refE t 0):=J8z (by decide) h (by decide) (by simp)
theorem gxy3:GdE xy3:=J8k (by decide) (by decide) (by simp only[List.forall_mem_cons,List.not_mem_nil,false_imp_iff,implies_true,and_true];exact ⟨J8y _ (by decide),J8y _ (by decide)⟩)
theorem JMN:PX 63 [J0Q s3,encE xy3,J2M [uX,uY]] (encI 0):=by
 have:=J1v s3 szS3 xy3 gxy3.1 gxy3.2 [uX,uY] (by decide) (by simp only[List.forall_mem_cons,List.not_mem_nil,false_imp_iff,implies_true,and_true];decide);rw[show numF s3 xy3 [uX,uY]=0 by kernel_rfl] at this;exact this
theorem n_y:PX 63 [J0Q s3,encE xy3,J2M [uY]] (encI 0):=by
 have:=J1v s3 szS3 xy3 gxy3.1 gxy3.2 [uY] (by decide) (by simp only[List.forall_mem_cons,List.not_mem_nil,false_imp_iff,implies_true,and_true];decide);rw[show numF s3 xy3 [uY]=0 by kernel_rfl] at this;exact this
def sm3:Ex:=opE oAdd [opE oMul [numE ⟨#[50]⟩,refE bX 0],opE oSub [refE bY 0,numE ⟨#[51]⟩]]
theorem two3 {o:ByteArray}{a b:Ex}(ho:o.size≤8)(ha:GdE a)(hb:GdE b):GdE (opE o [a,b]):=J8k ho (by show 2≤100;decide) (by simp only[List.forall_mem_cons,List.not_mem_nil,false_imp_iff,implies_true,and_true];exact ⟨ha,hb⟩)
theorem JKL (t:ByteArray)(h:t.size≤100):GdE (numE t):=J8z (by decide) h (by decide) (by simp)
theorem gsm3:GdE sm3:=two3 (by decide) (two3 (by decide) (JKL _ (by decide)) (J8y _ (by decide))) (two3 (by decide) (J8y _ (by decide)) (JKL _ (by decide)))
theorem gxx3:GdE xx3:=two3 (by decide) (J8y _ (by decide)) (J8y _ (by decide))
theorem JMP:PX 63 [J0Q s3,encE sm3,J2M [uX,uY]] (encI 0):=by
 have:=J1v s3 szS3 sm3 gsm3.1 gsm3.2 [uX,uY] (by decide) (by simp only[List.forall_mem_cons,List.not_mem_nil,false_imp_iff,implies_true,and_true];decide);rw[show numF s3 sm3 [uX,uY]=0 by kernel_rfl] at this;exact this
theorem JMO:PX 63 [J0Q s3,encE xx3,J2M []] (encI 0):=by
 have:=J1v s3 szS3 xx3 gxx3.1 gxx3.2 [] (by decide) (by simp);rw[show numF s3 xx3 []=0 by kernel_rfl] at this;exact this
def tab3:Tab:=[(63,[J0Q s3,encE xy3,J2M [uX,uY]],encI 0),(63,[J0Q s3,encE xy3,J2M [uY]],encI 0),(63,[J0Q s3,encE sm3,J2M [uX,uY]],encI 0),(63,[J0Q s3,encE xx3,J2M []],encI 0)]
theorem JAE:TabOk XR.E.P tab3:=by
 refine ⟨?_⟩;unfold tab3;simp only[List.forall_mem_cons,List.not_mem_nil,false_imp_iff,implies_true,and_true];exact ⟨⟨c63,JMN,rfl⟩,⟨c63,n_y,rfl⟩,⟨c63,JMP,rfl⟩,⟨c63,JMO,rfl⟩⟩
theorem zlk {n:Int}(h:Nat.blt (zl n) (2 ^ 36)=true):zl n<2 ^ 36:=Nat.le_of_ble_eq_true h
theorem JJu:zl 1<2 ^ 36:=zlk (by kernel_rfl)
theorem p_3 (c:UInt8)(n:Int)(h:J08 [c]=(some (n,1),true)):PX 134 [encS ⟨#[c]⟩] (.tup [encQ n 1,encB true]):=by
 have:=J1R [c] (Nat.lt_of_le_of_lt (Nat.le_refl 1) (by decide));rw[h] at this;exact this
theorem JKs (n:Int)(hn:zl n<2 ^ 36)(b:List Nat)(h:qT n 1=b):PX 150 [encQ n 1] (encT b):=by
 have:=J31 n 1 hn JJu;rw[h] at this;exact this
theorem JKt (n:Int)(hn:zl n<2 ^ 36)(h:(decide (nd n≤300)&&decide (nd 1≤300))=true):PX 151 [encQ n 1] (encB true):=by
 have:=J3s n 1 hn JJu;rw[h] at this;exact this
def env3:EnvA:=⟨⟨#[48]⟩,false,[]⟩
theorem JMM:PX 67 [J1V env3] (.tup [J0p ⟨0,false,[]⟩,encI 0]):=by
 have:=JCB env3 ⟨by decide,by simp[env3],by simp[env3]⟩;rw[show JKU (openS env3)=.tup [J0p ⟨0,false,[]⟩,encI 0] by kernel_rfl] at this;exact this
def JK3:Tab:=[(67,[J1V env3],.tup [J0p ⟨0,false,[]⟩,encI 0]),(134,[encS ⟨#[48]⟩],.tup [encQ 0 1,encB true]),(134,[encS ⟨#[50]⟩],.tup [encQ 2 1,encB true]),(134,[encS ⟨#[51]⟩],.tup [encQ 3 1,encB true]),
 (150,[encQ 2 1],encT [50]),(150,[encQ 1 1],encT [49]),(150,[encQ (-3) 1],encT [45,51]),
 (151,[encQ 2 1],encB true),(151,[encQ 1 1],encB true),(151,[encQ (-3) 1],encB true)]
theorem J7S:TabOk2 XR.E.P JK3:=by
 refine ⟨?_⟩;unfold JK3;simp only[List.forall_mem_cons,List.not_mem_nil,false_imp_iff,implies_true,and_true]
 exact ⟨⟨c67,JMM⟩,⟨c134,p_3 48 0 (by kernel_rfl)⟩,⟨c134,p_3 50 2 (by kernel_rfl)⟩,⟨c134,p_3 51 3 (by kernel_rfl)⟩,
  ⟨c150,JKs 2 (zlk (by kernel_rfl)) _ (by kernel_rfl)⟩,⟨c150,JKs 1 (zlk (by kernel_rfl)) _ (by kernel_rfl)⟩,⟨c150,JKs (-3) (zlk (by kernel_rfl)) _ (by kernel_rfl)⟩,
  ⟨c151,JKt 2 (zlk (by kernel_rfl)) (by kernel_rfl)⟩,⟨c151,JKt 1 (zlk (by kernel_rfl)) (by kernel_rfl)⟩,⟨c151,JKt (-3) (zlk (by kernel_rfl)) (by kernel_rfl)⟩⟩
theorem il1:PX 17 [J0Q s3,encE xy3,J2M [uX,uY]] (.tup [encB false,encI 0]):=J3A J9i JAE J7S (fuel:=300) (n:=60) (by kernel_rfl)
theorem il2:PX 17 [J0Q s3,encE xy3,J2M [uY]] (.tup [encB true,encI 0]):=J3A J9i JAE J7S (fuel:=300) (n:=60) (by kernel_rfl)
theorem row1:PX 19 [J0Q s3,encE sm3,J2M [uX,uY],J1V env3] (.tup [.sl 1 [encS ⟨#[50]⟩,encS ⟨#[49]⟩],encS ⟨#[45,51]⟩,encI 0]):=J3A J9i JAE J7S (fuel:=300) (n:=60) (by kernel_rfl)
def wt3:Ex:=opE oAdd [opE oMul [refE bX 1,refE bX 0],opE oMul [refE bX 0,refE bX 1]]
theorem dr1:PX 23 [J0Q s3,encE xx3] (.tup [encE wt3,encI 0]):=by
 have:=J9x s3 szS3 xx3 gxx3;rw[show J1T s3 xx3=(wt3,0) by kernel_rfl] at this;exact this
theorem tx1:PX 21 [.sl 1 [encS ⟨#[50]⟩,encS ⟨#[49]⟩],.sl 1 [encS ⟨#[50]⟩,encS ⟨#[49]⟩]] (encB true):=J2S J9i (fuel:=50) (n:=5) (by kernel_rfl)
theorem JBc (s:ByteArray):PX 61 [encS s] (encE (numE s)):=by
 refine J1m (r:=.agg [encS ⟨#[110,117,109]⟩,encS s,encI 0,.val (.slice none 0 0)]) ?_ 3 ?_
 ·refine PZ Tryz.func61 rfl ?_;refine kWQ ?_;intros;exact .of rfl
 ·rw[J01];simp[leN,allB,valB,encS,encI,numE,oNum,oVar,Ex.op,Ex.text,Ex.order,Ex.kids]
theorem J1I (s:ByteArray)(n:Int):PX 62 [encS s,encI n] (encE (refE s n)):=by
 refine J1m (r:=.agg [encS ⟨#[118,97,114]⟩,encS s,encI n,.val (.slice none 0 0)]) ?_ 3 ?_
 ·refine PZ Tryz.func62 rfl ?_;refine kWQ ?_;intros;exact .of rfl
 ·rw[J01];simp[leN,allB,valB,encS,encI,refE,oNum,oVar,Ex.op,Ex.text,Ex.order,Ex.kids]
theorem J2X (o:ByteArray)(l:List Ex):PX 24 [encS o,.sl 4 (l.map encE)] (.agg [encS o,encS ⟨#[]⟩,encI 0,.sl 4 (l.map encE)]):=by
 refine PZ Tryz.func24 rfl ?_;refine kWQ ?_;intros;exact .of rfl
theorem J8V {S:List Nat}{H:Hp}{n b g off len:Nat}{B:Blk}(hS:b∈S)(hb:H b=some (g,B))(hl:off+len≤B.xs.length):J05 S H (n+1) (.own b g off len)=.sl B.n (((B.xs.drop off).take len).map (J0N (J05 S H n))):=by
 simp only[J05,if_pos hS,hb,true_and,if_pos hl]
abbrev sN:AV:=.agg [.sl 7 [encV (nV bX),encV (nV bY)],.val (.slice none 0 0),.val (.slice none 0 0),.val (.slice none 0 0)]
theorem JJ4:Le sN (J0Q s3):=by
 have h:=Le.cons (Le.refl (AV.sl 7 [encV (nV bX),encV (nV bY)])) (Le.cons (Le.nil 9) (Le.cons (Le.nil 9) (Le.cons (Le.nil 6) J6H)));exact Le.agg h.1 h.2
theorem row2:PX 19 [sN,encE sm3,J2M [uX,uY],.agg [encS ⟨#[48]⟩,encB false,.val (.slice none 0 0)]] (.tup [.sl 1 [encS ⟨#[50]⟩,encS ⟨#[49]⟩],encS ⟨#[45,51]⟩,encI 0]):=by
 refine J7f row1 ⟨rfl,fun i h h'=>?_⟩
 match i,h with
 |0,_=>exact JJ4
 |1,_=>exact Le.refl _
 |2,_=>exact Le.refl _
 |3,_=>
   have h:=Le.cons (Le.refl (encS ⟨#[48]⟩)) (Le.cons (Le.refl (encB false)) (Le.cons (Le.nil 4) J6H));exact Le.agg h.1 h.2
theorem JKH {f:Nat}{b c r:AV}(h:PX f [J0Q s3,b,c] r):PX f [sN,b,c] r:=by
 refine J7f h ⟨rfl,fun i h h'=>?_⟩
 match i,h with
 |0,_=>exact JJ4
 |1,_=>exact Le.refl _
 |2,_=>exact Le.refl _
theorem JL5 {f:Nat}{b r:AV}(h:PX f [J0Q s3,b] r):PX f [sN,b] r:=by
 refine J7f h ⟨rfl,fun i h h'=>?_⟩
 match i,h with
 |0,_=>exact JJ4
 |1,_=>exact Le.refl _
theorem gwt3:GdE wt3:=two3 (by decide) (two3 (by decide) (J8z (by decide) (by decide) (by decide) (by simp)) (J8y _ (by decide))) (two3 (by decide) (J8y _ (by decide)) (J8z (by decide) (by decide) (by decide) (by simp)))
theorem JDH:PX 16 [] (encB true):=by
 refine PZ Tryz.func16 rfl ?_;refine kX ?_;(refine kZ ?_;repeat intro γ);refine J0r ?_;refine kX ?_;(refine kZ ?_;repeat intro γ);refine J0r ?_;refine kX ?_;(refine kZ ?_;repeat intro γ)
 rename Nat=>γ1
 refine J0e (JLF [17] 1 γ1 _ rfl (by decide) (W.of (l:=[(0,encB false),(1,.op 1 γ1 0 0)]) (m:=[(1,γ1,⟨26,4,[sN]⟩)]) ?_ ⟨rfl,rfl,trivial⟩ ⟨?_,trivial⟩))
 rotate_left
 ·refine congrArg (fun z=>some (γ1,(⟨26,4,[.agg [z,.val (.slice none 0 0),.val (.slice none 0 0),.val (.slice none 0 0)]]⟩:Blk))) ?_;exact (J8V (B:=⟨89,7,[encV (nV bX),encV (nV bY)]⟩) (by decide) rfl (by decide)).trans rfl
 refine kX ?_;(refine kZ ?_;repeat intro γ);refine J0e (JHh 2 21 (y:=J2M [uX,uY]) rfl ?_ (W.of (l:=[(0,encB false),(1,.op 1 γ1 0 0),(2,J2M [uX,uY])]) (m:=[(1,γ1,⟨26,4,[sN]⟩)]) ?_ ⟨rfl,rfl,rfl,trivial⟩ ⟨rfl,trivial⟩))
 ·exact (J8V (B:=⟨54,3,[encU uX,encU uY]⟩) (by decide) rfl (by decide)).trans rfl
 refine kX ?_;(refine kZ ?_;repeat intro γ);refine J0r ?_;refine kX ?_;(refine kZ ?_;repeat intro γ);refine CallG.intro _ c61 (by have:=JBc ⟨#[50]⟩;rw[J01] at this;exact this) ?_;refine kX ?_;(refine kZ ?_;repeat intro γ);refine CallG.intro _ c62 (by have:=J1I bX 0;rw[J01] at this;exact this) ?_;refine kX ?_;(refine kZ ?_;repeat intro γ);refine J0V (b:=27) _ c24 rfl rfl (Nat.succ_pos 3) (J04 (congrArg (fun z=>[encS oMul,z]) (J1t (out:=[numE ⟨#[50]⟩,refE bX 0]) (by simp only[List.map_cons,List.map_nil,J01,opE,refE,numE,Ex.op,Ex.text,Ex.order,Ex.kids];rfl) rfl)) (J2X oMul [numE ⟨#[50]⟩,refE bX 0])) ?_;refine kX ?_;(refine kZ ?_;repeat intro γ);refine CallG.intro _ c62 (by have:=J1I bY 0;rw[J01] at this;exact this) ?_;refine kX ?_;(refine kZ ?_;repeat intro γ);refine CallG.intro _ c61 (by have:=JBc ⟨#[51]⟩;rw[J01] at this;exact this) ?_;refine kX ?_;(refine kZ ?_;repeat intro γ);refine J0V (b:=31) _ c24 rfl rfl (Nat.succ_pos 3) (J04 (congrArg (fun z=>[encS oSub,z]) (J1t (out:=[refE bY 0,numE ⟨#[51]⟩]) (by simp only[List.map_cons,List.map_nil,J01,opE,refE,numE,Ex.op,Ex.text,Ex.order,Ex.kids];rfl) rfl)) (J2X oSub [refE bY 0,numE ⟨#[51]⟩])) ?_;refine kX ?_;(refine kZ ?_;repeat intro γ);refine J0V (b:=33) _ c24 rfl rfl (Nat.succ_pos 3) (J04 (congrArg (fun z=>[encS oAdd,z]) (J1t (out:=[opE oMul [numE ⟨#[50]⟩,refE bX 0],opE oSub [refE bY 0,numE ⟨#[51]⟩]]) (by simp only[List.map_cons,List.map_nil,J01,opE,refE,numE,Ex.op,Ex.text,Ex.order,Ex.kids];rfl) rfl)) (J2X oAdd [opE oMul [numE ⟨#[50]⟩,refE bX 0],opE oSub [refE bY 0,numE ⟨#[51]⟩]])) ?_;refine kX ?_;(refine kZ ?_;repeat intro γ);refine CallG.intro _ c19 (by have:=row2;simp only[sm3,xx3,xy3,wt3,J01,opE,refE,numE,Ex.op,Ex.text,Ex.order,Ex.kids,List.map_cons,List.map_nil] at this;exact this) ?_;refine kX ?_;(refine kZ ?_;repeat intro γ);refine J0r ?_;refine kX ?_;(refine kZ ?_;repeat intro γ);refine J00 [] _ c62 (by have:=J1I bX 0;rw[J01] at this;exact this) ?_;refine kX ?_;(refine kZ ?_;repeat intro γ);refine J00 [] _ c62 (by have:=J1I bY 0;rw[J01] at this;exact this) ?_;refine kX ?_;(refine kZ ?_;repeat intro γ);refine J00 [43] _ c24 (J04 (congrArg (fun z=>[encS oMul,z]) (J1t (out:=[refE bX 0,refE bY 0]) (by simp only[List.map_cons,List.map_nil,J01,opE,refE,numE,Ex.op,Ex.text,Ex.order,Ex.kids];rfl) rfl)) (J2X oMul [refE bX 0,refE bY 0])) ?_;refine kX ?_;(refine kZ ?_;repeat intro γ);refine J0r ?_;refine kX ?_;(refine kZ ?_;repeat intro γ);refine J00 [] _ c17 (by have:=JKH il1;simp only[sm3,xx3,xy3,wt3,J01,opE,refE,numE,Ex.op,Ex.text,Ex.order,Ex.kids,List.map_cons,List.map_nil] at this;exact this) ?_;refine kX ?_;(refine kZ ?_;repeat intro γ);refine J0r ?_;refine kX ?_;(refine kZ ?_;repeat intro γ);refine CallG.intro _ c17 (by have:=JKH il2;simp only[sm3,xx3,xy3,wt3,J01,opE,refE,numE,Ex.op,Ex.text,Ex.order,Ex.kids,List.map_cons,List.map_nil] at this;exact this) ?_;refine kX ?_;(refine kZ ?_;repeat intro γ);refine J0r ?_;refine kX ?_;(refine kZ ?_;repeat intro γ);refine CallG.intro _ c62 (by have:=J1I bX 0;rw[J01] at this;exact this) ?_;refine kX ?_;(refine kZ ?_;repeat intro γ);refine CallG.intro _ c62 (by have:=J1I bX 0;rw[J01] at this;exact this) ?_;refine kX ?_;(refine kZ ?_;repeat intro γ);refine J0V (b:=64) _ c24 rfl rfl (Nat.succ_pos 3) (J04 (congrArg (fun z=>[encS oMul,z]) (J1t (out:=[refE bX 0,refE bX 0]) (by simp only[List.map_cons,List.map_nil,J01,opE,refE,numE,Ex.op,Ex.text,Ex.order,Ex.kids];rfl) rfl)) (J2X oMul [refE bX 0,refE bX 0])) ?_;refine kX ?_;(refine kZ ?_;repeat intro γ);refine CallG.intro _ c23 (by have:=JL5 dr1;simp only[sm3,xx3,xy3,wt3,J01,opE,refE,numE,Ex.op,Ex.text,Ex.order,Ex.kids,List.map_cons,List.map_nil] at this;exact this) ?_;refine kX ?_;(refine kZ ?_;repeat intro γ);refine J0r ?_;refine kX ?_;(refine kZ ?_;repeat intro γ);refine J00 [] _ c62 (by have:=J1I bX 1;rw[J01] at this;exact this) ?_;refine kX ?_;(refine kZ ?_;repeat intro γ);refine J00 [] _ c62 (by have:=J1I bX 0;rw[J01] at this;exact this) ?_;refine kX ?_;(refine kZ ?_;repeat intro γ);refine J00 [71] _ c24 (J04 (congrArg (fun z=>[encS oMul,z]) (J1t (out:=[refE bX 1,refE bX 0]) (by simp only[List.map_cons,List.map_nil,J01,opE,refE,numE,Ex.op,Ex.text,Ex.order,Ex.kids];rfl) rfl)) (J2X oMul [refE bX 1,refE bX 0])) ?_;refine kX ?_;(refine kZ ?_;repeat intro γ);refine J00 [] _ c62 (by have:=J1I bX 0;rw[J01] at this;exact this) ?_;refine kX ?_;(refine kZ ?_;repeat intro γ);refine J00 [] _ c62 (by have:=J1I bX 1;rw[J01] at this;exact this) ?_;refine kX ?_;(refine kZ ?_;repeat intro γ);refine J00 [75] _ c24 (J04 (congrArg (fun z=>[encS oMul,z]) (J1t (out:=[refE bX 0,refE bX 1]) (by simp only[List.map_cons,List.map_nil,J01,opE,refE,numE,Ex.op,Ex.text,Ex.order,Ex.kids];rfl) rfl)) (J2X oMul [refE bX 0,refE bX 1])) ?_;refine kX ?_;(refine kZ ?_;repeat intro γ);refine J00 [77] _ c24 (J04 (congrArg (fun z=>[encS oAdd,z]) (J1t (out:=[opE oMul [refE bX 1,refE bX 0],opE oMul [refE bX 0,refE bX 1]]) (by simp only[List.map_cons,List.map_nil,J01,opE,refE,numE,Ex.op,Ex.text,Ex.order,Ex.kids];rfl) rfl)) (J2X oAdd [opE oMul [refE bX 1,refE bX 0],opE oMul [refE bX 0,refE bX 1]])) ?_;refine kX ?_;(refine kZ ?_;repeat intro γ);refine J0r ?_;refine kX ?_;(refine kZ ?_;repeat intro γ);refine CallP.flat [80] _ c21 (J04 ?_ tx1) rfl ?_
 ·show [_,snap [80] _ (.own 80 _ 0 2)]=_
  rw[J2q (B:=⟨9,1,[encS ⟨#[50]⟩,encS ⟨#[49]⟩]⟩) (by decide) rfl (by decide)];rfl
 refine kX ?_;(refine kZ ?_;repeat intro γ);refine CallP.flat [] _ c25 (by have:=JHj wt3 gwt3.1;simp only[sm3,xx3,xy3,wt3,J01,opE,refE,numE,Ex.op,Ex.text,Ex.order,Ex.kids,List.map_cons,List.map_nil] at this;exact this) rfl ?_;refine kX ?_;(refine kZ ?_;repeat intro γ);exact .of rfl
theorem JD3 {s:Sys}{x:Ex}{env:EnvA}(h:(J1T s x).2=0) :
  (dualF (fun y=>evalS s y env) (J0o (knownF s.vars)) x).2.2=false∨(evalS s (J1T s x).1 env).2=2∨evalS s (J1T s x).1 env=((dualF (fun y=>evalS s y env) (J0o (knownF s.vars)) x).2.1,0):=by
 obtain ⟨hc,hb,ht,hh,hy⟩:=J72 h
 cases hD:(dualF (fun y=>evalS s y env) (J0o (knownF s.vars)) x).2.2 with
 |false=>exact .inl rfl
 |true=>
   right
   have h0:(evalS s x env).2=0:=by
    refine Decidable.byContradiction fun k=>?_
    cases x with
    |mk o t n es=>
      rw[J4q] at hD;unfold JD4 at hD;rw[if_pos k] at hD;cases hD
   cases ho:openS env with
   |error c=>
     exfalso;unfold evalS at h0;split at h0
     ·rename_i k;exact k h0
     ·rw[ho] at h0;have h0:c=0:=h0
      rcases J8i ho with rfl|rfl<;>cases h0
   |ok ev=>
     obtain ⟨q,d,r1,r2,r3,r4,r5,r6⟩:=JHI hc ho x hb ht hh hD;obtain ⟨q1,q2⟩:=J9L (ksOk hc) x hb ht hh;rw[hy]
     cases htl:tooF (derF (knownF s.vars) x) with
     |true=>
       left;have hT:typeS s (derF (knownF s.vars) x)=(0,2):=by unfold typeS;rw[if_neg (fun k=>k hc),htl,if_pos rfl]
       unfold evalS;rw[hT,if_pos (by decide)]
     |false=>
       right;rw[r6];have hT:typeS s (derF (knownF s.vars) x)=(0,0):=by unfold typeS;rw[if_neg (fun k=>k hc),htl,if_neg (by decide),q1,if_neg (by decide),q2,if_pos rfl]
       unfold evalS;rw[hT,if_neg (by decide),ho];simp only;rw[r4];unfold outV;simp only;rw[if_pos r2]
theorem JHF (s:Sys)(y:Ex)(env:EnvA):(evalS s y env).1.size<2^35:=by
 unfold evalS;split
 ·show ByteArray.size ⟨#[]⟩<_;decide
 ·split
  ·show ByteArray.size ⟨#[]⟩<_;decide
  ·rename_i ev _
   cases evalF (knownF s.vars) ev y with
   |error c=>show ByteArray.size ⟨#[]⟩<_;decide
   |ok w=>
     unfold outV;simp only;split
     ·rename_i h
      cases w with
      |num q=>exact (JE3 h).2
      |tr b=>cases b<;>decide
     ·show ByteArray.size ⟨#[]⟩<_;decide
def great3 (s:Sys)(e:EnvA):Bool:=greatS s||(decide (300<e.binds.length)&&decide (e.binds.length≤1000))
theorem JG5 (s:Sys)(hs:SzS s)(e:EnvA)(hl:e.binds.length≤2^40):PX 15 [J0Q s,.val (.slice none 0 0),J1V e] (encB (great3 s e)):=by
 refine PZ Tryz.func15 rfl ?_;have hg:=JG6 s hs hs.v20;have hF:(greatS s||(decide (300<e.binds.length)&&decide (e.binds.length≤1000)))=great3 s e:=rfl;generalize great3 s e=F at *;generalize greatS s=gr at *;obtain ⟨vs,qs,ns,ws⟩:=s;obtain ⟨tm,ini,bs⟩:=e;simp only at hl hF;unfold J0Q J1V at *;have hml:=@List.length_map _ _ bs J9A;refine kWQ ?_;intros;refine CallP.flat [] _ c22 hg rfl ?_
 cases gr with
 |true=>
   refine kWQ ?_;intros;exact .of (by rw[← hF];rfl)
 |false=>
   rcases Nat.lt_or_ge 300 bs.length with h1|h1
   ·rw[decide_eq_true h1] at hF;refine kWQ ?_;intros;refine .of ?_;rw[← hF];show encB (decide ((bs.length:Int)≤1000))=encB (decide (bs.length≤1000))
    congr 1
    exact decide_eq_decide.2 (by omega)
   ·rw[decide_eq_false (by omega:¬ 300<bs.length)] at hF;refine kWQ ?_;intros;exact .of (by rw[← hF];rfl)
theorem JB1 (ha:PX 16 [] (encB true))(s:Sys)(hs:SzS s)(x:Ex)(gx:GdE x)(env:EnvA)(he:SzB env):PX 8 [J0Q s,encE x,J1V env] (encB true):=by
 refine PZ Tryz.func8 rfl ?_;have hg:=JG5 s hs env (Nat.le_trans he.l (by decide));have h1:=J9x s hs x gx;have hgd:=JFB (knownF s.vars) x gx;have hE:=fun y (g:GdE y)=>JHl s y env hs g.1 g.2 he;have hlaw:=@JD3 s x env;have hdok:=@J72 s x;have hsz:=fun y=>JHF s y env;generalize great3 s env=gr at *;obtain ⟨vs,qs,ns,ws⟩:=s;obtain ⟨tm,ini,bs⟩:=env;have hdual:=fun hc=>JJP vs qs ns ws hs hc tm ini bs (EV:=fun y=>evalS ⟨vs,qs,ns,ws⟩ y ⟨tm,ini,bs⟩) hsz (fun y z1 z2=>hE y ⟨z1,z2⟩) x gx.1 gx.2;obtain ⟨⟨y,c⟩,hyc⟩:∃ r,J1T ⟨vs,qs,ns,ws⟩ x=r:=⟨_,rfl⟩;rw[hyc] at h1 hlaw hdok;simp only at h1 hlaw hdok hgd;unfold J0Q J1V JKT at *;unfold JJL at hdual;simp only at hg h1 hE hdual;clear hs he hsz
 by_cases k1:c=0
 case' neg=>
  clear hdual hE hlaw;rw[J01] at h1 ⊢;rw[J01] at h1;refine kWQ ?_;intros;refine CallP.flat [] _ c15 hg rfl ?_
  cases gr with
  |true=>
    refine kWQ ?_;intros;refine CallP.flat [] _ c16 ha rfl ?_;refine kWQ ?_;intros;exact .of rfl
  |false=>
    refine kWQ ?_;intros;refine J00 [] _ c23 h1 ?_;refine kWQ ?_;intros;refine CallP.flat [] _ c16 ha rfl ?_;refine kWQ ?_;intros;exact .of rfl
 obtain ⟨hc,hb,ht,_,hy⟩:=hdok k1;replace hlaw:=hlaw k1;have hdual:=hdual hc hb (by rw[ht]) (by rw[ht];decide);have hE:=hE y (by rw[hy];exact hgd);generalize dualF (fun y=>evalS ⟨vs,qs,ns,ws⟩ y ⟨tm,ini,bs⟩) (J0o (knownF vs)) x=D at *;generalize evalS ⟨vs,qs,ns,ws⟩ y ⟨tm,ini,bs⟩=V at *;obtain ⟨d1,d2,d3⟩:=D;obtain ⟨v1,v2⟩:=V;simp only at hdual hE hlaw;clear hdok hgd hb ht hy hyc hc;subst k1;rw[J01] at h1 hdual ⊢;rw[J01] at h1 hE;refine kWQ ?_;intros;refine CallP.flat [] _ c15 hg rfl ?_
 cases gr with
 |true=>
   refine kWQ ?_;intros;refine CallP.flat [] _ c16 ha rfl ?_;refine kWQ ?_;intros;exact .of rfl
 |false=>
 refine kWQ ?_;intros;refine J00 [] _ c23 h1 ?_;refine kWQ ?_;intros;refine J00 [] _ c37 hdual ?_;refine kWQ ?_;intros;refine J00 [] _ c38 hE ?_
 rcases hlaw with rfl|rfl|hlaw
 ·refine kWQ ?_;intros;refine CallP.flat [] _ c16 ha rfl ?_;refine kWQ ?_;intros;exact .of rfl
 ·cases d3
  all_goals
   refine kWQ ?_;intros;refine CallP.flat [] _ c16 ha rfl ?_;refine kWQ ?_;intros;exact .of rfl
 ·cases hlaw;cases d3
  all_goals
   refine kWQ ?_;intros
   (repeat (simp only[beq_self_eq_true,decide_true];refine kQ ?_;intros))
   refine CallP.flat [] _ c16 ha rfl ?_;refine kWQ ?_;intros;exact .of rfl
theorem OpenB.low {H:Type}{L:DataW H→Prop}{N M:Nat}{enc:TypeId×Value→H}{P:Program}{w:World}{t:Nat}{Ψ:List AV→Prop}(h:OpenB L M enc P w t Ψ)(hn:N≤M):OpenB L N enc P w t Ψ:=fun fuel hf=>h fuel (Nat.le_trans hf hn)
theorem J1q {t e:Nat}{d:Fw.TD}(hd:T t=some d)(hk:d.kind=.slice e):Tryz.prog.underlying t=some (.slice e):=by
 obtain ⟨u,hu,hr⟩:=(J0W (J4L _ _ hd)).und;rw[hk] at hr;cases u<;>simp[kdOf] at hr
 subst hr;exact hu
theorem u3:Tryz.prog.underlying 3=some (.int .i64):=by kernel_rfl
theorem u4:Tryz.prog.underlying 4=some .bool:=by kernel_rfl
theorem u9:Tryz.prog.underlying 9=some .string:=by kernel_rfl
section
variable {H:Type} {enc:TypeId×Value→H} {w:World} {L:DataW H→Prop} {B0:Nat}
abbrev pS (B0:Nat):List AV→Prop:=fun z=>∃ s:ByteArray,z=[AV.val (.string s)]∧s.size≤B0
abbrev pI:List AV→Prop:=fun z=>∃ n:Int,z=[AV.val (.int .i64 n)]
abbrev pB:List AV→Prop:=fun z=>∃ b:Bool,z=[AV.val (.bool b)]
theorem JL2 (hL:LB L B0)(N:Nat):OpenB L (N+1) enc Tryz.prog w 54 fun z=>∃ u:U,z=(encU u).cells∧u.name.size≤B0:=by
 obtain ⟨fs,hu,hf⟩:=J0O (J4L 54 _ rfl) rfl
 refine (J0X hL hu [(0,9,1,pS B0),(1,3,1,pI),(2,4,1,pB)] hf (by
  intro p hp;simp only[List.mem_cons,List.not_mem_nil,or_false] at hp
  rcases hp with rfl|rfl|rfl<;>kernel_rfl) (by kernel_rfl) (by
  intro p hp;simp only[List.mem_cons,List.not_mem_nil,or_false] at hp
  rcases hp with rfl|rfl|rfl
  ·exact J0c hL u9
  ·exact J2W u3
  ·exact J4C u4)).mono ?_
 rintro z ⟨zs,rfl,h⟩
 match zs,h with
 |[z0,z1,z2],⟨⟨s,h0,hs⟩,⟨n,h1⟩,⟨b,h2⟩,_⟩=>
   subst h0 h1 h2;exact ⟨⟨s,n,b⟩,rfl,hs⟩
def J9v (e:Ex):Prop:=SzE e∧TxE e
abbrev pExp (w:World):List AV→Prop:=fun z=>∃ e:Ex,z=(encE e).cells∧J9v e
theorem JCs (hL:LB L B0)(hB:B0<2^21):∀ N:Nat,OpenB L N enc Tryz.prog w 29 (pExp w)
 |0=>by
   intro fuel hf cs x h _;obtain ⟨fs,hu,_⟩:=J0O (J4L 29 _ rfl) rfl;obtain ⟨_,n,hn,_⟩:=DataW.trod_struct hu h;omega
 |N + 1=>by
   obtain ⟨fs,hu,hf⟩:=J0O (J4L 29 _ rfl) rfl;have hk:=OpenB.low (J1G (n:=4) (f:=encE) (Φ:=J9v) hL (J1q (t:=27) (e:=29) rfl rfl) (by kernel_rfl) (by decide) (JCs hL hB N)) (Nat.le_succ N)
   refine (J0X hL hu [(0,9,1,pS B0),(1,9,1,pS B0),(2,3,1,pI),(3,27,1,_)] hf (by
    intro p hp;simp only[List.mem_cons,List.not_mem_nil,or_false] at hp
    rcases hp with rfl|rfl|rfl|rfl<;>kernel_rfl) (by kernel_rfl) (by
    intro p hp;simp only[List.mem_cons,List.not_mem_nil,or_false] at hp
    rcases hp with rfl|rfl|rfl|rfl
    ·exact J0c hL u9
    ·exact J0c hL u9
    ·exact J2W u3
    ·exact hk)).mono ?_
   rintro z ⟨zs,rfl,h⟩
   match zs,h with
   |[z0,z1,z2,z3],⟨⟨o,h0,ho⟩,⟨t,h1,ht⟩,⟨n,h2⟩,⟨l,h3,hl,hg⟩,_⟩=>
     subst h0 h1 h2 h3;refine ⟨.mk o t n l,?_,SzE.mk (by omega) (by omega) (by omega) fun k hk=>(hg k hk).1,TxE.mk (by omega) fun k hk=>(hg k hk).2⟩;rw[J01];rfl
theorem JKB (hL:LB L B0)(hB:B0<2^21)(N:Nat):OpenB L (N+1) enc Tryz.prog w 58 fun z=>∃ q:Eqn,z=(J0m q).cells∧q.name.size≤B0∧J9v q.left∧J9v q.right:=by
 obtain ⟨fs,hu,hf⟩:=J0O (J4L 58 _ rfl) rfl
 refine (J0X hL hu [(0,9,1,pS B0),(1,29,4,pExp w),(5,29,4,pExp w)] hf (by
  intro p hp;simp only[List.mem_cons,List.not_mem_nil,or_false] at hp
  rcases hp with rfl|rfl|rfl<;>kernel_rfl) (by kernel_rfl) (by
  intro p hp;simp only[List.mem_cons,List.not_mem_nil,or_false] at hp
  rcases hp with rfl|rfl|rfl
  ·exact J0c hL u9
  ·exact JCs hL hB N
  ·exact JCs hL hB N)).mono ?_
 rintro z ⟨zs,rfl,h⟩
 match zs,h with
 |[z0,z1,z2],⟨⟨s,h0,hs⟩,⟨a,h1,ha⟩,⟨b,h2,hb⟩,_⟩=>
   subst h0 h1 h2;refine ⟨⟨s,a,b⟩,?_,hs,ha,hb⟩;rw[J0R,J0R];rfl
theorem JKD (hL:LB L B0)(hB:B0<2^21)(N:Nat):OpenB L (N+1) enc Tryz.prog w 260 fun z=>∃ a:Ac,z=(JF4 a).cells∧J9v a.value:=by
 obtain ⟨fs,hu,hf⟩:=J0O (J4L 260 _ rfl) rfl
 refine (J0X hL hu [(0,3,1,pI),(1,9,1,pS B0),(2,29,4,pExp w)] hf (by
  intro p hp;simp only[List.mem_cons,List.not_mem_nil,or_false] at hp
  rcases hp with rfl|rfl|rfl<;>kernel_rfl) (by kernel_rfl) (by
  intro p hp;simp only[List.mem_cons,List.not_mem_nil,or_false] at hp
  rcases hp with rfl|rfl|rfl
  ·exact J2W u3
  ·exact J0c hL u9
  ·exact JCs hL hB N)).mono ?_
 rintro z ⟨zs,rfl,h⟩
 match zs,h with
 |[z0,z1,z2],⟨⟨n,h0⟩,⟨s,h1,hs⟩,⟨b,h2,hb⟩,_⟩=>
   subst h0 h1 h2;refine ⟨⟨n,s,b⟩,?_,hb⟩;rw[J0R];rfl
theorem JK8 (hL:LB L B0)(hB:B0<2^21)(N:Nat):OpenB L (N+3) enc Tryz.prog w 228 fun z=>∃ a:Whn,z=(J1Q a).cells∧a.name.size≤B0∧a.acts.length≤B0∧J9v a.cond∧∀ x∈a.acts,J9v x.value:=by
 obtain ⟨fs,hu,hf⟩:=J0O (J4L 228 _ rfl) rfl;have hk:=J1G (n:=6) (f:=JF4) (Φ:=fun a=>J9v a.value) hL (J1q (t:=226) (e:=260) rfl rfl) (by kernel_rfl) (by decide) (JKD (enc:=enc) (w:=w) hL hB N)
 refine (J0X hL hu [(0,9,1,pS B0),(1,29,4,pExp w),(5,226,1,_)] hf (by
  intro p hp;simp only[List.mem_cons,List.not_mem_nil,or_false] at hp
  rcases hp with rfl|rfl|rfl<;>kernel_rfl) (by kernel_rfl) (by
  intro p hp;simp only[List.mem_cons,List.not_mem_nil,or_false] at hp
  rcases hp with rfl|rfl|rfl
  ·exact J0c hL u9
  ·exact JCs hL hB _
  ·exact hk)).mono ?_
 rintro z ⟨zs,rfl,h⟩
 match zs,h with
 |[z0,z1,z2],⟨⟨s,h0,hs⟩,⟨a,h1,ha⟩,⟨l,h2,hl,hb⟩,_⟩=>
   subst h0 h1 h2;refine ⟨⟨s,a,l⟩,?_,hs,hl,ha,hb⟩;rw[J0R];rfl
theorem JK9 (hL:LB L B0)(N:Nat):OpenB L (N+1) enc Tryz.prog w 89 fun z=>∃ v:Va,z=(encV v).cells∧v.name.size≤B0∧v.value.size≤B0∧v.start.size≤B0∧v.unit.size≤B0:=by
 obtain ⟨fs,hu,hf⟩:=J0O (J4L 89 _ rfl) rfl
 refine (J0X hL hu [(0,9,1,pS B0),(1,3,1,pI),(2,3,1,pI),(3,9,1,pS B0),(4,9,1,pS B0),(5,4,1,pB),(6,9,1,pS B0)] hf (by
  intro p hp;simp only[List.mem_cons,List.not_mem_nil,or_false] at hp
  rcases hp with rfl|rfl|rfl|rfl|rfl|rfl|rfl<;>kernel_rfl) (by kernel_rfl) (by
  intro p hp;simp only[List.mem_cons,List.not_mem_nil,or_false] at hp
  rcases hp with rfl|rfl|rfl|rfl|rfl|rfl|rfl
  ·exact J0c hL u9
  ·exact J2W u3
  ·exact J2W u3
  ·exact J0c hL u9
  ·exact J0c hL u9
  ·exact J4C u4
  ·exact J0c hL u9)).mono ?_
 rintro z ⟨zs,rfl,h⟩
 match zs,h with
 |[z0,z1,z2,z3,z4,z5,z6],⟨⟨a,h0,g0⟩,⟨b,h1⟩,⟨c,h2⟩,⟨d,h3,g3⟩,⟨e,h4,g4⟩,⟨f,h5⟩,⟨g,h6,g6⟩,_⟩=>
   subst h0 h1 h2 h3 h4 h5 h6;exact ⟨⟨a,b,c,d,e,f,g⟩,rfl,g0,g3,g4,g6⟩
theorem JKA (hL:LB L B0)(hB:B0≤2^20)(N:Nat):OpenB L (N+5) enc Tryz.prog w 26 fun z=>∃ s:Sys,z=(J0Q s).cells∧SzS s:=by
 obtain ⟨fs,hu,hf⟩:=J0O (J4L 26 _ rfl) rfl;have hB':B0<2^21:=by omega
 have k1:=OpenB.low (J1G (n:=7) (f:=encV) hL (J1q (t:=22) (e:=89) rfl rfl) (by kernel_rfl) (by decide) (JK9 (enc:=enc) (w:=w) hL (N+2))) (N:=N+4) (by omega);have k2:=OpenB.low (J1G (n:=9) (f:=J0m) hL (J1q (t:=23) (e:=58) rfl rfl) (by kernel_rfl) (by decide) (JKB (enc:=enc) (w:=w) hL hB' (N+2))) (N:=N+4) (by omega);have k3:=OpenB.low (J1G (n:=6) (f:=J1Q) hL (J1q (t:=24) (e:=228) rfl rfl) (by kernel_rfl) (by decide) (JK8 (enc:=enc) (w:=w) hL hB' N)) (N:=N+4) (by omega)
 refine (J0X hL hu [(0,22,1,_),(1,23,1,_),(2,23,1,_),(3,24,1,_)] hf (by
  intro p hp;simp only[List.mem_cons,List.not_mem_nil,or_false] at hp
  rcases hp with rfl|rfl|rfl|rfl<;>kernel_rfl) (by kernel_rfl) (by
  intro p hp;simp only[List.mem_cons,List.not_mem_nil,or_false] at hp
  rcases hp with rfl|rfl|rfl|rfl
  ·exact k1
  ·exact k2
  ·exact k2
  ·exact k3)).mono ?_
 rintro z ⟨zs,rfl,h⟩
 match zs,h with
 |[z0,z1,z2,z3],⟨⟨vs,h0,l0,g0⟩,⟨qs,h1,l1,g1⟩,⟨ns,h2,l2,g2⟩,⟨ws,h3,l3,g3⟩,_⟩=>
   subst h0 h1 h2 h3;refine ⟨⟨vs,qs,ns,ws⟩,rfl,⟨by simp only;omega,by simp only;omega,by simp only;omega,by simp only;omega,fun w hw=>?_,fun e he=>?_,fun v hv=>?_,⟨fun q hq=>?_,fun q hq=>?_,fun w hw=>?_⟩,by simp only;omega⟩⟩
   ·have:=(g3 w hw).2.1;omega
   ·unfold allF at he
    rcases List.mem_append.1 he with he|he
    ·rcases List.mem_append.1 he with he | he
     ·unfold J1e at he;obtain ⟨q,hq,he⟩:=List.mem_flatMap.1 he;simp only[List.mem_cons,List.not_mem_nil,or_false] at he
      rcases he with rfl|rfl
      ·exact (g1 q hq).2.1
      ·exact (g1 q hq).2.2
     ·unfold J1e at he;obtain ⟨q,hq,he⟩:=List.mem_flatMap.1 he;simp only[List.mem_cons,List.not_mem_nil,or_false] at he
      rcases he with rfl|rfl
      ·exact (g2 q hq).2.1
      ·exact (g2 q hq).2.2
    ·obtain ⟨x,hx,he⟩:=List.mem_flatMap.1 he;unfold J52 at he
     rcases List.mem_cons.1 he with rfl|he
     ·exact (g3 x hx).2.2.1
     ·obtain ⟨a,ha,rfl⟩:=List.mem_map.1 he;exact (g3 x hx).2.2.2 a ha
   ·have:=g0 v hv;exact ⟨by omega,by omega,by omega,by omega⟩
   ·have:=(g1 q hq).1;omega
   ·have:=(g2 q hq).1;omega
   ·have:=(g3 w hw).1;omega
end
theorem JFo (e:Ex):AV.agg (encE e).cells=encE e:=by rw[J0R];rfl
section
variable {H:Type} {enc:TypeId×Value→H} {w:World} {L:DataW H→Prop} {B0:Nat}
theorem JKC (hL:LB L B0)(N:Nat):OpenB L (N+2) enc Tryz.prog w 82 fun z=>∃ b:Bd,z=(J9A b).cells∧b.use.name.size≤B0∧b.value.size≤B0:=by
 obtain ⟨fs,hu,hf⟩:=J0O (J4L 82 _ rfl) rfl
 refine (J0X hL hu [(0,54,3,_),(3,9,1,pS B0)] hf (by
  intro p hp;simp only[List.mem_cons,List.not_mem_nil,or_false] at hp
  rcases hp with rfl|rfl<;>kernel_rfl) (by kernel_rfl) (by
  intro p hp;simp only[List.mem_cons,List.not_mem_nil,or_false] at hp
  rcases hp with rfl|rfl
  ·exact JL2 hL N
  ·exact J0c hL u9)).mono ?_
 rintro z ⟨zs,rfl,h⟩
 match zs,h with
 |[z0,z1],⟨⟨u,h0,hs⟩,⟨v,h1,hv⟩,_⟩=>
   subst h0 h1;exact ⟨⟨u,v⟩,rfl,hs,hv⟩
theorem JIv (hL:LB L B0)(hB:B0≤2^20)(N:Nat):OpenB L (N+4) enc Tryz.prog w 33 fun z=>∃ e:EnvA,z=(J1V e).cells∧SzB e:=by
 obtain ⟨fs,hu,hf⟩:=J0O (J4L 33 _ rfl) rfl;have k:=J1G (n:=4) (f:=J9A) hL (J1q (t:=31) (e:=82) rfl rfl) (by kernel_rfl) (by decide) (JKC (enc:=enc) (w:=w) hL N)
 refine (J0X hL hu [(0,9,1,pS B0),(1,4,1,pB),(2,31,1,_)] hf (by
  intro p hp;simp only[List.mem_cons,List.not_mem_nil,or_false] at hp
  rcases hp with rfl|rfl|rfl<;>kernel_rfl) (by kernel_rfl) (by
  intro p hp;simp only[List.mem_cons,List.not_mem_nil,or_false] at hp
  rcases hp with rfl|rfl|rfl
  ·exact J0c hL u9
  ·exact J4C u4
  ·exact k)).mono ?_
 rintro z ⟨zs,rfl,h⟩
 match zs,h with
 |[z0,z1,z2],⟨⟨t,h0,ht⟩,⟨b,h1⟩,⟨l,h2,hl,hg⟩,_⟩=>
   subst h0 h1 h2
   exact ⟨⟨t,b,l⟩,rfl,by simp only;omega,by simp only;omega,fun x hx=>by
    have:=hg x hx
    constructor<;>omega⟩
end
end Go.Proofs.YtlblbldolhiokaaGreatDoor
namespace Go.Proofs.YtlblbldolhiokaaGreatDoor
open Go Go.Fw Go.ChangeShapes Go.WideShapes Go.ChangeAt Go.RowKit
theorem JGn:ownKnob Tryz.prog.godebug=none:=by kernel_rfl
theorem J4l:laidOutB Tryz.prog=true:=by kernel_rfl
section
variable {H:Type}
theorem JLE (d:DataW H):1≤Rows.uptoBulk d:=by
 cases d with
 |lit l=>cases l<;>simp[Rows.uptoBulk]
 |_=>simp[Rows.uptoBulk]
theorem J6C {d:DataW H}{l:List (DataW H)}(h:d∈l):Rows.uptoBulk d≤Rows.uptoBulkAll l:=by
 induction l with
 |nil=>cases h
 |cons x r ih=>
   simp only[Rows.uptoBulkAll]
   cases List.mem_cons.1 h with
   |inl e=>subst e;omega
   |inr e=>have:=ih e;omega
theorem JHb (l:List (DataW H)):l.length≤Rows.uptoBulkAll l:=by
 induction l with
 |nil=>simp[Rows.uptoBulkAll]
 |cons x r ih=>have:=JLE x;simp only[Rows.uptoBulkAll,List.length_cons];omega
abbrev Blk (H:Type):DataW H→Prop:=fun d=>Rows.uptoBulk d≤1048576
theorem JFk:LB (Blk H) 1048576:=by
 refine ⟨fun e s h=>?_,fun p h d hd=>?_,fun s h=>?_⟩
 ·have h:Rows.uptoBulkAll e+Rows.uptoBulkAll s+1≤1048576:=by simpa [Blk,Rows.uptoBulk] using h
  refine ⟨by have:=JHb e;omega,fun d hd=>?_⟩;have:=J6C hd;show Rows.uptoBulk d≤1048576
  omega
 ·have h:Rows.uptoBulkAll p+1≤1048576:=by simpa [Blk,Rows.uptoBulk] using h
  have:=J6C hd;show Rows.uptoBulk d≤1048576
  omega
 ·have h:s.length+1≤1048576:=by simpa [Blk,Rows.uptoBulk] using h
  omega
theorem JE8 {l:List (DataW H)}(h:Rows.uptoSmall H l=true):∀ d∈l,Blk H d:=fun d hd=>by
 have h:Rows.uptoBulkAll l≤1048576:=by simpa [Rows.uptoSmall] using h
 exact Nat.le_trans (J6C hd) h
end
section
variable {H:Type} {enc:TypeId×Value→H} {w:World} {L:DataW H→Prop} {N t:Nat} {Ψ:List AV→Prop}
theorem J7h (hO:OpenB L N enc Tryz.prog w t Ψ){fuel:Nat}(hf:fuel≤N){v:Value}{x:DataW H×List MemPlace}(hv:∃ cs,v=.agg cs)(h:DataW.trod enc Tryz.prog w 0 (fun _=>true) true fuel t v.cells.toList=some x)(hl:L x.1):∃ z,Ψ z∧VR KM.empty w NoN (.agg z) v:=by
 obtain ⟨z,h1,h2⟩:=hO fuel hf _ x h hl;obtain ⟨cs,rfl⟩:=hv;have e:(Value.agg cs).cells.toList=cs.toList:=by simp[Value.cells]
 rw[e] at h1;refine ⟨z,h2,.agg _ cs (h1.len.trans (by simp)) (fun i h h'=>?_) (fun i h=>h1.pl _ (by simp))⟩;have:=h1.rel i h (by simpa using h');rw[Array.getElem_toList] at this;exact this
end
def flatD:Nat→DataW Unit→List Value
 |_,.lit (.int k n)=>[.int k n]
 |n+1,.agg ps=>ps.flatMap (flatD n)
 |_,_=>[]
def putT (d:DataW Unit):Obj→Obj
 |.cells _ t z=>.cells (flatD 3 d).toArray t z
 |o=>o
noncomputable def laidW (os:Os):World:=
 { World.holding Tryz.prog os ⟨#[],#[],[]⟩ with heap:=((World.holding Tryz.prog os ⟨#[],#[],[]⟩).heap.modify 1 (putT Rows.laid_unicode_utf8_first)).modify 2 (putT Rows.laid_unicode_utf8_acceptRanges) }
abbrev laidL:List (String×DataW Unit):=[("unicode/utf8.acceptRanges",Rows.laid_unicode_utf8_acceptRanges),("unicode/utf8.first",Rows.laid_unicode_utf8_first)]
theorem JGx (os:Os)(args:Array Value):laidMet Tryz.prog laidL ((laidW os).forCall (fun _ _=>0) ⟨#[],args,[]⟩).memory:=
 laidMet_of_run' 8 (by kernel_rfl) (by kernel_rfl)
theorem JCu:mapsRowed Tryz.prog=true:=by kernel_rfl
theorem JAI:Tryz.prog.stopsHeard=true:=by kernel_rfl
theorem JEe:Tryz.prog.mayEnter=true:=by kernel_rfl
theorem JAd:(Rows.systemHoldsUptoRow.lifted==Tryz.prog.liftsFinal)=true:=by kernel_rfl
theorem JJ0:(Tryz.prog.make==some Rows.systemHoldsUptoRow.make)=true:=by kernel_rfl
theorem JKF:false=Tryz.pinned.checked.prog.looks []:=by kernel_rfl
theorem JJ1:Tryz.pinned.checked.prog.mainIs=some (Rows.systemHoldsUptoCard.stood.harness.1,Rows.systemHoldsUptoCard.stood.harness.2.toList):=by kernel_rfl
theorem JCo {n:String}{k:FuncId}{g:Func}{ts:Array TypeId}(h1:Tryz.prog.funcNamed n=some k)(h2:Tryz.prog.funcs[k]?=some g)(h3:g.params=ts)(h4:ts.all (fun t=>!Tryz.prog.wantsStandIn t)=true)
  (f:FuncId)(fn:Func)(hf:Tryz.pinned.checked.prog.funcNamed n=some f)(hfn:Tryz.pinned.checked.prog.funcs[f]?=some fn) :
  false=Tryz.pinned.checked.prog.looks []∧∀ (j:Nat) t,fn.params[j]?=some t→Tryz.pinned.checked.prog.wantsStandIn t=false:=by
 obtain rfl:f=k:=Option.some.inj (hf.symm.trans h1);obtain rfl:fn=g:=Option.some.inj (hfn.symm.trans h2);refine ⟨JKF,fun j t ht=>?_⟩;rw[h3] at ht;have:=Array.all_eq_true'.1 h4 t (Array.mem_of_getElem? ht);have h5:Tryz.pinned.checked.prog.wantsStandIn t=Tryz.prog.wantsStandIn t:=rfl;rw[h5]
 simpa using this
end Go.Proofs.YtlblbldolhiokaaGreatDoor
