/- Part 43 of a proof. -/
import Derived.Test.YtlblbldolhiokaaGreatDoorRs42
set_option linter.all false
set_option maxRecDepth 99999
set_option maxHeartbeats 0
namespace Go.Fw
open Go.RowKit
def J8S (X:XE)(call:CallX)(ops:Array Oper):List (Nat×Bool)→Nat→List AV→Mem→Nat→Option St3
 |[],lo,σ,m,k=>ifB (Nat.beq lo ops.size) (some (σ,m,k))
 |(hi,true)::r,lo,σ,m,k=>ifB (Nat.beq hi (lo+1)) ((xOps X call ops ((ops.toList.drop lo).take 1) σ m k).bind fun q=>J8S X call ops r hi q.1 q.2.1 q.2.2)
 |(hi,false)::r,lo,σ,m,k=>(xGrp X call ops (k*65536) k 0 ((ops.toList.drop lo).take (hi-lo)) σ m []).bind fun q=>
     ifB (chkS ops (J2g [] ops.toList) lo [] (((ops.toList.drop lo).take (hi-lo)).zip q.2.2)) (J8S X call ops r hi q.1 q.2.1 (k+(hi-lo)))
def JNV (o:Oper):Bool:=
 match o.op with
 |.call c=>match c.callee with
   |.value _=>true
   |_=>false
 |.makeMap ..|.mapUpdate ..|.insert ..|.range ..|.next ..=>true
 |_=>false
def J7I (ops:Array Oper)(ms:List Nat):Nat→List Oper→List (Nat×Bool)
 |i,[]=>[(i,false)]
 |i,o::r=>match JNV o&&JCP ms ops.size i&&JCP ms ops.size (i+1) with
   |true=>(i,false)::(i+1,true)::J7I ops ms (i+1) r
   |false=>J7I ops ms (i+1) r
section
variable {E:En} {gh:Gh} {ops:Array Oper}
def JDi {Q:Exit→Act→World→Prop}{σ:Fr}{H:Hp}{Z:Nat→Prop}(h:∀ κ a w,Rel gh κ σ H a w→(∀ g,Z g→∀ b,κ b g=none)→Q .normal a w):NextP E ops Q gh ops.size σ H Z:=by
 intro fuel listed κ a w hsz hfuel hl hr hZ
 have hre:Region.ready .any ops listed=[]:=by
  rw[Q1o];intro i hi;obtain ⟨h1,o,ho,_⟩:=mem_ready.1 hi;have hlt:i<ops.size:=(QU.1 ho).1;have:=hl i hlt;rw[Q2 hlt,QE,QN (by omega)] at this;rw[QE,QN (by omega)] at h1;simp at h1 this;rw[h1] at this;cases this
 cases fuel with
 |zero=>exact ⟨hre,h κ a w hr hZ⟩
 |succ n=>exact ⟨fun _=>h κ a w hr hZ,fun i hi=>by rw[hre] at hi;exact absurd hi (by simp)⟩
def JGR {ms:List Nat}(hI:MInv ops ms){c:Nat}(hc:c<ops.size)(hA:JDo ops ms (c+1)){Q:Exit→Act→World→Prop}{σ:Fr}{H:Hp}{Z:Nat→Prop}
  (h:∀ κ a w,Rel gh κ σ H a w→(∀ g,Z g→∀ b,κ b g=none)→∀ K:Act→World→Prop,(∀ κ' σ' H' a' w' (Z':Nat→Prop),Rel gh κ' σ' H' a' w'→(∀ g,Z' g→∀ b,κ' b g=none)→NextP E ops Q gh (c+1) σ' H' Z'→K a' w')→wpOp E.P ops Q c K a w):NextP E ops Q gh c σ H Z:=by
 intro fuel listed κ a w hsz hfuel hl hr hZ;have hXc:listed.getD c false=false:=by rw[hl c hc,Q1 (by omega)]
 have hnot:¬ ∀ i,i<c+1→listed.getD i false=true:=fun h=>by have:=h c (by omega);rw[hXc] at this;cases this
 cases fuel with
 |zero=>
   have hall:=J86 (X:=fun k=>listed.getD k false) (n:=ops.size) (by simpa using hfuel);exact absurd (fun i hi=>hall i (by omega)) hnot
 |succ fuel=>
   refine ⟨fun hre=>absurd (fun i hi=>JA1 hI hsz hre i (by omega)) hnot,fun i hi=>?_⟩
   have hcl:∀ i (h:i<ops.size),listed.getD i false=true→∀ p∈J14 ops[i],listed.getD p false=true:=by
    intro i h hX p hp;rw[hl i h] at hX;have:=Qh hX;have hlt:=hI.lt i h p hp;rw[hl p (by omega),Q2 (by omega)]
   have hrange:=(J76 hI (by omega) hA hsz hcl (lo:=c) (fun i h=>by rw[hl i (by omega),Q2 h]) hi).resolve_left hnot;have:i=c:=by omega
   subst this
   have hX0:∀ k,(listed.setIfInBounds i true).getD k false=(listed.getD k false||decide (k=i)):=by
    intro k
    by_cases e:k=i
    ·subst e;simp[QE,hsz,hc]
    rw[getD_set_ne false (fun h=>e h.symm),Q1 e,Q0j]
   refine h κ a w hr hZ _ fun κ' σ' H' a' w' Z' hr' hZ' hN=>hN fuel _ κ' a' w' (by simp[hsz]) ?_ ?_ hr' hZ'
   ·rw[J2V hXc hX0 hc];omega
   intro k hk;rw[hX0,hl k hk]
   by_cases h1:k=i
   ·subst h1;simp
   by_cases h2:k<i
   ·simp[h2];omega
   simp[h1,h2];omega
end
section
variable {X:XE} {gh:Gh} {w:World} {call:CallX} {ops:Array Oper}
def JQn (gh:Gh)(Q:Exit→Act→World→Prop)(q:St3):Prop:=∀ a w,RelX gh q.1 q.2.1 q.2.2 a w→Q .normal a w
theorem J1I (hX:XOk X)(hcall:J1k X call)(hI:MInv ops (J2g [] ops.toList))(hgo:ops.toList.all (J1H gh.nt)=true){Q:Exit→Act→World→Prop}{q:St3}(hQ:JQn gh Q q) :
  ∀ {plan:List (Nat×Bool)} {lo:Nat} {σ:List AV} {m:Mem} {k:Nat},J3y ops lo plan=true→σ.length=gh.nt→J8S X call ops plan lo σ m k=some q→NextP X.E ops Q gh lo (lf σ) (hp m) (fun g=>k≤g)
 |[],lo,σ,m,k,_,hl,h=>by
   unfold J8S at h;obtain ⟨e,h⟩:=J0K h;cases h;have:=Q7 e;subst this;exact JDi fun κ a w hr hZ=>hQ a w ⟨hl,κ,hr,fun b g hg=>hZ g hg b⟩
 |(hi,true)::r,lo,σ,m,k,hp',hl,h=>by
   unfold J3y at hp';simp only[Q5] at hp';obtain ⟨⟨⟨h1,h2⟩,h3⟩,h4⟩:=hp';unfold J8S at h;obtain ⟨e,h⟩:=J0K h;have e:=Q7 e;subst e;obtain ⟨⟨σ1,m1,k1⟩,ho,h⟩:=J01 h;have hlt:lo<ops.size:=by have:=QJ h2;omega
   refine JGR hI hlt (J5I J4o h3) fun κ a w hr hZ K hK=>?_;rw[Q6 (by simpa using hlt)] at ho;simp only[Q0D,Q2P,Qy] at ho;have hgood:=QL.1 hgo ops[lo] (by simp);unfold wpOp;rw[QN hlt];simp only;generalize ops[lo]=o at ho hgood;unfold xOps at ho;have hF:Fsh κ k:=fun b g hg=>hZ g hg b;split at ho
   ·rename_i hgk;obtain ⟨⟨v,m2,k2⟩,hs,ho⟩:=J01 ho;cases ho;rw[if_pos (J6a hr hgk)];exact .inl (JAy hX hcall hl hr hF hgood hs fun a' w' κ' hr' hF'=>hK κ' _ _ a' w' (fun g=>k2≤g) hr' (fun g hg b=>hF' b g hg) (J1I hX hcall hI hgo hQ h4 (by rw[J3Z];exact hl) h))
   ·rename_i hgk;cases ho;rw[if_neg (by rw[J6a hr hgk];simp)];exact hK κ _ _ _ w (fun g=>k≤g) (JE8 hl hr hgood) hZ (J1I hX hcall hI hgo hQ h4 (by rw[J3Z];exact hl) h)
   cases ho
 |(hi,false)::r,lo,σ,m,k,hp',hl,h=>by
   unfold J3y at hp';simp only[Q5] at hp';obtain ⟨⟨⟨h1,h2⟩,h3⟩,h4⟩:=hp';unfold J8S at h;obtain ⟨⟨σ1,m1,L⟩,hg,h⟩:=J01 h;obtain ⟨hck,h⟩:=J0K h;obtain ⟨L',e,hlen,hl',hch⟩:=J5U hX hcall (nt:=gh.nt) (fun o ho=>QL.1 hgo o (Q2f (Q1K ho))) hl hg;simp only[Q2Y,Q07] at e;subst e;have hle:=QJ h1;have hle2:=QJ h2
   exact J8L (E:={ X.E with base:=k*65536 }) hX.hT hI hle hle2 (J5I J4o h3) hgo (K:=fun σ' H'=>σ'=lf σ1∧H'=hp m1) (Z:=fun g=>k+(hi-lo)≤g) (fun i=>k+i) (fun i=>Q32 _ _) (fun i j h=>by simpa using h)
    (fun g hg=>⟨by omega,fun i hi=>by omega⟩) (fun σ' H' hk=>by
      obtain ⟨rfl,rfl⟩:=hk
      exact J1I hX hcall hI hgo hQ h4 hl' h) ⟨L,lf σ1,hp m1,by rw[hlen];simp;omega,hch,hck,rfl,rfl⟩
end
end Go.Fw
