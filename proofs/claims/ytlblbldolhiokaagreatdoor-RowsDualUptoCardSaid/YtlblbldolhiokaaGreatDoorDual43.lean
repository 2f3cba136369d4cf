/- Part 43 of the proof. -/
import Derived.Test.YtlblbldolhiokaaGreatDoorDual42
set_option linter.unusedVariables false
set_option linter.unusedSimpArgs false
set_option linter.unusedSectionVars false
set_option maxRecDepth 100000
set_option exponentiation.threshold 400
set_option maxHeartbeats 8000000
namespace Go.Fw
open Go.RowKit
def J6K (X:XE)(call:CallX)(ops:Array Oper):List (Nat×Bool)→Nat→List AV→Mem→Nat→Option St3
 |[],lo,σ,m,k=>ifB (Nat.beq lo ops.size) (some (σ,m,k))
 |(hi,true)::r,lo,σ,m,k=>ifB (Nat.beq hi (lo+1)) ((xOps X call ops ((ops.toList.drop lo).take 1) σ m k).bind fun q=>J6K X call ops r hi q.1 q.2.1 q.2.2)
 |(hi,false)::r,lo,σ,m,k=>(xGrp X call ops (k*65536) k 0 ((ops.toList.drop lo).take (hi-lo)) σ m []).bind fun q=>
     ifB (chkS ops (J2B [] ops.toList) lo [] (((ops.toList.drop lo).take (hi-lo)).zip q.2.2)) (J6K X call ops r hi q.1 q.2.1 (k+(hi-lo)))
def JJ7 (o:Oper):Bool:=
 match o.op with
 |.call c=>match c.callee with
   |.value _=>true
   |_=>false
 |.makeMap ..|.mapUpdate ..|.insert ..|.range ..|.next ..=>true
 |_=>false
def J5P (ops:Array Oper)(ms:List Nat):Nat→List Oper→List (Nat×Bool)
 |i,[]=>[(i,false)]
 |i,o::r=>match JJ7 o&&J9h ms ops.size i&&J9h ms ops.size (i+1) with
   |true=>(i,false)::(i+1,true)::J5P ops ms (i+1) r
   |false=>J5P ops ms (i+1) r
section
variable {E:En} {gh:Gh} {ops:Array Oper}
theorem JB2 {Q:Exit→Act→World→Prop}{σ:Fr}{H:Hp}{Z:Nat→Prop}(h:∀ κ a w,Rel gh κ σ H a w→(∀ g,Z g→∀ b,κ b g=none)→Q .normal a w):NextP E ops Q gh ops.size σ H Z:=by
 intro fuel listed κ a w hsz hfuel hl hr hZ
 have hre:Region.ready .any ops listed=[]:=by
  rw[List.eq_nil_iff_forall_not_mem];intro i hi;obtain ⟨h1,o,ho,_⟩:=mem_ready.1 hi;have hlt:i<ops.size:=(Array.getElem?_eq_some_iff.1 ho).1;have:=hl i hlt;rw[decide_eq_true hlt,Array.getD_eq_getD_getElem?,Array.getElem?_eq_getElem (by omega)] at this;rw[Array.getD_eq_getD_getElem?,Array.getElem?_eq_getElem (by omega)] at h1;simp at h1 this;rw[h1] at this;cases this
 cases fuel with
 |zero=>exact ⟨hre,h κ a w hr hZ⟩
 |succ n=>exact ⟨fun _=>h κ a w hr hZ,fun i hi=>by rw[hre] at hi;exact absurd hi (by simp)⟩
theorem JDJ {ms:List Nat}(hI:MInv ops ms){c:Nat}(hc:c<ops.size)(hA:JB6 ops ms (c+1)){Q:Exit→Act→World→Prop}{σ:Fr}{H:Hp}{Z:Nat→Prop}
  (h:∀ κ a w,Rel gh κ σ H a w→(∀ g,Z g→∀ b,κ b g=none)→∀ K:Act→World→Prop,(∀ κ' σ' H' a' w' (Z':Nat→Prop),Rel gh κ' σ' H' a' w'→(∀ g,Z' g→∀ b,κ' b g=none)→NextP E ops Q gh (c+1) σ' H' Z'→K a' w')→wpOp E.P ops Q c K a w):NextP E ops Q gh c σ H Z:=by
 intro fuel listed κ a w hsz hfuel hl hr hZ;have hXc:listed.getD c false=false:=by rw[hl c hc,decide_eq_false (by omega)]
 have hnot:¬ ∀ i,i<c+1→listed.getD i false=true:=fun h=>by have:=h c (by omega);rw[hXc] at this;cases this
 cases fuel with
 |zero=>
   have hall:=J6A (X:=fun k=>listed.getD k false) (n:=ops.size) (by simpa using hfuel);exact absurd (fun i hi=>hall i (by omega)) hnot
 |succ fuel=>
   refine ⟨fun hre=>absurd (fun i hi=>J7c hI hsz hre i (by omega)) hnot,fun i hi=>?_⟩
   have hcl:∀ i (h:i<ops.size),listed.getD i false=true→∀ p∈J0g ops[i],listed.getD p false=true:=by
    intro i h hX p hp;rw[hl i h] at hX;have:=of_decide_eq_true hX;have hlt:=hI.lt i h p hp;rw[hl p (by omega),decide_eq_true (by omega)]
   have hrange:=(J5K hI (by omega) hA hsz hcl (lo:=c) (fun i h=>by rw[hl i (by omega),decide_eq_true h]) hi).resolve_left hnot;have:i=c:=by omega
   subst this
   have hX0:∀ k,(listed.setIfInBounds i true).getD k false=(listed.getD k false||decide (k=i)):=by
    intro k
    by_cases e:k=i
    ·subst e;simp[Array.getD_eq_getD_getElem?,hsz,hc]
    ·rw[getD_set_ne false (fun h=>e h.symm),decide_eq_false e,Bool.or_false]
   refine h κ a w hr hZ _ fun κ' σ' H' a' w' Z' hr' hZ' hN=>hN fuel _ κ' a' w' (by simp[hsz]) ?_ ?_ hr' hZ'
   ·rw[J23 hXc hX0 hc];omega
   ·intro k hk;rw[hX0,hl k hk]
    by_cases h1:k=i
    ·subst h1;simp
    ·by_cases h2:k<i
     ·simp[h2];omega
     ·simp[h1,h2];omega
end
section
variable {X:XE} {gh:Gh} {w:World} {call:CallX} {ops:Array Oper}
def JMJ (gh:Gh)(Q:Exit→Act→World→Prop)(q:St3):Prop:=∀ a w,RelX gh q.1 q.2.1 q.2.2 a w→Q .normal a w
theorem J0w (hX:XOk X)(hcall:J1C X call)(hI:MInv ops (J2B [] ops.toList))(hgo:ops.toList.all (J0t gh.nt)=true){Q:Exit→Act→World→Prop}{q:St3}(hQ:JMJ gh Q q) :
  ∀ {plan:List (Nat×Bool)} {lo:Nat} {σ:List AV} {m:Mem} {k:Nat},J33 ops lo plan=true→σ.length=gh.nt→J6K X call ops plan lo σ m k=some q→NextP X.E ops Q gh lo (lf σ) (hp m) (fun g=>k≤g)
 |[],lo,σ,m,k,_,hl,h=>by
   unfold J6K at h;obtain ⟨e,h⟩:=J0B h;cases h;have:=Nat.eq_of_beq_eq_true e;subst this;exact JB2 fun κ a w hr hZ=>hQ a w ⟨hl,κ,hr,fun b g hg=>hZ g hg b⟩
 |(hi,true)::r,lo,σ,m,k,hp',hl,h=>by
   unfold J33 at hp';simp only[Bool.and_eq_true] at hp';obtain ⟨⟨⟨h1,h2⟩,h3⟩,h4⟩:=hp';unfold J6K at h;obtain ⟨e,h⟩:=J0B h;have e:=Nat.eq_of_beq_eq_true e;subst e;obtain ⟨⟨σ1,m1,k1⟩,ho,h⟩:=J02 h;have hlt:lo<ops.size:=by have:=Nat.le_of_ble_eq_true h2;omega
   refine JDJ hI hlt (J3q J3U h3) fun κ a w hr hZ K hK=>?_;rw[List.drop_eq_getElem_cons (by simpa using hlt)] at ho;simp only[List.take_succ_cons,List.take_zero,Array.getElem_toList] at ho;have hgood:=List.all_eq_true.1 hgo ops[lo] (by simp);unfold wpOp;rw[Array.getElem?_eq_getElem hlt];simp only;generalize ops[lo]=o at ho hgood;unfold xOps at ho;have hF:Fsh κ k:=fun b g hg=>hZ g hg b;split at ho
   ·rename_i hgk;obtain ⟨⟨v,m2,k2⟩,hs,ho⟩:=J02 ho;cases ho;rw[if_pos (J4o hr hgk)];exact .inl (J8L hX hcall hl hr hF hgood hs fun a' w' κ' hr' hF'=>hK κ' _ _ a' w' (fun g=>k2≤g) hr' (fun g hg b=>hF' b g hg) (J0w hX hcall hI hgo hQ h4 (by rw[J2u];exact hl) h))
   ·rename_i hgk;cases ho;rw[if_neg (by rw[J4o hr hgk];simp)];exact hK κ _ _ _ w (fun g=>k≤g) (JBJ hl hr hgood) hZ (J0w hX hcall hI hgo hQ h4 (by rw[J2u];exact hl) h)
   ·cases ho
 |(hi,false)::r,lo,σ,m,k,hp',hl,h=>by
   unfold J33 at hp';simp only[Bool.and_eq_true] at hp';obtain ⟨⟨⟨h1,h2⟩,h3⟩,h4⟩:=hp';unfold J6K at h;obtain ⟨⟨σ1,m1,L⟩,hg,h⟩:=J02 h;obtain ⟨hck,h⟩:=J0B h;obtain ⟨L',e,hlen,hl',hch⟩:=J3y hX hcall (nt:=gh.nt) (fun o ho=>List.all_eq_true.1 hgo o (List.mem_of_mem_drop (List.mem_of_mem_take ho))) hl hg;simp only[List.reverse_nil,List.nil_append] at e;subst e;have hle:=Nat.le_of_ble_eq_true h1;have hle2:=Nat.le_of_ble_eq_true h2
   exact J6G (E:={ X.E with base:=k*65536 }) hX.hT hI hle hle2 (J3q J3U h3) hgo (K:=fun σ' H'=>σ'=lf σ1∧H'=hp m1) (Z:=fun g=>k+(hi-lo)≤g) (fun i=>k+i) (fun i=>Nat.le_add_right _ _) (fun i j h=>by simpa using h)
    (fun g hg=>⟨by omega,fun i hi=>by omega⟩) (fun σ' H' hk=>by
      obtain ⟨rfl,rfl⟩:=hk
      exact J0w hX hcall hI hgo hQ h4 hl' h) ⟨L,lf σ1,hp m1,by rw[hlen];simp;omega,hch,hck,rfl,rfl⟩
end
end Go.Fw
