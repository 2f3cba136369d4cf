/- Part 18 of the proof. -/
import Derived.Test.YtlblbldolhiokaaGreatDoorDual17
set_option linter.unusedVariables false
set_option linter.unusedSimpArgs false
set_option linter.unusedSectionVars false
set_option maxRecDepth 100000
set_option exponentiation.threshold 400
set_option maxHeartbeats 8000000
namespace Go.Fw
open Go.RowKit
open Go.ChangeMaps (setBlock)
section
variable {P:Program} {T:Nat→Option TD} {gh:Gh} {κ:KM} {H:Hp} {N:Nat→Prop} {w:World}
def J5i (T:Nat→Option TD)(t d γ:Nat)(x:AV)(C:AV→Up→Prop):Prop:=
 ∃ td,T t=some td ∧
 match x with
 |.val (.string s)=>td.kind=.str∧C (.it d γ) (some (d,γ,⟨0,0,[.val (.string s),.val (.int .i64 0)]⟩))
 |.mp ks vs=>(∃ a b,td.kind=.map a b)∧C (.it d γ) (some (d,γ,⟨0,0,[.mp ks vs,.tup ((List.range ks.length).map encN),.dead]⟩))
 |_=>False
theorem JEQ (A:Array MapEntry):A.toList=(List.range A.size).map fun j=>A[j]! :=by
 apply List.ext_getElem
 ·simp
 ·intro i h1 h2;simp at h1;simp[h1]
theorem J6y (hT:TOk P T)(hr:HRel gh κ H w){t d γ:Nat}(hγ:κ d γ=none){x:AV}{v:Value}(hv:VR κ w (Nset gh.O κ H) x v){C:AV→Up→Prop}(h:J5i T t d γ x C) :
  ∃ x up,C x up∧(∀ b g B,up=some (b,g,B)→b=d∧g=γ)∧Does P gh κ H w (Instr.range t v) up fun κ' w' N' r=>VR κ' w' N' x r:=by
 obtain ⟨td,hd,h⟩:=h;obtain ⟨u,hu,hk⟩:=(J0W (hT _ _ hd)).und;split at h
 ·rename_i s;obtain ⟨hs,hC⟩:=h;rw[hs] at hk;cases u<;>simp[kdOf] at hk
  cases hv with
  |val _ _=>
    obtain ⟨q1,q2⟩:=hr.newObj (d:=d) (γ:=γ) (e:=0) (o:=.stringIter s 0) (xs:=[.val (.string s),.val (.int .i64 0)]) hγ (fun _=>⟨0,rfl,heap_alloc_new _ _⟩);exact ⟨_,_,hC,fun b g B h=>by cases h;exact ⟨rfl,rfl⟩,.pointer (some ⟨w.heap.size,0,none⟩),_,_,by simp[Instr.range,Sem.run_bind,run_underlying hu],q1,q2,.it d γ _ _ (J09 ..) rfl rfl,fun b g h=>J0E _ _ _ _ (h _ _ _ rfl)⟩
 ·rename_i ks vs;obtain ⟨⟨a,b,hs⟩,hC⟩:=h;rw[hs] at hk;cases u<;>simp[kdOf] at hk
  have hv0:=hv
  cases hv with
  |mp _ _ c A ck h1 h2 h3 h4 h5 h6 h7=>
    have hlt:c<w.heap.size:=(Array.getElem?_eq_some_iff.1 h2).1
    have hkp:=hr.newObj (d:=d) (γ:=γ) (e:=0) (o:=.mapIter (some c) ck #[] ck) (xs:=[.mp ks vs,.tup ((List.range ks.length).map encN),.dead]) hγ (fun hE=>by
     have hm:=hE (VR.mp (κ:=KM.empty) ks vs c A ck h1 h2 h3 h4 h5 h6 h7)
     cases hm with
     |mp _ _ _ A' ck' g1 g2 g3 g4 g5 g6 g7=>
       have e:(w.alloc (.mapIter (some c) ck #[] ck)).heap[c]?=w.heap[c]?:=(J1d (fun _=>False) w _).block c hlt (by simp);rw[e,h2] at g2;cases g2;refine ⟨List.range ks.length,rfl,c,A,ck,#[],heap_alloc_new _ _,g1,by rw[e];exact h2,⟨g3,g4,g5,g6,g7⟩,fun j hj=>by rw[List.mem_range] at hj;omega,?_,fun x hx=>by cases hx⟩;rw[h3,← JEQ]
       simp)
    obtain ⟨q1,q2⟩:=hkp;exact ⟨_,_,hC,fun b g B h=>by cases h;exact ⟨rfl,rfl⟩,.pointer (some ⟨w.heap.size,0,none⟩),_,_,by simp[Instr.range,Sem.run_bind,run_underlying hu,getO h2 rfl],q1,q2,.it d γ _ _ (J09 ..) rfl rfl,fun b g h=>J0E _ _ _ _ (h _ _ _ rfl)⟩
 ·exact h.elim
@[irreducible] def runeAt (s:ByteArray) (p:Nat):Nat×Nat:=Utf8.decode s p
def J5j (H:Hp)(it:AV)(isS:Bool)(C:AV→Up→Prop):Prop:=
 match it with
 | .it b g=>∃ B,H b=some (g,B) ∧
   match B.xs with
   | [.val (.string s),.val (.int .i64 p)]=>isS=true∧(p<s.size→C (.tup [.val (.bool true),.val (.int .i64 p),.val (.int .i32 ((runeAt s p.toNat).1:Nat))]) (some (b,g,{ B with xs:=[.val (.string s),.val (.int .i64 (p+(runeAt s p.toNat).2))] }))) ∧
    (¬ p<s.size→C (.tup [.val (.bool false)]) none)
   | [.mp mk mv,.tup l,cur]=>isS=false∧∃ L:List Nat,l=L.map encN∧(L=[]→C (.tup [.val (.bool false)]) none) ∧
    ∀ j∈L,C (.tup [.val (.bool true),mk.getD j .dead,mv.getD j .dead]) (some (b,g,{ B with xs:=[.mp mk mv,.tup ((L.filter (· ≠ j)).map encN),encN j] }))
   |_=>False
 |_=>False
theorem JHH {L L':List Nat}(h:L.map encN=L'.map encN):L=L':=by
 induction L generalizing L' with
 |nil=>cases L'<;>simp at h ⊢
 |cons a L ih=>
   cases L' with
   |nil=>simp at h
   |cons b L'=>
     simp only[List.map_cons,List.cons.injEq] at h;obtain ⟨h1,h2⟩:=h;rw[ih h2];simp only[encN,AV.val.injEq,Value.int.injEq,true_and] at h1;rw[Int.ofNat.inj h1]
theorem J9C (hr:HRel gh κ H w){it:AV}{isS:Bool}{v:Value}{ty:TypeId}(hv:VR κ w (Nset gh.O κ H) it v){C:AV→Up→Prop}(h:J5j H it isS C) :
  ∃ x up,C x up∧(∀ b g B,up=some (b,g,B)→∃ B0,H b=some (g,B0))∧Does P gh κ H w (Instr.next v isS ty) up fun κ' w' N' r=>VR κ' w' N' x r:=by
 unfold J5j at h;split at h
 ·rename_i b g;obtain ⟨B,hB,h⟩:=h
  cases hv with
  |it _ _ c K hκ hc hn=>
  obtain ⟨K',hκ',hbr⟩:=hr.blk _ _ _ hB;rw[hκ] at hκ';cases hκ';obtain ⟨hB0,c',hc',ho⟩:=hbr.obj hn;rw[hc] at hc';cases hc'
  have over:∀ (C:AV→Up→Prop),C (.tup [.val (.bool false)]) none→(Instr.next (.pointer (some ⟨c,0,none⟩)) isS ty).run P w=.ok (.tuple #[.bool false]) w →
    ∃ x up,C x up∧(∀ b g B,up=some (b,g,B)→∃ B0,H b=some (g,B0))∧Does P gh κ H w (Instr.next (.pointer (some ⟨c,0,none⟩)) isS ty) up fun κ' w' N' r=>VR κ' w' N' x r:=by
   intro C hC hrun;exact ⟨_,_,hC,fun b g B h=>(by cases h),_,w,κ,hrun,hr,fun h=>h,.tup _ _ rfl (fun i h h'=>by match i,h with|0,_=>exact .val _ rfl),fun _ _ _=>rfl⟩
  split at h
  ·rename_i s p hxs;obtain ⟨rfl,h1,h2⟩:=h;rw[hxs] at ho;obtain ⟨pos,rfl,hit⟩:=ho;have hsz:c<w.heap.size:=(Array.getElem?_eq_some_iff.1 hit).1
   by_cases hlt:pos<s.size
   ·have hC:=h1 (by omega);have e0:((pos:Int)).toNat=pos:=by simp
    rw[e0] at hC;unfold runeAt at hC
    obtain ⟨q1,q2⟩:=hr.setObj hB hκ hc hn hB0 (o:=.stringIter s (pos+(Utf8.decode s pos).2)) (xs:=[.val (.string s),.val (.int .i64 (pos+(Utf8.decode s pos).2))]) (w1:=w) ⟨rfl,rfl,rfl,rfl⟩
     (fun _=>⟨pos+(Utf8.decode s pos).2,by simp,by rw[J0k,if_pos ⟨rfl,hsz⟩]⟩)
    refine ⟨_,_,hC,fun b g B h=>by cases h;exact ⟨_,hB⟩,.tuple #[.bool true,goInt pos,.int .i32 (Utf8.decode s pos).1],_,κ,?_,q1,q2,?_,fun _ _ _=>rfl⟩
    ·simp[Instr.next,Sem.run_bind,getO hit rfl,hlt,setO _ hit rfl]
    ·exact .tup _ _ rfl (fun i h h'=>by match i,h with|0,_=>exact .val _ rfl|1,_=>exact .val _ rfl|2,_=>exact .val _ rfl)
   ·exact over C (h2 (by omega)) (by simp[Instr.next,Sem.run_bind,getO hit rfl,hlt])
  ·rename_i mk mv l cur hxs;obtain ⟨rfl,L,rfl,h1,h2⟩:=h;rw[hxs] at ho;obtain ⟨L',hL,c0,A,ck,seen,hI⟩:=ho;have hL:=JHH hL;subst hL;have hsz:c<w.heap.size:=(Array.getElem?_eq_some_iff.1 hI.it).1
   rcases run_next_at (P:=P) w ty c c0 ck ck seen A ck hI.it hI.at_ (fun x hx=>by
     obtain ⟨i,hi,rfl⟩:=List.mem_iff_getElem.1 hx;simp only[Array.getElem_toList]
     exact (hI.map.born i (by simpa using hi)).1) (Nat.le_refl _) with ⟨h0,hrun⟩|⟨e,he,w1,hw1,hrun⟩
   ·have:L=[]:=by
     have:=hI.left
     have h3:(leftOf A seen).toList=[]:=by
      have:leftOf A seen=#[]:=Array.eq_empty_of_size_eq_zero h0;rw[this]
     unfold leftOf at h3;rw[Array.toList_filter] at h3;rw[h3] at this;exact List.map_eq_nil_iff.1 this.symm
    exact over C (h1 this) hrun
   ·unfold leftOf at he;rw[Array.toList_filter,hI.left] at he;obtain ⟨j,hj,rfl⟩:=List.mem_map.1 he;have hjA:=hI.lt j hj;have e1:A[j]! = A[j]:=by simp[hjA]
    rw[e1] at hrun;have hjk:j<mk.length:=by rw[hI.map.kl];exact hjA
    have hjv:j<mv.length:=by rw[hI.map.vl];exact hjA
    have hheap:w1.heap=w.heap∧w1.os=w.os∧w1.tape=w.tape∧w1.output=w.output:=by
     rcases hw1 with rfl|rfl
     ·exact ⟨rfl,rfl,rfl,rfl⟩
     ·exact ⟨rfl,rfl,rfl,rfl⟩
    have hne:c≠c0:=fun e=>by subst e;have:=hI.it;rw[hI.at_] at this;cases this
    obtain ⟨q1,q2⟩:=hr.setObj hB hκ hc hn hB0 (o:=.mapIter (some c0) ck (seen.push A[j].born) ck) (xs:=[.mp mk mv,.tup ((L.filter (· ≠ j)).map encN),encN j]) (w1:=w1) hheap
     (fun hE =>by
       have hm:=hE (VR.mp (κ:=KM.empty) mk mv c0 A ck hI.out hI.at_ hI.map.kl hI.map.vl hI.map.key hI.map.val hI.map.born);have hat:(setBlock w1 c (.mapIter (some c0) ck (seen.push A[j].born) ck)).heap[c0]?=some (.map A ck):=by rw[J0k,if_neg (fun h=>hne h.1),hheap.1];exact hI.at_
       cases hm with
       |mp _ _ _ A' ck' g1 g2 g3 g4 g5 g6 g7=>
         rw[hat] at g2;cases g2;refine ⟨_,rfl,c0,A,ck,seen.push A[j].born,by rw[J0k,if_pos ⟨rfl,by rw[hheap.1];exact hsz⟩],g1,hat,⟨g3,g4,g5,g6,g7⟩,fun i hi=>hI.lt i (List.mem_filter.1 hi).1,?_,fun x hx=>?_⟩
         ·have e2:(A.toList.filter fun e=>!(seen.push A[j].born).contains e.born)=(A.toList.filter fun e=>!seen.contains e.born).filter fun e=>e.born != A[j].born:=by
           rw[List.filter_filter]
           congr 1
           funext x
           simp only[Array.contains_push];cases h3:seen.contains x.born<;>simp[bne,Bool.and_comm]
          rw[e2,hI.left,List.filter_map]
          congr 1
          apply List.filter_congr;intro i hi;have hiA:=hI.lt i hi;simp only[Function.comp_apply,hiA,getElem!_pos]
          by_cases e:i=j
          ·subst e;simp
          ·have:¬ A[i].born=A[j].born:=fun h=>e ((hI.map.born i hiA).2 j hjA h);simp[e,this]
         ·simp only[encN,AV.val.injEq] at hx
          exact ⟨j,hx.symm,hjA,by simp⟩)
    refine ⟨_,_,h2 j hj,fun b g B h=>by cases h;exact ⟨_,hB⟩,_,_,κ,hrun,q1,q2,?_,fun _ _ _=>rfl⟩;have k1:mk.getD j .dead=mk[j]:=by rw[List.getD_eq_getElem?_getD,List.getElem?_eq_getElem hjk];rfl
    have k2:mv.getD j .dead=mv[j]:=by rw[List.getD_eq_getElem?_getD,List.getElem?_eq_getElem hjv];rfl
    refine .tup _ _ rfl (fun i h h'=>?_)
    match i,h with
    |0,_=>exact .val _ rfl
    |1,_=>exact q2 (show VR κ w _ (mk.getD j .dead) A[j].key by rw[k1];exact (hI.map.key j hjk hjA).lift)
    |2,_=>exact q2 (show VR κ w _ (mv.getD j .dead) A[j].val by rw[k2];exact (hI.map.val j hjv hjA).lift)
  ·exact h.elim
 ·exact h.elim
def J5l (H:Hp)(it:AV)(C:AV→Prop):Prop:=
 match it with
 | .it b g=>∃ B,H b=some (g,B) ∧
   match B.xs with
   |[.mp mk mv,.tup l,.val (.int .i64 j)]=>C (.tup [mk.getD j.toNat .dead,mv.getD j.toNat .dead])
   |_=>False
 |_=>False
theorem JEK (hr:HRel gh κ H w){it:AV}{v:Value}(hv:VR κ w (Nset gh.O κ H) it v){C:AV→Prop}(h:J5l H it C):∃ x u,C x∧(Instr.entry v).run P w=.ok u w∧VR κ w (Nset gh.O κ H) x u:=by
 unfold J5l at h;split at h
 ·rename_i b g;obtain ⟨B,hB,h⟩:=h
  cases hv with
  |it _ _ c K hκ hc hn=>
  obtain ⟨K',hκ',hbr⟩:=hr.blk _ _ _ hB;rw[hκ] at hκ';cases hκ';obtain ⟨hB0,c',hc',ho⟩:=hbr.obj hn;rw[hc] at hc';cases hc';split at h
  ·rename_i mk mv l j hxs;rw[hxs] at ho;obtain ⟨L,rfl,c0,A,ck,seen,hI⟩:=ho;obtain ⟨j',hj,hjA,hsb⟩:=hI.cur _ rfl;simp only[Value.int.injEq,true_and] at hj;subst hj;simp only[Int.toNat_natCast] at h;have hjk:j'<mk.length:=by rw[hI.map.kl];exact hjA
   have hjv:j'<mv.length:=by rw[hI.map.vl];exact hjA
   have k1:mk.getD j' .dead=mk[j']:=by rw[List.getD_eq_getElem?_getD,List.getElem?_eq_getElem hjk];rfl
   have k2:mv.getD j' .dead=mv[j']:=by rw[List.getD_eq_getElem?_getD,List.getElem?_eq_getElem hjv];rfl
   have hfind:A.find? (fun e=>e.born==A[j'].born)=some A[j']:=by
    rw[Array.find?_eq_some_iff_getElem];refine ⟨by simp,j',hjA,rfl,fun i hi=>?_⟩;simp only[Bool.not_eq_true',beq_eq_false_iff_ne];exact fun e=>by have:=(hI.map.born i (by omega)).2 j' hjA e;omega
   refine ⟨_,.tuple #[A[j'].key,A[j'].val],h,?_,?_⟩
   ·simp[Instr.entry,Sem.run_bind,getO hI.it rfl,hsb,getO hI.at_ rfl,hfind]
   ·refine .tup _ _ rfl (fun i h h'=>?_)
    match i,h with
    |0,_=>exact (show VR κ w _ (mk.getD j' .dead) A[j'].key by rw[k1];exact (hI.map.key j' hjk hjA).lift)
    |1,_=>exact (show VR κ w _ (mv.getD j' .dead) A[j'].val by rw[k2];exact (hI.map.val j' hjv hjA).lift)
  ·exact h.elim
 ·exact h.elim
end
end Go.Fw
