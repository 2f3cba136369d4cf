/- Part 11 of the proof. -/
import Derived.Test.YtlblbldolhiokaaGreatDoorDual10
set_option linter.unusedVariables false
set_option linter.unusedSimpArgs false
set_option linter.unusedSectionVars false
set_option maxRecDepth 100000
set_option exponentiation.threshold 400
set_option maxHeartbeats 8000000
namespace Go.Fw
open Go.RowKit
def J5D (y:AV)(k:Nat)(x:AV):AV:=
 match y with
 |.agg cs=>.agg (over cs k x.cells)
 |_=>x.cells.headD .dead
section
variable {P:Program} {T:Nat→Option TD} {gh:Gh} {κ:KM} {H:Hp} {w:World}
theorem JAM {y:AV}{k:Nat}{x:AV}(h:k+x.cells.length≤y.cells.length)(hx:0<x.cells.length):(J5D y k x).cells=over y.cells k x.cells∨(∃ c,x.cells=[c]∧y.cells=[y]∧k=0∧J5D y k x=c):=by
 cases y with
 |agg cs=>exact .inl rfl
 |_=>
   right;have h:k+x.cells.length≤1:=h
   match hc:x.cells with
   |[]=>rw[hc] at hx;simp at hx
   |[c]=>exact ⟨c,rfl,rfl,by rw[hc] at h;simp at h;omega,by simp[J5D,hc]⟩
   |c::c'::r=>rw[hc] at h;simp at h;omega
def evStore (T:Nat→Option TD)(H:Hp)(t:Nat)(p x:AV)(C:Up→Prop):Prop:=
 match p with
 | .op b g i k=>∃ d,T t=some d∧J2K x=true∧x.cells.length=d.size∧∃ B,H b=some (g,B)∧i<B.xs.length∧k+d.size≤B.n ∧
  (∀ c∈x.cells,c.cells=[c])∧C (some (b,g,{ B with xs:=B.xs.set i (J5D (B.xs.getD i .dead) k x) }))
 |_=>False
theorem J2x (hT:TOk P T)(hr:HRel gh κ H w){t:Nat}{p x:AV}{vp vx:Value}(hp:VR κ w (Nset gh.O κ H) p vp)(hx:VR κ w (Nset gh.O κ H) x vx){C:Up→Prop}(h:evStore T H t p x C) :
  ∃ up,C up∧(∀ b g B,up=some (b,g,B)→∃ B0,H b=some (g,B0))∧Does P gh κ H w (Instr.storeAt t vp vx) up fun _ _ _ _=>True:=by
 unfold evStore at h;split at h
 ·rename_i b g i k;obtain ⟨d,hd,hk,hl,B,hB,hi,hks,hone,hC⟩:=h;have ht:=J0W (hT _ _ hd);have hpos:=ht.pos
  cases hp with
  |op _ _ _ _ c K hκ hc hp=>
  obtain ⟨K',hκ',hbr⟩:=hr.blk _ _ _ hB;have hbr:BlkRel κ w (Nset gh.O κ H) K B:=by rw[hκ] at hκ';cases hκ';exact hbr
  have hBn:0<B.n:=by have:=(hbr.rows hp).1;omega
  obtain ⟨hn,hcl,h3⟩:=hbr.rows hp
  rcases h3 with ⟨h3,_⟩|⟨c',A,f,hc',hb,hm,hs,hf,hpl,hv,hso⟩
  ·rw[h3] at hc;cases hc
  rw[hc'] at hc;cases hc;have hcr:=hx.cr hk;have hvl:vx.cells.size=d.size:=by rw[← hcr.len,hl]
  have hrow:i*B.n+B.n≤B.xs.length*B.n:=by rw[← Nat.succ_mul];exact Nat.mul_le_mul_right _ hi
  have hst:=run_storeCells_at P c (i*K.n+k) B.e vx.cells.toList 0 A w hb (by simp[hvl,hn];omega) (fun v hv=>by
   obtain ⟨j,hj,rfl⟩:=List.mem_iff_getElem.1 hv
   exact hcr.pl j (by simpa using hj))
  simp only[Nat.add_zero] at hst
  have hrun:(Instr.storeAt t (.pointer (some ⟨c,i*K.n+k,none⟩)) vx).run P w=.ok () (w.setRow c (A.toList.take (i*K.n+k)++vx.cells.toList++A.toList.drop (i*K.n+k+vx.cells.toList.length)).toArray):=by
   simp[Instr.storeAt,Instr.sureAddr,Sem.run_bind,storeVar,ht.run_size w,hvl,hst]
  generalize hA':(A.toList.take (i*K.n+k)++vx.cells.toList++A.toList.drop (i*K.n+k+vx.cells.toList.length)).toArray=A' at hrun;have hA'l:A'.toList=A.toList.take (i*K.n+k)++vx.cells.toList++A.toList.drop (i*K.n+k+vx.cells.toList.length):=by rw[← hA']
  have hsz:A'.size=A.size:=by
   rw[← Array.length_toList,hA'l];simp[hvl,hn];omega
  have hget:∀ m,A'[m]?=if m<i*B.n+k then A[m]? else if m<i*B.n+k+d.size then vx.cells[m-(i*B.n+k)]? else A[m]?:=by
   intro m;rw[← Array.getElem?_toList,hA'l,hn];simp only[List.append_assoc,List.getElem?_append,List.length_take,List.getElem?_take,List.getElem?_drop,Array.length_toList,Array.getElem?_toList,hvl];have e0:min (i*B.n+k) A.size=i*B.n+k:=by omega
   rw[e0]
   by_cases a1:m<i*B.n+k
   ·simp[a1]
   ·simp only[a1,if_false]
    by_cases a2:m<i*B.n+k+d.size
    ·rw[if_pos (by omega),if_pos a2]
    ·rw[if_neg (by omega),if_neg a2]
     congr 1
     omega
  have hy:B.xs.getD i .dead=B.xs[i]:=by rw[List.getD_eq_getElem?_getD,List.getElem?_eq_getElem hi];rfl
  have hyl:(B.xs.getD i .dead).cells.length=B.n:=by rw[hy];exact hcl i hi
  have hel:=JAM (y:=B.xs.getD i .dead) (k:=k) (x:=x) (by omega) (by omega);have hoc:∀ c∈x.cells,c.cells=[c]:=hone
  have hsl:(J5D (B.xs.getD i .dead) k x).cells=over (B.xs.getD i .dead).cells k x.cells:=by
   rcases hel with h|⟨c,h1,h2,h3,h4⟩
   ·exact h
   ·rw[h4,h3,h1,h2];have:=hoc c (by rw[h1];simp);simp[over,this]
  let f':Nat→Nat→Value:=fun i' j=>if i'=i∧k≤j∧j<k+d.size then vx.cells.getD (j-k) undef else f i' j
  have hup:∀ b' g' B',(some (b,g,{ B with xs:=B.xs.set i (J5D (B.xs.getD i .dead) k x) }):Up)=some (b',g',B')→∃ B0,H b'=some (g',B0):=by
   intro b' g' B' h;cases h;exact ⟨B,hB⟩
  have hκs:κ.set b g K=κ:=by
   funext b' g'
   unfold KM.set;split
   ·rename_i e;obtain ⟨rfl,rfl⟩:=e;exact hκ.symm
   ·rfl
  have hag:Agree (Own κ H) w (w.setRow c A'):=⟨by simp,fun c' hc'' hn'=>setRow_other w c c' A' (fun e=>hn' ⟨b,g,B,K,hB,hκ,by rw[e];exact hc'⟩)⟩
  have hrep := hr.replace (d:=b) (γ:=g) (K:=K) (B:={ B with xs:=B.xs.set i (J5D (B.xs.getD i .dead) k x) }) (w':=w.setRow c A') (by rw[hκs];exact hr.fresh) hag
   (fun b' g' B' K' c' hne h1 h2 h3=>setRow_other w c c' A' (fun e=>hne (hr.inj _ _ _ _ _ _ _ _ c h1 hB h2 hκ (by rw[← e];exact h3) hc'))) ⟨rfl,rfl,rfl⟩ (.inr hκ)
   (fun c' hc''=>.inr ⟨g,B,K,hB,hκ,hc''⟩) (fun htr=>by
     refine .inl ⟨hBn,hn,fun i' h'=>?_,.inr ⟨c,A',f',hc',setRow_heap w c A A' B.e (0,0) hb,by rw[hm,hsz],by simpa [hsz] using hs,fun i' h' j hj=>?_,fun i' j hi' hj=>?_,fun i' h' j hj=>?_,fun hx=>hsz.trans (hso hx)⟩⟩
     ·simp only[List.length_set] at h';rw[List.getElem_set];split
      ·rw[hsl];simp only[over,List.length_append,List.length_take,List.length_drop];omega
      ·exact hcl i' h'
     ·simp only[List.length_set] at h';have hj:j<B.n:=hj
      have hij:∀ m,m≠i→¬ (i*B.n+k≤m*B.n+j∧m*B.n+j<i*B.n+k+d.size):=by
       intro m hm ⟨q1,q2⟩
       rcases Nat.lt_or_gt_of_ne hm with hlt|hgt
       ·have:m*B.n+B.n≤i*B.n:=by rw[← Nat.succ_mul];exact Nat.mul_le_mul_right _ hlt
        omega
       ·have:i*B.n+B.n≤m*B.n:=by rw[← Nat.succ_mul];exact Nat.mul_le_mul_right _ hgt
        omega
      show A'[i'*B.n+j]?=some (f' i' j)
      rw[hget];simp only[f']
      by_cases e:i'=i
      ·subst e
       by_cases q1:k≤j
       ·rw[if_neg (by omega)]
        by_cases q2:j<k+d.size
        ·rw[if_pos (by omega),if_pos ⟨rfl,q1,q2⟩];have:i'*B.n+j-(i'*B.n+k)=j-k:=by omega
         rw[this,Array.getD_eq_getD_getElem?,Array.getElem?_eq_getElem (by omega)];rfl
        ·rw[if_neg (by omega),if_neg (by omega)];exact hf i' h' j hj
       ·rw[if_pos (by omega),if_neg (by omega)];exact hf i' h' j hj
      ·have:=hij i' e;rw[if_neg (show ¬ (i'=i∧k≤j∧j<k+d.size) from fun h=>e h.1)]
       by_cases q1:i'*B.n+j<i*B.n+k
       ·rw[if_pos q1];exact hf i' h' j hj
       ·rw[if_neg q1,if_neg (by omega)];exact hf i' h' j hj
     ·simp only[List.length_set] at hi';simp only[f'];split
      ·rename_i e;have:=hcr.pl (j-k) (by omega);rw[Array.getD_eq_getD_getElem?,Array.getElem?_eq_getElem (by omega)];exact this
      ·exact hpl i' j hi' hj
     ·simp only[List.length_set] at h';simp only[List.getElem_set] at hj ⊢;refine htr ?_;simp only[f']
      by_cases e:i=i'
      ·subst e;simp only[if_true] at hj ⊢;have hj':j<(over (B.xs.getD i .dead).cells k x.cells).length:=by rw[← hsl];exact hj
       have key:VR κ w (Nset gh.O κ H) ((over (B.xs.getD i .dead).cells k x.cells)[j]) (if True∧k≤j∧j<k+d.size then vx.cells.getD (j-k) undef else f i j):=by
        have hjn:j<B.n:=by simp only[over,List.length_append,List.length_take,List.length_drop] at hj';omega
        simp only[over,List.append_assoc,List.getElem_append,List.length_take,List.getElem_take,List.getElem_drop]
        by_cases q1:k≤j
        ·rw[dif_neg (by omega)]
         by_cases q2:j<k+d.size
         ·rw[dif_pos (by omega),if_pos ⟨trivial,q1,q2⟩];have:=hcr.rel (j-k) (by omega) (by omega);rw[Array.getD_eq_getD_getElem?,Array.getElem?_eq_getElem (by omega)]
          simpa only [show min k (B.xs.getD i .dead).cells.length=k by omega,Option.getD_some] using this
         ·rw[dif_neg (by omega),if_neg (by omega)];have:=hv i hi j (by rw[hcl i hi];exact hjn)
          simpa only [hy,show k+x.cells.length+(j-min k (B.xs[i]).cells.length-x.cells.length)=j by rw[hcl i hi];omega] using this
        ·rw[dif_pos (by omega),if_neg (by omega)];have:=hv i hi j (by rw[hcl i hi];exact hjn)
         simpa only [hy] using this
       simpa only [hsl,true_and] using key
      ·simp only[e,if_false] at hj ⊢;have e':¬ i'=i:=fun h=>e h.symm;simp only[e',false_and,if_false]
       exact hv i' h' j hj)
  rw[hκs] at hrep;exact ⟨_,hC,hup,(),_,κ,hrun,hrep.1,hrep.2,trivial,fun _ _ _=>rfl⟩
 ·exact h.elim
end
end Go.Fw
