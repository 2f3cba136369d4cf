/- Part 10 of the proof. -/
import Derived.Test.YtlblbldolhiokaaGreatDoorDual9
import Derived.Laws.Tables
set_option linter.unusedVariables false
set_option linter.unusedSimpArgs false
set_option linter.unusedSectionVars false
set_option maxRecDepth 100000
set_option exponentiation.threshold 400
set_option maxHeartbeats 8000000
namespace Go.Fw
open Go.RowKit
def J4F (pl:Nat→Option (Nat×Nat)):List AV→List (Nat×AV)→Option (List AV)
 |cs,[]=>some cs
 |cs,p::r=>match pl p.1 with
   |some q=>if J2K p.2=true∧p.2.cells.length=q.2∧q.1+q.2≤cs.length then J4F pl (over cs q.1 p.2.cells) r else none
   |none=>none
section
variable {P:Program} {T:Nat→Option TD} {gh:Gh} {κ:KM} {H:Hp} {w:World}
theorem J7u {N:Nat→Prop}{pl pc:Nat→Option (Nat×Nat)}(hpl:∀ i q,pl i=some q→pc i=some q){ρ:Operand→AV}{ρc:Operand→Value} :
  ∀ (l:List (Nat×Operand)) (cs cs':List AV) (vs:Array Value),(∀ p∈l,VR κ w N (ρ p.2) (ρc p.2))→CR κ w N cs vs→J4F pl cs (l.map fun p=>(p.1,ρ p.2))=some cs' →
    ∃ vs',Instr.fill pc vs (l.map fun p=>(p.1,ρc p.2))=some vs'∧CR κ w N cs' vs':=by
 intro l
 induction l with
 |nil=>
   intro cs cs' vs _ hc h;simp only[List.map_nil,J4F,Option.some.injEq] at h;subst h;exact ⟨vs,rfl,hc⟩
 |cons p l ih=>
   intro cs cs' vs hv hc h;simp only[List.map_cons,J4F] at h;split at h
   ·rename_i q hq;split at h
    ·rename_i hk;obtain ⟨k1,k2,k3⟩:=hk;have hx:=hv p (List.mem_cons_self ..);have hcr:=hx.cr k1;have h1:=hc.fill1 hx k1 (o:=q.1) (by omega);obtain ⟨vs',h2,h3⟩:=ih _ _ _ (fun p hp=>hv p (List.mem_cons_of_mem _ hp)) h1 h;refine ⟨vs',?_,h3⟩;have hl:=hc.len;have hl':=hcr.len;simp only[List.map_cons,Instr.fill,hpl _ _ hq];rw[if_neg (by simp;omega)];exact h2
    ·cases h
   ·cases h
theorem CR.zero {N:Nat→Prop}{t:Nat}{d:TD}(ht:TFact P t d){z:Value}(hz:z.cells.toList=d.zero):CR κ w N (d.zero.map .val) z.cells:=by
 obtain ⟨h1,h2,h3⟩:=VR.zero (κ:=κ) (w:=w) (N:=N) ht hz;rw[J12 ht] at h1
 exact ⟨h1.symm,fun i h h'=>by
  have:=h2 i (by rw[J12 ht];exact h) h'
  simpa only [J12 ht] using this,h3⟩
def J3C (T:Nat→Option TD):List (Nat×Nat)→Option (List (Nat×Nat))
 |[]=>some []
 |p::r=>match T p.2,J3C T r with
   |some d,some l=>some ((p.1,d.size)::l)
   |_,_=>none
def evBuild (T:Nat→Option TD)(t:Nat)(parts:List (Nat×AV))(C:AV→Prop):Prop:=
 ∃ d,T t=some d ∧
 match d.kind with
 |.struct fs=>∃ ps,J3C T fs=some ps∧∃ cs,J4F (fun i=>ps[i]?) (d.zero.map .val) parts=some cs∧C (.agg cs)
 |.array _ e=>∃ ed,T e=some ed∧∃ cs,J4F (fun i=>some (i*ed.size,ed.size)) (d.zero.map .val) parts=some cs∧C (.agg cs)
 |_=>False
theorem J8h (hT:TOk P T):∀ (fs:List Field) (ps:List (Nat×Nat)),J3C T (fs.map fun f=>(f.offset,f.type))=some ps→fs.mapM (fun f=>(P.info? f.type).map fun i=>(f.offset,i.size))=some ps
 |[],ps,h=>by simp[J3C] at h;subst h;rfl
 |f :: fs,ps,h=>by
   simp only[List.map_cons,J3C] at h;split at h
   ·rename_i d l hd hl;cases h;obtain ⟨i,z,hi,hs,_⟩:=(J0W (hT _ _ hd)).info;have:=J8h hT fs l hl;simp[List.mapM_cons,hi,hs,this]
   ·cases h
theorem J6i (hT:TOk P T){N:Nat→Prop}{t:Nat}{parts:Array (Nat×Operand)}{ρ:Operand→AV}{ρc:Operand→Value}(hv:∀ p∈parts.toList,VR κ w N (ρ p.2) (ρc p.2)){C:AV→Prop}
  (h:evBuild T t (parts.toList.map fun (p:Nat×Operand)=>(p.1,ρ p.2)) C) :
  ∃ x u,C x∧(Instr.build t (parts.map fun (p:Nat×Operand)=>(p.1,ρc p.2))).run P w=.ok u w∧VR κ w N x u:=by
 obtain ⟨d,hd,h⟩:=h;have ht:=J0W (hT _ _ hd);obtain ⟨i,z,hi,hs,hby,hz,hzc⟩:=ht.info;obtain ⟨u,hu,hr⟩:=ht.und;have hcz:=CR.zero (κ:=κ) (w:=w) (N:=N) ht hzc;split at h
 ·rename_i fs hk;obtain ⟨ps,hps,cs,hcs,hC⟩:=h;rw[hk] at hr;cases u<;>simp[kdOf] at hr
  rename_i fields;obtain ⟨vs',hf,hcr⟩:=J7u (pc:=fun i=>ps.toArray[i]?) (fun i q hq=>by simpa using hq) parts.toList _ _ _ hv hcz hcs;refine ⟨_,.agg vs',hC,run_build w t _ vs' ?_,hcr.agg⟩;simp only[Program.built,hi,hu,hz,J8h hT fields.toList ps (by rw[hr];exact hps)]
  simpa using hf
 ·rename_i n e hk;obtain ⟨ed,hed,cs,hcs,hC⟩:=h;rw[hk] at hr;cases u<;>simp[kdOf] at hr
  obtain ⟨rfl,rfl⟩:=hr;obtain ⟨ie,ze,hie,hse,_⟩:=(J0W (hT _ _ hed)).info;obtain ⟨vs',hf,hcr⟩:=J7u (pc:=fun i=>some (i*ed.size,ed.size)) (fun i q hq=>hq) parts.toList _ _ _ hv hcz hcs;refine ⟨_,.agg vs',hC,run_build w t _ vs' ?_,hcr.agg⟩;simp only[Program.built,hi,hu,hz,hie,hse]
  simpa using hf
 ·exact h.elim
theorem JEv (s:Nat):∀ (l:List (Nat×AV)) (k:Nat) (pre suf:List AV),pre.length=k*s→l.map Prod.fst=List.range' k l.length→(∀ p∈l,J2K p.2=true∧p.2.cells.length=s)→l.length*s≤suf.length →
  J4F (fun i=>some (i*s,s)) (pre++suf) l=some (pre++l.flatMap (·.2.cells)++suf.drop (l.length*s)):=by
 intro l
 induction l with
 |nil=>intro k pre suf _ _ _ _;simp[J4F]
 |cons p l ih=>
   intro k pre suf hp hi hk hs;simp only[List.map_cons,List.length_cons,List.range'_succ,List.cons.injEq] at hi;obtain ⟨h1,h2⟩:=hi;obtain ⟨k1,k2⟩:=hk p (List.mem_cons_self ..);have hs':s+l.length*s≤suf.length:=by simp only[List.length_cons,Nat.succ_mul] at hs;omega
   simp only[J4F,h1];rw[if_pos ⟨k1,k2,by simp[hp];omega⟩]
   have e:over (pre++suf) (k*s) p.2.cells=(pre++p.2.cells)++suf.drop s:=by
    unfold over;rw[k2,← hp,List.take_left,List.drop_append];simp
   rw[e,ih (k+1) (pre++p.2.cells) (suf.drop s) (by simp[hp,k2,Nat.succ_mul]) h2 (fun q hq=>hk q (List.mem_cons_of_mem _ hq)) (by simp;omega)];rw[show (p::l).length*s=s+l.length*s by simp only[List.length_cons,Nat.succ_mul];omega];simp only[List.flatMap_cons,List.append_assoc,List.drop_drop]
theorem JHB (s:Nat):∀ (l:List AV),(∀ x∈l,x.cells.length=s)→(l.flatMap AV.cells).length=l.length*s ∧
  ∀ i (h:i<l.length) j (h':j<l[i].cells.length),(l.flatMap AV.cells)[i*s+j]?=some l[i].cells[j]:=by
 intro l
 induction l with
 |nil=>intro _;exact ⟨by simp,fun i h=>absurd h (by simp)⟩
 |cons x l ih=>
   intro hk;obtain ⟨h1,h2⟩:=ih fun y hy=>hk y (List.mem_cons_of_mem _ hy);have hx:=hk x (List.mem_cons_self ..);refine ⟨by simp only[List.flatMap_cons,List.length_append,h1,hx,List.length_cons,Nat.succ_mul];omega,fun i h j h'=>?_⟩;simp only[List.flatMap_cons]
   match i,h,h' with
   |0,h,h'=>
     simp only[List.getElem_cons_zero] at h' ⊢;rw[Nat.zero_mul,Nat.zero_add,List.getElem?_append_left h',List.getElem?_eq_getElem h']
   |i+1,h,h'=>
     simp only[List.getElem_cons_succ] at h' ⊢;rw[List.getElem?_append_right (by rw[hx,Nat.succ_mul];omega),hx];rw[show (i+1)*s+j-s=i*s+j by rw[Nat.succ_mul];omega];exact h2 i (by simpa using h) j h'
def evBuildSlice (T:Nat→Option TD)(t d γ len:Nat)(l:List (Nat×AV))(C:AV→Up→Prop):Prop:=
 elemT T t fun e ed=>l.map Prod.fst=List.range' 0 l.length∧l.length=len∧(∀ p∈l,J2K p.2=true∧p.2.cells.length=ed.size)∧len*ed.size≤16777216 ∧
  C (.own d γ 0 len) (some (d,γ,⟨e,ed.size,l.map Prod.snd⟩))
theorem J2d (hT:TOk P T)(hr:HRel gh κ H w){t d γ len:Nat}(hγ:κ d γ=none){parts:Array (Nat×Operand)}{ρ:Operand→AV}{ρc:Operand→Value}(hv:∀ p∈parts.toList,VR κ w (Nset gh.O κ H) (ρ p.2) (ρc p.2)){C:AV→Up→Prop}
  (h:evBuildSlice T t d γ len (parts.toList.map fun (p:Nat×Operand)=>(p.1,ρ p.2)) C) :
  ∃ x up,C x up∧(∀ b g B,up=some (b,g,B)→b=d∧g=γ)∧Does P gh κ H w (Instr.buildSlice t len (parts.map fun (p:Nat×Operand)=>(p.1,ρc p.2))) up fun κ' w' N' r=>VR κ' w' N' x r:=by
 obtain ⟨e,ed,hu,ht,hne,hi,hlen,hk,hsz,hC⟩:=J2T hT h.ne;obtain ⟨it,z,hit,hs,hby,hz,hzc⟩:=ht.info;have hcz:=CR.zero (κ:=κ) (w:=w) (N:=Nset gh.O κ H) ht hzc;have hpos:=ht.pos;have hzl:ed.zero.length=ed.size:=ht.len;have hzs:z.cells.size=ed.size:=by have:=hcz.len;simp at this;omega
 have hz0:CR κ w (Nset gh.O κ H) ((List.range (len*ed.size)).map fun k=>AV.val (z.cells.getD (k%ed.size) undef)) ((Array.range (len*ed.size)).map fun k=>z.cells[k%z.cells.size]!):=by
  have hpl:∀ k,plainV (z.cells.getD (k%ed.size) undef)=true:=by
   intro k;have hlt:k%ed.size<z.cells.size:=by rw[hzs];exact Nat.mod_lt _ hpos
   have:=hcz.pl _ hlt
   simpa [Array.getD_eq_getD_getElem?,hlt] using this
  have he:∀ k,z.cells[k%z.cells.size]! = z.cells.getD (k%ed.size) undef:=by
   intro k;have hlt:k%ed.size<z.cells.size:=by rw[hzs];exact Nat.mod_lt _ hpos
   rw[hzs];simp[Array.getElem!_eq_getD,Array.getD_eq_getD_getElem?,Array.getElem?_eq_getElem hlt]
  refine ⟨by simp,fun i h h'=>?_,fun i h'=>?_⟩
  ·simp only[List.getElem_map,List.getElem_range,Array.getElem_map,Array.getElem_range,he];exact .val _ (hpl i)
  ·simp only[Array.getElem_map,Array.getElem_range,he];exact hpl i
 have hrow:=JEv ed.size (parts.toList.map fun (p:Nat×Operand)=>(p.1,ρ p.2)) 0 [] ((List.range (len*ed.size)).map fun k=>AV.val (z.cells.getD (k%ed.size) undef)) (by simp) hi hk (by rw[hlen];simp);simp only[List.nil_append] at hrow;obtain ⟨vs,hf,hcr⟩:=J7u (pc:=fun i=>some (i*ed.size,ed.size)) (fun i q hq=>hq) parts.toList _ _ _ hv hz0 hrow
 have hdrop:((List.range (len*ed.size)).map fun k=>AV.val (z.cells.getD (k%ed.size) undef)).drop ((parts.toList.map fun (p:Nat×Operand)=>(p.1,ρ p.2)).length*ed.size)=[]:=by
  apply List.drop_eq_nil_of_le;rw[hlen];simp
 rw[hdrop,List.append_nil] at hcr;have hflat:(parts.toList.map fun (p:Nat×Operand)=>(p.1,ρ p.2)).flatMap (·.2.cells)=((parts.toList.map fun (p:Nat×Operand)=>(p.1,ρ p.2)).map Prod.snd).flatMap AV.cells:=by simp only[List.flatMap_map,List.map_map,Function.comp_def]
 rw[hflat] at hcr
 obtain ⟨hfl,hfg⟩:=JHB ed.size ((parts.toList.map fun (p:Nat×Operand)=>(p.1,ρ p.2)).map Prod.snd) (fun x hx=>by
  obtain ⟨p,hp,rfl⟩:=List.mem_map.1 hx
  exact (hk p hp).2)
 have hvl:vs.size=len*ed.size:=by rw[← hcr.len,hfl,List.length_map,hlen]
 have hxl:((parts.toList.map fun (p:Nat×Operand)=>(p.1,ρ p.2)).map Prod.snd).length=len:=by rw[List.length_map,hlen]
 have hxc:∀ i (h:i<((parts.toList.map fun (p:Nat×Operand)=>(p.1,ρ p.2)).map Prod.snd).length),(((parts.toList.map fun (p:Nat×Operand)=>(p.1,ρ p.2)).map Prod.snd)[i]).cells.length=ed.size:=fun i h=>by
  have:=List.getElem_mem h;obtain ⟨p,hp,he⟩:=List.mem_map.1 this;rw[← he];exact (hk p hp).2
 have hrun:(Instr.buildSlice t len (parts.map fun (p:Nat×Operand)=>(p.1,ρc p.2))).run P w=.ok (.slice (some ⟨w.heap.size,0,none⟩) len len) (w.alloc (.cells vs e)):=by
  have hbig:¬ (2 ^ 24<len*ed.size):=by omega
  by_cases hl0:len*ed.size=0
  ·have hp:parts.toList=[]:=by
    have h1:len=0:=by
     rcases Nat.mul_eq_zero.1 hl0 with h|h
     ·exact h
     ·omega
    rw[h1] at hlen;exact List.map_eq_nil_iff.1 (List.eq_nil_of_length_eq_zero hlen)
   have hvs:vs=#[]:=by
    rw[hl0] at hvl;exact Array.eq_empty_of_size_eq_zero hvl
   have hpe:parts=#[]:=by
    apply Array.ext'
    simpa using hp
   subst hvs;subst hpe;simp[Instr.buildSlice,Sem.run_bind,run_underlying hu,ht.run_size w,hl0,Instr.fill,newRow,Array.range_zero']
  ·have hl0':¬ (len=0∨ed.size=0):=by
    rintro (h|h)
    ·exact hl0 (by simp[h])
    ·omega
   obtain ⟨z',hz',hzrun⟩:=ht.run_zero w;have hze:(zeroValue e).run P w=.ok z w:=by simp[zeroValue,typeInfo,hit,hz,go_sem]
   simp only[Instr.buildSlice,Sem.run_bind,run_underlying hu,ht.run_size w,Result.andThen_ok,gt_iff_lt,hbig,if_false,hl0,hze,Sem.run_pure];have hf':Instr.fill (fun i=>some (i*ed.size,ed.size)) ((Array.range (len*ed.size)).map fun k=>z.cells[k%z.cells.size]!) (parts.map fun (p:Nat×Operand)=>(p.1,ρc p.2)).toList=some vs:=by simpa using hf
   rw[hf'];simp[newRow,Sem.run_bind]
 obtain ⟨hr',htr⟩:=hr.new (d:=d) (γ:=γ) (e:=e) (n:=ed.size) vs ((parts.toList.map fun (p:Nat×Operand)=>(p.1,ρ p.2)).map Prod.snd) hγ hpos hxc (by rw[hxl];omega) (fun i j=>vs.getD (i*ed.size+j) undef)
  (fun i h j hj=>by
    have hlt:i*ed.size+j<vs.size:=by
     rw[hvl];have:i*ed.size+ed.size≤len*ed.size:=by rw[← Nat.succ_mul];exact Nat.mul_le_mul_right _ (by omega)
     omega
    simp[Array.getD_eq_getD_getElem?,hlt])
  (fun i j h hj=>by
    have hlt:i*ed.size+j<vs.size:=by
     rw[hvl];have:i*ed.size+ed.size≤len*ed.size:=by rw[← Nat.succ_mul];exact Nat.mul_le_mul_right _ (by omega)
     omega
    have:=hcr.pl _ hlt
    simpa [Array.getD_eq_getD_getElem?,hlt] using this)
  (fun i h j hj=>by
    have hlt:i*ed.size+j<vs.size:=by
     rw[hvl];have h1:=hxc i h;have:i*ed.size+ed.size≤len*ed.size:=by rw[← Nat.succ_mul];exact Nat.mul_le_mul_right _ (by omega)
     omega
    have hg:=hfg i h j hj;have hlt':i*ed.size+j<(((parts.toList.map fun (p:Nat×Operand)=>(p.1,ρ p.2)).map Prod.snd).flatMap AV.cells).length:=by rw[hcr.len];exact hlt
    have:=hcr.rel _ hlt' hlt;rw[List.getElem?_eq_getElem hlt',Option.some.injEq] at hg;rw[hg] at this
    simpa [Array.getD_eq_getD_getElem?,hlt] using this) (fun h=>absurd h hne)
 refine ⟨_,_,hC,fun b g B h=>by cases h;exact ⟨rfl,rfl⟩,_,_,_,hrun,hr',htr,?_,fun b g h=>J0E _ _ _ _ (h _ _ _ rfl)⟩
 have:=VR.own (κ:=κ.set d γ ⟨some w.heap.size,ed.size,vs.size⟩) (w:=w.alloc (.cells vs e)) (N:=Nset gh.O (κ.set d γ ⟨some w.heap.size,ed.size,vs.size⟩) (setH H d (some (γ,⟨e,ed.size,(parts.toList.map fun (p:Nat×Operand)=>(p.1,ρ p.2)).map Prod.snd⟩)))) d γ 0 len len w.heap.size _ (J09 ..) rfl (Nat.le_refl _)
  ⟨by simp[hvl],by
   have:len≤len*ed.size:=Nat.le_mul_of_pos_right _ hpos
   simp[maxLen];omega⟩ hpos
 simpa [app] using this
end
end Go.Fw
