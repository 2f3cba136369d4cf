/- Part 9 of the proof. -/
import Derived.Test.YtlblbldolhiokaaGreatDoorDual8
set_option linter.unusedVariables false
set_option linter.unusedSimpArgs false
set_option linter.unusedSectionVars false
set_option maxRecDepth 100000
set_option exponentiation.threshold 400
set_option maxHeartbeats 8000000
namespace Go.Fw
open Go.RowKit
section
variable {P:Program} {T:Nat→Option TD} {gh:Gh} {κ:KM} {H:Hp} {w:World}
def elemT (T:Nat→Option TD)(t:Nat)(C:Nat→TD→Prop):Prop:=∃ d,T t=some d∧∃ e,d.kind=.slice e∧∃ ed,T e=some ed∧e≠solo∧C e ed
theorem J2T (hT:TOk P T){t:Nat}{C:Nat→TD→Prop}(h:elemT T t C):∃ e ed,P.underlying t=some (.slice e)∧TFact P e ed∧C e ed:=by
 obtain ⟨d,hd,e,hk,ed,hed,_,hC⟩:=h;obtain ⟨u,hu,hr⟩:=(J0W (hT _ _ hd)).und;rw[hk] at hr;cases u<;>simp[kdOf] at hr
 subst hr;exact ⟨_,ed,hu,J0W (hT _ _ hed),hC⟩
theorem elemT.ne {t:Nat}{C:Nat→TD→Prop}(h:elemT T t C):elemT T t fun e ed=>e≠solo∧C e ed:=by
 obtain ⟨d,hd,e,hk,ed,hed,hn,hC⟩:=h;exact ⟨d,hd,e,hk,ed,hed,hn,hn,hC⟩
def evMake (T:Nat→Option TD)(t d γ:Nat)(l c:AV)(C:AV→Up→Prop):Prop:=
 match l,c with
 | .val (.int _ l),.val (.int _ c)=>elemT T t fun e ed=>0≤l∧l≤c∧(ed.bytes:Int)*c≤281474976710656∧c≤9223372036854775807 ∧
  C (.own d γ 0 l.toNat) (some (d,γ,⟨e,ed.size,List.replicate l.toNat (mkEl ed)⟩))
 |_,_=>False
theorem J9D (hT:TOk P T)(hr:HRel gh κ H w){t d γ:Nat}(hγ:κ d γ=none){l c:AV}{vl vc:Value}(hl:VR κ w (Nset gh.O κ H) l vl)(hc:VR κ w (Nset gh.O κ H) c vc){C:AV→Up→Prop}(h:evMake T t d γ l c C) :
  ∃ x up,C x up∧(∀ b g B,up=some (b,g,B)→b=d∧g=γ)∧Does P gh κ H w (Instr.makeSlice t vl vc) up fun κ' w' N' r=>VR κ' w' N' x r:=by
 unfold evMake at h;split at h
 ·rename_i k l k' c;obtain ⟨e,ed,hu,ht,hne,h0,h1,h2,h3,hC⟩:=J2T hT h.ne
  cases hl with
  |val _ _ => cases hc with
    |val _ _=>
      obtain ⟨i,z,hi,hs,hby,hz,hzc⟩:=ht.info;obtain ⟨z1,z2,z3⟩:=VR.zero (κ:=κ) (w:=w) (N:=Nset gh.O κ H) ht hzc;have hl:(mkEl ed).cells.length=ed.size:=by rw[J12 ht];simp[ht.len]
      have hpos:=ht.pos;have hrun:=run_make (P:=P) w t e i z hu hi hz k k' l c h0 h1 (by rw[hby];exact h2) h3
      have hA:∀ m,m<c.toNat*i.size→(madeCells z.cells (c.toNat*i.size))[m]?=some (z.cells.getD (m%ed.size) undef):=by
       intro m hm;have hlt:m%ed.size<z.cells.size:=by rw[z1,hl];exact Nat.mod_lt _ hpos
       have hzs:z.cells.size=ed.size:=z1.trans hl;simp[madeCells,hm,hzs,Array.getElem!_eq_getD,Array.getD_eq_getD_getElem?,Array.getElem?_eq_getElem hlt]
      have hcs:l.toNat*ed.size≤c.toNat*i.size:=by rw[hs];exact Nat.mul_le_mul_right _ (by omega)
      obtain ⟨hr',htr⟩:=hr.new (d:=d) (γ:=γ) (e:=e) (n:=ed.size) (madeCells z.cells (c.toNat*i.size)) (List.replicate l.toNat (mkEl ed)) hγ ht.pos (fun j h=>by simp[hl]) (by simpa [size_madeCells] using hcs)
       (fun _ j=>z.cells.getD j undef)
       (fun a ha j hj=>by
         rw[hA _ ?_]
         ·congr 2
          rw[Nat.mul_comm,Nat.mul_add_mod];exact Nat.mod_eq_of_lt hj
         ·simp at ha;have:a*ed.size+ed.size≤l.toNat*ed.size:=by rw[← Nat.succ_mul];exact Nat.mul_le_mul_right _ (by omega)
          omega)
       (fun a j ha hj=>by have:=z3 j (by rw[z1,hl];exact hj);simpa [z1,hl,hj] using this)
       (fun a ha j hj=>by
         simp only[List.getElem_replicate] at hj ⊢;have:=z2 j hj (by rw[z1];exact hj)
         simpa [z1,hj] using this) (fun h=>absurd h hne)
      refine ⟨_,_,hC,fun b g B h=>by cases h;exact ⟨rfl,rfl⟩,_,_,_,hrun,hr',htr,?_,fun b g h=>J0E _ _ _ _ (h _ _ _ rfl)⟩
      have:=VR.own (κ:=κ.set d γ ⟨some w.heap.size,ed.size,(madeCells z.cells (c.toNat*i.size)).size⟩) (w:=w.alloc (.cells (madeCells z.cells (c.toNat*i.size)) e)) (N:=Nset gh.O (κ.set d γ ⟨some w.heap.size,ed.size,(madeCells z.cells (c.toNat*i.size)).size⟩) (setH H d (some (γ,⟨e,ed.size,List.replicate l.toNat (mkEl ed)⟩)))) d γ 0 l.toNat c.toNat w.heap.size _ (J09 ..) rfl (by omega)
       ⟨by simp[size_madeCells,hs],by simp[maxLen];omega⟩ ht.pos
      simpa [app] using this
 ·exact h.elim
structure CR (κ:KM) (w:World) (N:Nat→Prop) (cs:List AV) (vs:Array Value):Prop where
 len:cs.length=vs.size
 rel:∀ i (h:i<cs.length) (h':i<vs.size),VR κ w N cs[i] vs[i]
 pl:∀ i (h':i<vs.size),plainV vs[i]=true
theorem VR.cr {N:Nat→Prop}{x:AV}{v:Value}(h:VR κ w N x v)(hk:J2K x=true):CR κ w N x.cells v.cells:=by
 obtain ⟨h1,h2,h3⟩:=h.cellsOf hk;exact ⟨h1.symm,h2,h3⟩
theorem CR.agg {N:Nat→Prop}{cs:List AV}{vs:Array Value}(h:CR κ w N cs vs):VR κ w N (.agg cs) (.agg vs):=.agg cs vs h.len h.rel h.pl
def over (cs:List AV)(o:Nat)(ys:List AV):List AV:=cs.take o++ys++cs.drop (o+ys.length)
theorem JEu (vs:List Value)(o:Nat):∀ (k:Nat) (cells:Array Value),o+k+vs.length≤cells.size →
  ((vs.zipIdx k).foldl (fun cs (cj:Value×Nat)=>cs.setIfInBounds (o+cj.2) cj.1) cells).toList=cells.toList.take (o+k)++vs++cells.toList.drop (o+k+vs.length):=by
 induction vs with
 |nil=>intro k cells h;simp
 |cons v vs ih=>
   intro k cells h;simp only[List.length_cons] at h;simp only[List.zipIdx_cons,List.foldl_cons];rw[ih (k+1) _ (by simp;omega)];have e:=list_seg_step cells.toList (o+k) v vs (by simp;omega)
   simpa [Array.toList_setIfInBounds,Nat.add_assoc] using e
theorem CR.fill1 {N:Nat→Prop}{cs:List AV}{vs:Array Value}(h:CR κ w N cs vs){x:AV}{v:Value}(hv:VR κ w N x v)(hk:J2K x=true){o:Nat}(ho:o+x.cells.length≤cs.length) :
  CR κ w N (over cs o x.cells) (v.cells.zipIdx.foldl (fun cs (c,j)=>cs.setIfInBounds (o+j) c) vs):=by
 have hx:=hv.cr hk
 have e:(v.cells.zipIdx.foldl (fun cs (c,j)=>cs.setIfInBounds (o+j) c) vs).toList=vs.toList.take o++v.cells.toList++vs.toList.drop (o+v.cells.toList.length):=by
  have:=JEu v.cells.toList o 0 vs (by have:=h.len;have:=hx.len;simp;omega);simp only[Nat.add_zero] at this;rw[← this,← Array.foldl_toList];simp
 generalize (v.cells.zipIdx.foldl (fun cs (c,j)=>cs.setIfInBounds (o+j) c) vs)=us at e ⊢;obtain ⟨us⟩:=us;simp only at e;subst e;have hl:=h.len;have hxl:=hx.len;refine ⟨by simp[over];omega,fun i h1 h2=>?_,fun i h2=>?_⟩
 ·simp only[over,List.append_assoc,List.getElem_toArray,List.getElem_append,List.length_take,List.getElem_take,List.getElem_drop,Array.length_toList];simp only[over,List.length_append,List.length_take,List.length_drop] at h1
  by_cases a1:i<o
  ·have b1:i<min o cs.length:=by omega
   have b2:i<min o vs.size:=by omega
   simp only[b1,b2,↓reduceDIte];exact h.rel i (by omega) (by omega)
  ·have b1:¬ i<min o cs.length:=by omega
   have b2:¬ i<min o vs.size:=by omega
   by_cases a2:i-o<x.cells.length
   ·have b3:i-min o cs.length<x.cells.length:=by omega
    have b4:i-min o vs.size<v.cells.size:=by omega
    simp only[b1,b2,b3,b4,↓reduceDIte,Array.getElem_toList];have:=hx.rel (i-o) a2 (by omega)
    simpa only [show min o cs.length=o by omega,show min o vs.size=o by omega] using this
   ·have b3:¬ i-min o cs.length<x.cells.length:=by omega
    have b4:¬ i-min o vs.size<v.cells.size:=by omega
    simp only[b1,b2,b3,b4,↓reduceDIte,Array.getElem_toList];have e1:o+x.cells.length+(i-min o cs.length-x.cells.length)=i:=by omega
    have e2:o+v.cells.size+(i-min o vs.size-v.cells.size)=i:=by omega
    simp only[e1,e2];exact h.rel i (by omega) (by omega)
 ·simp only[List.append_assoc,List.getElem_toArray,List.getElem_append,List.length_take,List.getElem_take,List.getElem_drop,Array.length_toList];split
  ·exact h.pl _ _
  ·split
   ·exact hx.pl _ _
   ·exact h.pl _ _
end
end Go.Fw
