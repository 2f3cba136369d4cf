/- Part 2 of the proof. -/
import Derived.Test.YtlblbldolhiokaaGreatDoorDual1
set_option linter.unusedVariables false
set_option linter.unusedSimpArgs false
set_option linter.unusedSectionVars false
set_option maxRecDepth 100000
set_option exponentiation.threshold 400
set_option maxHeartbeats 8000000
namespace Go.Fw
open Go.RowKit
inductive Kd where
 |word|str|bool|ptr|func
 |int (k:IntKind)
 |slice (e:Nat)
 |struct (fs:List (Nat×Nat))
 |array (len e:Nat)
 |map (k e:Nat)
def Kd.agg:Kd→Bool
 |.struct _|.array _ _=>true
 |_=>false
def kdOf:TypeDesc→Kd
 |.bool=>.bool
 |.int k=>.int k
 |.string=>.str
 |.pointer _=>.ptr
 |.slice e=>.slice e
 |.array n e=>.array n e
 |.map k e=>.map k e
 |.struct fs=>.struct (fs.toList.map fun f=>(f.offset,f.type))
 |.func _ _ _=>.func
 |_=>.word
structure TD where
 size:Nat
 bytes:Nat
 zero:List Value
 kind:Kd
def aggV:Value→Bool
 |.agg _=>true
 |_=>false
def tdOf (P:Program)(t:Nat):Option TD:=
 match P.info? t,P.underlying t with
 |some i,some d=>match i.zero with
   |some z=>if z.cells.toList.length=i.size∧(kdOf d).agg=aggV z∧((kdOf d).agg=true∨i.size=1)∧z.cells.toList.all plainV=true∧0<i.size then some ⟨i.size,i.bytes,z.cells.toList,kdOf d⟩ else none
   |none=>none
 |_,_=>none
structure TFact (P:Program) (t:Nat) (d:TD):Prop where
 info:∃ i z,P.info? t=some i∧i.size=d.size∧i.bytes=d.bytes∧i.zero=some z∧z.cells.toList=d.zero
 und:∃ u,P.underlying t=some u∧kdOf u=d.kind
 len:d.zero.length=d.size
 one:d.kind.agg=false→d.size=1
 pos:0<d.size
 pl:∀ v∈d.zero,plainV v=true
theorem J0W {P:Program}{t:Nat}{d:TD}(h:tdOf P t=some d):TFact P t d:=by
 unfold tdOf at h;split at h
 ·rename_i i u hi hu;split at h
  ·rename_i z hz
   by_cases hc:z.cells.toList.length=i.size∧(kdOf u).agg=aggV z∧((kdOf u).agg=true∨i.size=1)∧z.cells.toList.all plainV=true∧0<i.size
   ·rw[if_pos hc] at h;obtain ⟨h1,h2,h3,h4,h5⟩:=hc;cases h;exact ⟨⟨i,z,hi,rfl,rfl,hz,rfl⟩,⟨u,hu,rfl⟩,h1,fun hn=>h3.resolve_left (by simp[hn]),h5,List.all_eq_true.1 h4⟩
   ·rw[if_neg hc] at h;cases h
  ·cases h
 ·cases h
section
variable {P:Program} {t:Nat} {d:TD} (w:World)
theorem TFact.run_size (h:TFact P t d):(sizeOf t).run P w=.ok d.size w:=by
 obtain ⟨i,z,hi,hs,_⟩:=h.info;simp[sizeOf,typeInfo,hi,hs,go_sem]
theorem TFact.run_under (h:TFact P t d):∃ u,kdOf u=d.kind∧(underlying t).run P w=.ok u w:=by
 obtain ⟨u,hu,hk⟩:=h.und;exact ⟨u,hk,run_underlying hu w⟩
theorem TFact.run_isAgg (h:TFact P t d):(isAgg t).run P w=.ok d.kind.agg w:=by
 obtain ⟨u,hu,hk⟩:=h.und;simp only[isAgg,Sem.run_bind,run_underlying hu w,Result.andThen_ok];rw[← hk];cases u<;>rfl
theorem TFact.run_zero (h:TFact P t d):∃ z,z.cells.toList=d.zero∧(zeroValue t).run P w=.ok z w:=by
 obtain ⟨i,z,hi,_,_,hz,hc⟩:=h.info;exact ⟨z,hc,by simp[zeroValue,typeInfo,hi,hz,go_sem]⟩
end
def mkEl (d:TD):AV:=if d.kind.agg then .agg (d.zero.map .val) else .val (d.zero.headD undef)
theorem J12 {P:Program}{t:Nat}{d:TD}(h:TFact P t d):(mkEl d).cells=d.zero.map .val:=by
 unfold mkEl;split
 ·rfl
 ·rename_i hn;have h1:=h.one (by simpa using hn);have h2:=h.len;rw[h1] at h2
  match hz:d.zero,h2 with
  |[v],_=>rfl
def cut (d:TD)(y:AV)(k:Nat):AV:=if d.kind.agg then .agg ((y.cells.drop k).take d.size) else y.cells.getD k .dead
def fits (d:TD)(y:AV)(k:Nat):Prop:=k+d.size≤y.cells.length
theorem J0Y (c o j:Nat):(⟨c,o,none⟩:Addr).add j=⟨c,o+j,none⟩:=by unfold Addr.add;split<;>simp_all
theorem J5E {P:Program}{t:Nat}{d:TD}(ht:TFact P t d){κ:KM}{w:World}{N:Nat→Prop}{y:AV}{k c o:Nat}{f:Nat→Value}
  (hc:∀ j,j<y.cells.length→w.cell? ⟨c,o+j,none⟩=some (f j))(hv:∀ j (h:j<y.cells.length),VR κ w N y.cells[j] (f j))
  (hp:∀ j,j<y.cells.length→plainV (f j)=true)(hf:fits d y k) :
  ∃ v,(loadVar t ⟨c,o+k,none⟩).run P w=.ok v w∧VR κ w N (cut d y k) v:=by
 unfold fits at hf;have hpos:=ht.pos;simp only[loadVar,Sem.run_bind,ht.run_isAgg w,Result.andThen_ok]
 cases ha:d.kind.agg with
 |false=>
   refine ⟨f k,?_,?_⟩
   ·simp[run_load,hc k (by omega)]
   ·simp only[cut,ha,Bool.false_eq_true,if_false];have hk:k<y.cells.length:=by omega
    rw[List.getD_eq_getElem?_getD,List.getElem?_eq_getElem hk];exact hv k hk
 |true=>
   have hl:=run_loadCells (P:=P) w ⟨c,o+k,none⟩ d.size (fun j=>f (k+j)) (fun j hj=>by rw[J0Y,Nat.add_assoc];exact hc (k+j) (by omega));refine ⟨.agg ((List.range d.size).map fun j=>f (k+j)).toArray,?_,?_⟩
   ·simp[ht.run_size w,hl,Sem.run_bind]
   ·simp only[cut,ha,if_true];refine .agg _ _ (by simp;omega) (fun i h h'=>?_) (fun i h'=>?_)
    ·simp only[List.getElem_toArray,List.getElem_map,List.getElem_range,List.getElem_take,List.getElem_drop];exact hv (k+i) _
    ·simp only[List.getElem_toArray,List.getElem_map,List.getElem_range];simp at h';exact hp _ (by omega)
theorem RowRel.elem {κ:KM}{w:World}{N:Nat→Prop}{K:KI}{B:Blk}(h:RowRel κ w N K B){c:Nat}(hc:K.c=some c)(i:Nat)(hi:i<B.xs.length) :
  ∃ f:Nat→Value,(∀ j,j<(B.xs.getD i .dead).cells.length→w.cell? ⟨c,i*K.n+j,none⟩=some (f j))∧(∀ j (h:j<(B.xs.getD i .dead).cells.length),VR κ w N (B.xs.getD i .dead).cells[j] (f j)) ∧
    ∀ j,j<(B.xs.getD i .dead).cells.length→plainV (f j)=true:=by
 obtain ⟨h1,h2,h3⟩:=h;have e:B.xs.getD i .dead=B.xs[i]:=by rw[List.getD_eq_getElem?_getD,List.getElem?_eq_getElem hi];rfl
 rcases h3 with ⟨h3,_⟩|⟨c',A,f,hc',hb,hm,hs,hf,hp,hv,_⟩
 ·rw[h3] at hc;cases hc
 ·rw[hc'] at hc;cases hc;refine ⟨f i,fun j hj=>?_,fun j hj=>?_,fun j hj=>hp i j hi (by rw[← h2 i hi,← e];exact hj)⟩
  ·rw[cell_of_row w c _ A B.e (0,0) hb,h1];exact hf i hi j (by rw[← h2 i hi,← e];exact hj)
  ·have:=hv i hi j (by rw[← e];exact hj)
   simpa only [e] using this
def evLoad (T:Nat→Option TD)(H:Hp)(t:Nat)(p:AV)(C:AV→Prop):Prop:=
 match p with
 |.ep y k=>∃ d,T t=some d∧fits d y k∧C (cut d y k)
 |.op b g i k=>∃ d,T t=some d∧∃ B,H b=some (g,B)∧i<B.xs.length∧fits d (B.xs.getD i .dead) k∧C (cut d (B.xs.getD i .dead) k)
 |_=>False
def TOk (P:Program)(T:Nat→Option TD):Prop:=∀ t d,T t=some d→tdOf P t=some d
theorem J47 {P:Program}{T:Nat→Option TD}(hT:TOk P T){gh:Gh}{κ:KM}{H:Hp}{w:World}(hr:HRel gh κ H w){t:Nat}{p:AV}{v:Value}(hv:VR κ w (Nset gh.O κ H) p v){C:AV→Prop}
  (h:evLoad T H t p C):∃ x u,C x∧(Instr.loadAt t v).run P w=.ok u w∧VR κ w (Nset gh.O κ H) x u:=by
 unfold evLoad at h;split at h
 ·rename_i y k;obtain ⟨d,ht,hf,hC⟩:=h
  cases hv with
  |ep _ _ c o f h1 h2 h3 h4 h5=>
    obtain ⟨u,hu,hx⟩:=J5E (J0W (hT _ _ ht)) h3 h4 h5 hf;exact ⟨_,u,hC,by simp[Instr.loadAt,Instr.sureAddr,Sem.run_bind,hu],hx.lift⟩
 ·rename_i b g i k;obtain ⟨d,ht,B,hB,hi,hf,hC⟩:=h
  cases hv with
  |op _ _ _ _ c K hk hc hp=>
    obtain ⟨K',hk',hbr⟩:=hr.blk _ _ _ hB;rw[hk] at hk';cases hk';obtain ⟨f,h3,h4,h5⟩:=(hbr.rows hp).elem hc i hi;obtain ⟨u,hu,hx⟩:=J5E (J0W (hT _ _ ht)) h3 h4 h5 hf;exact ⟨_,u,hC,by simp[Instr.loadAt,Instr.sureAddr,Sem.run_bind,hu],hx⟩
 ·exact h.elim
end Go.Fw
