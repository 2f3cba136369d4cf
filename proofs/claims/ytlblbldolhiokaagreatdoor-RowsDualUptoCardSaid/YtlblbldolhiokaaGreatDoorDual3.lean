/- Part 3 of the proof. -/
import Derived.Test.YtlblbldolhiokaaGreatDoorDual2
import Derived.WalkLawsBesides
import Derived.Laws.StructEq
import Derived.Laws.Small
set_option linter.unusedVariables false
set_option linter.unusedSimpArgs false
set_option linter.unusedSectionVars false
set_option maxRecDepth 100000
set_option exponentiation.threshold 400
set_option maxHeartbeats 8000000
namespace Go.Fw
open Go.RowKit
section
variable {P:Program} {T:Nat→Option TD} {κ:KM} {N:Nat→Prop} {w:World}
def fieldOf (T:Nat→Option TD)(s f:Nat)(C:Nat→TD→Prop):Prop:=
 ∃ d,T s=some d∧∃ fs,d.kind=.struct fs∧∃ p,fs[f]?=some p∧∃ fd,T p.2=some fd∧C p.1 fd
theorem J46 (hT:TOk P T){s f:Nat}{C:Nat→TD→Prop}(h:fieldOf T s f C)(w:World) :
  ∃ fields,∃ fl:Field,(underlying s).run P w=.ok (.struct fields) w∧fields[f]?=some fl∧∃ fd,TFact P fl.type fd∧C fl.offset fd:=by
 obtain ⟨d,hd,fs,hk,p,hp,fd,hfd,hC⟩:=h;obtain ⟨u,hu,hr⟩:=(J0W (hT _ _ hd)).run_under w;rw[hk] at hu;cases u<;>simp[kdOf] at hu
 rename_i fields;subst hu;simp only[List.getElem?_map,Option.map_eq_some_iff] at hp;obtain ⟨fl,hfl,rfl⟩:=hp;exact ⟨fields,fl,hr,by simpa using hfl,fd,J0W (hT _ _ hfd),hC⟩
def evFieldAddr (T:Nat→Option TD)(s:Nat)(p:AV)(f:Nat)(C:AV→Prop):Prop:=
 match p with
 |.ep y k=>fieldOf T s f fun o _=>C (.ep y (k+o))
 |.op b g i k=>fieldOf T s f fun o _=>C (.op b g i (k+o))
 |_=>False
theorem J5G (hT:TOk P T){s:Nat}{p:AV}{f:Nat}{v:Value}(hv:VR κ w N p v){C:AV→Prop}(h:evFieldAddr T s p f C) :
  ∃ x u,C x∧(Instr.fieldAt s v f).run P w=.ok u w∧VR κ w N x u:=by
 unfold evFieldAddr at h;split at h
 ·rename_i y k;obtain ⟨fields,fl,hr,hfl,fd,ht,hC⟩:=J46 hT h w;have hpos:=ht.pos
  cases hv with
  |ep _ _ c o g h1 h2 h3 h4 h5=>
    refine ⟨_,_,hC,?_,.ep y (k+fl.offset) c o g h1 h2 h3 h4 h5⟩;simp[Instr.fieldAt,Instr.sureAddr,Sem.run_bind,hr,hfl,fieldPlace,ht.run_size w,show fd.size≠0 by omega,J0Y,Nat.add_assoc]
 ·rename_i b g i k;obtain ⟨fields,fl,hr,hfl,fd,ht,hC⟩:=J46 hT h w;have hpos:=ht.pos
  cases hv with
  |op _ _ _ _ c K hk hc hp=>
    refine ⟨_,_,hC,?_,.op b g i (k+fl.offset) c K hk hc hp⟩;simp[Instr.fieldAt,Instr.sureAddr,Sem.run_bind,hr,hfl,fieldPlace,ht.run_size w,show fd.size≠0 by omega,J0Y,Nat.add_assoc]
 ·exact h.elim
theorem JBN {t:Nat}{d:TD}(ht:TFact P t d){cs:List AV}{vs:Array Value}{k:Nat}(hv:VR κ w N (.agg cs) (.agg vs))(hf:fits d (.agg cs) k) :
  ∃ u,(part t vs k).run P w=.ok u w∧VR κ w N (cut d (.agg cs) k) u:=by
 unfold fits at hf
 cases hv with
 |agg _ _ h1 h2 h3=>
   have hf':k+d.size≤cs.length:=hf;simp only[part,Sem.run_bind,ht.run_isAgg w,Result.andThen_ok]
   cases ha:d.kind.agg with
   |false=>
     have h1':=ht.one ha;have hk:k<cs.length:=by omega
     have hk':k<vs.size:=by omega
     refine ⟨vs[k],by simp[hk'],?_⟩;simp only[cut,ha,AV.cells_agg,Bool.false_eq_true,if_false];rw[List.getD_eq_getElem?_getD,List.getElem?_eq_getElem hk];exact h2 k hk hk'
   |true=>
     refine ⟨.agg (vs.extract k (k+d.size)),by simp[ht.run_size w,Sem.run_bind],?_⟩;simp only[cut,ha,if_true,AV.cells_agg];refine .agg _ _ (by simp;omega) (fun i h h'=>?_) (fun i h'=>?_)
     ·simp only[List.getElem_take,List.getElem_drop,Array.getElem_extract];exact h2 _ _ _
     ·simp only[Array.getElem_extract];exact h3 _ _
def evField (T:Nat→Option TD)(s:Nat)(x:AV)(f:Nat)(C:AV→Prop):Prop:=
 match x with
 |.agg cs=>fieldOf T s f fun o fd=>fits fd (.agg cs) o∧C (cut fd (.agg cs) o)
 |_=>False
theorem J8c (hT:TOk P T){s:Nat}{p:AV}{f:Nat}{v:Value}(hv:VR κ w N p v){C:AV→Prop}(h:evField T s p f C) :
  ∃ x u,C x∧(Instr.field s v f).run P w=.ok u w∧VR κ w N x u:=by
 unfold evField at h;split at h
 ·rename_i cs;obtain ⟨fields,fl,hr,hfl,fd,ht,hf,hC⟩:=J46 hT h w
  cases hv with
  |agg _ vs h1 h2 h3=>
    obtain ⟨u,hu,hx⟩:=JBN ht (.agg cs vs h1 h2 h3) hf;exact ⟨_,u,hC,by simp[Instr.field,asAgg,Sem.run_bind,hr,hfl,hu],hx⟩
 ·exact h.elim
def elemOfT (T:Nat→Option TD)(t:Nat)(C:TD→Prop):Prop:=∃ d,T t=some d∧∃ e,d.kind=.slice e∧∃ ed,T e=some ed∧C ed
theorem J2s (hT:TOk P T){t:Nat}{C:TD→Prop}(h:elemOfT T t C)(w:World):∃ e ed,(underlying t).run P w=.ok (.slice e) w∧P.underlying t=some (.slice e)∧TFact P e ed∧C ed:=by
 obtain ⟨d,hd,e,hk,ed,hed,hC⟩:=h;obtain ⟨u,hu,hr⟩:=(J0W (hT _ _ hd)).und;rw[hk] at hr;cases u<;>simp[kdOf] at hr
 subst hr;exact ⟨_,ed,run_underlying hu w,hu,J0W (hT _ _ hed),hC⟩
def arrOfT (T:Nat→Option TD)(t:Nat)(C:Nat→TD→Prop):Prop:=∃ d,T t=some d∧∃ n e,d.kind=.array n e∧∃ ed,T e=some ed∧C n ed
theorem J7W (hT:TOk P T){t:Nat}{C:Nat→TD→Prop}(h:arrOfT T t C)(w:World):∃ n e ed,(underlying t).run P w=.ok (.array n e) w∧TFact P e ed∧C n ed:=by
 obtain ⟨d,hd,n,e,hk,ed,hed,hC⟩:=h;obtain ⟨u,hu,hr⟩:=(J0W (hT _ _ hd)).und;rw[hk] at hr;cases u<;>simp[kdOf] at hr
 obtain ⟨rfl,rfl⟩:=hr;exact ⟨_,_,ed,run_underlying hu w,J0W (hT _ _ hed),hC⟩
def evIndexAddr (T:Nat→Option TD)(H:Hp)(t:Nat)(x ix:AV)(C:AV→Prop):Prop:=
 match x,ix with
 |.sl n xs,.val (.int _ i)=>elemOfT T t fun ed=>n=ed.size∧0≤i∧i<xs.length∧C (.ep (xs.getD i.toNat .dead) 0)
 |.own b g off len,.val (.int _ i)=>elemOfT T t fun ed=>∃ B,H b=some (g,B)∧B.n=ed.size∧0≤i∧i<len∧C (.op b g (off+i.toNat) 0)
 |.op b g j k,.val (.int _ i)=>arrOfT T t fun n ed=>0≤i∧i<n∧C (.op b g j (k+i.toNat*ed.size))
 |.ep y k,.val (.int _ i)=>arrOfT T t fun n ed=>0≤i∧i<n∧C (.ep y (k+i.toNat*ed.size))
 |_,_=>False
theorem J5F (hT:TOk P T){gh:Gh}{H:Hp}(hr:HRel gh κ H w){t:Nat}{x ix:AV}{v iv:Value}(hv:VR κ w (Nset gh.O κ H) x v)(hi:VR κ w (Nset gh.O κ H) ix iv){C:AV→Prop}(h:evIndexAddr T H t x ix C) :
  ∃ x u,C x∧(Instr.indexAt t v iv).run P w=.ok u w∧VR κ w (Nset gh.O κ H) x u:=by
 unfold evIndexAddr at h;split at h
 ·rename_i n xs k i;obtain ⟨e,ed,hu,_,ht,hn,h0,hlt,hC⟩:=J2s hT h w
  cases hi with
  |val _ _=>
  cases hv with
  |slnil=>simp at hlt;omega
  |slemp=>simp at hlt;omega
  |sl _ _ c o cap f h1 h2 h3 h4 h5 h6 h7=>
    have hl:i.toNat<xs.length:=by omega
    have e1:xs.getD i.toNat .dead=xs[i.toNat]:=by rw[List.getD_eq_getElem?_getD,List.getElem?_eq_getElem hl];rfl
    obtain ⟨A,et,z,hb,_⟩:=h3;have hlt':c<w.heap.size:=(Array.getElem?_eq_some_iff.1 hb).1;refine ⟨_,.pointer (some ⟨c,o+i.toNat*n,none⟩),hC,?_,?_⟩
    ·simp[Instr.indexAt,asIntOf,Sem.run_bind,hu,h0,hlt,ht.run_size w,J0Y,hn]
    ·have:=VR.ep (κ:=κ) (w:=w) (N:=Nset gh.O κ H) xs[i.toNat] 0 c (o+i.toNat*n) (f i.toNat) h2 hlt' (fun j hj=>h5 i.toNat hl j (by rw[h4 i.toNat hl] at hj;exact hj)) (fun j hj=>h6 i.toNat hl j hj)
      (fun j hj=>h7 i.toNat j hl (by rw[h4 i.toNat hl] at hj;exact hj))
     rw[e1]
     simpa using this
 ·rename_i b g off len k i;obtain ⟨e,ed,hu,_,ht,B,hB,hn,h0,hlt,hC⟩:=J2s hT h w
  cases hi with
  |val _ _=>
  obtain ⟨K',hk',hbr⟩:=hr.blk _ _ _ hB
  cases hv with
  |ownnil=>simp at hlt;omega
  |own _ _ _ _ cap c K hk hc h1 h2 hp=>
    have hbr:BlkRel κ w (Nset gh.O κ H) K B:=by rw[hk] at hk';cases hk';exact hbr
    refine ⟨_,.pointer (some ⟨c,(off+i.toNat)*K.n+0,none⟩),hC,?_,.op b g (off+i.toNat) 0 c K hk hc hp⟩;have:K.n=ed.size:=(hbr.rows hp).1.trans hn;simp[Instr.indexAt,asIntOf,Sem.run_bind,hu,h0,hlt,ht.run_size w,J0Y,this,Nat.add_mul]
 ·rename_i b g j k k' i;obtain ⟨n,e,ed,hu,ht,h0,hlt,hC⟩:=J7W hT h w
  cases hi with
  |val _ _=>
  cases hv with
  |op _ _ _ _ c K hk hc hp=>
    refine ⟨_,.pointer (some ⟨c,j*K.n+(k+i.toNat*ed.size),none⟩),hC,?_,.op b g j _ c K hk hc hp⟩;simp[Instr.indexAt,Instr.sureAddr,asIntOf,Sem.run_bind,hu,h0,hlt,ht.run_size w,J0Y,Nat.add_assoc]
 ·rename_i y k k' i;obtain ⟨n,e,ed,hu,ht,h0,hlt,hC⟩:=J7W hT h w
  cases hi with
  |val _ _=>
  cases hv with
  |ep _ _ c o f h1 h2 h3 h4 h5=>
    refine ⟨_,.pointer (some ⟨c,o+(k+i.toNat*ed.size),none⟩),hC,?_,.ep y _ c o f h1 h2 h3 h4 h5⟩;simp[Instr.indexAt,Instr.sureAddr,asIntOf,Sem.run_bind,hu,h0,hlt,ht.run_size w,J0Y,Nat.add_assoc]
 ·exact h.elim
def byteAt (s:ByteArray)(i:Nat):Int:=if h:i<s.size then (s[i].toNat:Int) else 0
def evIndex (T:Nat→Option TD)(t:Nat)(x ix:AV)(C:AV→Prop):Prop:=
 match x,ix with
 |.val (.string s),.val (.int _ i)=>(∃ d,T t=some d∧d.kind=.str)∧0≤i∧i<s.size∧C (.val (.int .u8 (byteAt s i.toNat)))
 |.agg cs,.val (.int _ i)=>arrOfT T t fun n ed=>0≤i∧i<n∧fits ed (.agg cs) (i.toNat*ed.size)∧C (cut ed (.agg cs) (i.toNat*ed.size))
 |_,_=>False
theorem J8a (hT:TOk P T){t:Nat}{x ix:AV}{v iv:Value}(hv:VR κ w N x v)(hi:VR κ w N ix iv){C:AV→Prop}(h:evIndex T t x ix C) :
  ∃ x u,C x∧(Instr.index t v iv).run P w=.ok u w∧VR κ w N x u:=by
 unfold evIndex at h;split at h
 ·rename_i s k i;obtain ⟨⟨d,hd,hk⟩,h0,hlt,hC⟩:=h;obtain ⟨u,hu,hr⟩:=(J0W (hT _ _ hd)).run_under w;rw[hk] at hu;cases u<;>simp[kdOf] at hu
  cases hi with
  |val _ _=>
  cases hv with
  |val _ _=>
    have hl:i.toNat<s.size:=by omega
    refine ⟨_,_,hC,?_,.val _ rfl⟩;simp[Instr.index,asIntOf,Sem.run_bind,hr,h0,hl,byteAt]
 ·rename_i cs k i;obtain ⟨n,e,ed,hu,ht,h0,hlt,hf,hC⟩:=J7W hT h w
  cases hi with
  |val _ _=>
  cases hv with
  |agg _ vs h1 h2 h3=>
    obtain ⟨u,hp,hx⟩:=JBN ht (.agg cs vs h1 h2 h3) hf;exact ⟨_,u,hC,by simp[Instr.index,asIntOf,Sem.run_bind,hu,h0,hlt,ht.run_size w,hp],hx⟩
 ·exact h.elim
def evExtract (x:AV)(i:Nat)(C:AV→Prop):Prop:=
 match x with
 |.tup vs=>i<vs.length∧C (vs.getD i .dead)
 |_=>False
theorem J5H {x:AV}{v:Value}{i:Nat}(hv:VR κ w N x v){C:AV→Prop}(h:evExtract x i C):∃ x u,C x∧(Instr.extract v i).run P w=.ok u w∧VR κ w N x u:=by
 unfold evExtract at h;split at h
 ·rename_i vs;obtain ⟨hi,hC⟩:=h
  cases hv with
  |tup _ us h1 h2=>
    have hi':i<us.size:=by omega
    refine ⟨_,us[i],hC,by simp[Instr.extract,hi'],?_⟩;rw[List.getD_eq_getElem?_getD,List.getElem?_eq_getElem hi];exact h2 i hi hi'
 ·exact h.elim
end
end Go.Fw
