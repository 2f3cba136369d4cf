/- Part 12 of the proof. -/
import Derived.Test.YtlblbldolhiokaaGreatDoorDual11
import Derived.ArgAppend
set_option linter.unusedVariables false
set_option linter.unusedSimpArgs false
set_option linter.unusedSectionVars false
set_option maxRecDepth 100000
set_option exponentiation.threshold 400
set_option maxHeartbeats 8000000
namespace Go.Fw
open Go.RowKit
def srcOf (H:Hp)(n:Nat)(y:AV)(C:List AV→Prop):Prop:=
 match y with
 |.sl m ys=>m=n∧C ys
 |.own b g off len=>∃ B,H b=some (g,B)∧B.n=n∧off+len≤B.xs.length∧C ((B.xs.drop off).take len)
 |.val (.slice none 0 0)=>C []
 |_=>False
section
variable {P:Program} {T:Nat→Option TD} {gh:Gh} {κ:KM} {H:Hp} {w:World}
structure Row (κ:KM) (w:World) (N:Nat→Prop) (n:Nat) (ys:List AV) (news:List Value):Prop where
 len:news.length=ys.length*n
 el:∀ i (h:i<ys.length),ys[i].cells.length=n
 pl:∀ u∈news,plainV u=true
 rel:∀ i (h:i<ys.length) j (h':j<ys[i].cells.length),VR κ w N ys[i].cells[j] (news.getD (i*n+j) undef)
theorem Row.nil {N:Nat→Prop}(n:Nat):Row κ w N n [] []:=⟨by simp,fun i h=>absurd h (by simp),fun u h=>absurd h (by simp),fun i h=>absurd h (by simp)⟩
theorem J4Q {i len n j:Nat}(hi:i<len)(hj:j<n):i*n+j<len*n:=by
 have:i*n+n≤len*n:=by rw[← Nat.succ_mul];exact Nat.mul_le_mul_right _ hi
 omega
theorem Row.append {N:Nat→Prop}{n:Nat}{xs ys:List AV}{a b:List Value}(h:Row κ w N n xs a)(k:Row κ w N n ys b):Row κ w N n (xs++ys) (a++b):=by
 refine ⟨by simp[h.len,k.len,Nat.add_mul],fun i hi=>?_,fun u hu=>?_,fun i hi j hj=>?_⟩
 ·rw[List.getElem_append];split
  ·exact h.el _ _
  ·exact k.el _ _
 ·rcases List.mem_append.1 hu with hu | hu
  ·exact h.pl u hu
  ·exact k.pl u hu
 ·by_cases h1:i<xs.length
  ·have e:(xs++ys)[i]=xs[i]:=List.getElem_append_left h1;have hj':j<xs[i].cells.length:=by rw[← e];exact hj
   have hlt:i*n+j<a.length:=by rw[h.len];exact J4Q h1 (by rw[← h.el i h1];exact hj')
   have:=h.rel i h1 j hj';rw[List.getD_eq_getElem?_getD,List.getElem?_append_left hlt,← List.getD_eq_getElem?_getD]
   simpa only [e] using this
  ·have h2:i-xs.length<ys.length:=by simp at hi;omega
   have e:(xs++ys)[i]=ys[i-xs.length]:=List.getElem_append_right (by omega);have hj':j<ys[i-xs.length].cells.length:=by rw[← e];exact hj
   have hge:a.length≤i*n+j:=by
    rw[h.len];have:xs.length*n≤i*n:=Nat.mul_le_mul_right _ (by omega);omega
   have:=k.rel _ h2 j hj';rw[List.getD_eq_getElem?_getD,List.getElem?_append_right hge,← List.getD_eq_getElem?_getD]
   have e2:i*n+j-a.length=(i-xs.length)*n+j:=by
    rw[h.len,Nat.sub_mul];have:xs.length*n≤i*n:=Nat.mul_le_mul_right _ (by omega);omega
   rw[e2]
   simpa only [e] using this
theorem RowRel.solo {N:Nat→Prop}{K:KI}{B:Blk}(h:RowRel κ w N K B){c:Nat}(hc:K.c=some c){A:Array Value}{e:Nat}{z:Nat×Nat}(hA:w.heap[c]?=some (.cells A e z))(he:B.e=Fw.solo):A.size=B.n:=by
 rcases h.2.2 with ⟨h3,_⟩|⟨c',A',f,hc',hb,hm,hs,hf,hpl,hv,hx⟩
 ·rw[h3] at hc;cases hc
 ·rw[hc'] at hc;cases hc;rw[hb] at hA;cases hA;exact hx he
theorem RowRel.row {N:Nat→Prop}{K:KI}{B:Blk}(h:RowRel κ w N K B){c:Nat}(hc:K.c=some c)(off len:Nat)(hle:off+len≤B.xs.length) :
  ∃ A,w.heap[c]?=some (.cells A B.e (0,0))∧K.m=A.size∧Row κ w N B.n ((B.xs.drop off).take len) ((A.toList.drop (off*B.n)).take (len*B.n)):=by
 obtain ⟨hn,hcl,h3⟩:=h
 rcases h3 with ⟨h3,_⟩|⟨c',A,f,hc',hb,hm,hs,hf,hpl,hv,_⟩
 ·rw[h3] at hc;cases hc
 rw[hc'] at hc;cases hc;have hsz:(off+len)*B.n≤A.size:=Nat.le_trans (Nat.mul_le_mul_right _ hle) hs;have hl:((B.xs.drop off).take len).length=len:=by simp;omega
 have hall:∀ m,m<B.xs.length*B.n→∃ v,A[m]?=some v∧plainV v=true:=by
  intro m hm'
  have hn0:0<B.n:=by
   rcases Nat.eq_zero_or_pos B.n with h|h
   ·rw[h] at hm';simp at hm'
   ·exact h
  have h1:m/B.n<B.xs.length:=Nat.div_lt_of_lt_mul (by rw[Nat.mul_comm];exact hm');have h2:m%B.n<B.n:=Nat.mod_lt _ hn0;have h3:=hf (m/B.n) h1 (m%B.n) h2;rw[show m/B.n*B.n+m%B.n=m by rw[Nat.mul_comm];exact Nat.div_add_mod m B.n] at h3;exact ⟨_,h3,hpl _ _ h1 h2⟩
 refine ⟨A,hb,hm,⟨?_,fun i hi=>?_,fun u hu=>?_,fun i hi j hj=>?_⟩⟩
 ·rw[hl];simp;rw[Nat.add_mul] at hsz;omega
 ·simp only[List.getElem_take,List.getElem_drop];exact hcl _ _
 ·obtain ⟨m,hm',rfl⟩:=List.mem_iff_getElem.1 hu;simp only[List.length_take,List.length_drop,Array.length_toList] at hm'
  have hlt:off*B.n+m<B.xs.length*B.n:=by
   have:(off+len)*B.n≤B.xs.length*B.n:=Nat.mul_le_mul_right _ hle;rw[Nat.add_mul] at this;omega
  obtain ⟨v,h1,h2⟩:=hall _ hlt;simp only[List.getElem_take,List.getElem_drop,Array.getElem_toList];have hlt':off*B.n+m<A.size:=by omega
  rw[Array.getElem?_eq_getElem hlt',Option.some.injEq] at h1;rw[h1];exact h2
 ·have hi':i<len:=by rw[hl] at hi;exact hi
  have hio:off+i<B.xs.length:=by omega
  have e:((B.xs.drop off).take len)[i]=B.xs[off+i]:=by simp
  have hj':j<B.xs[off+i].cells.length:=by rw[← e];exact hj
  have hjn:j<B.n:=by rw[← hcl _ hio];exact hj'
  have h1:=hf (off+i) hio j hjn;have h2:=hv (off+i) hio j hj'
  have e2:((A.toList.drop (off*B.n)).take (len*B.n)).getD (i*B.n+j) undef=f (off+i) j:=by
   have hlt:=J4Q hi' hjn;rw[List.getD_eq_getElem?_getD,List.getElem?_take,if_pos hlt,List.getElem?_drop,Array.getElem?_toList];rw[show off*B.n+(i*B.n+j)=(off+i)*B.n+j by rw[Nat.add_mul];omega,h1];rfl
  rw[e2]
  simpa only [e] using h2
theorem JEH (hr:HRel gh κ H w){n:Nat}{y:AV}{v:Value}(hv:VR κ w (Nset gh.O κ H) y v){C:List AV→Prop}(h:srcOf H n y C) :
  ∃ ys,C ys∧((v=.slice none 0 0∧ys=[])∨∃ a m c news,v=.slice (some a) m c∧m=ys.length∧Row κ w (Nset gh.O κ H) n ys news∧∀ j u,news[j]?=some u→w.cell? (a.add j)=some u):=by
 unfold srcOf at h;split at h
 ·rename_i m ys;obtain ⟨rfl,hC⟩:=h
  cases hv with
  |slnil=>exact ⟨_,hC,.inl ⟨rfl,rfl⟩⟩
  |slemp _ a=>exact ⟨_,hC,.inr ⟨a,0,0,[],rfl,rfl,⟨by simp,fun i h=>absurd h (by simp),fun u h=>absurd h (by simp),fun i h=>absurd h (by simp)⟩,fun j u h=>by simp at h⟩⟩
  |sl _ _ c o cap f h1 h2 h3 h4 h5 h6 h7=>
    refine ⟨_,hC,.inr ⟨_,_,_,(List.range (ys.length*m)).map fun k=>f (k/m) (k%m),rfl,rfl,⟨by simp,h4,fun u hu=>?_,fun i hi j hj=>?_⟩,fun j u hu=>?_⟩⟩
    ·obtain ⟨k,hk,rfl⟩:=List.mem_map.1 hu;simp only[List.mem_range] at hk
     have hm:0<m:=by
      rcases Nat.eq_zero_or_pos m with h|h
      ·rw[h] at hk;simp at hk
      ·exact h
     exact h7 _ _ (Nat.div_lt_of_lt_mul (by rw[Nat.mul_comm];exact hk)) (Nat.mod_lt _ hm)
    ·have hjm:j<m:=by rw[← h4 i hi];exact hj
     have hlt:=J4Q hi hjm;have e1:(i*m+j)/m=i:=by rw[Nat.mul_comm,Nat.mul_add_div (by omega),Nat.div_eq_of_lt hjm];omega
     have e2:(i*m+j)%m=j:=by rw[Nat.mul_comm,Nat.mul_add_mod,Nat.mod_eq_of_lt hjm]
     simp only[List.getD_eq_getElem?_getD,List.getElem?_map,List.getElem?_range hlt,Option.map_some,Option.getD_some,e1,e2];exact (h6 i hi j hj).lift
    ·by_cases hj:j<ys.length*m
     ·simp only[List.getElem?_map,List.getElem?_range hj,Option.map_some,Option.some.injEq] at hu;subst hu
      have hm:0<m:=by
       rcases Nat.eq_zero_or_pos m with h|h
       ·rw[h] at hj;simp at hj
       ·exact h
      have h8:=h5 (j/m) (Nat.div_lt_of_lt_mul (by rw[Nat.mul_comm];exact hj)) (j%m) (Nat.mod_lt _ hm);rw[Nat.add_assoc,show j/m*m+j%m=j by rw[Nat.mul_comm];exact Nat.div_add_mod j m] at h8;rw[J0Y];exact h8
     ·rw[List.getElem?_eq_none (by simp;omega)] at hu;cases hu
 ·rename_i b g off len;obtain ⟨B,hB,rfl,hle,hC⟩:=h;obtain ⟨K,hk,hbr⟩:=hr.blk _ _ _ hB
  cases hv with
  |ownnil _ _ K' hk' hc=>
    refine ⟨_,hC,.inl ⟨rfl,by simp⟩⟩
  |own _ _ _ _ cap c K' hk' hc h1 h2 hp=>
    rw[hk] at hk';cases hk';have hbr:=hbr.rows hp;obtain ⟨A,hb,hm,hrow⟩:=hbr.row hc off len hle;refine ⟨_,hC,.inr ⟨_,_,_,_,rfl,by simp;omega,hrow,fun j u hu=>?_⟩⟩;rw[J0Y,cell_of_row w c _ A B.e (0,0) hb];rw[List.getElem?_take] at hu;split at hu
    ·rw[List.getElem?_drop,Array.getElem?_toList] at hu;rw[hbr.1];exact hu
    ·cases hu
 ·cases hv with
  |val _ _=>exact ⟨_,h,.inl ⟨rfl,rfl⟩⟩
 ·exact h.elim
theorem Row.block {N:Nat→Prop}{κ':KM}{w':World}{N':Nat→Prop}{n:Nat}{xs:List AV}{vs:List Value}(h:Row κ w N n xs vs){e g cap:Nat}{cur:Array Value}(hb:w'.heap[g]?=some (.cells cur e (0,0)))(hcs:cur.size=cap*n)(hle:xs.length≤cap)
  (htake:cur.toList.take (xs.length*n)=vs)(htr:∀ {y:AV} {v:Value},VR κ w N y v→VR κ' w' N' y v)(hn0:0<n)(hso:e=solo→cur.size=n):BlkRel κ' w' N' ⟨some g,n,cur.size⟩ ⟨e,n,xs⟩:=by
 have hget:∀ i (hi:i<xs.length) j,j<n→cur[i*n+j]?=some (vs.getD (i*n+j) undef):=by
  intro i hi j hj;have hlt:=J4Q hi hj;have hlt':i*n+j<cur.size:=by rw[hcs];exact Nat.lt_of_lt_of_le hlt (Nat.mul_le_mul_right _ hle)
  rw[← htake,List.getD_eq_getElem?_getD,List.getElem?_take,if_pos hlt,Array.getElem?_toList,Array.getElem?_eq_getElem hlt'];rfl
 refine .inl ⟨hn0,rfl,h.el,.inr ⟨g,cur,fun i j=>vs.getD (i*n+j) undef,rfl,hb,rfl,by rw[hcs];exact Nat.mul_le_mul_right _ hle,hget,fun i j hi hj=>?_,fun i hi j hj=>htr (h.rel i hi j hj),hso⟩⟩;have hlt:i*n+j<vs.length:=by rw[h.len];exact J4Q hi hj
 show plainV (vs.getD (i*n+j) undef)=true
 rw[List.getD_eq_getElem?_getD,List.getElem?_eq_getElem hlt];exact h.pl _ (List.getElem_mem hlt)
structure VL (ys:List AV):Prop where
 o:∀ y∈ys,∃ u,y=.val u
theorem VL.map {α:Type}(f:α→Value)(l:List α):VL (l.map fun x=>.val (f x)):=⟨fun y hy=>by obtain ⟨x,_,rfl⟩:=List.mem_map.1 hy;exact ⟨_,rfl⟩⟩
def evAppend (T:Nat→Option TD)(H:Hp)(t d γ:Nat)(x y:AV)(C:AV→Up→Prop):Prop:=
 elemT T t fun e ed=>srcOf H ed.size y fun ys=>
  match x with
  | .own b g 0 len=>∃ B,H b=some (g,B)∧B.n=ed.size∧B.e=e∧len≤B.xs.length∧len+ys.length≤9223372036854775807∧(len+ys.length)*ed.bytes≤140737488355328 ∧
   C (.own b γ 0 (len+ys.length)) (some (b,γ,⟨e,ed.size,B.xs.take len++ys⟩))
  |.val (.slice none 0 0)=>ys.length≤9223372036854775807∧ys.length*ed.bytes≤140737488355328∧C (.own d γ 0 ys.length) (some (d,γ,⟨e,ed.size,ys⟩))
  |.fu n xs=>n=ed.size∧VL ys∧xs.length+ys.length≤9223372036854775807∧(xs.length+ys.length)*ed.bytes≤140737488355328∧C (.sl ed.size (xs++ys)) none
  |_=>False
theorem J2e (hr:HRel gh κ H w){t ty e d γ:Nat}{ed:TD}(hu:P.underlying t=some (.slice e))(ht:TFact P e ed)(hne:e≠solo)(hγ:κ d γ=none){v vy:Value}{len:Nat}{xs ys:List AV}{XS:List Value}
  (hown:w.ownsRow 0 e ed.size v len XS)(hrow:Row κ w (Nset gh.O κ H) ed.size xs XS)(hxl:xs.length=len)
  (hblk:∀ c,v.ownBlock=some c→∃ g B K,H d=some (g,B)∧κ d g=some K∧K.c=some c)
  (hsrc:(vy=.slice none 0 0∧ys=[])∨∃ a m c news,vy=.slice (some a) m c∧m=ys.length∧Row κ w (Nset gh.O κ H) ed.size ys news∧∀ j u,news[j]?=some u→w.cell? (a.add j)=some u)
  (hb1:len+ys.length≤9223372036854775807)(hb2:(len+ys.length)*ed.bytes≤140737488355328) :
  Does P gh κ H w (Builtin.append_ #[t,t] ty #[v,vy]) (some (d,γ,⟨e,ed.size,xs++ys⟩)) fun κ' w' N' r=>VR κ' w' N' (.own d γ 0 (len+ys.length)) r:=by
 obtain ⟨it,z,hit,hs,hby,hz,hzc⟩:=ht.info;have hpos:=ht.pos;have hzs:z.cells.size=ed.size:=by rw[← Array.length_toList,hzc,ht.len]
 obtain ⟨v',w',news,hrun,hown',hg,hob,hrowN⟩:∃ v' w' news,(Builtin.append_ #[t,t] ty #[v,vy]).run P w=.ok v' w'∧w'.ownsRow 0 e ed.size v' (len+ys.length) (XS++news)∧w.grownBy w' v.ownBlock ∧
   (v'.ownBlock=v.ownBlock∨v'.ownBlock=some w.heap.size)∧Row κ w (Nset gh.O κ H) ed.size ys news:=by
  rcases hsrc with ⟨rfl,rfl⟩|⟨a,m,c,news,rfl,rfl,hrn,hcell⟩
  ·refine ⟨v,w,[],run_append_owned_none w 0 t ty e it ed.size hu hit v len XS hown,by simpa using hown,⟨rfl,rfl,rfl,Nat.le_refl _,fun _ _ _=>rfl⟩,.inl rfl,Row.nil _⟩
  ·obtain ⟨v',w',h1,h2,h3,_,h5⟩:=run_append_own_at (P:=P) w 0 t ty e it z ed.size ed.bytes hu hit hz hs hby hzs hpos v len XS hown a ys.length c news hrn.len hcell hrn.pl (by simpa [maxLen] using hb1) hb2 (Nat.zero_le _);exact ⟨v',w',news,h1,h2,h3,h5,hrn⟩
 have hall:=hrow.append hrowN;have hlen:(xs++ys).length=len+ys.length:=by simp[hxl]
 have hnot:∀ b g B' K' c,b≠d→H b=some (g,B')→κ b g=some K'→K'.c=some c→some c≠v.ownBlock:=by
  intro b g B' K' c hne h1 h2 h3 e';obtain ⟨g0,B0,K0,q1,q2,q3⟩:=hblk c e'.symm;exact hne (hr.inj _ _ _ _ _ _ _ _ c h1 q1 h2 q2 h3 q3)
 have hag:Agree (Own κ H) w w':=⟨hg.size,fun c hc hn=>hg.block c hc fun e'=>hn (by
  obtain ⟨g0,B0,K0,q1,q2,q3⟩:=hblk c e'.symm
  exact ⟨d,g0,B0,K0,q1,q2,q3⟩)⟩
 rcases hown'.2 with ⟨rfl,h0⟩|⟨g',cap',cur',rfl,_,hb',hnc,hcm,hcs,htake⟩
 ·
  have hnil:xs++ys=[]:=List.eq_nil_of_length_eq_zero (by omega)
  have hrep:=hr.replace (d:=d) (γ:=γ) (K:=⟨none,ed.size,0⟩) (B:=⟨e,ed.size,xs++ys⟩) (w':=w') (J0i hr ..) hag
   (fun b g B' K' c hne h1 h2 h3=>hg.block c (hr.lt ⟨b,g,B',K',h1,h2,h3⟩) (hnot b g B' K' c hne h1 h2 h3)) ⟨hg.os,hg.tape,hg.output⟩ (.inl hγ) (fun c hc=>by cases hc)
   (fun _=>.inl ⟨hpos,rfl,fun i hi=>by rw[hnil] at hi;simp at hi,.inl ⟨rfl,hnil⟩⟩)
  refine ⟨_,w',_,hrun,hrep.1,hrep.2,?_,fun b g h=>J0E _ _ _ _ (h _ _ _ rfl)⟩;rw[h0];exact .ownnil d γ ⟨none,ed.size,0⟩ (J09 ..) rfl
 ·have hrep:=hr.replace (d:=d) (γ:=γ) (K:=⟨some g',ed.size,cur'.size⟩) (B:=⟨e,ed.size,xs++ys⟩) (w':=w') (J0i hr ..) hag
   (fun b g B' K' c hne h1 h2 h3=>hg.block c (hr.lt ⟨b,g,B',K',h1,h2,h3⟩) (hnot b g B' K' c hne h1 h2 h3)) ⟨hg.os,hg.tape,hg.output⟩ (.inl hγ)
   (fun c hc=>by
     cases hc
     rcases hob with hob|hob
     ·right;obtain ⟨g0,B0,K0,q1,q2,q3⟩:=hblk g' hob.symm;exact ⟨g0,B0,K0,q1,q2,q3⟩
     ·left;simp[Value.ownBlock] at hob
      omega)
   (fun htr=>hall.block hb' hcs (by rw[hlen];exact hnc) (by rw[hlen];exact htake) htr hpos fun h=>absurd h hne)
  refine ⟨_,w',_,hrun,hrep.1,hrep.2,?_,fun b g h=>J0E _ _ _ _ (h _ _ _ rfl)⟩;have:=VR.own (κ:=κ.set d γ ⟨some g',ed.size,cur'.size⟩) (w:=w') (N:=Nset gh.O (κ.set d γ ⟨some g',ed.size,cur'.size⟩) (setH H d (some (γ,⟨e,ed.size,xs++ys⟩)))) d γ 0 (len+ys.length) cap' g' _ (J09 ..) rfl hnc ⟨by simp[hcs],by simpa using hcm⟩ hpos
  simpa [app] using this
theorem HRel.grow (hr:HRel gh κ H w){w':World}(hg:w.grownBy w' none):HRel gh κ H w'∧∀ {y:AV} {v:Value},VR κ w (Nset gh.O κ H) y v→VR κ w' (Nset gh.O κ H) y v:=by
 have hb:∀ c,c<w.heap.size→w'.heap[c]?=w.heap[c]?:=fun c hc=>hg.block c hc (by simp);have hag:∀ N,Agree N w w':=fun N=>⟨hg.size,fun c hc _=>hb c hc⟩;refine ⟨⟨fun b g B h=>?_,hr.inj,hr.mine,hr.kept.trans (hag _),by rw[hg.os,hr.os],by rw[hg.tape,hr.tape],by rw[hg.output,hr.output],hr.fresh,hr.apart⟩,fun h=>h.step (KM.le.refl _) (hag _) fun _ _ h=>h⟩;obtain ⟨K,hk,hbr⟩:=hr.blk _ _ _ h;exact ⟨K,hk,hbr.step (KM.le.refl _) (hag _) (fun _ _ h=>h) fun c hc=>hb c (hr.lt ⟨b,g,B,K,h,hk,hc⟩)⟩
theorem J9G (hr:HRel gh κ H w){t ty e:Nat}{ed:TD}(hu:P.underlying t=some (.slice e))(ht:TFact P e ed){v vy:Value}{xs ys:List AV}(hv:VR κ w (Nset gh.O κ H) (.fu ed.size xs) v)
  (hsrc:(vy=.slice none 0 0∧ys=[])∨∃ a m c news,vy=.slice (some a) m c∧m=ys.length∧Row κ w (Nset gh.O κ H) ed.size ys news∧∀ j u,news[j]?=some u→w.cell? (a.add j)=some u)
  (hvl:VL ys)(hb1:xs.length+ys.length≤9223372036854775807)(hb2:(xs.length+ys.length)*ed.bytes≤140737488355328) :
  Does P gh κ H w (Builtin.append_ #[t,t] ty #[v,vy]) none fun κ' w' N' r=>VR κ' w' N' (.sl ed.size (xs++ys)) r:=by
 obtain ⟨it,z,hit,his,hby,hz,hzc⟩:=ht.info;have hpos:=ht.pos;have hzs:z.cells.size=ed.size:=by rw[← Array.length_toList,hzc,ht.len]
 generalize hn:xs.length=n at hv hb1 hb2
 have hfu:∃ a,v=.slice a n n∧VR κ w (Nset gh.O κ H) (.sl ed.size xs) (.slice a n n):=by
  cases hv with
  |fu _ _ a hv=>rw[hn] at hv ⊢;exact ⟨a,rfl,hv⟩
 obtain ⟨a,e0,hs⟩:=hfu;clear hv;subst e0
 have hrx:∃ XS,Row KM.empty w (Nset gh.O κ H) ed.size xs XS∧(a=none→xs=[])∧∀ b,a=some b→∀ j u,XS[j]?=some u→w.cell? (b.add j)=some u:=by
  cases hs with
  |slnil=>exact ⟨[],Row.nil _,(fun _=>rfl),fun b h=>by cases h⟩
  |slemp _ a=>exact ⟨[],Row.nil _,(fun h=>by cases h),fun b _ j u h=>by simp at h⟩
  |sl _ _ c o cap f h1 h2 h3 h4 h5 h6 h7=>
    refine ⟨(List.range (xs.length*ed.size)).map fun k=>f (k/ed.size) (k%ed.size),⟨by simp,h4,fun u hu=>?_,fun i hi j hj=>?_⟩,(fun h=>by cases h),fun b hb j u hu=>?_⟩
    ·obtain ⟨k,hk,rfl⟩:=List.mem_map.1 hu;simp only[List.mem_range] at hk;exact h7 _ _ (Nat.div_lt_of_lt_mul (by rw[Nat.mul_comm];exact hk)) (Nat.mod_lt _ hpos)
    ·have hjm:j<ed.size:=by rw[← h4 i hi];exact hj
     have hlt:=J4Q hi hjm;have e1:(i*ed.size+j)/ed.size=i:=by rw[Nat.mul_comm,Nat.mul_add_div (by omega),Nat.div_eq_of_lt hjm];omega
     have e2:(i*ed.size+j)%ed.size=j:=by rw[Nat.mul_comm,Nat.mul_add_mod,Nat.mod_eq_of_lt hjm]
     simp only[List.getD_eq_getElem?_getD,List.getElem?_map,List.getElem?_range hlt,Option.map_some,Option.getD_some,e1,e2];exact h6 i hi j hj
    ·cases hb
     by_cases hj:j<xs.length*ed.size
     ·simp only[List.getElem?_map,List.getElem?_range hj,Option.map_some,Option.some.injEq] at hu;subst hu;have:=h5 (j/ed.size) (Nat.div_lt_of_lt_mul (by rw[Nat.mul_comm];exact hj)) (j%ed.size) (Nat.mod_lt _ hpos);rw[Nat.add_assoc,Nat.div_add_mod'] at this;rw[J0Y];exact this
     ·rw[List.getElem?_eq_none (by simp;omega)] at hu;cases hu
 obtain ⟨XS,hX,hnone,hXc⟩:=hrx;have hxl:XS.length=n*ed.size:=by rw[hX.len,hn]
 have fin:∀ (v':Value) (w':World) (news:List Value),(Builtin.append_ #[t,t] ty #[.slice a n n,vy]).run P w=.ok v' w'→w'.ownsRow w.heap.size e ed.size v' (n+ys.length) (XS++news)→w.grownBy w' none→Row κ w (Nset gh.O κ H) ed.size ys news →
   Does P gh κ H w (Builtin.append_ #[t,t] ty #[.slice a n n,vy]) none fun κ' w' N' r=>VR κ' w' N' (.sl ed.size (xs++ys)) r:=by
  intro v' w' news hrun hown hg r2;obtain ⟨q1,q2⟩:=hr.grow hg
  have r2':Row KM.empty w (Nset gh.O κ H) ed.size ys news:=⟨r2.len,r2.el,r2.pl,fun i hi j hj=>by
   have h:=r2.rel i hi j hj;obtain ⟨u,hu⟩:=hvl.o _ (List.getElem_mem hi);have hj0:j=0:=by rw[hu] at hj;simpa [AV.cells] using hj
   subst hj0;have e2:ys[i].cells[0]'hj=.val u:=by simp[hu,AV.cells]
   rw[e2] at h ⊢;generalize news.getD (i*ed.size+0) undef=z at h
   cases h with
   |val _ hp=>exact .val _ hp⟩
  have hall:=hX.append r2';have hlen:(xs++ys).length=n+ys.length:=by simp[hn]
  refine ⟨v',w',κ,hrun,q1,q2,?_,fun _ _ _=>rfl⟩;show VR κ w' (Nset gh.O κ H) (.sl ed.size (xs++ys)) v'
  rcases hown.2 with ⟨rfl,h0⟩|⟨g,cap,cur,rfl,hbg,hb,hnc,hcm,hcs,htake⟩
  ·have hnil:xs++ys=[]:=List.eq_nil_of_length_eq_zero (by omega);rw[hnil];exact .slnil _
  ·have hnot:¬ Nset gh.O κ H g:=by
    rintro (h|h)
    ·have:=(hr.apart g h).1;have:=hr.kept.size;omega
    ·have:=hr.lt h;omega
   have hsz:(XS++news).length=(xs++ys).length*ed.size:=hall.len
   have hcell:∀ i,i<(xs++ys).length→∀ j,j<ed.size→w'.cell? ⟨g,0+i*ed.size+j,none⟩=some ((XS++news).getD (i*ed.size+j) undef):=by
    intro i hi j hj;have hlt:=J4Q hi hj;rw[cell_of_row w' g _ cur e (0,0) hb,Nat.zero_add]
    have:cur[i*ed.size+j]?=(XS++news)[i*ed.size+j]?:=by
     rw[← htake,List.getElem?_take,if_pos (by rw[← hlen];exact hlt),Array.getElem?_toList]
    rw[this,List.getD_eq_getElem?_getD,List.getElem?_eq_getElem (by omega)];rfl
   rw[← hlen] at hnc ⊢;have hcap:(xs++ys).length*ed.size≤cap*ed.size:=Nat.mul_le_mul_right _ hnc;refine VR.sl ed.size (xs++ys) g 0 cap (fun i j=>(XS++news).getD (i*ed.size+j) undef) hnc hnot ⟨cur,e,(0,0),hb,by omega⟩ hall.el hcell (fun i hi j hj=>?_) (fun i j hi hj=>?_)
   ·exact (hall.rel i hi j hj).step (KM.le.refl _) (⟨hg.size,fun c hc _=>hg.block c hc (by simp)⟩:Agree (Nset gh.O κ H) w w') fun _ _ h=>h
   ·have hlt:=J4Q hi hj;show plainV ((XS++news).getD (i*ed.size+j) undef)=true
    rw[List.getD_eq_getElem?_getD,List.getElem?_eq_getElem (by omega)];exact hall.pl _ (List.getElem_mem _)
 have hgr0:w.grownBy w none:=⟨rfl,rfl,rfl,Nat.le_refl _,fun _ _ _=>rfl⟩
 have keep:ys=[]→(Builtin.append_ #[t,t] ty #[.slice a n n,vy]).run P w=.ok (.slice a n n) w→Does P gh κ H w (Builtin.append_ #[t,t] ty #[.slice a n n,vy]) none fun κ' w' N' r=>VR κ' w' N' (.sl ed.size (xs++ys)) r:=by
  rintro rfl h;refine ⟨_,w,κ,h,hr,fun h=>h,?_,fun _ _ _=>rfl⟩;rw[List.append_nil];exact hs
 rcases hsrc with ⟨rfl,rfl⟩|⟨a',m,c,news,rfl,rfl,hrn,hcell⟩
 ·refine keep rfl ?_;cases a<;>simp[Builtin.append_,run_underlying hu,sizeOf,typeInfo,hit,Builtin.lenOf,Builtin.firstCells,storeCells]
 ·by_cases hy:ys.length=0
  ·have hy':ys=[]:=List.eq_nil_of_length_eq_zero hy;subst hy';refine keep rfl ?_;cases a<;>simp[Builtin.append_,run_underlying hu,sizeOf,typeInfo,hit,Builtin.lenOf,Builtin.firstCells,storeCells,loadCells,loadCellsFrom]
  ·cases a with
   |none=>
     have hx:=hnone rfl;subst hx;obtain rfl:n=0:=by simpa using hn.symm
     obtain rfl:XS=[]:=List.eq_nil_of_length_eq_zero (by simpa using hxl);obtain ⟨v',w',h1,h2,h3,_⟩:=run_append_own (P:=P) w w.heap.size t ty e it z ed.size ed.bytes hu hit hz his hby hzs hpos (.slice none 0 0) 0 [] (World.ownsRow_nil ..) a' ys.length c news hrn.len hcell hrn.pl (by simpa [maxLen] using hb1) hb2 (Nat.le_refl _);exact fin v' w' news h1 h2 h3 hrn
   |some b=>
     obtain ⟨v',w',h1,h2,h3⟩:=run_append_arg_grows (P:=P) w t ty e it z ed.size ed.bytes hu hit hz his hby hzs hpos b n n XS hxl (hXc b rfl) a' ys.length c news hrn.len hcell (by omega) (by simpa [maxLen] using hb1) hb2;exact fin v' w' news h1 h2 h3 hrn
theorem J5r (hT:TOk P T)(hr:HRel gh κ H w){t ty d γ:Nat}(hγ:∀ b,κ b γ=none){x y:AV}{v vy:Value}(hv:VR κ w (Nset gh.O κ H) x v)(hvy:VR κ w (Nset gh.O κ H) y vy){C:AV→Up→Prop}
  (h:evAppend T H t d γ x y C):∃ x up,C x up∧(∀ b g B,up=some (b,g,B)→g=γ)∧Does P gh κ H w (Builtin.append_ #[t,t] ty #[v,vy]) up fun κ' w' N' r=>VR κ' w' N' x r:=by
 obtain ⟨e,ed,hu,ht,hne,h0⟩:=J2T hT h.ne;clear h;obtain ⟨ys,h,hsrc⟩:=JEH hr hvy h0;clear h0;split at h
 ·rename_i b g len;obtain ⟨B,hB,hn,he,hle,hb1,hb2,hC⟩:=h;obtain ⟨K,hk,hbr⟩:=hr.blk _ _ _ hB;refine ⟨_,_,hC,fun b g B h=>by cases h;rfl,?_⟩
  cases hv with
  |ownnil _ _ K' hk' hc=>
    rw[hk] at hk';cases hk';have hx:B.xs.take 0=[]:=by simp
    rw[hx];exact J2e hr hu ht hne (hγ b) (World.ownsRow_nil w 0 e ed.size) (Row.nil _) rfl (fun c h=>by simp[Value.ownBlock] at h) hsrc (by simpa using hb1) (by simpa using hb2)
  |own _ _ _ _ cap c K' hk' hc h1 h2 hp=>
    rw[hk] at hk';cases hk';have hbr:=hbr.rows hp;obtain ⟨A,hbk,hm,hrow⟩:=hbr.row hc 0 len (by simpa using hle);simp only[List.drop_zero,Nat.zero_mul,hn] at hrow;simp only[Nat.zero_add,Nat.zero_mul] at h2 ⊢;have hKn:K.n=ed.size:=hbr.1.trans hn;have hcs:A.size=cap*ed.size:=by rw[← hm,← h2.1,hKn]
    have hown:w.ownsRow 0 e ed.size (.slice (some ⟨c,0,none⟩) len cap) len (A.toList.take (len*ed.size)):=by
     refine ⟨?_,.inr ⟨c,cap,A,rfl,Nat.zero_le _,by rw[hbk,he],h1,h2.2,hcs,rfl⟩⟩;have:len*ed.size≤cap*ed.size:=Nat.mul_le_mul_right _ h1;simp;omega
    exact J2e hr hu ht hne (hγ b) hown hrow (by simp;omega) (fun c' h=>by
     simp[Value.ownBlock] at h;subst h
     exact ⟨g,B,K,hB,hk,hc⟩) hsrc hb1 hb2
 ·obtain ⟨hb1,hb2,hC⟩:=h
  cases hv with
  |val _ _=>
    refine ⟨_,_,hC,fun b g B h=>by cases h;rfl,?_⟩;have:=J2e (ty:=ty) hr hu ht hne (hγ d) (World.ownsRow_nil w 0 e ed.size) (Row.nil _) rfl (fun c h=>by simp[Value.ownBlock] at h) hsrc (by simpa using hb1) (by simpa using hb2)
    simpa using this
 ·obtain ⟨rfl,h1,hb1,hb2,hC⟩:=h;exact ⟨_,none,hC,(fun b g B h=>by cases h),J9G hr hu ht hv hsrc h1 hb1 hb2⟩
 ·exact h.elim
end
end Go.Fw
