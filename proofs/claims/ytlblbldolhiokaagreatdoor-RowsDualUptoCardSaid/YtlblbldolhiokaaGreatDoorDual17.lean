/- Part 17 of the proof. -/
import Derived.Test.YtlblbldolhiokaaGreatDoorDual16
set_option linter.unusedVariables false
set_option linter.unusedSimpArgs false
set_option linter.unusedSectionVars false
set_option maxRecDepth 100000
set_option exponentiation.threshold 400
set_option maxHeartbeats 8000000
namespace Go.Fw
open Go.RowKit
open Go.ChangeMaps (setBlock)
section
variable {P:Program} {T:Nat→Option TD} {gh:Gh} {κ:KM} {H:Hp} {N:Nat→Prop} {w:World}
theorem HRel.newObj (hr:HRel gh κ H w){d γ e:Nat}{o:Obj}{xs:List AV}(hγ:κ d γ=none)
  (ho:(∀ {x:AV} {v:Value},VR KM.empty w (Nset gh.O κ H) x v→VR KM.empty (w.alloc o) (Nset gh.O (κ.set d γ ⟨some w.heap.size,0,0⟩) (setH H d (some (γ,⟨e,0,xs⟩)))) x v)→ObR (w.alloc o) (Nset gh.O (κ.set d γ ⟨some w.heap.size,0,0⟩) (setH H d (some (γ,⟨e,0,xs⟩)))) w.heap.size xs) :
  HRel gh (κ.set d γ ⟨some w.heap.size,0,0⟩) (setH H d (some (γ,⟨e,0,xs⟩))) (w.alloc o) ∧
   (∀ {x:AV} {v:Value},VR κ w (Nset gh.O κ H) x v→VR (κ.set d γ ⟨some w.heap.size,0,0⟩) (w.alloc o) (Nset gh.O (κ.set d γ ⟨some w.heap.size,0,0⟩) (setH H d (some (γ,⟨e,0,xs⟩)))) x v):=
 hr.replaceE (J0i hr ..) (J1d _ _ _) (fun b g B' K' c hb h1 h2 h3=>(J1d (fun _=>False) w _).block c (hr.lt ⟨b,g,B',K',h1,h2,h3⟩) (by simp)) ⟨rfl,rfl,rfl⟩ (.inl hγ)
  (fun c hc=>.inl (by cases hc;exact Nat.le_refl _)) fun _ hE=>.inr ⟨rfl,rfl,w.heap.size,rfl,ho hE⟩
theorem J0k (w:World)(c c':Nat)(o:Obj):(setBlock w c o).heap[c']?=if c=c'∧c<w.heap.size then some o else w.heap[c']?:=by
 simp only[setBlock,Array.getElem?_setIfInBounds]
 by_cases h:c=c'
 ·subst h
  by_cases h2:c<w.heap.size
  ·simp[h2]
  ·simp[h2]
 ·simp[h]
theorem HRel.setObj (hr:HRel gh κ H w){b g c:Nat}{B:Blk}{K:KI}(hB:H b=some (g,B))(hκ:κ b g=some K)(hc:K.c=some c)(hn:K.n=0)(hB0:B.n=0){o:Obj}{xs:List AV}{w1:World}(hw:w1.heap=w.heap∧w1.os=w.os∧w1.tape=w.tape∧w1.output=w.output)
  (ho:(∀ {x:AV} {v:Value},VR KM.empty w (Nset gh.O κ H) x v→VR KM.empty (setBlock w1 c o) (Nset gh.O κ (setH H b (some (g,{ B with xs:=xs })))) x v)→ObR (setBlock w1 c o) (Nset gh.O κ (setH H b (some (g,{ B with xs:=xs })))) c xs) :
  HRel gh κ (setH H b (some (g,{ B with xs:=xs }))) (setBlock w1 c o)∧(∀ {x:AV} {v:Value},VR κ w (Nset gh.O κ H) x v→VR κ (setBlock w1 c o) (Nset gh.O κ (setH H b (some (g,{ B with xs:=xs })))) x v):=by
 have hκs:κ.set b g K=κ:=by
  funext b' g'
  unfold KM.set;split
  ·rename_i e;obtain ⟨rfl,rfl⟩:=e;exact hκ.symm
  ·rfl
 have hoth:∀ c',c≠c'→(setBlock w1 c o).heap[c']?=w.heap[c']?:=fun c' hne=>by
  rw[J0k,if_neg (fun h=>hne h.1),hw.1]
 have hag:Agree (Own κ H) w (setBlock w1 c o):=⟨by simp[setBlock,hw.1],fun c' hc'' hn'=>hoth c' (fun e=>hn' ⟨b,g,B,K,hB,hκ,by rw[← e];exact hc⟩)⟩
 have:=hr.replaceE (d:=b) (γ:=g) (K:=K) (B:={ B with xs:=xs }) (w':=setBlock w1 c o) (by rw[hκs];exact hr.fresh) hag
  (fun b' g' B' K' c' hne h1 h2 h3=>hoth c' (fun e=>hne (hr.inj _ _ _ _ _ _ _ _ c h1 hB h2 hκ (by rw[e];exact h3) hc))) ⟨hw.2.1,hw.2.2.1,hw.2.2.2⟩ (.inr hκ)
  (fun c' hc''=>.inr ⟨g,B,K,hB,hκ,hc''⟩) (fun _ hE=>by
    rw[hκs] at hE ⊢
    exact .inr ⟨hB0,hn,c,hc,ho hE⟩)
 rw[hκs] at this;exact this
def J96 (t d γ:Nat)(r:Option AV)(C:AV→Up→Prop):Prop:=r=none∧C (.om d γ) (some (d,γ,⟨t,0,[.mp [] []]⟩))
theorem J4T (hr:HRel gh κ H w){t d γ:Nat}(hγ:κ d γ=none){C:AV→Up→Prop}(h:J96 t d γ none C) :
  ∃ x up,C x up∧(∀ b g B,up=some (b,g,B)→b=d∧g=γ)∧Does P gh κ H w (Instr.makeMap t none) up fun κ' w' N' r=>VR κ' w' N' x r:=by
 obtain ⟨_,hC⟩:=h;obtain ⟨q1,q2⟩:=hr.newObj (d:=d) (γ:=γ) (e:=t) (o:=.map #[] 0) (xs:=[.mp [] []]) hγ (fun _=>⟨#[],0,heap_alloc_new _ _,rfl,rfl,fun i h=>absurd h (by simp),fun i h=>absurd h (by simp),fun i h=>absurd h (by simp)⟩);exact ⟨_,_,hC,fun b g B h=>by cases h;exact ⟨rfl,rfl⟩,.map (some w.heap.size),_,_,by simp[Instr.makeMap,Sem.run_bind],q1,q2,.om d γ _ _ (J09 ..) rfl rfl,fun b g h=>J0E _ _ _ _ (h _ _ _ rfl)⟩
def putM (r:Option Nat)(k v:AV)(ks vs:List AV):AV:=
 match r with
 |some i=>.mp ks (vs.set i v)
 |none=>.mp (ks++[k]) (vs++[v])
def J0j (P:Program)(T:Nat→Option TD)(H:Hp)(t:Nat)(m k v:AV)(C:Up→Prop):Prop:=
 match m with
 |.om b g=>mapT P T t fun kt ed=>(∃ b,J0h T kt k k=some b)∧∃ B ks vs,H b=some (g,B)∧B.xs=[.mp ks vs]∧∃ r,J10 (J0h T kt k) ks=some r∧C (some (b,g,{ B with xs:=[putM r (snap [] H k) (snap [] H v) ks vs] }))
 |_=>False
theorem J1K (hT:TOk P T)(hr:HRel gh κ H w){t:Nat}{m k v:AV}{vm kv vv:Value}(hm:VR κ w (Nset gh.O κ H) m vm)(hk:VR κ w (Nset gh.O κ H) k kv)(hv:VR κ w (Nset gh.O κ H) v vv){C:Up→Prop}(h:J0j P T H t m k v C) :
  ∃ up,C up∧(∀ b g B,up=some (b,g,B)→∃ B0,H b=some (g,B0))∧Does P gh κ H w (Instr.mapUpdate t vm kv vv) up fun _ _ _ _=>True:=by
 unfold J0j at h;split at h
 ·rename_i b g;obtain ⟨kt,et,ed,z,hu,ht,hs,⟨hk0,B,ks,vs,hB,hx,r,hf,hC⟩,hz,hzc,hza⟩:=JBP hT h w
  cases hm with
  |om _ _ c K hκ hc hn=>
    obtain ⟨K',hκ',hbr⟩:=hr.blk _ _ _ hB;rw[hκ] at hκ';cases hκ';obtain ⟨hB0,c',hc',ho⟩:=hbr.obj hn;rw[hc] at hc';cases hc';rw[hx] at ho;obtain ⟨A,ck,h1,h2⟩:=ho;have e1:=J6g hT hk hk0 false 9998 w;have e2:=J8b hT hs hk hk0 (es:=A.toList) (by simpa using h2.kl) (fun i h1 h3=>(by simpa using (h2.key i h1 (by simpa using h3)).lift)) hf w;have sk:=J1E hr [] hk;have sv:=J1E hr [] hv;rw[rem_nil] at sk sv;have hsz:c<w.heap.size:=(Array.getElem?_eq_some_iff.1 h1).1;refine ⟨_,hC,fun b g B' h=>by cases h;exact ⟨B,hB⟩,?_⟩
    cases r with
    |none=>
      obtain ⟨q1,q2⟩:=hr.setObj hB hκ hc hn hB0 (o:=.map (A.push { key:=kv,val:=vv,born:=ck }) (ck+1)) (xs:=[putM none (snap [] H k) (snap [] H v) ks vs]) (w1:=w) ⟨rfl,rfl,rfl,rfl⟩ (fun hE=>by
       refine ⟨_,_,by rw[J0k,if_pos ⟨rfl,hsz⟩],by simp[h2.kl],by simp[h2.vl],fun i hi hi'=>?_,fun i hi hi'=>?_,fun i hi=>?_⟩
       ·by_cases hl:i<ks.length
        ·have hl':i<A.size:=by rw[← h2.kl];exact hl
         simpa [List.getElem_append_left hl,Array.getElem_push,hl'] using hE (h2.key i hl hl')
        ·have:i=ks.length:=by simp at hi;omega
         subst this
         simpa [Array.getElem_push,h2.kl] using hE sk
       ·by_cases hl:i<vs.length
        ·have hl':i<A.size:=by rw[← h2.vl];exact hl
         simpa [List.getElem_append_left hl,Array.getElem_push,hl'] using hE (h2.val i hl hl')
        ·have:i=vs.length:=by simp at hi;omega
         subst this
         simpa [Array.getElem_push,h2.vl] using hE sv
       ·have hb:∀ j (h:j<(A.push { key:=kv,val:=vv,born:=ck }).size),(A.push { key:=kv,val:=vv,born:=ck })[j].born=if h':j<A.size then A[j].born else ck:=by
         intro j h;rw[Array.getElem_push];split<;>rfl
        refine ⟨?_,fun j hj he=>?_⟩
        ·rw[hb];split
         ·have:=(h2.born i (by assumption)).1;omega
         ·omega
        ·rw[hb,hb] at he;simp only[Array.size_push] at hi hj;split at he<;>split at he
         ·exact (h2.born i (by assumption)).2 j (by assumption) he
         ·have:=(h2.born i (by assumption)).1;omega
         ·have:=(h2.born j (by assumption)).1;omega
         ·omega)
      refine ⟨(),_,κ,?_,q1,q2,trivial,fun _ _ _=>rfl⟩;simp[Instr.mapUpdate,Sem.run_bind,run_underlying hu,getO h1 rfl,e1,e2,hit,setO _ h1 rfl]
    |some i=>
      obtain ⟨hi,hbe⟩:=J7t hf;have hi':i<A.size:=by rw[← h2.kl];exact hi
      obtain ⟨r1,r2,r3⟩:=JCy hbe hk (h2.key i hi hi');have hsame:Instr.sameBits 10000 A[i].key kv=true:=by rw[← r2];rw[r2];exact (r2 ▸ r3 9999)
      have hmod:A.modify i (fun e=>{ e with key:=kv,val:=vv })=A.set i { A[i] with key:=kv,val:=vv } hi':=by
       apply Array.ext
       ·simp
       ·intro j hj hj';rw[Array.getElem_modify,Array.getElem_set]
        by_cases e:i=j
        ·subst e;simp
        ·simp[e]
      obtain ⟨q1,q2⟩:=hr.setObj hB hκ hc hn hB0 (o:=.map (A.set i { A[i] with key:=kv,val:=vv } hi') ck) (xs:=[putM (some i) (snap [] H k) (snap [] H v) ks vs]) (w1:=w) ⟨rfl,rfl,rfl,rfl⟩ (fun hE=>by
       have hb:∀ j (h:j<(A.set i { A[i] with key:=kv,val:=vv } hi').size),(A.set i { A[i] with key:=kv,val:=vv } hi')[j].born=(A[j]'(by simpa using h)).born:=by
        intro j h;rw[Array.getElem_set];split
        ·rename_i e;subst e;rfl
        ·rfl
       refine ⟨_,_,by rw[J0k,if_pos ⟨rfl,hsz⟩],by simp[h2.kl],by simp[h2.vl],fun j hj hj'=>?_,fun j hj hj'=>?_,fun j hj=>?_⟩
       ·have hjA:j<A.size:=by simpa using hj'
        rw[Array.getElem_set];split
        ·rename_i e;subst e;have:=hE (h2.key i hj hjA);rw[← r2] at this;exact this
        ·exact hE (h2.key j hj hjA)
       ·have hjA:j<A.size:=by simpa using hj'
        simp only[List.getElem_set];rw[Array.getElem_set];split
        ·exact hE sv
        ·exact hE (h2.val j (by simpa using hj) hjA)
       ·refine ⟨by rw[hb];exact (h2.born j (by simpa using hj)).1,fun l hl he=>?_⟩;rw[hb,hb] at he
        exact (h2.born j (by simpa using hj)).2 l (by simpa using hl) he)
      refine ⟨(),_,κ,?_,q1,q2,trivial,fun _ _ _=>rfl⟩;simp[Instr.mapUpdate,Sem.run_bind,run_underlying hu,getO h1 rfl,e1,e2,hit,Instr.keyThatStays,hi',hsame,hmod,setO _ h1 rfl]
 ·exact h.elim
end
end Go.Fw
