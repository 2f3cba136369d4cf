/- Part 8 of the proof. -/
import Derived.Test.YtlblbldolhiokaaGreatDoorDual7
set_option linter.unusedVariables false
set_option linter.unusedSimpArgs false
set_option linter.unusedSectionVars false
set_option maxRecDepth 100000
set_option exponentiation.threshold 400
set_option maxHeartbeats 8000000
namespace Go.Fw
open Go.RowKit
abbrev Up:=Option (Nat×Nat×Blk)
def app (H:Hp):Up→Hp
 |some (d,g,B)=>setH H d (some (g,B))
 |none=>H
def J2K:AV→Bool
 |.dead|.tup _|.agg []=>false
 |_=>true
section
variable {P:Program} {T:Nat→Option TD} {gh:Gh} {κ:KM} {H:Hp} {w:World}
def Does (P:Program)(gh:Gh)(κ:KM)(H:Hp)(w:World){α:Type}(s:Sem α)(up:Up)(vr:KM→World→(Nat→Prop)→α→Prop):Prop:=
 ∃ r w' κ',s.run P w=.ok r w'∧HRel gh κ' (app H up) w'∧(∀ {y:AV} {v:Value},VR κ w (Nset gh.O κ H) y v→VR κ' w' (Nset gh.O κ' (app H up)) y v)∧vr κ' w' (Nset gh.O κ' (app H up)) r ∧
   (∀ b g,(∀ d g' B,up=some (d,g',B)→¬ (b=d∧g=g'))→κ' b g=κ b g)
theorem J0a {N:Nat→Prop}{x:AV}{v:Value}(hx:x.cells=[x])(hv:v.cells=#[v])(h:VR κ w N x v)(hp:plainV v=true) :
  v.cells.size=x.cells.length∧(∀ i (h:i<x.cells.length) (h':i<v.cells.size),VR κ w N x.cells[i] v.cells[i])∧∀ i (h':i<v.cells.size),plainV v.cells[i]=true:=by
 refine ⟨by rw[hx,hv];rfl,fun i h1 h2=>?_,fun i h2=>?_⟩
 ·have:i=0:=by rw[hx] at h1;simpa using h1
  subst this;simp only[hx,hv];exact h
 ·have:i=0:=by rw[hv] at h2;simpa using h2
  subst this;simp only[hv];exact hp
theorem VR.cellsOf {N:Nat→Prop}{x:AV}{v:Value}(h:VR κ w N x v)(hk:J2K x=true) :
  v.cells.size=x.cells.length∧(∀ i (h:i<x.cells.length) (h':i<v.cells.size),VR κ w N x.cells[i] v.cells[i])∧∀ i (h':i<v.cells.size),plainV v.cells[i]=true:=by
 cases h with
 |dead=>cases hk
 |tup=>cases hk
 |agg cs vs h1 h2 h3=>exact ⟨h1.symm,h2,h3⟩
 |val _ hp=>exact J0a rfl (by cases v<;>first|rfl|cases hp) (.val _ hp) hp
 |slnil n=>exact J0a rfl rfl (.slnil n) rfl
 |slemp n a=>exact J0a rfl rfl (.slemp n a) rfl
 |fu n xs a h=>exact J0a rfl rfl (.fu n xs a h) rfl
 |sl n xs c o cap f h1 h2 h3 h4 h5 h6 h7=>exact J0a rfl rfl (.sl n xs c o cap f h1 h2 h3 h4 h5 h6 h7) rfl
 |ep x k c o f h1 h2 h3 h4 h5=>exact J0a rfl rfl (.ep x k c o f h1 h2 h3 h4 h5) rfl
 |ownnil b g K h1 h2=>exact J0a rfl rfl (.ownnil b g K h1 h2) rfl
 |own b g off len cap c K h1 h2 h3 h4 hp=>exact J0a rfl rfl (.own b g off len cap c K h1 h2 h3 h4 hp) rfl
 |op b g i k c K h1 h2 hp=>exact J0a rfl rfl (.op b g i k c K h1 h2 hp) rfl
 |mp ks vs c A ck h1 h2 h3 h4 h5 h6 h7=>exact J0a rfl rfl (.mp ks vs c A ck h1 h2 h3 h4 h5 h6 h7) rfl
 |om b g c K h1 h2 h3=>exact J0a rfl rfl (.om b g c K h1 h2 h3) rfl
 |it b g c K h1 h2 h3=>exact J0a rfl rfl (.it b g c K h1 h2 h3) rfl
 |fn f first cap vf vc h1 h2 h3 h4=>exact J0a rfl rfl (.fn f first cap vf vc h1 h2 h3 h4) rfl
theorem J8q {x:AV}(h:J2K x=true):0<x.cells.length:=by
 cases x<;>first|(cases h;done)|(simp[AV.cells];done)|skip
 rename_i cs;cases cs
 ·cases h
 ·simp
theorem J0E (κ:KM)(d γ:Nat)(K:KI){b g:Nat}(h:¬ (b=d∧g=γ)):κ.set d γ K b g=κ b g:=by simp only[KM.set,h,if_false]
theorem J5q (hr:HRel gh κ H w){t d γ:Nat}(hγ:κ d γ=none){x:AV}{v:Value}(hv:VR κ w (Nset gh.O κ H) x v)(hk:J2K x=true) :
  Does P gh κ H w (do pure (.pointer (some (← newVar t v))):Sem Value) (some (d,γ,⟨t,x.cells.length,[x]⟩)) fun κ' w' N' r=>VR κ' w' N' (.op d γ 0 0) r:=by
 obtain ⟨h1,h2,h3⟩:=hv.cellsOf hk
 obtain ⟨hr',htr⟩:=hr.new (d:=d) (γ:=γ) (e:=t) (n:=x.cells.length) v.cells [x] hγ (J8q hk) (fun i h=>by simp at h;subst h;rfl) (by simp[h1]) (fun _ j=>v.cells.getD j undef)
  (fun i h j hj=>by simp at h;subst h;simp[h1,hj]) (fun i j h hj=>by have:=h3 j (by omega);simpa [h1,hj] using this)
  (fun i h j hj=>by simp at h;subst h;have:=h2 j hj (by rw[h1];exact hj);simp only[List.getElem_cons_zero] at hj ⊢;simpa [h1,hj] using this) (fun _=>by omega)
 refine ⟨.pointer (some ⟨w.heap.size,0,none⟩),_,_,by simp[newVar,newRow,Sem.run_bind],hr',htr,?_,fun b g h=>J0E _ _ _ _ (h _ _ _ rfl)⟩;have:=VR.op (κ:=κ.set d γ ⟨some w.heap.size,x.cells.length,v.cells.size⟩) (w:=w.alloc (.cells v.cells t)) (N:=Nset gh.O (κ.set d γ ⟨some w.heap.size,x.cells.length,v.cells.size⟩) (setH H d (some (γ,⟨t,x.cells.length,[x]⟩)))) d γ 0 0 w.heap.size _ (J09 ..) rfl (J8q hk)
 simpa [app] using this
theorem VR.zero {N:Nat→Prop}{t:Nat}{d:TD}(ht:TFact P t d){z:Value}(hz:z.cells.toList=d.zero) :
  z.cells.size=(mkEl d).cells.length∧(∀ i (h:i<(mkEl d).cells.length) (h':i<z.cells.size),VR κ w N (mkEl d).cells[i] z.cells[i])∧∀ i (h':i<z.cells.size),plainV z.cells[i]=true:=by
 have hc:=J12 ht;have hp:∀ i (h':i<z.cells.size),plainV z.cells[i]=true:=fun i h'=>ht.pl _ (by rw[← hz];simp);refine ⟨by rw[hc,← hz];simp,fun i h h'=>?_,hp⟩;simp only[hc,← hz,List.getElem_map,Array.getElem_toList];exact .val _ (hp i h')
theorem J70 (hr:HRel gh κ H w){t d γ:Nat}{td:TD}(ht:TFact P t td)(hγ:κ d γ=none) :
  Does P gh κ H w (Instr.alloc t true (.tuple #[])) (some (d,γ,⟨t,td.size,[mkEl td]⟩)) fun κ' w' N' r=>VR κ' w' N' (.op d γ 0 0) r:=by
 obtain ⟨z,hz,hrun⟩:=ht.run_zero w;obtain ⟨h1,h2,h3⟩:=VR.zero (κ:=κ) (w:=w) (N:=Nset gh.O κ H) ht hz;have hl:(mkEl td).cells.length=td.size:=by rw[J12 ht];simp[ht.len]
 rw[← hl]
 obtain ⟨hr',htr⟩:=hr.new (d:=d) (γ:=γ) (e:=t) (n:=(mkEl td).cells.length) z.cells [mkEl td] hγ (by rw[hl];exact ht.pos) (fun i h=>by simp at h;subst h;rfl) (by simp[h1]) (fun _ j=>z.cells.getD j undef)
  (fun i h j hj=>by simp at h;subst h;simp[h1,hj]) (fun i j h hj=>by have:=h3 j (by omega);simpa [h1,hj] using this)
  (fun i h j hj=>by simp at h;subst h;have:=h2 j hj (by rw[h1];exact hj);simp only[List.getElem_cons_zero] at hj ⊢;simpa [h1,hj] using this) (fun _=>by omega)
 refine ⟨.pointer (some ⟨w.heap.size,0,none⟩),_,_,by simp[Instr.alloc,newVar,newRow,Sem.run_bind,hrun],hr',htr,?_,fun b g h=>J0E _ _ _ _ (h _ _ _ rfl)⟩;have:=VR.op (κ:=κ.set d γ ⟨some w.heap.size,(mkEl td).cells.length,z.cells.size⟩) (w:=w.alloc (.cells z.cells t)) (N:=Nset gh.O (κ.set d γ ⟨some w.heap.size,(mkEl td).cells.length,z.cells.size⟩) (setH H d (some (γ,⟨t,(mkEl td).cells.length,[mkEl td]⟩)))) d γ 0 0 w.heap.size _ (J09 ..) rfl (by show 0<(mkEl td).cells.length;rw[hl];exact ht.pos)
 simpa [app] using this
end
end Go.Fw
