/- Part 48 of the proof. -/
import Derived.Test.YtlblbldolhiokaaGreatDoorDual47
set_option linter.unusedVariables false
set_option linter.unusedSimpArgs false
set_option linter.unusedSectionVars false
set_option maxRecDepth 100000
set_option exponentiation.threshold 400
set_option maxHeartbeats 8000000
namespace Go.Fw
open Go.RowKit
structure LB {H:Type} (L:DataW H→Prop) (B:Nat):Prop where
 sl:∀ e s,L (.slice e s)→e.length≤B∧∀ d∈e,L d
 ag:∀ p,L (.agg p)→∀ d∈p,L d
 st:∀ s,L (.lit (.string s))→s.length≤B
def OpenB {H:Type}(L:DataW H→Prop)(N:Nat)(enc:TypeId×Value→H)(P:Program)(w:World)(t:Nat)(Ψ:List AV→Prop):Prop:=
 ∀ (fuel:Nat),fuel≤N→∀ (cs:List Value) (x:DataW H×List MemPlace),DataW.trod enc P w 0 (fun _=>true) true fuel t cs=some x→L x.1→∃ z,CelR w z cs∧Ψ z
section
variable {H:Type} {enc:TypeId×Value→H} {P:Program} {w:World} {L:DataW H→Prop} {B0 N:Nat}
theorem OpenB.mono {t:Nat}{Ψ Ψ':List AV→Prop}(h:OpenB L N enc P w t Ψ)(k:∀ z,Ψ z→Ψ' z):OpenB L N enc P w t Ψ':=fun fuel hf cs x h1 h2=>by
 obtain ⟨z,h3,h4⟩:=h fuel hf cs x h1 h2;exact ⟨z,h3,k z h4⟩
theorem J0c (hL:LB L B0){t:Nat}(ht:P.underlying t=some .string):OpenB L N enc P w t fun z=>∃ s:ByteArray,z=[AV.val (.string s)]∧s.size≤B0:=by
 intro fuel _ cs x h hl;obtain ⟨s,rfl,rfl,_⟩:=DataW.trod_string ht h;exact ⟨_,CelR.one (.val _ rfl) rfl,s,rfl,by simpa using hL.st _ hl⟩
theorem J2W {t:Nat}{k:IntKind}(ht:P.underlying t=some (.int k)):OpenB L N enc P w t fun z=>∃ n:Int,z=[AV.val (.int k n)]:=by
 intro fuel _ cs x h hl;obtain ⟨n,rfl,rfl,hw⟩:=DataW.trod_int ht h;exact ⟨_,CelR.one (.val _ rfl) rfl,n,rfl⟩
theorem J4C {t:Nat}(ht:P.underlying t=some .bool):OpenB L N enc P w t fun z=>∃ b:Bool,z=[AV.val (.bool b)]:=by
 intro fuel _ cs x h hl;obtain ⟨b,rfl,rfl⟩:=DataW.trod_bool ht h;exact ⟨_,CelR.one (.val _ rfl) rfl,b,rfl⟩
theorem J1G {L:DataW H→Prop}{B0 N:Nat}(hL:LB L B0){t e n:Nat}{A:Type}{f:A→AV}{Φ:A→Prop}(ht:P.underlying t=some (.slice e))(hc:P.cellsOf e=n)(hn:0<n)(he:OpenB L N enc P w e fun z=>∃ a,z=(f a).cells∧Φ a) :
  OpenB L (N+1) enc P w t fun z=>∃ l:List A,z=[AV.sl n (l.map f)]∧l.length≤B0∧∀ a∈l,Φ a:=by
 intro fuel hfu cs x h hl
 rcases DataW.trod_slice ht h with ⟨rfl,rfl⟩|⟨a,len,cap,elems,rest,m,hfm,rfl,rfl,_,hlc,hm,hlen,hel,hsp,_⟩
 ·exact ⟨_,CelR.one (.slnil n) rfl,[],rfl,Nat.zero_le _,fun a h=>absurd h (by simp)⟩
 obtain ⟨hrl,hr⟩:=hsp rfl;obtain ⟨hl1,hl2⟩:=hL.sl _ _ hl;have hle:len≤B0:=by simpa [hlen] using hl1
 rw[hc] at hel hr
 have each:∀ i,i<len→∃ ecs,w.cells? 0 (a.add (i*n)) n=some ecs∧∃ y,DataW.trod enc P w 0 (fun _=>true) true m e ecs=some y∧y∈elems:=by
  intro i hi;have:=hel i hi;rw[List.getElem?_eq_getElem (by omega),Option.bind_eq_some_iff] at this;obtain ⟨ecs,h1,h2⟩:=this;exact ⟨ecs,h1,_,h2,List.getElem_mem _⟩
 have eachR:∀ j,j<cap-len→∃ ecs,w.cells? 0 (a.add ((len+j)*n)) n=some ecs:=by
  intro j hj;have:=hr j hj;rw[List.getElem?_eq_getElem (by omega),Option.bind_eq_some_iff] at this;obtain ⟨ecs,h1,h2⟩:=this;exact ⟨ecs,h1⟩
 have any:∀ i,i<cap→∃ ecs,w.cells? 0 (a.add (i*n)) n=some ecs:=by
  intro i hi
  by_cases q:i<len
  ·obtain ⟨ecs,h1,_⟩:=each i q;exact ⟨ecs,h1⟩
  ·have:=eachR (i-len) (by omega)
   rwa [show len+(i-len)=i by omega] at this
 rcases Nat.eq_zero_or_pos cap with hcap|hcap
 ·obtain rfl:len=0:=by omega
  subst hcap;exact ⟨_,CelR.one (.slemp n a) rfl,[],rfl,Nat.zero_le _,fun a h=>absurd h (by simp)⟩
 have hspot:a.spot=none:=by
  obtain ⟨ecs0,h0⟩:=any 0 hcap;obtain ⟨_,hl0,hg0⟩:=World.cells?_some h0;have h1:=hg0 0 hn;rw[List.getElem?_eq_getElem (by omega)] at h1;simp only[Nat.zero_mul,Addr.add,if_pos] at h1;exact (J9c h1).1
 obtain ⟨b,off,spot⟩:=a;simp only at hspot;subst hspot;obtain ⟨ecs0,h0⟩:=any (cap-1) (by omega);obtain ⟨_,hl0,hg0⟩:=World.cells?_some h0;have hlast:=hg0 (n-1) (by omega);rw[List.getElem?_eq_getElem (by omega),J0Y,J0Y] at hlast;obtain ⟨_,B,et,z,hblk,hoff⟩:=J9c hlast;have hblk':w.heap[b]?=some (.cells B et z):=hblk
 have hsz:off+cap*n≤B.size:=by
  have h2:=(Array.getElem?_eq_some_iff.1 hoff).1;have h3:off+(cap-1)*n+(n-1)<B.size:=h2;have h4:cap*n=(cap-1)*n+n:=by rw[← Nat.succ_mul];congr 1;omega
  omega
 obtain ⟨l,hll,hQ⟩:=JI7 (A:=A) (Q:=fun i x=>∃ ecs,w.cells? 0 ((⟨b,off,none⟩:Addr).add (i*n)) n=some ecs∧CelR w (f x).cells ecs∧Φ x) len fun i hi=>by
  obtain ⟨ecs,h1,y,h2,h3⟩:=each i hi;obtain ⟨z,h4,x,rfl,h5⟩:=he m (by omega) ecs y h2 (hl2 _ (List.mem_map.2 ⟨y,h3,rfl⟩));exact ⟨x,ecs,h1,h4,h5⟩
 let F:Nat→Nat→Value:=fun i j=>(((w.cells? 0 ((⟨b,off,none⟩:Addr).add (i*n)) n).getD []).getD j undef)
 have hF:∀ i (hi:i<l.length),∃ ecs,ecs.length=n∧(∀ j,j<n→w.cell? ⟨b,off+i*n+j,none⟩=some (F i j))∧CelR w (f l[i]).cells ecs∧∀ j,F i j=ecs.getD j undef:=by
  intro i hi;obtain ⟨ecs,h1,h2,_⟩:=hQ i hi;obtain ⟨_,h3,h4⟩:=World.cells?_some h1;have hFe:∀ j,F i j=ecs.getD j undef:=fun j=>by simp only[F,h1,Option.getD_some]
  refine ⟨ecs,h3,fun j hj=>?_,h2,hFe⟩;have:=h4 j hj;rw[List.getElem?_eq_getElem (by omega)] at this;rw[hFe,List.getD_eq_getElem?_getD,List.getElem?_eq_getElem (by omega)];rw[J0Y,J0Y] at this;exact this
 refine ⟨_,CelR.one (x:=AV.sl n (l.map f)) ?_ rfl,l,rfl,by omega,fun x hx=>?_⟩
 ·have:=VR.sl (κ:=KM.empty) (w:=w) (N:=NoN) n (l.map f) b off cap F (by simp;omega) (fun h=>h) ⟨B,et,z,hblk',hsz⟩ (fun i hi=>?_) (fun i hi j hj=>?_) (fun i hi j hj=>?_) (fun i j hi hj=>?_)
  ·simpa [hll] using this
  ·have hi':i<l.length:=by simpa using hi
   obtain ⟨ecs,h1,_,h2,_⟩:=hF i hi';simp only[List.getElem_map];rw[h2.len,h1]
  ·obtain ⟨ecs,_,h1,_,_⟩:=hF i (by simpa using hi);exact h1 j hj
  ·have hi':i<l.length:=by simpa using hi
   obtain ⟨ecs,h1,_,h2,h3⟩:=hF i hi';simp only[List.getElem_map] at hj ⊢;have hje:j<ecs.length:=by rw[← h2.len];exact hj
   rw[h3,List.getD_eq_getElem?_getD,List.getElem?_eq_getElem hje];exact h2.rel j hj hje
  ·obtain ⟨ecs,h1,_,h2,h3⟩:=hF i (by simpa using hi);have hje:j<ecs.length:=by omega
   rw[h3,List.getD_eq_getElem?_getD,List.getElem?_eq_getElem hje];exact h2.pl _ (List.getElem_mem hje)
 ·obtain ⟨i,hi,rfl⟩:=List.getElem_of_mem hx;exact (hQ i hi).choose_spec.2.2
abbrev Fld:=Nat×Nat×Nat×(List AV→Prop)
def offs:Nat→List Fld→Option Nat
 |o,[]=>some o
 |o,p::r=>if p.1=o then offs (o+p.2.2.1) r else none
def AllZ:List Fld→List (List AV)→Prop
 |[],[]=>True
 |p::r,z::zs=>p.2.2.2 z∧AllZ r zs
 |_,_=>False
theorem J93 {n:Nat}{cs:List Value}:∀ (tys:List Fld) (ys:List (DataW H×List MemPlace)) (o:Nat),(∀ p∈tys,P.cellsOf p.2.1=p.2.2.1)→(∀ p∈tys,OpenB L n enc P w p.2.1 p.2.2.2)→ys.length=tys.length →
  (∀ (j:Nat) (p:Fld),tys[j]?=some p→DataW.trod enc P w 0 (fun _=>true) true n p.2.1 ((cs.drop p.1).take (P.cellsOf p.2.1))=ys[j]?)→(∀ y∈ys,L y.1)→offs o tys=some cs.length →
  ∃ zs:List (List AV),CelR w zs.flatten (cs.drop o)∧AllZ tys zs
 |[],ys,o,_,_,_,_,_,ho=>by
   have ho:some o=some cs.length:=ho;cases ho;exact ⟨[],⟨by simp,fun i h=>absurd h (by simp),fun v hv=>by simp at hv⟩,trivial⟩
 |p::r,[],o,_,_,hy,_,_,_=>by simp at hy
 |p :: r,y::ys,o,hc,h,hy,ht,hl,ho=>by
   have ho':(if p.1=o then offs (o+p.2.2.1) r else none)=some cs.length:=ho
   by_cases e:p.1=o
   ·rw[if_pos e] at ho';have h1:=ht 0 p rfl;rw[e,hc p (by simp)] at h1;obtain ⟨z,r1,p1⟩:=h p (by simp) n (Nat.le_refl _) _ y h1 (hl y (by simp));obtain ⟨zs,r2,p2⟩:=J93 r ys (o+p.2.2.1) (fun q hq=>hc q (by simp[hq])) (fun q hq=>h q (by simp[hq])) (by simpa using hy) (fun j q hq=>ht (j+1) q (by simpa using hq)) (fun q hq=>hl q (by simp[hq])) ho';refine ⟨z::zs,?_,p1,p2⟩;have e2:cs.drop o=(cs.drop o).take p.2.2.1++cs.drop (o+p.2.2.1):=by rw[← List.drop_drop,List.take_append_drop]
    rw[e2,List.flatten_cons];exact CelR.app r1 r2
   ·rw[if_neg e] at ho';cases ho'
theorem J0X (hL:LB L B0){t:Nat}{fs:Array Field}(hu:P.underlying t=some (.struct fs))(tys:List Fld)(hf:fs.toList.map (fun f=>(f.offset,f.type))=tys.map fun p=>(p.1,p.2.1))
  (hc:∀ p∈tys,P.cellsOf p.2.1=p.2.2.1)(ho:offs 0 tys=some (P.cellsOf t))(h:∀ p∈tys,OpenB L N enc P w p.2.1 p.2.2.2) :
  OpenB L (N+1) enc P w t fun z=>∃ zs:List (List AV),z=zs.flatten∧AllZ tys zs:=by
 intro fuel hfu cs x hx hl;obtain ⟨xs,n,hfn,rfl,hcl,hxl,hall⟩:=DataW.trod_struct hu hx;have hlen:fs.size=tys.length:=by simpa using congrArg List.length hf
 have hn:n≤N:=by omega
 obtain ⟨zs,h1,h2⟩:=J93 (cs:=cs) (n:=n) tys xs 0 hc (fun p hp=>fun fuel hfu=>h p hp fuel (Nat.le_trans hfu hn)) (by omega) (fun j p hp=>by
  have h3:=congrArg (fun l=>l[j]?) hf;simp only[List.getElem?_map,hp,Option.map_some] at h3
  cases hj:fs[j]? with
  |none=>
    rw[Array.getElem?_toList,hj] at h3;cases h3
  |some f=>
    rw[Array.getElem?_toList,hj] at h3;simp only[Option.map_some,Option.some.injEq,Prod.mk.injEq] at h3;have:=hall j f hj;rw[h3.1,h3.2] at this
    exact this) (fun y hy=>hL.ag _ hl _ (List.mem_map.2 ⟨y,hy,rfl⟩)) (by rw[ho,hcl])
 exact ⟨_,by simpa using h1,zs,rfl,h2⟩
end
end Go.Fw
