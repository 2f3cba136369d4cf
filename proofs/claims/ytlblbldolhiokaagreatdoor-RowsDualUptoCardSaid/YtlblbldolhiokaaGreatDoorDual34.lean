/- Part 34 of the proof. -/
import Derived.Test.YtlblbldolhiokaaGreatDoorDual33
set_option linter.unusedVariables false
set_option linter.unusedSimpArgs false
set_option linter.unusedSectionVars false
set_option maxRecDepth 100000
set_option exponentiation.threshold 400
set_option maxHeartbeats 8000000
namespace Go.Fw
open Go.RowKit
def J2B:List Nat→List Oper→List Nat
 |ms,[]=>ms
 |ms,o::r=>J2B (ms++[J1O ms (J0g o)]) r
def JAy (ops:Array Oper):Nat→List Oper→Bool
 |_,[]=>true
 |i,o::r=>(J0g o).all (fun p=>Nat.blt p i)&&JAy ops (i+1) r
structure MInv (ops:Array Oper) (ms:List Nat):Prop where
 lt:∀ i (h:i<ops.size),∀ p∈J0g ops[i],p<i
 eq:∀ i (h:i<ops.size),ms.getD i 0=J1O (ms.take i) (J0g ops[i])
theorem JC8 {ops:Array Oper}:∀ {l:List Oper} {i:Nat},l=ops.toList.drop i→JAy ops i l=true→∀ j (h:j<ops.size),i≤j→∀ p∈J0g ops[j],p<j
 |[],i,hl,_,j,h,hij=>by
   have:=congrArg List.length hl;simp at this;omega
 |o :: r,i,hl,hb,j,h,hij=>by
   unfold JAy at hb;simp only[Bool.and_eq_true] at hb;have hi:i<ops.toList.length:=by simp;omega
   rw[List.drop_eq_getElem_cons hi] at hl
   injection hl with hl1 hl2
   by_cases e:i=j
   ·subst e;intro p hp;have:o=ops[i]:=by rw[hl1];simp
    have:=List.all_eq_true.1 hb.1 p (by rw[this];exact hp);exact Nat.le_of_ble_eq_true this
   ·exact JC8 hl2 hb.2 j h (by omega)
theorem J5S:∀ {l:List Oper} {ms:List Nat},∃ t,J2B ms l=ms++t∧t.length=l.length
 |[],ms=>⟨[],by simp[J2B],rfl⟩
 |o::r,ms=>by
   obtain ⟨t,h,hl⟩:=J5S (l:=r) (ms:=ms++[J1O ms (J0g o)]);exact ⟨J1O ms (J0g o)::t,by simp[J2B,h],by simp[hl]⟩
theorem JBi {ops:Array Oper}:∀ {l:List Oper} {ms:List Nat},l=ops.toList.drop ms.length→ms.length≤ops.size→∀ j (h:j<ops.size),ms.length≤j→(J2B ms l).getD j 0=J1O ((J2B ms l).take j) (J0g ops[j])
 |[],ms,hl,hs,j,h,hij=>by
   have:=congrArg List.length hl;simp at this;omega
 |o :: r,ms,hl,hs,j,h,hij=>by
   have hi:ms.length<ops.toList.length:=by simp;omega
   rw[List.drop_eq_getElem_cons hi] at hl
   injection hl with hl1 hl2
   unfold J2B;obtain ⟨t,ht,_⟩:=J5S (l:=r) (ms:=ms++[J1O ms (J0g o)])
   by_cases e:ms.length=j
   ·subst e;have:o=ops[ms.length]:=by rw[hl1];simp
    rw[ht,this];simp[List.getD_eq_getElem?_getD]
   ·exact JBi (by simpa using hl2) (by simp;omega) j h (by simp;omega)
theorem MInv.of {ops:Array Oper}(h:JAy ops 0 ops.toList=true):MInv ops (J2B [] ops.toList):=
 ⟨fun i hi=>JC8 (by simp) h i hi (Nat.zero_le _),fun i hi=>JBi (by simp) (by simp) i hi (by simp)⟩
theorem MInv.closed {ops:Array Oper}{ms:List Nat}(hI:MInv ops ms){X:Nat→Prop}(hX:∀ i (h:i<ops.size),X i→∀ p∈J0g ops[i],X p) :
  ∀ i (h:i<ops.size),(∀ p∈J0g ops[i],X p)→∀ j,(ms.getD i 0).testBit j=true→X j:=by
 intro i
 induction i using Nat.strongRecOn with
 |_ i ih=>
   intro h hp j hj;have h1:=hI.lt i h;rw[hI.eq i h] at hj;refine J5T hp (fun p hpp j hj=>?_) j hj;have hlt:=h1 p hpp
   have:(ms.take i).getD p 0=ms.getD p 0:=by
    simp[List.getD_eq_getElem?_getD,List.getElem?_take,hlt]
   rw[this] at hj;exact ih p hlt (by omega) (hX p (by omega) (hp p hpp)) j hj
section
variable {E:En} {ops:Array Oper} {γs:Nat→Nat} {σ0:Fr} {H0:Hp} {L:List St}
def JB6 (ops:Array Oper)(ms:List Nat)(hi:Nat):Prop:=∀ i,hi≤i→i<ops.size→∀ j,j<hi→(ms.getD i 0).testBit j=true
theorem J5K {ms:List Nat}(hI:MInv ops ms){lo hi:Nat}(hhi:hi≤ops.size)(hA:JB6 ops ms hi){listed:Array Bool}(hsz:listed.size=ops.size)
  (hcl:∀ i (h:i<ops.size),listed.getD i false=true→∀ p∈J0g ops[i],listed.getD p false=true)(hlo:∀ i,i<lo→listed.getD i false=true){i:Nat}(hi':i∈Region.ready .any ops listed) :
  (∀ j,j<hi→listed.getD j false=true)∨(lo≤i∧i<hi):=by
 obtain ⟨h1,o,ho,hed⟩:=mem_ready.1 hi';have hlt:i<ops.size:=(Array.getElem?_eq_some_iff.1 ho).1;have hoi:o=ops[i]:=by rw[Array.getElem?_eq_getElem hlt] at ho;cases ho;rfl
 subst hoi
 have hpr:∀ p∈J0g ops[i],listed.getD p false=true:=by
  intro p hp;obtain ⟨e,he,rfl⟩:=List.mem_map.1 hp;obtain ⟨he1,he2⟩:=List.mem_filter.1 he;exact hed e (by simpa using he1) he2
 by_cases hih:i<hi
 ·right;refine ⟨?_,hih⟩
  rcases Nat.lt_or_ge i lo with h|h
  ·have:=hlo i h;rw[Array.getD_eq_getD_getElem?,Array.getElem?_eq_getElem (by omega)] at h1 this;simp at h1 this;rw[h1] at this;cases this
  ·exact h
 ·left;intro j hj;exact hI.closed (X:=fun j=>listed.getD j false=true) hcl i hlt hpr j (hA i (by omega) hlt j hj)
theorem J7c {ms:List Nat}(hI:MInv ops ms){listed:Array Bool}(hsz:listed.size=ops.size)(hre:Region.ready .any ops listed=[]):∀ i,i<ops.size→listed.getD i false=true:=by
 intro i
 induction i using Nat.strongRecOn with
 |_ i ih=>
   intro hi
   cases hX:listed.getD i false with
   |true=>rfl
   |false=>
     exfalso
     have:i∈Region.ready .any ops listed:=by
      refine mem_ready.2 ⟨?_,ops[i],Array.getElem?_eq_getElem hi,fun e he hb=>?_⟩
      ·rw[Array.getD_eq_getD_getElem?,Array.getElem?_eq_getElem (by omega)] at hX ⊢;exact hX
      ·have hp:e.on∈J0g ops[i]:=List.mem_map.2 ⟨e,List.mem_filter.2 ⟨by simpa using he,hb⟩,rfl⟩;exact ih e.on (hI.lt i hi _ hp) (by have:=hI.lt i hi _ hp;omega)
     rw[hre] at this;exact absurd this (by simp)
def NextP (E:En)(ops:Array Oper)(Q:Exit→Act→World→Prop)(gh:Gh)(hi:Nat)(σ:Fr)(H:Hp)(Z:Nat→Prop:=fun _=>False):Prop:=
 ∀ (fuel:Nat) (listed:Array Bool) (κ:KM) (a:Act) (w:World),listed.size=ops.size→ops.size≤fuel+cnt (fun k=>listed.getD k false) ops.size →
   (∀ i,i<ops.size→listed.getD i false=decide (i<hi))→Rel gh κ σ H a w→(∀ g,Z g→∀ b,κ b g=none)→wpAny E.P .any ops Q fuel listed a w
theorem JDk (hT:TOk E.P E.T){gh:Gh}{Z:Nat→Prop}{ms:List Nat}(hI:MInv ops ms){lo m:Nat}(hm:lo+m≤ops.size)(hA:JB6 ops ms (lo+m))
  (hind:∀ i (h:i<m) j (hj:j<i),(ms.getD (lo+i) 0).testBit (lo+j)=true∨J1f ops (ops[lo+j]'(by omega),stOf L j) (ops[lo+i]'(by omega),stOf L i)=true)
  (hone:∀ i (h:i<m),One E ops (γs i) (ops[lo+i]'(by omega)) (sg (fun k=>J0D ops (lo+k)) (stOf L) σ0 TT i) (hg (stOf L) H0 TT i) (stOf L i))(hγ:∀ i j,γs i=γs j→i=j)
  (hgo:ops.toList.all (J0t gh.nt)=true){Q:Exit→Act→World→Prop}(hQ:NextP E ops Q gh (lo+m) (sg (fun k=>J0D ops (lo+k)) (stOf L) σ0 TT m) (hg (stOf L) H0 TT m) Z)(hZγ:∀ g,Z g→∀ i,i<m→g≠γs i) :
  ∀ (fuel:Nat) (listed:Array Bool) (κ:KM) (a:Act) (w:World),listed.size=ops.size→ops.size≤fuel+cnt (fun k=>listed.getD k false) ops.size →
    (∀ i (h:i<ops.size),listed.getD i false=true→∀ p∈J0g ops[i],listed.getD p false=true)→(∀ i,i<lo→listed.getD i false=true)→(∀ i,listed.getD i false=true→i<lo+m) →
    Rel gh κ (sg (fun k=>J0D ops (lo+k)) (stOf L) σ0 (fun k=>listed.getD (lo+k) false) m) (hg (stOf L) H0 (fun k=>listed.getD (lo+k) false) m) a w →
    (∀ i,i<m→listed.getD (lo+i) false=false→∀ b,κ b (γs i)=none)→(∀ g,Z g→∀ b,κ b g=none)→wpAny E.P .any ops Q fuel listed a w:=by
 have hdst:∀ i (h:lo+i<ops.size),J0D ops (lo+i)=ops[lo+i].dst:=fun i h=>by unfold J0D;rw[Array.getElem?_eq_getElem h];rfl
 have done:∀ (fuel:Nat) (listed:Array Bool) (κ:KM) (a:Act) (w:World),listed.size=ops.size→ops.size≤fuel+cnt (fun k=>listed.getD k false) ops.size→(∀ i,i<lo+m→listed.getD i false=true)→(∀ i,listed.getD i false=true→i<lo+m) →
   Rel gh κ (sg (fun k=>J0D ops (lo+k)) (stOf L) σ0 (fun k=>listed.getD (lo+k) false) m) (hg (stOf L) H0 (fun k=>listed.getD (lo+k) false) m) a w→(∀ g,Z g→∀ b,κ b g=none)→wpAny E.P .any ops Q fuel listed a w:=by
  intro fuel listed κ a w hsz hfuel hall hin hr hZ
  have e1:sg (fun k=>J0D ops (lo+k)) (stOf L) σ0 (fun k=>listed.getD (lo+k) false) m=sg (fun k=>J0D ops (lo+k)) (stOf L) σ0 TT m:=by
   funext s;exact J27 _ _ _ _ fun k hk hne=>absurd (hall (lo+k) (by omega)) hne
  have e2:hg (stOf L) H0 (fun k=>listed.getD (lo+k) false) m=hg (stOf L) H0 TT m:=by
   funext s;exact J2C _ _ _ fun k hk hne=>absurd (hall (lo+k) (by omega)) hne
  rw[e1,e2] at hr;refine hQ fuel listed κ a w hsz hfuel (fun i hi=>?_) hr hZ
  by_cases h:i<lo+m
  ·rw[hall i h,decide_eq_true h]
  ·rw[decide_eq_false h]
   cases hX:listed.getD i false with
   |true=>exact absurd (hin i hX) h
   |false=>rfl
 intro fuel
 induction fuel with
 |zero=>
   intro listed κ a w hsz hfuel hcl hlo hin hr hfr hZ;have hall:=J6A (X:=fun k=>listed.getD k false) (n:=ops.size) (by simpa using hfuel);exact done 0 listed κ a w hsz hfuel (fun i hi=>hall i (by omega)) hin hr hZ
 |succ fuel ih=>
   intro listed κ a w hsz hfuel hcl hlo hin hr hfr hZ
   by_cases hall:∀ i,i<lo+m→listed.getD i false=true
   ·exact done _ listed κ a w hsz hfuel hall hin hr hZ
   refine ⟨fun hre=>absurd (fun i hi=>J7c hI hsz hre i (by omega)) hall,fun i0 hi0=>?_⟩;have hrange:=(J5K hI hm hA hsz hcl hlo hi0).resolve_left hall;obtain ⟨i,rfl⟩:∃ i,i0=lo+i:=⟨i0-lo,by omega⟩;have him:i<m:=by omega
   obtain ⟨h1,o,ho,hed⟩:=mem_ready.1 hi0;have hlt:lo+i<ops.size:=by omega
   have hoi:o=ops[lo+i]:=by rw[Array.getElem?_eq_getElem hlt] at ho;cases ho;rfl
   subst hoi
   have hXi:listed.getD (lo+i) false=false:=by
    rw[Array.getD_eq_getD_getElem?,Array.getElem?_eq_getElem (by omega)] at h1 ⊢;exact h1
   have hpr:∀ p∈J0g ops[lo+i],listed.getD p false=true:=by
    intro p hp;obtain ⟨e,he,rfl⟩:=List.mem_map.1 hp;obtain ⟨he1,he2⟩:=List.mem_filter.1 he;exact hed e (by simpa using he1) he2
   have hbefore:∀ k (hk:k<i),listed.getD (lo+k) false=false→J1f ops (ops[lo+k]'(by omega),stOf L k) (ops[lo+i],stOf L i)=true:=by
    intro k hk hX;refine (hind i him k hk).resolve_left fun hb=>?_;have:=hI.closed (X:=fun j=>listed.getD j false=true) hcl (lo+i) hlt hpr (lo+k) hb;rw[hX] at this;cases this
   have hafter:∀ k (hk:k<m),i<k→listed.getD (lo+k) false=true→J1f ops (ops[lo+i],stOf L i) (ops[lo+k]'(by omega),stOf L k)=true:=by
    intro k hk hik hX;refine (hind k hk i hik).resolve_left fun hb=>?_;have:=hI.closed (X:=fun j=>listed.getD j false=true) hcl (lo+k) (by omega) (hcl _ (by omega) hX) (lo+i) hb;rw[hXi] at this;cases this
   have Tcut:∀ k,k≤i→sg (fun k=>J0D ops (lo+k)) (stOf L) σ0 (fun k=>decide (k<i)) k=sg (fun k=>J0D ops (lo+k)) (stOf L) σ0 TT k∧hg (stOf L) H0 (fun k=>decide (k<i)) k=hg (stOf L) H0 TT k:=by
    intro k hk;constructor
    ·funext s;exact J27 _ _ _ _ fun j hj hne=>absurd (by simp[TT];omega) hne
    ·funext s;exact J2C _ _ _ fun j hj hne=>absurd (by simp[TT];omega) hne
   have Tcut2:∀ k,i≤k→sg (fun k=>J0D ops (lo+k)) (stOf L) σ0 (fun k=>decide (k<i)) k=sg (fun k=>J0D ops (lo+k)) (stOf L) σ0 TT i∧hg (stOf L) H0 (fun k=>decide (k<i)) k=hg (stOf L) H0 TT i:=by
    intro k hk
    induction k with
    | zero=>exact Tcut 0 (Nat.zero_le _) |>.imp (fun h=>by have:i=0:=by omega
                                                           subst this;exact h) (fun h=>by have:i=0:=by omega
                                                                                          subst this;exact h)
    |succ k ihk=>
      by_cases e:i=k+1
      ·rw[e] at Tcut ⊢;exact Tcut (k+1) (Nat.le_refl _)
      ·have:=ihk (by omega);simp only[sg,hg,decide_eq_false (show ¬ k<i by omega),Bool.false_eq_true,if_false];exact this
   have hslot:∀ s,s∈ops[lo+i].looksAt ops→sg (fun k=>J0D ops (lo+k)) (stOf L) σ0 TT i s=sg (fun k=>J0D ops (lo+k)) (stOf L) σ0 (fun k=>listed.getD (lo+k) false) m s:=by
    intro s hs;rw[← (Tcut2 m (by omega)).1];refine J27 _ _ _ _ fun k hk hne=>?_;rw[hdst k (by omega)];intro hd
    by_cases hki:k<i
    ·have hX:listed.getD (lo+k) false=false:=by
      rw[decide_eq_true hki] at hne
      cases h:listed.getD (lo+k) false with
      |true=>exact absurd h.symm hne
      |false=>rfl
     have:=hbefore k hki hX;unfold J1f at this;simp only[Bool.and_eq_true] at this;exact (Oper.apart_spec this.1).1 s hd hs
    ·have hX:listed.getD (lo+k) false=true:=by
      rw[decide_eq_false hki] at hne
      cases h:listed.getD (lo+k) false with
      |true=>rfl
      |false=>exact absurd h.symm hne
     have hik:i<k:=by
      rcases Nat.lt_or_ge i k with h|h
      ·exact h
      ·have:k=i:=by omega
       subst this;rw[hXi] at hX;cases hX
     have:=hafter k hk hik hX;unfold J1f at this;simp only[Bool.and_eq_true] at this;exact (Oper.apart_spec this.1).2.2 s hd hs
   have hname:∀ b,b∈(stOf L i).nr→hg (stOf L) H0 TT i b=hg (stOf L) H0 (fun k=>listed.getD (lo+k) false) m b:=by
    intro b hb;rw[← (Tcut2 m (by omega)).2];refine J2C _ _ _ fun k hk hne d g B hup e=>?_;subst e
    by_cases hki:k<i
    ·have hX:listed.getD (lo+k) false=false:=by
      rw[decide_eq_true hki] at hne
      cases h:listed.getD (lo+k) false with
      |true=>exact absurd h.symm hne
      |false=>rfl
     have:=hbefore k hki hX;unfold J1f J5Z at this;simp only[Bool.and_eq_true,hup] at this;have:=this.2.1.1;simp only[Bool.not_eq_true',List.contains_eq_mem,decide_eq_false_iff_not] at this;exact this hb
    ·have hX:listed.getD (lo+k) false=true:=by
      rw[decide_eq_false hki] at hne
      cases h:listed.getD (lo+k) false with
      |true=>rfl
      |false=>exact absurd h.symm hne
     have hik:i<k:=by
      rcases Nat.lt_or_ge i k with h|h
      ·exact h
      ·have:k=i:=by omega
       subst this;rw[hXi] at hX;cases hX
     have:=hafter k hk hik hX;unfold J1f J5Z at this;simp only[Bool.and_eq_true,hup] at this;have:=this.2.2;simp only[Bool.not_eq_true',List.contains_eq_mem,decide_eq_false_iff_not] at this;exact this hb
   have hX0:∀ k,(listed.setIfInBounds (lo+i) true).getD k false=(listed.getD k false||decide (k=lo+i)):=by
    intro k
    by_cases e:k=lo+i
    ·subst e;simp[Array.getD_eq_getD_getElem?,hsz,hlt]
    ·rw[getD_set_ne false (fun h=>e h.symm),decide_eq_false e,Bool.or_false]
   have hX':∀ k,(listed.setIfInBounds (lo+i) true).getD (lo+k) false=(listed.getD (lo+k) false||decide (k=i)):=by
    intro k;rw[hX0 (lo+k)]
    congr 1
    simp
   have es:sg (fun k=>J0D ops (lo+k)) (stOf L) σ0 (fun k=>(listed.setIfInBounds (lo+i) true).getD (lo+k) false) m=put (sg (fun k=>J0D ops (lo+k)) (stOf L) σ0 (fun k=>listed.getD (lo+k) false) m) ops[lo+i].dst (stOf L i).v:=by
    rw[← hdst i hlt];refine J5C (fun k=>J0D ops (lo+k)) _ _ hXi hX' _ him fun k hik hk hX x hx=>?_;have hx:J0D ops (lo+k)=some x:=hx;show J0D ops (lo+i)≠some x
    rw[hdst k (by omega)] at hx;rw[hdst i hlt];intro hx';have:=hafter k hk hik hX;unfold J1f at this;simp only[Bool.and_eq_true] at this;exact (Oper.apart_spec this.1).2.1 x hx' hx
   have eh:hg (stOf L) H0 (fun k=>(listed.setIfInBounds (lo+i) true).getD (lo+k) false) m=app (hg (stOf L) H0 (fun k=>listed.getD (lo+k) false) m) (stOf L i).up:=by
    refine J5a _ _ hXi hX' _ him fun k hik hk hX d g B d' g' B' hu hu' e=>?_;subst e;have:=hafter k hk hik hX;unfold J1f J5Z at this;simp only[Bool.and_eq_true,hu,hu'] at this
    simpa using this.2.1.2
   have next:∀ (κ':KM) (a':Act) (w':World),Rel gh κ' (put (sg (fun k=>J0D ops (lo+k)) (stOf L) σ0 (fun k=>listed.getD (lo+k) false) m) ops[lo+i].dst (stOf L i).v) (app (hg (stOf L) H0 (fun k=>listed.getD (lo+k) false) m) (stOf L i).up) a' w' →
    (∀ g,g≠γs i→(∀ b,κ b g=none)→∀ b,κ' b g=none)→wpAny E.P .any ops Q fuel (listed.setIfInBounds (lo+i) true) a' w':=by
    intro κ' a' w' hr' hfr';refine ih _ κ' a' w' (by simp[hsz]) ?_ ?_ ?_ ?_ (by rw[es,eh];exact hr') ?_ (fun g hg=>hfr' g (hZγ g hg i him) (hZ g hg))
    ·rw[J23 (i:=lo+i) hXi hX0 hlt];omega
    ·intro k hk hXk p hp;rw[hX0] at hXk ⊢;simp only[Bool.or_eq_true,decide_eq_true_eq] at hXk ⊢
     rcases hXk with h|h
     ·exact .inl (hcl k hk h p hp)
     ·subst h;exact .inl (hpr p hp)
    ·intro k hk;rw[hX0,hlo k hk];rfl
    ·intro k hk;rw[hX0] at hk;simp only[Bool.or_eq_true,decide_eq_true_eq] at hk
     rcases hk with h|h
     ·exact hin k h
     ·omega
    ·intro k hk hXk b;rw[hX'] at hXk;simp only[Bool.or_eq_false_iff,decide_eq_false_iff_not] at hXk;exact hfr' (γs k) (fun e=>hXk.2 (hγ _ _ e)) (hfr k hk hXk.1) b
   have hgood:=List.all_eq_true.1 hgo ops[lo+i] (by simp);unfold J0t at hgood;simp only[Bool.and_eq_true] at hgood;obtain ⟨hd,hops⟩:=hgood;have hd':∀ x,ops[lo+i].dst=some x→x<gh.nt:=by intro x hx;rw[hx] at hd;simpa using hd
   unfold wpOp;rw[ho];simp only;have hgk:=J90 (o:=ops[lo+i]) hslot
   have hwant:∀ b,gOk ops (sg (fun k=>J0D ops (lo+k)) (stOf L) σ0 (fun k=>listed.getD (lo+k) false) m) ops[lo+i]=some b→Region.wanted ops[lo+i] (yielded ops a.tmps)=b:=by
    intro b hb;unfold gOk at hb;split at hb
    ·rename_i hgd;cases hb;simp[Region.wanted,hgd]
    ·rename_i j want hgd;split at hb
     ·rename_i t ht;have hsl:=hr.slots t
      have hy:yielded ops a.tmps j=match (a.tmps.getD t undef) with|.bool b=>some b|_=>none:=by
       unfold yielded;unfold gdst at ht;rw[ht];simp only[Option.bind_some,Array.getD_eq_getD_getElem?]
       cases a.tmps[t]? with
       |none=>rfl
       |some v=>cases v<;>rfl
      split at hb
      ·rename_i b' hb';rw[hb'] at hsl;generalize hv:a.tmps.getD t undef=v at hsl hy
       cases hsl with
       |val _ _=>cases hb;cases b'<;>cases want<;>simp[Region.wanted,hgd,hy]
      ·rename_i hb';rw[hb'] at hsl;generalize hv:a.tmps.getD t undef=v at hsl hy
       cases hsl with
       |tup _ vs _ _=>cases hb;simp[Region.wanted,hgd,hy]
      ·cases hb
     ·cases hb
   rcases hone i him with ⟨hg1,hev,hnr⟩|⟨hg1,hs⟩
   ·rw[hgk] at hg1;rw[if_pos (hwant true hg1)];left
    have hloc:evG E (γs i) (opdG (sg (fun k=>J0D ops (lo+k)) (stOf L) σ0 (fun k=>listed.getD (lo+k) false) m)) (hg (stOf L) H0 (fun k=>listed.getD (lo+k) false) m) ops[lo+i] (fun v up=>v=(stOf L i).v∧up=(stOf L i).up):=by
     refine J6w (fun x hx=>?_) (fun b hb=>?_) hev
     ·rw[opdG,if_pos (List.all_eq_true.1 hops x hx)];exact J8j fun t ht=>hslot t (J8o hx ht)
     ·exact hname b (by rw[hnr];exact hb)
    refine J5k hT (hfr i him hXi) hr.hp (fun x=>hr.opdG x) hloc fun v w' hst=>?_;obtain ⟨x,up,κ',⟨rfl,rfl⟩,q2,q3,q4,q5⟩:=hst;have hr':Rel gh κ' (sg (fun k=>J0D ops (lo+k)) (stOf L) σ0 (fun k=>listed.getD (lo+k) false) m) (app (hg (stOf L) H0 (fun k=>listed.getD (lo+k) false) m) (stOf L i).up) a w':=⟨q2,fun y=>q4 (hr.slots y),hr.size,hr.defers,fun x v hx=>q4 (hr.tr x v hx)⟩;exact next κ' _ _ (hr'.put _ hd' q3) q5
   ·rw[hgk] at hg1;rw[if_neg (by rw[hwant false hg1];simp)];refine next κ _ _ ?_ fun g _ h=>h;rw[hs];exact hr.put _ hd' (.tup [] #[] rfl (fun i h=>absurd h (by simp)))
theorem J9b {lo m:Nat}(hm:lo+m≤ops.size):∀ (l:List Oper) (k:Nat) (M:List St) {σ':Fr} {H':Hp},l=(ops.toList.drop (lo+k)).take (m-k)→M=L.drop k→k≤m →
  J6T E ops γs k l (sg (fun k=>J0D ops (lo+k)) (stOf L) σ0 TT k) (hg (stOf L) H0 TT k) M σ' H' →
  (∀ i (h:i<m),k≤i→One E ops (γs i) (ops[lo+i]'(by omega)) (sg (fun k=>J0D ops (lo+k)) (stOf L) σ0 TT i) (hg (stOf L) H0 TT i) (stOf L i))∧σ'=sg (fun k=>J0D ops (lo+k)) (stOf L) σ0 TT m∧H'=hg (stOf L) H0 TT m
 |[],k,[],σ',H',hl,hM,hk,h=>by
   obtain ⟨rfl,rfl⟩:=h;have:=congrArg List.length hl;simp at this;have:k=m:=by omega
   subst this;exact ⟨fun i h h'=>absurd h (by omega),rfl,rfl⟩
 |o :: r,k,s::M,σ',H',hl,hM,hk,h=>by
   obtain ⟨h1,h2⟩:=h
   have hkm:k<m:=by
    have:=congrArg List.length hl;simp at this;omega
   have hkl:lo+k<ops.toList.length:=by simp;omega
   have hkL:k<L.length:=by
    rcases Nat.lt_or_ge k L.length with h|h
    ·exact h
    ·rw[List.drop_eq_nil_of_le h] at hM;cases hM
   rw[List.drop_eq_getElem_cons hkl,show m-k=(m-(k+1))+1 by omega,List.take_succ_cons] at hl;rw[List.drop_eq_getElem_cons hkL] at hM
   injection hl with hl1 hl2
   injection hM with hM1 hM2
   have ho:ops[lo+k]'(by simpa using hkl)=o:=by rw[hl1];simp
   have hs:stOf L k=s:=by rw[hM1];simp[stOf,List.getD_eq_getElem?_getD,List.getElem?_eq_getElem hkL]
   have hd:J0D ops (lo+k)=o.dst:=by
    unfold J0D;rw[Array.getElem?_eq_getElem (by simpa using hkl),ho];rfl
   have e1:sg (fun k=>J0D ops (lo+k)) (stOf L) σ0 TT (k+1)=put (sg (fun k=>J0D ops (lo+k)) (stOf L) σ0 TT k) o.dst s.v:=by simp[sg,TT,hs,hd]
   have e2:hg (stOf L) H0 TT (k+1)=app (hg (stOf L) H0 TT k) s.up:=by simp[hg,TT,hs]
   rw[← e1,← e2] at h2;obtain ⟨q1,q2,q3⟩:=J9b hm r (k+1) M hl2 hM2 (by omega) h2;refine ⟨fun i h h'=>?_,q2,q3⟩
   by_cases hi:i=k
   ·subst hi;rw[ho,hs];exact h1
   ·exact q1 i h (by omega)
def chkS (ops:Array Oper)(ms:List Nat)(lo:Nat):List (Oper×St)→List (Oper×St)→Bool
 |_,[]=>true
 |done,x::r=>chk1 ops (ms.getD (lo+done.length) 0) x lo done&&chkS ops ms lo (done++[x]) r
theorem JFf {ops:Array Oper}{ms:List Nat}{lo:Nat}:∀ {r done:List (Oper×St)},chkS ops ms lo done r=true→∀ i (h:i<(done++r).length),done.length≤i→∀ j (hj:j<i),(ms.getD (lo+i) 0).testBit (lo+j)=true∨J1f ops ((done++r)[j]'(by omega)) (done++r)[i]=true
 |[],done,_,i,h,hd,j,hj=>by simp at h;omega
 |x :: r,done,hc,i,h,hd,j,hj=>by
   unfold chkS at hc;simp only[Bool.and_eq_true] at hc
   by_cases e:i=done.length
   ·subst e;have:=JAw hc.1 j hj
    simpa [List.getElem_append_left hj] using this
   ·have:=JFf hc.2 i (by simpa using h) (by simp;omega) j hj
    simpa using this
def J9h (ms:List Nat)(n hi:Nat):Bool:=(ms.take n).drop hi |>.all fun m=>Nat.beq (m%2 ^ hi) (2 ^ hi-1)
theorem J3q {ms:List Nat}{hi:Nat}(hl:ms.length=ops.size)(h:J9h ms ops.size hi=true):JB6 ops ms hi:=by
 intro i h1 h2 j hj;unfold J9h at h
 have hm:=List.all_eq_true.1 h ms[i] (by
  rw[List.mem_iff_getElem]
  exact ⟨i-hi,by simp;omega,by simp[show hi+(i-hi)=i by omega]⟩)
 have hm:=Nat.eq_of_beq_eq_true hm;have h3:(ms[i]%2 ^ hi).testBit j=true:=by rw[hm,Nat.testBit_two_pow_sub_one];simpa using hj
 rw[Nat.testBit_mod_two_pow] at h3;simp only[Bool.and_eq_true] at h3;rw[List.getD_eq_getElem?_getD,List.getElem?_eq_getElem (by omega)];exact h3.2
theorem J3U:(J2B [] ops.toList).length=ops.size:=by
 obtain ⟨t,h,hl⟩:=J5S (l:=ops.toList) (ms:=[]);simp[h,hl]
theorem NextP.done {gh:Gh}{Q:Exit→Act→World→Prop}{σ:Fr}{H:Hp}(h:∀ κ a w,Rel gh κ σ H a w→Q .normal a w):NextP E ops Q gh ops.size σ H:=by
 intro fuel listed κ a w hsz hfuel hl hr _
 have hre:Region.ready .any ops listed=[]:=by
  rw[List.eq_nil_iff_forall_not_mem];intro i hi;obtain ⟨h1,o,ho,_⟩:=mem_ready.1 hi;have hlt:i<ops.size:=(Array.getElem?_eq_some_iff.1 ho).1;have:=hl i hlt;rw[decide_eq_true hlt,Array.getD_eq_getD_getElem?,Array.getElem?_eq_getElem (by omega)] at this;rw[Array.getD_eq_getD_getElem?,Array.getElem?_eq_getElem (by omega)] at h1;simp at h1 this;rw[h1] at this;cases this
 cases fuel with
 |zero=>exact ⟨hre,h κ a w hr⟩
 |succ n=>exact ⟨fun _=>h κ a w hr,fun i hi=>by rw[hre] at hi;exact absurd hi (by simp)⟩
theorem J6G (hT:TOk E.P E.T){gh:Gh}{ms:List Nat}(hI:MInv ops ms){lo hi:Nat}(hlo:lo≤hi)(hm:hi≤ops.size)(hA:JB6 ops ms hi)(hgo:ops.toList.all (J0t gh.nt)=true){Q:Exit→Act→World→Prop}
  {σ:Fr}{H:Hp}{K:Fr→Hp→Prop}{Z0 Z:Nat→Prop}(γs:Nat→Nat)(hγ0:∀ i,Z0 (γs i))(hγi:∀ i j,γs i=γs j→i=j)(hZ0:∀ g,Z g→Z0 g∧∀ i,i<hi-lo→g≠γs i)(hK:∀ σ' H',K σ' H'→NextP E ops Q gh hi σ' H' Z)
  (h:∃ L σ' H',L.length=hi-lo∧J6T E ops γs 0 ((ops.toList.drop lo).take (hi-lo)) σ H L σ' H'∧chkS ops ms lo [] (((ops.toList.drop lo).take (hi-lo)).zip L)=true∧K σ' H'):NextP E ops Q gh lo σ H Z0:=by
 intro fuel listed κ a w hsz hfuel hl hr hZ;obtain ⟨L,σ',H',hL,hch,hck,hk⟩:=h;have hm':lo+(hi-lo)≤ops.size:=by omega
 have e0:lo+(hi-lo)=hi:=by omega
 obtain ⟨hone,e1,e2⟩:=J9b (L:=L) (σ0:=σ) (H0:=H) (m:=hi-lo) hm' _ 0 L (by simp) (by simp) (Nat.zero_le _) hch;have hzl:(((ops.toList.drop lo).take (hi-lo)).zip L).length=hi-lo:=by simp[hL];omega
 have hlst:∀ k,k<ops.size→lo≤k→listed.getD k false=false:=fun k hk h=>by rw[hl k hk,decide_eq_false (by omega)]
 have z1:∀ n,n≤hi-lo→sg (fun k=>J0D ops (lo+k)) (stOf L) σ (fun k=>listed.getD (lo+k) false) n=σ∧hg (stOf L) H (fun k=>listed.getD (lo+k) false) n=H:=by
  intro n
  induction n with
  |zero=>intro _;exact ⟨rfl,rfl⟩
  |succ n ih=>
    intro hn;have:listed.getD (lo+n) false=false:=hlst _ (by omega) (by omega);simp only[sg,hg,this,Bool.false_eq_true,if_false];exact ih (by omega)
 have hgetD:∀ i,listed.getD i false=true→i<ops.size:=by
  intro i h
  rcases Nat.lt_or_ge i ops.size with h'|h'
  ·exact h'
  ·rw[Array.getD_eq_getD_getElem?,Array.getElem?_eq_none (by omega)] at h;simp at h
 refine JDk (L:=L) (σ0:=σ) (H0:=H) (γs:=γs) (lo:=lo) (m:=hi-lo) (Z:=Z) hT hI hm' (by rw[e0];exact hA) ?_ (fun i h=>hone i h (Nat.zero_le _)) hγi hgo (by rw[e0,← e1,← e2];exact hK _ _ hk) (fun g hg=>(hZ0 g hg).2) fuel listed κ a w hsz hfuel ?_ ?_ ?_ ?_ ?_ (fun g hg=>hZ g (hZ0 g hg).1)
 ·intro i h j hj;have:=JFf hck i (by simpa [hzl] using h) (by simp) j hj
  have hLi:∀ k (hk:k<hi-lo),([]++((ops.toList.drop lo).take (hi-lo)).zip L)[k]'(by simp only[List.nil_append,hzl];exact hk)=(ops[lo+k]'(by omega),stOf L k):=by
   intro k hk;simp[stOf,List.getD_eq_getElem?_getD,List.getElem?_eq_getElem (show k<L.length by omega)]
  rw[hLi i h,hLi j (by omega)] at this;exact this
 ·intro i h hX p hp
  have:i<lo:=by
   rcases Nat.lt_or_ge i lo with h'|h'
   ·exact h'
   ·rw[hlst i h h'] at hX;cases hX
  have hlt:=hI.lt i h p hp;rw[hl p (by omega),decide_eq_true (by omega)]
 ·intro i h;rw[hl i (by omega),decide_eq_true h]
 ·intro i h;have h':=hgetD i h;rw[hl i h'] at h;have:=of_decide_eq_true h;omega
 ·rw[(z1 _ (Nat.le_refl _)).1,(z1 _ (Nat.le_refl _)).2];exact hr
 ·intro i _ _ b;exact hZ _ (hγ0 i) b
theorem JDK (hT:TOk E.P E.T){gh:Gh}{ms:List Nat}(hI:MInv ops ms){lo hi:Nat}(hlo:lo≤hi)(hm:hi≤ops.size)(hA:JB6 ops ms hi)(hgo:ops.toList.all (J0t gh.nt)=true){Q:Exit→Act→World→Prop}
  {σ:Fr}{H:Hp}{K:Fr→Hp→Prop}(hK:∀ σ' H',K σ' H'→NextP E ops Q gh hi σ' H')
  (h:∀ γs:Nat→Nat,∃ L σ' H',L.length=hi-lo∧J6T E ops γs 0 ((ops.toList.drop lo).take (hi-lo)) σ H L σ' H'∧chkS ops ms lo [] (((ops.toList.drop lo).take (hi-lo)).zip L)=true∧K σ' H'):NextP E ops Q gh lo σ H:=by
 intro fuel listed κ a w hsz hfuel hl hr _;obtain ⟨G,hG⟩:=hr.hp.fresh;exact J6G hT hI hlo hm hA hgo (Z0:=fun g=>G≤g) (fun i=>G+i) (fun i=>Nat.le_add_right _ _) (fun i j h=>by simpa using h) (fun g h=>h.elim) hK (h fun i=>G+i) fuel listed κ a w hsz hfuel hl hr (fun g hg b=>hG b g hg)
theorem NextP.one (hT:TOk E.P E.T){gh:Gh}{ms:List Nat}(hI:MInv ops ms){c:Nat}(hc:c<ops.size)(hA:JB6 ops ms (c+1))(hgo:ops.toList.all (J0t gh.nt)=true){Q:Exit→Act→World→Prop}
  {σ:Fr}{H:Hp}{K:Fr→Hp→Prop}(hK:∀ σ' H',K σ' H'→NextP E ops Q gh (c+1) σ' H')(h:J1Y E ops [ops[c]] σ H K):NextP E ops Q gh c σ H:=by
 intro fuel listed κ a w hsz hfuel hl hr _;have hXc:listed.getD c false=false:=by rw[hl c hc,decide_eq_false (by omega)]
 have hnot:¬ ∀ i,i<c+1→listed.getD i false=true:=fun h=>by have:=h c (by omega);rw[hXc] at this;cases this
 cases fuel with
 |zero=>
   have hall:=J6A (X:=fun k=>listed.getD k false) (n:=ops.size) (by simpa using hfuel);exact absurd (fun i hi=>hall i (by omega)) hnot
 |succ fuel =>
   refine ⟨fun hre=>absurd (fun i hi=>J7c hI hsz hre i (by omega)) hnot,fun i hi=>?_⟩
   have hcl:∀ i (h:i<ops.size),listed.getD i false=true→∀ p∈J0g ops[i],listed.getD p false=true:=by
    intro i h hX p hp;rw[hl i h] at hX;have:=of_decide_eq_true hX;have hlt:=hI.lt i h p hp;rw[hl p (by omega),decide_eq_true (by omega)]
   have hrange:=(J5K hI (by omega) hA hsz hcl (lo:=c) (fun i h=>by rw[hl i (by omega),decide_eq_true h]) hi).resolve_left hnot;have:i=c:=by omega
   subst this;have ho:ops[i]?=some ops[i]:=Array.getElem?_eq_getElem hc;have hgood:=List.all_eq_true.1 hgo ops[i] (by simp)
   have hX0:∀ k,(listed.setIfInBounds i true).getD k false=(listed.getD k false||decide (k=i)):=by
    intro k
    by_cases e:k=i
    ·subst e;simp[Array.getD_eq_getD_getElem?,hsz,hc]
    ·rw[getD_set_ne false (fun h=>e h.symm),decide_eq_false e,Bool.or_false]
   have next:∀ {κ:KM} {σ:Fr} {H:Hp} {a:Act} {w:World},K σ H→Rel gh κ σ H a w→wpAny E.P .any ops Q fuel (listed.setIfInBounds i true) a w:=by
    intro κ σ H a w hk hr;refine hK _ _ hk fuel _ κ a w (by simp[hsz]) ?_ ?_ hr (fun g h=>h.elim)
    ·rw[J23 hXc hX0 hc];omega
    ·intro k hk;rw[hX0,hl k hk]
     by_cases h1:k=i
     ·subst h1;simp
     ·by_cases h2:k<i
      ·simp[h2];omega
      ·simp[h1,h2];omega
   unfold wpOp;rw[ho];simp only;generalize ops[i]=o at h hgood;unfold J0t at hgood;simp only[Bool.and_eq_true] at hgood;obtain ⟨hd,hops⟩:=hgood;have hd':∀ x,o.dst=some x→x<gh.nt:=by intro x hx;rw[hx] at hd;simpa using hd
   have hρ:∀ x∈o.op.operands.toList,opd σ x=opdG σ x:=fun x hx=>by simp[opdG,List.all_eq_true.1 hops x hx]
   have run:∀ (_:cvOp E (opd σ) H o fun x H'=>J1Y E ops [] (put σ o.dst x) H' K),o.wp E.P a w (wpAny E.P .any ops Q fuel (listed.setIfInBounds i true)) Q:=by
    intro h;refine J6u (ρ:=opdG σ) hT hr.hp (fun x=>hr.opdG x) (J6v hρ (JFJ hT h)) fun v w' hs=>?_;obtain ⟨x,H',κ',hC,hr'⟩:=hr.step hd' hs;exact next hC hr'
   have skip:J1Y E ops [] (put σ o.dst (.tup [])) H K→wpAny E.P .any ops Q fuel (listed.setIfInBounds i true) (a.put o.dst undef) w:=fun h=>next h (hr.put o.dst hd' (.tup [] #[] rfl (fun i h=>absurd h (by simp))));unfold J1Y at h;split at h
   ·rename_i hgd;rw[if_pos (by simp[Region.wanted,hgd])];exact .inl (run h)
   ·rename_i j want hgd;split at h
    ·rename_i t ht;have hsl:=hr.slots t
     have hy:yielded ops a.tmps j=match (a.tmps.getD t undef) with|.bool b=>some b|_=>none:=by
      unfold yielded;unfold gdst at ht;rw[ht];simp only[Option.bind_some,Array.getD_eq_getD_getElem?]
      cases a.tmps[t]? with
      |none=>rfl
      |some v=>cases v<;>rfl
     split at h
     ·rename_i b hb;rw[hb] at hsl;generalize hv:a.tmps.getD t undef=v at hsl hy
      cases hsl with
      |val _ _=>
        have h':(b=want→cvOp E (opd σ) H o fun x H'=>J1Y E ops [] (put σ o.dst x) H' K)∧(b≠want→J1Y E ops [] (put σ o.dst (.tup [])) H K):=by
         cases want
         ·exact ⟨fun e=>h.out.2 e,fun e=>h.out.1 (by simpa using e)⟩
         ·exact ⟨fun e=>h.out.1 e,fun e=>h.out.2 (by simpa using e)⟩
        by_cases hbw:b=want
        ·rw[if_pos (by simp[Region.wanted,hgd,hy,hbw])];exact .inl (run (h'.1 hbw))
        ·rw[if_neg (by simp[Region.wanted,hgd,hy,hbw])];exact skip (h'.2 hbw)
     ·rename_i hb;rw[hb] at hsl;generalize hv:a.tmps.getD t undef=v at hsl hy
      cases hsl with
      |tup _ vs _ _=>
        rw[if_neg (by simp[Region.wanted,hgd,hy])];exact skip h
     ·exact h.elim
    ·exact h.elim
end
structure AllG (f:(Nat→Nat)→Prop):Prop where
 mk' ::
 o:∀ γs,f γs
theorem AllG.intro {f:(Nat→Nat)→Prop}(h:∀ γs,f γs):AllG f:=⟨h⟩
theorem AllG.out {f:(Nat→Nat)→Prop}(h:AllG f):∀ γs,f γs:=h.o
def J3m (E:En)(ops:Array Oper)(K:Fr→Hp→Prop):List (Nat×Bool)→Nat→Fr→Hp→Prop
 |[],lo,σ,H=>match Nat.beq lo ops.size with
   |true=>K σ H
   |false=>False
 |(hi,true)::r,lo,σ,H=>match Nat.beq hi (lo+1) with
   |true=>J1Y E ops ((ops.toList.drop lo).take 1) σ H fun σ' H'=>J3m E ops K r hi σ' H'
   |false=>False
 |(hi,false)::r,lo,σ,H=>AllG fun γs=>J3K E ops γs 0 ((ops.toList.drop lo).take (hi-lo)) σ H [] fun σ' H' L=>
     Need (chkS ops (J2B [] ops.toList) lo [] (((ops.toList.drop lo).take (hi-lo)).zip L)=true) (J3m E ops K r hi σ' H')
def J33 (ops:Array Oper):Nat→List (Nat×Bool)→Bool
 |_,[]=>true
 |lo,(hi,b)::r=>Nat.ble lo hi&&Nat.ble hi ops.size&&J9h (J2B [] ops.toList) ops.size hi&&J33 ops hi r
theorem J6B {E:En}(hT:TOk E.P E.T){ops:Array Oper}(hI:MInv ops (J2B [] ops.toList)){gh:Gh}(hgo:ops.toList.all (J0t gh.nt)=true){Q:Exit→Act→World→Prop}{K:Fr→Hp→Prop}(hQ:∀ σ H κ a w,K σ H→Rel gh κ σ H a w→Q .normal a w) :
  ∀ {plan:List (Nat×Bool)} {lo:Nat} {σ:Fr} {H:Hp},J33 ops lo plan=true→J3m E ops K plan lo σ H→NextP E ops Q gh lo σ H
 |[],lo,σ,H,_,h=>by
   unfold J3m at h;split at h
   ·rename_i e;have:=Nat.eq_of_beq_eq_true e;subst this;exact NextP.done fun κ a w hr=>hQ _ _ _ _ _ h hr
   ·exact h.elim
 |(hi,true)::r,lo,σ,H,hp,h=>by
   unfold J33 at hp;simp only[Bool.and_eq_true] at hp;obtain ⟨⟨⟨h1,h2⟩,h3⟩,h4⟩:=hp;unfold J3m at h;split at h
   ·rename_i e;have:=Nat.eq_of_beq_eq_true e;subst this;have hlt:lo<ops.size:=by have:=Nat.le_of_ble_eq_true h2;omega
    refine NextP.one hT hI hlt (J3q J3U h3) hgo (fun σ' H' hk=>J6B hT hI hgo hQ h4 hk) ?_;rw[List.drop_eq_getElem_cons (by simpa using hlt)] at h
    simpa using h
   ·exact h.elim
 |(hi,false)::r,lo,σ,H,hp,h=>by
   unfold J33 at hp;simp only[Bool.and_eq_true] at hp;obtain ⟨⟨⟨h1,h2⟩,h3⟩,h4⟩:=hp;unfold J3m at h;refine JDK hT hI (Nat.le_of_ble_eq_true h1) (Nat.le_of_ble_eq_true h2) (J3q J3U h3) hgo (K:=J3m E ops K r hi) (fun σ' H' hk=>J6B hT hI hgo hQ h4 hk) fun γs=>?_;obtain ⟨L,σ',H',q1,q2,q3⟩:=J3n hT (h.out γs);have q3:=q3.out;simp only[List.reverse_nil,List.nil_append] at q3;refine ⟨L,σ',H',?_,q2,q3.1,q3.2⟩;rw[q1];have:=Nat.le_of_ble_eq_true h2;simp;omega
def DH (E:En):Array Oper→(Fr→Hp→Prop)→Fr→Hp→Prop:=fun ops K σ H=>
 DG E ops K σ H∨∃ plan,JAy ops 0 ops.toList=true∧J33 ops 0 plan=true∧J3m E ops K plan 0 σ H
theorem JMK {E:En}(hT:TOk E.P E.T)(hm:E.P.follows .mixedOrders=true):DOk E (DH E):=by
 intro gh id ops K κ σ H a w hgo hD hr Q hQ
 rcases hD with hD|⟨plan,hb,hp,h⟩
 ·exact JML hT hm gh id ops K κ σ H a w hgo hD hr Q hQ
 ·refine wp_region_any hm ?_;refine J6B hT (MInv.of hb) hgo (fun σ H κ a w hk hr=>hQ a w ⟨κ,σ,H,hk,hr⟩) hp h ops.size _ κ a _ (by simp) (by simp) (fun i h=>?_) (hr.drawn _) (fun g h=>h.elim);simp[Array.getD_eq_getD_getElem?,h]
theorem DrawH.intro {E:En}(hT:TOk E.P E.T){ops:Array Oper}{K:Fr→Hp→Prop}{σ:Fr}{H:Hp}(h:∀ γs:Nat→Nat,J3K E ops γs 0 ops.toList σ H [] fun σ' H' L=>Need (J2h ops [] [] (ops.toList.zip L)=true) (K σ' H')) :
  DrawP (DH E) ops K σ H:=by
 refine DrawP.intro (.inl fun γs=>?_);obtain ⟨L,σ',H',h1,h2,h3⟩:=J3n hT (h γs);have hq:=h3.out;simp only[List.reverse_nil,List.nil_append] at hq;exact ⟨L,σ',H',by simpa using h1,h2,hq.1,hq.2⟩
theorem J1Z {E:En}{ops:Array Oper}{K:Fr→Hp→Prop}{σ:Fr}{H:Hp}(plan:List (Nat×Bool))(h1:(JAy ops 0 ops.toList&&J33 ops 0 plan)=true)(h:J3m E ops K plan 0 σ H):DrawP (DH E) ops K σ H:=by
 simp only[Bool.and_eq_true] at h1;exact DrawP.intro (.inr ⟨plan,h1.1,h1.2,h⟩)
end Go.Fw
