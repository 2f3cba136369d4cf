/- Part 31 of the proof. -/
import Derived.Test.YtlblbldolhiokaaGreatDoorDual30
set_option linter.unusedVariables false
set_option linter.unusedSimpArgs false
set_option linter.unusedSectionVars false
set_option maxRecDepth 100000
set_option exponentiation.threshold 400
set_option maxHeartbeats 8000000
namespace Go.Fw
open Go.RowKit
theorem Rel.drawn {gh:Gh}{κ:KM}{σ:Fr}{H:Hp}{a:Act}{w:World}(hr:Rel gh κ σ H a w)(n:Nat):Rel gh κ σ H a { w with drawn:=n }:=by
 have hag:∀ N,Agree N w { w with drawn:=n }:=fun N=>⟨Nat.le_refl _,fun c _ _=>rfl⟩;have hv:∀ {x:AV} {v:Value},VR κ w (Nset gh.O κ H) x v→VR κ { w with drawn:=n } (Nset gh.O κ H) x v:=fun h=>h.step (KM.le.refl _) (hag _) fun _ _ h=>h;refine ⟨⟨fun b g B h=>?_,hr.hp.inj,hr.hp.mine,hr.hp.keep (hag _),hr.hp.os,hr.hp.tape,hr.hp.output,hr.hp.fresh,hr.hp.apart⟩,fun x=>hv (hr.slots x),hr.size,hr.defers,fun x v h=>hv (hr.tr x v h)⟩;obtain ⟨K,hk,hbr⟩:=hr.hp.blk _ _ _ h;exact ⟨K,hk,hbr.step (KM.le.refl _) (hag _) (fun _ _ h=>h) fun c hc=>rfl⟩
theorem J8j {σ σ':Fr}{x:Operand}(h:∀ t,x=.tmp t→σ t=σ' t):opd σ x=opd σ' x:=by
 cases x with
 |tmp t=>exact h t rfl
 |const v=>rfl
 |global g=>rfl
 |func f=>rfl
theorem J90 {ops:Array Oper}{σ σ':Fr}{o:Oper}(h:∀ t,t∈o.looksAt ops→σ t=σ' t):gOk ops σ o=gOk ops σ' o:=by
 unfold gOk;split
 ·rfl
 ·rename_i j want hgd
  cases ht:gdst ops j with
  |none=>rfl
  |some t=>
    have:t∈o.looksAt ops:=by
     unfold Oper.looksAt;simp only[hgd];unfold gdst at ht;simp[ht]
    simp only[h t this]
theorem J8o {ops:Array Oper}{o:Oper}{x:Operand}{t:Nat}(hx:x∈o.op.operands.toList)(he:x=.tmp t):t∈o.looksAt ops:=by
 unfold Oper.looksAt;refine List.mem_append_left _ ?_;exact List.mem_filterMap.2 ⟨x,hx,by rw[he]⟩
section
variable {E:En} {ops:Array Oper} {γs:Nat→Nat} {σ0:Fr} {H0:Hp} {L:List St}
def J0D (ops:Array Oper)(k:Nat):Option Nat:=(ops[k]?).bind (·.dst)
def stOf (L:List St)(k:Nat):St:=L.getD k default
def TT:Nat→Bool:=fun _=>true
theorem JC6:∀ (l:List Oper) (k:Nat) (M:List St) {σ':Fr} {H':Hp},l=ops.toList.drop k→M=L.drop k→k+l.length=ops.size →
  J6T E ops γs k l (sg (J0D ops) (stOf L) σ0 TT k) (hg (stOf L) H0 TT k) M σ' H' →
  (∀ i (h:i<ops.size),k≤i→One E ops (γs i) ops[i] (sg (J0D ops) (stOf L) σ0 TT i) (hg (stOf L) H0 TT i) (stOf L i))∧σ'=sg (J0D ops) (stOf L) σ0 TT ops.size∧H'=hg (stOf L) H0 TT ops.size
 |[],k,[],σ',H',hl,hM,hk,h=>by
   obtain ⟨rfl,rfl⟩:=h;simp at hk;subst hk;exact ⟨fun i h h'=>absurd h (by omega),rfl,rfl⟩
 |o :: r,k,s::M,σ',H',hl,hM,hk,h=>by
   obtain ⟨h1,h2⟩:=h;simp only[List.length_cons] at hk;have hkl:k<ops.toList.length:=by simp;omega
   have hkL:k<L.length:=by
    rcases Nat.lt_or_ge k L.length with h|h
    ·exact h
    ·rw[List.drop_eq_nil_of_le h] at hM;cases hM
   rw[List.drop_eq_getElem_cons hkl] at hl;rw[List.drop_eq_getElem_cons hkL] at hM
   injection hl with hl1 hl2
   injection hM with hM1 hM2
   have ho:ops[k]'(by simpa using hkl)=o:=by rw[hl1];simp
   have hs:stOf L k=s:=by rw[hM1];simp[stOf,List.getD_eq_getElem?_getD,List.getElem?_eq_getElem hkL]
   have hd:J0D ops k=o.dst:=by
    unfold J0D;rw[Array.getElem?_eq_getElem (by simpa using hkl),ho];rfl
   have e1:sg (J0D ops) (stOf L) σ0 TT (k+1)=put (sg (J0D ops) (stOf L) σ0 TT k) o.dst s.v:=by simp[sg,TT,hs,hd]
   have e2:hg (stOf L) H0 TT (k+1)=app (hg (stOf L) H0 TT k) s.up:=by simp[hg,TT,hs]
   rw[← e1,← e2] at h2;obtain ⟨q1,q2,q3⟩:=JC6 r (k+1) M hl2 hM2 (by omega) h2;refine ⟨fun i h h'=>?_,q2,q3⟩
   by_cases hi:i=k
   ·subst hi;rw[ho,hs];exact h1
   ·exact q1 i h (by omega)
def cnt (X:Nat→Bool):Nat→Nat
 |0=>0
 |k+1=>cnt X k+(if X k then 1 else 0)
theorem JIH (X:Nat→Bool):∀ n,cnt X n≤n
 |0=>Nat.le_refl _
 |n+1=>by have:=JIH X n;unfold cnt;split<;>omega
theorem J6A {X:Nat→Bool}:∀ {n:Nat},n≤cnt X n→∀ i,i<n→X i=true
 |0,_,i,hi=>absurd hi (by simp)
 |n + 1,h,i,hi=>by
   have hle:=JIH X n;unfold cnt at h
   have hn:X n=true:=by
    cases hX:X n with
    |true=>rfl
    |false=>simp[hX] at h;omega
   by_cases e:i=n
   ·exact e ▸ hn
   ·exact J6A (n:=n) (by simp[hn] at h;omega) i (by omega)
theorem J23 {X X':Nat→Bool}{i:Nat}(hX:X i=false)(hX':∀ k,X' k=(X k||decide (k=i))):∀ {n:Nat},i<n→cnt X' n=cnt X n+1
 |0,h=>absurd h (by simp)
 |n + 1,h=>by
   by_cases e:n=i
   ·subst e
    have:∀ k,k≤n→cnt X' k=cnt X k:=by
     intro k
     induction k with
     |zero=>intro _;rfl
     |succ k ih=>
       intro hk;simp only[cnt,ih (by omega),hX' k,decide_eq_false (show ¬ k=n by omega),Bool.or_false]
    simp[cnt,this n (Nat.le_refl _),hX,hX' n]
   ·have:=J23 hX hX' (n:=n) (by omega);simp only[cnt,this,hX' n,decide_eq_false e,Bool.or_false];omega
theorem JA7 (hT:TOk E.P E.T){gh:Gh}{Z:List (Oper × St)}{ms:List Nat}(hI:Inv ops Z ms)(hZl:Z.length=ops.size)(hZ:∀ i (h:i<ops.size) (h':i<Z.length),Z[i]=(ops[i],stOf L i))
  (hone:∀ i (h:i<ops.size),One E ops (γs i) ops[i] (sg (J0D ops) (stOf L) σ0 TT i) (hg (stOf L) H0 TT i) (stOf L i))(hγ:∀ i j,γs i=γs j→i=j)
  (hgo:ops.toList.all (J0t gh.nt)=true){Q:Exit→Act→World→Prop}(hQ:∀ κ a w,Rel gh κ (sg (J0D ops) (stOf L) σ0 TT ops.size) (hg (stOf L) H0 TT ops.size) a w→Q .normal a w) :
  ∀ (fuel:Nat) (listed:Array Bool) (κ:KM) (a:Act) (w:World),listed.size=ops.size→ops.size≤fuel+cnt (fun k=>listed.getD k false) ops.size →
    (∀ i (h:i<ops.size),listed.getD i false=true→∀ p∈J0g ops[i],listed.getD p false=true) →
    Rel gh κ (sg (J0D ops) (stOf L) σ0 (fun k=>listed.getD k false) ops.size) (hg (stOf L) H0 (fun k=>listed.getD k false) ops.size) a w →
    (∀ i,i<ops.size→listed.getD i false=false→∀ b,κ b (γs i)=none)→wpAny E.P .any ops Q fuel listed a w:=by
 have hpred:∀ (i:Nat) (h:i<ops.size) (o:Oper),ops[i]?=some o→o=ops[i]:=fun i h o ho=>by rw[Array.getElem?_eq_getElem h] at ho;cases ho;rfl
 have hdst:∀ i (h:i<ops.size),J0D ops i=ops[i].dst:=fun i h=>by unfold J0D;rw[Array.getElem?_eq_getElem h];rfl
 have hat:∀ i (h:i<ops.size),(∀ p∈J0g ops[i],p<i)∧∀ j (hj:j<i),(ms.getD i 0).testBit j=true∨J1f ops (ops[j]'(by omega),stOf L j) (ops[i],stOf L i)=true:=by
  intro i h;have h':i<Z.length:=by omega
  obtain ⟨q1,_,q3⟩:=hI.at_ i h';rw[hZ i h h'] at q1;refine ⟨q1,fun j hj=>?_⟩;have:=q3 j hj
  rwa [hZ i h h',hZ j (by omega) (by omega)] at this
 have done:∀ (listed:Array Bool) (κ:KM) (a:Act) (w:World),(∀ i,i<ops.size→listed.getD i false=true) →
   Rel gh κ (sg (J0D ops) (stOf L) σ0 (fun k=>listed.getD k false) ops.size) (hg (stOf L) H0 (fun k=>listed.getD k false) ops.size) a w→Q .normal a w:=by
  intro listed κ a w hall hr
  have e1:sg (J0D ops) (stOf L) σ0 (fun k=>listed.getD k false) ops.size=sg (J0D ops) (stOf L) σ0 TT ops.size:=by
   funext s;exact J27 _ _ _ _ fun k hk hne=>absurd (hall k hk) hne
  have e2:hg (stOf L) H0 (fun k=>listed.getD k false) ops.size=hg (stOf L) H0 TT ops.size:=by
   funext s;exact J2C _ _ _ fun k hk hne=>absurd (hall k hk) hne
  rw[e1,e2] at hr;exact hQ κ a w hr
 have all:∀ (listed:Array Bool),listed.size=ops.size→Region.ready .any ops listed=[]→∀ i,i<ops.size→listed.getD i false=true:=by
  intro listed hsz hre i
  induction i using Nat.strongRecOn with
  |_ i ih=>
    intro hi
    cases hX:listed.getD i false with
    |true=>rfl
    |false=>
      exfalso
      have:i∈Region.ready .any ops listed:=by
       refine mem_ready.2 ⟨?_,ops[i],Array.getElem?_eq_getElem hi,fun e he hb=>?_⟩
       ·rw[Array.getD_eq_getD_getElem?,Array.getElem?_eq_getElem (by omega)] at hX ⊢;exact hX
       ·have hp:e.on∈J0g ops[i]:=List.mem_map.2 ⟨e,List.mem_filter.2 ⟨by simpa using he,hb⟩,rfl⟩;exact ih e.on ((hat i hi).1 _ hp) (by have:=(hat i hi).1 _ hp;omega)
      rw[hre] at this;exact absurd this (by simp)
 intro fuel
 induction fuel with
 |zero=>
   intro listed κ a w hsz hfuel hcl hr hfr;have hall:=J6A (X:=fun k=>listed.getD k false) (n:=ops.size) (by simpa using hfuel);refine ⟨?_,done listed κ a w hall hr⟩;rw[List.eq_nil_iff_forall_not_mem];intro i hi;obtain ⟨h1,o,ho,_⟩:=mem_ready.1 hi;have hlt:i<ops.size:=(Array.getElem?_eq_some_iff.1 ho).1;have:=hall i hlt;rw[Array.getD_eq_getD_getElem?,Array.getElem?_eq_getElem (by omega)] at h1 this;simp at h1 this;rw[h1] at this;cases this
 |succ fuel ih=>
   intro listed κ a w hsz hfuel hcl hr hfr;refine ⟨fun hre=>done listed κ a w (all listed hsz hre) hr,fun i hi=>?_⟩;obtain ⟨h1,o,ho,hed⟩:=mem_ready.1 hi;have hlt:i<ops.size:=(Array.getElem?_eq_some_iff.1 ho).1;have hoi:=hpred i hlt o ho;subst hoi
   have hXi:listed.getD i false=false:=by
    rw[Array.getD_eq_getD_getElem?,Array.getElem?_eq_getElem (by omega)] at h1 ⊢;exact h1
   have hpr:∀ p∈J0g ops[i],listed.getD p false=true:=by
    intro p hp;obtain ⟨e,he,rfl⟩:=List.mem_map.1 hp;obtain ⟨he1,he2⟩:=List.mem_filter.1 he;exact hed e (by simpa using he1) he2
   have hclZ:∀ k (h:k<Z.length),listed.getD k false=true→∀ p∈J0g Z[k].1,listed.getD p false=true:=by
    intro k h hk p hp;rw[hZ k (by omega) h] at hp;exact hcl k (by omega) hk p hp
   have hbefore:∀ k (hk:k<i),listed.getD k false=false→J1f ops (ops[k]'(by omega),stOf L k) (ops[i],stOf L i)=true:=by
    intro k hk hX;refine ((hat i hlt).2 k hk).resolve_left fun hb=>?_;have:=hI.closed (X:=fun j=>listed.getD j false=true) hclZ i (by omega) (by rw[hZ i hlt (by omega)];exact hpr) k hb;rw[hX] at this;cases this
   have hafter:∀ k (hk:k<ops.size),i<k→listed.getD k false=true→J1f ops (ops[i],stOf L i) (ops[k],stOf L k)=true:=by
    intro k hk hik hX;refine ((hat k hk).2 i hik).resolve_left fun hb=>?_;have:=hI.closed (X:=fun j=>listed.getD j false=true) hclZ k (by omega) (by rw[hZ k hk (by omega)];exact hcl k hk hX) i hb;rw[hXi] at this;cases this
   have Tcut:∀ k,k≤i→sg (J0D ops) (stOf L) σ0 (fun k=>decide (k<i)) k=sg (J0D ops) (stOf L) σ0 TT k∧hg (stOf L) H0 (fun k=>decide (k<i)) k=hg (stOf L) H0 TT k:=by
    intro k hk;constructor
    ·funext s;exact J27 _ _ _ _ fun j hj hne=>absurd (by simp[TT];omega) hne
    ·funext s;exact J2C _ _ _ fun j hj hne=>absurd (by simp[TT];omega) hne
   have Tcut2:∀ k,i≤k→sg (J0D ops) (stOf L) σ0 (fun k=>decide (k<i)) k=sg (J0D ops) (stOf L) σ0 TT i∧hg (stOf L) H0 (fun k=>decide (k<i)) k=hg (stOf L) H0 TT i:=by
    intro k hk
    induction k with
    | zero=>exact Tcut 0 (Nat.zero_le _) |>.imp (fun h=>by have:i=0:=by omega
                                                           subst this;exact h) (fun h=>by have:i=0:=by omega
                                                                                          subst this;exact h)
    |succ k ihk=>
      by_cases e:i=k+1
      ·rw[e] at Tcut ⊢;exact Tcut (k+1) (Nat.le_refl _)
      ·have:=ihk (by omega);simp only[sg,hg,decide_eq_false (show ¬ k<i by omega),Bool.false_eq_true,if_false];exact this
   have hslot:∀ s,s∈ops[i].looksAt ops→sg (J0D ops) (stOf L) σ0 TT i s=sg (J0D ops) (stOf L) σ0 (fun k=>listed.getD k false) ops.size s:=by
    intro s hs;rw[← (Tcut2 ops.size (by omega)).1];refine J27 _ _ _ _ fun k hk hne=>?_;rw[hdst k hk];intro hd
    by_cases hki:k<i
    ·have hX:listed.getD k false=false:=by
      rw[decide_eq_true hki] at hne
      cases h:listed.getD k false with
      |true=>exact absurd h.symm hne
      |false=>rfl
     have:=hbefore k hki hX;unfold J1f at this;simp only[Bool.and_eq_true] at this;exact (Oper.apart_spec this.1).1 s hd hs
    ·have hX:listed.getD k false=true:=by
      rw[decide_eq_false hki] at hne
      cases h:listed.getD k false with
      |true=>rfl
      |false=>exact absurd h.symm hne
     have hik:i<k:=by
      rcases Nat.lt_or_ge i k with h|h
      ·exact h
      ·have:k=i:=by omega
       subst this;rw[hXi] at hX;cases hX
     have:=hafter k hk hik hX;unfold J1f at this;simp only[Bool.and_eq_true] at this;exact (Oper.apart_spec this.1).2.2 s hd hs
   have hname:∀ b,b∈(stOf L i).nr→hg (stOf L) H0 TT i b=hg (stOf L) H0 (fun k=>listed.getD k false) ops.size b:=by
    intro b hb;rw[← (Tcut2 ops.size (by omega)).2];refine J2C _ _ _ fun k hk hne d g B hup e=>?_;subst e
    by_cases hki:k<i
    ·have hX:listed.getD k false=false:=by
      rw[decide_eq_true hki] at hne
      cases h:listed.getD k false with
      |true=>exact absurd h.symm hne
      |false=>rfl
     have:=hbefore k hki hX;unfold J1f J5Z at this;simp only[Bool.and_eq_true,hup] at this;have:=this.2.1.1;simp only[Bool.not_eq_true',List.contains_eq_mem,decide_eq_false_iff_not] at this;exact this hb
    ·have hX:listed.getD k false=true:=by
      rw[decide_eq_false hki] at hne
      cases h:listed.getD k false with
      |true=>rfl
      |false=>exact absurd h.symm hne
     have hik:i<k:=by
      rcases Nat.lt_or_ge i k with h|h
      ·exact h
      ·have:k=i:=by omega
       subst this;rw[hXi] at hX;cases hX
     have:=hafter k hk hik hX;unfold J1f J5Z at this;simp only[Bool.and_eq_true,hup] at this;have:=this.2.2;simp only[Bool.not_eq_true',List.contains_eq_mem,decide_eq_false_iff_not] at this;exact this hb
   have hX':∀ k,(listed.setIfInBounds i true).getD k false=(listed.getD k false||decide (k=i)):=by
    intro k
    by_cases e:k=i
    ·subst e;simp[Array.getD_eq_getD_getElem?,hsz,hlt]
    ·rw[getD_set_ne false (fun h=>e h.symm),decide_eq_false e,Bool.or_false]
   have es:sg (J0D ops) (stOf L) σ0 (fun k=>(listed.setIfInBounds i true).getD k false) ops.size=put (sg (J0D ops) (stOf L) σ0 (fun k=>listed.getD k false) ops.size) ops[i].dst (stOf L i).v:=by
    rw[← hdst i hlt];refine J5C _ _ _ hXi hX' _ hlt fun k hik hk hX x hx=>?_;rw[hdst k hk] at hx;rw[hdst i hlt];intro hx';have:=hafter k hk hik hX;unfold J1f at this;simp only[Bool.and_eq_true] at this;exact (Oper.apart_spec this.1).2.1 x hx' hx
   have eh:hg (stOf L) H0 (fun k=>(listed.setIfInBounds i true).getD k false) ops.size=app (hg (stOf L) H0 (fun k=>listed.getD k false) ops.size) (stOf L i).up:=by
    refine J5a _ _ hXi hX' _ hlt fun k hik hk hX d g B d' g' B' hu hu' e=>?_;subst e;have:=hafter k hk hik hX;unfold J1f J5Z at this;simp only[Bool.and_eq_true,hu,hu'] at this
    simpa using this.2.1.2
   have next:∀ (κ':KM) (a':Act) (w':World),Rel gh κ' (put (sg (J0D ops) (stOf L) σ0 (fun k=>listed.getD k false) ops.size) ops[i].dst (stOf L i).v) (app (hg (stOf L) H0 (fun k=>listed.getD k false) ops.size) (stOf L i).up) a' w' →
    (∀ g,g≠γs i→(∀ b,κ b g=none)→∀ b,κ' b g=none)→wpAny E.P .any ops Q fuel (listed.setIfInBounds i true) a' w':=by
    intro κ' a' w' hr' hfr';refine ih _ κ' a' w' (by simp[hsz]) ?_ ?_ (by rw[es,eh];exact hr') ?_
    ·rw[J23 hXi hX' hlt];omega
    ·intro k hk hXk p hp;rw[hX'] at hXk ⊢;simp only[Bool.or_eq_true,decide_eq_true_eq] at hXk ⊢
     rcases hXk with h|h
     ·exact .inl (hcl k hk h p hp)
     ·subst h;exact .inl (hpr p hp)
    ·intro k hk hXk b;rw[hX'] at hXk;simp only[Bool.or_eq_false_iff,decide_eq_false_iff_not] at hXk;exact hfr' (γs k) (fun e=>hXk.2 (hγ _ _ e)) (hfr k hk hXk.1) b
   have hgood:=List.all_eq_true.1 hgo ops[i] (by simp);unfold J0t at hgood;simp only[Bool.and_eq_true] at hgood;obtain ⟨hd,hops⟩:=hgood;have hd':∀ x,ops[i].dst=some x→x<gh.nt:=by intro x hx;rw[hx] at hd;simpa using hd
   unfold wpOp;rw[ho];simp only;have hgk:=J90 (o:=ops[i]) hslot
   have hwant:∀ b,gOk ops (sg (J0D ops) (stOf L) σ0 (fun k=>listed.getD k false) ops.size) ops[i]=some b→Region.wanted ops[i] (yielded ops a.tmps)=b:=by
    intro b hb;unfold gOk at hb;split at hb
    ·rename_i hgd;cases hb;simp[Region.wanted,hgd]
    ·rename_i j want hgd;split at hb
     ·rename_i t ht;have hsl:=hr.slots t
      have hy:yielded ops a.tmps j=match (a.tmps.getD t undef) with|.bool b=>some b|_=>none:=by
       unfold yielded;unfold gdst at ht;rw[ht];simp only[Option.bind_some,Array.getD_eq_getD_getElem?]
       cases a.tmps[t]? with
       |none=>rfl
       |some v=>cases v<;>rfl
      split at hb
      ·rename_i b' hb';rw[hb'] at hsl;generalize hv:a.tmps.getD t undef=v at hsl hy
       cases hsl with
       |val _ _=>cases hb;cases b'<;>cases want<;>simp[Region.wanted,hgd,hy]
      ·rename_i hb';rw[hb'] at hsl;generalize hv:a.tmps.getD t undef=v at hsl hy
       cases hsl with
       |tup _ vs _ _=>cases hb;simp[Region.wanted,hgd,hy]
      ·cases hb
     ·cases hb
   rcases hone i hlt with ⟨hg1,hev,hnr⟩|⟨hg1,hs⟩
   ·rw[hgk] at hg1;rw[if_pos (hwant true hg1)];left
    have hloc:evG E (γs i) (opdG (sg (J0D ops) (stOf L) σ0 (fun k=>listed.getD k false) ops.size)) (hg (stOf L) H0 (fun k=>listed.getD k false) ops.size) ops[i] (fun v up=>v=(stOf L i).v∧up=(stOf L i).up):=by
     refine J6w (fun x hx=>?_) (fun b hb=>?_) hev
     ·rw[opdG,if_pos (List.all_eq_true.1 hops x hx)];exact J8j fun t ht=>hslot t (J8o hx ht)
     ·exact hname b (by rw[hnr];exact hb)
    refine J5k hT (hfr i hlt hXi) hr.hp (fun x=>hr.opdG x) hloc fun v w' hst=>?_;obtain ⟨x,up,κ',⟨rfl,rfl⟩,q2,q3,q4,q5⟩:=hst;have hr':Rel gh κ' (sg (J0D ops) (stOf L) σ0 (fun k=>listed.getD k false) ops.size) (app (hg (stOf L) H0 (fun k=>listed.getD k false) ops.size) (stOf L i).up) a w':=⟨q2,fun y=>q4 (hr.slots y),hr.size,hr.defers,fun x v hx=>q4 (hr.tr x v hx)⟩;exact next κ' _ _ (hr'.put _ hd' q3) q5
   ·rw[hgk] at hg1;rw[if_neg (by rw[hwant false hg1];simp)];refine next κ _ _ ?_ fun g _ h=>h;rw[hs];exact hr.put _ hd' (.tup [] #[] rfl (fun i h=>absurd h (by simp)))
end
def DG (E:En):Array Oper→(Fr→Hp→Prop)→Fr→Hp→Prop:=fun ops K σ H=>
 ∀ γs:Nat→Nat,∃ L σ' H',L.length=ops.size∧J6T E ops γs 0 ops.toList σ H L σ' H'∧J2h ops [] [] (ops.toList.zip L)=true∧K σ' H'
theorem JML {E:En}(hT:TOk E.P E.T)(hm:E.P.follows .mixedOrders=true):DOk E (DG E):=by
 intro gh id ops K κ σ H a w hgo hD hr Q hQ;obtain ⟨G,hG⟩:=hr.hp.fresh;obtain ⟨L,σ',H',hL,hch,hck,hK⟩:=hD fun i=>G+i;obtain ⟨ms,hI⟩:=J9a (Inv.nil ops) hck;rw[List.nil_append] at hI;have hzl:(ops.toList.zip L).length=ops.size:=by simp[hL]
 obtain ⟨hone,e1,e2⟩:=JC6 (L:=L) (σ0:=σ) (H0:=H) ops.toList 0 L (by simp) (by simp) (by simp) hch;refine wp_region_any hm (JA7 (L:=L) (σ0:=σ) (H0:=H) (γs:=fun i=>G+i) hT hI hzl ?_ (fun i h=>hone i h (Nat.zero_le _)) (fun i j h=>by simpa using h) hgo ?_ ops.size _ κ a _ (by simp) (by simp) ?_ ?_ ?_)
 ·intro i h h';simp[stOf,List.getD_eq_getElem?_getD,List.getElem?_eq_getElem (show i<L.length by omega)]
 ·intro κ a w hr;exact hQ a w ⟨κ,_,_,hK,by rw[e1,e2];exact hr⟩
 ·intro i h hX;simp[Array.getD_eq_getD_getElem?,h] at hX
 ·have z1:∀ n,n≤ops.size→sg (J0D ops) (stOf L) σ (fun k=>(Array.replicate ops.size false).getD k false) n=σ∧hg (stOf L) H (fun k=>(Array.replicate ops.size false).getD k false) n=H:=by
   intro n
   induction n with
   |zero=>intro _;exact ⟨rfl,rfl⟩
   |succ n ih=>
     intro hn;have:(Array.replicate ops.size false).getD n false=false:=by simp[Array.getD_eq_getD_getElem?,show n<ops.size by omega]
     simp only[sg,hg,this,Bool.false_eq_true,if_false];exact ih (by omega)
  rw[(z1 _ (Nat.le_refl _)).1,(z1 _ (Nat.le_refl _)).2];exact hr.drawn _
 ·intro i _ _ b;exact hG b _ (by omega)
end Go.Fw
