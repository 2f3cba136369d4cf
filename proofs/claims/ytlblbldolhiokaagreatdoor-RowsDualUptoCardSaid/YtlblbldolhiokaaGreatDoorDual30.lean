/- Part 30 of the proof. -/
import Derived.Test.YtlblbldolhiokaaGreatDoorDual29
set_option linter.unusedVariables false
set_option linter.unusedSimpArgs false
set_option linter.unusedSectionVars false
set_option maxRecDepth 100000
set_option exponentiation.threshold 400
set_option maxHeartbeats 8000000
namespace Go.Fw
open Go.RowKit
structure St where
 v:AV
 up:Up
 nr:List Nat
 deriving Inhabited
def gOk (ops:Array Oper)(σ:Fr)(o:Oper):Option Bool:=
 match o.guard with
 |none=>some true
 |some (j,want)=>match gdst ops j with
   |some t=>match σ t with
     |.val (.bool b)=>some (b==want)
     |.tup []=>some false
     |_=>none
   |none=>none
def J2A (ρ:Operand→AV)(o:Oper):List Nat:=
 match o.op with
 |.move _=>[]
 |.assign _=>[]
 |op=>op.operands.toList.flatMap fun x=>nm (ρ x)
theorem J6w {E:En}{γ:Nat}{ρ ρ':Operand→AV}{H H':Hp}{o:Oper}{C:AV→Up→Prop}(hρ:∀ x∈o.op.operands.toList,ρ x=ρ' x)(hH:∀ b∈J2A ρ o,H b=H' b)(h:evG E γ ρ H o C):evG E γ ρ' H' o C:=by
 obtain ⟨dst,op,ty,pos,after,guard⟩:=o;have gen:(∀ x∈op.operands.toList,∀ b,b∈nm (ρ x)→H b=H' b)→evG E γ ρ' H' ⟨dst,op,ty,pos,after,guard⟩ C:=fun hH=>evG.local (o:=⟨dst,op,ty,pos,after,guard⟩) hρ hH h
 cases op<;>first
  |(refine gen fun x hx b hb=>hH b ?_;exact List.mem_flatMap.2 ⟨x,hx,hb⟩)
  |(unfold evG at h ⊢;simp only[Op.operands] at hρ h ⊢;rw[← hρ _ (by simp)];exact h)
def One (E:En)(ops:Array Oper)(γ:Nat)(o:Oper)(σ:Fr)(H:Hp)(s:St):Prop:=
 (gOk ops σ o=some true∧evG E γ (opd σ) H o (fun v up=>v=s.v∧up=s.up)∧s.nr=J2A (opd σ) o)∨(gOk ops σ o=some false∧s=⟨.tup [],none,[]⟩)
def J6T (E:En)(ops:Array Oper)(γs:Nat→Nat):Nat→List Oper→Fr→Hp→List St→Fr→Hp→Prop
 |_,[],σ,H,[],σ',H'=>σ'=σ∧H'=H
 |i,o::r,σ,H,s::L,σ',H'=>One E ops (γs i) o σ H s∧J6T E ops γs (i+1) r (put σ o.dst s.v) (app H s.up) L σ' H'
 |_,_,_,_,_,_,_=>False
def J5Z (a b:St):Bool:=
 (match a.up with
  |some (d,_,_)=>!(b.nr.contains d)&&(match b.up with|some (d',_,_)=>d != d'|none=>true)
  |none=>true) &&
 (match b.up with
  |some (d',_,_)=>!(a.nr.contains d')
  |none=>true)
def J1f (ops:Array Oper)(x y:Oper×St):Bool:=Oper.apart ops x.1 y.1&&J5Z x.2 y.2
def J0g (o:Oper):List Nat:=(o.after.toList.filter (Region.binds .any ·)).map (·.on)
def J1O (ms:List Nat):List Nat→Nat
 |[]=>0
 |p::r=>2 ^ p ||| ms.getD p 0 ||| J1O ms r
def chk1 (ops:Array Oper)(m:Nat)(x:Oper×St):Nat→List (Oper×St)→Bool
 |_,[]=>true
 |j,y::r=>(m.testBit j||J1f ops y x)&&chk1 ops m x (j+1) r
def J2h (ops:Array Oper):List (Oper×St)→List Nat→List (Oper×St)→Bool
 |_,_,[]=>true
 |done,ms,x::r=>(J0g x.1).all (fun p=>Nat.blt p done.length)&&chk1 ops (J1O ms (J0g x.1)) x 0 done&&J2h ops (done++[x]) (ms++[J1O ms (J0g x.1)]) r
theorem JAw {ops:Array Oper}{m:Nat}{x:Oper×St}:∀ {l:List (Oper×St)} {j:Nat},chk1 ops m x j l=true→∀ i (h:i<l.length),m.testBit (j+i)=true∨J1f ops l[i] x=true
 |[],j,_,i,h=>absurd h (by simp)
 |y :: r,j,hc,i,h=>by
   unfold chk1 at hc;simp only[Bool.and_eq_true,Bool.or_eq_true] at hc
   cases i with
   |zero=>exact hc.1
   |succ i=>
     have:=JAw hc.2 i (by simpa using h);rw[show j+1+i=j+(i+1) by omega] at this;exact this
structure Inv (ops:Array Oper) (Z:List (Oper×St)) (ms:List Nat):Prop where
 len:ms.length=Z.length
 at_:∀ i (h:i<Z.length),(∀ p∈J0g Z[i].1,p<i)∧ms.getD i 0=J1O (ms.take i) (J0g Z[i].1)∧∀ j (hj:j<i),(ms.getD i 0).testBit j=true∨J1f ops (Z[j]'(by omega)) Z[i]=true
theorem J9a {ops:Array Oper}:∀ {r done:List (Oper×St)} {ms:List Nat},Inv ops done ms→J2h ops done ms r=true→∃ ms',Inv ops (done++r) ms'
 |[],done,ms,hI,_=>⟨ms,by simpa using hI⟩
 |x :: r,done,ms,hI,hc=>by
   unfold J2h at hc;simp only[Bool.and_eq_true] at hc;obtain ⟨⟨h1,h2⟩,h3⟩:=hc
   have hp:∀ p∈J0g x.1,p<done.length:=fun p hp=>by
    have:=List.all_eq_true.1 h1 p hp;exact Nat.le_of_ble_eq_true this
   have:Inv ops (done++[x]) (ms++[J1O ms (J0g x.1)]):=by
    refine ⟨by simp[hI.len],fun i h=>?_⟩
    by_cases hi:i<done.length
    ·have:=hI.at_ i hi;simp only[List.getElem_append_left hi];rw[show (ms++[J1O ms (J0g x.1)]).getD i 0=ms.getD i 0 by simp only[List.getD_eq_getElem?_getD];rw[List.getElem?_append_left (by rw[hI.len];exact hi)],List.take_append_of_le_length (by rw[hI.len];omega)];refine ⟨this.1,this.2.1,fun j hj=>?_⟩;simp only[List.getElem_append_left (show j<done.length by omega)];exact this.2.2 j hj
    ·have hi':i=done.length:=by simp at h;omega
     subst hi';have e1:(done++[x])[done.length]'h=x:=by simp
     have e2:(ms++[J1O ms (J0g x.1)]).getD done.length 0=J1O ms (J0g x.1):=by
      rw[List.getD_eq_getElem?_getD,List.getElem?_append_right (by rw[hI.len];exact Nat.le_refl _)];simp[hI.len]
     rw[e1,e2];refine ⟨hp,?_,fun j hj=>?_⟩
     ·rw[← hI.len,List.take_left'];rfl
     ·simp only[List.getElem_append_left hj];have:=JAw h2 j hj
      rwa [Nat.zero_add] at this
   obtain ⟨ms',h⟩:=J9a this h3;exact ⟨ms',by simpa using h⟩
theorem Inv.nil (ops:Array Oper):Inv ops [] []:=⟨rfl,fun i h=>absurd h (by simp)⟩
theorem J5T {ms:List Nat}{X:Nat→Prop}:∀ {ps:List Nat},(∀ p∈ps,X p)→(∀ p∈ps,∀ j,(ms.getD p 0).testBit j=true→X j)→∀ j,(J1O ms ps).testBit j=true→X j
 |[],_,_,j,h=>by simp[J1O] at h
 |p::r,h1,h2,j,h=>by
   unfold J1O at h;simp only[Nat.testBit_or,Nat.testBit_two_pow,Bool.or_eq_true,decide_eq_true_eq] at h
   rcases h with (h|h)|h
   ·exact h ▸ h1 p (by simp)
   ·exact h2 p (by simp) j h
   ·exact J5T (fun p hp=>h1 p (by simp[hp])) (fun p hp=>h2 p (by simp[hp])) j h
theorem Inv.closed {ops:Array Oper}{Z:List (Oper×St)}{ms:List Nat}(hI:Inv ops Z ms){X:Nat→Prop}(hX:∀ i (h:i<Z.length),X i→∀ p∈J0g Z[i].1,X p) :
  ∀ i (h:i<Z.length),(∀ p∈J0g Z[i].1,X p)→∀ j,(ms.getD i 0).testBit j=true→X j:=by
 intro i
 induction i using Nat.strongRecOn with
 |_ i ih=>
   intro h hp j hj;obtain ⟨h1,h2,_⟩:=hI.at_ i h;rw[h2] at hj;refine J5T hp (fun p hpp j hj=>?_) j hj;have hlt:=h1 p hpp
   have:(ms.take i).getD p 0=ms.getD p 0:=by
    simp[List.getD_eq_getElem?_getD,List.getElem?_take,hlt]
   rw[this] at hj;exact ih p hlt (by omega) (hX p (by omega) (hp p hpp)) j hj
section
variable (dst:Nat→Option Nat) (S:Nat→St) (σ0:Fr) (H0:Hp)
def sg (X:Nat→Bool):Nat→Fr
 |0=>σ0
 |k+1=>if X k then put (sg X k) (dst k) (S k).v else sg X k
def hg (X:Nat→Bool):Nat→Hp
 |0=>H0
 |k+1=>if X k then app (hg X k) (S k).up else hg X k
theorem J27 {X Y:Nat→Bool}{s:Nat}:∀ (m:Nat),(∀ k,k<m→X k≠Y k→dst k≠some s)→sg dst S σ0 X m s=sg dst S σ0 Y m s
 |0,_=>rfl
 |m + 1,h=>by
   have ih:=J27 m fun k hk=>h k (by omega);have hm:=h m (by omega)
   have off:∀ σ:Fr,dst m≠some s→put σ (dst m) (S m).v s=σ s:=by
    intro σ hd
    cases hdm:dst m with
    |none=>rfl
    |some d=>exact JK2 _ _ _ _ fun e=>hd (by rw[hdm,e])
   have on:∀ σ σ':Fr,σ s=σ' s→put σ (dst m) (S m).v s=put σ' (dst m) (S m).v s:=by
    intro σ σ' e
    cases hdm:dst m with
    |none=>exact e
    |some d=>simp only[put,upd];split<;>first|rfl|exact e
   simp only[sg];cases hX:X m<;>cases hY:Y m<;>simp only[Bool.false_eq_true,if_false,if_true]
   ·exact ih
   ·rw[off _ (hm (by simp[hX,hY]))];exact ih
   ·rw[off _ (hm (by simp[hX,hY]))];exact ih
   ·exact on _ _ ih
theorem J2C {X Y:Nat→Bool}{b:Nat}:∀ (m:Nat),(∀ k,k<m→X k≠Y k→∀ d g B,(S k).up=some (d,g,B)→d≠b)→hg S H0 X m b=hg S H0 Y m b
 |0,_=>rfl
 |m + 1,h=>by
   have ih:=J2C m fun k hk=>h k (by omega);have hm:=h m (by omega)
   have off:∀ H:Hp,(∀ d g B,(S m).up=some (d,g,B)→d≠b)→app H (S m).up b=H b:=by
    intro H hd
    cases hu:(S m).up with
    |none=>rfl
    |some u=>obtain ⟨d,g,B⟩:=u;exact J28 _ _ _ _ (hd d g B hu).symm
   have on:∀ H H':Hp,H b=H' b→app H (S m).up b=app H' (S m).up b:=by
    intro H H' e
    cases hu:(S m).up with
    |none=>exact e
    |some u=>obtain ⟨d,g,B⟩:=u;simp only[app,setH];split<;>first|rfl|exact e
   simp only[hg];cases hX:X m<;>cases hY:Y m<;>simp only[Bool.false_eq_true,if_false,if_true]
   ·exact ih
   ·rw[off _ (hm (by simp[hX,hY]))];exact ih
   ·rw[off _ (hm (by simp[hX,hY]))];exact ih
   ·exact on _ _ ih
theorem JGk (σ:Fr){d d':Option Nat}(v v':AV)(h:∀ x,d=some x→d'≠some x):put (put σ d v) d' v'=put (put σ d' v') d v:=by
 cases d with
 |none=>rfl
 |some d=>cases d' with
   |none=>rfl
   |some d'=>
     have hne:d'≠d:=fun e=>h d rfl (by rw[e])
     funext x
     simp only[put,upd]
     by_cases h1:x=d<;>by_cases h2:x=d'<;>simp_all
theorem JHe (H:Hp){u u':Up}(h:∀ d g B d' g' B',u=some (d,g,B)→u'=some (d',g',B')→d≠d'):app (app H u) u'=app (app H u') u:=by
 cases u with
 |none=>rfl
 |some u=>cases u' with
   |none=>rfl
   |some u'=>
     obtain ⟨d,g,B⟩:=u;obtain ⟨d',g',B'⟩:=u';have hne:=h d g B d' g' B' rfl rfl;clear h
     funext x
     simp only[app,setH]
     by_cases h1:x=d
     ·subst h1;rw[if_neg hne,if_pos rfl,if_pos rfl]
     ·rw[if_neg h1,if_neg h1]
theorem J5C {X X':Nat→Bool}{i:Nat}(hX:X i=false)(hX':∀ k,X' k=(X k||decide (k=i))) :
  ∀ (m:Nat),i<m→(∀ k,i<k→k<m→X k=true→∀ x,dst k=some x→dst i≠some x)→sg dst S σ0 X' m=put (sg dst S σ0 X m) (dst i) (S i).v
 |0,h,_=>absurd h (by simp)
 |m + 1,h,hk=>by
   by_cases hm:m=i
   ·subst hm
    have e:∀ k,k≤m→sg dst S σ0 X' k=sg dst S σ0 X k:=by
     intro k
     induction k with
     |zero=>intro _;rfl
     |succ k ih=>
       intro hk;simp only[sg,ih (by omega),hX' k];rw[decide_eq_false (by omega),Bool.or_false]
    simp only[sg,hX,hX' m,decide_true,Bool.or_true,if_true,Bool.false_eq_true,if_false,e m (Nat.le_refl _)]
   ·have ih:=J5C hX hX' m (by omega) fun k h1 h2=>hk k h1 (by omega);simp only[sg,hX' m,decide_eq_false hm,Bool.or_false];cases hXm:X m
    ·simpa using ih
    ·simp only[if_true];rw[ih,JGk];intro x hx e;exact hk m (by omega) (by omega) hXm x e hx
theorem J5a {X X':Nat→Bool}{i:Nat}(hX:X i=false)(hX':∀ k,X' k=(X k||decide (k=i))) :
  ∀ (m:Nat),i<m→(∀ k,i<k→k<m→X k=true→∀ d g B d' g' B',(S k).up=some (d,g,B)→(S i).up=some (d',g',B')→d≠d')→hg S H0 X' m=app (hg S H0 X m) (S i).up
 |0,h,_=>absurd h (by simp)
 |m + 1,h,hk=>by
   by_cases hm:m=i
   ·subst hm
    have e:∀ k,k≤m→hg S H0 X' k=hg S H0 X k:=by
     intro k
     induction k with
     |zero=>intro _;rfl
     |succ k ih=>
       intro hk;simp only[hg,ih (by omega),hX' k];rw[decide_eq_false (by omega),Bool.or_false]
    simp only[hg,hX,hX' m,decide_true,Bool.or_true,if_true,Bool.false_eq_true,if_false,e m (Nat.le_refl _)]
   ·have ih:=J5a hX hX' m (by omega) fun k h1 h2=>hk k h1 (by omega);simp only[hg,hX' m,decide_eq_false hm,Bool.or_false];cases hXm:X m
    ·simpa using ih
    ·simp only[if_true];rw[ih,JHe];intro d g B d' g' B' h1 h2;exact (hk m (by omega) (by omega) hXm d' g' B' d g B h2 h1).symm
end
end Go.Fw
