/- Part 25 of the proof. -/
import Derived.Test.YtlblbldolhiokaaGreatDoorDual24
set_option linter.unusedVariables false
set_option linter.unusedSimpArgs false
set_option linter.unusedSectionVars false
set_option maxRecDepth 100000
set_option exponentiation.threshold 400
set_option maxHeartbeats 8000000
namespace Go.Fw
open Go.RowKit
def memB (b:Nat):List Nat→Bool
 |[]=>false
 |x::r=>match Nat.beq b x with
   |true=>true
   |false=>memB b r
theorem J5R (b:Nat):∀ S:List Nat,memB b S=decide (b∈S)
 |[]=>rfl
 |x :: r=>by
   unfold memB;split
   ·rename_i h;simp[Nat.eq_of_beq_eq_true h]
   ·rename_i h;have:b≠x:=fun e=>by rw[e] at h;simp at h
    rw[J5R b r];simp[this]
def J60 (S:List Nat)(H:Hp)(x:AV)(C:AV→Prop):Prop:=
 match x with
 |.own b g off len=>match memB b S with
   |true=>match H b with
     |some (g',B)=>Need (g'=g∧off+len≤B.xs.length) (C (.sl B.n (((B.xs.drop off).take len).map (J0N (J05 S H 2)))))
     |none=>C .dead
   |false=>C .dead
 |.op b g i k=>C (J05 S H 3 (.op b g i k))
 |.val v=>C (.val v)
 |.sl n xs=>C (.sl n xs)
 |.ep y k=>C (.ep y k)
 |.mp ks vs=>C (.mp ks vs)
 |.om b g=>match memB b S with
   |true=>match H b with
     |some (g',B)=>match B.xs with
       |[.mp ks vs]=>Need (g'=g) (C (.mp ks vs))
       |_=>False
     |none=>False
   |false=>C .dead
 |.fn f a c=>C (J05 S H 3 (.fn f a c))
 |_=>C .dead
theorem J4I {S:List Nat}{H:Hp}{x:AV}{C:AV→Prop}(h:J60 S H x C):C (J05 S H 3 x):=by
 unfold J60 at h;cases x<;>simp only[J05] at h ⊢<;>try exact h
 case om b g=>
  rw[J5R] at h;split
  ·rename_i hm;rw[decide_eq_true hm] at h;simp only at h;split at h
   ·rename_i g' B hB;split at h
    ·rename_i ks vs hx;obtain ⟨e,n,xs⟩:=B;simp only at hx;subst hx;rw[hB];have hq:=h.out;simp only[hq.1,if_true];exact hq.2
    ·exact h.elim
   ·exact h.elim
  ·rename_i hm;rw[decide_eq_false hm] at h;exact h
 rename_i b g off len;rw[J5R] at h;split
 ·rename_i hm;rw[decide_eq_true hm] at h;simp only at h;split
  ·rename_i g' B hB;rw[hB] at h;simp only at h;have hq:=h.out;rw[if_pos hq.1];exact hq.2
  ·rename_i hB;rw[hB] at h;exact h
 ·rename_i hm;rw[decide_eq_false hm] at h;exact h
def J3g (S:List Nat)(H:Hp):List AV→List AV→(List AV→Prop)→Prop
 |[],acc,C=>C acc.reverse
 |x::r,acc,C=>fv x fun x=>J60 S H x fun y=>J3g S H r (y::acc) C
theorem J5z {S:List Nat}{H:Hp}:∀ {l acc:List AV} {C:List AV→Prop},J3g S H l acc C→C (acc.reverse++l.map (J05 S H 3))
 |[],acc,C,h=>by simpa [J3g] using h
 |x::r,acc,C,h=>by
   unfold J3g at h;rw[J5e] at h;have:=J5z (J4I h)
   simpa using this
def J76 (S:List Nat)(H:Hp)(x:AV)(C:AV→Prop):Prop:=
 match x with
 |.agg cs=>J3g S H cs [] fun l=>C (.agg l)
 |.dead=>C .dead
 |.val v=>C (.val v)
 |.tup l=>C .dead
 |.sl n xs=>C (.sl n xs)
 |.fu n xs=>C .dead
 |.ep y k=>C (.ep y k)
 |.own b g o l=>J60 S H (.own b g o l) C
 |.op b g i k=>C (J05 S H 3 (.op b g i k))
 |.mp ks vs=>C (.mp ks vs)
 |.om b g=>J60 S H (.om b g) C
 |.it _ _=>C .dead
 |.fn f a c=>C (J05 S H 3 (.fn f a c))
theorem J3f {S:List Nat}{H:Hp}{x:AV}{C:AV→Prop}(h:J76 S H x C):C (snap S H x):=by
 unfold J76 at h;unfold snap;cases x<;>simp only[J0N] at h ⊢<;>try exact h
 ·have:=J5z h;simpa using this
 ·exact J4I h
 ·exact J4I h
structure LookP (eq:AV→Option Bool) (ks:List AV) (C:Option Nat→Prop):Prop where
 mk' ::
 o:∃ r,J10 eq ks=some r∧C r
theorem LookP.intro {eq:AV→Option Bool}{ks:List AV}{C:Option Nat→Prop}(r:Option Nat)(h:J10 eq ks=some r)(k:C r):LookP eq ks C:=⟨⟨r,h,k⟩⟩
structure NextM (l:List AV) (X:Prop) (Y:Nat→Prop):Prop where
 mk' ::
 o:∃ L:List Nat,l=L.map encN∧(L=[]→X)∧∀ j∈L,Y j
theorem NextM.intro {X:Prop}{Y:Nat→Prop}(L:List Nat)(h:L=[]→X)(k:∀ j∈L,Y j):NextM (L.map encN) X Y:=⟨⟨L,rfl,h,k⟩⟩
section
variable {P:Program} {T:Nat→Option TD} {H:Hp}
def JC0 (P:Program)(T:Nat→Option TD)(t:Nat)(C:Nat→TD→Prop):Prop:=
 match T t with
 |some d=>match d.kind with
   |.map kt et=>match T et with
     |some ed=>Need (KeySt P kt) (C kt ed)
     |none=>False
   |_=>False
 |none=>False
theorem J9O (hT:TOk P T){t:Nat}{C C':Nat→TD→Prop}(hC:∀ a b,C a b→C' a b)(h:JC0 P T t C):mapT P T t C':=by
 unfold JC0 at h;split at h
 ·rename_i d hd;split at h
  ·rename_i kt et hk;split at h
   ·rename_i ed hed;exact ⟨d,hd,kt,et,hk,ed,hed,aggZ (hT _ _ hed),h.out.1,hC _ _ h.out.2⟩
   ·exact h.elim
  ·exact h.elim
 ·exact h.elim
def JAp (H:Hp)(x:AV)(C:List AV→List AV→Prop):Prop:=
 match x with
 |.mp ks vs=>C ks vs
 |.om b g=>match H b with
   |some (g',B)=>match B.xs with
     |[.mp ks vs]=>Need (g'=g) (C ks vs)
     |_=>False
   |none=>False
 |.val (.map none)=>C [] []
 |_=>False
theorem JDA {x:AV}{C C':List AV→List AV→Prop}(hC:∀ a b,C a b→C' a b)(h:JAp H x C):J7k H x C':=by
 unfold JAp at h;unfold J7k;split at h
 ·exact hC _ _ h
 ·split at h
  ·rename_i g' B hB;split at h
   ·rename_i ks vs hx;have hq:=h.out;obtain ⟨rfl,h9⟩:=hq;exact ⟨B,ks,vs,hB,hx,hC _ _ h9⟩
   ·exact h.elim
  ·exact h.elim
 ·exact hC _ _ h
 ·exact h.elim
def JFI (ok:Bool)(r:Option Nat)(vs:List AV)(ed:TD)(C:AV→Prop):Prop:=
 match r with
 |some i=>fv (vs.getD i .dead) fun y=>match ok with
   |true=>C (.tup [y,.val (.bool true)])
   |false=>C y
 |none=>fv (mkEl ed) fun y=>match ok with
   |true=>C (.tup [y,.val (.bool false)])
   |false=>C y
theorem JFH {ok:Bool}{r:Option Nat}{vs:List AV}{ed:TD}{C:AV→Prop}(h:JFI ok r vs ed C):C (JCw ok r vs ed):=by
 unfold JFI at h;unfold JCw JIu;cases r<;>cases ok<;>simp only[J5e] at h<;>exact h
def J84 (P:Program)(T:Nat→Option TD)(H:Hp)(t:Nat)(x k:AV)(ok:Bool)(C:AV→Prop):Prop:=
 JC0 P T t fun kt ed=>match J0h T kt k k with
  |some _=>JAp H x fun ks vs=>LookP (J0h T kt k) ks fun r=>JFI ok r vs ed C
  |none=>False
theorem J65 (hT:TOk P T){t:Nat}{x k:AV}{ok:Bool}{C:AV→Prop}(h:J84 P T H t x k ok C):evLookup P T H t x k ok C:=by
 refine J9O hT (fun kt ed h=>?_) h;split at h
 ·rename_i b hb;refine ⟨⟨b,hb⟩,JDA (fun ks vs h=>?_) h⟩;obtain ⟨r,h1,h2⟩:=h.o;exact ⟨r,h1,JFH h2⟩
 ·exact h.elim
def J2E (P:Program)(T:Nat→Option TD)(H:Hp)(t:Nat)(m k v:AV)(C:Up→Prop):Prop:=
 match m with
 |.om b g=>JC0 P T t fun kt ed=>match J0h T kt k k with
   |some _=>match H b with
     |some (g',B)=>match B.xs with
       |[.mp ks vs]=>Need (g'=g) (J76 [] H k fun k'=>J76 [] H v fun v'=>LookP (J0h T kt k) ks fun r=>match r with
         |some i=>C (some (b,g',{ B with xs:=[.mp ks (vs.set i v')] }))
         |none=>C (some (b,g',{ B with xs:=[.mp (ks++[k']) (vs++[v'])] })))
       |_=>False
     |none=>False
   |none=>False
 |_=>False
theorem J35 (hT:TOk P T){t:Nat}{m k v:AV}{C:Up→Prop}(h:J2E P T H t m k v C):J0j P T H t m k v C:=by
 unfold J2E at h;unfold J0j;split at h
 ·refine J9O hT (fun kt ed h=>?_) h;split at h
  ·rename_i b0 hb0;split at h
   ·rename_i g' B hB;split at h
    ·rename_i ks vs hx;have hq:=h.out;obtain ⟨rfl,h9⟩:=hq;obtain ⟨r,h1,h2⟩:=(J3f (J3f h9)).o;refine ⟨⟨b0,hb0⟩,B,ks,vs,hB,hx,r,h1,?_⟩;cases r<;>exact h2
    ·exact h.elim
   ·exact h.elim
  ·exact h.elim
 ·exact h.elim
def JAn (T:Nat→Option TD)(t d γ:Nat)(x:AV)(C:AV→Up→Prop):Prop:=
 match T t with
 |some td=>match td.kind,x with
   |.str,.val (.string s)=>C (.it d γ) (some (d,γ,⟨0,0,[.val (.string s),.val (.int .i64 0)]⟩))
   |.map _ _,.mp ks vs=>C (.it d γ) (some (d,γ,⟨0,0,[.mp ks vs,.tup ((List.range ks.length).map encN),.dead]⟩))
   |_,_=>False
 |none=>False
theorem JD9 {t d γ:Nat}{x:AV}{C:AV→Up→Prop}(h:JAn T t d γ x C):J5i T t d γ x C:=by
 unfold JAn at h;unfold J5i;split at h
 ·rename_i td hd;refine ⟨td,hd,?_⟩;split at h
  ·rename_i hk;exact ⟨hk,h⟩
  ·rename_i hk;exact ⟨⟨_,_,hk⟩,h⟩
  ·exact h.elim
 ·exact h.elim
def JFL (H:Hp)(it:AV)(isS:Bool)(C:AV→Up→Prop):Prop:=
 match it with
 |.it b g=>match H b with
   |some (g',B)=>Need (g'=g) (match B.xs,isS with
     | [.val (.string s),.val (.int .i64 p)],true=>CondP (decide (p<s.size)) (C (.tup [.val (.bool true),.val (.int .i64 p),.val (.int .i32 ((runeAt s p.toNat).1:Nat))]) (some (b,g',{ B with xs:=[.val (.string s),.val (.int .i64 (p+(runeAt s p.toNat).2))] })))
      (C (.tup [.val (.bool false)]) none)
     |[.mp mk mv,.tup l,cur],false=>NextM l (C (.tup [.val (.bool false)]) none) fun j=>C (.tup [.val (.bool true),mk.getD j .dead,mv.getD j .dead]) (some (b,g',{ B with xs:=[.mp mk mv,.tup (l.filter fun x=>match x with|.val (.int _ i)=>!decide (i=(j:Int))|_=>true),encN j] }))
     |_,_=>False)
   |none=>False
 |_=>False
theorem JFK {it:AV}{isS:Bool}{C:AV→Up→Prop}(h:JFL H it isS C):J5j H it isS C:=by
 unfold JFL at h;unfold J5j;split at h
 ·split at h
  ·rename_i g' B hB;have hq:=h.out;obtain ⟨rfl,h9⟩:=hq;refine ⟨B,hB,?_⟩;clear h;split at h9
   ·rename_i s p hx;rw[hx];exact ⟨rfl,fun hp=>h9.out.1 (decide_eq_true hp),fun hp=>h9.out.2 (decide_eq_false hp)⟩
   ·rename_i mk mv l cur hx;rw[hx];obtain ⟨L,rfl,h1,h2⟩:=h9.o;refine ⟨rfl,L,rfl,h1,fun j hj=>?_⟩;have:=h2 j hj;rw[List.filter_map] at this
    have e:(fun x=>match x with|AV.val (.int _ i)=>!decide (i=(j:Int))|_=>true)∘encN=fun i:Nat=>decide (i≠j):=by
     funext i
     simp only[Function.comp_apply,encN]
     by_cases h:i=j
     ·simp[h]
     ·have:¬ (i:Int)=j:=by omega
      simp[h,this]
    rw[e] at this;exact this
   ·exact h9.elim
  ·exact h.elim
 ·exact h.elim
def JAr (H:Hp)(it:AV)(C:AV→Prop):Prop:=
 match it with
 |.it b g=>match H b with
   |some (g',B)=>match B.xs with
     |[.mp mk mv,.tup l,.val (.int .i64 j)]=>Need (g'=g) (C (.tup [mk.getD j.toNat .dead,mv.getD j.toNat .dead]))
     |_=>False
   |none=>False
 |_=>False
theorem JDC {it:AV}{C:AV→Prop}(h:JAr H it C):J5l H it C:=by
 unfold JAr at h;unfold J5l;split at h
 ·split at h
  ·rename_i g' B hB;split at h
   ·rename_i hx;have hq:=h.out;obtain ⟨rfl,h9⟩:=hq;refine ⟨B,hB,?_⟩;rw[hx];exact h9
   ·exact h.elim
  ·exact h.elim
 ·exact h.elim
end
end Go.Fw
