/- Part 25 of a proof. -/
import Derived.Test.YtlblbldolhiokaaGreatDoorRs24
set_option linter.all false
set_option maxRecDepth 99999
set_option maxHeartbeats 0
namespace Go.Fw
open Go.RowKit
def memB (b:Nat):List Nat→Bool
 |[]=>false
 |x::r=>match Nat.beq b x with
   |true=>true
   |false=>memB b r
theorem J7L (b:Nat):∀ S:List Nat,memB b S=decide (b∈S)
 |[]=>rfl
 |x :: r=>by
   unfold memB;split
   ·rename_i h;simp[Q7 h]
   rename_i h;have:b≠x:=fun e=>by rw[e] at h;simp at h
   rw[J7L b r];simp[this]
def J7w (S:List Nat)(H:Hp)(x:AV)(C:AV→Prop):Prop:=
 match x with
 |.own b g off len=>match memB b S with
   |true=>match H b with
     |some (g',B)=>Need (g'=g∧off+len≤B.xs.length) (C (.sl B.n (((B.xs.drop off).take len).map (J0U (J08 S H 2)))))
     |none=>C .dead
   |false=>C .dead
 |.op b g i k=>C (J08 S H 3 (.op b g i k))
 |.val v=>C (.val v)
 |.sl n xs=>C (.sl n xs)
 |.ep y k=>C (.ep y k)
 |.mp ks vs=>C (.mp ks vs)
 |.om b g=>match memB b S with
   |true=>match H b with
     |some (g',B)=>match B.xs with
       |[.mp ks vs]=>Need (g'=g) (C (.mp ks vs))
       |_=>False
     |none=>False
   |false=>C .dead
 |.fn f a c=>C (J08 S H 3 (.fn f a c))
 |_=>C .dead
def J5y {S:List Nat}{H:Hp}{x:AV}{C:AV→Prop}(h:J7w S H x C):C (J08 S H 3 x):=by
 unfold J7w at h;cases x<;>simp only[J08] at h ⊢<;>try exact h
 case om b g=>
  rw[J7L] at h;split
  ·rename_i hm;rw[Q2 hm] at h;simp only at h;split at h
   ·rename_i g' B hB;split at h
    ·rename_i ks vs hx;obtain ⟨e,n,xs⟩:=B;simp only at hx;subst hx;rw[hB];have hq:=h.out;simp only[hq.1,if_true];exact hq.2
    exact h.elim
   exact h.elim
  rename_i hm;rw[Q1 hm] at h;exact h
 rename_i b g off len;rw[J7L] at h;split
 ·rename_i hm;rw[Q2 hm] at h;simp only at h;split
  ·rename_i g' B hB;rw[hB] at h;simp only at h;have hq:=h.out;rw[if_pos hq.1];exact hq.2
  rename_i hB;rw[hB] at h;exact h
 rename_i hm;rw[Q1 hm] at h;exact h
def J58 (S:List Nat)(H:Hp):List AV→List AV→(List AV→Prop)→Prop
 |[],acc,C=>C acc.reverse
 |x::r,acc,C=>fv x fun x=>J7w S H x fun y=>J58 S H r (y::acc) C
theorem J7v {S:List Nat}{H:Hp}:∀ {l acc:List AV} {C:List AV→Prop},J58 S H l acc C→C (acc.reverse++l.map (J08 S H 3))
 |[],acc,C,h=>by simpa [J58] using h
 |x::r,acc,C,h=>by
   unfold J58 at h;rw[J7d] at h;have:=J7v (J5y h)
   simpa using this
def J9N (S:List Nat)(H:Hp)(x:AV)(C:AV→Prop):Prop:=
 match x with
 |.agg cs=>J58 S H cs [] fun l=>C (.agg l)
 |.dead=>C .dead
 |.val v=>C (.val v)
 |.tup l=>C .dead
 |.sl n xs=>C (.sl n xs)
 |.fu n xs=>C .dead
 |.ep y k=>C (.ep y k)
 |.own b g o l=>J7w S H (.own b g o l) C
 |.op b g i k=>C (J08 S H 3 (.op b g i k))
 |.mp ks vs=>C (.mp ks vs)
 |.om b g=>J7w S H (.om b g) C
 |.it _ _=>C .dead
 |.fn f a c=>C (J08 S H 3 (.fn f a c))
def J57 {S:List Nat}{H:Hp}{x:AV}{C:AV→Prop}(h:J9N S H x C):C (snap S H x):=by
 unfold J9N at h;unfold snap;cases x<;>simp only[J0U] at h ⊢<;>try exact h
 ·have:=J7v h;simpa using this
 ·exact J5y h
 exact J5y h
structure LookP (eq:AV→Option Bool) (ks:List AV) (C:Option Nat→Prop):Prop where
 mk' ::
 o:∃ r,J1E eq ks=some r∧C r
def LookP.intro {eq:AV→Option Bool}{ks:List AV}{C:Option Nat→Prop}(r:Option Nat)(h:J1E eq ks=some r)(k:C r):LookP eq ks C:=⟨⟨r,h,k⟩⟩
structure NextM (l:List AV) (X:Prop) (Y:Nat→Prop):Prop where
 mk' ::
 o:∃ L:List Nat,l=L.map encN∧(L=[]→X)∧∀ j∈L,Y j
def NextM.intro {X:Prop}{Y:Nat→Prop}(L:List Nat)(h:L=[]→X)(k:∀ j∈L,Y j):NextM (L.map encN) X Y:=⟨⟨L,rfl,h,k⟩⟩
section
variable {P:Program} {T:Nat→Option TD} {H:Hp}
def JEt (P:Program)(T:Nat→Option TD)(t:Nat)(C:Nat→TD→Prop):Prop:=
 match T t with
 |some d=>match d.kind with
   |.map kt et=>match T et with
     |some ed=>Need (KeySt P kt) (C kt ed)
     |none=>False
   |_=>False
 |none=>False
def JC5 (hT:TOk P T){t:Nat}{C C':Nat→TD→Prop}(hC:∀ a b,C a b→C' a b)(h:JEt P T t C):mapT P T t C':=by
 unfold JEt at h;split at h
 ·rename_i d hd;split at h
  ·rename_i kt et hk;split at h
   ·rename_i ed hed;exact ⟨d,hd,kt,et,hk,ed,hed,aggZ (hT _ _ hed),h.out.1,hC _ _ h.out.2⟩
   exact h.elim
  exact h.elim
 exact h.elim
def JDU (H:Hp)(x:AV)(C:List AV→List AV→Prop):Prop:=
 match x with
 |.mp ks vs=>C ks vs
 |.om b g=>match H b with
   |some (g',B)=>match B.xs with
     |[.mp ks vs]=>Need (g'=g) (C ks vs)
     |_=>False
   |none=>False
 |.val (.map none)=>C [] []
 |_=>False
def JGE {x:AV}{C C':List AV→List AV→Prop}(hC:∀ a b,C a b→C' a b)(h:JDU H x C):JA9 H x C':=by
 unfold JDU at h;unfold JA9;split at h
 ·exact hC _ _ h
 ·split at h
  ·rename_i g' B hB;split at h
   ·rename_i ks vs hx;have hq:=h.out;obtain ⟨rfl,h9⟩:=hq;exact ⟨B,ks,vs,hB,hx,hC _ _ h9⟩
   exact h.elim
  exact h.elim
 ·exact hC _ _ h
 exact h.elim
def JIr (ok:Bool)(r:Option Nat)(vs:List AV)(ed:TD)(C:AV→Prop):Prop:=
 match r with
 |some i=>fv (vs.getD i .dead) fun y=>match ok with
   |true=>C (.tup [y,.val (.bool true)])
   |false=>C y
 |none=>fv (mkEl ed) fun y=>match ok with
   |true=>C (.tup [y,.val (.bool false)])
   |false=>C y
def JIq {ok:Bool}{r:Option Nat}{vs:List AV}{ed:TD}{C:AV→Prop}(h:JIr ok r vs ed C):C (JFx ok r vs ed):=by
 unfold JIr at h;unfold JFx JND;cases r<;>cases ok<;>simp only[J7d] at h<;>exact h
def JAV (P:Program)(T:Nat→Option TD)(H:Hp)(t:Nat)(x k:AV)(ok:Bool)(C:AV→Prop):Prop:=
 JEt P T t fun kt ed=>match J13 T kt k k with
  |some _=>JDU H x fun ks vs=>LookP (J13 T kt k) ks fun r=>JIr ok r vs ed C
  |none=>False
def J81 (hT:TOk P T){t:Nat}{x k:AV}{ok:Bool}{C:AV→Prop}(h:JAV P T H t x k ok C):evLookup P T H t x k ok C:=by
 refine JC5 hT (fun kt ed h=>?_) h;split at h
 ·rename_i b hb;refine ⟨⟨b,hb⟩,JGE (fun ks vs h=>?_) h⟩;obtain ⟨r,h1,h2⟩:=h.o;exact ⟨r,h1,JIq h2⟩
 exact h.elim
def J2o (P:Program)(T:Nat→Option TD)(H:Hp)(t:Nat)(m k v:AV)(C:Up→Prop):Prop:=
 match m with
 |.om b g=>JEt P T t fun kt ed=>match J13 T kt k k with
   |some _=>match H b with
     |some (g',B)=>match B.xs with
       |[.mp ks vs]=>Need (g'=g) (J9N [] H k fun k'=>J9N [] H v fun v'=>LookP (J13 T kt k) ks fun r=>match r with
         |some i=>C (some (b,g',{ B with xs:=[.mp ks (vs.set i v')] }))
         |none=>C (some (b,g',{ B with xs:=[.mp (ks++[k']) (vs++[v'])] })))
       |_=>False
     |none=>False
   |none=>False
 |_=>False
def J40 (hT:TOk P T){t:Nat}{m k v:AV}{C:Up→Prop}(h:J2o P T H t m k v C):J15 P T H t m k v C:=by
 unfold J2o at h;unfold J15;split at h
 ·refine JC5 hT (fun kt ed h=>?_) h;split at h
  ·rename_i b0 hb0;split at h
   ·rename_i g' B hB;split at h
    ·rename_i ks vs hx;have hq:=h.out;obtain ⟨rfl,h9⟩:=hq;obtain ⟨r,h1,h2⟩:=(J57 (J57 h9)).o;refine ⟨⟨b0,hb0⟩,B,ks,vs,hB,hx,r,h1,?_⟩;cases r<;>exact h2
    exact h.elim
   exact h.elim
  exact h.elim
 exact h.elim
def JDS (T:Nat→Option TD)(t d γ:Nat)(x:AV)(C:AV→Up→Prop):Prop:=
 match T t with
 |some td=>match td.kind,x with
   |.str,.val (.string s)=>C (.it d γ) (some (d,γ,⟨0,0,[.val (.string s),.val (.int .i64 0)]⟩))
   |.map _ _,.mp ks vs=>C (.it d γ) (some (d,γ,⟨0,0,[.mp ks vs,.tup ((List.range ks.length).map encN),.dead]⟩))
   |_,_=>False
 |none=>False
def JGD {t d γ:Nat}{x:AV}{C:AV→Up→Prop}(h:JDS T t d γ x C):J7g T t d γ x C:=by
 unfold JDS at h;unfold J7g;split at h
 ·rename_i td hd;refine ⟨td,hd,?_⟩;split at h
  ·rename_i hk;exact ⟨hk,h⟩
  ·rename_i hk;exact ⟨⟨_,_,hk⟩,h⟩
  exact h.elim
 exact h.elim
def JIu (H:Hp)(it:AV)(isS:Bool)(C:AV→Up→Prop):Prop:=
 match it with
 |.it b g=>match H b with
   |some (g',B)=>Need (g'=g) (match B.xs,isS with
     | [.val (.string s),.val (.int .i64 p)],true=>CondP (decide (p<s.size)) (C (.tup [.val (.bool true),.val (.int .i64 p),.val (.int .i32 ((runeAt s p.toNat).1:Nat))]) (some (b,g',{ B with xs:=[.val (.string s),.val (.int .i64 (p+(runeAt s p.toNat).2))] })))
      (C (.tup [.val (.bool false)]) none)
     |[.mp mk mv,.tup l,cur],false=>NextM l (C (.tup [.val (.bool false)]) none) fun j=>C (.tup [.val (.bool true),mk.getD j .dead,mv.getD j .dead]) (some (b,g',{ B with xs:=[.mp mk mv,.tup (l.filter fun x=>match x with|.val (.int _ i)=>!decide (i=(j:Int))|_=>true),encN j] }))
     |_,_=>False)
   |none=>False
 |_=>False
def JIt {it:AV}{isS:Bool}{C:AV→Up→Prop}(h:JIu H it isS C):J7h H it isS C:=by
 unfold JIu at h;unfold J7h;split at h
 ·split at h
  ·rename_i g' B hB;have hq:=h.out;obtain ⟨rfl,h9⟩:=hq;refine ⟨B,hB,?_⟩;clear h;split at h9
   ·rename_i s p hx;rw[hx];exact ⟨rfl,fun hp=>h9.out.1 (Q2 hp),fun hp=>h9.out.2 (Q1 hp)⟩
   ·rename_i mk mv l cur hx;rw[hx];obtain ⟨L,rfl,h1,h2⟩:=h9.o;refine ⟨rfl,L,rfl,h1,fun j hj=>?_⟩;have:=h2 j hj;rw[Q3J] at this
    have e:(fun x=>match x with|AV.val (.int _ i)=>!decide (i=(j:Int))|_=>true)∘encN=fun i:Nat=>decide (i≠j):=by
     funext i
     simp only[Q2i,encN]
     by_cases h:i=j
     ·simp[h]
     have:¬ (i:Int)=j:=by omega
     simp[h,this]
    rw[e] at this;exact this
   exact h9.elim
  exact h.elim
 exact h.elim
def JDW (H:Hp)(it:AV)(C:AV→Prop):Prop:=
 match it with
 |.it b g=>match H b with
   |some (g',B)=>match B.xs with
     |[.mp mk mv,.tup l,.val (.int .i64 j)]=>Need (g'=g) (C (.tup [mk.getD j.toNat .dead,mv.getD j.toNat .dead]))
     |_=>False
   |none=>False
 |_=>False
def JGG {it:AV}{C:AV→Prop}(h:JDW H it C):J7j H it C:=by
 unfold JDW at h;unfold J7j;split at h
 ·split at h
  ·rename_i g' B hB;split at h
   ·rename_i hx;have hq:=h.out;obtain ⟨rfl,h9⟩:=hq;refine ⟨B,hB,?_⟩;rw[hx];exact h9
   exact h.elim
  exact h.elim
 exact h.elim
end
end Go.Fw
