/- Part 36 of the proof. -/
import Derived.Test.YtlblbldolhiokaaGreatDoorDual35
import Derived.KernelRfl
set_option linter.unusedVariables false
set_option linter.unusedSimpArgs false
set_option linter.unusedSectionVars false
set_option maxRecDepth 100000
set_option exponentiation.threshold 400
set_option maxHeartbeats 8000000
namespace Go.Fw
open Go.RowKit
class Sp (p:Prop) (q:outParam Prop):Prop where
 o:q→p
class Sv (p:Prop) (q:outParam Prop):Prop where
 o:q→p
class Sx (p:Prop) (q:outParam Prop):Prop where
 o:q→p
class Sw (p:Prop) (q:outParam Prop):Prop where
 o:q→p
section
variable {E:En} {D:Array Oper→(Fr→Hp→Prop)→Fr→Hp→Prop} {Q:Exit→Fr→Hp→Prop} {σ:Fr} {H:Hp}
instance:Sp (Box (cpA E D .skip Q σ H)) (Q .normal σ H):=⟨JHR⟩
instance {i:Nat} {ops:Array Oper}:Sp (Box (cpA E D (.region i ops false) Q σ H)) (J1Y E ops ops.toList σ H (Q .normal)):=⟨JDF⟩
instance {i:Nat} {ops:Array Oper}:Sp (Box (cpA E D (.region i ops true) Q σ H)) (DrawP D ops (Q .normal) σ H):=⟨JHV⟩
instance {c:Operand} {x y:Code}:Sp (Box (cpA E D (.cond c x y) Q σ H)) (match opd σ c with|.val (.bool t)=>CondP t (Box (cpA E D x Q σ H)) (Box (cpA E D y Q σ H))|_=>False):=⟨JHW⟩
instance {i:Nat} {c:Code}:Sp (Box (cpA E D (.block i c) Q σ H)) (Box (cpA E D c (inB i Q) σ H)):=⟨JFa⟩
instance {c:Code}:Sp (Box (cpA E D (.loop c) Q σ H)) (LoopP (fun Q σ H=>Box (cpA E D c Q σ H)) Q σ H):=⟨JHT⟩
instance {i:Nat}:Sp (Box (cpA E D (.exit i) Q σ H)) (Q (.exit i) σ H):=⟨JHU⟩
instance {K:Fr→Hp→Prop}:Sp (thenB K Q .normal σ H) (K σ H):=⟨JIj⟩
instance {K:Fr→Hp→Prop} {i:Nat}:Sp (thenB K Q (.exit i) σ H) (Q (.exit i) σ H):=⟨JIk⟩
instance {K:Fr→Hp→Prop}:Sp (thenB K Q .ret σ H) (Q .ret σ H):=⟨JIi⟩
instance {c:Code}:Sp (Box (cpA E D (.scope c) Q σ H)) (Box (cpA E D c (scB Q) σ H)):=⟨JFX⟩
instance {l:Nat}:Sp (Box (cpA E D (.label l) Q σ H)) (Q .normal σ H):=⟨JFZ⟩
instance:Sp (scB Q .normal σ H) (Q .normal σ H):=⟨JKv⟩
instance {i:Nat}:Sp (scB Q (.exit i) σ H) (Q (.exit i) σ H):=⟨JKw⟩
instance:Sp (scB Q .ret σ H) (Q .ret σ H):=⟨JKu⟩
instance {i:Nat}:Sp (inB i Q .normal σ H) (Q .normal σ H):=⟨JJA⟩
instance {i:Nat}:Sp (inB i Q .ret σ H) (Q .ret σ H):=⟨JJ8⟩
instance {i:Nat}:Sp (inB i Q (.exit i) σ H) (Q .normal σ H):=⟨JJB⟩
instance {p q:Prop} [h:Sp p q]:Sv p q:=⟨h.o⟩
instance {p q:Prop} [h:Sp p q]:Sx p q:=⟨h.o⟩
instance {p q:Prop} [h:Sp p q]:Sw p q:=⟨h.o⟩
instance {x y:Code}:Sv (Box (cpA E D (.seq x y) Q σ H)) (Box (cpA E D x (thenB (fun σ H=>Box (cpA E D y Q σ H)) Q) σ H)):=⟨J0r⟩
instance {x y:Code}:Sw (Box (cpA E D (.seq x y) Q σ H)) (Box (cpA E D x (thenB (fun σ H=>Box (cpA E D y Q σ H)) Q) σ H)):=⟨J0r⟩
instance:Sx (Box (cpA E D .ret Q σ H)) (Q .ret σ H):=⟨JFY⟩
instance:Sw (Box (cpA E D .ret Q σ H)) (Q .ret σ H):=⟨JFY⟩
theorem B0 {i j:Nat}(h:Q (.exit j) σ H)(e:Nat.beq j i=false:=by exact rfl):inB i Q (.exit j) σ H:=JJ9 e h
end
theorem LN:(∀ (a:Prop),(True∧a)=a)∧(∀ (a:Prop),(a∧True)=a)∧(∀ {α β:Type} (f:α→β) (l:List α),(l.map f).length=l.length)∧(∀ {α:Type} (l:List α) (i:Nat) (a:α),(l.set i a).length=l.length) ∧
  (∀ {α:Type} (n:Nat) (a:α),(List.replicate n a).length=n)∧(∀ {α:Type} (l r:List α),(l++r).length=l.length+r.length)∧(∀ {α:Type} (a:α) (l:List α),(a::l).length=l.length+1) ∧
  (∀ {α:Type},([]:List α).length=0)∧(∀ {α:Type} (n:Nat) (l:List α),(l.take n).length=min n l.length)∧(∀ {α:Type} (n:Nat) (l:List α),(l.drop n).length=l.length-n)∧(∀ n:Nat,(List.range n).length=n) ∧
  (∀ {α:Type} (l:List α),l.reverse.length=l.length)∧(∀ n:Nat,((n:Int)).toNat=n)∧(∀ {α:Type} (a b:α),(some a).getD b=a):=
 ⟨fun _=>true_and _,fun _=>and_true _,fun _ _=>List.length_map ..,fun _ _ _=>List.length_set ..,fun _ _=>List.length_replicate ..,fun _ _=>List.length_append ..,fun _ _=>List.length_cons ..,List.length_nil,fun _ _=>List.length_take ..,fun _ _=>List.length_drop ..,
  fun _=>List.length_range ..,fun _=>List.length_reverse ..,fun _=>Int.toNat_natCast _,fun _ _=>Option.getD_some⟩
theorem N0 {α:Type}{a:α}{n:Nat}{K:Prop}(k:K):Need (a=a∧0<n+1) K:=.intro ⟨rfl,Nat.zero_lt_succ _⟩ k
theorem N1 {p K:Prop}(k:K)(h:p:=by first|omega|(simp only[LN,J5U,J2Z,opd,ofV];omega)|(simp only[LN,J5U,J2Z,opd,ofV] at *;omega)|(refine ⟨rfl,?_⟩;simp only[LN,J5U,J2Z,opd,ofV];omega)):Need p K:=.intro h k
theorem A0 {f:Nat→Prop}(h:∀ γ,f γ):AllP f:=.intro h
theorem A1 {f:(Nat→Nat)→Prop}(h:∀ γs,f γs):AllG f:=.intro h
theorem N2 {ops:Array Oper}{a c:List (Oper×St)}{b:List Nat}{K:Prop}(k:K)(h:J2h ops a b c=true:=by kernel_rfl):Need (J2h ops a b c=true) K:=.intro h k
theorem N3 {ops:Array Oper}{ms:List Nat}{lo:Nat}{a c:List (Oper×St)}{K:Prop}(k:K)(h:chkS ops ms lo a c=true:=by kernel_rfl):Need (chkS ops ms lo a c=true) K:=.intro h k
section
variable {X Y:Prop}
theorem C1 (h:X):CondP true X Y:=.tt h
theorem C2 (h:Y):CondP false X Y:=.ff h
theorem C3 {b:Bool}(h:CondP b Y X):CondP (!b) X Y:=.not h
theorem C4 {p:Prop}[Decidable p](k:X)(h:p:=by with_reducible assumption):CondP (decide p) X Y:=.dec (fun _=>k) (fun q=>absurd h q)
theorem C5 {p:Prop}[Decidable p](k:Y)(h:¬ p:=by with_reducible assumption):CondP (decide p) X Y:=.dec (fun q=>absurd q h) (fun _=>k)
theorem C6 {b:Bool}(k:X)(h:b=true:=by with_reducible assumption):CondP b X Y:=.intro (fun _=>k) (fun q=>by rw[h] at q;cases q)
theorem C7 {b:Bool}(k:Y)(h:b=false:=by with_reducible assumption):CondP b X Y:=.intro (fun q=>by rw[h] at q;cases q) (fun _=>k)
theorem C8 {p:Prop}[Decidable p](k:X)(h:p:=by omega):CondP (decide p) X Y:=.dec (fun _=>k) (fun q=>absurd h q)
theorem C9 {p:Prop}[Decidable p](k:Y)(h:¬ p:=by omega):CondP (decide p) X Y:=.dec (fun q=>absurd q h) (fun _=>k)
end
theorem J2D {α:Type}(f:α→AV)(l:List α)(i:Nat)(h:i<l.length):(l.map f).getD i .dead=f l[i]:=by simp[h]
theorem JH8 (n:Nat)(x:AV)(i:Nat)(h:i<n):(List.replicate n x).getD i .dead=x:=by simp[List.getD_eq_getElem?_getD,List.getElem?_replicate,h]
theorem LG:(∀ {α:Type} (f:α→AV) (l:List α) (i:Nat) (h:i<l.length),(l.map f).getD i .dead=f l[i])∧(∀ (n:Nat) (x:AV) (i:Nat) (h:i<n),(List.replicate n x).getD i .dead=x)∧(∀ n:Nat,((n:Int)).toNat=n) ∧
 (∀ {α β:Type} (f:α→β) (l:List α),(l.map f).length=l.length)∧(∀ n:Nat,0+n=n):=⟨J2D,JH8,fun _=>Int.toNat_natCast _,fun _ _=>List.length_map ..,Nat.zero_add⟩
end Go.Fw
