/- Part 36 of a proof. -/
import Derived.Test.YtlblbldolhiokaaGreatDoorRs35
import Derived.KernelRfl
set_option linter.all false
set_option maxRecDepth 99999
set_option maxHeartbeats 0
namespace Go.Fw
open Go.RowKit
class Sp (p:Prop) (q:outParam Prop):Prop where
 o:q→p
class Sv (p:Prop) (q:outParam Prop):Prop where
 o:q→p
class Sx (p:Prop) (q:outParam Prop):Prop where
 o:q→p
class Sw (p:Prop) (q:outParam Prop):Prop where
 o:q→p
section
variable {E:En} {D:Array Oper→(Fr→Hp→Prop)→Fr→Hp→Prop} {Q:Exit→Fr→Hp→Prop} {σ:Fr} {H:Hp}
instance:Sp (Box (cpA E D .skip Q σ H)) (Q .normal σ H):=⟨JLa⟩
instance {i:Nat} {ops:Array Oper}:Sp (Box (cpA E D (.region i ops false) Q σ H)) (J1r E ops ops.toList σ H (Q .normal)):=⟨JGJ⟩
instance {i:Nat} {ops:Array Oper}:Sp (Box (cpA E D (.region i ops true) Q σ H)) (DrawP D ops (Q .normal) σ H):=⟨JLe⟩
instance {c:Operand} {x y:Code}:Sp (Box (cpA E D (.cond c x y) Q σ H)) (match opd σ c with|.val (.bool t)=>CondP t (Box (cpA E D x Q σ H)) (Box (cpA E D y Q σ H))|_=>False):=⟨JLf⟩
instance {i:Nat} {c:Code}:Sp (Box (cpA E D (.block i c) Q σ H)) (Box (cpA E D c (inB i Q) σ H)):=⟨JJ8⟩
instance {c:Code}:Sp (Box (cpA E D (.loop c) Q σ H)) (LoopP (fun Q σ H=>Box (cpA E D c Q σ H)) Q σ H):=⟨JLc⟩
instance {i:Nat}:Sp (Box (cpA E D (.exit i) Q σ H)) (Q (.exit i) σ H):=⟨JLd⟩
instance {K:Fr→Hp→Prop}:Sp (thenB K Q .normal σ H) (K σ H):=⟨JMy⟩
instance {K:Fr→Hp→Prop} {i:Nat}:Sp (thenB K Q (.exit i) σ H) (Q (.exit i) σ H):=⟨JMz⟩
instance {K:Fr→Hp→Prop}:Sp (thenB K Q .ret σ H) (Q .ret σ H):=⟨JMx⟩
instance {c:Code}:Sp (Box (cpA E D (.scope c) Q σ H)) (Box (cpA E D c (scB Q) σ H)):=⟨JJ5⟩
instance {l:Nat}:Sp (Box (cpA E D (.label l) Q σ H)) (Q .normal σ H):=⟨JJ7⟩
instance:Sp (scB Q .normal σ H) (Q .normal σ H):=⟨JPS⟩
instance {i:Nat}:Sp (scB Q (.exit i) σ H) (Q (.exit i) σ H):=⟨JPT⟩
instance:Sp (scB Q .ret σ H) (Q .ret σ H):=⟨JPR⟩
instance {i:Nat}:Sp (inB i Q .normal σ H) (Q .normal σ H):=⟨JNY⟩
instance {i:Nat}:Sp (inB i Q .ret σ H) (Q .ret σ H):=⟨JNW⟩
instance {i:Nat}:Sp (inB i Q (.exit i) σ H) (Q .normal σ H):=⟨JNZ⟩
instance {p q:Prop} [h:Sp p q]:Sv p q:=⟨h.o⟩
instance {p q:Prop} [h:Sp p q]:Sx p q:=⟨h.o⟩
instance {p q:Prop} [h:Sp p q]:Sw p q:=⟨h.o⟩
instance {x y:Code}:Sv (Box (cpA E D (.seq x y) Q σ H)) (Box (cpA E D x (thenB (fun σ H=>Box (cpA E D y Q σ H)) Q) σ H)):=⟨J4G⟩
instance {x y:Code}:Sw (Box (cpA E D (.seq x y) Q σ H)) (Box (cpA E D x (thenB (fun σ H=>Box (cpA E D y Q σ H)) Q) σ H)):=⟨J4G⟩
instance:Sx (Box (cpA E D .ret Q σ H)) (Q .ret σ H):=⟨JJ6⟩
instance:Sw (Box (cpA E D .ret Q σ H)) (Q .ret σ H):=⟨JJ6⟩
def B0 {i j:Nat}(h:Q (.exit j) σ H)(e:Nat.beq j i=false:=by exact rfl):inB i Q (.exit j) σ H:=JNX e h
end
def LN:(∀ (a:Prop),(True∧a)=a)∧(∀ (a:Prop),(a∧True)=a)∧(∀ {α β:Type} (f:α→β) (l:List α),(l.map f).length=l.length)∧(∀ {α:Type} (l:List α) (i:Nat) (a:α),(l.set i a).length=l.length) ∧
  (∀ {α:Type} (n:Nat) (a:α),(List.replicate n a).length=n)∧(∀ {α:Type} (l r:List α),(l++r).length=l.length+r.length)∧(∀ {α:Type} (a:α) (l:List α),(a::l).length=l.length+1) ∧
  (∀ {α:Type},([]:List α).length=0)∧(∀ {α:Type} (n:Nat) (l:List α),(l.take n).length=min n l.length)∧(∀ {α:Type} (n:Nat) (l:List α),(l.drop n).length=l.length-n)∧(∀ n:Nat,(List.range n).length=n) ∧
  (∀ {α:Type} (l:List α),l.reverse.length=l.length)∧(∀ n:Nat,((n:Int)).toNat=n)∧(∀ {α:Type} (a b:α),(some a).getD b=a):=
 ⟨fun _=>true_and _,fun _=>and_true _,fun _ _=>Q3 ..,fun _ _ _=>Q0y ..,fun _ _=>Q1H ..,fun _ _=>QQ ..,fun _ _=>QT ..,Q0R,fun _ _=>Qb ..,fun _ _=>Q0N ..,
  fun _=>List.length_range ..,fun _=>Q2D ..,fun _=>QV _,fun _ _=>Q28⟩
def N0 {α:Type}{a:α}{n:Nat}{K:Prop}(k:K):Need (a=a∧0<n+1) K:=.intro ⟨rfl,Nat.zero_lt_succ _⟩ k
def N1 {p K:Prop}(k:K)(h:p:=by first|omega|(simp only[LN,J7O,J3F,opd,ofV];omega)|(simp only[LN,J7O,J3F,opd,ofV] at *;omega)|(refine ⟨rfl,?_⟩;simp only[LN,J7O,J3F,opd,ofV];omega)):Need p K:=.intro h k
def A0 {f:Nat→Prop}(h:∀ γ,f γ):AllP f:=.intro h
def A1 {f:(Nat→Nat)→Prop}(h:∀ γs,f γs):AllG f:=.intro h
def N2 {ops:Array Oper}{a c:List (Oper×St)}{b:List Nat}{K:Prop}(k:K)(h:J3O ops a b c=true:=by kernel_rfl):Need (J3O ops a b c=true) K:=.intro h k
def N3 {ops:Array Oper}{ms:List Nat}{lo:Nat}{a c:List (Oper×St)}{K:Prop}(k:K)(h:chkS ops ms lo a c=true:=by kernel_rfl):Need (chkS ops ms lo a c=true) K:=.intro h k
section
variable {X Y:Prop}
def C1 (h:X):CondP true X Y:=.tt h
def C2 (h:Y):CondP false X Y:=.ff h
def C3 {b:Bool}(h:CondP b Y X):CondP (!b) X Y:=.not h
def C4 {p:Prop}[Decidable p](k:X)(h:p:=by with_reducible assumption):CondP (decide p) X Y:=.dec (fun _=>k) (fun q=>absurd h q)
def C5 {p:Prop}[Decidable p](k:Y)(h:¬ p:=by with_reducible assumption):CondP (decide p) X Y:=.dec (fun q=>absurd q h) (fun _=>k)
def C6 {b:Bool}(k:X)(h:b=true:=by with_reducible assumption):CondP b X Y:=.intro (fun _=>k) (fun q=>by rw[h] at q;cases q)
def C7 {b:Bool}(k:Y)(h:b=false:=by with_reducible assumption):CondP b X Y:=.intro (fun q=>by rw[h] at q;cases q) (fun _=>k)
def C8 {p:Prop}[Decidable p](k:X)(h:p:=by omega):CondP (decide p) X Y:=.dec (fun _=>k) (fun q=>absurd h q)
def C9 {p:Prop}[Decidable p](k:Y)(h:¬ p:=by omega):CondP (decide p) X Y:=.dec (fun q=>absurd q h) (fun _=>k)
end
def J0w {α:Type}(f:α→AV)(l:List α)(i:Nat)(h:i<l.length):(l.map f).getD i .dead=f l[i]:=by simp[h]
def JLH (n:Nat)(x:AV)(i:Nat)(h:i<n):(List.replicate n x).getD i .dead=x:=by simp[Q4,Q2M,h]
def LG:(∀ {α:Type} (f:α→AV) (l:List α) (i:Nat) (h:i<l.length),(l.map f).getD i .dead=f l[i])∧(∀ (n:Nat) (x:AV) (i:Nat) (h:i<n),(List.replicate n x).getD i .dead=x)∧(∀ n:Nat,((n:Int)).toNat=n) ∧
 (∀ {α β:Type} (f:α→β) (l:List α),(l.map f).length=l.length)∧(∀ n:Nat,0+n=n):=⟨J0w,JLH,fun _=>QV _,fun _ _=>Q3 ..,Qq⟩
end Go.Fw
