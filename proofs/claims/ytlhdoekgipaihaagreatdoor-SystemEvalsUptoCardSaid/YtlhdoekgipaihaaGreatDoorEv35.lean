/- Part 35 of the proof. -/
import Derived.Test.YtlhdoekgipaihaaGreatDoorEv34
import Derived.KernelRfl
set_option linter.unusedVariables false
set_option linter.unusedSimpArgs false
set_option linter.unusedSectionVars false
set_option maxRecDepth 100000
set_option exponentiation.threshold 400
set_option maxHeartbeats 8000000
namespace Go.Fw
open Go.RowKit
def JAm (l:List (Nat×Nat))(y:Nat):Option Nat:=
 match l with
 |[]=>none
 |(b,z)::r=>match Nat.beq y z with
   |true=>some b
   |false=>JAm r y
def fwd (K:Nat)(l:List (Nat×Nat))(b:Nat):Nat:=
 match look l b with
 |some y=>y
 |none=>b+K
def bwd (K:Nat)(l:List (Nat×Nat))(y:Nat):Option Nat:=
 match JAm l y with
 |some b=>some b
 |none=>match Nat.ble K y with
   |true=>match look l (y-K) with
     |none=>some (y-K)
     |some _=>none
   |false=>none
def J3o (K:Nat):List (Nat×Nat)→Bool
 |[]=>true
 |(b,y)::r=>Nat.blt y K&&(look r b).isNone&&(JAm r y).isNone&&J3o K r
theorem JBY {a b:Nat}(h:Nat.beq a b=false):a≠b:=fun e=>by subst e;rw[Nat.beq_refl] at h;cases h
theorem J3J {K:Nat}:∀ {l:List (Nat×Nat)},J3o K l=true→∀ b y,look l b=some y↔JAm l y=some b
 |[],_,b,y=>by simp[look,JAm]
 |(c,z)::r,h,b,y=>by
   unfold J3o at h;simp only[Bool.and_eq_true,Option.isNone_iff_eq_none] at h;obtain ⟨⟨⟨h1,h2⟩,h3⟩,h4⟩:=h;have ih:=J3J h4;unfold look JAm;cases e1:Nat.beq b c<;>cases e2:Nat.beq y z<;>simp only
   ·exact ih b y
   ·have:=Nat.eq_of_beq_eq_true e2;subst this;constructor
    ·intro h;rw[(ih b y).1 h] at h3;cases h3
    ·intro h;cases h;rw[Nat.beq_refl] at e1;cases e1
   ·have:=Nat.eq_of_beq_eq_true e1;subst this;constructor
    ·intro h;cases h;rw[Nat.beq_refl] at e2;cases e2
    ·intro h;rw[(ih b y).2 h] at h2;cases h2
   ·have:=Nat.eq_of_beq_eq_true e1;subst this;have:=Nat.eq_of_beq_eq_true e2;subst this;simp
theorem JGh {K:Nat}:∀ {l:List (Nat×Nat)},J3o K l=true→∀ b y,look l b=some y→y<K
 |[],_,b,y,h=>by simp[look] at h
 |(c,z)::r,h,b,y,hl=>by
   unfold J3o at h;simp only[Bool.and_eq_true] at h;unfold look at hl;split at hl
   ·cases hl;exact Nat.le_of_ble_eq_true h.1.1.1
   ·exact JGh h.2 b y hl
theorem JMK {K:Nat}{l:List (Nat×Nat)}(h:J3o K l=true)(y b:Nat):bwd K l y=some b↔fwd K l b=y:=by
 unfold bwd fwd;constructor
 ·intro hb;split at hb
  ·rename_i b' hl;cases hb;rw[(J3J h _ _).2 hl]
  ·split at hb
   ·rename_i hle;have:=Nat.le_of_ble_eq_true hle;split at hb
    ·rename_i hl;cases hb;rw[hl];simp only;omega
    ·cases hb
   ·cases hb
 ·intro hb;split at hb
  ·rename_i z hl;subst hb;rw[(J3J h _ _).1 hl]
  ·rename_i hl;subst hb
   have:JAm l (b+K)=none:=by
    cases hr:JAm l (b+K) with
    |none=>rfl
    |some c=>
      have:=JGh h _ _ ((J3J h _ _).2 hr);omega
   rw[this];have e:Nat.ble K (b+K)=true:=Nat.ble_eq_true_of_le (by omega);simp only[e,Nat.add_sub_cancel,hl]
theorem HCall.mono {P:Program}{f:Nat}{args:List AV}{H:Hp}{Q Q':AV→Hp→Prop}(h:HCall P f args H Q)(k:∀ r h',Q r h'→∃ H'',Sub H'' h'∧Q' r H''):HCall P f args H Q':=by
 intro gh κ w vs hr hvs;refine (h gh κ w vs hr hvs).mono ?_;rintro e w' ⟨v,r,h',κ',rfl,hQ,hr',hv',htr⟩;obtain ⟨H'',hs,hQ'⟩:=k _ _ hQ;obtain ⟨q1,q2⟩:=hr'.sub hs;exact ⟨v,r,H'',κ',rfl,hQ',q1,q2 hv',fun h=>q2 (htr h)⟩
theorem JGs:∀ {m:List (Nat×Nat×Blk)} {X:Nat→Option (Nat×Blk)},hpOk X m→∀ b v,hp m b=some v→X b=some v
 |[],X,_,b,v,h=>by simp[hp] at h
 |(y,u)::r,X,hX,b,v,h=>by
   unfold hp at h;split at h
   ·rename_i e;cases h;rw[e];exact hX.1
   ·exact JGs hX.2 b v h
theorem CallP.frame {E:En}{f:Nat}{args args0:List AV}{H:Hp}{m0:List (Nat×Nat×Blk)}{Q0 C:AV→Hp→Prop}(K:Nat)(l:List (Nat×Nat))(hg:J3o K l=true)(hc:J06 E.P f)(h:HCall E.P f args0 (hp m0) Q0)
  (ha:args.map (mv (bwd K l) 3)=args0)(hh:hpOk (fun b=>(H (fwd K l b)).map (mvB (bwd K l))) m0)
  (k:∀ r0 h',Q0 r0 h'→∃ m',hpOk (back (fwd K l) (bwd K l) h' H) m'∧C (mv (fun b=>some (fwd K l b)) 3 r0) (hp m')):CallP E f args H C:=by
 refine CallP.own hc ?_;refine HCall.mono (Q:=fun r H'=>∃ m',hpOk H' m'∧C r (hp m')) ?_ fun r h' ⟨m',h1,h2⟩=>⟨_,h1.sub,h2⟩;exact HCall.frame (fwd K l) (bwd K l) (JMK hg) h ha (JGs hh) fun r0 h' hq=>k r0 h' hq
theorem JJH {α:Type}(enc:α→AV)(f:Nat→Option Nat)(hf:∀ x,mv f 3 (enc x)=enc x)(g e n:Nat)(l:List α):mvB f (g,⟨e,n,l.map enc⟩)=(g,⟨e,n,l.map enc⟩):=by
 unfold mvB;simp only[List.map_map]
 congr 2
 exact List.map_congr_left fun x _=>hf x
theorem J0S {α:Type}(enc:α→AV)(f:Nat→Option Nat)(hf:∀ x,mv f 3 (enc x)=enc x)(g e n:Nat)(l:List α):some (mvB f (g,⟨e,n,l.map enc⟩))=some (g,⟨e,n,l.map enc⟩):=by rw[JJH enc f hf]
theorem JKC {σ:Fr}{H:Hp}{R:Fr→Hp→Prop}(d b:Nat){x y:AV}(hd:σ d=x)(e:J09 [b] H 3 x=y)(h:W (upd σ d y) (rem H [b]) R):W σ H R:=by
 intro gh κ a w hr
 have hs:Sub (rem H [b]) H:=fun x=>by
  unfold rem;split
  ·exact .inr rfl
  ·exact .inl rfl
 obtain ⟨q1,q2⟩:=hr.hp.sub hs;refine h gh κ a w ⟨q1,fun x=>?_,hr.size,hr.defers,fun x v hx=>q2 (hr.tr x v hx)⟩;unfold upd;split
 ·rename_i e';subst e';have:=J0T hr.hp [b] 3 (hr.slots x);rw[hd] at this;rw[e] at this;exact this.lift
 ·exact q2 (hr.slots x)
class Sp (p:Prop) (q:outParam Prop):Prop where
 o:q→p
class Sv (p:Prop) (q:outParam Prop):Prop where
 o:q→p
class Sx (p:Prop) (q:outParam Prop):Prop where
 o:q→p
class Sw (p:Prop) (q:outParam Prop):Prop where
 o:q→p
section
variable {E:En} {D:Array Oper→(Fr→Hp→Prop)→Fr→Hp→Prop} {Q:Exit→Fr→Hp→Prop} {σ:Fr} {H:Hp}
instance:Sp (Box (cpA E D .skip Q σ H)) (Q .normal σ H):=⟨JJw⟩
instance {i:Nat} {ops:Array Oper}:Sp (Box (cpA E D (.region i ops false) Q σ H)) (J1i E ops ops.toList σ H (Q .normal)):=⟨JF9⟩
instance {i:Nat} {ops:Array Oper}:Sp (Box (cpA E D (.region i ops true) Q σ H)) (DrawP D ops (Q .normal) σ H):=⟨JK0⟩
instance {c:Operand} {x y:Code}:Sp (Box (cpA E D (.cond c x y) Q σ H)) (match opd σ c with|.val (.bool t)=>CondP t (Box (cpA E D x Q σ H)) (Box (cpA E D y Q σ H))|_=>False):=⟨JK1⟩
instance {i:Nat} {c:Code}:Sp (Box (cpA E D (.block i c) Q σ H)) (Box (cpA E D c (inB i Q) σ H)):=⟨JHg⟩
instance {c:Code}:Sp (Box (cpA E D (.loop c) Q σ H)) (LoopP (fun Q σ H=>Box (cpA E D c Q σ H)) Q σ H):=⟨JJy⟩
instance {i:Nat}:Sp (Box (cpA E D (.exit i) Q σ H)) (Q (.exit i) σ H):=⟨JJz⟩
instance {K:Fr→Hp→Prop}:Sp (thenB K Q .normal σ H) (K σ H):=⟨JLH⟩
instance {K:Fr→Hp→Prop} {i:Nat}:Sp (thenB K Q (.exit i) σ H) (Q (.exit i) σ H):=⟨JLI⟩
instance {K:Fr→Hp→Prop}:Sp (thenB K Q .ret σ H) (Q .ret σ H):=⟨JLG⟩
instance {c:Code}:Sp (Box (cpA E D (.scope c) Q σ H)) (Box (cpA E D c (scB Q) σ H)):=⟨JHd⟩
instance {l:Nat}:Sp (Box (cpA E D (.label l) Q σ H)) (Q .normal σ H):=⟨JHf⟩
instance:Sp (scB Q .normal σ H) (Q .normal σ H):=⟨JNm⟩
instance {i:Nat}:Sp (scB Q (.exit i) σ H) (Q (.exit i) σ H):=⟨JNn⟩
instance:Sp (scB Q .ret σ H) (Q .ret σ H):=⟨JNl⟩
instance {i:Nat}:Sp (inB i Q .normal σ H) (Q .normal σ H):=⟨JLq⟩
instance {i:Nat}:Sp (inB i Q .ret σ H) (Q .ret σ H):=⟨JLo⟩
instance {i:Nat}:Sp (inB i Q (.exit i) σ H) (Q .normal σ H):=⟨JLr⟩
instance {p q:Prop} [h:Sp p q]:Sv p q:=⟨h.o⟩
instance {p q:Prop} [h:Sp p q]:Sx p q:=⟨h.o⟩
instance {p q:Prop} [h:Sp p q]:Sw p q:=⟨h.o⟩
instance {x y:Code}:Sv (Box (cpA E D (.seq x y) Q σ H)) (Box (cpA E D x (thenB (fun σ H=>Box (cpA E D y Q σ H)) Q) σ H)):=⟨J3s⟩
instance {x y:Code}:Sw (Box (cpA E D (.seq x y) Q σ H)) (Box (cpA E D x (thenB (fun σ H=>Box (cpA E D y Q σ H)) Q) σ H)):=⟨J3s⟩
instance:Sx (Box (cpA E D .ret Q σ H)) (Q .ret σ H):=⟨JHe⟩
instance:Sw (Box (cpA E D .ret Q σ H)) (Q .ret σ H):=⟨JHe⟩
theorem B0 {i j:Nat}(h:Q (.exit j) σ H)(e:Nat.beq j i=false:=by exact rfl):inB i Q (.exit j) σ H:=JLp e h
end
theorem LN:(∀ (a:Prop),(True∧a)=a)∧(∀ (a:Prop),(a∧True)=a)∧(∀ {α β:Type} (f:α→β) (l:List α),(l.map f).length=l.length)∧(∀ {α:Type} (l:List α) (i:Nat) (a:α),(l.set i a).length=l.length) ∧
  (∀ {α:Type} (n:Nat) (a:α),(List.replicate n a).length=n)∧(∀ {α:Type} (l r:List α),(l++r).length=l.length+r.length)∧(∀ {α:Type} (a:α) (l:List α),(a::l).length=l.length+1) ∧
  (∀ {α:Type},([]:List α).length=0)∧(∀ {α:Type} (n:Nat) (l:List α),(l.take n).length=min n l.length)∧(∀ {α:Type} (n:Nat) (l:List α),(l.drop n).length=l.length-n)∧(∀ n:Nat,(List.range n).length=n) ∧
  (∀ {α:Type} (l:List α),l.reverse.length=l.length)∧(∀ n:Nat,((n:Int)).toNat=n)∧(∀ {α:Type} (a b:α),(some a).getD b=a):=
 ⟨fun _=>true_and _,fun _=>and_true _,fun _ _=>List.length_map ..,fun _ _ _=>List.length_set ..,fun _ _=>List.length_replicate ..,fun _ _=>List.length_append ..,fun _ _=>List.length_cons ..,List.length_nil,fun _ _=>List.length_take ..,fun _ _=>List.length_drop ..,
  fun _=>List.length_range ..,fun _=>List.length_reverse ..,fun _=>Int.toNat_natCast _,fun _ _=>Option.getD_some⟩
theorem N0 {α:Type}{a:α}{n:Nat}{K:Prop}(k:K):Need (a=a∧0<n+1) K:=.intro ⟨rfl,Nat.zero_lt_succ _⟩ k
theorem N1 {p K:Prop}(k:K)(h:p:=by first|omega|(simp only[LN,J6i,J2w,opd,ofV];omega)|(simp only[LN,J6i,J2w,opd,ofV] at *;omega)|(refine ⟨rfl,?_⟩;simp only[LN,J6i,J2w,opd,ofV];omega)):Need p K:=.intro h k
theorem A0 {f:Nat→Prop}(h:∀ γ,f γ):AllP f:=.intro h
theorem A1 {f:(Nat→Nat)→Prop}(h:∀ γs,f γs):AllG f:=.intro h
theorem N2 {ops:Array Oper}{a c:List (Oper×St)}{b:List Nat}{K:Prop}(k:K)(h:J34 ops a b c=true:=by kernel_rfl):Need (J34 ops a b c=true) K:=.intro h k
theorem N3 {ops:Array Oper}{ms:List Nat}{lo:Nat}{a c:List (Oper×St)}{K:Prop}(k:K)(h:chkS ops ms lo a c=true:=by kernel_rfl):Need (chkS ops ms lo a c=true) K:=.intro h k
section
variable {X Y:Prop}
theorem C1 (h:X):CondP true X Y:=.tt h
theorem C2 (h:Y):CondP false X Y:=.ff h
theorem C3 {b:Bool}(h:CondP b Y X):CondP (!b) X Y:=.not h
theorem C4 {p:Prop}[Decidable p](k:X)(h:p:=by with_reducible assumption):CondP (decide p) X Y:=.dec (fun _=>k) (fun q=>absurd h q)
theorem C5 {p:Prop}[Decidable p](k:Y)(h:¬ p:=by with_reducible assumption):CondP (decide p) X Y:=.dec (fun q=>absurd q h) (fun _=>k)
theorem C6 {b:Bool}(k:X)(h:b=true:=by with_reducible assumption):CondP b X Y:=.intro (fun _=>k) (fun q=>by rw[h] at q;cases q)
theorem C7 {b:Bool}(k:Y)(h:b=false:=by with_reducible assumption):CondP b X Y:=.intro (fun q=>by rw[h] at q;cases q) (fun _=>k)
theorem C8 {p:Prop}[Decidable p](k:X)(h:p:=by omega):CondP (decide p) X Y:=.dec (fun _=>k) (fun q=>absurd h q)
theorem C9 {p:Prop}[Decidable p](k:Y)(h:¬ p:=by omega):CondP (decide p) X Y:=.dec (fun q=>absurd q h) (fun _=>k)
end
theorem J0s {α:Type}(f:α→AV)(l:List α)(i:Nat)(h:i<l.length):(l.map f).getD i .dead=f l[i]:=by simp[h]
theorem JJc (n:Nat)(x:AV)(i:Nat)(h:i<n):(List.replicate n x).getD i .dead=x:=by simp[List.getD_eq_getElem?_getD,List.getElem?_replicate,h]
theorem LG:(∀ {α:Type} (f:α→AV) (l:List α) (i:Nat) (h:i<l.length),(l.map f).getD i .dead=f l[i])∧(∀ (n:Nat) (x:AV) (i:Nat) (h:i<n),(List.replicate n x).getD i .dead=x)∧(∀ n:Nat,((n:Int)).toNat=n) ∧
 (∀ {α β:Type} (f:α→β) (l:List α),(l.map f).length=l.length)∧(∀ n:Nat,0+n=n):=⟨J0s,JJc,fun _=>Int.toNat_natCast _,fun _ _=>List.length_map ..,Nat.zero_add⟩
end Go.Fw
namespace Go.Fw
structure Hid (q:Prop):Prop where
 o:q
theorem kW {p q:Prop}(k:q)(h:Hid q→p:=by intro κ;((conv=>whnf);repeat ((first|refine Sw.o ?_|refine B0 ?_);conv=>whnf));(repeat (first|revert κa|revert κb));exact κ.o):p:=h ⟨k⟩
theorem kV {p q:Prop}(k:q)(h:Hid q→p:=by intro κ;((conv=>whnf);repeat ((first|refine Sv.o ?_|refine B0 ?_);conv=>whnf));(repeat (first|revert κa|revert κb));exact κ.o):p:=h ⟨k⟩
theorem kX {p q:Prop}(k:q)(h:Hid q→p:=by intro κ;((conv=>whnf);repeat ((first|refine Sx.o ?_|refine B0 ?_);conv=>whnf));(repeat (first|revert κa|revert κb));exact κ.o):p:=h ⟨k⟩
theorem kS {p q:Prop}(k:q)(h:Hid q→p:=by intro κ;(repeat ((first|refine N0 ?_|refine A0 fun κa=>?_|refine C1 ?_|refine C2 ?_|refine C3 ?_|refine C4 ?_|refine C5 ?_|refine C6 ?_|refine C7 ?_|refine D0 fun κb=>?_|refine A1 fun κb=>?_|refine N2 ?_|refine N3 ?_|refine N1 ?_);((conv=>whnf);repeat ((first|refine Sw.o ?_|refine B0 ?_);conv=>whnf))));(repeat (first|revert κa|revert κb));exact κ.o):p:=h ⟨k⟩
theorem kT {p q:Prop}(k:q)(h:Hid q→p:=by intro κ;(repeat ((first|refine N0 ?_|refine A0 fun κa=>?_|refine C1 ?_|refine C2 ?_|refine C3 ?_|refine C4 ?_|refine C5 ?_|refine C6 ?_|refine C7 ?_|refine A1 fun κb=>?_|refine N2 ?_|refine N3 ?_|refine N1 ?_);((conv=>whnf);repeat ((first|refine Sw.o ?_|refine B0 ?_);conv=>whnf))));(repeat (first|revert κa|revert κb));exact κ.o):p:=h ⟨k⟩
theorem kR {p q:Prop}(k:q)(h:Hid q→p:=by intro κ;(repeat ((first|refine N0 ?_|refine A0 fun κa=>?_|refine C1 ?_|refine C2 ?_|refine C3 ?_|refine C4 ?_|refine C5 ?_|refine C6 ?_|refine C7 ?_|refine D0 fun κb=>?_|refine A1 fun κb=>?_|refine N2 ?_|refine N3 ?_|refine N1 ?_|simp (disch:=omega) only [LG]);((conv=>whnf);repeat ((first|refine Sw.o ?_|refine B0 ?_);conv=>whnf))));(repeat (first|revert κa|revert κb));exact κ.o):p:=h ⟨k⟩
theorem kZ {p q:Prop}(k:q)(h:Hid q→p:=by intro κ;(repeat ((first|refine N0 ?_|refine A0 fun κa=>?_|refine C1 ?_|refine C2 ?_|refine C3 ?_|refine C4 ?_|refine C5 ?_|refine C6 ?_|refine C7 ?_|refine D0 fun κb=>?_|refine A1 fun κb=>?_|refine N2 ?_|refine N3 ?_|refine N1 ?_|simp (disch:=omega) only [LG]);((conv=>whnf);repeat ((first|refine Sx.o ?_|refine B0 ?_);conv=>whnf))));(repeat (first|revert κa|revert κb));exact κ.o):p:=h ⟨k⟩
theorem kO {p q:Prop}(k:q)(h:Hid q→p:=by intro κ;(repeat ((first|refine N0 ?_|refine A0 fun κa=>?_|with_reducible refine C1 ?_|with_reducible refine C2 ?_|with_reducible refine C3 ?_|refine C8 ?_|refine C9 ?_|refine C6 ?_|refine C7 ?_|refine A1 fun κb=>?_|refine N2 ?_|refine N3 ?_|refine N1 ?_);((conv=>whnf);repeat ((first|refine Sw.o ?_|refine B0 ?_);conv=>whnf))));(repeat (first|revert κa|revert κb));exact κ.o):p:=h ⟨k⟩
theorem kQ {p q:Prop}(k:q)(h:Hid q→p:=by intro κ;(repeat ((first|refine N0 ?_|refine A0 fun κa=>?_|with_reducible refine C1 ?_|with_reducible refine C2 ?_|with_reducible refine C3 ?_|refine C8 ?_|refine C9 ?_|refine C6 ?_|refine C7 ?_|refine D0 fun κb=>?_|refine A1 fun κb=>?_|refine N2 ?_|refine N3 ?_|refine N1 ?_|simp (disch:=omega) only [LG]);((conv=>whnf);repeat ((first|refine Sw.o ?_|refine B0 ?_);conv=>whnf))));(repeat (first|revert κa|revert κb));exact κ.o):p:=h ⟨k⟩
theorem k1 {p q:Prop}(k:q)(h:Hid q→p:=by intro κ;((first|refine N0 ?_|refine A0 fun κa=>?_|refine C1 ?_|refine C2 ?_|refine C3 ?_|refine C4 ?_|refine C5 ?_|refine C6 ?_|refine C7 ?_|refine D0 fun κb=>?_|refine A1 fun κb=>?_|refine N2 ?_|refine N3 ?_|refine N1 ?_);((conv=>whnf);repeat ((first|refine Sw.o ?_|refine B0 ?_);conv=>whnf)));(repeat (first|revert κa|revert κb));exact κ.o):p:=h ⟨k⟩
theorem kWO {p q:Prop}(k:q)(h:Hid q→p:=by intro κ;((conv=>whnf);repeat ((first|refine Sw.o ?_|refine B0 ?_);conv=>whnf));(repeat ((first|refine N0 ?_|refine A0 fun κa=>?_|with_reducible refine C1 ?_|with_reducible refine C2 ?_|with_reducible refine C3 ?_|refine C8 ?_|refine C9 ?_|refine C6 ?_|refine C7 ?_|refine A1 fun κb=>?_|refine N2 ?_|refine N3 ?_|refine N1 ?_);((conv=>whnf);repeat ((first|refine Sw.o ?_|refine B0 ?_);conv=>whnf))));(repeat (first|revert κa|revert κb));exact κ.o):p:=h ⟨k⟩
theorem kWQ {p q:Prop}(k:q)(h:Hid q→p:=by intro κ;((conv=>whnf);repeat ((first|refine Sw.o ?_|refine B0 ?_);conv=>whnf));(repeat ((first|refine N0 ?_|refine A0 fun κa=>?_|with_reducible refine C1 ?_|with_reducible refine C2 ?_|with_reducible refine C3 ?_|refine C8 ?_|refine C9 ?_|refine C6 ?_|refine C7 ?_|refine D0 fun κb=>?_|refine A1 fun κb=>?_|refine N2 ?_|refine N3 ?_|refine N1 ?_|simp (disch:=omega) only [LG]);((conv=>whnf);repeat ((first|refine Sw.o ?_|refine B0 ?_);conv=>whnf))));(repeat (first|revert κa|revert κb));exact κ.o):p:=h ⟨k⟩
theorem kWR {p q:Prop}(k:q)(h:Hid q→p:=by intro κ;((conv=>whnf);repeat ((first|refine Sw.o ?_|refine B0 ?_);conv=>whnf));(repeat ((first|refine N0 ?_|refine A0 fun κa=>?_|refine C1 ?_|refine C2 ?_|refine C3 ?_|refine C4 ?_|refine C5 ?_|refine C6 ?_|refine C7 ?_|refine D0 fun κb=>?_|refine A1 fun κb=>?_|refine N2 ?_|refine N3 ?_|refine N1 ?_|simp (disch:=omega) only [LG]);((conv=>whnf);repeat ((first|refine Sw.o ?_|refine B0 ?_);conv=>whnf))));(repeat (first|revert κa|revert κb));exact κ.o):p:=h ⟨k⟩
theorem kWS {p q:Prop}(k:q)(h:Hid q→p:=by intro κ;((conv=>whnf);repeat ((first|refine Sw.o ?_|refine B0 ?_);conv=>whnf));(repeat ((first|refine N0 ?_|refine A0 fun κa=>?_|refine C1 ?_|refine C2 ?_|refine C3 ?_|refine C4 ?_|refine C5 ?_|refine C6 ?_|refine C7 ?_|refine D0 fun κb=>?_|refine A1 fun κb=>?_|refine N2 ?_|refine N3 ?_|refine N1 ?_);((conv=>whnf);repeat ((first|refine Sw.o ?_|refine B0 ?_);conv=>whnf))));(repeat (first|revert κa|revert κb));exact κ.o):p:=h ⟨k⟩
theorem kWT {p q:Prop}(k:q)(h:Hid q→p:=by intro κ;((conv=>whnf);repeat ((first|refine Sw.o ?_|refine B0 ?_);conv=>whnf));(repeat ((first|refine N0 ?_|refine A0 fun κa=>?_|refine C1 ?_|refine C2 ?_|refine C3 ?_|refine C4 ?_|refine C5 ?_|refine C6 ?_|refine C7 ?_|refine A1 fun κb=>?_|refine N2 ?_|refine N3 ?_|refine N1 ?_);((conv=>whnf);repeat ((first|refine Sw.o ?_|refine B0 ?_);conv=>whnf))));(repeat (first|revert κa|revert κb));exact κ.o):p:=h ⟨k⟩
theorem kWY {p q:Prop}(k:q)(h:Hid q→p:=by intro κ;((conv=>whnf);repeat ((first|refine Sw.o ?_|refine B0 ?_);conv=>whnf));(repeat ((first|refine N0 ?_|refine A0 fun κa=>?_|refine C1 ?_|refine C2 ?_|refine C3 ?_|refine C4 ?_|refine C5 ?_|refine C6 ?_|refine C7 ?_|refine A1 fun κb=>?_|refine N2 ?_|refine N3 ?_|refine N1 ?_|simp (disch:=omega) only [LG]);((conv=>whnf);repeat ((first|refine Sw.o ?_|refine B0 ?_);conv=>whnf))));(repeat (first|revert κa|revert κb));exact κ.o):p:=h ⟨k⟩
end Go.Fw
