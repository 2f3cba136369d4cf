/- Part 35 of a proof. -/
import Derived.Test.YtlblbldolhiokaaGreatDoorRs34
set_option linter.all false
set_option maxRecDepth 99999
set_option maxHeartbeats 0
namespace Go.Fw
open Go.RowKit
def JBZ (l:List (Nat×Nat))(y:Nat):Option Nat:=
 match l with
 |[]=>none
 |(b,z)::r=>match Nat.beq y z with
   |true=>some b
   |false=>JBZ r y
def fwd (K:Nat)(l:List (Nat×Nat))(b:Nat):Nat:=
 match look l b with
 |some y=>y
 |none=>b+K
def bwd (K:Nat)(l:List (Nat×Nat))(y:Nat):Option Nat:=
 match JBZ l y with
 |some b=>some b
 |none=>match Nat.ble K y with
   |true=>match look l (y-K) with
     |none=>some (y-K)
     |some _=>none
   |false=>none
def J4C (K:Nat):List (Nat×Nat)→Bool
 |[]=>true
 |(b,y)::r=>Nat.blt y K&&(look r b).isNone&&(JBZ r y).isNone&&J4C K r
def JCO {a b:Nat}(h:Nat.beq a b=false):a≠b:=fun e=>by subst e;rw[Q29] at h;cases h
theorem J3d {K:Nat}:∀ {l:List (Nat×Nat)},J4C K l=true→∀ b y,look l b=some y↔JBZ l y=some b
 |[],_,b,y=>by simp[look,JBZ]
 |(c,z)::r,h,b,y=>by
   unfold J4C at h;simp only[Q5,Option.isNone_iff_eq_none] at h;obtain ⟨⟨⟨h1,h2⟩,h3⟩,h4⟩:=h;have ih:=J3d h4;unfold look JBZ;cases e1:Nat.beq b c<;>cases e2:Nat.beq y z<;>simp only
   ·exact ih b y
   ·have:=Q7 e2;subst this;constructor
    ·intro h;rw[(ih b y).1 h] at h3;cases h3
    intro h;cases h;rw[Q29] at e1;cases e1
   ·have:=Q7 e1;subst this;constructor
    ·intro h;cases h;rw[Q29] at e2;cases e2
    intro h;rw[(ih b y).2 h] at h2;cases h2
   have:=Q7 e1;subst this;have:=Q7 e2;subst this;simp
theorem JI1 {K:Nat}:∀ {l:List (Nat×Nat)},J4C K l=true→∀ b y,look l b=some y→y<K
 |[],_,b,y,h=>by simp[look] at h
 |(c,z)::r,h,b,y,hl=>by
   unfold J4C at h;simp only[Q5] at h;unfold look at hl;split at hl
   ·cases hl;exact QJ h.1.1.1
   exact JI1 h.2 b y hl
def JO4 {K:Nat}{l:List (Nat×Nat)}(h:J4C K l=true)(y b:Nat):bwd K l y=some b↔fwd K l b=y:=by
 unfold bwd fwd;constructor
 ·intro hb;split at hb
  ·rename_i b' hl;cases hb;rw[(J3d h _ _).2 hl]
  split at hb
  ·rename_i hle;have:=QJ hle;split at hb
   ·rename_i hl;cases hb;rw[hl];simp only;omega
   cases hb
  cases hb
 intro hb;split at hb
 ·rename_i z hl;subst hb;rw[(J3d h _ _).1 hl]
 rename_i hl;subst hb
 have:JBZ l (b+K)=none:=by
  cases hr:JBZ l (b+K) with
  |none=>rfl
  |some c=>
    have:=JI1 h _ _ ((J3d h _ _).2 hr);omega
 rw[this];have e:Nat.ble K (b+K)=true:=Q3O (by omega);simp only[e,Q11,hl]
def HCall.mono {P:Program}{f:Nat}{args:List AV}{H:Hp}{Q Q':AV→Hp→Prop}(h:HCall P f args H Q)(k:∀ r h',Q r h'→∃ H'',Sub H'' h'∧Q' r H''):HCall P f args H Q':=by
 intro gh κ w vs hr hvs;refine (h gh κ w vs hr hvs).mono ?_;rintro e w' ⟨v,r,h',κ',rfl,hQ,hr',hv',htr⟩;obtain ⟨H'',hs,hQ'⟩:=k _ _ hQ;obtain ⟨q1,q2⟩:=hr'.sub hs;exact ⟨v,r,H'',κ',rfl,hQ',q1,q2 hv',fun h=>q2 (htr h)⟩
theorem JIH:∀ {m:List (Nat×Nat×Blk)} {X:Nat→Option (Nat×Blk)},hpOk X m→∀ b v,hp m b=some v→X b=some v
 |[],X,_,b,v,h=>by simp[hp] at h
 |(y,u)::r,X,hX,b,v,h=>by
   unfold hp at h;split at h
   ·rename_i e;cases h;rw[e];exact hX.1
   exact JIH hX.2 b v h
def CallP.frame {E:En}{f:Nat}{args args0:List AV}{H:Hp}{m0:List (Nat×Nat×Blk)}{Q0 C:AV→Hp→Prop}(K:Nat)(l:List (Nat×Nat))(hg:J4C K l=true)(hc:J05 E.P f)(h:HCall E.P f args0 (hp m0) Q0)
  (ha:args.map (mv (bwd K l) 3)=args0)(hh:hpOk (fun b=>(H (fwd K l b)).map (mvB (bwd K l))) m0)
  (k:∀ r0 h',Q0 r0 h'→∃ m',hpOk (back (fwd K l) (bwd K l) h' H) m'∧C (mv (fun b=>some (fwd K l b)) 3 r0) (hp m')):CallP E f args H C:=by
 refine CallP.own hc ?_;refine HCall.mono (Q:=fun r H'=>∃ m',hpOk H' m'∧C r (hp m')) ?_ fun r h' ⟨m',h1,h2⟩=>⟨_,h1.sub,h2⟩;exact HCall.frame (fwd K l) (bwd K l) (JO4 hg) h ha (JIH hh) fun r0 h' hq=>k r0 h' hq
def JKw {α:Type}(enc:α→AV)(f:Nat→Option Nat)(hf:∀ x,mv f 3 (enc x)=enc x)(g e n:Nat)(l:List α):mvB f (g,⟨e,n,l.map enc⟩)=(g,⟨e,n,l.map enc⟩):=by
 unfold mvB;simp only[Q0p]
 congr 2
 exact Qk fun x _=>hf x
def J0X {α:Type}(enc:α→AV)(f:Nat→Option Nat)(hf:∀ x,mv f 3 (enc x)=enc x)(g e n:Nat)(l:List α):some (mvB f (g,⟨e,n,l.map enc⟩))=some (g,⟨e,n,l.map enc⟩):=by rw[JKw enc f hf]
def JLo {σ:Fr}{H:Hp}{R:Fr→Hp→Prop}(d b:Nat){x y:AV}(hd:σ d=x)(e:J08 [b] H 3 x=y)(h:W (upd σ d y) (rem H [b]) R):W σ H R:=by
 intro gh κ a w hr
 have hs:Sub (rem H [b]) H:=fun x=>by
  unfold rem;split
  ·exact .inr rfl
  exact .inl rfl
 obtain ⟨q1,q2⟩:=hr.hp.sub hs;refine h gh κ a w ⟨q1,fun x=>?_,hr.size,hr.defers,fun x v hx=>q2 (hr.tr x v hx)⟩;unfold upd;split
 ·rename_i e';subst e';have:=J0Z hr.hp [b] 3 (hr.slots x);rw[hd] at this;rw[e] at this;exact this.lift
 exact q2 (hr.slots x)
end Go.Fw
