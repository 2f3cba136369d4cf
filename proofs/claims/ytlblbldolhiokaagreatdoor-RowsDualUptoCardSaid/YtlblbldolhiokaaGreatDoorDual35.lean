/- Part 35 of the proof. -/
import Derived.Test.YtlblbldolhiokaaGreatDoorDual34
set_option linter.unusedVariables false
set_option linter.unusedSimpArgs false
set_option linter.unusedSectionVars false
set_option maxRecDepth 100000
set_option exponentiation.threshold 400
set_option maxHeartbeats 8000000
namespace Go.Fw
open Go.RowKit
def J8p (l:List (Nat×Nat))(y:Nat):Option Nat:=
 match l with
 |[]=>none
 |(b,z)::r=>match Nat.beq y z with
   |true=>some b
   |false=>J8p r y
def fwd (K:Nat)(l:List (Nat×Nat))(b:Nat):Nat:=
 match look l b with
 |some y=>y
 |none=>b+K
def bwd (K:Nat)(l:List (Nat×Nat))(y:Nat):Option Nat:=
 match J8p l y with
 |some b=>some b
 |none=>match Nat.ble K y with
   |true=>match look l (y-K) with
     |none=>some (y-K)
     |some _=>none
   |false=>none
def J7s (K:Nat):List (Nat×Nat)→Bool
 |[]=>true
 |(b,y)::r=>Nat.blt y K&&(look r b).isNone&&(J8p r y).isNone&&J7s K r
theorem J9f {a b:Nat}(h:Nat.beq a b=false):a≠b:=fun e=>by subst e;rw[Nat.beq_refl] at h;cases h
theorem J2v {K:Nat}:∀ {l:List (Nat×Nat)},J7s K l=true→∀ b y,look l b=some y↔J8p l y=some b
 |[],_,b,y=>by simp[look,J8p]
 |(c,z)::r,h,b,y=>by
   unfold J7s at h;simp only[Bool.and_eq_true,Option.isNone_iff_eq_none] at h;obtain ⟨⟨⟨h1,h2⟩,h3⟩,h4⟩:=h;have ih:=J2v h4;unfold look J8p;cases e1:Nat.beq b c<;>cases e2:Nat.beq y z<;>simp only
   ·exact ih b y
   ·have:=Nat.eq_of_beq_eq_true e2;subst this;constructor
    ·intro h;rw[(ih b y).1 h] at h3;cases h3
    ·intro h;cases h;rw[Nat.beq_refl] at e1;cases e1
   ·have:=Nat.eq_of_beq_eq_true e1;subst this;constructor
    ·intro h;cases h;rw[Nat.beq_refl] at e2;cases e2
    ·intro h;rw[(ih b y).2 h] at h2;cases h2
   ·have:=Nat.eq_of_beq_eq_true e1;subst this;have:=Nat.eq_of_beq_eq_true e2;subst this;simp
theorem JEf {K:Nat}:∀ {l:List (Nat×Nat)},J7s K l=true→∀ b y,look l b=some y→y<K
 |[],_,b,y,h=>by simp[look] at h
 |(c,z)::r,h,b,y,hl=>by
   unfold J7s at h;simp only[Bool.and_eq_true] at h;unfold look at hl;split at hl
   ·cases hl;exact Nat.le_of_ble_eq_true h.1.1.1
   ·exact JEf h.2 b y hl
theorem JJb {K:Nat}{l:List (Nat×Nat)}(h:J7s K l=true)(y b:Nat):bwd K l y=some b↔fwd K l b=y:=by
 unfold bwd fwd;constructor
 ·intro hb;split at hb
  ·rename_i b' hl;cases hb;rw[(J2v h _ _).2 hl]
  ·split at hb
   ·rename_i hle;have:=Nat.le_of_ble_eq_true hle;split at hb
    ·rename_i hl;cases hb;rw[hl];simp only;omega
    ·cases hb
   ·cases hb
 ·intro hb;split at hb
  ·rename_i z hl;subst hb;rw[(J2v h _ _).1 hl]
  ·rename_i hl;subst hb
   have:J8p l (b+K)=none:=by
    cases hr:J8p l (b+K) with
    |none=>rfl
    |some c=>
      have:=JEf h _ _ ((J2v h _ _).2 hr);omega
   rw[this];have e:Nat.ble K (b+K)=true:=Nat.ble_eq_true_of_le (by omega);simp only[e,Nat.add_sub_cancel,hl]
theorem HCall.mono {P:Program}{f:Nat}{args:List AV}{H:Hp}{Q Q':AV→Hp→Prop}(h:HCall P f args H Q)(k:∀ r h',Q r h'→∃ H'',Sub H'' h'∧Q' r H''):HCall P f args H Q':=by
 intro gh κ w vs hr hvs;refine (h gh κ w vs hr hvs).mono ?_;rintro e w' ⟨v,r,h',κ',rfl,hQ,hr',hv',htr⟩;obtain ⟨H'',hs,hQ'⟩:=k _ _ hQ;obtain ⟨q1,q2⟩:=hr'.sub hs;exact ⟨v,r,H'',κ',rfl,hQ',q1,q2 hv',fun h=>q2 (htr h)⟩
theorem JEn:∀ {m:List (Nat×Nat×Blk)} {X:Nat→Option (Nat×Blk)},hpOk X m→∀ b v,hp m b=some v→X b=some v
 |[],X,_,b,v,h=>by simp[hp] at h
 |(y,u)::r,X,hX,b,v,h=>by
   unfold hp at h;split at h
   ·rename_i e;cases h;rw[e];exact hX.1
   ·exact JEn hX.2 b v h
theorem CallP.frame {E:En}{f:Nat}{args args0:List AV}{H:Hp}{m0:List (Nat×Nat×Blk)}{Q0 C:AV→Hp→Prop}(K:Nat)(l:List (Nat×Nat))(hg:J7s K l=true)(hc:J03 E.P f)(h:HCall E.P f args0 (hp m0) Q0)
  (ha:args.map (mv (bwd K l) 3)=args0)(hh:hpOk (fun b=>(H (fwd K l b)).map (mvB (bwd K l))) m0)
  (k:∀ r0 h',Q0 r0 h'→∃ m',hpOk (back (fwd K l) (bwd K l) h' H) m'∧C (mv (fun b=>some (fwd K l b)) 3 r0) (hp m')):CallP E f args H C:=by
 refine CallP.own hc ?_;refine HCall.mono (Q:=fun r H'=>∃ m',hpOk H' m'∧C r (hp m')) ?_ fun r h' ⟨m',h1,h2⟩=>⟨_,h1.sub,h2⟩;exact HCall.frame (fwd K l) (bwd K l) (JJb hg) h ha (JEn hh) fun r0 h' hq=>k r0 h' hq
theorem JGr {α:Type}(enc:α→AV)(f:Nat→Option Nat)(hf:∀ x,mv f 3 (enc x)=enc x)(g e n:Nat)(l:List α):mvB f (g,⟨e,n,l.map enc⟩)=(g,⟨e,n,l.map enc⟩):=by
 unfold mvB;simp only[List.map_map]
 congr 2
 exact List.map_congr_left fun x _=>hf x
theorem J1x {α:Type}(enc:α→AV)(f:Nat→Option Nat)(hf:∀ x,mv f 3 (enc x)=enc x)(g e n:Nat)(l:List α):some (mvB f (g,⟨e,n,l.map enc⟩))=some (g,⟨e,n,l.map enc⟩):=by rw[JGr enc f hf]
theorem JHh {σ:Fr}{H:Hp}{R:Fr→Hp→Prop}(d b:Nat){x y:AV}(hd:σ d=x)(e:J05 [b] H 3 x=y)(h:W (upd σ d y) (rem H [b]) R):W σ H R:=by
 intro gh κ a w hr
 have hs:Sub (rem H [b]) H:=fun x=>by
  unfold rem;split
  ·exact .inr rfl
  ·exact .inl rfl
 obtain ⟨q1,q2⟩:=hr.hp.sub hs;refine h gh κ a w ⟨q1,fun x=>?_,hr.size,hr.defers,fun x v hx=>q2 (hr.tr x v hx)⟩;unfold upd;split
 ·rename_i e';subst e';have:=J0J hr.hp [b] 3 (hr.slots x);rw[hd] at this;rw[e] at this;exact this.lift
 ·exact q2 (hr.slots x)
theorem JLF {σ:Fr}{H:Hp}{R:Fr→Hp→Prop}(S:List Nat)(b g:Nat)(B:Blk)(hb:H b=some (g,B))(hS:b ∉ S)
  (h:W σ (setH (rem H S) b (some (g,{ B with xs:=B.xs.map (J0N (J05 S H 3)) }))) R)(hBn:0<B.n:=by exact Nat.zero_lt_succ _):W σ H R:=by
 intro gh κ a w hr
 have hs:Sub (rem H S) H:=fun x=>by
  unfold rem;split
  ·exact .inr rfl
  ·exact .inl rfl
 obtain ⟨q1,q2⟩:=hr.hp.sub hs;have hb':rem H S b=some (g,B):=by unfold rem;rw[if_neg hS];exact hb
 obtain ⟨K,hK,hbr⟩:=q1.blk _ _ _ hb';obtain ⟨K',hK',hbr0⟩:=hr.hp.blk _ _ _ hb;have hKK:K'=K:=by rw[hK] at hK';exact (Option.some.inj hK').symm
 subst hKK;have hlen:∀ i (h:i<B.xs.length),(J0N (J05 S H 3) B.xs[i]).cells=B.xs[i].cells.map (J05 S H 3):=fun i h=>J4O _ (fun x _=>J8W S H 3 x) _
 obtain ⟨p1,p2⟩:=q1.replace (d:=b) (γ:=g) (K:=K') (B:={ B with xs:=B.xs.map (J0N (J05 S H 3)) }) (w':=w) (J0i q1 ..) (Agree.refl _ _) (fun _ _ _ _ _ _ _ _ _=>rfl) ⟨rfl,rfl,rfl⟩ (.inr hK)
  (fun c hc=>.inr ⟨g,B,K',hb',hK,hc⟩) (fun tr=>by
    obtain ⟨h1,h2,h3⟩:=hbr0.rowsN hBn;refine .inl ⟨hBn,h1,fun j hj=>?_,?_⟩
    ·have hj':j<B.xs.length:=by simpa using hj
     simp only[List.getElem_map];rw[hlen j hj',List.length_map];exact h2 j hj'
    ·rcases h3 with ⟨h3,h4⟩ | ⟨c,A,f,k1,k2,k3,k4,k5,k6,k7,k8⟩
     ·exact .inl ⟨h3,by simp[h4]⟩
     ·refine .inr ⟨c,A,f,k1,k2,k3,by simpa using k4,fun j hj=>k5 j (by simpa using hj),fun j l hj=>k6 j l (by simpa using hj),fun j hj l hl=>?_,k8⟩;have hj':j<B.xs.length:=by simpa using hj
      simp only[List.getElem_map] at hl ⊢;have hl':l<B.xs[j].cells.length:=by rw[hlen j hj',List.length_map] at hl;exact hl
      have e2:(J0N (J05 S H 3) B.xs[j]).cells[l]=J05 S H 3 (B.xs[j].cells[l]):=by simp[hlen j hj']
      rw[e2]
      exact tr (J0J hr.hp S 3 (k7 j hj' l hl')).lift)
 exact h gh _ a w ⟨p1,fun x=>p2 (q2 (hr.slots x)),hr.size,hr.defers,fun x v hx=>p2 (q2 (hr.tr x v hx))⟩
end Go.Fw
