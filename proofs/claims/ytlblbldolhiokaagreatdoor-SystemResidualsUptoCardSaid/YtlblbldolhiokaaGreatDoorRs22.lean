/- Part 22 of a proof. -/
import Derived.Test.YtlblbldolhiokaaGreatDoorRs21
set_option linter.all false
set_option maxRecDepth 99999
set_option maxHeartbeats 0
namespace Go.Fw
open Go.RowKit
def fr:List (Nat×AV)→Fr
 |[],_=>.dead
 |(y,v)::r,x=>if x=y then v else fr r x
def hp:List (Nat×Nat×Blk)→Hp
 |[],_=>none
 |(y,v)::r,x=>if x=y then some v else hp r x
def frOk (σ:Fr):List (Nat×AV)→Prop
 |[]=>True
 |(y,v)::r=>σ y=v∧frOk σ r
def hpOk (H:Hp):List (Nat×Nat×Blk)→Prop
 |[]=>True
 |(y,v)::r=>H y=some v∧hpOk H r
theorem frOk.le {σ:Fr}:∀ {l:List (Nat×AV)},frOk σ l→∀ x,fr l x=.dead∨fr l x=σ x
 |[],_,x=>.inl rfl
 |(y,v)::r,h,x=>by
   unfold fr;split
   ·rename_i e;subst e;exact .inr h.1.symm
   exact frOk.le h.2 x
theorem hpOk.sub {H:Hp}:∀ {l:List (Nat×Nat×Blk)},hpOk H l→Sub (hp l) H
 |[],_,x=>.inr rfl
 |(y,v)::r,h,x=>by
   unfold hp;split
   ·rename_i e;subst e;exact .inl h.1.symm
   exact hpOk.sub h.2 x
def W.of {σ:Fr}{H:Hp}{R:Fr→Hp→Prop}{l:List (Nat×AV)}{m:List (Nat×Nat×Blk)}(h:R (fr l) (hp m))(hσ:frOk σ l)(hH:hpOk H m):W σ H R:=by
 intro gh κ a w hr;obtain ⟨q1,q2⟩:=hr.hp.sub hH.sub;refine ⟨κ,_,_,h,q1,fun x=>?_,hr.size,hr.defers,fun x v hx=>q2 (hr.tr x v hx)⟩
 rcases hσ.le x with h'|h'
 ·rw[h'];exact .dead _
 rw[h'];exact q2 (hr.slots x)
def J24 {σ:Fr}{H:Hp}{R:Fr→Hp→Prop}(d b e n:Nat)(hd:σ d=.val (.slice none 0 0))(hb:H b=none)(h:∀ γ,W (upd σ d (.own b γ 0 0)) (setH H b (some (γ,⟨e,n,[]⟩))) R)(hn:0<n:=by decide):W σ H R:=by
 intro gh κ a w hr;obtain ⟨γ,hγ⟩:=J6Z hr.hp
 obtain ⟨q1,q2⟩:=hr.hp.replace (d:=b) (γ:=γ) (K:=⟨none,n,0⟩) (B:=⟨e,n,[]⟩) (w':=w) (J0r hr.hp ..) (Agree.refl _ _) (fun _ _ _ _ _ _ _ _ _=>rfl) ⟨rfl,rfl,rfl⟩ (.inl (hγ b)) (fun c hc=>by cases hc)
  (fun _=>.inl ⟨hn,rfl,fun i h=>absurd h (by simp),.inl ⟨rfl,rfl⟩⟩)
 refine h γ gh _ a w ⟨q1,fun x=>?_,hr.size,hr.defers,fun x v hx=>q2 (hr.tr x v hx)⟩;unfold upd;split
 ·rename_i e;subst e;have:=hr.slots x;rw[hd] at this;generalize a.tmps.getD x undef=v at this
  cases this with
  |val _ _=>exact .ownnil b γ ⟨none,n,0⟩ (J0B ..) rfl
 exact q2 (hr.slots x)
def JJX {σ:Fr}{H:Hp}{R:Fr→Hp→Prop}(b g i k d e n:Nat)(B:Blk)(cs:List AV)(hb:H b=some (g,B))(hi:B.xs[i]?=some (.agg cs))(hk:cs[k]?=some (.val (.slice none 0 0)))(hd:H d=none)(hne:d≠b)
  (h:∀ γ,W σ (setH (setH H d (some (γ,⟨e,n,[]⟩))) b (some (g,{ B with xs:=B.xs.set i (.agg (cs.set k (.own d γ 0 0))) }))) R)(hn:0<n:=by decide)(hBn:0<B.n:=by exact Nat.zero_lt_succ _):W σ H R:=by
 intro gh κ a w hr;obtain ⟨γ,hγ⟩:=J6Z hr.hp
 obtain ⟨q1,q2⟩:=hr.hp.replace (d:=d) (γ:=γ) (K:=⟨none,n,0⟩) (B:=⟨e,n,[]⟩) (w':=w) (J0r hr.hp ..) (Agree.refl _ _) (fun _ _ _ _ _ _ _ _ _=>rfl) ⟨rfl,rfl,rfl⟩ (.inl (hγ d)) (fun c hc=>by cases hc)
  (fun _=>.inl ⟨hn,rfl,fun i h=>absurd h (by simp),.inl ⟨rfl,rfl⟩⟩)
 have hb':setH H d (some (γ,⟨e,n,[]⟩)) b=some (g,B):=by rw[J2C _ _ _ _ (Ne.symm hne)];exact hb
 obtain ⟨K,hK,hbr⟩:=q1.blk _ _ _ hb'
 obtain ⟨p1, p2⟩:=q1.replace (d:=b) (γ:=g) (K:=K) (B:={ B with xs:=B.xs.set i (.agg (cs.set k (.own d γ 0 0))) }) (w':=w) (J0r q1 ..) (Agree.refl _ _) (fun _ _ _ _ _ _ _ _ _=>rfl) ⟨rfl,rfl,rfl⟩ (.inr hK)
  (fun c hc => .inr ⟨g,B,K,hb',hK,hc⟩) (fun tr=>by
    obtain ⟨h1,h2,h3⟩:=hbr.rowsN hBn;have hil:i<B.xs.length:=(Q0I.1 hi).1;have hie:B.xs[i]=.agg cs:=(Q0I.1 hi).2;have hkl:k<cs.length:=(Q0I.1 hk).1;have hke:cs[k]=.val (.slice none 0 0):=(Q0I.1 hk).2;refine .inl ⟨hBn,h1,fun j hj=>?_,?_⟩
    ·have hj':j<B.xs.length:=by simpa using hj
     simp only[Q1n];split
     ·rename_i e';subst e';have:=h2 i hil;rw[hie] at this
      simpa using this
     exact h2 j hj'
    rcases h3 with ⟨h3,h4⟩|⟨c,A,f,k1,k2,k3,k4,k5,k6,k7,k8⟩
    ·rw[h4] at hil;simp at hil
    refine .inr ⟨c,A,f,k1,k2,k3,by simpa using k4,fun j hj=>k5 j (by simpa using hj),fun j l hj=>k6 j l (by simpa using hj),fun j hj l hl=>?_,k8⟩;have hj':j<B.xs.length:=by simpa using hj
    by_cases e':i=j
    ·subst e';have e2:(B.xs.set i (.agg (cs.set k (.own d γ 0 0))))[i]'hj=.agg (cs.set k (.own d γ 0 0)):=by simp
     simp only[e2] at hl ⊢;simp only[AV.cells_agg,Q0y] at hl;have old:=k7 i hil l (by rw[hie];exact hl);simp only[hie,AV.cells_agg] at old;simp only[AV.cells_agg,Q1n];split
     ·rename_i e3;subst e3;rw[hke] at old;generalize f i k=v at old
      cases old with
      |val _ _=>exact tr (.ownnil d γ ⟨none,n,0⟩ (J0B ..) rfl)
     exact tr old
    have e2:(B.xs.set i (.agg (cs.set k (.own d γ 0 0))))[j]'hj=B.xs[j]:=by simp[Q1n,e']
    simp only[e2] at hl ⊢
    exact tr (k7 j hj' l hl))
 refine h γ gh _ a w ⟨p1,fun x=>p2 (q2 (hr.slots x)),hr.size,hr.defers,fun x v hx=>p2 (q2 (hr.tr x v hx))⟩
def W.le {σ:Fr}{H:Hp}{R:Fr→Hp→Prop}(d n:Nat)(hd:σ d=.val (.slice none 0 0))(h:W (upd σ d (.sl n [])) H R):W σ H R:=by
 intro gh κ a w hr;refine h gh κ a w ⟨hr.hp,fun x=>?_,hr.size,hr.defers,hr.tr⟩;unfold upd;split
 ·rename_i e;subst e;have:=hr.slots x;rw[hd] at this;generalize a.tmps.getD x undef=v at this
  cases this with
  |val _ _=>exact .slnil n
 exact hr.slots x
def D0:Array Oper→(Fr→Hp→Prop)→Fr→Hp→Prop:=fun _ _ _ _=>False
end Go.Fw
