/- Part 22 of the proof. -/
import Derived.Test.YtlblbldolhiokaaGreatDoorDual21
set_option linter.unusedVariables false
set_option linter.unusedSimpArgs false
set_option linter.unusedSectionVars false
set_option maxRecDepth 100000
set_option exponentiation.threshold 400
set_option maxHeartbeats 8000000
namespace Go.Fw
open Go.RowKit
def fr:List (Nat×AV)→Fr
 |[],_=>.dead
 |(y,v)::r,x=>if x=y then v else fr r x
def hp:List (Nat×Nat×Blk)→Hp
 |[],_=>none
 |(y,v)::r,x=>if x=y then some v else hp r x
def frOk (σ:Fr):List (Nat×AV)→Prop
 |[]=>True
 |(y,v)::r=>σ y=v∧frOk σ r
def hpOk (H:Hp):List (Nat×Nat×Blk)→Prop
 |[]=>True
 |(y,v)::r=>H y=some v∧hpOk H r
theorem frOk.le {σ:Fr}:∀ {l:List (Nat×AV)},frOk σ l→∀ x,fr l x=.dead∨fr l x=σ x
 |[],_,x=>.inl rfl
 |(y,v)::r,h,x=>by
   unfold fr;split
   ·rename_i e;subst e;exact .inr h.1.symm
   ·exact frOk.le h.2 x
theorem hpOk.sub {H:Hp}:∀ {l:List (Nat×Nat×Blk)},hpOk H l→Sub (hp l) H
 |[],_,x=>.inr rfl
 |(y,v)::r,h,x=>by
   unfold hp;split
   ·rename_i e;subst e;exact .inl h.1.symm
   ·exact hpOk.sub h.2 x
theorem W.of {σ:Fr}{H:Hp}{R:Fr→Hp→Prop}{l:List (Nat×AV)}{m:List (Nat×Nat×Blk)}(h:R (fr l) (hp m))(hσ:frOk σ l)(hH:hpOk H m):W σ H R:=by
 intro gh κ a w hr;obtain ⟨q1,q2⟩:=hr.hp.sub hH.sub;refine ⟨κ,_,_,h,q1,fun x=>?_,hr.size,hr.defers,fun x v hx=>q2 (hr.tr x v hx)⟩
 rcases hσ.le x with h'|h'
 ·rw[h'];exact .dead _
 ·rw[h'];exact q2 (hr.slots x)
theorem J9j {σ:Fr}{H:Hp}{R:Fr→Hp→Prop}(d b e n:Nat)(hd:σ d=.val (.slice none 0 0))(hb:H b=none)(h:∀ γ,W (upd σ d (.own b γ 0 0)) (setH H b (some (γ,⟨e,n,[]⟩))) R)(hn:0<n:=by decide):W σ H R:=by
 intro gh κ a w hr;obtain ⟨γ,hγ⟩:=J7p hr.hp
 obtain ⟨q1,q2⟩:=hr.hp.replace (d:=b) (γ:=γ) (K:=⟨none,n,0⟩) (B:=⟨e,n,[]⟩) (w':=w) (J0i hr.hp ..) (Agree.refl _ _) (fun _ _ _ _ _ _ _ _ _=>rfl) ⟨rfl,rfl,rfl⟩ (.inl (hγ b)) (fun c hc=>by cases hc)
  (fun _=>.inl ⟨hn,rfl,fun i h=>absurd h (by simp),.inl ⟨rfl,rfl⟩⟩)
 refine h γ gh _ a w ⟨q1,fun x=>?_,hr.size,hr.defers,fun x v hx=>q2 (hr.tr x v hx)⟩;unfold upd;split
 ·rename_i e;subst e;have:=hr.slots x;rw[hd] at this;generalize a.tmps.getD x undef=v at this
  cases this with
  |val _ _=>exact .ownnil b γ ⟨none,n,0⟩ (J09 ..) rfl
 ·exact q2 (hr.slots x)
theorem W.le {σ:Fr}{H:Hp}{R:Fr→Hp→Prop}(d n:Nat)(hd:σ d=.val (.slice none 0 0))(h:W (upd σ d (.sl n [])) H R):W σ H R:=by
 intro gh κ a w hr;refine h gh κ a w ⟨hr.hp,fun x=>?_,hr.size,hr.defers,hr.tr⟩;unfold upd;split
 ·rename_i e;subst e;have:=hr.slots x;rw[hd] at this;generalize a.tmps.getD x undef=v at this
  cases this with
  |val _ _=>exact .slnil n
 ·exact hr.slots x
def D0:Array Oper→(Fr→Hp→Prop)→Fr→Hp→Prop:=fun _ _ _ _=>False
end Go.Fw
