/- Part 36 of the proof: abstract values and their rules; walks of the functions; plain lemmas. -/
import Derived.Test.YtlhdoekgipaihaaGreatDoorMt35
set_option linter.unusedVariables false
set_option linter.unusedSimpArgs false
set_option linter.unusedSectionVars false
set_option maxRecDepth 100000
set_option exponentiation.threshold 400
namespace Go.Fw
open Go.RowKit
theorem W.frx {σ:Fr} {H:Hp} {R:Fr→Hp→Prop} (d b:Nat) {x y:AV} (hd:σ d=x) (e:snapC [b] H 3 x=y) (h:W (upd σ d y) (rem H [b]) R):W σ H R:=by
 intro gh κ a w hr
 have hs:Sub (rem H [b]) H:=fun x=>by
  unfold rem
  split
  ·exact .inr rfl
  ·exact .inl rfl
 obtain ⟨q1,q2⟩:=hr.hp.sub hs
 refine h gh κ a w ⟨q1,fun x=>?_,hr.size,hr.defers,fun x v hx=>q2 (hr.tr x v hx)⟩
 unfold upd
 split
 ·rename_i e'
  subst e'
  have:=snapC_ok hr.hp [b] 3 (hr.slots x)
  rw[hd] at this
  rw[e] at this
  exact this.lift
 ·exact q2 (hr.slots x)
theorem W.frb {σ:Fr} {H:Hp} {R:Fr→Hp→Prop} (S:List Nat) (b g:Nat) (B:Blk) (hb:H b=some (g,B)) (hS:b ∉ S)
  (h:W σ (setH (rem H S) b (some (g,{ B with xs:=B.xs.map (snapEl (snapC S H 3)) }))) R) (hBn:0<B.n:=by exact Nat.zero_lt_succ _):W σ H R:=by
 intro gh κ a w hr
 have hs:Sub (rem H S) H:=fun x=>by
  unfold rem
  split
  ·exact .inr rfl
  ·exact .inl rfl
 obtain ⟨q1,q2⟩:=hr.hp.sub hs
 have hb':rem H S b=some (g,B):=by unfold rem;rw[if_neg hS];exact hb
 obtain ⟨K,hK,hbr⟩:=q1.blk _ _ _ hb'
 obtain ⟨K',hK',hbr0⟩:=hr.hp.blk _ _ _ hb
 have hKK:K'=K:=by rw[hK] at hK';exact (Option.some.inj hK').symm
 subst hKK
 have hlen:∀ i (h:i<B.xs.length),(snapEl (snapC S H 3) B.xs[i]).cells=B.xs[i].cells.map (snapC S H 3):=fun i h=>snapEl_cells _ (fun x _=>snapC_one S H 3 x) _
 obtain ⟨p1,p2⟩:=q1.replace (d:=b) (γ:=g) (K:=K') (B:={ B with xs:=B.xs.map (snapEl (snapC S H 3)) }) (w':=w) (fresh_set q1 ..) (Agree.refl _ _) (fun _ _ _ _ _ _ _ _ _=>rfl) ⟨rfl,rfl,rfl⟩ (.inr hK)
  (fun c hc=>.inr ⟨g,B,K',hb',hK,hc⟩) (fun tr=>by
    obtain ⟨h1,h2,h3⟩:=hbr0.rowsN hBn
    refine .inl ⟨hBn,h1,fun j hj=>?_,?_⟩
    ·have hj':j<B.xs.length:=by simpa using hj
     simp only[List.getElem_map]
     rw[hlen j hj',List.length_map]
     exact h2 j hj'
    ·rcases h3 with ⟨h3,h4⟩ | ⟨c,A,f,k1,k2,k3,k4,k5,k6,k7,k8⟩
     ·exact .inl ⟨h3,by simp[h4]⟩
     ·refine .inr ⟨c,A,f,k1,k2,k3,by simpa using k4,fun j hj=>k5 j (by simpa using hj),fun j l hj=>k6 j l (by simpa using hj),fun j hj l hl=>?_,k8⟩
      have hj':j<B.xs.length:=by simpa using hj
      simp only[List.getElem_map] at hl ⊢
      have hl':l<B.xs[j].cells.length:=by rw[hlen j hj',List.length_map] at hl;exact hl
      have e2:(snapEl (snapC S H 3) B.xs[j]).cells[l]=snapC S H 3 (B.xs[j].cells[l]):=by simp[hlen j hj']
      rw[e2]
      exact tr (snapC_ok hr.hp S 3 (k7 j hj' l hl')).lift)
 exact h gh _ a w ⟨p1,fun x=>p2 (q2 (hr.slots x)),hr.size,hr.defers,fun x v hx=>p2 (q2 (hr.tr x v hx))⟩
end Go.Fw
