/- Part 7 of the proof. -/
import Derived.Test.YtlblbldolhiokaaGreatDoorDual6
import Derived.Maps.AppendAt
set_option linter.unusedVariables false
set_option linter.unusedSimpArgs false
set_option linter.unusedSectionVars false
set_option maxRecDepth 100000
set_option exponentiation.threshold 400
set_option maxHeartbeats 8000000
namespace Go.Fw
open Go.RowKit
def setH (H:Hp)(d:Nat)(v:Option (Nat×Blk)):Hp:=fun b=>if b=d then v else H b
theorem J2R (H:Hp)(d:Nat)(v:Option (Nat×Blk)):setH H d v d=v:=by simp[setH]
theorem J28 (H:Hp)(d x:Nat)(v:Option (Nat×Blk))(h:x≠d):setH H d v x=H x:=by simp[setH,h]
def KM.set (κ:KM)(d γ:Nat)(K:KI):KM:=fun b g=>if b=d∧g=γ then some K else κ b g
theorem J09 (κ:KM)(d γ:Nat)(K:KI):κ.set d γ K d γ=some K:=by simp[KM.set]
theorem JG2 {κ:KM}{d γ:Nat}{K:KI}(h:κ d γ=none):κ.le (κ.set d γ K):=by
 intro b g K' hk;unfold KM.set;split
 ·rename_i e;obtain ⟨rfl,rfl⟩:=e;rw[h] at hk;cases hk
 ·exact hk
section
variable {P:Program} {T:Nat→Option TD} {gh:Gh} {κ:KM} {H:Hp} {w:World}
theorem HRel.lt (hr:HRel gh κ H w){c:Nat}(h:Own κ H c):c<w.heap.size:=by
 obtain ⟨b,g,B,K,hb,hk,hc⟩:=h;obtain ⟨K',hk',hbr⟩:=hr.blk _ _ _ hb;rw[hk] at hk';cases hk'
 rcases hbr with ⟨_,_,_,h3⟩|⟨_,_,c',hc',ho⟩
 case inr=>rw[hc'] at hc;cases hc;exact ho.lt
 rcases h3 with ⟨h3,_⟩|⟨c',A,f,hc',hh,_⟩
 ·rw[h3] at hc;cases hc
 ·rw[hc'] at hc;cases hc;exact (Array.getElem?_eq_some_iff.1 hh).1
theorem HRel.keep (hr:HRel gh κ H w){w':World}(hag:Agree (Own κ H) w w'):Agree gh.M gh.w0 w':=by
 refine ⟨Nat.le_trans hr.kept.size hag.size,fun c hc hM=>?_⟩;have hlt:=Nat.lt_of_lt_of_le hc hr.kept.size;rw[hag.block c hlt ?_,hr.kept.block c hc hM];rintro ⟨b,g,B,K,hb,hk,hkc⟩
 rcases hr.mine _ _ _ _ _ hb hk hkc with h|h
 ·omega
 ·exact hM h
theorem Agree.toN {O:Nat→Prop}{w w':World}(h:Agree (Own κ H) w w'):Agree (Nset O κ H) w w':=h.mono fun c hc=>.inr hc
theorem HRel.replaceE (hr:HRel gh κ H w){d γ:Nat}{K:KI}{B:Blk}{w':World}(hγ:∃ G,∀ b g,G≤g→κ.set d γ K b g=none)(hag:Agree (Own κ H) w w')
  (hoth:∀ b g B' K' c,b≠d→H b=some (g,B')→κ b g=some K'→K'.c=some c→w'.heap[c]?=w.heap[c]?)
  (ho:w'.os=w.os∧w'.tape=w.tape∧w'.output=w.output)
  (hfr:κ d γ=none∨κ d γ=some K)
  (hnew:∀ c,K.c=some c→w.heap.size≤c∨∃ g B0 K0,H d=some (g,B0)∧κ d g=some K0∧K0.c=some c)
  (hblk:(∀ {x:AV} {v:Value},VR κ w (Nset gh.O κ H) x v→VR (κ.set d γ K) w' (Nset gh.O (κ.set d γ K) (setH H d (some (γ,B)))) x v) →
    (∀ {x:AV} {v:Value},VR KM.empty w (Nset gh.O κ H) x v→VR KM.empty w' (Nset gh.O (κ.set d γ K) (setH H d (some (γ,B)))) x v)→BlkRel (κ.set d γ K) w' (Nset gh.O (κ.set d γ K) (setH H d (some (γ,B)))) K B) :
  HRel gh (κ.set d γ K) (setH H d (some (γ,B))) w'∧(∀ {x:AV} {v:Value},VR κ w (Nset gh.O κ H) x v→VR (κ.set d γ K) w' (Nset gh.O (κ.set d γ K) (setH H d (some (γ,B)))) x v):=by
 have hle:κ.le (κ.set d γ K):=by
  rcases hfr with h|h
  ·exact JG2 h
  ·intro b g K' hk;unfold KM.set;split
   ·rename_i e;obtain ⟨rfl,rfl⟩:=e;rw[h] at hk;exact hk
   ·exact hk
 have hinv:∀ b g,b≠d→κ.set d γ K b g=κ b g:=fun b g hb=>by simp[KM.set,hb]
 have hN:∀ c,c<w.heap.size→Nset gh.O (κ.set d γ K) (setH H d (some (γ,B))) c→Nset gh.O κ H c:=by
  rintro c hc (h|⟨b,g,B',K',hb,hk,hkc⟩)
  ·exact .inl h
  ·right
   by_cases e:b=d
   ·subst e;rw[J2R] at hb;cases hb;rw[J09] at hk;cases hk
    rcases hnew c hkc with h|⟨g,B0,K0,h1,h2,h3⟩
    ·omega
    ·exact ⟨_,g,B0,K0,h1,h2,h3⟩
   ·rw[J28 _ _ _ _ e] at hb;rw[hinv _ _ e] at hk;exact ⟨b,g,B',K',hb,hk,hkc⟩
 have htr:∀ {x:AV} {v:Value},VR κ w (Nset gh.O κ H) x v→VR (κ.set d γ K) w' (Nset gh.O (κ.set d γ K) (setH H d (some (γ,B)))) x v:=fun h=>h.step hle hag.toN hN;refine ⟨⟨?_,?_,?_,hr.keep hag,ho.1.trans hr.os,ho.2.1.trans hr.tape,ho.2.2.trans hr.output,hγ,hr.apart⟩,htr⟩
 ·intro b g B' hb
  by_cases e:b=d
  ·subst e;rw[J2R] at hb;cases hb;exact ⟨K,J09 ..,hblk htr fun h=>h.step (KM.le.refl _) hag.toN hN⟩
  ·rw[J28 _ _ _ _ e] at hb;obtain ⟨K',hk',hbr⟩:=hr.blk _ _ _ hb;exact ⟨K',hle _ _ _ hk',hbr.step hle hag.toN hN fun c hc=>hoth b g B' K' c e hb hk' hc⟩
 ·intro b b' g g' B1 B2 K1 K2 c hb hb' hk hk' hc hc'
  by_cases e:b=d<;>by_cases e':b'=d
  ·rw[e,e']
  ·exfalso;subst e;rw[J2R] at hb;cases hb;rw[J09] at hk;cases hk;rw[J28 _ _ _ _ e'] at hb';rw[hinv _ _ e'] at hk'
   rcases hnew c hc with h|⟨g0,B0,K0,h1,h2,h3⟩
   ·have:=hr.lt ⟨b',g',B2,K2,hb',hk',hc'⟩;omega
   ·exact e' (hr.inj _ _ _ _ _ _ _ _ c hb' h1 hk' h2 hc' h3)
  ·exfalso;subst e';rw[J2R] at hb';cases hb';rw[J09] at hk';cases hk';rw[J28 _ _ _ _ e] at hb;rw[hinv _ _ e] at hk
   rcases hnew c hc' with h|⟨g0,B0,K0,h1,h2,h3⟩
   ·have:=hr.lt ⟨b,g,B1,K1,hb,hk,hc⟩;omega
   ·exact e (hr.inj _ _ _ _ _ _ _ _ c hb h1 hk h2 hc h3)
  ·rw[J28 _ _ _ _ e] at hb;rw[J28 _ _ _ _ e'] at hb';rw[hinv _ _ e] at hk;rw[hinv _ _ e'] at hk';exact hr.inj _ _ _ _ _ _ _ _ c hb hb' hk hk' hc hc'
 ·intro b g B' K' c hb hk hc
  by_cases e:b=d
  ·subst e;rw[J2R] at hb;cases hb;rw[J09] at hk;cases hk
   rcases hnew c hc with h|⟨g0,B0,K0,h1,h2,h3⟩
   ·exact .inl (Nat.le_trans hr.kept.size h)
   ·exact hr.mine _ _ _ _ _ h1 h2 h3
  ·rw[J28 _ _ _ _ e] at hb;rw[hinv _ _ e] at hk;exact hr.mine _ _ _ _ _ hb hk hc
theorem HRel.replace (hr:HRel gh κ H w){d γ:Nat}{K:KI}{B:Blk}{w':World}(hγ:∃ G,∀ b g,G≤g→κ.set d γ K b g=none)(hag:Agree (Own κ H) w w')
  (hoth:∀ b g B' K' c,b≠d→H b=some (g,B')→κ b g=some K'→K'.c=some c→w'.heap[c]?=w.heap[c]?)
  (ho:w'.os=w.os∧w'.tape=w.tape∧w'.output=w.output)
  (hfr:κ d γ=none∨κ d γ=some K)
  (hnew:∀ c,K.c=some c→w.heap.size≤c∨∃ g B0 K0,H d=some (g,B0)∧κ d g=some K0∧K0.c=some c)
  (hblk:(∀ {x:AV} {v:Value},VR κ w (Nset gh.O κ H) x v→VR (κ.set d γ K) w' (Nset gh.O (κ.set d γ K) (setH H d (some (γ,B)))) x v)→BlkRel (κ.set d γ K) w' (Nset gh.O (κ.set d γ K) (setH H d (some (γ,B)))) K B) :
  HRel gh (κ.set d γ K) (setH H d (some (γ,B))) w'∧(∀ {x:AV} {v:Value},VR κ w (Nset gh.O κ H) x v→VR (κ.set d γ K) w' (Nset gh.O (κ.set d γ K) (setH H d (some (γ,B)))) x v):=
 hr.replaceE hγ hag hoth ho hfr hnew fun htr _=>hblk htr
theorem J0i (hr:HRel gh κ H w)(d γ:Nat)(K:KI):∃ G,∀ b g,G≤g→κ.set d γ K b g=none:=by
 obtain ⟨G,hG⟩:=hr.fresh;refine ⟨max G (γ+1),fun b g hg=>?_⟩;have:¬ (b=d∧g=γ):=by omega
 simp only[KM.set,this,if_false];exact hG b g (by omega)
theorem J1d (N:Nat→Prop)(w:World)(o:Obj):Agree N w (w.alloc o):=⟨by simp,fun c hc _=>by rw[World.alloc];simp only[Array.getElem?_push];rw[if_neg (by omega)]⟩
theorem HRel.new (hr:HRel gh κ H w){d γ e n:Nat}(A:Array Value)(xs:List AV)(hγ:κ d γ=none)(hn0:0<n)(hn:∀ i (h:i<xs.length),xs[i].cells.length=n)(hs:xs.length*n≤A.size)
  (f:Nat→Nat→Value)(hf:∀ i (h:i<xs.length) j,j<n→A[i*n+j]?=some (f i j))(hp:∀ i j,i<xs.length→j<n→plainV (f i j)=true)
  (hv:∀ i (h:i<xs.length) j (h':j<xs[i].cells.length),VR κ w (Nset gh.O κ H) xs[i].cells[j] (f i j))(hso:e=solo→A.size=n) :
  HRel gh (κ.set d γ ⟨some w.heap.size,n,A.size⟩) (setH H d (some (γ,⟨e,n,xs⟩))) (w.alloc (.cells A e)) ∧
   (∀ {x:AV} {v:Value},VR κ w (Nset gh.O κ H) x v→VR (κ.set d γ ⟨some w.heap.size,n,A.size⟩) (w.alloc (.cells A e)) (Nset gh.O (κ.set d γ ⟨some w.heap.size,n,A.size⟩) (setH H d (some (γ,⟨e,n,xs⟩)))) x v):=by
 refine hr.replace (J0i hr ..) (J1d _ _ _) (fun b g B' K' c hb h1 h2 h3=>(J1d (fun _=>False) w _).block c (hr.lt ⟨b,g,B',K',h1,h2,h3⟩) (by simp)) ⟨rfl,rfl,rfl⟩ (.inl hγ) (fun c hc=>.inl (by cases hc;exact Nat.le_refl _)) fun htr=>?_;exact .inl ⟨hn0,rfl,hn,.inr ⟨w.heap.size,A,f,rfl,heap_alloc_new _ _,rfl,hs,hf,hp,fun i h j h'=>htr (hv i h j h'),hso⟩⟩
end
end Go.Fw
