/- Part 47 of the proof. -/
import Derived.Test.YtlblbldolhiokaaGreatDoorDual35
import Derived.SizedLaws
import Derived.ProofKit
set_option linter.unusedVariables false
set_option linter.unusedSimpArgs false
set_option linter.unusedSectionVars false
set_option maxRecDepth 100000
set_option exponentiation.threshold 400
set_option maxHeartbeats 8000000
namespace Go.Fw
open Go.RowKit
abbrev NoN:Nat→Prop:=fun _=>False
structure CelR (w:World) (xs:List AV) (cs:List Value):Prop where
 len:xs.length=cs.length
 rel:∀ i (h:i<xs.length) (h':i<cs.length),VR KM.empty w NoN xs[i] cs[i]
 pl:∀ v∈cs,plainV v=true
section
variable {H:Type} {enc:TypeId×Value→H} {P:Program} {w:World}
theorem CelR.one {x:AV}{v:Value}(h:VR KM.empty w NoN x v)(hp:plainV v=true):CelR w [x] [v]:=
 ⟨rfl,fun i h' _=>by
  have:i=0:=by simpa using h'
  subst this;exact h,fun u hu=>by
  have:u=v:=by simpa using hu
  subst this;exact hp⟩
theorem CelR.app {xs ys:List AV}{cs ds:List Value}(h1:CelR w xs cs)(h2:CelR w ys ds):CelR w (xs++ys) (cs++ds):=
 ⟨by simp[h1.len,h2.len],fun i h h'=>by
  by_cases q:i<xs.length
  ·rw[List.getElem_append_left q,List.getElem_append_left (by rw[← h1.len];exact q)];exact h1.rel i q _
  ·rw[List.getElem_append_right (by omega),List.getElem_append_right (by rw[← h1.len];omega)];simp only[← h1.len]
   exact h2.rel _ _ _,fun v hv=>by
  rcases List.mem_append.1 hv with hv|hv
  ·exact h1.pl v hv
  ·exact h2.pl v hv⟩
theorem JI7 {A:Type}{Q:Nat→A→Prop}:∀ (n:Nat),(∀ i,i<n→∃ a,Q i a)→∃ l:List A,l.length=n∧∀ i (h:i<l.length),Q i l[i]
 |0,_=>⟨[],rfl,fun i h=>absurd h (by simp)⟩
 |n + 1,h=>by
   obtain ⟨l,h1,h2⟩:=JI7 n fun i hi=>h i (by omega);obtain ⟨a,ha⟩:=h n (by omega);refine ⟨l++[a],by simp[h1],fun i hi=>?_⟩;simp only[List.length_append,List.length_cons,List.length_nil] at hi
   by_cases q:i<l.length
   ·rw[List.getElem_append_left q];exact h2 i q
   ·have:i=n:=by omega
    subst this;rw[List.getElem_append_right (by omega)]
    simpa [h1] using ha
theorem J9c {a:Addr}{v:Value}(h:w.cell? a=some v):a.spot=none∧∃ A e z,w.heap[a.block]?=some (.cells A e z)∧A[a.off]?=some v:=by
 unfold World.cell? at h;split at h
 ·rename_i c e z hb;split at h
  ·cases h
  ·rename_i hs;exact ⟨by simpa using hs,c,e,z,hb,h⟩
 ·cases h
theorem J0O {t:Nat}{d:TD}{fs:List (Nat×Nat)}(hd:tdOf P t=some d)(hk:d.kind=.struct fs):∃ g:Array Field,P.underlying t=some (.struct g)∧g.toList.map (fun f=>(f.offset,f.type))=fs:=by
 obtain ⟨u,hu,hr⟩:=(J0W hd).und;rw[hk] at hr;cases u<;>simp[kdOf] at hr
 exact ⟨_,hu,hr⟩
end
end Go.Fw
