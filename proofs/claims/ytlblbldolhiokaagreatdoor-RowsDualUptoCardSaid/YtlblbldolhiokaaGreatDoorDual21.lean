/- Part 21 of the proof. -/
import Derived.Test.YtlblbldolhiokaaGreatDoorDual20
set_option linter.unusedVariables false
set_option linter.unusedSimpArgs false
set_option linter.unusedSectionVars false
set_option maxRecDepth 100000
set_option exponentiation.threshold 400
set_option maxHeartbeats 8000000
namespace Go.Fw
open Go.RowKit
def Le (x y:AV):Prop:=∀ (w:World) (N:Nat→Prop) (v:Value),VR KM.empty w N x v→VR KM.empty w N y v
theorem Le.refl (x:AV):Le x x:=fun _ _ _ h=>h
theorem Le.nil (n:Nat):Le (.val (.slice none 0 0)) (.sl n []):=fun w N v h=>by cases h;exact .slnil n
theorem Le.agg {cs ds:List AV}(hl:cs.length=ds.length)(h:∀ i (h:i<cs.length) (h':i<ds.length),Le cs[i] ds[i]):Le (.agg cs) (.agg ds):=fun w N v hv=>by
 cases hv with
 |agg _ vs h1 h2 h3=>exact .agg ds vs (by omega) (fun i hi hi'=>h i (by omega) hi w N _ (h2 i (by omega) hi')) h3
theorem Le.tup {cs ds:List AV}(hl:cs.length=ds.length)(h:∀ i (h:i<cs.length) (h':i<ds.length),Le cs[i] ds[i]):Le (.tup cs) (.tup ds):=fun w N v hv=>by
 cases hv with
 |tup _ vs h1 h2=>exact .tup ds vs (by omega) (fun i hi hi'=>h i (by omega) hi w N _ (h2 i (by omega) hi'))
theorem Le.cons {x y:AV}{cs ds:List AV}(h:Le x y)(h':cs.length=ds.length∧∀ i (h:i<cs.length) (h':i<ds.length),Le cs[i] ds[i]) :
  (x::cs).length=(y::ds).length∧∀ i (h:i<(x::cs).length) (h':i<(y::ds).length),Le (x::cs)[i] (y::ds)[i]:=by
 refine ⟨by simp[h'.1],fun i hi hi'=>?_⟩
 cases i with
 |zero=>exact h
 |succ i=>exact h'.2 i (by simpa using hi) (by simpa using hi')
theorem J6H:([]:List AV).length=([]:List AV).length∧∀ i (h:i<([]:List AV).length) (h':i<([]:List AV).length),Le ([]:List AV)[i] ([]:List AV)[i]:=⟨rfl,fun i h=>absurd h (by simp)⟩
theorem Le.dead (x:AV):Le x .dead:=fun _ _ _ _=>.dead _
def J3R:List AV→AV
 |[x]=>x
 |l=>.tup l
def evRes (T:Nat→Option TD)(H:Hp)(σ:Fr):List ResultVar→(List AV→Prop)→Prop
 |[],C=>C []
 |.tmp t::r,C=>evRes T H σ r fun l=>C (σ t::l)
 |.cell a t::r,C=>evLoad T H t (σ a) fun v=>evRes T H σ r fun l=>C (v::l)
def J1c (args:List AV):Fr:=fun x=>match args[x]? with
 |some v=>v
 |none=>.tup []
def retQ (E:En)(fn:Func)(r:AV):Exit→Fr→Hp→Prop
 |.normal,σ,H|.ret,σ,H=>∃ S,evRes E.T H σ fn.results.toList fun l=>Le (J3R (l.map (snap S H))) r
 |_,_,_=>False
def Sub (H' H:Hp):Prop:=∀ b,H' b=H b∨H' b=none
def retH (E:En)(fn:Func)(Q:AV→Hp→Prop):Exit→Fr→Hp→Prop
 |.normal,σ,H|.ret,σ,H=>evRes E.T H σ fn.results.toList fun l=>∃ H',Sub H' H∧Q (J3R l) H'
 |_,_,_=>False
section
variable {E:En} {gh:Gh} {κ:KM} {σ:Fr} {H:Hp} {a:Act} {w:World}
def resF (tmps:Array Value):ResultVar→Sem Value
 |.tmp t=>pure (tmps.getD t undef)
 |.cell c t=>do loadVar t (← asAddr (tmps.getD c undef))
theorem JCk (fn:Func)(tmps:Array Value):results fn tmps=(do
  let vs ← fn.results.mapM (resF tmps)
  pure (if h:vs.size=1 then vs[0] else .tuple vs)):=by
 unfold results
 congr 2
theorem JIo (hT:TOk E.P E.T)(hr:Rel gh κ σ H a w):∀ (l:List ResultVar) (C:List AV→Prop),evRes E.T H σ l C →
  ∃ (xs:List AV) (vs:List Value),C xs∧xs.length=vs.length∧(∀ i (h:i<xs.length) (h':i<vs.length),VR κ w (Nset gh.O κ H) xs[i] vs[i])∧(l.mapM (resF a.tmps)).run E.P w=.ok vs w:=by
 intro l
 induction l with
 |nil=>intro C h;exact ⟨[],[],h,rfl,fun i h=>absurd h (by simp),by simp⟩
 |cons x l ih=>
   intro C h
   cases x with
   |tmp t=>
     obtain ⟨xs,vs,hC,hl,hv,hrun⟩:=ih _ h;refine ⟨σ t::xs,a.tmps.getD t undef::vs,hC,by simp[hl],fun i h h'=>?_,by simp only[List.mapM_cons,resF,Sem.run_bind,Sem.run_pure,Result.andThen_ok,hrun]⟩
     cases i with
     |zero=>exact hr.slots t
     |succ i=>exact hv i (by simpa using h) (by simpa using h')
   |cell c t=>
     obtain ⟨y,u,hC',hld,hy⟩:=J47 hT hr.hp (hr.slots c) h;obtain ⟨xs,vs,hC,hl,hv,hrun⟩:=ih _ hC'
     have hca:∃ ad,a.tmps.getD c undef=.pointer (some ad)∧(loadVar t ad).run E.P w=.ok u w:=by
      generalize a.tmps.getD c undef=p at hld;cases p<;>try (simp[Instr.loadAt,Instr.sureAddr,Sem.run_bind,stuck] at hld;done)
      rename_i ad
      cases ad with
      |none=>simp[Instr.loadAt,Instr.sureAddr,Sem.run_bind,stuck] at hld
      |some ad=>exact ⟨ad,rfl,by simpa [Instr.loadAt,Instr.sureAddr,Sem.run_bind] using hld⟩
     obtain ⟨ad,h1,h2⟩:=hca;refine ⟨y::xs,u::vs,hC,by simp[hl],fun i h h'=>?_,by simp only[List.mapM_cons,resF,Sem.run_bind,Sem.run_pure,Result.andThen_ok,h1,asAddr,h2,hrun]⟩
     cases i with
     |zero=>exact hy
     |succ i=>exact hv i (by simpa using h) (by simpa using h')
theorem J3B (hT:TOk E.P E.T)(hr:Rel gh κ σ H a w)(fn:Func)(C:List AV→Prop)(h:evRes E.T H σ fn.results.toList C) :
  ∃ xs v,C xs∧(results fn a.tmps).run E.P w=.ok v w∧∃ vs:List Value,xs.length=vs.length∧(∀ i (h:i<xs.length) (h':i<vs.length),VR κ w (Nset gh.O κ H) xs[i] vs[i])∧v=(if h:vs.length=1 then vs[0] else .tuple vs.toArray):=by
 obtain ⟨xs,vs,hC,hl,hv,hrun⟩:=JIo hT hr _ _ h;refine ⟨xs,_,hC,?_,vs,hl,hv,rfl⟩;rw[JCk,Array.mapM_eq_mapM_toList];simp only[Sem.run_bind,hrun,Result.andThen_ok,Sem.run_pure,map_eq_pure_bind]
 congr 1
theorem JAa {N:Nat→Prop}{xs:List AV}{vs:List Value}(hl:xs.length=vs.length)(hv:∀ i (h:i<xs.length) (h':i<vs.length),VR κ w N xs[i] vs[i]) :
  VR κ w N (J3R xs) (if h:vs.length=1 then vs[0] else .tuple vs.toArray):=by
 match xs,vs,hl,hv with
 |[],[],_,_=>exact .tup [] #[] rfl (fun i h=>absurd h (by simp))
 |[x],[v],_,hv=>exact hv 0 (by simp) (by simp)
 |x::y::xs,v::u::vs,hl,hv=>
   rw[dif_neg (by simp)];exact .tup _ _ (by simpa using hl) fun i h h'=>by simpa using hv i h (by simpa using h')
theorem HRel.sub (hr:HRel gh κ H w){H':Hp}(hs:Sub H' H):HRel gh κ H' w∧∀ {x:AV} {v:Value},VR κ w (Nset gh.O κ H) x v→VR κ w (Nset gh.O κ H') x v:=by
 have hsub:∀ b g B,H' b=some (g,B)→H b=some (g,B):=by
  intro b g B h
  rcases hs b with h'|h'
  ·rw[← h',h]
  ·rw[h'] at h;cases h
 have hN:∀ c,Nset gh.O κ H' c→Nset gh.O κ H c:=by
  rintro c (h|⟨b,g,B,K,hb,hk,hc⟩)
  ·exact .inl h
  ·exact .inr ⟨b,g,B,K,hsub _ _ _ hb,hk,hc⟩
 refine ⟨⟨fun b g B hb=>?_,fun b b' g g' B B' K K' c h1 h2=>hr.inj b b' g g' B B' K K' c (hsub _ _ _ h1) (hsub _ _ _ h2),fun b g B K c h1=>hr.mine b g B K c (hsub _ _ _ h1),hr.kept,hr.os,hr.tape,hr.output,hr.fresh,hr.apart⟩,fun h=>h.mono hN⟩;obtain ⟨K,hk,hb'⟩:=hr.blk _ _ _ (hsub _ _ _ hb);exact ⟨K,hk,hb'.step (KM.le.refl _) (Agree.refl _ _) (fun c _ h=>hN c h) fun c _=>rfl⟩
theorem HRel.nt {gh':Gh}(hr:HRel gh κ H w)(h0:gh'.w0=gh.w0)(h1:gh'.M=gh.M)(h2:gh'.O=gh.O):HRel gh' κ H w:=by
 obtain ⟨nt,w0,M,O,ref⟩:=gh;obtain ⟨nt',w0',M',O',ref'⟩:=gh';simp only at h0 h1 h2;subst h0 h1 h2;exact ⟨hr.blk,hr.inj,hr.mine,hr.kept,hr.os,hr.tape,hr.output,hr.fresh,hr.apart⟩
end
end Go.Fw
