/- Part 27 of the proof. -/
import Derived.Test.YtlblbldolhiokaaGreatDoorDual26
set_option linter.unusedVariables false
set_option linter.unusedSimpArgs false
set_option linter.unusedSectionVars false
set_option maxRecDepth 100000
set_option exponentiation.threshold 400
set_option maxHeartbeats 8000000
namespace Go.Fw
open Go.RowKit
structure Ends (x r:AV):Prop where
 mk' ::
 o:Le x r
theorem Ends.le {x r:AV}(h:Le x r):Ends x r:=⟨h⟩
theorem Ends.out {x r:AV}(h:Ends x r):Le x r:=h.o
theorem Ends.of {x r:AV}(h:x=r):Ends x r:=Ends.le (h ▸ Le.refl _)
structure EndH (x:AV) (H:Hp) (Q:AV→Hp→Prop):Prop where
 mk' ::
 o:∃ H',Sub H' H∧Q x H'
theorem EndH.intro {x:AV}{H H':Hp}{Q:AV→Hp→Prop}(h:Sub H' H)(k:Q x H'):EndH x H Q:=⟨⟨H',h,k⟩⟩
theorem EndH.out {x:AV}{H:Hp}{Q:AV→Hp→Prop}(h:EndH x H Q):∃ H',Sub H' H∧Q x H':=h.o
theorem EndH.of {x:AV}{H:Hp}{Q:AV→Hp→Prop}{m:List (Nat×Nat×Blk)}(h:hpOk H m)(k:Q x (hp m)):EndH x H Q:=EndH.intro h.sub k
def JAm (T:Nat→Option TD)(H:Hp)(σ:Fr)(g:AV→AV):List ResultVar→List AV→(List AV→Prop)→Prop
 |[],acc,C=>C acc.reverse
 |.tmp t::r,acc,C=>fv (g (σ t)) fun v=>JAm T H σ g r (v::acc) C
 |.cell a t::r,acc,C=>J77 T H t (σ a) fun v=>fv (g v) fun v=>JAm T H σ g r (v::acc) C
theorem evLoad.mono {T:Nat→Option TD}{H:Hp}{t:Nat}{p:AV}{C C':AV→Prop}(hC:∀ v,C v→C' v)(h:evLoad T H t p C):evLoad T H t p C':=by
 unfold evLoad at h ⊢;split at h
 ·obtain ⟨d,h1,h2,h3⟩:=h;exact ⟨d,h1,h2,hC _ h3⟩
 ·obtain ⟨d,h1,B,h2,h3,h4,h5⟩:=h;exact ⟨d,h1,B,h2,h3,h4,hC _ h5⟩
 ·exact h.elim
theorem evRes.mono {T:Nat→Option TD}{H:Hp}{σ:Fr}:∀ {l:List ResultVar} {C C':List AV→Prop} (hC:∀ v,C v→C' v) (h:evRes T H σ l C),evRes T H σ l C'
 |[],C,C',hC,h=>hC _ h
 |.tmp t::r,C,C',hC,h=>evRes.mono (l:=r) (fun v h=>hC _ h) h
 |.cell a t::r,C,C',hC,h=>evLoad.mono (fun v h=>evRes.mono (l:=r) (fun v h=>hC _ h) h) h
theorem J82 {P:Program}{T:Nat→Option TD}(hT:TOk P T){H:Hp}{σ:Fr}{g:AV→AV}:∀ {l:List ResultVar} {acc:List AV} {C:List AV→Prop},JAm T H σ g l acc C→evRes T H σ l fun m=>C (acc.reverse++m.map g)
 |[],acc,C,h=>by simpa [evRes,JAm] using h
 |.tmp t::r,acc,C,h=>by
   unfold JAm at h;rw[J5e] at h;show evRes T H σ r _
   exact (J82 hT h).mono fun m h=>by simpa using h
 |.cell a t::r,acc,C,h=>by
   unfold JAm at h;simp only[J5e] at h;exact (J3h hT h).mono fun v h=>(J82 hT h).mono fun m h=>by simpa using h
def J64 (T:Nat→Option TD)(S:List Nat)(H:Hp)(σ:Fr):List ResultVar→List AV→(List AV→Prop)→Prop
 |[],acc,C=>C acc.reverse
 |.tmp t::r,acc,C=>fv (σ t) fun v=>J76 S H v fun v=>J64 T S H σ r (v::acc) C
 |.cell a t::r,acc,C=>J77 T H t (σ a) fun v=>fv v fun v=>J76 S H v fun v=>J64 T S H σ r (v::acc) C
theorem J63 {P:Program}{T:Nat→Option TD}(hT:TOk P T){H:Hp}{σ:Fr}{S:List Nat}:∀ {l:List ResultVar} {acc:List AV} {C:List AV→Prop},J64 T S H σ l acc C→evRes T H σ l fun m=>C (acc.reverse++m.map (snap S H))
 |[],acc,C,h=>by simpa [evRes,J64] using h
 |.tmp t::r,acc,C,h=>by
   unfold J64 at h;rw[J5e] at h;show evRes T H σ r _
   exact (J63 hT (J3f h)).mono fun m h=>by simpa using h
 |.cell a t::r,acc,C,h=>by
   unfold J64 at h;simp only[J5e] at h;exact (J3h hT h).mono fun v h=>(J63 hT (J3f h)).mono fun m h=>by simpa using h
def retC (E:En)(fn:Func)(S:List Nat)(r:AV):Exit→Fr→Hp→Prop
 |.normal,σ,H|.ret,σ,H=>J64 E.T S H σ fn.results.toList [] fun l=>Ends (J3R l) r
 |_,_,_=>False
theorem JIq {E:En}(hT:TOk E.P E.T){fn:Func}{S:List Nat}{r:AV}{e:Exit}{σ:Fr}{H:Hp}(h:retC E fn S r e σ H):retQ E fn r e σ H:=by
 cases e<;>first
  |exact h.elim
  |exact ⟨S,(J63 hT h).mono fun m h=>by simpa using h.out⟩
def retD (E:En)(fn:Func)(Q:AV→Hp→Prop):Exit→Fr→Hp→Prop
 |.normal,σ,H|.ret,σ,H=>JAm E.T H σ id fn.results.toList [] fun l=>EndH (J3R l) H Q
 |_,_,_=>False
theorem JIp {E:En}(hT:TOk E.P E.T){fn:Func}{Q:AV→Hp→Prop}{e:Exit}{σ:Fr}{H:Hp}(h:retD E fn Q e σ H):retH E fn Q e σ H:=by
 cases e<;>first
  |exact h.elim
  |exact (J82 hT h).mono fun m h=>by simpa using h.out
section
variable {E:En} {gh:Gh} {κ:KM} {σ:Fr} {H:Hp} {a:Act} {w:World}
theorem JIs (hT:TOk E.P E.T){D:Array Oper→(Fr→Hp→Prop)→Fr→Hp→Prop}(hD:DOk E D){f:Nat}{fn:Func}{c:Code}{args:List AV}{r:AV}(S:List Nat)(hf:E.P.funcs[f]?=some fn)(hb:fn.body=some c)
  (hg:J0T fn.ntmps c=true)(hn:args.length≤fn.ntmps)(h:Box (cpA E D c (retC E fn S r) (J1c args) fun _=>none)):PureCall E.P f args r:=by
 intro O w vs hO hv;refine calls_of_wp hf hb ?_
 have hr : Rel { nt:=fn.ntmps,w0:=w,M:=fun _=>False,O:=O } KM.empty (J1c args) (fun _=>none) { tmps:=vs++Array.replicate (fn.ntmps-vs.size) undef,defers:=[] } w:=by
  refine ⟨⟨fun b g B h=>(by cases h),fun b b' g g' B B' K K' c h=>(by cases h),fun b g B K c h=>(by cases h),Agree.refl _ _,rfl,rfl,rfl,⟨0,fun _ _ _=>rfl⟩,fun c hc=>⟨hO c hc,fun h=>h⟩⟩,fun x=>?_,?_,rfl,fun x v h=>h.elim⟩
  ·have hmono:∀ {y:AV} {u:Value},VR KM.empty w O y u→VR KM.empty w (Nset O KM.empty fun _=>none) y u:=fun h=>h.mono (by
    rintro c (h|⟨b,g,B,K,hb,_⟩)
    ·exact h
    ·cases hb)
   show VR KM.empty w (Nset O KM.empty fun _=>none) (J1c args x) ((vs++Array.replicate (fn.ntmps-vs.size) undef).getD x undef)
   unfold J1c;have hs:=hv.1
   by_cases hx:x<args.length
   ·rw[List.getElem?_eq_getElem hx,Array.getD_eq_getD_getElem?,Array.getElem?_append_left (by omega),Array.getElem?_eq_getElem (by omega)];exact hmono (hv.2 x hx (by omega))
   ·rw[List.getElem?_eq_none (by omega),Array.getD_eq_getD_getElem?,Array.getElem?_append_right (by omega)]
    have:((Array.replicate (fn.ntmps-vs.size) undef)[x-vs.size]?).getD undef=undef:=by
     by_cases hlt:x-vs.size<fn.ntmps-vs.size
     ·simp[hlt]
     ·rw[Array.getElem?_eq_none (by simp;omega)];rfl
    rw[this];exact .tup [] #[] rfl (fun i h=>absurd h (by simp))
  ·have:=hv.1;simp;omega
 refine wp_mono (J9T hT hD c _ _ _ _ _ _ hg h.o hr) ?_;rintro e a' w' ⟨κ',σ',H',hq,hr'⟩;have hq:=JIq hT hq
 have fin:(∃ S,evRes E.T H' σ' fn.results.toList fun l=>Le (J3R (l.map (snap S H'))) r)→a'.defers=[]∧∃ v,(results fn a'.tmps).run E.P w'=.ok v w'∧∃ u,Ending.returned v=.returned u∧VR KM.empty w' O r u∧Below w.heap.size w w':=by
  rintro ⟨S,h⟩;obtain ⟨xs,v,hC,hrun,us,hl,hv',rfl⟩:=J3B hT hr' fn _ h;refine ⟨hr'.defers,_,hrun,_,rfl,?_,⟨hr'.hp.os,hr'.hp.tape,hr'.hp.output,hr'.hp.kept.size,fun k hk=>hr'.hp.kept.block k hk fun h=>h⟩⟩
  have:=JAa (κ:=KM.empty) (w:=w') (N:=Nset O κ' (rem H' S)) (xs:=xs.map (snap S H')) (vs:=us) (by simpa using hl) (fun i h h'=>by
   simp only[List.getElem_map]
   exact J1E hr'.hp S (hv' i (by simpa using h) h'))
  exact (hC _ _ _ this).mono fun c hc=>.inl hc
 cases e<;>first|exact fin hq|exact hq.elim
theorem J4n (hT:TOk E.P E.T){D:Array Oper→(Fr→Hp→Prop)→Fr→Hp→Prop}(hD:DOk E D){f:Nat}{fn:Func}{c:Code}{args:List AV}{Q:AV→Hp→Prop}(hf:E.P.funcs[f]?=some fn)(hb:fn.body=some c)
  (hg:J0T fn.ntmps c=true)(hn:args.length≤fn.ntmps)(h:Box (cpA E D c (retD E fn Q) (J1c args) H)):HCall E.P f args H Q:=by
 intro gh κ w vs hr hv;refine calls_of_wp hf hb ?_
 have hr : Rel { gh with nt:=fn.ntmps,ref:=fun x v=>VR κ w (Nset gh.O κ H) x v } κ (J1c args) H { tmps:=vs++Array.replicate (fn.ntmps-vs.size) undef,defers:=[] } w:=by
  refine ⟨hr.nt rfl rfl rfl,fun x=>?_,?_,rfl,fun x v h=>h⟩
  ·show VR κ w (Nset gh.O κ H) (J1c args x) ((vs++Array.replicate (fn.ntmps-vs.size) undef).getD x undef)
   unfold J1c;have hs:=hv.1
   by_cases hx:x<args.length
   ·rw[List.getElem?_eq_getElem hx,Array.getD_eq_getD_getElem?,Array.getElem?_append_left (by omega),Array.getElem?_eq_getElem (by omega)];exact hv.2 x hx (by omega)
   ·rw[List.getElem?_eq_none (by omega),Array.getD_eq_getD_getElem?,Array.getElem?_append_right (by omega)]
    have:((Array.replicate (fn.ntmps-vs.size) undef)[x-vs.size]?).getD undef=undef:=by
     by_cases hlt:x-vs.size<fn.ntmps-vs.size
     ·simp[hlt]
     ·rw[Array.getElem?_eq_none (by simp;omega)];rfl
    rw[this];exact .tup [] #[] rfl (fun i h=>absurd h (by simp))
  ·have:=hv.1;simp;omega
 refine wp_mono (J9T hT hD c _ _ _ _ _ _ hg h.o hr) ?_;rintro e a' w' ⟨κ',σ',H',hq,hr'⟩;have hq:=JIp hT hq
 have fin:(evRes E.T H' σ' fn.results.toList fun l=>∃ H'',Sub H'' H'∧Q (J3R l) H'')→a'.defers=[]∧∃ v,(results fn a'.tmps).run E.P w'=.ok v w'∧∃ u r H' κ',Ending.returned v=.returned u∧Q r H'∧HRel gh κ' H' w'∧VR κ' w' (Nset gh.O κ' H') r u ∧
   ∀ {x:AV} {u:Value},VR κ w (Nset gh.O κ H) x u→VR κ' w' (Nset gh.O κ' H') x u:=by
  intro h;obtain ⟨xs,v,⟨H'',hsub,hC⟩,hrun,us,hl,hv',rfl⟩:=J3B hT hr' fn _ h;obtain ⟨q1,q2⟩:=hr'.hp.sub hsub;exact ⟨hr'.defers,_,hrun,_,_,H'',κ',rfl,hC,q1.nt rfl rfl rfl,q2 (JAa hl hv'),fun h=>q2 (hr'.tr _ _ h)⟩
 cases e<;>first|exact fin hq|exact hq.elim
end
end Go.Fw
