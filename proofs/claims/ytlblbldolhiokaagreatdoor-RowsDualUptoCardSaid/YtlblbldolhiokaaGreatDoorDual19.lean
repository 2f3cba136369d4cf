/- Part 19 of the proof. -/
import Derived.Test.YtlblbldolhiokaaGreatDoorDual18
set_option linter.unusedVariables false
set_option linter.unusedSimpArgs false
set_option linter.unusedSectionVars false
set_option maxRecDepth 100000
set_option exponentiation.threshold 400
set_option maxHeartbeats 8000000
namespace Go.Fw
open Go.RowKit
structure En where
 P:Program
 T:Nat→Option TD
 base:Nat
def J03 (P:Program)(n:Nat):Prop:=∃ fn,P.funcs[n]?=some fn∧(fn.name == "runtime.NumGoroutine")=false∧fn.body.isSome=true
def J2k (P:Program)(f:Nat)(args:List AV)(r:Value):Prop:=
 plainV r=true∧∀ (κ:KM) (w:World) (N:Nat→Prop) (vs:Array Value),VRs κ w N args vs→(callFunc f vs).run P w=.ok (.value r) w
def J3Z (E:En)(ρ:Operand→AV)(H:Hp)(c:Call)(d:Option Nat)(C:AV→Hp→Prop):Prop:=
 match c.callee with
 |.builtin .len=>match c.args.toList,c.argTypes.toList with
   |[x],[t]=>evLen E.T t (ρ x) fun v=>C v H
   |_,_=>False
 |.builtin .append=>match c.args.toList,c.argTypes.toList,d with
   |[x,y],[t,t'],some d=>t=t'∧∀ γ,evAppend E.T H t (E.base+d) γ (ρ x) (ρ y) fun v up=>C v (app H up)
   |_,_,_=>False
 |.builtin .max=>evMM true (c.args.toList.map ρ) fun v=>C v H
 |.builtin .min=>evMM false (c.args.toList.map ρ) fun v=>C v H
 |.builtin .clear=>match c.args.toList,c.argTypes.toList with
   |[x],[t]=>J3H E.T H t (ρ x) fun v up=>C v (app H up)
   |_,_=>False
 |.builtin .copy=>match c.args.toList,c.argTypes.toList with
   |[x,y],[t,t']=>evCopy E.T H t (ρ x) (ρ y) fun v up=>C v (app H up)
   |_,_=>False
 |.value f=>match ρ f with
   |.fn (.func n) first cap=>(J03 E.P n∧JBw E.P n (first++c.args.toList.map ρ++cap) H C)∨∃ r,J2k E.P n (first++c.args.toList.map ρ++cap) r∧C (.val r) H
   |_=>False
 |_=>False
def evOp (E:En)(ρ:Operand→AV)(H:Hp)(o:Oper)(C:AV→Hp→Prop):Prop:=
 match o.op with
 |.move x=>C (ρ x) H
 |.assign x=>C (ρ x) H
 |.pick c a b=>match ρ c with
   |.val (.bool t)=>C (if t then ρ a else ρ b) H
   |_=>False
 |.load t x=>evLoad E.T H t (ρ x) fun v=>C v H
 |.fieldAddr s x f=>evFieldAddr E.T s (ρ x) f fun v=>C v H
 |.field s x f=>evField E.T s (ρ x) f fun v=>C v H
 |.indexAddr t x i=>evIndexAddr E.T H t (ρ x) (ρ i) fun v=>C v H
 |.index t x i=>evIndex E.T t (ρ x) (ρ i) fun v=>C v H
 |.extract x i=>evExtract (ρ x) i fun v=>C v H
 |.slice t x lo hi mx=>evSliceA E.P E.T H t (ρ x) (lo.map ρ) (hi.map ρ) (mx.map ρ) fun v=>C v H
 |.binOp op t x y _=>J3a E.P E.T op t (ρ x) (ρ y) fun v=>C v H
 |.unOp op _ x=>evUn op (ρ x) fun v=>C v H
 |.convert s d x=>evConv E.T s d (ρ x) fun v=>C v H
 |.makeFunc f first cap=>C (.fn f (first.toList.map ρ) (cap.toList.map ρ)) H
 |.nilCheck x=>match ρ x with
   |.ep y k=>C (.ep y k) H
   |.op b g i k=>C (.op b g i k) H
   |.fn (.func f) a c=>C (.fn (.func f) a c) H
   |_=>False
 |.build t parts=>evBuild E.T t (parts.toList.map fun p=>(p.1,ρ p.2)) fun v=>C v H
 |.box t x=>match o.dst with
   |some d=>J2K (ρ x)=true∧∀ γ,C (.op (E.base+d) γ 0 0) (setH H (E.base+d) (some (γ,⟨t,(ρ x).cells.length,[ρ x]⟩)))
   |none=>False
 |.alloc t=>match o.dst with
   |some d=>∃ td,E.T t=some td∧∀ γ,C (.op (E.base+d) γ 0 0) (setH H (E.base+d) (some (γ,⟨t,td.size,[mkEl td]⟩)))
   |none=>False
 |.makeSlice t l c=>match o.dst with
   |some d=>∀ γ,evMake E.T t (E.base+d) γ (ρ l) (ρ c) fun v up=>C v (app H up)
   |none=>False
 |.buildSlice t len parts=>match o.dst with
   |some d=>∀ γ,evBuildSlice E.T t (E.base+d) γ len (parts.toList.map fun p=>(p.1,ρ p.2)) fun v up=>C v (app H up)
   |none=>False
 |.store t a x=>evStore E.T H t (ρ a) (ρ x) fun up=>C (.tup []) (app H up)
 |.call c=>J3Z E ρ H c o.dst C
 |.makeMap t r=>match o.dst with
   |some d=>∀ γ,J96 t (E.base+d) γ (r.map ρ) fun v up=>C v (app H up)
   |none=>False
 |.lookup t x k ok=>evLookup E.P E.T H t (ρ x) (ρ k) ok fun v=>C v H
 |.mapUpdate t m k x=>J0j E.P E.T H t (ρ m) (ρ k) (ρ x) fun up=>C (.tup []) (app H up)
 |.insert t m k x=>J0j E.P E.T H t (ρ m) (ρ k) (ρ x) fun up=>C (.tup []) (app H up)
 |.range t x=>match o.dst with
   |some d=>∀ γ,J5i E.T t (E.base+d) γ (ρ x) fun v up=>C v (app H up)
   |none=>False
 |.next it isS=>J5j H (ρ it) isS fun v up=>C v (app H up)
 |.entry it=>J5l H (ρ it) fun v=>C v H
 |_=>False
section
variable {E:En} {gh:Gh} {κ:KM} {H:Hp} {w:World}
def Step (gh:Gh)(κ:KM)(H:Hp)(w:World)(C:AV→Hp→Prop)(v:Value)(w':World):Prop:=
 ∃ x H' κ',C x H'∧HRel gh κ' H' w'∧VR κ' w' (Nset gh.O κ' H') x v∧∀ {y:AV} {u:Value},VR κ w (Nset gh.O κ H) y u→VR κ' w' (Nset gh.O κ' H') y u
theorem Step.calm (hr:HRel gh κ H w){C:AV→Hp→Prop}{x:AV}{v:Value}(h:C x H)(hv:VR κ w (Nset gh.O κ H) x v):Step gh κ H w C v w:=⟨x,H,κ,h,hr,hv,fun h=>h⟩
theorem Step.does {α:Type}{s:Sem α}{up:Up}{P:Program}{x:AV}{vr:KM→World→(Nat→Prop)→α→Prop}(h:Does P gh κ H w s up vr){C:AV→Hp→Prop}(hC:C x (app H up)) :
  ∃ r w',s.run P w=.ok r w'∧∃ κ',HRel gh κ' (app H up) w'∧vr κ' w' (Nset gh.O κ' (app H up)) r∧(∀ {y:AV} {u:Value},VR κ w (Nset gh.O κ H) y u→VR κ' w' (Nset gh.O κ' (app H up)) y u):=by
 obtain ⟨r,w',κ',h1,h2,h3,h4,_⟩:=h;exact ⟨r,w',h1,κ',h2,h4,h3⟩
theorem J7p (hr:HRel gh κ H w):∃ γ,∀ b,κ b γ=none:=by
 obtain ⟨G,hG⟩:=hr.fresh;exact ⟨G,fun b=>hG b G (Nat.le_refl _)⟩
theorem optR (ρ:Operand→AV)(ρc:Operand→Value){N:Nat→Prop}(hv:∀ x,VR κ w N (ρ x) (ρc x))(x:Option Operand):OptR κ w N (x.map ρ) (x.map ρc):=by
 cases x with
 |none=>exact .no
 |some x=>exact .yes (hv x)
theorem J6u (hT:TOk E.P E.T)(hr:HRel gh κ H w){a:Act}{ρ:Operand→AV}(hv:∀ x,VR κ w (Nset gh.O κ H) (ρ x) (a.eval x)){o:Oper}{C:AV→Hp→Prop}(h:evOp E ρ H o C)
  {K:Act→World→Prop}{Q:Exit→Act→World→Prop}(hK:∀ v w',Step gh κ H w C v w'→K (a.put o.dst v) w'):o.wp E.P a w K Q:=by
 have val:∀ {s:Sem Value} {v:Value} {w':World},execOp a.eval o=(do pure (.value (← s)):Sem Next)→s.run E.P w=.ok v w'→Step gh κ H w C v w'→o.wp E.P a w K Q:=by
  intro s v w' he hs hst;unfold Oper.wp;rw[he];simp only[Sem.run_bind,hs,Result.andThen_ok,Sem.run_pure,Oper.upon_value];exact hK _ _ hst
 obtain ⟨γ,hγ⟩:=J7p hr;unfold evOp at h;split at h
 ·
  rename_i x ho;unfold Oper.wp;simp only[execOp,ho,Sem.run_pure,Oper.upon_value];exact hK _ _ (.calm hr h (hv x))
 ·rename_i x ho;unfold Oper.wp;simp only[execOp,ho,Sem.run_pure,Oper.upon_value];exact hK _ _ (.calm hr h (hv x))
 ·rename_i c x y ho;split at h
  ·rename_i t hc;have:=hv c;rw[hc] at this;generalize hcv:a.eval c=cv at this
   cases this with
   |val _ _=>
     unfold Oper.wp;simp only[execOp,ho,hcv,asBool,Sem.run_bind,Sem.run_pure,Result.andThen_ok,Oper.upon_value];refine hK _ _ (.calm hr h ?_);cases t<;>simp<;>exact hv _
  ·exact h.elim
 ·rename_i t x ho;obtain ⟨y,u,hC,hrun,hy⟩:=J47 hT hr (hv x) h;exact val (s:=Instr.loadAt t (a.eval x)) (by simp only[execOp,ho]) hrun (.calm hr hC hy)
 ·rename_i s x f ho;obtain ⟨y,u,hC,hrun,hy⟩:=J5G hT (hv x) h;exact val (s:=Instr.fieldAt s (a.eval x) f) (by simp only[execOp,ho]) hrun (.calm hr hC hy)
 ·rename_i s x f ho;obtain ⟨y,u,hC,hrun,hy⟩:=J8c hT (hv x) h;exact val (s:=Instr.field s (a.eval x) f) (by simp only[execOp,ho]) hrun (.calm hr hC hy)
 ·rename_i t x i ho;obtain ⟨y,u,hC,hrun,hy⟩:=J5F hT hr (hv x) (hv i) h;exact val (s:=Instr.indexAt t (a.eval x) (a.eval i)) (by simp only[execOp,ho]) hrun (.calm hr hC hy)
 ·rename_i t x i ho;obtain ⟨y,u,hC,hrun,hy⟩:=J8a hT (hv x) (hv i) h;exact val (s:=Instr.index t (a.eval x) (a.eval i)) (by simp only[execOp,ho]) hrun (.calm hr hC hy)
 ·rename_i x i ho;obtain ⟨y,u,hC,hrun,hy⟩:=J5H (P:=E.P) (hv x) h;exact val (s:=Instr.extract (a.eval x) i) (by simp only[execOp,ho]) hrun (.calm hr hC hy)
 ·rename_i t x lo hi mx ho;obtain ⟨y,u,hC,hrun,hy⟩:=J6d hT hr (hv x) (optR ρ a.eval hv lo) (optR ρ a.eval hv hi) (optR ρ a.eval hv mx) h;exact val (s:=Instr.sliceAt t (a.eval x) (lo.map a.eval) (hi.map a.eval) (mx.map a.eval)) (by simp only[execOp,ho]) hrun (.calm hr hC hy)
 ·rename_i op t x y yt ho;obtain ⟨z,u,hC,hrun,hz⟩:=JEL (ox:=x) (oy:=y) hT (hv x) (hv y) h;exact val (s:=do eqGuard op t x y (a.eval x) (a.eval y);binOp op t (a.eval x) (a.eval y)) (by simp only[execOp,ho]) hrun (.calm hr hC hz)
 ·rename_i op t x ho;obtain ⟨y,u,hC,hrun,hy⟩:=JI4 (P:=E.P) (hv x) h;exact val (s:=Op.unary op (a.eval x)) (by simp only[execOp,ho]) hrun (.calm hr hC hy)
 ·rename_i s d x ho;obtain ⟨y,u,hC,hrun,hy⟩:=JBQ hT (hv x) h;exact val (s:=convert s d (a.eval x)) (by simp only[execOp,ho]) hrun (.calm hr hC hy)
 ·rename_i f first cap ho;refine val (s:=Instr.makeFunc f (first.map a.eval) (cap.map a.eval)) (v:=.func f (first.map a.eval) (cap.map a.eval)) (w':=w) (by simp only[execOp,ho]) (by simp only[Instr.makeFunc,Sem.run_pure]) (.calm hr h ?_);exact .fn f _ _ _ _ (by simp) (by simp) (fun i h h'=>by simp only[List.getElem_map,Array.getElem_map,Array.getElem_toList];exact hv _) (fun i h h'=>by simp only[List.getElem_map,Array.getElem_map,Array.getElem_toList];exact hv _)
 ·rename_i x ho;have hx:=hv x;split at h
  ·rename_i y k he;rw[he] at hx;generalize hxv:a.eval x=xv at hx
   cases hx with
   |ep _ _ c o' f h1 h2 h3 h4 h5=>
     unfold Oper.wp;simp only[execOp,ho,hxv,Sem.run_pure,Oper.upon_value];exact hK _ _ (.calm hr h (.ep y k c o' f h1 h2 h3 h4 h5))
  ·rename_i b g i k he;rw[he] at hx;generalize hxv:a.eval x=xv at hx
   cases hx with
   |op _ _ _ _ c K' h1 h2 hp=>
     unfold Oper.wp;simp only[execOp,ho,hxv,Sem.run_pure,Oper.upon_value];exact hK _ _ (.calm hr h (.op b g i k c K' h1 h2 hp))
  ·rename_i f first cap he;rw[he] at hx;generalize hxv:a.eval x=xv at hx
   cases hx with
   |fn _ _ _ vf vc h1 h2 h3 h4=>
     unfold Oper.wp;simp only[execOp,ho,hxv,Sem.run_pure,Oper.upon_value];exact hK _ _ (.calm hr h (.fn _ _ _ vf vc h1 h2 h3 h4))
  ·exact h.elim
 ·rename_i t parts ho;obtain ⟨y,u,hC,hrun,hy⟩:=J6i (parts:=parts) (ρ:=ρ) (ρc:=a.eval) hT (fun p _=>hv p.2) h;exact val (s:=Instr.build t (parts.map fun (p:Nat×Operand)=>(p.1,a.eval p.2))) (by simp only[execOp,ho]) hrun (.calm hr hC hy)
 ·rename_i t x ho;split at h
  ·rename_i d hd;obtain ⟨hk,h⟩:=h;obtain ⟨r,w',h1,κ',h2,h3,h4⟩:=Step.does (J5q (P:=E.P) (t:=t) (d:=E.base+d) hr (hγ _) (hv x) hk) (h γ);exact val (s:=Instr.box t (a.eval x)) (by simp only[execOp,ho]) h1 ⟨_,_,κ',h γ,h2,h3,h4⟩
  ·exact h.elim
 ·rename_i t ho;split at h
  ·rename_i d hd;obtain ⟨td,ht,h⟩:=h;obtain ⟨r,w',h1,κ',h2,h3,h4⟩:=Step.does (J70 (P:=E.P) (t:=t) (d:=E.base+d) hr (J0W (hT _ _ ht)) (hγ _)) (h γ);exact val (s:=Instr.alloc t true (.tuple #[])) (by simp only[execOp,ho]) h1 ⟨_,_,κ',h γ,h2,h3,h4⟩
  ·exact h.elim
 ·rename_i t l c ho;split at h
  ·rename_i d hd;obtain ⟨x,up,hC,_,hdo⟩:=J9D hT hr (hγ _) (hv l) (hv c) (h γ);obtain ⟨r,w',h1,κ',h2,h3,h4⟩:=Step.does hdo hC;exact val (s:=Instr.makeSlice t (a.eval l) (a.eval c)) (by simp only[execOp,ho]) h1 ⟨_,_,κ',hC,h2,h3,h4⟩
  ·exact h.elim
 ·rename_i t len parts ho;split at h
  ·rename_i d hd;obtain ⟨x,up,hC,_,hdo⟩:=J2d (parts:=parts) (ρ:=ρ) (ρc:=a.eval) hT hr (hγ _) (fun p _=>hv p.2) (h γ);obtain ⟨r,w',h1,κ',h2,h3,h4⟩:=Step.does hdo hC;exact val (s:=Instr.buildSlice t len (parts.map fun (p:Nat×Operand)=>(p.1,a.eval p.2))) (by simp only[execOp,ho]) h1 ⟨_,_,κ',hC,h2,h3,h4⟩
  ·exact h.elim
 ·rename_i t p x ho;obtain ⟨up,hC,_,hdo⟩:=J2x hT hr (hv p) (hv x) h;obtain ⟨r,w',h1,κ',h2,h3,h4⟩:=Step.does (x:=.dead) (C:=fun _ _=>True) hdo trivial;unfold Oper.wp;simp only[execOp,ho,Sem.run_bind,h1,Result.andThen_ok,Sem.run_pure,Oper.upon_skip];exact hK _ _ ⟨_,_,κ',hC,h2,.tup [] #[] rfl (fun i h=>absurd h (by simp)),h4⟩
 ·
  rename_i c ho;unfold J3Z at h;split at h
  ·rename_i hc;split at h
   ·rename_i x t hx ht;obtain ⟨y,u,hC,hrun,hy⟩:=JEJ (P:=E.P) (ty:=o.type) hT (hv x) h;have hx':c.args=#[x]:=by apply Array.ext';simpa using hx
    have ht':c.argTypes=#[t]:=by apply Array.ext';simpa using ht
    unfold Oper.wp;simp only[execOp,ho,resolve,hc,hx',ht',List.map_toArray,List.map_cons,List.map_nil,Sem.run_bind,Sem.run_pure,Result.andThen_ok,invoke,builtin,hrun,Oper.upon_value];exact hK _ _ (.calm hr hC hy)
   ·exact h.elim
  ·rename_i hc;split at h
   ·rename_i x y t t' d hx ht hd;obtain ⟨rfl,h⟩:=h;obtain ⟨z,up,hC,_,hdo⟩:=J5r (ty:=o.type) hT hr hγ (hv x) (hv y) (h γ);obtain ⟨r,w',h1,κ',h2,h3,h4⟩:=Step.does hdo hC;have hx':c.args=#[x,y]:=by apply Array.ext';simpa using hx
    have ht':c.argTypes=#[t,t]:=by apply Array.ext';simpa using ht
    unfold Oper.wp;simp only[execOp,ho,resolve,hc,hx',ht',List.map_toArray,List.map_cons,List.map_nil,Sem.run_bind,Sem.run_pure,Result.andThen_ok,invoke,builtin,h1,Oper.upon_value];exact hK _ _ ⟨_,_,κ',hC,h2,h3,h4⟩
   ·exact h.elim
  ·rename_i hc;obtain ⟨u,hC,hp,hrun⟩:=JBO (P:=E.P) (w:=w) true ρ a.eval hv (ats:=c.argTypes) (ty:=o.type) h;have hx':c.args.map a.eval=(c.args.toList.map a.eval).toArray:=by apply Array.ext';simp
   unfold Oper.wp;simp only at hrun;simp only[execOp,ho,resolve,hc,hx',Sem.run_bind,Sem.run_pure,Result.andThen_ok,invoke,builtin,hrun,Oper.upon_value];exact hK _ _ (.calm hr hC (.val _ hp))
  ·rename_i hc;obtain ⟨u,hC,hp,hrun⟩:=JBO (P:=E.P) (w:=w) false ρ a.eval hv (ats:=c.argTypes) (ty:=o.type) h;have hx':c.args.map a.eval=(c.args.toList.map a.eval).toArray:=by apply Array.ext';simp
   unfold Oper.wp;simp only at hrun;simp only[execOp,ho,resolve,hc,hx',Sem.run_bind,Sem.run_pure,Result.andThen_ok,invoke,builtin,hrun,Oper.upon_value];exact hK _ _ (.calm hr hC (.val _ hp))
  ·rename_i hc;split at h
   ·rename_i x t hx ht;obtain ⟨z,up,hC,_,hdo⟩:=J6z (ty:=o.type) hT hr (hv x) h;obtain ⟨r,w',h1,κ',h2,h3,h4⟩:=Step.does hdo hC;have hx':c.args=#[x]:=by apply Array.ext';simpa using hx
    have ht':c.argTypes=#[t]:=by apply Array.ext';simpa using ht
    unfold Oper.wp;simp only[execOp,ho,resolve,hc,hx',ht',List.map_toArray,List.map_cons,List.map_nil,Sem.run_bind,Sem.run_pure,Result.andThen_ok,invoke,builtin,h1,Oper.upon_value];exact hK _ _ ⟨_,_,κ',hC,h2,h3,h4⟩
   ·exact h.elim
  ·rename_i hc;split at h
   ·rename_i x y t t' hx ht;obtain ⟨z,up,hC,_,hdo⟩:=J9E (t':=t') (ty:=o.type) hT hr (hv x) (hv y) h;obtain ⟨r,w',h1,κ',h2,h3,h4⟩:=Step.does hdo hC;have hx':c.args=#[x,y]:=by apply Array.ext';simpa using hx
    have ht':c.argTypes=#[t,t']:=by apply Array.ext';simpa using ht
    unfold Oper.wp;simp only[execOp,ho,resolve,hc,hx',ht',List.map_toArray,List.map_cons,List.map_nil,Sem.run_bind,Sem.run_pure,Result.andThen_ok,invoke,builtin,h1,Oper.upon_value];exact hK _ _ ⟨_,_,κ',hC,h2,h3,h4⟩
   ·exact h.elim
  ·rename_i f hc;split at h
   ·rename_i n first cap hf;have hfv:=hv f;rw[hf] at hfv;generalize hfe:a.eval f=fv at hfv
    cases hfv with
    |fn _ _ _ vf vc h1 h2 h3 h4=>
      have hargs:VRs κ w (Nset gh.O κ H) (first++c.args.toList.map ρ++cap) (vf++c.args.map a.eval++vc):=by
       refine ⟨by simp[h1,h2],fun i hi hi'=>?_⟩;have hl:(first++c.args.toList.map ρ).length=(vf++c.args.map a.eval).size:=by simp[h1]
       rw[List.getElem_append,Array.getElem_append]
       by_cases q1:i<(first++c.args.toList.map ρ).length
       ·rw[dif_pos q1,dif_pos (by omega),List.getElem_append,Array.getElem_append]
        by_cases q2:i<first.length
        ·rw[dif_pos q2,dif_pos (by omega)];exact h3 i q2 (by omega)
        ·rw[dif_neg q2,dif_neg (by omega)];simp only[List.getElem_map,Array.getElem_map,Array.getElem_toList,h1];exact hv _
       ·rw[dif_neg q1,dif_neg (by omega)]
        have hi2:i-(first++c.args.toList.map ρ).length<cap.length:=by
         have:=hi;rw[List.length_append] at this;omega
        have:=h4 (i-(first++c.args.toList.map ρ).length) hi2 (by omega)
        simpa only [hl] using this
      rcases h with h|⟨r,⟨hpl,hx⟩,hC⟩
      case inr=>
       unfold Oper.wp;simp only[execOp,ho,resolve,hc,hfe,Deferred.ofValue,Sem.run_bind,Sem.run_pure,Result.andThen_ok,invoke,hx _ _ _ _ hargs,Oper.upon_value];exact hK _ _ (.calm hr hC (.val _ hpl))
      obtain ⟨⟨fn,hfn,hname,hbody⟩,h⟩:=h;have hcall:=JJZ hr hargs h;unfold Oper.wp;have hnb:fn.body.isNone=false:=by cases hb:fn.body<;>simp_all
      simp only[execOp,ho,resolve,hc,hfe,Deferred.ofValue,Sem.run_bind,Sem.run_pure,Result.andThen_ok,invoke,callFunc,run_program,hfn,hname,hnb,Bool.false_eq_true,if_false,Oper.upon_enter];refine hcall.mono fun e w' he=>?_;obtain ⟨v,r,H',κ',rfl,q1,q2,q3,q4⟩:=he;exact hK _ _ ⟨r,H',κ',q1,q2,q3,q4⟩
   ·exact h.elim
  ·exact h.elim
 ·rename_i t r ho;split at h
  ·rename_i d hd
   have hr0:r=none:=by
    have:=(h γ).1;cases r<;>simp at this ⊢
   subst hr0;obtain ⟨x,up,hC,_,hdo⟩:=J4T (P:=E.P) hr (hγ (E.base+d)) (h γ);obtain ⟨r,w',h1,κ',h2,h3,h4⟩:=Step.does hdo hC;exact val (s:=Instr.makeMap t none) (by simp only[execOp,ho,Option.map_none]) h1 ⟨_,_,κ',hC,h2,h3,h4⟩
  ·exact h.elim
 ·rename_i t x k ok ho;obtain ⟨y,u,hC,hrun,hy⟩:=J6e hT hr (hv x) (hv k) h;exact val (s:=Instr.lookup t (a.eval x) (a.eval k) ok) (by simp only[execOp,ho]) hrun (.calm hr hC hy)
 ·rename_i t m k x ho;obtain ⟨up,hC,_,hdo⟩:=J1K hT hr (hv m) (hv k) (hv x) h;obtain ⟨r,w',h1,κ',h2,h3,h4⟩:=Step.does (x:=.dead) (C:=fun _ _=>True) hdo trivial;unfold Oper.wp;simp only[execOp,ho,Sem.run_bind,h1,Result.andThen_ok,Sem.run_pure,Oper.upon_skip];exact hK _ _ ⟨_,_,κ',hC,h2,.tup [] #[] rfl (fun i h=>absurd h (by simp)),h4⟩
 ·rename_i t m k x ho;obtain ⟨up,hC,_,hdo⟩:=J1K hT hr (hv m) (hv k) (hv x) h;obtain ⟨r,w',h1,κ',h2,h3,h4⟩:=Step.does (x:=.dead) (C:=fun _ _=>True) hdo trivial;unfold Oper.wp;simp only[execOp,ho,Sem.run_bind,h1,Result.andThen_ok,Sem.run_pure,Oper.upon_skip];exact hK _ _ ⟨_,_,κ',hC,h2,.tup [] #[] rfl (fun i h=>absurd h (by simp)),h4⟩
 ·rename_i t x ho;split at h
  ·rename_i d hd;obtain ⟨y,up,hC,_,hdo⟩:=J6y hT hr (hγ (E.base+d)) (hv x) (h γ);obtain ⟨r,w',h1,κ',h2,h3,h4⟩:=Step.does hdo hC;exact val (s:=Instr.range t (a.eval x)) (by simp only[execOp,ho]) h1 ⟨_,_,κ',hC,h2,h3,h4⟩
  ·exact h.elim
 ·rename_i it isS ho;obtain ⟨y,up,hC,_,hdo⟩:=J9C (P:=E.P) (ty:=o.type) hr (hv it) h;obtain ⟨r,w',h1,κ',h2,h3,h4⟩:=Step.does hdo hC;exact val (s:=Instr.next (a.eval it) isS o.type) (by simp only[execOp,ho]) h1 ⟨_,_,κ',hC,h2,h3,h4⟩
 ·rename_i it ho;obtain ⟨y,u,hC,hrun,hy⟩:=JEK (P:=E.P) hr (hv it) h;exact val (s:=Instr.entry (a.eval it)) (by simp only[execOp,ho]) hrun (.calm hr hC hy)
 ·exact h.elim
end
end Go.Fw
