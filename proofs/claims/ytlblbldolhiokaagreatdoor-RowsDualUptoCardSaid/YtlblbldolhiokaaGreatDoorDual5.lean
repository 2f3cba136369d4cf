/- Part 5 of the proof. -/
import Derived.Test.YtlblbldolhiokaaGreatDoorDual4
set_option linter.unusedVariables false
set_option linter.unusedSimpArgs false
set_option linter.unusedSectionVars false
set_option maxRecDepth 100000
set_option exponentiation.threshold 400
set_option maxHeartbeats 8000000
namespace Go.Fw
open Go.RowKit
section
variable {P:Program} {T:Nat→Option TD} {κ:KM} {N:Nat→Prop} {w:World}
def StE (P:Program)(t:Nat)(cs ds:List AV)(b:Bool):Prop:=
 ∀ (κ:KM) (w:World) (N:Nat→Prop) (us vs:Array Value),VR κ w N (.agg cs) (.agg us)→VR κ w N (.agg ds) (.agg vs)→∀ w',(Op.equal t (.agg us) (.agg vs)).run P w'=.ok b w'
def evEq (P:Program)(T:Nat→Option TD)(t:Nat)(x y:AV)(C:Bool→Prop):Prop:=
 ∃ d,T t=some d ∧
 match x,y with
 |.val (.bool a),.val (.bool b)=>d.kind=.bool∧C (a==b)
 | .agg cs,.agg ds=>P.eqGuardType P.depth t=false ∧
  ((∃ fs,d.kind=.struct fs∧P.stoodInHeld t=false∧(∀ f∈(P.fieldsOf t).toList,f.name ≠ "_")∧∃ ks,J0s T 0 fs=some ks∧∃ b,J0H ks cs ds=some b∧C b) ∨
   (∃ e,d.kind=.array 2 e∧∃ ed,T e=some ed∧ed.size=1∧ed.kind.agg=false∧∃ x0 x1 y0 y1,cs=[x0,x1]∧ds=[y0,y1]∧∃ b,J0H [ed.kind,ed.kind] [x0,x1] [y0,y1]=some b∧C b) ∨
   (∃ b,StE P t cs ds b∧C b))
 |.val (.pointer none),.val (.pointer none)=>d.kind=.ptr∧C true
 |.val (.pointer none),.op _ _ _ _=>d.kind=.ptr∧C false
 |.val (.pointer none),.ep _ _=>d.kind=.ptr∧C false
 |.op _ _ _ _,.val (.pointer none)=>d.kind=.ptr∧C false
 |.ep _ _,.val (.pointer none)=>d.kind=.ptr∧C false
 |.val (.slice none _ _),.val (.slice none _ _)=>(∃ e,d.kind=.slice e)∧C true
 |.sl _ xs,.val (.slice none _ _)=>(∃ e,d.kind=.slice e)∧(xs≠[]∨C true)∧C false
 |.own _ _ _ len,.val (.slice none _ _)=>(∃ e,d.kind=.slice e)∧(0<len∨C true)∧C false
 |_,_=>False
theorem J0A {op:BinOp}{t:TypeId}{x y:Operand}{a b:Value}(h:∀ cs ds,¬ (a=.agg cs∧b=.agg ds))(h':¬ (a=.nilIface∧b=.nilIface))(w:World):(eqGuard op t x y a b).run P w=.ok () w:=by
 have e:∀ (s:Sem Unit),s.run P w=.ok () w→(if (!(op matches .eql|.neq))=true then (pure ():Sem Unit) else s).run P w=.ok () w:=by
  intro s hs
  cases op<;>first|exact hs|rfl
 unfold eqGuard;refine e _ ?_;split
 ·exact absurd ⟨rfl,rfl⟩ h'
 ·exact absurd ⟨rfl,rfl⟩ (h _ _)
 ·rfl
theorem J3L {op:BinOp}{t:TypeId}{x y:Operand}{a b:Array Value}(h:P.eqGuardType P.depth t=false)(w:World):(eqGuard op t x y (.agg a) (.agg b)).run P w=.ok () w:=by
 have e:∀ (s:Sem Unit),s.run P w=.ok () w→(if (!(op matches .eql|.neq))=true then (pure ():Sem Unit) else s).run P w=.ok () w:=by
  intro s hs
  cases op<;>first|exact hs|rfl
 unfold eqGuard;refine e _ ?_;simp[h,Sem.run_bind]
theorem J0b {t:TypeId}{u v:Value}{b:Bool}{w':World}(hb:(Op.equal t u v).run P w'=.ok b w')(h1:∀ k a k' b,¬ (u=.int k a∧v=.int k' b))(h2:∀ a b,¬ (u=.string a∧v=.string b))(h3:∀ k a k' b,¬ (u=.float k a∧v=.float k' b))
  (h4:∀ k a a' k' b b',¬ (u=.complex k a a'∧v=.complex k' b b'))(op:BinOp)(ho:op=.eql∨op=.neq):(binOp op t u v).run P w'=.ok (.bool (if op=.eql then b else !b)) w':=by
 rcases ho with rfl|rfl
 all_goals
  unfold binOp
  split<;>first
   |(rename_i e;cases e;done)
   |(exfalso;exact h1 _ _ _ _ ⟨rfl,rfl⟩)
   |(exfalso;exact h2 _ _ ⟨rfl,rfl⟩)
   |(exfalso;exact h3 _ _ _ _ ⟨rfl,rfl⟩)
   |(exfalso;exact h4 _ _ _ _ _ _ ⟨rfl,rfl⟩)
   |(simp_all [Sem.run_bind];done)
theorem JF1 {t e:Nat}{b:Option Addr}{w':World}(hu:P.underlying t=some (.pointer e)):(Op.equal t (.pointer none) (.pointer b)).run P w'=.ok b.isNone w':=by
 show (Op.equalIn (9999+1) t _ _).run P w'=_
 rw[Op.equalIn];simp only[Sem.run_bind,run_underlying hu,Result.andThen_ok,Sem.run_pure]
theorem JF0 {t e:Nat}{b:Addr}{w':World}(hu:P.underlying t=some (.pointer e)):(Op.equal t (.pointer (some b)) (.pointer none)).run P w'=.ok false w':=by
 show (Op.equalIn (9999+1) t _ _).run P w'=_
 rw[Op.equalIn];simp only[Sem.run_bind,run_underlying hu,Result.andThen_ok,Sem.run_pure]
theorem J7x {t e:Nat}{b:Option Addr}{l c l' c':Nat}{w':World}(hu:P.underlying t=some (.slice e)):(Op.equal t (.slice none l c) (.slice b l' c')).run P w'=.ok b.isNone w':=by
 show (Op.equalIn (9999+1) t _ _).run P w'=_
 rw[Op.equalIn];simp only[Sem.run_bind,run_underlying hu,Result.andThen_ok,Sem.run_pure]
theorem J5m {t e:Nat}{b:Addr}{l c l' c':Nat}{w':World}(hu:P.underlying t=some (.slice e)):(Op.equal t (.slice (some b) l c) (.slice none l' c')).run P w'=.ok false w':=by
 show (Op.equalIn (9999+1) t _ _).run P w'=_
 rw[Op.equalIn];simp only[Sem.run_bind,run_underlying hu,Result.andThen_ok,Sem.run_pure]
theorem JCf (hT:TOk P T){t:Nat}{x y:AV}{u v:Value}(hx:VR κ w N x u)(hy:VR κ w N y v){C:Bool→Prop}(h:evEq P T t x y C)(w':World) :
  ∃ b,C b∧(∀ op ox oy,(eqGuard op t ox oy u v).run P w'=.ok () w')∧(∀ op,(op=.eql∨op=.neq)→(binOp op t u v).run P w'=.ok (.bool (if op=.eql then b else !b)) w'):=by
 obtain ⟨d,hd,h⟩:=h;obtain ⟨td,hu,hr⟩:=(J0W (hT _ _ hd)).und;split at h
 ·rename_i a b;obtain ⟨hk,hC⟩:=h
  cases hx with
  |val _ _=>cases hy with
    |val _ _=>
      rw[hk] at hr;cases td<;>simp[kdOf] at hr
      have hb:=run_equal_bool (P:=P) w' t a b hu;exact ⟨_,hC,fun _ _ _=>J0A (by simp) (by simp) w',J0b hb (by simp) (by simp) (by simp) (by simp)⟩
 ·rename_i cs ds;obtain ⟨hg,h⟩:=h
  cases hx with
  |agg _ us h1 hh2 h3=>
  cases hy with
  |agg _ vs k1 k2 k3=>
  have hx':VR κ w N (.agg cs) (.agg us):=.agg cs us h1 hh2 h3;have hy':VR κ w N (.agg ds) (.agg vs):=.agg ds vs k1 k2 k3
  rcases h with ⟨fs,hk,hs,hn,ks,hks,b,hb,hC⟩|⟨e,hk,ed,hed,hs1,ha,x0,x1,y0,y1,rfl,rfl,b,hb,hC⟩|⟨b,hb,hC⟩
  ·rw[hk] at hr;cases td<;>simp[kdOf] at hr
   rename_i fields;have hf:P.fieldsOf t=fields:=by simp[Program.fieldsOf,hu]
   have hus:P.underlying t=some (.struct (P.fieldsOf t)):=by rw[hf];exact hu
   have he:(Op.equal t (.agg us) (.agg vs)).run P w'=.ok b w':=by
    have:=run_equalIn_struct (P:=P) w' 9999 t us vs hus hs;unfold Op.equal Op.maxDepth;rw[this];exact J4P hT 9998 cs ds us vs hx' hy' w' _ 0 ks b (by rw[hf,hr];exact hks) (by simpa using hb) hn
   exact ⟨b,hC,fun _ _ _=>J3L hg w',J0b he (by simp) (by simp) (by simp) (by simp)⟩
  ·rw[hk] at hr;cases td<;>simp[kdOf] at hr
   obtain ⟨rfl,rfl⟩:=hr;have he:(Op.equal t (.agg us) (.agg vs)).run P w'=.ok b w':=JCg hu (J0W (hT _ _ hed)) hs1 ha 9998 x0 x1 y0 y1 us vs hx' hy' w' b hb;exact ⟨b,hC,fun _ _ _=>J3L hg w',J0b he (by simp) (by simp) (by simp) (by simp)⟩
  ·exact ⟨b,hC,fun _ _ _=>J3L hg w',J0b (hb _ _ _ _ _ hx' hy' w') (by simp) (by simp) (by simp) (by simp)⟩
 ·obtain ⟨hk,hC⟩:=h
  cases hx with
  |val _ _=>cases hy with
    |val _ _=>
      rw[hk] at hr;cases td<;>simp[kdOf] at hr
      exact ⟨_,hC,fun _ _ _=>J0A (by simp) (by simp) w',J0b (JF1 hu) (by simp) (by simp) (by simp) (by simp)⟩
 ·obtain ⟨hk,hC⟩:=h
  cases hx with
  |val _ _=>cases hy with
    |op=>
      rw[hk] at hr;cases td<;>simp[kdOf] at hr
      exact ⟨_,hC,fun _ _ _=>J0A (by simp) (by simp) w',J0b (JF1 hu) (by simp) (by simp) (by simp) (by simp)⟩
 ·obtain ⟨hk,hC⟩:=h
  cases hx with
  |val _ _=>cases hy with
    |ep=>
      rw[hk] at hr;cases td<;>simp[kdOf] at hr
      exact ⟨_,hC,fun _ _ _=>J0A (by simp) (by simp) w',J0b (JF1 hu) (by simp) (by simp) (by simp) (by simp)⟩
 ·obtain ⟨hk,hC⟩:=h
  cases hx with
  |op=>cases hy with
    |val _ _=>
      rw[hk] at hr;cases td<;>simp[kdOf] at hr
      exact ⟨_,hC,fun _ _ _=>J0A (by simp) (by simp) w',J0b (JF0 hu) (by simp) (by simp) (by simp) (by simp)⟩
 ·obtain ⟨hk,hC⟩:=h
  cases hx with
  |ep=>cases hy with
    |val _ _=>
      rw[hk] at hr;cases td<;>simp[kdOf] at hr
      exact ⟨_,hC,fun _ _ _=>J0A (by simp) (by simp) w',J0b (JF0 hu) (by simp) (by simp) (by simp) (by simp)⟩
 ·obtain ⟨⟨e,hk⟩,hC⟩:=h
  cases hx with
  |val _ _=>cases hy with
    |val _ _=>
      rw[hk] at hr;cases td<;>simp[kdOf] at hr
      exact ⟨_,hC,fun _ _ _=>J0A (by simp) (by simp) w',J0b (J7x hu) (by simp) (by simp) (by simp) (by simp)⟩
 ·obtain ⟨⟨e,hk⟩,hne,hC⟩:=h
  cases hy with
  |val _ _=>cases hx with
    |slnil=>
      rw[hk] at hr;cases td<;>simp[kdOf] at hr
      exact ⟨_,hne.resolve_left (by simp),fun _ _ _=>J0A (by simp) (by simp) w',J0b (J7x hu) (by simp) (by simp) (by simp) (by simp)⟩
    |slemp=>
      rw[hk] at hr;cases td<;>simp[kdOf] at hr
      exact ⟨_,hC,fun _ _ _=>J0A (by simp) (by simp) w',J0b (J5m hu) (by simp) (by simp) (by simp) (by simp)⟩
    |sl _ _ c o cap f _ _ _ _ _ _ _=>
      rw[hk] at hr;cases td<;>simp[kdOf] at hr
      exact ⟨_,hC,fun _ _ _=>J0A (by simp) (by simp) w',J0b (J5m hu) (by simp) (by simp) (by simp) (by simp)⟩
 ·obtain ⟨⟨e,hk⟩,hne,hC⟩:=h
  cases hy with
  |val _ _=>cases hx with
    |ownnil=>
      rw[hk] at hr;cases td<;>simp[kdOf] at hr
      exact ⟨_,hne.resolve_left (by simp),fun _ _ _=>J0A (by simp) (by simp) w',J0b (J7x hu) (by simp) (by simp) (by simp) (by simp)⟩
    |own=>
      rw[hk] at hr;cases td<;>simp[kdOf] at hr
      exact ⟨_,hC,fun _ _ _=>J0A (by simp) (by simp) w',J0b (J5m hu) (by simp) (by simp) (by simp) (by simp)⟩
 ·exact h.elim
def bnds (len:Nat)(lo hi:Option AV)(C:Nat→Nat→Prop):Prop:=
 let l:Int:=match lo with|some (.val (.int _ i))=>i|some _=>-1|none=>0
 let h:Int:=match hi with|some (.val (.int _ i))=>i|some _=>-1|none=>len
 0≤l∧l≤h∧h≤len∧C l.toNat h.toNat
def evSlice (T:Nat→Option TD)(t:Nat)(x:AV)(lo hi mx:Option AV)(C:AV→Prop):Prop:=
 mx=none ∧
 match x with
 |.val (.string s)=>(∃ d,T t=some d∧d.kind=.str)∧bnds s.size lo hi fun l h=>C (.val (.string (s.extract l h)))
 |.sl n xs=>elemOfT T t fun ed=>n=ed.size∧bnds xs.length lo hi fun l h=>C (.sl n ((xs.take h).drop l))
 |.val (.slice none 0 0)=>elemOfT T t fun ed=>bnds 0 lo hi fun l h=>C (.val (.slice none 0 0))
 |_=>False
theorem VR.intOf {v:Value}{k:IntKind}{n:Int}(h:VR κ w N (.val (.int k n)) v):v=.int k n:=by cases h;rfl
inductive OptR (κ:KM) (w:World) (N:Nat→Prop):Option AV→Option Value→Prop
 |no:OptR κ w N none none
 |yes {x:AV} {v:Value}:VR κ w N x v→OptR κ w N (some x) (some v)
theorem JBZ {x:Option AV}{v:Option Value}(h:OptR κ w N x v)(dflt:Int)(h0:0≤(match (x:Option AV) with | some (.val (.int _ i))=>i | some _=>-1 | none=>dflt)) :
  (x=none∧v=none)∨∃ k i,x=some (.val (.int k i))∧v=some (.int k i):=by
 cases h with
 |no=>exact .inl ⟨rfl,rfl⟩
 |yes hv=>
   rename_i x v;cases x<;>try (simp at h0;done)
   rename_i u;cases u<;>try (simp at h0;done)
   exact .inr ⟨_,_,rfl,by rw[hv.intOf]⟩
theorem J1F {isS:Bool}{len cap:Nat}{lo hi:Option AV}{vlo vhi:Option Value}(hlo:OptR κ w N lo vlo)(hhi:OptR κ w N hi vhi)(hc:len≤cap){C:Nat→Nat→Prop}(h:bnds len lo hi C)(w':World) :
  ∃ l h,l≤h∧h≤len∧C l h∧(Instr.sliceBounds isS len cap vlo vhi none).run P w'=.ok (l,h,cap) w':=by
 obtain ⟨h1,h2,h3,hC⟩:=h;refine ⟨_,_,?_,?_,hC,?_⟩
 ·omega
 ·omega
 ·rcases JBZ hlo 0 h1 with ⟨rfl,rfl⟩ | ⟨k,i,rfl,rfl⟩<;>rcases JBZ hhi len (by omega) with ⟨rfl,rfl⟩ | ⟨k',j,rfl,rfl⟩<;>simp only[Int.toNat_natCast] at h1 h2 h3 ⊢
  ·simp[Instr.sliceBounds,Sem.run_bind]
  ·have:0≤j∧j≤cap:=⟨by omega,by omega⟩;simp[Instr.sliceBounds,Instr.sliceBound,asIntOf,Sem.run_bind,this]
  ·have:0≤i∧i≤len:=⟨by omega,by omega⟩;simp[Instr.sliceBounds,Instr.sliceBound,asIntOf,Sem.run_bind,this]
  ·have e1:0≤j∧j≤cap:=⟨by omega,by omega⟩;have e2:0≤i∧i≤(j.toNat:Int):=⟨by omega,by omega⟩;simp[Instr.sliceBounds,Instr.sliceBound,asIntOf,Sem.run_bind,e1,e2];omega
end
end Go.Fw
