/- Part 20 of the proof. -/
import Derived.Test.YtlblbldolhiokaaGreatDoorDual19
set_option linter.unusedVariables false
set_option linter.unusedSimpArgs false
set_option linter.unusedSectionVars false
set_option maxRecDepth 100000
set_option exponentiation.threshold 400
set_option maxHeartbeats 8000000
namespace Go.Fw
open Go.RowKit
def gdst (ops:Array Oper)(j:Nat):Option Nat:=(ops[j]?).bind (·.dst)
def J0t (nt:Nat)(o:Oper):Bool:=
 (match o.dst with|some d=>decide (d<nt)|none=>true)&&o.op.operands.toList.all J7r
def J0T (nt:Nat):Code→Bool
 |.region _ ops _=>ops.toList.all (J0t nt)
 |.seq a b=>J0T nt a&&J0T nt b
 |.cond c a b=>J7r c&&J0T nt a&&J0T nt b
 |.block _ b=>J0T nt b
 |.loop b=>J0T nt b
 |.scope b=>J0T nt b
 |_=>true
section
variable {E:En} {gh:Gh} {κ:KM} {σ:Fr} {H:Hp} {a:Act} {w:World}
def Fits (gh:Gh)(K:Fr→Hp→Prop)(a:Act)(w:World):Prop:=∃ κ σ H,K σ H∧Rel gh κ σ H a w
def opdG (σ:Fr)(x:Operand):AV:=if J7r x then opd σ x else .dead
theorem Rel.opdG (h:Rel gh κ σ H a w)(x:Operand):VR κ w (Nset gh.O κ H) (opdG σ x) (a.eval x):=by
 unfold Fw.opdG;split
 ·rename_i hx;exact h.opd x hx
 ·exact .dead _
theorem Rel.step (h:Rel gh κ σ H a w){d:Option Nat}(hd:∀ x,d=some x→x<gh.nt){C:AV→Hp→Prop}{v:Value}{w':World}(hs:Step gh κ H w C v w') :
  ∃ x H' κ',C x H'∧Rel gh κ' (Fw.put σ d x) H' (a.put d v) w':=by
 obtain ⟨x,H',κ',h1,h2,h3,h4⟩:=hs;have h':Rel gh κ' σ H' a w':=⟨h2,fun y=>h4 (h.slots y),h.size,h.defers,fun x v hx=>h4 (h.tr x v hx)⟩;exact ⟨x,H',κ',h1,h'.put d hd h3⟩
end
theorem J6v {E:En}{ρ ρ':Operand→AV}{H:Hp}{o:Oper}{C:AV→Hp→Prop}(hρ:∀ x∈o.op.operands.toList,ρ x=ρ' x)(h:evOp E ρ H o C):evOp E ρ' H o C:=by
 obtain ⟨dst,op,ty,pos,after,guard⟩:=o;simp only at hρ;unfold evOp at h ⊢;cases op<;>simp only[Op.operands] at hρ h ⊢<;>try exact h.elim
 case move x=>rw[← hρ x (by simp)];exact h
 case assign x=>rw[← hρ x (by simp)];exact h
 case pick c a b=>rw[← hρ c (by simp),← hρ a (by simp),← hρ b (by simp)];exact h
 case box t x=>rw[← hρ x (by simp)];exact h
 case alloc t=>exact h
 case build t ps=>
  have:(ps.toList.map fun p=>(p.1,ρ' p.2))=ps.toList.map fun p=>(p.1,ρ p.2):=List.map_congr_left fun p hp=>by rw[hρ p.2 (by simp;exact ⟨p.1,by simpa using hp⟩)]
  rw[this];exact h
 case buildSlice t n ps=>
  have:(ps.toList.map fun p=>(p.1,ρ' p.2))=ps.toList.map fun p=>(p.1,ρ p.2):=List.map_congr_left fun p hp=>by rw[hρ p.2 (by simp;exact ⟨p.1,by simpa using hp⟩)]
  rw[this];exact h
 case load t x=>rw[← hρ x (by simp)];exact h
 case store t x y=>rw[← hρ x (by simp),← hρ y (by simp)];exact h
 case nilCheck x=>rw[← hρ x (by simp)];exact h
 case binOp op t x y yt=>rw[← hρ x (by simp),← hρ y (by simp)];exact h
 case unOp op t x=>rw[← hρ x (by simp)];exact h
 case convert s d x=>rw[← hρ x (by simp)];exact h
 case makeFunc f first cap=>
  have e1:first.toList.map ρ'=first.toList.map ρ:=List.map_congr_left fun x hx=>(hρ x (by simp;exact .inl (by simpa using hx))).symm;have e2:cap.toList.map ρ'=cap.toList.map ρ:=List.map_congr_left fun x hx=>(hρ x (by simp;exact .inr (by simpa using hx))).symm;rw[e1,e2];exact h
 case makeSlice t l c=>rw[← hρ l (by simp),← hρ c (by simp)];exact h
 case slice t x lo hi mx=>
  have e0:=hρ x (by simp);have e1:lo.map ρ'=lo.map ρ:=by cases lo<;>simp;exact (hρ _ (by simp)).symm
  have e2:hi.map ρ'=hi.map ρ:=by cases hi<;>simp;exact (hρ _ (by simp)).symm
  have e3:mx.map ρ'=mx.map ρ:=by cases mx<;>simp;exact (hρ _ (by simp)).symm
  rw[← e0,e1,e2,e3];exact h
 case fieldAddr t x f=>rw[← hρ x (by simp)];exact h
 case field t x f=>rw[← hρ x (by simp)];exact h
 case indexAddr t x i=>rw[← hρ x (by simp),← hρ i (by simp)];exact h
 case index t x i=>rw[← hρ x (by simp),← hρ i (by simp)];exact h
 case extract x i=>rw[← hρ x (by simp)];exact h
 case makeMap t r=>
  have e:r.map ρ'=r.map ρ:=by cases r<;>simp;exact (hρ _ (by simp)).symm
  rw[e];exact h
 case lookup t x k ok=>rw[← hρ x (by simp),← hρ k (by simp)];exact h
 case mapUpdate t m k x=>rw[← hρ m (by simp),← hρ k (by simp),← hρ x (by simp)];exact h
 case insert t m k x=>rw[← hρ m (by simp),← hρ k (by simp),← hρ x (by simp)];exact h
 case range t x=>rw[← hρ x (by simp)];exact h
 case next it isS=>rw[← hρ it (by simp)];exact h
 case entry it=>rw[← hρ it (by simp)];exact h
 case call c=>
  obtain ⟨callee,args,ats⟩:=c;have ha:∀ x∈args.toList,ρ x=ρ' x:=fun x hx=>hρ x (by simp[Call.operands];exact .inr (by simpa using hx));unfold J3Z at h ⊢;simp only at h ⊢
  cases callee with
  |builtin b=>
    cases b<;>simp only at h ⊢<;>try exact h.elim
    ·revert h ha
     generalize args.toList=l;generalize ats.toList=l';intro ha h;split at h
     ·rw[← ha _ (by simp),← ha _ (by simp)];exact h
     ·exact h.elim
    ·revert h ha
     generalize args.toList=l;generalize ats.toList=l';intro ha h;split at h
     ·rw[← ha _ (by simp)];exact h
     ·exact h.elim
    ·revert h ha
     generalize args.toList=l;generalize ats.toList=l';intro ha h;split at h
     ·rw[← ha _ (by simp),← ha _ (by simp)];exact h
     ·exact h.elim
    ·revert h ha
     generalize args.toList=l;generalize ats.toList=l';intro ha h;split at h
     ·rw[← ha _ (by simp)];exact h
     ·exact h.elim
    ·rw[show args.toList.map ρ'=args.toList.map ρ from List.map_congr_left fun x hx=>(ha x hx).symm];exact h
    ·rw[show args.toList.map ρ'=args.toList.map ρ from List.map_congr_left fun x hx=>(ha x hx).symm];exact h
  |value f=>
    have hf:=hρ f (by simp[Call.operands]);have e1:args.toList.map ρ'=args.toList.map ρ:=List.map_congr_left fun x hx=>(ha x hx).symm;simp only at h ⊢;rw[← hf,e1];exact h
  |invoke r m=>exact h.elim
section
variable {E:En} {gh:Gh}
def W (σ:Fr)(H:Hp)(R:Fr→Hp→Prop):Prop:=∀ (gh:Gh) (κ:KM) (a:Act) (w:World),Rel gh κ σ H a w→∃ κ' σ' H',R σ' H'∧Rel gh κ' σ' H' a w
def JH1 (id:Nat)(Q:Exit→Fr→Hp→Prop):Exit→Fr→Hp→Prop
 |.exit id',σ,H=>if id'=id then Q .normal σ H else Q (.exit id') σ H
 |e,σ,H=>Q e σ H
def JKr (K:Fr→Hp→Prop)(Q:Exit→Fr→Hp→Prop):Exit→Fr→Hp→Prop
 |.normal,σ,H=>K σ H
 |e,σ,H=>Q e σ H
def DOk (E:En)(D:Array Oper→(Fr→Hp→Prop)→Fr→Hp→Prop):Prop:=
 ∀ (gh:Gh) (id:Nat) (ops:Array Oper) (K:Fr→Hp→Prop) (κ:KM) (σ:Fr) (H:Hp) (a:Act) (w:World),ops.toList.all (J0t gh.nt)=true→D ops K σ H→Rel gh κ σ H a w →
   ∀ Q:Exit→Act→World→Prop,(∀ a w,Fits gh K a w→Q .normal a w)→(Code.region id ops true).wp E.P Q a w
def lift (gh:Gh)(Q:Exit→Fr→Hp→Prop)(e:Exit)(a:Act)(w:World):Prop:=Fits gh (Q e) a w
end
end Go.Fw
