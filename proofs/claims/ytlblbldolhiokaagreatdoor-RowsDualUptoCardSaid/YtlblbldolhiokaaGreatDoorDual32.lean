/- Part 32 of the proof. -/
import Derived.Test.YtlblbldolhiokaaGreatDoorDual31
set_option linter.unusedVariables false
set_option linter.unusedSimpArgs false
set_option linter.unusedSectionVars false
set_option maxRecDepth 100000
set_option exponentiation.threshold 400
set_option maxHeartbeats 8000000
namespace Go.Fw
open Go.RowKit
structure CallG (E:En) (γ:Nat) (f:Nat) (S:List Nat) (args:List AV) (H:Hp) (d:Option Nat) (C:AV→Up→Prop):Prop where
 mk' ::
 o:J03 E.P f∧JDL E γ f S args H d C
section
variable {E:En} {γ f:Nat} {S:List Nat} {args:List AV} {H:Hp} {d:Option Nat} {C:AV→Up→Prop}
theorem CallG.intro (r:AV)(hc:J03 E.P f)(h:PureCall E.P f (args.map JAK) r)(k:C r none):CallG E γ f S args H d C:=⟨⟨hc,.inl ⟨r,h,k⟩⟩⟩
theorem CallG.new {dd:Nat}(b0 e k:Nat)(xs:List AV)(off len:Nat)(hc:J03 E.P f)(h:HCall E.P f (args.map (snap S H)) (hp []) (J9w b0 off len e k xs))(hx:J4d xs)(K:C (.own (E.base+dd) γ off len) (some (E.base+dd,γ,⟨e,k,xs⟩))):CallG E γ f S args H (some dd) C:=
 ⟨⟨hc,.inr (.inl ⟨dd,b0,e,k,xs,off,len,rfl,hx,h,K⟩)⟩⟩
theorem CallG.flat (r:AV)(hc:J03 E.P f)(h:PureCall E.P f (args.map (snap S H)) r)(hf:Fw.flat r=true)(k:C r none):CallG E γ f S args H d C:=⟨⟨hc,.inr (.inr (.inr (.inl ⟨r,hf,h,k⟩)))⟩⟩
theorem J0V {b g:Nat}{B:Blk}(r:AV)(hc:J03 E.P f)(hS:S=[b])(hb:H b=some (g,B))(hn:0<B.n)(h:PureCall E.P f (args.map (snap [b] H)) r)(k:C r (some (b,γ,⟨B.e,B.n,[]⟩))):CallG E γ f S args H d C:=⟨⟨hc,.inr (.inr (.inr (.inr ⟨b,g,B,r,hS,hb,hn,h,k⟩)))⟩⟩
theorem CallG.out (h:CallG E γ f S args H d C):J03 E.P f∧JDL E γ f S args H d C:=h.o
end
def JAq (E:En)(γ:Nat)(ρ:Operand→AV)(H:Hp)(c:Call)(d:Option Nat)(C:AV→Up→Prop):Prop:=
 match c.callee with
 |.builtin .len=>match c.args.toList,c.argTypes.toList with
   |[x],[t]=>JHO E.T t (ρ x) fun v=>C v none
   |_,_=>False
 |.builtin .append=>match c.args.toList,c.argTypes.toList,d with
   |[x,y],[t,t'],some d=>match Nat.beq t t' with
     |true=>J4v E.T H t (E.base+d) γ (ρ x) (ρ y) C
     |false=>False
   |_,_,_=>False
 |.builtin .max=>cvMM true (c.args.toList.map ρ) fun v=>C v none
 |.builtin .min=>cvMM false (c.args.toList.map ρ) fun v=>C v none
 |.builtin .copy=>match c.args.toList,c.argTypes.toList with
   |[x,y],[t,t']=>JC3 E.T H t (ρ x) (ρ y) C
   |_,_=>False
 |.value f=>match ρ f with
   |.fn (.func n) first cap=>CallG E γ n ((c.args.toList.map ρ).flatMap nm) (first++c.args.toList.map ρ++cap) H d C
   |_=>False
 |_=>False
def JFT (P:Program)(T:Nat→Option TD)(op:BinOp)(t:Nat)(x y:AV)(C:AV→Prop):Prop:=
 match x,y with
 |.sl _ _,_=>False
 |.own _ _ _ _,_=>False
 |_,_=>JHP P T op t x y C
def cvG (E:En)(γ:Nat)(ρ:Operand→AV)(H:Hp)(o:Oper)(C:AV→Up→Prop):Prop:=
 match o.op with
 |.move x=>fv (ρ x) fun v=>C v none
 |.assign x=>fv (ρ x) fun v=>C v none
 |.pick c a b=>match ρ c with
   |.val (.bool t)=>CondP t (fv (ρ a) fun v=>C v none) (fv (ρ b) fun v=>C v none)
   |_=>False
 |.load t x=>J77 E.T H t (ρ x) fun v=>C v none
 |.fieldAddr s x f=>J2G E.T s (ρ x) f fun v=>C v none
 |.field s x f=>J4t E.T s (ρ x) f fun v=>C v none
 |.indexAddr t x i=>J2F E.T H t (ρ x) (ρ i) fun v=>C v none
 |.index t x i=>J85 E.T t (ρ x) (ρ i) fun v=>C v none
 |.extract x i=>J3i (ρ x) i fun v=>C v none
 |.slice t x lo hi mx=>J4s E.P E.T H t (ρ x) (lo.map ρ) (hi.map ρ) (mx.map ρ) fun v=>C v none
 |.binOp op t x y _=>JFT E.P E.T op t (ρ x) (ρ y) fun v=>C v none
 |.unOp op _ x=>cvUn op (ρ x) fun v=>C v none
 |.convert s d x=>JC4 E.T s d (ρ x) fun v=>C v none
 |.makeFunc f first cap=>C (.fn f (first.toList.map ρ) (cap.toList.map ρ)) none
 |.nilCheck x=>match ρ x with
   |.ep y k=>C (.ep y k) none
   |.op b g i k=>C (.op b g i k) none
   |.fn (.func f) a c=>C (.fn (.func f) a c) none
   |_=>False
 |.build t parts=>J87 E.T t (parts.toList.map fun p=>(p.1,ρ p.2)) fun v=>C v none
 |.box t x=>match o.dst with
   |some d=>match J2K (ρ x) with
     |true=>C (.op (E.base+d) γ 0 0) (some (E.base+d,γ,⟨t,(ρ x).cells.length,[ρ x]⟩))
     |false=>False
   |none=>False
 |.alloc t=>match o.dst with
   |some d=>match E.T t with
     |some td=>C (.op (E.base+d) γ 0 0) (some (E.base+d,γ,⟨t,td.size,[mkEl td]⟩))
     |none=>False
   |none=>False
 |.makeSlice t l c=>match o.dst with
   |some d=>JC1 E.T t (E.base+d) γ (ρ l) (ρ c) C
   |none=>False
 |.buildSlice t len parts=>match o.dst with
   |some d=>J2g E.T t (E.base+d) γ len (parts.toList.map fun p=>(p.1,ρ p.2)) C
   |none=>False
 |.store t a x=>J81 E.T H t (ρ a) (ρ x) fun up=>C (.tup []) up
 |.call c=>JAq E γ ρ H c o.dst C
 |.lookup t x k ok=>J84 E.P E.T H t (ρ x) (ρ k) ok fun v=>C v none
 |_=>False
section
variable {P:Program} {T:Nat→Option TD} {E:En}
theorem JEz {op:BinOp}{t:Nat}{x y:AV}{C:AV→Prop}(h1:∀ n xs,x≠.sl n xs)(h2:∀ a b c d,x≠.own a b c d)(h:J3a P T op t x y C):∃ v,C v∧J3a P T op t x y (· = v):=by
 unfold J3a at h ⊢;split at h
 ·rename_i k a k' b;simp only;split at h
  ·rename_i hop;simp only[if_pos hop];unfold JAh at h ⊢;split at h
   ·rename_i e1 e2;cases e1;cases e2;obtain ⟨q1,q2⟩:=h;exact ⟨_,q2,q1,rfl⟩
   ·rename_i e1 e2;cases e1;cases e2;obtain ⟨q1,q2⟩:=h;exact ⟨_,q2,q1,rfl⟩
   ·exact h.elim
  ·rename_i hop;simp only[if_neg hop];obtain ⟨rfl,h⟩:=h;obtain ⟨v,q1,q2⟩:=h.out;exact ⟨_,q1,rfl,q2 _ rfl⟩
 ·simp only;obtain ⟨v,q1,q2⟩:=h.out;exact ⟨_,q1,q2 _ rfl⟩
 ·rename_i hx hy;obtain ⟨hop,h⟩:=h
  have key:∃ b:Bool,C (.val (.bool (if op=.eql then b else !b)))∧∀ C':Bool→Prop,C' b→evEq P T t x y C':=by
   obtain ⟨d,hd,h⟩:=h;split at h
   ·exact ⟨_,h.2,fun C' h'=>⟨d,hd,h.1,h'⟩⟩
   ·obtain ⟨hg,h⟩:=h
    rcases h with ⟨fs,hk,hs,hn,ks,hks,b,hb,hC⟩|⟨e,hk,ed,hed,hs1,ha,x0,x1,y0,y1,rfl,rfl,b,hb,hC⟩|⟨b,hb,hC⟩
    ·exact ⟨_,hC,fun C' h'=>⟨d,hd,hg,.inl ⟨fs,hk,hs,hn,ks,hks,b,hb,h'⟩⟩⟩
    ·exact ⟨_,hC,fun C' h'=>⟨d,hd,hg,.inr (.inl ⟨e,hk,ed,hed,hs1,ha,x0,x1,y0,y1,rfl,rfl,b,hb,h'⟩)⟩⟩
    ·exact ⟨_,hC,fun C' h'=>⟨d,hd,hg,.inr (.inr ⟨b,hb,h'⟩)⟩⟩
   ·exact ⟨_,h.2,fun C' h'=>⟨d,hd,h.1,h'⟩⟩
   ·exact ⟨_,h.2,fun C' h'=>⟨d,hd,h.1,h'⟩⟩
   ·exact ⟨_,h.2,fun C' h'=>⟨d,hd,h.1,h'⟩⟩
   ·exact ⟨_,h.2,fun C' h'=>⟨d,hd,h.1,h'⟩⟩
   ·exact ⟨_,h.2,fun C' h'=>⟨d,hd,h.1,h'⟩⟩
   ·exact ⟨_,h.2,fun C' h'=>⟨d,hd,h.1,h'⟩⟩
   ·exact absurd rfl (h1 _ _)
   ·exact absurd rfl (h2 _ _ _ _)
   ·exact h.elim
  obtain ⟨b,q1,q2⟩:=key;refine ⟨_,q1,?_⟩
  split<;>first|exact ⟨hop,q2 _ rfl⟩|exact (hx _ _ _ _ rfl rfl).elim|exact (hy _ _ rfl rfl).elim
theorem JFS {op:BinOp}{t:Nat}{x y:AV}{C:AV→Prop}(h:JFT P T op t x y C):∃ r,C r∧J3a P T op t x y (· = r):=by
 unfold JFT at h;split at h
 ·exact h.elim
 ·exact h.elim
 ·rename_i h1 h2;exact JEz (fun n xs e=>h1 n xs e) (fun a b c d e=>h2 a b c d e) (JC5 h)
theorem JDB {γ:Nat}{ρ:Operand→AV}{H:Hp}{c:Call}{d:Option Nat}{C:AV→Up→Prop}(h:JAq E γ ρ H c d C):J2c E γ ρ H c d C:=by
 obtain ⟨callee,args,ats⟩:=c;unfold JAq at h;unfold J2c
 cases callee with
 |builtin bi=>
   cases bi<;>simp only at h ⊢<;>try exact h.elim
   ·split at h
    ·split at h
     ·rename_i h1 h2 _ ht;simp only[h1,h2];exact ⟨Nat.eq_of_beq_eq_true ht,J68 h⟩
     ·exact h.elim
    ·exact h.elim
   ·split at h
    ·rename_i h1 h2;simp only[h1,h2];exact J9Q h
    ·exact h.elim
   ·split at h
    ·rename_i h1 h2;simp only[h1,h2];exact JC2 h
    ·exact h.elim
   ·exact J83 h
   ·exact J83 h
 |value f=>
   simp only at h ⊢;split at h
   ·rename_i h1;simp only[h1];exact h.out
   ·exact h.elim
 |invoke r m=>exact h.elim
theorem JKa (hT:TOk E.P E.T){γ:Nat}{ρ:Operand→AV}{H:Hp}{o:Oper}{C:AV→Up→Prop}(h:cvG E γ ρ H o C):evG E γ ρ H o C:=by
 obtain ⟨dst,op,ty,pos,after,guard⟩:=o;unfold cvG at h;unfold evG;cases op<;>simp only[J5e] at h ⊢<;>try exact h.elim
 case move=>exact h
 case assign=>exact h
 case pick c a b=>
  generalize ρ c=x at h;split at h
  ·have hq:=h.out;rename_i t;cases t
   ·simpa using hq.2 rfl
   ·simpa using hq.1 rfl
  ·exact h.elim
 case load=>exact J3h hT h
 case fieldAddr=>exact J37 h
 case field=>exact J66 hT h
 case indexAddr=>exact J36 h
 case index=>exact J78 hT h
 case extract=>exact J4U h
 case slice=>exact J62 h
 case binOp=>exact JFS h
 case unOp=>exact JFG h
 case convert=>exact J9R h
 case makeFunc=>exact h
 case nilCheck=>exact h
 case build=>exact J7A h
 case box t x=>
  cases dst with
  |none=>exact h.elim
  |some d=>
    simp only at h ⊢;split at h
    ·rename_i hk;exact ⟨hk,h⟩
    ·exact h.elim
 case alloc t=>
  cases dst with
  |none=>exact h.elim
  |some d=>
    simp only at h ⊢;split at h
    ·rename_i td ht;exact ⟨td,ht,h⟩
    ·exact h.elim
 case makeSlice=>
  cases dst with
  |none=>exact h.elim
  |some d=>exact J9P h
 case buildSlice=>
  cases dst with
  |none=>exact h.elim
  |some d=>exact J2f h
 case store=>exact J75 h
 case lookup=>exact J65 hT h
 case call=>exact JDB h
end
def J3K (E:En)(ops:Array Oper)(γs:Nat→Nat):Nat→List Oper→Fr→Hp→List St→(Fr→Hp→List St→Prop)→Prop
 |_,[],σ,H,acc,K=>K σ H acc.reverse
 |i,o::r,σ,H,acc,K=>
   match o.guard with
   |none=>cvG E (γs i) (opd σ) H o fun v up=>J3K E ops γs (i+1) r (put σ o.dst v) (app H up) (⟨v,up,J2A (opd σ) o⟩::acc) K
   |some (j,want)=>match gdst ops j with
     |some t=>match σ t with
       |.val (.bool b)=>match want with
         | true=>CondP b (cvG E (γs i) (opd σ) H o fun v up=>J3K E ops γs (i+1) r (put σ o.dst v) (app H up) (⟨v,up,J2A (opd σ) o⟩::acc) K)
          (J3K E ops γs (i+1) r (put σ o.dst (.tup [])) H (⟨.tup [],none,[]⟩::acc) K)
         | false=>CondP b (J3K E ops γs (i+1) r (put σ o.dst (.tup [])) H (⟨.tup [],none,[]⟩::acc) K)
          (cvG E (γs i) (opd σ) H o fun v up=>J3K E ops γs (i+1) r (put σ o.dst v) (app H up) (⟨v,up,J2A (opd σ) o⟩::acc) K)
       |.tup []=>J3K E ops γs (i+1) r (put σ o.dst (.tup [])) H (⟨.tup [],none,[]⟩::acc) K
       |_=>False
     |none=>False
theorem J3n {E:En}(hT:TOk E.P E.T){ops:Array Oper}{γs:Nat→Nat}:∀ {l:List Oper} {i:Nat} {σ:Fr} {H:Hp} {acc:List St} {K:Fr→Hp→List St→Prop},J3K E ops γs i l σ H acc K →
  ∃ L σ' H',L.length=l.length∧J6T E ops γs i l σ H L σ' H'∧K σ' H' (acc.reverse++L)
 |[],i,σ,H,acc,K,h=>⟨[],σ,H,rfl,⟨rfl,rfl⟩,by simpa [J3K] using h⟩
 |o :: r, i,σ,H,acc,K,h=>by
   have run:gOk ops σ o=some true→(cvG E (γs i) (opd σ) H o fun v up=>J3K E ops γs (i+1) r (put σ o.dst v) (app H up) (⟨v,up,J2A (opd σ) o⟩::acc) K) →
    ∃ L σ' H',L.length=(o::r).length∧J6T E ops γs i (o::r) σ H L σ' H'∧K σ' H' (acc.reverse++L):=by
    intro hg h;obtain ⟨v,up,h1,h2⟩:=(JKa hT h).out;obtain ⟨L,σ',H',q1,q2,q3⟩:=J3n hT h1;exact ⟨⟨v,up,J2A (opd σ) o⟩::L,σ',H',by simp[q1],⟨.inl ⟨hg,h2,rfl⟩,q2⟩,by simpa using q3⟩
   have skip:gOk ops σ o=some false→J3K E ops γs (i+1) r (put σ o.dst (.tup [])) H (⟨.tup [],none,[]⟩::acc) K →
    ∃ L σ' H',L.length=(o::r).length∧J6T E ops γs i (o::r) σ H L σ' H'∧K σ' H' (acc.reverse++L):=by
    intro hg h;obtain ⟨L,σ',H',q1,q2,q3⟩:=J3n hT h;exact ⟨⟨.tup [],none,[]⟩::L,σ',H',by simp[q1],⟨.inr ⟨hg,rfl⟩,q2⟩,by simpa using q3⟩
   unfold J3K at h;split at h
   ·rename_i hgd;exact run (by simp[gOk,hgd]) h
   ·rename_i j want hgd;split at h
    ·rename_i t ht;split at h
     ·rename_i b hb;cases want
      ·have hq:=h.out;cases b
       ·exact run (by simp[gOk,hgd,ht,hb]) (hq.2 rfl)
       ·exact skip (by simp[gOk,hgd,ht,hb]) (hq.1 rfl)
      ·have hq:=h.out;cases b
       ·exact skip (by simp[gOk,hgd,ht,hb]) (hq.2 rfl)
       ·exact run (by simp[gOk,hgd,ht,hb]) (hq.1 rfl)
     ·rename_i hb;exact skip (by simp[gOk,hgd,ht,hb]) h
     ·exact h.elim
    ·exact h.elim
theorem DrawG.intro {E:En}(hT:TOk E.P E.T){ops:Array Oper}{K:Fr→Hp→Prop}{σ:Fr}{H:Hp}(h:∀ γs:Nat→Nat,J3K E ops γs 0 ops.toList σ H [] fun σ' H' L=>Need (J2h ops [] [] (ops.toList.zip L)=true) (K σ' H')) :
  DrawP (DG E) ops K σ H:=by
 refine DrawP.intro fun γs=>?_;obtain ⟨L,σ',H',h1,h2,h3⟩:=J3n hT (h γs);have hq:=h3.out;simp only[List.reverse_nil,List.nil_append] at hq;exact ⟨L,σ',H',by simpa using h1,h2,hq.1,hq.2⟩
end Go.Fw
