/- Part 32 of a proof. -/
import Derived.Test.YtlblbldolhiokaaGreatDoorRs31
set_option linter.all false
set_option maxRecDepth 99999
set_option maxHeartbeats 0
namespace Go.Fw
open Go.RowKit
structure CallG (E:En) (γ:Nat) (f:Nat) (S:List Nat) (args:List AV) (H:Hp) (d:Option Nat) (C:AV→Up→Prop):Prop where
 mk' ::
 o:J05 E.P f∧JGU E γ f S args H d C
section
variable {E:En} {γ f:Nat} {S:List Nat} {args:List AV} {H:Hp} {d:Option Nat} {C:AV→Up→Prop}
def CallG.intro (r:AV)(hc:J05 E.P f)(h:PureCall E.P f (args.map JHQ) r)(k:C r none):CallG E γ f S args H d C:=⟨⟨hc,.inl ⟨r,h,k⟩⟩⟩
def CallG.new {dd:Nat}(b0 e k:Nat)(xs:List AV)(off len:Nat)(hc:J05 E.P f)(h:HCall E.P f (args.map (snap S H)) (hp []) (JCj b0 off len e k xs))(hx:J6J xs)(K:C (.own (E.base+dd) γ off len) (some (E.base+dd,γ,⟨e,k,xs⟩))):CallG E γ f S args H (some dd) C:=
 ⟨⟨hc,.inr (.inl ⟨dd,b0,e,k,xs,off,len,rfl,hx,h,K⟩)⟩⟩
def CallG.flat (r:AV)(hc:J05 E.P f)(h:PureCall E.P f (args.map (snap S H)) r)(hf:Fw.flat r=true)(k:C r none):CallG E γ f S args H d C:=⟨⟨hc,.inr (.inr (.inr (.inl ⟨r,hf,h,k⟩)))⟩⟩
def CallG.out (h:CallG E γ f S args H d C):J05 E.P f∧JGU E γ f S args H d C:=h.o
end
def JDV (E:En)(γ:Nat)(ρ:Operand→AV)(H:Hp)(c:Call)(d:Option Nat)(C:AV→Up→Prop):Prop:=
 match c.callee with
 |.builtin .len=>match c.args.toList,c.argTypes.toList with
   |[x],[t]=>JLX E.T t (ρ x) fun v=>C v none
   |_,_=>False
 |.builtin .append=>match c.args.toList,c.argTypes.toList,d with
   |[x,y],[t,t'],some d=>match Nat.beq t t' with
     |true=>J6g E.T H t (E.base+d) γ (ρ x) (ρ y) C
     |false=>False
   |_,_,_=>False
 |.builtin .max=>cvMM true (c.args.toList.map ρ) fun v=>C v none
 |.builtin .min=>cvMM false (c.args.toList.map ρ) fun v=>C v none
 |.builtin .copy=>match c.args.toList,c.argTypes.toList with
   |[x,y],[t,t']=>JEw E.T H t (ρ x) (ρ y) C
   |_,_=>False
 |.value f=>match ρ f with
   |.fn (.func n) first cap=>CallG E γ n ((c.args.toList.map ρ).flatMap nm) (first++c.args.toList.map ρ++cap) H d C
   |_=>False
 |_=>False
def JJ2 (P:Program)(T:Nat→Option TD)(op:BinOp)(t:Nat)(x y:AV)(C:AV→Prop):Prop:=
 match x,y with
 |.sl _ _,_=>False
 |.own _ _ _ _,_=>False
 |_,_=>JLY P T op t x y C
def cvG (E:En)(γ:Nat)(ρ:Operand→AV)(H:Hp)(o:Oper)(C:AV→Up→Prop):Prop:=
 match o.op with
 |.move x=>fv (ρ x) fun v=>C v none
 |.assign x=>fv (ρ x) fun v=>C v none
 |.pick c a b=>match ρ c with
   |.val (.bool t)=>CondP t (fv (ρ a) fun v=>C v none) (fv (ρ b) fun v=>C v none)
   |_=>False
 |.load t x=>J9O E.T H t (ρ x) fun v=>C v none
 |.fieldAddr s x f=>J2q E.T s (ρ x) f fun v=>C v none
 |.field s x f=>J6e E.T s (ρ x) f fun v=>C v none
 |.indexAddr t x i=>J2p E.T H t (ρ x) (ρ i) fun v=>C v none
 |.index t x i=>JAW E.T t (ρ x) (ρ i) fun v=>C v none
 |.extract x i=>J5A (ρ x) i fun v=>C v none
 |.slice t x lo hi mx=>J6d E.P E.T H t (ρ x) (lo.map ρ) (hi.map ρ) (mx.map ρ) fun v=>C v none
 |.binOp op t x y _=>JJ2 E.P E.T op t (ρ x) (ρ y) fun v=>C v none
 |.unOp op _ x=>cvUn op (ρ x) fun v=>C v none
 |.convert s d x=>JEx E.T s d (ρ x) fun v=>C v none
 |.makeFunc f first cap=>C (.fn f (first.toList.map ρ) (cap.toList.map ρ)) none
 |.nilCheck x=>match ρ x with
   |.ep y k=>C (.ep y k) none
   |.op b g i k=>C (.op b g i k) none
   |.fn (.func f) a c=>C (.fn (.func f) a c) none
   |_=>False
 |.build t parts=>JAY E.T t (parts.toList.map fun p=>(p.1,ρ p.2)) fun v=>C v none
 |.box t x=>match o.dst with
   |some d=>match J2w (ρ x) with
     |true=>C (.op (E.base+d) γ 0 0) (some (E.base+d,γ,⟨t,(ρ x).cells.length,[ρ x]⟩))
     |false=>False
   |none=>False
 |.alloc t=>match o.dst with
   |some d=>match E.T t with
     |some td=>C (.op (E.base+d) γ 0 0) (some (E.base+d,γ,⟨t,td.size,[mkEl td]⟩))
     |none=>False
   |none=>False
 |.makeSlice t l c=>match o.dst with
   |some d=>JEu E.T t (E.base+d) γ (ρ l) (ρ c) C
   |none=>False
 |.buildSlice t len parts=>match o.dst with
   |some d=>J3N E.T t (E.base+d) γ len (parts.toList.map fun p=>(p.1,ρ p.2)) C
   |none=>False
 |.store t a x=>JAS E.T H t (ρ a) (ρ x) fun up=>C (.tup []) up
 |.call c=>JDV E γ ρ H c o.dst C
 |.lookup t x k ok=>JAV E.P E.T H t (ρ x) (ρ k) ok fun v=>C v none
 |_=>False
section
variable {P:Program} {T:Nat→Option TD} {E:En}
def JIZ {op:BinOp}{t:Nat}{x y:AV}{C:AV→Prop}(h1:∀ n xs,x≠.sl n xs)(h2:∀ a b c d,x≠.own a b c d)(h:J4y P T op t x y C):∃ v,C v∧J4y P T op t x y (· = v):=by
 unfold J4y at h ⊢;split at h
 ·rename_i k a k' b;simp only;split at h
  ·rename_i hop;simp only[if_pos hop];unfold JDO at h ⊢;split at h
   ·rename_i e1 e2;cases e1;cases e2;obtain ⟨q1,q2⟩:=h;exact ⟨_,q2,q1,rfl⟩
   ·rename_i e1 e2;cases e1;cases e2;obtain ⟨q1,q2⟩:=h;exact ⟨_,q2,q1,rfl⟩
   exact h.elim
  rename_i hop;simp only[if_neg hop];obtain ⟨rfl,h⟩:=h;obtain ⟨v,q1,q2⟩:=h.out;exact ⟨_,q1,rfl,q2 _ rfl⟩
 ·simp only;obtain ⟨v,q1,q2⟩:=h.out;exact ⟨_,q1,q2 _ rfl⟩
 rename_i hx hy;obtain ⟨hop,h⟩:=h
 have key:∃ b:Bool,C (.val (.bool (if op=.eql then b else !b)))∧∀ C':Bool→Prop,C' b→evEq P T t x y C':=by
  obtain ⟨d,hd,h⟩:=h;split at h
  ·exact ⟨_,h.2,fun C' h'=>⟨d,hd,h.1,h'⟩⟩
  ·obtain ⟨hg,h⟩:=h
   rcases h with ⟨fs,hk,hs,hn,ks,hks,b,hb,hC⟩|⟨e,hk,ed,hed,hs1,ha,x0,x1,y0,y1,rfl,rfl,b,hb,hC⟩|⟨b,hb,hC⟩
   ·exact ⟨_,hC,fun C' h'=>⟨d,hd,hg,.inl ⟨fs,hk,hs,hn,ks,hks,b,hb,h'⟩⟩⟩
   ·exact ⟨_,hC,fun C' h'=>⟨d,hd,hg,.inr (.inl ⟨e,hk,ed,hed,hs1,ha,x0,x1,y0,y1,rfl,rfl,b,hb,h'⟩)⟩⟩
   exact ⟨_,hC,fun C' h'=>⟨d,hd,hg,.inr (.inr ⟨b,hb,h'⟩)⟩⟩
  ·exact ⟨_,h.2,fun C' h'=>⟨d,hd,h.1,h'⟩⟩
  ·exact ⟨_,h.2,fun C' h'=>⟨d,hd,h.1,h'⟩⟩
  ·exact ⟨_,h.2,fun C' h'=>⟨d,hd,h.1,h'⟩⟩
  ·exact ⟨_,h.2,fun C' h'=>⟨d,hd,h.1,h'⟩⟩
  ·exact ⟨_,h.2,fun C' h'=>⟨d,hd,h.1,h'⟩⟩
  ·exact ⟨_,h.2,fun C' h'=>⟨d,hd,h.1,h'⟩⟩
  ·exact absurd rfl (h1 _ _)
  ·exact absurd rfl (h2 _ _ _ _)
  exact h.elim
 obtain ⟨b,q1,q2⟩:=key;refine ⟨_,q1,?_⟩
 split<;>first|exact ⟨hop,q2 _ rfl⟩|exact (hx _ _ _ _ rfl rfl).elim|exact (hy _ _ rfl rfl).elim
def JJ1 {op:BinOp}{t:Nat}{x y:AV}{C:AV→Prop}(h:JJ2 P T op t x y C):∃ r,C r∧J4y P T op t x y (· = r):=by
 unfold JJ2 at h;split at h
 ·exact h.elim
 ·exact h.elim
 rename_i h1 h2;exact JIZ (fun n xs e=>h1 n xs e) (fun a b c d e=>h2 a b c d e) (JEy h)
def JGF {γ:Nat}{ρ:Operand→AV}{H:Hp}{c:Call}{d:Option Nat}{C:AV→Up→Prop}(h:JDV E γ ρ H c d C):J3I E γ ρ H c d C:=by
 obtain ⟨callee,args,ats⟩:=c;unfold JDV at h;unfold J3I
 cases callee with
 |builtin bi=>
   cases bi<;>simp only at h ⊢<;>try exact h.elim
   ·split at h
    ·split at h
     ·rename_i h1 h2 _ ht;simp only[h1,h2];exact ⟨Q7 ht,J84 h⟩
     exact h.elim
    exact h.elim
   ·split at h
    ·rename_i h1 h2;simp only[h1,h2];exact JC7 h
    exact h.elim
   ·split at h
    ·rename_i h1 h2;simp only[h1,h2];exact JEv h
    exact h.elim
   ·exact JAU h
   exact JAU h
 |value f=>
   simp only at h ⊢;split at h
   ·rename_i h1;simp only[h1];exact h.out
   exact h.elim
 |invoke r m=>exact h.elim
def JPD (hT:TOk E.P E.T){γ:Nat}{ρ:Operand→AV}{H:Hp}{o:Oper}{C:AV→Up→Prop}(h:cvG E γ ρ H o C):evG E γ ρ H o C:=by
 obtain ⟨dst,op,ty,pos,after,guard⟩:=o;unfold cvG at h;unfold evG;cases op<;>simp only[J7d] at h ⊢<;>try exact h.elim
 case move=>exact h
 case assign=>exact h
 case pick c a b=>
  generalize ρ c=x at h;split at h
  ·have hq:=h.out;rename_i t;cases t
   ·simpa using hq.2 rfl
   simpa using hq.1 rfl
  exact h.elim
 case load=>exact J59 hT h
 case fieldAddr=>exact J42 h
 case field=>exact J82 hT h
 case indexAddr=>exact J41 h
 case index=>exact J9P hT h
 case extract=>exact J6C h
 case slice=>exact J7y h
 case binOp=>exact JJ1 h
 case unOp=>exact JIp h
 case convert=>exact JC8 h
 case makeFunc=>exact h
 case nilCheck=>exact h
 case build=>exact J9R h
 case box t x=>
  cases dst with
  |none=>exact h.elim
  |some d=>
    simp only at h ⊢;split at h
    ·rename_i hk;exact ⟨hk,h⟩
    exact h.elim
 case alloc t=>
  cases dst with
  |none=>exact h.elim
  |some d=>
    simp only at h ⊢;split at h
    ·rename_i td ht;exact ⟨td,ht,h⟩
    exact h.elim
 case makeSlice=>
  cases dst with
  |none=>exact h.elim
  |some d=>exact JC6 h
 case buildSlice=>
  cases dst with
  |none=>exact h.elim
  |some d=>exact J3M h
 case store=>exact J9M h
 case lookup=>exact J81 hT h
 case call=>exact JGF h
end
def J4H (E:En)(ops:Array Oper)(γs:Nat→Nat):Nat→List Oper→Fr→Hp→List St→(Fr→Hp→List St→Prop)→Prop
 |_,[],σ,H,acc,K=>K σ H acc.reverse
 |i,o::r,σ,H,acc,K=>
   match o.guard with
   |none=>cvG E (γs i) (opd σ) H o fun v up=>J4H E ops γs (i+1) r (put σ o.dst v) (app H up) (⟨v,up,J2f (opd σ) o⟩::acc) K
   |some (j,want)=>match gdst ops j with
     |some t=>match σ t with
       |.val (.bool b)=>match want with
         | true=>CondP b (cvG E (γs i) (opd σ) H o fun v up=>J4H E ops γs (i+1) r (put σ o.dst v) (app H up) (⟨v,up,J2f (opd σ) o⟩::acc) K)
          (J4H E ops γs (i+1) r (put σ o.dst (.tup [])) H (⟨.tup [],none,[]⟩::acc) K)
         | false=>CondP b (J4H E ops γs (i+1) r (put σ o.dst (.tup [])) H (⟨.tup [],none,[]⟩::acc) K)
          (cvG E (γs i) (opd σ) H o fun v up=>J4H E ops γs (i+1) r (put σ o.dst v) (app H up) (⟨v,up,J2f (opd σ) o⟩::acc) K)
       |.tup []=>J4H E ops γs (i+1) r (put σ o.dst (.tup [])) H (⟨.tup [],none,[]⟩::acc) K
       |_=>False
     |none=>False
theorem J5E {E:En}(hT:TOk E.P E.T){ops:Array Oper}{γs:Nat→Nat}:∀ {l:List Oper} {i:Nat} {σ:Fr} {H:Hp} {acc:List St} {K:Fr→Hp→List St→Prop},J4H E ops γs i l σ H acc K →
  ∃ L σ' H',L.length=l.length∧J8c E ops γs i l σ H L σ' H'∧K σ' H' (acc.reverse++L)
 |[],i,σ,H,acc,K,h=>⟨[],σ,H,rfl,⟨rfl,rfl⟩,by simpa [J4H] using h⟩
 |o :: r, i,σ,H,acc,K,h=>by
   have run:gOk ops σ o=some true→(cvG E (γs i) (opd σ) H o fun v up=>J4H E ops γs (i+1) r (put σ o.dst v) (app H up) (⟨v,up,J2f (opd σ) o⟩::acc) K) →
    ∃ L σ' H',L.length=(o::r).length∧J8c E ops γs i (o::r) σ H L σ' H'∧K σ' H' (acc.reverse++L):=by
    intro hg h;obtain ⟨v,up,h1,h2⟩:=(JPD hT h).out;obtain ⟨L,σ',H',q1,q2,q3⟩:=J5E hT h1;exact ⟨⟨v,up,J2f (opd σ) o⟩::L,σ',H',by simp[q1],⟨.inl ⟨hg,h2,rfl⟩,q2⟩,by simpa using q3⟩
   have skip:gOk ops σ o=some false→J4H E ops γs (i+1) r (put σ o.dst (.tup [])) H (⟨.tup [],none,[]⟩::acc) K →
    ∃ L σ' H',L.length=(o::r).length∧J8c E ops γs i (o::r) σ H L σ' H'∧K σ' H' (acc.reverse++L):=by
    intro hg h;obtain ⟨L,σ',H',q1,q2,q3⟩:=J5E hT h;exact ⟨⟨.tup [],none,[]⟩::L,σ',H',by simp[q1],⟨.inr ⟨hg,rfl⟩,q2⟩,by simpa using q3⟩
   unfold J4H at h;split at h
   ·rename_i hgd;exact run (by simp[gOk,hgd]) h
   rename_i j want hgd;split at h
   ·rename_i t ht;split at h
    ·rename_i b hb;cases want
     ·have hq:=h.out;cases b
      ·exact run (by simp[gOk,hgd,ht,hb]) (hq.2 rfl)
      exact skip (by simp[gOk,hgd,ht,hb]) (hq.1 rfl)
     have hq:=h.out;cases b
     ·exact skip (by simp[gOk,hgd,ht,hb]) (hq.2 rfl)
     exact run (by simp[gOk,hgd,ht,hb]) (hq.1 rfl)
    ·rename_i hb;exact skip (by simp[gOk,hgd,ht,hb]) h
    exact h.elim
   exact h.elim
def DrawG.intro {E:En}(hT:TOk E.P E.T){ops:Array Oper}{K:Fr→Hp→Prop}{σ:Fr}{H:Hp}(h:∀ γs:Nat→Nat,J4H E ops γs 0 ops.toList σ H [] fun σ' H' L=>Need (J3O ops [] [] (ops.toList.zip L)=true) (K σ' H')) :
  DrawP (DG E) ops K σ H:=by
 refine DrawP.intro fun γs=>?_;obtain ⟨L,σ',H',h1,h2,h3⟩:=J5E hT (h γs);have hq:=h3.out;simp only[Q2Y,Q07] at hq;exact ⟨L,σ',H',by simpa using h1,h2,hq.1,hq.2⟩
end Go.Fw
