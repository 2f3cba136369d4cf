/- Part 42 of the proof. -/
import Derived.Test.YtlblbldolhiokaaGreatDoorDual41
set_option linter.unusedVariables false
set_option linter.unusedSimpArgs false
set_option linter.unusedSectionVars false
set_option maxRecDepth 100000
set_option exponentiation.threshold 400
set_option maxHeartbeats 8000000
namespace Go.Fw
open Go.RowKit
structure RelX (gh:Gh) (σ:List AV) (m:Mem) (k:Nat) (a:Act) (w:World):Prop where
 mk' ::
 o:σ.length=gh.nt∧∃ κ,Rel gh κ (lf σ) (hp m) a w∧Fsh κ k
section
variable {X:XE} {gh:Gh} {w:World} {call:CallX}
theorem J8L (hX:XOk X)(hcall:J1C X call){σ:List AV}{m m':Mem}{k k':Nat}{a:Act}{κ:KM}(hl:σ.length=gh.nt)(hr:Rel gh κ (lf σ) (hp m) a w)(hF:Fsh κ k){o:Oper}(hg:J0t gh.nt o=true){r:AV}
  (h:JGD X call (opdG (lf σ)) m k o=some (r,m',k')){K:Act→World→Prop}{Q:Exit→Act→World→Prop}(hK:∀ a' w' κ',Rel gh κ' (lf (putL σ o.dst r)) (hp m') a' w'→Fsh κ' k'→K a' w'):o.wp X.E.P a w K Q:=by
 unfold J0t at hg;simp only[Bool.and_eq_true] at hg;have hd':∀ x,o.dst=some x→x<gh.nt:=by intro x hx;have:=hg.1;rw[hx] at this;simpa using this
 refine J9y hX hcall hF hr.hp (fun x=>hr.opdG x) h fun v w' hs=>?_;obtain ⟨κ',q1,q2,q3,q4⟩:=hs;have hr':Rel gh κ' (lf σ) (hp m') a w':=⟨q1,fun y=>q3 (hr.slots y),hr.size,hr.defers,fun x v hx=>q3 (hr.tr x v hx)⟩;refine hK _ _ κ' ?_ q4;rw[JBk (fun x hx=>by rw[hl];exact hd' x hx)];exact hr'.put o.dst hd' q2
theorem JBJ {σ:List AV}{m:Mem}{a:Act}{κ:KM}(hl:σ.length=gh.nt)(hr:Rel gh κ (lf σ) (hp m) a w){o:Oper}(hg:J0t gh.nt o=true):Rel gh κ (lf (putL σ o.dst (.tup []))) (hp m) (a.put o.dst undef) w:=by
 unfold J0t at hg;simp only[Bool.and_eq_true] at hg;have hd':∀ x,o.dst=some x→x<gh.nt:=by intro x hx;have:=hg.1;rw[hx] at this;simpa using this
 rw[JBk (fun x hx=>by rw[hl];exact hd' x hx)];exact hr.put o.dst hd' (.tup [] #[] rfl (fun i h=>absurd h (by simp)))
theorem J4o {ops:Array Oper}{κ:KM}{σ:Fr}{H:Hp}{a:Act}(hr:Rel gh κ σ H a w){o:Oper}{b:Bool}(hb:gOk ops σ o=some b):Region.wanted o (yielded ops a.tmps)=b:=by
 unfold gOk at hb;split at hb
 ·rename_i hgd;cases hb;simp[Region.wanted,hgd]
 ·rename_i j want hgd;split at hb
  ·rename_i t ht;have hsl:=hr.slots t
   have hy:yielded ops a.tmps j=match (a.tmps.getD t undef) with|.bool b=>some b|_=>none:=by
    unfold yielded;unfold gdst at ht;rw[ht];simp only[Option.bind_some,Array.getD_eq_getD_getElem?]
    cases a.tmps[t]? with
    |none=>rfl
    |some v=>cases v<;>rfl
   split at hb
   ·rename_i b' hb';rw[hb'] at hsl;generalize hv:a.tmps.getD t undef=v at hsl hy
    cases hsl with
    |val _ _=>cases hb;cases b'<;>cases want<;>simp[Region.wanted,hgd,hy]
   ·rename_i hb';rw[hb'] at hsl;generalize hv:a.tmps.getD t undef=v at hsl hy
    cases hsl with
    |tup _ vs _ _=>cases hb;simp[Region.wanted,hgd,hy]
   ·cases hb
  ·cases hb
theorem JCL (hX:XOk X)(hcall:J1C X call)(ops:Array Oper){Q:Exit→Act→World→Prop}{σ':List AV}{m':Mem}{k':Nat}(hQ:∀ a w,RelX gh σ' m' k' a w→Q .normal a w) :
  ∀ (n:Nat) (κ:KM) (σ:List AV) (m:Mem) (k:Nat) (a:Act) (w:World),n≤ops.size→(∀ i,ops.size-n≤i→(hi:i<ops.size)→J0t gh.nt ops[i]=true)→xOps X call ops (ops.toList.drop (ops.size-n)) σ m k=some (σ',m',k') →
    σ.length=gh.nt→Rel gh κ (lf σ) (hp m) a w→Fsh κ k→wpOps X.E.P ops Q (List.range' (ops.size-n) n) a w:=by
 intro n
 induction n with
 |zero=>
   intro κ σ m k a w _ _ h hl hr hF;rw[Nat.sub_zero,List.drop_eq_nil_of_le (by simp)] at h;cases h;exact hQ a w ⟨hl,κ,hr,hF⟩
 |succ n ih=>
   intro κ σ m k a w hn hg h hl hr hF;have hi:ops.size-(n+1)<ops.size:=by omega
   have hsucc:ops.size-(n+1)+1=ops.size-n:=by omega
   rw[List.drop_eq_getElem_cons (by simpa using hi),hsucc] at h;rw[List.range'_succ,hsucc];have hgo:=hg _ (Nat.le_refl _) hi;have ho:ops[ops.size-(n+1)]?=some ops[ops.size-(n+1)]:=Array.getElem?_eq_getElem hi;simp only[Array.getElem_toList] at h;simp only[wpOps,ho];generalize ops[ops.size-(n+1)]=o at h hgo;unfold xOps at h;split at h
   ·rename_i hgk;obtain ⟨⟨r,m1,k1⟩,h1,h⟩:=J02 h;rw[if_pos (J4o hr hgk)];exact .inl (J8L hX hcall hl hr hF hgo h1 fun a' w' κ' hr' hF'=>ih κ' _ _ _ a' w' (by omega) (fun i hi=>hg i (by omega)) h (by rw[J2u];exact hl) hr' hF')
   ·rename_i hgk;rw[if_neg (by rw[J4o hr hgk];simp)];exact ih κ _ _ _ _ w (by omega) (fun i hi=>hg i (by omega)) h (by rw[J2u];exact hl) (JBJ hl hr hgo) hF
   ·cases h
def JJa (ρ:Operand→AV)(o:Oper):List Nat:=
 match o.op with
 |.call c=>(c.args.toList.map ρ).flatMap nm
 |_=>[]
def xGrp (X:XE)(call:CallX)(ops:Array Oper)(base k:Nat):Nat→List Oper→List AV→Mem→List St→Option (List AV×Mem×List St)
 |_,[],σ,m,acc=>some (σ,m,acc.reverse)
 |i,o::r,σ,m,acc=>match gOk ops (lf σ) o with
   |some true=>(match JDt (opdG (lf σ)) o with
     |some (n,args)=>(match X.ext n args with
       |some _=>none
       |none=>JDd X call base (k+i) n (JJa (opdG (lf σ)) o) args (hp m) o.dst)
     |none=>xG X base (k+i) (opdG (lf σ)) (hp m) o).bind fun q=>xGrp X call ops base k (i+1) r (putL σ o.dst q.1) (upM m base q.2) (⟨q.1,q.2,J2A (opd (lf σ)) o⟩::acc)
   |some false=>xGrp X call ops base k (i+1) r (putL σ o.dst (.tup [])) m (⟨.tup [],none,[]⟩::acc)
   |none=>none
theorem JDs {E:En}{γ:Nat}{ρ:Operand→AV}{H:Hp}{o:Oper}{n:Nat}{args:List AV}(hu:JDt ρ o=some (n,args)){C:AV→Up→Prop}(h:J03 E.P n∧JDL E γ n (JJa ρ o) args H o.dst C):evG E γ ρ H o C:=by
 unfold JDt at hu;unfold JJa at h;split at hu
 ·rename_i c ho;split at hu
  ·rename_i f hcf;split at hu
   ·rename_i n' first cap hf;simp only[Option.some.injEq,Prod.mk.injEq] at hu;obtain ⟨rfl,rfl⟩:=hu;obtain ⟨dst,op,ty,pos,after,guard⟩:=o;simp only at ho;subst ho;obtain ⟨callee,args,ats⟩:=c;simp only at hcf;subst hcf;simp only[evG,J2c,hf];exact h
   ·cases hu
  ·cases hu
 ·cases hu
theorem J3y (hX:XOk X)(hcall:J1C X call){ops:Array Oper}{base k nt:Nat}:∀ {l:List Oper} {i:Nat} {σ σ':List AV} {m m':Mem} {acc L:List St},(∀ o∈l,J0t nt o=true)→σ.length=nt→xGrp X call ops base k i l σ m acc=some (σ',m',L) →
  ∃ L',L=acc.reverse++L'∧L'.length=l.length∧σ'.length=nt∧J6T { X.E with base:=base } ops (fun i=>k+i) i l (lf σ) (hp m) L' (lf σ') (hp m')
 |[],i,σ,σ',m,m',acc,L,_,hl,h=>by
   cases h;exact ⟨[],by simp,rfl,hl,rfl,rfl⟩
 |o :: r,i,σ,σ',m,m',acc,L,hg,hl,h=>by
   have hgo:=hg o (by simp);have hgo':=hgo;unfold J0t at hgo';simp only[Bool.and_eq_true] at hgo';have hd':∀ x,o.dst=some x→x<σ.length:=by intro x hx;have:=hgo'.1;rw[hx] at this;rw[hl];simpa using this
   have hρ:∀ x∈o.op.operands.toList,opdG (lf σ) x=opd (lf σ) x:=fun x hx=>by simp[opdG,List.all_eq_true.1 hgo'.2 x hx]
   unfold xGrp at h;split at h
   ·rename_i hgk;obtain ⟨⟨v,up⟩,h1,h⟩:=J02 h;obtain ⟨L',e,hlen,hl',hch⟩:=J3y hX hcall (fun o ho=>hg o (List.mem_cons_of_mem _ ho)) (by rw[J2u];exact hl) h;refine ⟨⟨v,up,J2A (opd (lf σ)) o⟩::L',by rw[e];simp,by simp[hlen],hl',.inl ⟨hgk,?_,rfl⟩,?_⟩
    ·refine evG.local (ρ:=opdG (lf σ)) hρ (fun _ _ _ _=>rfl) ?_;split at h1
     ·rename_i n args hu;split at h1
      ·cases h1
      ·exact JDs (E:={ X.E with base:=base }) hu (JDc hX hcall (E:={ X.E with base:=base }) rfl h1)
     ·exact JJx hX h1 (C:=fun v' up'=>v'=v∧up'=up) ⟨rfl,rfl⟩
    ·rw[JBk hd',JBr] at hch;exact hch
   ·rename_i hgk;obtain ⟨L',e,hlen,hl',hch⟩:=J3y hX hcall (fun o ho=>hg o (List.mem_cons_of_mem _ ho)) (by rw[J2u];exact hl) h;refine ⟨⟨.tup [],none,[]⟩::L',by rw[e];simp,by simp[hlen],hl',.inr ⟨hgk,rfl⟩,?_⟩;rw[JBk hd'] at hch;exact hch
   ·cases h
end
end Go.Fw
