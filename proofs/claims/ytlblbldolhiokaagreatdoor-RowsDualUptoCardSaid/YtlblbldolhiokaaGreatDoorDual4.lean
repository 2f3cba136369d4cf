/- Part 4 of the proof. -/
import Derived.Test.YtlblbldolhiokaaGreatDoorDual3
set_option linter.unusedVariables false
set_option linter.unusedSimpArgs false
set_option linter.unusedSectionVars false
set_option maxRecDepth 100000
set_option exponentiation.threshold 400
set_option maxHeartbeats 8000000
namespace Go.Fw
open Go.RowKit
section
variable {P:Program} {T:Nat→Option TD} {κ:KM} {N:Nat→Prop} {w:World}
def J4e (op:BinOp)(k:IntKind)(a b:Int):Value:=
 match op with
 |.and=>.int k (k.wrap ((BitVec.ofInt k.bits a &&& BitVec.ofInt k.bits b).toNat:Int))
 |.or=>.int k (k.wrap ((BitVec.ofInt k.bits a ||| BitVec.ofInt k.bits b).toNat:Int))
 |.xor=>.int k (k.wrap ((BitVec.ofInt k.bits a ^^^ BitVec.ofInt k.bits b).toNat:Int))
 |_=>.int k (k.wrap ((BitVec.ofInt k.bits a &&& ~~~ BitVec.ofInt k.bits b).toNat:Int))
def binI (op:BinOp)(k:IntKind)(a b:Int)(C:Value→Prop):Prop:=
 match op with
 |.add=>C (.int k (k.wrap (a+b)))
 |.sub=>C (.int k (k.wrap (a-b)))
 |.mul=>C (.int k (k.wrap (a*b)))
 |.quo=>b≠0∧C (.int k (k.wrap (a.tdiv b)))
 |.rem=>b≠0∧C (.int k (a.tmod b))
 |.and=>C (J4e .and k a b)
 |.or=>C (J4e .or k a b)
 |.xor=>C (J4e .xor k a b)
 |.andNot=>C (J4e .andNot k a b)
 |.eql=>C (.bool (a==b))
 |.neq=>C (.bool (a != b))
 |.lss=>C (.bool (a<b))
 |.leq=>C (.bool (a≤b))
 |.gtr=>C (.bool (a>b))
 |.geq=>C (.bool (a≥b))
 |_=>False
theorem JGg {op:BinOp}{k:IntKind}{a b:Int}{C:Value→Prop}(t:TypeId)(h:binI op k a b C) :
  ∃ v,C v∧plainV v=true∧(binOp op t (.int k a) (.int k b)).run P w=.ok v w:=by
 unfold binI at h
 split at h<;>first
  |exact h.elim
  |(refine ⟨_,h,rfl,?_⟩;simp[go_sem,Op.intArith,Op.intBits,J4e];done)
  |(obtain ⟨hb,h⟩:=h;refine ⟨_,h,rfl,?_⟩;simp[go_sem,Op.intDiv,hb];done)
def binS (op:BinOp)(a b:ByteArray)(C:Value→Prop):Prop:=
 match op with
 |.add=>a.size+b.size≤9223372036854775807∧C (.string (a++b))
 |.eql=>C (.bool (a.toList==b.toList))
 |.neq=>C (.bool (!(a.toList==b.toList)))
 |.lss=>C (.bool (Op.bytesLess a.toList b.toList))
 |.leq=>C (.bool (Op.bytesLess a.toList b.toList||a.toList==b.toList))
 |.gtr=>C (.bool (!(Op.bytesLess a.toList b.toList||a.toList==b.toList)))
 |.geq=>C (.bool (!(Op.bytesLess a.toList b.toList)))
 |_=>False
theorem JGf {op:BinOp}{a b:ByteArray}{C:Value→Prop}(t:TypeId)(h:binS op a b C) :
  ∃ v,C v∧plainV v=true∧(binOp op t (.string a) (.string b)).run P w=.ok v w:=by
 unfold binS at h
 split at h<;>first
  |exact h.elim
  |(refine ⟨_,h,rfl,?_⟩;simp[go_sem];done)
  | (obtain ⟨hb,h⟩:=h
     refine ⟨_,h,rfl,?_⟩
     have:¬ ((a.size+b.size:Nat):Int)>IntKind.i64.max:=by
      have e:IntKind.i64.max=9223372036854775807:=by rfl
      rw[e];omega
     simp[go_sem,Op.stringOp,this];try omega)
def J2H:Kd→AV→AV→Option Bool
 |.int _,.val (.int k a),.val (.int k' b)=>if k=k' then some (a==b) else none
 |.str,.val (.string a),.val (.string b)=>some (a==b)
 |.bool,.val (.bool a),.val (.bool b)=>some (a==b)
 |_,_,_=>none
def J0H:List Kd→List AV→List AV→Option Bool
 |[],[],[]=>some true
 |k::ks,x::xs,y::ys=>match J2H k x y,J0H ks xs ys with
   |some a,some b=>some (a&&b)
   |_,_=>none
 |_,_,_=>none
def J0s (T:Nat→Option TD):Nat→List (Nat×Nat)→Option (List Kd)
 |_,[]=>some []
 |i,p::r=>if p.1=i then match T p.2,J0s T (i+1) r with
    |some d,some l=>if d.size=1∧d.kind.agg=false then some (d.kind::l) else none
    |_,_=>none
   else none
theorem J2t {t:Nat}{d:TD}(ht:TFact P t d){x y:AV}{u v:Value}(hx:VR κ w N x u)(hy:VR κ w N y v){b:Bool}(h:J2H d.kind x y=some b)(n:Nat)(w':World) :
  (Op.equalIn (n+1) t u v).run P w'=.ok b w':=by
 obtain ⟨td,hu,hr⟩:=ht.und;unfold J2H at h;split at h
 ·rename_i hk;rw[hk] at hr
  cases hx with
  |val _ _=>cases hy with
    |val _ _=>
      split at h
      ·rename_i he;subst he;cases h;cases td<;>simp[kdOf] at hr
       simp[Op.equalIn,run_underlying hu]
      ·cases h
 ·rename_i hk;rw[hk] at hr
  cases hx with
  |val _ _=>cases hy with
    |val _ _=>
      cases h;cases td<;>simp[kdOf] at hr
      simp[Op.equalIn,run_underlying hu]
 ·rename_i hk;rw[hk] at hr
  cases hx with
  |val _ _=>cases hy with
    |val _ _=>
      cases h;cases td<;>simp[kdOf] at hr
      simp[Op.equalIn,run_underlying hu]
 ·cases h
theorem J1a {t:Nat}{d:TD}(ht:TFact P t d)(ha:d.kind.agg=false){vs:Array Value}{k:Nat}(hk:k<vs.size)(w':World):(part t vs k).run P w'=.ok vs[k] w':=by
 simp[part,Sem.run_bind,ht.run_isAgg w',ha,hk]
theorem J4P (hT:TOk P T)(n:Nat)(xs ys:List AV)(us vs:Array Value)(hu:VR κ w N (.agg xs) (.agg us))(hv:VR κ w N (.agg ys) (.agg vs))(w':World) :
  ∀ (fs:List Field) (i:Nat) (ks:List Kd) (b:Bool),J0s T i (fs.map fun f=>(f.offset,f.type))=some ks→J0H ks (xs.drop i) (ys.drop i)=some b→(∀ f∈fs,f.name ≠ "_") →
    (Op.eqFields (n+1) us vs fs).run P w'=.ok b w':=by
 cases hu with
 |agg _ _ h1 h2 h3=>
 cases hv with
 |agg _ _ k1 k2 k3=>
 intro fs
 induction fs with
 |nil=>
   intro i ks b hk he _;simp only[List.map_nil,J0s,Option.some.injEq] at hk;subst hk;cases hx:xs.drop i<;>cases hy:ys.drop i<;>rw[hx,hy] at he<;>simp[J0H] at he
   subst he;simp[Op.eqFields]
 |cons f fs ih=>
   intro i ks b hk he hn;simp only[List.map_cons,J0s] at hk;split at hk
   ·rename_i ho;split at hk
    ·rename_i d l hd hl;split at hk
     ·rename_i hc;cases hk;have ht:=J0W (hT _ _ hd)
      have hix:i<xs.length:=by
       by_cases hlt:i<xs.length
       ·exact hlt
       ·rw[List.drop_eq_nil_of_le (by omega)] at he;simp[J0H] at he
      have hiy:i<ys.length:=by
       by_cases hlt:i<ys.length
       ·exact hlt
       ·rw[List.drop_eq_nil_of_le (as:=ys) (by omega)] at he;cases hx:xs.drop i<;>rw[hx] at he<;>simp[J0H] at he
      rw[List.drop_eq_getElem_cons hix,List.drop_eq_getElem_cons hiy] at he;simp only[J0H] at he;split at he
      ·rename_i a c ha hb;cases he;have e1:=J1a (P:=P) ht hc.2 (vs:=us) (k:=i) (by omega) w';have e2:=J1a (P:=P) ht hc.2 (vs:=vs) (k:=i) (by omega) w';have e3:=J2t ht (h2 i hix (by omega)) (k2 i hiy (by omega)) ha n w';have e4:=ih (i+1) l c hl hb (fun g hg=>hn g (List.mem_cons_of_mem _ hg));simp only[Op.eqFields,Sem.run_bind,Sem.run_ite,ho,if_pos (hn f (List.mem_cons_self ..)),e1,e2,e3,Result.andThen_ok];cases a
       ·simp
       ·simpa using e4
      ·cases he
     ·cases hk
    ·cases hk
   ·cases hk
theorem JCg {t e:Nat}{d:TD}(hu:P.underlying t=some (.array 2 e))(ht:TFact P e d)(hs:d.size=1)(ha:d.kind.agg=false)(n:Nat)(x0 x1 y0 y1:AV)(us vs:Array Value)
  (hx:VR κ w N (.agg [x0,x1]) (.agg us))(hy:VR κ w N (.agg [y0,y1]) (.agg vs))(w':World)(b:Bool)(h:J0H [d.kind,d.kind] [x0,x1] [y0,y1]=some b) :
  (Op.equalIn (n+1+1) t (.agg us) (.agg vs)).run P w'=.ok b w':=by
 cases hx with
 |agg _ _ h1 h2 h3=>
 cases hy with
 |agg _ _ k1 k2 k3=>
 simp only[List.length_cons,List.length_nil] at h1 k1;simp only[J0H] at h;split at h
 ·rename_i a c ha' hb';split at hb'
  ·rename_i a2 c2 ha2 hb2;cases hb2;cases hb';cases h;have e0:=J1a (P:=P) ht ha (vs:=us) (k:=0) (by omega) w';have e1:=J1a (P:=P) ht ha (vs:=us) (k:=1) (by omega) w';have f0:=J1a (P:=P) ht ha (vs:=vs) (k:=0) (by omega) w';have f1:=J1a (P:=P) ht ha (vs:=vs) (k:=1) (by omega) w';have q0:=J2t ht (h2 0 (by simp) (by omega)) (k2 0 (by simp) (by omega)) ha' n w';have q1:=J2t ht (h2 1 (by simp) (by omega)) (k2 1 (by simp) (by omega)) ha2 n w';rw[Op.equalIn];simp only[Sem.run_bind,run_underlying hu,Result.andThen_ok,ht.run_size w',hs,Std.Legacy.Range.forIn_eq_forIn_range',Std.Legacy.Range.size,Nat.sub_zero,Nat.add_sub_cancel,Nat.div_one,List.range',List.forIn_cons,List.forIn_nil,Nat.zero_mul,Nat.zero_add,Nat.one_mul,Nat.mul_one,e0,f0,q0];cases a
   ·simp
   ·simp only[Bool.not_true,Bool.false_eq_true,if_false,Sem.run_pure,Result.andThen_ok,Sem.run_bind,e1,f1,q1];cases a2<;>simp
  ·cases hb'
 ·cases h
end
end Go.Fw
