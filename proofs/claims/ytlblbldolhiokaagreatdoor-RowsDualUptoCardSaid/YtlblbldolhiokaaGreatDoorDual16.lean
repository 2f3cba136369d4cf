/- Part 16 of the proof. -/
import Derived.Test.YtlblbldolhiokaaGreatDoorDual15
set_option linter.unusedVariables false
set_option linter.unusedSimpArgs false
set_option linter.unusedSectionVars false
set_option maxRecDepth 100000
set_option exponentiation.threshold 400
set_option maxHeartbeats 8000000
namespace Go.Fw
open Go.RowKit
section
variable {P:Program} {T:Nat→Option TD} {gh:Gh} {κ:KM} {H:Hp} {N:Nat→Prop} {w:World}
theorem J6h {t:Nat}{td:TypeDesc}{x y:AV}{u:Value}(hu:P.underlying t=some td)(hx:VR κ w N x u){b:Bool}(h:J2H (kdOf td) x y=some b)(e:Bool)(n:Nat)(w':World) :
  (Instr.checkKey e (n+1) t u).run P w'=.ok () w':=by
 unfold Instr.checkKey;simp only[Sem.run_bind,run_underlying hu,Result.andThen_ok];unfold J2H at h;split at h
 ·rename_i hk;cases hx with|val _ _=>cases td<;>simp[kdOf] at hk<;>simp
 ·rename_i hk;cases hx with|val _ _=>cases td<;>simp[kdOf] at hk<;>simp
 ·rename_i hk;cases hx with|val _ _=>cases td<;>simp[kdOf] at hk<;>simp
 ·cases h
theorem J5I (hT:TOk P T)(e:Bool)(n:Nat){xs:List AV}{us:Array Value}(hu:VR κ w N (.agg xs) (.agg us))(w':World) :
  ∀ (fs:List Field) (i:Nat) (ks:List Kd) (b:Bool),J0s T i (fs.map fun f=>(f.offset,f.type))=some ks→J0H ks (xs.drop i) (xs.drop i)=some b →
    (forIn (m:=Sem) fs PUnit.unit fun (f:Field) (_:PUnit)=>do
      if f.name ≠ "_" then Instr.checkKey e (n+1) f.type (← part f.type us f.offset);pure (ForInStep.yield PUnit.unit)
      else pure (ForInStep.yield PUnit.unit)).run P w'=.ok PUnit.unit w':=by
 cases hu with
 |agg _ _ h1 h2 h3=>
 intro fs
 induction fs with
 |nil=>intro i ks b _ _;simp
 |cons f fs ih=>
   intro i ks b hk he;simp only[List.map_cons,J0s] at hk;split at hk
   ·rename_i ho;split at hk
    ·rename_i d l hd hl;split at hk
     ·rename_i hc;cases hk;have ht:=J0W (hT _ _ hd);obtain ⟨td,hu,hr⟩:=ht.und
      have hix:i<xs.length:=by
       by_cases hlt:i<xs.length
       ·exact hlt
       ·rw[List.drop_eq_nil_of_le (by omega)] at he;simp[J0H] at he
      rw[List.drop_eq_getElem_cons hix] at he;simp only[J0H] at he;split at he
      ·rename_i a c ha hb;cases he;have e1:=J1a (P:=P) ht hc.2 (vs:=us) (k:=i) (by omega) w';have e3:=J6h hu (h2 i hix (by omega)) (y:=xs[i]) (by rw[hr];exact ha) e n w';have e4:=ih (i+1) l c hl hb;rw[List.forIn_cons];simp only[Sem.run_bind]
       by_cases hn:f.name ≠ "_"
       ·simp only[if_pos hn,Sem.run_bind,ho,e1,Result.andThen_ok,e3,Sem.run_pure];exact e4
       ·simp only[if_neg hn,Sem.run_pure,Result.andThen_ok];exact e4
      ·cases he
     ·cases hk
    ·cases hk
   ·cases hk
theorem J6g (hT:TOk P T){kt:Nat}{x:AV}{u:Value}(hx:VR κ w N x u)(h0:∃ b,J0h T kt x x=some b)(e:Bool)(n:Nat)(w':World):(Instr.checkKey e (n+2) kt u).run P w'=.ok () w':=by
 obtain ⟨b,h⟩:=h0;unfold J0h at h;split at h
 ·rename_i d hd;obtain ⟨td,hu,hr⟩:=(J0W (hT _ _ hd)).und;split at h
  ·rename_i fs hk;split at h
   ·split at h
    ·rename_i ks hks;rw[hk] at hr;cases td<;>simp[kdOf] at hr
     rename_i cs ds e1 fields
     cases hx with
     |agg _ us h1 h2 h3=>
       have:=J5I hT e n (.agg _ us h1 h2 h3) w' fields.toList 0 ks b (by rw[hr];exact hks) (by simpa using h);rw[Instr.checkKey];simp only[Sem.run_bind,run_underlying hu,Result.andThen_ok];rw[← Array.forIn_toList];rw[this];rfl
    ·cases h
   ·cases h
  ·exact J6h hu hx (by rw[hr];exact h) e (n+1) w'
 ·cases h
theorem JKj {t:Nat}{d:TD}(ht:TFact P t d){z:Value}(hz:z.cells.toList=d.zero)(ha:d.kind.agg=aggV z):VR κ w N (mkEl d) z:=by
 obtain ⟨h1,h2,h3⟩:=VR.zero (κ:=κ) (w:=w) (N:=N) ht hz;have hc:=J12 ht;unfold mkEl at h1 h2 hc ⊢
 cases hk:d.kind.agg with
 |true=>
   rw[hk] at h1 h2 ha;simp only[if_true,AV.cells_agg] at h1 h2 ⊢;cases z<;>simp[aggV] at ha
   exact .agg _ _ h1.symm h2 h3
 |false=>
   rw[hk] at h1 h2 ha;simp only[Bool.false_eq_true,if_false] at h1 h2 ⊢;have e1:z.cells=#[z]:=by cases z<;>simp[aggV] at ha<;>rfl
   have e2:d.zero=[z]:=by rw[← hz,e1]
   rw[e2];have:=h3 0 (by rw[e1];simp);simp only[e1] at this;exact .val _ this
def J7n:Obj→Bool
 |.cells ..=>true
 |_=>false
theorem getO {r:Nat}{o:Obj}(hb:w.heap[r]?=some o)(ho:J7n o=false):(getObj r).run P w=.ok o w:=by
 cases o<;>first|(simp[J7n] at ho;done)|simp[getObj,Sem.run,hb]
theorem setO {r:Nat}{o:Obj}(o':Obj)(hb:w.heap[r]?=some o)(ho:J7n o=false):(setObj r o').run P w=.ok () (Go.ChangeMaps.setBlock w r o'):=by
 cases o<;>first|(simp[J7n] at ho;done)|simp[setObj,Sem.run,hb,Go.ChangeMaps.setBlock]
def J7k (H:Hp)(x:AV)(C:List AV→List AV→Prop):Prop:=
 match x with
 |.mp ks vs=>C ks vs
 |.om b g=>∃ B ks vs,H b=some (g,B)∧B.xs=[.mp ks vs]∧C ks vs
 |.val (.map none)=>C [] []
 |_=>False
def mapT (P:Program)(T:Nat→Option TD)(t:Nat)(C:Nat→TD→Prop):Prop:=
 ∃ d,T t=some d∧∃ kt et,d.kind=.map kt et∧∃ ed,T et=some ed∧(∃ i z,P.info? et=some i∧i.zero=some z∧ed.kind.agg=aggV z)∧KeySt P kt∧C kt ed
def JIu (r:Option Nat)(vs:List AV)(ed:TD):AV:=
 match r with
 |some i=>vs.getD i .dead
 |none=>mkEl ed
def JCw (ok:Bool)(r:Option Nat)(vs:List AV)(ed:TD):AV:=if ok then .tup [JIu r vs ed,.val (.bool r.isSome)] else JIu r vs ed
def evLookup (P:Program)(T:Nat→Option TD)(H:Hp)(t:Nat)(x k:AV)(ok:Bool)(C:AV→Prop):Prop:=
 mapT P T t fun kt ed=>(∃ b,J0h T kt k k=some b)∧J7k H x fun ks vs=>∃ r,J10 (J0h T kt k) ks=some r∧C (JCw ok r vs ed)
theorem aggZ {t:Nat}{d:TD}(h:tdOf P t=some d):∃ i z,P.info? t=some i∧i.zero=some z∧d.kind.agg=aggV z:=by
 unfold tdOf at h;split at h
 ·rename_i i u hi hu;split at h
  ·rename_i z hz;split at h
   ·rename_i hc;cases h;exact ⟨i,z,hi,hz,hc.2.1⟩
   ·cases h
  ·cases h
 ·cases h
theorem JBP (hT:TOk P T){t:Nat}{C:Nat→TD→Prop}(h:mapT P T t C)(w:World):∃ kt et ed z,P.underlying t=some (.map kt et)∧TFact P et ed∧KeySt P kt∧C kt ed∧(zeroValue et).run P w=.ok z w∧z.cells.toList=ed.zero∧ed.kind.agg=aggV z:=by
 obtain ⟨d,hd,kt,et,hk,ed,hed,⟨i,z,hi,hz,ha⟩,hs,hC⟩:=h;obtain ⟨u,hu,hr⟩:=(J0W (hT _ _ hd)).und;rw[hk] at hr;cases u<;>simp[kdOf] at hr
 obtain ⟨rfl,rfl⟩:=hr;have ht:=J0W (hT _ _ hed);obtain ⟨i',z',hi',_,_,hz',hc⟩:=ht.info;rw[hi] at hi';cases hi';rw[hz] at hz';cases hz';exact ⟨_,_,ed,z,hu,ht,hs,hC,by simp[zeroValue,typeInfo,hi,hz,go_sem],hc,ha⟩
theorem J7t {eq:AV→Option Bool}:∀ {ks:List AV} {i:Nat},J10 eq ks=some (some i)→∃ h:i<ks.length,eq ks[i]=some true
 |[],i,h=>by simp[J10] at h
 |y :: ys,i,h=>by
   simp only[J10] at h;split at h
   ·rename_i hb;cases h;exact ⟨by simp,hb⟩
   ·split at h
    ·rename_i r hr
     cases r with
     |none=>simp at h
     |some j=>
       simp only[Option.map_some,Option.some.injEq] at h;subst h;obtain ⟨h1,h2⟩:=J7t hr;exact ⟨by simpa using h1,by simpa using h2⟩
    ·cases h
   ·cases h
theorem J6e (hT:TOk P T)(hr:HRel gh κ H w){t:Nat}{x k:AV}{ok:Bool}{v kv:Value}(hv:VR κ w (Nset gh.O κ H) x v)(hk:VR κ w (Nset gh.O κ H) k kv){C:AV→Prop}(h:evLookup P T H t x k ok C) :
  ∃ x u,C x∧(Instr.lookup t v kv ok).run P w=.ok u w∧VR κ w (Nset gh.O κ H) x u:=by
 obtain ⟨kt,et,ed,z,hu,ht,hs,⟨hk0,h⟩,hz,hzc,hza⟩:=JBP hT h w
 have key:∀ (ks vs:List AV) (A:Array MapEntry) (r:Option Nat),MapR w (Nset gh.O κ H) ks vs A 0∨(∃ ck,MapR w (Nset gh.O κ H) ks vs A ck)→J10 (J0h T kt k) ks=some r→C (JCw ok r vs ed) →
   ∃ y u,C y∧(do
     Instr.checkKey A.isEmpty 10000 kt kv
     let (v,ok') ← match ← Instr.findKey kt kv A.toList with
      |some (_,v)=>pure (v,true)
      |none=>pure (← zeroValue et,false)
     pure (if ok then .tuple #[v,.bool ok'] else v):Sem Value).run P w=.ok u w∧VR κ w (Nset gh.O κ H) y u:=by
  intro ks vs A r hm hf hC;obtain ⟨ck,hm⟩:∃ ck,MapR w (Nset gh.O κ H) ks vs A ck:=hm.elim (fun h=>⟨0,h⟩) id;have e1:=J6g hT hk hk0 A.isEmpty 9998 w;have e2:=J8b hT hs hk hk0 (es:=A.toList) (by simpa using hm.kl) (fun i h1 h2=>(by simpa using (hm.key i h1 (by simpa using h2)).lift)) hf w
  have fin:∀ (y:AV) (u:Value) (b:Bool),VR κ w (Nset gh.O κ H) y u→VR κ w (Nset gh.O κ H) (if ok then .tup [y,.val (.bool b)] else y) (if ok then .tuple #[u,.bool b] else u):=by
   intro y u b hy
   cases ok with
   |false=>exact hy
   |true=>
     exact .tup _ _ rfl (fun i h h'=>by
      match i,h with
      |0,_=>exact hy
      |1,_=>exact .val _ rfl)
  cases r with
  |none=>
    refine ⟨_,(if ok then .tuple #[z,.bool false] else z),hC,?_,?_⟩
    rotate_left
    ·exact fin _ z false (JKj ht hzc hza)
    ·simp only[Sem.run_bind,e1,e2,hit,Option.map_none,Result.andThen_ok,hz,Sem.run_pure]
  |some i=>
    obtain ⟨hi,_⟩:=J7t hf;have hi':i<A.size:=by rw[← hm.kl];exact hi
    have hiv:i<vs.length:=by rw[hm.vl];exact hi'
    have e3:vs.getD i .dead=vs[i]:=by rw[List.getD_eq_getElem?_getD,List.getElem?_eq_getElem hiv];rfl
    refine ⟨_,(if ok then .tuple #[A[i].val,.bool true] else A[i].val),hC,?_,?_⟩
    rotate_left
    ·exact fin _ A[i].val true (by show VR κ w _ (vs.getD i .dead) _;rw[e3];exact (hm.val i hiv hi').lift)
    ·simp only[Sem.run_bind,e1,e2,hit,Option.map_some,Result.andThen_ok,Sem.run_pure];simp[List.getD_eq_getElem?_getD,hi']
 unfold J7k at h;split at h
 ·rename_i ks vs _;obtain ⟨r,hf,hC⟩:=h
  cases hv with
  |mp _ _ c A ck h1 h2 h3 h4 h5 h6 h7=>
    obtain ⟨y,u,q1,q2,q3⟩:=key ks vs A r (.inr ⟨ck,⟨h3,h4,h5,h6,h7⟩⟩) hf hC;refine ⟨y,u,q1,?_,q3⟩;rw[← q2];simp only[Instr.lookup,Sem.run_bind,run_underlying hu,Result.andThen_ok,getO h2 rfl,Sem.run_pure];rfl
 ·rename_i b g;obtain ⟨B,ks,vs,hB,hx,r,hf,hC⟩:=h
  cases hv with
  |om _ _ c K hκ hc hn=>
    obtain ⟨K',hκ',hbr⟩:=hr.blk _ _ _ hB;rw[hκ] at hκ';cases hκ';obtain ⟨_,c',hc',ho⟩:=hbr.obj hn;rw[hc] at hc';cases hc';rw[hx] at ho;obtain ⟨A,ck,h1,h2⟩:=ho;obtain ⟨y,u,q1,q2,q3⟩:=key ks vs A r (.inr ⟨ck,h2⟩) hf hC;refine ⟨y,u,q1,?_,q3⟩;rw[← q2];simp only[Instr.lookup,Sem.run_bind,run_underlying hu,Result.andThen_ok,getO h1 rfl,Sem.run_pure];rfl
 ·obtain ⟨r,hf,hC⟩:=h
  cases hv with
  |val _ _=>
    obtain ⟨y,u,q1,q2,q3⟩:=key [] [] #[] r (.inl ⟨rfl,rfl,fun i h=>absurd h (by simp),fun i h=>absurd h (by simp),fun i h=>absurd h (by simp)⟩) hf hC;refine ⟨y,u,q1,?_,q3⟩;rw[← q2];simp only[Instr.lookup,Sem.run_bind,run_underlying hu,Result.andThen_ok,Sem.run_pure];rfl
 ·exact h.elim
end
end Go.Fw
