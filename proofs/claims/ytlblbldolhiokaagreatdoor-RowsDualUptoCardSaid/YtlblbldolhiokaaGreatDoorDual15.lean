/- Part 15 of the proof. -/
import Derived.Test.YtlblbldolhiokaaGreatDoorDual14
import Derived.Maps.RangeRun
import Derived.MapKept
set_option linter.unusedVariables false
set_option linter.unusedSimpArgs false
set_option linter.unusedSectionVars false
set_option maxRecDepth 100000
set_option exponentiation.threshold 400
set_option maxHeartbeats 8000000
namespace Go.Fw
open Go.RowKit
theorem J7G (a b:ByteArray):(a==b)=decide (a=b):=by
 obtain ⟨a⟩:=a;obtain ⟨b⟩:=b;show (a==b)=_
 by_cases h:a=b
 ·subst h;simp
 ·rw[beq_false_of_ne h,decide_eq_false (fun e=>h (by cases e;rfl))]
def J0h (T:Nat→Option TD)(kt:Nat)(x y:AV):Option Bool:=
 match T kt with
 |some d=>match d.kind with
   |.struct fs=>match x,y with
     |.agg cs,.agg ds=>match J0s T 0 fs with
       |some ks=>J0H ks cs ds
       |none=>none
     |_,_=>none
   |k=>J2H k x y
 |none=>none
structure KeySt (P:Program) (kt:Nat):Prop where
 stood:P.stoodInHeld kt=false
 blank:∀ f∈(P.fieldsOf kt).toList,f.name ≠ "_"
theorem KeySt.of {P:Program}{t:Nat}(h2:P.stoodInHeld t=false)(h3:(P.fieldsOf t).toList.all (fun f=>f.name != "_")=true):KeySt P t:=
 ⟨h2,fun f hf=>by have:=List.all_eq_true.1 h3 f hf;simpa using this⟩
def J10 (eq:AV→Option Bool):List AV→Option (Option Nat)
 |[]=>some none
 |y :: ys=>match eq y with
   |some true=>some (some 0)
   |some false=>match J10 eq ys with
     |some r=>some (r.map (· + 1))
     |none=>none
   |none=>none
section
variable {P:Program} {T:Nat→Option TD} {κ:KM} {N:Nat→Prop} {w:World}
theorem J5n {k:Kd}{x y:AV}(h:J2H k x y=some true):∃ u,x=.val u∧y=.val u∧∀ n,Instr.sameBits n u u=true:=by
 unfold J2H at h;split at h
 ·split at h
  ·rename_i he;subst he;simp only[Option.some.injEq,beq_iff_eq] at h;subst h;exact ⟨_,rfl,rfl,fun n=>by cases n<;>simp[Instr.sameBits]⟩
  ·cases h
 ·simp only[Option.some.injEq,J7G,decide_eq_true_eq] at h;subst h;exact ⟨_,rfl,rfl,fun n=>by cases n<;>simp[Instr.sameBits,J7G]⟩
 ·simp only[Option.some.injEq,beq_iff_eq] at h;subst h;exact ⟨_,rfl,rfl,fun n=>by cases n<;>simp[Instr.sameBits]⟩
 ·cases h
theorem J4S:∀ {ks:List Kd} {xs ys:List AV},J0H ks xs ys=some true→∃ us:List Value,xs=us.map .val∧ys=us.map .val∧∀ u∈us,∀ n,Instr.sameBits n u u=true
 |[],xs,ys,h=>by
   cases xs<;>cases ys<;>simp[J0H] at h
   exact ⟨[],rfl,rfl,fun u hu=>absurd hu (by simp)⟩
 |k :: ks,xs,ys,h=>by
   cases xs with
   |nil=>cases ys<;>simp[J0H] at h
   |cons x xs=>cases ys with
     |nil=>simp[J0H] at h
     |cons y ys=>
       simp only[J0H] at h;split at h
       ·rename_i a b ha hb;simp only[Option.some.injEq,Bool.and_eq_true] at h;obtain ⟨rfl,rfl⟩:=h;obtain ⟨u,rfl,rfl,hu⟩:=J5n ha;obtain ⟨us,rfl,rfl,hus⟩:=J4S hb;refine ⟨u::us,rfl,rfl,fun v hv=>?_⟩
        rcases List.mem_cons.1 hv with rfl|hv
        ·exact hu
        ·exact hus v hv
       ·cases h
theorem JCy {kt:Nat}{x y:AV}{u v:Value}(h:J0h T kt x y=some true)(hx:VR κ w N x u){κ':KM}{N':Nat→Prop}(hy:VR κ' w N' y v):x=y∧u=v∧∀ n,Instr.sameBits (n+1) u v=true:=by
 unfold J0h at h;split at h
 ·split at h
  ·split at h
   ·split at h
    ·obtain ⟨us,rfl,rfl,hus⟩:=J4S h
     cases hx with
     |agg _ as h1 h2 h3=>
     cases hy with
     |agg _ bs k1 k2 k3=>
       have e1:as.toList=us:=by
        apply List.ext_getElem
        ·simpa using h1.symm
        ·intro i hi hi';have:=h2 i (by simpa using hi') (by simpa using hi);simp only[List.getElem_map] at this;generalize hq:as[i]'(by simpa using hi)=q at this
         cases this with
         |val _ _=>simpa using hq
       have e2:bs.toList=us:=by
        apply List.ext_getElem
        ·simpa using k1.symm
        ·intro i hi hi';have:=k2 i (by simpa using hi') (by simpa using hi);simp only[List.getElem_map] at this;generalize hq:bs[i]'(by simpa using hi)=q at this
         cases this with
         |val _ _=>simpa using hq
       have e3:as=bs:=Array.ext' (e1.trans e2.symm);subst e3;refine ⟨rfl,rfl,fun n=>?_⟩;simp only[Instr.sameBits,beq_self_eq_true,Bool.true_and,e1,List.all_eq_true];rintro ⟨p1,p2⟩ hp
       have hz:∀ l:List Value,(p1,p2)∈l.zip l→p1=p2∧p1∈l:=by
        intro l
        induction l with
        |nil=>intro h;simp at h
        |cons a l ih=>
          intro h;simp only[List.zip_cons_cons,List.mem_cons,Prod.mk.injEq] at h
          rcases h with ⟨rfl,rfl⟩|h
          ·exact ⟨rfl,List.mem_cons_self ..⟩
          ·exact ⟨(ih h).1,List.mem_cons_of_mem _ (ih h).2⟩
       obtain ⟨rfl,hm⟩:=hz us hp;exact hus _ hm n
    ·cases h
   ·cases h
  ·obtain ⟨a,rfl,rfl,ha⟩:=J5n h
   cases hx with
   |val _ _=>cases hy with
     |val _ _=>exact ⟨rfl,rfl,fun n=>ha _⟩
 ·cases h
theorem J6f (hT:TOk P T){kt:Nat}(hs:KeySt P kt){x y:AV}{u v:Value}(hx:VR κ w N x u)(hy:VR κ w N y v){b:Bool}(h:J0h T kt x y=some b)(w':World):(Op.equal kt u v).run P w'=.ok b w':=by
 unfold J0h at h;split at h
 ·rename_i d hd;have ht:=J0W (hT _ _ hd);obtain ⟨td,hu,hr⟩:=ht.und;split at h
  ·rename_i fs hk;split at h
   ·split at h
    ·rename_i ks hks;rename_i cs ds _;rw[hk] at hr;cases td<;>simp[kdOf] at hr
     rename_i fields
     cases hx with
     |agg _ us h1 h2 h3=>
     cases hy with
     |agg _ vs k1 k2 k3=>
       have hx':VR κ w N (.agg cs) (.agg us):=.agg cs us h1 h2 h3;have hy':VR κ w N (.agg ds) (.agg vs):=.agg ds vs k1 k2 k3;have hf:P.fieldsOf kt=fields:=by simp[Program.fieldsOf,hu]
       have hus:P.underlying kt=some (.struct (P.fieldsOf kt)):=by rw[hf];exact hu
       have:=run_equalIn_struct (P:=P) w' 9999 kt us vs hus hs.stood;unfold Op.equal Op.maxDepth;rw[this];exact J4P hT 9998 cs ds us vs hx' hy' w' _ 0 ks b (by rw[hf,hr];exact hks) (by simpa using h) hs.blank
    ·cases h
   ·cases h
  ·unfold Op.equal Op.maxDepth;exact J2t ht hx hy h 9999 w'
 ·cases h
def hit (es:List MapEntry)(i0:Nat)(r:Option Nat):Option (Nat×Value):=r.map fun i=>(i0+i,(es.getD i default).val)
theorem JCd {td:TypeDesc}{x y:AV}{u v:Value}(hx:VR κ w N x u)(hy:VR κ w N y v){b:Bool}(h:J2H (kdOf td) x y=some b):Instr.sameNow td u v=some b:=by
 unfold J2H at h;split at h
 ·rename_i hk
  cases hx with
  |val _ _=>cases hy with
    |val _ _=>
      split at h
      ·rename_i he;subst he;cases h;cases td<;>simp[kdOf] at hk
       simp[Instr.sameNow]
      ·cases h
 ·rename_i hk
  cases hx with
  |val _ _=>cases hy with
    |val _ _=>cases h;cases td<;>simp[kdOf] at hk;rfl
 ·rename_i hk
  cases hx with
  |val _ _=>cases hy with
    |val _ _=>cases h;cases td<;>simp[kdOf] at hk;rfl
 ·cases h
theorem J8b (hT:TOk P T){kt:Nat}(hs:KeySt P kt){x:AV}{u:Value}(hx:VR κ w N x u)(h0:∃ b,J0h T kt x x=some b){ks:List AV}{es:List MapEntry}(hl:ks.length=es.length)(hv:∀ i (h:i<ks.length) (h':i<es.length),VR κ w N ks[i] es[i].key){r:Option Nat}
  (h:J10 (J0h T kt x) ks=some r)(w':World):(Instr.findKey kt u es).run P w'=.ok (hit es 0 r) w':=by
 have ask:∀ (es:List MapEntry) (ks:List AV) (i0:Nat) (r:Option Nat),ks.length=es.length→(∀ i (h:i<ks.length) (h':i<es.length),VR κ w N ks[i] es[i].key)→J10 (J0h T kt x) ks=some r→(Instr.findAsking kt u es i0).run P w'=.ok (hit es i0 r) w':=by
  intro es
  induction es with
  |nil=>
    intro ks i0 r hl hv h
    cases ks with
    |nil=>simp only[J10,Option.some.injEq] at h;subst h;simp[Instr.findAsking,hit]
    |cons=>simp at hl
  |cons e es ih=>
    intro ks i0 r hl hv h
    cases ks with
    |nil=>simp at hl
    |cons k ks=>
      simp only[J10] at h;have h0:=hv 0 (by simp) (by simp);simp only[List.getElem_cons_zero] at h0;split at h
      ·rename_i hb;cases h;simp[Instr.findAsking,Sem.run_bind,J6f hT hs hx h0 hb w',hit]
      ·rename_i hb;split at h
       ·rename_i r' hr';cases h;have:=ih ks (i0+1) r' (by simpa using hl) (fun i h h'=>by have:=hv (i+1) (by simpa using h) (by simpa using h');simpa using this) hr';simp only[Instr.findAsking,Sem.run_bind,J6f hT hs hx h0 hb w',Result.andThen_ok,Bool.false_eq_true,if_false,this];cases r'<;>simp[hit]
        omega
       ·cases h
      ·cases h
 cases hT':T kt with
 |none=>
   obtain ⟨b0,hb0⟩:=h0;simp[J0h,hT'] at hb0
 |some d=>
   have ht:=J0W (hT _ _ hT');obtain ⟨td,hu,hr⟩:=ht.und;unfold Instr.findKey;simp only[Sem.run_bind,run_underlying hu,Result.andThen_ok]
   by_cases hst:∃ fs,d.kind=.struct fs
   ·obtain ⟨fs,hk⟩:=hst;rw[hk] at hr;cases td<;>simp[kdOf] at hr
    cases es with
    |nil=>
      have:ks=[]:=by simpa using hl
      subst this;simp only[J10,Option.some.injEq] at h;subst h;simp[Instr.findNow,hit]
    |cons e es=>
      simp only[Instr.findNow,Instr.sameNow];exact ask _ ks 0 r hl hv h
   ·have now:∀ (es:List MapEntry) (ks:List AV) (i0:Nat) (r:Option Nat),ks.length=es.length→(∀ i (h:i<ks.length) (h':i<es.length),VR κ w N ks[i] es[i].key)→J10 (J0h T kt x) ks=some r→Instr.findNow td u es i0=some (hit es i0 r):=by
     intro es
     induction es with
     |nil=>
       intro ks i0 r hl hv h
       cases ks with
       |nil=>simp only[J10,Option.some.injEq] at h;subst h;simp[Instr.findNow,hit]
       |cons=>simp at hl
     |cons e es ih=>
       intro ks i0 r hl hv h
       cases ks with
       |nil=>simp at hl
       |cons k ks=>
         simp only[J10] at h;have h0:=hv 0 (by simp) (by simp);simp only[List.getElem_cons_zero] at h0
         have hke:∀ b,J0h T kt x k=some b→Instr.sameNow td u e.key=some b:=by
          intro b hb;unfold J0h at hb;rw[hT'] at hb;simp only at hb;split at hb
          ·rename_i fs hk;exact absurd ⟨fs,hk⟩ hst
          ·exact JCd hx h0 (by rw[hr];exact hb)
         split at h
         ·rename_i hb;cases h;simp[Instr.findNow,hke _ hb,hit]
         ·rename_i hb;split at h
          ·rename_i r' hr';cases h;have:=ih ks (i0+1) r' (by simpa using hl) (fun i h h'=>by have:=hv (i+1) (by simpa using h) (by simpa using h');simpa using this) hr';simp only[Instr.findNow,hke _ hb,this];cases r'<;>simp[hit]
           omega
          ·cases h
         ·cases h
    rw[now es ks 0 r hl hv h];simp
end
end Go.Fw
