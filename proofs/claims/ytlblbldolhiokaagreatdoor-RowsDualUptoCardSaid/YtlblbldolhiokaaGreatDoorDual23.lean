/- Part 23 of the proof. -/
import Derived.Test.YtlblbldolhiokaaGreatDoorDual22
set_option linter.unusedVariables false
set_option linter.unusedSimpArgs false
set_option linter.unusedSectionVars false
set_option maxRecDepth 100000
set_option exponentiation.threshold 400
set_option maxHeartbeats 8000000
namespace Go.Fw
open Go.RowKit
structure Need (p K:Prop):Prop where
 mk' ::
 o:p∧K
structure CondP (b:Bool) (X Y:Prop):Prop where
 mk' ::
 o:(b=true→X)∧(b=false→Y)
structure AllP (f:Nat→Prop):Prop where
 mk' ::
 o:∀ γ,f γ
structure CallP (E:En) (f:Nat) (args:List AV) (H:Hp) (C:AV→Hp→Prop):Prop where
 mk' ::
 o:(J03 E.P f∧JBw E.P f args H C)∨∃ r,J2k E.P f args r∧C (.val r) H
structure AndP (X Y:Prop):Prop where
 mk' ::
 o:X∧Y
theorem Need.intro {p K:Prop}(h:p)(k:K):Need p K:=⟨⟨h,k⟩⟩
theorem Need.out {p K:Prop}(h:Need p K):p∧K:=h.o
theorem AndP.intro {p K:Prop}(h:p)(k:K):AndP p K:=⟨⟨h,k⟩⟩
theorem AndP.out {p K:Prop}(h:AndP p K):p∧K:=h.o
theorem AllP.intro {f:Nat→Prop}(h:∀ γ,f γ):AllP f:=⟨h⟩
theorem AllP.out {f:Nat→Prop}(h:AllP f):∀ γ,f γ:=h.o
theorem CondP.intro {b:Bool}{X Y:Prop}(h:b=true→X)(k:b=false→Y):CondP b X Y:=⟨⟨h,k⟩⟩
theorem CondP.out {b:Bool}{X Y:Prop}(h:CondP b X Y):(b=true→X)∧(b=false→Y):=h.o
theorem CondP.tt {X Y:Prop}(h:X):CondP true X Y:=.intro (fun _=>h) (fun h=>by cases h)
theorem CondP.ff {X Y:Prop}(h:Y):CondP false X Y:=.intro (fun h=>by cases h) (fun _=>h)
theorem CondP.dec {p:Prop}[Decidable p]{X Y:Prop}(h:p→X)(k:¬ p→Y):CondP (decide p) X Y:=.intro (fun q=>h (of_decide_eq_true q)) (fun q=>k (of_decide_eq_false q))
theorem CondP.not {b:Bool}{X Y:Prop}(h:CondP b Y X):CondP (!b) X Y:=.intro (fun q=>h.out.2 (by simpa using q)) (fun q=>h.out.1 (by simpa using q))
theorem CallP.out {E:En}{f:Nat}{args:List AV}{H:Hp}{C:AV→Hp→Prop}(h:CallP E f args H C):(J03 E.P f∧JBw E.P f args H C)∨∃ r,J2k E.P f args r∧C (.val r) H:=h.o
theorem J00 {E:En}{f:Nat}{args:List AV}{H:Hp}{C:AV→Hp→Prop}(S:List Nat)(r:AV)(hc:J03 E.P f)(h:PureCall E.P f (args.map (snap S H)) r)(k:C r (rem H S)):CallP E f args H C:=⟨.inl ⟨hc,.inl ⟨S,r,h,.inr k⟩⟩⟩
theorem CallP.flat {E:En}{f:Nat}{args:List AV}{H:Hp}{C:AV→Hp→Prop}(S:List Nat)(r:AV)(hc:J03 E.P f)(h:PureCall E.P f (args.map (snap S H)) r)(hf:flat r=true)(k:C r H):CallP E f args H C:=⟨.inl ⟨hc,.inl ⟨S,r,h,.inl ⟨hf,k⟩⟩⟩⟩
theorem CallP.own {E:En}{f:Nat}{args:List AV}{H:Hp}{C:AV→Hp→Prop}(hc:J03 E.P f)(h:HCall E.P f args H C):CallP E f args H C:=⟨.inl ⟨hc,.inr h⟩⟩
theorem CallP.ext {E:En}{f:Nat}{args:List AV}{H:Hp}{C:AV→Hp→Prop}(r:Value)(h:J2k E.P f args r)(k:C (.val r) H):CallP E f args H C:=⟨.inr ⟨r,h,k⟩⟩
def fv (x:AV)(C:AV→Prop):Prop:=
 match x with
 |.dead=>C .dead
 |.val v=>C (.val v)
 |.agg cs=>C (.agg cs)
 |.tup cs=>C (.tup cs)
 |.sl n xs=>C (.sl n xs)
 |.fu n xs=>C (.fu n xs)
 |.ep y k=>C (.ep y k)
 |.own b g o l=>C (.own b g o l)
 |.op b g i k=>C (.op b g i k)
 |.fn f a c=>C (.fn f a c)
 |.mp ks vs=>C (.mp ks vs)
 |.om b g=>C (.om b g)
 |.it b g=>C (.it b g)
theorem J5e (x:AV)(C:AV→Prop):fv x C=C x:=by cases x<;>rfl
section
variable {T:Nat→Option TD} {H:Hp} {P:Program}
def JDD (d:TD)(y:AV)(k:Nat)(C:AV→Prop):Prop:=
 match d.kind.agg with
 |false=>match y.cells[k]? with
   |some x=>fv x C
   |none=>False
 |true=>match Nat.ble (k+d.size) y.cells.length with
   |true=>match Nat.beq k 0,Nat.beq d.size y.cells.length,y with
     |true,true,.agg cs=>C (.agg cs)
     |_,_,_=>C (.agg ((y.cells.drop k).take d.size))
   |false=>False
theorem J4u {d:TD}(h1:d.kind.agg=false→d.size=1){y:AV}{k:Nat}{C:AV→Prop}(h:JDD d y k C):fits d y k∧C (cut d y k):=by
 unfold JDD at h;unfold fits cut;split at h
 ·rename_i hk;split at h
  ·rename_i x hx;rw[J5e] at h;have:=(List.getElem?_eq_some_iff.1 hx).1;refine ⟨by rw[h1 hk];omega,?_⟩;rw[hk,if_neg (by simp),List.getD_eq_getElem?_getD,hx];exact h
  ·exact h.elim
 ·rename_i hk;split at h
  ·rename_i hb;refine ⟨Nat.le_of_ble_eq_true hb,?_⟩;rw[hk,if_pos rfl];split at h
   ·rename_i cs h2 h3;rw[Nat.eq_of_beq_eq_true h2,Nat.eq_of_beq_eq_true h3]
    simpa using h
   ·exact h
  ·exact h.elim
def J77 (T:Nat→Option TD)(H:Hp)(t:Nat)(p:AV)(C:AV→Prop):Prop:=
 match p with
 |.ep y k=>match T t with
   |some d=>JDD d y k C
   |none=>False
 |.op b g i k=>match T t with
   |some d=>match H b with
     |some (g',B)=>Need (g'=g∧i<B.xs.length) (JDD d (B.xs.getD i .dead) k C)
     |none=>False
   |none=>False
 |_=>False
theorem J3h (hT:TOk P T){t:Nat}{p:AV}{C:AV→Prop}(h:J77 T H t p C):evLoad T H t p C:=by
 unfold J77 at h;unfold evLoad;cases p<;>simp only at h ⊢<;>try exact h.elim
 ·split at h
  ·rename_i d hd;exact ⟨d,hd,J4u (J0W (hT _ _ hd)).one h⟩
  ·exact h.elim
 ·split at h
  ·rename_i d hd;split at h
   ·rename_i g' B hB;have hq:=h.out;obtain ⟨⟨rfl,h2⟩,h3⟩:=hq;exact ⟨d,hd,B,hB,h2,J4u (J0W (hT _ _ hd)).one h3⟩
   ·exact h.elim
  ·exact h.elim
def J67 (T:Nat→Option TD)(s f:Nat)(C:Nat→TD→Prop):Prop:=
 match T s with
 |some d=>match d.kind with
   |.struct fs=>match fs[f]? with
     |some p=>match T p.2 with
       |some fd=>C p.1 fd
       |none=>False
     |none=>False
   |_=>False
 |none=>False
theorem J79 {s f:Nat}{C:Nat→TD→Prop}(h:J67 T s f C):fieldOf T s f C:=by
 unfold J67 at h;split at h
 ·rename_i d hd;split at h
  ·rename_i fs hk;split at h
   ·rename_i p hp;split at h
    ·rename_i fd hfd;exact ⟨d,hd,fs,hk,p,hp,fd,hfd,h⟩
    ·exact h.elim
   ·exact h.elim
  ·exact h.elim
 ·exact h.elim
theorem fieldOf.mono {s f:Nat}{C C':Nat→TD→Prop}(h:fieldOf T s f C)(hC:∀ a b,(∃ t,T t=some b)→C a b→C' a b):fieldOf T s f C':=by
 obtain ⟨d,hd,fs,hk,p,hp,fd,hfd,h⟩:=h;exact ⟨d,hd,fs,hk,p,hp,fd,hfd,hC _ _ ⟨_,hfd⟩ h⟩
def J2G (T:Nat→Option TD)(s:Nat)(p:AV)(f:Nat)(C:AV→Prop):Prop:=
 match p with
 |.ep y k=>J67 T s f fun o _=>C (.ep y (k+o))
 |.op b g i k=>J67 T s f fun o _=>C (.op b g i (k+o))
 |_=>False
theorem J37 {s f:Nat}{p:AV}{C:AV→Prop}(h:J2G T s p f C):evFieldAddr T s p f C:=by
 unfold J2G at h;unfold evFieldAddr
 cases p<;>simp only at h ⊢<;>first|exact J79 h|exact h.elim
def J4t (T:Nat→Option TD)(s:Nat)(x:AV)(f:Nat)(C:AV→Prop):Prop:=
 match x with
 |.agg cs=>J67 T s f fun o fd=>JDD fd (.agg cs) o C
 |_=>False
theorem J66 (hT:TOk P T){s f:Nat}{p:AV}{C:AV→Prop}(h:J4t T s p f C):evField T s p f C:=by
 unfold J4t at h;unfold evField;cases p<;>simp only at h ⊢<;>try exact h.elim
 refine (J79 h).mono fun a b ⟨t,ht⟩ h=>?_;exact J4u (J0W (hT _ _ ht)).one h
def J1l (T:Nat→Option TD)(t:Nat)(C:Nat→TD→Prop):Prop:=
 match T t with
 |some d=>match d.kind with
   |.slice e=>match T e,Nat.beq e solo with
     |some ed,false=>C e ed
     |_,_=>False
   |_=>False
 |none=>False
theorem J21 {t:Nat}{C:Nat→TD→Prop}(h:J1l T t C):elemT T t C:=by
 unfold J1l at h;split at h
 ·rename_i d hd;split at h
  ·rename_i e hk;split at h
   ·rename_i ed hed hns;exact ⟨d,hd,e,hk,ed,hed,fun e=>by subst e;simp at hns,h⟩
   ·exact h.elim
  ·exact h.elim
 ·exact h.elim
theorem J22 {t:Nat}{C:Nat→TD→Prop}{C':TD→Prop}(h:J1l T t C)(hC:∀ e ed,C e ed→C' ed):elemOfT T t C':=by
 obtain ⟨d,hd,e,hk,ed,hed,_,h⟩:=J21 h;exact ⟨d,hd,e,hk,ed,hed,hC _ _ h⟩
theorem elemT.mono {t:Nat}{C C':Nat→TD→Prop}(h:elemT T t C)(hC:∀ e ed,C e ed→C' e ed):elemT T t C':=by
 obtain ⟨d,hd,e,hk,ed,hed,hn,h⟩:=h;exact ⟨d,hd,e,hk,ed,hed,hn,hC _ _ h⟩
def JFU (T:Nat→Option TD)(t:Nat)(C:Nat→TD→Prop):Prop:=
 match T t with
 |some d=>match d.kind with
   |.array n e=>match T e with
     |some ed=>C n ed
     |none=>False
   |_=>False
 |none=>False
theorem J88 {t:Nat}{C C':Nat→TD→Prop}(h:JFU T t C)(hC:∀ e ed,(∃ t,T t=some ed)→C e ed→C' e ed):arrOfT T t C':=by
 unfold JFU at h;split at h
 ·rename_i d hd;split at h
  ·rename_i n e hk;split at h
   ·rename_i ed hed;exact ⟨d,hd,n,e,hk,ed,hed,hC _ _ ⟨_,hed⟩ h⟩
   ·exact h.elim
  ·exact h.elim
 ·exact h.elim
def J2F (T:Nat→Option TD)(H:Hp)(t:Nat)(x ix:AV)(C:AV→Prop):Prop:=
 match ix with
 |.val (.int _ i)=>match x with
   |.sl n xs=>J1l T t fun _ ed=>match Nat.beq n ed.size with
     |true=>Need (0≤i∧i<xs.length) (C (.ep (xs.getD i.toNat .dead) 0))
     |false=>False
   |.own b g off len=>J1l T t fun _ ed=>match H b with
     |some (g',B)=>match Nat.beq B.n ed.size with
       |true=>Need (g'=g∧0≤i∧i<len) (C (.op b g (off+i.toNat) 0))
       |false=>False
     |none=>False
   |.op b g j k=>JFU T t fun n ed=>Need (0≤i∧i<n) (C (.op b g j (k+i.toNat*ed.size)))
   |.ep y k=>JFU T t fun n ed=>Need (0≤i∧i<n) (C (.ep y (k+i.toNat*ed.size)))
   |_=>False
 |_=>False
theorem J36 {t:Nat}{x ix:AV}{C:AV→Prop}(h:J2F T H t x ix C):evIndexAddr T H t x ix C:=by
 unfold J2F at h;unfold evIndexAddr;split at h
 ·split at h
  ·refine J22 h fun e ed h=>?_;split at h
   ·rename_i hn;obtain ⟨⟨h1,h2⟩,h⟩:=h.out;exact ⟨Nat.eq_of_beq_eq_true hn,h1,h2,h⟩
   ·exact h.elim
  ·refine J22 h fun e ed h=>?_;split at h
   ·rename_i g' B hB;split at h
    ·rename_i hn;have hq:=h.out;obtain ⟨⟨rfl,h1,h2⟩,h3⟩:=hq;exact ⟨B,hB,Nat.eq_of_beq_eq_true hn,h1,h2,h3⟩
    ·exact h.elim
   ·exact h.elim
  ·refine J88 h fun e ed _ h=>?_;obtain ⟨⟨h1,h2⟩,h⟩:=h.out;exact ⟨h1,h2,h⟩
  ·refine J88 h fun e ed _ h=>?_;obtain ⟨⟨h1,h2⟩,h⟩:=h.out;exact ⟨h1,h2,h⟩
  ·exact h.elim
 ·exact h.elim
def J85 (T:Nat→Option TD)(t:Nat)(x ix:AV)(C:AV→Prop):Prop:=
 match ix with
 |.val (.int _ i)=>match x with
   |.val (.string s)=>match T t with
     |some d=>match d.kind with
       |.str=>Need (0≤i∧i<s.size) (C (.val (.int .u8 (byteAt s i.toNat))))
       |_=>False
     |none=>False
   |.agg cs=>JFU T t fun n ed=>Need (0≤i∧i<n) (JDD ed (.agg cs) (i.toNat*ed.size) C)
   |_=>False
 |_=>False
theorem J78 (hT:TOk P T){t:Nat}{x ix:AV}{C:AV→Prop}(h:J85 T t x ix C):evIndex T t x ix C:=by
 unfold J85 at h;unfold evIndex;split at h
 ·split at h
  ·split at h
   ·rename_i d hd;split at h
    ·rename_i hk;obtain ⟨⟨h1,h2⟩,h⟩:=h.out;exact ⟨⟨d,hd,hk⟩,h1,h2,h⟩
    ·exact h.elim
   ·exact h.elim
  ·refine J88 h fun e ed ⟨t',ht⟩ h=>?_;obtain ⟨⟨h1,h2⟩,h⟩:=h.out;exact ⟨h1,h2,J4u (J0W (hT _ _ ht)).one h⟩
  ·exact h.elim
 ·exact h.elim
def J3i (x:AV)(i:Nat)(C:AV→Prop):Prop:=
 match x with
 |.tup vs=>match vs[i]? with
   |some v=>fv v C
   |none=>False
 |_=>False
theorem J4U {x:AV}{i:Nat}{C:AV→Prop}(h:J3i x i C):evExtract x i C:=by
 unfold J3i at h;unfold evExtract;split at h
 ·split at h
  ·rename_i v hv;rw[J5e] at h;refine ⟨(List.getElem?_eq_some_iff.1 hv).1,?_⟩;rw[List.getD_eq_getElem?_getD,hv];exact h
  ·exact h.elim
 ·exact h.elim
def J5U:IntKind→Int
 |.i8=>-128|.i16=>-32768|.i32=>-2147483648|.i64=>-9223372036854775808
 |_=>0
def J2Z:IntKind→Int
 |.i8=>127|.i16=>32767|.i32=>2147483647|.i64=>9223372036854775807
 |.u8=>255|.u16=>65535|.u32=>4294967295|.u64=>18446744073709551615
theorem J40 (k:IntKind)(n:Int)(h1:J5U k≤n)(h2:n≤J2Z k):k.wrap n=n:=by
 cases k<;>simp only[J5U,J2Z] at h1 h2<;>simp[IntKind.wrap,IntKind.bits,IntKind.signed]<;>omega
end
end Go.Fw
