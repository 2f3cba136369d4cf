/- Part 39 of the proof. -/
import Derived.Test.YtlblbldolhiokaaGreatDoorDual38
set_option linter.unusedVariables false
set_option linter.unusedSimpArgs false
set_option linter.unusedSectionVars false
set_option maxRecDepth 100000
set_option exponentiation.threshold 400
set_option maxHeartbeats 8000000
namespace Go.Fw
open Go.RowKit
section
variable {P:Program} {T:Nat→Option TD} {H:Hp}
def JIR (T:Nat→Option TD)(t d γ:Nat)(l c:AV):Option (AV×Up):=
 match l,c with
 |.val (.int _ l),.val (.int _ c)=>(natI l).bind fun l=>(natI c).bind fun c=>(J4a T t).bind fun q=>
  ifB (Nat.ble l c&&Nat.ble (q.2.bytes*c) 281474976710656&&Nat.ble c 9223372036854775807) (some (.own d γ 0 l,some (d,γ,⟨q.1,q.2.size,List.replicate l (mkEl q.2)⟩)))
 |_,_=>none
theorem JGF {t d γ:Nat}{l c v:AV}{up:Up}(h:JIR T t d γ l c=some (v,up)){C:AV→Up→Prop}(hC:C v up):evMake T t d γ l c C:=by
 unfold JIR at h;unfold evMake;split at h
 ·obtain ⟨l',h1,h⟩:=J02 h;obtain ⟨c',h2,h⟩:=J02 h;obtain ⟨⟨e,ed⟩,h3,h⟩:=J02 h;obtain ⟨hc,h⟩:=J0B h;cases h;simp only[Bool.and_eq_true] at hc;rw[J0z h1,J0z h2];have a1:=Nat.le_of_ble_eq_true hc.1.1;have a2:ed.bytes*c'≤281474976710656:=Nat.le_of_ble_eq_true hc.1.2;have a3:=Nat.le_of_ble_eq_true hc.2;exact (J16 h3).1 _ ⟨by omega,by omega,by rw[← Int.natCast_mul];omega,by omega,by simpa using hC⟩
 ·cases h
def J50 (T:Nat→Option TD)(t d γ len:Nat)(l:List (Nat×AV)):Option (AV×Up):=
 (J4a T t).bind fun q=>ifB (J5M q.2.size 0 l&&Nat.beq l.length len&&Nat.ble (len*q.2.size) 16777216) (some (.own d γ 0 len,some (d,γ,⟨q.1,q.2.size,l.map Prod.snd⟩)))
theorem J6L {t d γ len:Nat}{l:List (Nat×AV)}{v:AV}{up:Up}(h:J50 T t d γ len l=some (v,up)){C:AV→Up→Prop}(hC:C v up):evBuildSlice T t d γ len l C:=by
 obtain ⟨⟨e,ed⟩,h3,h⟩:=J02 h;obtain ⟨hc,h⟩:=J0B h;cases h;simp only[Bool.and_eq_true] at hc;obtain ⟨k1,k2⟩:=J49 _ _ _ hc.1.1;exact (J16 h3).1 _ ⟨k1,Nat.eq_of_beq_eq_true hc.1.2,k2,Nat.le_of_ble_eq_true hc.2,hC⟩
def JDQ (T:Nat→Option TD)(H:Hp)(t:Nat)(p x:AV):Option Up:=
 match p with
 |.op b g i k=>(T t).bind fun d=>(H b).bind fun B=>
  ifB (J2K x&&Nat.beq x.cells.length d.size&&J1y x.cells&&Nat.beq B.1 g&&Nat.blt i B.2.xs.length&&Nat.ble (k+d.size) B.2.n) (some (some (b,g,{ B.2 with xs:=B.2.xs.set i (J5D (B.2.xs.getD i .dead) k x) })))
 |_=>none
theorem JDP {t:Nat}{p x:AV}{up:Up}(h:JDQ T H t p x=some up){C:Up→Prop}(hC:C up):evStore T H t p x C:=by
 unfold JDQ at h;unfold evStore;split at h
 ·obtain ⟨d,hd,h⟩:=J02 h;obtain ⟨⟨g',B⟩,hB,h⟩:=J02 h;obtain ⟨hc,h⟩:=J0B h;cases h;simp only[Bool.and_eq_true] at hc;have e:g'=_:=Nat.eq_of_beq_eq_true hc.1.1.2;subst e;exact ⟨d,hd,hc.1.1.1.1.1,Nat.eq_of_beq_eq_true hc.1.1.1.1.2,B,hB,Nat.le_of_ble_eq_true hc.1.2,Nat.le_of_ble_eq_true hc.2,J2a _ hc.1.1.1.2,hC⟩
 ·cases h
def xSrc (H:Hp)(n:Nat)(y:AV):Option (List AV):=
 match y with
 |.sl m ys=>ifB (Nat.beq m n) (some ys)
 |.own b g off len=>(H b).bind fun B=>ifB (Nat.beq B.1 g&&Nat.beq B.2.n n&&Nat.ble (off+len) B.2.xs.length) (some ((B.2.xs.drop off).take len))
 |.val (.slice none 0 0)=>some []
 |_=>none
theorem JDR {n:Nat}{y:AV}{ys:List AV}(h:xSrc H n y=some ys){C:List AV→Prop}(hC:C ys):srcOf H n y C:=by
 unfold xSrc at h;unfold srcOf;split at h
 ·obtain ⟨hc,h⟩:=J0B h;cases h;exact ⟨Nat.eq_of_beq_eq_true hc,hC⟩
 ·obtain ⟨⟨g',B⟩,hB,h⟩:=J02 h;obtain ⟨hc,h⟩:=J0B h;cases h;simp only[Bool.and_eq_true] at hc;have e:g'=_:=Nat.eq_of_beq_eq_true hc.1.1;subst e;exact ⟨B,hB,Nat.eq_of_beq_eq_true hc.1.2,Nat.le_of_ble_eq_true hc.2,hC⟩
 ·cases h;exact hC
 ·cases h
def J7K (X:XE)(t:Nat)(x:AV)(lo hi mx:Option AV):Option AV:=
 match x,lo,hi,mx with
 |.sl n xs,none,some (.val (.int _ i)),some (.val (.int _ j))=>(natI i).bind fun i=>(natI j).bind fun j=>(J4a X.E.T t).bind fun q=>ifB (Nat.beq n q.2.size&&Nat.beq i j&&Nat.ble i xs.length) (some (.fu n (xs.take i)))
 |.ep (.agg cs) 0,none,none,none=>ifB (X.arrs t cs.length) (some (.sl 1 cs))
 |_,_,_,_=>none
theorem JCJ {X:XE}(hX:XOk X){t:Nat}{x v:AV}{lo hi mx:Option AV}(h:J7K X t x lo hi mx=some v){C:AV→Prop}(hC:C v):evSliceF X.E.P X.E.T t x lo hi mx C:=by
 unfold J7K at h;unfold evSliceF;split at h
 ·obtain ⟨i,hi,h⟩:=J02 h;obtain ⟨j,hj,h⟩:=J02 h;obtain ⟨⟨e,ed⟩,h1,h⟩:=J02 h;obtain ⟨hc,h⟩:=J0B h;cases h;simp only[Bool.and_eq_true] at hc;rw[J0z hi,J0z hj];exact (J16 h1).2 _ ⟨Nat.eq_of_beq_eq_true hc.1.1,by rw[Nat.eq_of_beq_eq_true hc.1.2],Int.natCast_nonneg _,by have:=Nat.le_of_ble_eq_true hc.2;omega,by simpa using hC⟩
 ·obtain ⟨hc,h⟩:=J0B h;cases h;exact ⟨hX.arrs _ _ hc,hC⟩
 ·cases h
def J9z (X:XE)(H:Hp)(t:Nat)(x:AV)(lo hi mx:Option AV):Option AV:=
 match JDT X.E.T H t x lo hi mx with
 |some v=>some v
 |none=>J7K X t x lo hi mx
theorem JCK {X:XE}(hX:XOk X){H:Hp}{t:Nat}{x v:AV}{lo hi mx:Option AV}(h:J9z X H t x lo hi mx=some v){C:AV→Prop}(hC:C v):evSliceA X.E.P X.E.T H t x lo hi mx C:=by
 unfold J9z at h;split at h
 ·rename_i v' h1;cases h;exact JDS h1 hC
 ·have h2:=JCJ hX h hC;unfold evSliceA
  cases x<;>first|exact .inr h2|(unfold J7K at h;cases h)
def xMM (b:Bool)(l:List AV):Option AV:=
 match l with
 |.val (.int k x)::r=>(mmF b x r).bind fun z=>some (.val (.int k z))
 |_=>none
theorem JHt {b:Bool}{l:List AV}{v:AV}(h:xMM b l=some v){C:AV→Prop}(hC:C v):evMM b l C:=by
 unfold xMM at h;unfold evMM;split at h
 ·obtain ⟨z,h1,h⟩:=J02 h;cases h;exact ⟨z,h1,hC⟩
 ·cases h
def JKI:AV→Bool
 |.val _=>true
 |_=>false
theorem VL.of {ys:List AV}(h:ys.all JKI=true):VL ys:=⟨fun y hy=>by
 have:=List.all_eq_true.1 h y hy
 cases y<;>first|exact ⟨_,rfl⟩|cases this⟩
def JA6 (T:Nat→Option TD)(H:Hp)(t d γ:Nat)(x y:AV):Option (AV×Up):=
 (J4a T t).bind fun q=>(xSrc H q.2.size y).bind fun ys=>
   match x with
   | .own b g 0 len=>(H b).bind fun B=>ifB (Nat.beq B.1 g&&Nat.beq B.2.n q.2.size&&Nat.beq B.2.e q.1&&Nat.ble len B.2.xs.length&&Nat.ble ((len+ys.length)*q.2.bytes) 140737488355328&&Nat.ble (len+ys.length) 9223372036854775807)
    (some (.own b γ 0 (len+ys.length),some (b,γ,⟨q.1,q.2.size,B.2.xs.take len++ys⟩)))
   |.fu n xs=>ifB (Nat.beq n q.2.size&&ys.all JKI&&Nat.ble ((xs.length+ys.length)*q.2.bytes) 140737488355328&&Nat.ble (xs.length+ys.length) 9223372036854775807) (some (.sl q.2.size (xs++ys),none))
   |.val (.slice none 0 0)=>ifB (Nat.ble (ys.length*q.2.bytes) 140737488355328&&Nat.ble ys.length 9223372036854775807) (some (.own d γ 0 ys.length,some (d,γ,⟨q.1,q.2.size,ys⟩)))
   |_=>none
theorem JCO {t d γ:Nat}{x y v:AV}{up:Up}(h:JA6 T H t d γ x y=some (v,up)){C:AV→Up→Prop}(hC:C v up):evAppend T H t d γ x y C:=by
 unfold JA6 at h;obtain ⟨⟨e,ed⟩,h1,h⟩:=J02 h;obtain ⟨ys,h2,h⟩:=J02 h;refine (J16 h1).1 _ (JDR h2 ?_);split at h
 ·obtain ⟨⟨g',B⟩,hB,h⟩:=J02 h;obtain ⟨hc,h⟩:=J0B h;cases h;simp only[Bool.and_eq_true] at hc;have e:g'=_:=Nat.eq_of_beq_eq_true hc.1.1.1.1.1;subst e;exact ⟨B,hB,Nat.eq_of_beq_eq_true hc.1.1.1.1.2,Nat.eq_of_beq_eq_true hc.1.1.1.2,Nat.le_of_ble_eq_true hc.1.1.2,Nat.le_of_ble_eq_true hc.2,Nat.le_of_ble_eq_true hc.1.2,hC⟩
 ·obtain ⟨hc,h⟩:=J0B h;cases h;simp only[Bool.and_eq_true] at hc;exact ⟨Nat.eq_of_beq_eq_true hc.1.1.1,VL.of hc.1.1.2,Nat.le_of_ble_eq_true hc.2,Nat.le_of_ble_eq_true hc.1.2,hC⟩
 ·obtain ⟨hc,h⟩:=J0B h;cases h;simp only[Bool.and_eq_true] at hc;exact ⟨Nat.le_of_ble_eq_true hc.2,Nat.le_of_ble_eq_true hc.1,hC⟩
 ·cases h
def JIT (T:Nat→Option TD)(H:Hp)(t:Nat)(x y:AV):Option (AV×Up):=
 match x with
 |.own b g off len=>(J4a T t).bind fun q=>(H b).bind fun B=>(xSrc H 1 y).bind fun ys=>
  ifB (Nat.beq q.2.size 1&&Nat.beq B.1 g&&Nat.beq B.2.n 1&&Nat.ble (off+len) B.2.xs.length)
   (match Nat.blt 0 (min ys.length len) with
   |true=>some (.val (.int .i64 (min ys.length len:Nat)),some (b,g,spl B.2 off (ys.take len)))
   |false=>some (.val (.int .i64 0),none))
 |_=>none
theorem JGJ {t:Nat}{x y v:AV}{up:Up}(h:JIT T H t x y=some (v,up)){C:AV→Up→Prop}(hC:C v up):evCopy T H t x y C:=by
 unfold JIT at h;unfold evCopy;split at h
 ·obtain ⟨⟨e,ed⟩,h1,h⟩:=J02 h;obtain ⟨⟨g',B⟩,hB,h⟩:=J02 h;obtain ⟨ys,h2,h⟩:=J02 h;obtain ⟨hc,h⟩:=J0B h;simp only[Bool.and_eq_true] at hc;have e:g'=_:=Nat.eq_of_beq_eq_true hc.1.1.2;subst e;refine (J16 h1).1 _ ⟨Nat.eq_of_beq_eq_true hc.1.1.1,B,hB,Nat.eq_of_beq_eq_true hc.1.2,Nat.le_of_ble_eq_true hc.2,JDR h2 ?_⟩;split at h
  ·rename_i hb;cases h;exact ⟨fun _=>hC,fun hn=>absurd (Nat.le_of_ble_eq_true hb) hn⟩
  ·rename_i hb;cases h;refine ⟨fun hp=>?_,fun _=>hC⟩;have:Nat.blt 0 (min ys.length _)=true:=Nat.ble_eq_true_of_le hp;rw[hb] at this;cases this
 ·cases h
def JIQ (X:XE)(t:Nat):Option (Nat×TD):=
 (X.E.T t).bind fun d=>match d.kind with
 |.map kt et=>(X.E.T et).bind fun ed=>ifB (X.keys kt) (some (kt,ed))
 |_=>none
theorem JB8 {X:XE}(hX:XOk X){t kt:Nat}{ed:TD}(h:JIQ X t=some (kt,ed)){C:Nat→TD→Prop}(hC:C kt ed):mapT X.E.P X.E.T t C:=by
 obtain ⟨d,hd,h⟩:=J02 h;split at h
 ·rename_i kt' et hk;obtain ⟨ed',hed,h⟩:=J02 h;obtain ⟨hc,h⟩:=J0B h;cases h;exact ⟨d,hd,_,et,hk,_,hed,aggZ (hX.hT _ _ hed),hX.keys _ hc,hC⟩
 ·cases h
def JDY (H:Hp)(x:AV):Option (List AV×List AV):=
 match x with
 |.mp ks vs=>some (ks,vs)
 |.om b g=>(H b).bind fun B=>ifB (Nat.beq B.1 g) (match B.2.xs with
   |[.mp ks vs]=>some (ks,vs)
   |_=>none)
 |.val (.map none)=>some ([],[])
 |_=>none
theorem JDX {x:AV}{ks vs:List AV}(h:JDY H x=some (ks,vs)){C:List AV→List AV→Prop}(hC:C ks vs):J7k H x C:=by
 unfold JDY at h;unfold J7k;split at h
 ·cases h;exact hC
 ·obtain ⟨⟨g',B⟩,hB,h⟩:=J02 h;obtain ⟨hc,h9⟩:=J0B h;clear h;have e:g'=_:=Nat.eq_of_beq_eq_true hc;subst e;split at h9
  ·rename_i hx;cases h9;exact ⟨B,_,_,hB,hx,hC⟩
  ·cases h9
 ·cases h;exact hC
 ·cases h
def JDZ (X:XE)(H:Hp)(t:Nat)(x k:AV)(ok:Bool):Option AV:=
 (JIQ X t).bind fun q=>(J0h X.E.T q.1 k k).bind fun _=>(JDY H x).bind fun m=>(J10 (J0h X.E.T q.1 k) m.1).bind fun r=>some (JCw ok r m.2 q.2)
theorem JCN {X:XE}(hX:XOk X){t:Nat}{x k v:AV}{ok:Bool}(h:JDZ X H t x k ok=some v){C:AV→Prop}(hC:C v):evLookup X.E.P X.E.T H t x k ok C:=by
 obtain ⟨⟨kt,ed⟩,h1,h⟩:=J02 h;obtain ⟨b,hb,h⟩:=J02 h;obtain ⟨⟨ks,vs⟩,h2,h⟩:=J02 h;obtain ⟨r,h3,h⟩:=J02 h;cases h;exact JB8 hX h1 ⟨⟨b,hb⟩,JDX h2 ⟨r,h3,hC⟩⟩
def J2m (X:XE)(H:Hp)(t:Nat)(m k v:AV):Option Up:=
 match m with
 |.om b g=>(JIQ X t).bind fun q=>(J0h X.E.T q.1 k k).bind fun _=>(H b).bind fun B=>ifB (Nat.beq B.1 g) (match B.2.xs with
   |[.mp ks vs]=>(J10 (J0h X.E.T q.1 k) ks).bind fun r=>some (some (b,g,{ B.2 with xs:=[putM r (snap [] H k) (snap [] H v) ks vs] }))
   |_=>none)
 |_=>none
theorem J3N {X:XE}(hX:XOk X){t:Nat}{m k v:AV}{up:Up}(h:J2m X H t m k v=some up){C:Up→Prop}(hC:C up):J0j X.E.P X.E.T H t m k v C:=by
 unfold J2m at h;unfold J0j;split at h
 ·obtain ⟨⟨kt,ed⟩,h1,h⟩:=J02 h;replace h:=J02 h;obtain ⟨b,hb,h⟩:=h;replace h:=J02 h;obtain ⟨⟨g',B⟩,hB,h⟩:=h;replace h:=J0B h;obtain ⟨hc,h⟩:=h;have e:g'=_:=Nat.eq_of_beq_eq_true hc;subst e;split at h
  ·rename_i hx;replace h:=J02 h;obtain ⟨r,h3,h⟩:=h;cases h;exact JB8 hX h1 ⟨⟨b,hb⟩,B,_,_,hB,hx,r,h3,hC⟩
  ·cases h
 ·cases h
def JHs (T:Nat→Option TD)(t d γ:Nat)(x:AV):Option (AV×Up):=
 (T t).bind fun td=>match td.kind,x with
 |.str,.val (.string s)=>some (.it d γ,some (d,γ,⟨0,0,[.val (.string s),.val (.int .i64 0)]⟩))
 |.map _ _,.mp ks vs=>some (.it d γ,some (d,γ,⟨0,0,[.mp ks vs,.tup ((List.range ks.length).map encN),.dead]⟩))
 |_,_=>none
theorem JDW {t d γ:Nat}{x v:AV}{up:Up}(h:JHs T t d γ x=some (v,up)){C:AV→Up→Prop}(hC:C v up):J5i T t d γ x C:=by
 replace h:=J02 h;obtain ⟨td,hd,h⟩:=h;refine ⟨td,hd,?_⟩;split at h
 ·rename_i hk;cases h;exact ⟨hk,hC⟩
 ·rename_i hk;cases h;exact ⟨⟨_,_,hk⟩,hC⟩
 ·cases h
def JIP (H:Hp)(it:AV)(isS:Bool):Option (AV×Up):=
 match it with
 |.it b g=>(H b).bind fun B=>ifB (Nat.beq B.1 g) (match B.2.xs,isS with
   |[.val (.string s),.val (.int .i64 p)],true=>match decide (p<s.size) with
     |true=>some (.tup [.val (.bool true),.val (.int .i64 p),.val (.int .i32 ((Utf8.decode s p.toNat).1:Nat))],some (b,g,{ B.2 with xs:=[.val (.string s),.val (.int .i64 (p+(Utf8.decode s p.toNat).2))] }))
     |false=>some (.tup [.val (.bool false)],none)
   |_,_=>none)
 |_=>none
theorem JGE {it v:AV}{isS:Bool}{up:Up}(h:JIP H it isS=some (v,up)){C:AV→Up→Prop}(hC:C v up):J5j H it isS C:=by
 unfold JIP at h;unfold J5j;split at h
 ·obtain ⟨⟨g',B⟩,hB,h⟩:=J02 h;obtain ⟨hc,h⟩:=J0B h;have e:g'=_:=Nat.eq_of_beq_eq_true hc;subst e;refine ⟨B,hB,?_⟩;simp only at h;obtain ⟨Be,Bn,xs⟩:=B;simp only at h ⊢;split at h
  ·split at h
   ·rename_i hp;cases h;unfold runeAt;exact ⟨rfl,fun _=>hC,fun hn=>absurd (of_decide_eq_true hp) hn⟩
   ·rename_i hp;cases h;exact ⟨rfl,fun hn=>absurd hn (of_decide_eq_false hp),fun _=>hC⟩
  ·cases h
 ·cases h
end
def xG (X:XE)(base γ:Nat)(ρ:Operand→AV)(H:Hp)(o:Oper):Option (AV×Up):=
 match o.op with
 |.move x=>some (ρ x,none)
 |.assign x=>some (ρ x,none)
 |.pick c a b=>match ρ c with
   |.val (.bool t)=>some (if t then ρ a else ρ b,none)
   |_=>none
 |.load t x=>(JGI X.E.T H t (ρ x)).bind fun v=>some (v,none)
 |.fieldAddr s x f=>(J3z X.E.T s (ρ x) f).bind fun v=>some (v,none)
 |.field s x f=>(JDf X.E.T s (ρ x) f).bind fun v=>some (v,none)
 |.indexAddr t x i=>(J3x X.E.T H t (ρ x) (ρ i)).bind fun v=>some (v,none)
 |.index t x i=>(JDb X.E.T t (ρ x) (ρ i)).bind fun v=>some (v,none)
 |.extract x i=>(J7N (ρ x) i).bind fun v=>some (v,none)
 |.slice t x lo hi mx=>(J9z X H t (ρ x) (lo.map ρ) (hi.map ρ) (mx.map ρ)).bind fun v=>some (v,none)
 |.binOp op t x y _=>(xBin X op t (ρ x) (ρ y)).bind fun v=>some (v,none)
 |.unOp op _ x=>(xUn op (ρ x)).bind fun v=>some (v,none)
 |.convert s d x=>(JJy X.E.T s d (ρ x)).bind fun v=>some (v,none)
 |.makeFunc f first cap=>some (.fn f (first.toList.map ρ) (cap.toList.map ρ),none)
 |.nilCheck x=>match ρ x with
   |.ep y k=>some (.ep y k,none)
   |.op b g i k=>some (.op b g i k,none)
   |.fn (.func f) a c=>some (.fn (.func f) a c,none)
   |_=>none
 |.build t parts=>(JHv X.E.T t (parts.toList.map fun p=>(p.1,ρ p.2))).bind fun v=>some (v,none)
 |.box t x=>o.dst.bind fun d=>ifB (J2K (ρ x)) (some (.op (base+d) γ 0 0,some (base+d,γ,⟨t,(ρ x).cells.length,[ρ x]⟩)))
 |.alloc t=>o.dst.bind fun d=>(X.E.T t).bind fun td=>some (.op (base+d) γ 0 0,some (base+d,γ,⟨t,td.size,[mkEl td]⟩))
 |.makeSlice t l c=>o.dst.bind fun d=>JIR X.E.T t (base+d) γ (ρ l) (ρ c)
 |.buildSlice t len parts=>o.dst.bind fun d=>J50 X.E.T t (base+d) γ len (parts.toList.map fun p=>(p.1,ρ p.2))
 |.store t a x=>(JDQ X.E.T H t (ρ a) (ρ x)).bind fun up=>some (.tup [],up)
 |.lookup t x k ok=>(JDZ X H t (ρ x) (ρ k) ok).bind fun v=>some (v,none)
 |.call c=>match c.callee with
   |.builtin .len=>match c.args.toList,c.argTypes.toList with
     |[x],[t]=>(xLen X.E.T t (ρ x)).bind fun v=>some (v,none)
     |_,_=>none
   |.builtin .max=>(xMM true (c.args.toList.map ρ)).bind fun v=>some (v,none)
   |.builtin .min=>(xMM false (c.args.toList.map ρ)).bind fun v=>some (v,none)
   |.builtin .append=>match c.args.toList,c.argTypes.toList,o.dst with
     |[x,y],[t,t'],some d=>ifB (Nat.beq t t') (JA6 X.E.T H t (base+d) γ (ρ x) (ρ y))
     |_,_,_=>none
   |.builtin .copy=>match c.args.toList,c.argTypes.toList with
     |[x,y],[t,t']=>JIT X.E.T H t (ρ x) (ρ y)
     |_,_=>none
   |_=>none
 |_=>none
theorem JJx {X:XE}(hX:XOk X){base γ:Nat}{ρ:Operand→AV}{H:Hp}{o:Oper}{v:AV}{up:Up}(h:xG X base γ ρ H o=some (v,up)){C:AV→Up→Prop}(hC:C v up):evG { X.E with base:=base } γ ρ H o C:=by
 obtain ⟨dst,op,ty,pos,after,guard⟩:=o;unfold xG at h;unfold evG;cases op<;>simp only at h ⊢<;>try (cases h;done)
 case move=>cases h;exact hC
 case assign=>cases h;exact hC
 case pick c a b=>
  split at h
  ·rename_i t ht;rw[ht];cases h;exact hC
  ·cases h
 case load=>obtain ⟨v',h1,h⟩:=J02 h;cases h;exact JB9 hX.hT h1 hC
 case fieldAddr=>obtain ⟨v',h1,h⟩:=J02 h;cases h;exact J7M h1 hC
 case field=>obtain ⟨v',h1,h⟩:=J02 h;cases h;exact JDe hX.hT h1 hC
 case indexAddr=>obtain ⟨v',h1,h⟩:=J02 h;cases h;exact J7L h1 hC
 case index=>obtain ⟨v',h1,h⟩:=J02 h;cases h;exact JDa hX.hT h1 hC
 case extract=>obtain ⟨v',h1,h⟩:=J02 h;cases h;exact JA3 h1 hC
 case slice=>obtain ⟨v',h1,h⟩:=J02 h;cases h;exact JCK hX h1 hC
 case binOp=>obtain ⟨v',h1,h⟩:=J02 h;cases h;exact ⟨_,hC,JIU hX h1 rfl⟩
 case unOp=>obtain ⟨v',h1,h⟩:=J02 h;cases h;exact JJv h1 hC
 case convert=>obtain ⟨v',h1,h⟩:=J02 h;cases h;exact JGK h1 hC
 case makeFunc=>cases h;exact hC
 case nilCheck x=>
  split at h
  ·rename_i hq;rw[hq];cases h;exact hC
  ·rename_i hq;rw[hq];cases h;exact hC
  ·rename_i hq;rw[hq];cases h;exact hC
  ·cases h
 case build=>obtain ⟨v',h1,h⟩:=J02 h;cases h;exact JDi h1 hC
 case box t x=>
  obtain ⟨d,hd,h⟩:=J02 h;obtain ⟨hc,h⟩:=J0B h;cases h;subst hd;exact ⟨hc,hC⟩
 case alloc t=>
  obtain ⟨d,hd,h⟩:=J02 h;obtain ⟨td,ht,h⟩:=J02 h;cases h;subst hd;exact ⟨td,ht,hC⟩
 case makeSlice=>
  obtain ⟨d,hd,h⟩:=J02 h;subst hd;exact JGF h hC
 case buildSlice=>
  obtain ⟨d,hd,h⟩:=J02 h;subst hd;exact J6L h hC
 case store=>obtain ⟨v',h1,h⟩:=J02 h;cases h;exact JDP h1 hC
 case lookup=>obtain ⟨v',h1,h⟩:=J02 h;cases h;exact JCN hX h1 hC
 case call c=>
  obtain ⟨callee,args,ats⟩:=c;unfold J2c;simp only at h ⊢
  cases callee with
  |builtin b=>
    cases b<;>simp only at h ⊢<;>try (cases h;done)
    ·split at h
     ·rename_i d h1 h2;obtain ⟨hc,h⟩:=J0B h;simp only[h1,h2];exact ⟨Nat.eq_of_beq_eq_true hc,JCO h hC⟩
     ·cases h
    ·split at h
     ·rename_i h1 h2;simp only[h1,h2];exact JGJ h hC
     ·cases h
    ·split at h
     ·rename_i h1 h2;obtain ⟨v',h3,h⟩:=J02 h;cases h;simp only[h1,h2];exact JIS h3 hC
     ·cases h
    ·obtain ⟨v',h3,h⟩:=J02 h;cases h;exact JHt (C:=fun v=>C v none) h3 hC
    ·obtain ⟨v',h3,h⟩:=J02 h;cases h;exact JHt (C:=fun v=>C v none) h3 hC
  |value f=>cases h
  |invoke r m=>cases h
end Go.Fw
