/- Part 39 of a proof. -/
import Derived.Test.YtlblbldolhiokaaGreatDoorRs38
set_option linter.all false
set_option maxRecDepth 99999
set_option maxHeartbeats 0
namespace Go.Fw
open Go.RowKit
section
variable {P:Program} {T:Nat→Option TD} {H:Hp}
def JMd (T:Nat→Option TD)(t d γ:Nat)(l c:AV):Option (AV×Up):=
 match l,c with
 |.val (.int _ l),.val (.int _ c)=>(natI l).bind fun l=>(natI c).bind fun c=>(J6H T t).bind fun q=>
  ifB (Nat.ble l c&&Nat.ble (q.2.bytes*c) 281474976710656&&Nat.ble c 9223372036854775807) (some (.own d γ 0 l,some (d,γ,⟨q.1,q.2.size,List.replicate l (mkEl q.2)⟩)))
 |_,_=>none
def JK8 {t d γ:Nat}{l c v:AV}{up:Up}(h:JMd T t d γ l c=some (v,up)){C:AV→Up→Prop}(hC:C v up):evMake T t d γ l c C:=by
 unfold JMd at h;unfold evMake;split at h
 ·obtain ⟨l',h1,h⟩:=J01 h;obtain ⟨c',h2,h⟩:=J01 h;obtain ⟨⟨e,ed⟩,h3,h⟩:=J01 h;obtain ⟨hc,h⟩:=J0K h;cases h;simp only[Q5] at hc;rw[J1K h1,J1K h2];have a1:=QJ hc.1.1;have a2:ed.bytes*c'≤281474976710656:=QJ hc.1.2;have a3:=QJ hc.2;exact (J1Q h3).1 _ ⟨by omega,by omega,by rw[← Q0S];omega,by omega,by simpa using hC⟩
 cases h
def J6k (T:Nat→Option TD)(t d γ len:Nat)(l:List (Nat×AV)):Option (AV×Up):=
 (J6H T t).bind fun q=>ifB (J79 q.2.size 0 l&&Nat.beq l.length len&&Nat.ble (len*q.2.size) 16777216) (some (.own d γ 0 len,some (d,γ,⟨q.1,q.2.size,l.map Prod.snd⟩)))
def J8T {t d γ len:Nat}{l:List (Nat×AV)}{v:AV}{up:Up}(h:J6k T t d γ len l=some (v,up)){C:AV→Up→Prop}(hC:C v up):evBuildSlice T t d γ len l C:=by
 obtain ⟨⟨e,ed⟩,h3,h⟩:=J01 h;obtain ⟨hc,h⟩:=J0K h;cases h;simp only[Q5] at hc;obtain ⟨k1,k2⟩:=J5n _ _ _ hc.1.1;exact (J1Q h3).1 _ ⟨k1,Q7 hc.1.2,k2,QJ hc.2,hC⟩
def JGb (T:Nat→Option TD)(H:Hp)(t:Nat)(p x:AV):Option Up:=
 match p with
 |.op b g i k=>(T t).bind fun d=>(H b).bind fun B=>
  ifB (J2w x&&Nat.beq x.cells.length d.size&&J2P x.cells&&Nat.beq B.1 g&&Nat.blt i B.2.xs.length&&Nat.ble (k+d.size) B.2.n) (some (some (b,g,{ B.2 with xs:=B.2.xs.set i (J6z (B.2.xs.getD i .dead) k x) })))
 |_=>none
def JGa {t:Nat}{p x:AV}{up:Up}(h:JGb T H t p x=some up){C:Up→Prop}(hC:C up):evStore T H t p x C:=by
 unfold JGb at h;unfold evStore;split at h
 ·obtain ⟨d,hd,h⟩:=J01 h;obtain ⟨⟨g',B⟩,hB,h⟩:=J01 h;obtain ⟨hc,h⟩:=J0K h;cases h;simp only[Q5] at hc;have e:g'=_:=Q7 hc.1.1.2;subst e;exact ⟨d,hd,hc.1.1.1.1.1,Q7 hc.1.1.1.1.2,B,hB,QJ hc.1.2,QJ hc.2,J3H _ hc.1.1.1.2,hC⟩
 cases h
def xSrc (H:Hp)(n:Nat)(y:AV):Option (List AV):=
 match y with
 |.sl m ys=>ifB (Nat.beq m n) (some ys)
 |.own b g off len=>(H b).bind fun B=>ifB (Nat.beq B.1 g&&Nat.beq B.2.n n&&Nat.ble (off+len) B.2.xs.length) (some ((B.2.xs.drop off).take len))
 |.val (.slice none 0 0)=>some []
 |_=>none
def JGc {n:Nat}{y:AV}{ys:List AV}(h:xSrc H n y=some ys){C:List AV→Prop}(hC:C ys):srcOf H n y C:=by
 unfold xSrc at h;unfold srcOf;split at h
 ·obtain ⟨hc,h⟩:=J0K h;cases h;exact ⟨Q7 hc,hC⟩
 ·obtain ⟨⟨g',B⟩,hB,h⟩:=J01 h;obtain ⟨hc,h⟩:=J0K h;cases h;simp only[Q5] at hc;have e:g'=_:=Q7 hc.1.1;subst e;exact ⟨B,hB,Q7 hc.1.2,QJ hc.2,hC⟩
 ·cases h;exact hC
 cases h
def J9g (X:XE)(t:Nat)(x:AV)(lo hi mx:Option AV):Option AV:=
 match x,lo,hi,mx with
 |.sl n xs,none,some (.val (.int _ i)),some (.val (.int _ j))=>(natI i).bind fun i=>(natI j).bind fun j=>(J6H X.E.T t).bind fun q=>ifB (Nat.beq n q.2.size&&Nat.beq i j&&Nat.ble i xs.length) (some (.fu n (xs.take i)))
 |.ep (.agg cs) 0,none,none,none=>ifB (X.arrs t cs.length) (some (.sl 1 cs))
 |_,_,_,_=>none
def JFG {X:XE}(hX:XOk X){t:Nat}{x v:AV}{lo hi mx:Option AV}(h:J9g X t x lo hi mx=some v){C:AV→Prop}(hC:C v):evSliceF X.E.P X.E.T t x lo hi mx C:=by
 unfold J9g at h;unfold evSliceF;split at h
 ·obtain ⟨i,hi,h⟩:=J01 h;obtain ⟨j,hj,h⟩:=J01 h;obtain ⟨⟨e,ed⟩,h1,h⟩:=J01 h;obtain ⟨hc,h⟩:=J0K h;cases h;simp only[Q5] at hc;rw[J1K hi,J1K hj];exact (J1Q h1).2 _ ⟨Q7 hc.1.1,by rw[Q7 hc.1.2],Q1I _,by have:=QJ hc.2;omega,by simpa using hC⟩
 ·obtain ⟨hc,h⟩:=J0K h;cases h;exact ⟨hX.arrs _ _ hc,hC⟩
 cases h
def JCn (X:XE)(H:Hp)(t:Nat)(x:AV)(lo hi mx:Option AV):Option AV:=
 match JGe X.E.T H t x lo hi mx with
 |some v=>some v
 |none=>J9g X t x lo hi mx
def JFH {X:XE}(hX:XOk X){H:Hp}{t:Nat}{x v:AV}{lo hi mx:Option AV}(h:JCn X H t x lo hi mx=some v){C:AV→Prop}(hC:C v):evSliceA X.E.P X.E.T H t x lo hi mx C:=by
 unfold JCn at h;split at h
 ·rename_i v' h1;cases h;exact JGd h1 hC
 have h2:=JFG hX h hC;unfold evSliceA
 cases x<;>first|exact .inr h2|(unfold J9g at h;cases h)
def xMM (b:Bool)(l:List AV):Option AV:=
 match l with
 |.val (.int k x)::r=>(mmF b x r).bind fun z=>some (.val (.int k z))
 |_=>none
def JM6 {b:Bool}{l:List AV}{v:AV}(h:xMM b l=some v){C:AV→Prop}(hC:C v):evMM b l C:=by
 unfold xMM at h;unfold evMM;split at h
 ·obtain ⟨z,h1,h⟩:=J01 h;cases h;exact ⟨z,h1,hC⟩
 cases h
def JOw:AV→Bool
 |.val _=>true
 |_=>false
def VL.of {ys:List AV}(h:ys.all JOw=true):VL ys:=⟨fun y hy=>by
 have:=QL.1 h y hy
 cases y<;>first|exact ⟨_,rfl⟩|cases this⟩
def JCu (T:Nat→Option TD)(H:Hp)(t d γ:Nat)(x y:AV):Option (AV×Up):=
 (J6H T t).bind fun q=>(xSrc H q.2.size y).bind fun ys=>
   match x with
   | .own b g 0 len=>(H b).bind fun B=>ifB (Nat.beq B.1 g&&Nat.beq B.2.n q.2.size&&Nat.beq B.2.e q.1&&Nat.ble len B.2.xs.length&&Nat.ble ((len+ys.length)*q.2.bytes) 140737488355328&&Nat.ble (len+ys.length) 9223372036854775807)
    (some (.own b γ 0 (len+ys.length),some (b,γ,⟨q.1,q.2.size,B.2.xs.take len++ys⟩)))
   |.fu n xs=>ifB (Nat.beq n q.2.size&&ys.all JOw&&Nat.ble ((xs.length+ys.length)*q.2.bytes) 140737488355328&&Nat.ble (xs.length+ys.length) 9223372036854775807) (some (.sl q.2.size (xs++ys),none))
   |.val (.slice none 0 0)=>ifB (Nat.ble (ys.length*q.2.bytes) 140737488355328&&Nat.ble ys.length 9223372036854775807) (some (.own d γ 0 ys.length,some (d,γ,⟨q.1,q.2.size,ys⟩)))
   |_=>none
def JFL {t d γ:Nat}{x y v:AV}{up:Up}(h:JCu T H t d γ x y=some (v,up)){C:AV→Up→Prop}(hC:C v up):evAppend T H t d γ x y C:=by
 unfold JCu at h;obtain ⟨⟨e,ed⟩,h1,h⟩:=J01 h;obtain ⟨ys,h2,h⟩:=J01 h;refine (J1Q h1).1 _ (JGc h2 ?_);split at h
 ·obtain ⟨⟨g',B⟩,hB,h⟩:=J01 h;obtain ⟨hc,h⟩:=J0K h;cases h;simp only[Q5] at hc;have e:g'=_:=Q7 hc.1.1.1.1.1;subst e;exact ⟨B,hB,Q7 hc.1.1.1.1.2,Q7 hc.1.1.1.2,QJ hc.1.1.2,QJ hc.2,QJ hc.1.2,hC⟩
 ·obtain ⟨hc,h⟩:=J0K h;cases h;simp only[Q5] at hc;exact ⟨Q7 hc.1.1.1,VL.of hc.1.1.2,QJ hc.2,QJ hc.1.2,hC⟩
 ·obtain ⟨hc,h⟩:=J0K h;cases h;simp only[Q5] at hc;exact ⟨QJ hc.2,QJ hc.1,hC⟩
 cases h
def JMf (T:Nat→Option TD)(H:Hp)(t:Nat)(x y:AV):Option (AV×Up):=
 match x with
 |.own b g off len=>(J6H T t).bind fun q=>(H b).bind fun B=>(xSrc H 1 y).bind fun ys=>
  ifB (Nat.beq q.2.size 1&&Nat.beq B.1 g&&Nat.beq B.2.n 1&&Nat.ble (off+len) B.2.xs.length)
   (match Nat.blt 0 (min ys.length len) with
   |true=>some (.val (.int .i64 (min ys.length len:Nat)),some (b,g,spl B.2 off (ys.take len)))
   |false=>some (.val (.int .i64 0),none))
 |_=>none
def JKC {t:Nat}{x y v:AV}{up:Up}(h:JMf T H t x y=some (v,up)){C:AV→Up→Prop}(hC:C v up):evCopy T H t x y C:=by
 unfold JMf at h;unfold evCopy;split at h
 ·obtain ⟨⟨e,ed⟩,h1,h⟩:=J01 h;obtain ⟨⟨g',B⟩,hB,h⟩:=J01 h;obtain ⟨ys,h2,h⟩:=J01 h;obtain ⟨hc,h⟩:=J0K h;simp only[Q5] at hc;have e:g'=_:=Q7 hc.1.1.2;subst e;refine (J1Q h1).1 _ ⟨Q7 hc.1.1.1,B,hB,Q7 hc.1.2,QJ hc.2,JGc h2 ?_⟩;split at h
  ·rename_i hb;cases h;exact ⟨fun _=>hC,fun hn=>absurd (QJ hb) hn⟩
  rename_i hb;cases h;refine ⟨fun hp=>?_,fun _=>hC⟩;have:Nat.blt 0 (min ys.length _)=true:=Q3O hp;rw[hb] at this;cases this
 cases h
def JMc (X:XE)(t:Nat):Option (Nat×TD):=
 (X.E.T t).bind fun d=>match d.kind with
 |.map kt et=>(X.E.T et).bind fun ed=>ifB (X.keys kt) (some (kt,ed))
 |_=>none
def JDq {X:XE}(hX:XOk X){t kt:Nat}{ed:TD}(h:JMc X t=some (kt,ed)){C:Nat→TD→Prop}(hC:C kt ed):mapT X.E.P X.E.T t C:=by
 obtain ⟨d,hd,h⟩:=J01 h;split at h
 ·rename_i kt' et hk;obtain ⟨ed',hed,h⟩:=J01 h;obtain ⟨hc,h⟩:=J0K h;cases h;exact ⟨d,hd,_,et,hk,_,hed,aggZ (hX.hT _ _ hed),hX.keys _ hc,hC⟩
 cases h
def JGi (H:Hp)(x:AV):Option (List AV×List AV):=
 match x with
 |.mp ks vs=>some (ks,vs)
 |.om b g=>(H b).bind fun B=>ifB (Nat.beq B.1 g) (match B.2.xs with
   |[.mp ks vs]=>some (ks,vs)
   |_=>none)
 |.val (.map none)=>some ([],[])
 |_=>none
def JGh {x:AV}{ks vs:List AV}(h:JGi H x=some (ks,vs)){C:List AV→List AV→Prop}(hC:C ks vs):JA9 H x C:=by
 unfold JGi at h;unfold JA9;split at h
 ·cases h;exact hC
 ·obtain ⟨⟨g',B⟩,hB,h⟩:=J01 h;obtain ⟨hc,h9⟩:=J0K h;clear h;have e:g'=_:=Q7 hc;subst e;split at h9
  ·rename_i hx;cases h9;exact ⟨B,_,_,hB,hx,hC⟩
  cases h9
 ·cases h;exact hC
 cases h
def JGj (X:XE)(H:Hp)(t:Nat)(x k:AV)(ok:Bool):Option AV:=
 (JMc X t).bind fun q=>(J13 X.E.T q.1 k k).bind fun _=>(JGi H x).bind fun m=>(J1E (J13 X.E.T q.1 k) m.1).bind fun r=>some (JFx ok r m.2 q.2)
def JFK {X:XE}(hX:XOk X){t:Nat}{x k v:AV}{ok:Bool}(h:JGj X H t x k ok=some v){C:AV→Prop}(hC:C v):evLookup X.E.P X.E.T H t x k ok C:=by
 obtain ⟨⟨kt,ed⟩,h1,h⟩:=J01 h;obtain ⟨b,hb,h⟩:=J01 h;obtain ⟨⟨ks,vs⟩,h2,h⟩:=J01 h;obtain ⟨r,h3,h⟩:=J01 h;cases h;exact JDq hX h1 ⟨⟨b,hb⟩,JGh h2 ⟨r,h3,hC⟩⟩
def J3S (X:XE)(H:Hp)(t:Nat)(m k v:AV):Option Up:=
 match m with
 |.om b g=>(JMc X t).bind fun q=>(J13 X.E.T q.1 k k).bind fun _=>(H b).bind fun B=>ifB (Nat.beq B.1 g) (match B.2.xs with
   |[.mp ks vs]=>(J1E (J13 X.E.T q.1 k) ks).bind fun r=>some (some (b,g,{ B.2 with xs:=[putM r (snap [] H k) (snap [] H v) ks vs] }))
   |_=>none)
 |_=>none
def J4M {X:XE}(hX:XOk X){t:Nat}{m k v:AV}{up:Up}(h:J3S X H t m k v=some up){C:Up→Prop}(hC:C up):J15 X.E.P X.E.T H t m k v C:=by
 unfold J3S at h;unfold J15;split at h
 ·obtain ⟨⟨kt,ed⟩,h1,h⟩:=J01 h;replace h:=J01 h;obtain ⟨b,hb,h⟩:=h;replace h:=J01 h;obtain ⟨⟨g',B⟩,hB,h⟩:=h;replace h:=J0K h;obtain ⟨hc,h⟩:=h;have e:g'=_:=Q7 hc;subst e;split at h
  ·rename_i hx;replace h:=J01 h;obtain ⟨r,h3,h⟩:=h;cases h;exact JDq hX h1 ⟨⟨b,hb⟩,B,_,_,hB,hx,r,h3,hC⟩
  cases h
 cases h
def JM5 (T:Nat→Option TD)(t d γ:Nat)(x:AV):Option (AV×Up):=
 (T t).bind fun td=>match td.kind,x with
 |.str,.val (.string s)=>some (.it d γ,some (d,γ,⟨0,0,[.val (.string s),.val (.int .i64 0)]⟩))
 |.map _ _,.mp ks vs=>some (.it d γ,some (d,γ,⟨0,0,[.mp ks vs,.tup ((List.range ks.length).map encN),.dead]⟩))
 |_,_=>none
def JGg {t d γ:Nat}{x v:AV}{up:Up}(h:JM5 T t d γ x=some (v,up)){C:AV→Up→Prop}(hC:C v up):J7g T t d γ x C:=by
 replace h:=J01 h;obtain ⟨td,hd,h⟩:=h;refine ⟨td,hd,?_⟩;split at h
 ·rename_i hk;cases h;exact ⟨hk,hC⟩
 ·rename_i hk;cases h;exact ⟨⟨_,_,hk⟩,hC⟩
 cases h
def JMb (H:Hp)(it:AV)(isS:Bool):Option (AV×Up):=
 match it with
 |.it b g=>(H b).bind fun B=>ifB (Nat.beq B.1 g) (match B.2.xs,isS with
   |[.val (.string s),.val (.int .i64 p)],true=>match decide (p<s.size) with
     |true=>some (.tup [.val (.bool true),.val (.int .i64 p),.val (.int .i32 ((Utf8.decode s p.toNat).1:Nat))],some (b,g,{ B.2 with xs:=[.val (.string s),.val (.int .i64 (p+(Utf8.decode s p.toNat).2))] }))
     |false=>some (.tup [.val (.bool false)],none)
   |_,_=>none)
 |_=>none
def JK7 {it v:AV}{isS:Bool}{up:Up}(h:JMb H it isS=some (v,up)){C:AV→Up→Prop}(hC:C v up):J7h H it isS C:=by
 unfold JMb at h;unfold J7h;split at h
 ·obtain ⟨⟨g',B⟩,hB,h⟩:=J01 h;obtain ⟨hc,h⟩:=J0K h;have e:g'=_:=Q7 hc;subst e;refine ⟨B,hB,?_⟩;simp only at h;obtain ⟨Be,Bn,xs⟩:=B;simp only at h ⊢;split at h
  ·split at h
   ·rename_i hp;cases h;unfold runeAt;exact ⟨rfl,fun _=>hC,fun hn=>absurd (Qh hp) hn⟩
   rename_i hp;cases h;exact ⟨rfl,fun hn=>absurd hn (Q0d hp),fun _=>hC⟩
  cases h
 cases h
end
def xG (X:XE)(base γ:Nat)(ρ:Operand→AV)(H:Hp)(o:Oper):Option (AV×Up):=
 match o.op with
 |.move x=>some (ρ x,none)
 |.assign x=>some (ρ x,none)
 |.pick c a b=>match ρ c with
   |.val (.bool t)=>some (if t then ρ a else ρ b,none)
   |_=>none
 |.load t x=>(JKB X.E.T H t (ρ x)).bind fun v=>some (v,none)
 |.fieldAddr s x f=>(J5V X.E.T s (ρ x) f).bind fun v=>some (v,none)
 |.field s x f=>(JGp X.E.T s (ρ x) f).bind fun v=>some (v,none)
 |.indexAddr t x i=>(J5T X.E.T H t (ρ x) (ρ i)).bind fun v=>some (v,none)
 |.index t x i=>(JGl X.E.T t (ρ x) (ρ i)).bind fun v=>some (v,none)
 |.extract x i=>(J9j (ρ x) i).bind fun v=>some (v,none)
 |.slice t x lo hi mx=>(JCn X H t (ρ x) (lo.map ρ) (hi.map ρ) (mx.map ρ)).bind fun v=>some (v,none)
 |.binOp op t x y _=>(xBin X op t (ρ x) (ρ y)).bind fun v=>some (v,none)
 |.unOp op _ x=>(xUn op (ρ x)).bind fun v=>some (v,none)
 |.convert s d x=>(JOW X.E.T s d (ρ x)).bind fun v=>some (v,none)
 |.makeFunc f first cap=>some (.fn f (first.toList.map ρ) (cap.toList.map ρ),none)
 |.nilCheck x=>match ρ x with
   |.ep y k=>some (.ep y k,none)
   |.op b g i k=>some (.op b g i k,none)
   |.fn (.func f) a c=>some (.fn (.func f) a c,none)
   |_=>none
 |.build t parts=>(JM8 X.E.T t (parts.toList.map fun p=>(p.1,ρ p.2))).bind fun v=>some (v,none)
 |.box t x=>o.dst.bind fun d=>ifB (J2w (ρ x)) (some (.op (base+d) γ 0 0,some (base+d,γ,⟨t,(ρ x).cells.length,[ρ x]⟩)))
 |.alloc t=>o.dst.bind fun d=>(X.E.T t).bind fun td=>some (.op (base+d) γ 0 0,some (base+d,γ,⟨t,td.size,[mkEl td]⟩))
 |.makeSlice t l c=>o.dst.bind fun d=>JMd X.E.T t (base+d) γ (ρ l) (ρ c)
 |.buildSlice t len parts=>o.dst.bind fun d=>J6k X.E.T t (base+d) γ len (parts.toList.map fun p=>(p.1,ρ p.2))
 |.store t a x=>(JGb X.E.T H t (ρ a) (ρ x)).bind fun up=>some (.tup [],up)
 |.lookup t x k ok=>(JGj X H t (ρ x) (ρ k) ok).bind fun v=>some (v,none)
 |.call c=>match c.callee with
   |.builtin .len=>match c.args.toList,c.argTypes.toList with
     |[x],[t]=>(xLen X.E.T t (ρ x)).bind fun v=>some (v,none)
     |_,_=>none
   |.builtin .max=>(xMM true (c.args.toList.map ρ)).bind fun v=>some (v,none)
   |.builtin .min=>(xMM false (c.args.toList.map ρ)).bind fun v=>some (v,none)
   |.builtin .append=>match c.args.toList,c.argTypes.toList,o.dst with
     |[x,y],[t,t'],some d=>ifB (Nat.beq t t') (JCu X.E.T H t (base+d) γ (ρ x) (ρ y))
     |_,_,_=>none
   |.builtin .copy=>match c.args.toList,c.argTypes.toList with
     |[x,y],[t,t']=>JMf X.E.T H t (ρ x) (ρ y)
     |_,_=>none
   |_=>none
 |_=>none
def JOV {X:XE}(hX:XOk X){base γ:Nat}{ρ:Operand→AV}{H:Hp}{o:Oper}{v:AV}{up:Up}(h:xG X base γ ρ H o=some (v,up)){C:AV→Up→Prop}(hC:C v up):evG { X.E with base:=base } γ ρ H o C:=by
 obtain ⟨dst,op,ty,pos,after,guard⟩:=o;unfold xG at h;unfold evG;cases op<;>simp only at h ⊢<;>try (cases h;done)
 case move=>cases h;exact hC
 case assign=>cases h;exact hC
 case pick c a b=>
  split at h
  ·rename_i t ht;rw[ht];cases h;exact hC
  cases h
 case load=>obtain ⟨v',h1,h⟩:=J01 h;cases h;exact JDr hX.hT h1 hC
 case fieldAddr=>obtain ⟨v',h1,h⟩:=J01 h;cases h;exact J9i h1 hC
 case field=>obtain ⟨v',h1,h⟩:=J01 h;cases h;exact JGo hX.hT h1 hC
 case indexAddr=>obtain ⟨v',h1,h⟩:=J01 h;cases h;exact J9h h1 hC
 case index=>obtain ⟨v',h1,h⟩:=J01 h;cases h;exact JGk hX.hT h1 hC
 case extract=>obtain ⟨v',h1,h⟩:=J01 h;cases h;exact JCr h1 hC
 case slice=>obtain ⟨v',h1,h⟩:=J01 h;cases h;exact JFH hX h1 hC
 case binOp=>obtain ⟨v',h1,h⟩:=J01 h;cases h;exact ⟨_,hC,JMg hX h1 rfl⟩
 case unOp=>obtain ⟨v',h1,h⟩:=J01 h;cases h;exact JOT h1 hC
 case convert=>obtain ⟨v',h1,h⟩:=J01 h;cases h;exact JKD h1 hC
 case makeFunc=>cases h;exact hC
 case nilCheck x=>
  split at h
  ·rename_i hq;rw[hq];cases h;exact hC
  ·rename_i hq;rw[hq];cases h;exact hC
  ·rename_i hq;rw[hq];cases h;exact hC
  cases h
 case build=>obtain ⟨v',h1,h⟩:=J01 h;cases h;exact JGs h1 hC
 case box t x=>
  obtain ⟨d,hd,h⟩:=J01 h;obtain ⟨hc,h⟩:=J0K h;cases h;subst hd;exact ⟨hc,hC⟩
 case alloc t=>
  obtain ⟨d,hd,h⟩:=J01 h;obtain ⟨td,ht,h⟩:=J01 h;cases h;subst hd;exact ⟨td,ht,hC⟩
 case makeSlice=>
  obtain ⟨d,hd,h⟩:=J01 h;subst hd;exact JK8 h hC
 case buildSlice=>
  obtain ⟨d,hd,h⟩:=J01 h;subst hd;exact J8T h hC
 case store=>obtain ⟨v',h1,h⟩:=J01 h;cases h;exact JGa h1 hC
 case lookup=>obtain ⟨v',h1,h⟩:=J01 h;cases h;exact JFK hX h1 hC
 case call c=>
  obtain ⟨callee,args,ats⟩:=c;unfold J3I;simp only at h ⊢
  cases callee with
  |builtin b=>
    cases b<;>simp only at h ⊢<;>try (cases h;done)
    ·split at h
     ·rename_i d h1 h2;obtain ⟨hc,h⟩:=J0K h;simp only[h1,h2];exact ⟨Q7 hc,JFL h hC⟩
     cases h
    ·split at h
     ·rename_i h1 h2;simp only[h1,h2];exact JKC h hC
     cases h
    ·split at h
     ·rename_i h1 h2;obtain ⟨v',h3,h⟩:=J01 h;cases h;simp only[h1,h2];exact JMe h3 hC
     cases h
    ·obtain ⟨v',h3,h⟩:=J01 h;cases h;exact JM6 (C:=fun v=>C v none) h3 hC
    obtain ⟨v',h3,h⟩:=J01 h;cases h;exact JM6 (C:=fun v=>C v none) h3 hC
  |value f=>cases h
  |invoke r m=>cases h
end Go.Fw
