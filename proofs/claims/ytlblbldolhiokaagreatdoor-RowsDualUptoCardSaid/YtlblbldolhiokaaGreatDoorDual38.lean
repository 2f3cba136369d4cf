/- Part 38 of the proof. -/
import Derived.Test.YtlblbldolhiokaaGreatDoorDual35
set_option linter.unusedVariables false
set_option linter.unusedSimpArgs false
set_option linter.unusedSectionVars false
set_option maxRecDepth 100000
set_option exponentiation.threshold 400
set_option maxHeartbeats 8000000
namespace Go.Fw
open Go.RowKit
def ifB {α:Type}(b:Bool)(x:Option α):Option α:=
 match b with
 |true=>x
 |false=>none
theorem J0B {α:Type}{b:Bool}{x:Option α}{v:α}(h:ifB b x=some v):b=true∧x=some v:=by
 cases b
 ·cases h
 ·exact ⟨rfl,h⟩
theorem J02 {α β:Type}{x:Option α}{f:α→Option β}{v:β}(h:x.bind f=some v):∃ a,x=some a∧f a=some v:=Option.bind_eq_some_iff.1 h
structure XE where
 E:En
 eqs:Nat→Bool
 keys:Nat→Bool
 arrs:Nat→Nat→Bool
 ext:Nat→List AV→Option Value
 news:Nat→List AV→Option (Nat×Nat×Nat×Nat×Nat×List AV):=fun _ _=>none
 froz:Bool:=false
structure XOk (X:XE):Prop where
 hT:TOk X.E.P X.E.T
 eqs:∀ t,X.eqs t=true→EqSt X.E.P t
 keys:∀ t,X.keys t=true→KeySt X.E.P t
 arrs:∀ t n,X.arrs t n=true→ArrP X.E.P t n
 ext:∀ n args v,X.ext n args=some v→J2k X.E.P n args v
 mixed:X.E.P.follows .mixedOrders=true
 news:∀ n args b off len e k xs,X.news n args=some (b,off,len,e,k,xs)→J03 X.E.P n∧J4d xs∧HCall X.E.P n args (hp []) (J9w b off len e k xs)
section
variable {P:Program} {T:Nat→Option TD} {H:Hp}
def xCut (d:TD)(y:AV)(k:Nat):Option AV:=
 match d.kind.agg with
 |false=>y.cells[k]?
 |true=>ifB (Nat.ble (k+d.size) y.cells.length) (some (.agg ((y.cells.drop k).take d.size)))
theorem J7O {d:TD}(h1:d.kind.agg=false→d.size=1){y:AV}{k:Nat}{v:AV}(h:xCut d y k=some v):fits d y k∧cut d y k=v:=by
 unfold xCut at h;unfold fits cut;split at h
 ·rename_i hk;have:=(List.getElem?_eq_some_iff.1 h).1;refine ⟨by rw[h1 hk];omega,?_⟩;rw[hk,if_neg (by simp),List.getD_eq_getElem?_getD,h];rfl
 ·rename_i hk;obtain ⟨q1,q2⟩:=J0B h;cases q2;exact ⟨Nat.le_of_ble_eq_true q1,by rw[hk,if_pos rfl]⟩
def JGI (T:Nat→Option TD)(H:Hp)(t:Nat)(p:AV):Option AV:=
 match p with
 |.ep y k=>(T t).bind fun d=>xCut d y k
 |.op b g i k=>(T t).bind fun d=>(H b).bind fun q=>ifB (Nat.beq q.1 g&&Nat.blt i q.2.xs.length) (xCut d (q.2.xs.getD i .dead) k)
 |_=>none
theorem JB9 (hT:TOk P T){t:Nat}{p v:AV}(h:JGI T H t p=some v){C:AV→Prop}(hC:C v):evLoad T H t p C:=by
 unfold JGI at h;unfold evLoad;split at h
 ·obtain ⟨d,hd,h⟩:=J02 h;obtain ⟨q1,q2⟩:=J7O (J0W (hT _ _ hd)).one h;exact ⟨d,hd,q1,q2 ▸ hC⟩
 ·obtain ⟨d,hd,h⟩:=J02 h;obtain ⟨⟨g',B⟩,hB,h⟩:=J02 h;obtain ⟨hc,h⟩:=J0B h;simp only[Bool.and_eq_true] at hc;obtain ⟨q1,q2⟩:=J7O (J0W (hT _ _ hd)).one h;have e:g'=_:=Nat.eq_of_beq_eq_true hc.1;subst e;exact ⟨d,hd,B,hB,Nat.le_of_ble_eq_true hc.2,q1,q2 ▸ hC⟩
 ·cases h
def xFld (T:Nat→Option TD)(s f:Nat):Option (Nat×TD):=
 (T s).bind fun d=>match d.kind with
 |.struct fs=>(fs[f]?).bind fun p=>(T p.2).bind fun fd=>some (p.1,fd)
 |_=>none
theorem JA2 {s f o:Nat}{fd:TD}(h:xFld T s f=some (o,fd)):(∃ t,T t=some fd)∧∀ C:Nat→TD→Prop,C o fd→fieldOf T s f C:=by
 obtain ⟨d,hd,h⟩:=J02 h;split at h
 ·rename_i fs hk;obtain ⟨p,hp,h⟩:=J02 h;obtain ⟨fd',hfd,h⟩:=J02 h;cases h;exact ⟨⟨_,hfd⟩,fun C hC=>⟨d,hd,fs,hk,p,hp,_,hfd,hC⟩⟩
 ·cases h
def J3z (T:Nat→Option TD)(s:Nat)(p:AV)(f:Nat):Option AV:=
 match p with
 |.ep y k=>(xFld T s f).bind fun q=>some (.ep y (k+q.1))
 |.op b g i k=>(xFld T s f).bind fun q=>some (.op b g i (k+q.1))
 |_=>none
theorem J7M {s f:Nat}{p v:AV}(h:J3z T s p f=some v){C:AV→Prop}(hC:C v):evFieldAddr T s p f C:=by
 unfold J3z at h;unfold evFieldAddr;split at h
 ·obtain ⟨⟨o,fd⟩,h1,h⟩:=J02 h;cases h;exact (JA2 h1).2 _ hC
 ·obtain ⟨⟨o,fd⟩,h1,h⟩:=J02 h;cases h;exact (JA2 h1).2 _ hC
 ·cases h
def JDf (T:Nat→Option TD)(s:Nat)(x:AV)(f:Nat):Option AV:=
 match x with
 |.agg cs=>(xFld T s f).bind fun q=>xCut q.2 (.agg cs) q.1
 |_=>none
theorem JDe (hT:TOk P T){s f:Nat}{p v:AV}(h:JDf T s p f=some v){C:AV→Prop}(hC:C v):evField T s p f C:=by
 unfold JDf at h;unfold evField;split at h
 ·obtain ⟨⟨o,fd⟩,h1,h⟩:=J02 h;obtain ⟨⟨t,ht⟩,k⟩:=JA2 h1;obtain ⟨q1,q2⟩:=J7O (J0W (hT _ _ ht)).one h;exact k _ ⟨q1,q2 ▸ hC⟩
 ·cases h
def J4a (T:Nat→Option TD)(t:Nat):Option (Nat×TD):=
 (T t).bind fun d=>match d.kind with
 |.slice e=>(T e).bind fun ed=>ifB (!Nat.beq e solo) (some (e,ed))
 |_=>none
theorem J16 {t e:Nat}{ed:TD}(h:J4a T t=some (e,ed)):(∀ C:Nat→TD→Prop,C e ed→elemT T t C)∧∀ C:TD→Prop,C ed→elemOfT T t C:=by
 obtain ⟨d,hd,h⟩:=J02 h;split at h
 ·rename_i e' hk;obtain ⟨ed',hed,h⟩:=J02 h;obtain ⟨hns,h⟩:=J0B h;cases h;exact ⟨fun C hC=>⟨d,hd,_,hk,_,hed,fun e=>by subst e;simp at hns,hC⟩,fun C hC=>⟨d,hd,_,hk,_,hed,hC⟩⟩
 ·cases h
def xArr (T:Nat→Option TD)(t:Nat):Option (Nat×TD):=
 (T t).bind fun d=>match d.kind with
 |.array n e=>(T e).bind fun ed=>some (n,ed)
 |_=>none
theorem JA5 {t n:Nat}{ed:TD}(h:xArr T t=some (n,ed)):(∃ t,T t=some ed)∧∀ C:Nat→TD→Prop,C n ed→arrOfT T t C:=by
 obtain ⟨d,hd,h⟩:=J02 h;split at h
 ·rename_i n' e' hk;obtain ⟨ed',hed,h⟩:=J02 h;cases h;exact ⟨⟨_,hed⟩,fun C hC=>⟨d,hd,_,_,hk,_,hed,hC⟩⟩
 ·cases h
def natI (i:Int):Option Nat:=
 match i with
 |.ofNat n=>some n
 |.negSucc _=>none
theorem J0z {i:Int}{n:Nat}(h:natI i=some n):i=n:=by
 unfold natI at h;split at h
 ·cases h;rfl
 ·cases h
def J3x (T:Nat→Option TD)(H:Hp)(t:Nat)(x ix:AV):Option AV:=
 match x,ix with
 |.sl n xs,.val (.int _ i)=>(natI i).bind fun i=>(J4a T t).bind fun q=>ifB (Nat.beq n q.2.size&&Nat.blt i xs.length) (some (.ep (xs.getD i .dead) 0))
 |.own b g off len,.val (.int _ i)=>(natI i).bind fun i=>(J4a T t).bind fun q=>(H b).bind fun B=>ifB (Nat.beq B.1 g&&Nat.beq B.2.n q.2.size&&Nat.blt i len) (some (.op b g (off+i) 0))
 |.op b g j k,.val (.int _ i)=>(natI i).bind fun i=>(xArr T t).bind fun q=>ifB (Nat.blt i q.1) (some (.op b g j (k+i*q.2.size)))
 |.ep y k,.val (.int _ i)=>(natI i).bind fun i=>(xArr T t).bind fun q=>ifB (Nat.blt i q.1) (some (.ep y (k+i*q.2.size)))
 |_,_=>none
theorem JDG {i n:Nat}(h:Nat.blt i n=true):(i:Int)<n:=by have:=Nat.le_of_ble_eq_true h;omega
theorem J7L {t:Nat}{x ix v:AV}(h:J3x T H t x ix=some v){C:AV→Prop}(hC:C v):evIndexAddr T H t x ix C:=by
 unfold J3x at h;unfold evIndexAddr;split at h
 ·obtain ⟨i,hi,h⟩:=J02 h;obtain ⟨⟨e,ed⟩,h1,h⟩:=J02 h;obtain ⟨hc,h⟩:=J0B h;cases h;simp only[Bool.and_eq_true] at hc;rw[J0z hi];exact (J16 h1).2 _ ⟨Nat.eq_of_beq_eq_true hc.1,Int.natCast_nonneg _,JDG hc.2,by simpa using hC⟩
 ·obtain ⟨i,hi,h⟩:=J02 h;obtain ⟨⟨e,ed⟩,h1,h⟩:=J02 h;obtain ⟨⟨g',B⟩,hB,h⟩:=J02 h;obtain ⟨hc,h⟩:=J0B h;cases h;simp only[Bool.and_eq_true] at hc;have e:g'=_:=Nat.eq_of_beq_eq_true hc.1.1;subst e;rw[J0z hi];exact (J16 h1).2 _ ⟨B,hB,Nat.eq_of_beq_eq_true hc.1.2,Int.natCast_nonneg _,JDG hc.2,by simpa using hC⟩
 ·obtain ⟨i,hi,h⟩:=J02 h;obtain ⟨⟨n,ed⟩,h1,h⟩:=J02 h;obtain ⟨hc,h⟩:=J0B h;cases h;rw[J0z hi];exact (JA5 h1).2 _ ⟨Int.natCast_nonneg _,JDG hc,by simpa using hC⟩
 ·obtain ⟨i,hi,h⟩:=J02 h;obtain ⟨⟨n,ed⟩,h1,h⟩:=J02 h;obtain ⟨hc,h⟩:=J0B h;cases h;rw[J0z hi];exact (JA5 h1).2 _ ⟨Int.natCast_nonneg _,JDG hc,by simpa using hC⟩
 ·cases h
def JDb (T:Nat→Option TD)(t:Nat)(x ix:AV):Option AV:=
 match x,ix with
 |.val (.string s),.val (.int _ i)=>(natI i).bind fun i=>(T t).bind fun d=>match d.kind with
   |.str=>ifB (Nat.blt i s.size) (some (.val (.int .u8 (byteAt s i))))
   |_=>none
 |.agg cs,.val (.int _ i)=>(natI i).bind fun i=>(xArr T t).bind fun q=>ifB (Nat.blt i q.1) (xCut q.2 (.agg cs) (i*q.2.size))
 |_,_=>none
theorem JDa (hT:TOk P T){t:Nat}{x ix v:AV}(h:JDb T t x ix=some v){C:AV→Prop}(hC:C v):evIndex T t x ix C:=by
 unfold JDb at h;unfold evIndex;split at h
 ·obtain ⟨i,hi,h⟩:=J02 h;obtain ⟨d,hd,h⟩:=J02 h;split at h
  ·rename_i hk;obtain ⟨hc,h⟩:=J0B h;cases h;rw[J0z hi];exact ⟨⟨d,hd,hk⟩,Int.natCast_nonneg _,JDG hc,by simpa using hC⟩
  ·cases h
 ·obtain ⟨i,hi,h⟩:=J02 h;obtain ⟨⟨n,ed⟩,h1,h⟩:=J02 h;obtain ⟨hc,h⟩:=J0B h;obtain ⟨⟨t',ht⟩,k⟩:=JA5 h1;obtain ⟨q1,q2⟩:=J7O (J0W (hT _ _ ht)).one h;rw[J0z hi];exact k _ ⟨Int.natCast_nonneg _,JDG hc,by simpa using q1,by simpa [q2] using hC⟩
 ·cases h
def J7N (x:AV)(i:Nat):Option AV:=
 match x with
 |.tup vs=>vs[i]?
 |_=>none
theorem JA3 {x v:AV}{i:Nat}(h:J7N x i=some v){C:AV→Prop}(hC:C v):evExtract x i C:=by
 unfold J7N at h;unfold evExtract;split at h
 ·have:=(List.getElem?_eq_some_iff.1 h).1;exact ⟨this,by rw[List.getD_eq_getElem?_getD,h];exact hC⟩
 ·cases h
def JIW (op:BinOp)(k:IntKind)(a b:Int):Option Value:=
 match op with
 |.add=>some (.int k (k.wrap (a+b)))
 |.sub=>some (.int k (k.wrap (a-b)))
 |.mul=>some (.int k (k.wrap (a*b)))
 |.quo=>ifB (!(b==0)) (some (.int k (k.wrap (a.tdiv b))))
 |.rem=>ifB (!(b==0)) (some (.int k (a.tmod b)))
 |.and=>some (J4e .and k a b)
 |.or=>some (J4e .or k a b)
 |.xor=>some (J4e .xor k a b)
 |.andNot=>some (J4e .andNot k a b)
 |.eql=>some (.bool (a==b))
 |.neq=>some (.bool (a != b))
 |.lss=>some (.bool (a<b))
 |.leq=>some (.bool (a≤b))
 |.gtr=>some (.bool (a>b))
 |.geq=>some (.bool (a≥b))
 |_=>none
theorem JGM {op:BinOp}{k:IntKind}{a b:Int}{v:Value}(h:JIW op k a b=some v){C:Value→Prop}(hC:C v):binI op k a b C:=by
 unfold JIW at h;unfold binI
 split at h<;>first
  |(cases h;exact hC)
  |(obtain ⟨q1,q2⟩:=J0B h;cases q2;exact ⟨by simpa using q1,hC⟩)
  |(cases h;done)
def JIV (op:BinOp)(a b:ByteArray):Option Value:=
 match op with
 |.add=>ifB (Nat.ble (a.size+b.size) 9223372036854775807) (some (.string (a++b)))
 |.eql=>some (.bool (a.toList==b.toList))
 |.neq=>some (.bool (!(a.toList==b.toList)))
 |.lss=>some (.bool (Op.bytesLess a.toList b.toList))
 |.leq=>some (.bool (Op.bytesLess a.toList b.toList||a.toList==b.toList))
 |.gtr=>some (.bool (!(Op.bytesLess a.toList b.toList||a.toList==b.toList)))
 |.geq=>some (.bool (!(Op.bytesLess a.toList b.toList)))
 |_=>none
theorem JGL {op:BinOp}{a b:ByteArray}{v:Value}(h:JIV op a b=some v){C:Value→Prop}(hC:C v):binS op a b C:=by
 unfold JIV at h;unfold binS
 split at h<;>first
  |(cases h;exact hC)
  |(obtain ⟨q1,q2⟩:=J0B h;cases q2;exact ⟨Nat.le_of_ble_eq_true q1,hC⟩)
  |(cases h;done)
def xEq (X:XE)(t:Nat)(x y:AV):Option Bool:=
 (X.E.T t).bind fun d=>match d.kind,x,y with
 |.bool,.val (.bool a),.val (.bool b)=>some (a==b)
 |.struct fs,.agg cs,.agg ds=>ifB (X.eqs t) ((J0s X.E.T 0 fs).bind fun ks=>J0H ks cs ds)
 |.ptr,.val (.pointer none),.val (.pointer none)=>some true
 |.ptr,.val (.pointer none),.op _ _ _ _=>some false
 |.ptr,.val (.pointer none),.ep _ _=>some false
 |.ptr,.op _ _ _ _,.val (.pointer none)=>some false
 |.ptr,.ep _ _,.val (.pointer none)=>some false
 |.slice _,.val (.slice none _ _),.val (.slice none _ _)=>some true
 |.slice _,.sl _ (_::_),.val (.slice none _ _)=>some false
 |.slice _,.own _ _ _ (_+1),.val (.slice none _ _)=>some false
 |_,_,_=>none
theorem JHu {X:XE}(hX:XOk X){t:Nat}{x y:AV}{b:Bool}(h:xEq X t x y=some b){C:Bool→Prop}(hC:C b):evEq X.E.P X.E.T t x y C:=by
 replace h:=J02 h;obtain ⟨d,hd,h⟩:=h;refine ⟨d,hd,?_⟩;split at h
 ·rename_i hk;cases h;exact ⟨hk,hC⟩
 ·rename_i hk;replace h:=J0B h;obtain ⟨q1,h⟩:=h;replace h:=J02 h;obtain ⟨ks,hks,h⟩:=h;have hs:=hX.eqs _ q1;exact ⟨hs.guard,.inl ⟨_,hk,hs.stood,hs.blank,ks,hks,b,h,hC⟩⟩
 ·rename_i hk;cases h;exact ⟨hk,hC⟩
 ·rename_i hk;cases h;exact ⟨hk,hC⟩
 ·rename_i hk;cases h;exact ⟨hk,hC⟩
 ·rename_i hk;cases h;exact ⟨hk,hC⟩
 ·rename_i hk;cases h;exact ⟨hk,hC⟩
 ·rename_i hk;cases h;exact ⟨⟨_,hk⟩,hC⟩
 ·rename_i hk;cases h;exact ⟨⟨_,hk⟩,.inl (by simp),hC⟩
 ·rename_i hk;cases h;exact ⟨⟨_,hk⟩,.inl (by simp),hC⟩
 ·cases h
def xBin (X:XE)(op:BinOp)(t:Nat)(x y:AV):Option AV:=
 match x with
 |.val (.int k a)=>match y with
   |.val (.int k' b)=>match op with
     |.shl=>(natI b).bind fun b=>some (.val (.int k (k.wrap (a*2 ^ min b k.bits))))
     |.shr=>(natI b).bind fun b=>some (.val (.int k (a.fdiv (2 ^ min b k.bits))))
     |op=>ifB (decide (k=k')) ((JIW op k a b).bind fun v=>some (.val v))
   |_=>none
 |.val (.string a)=>match y with
   |.val (.string b)=>(JIV op a b).bind fun v=>some (.val v)
   |_=>none
 |x=>match op with
   |.eql=>(xEq X t x y).bind fun b=>some (.val (.bool b))
   |.neq=>(xEq X t x y).bind fun b=>some (.val (.bool (!b)))
   |_=>none
theorem JIU {X:XE}(hX:XOk X){op:BinOp}{t:Nat}{x y v:AV}(h:xBin X op t x y=some v){C:AV→Prop}(hC:C v):J3a X.E.P X.E.T op t x y C:=by
 unfold xBin at h;split at h
 ·split at h
  ·unfold J3a;simp only;split at h
   ·obtain ⟨b,hb,h⟩:=J02 h;have hb:=J0z hb;subst hb;cases h;rw[if_pos (.inl rfl)];exact ⟨by simp,by simpa using hC⟩
   ·obtain ⟨b,hb,h⟩:=J02 h;have hb:=J0z hb;subst hb;cases h;rw[if_pos (.inr rfl)];exact ⟨by simp,by simpa using hC⟩
   ·rename_i h1 h2;rw[if_neg (fun h=>h.elim h1 h2)];obtain ⟨hk,h⟩:=J0B h;obtain ⟨u,hu,h⟩:=J02 h;cases h;exact ⟨of_decide_eq_true hk,JGM (C:=fun v=>C (.val v)) hu hC⟩
  ·cases h
 ·split at h
  ·obtain ⟨u,hu,h⟩:=J02 h;cases h;exact JGL (C:=fun v=>C (.val v)) hu hC
  ·cases h
 ·rename_i h1 h2
  have key:(op=.eql∨op=.neq)∧evEq X.E.P X.E.T t x y fun b=>C (.val (.bool (if op=.eql then b else !b))):=by
   split at h
   ·obtain ⟨u,hu,h⟩:=J02 h;cases h;exact ⟨.inl rfl,JHu hX hu (by simpa using hC)⟩
   ·obtain ⟨u,hu,h⟩:=J02 h;cases h;exact ⟨.inr rfl,JHu hX hu (by simpa using hC)⟩
   ·cases h
  unfold J3a;split
  ·exact absurd rfl (h1 _ _)
  ·exact absurd rfl (h2 _)
  ·exact key
def xUn (op:UnOp)(x:AV):Option AV:=
 match op,x with
 |.neg,.val (.int k n)=>some (.val (.int k (k.wrap (0-n))))
 |.not,.val (.bool b)=>some (.val (.bool (!b)))
 |_,_=>none
theorem JJv {op:UnOp}{x v:AV}(h:xUn op x=some v){C:AV→Prop}(hC:C v):evUn op x C:=by
 unfold xUn at h;unfold evUn;split at h
 ·cases h;exact hC
 ·cases h;exact hC
 ·cases h
def JJy (T:Nat→Option TD)(s t:Nat)(x:AV):Option AV:=
 (T t).bind fun d=>(T s).bind fun e=>match e.kind,d.kind,x with
 |.int _,.int k,.val (.int _ n)=>some (.val (.int k (k.wrap n)))
 |.int _,.str,.val (.int _ n)=>some (.val (.string (Utf8.encode n)))
 |.str,.str,.val (.string s)=>some (.val (.string s))
 |_,_,_=>none
theorem JGK {s t:Nat}{x v:AV}(h:JJy T s t x=some v){C:AV→Prop}(hC:C v):evConv T s t x C:=by
 replace h:=J02 h;obtain ⟨d,hd,h⟩:=h;replace h:=J02 h;obtain ⟨e,he,h⟩:=h;refine ⟨d,e,hd,he,?_⟩;split at h
 ·rename_i h1 h2;cases h;exact ⟨_,h1,by rw[h2];exact hC⟩
 ·rename_i h1 h2;cases h;exact ⟨_,h1,by rw[h2];unfold runeS;exact hC⟩
 ·rename_i h1 h2;cases h;exact ⟨h2,h1,hC⟩
 ·cases h
def JHv (T:Nat→Option TD)(t:Nat)(parts:List (Nat×AV)):Option AV:=
 (T t).bind fun d=>match d.kind with
 |.struct fs=>(J3C T fs).bind fun ps=>(J4F (fun i=>ps[i]?) (d.zero.map .val) parts).bind fun cs=>some (.agg cs)
 |.array _ e=>(T e).bind fun ed=>(J4F (fun i=>some (i*ed.size,ed.size)) (d.zero.map .val) parts).bind fun cs=>some (.agg cs)
 |_=>none
theorem JDi {t:Nat}{parts:List (Nat×AV)}{v:AV}(h:JHv T t parts=some v){C:AV→Prop}(hC:C v):evBuild T t parts C:=by
 replace h:=J02 h;obtain ⟨d,hd,h⟩:=h;refine ⟨d,hd,?_⟩;split at h
 ·rename_i hk;simp only[hk];replace h:=J02 h;obtain ⟨ps,h1,h⟩:=h;replace h:=J02 h;obtain ⟨cs,h2,h⟩:=h;cases h;exact ⟨ps,h1,cs,h2,hC⟩
 ·rename_i hk;simp only[hk];replace h:=J02 h;obtain ⟨ps,h1,h⟩:=h;replace h:=J02 h;obtain ⟨cs,h2,h⟩:=h;cases h;exact ⟨ps,h1,cs,h2,hC⟩
 ·cases h
def JDj (len:Nat)(lo hi:Option AV):Option (Nat×Nat):=
 (match lo with|some (.val (.int _ i))=>natI i|some _=>none|none=>some 0).bind fun l=>
 (match hi with|some (.val (.int _ i))=>natI i|some _=>none|none=>some len).bind fun h=>
 ifB (Nat.ble l h&&Nat.ble h len) (some (l,h))
theorem J4g {len l h:Nat}{lo hi:Option AV}(q:JDj len lo hi=some (l,h)){C:Nat→Nat→Prop}(hC:C l h):bnds len lo hi C:=by
 obtain ⟨l',hl,q⟩:=J02 q;obtain ⟨h',hh,q⟩:=J02 q;obtain ⟨hc,q⟩:=J0B q;cases q;simp only[Bool.and_eq_true] at hc;have h1:=Nat.le_of_ble_eq_true hc.1;have h2:=Nat.le_of_ble_eq_true hc.2;unfold bnds;split at hl
 ·have a1:=J0z hl;subst a1;split at hh
  ·have a2:=J0z hh;subst a2;show 0≤(l:Int)∧(l:Int)≤(h:Int)∧(h:Int)≤len∧C (l:Int).toNat (h:Int).toNat
   exact ⟨by omega,by omega,by omega,by simpa using hC⟩
  ·cases hh
  ·cases hh;show 0≤(l:Int)∧(l:Int)≤(len:Int)∧(len:Int)≤len∧C (l:Int).toNat (len:Int).toNat
   exact ⟨by omega,by omega,by omega,by simpa using hC⟩
 ·cases hl
 ·cases hl;split at hh
  ·have a2:=J0z hh;subst a2;show 0≤(0:Int)∧(0:Int)≤(h:Int)∧(h:Int)≤len∧C (0:Int).toNat (h:Int).toNat
   exact ⟨by omega,by omega,by omega,by simpa using hC⟩
  ·cases hh
  ·cases hh;show 0≤(0:Int)∧(0:Int)≤(len:Int)∧(len:Int)≤len∧C (0:Int).toNat (len:Int).toNat
   exact ⟨by omega,by omega,by omega,by simpa using hC⟩
def JDT (T:Nat→Option TD)(H:Hp)(t:Nat)(x:AV)(lo hi mx:Option AV):Option AV:=
 match mx with
 |some _=>none
 |none=>match x with
   |.own b g off len=>(J4a T t).bind fun q=>(H b).bind fun B=>ifB (Nat.beq B.1 g&&Nat.beq B.2.n q.2.size) ((JDj len lo hi).bind fun p=>ifB (Nat.blt p.1 len) (some (.own b g (off+p.1) (p.2-p.1))))
   |.val (.string s)=>(T t).bind fun d=>match d.kind with
     |.str=>(JDj s.size lo hi).bind fun p=>some (.val (.string (s.extract p.1 p.2)))
     |_=>none
   |.sl n xs=>(J4a T t).bind fun q=>ifB (Nat.beq n q.2.size) ((JDj xs.length lo hi).bind fun p=>some (.sl n ((xs.take p.2).drop p.1)))
   |.val (.slice none 0 0)=>(J4a T t).bind fun q=>(JDj 0 lo hi).bind fun p=>some (.val (.slice none 0 0))
   |_=>none
theorem JDS {t:Nat}{x v:AV}{lo hi mx:Option AV}(h:JDT T H t x lo hi mx=some v){C:AV→Prop}(hC:C v):evSliceA P T H t x lo hi mx C:=by
 unfold JDT at h;unfold evSliceA;split at h
 ·cases h
 ·split at h
  ·obtain ⟨⟨e,ed⟩,h1,h⟩:=J02 h;obtain ⟨⟨g',B⟩,hB,h⟩:=J02 h;obtain ⟨hc,h⟩:=J0B h;obtain ⟨⟨l,hh⟩,hb,h⟩:=J02 h;obtain ⟨hl,h⟩:=J0B h;cases h;simp only[Bool.and_eq_true] at hc;have e:g'=_:=Nat.eq_of_beq_eq_true hc.1;subst e;exact ⟨rfl,(J16 h1).2 _ ⟨B,hB,Nat.eq_of_beq_eq_true hc.2,J4g hb ⟨Nat.le_of_ble_eq_true hl,hC⟩⟩⟩
  ·obtain ⟨d,hd,h⟩:=J02 h;split at h
   ·rename_i hk;obtain ⟨⟨l,hh⟩,hb,h⟩:=J02 h;cases h;exact .inl ⟨rfl,⟨d,hd,hk⟩,J4g hb hC⟩
   ·cases h
  ·obtain ⟨⟨e,ed⟩,h1,h⟩:=J02 h;obtain ⟨hc,h⟩:=J0B h;obtain ⟨⟨l,hh⟩,hb,h⟩:=J02 h;cases h;exact .inl ⟨rfl,(J16 h1).2 _ ⟨Nat.eq_of_beq_eq_true hc,J4g hb hC⟩⟩
  ·obtain ⟨⟨e,ed⟩,h1,h⟩:=J02 h;obtain ⟨⟨l,hh⟩,hb,h⟩:=J02 h;cases h;exact .inl ⟨rfl,(J16 h1).2 _ (J4g hb hC)⟩
  ·cases h
def xLen (T:Nat→Option TD)(t:Nat)(x:AV):Option AV:=
 (T t).bind fun d=>match d.kind,x with
 |.str,.val (.string s)=>some (.val (.int .i64 s.size))
 |.slice _,.sl _ xs=>some (.val (.int .i64 xs.length))
 |.slice _,.own _ _ _ len=>some (.val (.int .i64 len))
 |.slice _,.val (.slice none len _)=>some (.val (.int .i64 len))
 |_,_=>none
theorem JIS {t:Nat}{x v:AV}(h:xLen T t x=some v){C:AV→Prop}(hC:C v):evLen T t x C:=by
 replace h:=J02 h;obtain ⟨d,hd,h⟩:=h;refine ⟨d,hd,?_⟩;split at h
 ·rename_i hk;cases h;exact ⟨hk,hC⟩
 ·rename_i hk;cases h;exact ⟨⟨_,hk⟩,hC⟩
 ·rename_i hk;cases h;exact ⟨⟨_,hk⟩,hC⟩
 ·rename_i hk;cases h;exact ⟨⟨_,hk⟩,hC⟩
 ·cases h
end
end Go.Fw
