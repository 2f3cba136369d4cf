/- Part 24 of a proof. -/
import Derived.Test.YtlblbldolhiokaaGreatDoorRs23
set_option linter.all false
set_option maxRecDepth 99999
set_option maxHeartbeats 0
namespace Go.Fw
open Go.RowKit
def JJJ (a b:ByteArray):(a.toList==b.toList)=decide (a=b):=by
 rw[Q0w,Q0w]
 by_cases h:a=b
 ·subst h;simp
 rw[Q1 h];refine beq_false_of_ne fun e=>h ?_;exact Q1j (Q0P e)
@[irreducible] def andI (k:IntKind) (a b:Int):Int:=k.wrap (BitVec.ofInt k.bits a &&& BitVec.ofInt k.bits b).toNat
@[irreducible] def shrI (k:IntKind) (a b:Int):Int:=a.fdiv (2 ^ min b.toNat k.bits)
def JJ0 (op:BinOp)(k:IntKind)(a b:Int)(C:Value→Prop):Prop:=
 match op with
 |.add=>Need (J7O k≤a+b∧a+b≤J3F k) (C (.int k (a+b)))
 |.sub=>Need (J7O k≤a-b∧a-b≤J3F k) (C (.int k (a-b)))
 |.mul=>Need (J7O k≤a*b∧a*b≤J3F k) (C (.int k (a*b)))
 |.quo=>Need (b≠0∧J7O k≤a.tdiv b∧a.tdiv b≤J3F k) (C (.int k (a.tdiv b)))
 |.rem=>Need (b≠0) (C (.int k (a.tmod b)))
 |.and=>C (.int k (andI k a b))
 |.or=>C (J6K .or k a b)
 |.xor=>C (J6K .xor k a b)
 |.andNot=>C (J6K .andNot k a b)
 |.eql=>C (.bool (decide (a=b)))
 |.neq=>C (.bool (!decide (a=b)))
 |.lss=>C (.bool (decide (a<b)))
 |.leq=>C (.bool (decide (a≤b)))
 |.gtr=>C (.bool (decide (b<a)))
 |.geq=>C (.bool (decide (b≤a)))
 |_=>False
def JIz {op:BinOp}{k:IntKind}{a b:Int}{C:Value→Prop}(h:JJ0 op k a b C):binI op k a b C:=by
 unfold JJ0 at h;unfold binI;split at h<;>simp only
 ·obtain ⟨⟨h1,h2⟩,h3⟩:=h.out;rw[J5W k _ h1 h2];exact h3
 ·obtain ⟨⟨h1,h2⟩,h3⟩:=h.out;rw[J5W k _ h1 h2];exact h3
 ·obtain ⟨⟨h1,h2⟩,h3⟩:=h.out;rw[J5W k _ h1 h2];exact h3
 ·obtain ⟨⟨h0,h1,h2⟩,h3⟩:=h.out;rw[J5W k _ h1 h2];exact ⟨h0,h3⟩
 ·exact h.out
 ·unfold andI at h;exact h
 ·exact h
 ·exact h
 ·exact h
 ·exact h
 ·exact h
 ·exact h
 ·exact h
 ·exact h
 ·exact h
 exact h
def JIy (op:BinOp)(a b:ByteArray)(C:Value→Prop):Prop:=
 match op with
 |.add=>Need (a.size+b.size≤9223372036854775807) (C (.string (a++b)))
 |.eql=>C (.bool (decide (a=b)))
 |.neq=>C (.bool (!decide (a=b)))
 |.lss=>C (.bool (Op.bytesLess a.toList b.toList))
 |.leq=>C (.bool (Op.bytesLess a.toList b.toList||decide (a=b)))
 |.gtr=>C (.bool (!(Op.bytesLess a.toList b.toList||decide (a=b))))
 |.geq=>C (.bool (!(Op.bytesLess a.toList b.toList)))
 |_=>False
def JIx {op:BinOp}{a b:ByteArray}{C:Value→Prop}(h:JIy op a b C):binS op a b C:=by
 unfold JIy at h;unfold binS;split at h<;>simp only[JJJ]
 ·exact h.out
 all_goals exact h
def J9L:Kd→AV→AV→Option Bool
 |.int _,.val (.int k a),.val (.int k' b)=>match decide (k=k') with
   |true=>some (decide (a=b))
   |false=>none
 |.str,.val (.string a),.val (.string b)=>some (decide (a=b))
 |.bool,.val (.bool a),.val (.bool b)=>some (decide (a=b))
 |_,_,_=>none
def J1U:List Kd→List AV→List AV→Option Bool
 |[],[],[]=>some true
 |[k],[x],[y]=>J9L k x y
 |k::ks,x::xs,y::ys=>match J9L k x y,J1U ks xs ys with
   |some a,some b=>some (a&&b)
   |_,_=>none
 |_,_,_=>none
def JIn {k:Kd}{x y:AV}{b:Bool}(h:J9L k x y=some b):J1j k x y=some b:=by
 unfold J9L at h;unfold J1j;split at h
 ·split at h
  ·rename_i hk;simp only[if_pos (Qh hk)];exact h
  cases h
 ·simp only[J9Y];exact h
 ·rw[← h];rename_i a b;cases a<;>cases b<;>rfl
 cases h
def J5x:∀ {ks:List Kd} {xs ys:List AV} {b:Bool},J1U ks xs ys=some b→J0N ks xs ys=some b:=by
 intro ks
 induction ks with
 |nil=>intro xs ys b h;cases xs<;>cases ys<;>simp[J1U] at h<;>simp[J0N,h]
 |cons k ks ih=>
   intro xs ys b h
   cases xs with
   |nil=>cases ys<;>simp[J1U] at h
   |cons x xs=>
     cases ys with
     |nil=>simp[J1U] at h
     |cons y ys=>
       have key:∀ {a b':Bool},J9L k x y=some a→J1U ks xs ys=some b'→b=(a&&b')→J0N (k::ks) (x::xs) (y::ys)=some b:=by
        intro a b' h1 h2 h3;simp only[J0N,JIn h1,ih h2,h3]
       have gen:(match J9L k x y,J1U ks xs ys with|some a,some b=>some (a&&b)|_,_=>none)=some b→J0N (k::ks) (x::xs) (y::ys)=some b:=by
        intro h;split at h
        ·rename_i h1 h2;cases h;exact key h1 h2 rfl
        cases h
       cases ks with
       |nil => cases xs with
         |nil=>cases ys with
           |nil=>
             simp only[J1U] at h;exact key h rfl (by simp)
           |cons=>simp[J1U] at h
         |cons=>cases ys<;>simp[J1U] at h
       |cons k' ks=>exact gen (by simpa only [J1U] using h)
structure EqSt (P:Program) (t:Nat):Prop where
 guard:P.eqGuardType P.depth t=false
 stood:P.stoodInHeld t=false
 blank:∀ f∈(P.fieldsOf t).toList,f.name ≠ "_"
def EqSt.of {P:Program}{t:Nat}(h1:P.eqGuardType P.depth t=false)(h2:P.stoodInHeld t=false)(h3:(P.fieldsOf t).toList.all (fun f=>f.name != "_")=true):EqSt P t:=
 ⟨h1,h2,fun f hf=>by have:=QL.1 h3 f hf;simpa using this⟩
def JEa (T:Nat→Option TD)(fs:List (Nat×Nat)):List Kd:=fs.flatMap fun p=>match T p.2 with
 |some d=>match d.kind with
   |.struct gs=>gs.map fun g=>match T g.2 with
     |some gd=>gd.kind
     |none=>.bool
   |k=>[k]
 |none=>[]
structure NestSt (P:Program) (t:Nat) (ks:List Kd):Prop where
 guard:P.eqGuardType P.depth t=false
 eq:∀ cs ds b,J0N ks cs ds=some b→StE P t cs ds b
def cvEq (P:Program)(T:Nat→Option TD)(t:Nat)(x y:AV)(C:Bool→Prop):Prop:=
 match T t with
 |some d=>match d.kind,x,y with
   |.bool,.val (.bool a),.val (.bool b)=>C (a==b)
   |.struct fs,.agg cs,.agg ds=>match J1G T 0 fs with
     |some ks=>Need (EqSt P t) (match J1U ks cs ds with
       |some b=>C b
       |none=>False)
     |none=>Need (NestSt P t (JEa T fs)) (match J1U (JEa T fs) cs ds with
       |some b=>C b
       |none=>False)
   |.array 2 e,.agg [x0,x1],.agg [y0,y1]=>match T e with
     |some ed=>match Nat.beq ed.size 1,ed.kind.agg with
       |true,false=>Need (P.eqGuardType P.depth t=false) (match J1U [ed.kind,ed.kind] [x0,x1] [y0,y1] with
         |some b=>C b
         |none=>False)
       |_,_=>False
     |none=>False
   |.ptr,.val (.pointer none),.val (.pointer none)=>C true
   |.ptr,.val (.pointer none),.op _ _ _ _=>C false
   |.ptr,.val (.pointer none),.ep _ _=>C false
   |.ptr,.op _ _ _ _,.val (.pointer none)=>C false
   |.ptr,.ep _ _,.val (.pointer none)=>C false
   |.slice e,.val (.slice none _ _),.val (.slice none _ _)=>C true
   |.slice e,.sl _ xs,.val (.slice none _ _)=>Need (xs≠[]∨C true) (C false)
   |.slice e,.own _ _ _ len,.val (.slice none _ _)=>Need (0<len∨C true) (C false)
   |_,_,_=>False
 |none=>False
def JIw {P:Program}{T:Nat→Option TD}{t:Nat}{x y:AV}{C C':Bool→Prop}(hC:∀ b,C b→C' b)(h:cvEq P T t x y C):evEq P T t x y C':=by
 unfold cvEq at h;unfold evEq;split at h
 ·rename_i d hd;refine ⟨d,hd,?_⟩;split at h
  ·rename_i hk;exact ⟨hk,hC _ h⟩
  ·rename_i fs cs ds hk;split at h
   ·rename_i ks hks;obtain ⟨hs,h⟩:=h.out;refine ⟨hs.guard,.inl ⟨fs,hk,hs.stood,hs.blank,?_⟩⟩;split at h
    ·rename_i b hb;exact ⟨ks,hks,b,J5x hb,hC _ h⟩
    exact h.elim
   obtain ⟨hs,h⟩:=h.out;refine ⟨hs.guard,.inr (.inr ?_)⟩;split at h
   ·rename_i b hb;exact ⟨b,hs.eq _ _ _ (J5x hb),hC _ h⟩
   exact h.elim
  ·rename_i e x0 x1 y0 y1 hk;split at h
   ·rename_i ed hed;split at h
    ·rename_i h1 h2;obtain ⟨hs,h⟩:=h.out;refine ⟨hs,.inr (.inl ⟨e,hk,ed,hed,Q7 h1,h2,x0,x1,y0,y1,rfl,rfl,?_⟩)⟩;split at h
     ·rename_i b hb;exact ⟨b,J5x hb,hC _ h⟩
     exact h.elim
    exact h.elim
   exact h.elim
  ·rename_i hk;exact ⟨hk,hC _ h⟩
  ·rename_i hk;exact ⟨hk,hC _ h⟩
  ·rename_i hk;exact ⟨hk,hC _ h⟩
  ·rename_i hk;exact ⟨hk,hC _ h⟩
  ·rename_i hk;exact ⟨hk,hC _ h⟩
  ·rename_i hk;exact ⟨⟨_,hk⟩,hC _ h⟩
  ·rename_i hk;exact ⟨⟨_,hk⟩,h.out.1.imp id (hC _),hC _ h.out.2⟩
  ·rename_i hk;exact ⟨⟨_,hk⟩,h.out.1.imp id (hC _),hC _ h.out.2⟩
  exact h.elim
 exact h.elim
def J9S (len:Nat)(lo hi:Option AV)(C:Nat→Nat→Prop):Prop:=
 match lo,hi with
 |none,none=>C 0 len
 |none,some (.val (.int _ h))=>Need (0≤h∧h≤len) (C 0 h.toNat)
 |some (.val (.int _ l)),none=>Need (0≤l∧l≤len) (C l.toNat len)
 |some (.val (.int _ l)),some (.val (.int _ h))=>Need (0≤l∧l≤h∧h≤len) (C l.toNat h.toNat)
 |_,_=>False
def J5B {len:Nat}{lo hi:Option AV}{C C':Nat→Nat→Prop}(hC:∀ a b,C a b→C' a b)(h:J9S len lo hi C):bnds len lo hi C':=by
 unfold J9S at h;unfold bnds;split at h
 ·exact ⟨by simp,by simp,by simp,by simpa using hC _ _ h⟩
 ·obtain ⟨⟨h1,h2⟩,h3⟩:=h.out;exact ⟨by simp,h1,h2,by simpa using hC _ _ h3⟩
 ·obtain ⟨⟨h1,h2⟩,h3⟩:=h.out;exact ⟨h1,h2,by simp,by simpa using hC _ _ h3⟩
 ·obtain ⟨⟨h1,h2,h4⟩,h3⟩:=h.out;exact ⟨h1,h2,h4,hC _ _ h3⟩
 exact h.elim
section
variable {P:Program} {T:Nat→Option TD} {H:Hp}
def JDQ (T:Nat→Option TD)(t:Nat)(x:AV)(lo hi mx:Option AV)(C:AV→Prop):Prop:=
 match mx with
 |some _=>False
 |none=>match x with
   |.val (.string s)=>match T t with
     |some d=>match d.kind with
       |.str=>J9S s.size lo hi fun l h=>C (.val (.string (s.extract l h)))
       |_=>False
     |none=>False
   |.sl n xs=>J2B T t fun _ ed=>match Nat.beq n ed.size with
     |true=>J9S xs.length lo hi fun l h=>C (.sl n ((xs.take h).drop l))
     |false=>False
   |.val (.slice none 0 0)=>J2B T t fun _ ed=>J9S 0 lo hi fun l h=>C (.val (.slice none 0 0))
   |_=>False
def JGC {t:Nat}{x:AV}{lo hi mx:Option AV}{C:AV→Prop}(h:JDQ T t x lo hi mx C):evSlice T t x lo hi mx C:=by
 unfold JDQ at h;split at h
 ·exact h.elim
 refine ⟨rfl,?_⟩;split at h
 ·split at h
  ·rename_i d hd;split at h
   ·rename_i hk;exact ⟨⟨d,hd,hk⟩,J5B (fun _ _ h=>h) h⟩
   exact h.elim
  exact h.elim
 ·refine J2U h fun e ed h=>?_;split at h
  ·rename_i hn;exact ⟨Q7 hn,J5B (fun _ _ h=>h) h⟩
  exact h.elim
 ·exact J2U h fun e ed h=>J5B (fun _ _ h=>h) h
 exact h.elim
def JLX (T:Nat→Option TD)(t:Nat)(x:AV)(C:AV→Prop):Prop:=
 match T t with
 |some d=>match d.kind,x with
   |.str,.val (.string s)=>C (.val (.int .i64 s.size))
   |.slice _,.sl _ xs=>C (.val (.int .i64 xs.length))
   |.slice _,.own _ _ _ len=>C (.val (.int .i64 len))
   |.slice _,.val (.slice none len _)=>C (.val (.int .i64 len))
   |_,_=>False
 |none=>False
def JEv {t:Nat}{x:AV}{C:AV→Prop}(h:JLX T t x C):evLen T t x C:=by
 unfold JLX at h;unfold evLen;split at h
 ·rename_i d hd;refine ⟨d,hd,?_⟩;split at h
  ·rename_i hk;exact ⟨hk,h⟩
  ·rename_i hk;exact ⟨⟨_,hk⟩,h⟩
  ·rename_i hk;exact ⟨⟨_,hk⟩,h⟩
  ·rename_i hk;exact ⟨⟨_,hk⟩,h⟩
  exact h.elim
 exact h.elim
def cvUn (op:UnOp)(x:AV)(C:AV→Prop):Prop:=
 match op,x with
 |.neg,.val (.int k n)=>Need (J7O k≤-n∧-n≤J3F k) (C (.val (.int k (-n))))
 |.not,.val (.bool b)=>C (.val (.bool (!b)))
 |_,_=>False
def JIp {op:UnOp}{x:AV}{C:AV→Prop}(h:cvUn op x C):evUn op x C:=by
 unfold cvUn at h;unfold evUn;split at h
 ·obtain ⟨⟨h1,h2⟩,h3⟩:=h.out;simp only[Int.zero_sub];rw[J5W _ _ h1 h2];exact h3
 ·exact h
 exact h.elim
def JEx (T:Nat→Option TD)(src dst:Nat)(x:AV)(C:AV→Prop):Prop:=
 match T dst,T src with
 |some d,some e=>match d.kind,e.kind,x with
   |.int k,.int _,.val (.int _ n)=>Need (J7O k≤n∧n≤J3F k) (C (.val (.int k n)))
   |.str,.str,.val (.string s)=>C (.val (.string s))
   |.str,.int _,.val (.int _ n)=>C (.val (.string (runeS n)))
   |.str,.slice t,.sl 1 xs=>match T t with
     |some k=>match k.kind with
       |.int .u8=>BytesP xs fun l=>C (.val (.string ⟨l.toArray⟩))
       |_=>False
     |none=>False
   |_,_,_=>False
 |_,_=>False
def JC8 {s t:Nat}{x:AV}{C:AV→Prop}(h:JEx T s t x C):evConv T s t x C:=by
 unfold JEx at h;unfold evConv;split at h
 ·rename_i d e hd he;refine ⟨d,e,hd,he,?_⟩;split at h
  ·rename_i hk hj;obtain ⟨⟨h1,h2⟩,h3⟩:=h.out;exact ⟨_,hj,by simp only[hk];rw[J5W _ _ h1 h2];exact h3⟩
  ·rename_i hk hj;exact ⟨hk,hj,h⟩
  ·rename_i hk hj;exact ⟨_,hj,by simp only[hk];exact h⟩
  ·rename_i hk hj;split at h
   ·rename_i hk2;split at h
    ·rename_i hk3;exact ⟨hk,⟨_,_,hj,hk2,hk3⟩,h⟩
    exact h.elim
   exact h.elim
  exact h.elim
 exact h.elim
def JLY (P:Program)(T:Nat→Option TD)(op:BinOp)(t:Nat)(x y:AV)(C:AV→Prop):Prop:=
 match x with
 |.val (.int k a)=>match y with
   |.val (.int k' b)=>match op with
     |.shl=>Need (0≤b) (C (.val (.int k (k.wrap (a*2 ^ min b.toNat k.bits)))))
     |.shr=>Need (0≤b) (C (.val (.int k (shrI k a b))))
     |op=>match decide (k=k') with
       |true=>JJ0 op k a b fun v=>C (.val v)
       |false=>False
   |_=>False
 |.val (.string a)=>match y with
   |.val (.string b)=>JIy op a b fun v=>C (.val v)
   |_=>False
 |x=>match op with
   |.eql=>cvEq P T t x y fun b=>C (.val (.bool b))
   |.neq=>cvEq P T t x y fun b=>C (.val (.bool (!b)))
   |_=>False
def JEy {op:BinOp}{t:Nat}{x y:AV}{C:AV→Prop}(h:JLY P T op t x y C):J4y P T op t x y C:=by
 unfold JLY at h;split at h
 ·split at h
  ·unfold J4y;simp only;split at h
   ·rw[if_pos (.inl rfl)];exact h.out
   ·rw[if_pos (.inr rfl)];unfold shrI at h;exact h.out
   rename_i h1 h2;rw[if_neg (fun h=>h.elim h1 h2)];split at h
   ·rename_i hk;exact ⟨Qh hk,JIz h⟩
   exact h.elim
  exact h.elim
 ·split at h
  ·exact JIx h
  exact h.elim
 rename_i h1 h2
 have key:(op=.eql∨op=.neq)∧evEq P T t x y fun b=>C (.val (.bool (if op=.eql then b else !b))):=by
  split at h
  ·exact ⟨.inl rfl,JIw (fun b h=>by simpa using h) h⟩
  ·exact ⟨.inr rfl,JIw (fun b h=>by simpa using h) h⟩
  exact h.elim
 unfold J4y;split
 ·exact absurd rfl (h1 _ _)
 ·exact absurd rfl (h2 _)
 exact key
def JAY (T:Nat→Option TD)(t:Nat)(parts:List (Nat×AV))(C:AV→Prop):Prop:=
 match T t with
 |some d=>match d.kind with
   |.struct fs=>match J48 T fs with
     |some ps=>match J5t (fun i=>ps[i]?) (d.zero.map .val) parts with
       |some cs=>C (.agg cs)
       |none=>False
     |none=>False
   |.array _ e=>match T e with
     |some ed=>match J5t (fun i=>some (i*ed.size,ed.size)) (d.zero.map .val) parts with
       |some cs=>C (.agg cs)
       |none=>False
     |none=>False
   |_=>False
 |none=>False
def J9R {t:Nat}{parts:List (Nat×AV)}{C:AV→Prop}(h:JAY T t parts C):evBuild T t parts C:=by
 unfold JAY at h;unfold evBuild;split at h
 ·rename_i d hd;refine ⟨d,hd,?_⟩;split at h
  ·rename_i hk;simp only[hk];split at h
   ·rename_i ps hps;split at h
    ·rename_i cs hcs;exact ⟨ps,hps,cs,hcs,h⟩
    exact h.elim
   exact h.elim
  ·rename_i hk;simp only[hk];split at h
   ·rename_i ed hed;split at h
    ·rename_i cs hcs;exact ⟨ed,hed,cs,hcs,h⟩
    exact h.elim
   exact h.elim
  exact h.elim
 exact h.elim
def JEu (T:Nat→Option TD)(t d γ:Nat)(l c:AV)(C:AV→Up→Prop):Prop:=
 match l,c with
 | .val (.int _ l),.val (.int _ c)=>J2B T t fun e ed=>Need (0≤l∧l≤c∧(ed.bytes:Int)*c≤281474976710656∧c≤9223372036854775807)
  (C (.own d γ 0 l.toNat) (some (d,γ,⟨e,ed.size,List.replicate l.toNat (mkEl ed)⟩)))
 |_,_=>False
def JC6 {t d γ:Nat}{l c:AV}{C:AV→Up→Prop}(h:JEu T t d γ l c C):evMake T t d γ l c C:=by
 unfold JEu at h;unfold evMake;split at h
 ·exact (J2T h).mono fun e ed h=>by
   obtain ⟨⟨h1,h2,h3,h4⟩,h5⟩:=h.out;exact ⟨h1,h2,h3,h4,h5⟩
 exact h.elim
def J79 (n:Nat):Nat→List (Nat×AV)→Bool
 |_,[]=>true
 |i,p::r=>Nat.beq p.1 i&&J2w p.2&&Nat.beq p.2.cells.length n&&J79 n (i+1) r
theorem J5n (n:Nat):∀ (l:List (Nat×AV)) (i:Nat),J79 n i l=true→l.map Prod.fst=List.range' i l.length∧∀ p∈l,J2w p.2=true∧p.2.cells.length=n
 |[],i,_=>⟨rfl,fun p hp=>absurd hp (by simp)⟩
 |p :: r,i,h=>by
   unfold J79 at h;simp only[Q5] at h;obtain ⟨⟨⟨h1,h2⟩,h3⟩,h4⟩:=h;obtain ⟨k1,k2⟩:=J5n n r (i+1) h4;refine ⟨?_,fun q hq=>?_⟩
   ·simp[Q2X,k1,Q7 h1]
   rcases QO.1 hq with rfl|hq
   ·exact ⟨h2,Q7 h3⟩
   exact k2 q hq
def J3N (T:Nat→Option TD)(t d γ len:Nat)(l:List (Nat×AV))(C:AV→Up→Prop):Prop:=
 J2B T t fun e ed=>match J79 ed.size 0 l,Nat.beq l.length len,Nat.ble (len*ed.size) 16777216 with
  |true,true,true=>C (.own d γ 0 len) (some (d,γ,⟨e,ed.size,l.map Prod.snd⟩))
  |_,_,_=>False
def J3M {t d γ len:Nat}{l:List (Nat×AV)}{C:AV→Up→Prop}(h:J3N T t d γ len l C):evBuildSlice T t d γ len l C:=by
 refine (J2T h).mono fun e ed h=>?_;split at h
 ·rename_i h1 h2 h3;obtain ⟨k1,k2⟩:=J5n _ _ _ h1;exact ⟨k1,Q7 h2,k2,QJ h3,h⟩
 exact h.elim
def J2P:List AV→Bool
 |[]=>true
 |.agg _::_=>false
 |_::r=>J2P r
theorem J3H:∀ (l:List AV),J2P l=true→∀ c∈l,c.cells=[c]
 |[],_,c,hc=>absurd hc (by simp)
 |x :: r,h,c,hc=>by
   have:(∀ cs,x≠.agg cs)∧J2P r=true:=by
    cases x<;>simp[J2P] at h ⊢<;>exact h
   rcases QO.1 hc with rfl|hc
   ·cases c<;>first|rfl|exact absurd rfl (this.1 _)
   exact J3H r this.2 c hc
def JAS (T:Nat→Option TD)(H:Hp)(t:Nat)(p x:AV)(C:Up→Prop):Prop:=
 match p with
 |.op b g i k=>match T t with
   |some d=>match J2w x,Nat.beq x.cells.length d.size,J2P x.cells with
     |true,true,true=>match H b with
       |some (g',B)=>match Nat.ble (k+d.size) B.n with
         |true=>Need (g'=g∧i<B.xs.length) (fv (B.xs.getD i .dead) fun y=>fv (J6z y k x) fun z=>C (some (b,g',{ B with xs:=B.xs.set i z })))
         |false=>False
       |none=>False
     |_,_,_=>False
   |none=>False
 |_=>False
def J9M {t:Nat}{p x:AV}{C:Up→Prop}(h:JAS T H t p x C):evStore T H t p x C:=by
 unfold JAS at h;unfold evStore;split at h
 ·split at h
  ·rename_i d hd;split at h
   ·rename_i h1 h2 h3;split at h
    ·rename_i g' B hB;split at h
     ·rename_i h4;have hq:=h.out;simp only[J7d] at hq;obtain ⟨⟨rfl,h5⟩,h6⟩:=hq;exact ⟨d,hd,h1,Q7 h2,B,hB,h5,QJ h4,J3H _ h3,h6⟩
     exact h.elim
    exact h.elim
   exact h.elim
  exact h.elim
 exact h.elim
def JIv (b:Bool)(k:IntKind)(x:Int)(l:List AV)(C:AV→Prop):Prop:=
 match l with
 |[]=>C (.val (.int k x))
 |.val (.int _ y)::r=>match b with
   |true=>JIv true k (max x y) r C
   |false=>JIv false k (min x y) r C
 |_=>False
def JLW {b:Bool}{k:IntKind}{C:AV→Prop}(l:List AV):∀ {x:Int},JIv b k x l C→∃ z,mmF b x l=some z∧C (.val (.int k z)):=by
 induction l with
 |nil=>intro x h;exact ⟨x,rfl,h⟩
 |cons y r ih=>
   intro x h;unfold JIv at h;split at h
   ·rename_i e;cases e
   ·rename_i e;cases e;cases b<;>exact ih h
   exact h.elim
def cvMM (b:Bool)(l:List AV)(C:AV→Prop):Prop:=
 match l with
 |.val (.int k x)::r=>JIv b k x r C
 |_=>False
def JAU {b:Bool}{l:List AV}{C:AV→Prop}(h:cvMM b l C):evMM b l C:=by
 unfold cvMM at h;unfold evMM;split at h
 ·exact JLW _ h
 exact h.elim
def JLV (H:Hp)(n:Nat)(y:AV)(C:List AV→Prop):Prop:=
 match y with
 |.sl m ys=>match Nat.beq m n with
   |true=>C ys
   |false=>False
 |.own b g off len=>match H b with
   |some (g',B)=>match Nat.beq B.n n with
     |true=>Need (g'=g∧off+len≤B.xs.length) (C ((B.xs.drop off).take len))
     |false=>False
   |none=>False
 |.val (.slice none 0 0)=>C []
 |_=>False
def JEs {n:Nat}{y:AV}{C C':List AV→Prop}(hC:∀ l,C l→C' l)(h:JLV H n y C):srcOf H n y C':=by
 unfold JLV at h;unfold srcOf;split at h
 ·split at h
  ·rename_i hm;exact ⟨Q7 hm,hC _ h⟩
  exact h.elim
 ·split at h
  ·rename_i g' B hB;split at h
   ·rename_i hm;have hq:=h.out;obtain ⟨⟨rfl,h1⟩,h2⟩:=hq;exact ⟨B,hB,Q7 hm,h1,hC _ h2⟩
   exact h.elim
  exact h.elim
 ·exact hC _ h
 exact h.elim
def J6g (T:Nat→Option TD)(H:Hp)(t d γ:Nat)(x y:AV)(C:AV→Up→Prop):Prop:=
 J2B T t fun e ed=>JLV H ed.size y fun ys=>
  match x with
  |.own b g 0 len=>match H b with
    |some (g',B)=>match Nat.beq B.n ed.size,Nat.beq B.e e with
      |true,true=>Need (g'=g∧len=B.xs.length∧(B.xs.length+ys.length)*ed.bytes≤140737488355328∧0<ed.bytes) (C (.own b γ 0 (len+ys.length)) (some (b,γ,⟨e,ed.size,B.xs++ys⟩)))
      |_,_=>False
    |none=>False
  |.val (.slice none 0 0)=>Need (ys.length*ed.bytes≤140737488355328∧0<ed.bytes) (C (.own d γ 0 ys.length) (some (d,γ,⟨e,ed.size,ys⟩)))
  |.fu n xs=>match Nat.beq n ed.size with
    |true=>Need (VL ys) (Need ((xs.length+ys.length)*ed.bytes≤140737488355328∧0<ed.bytes) (C (.sl n (xs++ys)) none))
    |false=>False
  |_=>False
def J7T {a b:Nat}(h:a*b≤140737488355328)(hb:0<b):a≤9223372036854775807:=by
 have:=Q1m a hb;omega
def J84 {t d γ:Nat}{x y:AV}{C:AV→Up→Prop}(h:J6g T H t d γ x y C):evAppend T H t d γ x y C:=by
 unfold J6g at h;refine (J2T h).mono fun e ed h=>JEs (fun ys h=>?_) h;split at h
 ·simp only;split at h
  ·rename_i g' B hB;split at h
   ·rename_i h1 h2;have hq:=h.out;obtain ⟨⟨rfl,rfl,h3,h4⟩,h5⟩:=hq;refine ⟨B,hB,Q7 h1,Q7 h2,QM _,J7T h3 h4,h3,?_⟩;rw[Qi];exact h5
   exact h.elim
  exact h.elim
 ·simp only;obtain ⟨⟨h3,h4⟩,h5⟩:=h.out;exact ⟨J7T h3 h4,h3,h5⟩
 ·simp only;split at h
  ·rename_i hn;obtain ⟨h1,h2⟩:=h.out;obtain ⟨⟨h3,h4⟩,h5⟩:=h2.out;have hn:=Q7 hn;subst hn;exact ⟨rfl,h1,J7T h3 h4,h3,h5⟩
  exact h.elim
 exact h.elim
def J6c (P:Program)(T:Nat→Option TD)(t:Nat)(x:AV)(lo hi mx:Option AV)(C:AV→Prop):Prop:=
 match lo with
 |some _=>False
 |none=>match x with
   |.sl n xs=>match hi with
     |some (.val (.int _ i))=>match mx with
       |some (.val (.int _ j))=>J2B T t fun _ ed=>match Nat.beq n ed.size with
         |true=>Need (i=j∧0≤i∧i≤xs.length) (C (.fu n (xs.take i.toNat)))
         |false=>False
       |_=>False
     |_=>False
   |.ep (.agg cs) 0=>match hi with
     |none=>match mx with
       |none=>Need (ArrP P t cs.length) (C (.sl 1 cs))
       |some _=>False
     |some _=>False
   |_=>False
def J7x {t:Nat}{x:AV}{lo hi mx:Option AV}{C:AV→Prop}(h:J6c P T t x lo hi mx C):evSliceF P T t x lo hi mx C:=by
 unfold J6c at h;unfold evSliceF;split at h
 ·exact h.elim
 split at h
 ·split at h
  ·split at h
   ·simp only;refine J2U h fun e ed h=>?_;split at h
    ·rename_i hn;obtain ⟨⟨h1,h2,h3⟩,h4⟩:=h.out;exact ⟨Q7 hn,h1,h2,h3,h4⟩
    exact h.elim
   exact h.elim
  exact h.elim
 ·split at h
  ·split at h
   ·exact h.out
   exact h.elim
  exact h.elim
 exact h.elim
def J6d (P:Program)(T:Nat→Option TD)(H:Hp)(t:Nat)(x:AV)(lo hi mx:Option AV)(C:AV→Prop):Prop:=
 match x with
 |.own b g off len=>match mx with
   |none=>J2B T t fun _ ed=>match H b with
     |some (g',B)=>match Nat.beq B.n ed.size with
       |true=>Need (g'=g) (J9S len lo hi fun l h=>Need (l<len) (C (.own b g (off+l) (h-l))))
       |false=>False
     |none=>False
   |some _=>False
 |.ep y k=>J6c P T t (.ep y k) lo hi mx C
 |x=>match mx with
   |some m=>J6c P T t x lo hi (some m) C
   |none=>JDQ T t x lo hi none C
def J7y {t:Nat}{x:AV}{lo hi mx:Option AV}{C:AV→Prop}(h:J6d P T H t x lo hi mx C):evSliceA P T H t x lo hi mx C:=by
 unfold J6d at h;unfold evSliceA;split at h
 ·rename_i b g off len;split at h
  ·refine ⟨rfl,J2U h fun e ed h=>?_⟩;split at h
   ·rename_i g' B hB;split at h
    ·rename_i hn;obtain ⟨h0,h4⟩:=h.out;subst h0;exact ⟨B,hB,Q7 hn,J5B (fun _ _ h=>h.out) h4⟩
    exact h.elim
   exact h.elim
  exact h.elim
 ·exact .inr (J7x h)
 rename_i hx hy;split at h
 ·cases x<;>first|exact .inr (J7x h)|exact (hx _ _ _ _ rfl).elim
 cases x<;>first|exact .inl (JGC h)|exact (hx _ _ _ _ rfl).elim
def JEw (T:Nat→Option TD)(H:Hp)(t:Nat)(x y:AV)(C:AV→Up→Prop):Prop:=
 match x with
 |.own b g off len=>J2B T t fun _ ed=>match Nat.beq ed.size 1,H b with
   |true,some (g',B)=>match Nat.beq B.n 1 with
     |true=>Need (g'=g∧off+len≤B.xs.length) (JLV H 1 y fun ys=>CondP (decide (0<min ys.length len)) (C (.val (.int .i64 (min ys.length len:Nat))) (some (b,g',spl B off (ys.take len)))) (C (.val (.int .i64 0)) none))
     |false=>False
   |_,_=>False
 |_=>False
def JC7 {t:Nat}{x y:AV}{C:AV→Up→Prop}(h:JEw T H t x y C):evCopy T H t x y C:=by
 unfold JEw at h;unfold evCopy;split at h
 ·refine (J2T h).mono fun e ed h=>?_;split at h
  ·rename_i g' B h1 hB;split at h
   ·rename_i hn;obtain ⟨⟨h0,h3⟩,h4⟩:=h.out;subst h0;exact ⟨Q7 h1,B,hB,Q7 hn,h3,JEs (fun ys h=>⟨fun q=>h.out.1 (Q2 q),fun q=>h.out.2 (Q1 q)⟩) h4⟩
   exact h.elim
  exact h.elim
 exact h.elim
def JDX (T:Nat→Option TD)(H:Hp)(t:Nat)(x:AV)(C:AV→Up→Prop):Prop:=
 match x with
 |.own b g off len=>J2B T t fun _ ed=>match Nat.beq ed.size 1,H b with
   |true,some (g',B)=>match Nat.beq B.n 1 with
     |true=>Need (g'=g∧0<len∧off+len≤B.xs.length) (C (.tup []) (some (b,g',spl B off (List.replicate len (mkEl ed)))))
     |false=>False
   |_,_=>False
 |_=>False
def JGI {t:Nat}{x:AV}{C:AV→Up→Prop}(h:JDX T H t x C):J4D T H t x C:=by
 unfold JDX at h;unfold J4D;split at h
 ·refine (J2T h).mono fun e ed h=>?_;split at h
  ·rename_i g' B h1 hB;split at h
   ·rename_i hn;obtain ⟨⟨h0,h2,h3⟩,h4⟩:=h.out;subst h0;exact ⟨Q7 h1,B,hB,Q7 hn,h2,h3,h4⟩
   exact h.elim
  exact h.elim
 exact h.elim
end
end Go.Fw
