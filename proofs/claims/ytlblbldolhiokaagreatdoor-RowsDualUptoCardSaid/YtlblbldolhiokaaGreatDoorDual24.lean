/- Part 24 of the proof. -/
import Derived.Test.YtlblbldolhiokaaGreatDoorDual23
set_option linter.unusedVariables false
set_option linter.unusedSimpArgs false
set_option linter.unusedSectionVars false
set_option maxRecDepth 100000
set_option exponentiation.threshold 400
set_option maxHeartbeats 8000000
namespace Go.Fw
open Go.RowKit
theorem JFi (a b:ByteArray):(a.toList==b.toList)=decide (a=b):=by
 rw[ByteArray.toList_eq,ByteArray.toList_eq]
 by_cases h:a=b
 ·subst h;simp
 ·rw[decide_eq_false h];refine beq_false_of_ne fun e=>h ?_;exact ByteArray.ext (Array.ext' e)
@[irreducible] def andI (k:IntKind) (a b:Int):Int:=k.wrap (BitVec.ofInt k.bits a &&& BitVec.ofInt k.bits b).toNat
@[irreducible] def shrI (k:IntKind) (a b:Int):Int:=a.fdiv (2 ^ min b.toNat k.bits)
def JFR (op:BinOp)(k:IntKind)(a b:Int)(C:Value→Prop):Prop:=
 match op with
 |.add=>Need (J5U k≤a+b∧a+b≤J2Z k) (C (.int k (a+b)))
 |.sub=>Need (J5U k≤a-b∧a-b≤J2Z k) (C (.int k (a-b)))
 |.mul=>Need (J5U k≤a*b∧a*b≤J2Z k) (C (.int k (a*b)))
 |.quo=>Need (b≠0∧J5U k≤a.tdiv b∧a.tdiv b≤J2Z k) (C (.int k (a.tdiv b)))
 |.rem=>Need (b≠0) (C (.int k (a.tmod b)))
 |.and=>C (.int k (andI k a b))
 |.or=>C (J4e .or k a b)
 |.xor=>C (J4e .xor k a b)
 |.andNot=>C (J4e .andNot k a b)
 |.eql=>C (.bool (decide (a=b)))
 |.neq=>C (.bool (!decide (a=b)))
 |.lss=>C (.bool (decide (a<b)))
 |.leq=>C (.bool (decide (a≤b)))
 |.gtr=>C (.bool (decide (b<a)))
 |.geq=>C (.bool (decide (b≤a)))
 |_=>False
theorem JFQ {op:BinOp}{k:IntKind}{a b:Int}{C:Value→Prop}(h:JFR op k a b C):binI op k a b C:=by
 unfold JFR at h;unfold binI;split at h<;>simp only
 ·obtain ⟨⟨h1,h2⟩,h3⟩:=h.out;rw[J40 k _ h1 h2];exact h3
 ·obtain ⟨⟨h1,h2⟩,h3⟩:=h.out;rw[J40 k _ h1 h2];exact h3
 ·obtain ⟨⟨h1,h2⟩,h3⟩:=h.out;rw[J40 k _ h1 h2];exact h3
 ·obtain ⟨⟨h0,h1,h2⟩,h3⟩:=h.out;rw[J40 k _ h1 h2];exact ⟨h0,h3⟩
 ·exact h.out
 ·unfold andI at h;exact h
 ·exact h
 ·exact h
 ·exact h
 ·exact h
 ·exact h
 ·exact h
 ·exact h
 ·exact h
 ·exact h
 ·exact h
def JFP (op:BinOp)(a b:ByteArray)(C:Value→Prop):Prop:=
 match op with
 |.add=>Need (a.size+b.size≤9223372036854775807) (C (.string (a++b)))
 |.eql=>C (.bool (decide (a=b)))
 |.neq=>C (.bool (!decide (a=b)))
 |.lss=>C (.bool (Op.bytesLess a.toList b.toList))
 |.leq=>C (.bool (Op.bytesLess a.toList b.toList||decide (a=b)))
 |.gtr=>C (.bool (!(Op.bytesLess a.toList b.toList||decide (a=b))))
 |.geq=>C (.bool (!(Op.bytesLess a.toList b.toList)))
 |_=>False
theorem JFO {op:BinOp}{a b:ByteArray}{C:Value→Prop}(h:JFP op a b C):binS op a b C:=by
 unfold JFP at h;unfold binS;split at h<;>simp only[JFi]
 ·exact h.out
 all_goals exact h
def J74:Kd→AV→AV→Option Bool
 |.int _,.val (.int k a),.val (.int k' b)=>match decide (k=k') with
   |true=>some (decide (a=b))
   |false=>none
 |.str,.val (.string a),.val (.string b)=>some (decide (a=b))
 |.bool,.val (.bool a),.val (.bool b)=>some (decide (a=b))
 |_,_,_=>none
def J1B:List Kd→List AV→List AV→Option Bool
 |[],[],[]=>some true
 |[k],[x],[y]=>J74 k x y
 |k::ks,x::xs,y::ys=>match J74 k x y,J1B ks xs ys with
   |some a,some b=>some (a&&b)
   |_,_=>none
 |_,_,_=>none
theorem JFF {k:Kd}{x y:AV}{b:Bool}(h:J74 k x y=some b):J2H k x y=some b:=by
 unfold J74 at h;unfold J2H;split at h
 ·split at h
  ·rename_i hk;simp only[if_pos (of_decide_eq_true hk)];exact h
  ·cases h
 ·simp only[J7G];exact h
 ·rw[← h];rename_i a b;cases a<;>cases b<;>rfl
 ·cases h
theorem J4H:∀ {ks:List Kd} {xs ys:List AV} {b:Bool},J1B ks xs ys=some b→J0H ks xs ys=some b:=by
 intro ks
 induction ks with
 |nil=>intro xs ys b h;cases xs<;>cases ys<;>simp[J1B] at h<;>simp[J0H,h]
 |cons k ks ih=>
   intro xs ys b h
   cases xs with
   |nil=>cases ys<;>simp[J1B] at h
   |cons x xs=>
     cases ys with
     |nil=>simp[J1B] at h
     |cons y ys=>
       have key:∀ {a b':Bool},J74 k x y=some a→J1B ks xs ys=some b'→b=(a&&b')→J0H (k::ks) (x::xs) (y::ys)=some b:=by
        intro a b' h1 h2 h3;simp only[J0H,JFF h1,ih h2,h3]
       have gen:(match J74 k x y,J1B ks xs ys with|some a,some b=>some (a&&b)|_,_=>none)=some b→J0H (k::ks) (x::xs) (y::ys)=some b:=by
        intro h;split at h
        ·rename_i h1 h2;cases h;exact key h1 h2 rfl
        ·cases h
       cases ks with
       |nil => cases xs with
         |nil=>cases ys with
           |nil=>
             simp only[J1B] at h;exact key h rfl (by simp)
           |cons=>simp[J1B] at h
         |cons=>cases ys<;>simp[J1B] at h
       |cons k' ks=>exact gen (by simpa only [J1B] using h)
structure EqSt (P:Program) (t:Nat):Prop where
 guard:P.eqGuardType P.depth t=false
 stood:P.stoodInHeld t=false
 blank:∀ f∈(P.fieldsOf t).toList,f.name ≠ "_"
theorem EqSt.of {P:Program}{t:Nat}(h1:P.eqGuardType P.depth t=false)(h2:P.stoodInHeld t=false)(h3:(P.fieldsOf t).toList.all (fun f=>f.name != "_")=true):EqSt P t:=
 ⟨h1,h2,fun f hf=>by have:=List.all_eq_true.1 h3 f hf;simpa using this⟩
def JI8 (T:Nat→Option TD)(fs:List (Nat×Nat)):List Kd:=fs.flatMap fun p=>match T p.2 with
 |some d=>match d.kind with
   |.struct gs=>gs.map fun g=>match T g.2 with
     |some gd=>gd.kind
     |none=>.bool
   |k=>[k]
 |none=>[]
structure NestSt (P:Program) (t:Nat) (ks:List Kd):Prop where
 guard:P.eqGuardType P.depth t=false
 eq:∀ cs ds b,J0H ks cs ds=some b→StE P t cs ds b
def cvEq (P:Program)(T:Nat→Option TD)(t:Nat)(x y:AV)(C:Bool→Prop):Prop:=
 match T t with
 |some d=>match d.kind,x,y with
   |.bool,.val (.bool a),.val (.bool b)=>C (a==b)
   |.struct fs,.agg cs,.agg ds=>match J0s T 0 fs with
     |some ks=>Need (EqSt P t) (match J1B ks cs ds with
       |some b=>C b
       |none=>False)
     |none=>Need (NestSt P t (JI8 T fs)) (match J1B (JI8 T fs) cs ds with
       |some b=>C b
       |none=>False)
   |.array 2 e,.agg [x0,x1],.agg [y0,y1]=>match T e with
     |some ed=>match Nat.beq ed.size 1,ed.kind.agg with
       |true,false=>Need (P.eqGuardType P.depth t=false) (match J1B [ed.kind,ed.kind] [x0,x1] [y0,y1] with
         |some b=>C b
         |none=>False)
       |_,_=>False
     |none=>False
   |.ptr,.val (.pointer none),.val (.pointer none)=>C true
   |.ptr,.val (.pointer none),.op _ _ _ _=>C false
   |.ptr,.val (.pointer none),.ep _ _=>C false
   |.ptr,.op _ _ _ _,.val (.pointer none)=>C false
   |.ptr,.ep _ _,.val (.pointer none)=>C false
   |.slice e,.val (.slice none _ _),.val (.slice none _ _)=>C true
   |.slice e,.sl _ xs,.val (.slice none _ _)=>Need (xs≠[]∨C true) (C false)
   |.slice e,.own _ _ _ len,.val (.slice none _ _)=>Need (0<len∨C true) (C false)
   |_,_,_=>False
 |none=>False
theorem JFN {P:Program}{T:Nat→Option TD}{t:Nat}{x y:AV}{C C':Bool→Prop}(hC:∀ b,C b→C' b)(h:cvEq P T t x y C):evEq P T t x y C':=by
 unfold cvEq at h;unfold evEq;split at h
 ·rename_i d hd;refine ⟨d,hd,?_⟩;split at h
  ·rename_i hk;exact ⟨hk,hC _ h⟩
  ·rename_i fs cs ds hk;split at h
   ·rename_i ks hks;obtain ⟨hs,h⟩:=h.out;refine ⟨hs.guard,.inl ⟨fs,hk,hs.stood,hs.blank,?_⟩⟩;split at h
    ·rename_i b hb;exact ⟨ks,hks,b,J4H hb,hC _ h⟩
    ·exact h.elim
   ·obtain ⟨hs,h⟩:=h.out;refine ⟨hs.guard,.inr (.inr ?_)⟩;split at h
    ·rename_i b hb;exact ⟨b,hs.eq _ _ _ (J4H hb),hC _ h⟩
    ·exact h.elim
  ·rename_i e x0 x1 y0 y1 hk;split at h
   ·rename_i ed hed;split at h
    ·rename_i h1 h2;obtain ⟨hs,h⟩:=h.out;refine ⟨hs,.inr (.inl ⟨e,hk,ed,hed,Nat.eq_of_beq_eq_true h1,h2,x0,x1,y0,y1,rfl,rfl,?_⟩)⟩;split at h
     ·rename_i b hb;exact ⟨b,J4H hb,hC _ h⟩
     ·exact h.elim
    ·exact h.elim
   ·exact h.elim
  ·rename_i hk;exact ⟨hk,hC _ h⟩
  ·rename_i hk;exact ⟨hk,hC _ h⟩
  ·rename_i hk;exact ⟨hk,hC _ h⟩
  ·rename_i hk;exact ⟨hk,hC _ h⟩
  ·rename_i hk;exact ⟨hk,hC _ h⟩
  ·rename_i hk;exact ⟨⟨_,hk⟩,hC _ h⟩
  ·rename_i hk;exact ⟨⟨_,hk⟩,h.out.1.imp id (hC _),hC _ h.out.2⟩
  ·rename_i hk;exact ⟨⟨_,hk⟩,h.out.1.imp id (hC _),hC _ h.out.2⟩
  ·exact h.elim
 ·exact h.elim
def J7B (len:Nat)(lo hi:Option AV)(C:Nat→Nat→Prop):Prop:=
 match lo,hi with
 |none,none=>C 0 len
 |none,some (.val (.int _ h))=>Need (0≤h∧h≤len) (C 0 h.toNat)
 |some (.val (.int _ l)),none=>Need (0≤l∧l≤len) (C l.toNat len)
 |some (.val (.int _ l)),some (.val (.int _ h))=>Need (0≤l∧l≤h∧h≤len) (C l.toNat h.toNat)
 |_,_=>False
theorem J3j {len:Nat}{lo hi:Option AV}{C C':Nat→Nat→Prop}(hC:∀ a b,C a b→C' a b)(h:J7B len lo hi C):bnds len lo hi C':=by
 unfold J7B at h;unfold bnds;split at h
 ·exact ⟨by simp,by simp,by simp,by simpa using hC _ _ h⟩
 ·obtain ⟨⟨h1,h2⟩,h3⟩:=h.out;exact ⟨by simp,h1,h2,by simpa using hC _ _ h3⟩
 ·obtain ⟨⟨h1,h2⟩,h3⟩:=h.out;exact ⟨h1,h2,by simp,by simpa using hC _ _ h3⟩
 ·obtain ⟨⟨h1,h2,h4⟩,h3⟩:=h.out;exact ⟨h1,h2,h4,hC _ _ h3⟩
 ·exact h.elim
section
variable {P:Program} {T:Nat→Option TD} {H:Hp}
def JAl (T:Nat→Option TD)(t:Nat)(x:AV)(lo hi mx:Option AV)(C:AV→Prop):Prop:=
 match mx with
 |some _=>False
 |none=>match x with
   |.val (.string s)=>match T t with
     |some d=>match d.kind with
       |.str=>J7B s.size lo hi fun l h=>C (.val (.string (s.extract l h)))
       |_=>False
     |none=>False
   |.sl n xs=>J1l T t fun _ ed=>match Nat.beq n ed.size with
     |true=>J7B xs.length lo hi fun l h=>C (.sl n ((xs.take h).drop l))
     |false=>False
   |.val (.slice none 0 0)=>J1l T t fun _ ed=>J7B 0 lo hi fun l h=>C (.val (.slice none 0 0))
   |_=>False
theorem JD8 {t:Nat}{x:AV}{lo hi mx:Option AV}{C:AV→Prop}(h:JAl T t x lo hi mx C):evSlice T t x lo hi mx C:=by
 unfold JAl at h;split at h
 ·exact h.elim
 ·refine ⟨rfl,?_⟩;split at h
  ·split at h
   ·rename_i d hd;split at h
    ·rename_i hk;exact ⟨⟨d,hd,hk⟩,J3j (fun _ _ h=>h) h⟩
    ·exact h.elim
   ·exact h.elim
  ·refine J22 h fun e ed h=>?_;split at h
   ·rename_i hn;exact ⟨Nat.eq_of_beq_eq_true hn,J3j (fun _ _ h=>h) h⟩
   ·exact h.elim
  ·exact J22 h fun e ed h=>J3j (fun _ _ h=>h) h
  ·exact h.elim
def JHO (T:Nat→Option TD)(t:Nat)(x:AV)(C:AV→Prop):Prop:=
 match T t with
 |some d=>match d.kind,x with
   |.str,.val (.string s)=>C (.val (.int .i64 s.size))
   |.slice _,.sl _ xs=>C (.val (.int .i64 xs.length))
   |.slice _,.own _ _ _ len=>C (.val (.int .i64 len))
   |.slice _,.val (.slice none len _)=>C (.val (.int .i64 len))
   |_,_=>False
 |none=>False
theorem JC2 {t:Nat}{x:AV}{C:AV→Prop}(h:JHO T t x C):evLen T t x C:=by
 unfold JHO at h;unfold evLen;split at h
 ·rename_i d hd;refine ⟨d,hd,?_⟩;split at h
  ·rename_i hk;exact ⟨hk,h⟩
  ·rename_i hk;exact ⟨⟨_,hk⟩,h⟩
  ·rename_i hk;exact ⟨⟨_,hk⟩,h⟩
  ·rename_i hk;exact ⟨⟨_,hk⟩,h⟩
  ·exact h.elim
 ·exact h.elim
def cvUn (op:UnOp)(x:AV)(C:AV→Prop):Prop:=
 match op,x with
 |.neg,.val (.int k n)=>Need (J5U k≤-n∧-n≤J2Z k) (C (.val (.int k (-n))))
 |.not,.val (.bool b)=>C (.val (.bool (!b)))
 |_,_=>False
theorem JFG {op:UnOp}{x:AV}{C:AV→Prop}(h:cvUn op x C):evUn op x C:=by
 unfold cvUn at h;unfold evUn;split at h
 ·obtain ⟨⟨h1,h2⟩,h3⟩:=h.out;simp only[Int.zero_sub];rw[J40 _ _ h1 h2];exact h3
 ·exact h
 ·exact h.elim
def JC4 (T:Nat→Option TD)(src dst:Nat)(x:AV)(C:AV→Prop):Prop:=
 match T dst,T src with
 |some d,some e=>match d.kind,e.kind,x with
   |.int k,.int _,.val (.int _ n)=>Need (J5U k≤n∧n≤J2Z k) (C (.val (.int k n)))
   |.str,.str,.val (.string s)=>C (.val (.string s))
   |.str,.int _,.val (.int _ n)=>C (.val (.string (runeS n)))
   |.str,.slice t,.sl 1 xs=>match T t with
     |some k=>match k.kind with
       |.int .u8=>BytesP xs fun l=>C (.val (.string ⟨l.toArray⟩))
       |_=>False
     |none=>False
   |_,_,_=>False
 |_,_=>False
theorem J9R {s t:Nat}{x:AV}{C:AV→Prop}(h:JC4 T s t x C):evConv T s t x C:=by
 unfold JC4 at h;unfold evConv;split at h
 ·rename_i d e hd he;refine ⟨d,e,hd,he,?_⟩;split at h
  ·rename_i hk hj;obtain ⟨⟨h1,h2⟩,h3⟩:=h.out;exact ⟨_,hj,by simp only[hk];rw[J40 _ _ h1 h2];exact h3⟩
  ·rename_i hk hj;exact ⟨hk,hj,h⟩
  ·rename_i hk hj;exact ⟨_,hj,by simp only[hk];exact h⟩
  ·rename_i hk hj;split at h
   ·rename_i hk2;split at h
    ·rename_i hk3;exact ⟨hk,⟨_,_,hj,hk2,hk3⟩,h⟩
    ·exact h.elim
   ·exact h.elim
  ·exact h.elim
 ·exact h.elim
def JHP (P:Program)(T:Nat→Option TD)(op:BinOp)(t:Nat)(x y:AV)(C:AV→Prop):Prop:=
 match x with
 |.val (.int k a)=>match y with
   |.val (.int k' b)=>match op with
     |.shl=>Need (0≤b) (C (.val (.int k (k.wrap (a*2 ^ min b.toNat k.bits)))))
     |.shr=>Need (0≤b) (C (.val (.int k (shrI k a b))))
     |op=>match decide (k=k') with
       |true=>JFR op k a b fun v=>C (.val v)
       |false=>False
   |_=>False
 |.val (.string a)=>match y with
   |.val (.string b)=>JFP op a b fun v=>C (.val v)
   |_=>False
 |x=>match op with
   |.eql=>cvEq P T t x y fun b=>C (.val (.bool b))
   |.neq=>cvEq P T t x y fun b=>C (.val (.bool (!b)))
   |_=>False
theorem JC5 {op:BinOp}{t:Nat}{x y:AV}{C:AV→Prop}(h:JHP P T op t x y C):J3a P T op t x y C:=by
 unfold JHP at h;split at h
 ·split at h
  ·unfold J3a;simp only;split at h
   ·rw[if_pos (.inl rfl)];exact h.out
   ·rw[if_pos (.inr rfl)];unfold shrI at h;exact h.out
   ·rename_i h1 h2;rw[if_neg (fun h=>h.elim h1 h2)];split at h
    ·rename_i hk;exact ⟨of_decide_eq_true hk,JFQ h⟩
    ·exact h.elim
  ·exact h.elim
 ·split at h
  ·exact JFO h
  ·exact h.elim
 ·rename_i h1 h2
  have key:(op=.eql∨op=.neq)∧evEq P T t x y fun b=>C (.val (.bool (if op=.eql then b else !b))):=by
   split at h
   ·exact ⟨.inl rfl,JFN (fun b h=>by simpa using h) h⟩
   ·exact ⟨.inr rfl,JFN (fun b h=>by simpa using h) h⟩
   ·exact h.elim
  unfold J3a;split
  ·exact absurd rfl (h1 _ _)
  ·exact absurd rfl (h2 _)
  ·exact key
def J87 (T:Nat→Option TD)(t:Nat)(parts:List (Nat×AV))(C:AV→Prop):Prop:=
 match T t with
 |some d=>match d.kind with
   |.struct fs=>match J3C T fs with
     |some ps=>match J4F (fun i=>ps[i]?) (d.zero.map .val) parts with
       |some cs=>C (.agg cs)
       |none=>False
     |none=>False
   |.array _ e=>match T e with
     |some ed=>match J4F (fun i=>some (i*ed.size,ed.size)) (d.zero.map .val) parts with
       |some cs=>C (.agg cs)
       |none=>False
     |none=>False
   |_=>False
 |none=>False
theorem J7A {t:Nat}{parts:List (Nat×AV)}{C:AV→Prop}(h:J87 T t parts C):evBuild T t parts C:=by
 unfold J87 at h;unfold evBuild;split at h
 ·rename_i d hd;refine ⟨d,hd,?_⟩;split at h
  ·rename_i hk;simp only[hk];split at h
   ·rename_i ps hps;split at h
    ·rename_i cs hcs;exact ⟨ps,hps,cs,hcs,h⟩
    ·exact h.elim
   ·exact h.elim
  ·rename_i hk;simp only[hk];split at h
   ·rename_i ed hed;split at h
    ·rename_i cs hcs;exact ⟨ed,hed,cs,hcs,h⟩
    ·exact h.elim
   ·exact h.elim
  ·exact h.elim
 ·exact h.elim
def JC1 (T:Nat→Option TD)(t d γ:Nat)(l c:AV)(C:AV→Up→Prop):Prop:=
 match l,c with
 | .val (.int _ l),.val (.int _ c)=>J1l T t fun e ed=>Need (0≤l∧l≤c∧(ed.bytes:Int)*c≤281474976710656∧c≤9223372036854775807)
  (C (.own d γ 0 l.toNat) (some (d,γ,⟨e,ed.size,List.replicate l.toNat (mkEl ed)⟩)))
 |_,_=>False
theorem J9P {t d γ:Nat}{l c:AV}{C:AV→Up→Prop}(h:JC1 T t d γ l c C):evMake T t d γ l c C:=by
 unfold JC1 at h;unfold evMake;split at h
 ·exact (J21 h).mono fun e ed h=>by
   obtain ⟨⟨h1,h2,h3,h4⟩,h5⟩:=h.out;exact ⟨h1,h2,h3,h4,h5⟩
 ·exact h.elim
def J5M (n:Nat):Nat→List (Nat×AV)→Bool
 |_,[]=>true
 |i,p::r=>Nat.beq p.1 i&&J2K p.2&&Nat.beq p.2.cells.length n&&J5M n (i+1) r
theorem J49 (n:Nat):∀ (l:List (Nat×AV)) (i:Nat),J5M n i l=true→l.map Prod.fst=List.range' i l.length∧∀ p∈l,J2K p.2=true∧p.2.cells.length=n
 |[],i,_=>⟨rfl,fun p hp=>absurd hp (by simp)⟩
 |p :: r,i,h=>by
   unfold J5M at h;simp only[Bool.and_eq_true] at h;obtain ⟨⟨⟨h1,h2⟩,h3⟩,h4⟩:=h;obtain ⟨k1,k2⟩:=J49 n r (i+1) h4;refine ⟨?_,fun q hq=>?_⟩
   ·simp[List.range'_succ,k1,Nat.eq_of_beq_eq_true h1]
   ·rcases List.mem_cons.1 hq with rfl | hq
    ·exact ⟨h2,Nat.eq_of_beq_eq_true h3⟩
    ·exact k2 q hq
def J2g (T:Nat→Option TD)(t d γ len:Nat)(l:List (Nat×AV))(C:AV→Up→Prop):Prop:=
 J1l T t fun e ed=>match J5M ed.size 0 l,Nat.beq l.length len,Nat.ble (len*ed.size) 16777216 with
  |true,true,true=>C (.own d γ 0 len) (some (d,γ,⟨e,ed.size,l.map Prod.snd⟩))
  |_,_,_=>False
theorem J2f {t d γ len:Nat}{l:List (Nat×AV)}{C:AV→Up→Prop}(h:J2g T t d γ len l C):evBuildSlice T t d γ len l C:=by
 refine (J21 h).mono fun e ed h=>?_;split at h
 ·rename_i h1 h2 h3;obtain ⟨k1,k2⟩:=J49 _ _ _ h1;exact ⟨k1,Nat.eq_of_beq_eq_true h2,k2,Nat.le_of_ble_eq_true h3,h⟩
 ·exact h.elim
def J1y:List AV→Bool
 |[]=>true
 |.agg _::_=>false
 |_::r=>J1y r
theorem J2a:∀ (l:List AV),J1y l=true→∀ c∈l,c.cells=[c]
 |[],_,c,hc=>absurd hc (by simp)
 |x :: r,h,c,hc=>by
   have:(∀ cs,x≠.agg cs)∧J1y r=true:=by
    cases x<;>simp[J1y] at h ⊢<;>exact h
   rcases List.mem_cons.1 hc with rfl|hc
   ·cases c<;>first|rfl|exact absurd rfl (this.1 _)
   ·exact J2a r this.2 c hc
def J81 (T:Nat→Option TD)(H:Hp)(t:Nat)(p x:AV)(C:Up→Prop):Prop:=
 match p with
 |.op b g i k=>match T t with
   |some d=>match J2K x,Nat.beq x.cells.length d.size,J1y x.cells with
     |true,true,true=>match H b with
       |some (g',B)=>match Nat.ble (k+d.size) B.n with
         |true=>Need (g'=g∧i<B.xs.length) (fv (B.xs.getD i .dead) fun y=>fv (J5D y k x) fun z=>C (some (b,g',{ B with xs:=B.xs.set i z })))
         |false=>False
       |none=>False
     |_,_,_=>False
   |none=>False
 |_=>False
theorem J75 {t:Nat}{p x:AV}{C:Up→Prop}(h:J81 T H t p x C):evStore T H t p x C:=by
 unfold J81 at h;unfold evStore;split at h
 ·split at h
  ·rename_i d hd;split at h
   ·rename_i h1 h2 h3;split at h
    ·rename_i g' B hB;split at h
     ·rename_i h4;have hq:=h.out;simp only[J5e] at hq;obtain ⟨⟨rfl,h5⟩,h6⟩:=hq;exact ⟨d,hd,h1,Nat.eq_of_beq_eq_true h2,B,hB,h5,Nat.le_of_ble_eq_true h4,J2a _ h3,h6⟩
     ·exact h.elim
    ·exact h.elim
   ·exact h.elim
  ·exact h.elim
 ·exact h.elim
def JFM (b:Bool)(k:IntKind)(x:Int)(l:List AV)(C:AV→Prop):Prop:=
 match l with
 |[]=>C (.val (.int k x))
 |.val (.int _ y)::r=>match b with
   |true=>JFM true k (max x y) r C
   |false=>JFM false k (min x y) r C
 |_=>False
theorem JHN {b:Bool}{k:IntKind}{C:AV→Prop}(l:List AV):∀ {x:Int},JFM b k x l C→∃ z,mmF b x l=some z∧C (.val (.int k z)):=by
 induction l with
 |nil=>intro x h;exact ⟨x,rfl,h⟩
 |cons y r ih=>
   intro x h;unfold JFM at h;split at h
   ·rename_i e;cases e
   ·rename_i e;cases e;cases b<;>exact ih h
   ·exact h.elim
def cvMM (b:Bool)(l:List AV)(C:AV→Prop):Prop:=
 match l with
 |.val (.int k x)::r=>JFM b k x r C
 |_=>False
theorem J83 {b:Bool}{l:List AV}{C:AV→Prop}(h:cvMM b l C):evMM b l C:=by
 unfold cvMM at h;unfold evMM;split at h
 ·exact JHN _ h
 ·exact h.elim
def JHM (H:Hp)(n:Nat)(y:AV)(C:List AV→Prop):Prop:=
 match y with
 |.sl m ys=>match Nat.beq m n with
   |true=>C ys
   |false=>False
 |.own b g off len=>match H b with
   |some (g',B)=>match Nat.beq B.n n with
     |true=>Need (g'=g∧off+len≤B.xs.length) (C ((B.xs.drop off).take len))
     |false=>False
   |none=>False
 |.val (.slice none 0 0)=>C []
 |_=>False
theorem JBz {n:Nat}{y:AV}{C C':List AV→Prop}(hC:∀ l,C l→C' l)(h:JHM H n y C):srcOf H n y C':=by
 unfold JHM at h;unfold srcOf;split at h
 ·split at h
  ·rename_i hm;exact ⟨Nat.eq_of_beq_eq_true hm,hC _ h⟩
  ·exact h.elim
 ·split at h
  ·rename_i g' B hB;split at h
   ·rename_i hm;have hq:=h.out;obtain ⟨⟨rfl,h1⟩,h2⟩:=hq;exact ⟨B,hB,Nat.eq_of_beq_eq_true hm,h1,hC _ h2⟩
   ·exact h.elim
  ·exact h.elim
 ·exact hC _ h
 ·exact h.elim
def J4v (T:Nat→Option TD)(H:Hp)(t d γ:Nat)(x y:AV)(C:AV→Up→Prop):Prop:=
 J1l T t fun e ed=>JHM H ed.size y fun ys=>
  match x with
  |.own b g 0 len=>match H b with
    |some (g',B)=>match Nat.beq B.n ed.size,Nat.beq B.e e with
      |true,true=>Need (g'=g∧len=B.xs.length∧(B.xs.length+ys.length)*ed.bytes≤140737488355328∧0<ed.bytes) (C (.own b γ 0 (len+ys.length)) (some (b,γ,⟨e,ed.size,B.xs++ys⟩)))
      |_,_=>False
    |none=>False
  |.val (.slice none 0 0)=>Need (ys.length*ed.bytes≤140737488355328∧0<ed.bytes) (C (.own d γ 0 ys.length) (some (d,γ,⟨e,ed.size,ys⟩)))
  |.fu n xs=>match Nat.beq n ed.size with
    |true=>Need (VL ys) (Need ((xs.length+ys.length)*ed.bytes≤140737488355328∧0<ed.bytes) (C (.sl n (xs++ys)) none))
    |false=>False
  |_=>False
theorem J5X {a b:Nat}(h:a*b≤140737488355328)(hb:0<b):a≤9223372036854775807:=by
 have:=Nat.le_mul_of_pos_right a hb;omega
theorem J68 {t d γ:Nat}{x y:AV}{C:AV→Up→Prop}(h:J4v T H t d γ x y C):evAppend T H t d γ x y C:=by
 unfold J4v at h;refine (J21 h).mono fun e ed h=>JBz (fun ys h=>?_) h;split at h
 ·simp only;split at h
  ·rename_i g' B hB;split at h
   ·rename_i h1 h2;have hq:=h.out;obtain ⟨⟨rfl,rfl,h3,h4⟩,h5⟩:=hq;refine ⟨B,hB,Nat.eq_of_beq_eq_true h1,Nat.eq_of_beq_eq_true h2,Nat.le_refl _,J5X h3 h4,h3,?_⟩;rw[List.take_length];exact h5
   ·exact h.elim
  ·exact h.elim
 ·simp only;obtain ⟨⟨h3,h4⟩,h5⟩:=h.out;exact ⟨J5X h3 h4,h3,h5⟩
 ·simp only;split at h
  ·rename_i hn;obtain ⟨h1,h2⟩:=h.out;obtain ⟨⟨h3,h4⟩,h5⟩:=h2.out;have hn:=Nat.eq_of_beq_eq_true hn;subst hn;exact ⟨rfl,h1,J5X h3 h4,h3,h5⟩
  ·exact h.elim
 ·exact h.elim
def J4r (P:Program)(T:Nat→Option TD)(t:Nat)(x:AV)(lo hi mx:Option AV)(C:AV→Prop):Prop:=
 match lo with
 |some _=>False
 |none=>match x with
   |.sl n xs=>match hi with
     |some (.val (.int _ i))=>match mx with
       |some (.val (.int _ j))=>J1l T t fun _ ed=>match Nat.beq n ed.size with
         |true=>Need (i=j∧0≤i∧i≤xs.length) (C (.fu n (xs.take i.toNat)))
         |false=>False
       |_=>False
     |_=>False
   |.ep (.agg cs) 0=>match hi with
     |none=>match mx with
       |none=>Need (ArrP P t cs.length) (C (.sl 1 cs))
       |some _=>False
     |some _=>False
   |_=>False
theorem J61 {t:Nat}{x:AV}{lo hi mx:Option AV}{C:AV→Prop}(h:J4r P T t x lo hi mx C):evSliceF P T t x lo hi mx C:=by
 unfold J4r at h;unfold evSliceF;split at h
 ·exact h.elim
 ·split at h
  ·split at h
   ·split at h
    ·simp only;refine J22 h fun e ed h=>?_;split at h
     ·rename_i hn;obtain ⟨⟨h1,h2,h3⟩,h4⟩:=h.out;exact ⟨Nat.eq_of_beq_eq_true hn,h1,h2,h3,h4⟩
     ·exact h.elim
    ·exact h.elim
   ·exact h.elim
  ·split at h
   ·split at h
    ·exact h.out
    ·exact h.elim
   ·exact h.elim
  ·exact h.elim
def J4s (P:Program)(T:Nat→Option TD)(H:Hp)(t:Nat)(x:AV)(lo hi mx:Option AV)(C:AV→Prop):Prop:=
 match x with
 |.own b g off len=>match mx with
   |none=>J1l T t fun _ ed=>match H b with
     |some (g',B)=>match Nat.beq B.n ed.size with
       |true=>Need (g'=g) (J7B len lo hi fun l h=>Need (l<len) (C (.own b g (off+l) (h-l))))
       |false=>False
     |none=>False
   |some _=>False
 |.ep y k=>J4r P T t (.ep y k) lo hi mx C
 |x=>match mx with
   |some m=>J4r P T t x lo hi (some m) C
   |none=>JAl T t x lo hi none C
theorem J62 {t:Nat}{x:AV}{lo hi mx:Option AV}{C:AV→Prop}(h:J4s P T H t x lo hi mx C):evSliceA P T H t x lo hi mx C:=by
 unfold J4s at h;unfold evSliceA;split at h
 ·rename_i b g off len;split at h
  ·refine ⟨rfl,J22 h fun e ed h=>?_⟩;split at h
   ·rename_i g' B hB;split at h
    ·rename_i hn;obtain ⟨h0,h4⟩:=h.out;subst h0;exact ⟨B,hB,Nat.eq_of_beq_eq_true hn,J3j (fun _ _ h=>h.out) h4⟩
    ·exact h.elim
   ·exact h.elim
  ·exact h.elim
 ·exact .inr (J61 h)
 ·rename_i hx hy;split at h
  ·cases x<;>first|exact .inr (J61 h)|exact (hx _ _ _ _ rfl).elim
  ·cases x<;>first|exact .inl (JD8 h)|exact (hx _ _ _ _ rfl).elim
def JC3 (T:Nat→Option TD)(H:Hp)(t:Nat)(x y:AV)(C:AV→Up→Prop):Prop:=
 match x with
 |.own b g off len=>J1l T t fun _ ed=>match Nat.beq ed.size 1,H b with
   |true,some (g',B)=>match Nat.beq B.n 1 with
     |true=>Need (g'=g∧off+len≤B.xs.length) (JHM H 1 y fun ys=>CondP (decide (0<min ys.length len)) (C (.val (.int .i64 (min ys.length len:Nat))) (some (b,g',spl B off (ys.take len)))) (C (.val (.int .i64 0)) none))
     |false=>False
   |_,_=>False
 |_=>False
theorem J9Q {t:Nat}{x y:AV}{C:AV→Up→Prop}(h:JC3 T H t x y C):evCopy T H t x y C:=by
 unfold JC3 at h;unfold evCopy;split at h
 ·refine (J21 h).mono fun e ed h=>?_;split at h
  ·rename_i g' B h1 hB;split at h
   ·rename_i hn;obtain ⟨⟨h0,h3⟩,h4⟩:=h.out;subst h0;exact ⟨Nat.eq_of_beq_eq_true h1,B,hB,Nat.eq_of_beq_eq_true hn,h3,JBz (fun ys h=>⟨fun q=>h.out.1 (decide_eq_true q),fun q=>h.out.2 (decide_eq_false q)⟩) h4⟩
   ·exact h.elim
  ·exact h.elim
 ·exact h.elim
def JAs (T:Nat→Option TD)(H:Hp)(t:Nat)(x:AV)(C:AV→Up→Prop):Prop:=
 match x with
 |.own b g off len=>J1l T t fun _ ed=>match Nat.beq ed.size 1,H b with
   |true,some (g',B)=>match Nat.beq B.n 1 with
     |true=>Need (g'=g∧0<len∧off+len≤B.xs.length) (C (.tup []) (some (b,g',spl B off (List.replicate len (mkEl ed)))))
     |false=>False
   |_,_=>False
 |_=>False
theorem JDE {t:Nat}{x:AV}{C:AV→Up→Prop}(h:JAs T H t x C):J3H T H t x C:=by
 unfold JAs at h;unfold J3H;split at h
 ·refine (J21 h).mono fun e ed h=>?_;split at h
  ·rename_i g' B h1 hB;split at h
   ·rename_i hn;obtain ⟨⟨h0,h2,h3⟩,h4⟩:=h.out;subst h0;exact ⟨Nat.eq_of_beq_eq_true h1,B,hB,Nat.eq_of_beq_eq_true hn,h2,h3,h4⟩
   ·exact h.elim
  ·exact h.elim
 ·exact h.elim
end
end Go.Fw
