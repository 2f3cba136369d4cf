/- Part 49 of the proof. -/
import Derived.Test.YtlblbldolhiokaaGreatDoorDual45
import Derived.Lib.Bytealg
import Derived.RangeFuncBox
import Derived.RangeFuncLeaves
import Derived.RangeFuncNested
import Derived.RangeFuncBound
import Derived.RangeFuncCalls
import Derived.Shelf.Abstract
import Derived.Shelf.RegionOpen
import Derived.WalkKit
import Derived.OwnWalkIn
import Derived.TacticsInMore
import Derived.LoopNIn
import Derived.LoopIn
import Derived.BigFrameIn
set_option linter.unusedVariables false
set_option linter.unusedSimpArgs false
set_option linter.unusedSectionVars false
set_option maxRecDepth 100000
set_option exponentiation.threshold 400
set_option maxHeartbeats 8000000
namespace Go.Fw
def vl (b:Nat):List Nat→Nat
 |[]=>0
 |d::r=>d+b*vl b r
def dg (b n:Nat):List Nat:=if _h:1<b∧0<n then n%b::dg b (n/b) else []
termination_by n
decreasing_by exact Nat.div_lt_self _h.2 _h.1
theorem J1S (b:Nat):dg b 0=[]:=by unfold dg;simp
theorem J5u {b n:Nat}(hb:1<b)(hn:0<n):dg b n=n%b::dg b (n/b):=by rw[dg,dif_pos ⟨hb,hn⟩]
theorem J17 {b:Nat}(hb:1<b)(n:Nat):vl b (dg b n)=n:=by
 induction n using Nat.strongRecOn with
 |ind n ih=>
   by_cases hn:0<n
   ·rw[J5u hb hn,vl,ih _ (Nat.div_lt_self hn hb)];exact Nat.mod_add_div n b
   ·rw[show n=0 by omega,J1S];rfl
def Dig (b:Nat)(l:List Nat):Prop:=∀ d∈l,d<b
theorem Dig.nil {b:Nat}:Dig b []:=fun _ h=>by cases h
theorem Dig.cons {b d:Nat}{l:List Nat}(h:d<b)(h':Dig b l):Dig b (d::l):=fun x hx=>by
 rcases List.mem_cons.1 hx with rfl|hx
 ·exact h
 ·exact h' x hx
theorem Dig.hd {b d:Nat}{l:List Nat}(h:Dig b (d::l)):d<b:=h d (by simp)
theorem Dig.tl {b d:Nat}{l:List Nat}(h:Dig b (d::l)):Dig b l:=fun x hx=>h x (by simp[hx])
theorem Dig.app {b:Nat}{l r:List Nat}(h:Dig b l)(h':Dig b r):Dig b (l++r):=fun x hx=>by
 rcases List.mem_append.1 hx with hx|hx
 ·exact h x hx
 ·exact h' x hx
theorem Dig.take {b:Nat}{l:List Nat}(h:Dig b l)(n:Nat):Dig b (l.take n):=fun x hx=>h x (List.mem_of_mem_take hx)
theorem Dig.drop {b:Nat}{l:List Nat}(h:Dig b l)(n:Nat):Dig b (l.drop n):=fun x hx=>h x (List.mem_of_mem_drop hx)
theorem Dig.set {b:Nat}{l:List Nat}(h:Dig b l)(i:Nat){d:Nat}(hd:d<b):Dig b (l.set i d):=fun x hx=>by
 rcases List.mem_or_eq_of_mem_set hx with h'|h'
 ·exact h x h'
 ·rw[h'];exact hd
theorem JJp {b:Nat}(hb:0<b)(n:Nat):Dig b (List.replicate n 0):=fun x hx=>by rw[List.eq_of_mem_replicate hx];exact hb
theorem Dig.get {b:Nat}{l:List Nat}(h:Dig b l)(i:Nat)(hi:i<l.length):l[i]<b:=h _ (List.getElem_mem hi)
theorem J0I {b:Nat}(hb:1<b)(n:Nat):Dig b (dg b n):=by
 induction n using Nat.strongRecOn with
 |ind n ih=>
   by_cases hn:0<n
   ·rw[J5u hb hn];exact Dig.cons (Nat.mod_lt _ (by omega)) (ih _ (Nat.div_lt_self hn hb))
   ·rw[show n=0 by omega,J1S];exact Dig.nil
theorem J54 (b:Nat):∀ (l r:List Nat),vl b (l++r)=vl b l+b ^ l.length*vl b r
 |[],r=>by simp[vl]
 |d::l,r=>by
   simp only[List.cons_append,vl,J54 b l r,List.length_cons,Nat.pow_succ]
   grind
theorem JK0 (b n:Nat):vl b (List.replicate n 0)=0:=by
 induction n with
 |zero=>rfl
 |succ n ih=>simp[List.replicate_succ,vl,ih]
theorem J8Q {b:Nat}:∀ {l:List Nat},Dig b l→vl b l<b ^ l.length
 |[],_=>by simp[vl]
 |d::l,h=>by
   have h1:=J8Q h.tl;have h2:=h.hd;simp only[vl,List.length_cons,Nat.pow_succ];have:b*(vl b l+1)≤b*b ^ l.length:=Nat.mul_le_mul_left b h1
   grind
def trimF:List Nat→List Nat
 |[]=>[]
 |d::r=>match trimF r with
   |[]=>if d=0 then [] else [d]
   |x=>d::x
theorem J1h {b:Nat}(hb:1<b):∀ {l:List Nat},Dig b l→trimF l=dg b (vl b l)
 |[],_=>by simp[trimF,vl,J1S]
 |d :: r,h=>by
   have ih:=J1h hb h.tl;have hd:=h.hd
   by_cases h0:d+b*vl b r=0
   ·have h1:d=0:=by omega
    have h2:vl b r=0:=by
     rcases Nat.eq_zero_or_pos (vl b r) with h|h
     ·exact h
     ·have:=Nat.mul_pos (show 0<b by omega) h;omega
    simp only[trimF,ih,vl,h1,h2,J1S,Nat.mul_zero,Nat.add_zero,if_true]
   ·simp only[vl];rw[J5u hb (by omega),Nat.add_mul_mod_self_left,Nat.mod_eq_of_lt hd,Nat.add_mul_div_left _ _ (by omega),Nat.div_eq_of_lt hd,Nat.zero_add];simp only[trimF,ih]
    by_cases h2:vl b r=0
    ·rw[h2,J1S];simp only;rw[h2] at h0;rw[if_neg (by omega)]
    ·rw[J5u hb (by omega)]
theorem J6W:∀ (l:List Nat),trimF l=l.take (trimF l).length
 |[]=>rfl
 |d::r=>by
   have ih:=J6W r;simp only[trimF]
   cases h:trimF r with
   |nil=>by_cases h0:d=0<;>simp[h0]
   |cons x y=>rw[h] at ih;simp only[List.length_cons,List.take_succ_cons];rw[ih];simp
theorem JDv (l:List Nat):(trimF l).length≤l.length:=by
 rw[J6W l];simp;omega
theorem JCV (l:List Nat)(d:Nat):trimF (l++[d])=if d=0 then trimF l else l++[d]:=by
 induction l with
 |nil=>by_cases h:d=0<;>simp[trimF,h]
 |cons x l ih=>
   simp only[List.cons_append,trimF,ih]
   by_cases h:d=0
   ·simp[h]
   ·simp only[if_neg h];cases l<;>simp
theorem J9K {b:Nat}(hb:1<b){l:List Nat}(h:Dig b l):(dg b (vl b l)).length≤l.length:=by rw[← J1h hb h];exact JDv l
theorem J5w {b:Nat}(hb:1<b)(n:Nat):dg b n=[]↔n=0:=by
 constructor
 ·intro h;have:=J17 hb n;rw[h] at this;exact this.symm
 ·rintro rfl;exact J1S b
theorem J9I {b:Nat}(hb:1<b)(n:Nat):n<b ^ (dg b n).length:=by have:=J8Q (J0I hb n);rwa [J17 hb] at this
theorem JKY {b:Nat}(hb:1<b):∀ n:Nat,0<n→b ^ ((dg b n).length-1)≤n:=by
 intro n
 induction n using Nat.strongRecOn with
 |ind n ih=>
   intro hn;rw[J5u hb hn,List.length_cons,Nat.add_sub_cancel]
   by_cases h:0<n/b
   ·have:=ih _ (Nat.div_lt_self hn hb) h;have h1:(dg b (n/b)).length≠0:=fun e=>by have:=(J5w hb _).1 (List.length_eq_zero_iff.1 e);omega
    rw[show (dg b (n/b)).length=(dg b (n/b)).length-1+1 by omega,Nat.pow_succ];have h2:n/b*b≤n:=Nat.div_mul_le_self n b;exact Nat.le_trans (Nat.mul_le_mul_right b this) h2
   ·rw[Nat.eq_zero_of_not_pos h,J1S];simp;omega
theorem J1A {b:Nat}(hb:1<b){n k:Nat}(h:n<b ^ k):(dg b n).length≤k:=by
 by_cases hn:0<n
 ·have h1:=JKY hb n hn;have:b ^ ((dg b n).length-1)<b ^ k:=Nat.lt_of_le_of_lt h1 h;have:=(Nat.pow_lt_pow_iff_right hb).1 this;omega
 ·rw[show n=0 by omega,J1S];simp
theorem J0q {b:Nat}(hb:1<b){m n:Nat}(h:m≤n):(dg b m).length≤(dg b n).length:=J1A hb (Nat.lt_of_le_of_lt h (J9I hb n))
theorem JHy {b:Nat}:∀ {l r:List Nat},Dig b l→Dig b r→l.length=r.length→vl b l=vl b r→l=r
 |[],[],_,_,_,_=>rfl
 |d::l,e::r,h,k,hl,hv=>by
   simp only[vl] at hv;have hd:=h.hd;have he:=k.hd;have h1:(d+b*vl b l)%b=(e+b*vl b r)%b:=by rw[hv]
   rw[Nat.add_mul_mod_self_left,Nat.add_mul_mod_self_left,Nat.mod_eq_of_lt hd,Nat.mod_eq_of_lt he] at h1;subst h1;have h2:b*vl b l=b*vl b r:=by omega
   have h3:=Nat.eq_of_mul_eq_mul_left (by omega) h2;rw[JHy h.tl k.tl (by simpa using hl) h3]
theorem JKW {b:Nat}(hb:1<b){m n:Nat}(h:dg b m=dg b n):m=n:=by rw[← J17 hb m,h,J17 hb]
theorem J5v {b n:Nat}(hb:1<b)(h0:0<n)(h:n<b):dg b n=[n]:=by
 rw[J5u hb h0,Nat.mod_eq_of_lt h,Nat.div_eq_of_lt h,J1S]
def addC (b:Nat):Nat→List Nat→List Nat→List Nat
 |c,[],_=>[c]
 |c,x::xs,[]=>(x+c)%b::addC b ((x+c)/b) xs []
 |c,x::xs,y::ys=>(x+c+y)%b::addC b ((x+c+y)/b) xs ys
theorem J8B {b:Nat}:∀ (xs ys:List Nat) (c:Nat),ys.length≤xs.length→vl b (addC b c xs ys)=c+vl b xs+vl b ys
 |[],[],c,_=>by simp[addC,vl]
 |[],_::_,c,h=>by simp at h
 |x::xs,[],c,h=>by
   simp only[addC,vl,J8B xs [] _ (by simp)];have:=Nat.mod_add_div (x+c) b
   grind
 |x::xs,y::ys,c,h=>by
   simp only[addC,vl,J8B xs ys _ (by simpa using h)];have:=Nat.mod_add_div (x+c+y) b
   grind
theorem J4w {b:Nat}(hb:1<b):∀ (xs ys:List Nat) (c:Nat),c≤1→Dig b xs→Dig b ys→Dig b (addC b c xs ys)
 |[],_,c,h,_,_=>Dig.cons (by omega) Dig.nil
 |x::xs,[],c,h,hx,hy=>by
   have:=hx.hd;exact Dig.cons (Nat.mod_lt _ (by omega)) (J4w hb xs [] _ (by have:(x+c)/b<2:=Nat.div_lt_of_lt_mul (by omega);omega) hx.tl hy)
 |x::xs,y::ys,c,h,hx,hy=>by
   have:=hx.hd;have:=hy.hd;exact Dig.cons (Nat.mod_lt _ (by omega)) (J4w hb xs ys _ (by have:(x+c+y)/b<2:=Nat.div_lt_of_lt_mul (by omega);omega) hx.tl hy.tl)
theorem J8C (b:Nat):∀ (xs ys:List Nat) (c:Nat),(addC b c xs ys).length=xs.length+1
 |[],_,c=>rfl
 |x::xs,[],c=>by simp[addC,J8C b xs []]
 |x::xs,y::ys,c=>by simp[addC,J8C b xs ys]
def subC (b:Nat):Nat→List Nat→List Nat→List Nat
 |_,[],_=>[]
 |c,x::xs,[]=>(if x<c then x+b-c else x-c)::subC b (if x<c then 1 else 0) xs []
 |c,x::xs,y::ys=>(if x<c+y then x+b-(c+y) else x-(c+y))::subC b (if x<c+y then 1 else 0) xs ys
theorem J1i (b:Nat):∀ (xs ys:List Nat) (c:Nat),(subC b c xs ys).length=xs.length
 |[],_,c=>rfl
 |x::xs,[],c=>by simp[subC,J1i b xs []]
 |x::xs,y::ys,c=>by simp[subC,J1i b xs ys]
theorem J1j {b:Nat}(hb:1<b):∀ (xs ys:List Nat) (c:Nat),c≤1→Dig b xs→Dig b ys→Dig b (subC b c xs ys)
 |[],_,c,h,_,_=>Dig.nil
 |x::xs,[],c,h,hx,hy=>by
   have:=hx.hd;exact Dig.cons (by split<;>omega) (J1j hb xs [] _ (by split<;>omega) hx.tl hy)
 |x::xs,y::ys,c,h,hx,hy=>by
   have:=hx.hd;have:=hy.hd;exact Dig.cons (by split<;>omega) (J1j hb xs ys _ (by split<;>omega) hx.tl hy.tl)
theorem J59 {b:Nat}(hb:1<b):∀ (xs ys:List Nat) (c:Nat),c≤1→Dig b xs→Dig b ys→ys.length≤xs.length→c+vl b ys≤vl b xs→vl b (subC b c xs ys)+(c+vl b ys)=vl b xs
 |[],[],c,h,_,_,_,hv=>by simp[subC,vl] at hv ⊢;omega
 |[],_::_,c,_,_,_,h,_=>by simp at h
 |x :: xs,[],c,h,hx,hy,hl,hv=>by
   simp only[vl] at hv;simp only[subC]
   by_cases hc:x<c
   ·simp only[if_pos hc,vl]
    have hp:0<vl b xs:=by
     rcases Nat.eq_zero_or_pos (vl b xs) with h|h
     ·rw[h] at hv;omega
     ·exact h
    have ih:=J59 hb xs [] 1 (by omega) hx.tl Dig.nil (by simp) (by simp only[vl];omega);simp only[vl] at ih;have e:b*(vl b (subC b 1 xs [])+1)=b*vl b xs:=by rw[← ih]
    rw[Nat.mul_add] at e;omega
   ·simp only[if_neg hc,vl];have ih:=J59 hb xs [] 0 (by omega) hx.tl Dig.nil (by simp) (by simp[vl]);simp only[vl] at ih;rw[Nat.add_zero] at ih;rw[ih];omega
 |x :: xs,y::ys,c,h,hx,hy,hl,hv=>by
   simp only[vl] at hv;have hxb:=hx.hd;have hyb:=hy.hd;simp only[subC]
   by_cases hc:x<c+y
   ·simp only[if_pos hc,vl]
    have hp:1+vl b ys≤vl b xs:=by
     rcases Nat.lt_or_ge (vl b ys) (vl b xs) with h|h
     ·omega
     ·have:=Nat.mul_le_mul_left b h;omega
    have ih:=J59 hb xs ys 1 (by omega) hx.tl hy.tl (by simpa using hl) hp;have e:b*(vl b (subC b 1 xs ys)+(1+vl b ys))=b*vl b xs:=by rw[← ih]
    rw[Nat.mul_add,Nat.mul_add] at e;omega
   ·simp only[if_neg hc,vl]
    have hp:0+vl b ys≤vl b xs:=by
     rcases Nat.lt_or_ge (vl b xs) (vl b ys) with h|h
     ·have h1:b*(vl b xs+1)≤b*vl b ys:=Nat.mul_le_mul_left b h;rw[Nat.mul_add] at h1;omega
     ·omega
    have ih:=J59 hb xs ys 0 (by omega) hx.tl hy.tl (by simpa using hl) hp;rw[Nat.zero_add] at ih;have e:b*(vl b (subC b 0 xs ys)+vl b ys)=b*vl b xs:=by rw[← ih]
    rw[Nat.mul_add] at e;omega
theorem JHx {b:Nat}:∀ (l:List Nat) (i d:Nat) (h:i<l.length),vl b (l.set i d)+l[i]*b ^ i=vl b l+d*b ^ i
 |[],i,d,h=>by simp at h
 |x::l,0,d,h=>by simp[vl];omega
 |x::l,i+1,d,h=>by
   have ih:=JHx (b:=b) l i d (by simpa using h);simp only[List.set_cons_succ,vl,List.getElem_cons_succ,Nat.pow_succ];have e:b*(vl b (l.set i d)+l[i]'(by simpa using h)*b ^ i)=b*(vl b l+d*b ^ i):=by rw[ih]
   grind
theorem JDm {b:Nat}(l:List Nat)(i:Nat)(h:i<l.length):vl b (l.take (i+1))=vl b (l.take i)+l[i]*b ^ i:=by
 rw[List.take_succ_eq_append_getElem h,J54];simp only[vl,List.length_take,Nat.min_eq_left (Nat.le_of_lt h)]
 grind
theorem JAA {b:Nat}(l:List Nat)(i:Nat)(h:i<l.length):vl b (l.drop i)=l[i]+b*vl b (l.drop (i+1)):=by
 rw[List.drop_eq_getElem_cons h];rfl
theorem J4h (b:Nat)(l:List Nat)(i:Nat)(h:i≤l.length):vl b l=vl b (l.take i)+b ^ i*vl b (l.drop i):=by
 have:=J54 b (l.take i) (l.drop i);rw[List.take_append_drop,List.length_take,Nat.min_eq_left h] at this;exact this
theorem JBe {b:Nat}{out:List Nat}{i:Nat}{s c V T:Nat}(h:i<out.length)(hv:vl b out+c*b ^ i=V)(hs:s=T+out[i]+c) :
  vl b (out.set i (s%b))+s/b*b ^ (i+1)=V+T*b ^ i:=by
 have h1:=JHx (b:=b) out i (s%b) h;have h2:=Nat.mod_add_div s b;rw[Nat.pow_succ];have h3:(s%b+b*(s/b))*b ^ i=(T+out[i]+c)*b ^ i:=by rw[h2,hs]
 grind
theorem JHX {b x y o c s:Nat}(hx:x<b)(hy:y<b)(ho:o<b)(hc:c<b)(hs:s=x*y+o+c):s<b*b∧s/b<b:=by
 have h1:x*y≤(b-1)*(b-1):=Nat.mul_le_mul (by omega) (by omega)
 have h2:s<b*b:=by
  obtain ⟨k,rfl⟩:∃ k,b=k+1:=⟨b-1,by omega⟩;simp only[Nat.add_sub_cancel] at h1;have e:(k+1)*(k+1)=k*k+2*k+1:=by grind
  omega
 exact ⟨h2,Nat.div_lt_of_lt_mul h2⟩
theorem JES {b k n c T:Nat}(hb:1<b)(hc:0<c)(h:c*b ^ k≤T)(hT:T<b ^ n):k<n:=by
 have h1:b ^ k≤c*b ^ k:=Nat.le_mul_of_pos_left _ hc;exact (Nat.pow_lt_pow_iff_right hb).1 (Nat.lt_of_le_of_lt (Nat.le_trans h1 h) hT)
theorem JIt {b:Nat}{xs ys:List Nat}{i:Nat}(hx:Dig b xs)(hy:Dig b ys)(hi:i≤xs.length):vl b (xs.take i)*vl b ys<b ^ (i+ys.length)∨ys=[]∧b ^ i=0∨b=0:=by
 rcases Nat.eq_zero_or_pos b with h|hb
 ·exact .inr (.inr h)
 ·left;have h1:=J8Q (hx.take i);rw[List.length_take,Nat.min_eq_left hi] at h1;have h2:=J8Q hy;rw[Nat.pow_add];exact Nat.mul_lt_mul_of_lt_of_le h1 (Nat.le_of_lt h2) (Nat.pow_pos hb)
theorem J9J {b:Nat}(hb:1<b){m n:Nat}(h:(dg b m).length<(dg b n).length):m<n:=by
 rcases Nat.lt_or_ge m n with h'|h'
 ·exact h'
 ·have:=J0q hb h';omega
theorem JCb {b by_ r d Q R:Nat}(h:R=by_*Q+r)(hr:r<by_)(hd:d<b) :
  d+b*R=by_*((r*b+d)/by_+b*Q)+(r*b+d)%by_∧(r*b+d)/by_<b∧(r*b+d)%by_<by_:=by
 have h1:=Nat.mod_add_div (r*b+d) by_;refine ⟨?_,?_,Nat.mod_lt _ (by omega)⟩
 ·subst h
  grind
 ·refine Nat.div_lt_of_lt_mul ?_;have h2:(r+1)*b≤by_*b:=Nat.mul_le_mul_right b hr;rw[Nat.add_mul] at h2;omega
theorem JH6 {b n p t h y:Nat}(hp:p<(h+1)*b ^ n)(hy:t*b ^ n≤y)(ht:0<t)(hb:0<b):p/y≤h/t:=by
 rw[Nat.le_div_iff_mul_le ht];have hbn:0<b ^ n:=Nat.pow_pos hb;have hy0:0<y:=Nat.lt_of_lt_of_le (Nat.mul_pos ht hbn) hy;have h1:p/y*y≤p:=Nat.div_mul_le_self p y;have h2:p/y*(t*b ^ n)≤p/y*y:=Nat.mul_le_mul_left _ hy;have h3:p/y*t*b ^ n<(h+1)*b ^ n:=by rw[Nat.mul_assoc];omega
 have:=(Nat.mul_lt_mul_right hbn).1 h3;omega
def decB (l:List Nat):Nat:=vl 10 (l.reverse.map (· - 48))
def isDg (c:Nat):Bool:=decide (48≤c∧c≤57)
theorem J80 (l r:List Nat):decB (l++r)=decB l*10 ^ r.length+decB r:=by
 unfold decB;rw[List.reverse_append,List.map_append,J54];simp only[List.length_map,List.length_reverse]
 grind
theorem JFD (l:List Nat)(c:Nat):decB (l++[c])=10*decB l+(c-48):=by
 rw[J80];have:decB [c]=c-48:=by simp[decB,vl]
 rw[this];simp;omega
theorem JF8 {l:List Nat}(h:l.all isDg=true):Dig 10 (l.reverse.map (· - 48)):=fun d hd=>by
 obtain ⟨c,hc,rfl⟩:=List.mem_map.1 hd;have:=List.all_eq_true.1 h c (List.mem_reverse.1 hc);simp[isDg] at this;omega
theorem JFE {l:List Nat}(h:l.all isDg=true):decB l<10 ^ l.length:=by
 have:=J8Q (JF8 h)
 simpa [decB] using this
def decT (n:Nat):List Nat:=if n=0 then [48] else (dg 10 n).reverse.map (· + 48)
theorem J3J (n:Nat):(decT n).all isDg=true:=by
 unfold decT;split
 ·rfl
 ·rw[List.all_eq_true];intro c hc;obtain ⟨d,hd,rfl⟩:=List.mem_map.1 hc;have:=J0I (b:=10) (by omega) n d (List.mem_reverse.1 hd);simp[isDg];omega
theorem J9N (n:Nat):decB (decT n)=n:=by
 unfold decT;split
 ·rename_i h;subst h;rfl
 ·unfold decB;rw[← List.map_reverse,List.reverse_reverse,List.map_map];have:((fun x=>x-48)∘fun x=>x+48)=(id:Nat→Nat):=by funext x;simp
  rw[this,List.map_id,J17 (by omega)]
def J1o (l:List Nat):Bool:=decide (1≤l.length)&&(decide (l.length=1)||decide (l.getD 0 0≠48))&&l.all isDg
theorem JBF:∀ {l:List Nat},l≠[]→l.getLast?≠some 0→trimF l=l
 |[],h,_=>absurd rfl h
 |[d],_,h=>by
   have:d≠0:=fun e=>h (by simp[e]);simp[trimF,this]
 |d::x::l,_,h=>by
   have ih:=JBF (l:=x::l) (by simp) (by simpa using h);rw[trimF,ih]
theorem J6X:∀ (l:List Nat),(trimF l).getLast?≠some 0
 |[]=>by simp[trimF]
 |d::r=>by
   have ih:=J6X r;rw[trimF]
   cases h:trimF r with
   |nil=>by_cases h0:d=0<;>simp[h0]
   |cons x y=>rw[h] at ih;simpa using ih
theorem JF9 {b:Nat}(hb:1<b)(n:Nat):(dg b n).getLast?≠some 0:=by
 have:=J6X (dg b n)
 rwa [J1h hb (J0I hb n),J17 hb] at this
theorem J3e {l:List Nat}(h:J1o l=true):decT (decB l)=l:=by
 unfold J1o at h;simp only[Bool.and_eq_true,Bool.or_eq_true,decide_eq_true_eq] at h;obtain ⟨⟨h1,h2⟩,h3⟩:=h;have hd:=JF8 h3
 have back:((l.reverse.map (· - 48)).reverse.map (· + 48))=l:=by
  rw[← List.map_reverse,List.reverse_reverse,List.map_map]
  have:∀ c∈l,((fun x=>x+48)∘fun x=>x-48) c=c:=fun c hc=>by
   have:=List.all_eq_true.1 h3 c hc;simp[isDg] at this;simp;omega
  rw[List.map_congr_left this,List.map_id']
 by_cases h0:decB l=0
 ·unfold decT;rw[if_pos h0]
  rcases h2 with h2|h2
  ·obtain ⟨c,rfl⟩:=List.length_eq_one_iff.1 h2;have:=List.all_eq_true.1 h3 c (by simp);simp[isDg] at this;simp[decB,vl] at h0;have:c=48:=by omega
   rw[this]
  ·exfalso
   cases l with
   |nil=>simp at h1
   |cons c l=>
     have h5:=List.all_eq_true.1 h3 c (by simp);simp[isDg] at h5;simp only[List.getD_cons_zero] at h2
     have:decB (c::l)=decB l+10 ^ l.length*(c-48):=by
      unfold decB;rw[List.reverse_cons,List.map_append,J54];simp[vl]
     have h6:0<10 ^ l.length*(c-48):=Nat.mul_pos (Nat.pow_pos (by omega)) (by omega);omega
 ·unfold decT;rw[if_neg h0]
  have:dg 10 (decB l)=l.reverse.map (· - 48):=by
   unfold decB;rw[← J1h (by omega) hd];refine JBF (fun e=>?_) (fun e=>?_)
   ·have:=congrArg List.length e;simp at this;subst this;simp at h1
   ·rw[List.getLast?_map,List.getLast?_reverse] at e
    cases l with
    |nil=>simp at h1
    |cons c l=>
      simp at e;have h5:=List.all_eq_true.1 h3 c (by simp);simp[isDg] at h5
      rcases h2 with h2|h2
      ·have:l=[]:=by simpa using h2
       subst this;have:c=48:=by omega
       subst this;exact h0 rfl
      ·simp at h2;omega
  rw[this,back]
theorem J73 (n:Nat):J1o (decT n)=true:=by
 have h:=J3J n;unfold J1o;rw[h,Bool.and_true];unfold decT;split
 ·rfl
 ·rename_i hn;have h1:dg 10 n≠[]:=fun e=>hn ((J5w (by omega) n).1 e);have hl:0<(dg 10 n).length:=List.length_pos_iff.2 h1;simp only[Bool.and_eq_true,Bool.or_eq_true,decide_eq_true_eq,List.length_map,List.length_reverse];refine ⟨hl,?_⟩
  by_cases e:(dg 10 n).length=1
  ·exact .inl e
  ·right;have hl:=JF9 (b:=10) (by omega) n;rw[List.getD_eq_getElem?_getD,List.getElem?_map,← List.head?_eq_getElem?,List.head?_reverse]
   cases hg:(dg 10 n).getLast? with
   |none=>exact absurd (List.getLast?_eq_none_iff.1 hg) h1
   |some d=>rw[hg] at hl;simp at hl ⊢;omega
def J3l (k:Nat):Nat→List Nat→List Nat
 |0,_=>[]
 |n+1,l=>if l=[] then [] else vl 10 (l.take k)::J3l k n (l.drop k)
theorem J9Z {k:Nat}(hk:0<k):∀ (n:Nat) (l:List Nat),l.length≤n→vl (10 ^ k) (J3l k n l)=vl 10 l
 |0,l,h=>by
   have:l=[]:=List.eq_nil_of_length_eq_zero (by omega);subst this;rfl
 |n + 1,l,h=>by
   unfold J3l;split
   ·rename_i e;subst e;rfl
   ·rename_i e;have hp:0<l.length:=List.length_pos_iff.2 e;rw[vl,J9Z hk n (l.drop k) (by simp;omega)]
    rcases Nat.lt_or_ge l.length k with h1|h1
    ·rw[List.take_of_length_le (by omega),List.drop_eq_nil_of_le (by omega)];simp[vl]
    ·exact (J4h 10 l k h1).symm
theorem J7C {k:Nat}:∀ (n:Nat) (l:List Nat),Dig 10 l→Dig (10 ^ k) (J3l k n l)
 |0,l,h=>Dig.nil
 |n + 1,l,h=>by
   unfold J3l;split
   ·exact Dig.nil
   ·have h1:=J8Q (h.take k);refine Dig.cons (Nat.lt_of_lt_of_le h1 (Nat.pow_le_pow_right (by omega) (by simp;omega))) (J7C n _ (h.drop k))
def cmpL:List Nat→List Nat→Int
 |x::xs,y::ys=>if cmpL xs ys=0 then (x:Int)-y else cmpL xs ys
 |_,_=>0
theorem J9X (l:List Nat):cmpL l l=0:=by
 induction l with
 |nil=>rfl
 |cons x l ih=>simp[cmpL,ih]
theorem JFe:∀ (xs ys:List Nat) (i:Nat) (h:i<xs.length) (h':i<ys.length),xs.drop (i+1)=ys.drop (i+1)→xs[i]≠ys[i]→cmpL xs ys=(xs[i]:Int)-ys[i]
 |x::xs,y::ys,0,_,_,he,_=>by
   simp only[Nat.zero_add,List.drop_succ_cons,List.drop_zero] at he;subst he;simp[cmpL,J9X]
 |x::xs,y::ys,i+1,h,h',he,hne=>by
   have ih:=JFe xs ys i (by simpa using h) (by simpa using h') (by simpa using he) (by simpa using hne);simp only[List.getElem_cons_succ] at hne ⊢;rw[cmpL,if_neg (by rw[ih];omega),ih]
theorem JFd {b:Nat}:∀ {xs ys:List Nat},Dig b xs→Dig b ys→xs.length=ys.length→(0<cmpL xs ys↔vl b ys<vl b xs)∧(cmpL xs ys=0↔xs=ys)
 |[],[],_,_,_=>by simp[cmpL,vl]
 |x :: xs,y::ys,hx,hy,hl=>by
   have ih:=JFd hx.tl hy.tl (by simpa using hl);have h1:=hx.hd;have h2:=hy.hd
   by_cases h:cmpL xs ys=0
   ·have e:=ih.2.1 h;subst e;simp only[cmpL,h,if_true,vl,List.cons.injEq,and_true];omega
   ·have hne:xs≠ys:=fun e=>h (ih.2.2 e);simp only[cmpL,if_neg h,vl,List.cons.injEq];refine ⟨?_,⟨fun e=>absurd e h,fun e=>absurd e.2 hne⟩⟩;rw[ih.1];constructor
    ·intro hlt;have:=Nat.mul_le_mul_left b (show vl b ys+1≤vl b xs from hlt);rw[Nat.mul_add] at this;omega
    ·intro hlt
     rcases Nat.lt_or_ge (vl b ys) (vl b xs) with h|h
     ·exact h
     ·rcases Nat.lt_or_ge (vl b xs) (vl b ys) with h' | h'
      ·have:=Nat.mul_le_mul_left b (show vl b xs+1≤vl b ys from h');rw[Nat.mul_add] at this;omega
      ·exact absurd (JHy hx.tl hy.tl (by simpa using hl) (by omega)) hne
def cmpW (xs ys:List Nat):Int:=if xs.length=ys.length then cmpL xs ys else (xs.length:Int)-ys.length
theorem JFc {b:Nat}(hb:1<b)(m n:Nat):(0<cmpW (dg b m) (dg b n)↔n<m)∧(cmpW (dg b m) (dg b n)=0↔m=n):=by
 unfold cmpW;split
 ·rename_i h;obtain ⟨h1,h2⟩:=JFd (J0I hb m) (J0I hb n) h;rw[J17 hb,J17 hb] at h1;exact ⟨h1,h2.trans ⟨fun e=>JKW hb e,fun e=>by rw[e]⟩⟩
 ·rename_i h;constructor
  ·constructor
   ·intro hlt;exact J9J hb (by omega)
   ·intro hlt;have:=J0q hb (Nat.le_of_lt hlt);omega
  ·constructor
   ·intro e;omega
   ·rintro rfl;exact absurd rfl h
theorem J1X {l:List Nat}{i:Nat}(h:i<l.length):l[i]=l.getD i 0:=by rw[List.getD_eq_getElem?_getD,List.getElem?_eq_getElem h];rfl
theorem JDx {b:Nat}(hb:1<b){y n:Nat}(hn:(dg b y).length=n+1):(dg b y).getD n 0≠0:=fun e=>JF9 hb y (by
 rw[List.getLast?_eq_getElem?,hn,Nat.add_sub_cancel,List.getElem?_eq_getElem (by omega),J1X (by omega),e])
theorem JHw {b:Nat}(l:List Nat)(n:Nat)(hn:n<l.length)(hl:l.length≤n+2):vl b (l.drop n)=l.getD n 0+l.getD (n+1) 0*b:=by
 rw[JAA (b:=b) l n hn,J1X hn]
 rcases Nat.lt_or_ge (n+1) l.length with h|h
 ·rw[JAA _ _ h,List.drop_of_length_le (by omega),J1X h];simp[vl,Nat.mul_comm]
 ·rw[List.drop_of_length_le h,List.getD_eq_getElem?_getD (i:=n+1),List.getElem?_eq_none h];simp[vl]
theorem JEq {b:Nat}(hb:1<b){p y n:Nat}(h:p<y*b)(hn:(dg b y).length=n+1)(hl:¬ (dg b p).length<n+1) :
  p/y≤((dg b p).getD n 0+(dg b p).getD (n+1) 0*b)/(dg b y).getD n 0:=by
 have hpl:(dg b p).length≤n+2:=by
  refine J1A hb (Nat.lt_of_lt_of_le h ?_);rw[Nat.pow_succ,← hn];exact Nat.mul_le_mul_right _ (Nat.le_of_lt (J9I hb y))
 refine JH6 (b:=b) (n:=n) ?_ ?_ (Nat.pos_of_ne_zero (JDx hb hn)) (by omega)
 ·have e:=J4h b (dg b p) n (by omega);rw[J17 hb,JHw _ n (by omega) hpl] at e;have e2:=J8Q ((J0I hb p).take n);rw[List.length_take,Nat.min_eq_left (by omega)] at e2;generalize (dg b p).getD n 0+(dg b p).getD (n+1) 0*b=t at e ⊢;rw[Nat.add_mul,Nat.mul_comm t];omega
 ·have e:=J4h b (dg b y) n (by omega);rw[J17 hb,JHw _ n (by omega) (by omega)] at e;rw[Nat.mul_comm];have:=Nat.mul_le_mul_left (b ^ n) (Nat.le_add_right ((dg b y).getD n 0) ((dg b y).getD (n+1) 0*b));omega
end Go.Fw
namespace Go.Proofs.YtlblbldolhiokaaGreatDoor
open Go Go.Fw
theorem D0 {i:Nat}{ops:Array Oper}{K:Fr→Hp→Prop}{σ:Fr}{H:Hp}(h:∀ γs:Nat→Nat,J3K (E i) ops γs 0 ops.toList σ H [] fun σ' H' L=>Need (J2h ops [] [] (ops.toList.zip L)=true) (K σ' H')):DrawP (DH (E i)) ops K σ H:=DrawH.intro (E:=E i) J4L h
theorem Need.drawn {ops:Array Oper}{a c:List (Oper×St)}{b:List Nat}{K:Prop}(h:J2h ops a b c=true)(k:K):Need (J2h ops a b c=true) K:=Need.intro h k
theorem CondP.pos {p:Prop}[Decidable p]{X Y:Prop}(h:p)(k:X):CondP (decide p) X Y:=.dec (fun _=>k) (fun q=>absurd h q)
theorem CondP.neg {p:Prop}[Decidable p]{X Y:Prop}(h:¬ p)(k:Y):CondP (decide p) X Y:=.dec (fun q=>absurd q h) (fun _=>k)
theorem JCE {b:Bool}{X Y:Prop}(h:b=true)(k:X):CondP b X Y:=.intro (fun _=>k) (fun q=>by rw[h] at q;cases q)
theorem JCF {b:Bool}{X Y:Prop}(h:b=false)(k:Y):CondP b X Y:=.intro (fun q=>by rw[h] at q;cases q) (fun _=>k)
abbrev PX:Nat→List AV→AV→Prop:=PureCall Tryz.prog
theorem PC {f:Nat}{fn:Func}{c:Code}{args:List AV}{r:AV}(S:List Nat)(hf:Tryz.prog.funcs[f]?=some fn)(hb:fn.body=some c)(hg:J0T fn.ntmps c=true)(ha:Nat.ble args.length fn.ntmps=true)
 (h:Box (cpA (E 0) (DH (E 0)) c (retC (E 0) fn S r) (J1c args) fun _=>none)):PureCall Tryz.prog f args r:=JIs (E:=E 0) J4L (JKl 0) S hf hb hg (Nat.le_of_ble_eq_true ha) h
theorem PZ {f:Nat}{fn:Func}{c:Code}{args:List AV}{r:AV}(hf:Tryz.prog.funcs[f]?=some fn)(hb:fn.body=some c)(h:Box (cpA (E 0) (DH (E 0)) c (retC (E 0) fn [] r) (J1c args) fun _=>none))(hg:J0T fn.ntmps c=true:=by rfl)(ha:Nat.ble args.length fn.ntmps=true:=by rfl):PureCall Tryz.prog f args r:=PC [] hf hb hg ha h
theorem T9:(∀ s:Nat,(s:Int).tdiv 1000000000=((s/1000000000:Nat):Int))∧(∀ s:Nat,(s:Int).tmod 1000000000=((s%1000000000:Nat):Int)):=⟨fun _=>rfl,fun _=>rfl⟩
theorem TN:(∀ s k:Nat,(s:Int).tdiv k=((s/k:Nat):Int))∧(∀ s k:Nat,(s:Int).tmod k=((s%k:Nat):Int)):=⟨fun _ _=>rfl,fun _ _=>rfl⟩
theorem TD:(∀ (a b:Int),0≤a→Int.tdiv a b=a/b)∧(∀ (a b:Int),0≤a→Int.tmod a b=a%b):=⟨fun _ _ h=>Int.tdiv_eq_ediv_of_nonneg h,fun _ _ h=>Int.tmod_eq_emod_of_nonneg h⟩
def encS (s:ByteArray):AV:=.val (.string s)
def encI (n:Int):AV:=.val (.int .i64 n)
def encB (b:Bool):AV:=.val (.bool b)
def encw (n:Nat):AV:=.val (.int .u32 n)
def J0F (l:List Nat):AV:=.sl 1 (l.map encw)
abbrev B9:Nat:=1000000000
def encW (n:Nat):AV:=J0F (dg B9 n)
def encZ (z:Int):AV:=.agg [encB (decide (z<0)),encW z.natAbs]
theorem g9 {l:List Nat}(h:Dig B9 l)(i:Nat)(hi:i<l.length):l[i]<1000000000:=h.get i hi
theorem J19 {α:Type}(s:AV→AV)(enc:α→AV)(xs:List α)(n:Nat)(hn:n=xs.length)(hs:∀ x,J0N s (enc x)=enc x):(((xs.map enc).drop 0).take n).map (J0N s)=xs.map enc:=by
 subst hn;rw[List.drop_zero,List.take_of_length_le (by simp),List.map_map];exact List.map_congr_left fun x _=>hs x
theorem endW {S:List Nat}{H:Hp}{k:Nat}{L:List AV}{n:Nat}{xs:List Nat}(h:L=xs.map encw)(hn:n=xs.length):AV.sl 1 (((L.drop 0).take n).map (J0N (J05 S H k)))=J0F xs:=by
 subst h;rw[J19 _ _ _ _ hn fun x=>by cases k<;>rfl];rfl
theorem JEC {α:Type}(f:α→AV)(l:List α)(i:Nat)(x:α)(y:AV)(h:y=f x):(l.map f).set i y=(l.set i x).map f:=by rw[h,List.map_set]
theorem JI3 {α:Type}(l:List α)(x y:α)(r:List α):(l++x::r).set l.length y=l++y::r:=by simp
theorem setw {l:List Nat}{i:Nat}{z:Int}(n:Nat)(h:z=n):(l.map encw).set i (.val (.int .u32 z))=(l.set i n).map encw:=JEC encw l i n _ (by rw[h];rfl)
theorem putw {p e:Nat}{out r:List Nat}{x i j:Nat}{z:Int}(n:Nat)(h:z=n)(hi:i=out.length)(hj:j=i):some (p,(⟨e,1,((out++x::r).map encw).set j (.val (.int .u32 z))⟩:Blk))=some (p,⟨e,1,(out++[n]++r).map encw⟩):=by
 subst hj hi;rw[setw n h,JI3];simp
theorem repw (n:Nat):List.replicate n (mkEl { size:=1,bytes:=4,zero:=[Value.int .u32 0],kind:=Kd.int .u32 })=(List.replicate n 0).map encw:=by rw[List.map_replicate];rfl
theorem J04 {P:Program}{f:Nat}{args args':List AV}{r:AV}(e:args=args')(h:PureCall P f args' r):PureCall P f args r:=e ▸ h
theorem J2q {S:List Nat}{H:Hp}{b g off len:Nat}{B:Blk}(hS:b∈S)(hb:H b=some (g,B))(hl:off+len≤B.xs.length):snap S H (.own b g off len)=.sl B.n (((B.xs.drop off).take len).map (J0N (J05 S H 2))):=by
 show J05 S H 3 (.own b g off len)=_
 simp only[J05,if_pos hS,hb,true_and,if_pos hl]
theorem ownW {b p e n:Nat}{H:Hp}{out:List Nat}(hb:H b=some (p,⟨e,1,out.map encw⟩))(hn:n=out.length):snap [b] H (.own b p 0 n)=J0F out:=by
 rw[J2q (by simp) hb (by simp[hn]),J19 _ _ _ _ hn fun _=>rfl];rfl
theorem JGs (x y:Int):(if (!(decide (x<0)==decide (y<0)))=true then -((x.natAbs*y.natAbs:Nat):Int) else ((x.natAbs*y.natAbs:Nat):Int))=x*y:=by
 rw[Int.natCast_mul]
 by_cases hx:x<0<;>by_cases hy:y<0
 ·rw[show (x.natAbs:Int)=-x by omega,show (y.natAbs:Int)=-y by omega];simp[hx,hy];grind
 ·rw[show (x.natAbs:Int)=-x by omega,show (y.natAbs:Int)=y by omega];simp[hx,hy];try grind
 ·rw[show (x.natAbs:Int)=x by omega,show (y.natAbs:Int)=-y by omega];simp[hx,hy];grind
 ·rw[show (x.natAbs:Int)=x by omega,show (y.natAbs:Int)=y by omega];simp[hx,hy];try grind
theorem hB9:1<B9:=by decide
theorem vrs2 {κ:KM}{w:World}{N:Nat→Prop}{a b:Value}{vs:Array Value}(h:VRs κ w N [.val a,.val b] vs):vs=#[a,b]:=by
 obtain ⟨hl,hv⟩:=h;obtain ⟨l⟩:=vs
 rcases l with _|⟨x,_|⟨y,_|⟨z,r⟩⟩⟩<;>simp at hl
 have h0:=hv 0 (by simp) (by simp);have h1:=hv 1 (by simp) (by simp);simp at h0 h1;cases h0;cases h1;rfl
def idxB (s:ByteArray)(c:UInt8):Int:=match (List.range s.size).find? fun i=>s[i]! == c with
 |some i=>i
 |none=>-1
theorem JKN (s:ByteArray)(n:Nat)(h:n<256):J2k Tryz.prog 381 [encS s,.val (.int .u8 n)] (.int .i64 (idxB s (UInt8.ofNat n))):=by
 refine ⟨rfl,fun κ w N vs hv=>?_⟩;rw[vrs2 hv];have h1:Tryz.prog.funcs[381]?=some Tryz.f381:=Tryz.func381;have h2:(Tryz.f381.name == "runtime.NumGoroutine")=false:=by kernel_rfl
 have h3:Tryz.f381.body.isNone=true:=by kernel_rfl
 have h4:Extern.findNext Tryz.f381=none:=by kernel_rfl
 have h5:Extern.find Tryz.f381=some Extern.BytealgIndexByte.indexByte:=by kernel_rfl
 simp only[callFunc,Sem.run_bind,run_program,Result.andThen_ok,h1,h2,h3,h4,h5,run_mark,if_true,Bool.false_eq_true,if_false]
 have e:(Extern.BytealgIndexByte.indexByte #[.string s,.int .u8 n]).run Tryz.prog w=.ok (.int .i64 (idxB s (UInt8.ofNat n))) w:=by
  change Sem.run Tryz.prog (do
   let b ← Extern.Bytes.bytesOf (.string s)
   let c ← Extern.Bytes.asByte (.int .u8 n)
   match (List.range b.size).find? fun i=>b[i]! == c with
   |some i=>pure (goInt i)
   |none=>pure (goInt (-1))) w=_
  simp only[Extern.Bytes.bytesOf,Extern.Bytes.asByte,Sem.run_bind,Sem.run_pure,Result.andThen_ok,Int.toNat_natCast,idxB];rw[show n.toUInt8=UInt8.ofNat n from rfl];cases (List.range s.size).find? fun i=>s[i]! == UInt8.ofNat n<;>simp[goInt,Sem.run_pure]
 rw[e];rfl
theorem JKO (a b:ByteArray):J2k Tryz.prog 335 [encS a,encS b] (.int .i64 (Lib.compareBytes a.data.toList b.data.toList)):=by
 refine ⟨rfl,fun κ w N vs hv=>?_⟩;rw[vrs2 hv];have h1:Tryz.prog.funcs[335]?=some Tryz.f335:=Tryz.func335;have h2:(Tryz.f335.name == "runtime.NumGoroutine")=false:=by kernel_rfl
 have h3:Tryz.f335.body.isNone=true:=by kernel_rfl
 have h4:Extern.findNext Tryz.f335=none:=by kernel_rfl
 have h5:Extern.find Tryz.f335=some Extern.BytealgCompare.compare:=by kernel_rfl
 simp only[callFunc,Sem.run_bind,run_program,Result.andThen_ok,h1,h2,h3,h4,h5,run_mark,if_true,Bool.false_eq_true,if_false];rw[show (Extern.BytealgCompare.compare #[.string a,.string b]).run Tryz.prog w=_ from Lib.run_compareString a b w];rfl
noncomputable def eqL:List Nat:=[54]
def keyL:List Nat:=[9,54]
noncomputable def XR:XE where
 E:=E 0
 eqs:=fun t=>memB t eqL
 keys:=fun t=>memB t keyL
 arrs:=fun t n=>Nat.beq t 334&&Nat.beq n 9
 ext:=fun n args=>match n,args with
  |335,[.val (.string a),.val (.string b)]=>some (.int .i64 (Lib.compareBytes a.data.toList b.data.toList))
  |381,[.val (.string s),.val (.int .u8 (.ofNat c))]=>ifB (Nat.blt c 256) (some (.int .i64 (idxB s (UInt8.ofNat c))))
  |_,_=>none
theorem JKS:EqSt Tryz.prog 54:=EqSt.of (by kernel_rfl) (by kernel_rfl) (by kernel_rfl)
theorem keyst54:KeySt Tryz.prog 54:=KeySt.of (by kernel_rfl) (by kernel_rfl)
theorem keyst9:KeySt Tryz.prog 9:=KeySt.of (by kernel_rfl) (by kernel_rfl)
theorem JKh:ArrP Tryz.prog 334 9:=⟨⟨5,by kernel_rfl,by kernel_rfl⟩⟩
theorem J9i:XOk XR where
 hT:=J4L
 eqs:=fun t h=>by
  have h:memB t eqL=true:=h;rw[J5R] at h;have:=of_decide_eq_true h;simp only[eqL,List.mem_cons,List.not_mem_nil,or_false] at this;subst this;exact JKS
 keys:=fun t h=>by
  have h:memB t keyL=true:=h;rw[J5R] at h;have:=of_decide_eq_true h;simp only[keyL,List.mem_cons,List.not_mem_nil,or_false] at this
  rcases this with rfl|rfl
  ·exact keyst9
  ·exact keyst54
 arrs:=fun t n h=>by
  have h:(Nat.beq t 334&&Nat.beq n 9)=true:=h;simp only[Bool.and_eq_true] at h;have e1:=Nat.eq_of_beq_eq_true h.1;have e2:=Nat.eq_of_beq_eq_true h.2;subst e1 e2;exact JKh
 ext := fun n args v h=>by
  simp only[XR] at h;split at h
  ·cases h;exact JKO _ _
  ·obtain ⟨h1,h⟩:=J0B h;cases h;exact JKN _ _ (Nat.le_of_ble_eq_true h1)
  ·cases h
 mixed:=by rfl
 news:=fun n args b off len e k xs h=>by cases h
def hasP (s p:ByteArray):Bool:=decide (p.size≤s.size)&&decide (s.extract 0 p.size=p)
def hasX (s p:ByteArray):Bool:=decide (p.size≤s.size)&&decide (s.extract (s.size-p.size) s.size=p)
theorem J3w (s p:ByteArray)(hs:s.size<2^62)(hp:p.size<2^62):PX 293 [encS s,encS p] (encB (hasP s p)):=by
 refine PZ Tryz.func293 rfl ?_;generalize hF:hasP s p=F;unfold hasP at hF;refine kWO ?_;intros;refine CondP.dec (fun h=>?_) (fun h=>?_)<;>refine kW ?_
 ·rw[decide_eq_true (by omega),Bool.true_and] at hF;refine kO ?_;intros;exact .of (by rw[← hF];rfl)
 ·rw[decide_eq_false (by omega),Bool.false_and] at hF;refine kO ?_;intros;exact .of (by rw[← hF];rfl)
theorem J9u (s p:ByteArray)(hs:s.size<2^62)(hp:p.size<2^62):PX 201 [encS s,encS p] (encB (hasP s p)):=by
 refine PZ Tryz.func201 rfl ?_;refine kWS ?_;intros;refine CallP.flat [] _ c293 (J3w s p hs hp) rfl ?_;refine kWS ?_;intros;exact .of rfl
theorem J9t (s p:ByteArray)(hs:s.size<2^62)(hp:p.size<2^62):PX 406 [encS s,encS p] (encB (hasX s p)):=by
 refine PZ Tryz.func406 rfl ?_;generalize hF:hasX s p=F;unfold hasX at hF;refine kWO ?_;intros;refine CondP.dec (fun h=>?_) (fun h=>?_)<;>refine kW ?_
 ·rw[decide_eq_true (by omega),Bool.true_and] at hF;rw[show s.size-p.size=((s.size:Int)-p.size).toNat by omega] at hF;refine kO ?_;intros;exact .of (by rw[← hF];rfl)
 ·rw[decide_eq_false (by omega),Bool.false_and] at hF;refine kO ?_;intros;exact .of (by rw[← hF];rfl)
def cutP (s p:ByteArray):ByteArray×Bool:=if hasP s p then (s.extract p.size s.size,true) else (s,false)
theorem J8K (s p:ByteArray)(hs:s.size<2^62)(hp:p.size<2^62):PX 351 [encS s,encS p] (.tup [encS (cutP s p).1,encB (cutP s p).2]):=by
 refine PZ Tryz.func351 rfl ?_;generalize hF:cutP s p=F;unfold cutP at hF;refine kWS ?_;intros;refine CallP.flat [] _ c293 (J3w s p hs hp) rfl ?_;refine kWS ?_;intros;refine CondP.intro (fun h=>?_) (fun h=>?_)<;>refine kW ?_
 ·rw[h] at hF;have hle:p.size≤s.size:=by unfold hasP at h;simp at h;exact h.1
  refine kS ?_;intros;exact .of (by rw[← hF];rfl)
 ·rw[h] at hF;refine kS ?_;intros;exact .of (by rw[← hF];rfl)
theorem J4Z (s p:ByteArray)(hs:s.size<2^62)(hp:p.size<2^62):PX 302 [encS s,encS p] (.tup [encS (cutP s p).1,encB (cutP s p).2]):=by
 refine PZ Tryz.func302 rfl ?_;refine kWS ?_;intros;refine J00 [] _ c351 (J8K s p hs hp) ?_;refine kWS ?_;intros;exact .of rfl
def J8S (s p:ByteArray):ByteArray:=if hasX s p then s.extract 0 (s.size-p.size) else s
theorem J6S (s p:ByteArray)(hs:s.size<2^62)(hp:p.size<2^62):PX 401 [encS s,encS p] (encS (J8S s p)):=by
 refine PZ Tryz.func401 rfl ?_;generalize hF:J8S s p=F;unfold J8S at hF;refine kWS ?_;intros;refine CallP.flat [] _ c406 (J9t s p hs hp) rfl ?_;refine kWS ?_;intros;refine CondP.intro (fun h=>?_) (fun h=>?_)<;>refine kW ?_
 ·rw[h] at hF;have hle:p.size≤s.size:=by unfold hasX at h;simp at h;exact h.1
  rw[show s.size-p.size=((s.size:Int)-p.size).toNat by omega] at hF;refine kS ?_;intros;exact .of (by rw[← hF];rfl)
 ·rw[h] at hF;refine kS ?_;intros;exact .of (by rw[← hF];rfl)
theorem J8G (s p:ByteArray)(hs:s.size<2^62)(hp:p.size<2^62):PX 391 [encS s,encS p] (encS (J8S s p)):=by
 refine PZ Tryz.func391 rfl ?_;refine kWS ?_;intros;refine CallP.flat [] _ c401 (J6S s p hs hp) rfl ?_;refine kWS ?_;intros;exact .of rfl
theorem J3v (s:ByteArray)(n:Nat)(h:n<256):PX 366 [encS s,.val (.int .u8 n)] (encI (idxB s (UInt8.ofNat n))):=by
 refine PZ Tryz.func366 rfl ?_;refine kWS ?_;intros;refine CallP.ext _ (JKN s n h) ?_;refine kWS ?_;intros;exact .of rfl
theorem J4Y (s:ByteArray)(n:Nat)(h:n<256):PX 322 [encS s,.val (.int .u8 n)] (encI (idxB s (UInt8.ofNat n))):=by
 refine PZ Tryz.func322 rfl ?_;refine kWS ?_;intros;refine CallP.flat [] _ c366 (J3v s n h) rfl ?_;refine kWS ?_;intros;exact .of rfl
def b1 (c:UInt8):ByteArray:=⟨#[c]⟩
theorem JEl (c:UInt8):idxB (b1 c) c=0:=by
 unfold idxB
 have:(List.range (b1 c).size).find? (fun i=>(b1 c)[i]! == c)=some 0:=by
  show List.find? _ [0]=_
  have:((b1 c)[0]! == c)=true:=by rw[show (b1 c)[0]! = c from rfl];exact beq_self_eq_true c
  exact List.find?_cons_of_pos (p:=fun i=>(b1 c)[i]! == c) this
 rw[this];rfl
theorem JCD (s:ByteArray)(c:UInt8):PX 350 [encS s,encS (b1 c)] (encI (idxB s c)):=by
 refine PZ Tryz.func350 rfl ?_;have hb:(b1 c).size=1:=rfl;have hc:byteAt (b1 c) (Int.toNat 0)=(c.toNat:Int):=rfl;refine kWS ?_;intros;refine CondP.dec (fun h=>?_) (fun h=>?_)<;>refine kW ?_
 ·refine kS ?_;intros;refine .of ?_;rw[← h,JEl];rfl
 ·refine kS ?_;intros;rw[hc];refine CallP.flat [] _ c366 (J3v s c.toNat c.toNat_lt) rfl ?_;rw[UInt8.ofNat_toNat];refine kWS ?_;intros;exact .of rfl
def cutB (s:ByteArray)(c:UInt8):ByteArray×ByteArray×Bool:=if 0≤idxB s c then (s.extract 0 (idxB s c).toNat,s.extract ((idxB s c).toNat+1) s.size,true) else (s,⟨#[]⟩,false)
theorem JEm {s:ByteArray}{c:UInt8}:idxB s c<s.size:=by
 unfold idxB;split
 ·rename_i i h;have:=List.mem_of_find?_eq_some h;rw[List.mem_range] at this;omega
 ·omega
theorem JJr (s:ByteArray)(c:UInt8)(hs:s.size<2^62):PX 301 [encS s,encS (b1 c)] (.tup [encS (cutB s c).1,encS (cutB s c).2.1,encB (cutB s c).2.2]):=by
 refine PZ Tryz.func301 rfl ?_;have hb:(b1 c).size=1:=rfl;have hl:=@JEm s c;generalize hF:cutB s c=F;unfold cutB at hF;refine kWS ?_;intros;refine CallP.flat [] _ c350 (JCD s c) rfl ?_;generalize idxB s c=i at *;refine kWS ?_;intros;refine CondP.dec (fun h=>?_) (fun h=>?_)<;>refine kW ?_
 ·rw[if_pos h] at hF;simp only[hb,show (i+((1:Nat):Int)).toNat=i.toNat+1 by omega];refine kS ?_;intros;simp only[hb,show (i+((1:Nat):Int)).toNat=i.toNat+1 by omega];exact .of (by rw[← hF];rfl)
 ·rw[if_neg h] at hF;refine kS ?_;intros;exact .of (by rw[← hF];rfl)
theorem JKm (s:ByteArray)(c:UInt8)(hs:s.size<2^62):PX 214 [encS s,encS (b1 c)] (.tup [encS (cutB s c).1,encS (cutB s c).2.1,encB (cutB s c).2.2]):=by
 refine PZ Tryz.func214 rfl ?_;refine kWS ?_;intros;refine J00 [] _ c301 (JJr s c hs) ?_;refine kWS ?_;intros;exact .of rfl
def tenS:ByteArray:=⟨#[48,49,50,51,52,53,54,55,56,57]⟩
def isD (n:Nat):Bool:=Nat.ble 48 n&&Nat.ble n 57
def digs:List Bool:=(List.range 256).map isD
theorem JCv:PX 354 [encS tenS] (.tup [.agg (digs.map encB),encB true]):=by
 exact J2S J9i (fuel:=200) (n:=5) (by kernel_rfl)
theorem J69 (n:Nat)(h:n<256):PX 376 [.ep (.agg (digs.map encB)) 0,.val (.int .u8 n)] (encB (isD n)):=by
 refine PZ Tryz.func376 rfl ?_;refine kWS ?_;intros
 have e:(AV.agg (List.map encB digs)).cells[0+(n:Int).toNat*1]?=some (encB (isD n)):=by
  have:(0+(n:Int).toNat*1)=n:=by omega
  rw[this];show (List.map encB digs)[n]?=_
  rw[List.getElem?_map,digs,List.getElem?_map,List.getElem?_range h];rfl
 rw[e];refine kWS ?_;intros;exact .of rfl
def J1L:List UInt8→List UInt8
 |[]=>[]
 |c::l=>if isD c.toNat then J1L l else c::l
def ofL (l:List UInt8):ByteArray:=⟨⟨l⟩⟩
theorem J0S (l:List UInt8)(a b:Nat):(ofL l).extract a b=ofL ((l.take b).drop a):=by
 apply ByteArray.ext;rw[ByteArray.data_extract];apply Array.ext';simp[ofL,Array.toList_extract,List.extract_eq_take_drop,List.drop_take]
theorem J0K (l:List UInt8):(ofL l).size=l.length:=rfl
theorem J0v (s:ByteArray):ofL s.data.toList=s:=rfl
theorem JAD (l:List UInt8)(hl:l.length<2^62):PX 355 [encS (ofL l),.ep (.agg (digs.map encB)) 0] (encS (ofL (J1L l))):=by
 refine PZ Tryz.func355 rfl ?_;refine kWS ?_;intros;refine LoopP.intro (fun k σ H=>∃ m:List UInt8,k=m.length∧m.length<2^62∧J1L m=J1L l∧σ=fr [(0,encS (ofL m)),(1,.ep (.agg (digs.map encB)) 0)]∧H=hp []) ?_ ?_
 ·exact .intro <| W.of ⟨_,l,rfl,hl,rfl,rfl,rfl⟩ ⟨rfl,rfl,trivial⟩ trivial
 ·rintro k σ H ⟨m,rfl,hm,hml,rfl,rfl⟩;have hsz:(ofL m).size=m.length:=rfl;refine kWS ?_;intros;rw[hsz];refine CondP.dec (fun h=>?_) (fun h=>?_)<;>refine kW ?_
  ·cases m with
   |nil=>simp at h
   |cons c m=>
     have hb:byteAt (ofL (c::m)) (Int.toNat 0)=(c.toNat:Int):=rfl;refine kS ?_;intros;rw[hb];refine CallP.flat [] _ c376 (J69 c.toNat c.toNat_lt) rfl ?_;refine kWS ?_;intros;rw[show J1L (c::m)=if isD c.toNat then J1L m else c::m from rfl] at hml;refine CondP.intro (fun h1=>?_) (fun h1=>?_)<;>refine kW ?_
     ·rw[if_pos h1] at hml;refine kS ?_;intros
      refine .intro <| W.of ⟨m.length,by simp,m,rfl,by simp at hm;omega,hml,rfl,rfl⟩ ⟨?_,rfl,trivial⟩ trivial
      show encS _=encS _
      rw[J0S];congr 2;simp[J0K]
     ·rw[if_neg (by rw[h1];decide)] at hml;refine kS ?_;intros;exact .of (by rw[← hml];rfl)
  ·refine kS ?_;intros;refine .of ?_
   cases m with
   |nil=>rw[← hml];rfl
   |cons c m=>simp at h
def J2Q (l:List UInt8):List UInt8:=(J1L l.reverse).reverse
theorem J56 (l:List UInt8)(c:UInt8):J2Q (l++[c])=if isD c.toNat then J2Q l else l++[c]:=by
 unfold J2Q;rw[List.reverse_append];show (if isD c.toNat then J1L l.reverse else c::l.reverse).reverse=_
 split<;>simp
theorem J6Y (l:List UInt8):l=[]∨∃ m c,l=m++[c]:=by
 rcases List.eq_nil_or_concat l with h|⟨m,c,h⟩
 ·exact .inl h
 ·exact .inr ⟨m,c,by simpa using h⟩
theorem J8T (l:List UInt8)(hl:l.length<2^62):PX 356 [encS (ofL l),.ep (.agg (digs.map encB)) 0] (encS (ofL (J2Q l))):=by
 refine PZ Tryz.func356 rfl ?_;refine kWS ?_;intros;refine LoopP.intro (fun k σ H=>∃ m:List UInt8,k=m.length∧m.length<2^62∧J2Q m=J2Q l∧σ=fr [(0,encS (ofL m)),(1,.ep (.agg (digs.map encB)) 0)]∧H=hp []) ?_ ?_
 ·exact .intro <| W.of ⟨_,l,rfl,hl,rfl,rfl,rfl⟩ ⟨rfl,rfl,trivial⟩ trivial
 ·rintro k σ H ⟨m,rfl,hm,hml,rfl,rfl⟩;have hsz:(ofL m).size=m.length:=rfl;refine kWS ?_;intros;rw[hsz];refine CondP.dec (fun h=>?_) (fun h=>?_)<;>refine kW ?_
  ·rcases J6Y m with rfl | ⟨m,c,rfl⟩
   ·simp at h
   ·have hL:(m++[c]).length=m.length+1:=by simp
    have e1:(((ofL (m++[c])).size:Int)-1).toNat=m.length:=by rw[hsz,hL];omega
    have hb:byteAt (ofL (m++[c])) m.length=(c.toNat:Int):=by
     unfold byteAt;rw[dif_pos (by rw[hsz,hL];omega)]
     have:(ofL (m++[c]))[m.length]'(by rw[hsz,hL];omega)=c:=by
      show (m++[c])[m.length]'(by rw[hL];omega)=c
      simp
     rw[this]
    refine kS ?_;intros;simp only[e1];refine kS ?_;intros;rw[hb];refine CallP.flat [] _ c376 (J69 c.toNat c.toNat_lt) rfl ?_;refine kWS ?_;intros;rw[J56] at hml;refine CondP.intro (fun h1=>?_) (fun h1=>?_)<;>refine kW ?_
    ·rw[if_pos h1] at hml;refine kS ?_;intros;simp only[e1];refine kS ?_;intros
     refine .intro <| W.of ⟨m.length,by rw[hL];omega,m,rfl,by rw[hL] at hm;omega,hml,rfl,rfl⟩ ⟨?_,rfl,trivial⟩ trivial
     show encS _=encS _
     rw[J0S];congr 2;simp
    ·rw[if_neg (by rw[h1];decide)] at hml;refine kS ?_;intros;exact .of (by rw[← hml];rfl)
  ·refine kS ?_;intros;refine .of ?_
   cases m with
   |nil=>rw[← hml];rfl
   |cons c m=>simp at h
theorem JGc {b g k:Nat}{H:Hp}{e n:Nat}{x:AV}(hb:H b=some (g,⟨e,n,[x]⟩)):J05 [b] H 3 (.op b g 0 k)=.ep (J0N (J05 [b] H 2) x) k:=by
 simp only[J05,if_pos (List.mem_singleton.2 rfl:b∈[b]),hb,true_and,if_pos (show 0<[x].length from Nat.one_pos)];rfl
def JGX (l:List UInt8):List UInt8:=J1L (J2Q l)
theorem J6V (l:List UInt8):J1L l=[]↔∀ c∈l,isD c.toNat=true:=by
 induction l with
 |nil=>simp[J1L]
 |cons c l ih=>
   rw[show J1L (c::l)=if isD c.toNat then J1L l else c::l from rfl];split<;>simp_all
theorem JDw (l:List UInt8):JGX l=[]↔∀ c∈l,isD c.toNat=true:=by
 unfold JGX;rw[J6V];constructor
 ·intro h
  induction hn:l.length generalizing l with
  |zero=>rw[List.length_eq_zero_iff.1 hn];simp
  |succ n ih=>
    rcases J6Y l with rfl|⟨m,c,rfl⟩
    ·simp
    ·rw[J56] at h;split at h
     ·rename_i hc;have:=ih m h (by simpa using hn);intro x hx
      rcases List.mem_append.1 hx with hx|hx
      ·exact this x hx
      ·simp at hx;rw[hx];exact hc
     ·exact h
 ·intro h
  have:J2Q l=[]:=by
   unfold J2Q;rw[(J6V _).2 (by simpa using h)];rfl
  rw[this];simp
theorem JJg (l:List UInt8)(hl:l.length<2^62):PX 303 [encS (ofL l),encS tenS] (encS (ofL (JGX l))):=by
 refine PZ Tryz.func303 rfl ?_;have ht:tenS.size=10:=rfl;have ht2:¬ tenS=⟨#[]⟩:=by intro h;rw[h] at ht;cases ht
 have hlr:(J2Q l).length≤l.length:=by
  have:∀ m:List UInt8,(J1L m).length≤m.length:=by
   intro m
   induction m with
   |nil=>simp[J1L]
   |cons c m ih=>
     rw[show J1L (c::m)=if isD c.toNat then J1L m else c::m from rfl];split<;>simp<;>omega
  unfold J2Q;have:=this l.reverse
  simpa using this
 (refine kWS ?_;repeat intro γ);refine CondP.dec (fun h=>?_) (fun h=>?_)<;>refine kW ?_
 ·(refine kS ?_;repeat intro γ);refine .of ?_
  have:l=[]:=by
   cases l with
   |nil=>rfl
   |cons c l=>have:=congrArg ByteArray.size h;simp[J0K] at this;cases this
  rw[this];rfl
 ·(refine kS ?_;repeat intro γ);refine J00 [] _ c354 JCv ?_;refine kX ?_;(refine kZ ?_;repeat intro γ);refine J0e (JHh 5 5 (x:=.op 5 γ 0 0) (y:=.ep (.agg (digs.map encB)) 0) rfl ((JGc rfl).trans ?_) (W.of (l:=[(0,encS (ofL l)),(1,encS tenS),(4,encS ⟨#[]⟩),(5,.ep (.agg (digs.map encB)) 0),(6,encB true)]) (m:=[]) ?_ ⟨rfl,rfl,rfl,rfl,rfl,trivial⟩ trivial))
  ·exact congrArg (fun z=>AV.ep (.agg z) 0) (by kernel_rfl:_=digs.map encB)
  (refine kWS ?_;repeat intro γ);refine J00 [] _ c356 (J8T l hl) ?_;(refine kWS ?_;repeat intro γ);refine J00 [] _ c355 (JAD _ (by omega)) ?_;(refine kWS ?_;repeat intro γ);exact .of rfl
theorem snoc {α:Type}(l:List α):l=[]∨∃ r d,l=r++[d]:=by
 rcases List.eq_nil_or_concat l with h|⟨r,d,h⟩
 ·exact .inl h
 ·exact .inr ⟨r,d,by rw[h,List.concat_eq_append]⟩
theorem J29 (ws:List Nat)(hl:ws.length<2^62):PX 314 [J0F ws] (J0F (trimF ws)):=by
 refine PZ Tryz.func314 rfl ?_;refine kWS ?_;intros;refine LoopP.intro (fun n σ H=>∃ l:List Nat,n=l.length∧l.length≤ws.length∧trimF l=trimF ws∧σ=fr [(0,J0F l)]∧H=hp []) ?_ ?_
 ·exact .intro <| W.of ⟨_,ws,rfl,Nat.le_refl _,rfl,rfl,rfl⟩ ⟨rfl,trivial⟩ trivial
 ·rintro n σ H ⟨l,rfl,hle,ht,rfl,rfl⟩
  rcases snoc l with rfl|⟨r,d,rfl⟩
  ·refine kWS ?_;intros;exact .of (by rw[← ht];rfl)
  ·have hr:r.length<ws.length:=by simp at hle;omega
   refine kWS ?_;intros;refine CondP.dec (fun h=>?_) (fun h=>?_)<;>refine kW ?_
   case' refine_2=>exact (h (by simp)).elim
   refine kS ?_;intros;have e1:((((r++[d]).map encw).length:Int)-1).toNat=r.length:=by simp
   have e2:((r++[d]).map encw).getD r.length .dead=encw d:=by simp
   simp only[e1,e2];refine kWS ?_;intros;rw[JCV] at ht;refine CondP.dec (fun h=>?_) (fun h=>?_)<;>refine kW ?_
   ·have hd:d=0:=by omega
    rw[if_pos hd] at ht;refine kS ?_;intros
    refine .intro <| W.of ⟨_,by simp,r,rfl,by omega,ht,rfl,rfl⟩ ⟨?_,trivial⟩ trivial
    show AV.sl 1 _=AV.sl 1 _
    simp
   ·have hd:¬ d=0:=by omega
    rw[if_neg hd] at ht;refine kS ?_;intros;exact .of (by rw[← ht];rfl)
theorem JE9 (ws:List Nat)(m:Bool)(hl:ws.length<2^62):PX 239 [J0F ws,encB m] (.agg [encB (m&&decide (trimF ws≠[])),J0F (trimF ws)]):=by
 refine PC [4] Tryz.func239 rfl (by rfl) rfl ?_;refine kWS ?_;intros;refine J00 [] _ c314 (J29 ws hl) ?_;generalize trimF ws=l;cases m
 ·refine kWS ?_;intros;exact .of rfl
 ·refine kWS ?_;intros;refine .of ?_
  cases l with
  |nil=>rfl
  |cons a b=>rw[show decide (a::b≠[])=true from by simp];simp;rfl
theorem J30 (xs ys:List Nat)(hx:xs.length<2^62)(hy:ys.length<2^62)(dx:Dig B9 xs)(dy:Dig B9 ys):PX 241 [J0F xs,J0F ys] (encI (cmpW xs ys)):=by
 refine PZ Tryz.func241 rfl ?_;unfold cmpW;refine kWS ?_;intros;refine CondP.dec (fun h=>?_) (fun h=>?_)<;>refine kW ?_
 ·(have h2:=h;try simp only[LN] at h2)
  have hl:xs.length=ys.length:=by omega
  refine kS ?_;intros;rw[if_pos hl];refine LoopP.intro (fun n σ H=>∃ i:Nat,n=i∧i≤xs.length∧xs.drop i=ys.drop i∧σ=fr [(0,J0F xs),(1,J0F ys),(5,encI ((i:Int)-1))]∧H=hp []) ?_ ?_
  ·exact .intro <| W.of ⟨_,xs.length,rfl,Nat.le_refl _,by rw[List.drop_of_length_le (by omega),List.drop_of_length_le (by omega)],rfl,rfl⟩ ⟨rfl,rfl,by simp;rfl,trivial⟩ trivial
  ·rintro n σ H ⟨i,rfl,hi,he,rfl,rfl⟩;refine kWS ?_;intros;refine CondP.dec (fun h=>?_) (fun h=>?_)<;>refine kW ?_
   ·obtain ⟨i,rfl⟩:∃ k,n=k+1:=⟨n-1,by omega⟩;have e1:(((i+1:Nat):Int)-1)=i:=by omega
    simp only[e1];have h1:=g9 dx i (by omega);have h2:=g9 dy i (by omega);refine kR ?_;intros;refine CondP.dec (fun h=>?_) (fun h=>?_)<;>refine kW ?_
    ·refine kS ?_;intros
     refine .intro <| W.of ⟨_,by omega,i,rfl,by omega,?_,rfl,rfl⟩ ⟨rfl,rfl,rfl,trivial⟩ trivial
     rw[List.drop_eq_getElem_cons (by omega),List.drop_eq_getElem_cons (by omega:i<ys.length),he,show xs[i]=ys[i] from by omega]
    ·refine kR ?_;intros;refine .of ?_;rw[JFe xs ys i (by omega) (by omega) he (by omega)];rfl
   ·obtain rfl:n=0:=by omega
    simp only[List.drop_zero] at he;subst he;refine kS ?_;intros;exact .of (by rw[J9X];rfl)
 ·(have h2:=h;try simp only[LN] at h2)
  refine kS ?_;intros;exact .of (by rw[if_neg (by omega)];simp only[List.length_map];rfl)
theorem J9Y (xs:List Nat)(hl:xs.length≤2^40):HCall Tryz.prog 315 [J0F xs] (hp []) (J9w 5 0 xs.length 285 1 (xs.map encw)):=by
 refine J4n (E:=E 0) J4L (JKl 0) Tryz.func315 rfl (by rfl) (Nat.le_of_ble_eq_true rfl) ?_;(refine kWS ?_;repeat intro γ);refine Need.intro ?_ ?_
 ·by_cases h:xs=[]
  ·right;subst h;refine kV ?_;refine CondP.tt ?_;refine kV ?_;refine JHS ?_;refine J9j 2 5 285 1 rfl rfl fun γ=>?_;refine W.of (l:=[(2,.own 5 γ 0 0)]) (m:=[(5,γ,⟨285,1,[]⟩)]) ?_ ⟨rfl,trivial⟩ ⟨rfl,trivial⟩;(refine kWS ?_;repeat intro γ);exact EndH.of (m:=[(5,γ,⟨285,1,[]⟩)]) ⟨rfl,trivial⟩ ⟨γ,rfl,rfl⟩
  ·left
   simpa using h
 ·(refine kWS ?_;repeat intro γ);rename_i γ;refine EndH.of (m:=[(5,γ,⟨285,1,xs.map encw⟩)]) ⟨rfl,trivial⟩ ⟨γ,?_,rfl⟩;simp;rfl
def J5O (a b:List Nat):List Nat:=if a.length<b.length then addC B9 0 b a else addC B9 0 a b
theorem J8n (a b:List Nat):(J5O a b).length=max a.length b.length+1:=by
 unfold J5O;split<;>rw[J8C]<;>omega
theorem J5N {a b:List Nat}(ha:Dig B9 a)(hb:Dig B9 b):Dig B9 (J5O a b):=by
 unfold J5O;split
 ·exact J4w hB9 _ _ _ (by omega) hb ha
 ·exact J4w hB9 _ _ _ (by omega) ha hb
theorem JGu (a b:List Nat):vl B9 (J5O a b)=vl B9 a+vl B9 b:=by
 unfold J5O;split
 ·rw[J8B _ _ _ (by omega)];omega
 ·rw[J8B _ _ _ (by omega)];omega
theorem JEd (xs ys:List Nat)(hx:xs.length<2^40)(hy:ys.length<2^40)(dx:Dig B9 xs)(dy:Dig B9 ys):PX 240 [J0F xs,J0F ys] (J0F (J5O xs ys)):=by
 refine PC [20] Tryz.func240 rfl (by rfl) rfl ?_;unfold J5O;refine kWS ?_;intros;refine CondP.dec (fun h=>?_) (fun h=>?_)<;>refine kW ?_
 case' refine_1=>
  (have h2:=h;try simp only[LN] at h2)
  refine kS ?_;intros;rw[if_pos (by omega)];have hle:xs.length≤ys.length:=by omega
  clear h h2
  revert hx hy dx dy hle
  generalize xs=b;generalize ys=a;intro hb ha db da hle
 case' refine_2=>
  (have h2:=h;try simp only[LN] at h2)
  refine kS ?_;intros;rw[if_neg (by omega)];have hle:ys.length≤xs.length:=by omega
  clear h h2
  revert hx hy dx dy hle
  generalize xs=a;generalize ys=b;intro ha hb da db hle
 all_goals
  simp only[List.length_map];generalize hR:addC B9 0 a b=R
  refine LoopP.intro (fun n σ H=>∃ p i c,∃ out:List Nat,i≤a.length∧n=a.length-i∧out.length=i∧c≤1∧out++addC B9 c (a.drop i) (b.drop i)=R ∧
   σ=fr [(1,J0F b),(5,.own 20 p 0 i),(6,encw c),(21,J0F a),(22,encI a.length),(23,encI i)]∧H=hp [(20,p,⟨285,1,out.map encw⟩)]) ?_ ?_
  ·exact .intro <| W.of ⟨_,_,0,0,[],Nat.zero_le _,rfl,rfl,by omega,hR,rfl,rfl⟩ ⟨rfl,rfl,rfl,rfl,rfl,rfl,trivial⟩ ⟨rfl,trivial⟩
  ·rintro n σ H ⟨p,i,c,out,hi,rfl,ho,hc,hR,rfl,rfl⟩;refine kWS ?_;intros;refine CondP.dec (fun h=>?_) (fun h=>?_)<;>refine kW ?_
   ·(have h2:=h;try simp only[LN] at h2)
    have hi':i<a.length:=by omega
    have h1:=g9 da i hi';refine kS ?_;intros
    (simp (disch:=omega) only [LG];refine kW ?_)
    refine kS ?_;intros;rw[List.drop_eq_getElem_cons hi'] at hR;refine CondP.dec (fun h=>?_) (fun h=>?_)<;>refine kW ?_
    ·(have h2:=h;try simp only[LN] at h2)
     have hib:i<b.length:=by omega
     have h2:=g9 db i hib;rw[List.drop_eq_getElem_cons hib,addC,List.append_cons] at hR;refine kR ?_;intros
     (simp (disch:=omega) only [TD])
     refine kR ?_;intros
     refine .intro <| W.of ⟨_,by omega,_,i+1,_,out++[_],hi',rfl,by simp[ho],?_,hR,rfl,rfl⟩ ⟨rfl,rfl,rfl,rfl,rfl,rfl,trivial⟩ ⟨?_,trivial⟩
     ·show (a[i]+c+b[i])/1000000000≤1;omega
     ·simp;rfl
    ·(have h2:=h;try simp only[LN] at h2)
     have hib:b.length≤i:=by omega
     rw[List.drop_eq_nil_of_le hib,addC,List.append_cons] at hR;refine kR ?_;intros
     (simp (disch:=omega) only [TD])
     refine kR ?_;intros
     refine .intro <| W.of ⟨_,by omega,_,i+1,_,out++[(a[i]+c)%B9],hi',rfl,by simp[ho],?_,?_,rfl,rfl⟩ ⟨rfl,rfl,rfl,rfl,rfl,rfl,trivial⟩ ⟨?_,trivial⟩
     rotate_left 1
     ·rw[List.drop_eq_nil_of_le (by omega:b.length≤i+1)];exact hR
     ·simp;rfl
     ·show (a[i]+c)/1000000000≤1;omega
   ·(have h2:=h;try simp only[LN] at h2)
    rw[List.drop_eq_nil_of_le (by omega:a.length≤i),addC] at hR;refine kR ?_;intros;subst hR;exact .of (endW (by simp;rfl) (by simp[ho]))
theorem J5W (xs ys:List Nat)(hx:xs.length<2^40)(hy:ys.length≤xs.length)(dx:Dig B9 xs)(dy:Dig B9 ys):PX 242 [J0F xs,J0F ys] (J0F (subC B9 0 xs ys)):=by
 refine PC [10] Tryz.func242 rfl (by rfl) rfl ?_;generalize hR:subC B9 0 xs ys=R;refine kWS ?_;intros;refine CallP.frame 1000000 [(5,10)] rfl c315 (J9Y xs (by omega)) rfl trivial ?_;rintro r0 h' ⟨δ,rfl,rfl⟩;refine ⟨[(10,δ,⟨285,1,xs.map encw⟩)],⟨J1x encw _ (fun _=>rfl) ..,trivial⟩,?_⟩;refine kWS ?_;intros;simp only[List.length_map]
 refine LoopP.intro (fun n σ H=>∃ p i c,∃ out:List Nat,i≤xs.length∧n=xs.length-i∧out.length=i∧c≤1∧out++subC B9 c (xs.drop i) (ys.drop i)=R ∧
  σ=fr [(1,J0F ys),(5,.own 10 p 0 xs.length),(6,encI c),(12,encI xs.length),(13,encI i)]∧H=hp [(10,p,⟨285,1,(out++xs.drop i).map encw⟩)]) ?_ ?_
 ·exact .intro <| W.of ⟨_,_,0,0,[],Nat.zero_le _,rfl,rfl,by omega,hR,rfl,rfl⟩ ⟨rfl,rfl,rfl,rfl,rfl,trivial⟩ ⟨rfl,trivial⟩
 ·rintro n σ H ⟨p,i,c,out,hi,rfl,ho,hc,hR,rfl,rfl⟩;have hlen:((out++xs.drop i).map encw).length=xs.length:=by simp;omega
  refine kWS ?_;intros;refine CondP.dec (fun h=>?_) (fun h=>?_)<;>refine kW ?_
  ·have hi':i<xs.length:=by omega
   have h1:=g9 dx i hi'
   have hget:((out++xs.drop i).map encw).getD i .dead=encw xs[i]:=by
    rw[J2D _ _ _ (by simp;omega)];simp[List.getElem_append,ho]
   rw[List.drop_eq_getElem_cons hi'] at hR hget hlen ⊢;refine kS ?_;intros;simp only[Int.toNat_natCast,Nat.zero_add,hget];refine kWS ?_;intros;refine CondP.dec (fun h=>?_) (fun h=>?_)<;>refine kW ?_
   ·(have h2:=h;try simp only[LN] at h2)
    have hib:i<ys.length:=by omega
    have h2:=g9 dy i hib;rw[List.drop_eq_getElem_cons hib,subC,List.append_cons] at hR;refine kR ?_;intros;refine CondP.dec (fun h=>?_) (fun h=>?_)<;>refine kW ?_
    ·refine kR ?_;intros;simp only[hget];refine kWR ?_;intros;rw[if_pos (by omega),if_pos (by omega)] at hR
     refine .intro <| W.of ⟨_,by omega,_,i+1,1,out++[xs[i]+1000000000-(c+ys[i])],hi',rfl,by simp[ho],by omega,?_,rfl,rfl⟩ ⟨rfl,rfl,rfl,rfl,rfl,trivial⟩ ⟨putw _ (by omega) ho.symm (by omega),trivial⟩
     exact hR
    ·refine kR ?_;intros;simp only[hget];refine kWR ?_;intros;rw[if_neg (by omega),if_neg (by omega)] at hR
     refine .intro <| W.of ⟨_,by omega,_,i+1,0,out++[xs[i]-(c+ys[i])],hi',rfl,by simp[ho],by omega,?_,rfl,rfl⟩ ⟨rfl,rfl,rfl,rfl,rfl,trivial⟩ ⟨putw _ (by omega) ho.symm (by omega),trivial⟩
     exact hR
   ·(have h2:=h;try simp only[LN] at h2)
    have hib:ys.length≤i:=by omega
    rw[List.drop_eq_nil_of_le hib,subC,List.append_cons] at hR;refine kR ?_;intros;refine CondP.dec (fun h=>?_) (fun h=>?_)<;>refine kW ?_
    ·refine kR ?_;intros;simp only[hget];refine kWR ?_;intros;rw[if_pos (by omega),if_pos (by omega)] at hR
     refine .intro <| W.of ⟨_,by omega,_,i+1,1,out++[xs[i]+1000000000-c],hi',rfl,by simp[ho],by omega,?_,rfl,rfl⟩ ⟨rfl,rfl,rfl,rfl,rfl,trivial⟩ ⟨putw _ (by omega) ho.symm (by omega),trivial⟩
     rw[List.drop_eq_nil_of_le (by omega:ys.length≤i+1)];exact hR
    ·refine kR ?_;intros;simp only[hget];refine kWR ?_;intros;rw[if_neg (by omega),if_neg (by omega)] at hR
     refine .intro <| W.of ⟨_,by omega,_,i+1,0,out++[xs[i]-c],hi',rfl,by simp[ho],by omega,?_,rfl,rfl⟩ ⟨rfl,rfl,rfl,rfl,rfl,trivial⟩ ⟨putw _ (by omega) ho.symm (by omega),trivial⟩
     rw[List.drop_eq_nil_of_le (by omega:ys.length≤i+1)];exact hR
  ·(have h2:=h;try simp only[LN] at h2)
   refine kS ?_;intros;rw[List.drop_eq_nil_of_le (by omega:xs.length≤i)] at hR ⊢;simp only[subC,List.append_nil] at hR ⊢;subst hR;exact .of (endW rfl (by omega))
def zl (z:Int):Nat:=(dg B9 z.natAbs).length
theorem J0L (z:Int):encZ z=.agg [.val (.bool (decide (z<0))),.sl 1 ((dg B9 z.natAbs).map encw)]:=rfl
theorem JIg {l:List Nat}(h:Dig B9 l):J0F (trimF l)=encW (vl B9 l):=by rw[J1h hB9 h];rfl
theorem J0Z (ws:List Nat)(m:Bool)(hl:ws.length<2^62)(hd:Dig B9 ws):PX 239 [J0F ws,encB m] (encZ (if m then -(vl B9 ws:Int) else vl B9 ws)):=by
 have h:=JE9 ws m hl
 have e:(AV.agg [encB (m&&decide (trimF ws≠[])),J0F (trimF ws)])=encZ (if m then -(vl B9 ws:Int) else vl B9 ws):=by
  rw[JIg hd,J1h hB9 hd]
  have:decide (dg B9 (vl B9 ws)≠[])=decide (vl B9 ws≠0):=by
   refine decide_eq_decide.2 ?_;rw[ne_eq,ne_eq,J5w hB9]
  rw[this];unfold encZ;cases m
  ·simp only[Bool.false_and,Bool.false_eq_true,if_false,Int.natAbs_natCast];rw[decide_eq_false (by omega)]
  ·simp only[Bool.true_and,if_true,Int.natAbs_neg,Int.natAbs_natCast];rw[show decide (vl B9 ws≠0)=decide (-(vl B9 ws:Int)<0) from decide_eq_decide.2 (by omega)]
 rw[e] at h;exact h
theorem JCC (z:Int)(hz:zl z<2^40):PX 222 [encZ z] (encZ (-z)):=by
 refine PZ Tryz.func222 rfl ?_;rw[J0L z];refine kWS ?_;intros;refine J00 [] _ c239 (J0Z (dg B9 z.natAbs) (!decide (z<0)) (by unfold zl at hz;omega) (J0I hB9 _)) ?_;rw[J17 hB9];have e:(if (!decide (z<0))=true then -(z.natAbs:Int) else z.natAbs)=-z:=by split<;>simp_all<;>omega
 rw[e];refine kWS ?_;intros;exact .of rfl
theorem JCI (z:Int):PX 304 [encZ z] (encZ z.natAbs):=by
 refine PZ Tryz.func304 rfl ?_;rw[J0L z];refine kWS ?_;intros;refine .of ?_;rw[J0L,decide_eq_false (by omega)];rfl
theorem JFp (z:Int):PX 288 [encZ z] (encB (decide (z=0))):=by
 refine PZ Tryz.func288 rfl ?_;rw[J0L z];refine kWS ?_;intros;refine .of ?_;show AV.val (.bool (decide _))=AV.val (.bool (decide _))
 congr 2
 refine decide_eq_decide.2 ?_;have:=J5w hB9 z.natAbs;rw[List.length_map];constructor
 ·intro h;have:=this.1 (List.length_eq_zero_iff.1 (by omega));omega
 ·rintro rfl;simp[J1S]
def sgn (z:Int):Int:=if z=0 then 0 else if z<0 then -1 else 1
theorem J8I (z:Int):PX 193 [encZ z] (encI (sgn z)):=by
 refine PZ Tryz.func193 rfl ?_;unfold sgn;rw[J0L z];refine kWS ?_;intros;refine CallP.flat [] _ c288 (JFp z) rfl ?_;refine kWS ?_;intros;refine CondP.dec (fun h=>?_) (fun h=>?_)<;>refine kW ?_
 ·refine kS ?_;intros;exact .of (by rw[if_pos h];rfl)
 ·rw[if_neg h];refine kS ?_;intros;refine CondP.dec (fun h=>?_) (fun h=>?_)<;>refine kW ?_
  ·refine kS ?_;intros;exact .of (by rw[if_pos h];rfl)
  ·refine kS ?_;intros;exact .of (by rw[if_neg h];rfl)
theorem J4X (z:Int):PX 165 [encZ z] (encB (decide (z=1))):=by
 refine PZ Tryz.func165 rfl ?_;rw[J0L z];have hv:=J17 hB9 z.natAbs;have hg:=J0I hB9 z.natAbs
 by_cases hz:z<0
 ·rw[decide_eq_true hz];refine kWS ?_;intros;exact .of (by rw[decide_eq_false (by omega)];rfl)
 rw[decide_eq_false hz]
 rcases hl:dg B9 z.natAbs with _|⟨d,_|⟨e,r⟩⟩
 ·rw[hl] at hv;refine kWS ?_;intros;exact .of (by rw[decide_eq_false (by simp[vl] at hv;omega)];rfl)
 ·rw[hl] at hv;simp only[vl] at hv;refine kWS ?_;intros;refine .of ?_;show AV.val (.bool (decide _))=AV.val (.bool (decide _))
  congr 2
  exact decide_eq_decide.2 (by omega)
 ·refine kWS ?_;intros;refine .of ?_;rw[decide_eq_false];rfl;rintro rfl;rw[show (1:Int).natAbs=1 from rfl,J5v hB9 (by omega) (by decide)] at hl;simp at hl
theorem J8A {b:Nat}(hb:1<b)(m n:Nat):cmpW (dg b m) (dg b n)<0↔m<n:=by
 have:=JFc hb m n;omega
theorem JBf (m n:Nat):vl B9 (J5O (dg B9 m) (dg B9 n))=m+n:=by rw[JGu,J17 hB9,J17 hB9]
theorem J44 {m n:Nat}(h:n≤m):vl B9 (subC B9 0 (dg B9 m) (dg B9 n))=m-n:=by
 have:=J59 hB9 (dg B9 m) (dg B9 n) 0 (by omega) (J0I hB9 m) (J0I hB9 n) (J0q hB9 h) (by rw[J17 hB9,J17 hB9];omega);rw[J17 hB9,J17 hB9] at this;omega
theorem JCH (x y:Int)(hx:zl x<2^39)(hy:zl y<2^39):PX 166 [encZ x,encZ y] (encZ (x+y)):=by
 refine PZ Tryz.func166 rfl ?_;unfold zl at hx hy;have dx:=J0I hB9 x.natAbs;have dy:=J0I hB9 y.natAbs;have lm:=J8n (dg B9 x.natAbs) (dg B9 y.natAbs);have vm:=JBf x.natAbs y.natAbs;rw[J0L x,J0L y];cases hsx:decide (x<0)<;>cases hsy:decide (y<0)
 ·simp only[decide_eq_false_iff_not] at hsx hsy;refine kWS ?_;intros;refine CallG.intro _ c240 (JEd _ _ (by omega) (by omega) dx dy) ?_;refine kWS ?_;intros;refine CallG.intro _ c239 (J0Z (J5O (dg B9 x.natAbs) (dg B9 y.natAbs)) false (by omega) (J5N dx dy)) ?_;rw[vm];refine kWS ?_;intros;refine .of ?_;show encZ _=encZ _
  congr 1;simp only[if_true,Bool.false_eq_true,if_false];omega
 ·simp only[decide_eq_true_eq,decide_eq_false_iff_not] at hsx hsy;refine kWS ?_;intros;refine CallP.flat [] _ c241 (J30 _ _ (by omega) (by omega) dx dy) rfl ?_;have hc:=J8A hB9 x.natAbs y.natAbs;refine kWS ?_;intros;refine CondP.dec (fun h=>?_) (fun h=>?_)<;>refine kW ?_
  ·have hle:y.natAbs≤x.natAbs:=by omega
   have hl:=J0q hB9 hle;refine kS ?_;intros;refine CallG.intro _ c242 (J5W _ _ (by omega) hl dx dy) ?_;refine kWS ?_;intros;refine CallG.intro _ c239 (J0Z (subC B9 0 (dg B9 x.natAbs) (dg B9 y.natAbs)) false (by rw[J1i];omega) (J1j hB9 _ _ _ (by omega) dx dy)) ?_;rw[J44 hle];refine kWS ?_;intros;refine .of ?_;show encZ _=encZ _
   congr 1;simp only[if_true,Bool.false_eq_true,if_false];omega
  ·have hle:x.natAbs≤y.natAbs:=by omega
   have hl:=J0q hB9 hle;refine kS ?_;intros;refine CallG.intro _ c242 (J5W _ _ (by omega) hl dy dx) ?_;refine kWS ?_;intros;refine CallG.intro _ c239 (J0Z (subC B9 0 (dg B9 y.natAbs) (dg B9 x.natAbs)) true (by rw[J1i];omega) (J1j hB9 _ _ _ (by omega) dy dx)) ?_;rw[J44 hle];refine kWS ?_;intros;refine .of ?_;show encZ _=encZ _
   congr 1;simp only[if_true,Bool.false_eq_true,if_false];omega
 ·simp only[decide_eq_true_eq,decide_eq_false_iff_not] at hsx hsy;refine kWS ?_;intros;refine CallP.flat [] _ c241 (J30 _ _ (by omega) (by omega) dx dy) rfl ?_;have hc:=J8A hB9 x.natAbs y.natAbs;refine kWS ?_;intros;refine CondP.dec (fun h=>?_) (fun h=>?_)<;>refine kW ?_
  ·have hle:y.natAbs≤x.natAbs:=by omega
   have hl:=J0q hB9 hle;refine kS ?_;intros;refine CallG.intro _ c242 (J5W _ _ (by omega) hl dx dy) ?_;refine kWS ?_;intros;refine CallG.intro _ c239 (J0Z (subC B9 0 (dg B9 x.natAbs) (dg B9 y.natAbs)) true (by rw[J1i];omega) (J1j hB9 _ _ _ (by omega) dx dy)) ?_;rw[J44 hle];refine kWS ?_;intros;refine .of ?_;show encZ _=encZ _
   congr 1;simp only[if_true,Bool.false_eq_true,if_false];omega
  ·have hle:x.natAbs≤y.natAbs:=by omega
   have hl:=J0q hB9 hle;refine kS ?_;intros;refine CallG.intro _ c242 (J5W _ _ (by omega) hl dy dx) ?_;refine kWS ?_;intros;refine CallG.intro _ c239 (J0Z (subC B9 0 (dg B9 y.natAbs) (dg B9 x.natAbs)) false (by rw[J1i];omega) (J1j hB9 _ _ _ (by omega) dy dx)) ?_;rw[J44 hle];refine kWS ?_;intros;refine .of ?_;show encZ _=encZ _
   congr 1;simp only[if_true,Bool.false_eq_true,if_false];omega
 ·simp only[decide_eq_true_eq] at hsx hsy;refine kWS ?_;intros;refine CallG.intro _ c240 (JEd _ _ (by omega) (by omega) dx dy) ?_;refine kWS ?_;intros;refine CallG.intro _ c239 (J0Z (J5O (dg B9 x.natAbs) (dg B9 y.natAbs)) true (by omega) (J5N dx dy)) ?_;rw[vm];refine kWS ?_;intros;refine .of ?_;show encZ _=encZ _
  congr 1;simp only[if_true,Bool.false_eq_true,if_false];omega
theorem JHr (x y:Int):zl (x+y)≤max (zl x) (zl y)+1:=by
 unfold zl;have h1:(x+y).natAbs≤x.natAbs+y.natAbs:=Int.natAbs_add_le x y;have h2:=J0q hB9 h1;have h3:=JBf x.natAbs y.natAbs;have h4:=J9K hB9 (J5N (J0I hB9 x.natAbs) (J0I hB9 y.natAbs));rw[h3,J8n] at h4;omega
theorem J6U (x:Int):zl (-x)=zl x:=by unfold zl;rw[Int.natAbs_neg]
theorem JFs (x y:Int)(hx:zl x<2^39)(hy:zl y<2^39):PX 305 [encZ x,encZ y] (encZ (x-y)):=by
 refine PZ Tryz.func305 rfl ?_;rw[J0L x,J0L y];refine kWS ?_;intros;refine CallG.intro _ c222 (JCC y (by omega)) ?_;refine kWS ?_;intros;refine CallG.intro _ c166 (JCH x (-y) hx (by rw[J6U];exact hy)) ?_;rw[← Int.sub_eq_add_neg];refine kWS ?_;intros;exact .of rfl
theorem JKn (x y:Int)(hx:zl x<2^39)(hy:zl y<2^39):PX 218 [encZ x,encZ y] (encI (sgn (x-y))):=by
 refine PZ Tryz.func218 rfl ?_;rw[J0L x,J0L y];refine kWS ?_;intros;refine J00 [] _ c305 (JFs x y hx hy) ?_;refine kWS ?_;intros;refine CallP.flat [] _ c193 (J8I (x-y)) rfl ?_;refine kWS ?_;intros;exact .of rfl
theorem JKe {x y o c:Nat}(hx:x<1000000000)(hy:y<1000000000)(ho:o<1000000000)(hc:c<1000000000):x*y+o+c<1000000000000000000∧(x*y+o+c)/1000000000<1000000000:=JHX (b:=1000000000) hx hy ho hc rfl
theorem JIy {b i j V a y vt vt':Nat}(h:vt'=vt+y*b ^ j):V+a*vt*b ^ i+a*y*b ^ (i+j)=V+a*vt'*b ^ i:=by
 subst h;rw[Nat.pow_add];grind
theorem JIz {b i vx vx' a vy:Nat}(h:vx'=vx+a*b ^ i):vx*vy+a*vy*b ^ i=vx'*vy:=by subst h;grind
def JCz (p g2 g3 g4:Nat)(out X Y:List Nat)(sx sy:Bool):List (Nat×Nat×Blk):=[(22,p,⟨285,1,out.map encw⟩),(2,g2,⟨102,2,[.agg [encB sx,J0F X]]⟩),(3,g3,⟨102,2,[.agg [encB sy,J0F Y]]⟩),(4,g4,⟨102,2,[.agg [encB false,.val (.slice none 0 0)]]⟩)]
theorem J3t (x y:Int)(hx:zl x<2^39)(hy:zl y<2^39):PX 168 [encZ x,encZ y] (encZ (x*y)):=by
 refine PC [22] Tryz.func168 rfl (by rfl) rfl ?_;unfold zl at hx hy;have dx:=J0I hB9 x.natAbs;have dy:=J0I hB9 y.natAbs;have vx:=J17 hB9 x.natAbs;have vy:=J17 hB9 y.natAbs;rw[J0L x,J0L y];generalize hX:dg B9 x.natAbs=X at hx dx vx;generalize hY:dg B9 y.natAbs=Y at hy dy vy;refine kWS ?_;intros;have e0:((((X.map encw).length:Int)+((Y.map encw).length:Int)+1).toNat)=X.length+Y.length+1:=by simp;omega
 simp only[e0,repw,List.length_map]
 refine LoopP.intro (fun n σ H=>∃ g2 g3 g4 p i,∃ out:List Nat,i≤X.length∧n=X.length-i∧out.length=X.length+Y.length+1∧Dig B9 out∧vl B9 out=vl B9 (X.take i)*vl B9 Y ∧
  σ=fr [(2,.op 2 g2 0 0),(3,.op 3 g3 0 0),(4,.op 4 g4 0 0),(5,.own 22 p 0 (X.length+Y.length+1)),(24,J0F X),(25,encI X.length),(26,encI i)]∧H=hp (JCz p g2 g3 g4 out X Y (decide (x<0)) (decide (y<0)))) ?_ ?_
 ·exact .intro <| W.of ⟨_,_,_,_,_,0,List.replicate (X.length+Y.length+1) 0,Nat.zero_le _,rfl,by simp,JJp (by decide) _,by rw[JK0];simp[vl],rfl,rfl⟩ ⟨rfl,rfl,rfl,rfl,rfl,rfl,rfl,trivial⟩ ⟨rfl,rfl,rfl,rfl,trivial⟩
 ·rintro n σ H ⟨g2,g3,g4,p,i,out,hi,rfl,hl,hd,hv,rfl,rfl⟩;unfold JCz;refine kWS ?_;intros;refine CondP.dec (fun h=>?_) (fun h=>?_)<;>refine kW ?_
  ·(have h2:=h;try simp only[LN] at h2)
   have hi':i<X.length:=by omega
   have hxi:=g9 dx i hi';have htk:=JDm (b:=B9) X i hi';refine kR ?_;intros;generalize X[i]=a at hxi htk;generalize hV:vl B9 (X.take i)*vl B9 Y=V at hv
   refine LoopP.intro (fun n σ H=>∃ g2 g3 g4 p j c,∃ out:List Nat,j≤Y.length∧n=Y.length-j∧out.length=X.length+Y.length+1∧Dig B9 out∧c<1000000000∧vl B9 out+c*B9 ^ (i+j)=V+a*vl B9 (Y.take j)*B9 ^ i ∧
    σ=fr [(2,.op 2 g2 0 0),(3,.op 3 g3 0 0),(4,.op 4 g4 0 0),(5,.own 22 p 0 (X.length+Y.length+1)),(24,J0F X),(25,encI X.length),(26,encI i),(6,encI i),(7,encw a),(8,.val (.int .u64 c)),(32,J0F Y),(33,encI Y.length),(34,encI j)]∧H=hp (JCz p g2 g3 g4 out X Y (decide (x<0)) (decide (y<0)))) ?_ ?_
   ·exact .intro <| W.of ⟨_,_,_,_,_,0,0,out,Nat.zero_le _,rfl,hl,hd,by omega,by simp[vl,hv],rfl,rfl⟩ ⟨rfl,rfl,rfl,rfl,rfl,rfl,rfl,rfl,rfl,rfl,rfl,rfl,rfl,trivial⟩ ⟨rfl,rfl,rfl,rfl,trivial⟩
   ·clear hd hv hl g2 g3 g4 p out;rintro n σ H ⟨g2,g3,g4,p,j,c,out,hj,rfl,hl,hd,hc,hv,rfl,rfl⟩;unfold JCz;refine kWS ?_;intros;refine CondP.dec (fun h=>?_) (fun h=>?_)<;>refine kW ?_
    ·(have h2:=h;try simp only[LN] at h2)
     have hj':j<Y.length:=by omega
     have hyj:=g9 dy j hj';have htj:=JDm (b:=B9) Y j hj';have ho:=g9 hd (i+j) (by omega);have hs:=JKe hxi hyj ho hc;have hstep:=JBe (b:=B9) (s:=a*Y[j]+out[i+j]+c) (T:=a*Y[j]) (by omega) hv rfl;rw[JIy htj] at hstep;have e1:((i:Int)+(j:Int)).toNat=i+j:=by omega
     refine kR ?_;intros;have hm:(a:Int)*(Y[j]:Nat)=((a*Y[j]:Nat):Int):=(Int.natCast_mul _ _).symm;generalize a*Y[j]=q at hm hs hstep;simp only[hm];refine kR ?_;intros;simp only[e1,Nat.zero_add];refine kR ?_;intros;have hq:(q:Int)+(out[i+j]:Nat)+c=((q+out[i+j]+c:Nat):Int):=by omega
     generalize q+out[i+j]+c=s at hq hs hstep;simp only[hq,T9];refine kR ?_;intros;simp only[e1,Nat.zero_add];rw[J2D encw out (i+j) (by omega)];refine kWR ?_;intros
     try simp only[T9]
     refine kR ?_;intros
     refine .intro <| W.of ⟨_,by omega,g2,g3,g4,_,j+1,s/1000000000,out.set (i+j) (s%1000000000),hj',rfl,by simp[hl],hd.set _ (Nat.mod_lt _ (by decide)),hs.2,hstep,rfl,rfl⟩ ⟨rfl,rfl,rfl,rfl,rfl,rfl,rfl,rfl,rfl,rfl,rfl,rfl,rfl,trivial⟩ ⟨?_,rfl,rfl,rfl,trivial⟩
     rw[← setw (z:=((s%1000000000:Nat):Int)) _ rfl];rfl
    ·(have h2:=h;try simp only[LN] at h2)
     have hj2:j=Y.length:=by omega
     subst hj2;rw[List.take_length,← hV,JIz htk] at hv;refine kS ?_;intros;simp only[List.length_map]
     have hlt:vl B9 (X.take (i+1))*vl B9 Y<B9 ^ (i+1+Y.length):=by
      rcases JIt dx dy hi' with h|h|h
      ·exact h
      ·exact absurd h.2 (Nat.ne_of_gt (Nat.pow_pos (by decide)))
      ·exact absurd h (by decide)
     clear hV;generalize hT:vl B9 (X.take (i+1))*vl B9 Y=T1 at hv hlt
     refine LoopP.intro (fun n σ H=>∃ g2 g3 g4 p k c,∃ out:List Nat,k≤i+1+Y.length∧n=i+2+Y.length-k∧out.length=X.length+Y.length+1∧Dig B9 out∧c<1000000000∧vl B9 out+c*B9 ^ k=T1 ∧
      σ=fr [(2,.op 2 g2 0 0),(3,.op 3 g3 0 0),(4,.op 4 g4 0 0),(5,.own 22 p 0 (X.length+Y.length+1)),(24,J0F X),(25,encI X.length),(26,encI i),(8,.val (.int .u64 c)),(12,encI k)]∧H=hp (JCz p g2 g3 g4 out X Y (decide (x<0)) (decide (y<0)))) ?_ ?_
     ·exact .intro <| W.of ⟨_,g2,g3,g4,p,i+Y.length,c,out,by omega,rfl,hl,hd,hc,hv,rfl,rfl⟩ ⟨rfl,rfl,rfl,rfl,rfl,rfl,rfl,rfl,rfl,trivial⟩ ⟨rfl,rfl,rfl,rfl,trivial⟩
     ·clear hd hv hl hc g2 g3 g4 p out;rintro n σ H ⟨g2,g3,g4,p,k,c,out,hk,rfl,hl,hd,hc,hv,rfl,rfl⟩;unfold JCz;refine kWS ?_;intros;refine CondP.dec (fun h=>?_) (fun h=>?_)<;>refine kW ?_
      ·have hk2:=JES (b:=B9) (by decide) (show 0<c by omega) (by rw[← hv];exact Nat.le_add_left _ _:c*B9 ^ k≤T1) hlt;have ho:=g9 hd k (by omega);have hstep:=JBe (b:=B9) (s:=out[k]+c) (T:=0) (by omega) hv (by omega);have hq:((out[k]:Nat):Int)+c=((out[k]+c:Nat):Int):=by omega
       simp only[Nat.zero_mul,Nat.add_zero] at hstep;refine kR ?_;intros;generalize out[k]+c=s at hq hstep;simp only[hq,T9];refine kR ?_;intros;rw[Nat.zero_add,Int.toNat_natCast,J2D encw out k (by omega)];refine kWR ?_;intros
       try simp only[T9]
       refine kR ?_;intros
       refine .intro <| W.of ⟨_,by omega,g2,g3,g4,_,k+1,s/1000000000,out.set k (s%1000000000),by omega,rfl,by simp[hl],hd.set _ (Nat.mod_lt _ (by decide)),by omega,hstep,rfl,rfl⟩ ⟨rfl,rfl,rfl,rfl,rfl,rfl,rfl,rfl,rfl,trivial⟩ ⟨?_,rfl,rfl,rfl,trivial⟩
       rw[← setw (z:=((s%1000000000:Nat):Int)) _ rfl];rfl
      ·obtain rfl:c=0:=by omega
       simp only[Nat.zero_mul,Nat.add_zero] at hv;refine kS ?_;intros
       exact .intro <| W.of ⟨_,by omega,g2,g3,g4,p,i+1,out,hi',rfl,hl,hd,by rw[hT];exact hv,rfl,rfl⟩ ⟨rfl,rfl,rfl,rfl,rfl,rfl,rfl,trivial⟩ ⟨rfl,rfl,rfl,rfl,trivial⟩
  ·(have h2:=h;try simp only[LN] at h2)
   refine kS ?_;intros;rw[show i=X.length from by omega,List.take_length,vx,vy] at hv;refine J00 [22] _ c239 (J04 ?_ (J0Z out (!(decide (x<0)==decide (y<0))) (by omega) hd)) ?_
   ·show [snap _ _ (.own 22 p 0 _),snap _ _ (.val (.bool _))]=_
    rw[ownW rfl hl.symm];rfl
   rw[hv];refine kWS ?_;intros;refine .of ?_;show encZ _=encZ _
   congr 1
   exact JGs x y
def smallF (y:Nat):List Nat→List Nat
 |[]=>[]
 |d::r=>(vl B9 r%y*B9+d)/y::smallF y r
theorem J1r (y:Nat)(l:List Nat):(smallF y l).length=l.length:=by induction l<;>simp[smallF, *]
theorem J5B {y:Nat}(hy:0<y):∀ {l:List Nat},Dig B9 l→vl B9 (smallF y l)=vl B9 l/y∧Dig B9 (smallF y l)
 |[],_=>⟨by simp[smallF,vl],Dig.nil⟩
 |d::r,h=>by
   obtain ⟨ih,id⟩:=J5B hy h.tl;obtain ⟨h1,h2,h3⟩:=JCb (b:=B9) (by_:=y) (r:=vl B9 r%y) (d:=d) (Q:=vl B9 r/y) (R:=vl B9 r) (by rw[Nat.add_comm];exact (Nat.mod_add_div _ _).symm) (Nat.mod_lt _ hy) h.hd;refine ⟨?_,Dig.cons h2 id⟩;simp only[smallF,vl,ih];rw[h1,Nat.add_comm (y*_),Nat.add_mul_div_left _ _ hy,Nat.div_eq_of_lt h3,Nat.zero_add]
theorem JE7 {y:Nat}(hy:0<y){d:Nat}{r:List Nat}:(vl B9 r%y*B9+d)%y=vl B9 (d::r)%y:=by
 have h1:=Nat.mod_add_div (vl B9 r) y
 have:vl B9 (d::r)=(vl B9 r%y*B9+d)+y*(vl B9 r/y*B9):=by
  simp only[vl];have e:B9*(vl B9 r%y+y*(vl B9 r/y))=B9*vl B9 r:=by rw[h1]
  grind
 rw[this,Nat.add_mul_mod_self_left]
theorem JBI (l:List Nat)(y:Nat)(hl:l.length<2^39)(hd:Dig B9 l)(hy:0<y)(hy2:y<1000000000):PX 316 [J0F l,encw y] (.tup [J0F (smallF y l),encw (vl B9 l%y)]):=by
 refine PC [12] Tryz.func316 rfl (by rfl) rfl ?_;refine kWS ?_;intros;simp only[Int.toNat_natCast,List.length_map,repw]
 refine LoopP.intro (fun n σ H=>∃ p i,i≤l.length∧n=i ∧
  σ=fr [(0,J0F l),(1,encw y),(6,.own 12 p 0 l.length),(7,.val (.int .u64 (vl B9 (l.drop i)%y:Nat))),(8,encI ((i:Int)-1))]∧H=hp [(12,p,⟨285,1,(List.replicate i 0++smallF y (l.drop i)).map encw⟩)]) ?_ ?_
 ·refine .intro <| W.of ⟨_,_,l.length,Nat.le_refl _,rfl,rfl,rfl⟩ ⟨rfl,rfl,rfl,?_,rfl,trivial⟩ ⟨?_,trivial⟩
  ·rw[List.drop_of_length_le (Nat.le_refl _)];simp[vl];rfl
  ·rw[List.drop_of_length_le (Nat.le_refl _)];simp[smallF];rfl
 ·rintro n σ H ⟨p,i,hi,rfl,rfl,rfl⟩;refine kWS ?_;intros;refine CondP.dec (fun h=>?_) (fun h=>?_)<;>refine kW ?_
  ·obtain ⟨i,rfl⟩:∃ k,n=k+1:=⟨n-1,by omega⟩;have e1:(((i+1:Nat):Int)-1)=i:=by omega
   simp only[e1];have hi':i<l.length:=by omega
   have hli:=g9 hd i hi';have hr:=Nat.mod_lt (vl B9 (l.drop (i+1))) hy;have hm:=JE7 (y:=y) hy (d:=l[i]) (r:=l.drop (i+1));rw[← List.drop_eq_getElem_cons hi'] at hm;have hdr:smallF y (l.drop i)=(vl B9 (l.drop (i+1))%y*B9+l[i])/y::smallF y (l.drop (i+1)):=by rw[List.drop_eq_getElem_cons hi'];rfl
   have hlen:(List.replicate (i+1) 0++smallF y (l.drop (i+1))).length=l.length:=by simp[J1r];omega
   generalize hq:vl B9 (l.drop (i+1))%y=r at hr hm hdr
   have h9:(r*B9+l[i])/y<1000000000:=by
    refine Nat.div_lt_of_lt_mul ?_;have:=Nat.mul_le_mul_right 1000000000 (show r+1≤y from hr);show r*1000000000+l[i]<y*1000000000
    omega
   refine kR ?_;intros;have hs:(r:Int)*1000000000+(l[i]:Nat)=((r*1000000000+l[i]:Nat):Int):=by omega
   change (r*1000000000+l[i])%y=_ at hm
   change smallF y (l.drop i)=(r*1000000000+l[i])/y::_ at hdr
   change (r*1000000000+l[i])/y<_ at h9
   have hs2:r*1000000000+l[i]<1000000000000000000:=by omega
   generalize r*1000000000+l[i]=s at hs hm hdr h9 hs2;simp only[hs];refine kR ?_;intros;simp only[TN];generalize s/y=d at h9 hdr ⊢;refine kR ?_;intros
   refine .intro <| W.of ⟨_,by omega,_,i,by omega,rfl,rfl,rfl⟩ ⟨rfl,rfl,rfl,?_,rfl,trivial⟩ ⟨?_,trivial⟩
   ·rw[← hm];rfl
   ·rw[hdr,List.replicate_succ',List.append_assoc,List.append_cons];exact putw _ rfl (List.length_replicate ..).symm rfl
  ·obtain rfl:n=0:=by omega
   rw[List.drop_zero];have hr:=Nat.mod_lt (vl B9 l) hy;have hsl:=J1r y l;generalize vl B9 l%y=r at hr ⊢;refine kS ?_;intros;refine .of ?_;show AV.tup [AV.sl 1 _,_]=AV.tup [_,_]
   rw[endW rfl (by simp[J1r])];rfl
theorem J7R (n y:Nat)(hn:(dg B9 n).length<2^38)(hy:y<1000000000):PX 362 [encW n,encw y] (encW (n*y)):=by
 refine PZ Tryz.func362 rfl ?_;unfold encW;have hdy:Dig B9 [y]:=Dig.cons hy Dig.nil;have ey:trimF [y]=dg B9 y:=by rw[J1h hB9 hdy];simp[vl]
 have ly:(dg B9 y).length≤1:=J1A hB9 (by simpa using hy);refine kWS ?_;intros;refine J00 [8] _ c314 (J04 ?_ (J29 [y] (by simp))) ?_
 ·exact congrArg (fun z=>[z]) (ownW (out:=[y]) (n:=1) rfl rfl)
 rw[ey];refine kWS ?_;intros;refine J00 [] _ c168 (J04 ?_ (J3t n y (by unfold zl;simp;omega) (by unfold zl;simp;omega))) ?_
 ·have e1:encZ n=.agg [encB false,J0F (dg B9 n)]:=by rw[J0L,decide_eq_false (by omega)];rfl
  have e2:encZ y=.agg [encB false,J0F (dg B9 y)]:=by rw[J0L,decide_eq_false (by omega)];rfl
  rw[e1,e2];rfl
 refine kWS ?_;intros;refine .of ?_;rw[show ((n:Int)*y).natAbs=n*y by rw[← Int.natCast_mul];rfl];rfl
def guessF (p y:List Nat):Nat:=
 if p.length<y.length then 0
 else min ((p.getD (y.length-1) 0+p.getD y.length 0*B9)/y.getD (y.length-1) 0) (B9-1)
theorem JH5 (p y:List Nat):guessF p y<B9:=by
 unfold guessF;split
 ·decide
 ·have:B9-1<B9:=by decide
  omega
theorem JEp {p y n:Nat}(h:p<y*B9)(hn:(dg B9 y).length=n+1):p/y≤guessF (dg B9 p) (dg B9 y):=by
 unfold guessF;split
 ·rename_i hl;rw[Nat.div_eq_of_lt (J9J hB9 hl)];exact Nat.zero_le _
 ·rename_i hl;have hq:p/y<B9:=Nat.div_lt_of_lt_mul h;rw[hn] at hl ⊢;exact Nat.le_min.2 ⟨JEq hB9 h hn hl,Nat.le_sub_one_of_lt hq⟩
theorem JH4 (P Y:List Nat)(hp:P.length<2^39)(hy:Y.length<2^39)(dp:Dig B9 P)(dy:Dig B9 Y)(h0:0<Y.length)(ht:Y.getD (Y.length-1) 0≠0):PX 363 [J0F P,J0F Y] (encw (guessF P Y)):=by
 refine PZ Tryz.func363 rfl ?_;unfold guessF;obtain ⟨n,hn⟩:∃ n,Y.length=n+1:=⟨Y.length-1,by omega⟩;refine kWS ?_;intros;refine CondP.dec (fun h=>?_) (fun h=>?_)<;>refine kW ?_
 ·(have h2:=h;try simp only[LN] at h2)
  refine kS ?_;intros;exact .of (by rw[if_pos (by omega)];rfl)
 ·(have h2:=h;try simp only[LN] at h2)
  refine kS ?_;intros;rw[if_neg (by omega)];simp only[hn,Nat.add_sub_cancel] at ht ⊢;have e1:((((Y.map encw).length:Nat):Int)-1).toNat=n:=by simp[hn]
  have h1:=g9 dp n (by omega);have h2:=g9 dy n (by omega);simp only[e1];refine kR ?_;intros;have h3:Y[n]=Y.getD n 0:=J1X (by omega);have h4:P[n]=P.getD n 0:=J1X (by omega);have e3:((Y.length:Int)-1).toNat=n:=by omega
  have hy0:0<Y[n]:=by omega
  have fin:∀ s d:Nat,s/Y[n]=d→AV.val (.int .u32 (min (d:Int) 999999999))=encw (min (s/Y.getD n 0) (B9-1)):=fun s d e=>by
   rw[← h3,e];show AV.val (.int .u32 (min (d:Int) 999999999))=AV.val (.int .u32 ((min d 999999999:Nat):Int))
   congr 2;omega
  refine CondP.dec (fun h=>?_) (fun h=>?_)<;>refine kW ?_
  ·have h5:=g9 dp Y.length (by omega);have h6:P[Y.length]=P.getD (n+1) 0:=by rw[J1X,hn]
   refine kR ?_;intros;simp only[e3];refine kR ?_;intros;have hs:((P[n]:Nat):Int)+(P[Y.length]:Nat)*1000000000=((P[n]+P[Y.length]*1000000000:Nat):Int):=by omega
   have hs2:P[n]+P[Y.length]*1000000000<1000000000000000000:=by omega
   rw[← h4,← h6];have fin:=fin (P[n]+P[Y.length]*1000000000);have hd:=Nat.div_le_self (P[n]+P[Y.length]*1000000000) Y[n]
   change ∀ d,_→_=encw (min ((P[n]+P[Y.length]*B9)/_) _) at fin
   generalize encw (min ((P[n]+P[Y.length]*B9)/Y.getD n 0) (B9-1))=R at fin ⊢;generalize P[n]+P[Y.length]*1000000000=s at hs hs2 fin hd;simp only[hs,TN];generalize s/Y[n]=d at hd fin ⊢;refine kR ?_;intros;exact .of (fin d rfl)
  ·have h6:P.getD (n+1) 0=0:=by rw[List.getD_eq_getElem?_getD,List.getElem?_eq_none (by omega)];rfl
   rw[h6,← h4,Nat.zero_mul,Nat.add_zero];refine kR ?_;intros;simp only[e3];refine kR ?_;intros;have fin:=fin P[n];have hd:=Nat.div_le_self P[n] Y[n];generalize encw (min (P[n]/Y.getD n 0) (B9-1))=R at fin ⊢;simp only[TN];generalize P[n]/Y[n]=d at hd fin ⊢;refine kR ?_;intros;exact .of (fin d rfl)
theorem JHD {α:Type}{d:α}{a b:List α}(hl:a.length=b.length)(h:∀ i,i<a.length→a.getD i d=b.getD i d):a=b:=by
 refine List.ext_getElem hl fun i h1 h2=>?_;have:=h i h1
 simpa [List.getD_eq_getElem?_getD,h1,h2] using this
theorem JBs {α:Type}(l:List α)(i j:Nat)(x d:α):(l.set i x).getD j d=if i=j∧j<l.length then x else l.getD j d:=by
 simp only[List.getD_eq_getElem?_getD,List.getElem?_set]
 by_cases h:i=j
 ·subst h
  by_cases h2:i<l.length<;>simp[h2]
 ·simp[h]
theorem JH7 (l:List Nat)(k:Nat)(h:k<l.length):l.reverse.getD k 0=l.getD (l.length-1-k) 0:=by
 rw[List.getD_eq_getElem?_getD,List.getElem?_reverse h,List.getD_eq_getElem?_getD]
def Turn (l L:List Nat)(i:Nat):Prop:=L.length=l.length∧∀ k,k<l.length→L.getD k 0=if k<i∨l.length-1<k+i then l.getD (l.length-1-k) 0 else l.getD k 0
theorem Turn.step {l L:List Nat}{i:Nat}(h:Turn l L i)(hi:2*i+1<l.length):Turn l ((L.set i (L.getD (l.length-1-i) 0)).set (l.length-1-i) (L.getD i 0)) (i+1):=by
 obtain ⟨h1,h2⟩:=h;refine ⟨by simpa using h1,fun k hk=>?_⟩;rw[JBs,JBs];simp only[List.length_set];have hi1:=h2 i (by omega);have hj1:=h2 (l.length-1-i) (by omega);rw[if_neg (by omega)] at hi1 hj1
 by_cases e1:l.length-1-i=k
 ·rw[if_pos ⟨e1,by omega⟩,if_pos (by omega),hi1];congr 1;omega
 ·rw[if_neg (by omega)]
  by_cases e2:i=k
  ·rw[if_pos ⟨e2,by omega⟩,if_pos (by omega),hj1,e2]
  ·rw[if_neg (by omega),h2 k hk]
   by_cases e3:k<i∨l.length-1<k+i
   ·rw[if_pos e3,if_pos (by omega)]
   ·rw[if_neg e3,if_neg (by omega)]
theorem Turn.done {l L:List Nat}{i:Nat}(h:Turn l L i)(hi:l.length≤2*i+1):L=l.reverse:=by
 obtain ⟨h1,h2⟩:=h;refine JHD (d:=0) (by simpa using h1) fun k hk=>?_;rw[h2 k (by omega),JH7 l k (by omega)];split
 ·rfl
 ·congr 1;omega
theorem JCj (l:List Nat)(p:Nat)(hl:l.length<2^39):HCall Tryz.prog 364 [.own 50 p 0 l.length] (hp [(50,p,⟨285,1,l.map encw⟩)]) (fun r h=>r=.tup []∧h=hp [(50,p,⟨285,1,l.reverse.map encw⟩)]):=by
 refine J4n (E:=E 0) J4L (JKl 0) Tryz.func364 rfl (by rfl) (Nat.le_of_ble_eq_true rfl) ?_;refine kWS ?_;intros
 refine LoopP.intro (fun n σ H=>∃ i,∃ L:List Nat,Turn l L i∧n+i=l.length+1 ∧
  σ=fr [(0,.own 50 p 0 l.length),(2,encI i),(3,encI ((l.length:Int)-1-i))]∧H=hp [(50,p,⟨285,1,L.map encw⟩)]) ?_ ?_
 ·refine .intro <| W.of ⟨l.length+1,0,l,⟨rfl,fun k hk=>by rw[if_neg (by omega)]⟩,rfl,rfl,rfl⟩ ⟨rfl,rfl,?_,trivial⟩ ⟨rfl,trivial⟩
  show AV.val (.int .i64 _)=AV.val (.int .i64 _);congr 2;omega
 ·rintro n σ H ⟨i,L,hT,hn,rfl,rfl⟩;have hL:=hT.1;refine kWS ?_;intros;refine CondP.dec (fun h=>?_) (fun h=>?_)<;>refine kW ?_
  ·have hstep:=hT.step (by omega);have e1:((l.length:Int)-1-(i:Int)).toNat=l.length-1-i:=by omega
   obtain ⟨j,hj⟩:∃ j,l.length-1-i=j:=⟨_,rfl⟩;rw[hj] at hstep e1;rw[← J1X (i:=j) (by omega),← J1X (i:=i) (by omega)] at hstep;refine kR ?_;intros;simp only[e1];rw[setw _ rfl,J2D encw _ j (by simp;omega)];refine kWR ?_;intros
   refine .intro <| W.of ⟨n-1,by omega,i+1,_,hstep,by omega,rfl,rfl⟩ ⟨rfl,rfl,?_,trivial⟩ ⟨?_,trivial⟩
   ·show AV.val (.int .i64 _)=AV.val (.int .i64 _);congr 2;omega
   ·exact congrArg (fun z=>some (p,(⟨_,_,z⟩:Blk))) (setw _ rfl)
  ·have hd:=hT.done (by omega);subst hd;refine kS ?_;intros;exact EndH.of (m:=[(50,p,⟨285,1,l.reverse.map encw⟩)]) ⟨rfl,trivial⟩ ⟨rfl,rfl⟩
theorem ownC {b p e n:Nat}{H:Hp}{out:List Nat}(hb:H b=some (p,⟨e,1,out.map encw⟩))(hn:n=out.length):J05 [b] H 3 (.own b p 0 n)=J0F out:=ownW hb hn
theorem JJ3 {y q:Nat}(hq:q<1000000000):(dg B9 (y*q)).length≤(dg B9 y).length+1:=J1A hB9 (by
 rw[Nat.pow_succ];have h1:=J9I hB9 y
 rcases Nat.eq_zero_or_pos q with h|h
 ·rw[h];exact Nat.mul_pos (Nat.pow_pos (by decide)) (by decide)
 ·exact Nat.lt_of_lt_of_le (Nat.mul_lt_mul_of_pos_right h1 h) (Nat.mul_le_mul_left _ (Nat.le_of_lt hq)))
theorem JHK {b i A P y q Q Q' V V' D x:Nat}(h1:V=A+b ^ i*P)(h2:V+Q*y*b ^ (i+1)=x)(hD:P=D+y*q)(h3:V'=A+b ^ i*D)(h4:Q'=q+b*Q):V'+Q'*y*b ^ i=x:=by
 subst h1 h3 h4 hD;rw[← h2,Nat.pow_succ]
 grind
theorem JK4 (R:List Nat)(k:Nat):AV.sl 1 (((R.map encw).take (R.map encw).length).drop k)=J0F (R.drop k):=by
 show AV.sl 1 _=AV.sl 1 _
 rw[List.take_length,List.map_drop]
theorem J2P {l:List Nat}(h:Dig B9 l):J0F (trimF l)=encW (vl B9 l):=by rw[J1h hB9 h];rfl
theorem JGZ {m n:Nat}(h:n≤m):J0F (trimF (subC B9 0 (dg B9 m) (dg B9 n)))=encW (m-n):=by
 rw[J2P (J1j hB9 _ _ _ (by omega) (J0I hB9 m) (J0I hB9 n)),J44 h]
theorem JAv (m n:Nat)(hm:(dg B9 m).length<2^62)(hn:(dg B9 n).length<2^62):PX 241 [encW m,encW n] (encI (cmpW (dg B9 m) (dg B9 n))):=J30 _ _ hm hn (J0I hB9 m) (J0I hB9 n)
theorem JBl (m n:Nat)(hm:(dg B9 m).length<2^40)(h:n≤m):PX 242 [encW m,encW n] (J0F (subC B9 0 (dg B9 m) (dg B9 n))):=J5W _ _ hm (J0q hB9 h) (J0I hB9 m) (J0I hB9 n)
theorem JF6 (a b n:Nat)(ha:(dg B9 a).length<2^37)(hb:(dg B9 b).length=n+1)(hle:b≤a):PX 317 [encW a,encW b] (.tup [encW (a/b),encW (a%b)]):=by
 refine PZ Tryz.func317 rfl ?_;have hlab:=J0q hB9 hle
 have hb0:0<b:=by
  rcases Nat.eq_zero_or_pos b with h|h
  ·rw[h,J1S] at hb;simp at hb
  ·exact h
 have htop:=g9 (J0I hB9 b) n (by omega);have htn:(dg B9 b)[n]≠0:=by rw[J1X (by omega)];exact JDx hB9 hb
 obtain ⟨f,hf⟩:∃ f,1000000000/((dg B9 b)[n]+1)=f:=⟨_,rfl⟩;have hf0:0<f:=by rw[← hf];exact Nat.div_pos (by omega) (by omega)
 have hf1:f<1000000000:=by rw[← hf];exact Nat.div_lt_of_lt_mul (by omega)
 have e1:((((dg B9 b).map encw).length:Int)-1).toNat=n:=by simp[hb]
 have e2:Int.tdiv 1000000000 (((dg B9 b)[n]:Nat)+1)=(f:Int):=by rw[← hf];rfl
 have hy0:0<b*f:=Nat.mul_pos hb0 hf0;have hyx:b*f≤a*f:=Nat.mul_le_mul_right _ hle
 have lx:(dg B9 (a*f)).length≤(dg B9 a).length+1:=J1A hB9 (by
  rw[Nat.pow_succ]
  exact Nat.lt_of_lt_of_le (Nat.mul_lt_mul_of_pos_right (J9I hB9 a) hf0) (Nat.mul_le_mul_left _ (Nat.le_of_lt hf1)))
 have lyx:=J0q hB9 hyx
 have hyn:0<(dg B9 (b*f)).length:=by
  rcases Nat.eq_zero_or_pos (dg B9 (b*f)).length with h|h
  ·have:=(J5w hB9 _).1 (List.length_eq_zero_iff.1 h);omega
  ·exact h
 unfold encW;(refine kWS ?_;repeat intro γ);simp only[e1];(refine kR ?_;repeat intro γ);simp only[e2];(refine kR ?_;repeat intro γ);refine J00 [] _ c362 (J7R a f (by omega) hf1) ?_;(refine kWS ?_;repeat intro γ);refine J00 [] _ c362 (J7R b f (by omega) hf1) ?_;generalize hyy:b*f=y at *;generalize hxx:a*f=x at *;unfold encW;(refine kWS ?_;repeat intro γ);refine CallP.frame 1000000 [(5,36)] rfl c315 (J9Y (dg B9 x) (by omega)) rfl trivial ?_;rintro r0 h' ⟨δ,rfl,rfl⟩;refine ⟨[(36,δ,⟨285,1,(dg B9 x).map encw⟩)],⟨J1x encw _ (fun _=>rfl) ..,trivial⟩,?_⟩;(refine kWS ?_;repeat intro γ);have vx:=J17 hB9 x;have vy:=J17 hB9 y
 refine LoopP.intro (fun m σ H=>∃ g i,∃ R qs:List Nat,m=i∧i≤R.length∧R.length<2^38∧qs.length<2^38-i∧Dig B9 R∧Dig B9 qs∧vl B9 (R.drop i)<y∧vl B9 R+vl B9 qs.reverse*y*B9 ^ i=x ∧
  σ=fr [(6,encw f),(7,J0F R),(8,encW y),(10,.own 100 g 0 qs.length),(11,encI ((i:Int)-1))]∧H=hp [(100,g,⟨285,1,qs.map encw⟩)]) ?_ ?_
 ·have dz:Dig B9 (dg B9 x++[0]):=(J0I hB9 x).app (Dig.cons (by decide) Dig.nil);have lz:(dg B9 x++[0]).length=(dg B9 x).length+1:=by simp
  have hz:vl B9 ((dg B9 x++[0]).drop ((dg B9 x).length+2-(dg B9 y).length))<y:=by
   refine Nat.lt_of_lt_of_le (J8Q (dz.drop _)) ?_;rw[List.length_drop,lz];refine Nat.le_trans (Nat.pow_le_pow_right (by decide) ?_) (JKY hB9 y hy0);omega
  have vz:vl B9 (dg B9 x++[0])=x:=by rw[J54,vx];simp[vl]
  refine .intro (JHh 7 36 (x:=.own 36 γ 0 ((dg B9 x).length+1)) (y:=J0F (dg B9 x++[0])) rfl (ownC (p:=γ) (e:=285) ?_ lz.symm) (J9j 10 100 285 1 rfl rfl fun g=>W.of ⟨_,g,(dg B9 x).length+2-(dg B9 y).length,dg B9 x++[0],[],rfl,by omega,by omega,by simp;omega,dz,Dig.nil,hz,by rw[vz];simp[vl],rfl,rfl⟩ ⟨rfl,rfl,rfl,rfl,?_,trivial⟩ ⟨rfl,trivial⟩))
  ·show some (_,(⟨_,_,_++_⟩:Blk))=_
   simp;rfl
  ·show AV.val (.int .i64 _)=AV.val (.int .i64 _)
   congr 2
   simp;omega
 ·rintro m σ H ⟨g,i,R,qs,rfl,hi,hR,hq,dR,dq,hlt,hv,rfl,rfl⟩;(refine kWS ?_;repeat intro γ);refine CondP.dec (fun h=>?_) (fun h=>?_)<;>refine kW ?_
  ·obtain ⟨i,rfl⟩:∃ k,m=k+1:=⟨m-1,by omega⟩;have e3:(((i+1:Nat):Int)-1)=i:=by omega
   simp only[e3];have hP:vl B9 (R.drop i)=R[i]'(by omega)+B9*vl B9 (R.drop (i+1)):=JAA R i (by omega);have hRi:=g9 dR i (by omega)
   have hPy:vl B9 (R.drop i)<y*B9:=by
    rw[hP,Nat.mul_comm y];have:=Nat.mul_le_mul_left B9 (show vl B9 (R.drop (i+1))+1≤y from hlt);rw[Nat.mul_add] at this;have:R[i]'(by omega)<B9:=hRi;omega
   have hsp:=J4h B9 R i (by omega);have dP:=dR.drop i;have lP:=J9K hB9 dP;rw[List.length_drop] at lP;have lPl:(R.drop i).length<2^62:=by rw[List.length_drop];omega
   (refine kS ?_;repeat intro γ);refine J00 [] _ c314 (J04 ?_ (J29 (R.drop i) lPl)) ?_
   ·exact congrArg (fun z=>[z]) (JK4 R i)
   rw[J2P dP];generalize hPe:vl B9 (R.drop i)=P at hPy hP lP hsp;unfold encW;obtain ⟨k,hk⟩:∃ k,(dg B9 y).length=k+1:=⟨(dg B9 y).length-1,by omega⟩;have hg0:=JEp hPy hk;have hg1:guessF (dg B9 P) (dg B9 y)<1000000000:=JH5 _ _;(refine kWS ?_;repeat intro γ);refine CallP.flat [] _ c363 (JH4 (dg B9 P) (dg B9 y) (by omega) (by omega) (J0I hB9 P) (J0I hB9 y) hyn (by rw[hk];exact JDx hB9 hk)) rfl ?_;generalize guessF (dg B9 P) (dg B9 y)=q at hg0 hg1;(refine kWS ?_;repeat intro γ);refine J00 [] _ c362 (J7R y q (by omega) hg1) ?_;unfold encW;(refine kWS ?_;repeat intro γ)
   refine LoopP.intro (fun m σ H=>∃ q,m=q∧P/y≤q∧q<1000000000 ∧
    σ=fr [(6,encw f),(7,J0F R),(8,encW y),(10,.own 100 g 0 qs.length),(11,encI i),(12,encW P),(13,encw q),(14,encW (y*q))]∧H=hp [(100,g,⟨285,1,qs.map encw⟩)]) ?_ ?_
   ·exact .intro <| W.of ⟨_,q,rfl,hg0,hg1,rfl,rfl⟩ ⟨rfl,rfl,rfl,rfl,rfl,rfl,rfl,rfl,trivial⟩ ⟨rfl,trivial⟩
   ·clear hg0 hg1 q;rintro q σ H ⟨_,rfl,hg0,hg1,rfl,rfl⟩;have lq:=JJ3 (y:=y) hg1;have hc:=(JFc hB9 (y*q) P).1;unfold encW;(refine kWS ?_;repeat intro γ);refine CallP.flat [] _ c241 (JAv (y*q) P (by omega) (by omega)) rfl ?_;(refine kWS ?_;repeat intro γ);refine CondP.dec (fun h=>?_) (fun h=>?_)<;>refine kW ?_
    ·have hlt2:P<y*q:=hc.1 h;have hq1:P/y<q:=by rw[Nat.div_lt_iff_lt_mul hy0,Nat.mul_comm];exact hlt2
     have hq2:0<q:=Nat.lt_of_le_of_lt (Nat.zero_le _) hq1;have hyq:y≤y*q:=Nat.le_mul_of_pos_right _ hq2;have esub:y*q-y=y*(q-1):=by rw[Nat.mul_sub,Nat.mul_one]
     (refine kS ?_;repeat intro γ);refine J00 [] _ c242 (JBl (y*q) y (by omega) hyq) ?_;(refine kWS ?_;repeat intro γ);refine J00 [] _ c314 (J29 _ (by rw[J1i];omega)) ?_;rw[JGZ hyq,esub];unfold encW;(refine kWS ?_;repeat intro γ)
     refine .intro <| W.of ⟨q-1,by omega,q-1,rfl,by omega,by omega,rfl,rfl⟩ ⟨rfl,rfl,rfl,rfl,rfl,rfl,?_,rfl,trivial⟩ ⟨rfl,trivial⟩
     show AV.val (.int .u32 _)=AV.val (.int .u32 _)
     congr 2;omega
    ·have hle2:y*q≤P:=Nat.le_of_not_lt fun h'=>h (hc.2 h');have hqe:q=P/y:=Nat.le_antisymm ((Nat.le_div_iff_mul_le hy0).2 (by rw[Nat.mul_comm];exact hle2)) hg0;have hD:P=(P-y*q)+y*q:=by omega
     have hmod:P-y*q<y:=by
      have:=Nat.mod_lt P hy0;have h2:=Nat.mod_add_div P y;rw[← hqe] at h2;omega
     have hvS:=J44 hle2;have hdS:Dig B9 (subC B9 0 (dg B9 P) (dg B9 (y*q))):=J1j hB9 _ _ _ (by omega) (J0I hB9 _) (J0I hB9 _);have hlS:=J1i B9 (dg B9 P) (dg B9 (y*q)) 0;(refine kS ?_;repeat intro γ);refine CallG.intro _ c242 (JBl P (y*q) (by omega) hle2) ?_;unfold J0F;generalize subC B9 0 (dg B9 P) (dg B9 (y*q))=S at hvS hdS hlS;(refine kWS ?_;repeat intro γ);refine Need.intro (VL.map (fun n:Nat=>Value.int .u32 n) _) ?_;(refine kWS ?_;repeat intro γ);have hti:(R.take i).length=i:=by rw[List.length_take];omega
     refine .intro <| W.of ⟨i,by omega,_,i,R.take i++S,qs++[q],rfl,by simp;omega,by simp;omega,by simp;omega,(dR.take i).app hdS,dq.app (Dig.cons hg1 Dig.nil),?_,?_,rfl,rfl⟩ ⟨rfl,?_,rfl,by simp;rfl,rfl,trivial⟩ ⟨?_,trivial⟩
     ·rw[List.drop_left' hti,hvS];exact hmod
     ·refine JHK hsp hv hD (by rw[J54,hti,hvS]) (by rw[List.reverse_append];rfl)
     ·show AV.sl 1 _=AV.sl 1 _
      rw[List.map_append,List.map_take,Int.toNat_natCast]
     ·show some (_,(⟨_,_,_++_⟩:Blk))=_
      simp;rfl
  ·obtain rfl:m=0:=by omega
   rw[List.drop_zero] at hlt;rw[Nat.pow_zero,Nat.mul_one] at hv
   have hqx:vl B9 qs.reverse=a/b:=by
    have:vl B9 qs.reverse=x/y:=by rw[← hv,Nat.add_mul_div_right _ _ hy0,Nat.div_eq_of_lt hlt,Nat.zero_add]
    rw[this,← hxx,← hyy,Nat.mul_div_mul_right _ _ hf0]
   have hrx:vl B9 R=(a%b)*f:=by
    have:vl B9 R=x%y:=by rw[← hv,Nat.add_mul_mod_self_right,Nat.mod_eq_of_lt hlt]
    rw[this,← hxx,← hyy,Nat.mul_mod_mul_right]
   (refine kS ?_;repeat intro γ);refine CallP.frame 1000000 [(50,100)] rfl c364 (JCj qs g (by omega)) rfl ⟨J1x encw _ (fun _=>rfl) ..,trivial⟩ ?_;rintro r0 h' ⟨rfl,rfl⟩;refine ⟨[(100,g,⟨285,1,qs.reverse.map encw⟩)],⟨J1x encw _ (fun _=>rfl) ..,trivial⟩,?_⟩;have dq':Dig B9 qs.reverse:=fun z hz=>dq z (List.mem_reverse.1 hz);(refine kWS ?_;repeat intro γ);refine J00 [] _ c314 (J29 R (by omega)) ?_;rw[J2P dR,hrx];have lr:=J9K hB9 dR;rw[hrx] at lr;unfold encW;(refine kWS ?_;repeat intro γ);refine J00 [] _ c316 (JBI (dg B9 (a%b*f)) f (by omega) (J0I hB9 _) hf0 hf1) ?_;obtain ⟨v1,d1⟩:=J5B hf0 (J0I hB9 (a%b*f));rw[J17 hB9,Nat.mul_div_cancel _ hf0] at v1;have ls:=J1r f (dg B9 (a%b*f));generalize smallF f (dg B9 (a%b*f))=S at v1 d1 ls;(refine kWS ?_;repeat intro γ);refine J00 [100] _ c314 (J04 ?_ (J29 qs.reverse (by simp;omega))) ?_
   ·exact congrArg (fun z=>[z]) (ownW rfl (by simp))
   rw[J2P dq',hqx];(refine kWS ?_;repeat intro γ);refine J00 [] _ c314 (J29 S (by omega)) ?_;rw[J2P d1,v1];(refine kWS ?_;repeat intro γ);exact .of rfl
theorem J6x (z:Int)(n:Nat)(h:z.natAbs=n)(h0:0<n)(h1:n<1000000000):encZ z=.agg [encB (decide (z<0)),J0F [n]]:=by
 rw[J0L,h,J5v hB9 h0 h1];rfl
theorem Of1_ok:PX 216 [encI 1] (encZ 1):=by
 rw[J6x 1 1 rfl (by omega) (by omega)];exact J2S J9i (fuel:=20) (n:=5) (by kernel_rfl)
theorem Ofm1_ok:PX 216 [encI (-1)] (encZ (-1)):=by
 rw[J6x (-1) 1 rfl (by omega) (by omega)];exact J2S J9i (fuel:=20) (n:=5) (by kernel_rfl)
theorem JD6 {n:Nat}(h:0<n):0<(dg B9 n).length:=by
 rcases Nat.eq_zero_or_pos (dg B9 n).length with h'|h'
 ·have:=(J5w hB9 _).1 (List.length_eq_zero_iff.1 h');omega
 ·exact h'
def qsg (x y:Int):Int:=if (decide (x<0) != decide (y<0))=true then -((x.natAbs/y.natAbs:Nat):Int) else ((x.natAbs/y.natAbs:Nat):Int)
def rsg (x y:Int):Int:=if decide (x<0)=true then -((x.natAbs%y.natAbs:Nat):Int) else ((x.natAbs%y.natAbs:Nat):Int)
theorem PureCall.le {P:Program}{f:Nat}{args args':List AV}{r:AV}(h:PureCall P f args r)(hl:args'.length=args.length)(ha:∀ i (h:i<args'.length) (h':i<args.length),Le args'[i] args[i]):PureCall P f args' r:=by
 intro O w vs hO hv;refine h O w vs hO ⟨by rw[← hl];exact hv.1,fun i h1 h2=>?_⟩;exact ha i (by omega) h1 _ _ _ (hv.2 i (by omega) h2)
theorem JKx {x y:Int}(hy:y≠0):(¬ rsg x y<0→qsg x y=x/y∧rsg x y=x%y)∧(rsg x y<0→qsg x y-sgn y=x/y∧rsg x y+y.natAbs=x%y):=by
 have hn:0<y.natAbs:=by omega
 have h1:=Nat.mod_add_div x.natAbs y.natAbs;have h2:=Nat.mod_lt x.natAbs hn;unfold qsg rsg sgn;rw[if_neg hy];have hp:(0:Int)<(y.natAbs:Int):=by omega
 generalize x.natAbs/y.natAbs=q at *;generalize x.natAbs%y.natAbs=r at *;have h1':(r:Int)+(y.natAbs:Int)*q=x.natAbs:=by rw[← Int.natCast_mul];omega
 have key:∀ Q R:Int,R+(y.natAbs:Int)*Q=x→0≤R→R<y.natAbs→x/y=(if y<0 then -Q else Q)∧x%y=R:=by
  intro Q R h3 h4 h5;have h6:=(Int.ediv_emod_unique hp).2 ⟨h3,h4,h5⟩
  by_cases hs:y<0
  ·rw[if_pos hs];have e:y=-(y.natAbs:Int):=by omega
   generalize (y.natAbs:Int)=n at e h6;rw[e,Int.ediv_neg,Int.emod_neg,h6.1,h6.2];exact ⟨rfl,rfl⟩
  ·rw[if_neg hs];have e:y=(y.natAbs:Int):=by omega
   generalize (y.natAbs:Int)=n at e h6;rw[e];exact h6
 by_cases hx:x<0
 ·by_cases h0:r=0
  ·obtain ⟨k1,k2⟩:=key (-(q:Int)) 0 (by rw[Int.mul_neg];omega) (by omega) (by omega);rw[k1,k2,h0]
   by_cases hs:y<0<;>simp[hx,hs]
  ·obtain ⟨k1,k2⟩:=key (-(q:Int)-1) (y.natAbs-r) (by rw[Int.mul_sub,Int.mul_neg];omega) (by omega) (by omega);rw[k1,k2]
   by_cases hs:y<0<;>simp[hx,hs]<;>omega
 ·obtain ⟨k1,k2⟩:=key q r (by omega) (by omega) (by omega);rw[k1,k2]
  by_cases hs:y<0<;>simp[hx,hs]<;>omega
theorem JG8 (x y:Int)(hx:zl x<2^36)(hy:zl y<2^36)(hy0:y≠0):PX 243 [encZ x,encZ y] (.tup [encZ (x/y),encZ (x%y)]):=by
 refine PZ Tryz.func243 rfl ?_;unfold zl at hx hy;have dx:=J0I hB9 x.natAbs;have dy:=J0I hB9 y.natAbs;have hyp:=JD6 (show 0<y.natAbs by omega);rw[J0L x,J0L y];refine kWS ?_;intros;refine CallP.flat [] _ c241 (J30 _ _ (by omega) (by omega) dx dy) rfl ?_;have hc:=J8A hB9 x.natAbs y.natAbs;refine kWS ?_;intros;refine CondP.dec (fun h=>?_) (fun h=>?_)<;>refine kX ?_
 case' refine_1=>
  have hlt:=hc.1 h;refine kZ ?_;intros;obtain ⟨Q,hQe⟩:∃ Q:List Nat,Q=[]:=⟨_,rfl⟩;obtain ⟨R,hRe⟩:∃ R:List Nat,R=dg B9 x.natAbs:=⟨_,rfl⟩;refine J0e (W.le 6 1 rfl (W.of (l:=[(2,.op 2 _ 0 0),(3,.op 3 _ 0 0),(4,.op 4 _ 0 0),(5,.op 5 _ 0 0),(6,J0F Q),(7,J0F R)]) (m:=[(2,_,⟨102,2,[encZ x]⟩),(3,_,⟨102,2,[encZ y]⟩),(4,_,⟨102,2,[.agg [encB false,.val (.slice none 0 0)]]⟩),(5,_,⟨102,2,[.agg [encB false,.val (.slice none 0 0)]]⟩)]) ?_ ⟨rfl,rfl,rfl,rfl,by rw[hQe];rfl,by rw[hRe];rfl,trivial⟩ ⟨rfl,rfl,rfl,rfl,trivial⟩));have hQ:Dig B9 Q∧vl B9 Q=x.natAbs/y.natAbs∧Q.length<2^38:=⟨by rw[hQe];exact Dig.nil,by rw[hQe,Nat.div_eq_of_lt hlt];rfl,by rw[hQe];simp⟩;have hR:Dig B9 R∧vl B9 R=x.natAbs%y.natAbs∧R.length<2^38:=⟨by rw[hRe];exact dx,by rw[hRe,Nat.mod_eq_of_lt hlt,J17 hB9],by rw[hRe];omega⟩;clear hQe hRe hlt h hc
 case' refine_2=>
  have hge:y.natAbs≤x.natAbs:=Nat.le_of_not_lt fun h'=>h (hc.2 h');refine kZ ?_;intros;refine J0r ?_;refine kX ?_;refine kZ ?_;intros;refine CondP.dec (fun h=>?_) (fun h=>?_)<;>refine kX ?_
  case' refine_1=>
   have hl1:(dg B9 y.natAbs).length=1:=by omega
   have hd0:(dg B9 y.natAbs)[0]=y.natAbs:=by
    have:=J17 hB9 y.natAbs;obtain ⟨d,hd⟩:=List.length_eq_one_iff.1 hl1;simp only[hd] at this ⊢
    simpa [vl] using this
   have hyb:y.natAbs<1000000000:=by rw[← hd0];exact g9 dy 0 hyp
   refine J0r ?_;refine kX ?_;refine kZ ?_;intros;refine J0r ?_;refine kX ?_;refine kZ ?_;intros;refine CallG.intro _ c316 (J04 ?_ (JBI (dg B9 x.natAbs) y.natAbs (by omega) dx (by omega) hyb)) ?_
   ·show [_,AV.val (.int .u32 (((dg B9 y.natAbs)[0]:Nat):Int))]=_
    rw[hd0];rfl
   obtain ⟨v1,d1⟩:=J5B (show 0<y.natAbs by omega) dx;rw[J17 hB9] at v1;have ls:=J1r y.natAbs (dg B9 x.natAbs);rw[J17 hB9];have hm:=Nat.mod_lt x.natAbs (show 0<y.natAbs by omega);obtain ⟨Q,hQe⟩:∃ Q:List Nat,Q=smallF y.natAbs (dg B9 x.natAbs):=⟨_,rfl⟩;obtain ⟨R,hRe⟩:∃ R:List Nat,R=[x.natAbs%y.natAbs]:=⟨_,rfl⟩;rw[← hQe] at v1 d1 ls ⊢;refine kX ?_;refine kZ ?_;intros;refine J0e (JHh 7 44 (x:=.own 44 _ 0 1) (y:=J0F R) rfl (ownC (e:=285) (by rw[hRe];rfl) (by rw[hRe];rfl)) (W.of (l:=[(2,.op 2 _ 0 0),(3,.op 3 _ 0 0),(4,.op 4 _ 0 0),(5,.op 5 _ 0 0),(6,J0F Q),(7,J0F R)]) (m:=[(2,_,⟨102,2,[encZ x]⟩),(3,_,⟨102,2,[encZ y]⟩),(4,_,⟨102,2,[.agg [encB false,.val (.slice none 0 0)]]⟩),(5,_,⟨102,2,[.agg [encB false,.val (.slice none 0 0)]]⟩)]) ?_ ⟨rfl,rfl,rfl,rfl,rfl,rfl,trivial⟩ ⟨rfl,rfl,rfl,rfl,trivial⟩));have hQ:Dig B9 Q∧vl B9 Q=x.natAbs/y.natAbs∧Q.length<2^38:=⟨d1,v1,by omega⟩;have hR:Dig B9 R∧vl B9 R=x.natAbs%y.natAbs∧R.length<2^38:=⟨by rw[hRe];exact Dig.cons (Nat.lt_trans hm hyb) Dig.nil,by rw[hRe];simp[vl],by rw[hRe];simp⟩;clear hQe hRe h hc hd0 hyb d1 v1 ls hm hl1 hge
  case' refine_2=>
   refine kZ ?_;intros;obtain ⟨k,hk⟩:∃ k,(dg B9 y.natAbs).length=k+1:=⟨(dg B9 y.natAbs).length-1,by omega⟩;refine J00 [] _ c317 (JF6 x.natAbs y.natAbs k (by omega) hk hge) ?_;have l1:=J0q hB9 (Nat.div_le_self x.natAbs y.natAbs);have l2:=J0q hB9 (Nat.mod_le x.natAbs y.natAbs);obtain ⟨Q,hQe⟩:∃ Q:List Nat,Q=dg B9 (x.natAbs/y.natAbs):=⟨_,rfl⟩;obtain ⟨R,hRe⟩:∃ R:List Nat,R=dg B9 (x.natAbs%y.natAbs):=⟨_,rfl⟩;unfold encW;rw[← hQe,← hRe];refine kX ?_;refine kZ ?_;intros;refine J0e (W.of (l:=[(2,.op 2 _ 0 0),(3,.op 3 _ 0 0),(4,.op 4 _ 0 0),(5,.op 5 _ 0 0),(6,J0F Q),(7,J0F R)]) (m:=[(2,_,⟨102,2,[encZ x]⟩),(3,_,⟨102,2,[encZ y]⟩),(4,_,⟨102,2,[.agg [encB false,.val (.slice none 0 0)]]⟩),(5,_,⟨102,2,[.agg [encB false,.val (.slice none 0 0)]]⟩)]) ?_ ⟨rfl,rfl,rfl,rfl,rfl,rfl,trivial⟩ ⟨rfl,rfl,rfl,rfl,trivial⟩);have hQ:Dig B9 Q∧vl B9 Q=x.natAbs/y.natAbs∧Q.length<2^38:=⟨by rw[hQe];exact J0I hB9 _,by rw[hQe,J17 hB9],by rw[hQe];omega⟩;have hR:Dig B9 R∧vl B9 R=x.natAbs%y.natAbs∧R.length<2^38:=⟨by rw[hRe];exact J0I hB9 _,by rw[hRe,J17 hB9],by rw[hRe];omega⟩;clear hQe hRe h hc hk l1 l2 hge
 all_goals
  obtain ⟨dQ,vQ,lQ⟩:=hQ;obtain ⟨dR,vR,lR⟩:=hR;rw[J0L x,J0L y];refine kWS ?_;intros;refine CallG.intro _ c239 (J0Z Q (!(decide (x<0)==decide (y<0))) (by omega) dQ) ?_;rw[vQ,show (if (!(decide (x<0)==decide (y<0)))=true then -((x.natAbs/y.natAbs:Nat):Int) else ((x.natAbs/y.natAbs:Nat):Int))=qsg x y from rfl];refine kWS ?_;intros;refine CallG.intro _ c239 (J0Z R (decide (x<0)) (by omega) dR) ?_;rw[vR,show (if decide (x<0)=true then -((x.natAbs%y.natAbs:Nat):Int) else ((x.natAbs%y.natAbs:Nat):Int))=rsg x y from rfl];refine kWS ?_;intros
  have lq:zl (qsg x y)<2^38+2:=by
   have:=J9K hB9 dQ;unfold zl;rw[show (qsg x y).natAbs=vl B9 Q by rw[vQ];unfold qsg;split<;>omega];omega
  have lr:zl (rsg x y)<2^38+2:=by
   have:=J9K hB9 dR;unfold zl;rw[show (rsg x y).natAbs=vl B9 R by rw[vR];unfold rsg;split<;>omega];omega
  have hqr:=JKx (x:=x) hy0;generalize qsg x y=q at hqr lq ⊢;generalize rsg x y=r at hqr lr ⊢;rw[J0L r];refine kWS ?_;intros;rw[← J0L r];refine CondP.dec (fun h=>?_) (fun h=>?_)<;>refine kW ?_
  ·rw[← (hqr.2 h).1,← (hqr.2 h).2];refine kWS ?_;intros;refine CallG.intro _ c304 (JCI y) ?_;refine kWS ?_;intros;refine CallG.intro _ c166 (JCH r (y.natAbs:Int) (by omega) (by unfold zl;rw[Int.natAbs_natCast];omega)) ?_;refine kWS ?_;intros;refine CallG.intro _ c193 (J8I y) ?_;refine kWS ?_;intros
   by_cases hs:y<0
   ·rw[show sgn y=-1 by unfold sgn;rw[if_neg hy0,if_pos hs]];refine kWS ?_;intros;refine CallG.intro _ c216 Ofm1_ok ?_;refine kWS ?_;intros;refine CallG.intro _ c305 (JFs q (-1) (by omega) (by rw[show zl (-1)=1 by unfold zl;rw[show (-1:Int).natAbs=1 from rfl,J5v hB9 (by omega) (by unfold B9;omega)];rfl];omega)) ?_;refine kWS ?_;intros;exact .of rfl
   ·rw[show sgn y=1 by unfold sgn;rw[if_neg hy0,if_neg hs]];refine kWS ?_;intros;refine CallG.intro _ c216 Of1_ok ?_;refine kWS ?_;intros;refine CallG.intro _ c305 (JFs q 1 (by omega) (by rw[show zl 1=1 by unfold zl;rw[show (1:Int).natAbs=1 from rfl,J5v hB9 (by omega) (by unfold B9;omega)];rfl];omega)) ?_;refine kWS ?_;intros;exact .of rfl
  ·rw[← (hqr.1 h).1,← (hqr.1 h).2];refine kS ?_;intros;exact .of rfl
theorem JDN (n:Nat):zl (n:Int)=(dg B9 n).length:=by unfold zl;rw[Int.natAbs_natCast]
theorem JG7 (x y:Int)(hx:zl x<2^36)(hy:zl y<2^36):PX 219 [encZ x,encZ y] (encZ (x.natAbs.gcd y.natAbs:Nat)):=by
 refine PZ Tryz.func219 rfl ?_;unfold zl at hx hy;refine kWS ?_;intros;refine CallG.intro _ c304 (JCI x) ?_;refine kWS ?_;intros;refine CallG.intro _ c304 (JCI y) ?_;refine kWS ?_;intros;obtain ⟨d,hd⟩:∃ d,d=x.natAbs.gcd y.natAbs:=⟨_,rfl⟩;rw[← hd]
 refine LoopP.intro (fun m σ H=>∃ g2 g3 g4 a b,m=b∧a.gcd b=d∧(dg B9 a).length<2^36∧(dg B9 b).length<2^36 ∧
  σ=fr [(2,.op 2 g2 0 0),(3,.op 3 g3 0 0),(4,.op 4 g4 0 0)] ∧
  H=hp [(2,g2,⟨102,2,[encZ (a:Nat)]⟩),(3,g3,⟨102,2,[encZ (b:Nat)]⟩),(4,g4,⟨102,2,[.agg [encB false,.val (.slice none 0 0)]]⟩)]) ?_ ?_
 ·exact .intro <| W.of ⟨_,_,_,_,x.natAbs,y.natAbs,rfl,hd.symm,hx,hy,rfl,rfl⟩ ⟨rfl,rfl,rfl,trivial⟩ ⟨rfl,rfl,rfl,trivial⟩
 ·rintro m σ H ⟨g2,g3,g4,a,b,rfl,hab,ha,hb,rfl,rfl⟩;refine kWS ?_;intros;refine CallP.flat [] _ c288 (JFp m) rfl ?_;refine kWS ?_;intros;refine CondP.dec (fun h=>?_) (fun h=>?_)<;>refine kW ?_
  ·refine kS ?_;intros;have h0:m=0:=by omega
   rw[h0,Nat.gcd_zero_right] at hab;rw[hab];refine kS ?_;intros;exact .of rfl
  ·have hm:0<m:=by omega
   refine kS ?_;intros;refine J00 [] _ c243 (JG8 a m (by rw[JDN];exact ha) (by rw[JDN];exact hb) (by omega)) ?_;rw[show ((a:Int)/(m:Int))=((a/m:Nat):Int) from rfl,show ((a:Int)%(m:Int))=((a%m:Nat):Int) from rfl];have l1:=J0q hB9 (Nat.le_of_lt (Nat.mod_lt a hm));refine kWS ?_;intros
   exact .intro <| W.of ⟨a%m,Nat.mod_lt _ hm,_,_,_,m,a%m,rfl,by rw[Nat.gcd_comm,← Nat.gcd_rec,Nat.gcd_comm,hab],hb,by omega,rfl,rfl⟩ ⟨rfl,rfl,rfl,trivial⟩ ⟨rfl,rfl,rfl,trivial⟩
theorem J6b (l:List UInt8)(p:Nat)(hp:p<l.length)(h:(l[p]).toNat<128):runeAt (ofL l) p=((l[p]).toNat,1):=by
 unfold runeAt Utf8.decode
 have e:((ofL l).get! (p+0)).toNat=(l[p]).toNat:=by
  show (l.toArray[p+0]!).toNat=_
  rw[Nat.add_zero,getElem!_pos _ p (by simpa using hp)];simp
 simp only[e];rw[if_pos h]
theorem JH3 (l:List UInt8):hasP (ofL l) (b1 45)=match l with
 |45::_=>true
 |_=>false:=by
 unfold hasP;rw[show (b1 45).size=1 from rfl,J0K,J0S]
 cases l with
 |nil=>rfl
 |cons c l=>
   have h1:decide (1≤(c::l).length)=true:=decide_eq_true (by simp);rw[h1,Bool.true_and]
   by_cases hc:c=45
   ·subst hc;exact decide_eq_true rfl
   ·have:decide (ofL (List.drop 0 (List.take 1 (c::l)))=b1 45)=false:=decide_eq_false fun h=>hc (by
     have:=congrArg (fun s:ByteArray=>s.data.toList) h
     simpa [ofL,b1] using this)
    rw[this];split
    ·rename_i h;cases h;exact absurd rfl hc
    ·rfl
def isDs (l:List UInt8):Bool:=l.all fun c=>isD c.toNat
def okW (m:Bool)(t:List UInt8):Bool:=!t.isEmpty&&!(decide (t.headD 0=48)&&(decide (1<t.length)||m))&&isDs t
def decU (t:List UInt8):Nat:=decB (t.map UInt8.toNat)
def J1U (l:List UInt8):Option Int:=match l with
 |45::t=>if okW true t then some (-(decU t:Int)) else none
 |t=>if okW false t then some (decU t:Int) else none
def resW:Option Int→AV
 |some z=>.tup [encZ z,encB true]
 |none=>.tup [.agg [encB false,.val (.slice none 0 0)],encB false]
theorem JKb (l:List UInt8):∃ t m,cutP (ofL l) (b1 45)=(ofL t,m)∧J1U l=(if okW m t then some (if m then -(decU t:Int) else decU t) else none)∧t.length≤l.length:=by
 unfold cutP;rw[JH3];unfold J1U;split
 ·rename_i t;exact ⟨t,true,by rw[if_pos rfl,J0S];rw[J0K,List.take_length];rfl,by simp,by simp⟩
 ·rename_i h;refine ⟨l,false,by simp,?_,Nat.le_refl _⟩;split<;>simp_all
theorem JH0 (l:List UInt8):decide (ofL (JGX l)=⟨#[]⟩)=isDs l:=by
 unfold isDs;rw[Bool.eq_iff_iff,decide_eq_true_iff,List.all_eq_true,← JDw];constructor
 ·intro h;have:=congrArg (fun s:ByteArray=>s.data.toList) h
  simpa [ofL] using this
 ·intro h;rw[h];rfl
theorem JAb (l:List UInt8):ofL l=⟨#[]⟩↔l=[]:=by
 constructor
 ·intro h;have:=congrArg (fun s:ByteArray=>s.data.toList) h
  simpa [ofL] using this
 ·intro h;rw[h];rfl
theorem JHa (l:List UInt8)(i:Nat)(h:i<l.length):byteAt (ofL l) i=((l[i]).toNat:Int):=by
 unfold byteAt;rw[dif_pos (by rw[J0K];exact h)];rfl
def revD (t:List UInt8)(e:Nat):List Nat:=((t.take e).map UInt8.toNat).reverse.map (· - 48)
theorem JBR (t:List UInt8)(e:Nat)(h:e≤t.length):(revD t e).length=e:=by simp[revD];omega
theorem JEN (t:List UInt8)(e k:Nat)(h:e≤t.length):(revD t e).drop k=revD t (e-k):=by
 unfold revD;rw[← List.map_drop,← List.map_reverse,← List.map_drop,← List.map_reverse,List.drop_reverse];simp only[List.length_take,List.take_take];rw[show min (min e t.length-k) e=e-k by omega]
theorem JEM (t:List UInt8)(e k:Nat)(h:e≤t.length):vl 10 ((revD t e).take k)=decU ((t.take e).drop (e-k)):=by
 unfold revD decU decB
 congr 1
 rw[← List.map_take,← List.map_reverse,← List.map_take,← List.map_reverse,List.take_reverse]
 congr 4
 simp only[List.length_take];omega
theorem JFC (t:List UInt8)(h:∀ i (hi:i<t.length),48≤(t[i]).toNat∧(t[i]).toNat≤57):decU t<10 ^ t.length:=by
 have:=@JFE (t.map UInt8.toNat) (by
  rw[List.all_eq_true];intro c hc;obtain ⟨x,hx,rfl⟩:=List.mem_map.1 hc;obtain ⟨i,hi,rfl⟩:=List.mem_iff_getElem.1 hx;unfold isDg
  exact decide_eq_true (h i hi))
 simpa [decU] using this
theorem J9p (l:List UInt8)(hl:l.length<2^35):PX 215 [encS (ofL l)] (resW (J1U l)):=by
 refine PZ Tryz.func215 rfl ?_;obtain ⟨t,m,hc,hp,ht⟩:=JKb l;rw[hp];clear hp;generalize hF:okW m t=F;unfold okW at hF;have hlt:t.length<2^35:=by omega
 (refine kWS ?_;repeat intro γ);refine J00 [] _ c302 (J4Z (ofL l) (b1 45) (by rw[J0K];omega) (by decide)) ?_;rw[hc];clear hc ht;have hsz:=J0K t;(refine kWS ?_;repeat intro γ);refine CondP.dec (fun h0=>?_) (fun h0=>?_)<;>refine kW ?_
 ·rw[(JAb t).1 h0] at hF;simp at hF;subst hF;(refine kS ?_;repeat intro γ);exact .of rfl
 ·have hne:t≠[]:=fun e=>h0 (by rw[e];rfl);have hpos:0<t.length:=List.length_pos_iff.2 hne
  have hb:byteAt (ofL t) (Int.toNat 0)=((t.headD 0).toNat:Int):=by
   rw[JHa t (Int.toNat 0) hpos]
   cases t with
   |nil=>exact absurd rfl hne
   |cons c r=>rfl
  have hemp:t.isEmpty=false:=by cases t with
   |nil=>exact absurd rfl hne
   |cons c r=>rfl
  rw[hemp,Bool.not_false,Bool.true_and] at hF;generalize t.headD 0=c at hb hF
  have hc48:((c.toNat:Int)=48)→(c=48):=fun h=>UInt8.toNat.inj (by
   have:c.toNat=48:=by omega
   rw[this];rfl)
  have hc48':c=48→((c.toNat:Int)=48):=by rintro rfl;rfl
  have hT:=JJg t (by omega);have hD:=JH0 t;have bad:(decide (c=48)&&(decide (1<t.length)||m))=true→F=false:=fun h=>by rw[← hF,h];rfl
  have good:(decide (c=48)&&(decide (1<t.length)||m))=false→F=isDs t:=fun h=>by rw[← hF,h];rfl
  clear hF hemp;(refine kS ?_;repeat intro γ);rw[hb];refine CondP.dec (fun h=>?_) (fun h=>?_)<;>refine kW ?_
  case' refine_1=>
   have h1:=hc48 h;(refine kS ?_;repeat intro γ);simp only[J0K];refine CondP.dec (fun h2=>?_) (fun h2=>?_)<;>refine kW ?_
   case' refine_1=>
    rw[bad (by rw[decide_eq_true h1,decide_eq_true (show 1<t.length by omega)];rfl)];(refine kS ?_;repeat intro γ);exact .of rfl
   (refine kS ?_;repeat intro γ);refine CondP.intro (fun h3=>?_) (fun h3=>?_)<;>refine kW ?_
   case' refine_1=>
    rw[bad (by rw[decide_eq_true h1,h3];simp)];(refine kS ?_;repeat intro γ);exact .of rfl
   have hg:=good (by rw[h3,decide_eq_false (show ¬ 1<t.length by omega)];simp)
  case' refine_2=>
   have hg:=good (by rw[decide_eq_false (fun h'=>h (hc48' h'))];simp)
  all_goals
   (refine kS ?_;repeat intro γ);refine CallP.flat [] _ c303 hT rfl ?_;(refine kWS ?_;repeat intro γ);refine CondP.dec (fun h4=>?_) (fun h4=>?_)<;>refine kW ?_
   case' refine_2=>
    rw[hg,← hD,decide_eq_false h4];(refine kS ?_;repeat intro γ);exact .of rfl
   rw[hg,← hD,decide_eq_true h4];rw[decide_eq_true h4] at hD;obtain ⟨C,hC⟩:∃ C,C=J3l 9 t.length (revD t t.length):=⟨_,rfl⟩
   refine LoopP.intro (fun k σ H=>∃ g2 g6 z f,∃ out:List Nat,k=z.toNat∧z.toNat≤t.length∧-9<z∧z.toNat≤f∧out.length+z.toNat≤t.length∧out++J3l 9 f (revD t z.toNat)=C ∧
    σ=fr [(2,.op 2 g2 0 0),(3,encB false),(4,encS (ofL t)),(5,encB m),(6,.own 100 g6 0 out.length),(7,encI z)] ∧
    H=hp [(2,g2,⟨102,2,[.agg [encB false,.val (.slice none 0 0)]]⟩),(100,g6,⟨285,1,out.map encw⟩)]) ?_ ?_
   ·refine .intro (J9j 6 100 285 1 rfl rfl fun g=>W.of ⟨_,_,g,(t.length:Int),t.length,[],rfl,by omega,by omega,by omega,by simp,by rw[hC];rfl,rfl,rfl⟩ ⟨rfl,rfl,rfl,rfl,rfl,rfl,trivial⟩ ⟨rfl,rfl,trivial⟩)
   ·rintro k σ H ⟨g2,g6,z,f,out,rfl,hz1,hz2,hzf,hol,hout,rfl,rfl⟩;(refine kWS ?_;repeat intro γ);refine CondP.dec (fun h=>?_) (fun h=>?_)<;>refine kW ?_
    ·(refine kS ?_;repeat intro γ);obtain ⟨f,rfl⟩:∃ f',f=f'+1:=⟨f-1,by omega⟩;have hR:revD t z.toNat≠[]:=fun e=>by have:=JBR t z.toNat hz1;rw[e] at this;simp at this;omega
     unfold J3l at hout;rw[if_neg hR,JEM t _ 9 hz1,JEN t _ 9 hz1] at hout;have hmax:(max (z-9) 0).toNat=z.toNat-9:=by omega
     simp only[hmax,J0S];generalize hx:(t.take z.toNat).drop (z.toNat-9)=x at hout ⊢;have lx:x.length≤9:=by rw[← hx];simp;omega
     have hxd:∀ i (hi:i<x.length),48≤(x[i]).toNat∧(x[i]).toNat≤57:=by
      intro i hi
      have hm':∀ y,y∈x→y∈t:=by
       rw[← hx];exact fun y hy=>List.mem_of_mem_take (List.mem_of_mem_drop hy)
      have hm:=hm' _ (List.getElem_mem hi);have:=List.all_eq_true.1 hD.symm _ hm;unfold isD at this;simp at this;omega
     refine LoopP.intro (fun k σ H=>∃ g p w,k=x.length-p∧p≤x.length∧w=decU (x.take p) ∧
      σ=fr [(2,.op 2 g2 0 0),(3,encB false),(4,encS (ofL t)),(5,encB m),(6,.own 100 g6 0 out.length),(7,encI z),(8,encw w),(49,.it 49 g)] ∧
      H=hp [(2,g2,⟨102,2,[.agg [encB false,.val (.slice none 0 0)]]⟩),(100,g6,⟨285,1,out.map encw⟩),(49,g,⟨0,0,[encS (ofL x),encI p]⟩)]) ?_ ?_
     ·exact .intro <| W.of ⟨_,_,0,_,rfl,Nat.zero_le _,rfl,rfl,rfl⟩ ⟨rfl,rfl,rfl,rfl,rfl,rfl,rfl,rfl,trivial⟩ ⟨rfl,rfl,rfl,trivial⟩
     ·rintro k σ H ⟨g,p,w,rfl,hp,hw,rfl,rfl⟩;have hwl:=JFC (x.take p) (fun i hi=>by rw[List.getElem_take];exact hxd i (by simp at hi;omega));rw[← hw,List.length_take] at hwl;have hw9:w<10 ^ 9:=Nat.lt_of_lt_of_le hwl (Nat.pow_le_pow_right (by omega) (by omega));(refine kWS ?_;repeat intro γ);rw[J0K];refine CondP.dec (fun h=>?_) (fun h=>?_)<;>refine kW ?_
      ·have hp':p<x.length:=by omega
       have hc:=hxd p hp';have hr:runeAt (ofL x) (Int.toNat p)=((x[p]).toNat,1):=J6b x p hp' (by omega)
       have hs:decU (x.take (p+1))=10*w+((x[p]).toNat-48):=by
        rw[hw,List.take_succ_eq_append_getElem hp'];unfold decU;rw[List.map_append];exact JFD _ _
       have hw8:w<10 ^ 8:=by
        refine Nat.lt_of_lt_of_le hwl (Nat.pow_le_pow_right (by omega) (by omega))
       rw[hr];generalize hd:(x[p]).toNat=d at hc hs ⊢;(refine kS ?_;repeat intro γ)
       refine .intro <| W.of ⟨x.length-(p+1),by omega,g,p+1,_,rfl,hp',hs.symm,rfl,rfl⟩ ⟨rfl,rfl,rfl,rfl,rfl,rfl,?_,rfl,trivial⟩ ⟨rfl,rfl,?_,trivial⟩
       ·show AV.val (.int .u32 _)=AV.val (.int .u32 _)
        congr 2;omega
       ·rfl
      ·have hpe:p=x.length:=by omega
       rw[hpe,List.take_length] at hw;(refine kS ?_;repeat intro γ)
       refine .intro <| W.of ⟨(z-9).toNat,by omega,g2,γ,z-9,f,out++[w],rfl,by omega,by omega,by omega,by simp;omega,?_,rfl,rfl⟩ ⟨rfl,rfl,rfl,rfl,?_,rfl,trivial⟩ ⟨rfl,?_,trivial⟩
       ·rw[hw,← hout,show (z-9).toNat=z.toNat-9 by omega];simp
       ·exact congrArg (AV.own 100 _ 0) (by simp)
       ·show some (_,(⟨_,_,_++_⟩:Blk))=_
        simp;rfl
    ·have hz0:z.toNat=0:=by omega
     have hCo:out=C:=by
      rw[← hout,hz0];have:J3l 9 f (revD t 0)=[]:=by cases f<;>rfl
      rw[this];simp
     have hdt:(t.map UInt8.toNat).all isDg=true:=by
      rw[List.all_map,List.all_eq_true];intro x hx;have:=List.all_eq_true.1 hD.symm x hx;unfold isD at this;simp at this;unfold isDg;exact decide_eq_true (by simpa using this)
     have hrt:revD t t.length=(t.map UInt8.toNat).reverse.map (· - 48):=by unfold revD;rw[List.take_length]
     have hv:vl B9 out=decU t:=by
      rw[hCo,hC,show (B9:Nat)=10 ^ 9 from rfl,J9Z (by omega) _ _ (by rw[JBR _ _ (Nat.le_refl _)];exact Nat.le_refl _),hrt];rfl
     have hd:Dig B9 out:=by
      rw[hCo,hC,hrt];exact J7C _ _ (JF8 hdt)
     (refine kS ?_;repeat intro γ);refine J00 [100] _ c239 (J04 ?_ (J0Z out m (by omega) hd)) ?_
     ·exact congrArg (fun z=>[z,encB m]) (ownW rfl rfl)
     rw[hv];(refine kWS ?_;repeat intro γ);exact .of rfl
end Go.Proofs.YtlblbldolhiokaaGreatDoor
namespace Go.Proofs.YtlblbldolhiokaaGreatDoor
open Go Go.RowKit Go.Shelf
attribute [local go_sem] Oper.semAt_some
theorem ntD:Tryz.f359.ntmps=21:=by kernel_rfl
def J13 {α:Type}(f:Nat→α)(len k:Nat):List (Nat×α):=(List.range k).map fun j=>(len-1-j,f (len-1-j))
theorem J3I {α:Type}(f:Nat→α)(len k:Nat):J13 f len (k+1)=J13 f len k++[(len-1-k,f (len-1-k))]:=by simp[J13,List.range_succ]
theorem J3d {α:Type}(f:Nat→α)(len k:Nat):(J13 f len k).length=k:=by simp[J13]
theorem JHJ (F:Fence)(n:Nat)(h8:F.fn 359)(hro:F.round=none)(hn:1≤n)(l Bs b off len cap:Nat)(m:Bool)(zs:Nat→Fin 1000000000)(hreach:len*4≤140737488351232)(Kp:World→World→Prop)(hKr:∀ A,Kp A A)(hKt:∀ A B C,Kp A B→Kp B C→Kp A C)(hK1:∀ A B,Kp A B→B.cell? ⟨Bs,1,none⟩=A.cell? ⟨Bs,1,none⟩)(hKc:∀ A B j,Kp A B→B.cell? ⟨b,off+j,none⟩=A.cell? ⟨b,off+j,none⟩)(J Jx:List (Nat×Fin 1000000000)→World→Prop)
  (hY:∀ pre x W,J pre W→pre.length<len→YieldAt F (n-1) Tryz.prog l #[.int .i64 (x.1:Int),.int .u32 (x.2.val:Int)] W fun e W'=>
    (e=.returned (.bool true)∧J (pre++[x]) W'∧Kp W W')∨(e=.returned (.bool false)∧Jx (pre++[x]) W'))
  (W:World)(hBs0:W.cell? ⟨Bs,0,none⟩=some (.bool m))(hBs1:W.cell? ⟨Bs,1,none⟩=some (.slice (some ⟨b,off,none⟩) len cap))(hc:∀ j,j<len→W.cell? ⟨b,off+j,none⟩=some (.int .u32 ((zs j).val:Int)))(h0:J [] W) :
  CallsIn F n Tryz.prog 359 #[.func (.yield l) #[] #[],.pointer (some ⟨Bs,0,none⟩)] W fun e W'=>(∃ v,e=.returned v) ∧
   ((∃ ys,ys=J13 zs len len∧J ys W')∨(∃ pre,(∃ k,k≤len∧pre=J13 zs len k)∧Jx pre W')):=by
 refine callsIn_of_wp Tryz.func359 rfl h8 ?_ hro;simp only[ntD,List.size_toArray,List.length_cons,List.length_nil,Nat.reduceAdd,Nat.reduceSub,Array.replicate_succ,Array.replicate_zero,List.push_toArray,List.append_toArray,List.nil_append,List.cons_append]
 gi_wp2
 gi_loopw [3] (fun i wr=>∃ k:Nat,k≤len∧i=.int .i64 ((len:Int)-1-k)∧J (J13 zs len k) wr∧Kp W wr)
  (fun i _=>(intOf i+1).toNat)
 case atStart=>exact ⟨0,Nat.zero_le _,by simp,h0,hKr _⟩
 case round=>
  obtain ⟨k,hk,rfl,hJs,hnx⟩:=hrel;have hcx:k<len→wr.cell? ⟨b,off+(len-1-k),none⟩=some (.int .u32 ((zs (len-1-k)).val:Int)):=fun h=>(hKc _ _ (len-1-k) hnx).trans (hc _ (by omega));have hb1:wr.cell? ⟨Bs,1,none⟩=some (.slice (some ⟨b,off,none⟩) len cap):=(hK1 _ _ hnx).trans hBs1
  by_cases hlt:k<len
  ·obtain ⟨fn,tmps,assign,body,hy,hR⟩:=hY _ (len-1-k,zs (len-1-k)) wr hJs (by rw[J3d];exact hlt)
   dsimp only at hy
   have hcx':=hcx hlt;have e:(len:Int)-1-k=((len-1-k:Nat):Int):=by omega
   rw[e];have hge:(0:Int)≤((len-1-k:Nat):Int):=by omega
   gi_wp2
   refine hR.mono ?_;rintro e W3 (⟨rfl,hJ3,hk3⟩|⟨rfl,hJx3⟩)
   ·gi_wp2
    go_roundw
    case rel=>exact ⟨k+1,by omega,by simp<;>omega,by rw[J3I];exact hJ3,hKt _ _ _ hnx hk3⟩
    case measure=>simp[intOf]<;>omega
   ·gi_wp2
    refine bodyPost_ret (results_none rfl _ _ _) rfl ?_;exact ⟨⟨_,rfl⟩,.inr ⟨_,⟨k+1,by omega,(J3I _ _ _).symm⟩,hJx3⟩⟩
  ·obtain rfl:k=len:=by omega
   have e:(k:Int)-1-k=-1:=by omega
   rw[e]
   gi_wp2
   go_end0
   exact ⟨⟨_,rfl⟩,.inl ⟨_,rfl,hJs⟩⟩
theorem ntW:Tryz.f306.ntmps=4:=by kernel_rfl
theorem JJR (F:Fence)(n:Nat)(h6:F.fn 306)(hro:F.round=none)(m:Bool)(a:Option Addr)(len cap:Nat)(w:World) :
  CallsIn F n Tryz.prog 306 #[.agg #[.bool m,.slice a len cap]] w fun e w'=>e=.returned (.func (.func 359) #[] #[.pointer (some ⟨w.heap.size,0,none⟩)])∧w'=w.alloc (.cells #[.bool m,.slice a len cap] 102):=by
 refine callsIn_of_wp Tryz.func306 rfl h6 ?_ hro;simp only[ntW,List.size_toArray,List.length_cons,List.length_nil,Nat.reduceAdd,Nat.reduceSub,Array.replicate_succ,Array.replicate_zero,List.push_toArray,List.append_toArray,List.nil_append,List.cons_append]
 gi_wp2
 go_ret
 exact ⟨rfl,rfl⟩
theorem JD5 (F:Fence)(n:Nat)(h8:F.fn 359)(hro:F.round=none)(hn:1≤n)(Bs b off len cap:Nat)(m:Bool)(zs:Nat→Fin 1000000000)(hreach:len*4≤140737488351232)(w:World)(hBs:Bs<w.heap.size)(hb:b<w.heap.size)
  (Kp:World→World→Prop)(hKr:∀ A,Kp A A)(hKt:∀ A B C,Kp A B→Kp B C→Kp A C)(hK1:∀ A B,Kp A B→B.cell? ⟨Bs,1,none⟩=A.cell? ⟨Bs,1,none⟩)(hKc:∀ A B j,Kp A B→B.cell? ⟨b,off+j,none⟩=A.cell? ⟨b,off+j,none⟩)
  (hBs0:w.cell? ⟨Bs,0,none⟩=some (.bool m))(hBs1:w.cell? ⟨Bs,1,none⟩=some (.slice (some ⟨b,off,none⟩) len cap))(hc:∀ j,j<len→w.cell? ⟨b,off+j,none⟩=some (.int .u32 ((zs j).val:Int))) :
  SeqStopsK F n Tryz.prog 359 #[.pointer (some ⟨Bs,0,none⟩)] (fun x:Nat×Fin 1000000000=>#[Value.int .i64 (x.1:Int),Value.int .u32 (x.2.val:Int)]) Kp (fun ys=>ys=J13 zs len len)
   (fun pre=>∃ k,k≤len∧pre=J13 zs len k) len w:=fun l J Jx W hW _ _ hY h0=>
 JHJ F n h8 hro hn l Bs b off len cap m zs hreach Kp hKr hKt hK1 hKc J Jx hY W ((hW.cell (p:=⟨Bs,0,none⟩) hBs).trans hBs0) ((hW.cell (p:=⟨Bs,1,none⟩) hBs).trans hBs1) (fun j hj=>(hW.cell (p:=⟨b,off+j,none⟩) hb).trans (hc j hj)) h0
end Go.Proofs.YtlblbldolhiokaaGreatDoor
namespace Go.Proofs.YtlblbldolhiokaaGreatDoor
open Go Go.Fw
def J3O (b:UInt8):List UInt8→List UInt8
 |[]=>[]
 |c::l=>if c=b then J3O b l else c::l
theorem J42 (b c:UInt8)(l:List UInt8):J3O b (c::l)=if c=b then J3O b l else c::l:=rfl
theorem J57 (b:UInt8)(l:List UInt8)(hl:l.length<2^62):PX 352 [encS (ofL l),.val (.int .u8 b.toNat)] (encS (ofL (J3O b l))):=by
 refine PZ Tryz.func352 rfl ?_;refine kWS ?_;intros;refine LoopP.intro (fun k σ H=>∃ m:List UInt8,k=m.length∧m.length<2^62∧J3O b m=J3O b l∧σ=fr [(0,encS (ofL m)),(1,.val (.int .u8 b.toNat))]∧H=hp []) ?_ ?_
 ·exact .intro <| W.of ⟨_,l,rfl,hl,rfl,rfl,rfl⟩ ⟨rfl,rfl,trivial⟩ trivial
 ·rintro k σ H ⟨m,rfl,hm,hml,rfl,rfl⟩
  cases m with
  |nil=>
    refine kWS ?_;intros;exact .of (by rw[← hml];rfl)
  |cons c m=>
    have hb:byteAt (ofL (c::m)) (Int.toNat 0)=(c.toNat:Int):=rfl;have hsz:(ofL (c::m)).size=m.length+1:=rfl;have hp0:(0:Int)<((ofL (c::m)).size:Int):=by rw[hsz];omega
    rw[J42] at hml;refine kWS ?_;intros;rw[hb];refine CondP.dec (fun h=>?_) (fun h=>?_)<;>refine kW ?_
    ·have hc:c=b:=UInt8.toNat.inj (by omega);rw[if_pos hc] at hml;refine kS ?_;intros
     refine .intro <| W.of ⟨m.length,by simp,m,rfl,by simp at hm;omega,hml,rfl,rfl⟩ ⟨?_,rfl,trivial⟩ trivial
     show encS _=encS _
     rw[J0S];congr 2;simp[J0K]
    ·have hc:¬ c=b:=fun e=>h (by rw[e]);rw[if_neg hc] at hml;refine kS ?_;intros;exact .of (by rw[← hml];rfl)
theorem JB0 (l:List UInt8)(hl:l.length<2^62):PX 307 [encS (ofL l),encS (b1 48)] (encS (ofL (J3O 48 l))):=by
 refine PZ Tryz.func307 rfl ?_;have hb:(b1 48).size=1:=rfl;have hc:byteAt (b1 48) (Int.toNat 0)=48:=rfl;have hn:=JAb l;refine kWS ?_;intros;refine CondP.dec (fun h=>?_) (fun h=>?_)<;>refine kW ?_
 ·have h0:=hn.1 h;subst h0;refine kS ?_;intros;exact .of rfl
 ·refine kS ?_;intros;rw[hc];refine kS ?_;intros;refine CallP.flat [] _ c352 (J57 48 l hl) rfl ?_;refine kWS ?_;intros;exact .of rfl
end Go.Proofs.YtlblbldolhiokaaGreatDoor
namespace Go.Proofs.YtlblbldolhiokaaGreatDoor
open Go Go.RowKit Go.Shelf
attribute [local go_sem] Oper.semAt_some
theorem ntS:Tryz.f223.ntmps=38:=by kernel_rfl
theorem ntZ:Tryz.f288.ntmps=7:=by kernel_rfl
theorem JJf (F:Fence)(n:Nat)(h6:F.fn 288)(hro:F.round=none)(m:Bool)(a:Option Addr)(len cap:Nat)(hl:0<len)(w:World) :
  CallsIn F n Tryz.prog 288 #[.agg #[.bool m,.slice a len cap]] w fun e w'=>e=.returned (.bool false)∧w'=w.alloc (.cells #[.bool m,.slice a len cap] 102):=by
 refine callsIn_of_wp Tryz.func288 rfl h6 ?_ hro;simp only[ntZ,List.size_toArray,List.length_cons,List.length_nil,Nat.reduceAdd,Nat.reduceSub,Array.replicate_succ,Array.replicate_zero,List.push_toArray,List.append_toArray,List.nil_append,List.cons_append];have hl':¬ (len:Int)=0:=by omega
 gi_wp2
 go_ret
 exact ⟨by simp;omega,rfl⟩
def KpS (n₀:Nat)(A B:World):Prop:=∀ k,(k<n₀∨k=n₀+3)→B.heap[k]?=A.heap[k]?
theorem KpS.cell {n₀:Nat}{A B:World}(h:KpS n₀ A B){c o:Nat}(hc:c<n₀∨c=n₀+3):B.cell? ⟨c,o,none⟩=A.cell? ⟨c,o,none⟩:=by
 unfold World.cell?;simp only[h c hc]
def dig9 (v:Nat):List Nat:=(List.range 9).map fun i=>48+v/10 ^ (8-i)%10
def txt9 (pre:List (Nat×Fin 1000000000)):List Nat:=pre.flatMap fun x=>dig9 x.2.val
def J2L (n:Nat):Value:=.int .u8 n
theorem JEr {W wr:World}(hg:W.grownBy wr none)(i:Nat)(v:Value):W.grownBy (wr.setCell ⟨W.heap.size,i,none⟩ v) none:=by
 obtain ⟨h1,h2,h3,h4,h5⟩:=hg;exact ⟨h1,h2,h3,Nat.le_trans h4 (KeepsWalks.setCell wr _ v).size,fun k hk hn=>(Below.heap_setCell _ _ _ k (by simp;omega)).trans (h5 k hk hn)⟩
def J7g (v:Nat)(j:Nat):Array Value:=(((List.replicate (9-j) (Value.int .u8 0)))++((dig9 v).drop (9-j)).map J2L).toArray
theorem JED {W:World}{B i:Nat}{A:Array Value}{t:TypeId}{v:Value}(h:W.heap[B]?=some (.cells A t (0,0))):(W.setCell ⟨B,i,none⟩ v).heap[B]?=some (.cells (A.setIfInBounds i v) t (0,0)):=by
 obtain ⟨hlt,hk⟩:=Array.getElem?_eq_some_iff.1 h;show (W.heap.modify B _)[B]?=_
 rw[Array.getElem?_eq_getElem (by rw[Array.size_modify];exact hlt),Array.getElem_modify_self,hk];rfl
theorem JCp (v j:Nat)(hj:j<9):J7g v (j+1)=(J7g v j).setIfInBounds (8-j) (J2L (48+v/10 ^ j%10)):=by
 unfold J7g dig9 J2L
 rcases j with _|_|_|_|_|_|_|_|_|j
 all_goals first
  |omega
  |(simp[List.range,List.range.loop])
theorem J2n (pre:List (Nat×Fin 1000000000)):(txt9 pre).length=9*pre.length:=by
 induction pre with
 |nil=>rfl
 |cons a r ih=>
   unfold txt9 at *;rw[List.flatMap_cons,List.length_append,ih];simp[dig9];omega
theorem J6D {F:Fence}{n:Nat}{P:Program}(w:World){o:Oper}{a:Act}{K:Act→World→Prop}{Q:Exit→Act→World→Prop}
  (s x:Operand)(t:TypeId)(hop:o.op=Op.call { callee:=Callee.builtin Builtin.append,args:=#[s,x],argTypes:=#[t,t] })
  (base:Nat)(e:TypeId)(i:TypeInfo)(z:Value)(size bytes:Nat)(h1:P.underlying t=some (.slice e))(h2:P.info? e=some i)(h3:i.zero=some z)(h4:i.size=size)(h5:i.bytes=bytes)(h6:z.cells.size=size)(h7:0<size)
  (v:Value)(k:Nat)(xs:List Value)(hs:a.eval s=v)(hown:w.ownsRow base e size v k xs)(ad:Addr)(m c:Nat)(news:List Value)(hx:a.eval x=.slice (some ad) m c)(hn:news.length=m*size)
  (hc:∀ j u,news[j]?=some u→w.cell? (ad.add j)=some u)(h1c:∀ u∈news,u.oneCell'=true)(b1:k+m≤maxLen)(b2:(k+m)*bytes≤140737488355328)(b3:base≤w.heap.size)
  (hK':∀ v' w',w'.ownsRow base e size v' (k+m) (xs++news)→w.grownBy w' v.ownBlock→(v'=.slice none 0 0↔v=.slice none 0 0∧m=0)→K (a.put o.dst v') w') :
  o.wpIn F n P a w K Q:=by
 obtain ⟨v',w',hrun,r1,r2,r3⟩:=run_append_own (P:=P) w base t o.type e i z size bytes h1 h2 h3 h4 h5 h6 h7 v k xs hown ad m c news hn hc h1c b1 b2 b3;unfold Oper.wpIn;refine ⟨?_,?_⟩
 ·simp[Oper.about,hop,resolve,Target.leads,Sem.run_pure]
 ·rw[Oper.semAt_plain F _ _ (by rw[hop];intro c hc';cases hc')];simp[execOp,hop,resolve,invoke,builtin,hs,hx,hrun,Result.andThen];exact hK' _ _ r1 r2 r3
theorem J8U (b:UInt8):∀ l:List UInt8,(J3O b l).length≤l.length
 |[]=>Nat.le_refl _
 |c::l=>by
   have:=J8U b l;rw[J42];split<;>simp<;>omega
theorem JL6:(Tryz.prog.info? 5).map (fun i=>(i.zero,i.size,i.bytes))=some (some (.int .u8 0),1,1):=by kernel_rfl
theorem und5:Tryz.prog.underlying 5=some (.int .u8):=by kernel_rfl
theorem und9:Tryz.prog.underlying 9=some .string:=by kernel_rfl
theorem JDr:Tryz.prog.underlying 283=some (.slice 5):=by kernel_rfl
theorem JFt (F:Fence)(n:Nat)(hF:∀ f,F.fn f)(hro:F.round=none)(hn:5≤n)(m:Bool)(b off len cap:Nat)(zs:Nat→Fin 1000000000)(hlen:0<len)(hreach:len≤2^36)(w:World)(hb:b<w.heap.size)
  (hc:∀ j,j<len→w.cell? ⟨b,off+j,none⟩=some (.int .u32 ((zs j).val:Int)))
  (hT:∀ l:List UInt8,l.length<2^62→∀ w',CallsIn F (n-1) Tryz.prog 307 #[.string (ofL l),.string (b1 48)] w' fun e w''=>e=.returned (.string (ofL (J3O 48 l)))∧Below w'.heap.size w' w'') :
  CallsIn F n Tryz.prog 223 #[.agg #[.bool m,.slice (some ⟨b,off,none⟩) len cap]] w fun e W'=>e=.returned (.string (if m then b1 45++ofL (J3O 48 ((txt9 (J13 zs len len)).map UInt8.ofNat)) else ofL (J3O 48 ((txt9 (J13 zs len len)).map UInt8.ofNat))))∧Below w.heap.size w W':=by
 have h1:1≤n:=by omega
 refine callsIn_of_wp_marks Tryz.func223 rfl (hF _) ?_ hro;simp only[ntS,List.size_toArray,List.length_cons,List.length_nil,Nat.reduceAdd,Nat.reduceSub,Array.replicate_succ,Array.replicate_zero,List.push_toArray,List.append_toArray,List.nil_append,List.cons_append]
 gi_wp2_with (first
  |(gi_at_call 288;refine (JJf F (n-1) (hF _) hro m (some ⟨b,off,none⟩) len cap hlen _).mono ?_;rintro e w' ⟨rfl,rfl⟩)
  |(gi_at_call 306;refine (JJR F (n-1) (hF _) hro m (some ⟨b,off,none⟩) len cap _).mono ?_;rintro e w' ⟨rfl,rfl⟩))
 obtain ⟨W0,hW0⟩:∃ W0,((((w.alloc (.cells #[.bool m,.slice (some ⟨b,off,none⟩) len cap] 102)).alloc (.cells #[.bool m,.slice (some ⟨b,off,none⟩) len cap] 102)).alloc (.cells #[.slice none 0 0] 283)).alloc (.cells #[.bool m,.slice (some ⟨b,off,none⟩) len cap] 102))=W0:=⟨_,rfl⟩;have hsz:W0.heap.size=w.heap.size+4:=by rw[← hW0];simp
 have hB0:Below w.heap.size w W0:=by rw[← hW0];exact ((((Below.refl _ w).alloc (Nat.le_refl _) _).alloc (by simp) _).alloc (by simp;omega) _).alloc (by simp;omega) _
 have hx3:W0.heap[w.heap.size+3]?=some (.cells #[.bool m,.slice (some ⟨b,off,none⟩) len cap] 102 (0,0)):=by
  rw[← hW0];have:=World.alloc_heap_new (((w.alloc (.cells #[.bool m,.slice (some ⟨b,off,none⟩) len cap] 102)).alloc (.cells #[.bool m,.slice (some ⟨b,off,none⟩) len cap] 102)).alloc (.cells #[.slice none 0 0] 283)) (.cells #[.bool m,.slice (some ⟨b,off,none⟩) len cap] 102)
  simpa using this
 have hx0:W0.heap[w.heap.size]?=some (.cells #[.bool m,.slice (some ⟨b,off,none⟩) len cap] 102 (0,0)):=by
  rw[← hW0,Below.heap_alloc _ _ _ (by simp;omega),Below.heap_alloc _ _ _ (by simp;omega),Below.heap_alloc _ _ _ (by simp)];exact World.alloc_heap_new w _
 have hbx:Boxed W0 (w.heap.size+1+1) 283 (.slice none 0 0):=by
  rw[← hW0];have:=(Boxed.new ((w.alloc (.cells #[.bool m,.slice (some ⟨b,off,none⟩) len cap] 102)).alloc (.cells #[.bool m,.slice (some ⟨b,off,none⟩) len cap] 102)) 283 (.slice none 0 0)).alloc (.cells #[.bool m,.slice (some ⟨b,off,none⟩) len cap] 102)
  simpa using this
 rw[hW0]
 refine wpIn_rangeFunc_ownG hro h1 (gf:=359) (lb:=#[.pointer (some ⟨w.heap.size+3,0,none⟩)]) rfl (hF _) (enters_of Tryz.func359 (by kernel_rfl) rfl)
  (JD5 F (n-1) (hF _) hro (by omega) (w.heap.size+3) b off len cap m zs (by omega) W0 (by omega) (by omega) (KpS w.heap.size) (fun A k hk=>rfl) (fun A B C h h' k hk=>(h' k hk).trans (h k hk)) (fun A B h=>h.cell (.inr rfl)) (fun A B j h=>h.cell (.inl hb))
    (by simp[World.cell?,hx3]) (by simp[World.cell?,hx3]) (fun j hj=>(hB0.cell (p:=⟨b,off+j,none⟩) hb).trans (hc j hj)))
  (fun h h' k hk=>(h' k hk).trans (h k hk)) (fun W l o o' hl _ _ _ k hk=>World.putObj_heap_other (by omega)) (Below.refl _ _) (fun _=>rfl)
  (fun pre W=>(∃ v,Boxed W (w.heap.size+1+1) 283 v∧W.ownsRow (w.heap.size+4) 5 1 v (txt9 pre).length ((txt9 pre).map J2L))∧Below w.heap.size w W∧W0.heap.size≤W.heap.size∧W.heap[w.heap.size]?=some (.cells #[.bool m,.slice (some ⟨b,off,none⟩) len cap] 102 (0,0)))
  (fun _ _ _=>False)
  ?hI (fun _ _ _ _ _ hs _ _=>hs) ⟨⟨_,hbx,?h0⟩,hB0,Nat.le_refl _,hx0⟩
  (fun x=>{ tmps:=#[.agg #[.bool m,.slice (some ⟨b,off,none⟩) len cap],.pointer (some ⟨w.heap.size,0,none⟩),.string ⟨#[]⟩,.pointer (some ⟨w.heap.size+1+1,0,none⟩),undef,.int .u32 (x.2.val:Int),undef,undef,undef,.agg #[.bool m,.slice (some ⟨b,off,none⟩) len cap],.bool false,.agg #[.bool m,.slice (some ⟨b,off,none⟩) len cap],.func (.func 359) #[] #[.pointer (some ⟨w.heap.size+1+1+1,0,none⟩)],.int .i64 (x.1:Int),.int .u32 (x.2.val:Int),undef,undef,undef,undef,undef,undef,undef,undef,undef,undef,undef,undef,undef,undef,undef,undef,undef,undef,undef,undef,undef,undef,undef],defers:=[] }) ?assign ?body ?done ?stop
 case stop=>
  rintro D c pre W _ _ h _;exact h.elim
 case h0=>exact World.ownsRow_nil _ _ _ _
 case assign=>
  intro l x W K hK
  gi_wp2
  exact hK
 case hI=>
  refine OwnFrom.and (Own.from ?_ _) (OwnFrom.and (ownFrom_below (Nat.le_refl _) (by omega)) (OwnFrom.and (fun s X Y row h hg _=>Nat.le_trans h hg.size) (fun s X Y row h hg hr=>(hg.block _ (Array.getElem?_eq_some_iff.1 h).1 (fun e=>by obtain ⟨_,o,ho,hc⟩:=hr _ e.symm;rw[h] at ho;cases ho;cases hc)).trans h)));rintro s X Y row ⟨v,hv,hr⟩ hg hrow;obtain ⟨v',hv',hr',-⟩:=holdsRow_own (w.heap.size+4) (w.heap.size+1+1) 283 5 1 (fun s=>(txt9 s).length) (fun s=>(txt9 s).map J2L) (fun _ _=>True) s X Y row ⟨v,hv,hr,trivial⟩ hg hrow;exact ⟨v',hv',hr'⟩
 case body =>
  rintro l pre x W ⟨⟨v,hv,hrow⟩,hB,hWs,hx1⟩ hlt
  gi_wp2
  gi_loopw [5,7] (fun wd i wr=>∃ j:Nat,j≤9∧wd=.int .u32 ((x.2.val/10 ^ j:Nat):Int)∧i=.int .i64 (8-(j:Int))∧W.grownBy wr none∧wr.heap.size=W.heap.size+1∧wr.heap[W.heap.size]?=some (.cells (J7g x.2.val j) 334 (0,0)))
   (fun _ i _=>(intOf i+1).toNat)
  case atStart=>
   exact ⟨0,by omega,by simp,rfl,World.grownBy_alloc W _ none,by simp,World.alloc_heap_new W _⟩
  case round=>
   obtain ⟨j,hj,rfl,rfl,hg,hsw,hp⟩:=hrel
   by_cases hj9:j<9
   ·have hge:(0:Int)≤8-(j:Int):=by omega
    have hdv:x.2.val/10 ^ j<1000000000:=Nat.lt_of_le_of_lt (Nat.div_le_self _ _) x.2.isLt;generalize hvv:x.2.val/10 ^ j=vv at hdv ⊢;have e8:(8:Int)-j=((8-j:Nat):Int):=by omega
    have hsz9:(J7g x.2.val j).size=9:=by unfold J7g dig9;simp<;>omega
    obtain ⟨u,hu⟩:∃ u,(J7g x.2.val j)[8-j]?=some u:=⟨_,Array.getElem?_eq_getElem (by rw[hsz9];omega)⟩;have hcl:wr.cell? ⟨W.heap.size,8-j,none⟩=some u:=by simp[World.cell?,hp,hu]
    have hfz:wr.frozen? ⟨W.heap.size,8-j,none⟩=false:=by simp[World.frozen?,hp]
    rw[e8]
    gi_wp2
    refine ⟨⟨j+1,by omega,?_,?_,JEr hg _ _,?_,?_⟩,?_⟩
    ·rw[Nat.pow_succ,← Nat.div_div_eq_div_mul,hvv];rfl
    ·congr 1;omega
    ·simp[hsw]
    ·rw[JED hp,JCp x.2.val j hj9,hvv];rfl
    ·simp[intOf]<;>omega
   ·obtain rfl:j=9:=by omega
    have hv2:=hv.kept hg (by simp);have hrow2:wr.ownsRow (w.heap.size+4) 5 1 v (txt9 pre).length ((txt9 pre).map J2L):=hrow.kept hg (by rcases h:v.ownBlock with _|g;exact .inl rfl;exact .inr (by simp));have hcv:=hv2.cell;have hfv:=hv2.frozen;have hp9:(J7g x.2.val 9)=((dig9 x.2.val).map J2L).toArray:=by unfold J7g;simp
    rw[hp9] at hp;have hl9:((dig9 x.2.val).map J2L).length=9*1:=by simp[dig9]
    have hnw:∀ j u,((dig9 x.2.val).map J2L)[j]?=some u→wr.cell? (Addr.add ⟨W.heap.size,0,none⟩ j)=some u:=by
     intro j u hu;have:Addr.add ⟨W.heap.size,0,none⟩ j=⟨W.heap.size,j,none⟩:=by unfold Addr.add;split<;>simp_all
     rw[this];simp only[World.cell?,hp]
     simpa using hu
    obtain ⟨i0,hi,hz0,hz1,hz2⟩:=info_parts JL6;have hw4:w.heap.size+4≤wr.heap.size:=by rw[hsw];have:=hB.size;have:=hv.lt;omega
    have hK9:(txt9 pre).length+9≤9*len:=by rw[J2n];omega
    have hmx:Tryz.prog.follows .mixedOrders=true:=by kernel_rfl
    gi_wp2
    refine wpIn_region_any hmx ?_
    change wpAnyIn _ _ _ _ _ _ _ _ _ (World.drew _)
    refine wpAnyIn_ready (rs:=[0,1]) (by kernel_rfl) (by simp) ?_;refine AllReadyIn.cons rfl (fun K hK=>?_) (AllReadyIn.cons rfl (fun K hK=>?_) AllReadyIn.nil)
    ·go_simp
     refine hK _ _ ?_;clear hK K;refine wpAnyIn_ready (rs:=[1]) (by kernel_rfl) (by simp) ?_;refine AllReadyIn.cons rfl (fun K hK=>?_) AllReadyIn.nil
     go_simp
     refine hK _ _ ?_;clear hK K;refine wpAnyIn_ready (rs:=[2]) (by kernel_rfl) (by simp) ?_;refine AllReadyIn.cons rfl (fun K hK=>?_) AllReadyIn.nil;refine Eq.mpr (if_pos (by rfl)) ?_;refine J6D (wr.drew) (o:=_) _ _ 283 rfl (w.heap.size+4) 5 i0 (.int .u8 0) 1 1 JDr hi hz0 hz1 hz2 rfl (by decide) v _ _ rfl hrow2 ⟨W.heap.size,0,none⟩ 9 9 ((dig9 x.2.val).map J2L) rfl hl9 hnw (by intro u hu;obtain ⟨d,_,rfl⟩:=List.mem_map.1 hu;rfl) (by unfold maxLen;omega) (by omega) hw4 fun v' w3 hown' hgrow3 hnil3=>hK _ _ ?_;clear hK K;obtain ⟨g',cap',rfl⟩:=ownsRow_succ hown';have hv3:Boxed w3 _ _ _:=Boxed.kept (W:=wr.drew) hv2 hgrow3 (hv2.not_row (by decide) hrow2);have hc3:=hv3.cell;have hf3:=hv3.frozen;refine wpAnyIn_ready (rs:=[3]) (by kernel_rfl) (by simp) ?_;refine AllReadyIn.cons rfl (fun K hK=>?_) AllReadyIn.nil
     go_simp
     refine hK _ _ ?_;clear hK K;refine wpAnyIn_done (by kernel_rfl) ?_ _;have hgd:wr.grownBy wr.drew none:=⟨rfl,rfl,rfl,Nat.le_refl _,fun k _ _=>rfl⟩;have hne:∀ k,k<w.heap.size+4→some k≠v.ownBlock:=fun k hk e=>by have:=(hrow2.lt k e.symm).1;omega
     have hg4:w3.grownBy (w3.setCell ⟨w.heap.size+1+1,0,none⟩ (.slice (some ⟨g',0,none⟩) ((txt9 pre).length+8+1) cap')) (some (w.heap.size+1+1)):=grownBy_setCell' _ _ _;refine ⟨?k1,?k2,⟨_,hv3.set _,?k3⟩,?k4,?k5,?k6⟩
     case k1=>
      refine (((KeepsOthers.of_grownBy hg (fun j o e=>by cases e)).trans ((KeepsOthers.drew wr).trans (KeepsOthers.of_grownBy hgrow3 (fun j o ej hj=>?_)))).trans (KeepsOthers.setCell _ _ _)).from _
      rcases hrow2.2 with ⟨rfl,_⟩|⟨g,cap,cur,rfl,_,hgb,_⟩
      ·simp[Value.ownBlock] at ej
      ·have:g=j:=by simpa [Value.ownBlock] using ej
       subst this;rw[show wr.drew.heap[g]?=_ from hgb] at hj;cases hj;rfl
     case k2=>
      intro k hk;refine (Below.heap_setCell _ _ _ k (by simp;omega)).trans ((hgrow3.block k (show k<wr.heap.size by omega) (hne k (by omega))).trans (hg.block k (by omega) (by simp)))
     case k3=>
      have hsn:(txt9 (pre++[x])).map J2L=(txt9 pre).map J2L++(dig9 x.2.val).map J2L:=by unfold txt9;simp
      have hln:(txt9 (pre++[x])).length=(txt9 pre).length+9:=by rw[J2n,J2n];simp;omega
      rw[hsn,hln];exact hown'.kept hg4 (.inr (hv3.not_row (by decide) hown').symm)
     case k4=>
      have b1:=(hB.grown hg hB.size (fun k e=>by cases e)).drew;have b2:=b1.grown hgrow3 (show _≤wr.heap.size by omega) (fun k e=>by have:=(hrow2.lt k e).1;omega);exact b2.grown hg4 b2.size (fun k e=>by cases e;omega)
     case k6=>exact ((hg4.block _ (by have:=hgrow3.size;have:wr.drew.heap.size=wr.heap.size:=rfl;omega) (by simp;omega)).trans ((hgrow3.block _ (show w.heap.size<wr.heap.size by omega) (hne _ (by omega))).trans (hg.block _ (by omega) (by simp)))).trans hx1
     case k5=>exact Nat.le_trans (show W0.heap.size≤wr.heap.size by omega) (Nat.le_trans hgrow3.size hg4.size)
    ·go_simp
     refine hK _ _ ?_;clear hK K;refine wpAnyIn_ready (rs:=[0]) (by kernel_rfl) (by simp) ?_;refine AllReadyIn.cons rfl (fun K hK=>?_) AllReadyIn.nil
     go_simp
     refine hK _ _ ?_;clear hK K;refine wpAnyIn_ready (rs:=[2]) (by kernel_rfl) (by simp) ?_;refine AllReadyIn.cons rfl (fun K hK=>?_) AllReadyIn.nil;refine Eq.mpr (if_pos (by rfl)) ?_;refine J6D (wr.drew) (o:=_) _ _ 283 rfl (w.heap.size+4) 5 i0 (.int .u8 0) 1 1 JDr hi hz0 hz1 hz2 rfl (by decide) v _ _ rfl hrow2 ⟨W.heap.size,0,none⟩ 9 9 ((dig9 x.2.val).map J2L) rfl hl9 hnw (by intro u hu;obtain ⟨d,_,rfl⟩:=List.mem_map.1 hu;rfl) (by unfold maxLen;omega) (by omega) hw4 fun v' w3 hown' hgrow3 hnil3=>hK _ _ ?_;clear hK K;obtain ⟨g',cap',rfl⟩:=ownsRow_succ hown';have hv3:Boxed w3 _ _ _:=Boxed.kept (W:=wr.drew) hv2 hgrow3 (hv2.not_row (by decide) hrow2);have hc3:=hv3.cell;have hf3:=hv3.frozen;refine wpAnyIn_ready (rs:=[3]) (by kernel_rfl) (by simp) ?_;refine AllReadyIn.cons rfl (fun K hK=>?_) AllReadyIn.nil
     go_simp
     refine hK _ _ ?_;clear hK K;refine wpAnyIn_done (by kernel_rfl) ?_ _;have hgd:wr.grownBy wr.drew none:=⟨rfl,rfl,rfl,Nat.le_refl _,fun k _ _=>rfl⟩;have hne:∀ k,k<w.heap.size+4→some k≠v.ownBlock:=fun k hk e=>by have:=(hrow2.lt k e.symm).1;omega
     have hg4:w3.grownBy (w3.setCell ⟨w.heap.size+1+1,0,none⟩ (.slice (some ⟨g',0,none⟩) ((txt9 pre).length+8+1) cap')) (some (w.heap.size+1+1)):=grownBy_setCell' _ _ _;refine ⟨?k1,?k2,⟨_,hv3.set _,?k3⟩,?k4,?k5,?k6⟩
     case k1=>
      refine (((KeepsOthers.of_grownBy hg (fun j o e=>by cases e)).trans ((KeepsOthers.drew wr).trans (KeepsOthers.of_grownBy hgrow3 (fun j o ej hj=>?_)))).trans (KeepsOthers.setCell _ _ _)).from _
      rcases hrow2.2 with ⟨rfl,_⟩|⟨g,cap,cur,rfl,_,hgb,_⟩
      ·simp[Value.ownBlock] at ej
      ·have:g=j:=by simpa [Value.ownBlock] using ej
       subst this;rw[show wr.drew.heap[g]?=_ from hgb] at hj;cases hj;rfl
     case k2=>
      intro k hk;refine (Below.heap_setCell _ _ _ k (by simp;omega)).trans ((hgrow3.block k (show k<wr.heap.size by omega) (hne k (by omega))).trans (hg.block k (by omega) (by simp)))
     case k3=>
      have hsn:(txt9 (pre++[x])).map J2L=(txt9 pre).map J2L++(dig9 x.2.val).map J2L:=by unfold txt9;simp
      have hln:(txt9 (pre++[x])).length=(txt9 pre).length+9:=by rw[J2n,J2n];simp;omega
      rw[hsn,hln];exact hown'.kept hg4 (.inr (hv3.not_row (by decide) hown').symm)
     case k4=>
      have b1:=(hB.grown hg hB.size (fun k e=>by cases e)).drew;have b2:=b1.grown hgrow3 (show _≤wr.heap.size by omega) (fun k e=>by have:=(hrow2.lt k e).1;omega);exact b2.grown hg4 b2.size (fun k e=>by cases e;omega)
     case k6=>exact ((hg4.block _ (by have:=hgrow3.size;have:wr.drew.heap.size=wr.heap.size:=rfl;omega) (by simp;omega)).trans ((hgrow3.block _ (show w.heap.size<wr.heap.size by omega) (hne _ (by omega))).trans (hg.block _ (by omega) (by simp)))).trans hx1
     case k5=>exact Nat.le_trans (show W0.heap.size≤wr.heap.size by omega) (Nat.le_trans hgrow3.size hg4.size)
 case done=>
  rintro D xs W hD rfl ⟨⟨v,hv,hrow⟩,hB,hWs,hx1⟩ hK;have hcv:=hv.cell;have hfv:=hv.frozen;obtain ⟨T,hTe⟩:∃ T:List UInt8,T=(txt9 (J13 zs len len)).map UInt8.ofNat:=⟨_,rfl⟩;have hTl:T.length=(txt9 (J13 zs len len)).length:=by rw[hTe,List.length_map]
  have hT9:T.length=9*len:=by rw[hTl,J2n,J3d]
  have htb:T.map (fun b=>Value.int .u8 (b.toNat:Int))=(txt9 (J13 zs len len)).map J2L:=by
   rw[hTe,List.map_map];refine List.map_congr_left fun d hd=>?_
   have hd':d<256:=by
    unfold txt9 dig9 at hd;obtain ⟨x,_,hx⟩:=List.mem_flatMap.1 hd;obtain ⟨i,_,rfl⟩:=List.mem_map.1 hx;omega
   show Value.int .u8 (((UInt8.ofNat d).toNat:Nat):Int)=Value.int .u8 d
   rw[show (UInt8.ofNat d).toNat=d by simp;omega]
  rw[← htb,← hTl] at hrow
  rcases hrow.2 with ⟨_,h0⟩|⟨g,cap2,cur,rfl,hbg,hgb,hr1,hr2,hr3,hr4⟩
  ·omega
  have hcells:∀ j (hj:j<T.length),W.cell? (Addr.add ⟨g,0,none⟩ j)=some (.int .u8 (T[j].toNat:Int)):=by
   intro j hj;have e:Addr.add ⟨g,0,none⟩ j=⟨g,j,none⟩:=by unfold Addr.add;split<;>simp_all
   rw[e];simp only[World.cell?,hgb];have h5:(cur.toList.take (T.length*1))[j]?=some (.int .u8 (T[j].toNat:Int)):=by rw[hr4,List.getElem?_map,List.getElem?_eq_getElem hj];rfl
   rw[List.getElem?_take,if_pos (by omega)] at h5
   simpa using h5
  have hcvt:=run_convert_bytes_back (P:=Tryz.prog) W 283 9 5 ⟨g,0,none⟩ cap2 T JDr und5 und9 hcells;have hTT:=hT T (by omega);have hm1:W.cell? ⟨w.heap.size,0,none⟩=some (.bool m):=by simp[World.cell?,hx1]
  have hlen2:=hreach;clear hcells hgb hr1 hr2 hr3 hr4 htb hT hc hx1 hlen hreach hb hx0 hx3 hbx hB0 hW0;have hTo:T=(txt9 (J13 zs len len)).map UInt8.ofNat∨False:=.inl hTe
  have hsT:¬ 9223372036854775807<1+(ofL (J3O 48 T)).size:=by
   rw[J0K];have:=J8U 48 T;omega
  clear hTe hTl hT9
  gi_wp2_with (rw[hcvt];dsimp only[Result.andThen,Oper.uponIn])
  refine (hTT _).mono ?_;rintro e w' ⟨rfl,hBT⟩;have hm2:=(hBT.cell (p:=⟨w.heap.size,0,none⟩) (by have:=hB.size;show w.heap.size<W.heap.size;omega)).trans hm1;have hDW:D<W.heap.size:=(Array.getElem?_eq_some_iff.1 hK).1;have hK':w'.heap[D]?=some (.deferred (some [])):=(hBT.block D hDW).trans hK
  have hBw:Below w.heap.size w (w'.putObj D (.deferred none)):=by
   have hsz2:(w'.putObj D (.deferred none)).heap.size=w'.heap.size:=by simp[World.putObj]
   have b1:Below w.heap.size w w':=hB.trans (hBT.mono (by omega));exact b1.trans ⟨rfl,rfl,rfl,by rw[hsz2];exact Nat.le_refl _,fun k hk=>World.putObj_heap_other (by omega)⟩
  clear hcvt hTT hcv hv hrow hfv hm1 hB hWs hK hBT
  gi_wp2
  ·rcases hTo with hTe | hf
   case inr=>exact hf.elim
   subst hTe;refine ⟨by simp,.inl ⟨_,_,rfl,run_takeDeferred hK',?_⟩⟩;exact ⟨_,results_tmp rfl _ _ _,rfl,hBw⟩
  ·exact absurd (by assumption:m=true) (by simp[*])
  ·rcases hTo with hTe | hf
   case inr=>exact hf.elim
   subst hTe;refine ⟨by simp,.inl ⟨_,_,rfl,run_takeDeferred hK',?_⟩⟩;exact ⟨_,results_tmp rfl _ _ _,rfl,hBw⟩
end Go.Proofs.YtlblbldolhiokaaGreatDoor
namespace Go.Fw
theorem JKX {b:Nat}(hb:1<b):∀ (n i:Nat) (h:i<(dg b n).length),(dg b n)[i]=n/b ^ i%b:=by
 intro n
 induction n using Nat.strongRecOn with
 |ind n ih=>
   intro i h
   by_cases hn:0<n
   ·simp only[J5u hb hn] at h ⊢
    cases i with
    |zero=>simp
    |succ i=>
      rw[List.getElem_cons_succ,ih _ (Nat.div_lt_self hn hb),Nat.div_div_eq_div_mul,Nat.pow_succ,Nat.mul_comm b]
   ·rw[show n=0 by omega,J1S] at h;simp at h
def dl (n:Nat):Nat→List Nat
 |0=>[]
 |p+1=>(48+n/10 ^ p%10)::dl n p
theorem JIF (n:Nat):∀ p,(dl n p).length=p
 |0=>rfl
 |p+1=>by simp[dl,JIF n p]
theorem JJS (n:Nat):∀ p,(dl n p).all isDg=true
 |0=>rfl
 |p+1=>by
   rw[dl,List.all_cons,JJS n p,Bool.and_true];unfold isDg;have:=Nat.mod_lt (n/10 ^ p) (show 0<10 by omega);exact decide_eq_true (by omega)
theorem JID (n:Nat):∀ p,decB (dl n p)=n%10 ^ p
 |0=>by simp[dl,decB,vl,Nat.mod_one]
 |p+1=>by
   have h:dl n (p+1)=[48+n/10 ^ p%10]++dl n p:=rfl;rw[h,J80,JID n p,JIF];have h1:decB [48+n/10 ^ p%10]=n/10 ^ p%10:=by simp[decB,vl]
   rw[h1,Nat.pow_succ,Nat.mod_mul]
   grind
theorem JIE (n m:Nat):∀ p,n%10 ^ p=m%10 ^ p→dl n p=dl m p
 |0,_=>rfl
 |p + 1,h=>by
   rw[Nat.pow_succ,Nat.mod_mul,Nat.mod_mul] at h;have hp:0<10 ^ p:=Nat.pow_pos (by omega);have h1:n%10 ^ p<10 ^ p:=Nat.mod_lt _ hp;have h2:m%10 ^ p<10 ^ p:=Nat.mod_lt _ hp
   have h3:n%10 ^ p=m%10 ^ p:=by
    have:=congrArg (· % 10 ^ p) h
    simpa [Nat.add_mul_mod_self_left] using this
   have h4:n/10 ^ p%10=m/10 ^ p%10:=by
    rw[h3] at h;exact Nat.eq_of_mul_eq_mul_left hp (by omega)
   rw[dl,dl,h4,JIE n m p h3]
theorem JIG (n p:Nat):∀ q,dl n (q+p)=dl (n/10 ^ p) q++dl n p
 |0=>by simp[dl]
 |q+1=>by
   rw[show q+1+p=q+p+1 by omega,dl,JIG n p q,dl,List.cons_append,Nat.div_div_eq_div_mul,← Nat.pow_add,Nat.add_comm p q]
def cut0:List Nat→List Nat
 |[]=>[]
 |c::l=>if c=48 then cut0 l else c::l
theorem J89:∀ l:List Nat,decB (cut0 l)=decB l
 |[]=>rfl
 |c :: l=>by
   unfold cut0;split
   ·rename_i h;rw[J89 l,show c::l=[c]++l from rfl,J80,h];simp[decB,vl]
   ·rfl
theorem JHQ {l:List Nat}(h:l.all isDg=true):(cut0 l).all isDg=true:=by
 induction l with
 |nil=>rfl
 |cons c l ih=>
   rw[List.all_cons,Bool.and_eq_true] at h;unfold cut0;split
   ·exact ih h.2
   ·rw[List.all_cons,h.1,h.2];rfl
theorem JJX (l:List Nat):cut0 l=[]∨(cut0 l).getD 0 0≠48:=by
 induction l with
 |nil=>exact .inl rfl
 |cons c l ih=>
   unfold cut0;split
   ·exact ih
   ·rename_i h;exact .inr (by simpa using h)
theorem JFV {l:List Nat}(h:l.all isDg=true)(h0:0<decB l):cut0 l=decT (decB l):=by
 have hne:cut0 l≠[]:=fun e=>by have:=J89 l;rw[e,show decB []=0 from rfl] at this;omega
 have hc:J1o (cut0 l)=true:=by
  unfold J1o;rw[JHQ h,Bool.and_true];simp only[Bool.and_eq_true,Bool.or_eq_true,decide_eq_true_eq];exact ⟨List.length_pos_iff.2 hne,.inr ((JJX l).resolve_left hne)⟩
 have:=J3e hc;rw[J89] at this;exact this.symm
theorem JHL (n:Nat):(decT n).length=if n=0 then 1 else (dg 10 n).length:=by
 unfold decT;split<;>simp
theorem decT_lt (n:Nat):n<10 ^ (decT n).length:=by
 have:=JFE (J3J n)
 rwa [J9N] at this
end Go.Fw
namespace Go.Proofs.YtlblbldolhiokaaGreatDoor
open Go Go.RowKit Go.Fw
attribute [local go_sem] Oper.semAt_some
theorem JJU (v:Nat):dig9 v=dl v 9:=by
 simp[dig9,dl,List.range,List.range.loop]
theorem JI0 (n len:Nat)(zs:Nat→Fin 1000000000)(hz:∀ j,j<len→(zs j).val=n/B9 ^ j%B9):∀ k,k≤len→txt9 (J13 zs len k)++dl n (9*(len-k))=dl n (9*len)
 |0,_=>rfl
 |k+1,hk=>by
   have ih:=JI0 n len zs hz k (by omega);rw[← ih,J3I];have e:txt9 (J13 zs len k++[(len-1-k,zs (len-1-k))])=txt9 (J13 zs len k)++dig9 (zs (len-1-k)).val:=by unfold txt9;simp
   rw[e,List.append_assoc]
   congr 1
   rw[show 9*(len-k)=9+9*(len-(k+1)) by omega,JIG,JJU]
   congr 1
   refine JIE _ _ 9 ?_;rw[hz _ (by omega),show len-(k+1)=len-1-k by omega,show (B9:Nat)=10 ^ 9 from rfl,← Nat.pow_mul,Nat.mod_mod]
theorem JDu {L:List Nat}(h:L.all isDg=true):J3O 48 (L.map UInt8.ofNat)=(cut0 L).map UInt8.ofNat:=by
 induction L with
 |nil=>rfl
 |cons c L ih=>
   rw[List.all_cons,Bool.and_eq_true] at h;rw[List.map_cons,J42,ih h.2];have hc:=h.1;unfold isDg at hc;simp at hc;rw[show cut0 (c::L)=if c=48 then cut0 L else c::L from rfl]
   by_cases e:c=48
   ·subst e;rfl
   ·rw[if_neg e,if_neg,List.map_cons];intro e2;have:=congrArg UInt8.toNat e2;simp at this;omega
theorem JCP (n len:Nat)(hl:len=(dg B9 n).length)(hn:0<n)(zs:Nat→Fin 1000000000)(hz:∀ j (h:j<(dg B9 n).length),(zs j).val=(dg B9 n)[j]) :
  J3O 48 ((txt9 (J13 zs len len)).map UInt8.ofNat)=(decT n).map UInt8.ofNat:=by
 have h1:=JI0 n len zs (fun j hj=>by rw[hz j (by omega),JKX hB9]) len (Nat.le_refl _);rw[Nat.sub_self,Nat.mul_zero,dl,List.append_nil] at h1
 have hlt:n<10 ^ (9*len):=by
  rw[hl,Nat.pow_mul];exact J9I hB9 n
 have hv:decB (dl n (9*len))=n:=by rw[JID,Nat.mod_eq_of_lt hlt]
 rw[h1,JDu (JJS _ _),JFV (JJS _ _) (by rw[hv];exact hn),hv]
theorem JHg (F:Fence)(n:Nat)(h6:F.fn 288)(hro:F.round=none)(m:Bool)(a:Option Addr)(cap:Nat)(w:World) :
  CallsIn F n Tryz.prog 288 #[.agg #[.bool m,.slice a 0 cap]] w fun e w'=>e=.returned (.bool true)∧w'=w.alloc (.cells #[.bool m,.slice a 0 cap] 102):=by
 refine callsIn_of_wp Tryz.func288 rfl h6 ?_ hro;simp only[ntZ,List.size_toArray,List.length_cons,List.length_nil,Nat.reduceAdd,Nat.reduceSub,Array.replicate_succ,Array.replicate_zero,List.push_toArray,List.append_toArray,List.nil_append,List.cons_append]
 gi_wp2
 go_ret
 exact ⟨rfl,rfl⟩
theorem J4M (F:Fence)(n:Nat)(hF:∀ f,F.fn f)(hro:F.round=none)(hn:5≤n)(m:Bool)(a:Option Addr)(cap:Nat)(w:World) :
  CallsIn F n Tryz.prog 223 #[.agg #[.bool m,.slice a 0 cap]] w fun e W'=>e=.returned (.string ⟨#[48]⟩)∧Below w.heap.size w W':=by
 have h1:1≤n:=by omega
 refine callsIn_of_wp_marks Tryz.func223 rfl (hF _) ?_ hro;simp only[ntS,List.size_toArray,List.length_cons,List.length_nil,Nat.reduceAdd,Nat.reduceSub,Array.replicate_succ,Array.replicate_zero,List.push_toArray,List.append_toArray,List.nil_append,List.cons_append]
 gi_wp2_with (gi_at_call 288;refine (JHg F (n-1) (hF _) hro m a cap _).mono ?_;rintro e w' ⟨rfl,rfl⟩)
 refine ⟨_,results_tmp rfl _ _ _,rfl,?_⟩;exact ((Below.refl _ w).alloc (Nat.le_refl _) _).alloc (by simp) _
theorem JKf {us:Array Value}(h:2=us.size):∃ a b,us=#[a,b]:=by
 obtain ⟨l⟩:=us
 match l,h with
 |[a,b],_=>exact ⟨a,b,rfl⟩
theorem JKg {us:Array Value}(h:1=us.size):∃ a,us=#[a]:=by
 obtain ⟨l⟩:=us
 match l,h with
 |[a],_=>exact ⟨a,rfl⟩
def encT (l:List Nat):AV:=encS (ofL (l.map UInt8.ofNat))
def sT (z:Int):List Nat:=if z<0 then 45::decT z.natAbs else decT z.natAbs
theorem J3r (z:Int)(hz:zl z<2^36):PX 223 [encZ z] (encT (sT z)):=by
 intro O w vs hO hv;obtain ⟨hs,h⟩:=hv;obtain ⟨v,rfl⟩:=JKg hs;have hv0:VR KM.empty w O (encZ z) v:=h 0 (by simp) (by simp);clear h hs;rw[J0L] at hv0
 cases hv0 with
 |agg _ us hl hu hp=>
   obtain ⟨x,y,rfl⟩:=JKf hl;have hx:VR KM.empty w O (.val (.bool (decide (z<0)))) x:=hu 0 (by simp) (by simp);have hy:VR KM.empty w O (.sl 1 ((dg B9 z.natAbs).map encw)) y:=hu 1 (by simp) (by simp);clear hu hp hl
   cases hx with
   |val _ _ =>
     have fin:∀ (e:Ending) (w':World),e=.returned (.string (ofL ((sT z).map UInt8.ofNat)))∧Below w.heap.size w w'→∃ v,e=.returned v∧VR KM.empty w' O (encT (sT z)) v∧Below w.heap.size w w':=by
      rintro e w' ⟨rfl,hb⟩;exact ⟨_,rfl,.val _ rfl,hb⟩
     refine callsIn_wide.1 (CallsIn.mono (n:=5) (R:=fun e w'=>e=.returned (.string (ofL ((sT z).map UInt8.ofNat)))∧Below w.heap.size w w') ?_ fin);unfold zl at hz;have hg:=g9 (J0I hB9 z.natAbs);have hdn:=J5w hB9 z.natAbs;have hwt:=JCP z.natAbs;generalize hW:dg B9 z.natAbs=W at *
     by_cases h0:z=0
     ·have hW0:W=[]:=hdn.2 (by rw[h0];rfl);subst hW0;have e0:ofL ((sT z).map UInt8.ofNat)=⟨#[48]⟩:=by rw[h0];rfl
      rw[e0];generalize hxs:([]:List Nat).map encw=xs at hy
      cases hy with
      |slnil=>exact J4M Fence.wide 5 (fun _=>trivial) rfl (by omega) _ _ _ w
      |slemp _ a=>exact J4M Fence.wide 5 (fun _=>trivial) rfl (by omega) _ _ _ w
      |sl _ _ c o cap f h1 h2 h3 h4 h5 h6 h7=>
        have:xs=[]:=hxs.symm;subst this;exact J4M Fence.wide 5 (fun _=>trivial) rfl (by omega) _ _ _ w
     ·have hWn:W≠[]:=fun e=>h0 (by have:=hdn.1 e;omega);have hpos:0<W.length:=List.length_pos_iff.2 hWn;generalize hxs:W.map encw=xs at hy;have hln:xs.length=W.length:=by rw[← hxs,List.length_map]
      cases hy with
      |slnil=>simp at hln;omega
      |slemp _ a=>simp at hln;omega
      |sl _ _ c o cap f h1 h2 h3 h4 h5 h6 h7=>
        obtain ⟨A,e,zz,hA,_⟩:=h3;have hc:=(Array.getElem?_eq_some_iff.1 hA).1
        have key:=JFt Fence.wide 5 (fun _=>trivial) rfl (by omega) (decide (z<0)) c o W.length cap (fun j=>if h:j<W.length then ⟨W[j],hg j h⟩ else ⟨0,by decide⟩) hpos (by omega) w hc
         (fun j hj=>by
           rw[dif_pos hj];have hjx:j<xs.length:=by omega
           have hx:xs[j]=encw W[j]:=by subst hxs;simp
           have h8:=h6 j hjx 0 (by rw[hx];exact Nat.zero_lt_one);have h9:=h5 j hjx 0 (by omega);simp only[hx,encw,AV.cells,List.getElem_cons_zero] at h8;rw[Nat.mul_one,Nat.add_zero] at h9;rw[h9];generalize f j 0=y at h8
           cases h8 with
           |val _ _=>rfl)
         (fun l hl w'=>callsIn_wide.2 (by
           have:=JB0 l hl (fun _=>False) w' #[.string (ofL l),.string (b1 48)] (fun _ h=>h.elim) ⟨rfl,fun i h h'=>by
            rcases i with _|_|i
            ·exact .val _ rfl
            ·exact .val _ rfl
            ·simp at h;omega⟩
           refine this.mono ?_;rintro e w'' ⟨v,rfl,hv,hb⟩
           cases hv with
           |val _ _=>exact ⟨rfl,hb⟩))
        rw[hln];refine key.mono ?_;rintro e w' ⟨rfl,hb⟩;refine ⟨?_,hb⟩;rw[hwt W.length rfl (by omega) _ (fun j hj=>by rw[dif_pos hj])];unfold sT
        by_cases hneg:z<0
        ·rw[if_pos (decide_eq_true hneg),if_pos hneg]
         congr 2
        ·rw[if_neg (by simpa using hneg),if_neg hneg]
end Go.Proofs.YtlblbldolhiokaaGreatDoor
namespace Go.Proofs.YtlblbldolhiokaaGreatDoor
open Go Go.Fw
def nd (z:Int):Nat:=(decT z.natAbs).length
theorem J3b (l:List Nat):(ofL (l.map UInt8.ofNat)).size=l.length:=by rw[J0K,List.length_map]
theorem J2l (z:Int)(hz:zl z<2^36):PX 217 [encZ z] (encI (nd z)):=by
 refine PZ Tryz.func217 rfl ?_;refine kWS ?_;intros;refine J00 [] _ c304 (JCI z) ?_;refine kWS ?_;intros;refine CallP.flat [] _ c223 (J3r (z.natAbs:Int) (by unfold zl at *;rw[Int.natAbs_natCast];exact hz)) rfl ?_;refine kWS ?_;intros;refine .of ?_;show AV.val (.int .i64 _)=AV.val (.int .i64 _)
 rw[J3b];unfold sT nd;rw[if_neg (by omega),Int.natAbs_natCast]
def encQ (n d:Int):AV:=.agg [encB (decide (n<0)),encW n.natAbs,encB (decide (d<0)),encW d.natAbs]
def nilQ:AV:=.agg [encB false,.val (.slice none 0 0),encB false,.val (.slice none 0 0)]
theorem JJk (n d:Int):PX 402 [encQ n d] (encZ n):=by
 refine PZ Tryz.func402 rfl ?_;unfold encQ;refine kWS ?_;intros;exact .of rfl
theorem JJq (n d:Int):PX 403 [encQ n d] (encZ d):=by
 refine PZ Tryz.func403 rfl ?_;unfold encQ;refine kWS ?_;intros;exact .of rfl
theorem J4y (n d:Int):PX 111 [encQ n d] (encI (sgn n)):=by
 refine PZ Tryz.func111 rfl ?_;unfold encQ;refine kWS ?_;intros;refine CallP.flat [] _ c193 (J8I n) rfl ?_;refine kWS ?_;intros;exact .of rfl
theorem J6J (n d:Int):PX 327 [encQ n d] (encB (decide (d=1))):=by
 refine PZ Tryz.func327 rfl ?_;unfold encQ;refine kWS ?_;intros;refine CallP.flat [] _ c165 (J4X d) rfl ?_;refine kWS ?_;intros;exact .of rfl
def qT (n d:Int):List Nat:=if d=1 then sT n else sT n++47::sT d
theorem J4p (a b:List Nat):ofL (a.map UInt8.ofNat)++ofL (b.map UInt8.ofNat)=ofL ((a++b).map UInt8.ofNat):=by
 apply ByteArray.ext;rw[ByteArray.data_append];apply Array.ext';simp[ofL]
theorem JL3 (z:Int):nd z≤9*zl z+1:=by
 unfold nd zl decT;split
 ·simp
 ·rw[List.length_map,List.length_reverse];have:=J9I hB9 z.natAbs;rw[show (B9:Nat)=10 ^ 9 from rfl,← Nat.pow_mul] at this;have:=J1A (b:=10) (by omega) this;exact Nat.le_succ_of_le this
theorem JGe (z:Int):(sT z).length≤9*zl z+2:=by
 have:=JL3 z;unfold sT nd at *;split<;>simp<;>omega
theorem J31 (n d:Int)(hn:zl n<2^36)(hd:zl d<2^36):PX 150 [encQ n d] (encT (qT n d)):=by
 refine PZ Tryz.func150 rfl ?_;have s1:=J3b (sT n);have s2:=J3b (sT d);have s3:=JGe n;have s4:=JGe d;have s5:(⟨#[47]⟩:ByteArray).size=1:=rfl;unfold encQ qT;refine kWS ?_;intros;refine CallP.flat [] _ c165 (J4X d) rfl ?_;refine kWS ?_;intros;refine CondP.dec (fun h=>?_) (fun h=>?_)<;>refine kW ?_
 ·rw[if_pos h];refine kS ?_;intros;refine CallP.flat [] _ c223 (J3r n hn) rfl ?_;refine kWS ?_;intros;exact .of rfl
 ·rw[if_neg h];refine kS ?_;intros;refine CallG.intro _ c223 (J3r n hn) ?_;refine kWS ?_;intros;refine CallG.intro _ c223 (J3r d hd) ?_;refine kWS ?_;intros;rw[ByteArray.size_append];refine kS ?_;intros;refine .of ?_;have e:(⟨#[47]⟩:ByteArray)=ofL (List.map UInt8.ofNat [47]):=rfl;show encS _=encS _
  rw[e,J4p,J4p,List.append_assoc];rfl
theorem J3s (n d:Int)(hn:zl n<2^36)(hd:zl d<2^36):PX 151 [encQ n d] (encB (decide (nd n≤300)&&decide (nd d≤300))):=by
 refine PZ Tryz.func151 rfl ?_;unfold encQ;refine kWS ?_;intros;refine CallP.flat [] _ c217 (J2l n hn) rfl ?_;refine kWS ?_;intros;refine CondP.dec (fun h=>?_) (fun h=>?_)<;>refine kW ?_
 ·rw[decide_eq_true (show nd n≤300 by omega),Bool.true_and];refine kS ?_;intros;refine CallP.flat [] _ c217 (J2l d hd) rfl ?_;refine kWS ?_;intros;refine .of ?_;show AV.val (.bool (decide _))=AV.val (.bool (decide _))
  congr 2
  exact decide_eq_decide.2 (by omega)
 ·rw[decide_eq_false (show ¬ nd n≤300 by omega),Bool.false_and];refine kS ?_;intros;exact .of rfl
def J07:List UInt8→List UInt8×List UInt8×Bool
 |[]=>([],[],false)
 |c::l=>if c=47 then ([],l,true) else ((c::(J07 l).1),(J07 l).2.1,(J07 l).2.2)
def J08 (l:List UInt8):Option (Int×Int)×Bool:=
 match J1U (J07 l).1 with
 |none=>(none,false)
 |some n=>match (J07 l).2.2 with
   |false=>(some (n,1),decide (nd n≤300))
   |true=>match J1U (J07 l).2.1 with
     |none=>(none,false)
     |some d=>if d≤1 then (none,false) else (some (n,d),decide (nd n≤300)&&decide (nd d≤300)&&decide (n.natAbs.gcd d.natAbs=1))
def resQ (p:Option (Int×Int)×Bool):AV:=.tup [match p.1 with|some (n,d)=>encQ n d|none=>nilQ,encB p.2]
theorem J8u (x:UInt8)(l:List UInt8)(c:UInt8):idxB (ofL (x::l)) c=if x=c then 0 else if idxB (ofL l) c<0 then -1 else idxB (ofL l) c+1:=by
 have hsz:(ofL (x::l)).size=l.length+1:=rfl
 have hp:((fun i=>(ofL (x::l))[i]! == c)∘Nat.succ)=fun i=>(ofL l)[i]! == c:=by
  funext i
  show ((ofL (x::l))[i+1]! == c)=((ofL l)[i]! == c)
  congr 1
  by_cases h:i<l.length
  ·rw[getElem!_pos (ofL (x::l)) (i+1) (by rw[hsz];omega),getElem!_pos (ofL l) i h];rfl
  ·rw[getElem!_neg (ofL (x::l)) (i+1) (by rw[hsz];omega),getElem!_neg (ofL l) i h]
 have h0:((ofL (x::l))[0]! == c)=(x==c):=by rw[getElem!_pos (ofL (x::l)) 0 (by rw[hsz];omega)];rfl
 unfold idxB;rw[hsz,List.range_succ_eq_map,List.find?_cons,h0]
 by_cases hx:x=c
 ·subst hx;simp
 ·rw[if_neg hx,show (x==c)=false by simpa using hx];simp only[List.find?_map,hp];rw[show (ofL l).size=l.length from rfl]
  cases (List.range l.length).find? fun i=>(ofL l)[i]! == c with
  |none=>rfl
  |some i=>
    show ((i+1:Nat):Int)=if (i:Int)<0 then -1 else (i:Int)+1
    rw[if_neg (by omega)];omega
theorem JGm (l:List UInt8):(0≤idxB (ofL l) 47↔(J07 l).2.2=true)∧(0≤idxB (ofL l) 47→l.take (idxB (ofL l) 47).toNat=(J07 l).1∧l.drop ((idxB (ofL l) 47).toNat+1)=(J07 l).2.1)∧(idxB (ofL l) 47<0→J07 l=(l,[],false)):=by
 induction l with
 |nil=>exact ⟨by decide,by decide,fun _=>rfl⟩
 |cons x l ih=>
   rw[J8u];unfold J07
   by_cases hx:x=47
   ·rw[if_pos hx,if_pos hx];simp
   ·rw[if_neg hx,if_neg hx];obtain ⟨h1,h2,h3⟩:=ih
    by_cases hi:idxB (ofL l) 47<0
    ·rw[if_pos hi];have h4:=h3 hi;rw[h4];simp
    ·rw[if_neg hi];have h4:=h2 (by omega);have h5:=h1.1 (by omega);refine ⟨⟨fun _=>h5,fun _=>by omega⟩,fun _=>?_,fun h=>by omega⟩;rw[show (idxB (ofL l) 47+1).toNat=(idxB (ofL l) 47).toNat+1 by omega];exact ⟨by rw[List.take_succ_cons,h4.1],by rw[List.drop_succ_cons,h4.2]⟩
theorem JLD (l:List UInt8):cutB (ofL l) 47=(ofL (J07 l).1,ofL (J07 l).2.1,(J07 l).2.2):=by
 obtain ⟨h1,h2,h3⟩:=JGm l;unfold cutB
 by_cases hi:0≤idxB (ofL l) 47
 ·rw[if_pos hi,J0S,J0S,(h1.1 hi),List.drop_zero,(h2 hi).1,J0K,List.take_length,(h2 hi).2]
 ·rw[if_neg hi,h3 (by omega)];rfl
theorem JBX (l:List UInt8):(J07 l).1.length≤l.length∧(J07 l).2.1.length≤l.length:=by
 induction l with
 |nil=>simp[J07]
 |cons c l ih=>
   unfold J07;split<;>simp<;>omega
theorem J3Q {l:List UInt8}{z:Int}(h:J1U l=some z):zl z≤l.length:=by
 obtain ⟨t,m,_,hp,ht⟩:=JKb l;rw[hp] at h;split at h
 ·rename_i hok;have hz:z.natAbs=decU t:=by cases h;split<;>omega
  unfold zl;rw[hz];refine Nat.le_trans (J1A hB9 (k:=t.length) ?_) ht
  have:=JFC t (by
   intro i hi;unfold okW at hok;simp only[Bool.and_eq_true] at hok;have:=List.all_eq_true.1 hok.2 _ (List.getElem_mem hi);unfold isD at this;simp at this
   exact this)
  exact Nat.lt_of_lt_of_le this (Nat.pow_le_pow_left (by decide) _)
 ·cases h
theorem zl1:zl 1<2^39:=by unfold zl;rw[show (1:Int).natAbs=1 from rfl,J5v hB9 (by omega) (by unfold B9;omega)];decide
theorem J1R (l:List UInt8)(hl:l.length<2^35):PX 134 [encS (ofL l)] (resQ (J08 l)):=by
 refine PZ Tryz.func134 rfl ?_;obtain ⟨hp1,hp2⟩:=JBX l;have hcut:=JKm (ofL l) 47 (by rw[J0K];omega);rw[JLD] at hcut;generalize hF:J08 l=F;unfold J08 at hF;generalize (J07 l).1=top at *;generalize (J07 l).2.1=low at *;generalize (J07 l).2.2=ok at *;refine kWS ?_;intros;refine J00 [] _ c214 hcut ?_;refine kWS ?_;intros;refine J00 [] _ c215 (J9p top (by omega)) ?_
 cases hn:J1U top with
 |none=>
   rw[hn] at hF;subst hF;refine kWS ?_;intros;exact .of rfl
 |some n=>
   rw[hn] at hF;have zn:=J3Q hn;refine kWS ?_;intros
   cases ok with
   |false=>
     subst hF;refine kS ?_;intros;refine CallG.intro _ c216 Of1_ok ?_;refine kWS ?_;intros;refine CallG.intro _ c217 (J2l n (by omega)) ?_;refine kWS ?_;intros;refine .of ?_;show AV.tup [encQ n 1,.val (.bool (decide _))]=.tup [encQ n 1,.val (.bool (decide _))]
     rw[show decide ((nd n:Int)≤300)=decide (nd n≤300) from decide_eq_decide.2 (by omega)]
   |true=>
     refine kS ?_;intros;refine J00 [] _ c215 (J9p low (by omega)) ?_
     cases hd:J1U low with
     |none=>
       rw[hd] at hF;subst hF;refine kWS ?_;intros;exact .of rfl
     |some d=>
       rw[hd] at hF;have zd:=J3Q hd;refine kWS ?_;intros;refine CallG.intro _ c216 Of1_ok ?_;refine kWS ?_;intros;refine CallG.intro _ c218 (JKn d 1 (by omega) zl1) ?_;refine kWS ?_;intros;have hs:sgn (d-1)≤0↔d≤1:=by unfold sgn;split<;>(try split)<;>omega
       refine CondP.dec (fun h=>?_) (fun h=>?_)<;>refine kW ?_
       ·simp only[if_pos (hs.1 h)] at hF;subst hF;refine kS ?_;intros;exact .of rfl
       ·have hd1:¬ d≤1:=fun h'=>h (hs.2 h');simp only[if_neg hd1] at hF;subst hF;refine kX ?_;refine kZ ?_;intros;refine J0e (W.of (l:=[(2,.op 2 _ 0 0),(3,encB false),(7,.op 7 _ 0 0),(9,.op 9 _ 0 0),(10,.op 10 _ 0 0)]) (m:=[(2,_,⟨104,4,[nilQ]⟩),(7,_,⟨102,2,[encZ n]⟩),(9,_,⟨102,2,[encZ d]⟩),(10,_,⟨104,4,[encQ n d]⟩)]) ?_ ⟨rfl,rfl,rfl,rfl,rfl,trivial⟩ ⟨rfl,rfl,rfl,rfl,trivial⟩);refine kWS ?_;intros;refine CallG.intro _ c151 (J3s n d (by omega) (by omega)) ?_;refine kWS ?_;intros;refine CondP.intro (fun h1=>?_) (fun h1=>?_)<;>refine kW ?_
        ·rw[h1,Bool.true_and];refine kS ?_;intros;refine CallG.intro _ c219 (JG7 n d (by omega) (by omega)) ?_;refine kWS ?_;intros;refine CallG.intro _ c165 (J4X _) ?_;refine kWS ?_;intros;refine .of ?_;show AV.tup [encQ n d,.val (.bool (decide _))]=.tup [encQ n d,.val (.bool (decide _))]
         rw[show decide (((n.natAbs.gcd d.natAbs:Nat):Int)=1)=decide (n.natAbs.gcd d.natAbs=1) from decide_eq_decide.2 (by omega)]
        ·rw[h1,Bool.false_and];refine kS ?_;intros;exact .of rfl
def encF (q:Rat):AV:=encQ q.num q.den
theorem J20 (n d:Int)(hd:0<d):(Rat.divInt n d).num=n/(n.natAbs.gcd d.natAbs:Nat)∧((Rat.divInt n d).den:Int)=d/(n.natAbs.gcd d.natAbs:Nat):=by
 have h1:Int.gcd d n=n.natAbs.gcd d.natAbs:=by rw[Int.gcd_comm];rfl
 constructor
 ·rw[Rat.num_divInt,h1,Int.sign_eq_one_of_pos hd,Int.one_mul]
 ·rw[Rat.den_divInt,h1,if_neg (by omega),Int.natCast_ediv,Int.natAbs_of_nonneg (by omega)]
theorem J3c (n d:Int)(hd:0<d):encF (Rat.divInt n d)=encQ (n/(n.natAbs.gcd d.natAbs:Nat)) (d/(n.natAbs.gcd d.natAbs:Nat)):=by
 unfold encF;rw[(J20 n d hd).1,(J20 n d hd).2]
theorem J5s (n d:Int)(hd:d≠0):Rat.divInt (-n) (-d)=Rat.divInt n d:=by
 have:=Rat.divInt_mul_left (n:=n) (d:=d) (a:=-1) (by decide);rw[← this];congr 1<;>omega
theorem J7U (d:Int):sgn d<0↔d<0:=by
 unfold sgn;split
 ·omega
 ·split<;>omega
theorem JFy (n d:Int)(hn:zl n<2^36)(hd:zl d<2^36)(h0:d≠0):PX 167 [encZ n,encZ d] (encF (Rat.divInt n d)):=by
 refine PZ Tryz.func167 rfl ?_;generalize hF:encF (Rat.divInt n d)=F;refine kWS ?_;intros;refine CallP.flat [] _ c193 (J8I d) rfl ?_;refine kWS ?_;intros;refine CondP.dec (fun h=>?_) (fun h=>?_)<;>refine kW ?_
 case' refine_1=>
  have h:=(J7U d).1 h;have hx:0 < -d:=by omega
  rw[← J5s n d h0,J3c _ _ hx] at hF;have hn':zl (-n)<2^36:=by rw[J6U];exact hn
  have hd':zl (-d)<2^36:=by rw[J6U];exact hd
  refine kS ?_;intros;refine CallG.intro _ c222 (JCC n (by omega)) ?_;refine kWS ?_;intros;refine CallG.intro _ c222 (JCC d (by omega)) ?_;refine kWS ?_;intros;refine J00 [] _ c219 (JG7 (-n) (-d) hn' hd') ?_;generalize hm:-n=m at *;generalize hc:-d=c at *
 case' refine_2=>
  have hx:0<d:=by have:=mt (J7U d).2 h;omega
  rw[J3c _ _ hx] at hF;have hn':=hn;have hd':=hd;refine kS ?_;intros;refine J00 [] _ c219 (JG7 n d hn' hd') ?_;generalize hm:n=m at *;generalize hc:d=c at *
 all_goals
  generalize hg:Nat.gcd m.natAbs c.natAbs=g at *;have hg0:g≠0:=by rw[← hg];intro h;have:=Nat.gcd_eq_zero_iff.1 h;omega
  have hgl:zl (g:Int)<2^36:=by
   refine Nat.lt_of_le_of_lt ?_ hd';rw[JDN];exact J0q hB9 (by rw[← hg];exact Nat.le_of_dvd (by omega) (Nat.gcd_dvd_right _ _))
  refine kWS ?_;intros;refine CallP.flat [] _ c165 (J4X (g:Int)) rfl ?_;refine kWS ?_;intros;refine CondP.dec (fun h1=>?_) (fun h1=>?_)<;>refine kW ?_
  ·rw[h1,Int.ediv_one,Int.ediv_one] at hF;refine kS ?_;intros;exact .of (by rw[← hF];rfl)
  ·refine kS ?_;intros;refine J00 [] _ c243 (JG8 m g hn' hgl (by omega)) ?_;refine kWS ?_;intros;refine J00 [] _ c243 (JG8 c g hd' hgl (by omega)) ?_;refine kWS ?_;intros;exact .of (by rw[← hF];rfl)
theorem J1g (x y:Int):zl (x*y)≤zl x+zl y:=by
 unfold zl;rw[Int.natAbs_mul];refine J1A hB9 ?_;rw[Nat.pow_add];exact Nat.mul_lt_mul'' (J9I hB9 _) (J9I hB9 _)
theorem JDO {x y:Int}(h:x.natAbs≤y.natAbs):zl x≤zl y:=J0q hB9 h
def szq (q:Rat):Nat:=max (zl q.num) (zl q.den)
theorem J0n (q:Rat):zl q.num≤szq q:=Nat.le_max_left _ _
theorem J0x (q:Rat):zl q.den≤szq q:=Nat.le_max_right _ _
theorem J2p (n d:Int)(h:d≠0):szq (Rat.divInt n d)≤max (zl n) (zl d):=by
 have key:∀ n d:Int,0<d→szq (Rat.divInt n d)≤max (zl n) (zl d):=by
  intro n d hd;obtain ⟨h1,h2⟩:=J20 n d hd;unfold szq;rw[h1,h2];have h3:zl (n/(n.natAbs.gcd d.natAbs:Nat))≤zl n:=JDO (by rw[Int.natAbs_ediv_of_dvd (Int.ofNat_dvd_left.2 (Nat.gcd_dvd_left _ _)),Int.natAbs_natCast];exact Nat.div_le_self _ _);have h4:zl (d/(n.natAbs.gcd d.natAbs:Nat))≤zl d:=JDO (by rw[Int.natAbs_ediv_of_dvd (Int.ofNat_dvd_left.2 (Nat.gcd_dvd_right _ _)),Int.natAbs_natCast];exact Nat.div_le_self _ _);omega
 by_cases hd:d<0
 ·have:=key (-n) (-d) (by omega)
  rwa [J5s n d h,J6U,J6U] at this
 ·exact key n d (by omega)
theorem J2I (q:Rat):(q.den:Int)≠0:=by have:=q.den_nz;omega
theorem J4K (p q:Rat):p+q=Rat.divInt (p.num*q.den+q.num*p.den) (p.den*q.den):=by
 rw[← Rat.divInt_add_divInt p.num q.num (J2I p) (J2I q),Rat.num_divInt_den,Rat.num_divInt_den]
theorem J4D (p q:Rat):p*q=Rat.divInt (p.num*q.num) (p.den*q.den):=by
 rw[← Rat.divInt_mul_divInt p.num q.num,Rat.num_divInt_den,Rat.num_divInt_den]
theorem J71 (p q:Rat):p/q=Rat.divInt (p.num*q.den) (p.den*q.num):=by
 rw[Rat.div_def,Rat.inv_def,← Rat.divInt_mul_divInt,Rat.num_divInt_den]
theorem JAH (p q:Rat):szq (p+q)≤szq p+szq q+1:=by
 rw[J4K];refine Nat.le_trans (J2p _ _ (Int.mul_ne_zero (J2I p) (J2I q))) ?_;have h1:=JHr (p.num*q.den) (q.num*p.den);have h2:=J1g p.num q.den;have h3:=J1g q.num p.den;have h4:=J1g p.den q.den;have:=J0n p;have:=J0x p;have:=J0n q;have:=J0x q;omega
theorem JE1 (p q:Rat):szq (p*q)≤szq p+szq q:=by
 rw[J4D];refine Nat.le_trans (J2p _ _ (Int.mul_ne_zero (J2I p) (J2I q))) ?_;have h2:=J1g p.num q.num;have h4:=J1g p.den q.den;have:=J0n p;have:=J0x p;have:=J0n q;have:=J0x q;omega
theorem JEY {q:Rat}(h:q≠0):q.num≠0:=fun e=>h (Rat.num_eq_zero.1 e)
theorem JE2 (p q:Rat)(h:q≠0):szq (p/q)≤szq p+szq q:=by
 rw[J71];refine Nat.le_trans (J2p _ _ (Int.mul_ne_zero (J2I p) (JEY h))) ?_;have h2:=J1g p.num q.den;have h4:=J1g p.den q.num;have:=J0n p;have:=J0x p;have:=J0n q;have:=J0x q;omega
theorem JAG (q:Rat):szq (-q)=szq q:=by
 unfold szq;rw[Rat.neg_num,Rat.neg_den,J6U]
theorem JAF (p q:Rat):szq (p-q)≤szq p+szq q+1:=by
 rw[Rat.sub_eq_add_neg];have:=JAH p (-q)
 rwa [JAG] at this
theorem JJd (p q:Rat)(h1:(p.den:Int)=1)(h2:(q.den:Int)=1):encF (p+q)=encQ (p.num+q.num) p.den:=by
 rw[J4K,h1,h2,Int.mul_one,Int.mul_one,J3c _ _ (by decide)];simp
theorem JGt (p q:Rat)(h1:(p.den:Int)=1)(h2:(q.den:Int)=1):encF (p*q)=encQ (p.num*q.num) p.den:=by
 rw[J4D,h1,h2,J3c _ _ (by decide)];simp
theorem JB7 (p q:Rat)(h:szq p+szq q+1<2^36):PX 79 [encF p,encF q] (encF (p+q)):=by
 refine PZ Tryz.func79 rfl ?_;have a1:=J0n p;have a2:=J0x p;have a3:=J0n q;have a4:=J0x q;have e1:=JJd p q;have e2:=J4K p q;have n1:=J2I p;have n2:=J2I q;generalize p+q=r at *;unfold encF at *;generalize p.num=a at *;generalize (p.den:Int)=b at *;generalize q.num=c at *;generalize (q.den:Int)=d at *;have b1:=J1g a d;have b2:=J1g c b;have b3:=J1g b d;have b4:=JHr (a*d) (c*b);unfold encQ at *;refine kWS ?_;intros;refine CallP.flat [] _ c165 (J4X b) rfl ?_;refine kWS ?_;intros;refine CondP.dec (fun h1=>?_) (fun h1=>?_)<;>refine kW ?_
 case' refine_1=>
  refine kS ?_;intros;refine CallP.flat [] _ c165 (J4X d) rfl ?_;refine kWS ?_;intros;refine CondP.dec (fun h2=>?_) (fun h2=>?_)<;>refine kW ?_
 case refine_1.refine_1=>
  refine kS ?_;intros;refine CallG.intro _ c166 (JCH a c (by omega) (by omega)) ?_;refine kWS ?_;intros;exact .of (by rw[e1 h1 h2];rfl)
 all_goals
  refine kS ?_;intros;refine CallG.intro _ c168 (J3t a d (by omega) (by omega)) ?_;refine kWS ?_;intros;refine CallG.intro _ c168 (J3t c b (by omega) (by omega)) ?_;refine kWS ?_;intros;refine CallG.intro _ c166 (JCH (a*d) (c*b) (by omega) (by omega)) ?_;refine kWS ?_;intros;refine CallG.intro _ c168 (J3t b d (by omega) (by omega)) ?_;refine kWS ?_;intros;refine CallG.intro _ c167 (JFy (a*d+c*b) (b*d) (by omega) (by omega) (Int.mul_ne_zero n1 n2)) ?_;rw[← e2];refine kWS ?_;intros;exact .of rfl
theorem JFz (p:Rat)(h:szq p<2^36):PX 146 [encF p] (encF (-p)):=by
 refine PZ Tryz.func146 rfl ?_;have a1:=J0n p;unfold encF;rw[Rat.neg_num,Rat.neg_den];generalize p.num=a at *;generalize (p.den:Int)=b at *;unfold encQ;refine kWS ?_;intros;refine CallG.intro _ c222 (JCC a (by omega)) ?_;refine kWS ?_;intros;exact .of rfl
theorem J8H (p q:Rat)(h:szq p+szq q+1<2^36):PX 80 [encF p,encF q] (encF (p-q)):=by
 refine PZ Tryz.func80 rfl ?_;have h1:=JFz q (by omega);have h2:=JB7 p (-q) (by rw[JAG];exact h);rw[← Rat.sub_eq_add_neg] at h2;generalize p-q=r at *;generalize -q=s at *;unfold encF encQ at *;refine kWS ?_;intros;refine CallG.intro _ c146 h1 ?_;refine kWS ?_;intros;refine CallG.intro _ c79 h2 ?_;refine kWS ?_;intros;exact .of rfl
theorem JG0 (p q:Rat)(h:szq p+szq q<2^36):PX 186 [encF p,encF q] (encF (p*q)):=by
 refine PZ Tryz.func186 rfl ?_;have a1:=J0n p;have a2:=J0x p;have a3:=J0n q;have a4:=J0x q;have e1:=JGt p q;have e2:=J4D p q;have n1:=J2I p;have n2:=J2I q;generalize p*q=r at *;unfold encF at *;generalize p.num=a at *;generalize (p.den:Int)=b at *;generalize q.num=c at *;generalize (q.den:Int)=d at *;have b1:=J1g a c;have b3:=J1g b d;unfold encQ at *;refine kWS ?_;intros;refine CallP.flat [] _ c165 (J4X b) rfl ?_;refine kWS ?_;intros;refine CondP.dec (fun h1=>?_) (fun h1=>?_)<;>refine kW ?_
 case' refine_1=>
  refine kS ?_;intros;refine CallP.flat [] _ c165 (J4X d) rfl ?_;refine kWS ?_;intros;refine CondP.dec (fun h2=>?_) (fun h2=>?_)<;>refine kW ?_
 case refine_1.refine_1=>
  refine kS ?_;intros;refine CallG.intro _ c168 (J3t a c (by omega) (by omega)) ?_;refine kWS ?_;intros;exact .of (by rw[e1 h1 h2];rfl)
 all_goals
  refine kS ?_;intros;refine CallG.intro _ c168 (J3t a c (by omega) (by omega)) ?_;refine kWS ?_;intros;refine CallG.intro _ c168 (J3t b d (by omega) (by omega)) ?_;refine kWS ?_;intros;refine CallG.intro _ c167 (JFy (a*c) (b*d) (by omega) (by omega) (Int.mul_ne_zero n1 n2)) ?_;rw[← e2];refine kWS ?_;intros;exact .of rfl
theorem JB3 (p q:Rat)(h:szq p+szq q<2^36)(h0:q≠0):PX 149 [encF p,encF q] (encF (p/q)):=by
 refine PZ Tryz.func149 rfl ?_;have a1:=J0n p;have a2:=J0x p;have a3:=J0n q;have a4:=J0x q;have e2:=J71 p q;have n1:=J2I p;have n2:=JEY h0;generalize p/q=r at *;unfold encF at *;generalize p.num=a at *;generalize (p.den:Int)=b at *;generalize q.num=c at *;generalize (q.den:Int)=d at *;have b1:=J1g a d;have b3:=J1g b c;unfold encQ at *;refine kWS ?_;intros;refine CallG.intro _ c168 (J3t a d (by omega) (by omega)) ?_;refine kWS ?_;intros;refine CallG.intro _ c168 (J3t b c (by omega) (by omega)) ?_;refine kWS ?_;intros;refine CallG.intro _ c167 (JFy (a*d) (b*c) (by omega) (by omega) (Int.mul_ne_zero n1 n2)) ?_;rw[← e2];refine kWS ?_;intros;exact .of rfl
theorem JG9 (p q:Rat)(h:szq p+szq q+1<2^36):PX 330 [encF p,encF q] (encI (sgn (p-q).num)):=by
 refine PZ Tryz.func330 rfl ?_;have h2:=J8H p q h;generalize p-q=r at *;have h1:=J4y r.num r.den;unfold encF encQ at *;refine kWS ?_;intros;refine J00 [] _ c80 h2 ?_;refine kWS ?_;intros;refine CallP.flat [] _ c111 h1 rfl ?_;refine kWS ?_;intros;exact .of rfl
def multF (p q:Rat):Bool:=decide (0≤p.num)&&decide ((p/q).den=1)
theorem J6a (d:Int):0≤sgn d↔0≤d:=by
 unfold sgn;split
 ·omega
 ·split<;>omega
theorem J9s (p q:Rat)(h:szq p+szq q<2^36)(h0:q≠0):PX 269 [encF p,encF q] (encB (multF p q)):=by
 refine PZ Tryz.func269 rfl ?_;have h2:=JB3 p q h h0;have h1:=J4y p.num p.den;have h3:=J6J (p/q).num (p/q).den;generalize hF:multF p q=F;unfold multF at hF;generalize p/q=r at *;have e3:(decide ((r.den:Int)=1))=decide (r.den=1):=decide_eq_decide.2 (by omega);rw[e3] at h3;unfold encF encQ at *;refine kWS ?_;intros;refine CallP.flat [] _ c111 h1 rfl ?_;refine kWS ?_;intros;refine CondP.dec (fun h=>?_) (fun h=>?_)<;>refine kW ?_
 ·rw[decide_eq_true ((J6a _).1 h),Bool.true_and] at hF;refine kS ?_;intros;refine J00 [] _ c149 h2 ?_;refine kWS ?_;intros;refine CallP.flat [] _ c327 h3 rfl ?_;refine kWS ?_;intros;exact .of (by rw[← hF];rfl)
 ·rw[decide_eq_false (mt (J6a _).2 h),Bool.false_and] at hF;refine kS ?_;intros;exact .of (by rw[← hF];rfl)
def lttI (n:Int):Bool:=decide (97≤n∧n≤122∨65≤n∧n≤90)
def digI (n:Int):Bool:=decide (48≤n∧n≤57)
theorem J5V (n:Int):PX 176 [.val (.int .u8 n)] (encB (lttI n)):=by
 refine PZ Tryz.func176 rfl ?_;refine kW ?_
 (repeat (any_goals (first|((first|refine N0 ?_|refine A0 fun γ=>?_|refine C1 ?_|refine C2 ?_|refine C3 ?_|refine C4 ?_|refine C5 ?_|refine C6 ?_|refine C7 ?_|refine D0 fun γs=>?_|refine A1 fun γs=>?_|refine N2 ?_|refine N3 ?_|refine N1 ?_);refine kW ?_)|(refine CondP.dec (fun _=>?_) (fun _=>?_)<;>refine kW ?_)|(refine CondP.intro (fun _=>?_) (fun _=>?_)<;>refine kW ?_))))
 all_goals (refine .of ?_;show AV.val (Value.bool _)=AV.val (Value.bool _);congr 2;unfold lttI;first|exact (decide_eq_true (by omega)).symm|exact (decide_eq_false (by omega)).symm|exact decide_eq_decide.2 (by omega))
theorem JCS (n:Nat)(h:n<256):PX 323 [.val (.int .i32 n)] (encB true):=by
 refine PZ Tryz.func323 rfl ?_;refine kWO ?_;intros;exact .of rfl
def six:ByteArray:=⟨#[95,46,91,93,44,39]⟩
theorem JK6 (n:Nat)(h1:¬ n<128)(h2:n<256):∃ b0 b1:UInt8,runeS n=⟨#[b0,b1]⟩∧128≤b1.toNat:=by
 refine ⟨UInt8.ofNat (192+n/64),UInt8.ofNat (128+n%64),?_,by simp;omega⟩;unfold runeS Utf8.encode;have hv:Utf8.valid (n:Int)=true:=by unfold Utf8.valid;simp;omega
 simp only[hv,if_true,Int.toNat_natCast];rw[if_neg (by omega),if_pos (by omega)]
theorem JH2 (b:UInt8)(h:128≤b.toNat):idxB (six.extract 2 6) b=-1:=by
 unfold idxB
 have:(List.range (six.extract 2 6).size).find? (fun i=>(six.extract 2 6)[i]! == b)=none:=by
  rw[List.find?_eq_none];intro i hi;have hs:(six.extract 2 6).size=4:=by rfl
  rw[hs,List.mem_range] at hi
  have hb:∀ c:UInt8,c.toNat<128→¬ (c==b)=true:=fun c hc h'=>by
   have:=eq_of_beq h';subst this;omega
  rcases i with _|_|_|_|i
  ·exact hb _ (by decide)
  ·exact hb _ (by decide)
  ·exact hb _ (by decide)
  ·exact hb _ (by decide)
  ·omega
 rw[this]
theorem JEG (n:Nat)(h:n<256):PX 260 [encS six,.val (.int .i32 n)] (encI (if n<128 then idxB six (UInt8.ofNat n) else -1)):=by
 refine PZ Tryz.func260 rfl ?_;refine kW ?_
 by_cases h1:n<128
 ·rw[if_pos h1];(refine kO ?_;repeat intro γ);refine CallP.flat [] _ c322 (J4Y six n h) rfl ?_;(refine kWO ?_;repeat intro γ);exact .of rfl
 ·rw[if_neg h1];(refine kO ?_;repeat intro γ);refine CallP.flat [] _ c323 (JCS n h) rfl ?_;(refine kWO ?_;repeat intro γ);obtain ⟨b0,b1,e,hb⟩:=JK6 n h1 h;have hsz:(⟨#[b0,b1]⟩:ByteArray).size=2:=rfl;have h6:six.size=6:=rfl;simp only[e,hsz,show ((2:Nat):Int)-1=1 from rfl];(refine kWO ?_;repeat intro γ);refine LoopP.intro (fun k σ H=>k=0∧σ=fr [(0,encS six),(1,.val (.int .i32 n)),(7,encS ⟨#[b0,b1]⟩),(8,encI 1),(9,encI 1),(10,encI 0)]∧H=hp []) ?_ ?_
  ·exact .intro <| W.of ⟨0,rfl,rfl,rfl⟩ ⟨rfl,rfl,rfl,rfl,rfl,rfl,trivial⟩ trivial
  ·rintro k σ H ⟨rfl,rfl,rfl⟩;(refine kWO ?_;repeat intro γ);refine D0 fun γs=>?_;(refine kWO ?_;repeat intro γ);have hb1:byteAt ⟨#[b0,b1]⟩ (Int.toNat 1)=(b1.toNat:Int):=rfl;have hs1:byteAt six (Int.toNat 1)=46:=rfl;refine CondP.neg (by rw[hb1,hs1];omega) ?_;(refine kWO ?_;repeat intro γ);refine D0 fun γs=>?_;(refine kWO ?_;repeat intro γ);refine CallG.intro (encI (-1)) c322 ?_ ?_
   ·have:=J4Y (six.extract 2 6) b1.toNat b1.toNat_lt;rw[UInt8.ofNat_toNat,JH2 b1 hb] at this;exact this
   (refine kWO ?_;repeat intro γ);exact .of rfl
theorem J8Z (n:Nat)(h:n<256):PX 177 [encS six,.val (.int .i32 n)] (encB (decide (n<128∧0≤idxB six (UInt8.ofNat n)))):=by
 refine PZ Tryz.func177 rfl ?_;refine kWS ?_;intros;refine CallP.flat [] _ c260 (JEG n h) rfl ?_;refine kWS ?_;intros;refine .of ?_;show AV.val (Value.bool (decide (0≤if n<128 then idxB six (UInt8.ofNat n) else -1)))=AV.val (Value.bool _)
 congr 2
 exact decide_eq_decide.2 (by by_cases h1:n<128<;>simp[h1])
def sigI (n:Int):Bool:=decide (n=95∨n=46∨n=91∨n=93∨n=44∨n=39)
def okI (n:Int):Bool:=lttI n||digI n||sigI n
def JHf (s:ByteArray):Nat→Nat→Bool
 |_,0=>true
 |i,k+1=>okI (byteAt s i)&&JHf s (i+1) k
def nameF (s:ByteArray):Bool:=decide (1≤s.size∧s.size≤80)&&lttI (byteAt s 0)&&JHf s 0 s.size
theorem JFj (s:ByteArray)(i:Nat):0≤byteAt s i∧byteAt s i<256:=by
 unfold byteAt;split
 ·have:=(s[i]).toNat_lt;omega
 ·omega
theorem JI2 (n:Nat)(h:n<256):decide (n<128∧0≤idxB six (UInt8.ofNat n))=sigI n:=by
 have key:((List.range 256).all fun n=>decide (n<128∧0≤idxB six (UInt8.ofNat n))==sigI n)=true:=by kernel_rfl
 exact eq_of_beq (List.all_eq_true.1 key n (List.mem_range.2 h))
theorem J1w (s:ByteArray)(hs:s.size≤2^62):PX 90 [encS s] (encB (nameF s)):=by
 refine PZ Tryz.func90 rfl ?_;generalize hF:nameF s=F;unfold nameF at hF;refine kWO ?_;intros;refine CondP.dec (fun h0=>?_) (fun h0=>?_)<;>refine kW ?_
 ·refine kO ?_;intros;refine .of ?_;rw[← hF,h0];rfl
 ·have hpos : 1 ≤ s.size:=by
   rcases Nat.eq_zero_or_pos s.size with h|h
   ·exact absurd (ByteArray.ext (Array.eq_empty_of_size_eq_zero h)) h0
   ·exact h
  refine kO ?_;intros;refine CondP.dec (fun h1=>?_) (fun h1=>?_)<;>refine kW ?_
  ·refine kO ?_;intros;refine .of ?_;rw[← hF,decide_eq_false (by omega)];rfl
  ·rw[decide_eq_true (by omega),Bool.true_and] at hF;refine kO ?_;intros;refine CallP.flat [] (encB (lttI (byteAt s 0))) c176 (J5V (byteAt s 0)) rfl ?_;refine kWO ?_;intros;refine CondP.intro (fun h2=>?_) (fun h2=>?_)<;>refine kW ?_
   ·rw[h2, Bool.true_and] at hF;refine kO ?_;intros;refine LoopP.intro (fun k σ H=>∃ i,i≤s.size∧k=s.size-i∧JHf s i (s.size-i)=F∧σ=fr [(0,encS s),(3,.fn (.func 176) [] []),(21,encI s.size),(22,encI i)]∧H=hp []) ?_ ?_
    ·exact .intro <| W.of ⟨_,0,Nat.zero_le _,rfl,hF,rfl,rfl⟩ ⟨rfl,rfl,rfl,rfl,trivial⟩ trivial
    ·rintro k σ H ⟨i,hi,rfl,hO,rfl,rfl⟩;refine kWO ?_;intros;refine CondP.dec (fun h3=>?_) (fun h3=>?_)<;>refine kW ?_
     ·have hi':i<s.size:=by omega
      have hc:=JFj s i;rw[show s.size-i=(s.size-(i+1))+1 by omega] at hO;unfold JHf okI at hO;refine kO ?_;intros;simp only[Int.toNat_natCast];generalize byteAt s i=c at hc hO ⊢;obtain ⟨m,rfl⟩:∃ m:Nat,c=m:=⟨c.toNat,by omega⟩;refine CallP.flat [] (encB (lttI m)) c176 (J5V m) rfl ?_;refine kWO ?_;intros;refine CondP.intro (fun h4=>?_) (fun h4=>?_)<;>refine kW ?_
      ·rw[h4,Bool.true_or,Bool.true_or,Bool.true_and] at hO;refine kO ?_;intros
       exact .intro <| W.of ⟨_,by omega,i+1,hi',rfl,hO,rfl,rfl⟩ ⟨rfl,rfl,rfl,rfl,trivial⟩ trivial
      ·rw[h4,Bool.false_or] at hO;refine kO ?_;intros;refine CondP.dec (fun h5=>?_) (fun h5=>?_)<;>refine kW ?_
       ·have hd:digI m=false:=by unfold digI;exact decide_eq_false (by omega)
        rw[hd,Bool.false_or] at hO;refine kO ?_;intros;refine CallP.flat [] _ c177 (J8Z m (by omega)) rfl ?_;rw[JI2 m (by omega)];refine kWO ?_;intros;refine CondP.intro (fun h6=>?_) (fun h6=>?_)<;>refine kW ?_
        ·rw[h6,Bool.true_and] at hO;refine kO ?_;intros
         exact .intro <| W.of ⟨_,by omega,i+1,hi',rfl,hO,rfl,rfl⟩ ⟨rfl,rfl,rfl,rfl,trivial⟩ trivial
        ·rw[h6,Bool.false_and] at hO;refine kO ?_;intros;exact .of (by rw[← hO];rfl)
       ·refine kO ?_;intros;refine CondP.dec (fun h7=>?_) (fun h7=>?_)<;>refine kW ?_
        ·have hd:digI m=false:=by unfold digI;exact decide_eq_false (by omega)
         rw[hd,Bool.false_or] at hO;refine kO ?_;intros;refine CallP.flat [] _ c177 (J8Z m (by omega)) rfl ?_;rw[JI2 m (by omega)];refine kWO ?_;intros;refine CondP.intro (fun h6=>?_) (fun h6=>?_)<;>refine kW ?_
         ·rw[h6,Bool.true_and] at hO;refine kO ?_;intros
          exact .intro <| W.of ⟨_,by omega,i+1,hi',rfl,hO,rfl,rfl⟩ ⟨rfl,rfl,rfl,rfl,trivial⟩ trivial
         ·rw[h6,Bool.false_and] at hO;refine kO ?_;intros;exact .of (by rw[← hO];rfl)
        ·have hd:digI m=true:=by unfold digI;exact decide_eq_true (by omega)
         rw[hd,Bool.true_or,Bool.true_and] at hO;refine kO ?_;intros
         exact .intro <| W.of ⟨_,by omega,i+1,hi',rfl,hO,rfl,rfl⟩ ⟨rfl,rfl,rfl,rfl,trivial⟩ trivial
     ·refine kO ?_;intros;rw[show s.size-i=0 by omega] at hO;exact .of (by rw[← hO];rfl)
   ·rw[h2,Bool.false_and] at hF;refine kO ?_;intros;refine .of ?_;rw[← hF];rfl
inductive Ex where
 |mk (op text:ByteArray) (order:Int) (kids:List Ex)
def Ex.op:Ex→ByteArray|.mk o _ _ _=>o
def Ex.text:Ex→ByteArray|.mk _ t _ _=>t
def Ex.order:Ex→Int|.mk _ _ n _=>n
def Ex.kids:Ex→List Ex|.mk _ _ _ ks=>ks
mutual
def encE:Ex→AV
 |.mk o t n ks=>.agg [encS o,encS t,encI n,.sl 4 (JJN ks)]
def JJN:List Ex→List AV
 |[]=>[]
 |k::ks=>encE k::JJN ks
end
theorem J99:∀ ks:List Ex,JJN ks=ks.map encE
 |[]=>rfl
 |k::ks=>by rw[List.map_cons,← J99 ks];rfl
theorem JJO (o t:ByteArray)(n:Int)(ks:List Ex):encE (.mk o t n ks)=.agg [encS o,encS t,encI n,.sl 4 (ks.map encE)]:=by rw[← J99];rfl
theorem J01 (e:Ex):encE e=.agg [encS e.op,encS e.text,encI e.order,.sl 4 (e.kids.map encE)]:=by cases e;exact JJO ..
inductive SzE:Ex→Prop where
 |mk {o t:ByteArray} {n:Int} {ks:List Ex} (ho:o.size≤2^60) (ht:t.size≤2^60) (hk:ks.length≤2^60) (h:∀ k∈ks,SzE k):SzE (.mk o t n ks)
theorem SzE.kid {e:Ex}(h:SzE e):∀ k∈e.kids,SzE k:=by cases h;assumption
theorem SzE.len {e:Ex}(h:SzE e):e.kids.length≤2^60:=by cases h;assumption
theorem SzE.tx {e:Ex}(h:SzE e):e.text.size≤2^60:=by cases h;assumption
theorem SzE.os {e:Ex}(h:SzE e):e.op.size≤2^60:=by cases h;assumption
def J3V (f:Ex→Int→Int):List Ex→Int→Int
 |[],l=>l
 |k::ks,l=>if f k l<0 then -1 else J3V f ks (f k l)
def measF:Nat→Ex→Int→Int
 |0,_,_=>-1
 |d+1,e,l=>if l-1<0 then -1 else J3V (measF d) e.kids (l-1)
theorem JBo {f:Ex→Int→Int}(hf:∀ k l,f k l<0∨f k l≤l):∀ (ks:List Ex) (l:Int),J3V f ks l<0∨J3V f ks l≤l
 |[],l=>.inr (Int.le_refl _)
 |k :: ks,l=>by
   unfold J3V;split
   ·left;omega
   ·have:=hf k l;have:=JBo hf ks (f k l);omega
theorem J4k:∀ (d:Nat) (e:Ex) (l:Int),measF d e l<0∨measF d e l≤l
 |0,e,l=>by left;unfold measF;omega
 |d + 1,e,l=>by
   unfold measF;split
   ·left;omega
   ·have:=JBo (J4k d) e.kids (l-1);omega
theorem JBp {f:Ex→Int→Int}(hf:∀ k l,0≤l→-1≤f k l):∀ (ks:List Ex) (l:Int),0≤l→-1≤J3V f ks l
 |[],l,h=>by unfold J3V;omega
 |k::ks,l,h=>by
   unfold J3V;have:=hf k l h;split
   ·omega
   ·exact JBp hf ks _ (by omega)
theorem J7j:∀ (d:Nat) (e:Ex) (l:Int),0≤l→-1≤measF d e l
 |0,e,l,h=>by unfold measF;omega
 |d+1,e,l,h=>by
   unfold measF;split
   ·omega
   ·exact JBp (J7j d) _ _ (by omega)
theorem J4E:∀ (d:Nat) (e:Ex) (l:Int),d≤1000→SzE e→0≤l→l≤1000→PX 169 [encE e,encI d,encI l] (encI (measF d e l))
 |0,e,l,hd,he,h0,h1=>by
   refine PZ Tryz.func169 rfl ?_;rw[J01];refine kWS ?_;intros;exact .of rfl
 |d + 1,e,l,hd,he,h0,h1=>by
   refine PZ Tryz.func169 rfl ?_;have ih:=J4E d;have hle:=J4k d;have hk:=he.len;generalize hF:measF (d+1) e l=F;unfold measF at hF;rw[J01];refine kWS ?_;intros;refine CondP.dec (fun h=>?_) (fun h=>?_)<;>refine kW ?_
   ·rw[if_pos h] at hF;refine kS ?_;intros;exact .of (by rw[← hF];rfl)
   ·rw[if_neg h] at hF;refine kS ?_;intros
    refine LoopP.intro (fun m σ H=>∃ i,∃ l':Int,m=e.kids.length-i∧i≤e.kids.length∧0≤l'∧l'≤1000∧J3V (measF d) (e.kids.drop i) l'=F ∧
     σ=fr [(1,encI ((d+1:Nat):Int)),(2,encI l'),(18,.sl 4 (e.kids.map encE)),(19,encI e.kids.length),(20,encI i)]∧H=hp []) ?_ ?_
    ·refine .intro <| W.of ⟨_,0,l-1,rfl,Nat.zero_le _,by omega,by omega,hF,rfl,rfl⟩ ⟨rfl,rfl,rfl,?_,rfl,trivial⟩ trivial
     show AV.val (.int .i64 _)=AV.val (.int .i64 _)
     rw[List.length_map]
    ·clear hF h h0 h1;rintro m σ H ⟨i,l',rfl,hi,h0,h1,hF,rfl,rfl⟩;refine kWS ?_;intros;refine CondP.dec (fun h=>?_) (fun h=>?_)<;>refine kW ?_
     ·have hi':i<e.kids.length:=by omega
      rw[List.drop_eq_getElem_cons hi'] at hF;unfold J3V at hF;have hm:=hle e.kids[i] l';have hs:=he.kid _ (List.getElem_mem hi');refine kR ?_;intros;generalize e.kids[i]=k at hF hm hs ⊢;rw[J01];refine kR ?_;intros;simp only[show ((d+1:Nat):Int)-1=(d:Int) by omega];have hi2:=ih k l' (by omega) hs h0 h1;rw[J01 k] at hi2;refine J00 [] _ c169 hi2 ?_;generalize measF d k l'=r at hF hm;refine kWS ?_;intros;refine CondP.dec (fun h=>?_) (fun h=>?_)<;>refine kW ?_
      ·rw[if_pos h] at hF;refine kS ?_;intros;exact .of (by rw[← hF];rfl)
      ·rw[if_neg h] at hF;refine kS ?_;intros
       exact .intro <| W.of ⟨_,by omega,i+1,r,rfl,hi',by omega,by omega,hF,rfl,rfl⟩ ⟨rfl,rfl,rfl,rfl,rfl,trivial⟩ trivial
     ·rw[List.drop_eq_nil_of_le (by omega)] at hF;refine kS ?_;intros;exact .of (by rw[← hF];rfl)
def tooF (e:Ex):Bool:=decide (measF 24 e 200<0)
def sizeF (e:Ex):Int:=200-measF 24 e 200
theorem J3M (e:Ex)(he:SzE e):PX 83 [encE e] (encB (tooF e)):=by
 refine PZ Tryz.func83 rfl ?_;have hm:=J4E 24 e 200 (by omega) he (by omega) (by omega);rw[J01] at hm ⊢;refine kWS ?_;intros;refine CallP.flat [] _ c169 hm rfl ?_;refine kWS ?_;intros;exact .of rfl
theorem JJh (e:Ex)(he:SzE e):PX 248 [encE e] (encI (sizeF e)):=by
 refine PZ Tryz.func248 rfl ?_;have hm:=J4E 24 e 200 (by omega) he (by omega) (by omega);have hle:=J4k 24 e 200;have hge:=J7j 24 e 200 (by omega);unfold sizeF;rw[J01] at hm ⊢;refine kWS ?_;intros;refine CallP.flat [] _ c169 hm rfl ?_;generalize measF 24 e 200=r at *;refine kWS ?_;intros;exact .of rfl
end Go.Proofs.YtlblbldolhiokaaGreatDoor
