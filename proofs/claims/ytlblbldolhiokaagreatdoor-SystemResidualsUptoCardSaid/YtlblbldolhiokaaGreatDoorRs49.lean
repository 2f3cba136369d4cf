/- Part 49 of a proof. -/
import Derived.Test.YtlblbldolhiokaaGreatDoorRs45
import Derived.Lib.Bytealg
import Derived.RangeFuncBox
import Derived.RangeFuncLeaves
import Derived.RangeFuncNested
import Derived.RangeFuncBound
import Derived.RangeFuncCalls
import Derived.Shelf.Abstract
import Derived.Shelf.RegionOpen
import Derived.OwnWalkIn
import Derived.TacticsInMore
import Derived.LoopNIn
import Derived.LoopIn
import Derived.BigFrameIn
set_option linter.all false
set_option maxRecDepth 99999
set_option exponentiation.threshold 400
set_option maxHeartbeats 0
namespace Go.Fw
def vl (b:Nat):List Nat→Nat
 |[]=>0
 |d::r=>d+b*vl b r
def dg (b n:Nat):List Nat:=if _h:1<b∧0<n then n%b::dg b (n/b) else []
termination_by n
decreasing_by exact Q1z _h.2 _h.1
def J0l (b:Nat):dg b 0=[]:=by unfold dg;simp
def J53 {b n:Nat}(hb:1<b)(hn:0<n):dg b n=n%b::dg b (n/b):=by rw[dg,dif_pos ⟨hb,hn⟩]
def J0v {b:Nat}(hb:1<b)(n:Nat):vl b (dg b n)=n:=by
 induction n using Nat.strongRecOn with
 |ind n ih=>
   by_cases hn:0<n
   ·rw[J53 hb hn,vl,ih _ (Q1z hn hb)];exact Q0s n b
   rw[show n=0 by omega,J0l];rfl
def Dig (b:Nat)(l:List Nat):Prop:=∀ d∈l,d<b
def Dig.nil {b:Nat}:Dig b []:=fun _ h=>by cases h
def Dig.cons {b d:Nat}{l:List Nat}(h:d<b)(h':Dig b l):Dig b (d::l):=fun x hx=>by
 rcases QO.1 hx with rfl|hx
 ·exact h
 exact h' x hx
def Dig.hd {b d:Nat}{l:List Nat}(h:Dig b (d::l)):d<b:=h d (by simp)
def Dig.tl {b d:Nat}{l:List Nat}(h:Dig b (d::l)):Dig b l:=fun x hx=>h x (by simp[hx])
def Dig.app {b:Nat}{l r:List Nat}(h:Dig b l)(h':Dig b r):Dig b (l++r):=fun x hx=>by
 rcases Q0z.1 hx with hx|hx
 ·exact h x hx
 exact h' x hx
def Dig.take {b:Nat}{l:List Nat}(h:Dig b l)(n:Nat):Dig b (l.take n):=fun x hx=>h x (Q1K hx)
def Dig.drop {b:Nat}{l:List Nat}(h:Dig b l)(n:Nat):Dig b (l.drop n):=fun x hx=>h x (Q2f hx)
def Dig.set {b:Nat}{l:List Nat}(h:Dig b l)(i:Nat){d:Nat}(hd:d<b):Dig b (l.set i d):=fun x hx=>by
 rcases List.mem_or_eq_of_mem_set hx with h'|h'
 ·exact h x h'
 rw[h'];exact hd
def JAu {b:Nat}(hb:0<b)(n:Nat):Dig b (List.replicate n 0):=fun x hx=>by rw[Q30 hx];exact hb
def Dig.get {b:Nat}{l:List Nat}(h:Dig b l)(i:Nat)(hi:i<l.length):l[i]<b:=h _ (QF hi)
def J0J {b:Nat}(hb:1<b)(n:Nat):Dig b (dg b n):=by
 induction n using Nat.strongRecOn with
 |ind n ih=>
   by_cases hn:0<n
   ·rw[J53 hb hn];exact Dig.cons (Q0B _ (by omega)) (ih _ (Q1z hn hb))
   rw[show n=0 by omega,J0l];exact Dig.nil
theorem J6q (b:Nat):∀ (l r:List Nat),vl b (l++r)=vl b l+b ^ l.length*vl b r
 |[],r=>by simp[vl]
 |d::l,r=>by
   simp only[Q01,vl,J6q b l r,QT,Q0Q]
   grind
def JDu (b n:Nat):vl b (List.replicate n 0)=0:=by
 induction n with
 |zero=>rfl
 |succ n ih=>simp[Q1D,vl,ih]
theorem J6p {b:Nat}:∀ {l:List Nat},Dig b l→vl b l<b ^ l.length
 |[],_=>by simp[vl]
 |d::l,h=>by
   have h1:=J6p h.tl;have h2:=h.hd;simp only[vl,QT,Q0Q];have:b*(vl b l+1)≤b*b ^ l.length:=Qt b h1
   grind
def trimF:List Nat→List Nat
 |[]=>[]
 |d::r=>match trimF r with
   |[]=>if d=0 then [] else [d]
   |x=>d::x
theorem J1n {b:Nat}(hb:1<b):∀ {l:List Nat},Dig b l→trimF l=dg b (vl b l)
 |[],_=>by simp[trimF,vl,J0l]
 |d :: r,h=>by
   have ih:=J1n hb h.tl;have hd:=h.hd
   by_cases h0:d+b*vl b r=0
   ·have h1:d=0:=by omega
    have h2:vl b r=0:=by
     rcases Qr (vl b r) with h|h
     ·exact h
     have:=Q1F (show 0<b by omega) h;omega
    simp only[trimF,ih,vl,h1,h2,J0l,Q39,Q0O,if_true]
   simp only[vl];rw[J53 hb (by omega),Q0k,Q0M hd,Q1f _ _ (by omega),Q0X hd,Qq];simp only[trimF,ih]
   by_cases h2:vl b r=0
   ·rw[h2,J0l];simp only;rw[h2] at h0;rw[if_neg (by omega)]
   rw[J53 hb (by omega)]
theorem J8j:∀ (l:List Nat),trimF l=l.take (trimF l).length
 |[]=>rfl
 |d::r=>by
   have ih:=J8j r;simp only[trimF]
   cases h:trimF r with
   |nil=>by_cases h0:d=0<;>simp[h0]
   |cons x y=>rw[h] at ih;simp only[QT,Q0D];rw[ih];simp
def JH9 (l:List Nat):(trimF l).length≤l.length:=by
 rw[J8j l];simp;omega
def J8k (l:List Nat)(d:Nat):trimF (l++[d])=if d=0 then trimF l else l++[d]:=by
 induction l with
 |nil=>by_cases h:d=0<;>simp[trimF,h]
 |cons x l ih=>
   simp only[Q01,trimF,ih]
   by_cases h:d=0
   ·simp[h]
   simp only[if_neg h];cases l<;>simp
def JC1 {b:Nat}(hb:1<b){l:List Nat}(h:Dig b l):(dg b (vl b l)).length≤l.length:=by rw[← J1n hb h];exact JH9 l
def J2A {b:Nat}(hb:1<b)(n:Nat):dg b n=[]↔n=0:=by
 constructor
 ·intro h;have:=J0v hb n;rw[h] at this;exact this.symm
 rintro rfl;exact J0l b
def J1l {b:Nat}(hb:1<b)(n:Nat):n<b ^ (dg b n).length:=by have:=J6p (J0J hb n);rwa [J0v hb] at this
def JIj {b:Nat}(hb:1<b):∀ n:Nat,0<n→b ^ ((dg b n).length-1)≤n:=by
 intro n
 induction n using Nat.strongRecOn with
 |ind n ih=>
   intro hn;rw[J53 hb hn,QT,Q11]
   by_cases h:0<n/b
   ·have:=ih _ (Q1z hn hb) h;have h1:(dg b (n/b)).length≠0:=fun e=>by have:=(J2A hb _).1 (Qu.1 e);omega
    rw[show (dg b (n/b)).length=(dg b (n/b)).length-1+1 by omega,Q0Q];have h2:n/b*b≤n:=Q1R n b;exact Qg (Qf b this) h2
   rw[Nat.eq_zero_of_not_pos h,J0l];simp;omega
def J0F {b:Nat}(hb:1<b){n k:Nat}(h:n<b ^ k):(dg b n).length≤k:=by
 by_cases hn:0<n
 ·have h1:=JIj hb n hn;have:b ^ ((dg b n).length-1)<b ^ k:=Q13 h1 h;have:=(Q2G hb).1 this;omega
 rw[show n=0 by omega,J0l];simp
def J0e {b:Nat}(hb:1<b){m n:Nat}(h:m≤n):(dg b m).length≤(dg b n).length:=J0F hb (Q13 h (J1l hb n))
theorem JMB {b:Nat}:∀ {l r:List Nat},Dig b l→Dig b r→l.length=r.length→vl b l=vl b r→l=r
 |[],[],_,_,_,_=>rfl
 |d::l,e::r,h,k,hl,hv=>by
   simp only[vl] at hv;have hd:=h.hd;have he:=k.hd;have h1:(d+b*vl b l)%b=(e+b*vl b r)%b:=by rw[hv]
   rw[Q0k,Q0k,Q0M hd,Q0M he] at h1;subst h1;have h2:b*vl b l=b*vl b r:=by omega
   have h3:=Q2s (by omega) h2;rw[JMB h.tl k.tl (by simpa using hl) h3]
def JPC {b:Nat}(hb:1<b){m n:Nat}(h:dg b m=dg b n):m=n:=by rw[← J0v hb m,h,J0v hb]
def J3z {b n:Nat}(hb:1<b)(h0:0<n)(h:n<b):dg b n=[n]:=by
 rw[J53 hb h0,Q0M h,Q0X h,J0l]
def addC (b:Nat):Nat→List Nat→List Nat→List Nat
 |c,[],_=>[c]
 |c,x::xs,[]=>(x+c)%b::addC b ((x+c)/b) xs []
 |c,x::xs,y::ys=>(x+c+y)%b::addC b ((x+c+y)/b) xs ys
theorem JAg {b:Nat}:∀ (xs ys:List Nat) (c:Nat),ys.length≤xs.length→vl b (addC b c xs ys)=c+vl b xs+vl b ys
 |[],[],c,_=>by simp[addC,vl]
 |[],_::_,c,h=>by simp at h
 |x::xs,[],c,h=>by
   simp only[addC,vl,JAg xs [] _ (by simp)];have:=Q0s (x+c) b
   grind
 |x::xs,y::ys,c,h=>by
   simp only[addC,vl,JAg xs ys _ (by simpa using h)];have:=Q0s (x+c+y) b
   grind
theorem J6h {b:Nat}(hb:1<b):∀ (xs ys:List Nat) (c:Nat),c≤1→Dig b xs→Dig b ys→Dig b (addC b c xs ys)
 |[],_,c,h,_,_=>Dig.cons (by omega) Dig.nil
 |x::xs,[],c,h,hx,hy=>by
   have:=hx.hd;exact Dig.cons (Q0B _ (by omega)) (J6h hb xs [] _ (by have:(x+c)/b<2:=Q03 (by omega);omega) hx.tl hy)
 |x::xs,y::ys,c,h,hx,hy=>by
   have:=hx.hd;have:=hy.hd;exact Dig.cons (Q0B _ (by omega)) (J6h hb xs ys _ (by have:(x+c+y)/b<2:=Q03 (by omega);omega) hx.tl hy.tl)
theorem JAh (b:Nat):∀ (xs ys:List Nat) (c:Nat),(addC b c xs ys).length=xs.length+1
 |[],_,c=>rfl
 |x::xs,[],c=>by simp[addC,JAh b xs []]
 |x::xs,y::ys,c=>by simp[addC,JAh b xs ys]
def subC (b:Nat):Nat→List Nat→List Nat→List Nat
 |_,[],_=>[]
 |c,x::xs,[]=>(if x<c then x+b-c else x-c)::subC b (if x<c then 1 else 0) xs []
 |c,x::xs,y::ys=>(if x<c+y then x+b-(c+y) else x-(c+y))::subC b (if x<c+y then 1 else 0) xs ys
theorem J1o (b:Nat):∀ (xs ys:List Nat) (c:Nat),(subC b c xs ys).length=xs.length
 |[],_,c=>rfl
 |x::xs,[],c=>by simp[subC,J1o b xs []]
 |x::xs,y::ys,c=>by simp[subC,J1o b xs ys]
theorem J1p {b:Nat}(hb:1<b):∀ (xs ys:List Nat) (c:Nat),c≤1→Dig b xs→Dig b ys→Dig b (subC b c xs ys)
 |[],_,c,h,_,_=>Dig.nil
 |x::xs,[],c,h,hx,hy=>by
   have:=hx.hd;exact Dig.cons (by split<;>omega) (J1p hb xs [] _ (by split<;>omega) hx.tl hy)
 |x::xs,y::ys,c,h,hx,hy=>by
   have:=hx.hd;have:=hy.hd;exact Dig.cons (by split<;>omega) (J1p hb xs ys _ (by split<;>omega) hx.tl hy.tl)
theorem J5e {b:Nat}(hb:1<b):∀ (xs ys:List Nat) (c:Nat),c≤1→Dig b xs→Dig b ys→ys.length≤xs.length→c+vl b ys≤vl b xs→vl b (subC b c xs ys)+(c+vl b ys)=vl b xs
 |[],[],c,h,_,_,_,hv=>by simp[subC,vl] at hv ⊢;omega
 |[],_::_,c,_,_,_,h,_=>by simp at h
 |x :: xs,[],c,h,hx,hy,hl,hv=>by
   simp only[vl] at hv;simp only[subC]
   by_cases hc:x<c
   ·simp only[if_pos hc,vl]
    have hp:0<vl b xs:=by
     rcases Qr (vl b xs) with h|h
     ·rw[h] at hv;omega
     exact h
    have ih:=J5e hb xs [] 1 (by omega) hx.tl Dig.nil (by simp) (by simp only[vl];omega);simp only[vl] at ih;have e:b*(vl b (subC b 1 xs [])+1)=b*vl b xs:=by rw[← ih]
    rw[Q1M] at e;omega
   simp only[if_neg hc,vl];have ih:=J5e hb xs [] 0 (by omega) hx.tl Dig.nil (by simp) (by simp[vl]);simp only[vl] at ih;rw[Q0O] at ih;rw[ih];omega
 |x :: xs,y::ys,c,h,hx,hy,hl,hv=>by
   simp only[vl] at hv;have hxb:=hx.hd;have hyb:=hy.hd;simp only[subC]
   by_cases hc:x<c+y
   ·simp only[if_pos hc,vl]
    have hp:1+vl b ys≤vl b xs:=by
     rcases QI (vl b ys) (vl b xs) with h|h
     ·omega
     have:=Qt b h;omega
    have ih:=J5e hb xs ys 1 (by omega) hx.tl hy.tl (by simpa using hl) hp;have e:b*(vl b (subC b 1 xs ys)+(1+vl b ys))=b*vl b xs:=by rw[← ih]
    rw[Q1M,Q1M] at e;omega
   simp only[if_neg hc,vl]
   have hp:0+vl b ys≤vl b xs:=by
    rcases QI (vl b xs) (vl b ys) with h|h
    ·have h1:b*(vl b xs+1)≤b*vl b ys:=Qt b h;rw[Q1M] at h1;omega
    omega
   have ih:=J5e hb xs ys 0 (by omega) hx.tl hy.tl (by simpa using hl) hp;rw[Qq] at ih;have e:b*(vl b (subC b 0 xs ys)+vl b ys)=b*vl b xs:=by rw[← ih]
   rw[Q1M] at e;omega
theorem JMA {b:Nat}:∀ (l:List Nat) (i d:Nat) (h:i<l.length),vl b (l.set i d)+l[i]*b ^ i=vl b l+d*b ^ i
 |[],i,d,h=>by simp at h
 |x::l,0,d,h=>by simp[vl];omega
 |x::l,i+1,d,h=>by
   have ih:=JMA (b:=b) l i d (by simpa using h);simp only[List.set_cons_succ,vl,Q0b,Q0Q];have e:b*(vl b (l.set i d)+l[i]'(by simpa using h)*b ^ i)=b*(vl b l+d*b ^ i):=by rw[ih]
   grind
def J9o {b:Nat}(l:List Nat)(i:Nat)(h:i<l.length):vl b (l.take (i+1))=vl b (l.take i)+l[i]*b ^ i:=by
 rw[Qd h,J6q];simp only[vl,Qb,Q10 (Q19 h)]
 grind
def J5Y {b:Nat}(l:List Nat)(i:Nat)(h:i<l.length):vl b (l.drop i)=l[i]+b*vl b (l.drop (i+1)):=by
 rw[Q6 h];rfl
def J2Z (b:Nat)(l:List Nat)(i:Nat)(h:i≤l.length):vl b l=vl b (l.take i)+b ^ i*vl b (l.drop i):=by
 have:=J6q b (l.take i) (l.drop i);rw[Q2T,Qb,Q10 h] at this;exact this
def J44 {b:Nat}{l:List Nat}(hl:Dig b l)(i:Nat)(h:i≤l.length):vl b (l.drop i)=vl b l/b ^ i:=by
 rcases Qr b with h0|hb
 ·subst h0
  cases l with
  |nil=>simp[vl]
  |cons x l=>exact absurd hl.hd (by omega)
 have h1:=J2Z b l i h;have h2:=J6p (hl.take i);rw[Qb,Q10 h] at h2;rw[h1,Q1f _ _ (Q1V hb),Q0X h2,Qq]
def J6U {b:Nat}{out:List Nat}{i:Nat}{s c V T:Nat}(h:i<out.length)(hv:vl b out+c*b ^ i=V)(hs:s=T+out[i]+c) :
  vl b (out.set i (s%b))+s/b*b ^ (i+1)=V+T*b ^ i:=by
 have h1:=JMA (b:=b) out i (s%b) h;have h2:=Q0s s b;rw[Q0Q];have h3:(s%b+b*(s/b))*b ^ i=(T+out[i]+c)*b ^ i:=by rw[h2,hs]
 grind
def JF0 {b x y o c s:Nat}(hx:x<b)(hy:y<b)(ho:o<b)(hc:c<b)(hs:s=x*y+o+c):s<b*b∧s/b<b:=by
 have h1:x*y≤(b-1)*(b-1):=Nat.mul_le_mul (by omega) (by omega)
 have h2:s<b*b:=by
  obtain ⟨k,rfl⟩:∃ k,b=k+1:=⟨b-1,by omega⟩;simp only[Q11] at h1;have e:(k+1)*(k+1)=k*k+2*k+1:=by grind
  omega
 exact ⟨h2,Q03 h2⟩
def JBO {b k n c T:Nat}(hb:1<b)(hc:0<c)(h:c*b ^ k≤T)(hT:T<b ^ n):k<n:=by
 have h1:b ^ k≤c*b ^ k:=Q3A _ hc;exact (Q2G hb).1 (Q13 (Qg h1 h) hT)
def JHo {b:Nat}{xs ys:List Nat}{i:Nat}(hx:Dig b xs)(hy:Dig b ys)(hi:i≤xs.length):vl b (xs.take i)*vl b ys<b ^ (i+ys.length)∨ys=[]∧b ^ i=0∨b=0:=by
 rcases Qr b with h|hb
 ·exact .inr (.inr h)
 left;have h1:=J6p (hx.take i);rw[Qb,Q10 hi] at h1;have h2:=J6p hy;rw[Q1W];exact Nat.mul_lt_mul_of_lt_of_le h1 (Q19 h2) (Q1V hb)
def cmpN (a b:Nat):Int:=if a<b then -1 else if b<a then 1 else 0
def JMC {b:Nat}{xs ys:List Nat}(hx:Dig b xs)(hy:Dig b ys)(hl:xs.length=ys.length){i:Nat}(hi:i<xs.length)(he:xs.drop (i+1)=ys.drop (i+1))(h:xs[i]<ys[i]):vl b xs<vl b ys:=by
 have h1:=J2Z b xs i (by omega);have h2:=J2Z b ys i (by omega);have h3:=J6p (hx.take i);rw[Qb,Q10 (by omega)] at h3;rw[J5Y xs i hi] at h1;rw[J5Y ys i (by omega),← he] at h2;have h4:b ^ i*(xs[i]+b*vl b (xs.drop (i+1))+1)≤b ^ i*(ys[i]+b*vl b (xs.drop (i+1))):=Qt _ (by omega);rw[Q1M] at h4;omega
def J54 {b:Nat}(hb:1<b){m n:Nat}(h:(dg b m).length<(dg b n).length):m<n:=by
 rcases QI m n with h'|h'
 ·exact h'
 have:=J0e hb h';omega
def JFa {b by_ r d Q R:Nat}(h:R=by_*Q+r)(hr:r<by_)(hd:d<b) :
  d+b*R=by_*((r*b+d)/by_+b*Q)+(r*b+d)%by_∧(r*b+d)/by_<b∧(r*b+d)%by_<by_:=by
 have h1:=Q0s (r*b+d) by_;refine ⟨?_,?_,Q0B _ (by omega)⟩
 ·subst h
  grind
 refine Q03 ?_;have h2:(r+1)*b≤by_*b:=Qf b hr;rw[Q14] at h2;omega
def JLF {b n p t h y:Nat}(hp:p<(h+1)*b ^ n)(hy:t*b ^ n≤y)(ht:0<t)(hb:0<b):p/y≤h/t:=by
 rw[Q2U ht];have hbn:0<b ^ n:=Q1V hb;have hy0:0<y:=QP (Q1F ht hbn) hy;have h1:p/y*y≤p:=Q1R p y;have h2:p/y*(t*b ^ n)≤p/y*y:=Qt _ hy;have h3:p/y*t*b ^ n<(h+1)*b ^ n:=by rw[Q3j];omega
 have:=(Nat.mul_lt_mul_right hbn).1 h3;omega
def JLE {b f r y q:Nat}(hb:0<b)(hq:q=r/b ^ f/(y/b ^ f+1)):q*y≤r:=by
 have h1:q*(y/b ^ f+1)≤r/b ^ f:=by rw[hq];exact Q1R ..
 have h2:y≤(y/b ^ f+1)*b ^ f:=by
  have:=Nat.lt_div_mul_add (a:=y) (Q1V (n:=f) hb);rw[Q14,Nat.one_mul];omega
 have h3:q*y≤q*(y/b ^ f+1)*b ^ f:=by rw[Q3j];exact Qt _ h2
 exact Qg h3 (Qg (Qf _ h1) (Q1R ..))
def decB (l:List Nat):Nat:=vl 10 (l.reverse.map (· - 48))
def isDg (c:Nat):Bool:=decide (48≤c∧c≤57)
def JAR (l r:List Nat):decB (l++r)=decB l*10 ^ r.length+decB r:=by
 unfold decB;rw[Q2j,QW,J6q];simp only[Q3,Q2D]
 grind
def JC3 (l:List Nat)(c:Nat):decB (l++[c])=10*decB l+(c-48):=by
 rw[JAR];have:decB [c]=c-48:=by simp[decB,vl]
 rw[this];simp;omega
def JEp {l:List Nat}(h:l.all isDg=true):Dig 10 (l.reverse.map (· - 48)):=fun d hd=>by
 obtain ⟨c,hc,rfl⟩:=Qs.1 hd;have:=QL.1 h c (Q33.1 hc);simp[isDg] at this;omega
def JIm {l:List Nat}(h:l.all isDg=true):decB l<10 ^ l.length:=by
 have:=J6p (JEp h)
 simpa [decB] using this
def decT (n:Nat):List Nat:=if n=0 then [48] else (dg 10 n).reverse.map (· + 48)
def J2F (n:Nat):(decT n).all isDg=true:=by
 unfold decT;split
 ·rfl
 rw[QL];intro c hc;obtain ⟨d,hd,rfl⟩:=Qs.1 hc;have:=J0J (b:=10) (by omega) n d (Q33.1 hd);simp[isDg];omega
def JC4 (n:Nat):decB (decT n)=n:=by
 unfold decT;split
 ·rename_i h;subst h;rfl
 unfold decB;rw[← Q1p,List.reverse_reverse,Q0p];have:((fun x=>x-48)∘fun x=>x+48)=(id:Nat→Nat):=by funext x;simp
 rw[this,Q3Y,J0v (by omega)]
def J20 (l:List Nat):Bool:=decide (1≤l.length)&&(decide (l.length=1)||decide (l.getD 0 0≠48))&&l.all isDg
theorem JDz:∀ {l:List Nat},l≠[]→l.getLast?≠some 0→trimF l=l
 |[],h,_=>absurd rfl h
 |[d],_,h=>by
   have:d≠0:=fun e=>h (by simp[e]);simp[trimF,this]
 |d::x::l,_,h=>by
   have ih:=JDz (l:=x::l) (by simp) (by simpa using h);rw[trimF,ih]
theorem J8l:∀ (l:List Nat),(trimF l).getLast?≠some 0
 |[]=>by simp[trimF]
 |d::r=>by
   have ih:=J8l r;rw[trimF]
   cases h:trimF r with
   |nil=>by_cases h0:d=0<;>simp[h0]
   |cons x y=>rw[h] at ih;simpa using ih
def JIi {b:Nat}(hb:1<b)(n:Nat):(dg b n).getLast?≠some 0:=by
 have:=J8l (dg b n)
 rwa [J1n hb (J0J hb n),J0v hb] at this
def J56 {l:List Nat}(h:J20 l=true):decT (decB l)=l:=by
 unfold J20 at h;simp only[Q5,Q09,Qa] at h;obtain ⟨⟨h1,h2⟩,h3⟩:=h;have hd:=JEp h3
 have back:((l.reverse.map (· - 48)).reverse.map (· + 48))=l:=by
  rw[← Q1p,List.reverse_reverse,Q0p]
  have:∀ c∈l,((fun x=>x+48)∘fun x=>x-48) c=c:=fun c hc=>by
   have:=QL.1 h3 c hc;simp[isDg] at this;simp;omega
  rw[Qk this,List.map_id']
 by_cases h0:decB l=0
 ·unfold decT;rw[if_pos h0]
  rcases h2 with h2|h2
  ·obtain ⟨c,rfl⟩:=Q2Q.1 h2;have:=QL.1 h3 c (by simp);simp[isDg] at this;simp[decB,vl] at h0;have:c=48:=by omega
   rw[this]
  exfalso
  cases l with
  |nil=>simp at h1
  |cons c l=>
    have h5:=QL.1 h3 c (by simp);simp[isDg] at h5;simp only[Q2k] at h2
    have:decB (c::l)=decB l+10 ^ l.length*(c-48):=by
     unfold decB;rw[List.reverse_cons,QW,J6q];simp[vl]
    have h6:0<10 ^ l.length*(c-48):=Q1F (Q1V (by omega)) (by omega);omega
 unfold decT;rw[if_neg h0]
 have:dg 10 (decB l)=l.reverse.map (· - 48):=by
  unfold decB;rw[← J1n (by omega) hd];refine JDz (fun e=>?_) (fun e=>?_)
  ·have:=QC List.length e;simp at this;subst this;simp at h1
  rw[List.getLast?_map,List.getLast?_reverse] at e
  cases l with
  |nil=>simp at h1
  |cons c l=>
    simp at e;have h5:=QL.1 h3 c (by simp);simp[isDg] at h5
    rcases h2 with h2|h2
    ·have:l=[]:=by simpa using h2
     subst this;have:c=48:=by omega
     subst this;exact h0 rfl
    simp at h2;omega
 rw[this,back]
def J3m (n:Nat):J20 (decT n)=true:=by
 have h:=J2F n;unfold J20;rw[h,Q0e];unfold decT;split
 ·rfl
 rename_i hn;have h1:dg 10 n≠[]:=fun e=>hn ((J2A (by omega) n).1 e);have hl:0<(dg 10 n).length:=Q1C.2 h1;simp only[Q5,Q09,Qa,Q3,Q2D];refine ⟨hl,?_⟩
 by_cases e:(dg 10 n).length=1
 ·exact .inl e
 right;have hl:=JIi (b:=10) (by omega) n;rw[Q4,Ql,← List.head?_eq_getElem?,List.head?_reverse]
 cases hg:(dg 10 n).getLast? with
 |none=>exact absurd (List.getLast?_eq_none_iff.1 hg) h1
 |some d=>rw[hg] at hl;simp at hl ⊢;omega
def J2X (k:Nat):Nat→List Nat→List Nat
 |0,_=>[]
 |n+1,l=>if l=[] then [] else vl 10 (l.take k)::J2X k n (l.drop k)
theorem J87 {k:Nat}(hk:0<k):∀ (n:Nat) (l:List Nat),l.length≤n→vl (10 ^ k) (J2X k n l)=vl 10 l
 |0,l,h=>by
   have:l=[]:=Qn (by omega);subst this;rfl
 |n + 1,l,h=>by
   unfold J2X;split
   ·rename_i e;subst e;rfl
   rename_i e;have hp:0<l.length:=Q1C.2 e;rw[vl,J87 hk n (l.drop k) (by simp;omega)]
   rcases QI l.length k with h1|h1
   ·rw[Qm (by omega),Q9 (by omega)];simp[vl]
   exact (J2Z 10 l k h1).symm
theorem J5z {k:Nat}:∀ (n:Nat) (l:List Nat),Dig 10 l→Dig (10 ^ k) (J2X k n l)
 |0,l,h=>Dig.nil
 |n + 1,l,h=>by
   unfold J2X;split
   ·exact Dig.nil
   have h1:=J6p (h.take k);refine Dig.cons (QP h1 (Q05 (by omega) (by simp;omega))) (J5z n _ (h.drop k))
def cmpL:List Nat→List Nat→Int
 |x::xs,y::ys=>if cmpL xs ys=0 then (x:Int)-y else cmpL xs ys
 |_,_=>0
def JCH (l:List Nat):cmpL l l=0:=by
 induction l with
 |nil=>rfl
 |cons x l ih=>simp[cmpL,ih]
theorem JJD:∀ (xs ys:List Nat) (i:Nat) (h:i<xs.length) (h':i<ys.length),xs.drop (i+1)=ys.drop (i+1)→xs[i]≠ys[i]→cmpL xs ys=(xs[i]:Int)-ys[i]
 |x::xs,y::ys,0,_,_,he,_=>by
   simp only[Qq,Q1S,Q0F] at he;subst he;simp[cmpL,JCH]
 |x::xs,y::ys,i+1,h,h',he,hne=>by
   have ih:=JJD xs ys i (by simpa using h) (by simpa using h') (by simpa using he) (by simpa using hne);simp only[Q0b] at hne ⊢;rw[cmpL,if_neg (by rw[ih];omega),ih]
theorem JJC {b:Nat}:∀ {xs ys:List Nat},Dig b xs→Dig b ys→xs.length=ys.length→(0<cmpL xs ys↔vl b ys<vl b xs)∧(cmpL xs ys=0↔xs=ys)
 |[],[],_,_,_=>by simp[cmpL,vl]
 |x :: xs,y::ys,hx,hy,hl=>by
   have ih:=JJC hx.tl hy.tl (by simpa using hl);have h1:=hx.hd;have h2:=hy.hd
   by_cases h:cmpL xs ys=0
   ·have e:=ih.2.1 h;subst e;simp only[cmpL,h,if_true,vl,Q2J,and_true];omega
   have hne:xs≠ys:=fun e=>h (ih.2.2 e);simp only[cmpL,if_neg h,vl,Q2J];refine ⟨?_,⟨fun e=>absurd e h,fun e=>absurd e.2 hne⟩⟩;rw[ih.1];constructor
   ·intro hlt;have:=Qt b (show vl b ys+1≤vl b xs from hlt);rw[Q1M] at this;omega
   intro hlt
   rcases QI (vl b ys) (vl b xs) with h|h
   ·exact h
   rcases QI (vl b xs) (vl b ys) with h'|h'
   ·have:=Qt b (show vl b xs+1≤vl b ys from h');rw[Q1M] at this;omega
   exact absurd (JMB hx.tl hy.tl (by simpa using hl) (by omega)) hne
def cmpW (xs ys:List Nat):Int:=if xs.length=ys.length then cmpL xs ys else (xs.length:Int)-ys.length
def JJB {b:Nat}(hb:1<b)(m n:Nat):(0<cmpW (dg b m) (dg b n)↔n<m)∧(cmpW (dg b m) (dg b n)=0↔m=n):=by
 unfold cmpW;split
 ·rename_i h;obtain ⟨h1,h2⟩:=JJC (J0J hb m) (J0J hb n) h;rw[J0v hb,J0v hb] at h1;exact ⟨h1,h2.trans ⟨fun e=>JPC hb e,fun e=>by rw[e]⟩⟩
 rename_i h;constructor
 ·constructor
  ·intro hlt;exact J54 hb (by omega)
  intro hlt;have:=J0e hb (Q19 hlt);omega
 constructor
 ·intro e;omega
 rintro rfl;exact absurd rfl h
def JOa (n d:Nat):List Nat:=if d=1 then decT n else decT n++47::decT d
def JD2 (x:Int×Nat):List Nat:=if x.1<0 then 45::JOa x.1.natAbs x.2 else JOa x.1.natAbs x.2
def J0g {l:List Nat}{i:Nat}(h:i<l.length):l[i]=l.getD i 0:=by rw[Q4,Q8 h];rfl
def JHB {b:Nat}(hb:1<b){y n:Nat}(hn:(dg b y).length=n+1):(dg b y).getD n 0≠0:=fun e=>JIi hb y (by
 rw[Q2A,hn,Q11,Q8 (by omega),J0g (by omega),e])
def JM9 {b:Nat}(l:List Nat)(n:Nat)(hn:n<l.length)(hl:l.length≤n+2):vl b (l.drop n)=l.getD n 0+l.getD (n+1) 0*b:=by
 rw[J5Y (b:=b) l n hn,J0g hn]
 rcases QI (n+1) l.length with h|h
 ·rw[J5Y _ _ h,Q0G (by omega),J0g h];simp[vl,Q0A]
 rw[Q0G h,Q4 (i:=n+1),Q0J h];simp[vl]
def JIN {b:Nat}(hb:1<b){p y n:Nat}(h:p<y*b)(hn:(dg b y).length=n+1)(hl:¬ (dg b p).length<n+1) :
  p/y≤((dg b p).getD n 0+(dg b p).getD (n+1) 0*b)/(dg b y).getD n 0:=by
 have hpl:(dg b p).length≤n+2:=by
  refine J0F hb (QP h ?_);rw[Q0Q,← hn];exact Qf _ (Q19 (J1l hb y))
 refine JLF (b:=b) (n:=n) ?_ ?_ (Nat.pos_of_ne_zero (JHB hb hn)) (by omega)
 ·have e:=J2Z b (dg b p) n (by omega);rw[J0v hb,JM9 _ n (by omega) hpl] at e;have e2:=J6p ((J0J hb p).take n);rw[Qb,Q10 (by omega)] at e2;generalize (dg b p).getD n 0+(dg b p).getD (n+1) 0*b=t at e ⊢;rw[Q14,Q0A t];omega
 have e:=J2Z b (dg b y) n (by omega);rw[J0v hb,JM9 _ n (by omega) (by omega)] at e;rw[Q0A];have:=Qt (b ^ n) (Q32 ((dg b y).getD n 0) ((dg b y).getD (n+1) 0*b));omega
end Go.Fw
namespace Go.Proofs.YtlblbldolhiokaaGreatDoor
open Go Go.Fw
def D0 {i:Nat}{ops:Array Oper}{K:Fr→Hp→Prop}{σ:Fr}{H:Hp}(h:∀ γs:Nat→Nat,J4H (E i) ops γs 0 ops.toList σ H [] fun σ' H' L=>Need (J3O ops [] [] (ops.toList.zip L)=true) (K σ' H')):DrawP (DH (E i)) ops K σ H:=DrawH.intro (E:=E i) J3x h
def Need.drawn {ops:Array Oper}{a c:List (Oper×St)}{b:List Nat}{K:Prop}(h:J3O ops a b c=true)(k:K):Need (J3O ops a b c=true) K:=Need.intro h k
def CondP.pos {p:Prop}[Decidable p]{X Y:Prop}(h:p)(k:X):CondP (decide p) X Y:=.dec (fun _=>k) (fun q=>absurd h q)
def CondP.neg {p:Prop}[Decidable p]{X Y:Prop}(h:¬ p)(k:Y):CondP (decide p) X Y:=.dec (fun q=>absurd q h) (fun _=>k)
def JAw {b:Bool}{X Y:Prop}(h:b=true)(k:X):CondP b X Y:=.intro (fun _=>k) (fun q=>by rw[h] at q;cases q)
def JAx {b:Bool}{X Y:Prop}(h:b=false)(k:Y):CondP b X Y:=.intro (fun q=>by rw[h] at q;cases q) (fun _=>k)
abbrev PX:Nat→List AV→AV→Prop:=PureCall Tryz.prog
def PC {f:Nat}{fn:Func}{c:Code}{args:List AV}{r:AV}(S:List Nat)(hf:Tryz.prog.funcs[f]?=some fn)(hb:fn.body=some c)(hg:J0f fn.ntmps c=true)(ha:Nat.ble args.length fn.ntmps=true)
 (h:Box (cpA (E 0) (DH (E 0)) c (retC (E 0) fn S r) (J1w args) fun _=>none)):PureCall Tryz.prog f args r:=JNC (E:=E 0) J3x (JMY 0) S hf hb hg (QJ ha) h
def PZ {f:Nat}{fn:Func}{c:Code}{args:List AV}{r:AV}(hf:Tryz.prog.funcs[f]?=some fn)(hb:fn.body=some c)(h:Box (cpA (E 0) (DH (E 0)) c (retC (E 0) fn [] r) (J1w args) fun _=>none))(hg:J0f fn.ntmps c=true:=by rfl)(ha:Nat.ble args.length fn.ntmps=true:=by rfl):PureCall Tryz.prog f args r:=PC [] hf hb hg ha h
def T9:(∀ s:Nat,(s:Int).tdiv 1000000000=((s/1000000000:Nat):Int))∧(∀ s:Nat,(s:Int).tmod 1000000000=((s%1000000000:Nat):Int)):=⟨fun _=>rfl,fun _=>rfl⟩
def TN:(∀ s k:Nat,(s:Int).tdiv k=((s/k:Nat):Int))∧(∀ s k:Nat,(s:Int).tmod k=((s%k:Nat):Int)):=⟨fun _ _=>rfl,fun _ _=>rfl⟩
def TD:(∀ (a b:Int),0≤a→Int.tdiv a b=a/b)∧(∀ (a b:Int),0≤a→Int.tmod a b=a%b):=⟨fun _ _ h=>Int.tdiv_eq_ediv_of_nonneg h,fun _ _ h=>Int.tmod_eq_emod_of_nonneg h⟩
def encS (s:ByteArray):AV:=.val (.string s)
def encI (n:Int):AV:=.val (.int .i64 n)
def encB (b:Bool):AV:=.val (.bool b)
def encw (n:Nat):AV:=.val (.int .u32 n)
def J0Q (l:List Nat):AV:=.sl 1 (l.map encw)
abbrev B9:Nat:=1000000000
def encW (n:Nat):AV:=J0Q (dg B9 n)
def encZ (z:Int):AV:=.agg [encB (decide (z<0)),encW z.natAbs]
def g9 {l:List Nat}(h:Dig B9 l)(i:Nat)(hi:i<l.length):l[i]<1000000000:=h.get i hi
def J0S {α:Type}(s:AV→AV)(enc:α→AV)(xs:List α)(n:Nat)(hn:n=xs.length)(hs:∀ x,J0U s (enc x)=enc x):(((xs.map enc).drop 0).take n).map (J0U s)=xs.map enc:=by
 subst hn;rw[Q0F,Qm (by simp),Q0p];exact Qk fun x _=>hs x
def endW {S:List Nat}{H:Hp}{k:Nat}{L:List AV}{n:Nat}{xs:List Nat}(h:L=xs.map encw)(hn:n=xs.length):AV.sl 1 (((L.drop 0).take n).map (J0U (J08 S H k)))=J0Q xs:=by
 subst h;rw[J0S _ _ _ _ hn fun x=>by cases k<;>rfl];rfl
def J9x {α:Type}(f:α→AV)(l:List α)(i:Nat)(x:α)(y:AV)(h:y=f x):(l.map f).set i y=(l.set i x).map f:=by rw[h,List.map_set]
def J6y {α:Type}(l:List α)(x y:α)(r:List α):(l++x::r).set l.length y=l++y::r:=by simp
def setw {l:List Nat}{i:Nat}{z:Int}(n:Nat)(h:z=n):(l.map encw).set i (.val (.int .u32 z))=(l.set i n).map encw:=J9x encw l i n _ (by rw[h];rfl)
def putw {p e:Nat}{out r:List Nat}{x i j:Nat}{z:Int}(n:Nat)(h:z=n)(hi:i=out.length)(hj:j=i):some (p,(⟨e,1,((out++x::r).map encw).set j (.val (.int .u32 z))⟩:Blk))=some (p,⟨e,1,(out++[n]++r).map encw⟩):=by
 subst hj hi;rw[setw n h,J6y];simp
def repw (n:Nat):List.replicate n (mkEl { size:=1,bytes:=4,zero:=[Value.int .u32 0],kind:=Kd.int .u32 })=(List.replicate n 0).map encw:=by rw[Q2L];rfl
def J0G {P:Program}{f:Nat}{args args':List AV}{r:AV}(e:args=args')(h:PureCall P f args' r):PureCall P f args r:=e ▸ h
def J2c {S:List Nat}{H:Hp}{b g off len:Nat}{B:Blk}(hS:b∈S)(hb:H b=some (g,B))(hl:off+len≤B.xs.length):snap S H (.own b g off len)=.sl B.n (((B.xs.drop off).take len).map (J0U (J08 S H 2))):=by
 show J08 S H 3 (.own b g off len)=_
 simp only[J08,if_pos hS,hb,true_and,if_pos hl]
def ownW {b p e n:Nat}{H:Hp}{out:List Nat}(hb:H b=some (p,⟨e,1,out.map encw⟩))(hn:n=out.length):snap [b] H (.own b p 0 n)=J0Q out:=by
 rw[J2c (by simp) hb (by simp[hn]),J0S _ _ _ _ hn fun _=>rfl];rfl
def JKx (x y:Int):(if (!(decide (x<0)==decide (y<0)))=true then -((x.natAbs*y.natAbs:Nat):Int) else ((x.natAbs*y.natAbs:Nat):Int))=x*y:=by
 rw[Q0S]
 by_cases hx:x<0<;>by_cases hy:y<0
 ·rw[show (x.natAbs:Int)=-x by omega,show (y.natAbs:Int)=-y by omega];simp[hx,hy];grind
 ·rw[show (x.natAbs:Int)=-x by omega,show (y.natAbs:Int)=y by omega];simp[hx,hy];try grind
 ·rw[show (x.natAbs:Int)=x by omega,show (y.natAbs:Int)=-y by omega];simp[hx,hy];grind
 rw[show (x.natAbs:Int)=x by omega,show (y.natAbs:Int)=y by omega];simp[hx,hy];try grind
def hB9:1<B9:=by decide
def vrs2 {κ:KM}{w:World}{N:Nat→Prop}{a b:Value}{vs:Array Value}(h:VRs κ w N [.val a,.val b] vs):vs=#[a,b]:=by
 obtain ⟨hl,hv⟩:=h;obtain ⟨l⟩:=vs
 rcases l with _|⟨x,_|⟨y,_|⟨z,r⟩⟩⟩<;>simp at hl
 have h0:=hv 0 (by simp) (by simp);have h1:=hv 1 (by simp) (by simp);simp at h0 h1;cases h0;cases h1;rfl
def idxB (s:ByteArray)(c:UInt8):Int:=match (List.range s.size).find? fun i=>s[i]! == c with
 |some i=>i
 |none=>-1
def JP1 (s:ByteArray)(n:Nat)(h:n<256):J3Q Tryz.prog 381 [encS s,.val (.int .u8 n)] (.int .i64 (idxB s (UInt8.ofNat n))):=by
 refine ⟨rfl,fun κ w N vs hv=>?_⟩;rw[vrs2 hv];have h1:Tryz.prog.funcs[381]?=some Tryz.f381:=Tryz.func381;have h2:(Tryz.f381.name == "runtime.NumGoroutine")=false:=by kernel_rfl
 have h3:Tryz.f381.body.isNone=true:=by kernel_rfl
 have h4:Extern.findNext Tryz.f381=none:=by kernel_rfl
 have h5:Extern.find Tryz.f381=some Extern.BytealgIndexByte.indexByte:=by kernel_rfl
 simp only[callFunc,QA,run_program,QH,h1,h2,h3,h4,h5,run_mark,if_true,Qc,if_false]
 have e:(Extern.BytealgIndexByte.indexByte #[.string s,.int .u8 n]).run Tryz.prog w=.ok (.int .i64 (idxB s (UInt8.ofNat n))) w:=by
  change Sem.run Tryz.prog (do
   let b ← Extern.Bytes.bytesOf (.string s)
   let c ← Extern.Bytes.asByte (.int .u8 n)
   match (List.range b.size).find? fun i=>b[i]! == c with
   |some i=>pure (goInt i)
   |none=>pure (goInt (-1))) w=_
  simp only[Extern.Bytes.bytesOf,Extern.Bytes.asByte,QA,QX,QH,QV,idxB];rw[show n.toUInt8=UInt8.ofNat n from rfl];cases (List.range s.size).find? fun i=>s[i]! == UInt8.ofNat n<;>simp[goInt,QX]
 rw[e];rfl
def JP2 (a b:ByteArray):J3Q Tryz.prog 335 [encS a,encS b] (.int .i64 (Lib.compareBytes a.data.toList b.data.toList)):=by
 refine ⟨rfl,fun κ w N vs hv=>?_⟩;rw[vrs2 hv];have h1:Tryz.prog.funcs[335]?=some Tryz.f335:=Tryz.func335;have h2:(Tryz.f335.name == "runtime.NumGoroutine")=false:=by kernel_rfl
 have h3:Tryz.f335.body.isNone=true:=by kernel_rfl
 have h4:Extern.findNext Tryz.f335=none:=by kernel_rfl
 have h5:Extern.find Tryz.f335=some Extern.BytealgCompare.compare:=by kernel_rfl
 simp only[callFunc,QA,run_program,QH,h1,h2,h3,h4,h5,run_mark,if_true,Qc,if_false];rw[show (Extern.BytealgCompare.compare #[.string a,.string b]).run Tryz.prog w=_ from Lib.run_compareString a b w];rfl
noncomputable def eqL:List Nat:=[54]
def keyL:List Nat:=[9,54]
noncomputable def XR:XE where
 E:=E 0
 eqs:=fun t=>memB t eqL
 keys:=fun t=>memB t keyL
 arrs:=fun t n=>Nat.beq t 334&&Nat.beq n 9
 ext:=fun n args=>match n,args with
  |335,[.val (.string a),.val (.string b)]=>some (.int .i64 (Lib.compareBytes a.data.toList b.data.toList))
  |381,[.val (.string s),.val (.int .u8 (.ofNat c))]=>ifB (Nat.blt c 256) (some (.int .i64 (idxB s (UInt8.ofNat c))))
  |_,_=>none
def eqst54:EqSt Tryz.prog 54:=EqSt.of (by kernel_rfl) (by kernel_rfl) (by kernel_rfl)
def keyst54:KeySt Tryz.prog 54:=KeySt.of (by kernel_rfl) (by kernel_rfl)
def keyst9:KeySt Tryz.prog 9:=KeySt.of (by kernel_rfl) (by kernel_rfl)
def JPI:ArrP Tryz.prog 334 9:=⟨⟨5,by kernel_rfl,by kernel_rfl⟩⟩
def JAk:XOk XR where
 hT:=J3x
 eqs:=fun t h=>by
  have h:memB t eqL=true:=h;rw[J7L] at h;have:=Qh h;simp only[eqL,QO,QZ,or_false] at this;subst this;exact eqst54
 keys:=fun t h=>by
  have h:memB t keyL=true:=h;rw[J7L] at h;have:=Qh h;simp only[keyL,QO,QZ,or_false] at this
  rcases this with rfl|rfl
  ·exact keyst9
  exact keyst54
 arrs:=fun t n h=>by
  have h:(Nat.beq t 334&&Nat.beq n 9)=true:=h;simp only[Q5] at h;have e1:=Q7 h.1;have e2:=Q7 h.2;subst e1 e2;exact JPI
 ext := fun n args v h=>by
  simp only[XR] at h;split at h
  ·cases h;exact JP2 _ _
  ·obtain ⟨h1,h⟩:=J0K h;cases h;exact JP1 _ _ (QJ h1)
  cases h
 mixed:=by rfl
 news:=fun n args b off len e k xs h=>by cases h
def hasP (s p:ByteArray):Bool:=decide (p.size≤s.size)&&decide (s.extract 0 p.size=p)
def hasX (s p:ByteArray):Bool:=decide (p.size≤s.size)&&decide (s.extract (s.size-p.size) s.size=p)
def J5Q (s p:ByteArray)(hs:s.size<2^62)(hp:p.size<2^62):PX 293 [encS s,encS p] (encB (hasP s p)):=by
 refine PZ Tryz.func293 rfl ?_;generalize hF:hasP s p=F;unfold hasP at hF;refine kWO ?_;intros;refine CondP.dec (fun h=>?_) (fun h=>?_)<;>refine kW ?_
 ·rw[Q2 (by omega),QB] at hF;refine kO ?_;intros;exact .of (by rw[← hF];rfl)
 rw[Q1 (by omega),QD] at hF;refine kO ?_;intros;exact .of (by rw[← hF];rfl)
def JCh (s p:ByteArray)(hs:s.size<2^62)(hp:p.size<2^62):PX 201 [encS s,encS p] (encB (hasP s p)):=by
 refine PZ Tryz.func201 rfl ?_;refine kWS ?_;intros;refine CallP.flat [] _ c293 (J5Q s p hs hp) rfl ?_;refine kWS ?_;intros;exact .of rfl
def JCg (s p:ByteArray)(hs:s.size<2^62)(hp:p.size<2^62):PX 406 [encS s,encS p] (encB (hasX s p)):=by
 refine PZ Tryz.func406 rfl ?_;generalize hF:hasX s p=F;unfold hasX at hF;refine kWO ?_;intros;refine CondP.dec (fun h=>?_) (fun h=>?_)<;>refine kW ?_
 ·rw[Q2 (by omega),QB] at hF;rw[show s.size-p.size=((s.size:Int)-p.size).toNat by omega] at hF;refine kO ?_;intros;exact .of (by rw[← hF];rfl)
 rw[Q1 (by omega),QD] at hF;refine kO ?_;intros;exact .of (by rw[← hF];rfl)
def cutP (s p:ByteArray):ByteArray×Bool:=if hasP s p then (s.extract p.size s.size,true) else (s,false)
def JAv (s p:ByteArray)(hs:s.size<2^62)(hp:p.size<2^62):PX 351 [encS s,encS p] (.tup [encS (cutP s p).1,encB (cutP s p).2]):=by
 refine PZ Tryz.func351 rfl ?_;generalize hF:cutP s p=F;unfold cutP at hF;refine kWS ?_;intros;refine CallP.flat [] _ c293 (J5Q s p hs hp) rfl ?_;refine kWS ?_;intros;refine CondP.intro (fun h=>?_) (fun h=>?_)<;>refine kW ?_
 ·rw[h] at hF;have hle:p.size≤s.size:=by unfold hasP at h;simp at h;exact h.1
  refine kS ?_;intros;exact .of (by rw[← hF];rfl)
 rw[h] at hF;refine kS ?_;intros;exact .of (by rw[← hF];rfl)
def J6G (s p:ByteArray)(hs:s.size<2^62)(hp:p.size<2^62):PX 302 [encS s,encS p] (.tup [encS (cutP s p).1,encB (cutP s p).2]):=by
 refine PZ Tryz.func302 rfl ?_;refine kWS ?_;intros;refine J00 [] _ c351 (JAv s p hs hp) ?_;refine kWS ?_;intros;exact .of rfl
def J9q (s p:ByteArray):ByteArray:=if hasX s p then s.extract 0 (s.size-p.size) else s
def J8b (s p:ByteArray)(hs:s.size<2^62)(hp:p.size<2^62):PX 401 [encS s,encS p] (encS (J9q s p)):=by
 refine PZ Tryz.func401 rfl ?_;generalize hF:J9q s p=F;unfold J9q at hF;refine kWS ?_;intros;refine CallP.flat [] _ c406 (JCg s p hs hp) rfl ?_;refine kWS ?_;intros;refine CondP.intro (fun h=>?_) (fun h=>?_)<;>refine kW ?_
 ·rw[h] at hF;have hle:p.size≤s.size:=by unfold hasX at h;simp at h;exact h.1
  rw[show s.size-p.size=((s.size:Int)-p.size).toNat by omega] at hF;refine kS ?_;intros;exact .of (by rw[← hF];rfl)
 rw[h] at hF;refine kS ?_;intros;exact .of (by rw[← hF];rfl)
def JAn (s p:ByteArray)(hs:s.size<2^62)(hp:p.size<2^62):PX 391 [encS s,encS p] (encS (J9q s p)):=by
 refine PZ Tryz.func391 rfl ?_;refine kWS ?_;intros;refine CallP.flat [] _ c401 (J8b s p hs hp) rfl ?_;refine kWS ?_;intros;exact .of rfl
def J5P (s:ByteArray)(n:Nat)(h:n<256):PX 366 [encS s,.val (.int .u8 n)] (encI (idxB s (UInt8.ofNat n))):=by
 refine PZ Tryz.func366 rfl ?_;refine kWS ?_;intros;refine CallP.ext _ (JP1 s n h) ?_;refine kWS ?_;intros;exact .of rfl
def J6F (s:ByteArray)(n:Nat)(h:n<256):PX 322 [encS s,.val (.int .u8 n)] (encI (idxB s (UInt8.ofNat n))):=by
 refine PZ Tryz.func322 rfl ?_;refine kWS ?_;intros;refine CallP.flat [] _ c366 (J5P s n h) rfl ?_;refine kWS ?_;intros;exact .of rfl
def b1 (c:UInt8):ByteArray:=⟨#[c]⟩
def JIE (c:UInt8):idxB (b1 c) c=0:=by
 unfold idxB
 have:(List.range (b1 c).size).find? (fun i=>(b1 c)[i]! == c)=some 0:=by
  show List.find? _ [0]=_
  have:((b1 c)[0]! == c)=true:=by rw[show (b1 c)[0]! = c from rfl];exact Q0v c
  exact List.find?_cons_of_pos (p:=fun i=>(b1 c)[i]! == c) this
 rw[this];rfl
def JFC (s:ByteArray)(c:UInt8):PX 350 [encS s,encS (b1 c)] (encI (idxB s c)):=by
 refine PZ Tryz.func350 rfl ?_;have hb:(b1 c).size=1:=rfl;have hc:byteAt (b1 c) (Int.toNat 0)=(c.toNat:Int):=rfl;refine kWS ?_;intros;refine CondP.dec (fun h=>?_) (fun h=>?_)<;>refine kW ?_
 ·refine kS ?_;intros;refine .of ?_;rw[← h,JIE];rfl
 refine kS ?_;intros;rw[hc];refine CallP.flat [] _ c366 (J5P s c.toNat c.toNat_lt) rfl ?_;rw[Q2w];refine kWS ?_;intros;exact .of rfl
def cutB (s:ByteArray)(c:UInt8):ByteArray×ByteArray×Bool:=if 0≤idxB s c then (s.extract 0 (idxB s c).toNat,s.extract ((idxB s c).toNat+1) s.size,true) else (s,⟨#[]⟩,false)
def JIF {s:ByteArray}{c:UInt8}:idxB s c<s.size:=by
 unfold idxB;split
 ·rename_i i h;have:=Q2B h;rw[Q24] at this;omega
 omega
def JOQ (s:ByteArray)(c:UInt8)(hs:s.size<2^62):PX 301 [encS s,encS (b1 c)] (.tup [encS (cutB s c).1,encS (cutB s c).2.1,encB (cutB s c).2.2]):=by
 refine PZ Tryz.func301 rfl ?_;have hb:(b1 c).size=1:=rfl;have hl:=@JIF s c;generalize hF:cutB s c=F;unfold cutB at hF;refine kWS ?_;intros;refine CallP.flat [] _ c350 (JFC s c) rfl ?_;generalize idxB s c=i at *;refine kWS ?_;intros;refine CondP.dec (fun h=>?_) (fun h=>?_)<;>refine kW ?_
 ·rw[if_pos h] at hF;simp only[hb,show (i+((1:Nat):Int)).toNat=i.toNat+1 by omega];refine kS ?_;intros;simp only[hb,show (i+((1:Nat):Int)).toNat=i.toNat+1 by omega];exact .of (by rw[← hF];rfl)
 rw[if_neg h] at hF;refine kS ?_;intros;exact .of (by rw[← hF];rfl)
def JPM (s:ByteArray)(c:UInt8)(hs:s.size<2^62):PX 214 [encS s,encS (b1 c)] (.tup [encS (cutB s c).1,encS (cutB s c).2.1,encB (cutB s c).2.2]):=by
 refine PZ Tryz.func214 rfl ?_;refine kWS ?_;intros;refine J00 [] _ c301 (JOQ s c hs) ?_;refine kWS ?_;intros;exact .of rfl
def tenS:ByteArray:=⟨#[48,49,50,51,52,53,54,55,56,57]⟩
def isD (n:Nat):Bool:=Nat.ble 48 n&&Nat.ble n 57
def digs:List Bool:=(List.range 256).map isD
def JFw:PX 354 [encS tenS] (.tup [.agg (digs.map encB),encB true]):=by
 exact J1f JAk (fuel:=200) (n:=5) (by kernel_rfl)
def J85 (n:Nat)(h:n<256):PX 376 [.ep (.agg (digs.map encB)) 0,.val (.int .u8 n)] (encB (isD n)):=by
 refine PZ Tryz.func376 rfl ?_;refine kWS ?_;intros
 have e:(AV.agg (List.map encB digs)).cells[0+(n:Int).toNat*1]?=some (encB (isD n)):=by
  have:(0+(n:Int).toNat*1)=n:=by omega
  rw[this];show (List.map encB digs)[n]?=_
  rw[Ql,digs,Ql,Q1l h];rfl
 rw[e];refine kWS ?_;intros;exact .of rfl
def J1d:List UInt8→List UInt8
 |[]=>[]
 |c::l=>if isD c.toNat then J1d l else c::l
def ofL (l:List UInt8):ByteArray:=⟨⟨l⟩⟩
def J09 (l:List UInt8)(a b:Nat):(ofL l).extract a b=ofL ((l.take b).drop a):=by
 apply Q1j;rw[ByteArray.data_extract];apply Q0P;simp[ofL,Array.toList_extract,List.extract_eq_take_drop,List.drop_take]
def J04 (l:List UInt8):(ofL l).size=l.length:=rfl
def J12 (s:ByteArray):ofL s.data.toList=s:=rfl
def JD0 (l:List UInt8)(hl:l.length<2^62):PX 355 [encS (ofL l),.ep (.agg (digs.map encB)) 0] (encS (ofL (J1d l))):=by
 refine PZ Tryz.func355 rfl ?_;refine kWS ?_;intros;refine LoopP.intro (fun k σ H=>∃ m:List UInt8,k=m.length∧m.length<2^62∧J1d m=J1d l∧σ=fr [(0,encS (ofL m)),(1,.ep (.agg (digs.map encB)) 0)]∧H=hp []) ?_ ?_
 ·exact .intro <| W.of ⟨_,l,rfl,hl,rfl,rfl,rfl⟩ ⟨rfl,rfl,trivial⟩ trivial
 rintro k σ H ⟨m,rfl,hm,hml,rfl,rfl⟩;have hsz:(ofL m).size=m.length:=rfl;refine kWS ?_;intros;rw[hsz];refine CondP.dec (fun h=>?_) (fun h=>?_)<;>refine kW ?_
 ·cases m with
  |nil=>simp at h
  |cons c m=>
    have hb:byteAt (ofL (c::m)) (Int.toNat 0)=(c.toNat:Int):=rfl;refine kS ?_;intros;rw[hb];refine CallP.flat [] _ c376 (J85 c.toNat c.toNat_lt) rfl ?_;refine kWS ?_;intros;rw[show J1d (c::m)=if isD c.toNat then J1d m else c::m from rfl] at hml;refine CondP.intro (fun h1=>?_) (fun h1=>?_)<;>refine kW ?_
    ·rw[if_pos h1] at hml;refine kS ?_;intros
     refine .intro <| W.of ⟨m.length,by simp,m,rfl,by simp at hm;omega,hml,rfl,rfl⟩ ⟨?_,rfl,trivial⟩ trivial
     show encS _=encS _
     rw[J09];congr 2;simp[J04]
    rw[if_neg (by rw[h1];decide)] at hml;refine kS ?_;intros;exact .of (by rw[← hml];rfl)
 refine kS ?_;intros;refine .of ?_
 cases m with
 |nil=>rw[← hml];rfl
 |cons c m=>simp at h
def J35 (l:List UInt8):List UInt8:=(J1d l.reverse).reverse
def J6s (l:List UInt8)(c:UInt8):J35 (l++[c])=if isD c.toNat then J35 l else l++[c]:=by
 unfold J35;rw[Q2j];show (if isD c.toNat then J1d l.reverse else c::l.reverse).reverse=_
 split<;>simp
def J8p (l:List UInt8):l=[]∨∃ m c,l=m++[c]:=by
 rcases Q3P l with h|⟨m,c,h⟩
 ·exact .inl h
 exact .inr ⟨m,c,by simpa using h⟩
def JB5 (l:List UInt8)(hl:l.length<2^62):PX 356 [encS (ofL l),.ep (.agg (digs.map encB)) 0] (encS (ofL (J35 l))):=by
 refine PZ Tryz.func356 rfl ?_;refine kWS ?_;intros;refine LoopP.intro (fun k σ H=>∃ m:List UInt8,k=m.length∧m.length<2^62∧J35 m=J35 l∧σ=fr [(0,encS (ofL m)),(1,.ep (.agg (digs.map encB)) 0)]∧H=hp []) ?_ ?_
 ·exact .intro <| W.of ⟨_,l,rfl,hl,rfl,rfl,rfl⟩ ⟨rfl,rfl,trivial⟩ trivial
 rintro k σ H ⟨m,rfl,hm,hml,rfl,rfl⟩;have hsz:(ofL m).size=m.length:=rfl;refine kWS ?_;intros;rw[hsz];refine CondP.dec (fun h=>?_) (fun h=>?_)<;>refine kW ?_
 ·rcases J8p m with rfl | ⟨m,c,rfl⟩
  ·simp at h
  have hL:(m++[c]).length=m.length+1:=by simp
  have e1:(((ofL (m++[c])).size:Int)-1).toNat=m.length:=by rw[hsz,hL];omega
  have hb:byteAt (ofL (m++[c])) m.length=(c.toNat:Int):=by
   unfold byteAt;rw[dif_pos (by rw[hsz,hL];omega)]
   have:(ofL (m++[c]))[m.length]'(by rw[hsz,hL];omega)=c:=by
    show (m++[c])[m.length]'(by rw[hL];omega)=c
    simp
   rw[this]
  refine kS ?_;intros;simp only[e1];refine kS ?_;intros;rw[hb];refine CallP.flat [] _ c376 (J85 c.toNat c.toNat_lt) rfl ?_;refine kWS ?_;intros;rw[J6s] at hml;refine CondP.intro (fun h1=>?_) (fun h1=>?_)<;>refine kW ?_
  ·rw[if_pos h1] at hml;refine kS ?_;intros;simp only[e1];refine kS ?_;intros
   refine .intro <| W.of ⟨m.length,by rw[hL];omega,m,rfl,by rw[hL] at hm;omega,hml,rfl,rfl⟩ ⟨?_,rfl,trivial⟩ trivial
   show encS _=encS _
   rw[J09];congr 2;simp
  rw[if_neg (by rw[h1];decide)] at hml;refine kS ?_;intros;exact .of (by rw[← hml];rfl)
 refine kS ?_;intros;refine .of ?_
 cases m with
 |nil=>rw[← hml];rfl
 |cons c m=>simp at h
def JKh {b g k:Nat}{H:Hp}{e n:Nat}{x:AV}(hb:H b=some (g,⟨e,n,[x]⟩)):J08 [b] H 3 (.op b g 0 k)=.ep (J0U (J08 [b] H 2) x) k:=by
 simp only[J08,if_pos (Q12.2 rfl:b∈[b]),hb,true_and,if_pos (show 0<[x].length from Nat.one_pos)];rfl
def JKX (l:List UInt8):List UInt8:=J1d (J35 l)
def J8i (l:List UInt8):J1d l=[]↔∀ c∈l,isD c.toNat=true:=by
 induction l with
 |nil=>simp[J1d]
 |cons c l ih=>
   rw[show J1d (c::l)=if isD c.toNat then J1d l else c::l from rfl];split<;>simp_all
def JHA (l:List UInt8):JKX l=[]↔∀ c∈l,isD c.toNat=true:=by
 unfold JKX;rw[J8i];constructor
 ·intro h
  induction hn:l.length generalizing l with
  |zero=>rw[Qu.1 hn];simp
  |succ n ih=>
    rcases J8p l with rfl|⟨m,c,rfl⟩
    ·simp
    rw[J6s] at h;split at h
    ·rename_i hc;have:=ih m h (by simpa using hn);intro x hx
     rcases Q0z.1 hx with hx|hx
     ·exact this x hx
     simp at hx;rw[hx];exact hc
    exact h
 intro h
 have:J35 l=[]:=by
  unfold J35;rw[(J8i _).2 (by simpa using h)];rfl
 rw[this];simp
def JOE (l:List UInt8)(hl:l.length<2^62):PX 303 [encS (ofL l),encS tenS] (encS (ofL (JKX l))):=by
 refine PZ Tryz.func303 rfl ?_;have ht:tenS.size=10:=rfl;have ht2:¬ tenS=⟨#[]⟩:=by intro h;rw[h] at ht;cases ht
 have hlr:(J35 l).length≤l.length:=by
  have:∀ m:List UInt8,(J1d m).length≤m.length:=by
   intro m
   induction m with
   |nil=>simp[J1d]
   |cons c m ih=>
     rw[show J1d (c::m)=if isD c.toNat then J1d m else c::m from rfl];split<;>simp<;>omega
  unfold J35;have:=this l.reverse
  simpa using this
 (refine kWS ?_;repeat intro γ);refine CondP.dec (fun h=>?_) (fun h=>?_)<;>refine kW ?_
 ·(refine kS ?_;repeat intro γ);refine .of ?_
  have:l=[]:=by
   cases l with
   |nil=>rfl
   |cons c l=>have:=QC ByteArray.size h;simp[J04] at this;cases this
  rw[this];rfl
 (refine kS ?_;repeat intro γ);refine J00 [] _ c354 JFw ?_;refine kX ?_;(refine kZ ?_;repeat intro γ);refine J0b (JLo 5 5 (x:=.op 5 γ 0 0) (y:=.ep (.agg (digs.map encB)) 0) rfl ((JKh rfl).trans ?_) (W.of (l:=[(0,encS (ofL l)),(1,encS tenS),(4,encS ⟨#[]⟩),(5,.ep (.agg (digs.map encB)) 0),(6,encB true)]) (m:=[]) ?_ ⟨rfl,rfl,rfl,rfl,rfl,trivial⟩ trivial))
 ·exact QC (fun z=>AV.ep (.agg z) 0) (by kernel_rfl:_=digs.map encB)
 refine kWS ?_;intros;refine J00 [] _ c356 (JB5 l hl) ?_;refine kWS ?_;intros;refine J00 [] _ c355 (JD0 _ (by omega)) ?_;refine kWS ?_;intros;exact .of rfl
def snoc {α:Type}(l:List α):l=[]∨∃ r d,l=r++[d]:=by
 rcases Q3P l with h|⟨r,d,h⟩
 ·exact .inl h
 exact .inr ⟨r,d,by rw[h,List.concat_eq_append]⟩
def J2e (ws:List Nat)(hl:ws.length<2^62):PX 314 [J0Q ws] (J0Q (trimF ws)):=by
 refine PZ Tryz.func314 rfl ?_;refine kWS ?_;intros;refine LoopP.intro (fun n σ H=>∃ l:List Nat,n=l.length∧l.length≤ws.length∧trimF l=trimF ws∧σ=fr [(0,J0Q l)]∧H=hp []) ?_ ?_
 ·exact .intro <| W.of ⟨_,ws,rfl,QM _,rfl,rfl,rfl⟩ ⟨rfl,trivial⟩ trivial
 rintro n σ H ⟨l,rfl,hle,ht,rfl,rfl⟩
 rcases snoc l with rfl|⟨r,d,rfl⟩
 ·refine kWS ?_;intros;exact .of (by rw[← ht];rfl)
 have hr:r.length<ws.length:=by simp at hle;omega
 refine kWS ?_;intros;refine CondP.dec (fun h=>?_) (fun h=>?_)<;>refine kW ?_
 case' refine_2=>exact (h (by simp)).elim
 refine kS ?_;intros;have e1:((((r++[d]).map encw).length:Int)-1).toNat=r.length:=by simp
 have e2:((r++[d]).map encw).getD r.length .dead=encw d:=by simp
 simp only[e1,e2];refine kWS ?_;intros;rw[J8k] at ht;refine CondP.dec (fun h=>?_) (fun h=>?_)<;>refine kW ?_
 ·have hd:d=0:=by omega
  rw[if_pos hd] at ht;refine kS ?_;intros
  refine .intro <| W.of ⟨_,by simp,r,rfl,by omega,ht,rfl,rfl⟩ ⟨?_,trivial⟩ trivial
  show AV.sl 1 _=AV.sl 1 _
  simp
 have hd:¬ d=0:=by omega
 rw[if_neg hd] at ht;refine kS ?_;intros;exact .of (by rw[← ht];rfl)
def JHU (ws:List Nat)(m:Bool)(hl:ws.length<2^62):PX 239 [J0Q ws,encB m] (.agg [encB (m&&decide (trimF ws≠[])),J0Q (trimF ws)]):=by
 refine PC [4] Tryz.func239 rfl (by rfl) rfl ?_;refine kWS ?_;intros;refine J00 [] _ c314 (J2e ws hl) ?_;generalize trimF ws=l;cases m
 ·refine kWS ?_;intros;exact .of rfl
 refine kWS ?_;intros;refine .of ?_
 cases l with
 |nil=>rfl
 |cons a b=>rw[show decide (a::b≠[])=true from by simp];simp;rfl
def J3o (xs ys:List Nat)(hx:xs.length<2^62)(hy:ys.length<2^62)(dx:Dig B9 xs)(dy:Dig B9 ys):PX 241 [J0Q xs,J0Q ys] (encI (cmpW xs ys)):=by
 refine PZ Tryz.func241 rfl ?_;unfold cmpW;refine kWS ?_;intros;refine CondP.dec (fun h=>?_) (fun h=>?_)<;>refine kW ?_
 ·(have h2:=h;try simp only[LN] at h2)
  have hl:xs.length=ys.length:=by omega
  refine kS ?_;intros;rw[if_pos hl];refine LoopP.intro (fun n σ H=>∃ i:Nat,n=i∧i≤xs.length∧xs.drop i=ys.drop i∧σ=fr [(0,J0Q xs),(1,J0Q ys),(5,encI ((i:Int)-1))]∧H=hp []) ?_ ?_
  ·exact .intro <| W.of ⟨_,xs.length,rfl,QM _,by rw[Q0G (by omega),Q0G (by omega)],rfl,rfl⟩ ⟨rfl,rfl,by simp;rfl,trivial⟩ trivial
  rintro n σ H ⟨i,rfl,hi,he,rfl,rfl⟩;refine kWS ?_;intros;refine CondP.dec (fun h=>?_) (fun h=>?_)<;>refine kW ?_
  ·obtain ⟨i,rfl⟩:∃ k,n=k+1:=⟨n-1,by omega⟩;have e1:(((i+1:Nat):Int)-1)=i:=by omega
   simp only[e1];have h1:=g9 dx i (by omega);have h2:=g9 dy i (by omega);refine kR ?_;intros;refine CondP.dec (fun h=>?_) (fun h=>?_)<;>refine kW ?_
   ·refine kS ?_;intros
    refine .intro <| W.of ⟨_,by omega,i,rfl,by omega,?_,rfl,rfl⟩ ⟨rfl,rfl,rfl,trivial⟩ trivial
    rw[Q6 (by omega),Q6 (by omega:i<ys.length),he,show xs[i]=ys[i] from by omega]
   refine kR ?_;intros;refine .of ?_;rw[JJD xs ys i (by omega) (by omega) he (by omega)];rfl
  obtain rfl:n=0:=by omega
  simp only[Q0F] at he;subst he;refine kS ?_;intros;exact .of (by rw[JCH];rfl)
 (have h2:=h;try simp only[LN] at h2)
 refine kS ?_;intros;exact .of (by rw[if_neg (by omega)];simp only[Q3];rfl)
def JCI (xs:List Nat)(hl:xs.length≤2^40):HCall Tryz.prog 315 [J0Q xs] (hp []) (JCj 5 0 xs.length 285 1 (xs.map encw)):=by
 refine J2j (E:=E 0) J3x (JMY 0) Tryz.func315 rfl (by rfl) (QJ rfl) ?_;(refine kWS ?_;repeat intro γ);refine Need.intro ?_ ?_
 ·by_cases h:xs=[]
  ·right;subst h;refine kV ?_;refine CondP.tt ?_;refine kV ?_;refine JLb ?_;refine J24 2 5 285 1 rfl rfl fun γ=>?_;refine W.of (l:=[(2,.own 5 γ 0 0)]) (m:=[(5,γ,⟨285,1,[]⟩)]) ?_ ⟨rfl,trivial⟩ ⟨rfl,trivial⟩;(refine kWS ?_;repeat intro γ);exact EndH.of (m:=[(5,γ,⟨285,1,[]⟩)]) ⟨rfl,trivial⟩ ⟨γ,rfl,rfl⟩
  left
  simpa using h
 (refine kWS ?_;repeat intro γ);rename_i γ;refine EndH.of (m:=[(5,γ,⟨285,1,xs.map encw⟩)]) ⟨rfl,trivial⟩ ⟨γ,?_,rfl⟩;simp;rfl
def J7H (a b:List Nat):List Nat:=if a.length<b.length then addC B9 0 b a else addC B9 0 a b
def JBT (a b:List Nat):(J7H a b).length=max a.length b.length+1:=by
 unfold J7H;split<;>rw[JAh]<;>omega
def J7G {a b:List Nat}(ha:Dig B9 a)(hb:Dig B9 b):Dig B9 (J7H a b):=by
 unfold J7H;split
 ·exact J6h hB9 _ _ _ (by omega) hb ha
 exact J6h hB9 _ _ _ (by omega) ha hb
def JKz (a b:List Nat):vl B9 (J7H a b)=vl B9 a+vl B9 b:=by
 unfold J7H;split
 ·rw[JAg _ _ _ (by omega)];omega
 rw[JAg _ _ _ (by omega)];omega
def JHz (xs ys:List Nat)(hx:xs.length<2^40)(hy:ys.length<2^40)(dx:Dig B9 xs)(dy:Dig B9 ys):PX 240 [J0Q xs,J0Q ys] (J0Q (J7H xs ys)):=by
 refine PC [20] Tryz.func240 rfl (by rfl) rfl ?_;unfold J7H;refine kWS ?_;intros;refine CondP.dec (fun h=>?_) (fun h=>?_)<;>refine kW ?_
 case' refine_1=>
  (have h2:=h;try simp only[LN] at h2)
  refine kS ?_;intros;rw[if_pos (by omega)];have hle:xs.length≤ys.length:=by omega
  clear h h2
  revert hx hy dx dy hle
  generalize xs=b;generalize ys=a;intro hb ha db da hle
 case' refine_2=>
  (have h2:=h;try simp only[LN] at h2)
  refine kS ?_;intros;rw[if_neg (by omega)];have hle:ys.length≤xs.length:=by omega
  clear h h2
  revert hx hy dx dy hle
  generalize xs=a;generalize ys=b;intro ha hb da db hle
 all_goals
  simp only[Q3];generalize hR:addC B9 0 a b=R
  refine LoopP.intro (fun n σ H=>∃ p i c,∃ out:List Nat,i≤a.length∧n=a.length-i∧out.length=i∧c≤1∧out++addC B9 c (a.drop i) (b.drop i)=R ∧
   σ=fr [(1,J0Q b),(5,.own 20 p 0 i),(6,encw c),(21,J0Q a),(22,encI a.length),(23,encI i)]∧H=hp [(20,p,⟨285,1,out.map encw⟩)]) ?_ ?_
  ·exact .intro <| W.of ⟨_,_,0,0,[],QG _,rfl,rfl,by omega,hR,rfl,rfl⟩ ⟨rfl,rfl,rfl,rfl,rfl,rfl,trivial⟩ ⟨rfl,trivial⟩
  rintro n σ H ⟨p,i,c,out,hi,rfl,ho,hc,hR,rfl,rfl⟩;refine kWS ?_;intros;refine CondP.dec (fun h=>?_) (fun h=>?_)<;>refine kW ?_
  ·(have h2:=h;try simp only[LN] at h2)
   have hi':i<a.length:=by omega
   have h1:=g9 da i hi';refine kS ?_;intros
   (simp (disch:=omega) only [LG];refine kW ?_)
   refine kS ?_;intros;rw[Q6 hi'] at hR;refine CondP.dec (fun h=>?_) (fun h=>?_)<;>refine kW ?_
   ·(have h2:=h;try simp only[LN] at h2)
    have hib:i<b.length:=by omega
    have h2:=g9 db i hib;rw[Q6 hib,addC,Q1J] at hR;refine kR ?_;intros
    (simp (disch:=omega) only [TD])
    refine kR ?_;intros
    refine .intro <| W.of ⟨_,by omega,_,i+1,_,out++[_],hi',rfl,by simp[ho],?_,hR,rfl,rfl⟩ ⟨rfl,rfl,rfl,rfl,rfl,rfl,trivial⟩ ⟨?_,trivial⟩
    ·show (a[i]+c+b[i])/1000000000≤1;omega
    simp;rfl
   (have h2:=h;try simp only[LN] at h2)
   have hib:b.length≤i:=by omega
   rw[Q9 hib,addC,Q1J] at hR;refine kR ?_;intros
   (simp (disch:=omega) only [TD])
   refine kR ?_;intros
   refine .intro <| W.of ⟨_,by omega,_,i+1,_,out++[(a[i]+c)%B9],hi',rfl,by simp[ho],?_,?_,rfl,rfl⟩ ⟨rfl,rfl,rfl,rfl,rfl,rfl,trivial⟩ ⟨?_,trivial⟩
   rotate_left 1
   ·rw[Q9 (by omega:b.length≤i+1)];exact hR
   ·simp;rfl
   show (a[i]+c)/1000000000≤1;omega
  (have h2:=h;try simp only[LN] at h2)
  rw[Q9 (by omega:a.length≤i),addC] at hR;refine kR ?_;intros;subst hR;exact .of (endW (by simp;rfl) (by simp[ho]))
def J7R (xs ys:List Nat)(hx:xs.length<2^40)(hy:ys.length≤xs.length)(dx:Dig B9 xs)(dy:Dig B9 ys):PX 242 [J0Q xs,J0Q ys] (J0Q (subC B9 0 xs ys)):=by
 refine PC [10] Tryz.func242 rfl (by rfl) rfl ?_;generalize hR:subC B9 0 xs ys=R;refine kWS ?_;intros;refine CallP.frame 1000000 [(5,10)] rfl c315 (JCI xs (by omega)) rfl trivial ?_;rintro r0 h' ⟨δ,rfl,rfl⟩;refine ⟨[(10,δ,⟨285,1,xs.map encw⟩)],⟨J0X encw _ (fun _=>rfl) ..,trivial⟩,?_⟩;refine kWS ?_;intros;simp only[Q3]
 refine LoopP.intro (fun n σ H=>∃ p i c,∃ out:List Nat,i≤xs.length∧n=xs.length-i∧out.length=i∧c≤1∧out++subC B9 c (xs.drop i) (ys.drop i)=R ∧
  σ=fr [(1,J0Q ys),(5,.own 10 p 0 xs.length),(6,encI c),(12,encI xs.length),(13,encI i)]∧H=hp [(10,p,⟨285,1,(out++xs.drop i).map encw⟩)]) ?_ ?_
 ·exact .intro <| W.of ⟨_,_,0,0,[],QG _,rfl,rfl,by omega,hR,rfl,rfl⟩ ⟨rfl,rfl,rfl,rfl,rfl,trivial⟩ ⟨rfl,trivial⟩
 rintro n σ H ⟨p,i,c,out,hi,rfl,ho,hc,hR,rfl,rfl⟩;have hlen:((out++xs.drop i).map encw).length=xs.length:=by simp;omega
 refine kWS ?_;intros;refine CondP.dec (fun h=>?_) (fun h=>?_)<;>refine kW ?_
 ·have hi':i<xs.length:=by omega
  have h1:=g9 dx i hi'
  have hget:((out++xs.drop i).map encw).getD i .dead=encw xs[i]:=by
   rw[J0w _ _ _ (by simp;omega)];simp[Q0C,ho]
  rw[Q6 hi'] at hR hget hlen ⊢;refine kS ?_;intros;simp only[QV,Qq,hget];refine kWS ?_;intros;refine CondP.dec (fun h=>?_) (fun h=>?_)<;>refine kW ?_
  ·(have h2:=h;try simp only[LN] at h2)
   have hib:i<ys.length:=by omega
   have h2:=g9 dy i hib;rw[Q6 hib,subC,Q1J] at hR;refine kR ?_;intros;refine CondP.dec (fun h=>?_) (fun h=>?_)<;>refine kW ?_
   ·refine kR ?_;intros;simp only[hget];refine kWR ?_;intros;rw[if_pos (by omega),if_pos (by omega)] at hR
    refine .intro <| W.of ⟨_,by omega,_,i+1,1,out++[xs[i]+1000000000-(c+ys[i])],hi',rfl,by simp[ho],by omega,?_,rfl,rfl⟩ ⟨rfl,rfl,rfl,rfl,rfl,trivial⟩ ⟨putw _ (by omega) ho.symm (by omega),trivial⟩
    exact hR
   refine kR ?_;intros;simp only[hget];refine kWR ?_;intros;rw[if_neg (by omega),if_neg (by omega)] at hR
   refine .intro <| W.of ⟨_,by omega,_,i+1,0,out++[xs[i]-(c+ys[i])],hi',rfl,by simp[ho],by omega,?_,rfl,rfl⟩ ⟨rfl,rfl,rfl,rfl,rfl,trivial⟩ ⟨putw _ (by omega) ho.symm (by omega),trivial⟩
   exact hR
  (have h2:=h;try simp only[LN] at h2)
  have hib:ys.length≤i:=by omega
  rw[Q9 hib,subC,Q1J] at hR;refine kR ?_;intros;refine CondP.dec (fun h=>?_) (fun h=>?_)<;>refine kW ?_
  ·refine kR ?_;intros;simp only[hget];refine kWR ?_;intros;rw[if_pos (by omega),if_pos (by omega)] at hR
   refine .intro <| W.of ⟨_,by omega,_,i+1,1,out++[xs[i]+1000000000-c],hi',rfl,by simp[ho],by omega,?_,rfl,rfl⟩ ⟨rfl,rfl,rfl,rfl,rfl,trivial⟩ ⟨putw _ (by omega) ho.symm (by omega),trivial⟩
   rw[Q9 (by omega:ys.length≤i+1)];exact hR
  refine kR ?_;intros;simp only[hget];refine kWR ?_;intros;rw[if_neg (by omega),if_neg (by omega)] at hR
  refine .intro <| W.of ⟨_,by omega,_,i+1,0,out++[xs[i]-c],hi',rfl,by simp[ho],by omega,?_,rfl,rfl⟩ ⟨rfl,rfl,rfl,rfl,rfl,trivial⟩ ⟨putw _ (by omega) ho.symm (by omega),trivial⟩
  rw[Q9 (by omega:ys.length≤i+1)];exact hR
 (have h2:=h;try simp only[LN] at h2)
 refine kS ?_;intros;rw[Q9 (by omega:xs.length≤i)] at hR ⊢;simp only[subC,Q08] at hR ⊢;subst hR;exact .of (endW rfl (by omega))
def zl (z:Int):Nat:=(dg B9 z.natAbs).length
def J0a (z:Int):encZ z=.agg [.val (.bool (decide (z<0))),.sl 1 ((dg B9 z.natAbs).map encw)]:=rfl
def JMw {l:List Nat}(h:Dig B9 l):J0Q (trimF l)=encW (vl B9 l):=by rw[J1n hB9 h];rfl
def J0p (ws:List Nat)(m:Bool)(hl:ws.length<2^62)(hd:Dig B9 ws):PX 239 [J0Q ws,encB m] (encZ (if m then -(vl B9 ws:Int) else vl B9 ws)):=by
 have h:=JHU ws m hl
 have e:(AV.agg [encB (m&&decide (trimF ws≠[])),J0Q (trimF ws)])=encZ (if m then -(vl B9 ws:Int) else vl B9 ws):=by
  rw[JMw hd,J1n hB9 hd]
  have:decide (dg B9 (vl B9 ws)≠[])=decide (vl B9 ws≠0):=by
   refine QS.2 ?_;rw[ne_eq,ne_eq,J2A hB9]
  rw[this];unfold encZ;cases m
  ·simp only[QD,Qc,if_false,Q06];rw[Q1 (by omega)]
  simp only[QB,if_true,Q1q,Q06];rw[show decide (vl B9 ws≠0)=decide (-(vl B9 ws:Int)<0) from QS.2 (by omega)]
 rw[e] at h;exact h
def JF9 (z:Int)(hz:zl z<2^40):PX 222 [encZ z] (encZ (-z)):=by
 refine PZ Tryz.func222 rfl ?_;rw[J0a z];refine kWS ?_;intros;refine J00 [] _ c239 (J0p (dg B9 z.natAbs) (!decide (z<0)) (by unfold zl at hz;omega) (J0J hB9 _)) ?_;rw[J0v hB9];have e:(if (!decide (z<0))=true then -(z.natAbs:Int) else z.natAbs)=-z:=by split<;>simp_all<;>omega
 rw[e];refine kWS ?_;intros;exact .of rfl
def JFF (z:Int):PX 304 [encZ z] (encZ z.natAbs):=by
 refine PZ Tryz.func304 rfl ?_;rw[J0a z];refine kWS ?_;intros;refine .of ?_;rw[J0a,Q1 (by omega)];rfl
def JJU (z:Int):PX 288 [encZ z] (encB (decide (z=0))):=by
 refine PZ Tryz.func288 rfl ?_;rw[J0a z];refine kWS ?_;intros;refine .of ?_;show AV.val (.bool (decide _))=AV.val (.bool (decide _))
 congr 2
 refine QS.2 ?_;have:=J2A hB9 z.natAbs;rw[Q3];constructor
 ·intro h;have:=this.1 (Qu.1 (by omega));omega
 rintro rfl;simp[J0l]
def sgn (z:Int):Int:=if z=0 then 0 else if z<0 then -1 else 1
def JAp (z:Int):PX 193 [encZ z] (encI (sgn z)):=by
 refine PZ Tryz.func193 rfl ?_;unfold sgn;rw[J0a z];refine kWS ?_;intros;refine CallP.flat [] _ c288 (JJU z) rfl ?_;refine kWS ?_;intros;refine CondP.dec (fun h=>?_) (fun h=>?_)<;>refine kW ?_
 ·refine kS ?_;intros;exact .of (by rw[if_pos h];rfl)
 rw[if_neg h];refine kS ?_;intros;refine CondP.dec (fun h=>?_) (fun h=>?_)<;>refine kW ?_
 ·refine kS ?_;intros;exact .of (by rw[if_pos h];rfl)
 refine kS ?_;intros;exact .of (by rw[if_neg h];rfl)
def J6E (z:Int):PX 165 [encZ z] (encB (decide (z=1))):=by
 refine PZ Tryz.func165 rfl ?_;rw[J0a z];have hv:=J0v hB9 z.natAbs;have hg:=J0J hB9 z.natAbs
 by_cases hz:z<0
 ·rw[Q2 hz];refine kWS ?_;intros;exact .of (by rw[Q1 (by omega)];rfl)
 rw[Q1 hz]
 rcases hl:dg B9 z.natAbs with _|⟨d,_|⟨e,r⟩⟩
 ·rw[hl] at hv;refine kWS ?_;intros;exact .of (by rw[Q1 (by simp[vl] at hv;omega)];rfl)
 ·rw[hl] at hv;simp only[vl] at hv;refine kWS ?_;intros;refine .of ?_;show AV.val (.bool (decide _))=AV.val (.bool (decide _))
  congr 2
  exact QS.2 (by omega)
 refine kWS ?_;intros;refine .of ?_;rw[Q1];rfl;rintro rfl;rw[show (1:Int).natAbs=1 from rfl,J3z hB9 (by omega) (by decide)] at hl;simp at hl
def JAb {b:Nat}(hb:1<b)(m n:Nat):cmpW (dg b m) (dg b n)<0↔m<n:=by
 have:=JJB hb m n;omega
def JET (m n:Nat):vl B9 (J7H (dg B9 m) (dg B9 n))=m+n:=by rw[JKz,J0v hB9,J0v hB9]
def J5f {m n:Nat}(h:n≤m):vl B9 (subC B9 0 (dg B9 m) (dg B9 n))=m-n:=by
 have:=J5e hB9 (dg B9 m) (dg B9 n) 0 (by omega) (J0J hB9 m) (J0J hB9 n) (J0e hB9 h) (by rw[J0v hB9,J0v hB9];omega);rw[J0v hB9,J0v hB9] at this;omega
def JFE (x y:Int)(hx:zl x<2^39)(hy:zl y<2^39):PX 166 [encZ x,encZ y] (encZ (x+y)):=by
 refine PZ Tryz.func166 rfl ?_;unfold zl at hx hy;have dx:=J0J hB9 x.natAbs;have dy:=J0J hB9 y.natAbs;have lm:=JBT (dg B9 x.natAbs) (dg B9 y.natAbs);have vm:=JET x.natAbs y.natAbs;rw[J0a x,J0a y];cases hsx:decide (x<0)<;>cases hsy:decide (y<0)
 ·simp only[Qe] at hsx hsy;refine kWS ?_;intros;refine CallG.intro _ c240 (JHz _ _ (by omega) (by omega) dx dy) ?_;refine kWS ?_;intros;refine CallG.intro _ c239 (J0p (J7H (dg B9 x.natAbs) (dg B9 y.natAbs)) false (by omega) (J7G dx dy)) ?_;rw[vm];refine kWS ?_;intros;refine .of ?_;show encZ _=encZ _
  congr 1;simp only[if_true,Qc,if_false];omega
 ·simp only[Qa,Qe] at hsx hsy;refine kWS ?_;intros;refine CallP.flat [] _ c241 (J3o _ _ (by omega) (by omega) dx dy) rfl ?_;have hc:=JAb hB9 x.natAbs y.natAbs;refine kWS ?_;intros;refine CondP.dec (fun h=>?_) (fun h=>?_)<;>refine kW ?_
  ·have hle:y.natAbs≤x.natAbs:=by omega
   have hl:=J0e hB9 hle;refine kS ?_;intros;refine CallG.intro _ c242 (J7R _ _ (by omega) hl dx dy) ?_;refine kWS ?_;intros;refine CallG.intro _ c239 (J0p (subC B9 0 (dg B9 x.natAbs) (dg B9 y.natAbs)) false (by rw[J1o];omega) (J1p hB9 _ _ _ (by omega) dx dy)) ?_;rw[J5f hle];refine kWS ?_;intros;refine .of ?_;show encZ _=encZ _
   congr 1;simp only[if_true,Qc,if_false];omega
  have hle:x.natAbs≤y.natAbs:=by omega
  have hl:=J0e hB9 hle;refine kS ?_;intros;refine CallG.intro _ c242 (J7R _ _ (by omega) hl dy dx) ?_;refine kWS ?_;intros;refine CallG.intro _ c239 (J0p (subC B9 0 (dg B9 y.natAbs) (dg B9 x.natAbs)) true (by rw[J1o];omega) (J1p hB9 _ _ _ (by omega) dy dx)) ?_;rw[J5f hle];refine kWS ?_;intros;refine .of ?_;show encZ _=encZ _
  congr 1;simp only[if_true,Qc,if_false];omega
 ·simp only[Qa,Qe] at hsx hsy;refine kWS ?_;intros;refine CallP.flat [] _ c241 (J3o _ _ (by omega) (by omega) dx dy) rfl ?_;have hc:=JAb hB9 x.natAbs y.natAbs;refine kWS ?_;intros;refine CondP.dec (fun h=>?_) (fun h=>?_)<;>refine kW ?_
  ·have hle:y.natAbs≤x.natAbs:=by omega
   have hl:=J0e hB9 hle;refine kS ?_;intros;refine CallG.intro _ c242 (J7R _ _ (by omega) hl dx dy) ?_;refine kWS ?_;intros;refine CallG.intro _ c239 (J0p (subC B9 0 (dg B9 x.natAbs) (dg B9 y.natAbs)) true (by rw[J1o];omega) (J1p hB9 _ _ _ (by omega) dx dy)) ?_;rw[J5f hle];refine kWS ?_;intros;refine .of ?_;show encZ _=encZ _
   congr 1;simp only[if_true,Qc,if_false];omega
  have hle:x.natAbs≤y.natAbs:=by omega
  have hl:=J0e hB9 hle;refine kS ?_;intros;refine CallG.intro _ c242 (J7R _ _ (by omega) hl dy dx) ?_;refine kWS ?_;intros;refine CallG.intro _ c239 (J0p (subC B9 0 (dg B9 y.natAbs) (dg B9 x.natAbs)) false (by rw[J1o];omega) (J1p hB9 _ _ _ (by omega) dy dx)) ?_;rw[J5f hle];refine kWS ?_;intros;refine .of ?_;show encZ _=encZ _
  congr 1;simp only[if_true,Qc,if_false];omega
 simp only[Qa] at hsx hsy;refine kWS ?_;intros;refine CallG.intro _ c240 (JHz _ _ (by omega) (by omega) dx dy) ?_;refine kWS ?_;intros;refine CallG.intro _ c239 (J0p (J7H (dg B9 x.natAbs) (dg B9 y.natAbs)) true (by omega) (J7G dx dy)) ?_;rw[vm];refine kWS ?_;intros;refine .of ?_;show encZ _=encZ _
 congr 1;simp only[if_true,Qc,if_false];omega
def JM4 (x y:Int):zl (x+y)≤max (zl x) (zl y)+1:=by
 unfold zl;have h1:(x+y).natAbs≤x.natAbs+y.natAbs:=Int.natAbs_add_le x y;have h2:=J0e hB9 h1;have h3:=JET x.natAbs y.natAbs;have h4:=JC1 hB9 (J7G (J0J hB9 x.natAbs) (J0J hB9 y.natAbs));rw[h3,JBT] at h4;omega
def J8d (x:Int):zl (-x)=zl x:=by unfold zl;rw[Q1q]
def JJe (x y:Int)(hx:zl x<2^39)(hy:zl y<2^39):PX 305 [encZ x,encZ y] (encZ (x-y)):=by
 refine PZ Tryz.func305 rfl ?_;rw[J0a x,J0a y];refine kWS ?_;intros;refine CallG.intro _ c222 (JF9 y (by omega)) ?_;refine kWS ?_;intros;refine CallG.intro _ c166 (JFE x (-y) hx (by rw[J8d];exact hy)) ?_;rw[← Q2q];refine kWS ?_;intros;exact .of rfl
def JPN (x y:Int)(hx:zl x<2^39)(hy:zl y<2^39):PX 218 [encZ x,encZ y] (encI (sgn (x-y))):=by
 refine PZ Tryz.func218 rfl ?_;rw[J0a x,J0a y];refine kWS ?_;intros;refine J00 [] _ c305 (JJe x y hx hy) ?_;refine kWS ?_;intros;refine CallP.flat [] _ c193 (JAp (x-y)) rfl ?_;refine kWS ?_;intros;exact .of rfl
def JPF {x y o c:Nat}(hx:x<1000000000)(hy:y<1000000000)(ho:o<1000000000)(hc:c<1000000000):x*y+o+c<1000000000000000000∧(x*y+o+c)/1000000000<1000000000:=JF0 (b:=1000000000) hx hy ho hc rfl
def JHy {b i j V a y vt vt':Nat}(h:vt'=vt+y*b ^ j):V+a*vt*b ^ i+a*y*b ^ (i+j)=V+a*vt'*b ^ i:=by
 subst h;rw[Q1W];grind
def JNL {b i vx vx' a vy:Nat}(h:vx'=vx+a*b ^ i):vx*vy+a*vy*b ^ i=vx'*vy:=by subst h;grind
def JG3 (p g2 g3 g4:Nat)(out X Y:List Nat)(sx sy:Bool):List (Nat×Nat×Blk):=[(22,p,⟨285,1,out.map encw⟩),(2,g2,⟨102,2,[.agg [encB sx,J0Q X]]⟩),(3,g3,⟨102,2,[.agg [encB sy,J0Q Y]]⟩),(4,g4,⟨102,2,[.agg [encB false,.val (.slice none 0 0)]]⟩)]
def J5M (x y:Int)(hx:zl x<2^39)(hy:zl y<2^39):PX 168 [encZ x,encZ y] (encZ (x*y)):=by
 refine PC [22] Tryz.func168 rfl (by rfl) rfl ?_;unfold zl at hx hy;have dx:=J0J hB9 x.natAbs;have dy:=J0J hB9 y.natAbs;have vx:=J0v hB9 x.natAbs;have vy:=J0v hB9 y.natAbs;rw[J0a x,J0a y];generalize hX:dg B9 x.natAbs=X at hx dx vx;generalize hY:dg B9 y.natAbs=Y at hy dy vy;refine kWS ?_;intros;have e0:((((X.map encw).length:Int)+((Y.map encw).length:Int)+1).toNat)=X.length+Y.length+1:=by simp;omega
 simp only[e0,repw,Q3]
 refine LoopP.intro (fun n σ H=>∃ g2 g3 g4 p i,∃ out:List Nat,i≤X.length∧n=X.length-i∧out.length=X.length+Y.length+1∧Dig B9 out∧vl B9 out=vl B9 (X.take i)*vl B9 Y ∧
  σ=fr [(2,.op 2 g2 0 0),(3,.op 3 g3 0 0),(4,.op 4 g4 0 0),(5,.own 22 p 0 (X.length+Y.length+1)),(24,J0Q X),(25,encI X.length),(26,encI i)]∧H=hp (JG3 p g2 g3 g4 out X Y (decide (x<0)) (decide (y<0)))) ?_ ?_
 ·exact .intro <| W.of ⟨_,_,_,_,_,0,List.replicate (X.length+Y.length+1) 0,QG _,rfl,by simp,JAu (by decide) _,by rw[JDu];simp[vl],rfl,rfl⟩ ⟨rfl,rfl,rfl,rfl,rfl,rfl,rfl,trivial⟩ ⟨rfl,rfl,rfl,rfl,trivial⟩
 rintro n σ H ⟨g2,g3,g4,p,i,out,hi,rfl,hl,hd,hv,rfl,rfl⟩;unfold JG3;refine kWS ?_;intros;refine CondP.dec (fun h=>?_) (fun h=>?_)<;>refine kW ?_
 ·(have h2:=h;try simp only[LN] at h2)
  have hi':i<X.length:=by omega
  have hxi:=g9 dx i hi';have htk:=J9o (b:=B9) X i hi';refine kR ?_;intros;generalize X[i]=a at hxi htk;generalize hV:vl B9 (X.take i)*vl B9 Y=V at hv
  refine LoopP.intro (fun n σ H=>∃ g2 g3 g4 p j c,∃ out:List Nat,j≤Y.length∧n=Y.length-j∧out.length=X.length+Y.length+1∧Dig B9 out∧c<1000000000∧vl B9 out+c*B9 ^ (i+j)=V+a*vl B9 (Y.take j)*B9 ^ i ∧
   σ=fr [(2,.op 2 g2 0 0),(3,.op 3 g3 0 0),(4,.op 4 g4 0 0),(5,.own 22 p 0 (X.length+Y.length+1)),(24,J0Q X),(25,encI X.length),(26,encI i),(6,encI i),(7,encw a),(8,.val (.int .u64 c)),(32,J0Q Y),(33,encI Y.length),(34,encI j)]∧H=hp (JG3 p g2 g3 g4 out X Y (decide (x<0)) (decide (y<0)))) ?_ ?_
  ·exact .intro <| W.of ⟨_,_,_,_,_,0,0,out,QG _,rfl,hl,hd,by omega,by simp[vl,hv],rfl,rfl⟩ ⟨rfl,rfl,rfl,rfl,rfl,rfl,rfl,rfl,rfl,rfl,rfl,rfl,rfl,trivial⟩ ⟨rfl,rfl,rfl,rfl,trivial⟩
  clear hd hv hl g2 g3 g4 p out;rintro n σ H ⟨g2,g3,g4,p,j,c,out,hj,rfl,hl,hd,hc,hv,rfl,rfl⟩;unfold JG3;refine kWS ?_;intros;refine CondP.dec (fun h=>?_) (fun h=>?_)<;>refine kW ?_
  ·(have h2:=h;try simp only[LN] at h2)
   have hj':j<Y.length:=by omega
   have hyj:=g9 dy j hj';have htj:=J9o (b:=B9) Y j hj';have ho:=g9 hd (i+j) (by omega);have hs:=JPF hxi hyj ho hc;have hstep:=J6U (b:=B9) (s:=a*Y[j]+out[i+j]+c) (T:=a*Y[j]) (by omega) hv rfl;rw[JHy htj] at hstep;have e1:((i:Int)+(j:Int)).toNat=i+j:=by omega
   refine kR ?_;intros;have hm:(a:Int)*(Y[j]:Nat)=((a*Y[j]:Nat):Int):=(Q0S _ _).symm;generalize a*Y[j]=q at hm hs hstep;simp only[hm];refine kR ?_;intros;simp only[e1,Qq];refine kR ?_;intros;have hq:(q:Int)+(out[i+j]:Nat)+c=((q+out[i+j]+c:Nat):Int):=by omega
   generalize q+out[i+j]+c=s at hq hs hstep;simp only[hq,T9];refine kR ?_;intros;simp only[e1,Qq];rw[J0w encw out (i+j) (by omega)];refine kWR ?_;intros
   try simp only[T9]
   refine kR ?_;intros
   refine .intro <| W.of ⟨_,by omega,g2,g3,g4,_,j+1,s/1000000000,out.set (i+j) (s%1000000000),hj',rfl,by simp[hl],hd.set _ (Q0B _ (by decide)),hs.2,hstep,rfl,rfl⟩ ⟨rfl,rfl,rfl,rfl,rfl,rfl,rfl,rfl,rfl,rfl,rfl,rfl,rfl,trivial⟩ ⟨?_,rfl,rfl,rfl,trivial⟩
   rw[← setw (z:=((s%1000000000:Nat):Int)) _ rfl];rfl
  (have h2:=h;try simp only[LN] at h2)
  have hj2:j=Y.length:=by omega
  subst hj2;rw[Qi,← hV,JNL htk] at hv;refine kS ?_;intros;simp only[Q3]
  have hlt:vl B9 (X.take (i+1))*vl B9 Y<B9 ^ (i+1+Y.length):=by
   rcases JHo dx dy hi' with h|h|h
   ·exact h
   ·exact absurd h.2 (Nat.ne_of_gt (Q1V (by decide)))
   exact absurd h (by decide)
  clear hV;generalize hT:vl B9 (X.take (i+1))*vl B9 Y=T1 at hv hlt
  refine LoopP.intro (fun n σ H=>∃ g2 g3 g4 p k c,∃ out:List Nat,k≤i+1+Y.length∧n=i+2+Y.length-k∧out.length=X.length+Y.length+1∧Dig B9 out∧c<1000000000∧vl B9 out+c*B9 ^ k=T1 ∧
   σ=fr [(2,.op 2 g2 0 0),(3,.op 3 g3 0 0),(4,.op 4 g4 0 0),(5,.own 22 p 0 (X.length+Y.length+1)),(24,J0Q X),(25,encI X.length),(26,encI i),(8,.val (.int .u64 c)),(12,encI k)]∧H=hp (JG3 p g2 g3 g4 out X Y (decide (x<0)) (decide (y<0)))) ?_ ?_
  ·exact .intro <| W.of ⟨_,g2,g3,g4,p,i+Y.length,c,out,by omega,rfl,hl,hd,hc,hv,rfl,rfl⟩ ⟨rfl,rfl,rfl,rfl,rfl,rfl,rfl,rfl,rfl,trivial⟩ ⟨rfl,rfl,rfl,rfl,trivial⟩
  clear hd hv hl hc g2 g3 g4 p out;rintro n σ H ⟨g2,g3,g4,p,k,c,out,hk,rfl,hl,hd,hc,hv,rfl,rfl⟩;unfold JG3;refine kWS ?_;intros;refine CondP.dec (fun h=>?_) (fun h=>?_)<;>refine kW ?_
  ·have hk2:=JBO (b:=B9) (by decide) (show 0<c by omega) (by rw[← hv];exact Nat.le_add_left _ _:c*B9 ^ k≤T1) hlt;have ho:=g9 hd k (by omega);have hstep:=J6U (b:=B9) (s:=out[k]+c) (T:=0) (by omega) hv (by omega);have hq:((out[k]:Nat):Int)+c=((out[k]+c:Nat):Int):=by omega
   simp only[Q0Z,Q0O] at hstep;refine kR ?_;intros;generalize out[k]+c=s at hq hstep;simp only[hq,T9];refine kR ?_;intros;rw[Qq,QV,J0w encw out k (by omega)];refine kWR ?_;intros
   try simp only[T9]
   refine kR ?_;intros
   refine .intro <| W.of ⟨_,by omega,g2,g3,g4,_,k+1,s/1000000000,out.set k (s%1000000000),by omega,rfl,by simp[hl],hd.set _ (Q0B _ (by decide)),by omega,hstep,rfl,rfl⟩ ⟨rfl,rfl,rfl,rfl,rfl,rfl,rfl,rfl,rfl,trivial⟩ ⟨?_,rfl,rfl,rfl,trivial⟩
   rw[← setw (z:=((s%1000000000:Nat):Int)) _ rfl];rfl
  obtain rfl:c=0:=by omega
  simp only[Q0Z,Q0O] at hv;refine kS ?_;intros
  exact .intro <| W.of ⟨_,by omega,g2,g3,g4,p,i+1,out,hi',rfl,hl,hd,by rw[hT];exact hv,rfl,rfl⟩ ⟨rfl,rfl,rfl,rfl,rfl,rfl,rfl,trivial⟩ ⟨rfl,rfl,rfl,rfl,trivial⟩
 (have h2:=h;try simp only[LN] at h2)
 refine kS ?_;intros;rw[show i=X.length from by omega,Qi,vx,vy] at hv;refine J00 [22] _ c239 (J0G ?_ (J0p out (!(decide (x<0)==decide (y<0))) (by omega) hd)) ?_
 ·show [snap _ _ (.own 22 p 0 _),snap _ _ (.val (.bool _))]=_
  rw[ownW rfl hl.symm];rfl
 rw[hv];refine kWS ?_;intros;refine .of ?_;show encZ _=encZ _
 congr 1
 exact JKx x y
def smallF (y:Nat):List Nat→List Nat
 |[]=>[]
 |d::r=>(vl B9 r%y*B9+d)/y::smallF y r
def J2J (y:Nat)(l:List Nat):(smallF y l).length=l.length:=by induction l<;>simp[smallF, *]
theorem J6w {y:Nat}(hy:0<y):∀ {l:List Nat},Dig B9 l→vl B9 (smallF y l)=vl B9 l/y∧Dig B9 (smallF y l)
 |[],_=>⟨by simp[smallF,vl],Dig.nil⟩
 |d::r,h=>by
   obtain ⟨ih,id⟩:=J6w hy h.tl;obtain ⟨h1,h2,h3⟩:=JFa (b:=B9) (by_:=y) (r:=vl B9 r%y) (d:=d) (Q:=vl B9 r/y) (R:=vl B9 r) (by rw[Q3s];exact (Q0s _ _).symm) (Q0B _ hy) h.hd;refine ⟨?_,Dig.cons h2 id⟩;simp only[smallF,vl,ih];rw[h1,Q3s (y*_),Q1f _ _ hy,Q0X h3,Qq]
def JHR {y:Nat}(hy:0<y){d:Nat}{r:List Nat}:(vl B9 r%y*B9+d)%y=vl B9 (d::r)%y:=by
 have h1:=Q0s (vl B9 r) y
 have:vl B9 (d::r)=(vl B9 r%y*B9+d)+y*(vl B9 r/y*B9):=by
  simp only[vl];have e:B9*(vl B9 r%y+y*(vl B9 r/y))=B9*vl B9 r:=by rw[h1]
  grind
 rw[this,Q0k]
def JE7 (l:List Nat)(y:Nat)(hl:l.length<2^39)(hd:Dig B9 l)(hy:0<y)(hy2:y<1000000000):PX 316 [J0Q l,encw y] (.tup [J0Q (smallF y l),encw (vl B9 l%y)]):=by
 refine PC [12] Tryz.func316 rfl (by rfl) rfl ?_;refine kWS ?_;intros;simp only[QV,Q3,repw]
 refine LoopP.intro (fun n σ H=>∃ p i,i≤l.length∧n=i ∧
  σ=fr [(0,J0Q l),(1,encw y),(6,.own 12 p 0 l.length),(7,.val (.int .u64 (vl B9 (l.drop i)%y:Nat))),(8,encI ((i:Int)-1))]∧H=hp [(12,p,⟨285,1,(List.replicate i 0++smallF y (l.drop i)).map encw⟩)]) ?_ ?_
 ·refine .intro <| W.of ⟨_,_,l.length,QM _,rfl,rfl,rfl⟩ ⟨rfl,rfl,rfl,?_,rfl,trivial⟩ ⟨?_,trivial⟩
  ·rw[Q0G (QM _)];simp[vl];rfl
  rw[Q0G (QM _)];simp[smallF];rfl
 rintro n σ H ⟨p,i,hi,rfl,rfl,rfl⟩;refine kWS ?_;intros;refine CondP.dec (fun h=>?_) (fun h=>?_)<;>refine kW ?_
 ·obtain ⟨i,rfl⟩:∃ k,n=k+1:=⟨n-1,by omega⟩;have e1:(((i+1:Nat):Int)-1)=i:=by omega
  simp only[e1];have hi':i<l.length:=by omega
  have hli:=g9 hd i hi';have hr:=Q0B (vl B9 (l.drop (i+1))) hy;have hm:=JHR (y:=y) hy (d:=l[i]) (r:=l.drop (i+1));rw[← Q6 hi'] at hm;have hdr:smallF y (l.drop i)=(vl B9 (l.drop (i+1))%y*B9+l[i])/y::smallF y (l.drop (i+1)):=by rw[Q6 hi'];rfl
  have hlen:(List.replicate (i+1) 0++smallF y (l.drop (i+1))).length=l.length:=by simp[J2J];omega
  generalize hq:vl B9 (l.drop (i+1))%y=r at hr hm hdr
  have h9:(r*B9+l[i])/y<1000000000:=by
   refine Q03 ?_;have:=Qf 1000000000 (show r+1≤y from hr);show r*1000000000+l[i]<y*1000000000
   omega
  refine kR ?_;intros;have hs:(r:Int)*1000000000+(l[i]:Nat)=((r*1000000000+l[i]:Nat):Int):=by omega
  change (r*1000000000+l[i])%y=_ at hm
  change smallF y (l.drop i)=(r*1000000000+l[i])/y::_ at hdr
  change (r*1000000000+l[i])/y<_ at h9
  have hs2:r*1000000000+l[i]<1000000000000000000:=by omega
  generalize r*1000000000+l[i]=s at hs hm hdr h9 hs2;simp only[hs];refine kR ?_;intros;simp only[TN];generalize s/y=d at h9 hdr ⊢;refine kR ?_;intros
  refine .intro <| W.of ⟨_,by omega,_,i,by omega,rfl,rfl,rfl⟩ ⟨rfl,rfl,rfl,?_,rfl,trivial⟩ ⟨?_,trivial⟩
  ·rw[← hm];rfl
  rw[hdr,Q27,Qo,Q1J];exact putw _ rfl (Q1H ..).symm rfl
 obtain rfl:n=0:=by omega
 rw[Q0F];have hr:=Q0B (vl B9 l) hy;have hsl:=J2J y l;generalize vl B9 l%y=r at hr ⊢;refine kS ?_;intros;refine .of ?_;show AV.tup [AV.sl 1 _,_]=AV.tup [_,_]
 rw[endW rfl (by simp[J2J])];rfl
def J9r (n y:Nat)(hn:(dg B9 n).length<2^38)(hy:y<1000000000):PX 362 [encW n,encw y] (encW (n*y)):=by
 refine PZ Tryz.func362 rfl ?_;unfold encW;have hdy:Dig B9 [y]:=Dig.cons hy Dig.nil;have ey:trimF [y]=dg B9 y:=by rw[J1n hB9 hdy];simp[vl]
 have ly:(dg B9 y).length≤1:=J0F hB9 (by simpa using hy);refine kWS ?_;intros;refine J00 [8] _ c314 (J0G ?_ (J2e [y] (by simp))) ?_
 ·exact QC (fun z=>[z]) (ownW (out:=[y]) (n:=1) rfl rfl)
 rw[ey];refine kWS ?_;intros;refine J00 [] _ c168 (J0G ?_ (J5M n y (by unfold zl;simp;omega) (by unfold zl;simp;omega))) ?_
 ·have e1:encZ n=.agg [encB false,J0Q (dg B9 n)]:=by rw[J0a,Q1 (by omega)];rfl
  have e2:encZ y=.agg [encB false,J0Q (dg B9 y)]:=by rw[J0a,Q1 (by omega)];rfl
  rw[e1,e2];rfl
 refine kWS ?_;intros;refine .of ?_;rw[show ((n:Int)*y).natAbs=n*y by rw[← Q0S];rfl];rfl
def guessF (p y:List Nat):Nat:=
 if p.length<y.length then 0
 else min ((p.getD (y.length-1) 0+p.getD y.length 0*B9)/y.getD (y.length-1) 0) (B9-1)
def JLD (p y:List Nat):guessF p y<B9:=by
 unfold guessF;split
 ·decide
 have:B9-1<B9:=by decide
 omega
def JIM {p y n:Nat}(h:p<y*B9)(hn:(dg B9 y).length=n+1):p/y≤guessF (dg B9 p) (dg B9 y):=by
 unfold guessF;split
 ·rename_i hl;rw[Q0X (J54 hB9 hl)];exact QG _
 rename_i hl;have hq:p/y<B9:=Q03 h;rw[hn] at hl ⊢;exact Nat.le_min.2 ⟨JIN hB9 h hn hl,Nat.le_sub_one_of_lt hq⟩
def JLC (P Y:List Nat)(hp:P.length<2^39)(hy:Y.length<2^39)(dp:Dig B9 P)(dy:Dig B9 Y)(h0:0<Y.length)(ht:Y.getD (Y.length-1) 0≠0):PX 363 [J0Q P,J0Q Y] (encw (guessF P Y)):=by
 refine PZ Tryz.func363 rfl ?_;unfold guessF;obtain ⟨n,hn⟩:∃ n,Y.length=n+1:=⟨Y.length-1,by omega⟩;refine kWS ?_;intros;refine CondP.dec (fun h=>?_) (fun h=>?_)<;>refine kW ?_
 ·(have h2:=h;try simp only[LN] at h2)
  refine kS ?_;intros;exact .of (by rw[if_pos (by omega)];rfl)
 (have h2:=h;try simp only[LN] at h2)
 refine kS ?_;intros;rw[if_neg (by omega)];simp only[hn,Q11] at ht ⊢;have e1:((((Y.map encw).length:Nat):Int)-1).toNat=n:=by simp[hn]
 have h1:=g9 dp n (by omega);have h2:=g9 dy n (by omega);simp only[e1];refine kR ?_;intros;have h3:Y[n]=Y.getD n 0:=J0g (by omega);have h4:P[n]=P.getD n 0:=J0g (by omega);have e3:((Y.length:Int)-1).toNat=n:=by omega
 have hy0:0<Y[n]:=by omega
 have fin:∀ s d:Nat,s/Y[n]=d→AV.val (.int .u32 (min (d:Int) 999999999))=encw (min (s/Y.getD n 0) (B9-1)):=fun s d e=>by
  rw[← h3,e];show AV.val (.int .u32 (min (d:Int) 999999999))=AV.val (.int .u32 ((min d 999999999:Nat):Int))
  congr 2;omega
 refine CondP.dec (fun h=>?_) (fun h=>?_)<;>refine kW ?_
 ·have h5:=g9 dp Y.length (by omega);have h6:P[Y.length]=P.getD (n+1) 0:=by rw[J0g,hn]
  refine kR ?_;intros;simp only[e3];refine kR ?_;intros;have hs:((P[n]:Nat):Int)+(P[Y.length]:Nat)*1000000000=((P[n]+P[Y.length]*1000000000:Nat):Int):=by omega
  have hs2:P[n]+P[Y.length]*1000000000<1000000000000000000:=by omega
  rw[← h4,← h6];have fin:=fin (P[n]+P[Y.length]*1000000000);have hd:=Q1c (P[n]+P[Y.length]*1000000000) Y[n]
  change ∀ d,_→_=encw (min ((P[n]+P[Y.length]*B9)/_) _) at fin
  generalize encw (min ((P[n]+P[Y.length]*B9)/Y.getD n 0) (B9-1))=R at fin ⊢;generalize P[n]+P[Y.length]*1000000000=s at hs hs2 fin hd;simp only[hs,TN];generalize s/Y[n]=d at hd fin ⊢;refine kR ?_;intros;exact .of (fin d rfl)
 have h6:P.getD (n+1) 0=0:=by rw[Q4,Q0J (by omega)];rfl
 rw[h6,← h4,Q0Z,Q0O];refine kR ?_;intros;simp only[e3];refine kR ?_;intros;have fin:=fin P[n];have hd:=Q1c P[n] Y[n];generalize encw (min (P[n]/Y.getD n 0) (B9-1))=R at fin ⊢;simp only[TN];generalize P[n]/Y[n]=d at hd fin ⊢;refine kR ?_;intros;exact .of (fin d rfl)
def JLN {α:Type}{d:α}{a b:List α}(hl:a.length=b.length)(h:∀ i,i<a.length→a.getD i d=b.getD i d):a=b:=by
 refine Q1X hl fun i h1 h2=>?_;have:=h i h1
 simpa [Q4,h1,h2] using this
def JEi {α:Type}(l:List α)(i j:Nat)(x d:α):(l.set i x).getD j d=if i=j∧j<l.length then x else l.getD j d:=by
 simp only[Q4,List.getElem?_set]
 by_cases h:i=j
 ·subst h
  by_cases h2:i<l.length<;>simp[h2]
 simp[h]
def JLG (l:List Nat)(k:Nat)(h:k<l.length):l.reverse.getD k 0=l.getD (l.length-1-k) 0:=by
 rw[Q4,List.getElem?_reverse h,Q4]
def Turn (l L:List Nat)(i:Nat):Prop:=L.length=l.length∧∀ k,k<l.length→L.getD k 0=if k<i∨l.length-1<k+i then l.getD (l.length-1-k) 0 else l.getD k 0
def Turn.step {l L:List Nat}{i:Nat}(h:Turn l L i)(hi:2*i+1<l.length):Turn l ((L.set i (L.getD (l.length-1-i) 0)).set (l.length-1-i) (L.getD i 0)) (i+1):=by
 obtain ⟨h1,h2⟩:=h;refine ⟨by simpa using h1,fun k hk=>?_⟩;rw[JEi,JEi];simp only[Q0y];have hi1:=h2 i (by omega);have hj1:=h2 (l.length-1-i) (by omega);rw[if_neg (by omega)] at hi1 hj1
 by_cases e1:l.length-1-i=k
 ·rw[if_pos ⟨e1,by omega⟩,if_pos (by omega),hi1];congr 1;omega
 rw[if_neg (by omega)]
 by_cases e2:i=k
 ·rw[if_pos ⟨e2,by omega⟩,if_pos (by omega),hj1,e2]
 rw[if_neg (by omega),h2 k hk]
 by_cases e3:k<i∨l.length-1<k+i
 ·rw[if_pos e3,if_pos (by omega)]
 rw[if_neg e3,if_neg (by omega)]
def Turn.done {l L:List Nat}{i:Nat}(h:Turn l L i)(hi:l.length≤2*i+1):L=l.reverse:=by
 obtain ⟨h1,h2⟩:=h;refine JLN (d:=0) (by simpa using h1) fun k hk=>?_;rw[h2 k (by omega),JLG l k (by omega)];split
 ·rfl
 congr 1;omega
def JFj (l:List Nat)(p:Nat)(hl:l.length<2^39):HCall Tryz.prog 364 [.own 50 p 0 l.length] (hp [(50,p,⟨285,1,l.map encw⟩)]) (fun r h=>r=.tup []∧h=hp [(50,p,⟨285,1,l.reverse.map encw⟩)]):=by
 refine J2j (E:=E 0) J3x (JMY 0) Tryz.func364 rfl (by rfl) (QJ rfl) ?_;refine kWS ?_;intros
 refine LoopP.intro (fun n σ H=>∃ i,∃ L:List Nat,Turn l L i∧n+i=l.length+1 ∧
  σ=fr [(0,.own 50 p 0 l.length),(2,encI i),(3,encI ((l.length:Int)-1-i))]∧H=hp [(50,p,⟨285,1,L.map encw⟩)]) ?_ ?_
 ·refine .intro <| W.of ⟨l.length+1,0,l,⟨rfl,fun k hk=>by rw[if_neg (by omega)]⟩,rfl,rfl,rfl⟩ ⟨rfl,rfl,?_,trivial⟩ ⟨rfl,trivial⟩
  show AV.val (.int .i64 _)=AV.val (.int .i64 _);congr 2;omega
 rintro n σ H ⟨i,L,hT,hn,rfl,rfl⟩;have hL:=hT.1;refine kWS ?_;intros;refine CondP.dec (fun h=>?_) (fun h=>?_)<;>refine kW ?_
 ·have hstep:=hT.step (by omega);have e1:((l.length:Int)-1-(i:Int)).toNat=l.length-1-i:=by omega
  obtain ⟨j,hj⟩:∃ j,l.length-1-i=j:=⟨_,rfl⟩;rw[hj] at hstep e1;rw[← J0g (i:=j) (by omega),← J0g (i:=i) (by omega)] at hstep;refine kR ?_;intros;simp only[e1];rw[setw _ rfl,J0w encw _ j (by simp;omega)];refine kWR ?_;intros
  refine .intro <| W.of ⟨n-1,by omega,i+1,_,hstep,by omega,rfl,rfl⟩ ⟨rfl,rfl,?_,trivial⟩ ⟨?_,trivial⟩
  ·show AV.val (.int .i64 _)=AV.val (.int .i64 _);congr 2;omega
  exact QC (fun z=>some (p,(⟨_,_,z⟩:Blk))) (setw _ rfl)
 have hd:=hT.done (by omega);subst hd;refine kS ?_;intros;exact EndH.of (m:=[(50,p,⟨285,1,l.reverse.map encw⟩)]) ⟨rfl,trivial⟩ ⟨rfl,rfl⟩
def ownC {b p e n:Nat}{H:Hp}{out:List Nat}(hb:H b=some (p,⟨e,1,out.map encw⟩))(hn:n=out.length):J08 [b] H 3 (.own b p 0 n)=J0Q out:=ownW hb hn
def JNS {y q:Nat}(hq:q<1000000000):(dg B9 (y*q)).length≤(dg B9 y).length+1:=J0F hB9 (by
 rw[Q0Q];have h1:=J1l hB9 y
 rcases Qr q with h|h
 ·rw[h];exact Q1F (Q1V (by decide)) (by decide)
 exact QP (Q2m h1 h) (Qt _ (Q19 hq)))
def JLT {b i A P y q Q Q' V V' D x:Nat}(h1:V=A+b ^ i*P)(h2:V+Q*y*b ^ (i+1)=x)(hD:P=D+y*q)(h3:V'=A+b ^ i*D)(h4:Q'=q+b*Q):V'+Q'*y*b ^ i=x:=by
 subst h1 h3 h4 hD;rw[← h2,Q0Q]
 grind
def JOc (R:List Nat)(k:Nat):AV.sl 1 (((R.map encw).take (R.map encw).length).drop k)=J0Q (R.drop k):=by
 show AV.sl 1 _=AV.sl 1 _
 rw[Qi,Q2c]
def J34 {l:List Nat}(h:Dig B9 l):J0Q (trimF l)=encW (vl B9 l):=by rw[J1n hB9 h];rfl
def JKc {m n:Nat}(h:n≤m):J0Q (trimF (subC B9 0 (dg B9 m) (dg B9 n)))=encW (m-n):=by
 rw[J34 (J1p hB9 _ _ _ (by omega) (J0J hB9 m) (J0J hB9 n)),J5f h]
def JDa (m n:Nat)(hm:(dg B9 m).length<2^62)(hn:(dg B9 n).length<2^62):PX 241 [encW m,encW n] (encI (cmpW (dg B9 m) (dg B9 n))):=J3o _ _ hm hn (J0J hB9 m) (J0J hB9 n)
def JEZ (m n:Nat)(hm:(dg B9 m).length<2^40)(h:n≤m):PX 242 [encW m,encW n] (J0Q (subC B9 0 (dg B9 m) (dg B9 n))):=J7R _ _ hm (J0e hB9 h) (J0J hB9 m) (J0J hB9 n)
def JIg (a b n:Nat)(ha:(dg B9 a).length<2^37)(hb:(dg B9 b).length=n+1)(hle:b≤a):PX 317 [encW a,encW b] (.tup [encW (a/b),encW (a%b)]):=by
 refine PZ Tryz.func317 rfl ?_;have hlab:=J0e hB9 hle
 have hb0:0<b:=by
  rcases Qr b with h|h
  ·rw[h,J0l] at hb;simp at hb
  exact h
 have htop:=g9 (J0J hB9 b) n (by omega);have htn:(dg B9 b)[n]≠0:=by rw[J0g (by omega)];exact JHB hB9 hb
 obtain ⟨f,hf⟩:∃ f,1000000000/((dg B9 b)[n]+1)=f:=⟨_,rfl⟩;have hf0:0<f:=by rw[← hf];exact Q3Z (by omega) (by omega)
 have hf1:f<1000000000:=by rw[← hf];exact Q03 (by omega)
 have e1:((((dg B9 b).map encw).length:Int)-1).toNat=n:=by simp[hb]
 have e2:Int.tdiv 1000000000 (((dg B9 b)[n]:Nat)+1)=(f:Int):=by rw[← hf];rfl
 have hy0:0<b*f:=Q1F hb0 hf0;have hyx:b*f≤a*f:=Qf _ hle
 have lx:(dg B9 (a*f)).length≤(dg B9 a).length+1:=J0F hB9 (by
  rw[Q0Q]
  exact QP (Q2m (J1l hB9 a) hf0) (Qt _ (Q19 hf1)))
 have lyx:=J0e hB9 hyx
 have hyn:0<(dg B9 (b*f)).length:=by
  rcases Qr (dg B9 (b*f)).length with h|h
  ·have:=(J2A hB9 _).1 (Qu.1 h);omega
  exact h
 unfold encW;(refine kWS ?_;repeat intro γ);simp only[e1];(refine kR ?_;repeat intro γ);simp only[e2];(refine kR ?_;repeat intro γ);refine J00 [] _ c362 (J9r a f (by omega) hf1) ?_;(refine kWS ?_;repeat intro γ);refine J00 [] _ c362 (J9r b f (by omega) hf1) ?_;generalize hyy:b*f=y at *;generalize hxx:a*f=x at *;unfold encW;(refine kWS ?_;repeat intro γ);refine CallP.frame 1000000 [(5,36)] rfl c315 (JCI (dg B9 x) (by omega)) rfl trivial ?_;rintro r0 h' ⟨δ,rfl,rfl⟩;refine ⟨[(36,δ,⟨285,1,(dg B9 x).map encw⟩)],⟨J0X encw _ (fun _=>rfl) ..,trivial⟩,?_⟩;(refine kWS ?_;repeat intro γ);have vx:=J0v hB9 x;have vy:=J0v hB9 y
 refine LoopP.intro (fun m σ H=>∃ g i,∃ R qs:List Nat,m=i∧i≤R.length∧R.length<2^38∧qs.length<2^38-i∧Dig B9 R∧Dig B9 qs∧vl B9 (R.drop i)<y∧vl B9 R+vl B9 qs.reverse*y*B9 ^ i=x ∧
  σ=fr [(6,encw f),(7,J0Q R),(8,encW y),(10,.own 100 g 0 qs.length),(11,encI ((i:Int)-1))]∧H=hp [(100,g,⟨285,1,qs.map encw⟩)]) ?_ ?_
 ·have dz:Dig B9 (dg B9 x++[0]):=(J0J hB9 x).app (Dig.cons (by decide) Dig.nil);have lz:(dg B9 x++[0]).length=(dg B9 x).length+1:=by simp
  have hz:vl B9 ((dg B9 x++[0]).drop ((dg B9 x).length+2-(dg B9 y).length))<y:=by
   refine QP (J6p (dz.drop _)) ?_;rw[Q0N,lz];refine Qg (Q05 (by decide) ?_) (JIj hB9 y hy0);omega
  have vz:vl B9 (dg B9 x++[0])=x:=by rw[J6q,vx];simp[vl]
  refine .intro (JLo 7 36 (x:=.own 36 γ 0 ((dg B9 x).length+1)) (y:=J0Q (dg B9 x++[0])) rfl (ownC (p:=γ) (e:=285) ?_ lz.symm) (J24 10 100 285 1 rfl rfl fun g=>W.of ⟨_,g,(dg B9 x).length+2-(dg B9 y).length,dg B9 x++[0],[],rfl,by omega,by omega,by simp;omega,dz,Dig.nil,hz,by rw[vz];simp[vl],rfl,rfl⟩ ⟨rfl,rfl,rfl,rfl,?_,trivial⟩ ⟨rfl,trivial⟩))
  ·show some (_,(⟨_,_,_++_⟩:Blk))=_
   simp;rfl
  show AV.val (.int .i64 _)=AV.val (.int .i64 _)
  congr 2
  simp;omega
 rintro m σ H ⟨g,i,R,qs,rfl,hi,hR,hq,dR,dq,hlt,hv,rfl,rfl⟩;refine kWS ?_;intros;refine CondP.dec (fun h=>?_) (fun h=>?_)<;>refine kW ?_
 ·obtain ⟨i,rfl⟩:∃ k,m=k+1:=⟨m-1,by omega⟩;have e3:(((i+1:Nat):Int)-1)=i:=by omega
  simp only[e3];have hP:vl B9 (R.drop i)=R[i]'(by omega)+B9*vl B9 (R.drop (i+1)):=J5Y R i (by omega);have hRi:=g9 dR i (by omega)
  have hPy:vl B9 (R.drop i)<y*B9:=by
   rw[hP,Q0A y];have:=Qt B9 (show vl B9 (R.drop (i+1))+1≤y from hlt);rw[Q1M] at this;have:R[i]'(by omega)<B9:=hRi;omega
  have hsp:=J2Z B9 R i (by omega);have dP:=dR.drop i;have lP:=JC1 hB9 dP;rw[Q0N] at lP;have lPl:(R.drop i).length<2^62:=by rw[Q0N];omega
  refine kS ?_;intros;refine J00 [] _ c314 (J0G ?_ (J2e (R.drop i) lPl)) ?_
  ·exact QC (fun z=>[z]) (JOc R i)
  rw[J34 dP];generalize hPe:vl B9 (R.drop i)=P at hPy hP lP hsp;unfold encW;obtain ⟨k,hk⟩:∃ k,(dg B9 y).length=k+1:=⟨(dg B9 y).length-1,by omega⟩;have hg0:=JIM hPy hk;have hg1:guessF (dg B9 P) (dg B9 y)<1000000000:=JLD _ _;refine kWS ?_;intros;refine CallP.flat [] _ c363 (JLC (dg B9 P) (dg B9 y) (by omega) (by omega) (J0J hB9 P) (J0J hB9 y) hyn (by rw[hk];exact JHB hB9 hk)) rfl ?_;generalize guessF (dg B9 P) (dg B9 y)=q at hg0 hg1;refine kWS ?_;intros;refine J00 [] _ c362 (J9r y q (by omega) hg1) ?_;unfold encW;refine kWS ?_;intros
  refine LoopP.intro (fun m σ H=>∃ q,m=q∧P/y≤q∧q<1000000000 ∧
   σ=fr [(6,encw f),(7,J0Q R),(8,encW y),(10,.own 100 g 0 qs.length),(11,encI i),(12,encW P),(13,encw q),(14,encW (y*q))]∧H=hp [(100,g,⟨285,1,qs.map encw⟩)]) ?_ ?_
  ·exact .intro <| W.of ⟨_,q,rfl,hg0,hg1,rfl,rfl⟩ ⟨rfl,rfl,rfl,rfl,rfl,rfl,rfl,rfl,trivial⟩ ⟨rfl,trivial⟩
  clear hg0 hg1 q;rintro q σ H ⟨_,rfl,hg0,hg1,rfl,rfl⟩;have lq:=JNS (y:=y) hg1;have hc:=(JJB hB9 (y*q) P).1;unfold encW;refine kWS ?_;intros;refine CallP.flat [] _ c241 (JDa (y*q) P (by omega) (by omega)) rfl ?_;refine kWS ?_;intros;refine CondP.dec (fun h=>?_) (fun h=>?_)<;>refine kW ?_
  ·have hlt2:P<y*q:=hc.1 h;have hq1:P/y<q:=by rw[Nat.div_lt_iff_lt_mul hy0,Q0A];exact hlt2
   have hq2:0<q:=Q13 (QG _) hq1;have hyq:y≤y*q:=Q1m _ hq2;have esub:y*q-y=y*(q-1):=by rw[Nat.mul_sub,Q1U]
   refine kS ?_;intros;refine J00 [] _ c242 (JEZ (y*q) y (by omega) hyq) ?_;refine kWS ?_;intros;refine J00 [] _ c314 (J2e _ (by rw[J1o];omega)) ?_;rw[JKc hyq,esub];unfold encW;refine kWS ?_;intros
   refine .intro <| W.of ⟨q-1,by omega,q-1,rfl,by omega,by omega,rfl,rfl⟩ ⟨rfl,rfl,rfl,rfl,rfl,rfl,?_,rfl,trivial⟩ ⟨rfl,trivial⟩
   show AV.val (.int .u32 _)=AV.val (.int .u32 _)
   congr 2;omega
  have hle2:y*q≤P:=Nat.le_of_not_lt fun h'=>h (hc.2 h');have hqe:q=P/y:=Nat.le_antisymm ((Q2U hy0).2 (by rw[Q0A];exact hle2)) hg0;have hD:P=(P-y*q)+y*q:=by omega
  have hmod:P-y*q<y:=by
   have:=Q0B P hy0;have h2:=Q0s P y;rw[← hqe] at h2;omega
  have hvS:=J5f hle2;have hdS:Dig B9 (subC B9 0 (dg B9 P) (dg B9 (y*q))):=J1p hB9 _ _ _ (by omega) (J0J hB9 _) (J0J hB9 _);have hlS:=J1o B9 (dg B9 P) (dg B9 (y*q)) 0;refine kS ?_;intros;refine CallG.intro _ c242 (JEZ P (y*q) (by omega) hle2) ?_;unfold J0Q;generalize subC B9 0 (dg B9 P) (dg B9 (y*q))=S at hvS hdS hlS;refine kWS ?_;intros;refine Need.intro (VL.map (fun n:Nat=>Value.int .u32 n) _) ?_;refine kWS ?_;intros;have hti:(R.take i).length=i:=by rw[Qb];omega
  refine .intro <| W.of ⟨i,by omega,_,i,R.take i++S,qs++[q],rfl,by simp;omega,by simp;omega,by simp;omega,(dR.take i).app hdS,dq.app (Dig.cons hg1 Dig.nil),?_,?_,rfl,rfl⟩ ⟨rfl,?_,rfl,by simp;rfl,rfl,trivial⟩ ⟨?_,trivial⟩
  ·rw[List.drop_left' hti,hvS];exact hmod
  ·refine JLT hsp hv hD (by rw[J6q,hti,hvS]) (by rw[Q2j];rfl)
  ·show AV.sl 1 _=AV.sl 1 _
   rw[QW,Q2d,QV]
  show some (_,(⟨_,_,_++_⟩:Blk))=_
  simp;rfl
 obtain rfl:m=0:=by omega
 rw[Q0F] at hlt;rw[Q3B,Q1U] at hv
 have hqx:vl B9 qs.reverse=a/b:=by
  have:vl B9 qs.reverse=x/y:=by rw[← hv,Nat.add_mul_div_right _ _ hy0,Q0X hlt,Qq]
  rw[this,← hxx,← hyy,Nat.mul_div_mul_right _ _ hf0]
 have hrx:vl B9 R=(a%b)*f:=by
  have:vl B9 R=x%y:=by rw[← hv,Nat.add_mul_mod_self_right,Q0M hlt]
  rw[this,← hxx,← hyy,Nat.mul_mod_mul_right]
 refine kS ?_;intros;refine CallP.frame 1000000 [(50,100)] rfl c364 (JFj qs g (by omega)) rfl ⟨J0X encw _ (fun _=>rfl) ..,trivial⟩ ?_;rintro r0 h' ⟨rfl,rfl⟩;refine ⟨[(100,g,⟨285,1,qs.reverse.map encw⟩)],⟨J0X encw _ (fun _=>rfl) ..,trivial⟩,?_⟩;have dq':Dig B9 qs.reverse:=fun z hz=>dq z (Q33.1 hz);refine kWS ?_;intros;refine J00 [] _ c314 (J2e R (by omega)) ?_;rw[J34 dR,hrx];have lr:=JC1 hB9 dR;rw[hrx] at lr;unfold encW;refine kWS ?_;intros;refine J00 [] _ c316 (JE7 (dg B9 (a%b*f)) f (by omega) (J0J hB9 _) hf0 hf1) ?_;obtain ⟨v1,d1⟩:=J6w hf0 (J0J hB9 (a%b*f));rw[J0v hB9,Nat.mul_div_cancel _ hf0] at v1;have ls:=J2J f (dg B9 (a%b*f));generalize smallF f (dg B9 (a%b*f))=S at v1 d1 ls;refine kWS ?_;intros;refine J00 [100] _ c314 (J0G ?_ (J2e qs.reverse (by simp;omega))) ?_
 ·exact QC (fun z=>[z]) (ownW rfl (by simp))
 rw[J34 dq',hqx];refine kWS ?_;intros;refine J00 [] _ c314 (J2e S (by omega)) ?_;rw[J34 d1,v1];refine kWS ?_;intros;exact .of rfl
def J9H (z:Int)(n:Nat)(h:z.natAbs=n)(h0:0<n)(h1:n<1000000000):encZ z=.agg [encB (decide (z<0)),J0Q [n]]:=by
 rw[J0a,h,J3z hB9 h0 h1];rfl
def Of1_ok:PX 216 [encI 1] (encZ 1):=by
 rw[J9H 1 1 rfl (by omega) (by omega)];exact J1f JAk (fuel:=20) (n:=5) (by kernel_rfl)
def Ofm1_ok:PX 216 [encI (-1)] (encZ (-1)):=by
 rw[J9H (-1) 1 rfl (by omega) (by omega)];exact J1f JAk (fuel:=20) (n:=5) (by kernel_rfl)
def JGB {n:Nat}(h:0<n):0<(dg B9 n).length:=by
 rcases Qr (dg B9 n).length with h'|h'
 ·have:=(J2A hB9 _).1 (Qu.1 h');omega
 exact h'
def qsg (x y:Int):Int:=if (decide (x<0) != decide (y<0))=true then -((x.natAbs/y.natAbs:Nat):Int) else ((x.natAbs/y.natAbs:Nat):Int)
def rsg (x y:Int):Int:=if decide (x<0)=true then -((x.natAbs%y.natAbs:Nat):Int) else ((x.natAbs%y.natAbs:Nat):Int)
def PureCall.le {P:Program}{f:Nat}{args args':List AV}{r:AV}(h:PureCall P f args r)(hl:args'.length=args.length)(ha:∀ i (h:i<args'.length) (h':i<args.length),Le args'[i] args[i]):PureCall P f args' r:=by
 intro O w vs hO hv;refine h O w vs hO ⟨by rw[← hl];exact hv.1,fun i h1 h2=>?_⟩;exact ha i (by omega) h1 _ _ _ (hv.2 i (by omega) h2)
def JPU {x y:Int}(hy:y≠0):(¬ rsg x y<0→qsg x y=x/y∧rsg x y=x%y)∧(rsg x y<0→qsg x y-sgn y=x/y∧rsg x y+y.natAbs=x%y):=by
 have hn:0<y.natAbs:=by omega
 have h1:=Q0s x.natAbs y.natAbs;have h2:=Q0B x.natAbs hn;unfold qsg rsg sgn;rw[if_neg hy];have hp:(0:Int)<(y.natAbs:Int):=by omega
 generalize x.natAbs/y.natAbs=q at *;generalize x.natAbs%y.natAbs=r at *;have h1':(r:Int)+(y.natAbs:Int)*q=x.natAbs:=by rw[← Q0S];omega
 have key:∀ Q R:Int,R+(y.natAbs:Int)*Q=x→0≤R→R<y.natAbs→x/y=(if y<0 then -Q else Q)∧x%y=R:=by
  intro Q R h3 h4 h5;have h6:=(Int.ediv_emod_unique hp).2 ⟨h3,h4,h5⟩
  by_cases hs:y<0
  ·rw[if_pos hs];have e:y=-(y.natAbs:Int):=by omega
   generalize (y.natAbs:Int)=n at e h6;rw[e,Int.ediv_neg,Int.emod_neg,h6.1,h6.2];exact ⟨rfl,rfl⟩
  rw[if_neg hs];have e:y=(y.natAbs:Int):=by omega
  generalize (y.natAbs:Int)=n at e h6;rw[e];exact h6
 by_cases hx:x<0
 ·by_cases h0:r=0
  ·obtain ⟨k1,k2⟩:=key (-(q:Int)) 0 (by rw[Q3a];omega) (by omega) (by omega);rw[k1,k2,h0]
   by_cases hs:y<0<;>simp[hx,hs]
  obtain ⟨k1,k2⟩:=key (-(q:Int)-1) (y.natAbs-r) (by rw[Int.mul_sub,Q3a];omega) (by omega) (by omega);rw[k1,k2]
  by_cases hs:y<0<;>simp[hx,hs]<;>omega
 obtain ⟨k1,k2⟩:=key q r (by omega) (by omega) (by omega);rw[k1,k2]
 by_cases hs:y<0<;>simp[hx,hs]<;>omega
def JJz (x y:Int)(hx:zl x<2^36)(hy:zl y<2^36)(hy0:y≠0):PX 243 [encZ x,encZ y] (.tup [encZ (x/y),encZ (x%y)]):=by
 refine PZ Tryz.func243 rfl ?_;unfold zl at hx hy;have dx:=J0J hB9 x.natAbs;have dy:=J0J hB9 y.natAbs;have hyp:=JGB (show 0<y.natAbs by omega);rw[J0a x,J0a y];refine kWS ?_;intros;refine CallP.flat [] _ c241 (J3o _ _ (by omega) (by omega) dx dy) rfl ?_;have hc:=JAb hB9 x.natAbs y.natAbs;refine kWS ?_;intros;refine CondP.dec (fun h=>?_) (fun h=>?_)<;>refine kX ?_
 case' refine_1=>
  have hlt:=hc.1 h;refine kZ ?_;intros;obtain ⟨Q,hQe⟩:∃ Q:List Nat,Q=[]:=⟨_,rfl⟩;obtain ⟨R,hRe⟩:∃ R:List Nat,R=dg B9 x.natAbs:=⟨_,rfl⟩;refine J0b (W.le 6 1 rfl (W.of (l:=[(2,.op 2 _ 0 0),(3,.op 3 _ 0 0),(4,.op 4 _ 0 0),(5,.op 5 _ 0 0),(6,J0Q Q),(7,J0Q R)]) (m:=[(2,_,⟨102,2,[encZ x]⟩),(3,_,⟨102,2,[encZ y]⟩),(4,_,⟨102,2,[.agg [encB false,.val (.slice none 0 0)]]⟩),(5,_,⟨102,2,[.agg [encB false,.val (.slice none 0 0)]]⟩)]) ?_ ⟨rfl,rfl,rfl,rfl,by rw[hQe];rfl,by rw[hRe];rfl,trivial⟩ ⟨rfl,rfl,rfl,rfl,trivial⟩));have hQ:Dig B9 Q∧vl B9 Q=x.natAbs/y.natAbs∧Q.length<2^38:=⟨by rw[hQe];exact Dig.nil,by rw[hQe,Q0X hlt];rfl,by rw[hQe];simp⟩;have hR:Dig B9 R∧vl B9 R=x.natAbs%y.natAbs∧R.length<2^38:=⟨by rw[hRe];exact dx,by rw[hRe,Q0M hlt,J0v hB9],by rw[hRe];omega⟩;clear hQe hRe hlt h hc
 case' refine_2=>
  have hge:y.natAbs≤x.natAbs:=Nat.le_of_not_lt fun h'=>h (hc.2 h');refine kZ ?_;intros;refine J4G ?_;refine kX ?_;refine kZ ?_;intros;refine CondP.dec (fun h=>?_) (fun h=>?_)<;>refine kX ?_
  case' refine_1=>
   have hl1:(dg B9 y.natAbs).length=1:=by omega
   have hd0:(dg B9 y.natAbs)[0]=y.natAbs:=by
    have:=J0v hB9 y.natAbs;obtain ⟨d,hd⟩:=Q2Q.1 hl1;simp only[hd] at this ⊢
    simpa [vl] using this
   have hyb:y.natAbs<1000000000:=by rw[← hd0];exact g9 dy 0 hyp
   refine J4G ?_;refine kX ?_;refine kZ ?_;intros;refine J4G ?_;refine kX ?_;refine kZ ?_;intros;refine CallG.intro _ c316 (J0G ?_ (JE7 (dg B9 x.natAbs) y.natAbs (by omega) dx (by omega) hyb)) ?_
   ·show [_,AV.val (.int .u32 (((dg B9 y.natAbs)[0]:Nat):Int))]=_
    rw[hd0];rfl
   obtain ⟨v1,d1⟩:=J6w (show 0<y.natAbs by omega) dx;rw[J0v hB9] at v1;have ls:=J2J y.natAbs (dg B9 x.natAbs);rw[J0v hB9];have hm:=Q0B x.natAbs (show 0<y.natAbs by omega);obtain ⟨Q,hQe⟩:∃ Q:List Nat,Q=smallF y.natAbs (dg B9 x.natAbs):=⟨_,rfl⟩;obtain ⟨R,hRe⟩:∃ R:List Nat,R=[x.natAbs%y.natAbs]:=⟨_,rfl⟩;rw[← hQe] at v1 d1 ls ⊢;refine kX ?_;refine kZ ?_;intros;refine J0b (JLo 7 44 (x:=.own 44 _ 0 1) (y:=J0Q R) rfl (ownC (e:=285) (by rw[hRe];rfl) (by rw[hRe];rfl)) (W.of (l:=[(2,.op 2 _ 0 0),(3,.op 3 _ 0 0),(4,.op 4 _ 0 0),(5,.op 5 _ 0 0),(6,J0Q Q),(7,J0Q R)]) (m:=[(2,_,⟨102,2,[encZ x]⟩),(3,_,⟨102,2,[encZ y]⟩),(4,_,⟨102,2,[.agg [encB false,.val (.slice none 0 0)]]⟩),(5,_,⟨102,2,[.agg [encB false,.val (.slice none 0 0)]]⟩)]) ?_ ⟨rfl,rfl,rfl,rfl,rfl,rfl,trivial⟩ ⟨rfl,rfl,rfl,rfl,trivial⟩));have hQ:Dig B9 Q∧vl B9 Q=x.natAbs/y.natAbs∧Q.length<2^38:=⟨d1,v1,by omega⟩;have hR:Dig B9 R∧vl B9 R=x.natAbs%y.natAbs∧R.length<2^38:=⟨by rw[hRe];exact Dig.cons (Q3C hm hyb) Dig.nil,by rw[hRe];simp[vl],by rw[hRe];simp⟩;clear hQe hRe h hc hd0 hyb d1 v1 ls hm hl1 hge
  case' refine_2=>
   refine kZ ?_;intros;obtain ⟨k,hk⟩:∃ k,(dg B9 y.natAbs).length=k+1:=⟨(dg B9 y.natAbs).length-1,by omega⟩;refine J00 [] _ c317 (JIg x.natAbs y.natAbs k (by omega) hk hge) ?_;have l1:=J0e hB9 (Q1c x.natAbs y.natAbs);have l2:=J0e hB9 (Nat.mod_le x.natAbs y.natAbs);obtain ⟨Q,hQe⟩:∃ Q:List Nat,Q=dg B9 (x.natAbs/y.natAbs):=⟨_,rfl⟩;obtain ⟨R,hRe⟩:∃ R:List Nat,R=dg B9 (x.natAbs%y.natAbs):=⟨_,rfl⟩;unfold encW;rw[← hQe,← hRe];refine kX ?_;refine kZ ?_;intros;refine J0b (W.of (l:=[(2,.op 2 _ 0 0),(3,.op 3 _ 0 0),(4,.op 4 _ 0 0),(5,.op 5 _ 0 0),(6,J0Q Q),(7,J0Q R)]) (m:=[(2,_,⟨102,2,[encZ x]⟩),(3,_,⟨102,2,[encZ y]⟩),(4,_,⟨102,2,[.agg [encB false,.val (.slice none 0 0)]]⟩),(5,_,⟨102,2,[.agg [encB false,.val (.slice none 0 0)]]⟩)]) ?_ ⟨rfl,rfl,rfl,rfl,rfl,rfl,trivial⟩ ⟨rfl,rfl,rfl,rfl,trivial⟩);have hQ:Dig B9 Q∧vl B9 Q=x.natAbs/y.natAbs∧Q.length<2^38:=⟨by rw[hQe];exact J0J hB9 _,by rw[hQe,J0v hB9],by rw[hQe];omega⟩;have hR:Dig B9 R∧vl B9 R=x.natAbs%y.natAbs∧R.length<2^38:=⟨by rw[hRe];exact J0J hB9 _,by rw[hRe,J0v hB9],by rw[hRe];omega⟩;clear hQe hRe h hc hk l1 l2 hge
 all_goals
  obtain ⟨dQ,vQ,lQ⟩:=hQ;obtain ⟨dR,vR,lR⟩:=hR;rw[J0a x,J0a y];refine kWS ?_;intros;refine CallG.intro _ c239 (J0p Q (!(decide (x<0)==decide (y<0))) (by omega) dQ) ?_;rw[vQ,show (if (!(decide (x<0)==decide (y<0)))=true then -((x.natAbs/y.natAbs:Nat):Int) else ((x.natAbs/y.natAbs:Nat):Int))=qsg x y from rfl];refine kWS ?_;intros;refine CallG.intro _ c239 (J0p R (decide (x<0)) (by omega) dR) ?_;rw[vR,show (if decide (x<0)=true then -((x.natAbs%y.natAbs:Nat):Int) else ((x.natAbs%y.natAbs:Nat):Int))=rsg x y from rfl];refine kWS ?_;intros
  have lq:zl (qsg x y)<2^38+2:=by
   have:=JC1 hB9 dQ;unfold zl;rw[show (qsg x y).natAbs=vl B9 Q by rw[vQ];unfold qsg;split<;>omega];omega
  have lr:zl (rsg x y)<2^38+2:=by
   have:=JC1 hB9 dR;unfold zl;rw[show (rsg x y).natAbs=vl B9 R by rw[vR];unfold rsg;split<;>omega];omega
  have hqr:=JPU (x:=x) hy0;generalize qsg x y=q at hqr lq ⊢;generalize rsg x y=r at hqr lr ⊢;rw[J0a r];refine kWS ?_;intros;rw[← J0a r];refine CondP.dec (fun h=>?_) (fun h=>?_)<;>refine kW ?_
  ·rw[← (hqr.2 h).1,← (hqr.2 h).2];refine kWS ?_;intros;refine CallG.intro _ c304 (JFF y) ?_;refine kWS ?_;intros;refine CallG.intro _ c166 (JFE r (y.natAbs:Int) (by omega) (by unfold zl;rw[Q06];omega)) ?_;refine kWS ?_;intros;refine CallG.intro _ c193 (JAp y) ?_;refine kWS ?_;intros
   by_cases hs:y<0
   ·rw[show sgn y=-1 by unfold sgn;rw[if_neg hy0,if_pos hs]];refine kWS ?_;intros;refine CallG.intro _ c216 Ofm1_ok ?_;refine kWS ?_;intros;refine CallG.intro _ c305 (JJe q (-1) (by omega) (by rw[show zl (-1)=1 by unfold zl;rw[show (-1:Int).natAbs=1 from rfl,J3z hB9 (by omega) (by unfold B9;omega)];rfl];omega)) ?_;refine kWS ?_;intros;exact .of rfl
   rw[show sgn y=1 by unfold sgn;rw[if_neg hy0,if_neg hs]];refine kWS ?_;intros;refine CallG.intro _ c216 Of1_ok ?_;refine kWS ?_;intros;refine CallG.intro _ c305 (JJe q 1 (by omega) (by rw[show zl 1=1 by unfold zl;rw[show (1:Int).natAbs=1 from rfl,J3z hB9 (by omega) (by unfold B9;omega)];rfl];omega)) ?_;refine kWS ?_;intros;exact .of rfl
  rw[← (hqr.1 h).1,← (hqr.1 h).2];refine kS ?_;intros;exact .of rfl
def JGY (n:Nat):zl (n:Int)=(dg B9 n).length:=by unfold zl;rw[Q06]
def JJx (x y:Int)(hx:zl x<2^36)(hy:zl y<2^36):PX 219 [encZ x,encZ y] (encZ (x.natAbs.gcd y.natAbs:Nat)):=by
 refine PZ Tryz.func219 rfl ?_;unfold zl at hx hy;refine kWS ?_;intros;refine CallG.intro _ c304 (JFF x) ?_;refine kWS ?_;intros;refine CallG.intro _ c304 (JFF y) ?_;refine kWS ?_;intros;obtain ⟨d,hd⟩:∃ d,d=x.natAbs.gcd y.natAbs:=⟨_,rfl⟩;rw[← hd]
 refine LoopP.intro (fun m σ H=>∃ g2 g3 g4 a b,m=b∧a.gcd b=d∧(dg B9 a).length<2^36∧(dg B9 b).length<2^36 ∧
  σ=fr [(2,.op 2 g2 0 0),(3,.op 3 g3 0 0),(4,.op 4 g4 0 0)] ∧
  H=hp [(2,g2,⟨102,2,[encZ (a:Nat)]⟩),(3,g3,⟨102,2,[encZ (b:Nat)]⟩),(4,g4,⟨102,2,[.agg [encB false,.val (.slice none 0 0)]]⟩)]) ?_ ?_
 ·exact .intro <| W.of ⟨_,_,_,_,x.natAbs,y.natAbs,rfl,hd.symm,hx,hy,rfl,rfl⟩ ⟨rfl,rfl,rfl,trivial⟩ ⟨rfl,rfl,rfl,trivial⟩
 rintro m σ H ⟨g2,g3,g4,a,b,rfl,hab,ha,hb,rfl,rfl⟩;refine kWS ?_;intros;refine CallP.flat [] _ c288 (JJU m) rfl ?_;refine kWS ?_;intros;refine CondP.dec (fun h=>?_) (fun h=>?_)<;>refine kW ?_
 ·refine kS ?_;intros;have h0:m=0:=by omega
  rw[h0,Nat.gcd_zero_right] at hab;rw[hab];refine kS ?_;intros;exact .of rfl
 have hm:0<m:=by omega
 refine kS ?_;intros;refine J00 [] _ c243 (JJz a m (by rw[JGY];exact ha) (by rw[JGY];exact hb) (by omega)) ?_;rw[show ((a:Int)/(m:Int))=((a/m:Nat):Int) from rfl,show ((a:Int)%(m:Int))=((a%m:Nat):Int) from rfl];have l1:=J0e hB9 (Q19 (Q0B a hm));refine kWS ?_;intros
 exact .intro <| W.of ⟨a%m,Q0B _ hm,_,_,_,m,a%m,rfl,by rw[Q3D,← Nat.gcd_rec,Q3D,hab],hb,by omega,rfl,rfl⟩ ⟨rfl,rfl,rfl,trivial⟩ ⟨rfl,rfl,rfl,trivial⟩
def J8r (l:List UInt8)(p:Nat)(hp:p<l.length)(h:(l[p]).toNat<128):runeAt (ofL l) p=((l[p]).toNat,1):=by
 unfold runeAt Utf8.decode
 have e:((ofL l).get! (p+0)).toNat=(l[p]).toNat:=by
  show (l.toArray[p+0]!).toNat=_
  rw[Q0O,getElem!_pos _ p (by simpa using hp)];simp
 simp only[e];rw[if_pos h]
def JLB (l:List UInt8):hasP (ofL l) (b1 45)=match l with
 |45::_=>true
 |_=>false:=by
 unfold hasP;rw[show (b1 45).size=1 from rfl,J04,J09]
 cases l with
 |nil=>rfl
 |cons c l=>
   have h1:decide (1≤(c::l).length)=true:=Q2 (by simp);rw[h1,QB]
   by_cases hc:c=45
   ·subst hc;exact Q2 rfl
   have:decide (ofL (List.drop 0 (List.take 1 (c::l)))=b1 45)=false:=Q1 fun h=>hc (by
    have:=QC (fun s:ByteArray=>s.data.toList) h
    simpa [ofL,b1] using this)
   rw[this];split
   ·rename_i h;cases h;exact absurd rfl hc
   rfl
def isDs (l:List UInt8):Bool:=l.all fun c=>isD c.toNat
def okW (m:Bool)(t:List UInt8):Bool:=!t.isEmpty&&!(decide (t.headD 0=48)&&(decide (1<t.length)||m))&&isDs t
def decU (t:List UInt8):Nat:=decB (t.map UInt8.toNat)
def J2M (l:List UInt8):Option Int:=match l with
 |45::t=>if okW true t then some (-(decU t:Int)) else none
 |t=>if okW false t then some (decU t:Int) else none
def resW:Option Int→AV
 |some z=>.tup [encZ z,encB true]
 |none=>.tup [.agg [encB false,.val (.slice none 0 0)],encB false]
def JPE (l:List UInt8):∃ t m,cutP (ofL l) (b1 45)=(ofL t,m)∧J2M l=(if okW m t then some (if m then -(decU t:Int) else decU t) else none)∧t.length≤l.length:=by
 unfold cutP;rw[JLB];unfold J2M;split
 ·rename_i t;exact ⟨t,true,by rw[if_pos rfl,J09];rw[J04,Qi];rfl,by simp,by simp⟩
 rename_i h;refine ⟨l,false,by simp,?_,QM _⟩;split<;>simp_all
def JL8 (l:List UInt8):decide (ofL (JKX l)=⟨#[]⟩)=isDs l:=by
 unfold isDs;rw[Q0T,decide_eq_true_iff,QL,← JHA];constructor
 ·intro h;have:=QC (fun s:ByteArray=>s.data.toList) h
  simpa [ofL] using this
 intro h;rw[h];rfl
def JA4 (l:List UInt8):ofL l=⟨#[]⟩↔l=[]:=by
 constructor
 ·intro h;have:=QC (fun s:ByteArray=>s.data.toList) h
  simpa [ofL] using this
 intro h;rw[h];rfl
def J0h (l:List UInt8)(i:Nat)(h:i<l.length):byteAt (ofL l) i=((l[i]).toNat:Int):=by
 unfold byteAt;rw[dif_pos (by rw[J04];exact h)];rfl
def revD (t:List UInt8)(e:Nat):List Nat:=((t.take e).map UInt8.toNat).reverse.map (· - 48)
def J6S (t:List UInt8)(e:Nat)(h:e≤t.length):(revD t e).length=e:=by simp[revD];omega
def JBK (t:List UInt8)(e k:Nat)(h:e≤t.length):(revD t e).drop k=revD t (e-k):=by
 unfold revD;rw[← Q2c,← Q1p,← Q2c,← Q1p,List.drop_reverse];simp only[Qb,List.take_take];rw[show min (min e t.length-k) e=e-k by omega]
def JBJ (t:List UInt8)(e k:Nat)(h:e≤t.length):vl 10 ((revD t e).take k)=decU ((t.take e).drop (e-k)):=by
 unfold revD decU decB
 congr 1
 rw[← Q2d,← Q1p,← Q2d,← Q1p,List.take_reverse]
 congr 4
 simp only[Qb];omega
def JAQ (t:List UInt8)(h:∀ i (hi:i<t.length),48≤(t[i]).toNat∧(t[i]).toNat≤57):decU t<10 ^ t.length:=by
 have:=@JIm (t.map UInt8.toNat) (by
  rw[QL];intro c hc;obtain ⟨x,hx,rfl⟩:=Qs.1 hc;obtain ⟨i,hi,rfl⟩:=Q15.1 hx;unfold isDg
  exact Q2 (h i hi))
 simpa [decU] using this
def JCb (l:List UInt8)(hl:l.length<2^35):PX 215 [encS (ofL l)] (resW (J2M l)):=by
 refine PZ Tryz.func215 rfl ?_;obtain ⟨t,m,hc,hp,ht⟩:=JPE l;rw[hp];clear hp;generalize hF:okW m t=F;unfold okW at hF;have hlt:t.length<2^35:=by omega
 (refine kWS ?_;repeat intro γ);refine J00 [] _ c302 (J6G (ofL l) (b1 45) (by rw[J04];omega) (by decide)) ?_;rw[hc];clear hc ht;have hsz:=J04 t;(refine kWS ?_;repeat intro γ);refine CondP.dec (fun h0=>?_) (fun h0=>?_)<;>refine kW ?_
 ·rw[(JA4 t).1 h0] at hF;simp at hF;subst hF;(refine kS ?_;repeat intro γ);exact .of rfl
 have hne:t≠[]:=fun e=>h0 (by rw[e];rfl);have hpos:0<t.length:=Q1C.2 hne
 have hb:byteAt (ofL t) (Int.toNat 0)=((t.headD 0).toNat:Int):=by
  rw[J0h t (Int.toNat 0) hpos]
  cases t with
  |nil=>exact absurd rfl hne
  |cons c r=>rfl
 have hemp:t.isEmpty=false:=by cases t with
  |nil=>exact absurd rfl hne
  |cons c r=>rfl
 rw[hemp,Q0L,QB] at hF;generalize t.headD 0=c at hb hF
 have hc48:((c.toNat:Int)=48)→(c=48):=fun h=>Q0h (by
  have:c.toNat=48:=by omega
  rw[this];rfl)
 have hc48':c=48→((c.toNat:Int)=48):=by rintro rfl;rfl
 have hT:=JOE t (by omega);have hD:=JL8 t;have bad:(decide (c=48)&&(decide (1<t.length)||m))=true→F=false:=fun h=>by rw[← hF,h];rfl
 have good:(decide (c=48)&&(decide (1<t.length)||m))=false→F=isDs t:=fun h=>by rw[← hF,h];rfl
 clear hF hemp;(refine kS ?_;repeat intro γ);rw[hb];refine CondP.dec (fun h=>?_) (fun h=>?_)<;>refine kW ?_
 case' refine_1=>
  have h1:=hc48 h;(refine kS ?_;repeat intro γ);simp only[J04];refine CondP.dec (fun h2=>?_) (fun h2=>?_)<;>refine kW ?_
  case' refine_1=>
   rw[bad (by rw[Q2 h1,Q2 (show 1<t.length by omega)];rfl)];(refine kS ?_;repeat intro γ);exact .of rfl
  (refine kS ?_;repeat intro γ);refine CondP.intro (fun h3=>?_) (fun h3=>?_)<;>refine kW ?_
  case' refine_1=>
   rw[bad (by rw[Q2 h1,h3];simp)];(refine kS ?_;repeat intro γ);exact .of rfl
  have hg:=good (by rw[h3,Q1 (show ¬ 1<t.length by omega)];simp)
 case' refine_2=>
  have hg:=good (by rw[Q1 (fun h'=>h (hc48' h'))];simp)
 all_goals
  (refine kS ?_;repeat intro γ);refine CallP.flat [] _ c303 hT rfl ?_;(refine kWS ?_;repeat intro γ);refine CondP.dec (fun h4=>?_) (fun h4=>?_)<;>refine kW ?_
  case' refine_2=>
   rw[hg,← hD,Q1 h4];(refine kS ?_;repeat intro γ);exact .of rfl
  rw[hg,← hD,Q2 h4];rw[Q2 h4] at hD;obtain ⟨C,hC⟩:∃ C,C=J2X 9 t.length (revD t t.length):=⟨_,rfl⟩
  refine LoopP.intro (fun k σ H=>∃ g2 g6 z f,∃ out:List Nat,k=z.toNat∧z.toNat≤t.length∧-9<z∧z.toNat≤f∧out.length+z.toNat≤t.length∧out++J2X 9 f (revD t z.toNat)=C ∧
   σ=fr [(2,.op 2 g2 0 0),(3,encB false),(4,encS (ofL t)),(5,encB m),(6,.own 100 g6 0 out.length),(7,encI z)] ∧
   H=hp [(2,g2,⟨102,2,[.agg [encB false,.val (.slice none 0 0)]]⟩),(100,g6,⟨285,1,out.map encw⟩)]) ?_ ?_
  ·refine .intro (J24 6 100 285 1 rfl rfl fun g=>W.of ⟨_,_,g,(t.length:Int),t.length,[],rfl,by omega,by omega,by omega,by simp,by rw[hC];rfl,rfl,rfl⟩ ⟨rfl,rfl,rfl,rfl,rfl,rfl,trivial⟩ ⟨rfl,rfl,trivial⟩)
  rintro k σ H ⟨g2,g6,z,f,out,rfl,hz1,hz2,hzf,hol,hout,rfl,rfl⟩;(refine kWS ?_;repeat intro γ);refine CondP.dec (fun h=>?_) (fun h=>?_)<;>refine kW ?_
  ·(refine kS ?_;repeat intro γ);obtain ⟨f,rfl⟩:∃ f',f=f'+1:=⟨f-1,by omega⟩;have hR:revD t z.toNat≠[]:=fun e=>by have:=J6S t z.toNat hz1;rw[e] at this;simp at this;omega
   unfold J2X at hout;rw[if_neg hR,JBJ t _ 9 hz1,JBK t _ 9 hz1] at hout;have hmax:(max (z-9) 0).toNat=z.toNat-9:=by omega
   simp only[hmax,J09];generalize hx:(t.take z.toNat).drop (z.toNat-9)=x at hout ⊢;have lx:x.length≤9:=by rw[← hx];simp;omega
   have hxd:∀ i (hi:i<x.length),48≤(x[i]).toNat∧(x[i]).toNat≤57:=by
    intro i hi
    have hm':∀ y,y∈x→y∈t:=by
     rw[← hx];exact fun y hy=>Q1K (Q2f hy)
    have hm:=hm' _ (QF hi);have:=QL.1 hD.symm _ hm;unfold isD at this;simp at this;omega
   refine LoopP.intro (fun k σ H=>∃ g p w,k=x.length-p∧p≤x.length∧w=decU (x.take p) ∧
    σ=fr [(2,.op 2 g2 0 0),(3,encB false),(4,encS (ofL t)),(5,encB m),(6,.own 100 g6 0 out.length),(7,encI z),(8,encw w),(49,.it 49 g)] ∧
    H=hp [(2,g2,⟨102,2,[.agg [encB false,.val (.slice none 0 0)]]⟩),(100,g6,⟨285,1,out.map encw⟩),(49,g,⟨0,0,[encS (ofL x),encI p]⟩)]) ?_ ?_
   ·exact .intro <| W.of ⟨_,_,0,_,rfl,QG _,rfl,rfl,rfl⟩ ⟨rfl,rfl,rfl,rfl,rfl,rfl,rfl,rfl,trivial⟩ ⟨rfl,rfl,rfl,trivial⟩
   rintro k σ H ⟨g,p,w,rfl,hp,hw,rfl,rfl⟩;have hwl:=JAQ (x.take p) (fun i hi=>by rw[Q0n];exact hxd i (by simp at hi;omega));rw[← hw,Qb] at hwl;have hw9:w<10 ^ 9:=QP hwl (Q05 (by omega) (by omega));(refine kWS ?_;repeat intro γ);rw[J04];refine CondP.dec (fun h=>?_) (fun h=>?_)<;>refine kW ?_
   ·have hp':p<x.length:=by omega
    have hc:=hxd p hp';have hr:runeAt (ofL x) (Int.toNat p)=((x[p]).toNat,1):=J8r x p hp' (by omega)
    have hs:decU (x.take (p+1))=10*w+((x[p]).toNat-48):=by
     rw[hw,Qd hp'];unfold decU;rw[QW];exact JC3 _ _
    have hw8:w<10 ^ 8:=by
     refine QP hwl (Q05 (by omega) (by omega))
    rw[hr];generalize hd:(x[p]).toNat=d at hc hs ⊢;(refine kS ?_;repeat intro γ)
    refine .intro <| W.of ⟨x.length-(p+1),by omega,g,p+1,_,rfl,hp',hs.symm,rfl,rfl⟩ ⟨rfl,rfl,rfl,rfl,rfl,rfl,?_,rfl,trivial⟩ ⟨rfl,rfl,?_,trivial⟩
    ·show AV.val (.int .u32 _)=AV.val (.int .u32 _)
     congr 2;omega
    rfl
   have hpe:p=x.length:=by omega
   rw[hpe,Qi] at hw;(refine kS ?_;repeat intro γ)
   refine .intro <| W.of ⟨(z-9).toNat,by omega,g2,γ,z-9,f,out++[w],rfl,by omega,by omega,by omega,by simp;omega,?_,rfl,rfl⟩ ⟨rfl,rfl,rfl,rfl,?_,rfl,trivial⟩ ⟨rfl,?_,trivial⟩
   ·rw[hw,← hout,show (z-9).toNat=z.toNat-9 by omega];simp
   ·exact QC (AV.own 100 _ 0) (by simp)
   show some (_,(⟨_,_,_++_⟩:Blk))=_
   simp;rfl
  have hz0:z.toNat=0:=by omega
  have hCo:out=C:=by
   rw[← hout,hz0];have:J2X 9 f (revD t 0)=[]:=by cases f<;>rfl
   rw[this];simp
  have hdt:(t.map UInt8.toNat).all isDg=true:=by
   rw[Q3E,QL];intro x hx;have:=QL.1 hD.symm x hx;unfold isD at this;simp at this;unfold isDg;exact Q2 (by simpa using this)
  have hrt:revD t t.length=(t.map UInt8.toNat).reverse.map (· - 48):=by unfold revD;rw[Qi]
  have hv:vl B9 out=decU t:=by
   rw[hCo,hC,show (B9:Nat)=10 ^ 9 from rfl,J87 (by omega) _ _ (by rw[J6S _ _ (QM _)];exact QM _),hrt];rfl
  have hd:Dig B9 out:=by
   rw[hCo,hC,hrt];exact J5z _ _ (JEp hdt)
  refine kS ?_;intros;refine J00 [100] _ c239 (J0G ?_ (J0p out m (by omega) hd)) ?_
  ·exact QC (fun z=>[z,encB m]) (ownW rfl rfl)
  rw[hv];refine kWS ?_;intros;exact .of rfl
end Go.Proofs.YtlblbldolhiokaaGreatDoor
namespace Go.Proofs.YtlblbldolhiokaaGreatDoor
open Go Go.RowKit Go.Shelf
attribute [local go_sem] Q3L
def ntD:Tryz.f359.ntmps=21:=by kernel_rfl
def J1O {α:Type}(f:Nat→α)(len k:Nat):List (Nat×α):=(List.range k).map fun j=>(len-1-j,f (len-1-j))
def J4E {α:Type}(f:Nat→α)(len k:Nat):J1O f len (k+1)=J1O f len k++[(len-1-k,f (len-1-k))]:=by simp[J1O,List.range_succ]
def J51 {α:Type}(f:Nat→α)(len k:Nat):(J1O f len k).length=k:=by simp[J1O]
def JLR (F:Fence)(n:Nat)(h8:F.fn 359)(hro:F.round=none)(hn:1≤n)(l Bs b off len cap:Nat)(m:Bool)(zs:Nat→Fin 1000000000)(hreach:len*4≤140737488351232)(Kp:World→World→Prop)(hKr:∀ A,Kp A A)(hKt:∀ A B C,Kp A B→Kp B C→Kp A C)(hK1:∀ A B,Kp A B→B.cell? ⟨Bs,1,none⟩=A.cell? ⟨Bs,1,none⟩)(hKc:∀ A B j,Kp A B→B.cell? ⟨b,off+j,none⟩=A.cell? ⟨b,off+j,none⟩)(J Jx:List (Nat×Fin 1000000000)→World→Prop)
  (hY:∀ pre x W,J pre W→pre.length<len→YieldAt F (n-1) Tryz.prog l #[.int .i64 (x.1:Int),.int .u32 (x.2.val:Int)] W fun e W'=>
    (e=.returned (.bool true)∧J (pre++[x]) W'∧Kp W W')∨(e=.returned (.bool false)∧Jx (pre++[x]) W'))
  (W:World)(hBs0:W.cell? ⟨Bs,0,none⟩=some (.bool m))(hBs1:W.cell? ⟨Bs,1,none⟩=some (.slice (some ⟨b,off,none⟩) len cap))(hc:∀ j,j<len→W.cell? ⟨b,off+j,none⟩=some (.int .u32 ((zs j).val:Int)))(h0:J [] W) :
  CallsIn F n Tryz.prog 359 #[.func (.yield l) #[] #[],.pointer (some ⟨Bs,0,none⟩)] W fun e W'=>(∃ v,e=.returned v) ∧
   ((∃ ys,ys=J1O zs len len∧J ys W')∨(∃ pre,(∃ k,k≤len∧pre=J1O zs len k)∧Jx pre W')):=by
 refine callsIn_of_wp Tryz.func359 rfl h8 ?_ hro;simp only[ntD,Q1A,QT,Q0R,Nat.reduceAdd,Nat.reduceSub,Q1N,Q1O,Q1g,Q1T,Q07,Q01]
 gi_wp2
 gi_loopw [3] (fun i wr=>∃ k:Nat,k≤len∧i=.int .i64 ((len:Int)-1-k)∧J (J1O zs len k) wr∧Kp W wr)
  (fun i _=>(intOf i+1).toNat)
 case atStart=>exact ⟨0,QG _,by simp,h0,hKr _⟩
 case round=>
  obtain ⟨k,hk,rfl,hJs,hnx⟩:=hrel;have hcx:k<len→wr.cell? ⟨b,off+(len-1-k),none⟩=some (.int .u32 ((zs (len-1-k)).val:Int)):=fun h=>(hKc _ _ (len-1-k) hnx).trans (hc _ (by omega));have hb1:wr.cell? ⟨Bs,1,none⟩=some (.slice (some ⟨b,off,none⟩) len cap):=(hK1 _ _ hnx).trans hBs1
  by_cases hlt:k<len
  ·obtain ⟨fn,tmps,assign,body,hy,hR⟩:=hY _ (len-1-k,zs (len-1-k)) wr hJs (by rw[J51];exact hlt)
   dsimp only at hy
   have hcx':=hcx hlt;have e:(len:Int)-1-k=((len-1-k:Nat):Int):=by omega
   rw[e];have hge:(0:Int)≤((len-1-k:Nat):Int):=by omega
   gi_wp2
   refine hR.mono ?_;rintro e W3 (⟨rfl,hJ3,hk3⟩|⟨rfl,hJx3⟩)
   ·gi_wp2
    go_roundw
    case rel=>exact ⟨k+1,by omega,by simp<;>omega,by rw[J4E];exact hJ3,hKt _ _ _ hnx hk3⟩
    case measure=>simp[intOf]<;>omega
   gi_wp2
   refine bodyPost_ret (results_none rfl _ _ _) rfl ?_;exact ⟨⟨_,rfl⟩,.inr ⟨_,⟨k+1,by omega,(J4E _ _ _).symm⟩,hJx3⟩⟩
  obtain rfl:k=len:=by omega
  have e:(k:Int)-1-k=-1:=by omega
  rw[e]
  gi_wp2
  go_end0
  exact ⟨⟨_,rfl⟩,.inl ⟨_,rfl,hJs⟩⟩
def ntW:Tryz.f306.ntmps=4:=by kernel_rfl
def JNs (F:Fence)(n:Nat)(h6:F.fn 306)(hro:F.round=none)(m:Bool)(a:Option Addr)(len cap:Nat)(w:World) :
  CallsIn F n Tryz.prog 306 #[.agg #[.bool m,.slice a len cap]] w fun e w'=>e=.returned (.func (.func 359) #[] #[.pointer (some ⟨w.heap.size,0,none⟩)])∧w'=w.alloc (.cells #[.bool m,.slice a len cap] 102):=by
 refine callsIn_of_wp Tryz.func306 rfl h6 ?_ hro;simp only[ntW,Q1A,QT,Q0R,Nat.reduceAdd,Nat.reduceSub,Q1N,Q1O,Q1g,Q1T,Q07,Q01]
 gi_wp2
 go_ret
 exact ⟨rfl,rfl⟩
def JGA (F:Fence)(n:Nat)(h8:F.fn 359)(hro:F.round=none)(hn:1≤n)(Bs b off len cap:Nat)(m:Bool)(zs:Nat→Fin 1000000000)(hreach:len*4≤140737488351232)(w:World)(hBs:Bs<w.heap.size)(hb:b<w.heap.size)
  (Kp:World→World→Prop)(hKr:∀ A,Kp A A)(hKt:∀ A B C,Kp A B→Kp B C→Kp A C)(hK1:∀ A B,Kp A B→B.cell? ⟨Bs,1,none⟩=A.cell? ⟨Bs,1,none⟩)(hKc:∀ A B j,Kp A B→B.cell? ⟨b,off+j,none⟩=A.cell? ⟨b,off+j,none⟩)
  (hBs0:w.cell? ⟨Bs,0,none⟩=some (.bool m))(hBs1:w.cell? ⟨Bs,1,none⟩=some (.slice (some ⟨b,off,none⟩) len cap))(hc:∀ j,j<len→w.cell? ⟨b,off+j,none⟩=some (.int .u32 ((zs j).val:Int))) :
  SeqStopsK F n Tryz.prog 359 #[.pointer (some ⟨Bs,0,none⟩)] (fun x:Nat×Fin 1000000000=>#[Value.int .i64 (x.1:Int),Value.int .u32 (x.2.val:Int)]) Kp (fun ys=>ys=J1O zs len len)
   (fun pre=>∃ k,k≤len∧pre=J1O zs len k) len w:=fun l J Jx W hW _ _ hY h0=>
 JLR F n h8 hro hn l Bs b off len cap m zs hreach Kp hKr hKt hK1 hKc J Jx hY W ((hW.cell (p:=⟨Bs,0,none⟩) hBs).trans hBs0) ((hW.cell (p:=⟨Bs,1,none⟩) hBs).trans hBs1) (fun j hj=>(hW.cell (p:=⟨b,off+j,none⟩) hb).trans (hc j hj)) h0
end Go.Proofs.YtlblbldolhiokaaGreatDoor
namespace Go.Proofs.YtlblbldolhiokaaGreatDoor
open Go Go.Fw
def J4R (b:UInt8):List UInt8→List UInt8
 |[]=>[]
 |c::l=>if c=b then J4R b l else c::l
def J5a (b c:UInt8)(l:List UInt8):J4R b (c::l)=if c=b then J4R b l else c::l:=rfl
def J6t (b:UInt8)(l:List UInt8)(hl:l.length<2^62):PX 352 [encS (ofL l),.val (.int .u8 b.toNat)] (encS (ofL (J4R b l))):=by
 refine PZ Tryz.func352 rfl ?_;refine kWS ?_;intros;refine LoopP.intro (fun k σ H=>∃ m:List UInt8,k=m.length∧m.length<2^62∧J4R b m=J4R b l∧σ=fr [(0,encS (ofL m)),(1,.val (.int .u8 b.toNat))]∧H=hp []) ?_ ?_
 ·exact .intro <| W.of ⟨_,l,rfl,hl,rfl,rfl,rfl⟩ ⟨rfl,rfl,trivial⟩ trivial
 rintro k σ H ⟨m,rfl,hm,hml,rfl,rfl⟩
 cases m with
 |nil=>
   refine kWS ?_;intros;exact .of (by rw[← hml];rfl)
 |cons c m=>
   have hb:byteAt (ofL (c::m)) (Int.toNat 0)=(c.toNat:Int):=rfl;have hsz:(ofL (c::m)).size=m.length+1:=rfl;have hp0:(0:Int)<((ofL (c::m)).size:Int):=by rw[hsz];omega
   rw[J5a] at hml;refine kWS ?_;intros;rw[hb];refine CondP.dec (fun h=>?_) (fun h=>?_)<;>refine kW ?_
   ·have hc:c=b:=Q0h (by omega);rw[if_pos hc] at hml;refine kS ?_;intros
    refine .intro <| W.of ⟨m.length,by simp,m,rfl,by simp at hm;omega,hml,rfl,rfl⟩ ⟨?_,rfl,trivial⟩ trivial
    show encS _=encS _
    rw[J09];congr 2;simp[J04]
   have hc:¬ c=b:=fun e=>h (by rw[e]);rw[if_neg hc] at hml;refine kS ?_;intros;exact .of (by rw[← hml];rfl)
def JDh (l:List UInt8)(hl:l.length<2^62):PX 307 [encS (ofL l),encS (b1 48)] (encS (ofL (J4R 48 l))):=by
 refine PZ Tryz.func307 rfl ?_;have hb:(b1 48).size=1:=rfl;have hc:byteAt (b1 48) (Int.toNat 0)=48:=rfl;have hn:=JA4 l;refine kWS ?_;intros;refine CondP.dec (fun h=>?_) (fun h=>?_)<;>refine kW ?_
 ·have h0:=hn.1 h;subst h0;refine kS ?_;intros;exact .of rfl
 refine kS ?_;intros;rw[hc];refine kS ?_;intros;refine CallP.flat [] _ c352 (J6t 48 l hl) rfl ?_;refine kWS ?_;intros;exact .of rfl
end Go.Proofs.YtlblbldolhiokaaGreatDoor
namespace Go.Proofs.YtlblbldolhiokaaGreatDoor
open Go Go.RowKit Go.Shelf
attribute [local go_sem] Q3L
def ntS:Tryz.f223.ntmps=38:=by kernel_rfl
def ntZ:Tryz.f288.ntmps=7:=by kernel_rfl
def JOC (F:Fence)(n:Nat)(h6:F.fn 288)(hro:F.round=none)(m:Bool)(a:Option Addr)(len cap:Nat)(hl:0<len)(w:World) :
  CallsIn F n Tryz.prog 288 #[.agg #[.bool m,.slice a len cap]] w fun e w'=>e=.returned (.bool false)∧w'=w.alloc (.cells #[.bool m,.slice a len cap] 102):=by
 refine callsIn_of_wp Tryz.func288 rfl h6 ?_ hro;simp only[ntZ,Q1A,QT,Q0R,Nat.reduceAdd,Nat.reduceSub,Q1N,Q1O,Q1g,Q1T,Q07,Q01];have hl':¬ (len:Int)=0:=by omega
 gi_wp2
 go_ret
 exact ⟨by simp;omega,rfl⟩
def KpS (n₀:Nat)(A B:World):Prop:=∀ k,(k<n₀∨k=n₀+3)→B.heap[k]?=A.heap[k]?
def KpS.cell {n₀:Nat}{A B:World}(h:KpS n₀ A B){c o:Nat}(hc:c<n₀∨c=n₀+3):B.cell? ⟨c,o,none⟩=A.cell? ⟨c,o,none⟩:=by
 unfold World.cell?;simp only[h c hc]
def dig9 (v:Nat):List Nat:=(List.range 9).map fun i=>48+v/10 ^ (8-i)%10
def txt9 (pre:List (Nat×Fin 1000000000)):List Nat:=pre.flatMap fun x=>dig9 x.2.val
def J2y (n:Nat):Value:=.int .u8 n
def JIO {W wr:World}(hg:W.grownBy wr none)(i:Nat)(v:Value):W.grownBy (wr.setCell ⟨W.heap.size,i,none⟩ v) none:=by
 obtain ⟨h1,h2,h3,h4,h5⟩:=hg;exact ⟨h1,h2,h3,Qg h4 (KeepsWalks.setCell wr _ v).size,fun k hk hn=>(Below.heap_setCell _ _ _ k (by simp;omega)).trans (h5 k hk hn)⟩
def JA3 (v:Nat)(j:Nat):Array Value:=(((List.replicate (9-j) (Value.int .u8 0)))++((dig9 v).drop (9-j)).map J2y).toArray
def JHX {W:World}{B i:Nat}{A:Array Value}{t:TypeId}{v:Value}(h:W.heap[B]?=some (.cells A t (0,0))):(W.setCell ⟨B,i,none⟩ v).heap[B]?=some (.cells (A.setIfInBounds i v) t (0,0)):=by
 obtain ⟨hlt,hk⟩:=QU.1 h;show (W.heap.modify B _)[B]?=_
 rw[QN (by rw[Array.size_modify];exact hlt),Array.getElem_modify_self,hk];rfl
def JFq (v j:Nat)(hj:j<9):JA3 v (j+1)=(JA3 v j).setIfInBounds (8-j) (J2y (48+v/10 ^ j%10)):=by
 unfold JA3 dig9 J2y
 rcases j with _|_|_|_|_|_|_|_|_|j
 all_goals first
  |omega
  |(simp[List.range,List.range.loop])
def J3T (pre:List (Nat×Fin 1000000000)):(txt9 pre).length=9*pre.length:=by
 induction pre with
 |nil=>rfl
 |cons a r ih=>
   unfold txt9 at *;rw[Q1P,QQ,ih];simp[dig9];omega
def J8D {F:Fence}{n:Nat}{P:Program}(w:World){o:Oper}{a:Act}{K:Act→World→Prop}{Q:Exit→Act→World→Prop}
  (s x:Operand)(t:TypeId)(hop:o.op=Op.call { callee:=Callee.builtin Builtin.append,args:=#[s,x],argTypes:=#[t,t] })
  (base:Nat)(e:TypeId)(i:TypeInfo)(z:Value)(size bytes:Nat)(h1:P.underlying t=some (.slice e))(h2:P.info? e=some i)(h3:i.zero=some z)(h4:i.size=size)(h5:i.bytes=bytes)(h6:z.cells.size=size)(h7:0<size)
  (v:Value)(k:Nat)(xs:List Value)(hs:a.eval s=v)(hown:w.ownsRow base e size v k xs)(ad:Addr)(m c:Nat)(news:List Value)(hx:a.eval x=.slice (some ad) m c)(hn:news.length=m*size)
  (hc:∀ j u,news[j]?=some u→w.cell? (ad.add j)=some u)(h1c:∀ u∈news,u.oneCell'=true)(b1:k+m≤maxLen)(b2:(k+m)*bytes≤140737488355328)(b3:base≤w.heap.size)
  (hK':∀ v' w',w'.ownsRow base e size v' (k+m) (xs++news)→w.grownBy w' v.ownBlock→(v'=.slice none 0 0↔v=.slice none 0 0∧m=0)→K (a.put o.dst v') w') :
  o.wpIn F n P a w K Q:=by
 obtain ⟨v',w',hrun,r1,r2,r3⟩:=run_append_own (P:=P) w base t o.type e i z size bytes h1 h2 h3 h4 h5 h6 h7 v k xs hown ad m c news hn hc h1c b1 b2 b3;unfold Oper.wpIn;refine ⟨?_,?_⟩
 ·simp[Oper.about,hop,resolve,Target.leads,QX]
 rw[Oper.semAt_plain F _ _ (by rw[hop];intro c hc';cases hc')];simp[execOp,hop,resolve,invoke,builtin,hs,hx,hrun,Result.andThen];exact hK' _ _ r1 r2 r3
theorem JB6 (b:UInt8):∀ l:List UInt8,(J4R b l).length≤l.length
 |[]=>QM _
 |c::l=>by
   have:=JB6 b l;rw[J5a];split<;>simp<;>omega
def JPa:(Tryz.prog.info? 5).map (fun i=>(i.zero,i.size,i.bytes))=some (some (.int .u8 0),1,1):=by kernel_rfl
def und5:Tryz.prog.underlying 5=some (.int .u8):=by kernel_rfl
def und9:Tryz.prog.underlying 9=some .string:=by kernel_rfl
def JH1:Tryz.prog.underlying 283=some (.slice 5):=by kernel_rfl
def JJf (F:Fence)(n:Nat)(hF:∀ f,F.fn f)(hro:F.round=none)(hn:5≤n)(m:Bool)(b off len cap:Nat)(zs:Nat→Fin 1000000000)(hlen:0<len)(hreach:len≤2^36)(w:World)(hb:b<w.heap.size)
  (hc:∀ j,j<len→w.cell? ⟨b,off+j,none⟩=some (.int .u32 ((zs j).val:Int)))
  (hT:∀ l:List UInt8,l.length<2^62→∀ w',CallsIn F (n-1) Tryz.prog 307 #[.string (ofL l),.string (b1 48)] w' fun e w''=>e=.returned (.string (ofL (J4R 48 l)))∧Below w'.heap.size w' w'') :
  CallsIn F n Tryz.prog 223 #[.agg #[.bool m,.slice (some ⟨b,off,none⟩) len cap]] w fun e W'=>e=.returned (.string (if m then b1 45++ofL (J4R 48 ((txt9 (J1O zs len len)).map UInt8.ofNat)) else ofL (J4R 48 ((txt9 (J1O zs len len)).map UInt8.ofNat))))∧Below w.heap.size w W':=by
 have h1:1≤n:=by omega
 refine callsIn_of_wp_marks Tryz.func223 rfl (hF _) ?_ hro;simp only[ntS,Q1A,QT,Q0R,Nat.reduceAdd,Nat.reduceSub,Q1N,Q1O,Q1g,Q1T,Q07,Q01]
 gi_wp2_with (first
  |(gi_at_call 288;refine (JOC F (n-1) (hF _) hro m (some ⟨b,off,none⟩) len cap hlen _).mono ?_;rintro e w' ⟨rfl,rfl⟩)
  |(gi_at_call 306;refine (JNs F (n-1) (hF _) hro m (some ⟨b,off,none⟩) len cap _).mono ?_;rintro e w' ⟨rfl,rfl⟩))
 obtain ⟨W0,hW0⟩:∃ W0,((((w.alloc (.cells #[.bool m,.slice (some ⟨b,off,none⟩) len cap] 102)).alloc (.cells #[.bool m,.slice (some ⟨b,off,none⟩) len cap] 102)).alloc (.cells #[.slice none 0 0] 283)).alloc (.cells #[.bool m,.slice (some ⟨b,off,none⟩) len cap] 102))=W0:=⟨_,rfl⟩;have hsz:W0.heap.size=w.heap.size+4:=by rw[← hW0];simp
 have hB0:Below w.heap.size w W0:=by rw[← hW0];exact ((((Below.refl _ w).alloc (QM _) _).alloc (by simp) _).alloc (by simp;omega) _).alloc (by simp;omega) _
 have hx3:W0.heap[w.heap.size+3]?=some (.cells #[.bool m,.slice (some ⟨b,off,none⟩) len cap] 102 (0,0)):=by
  rw[← hW0];have:=World.alloc_heap_new (((w.alloc (.cells #[.bool m,.slice (some ⟨b,off,none⟩) len cap] 102)).alloc (.cells #[.bool m,.slice (some ⟨b,off,none⟩) len cap] 102)).alloc (.cells #[.slice none 0 0] 283)) (.cells #[.bool m,.slice (some ⟨b,off,none⟩) len cap] 102)
  simpa using this
 have hx0:W0.heap[w.heap.size]?=some (.cells #[.bool m,.slice (some ⟨b,off,none⟩) len cap] 102 (0,0)):=by
  rw[← hW0,Below.heap_alloc _ _ _ (by simp;omega),Below.heap_alloc _ _ _ (by simp;omega),Below.heap_alloc _ _ _ (by simp)];exact World.alloc_heap_new w _
 have hbx:Boxed W0 (w.heap.size+1+1) 283 (.slice none 0 0):=by
  rw[← hW0];have:=(Boxed.new ((w.alloc (.cells #[.bool m,.slice (some ⟨b,off,none⟩) len cap] 102)).alloc (.cells #[.bool m,.slice (some ⟨b,off,none⟩) len cap] 102)) 283 (.slice none 0 0)).alloc (.cells #[.bool m,.slice (some ⟨b,off,none⟩) len cap] 102)
  simpa using this
 rw[hW0]
 refine wpIn_rangeFunc_ownG hro h1 (gf:=359) (lb:=#[.pointer (some ⟨w.heap.size+3,0,none⟩)]) rfl (hF _) (enters_of Tryz.func359 (by kernel_rfl) rfl)
  (JGA F (n-1) (hF _) hro (by omega) (w.heap.size+3) b off len cap m zs (by omega) W0 (by omega) (by omega) (KpS w.heap.size) (fun A k hk=>rfl) (fun A B C h h' k hk=>(h' k hk).trans (h k hk)) (fun A B h=>h.cell (.inr rfl)) (fun A B j h=>h.cell (.inl hb))
    (by simp[World.cell?,hx3]) (by simp[World.cell?,hx3]) (fun j hj=>(hB0.cell (p:=⟨b,off+j,none⟩) hb).trans (hc j hj)))
  (fun h h' k hk=>(h' k hk).trans (h k hk)) (fun W l o o' hl _ _ _ k hk=>World.putObj_heap_other (by omega)) (Below.refl _ _) (fun _=>rfl)
  (fun pre W=>(∃ v,Boxed W (w.heap.size+1+1) 283 v∧W.ownsRow (w.heap.size+4) 5 1 v (txt9 pre).length ((txt9 pre).map J2y))∧Below w.heap.size w W∧W0.heap.size≤W.heap.size∧W.heap[w.heap.size]?=some (.cells #[.bool m,.slice (some ⟨b,off,none⟩) len cap] 102 (0,0)))
  (fun _ _ _=>False)
  ?hI (fun _ _ _ _ _ hs _ _=>hs) ⟨⟨_,hbx,?h0⟩,hB0,QM _,hx0⟩
  (fun x=>{ tmps:=#[.agg #[.bool m,.slice (some ⟨b,off,none⟩) len cap],.pointer (some ⟨w.heap.size,0,none⟩),.string ⟨#[]⟩,.pointer (some ⟨w.heap.size+1+1,0,none⟩),undef,.int .u32 (x.2.val:Int),undef,undef,undef,.agg #[.bool m,.slice (some ⟨b,off,none⟩) len cap],.bool false,.agg #[.bool m,.slice (some ⟨b,off,none⟩) len cap],.func (.func 359) #[] #[.pointer (some ⟨w.heap.size+1+1+1,0,none⟩)],.int .i64 (x.1:Int),.int .u32 (x.2.val:Int),undef,undef,undef,undef,undef,undef,undef,undef,undef,undef,undef,undef,undef,undef,undef,undef,undef,undef,undef,undef,undef,undef,undef],defers:=[] }) ?assign ?body ?done ?stop
 case stop=>
  rintro D c pre W _ _ h _;exact h.elim
 case h0=>exact Q1e _ _ _ _
 case assign=>
  intro l x W K hK
  gi_wp2
  exact hK
 case hI=>
  refine OwnFrom.and (Own.from ?_ _) (OwnFrom.and (ownFrom_below (QM _) (by omega)) (OwnFrom.and (fun s X Y row h hg _=>Qg h hg.size) (fun s X Y row h hg hr=>(hg.block _ (QU.1 h).1 (fun e=>by obtain ⟨_,o,ho,hc⟩:=hr _ e.symm;rw[h] at ho;cases ho;cases hc)).trans h)));rintro s X Y row ⟨v,hv,hr⟩ hg hrow;obtain ⟨v',hv',hr',-⟩:=holdsRow_own (w.heap.size+4) (w.heap.size+1+1) 283 5 1 (fun s=>(txt9 s).length) (fun s=>(txt9 s).map J2y) (fun _ _=>True) s X Y row ⟨v,hv,hr,trivial⟩ hg hrow;exact ⟨v',hv',hr'⟩
 case body =>
  rintro l pre x W ⟨⟨v,hv,hrow⟩,hB,hWs,hx1⟩ hlt
  gi_wp2
  gi_loopw [5,7] (fun wd i wr=>∃ j:Nat,j≤9∧wd=.int .u32 ((x.2.val/10 ^ j:Nat):Int)∧i=.int .i64 (8-(j:Int))∧W.grownBy wr none∧wr.heap.size=W.heap.size+1∧wr.heap[W.heap.size]?=some (.cells (JA3 x.2.val j) 334 (0,0)))
   (fun _ i _=>(intOf i+1).toNat)
  case atStart=>
   exact ⟨0,by omega,by simp,rfl,World.grownBy_alloc W _ none,by simp,World.alloc_heap_new W _⟩
  case round=>
   obtain ⟨j,hj,rfl,rfl,hg,hsw,hp⟩:=hrel
   by_cases hj9:j<9
   ·have hge:(0:Int)≤8-(j:Int):=by omega
    have hdv:x.2.val/10 ^ j<1000000000:=Q13 (Q1c _ _) x.2.isLt;generalize hvv:x.2.val/10 ^ j=vv at hdv ⊢;have e8:(8:Int)-j=((8-j:Nat):Int):=by omega
    have hsz9:(JA3 x.2.val j).size=9:=by unfold JA3 dig9;simp<;>omega
    obtain ⟨u,hu⟩:∃ u,(JA3 x.2.val j)[8-j]?=some u:=⟨_,QN (by rw[hsz9];omega)⟩;have hcl:wr.cell? ⟨W.heap.size,8-j,none⟩=some u:=by simp[World.cell?,hp,hu]
    have hfz:wr.frozen? ⟨W.heap.size,8-j,none⟩=false:=by simp[World.frozen?,hp]
    rw[e8]
    gi_wp2
    refine ⟨⟨j+1,by omega,?_,?_,JIO hg _ _,?_,?_⟩,?_⟩
    ·rw[Q0Q,← Q1B,hvv];rfl
    ·congr 1;omega
    ·simp[hsw]
    ·rw[JHX hp,JFq x.2.val j hj9,hvv];rfl
    simp[intOf]<;>omega
   obtain rfl:j=9:=by omega
   have hv2:=hv.kept hg (by simp);have hrow2:wr.ownsRow (w.heap.size+4) 5 1 v (txt9 pre).length ((txt9 pre).map J2y):=hrow.kept hg (by rcases h:v.ownBlock with _|g;exact .inl rfl;exact .inr (by simp));have hcv:=hv2.cell;have hfv:=hv2.frozen;have hp9:(JA3 x.2.val 9)=((dig9 x.2.val).map J2y).toArray:=by unfold JA3;simp
   rw[hp9] at hp;have hl9:((dig9 x.2.val).map J2y).length=9*1:=by simp[dig9]
   have hnw:∀ j u,((dig9 x.2.val).map J2y)[j]?=some u→wr.cell? (Addr.add ⟨W.heap.size,0,none⟩ j)=some u:=by
    intro j u hu;have:Addr.add ⟨W.heap.size,0,none⟩ j=⟨W.heap.size,j,none⟩:=by unfold Addr.add;split<;>simp_all
    rw[this];simp only[World.cell?,hp]
    simpa using hu
   obtain ⟨i0,hi,hz0,hz1,hz2⟩:=info_parts JPa;have hw4:w.heap.size+4≤wr.heap.size:=by rw[hsw];have:=hB.size;have:=hv.lt;omega
   have hK9:(txt9 pre).length+9≤9*len:=by rw[J3T];omega
   have hmx:Tryz.prog.follows .mixedOrders=true:=by kernel_rfl
   gi_wp2
   refine wpIn_region_any hmx ?_
   change wpAnyIn _ _ _ _ _ _ _ _ _ (World.drew _)
   refine wpAnyIn_ready (rs:=[0,1]) (by kernel_rfl) (by simp) ?_;refine AllReadyIn.cons rfl (fun K hK=>?_) (AllReadyIn.cons rfl (fun K hK=>?_) AllReadyIn.nil)
   ·go_simp
    refine hK _ _ ?_;clear hK K;refine wpAnyIn_ready (rs:=[1]) (by kernel_rfl) (by simp) ?_;refine AllReadyIn.cons rfl (fun K hK=>?_) AllReadyIn.nil
    go_simp
    refine hK _ _ ?_;clear hK K;refine wpAnyIn_ready (rs:=[2]) (by kernel_rfl) (by simp) ?_;refine AllReadyIn.cons rfl (fun K hK=>?_) AllReadyIn.nil;refine Eq.mpr (if_pos (by rfl)) ?_;refine J8D (wr.drew) (o:=_) _ _ 283 rfl (w.heap.size+4) 5 i0 (.int .u8 0) 1 1 JH1 hi hz0 hz1 hz2 rfl (by decide) v _ _ rfl hrow2 ⟨W.heap.size,0,none⟩ 9 9 ((dig9 x.2.val).map J2y) rfl hl9 hnw (by intro u hu;obtain ⟨d,_,rfl⟩:=Qs.1 hu;rfl) (by unfold maxLen;omega) (by omega) hw4 fun v' w3 hown' hgrow3 hnil3=>hK _ _ ?_;clear hK K;obtain ⟨g',cap',rfl⟩:=ownsRow_succ hown';have hv3:Boxed w3 _ _ _:=Boxed.kept (W:=wr.drew) hv2 hgrow3 (hv2.not_row (by decide) hrow2);have hc3:=hv3.cell;have hf3:=hv3.frozen;refine wpAnyIn_ready (rs:=[3]) (by kernel_rfl) (by simp) ?_;refine AllReadyIn.cons rfl (fun K hK=>?_) AllReadyIn.nil
    go_simp
    refine hK _ _ ?_;clear hK K;refine wpAnyIn_done (by kernel_rfl) ?_ _;have hgd:wr.grownBy wr.drew none:=⟨rfl,rfl,rfl,QM _,fun k _ _=>rfl⟩;have hne:∀ k,k<w.heap.size+4→some k≠v.ownBlock:=fun k hk e=>by have:=(hrow2.lt k e.symm).1;omega
    have hg4:w3.grownBy (w3.setCell ⟨w.heap.size+1+1,0,none⟩ (.slice (some ⟨g',0,none⟩) ((txt9 pre).length+8+1) cap')) (some (w.heap.size+1+1)):=grownBy_setCell' _ _ _;refine ⟨?k1,?k2,⟨_,hv3.set _,?k3⟩,?k4,?k5,?k6⟩
    case k1=>
     refine (((KeepsOthers.of_grownBy hg (fun j o e=>by cases e)).trans ((KeepsOthers.drew wr).trans (KeepsOthers.of_grownBy hgrow3 (fun j o ej hj=>?_)))).trans (KeepsOthers.setCell _ _ _)).from _
     rcases hrow2.2 with ⟨rfl,_⟩|⟨g,cap,cur,rfl,_,hgb,_⟩
     ·simp[Value.ownBlock] at ej
     have:g=j:=by simpa [Value.ownBlock] using ej
     subst this;rw[show wr.drew.heap[g]?=_ from hgb] at hj;cases hj;rfl
    case k2=>
     intro k hk;refine (Below.heap_setCell _ _ _ k (by simp;omega)).trans ((hgrow3.block k (show k<wr.heap.size by omega) (hne k (by omega))).trans (hg.block k (by omega) (by simp)))
    case k3=>
     have hsn:(txt9 (pre++[x])).map J2y=(txt9 pre).map J2y++(dig9 x.2.val).map J2y:=by unfold txt9;simp
     have hln:(txt9 (pre++[x])).length=(txt9 pre).length+9:=by rw[J3T,J3T];simp;omega
     rw[hsn,hln];exact hown'.kept hg4 (.inr (hv3.not_row (by decide) hown').symm)
    case k4=>
     have b1:=(hB.grown hg hB.size (fun k e=>by cases e)).drew;have b2:=b1.grown hgrow3 (show _≤wr.heap.size by omega) (fun k e=>by have:=(hrow2.lt k e).1;omega);exact b2.grown hg4 b2.size (fun k e=>by cases e;omega)
    case k6=>exact ((hg4.block _ (by have:=hgrow3.size;have:wr.drew.heap.size=wr.heap.size:=rfl;omega) (by simp;omega)).trans ((hgrow3.block _ (show w.heap.size<wr.heap.size by omega) (hne _ (by omega))).trans (hg.block _ (by omega) (by simp)))).trans hx1
    case k5=>exact Qg (show W0.heap.size≤wr.heap.size by omega) (Qg hgrow3.size hg4.size)
   go_simp
   refine hK _ _ ?_;clear hK K;refine wpAnyIn_ready (rs:=[0]) (by kernel_rfl) (by simp) ?_;refine AllReadyIn.cons rfl (fun K hK=>?_) AllReadyIn.nil
   go_simp
   refine hK _ _ ?_;clear hK K;refine wpAnyIn_ready (rs:=[2]) (by kernel_rfl) (by simp) ?_;refine AllReadyIn.cons rfl (fun K hK=>?_) AllReadyIn.nil;refine Eq.mpr (if_pos (by rfl)) ?_;refine J8D (wr.drew) (o:=_) _ _ 283 rfl (w.heap.size+4) 5 i0 (.int .u8 0) 1 1 JH1 hi hz0 hz1 hz2 rfl (by decide) v _ _ rfl hrow2 ⟨W.heap.size,0,none⟩ 9 9 ((dig9 x.2.val).map J2y) rfl hl9 hnw (by intro u hu;obtain ⟨d,_,rfl⟩:=Qs.1 hu;rfl) (by unfold maxLen;omega) (by omega) hw4 fun v' w3 hown' hgrow3 hnil3=>hK _ _ ?_;clear hK K;obtain ⟨g',cap',rfl⟩:=ownsRow_succ hown';have hv3:Boxed w3 _ _ _:=Boxed.kept (W:=wr.drew) hv2 hgrow3 (hv2.not_row (by decide) hrow2);have hc3:=hv3.cell;have hf3:=hv3.frozen;refine wpAnyIn_ready (rs:=[3]) (by kernel_rfl) (by simp) ?_;refine AllReadyIn.cons rfl (fun K hK=>?_) AllReadyIn.nil
   go_simp
   refine hK _ _ ?_;clear hK K;refine wpAnyIn_done (by kernel_rfl) ?_ _;have hgd:wr.grownBy wr.drew none:=⟨rfl,rfl,rfl,QM _,fun k _ _=>rfl⟩;have hne:∀ k,k<w.heap.size+4→some k≠v.ownBlock:=fun k hk e=>by have:=(hrow2.lt k e.symm).1;omega
   have hg4:w3.grownBy (w3.setCell ⟨w.heap.size+1+1,0,none⟩ (.slice (some ⟨g',0,none⟩) ((txt9 pre).length+8+1) cap')) (some (w.heap.size+1+1)):=grownBy_setCell' _ _ _;refine ⟨?k1,?k2,⟨_,hv3.set _,?k3⟩,?k4,?k5,?k6⟩
   case k1=>
    refine (((KeepsOthers.of_grownBy hg (fun j o e=>by cases e)).trans ((KeepsOthers.drew wr).trans (KeepsOthers.of_grownBy hgrow3 (fun j o ej hj=>?_)))).trans (KeepsOthers.setCell _ _ _)).from _
    rcases hrow2.2 with ⟨rfl,_⟩|⟨g,cap,cur,rfl,_,hgb,_⟩
    ·simp[Value.ownBlock] at ej
    have:g=j:=by simpa [Value.ownBlock] using ej
    subst this;rw[show wr.drew.heap[g]?=_ from hgb] at hj;cases hj;rfl
   case k2=>
    intro k hk;refine (Below.heap_setCell _ _ _ k (by simp;omega)).trans ((hgrow3.block k (show k<wr.heap.size by omega) (hne k (by omega))).trans (hg.block k (by omega) (by simp)))
   case k3=>
    have hsn:(txt9 (pre++[x])).map J2y=(txt9 pre).map J2y++(dig9 x.2.val).map J2y:=by unfold txt9;simp
    have hln:(txt9 (pre++[x])).length=(txt9 pre).length+9:=by rw[J3T,J3T];simp;omega
    rw[hsn,hln];exact hown'.kept hg4 (.inr (hv3.not_row (by decide) hown').symm)
   case k4=>
    have b1:=(hB.grown hg hB.size (fun k e=>by cases e)).drew;have b2:=b1.grown hgrow3 (show _≤wr.heap.size by omega) (fun k e=>by have:=(hrow2.lt k e).1;omega);exact b2.grown hg4 b2.size (fun k e=>by cases e;omega)
   case k6=>exact ((hg4.block _ (by have:=hgrow3.size;have:wr.drew.heap.size=wr.heap.size:=rfl;omega) (by simp;omega)).trans ((hgrow3.block _ (show w.heap.size<wr.heap.size by omega) (hne _ (by omega))).trans (hg.block _ (by omega) (by simp)))).trans hx1
   case k5=>exact Qg (show W0.heap.size≤wr.heap.size by omega) (Qg hgrow3.size hg4.size)
 case done=>
  rintro D xs W hD rfl ⟨⟨v,hv,hrow⟩,hB,hWs,hx1⟩ hK;have hcv:=hv.cell;have hfv:=hv.frozen;obtain ⟨T,hTe⟩:∃ T:List UInt8,T=(txt9 (J1O zs len len)).map UInt8.ofNat:=⟨_,rfl⟩;have hTl:T.length=(txt9 (J1O zs len len)).length:=by rw[hTe,Q3]
  have hT9:T.length=9*len:=by rw[hTl,J3T,J51]
  have htb:T.map (fun b=>Value.int .u8 (b.toNat:Int))=(txt9 (J1O zs len len)).map J2y:=by
   rw[hTe,Q0p];refine Qk fun d hd=>?_
   have hd':d<256:=by
    unfold txt9 dig9 at hd;obtain ⟨x,_,hx⟩:=Q0i.1 hd;obtain ⟨i,_,rfl⟩:=Qs.1 hx;omega
   show Value.int .u8 (((UInt8.ofNat d).toNat:Nat):Int)=Value.int .u8 d
   rw[show (UInt8.ofNat d).toNat=d by simp;omega]
  rw[← htb,← hTl] at hrow
  rcases hrow.2 with ⟨_,h0⟩|⟨g,cap2,cur,rfl,hbg,hgb,hr1,hr2,hr3,hr4⟩
  ·omega
  have hcells:∀ j (hj:j<T.length),W.cell? (Addr.add ⟨g,0,none⟩ j)=some (.int .u8 (T[j].toNat:Int)):=by
   intro j hj;have e:Addr.add ⟨g,0,none⟩ j=⟨g,j,none⟩:=by unfold Addr.add;split<;>simp_all
   rw[e];simp only[World.cell?,hgb];have h5:(cur.toList.take (T.length*1))[j]?=some (.int .u8 (T[j].toNat:Int)):=by rw[hr4,Ql,Q8 hj];rfl
   rw[Q0c,if_pos (by omega)] at h5
   simpa using h5
  have hcvt:=run_convert_bytes_back (P:=Tryz.prog) W 283 9 5 ⟨g,0,none⟩ cap2 T JH1 und5 und9 hcells;have hTT:=hT T (by omega);have hm1:W.cell? ⟨w.heap.size,0,none⟩=some (.bool m):=by simp[World.cell?,hx1]
  have hlen2:=hreach;clear hcells hgb hr1 hr2 hr3 hr4 htb hT hc hx1 hlen hreach hb hx0 hx3 hbx hB0 hW0;have hTo:T=(txt9 (J1O zs len len)).map UInt8.ofNat∨False:=.inl hTe
  have hsT:¬ 9223372036854775807<1+(ofL (J4R 48 T)).size:=by
   rw[J04];have:=JB6 48 T;omega
  clear hTe hTl hT9
  gi_wp2_with (rw[hcvt];dsimp only[Result.andThen,Oper.uponIn])
  refine (hTT _).mono ?_;rintro e w' ⟨rfl,hBT⟩;have hm2:=(hBT.cell (p:=⟨w.heap.size,0,none⟩) (by have:=hB.size;show w.heap.size<W.heap.size;omega)).trans hm1;have hDW:D<W.heap.size:=(QU.1 hK).1;have hK':w'.heap[D]?=some (.deferred (some [])):=(hBT.block D hDW).trans hK
  have hBw:Below w.heap.size w (w'.putObj D (.deferred none)):=by
   have hsz2:(w'.putObj D (.deferred none)).heap.size=w'.heap.size:=by simp[World.putObj]
   have b1:Below w.heap.size w w':=hB.trans (hBT.mono (by omega));exact b1.trans ⟨rfl,rfl,rfl,by rw[hsz2];exact QM _,fun k hk=>World.putObj_heap_other (by omega)⟩
  clear hcvt hTT hcv hv hrow hfv hm1 hB hWs hK hBT
  gi_wp2
  ·rcases hTo with hTe | hf
   case inr=>exact hf.elim
   subst hTe;refine ⟨by simp,.inl ⟨_,_,rfl,run_takeDeferred hK',?_⟩⟩;exact ⟨_,results_tmp rfl _ _ _,rfl,hBw⟩
  ·exact absurd (by assumption:m=true) (by simp[*])
  rcases hTo with hTe|hf
  case inr=>exact hf.elim
  subst hTe;refine ⟨by simp,.inl ⟨_,_,rfl,run_takeDeferred hK',?_⟩⟩;exact ⟨_,results_tmp rfl _ _ _,rfl,hBw⟩
end Go.Proofs.YtlblbldolhiokaaGreatDoor
namespace Go.Fw
def JLQ {l:List Nat}{i n:Nat}(h:l.drop i=List.replicate n 0)(hn:0<n):∃ h':i<l.length,l[i]=0∧l.drop (i+1)=List.replicate (n-1) 0:=by
 have h':i<l.length:=by
  rcases QI i l.length with h1|h1
  ·exact h1
  rw[Q9 h1] at h;have:=QC List.length h;simp at this;omega
 obtain ⟨m,rfl⟩:∃ m,n=m+1:=⟨n-1,by omega⟩;rw[Q6 h',Q1D] at h;have h2:=Q2e h;exact ⟨h',h2.1,by simpa using h2.2⟩
def drop_set {l:List Nat}{i d:Nat}:(l.set i d).drop (i+1)=l.drop (i+1):=by
 rw[List.drop_set];simp
def JO9 {b a c n o V:Nat}(hb:1<b)(ha:a<b ^ n)(hc:c<b ^ n)(h:V+o*b ^ (n+1)=a+c):o=0:=by
 rcases Qr o with h0|h0
 ·exact h0
 exfalso;have h1:b ^ (n+1)≤o*b ^ (n+1):=Q3A _ h0;have h2:2*b ^ n≤b ^ (n+1):=by rw[Q0Q,Q0A];exact Qt _ hb
 omega
def JHC {b:Nat}(hb:1<b)(n f:Nat):vl b ((dg b n).drop f)=n/b ^ f:=by
 rcases QI (dg b n).length f with h|h
 ·rw[Q9 (by omega)];have h1:=J1l hb n;have:b ^ (dg b n).length≤b ^ f:=Q05 (by omega) (by omega);rw[Q0X (by omega)];rfl
 rw[J44 (J0J hb n) f h,J0v hb]
def dvT (b y:Nat):Nat:=y/b ^ ((dg b y).length-2)+if 0<(dg b y).length-2 then 1 else 0
def JPB {b r y:Nat}(hb:1<b):r/b ^ ((dg b y).length-2)/dvT b y*y≤r:=by
 unfold dvT
 by_cases h:0<(dg b y).length-2
 ·rw[if_pos h];exact JLE (by omega) rfl
 rw[if_neg h];have:(dg b y).length-2=0:=by omega
 rw[this];simp only[Q3B,Q2v,Q0O];exact Q1R r y
def JNr {b y:Nat}(hb:1<b)(hy:0<y):0<dvT b y:=by
 unfold dvT
 by_cases h:0<(dg b y).length-2
 ·rw[if_pos h];exact Nat.succ_pos _
 rw[if_neg h];have:(dg b y).length-2=0:=by omega
 rw[this];simpa using hy
def JPA {b y:Nat}(hb:1<b):dvT b y≤b ^ 2:=by
 unfold dvT;have h1:=J1l hb y
 have h2:y/b ^ ((dg b y).length-2)<b ^ 2:=by
  refine Q03 ?_;rw[← Q1W];exact QP h1 (Q05 (by omega) (by omega))
 split<;>omega
def JI2 {b a y i d:Nat}(hd:d=a/b ^ i%b)(hy:0<y)(hb:0<b) :
  a/b ^ i%y=(d+b*(a/b ^ (i+1)%y))%y∧a/b ^ i/y=(d+b*(a/b ^ (i+1)%y))/y+b*(a/b ^ (i+1)/y):=by
 have h1:a/b ^ i=d+b*(a/b ^ (i+1)):=by
  rw[hd,Q0Q,← Q1B];exact (Q0s _ b).symm
 have h2:=Q0s (a/b ^ (i+1)) y;generalize a/b ^ (i+1)%y=r at *;generalize a/b ^ (i+1)/y=q at *;rw[h1,← h2];have h3:d+b*(r+y*q)=d+b*r+y*(b*q):=by grind
 rw[h3];exact ⟨Q0k ..,Q1f _ _ hy⟩
def JEq {b:Nat}(hb:1<b):∀ (n i:Nat) (h:i<(dg b n).length),(dg b n)[i]=n/b ^ i%b:=by
 intro n
 induction n using Nat.strongRecOn with
 |ind n ih=>
   intro i h
   by_cases hn:0<n
   ·simp only[J53 hb hn] at h ⊢
    cases i with
    |zero=>simp
    |succ i=>
      rw[Q0b,ih _ (Q1z hn hb),Q1B,Q0Q,Q0A b]
   rw[show n=0 by omega,J0l] at h;simp at h
def dl (n:Nat):Nat→List Nat
 |0=>[]
 |p+1=>(48+n/10 ^ p%10)::dl n p
theorem JBy (n:Nat):∀ p,(dl n p).length=p
 |0=>rfl
 |p+1=>by simp[dl,JBy n p]
theorem JLS (n:Nat):∀ p,(dl n p).all isDg=true
 |0=>rfl
 |p+1=>by
   rw[dl,Q0l,JLS n p,Q0e];unfold isDg;have:=Q0B (n/10 ^ p) (show 0<10 by omega);exact Q2 (by omega)
theorem JIf (n:Nat):∀ p,decB (dl n p)=n%10 ^ p
 |0=>by simp[dl,decB,vl,Nat.mod_one]
 |p+1=>by
   have h:dl n (p+1)=[48+n/10 ^ p%10]++dl n p:=rfl;rw[h,JAR,JIf n p,JBy];have h1:decB [48+n/10 ^ p%10]=n/10 ^ p%10:=by simp[decB,vl]
   rw[h1,Q0Q,Nat.mod_mul]
   grind
theorem JMN (n m:Nat):∀ p,n%10 ^ p=m%10 ^ p→dl n p=dl m p
 |0,_=>rfl
 |p + 1,h=>by
   rw[Q0Q,Nat.mod_mul,Nat.mod_mul] at h;have hp:0<10 ^ p:=Q1V (by omega);have h1:n%10 ^ p<10 ^ p:=Q0B _ hp;have h2:m%10 ^ p<10 ^ p:=Q0B _ hp
   have h3:n%10 ^ p=m%10 ^ p:=by
    have:=QC (· % 10 ^ p) h
    simpa [Q0k] using this
   have h4:n/10 ^ p%10=m/10 ^ p%10:=by
    rw[h3] at h;exact Q2s hp (by omega)
   rw[dl,dl,h4,JMN n m p h3]
theorem JMO (n p:Nat):∀ q,dl n (q+p)=dl (n/10 ^ p) q++dl n p
 |0=>by simp[dl]
 |q+1=>by
   rw[show q+1+p=q+p+1 by omega,dl,JMO n p q,dl,Q01,Q1B,← Q1W,Q3s p q]
def cut0:List Nat→List Nat
 |[]=>[]
 |c::l=>if c=48 then cut0 l else c::l
theorem JAa:∀ l:List Nat,decB (cut0 l)=decB l
 |[]=>rfl
 |c :: l=>by
   unfold cut0;split
   ·rename_i h;rw[JAa l,show c::l=[c]++l from rfl,JAR,h];simp[decB,vl]
   rfl
def JLZ {l:List Nat}(h:l.all isDg=true):(cut0 l).all isDg=true:=by
 induction l with
 |nil=>rfl
 |cons c l ih=>
   rw[Q0l,Q5] at h;unfold cut0;split
   ·exact ih h.2
   rw[Q0l,h.1,h.2];rfl
def JNz (l:List Nat):cut0 l=[]∨(cut0 l).getD 0 0≠48:=by
 induction l with
 |nil=>exact .inl rfl
 |cons c l ih=>
   unfold cut0;split
   ·exact ih
   rename_i h;exact .inr (by simpa using h)
def JCA {l:List Nat}(h:l.all isDg=true)(h0:0<decB l):cut0 l=decT (decB l):=by
 have hne:cut0 l≠[]:=fun e=>by have:=JAa l;rw[e,show decB []=0 from rfl] at this;omega
 have hc:J20 (cut0 l)=true:=by
  unfold J20;rw[JLZ h,Q0e];simp only[Q5,Q09,Qa];exact ⟨Q1C.2 hne,.inr ((JNz l).resolve_left hne)⟩
 have:=J56 hc;rw[JAa] at this;exact this.symm
def J55 (n:Nat):(decT n).length=if n=0 then 1 else (dg 10 n).length:=by
 unfold decT;split<;>simp
def decT_lt (n:Nat):n<10 ^ (decT n).length:=by
 have:=JIm (J2F n)
 rwa [JC4] at this
def JNv (n:Nat):dl n (decT n).length=decT n:=by
 by_cases h:n=0
 ·subst h;rfl
 have h1:decB (dl n (decT n).length)=n:=by rw[JIf,Q0M (decT_lt n)]
 have h2:=JCA (JLS n (decT n).length) (by rw[h1];omega);rw[h1] at h2;have h3:=QC List.length h2
 have h4:∀ l:List Nat,(cut0 l).length≤l.length∧((cut0 l).length=l.length→cut0 l=l):=by
  intro l
  induction l with
  |nil=>exact ⟨QM _,fun _=>rfl⟩
  |cons c l ih=>
    unfold cut0;split
    ·exact ⟨by have:=ih.1;simp;omega,fun e=>by have:=ih.1;simp at e;omega⟩
    exact ⟨QM _,fun _=>rfl⟩
 have h5:=(h4 (dl n (decT n).length)).2 (by rw[h3,JBy]);rw[← h5,h2]
def JC2 {k:Nat}(hk:0<k)(n:Nat)(hn:0<n):(decT n).length=k*((dg (10 ^ k) n).length-1)+(dg 10 ((dg (10 ^ k) n).getD ((dg (10 ^ k) n).length-1) 0)).length:=by
 have hb:1<10 ^ k:=Nat.one_lt_pow (by omega) (by omega);have hl:(dg (10 ^ k) n).length≠0:=fun e=>by have:=(J2A hb n).1 (Qu.1 e);omega
 obtain ⟨m,hm⟩:∃ m,(dg (10 ^ k) n).length=m+1:=⟨(dg (10 ^ k) n).length-1,by omega⟩;rw[hm,Q11,← J0g (by omega),JEq hb _ _ (by omega)];have h1:=J1l hb n;rw[hm,Q0Q] at h1;have h2:n/(10 ^ k) ^ m<10 ^ k:=Q03 h1;rw[Q0M h2];have h3:=JIj hb n hn;rw[hm,Q11] at h3;have hp:0<(10 ^ k) ^ m:=Q1V (by omega);have h4:0<n/(10 ^ k) ^ m:=Q3Z h3 hp;rw[J55,if_neg (by omega)];generalize ht:n/(10 ^ k) ^ m=t at h2 h4;have h5:(10 ^ k) ^ m=10 ^ (k*m):=by rw[Q1h]
 rw[h5] at ht hp;have h6:t*10 ^ (k*m)≤n:=by rw[← ht];exact Q1R ..
 have h7:n<(t+1)*10 ^ (k*m):=by
  have:=Nat.lt_div_mul_add (a:=n) hp;rw[ht] at this;rw[Q14,Nat.one_mul];omega
 have h8:=J1l (b:=10) (by omega) t;have h9:=JIj (b:=10) (by omega) t h4;have h10:(dg 10 t).length≠0:=fun e=>by have:=(J2A (by omega) t).1 (Qu.1 e);omega
 apply Nat.le_antisymm
 ·refine J0F (by omega) (QP h7 ?_);rw[Q1W,Q0A];exact Qt _ h8
 have h11:10 ^ (k*m+((dg 10 t).length-1))≤n:=by
  rw[Q1W,Q0A];exact Qg (Qf _ h9) h6
 have h12:=J1l (b:=10) (by omega) n;have:=(Q2G (show 1<10 by omega)).1 (Q13 h11 h12);omega
def JNx {k n i j:Nat}(hj:j<k):n/(10 ^ k) ^ i%10 ^ k/10 ^ j%10=n/10 ^ (k*i+j)%10:=by
 rw[← Q1h,Q1W,← Q1B];generalize n/10 ^ (k*i)=t;obtain ⟨m,rfl⟩:∃ m,k=j+1+m:=⟨k-j-1,by omega⟩;rw[Q1W,Q0Q,Q3j];rw[Nat.mod_mul_right_div_self,Nat.mod_mul_right_mod]
end Go.Fw
namespace Go.Proofs.YtlblbldolhiokaaGreatDoor
open Go Go.RowKit Go.Fw
attribute [local go_sem] Q3L
def JNy (v:Nat):dig9 v=dl v 9:=by
 simp[dig9,dl,List.range,List.range.loop]
theorem JMD (n len:Nat)(zs:Nat→Fin 1000000000)(hz:∀ j,j<len→(zs j).val=n/B9 ^ j%B9):∀ k,k≤len→txt9 (J1O zs len k)++dl n (9*(len-k))=dl n (9*len)
 |0,_=>rfl
 |k+1,hk=>by
   have ih:=JMD n len zs hz k (by omega);rw[← ih,J4E];have e:txt9 (J1O zs len k++[(len-1-k,zs (len-1-k))])=txt9 (J1O zs len k)++dig9 (zs (len-1-k)).val:=by unfold txt9;simp
   rw[e,Qo]
   congr 1
   rw[show 9*(len-k)=9+9*(len-(k+1)) by omega,JMO,JNy]
   congr 1
   refine JMN _ _ 9 ?_;rw[hz _ (by omega),show len-(k+1)=len-1-k by omega,show (B9:Nat)=10 ^ 9 from rfl,← Q1h,Nat.mod_mod]
def JH8 {L:List Nat}(h:L.all isDg=true):J4R 48 (L.map UInt8.ofNat)=(cut0 L).map UInt8.ofNat:=by
 induction L with
 |nil=>rfl
 |cons c L ih=>
   rw[Q0l,Q5] at h;rw[QK,J5a,ih h.2];have hc:=h.1;unfold isDg at hc;simp at hc;rw[show cut0 (c::L)=if c=48 then cut0 L else c::L from rfl]
   by_cases e:c=48
   ·subst e;rfl
   rw[if_neg e,if_neg,QK];intro e2;have:=QC UInt8.toNat e2;simp at this;omega
def JFM (n len:Nat)(hl:len=(dg B9 n).length)(hn:0<n)(zs:Nat→Fin 1000000000)(hz:∀ j (h:j<(dg B9 n).length),(zs j).val=(dg B9 n)[j]) :
  J4R 48 ((txt9 (J1O zs len len)).map UInt8.ofNat)=(decT n).map UInt8.ofNat:=by
 have h1:=JMD n len zs (fun j hj=>by rw[hz j (by omega),JEq hB9]) len (QM _);rw[Q3F,Q39,dl,Q08] at h1
 have hlt:n<10 ^ (9*len):=by
  rw[hl,Q1h];exact J1l hB9 n
 have hv:decB (dl n (9*len))=n:=by rw[JIf,Q0M hlt]
 rw[h1,JH8 (JLS _ _),JCA (JLS _ _) (by rw[hv];exact hn),hv]
def JLn (F:Fence)(n:Nat)(h6:F.fn 288)(hro:F.round=none)(m:Bool)(a:Option Addr)(cap:Nat)(w:World) :
  CallsIn F n Tryz.prog 288 #[.agg #[.bool m,.slice a 0 cap]] w fun e w'=>e=.returned (.bool true)∧w'=w.alloc (.cells #[.bool m,.slice a 0 cap] 102):=by
 refine callsIn_of_wp Tryz.func288 rfl h6 ?_ hro;simp only[ntZ,Q1A,QT,Q0R,Nat.reduceAdd,Nat.reduceSub,Q1N,Q1O,Q1g,Q1T,Q07,Q01]
 gi_wp2
 go_ret
 exact ⟨rfl,rfl⟩
def J64 (F:Fence)(n:Nat)(hF:∀ f,F.fn f)(hro:F.round=none)(hn:5≤n)(m:Bool)(a:Option Addr)(cap:Nat)(w:World) :
  CallsIn F n Tryz.prog 223 #[.agg #[.bool m,.slice a 0 cap]] w fun e W'=>e=.returned (.string ⟨#[48]⟩)∧Below w.heap.size w W':=by
 have h1:1≤n:=by omega
 refine callsIn_of_wp_marks Tryz.func223 rfl (hF _) ?_ hro;simp only[ntS,Q1A,QT,Q0R,Nat.reduceAdd,Nat.reduceSub,Q1N,Q1O,Q1g,Q1T,Q07,Q01]
 gi_wp2_with (gi_at_call 288;refine (JLn F (n-1) (hF _) hro m a cap _).mono ?_;rintro e w' ⟨rfl,rfl⟩)
 refine ⟨_,results_tmp rfl _ _ _,rfl,?_⟩;exact ((Below.refl _ w).alloc (QM _) _).alloc (by simp) _
def JPG {us:Array Value}(h:2=us.size):∃ a b,us=#[a,b]:=by
 obtain ⟨l⟩:=us
 match l,h with
 |[a,b],_=>exact ⟨a,b,rfl⟩
def JPH {us:Array Value}(h:1=us.size):∃ a,us=#[a]:=by
 obtain ⟨l⟩:=us
 match l,h with
 |[a],_=>exact ⟨a,rfl⟩
def encT (l:List Nat):AV:=encS (ofL (l.map UInt8.ofNat))
def sT (z:Int):List Nat:=if z<0 then 45::decT z.natAbs else decT z.natAbs
def J5K (z:Int)(hz:zl z<2^36):PX 223 [encZ z] (encT (sT z)):=by
 intro O w vs hO hv;obtain ⟨hs,h⟩:=hv;obtain ⟨v,rfl⟩:=JPH hs;have hv0:VR KM.empty w O (encZ z) v:=h 0 (by simp) (by simp);clear h hs;rw[J0a] at hv0
 cases hv0 with
 |agg _ us hl hu hp=>
   obtain ⟨x,y,rfl⟩:=JPG hl;have hx:VR KM.empty w O (.val (.bool (decide (z<0)))) x:=hu 0 (by simp) (by simp);have hy:VR KM.empty w O (.sl 1 ((dg B9 z.natAbs).map encw)) y:=hu 1 (by simp) (by simp);clear hu hp hl
   cases hx with
   |val _ _ =>
     have fin:∀ (e:Ending) (w':World),e=.returned (.string (ofL ((sT z).map UInt8.ofNat)))∧Below w.heap.size w w'→∃ v,e=.returned v∧VR KM.empty w' O (encT (sT z)) v∧Below w.heap.size w w':=by
      rintro e w' ⟨rfl,hb⟩;exact ⟨_,rfl,.val _ rfl,hb⟩
     refine callsIn_wide.1 (CallsIn.mono (n:=5) (R:=fun e w'=>e=.returned (.string (ofL ((sT z).map UInt8.ofNat)))∧Below w.heap.size w w') ?_ fin);unfold zl at hz;have hg:=g9 (J0J hB9 z.natAbs);have hdn:=J2A hB9 z.natAbs;have hwt:=JFM z.natAbs;generalize hW:dg B9 z.natAbs=W at *
     by_cases h0:z=0
     ·have hW0:W=[]:=hdn.2 (by rw[h0];rfl);subst hW0;have e0:ofL ((sT z).map UInt8.ofNat)=⟨#[48]⟩:=by rw[h0];rfl
      rw[e0];generalize hxs:([]:List Nat).map encw=xs at hy
      cases hy with
      |slnil=>exact J64 Fence.wide 5 (fun _=>trivial) rfl (by omega) _ _ _ w
      |slemp _ a=>exact J64 Fence.wide 5 (fun _=>trivial) rfl (by omega) _ _ _ w
      |sl _ _ c o cap f h1 h2 h3 h4 h5 h6 h7=>
        have:xs=[]:=hxs.symm;subst this;exact J64 Fence.wide 5 (fun _=>trivial) rfl (by omega) _ _ _ w
     have hWn:W≠[]:=fun e=>h0 (by have:=hdn.1 e;omega);have hpos:0<W.length:=Q1C.2 hWn;generalize hxs:W.map encw=xs at hy;have hln:xs.length=W.length:=by rw[← hxs,Q3]
     cases hy with
     |slnil=>simp at hln;omega
     |slemp _ a=>simp at hln;omega
     |sl _ _ c o cap f h1 h2 h3 h4 h5 h6 h7=>
       obtain ⟨A,e,zz,hA,_⟩:=h3;have hc:=(QU.1 hA).1
       have key:=JJf Fence.wide 5 (fun _=>trivial) rfl (by omega) (decide (z<0)) c o W.length cap (fun j=>if h:j<W.length then ⟨W[j],hg j h⟩ else ⟨0,by decide⟩) hpos (by omega) w hc
        (fun j hj=>by
          rw[dif_pos hj];have hjx:j<xs.length:=by omega
          have hx:xs[j]=encw W[j]:=by subst hxs;simp
          have h8:=h6 j hjx 0 (by rw[hx];exact Nat.zero_lt_one);have h9:=h5 j hjx 0 (by omega);simp only[hx,encw,AV.cells,Q00] at h8;rw[Q1U,Q0O] at h9;rw[h9];generalize f j 0=y at h8
          cases h8 with
          |val _ _=>rfl)
        (fun l hl w'=>callsIn_wide.2 (by
          have:=JDh l hl (fun _=>False) w' #[.string (ofL l),.string (b1 48)] (fun _ h=>h.elim) ⟨rfl,fun i h h'=>by
           rcases i with _|_|i
           ·exact .val _ rfl
           ·exact .val _ rfl
           simp at h;omega⟩
          refine this.mono ?_;rintro e w'' ⟨v,rfl,hv,hb⟩
          cases hv with
          |val _ _=>exact ⟨rfl,hb⟩))
       rw[hln];refine key.mono ?_;rintro e w' ⟨rfl,hb⟩;refine ⟨?_,hb⟩;rw[hwt W.length rfl (by omega) _ (fun j hj=>by rw[dif_pos hj])];unfold sT
       by_cases hneg:z<0
       ·rw[if_pos (Q2 hneg),if_pos hneg]
        congr 2
       rw[if_neg (by simpa using hneg),if_neg hneg]
end Go.Proofs.YtlblbldolhiokaaGreatDoor
namespace Go.Proofs.YtlblbldolhiokaaGreatDoor
open Go Go.Fw
def nd (z:Int):Nat:=(decT z.natAbs).length
def J1T (l:List Nat):(ofL (l.map UInt8.ofNat)).size=l.length:=by rw[J04,Q3]
def J3R (z:Int)(hz:zl z<2^36):PX 217 [encZ z] (encI (nd z)):=by
 refine PZ Tryz.func217 rfl ?_;refine kWS ?_;intros;refine J00 [] _ c304 (JFF z) ?_;refine kWS ?_;intros;refine CallP.flat [] _ c223 (J5K (z.natAbs:Int) (by unfold zl at *;rw[Q06];exact hz)) rfl ?_;refine kWS ?_;intros;refine .of ?_;show AV.val (.int .i64 _)=AV.val (.int .i64 _)
 rw[J1T];unfold sT nd;rw[if_neg (by omega),Q06]
def encQ (n d:Int):AV:=.agg [encB (decide (n<0)),encW n.natAbs,encB (decide (d<0)),encW d.natAbs]
def nilQ:AV:=.agg [encB false,.val (.slice none 0 0),encB false,.val (.slice none 0 0)]
def JOJ (n d:Int):PX 402 [encQ n d] (encZ n):=by
 refine PZ Tryz.func402 rfl ?_;unfold encQ;refine kWS ?_;intros;exact .of rfl
def JOP (n d:Int):PX 403 [encQ n d] (encZ d):=by
 refine PZ Tryz.func403 rfl ?_;unfold encQ;refine kWS ?_;intros;exact .of rfl
def J5L (n d:Int):PX 111 [encQ n d] (encI (sgn n)):=by
 refine PZ Tryz.func111 rfl ?_;unfold encQ;refine kWS ?_;intros;refine CallP.flat [] _ c193 (JAp n) rfl ?_;refine kWS ?_;intros;exact .of rfl
def J8P (n d:Int):PX 327 [encQ n d] (encB (decide (d=1))):=by
 refine PZ Tryz.func327 rfl ?_;unfold encQ;refine kWS ?_;intros;refine CallP.flat [] _ c165 (J6E d) rfl ?_;refine kWS ?_;intros;exact .of rfl
def qT (n d:Int):List Nat:=if d=1 then sT n else sT n++47::sT d
def J2n (a b:List Nat):ofL (a.map UInt8.ofNat)++ofL (b.map UInt8.ofNat)=ofL ((a++b).map UInt8.ofNat):=by
 apply Q1j;rw[ByteArray.data_append];apply Q0P;simp[ofL]
def JPZ (z:Int):nd z≤9*zl z+1:=by
 unfold nd zl decT;split
 ·simp
 rw[Q3,Q2D];have:=J1l hB9 z.natAbs;rw[show (B9:Nat)=10 ^ 9 from rfl,← Q1h] at this;have:=J0F (b:=10) (by omega) this;exact Nat.le_succ_of_le this
def JKj (z:Int):(sT z).length≤9*zl z+2:=by
 have:=JPZ z;unfold sT nd at *;split<;>simp<;>omega
def J9d (n d:Int)(hn:zl n<2^36)(hd:zl d<2^36):PX 150 [encQ n d] (encT (qT n d)):=by
 refine PZ Tryz.func150 rfl ?_;have s1:=J1T (sT n);have s2:=J1T (sT d);have s3:=JKj n;have s4:=JKj d;have s5:(⟨#[47]⟩:ByteArray).size=1:=rfl;unfold encQ qT;refine kWS ?_;intros;refine CallP.flat [] _ c165 (J6E d) rfl ?_;refine kWS ?_;intros;refine CondP.dec (fun h=>?_) (fun h=>?_)<;>refine kW ?_
 ·rw[if_pos h];refine kS ?_;intros;refine CallP.flat [] _ c223 (J5K n hn) rfl ?_;refine kWS ?_;intros;exact .of rfl
 rw[if_neg h];refine kS ?_;intros;refine CallG.intro _ c223 (J5K n hn) ?_;refine kWS ?_;intros;refine CallG.intro _ c223 (J5K d hd) ?_;refine kWS ?_;intros;rw[Q20];refine kS ?_;intros;refine .of ?_;have e:(⟨#[47]⟩:ByteArray)=ofL (List.map UInt8.ofNat [47]):=rfl;show encS _=encS _
 rw[e,J2n,J2n,Qo];rfl
def JCY (n d:Int)(hn:zl n<2^36)(hd:zl d<2^36):PX 151 [encQ n d] (encB (decide (nd n≤300)&&decide (nd d≤300))):=by
 refine PZ Tryz.func151 rfl ?_;unfold encQ;refine kWS ?_;intros;refine CallP.flat [] _ c217 (J3R n hn) rfl ?_;refine kWS ?_;intros;refine CondP.dec (fun h=>?_) (fun h=>?_)<;>refine kW ?_
 ·rw[Q2 (show nd n≤300 by omega),QB];refine kS ?_;intros;refine CallP.flat [] _ c217 (J3R d hd) rfl ?_;refine kWS ?_;intros;refine .of ?_;show AV.val (.bool (decide _))=AV.val (.bool (decide _))
  congr 2
  exact QS.2 (by omega)
 rw[Q1 (show ¬ nd n≤300 by omega),QD];refine kS ?_;intros;exact .of rfl
def J03:List UInt8→List UInt8×List UInt8×Bool
 |[]=>([],[],false)
 |c::l=>if c=47 then ([],l,true) else ((c::(J03 l).1),(J03 l).2.1,(J03 l).2.2)
def J06 (l:List UInt8):Option (Int×Int)×Bool:=
 match J2M (J03 l).1 with
 |none=>(none,false)
 |some n=>match (J03 l).2.2 with
   |false=>(some (n,1),decide (nd n≤300))
   |true=>match J2M (J03 l).2.1 with
     |none=>(none,false)
     |some d=>if d≤1 then (none,false) else (some (n,d),decide (nd n≤300)&&decide (nd d≤300)&&decide (n.natAbs.gcd d.natAbs=1))
def resQ (p:Option (Int×Int)×Bool):AV:=.tup [match p.1 with|some (n,d)=>encQ n d|none=>nilQ,encB p.2]
def JBc (x:UInt8)(l:List UInt8)(c:UInt8):idxB (ofL (x::l)) c=if x=c then 0 else if idxB (ofL l) c<0 then -1 else idxB (ofL l) c+1:=by
 have hsz:(ofL (x::l)).size=l.length+1:=rfl
 have hp:((fun i=>(ofL (x::l))[i]! == c)∘Nat.succ)=fun i=>(ofL l)[i]! == c:=by
  funext i
  show ((ofL (x::l))[i+1]! == c)=((ofL l)[i]! == c)
  congr 1
  by_cases h:i<l.length
  ·rw[getElem!_pos (ofL (x::l)) (i+1) (by rw[hsz];omega),getElem!_pos (ofL l) i h];rfl
  rw[getElem!_neg (ofL (x::l)) (i+1) (by rw[hsz];omega),getElem!_neg (ofL l) i h]
 have h0:((ofL (x::l))[0]! == c)=(x==c):=by rw[getElem!_pos (ofL (x::l)) 0 (by rw[hsz];omega)];rfl
 unfold idxB;rw[hsz,List.range_succ_eq_map,Q2h,h0]
 by_cases hx:x=c
 ·subst hx;simp
 rw[if_neg hx,show (x==c)=false by simpa using hx];simp only[List.find?_map,hp];rw[show (ofL l).size=l.length from rfl]
 cases (List.range l.length).find? fun i=>(ofL l)[i]! == c with
 |none=>rfl
 |some i=>
   show ((i+1:Nat):Int)=if (i:Int)<0 then -1 else (i:Int)+1
   rw[if_neg (by omega)];omega
def JKs (l:List UInt8):(0≤idxB (ofL l) 47↔(J03 l).2.2=true)∧(0≤idxB (ofL l) 47→l.take (idxB (ofL l) 47).toNat=(J03 l).1∧l.drop ((idxB (ofL l) 47).toNat+1)=(J03 l).2.1)∧(idxB (ofL l) 47<0→J03 l=(l,[],false)):=by
 induction l with
 |nil=>exact ⟨by decide,by decide,fun _=>rfl⟩
 |cons x l ih=>
   rw[JBc];unfold J03
   by_cases hx:x=47
   ·rw[if_pos hx,if_pos hx];simp
   rw[if_neg hx,if_neg hx];obtain ⟨h1,h2,h3⟩:=ih
   by_cases hi:idxB (ofL l) 47<0
   ·rw[if_pos hi];have h4:=h3 hi;rw[h4];simp
   rw[if_neg hi];have h4:=h2 (by omega);have h5:=h1.1 (by omega);refine ⟨⟨fun _=>h5,fun _=>by omega⟩,fun _=>?_,fun h=>by omega⟩;rw[show (idxB (ofL l) 47+1).toNat=(idxB (ofL l) 47).toNat+1 by omega];exact ⟨by rw[Q0D,h4.1],by rw[Q1S,h4.2]⟩
def JPi (l:List UInt8):cutB (ofL l) 47=(ofL (J03 l).1,ofL (J03 l).2.1,(J03 l).2.2):=by
 obtain ⟨h1,h2,h3⟩:=JKs l;unfold cutB
 by_cases hi:0≤idxB (ofL l) 47
 ·rw[if_pos hi,J09,J09,(h1.1 hi),Q0F,(h2 hi).1,J04,Qi,(h2 hi).2]
 rw[if_neg hi,h3 (by omega)];rfl
def JEM (l:List UInt8):(J03 l).1.length≤l.length∧(J03 l).2.1.length≤l.length:=by
 induction l with
 |nil=>simp[J03]
 |cons c l ih=>
   unfold J03;split<;>simp<;>omega
def J4e {l:List UInt8}{z:Int}(h:J2M l=some z):zl z≤l.length:=by
 obtain ⟨t,m,_,hp,ht⟩:=JPE l;rw[hp] at h;split at h
 ·rename_i hok;have hz:z.natAbs=decU t:=by cases h;split<;>omega
  unfold zl;rw[hz];refine Qg (J0F hB9 (k:=t.length) ?_) ht
  have:=JAQ t (by
   intro i hi;unfold okW at hok;simp only[Q5] at hok;have:=QL.1 hok.2 _ (QF hi);unfold isD at this;simp at this
   exact this)
  exact QP this (Q2E (by decide) _)
 cases h
def zl1:zl 1<2^39:=by unfold zl;rw[show (1:Int).natAbs=1 from rfl,J3z hB9 (by omega) (by unfold B9;omega)];decide
def J3P (l:List UInt8)(hl:l.length<2^35):PX 134 [encS (ofL l)] (resQ (J06 l)):=by
 refine PZ Tryz.func134 rfl ?_;obtain ⟨hp1,hp2⟩:=JEM l;have hcut:=JPM (ofL l) 47 (by rw[J04];omega);rw[JPi] at hcut;generalize hF:J06 l=F;unfold J06 at hF;generalize (J03 l).1=top at *;generalize (J03 l).2.1=low at *;generalize (J03 l).2.2=ok at *;refine kWS ?_;intros;refine J00 [] _ c214 hcut ?_;refine kWS ?_;intros;refine J00 [] _ c215 (JCb top (by omega)) ?_
 cases hn:J2M top with
 |none=>
   rw[hn] at hF;subst hF;refine kWS ?_;intros;exact .of rfl
 |some n=>
   rw[hn] at hF;have zn:=J4e hn;refine kWS ?_;intros
   cases ok with
   |false=>
     subst hF;refine kS ?_;intros;refine CallG.intro _ c216 Of1_ok ?_;refine kWS ?_;intros;refine CallG.intro _ c217 (J3R n (by omega)) ?_;refine kWS ?_;intros;refine .of ?_;show AV.tup [encQ n 1,.val (.bool (decide _))]=.tup [encQ n 1,.val (.bool (decide _))]
     rw[show decide ((nd n:Int)≤300)=decide (nd n≤300) from QS.2 (by omega)]
   |true=>
     refine kS ?_;intros;refine J00 [] _ c215 (JCb low (by omega)) ?_
     cases hd:J2M low with
     |none=>
       rw[hd] at hF;subst hF;refine kWS ?_;intros;exact .of rfl
     |some d=>
       rw[hd] at hF;have zd:=J4e hd;refine kWS ?_;intros;refine CallG.intro _ c216 Of1_ok ?_;refine kWS ?_;intros;refine CallG.intro _ c218 (JPN d 1 (by omega) zl1) ?_;refine kWS ?_;intros;have hs:sgn (d-1)≤0↔d≤1:=by unfold sgn;split<;>(try split)<;>omega
       refine CondP.dec (fun h=>?_) (fun h=>?_)<;>refine kW ?_
       ·simp only[if_pos (hs.1 h)] at hF;subst hF;refine kS ?_;intros;exact .of rfl
       have hd1:¬ d≤1:=fun h'=>h (hs.2 h');simp only[if_neg hd1] at hF;subst hF;refine kX ?_;refine kZ ?_;intros;refine J0b (W.of (l:=[(2,.op 2 _ 0 0),(3,encB false),(7,.op 7 _ 0 0),(9,.op 9 _ 0 0),(10,.op 10 _ 0 0)]) (m:=[(2,_,⟨104,4,[nilQ]⟩),(7,_,⟨102,2,[encZ n]⟩),(9,_,⟨102,2,[encZ d]⟩),(10,_,⟨104,4,[encQ n d]⟩)]) ?_ ⟨rfl,rfl,rfl,rfl,rfl,trivial⟩ ⟨rfl,rfl,rfl,rfl,trivial⟩);refine kWS ?_;intros;refine CallG.intro _ c151 (JCY n d (by omega) (by omega)) ?_;refine kWS ?_;intros;refine CondP.intro (fun h1=>?_) (fun h1=>?_)<;>refine kW ?_
       ·rw[h1,QB];refine kS ?_;intros;refine CallG.intro _ c219 (JJx n d (by omega) (by omega)) ?_;refine kWS ?_;intros;refine CallG.intro _ c165 (J6E _) ?_;refine kWS ?_;intros;refine .of ?_;show AV.tup [encQ n d,.val (.bool (decide _))]=.tup [encQ n d,.val (.bool (decide _))]
        rw[show decide (((n.natAbs.gcd d.natAbs:Nat):Int)=1)=decide (n.natAbs.gcd d.natAbs=1) from QS.2 (by omega)]
       rw[h1,QD];refine kS ?_;intros;exact .of rfl
def encF (q:Rat):AV:=encQ q.num q.den
def J2R (n d:Int)(hd:0<d):(Rat.divInt n d).num=n/(n.natAbs.gcd d.natAbs:Nat)∧((Rat.divInt n d).den:Int)=d/(n.natAbs.gcd d.natAbs:Nat):=by
 have h1:Int.gcd d n=n.natAbs.gcd d.natAbs:=by rw[Int.gcd_comm];rfl
 constructor
 ·rw[Rat.num_divInt,h1,Int.sign_eq_one_of_pos hd,Int.one_mul]
 rw[Rat.den_divInt,h1,if_neg (by omega),Int.natCast_ediv,Int.natAbs_of_nonneg (by omega)]
def J50 (n d:Int)(hd:0<d):encF (Rat.divInt n d)=encQ (n/(n.natAbs.gcd d.natAbs:Nat)) (d/(n.natAbs.gcd d.natAbs:Nat)):=by
 unfold encF;rw[(J2R n d hd).1,(J2R n d hd).2]
def J4F (n d:Int)(hd:d≠0):Rat.divInt (-n) (-d)=Rat.divInt n d:=by
 have:=Rat.divInt_mul_left (n:=n) (d:=d) (a:=-1) (by decide);rw[← this];congr 1<;>omega
def J9w (d:Int):sgn d<0↔d<0:=by
 unfold sgn;split
 ·omega
 split<;>omega
def JJn (n d:Int)(hn:zl n<2^36)(hd:zl d<2^36)(h0:d≠0):PX 167 [encZ n,encZ d] (encF (Rat.divInt n d)):=by
 refine PZ Tryz.func167 rfl ?_;generalize hF:encF (Rat.divInt n d)=F;refine kWS ?_;intros;refine CallP.flat [] _ c193 (JAp d) rfl ?_;refine kWS ?_;intros;refine CondP.dec (fun h=>?_) (fun h=>?_)<;>refine kW ?_
 case' refine_1=>
  have h:=(J9w d).1 h;have hx:0 < -d:=by omega
  rw[← J4F n d h0,J50 _ _ hx] at hF;have hn':zl (-n)<2^36:=by rw[J8d];exact hn
  have hd':zl (-d)<2^36:=by rw[J8d];exact hd
  refine kS ?_;intros;refine CallG.intro _ c222 (JF9 n (by omega)) ?_;refine kWS ?_;intros;refine CallG.intro _ c222 (JF9 d (by omega)) ?_;refine kWS ?_;intros;refine J00 [] _ c219 (JJx (-n) (-d) hn' hd') ?_;generalize hm:-n=m at *;generalize hc:-d=c at *
 case' refine_2=>
  have hx:0<d:=by have:=mt (J9w d).2 h;omega
  rw[J50 _ _ hx] at hF;have hn':=hn;have hd':=hd;refine kS ?_;intros;refine J00 [] _ c219 (JJx n d hn' hd') ?_;generalize hm:n=m at *;generalize hc:d=c at *
 all_goals
  generalize hg:Nat.gcd m.natAbs c.natAbs=g at *;have hg0:g≠0:=by rw[← hg];intro h;have:=Nat.gcd_eq_zero_iff.1 h;omega
  have hgl:zl (g:Int)<2^36:=by
   refine Q13 ?_ hd';rw[JGY];exact J0e hB9 (by rw[← hg];exact Q3k (by omega) (Nat.gcd_dvd_right _ _))
  refine kWS ?_;intros;refine CallP.flat [] _ c165 (J6E (g:Int)) rfl ?_;refine kWS ?_;intros;refine CondP.dec (fun h1=>?_) (fun h1=>?_)<;>refine kW ?_
  ·rw[h1,Int.ediv_one,Int.ediv_one] at hF;refine kS ?_;intros;exact .of (by rw[← hF];rfl)
  refine kS ?_;intros;refine J00 [] _ c243 (JJz m g hn' hgl (by omega)) ?_;refine kWS ?_;intros;refine J00 [] _ c243 (JJz c g hd' hgl (by omega)) ?_;refine kWS ?_;intros;exact .of (by rw[← hF];rfl)
def J25 (x y:Int):zl (x*y)≤zl x+zl y:=by
 unfold zl;rw[Q2R];refine J0F hB9 ?_;rw[Q1W];exact Nat.mul_lt_mul'' (J1l hB9 _) (J1l hB9 _)
def JGZ {x y:Int}(h:x.natAbs≤y.natAbs):zl x≤zl y:=J0e hB9 h
def szq (q:Rat):Nat:=max (zl q.num) (zl q.den)
def J1D (q:Rat):zl q.num≤szq q:=Q3M _ _
def J1J (q:Rat):zl q.den≤szq q:=Q35 _ _
def J3U (n d:Int)(h:d≠0):szq (Rat.divInt n d)≤max (zl n) (zl d):=by
 have key:∀ n d:Int,0<d→szq (Rat.divInt n d)≤max (zl n) (zl d):=by
  intro n d hd;obtain ⟨h1,h2⟩:=J2R n d hd;unfold szq;rw[h1,h2];have h3:zl (n/(n.natAbs.gcd d.natAbs:Nat))≤zl n:=JGZ (by rw[Q3G (Int.ofNat_dvd_left.2 (Q2Z _ _)),Q06];exact Q1c _ _);have h4:zl (d/(n.natAbs.gcd d.natAbs:Nat))≤zl d:=JGZ (by rw[Q3G (Int.ofNat_dvd_left.2 (Nat.gcd_dvd_right _ _)),Q06];exact Q1c _ _);omega
 by_cases hd:d<0
 ·have:=key (-n) (-d) (by omega)
  rwa [J4F n d h,J8d,J8d] at this
 exact key n d (by omega)
def J2S (q:Rat):(q.den:Int)≠0:=by have:=q.den_nz;omega
def J2Y (p q:Rat):p+q=Rat.divInt (p.num*q.den+q.num*p.den) (p.den*q.den):=by
 rw[← Rat.divInt_add_divInt p.num q.num (J2S p) (J2S q),Q1u,Q1u]
def J3c (p q:Rat):p*q=Rat.divInt (p.num*q.num) (p.den*q.den):=by
 rw[← Q3Q p.num q.num,Q1u,Q1u]
def J3j (p q:Rat):p/q=Rat.divInt (p.num*q.den) (p.den*q.num):=by
 rw[Rat.div_def,Rat.inv_def,← Q3Q,Q1u]
def JHG (p q:Rat):szq (p+q)≤szq p+szq q+1:=by
 rw[J2Y];refine Qg (J3U _ _ (Q1d (J2S p) (J2S q))) ?_;have h1:=JM4 (p.num*q.den) (q.num*p.den);have h2:=J25 p.num q.den;have h3:=J25 q.num p.den;have h4:=J25 p.den q.den;have:=J1D p;have:=J1J p;have:=J1D q;have:=J1J q;omega
def JN2 (p q:Rat):szq (p*q)≤szq p+szq q:=by
 rw[J3c];refine Qg (J3U _ _ (Q1d (J2S p) (J2S q))) ?_;have h2:=J25 p.num q.num;have h4:=J25 p.den q.den;have:=J1D p;have:=J1J p;have:=J1D q;have:=J1J q;omega
def JES {q:Rat}(h:q≠0):q.num≠0:=fun e=>h (Q2K.1 e)
def JHF (p q:Rat)(h:q≠0):szq (p/q)≤szq p+szq q:=by
 rw[J3j];refine Qg (J3U _ _ (Q1d (J2S p) (JES h))) ?_;have h2:=J25 p.num q.den;have h4:=J25 p.den q.num;have:=J1D p;have:=J1J p;have:=J1D q;have:=J1J q;omega
def JD3 (q:Rat):szq (-q)=szq q:=by
 unfold szq;rw[Q3b,Q3c,J8d]
def J9s (p q:Rat):szq (p-q)≤szq p+szq q+1:=by
 rw[Q2r];have:=JHG p (-q)
 rwa [JD3] at this
def JO8 (p q:Rat)(h1:(p.den:Int)=1)(h2:(q.den:Int)=1):encF (p+q)=encQ (p.num+q.num) p.den:=by
 rw[J2Y,h1,h2,Int.mul_one,Int.mul_one,J50 _ _ (by decide)];simp
def JKy (p q:Rat)(h1:(p.den:Int)=1)(h2:(q.den:Int)=1):encF (p*q)=encQ (p.num*q.num) p.den:=by
 rw[J3c,h1,h2,J50 _ _ (by decide)];simp
def JK5 (p q:Rat)(h:szq p+szq q+1<2^36):PX 79 [encF p,encF q] (encF (p+q)):=by
 refine PZ Tryz.func79 rfl ?_;have a1:=J1D p;have a2:=J1J p;have a3:=J1D q;have a4:=J1J q;have e1:=JO8 p q;have e2:=J2Y p q;have n1:=J2S p;have n2:=J2S q;generalize p+q=r at *;unfold encF at *;generalize p.num=a at *;generalize (p.den:Int)=b at *;generalize q.num=c at *;generalize (q.den:Int)=d at *;have b1:=J25 a d;have b2:=J25 c b;have b3:=J25 b d;have b4:=JM4 (a*d) (c*b);unfold encQ at *;refine kWS ?_;intros;refine CallP.flat [] _ c165 (J6E b) rfl ?_;refine kWS ?_;intros;refine CondP.dec (fun h1=>?_) (fun h1=>?_)<;>refine kW ?_
 case' refine_1=>
  refine kS ?_;intros;refine CallP.flat [] _ c165 (J6E d) rfl ?_;refine kWS ?_;intros;refine CondP.dec (fun h2=>?_) (fun h2=>?_)<;>refine kW ?_
 case refine_1.refine_1=>
  refine kS ?_;intros;refine CallG.intro _ c166 (JFE a c (by omega) (by omega)) ?_;refine kWS ?_;intros;exact .of (by rw[e1 h1 h2];rfl)
 all_goals
  refine kS ?_;intros;refine CallG.intro _ c168 (J5M a d (by omega) (by omega)) ?_;refine kWS ?_;intros;refine CallG.intro _ c168 (J5M c b (by omega) (by omega)) ?_;refine kWS ?_;intros;refine CallG.intro _ c166 (JFE (a*d) (c*b) (by omega) (by omega)) ?_;refine kWS ?_;intros;refine CallG.intro _ c168 (J5M b d (by omega) (by omega)) ?_;refine kWS ?_;intros;refine CallG.intro _ c167 (JJn (a*d+c*b) (b*d) (by omega) (by omega) (Q1d n1 n2)) ?_;rw[← e2];refine kWS ?_;intros;exact .of rfl
def JJo (p:Rat)(h:szq p<2^36):PX 146 [encF p] (encF (-p)):=by
 refine PZ Tryz.func146 rfl ?_;have a1:=J1D p;unfold encF;rw[Q3b,Q3c];generalize p.num=a at *;generalize (p.den:Int)=b at *;unfold encQ;refine kWS ?_;intros;refine CallG.intro _ c222 (JF9 a (by omega)) ?_;refine kWS ?_;intros;exact .of rfl
def JAo (p q:Rat)(h:szq p+szq q+1<2^36):PX 80 [encF p,encF q] (encF (p-q)):=by
 refine PZ Tryz.func80 rfl ?_;have h1:=JJo q (by omega);have h2:=JK5 p (-q) (by rw[JD3];exact h);rw[← Q2r] at h2;generalize p-q=r at *;generalize -q=s at *;unfold encF encQ at *;refine kWS ?_;intros;refine CallG.intro _ c146 h1 ?_;refine kWS ?_;intros;refine CallG.intro _ c79 h2 ?_;refine kWS ?_;intros;exact .of rfl
def JOL (p q:Rat)(h:szq p+szq q<2^36):PX 186 [encF p,encF q] (encF (p*q)):=by
 refine PZ Tryz.func186 rfl ?_;have a1:=J1D p;have a2:=J1J p;have a3:=J1D q;have a4:=J1J q;have e1:=JKy p q;have e2:=J3c p q;have n1:=J2S p;have n2:=J2S q;generalize p*q=r at *;unfold encF at *;generalize p.num=a at *;generalize (p.den:Int)=b at *;generalize q.num=c at *;generalize (q.den:Int)=d at *;have b1:=J25 a c;have b3:=J25 b d;unfold encQ at *;refine kWS ?_;intros;refine CallP.flat [] _ c165 (J6E b) rfl ?_;refine kWS ?_;intros;refine CondP.dec (fun h1=>?_) (fun h1=>?_)<;>refine kW ?_
 case' refine_1=>
  refine kS ?_;intros;refine CallP.flat [] _ c165 (J6E d) rfl ?_;refine kWS ?_;intros;refine CondP.dec (fun h2=>?_) (fun h2=>?_)<;>refine kW ?_
 case refine_1.refine_1=>
  refine kS ?_;intros;refine CallG.intro _ c168 (J5M a c (by omega) (by omega)) ?_;refine kWS ?_;intros;exact .of (by rw[e1 h1 h2];rfl)
 all_goals
  refine kS ?_;intros;refine CallG.intro _ c168 (J5M a c (by omega) (by omega)) ?_;refine kWS ?_;intros;refine CallG.intro _ c168 (J5M b d (by omega) (by omega)) ?_;refine kWS ?_;intros;refine CallG.intro _ c167 (JJn (a*c) (b*d) (by omega) (by omega) (Q1d n1 n2)) ?_;rw[← e2];refine kWS ?_;intros;exact .of rfl
def JK0 (p q:Rat)(h:szq p+szq q<2^36)(h0:q≠0):PX 149 [encF p,encF q] (encF (p/q)):=by
 refine PZ Tryz.func149 rfl ?_;have a1:=J1D p;have a2:=J1J p;have a3:=J1D q;have a4:=J1J q;have e2:=J3j p q;have n1:=J2S p;have n2:=JES h0;generalize p/q=r at *;unfold encF at *;generalize p.num=a at *;generalize (p.den:Int)=b at *;generalize q.num=c at *;generalize (q.den:Int)=d at *;have b1:=J25 a d;have b3:=J25 b c;unfold encQ at *;refine kWS ?_;intros;refine CallG.intro _ c168 (J5M a d (by omega) (by omega)) ?_;refine kWS ?_;intros;refine CallG.intro _ c168 (J5M b c (by omega) (by omega)) ?_;refine kWS ?_;intros;refine CallG.intro _ c167 (JJn (a*d) (b*c) (by omega) (by omega) (Q1d n1 n2)) ?_;rw[← e2];refine kWS ?_;intros;exact .of rfl
def JK1 (p q:Rat)(h:szq p+szq q+1<2^36):PX 330 [encF p,encF q] (encI (sgn (p-q).num)):=by
 refine PZ Tryz.func330 rfl ?_;have h2:=JAo p q h;generalize p-q=r at *;have h1:=J5L r.num r.den;unfold encF encQ at *;refine kWS ?_;intros;refine J00 [] _ c80 h2 ?_;refine kWS ?_;intros;refine CallP.flat [] _ c111 h1 rfl ?_;refine kWS ?_;intros;exact .of rfl
def multF (p q:Rat):Bool:=decide (0≤p.num)&&decide ((p/q).den=1)
def J5j (d:Int):0≤sgn d↔0≤d:=by
 unfold sgn;split
 ·omega
 split<;>omega
def JCf (p q:Rat)(h:szq p+szq q<2^36)(h0:q≠0):PX 269 [encF p,encF q] (encB (multF p q)):=by
 refine PZ Tryz.func269 rfl ?_;have h2:=JK0 p q h h0;have h1:=J5L p.num p.den;have h3:=J8P (p/q).num (p/q).den;generalize hF:multF p q=F;unfold multF at hF;generalize p/q=r at *;have e3:(decide ((r.den:Int)=1))=decide (r.den=1):=QS.2 (by omega);rw[e3] at h3;unfold encF encQ at *;refine kWS ?_;intros;refine CallP.flat [] _ c111 h1 rfl ?_;refine kWS ?_;intros;refine CondP.dec (fun h=>?_) (fun h=>?_)<;>refine kW ?_
 ·rw[Q2 ((J5j _).1 h),QB] at hF;refine kS ?_;intros;refine J00 [] _ c149 h2 ?_;refine kWS ?_;intros;refine CallP.flat [] _ c327 h3 rfl ?_;refine kWS ?_;intros;exact .of (by rw[← hF];rfl)
 rw[Q1 (mt (J5j _).2 h),QD] at hF;refine kS ?_;intros;exact .of (by rw[← hF];rfl)
def lttI (n:Int):Bool:=decide (97≤n∧n≤122∨65≤n∧n≤90)
def digI (n:Int):Bool:=decide (48≤n∧n≤57)
def J7Q (n:Int):PX 176 [.val (.int .u8 n)] (encB (lttI n)):=by
 refine PZ Tryz.func176 rfl ?_;refine kW ?_
 (repeat (any_goals (first|((first|refine N0 ?_|refine A0 fun γ=>?_|refine C1 ?_|refine C2 ?_|refine C3 ?_|refine C4 ?_|refine C5 ?_|refine C6 ?_|refine C7 ?_|refine D0 fun γs=>?_|refine A1 fun γs=>?_|refine N2 ?_|refine N3 ?_|refine N1 ?_);refine kW ?_)|(refine CondP.dec (fun _=>?_) (fun _=>?_)<;>refine kW ?_)|(refine CondP.intro (fun _=>?_) (fun _=>?_)<;>refine kW ?_))))
 all_goals (refine .of ?_;show AV.val (Value.bool _)=AV.val (Value.bool _);congr 2;unfold lttI;first|exact (Q2 (by omega)).symm|exact (Q1 (by omega)).symm|exact QS.2 (by omega))
def JFQ (n:Nat)(h:n<256):PX 323 [.val (.int .i32 n)] (encB true):=by
 refine PZ Tryz.func323 rfl ?_;refine kWO ?_;intros;exact .of rfl
def six:ByteArray:=⟨#[95,46,91,93,44,39]⟩
def JOe (n:Nat)(h1:¬ n<128)(h2:n<256):∃ b0 b1:UInt8,runeS n=⟨#[b0,b1]⟩∧128≤b1.toNat:=by
 refine ⟨UInt8.ofNat (192+n/64),UInt8.ofNat (128+n%64),?_,by simp;omega⟩;unfold runeS Utf8.encode;have hv:Utf8.valid (n:Int)=true:=by unfold Utf8.valid;simp;omega
 simp only[hv,if_true,QV];rw[if_neg (by omega),if_pos (by omega)]
def JLA (b:UInt8)(h:128≤b.toNat):idxB (six.extract 2 6) b=-1:=by
 unfold idxB
 have:(List.range (six.extract 2 6).size).find? (fun i=>(six.extract 2 6)[i]! == b)=none:=by
  rw[List.find?_eq_none];intro i hi;have hs:(six.extract 2 6).size=4:=by rfl
  rw[hs,Q24] at hi
  have hb:∀ c:UInt8,c.toNat<128→¬ (c==b)=true:=fun c hc h'=>by
   have:=eq_of_beq h';subst this;omega
  rcases i with _|_|_|_|i
  ·exact hb _ (by decide)
  ·exact hb _ (by decide)
  ·exact hb _ (by decide)
  ·exact hb _ (by decide)
  omega
 rw[this]
def JHa (n:Nat)(h:n<256):PX 260 [encS six,.val (.int .i32 n)] (encI (if n<128 then idxB six (UInt8.ofNat n) else -1)):=by
 refine PZ Tryz.func260 rfl ?_;refine kW ?_
 by_cases h1:n<128
 ·rw[if_pos h1];(refine kO ?_;repeat intro γ);refine CallP.flat [] _ c322 (J6F six n h) rfl ?_;(refine kWO ?_;repeat intro γ);exact .of rfl
 rw[if_neg h1];(refine kO ?_;repeat intro γ);refine CallP.flat [] _ c323 (JFQ n h) rfl ?_;(refine kWO ?_;repeat intro γ);obtain ⟨b0,b1,e,hb⟩:=JOe n h1 h;have hsz:(⟨#[b0,b1]⟩:ByteArray).size=2:=rfl;have h6:six.size=6:=rfl;simp only[e,hsz,show ((2:Nat):Int)-1=1 from rfl];(refine kWO ?_;repeat intro γ);refine LoopP.intro (fun k σ H=>k=0∧σ=fr [(0,encS six),(1,.val (.int .i32 n)),(7,encS ⟨#[b0,b1]⟩),(8,encI 1),(9,encI 1),(10,encI 0)]∧H=hp []) ?_ ?_
 ·exact .intro <| W.of ⟨0,rfl,rfl,rfl⟩ ⟨rfl,rfl,rfl,rfl,rfl,rfl,trivial⟩ trivial
 rintro k σ H ⟨rfl,rfl,rfl⟩;(refine kWO ?_;repeat intro γ);refine D0 fun γs=>?_;(refine kWO ?_;repeat intro γ);have hb1:byteAt ⟨#[b0,b1]⟩ (Int.toNat 1)=(b1.toNat:Int):=rfl;have hs1:byteAt six (Int.toNat 1)=46:=rfl;refine CondP.neg (by rw[hb1,hs1];omega) ?_;(refine kWO ?_;repeat intro γ);refine D0 fun γs=>?_;refine kWO ?_;intros;refine CallG.intro (encI (-1)) c322 ?_ ?_
 ·have:=J6F (six.extract 2 6) b1.toNat b1.toNat_lt;rw[Q2w,JLA b1 hb] at this;exact this
 refine kWO ?_;intros;exact .of rfl
def JBE (n:Nat)(h:n<256):PX 177 [encS six,.val (.int .i32 n)] (encB (decide (n<128∧0≤idxB six (UInt8.ofNat n)))):=by
 refine PZ Tryz.func177 rfl ?_;refine kWS ?_;intros;refine CallP.flat [] _ c260 (JHa n h) rfl ?_;refine kWS ?_;intros;refine .of ?_;show AV.val (Value.bool (decide (0≤if n<128 then idxB six (UInt8.ofNat n) else -1)))=AV.val (Value.bool _)
 congr 2
 exact QS.2 (by by_cases h1:n<128<;>simp[h1])
def sigI (n:Int):Bool:=decide (n=95∨n=46∨n=91∨n=93∨n=44∨n=39)
def okI (n:Int):Bool:=lttI n||digI n||sigI n
def JDf (s:ByteArray):Nat→Nat→Bool
 |_,0=>true
 |i,k+1=>okI (byteAt s i)&&JDf s (i+1) k
def nameF (s:ByteArray):Bool:=decide (1≤s.size∧s.size≤80)&&lttI (byteAt s 0)&&JDf s 0 s.size
def JJK (s:ByteArray)(i:Nat):0≤byteAt s i∧byteAt s i<256:=by
 unfold byteAt;split
 ·have:=(s[i]).toNat_lt;omega
 omega
def JMG (n:Nat)(h:n<256):decide (n<128∧0≤idxB six (UInt8.ofNat n))=sigI n:=by
 have key:((List.range 256).all fun n=>decide (n<128∧0≤idxB six (UInt8.ofNat n))==sigI n)=true:=by kernel_rfl
 exact eq_of_beq (QL.1 key n (Q24.2 h))
def J2N (s:ByteArray)(hs:s.size≤2^62):PX 90 [encS s] (encB (nameF s)):=by
 refine PZ Tryz.func90 rfl ?_;generalize hF:nameF s=F;unfold nameF at hF;refine kWO ?_;intros;refine CondP.dec (fun h0=>?_) (fun h0=>?_)<;>refine kW ?_
 ·refine kO ?_;intros;refine .of ?_;rw[← hF,h0];rfl
 have hpos : 1 ≤ s.size:=by
  rcases Qr s.size with h|h
  ·exact absurd (Q1j (Q0u h)) h0
  exact h
 refine kO ?_;intros;refine CondP.dec (fun h1=>?_) (fun h1=>?_)<;>refine kW ?_
 ·refine kO ?_;intros;refine .of ?_;rw[← hF,Q1 (by omega)];rfl
 rw[Q2 (by omega),QB] at hF;refine kO ?_;intros;refine CallP.flat [] (encB (lttI (byteAt s 0))) c176 (J7Q (byteAt s 0)) rfl ?_;refine kWO ?_;intros;refine CondP.intro (fun h2=>?_) (fun h2=>?_)<;>refine kW ?_
 ·rw[h2, QB] at hF;refine kO ?_;intros;refine LoopP.intro (fun k σ H=>∃ i,i≤s.size∧k=s.size-i∧JDf s i (s.size-i)=F∧σ=fr [(0,encS s),(3,.fn (.func 176) [] []),(21,encI s.size),(22,encI i)]∧H=hp []) ?_ ?_
  ·exact .intro <| W.of ⟨_,0,QG _,rfl,hF,rfl,rfl⟩ ⟨rfl,rfl,rfl,rfl,trivial⟩ trivial
  rintro k σ H ⟨i,hi,rfl,hO,rfl,rfl⟩;refine kWO ?_;intros;refine CondP.dec (fun h3=>?_) (fun h3=>?_)<;>refine kW ?_
  ·have hi':i<s.size:=by omega
   have hc:=JJK s i;rw[show s.size-i=(s.size-(i+1))+1 by omega] at hO;unfold JDf okI at hO;refine kO ?_;intros;simp only[QV];generalize byteAt s i=c at hc hO ⊢;obtain ⟨m,rfl⟩:∃ m:Nat,c=m:=⟨c.toNat,by omega⟩;refine CallP.flat [] (encB (lttI m)) c176 (J7Q m) rfl ?_;refine kWO ?_;intros;refine CondP.intro (fun h4=>?_) (fun h4=>?_)<;>refine kW ?_
   ·rw[h4,Qx,Qx,QB] at hO;refine kO ?_;intros
    exact .intro <| W.of ⟨_,by omega,i+1,hi',rfl,hO,rfl,rfl⟩ ⟨rfl,rfl,rfl,rfl,trivial⟩ trivial
   rw[h4,Qj] at hO;refine kO ?_;intros;refine CondP.dec (fun h5=>?_) (fun h5=>?_)<;>refine kW ?_
   ·have hd:digI m=false:=by unfold digI;exact Q1 (by omega)
    rw[hd,Qj] at hO;refine kO ?_;intros;refine CallP.flat [] _ c177 (JBE m (by omega)) rfl ?_;rw[JMG m (by omega)];refine kWO ?_;intros;refine CondP.intro (fun h6=>?_) (fun h6=>?_)<;>refine kW ?_
    ·rw[h6,QB] at hO;refine kO ?_;intros
     exact .intro <| W.of ⟨_,by omega,i+1,hi',rfl,hO,rfl,rfl⟩ ⟨rfl,rfl,rfl,rfl,trivial⟩ trivial
    rw[h6,QD] at hO;refine kO ?_;intros;exact .of (by rw[← hO];rfl)
   refine kO ?_;intros;refine CondP.dec (fun h7=>?_) (fun h7=>?_)<;>refine kW ?_
   ·have hd:digI m=false:=by unfold digI;exact Q1 (by omega)
    rw[hd,Qj] at hO;refine kO ?_;intros;refine CallP.flat [] _ c177 (JBE m (by omega)) rfl ?_;rw[JMG m (by omega)];refine kWO ?_;intros;refine CondP.intro (fun h6=>?_) (fun h6=>?_)<;>refine kW ?_
    ·rw[h6,QB] at hO;refine kO ?_;intros
     exact .intro <| W.of ⟨_,by omega,i+1,hi',rfl,hO,rfl,rfl⟩ ⟨rfl,rfl,rfl,rfl,trivial⟩ trivial
    rw[h6,QD] at hO;refine kO ?_;intros;exact .of (by rw[← hO];rfl)
   have hd:digI m=true:=by unfold digI;exact Q2 (by omega)
   rw[hd,Qx,QB] at hO;refine kO ?_;intros
   exact .intro <| W.of ⟨_,by omega,i+1,hi',rfl,hO,rfl,rfl⟩ ⟨rfl,rfl,rfl,rfl,trivial⟩ trivial
  refine kO ?_;intros;rw[show s.size-i=0 by omega] at hO;exact .of (by rw[← hO];rfl)
 rw[h2,QD] at hF;refine kO ?_;intros;refine .of ?_;rw[← hF];rfl
inductive Ex where
 |mk (op text:ByteArray) (order:Int) (kids:List Ex)
def Ex.op:Ex→ByteArray|.mk o _ _ _=>o
def Ex.text:Ex→ByteArray|.mk _ t _ _=>t
def Ex.order:Ex→Int|.mk _ _ n _=>n
def Ex.kids:Ex→List Ex|.mk _ _ _ ks=>ks
mutual
def encE:Ex→AV
 |.mk o t n ks=>.agg [encS o,encS t,encI n,.sl 4 (JNp ks)]
def JNp:List Ex→List AV
 |[]=>[]
 |k::ks=>encE k::JNp ks
end
theorem JBs:∀ ks:List Ex,JNp ks=ks.map encE
 |[]=>rfl
 |k::ks=>by rw[QK,← JBs ks];rfl
def JNq (o t:ByteArray)(n:Int)(ks:List Ex):encE (.mk o t n ks)=.agg [encS o,encS t,encI n,.sl 4 (ks.map encE)]:=by rw[← JBs];rfl
def J02 (e:Ex):encE e=.agg [encS e.op,encS e.text,encI e.order,.sl 4 (e.kids.map encE)]:=by cases e;exact JNq ..
inductive SzE:Ex→Prop where
 |mk {o t:ByteArray} {n:Int} {ks:List Ex} (ho:o.size≤2^60) (ht:t.size≤2^60) (hk:ks.length≤2^60) (h:∀ k∈ks,SzE k):SzE (.mk o t n ks)
def SzE.kid {e:Ex}(h:SzE e):∀ k∈e.kids,SzE k:=by cases h;assumption
def SzE.len {e:Ex}(h:SzE e):e.kids.length≤2^60:=by cases h;assumption
def SzE.tx {e:Ex}(h:SzE e):e.text.size≤2^60:=by cases h;assumption
def SzE.os {e:Ex}(h:SzE e):e.op.size≤2^60:=by cases h;assumption
def J2x (f:Ex→Int→Int):List Ex→Int→Int
 |[],l=>l
 |k::ks,l=>if f k l<0 then -1 else J2x f ks (f k l)
def measF:Nat→Ex→Int→Int
 |0,_,_=>-1
 |d+1,e,l=>if l-1<0 then -1 else J2x (measF d) e.kids (l-1)
theorem JEc {f:Ex→Int→Int}(hf:∀ k l,f k l<0∨f k l≤l):∀ (ks:List Ex) (l:Int),J2x f ks l<0∨J2x f ks l≤l
 |[],l=>.inr (Int.le_refl _)
 |k :: ks,l=>by
   unfold J2x;split
   ·left;omega
   have:=hf k l;have:=JEc hf ks (f k l);omega
theorem J6W:∀ (d:Nat) (e:Ex) (l:Int),measF d e l<0∨measF d e l≤l
 |0,e,l=>by left;unfold measF;omega
 |d + 1,e,l=>by
   unfold measF;split
   ·left;omega
   have:=JEc (J6W d) e.kids (l-1);omega
theorem JEd {f:Ex→Int→Int}(hf:∀ k l,0≤l→-1≤f k l):∀ (ks:List Ex) (l:Int),0≤l→-1≤J2x f ks l
 |[],l,h=>by unfold J2x;omega
 |k::ks,l,h=>by
   unfold J2x;have:=hf k l h;split
   ·omega
   exact JEd hf ks _ (by omega)
theorem JA8:∀ (d:Nat) (e:Ex) (l:Int),0≤l→-1≤measF d e l
 |0,e,l,h=>by unfold measF;omega
 |d+1,e,l,h=>by
   unfold measF;split
   ·omega
   exact JEd (JA8 d) _ _ (by omega)
theorem J5s:∀ (d:Nat) (e:Ex) (l:Int),d≤1000→SzE e→0≤l→l≤1000→PX 169 [encE e,encI d,encI l] (encI (measF d e l))
 |0,e,l,hd,he,h0,h1=>by
   refine PZ Tryz.func169 rfl ?_;rw[J02];refine kWS ?_;intros;exact .of rfl
 |d + 1,e,l,hd,he,h0,h1=>by
   refine PZ Tryz.func169 rfl ?_;have ih:=J5s d;have hle:=J6W d;have hk:=he.len;generalize hF:measF (d+1) e l=F;unfold measF at hF;rw[J02];refine kWS ?_;intros;refine CondP.dec (fun h=>?_) (fun h=>?_)<;>refine kW ?_
   ·rw[if_pos h] at hF;refine kS ?_;intros;exact .of (by rw[← hF];rfl)
   rw[if_neg h] at hF;refine kS ?_;intros
   refine LoopP.intro (fun m σ H=>∃ i,∃ l':Int,m=e.kids.length-i∧i≤e.kids.length∧0≤l'∧l'≤1000∧J2x (measF d) (e.kids.drop i) l'=F ∧
    σ=fr [(1,encI ((d+1:Nat):Int)),(2,encI l'),(18,.sl 4 (e.kids.map encE)),(19,encI e.kids.length),(20,encI i)]∧H=hp []) ?_ ?_
   ·refine .intro <| W.of ⟨_,0,l-1,rfl,QG _,by omega,by omega,hF,rfl,rfl⟩ ⟨rfl,rfl,rfl,?_,rfl,trivial⟩ trivial
    show AV.val (.int .i64 _)=AV.val (.int .i64 _)
    rw[Q3]
   clear hF h h0 h1;rintro m σ H ⟨i,l',rfl,hi,h0,h1,hF,rfl,rfl⟩;refine kWS ?_;intros;refine CondP.dec (fun h=>?_) (fun h=>?_)<;>refine kW ?_
   ·have hi':i<e.kids.length:=by omega
    rw[Q6 hi'] at hF;unfold J2x at hF;have hm:=hle e.kids[i] l';have hs:=he.kid _ (QF hi');refine kR ?_;intros;generalize e.kids[i]=k at hF hm hs ⊢;rw[J02];refine kR ?_;intros;simp only[show ((d+1:Nat):Int)-1=(d:Int) by omega];have hi2:=ih k l' (by omega) hs h0 h1;rw[J02 k] at hi2;refine J00 [] _ c169 hi2 ?_;generalize measF d k l'=r at hF hm;refine kWS ?_;intros;refine CondP.dec (fun h=>?_) (fun h=>?_)<;>refine kW ?_
    ·rw[if_pos h] at hF;refine kS ?_;intros;exact .of (by rw[← hF];rfl)
    rw[if_neg h] at hF;refine kS ?_;intros
    exact .intro <| W.of ⟨_,by omega,i+1,r,rfl,hi',by omega,by omega,hF,rfl,rfl⟩ ⟨rfl,rfl,rfl,rfl,rfl,trivial⟩ trivial
   rw[Q9 (by omega)] at hF;refine kS ?_;intros;exact .of (by rw[← hF];rfl)
def tooF (e:Ex):Bool:=decide (measF 24 e 200<0)
def sizeF (e:Ex):Int:=200-measF 24 e 200
def J8J (e:Ex)(he:SzE e):PX 83 [encE e] (encB (tooF e)):=by
 refine PZ Tryz.func83 rfl ?_;have hm:=J5s 24 e 200 (by omega) he (by omega) (by omega);rw[J02] at hm ⊢;refine kWS ?_;intros;refine CallP.flat [] _ c169 hm rfl ?_;refine kWS ?_;intros;exact .of rfl
def JOG (e:Ex)(he:SzE e):PX 248 [encE e] (encI (sizeF e)):=by
 refine PZ Tryz.func248 rfl ?_;have hm:=J5s 24 e 200 (by omega) he (by omega) (by omega);have hle:=J6W 24 e 200;have hge:=JA8 24 e 200 (by omega);unfold sizeF;rw[J02] at hm ⊢;refine kWS ?_;intros;refine CallP.flat [] _ c169 hm rfl ?_;generalize measF 24 e 200=r at *;refine kWS ?_;intros;exact .of rfl
def shp:List (ByteArray×Int×Bool×Bool):=[
 (⟨#[110,117,109]⟩,0,false,false),(⟨#[116,105,109,101]⟩,0,false,false),(⟨#[110,101,103]⟩,1,false,false),
 (⟨#[116,114,117,101]⟩,0,false,true),(⟨#[102,97,108,115,101]⟩,0,false,true),(⟨#[105,110,105,116,105,97,108]⟩,0,false,true),
 (⟨#[97,100,100]⟩,2,false,false),(⟨#[115,117,98]⟩,2,false,false),(⟨#[109,117,108]⟩,2,false,false),(⟨#[100,105,118]⟩,2,false,false),
 (⟨#[108,101,115,115]⟩,2,false,true),(⟨#[97,116,109,111,115,116]⟩,2,false,true),(⟨#[109,111,114,101]⟩,2,false,true),(⟨#[97,116,108,101,97,115,116]⟩,2,false,true),
 (⟨#[97,110,100]⟩,2,true,true),(⟨#[111,114]⟩,2,true,true),(⟨#[110,111,116]⟩,1,true,true),(⟨#[115,97,109,112,108,101]⟩,2,false,true)]
def J8Y (x:Int×Bool×Bool):AV:=.agg [encI x.1,encB x.2.1,encB x.2.2]
def shpM:AV:=.mp (shp.map fun x=>encS x.1) (shp.map fun x=>J8Y x.2)
def shapes_ok:PX 205 [] shpM:=by
 exact J1f JAk (fuel:=60) (n:=5) (by kernel_rfl)
def J11 {β:Type}(l:List (ByteArray×β))(s:ByteArray):Option β:=match l with
 |[]=>none
 |x::r=>if s=x.1 then some x.2 else J11 r s
def J9Y (s y:ByteArray):(s==y)=decide (s=y):=by
 rw[Q0T]
 cases s with|mk a=>cases y with|mk b=>
 show (a==b)=true↔_
 simp
def J7Y (s y:ByteArray):J13 T 9 (encS s) (encS y)=some (decide (s=y)):=by
 show some (s==y)=_
 rw[J9Y]
theorem J27 {β:Type}(f:β→AV)(s:ByteArray):∀ l:List (ByteArray×β),∃ r,J1E (J13 T 9 (encS s)) (l.map fun x=>encS x.1)=some r∧match r,J11 l s with
  |none,none=>True
  |some i,some b=>(l.map fun x=>f x.2).getD i .dead=f b
  |_,_=>False
 |[]=>⟨none,rfl,trivial⟩
 |x :: l=>by
   obtain ⟨r,h1,h2⟩:=J27 f s l;rw[QK];unfold J1E J11;rw[J7Y]
   by_cases h:s=x.1
   ·rw[Q2 h,if_pos h];exact ⟨some 0,rfl,rfl⟩
   rw[Q1 h,if_neg h,h1];refine ⟨r.map (· + 1),rfl,?_⟩
   revert h2
   cases r<;>cases J11 l s<;>intro h2<;>first|trivial|exact h2
abbrev oVar:ByteArray:=⟨#[118,97,114]⟩
abbrev oPre:ByteArray:=⟨#[112,114,101]⟩
abbrev oEq:ByteArray:=⟨#[101,113,117,97,108]⟩
abbrev oNe:ByteArray:=⟨#[117,110,101,113,117,97,108]⟩
abbrev oIf:ByteArray:=⟨#[105,102]⟩
abbrev oNum:ByteArray:=⟨#[110,117,109]⟩
abbrev oSample:ByteArray:=⟨#[115,97,109,112,108,101]⟩
def J0d (o:ByteArray):Int:=if o=oVar∨o=oPre then 0 else if o=oEq∨o=oNe then 2 else if o=oIf then 3 else match J11 shp o with
 |none=>-1
 |some x=>x.1
def JNU (o:ByteArray):PX 199 [encS o] (encI (J0d o)):=by
 refine PZ Tryz.func199 rfl ?_;generalize hF:J0d o=F;unfold J0d at hF;refine kWS ?_;intros;refine CondP.dec (fun h1=>?_) (fun h1=>?_)<;>refine kW ?_
 ·rw[if_pos (.inl h1)] at hF;refine kS ?_;intros;exact .of (by rw[← hF];rfl)
 refine kS ?_;intros;refine CondP.dec (fun h2=>?_) (fun h2=>?_)<;>refine kW ?_
 ·rw[if_pos (.inr h2)] at hF;refine kS ?_;intros;exact .of (by rw[← hF];rfl)
 rw[if_neg (by rintro (h|h);exact h1 h;exact h2 h)] at hF;refine kS ?_;intros;refine CondP.dec (fun h3=>?_) (fun h3=>?_)<;>refine kW ?_
 ·rw[if_pos (.inl h3)] at hF;refine kS ?_;intros;exact .of (by rw[← hF];rfl)
 refine kS ?_;intros;refine CondP.dec (fun h4=>?_) (fun h4=>?_)<;>refine kW ?_
 ·rw[if_pos (.inr h4)] at hF;refine kS ?_;intros;exact .of (by rw[← hF];rfl)
 rw[if_neg (by rintro (h|h);exact h3 h;exact h4 h)] at hF;refine kS ?_;intros;refine CondP.dec (fun h5=>?_) (fun h5=>?_)<;>refine kW ?_
 ·rw[if_pos h5] at hF;refine kS ?_;intros;exact .of (by rw[← hF];rfl)
 rw[if_neg h5] at hF;refine kS ?_;intros;refine J00 [] _ c205 shapes_ok ?_;refine kWS ?_;intros;obtain ⟨r,hr,hm⟩:=J27 J8Y o shp;refine Need.intro keyst9 ?_;refine kW ?_;refine LookP.intro r hr ?_
 cases ha:J11 shp o with
 |none=>
   rw[ha] at hm hF
   cases r with
   |some i=>exact hm.elim
   |none=>
     refine kWS ?_;intros;exact .of (by rw[← hF];rfl)
 |some x=>
   rw[ha] at hm hF
   cases r with
   |none=>exact hm.elim
   |some i=>
     refine kW ?_;rw[show (List.map (fun x=>J8Y x.snd) shp).getD i AV.dead=J8Y x from hm];refine kWS ?_;intros;exact .of (by rw[← hF];rfl)
def JFn (p:Option (Int×Int)×Bool):(∃ a,a=nilQ∧resQ p=.tup [a,encB p.2])∨∃ a,(∃ n d,a=encQ n d)∧resQ p=.tup [a,encB p.2]:=by
 unfold resQ
 cases p.1 with
 |none=>exact .inl ⟨_,rfl,rfl⟩
 |some q=>exact .inr ⟨_,⟨_,_,rfl⟩,rfl⟩
def textF (e:Ex):Bool:=
 if e.op=oNum then (J06 e.text.data.toList).2&&decide (e.order=0)
 else if e.op=oVar then nameF e.text&&decide (0≤e.order)&&decide (e.order≤6)
 else if e.op=oPre then nameF e.text&&decide (e.order=0)
 else decide (e.text=⟨#[]⟩)&&decide (e.order=0)
def JN0 (e:Ex)(ht:e.text.size<2^35):PX 200 [encE e] (encB (textF e)):=by
 refine PZ Tryz.func200 rfl ?_;rw[J02];generalize hF:textF e=F;unfold textF at hF;generalize e.op=o at hF;refine kWS ?_;intros;refine CondP.dec (fun h1=>?_) (fun h1=>?_)<;>refine kW ?_
 ·rw[if_pos h1] at hF;have hq:=J3P e.text.data.toList (by exact ht);rw[J12] at hq;have hrs:=JFn (J06 e.text.data.toList);generalize (J06 e.text.data.toList).2=q at hF hrs
  rcases hrs with ⟨a,rfl,hrs⟩|⟨a,⟨x,y,rfl⟩,hrs⟩
  all_goals
   rw[hrs] at hq;refine kS ?_;intros;refine J00 [] _ c134 hq ?_;refine kWS ?_;intros;refine CondP.intro (fun h2=>?_) (fun h2=>?_)<;>refine kW ?_
   ·rw[h2,QB] at hF;refine kS ?_;intros;exact .of (by rw[← hF];rfl)
   rw[h2,QD] at hF;refine kS ?_;intros;exact .of (by rw[← hF];rfl)
 rw[if_neg h1] at hF;refine kS ?_;intros;refine CondP.dec (fun h2=>?_) (fun h2=>?_)<;>refine kW ?_
 ·rw[if_pos h2] at hF;have hn:=J2N e.text (by omega);generalize nameF e.text=q at hF hn;refine kS ?_;intros;refine CallP.flat [] _ c90 hn rfl ?_;refine kWS ?_;intros;refine CondP.intro (fun h3=>?_) (fun h3=>?_)<;>refine kW ?_
  ·rw[h3,QB] at hF;refine kS ?_;intros;refine CondP.dec (fun h4=>?_) (fun h4=>?_)<;>refine kW ?_
   ·rw[Q2 h4,QB] at hF;refine kS ?_;intros;exact .of (by rw[← hF];rfl)
   rw[Q1 h4,QD] at hF;refine kS ?_;intros;exact .of (by rw[← hF];rfl)
  rw[h3,QD,QD] at hF;refine kS ?_;intros;exact .of (by rw[← hF];rfl)
 rw[if_neg h2] at hF;refine kS ?_;intros;refine CondP.dec (fun h3=>?_) (fun h3=>?_)<;>refine kW ?_
 ·rw[if_pos h3] at hF;have hn:=J2N e.text (by omega);generalize nameF e.text=q at hF hn;refine kS ?_;intros;refine CallP.flat [] _ c90 hn rfl ?_;refine kWS ?_;intros;refine CondP.intro (fun h4=>?_) (fun h4=>?_)<;>refine kW ?_
  ·rw[h4,QB] at hF;refine kS ?_;intros;exact .of (by rw[← hF];rfl)
  rw[h4,QD] at hF;refine kS ?_;intros;exact .of (by rw[← hF];rfl)
 rw[if_neg h3] at hF;refine kS ?_;intros;refine CondP.dec (fun h4=>?_) (fun h4=>?_)<;>refine kW ?_
 ·rw[Q2 h4,QB] at hF;refine kS ?_;intros;exact .of (by rw[← hF];rfl)
 rw[Q1 h4,QD] at hF;refine kS ?_;intros;exact .of (by rw[← hF];rfl)
end Go.Proofs.YtlblbldolhiokaaGreatDoor
