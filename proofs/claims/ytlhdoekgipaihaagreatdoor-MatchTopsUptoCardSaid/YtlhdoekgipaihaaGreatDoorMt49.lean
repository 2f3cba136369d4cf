/- Part 49 of the proof: abstract values and their rules; walks of the functions; plain lemmas. -/
import Derived.Test.YtlhdoekgipaihaaGreatDoorMt46
import Derived.Lib.Bytealg
set_option linter.unusedVariables false
set_option linter.unusedSimpArgs false
set_option linter.unusedSectionVars false
set_option maxRecDepth 100000
set_option exponentiation.threshold 400
namespace Go.Fw
def vl (b:Nat):List Nat→Nat
 | []=>0
 | d::r=>d+b*vl b r
def dg (b n:Nat):List Nat:=if _h:1<b∧0<n then n%b::dg b (n/b) else []
termination_by n
decreasing_by exact Nat.div_lt_self _h.2 _h.1
theorem dg_zero (b:Nat):dg b 0=[]:=by unfold dg;simp
theorem dg_pos {b n:Nat} (hb:1<b) (hn:0<n):dg b n=n%b::dg b (n/b):=by rw[dg,dif_pos ⟨hb,hn⟩]
theorem vl_dg {b:Nat} (hb:1<b) (n:Nat):vl b (dg b n)=n:=by
 induction n using Nat.strongRecOn with
 | ind n ih=>
   by_cases hn:0<n
   ·rw[dg_pos hb hn,vl,ih _ (Nat.div_lt_self hn hb)];exact Nat.mod_add_div n b
   ·rw[show n=0 by omega,dg_zero];rfl
def Dig (b:Nat) (l:List Nat):Prop:=∀ d∈l,d<b
theorem Dig.nil {b:Nat}:Dig b []:=fun _ h=>by cases h
theorem Dig.cons {b d:Nat} {l:List Nat} (h:d<b) (h':Dig b l):Dig b (d::l):=fun x hx=>by
 rcases List.mem_cons.1 hx with rfl | hx
 ·exact h
 ·exact h' x hx
theorem Dig.hd {b d:Nat} {l:List Nat} (h:Dig b (d::l)):d<b:=h d (by simp)
theorem Dig.tl {b d:Nat} {l:List Nat} (h:Dig b (d::l)):Dig b l:=fun x hx=>h x (by simp[hx])
theorem Dig.app {b:Nat} {l r:List Nat} (h:Dig b l) (h':Dig b r):Dig b (l++r):=fun x hx=>by
 rcases List.mem_append.1 hx with hx | hx
 ·exact h x hx
 ·exact h' x hx
theorem Dig.take {b:Nat} {l:List Nat} (h:Dig b l) (n:Nat):Dig b (l.take n):=fun x hx=>h x (List.mem_of_mem_take hx)
theorem Dig.drop {b:Nat} {l:List Nat} (h:Dig b l) (n:Nat):Dig b (l.drop n):=fun x hx=>h x (List.mem_of_mem_drop hx)
theorem Dig.set {b:Nat} {l:List Nat} (h:Dig b l) (i:Nat) {d:Nat} (hd:d<b):Dig b (l.set i d):=fun x hx=>by
 rcases List.mem_or_eq_of_mem_set hx with h' | h'
 ·exact h x h'
 ·rw[h'];exact hd
theorem Dig.rep {b:Nat} (hb:0<b) (n:Nat):Dig b (List.replicate n 0):=fun x hx=>by rw[List.eq_of_mem_replicate hx];exact hb
theorem Dig.get {b:Nat} {l:List Nat} (h:Dig b l) (i:Nat) (hi:i<l.length):l[i]<b:=h _ (List.getElem_mem hi)
theorem dg_dig {b:Nat} (hb:1<b) (n:Nat):Dig b (dg b n):=by
 induction n using Nat.strongRecOn with
 | ind n ih=>
   by_cases hn:0<n
   ·rw[dg_pos hb hn];exact Dig.cons (Nat.mod_lt _ (by omega)) (ih _ (Nat.div_lt_self hn hb))
   ·rw[show n=0 by omega,dg_zero];exact Dig.nil
theorem vl_app (b:Nat):∀ (l r:List Nat),vl b (l++r)=vl b l+b ^ l.length*vl b r
 | [],r=>by simp[vl]
 | d::l,r=>by
   simp only[List.cons_append,vl,vl_app b l r,List.length_cons,Nat.pow_succ]
   grind
theorem vl_rep (b n:Nat):vl b (List.replicate n 0)=0:=by
 induction n with
 | zero=>rfl
 | succ n ih=>simp[List.replicate_succ,vl,ih]
theorem vl_lt {b:Nat}:∀ {l:List Nat},Dig b l→vl b l<b ^ l.length
 | [],_=>by simp[vl]
 | d::l,h=>by
   have h1:=vl_lt h.tl
   have h2:=h.hd
   simp only[vl,List.length_cons,Nat.pow_succ]
   have:b*(vl b l+1)≤b*b ^ l.length:=Nat.mul_le_mul_left b h1
   grind
def trimF:List Nat→List Nat
 | []=>[]
 | d::r=>match trimF r with
   | []=>if d=0 then [] else [d]
   | x=>d::x
theorem trimF_eq {b:Nat} (hb:1<b):∀ {l:List Nat},Dig b l→trimF l=dg b (vl b l)
 | [],_=>by simp[trimF,vl,dg_zero]
 | d :: r,h=>by
   have ih:=trimF_eq hb h.tl
   have hd:=h.hd
   by_cases h0:d+b*vl b r=0
   ·have h1:d=0:=by omega
    have h2:vl b r=0:=by
     rcases Nat.eq_zero_or_pos (vl b r) with h | h
     ·exact h
     ·have:=Nat.mul_pos (show 0<b by omega) h;omega
    simp only[trimF,ih,vl,h1,h2,dg_zero,Nat.mul_zero,Nat.add_zero,if_true]
   ·simp only[vl]
    rw[dg_pos hb (by omega),Nat.add_mul_mod_self_left,Nat.mod_eq_of_lt hd,Nat.add_mul_div_left _ _ (by omega),Nat.div_eq_of_lt hd,Nat.zero_add]
    simp only[trimF,ih]
    by_cases h2:vl b r=0
    ·rw[h2,dg_zero]
     simp only
     rw[h2] at h0
     rw[if_neg (by omega)]
    ·rw[dg_pos hb (by omega)]
theorem trimF_take:∀ (l:List Nat),trimF l=l.take (trimF l).length
 | []=>rfl
 | d::r=>by
   have ih:=trimF_take r
   simp only[trimF]
   cases h:trimF r with
   | nil=>by_cases h0:d=0<;>simp[h0]
   | cons x y=>rw[h] at ih;simp only[List.length_cons,List.take_succ_cons];rw[ih];simp
theorem trimF_len (l:List Nat):(trimF l).length≤l.length:=by
 rw[trimF_take l];simp;omega
theorem trimF_snoc (l:List Nat) (d:Nat):trimF (l++[d])=if d=0 then trimF l else l++[d]:=by
 induction l with
 | nil=>by_cases h:d=0<;>simp[trimF,h]
 | cons x l ih=>
   simp only[List.cons_append,trimF,ih]
   by_cases h:d=0
   ·simp[h]
   ·simp only[if_neg h]
    cases l<;>simp
theorem dg_len {b:Nat} (hb:1<b) {l:List Nat} (h:Dig b l):(dg b (vl b l)).length≤l.length:=by rw[← trimF_eq hb h];exact trimF_len l
theorem dg_nil {b:Nat} (hb:1<b) (n:Nat):dg b n=[]↔n=0:=by
 constructor
 ·intro h;have:=vl_dg hb n;rw[h] at this;exact this.symm
 ·rintro rfl;exact dg_zero b
theorem dg_lt {b:Nat} (hb:1<b) (n:Nat):n<b ^ (dg b n).length:=by have:=vl_lt (dg_dig hb n);rwa [vl_dg hb] at this
theorem dg_ge {b:Nat} (hb:1<b):∀ n:Nat,0<n→b ^ ((dg b n).length-1)≤n:=by
 intro n
 induction n using Nat.strongRecOn with
 | ind n ih=>
   intro hn
   rw[dg_pos hb hn,List.length_cons,Nat.add_sub_cancel]
   by_cases h:0<n/b
   ·have:=ih _ (Nat.div_lt_self hn hb) h
    have h1:(dg b (n/b)).length≠0:=fun e=>by have:=(dg_nil hb _).1 (List.length_eq_zero_iff.1 e);omega
    rw[show (dg b (n/b)).length=(dg b (n/b)).length-1+1 by omega,Nat.pow_succ]
    have h2:n/b*b≤n:=Nat.div_mul_le_self n b
    exact Nat.le_trans (Nat.mul_le_mul_right b this) h2
   ·rw[Nat.eq_zero_of_not_pos h,dg_zero];simp;omega
theorem dg_len_le {b:Nat} (hb:1<b) {n k:Nat} (h:n<b ^ k):(dg b n).length≤k:=by
 by_cases hn:0<n
 ·have h1:=dg_ge hb n hn
  have:b ^ ((dg b n).length-1)<b ^ k:=Nat.lt_of_le_of_lt h1 h
  have:=(Nat.pow_lt_pow_iff_right hb).1 this
  omega
 ·rw[show n=0 by omega,dg_zero];simp
theorem dg_mono {b:Nat} (hb:1<b) {m n:Nat} (h:m≤n):(dg b m).length≤(dg b n).length:=dg_len_le hb (Nat.lt_of_le_of_lt h (dg_lt hb n))
theorem vl_inj {b:Nat}:∀ {l r:List Nat},Dig b l→Dig b r→l.length=r.length→vl b l=vl b r→l=r
 | [],[],_,_,_,_=>rfl
 | d::l,e::r,h,k,hl,hv=>by
   simp only[vl] at hv
   have hd:=h.hd
   have he:=k.hd
   have h1:(d+b*vl b l)%b=(e+b*vl b r)%b:=by rw[hv]
   rw[Nat.add_mul_mod_self_left,Nat.add_mul_mod_self_left,Nat.mod_eq_of_lt hd,Nat.mod_eq_of_lt he] at h1
   subst h1
   have h2:b*vl b l=b*vl b r:=by omega
   have h3:=Nat.eq_of_mul_eq_mul_left (by omega) h2
   rw[vl_inj h.tl k.tl (by simpa using hl) h3]
theorem dg_inj {b:Nat} (hb:1<b) {m n:Nat} (h:dg b m=dg b n):m=n:=by rw[← vl_dg hb m,h,vl_dg hb]
theorem dg_one {b n:Nat} (hb:1<b) (h0:0<n) (h:n<b):dg b n=[n]:=by
 rw[dg_pos hb h0,Nat.mod_eq_of_lt h,Nat.div_eq_of_lt h,dg_zero]
def addC (b:Nat):Nat→List Nat→List Nat→List Nat
 | c,[],_=>[c]
 | c,x::xs,[]=>(x+c)%b::addC b ((x+c)/b) xs []
 | c,x::xs,y::ys=>(x+c+y)%b::addC b ((x+c+y)/b) xs ys
theorem addC_vl {b:Nat}:∀ (xs ys:List Nat) (c:Nat),ys.length≤xs.length→vl b (addC b c xs ys)=c+vl b xs+vl b ys
 | [],[],c,_=>by simp[addC,vl]
 | [],_::_,c,h=>by simp at h
 | x::xs,[],c,h=>by
   simp only[addC,vl,addC_vl xs [] _ (by simp)]
   have:=Nat.mod_add_div (x+c) b
   grind
 | x::xs,y::ys,c,h=>by
   simp only[addC,vl,addC_vl xs ys _ (by simpa using h)]
   have:=Nat.mod_add_div (x+c+y) b
   grind
theorem addC_dig {b:Nat} (hb:1<b):∀ (xs ys:List Nat) (c:Nat),c≤1→Dig b xs→Dig b ys→Dig b (addC b c xs ys)
 | [],_,c,h,_,_=>Dig.cons (by omega) Dig.nil
 | x::xs,[],c,h,hx,hy=>by
   have:=hx.hd
   exact Dig.cons (Nat.mod_lt _ (by omega)) (addC_dig hb xs [] _ (by have:(x+c)/b<2:=Nat.div_lt_of_lt_mul (by omega);omega) hx.tl hy)
 | x::xs,y::ys,c,h,hx,hy=>by
   have:=hx.hd
   have:=hy.hd
   exact Dig.cons (Nat.mod_lt _ (by omega)) (addC_dig hb xs ys _ (by have:(x+c+y)/b<2:=Nat.div_lt_of_lt_mul (by omega);omega) hx.tl hy.tl)
theorem addC_len (b:Nat):∀ (xs ys:List Nat) (c:Nat),(addC b c xs ys).length=xs.length+1
 | [],_,c=>rfl
 | x::xs,[],c=>by simp[addC,addC_len b xs []]
 | x::xs,y::ys,c=>by simp[addC,addC_len b xs ys]
def subC (b:Nat):Nat→List Nat→List Nat→List Nat
 | _,[],_=>[]
 | c,x::xs,[]=>(if x<c then x+b-c else x-c)::subC b (if x<c then 1 else 0) xs []
 | c,x::xs,y::ys=>(if x<c+y then x+b-(c+y) else x-(c+y))::subC b (if x<c+y then 1 else 0) xs ys
theorem subC_len (b:Nat):∀ (xs ys:List Nat) (c:Nat),(subC b c xs ys).length=xs.length
 | [],_,c=>rfl
 | x::xs,[],c=>by simp[subC,subC_len b xs []]
 | x::xs,y::ys,c=>by simp[subC,subC_len b xs ys]
theorem subC_dig {b:Nat} (hb:1<b):∀ (xs ys:List Nat) (c:Nat),c≤1→Dig b xs→Dig b ys→Dig b (subC b c xs ys)
 | [],_,c,h,_,_=>Dig.nil
 | x::xs,[],c,h,hx,hy=>by
   have:=hx.hd
   exact Dig.cons (by split<;>omega) (subC_dig hb xs [] _ (by split<;>omega) hx.tl hy)
 | x::xs,y::ys,c,h,hx,hy=>by
   have:=hx.hd
   have:=hy.hd
   exact Dig.cons (by split<;>omega) (subC_dig hb xs ys _ (by split<;>omega) hx.tl hy.tl)
theorem subC_vl {b:Nat} (hb:1<b):∀ (xs ys:List Nat) (c:Nat),c≤1→Dig b xs→Dig b ys→ys.length≤xs.length→c+vl b ys≤vl b xs→vl b (subC b c xs ys)+(c+vl b ys)=vl b xs
 | [],[],c,h,_,_,_,hv=>by simp[subC,vl] at hv ⊢;omega
 | [],_::_,c,_,_,_,h,_=>by simp at h
 | x :: xs,[],c,h,hx,hy,hl,hv=>by
   simp only[vl] at hv
   simp only[subC]
   by_cases hc:x<c
   ·simp only[if_pos hc,vl]
    have hp:0<vl b xs:=by
     rcases Nat.eq_zero_or_pos (vl b xs) with h | h
     ·rw[h] at hv;omega
     ·exact h
    have ih:=subC_vl hb xs [] 1 (by omega) hx.tl Dig.nil (by simp) (by simp only[vl];omega)
    simp only[vl] at ih
    have e:b*(vl b (subC b 1 xs [])+1)=b*vl b xs:=by rw[← ih]
    rw[Nat.mul_add] at e
    omega
   ·simp only[if_neg hc,vl]
    have ih:=subC_vl hb xs [] 0 (by omega) hx.tl Dig.nil (by simp) (by simp[vl])
    simp only[vl] at ih
    rw[Nat.add_zero] at ih
    rw[ih]
    omega
 | x :: xs,y::ys,c,h,hx,hy,hl,hv=>by
   simp only[vl] at hv
   have hxb:=hx.hd
   have hyb:=hy.hd
   simp only[subC]
   by_cases hc:x<c+y
   ·simp only[if_pos hc,vl]
    have hp:1+vl b ys≤vl b xs:=by
     rcases Nat.lt_or_ge (vl b ys) (vl b xs) with h | h
     ·omega
     ·have:=Nat.mul_le_mul_left b h;omega
    have ih:=subC_vl hb xs ys 1 (by omega) hx.tl hy.tl (by simpa using hl) hp
    have e:b*(vl b (subC b 1 xs ys)+(1+vl b ys))=b*vl b xs:=by rw[← ih]
    rw[Nat.mul_add,Nat.mul_add] at e
    omega
   ·simp only[if_neg hc,vl]
    have hp:0+vl b ys≤vl b xs:=by
     rcases Nat.lt_or_ge (vl b xs) (vl b ys) with h | h
     ·have h1:b*(vl b xs+1)≤b*vl b ys:=Nat.mul_le_mul_left b h
      rw[Nat.mul_add] at h1
      omega
     ·omega
    have ih:=subC_vl hb xs ys 0 (by omega) hx.tl hy.tl (by simpa using hl) hp
    rw[Nat.zero_add] at ih
    have e:b*(vl b (subC b 0 xs ys)+vl b ys)=b*vl b xs:=by rw[← ih]
    rw[Nat.mul_add] at e
    omega
end Go.Fw
namespace Go.Fw
theorem vl_set {b:Nat}:∀ (l:List Nat) (i d:Nat) (h:i<l.length),vl b (l.set i d)+l[i]*b ^ i=vl b l+d*b ^ i
 | [],i,d,h=>by simp at h
 | x::l,0,d,h=>by simp[vl];omega
 | x::l,i+1,d,h=>by
   have ih:=vl_set (b:=b) l i d (by simpa using h)
   simp only[List.set_cons_succ,vl,List.getElem_cons_succ,Nat.pow_succ]
   have e:b*(vl b (l.set i d)+l[i]'(by simpa using h)*b ^ i)=b*(vl b l+d*b ^ i):=by rw[ih]
   grind
theorem vl_take {b:Nat} (l:List Nat) (i:Nat) (h:i<l.length):vl b (l.take (i+1))=vl b (l.take i)+l[i]*b ^ i:=by
 rw[List.take_succ_eq_append_getElem h,vl_app]
 simp only[vl,List.length_take,Nat.min_eq_left (Nat.le_of_lt h)]
 grind
theorem vl_drop {b:Nat} (l:List Nat) (i:Nat) (h:i<l.length):vl b (l.drop i)=l[i]+b*vl b (l.drop (i+1)):=by
 rw[List.drop_eq_getElem_cons h];rfl
theorem vl_split (b:Nat) (l:List Nat) (i:Nat) (h:i≤l.length):vl b l=vl b (l.take i)+b ^ i*vl b (l.drop i):=by
 have:=vl_app b (l.take i) (l.drop i)
 rw[List.take_append_drop,List.length_take,Nat.min_eq_left h] at this
 exact this
theorem vl_drop_div {b:Nat} {l:List Nat} (hl:Dig b l) (i:Nat) (h:i≤l.length):vl b (l.drop i)=vl b l/b ^ i:=by
 rcases Nat.eq_zero_or_pos b with h0 | hb
 ·subst h0
  cases l with
  | nil=>simp[vl]
  | cons x l=>exact absurd hl.hd (by omega)
 have h1:=vl_split b l i h
 have h2:=vl_lt (hl.take i)
 rw[List.length_take,Nat.min_eq_left h] at h2
 rw[h1,Nat.add_mul_div_left _ _ (Nat.pow_pos hb),Nat.div_eq_of_lt h2,Nat.zero_add]
theorem mul_step {b:Nat} {out:List Nat} {i:Nat} {s c V T:Nat} (h:i<out.length) (hv:vl b out+c*b ^ i=V) (hs:s=T+out[i]+c) :
  vl b (out.set i (s%b))+s/b*b ^ (i+1)=V+T*b ^ i:=by
 have h1:=vl_set (b:=b) out i (s%b) h
 have h2:=Nat.mod_add_div s b
 rw[Nat.pow_succ]
 have h3:(s%b+b*(s/b))*b ^ i=(T+out[i]+c)*b ^ i:=by rw[h2,hs]
 grind
theorem carry_lt {b x y o c s:Nat} (hx:x<b) (hy:y<b) (ho:o<b) (hc:c<b) (hs:s=x*y+o+c):s<b*b∧s/b<b:=by
 have h1:x*y≤(b-1)*(b-1):=Nat.mul_le_mul (by omega) (by omega)
 have h2:s<b*b:=by
  obtain ⟨k,rfl⟩:∃ k,b=k+1:=⟨b-1,by omega⟩
  simp only[Nat.add_sub_cancel] at h1
  have e:(k+1)*(k+1)=k*k+2*k+1:=by grind
  omega
 exact ⟨h2,Nat.div_lt_of_lt_mul h2⟩
theorem pow_le_of {b k n c T:Nat} (hb:1<b) (hc:0<c) (h:c*b ^ k≤T) (hT:T<b ^ n):k<n:=by
 have h1:b ^ k≤c*b ^ k:=Nat.le_mul_of_pos_left _ hc
 exact (Nat.pow_lt_pow_iff_right hb).1 (Nat.lt_of_le_of_lt (Nat.le_trans h1 h) hT)
theorem prod_lt {b:Nat} {xs ys:List Nat} {i:Nat} (hx:Dig b xs) (hy:Dig b ys) (hi:i≤xs.length):vl b (xs.take i)*vl b ys<b ^ (i+ys.length)∨ys=[]∧b ^ i=0∨b=0:=by
 rcases Nat.eq_zero_or_pos b with h | hb
 ·exact .inr (.inr h)
 ·left
  have h1:=vl_lt (hx.take i)
  rw[List.length_take,Nat.min_eq_left hi] at h1
  have h2:=vl_lt hy
  rw[Nat.pow_add]
  exact Nat.mul_lt_mul_of_lt_of_le h1 (Nat.le_of_lt h2) (Nat.pow_pos hb)
def cmpN (a b:Nat):Int:=if a<b then -1 else if b<a then 1 else 0
theorem vl_cmp {b:Nat} {xs ys:List Nat} (hx:Dig b xs) (hy:Dig b ys) (hl:xs.length=ys.length) {i:Nat} (hi:i<xs.length) (he:xs.drop (i+1)=ys.drop (i+1)) (h:xs[i]<ys[i]):vl b xs<vl b ys:=by
 have h1:=vl_split b xs i (by omega)
 have h2:=vl_split b ys i (by omega)
 have h3:=vl_lt (hx.take i)
 rw[List.length_take,Nat.min_eq_left (by omega)] at h3
 rw[vl_drop xs i hi] at h1
 rw[vl_drop ys i (by omega),← he] at h2
 have h4:b ^ i*(xs[i]+b*vl b (xs.drop (i+1))+1)≤b ^ i*(ys[i]+b*vl b (xs.drop (i+1))):=Nat.mul_le_mul_left _ (by omega)
 rw[Nat.mul_add] at h4
 omega
theorem dg_len_lt {b:Nat} (hb:1<b) {m n:Nat} (h:(dg b m).length<(dg b n).length):m<n:=by
 rcases Nat.lt_or_ge m n with h' | h'
 ·exact h'
 ·have:=dg_mono hb h';omega
theorem small_step {b by_ r d Q R:Nat} (h:R=by_*Q+r) (hr:r<by_) (hd:d<b) :
  d+b*R=by_*((r*b+d)/by_+b*Q)+(r*b+d)%by_∧(r*b+d)/by_<b∧(r*b+d)%by_<by_:=by
 have h1:=Nat.mod_add_div (r*b+d) by_
 refine ⟨?_,?_,Nat.mod_lt _ (by omega)⟩
 ·subst h
  grind
 ·refine Nat.div_lt_of_lt_mul ?_
  have h2:(r+1)*b≤by_*b:=Nat.mul_le_mul_right b hr
  rw[Nat.add_mul] at h2
  omega
theorem guess_ge {b n p t h y:Nat} (hp:p<(h+1)*b ^ n) (hy:t*b ^ n≤y) (ht:0<t) (hb:0<b):p/y≤h/t:=by
 rw[Nat.le_div_iff_mul_le ht]
 have hbn:0<b ^ n:=Nat.pow_pos hb
 have hy0:0<y:=Nat.lt_of_lt_of_le (Nat.mul_pos ht hbn) hy
 have h1:p/y*y≤p:=Nat.div_mul_le_self p y
 have h2:p/y*(t*b ^ n)≤p/y*y:=Nat.mul_le_mul_left _ hy
 have h3:p/y*t*b ^ n<(h+1)*b ^ n:=by rw[Nat.mul_assoc];omega
 have:=(Nat.mul_lt_mul_right hbn).1 h3
 omega
theorem guess_le {b f r y q:Nat} (hb:0<b) (hq:q=r/b ^ f/(y/b ^ f+1)):q*y≤r:=by
 have h1:q*(y/b ^ f+1)≤r/b ^ f:=by rw[hq];exact Nat.div_mul_le_self ..
 have h2:y≤(y/b ^ f+1)*b ^ f:=by
  have:=Nat.lt_div_mul_add (a:=y) (Nat.pow_pos (n:=f) hb)
  rw[Nat.add_mul,Nat.one_mul];omega
 have h3:q*y≤q*(y/b ^ f+1)*b ^ f:=by rw[Nat.mul_assoc];exact Nat.mul_le_mul_left _ h2
 exact Nat.le_trans h3 (Nat.le_trans (Nat.mul_le_mul_right _ h1) (Nat.div_mul_le_self ..))
end Go.Fw
namespace Go.Fw
def decB (l:List Nat):Nat:=vl 10 (l.reverse.map (· - 48))
def isDg (c:Nat):Bool:=decide (48≤c∧c≤57)
theorem decB_app (l r:List Nat):decB (l++r)=decB l*10 ^ r.length+decB r:=by
 unfold decB
 rw[List.reverse_append,List.map_append,vl_app]
 simp only[List.length_map,List.length_reverse]
 grind
theorem decB_snoc (l:List Nat) (c:Nat):decB (l++[c])=10*decB l+(c-48):=by
 rw[decB_app]
 have:decB [c]=c-48:=by simp[decB,vl]
 rw[this];simp;omega
theorem dig_of {l:List Nat} (h:l.all isDg=true):Dig 10 (l.reverse.map (· - 48)):=fun d hd=>by
 obtain ⟨c,hc,rfl⟩:=List.mem_map.1 hd
 have:=List.all_eq_true.1 h c (List.mem_reverse.1 hc)
 simp[isDg] at this
 omega
theorem decB_lt {l:List Nat} (h:l.all isDg=true):decB l<10 ^ l.length:=by
 have:=vl_lt (dig_of h)
 simpa [decB] using this
def decT (n:Nat):List Nat:=if n=0 then [48] else (dg 10 n).reverse.map (· + 48)
theorem decT_dg (n:Nat):(decT n).all isDg=true:=by
 unfold decT
 split
 ·rfl
 ·rw[List.all_eq_true]
  intro c hc
  obtain ⟨d,hd,rfl⟩:=List.mem_map.1 hc
  have:=dg_dig (b:=10) (by omega) n d (List.mem_reverse.1 hd)
  simp[isDg];omega
theorem decB_decT (n:Nat):decB (decT n)=n:=by
 unfold decT
 split
 ·rename_i h;subst h;rfl
 ·unfold decB
  rw[← List.map_reverse,List.reverse_reverse,List.map_map]
  have:((fun x=>x-48)∘fun x=>x+48)=(id:Nat→Nat):=by funext x;simp
  rw[this,List.map_id,vl_dg (by omega)]
def canon (l:List Nat):Bool:=decide (1≤l.length)&&(decide (l.length=1)||decide (l.getD 0 0≠48))&&l.all isDg
theorem trimF_id:∀ {l:List Nat},l≠[]→l.getLast?≠some 0→trimF l=l
 | [],h,_=>absurd rfl h
 | [d],_,h=>by
   have:d≠0:=fun e=>h (by simp[e])
   simp[trimF,this]
 | d::x::l,_,h=>by
   have ih:=trimF_id (l:=x::l) (by simp) (by simpa using h)
   rw[trimF,ih]
theorem trimF_last:∀ (l:List Nat),(trimF l).getLast?≠some 0
 | []=>by simp[trimF]
 | d::r=>by
   have ih:=trimF_last r
   rw[trimF]
   cases h:trimF r with
   | nil=>by_cases h0:d=0<;>simp[h0]
   | cons x y=>rw[h] at ih;simpa using ih
theorem dg_last {b:Nat} (hb:1<b) (n:Nat):(dg b n).getLast?≠some 0:=by
 have:=trimF_last (dg b n)
 rwa [trimF_eq hb (dg_dig hb n),vl_dg hb] at this
theorem decT_decB {l:List Nat} (h:canon l=true):decT (decB l)=l:=by
 unfold canon at h
 simp only[Bool.and_eq_true,Bool.or_eq_true,decide_eq_true_eq] at h
 obtain ⟨⟨h1,h2⟩,h3⟩:=h
 have hd:=dig_of h3
 have back:((l.reverse.map (· - 48)).reverse.map (· + 48))=l:=by
  rw[← List.map_reverse,List.reverse_reverse,List.map_map]
  have:∀ c∈l,((fun x=>x+48)∘fun x=>x-48) c=c:=fun c hc=>by
   have:=List.all_eq_true.1 h3 c hc
   simp[isDg] at this
   simp;omega
  rw[List.map_congr_left this,List.map_id']
 by_cases h0:decB l=0
 ·unfold decT
  rw[if_pos h0]
  rcases h2 with h2 | h2
  ·obtain ⟨c,rfl⟩:=List.length_eq_one_iff.1 h2
   have:=List.all_eq_true.1 h3 c (by simp)
   simp[isDg] at this
   simp[decB,vl] at h0
   have:c=48:=by omega
   rw[this]
  ·exfalso
   cases l with
   | nil=>simp at h1
   | cons c l=>
     have h5:=List.all_eq_true.1 h3 c (by simp)
     simp[isDg] at h5
     simp only[List.getD_cons_zero] at h2
     have:decB (c::l)=decB l+10 ^ l.length*(c-48):=by
      unfold decB
      rw[List.reverse_cons,List.map_append,vl_app]
      simp[vl]
     have h6:0<10 ^ l.length*(c-48):=Nat.mul_pos (Nat.pow_pos (by omega)) (by omega)
     omega
 ·unfold decT
  rw[if_neg h0]
  have:dg 10 (decB l)=l.reverse.map (· - 48):=by
   unfold decB
   rw[← trimF_eq (by omega) hd]
   refine trimF_id (fun e=>?_) (fun e=>?_)
   ·have:=congrArg List.length e
    simp at this
    subst this
    simp at h1
   ·rw[List.getLast?_map,List.getLast?_reverse] at e
    cases l with
    | nil=>simp at h1
    | cons c l=>
      simp at e
      have h5:=List.all_eq_true.1 h3 c (by simp)
      simp[isDg] at h5
      rcases h2 with h2 | h2
      ·have:l=[]:=by simpa using h2
       subst this
       have:c=48:=by omega
       subst this
       exact h0 rfl
      ·simp at h2;omega
  rw[this,back]
theorem decT_canon (n:Nat):canon (decT n)=true:=by
 have h:=decT_dg n
 unfold canon
 rw[h,Bool.and_true]
 unfold decT
 split
 ·rfl
 ·rename_i hn
  have h1:dg 10 n≠[]:=fun e=>hn ((dg_nil (by omega) n).1 e)
  have hl:0<(dg 10 n).length:=List.length_pos_iff.2 h1
  simp only[Bool.and_eq_true,Bool.or_eq_true,decide_eq_true_eq,List.length_map,List.length_reverse]
  refine ⟨hl,?_⟩
  by_cases e:(dg 10 n).length=1
  ·exact .inl e
  ·right
   have hl:=dg_last (b:=10) (by omega) n
   rw[List.getD_eq_getElem?_getD,List.getElem?_map,← List.head?_eq_getElem?,List.head?_reverse]
   cases hg:(dg 10 n).getLast? with
   | none=>exact absurd (List.getLast?_eq_none_iff.1 hg) h1
   | some d=>rw[hg] at hl;simp at hl ⊢;omega
def chunks (k:Nat):Nat→List Nat→List Nat
 | 0,_=>[]
 | n+1,l=>if l=[] then [] else vl 10 (l.take k)::chunks k n (l.drop k)
theorem chunks_vl {k:Nat} (hk:0<k):∀ (n:Nat) (l:List Nat),l.length≤n→vl (10 ^ k) (chunks k n l)=vl 10 l
 | 0,l,h=>by
   have:l=[]:=List.eq_nil_of_length_eq_zero (by omega)
   subst this;rfl
 | n + 1,l,h=>by
   unfold chunks
   split
   ·rename_i e;subst e;rfl
   ·rename_i e
    have hp:0<l.length:=List.length_pos_iff.2 e
    rw[vl,chunks_vl hk n (l.drop k) (by simp;omega)]
    rcases Nat.lt_or_ge l.length k with h1 | h1
    ·rw[List.take_of_length_le (by omega),List.drop_eq_nil_of_le (by omega)];simp[vl]
    ·exact (vl_split 10 l k h1).symm
theorem chunks_dig {k:Nat}:∀ (n:Nat) (l:List Nat),Dig 10 l→Dig (10 ^ k) (chunks k n l)
 | 0,l,h=>Dig.nil
 | n + 1,l,h=>by
   unfold chunks
   split
   ·exact Dig.nil
   ·have h1:=vl_lt (h.take k)
    refine Dig.cons (Nat.lt_of_lt_of_le h1 (Nat.pow_le_pow_right (by omega) (by simp;omega))) (chunks_dig n _ (h.drop k))
end Go.Fw
namespace Go.Fw
def cmpL:List Nat→List Nat→Int
 | x::xs,y::ys=>if cmpL xs ys=0 then (x:Int)-y else cmpL xs ys
 | _,_=>0
theorem cmpL_same (l:List Nat):cmpL l l=0:=by
 induction l with
 | nil=>rfl
 | cons x l ih=>simp[cmpL,ih]
theorem cmpL_at:∀ (xs ys:List Nat) (i:Nat) (h:i<xs.length) (h':i<ys.length),xs.drop (i+1)=ys.drop (i+1)→xs[i]≠ys[i]→cmpL xs ys=(xs[i]:Int)-ys[i]
 | x::xs,y::ys,0,_,_,he,_=>by
   simp only[Nat.zero_add,List.drop_succ_cons,List.drop_zero] at he
   subst he
   simp[cmpL,cmpL_same]
 | x::xs,y::ys,i+1,h,h',he,hne=>by
   have ih:=cmpL_at xs ys i (by simpa using h) (by simpa using h') (by simpa using he) (by simpa using hne)
   simp only[List.getElem_cons_succ] at hne ⊢
   rw[cmpL,if_neg (by rw[ih];omega),ih]
theorem cmpL_vl {b:Nat}:∀ {xs ys:List Nat},Dig b xs→Dig b ys→xs.length=ys.length→(0<cmpL xs ys↔vl b ys<vl b xs)∧(cmpL xs ys=0↔xs=ys)
 | [],[],_,_,_=>by simp[cmpL,vl]
 | x :: xs,y::ys,hx,hy,hl=>by
   have ih:=cmpL_vl hx.tl hy.tl (by simpa using hl)
   have h1:=hx.hd
   have h2:=hy.hd
   by_cases h:cmpL xs ys=0
   ·have e:=ih.2.1 h
    subst e
    simp only[cmpL,h,if_true,vl,List.cons.injEq,and_true]
    omega
   ·have hne:xs≠ys:=fun e=>h (ih.2.2 e)
    simp only[cmpL,if_neg h,vl,List.cons.injEq]
    refine ⟨?_,⟨fun e=>absurd e h,fun e=>absurd e.2 hne⟩⟩
    rw[ih.1]
    constructor
    ·intro hlt
     have:=Nat.mul_le_mul_left b (show vl b ys+1≤vl b xs from hlt)
     rw[Nat.mul_add] at this
     omega
    ·intro hlt
     rcases Nat.lt_or_ge (vl b ys) (vl b xs) with h | h
     ·exact h
     ·rcases Nat.lt_or_ge (vl b xs) (vl b ys) with h' | h'
      ·have:=Nat.mul_le_mul_left b (show vl b xs+1≤vl b ys from h')
       rw[Nat.mul_add] at this
       omega
      ·exact absurd (vl_inj hx.tl hy.tl (by simpa using hl) (by omega)) hne
def cmpW (xs ys:List Nat):Int:=if xs.length=ys.length then cmpL xs ys else (xs.length:Int)-ys.length
theorem cmpW_dg {b:Nat} (hb:1<b) (m n:Nat):(0<cmpW (dg b m) (dg b n)↔n<m)∧(cmpW (dg b m) (dg b n)=0↔m=n):=by
 unfold cmpW
 split
 ·rename_i h
  obtain ⟨h1,h2⟩:=cmpL_vl (dg_dig hb m) (dg_dig hb n) h
  rw[vl_dg hb,vl_dg hb] at h1
  exact ⟨h1,h2.trans ⟨fun e=>dg_inj hb e,fun e=>by rw[e]⟩⟩
 ·rename_i h
  constructor
  ·constructor
   ·intro hlt;exact dg_len_lt hb (by omega)
   ·intro hlt
    have:=dg_mono hb (Nat.le_of_lt hlt)
    omega
  ·constructor
   ·intro e;omega
   ·rintro rfl;exact absurd rfl h
end Go.Fw
namespace Go.Fw
theorem getD_get {l:List Nat} {i:Nat} (h:i<l.length):l[i]=l.getD i 0:=by rw[List.getD_eq_getElem?_getD,List.getElem?_eq_getElem h];rfl
theorem top_ne {b:Nat} (hb:1<b) {y n:Nat} (hn:(dg b y).length=n+1):(dg b y).getD n 0≠0:=fun e=>dg_last hb y (by
 rw[List.getLast?_eq_getElem?,hn,Nat.add_sub_cancel,List.getElem?_eq_getElem (by omega),getD_get (by omega),e])
theorem vl_top {b:Nat} (l:List Nat) (n:Nat) (hn:n<l.length) (hl:l.length≤n+2):vl b (l.drop n)=l.getD n 0+l.getD (n+1) 0*b:=by
 rw[vl_drop (b:=b) l n hn,getD_get hn]
 rcases Nat.lt_or_ge (n+1) l.length with h | h
 ·rw[vl_drop _ _ h,List.drop_of_length_le (by omega),getD_get h];simp[vl,Nat.mul_comm]
 ·rw[List.drop_of_length_le h,List.getD_eq_getElem?_getD (i:=n+1),List.getElem?_eq_none h];simp[vl]
theorem guess_gen {b:Nat} (hb:1<b) {p y n:Nat} (h:p<y*b) (hn:(dg b y).length=n+1) (hl:¬ (dg b p).length<n+1) :
  p/y≤((dg b p).getD n 0+(dg b p).getD (n+1) 0*b)/(dg b y).getD n 0:=by
 have hpl:(dg b p).length≤n+2:=by
  refine dg_len_le hb (Nat.lt_of_lt_of_le h ?_)
  rw[Nat.pow_succ,← hn];exact Nat.mul_le_mul_right _ (Nat.le_of_lt (dg_lt hb y))
 refine guess_ge (b:=b) (n:=n) ?_ ?_ (Nat.pos_of_ne_zero (top_ne hb hn)) (by omega)
 ·have e:=vl_split b (dg b p) n (by omega)
  rw[vl_dg hb,vl_top _ n (by omega) hpl] at e
  have e2:=vl_lt ((dg_dig hb p).take n)
  rw[List.length_take,Nat.min_eq_left (by omega)] at e2
  generalize (dg b p).getD n 0+(dg b p).getD (n+1) 0*b=t at e ⊢
  rw[Nat.add_mul,Nat.mul_comm t]
  omega
 ·have e:=vl_split b (dg b y) n (by omega)
  rw[vl_dg hb,vl_top _ n (by omega) (by omega)] at e
  rw[Nat.mul_comm]
  have:=Nat.mul_le_mul_left (b ^ n) (Nat.le_add_right ((dg b y).getD n 0) ((dg b y).getD (n+1) 0*b))
  omega
end Go.Fw
namespace Go.Proofs.YtlhdoekgipaihaaGreatDoor
open Go Go.Fw
theorem D0 {i:Nat} {ops:Array Oper} {K:Fr→Hp→Prop} {σ:Fr} {H:Hp} (h:∀ γs:Nat→Nat,cgOps (E i) ops γs 0 ops.toList σ H [] fun σ' H' L=>Need (chkAll ops [] [] (ops.toList.zip L)=true) (K σ' H')):DrawP (DH (E i)) ops K σ H:=DrawH.intro (E:=E i) T_ok h
theorem Need.drawn {ops:Array Oper} {a c:List (Oper×St)} {b:List Nat} {K:Prop} (h:chkAll ops a b c=true) (k:K):Need (chkAll ops a b c=true) K:=Need.intro h k
theorem CondP.pos {p:Prop} [Decidable p] {X Y:Prop} (h:p) (k:X):CondP (decide p) X Y:=.dec (fun _=>k) (fun q=>absurd h q)
theorem CondP.neg {p:Prop} [Decidable p] {X Y:Prop} (h:¬ p) (k:Y):CondP (decide p) X Y:=.dec (fun q=>absurd q h) (fun _=>k)
theorem CondP.bt {b:Bool} {X Y:Prop} (h:b=true) (k:X):CondP b X Y:=.intro (fun _=>k) (fun q=>by rw[h] at q;cases q)
theorem PC {f:Nat} {fn:Func} {c:Code} {args:List AV} {r:AV} (S:List Nat) (hf:Tryz.prog.funcs[f]?=some fn) (hb:fn.body=some c) (hg:goodCode fn.ntmps c=true) (ha:Nat.ble args.length fn.ntmps=true)
 (h:Box (cpA (E 0) (DH (E 0)) c (retC (E 0) fn S r) (frame0 args) fun _=>none)):PureCall Tryz.prog f args r:=pure_cp (E:=E 0) T_ok (D_ok 0) S hf hb hg (Nat.le_of_ble_eq_true ha) h
theorem T9:(∀ s:Nat,(s:Int).tdiv 1000000000=((s/1000000000:Nat):Int))∧(∀ s:Nat,(s:Int).tmod 1000000000=((s%1000000000:Nat):Int)):=⟨fun _=>rfl,fun _=>rfl⟩
theorem TN:(∀ s k:Nat,(s:Int).tdiv k=((s/k:Nat):Int))∧(∀ s k:Nat,(s:Int).tmod k=((s%k:Nat):Int)):=⟨fun _ _=>rfl,fun _ _=>rfl⟩
theorem TD:(∀ (a b:Int),0≤a→Int.tdiv a b=a/b)∧(∀ (a b:Int),0≤a→Int.tmod a b=a%b):=⟨fun _ _ h=>Int.tdiv_eq_ediv_of_nonneg h,fun _ _ h=>Int.tmod_eq_emod_of_nonneg h⟩
def encS (s:ByteArray):AV:=.val (.string s)
def encI (n:Int):AV:=.val (.int .i64 n)
def encB (b:Bool):AV:=.val (.bool b)
def encw (n:Nat):AV:=.val (.int .u32 n)
def encWs (l:List Nat):AV:=.sl 1 (l.map encw)
abbrev B9:Nat:=1000000000
def encW (n:Nat):AV:=encWs (dg B9 n)
def encZ (z:Int):AV:=.agg [encB (decide (z<0)),encW z.natAbs]
theorem g9 {l:List Nat} (h:Dig B9 l) (i:Nat) (hi:i<l.length):l[i]<1000000000:=h.get i hi
theorem snap_list {α:Type} (s:AV→AV) (enc:α→AV) (xs:List α) (n:Nat) (hn:n=xs.length) (hs:∀ x,snapEl s (enc x)=enc x):(((xs.map enc).drop 0).take n).map (snapEl s)=xs.map enc:=by
 subst hn
 rw[List.drop_zero,List.take_of_length_le (by simp),List.map_map]
 exact List.map_congr_left fun x _=>hs x
theorem endW {S:List Nat} {H:Hp} {k:Nat} {L:List AV} {n:Nat} {xs:List Nat} (h:L=xs.map encw) (hn:n=xs.length):AV.sl 1 (((L.drop 0).take n).map (snapEl (snapC S H k)))=encWs xs:=by
 subst h
 rw[snap_list _ _ _ _ hn fun x=>by cases k<;>rfl];rfl
theorem set_map {α:Type} (f:α→AV) (l:List α) (i:Nat) (x:α) (y:AV) (h:y=f x):(l.map f).set i y=(l.set i x).map f:=by rw[h,List.map_set]
theorem set_at {α:Type} (l:List α) (x y:α) (r:List α):(l++x::r).set l.length y=l++y::r:=by simp
theorem setw {l:List Nat} {i:Nat} {z:Int} (n:Nat) (h:z=n):(l.map encw).set i (.val (.int .u32 z))=(l.set i n).map encw:=set_map encw l i n _ (by rw[h];rfl)
theorem putw {p e:Nat} {out r:List Nat} {x i j:Nat} {z:Int} (n:Nat) (h:z=n) (hi:i=out.length) (hj:j=i):some (p,(⟨e,1,((out++x::r).map encw).set j (.val (.int .u32 z))⟩:Blk))=some (p,⟨e,1,(out++[n]++r).map encw⟩):=by
 subst hj hi;rw[setw n h,set_at];simp
theorem repw (n:Nat):List.replicate n (mkEl { size:=1,bytes:=4,zero:=[Value.int .u32 0],kind:=Kd.int .u32 })=(List.replicate n 0).map encw:=by rw[List.map_replicate];rfl
theorem pure_args {P:Program} {f:Nat} {args args':List AV} {r:AV} (e:args=args') (h:PureCall P f args' r):PureCall P f args r:=e ▸ h
theorem snap_own {S:List Nat} {H:Hp} {b g off len:Nat} {B:Blk} (hS:b∈S) (hb:H b=some (g,B)) (hl:off+len≤B.xs.length):snap S H (.own b g off len)=.sl B.n (((B.xs.drop off).take len).map (snapEl (snapC S H 2))):=by
 show snapC S H 3 (.own b g off len)=_
 simp only[snapC,if_pos hS,hb,true_and,if_pos hl]
theorem ownW {b p e n:Nat} {H:Hp} {out:List Nat} (hb:H b=some (p,⟨e,1,out.map encw⟩)) (hn:n=out.length):snap [b] H (.own b p 0 n)=encWs out:=by
 rw[snap_own (by simp) hb (by simp[hn]),snap_list _ _ _ _ hn fun _=>rfl];rfl
theorem mul_sign (x y:Int):(if (!(decide (x<0)==decide (y<0)))=true then -((x.natAbs*y.natAbs:Nat):Int) else ((x.natAbs*y.natAbs:Nat):Int))=x*y:=by
 rw[Int.natCast_mul]
 by_cases hx:x<0<;>by_cases hy:y<0
 ·rw[show (x.natAbs:Int)=-x by omega,show (y.natAbs:Int)=-y by omega];simp[hx,hy];grind
 ·rw[show (x.natAbs:Int)=-x by omega,show (y.natAbs:Int)=y by omega];simp[hx,hy];try grind
 ·rw[show (x.natAbs:Int)=x by omega,show (y.natAbs:Int)=-y by omega];simp[hx,hy];grind
 ·rw[show (x.natAbs:Int)=x by omega,show (y.natAbs:Int)=y by omega];simp[hx,hy];try grind
theorem hB9:1<B9:=by decide
end Go.Proofs.YtlhdoekgipaihaaGreatDoor
namespace Go.Proofs.YtlhdoekgipaihaaGreatDoor
open Go Go.Fw
theorem snoc {α:Type} (l:List α):l=[]∨∃ r d,l=r++[d]:=by
 rcases List.eq_nil_or_concat l with h | ⟨r,d,h⟩
 ·exact .inl h
 ·exact .inr ⟨r,d,by rw[h,List.concat_eq_append]⟩
theorem plain_ok (ws:List Nat) (hl:ws.length<2^62):PureCall Tryz.prog 332 [encWs ws] (encWs (trimF ws)):=by
 refine PC [] Tryz.func332 rfl (by rfl) rfl ?_
 refine kW ?_
 (refine kS ?_;repeat intro γ)
 refine LoopP.intro (fun n σ H=>∃ l:List Nat,n=l.length∧l.length≤ws.length∧trimF l=trimF ws∧σ=fr [(0,encWs l)]∧H=hp []) ?_ ?_
 ·exact .intro <| W.of ⟨_,ws,rfl,Nat.le_refl _,rfl,rfl,rfl⟩ ⟨rfl,trivial⟩ trivial
 ·rintro n σ H ⟨l,rfl,hle,ht,rfl,rfl⟩
  rcases snoc l with rfl | ⟨r,d,rfl⟩
  ·refine kW ?_
   (refine kS ?_;repeat intro γ)
   exact .of (by rw[← ht];rfl)
  ·have hr:r.length<ws.length:=by simp at hle;omega
   refine kW ?_
   (refine kS ?_;repeat intro γ)
   refine CondP.dec (fun h=>?_) (fun h=>?_)<;>refine kW ?_
   case' refine_2=>exact (h (by simp)).elim
   (refine kS ?_;repeat intro γ)
   have e1:((((r++[d]).map encw).length:Int)-1).toNat=r.length:=by simp
   have e2:((r++[d]).map encw).getD r.length .dead=encw d:=by simp
   simp only[e1,e2]
   refine kW ?_
   (refine kS ?_;repeat intro γ)
   rw[trimF_snoc] at ht
   refine CondP.dec (fun h=>?_) (fun h=>?_)<;>refine kW ?_
   ·have hd:d=0:=by omega
    rw[if_pos hd] at ht
    (refine kS ?_;repeat intro γ)
    refine .intro <| W.of ⟨_,by simp,r,rfl,by omega,ht,rfl,rfl⟩ ⟨?_,trivial⟩ trivial
    show AV.sl 1 _=AV.sl 1 _
    simp
   ·have hd:¬ d=0:=by omega
    rw[if_neg hd] at ht
    (refine kS ?_;repeat intro γ)
    exact .of (by rw[← ht];rfl)
theorem signed_ok (ws:List Nat) (m:Bool) (hl:ws.length<2^62):PureCall Tryz.prog 272 [encWs ws,encB m] (.agg [encB (m&&decide (trimF ws≠[])),encWs (trimF ws)]):=by
 refine PC [4] Tryz.func272 rfl (by rfl) rfl ?_
 refine kW ?_
 (refine kS ?_;repeat intro γ)
 refine CallP.pure [] _ c332 (plain_ok ws hl) ?_
 generalize trimF ws=l
 cases m
 ·refine kW ?_
  (refine kS ?_;repeat intro γ)
  exact .of rfl
 ·refine kW ?_
  (refine kS ?_;repeat intro γ)
  refine .of ?_
  cases l with
  | nil=>rfl
  | cons a b=>rw[show decide (a::b≠[])=true from by simp];simp;rfl
theorem compare_ok (xs ys:List Nat) (hx:xs.length<2^62) (hy:ys.length<2^62) (dx:Dig B9 xs) (dy:Dig B9 ys):PureCall Tryz.prog 274 [encWs xs,encWs ys] (encI (cmpW xs ys)):=by
 refine PC [] Tryz.func274 rfl (by rfl) rfl ?_
 unfold cmpW
 refine kW ?_
 (refine kS ?_;repeat intro γ)
 refine CondP.dec (fun h=>?_) (fun h=>?_)<;>refine kW ?_
 ·(have h2:=h;try simp only[LN] at h2)
  have hl:xs.length=ys.length:=by omega
  (refine kS ?_;repeat intro γ)
  rw[if_pos hl]
  refine LoopP.intro (fun n σ H=>∃ i:Nat,n=i∧i≤xs.length∧xs.drop i=ys.drop i∧σ=fr [(0,encWs xs),(1,encWs ys),(5,encI ((i:Int)-1))]∧H=hp []) ?_ ?_
  ·exact .intro <| W.of ⟨_,xs.length,rfl,Nat.le_refl _,by rw[List.drop_of_length_le (by omega),List.drop_of_length_le (by omega)],rfl,rfl⟩ ⟨rfl,rfl,by simp;rfl,trivial⟩ trivial
  ·rintro n σ H ⟨i,rfl,hi,he,rfl,rfl⟩
   refine kW ?_
   (refine kS ?_;repeat intro γ)
   refine CondP.dec (fun h=>?_) (fun h=>?_)<;>refine kW ?_
   ·obtain ⟨i,rfl⟩:∃ k,n=k+1:=⟨n-1,by omega⟩
    have e1:(((i+1:Nat):Int)-1)=i:=by omega
    simp only[e1]
    have h1:=g9 dx i (by omega)
    have h2:=g9 dy i (by omega)
    (refine kR ?_;repeat intro γ)
    refine CondP.dec (fun h=>?_) (fun h=>?_)<;>refine kW ?_
    ·(refine kS ?_;repeat intro γ)
     refine .intro <| W.of ⟨_,by omega,i,rfl,by omega,?_,rfl,rfl⟩ ⟨rfl,rfl,rfl,trivial⟩ trivial
     rw[List.drop_eq_getElem_cons (by omega),List.drop_eq_getElem_cons (by omega:i<ys.length),he,show xs[i]=ys[i] from by omega]
    ·(refine kR ?_;repeat intro γ)
     refine .of ?_
     rw[cmpL_at xs ys i (by omega) (by omega) he (by omega)];rfl
   ·obtain rfl:n=0:=by omega
    simp only[List.drop_zero] at he
    subst he
    (refine kS ?_;repeat intro γ)
    exact .of (by rw[cmpL_same];rfl)
 ·(have h2:=h;try simp only[LN] at h2)
  (refine kS ?_;repeat intro γ)
  exact .of (by rw[if_neg (by omega)];simp only[List.length_map];rfl)
end Go.Proofs.YtlhdoekgipaihaaGreatDoor
namespace Go.Proofs.YtlhdoekgipaihaaGreatDoor
open Go Go.Fw
theorem cloneW_ok (xs:List Nat) (hl:xs.length≤2^40):HCall Tryz.prog 333 [encWs xs] (hp []) (Gives 5 0 xs.length 329 1 (xs.map encw)):=by
 refine hcall_cp (E:=E 0) T_ok (D_ok 0) Tryz.func333 rfl (by rfl) (Nat.le_of_ble_eq_true rfl) ?_
 refine kW ?_
 (refine kS ?_;repeat intro γ)
 refine Need.intro ?_ ?_
 ·by_cases h:xs=[]
  ·right
   subst h
   refine kV ?_
   refine CondP.tt ?_
   refine kV ?_
   refine cpA_retW ?_
   refine W.mat 2 5 329 1 rfl rfl fun γ=>?_
   refine W.of (l:=[(2,.own 5 γ 0 0)]) (m:=[(5,γ,⟨329,1,[]⟩)]) ?_ ⟨rfl,trivial⟩ ⟨rfl,trivial⟩
   refine kW ?_
   (refine kS ?_;repeat intro γ)
   exact EndH.of (m:=[(5,γ,⟨329,1,[]⟩)]) ⟨rfl,trivial⟩ ⟨γ,rfl,rfl⟩
  ·left
   simpa using h
 ·refine kW ?_
  (refine kS ?_;repeat intro γ)
  rename_i γ
  refine EndH.of (m:=[(5,γ,⟨329,1,xs.map encw⟩)]) ⟨rfl,trivial⟩ ⟨γ,?_,rfl⟩
  simp;rfl
def moreF (a b:List Nat):List Nat:=if a.length<b.length then addC B9 0 b a else addC B9 0 a b
theorem moreF_len (a b:List Nat):(moreF a b).length=max a.length b.length+1:=by
 unfold moreF
 split<;>rw[addC_len]<;>omega
theorem moreF_dig {a b:List Nat} (ha:Dig B9 a) (hb:Dig B9 b):Dig B9 (moreF a b):=by
 unfold moreF
 split
 ·exact addC_dig hB9 _ _ _ (by omega) hb ha
 ·exact addC_dig hB9 _ _ _ (by omega) ha hb
theorem moreF_vl (a b:List Nat):vl B9 (moreF a b)=vl B9 a+vl B9 b:=by
 unfold moreF
 split
 ·rw[addC_vl _ _ _ (by omega)];omega
 ·rw[addC_vl _ _ _ (by omega)];omega
theorem more_ok (xs ys:List Nat) (hx:xs.length<2^40) (hy:ys.length<2^40) (dx:Dig B9 xs) (dy:Dig B9 ys):PureCall Tryz.prog 273 [encWs xs,encWs ys] (encWs (moreF xs ys)):=by
 refine PC [20] Tryz.func273 rfl (by rfl) rfl ?_
 unfold moreF
 refine kW ?_
 (refine kS ?_;repeat intro γ)
 refine CondP.dec (fun h=>?_) (fun h=>?_)<;>refine kW ?_
 case' refine_1=>
  (have h2:=h;try simp only[LN] at h2)
  (refine kS ?_;repeat intro γ)
  rw[if_pos (by omega)]
  have hle:xs.length≤ys.length:=by omega
  clear h h2
  revert hx hy dx dy hle
  generalize xs=b
  generalize ys=a
  intro hb ha db da hle
 case' refine_2=>
  (have h2:=h;try simp only[LN] at h2)
  (refine kS ?_;repeat intro γ)
  rw[if_neg (by omega)]
  have hle:ys.length≤xs.length:=by omega
  clear h h2
  revert hx hy dx dy hle
  generalize xs=a
  generalize ys=b
  intro ha hb da db hle
 all_goals
  simp only[List.length_map]
  generalize hR:addC B9 0 a b=R
  refine LoopP.intro (fun n σ H=>∃ p i c,∃ out:List Nat,i≤a.length∧n=a.length-i∧out.length=i∧c≤1∧out++addC B9 c (a.drop i) (b.drop i)=R ∧
   σ=fr [(1,encWs b),(5,.own 20 p 0 i),(6,encw c),(21,encWs a),(22,encI a.length),(23,encI i)]∧H=hp [(20,p,⟨329,1,out.map encw⟩)]) ?_ ?_
  ·exact .intro <| W.of ⟨_,_,0,0,[],Nat.zero_le _,rfl,rfl,by omega,hR,rfl,rfl⟩ ⟨rfl,rfl,rfl,rfl,rfl,rfl,trivial⟩ ⟨rfl,trivial⟩
  ·rintro n σ H ⟨p,i,c,out,hi,rfl,ho,hc,hR,rfl,rfl⟩
   refine kW ?_
   (refine kS ?_;repeat intro γ)
   refine CondP.dec (fun h=>?_) (fun h=>?_)<;>refine kW ?_
   ·(have h2:=h;try simp only[LN] at h2)
    have hi':i<a.length:=by omega
    have h1:=g9 da i hi'
    (refine kS ?_;repeat intro γ)
    (simp (disch:=omega) only [LG];refine kW ?_)
    (refine kS ?_;repeat intro γ)
    rw[List.drop_eq_getElem_cons hi'] at hR
    refine CondP.dec (fun h=>?_) (fun h=>?_)<;>refine kW ?_
    ·(have h2:=h;try simp only[LN] at h2)
     have hib:i<b.length:=by omega
     have h2:=g9 db i hib
     rw[List.drop_eq_getElem_cons hib,addC,List.append_cons] at hR
     (refine kR ?_;repeat intro γ)
     (simp (disch:=omega) only [TD])
     (refine kR ?_;repeat intro γ)
     refine .intro <| W.of ⟨_,by omega,_,i+1,_,out++[_],hi',rfl,by simp[ho],?_,hR,rfl,rfl⟩ ⟨rfl,rfl,rfl,rfl,rfl,rfl,trivial⟩ ⟨?_,trivial⟩
     ·show (a[i]+c+b[i])/1000000000≤1;omega
     ·simp;rfl
    ·(have h2:=h;try simp only[LN] at h2)
     have hib:b.length≤i:=by omega
     rw[List.drop_eq_nil_of_le hib,addC,List.append_cons] at hR
     (refine kR ?_;repeat intro γ)
     (simp (disch:=omega) only [TD])
     (refine kR ?_;repeat intro γ)
     refine .intro <| W.of ⟨_,by omega,_,i+1,_,out++[(a[i]+c)%B9],hi',rfl,by simp[ho],?_,?_,rfl,rfl⟩ ⟨rfl,rfl,rfl,rfl,rfl,rfl,trivial⟩ ⟨?_,trivial⟩
     rotate_left 1
     ·rw[List.drop_eq_nil_of_le (by omega:b.length≤i+1)];exact hR
     ·simp;rfl
     ·show (a[i]+c)/1000000000≤1;omega
   ·(have h2:=h;try simp only[LN] at h2)
    rw[List.drop_eq_nil_of_le (by omega:a.length≤i),addC] at hR
    (refine kR ?_;repeat intro γ)
    subst hR
    exact .of (endW (by simp;rfl) (by simp[ho]))
theorem less_ok (xs ys:List Nat) (hx:xs.length<2^40) (hy:ys.length≤xs.length) (dx:Dig B9 xs) (dy:Dig B9 ys):PureCall Tryz.prog 275 [encWs xs,encWs ys] (encWs (subC B9 0 xs ys)):=by
 refine PC [10] Tryz.func275 rfl (by rfl) rfl ?_
 generalize hR:subC B9 0 xs ys=R
 refine kW ?_
 (refine kS ?_;repeat intro γ)
 refine CallP.frame 1000000 [(5,10)] rfl c333 (cloneW_ok xs (by omega)) rfl trivial ?_
 rintro r0 h' ⟨δ,rfl,rfl⟩
 refine ⟨[(10,δ,⟨329,1,xs.map encw⟩)],⟨mvB_flats encw _ (fun _=>rfl) ..,trivial⟩,?_⟩
 refine kW ?_
 (refine kS ?_;repeat intro γ)
 simp only[List.length_map]
 refine LoopP.intro (fun n σ H=>∃ p i c,∃ out:List Nat,i≤xs.length∧n=xs.length-i∧out.length=i∧c≤1∧out++subC B9 c (xs.drop i) (ys.drop i)=R ∧
  σ=fr [(1,encWs ys),(5,.own 10 p 0 xs.length),(6,encI c),(12,encI xs.length),(13,encI i)]∧H=hp [(10,p,⟨329,1,(out++xs.drop i).map encw⟩)]) ?_ ?_
 ·exact .intro <| W.of ⟨_,_,0,0,[],Nat.zero_le _,rfl,rfl,by omega,hR,rfl,rfl⟩ ⟨rfl,rfl,rfl,rfl,rfl,trivial⟩ ⟨rfl,trivial⟩
 ·rintro n σ H ⟨p,i,c,out,hi,rfl,ho,hc,hR,rfl,rfl⟩
  have hlen:((out++xs.drop i).map encw).length=xs.length:=by simp;omega
  refine kW ?_
  (refine kS ?_;repeat intro γ)
  refine CondP.dec (fun h=>?_) (fun h=>?_)<;>refine kW ?_
  ·have hi':i<xs.length:=by omega
   have h1:=g9 dx i hi'
   have hget:((out++xs.drop i).map encw).getD i .dead=encw xs[i]:=by
    rw[getD_map _ _ _ (by simp;omega)];simp[List.getElem_append,ho]
   rw[List.drop_eq_getElem_cons hi'] at hR hget hlen ⊢
   (refine kS ?_;repeat intro γ)
   simp only[Int.toNat_natCast,Nat.zero_add,hget]
   refine kW ?_
   (refine kS ?_;repeat intro γ)
   refine CondP.dec (fun h=>?_) (fun h=>?_)<;>refine kW ?_
   ·(have h2:=h;try simp only[LN] at h2)
    have hib:i<ys.length:=by omega
    have h2:=g9 dy i hib
    rw[List.drop_eq_getElem_cons hib,subC,List.append_cons] at hR
    (refine kR ?_;repeat intro γ)
    refine CondP.dec (fun h=>?_) (fun h=>?_)<;>refine kW ?_
    ·(refine kR ?_;repeat intro γ)
     simp only[hget]
     refine kW ?_
     (refine kR ?_;repeat intro γ)
     rw[if_pos (by omega),if_pos (by omega)] at hR
     refine .intro <| W.of ⟨_,by omega,_,i+1,1,out++[xs[i]+1000000000-(c+ys[i])],hi',rfl,by simp[ho],by omega,?_,rfl,rfl⟩ ⟨rfl,rfl,rfl,rfl,rfl,trivial⟩ ⟨putw _ (by omega) ho.symm (by omega),trivial⟩
     exact hR
    ·(refine kR ?_;repeat intro γ)
     simp only[hget]
     refine kW ?_
     (refine kR ?_;repeat intro γ)
     rw[if_neg (by omega),if_neg (by omega)] at hR
     refine .intro <| W.of ⟨_,by omega,_,i+1,0,out++[xs[i]-(c+ys[i])],hi',rfl,by simp[ho],by omega,?_,rfl,rfl⟩ ⟨rfl,rfl,rfl,rfl,rfl,trivial⟩ ⟨putw _ (by omega) ho.symm (by omega),trivial⟩
     exact hR
   ·(have h2:=h;try simp only[LN] at h2)
    have hib:ys.length≤i:=by omega
    rw[List.drop_eq_nil_of_le hib,subC,List.append_cons] at hR
    (refine kR ?_;repeat intro γ)
    refine CondP.dec (fun h=>?_) (fun h=>?_)<;>refine kW ?_
    ·(refine kR ?_;repeat intro γ)
     simp only[hget]
     refine kW ?_
     (refine kR ?_;repeat intro γ)
     rw[if_pos (by omega),if_pos (by omega)] at hR
     refine .intro <| W.of ⟨_,by omega,_,i+1,1,out++[xs[i]+1000000000-c],hi',rfl,by simp[ho],by omega,?_,rfl,rfl⟩ ⟨rfl,rfl,rfl,rfl,rfl,trivial⟩ ⟨putw _ (by omega) ho.symm (by omega),trivial⟩
     rw[List.drop_eq_nil_of_le (by omega:ys.length≤i+1)];exact hR
    ·(refine kR ?_;repeat intro γ)
     simp only[hget]
     refine kW ?_
     (refine kR ?_;repeat intro γ)
     rw[if_neg (by omega),if_neg (by omega)] at hR
     refine .intro <| W.of ⟨_,by omega,_,i+1,0,out++[xs[i]-c],hi',rfl,by simp[ho],by omega,?_,rfl,rfl⟩ ⟨rfl,rfl,rfl,rfl,rfl,trivial⟩ ⟨putw _ (by omega) ho.symm (by omega),trivial⟩
     rw[List.drop_eq_nil_of_le (by omega:ys.length≤i+1)];exact hR
  ·(have h2:=h;try simp only[LN] at h2)
   (refine kS ?_;repeat intro γ)
   rw[List.drop_eq_nil_of_le (by omega:xs.length≤i)] at hR ⊢
   simp only[subC,List.append_nil] at hR ⊢
   subst hR
   exact .of (endW rfl (by omega))
end Go.Proofs.YtlhdoekgipaihaaGreatDoor
namespace Go.Proofs.YtlhdoekgipaihaaGreatDoor
open Go Go.Fw
def zl (z:Int):Nat:=(dg B9 z.natAbs).length
theorem encZ_mk (z:Int):encZ z=.agg [.val (.bool (decide (z<0))),.sl 1 ((dg B9 z.natAbs).map encw)]:=rfl
theorem trim_dg {l:List Nat} (h:Dig B9 l):encWs (trimF l)=encW (vl B9 l):=by rw[trimF_eq hB9 h];rfl
theorem signed_ok' (ws:List Nat) (m:Bool) (hl:ws.length<2^62) (hd:Dig B9 ws):PureCall Tryz.prog 272 [encWs ws,encB m] (encZ (if m then -(vl B9 ws:Int) else vl B9 ws)):=by
 have h:=signed_ok ws m hl
 have e:(AV.agg [encB (m&&decide (trimF ws≠[])),encWs (trimF ws)])=encZ (if m then -(vl B9 ws:Int) else vl B9 ws):=by
  rw[trim_dg hd,trimF_eq hB9 hd]
  have:decide (dg B9 (vl B9 ws)≠[])=decide (vl B9 ws≠0):=by
   refine decide_eq_decide.2 ?_
   rw[ne_eq,ne_eq,dg_nil hB9]
  rw[this]
  unfold encZ
  cases m
  ·simp only[Bool.false_and,Bool.false_eq_true,if_false,Int.natAbs_natCast]
   rw[decide_eq_false (by omega)]
  ·simp only[Bool.true_and,if_true,Int.natAbs_neg,Int.natAbs_natCast]
   rw[show decide (vl B9 ws≠0)=decide (-(vl B9 ws:Int)<0) from decide_eq_decide.2 (by omega)]
 rw[e] at h;exact h
theorem Neg_ok (z:Int) (hz:zl z<2^40):PureCall Tryz.prog 265 [encZ z] (encZ (-z)):=by
 refine PC [] Tryz.func265 rfl (by rfl) rfl ?_
 rw[encZ_mk z]
 refine kW ?_
 (refine kS ?_;repeat intro γ)
 refine CallP.pure [] _ c272 (signed_ok' (dg B9 z.natAbs) (!decide (z<0)) (by unfold zl at hz;omega) (dg_dig hB9 _)) ?_
 rw[vl_dg hB9]
 have e:(if (!decide (z<0))=true then -(z.natAbs:Int) else z.natAbs)=-z:=by split<;>simp_all<;>omega
 rw[e]
 refine kW ?_
 (refine kS ?_;repeat intro γ)
 exact .of rfl
theorem Abs_ok (z:Int):PureCall Tryz.prog 319 [encZ z] (encZ z.natAbs):=by
 refine PC [] Tryz.func319 rfl (by rfl) rfl ?_
 rw[encZ_mk z]
 refine kW ?_
 (refine kS ?_;repeat intro γ)
 refine .of ?_
 rw[encZ_mk,decide_eq_false (by omega)];rfl
theorem Zero_ok (z:Int):PureCall Tryz.prog 321 [encZ z] (encB (decide (z=0))):=by
 refine PC [] Tryz.func321 rfl (by rfl) rfl ?_
 rw[encZ_mk z]
 refine kW ?_
 (refine kS ?_;repeat intro γ)
 refine .of ?_
 show AV.val (.bool (decide _))=AV.val (.bool (decide _))
 congr 2
 refine decide_eq_decide.2 ?_
 have:=dg_nil hB9 z.natAbs
 rw[List.length_map]
 constructor
 ·intro h
  have:=this.1 (List.length_eq_zero_iff.1 (by omega))
  omega
 ·rintro rfl;simp[dg_zero]
def sgn (z:Int):Int:=if z=0 then 0 else if z<0 then -1 else 1
theorem Sign_ok (z:Int):PureCall Tryz.prog 266 [encZ z] (encI (sgn z)):=by
 refine PC [] Tryz.func266 rfl (by rfl) rfl ?_
 unfold sgn
 rw[encZ_mk z]
 refine kW ?_
 (refine kS ?_;repeat intro γ)
 refine CallP.flat [] _ c321 (Zero_ok z) rfl ?_
 refine kW ?_
 (refine kS ?_;repeat intro γ)
 refine CondP.dec (fun h=>?_) (fun h=>?_)<;>refine kW ?_
 ·(refine kS ?_;repeat intro γ)
  exact .of (by rw[if_pos h];rfl)
 ·rw[if_neg h]
  (refine kS ?_;repeat intro γ)
  refine CondP.dec (fun h=>?_) (fun h=>?_)<;>refine kW ?_
  ·(refine kS ?_;repeat intro γ)
   exact .of (by rw[if_pos h];rfl)
  ·(refine kS ?_;repeat intro γ)
   exact .of (by rw[if_neg h];rfl)
theorem One_ok (z:Int):PureCall Tryz.prog 175 [encZ z] (encB (decide (z=1))):=by
 refine PC [] Tryz.func175 rfl (by rfl) rfl ?_
 rw[encZ_mk z]
 have hv:=vl_dg hB9 z.natAbs
 have hg:=dg_dig hB9 z.natAbs
 by_cases hz:z<0
 ·rw[decide_eq_true hz]
  refine kW ?_
  (refine kS ?_;repeat intro γ)
  exact .of (by rw[decide_eq_false (by omega)];rfl)
 rw[decide_eq_false hz]
 rcases hl:dg B9 z.natAbs with _ | ⟨d,_ | ⟨e,r⟩⟩
 ·rw[hl] at hv
  refine kW ?_
  (refine kS ?_;repeat intro γ)
  exact .of (by rw[decide_eq_false (by simp[vl] at hv;omega)];rfl)
 ·rw[hl] at hv
  simp only[vl] at hv
  refine kW ?_
  (refine kS ?_;repeat intro γ)
  refine .of ?_
  show AV.val (.bool (decide _))=AV.val (.bool (decide _))
  congr 2
  exact decide_eq_decide.2 (by omega)
 ·refine kW ?_
  (refine kS ?_;repeat intro γ)
  refine .of ?_
  rw[decide_eq_false];rfl
  rintro rfl
  rw[show (1:Int).natAbs=1 from rfl,dg_one hB9 (by omega) (by decide)] at hl
  simp at hl
theorem cmpW_neg {b:Nat} (hb:1<b) (m n:Nat):cmpW (dg b m) (dg b n)<0↔m<n:=by
 have:=cmpW_dg hb m n
 omega
theorem moreF_dg (m n:Nat):vl B9 (moreF (dg B9 m) (dg B9 n))=m+n:=by rw[moreF_vl,vl_dg hB9,vl_dg hB9]
theorem subC_dg {m n:Nat} (h:n≤m):vl B9 (subC B9 0 (dg B9 m) (dg B9 n))=m-n:=by
 have:=subC_vl hB9 (dg B9 m) (dg B9 n) 0 (by omega) (dg_dig hB9 m) (dg_dig hB9 n) (dg_mono hB9 h) (by rw[vl_dg hB9,vl_dg hB9];omega)
 rw[vl_dg hB9,vl_dg hB9] at this
 omega
theorem Add_ok (x y:Int) (hx:zl x<2^39) (hy:zl y<2^39):PureCall Tryz.prog 176 [encZ x,encZ y] (encZ (x+y)):=by
 refine PC [] Tryz.func176 rfl (by rfl) rfl ?_
 unfold zl at hx hy
 have dx:=dg_dig hB9 x.natAbs
 have dy:=dg_dig hB9 y.natAbs
 have lm:=moreF_len (dg B9 x.natAbs) (dg B9 y.natAbs)
 have vm:=moreF_dg x.natAbs y.natAbs
 rw[encZ_mk x,encZ_mk y]
 cases hsx:decide (x<0)<;>cases hsy:decide (y<0)
 ·simp only[decide_eq_false_iff_not] at hsx hsy
  refine kW ?_
  (refine kS ?_;repeat intro γ)
  refine CallG.intro _ c273 (more_ok _ _ (by omega) (by omega) dx dy) ?_
  refine kW ?_
  (refine kS ?_;repeat intro γ)
  refine CallG.intro _ c272 (signed_ok' (moreF (dg B9 x.natAbs) (dg B9 y.natAbs)) false (by omega) (moreF_dig dx dy)) ?_
  rw[vm]
  refine kW ?_
  (refine kS ?_;repeat intro γ)
  refine .of ?_
  show encZ _=encZ _
  congr 1;simp only[if_true,Bool.false_eq_true,if_false];omega
 ·simp only[decide_eq_true_eq,decide_eq_false_iff_not] at hsx hsy
  refine kW ?_
  (refine kS ?_;repeat intro γ)
  refine CallP.flat [] _ c274 (compare_ok _ _ (by omega) (by omega) dx dy) rfl ?_
  have hc:=cmpW_neg hB9 x.natAbs y.natAbs
  refine kW ?_
  (refine kS ?_;repeat intro γ)
  refine CondP.dec (fun h=>?_) (fun h=>?_)<;>refine kW ?_
  ·have hle:y.natAbs≤x.natAbs:=by omega
   have hl:=dg_mono hB9 hle
   (refine kS ?_;repeat intro γ)
   refine CallG.intro _ c275 (less_ok _ _ (by omega) hl dx dy) ?_
   refine kW ?_
   (refine kS ?_;repeat intro γ)
   refine CallG.intro _ c272 (signed_ok' (subC B9 0 (dg B9 x.natAbs) (dg B9 y.natAbs)) false (by rw[subC_len];omega) (subC_dig hB9 _ _ _ (by omega) dx dy)) ?_
   rw[subC_dg hle]
   refine kW ?_
   (refine kS ?_;repeat intro γ)
   refine .of ?_
   show encZ _=encZ _
   congr 1;simp only[if_true,Bool.false_eq_true,if_false];omega
  ·have hle:x.natAbs≤y.natAbs:=by omega
   have hl:=dg_mono hB9 hle
   (refine kS ?_;repeat intro γ)
   refine CallG.intro _ c275 (less_ok _ _ (by omega) hl dy dx) ?_
   refine kW ?_
   (refine kS ?_;repeat intro γ)
   refine CallG.intro _ c272 (signed_ok' (subC B9 0 (dg B9 y.natAbs) (dg B9 x.natAbs)) true (by rw[subC_len];omega) (subC_dig hB9 _ _ _ (by omega) dy dx)) ?_
   rw[subC_dg hle]
   refine kW ?_
   (refine kS ?_;repeat intro γ)
   refine .of ?_
   show encZ _=encZ _
   congr 1;simp only[if_true,Bool.false_eq_true,if_false];omega
 ·simp only[decide_eq_true_eq,decide_eq_false_iff_not] at hsx hsy
  refine kW ?_
  (refine kS ?_;repeat intro γ)
  refine CallP.flat [] _ c274 (compare_ok _ _ (by omega) (by omega) dx dy) rfl ?_
  have hc:=cmpW_neg hB9 x.natAbs y.natAbs
  refine kW ?_
  (refine kS ?_;repeat intro γ)
  refine CondP.dec (fun h=>?_) (fun h=>?_)<;>refine kW ?_
  ·have hle:y.natAbs≤x.natAbs:=by omega
   have hl:=dg_mono hB9 hle
   (refine kS ?_;repeat intro γ)
   refine CallG.intro _ c275 (less_ok _ _ (by omega) hl dx dy) ?_
   refine kW ?_
   (refine kS ?_;repeat intro γ)
   refine CallG.intro _ c272 (signed_ok' (subC B9 0 (dg B9 x.natAbs) (dg B9 y.natAbs)) true (by rw[subC_len];omega) (subC_dig hB9 _ _ _ (by omega) dx dy)) ?_
   rw[subC_dg hle]
   refine kW ?_
   (refine kS ?_;repeat intro γ)
   refine .of ?_
   show encZ _=encZ _
   congr 1;simp only[if_true,Bool.false_eq_true,if_false];omega
  ·have hle:x.natAbs≤y.natAbs:=by omega
   have hl:=dg_mono hB9 hle
   (refine kS ?_;repeat intro γ)
   refine CallG.intro _ c275 (less_ok _ _ (by omega) hl dy dx) ?_
   refine kW ?_
   (refine kS ?_;repeat intro γ)
   refine CallG.intro _ c272 (signed_ok' (subC B9 0 (dg B9 y.natAbs) (dg B9 x.natAbs)) false (by rw[subC_len];omega) (subC_dig hB9 _ _ _ (by omega) dy dx)) ?_
   rw[subC_dg hle]
   refine kW ?_
   (refine kS ?_;repeat intro γ)
   refine .of ?_
   show encZ _=encZ _
   congr 1;simp only[if_true,Bool.false_eq_true,if_false];omega
 ·simp only[decide_eq_true_eq] at hsx hsy
  refine kW ?_
  (refine kS ?_;repeat intro γ)
  refine CallG.intro _ c273 (more_ok _ _ (by omega) (by omega) dx dy) ?_
  refine kW ?_
  (refine kS ?_;repeat intro γ)
  refine CallG.intro _ c272 (signed_ok' (moreF (dg B9 x.natAbs) (dg B9 y.natAbs)) true (by omega) (moreF_dig dx dy)) ?_
  rw[vm]
  refine kW ?_
  (refine kS ?_;repeat intro γ)
  refine .of ?_
  show encZ _=encZ _
  congr 1;simp only[if_true,Bool.false_eq_true,if_false];omega
theorem zl_neg (x:Int):zl (-x)=zl x:=by unfold zl;rw[Int.natAbs_neg]
theorem Sub_ok (x y:Int) (hx:zl x<2^39) (hy:zl y<2^39):PureCall Tryz.prog 320 [encZ x,encZ y] (encZ (x-y)):=by
 refine PC [] Tryz.func320 rfl (by rfl) rfl ?_
 rw[encZ_mk x,encZ_mk y]
 refine kW ?_
 (refine kS ?_;repeat intro γ)
 refine CallG.intro _ c265 (Neg_ok y (by omega)) ?_
 refine kW ?_
 (refine kS ?_;repeat intro γ)
 refine CallG.intro _ c176 (Add_ok x (-y) hx (by rw[zl_neg];exact hy)) ?_
 rw[← Int.sub_eq_add_neg]
 refine kW ?_
 (refine kS ?_;repeat intro γ)
 exact .of rfl
theorem Cmp_ok (x y:Int) (hx:zl x<2^39) (hy:zl y<2^39):PureCall Tryz.prog 235 [encZ x,encZ y] (encI (sgn (x-y))):=by
 refine PC [] Tryz.func235 rfl (by rfl) rfl ?_
 rw[encZ_mk x,encZ_mk y]
 refine kW ?_
 (refine kS ?_;repeat intro γ)
 refine CallP.pure [] _ c320 (Sub_ok x y hx hy) ?_
 refine kW ?_
 (refine kS ?_;repeat intro γ)
 refine CallP.flat [] _ c266 (Sign_ok (x-y)) rfl ?_
 refine kW ?_
 (refine kS ?_;repeat intro γ)
 exact .of rfl
end Go.Proofs.YtlhdoekgipaihaaGreatDoor
namespace Go.Proofs.YtlhdoekgipaihaaGreatDoor
open Go Go.Fw
theorem carry9 {x y o c:Nat} (hx:x<1000000000) (hy:y<1000000000) (ho:o<1000000000) (hc:c<1000000000):x*y+o+c<1000000000000000000∧(x*y+o+c)/1000000000<1000000000:=carry_lt (b:=1000000000) hx hy ho hc rfl
theorem mul_sum {b i j V a y vt vt':Nat} (h:vt'=vt+y*b ^ j):V+a*vt*b ^ i+a*y*b ^ (i+j)=V+a*vt'*b ^ i:=by
 subst h;rw[Nat.pow_add];grind
theorem mul_row {b i vx vx' a vy:Nat} (h:vx'=vx+a*b ^ i):vx*vy+a*vy*b ^ i=vx'*vy:=by subst h;grind
def hpMul (p g2 g3 g4:Nat) (out X Y:List Nat) (sx sy:Bool):List (Nat×Nat×Blk):=[(22,p,⟨329,1,out.map encw⟩),(2,g2,⟨122,2,[.agg [encB sx,encWs X]]⟩),(3,g3,⟨122,2,[.agg [encB sy,encWs Y]]⟩),(4,g4,⟨122,2,[.agg [encB false,.val (.slice none 0 0)]]⟩)]
theorem Mul_ok (x y:Int) (hx:zl x<2^39) (hy:zl y<2^39):PureCall Tryz.prog 178 [encZ x,encZ y] (encZ (x*y)):=by
 refine PC [22] Tryz.func178 rfl (by rfl) rfl ?_
 unfold zl at hx hy
 have dx:=dg_dig hB9 x.natAbs
 have dy:=dg_dig hB9 y.natAbs
 have vx:=vl_dg hB9 x.natAbs
 have vy:=vl_dg hB9 y.natAbs
 rw[encZ_mk x,encZ_mk y]
 generalize hX:dg B9 x.natAbs=X at hx dx vx
 generalize hY:dg B9 y.natAbs=Y at hy dy vy
 refine kW ?_
 (refine kS ?_;repeat intro γ)
 have e0:((((X.map encw).length:Int)+((Y.map encw).length:Int)+1).toNat)=X.length+Y.length+1:=by simp;omega
 simp only[e0,repw,List.length_map]
 refine LoopP.intro (fun n σ H=>∃ g2 g3 g4 p i,∃ out:List Nat,i≤X.length∧n=X.length-i∧out.length=X.length+Y.length+1∧Dig B9 out∧vl B9 out=vl B9 (X.take i)*vl B9 Y ∧
  σ=fr [(2,.op 2 g2 0 0),(3,.op 3 g3 0 0),(4,.op 4 g4 0 0),(5,.own 22 p 0 (X.length+Y.length+1)),(24,encWs X),(25,encI X.length),(26,encI i)]∧H=hp (hpMul p g2 g3 g4 out X Y (decide (x<0)) (decide (y<0)))) ?_ ?_
 ·exact .intro <| W.of ⟨_,_,_,_,_,0,List.replicate (X.length+Y.length+1) 0,Nat.zero_le _,rfl,by simp,Dig.rep (by decide) _,by rw[vl_rep];simp[vl],rfl,rfl⟩ ⟨rfl,rfl,rfl,rfl,rfl,rfl,rfl,trivial⟩ ⟨rfl,rfl,rfl,rfl,trivial⟩
 ·rintro n σ H ⟨g2,g3,g4,p,i,out,hi,rfl,hl,hd,hv,rfl,rfl⟩
  unfold hpMul
  refine kW ?_
  (refine kS ?_;repeat intro γ)
  refine CondP.dec (fun h=>?_) (fun h=>?_)<;>refine kW ?_
  ·(have h2:=h;try simp only[LN] at h2)
   have hi':i<X.length:=by omega
   have hxi:=g9 dx i hi'
   have htk:=vl_take (b:=B9) X i hi'
   (refine kR ?_;repeat intro γ)
   generalize X[i]=a at hxi htk
   generalize hV:vl B9 (X.take i)*vl B9 Y=V at hv
   refine LoopP.intro (fun n σ H=>∃ g2 g3 g4 p j c,∃ out:List Nat,j≤Y.length∧n=Y.length-j∧out.length=X.length+Y.length+1∧Dig B9 out∧c<1000000000∧vl B9 out+c*B9 ^ (i+j)=V+a*vl B9 (Y.take j)*B9 ^ i ∧
    σ=fr [(2,.op 2 g2 0 0),(3,.op 3 g3 0 0),(4,.op 4 g4 0 0),(5,.own 22 p 0 (X.length+Y.length+1)),(24,encWs X),(25,encI X.length),(26,encI i),(6,encI i),(7,encw a),(8,.val (.int .u64 c)),(32,encWs Y),(33,encI Y.length),(34,encI j)]∧H=hp (hpMul p g2 g3 g4 out X Y (decide (x<0)) (decide (y<0)))) ?_ ?_
   ·exact .intro <| W.of ⟨_,_,_,_,_,0,0,out,Nat.zero_le _,rfl,hl,hd,by omega,by simp[vl,hv],rfl,rfl⟩ ⟨rfl,rfl,rfl,rfl,rfl,rfl,rfl,rfl,rfl,rfl,rfl,rfl,rfl,trivial⟩ ⟨rfl,rfl,rfl,rfl,trivial⟩
   ·clear hd hv hl g2 g3 g4 p out
    rintro n σ H ⟨g2,g3,g4,p,j,c,out,hj,rfl,hl,hd,hc,hv,rfl,rfl⟩
    unfold hpMul
    refine kW ?_
    (refine kS ?_;repeat intro γ)
    refine CondP.dec (fun h=>?_) (fun h=>?_)<;>refine kW ?_
    ·(have h2:=h;try simp only[LN] at h2)
     have hj':j<Y.length:=by omega
     have hyj:=g9 dy j hj'
     have htj:=vl_take (b:=B9) Y j hj'
     have ho:=g9 hd (i+j) (by omega)
     have hs:=carry9 hxi hyj ho hc
     have hstep:=mul_step (b:=B9) (s:=a*Y[j]+out[i+j]+c) (T:=a*Y[j]) (by omega) hv rfl
     rw[mul_sum htj] at hstep
     have e1:((i:Int)+(j:Int)).toNat=i+j:=by omega
     (refine kR ?_;repeat intro γ)
     have hm:(a:Int)*(Y[j]:Nat)=((a*Y[j]:Nat):Int):=(Int.natCast_mul _ _).symm
     generalize a*Y[j]=q at hm hs hstep
     simp only[hm]
     (refine kR ?_;repeat intro γ)
     simp only[e1,Nat.zero_add]
     (refine kR ?_;repeat intro γ)
     have hq:(q:Int)+(out[i+j]:Nat)+c=((q+out[i+j]+c:Nat):Int):=by omega
     generalize q+out[i+j]+c=s at hq hs hstep
     simp only[hq,T9]
     (refine kR ?_;repeat intro γ)
     simp only[e1,Nat.zero_add]
     rw[getD_map encw out (i+j) (by omega)]
     refine kW ?_
     (refine kR ?_;repeat intro γ)
     try simp only[T9]
     (refine kR ?_;repeat intro γ)
     refine .intro <| W.of ⟨_,by omega,g2,g3,g4,_,j+1,s/1000000000,out.set (i+j) (s%1000000000),hj',rfl,by simp[hl],hd.set _ (Nat.mod_lt _ (by decide)),hs.2,hstep,rfl,rfl⟩ ⟨rfl,rfl,rfl,rfl,rfl,rfl,rfl,rfl,rfl,rfl,rfl,rfl,rfl,trivial⟩ ⟨?_,rfl,rfl,rfl,trivial⟩
     rw[← setw (z:=((s%1000000000:Nat):Int)) _ rfl];rfl
    ·(have h2:=h;try simp only[LN] at h2)
     have hj2:j=Y.length:=by omega
     subst hj2
     rw[List.take_length,← hV,mul_row htk] at hv
     (refine kS ?_;repeat intro γ)
     simp only[List.length_map]
     have hlt:vl B9 (X.take (i+1))*vl B9 Y<B9 ^ (i+1+Y.length):=by
      rcases prod_lt dx dy hi' with h | h | h
      ·exact h
      ·exact absurd h.2 (Nat.ne_of_gt (Nat.pow_pos (by decide)))
      ·exact absurd h (by decide)
     clear hV
     generalize hT:vl B9 (X.take (i+1))*vl B9 Y=T1 at hv hlt
     refine LoopP.intro (fun n σ H=>∃ g2 g3 g4 p k c,∃ out:List Nat,k≤i+1+Y.length∧n=i+2+Y.length-k∧out.length=X.length+Y.length+1∧Dig B9 out∧c<1000000000∧vl B9 out+c*B9 ^ k=T1 ∧
      σ=fr [(2,.op 2 g2 0 0),(3,.op 3 g3 0 0),(4,.op 4 g4 0 0),(5,.own 22 p 0 (X.length+Y.length+1)),(24,encWs X),(25,encI X.length),(26,encI i),(8,.val (.int .u64 c)),(12,encI k)]∧H=hp (hpMul p g2 g3 g4 out X Y (decide (x<0)) (decide (y<0)))) ?_ ?_
     ·exact .intro <| W.of ⟨_,g2,g3,g4,p,i+Y.length,c,out,by omega,rfl,hl,hd,hc,hv,rfl,rfl⟩ ⟨rfl,rfl,rfl,rfl,rfl,rfl,rfl,rfl,rfl,trivial⟩ ⟨rfl,rfl,rfl,rfl,trivial⟩
     ·clear hd hv hl hc g2 g3 g4 p out
      rintro n σ H ⟨g2,g3,g4,p,k,c,out,hk,rfl,hl,hd,hc,hv,rfl,rfl⟩
      unfold hpMul
      refine kW ?_
      (refine kS ?_;repeat intro γ)
      refine CondP.dec (fun h=>?_) (fun h=>?_)<;>refine kW ?_
      ·have hk2:=pow_le_of (b:=B9) (by decide) (show 0<c by omega) (by rw[← hv];exact Nat.le_add_left _ _:c*B9 ^ k≤T1) hlt
       have ho:=g9 hd k (by omega)
       have hstep:=mul_step (b:=B9) (s:=out[k]+c) (T:=0) (by omega) hv (by omega)
       have hq:((out[k]:Nat):Int)+c=((out[k]+c:Nat):Int):=by omega
       simp only[Nat.zero_mul,Nat.add_zero] at hstep
       (refine kR ?_;repeat intro γ)
       generalize out[k]+c=s at hq hstep
       simp only[hq,T9]
       (refine kR ?_;repeat intro γ)
       rw[Nat.zero_add,Int.toNat_natCast,getD_map encw out k (by omega)]
       refine kW ?_
       (refine kR ?_;repeat intro γ)
       try simp only[T9]
       (refine kR ?_;repeat intro γ)
       refine .intro <| W.of ⟨_,by omega,g2,g3,g4,_,k+1,s/1000000000,out.set k (s%1000000000),by omega,rfl,by simp[hl],hd.set _ (Nat.mod_lt _ (by decide)),by omega,hstep,rfl,rfl⟩ ⟨rfl,rfl,rfl,rfl,rfl,rfl,rfl,rfl,rfl,trivial⟩ ⟨?_,rfl,rfl,rfl,trivial⟩
       rw[← setw (z:=((s%1000000000:Nat):Int)) _ rfl];rfl
      ·obtain rfl:c=0:=by omega
       simp only[Nat.zero_mul,Nat.add_zero] at hv
       (refine kS ?_;repeat intro γ)
       exact .intro <| W.of ⟨_,by omega,g2,g3,g4,p,i+1,out,hi',rfl,hl,hd,by rw[hT];exact hv,rfl,rfl⟩ ⟨rfl,rfl,rfl,rfl,rfl,rfl,rfl,trivial⟩ ⟨rfl,rfl,rfl,rfl,trivial⟩
  ·(have h2:=h;try simp only[LN] at h2)
   (refine kS ?_;repeat intro γ)
   rw[show i=X.length from by omega,List.take_length,vx,vy] at hv
   refine CallP.pure [22] _ c272 (pure_args ?_ (signed_ok' out (!(decide (x<0)==decide (y<0))) (by omega) hd)) ?_
   ·show [snap _ _ (.own 22 p 0 _),snap _ _ (.val (.bool _))]=_
    rw[ownW rfl hl.symm];rfl
   rw[hv]
   refine kW ?_
   (refine kS ?_;repeat intro γ)
   refine .of ?_
   show encZ _=encZ _
   congr 1
   exact mul_sign x y
end Go.Proofs.YtlhdoekgipaihaaGreatDoor
namespace Go.Fw
theorem top_div {b:Nat} (hb:1<b) (n f:Nat):vl b ((dg b n).drop f)=n/b ^ f:=by
 rcases Nat.lt_or_ge (dg b n).length f with h | h
 ·rw[List.drop_eq_nil_of_le (by omega)]
  have h1:=dg_lt hb n
  have:b ^ (dg b n).length≤b ^ f:=Nat.pow_le_pow_right (by omega) (by omega)
  rw[Nat.div_eq_of_lt (by omega)];rfl
 ·rw[vl_drop_div (dg_dig hb n) f h,vl_dg hb]
def dvT (b y:Nat):Nat:=y/b ^ ((dg b y).length-2)+if 0<(dg b y).length-2 then 1 else 0
theorem dvT_le {b r y:Nat} (hb:1<b):r/b ^ ((dg b y).length-2)/dvT b y*y≤r:=by
 unfold dvT
 by_cases h:0<(dg b y).length-2
 ·rw[if_pos h]
  exact guess_le (by omega) rfl
 ·rw[if_neg h]
  have:(dg b y).length-2=0:=by omega
  rw[this]
  simp only[Nat.pow_zero,Nat.div_one,Nat.add_zero]
  exact Nat.div_mul_le_self r y
theorem dvT_pos {b y:Nat} (hb:1<b) (hy:0<y):0<dvT b y:=by
 unfold dvT
 by_cases h:0<(dg b y).length-2
 ·rw[if_pos h];exact Nat.succ_pos _
 ·rw[if_neg h]
  have:(dg b y).length-2=0:=by omega
  rw[this];simpa using hy
theorem dvT_lt {b y:Nat} (hb:1<b):dvT b y≤b ^ 2:=by
 unfold dvT
 have h1:=dg_lt hb y
 have h2:y/b ^ ((dg b y).length-2)<b ^ 2:=by
  refine Nat.div_lt_of_lt_mul ?_
  rw[← Nat.pow_add]
  exact Nat.lt_of_lt_of_le h1 (Nat.pow_le_pow_right (by omega) (by omega))
 split<;>omega
theorem long_step {b a y i d:Nat} (hd:d=a/b ^ i%b) (hy:0<y) (hb:0<b) :
  a/b ^ i%y=(d+b*(a/b ^ (i+1)%y))%y∧a/b ^ i/y=(d+b*(a/b ^ (i+1)%y))/y+b*(a/b ^ (i+1)/y):=by
 have h1:a/b ^ i=d+b*(a/b ^ (i+1)):=by
  rw[hd,Nat.pow_succ,← Nat.div_div_eq_div_mul]
  exact (Nat.mod_add_div _ b).symm
 have h2:=Nat.mod_add_div (a/b ^ (i+1)) y
 generalize a/b ^ (i+1)%y=r at *
 generalize a/b ^ (i+1)/y=q at *
 rw[h1,← h2]
 have h3:d+b*(r+y*q)=d+b*r+y*(b*q):=by grind
 rw[h3]
 exact ⟨Nat.add_mul_mod_self_left ..,Nat.add_mul_div_left _ _ hy⟩
theorem dg_get {b:Nat} (hb:1<b):∀ (n i:Nat) (h:i<(dg b n).length),(dg b n)[i]=n/b ^ i%b:=by
 intro n
 induction n using Nat.strongRecOn with
 | ind n ih=>
   intro i h
   by_cases hn:0<n
   ·simp only[dg_pos hb hn] at h ⊢
    cases i with
    | zero=>simp
    | succ i=>
      rw[List.getElem_cons_succ,ih _ (Nat.div_lt_self hn hb),Nat.div_div_eq_div_mul,Nat.pow_succ,Nat.mul_comm b]
   ·rw[show n=0 by omega,dg_zero] at h;simp at h
def dl (n:Nat):Nat→List Nat
 | 0=>[]
 | p+1=>(48+n/10 ^ p%10)::dl n p
theorem dl_len (n:Nat):∀ p,(dl n p).length=p
 | 0=>rfl
 | p+1=>by simp[dl,dl_len n p]
theorem dl_dg (n:Nat):∀ p,(dl n p).all isDg=true
 | 0=>rfl
 | p+1=>by
   rw[dl,List.all_cons,dl_dg n p,Bool.and_true]
   unfold isDg
   have:=Nat.mod_lt (n/10 ^ p) (show 0<10 by omega)
   exact decide_eq_true (by omega)
theorem dl_val (n:Nat):∀ p,decB (dl n p)=n%10 ^ p
 | 0=>by simp[dl,decB,vl,Nat.mod_one]
 | p+1=>by
   have h:dl n (p+1)=[48+n/10 ^ p%10]++dl n p:=rfl
   rw[h,decB_app,dl_val n p,dl_len]
   have h1:decB [48+n/10 ^ p%10]=n/10 ^ p%10:=by simp[decB,vl]
   rw[h1,Nat.pow_succ,Nat.mod_mul]
   grind
theorem dl_mod (n m:Nat):∀ p,n%10 ^ p=m%10 ^ p→dl n p=dl m p
 | 0,_=>rfl
 | p + 1,h=>by
   rw[Nat.pow_succ,Nat.mod_mul,Nat.mod_mul] at h
   have hp:0<10 ^ p:=Nat.pow_pos (by omega)
   have h1:n%10 ^ p<10 ^ p:=Nat.mod_lt _ hp
   have h2:m%10 ^ p<10 ^ p:=Nat.mod_lt _ hp
   have h3:n%10 ^ p=m%10 ^ p:=by
    have:=congrArg (· % 10 ^ p) h
    simpa [Nat.add_mul_mod_self_left] using this
   have h4:n/10 ^ p%10=m/10 ^ p%10:=by
    rw[h3] at h
    exact Nat.eq_of_mul_eq_mul_left hp (by omega)
   rw[dl,dl,h4,dl_mod n m p h3]
theorem dl_app (n p:Nat):∀ q,dl n (q+p)=dl (n/10 ^ p) q++dl n p
 | 0=>by simp[dl]
 | q+1=>by
   rw[show q+1+p=q+p+1 by omega,dl,dl_app n p q,dl,List.cons_append,Nat.div_div_eq_div_mul,← Nat.pow_add,Nat.add_comm p q]
def cut0:List Nat→List Nat
 | []=>[]
 | c::l=>if c=48 then cut0 l else c::l
theorem cut0_val:∀ l:List Nat,decB (cut0 l)=decB l
 | []=>rfl
 | c :: l=>by
   unfold cut0
   split
   ·rename_i h
    rw[cut0_val l,show c::l=[c]++l from rfl,decB_app,h]
    simp[decB,vl]
   ·rfl
theorem cut0_all {l:List Nat} (h:l.all isDg=true):(cut0 l).all isDg=true:=by
 induction l with
 | nil=>rfl
 | cons c l ih=>
   rw[List.all_cons,Bool.and_eq_true] at h
   unfold cut0
   split
   ·exact ih h.2
   ·rw[List.all_cons,h.1,h.2];rfl
theorem cut0_hd (l:List Nat):cut0 l=[]∨(cut0 l).getD 0 0≠48:=by
 induction l with
 | nil=>exact .inl rfl
 | cons c l ih=>
   unfold cut0
   split
   ·exact ih
   ·rename_i h;exact .inr (by simpa using h)
theorem cut0_decT {l:List Nat} (h:l.all isDg=true) (h0:0<decB l):cut0 l=decT (decB l):=by
 have hne:cut0 l≠[]:=fun e=>by have:=cut0_val l;rw[e,show decB []=0 from rfl] at this;omega
 have hc:canon (cut0 l)=true:=by
  unfold canon
  rw[cut0_all h,Bool.and_true]
  simp only[Bool.and_eq_true,Bool.or_eq_true,decide_eq_true_eq]
  exact ⟨List.length_pos_iff.2 hne,.inr ((cut0_hd l).resolve_left hne)⟩
 have:=decT_decB hc
 rw[cut0_val] at this
 exact this.symm
theorem decT_len (n:Nat):(decT n).length=if n=0 then 1 else (dg 10 n).length:=by
 unfold decT;split<;>simp
theorem decT_lt (n:Nat):n<10 ^ (decT n).length:=by
 have:=decB_lt (decT_dg n)
 rwa [decB_decT] at this
end Go.Fw
namespace Go.Proofs.YtlhdoekgipaihaaGreatDoor
open Go Go.Fw
abbrev B4:Nat:=10000
theorem hB4:1<B4:=by decide
def encD (n:Nat):AV:=.val (.int .i64 n)
def encDs (l:List Nat):AV:=.sl 1 (l.map encD)
def encN (n:Nat):AV:=encDs (dg B4 n)
theorem g4 {l:List Nat} (h:Dig B4 l) (i:Nat) (hi:i<l.length):l[i]<10000:=h.get i hi
theorem repD (n:Nat):List.replicate n (mkEl { size:=1,bytes:=8,zero:=[Value.int .i64 0],kind:=Kd.int .i64 })=(List.replicate n 0).map encD:=by rw[List.map_replicate];rfl
theorem setD {l:List Nat} {i:Nat} {z:Int} (n:Nat) (h:z=n):(l.map encD).set i (.val (.int .i64 z))=(l.set i n).map encD:=set_map encD l i n _ (by rw[h];rfl)
theorem ownD {b p e n:Nat} {H:Hp} {out:List Nat} (hb:H b=some (p,⟨e,1,out.map encD⟩)) (hn:n=out.length):snap [b] H (.own b p 0 n)=encDs out:=by
 rw[snap_own (by simp) hb (by simp[hn]),snap_list _ _ _ _ hn fun _=>rfl];rfl
theorem endD {S:List Nat} {H:Hp} {k:Nat} {L:List AV} {n:Nat} {xs:List Nat} (h:L=xs.map encD) (hn:n=xs.length):AV.sl 1 (((L.drop 0).take n).map (snapEl (snapC S H k)))=encDs xs:=by
 subst h
 rw[snap_list _ _ _ _ hn fun x=>by cases k<;>rfl];rfl
theorem trim4 {l:List Nat} (h:Dig B4 l):encDs (trimF l)=encN (vl B4 l):=by rw[trimF_eq hB4 h];rfl
theorem trimN_ok (l:List Nat) (hl:l.length<2^62):PureCall Tryz.prog 331 [encDs l] (encDs (trimF l)):=by
 refine PC [] Tryz.func331 rfl (by rfl) rfl ?_
 refine kW ?_
 (refine kS ?_;repeat intro γ)
 simp only[List.length_map]
 refine LoopP.intro (fun n σ H=>∃ i:Nat,n=i∧i≤l.length∧trimF (l.take i)=trimF l∧σ=fr [(0,encDs l),(3,encI i)]∧H=hp []) ?_ ?_
 ·exact .intro <| W.of ⟨_,l.length,rfl,Nat.le_refl _,by rw[List.take_length],rfl,rfl⟩ ⟨rfl,rfl,trivial⟩ trivial
 ·rintro n σ H ⟨i,rfl,hi,ht,rfl,rfl⟩
  have fin:trimF (l.take n)=l.take n→AV.sl 1 ((l.map encD).take n)=encDs (trimF l):=fun h=>by
   rw[← ht,h,← List.map_take];rfl
  refine kW ?_
  (refine kS ?_;repeat intro γ)
  refine CondP.dec (fun h=>?_) (fun h=>?_)<;>refine kW ?_
  ·obtain ⟨i,rfl⟩:∃ k,n=k+1:=⟨n-1,by omega⟩
   have e1:((((i+1:Nat):Int))-1).toNat=i:=by omega
   have e2:(((i+1:Nat):Int))-1=(i:Int):=by omega
   have hs:l.take (i+1)=l.take i++[l[i]'(by omega)]:=List.take_succ_eq_append_getElem (by omega)
   rw[hs,trimF_snoc] at ht fin
   (refine kS ?_;repeat intro γ)
   simp only[e1]
   (refine kR ?_;repeat intro γ)
   refine CondP.dec (fun h=>?_) (fun h=>?_)<;>refine kW ?_
   ·have hd:l[i]'(by omega)=0:=by omega
    rw[if_pos hd] at ht
    (refine kS ?_;repeat intro γ)
    exact .intro <| W.of ⟨_,by omega,i,rfl,by omega,ht,rfl,rfl⟩ ⟨rfl,by rw[e2];rfl,trivial⟩ trivial
   ·have hd:¬ l[i]'(by omega)=0:=by omega
    rw[if_neg hd] at fin
    (refine kS ?_;repeat intro γ)
    refine .of ?_
    rw[← hs] at fin
    exact fin rfl
  ·obtain rfl:n=0:=by omega
   (refine kS ?_;repeat intro γ)
   exact .of (fin rfl)
theorem putD {p e:Nat} {out r:List Nat} {x i j:Nat} {z:Int} (n:Nat) (h:z=n) (hi:i=out.length) (hj:j=i):some (p,(⟨e,1,((out++x::r).map encD).set j (.val (.int .i64 z))⟩:Blk))=some (p,⟨e,1,(out++[n]++r).map encD⟩):=by
 subst hj hi;rw[setD n h,set_at];simp
theorem natOf_ok (n:Nat) (hn:n<2^63):PureCall Tryz.prog 247 [.val (.int .u64 n)] (encN n):=by
 refine PC [100] Tryz.func247 rfl (by rfl) rfl ?_
 obtain ⟨R,hR⟩:∃ R,dg B4 n=R:=⟨_,rfl⟩
 unfold encN
 have hRl:R.length≤16:=by rw[← hR];exact dg_len_le hB4 (Nat.lt_of_lt_of_le hn (by decide))
 rw[hR]
 refine kW ?_
 (refine kS ?_;repeat intro γ)
 refine LoopP.intro (fun m σ H=>∃ g n,∃ out:List Nat,m=n∧n<2^63∧out++dg B4 n=R∧σ=fr [(0,.val (.int .u64 n)),(3,.own 100 g 0 out.length)]∧H=hp [(100,g,⟨3,1,out.map encD⟩)]) ?_ ?_
 ·refine .intro (W.mat 3 100 3 1 rfl rfl fun g=>W.of ⟨_,g,n,[],rfl,hn,hR,rfl,rfl⟩ ⟨rfl,rfl,trivial⟩ ⟨rfl,trivial⟩)
 ·clear hR hn n
  rintro m σ H ⟨g,n,out,rfl,hn,hR,rfl,rfl⟩
  have hol:=congrArg List.length hR
  rw[List.length_append] at hol
  have hml:(out.map encD).length=out.length:=List.length_map _
  refine kW ?_
  (refine kS ?_;repeat intro γ)
  refine CondP.dec (fun h=>?_) (fun h=>?_)<;>refine kW ?_
  ·have hp:=dg_pos hB4 (n:=m) (by omega)
   rw[hp,List.append_cons] at hR
   have hpl:=congrArg List.length hp
   rw[List.length_cons] at hpl
   have e1:(m:Int).tmod 10000=((m%10000:Nat):Int):=rfl
   have e2:(m:Int).tdiv 10000=((m/10000:Nat):Int):=rfl
   (refine kS ?_;repeat intro γ)
   simp only[e1,e2]
   (refine kS ?_;repeat intro γ)
   refine .intro <| W.of ⟨_,?_,γ,m/10000,out++[m%B4],rfl,by omega,hR,rfl,rfl⟩ ⟨rfl,?_,trivial⟩ ⟨?_,trivial⟩
   ·omega
   ·exact congrArg (AV.own 100 _ 0) (by simp)
   ·show some (_,(⟨_,_,_++_⟩:Blk))=_
    simp;rfl
  ·obtain rfl:m=0:=by omega
   rw[dg_zero,List.append_nil] at hR
   subst hR
   (refine kS ?_;repeat intro γ)
   exact .of (endD rfl rfl)
theorem cmpN_dg {b:Nat} (hb:1<b) (m n:Nat):(m<n→cmpN m n=-1)∧(n<m→cmpN m n=1)∧(m=n→cmpN m n=0):=by
 unfold cmpN
 refine ⟨fun h=>by rw[if_pos h],fun h=>by rw[if_neg (by omega),if_pos h],fun h=>by rw[if_neg (by omega),if_neg (by omega)]⟩
theorem cmpNat_ok (x y:Nat) (hx:(dg B4 x).length<2^62) (hy:(dg B4 y).length<2^62):PureCall Tryz.prog 269 [encN x,encN y] (encI (cmpN x y)):=by
 refine PC [] Tryz.func269 rfl (by rfl) rfl ?_
 obtain ⟨c1,c2,c3⟩:=cmpN_dg hB4 x y
 have dx:=dg_dig hB4 x
 have dy:=dg_dig hB4 y
 have l1:=@dg_len_lt B4 hB4 x y
 have l2:=@dg_len_lt B4 hB4 y x
 have vx:=vl_dg hB4 x
 have vy:=vl_dg hB4 y
 generalize cmpN x y=C at *
 unfold encN
 generalize dg B4 x=xs at *
 generalize dg B4 y=ys at *
 refine kW ?_
 (refine kS ?_;repeat intro γ)
 simp only[List.length_map]
 refine CondP.dec (fun h=>?_) (fun h=>?_)<;>refine kW ?_
 ·have hl : xs.length=ys.length:=by omega
  clear h l1 l2
  (refine kS ?_;repeat intro γ)
  simp only[List.length_map]
  refine LoopP.intro (fun n σ H=>∃ i:Nat,n=i∧i≤xs.length∧xs.drop i=ys.drop i∧σ=fr [(0,encDs xs),(1,encDs ys),(5,encI ((i:Int)-1))]∧H=hp []) ?_ ?_
  ·exact .intro <| W.of ⟨_,xs.length,rfl,Nat.le_refl _,by rw[List.drop_of_length_le (by omega),List.drop_of_length_le (by omega)],rfl,rfl⟩ ⟨rfl,rfl,rfl,trivial⟩ trivial
  ·rintro n σ H ⟨i,rfl,hi,he,rfl,rfl⟩
   refine kW ?_
   (refine kS ?_;repeat intro γ)
   refine CondP.dec (fun h=>?_) (fun h=>?_)<;>refine kW ?_
   ·obtain ⟨i,rfl⟩:∃ k,n=k+1:=⟨n-1,by omega⟩
    have e1:(((i+1:Nat):Int)-1)=i:=by omega
    simp only[e1]
    have h1:=g4 dx i (by omega)
    have h2:=g4 dy i (by omega)
    (refine kR ?_;repeat intro γ)
    refine CondP.dec (fun h=>?_) (fun h=>?_)<;>refine kW ?_
    ·have:=vl_cmp dx dy hl (i:=i) (by omega) he (by omega)
     (refine kR ?_;repeat intro γ)
     exact .of (by rw[c1 (by omega)];rfl)
    ·(refine kR ?_;repeat intro γ)
     refine CondP.dec (fun h=>?_) (fun h=>?_)<;>refine kW ?_
     ·have:=vl_cmp dy dx hl.symm (i:=i) (by omega) he.symm (by omega)
      (refine kR ?_;repeat intro γ)
      exact .of (by rw[c2 (by omega)];rfl)
     ·(refine kS ?_;repeat intro γ)
      refine .intro <| W.of ⟨_,by omega,i,rfl,by omega,?_,rfl,rfl⟩ ⟨rfl,rfl,rfl,trivial⟩ trivial
      rw[List.drop_eq_getElem_cons (by omega),List.drop_eq_getElem_cons (by omega:i<ys.length),he,show xs[i]=ys[i] from by omega]
   ·obtain rfl:n=0:=by omega
    simp only[List.drop_zero] at he
    subst he
    (refine kS ?_;repeat intro γ)
    exact .of (by rw[c3 (by omega)];rfl)
 ·(refine kS ?_;repeat intro γ)
  simp only[List.length_map]
  refine CondP.dec (fun h=>?_) (fun h=>?_)<;>refine kW ?_
  ·(refine kS ?_;repeat intro γ)
   exact .of (by rw[c1 (l1 (by omega))];rfl)
  ·(refine kS ?_;repeat intro γ)
   exact .of (by rw[c2 (l2 (by omega))];rfl)
theorem vl_takeD {b:Nat} (l:List Nat) (i:Nat):vl b (l.take (i+1))=vl b (l.take i)+l.getD i 0*b ^ i:=by
 rcases Nat.lt_or_ge i l.length with h | h
 ·rw[vl_take l i h,getD_get h]
 ·rw[List.take_of_length_le (by omega),List.take_of_length_le h,List.getD_eq_getElem?_getD,List.getElem?_eq_none h];simp
theorem getD_lt {l:List Nat} (h:Dig B4 l) (i:Nat):l.getD i 0<10000:=by
 rcases Nat.lt_or_ge i l.length with h1 | h1
 ·rw[← getD_get h1];exact g4 h i h1
 ·rw[List.getD_eq_getElem?_getD,List.getElem?_eq_none h1];decide
theorem getD_nil {l:List Nat} {i:Nat} (h:l.length≤i):l.getD i 0=0:=by rw[List.getD_eq_getElem?_getD,List.getElem?_eq_none h];rfl
theorem subNat_ok (x y:Nat) (hx:(dg B4 x).length<2^40) (hle:y≤x):PureCall Tryz.prog 324 [encN x,encN y] (encN (x-y)):=by
 refine PC [11] Tryz.func324 rfl (by rfl) rfl ?_
 have dx:=dg_dig hB4 x
 have dy:=dg_dig hB4 y
 have vx:=vl_dg hB4 x
 have vy:=vl_dg hB4 y
 have hlen:=dg_mono hB4 hle
 have hval:=subC_vl hB4 (dg B4 x) (dg B4 y) 0 (by omega) dx dy hlen (by rw[vx,vy];omega)
 have hdg:=subC_dig hB4 (dg B4 x) (dg B4 y) 0 (by omega) dx dy
 have hsl:=subC_len B4 (dg B4 x) (dg B4 y) 0
 unfold encN
 generalize hX:dg B4 x=X at *
 generalize hY:dg B4 y=Y at *
 generalize hR:subC B4 0 X Y=R at *
 refine kW ?_
 (refine kS ?_;repeat intro γ)
 simp only[List.length_map,Int.toNat_natCast,repD]
 refine LoopP.intro (fun n σ H=>∃ p i c,∃ out:List Nat,i≤X.length∧n=X.length-i∧out.length=i∧c≤1∧out++subC B4 c (X.drop i) (Y.drop i)=R ∧
  σ=fr [(0,encDs X),(1,encDs Y),(5,.own 11 p 0 X.length),(6,encI c),(7,encI i)]∧H=hp [(11,p,⟨3,1,(out++List.replicate (X.length-i) 0).map encD⟩)]) ?_ ?_
 ·exact .intro <| W.of ⟨_,_,0,0,[],Nat.zero_le _,rfl,rfl,by omega,hR,rfl,rfl⟩ ⟨rfl,rfl,rfl,rfl,rfl,trivial⟩ ⟨rfl,trivial⟩
 ·rintro n σ H ⟨p,i,c,out,hi,rfl,ho,hc,hR,rfl,rfl⟩
  refine kW ?_
  (refine kS ?_;repeat intro γ)
  refine CondP.dec (fun h=>?_) (fun h=>?_)<;>refine kW ?_
  ·(have h2:=h;try simp only[LN] at h2)
   have hi':i<X.length:=by omega
   have h1:=g4 dx i hi'
   rw[List.drop_eq_getElem_cons hi'] at hR
   rw[show X.length-i=X.length-(i+1)+1 by omega,List.replicate_succ]
   have hget:((out++0::List.replicate (X.length-(i+1)) 0).map encD).getD i .dead=encD 0:=by
    rw[getD_map _ _ _ (by simp;omega)];simp[List.getElem_append,ho]
   have hlm:((out++0::List.replicate (X.length-(i+1)) 0).map encD).length=X.length:=by simp;omega
   rcases Nat.lt_or_ge i Y.length with h2 | h2
   case' inl=>
    have h3:=g4 dy i h2
    rw[List.drop_eq_getElem_cons h2,subC,List.append_cons] at hR
   case' inr=>
    rw[List.drop_eq_nil_of_le h2,subC,List.append_cons] at hR
   case' inl=>
    (refine kQ ?_;repeat intro γ)
    by_cases h4:X[i]<c+Y[i]
    case' pos=>rw[if_pos h4,if_pos h4] at hR
    case' neg=>rw[if_neg h4,if_neg h4] at hR
   case' inr=>
    (refine kQ ?_;repeat intro γ)
    by_cases h4:X[i]<c
    case' pos=>
     rw[if_pos h4,if_pos h4] at hR
     replace hR:out++[X[i]+B4-c]++subC B4 1 (X.drop (i+1)) (Y.drop (i+1))=R:=by rw[List.drop_eq_nil_of_le (by omega:Y.length≤i+1)];exact hR
    case' neg=>
     rw[if_neg h4,if_neg h4] at hR
     replace hR:out++[X[i]-c]++subC B4 0 (X.drop (i+1)) (Y.drop (i+1))=R:=by rw[List.drop_eq_nil_of_le (by omega:Y.length≤i+1)];exact hR
   all_goals
    (refine kQ ?_;repeat intro γ)
    simp only[Int.toNat_natCast,Nat.zero_add,hget]
    refine kW ?_
    (refine kQ ?_;repeat intro γ)
   all_goals
    refine .intro <| W.of ⟨_,by omega,_,i+1,_,_,hi',rfl,by simp[ho],?_,hR,rfl,rfl⟩ ⟨rfl,rfl,rfl,rfl,rfl,trivial⟩ ⟨putD _ (by first | omega | (unfold B4;omega)) ho.symm (by omega),trivial⟩
    omega
  ·(have h2:=h;try simp only[LN] at h2)
   (refine kS ?_;repeat intro γ)
   rw[List.drop_eq_nil_of_le (by omega:X.length≤i),subC,List.append_nil] at hR
   subst hR
   refine CallP.pure [11] _ c331 (pure_args ?_ (trimN_ok out (by omega))) ?_
   ·refine congrArg (fun z=>[z]) (ownD (e:=3) (out:=out) ?_ (by omega))
    show some (_,(⟨_,_,_⟩:Blk))=_
    rw[show X.length-i=0 by omega];simp
   rw[trim4 hdg]
   rw[show vl B4 out=x-y by omega]
   refine kW ?_
   (refine kS ?_;repeat intro γ)
   exact .of rfl
theorem carry4 {x y o c:Nat} (hx:x<10000) (hy:y<10000) (ho:o<10000) (hc:c<10000):x*y+o+c<100000000∧(x*y+o+c)/10000<10000:=carry_lt (b:=10000) hx hy ho hc rfl
theorem T4:(∀ s:Nat,(s:Int).tdiv 10000=((s/10000:Nat):Int))∧(∀ s:Nat,(s:Int).tmod 10000=((s%10000:Nat):Int)):=⟨fun _=>rfl,fun _=>rfl⟩
theorem mulNat_ok (x y:Nat) (hx:(dg B4 x).length<2^39) (hy:(dg B4 y).length<2^39):PureCall Tryz.prog 268 [encN x,encN y] (encN (x*y)):=by
 refine PC [16] Tryz.func268 rfl (by rfl) rfl ?_
 have dx:=dg_dig hB4 x
 have dy:=dg_dig hB4 y
 have vx:=vl_dg hB4 x
 have vy:=vl_dg hB4 y
 unfold encN
 generalize hX:dg B4 x=X at *
 generalize hY:dg B4 y=Y at *
 refine kW ?_
 (refine kS ?_;repeat intro γ)
 have e0:((((X.map encD).length:Int)+((Y.map encD).length:Int)+1).toNat)=X.length+Y.length+1:=by simp;omega
 simp only[e0,repD,List.length_map]
 refine LoopP.intro (fun n σ H=>∃ p i,∃ out:List Nat,i≤X.length∧n=X.length-i∧out.length=X.length+Y.length+1∧Dig B4 out∧vl B4 out=vl B4 (X.take i)*vl B4 Y ∧
  σ=fr [(0,encDs X),(1,encDs Y),(5,.own 16 p 0 (X.length+Y.length+1)),(6,encI i)]∧H=hp [(16,p,⟨3,1,out.map encD⟩)]) ?_ ?_
 ·exact .intro <| W.of ⟨_,_,0,List.replicate (X.length+Y.length+1) 0,Nat.zero_le _,rfl,by simp,Dig.rep (by decide) _,by rw[vl_rep];simp[vl],rfl,rfl⟩ ⟨rfl,rfl,rfl,rfl,trivial⟩ ⟨rfl,trivial⟩
 ·rintro n σ H ⟨p,i,out,hi,rfl,hl,hd,hv,rfl,rfl⟩
  refine kW ?_
  (refine kS ?_;repeat intro γ)
  refine CondP.dec (fun h=>?_) (fun h=>?_)<;>refine kW ?_
  ·(have h2:=h;try simp only[LN] at h2)
   have hi':i<X.length:=by omega
   have hxi:=g4 dx i hi'
   have htk:=vl_take (b:=B4) X i hi'
   have hlt:vl B4 (X.take (i+1))*vl B4 Y<B4 ^ (i+1+Y.length):=by
    rcases prod_lt dx dy hi' with h | h | h
    ·exact h
    ·exact absurd h.2 (Nat.ne_of_gt (Nat.pow_pos (by decide)))
    ·exact absurd h (by decide)
   (refine kS ?_;repeat intro γ)
   generalize hV:vl B4 (X.take i)*vl B4 Y=V at hv
   refine LoopP.intro (fun n σ H=>∃ p j c,∃ out:List Nat,j≤Y.length+1∧n=Y.length+2-j∧out.length=X.length+Y.length+1∧Dig B4 out∧c<10000∧vl B4 out+c*B4 ^ (i+j)=V+X[i]*vl B4 (Y.take j)*B4 ^ i ∧
    σ=fr [(0,encDs X),(1,encDs Y),(5,.own 16 p 0 (X.length+Y.length+1)),(6,encI i),(7,encI c),(8,encI j)]∧H=hp [(16,p,⟨3,1,out.map encD⟩)]) ?_ ?_
   ·exact .intro <| W.of ⟨_,_,0,0,out,by omega,rfl,hl,hd,by omega,by simp[vl,hv],rfl,rfl⟩ ⟨rfl,rfl,rfl,rfl,rfl,rfl,trivial⟩ ⟨rfl,trivial⟩
   ·clear hd hv hl p out
    rintro n σ H ⟨p,j,c,out,hj,rfl,hl,hd,hc,hv,rfl,rfl⟩
    have hT:V+X[i]*vl B4 Y*B4 ^ i=vl B4 (X.take (i+1))*vl B4 Y:=by rw[← hV,htk];grind
    rw[← hT] at hlt
    have hfull:Y.length≤j→vl B4 out+c*B4 ^ (i+j)=V+X[i]*vl B4 Y*B4 ^ i:=fun h=>by rw[hv,List.take_of_length_le h]
    have hjl:Y.length≤j→0<c→j≤Y.length:=fun h h'=>by
     have:=pow_le_of (b:=B4) (by decide) h' (by rw[← hfull h];exact Nat.le_add_left _ _) hlt
     omega
    have hin:(j<Y.length∨0<c)→i+j<out.length:=fun h=>by omega
    have hyj:=getD_lt dy j
    have hsum:=mul_sum (b:=B4) (i:=i) (V:=V) (a:=X[i]) (vl_takeD (b:=B4) Y j)
    have e1:((i:Int)+(j:Int)).toNat=i+j:=by omega
    have e2:(i:Int)+(j:Int)=((i+j:Nat):Int):=by omega
    have step:∀ (h:i+j<out.length) (s:Nat),s=X[i]*Y.getD j 0+out[i+j]+c→s/10000<10000∧vl B4 (out.set (i+j) (s%10000))+s/10000*B4 ^ (i+(j+1))=V+X[i]*vl B4 (Y.take (j+1))*B4 ^ i:=by
     intro h s hs
     have:=mul_step (b:=B4) (s:=s) (T:=X[i]*Y.getD j 0) h hv hs
     rw[hsum] at this
     exact ⟨by rw[hs];exact (carry4 hxi hyj (g4 hd _ h) hc).2,this⟩
    clear hv hsum hV
    rcases Nat.lt_or_ge j Y.length with h1 | h1
    ·have hin':=hin (.inl h1)
     have ho:=g4 hd (i+j) hin'
     have hst:=step hin'
     rw[← getD_get h1] at hst hyj
     have hcr:=carry4 hxi hyj ho hc
     refine kW ?_
     (refine kQ ?_;repeat intro γ)
     simp only[e1]
     (refine kQ ?_;repeat intro γ)
     have hm:(X[i]:Int)*(Y[j]:Nat)=((X[i]*Y[j]:Nat):Int):=(Int.natCast_mul _ _).symm
     generalize X[i]*Y[j]=q at hm hst hcr
     simp only[hm]
     (refine kQ ?_;repeat intro γ)
     obtain ⟨s,hs⟩:∃ s,s=q+out[i+j]+c:=⟨_,rfl⟩
     have hq:((out[i+j]:Nat):Int)+c+q=((s:Nat):Int):=by omega
     obtain ⟨st1,st2⟩:=hst s hs
     simp only[e1,Nat.zero_add,hq,T4]
     rw[getD_map encD out (i+j) hin']
     refine kW ?_
     (refine kQ ?_;repeat intro γ)
     simp only[hq,T4]
     (refine kQ ?_;repeat intro γ)
     refine .intro <| W.of ⟨_,by omega,_,j+1,s/10000,out.set (i+j) (s%10000),by omega,rfl,by rw[List.length_set,hl],hd.set _ (Nat.mod_lt _ (by decide)),st1,st2,rfl,rfl⟩ ⟨rfl,rfl,rfl,rfl,rfl,rfl,trivial⟩ ⟨?_,trivial⟩
     rw[← setD (z:=((s%10000:Nat):Int)) _ rfl];rfl
    ·have hst:=fun h=>step h
     simp only[getD_nil h1,Nat.mul_zero,Nat.zero_add] at hst
     by_cases hc0:c=0
     ·subst hc0
      have hv2:=hfull h1
      rw[Nat.zero_mul,Nat.add_zero] at hv2
      refine kW ?_
      (refine kQ ?_;repeat intro γ)
      exact .intro <| W.of ⟨_,by omega,p,i+1,out,hi',rfl,hl,hd,by rw[hv2,hT],rfl,rfl⟩ ⟨rfl,rfl,rfl,rfl,trivial⟩ ⟨rfl,trivial⟩
     ·have hin':=hin (.inr (by omega))
      have hjl':=hjl h1 (by omega)
      have ho:=g4 hd (i+j) hin'
      refine kW ?_
      (refine kQ ?_;repeat intro γ)
      simp only[e1]
      (refine kQ ?_;repeat intro γ)
      obtain ⟨s,hs⟩:∃ s,s=out[i+j]+c:=⟨_,rfl⟩
      have hq:((out[i+j]:Nat):Int)+c=((s:Nat):Int):=by omega
      obtain ⟨st1,st2⟩:=hst hin' s hs
      simp only[e1,Nat.zero_add,hq,T4]
      rw[getD_map encD out (i+j) hin']
      refine kW ?_
      (refine kQ ?_;repeat intro γ)
      simp only[hq,T4]
      (refine kQ ?_;repeat intro γ)
      refine .intro <| W.of ⟨_,by omega,_,j+1,s/10000,out.set (i+j) (s%10000),by omega,rfl,by rw[List.length_set,hl],hd.set _ (Nat.mod_lt _ (by decide)),st1,st2,rfl,rfl⟩ ⟨rfl,rfl,rfl,rfl,rfl,rfl,trivial⟩ ⟨?_,trivial⟩
      rw[← setD (z:=((s%10000:Nat):Int)) _ rfl];rfl
  ·(have h2:=h;try simp only[LN] at h2)
   (refine kS ?_;repeat intro γ)
   rw[show i=X.length from by omega,List.take_length,vx,vy] at hv
   refine CallP.pure [16] _ c331 (pure_args ?_ (trimN_ok out (by omega))) ?_
   ·exact congrArg (fun z=>[z]) (ownD rfl hl.symm)
   rw[trim4 hd,hv]
   refine kW ?_
   (refine kS ?_;repeat intro γ)
   exact .of rfl
theorem mulDigit_ok (x d:Nat) (hx:(dg B4 x).length<2^39) (hd:d<2^63):PureCall Tryz.prog 359 [encN x,encI d] (encN (x*d)):=by
 refine PC [] Tryz.func359 rfl (by rfl) rfl ?_
 have hl:(dg B4 d).length≤16:=dg_len_le hB4 (Nat.lt_of_lt_of_le hd (by decide))
 have hN:=natOf_ok d hd
 have hM:=mulNat_ok x d hx (by omega)
 unfold encN at *
 refine kW ?_
 (refine kQ ?_;repeat intro γ)
 refine CallP.pure [] _ c247 hN ?_
 refine kW ?_
 (refine kQ ?_;repeat intro γ)
 refine CallP.pure [] _ c268 hM ?_
 refine kW ?_
 (refine kQ ?_;repeat intro γ)
 exact .of rfl
theorem top_ok (x f:Nat) (hx:(dg B4 x).length≤f+4) (hf:f<2^40):PureCall Tryz.prog 358 [encN x,encI f] (encI ((x/B4 ^ f:Nat):Int)):=by
 refine PC [] Tryz.func358 rfl (by rfl) rfl ?_
 rw[← top_div hB4]
 have dx:=dg_dig hB4 x
 unfold encN
 generalize dg B4 x=X at *
 have hlt:vl B4 (X.drop f)<10000 ^ 4:=by
  refine Nat.lt_of_lt_of_le (vl_lt (dx.drop f)) (Nat.pow_le_pow_right (by decide) ?_)
  rw[List.length_drop];omega
 refine kW ?_
 (refine kQ ?_;repeat intro γ)
 refine LoopP.intro (fun n σ H=>∃ i:Nat,n=i-f∧i≤X.length∧(f≤i∨i=X.length)∧σ=fr [(0,encDs X),(1,encI f),(5,encI (vl B4 (X.drop (max i f)):Nat)),(6,encI ((i:Int)-1))]∧H=hp []) ?_ ?_
 ·refine .intro <| W.of ⟨_,X.length,rfl,Nat.le_refl _,.inr rfl,rfl,rfl⟩ ⟨rfl,rfl,?_,?_,trivial⟩ trivial
  ·rw[List.drop_of_length_le (by omega)];rfl
  ·rfl
 ·rintro n σ H ⟨i,rfl,hi,hif,rfl,rfl⟩
  by_cases h:f<i
  ·obtain ⟨i,rfl⟩:∃ k,i=k+1:=⟨i-1,by omega⟩
   have e1:(((i+1:Nat):Int)-1)=i:=by omega
   have hdv:=vl_drop (b:=B4) X i (by omega)
   have hge:vl B4 (X.drop i)≤vl B4 (X.drop f):=by
    rw[vl_drop_div dx i (by omega),vl_drop_div dx f (by omega)]
    exact Nat.div_le_div_left (Nat.pow_le_pow_right (by decide) (by omega)) (Nat.pow_pos (by decide))
   rw[show max (i+1) f=i+1 by omega]
   replace hdv:vl B4 (X.drop i)=X[i]+10000*vl B4 (X.drop (i+1)):=hdv
   generalize vl B4 (X.drop (i+1))=v at hdv ⊢
   simp only[e1]
   refine kW ?_
   (refine kQ ?_;repeat intro γ)
   refine .intro <| W.of ⟨_,by omega,i,rfl,by omega,.inl (by omega),rfl,rfl⟩ ⟨rfl,rfl,?_,rfl,trivial⟩ trivial
   show AV.val (.int .i64 _)=AV.val (.int .i64 _)
   rw[show max i f=i by omega,hdv]
   congr 2;omega
  ·have hmx:X.drop (max i f)=X.drop f:=by
    rcases hif with h1 | h1
    ·rw[show max i f=f by omega]
    ·rw[List.drop_of_length_le (by omega),List.drop_of_length_le (by omega)]
   rw[hmx]
   refine kW ?_
   (refine kQ ?_;repeat intro γ)
   exact .of rfl
end Go.Proofs.YtlhdoekgipaihaaGreatDoor
namespace Go.Proofs.YtlhdoekgipaihaaGreatDoor
open Go Go.Fw
theorem ends_tup2 {x y x' y':AV} (h1:Le x x') (h2:Le y y'):Fw.Ends (.tup [x,y]) (.tup [x',y']):=by
 have h:=Le.cons h1 (Le.cons h2 Le.nils)
 exact Fw.Ends.le (Le.tup h.1 h.2)
theorem cmpN_neg (m n:Nat):(cmpN m n<0↔m<n)∧(0≤cmpN m n↔n≤m)∧(cmpN m n=0↔m=n)∧(cmpN m n≤0↔m≤n):=by
 unfold cmpN
 split
 ·omega
 ·split<;>omega
theorem rep_set (i:Nat) (R:List Nat) (q:Nat):(List.replicate (i+1) 0++R).set i q=List.replicate i 0++q::R:=by
 rw[List.replicate_succ',List.append_assoc,List.singleton_append]
 have:=set_at (List.replicate i 0) 0 q R
 rwa [List.length_replicate] at this
set_option maxHeartbeats 1000000 in
theorem divNat_ok (a b:Nat) (hb:0<b) (ha:(dg B4 a).length<2^37) (hbl:(dg B4 b).length<2^37):PureCall Tryz.prog 325 [encN a,encN b] (.tup [encN (a/b),encN (a%b)]):=by
 refine PC [21] Tryz.func325 rfl (by rfl) rfl ?_
 have hc:=cmpNat_ok a b (by omega) (by omega)
 unfold encN at *
 refine kW ?_
 (refine kS ?_;repeat intro γ)
 refine CallP.flat [] _ c269 hc rfl ?_
 have hcs:=(cmpN_neg a b).1
 generalize cmpN a b=c at hcs
 clear hc
 refine kW ?_
 (refine kS ?_;repeat intro γ)
 refine CondP.dec (fun h=>?_) (fun h=>?_)<;>refine kW ?_
 ·have hlt:=hcs.1 h
  rw[Nat.div_eq_of_lt hlt,Nat.mod_eq_of_lt hlt,dg_zero]
  (refine kS ?_;repeat intro γ)
  exact ends_tup2 (Le.nil 1) (Le.refl _)
 have hle:b≤a:=by
  rcases Nat.lt_or_ge a b with h' | h'
  ·exact absurd (hcs.2 h') h
  ·exact h'
 clear h hcs
 have hlab:=dg_mono hB4 hle
 have hlb:0<(dg B4 b).length:=by
  rcases Nat.eq_zero_or_pos (dg B4 b).length with h | h
  ·have:=(dg_nil hB4 _).1 (List.length_eq_zero_iff.1 h);omega
  ·exact h
 have da:=dg_dig hB4 a
 have va:=vl_dg hB4 a
 have hsm:a/B4 ^ ((dg B4 a).length-(dg B4 b).length+1)<b:=by
  refine Nat.lt_of_lt_of_le (Nat.div_lt_of_lt_mul ?_) (dg_ge hB4 b hb)
  rw[← Nat.pow_add]
  exact Nat.lt_of_lt_of_le (dg_lt hB4 a) (Nat.pow_le_pow_right (by decide) (by omega))
 have hdrop:=top_div hB4 a ((dg B4 a).length-(dg B4 b).length+1)
 have hget:=dg_get hB4 a
 have hdv0:=dvT_pos hB4 hb
 have hdv1:=dvT_lt (b:=B4) (y:=b) hB4
 have hdvE:dvT B4 b=b/B4 ^ ((dg B4 b).length-2)+if 0<(dg B4 b).length-2 then 1 else 0:=rfl
 have hdv2:=fun r=>dvT_le (b:=B4) (r:=r) (y:=b) hB4
 have htop:=top_ok b ((dg B4 b).length-2) (by omega) (by omega)
 unfold encN at *
 generalize dvT B4 b=dv at *
 generalize hA:dg B4 a=A at *
 (refine kS ?_;repeat intro γ)
 simp only[Int.toNat_natCast,repD,List.length_map]
 have e1:((A.length:Int)-((dg B4 b).length:Int)+1).toNat=A.length-(dg B4 b).length+1:=by omega
 simp only[e1]
 (refine kQ ?_;repeat intro γ)
 obtain ⟨I,hI⟩:∃ I,I=A.length-(dg B4 b).length+1:=⟨_,rfl⟩
 rw[← hI] at hsm hdrop ⊢
 have hdI:=da.drop I
 refine CallP.pure [22] _ c331 (pure_args ?_ (trimN_ok (A.drop I) (by rw[List.length_drop];omega))) ?_
 ·have hsl:(A.map encD).take A.length=A.map encD:=by rw[List.take_of_length_le (by rw[List.length_map];exact Nat.le_refl _)]
  refine congrArg (fun z=>[z]) (ownD (e:=3) (out:=A.drop I) ?_ ?_)
  ·show some (_,(⟨_,_,_⟩:Blk))=_
   rw[hsl,List.map_drop];rfl
  ·rw[hsl];simp
 rw[trim4 hdI,hdrop]
 unfold encN
 have eM:(max (0:Int) (((dg B4 b).length:Int)-2))=(((dg B4 b).length-2:Nat):Int):=by omega
 refine kW ?_
 (refine kQ ?_;repeat intro γ)
 simp only[eM]
 (refine kQ ?_;repeat intro γ)
 refine CallP.flat [] _ c358 htop rfl ?_
 refine kW ?_
 (refine kQ ?_;repeat intro γ)
 have hd1:((b/B4 ^ ((dg B4 b).length-2):Nat):Int)+(if 0<(dg B4 b).length-2 then 1 else 0)=(dv:Int):=by rw[hdvE];split<;>omega
 obtain ⟨F,hF⟩:∃ F,F=(dg B4 b).length-2:=⟨_,rfl⟩
 rw[← hF] at hd1 htop hdv2 ⊢
 generalize b/B4 ^ F=tp at hd1 htop
 replace hdv1:dv≤100000000:=hdv1
 clear htop hdrop hdI e1 eM
 refine CondP.dec (fun h=>?_) (fun h=>?_)<;>refine kX ?_
 case' refine_1=>
  (refine kZ ?_;repeat intro γ)
  rw[if_pos (by omega)] at hd1
 case' refine_2=>rw[if_neg (by omega),Int.add_zero] at hd1
 all_goals
  refine cpA_seqW (W.of (l:=[(0,encDs A),(1,encDs (dg B4 b)),(6,.own 21 _ 0 A.length),(7,encDs (dg B4 (a/B4 ^ I))),(8,encI F),(9,encI dv)]) (m:=[(21,_,⟨3,1,(List.replicate A.length 0).map encD⟩)]) ?_ ⟨rfl,rfl,rfl,rfl,rfl,congrArg encI hd1,trivial⟩ ⟨rfl,trivial⟩)
  clear hd1 h tp
  refine kW ?_
  (refine kQ ?_;repeat intro γ)
  refine LoopP.intro (fun n σ H=>∃ p i,∃ R:List Nat,n=i∧i≤I∧R.length+i=A.length∧Dig B4 R∧vl B4 R=a/B4 ^ i/b ∧
   σ=fr [(0,encDs A),(1,encDs (dg B4 b)),(6,.own 21 p 0 A.length),(7,encDs (dg B4 (a/B4 ^ i%b))),(8,encI F),(9,encI dv),(10,encI ((i:Int)-1))]∧H=hp [(21,p,⟨3,1,(List.replicate i 0++R).map encD⟩)]) ?_ ?_
  ·refine .intro <| W.of ⟨_,_,I,List.replicate (A.length-I) 0,rfl,Nat.le_refl _,by simp;omega,Dig.rep (by decide) _,by rw[vl_rep,Nat.div_eq_of_lt hsm],rfl,rfl⟩ ⟨rfl,rfl,rfl,?_,rfl,rfl,?_,trivial⟩ ⟨?_,trivial⟩
   ·rw[Nat.mod_eq_of_lt hsm];rfl
   ·show AV.val (.int .i64 _)=AV.val (.int .i64 _)
    congr 2;omega
   ·rw[List.replicate_append_replicate,show I+(A.length-I)=A.length by omega];rfl
  ·rintro n σ H ⟨p,i,R,rfl,hi,hR,dR,hv,rfl,rfl⟩
   refine kW ?_
   (refine kQ ?_;repeat intro γ)
   refine CondP.dec (fun h=>?_) (fun h=>?_)<;>refine kW ?_
   ·obtain ⟨i,rfl⟩:∃ k,n=k+1:=⟨n-1,by omega⟩
    have e1:(((i+1:Nat):Int)-1)=i:=by omega
    simp only[e1]
    have hi':i<A.length:=by omega
    have hai:=g4 da i hi'
    obtain ⟨hs1,hs2⟩:=long_step (hget i hi') hb (show 0<B4 by decide)
    have hrb:=Nat.mod_lt (a/B4 ^ (i+1)) hb
    generalize a/B4 ^ (i+1)%b=r at hs1 hs2 hrb ⊢
    have hrl:(dg B4 r).length≤(dg B4 b).length:=dg_mono hB4 (Nat.le_of_lt hrb)
    rw[← hv] at hs2
    obtain ⟨d,hd⟩:∃ d,A[i]=d:=⟨_,rfl⟩
    rw[hd] at hai hs1 hs2
    have vr:=vl_dg hB4 r
    have dr:=dg_dig hB4 r
    obtain ⟨X,hX⟩:∃ X,dg B4 r=X:=⟨_,rfl⟩
    rw[hX] at vr dr hrl ⊢
    (refine kQ ?_;repeat intro γ)
    simp only[hd]
    have e3:((X.length:Int)+1).toNat=X.length+1:=by omega
    simp only[List.length_map,e3,repD,List.replicate_succ,List.map_cons]
    refine LoopP.intro (fun n σ H=>∃ p g k,n=X.length-k∧k≤X.length ∧
     σ=fr [(0,encDs A),(1,encDs (dg B4 b)),(6,.own 21 p 0 A.length),(7,encDs X),(8,encI F),(9,encI dv),(10,encI i),(11,.own 56 g 0 (X.length+1)),(12,encI k)] ∧
     H=hp [(21,p,⟨3,1,(List.replicate (i+1) 0++R).map encD⟩),(56,g,⟨3,1,(d::(X.take k++List.replicate (X.length-k) 0)).map encD⟩)]) ?_ ?_
    ·exact .intro <| W.of ⟨_,p,_,0,rfl,Nat.zero_le _,rfl,rfl⟩ ⟨rfl,rfl,rfl,rfl,rfl,rfl,rfl,rfl,rfl,trivial⟩ ⟨rfl,rfl,trivial⟩
    ·rintro n σ H ⟨p,g,k,rfl,hk,rfl,rfl⟩
     have hxl:((d::(X.take k++List.replicate (X.length-k) 0)).map encD).length=X.length+1:=by simp;omega
     refine kW ?_
     (refine kQ ?_;repeat intro γ)
     refine CondP.dec (fun h=>?_) (fun h=>?_)<;>refine kW ?_
     ·(have h2:=h;try simp only[LN] at h2)
      have hk':k<X.length:=by omega
      have hget2:((d::(X.take k++List.replicate (X.length-k) 0)).map encD).getD (k+1) .dead=encD 0:=by
       rw[getD_map _ _ _ (by simp;omega)];simp[List.getElem_append,Nat.le_of_lt hk']
      have e4:((k:Int)+1).toNat=k+1:=by omega
      (refine kQ ?_;repeat intro γ)
      simp only[e4,Nat.zero_add,hget2]
      refine kW ?_
      (refine kQ ?_;repeat intro γ)
      refine .intro <| W.of ⟨_,by omega,p,_,k+1,rfl,hk',rfl,rfl⟩ ⟨rfl,rfl,rfl,rfl,rfl,rfl,rfl,rfl,rfl,trivial⟩ ⟨rfl,?_,trivial⟩
      have hst:(d::(X.take k++List.replicate (X.length-k) 0)).set (k+1) X[k]=d::(X.take (k+1)++List.replicate (X.length-(k+1)) 0):=by
       have:=set_at (d::X.take k) 0 X[k] (List.replicate (X.length-(k+1)) 0)
       rw[List.length_cons,List.length_take,Nat.min_eq_left hk,List.cons_append] at this
       rw[show X.length-k=X.length-(k+1)+1 by omega,List.replicate_succ,this,List.take_succ_eq_append_getElem hk',List.append_assoc];rfl
      rw[← hst,← setD (z:=((X[k]:Nat):Int)) X[k] rfl];rfl
     ·(have h2:=h;try simp only[LN] at h2)
      obtain rfl:k=X.length:=by omega
      rw[List.take_length,Nat.sub_self,List.replicate_zero,List.append_nil] at hxl ⊢
      have dN:Dig B4 (d::X):=Dig.cons hai dr
      have vN:vl B4 (d::X)=d+B4*r:=by rw[vl,vr]
      (refine kQ ?_;repeat intro γ)
      refine CallP.pure [56] _ c331 (pure_args ?_ (trimN_ok (d::X) (by rw[List.length_cons];omega))) ?_
      ·refine congrArg (fun z=>[z]) (ownD (e:=3) (out:=d::X) ?_ rfl)
       show some (_,(⟨_,_,_⟩:Blk))=_
       rw[List.append_nil]
      rw[trim4 dN,vN]
      have hnb:d+B4*r<b*B4:=by
       have:=Nat.mul_le_mul_left B4 (show r+1≤b from hrb)
       rw[Nat.mul_add,Nat.mul_comm B4 b] at this
       have:d<B4:=hai
       omega
      obtain ⟨N,hN⟩:∃ N,d+B4*r=N:=⟨_,rfl⟩
      rw[hN] at hnb hs1 hs2 ⊢
      have hNl:(dg B4 N).length≤(dg B4 b).length+1:=dg_len_le hB4 (by
       rw[Nat.pow_succ]
       exact Nat.lt_of_lt_of_le hnb (Nat.mul_le_mul_right _ (Nat.le_of_lt (dg_lt hB4 b))))
      have hq0:=hdv2 N
      have htop:=top_ok N F (by omega) (by omega)
      generalize hqq:N/B4 ^ F/dv=q0 at hq0
      have hqb:q0<10000:=by
       rcases Nat.lt_or_ge q0 10000 with h' | h'
       ·exact h'
       ·have:=Nat.mul_le_mul_right b h'
        rw[show (B4:Nat)=10000 from rfl,Nat.mul_comm b] at hnb
        omega
      unfold encN
      refine kW ?_
      (refine kQ ?_;repeat intro γ)
      unfold encN at htop
      refine CallP.flat [] _ c358 htop rfl ?_
      have hdiv:Int.tdiv ((N/B4 ^ F:Nat):Int) (dv:Int)=(q0:Int):=by rw[← hqq];rfl
      have hmd:=mulDigit_ok b q0 (by omega) (by omega)
      have hsu:=subNat_ok N (b*q0) (by omega) (by rw[Nat.mul_comm];exact hq0)
      unfold encN at hmd hsu
      refine kW ?_
      (refine kQ ?_;repeat intro γ)
      simp only[hdiv]
      (refine kQ ?_;repeat intro γ)
      refine CallP.pure [] _ c359 hmd ?_
      refine kW ?_
      (refine kQ ?_;repeat intro γ)
      refine CallP.pure [] _ c324 hsu ?_
      refine kW ?_
      (refine kQ ?_;repeat intro γ)
      refine LoopP.intro (fun n σ H=>∃ p Z q,n=Z∧Z+b*q=N ∧
       σ=fr [(0,encDs A),(1,encDs (dg B4 b)),(6,.own 21 p 0 A.length),(7,encDs (dg B4 Z)),(8,encI F),(9,encI dv),(10,encI i),(13,encI q)] ∧
       H=hp [(21,p,⟨3,1,(List.replicate (i+1) 0++R).map encD⟩)]) ?_ ?_
      ·refine .intro <| W.of ⟨_,p,N-b*q0,q0,rfl,?_,rfl,rfl⟩ ⟨rfl,rfl,rfl,rfl,rfl,rfl,rfl,rfl,trivial⟩ ⟨rfl,trivial⟩
       rw[Nat.mul_comm] at hq0
       omega
      ·clear hq0 hqq hqb htop hdiv hmd hsu
       rintro n σ H ⟨p,Z,q,rfl,hZ,rfl,rfl⟩
       have hZl:=dg_mono hB4 (show n≤N by omega)
       have hc:=cmpNat_ok n b (by omega) (by omega)
       have hcs:=(cmpN_neg n b).2.1
       unfold encN at hc
       generalize cmpN n b=c at hc hcs
       have hql:q≤N/b:=by rw[Nat.le_div_iff_mul_le hb,Nat.mul_comm];omega
       have hNb:N/b<10000:=Nat.div_lt_of_lt_mul hnb
       refine kW ?_
       (refine kQ ?_;repeat intro γ)
       refine CallP.flat [] _ c269 hc rfl ?_
       refine kW ?_
       (refine kQ ?_;repeat intro γ)
       refine CondP.dec (fun h=>?_) (fun h=>?_)<;>refine kW ?_
       ·have hbZ:=hcs.1 h
        have hsu:=subNat_ok n b (by omega) hbZ
        unfold encN at hsu
        (refine kQ ?_;repeat intro γ)
        refine CallP.pure [] _ c324 hsu ?_
        refine kW ?_
        (refine kQ ?_;repeat intro γ)
        refine .intro <| W.of ⟨_,by omega,p,n-b,q+1,rfl,?_,rfl,rfl⟩ ⟨rfl,rfl,rfl,rfl,rfl,rfl,rfl,rfl,trivial⟩ ⟨rfl,trivial⟩
        rw[Nat.mul_add];omega
       ·have hZb:n<b:=by
         rcases Nat.lt_or_ge n b with h' | h'
         ·exact h'
         ·exact absurd (hcs.2 h') h
        have hq:N/b=q:=by rw[← hZ,Nat.add_mul_div_left _ _ hb,Nat.div_eq_of_lt hZb,Nat.zero_add]
        have hr:N%b=n:=by rw[← hZ,Nat.add_mul_mod_self_left,Nat.mod_eq_of_lt hZb]
        rw[hq] at hs2
        rw[hr] at hs1
        have hget2:((List.replicate (i+1) 0++R).map encD).getD i .dead=encD 0:=by
         rw[getD_map _ _ _ (by simp;omega)];simp[List.getElem_append]
        have hlen2:((List.replicate (i+1) 0++R).map encD).length=A.length:=by simp;omega
        (refine kQ ?_;repeat intro γ)
        simp only[Int.toNat_natCast,Nat.zero_add,hget2]
        refine kW ?_
        (refine kQ ?_;repeat intro γ)
        refine .intro <| W.of ⟨_,by omega,_,i,q::R,rfl,by omega,by simp;omega,Dig.cons (show q<B4 by unfold B4;omega) dR,?_,rfl,rfl⟩ ⟨rfl,rfl,rfl,?_,rfl,rfl,?_,trivial⟩ ⟨?_,trivial⟩
        ·rw[vl,hs2]
        ·rw[hs1];rfl
        ·rfl
        ·rw[← rep_set,← setD (z:=(q:Int)) q rfl];rfl
   ·obtain rfl:n=0:=by omega
    rw[Nat.pow_zero,Nat.div_one] at hv ⊢
    (refine kQ ?_;repeat intro γ)
    refine CallP.pure [21] _ c331 (pure_args ?_ (trimN_ok R (by omega))) ?_
    ·refine congrArg (fun z=>[z]) (ownD (e:=3) (out:=R) ?_ (by omega))
     rfl
    rw[trim4 dR,hv]
    refine kW ?_
    (refine kQ ?_;repeat intro γ)
    exact .of rfl
theorem gcdNat_ok (a b:Nat) (ha:(dg B4 a).length<2^37) (hb:(dg B4 b).length<2^37):PureCall Tryz.prog 305 [encN a,encN b] (encN (Nat.gcd a b)):=by
 refine PC [] Tryz.func305 rfl (by rfl) rfl ?_
 obtain ⟨G,hG⟩:∃ G,Nat.gcd a b=G:=⟨_,rfl⟩
 rw[hG]
 unfold encN
 refine kW ?_
 (refine kQ ?_;repeat intro γ)
 refine LoopP.intro (fun n σ H=>∃ a b,n=b∧(dg B4 a).length<2^37∧(dg B4 b).length<2^37∧Nat.gcd a b=G∧σ=fr [(0,encDs (dg B4 a)),(1,encDs (dg B4 b))]∧H=hp []) ?_ ?_
 ·exact .intro <| W.of ⟨_,a,b,rfl,ha,hb,hG,rfl,rfl⟩ ⟨rfl,rfl,trivial⟩ trivial
 ·clear ha hb hG a b
  rintro n σ H ⟨a,b,rfl,ha,hb,hG,rfl,rfl⟩
  rcases Nat.eq_zero_or_pos n with h0 | h0
  ·subst h0
   rw[Nat.gcd_zero_right] at hG
   subst hG
   rw[dg_zero]
   refine kW ?_
   (refine kQ ?_;repeat intro γ)
   refine CondP.neg (by decide) ?_
   refine kW ?_
   (refine kQ ?_;repeat intro γ)
   exact .of rfl
  ·have hl:0<(dg B4 n).length:=by
    rcases Nat.eq_zero_or_pos (dg B4 n).length with h | h
    ·have:=(dg_nil hB4 _).1 (List.length_eq_zero_iff.1 h);omega
    ·exact h
   have hd:=divNat_ok a n h0 ha hb
   have hr:=Nat.mod_lt a h0
   have hml:=dg_mono hB4 (Nat.le_of_lt hr)
   rw[Nat.gcd_comm,Nat.gcd_rec,Nat.gcd_comm] at hG
   unfold encN at hd
   refine kW ?_
   (refine kQ ?_;repeat intro γ)
   refine CallP.pure [] _ c325 hd ?_
   refine kW ?_
   (refine kQ ?_;repeat intro γ)
   exact .intro <| W.of ⟨_,hr,n,a%n,rfl,hb,by omega,hG,rfl,rfl⟩ ⟨rfl,rfl,trivial⟩ trivial
end Go.Proofs.YtlhdoekgipaihaaGreatDoor
namespace Go.Proofs.YtlhdoekgipaihaaGreatDoor
open Go Go.Fw
theorem vrs2 {κ:KM} {w:World} {N:Nat→Prop} {a b:Value} {vs:Array Value} (h:VRs κ w N [.val a,.val b] vs):vs=#[a,b]:=by
 obtain ⟨hl,hv⟩:=h
 obtain ⟨l⟩:=vs
 rcases l with _ | ⟨x,_ | ⟨y,_ | ⟨z,r⟩⟩⟩<;>simp at hl
 have h0:=hv 0 (by simp) (by simp)
 have h1:=hv 1 (by simp) (by simp)
 simp at h0 h1
 cases h0;cases h1;rfl
def idxB (s:ByteArray) (c:UInt8):Int:=match (List.range s.size).find? fun i=>s[i]! == c with
 | some i=>i
 | none=>-1
theorem extIB (s:ByteArray) (n:Nat) (h:n<256):ExtCall Tryz.prog 384 [encS s,.val (.int .u8 n)] (.int .i64 (idxB s (UInt8.ofNat n))):=by
 refine ⟨rfl,fun κ w N vs hv=>?_⟩
 rw[vrs2 hv]
 have h1:Tryz.prog.funcs[384]?=some Tryz.f384:=Tryz.func384
 have h2:(Tryz.f384.name == "runtime.NumGoroutine")=false:=by kernel_rfl
 have h3:Tryz.f384.body.isNone=true:=by kernel_rfl
 have h4:Extern.findNext Tryz.f384=none:=by kernel_rfl
 have h5:Extern.find Tryz.f384=some Extern.BytealgIndexByte.indexByte:=by kernel_rfl
 simp only[callFunc,Sem.run_bind,run_program,Result.andThen_ok,h1,h2,h3,h4,h5,run_mark,if_true,Bool.false_eq_true,if_false]
 have e:(Extern.BytealgIndexByte.indexByte #[.string s,.int .u8 n]).run Tryz.prog w=.ok (.int .i64 (idxB s (UInt8.ofNat n))) w:=by
  change Sem.run Tryz.prog (do
   let b ← Extern.Bytes.bytesOf (.string s)
   let c ← Extern.Bytes.asByte (.int .u8 n)
   match (List.range b.size).find? fun i=>b[i]! == c with
   | some i=>pure (goInt i)
   | none=>pure (goInt (-1))) w=_
  simp only[Extern.Bytes.bytesOf,Extern.Bytes.asByte,Sem.run_bind,Sem.run_pure,Result.andThen_ok,Int.toNat_natCast,idxB]
  rw[show n.toUInt8=UInt8.ofNat n from rfl]
  cases (List.range s.size).find? fun i=>s[i]! == UInt8.ofNat n<;>simp[goInt,Sem.run_pure]
 rw[e];rfl
theorem extCS (a b:ByteArray):ExtCall Tryz.prog 326 [encS a,encS b] (.int .i64 (Lib.compareBytes a.data.toList b.data.toList)):=by
 refine ⟨rfl,fun κ w N vs hv=>?_⟩
 rw[vrs2 hv]
 have h1:Tryz.prog.funcs[326]?=some Tryz.f326:=Tryz.func326
 have h2:(Tryz.f326.name == "runtime.NumGoroutine")=false:=by kernel_rfl
 have h3:Tryz.f326.body.isNone=true:=by kernel_rfl
 have h4:Extern.findNext Tryz.f326=none:=by kernel_rfl
 have h5:Extern.find Tryz.f326=some Extern.BytealgCompare.compare:=by kernel_rfl
 simp only[callFunc,Sem.run_bind,run_program,Result.andThen_ok,h1,h2,h3,h4,h5,run_mark,if_true,Bool.false_eq_true,if_false]
 rw[show (Extern.BytealgCompare.compare #[.string a,.string b]).run Tryz.prog w=_ from Lib.run_compareString a b w];rfl
noncomputable def eqL:List Nat:=[46]
def keyL:List Nat:=[9,46]
noncomputable def XR:XE where
 E:=E 0
 eqs:=fun t=>memB t eqL
 keys:=fun t=>memB t keyL
 arrs:=fun t n=>Nat.beq t 366&&Nat.beq n 9
 ext:=fun n args=>match n,args with
  | 326,[.val (.string a),.val (.string b)]=>some (.int .i64 (Lib.compareBytes a.data.toList b.data.toList))
  | 384,[.val (.string s),.val (.int .u8 (.ofNat c))]=>ifB (Nat.blt c 256) (some (.int .i64 (idxB s (UInt8.ofNat c))))
  | _,_=>none
theorem eqst46:EqSt Tryz.prog 46:=EqSt.of (by kernel_rfl) (by kernel_rfl) (by kernel_rfl)
theorem keyst46:KeySt Tryz.prog 46:=KeySt.of (by kernel_rfl) (by kernel_rfl)
theorem keyst9:KeySt Tryz.prog 9:=KeySt.of (by kernel_rfl) (by kernel_rfl)
theorem arr366:ArrP Tryz.prog 366 9:=⟨⟨5,by kernel_rfl,by kernel_rfl⟩⟩
theorem XR_ok:XOk XR where
 hT:=T_ok
 eqs:=fun t h=>by
  have h:memB t eqL=true:=h
  rw[memB_eq] at h
  have:=of_decide_eq_true h
  simp only[eqL,List.mem_cons,List.not_mem_nil,or_false] at this
  subst this
  exact eqst46
 keys:=fun t h=>by
  have h:memB t keyL=true:=h
  rw[memB_eq] at h
  have:=of_decide_eq_true h
  simp only[keyL,List.mem_cons,List.not_mem_nil,or_false] at this
  rcases this with rfl | rfl
  ·exact keyst9
  ·exact keyst46
 arrs:=fun t n h=>by
  have h:(Nat.beq t 366&&Nat.beq n 9)=true:=h
  simp only[Bool.and_eq_true] at h
  have e1:=Nat.eq_of_beq_eq_true h.1
  have e2:=Nat.eq_of_beq_eq_true h.2
  subst e1 e2
  exact arr366
 ext := fun n args v h=>by
  simp only[XR] at h
  split at h
  ·cases h;exact extCS _ _
  ·obtain ⟨h1,h⟩:=ifB_ok h
   cases h
   exact extIB _ _ (Nat.le_of_ble_eq_true h1)
  ·cases h
 mixed:=by rfl
 news:=fun n args b off len e k xs h=>by cases h
end Go.Proofs.YtlhdoekgipaihaaGreatDoor
namespace Go.Proofs.YtlhdoekgipaihaaGreatDoor
open Go Go.Fw
def hasP (s p:ByteArray):Bool:=decide (p.size≤s.size)&&decide (s.extract 0 p.size=p)
def hasX (s p:ByteArray):Bool:=decide (p.size≤s.size)&&decide (s.extract (s.size-p.size) s.size=p)
theorem HasPrefix_ok' (s p:ByteArray) (hs:s.size<2^62) (hp:p.size<2^62):PureCall Tryz.prog 314 [encS s,encS p] (encB (hasP s p)):=by
 refine PC [] Tryz.func314 rfl (by rfl) rfl ?_
 generalize hF:hasP s p=F
 unfold hasP at hF
 refine kW ?_
 (refine kO ?_;repeat intro γ)
 refine CondP.dec (fun h=>?_) (fun h=>?_)<;>refine kW ?_
 ·rw[decide_eq_true (by omega),Bool.true_and] at hF
  (refine kO ?_;repeat intro γ)
  exact .of (by rw[← hF];rfl)
 ·rw[decide_eq_false (by omega),Bool.false_and] at hF
  (refine kO ?_;repeat intro γ)
  exact .of (by rw[← hF];rfl)
theorem HasPrefix_ok (s p:ByteArray) (hs:s.size<2^62) (hp:p.size<2^62):PureCall Tryz.prog 226 [encS s,encS p] (encB (hasP s p)):=by
 refine PC [] Tryz.func226 rfl (by rfl) rfl ?_
 refine kW ?_
 (refine kS ?_;repeat intro γ)
 refine CallP.flat [] _ c314 (HasPrefix_ok' s p hs hp) rfl ?_
 refine kW ?_
 (refine kS ?_;repeat intro γ)
 exact .of rfl
theorem HasSuffix_ok (s p:ByteArray) (hs:s.size<2^62) (hp:p.size<2^62):PureCall Tryz.prog 399 [encS s,encS p] (encB (hasX s p)):=by
 refine PC [] Tryz.func399 rfl (by rfl) rfl ?_
 generalize hF:hasX s p=F
 unfold hasX at hF
 refine kW ?_
 (refine kO ?_;repeat intro γ)
 refine CondP.dec (fun h=>?_) (fun h=>?_)<;>refine kW ?_
 ·rw[decide_eq_true (by omega),Bool.true_and] at hF
  rw[show s.size-p.size=((s.size:Int)-p.size).toNat by omega] at hF
  (refine kO ?_;repeat intro γ)
  exact .of (by rw[← hF];rfl)
 ·rw[decide_eq_false (by omega),Bool.false_and] at hF
  (refine kO ?_;repeat intro γ)
  exact .of (by rw[← hF];rfl)
def cutP (s p:ByteArray):ByteArray×Bool:=if hasP s p then (s.extract p.size s.size,true) else (s,false)
theorem CutPrefix_ok' (s p:ByteArray) (hs:s.size<2^62) (hp:p.size<2^62):PureCall Tryz.prog 346 [encS s,encS p] (.tup [encS (cutP s p).1,encB (cutP s p).2]):=by
 refine PC [] Tryz.func346 rfl (by rfl) rfl ?_
 generalize hF:cutP s p=F
 unfold cutP at hF
 refine kW ?_
 (refine kS ?_;repeat intro γ)
 refine CallP.flat [] _ c314 (HasPrefix_ok' s p hs hp) rfl ?_
 refine kW ?_
 (refine kS ?_;repeat intro γ)
 refine CondP.intro (fun h=>?_) (fun h=>?_)<;>refine kW ?_
 ·rw[h] at hF
  have hle:p.size≤s.size:=by unfold hasP at h;simp at h;exact h.1
  (refine kS ?_;repeat intro γ)
  exact .of (by rw[← hF];rfl)
 ·rw[h] at hF
  (refine kS ?_;repeat intro γ)
  exact .of (by rw[← hF];rfl)
theorem CutPrefix_ok (s p:ByteArray) (hs:s.size<2^62) (hp:p.size<2^62):PureCall Tryz.prog 317 [encS s,encS p] (.tup [encS (cutP s p).1,encB (cutP s p).2]):=by
 refine PC [] Tryz.func317 rfl (by rfl) rfl ?_
 refine kW ?_
 (refine kS ?_;repeat intro γ)
 refine CallP.pure [] _ c346 (CutPrefix_ok' s p hs hp) ?_
 refine kW ?_
 (refine kS ?_;repeat intro γ)
 exact .of rfl
def trimX (s p:ByteArray):ByteArray:=if hasX s p then s.extract 0 (s.size-p.size) else s
theorem TrimSuffix_ok' (s p:ByteArray) (hs:s.size<2^62) (hp:p.size<2^62):PureCall Tryz.prog 394 [encS s,encS p] (encS (trimX s p)):=by
 refine PC [] Tryz.func394 rfl (by rfl) rfl ?_
 generalize hF:trimX s p=F
 unfold trimX at hF
 refine kW ?_
 (refine kS ?_;repeat intro γ)
 refine CallP.flat [] _ c399 (HasSuffix_ok s p hs hp) rfl ?_
 refine kW ?_
 (refine kS ?_;repeat intro γ)
 refine CondP.intro (fun h=>?_) (fun h=>?_)<;>refine kW ?_
 ·rw[h] at hF
  have hle:p.size≤s.size:=by unfold hasX at h;simp at h;exact h.1
  rw[show s.size-p.size=((s.size:Int)-p.size).toNat by omega] at hF
  (refine kS ?_;repeat intro γ)
  exact .of (by rw[← hF];rfl)
 ·rw[h] at hF
  (refine kS ?_;repeat intro γ)
  exact .of (by rw[← hF];rfl)
theorem TrimSuffix_ok (s p:ByteArray) (hs:s.size<2^62) (hp:p.size<2^62):PureCall Tryz.prog 379 [encS s,encS p] (encS (trimX s p)):=by
 refine PC [] Tryz.func379 rfl (by rfl) rfl ?_
 refine kW ?_
 (refine kS ?_;repeat intro γ)
 refine CallP.flat [] _ c394 (TrimSuffix_ok' s p hs hp) rfl ?_
 refine kW ?_
 (refine kS ?_;repeat intro γ)
 exact .of rfl
theorem IndexByte_ok' (s:ByteArray) (n:Nat) (h:n<256):PureCall Tryz.prog 370 [encS s,.val (.int .u8 n)] (encI (idxB s (UInt8.ofNat n))):=by
 refine PC [] Tryz.func370 rfl (by rfl) rfl ?_
 refine kW ?_
 (refine kS ?_;repeat intro γ)
 refine CallP.ext _ (extIB s n h) ?_
 refine kW ?_
 (refine kS ?_;repeat intro γ)
 exact .of rfl
theorem IndexByte_ok (s:ByteArray) (n:Nat) (h:n<256):PureCall Tryz.prog 354 [encS s,.val (.int .u8 n)] (encI (idxB s (UInt8.ofNat n))):=by
 refine PC [] Tryz.func354 rfl (by rfl) rfl ?_
 refine kW ?_
 (refine kS ?_;repeat intro γ)
 refine CallP.flat [] _ c370 (IndexByte_ok' s n h) rfl ?_
 refine kW ?_
 (refine kS ?_;repeat intro γ)
 exact .of rfl
def b1 (c:UInt8):ByteArray:=⟨#[c]⟩
theorem idxB_self (c:UInt8):idxB (b1 c) c=0:=by
 unfold idxB
 have:(List.range (b1 c).size).find? (fun i=>(b1 c)[i]! == c)=some 0:=by
  show List.find? _ [0]=_
  have:((b1 c)[0]! == c)=true:=by rw[show (b1 c)[0]! = c from rfl];exact beq_self_eq_true c
  exact List.find?_cons_of_pos (p:=fun i=>(b1 c)[i]! == c) this
 rw[this];rfl
theorem Index_ok (s:ByteArray) (c:UInt8):PureCall Tryz.prog 345 [encS s,encS (b1 c)] (encI (idxB s c)):=by
 refine PC [] Tryz.func345 rfl (by rfl) rfl ?_
 have hb:(b1 c).size=1:=rfl
 have hc:byteAt (b1 c) (Int.toNat 0)=(c.toNat:Int):=rfl
 refine kW ?_
 (refine kS ?_;repeat intro γ)
 refine CondP.dec (fun h=>?_) (fun h=>?_)<;>refine kW ?_
 ·(refine kS ?_;repeat intro γ)
  refine .of ?_
  rw[← h,idxB_self];rfl
 ·(refine kS ?_;repeat intro γ)
  rw[hc]
  refine CallP.flat [] _ c370 (IndexByte_ok' s c.toNat c.toNat_lt) rfl ?_
  rw[UInt8.ofNat_toNat]
  refine kW ?_
  (refine kS ?_;repeat intro γ)
  exact .of rfl
def cutB (s:ByteArray) (c:UInt8):ByteArray×ByteArray×Bool:=if 0≤idxB s c then (s.extract 0 (idxB s c).toNat,s.extract ((idxB s c).toNat+1) s.size,true) else (s,⟨#[]⟩,false)
theorem idxB_lt {s:ByteArray} {c:UInt8}:idxB s c<s.size:=by
 unfold idxB
 split
 ·rename_i i h
  have:=List.mem_of_find?_eq_some h
  rw[List.mem_range] at this;omega
 ·omega
theorem Cut_ok' (s:ByteArray) (c:UInt8) (hs:s.size<2^62):PureCall Tryz.prog 316 [encS s,encS (b1 c)] (.tup [encS (cutB s c).1,encS (cutB s c).2.1,encB (cutB s c).2.2]):=by
 refine PC [] Tryz.func316 rfl (by rfl) rfl ?_
 have hb:(b1 c).size=1:=rfl
 have hl:=@idxB_lt s c
 generalize hF:cutB s c=F
 unfold cutB at hF
 refine kW ?_
 (refine kS ?_;repeat intro γ)
 refine CallP.flat [] _ c345 (Index_ok s c) rfl ?_
 generalize idxB s c=i at *
 refine kW ?_
 (refine kS ?_;repeat intro γ)
 refine CondP.dec (fun h=>?_) (fun h=>?_)<;>refine kW ?_
 ·rw[if_pos h] at hF
  simp only[hb,show (i+((1:Nat):Int)).toNat=i.toNat+1 by omega]
  (refine kS ?_;repeat intro γ)
  simp only[hb,show (i+((1:Nat):Int)).toNat=i.toNat+1 by omega]
  exact .of (by rw[← hF];rfl)
 ·rw[if_neg h] at hF
  (refine kS ?_;repeat intro γ)
  exact .of (by rw[← hF];rfl)
theorem Cut_ok (s:ByteArray) (c:UInt8) (hs:s.size<2^62):PureCall Tryz.prog 231 [encS s,encS (b1 c)] (.tup [encS (cutB s c).1,encS (cutB s c).2.1,encB (cutB s c).2.2]):=by
 refine PC [] Tryz.func231 rfl (by rfl) rfl ?_
 refine kW ?_
 (refine kS ?_;repeat intro γ)
 refine CallP.pure [] _ c316 (Cut_ok' s c hs) ?_
 refine kW ?_
 (refine kS ?_;repeat intro γ)
 exact .of rfl
end Go.Proofs.YtlhdoekgipaihaaGreatDoor
namespace Go.Proofs.YtlhdoekgipaihaaGreatDoor
open Go Go.Fw
def tenS:ByteArray:=⟨#[48,49,50,51,52,53,54,55,56,57]⟩
def isD (n:Nat):Bool:=Nat.ble 48 n&&Nat.ble n 57
def digs:List Bool:=(List.range 256).map isD
theorem makeSet_ok:PureCall Tryz.prog 349 [encS tenS] (.tup [.agg (digs.map encB),encB true]):=by
 exact runs_pure XR_ok (fuel:=200) (n:=5) (by kernel_rfl)
theorem contains_ok (n:Nat) (h:n<256):PureCall Tryz.prog 372 [.ep (.agg (digs.map encB)) 0,.val (.int .u8 n)] (encB (isD n)):=by
 refine PC [] Tryz.func372 rfl (by rfl) rfl ?_
 refine kW ?_
 (refine kS ?_;repeat intro γ)
 have e:(AV.agg (List.map encB digs)).cells[0+(n:Int).toNat*1]?=some (encB (isD n)):=by
  have:(0+(n:Int).toNat*1)=n:=by omega
  rw[this]
  show (List.map encB digs)[n]?=_
  rw[List.getElem?_map,digs,List.getElem?_map,List.getElem?_range h];rfl
 rw[e]
 refine kW ?_
 (refine kS ?_;repeat intro γ)
 exact .of rfl
def trimLD:List UInt8→List UInt8
 | []=>[]
 | c::l=>if isD c.toNat then trimLD l else c::l
def ofL (l:List UInt8):ByteArray:=⟨⟨l⟩⟩
theorem ofL_extract (l:List UInt8) (a b:Nat):(ofL l).extract a b=ofL ((l.take b).drop a):=by
 apply ByteArray.ext
 rw[ByteArray.data_extract]
 apply Array.ext'
 simp[ofL,Array.toList_extract,List.extract_eq_take_drop,List.drop_take]
theorem ofL_size (l:List UInt8):(ofL l).size=l.length:=rfl
theorem ofL_self (s:ByteArray):ofL s.data.toList=s:=rfl
theorem trimLeft_ok (l:List UInt8) (hl:l.length<2^62):PureCall Tryz.prog 350 [encS (ofL l),.ep (.agg (digs.map encB)) 0] (encS (ofL (trimLD l))):=by
 refine PC [] Tryz.func350 rfl (by rfl) rfl ?_
 refine kW ?_
 (refine kS ?_;repeat intro γ)
 refine LoopP.intro (fun k σ H=>∃ m:List UInt8,k=m.length∧m.length<2^62∧trimLD m=trimLD l∧σ=fr [(0,encS (ofL m)),(1,.ep (.agg (digs.map encB)) 0)]∧H=hp []) ?_ ?_
 ·exact .intro <| W.of ⟨_,l,rfl,hl,rfl,rfl,rfl⟩ ⟨rfl,rfl,trivial⟩ trivial
 ·rintro k σ H ⟨m,rfl,hm,hml,rfl,rfl⟩
  have hsz:(ofL m).size=m.length:=rfl
  refine kW ?_
  (refine kS ?_;repeat intro γ)
  rw[hsz]
  refine CondP.dec (fun h=>?_) (fun h=>?_)<;>refine kW ?_
  ·cases m with
   | nil=>simp at h
   | cons c m=>
     have hb:byteAt (ofL (c::m)) (Int.toNat 0)=(c.toNat:Int):=rfl
     (refine kS ?_;repeat intro γ)
     rw[hb]
     refine CallP.flat [] _ c372 (contains_ok c.toNat c.toNat_lt) rfl ?_
     refine kW ?_
     (refine kS ?_;repeat intro γ)
     rw[show trimLD (c::m)=if isD c.toNat then trimLD m else c::m from rfl] at hml
     refine CondP.intro (fun h1=>?_) (fun h1=>?_)<;>refine kW ?_
     ·rw[if_pos h1] at hml
      (refine kS ?_;repeat intro γ)
      refine .intro <| W.of ⟨m.length,by simp,m,rfl,by simp at hm;omega,hml,rfl,rfl⟩ ⟨?_,rfl,trivial⟩ trivial
      show encS _=encS _
      rw[ofL_extract];congr 2;simp[ofL_size]
     ·rw[if_neg (by rw[h1];decide)] at hml
      (refine kS ?_;repeat intro γ)
      exact .of (by rw[← hml];rfl)
  ·(refine kS ?_;repeat intro γ)
   refine .of ?_
   cases m with
   | nil=>rw[← hml];rfl
   | cons c m=>simp at h
def trimRD (l:List UInt8):List UInt8:=(trimLD l.reverse).reverse
theorem trimRD_snoc (l:List UInt8) (c:UInt8):trimRD (l++[c])=if isD c.toNat then trimRD l else l++[c]:=by
 unfold trimRD
 rw[List.reverse_append]
 show (if isD c.toNat then trimLD l.reverse else c::l.reverse).reverse=_
 split<;>simp
theorem snoc_cases (l:List UInt8):l=[]∨∃ m c,l=m++[c]:=by
 rcases List.eq_nil_or_concat l with h | ⟨m,c,h⟩
 ·exact .inl h
 ·exact .inr ⟨m,c,by simpa using h⟩
theorem trimRight_ok (l:List UInt8) (hl:l.length<2^62):PureCall Tryz.prog 351 [encS (ofL l),.ep (.agg (digs.map encB)) 0] (encS (ofL (trimRD l))):=by
 refine PC [] Tryz.func351 rfl (by rfl) rfl ?_
 refine kW ?_
 (refine kS ?_;repeat intro γ)
 refine LoopP.intro (fun k σ H=>∃ m:List UInt8,k=m.length∧m.length<2^62∧trimRD m=trimRD l∧σ=fr [(0,encS (ofL m)),(1,.ep (.agg (digs.map encB)) 0)]∧H=hp []) ?_ ?_
 ·exact .intro <| W.of ⟨_,l,rfl,hl,rfl,rfl,rfl⟩ ⟨rfl,rfl,trivial⟩ trivial
 ·rintro k σ H ⟨m,rfl,hm,hml,rfl,rfl⟩
  have hsz:(ofL m).size=m.length:=rfl
  refine kW ?_
  (refine kS ?_;repeat intro γ)
  rw[hsz]
  refine CondP.dec (fun h=>?_) (fun h=>?_)<;>refine kW ?_
  ·rcases snoc_cases m with rfl | ⟨m,c,rfl⟩
   ·simp at h
   ·have hL:(m++[c]).length=m.length+1:=by simp
    have e1:(((ofL (m++[c])).size:Int)-1).toNat=m.length:=by rw[hsz,hL];omega
    have hb:byteAt (ofL (m++[c])) m.length=(c.toNat:Int):=by
     unfold byteAt
     rw[dif_pos (by rw[hsz,hL];omega)]
     have:(ofL (m++[c]))[m.length]'(by rw[hsz,hL];omega)=c:=by
      show (m++[c])[m.length]'(by rw[hL];omega)=c
      simp
     rw[this]
    (refine kS ?_;repeat intro γ)
    simp only[e1]
    (refine kS ?_;repeat intro γ)
    rw[hb]
    refine CallP.flat [] _ c372 (contains_ok c.toNat c.toNat_lt) rfl ?_
    refine kW ?_
    (refine kS ?_;repeat intro γ)
    rw[trimRD_snoc] at hml
    refine CondP.intro (fun h1=>?_) (fun h1=>?_)<;>refine kW ?_
    ·rw[if_pos h1] at hml
     (refine kS ?_;repeat intro γ)
     simp only[e1]
     (refine kS ?_;repeat intro γ)
     refine .intro <| W.of ⟨m.length,by rw[hL];omega,m,rfl,by rw[hL] at hm;omega,hml,rfl,rfl⟩ ⟨?_,rfl,trivial⟩ trivial
     show encS _=encS _
     rw[ofL_extract];congr 2;simp
    ·rw[if_neg (by rw[h1];decide)] at hml
     (refine kS ?_;repeat intro γ)
     exact .of (by rw[← hml];rfl)
  ·(refine kS ?_;repeat intro γ)
   refine .of ?_
   cases m with
   | nil=>rw[← hml];rfl
   | cons c m=>simp at h
theorem snapC_op {b g k:Nat} {H:Hp} {e n:Nat} {x:AV} (hb:H b=some (g,⟨e,n,[x]⟩)):snapC [b] H 3 (.op b g 0 k)=.ep (snapEl (snapC [b] H 2) x) k:=by
 simp only[snapC,if_pos (List.mem_singleton.2 rfl:b∈[b]),hb,true_and,if_pos (show 0<[x].length from Nat.one_pos)]
 rfl
def trimD (l:List UInt8):List UInt8:=trimLD (trimRD l)
theorem trimLD_nil (l:List UInt8):trimLD l=[]↔∀ c∈l,isD c.toNat=true:=by
 induction l with
 | nil=>simp[trimLD]
 | cons c l ih=>
   rw[show trimLD (c::l)=if isD c.toNat then trimLD l else c::l from rfl]
   split<;>simp_all
theorem trimD_nil (l:List UInt8):trimD l=[]↔∀ c∈l,isD c.toNat=true:=by
 unfold trimD
 rw[trimLD_nil]
 constructor
 ·intro h
  induction hn:l.length generalizing l with
  | zero=>rw[List.length_eq_zero_iff.1 hn];simp
  | succ n ih=>
    rcases snoc_cases l with rfl | ⟨m,c,rfl⟩
    ·simp
    ·rw[trimRD_snoc] at h
     split at h
     ·rename_i hc
      have:=ih m h (by simpa using hn)
      intro x hx
      rcases List.mem_append.1 hx with hx | hx
      ·exact this x hx
      ·simp at hx;rw[hx];exact hc
     ·exact h
 ·intro h
  have:trimRD l=[]:=by
   unfold trimRD
   rw[(trimLD_nil _).2 (by simpa using h)];rfl
  rw[this];simp
theorem Trim_ok (l:List UInt8) (hl:l.length<2^62):PureCall Tryz.prog 318 [encS (ofL l),encS tenS] (encS (ofL (trimD l))):=by
 refine PC [] Tryz.func318 rfl (by rfl) rfl ?_
 have ht:tenS.size=10:=rfl
 have ht2:¬ tenS=⟨#[]⟩:=by intro h;rw[h] at ht;cases ht
 have hlr:(trimRD l).length≤l.length:=by
  have:∀ m:List UInt8,(trimLD m).length≤m.length:=by
   intro m
   induction m with
   | nil=>simp[trimLD]
   | cons c m ih=>
     rw[show trimLD (c::m)=if isD c.toNat then trimLD m else c::m from rfl]
     split<;>simp<;>omega
  unfold trimRD
  have:=this l.reverse
  simpa using this
 refine kW ?_
 (refine kS ?_;repeat intro γ)
 refine CondP.dec (fun h=>?_) (fun h=>?_)<;>refine kW ?_
 ·(refine kS ?_;repeat intro γ)
  refine .of ?_
  have:l=[]:=by
   cases l with
   | nil=>rfl
   | cons c l=>have:=congrArg ByteArray.size h;simp[ofL_size] at this;cases this
  rw[this];rfl
 ·(refine kS ?_;repeat intro γ)
  refine CallP.pure [] _ c349 makeSet_ok ?_
  refine kX ?_
  (refine kZ ?_;repeat intro γ)
  refine cpA_seqW (W.frx 5 5 (x:=.op 5 γ 0 0) (y:=.ep (.agg (digs.map encB)) 0) rfl ((snapC_op rfl).trans ?_) (W.of (l:=[(0,encS (ofL l)),(1,encS tenS),(4,encS ⟨#[]⟩),(5,.ep (.agg (digs.map encB)) 0),(6,encB true)]) (m:=[]) ?_ ⟨rfl,rfl,rfl,rfl,rfl,trivial⟩ trivial))
  ·exact congrArg (fun z=>AV.ep (.agg z) 0) (by kernel_rfl:_=digs.map encB)
  refine kW ?_
  (refine kS ?_;repeat intro γ)
  refine CallP.pure [] _ c351 (trimRight_ok l hl) ?_
  refine kW ?_
  (refine kS ?_;repeat intro γ)
  refine CallP.pure [] _ c350 (trimLeft_ok _ (by omega)) ?_
  refine kW ?_
  (refine kS ?_;repeat intro γ)
  exact .of rfl
end Go.Proofs.YtlhdoekgipaihaaGreatDoor
namespace Go.Proofs.YtlhdoekgipaihaaGreatDoor
open Go Go.Fw
def smallF (y:Nat):List Nat→List Nat
 | []=>[]
 | d::r=>(vl B9 r%y*B9+d)/y::smallF y r
theorem smallF_len (y:Nat) (l:List Nat):(smallF y l).length=l.length:=by induction l<;>simp[smallF, *]
theorem smallF_ok {y:Nat} (hy:0<y):∀ {l:List Nat},Dig B9 l→vl B9 (smallF y l)=vl B9 l/y∧Dig B9 (smallF y l)
 | [],_=>⟨by simp[smallF,vl],Dig.nil⟩
 | d::r,h=>by
   obtain ⟨ih,id⟩:=smallF_ok hy h.tl
   obtain ⟨h1,h2,h3⟩:=small_step (b:=B9) (by_:=y) (r:=vl B9 r%y) (d:=d) (Q:=vl B9 r/y) (R:=vl B9 r) (by rw[Nat.add_comm];exact (Nat.mod_add_div _ _).symm) (Nat.mod_lt _ hy) h.hd
   refine ⟨?_,Dig.cons h2 id⟩
   simp only[smallF,vl,ih]
   rw[h1,Nat.add_comm (y*_),Nat.add_mul_div_left _ _ hy,Nat.div_eq_of_lt h3,Nat.zero_add]
theorem small_mod {y:Nat} (hy:0<y) {d:Nat} {r:List Nat}:(vl B9 r%y*B9+d)%y=vl B9 (d::r)%y:=by
 have h1:=Nat.mod_add_div (vl B9 r) y
 have:vl B9 (d::r)=(vl B9 r%y*B9+d)+y*(vl B9 r/y*B9):=by
  simp only[vl]
  have e:B9*(vl B9 r%y+y*(vl B9 r/y))=B9*vl B9 r:=by rw[h1]
  grind
 rw[this,Nat.add_mul_mod_self_left]
theorem small_ok (l:List Nat) (y:Nat) (hl:l.length<2^39) (hd:Dig B9 l) (hy:0<y) (hy2:y<1000000000):PureCall Tryz.prog 334 [encWs l,encw y] (.tup [encWs (smallF y l),encw (vl B9 l%y)]):=by
 refine PC [12] Tryz.func334 rfl (by rfl) rfl ?_
 refine kW ?_
 (refine kS ?_;repeat intro γ)
 simp only[Int.toNat_natCast,List.length_map,repw]
 refine LoopP.intro (fun n σ H=>∃ p i,i≤l.length∧n=i ∧
  σ=fr [(0,encWs l),(1,encw y),(6,.own 12 p 0 l.length),(7,.val (.int .u64 (vl B9 (l.drop i)%y:Nat))),(8,encI ((i:Int)-1))]∧H=hp [(12,p,⟨329,1,(List.replicate i 0++smallF y (l.drop i)).map encw⟩)]) ?_ ?_
 ·refine .intro <| W.of ⟨_,_,l.length,Nat.le_refl _,rfl,rfl,rfl⟩ ⟨rfl,rfl,rfl,?_,rfl,trivial⟩ ⟨?_,trivial⟩
  ·rw[List.drop_of_length_le (Nat.le_refl _)];simp[vl];rfl
  ·rw[List.drop_of_length_le (Nat.le_refl _)];simp[smallF];rfl
 ·rintro n σ H ⟨p,i,hi,rfl,rfl,rfl⟩
  refine kW ?_
  (refine kS ?_;repeat intro γ)
  refine CondP.dec (fun h=>?_) (fun h=>?_)<;>refine kW ?_
  ·obtain ⟨i,rfl⟩:∃ k,n=k+1:=⟨n-1,by omega⟩
   have e1:(((i+1:Nat):Int)-1)=i:=by omega
   simp only[e1]
   have hi':i<l.length:=by omega
   have hli:=g9 hd i hi'
   have hr:=Nat.mod_lt (vl B9 (l.drop (i+1))) hy
   have hm:=small_mod (y:=y) hy (d:=l[i]) (r:=l.drop (i+1))
   rw[← List.drop_eq_getElem_cons hi'] at hm
   have hdr:smallF y (l.drop i)=(vl B9 (l.drop (i+1))%y*B9+l[i])/y::smallF y (l.drop (i+1)):=by rw[List.drop_eq_getElem_cons hi'];rfl
   have hlen:(List.replicate (i+1) 0++smallF y (l.drop (i+1))).length=l.length:=by simp[smallF_len];omega
   generalize hq:vl B9 (l.drop (i+1))%y=r at hr hm hdr
   have h9:(r*B9+l[i])/y<1000000000:=by
    refine Nat.div_lt_of_lt_mul ?_
    have:=Nat.mul_le_mul_right 1000000000 (show r+1≤y from hr)
    show r*1000000000+l[i]<y*1000000000
    omega
   (refine kR ?_;repeat intro γ)
   have hs:(r:Int)*1000000000+(l[i]:Nat)=((r*1000000000+l[i]:Nat):Int):=by omega
   change (r*1000000000+l[i])%y=_ at hm
   change smallF y (l.drop i)=(r*1000000000+l[i])/y::_ at hdr
   change (r*1000000000+l[i])/y<_ at h9
   have hs2:r*1000000000+l[i]<1000000000000000000:=by omega
   generalize r*1000000000+l[i]=s at hs hm hdr h9 hs2
   simp only[hs]
   (refine kR ?_;repeat intro γ)
   simp only[TN]
   generalize s/y=d at h9 hdr ⊢
   (refine kR ?_;repeat intro γ)
   refine .intro <| W.of ⟨_,by omega,_,i,by omega,rfl,rfl,rfl⟩ ⟨rfl,rfl,rfl,?_,rfl,trivial⟩ ⟨?_,trivial⟩
   ·rw[← hm];rfl
   ·rw[hdr,List.replicate_succ',List.append_assoc,List.append_cons]
    exact putw _ rfl (List.length_replicate ..).symm rfl
  ·obtain rfl:n=0:=by omega
   rw[List.drop_zero]
   have hr:=Nat.mod_lt (vl B9 l) hy
   have hsl:=smallF_len y l
   generalize vl B9 l%y=r at hr ⊢
   (refine kS ?_;repeat intro γ)
   refine .of ?_
   show AV.tup [AV.sl 1 _,_]=AV.tup [_,_]
   rw[endW rfl (by simp[smallF_len])]
   rfl
theorem times_ok (n y:Nat) (hn:(dg B9 n).length<2^38) (hy:y<1000000000):PureCall Tryz.prog 363 [encW n,encw y] (encW (n*y)):=by
 refine PC [] Tryz.func363 rfl (by rfl) rfl ?_
 unfold encW
 have hdy:Dig B9 [y]:=Dig.cons hy Dig.nil
 have ey:trimF [y]=dg B9 y:=by rw[trimF_eq hB9 hdy];simp[vl]
 have ly:(dg B9 y).length≤1:=dg_len_le hB9 (by simpa using hy)
 refine kW ?_
 (refine kS ?_;repeat intro γ)
 refine CallP.pure [8] _ c332 (pure_args ?_ (plain_ok [y] (by simp))) ?_
 ·exact congrArg (fun z=>[z]) (ownW (out:=[y]) (n:=1) rfl rfl)
 rw[ey]
 refine kW ?_
 (refine kS ?_;repeat intro γ)
 refine CallP.pure [] _ c178 (pure_args ?_ (Mul_ok n y (by unfold zl;simp;omega) (by unfold zl;simp;omega))) ?_
 ·have e1:encZ n=.agg [encB false,encWs (dg B9 n)]:=by rw[encZ_mk,decide_eq_false (by omega)];rfl
  have e2:encZ y=.agg [encB false,encWs (dg B9 y)]:=by rw[encZ_mk,decide_eq_false (by omega)];rfl
  rw[e1,e2];rfl
 refine kW ?_
 (refine kS ?_;repeat intro γ)
 refine .of ?_
 rw[show ((n:Int)*y).natAbs=n*y by rw[← Int.natCast_mul];rfl];rfl
def guessF (p y:List Nat):Nat:=
 if p.length<y.length then 0
 else min ((p.getD (y.length-1) 0+p.getD y.length 0*B9)/y.getD (y.length-1) 0) (B9-1)
theorem guess_lt (p y:List Nat):guessF p y<B9:=by
 unfold guessF
 split
 ·decide
 ·have:B9-1<B9:=by decide
  omega
theorem guess_ok' {p y n:Nat} (h:p<y*B9) (hn:(dg B9 y).length=n+1):p/y≤guessF (dg B9 p) (dg B9 y):=by
 unfold guessF
 split
 ·rename_i hl
  rw[Nat.div_eq_of_lt (dg_len_lt hB9 hl)];exact Nat.zero_le _
 ·rename_i hl
  have hq:p/y<B9:=Nat.div_lt_of_lt_mul h
  rw[hn] at hl ⊢
  exact Nat.le_min.2 ⟨guess_gen hB9 h hn hl,Nat.le_sub_one_of_lt hq⟩
theorem guess_ok (P Y:List Nat) (hp:P.length<2^39) (hy:Y.length<2^39) (dp:Dig B9 P) (dy:Dig B9 Y) (h0:0<Y.length) (ht:Y.getD (Y.length-1) 0≠0):PureCall Tryz.prog 364 [encWs P,encWs Y] (encw (guessF P Y)):=by
 refine PC [] Tryz.func364 rfl (by rfl) rfl ?_
 unfold guessF
 obtain ⟨n,hn⟩:∃ n,Y.length=n+1:=⟨Y.length-1,by omega⟩
 refine kW ?_
 (refine kS ?_;repeat intro γ)
 refine CondP.dec (fun h=>?_) (fun h=>?_)<;>refine kW ?_
 ·(have h2:=h;try simp only[LN] at h2)
  (refine kS ?_;repeat intro γ)
  exact .of (by rw[if_pos (by omega)];rfl)
 ·(have h2:=h;try simp only[LN] at h2)
  (refine kS ?_;repeat intro γ)
  rw[if_neg (by omega)]
  simp only[hn,Nat.add_sub_cancel] at ht ⊢
  have e1:((((Y.map encw).length:Nat):Int)-1).toNat=n:=by simp[hn]
  have h1:=g9 dp n (by omega)
  have h2:=g9 dy n (by omega)
  simp only[e1]
  (refine kR ?_;repeat intro γ)
  have h3:Y[n]=Y.getD n 0:=getD_get (by omega)
  have h4:P[n]=P.getD n 0:=getD_get (by omega)
  have e3:((Y.length:Int)-1).toNat=n:=by omega
  have hy0:0<Y[n]:=by omega
  have fin:∀ s d:Nat,s/Y[n]=d→AV.val (.int .u32 (min (d:Int) 999999999))=encw (min (s/Y.getD n 0) (B9-1)):=fun s d e=>by
   rw[← h3,e]
   show AV.val (.int .u32 (min (d:Int) 999999999))=AV.val (.int .u32 ((min d 999999999:Nat):Int))
   congr 2;omega
  refine CondP.dec (fun h=>?_) (fun h=>?_)<;>refine kW ?_
  ·have h5:=g9 dp Y.length (by omega)
   have h6:P[Y.length]=P.getD (n+1) 0:=by rw[getD_get,hn]
   (refine kR ?_;repeat intro γ)
   simp only[e3]
   (refine kR ?_;repeat intro γ)
   have hs:((P[n]:Nat):Int)+(P[Y.length]:Nat)*1000000000=((P[n]+P[Y.length]*1000000000:Nat):Int):=by omega
   have hs2:P[n]+P[Y.length]*1000000000<1000000000000000000:=by omega
   rw[← h4,← h6]
   have fin:=fin (P[n]+P[Y.length]*1000000000)
   have hd:=Nat.div_le_self (P[n]+P[Y.length]*1000000000) Y[n]
   change ∀ d,_→_=encw (min ((P[n]+P[Y.length]*B9)/_) _) at fin
   generalize encw (min ((P[n]+P[Y.length]*B9)/Y.getD n 0) (B9-1))=R at fin ⊢
   generalize P[n]+P[Y.length]*1000000000=s at hs hs2 fin hd
   simp only[hs,TN]
   generalize s/Y[n]=d at hd fin ⊢
   (refine kR ?_;repeat intro γ)
   exact .of (fin d rfl)
  ·have h6:P.getD (n+1) 0=0:=by rw[List.getD_eq_getElem?_getD,List.getElem?_eq_none (by omega)];rfl
   rw[h6,← h4,Nat.zero_mul,Nat.add_zero]
   (refine kR ?_;repeat intro γ)
   simp only[e3]
   (refine kR ?_;repeat intro γ)
   have fin:=fin P[n]
   have hd:=Nat.div_le_self P[n] Y[n]
   generalize encw (min (P[n]/Y.getD n 0) (B9-1))=R at fin ⊢
   simp only[TN]
   generalize P[n]/Y[n]=d at hd fin ⊢
   (refine kR ?_;repeat intro γ)
   exact .of (fin d rfl)
end Go.Proofs.YtlhdoekgipaihaaGreatDoor
namespace Go.Proofs.YtlhdoekgipaihaaGreatDoor
open Go Go.Fw
theorem ext_getD {α:Type} {d:α} {a b:List α} (hl:a.length=b.length) (h:∀ i,i<a.length→a.getD i d=b.getD i d):a=b:=by
 refine List.ext_getElem hl fun i h1 h2=>?_
 have:=h i h1
 simpa [List.getD_eq_getElem?_getD,h1,h2] using this
theorem getD_set {α:Type} (l:List α) (i j:Nat) (x d:α):(l.set i x).getD j d=if i=j∧j<l.length then x else l.getD j d:=by
 simp only[List.getD_eq_getElem?_getD,List.getElem?_set]
 by_cases h:i=j
 ·subst h
  by_cases h2:i<l.length<;>simp[h2]
 ·simp[h]
theorem getD_rev (l:List Nat) (k:Nat) (h:k<l.length):l.reverse.getD k 0=l.getD (l.length-1-k) 0:=by
 rw[List.getD_eq_getElem?_getD,List.getElem?_reverse h,List.getD_eq_getElem?_getD]
def Turn (l L:List Nat) (i:Nat):Prop:=L.length=l.length∧∀ k,k<l.length→L.getD k 0=if k<i∨l.length-1<k+i then l.getD (l.length-1-k) 0 else l.getD k 0
theorem Turn.step {l L:List Nat} {i:Nat} (h:Turn l L i) (hi:2*i+1<l.length):Turn l ((L.set i (L.getD (l.length-1-i) 0)).set (l.length-1-i) (L.getD i 0)) (i+1):=by
 obtain ⟨h1,h2⟩:=h
 refine ⟨by simpa using h1,fun k hk=>?_⟩
 rw[getD_set,getD_set]
 simp only[List.length_set]
 have hi1:=h2 i (by omega)
 have hj1:=h2 (l.length-1-i) (by omega)
 rw[if_neg (by omega)] at hi1 hj1
 by_cases e1:l.length-1-i=k
 ·rw[if_pos ⟨e1,by omega⟩,if_pos (by omega),hi1];congr 1;omega
 ·rw[if_neg (by omega)]
  by_cases e2:i=k
  ·rw[if_pos ⟨e2,by omega⟩,if_pos (by omega),hj1,e2]
  ·rw[if_neg (by omega),h2 k hk]
   by_cases e3:k<i∨l.length-1<k+i
   ·rw[if_pos e3,if_pos (by omega)]
   ·rw[if_neg e3,if_neg (by omega)]
theorem Turn.done {l L:List Nat} {i:Nat} (h:Turn l L i) (hi:l.length≤2*i+1):L=l.reverse:=by
 obtain ⟨h1,h2⟩:=h
 refine ext_getD (d:=0) (by simpa using h1) fun k hk=>?_
 rw[h2 k (by omega),getD_rev l k (by omega)]
 split
 ·rfl
 ·congr 1;omega
theorem reverse_ok (l:List Nat) (p:Nat) (hl:l.length<2^39):HCall Tryz.prog 365 [.own 50 p 0 l.length] (hp [(50,p,⟨329,1,l.map encw⟩)]) (fun r h=>r=.tup []∧h=hp [(50,p,⟨329,1,l.reverse.map encw⟩)]):=by
 refine hcall_cp (E:=E 0) T_ok (D_ok 0) Tryz.func365 rfl (by rfl) (Nat.le_of_ble_eq_true rfl) ?_
 refine kW ?_
 (refine kS ?_;repeat intro γ)
 refine LoopP.intro (fun n σ H=>∃ i,∃ L:List Nat,Turn l L i∧n+i=l.length+1 ∧
  σ=fr [(0,.own 50 p 0 l.length),(2,encI i),(3,encI ((l.length:Int)-1-i))]∧H=hp [(50,p,⟨329,1,L.map encw⟩)]) ?_ ?_
 ·refine .intro <| W.of ⟨l.length+1,0,l,⟨rfl,fun k hk=>by rw[if_neg (by omega)]⟩,rfl,rfl,rfl⟩ ⟨rfl,rfl,?_,trivial⟩ ⟨rfl,trivial⟩
  show AV.val (.int .i64 _)=AV.val (.int .i64 _);congr 2;omega
 ·rintro n σ H ⟨i,L,hT,hn,rfl,rfl⟩
  have hL:=hT.1
  refine kW ?_
  (refine kS ?_;repeat intro γ)
  refine CondP.dec (fun h=>?_) (fun h=>?_)<;>refine kW ?_
  ·have hstep:=hT.step (by omega)
   have e1:((l.length:Int)-1-(i:Int)).toNat=l.length-1-i:=by omega
   obtain ⟨j,hj⟩:∃ j,l.length-1-i=j:=⟨_,rfl⟩
   rw[hj] at hstep e1
   rw[← getD_get (i:=j) (by omega),← getD_get (i:=i) (by omega)] at hstep
   (refine kR ?_;repeat intro γ)
   simp only[e1]
   rw[setw _ rfl,getD_map encw _ j (by simp;omega)]
   refine kW ?_
   (refine kR ?_;repeat intro γ)
   refine .intro <| W.of ⟨n-1,by omega,i+1,_,hstep,by omega,rfl,rfl⟩ ⟨rfl,rfl,?_,trivial⟩ ⟨?_,trivial⟩
   ·show AV.val (.int .i64 _)=AV.val (.int .i64 _);congr 2;omega
   ·exact congrArg (fun z=>some (p,(⟨_,_,z⟩:Blk))) (setw _ rfl)
  ·have hd:=hT.done (by omega)
   subst hd
   (refine kS ?_;repeat intro γ)
   exact EndH.of (m:=[(50,p,⟨329,1,l.reverse.map encw⟩)]) ⟨rfl,trivial⟩ ⟨rfl,rfl⟩
end Go.Proofs.YtlhdoekgipaihaaGreatDoor
namespace Go.Proofs.YtlhdoekgipaihaaGreatDoor
open Go Go.Fw
theorem ownC {b p e n:Nat} {H:Hp} {out:List Nat} (hb:H b=some (p,⟨e,1,out.map encw⟩)) (hn:n=out.length):snapC [b] H 3 (.own b p 0 n)=encWs out:=ownW hb hn
theorem len_mul {y q:Nat} (hq:q<1000000000):(dg B9 (y*q)).length≤(dg B9 y).length+1:=dg_len_le hB9 (by
 rw[Nat.pow_succ]
 have h1:=dg_lt hB9 y
 rcases Nat.eq_zero_or_pos q with h | h
 ·rw[h];exact Nat.mul_pos (Nat.pow_pos (by decide)) (by decide)
 ·exact Nat.lt_of_lt_of_le (Nat.mul_lt_mul_of_pos_right h1 h) (Nat.mul_le_mul_left _ (Nat.le_of_lt hq)))
theorem div_step {b i A P y q Q Q' V V' D x:Nat} (h1:V=A+b ^ i*P) (h2:V+Q*y*b ^ (i+1)=x) (hD:P=D+y*q) (h3:V'=A+b ^ i*D) (h4:Q'=q+b*Q):V'+Q'*y*b ^ i=x:=by
 subst h1 h3 h4 hD
 rw[← h2,Nat.pow_succ]
 grind
theorem sliceW (R:List Nat) (k:Nat):AV.sl 1 (((R.map encw).take (R.map encw).length).drop k)=encWs (R.drop k):=by
 show AV.sl 1 _=AV.sl 1 _
 rw[List.take_length,List.map_drop]
theorem trim_encW {l:List Nat} (h:Dig B9 l):encWs (trimF l)=encW (vl B9 l):=by rw[trimF_eq hB9 h];rfl
theorem sub_encW {m n:Nat} (h:n≤m):encWs (trimF (subC B9 0 (dg B9 m) (dg B9 n)))=encW (m-n):=by
 rw[trim_encW (subC_dig hB9 _ _ _ (by omega) (dg_dig hB9 m) (dg_dig hB9 n)),subC_dg h]
theorem compare_okN (m n:Nat) (hm:(dg B9 m).length<2^62) (hn:(dg B9 n).length<2^62):PureCall Tryz.prog 274 [encW m,encW n] (encI (cmpW (dg B9 m) (dg B9 n))):=compare_ok _ _ hm hn (dg_dig hB9 m) (dg_dig hB9 n)
theorem less_okN (m n:Nat) (hm:(dg B9 m).length<2^40) (h:n≤m):PureCall Tryz.prog 275 [encW m,encW n] (encWs (subC B9 0 (dg B9 m) (dg B9 n))):=less_ok _ _ hm (dg_mono hB9 h) (dg_dig hB9 m) (dg_dig hB9 n)
theorem divide_ok (a b n:Nat) (ha:(dg B9 a).length<2^37) (hb:(dg B9 b).length=n+1) (hle:b≤a):PureCall Tryz.prog 335 [encW a,encW b] (.tup [encW (a/b),encW (a%b)]):=by
 refine PC [] Tryz.func335 rfl (by rfl) rfl ?_
 have hlab:=dg_mono hB9 hle
 have hb0:0<b:=by
  rcases Nat.eq_zero_or_pos b with h | h
  ·rw[h,dg_zero] at hb;simp at hb
  ·exact h
 have htop:=g9 (dg_dig hB9 b) n (by omega)
 have htn:(dg B9 b)[n]≠0:=by rw[getD_get (by omega)];exact top_ne hB9 hb
 obtain ⟨f,hf⟩:∃ f,1000000000/((dg B9 b)[n]+1)=f:=⟨_,rfl⟩
 have hf0:0<f:=by rw[← hf];exact Nat.div_pos (by omega) (by omega)
 have hf1:f<1000000000:=by rw[← hf];exact Nat.div_lt_of_lt_mul (by omega)
 have e1:((((dg B9 b).map encw).length:Int)-1).toNat=n:=by simp[hb]
 have e2:Int.tdiv 1000000000 (((dg B9 b)[n]:Nat)+1)=(f:Int):=by rw[← hf];rfl
 have hy0:0<b*f:=Nat.mul_pos hb0 hf0
 have hyx:b*f≤a*f:=Nat.mul_le_mul_right _ hle
 have lx:(dg B9 (a*f)).length≤(dg B9 a).length+1:=dg_len_le hB9 (by
  rw[Nat.pow_succ]
  exact Nat.lt_of_lt_of_le (Nat.mul_lt_mul_of_pos_right (dg_lt hB9 a) hf0) (Nat.mul_le_mul_left _ (Nat.le_of_lt hf1)))
 have lyx:=dg_mono hB9 hyx
 have hyn:0<(dg B9 (b*f)).length:=by
  rcases Nat.eq_zero_or_pos (dg B9 (b*f)).length with h | h
  ·have:=(dg_nil hB9 _).1 (List.length_eq_zero_iff.1 h);omega
  ·exact h
 unfold encW
 refine kW ?_
 (refine kS ?_;repeat intro γ)
 simp only[e1]
 (refine kR ?_;repeat intro γ)
 simp only[e2]
 (refine kR ?_;repeat intro γ)
 refine CallP.pure [] _ c363 (times_ok a f (by omega) hf1) ?_
 refine kW ?_
 (refine kS ?_;repeat intro γ)
 refine CallP.pure [] _ c363 (times_ok b f (by omega) hf1) ?_
 generalize hyy:b*f=y at *
 generalize hxx:a*f=x at *
 unfold encW
 refine kW ?_
 (refine kS ?_;repeat intro γ)
 refine CallP.frame 1000000 [(5,36)] rfl c333 (cloneW_ok (dg B9 x) (by omega)) rfl trivial ?_
 rintro r0 h' ⟨δ,rfl,rfl⟩
 refine ⟨[(36,δ,⟨329,1,(dg B9 x).map encw⟩)],⟨mvB_flats encw _ (fun _=>rfl) ..,trivial⟩,?_⟩
 refine kW ?_
 (refine kS ?_;repeat intro γ)
 have vx:=vl_dg hB9 x
 have vy:=vl_dg hB9 y
 refine LoopP.intro (fun m σ H=>∃ g i,∃ R qs:List Nat,m=i∧i≤R.length∧R.length<2^38∧qs.length<2^38-i∧Dig B9 R∧Dig B9 qs∧vl B9 (R.drop i)<y∧vl B9 R+vl B9 qs.reverse*y*B9 ^ i=x ∧
  σ=fr [(6,encw f),(7,encWs R),(8,encW y),(10,.own 100 g 0 qs.length),(11,encI ((i:Int)-1))]∧H=hp [(100,g,⟨329,1,qs.map encw⟩)]) ?_ ?_
 ·have dz:Dig B9 (dg B9 x++[0]):=(dg_dig hB9 x).app (Dig.cons (by decide) Dig.nil)
  have lz:(dg B9 x++[0]).length=(dg B9 x).length+1:=by simp
  have hz:vl B9 ((dg B9 x++[0]).drop ((dg B9 x).length+2-(dg B9 y).length))<y:=by
   refine Nat.lt_of_lt_of_le (vl_lt (dz.drop _)) ?_
   rw[List.length_drop,lz]
   refine Nat.le_trans (Nat.pow_le_pow_right (by decide) ?_) (dg_ge hB9 y hy0)
   omega
  have vz:vl B9 (dg B9 x++[0])=x:=by rw[vl_app,vx];simp[vl]
  refine .intro (W.frx 7 36 (x:=.own 36 γ 0 ((dg B9 x).length+1)) (y:=encWs (dg B9 x++[0])) rfl (ownC (p:=γ) (e:=329) ?_ lz.symm) (W.mat 10 100 329 1 rfl rfl fun g=>W.of ⟨_,g,(dg B9 x).length+2-(dg B9 y).length,dg B9 x++[0],[],rfl,by omega,by omega,by simp;omega,dz,Dig.nil,hz,by rw[vz];simp[vl],rfl,rfl⟩ ⟨rfl,rfl,rfl,rfl,?_,trivial⟩ ⟨rfl,trivial⟩))
  ·show some (_,(⟨_,_,_++_⟩:Blk))=_
   simp;rfl
  ·show AV.val (.int .i64 _)=AV.val (.int .i64 _)
   congr 2
   simp;omega
 ·rintro m σ H ⟨g,i,R,qs,rfl,hi,hR,hq,dR,dq,hlt,hv,rfl,rfl⟩
  refine kW ?_
  (refine kS ?_;repeat intro γ)
  refine CondP.dec (fun h=>?_) (fun h=>?_)<;>refine kW ?_
  ·obtain ⟨i,rfl⟩:∃ k,m=k+1:=⟨m-1,by omega⟩
   have e3:(((i+1:Nat):Int)-1)=i:=by omega
   simp only[e3]
   have hP:vl B9 (R.drop i)=R[i]'(by omega)+B9*vl B9 (R.drop (i+1)):=vl_drop R i (by omega)
   have hRi:=g9 dR i (by omega)
   have hPy:vl B9 (R.drop i)<y*B9:=by
    rw[hP,Nat.mul_comm y]
    have:=Nat.mul_le_mul_left B9 (show vl B9 (R.drop (i+1))+1≤y from hlt)
    rw[Nat.mul_add] at this
    have:R[i]'(by omega)<B9:=hRi
    omega
   have hsp:=vl_split B9 R i (by omega)
   have dP:=dR.drop i
   have lP:=dg_len hB9 dP
   rw[List.length_drop] at lP
   have lPl:(R.drop i).length<2^62:=by rw[List.length_drop];omega
   (refine kS ?_;repeat intro γ)
   refine CallP.pure [] _ c332 (pure_args ?_ (plain_ok (R.drop i) lPl)) ?_
   ·exact congrArg (fun z=>[z]) (sliceW R i)
   rw[trim_encW dP]
   generalize hPe:vl B9 (R.drop i)=P at hPy hP lP hsp
   unfold encW
   obtain ⟨k,hk⟩:∃ k,(dg B9 y).length=k+1:=⟨(dg B9 y).length-1,by omega⟩
   have hg0:=guess_ok' hPy hk
   have hg1:guessF (dg B9 P) (dg B9 y)<1000000000:=guess_lt _ _
   refine kW ?_
   (refine kS ?_;repeat intro γ)
   refine CallP.flat [] _ c364 (guess_ok (dg B9 P) (dg B9 y) (by omega) (by omega) (dg_dig hB9 P) (dg_dig hB9 y) hyn (by rw[hk];exact top_ne hB9 hk)) rfl ?_
   generalize guessF (dg B9 P) (dg B9 y)=q at hg0 hg1
   refine kW ?_
   (refine kS ?_;repeat intro γ)
   refine CallP.pure [] _ c363 (times_ok y q (by omega) hg1) ?_
   unfold encW
   refine kW ?_
   (refine kS ?_;repeat intro γ)
   refine LoopP.intro (fun m σ H=>∃ q,m=q∧P/y≤q∧q<1000000000 ∧
    σ=fr [(6,encw f),(7,encWs R),(8,encW y),(10,.own 100 g 0 qs.length),(11,encI i),(12,encW P),(13,encw q),(14,encW (y*q))]∧H=hp [(100,g,⟨329,1,qs.map encw⟩)]) ?_ ?_
   ·exact .intro <| W.of ⟨_,q,rfl,hg0,hg1,rfl,rfl⟩ ⟨rfl,rfl,rfl,rfl,rfl,rfl,rfl,rfl,trivial⟩ ⟨rfl,trivial⟩
   ·clear hg0 hg1 q
    rintro q σ H ⟨_,rfl,hg0,hg1,rfl,rfl⟩
    have lq:=len_mul (y:=y) hg1
    have hc:=(cmpW_dg hB9 (y*q) P).1
    unfold encW
    refine kW ?_
    (refine kS ?_;repeat intro γ)
    refine CallP.flat [] _ c274 (compare_okN (y*q) P (by omega) (by omega)) rfl ?_
    refine kW ?_
    (refine kS ?_;repeat intro γ)
    refine CondP.dec (fun h=>?_) (fun h=>?_)<;>refine kW ?_
    ·have hlt2:P<y*q:=hc.1 h
     have hq1:P/y<q:=by rw[Nat.div_lt_iff_lt_mul hy0,Nat.mul_comm];exact hlt2
     have hq2:0<q:=Nat.lt_of_le_of_lt (Nat.zero_le _) hq1
     have hyq:y≤y*q:=Nat.le_mul_of_pos_right _ hq2
     have esub:y*q-y=y*(q-1):=by rw[Nat.mul_sub,Nat.mul_one]
     (refine kS ?_;repeat intro γ)
     refine CallP.pure [] _ c275 (less_okN (y*q) y (by omega) hyq) ?_
     refine kW ?_
     (refine kS ?_;repeat intro γ)
     refine CallP.pure [] _ c332 (plain_ok _ (by rw[subC_len];omega)) ?_
     rw[sub_encW hyq,esub]
     unfold encW
     refine kW ?_
     (refine kS ?_;repeat intro γ)
     refine .intro <| W.of ⟨q-1,by omega,q-1,rfl,by omega,by omega,rfl,rfl⟩ ⟨rfl,rfl,rfl,rfl,rfl,rfl,?_,rfl,trivial⟩ ⟨rfl,trivial⟩
     show AV.val (.int .u32 _)=AV.val (.int .u32 _)
     congr 2;omega
    ·have hle2:y*q≤P:=Nat.le_of_not_lt fun h'=>h (hc.2 h')
     have hqe:q=P/y:=Nat.le_antisymm ((Nat.le_div_iff_mul_le hy0).2 (by rw[Nat.mul_comm];exact hle2)) hg0
     have hD:P=(P-y*q)+y*q:=by omega
     have hmod:P-y*q<y:=by
      have:=Nat.mod_lt P hy0
      have h2:=Nat.mod_add_div P y
      rw[← hqe] at h2
      omega
     have hvS:=subC_dg hle2
     have hdS:Dig B9 (subC B9 0 (dg B9 P) (dg B9 (y*q))):=subC_dig hB9 _ _ _ (by omega) (dg_dig hB9 _) (dg_dig hB9 _)
     have hlS:=subC_len B9 (dg B9 P) (dg B9 (y*q)) 0
     (refine kS ?_;repeat intro γ)
     refine CallG.intro _ c275 (less_okN P (y*q) (by omega) hle2) ?_
     unfold encWs
     generalize subC B9 0 (dg B9 P) (dg B9 (y*q))=S at hvS hdS hlS
     refine kW ?_
     (refine kS ?_;repeat intro γ)
     refine Need.intro (VL.map (fun n:Nat=>Value.int .u32 n) _) ?_
     refine kW ?_
     (refine kS ?_;repeat intro γ)
     have hti:(R.take i).length=i:=by rw[List.length_take];omega
     refine .intro <| W.of ⟨i,by omega,_,i,R.take i++S,qs++[q],rfl,by simp;omega,by simp;omega,by simp;omega,(dR.take i).app hdS,dq.app (Dig.cons hg1 Dig.nil),?_,?_,rfl,rfl⟩ ⟨rfl,?_,rfl,by simp;rfl,rfl,trivial⟩ ⟨?_,trivial⟩
     ·rw[List.drop_left' hti,hvS];exact hmod
     ·refine div_step hsp hv hD (by rw[vl_app,hti,hvS]) (by rw[List.reverse_append];rfl)
     ·show AV.sl 1 _=AV.sl 1 _
      rw[List.map_append,List.map_take,Int.toNat_natCast]
     ·show some (_,(⟨_,_,_++_⟩:Blk))=_
      simp;rfl
  ·obtain rfl:m=0:=by omega
   rw[List.drop_zero] at hlt
   rw[Nat.pow_zero,Nat.mul_one] at hv
   have hqx:vl B9 qs.reverse=a/b:=by
    have:vl B9 qs.reverse=x/y:=by rw[← hv,Nat.add_mul_div_right _ _ hy0,Nat.div_eq_of_lt hlt,Nat.zero_add]
    rw[this,← hxx,← hyy,Nat.mul_div_mul_right _ _ hf0]
   have hrx:vl B9 R=(a%b)*f:=by
    have:vl B9 R=x%y:=by rw[← hv,Nat.add_mul_mod_self_right,Nat.mod_eq_of_lt hlt]
    rw[this,← hxx,← hyy,Nat.mul_mod_mul_right]
   (refine kS ?_;repeat intro γ)
   refine CallP.frame 1000000 [(50,100)] rfl c365 (reverse_ok qs g (by omega)) rfl ⟨mvB_flats encw _ (fun _=>rfl) ..,trivial⟩ ?_
   rintro r0 h' ⟨rfl,rfl⟩
   refine ⟨[(100,g,⟨329,1,qs.reverse.map encw⟩)],⟨mvB_flats encw _ (fun _=>rfl) ..,trivial⟩,?_⟩
   have dq':Dig B9 qs.reverse:=fun z hz=>dq z (List.mem_reverse.1 hz)
   refine kW ?_
   (refine kS ?_;repeat intro γ)
   refine CallP.pure [] _ c332 (plain_ok R (by omega)) ?_
   rw[trim_encW dR,hrx]
   have lr:=dg_len hB9 dR
   rw[hrx] at lr
   unfold encW
   refine kW ?_
   (refine kS ?_;repeat intro γ)
   refine CallP.pure [] _ c334 (small_ok (dg B9 (a%b*f)) f (by omega) (dg_dig hB9 _) hf0 hf1) ?_
   obtain ⟨v1,d1⟩:=smallF_ok hf0 (dg_dig hB9 (a%b*f))
   rw[vl_dg hB9,Nat.mul_div_cancel _ hf0] at v1
   have ls:=smallF_len f (dg B9 (a%b*f))
   generalize smallF f (dg B9 (a%b*f))=S at v1 d1 ls
   refine kW ?_
   (refine kS ?_;repeat intro γ)
   refine CallP.pure [100] _ c332 (pure_args ?_ (plain_ok qs.reverse (by simp;omega))) ?_
   ·exact congrArg (fun z=>[z]) (ownW rfl (by simp))
   rw[trim_encW dq',hqx]
   refine kW ?_
   (refine kS ?_;repeat intro γ)
   refine CallP.pure [] _ c332 (plain_ok S (by omega)) ?_
   rw[trim_encW d1,v1]
   refine kW ?_
   (refine kS ?_;repeat intro γ)
   exact .of rfl
end Go.Proofs.YtlhdoekgipaihaaGreatDoor
