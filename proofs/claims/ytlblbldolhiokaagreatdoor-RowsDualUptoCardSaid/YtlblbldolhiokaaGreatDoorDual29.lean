/- Part 29 of the proof. -/
import Derived.Test.YtlblbldolhiokaaGreatDoorDual28
set_option linter.unusedVariables false
set_option linter.unusedSimpArgs false
set_option linter.unusedSectionVars false
set_option maxRecDepth 100000
set_option exponentiation.threshold 400
set_option maxHeartbeats 8000000
namespace Go.Fw
open Go.RowKit
section
variable {P:Program} {T:Nat→Option TD} {H H':Hp}
theorem evLoad.out {t:Nat}{p:AV}{C:AV→Prop}(h:evLoad T H t p C):∃ v,C v∧evLoad T H t p (· = v):=by
 unfold evLoad at h ⊢;split at h
 ·obtain ⟨d,h1,h2,h3⟩:=h;exact ⟨_,h3,d,h1,h2,rfl⟩
 ·obtain ⟨d,h1,B,h2,h3,h4,h5⟩:=h;exact ⟨_,h5,d,h1,B,h2,h3,h4,rfl⟩
 ·exact h.elim
theorem fieldOf.out {s f:Nat}{C:Nat→TD→Prop}(h:fieldOf T s f C):∃ a b,C a b∧∀ C':Nat→TD→Prop,C' a b→fieldOf T s f C':=by
 obtain ⟨d,hd,fs,hk,p,hp,fd,hfd,h⟩:=h;exact ⟨_,_,h,fun C' h'=>⟨d,hd,fs,hk,p,hp,fd,hfd,h'⟩⟩
theorem evFieldAddr.out {s f:Nat}{p:AV}{C:AV→Prop}(h:evFieldAddr T s p f C):∃ v,C v∧evFieldAddr T s p f (· = v):=by
 unfold evFieldAddr at h ⊢;split at h
 ·obtain ⟨a,b,h1,h2⟩:=h.out;exact ⟨_,h1,h2 _ rfl⟩
 ·obtain ⟨a,b,h1,h2⟩:=h.out;exact ⟨_,h1,h2 _ rfl⟩
 ·exact h.elim
theorem evField.out {s f:Nat}{p:AV}{C:AV→Prop}(h:evField T s p f C):∃ v,C v∧evField T s p f (· = v):=by
 unfold evField at h ⊢;split at h
 ·obtain ⟨a,b,h1,h2⟩:=h.out;exact ⟨_,h1.2,h2 _ ⟨h1.1,rfl⟩⟩
 ·exact h.elim
theorem elemOfT.out {t:Nat}{C:TD→Prop}(h:elemOfT T t C):∃ b,C b∧∀ C':TD→Prop,C' b→elemOfT T t C':=by
 obtain ⟨d,hd,e,hk,ed,hed,h⟩:=h;exact ⟨_,h,fun C' h'=>⟨d,hd,e,hk,ed,hed,h'⟩⟩
theorem elemT.out {t:Nat}{C:Nat→TD→Prop}(h:elemT T t C):∃ a b,C a b∧∀ C':Nat→TD→Prop,C' a b→elemT T t C':=by
 obtain ⟨d,hd,e,hk,ed,hed,hn,h⟩:=h;exact ⟨_,_,h,fun C' h'=>⟨d,hd,e,hk,ed,hed,hn,h'⟩⟩
theorem arrOfT.out {t:Nat}{C:Nat→TD→Prop}(h:arrOfT T t C):∃ a b,C a b∧∀ C':Nat→TD→Prop,C' a b→arrOfT T t C':=by
 obtain ⟨d,hd,n,e,hk,ed,hed,h⟩:=h;exact ⟨_,_,h,fun C' h'=>⟨d,hd,n,e,hk,ed,hed,h'⟩⟩
theorem evIndexAddr.out {t:Nat}{x ix:AV}{C:AV→Prop}(h:evIndexAddr T H t x ix C):∃ v,C v∧evIndexAddr T H t x ix (· = v):=by
 unfold evIndexAddr at h ⊢;split at h
 ·obtain ⟨b,⟨h1,h2,h3,h4⟩,k⟩:=elemOfT.out h;exact ⟨_,h4,k _ ⟨h1,h2,h3,rfl⟩⟩
 ·obtain ⟨b,⟨B,h1,h2,h3,h4,h5⟩,k⟩:=elemOfT.out h;exact ⟨_,h5,k _ ⟨B,h1,h2,h3,h4,rfl⟩⟩
 ·obtain ⟨a,b,⟨h1,h2,h3⟩,k⟩:=arrOfT.out h;exact ⟨_,h3,k _ ⟨h1,h2,rfl⟩⟩
 ·obtain ⟨a,b,⟨h1,h2,h3⟩,k⟩:=arrOfT.out h;exact ⟨_,h3,k _ ⟨h1,h2,rfl⟩⟩
 ·exact h.elim
theorem evIndex.out {t:Nat}{x ix:AV}{C:AV→Prop}(h:evIndex T t x ix C):∃ v,C v∧evIndex T t x ix (· = v):=by
 unfold evIndex at h ⊢;split at h
 ·obtain ⟨h1,h2,h3,h4⟩:=h;exact ⟨_,h4,h1,h2,h3,rfl⟩
 ·obtain ⟨a,b,⟨h1,h2,h3,h4⟩,k⟩:=arrOfT.out h;exact ⟨_,h4,k _ ⟨h1,h2,h3,rfl⟩⟩
 ·exact h.elim
theorem evExtract.out {x:AV}{i:Nat}{C:AV→Prop}(h:evExtract x i C):∃ v,C v∧evExtract x i (· = v):=by
 unfold evExtract at h ⊢;split at h
 ·exact ⟨_,h.2,h.1,rfl⟩
 ·exact h.elim
theorem binI.out {op:BinOp}{k:IntKind}{a b:Int}{C:Value→Prop}(h:binI op k a b C):∃ v,C v∧∀ C':Value→Prop,C' v→binI op k a b C':=by
 unfold binI at h ⊢
 split at h<;>first
  |exact h.elim
  |exact ⟨_,h,fun _ h'=>h'⟩
  |exact ⟨_,h.2,fun _ h'=>⟨h.1,h'⟩⟩
theorem binS.out {op:BinOp}{a b:ByteArray}{C:Value→Prop}(h:binS op a b C):∃ v,C v∧∀ C':Value→Prop,C' v→binS op a b C':=by
 unfold binS at h ⊢
 split at h<;>first
  |exact h.elim
  |exact ⟨_,h,fun _ h'=>h'⟩
  |exact ⟨_,h.2,fun _ h'=>⟨h.1,h'⟩⟩
theorem evEq.out {t:Nat}{x y:AV}{C:Bool→Prop}(h:evEq P T t x y C):(∃ v,C v∧∀ C':Bool→Prop,C' v→evEq P T t x y C')∨(C true∧C false∧∀ C':Bool→Prop,C' true→C' false→evEq P T t x y C'):=by
 obtain ⟨d,hd,h⟩:=h;split at h
 ·exact .inl ⟨_,h.2,fun C' h'=>⟨d,hd,h.1,h'⟩⟩
 ·obtain ⟨hg,h⟩:=h
  rcases h with ⟨fs,hk,hs,hn,ks,hks,b,hb,hC⟩|⟨e,hk,ed,hed,hs1,ha,x0,x1,y0,y1,rfl,rfl,b,hb,hC⟩|⟨b,hb,hC⟩
  ·exact .inl ⟨_,hC,fun C' h'=>⟨d,hd,hg,.inl ⟨fs,hk,hs,hn,ks,hks,b,hb,h'⟩⟩⟩
  ·exact .inl ⟨_,hC,fun C' h'=>⟨d,hd,hg,.inr (.inl ⟨e,hk,ed,hed,hs1,ha,x0,x1,y0,y1,rfl,rfl,b,hb,h'⟩)⟩⟩
  ·exact .inl ⟨_,hC,fun C' h'=>⟨d,hd,hg,.inr (.inr ⟨b,hb,h'⟩)⟩⟩
 ·exact .inl ⟨_,h.2,fun C' h'=>⟨d,hd,h.1,h'⟩⟩
 ·exact .inl ⟨_,h.2,fun C' h'=>⟨d,hd,h.1,h'⟩⟩
 ·exact .inl ⟨_,h.2,fun C' h'=>⟨d,hd,h.1,h'⟩⟩
 ·exact .inl ⟨_,h.2,fun C' h'=>⟨d,hd,h.1,h'⟩⟩
 ·exact .inl ⟨_,h.2,fun C' h'=>⟨d,hd,h.1,h'⟩⟩
 ·exact .inl ⟨_,h.2,fun C' h'=>⟨d,hd,h.1,h'⟩⟩
 ·obtain ⟨h1,h2,h3⟩:=h
  rcases h2 with h2|h2
  ·exact .inl ⟨_,h3,fun C' h'=>⟨d,hd,h1,.inl h2,h'⟩⟩
  ·exact .inr ⟨h2,h3,fun C' h' h''=>⟨d,hd,h1,.inr h',h''⟩⟩
 ·obtain ⟨h1,h2,h3⟩:=h
  rcases h2 with h2|h2
  ·exact .inl ⟨_,h3,fun C' h'=>⟨d,hd,h1,.inl h2,h'⟩⟩
  ·exact .inr ⟨h2,h3,fun C' h' h''=>⟨d,hd,h1,.inr h',h''⟩⟩
 ·exact h.elim
theorem bnds.out {len:Nat}{lo hi:Option AV}{C:Nat→Nat→Prop}(h:bnds len lo hi C):∃ a b,C a b∧∀ C':Nat→Nat→Prop,C' a b→bnds len lo hi C':=by
 obtain ⟨h1,h2,h3,h4⟩:=h;exact ⟨_,_,h4,fun C' h'=>⟨h1,h2,h3,h'⟩⟩
theorem evSlice.out {t:Nat}{x:AV}{lo hi mx:Option AV}{C:AV→Prop}(h:evSlice T t x lo hi mx C):∃ v,C v∧evSlice T t x lo hi mx (· = v):=by
 obtain ⟨hm,h⟩:=h;split at h
 ·obtain ⟨a,b,h1,h2⟩:=h.2.out;exact ⟨_,h1,hm,h.1,h2 _ rfl⟩
 ·obtain ⟨c,⟨h0,h⟩,k⟩:=elemOfT.out h;obtain ⟨a,b,h1,h2⟩:=h.out;exact ⟨_,h1,hm,k _ ⟨h0,h2 _ rfl⟩⟩
 ·obtain ⟨c,h,k⟩:=elemOfT.out h;obtain ⟨a,b,h1,h2⟩:=h.out;exact ⟨_,h1,hm,k _ (h2 _ rfl)⟩
 ·exact h.elim
theorem evSliceF.out {P:Program}{t:Nat}{x:AV}{lo hi mx:Option AV}{C:AV→Prop}(h:evSliceF P T t x lo hi mx C):∃ v,C v∧evSliceF P T t x lo hi mx (· = v):=by
 unfold evSliceF at h ⊢;split at h
 ·obtain ⟨c,⟨h1,h2,h3,h4,h5⟩,k⟩:=elemOfT.out h;exact ⟨_,h5,k _ ⟨h1,h2,h3,h4,rfl⟩⟩
 ·exact ⟨_,h.2,h.1,rfl⟩
 ·exact h.elim
theorem evSliceA.out {P:Program}{t:Nat}{x:AV}{lo hi mx:Option AV}{C:AV→Prop}(h:evSliceA P T H t x lo hi mx C):∃ v,C v∧evSliceA P T H t x lo hi mx (· = v):=by
 unfold evSliceA at h ⊢;split at h
 ·obtain ⟨hm,h⟩:=h;obtain ⟨c,⟨B,h1,h2,h3⟩,k⟩:=elemOfT.out h;obtain ⟨a,b,⟨h4,h5⟩,k2⟩:=h3.out;exact ⟨_,h5,hm,k _ ⟨B,h1,h2,k2 _ ⟨h4,rfl⟩⟩⟩
 ·rename_i hx
  rcases h with h|h
  ·obtain ⟨v,h1,h2⟩:=evSlice.out h;refine ⟨v,h1,?_⟩
   cases x<;>first|exact .inl h2|exact (hx _ _ _ _ rfl).elim
  ·obtain ⟨v,h1,h2⟩:=evSliceF.out h;refine ⟨v,h1,?_⟩
   cases x<;>first|exact .inr h2|exact (hx _ _ _ _ rfl).elim
theorem evMM.out {b:Bool}{l:List AV}{C:AV→Prop}(h:evMM b l C):∃ v,C v∧evMM b l (· = v):=by
 unfold evMM at h ⊢;split at h
 ·obtain ⟨z,h1,h2⟩:=h;exact ⟨_,h2,z,h1,rfl⟩
 ·exact h.elim
theorem evLen.out {t:Nat}{x:AV}{C:AV→Prop}(h:evLen T t x C):∃ v,C v∧evLen T t x (· = v):=by
 obtain ⟨d,hd,h⟩:=h
 split at h<;>first
  |exact ⟨_,h.2,d,hd,h.1,rfl⟩
  |exact h.elim
theorem evUn.out {op:UnOp}{x:AV}{C:AV→Prop}(h:evUn op x C):∃ v,C v∧evUn op x (· = v):=by
 unfold evUn at h ⊢
 split at h<;>first
  |exact ⟨_,h,rfl⟩
  |exact h.elim
theorem evConv.out {s t:Nat}{x:AV}{C:AV→Prop}(h:evConv T s t x C):∃ v,C v∧evConv T s t x (· = v):=by
 obtain ⟨d,e,hd,he,h⟩:=h;split at h
 ·obtain ⟨j,h1,h3⟩:=h;split at h3
  ·rename_i hk;exact ⟨_,h3,d,e,hd,he,j,h1,by simp only[hk]⟩
  ·rename_i hk;exact ⟨_,h3,d,e,hd,he,j,h1,by simp only[hk]⟩
  ·exact h3.elim
 ·obtain ⟨h1,h2,h3⟩:=h;exact ⟨_,h3,d,e,hd,he,h1,h2,rfl⟩
 ·obtain ⟨h1,h2,l,h3,h4⟩:=h;exact ⟨_,h4,d,e,hd,he,h1,h2,⟨l,h3,rfl⟩⟩
 ·exact h.elim
theorem evBuild.out {t:Nat}{ps:List (Nat×AV)}{C:AV→Prop}(h:evBuild T t ps C):∃ v,C v∧evBuild T t ps (· = v):=by
 obtain ⟨d,hd,h⟩:=h;split at h
 ·rename_i hk;obtain ⟨p,h1,cs,h2,h3⟩:=h;refine ⟨_,h3,d,hd,?_⟩;simp only[hk];exact ⟨p,h1,cs,h2,rfl⟩
 ·rename_i hk;obtain ⟨p,h1,cs,h2,h3⟩:=h;refine ⟨_,h3,d,hd,?_⟩;simp only[hk];exact ⟨p,h1,cs,h2,rfl⟩
 ·exact h.elim
theorem evMake.out {t d γ:Nat}{l c:AV}{C:AV→Up→Prop}(h:evMake T t d γ l c C):∃ v u,C v u∧evMake T t d γ l c (fun v' u'=>v'=v∧u'=u):=by
 unfold evMake at h ⊢;split at h
 ·obtain ⟨a,b,⟨h1,h2,h3,h4,h5⟩,k⟩:=elemT.out h;exact ⟨_,_,h5,k _ ⟨h1,h2,h3,h4,rfl,rfl⟩⟩
 ·exact h.elim
theorem evBuildSlice.out {t d γ len:Nat}{l:List (Nat×AV)}{C:AV→Up→Prop}(h:evBuildSlice T t d γ len l C):∃ v u,C v u∧evBuildSlice T t d γ len l (fun v' u'=>v'=v∧u'=u):=by
 obtain ⟨a,b,⟨h1,h2,h3,h4,h5⟩,k⟩:=elemT.out h;exact ⟨_,_,h5,k _ ⟨h1,h2,h3,h4,rfl,rfl⟩⟩
theorem evStore.out {t:Nat}{p x:AV}{C:Up→Prop}(h:evStore T H t p x C):∃ u,C u∧evStore T H t p x (· = u):=by
 unfold evStore at h ⊢;split at h
 ·obtain ⟨d,h1,h2,h3,B,h4,h5,h6,h7,h8⟩:=h;exact ⟨_,h8,d,h1,h2,h3,B,h4,h5,h6,h7,rfl⟩
 ·exact h.elim
theorem srcOf.out {n:Nat}{y:AV}{C:List AV→Prop}(h:srcOf H n y C):∃ l,C l∧∀ C':List AV→Prop,C' l→srcOf H n y C':=by
 unfold srcOf at h ⊢;split at h
 ·exact ⟨_,h.2,fun _ h'=>⟨h.1,h'⟩⟩
 ·obtain ⟨B,h1,h2,h3,h4⟩:=h;exact ⟨_,h4,fun _ h'=>⟨B,h1,h2,h3,h'⟩⟩
 ·exact ⟨_,h,fun _ h'=>h'⟩
 ·exact h.elim
theorem evCopy.out {t:Nat}{x y:AV}{C:AV→Up→Prop}(h:evCopy T H t x y C):∃ v u,C v u∧evCopy T H t x y (fun v' u'=>v'=v∧u'=u):=by
 unfold evCopy at h ⊢;split at h
 ·rename_i b g off len;obtain ⟨c,d,⟨h1,B,h2,h3,h5,h6⟩,k⟩:=elemT.out h;obtain ⟨l,⟨h7,h8⟩,k2⟩:=h6.out
  by_cases hm:0<min l.length len
  ·exact ⟨_,_,h7 hm,k _ ⟨h1,B,h2,h3,h5,k2 _ ⟨fun _=>⟨rfl,rfl⟩,fun q=>absurd hm q⟩⟩⟩
  ·exact ⟨_,_,h8 hm,k _ ⟨h1,B,h2,h3,h5,k2 _ ⟨fun q=>absurd q hm,fun _=>⟨rfl,rfl⟩⟩⟩⟩
 ·exact h.elim
theorem evAppend.out {t d γ:Nat}{x y:AV}{C:AV→Up→Prop}(h:evAppend T H t d γ x y C):∃ v u,C v u∧evAppend T H t d γ x y (fun v' u'=>v'=v∧u'=u):=by
 unfold evAppend at h ⊢;obtain ⟨a,b,h,k⟩:=elemT.out h;obtain ⟨ys,h,k2⟩:=h.out;split at h
 ·obtain ⟨B,h1,h2,h3,h4,h5,h6,h7⟩:=h;exact ⟨_,_,h7,k _ (k2 _ ⟨B,h1,h2,h3,h4,h5,h6,rfl,rfl⟩)⟩
 ·obtain ⟨h1,h2,h3⟩:=h;exact ⟨_,_,h3,k _ (k2 _ ⟨h1,h2,rfl,rfl⟩)⟩
 ·obtain ⟨h1,h2,h3,h4,h5⟩:=h;exact ⟨_,_,h5,k _ (k2 _ ⟨h1,h2,h3,h4,rfl,rfl⟩)⟩
 ·exact h.elim
theorem evLookup.out {t:Nat}{x k:AV}{ok:Bool}{C:AV→Prop}(h:evLookup P T H t x k ok C):∃ v,C v∧evLookup P T H t x k ok (· = v):=by
 obtain ⟨d,hd,kt,et,hk,ed,hed,hz,hs,h0,h⟩:=h
 have key:∃ v,C v∧J7k H x fun ks vs=>∃ r,J10 (J0h T kt k) ks=some r∧JCw ok r vs ed=v:=by
  unfold J7k at h ⊢;split at h
  ·obtain ⟨r,h1,h2⟩:=h;exact ⟨_,h2,r,h1,rfl⟩
  ·obtain ⟨B,ks,vs,hB,hx,r,h1,h2⟩:=h;exact ⟨_,h2,B,ks,vs,hB,hx,r,h1,rfl⟩
  ·obtain ⟨r,h1,h2⟩:=h;exact ⟨_,h2,r,h1,rfl⟩
  ·exact h.elim
 obtain ⟨v,h1,h2⟩:=key;exact ⟨v,h1,d,hd,kt,et,hk,ed,hed,hz,hs,h0,h2⟩
theorem evLookup.local {t:Nat}{x k:AV}{ok:Bool}{C:AV→Prop}(hH:∀ b,b∈nm x→H b=H' b)(h:evLookup P T H t x k ok C):evLookup P T H' t x k ok C:=by
 obtain ⟨d,hd,kt,et,hk,ed,hed,hz,hs,h0,h⟩:=h;refine ⟨d,hd,kt,et,hk,ed,hed,hz,hs,h0,?_⟩;unfold J7k at h ⊢;split at h
 ·exact h
 ·rw[← hH _ (by simp[nm])];exact h
 ·exact h
 ·exact h.elim
theorem evG.out {E:En}{γ:Nat}{ρ:Operand→AV}{H:Hp}{o:Oper}{C:AV→Up→Prop}(h:evG E γ ρ H o C):∃ v up,C v up∧evG E γ ρ H o (fun v' up'=>v'=v∧up'=up):=by
 have lift:∀ {ev:(AV→Prop)→Prop},(∃ v,C v none∧ev (· = v))→(∀ v,ev (· = v)→ev (fun v'=>v'=v∧(none:Up)=none))→∃ v up,C v up∧ev (fun v'=>v'=v∧(none:Up)=up):=by
  rintro ev ⟨v,h1,h2⟩ hm;exact ⟨v,none,h1,hm v h2⟩
 have eqn:∀ v:AV,(fun v'=>v'=v∧(none:Up)=none)=(· = v):=fun v=>by funext v';simp
 obtain ⟨dst,op,ty,pos,after,guard⟩:=o;unfold evG at h ⊢;cases op<;>simp only at h ⊢<;>try exact h.elim
 case move=>exact ⟨_,_,h,rfl,rfl⟩
 case assign=>exact ⟨_,_,h,rfl,rfl⟩
 case pick c a b=>
  split at h
  ·exact ⟨_,_,h,rfl,rfl⟩
  ·exact h.elim
 case load=>exact lift (ev:=fun C=>evLoad _ _ _ _ C) (evLoad.out h) fun v h=>by rw[eqn];exact h
 case fieldAddr=>exact lift (ev:=fun C=>evFieldAddr _ _ _ _ C) (evFieldAddr.out h) fun v h=>by rw[eqn];exact h
 case field=>exact lift (ev:=fun C=>evField _ _ _ _ C) (evField.out h) fun v h=>by rw[eqn];exact h
 case indexAddr=>exact lift (ev:=fun C=>evIndexAddr _ _ _ _ _ C) (evIndexAddr.out h) fun v h=>by rw[eqn];exact h
 case index=>exact lift (ev:=fun C=>evIndex _ _ _ _ C) (evIndex.out h) fun v h=>by rw[eqn];exact h
 case extract=>exact lift (ev:=fun C=>evExtract _ _ C) (evExtract.out h) fun v h=>by rw[eqn];exact h
 case slice=>exact lift (ev:=fun C=>evSliceA _ _ _ _ _ _ _ _ C) (evSliceA.out h) fun v h=>by rw[eqn];exact h
 case binOp=>obtain ⟨r,h1,h2⟩:=h;exact ⟨_,_,h1,r,⟨rfl,rfl⟩,h2⟩
 case unOp=>exact lift (ev:=fun C=>evUn _ _ C) (evUn.out h) fun v h=>by rw[eqn];exact h
 case convert=>exact lift (ev:=fun C=>evConv _ _ _ _ C) (evConv.out h) fun v h=>by rw[eqn];exact h
 case makeFunc=>exact ⟨_,_,h,rfl,rfl⟩
 case nilCheck x=>
  split at h<;>first
   |exact ⟨_,_,h,rfl,rfl⟩
   |exact h.elim
 case build=>exact lift (ev:=fun C=>evBuild _ _ _ C) (evBuild.out h) fun v h=>by rw[eqn];exact h
 case box t x=>
  cases dst with
  |none=>exact h.elim
  |some d=>exact ⟨_,_,h.2,h.1,rfl,rfl⟩
 case alloc t=>
  cases dst with
  |none=>exact h.elim
  |some d=>obtain ⟨td,h1,h2⟩:=h;exact ⟨_,_,h2,td,h1,rfl,rfl⟩
 case makeSlice=>
  cases dst with
  |none=>exact h.elim
  |some d=>exact evMake.out h
 case buildSlice=>
  cases dst with
  |none=>exact h.elim
  |some d=>exact evBuildSlice.out h
 case store=>
  obtain ⟨u,h1,h2⟩:=evStore.out h;refine ⟨_,_,h1,?_⟩;have:(fun up=>(AV.tup []:AV)=.tup []∧up=u)=(· = u):=by funext up;simp
  rw[this];exact h2
 case lookup=>exact lift (ev:=fun C=>evLookup _ _ _ _ _ _ _ C) (evLookup.out h) fun v h=>by rw[eqn];exact h
 case call c=>
  obtain ⟨callee,args,ats⟩:=c;unfold J2c at h ⊢
  cases callee with
  |builtin b=>
    cases b<;>simp only at h ⊢<;>try exact h.elim
    ·revert h
     generalize args.toList=l;generalize ats.toList=l';intro h;split at h
     ·obtain ⟨h1,h2⟩:=h;obtain ⟨v,u,h3,h4⟩:=evAppend.out h2;exact ⟨v,u,h3,h1,h4⟩
     ·exact h.elim
    ·revert h
     generalize args.toList=l;generalize ats.toList=l';intro h;split at h
     ·exact evCopy.out h
     ·exact h.elim
    ·revert h
     generalize args.toList=l;generalize ats.toList=l';intro h;split at h
     ·exact lift (ev:=fun C=>evLen _ _ _ C) (evLen.out h) fun v h=>by rw[eqn];exact h
     ·exact h.elim
    ·exact lift (ev:=fun C=>evMM _ _ C) (evMM.out h) fun v h=>by rw[eqn];exact h
    ·exact lift (ev:=fun C=>evMM _ _ C) (evMM.out h) fun v h=>by rw[eqn];exact h
  |value f=>
    simp only at h ⊢;split at h
    ·obtain ⟨h1,h⟩:=h
     rcases h with ⟨r,h2,h3⟩|⟨dd,b0,e,k,xs,off,len,hd,hx,h,hC⟩|⟨b,g,B,e,k,xs,off,len,hS,hb,hB,hx,h,hC⟩|⟨r,hf,h,hC⟩|⟨b,g,B,r,hS,hb,hn,h,hC⟩
     ·exact ⟨_,_,h3,h1,.inl ⟨r,h2,rfl,rfl⟩⟩
     ·exact ⟨_,_,hC,h1,.inr (.inl ⟨dd,b0,e,k,xs,off,len,hd,hx,h,rfl,rfl⟩)⟩
     ·exact ⟨_,_,hC,h1,.inr (.inr (.inl ⟨b,g,B,e,k,xs,off,len,hS,hb,hB,hx,h,rfl,rfl⟩))⟩
     ·exact ⟨_,_,hC,h1,.inr (.inr (.inr (.inl ⟨r,hf,h,rfl,rfl⟩)))⟩
     ·exact ⟨_,_,hC,h1,.inr (.inr (.inr (.inr ⟨b,g,B,r,hS,hb,hn,h,rfl,rfl⟩)))⟩
    ·exact h.elim
  |invoke r m=>exact h.elim
theorem J39 {S:List Nat}{H H':Hp}(h:∀ b,b∈S→H b=H' b):∀ n,J05 S H n=J05 S H' n
 |0=>by funext x;cases x<;>rfl
 |n + 1=>by
   have ih:=J39 h n
   funext x
   cases x<;>try rfl
   ·simp only[J05,ih];split
    ·rename_i hb;rw[h _ hb]
    ·rfl
   ·simp only[J05,ih];split
    ·rename_i hb;rw[h _ hb]
    ·rfl
   ·simp only[J05,ih]
   ·simp only[J05];split
    ·rename_i hb;rw[h _ hb]
    ·rfl
theorem J45 {S:List Nat}{H H':Hp}(h:∀ b,b∈S→H b=H' b):snap S H=snap S H':=by
 funext x
 unfold snap;rw[J39 h]
theorem evLoad.local {t:Nat}{p:AV}{C:AV→Prop}(hH:∀ b,b∈nm p→H b=H' b)(h:evLoad T H t p C):evLoad T H' t p C:=by
 unfold evLoad at h ⊢;split at h
 ·exact h
 ·rw[← hH _ (by simp[nm])];exact h
 ·exact h.elim
theorem evIndexAddr.local {t:Nat}{x ix:AV}{C:AV→Prop}(hH:∀ b,b∈nm x→H b=H' b)(h:evIndexAddr T H t x ix C):evIndexAddr T H' t x ix C:=by
 unfold evIndexAddr at h ⊢;split at h
 ·exact h
 ·rw[← hH _ (by simp[nm])];exact h
 ·exact h
 ·exact h
 ·exact h.elim
theorem evStore.local {t:Nat}{p x:AV}{C:Up→Prop}(hH:∀ b,b∈nm p→H b=H' b)(h:evStore T H t p x C):evStore T H' t p x C:=by
 unfold evStore at h ⊢;split at h
 ·rw[← hH _ (by simp[nm])];exact h
 ·exact h.elim
theorem srcOf.local {n:Nat}{y:AV}{C C':List AV→Prop}(hC:∀ l,C l→C' l)(hH:∀ b,b∈nm y→H b=H' b)(h:srcOf H n y C):srcOf H' n y C':=by
 unfold srcOf at h ⊢;split at h
 ·exact ⟨h.1,hC _ h.2⟩
 ·rw[← hH _ (by simp[nm])];obtain ⟨B,h1,h2,h3,h4⟩:=h;exact ⟨B,h1,h2,h3,hC _ h4⟩
 ·exact hC _ h
 ·exact h.elim
theorem evSliceA.local {P:Program}{t:Nat}{x:AV}{lo hi mx:Option AV}{C:AV→Prop}(hH:∀ b,b∈nm x→H b=H' b)(h:evSliceA P T H t x lo hi mx C):evSliceA P T H' t x lo hi mx C:=by
 unfold evSliceA at h ⊢;split at h
 ·obtain ⟨hm,h⟩:=h;obtain ⟨c,⟨B,h1,h2,h3⟩,k⟩:=elemOfT.out h;exact ⟨hm,k _ ⟨B,by rw[← hH _ (by simp[nm])];exact h1,h2,h3⟩⟩
 ·rename_i hx
  cases x<;>first|exact h|exact (hx _ _ _ _ rfl).elim
theorem evCopy.local {t:Nat}{x y:AV}{C:AV→Up→Prop}(hx:∀ b,b∈nm x→H b=H' b)(hy:∀ b,b∈nm y→H b=H' b)(h:evCopy T H t x y C):evCopy T H' t x y C:=by
 unfold evCopy at h ⊢;split at h
 ·obtain ⟨c,d,⟨h1,B,h2,h3,h5,h6⟩,k⟩:=elemT.out h;exact k _ ⟨h1,B,by rw[← hx _ (by simp[nm])];exact h2,h3,h5,srcOf.local (fun _ h=>h) hy h6⟩
 ·exact h.elim
theorem evAppend.local {t d γ:Nat}{x y:AV}{C:AV→Up→Prop}(hx:∀ b,b∈nm x→H b=H' b)(hy:∀ b,b∈nm y→H b=H' b)(h:evAppend T H t d γ x y C):evAppend T H' t d γ x y C:=by
 unfold evAppend at h ⊢;obtain ⟨a,b,h,k⟩:=elemT.out h;refine k _ (h.local (fun l h=>?_) hy);split at h
 ·rw[← hx _ (by simp[nm])];exact h
 ·exact h
 ·exact h
 ·exact h.elim
theorem J5Q {b x:Nat}:∀ {S:List Nat},x∈J2N b S→x∈S
 |[],h=>by simp[J2N] at h
 |y :: r,h=>by
   unfold J2N at h;split at h
   ·exact List.mem_cons_of_mem _ (J5Q h)
   ·rcases List.mem_cons.1 h with e | h
    ·exact e ▸ List.mem_cons_self
    ·exact List.mem_cons_of_mem _ (J5Q h)
theorem JH9 {S:List Nat}{H H':Hp}(b:Nat)(h:∀ b,b∈S→H b=H' b):fz b S H=fz b S H':=by
 have e1:fz1 b S H=fz1 b S H':=by
  funext x
  unfold fz1;rw[J39 fun y hy=>h y (J5Q hy)]
 funext x
 unfold fz;rw[e1]
theorem evG.local {E:En}{γ:Nat}{ρ ρ':Operand→AV}{H H':Hp}{o:Oper}{C:AV→Up→Prop}(hρ:∀ x∈o.op.operands.toList,ρ x=ρ' x)(hH:∀ x∈o.op.operands.toList,∀ b,b∈nm (ρ x)→H b=H' b)
  (h:evG E γ ρ H o C):evG E γ ρ' H' o C:=by
 obtain ⟨dst,op,ty,pos,after,guard⟩:=o;simp only at hρ hH;unfold evG at h ⊢;cases op<;>simp only[Op.operands] at hρ hH h ⊢<;>try exact h.elim
 case move x=>rw[← hρ x (by simp)];exact h
 case assign x=>rw[← hρ x (by simp)];exact h
 case pick c a b=>rw[← hρ c (by simp),← hρ a (by simp),← hρ b (by simp)];exact h
 case box t x=>rw[← hρ x (by simp)];exact h
 case alloc t=>exact h
 case build t ps=>
  have:(ps.toList.map fun p=>(p.1,ρ' p.2))=ps.toList.map fun p=>(p.1,ρ p.2):=List.map_congr_left fun p hp=>by rw[hρ p.2 (by simp;exact ⟨p.1,by simpa using hp⟩)]
  rw[this];exact h
 case buildSlice t n ps=>
  have:(ps.toList.map fun p=>(p.1,ρ' p.2))=ps.toList.map fun p=>(p.1,ρ p.2):=List.map_congr_left fun p hp=>by rw[hρ p.2 (by simp;exact ⟨p.1,by simpa using hp⟩)]
  rw[this];exact h
 case load t x=>rw[← hρ x (by simp)];exact h.local (hH x (by simp))
 case store t x y=>rw[← hρ x (by simp),← hρ y (by simp)];exact h.local (hH x (by simp))
 case nilCheck x=>rw[← hρ x (by simp)];exact h
 case binOp op t x y yt=>rw[← hρ x (by simp),← hρ y (by simp)];exact h
 case unOp op t x=>rw[← hρ x (by simp)];exact h
 case convert s d x=>rw[← hρ x (by simp)];exact h
 case makeFunc f first cap=>
  have e1:first.toList.map ρ'=first.toList.map ρ:=List.map_congr_left fun x hx=>(hρ x (by simp;exact .inl (by simpa using hx))).symm;have e2:cap.toList.map ρ'=cap.toList.map ρ:=List.map_congr_left fun x hx=>(hρ x (by simp;exact .inr (by simpa using hx))).symm;rw[e1,e2];exact h
 case makeSlice t l c=>rw[← hρ l (by simp),← hρ c (by simp)];exact h
 case slice t x lo hi mx=>
  have e0:=hρ x (by simp);have e1:lo.map ρ'=lo.map ρ:=by cases lo<;>simp;exact (hρ _ (by simp)).symm
  have e2:hi.map ρ'=hi.map ρ:=by cases hi<;>simp;exact (hρ _ (by simp)).symm
  have e3:mx.map ρ'=mx.map ρ:=by cases mx<;>simp;exact (hρ _ (by simp)).symm
  rw[← e0,e1,e2,e3];exact h.local (hH x (by simp))
 case fieldAddr t x f=>rw[← hρ x (by simp)];exact h
 case field t x f=>rw[← hρ x (by simp)];exact h
 case indexAddr t x i=>rw[← hρ x (by simp),← hρ i (by simp)];exact h.local (hH x (by simp))
 case index t x i=>rw[← hρ x (by simp),← hρ i (by simp)];exact h
 case extract x i=>rw[← hρ x (by simp)];exact h
 case lookup t x k ok=>rw[← hρ x (by simp),← hρ k (by simp)];exact h.local (hH x (by simp))
 case call c=>
  obtain ⟨callee,args,ats⟩:=c;have ha:∀ x∈args.toList,ρ x=ρ' x:=fun x hx=>hρ x (by simp[Call.operands];exact .inr (by simpa using hx));have hb:∀ x∈args.toList,∀ b,b∈nm (ρ x)→H b=H' b:=fun x hx=>hH x (by simp[Call.operands];exact .inr (by simpa using hx));have hb':=hb;unfold J2c at h ⊢;simp only at h ⊢
  cases callee with
  |builtin b=>
    cases b<;>simp only at h ⊢<;>try exact h.elim
    ·revert h ha hb
     generalize args.toList=l;generalize ats.toList=l';intro ha hb h;split at h
     ·rw[← ha _ (by simp),← ha _ (by simp)];exact ⟨h.1,h.2.local (hb _ (by simp)) (hb _ (by simp))⟩
     ·exact h.elim
    ·revert h ha hb
     generalize args.toList=l;generalize ats.toList=l';intro ha hb h;split at h
     ·rw[← ha _ (by simp),← ha _ (by simp)];exact h.local (hb _ (by simp)) (hb _ (by simp))
     ·exact h.elim
    ·revert h ha
     generalize args.toList=l;generalize ats.toList=l';intro ha h;split at h
     ·rw[← ha _ (by simp)];exact h
     ·exact h.elim
    ·rw[show args.toList.map ρ'=args.toList.map ρ from List.map_congr_left fun x hx=>(ha x hx).symm];exact h
    ·rw[show args.toList.map ρ'=args.toList.map ρ from List.map_congr_left fun x hx=>(ha x hx).symm];exact h
  |value f=>
    have hf:=hρ f (by simp[Call.operands]);have e1:args.toList.map ρ'=args.toList.map ρ:=List.map_congr_left fun x hx=>(ha x hx).symm;simp only at h ⊢;rw[← hf,e1];split at h
    ·rename_i n first cap hfn;obtain ⟨h1,h⟩:=h;refine ⟨h1,?_⟩
     have hS:∀ b,b∈(args.toList.map ρ).flatMap nm→H b=H' b:=by
      intro b hb;obtain ⟨y,hy,hn⟩:=List.mem_flatMap.1 hb;obtain ⟨x,hx,rfl⟩:=List.mem_map.1 hy;exact hb' x hx b hn
     rcases h with h|⟨dd,b0,e,k,xs,off,len,hd,hx,h,hC⟩|⟨b,g,B,e,k,xs,off,len,hb,hHb,hB,hx,h,hC⟩|⟨r,hf,h,hC⟩|⟨b,g,B,r,hSb,hHb,hn,h,hC⟩
     ·exact .inl h
     ·refine .inr (.inl ⟨dd,b0,e,k,xs,off,len,hd,hx,?_,hC⟩);rw[← J45 hS];exact h
     ·exact .inr (.inr (.inl ⟨b,g,B,e,k,xs,off,len,hb,(hS b hb) ▸ hHb,hB,hx,by rw[← JH9 b hS];exact h,hC⟩))
     ·exact .inr (.inr (.inr (.inl ⟨r,hf,by rw[← J45 hS];exact h,hC⟩)))
     ·have hb1:=hS b (by rw[hSb];simp);exact .inr (.inr (.inr (.inr ⟨b,g,B,r,hSb,hb1 ▸ hHb,hn,by rw[← J45 (S:=[b]) (H:=H) (H':=H') (fun y hy=>by rw[List.mem_singleton.1 hy];exact hb1)];exact h,hC⟩)))
    ·exact h.elim
  |invoke r m=>exact h.elim
end
end Go.Fw
