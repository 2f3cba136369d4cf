/- Part 44 of a proof. -/
import Derived.Test.YtlblbldolhiokaaGreatDoorRs43
set_option linter.all false
set_option maxRecDepth 99999
set_option maxHeartbeats 0
namespace Go.Fw
open Go.RowKit
def JKA (body:List AV→Mem→Nat→Option (Exit×St3)):Nat→List AV→Mem→Nat→Option (Exit×St3)
 |0,_,_,_=>none
 |n+1,σ,m,k=>(body σ m k).bind fun q=>match q.1 with
   |.normal=>JKA body n q.2.1 q.2.2.1 q.2.2.2
   |_=>some q
def frzS (ops:Array Oper)(σ:List AV):List Nat:=ops.toList.flatMap fun o=>match o.op with
 |.move x=>match opd (lf σ) x with
   |.own b _ _ _=>[b]
   |_=>[]
 |_=>[]
def frz1 (S:List Nat)(H:Hp):AV→AV
 |.own b g o l=>match memB b S with
   |true=>snap S H (.own b g o l)
   |false=>.own b g o l
 |x=>x
def frzL (S:List Nat)(H:Hp)(σ:List AV):List AV:=σ.map (frz1 S H)
def JAP:List Nat→Mem→Mem
 |[],m=>m
 |b::r,m=>delM b (JAP r m)
theorem J7t:∀ (S:List Nat) (m:Mem),hp (JAP S m)=rem (hp m) S
 |[],m=>by funext x;simp[JAP,rem]
 |b::r,m=>by
   have ih:=J7t r m;unfold JAP;rw[JAF,ih]
   funext x
   unfold rem
   by_cases h1:x=b<;>by_cases h2:x∈r<;>simp[h1,h2]
def JNc {gh:Gh}{κ:KM}{σ:List AV}{m:Mem}{a:Act}{w:World}(hr:Rel gh κ (lf σ) (hp m) a w)(S:List Nat):Rel gh κ (lf (frzL S (hp m) σ)) (hp (JAP S m)) a w:=by
 rw[J7t]
 have hs:Sub (rem (hp m) S) (hp m):=fun x=>by
  unfold rem;split
  ·exact .inr rfl
  exact .inl rfl
 obtain ⟨q1,q2⟩:=hr.hp.sub hs;refine ⟨q1,fun x=>?_,hr.size,hr.defers,fun x v hx=>q2 (hr.tr x v hx)⟩;have h0:=hr.slots x
 have e:lf (frzL S (hp m) σ) x=frz1 S (hp m) (lf σ x):=by
  unfold lf frzL;rw[Q4,Q4,Ql]
  cases σ[x]? with
  |none=>rfl
  |some y=>rfl
 rw[e];generalize lf σ x=y at h0;unfold frz1;split
 ·split
  ·exact (J1X hr.hp S h0).lift
  exact q2 h0
 exact q2 h0
def JEN:Nat→Mem→AV→List Nat
 |0,_,_=>[]
 |n+1,m,.own b _ _ _=>b::(match hp m b with
   |some q=>q.2.xs.flatMap fun x=>x.cells.flatMap (JEN n m)
   |none=>[])
 |n+1,m,.op b _ _ _=>b::(match hp m b with
   |some q=>q.2.xs.flatMap fun x=>x.cells.flatMap (JEN n m)
   |none=>[])
 |n+1,m,.agg cs=>cs.flatMap (JEN n m)
 |_,_,_=>[]
def frzP (ops:Array Oper)(σ:List AV)(m:Mem):List Nat:=ops.toList.flatMap fun o=>match o.op with
 |.load _ x=>JEN 4 m (opd (lf σ) x)
 |.move x=>match opd (lf σ) x with
   |.own b _ _ _=>[b]
   |_=>[]
 |_=>[]
def frz2 (S:List Nat)(H:Hp):AV→AV
 |.own b g o l=>match memB b S with
   |true=>snap S H (.own b g o l)
   |false=>.own b g o l
 |.op b g i k=>match memB b S with
   |true=>snap S H (.op b g i k)
   |false=>.op b g i k
 |x=>x
def JIQ (S:List Nat)(H:Hp)(σ:List AV):List AV:=σ.map (frz2 S H)
def JLJ {gh:Gh}{κ:KM}{σ:List AV}{m:Mem}{a:Act}{w:World}(hr:Rel gh κ (lf σ) (hp m) a w)(S:List Nat):Rel gh κ (lf (JIQ S (hp m) σ)) (hp (JAP S m)) a w:=by
 rw[J7t]
 have hs:Sub (rem (hp m) S) (hp m):=fun x=>by
  unfold rem;split
  ·exact .inr rfl
  exact .inl rfl
 obtain ⟨q1,q2⟩:=hr.hp.sub hs;refine ⟨q1,fun x=>?_,hr.size,hr.defers,fun x v hx=>q2 (hr.tr x v hx)⟩;have h0:=hr.slots x
 have e:lf (JIQ S (hp m) σ) x=frz2 S (hp m) (lf σ x):=by
  unfold lf JIQ;rw[Q4,Q4,Ql]
  cases σ[x]? with
  |none=>rfl
  |some y=>rfl
 rw[e];generalize lf σ x=y at h0;unfold frz2;split
 ·split
  ·exact (J1X hr.hp S h0).lift
  exact q2 h0
 ·split
  ·exact (J1X hr.hp S h0).lift
  exact q2 h0
 exact q2 h0
def J43 (X:XE)(call:CallX)(fuel:Nat):Code→List AV→Mem→Nat→Option (Exit×St3)
 |.skip,σ,m,k=>some (.normal,σ,m,k)
 |.region _ ops draw,σ,m,k=>match draw with
   |true=>ifB (JDe ops 0 ops.toList&&J3y ops 0 (J7I ops (J2g [] ops.toList) 0 ops.toList)) (match J8S X call ops (J7I ops (J2g [] ops.toList) 0 ops.toList) 0 σ m k with
     |some q=>some (.normal,q)
     |none=>match J8S X call ops (J7I ops (J2g [] ops.toList) 0 ops.toList) 0 (frzL (frzS ops σ) (hp m) σ) (JAP (frzS ops σ) m) k with
       |some q=>some (.normal,q)
       |none=>match J8S { X with froz:=true } call ops (J7I ops (J2g [] ops.toList) 0 ops.toList) 0 (frzL (frzS ops σ) (hp m) σ) (JAP (frzS ops σ) m) k with
         |some q=>some (.normal,q)
         |none=>(J8S { X with froz:=true } call ops (J7I ops (J2g [] ops.toList) 0 ops.toList) 0 (JIQ (frzP ops σ m) (hp m) σ) (JAP (frzP ops σ m) m) k).bind fun q=>some (.normal,q))
   |false=>(xOps X call ops ops.toList σ m k).bind fun q=>some (.normal,q)
 |.seq x y,σ,m,k=>(J43 X call fuel x σ m k).bind fun q=>match q.1 with
   |.normal=>J43 X call fuel y q.2.1 q.2.2.1 q.2.2.2
   |_=>some q
 |.cond c x y,σ,m,k=>match opd (lf σ) c with
   |.val (.bool true)=>J43 X call fuel x σ m k
   |.val (.bool false)=>J43 X call fuel y σ m k
   |_=>none
 |.block id c,σ,m,k=>(J43 X call fuel c σ m k).bind fun q=>match q.1 with
   |.exit i=>match Nat.beq i id with
     |true=>some (.normal,q.2)
     |false=>some q
   |_=>some q
 |.loop c,σ,m,k=>JKA (J43 X call fuel c) fuel σ m k
 |.exit id,σ,m,k=>some (.exit id,σ,m,k)
 |.scope c,σ,m,k=>(J43 X call fuel c σ m k).bind fun q=>match q.1 with
   |.goto _=>none
   |_=>some q
 |.label _,σ,m,k=>some (.normal,σ,m,k)
 |.ret,σ,m,k=>some (.ret,σ,m,k)
 |_,_,_,_=>none
def JJu (P:Program)(c:Code)(Q:Exit→Act→World→Prop)(a:Act)(w:World):Prop:=
 ∀ b k cs,∃ e a' w',Q e a' w'∧Arrives P (lone (b.at a (.code c::.inLoop c::k)) cs w) b k cs e a' w'
def JDL {P:Program}{c:Code}{Q:Exit→Act→World→Prop}{a:Act}{w:World}(h:c.wp P (fun e a' w'=>match e with|.normal=>JJu P c Q a' w'|e=>Q e a' w') a w):JJu P c Q a w:=by
 intro b k cs;obtain ⟨e,a',w',hq,harr⟩:=h b (.inLoop c::k) cs
 cases e with
 |normal=>
   obtain ⟨e2,a2,w2,hq2,harr2⟩:=hq b k cs;exact ⟨e2,a2,w2,hq2,.of_steps (Steps.trans harr (.one step_inLoop)) harr2⟩
 |exit id=>exact ⟨_,a',w',hq,.pass (x:=.inLoop c) rfl (fun _ _=>.inl (by simp)) harr⟩
 |goto l=>exact ⟨_,a',w',hq,.pass (x:=.inLoop c) rfl (fun _ _=>.inl (by simp)) harr⟩
 |ret=>exact ⟨_,a',w',hq,.pass (x:=.inLoop c) rfl (fun _ _=>.inl (by simp)) harr⟩
 |panic ch=>exact ⟨_,a',w',hq,.pass (x:=.inLoop c) rfl (fun _ _=>.inl (by simp)) harr⟩
 |outgrown=>exact ⟨_,a',w',hq,.pass (x:=.inLoop c) rfl (fun _ _=>.inl (by simp)) harr⟩
section
variable {X:XE} {gh:Gh} {call:CallX}
theorem J6j {P:Program}{c:Code}{body:List AV→Mem→Nat→Option (Exit×St3)}
  (hbody:∀ σ m k e q a w,body σ m k=some (e,q)→RelX gh σ m k a w→c.wp P (fun e' a' w'=>e'=e∧RelX gh q.1 q.2.1 q.2.2 a' w') a w) :
  ∀ (n:Nat) (σ:List AV) (m:Mem) (k:Nat) (e:Exit) (q:St3) (a:Act) (w:World),JKA body n σ m k=some (e,q)→RelX gh σ m k a w→JJu P c (fun e' a' w'=>e'=e∧RelX gh q.1 q.2.1 q.2.2 a' w') a w
 |0,σ,m,k,e,q,a,w,h,_=>by cases h
 |n+1,σ,m,k,e,q,a,w,h,hr=>by
   unfold JKA at h;obtain ⟨⟨e1,σ1,m1,k1⟩,h1,h⟩:=J01 h;refine JDL (wp_mono (hbody _ _ _ _ _ _ _ h1 hr) ?_);rintro e' a' w' ⟨rfl,hr'⟩
   cases e' with
   |normal=>exact J6j hbody n _ _ _ _ _ _ _ h hr'
   |_=>cases h;exact ⟨rfl,hr'⟩
def JCs (hX:XOk X)(hcall:J1k X call)(fuel:Nat):∀ (c:Code) (σ:List AV) (m:Mem) (k:Nat) (e:Exit) (q:St3) (a:Act) (w:World),J0f gh.nt c=true→J43 X call fuel c σ m k=some (e,q)→RelX gh σ m k a w →
  c.wp X.E.P (fun e' a' w'=>e'=e∧RelX gh q.1 q.2.1 q.2.2 a' w') a w:=by
 intro c
 induction c with
 |skip=>intro σ m k e q a w _ h hr;cases h;exact wp_skip ⟨rfl,hr⟩
 |label l=>intro σ m k e q a w _ h hr;cases h;exact wp_label ⟨rfl,hr⟩
 |exit id=>intro σ m k e q a w _ h hr;cases h;exact wp_exit ⟨rfl,hr⟩
 |ret=>intro σ m k e q a w _ h hr;cases h;exact wp_ret ⟨rfl,hr⟩
 |region id ops draw=>
   intro σ m k e q a w hg h hr;obtain ⟨hl,κ,hr,hF⟩:=hr.o
   cases draw with
   |true=>
     unfold J43 at h;obtain ⟨hc,h⟩:=J0K h;simp only[Q5] at hc;split at h
     case h_2=>
      have hr0:=hr;have hr:=JNc hr (frzS ops σ);split at h
      case h_2=>
       split at h
       case h_2=>
        have hr:=JLJ hr0 (frzP ops σ m);obtain ⟨q',h1,h⟩:=J01 h;cases h;refine wp_region_any hX.mixed ?_;refine J1I (X:={ X with froz:=true }) ⟨hX.hT,hX.eqs,hX.keys,hX.arrs,hX.ext,hX.mixed,hX.news⟩ hcall (MInv.of hc.1) hg (q:=q) (fun a w h=>⟨rfl,h⟩) hc.2 (by simp[JIQ,hl]) h1 ops.size _ κ a _ (by simp) (by simp) (fun i h=>?_) (hr.drawn _) (fun g hg b=>hF b g hg);simp[QE,h]
       rename_i q' h1;cases h;refine wp_region_any hX.mixed ?_;refine J1I (X:={ X with froz:=true }) ⟨hX.hT,hX.eqs,hX.keys,hX.arrs,hX.ext,hX.mixed,hX.news⟩ hcall (MInv.of hc.1) hg (q:=q) (fun a w h=>⟨rfl,h⟩) hc.2 (by simp[frzL,hl]) h1 ops.size _ κ a _ (by simp) (by simp) (fun i h=>?_) (hr.drawn _) (fun g hg b=>hF b g hg);simp[QE,h]
      rename_i q' h1;cases h;refine wp_region_any hX.mixed ?_;refine J1I hX hcall (MInv.of hc.1) hg (q:=q) (fun a w h=>⟨rfl,h⟩) hc.2 (by simp[frzL,hl]) h1 ops.size _ κ a _ (by simp) (by simp) (fun i h=>?_) (hr.drawn _) (fun g hg b=>hF b g hg);simp[QE,h]
     rename_i q' h1;cases h;refine wp_region_any hX.mixed ?_;refine J1I hX hcall (MInv.of hc.1) hg (q:=q) (fun a w h=>⟨rfl,h⟩) hc.2 hl h1 ops.size _ κ a _ (by simp) (by simp) (fun i h=>?_) (hr.drawn _) (fun g hg b=>hF b g hg);simp[QE,h]
   |false=>
     unfold J43 at h;obtain ⟨q',h1,h⟩:=J01 h;cases h;refine wp_region ?_;have:=JFI (gh:=gh) hX hcall ops (Q:=fun e' a' w'=>e'=Exit.normal∧RelX gh q.1 q.2.1 q.2.2 a' w') (σ':=q.1) (m':=q.2.1) (k':=q.2.2) (fun a w h=>⟨rfl,h⟩) ops.size κ σ m k a w (QM _) (fun i _ hi=>QL.1 hg _ (by simp)) (by simpa using h1) hl hr hF
     simpa [List.range_eq_range'] using this
 |seq x y ihx ihy=>
   intro σ m k e q a w hg h hr;simp only[J0f,Q5] at hg;unfold J43 at h;obtain ⟨⟨e1,q1⟩,h1,h⟩:=J01 h;refine wp_seq (wp_mono (ihx _ _ _ _ _ _ _ hg.1 h1 hr) ?_);rintro e' a' w' ⟨rfl,hr'⟩
   cases e' with
   |normal=>exact ihy _ _ _ _ _ _ _ hg.2 h hr'
   |_=>cases h;exact ⟨rfl,hr'⟩
 |cond c x y ihx ihy=>
   intro σ m k e q a w hg h hr;simp only[J0f,Q5] at hg;unfold J43 at h;obtain ⟨hl,κ,hr0,hF⟩:=hr.o;have hv:=hr0.opd c hg.1.1;split at h
   ·rename_i hc;rw[hc] at hv;generalize hcv:a.eval c=v at hv
    cases hv with
    |val _ _=>exact wp_cond hcv (ihx _ _ _ _ _ _ _ hg.1.2 h hr)
   ·rename_i hc;rw[hc] at hv;generalize hcv:a.eval c=v at hv
    cases hv with
    |val _ _=>exact wp_cond hcv (ihy _ _ _ _ _ _ _ hg.2 h hr)
   cases h
 |block id c ih=>
   intro σ m k e q a w hg h hr;unfold J43 at h;obtain ⟨⟨e1,q1⟩,h1,h⟩:=J01 h;refine wp_block (wp_mono (ih _ _ _ _ _ _ _ hg h1 hr) ?_);rintro e' a' w' ⟨rfl,hr'⟩;cases e'<;>try (cases h;exact ⟨rfl,hr'⟩)
   rename_i id';unfold Exit.inBlock;simp only at h ⊢;split
   ·rename_i e2;subst e2;rw[Q29] at h;cases h;exact ⟨rfl,hr'⟩
   rename_i e2
   have:Nat.beq id' id=false:=by
    cases hb:Nat.beq id' id with
    |true=>exact absurd (Q7 hb) e2
    |false=>rfl
   rw[this] at h;cases h;exact ⟨rfl,hr'⟩
 |loop c ih=>
   intro σ m k e q a w hg h hr b kk cs;obtain ⟨e',a',w',hq,harr⟩:=J6j (fun σ m k e q a w h hr=>ih σ m k e q a w hg h hr) fuel σ m k e q a w h hr b kk cs;exact ⟨e',a',w',hq,.of_steps (.one step_loop) harr⟩
 |scope c ih=>
   intro σ m k e q a w hg h hr;unfold J43 at h;obtain ⟨⟨e1,q1⟩,h1,h⟩:=J01 h;refine wp_scope_straight (wp_mono (ih _ _ _ _ _ _ _ hg h1 hr) ?_);rintro e' a' w' ⟨rfl,hr'⟩
   cases e'<;>first|(cases h;done)|(cases h;exact ⟨rfl,hr'⟩)
 |_=>intro σ m k e q a w _ h _;cases h
def xRes (T:Nat→Option TD)(H:Hp)(σ:Fr):List ResultVar→Option (List AV)
 |[]=>some []
 |.tmp t::r=>(xRes T H σ r).bind fun l=>some (σ t::l)
 |.cell a t::r=>(JKB T H t (σ a)).bind fun v=>(xRes T H σ r).bind fun l=>some (v::l)
theorem JCo {P:Program}{T:Nat→Option TD}(hT:TOk P T){H:Hp}{σ:Fr}:∀ {l:List ResultVar} {xs:List AV},xRes T H σ l=some xs→∀ {C:List AV→Prop},C xs→evRes T H σ l C
 |[],xs,h,C,hC=>by cases h;exact hC
 |.tmp t::r,xs,h,C,hC=>by
   unfold xRes at h;obtain ⟨l,h1,h⟩:=J01 h;cases h;exact JCo (l:=r) hT h1 hC
 |.cell a t::r,xs,h,C,hC=>by
   unfold xRes at h;obtain ⟨v,h0,h⟩:=J01 h;obtain ⟨l,h1,h⟩:=J01 h;cases h;exact JDr hT h0 (JCo (l:=r) hT h1 hC)
def own1:AV→Bool
 |.val _|.sl _ _|.ep _ _|.mp _ _|.dead=>false
 |_=>true
def owns:AV→Bool
 |.agg cs=>cs.any own1
 |.tup cs=>cs.any own1
 |.fn _ a c=>(a++c).any own1
 |x=>own1 x
def gcM (m:Mem)(b:Nat):Mem:=m.filter fun e=>Nat.blt e.1 b
def JNb (m:Mem)(b:Nat):Sub (hp (gcM m b)) (hp m):=by
 intro x
 induction m with
 |nil=>exact .inl rfl
 |cons e r ih=>
   obtain ⟨y,v⟩:=e;unfold gcM at ih ⊢
   by_cases hb:Nat.blt y b=true
   ·rw[List.filter_cons_of_pos (by simpa using hb)];unfold hp;split
    ·exact .inl rfl
    exact ih
   rw[List.filter_cons_of_neg (by simpa using hb)]
   by_cases hxy:x=y
   ·subst hxy;right
    have:∀ l:Mem,(∀ e∈l,e.1≠x)→hp l x=none:=by
     intro l
     induction l with
     |nil=>intro _;rfl
     |cons e l ih=>
       intro h;obtain ⟨z,u⟩:=e;unfold hp;rw[if_neg (fun e=>h (z,u) (by simp) e.symm)];exact ih fun e he=>h e (Q02 _ he)
    refine this _ fun e he e2=>?_;have:=(Q1Q.1 he).2;rw[e2] at this;exact hb (by simpa using this)
   have:hp ((y,v)::r) x=hp r x:=by simp only[hp,if_neg hxy]
   rw[this];exact ih
def JBh (nt:Nat)(args:List AV):List AV:=args++List.replicate (nt-args.length) (.tup [])
def JL2 (nt:Nat)(args:List AV):lf (JBh nt args)=J1w args:=by
 funext x
 unfold lf J1w JBh;rw[Q4]
 by_cases h:x<args.length
 ·rw[Q1a h,Q8 h];rfl
 rw[Q1Z (by omega),Q0J (l:=args) (by omega),Q2M];split<;>rfl
def JDs (X:XE)(call:CallX)(fuel:Nat):CallX:=fun n args m k=>
 (X.E.P.funcs[n]?).bind fun fn=>fn.body.bind fun c=>ifB (!(fn.name == "runtime.NumGoroutine")&&J0f fn.ntmps c&&Nat.ble args.length fn.ntmps)
   ((J43 X call fuel c (JBh fn.ntmps args) m k).bind fun q=>match q.1 with
   |.normal|.ret=>(xRes X.E.T (hp q.2.2.1) (lf q.2.1) fn.results.toList).bind fun l=>match args.any owns||owns (J4f l) with
     |true=>some (J4f l,q.2.2.1,q.2.2.2)
     |false=>some (J4f l,gcM q.2.2.1 (k*65536),q.2.2.2)
   |_=>none)
def JAz (hX:XOk X)(hcall:J1k X call)(fuel:Nat):J1k X (JDs X call fuel):=by
 intro n args m k r m' k' h;unfold JDs at h;obtain ⟨fn,hf,h⟩:=J01 h;obtain ⟨c,hb,h⟩:=J01 h;obtain ⟨hc,h⟩:=J0K h;obtain ⟨⟨e,σ1,m1,k1⟩,h1,h⟩:=J01 h;simp only[Q5,Qw] at hc;refine ⟨⟨fn,hf,hc.1.1,by rw[hb];rfl⟩,fun gh κ w vs hr hv hF=>?_⟩;have hn:=QJ hc.2;refine calls_of_wp hf hb ?_
 have hr0:Rel { gh with nt:=fn.ntmps,ref:=fun x v=>VR κ w (Nset gh.O κ (hp m)) x v } κ (J1w args) (hp m) { tmps:=vs++Array.replicate (fn.ntmps-vs.size) undef,defers:=[] } w:=by
  refine ⟨hr.nt rfl rfl rfl,fun x=>?_,?_,rfl,fun x v h=>h⟩
  ·show VR κ w (Nset gh.O κ (hp m)) (J1w args x) ((vs++Array.replicate (fn.ntmps-vs.size) undef).getD x undef)
   unfold J1w;have hs:=hv.1
   by_cases hx:x<args.length
   ·rw[Q8 hx,QE,Q18 (by omega),QN (by omega)];exact hv.2 x hx (by omega)
   rw[Q0J (by omega),QE,Q22 (by omega)]
   have:((Array.replicate (fn.ntmps-vs.size) undef)[x-vs.size]?).getD undef=undef:=by
    by_cases hlt:x-vs.size<fn.ntmps-vs.size
    ·simp[hlt]
    rw[Q1s (by simp;omega)];rfl
   rw[this];exact .tup [] #[] rfl (fun i h=>absurd h (by simp))
  have:=hv.1;simp;omega
 rw[← JL2 fn.ntmps args] at hr0;have hlen:(JBh fn.ntmps args).length=fn.ntmps:=by simp[JBh];omega
 refine wp_mono (JCs (gh:={ gh with nt:=fn.ntmps,ref:=fun x v=>VR κ w (Nset gh.O κ (hp m)) x v }) hX hcall fuel c _ _ _ _ _ _ _ hc.1.2 h1 ⟨hlen,κ,hr0,hF⟩) ?_;rintro e' a' w' ⟨rfl,hr'⟩;obtain ⟨_,κ',hr',hF'⟩:=hr'.o
 have fin:((xRes X.E.T (hp m1) (lf σ1) fn.results.toList).bind fun l=>match args.any owns||owns (J4f l) with
   |true=>some (J4f l,m1,k1)
   | false=>some (J4f l,gcM m1 (k*65536),k1))=some (r,m',k')→a'.defers=[]∧∃ v,(results fn a'.tmps).run X.E.P w'=.ok v w'∧∃ u κ',Ending.returned v=.returned u∧HRel gh κ' (hp m') w'∧VR κ' w' (Nset gh.O κ' (hp m')) r u ∧
     (∀ {x:AV} {u:Value},VR κ w (Nset gh.O κ (hp m)) x u→VR κ' w' (Nset gh.O κ' (hp m')) x u)∧Fsh κ' k':=by
  intro h;obtain ⟨l,hl,h⟩:=J01 h;obtain ⟨xs,v,hC,hrun,us,hus,hv',rfl⟩:=J46 hX.hT hr' fn (fun xs=>xs=l) (JCo hX.hT hl rfl);subst hC
  have hp':m'=m1∨m'=gcM m1 (k*65536):=by
   split at h
   ·cases h;exact .inl rfl
   cases h;exact .inr rfl
  have hrk:r=J4f xs∧k'=k1:=by
   split at h
   ·cases h;exact ⟨rfl,rfl⟩
   cases h;exact ⟨rfl,rfl⟩
  obtain ⟨rfl,rfl⟩:=hrk
  have hsub:Sub (hp m') (hp m1):=by
   rcases hp' with rfl|rfl
   ·exact fun x=>.inl rfl
   exact JNb _ _
  obtain ⟨q1,q2⟩:=hr'.hp.sub hsub;exact ⟨hr'.defers,_,hrun,_,κ',rfl,q1.nt rfl rfl rfl,q2 (JDD hus hv'),fun h=>q2 (hr'.tr _ _ h),hF'⟩
 cases e'<;>first|exact fin h|(cases h;done)
def xRun (X:XE)(fuel:Nat):Nat→CallX
 |0=>fun _ _ _ _=>none
 |n+1=>JDs X (xRun X fuel n) fuel
theorem JGf (hX:XOk X)(fuel:Nat):∀ n,J1k X (xRun X fuel n)
 |0=>fun _ _ _ _ _ _ _ h=>by cases h
 |n+1=>JAz hX (JGf hX fuel n) fuel
def J1f (hX:XOk X){fuel n f:Nat}{args:List AV}{r:AV}(h:JHn (xRun X fuel n) f args=some r):PureCall X.E.P f args r:=(JBN (JGf hX fuel n) h).2
end
end Go.Fw
