/- Part 44 of the proof. -/
import Derived.Test.YtlblbldolhiokaaGreatDoorDual43
set_option linter.unusedVariables false
set_option linter.unusedSimpArgs false
set_option linter.unusedSectionVars false
set_option maxRecDepth 100000
set_option exponentiation.threshold 400
set_option maxHeartbeats 8000000
namespace Go.Fw
open Go.RowKit
def JGH (body:List AV→Mem→Nat→Option (Exit×St3)):Nat→List AV→Mem→Nat→Option (Exit×St3)
 |0,_,_,_=>none
 |n+1,σ,m,k=>(body σ m k).bind fun q=>match q.1 with
   |.normal=>JGH body n q.2.1 q.2.2.1 q.2.2.2
   |_=>some q
def frzS (ops:Array Oper)(σ:List AV):List Nat:=ops.toList.flatMap fun o=>match o.op with
 |.move x=>match opd (lf σ) x with
   |.own b _ _ _=>[b]
   |_=>[]
 |_=>[]
def frz1 (S:List Nat)(H:Hp):AV→AV
 |.own b g o l=>match memB b S with
   |true=>snap S H (.own b g o l)
   |false=>.own b g o l
 |x=>x
def frzL (S:List Nat)(H:Hp)(σ:List AV):List AV:=σ.map (frz1 S H)
def J7z:List Nat→Mem→Mem
 |[],m=>m
 |b::r,m=>delM b (J7z r m)
theorem J5x:∀ (S:List Nat) (m:Mem),hp (J7z S m)=rem (hp m) S
 |[],m=>by funext x;simp[J7z,rem]
 |b::r,m=>by
   have ih:=J5x r m;unfold J7z;rw[J7q,ih]
   funext x
   unfold rem
   by_cases h1:x=b<;>by_cases h2:x∈r<;>simp[h1,h2]
theorem JJE {gh:Gh}{κ:KM}{σ:List AV}{m:Mem}{a:Act}{w:World}(hr:Rel gh κ (lf σ) (hp m) a w)(S:List Nat):Rel gh κ (lf (frzL S (hp m) σ)) (hp (J7z S m)) a w:=by
 rw[J5x]
 have hs:Sub (rem (hp m) S) (hp m):=fun x=>by
  unfold rem;split
  ·exact .inr rfl
  ·exact .inl rfl
 obtain ⟨q1,q2⟩:=hr.hp.sub hs;refine ⟨q1,fun x=>?_,hr.size,hr.defers,fun x v hx=>q2 (hr.tr x v hx)⟩;have h0:=hr.slots x
 have e:lf (frzL S (hp m) σ) x=frz1 S (hp m) (lf σ x):=by
  unfold lf frzL;rw[List.getD_eq_getElem?_getD,List.getD_eq_getElem?_getD,List.getElem?_map]
  cases σ[x]? with
  |none=>rfl
  |some y=>rfl
 rw[e];generalize lf σ x=y at h0;unfold frz1;split
 ·split
  ·exact (J1E hr.hp S h0).lift
  ·exact q2 h0
 ·exact q2 h0
def JBY:Nat→Mem→AV→List Nat
 |0,_,_=>[]
 |n+1,m,.own b _ _ _=>b::(match hp m b with
   |some q=>q.2.xs.flatMap fun x=>x.cells.flatMap (JBY n m)
   |none=>[])
 |n+1,m,.op b _ _ _=>b::(match hp m b with
   |some q=>q.2.xs.flatMap fun x=>x.cells.flatMap (JBY n m)
   |none=>[])
 |n+1,m,.agg cs=>cs.flatMap (JBY n m)
 |_,_,_=>[]
def frzP (ops:Array Oper)(σ:List AV)(m:Mem):List Nat:=ops.toList.flatMap fun o=>match o.op with
 |.load _ x=>JBY 4 m (opd (lf σ) x)
 |.move x=>match opd (lf σ) x with
   |.own b _ _ _=>[b]
   |_=>[]
 |_=>[]
def frz2 (S:List Nat)(H:Hp):AV→AV
 |.own b g o l=>match memB b S with
   |true=>snap S H (.own b g o l)
   |false=>.own b g o l
 |.op b g i k=>match memB b S with
   |true=>snap S H (.op b g i k)
   |false=>.op b g i k
 |x=>x
def JEt (S:List Nat)(H:Hp)(σ:List AV):List AV:=σ.map (frz2 S H)
theorem JHA {gh:Gh}{κ:KM}{σ:List AV}{m:Mem}{a:Act}{w:World}(hr:Rel gh κ (lf σ) (hp m) a w)(S:List Nat):Rel gh κ (lf (JEt S (hp m) σ)) (hp (J7z S m)) a w:=by
 rw[J5x]
 have hs:Sub (rem (hp m) S) (hp m):=fun x=>by
  unfold rem;split
  ·exact .inr rfl
  ·exact .inl rfl
 obtain ⟨q1,q2⟩:=hr.hp.sub hs;refine ⟨q1,fun x=>?_,hr.size,hr.defers,fun x v hx=>q2 (hr.tr x v hx)⟩;have h0:=hr.slots x
 have e:lf (JEt S (hp m) σ) x=frz2 S (hp m) (lf σ x):=by
  unfold lf JEt;rw[List.getD_eq_getElem?_getD,List.getD_eq_getElem?_getD,List.getElem?_map]
  cases σ[x]? with
  |none=>rfl
  |some y=>rfl
 rw[e];generalize lf σ x=y at h0;unfold frz2;split
 ·split
  ·exact (J1E hr.hp S h0).lift
  ·exact q2 h0
 ·split
  ·exact (J1E hr.hp S h0).lift
  ·exact q2 h0
 ·exact q2 h0
def J38 (X:XE)(call:CallX)(fuel:Nat):Code→List AV→Mem→Nat→Option (Exit×St3)
 |.skip,σ,m,k=>some (.normal,σ,m,k)
 |.region _ ops draw,σ,m,k=>match draw with
   |true=>ifB (JAy ops 0 ops.toList&&J33 ops 0 (J5P ops (J2B [] ops.toList) 0 ops.toList)) (match J6K X call ops (J5P ops (J2B [] ops.toList) 0 ops.toList) 0 σ m k with
     |some q=>some (.normal,q)
     |none=>match J6K X call ops (J5P ops (J2B [] ops.toList) 0 ops.toList) 0 (frzL (frzS ops σ) (hp m) σ) (J7z (frzS ops σ) m) k with
       |some q=>some (.normal,q)
       |none=>match J6K { X with froz:=true } call ops (J5P ops (J2B [] ops.toList) 0 ops.toList) 0 (frzL (frzS ops σ) (hp m) σ) (J7z (frzS ops σ) m) k with
         |some q=>some (.normal,q)
         |none=>(J6K { X with froz:=true } call ops (J5P ops (J2B [] ops.toList) 0 ops.toList) 0 (JEt (frzP ops σ m) (hp m) σ) (J7z (frzP ops σ m) m) k).bind fun q=>some (.normal,q))
   |false=>(xOps X call ops ops.toList σ m k).bind fun q=>some (.normal,q)
 |.seq x y,σ,m,k=>(J38 X call fuel x σ m k).bind fun q=>match q.1 with
   |.normal=>J38 X call fuel y q.2.1 q.2.2.1 q.2.2.2
   |_=>some q
 |.cond c x y,σ,m,k=>match opd (lf σ) c with
   |.val (.bool true)=>J38 X call fuel x σ m k
   |.val (.bool false)=>J38 X call fuel y σ m k
   |_=>none
 |.block id c,σ,m,k=>(J38 X call fuel c σ m k).bind fun q=>match q.1 with
   |.exit i=>match Nat.beq i id with
     |true=>some (.normal,q.2)
     |false=>some q
   |_=>some q
 |.loop c,σ,m,k=>JGH (J38 X call fuel c) fuel σ m k
 |.exit id,σ,m,k=>some (.exit id,σ,m,k)
 |.scope c,σ,m,k=>(J38 X call fuel c σ m k).bind fun q=>match q.1 with
   |.goto _=>none
   |_=>some q
 |.label _,σ,m,k=>some (.normal,σ,m,k)
 |.ret,σ,m,k=>some (.ret,σ,m,k)
 |_,_,_,_=>none
def JG4 (P:Program)(c:Code)(Q:Exit→Act→World→Prop)(a:Act)(w:World):Prop:=
 ∀ b k cs,∃ e a' w',Q e a' w'∧Arrives P (lone (b.at a (.code c::.inLoop c::k)) cs w) b k cs e a' w'
theorem JAe {P:Program}{c:Code}{Q:Exit→Act→World→Prop}{a:Act}{w:World}(h:c.wp P (fun e a' w'=>match e with|.normal=>JG4 P c Q a' w'|e=>Q e a' w') a w):JG4 P c Q a w:=by
 intro b k cs;obtain ⟨e,a',w',hq,harr⟩:=h b (.inLoop c::k) cs
 cases e with
 |normal=>
   obtain ⟨e2,a2,w2,hq2,harr2⟩:=hq b k cs;exact ⟨e2,a2,w2,hq2,.of_steps (Steps.trans harr (.one step_inLoop)) harr2⟩
 |exit id=>exact ⟨_,a',w',hq,.pass (x:=.inLoop c) rfl (fun _ _=>.inl (by simp)) harr⟩
 |goto l=>exact ⟨_,a',w',hq,.pass (x:=.inLoop c) rfl (fun _ _=>.inl (by simp)) harr⟩
 |ret=>exact ⟨_,a',w',hq,.pass (x:=.inLoop c) rfl (fun _ _=>.inl (by simp)) harr⟩
 |panic ch=>exact ⟨_,a',w',hq,.pass (x:=.inLoop c) rfl (fun _ _=>.inl (by simp)) harr⟩
 |outgrown=>exact ⟨_,a',w',hq,.pass (x:=.inLoop c) rfl (fun _ _=>.inl (by simp)) harr⟩
section
variable {X:XE} {gh:Gh} {call:CallX}
theorem J4z {P:Program}{c:Code}{body:List AV→Mem→Nat→Option (Exit×St3)}
  (hbody:∀ σ m k e q a w,body σ m k=some (e,q)→RelX gh σ m k a w→c.wp P (fun e' a' w'=>e'=e∧RelX gh q.1 q.2.1 q.2.2 a' w') a w) :
  ∀ (n:Nat) (σ:List AV) (m:Mem) (k:Nat) (e:Exit) (q:St3) (a:Act) (w:World),JGH body n σ m k=some (e,q)→RelX gh σ m k a w→JG4 P c (fun e' a' w'=>e'=e∧RelX gh q.1 q.2.1 q.2.2 a' w') a w
 |0,σ,m,k,e,q,a,w,h,_=>by cases h
 |n+1,σ,m,k,e,q,a,w,h,hr=>by
   unfold JGH at h;obtain ⟨⟨e1,σ1,m1,k1⟩,h1,h⟩:=J02 h;refine JAe (wp_mono (hbody _ _ _ _ _ _ _ h1 hr) ?_);rintro e' a' w' ⟨rfl,hr'⟩
   cases e' with
   |normal=>exact J4z hbody n _ _ _ _ _ _ _ h hr'
   |_=>cases h;exact ⟨rfl,hr'⟩
theorem JA4 (hX:XOk X)(hcall:J1C X call)(fuel:Nat):∀ (c:Code) (σ:List AV) (m:Mem) (k:Nat) (e:Exit) (q:St3) (a:Act) (w:World),J0T gh.nt c=true→J38 X call fuel c σ m k=some (e,q)→RelX gh σ m k a w →
  c.wp X.E.P (fun e' a' w'=>e'=e∧RelX gh q.1 q.2.1 q.2.2 a' w') a w:=by
 intro c
 induction c with
 |skip=>intro σ m k e q a w _ h hr;cases h;exact wp_skip ⟨rfl,hr⟩
 |label l=>intro σ m k e q a w _ h hr;cases h;exact wp_label ⟨rfl,hr⟩
 |exit id=>intro σ m k e q a w _ h hr;cases h;exact wp_exit ⟨rfl,hr⟩
 |ret=>intro σ m k e q a w _ h hr;cases h;exact wp_ret ⟨rfl,hr⟩
 |region id ops draw=>
   intro σ m k e q a w hg h hr;obtain ⟨hl,κ,hr,hF⟩:=hr.o
   cases draw with
   |true=>
     unfold J38 at h;obtain ⟨hc,h⟩:=J0B h;simp only[Bool.and_eq_true] at hc;split at h
     case h_2=>
      have hr0:=hr;have hr:=JJE hr (frzS ops σ);split at h
      case h_2=>
       split at h
       case h_2=>
        have hr:=JHA hr0 (frzP ops σ m);obtain ⟨q',h1,h⟩:=J02 h;cases h;refine wp_region_any hX.mixed ?_;refine J0w (X:={ X with froz:=true }) ⟨hX.hT,hX.eqs,hX.keys,hX.arrs,hX.ext,hX.mixed,hX.news⟩ hcall (MInv.of hc.1) hg (q:=q) (fun a w h=>⟨rfl,h⟩) hc.2 (by simp[JEt,hl]) h1 ops.size _ κ a _ (by simp) (by simp) (fun i h=>?_) (hr.drawn _) (fun g hg b=>hF b g hg);simp[Array.getD_eq_getD_getElem?,h]
       rename_i q' h1;cases h;refine wp_region_any hX.mixed ?_;refine J0w (X:={ X with froz:=true }) ⟨hX.hT,hX.eqs,hX.keys,hX.arrs,hX.ext,hX.mixed,hX.news⟩ hcall (MInv.of hc.1) hg (q:=q) (fun a w h=>⟨rfl,h⟩) hc.2 (by simp[frzL,hl]) h1 ops.size _ κ a _ (by simp) (by simp) (fun i h=>?_) (hr.drawn _) (fun g hg b=>hF b g hg);simp[Array.getD_eq_getD_getElem?,h]
      rename_i q' h1;cases h;refine wp_region_any hX.mixed ?_;refine J0w hX hcall (MInv.of hc.1) hg (q:=q) (fun a w h=>⟨rfl,h⟩) hc.2 (by simp[frzL,hl]) h1 ops.size _ κ a _ (by simp) (by simp) (fun i h=>?_) (hr.drawn _) (fun g hg b=>hF b g hg);simp[Array.getD_eq_getD_getElem?,h]
     rename_i q' h1;cases h;refine wp_region_any hX.mixed ?_;refine J0w hX hcall (MInv.of hc.1) hg (q:=q) (fun a w h=>⟨rfl,h⟩) hc.2 hl h1 ops.size _ κ a _ (by simp) (by simp) (fun i h=>?_) (hr.drawn _) (fun g hg b=>hF b g hg);simp[Array.getD_eq_getD_getElem?,h]
   |false=>
     unfold J38 at h;obtain ⟨q',h1,h⟩:=J02 h;cases h;refine wp_region ?_;have:=JCL (gh:=gh) hX hcall ops (Q:=fun e' a' w'=>e'=Exit.normal∧RelX gh q.1 q.2.1 q.2.2 a' w') (σ':=q.1) (m':=q.2.1) (k':=q.2.2) (fun a w h=>⟨rfl,h⟩) ops.size κ σ m k a w (Nat.le_refl _) (fun i _ hi=>List.all_eq_true.1 hg _ (by simp)) (by simpa using h1) hl hr hF
     simpa [List.range_eq_range'] using this
 |seq x y ihx ihy=>
   intro σ m k e q a w hg h hr;simp only[J0T,Bool.and_eq_true] at hg;unfold J38 at h;obtain ⟨⟨e1,q1⟩,h1,h⟩:=J02 h;refine wp_seq (wp_mono (ihx _ _ _ _ _ _ _ hg.1 h1 hr) ?_);rintro e' a' w' ⟨rfl,hr'⟩
   cases e' with
   |normal=>exact ihy _ _ _ _ _ _ _ hg.2 h hr'
   |_=>cases h;exact ⟨rfl,hr'⟩
 |cond c x y ihx ihy=>
   intro σ m k e q a w hg h hr;simp only[J0T,Bool.and_eq_true] at hg;unfold J38 at h;obtain ⟨hl,κ,hr0,hF⟩:=hr.o;have hv:=hr0.opd c hg.1.1;split at h
   ·rename_i hc;rw[hc] at hv;generalize hcv:a.eval c=v at hv
    cases hv with
    |val _ _=>exact wp_cond hcv (ihx _ _ _ _ _ _ _ hg.1.2 h hr)
   ·rename_i hc;rw[hc] at hv;generalize hcv:a.eval c=v at hv
    cases hv with
    |val _ _=>exact wp_cond hcv (ihy _ _ _ _ _ _ _ hg.2 h hr)
   ·cases h
 |block id c ih=>
   intro σ m k e q a w hg h hr;unfold J38 at h;obtain ⟨⟨e1,q1⟩,h1,h⟩:=J02 h;refine wp_block (wp_mono (ih _ _ _ _ _ _ _ hg h1 hr) ?_);rintro e' a' w' ⟨rfl,hr'⟩;cases e'<;>try (cases h;exact ⟨rfl,hr'⟩)
   rename_i id';unfold Exit.inBlock;simp only at h ⊢;split
   ·rename_i e2;subst e2;rw[Nat.beq_refl] at h;cases h;exact ⟨rfl,hr'⟩
   ·rename_i e2
    have:Nat.beq id' id=false:=by
     cases hb:Nat.beq id' id with
     |true=>exact absurd (Nat.eq_of_beq_eq_true hb) e2
     |false=>rfl
    rw[this] at h;cases h;exact ⟨rfl,hr'⟩
 |loop c ih=>
   intro σ m k e q a w hg h hr b kk cs;obtain ⟨e',a',w',hq,harr⟩:=J4z (fun σ m k e q a w h hr=>ih σ m k e q a w hg h hr) fuel σ m k e q a w h hr b kk cs;exact ⟨e',a',w',hq,.of_steps (.one step_loop) harr⟩
 |scope c ih=>
   intro σ m k e q a w hg h hr;unfold J38 at h;obtain ⟨⟨e1,q1⟩,h1,h⟩:=J02 h;refine wp_scope_straight (wp_mono (ih _ _ _ _ _ _ _ hg h1 hr) ?_);rintro e' a' w' ⟨rfl,hr'⟩
   cases e'<;>first|(cases h;done)|(cases h;exact ⟨rfl,hr'⟩)
 |_=>intro σ m k e q a w _ h _;cases h
def xRes (T:Nat→Option TD)(H:Hp)(σ:Fr):List ResultVar→Option (List AV)
 |[]=>some []
 |.tmp t::r=>(xRes T H σ r).bind fun l=>some (σ t::l)
 |.cell a t::r=>(JGI T H t (σ a)).bind fun v=>(xRes T H σ r).bind fun l=>some (v::l)
theorem JA0 {P:Program}{T:Nat→Option TD}(hT:TOk P T){H:Hp}{σ:Fr}:∀ {l:List ResultVar} {xs:List AV},xRes T H σ l=some xs→∀ {C:List AV→Prop},C xs→evRes T H σ l C
 |[],xs,h,C,hC=>by cases h;exact hC
 |.tmp t::r,xs,h,C,hC=>by
   unfold xRes at h;obtain ⟨l,h1,h⟩:=J02 h;cases h;exact JA0 (l:=r) hT h1 hC
 |.cell a t::r,xs,h,C,hC=>by
   unfold xRes at h;obtain ⟨v,h0,h⟩:=J02 h;obtain ⟨l,h1,h⟩:=J02 h;cases h;exact JB9 hT h0 (JA0 (l:=r) hT h1 hC)
def own1:AV→Bool
 |.val _|.sl _ _|.ep _ _|.mp _ _|.dead=>false
 |_=>true
def owns:AV→Bool
 |.agg cs=>cs.any own1
 |.tup cs=>cs.any own1
 |.fn _ a c=>(a++c).any own1
 |x=>own1 x
def gcM (m:Mem)(b:Nat):Mem:=m.filter fun e=>Nat.blt e.1 b
theorem JJD (m:Mem)(b:Nat):Sub (hp (gcM m b)) (hp m):=by
 intro x
 induction m with
 |nil=>exact .inl rfl
 |cons e r ih=>
   obtain ⟨y,v⟩:=e;unfold gcM at ih ⊢
   by_cases hb:Nat.blt y b=true
   ·rw[List.filter_cons_of_pos (by simpa using hb)];unfold hp;split
    ·exact .inl rfl
    ·exact ih
   ·rw[List.filter_cons_of_neg (by simpa using hb)]
    by_cases hxy:x=y
    ·subst hxy;right
     have:∀ l:Mem,(∀ e∈l,e.1≠x)→hp l x=none:=by
      intro l
      induction l with
      |nil=>intro _;rfl
      |cons e l ih=>
        intro h;obtain ⟨z,u⟩:=e;unfold hp;rw[if_neg (fun e=>h (z,u) (by simp) e.symm)];exact ih fun e he=>h e (List.mem_cons_of_mem _ he)
     refine this _ fun e he e2=>?_;have:=(List.mem_filter.1 he).2;rw[e2] at this;exact hb (by simpa using this)
    ·have:hp ((y,v)::r) x=hp r x:=by simp only[hp,if_neg hxy]
     rw[this];exact ih
def J91 (nt:Nat)(args:List AV):List AV:=args++List.replicate (nt-args.length) (.tup [])
theorem JGv (nt:Nat)(args:List AV):lf (J91 nt args)=J1c args:=by
 funext x
 unfold lf J1c J91;rw[List.getD_eq_getElem?_getD]
 by_cases h:x<args.length
 ·rw[List.getElem?_append_left h,List.getElem?_eq_getElem h];rfl
 ·rw[List.getElem?_append_right (by omega),List.getElem?_eq_none (l:=args) (by omega),List.getElem?_replicate];split<;>rfl
def JBA (X:XE)(call:CallX)(fuel:Nat):CallX:=fun n args m k=>
 (X.E.P.funcs[n]?).bind fun fn=>fn.body.bind fun c=>ifB (!(fn.name == "runtime.NumGoroutine")&&J0T fn.ntmps c&&Nat.ble args.length fn.ntmps)
   ((J38 X call fuel c (J91 fn.ntmps args) m k).bind fun q=>match q.1 with
   |.normal|.ret=>(xRes X.E.T (hp q.2.2.1) (lf q.2.1) fn.results.toList).bind fun l=>match args.any owns||owns (J3R l) with
     |true=>some (J3R l,q.2.2.1,q.2.2.2)
     |false=>some (J3R l,gcM q.2.2.1 (k*65536),q.2.2.2)
   |_=>none)
theorem J8N (hX:XOk X)(hcall:J1C X call)(fuel:Nat):J1C X (JBA X call fuel):=by
 intro n args m k r m' k' h;unfold JBA at h;obtain ⟨fn,hf,h⟩:=J02 h;obtain ⟨c,hb,h⟩:=J02 h;obtain ⟨hc,h⟩:=J0B h;obtain ⟨⟨e,σ1,m1,k1⟩,h1,h⟩:=J02 h;simp only[Bool.and_eq_true,Bool.not_eq_true'] at hc;refine ⟨⟨fn,hf,hc.1.1,by rw[hb];rfl⟩,fun gh κ w vs hr hv hF=>?_⟩;have hn:=Nat.le_of_ble_eq_true hc.2;refine calls_of_wp hf hb ?_
 have hr0:Rel { gh with nt:=fn.ntmps,ref:=fun x v=>VR κ w (Nset gh.O κ (hp m)) x v } κ (J1c args) (hp m) { tmps:=vs++Array.replicate (fn.ntmps-vs.size) undef,defers:=[] } w:=by
  refine ⟨hr.nt rfl rfl rfl,fun x=>?_,?_,rfl,fun x v h=>h⟩
  ·show VR κ w (Nset gh.O κ (hp m)) (J1c args x) ((vs++Array.replicate (fn.ntmps-vs.size) undef).getD x undef)
   unfold J1c;have hs:=hv.1
   by_cases hx:x<args.length
   ·rw[List.getElem?_eq_getElem hx,Array.getD_eq_getD_getElem?,Array.getElem?_append_left (by omega),Array.getElem?_eq_getElem (by omega)];exact hv.2 x hx (by omega)
   ·rw[List.getElem?_eq_none (by omega),Array.getD_eq_getD_getElem?,Array.getElem?_append_right (by omega)]
    have:((Array.replicate (fn.ntmps-vs.size) undef)[x-vs.size]?).getD undef=undef:=by
     by_cases hlt:x-vs.size<fn.ntmps-vs.size
     ·simp[hlt]
     ·rw[Array.getElem?_eq_none (by simp;omega)];rfl
    rw[this];exact .tup [] #[] rfl (fun i h=>absurd h (by simp))
  ·have:=hv.1;simp;omega
 rw[← JGv fn.ntmps args] at hr0;have hlen:(J91 fn.ntmps args).length=fn.ntmps:=by simp[J91];omega
 refine wp_mono (JA4 (gh:={ gh with nt:=fn.ntmps,ref:=fun x v=>VR κ w (Nset gh.O κ (hp m)) x v }) hX hcall fuel c _ _ _ _ _ _ _ hc.1.2 h1 ⟨hlen,κ,hr0,hF⟩) ?_;rintro e' a' w' ⟨rfl,hr'⟩;obtain ⟨_,κ',hr',hF'⟩:=hr'.o
 have fin:((xRes X.E.T (hp m1) (lf σ1) fn.results.toList).bind fun l=>match args.any owns||owns (J3R l) with
   |true=>some (J3R l,m1,k1)
   | false=>some (J3R l,gcM m1 (k*65536),k1))=some (r,m',k')→a'.defers=[]∧∃ v,(results fn a'.tmps).run X.E.P w'=.ok v w'∧∃ u κ',Ending.returned v=.returned u∧HRel gh κ' (hp m') w'∧VR κ' w' (Nset gh.O κ' (hp m')) r u ∧
     (∀ {x:AV} {u:Value},VR κ w (Nset gh.O κ (hp m)) x u→VR κ' w' (Nset gh.O κ' (hp m')) x u)∧Fsh κ' k':=by
  intro h;obtain ⟨l,hl,h⟩:=J02 h;obtain ⟨xs,v,hC,hrun,us,hus,hv',rfl⟩:=J3B hX.hT hr' fn (fun xs=>xs=l) (JA0 hX.hT hl rfl);subst hC
  have hp':m'=m1∨m'=gcM m1 (k*65536):=by
   split at h
   ·cases h;exact .inl rfl
   ·cases h;exact .inr rfl
  have hrk:r=J3R xs∧k'=k1:=by
   split at h
   ·cases h;exact ⟨rfl,rfl⟩
   ·cases h;exact ⟨rfl,rfl⟩
  obtain ⟨rfl,rfl⟩:=hrk
  have hsub:Sub (hp m') (hp m1):=by
   rcases hp' with rfl|rfl
   ·exact fun x=>.inl rfl
   ·exact JJD _ _
  obtain ⟨q1,q2⟩:=hr'.hp.sub hsub;exact ⟨hr'.defers,_,hrun,_,κ',rfl,q1.nt rfl rfl rfl,q2 (JAa hus hv'),fun h=>q2 (hr'.tr _ _ h),hF'⟩
 cases e'<;>first|exact fin h|(cases h;done)
def xRun (X:XE)(fuel:Nat):Nat→CallX
 |0=>fun _ _ _ _=>none
 |n+1=>JBA X (xRun X fuel n) fuel
theorem JDU (hX:XOk X)(fuel:Nat):∀ n,J1C X (xRun X fuel n)
 |0=>fun _ _ _ _ _ _ _ h=>by cases h
 |n+1=>J8N hX (JDU hX fuel n) fuel
theorem J2S (hX:XOk X){fuel n f:Nat}{args:List AV}{r:AV}(h:JER (xRun X fuel n) f args=some r):PureCall X.E.P f args r:=(J8g (JDU hX fuel n) h).2
end
end Go.Fw
