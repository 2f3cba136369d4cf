/- Part 41 of the proof. -/
import Derived.Test.YtlblbldolhiokaaGreatDoorDual40
set_option linter.unusedVariables false
set_option linter.unusedSimpArgs false
set_option linter.unusedSectionVars false
set_option maxRecDepth 100000
set_option exponentiation.threshold 400
set_option maxHeartbeats 8000000
namespace Go.Fw
open Go.RowKit
def curB (m:Mem)(b g:Nat):Bool:=match hp m b with
 |some (g',_)=>Nat.beq g' g
 |none=>false
def okA (m:Mem):Nat→AV→Bool
 |_,.dead|_,.val _|_,.sl _ _|_,.fu _ _|_,.ep _ _|_,.mp _ _=>true
 |_,.own b g _ _|_,.op b g _ _|_,.om b g|_,.it b g=>curB m b g
 |n+1,.agg cs|n+1,.tup cs=>cs.all (okA m n)
 |n+1,.fn _ a c=>a.all (okA m n)&&c.all (okA m n)
 |_,_=>false
def cutK (κ:KM)(m:Mem):KM:=fun b g=>match curB m b g with
 |true=>κ b g
 |false=>none
theorem JJY {m:Mem}{b g:Nat}{B:Blk}(h:hp m b=some (g,B)):curB m b g=true:=by
 unfold curB;rw[h];exact Nat.beq_refl g
theorem JFW {m:Mem}{b g:Nat}(h:curB m b g=true):∃ B,hp m b=some (g,B):=by
 unfold curB at h;split at h
 ·rename_i g' B hb;exact ⟨B,by rw[hb,Nat.eq_of_beq_eq_true h]⟩
 ·cases h
theorem J2z {κ:KM}{m:Mem}{b g:Nat}(h:curB m b g=true):cutK κ m b g=κ b g:=by
 unfold cutK;rw[h]
theorem J3k {κ:KM}{m:Mem}{b g:Nat}{K:KI}(h:cutK κ m b g=some K):curB m b g=true∧κ b g=some K:=by
 unfold cutK at h;split at h
 ·rename_i hc;exact ⟨hc,h⟩
 ·cases h
theorem VR.cutK {κ:KM}{w:World}{N:Nat→Prop}{x:AV}{v:Value}{m:Mem}(h:VR κ w N x v):∀ n,okA m n x=true→VR (cutK κ m) w N x v:=by
 induction h with
 |dead v=>intro n _;exact .dead v
 |val v h=>intro n _;exact .val v h
 |agg cs vs h1 _ h2 ih=>
   intro n hn
   cases n with
   |zero=>cases hn
   |succ n=>exact .agg cs vs h1 (fun i h h'=>ih i h h' n (List.all_eq_true.1 (show cs.all (okA m n)=true from hn) _ (List.getElem_mem h))) h2
 |tup cs vs h1 _ ih=>
   intro n hn
   cases n with
   |zero=>cases hn
   |succ n=>exact .tup cs vs h1 (fun i h h'=>ih i h h' n (List.all_eq_true.1 (show cs.all (okA m n)=true from hn) _ (List.getElem_mem h)))
 |slnil n=>intro _ _;exact .slnil n
 |slemp n a=>intro _ _;exact .slemp n a
 |sl n xs c o cap f h1 h2 h3 h4 h5 h6 h7 _=>intro _ _;exact .sl n xs c o cap f h1 h2 h3 h4 h5 h6 h7
 |fu n xs a _ ih=>intro _ _;exact .fu n xs a (ih 0 rfl)
 |ep x k c o f h1 h2 h3 h4 h5 _=>intro _ _;exact .ep x k c o f h1 h2 h3 h4 h5
 |ownnil b g K h1 h2=>intro n hn;exact .ownnil b g K ((J2z (by cases n<;>exact hn)).trans h1) h2
 |own b g off len cap c K h1 h2 h3 h4 hp=>intro n hn;exact .own b g off len cap c K ((J2z (by cases n<;>exact hn)).trans h1) h2 h3 h4 hp
 |op b g i k c K h1 h2 hp=>intro n hn;exact .op b g i k c K ((J2z (by cases n<;>exact hn)).trans h1) h2 hp
 |mp ks vs c A ck h1 h2 h3 h4 h5 h6 h7 _ _=>intro _ _;exact .mp ks vs c A ck h1 h2 h3 h4 h5 h6 h7
 |om b g c K h1 h2 h3=>intro n hn;exact .om b g c K ((J2z (by cases n<;>exact hn)).trans h1) h2 h3
 |it b g c K h1 h2 h3=>intro n hn;exact .it b g c K ((J2z (by cases n<;>exact hn)).trans h1) h2 h3
 |fn f first cap vf vc h1 h2 _ _ ih1 ih2=>
   intro n hn
   cases n with
   |zero=>cases hn
   |succ n=>
     have hn:(first.all (okA m n)&&cap.all (okA m n))=true:=hn;rw[Bool.and_eq_true] at hn;exact .fn f first cap vf vc h1 h2 (fun i h h'=>ih1 i h h' n (List.all_eq_true.1 hn.1 _ (List.getElem_mem h))) (fun i h h'=>ih2 i h h' n (List.all_eq_true.1 hn.2 _ (List.getElem_mem h)))
theorem J3W {X:XE}{call:CallX}(hcall:J1C X call){n:Nat}{args:List AV}{m m':Mem}{k k' b g off len:Nat}{B:Blk}(h:call n args m k=some (.own b g off len,m',k'))
  (hm:∀ x y C,hp m x=some (y,C)→y<k∧J4d C.xs)(ha:∀ a∈args,okA m 3 a=true)(hb:hp m' b=some (g,B))(hB:J4d B.xs):J03 X.E.P n∧HCall X.E.P n args (hp m) (J9w b off len B.e B.n B.xs):=by
 obtain ⟨hc,hq⟩:=hcall _ _ _ _ _ _ _ h;refine ⟨hc,fun gh κ w vs hr hv=>?_⟩;have hsz:gh.w0.heap.size≤w.heap.size:=hr.kept.size
 have hown:∀ c,Own (cutK κ m) (hp m) c→Own κ (hp m) c:=by
  rintro c ⟨x,y,C,K,h1,h2,h3⟩;exact ⟨x,y,C,K,h1,(J3k h2).2,h3⟩
 have hlt:∀ c,Own κ (hp m) c→c<w.heap.size:=fun c hc=>hr.lt hc
 have hr0:HRel { nt:=0,w0:=w,M:=fun c=>Own κ (hp m) c,O:=gh.O } (cutK κ m) (hp m) w:=by
  refine ⟨fun x y C h1=>?_,fun x x' y y' C C' K K' c h1 h2 h3 h4 h5 h6=>?_,fun x y C K c h1 h2 h3=>?_,Agree.refl _ _,rfl,rfl,rfl,⟨k,fun x y hy=>?_⟩,fun c ho=>?_⟩
  ·obtain ⟨K,h2,h3⟩:=hr.blk _ _ _ h1;exact ⟨K,(J2z (JJY h1)).trans h2,J3X (hm _ _ _ h1).2 h3⟩
  ·exact hr.inj _ _ _ _ _ _ _ _ c h1 h2 (J3k h3).2 (J3k h4).2 h5 h6
  ·exact .inr ⟨x,y,C,K,h1,(J3k h2).2,h3⟩
  ·cases hcu:curB m x y with
   |true=>
     obtain ⟨C,h1⟩:=JFW hcu;have:=(hm _ _ _ h1).1;omega
   |false=>unfold cutK;rw[hcu]
  ·obtain ⟨h1,h2⟩:=hr.apart c ho;refine ⟨by show c<w.heap.size;omega,?_⟩;rintro ⟨x,y,C,K,h3,h4,h5⟩
   rcases hr.mine _ _ _ _ _ h3 h4 h5 with h6|h6
   ·omega
   ·exact h2 h6
 have hv0:VRs (cutK κ m) w (Nset gh.O (cutK κ m) (hp m)) args vs:=⟨hv.1,fun i h1 h2=>((hv.2 i h1 h2).cutK 3 (ha _ (List.getElem_mem h1))).mono (by
  rintro c (hc|hc)
  ·exact .inl hc
  ·exact .inr (hown c hc))⟩
 have hF:Fsh (cutK κ m) k:=fun x y hy=>by
  cases hcu:curB m x y with
  |true=>
    obtain ⟨C,h1⟩:=JFW hcu;have:=(hm _ _ _ h1).1;omega
  |false=>unfold cutK;rw[hcu]
 refine (hq _ _ w vs hr0 hv0 hF).mono fun e w' he=>?_;obtain ⟨v,κ',rfl,q1,q2,_,_⟩:=he;obtain ⟨γ,hγ⟩:=J7p hr;obtain ⟨K',hK',hbr⟩:=q1.blk _ _ _ hb
 let κ2:KM:=fun x y=>if x=b∧y=γ then some K' else κ x y
 have hk2:κ2 b γ=some K':=if_pos ⟨rfl,rfl⟩
 have hle:κ.le κ2:=by
  intro x y K hk;show (if x=b∧y=γ then some K' else κ x y)=some K
  by_cases hx:x=b∧y=γ
  ·rw[hx.2,hγ] at hk;cases hk
  ·rw[if_neg hx];exact hk
 have hH:∀ {x y:Nat} {C:Blk},hp [(b,γ,B)] x=some (y,C)→x=b∧y=γ∧C=B:=by
  intro x y C h1;unfold hp at h1;split at h1
  ·rename_i hx;cases h1;exact ⟨hx,rfl,rfl⟩
  ·cases h1
 have hmine:∀ c,K'.c=some c→w.heap.size≤c∨Own κ (hp m) c:=fun c hc=>q1.mine _ _ _ _ _ hb hK' hc
 have hN:∀ c,c<w.heap.size→Nset gh.O κ2 (hp [(b,γ,B)]) c→Nset gh.O κ (hp m) c:=by
  rintro c hc (ho|⟨x,y,C,K,h1,h2,h3⟩)
  ·exact .inl ho
  ·obtain ⟨rfl,rfl,rfl⟩:=hH h1;rw[hk2] at h2;cases h2
   rcases hmine c h3 with h4|h4
   ·omega
   ·exact .inr h4
 have hag:Agree (Nset gh.O κ (hp m)) w w':=⟨q1.kept.size,fun c hc hn=>q1.kept.block c hc fun ho=>hn (.inr ho)⟩;refine ⟨v,.own b γ off len,hp [(b,γ,B)],κ2,rfl,⟨γ,rfl,rfl⟩,?_,?_,fun hx=>hx.step hle hag hN⟩
 ·obtain ⟨G,hG⟩:=hr.fresh;refine ⟨fun x y C h1=>?_,fun x x' y y' C C' K K2 c h1 h2 _ _ _ _=>?_,fun x y C K c h1 h2 h3=>?_,⟨Nat.le_trans hsz q1.kept.size,fun c hc hn=>?_⟩,q1.os.trans hr.os,q1.tape.trans hr.tape,q1.output.trans hr.output,⟨max G (γ+1),fun x y hy=>?_⟩,hr.apart⟩
  ·obtain ⟨rfl,rfl,rfl⟩:=hH h1;exact ⟨K',hk2,J3X hB hbr⟩
  ·rw[(hH h1).1,(hH h2).1]
  ·obtain ⟨rfl,rfl,rfl⟩:=hH h1;rw[hk2] at h2;cases h2
   rcases hmine c h3 with h4|⟨x,y,C,K,h5,h6,h7⟩
   ·exact .inl (Nat.le_trans hsz h4)
   ·exact hr.mine _ _ _ _ _ h5 h6 h7
  ·rw[q1.kept.block c (Nat.lt_of_lt_of_le hc hsz) fun ho=>?_]
   ·exact hr.kept.block c hc hn
   ·obtain ⟨x,y,C,K,h5,h6,h7⟩:=ho
    rcases hr.mine _ _ _ _ _ h5 h6 h7 with h8|h8
    ·omega
    ·exact hn h8
  ·show (if x=b∧y=γ then some K' else κ x y)=none
   rw[if_neg (fun h=>by omega)];exact hG x y (by omega)
 ·cases q2 with
  |ownnil _ _ K h1 h2=>
    rw[hK'] at h1;cases h1;exact .ownnil b γ K' hk2 h2
  |own _ _ _ _ cap c K h1 h2 h3 h4 hp=>
    rw[hK'] at h1;cases h1;exact .own b γ off len cap c K' hk2 h2 h3 h4 hp
def JCa (S:List Nat)(H:Hp):AV→AV
 |.tup cs=>.tup (cs.map (snap S H))
 |x=>snap S H x
theorem JGa {gh:Gh}{κ:KM}{H:Hp}{w:World}(hr:HRel gh κ H w)(S:List Nat){x:AV}{v:Value}(h:VR κ w (Nset gh.O κ H) x v):VR KM.empty w (Nset gh.O κ (rem H S)) (JCa S H x) v:=by
 cases x<;>try exact J1E hr S h
 cases h;rename_i vs h1 h2
 exact .tup _ _ (by simp[h1]) fun i h h'=>by
  simp only[List.getElem_map];exact J1E hr S (h2 i (by simpa using h) h')
def JER (call:CallX)(n:Nat)(args:List AV):Option AV:=(call n args [] 0).bind fun q=>some (JCa (q.2.1.map Prod.fst) (hp q.2.1) q.1)
theorem J2V {X:XE}{call:CallX}(hcall:J1C X call){n:Nat}{args:List AV}{r0:AV}{m':Mem}{k':Nat}(h1:call n args [] 0=some (r0,m',k')):J03 X.E.P n∧PureCall X.E.P n args (JCa (m'.map Prod.fst) (hp m') r0):=by
 obtain ⟨hc,hq⟩:=hcall _ _ _ _ _ _ _ h1;refine ⟨hc,fun O w vs hO hv=>?_⟩
 have hr:HRel { nt:=0,w0:=w,M:=fun _=>False,O:=O } KM.empty (hp []) w:=
  ⟨fun b g B h=>(by cases h),fun b b' g g' B B' K K' c h=>(by cases h),fun b g B K c h=>(by cases h),Agree.refl _ _,rfl,rfl,rfl,⟨0,fun _ _ _=>rfl⟩,fun c hc=>⟨hO c hc,fun h=>h⟩⟩
 have hmono:∀ {y:AV} {u:Value},VR KM.empty w O y u→VR KM.empty w (Nset O KM.empty (hp [])) y u:=fun h=>h.mono (by
  rintro c (h|⟨b,g,B,K,hb,_⟩)
  ·exact h
  ·cases hb)
 refine (hq _ KM.empty w vs hr ⟨hv.1,fun i h h'=>hmono (hv.2 i h h')⟩ (fun _ _ _=>rfl)).mono fun e w' he=>?_;obtain ⟨v,κ',rfl,q1,q2,_,_⟩:=he;refine ⟨v,rfl,(JGa q1 (m'.map Prod.fst) q2).mono fun c hc=>.inl hc,⟨q1.os,q1.tape,q1.output,q1.kept.size,fun c hc=>q1.kept.block c hc fun h=>h⟩⟩
theorem J8g {X:XE}{call:CallX}(hcall:J1C X call){n:Nat}{args:List AV}{r:AV}(h:JER call n args=some r):J03 X.E.P n∧PureCall X.E.P n args r:=by
 obtain ⟨⟨r0,m',k'⟩,h1,h⟩:=J02 h;cases h;exact J2V hcall h1
def JBt (xs:List AV):Bool:=xs.all fun x=>x.cells.all J92
theorem J1z {xs:List AV}(h:JBt xs=true):J4d xs:=fun x hx c hc=>List.all_eq_true.1 (List.all_eq_true.1 h x hx) c hc
def xNew (base γ:Nat)(d:Option Nat)(r:AV)(m':Mem):Option (AV×Up):=
 match d,r with
 |some dd,.own b g off len=>(hp m' b).bind fun B=>ifB (Nat.beq B.1 g&&JBt B.2.xs) (some (.own (base+dd) γ off len,some (base+dd,γ,⟨B.2.e,B.2.n,B.2.xs⟩)))
 |_,_=>none
def xMod (call:CallX)(γ:Nat)(n:Nat)(S:List Nat)(args:List AV)(H:Hp):List Nat→Option (AV×Up)
 |[]=>none
 |b :: r=>match (H b).bind fun B=>ifB (JBt B.2.xs) (ifB ((args.map (fz b S H)).all (okA [(0,B.1,B.2)] 3)) ((call n (args.map (fz b S H)) [(0,B.1,B.2)] (B.1+1)).bind fun q=>match q.1 with
     |.own 0 g off len=>(hp q.2.1 0).bind fun B'=>ifB (Nat.beq B'.1 g&&JBt B'.2.xs) (some (.own b γ off len,some (b,γ,⟨B'.2.e,B'.2.n,B'.2.xs⟩)))
     |_=>none)) with
   |some q=>some q
   |none=>xMod call γ n S args H r
def JJw (γ:Nat)(S:List Nat)(H:Hp)(r:AV):Option (AV×Up):=match S with
 |[b]=>(H b).bind fun B=>ifB (Nat.blt 0 B.2.n) (some (r,some (b,γ,⟨B.2.e,B.2.n,[]⟩)))
 |_=>none
def JDd (X:XE)(call:CallX)(base γ:Nat)(n:Nat)(S:List Nat)(args:List AV)(H:Hp)(d:Option Nat):Option (AV×Up):=
 match X.news n (args.map (snap S H)) with
 |some (b,off,len,e,k,xs)=>d.bind fun dd=>some (.own (base+dd) γ off len,some (base+dd,γ,⟨e,k,xs⟩))
 |none=>match call n (args.map (snap S H)) [] 0 with
 |some (r,m',_)=>match xNew base γ d r m',!(X.froz&&S.isEmpty)&&(args.map (snap S H)).all (okA [] 3) with
   |some q,true=>some q
   |_,_=>match flat (JCa (m'.map Prod.fst) (hp m') r)||S.isEmpty with
     |true=>some (JCa (m'.map Prod.fst) (hp m') r,none)
     |false=>match xMod call γ n S args H S with
       |some q=>some q
       |none=>JJw γ S H (JCa (m'.map Prod.fst) (hp m') r)
 |none=>xMod call γ n S args H S
theorem JA1 {X:XE}{call:CallX}(hcall:J1C X call){E:En}(hE:E.P=X.E.P){γ n:Nat}{S:List Nat}{args:List AV}{H:Hp}{d:Option Nat}{q:AV×Up}:∀ {l:List Nat},(∀ b∈l,b∈S)→xMod call γ n S args H l=some q→J03 E.P n∧JDL E γ n S args H d fun v up=>v=q.1∧up=q.2
 |[],_,h=>by cases h
 |b :: r,hl,h=>by
   unfold xMod at h;split at h
   ·rename_i q' hq;cases h;obtain ⟨⟨g,B⟩,h1,hq⟩:=J02 hq;obtain ⟨h2,hq⟩:=J0B hq;obtain ⟨h3,hq⟩:=J0B hq;obtain ⟨⟨r0,m',k'⟩,h4,hq⟩:=J02 hq;split at hq
    ·rename_i x g' off len hx0;have hx0:r0=.own 0 g' off len:=hx0;subst hx0;obtain ⟨⟨g2,B'⟩,h5,hq1⟩:=J02 hq;obtain ⟨h6,hq2⟩:=J0B hq1;clear hq hq1;simp only[Bool.and_eq_true] at h6;have e:g2=g':=Nat.eq_of_beq_eq_true h6.1;subst e;have e2:=Option.some.inj hq2;subst e2
     have hH:hp [(0,g,B)]=fun x=>if x=0 then some (g,B) else none:=rfl
     obtain ⟨q1,q2⟩:=J3W hcall h4 (fun x y C hx=>by
      rw[hH] at hx;simp only at hx;split at hx
      ·cases hx;exact ⟨Nat.lt_succ_self _,J1z h2⟩
      ·cases hx) (List.all_eq_true.1 h3) h5 (J1z h6.2)
     rw[hE];exact ⟨q1,.inr (.inr (.inl ⟨b,g,B,B'.e,B'.n,B'.xs,off,len,hl b (by simp),h1,J1z h2,J1z h6.2,by rw[hE];exact q2,rfl,rfl⟩))⟩
    ·cases hq
   ·exact JA1 hcall hE (fun b hb=>hl b (List.mem_cons_of_mem _ hb)) h
theorem JDc {X:XE}(hX:XOk X){call:CallX}(hcall:J1C X call){E:En}(hE:E.P=X.E.P){γ n:Nat}{S:List Nat}{args:List AV}{H:Hp}{d:Option Nat}{q:AV×Up}(h:JDd X call E.base γ n S args H d=some q):J03 E.P n∧JDL E γ n S args H d fun v up=>v=q.1∧up=q.2:=by
 unfold JDd at h;split at h
 ·rename_i b off len e k xs hn;obtain ⟨dd,h1,h⟩:=J02 h;have e2:=Option.some.inj h;subst e2;obtain ⟨q1,q2,q3⟩:=hX.news _ _ _ _ _ _ _ _ hn;rw[hE];exact ⟨q1,.inr (.inl ⟨dd,b,e,k,xs,off,len,h1,q2,by rw[hE];exact q3,rfl,rfl⟩)⟩
 split at h
 ·rename_i r m' k' hc;split at h
  ·rename_i q' hn ha;cases h;rw[Bool.and_eq_true] at ha;replace ha:=ha.2;unfold xNew at hn;split at hn
   ·rename_i dd b g off len;obtain ⟨⟨g',B⟩,h1,hn1⟩:=J02 hn;obtain ⟨h2,hn2⟩:=J0B hn1;clear hn hn1;simp only[Bool.and_eq_true] at h2;have e:g'=g:=Nat.eq_of_beq_eq_true h2.1;subst e;have e2:=Option.some.inj hn2;subst e2;obtain ⟨q1,q2⟩:=J3W hcall hc (fun x y C hx=>by cases hx) (List.all_eq_true.1 ha) h1 (J1z h2.2);rw[hE];exact ⟨q1,.inr (.inl ⟨dd,b,B.e,B.n,B.xs,off,len,rfl,J1z h2.2,by rw[hE];exact q2,rfl,rfl⟩)⟩
   ·cases hn
  ·split at h
   case h_2=>
    split at h
    ·rename_i q' hq;cases h;exact JA1 hcall hE (fun b hb=>hb) hq
    ·unfold JJw at h;split at h
     ·rename_i b _ _ _ _;obtain ⟨⟨g,B⟩,h1,h2⟩:=J02 h;obtain ⟨h3,h4⟩:=J0B h2;clear h h2;have e2:=Option.some.inj h4;subst e2;obtain ⟨q1,q2⟩:=J2V hcall hc;rw[hE];exact ⟨q1,.inr (.inr (.inr (.inr ⟨b,g,B,_,rfl,h1,Nat.blt_eq ▸ h3,by rw[hE];exact q2,rfl,rfl⟩)))⟩
     ·cases h
   rename_i h2;cases h;obtain ⟨q1,q2⟩:=J2V hcall hc;rw[hE];refine ⟨q1,?_⟩;rw[Bool.or_eq_true] at h2
   rcases h2 with h2|h2
   ·exact .inr (.inr (.inr (.inl ⟨_,h2,by rw[hE];exact q2,rfl,rfl⟩)))
   ·have e:S=[]:=List.isEmpty_iff.1 h2;subst e;rw[JBG] at q2;exact .inl ⟨_,by rw[hE];exact q2,rfl,rfl⟩
 ·exact JA1 hcall hE (fun b hb=>hb) h
end Go.Fw
