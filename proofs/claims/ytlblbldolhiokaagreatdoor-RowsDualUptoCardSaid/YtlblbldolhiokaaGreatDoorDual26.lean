/- Part 26 of the proof. -/
import Derived.Test.YtlblbldolhiokaaGreatDoorDual25
set_option linter.unusedVariables false
set_option linter.unusedSimpArgs false
set_option linter.unusedSectionVars false
set_option maxRecDepth 100000
set_option exponentiation.threshold 400
set_option maxHeartbeats 8000000
namespace Go.Fw
open Go.RowKit
def J86 (E:En)(ρ:Operand→AV)(H:Hp)(c:Call)(d:Option Nat)(C:AV→Hp→Prop):Prop:=
 match c.callee with
 |.builtin .len=>match c.args.toList,c.argTypes.toList with
   |[x],[t]=>JHO E.T t (ρ x) fun v=>C v H
   |_,_=>False
 |.builtin .append=>match c.args.toList,c.argTypes.toList,d with
   |[x,y],[t,t'],some d=>match Nat.beq t t' with
     |true=>AllP fun γ=>J4v E.T H t (E.base+d) γ (ρ x) (ρ y) fun v up=>C v (app H up)
     |false=>False
   |_,_,_=>False
 |.builtin .max=>cvMM true (c.args.toList.map ρ) fun v=>C v H
 |.builtin .min=>cvMM false (c.args.toList.map ρ) fun v=>C v H
 |.builtin .clear=>match c.args.toList,c.argTypes.toList with
   |[x],[t]=>JAs E.T H t (ρ x) fun v up=>C v (app H up)
   |_,_=>False
 |.builtin .copy=>match c.args.toList,c.argTypes.toList with
   |[x,y],[t,t']=>JC3 E.T H t (ρ x) (ρ y) fun v up=>C v (app H up)
   |_,_=>False
 |.value f=>match ρ f with
   |.fn (.func n) first cap=>CallP E n (first++c.args.toList.map ρ++cap) H C
   |_=>False
 |_=>False
theorem JAt {E:En}{ρ:Operand→AV}{H:Hp}{c:Call}{d:Option Nat}{C:AV→Hp→Prop}(h:J86 E ρ H c d C):J3Z E ρ H c d C:=by
 obtain ⟨callee,args,ats⟩:=c;unfold J86 at h;unfold J3Z
 cases callee with
 |builtin bi=>
   cases bi<;>simp only at h ⊢<;>try exact h.elim
   ·split at h
    ·split at h
     ·rename_i h1 h2 _ ht;simp only[h1,h2];exact ⟨Nat.eq_of_beq_eq_true ht,fun γ=>J68 (h.out γ)⟩
     ·exact h.elim
    ·exact h.elim
   ·split at h
    ·rename_i h1 h2;simp only[h1,h2];exact JDE h
    ·exact h.elim
   ·split at h
    ·rename_i h1 h2;simp only[h1,h2];exact J9Q h
    ·exact h.elim
   ·split at h
    ·rename_i h1 h2;simp only[h1,h2];exact JC2 h
    ·exact h.elim
   ·exact J83 h
   ·exact J83 h
 |value f=>
   simp only at h ⊢;split at h
   ·rename_i h1;simp only[h1];exact h.out
   ·exact h.elim
 |invoke r m=>exact h.elim
def cvOp (E:En)(ρ:Operand→AV)(H:Hp)(o:Oper)(C:AV→Hp→Prop):Prop:=
 match o.op with
 |.move x=>fv (ρ x) fun v=>C v H
 |.assign x=>fv (ρ x) fun v=>C v H
 |.pick c a b=>match ρ c with
   |.val (.bool t)=>CondP t (fv (ρ a) fun v=>C v H) (fv (ρ b) fun v=>C v H)
   |_=>False
 |.load t x=>J77 E.T H t (ρ x) fun v=>C v H
 |.fieldAddr s x f=>J2G E.T s (ρ x) f fun v=>C v H
 |.field s x f=>J4t E.T s (ρ x) f fun v=>C v H
 |.indexAddr t x i=>J2F E.T H t (ρ x) (ρ i) fun v=>C v H
 |.index t x i=>J85 E.T t (ρ x) (ρ i) fun v=>C v H
 |.extract x i=>J3i (ρ x) i fun v=>C v H
 |.slice t x lo hi mx=>J4s E.P E.T H t (ρ x) (lo.map ρ) (hi.map ρ) (mx.map ρ) fun v=>C v H
 |.binOp op t x y _=>JHP E.P E.T op t (ρ x) (ρ y) fun v=>C v H
 |.unOp op _ x=>cvUn op (ρ x) fun v=>C v H
 |.convert s d x=>JC4 E.T s d (ρ x) fun v=>C v H
 |.makeFunc f first cap=>C (.fn f (first.toList.map ρ) (cap.toList.map ρ)) H
 |.nilCheck x=>match ρ x with
   |.ep y k=>C (.ep y k) H
   |.op b g i k=>C (.op b g i k) H
   |.fn (.func f) a c=>C (.fn (.func f) a c) H
   |_=>False
 |.build t parts=>J87 E.T t (parts.toList.map fun p=>(p.1,ρ p.2)) fun v=>C v H
 |.box t x=>match o.dst with
   |some d=>match J2K (ρ x) with
     |true=>AllP fun γ=>C (.op (E.base+d) γ 0 0) (setH H (E.base+d) (some (γ,⟨t,(ρ x).cells.length,[ρ x]⟩)))
     |false=>False
   |none=>False
 |.alloc t=>match o.dst with
   |some d=>match E.T t with
     |some td=>AllP fun γ=>C (.op (E.base+d) γ 0 0) (setH H (E.base+d) (some (γ,⟨t,td.size,[mkEl td]⟩)))
     |none=>False
   |none=>False
 |.makeSlice t l c=>match o.dst with
   |some d=>AllP fun γ=>JC1 E.T t (E.base+d) γ (ρ l) (ρ c) fun v up=>C v (app H up)
   |none=>False
 |.buildSlice t len parts=>match o.dst with
   |some d=>AllP fun γ=>J2g E.T t (E.base+d) γ len (parts.toList.map fun p=>(p.1,ρ p.2)) fun v up=>C v (app H up)
   |none=>False
 |.store t a x=>J81 E.T H t (ρ a) (ρ x) fun up=>C (.tup []) (app H up)
 |.call c=>J86 E ρ H c o.dst C
 |.makeMap t r=>match o.dst,r with
   |some d,none=>AllP fun γ=>C (.om (E.base+d) γ) (setH H (E.base+d) (some (γ,⟨t,0,[.mp [] []]⟩)))
   |_,_=>False
 |.lookup t x k ok=>J84 E.P E.T H t (ρ x) (ρ k) ok fun v=>C v H
 |.mapUpdate t m k x=>J2E E.P E.T H t (ρ m) (ρ k) (ρ x) fun up=>C (.tup []) (app H up)
 |.insert t m k x=>J2E E.P E.T H t (ρ m) (ρ k) (ρ x) fun up=>C (.tup []) (app H up)
 |.range t x=>match o.dst with
   |some d=>AllP fun γ=>JAn E.T t (E.base+d) γ (ρ x) fun v up=>C v (app H up)
   |none=>False
 |.next it isS=>JFL H (ρ it) isS fun v up=>C v (app H up)
 |.entry it=>JAr H (ρ it) fun v=>C v H
 |_=>False
theorem JFJ {E:En}(hT:TOk E.P E.T){ρ:Operand→AV}{H:Hp}{o:Oper}{C:AV→Hp→Prop}(h:cvOp E ρ H o C):evOp E ρ H o C:=by
 obtain ⟨dst,op,ty,pos,after,guard⟩:=o;unfold cvOp at h;unfold evOp;cases op<;>simp only[J5e] at h ⊢<;>try exact h.elim
 case move=>exact h
 case assign=>exact h
 case pick c a b=>
  generalize ρ c=x at h;split at h
  ·have hq:=h.out;rename_i t;cases t
   ·simpa using hq.2 rfl
   ·simpa using hq.1 rfl
  ·exact h.elim
 case load=>exact J3h hT h
 case fieldAddr=>exact J37 h
 case field=>exact J66 hT h
 case indexAddr=>exact J36 h
 case index=>exact J78 hT h
 case extract=>exact J4U h
 case slice=>exact J62 h
 case binOp=>exact JC5 h
 case unOp=>exact JFG h
 case convert=>exact J9R h
 case makeFunc=>exact h
 case nilCheck=>exact h
 case build=>exact J7A h
 case box t x=>
  cases dst with
  |none=>exact h.elim
  |some d=>
    simp only at h ⊢;split at h
    ·rename_i hk;exact ⟨hk,h.out⟩
    ·exact h.elim
 case alloc t=>
  cases dst with
  |none=>exact h.elim
  |some d=>
    simp only at h ⊢;split at h
    ·rename_i td ht;exact ⟨td,ht,h.out⟩
    ·exact h.elim
 case makeSlice=>
  cases dst with
  |none=>exact h.elim
  |some d=>exact fun γ=>J9P (h.out γ)
 case buildSlice=>
  cases dst with
  |none=>exact h.elim
  |some d=>exact fun γ=>J2f (h.out γ)
 case store=>exact J75 h
 case call=>exact JAt h
 case makeMap t r=>
  cases dst with
  |none=>exact h.elim
  |some d=>cases r with
    |some r=>exact h.elim
    |none=>exact fun γ=>⟨rfl,h.out γ⟩
 case lookup=>exact J65 hT h
 case mapUpdate=>exact J35 hT h
 case insert=>exact J35 hT h
 case range=>
  cases dst with
  |none=>exact h.elim
  |some d=>exact fun γ=>JD9 (h.out γ)
 case next=>exact JFK h
 case entry=>exact JDC h
def J1Y (E:En)(ops:Array Oper):List Oper→Fr→Hp→(Fr→Hp→Prop)→Prop
 |[],σ,H,K=>K σ H
 |o :: r,σ,H,K=>
   match o.guard with
   |none=>cvOp E (opd σ) H o fun x H'=>J1Y E ops r (put σ o.dst x) H' K
   |some (j,want)=>match gdst ops j with
     |some t=>match σ t with
       |.val (.bool b)=>match want with
         |true=>CondP b (cvOp E (opd σ) H o fun x H'=>J1Y E ops r (put σ o.dst x) H' K) (J1Y E ops r (put σ o.dst (.tup [])) H K)
         |false=>CondP b (J1Y E ops r (put σ o.dst (.tup [])) H K) (cvOp E (opd σ) H o fun x H'=>J1Y E ops r (put σ o.dst x) H' K)
       |.tup []=>J1Y E ops r (put σ o.dst (.tup [])) H K
       |_=>False
     |none=>False
section
variable {E:En} {gh:Gh}
theorem JAo (hT:TOk E.P E.T)(ops:Array Oper){Q:Exit→Act→World→Prop}{K:Fr→Hp→Prop}(hQ:∀ a w,Fits gh K a w→Q .normal a w) :
  ∀ (n:Nat) (κ:KM) (σ:Fr) (H:Hp) (a:Act) (w:World),n≤ops.size→(∀ i,ops.size-n≤i→(hi:i<ops.size)→J0t gh.nt ops[i]=true)→J1Y E ops (ops.toList.drop (ops.size-n)) σ H K→Rel gh κ σ H a w →
    wpOps E.P ops Q (List.range' (ops.size-n) n) a w:=by
 intro n
 induction n with
 |zero=>
   intro κ σ H a w _ _ h hr;rw[Nat.sub_zero,List.drop_eq_nil_of_le (by simp)] at h;exact hQ a w ⟨κ,σ,H,h,hr⟩
 |succ n ih =>
   intro κ σ H a w hn hg h hr;have hi:ops.size-(n+1)<ops.size:=by omega
   have hsucc:ops.size-(n+1)+1=ops.size-n:=by omega
   rw[List.drop_eq_getElem_cons (by simpa using hi),hsucc] at h;rw[List.range'_succ,hsucc];have hgo:=hg _ (Nat.le_refl _) hi;have ho:ops[ops.size-(n+1)]?=some ops[ops.size-(n+1)]:=Array.getElem?_eq_getElem hi;simp only[Array.getElem_toList] at h;simp only[wpOps,ho];generalize ops[ops.size-(n+1)]=o at h hgo;unfold J0t at hgo;simp only[Bool.and_eq_true] at hgo;obtain ⟨hd,hops⟩:=hgo;have hd':∀ x,o.dst=some x→x<gh.nt:=by intro x hx;rw[hx] at hd;simpa using hd
   have hρ:∀ x∈o.op.operands.toList,opd σ x=opdG σ x:=fun x hx=>by simp[opdG,List.all_eq_true.1 hops x hx]
   have next:∀ {κ:KM} {σ:Fr} {H:Hp} {a:Act} {w:World},J1Y E ops (ops.toList.drop (ops.size-n)) σ H K→Rel gh κ σ H a w→wpOps E.P ops Q (List.range' (ops.size-n) n) a w:=fun h hr=>ih _ _ _ _ _ (by omega) (fun i hi=>hg i (by omega)) h hr
   have run:∀ (_:cvOp E (opd σ) H o fun x H'=>J1Y E ops (ops.toList.drop (ops.size-n)) (put σ o.dst x) H' K),o.wp E.P a w (wpOps E.P ops Q (List.range' (ops.size-n) n)) Q:=by
    intro h;refine J6u (ρ:=opdG σ) hT hr.hp (fun x=>hr.opdG x) (J6v hρ (JFJ hT h)) fun v w' hs=>?_;obtain ⟨x,H',κ',hC,hr'⟩:=hr.step hd' hs;exact next hC hr'
   have skip:J1Y E ops (ops.toList.drop (ops.size-n)) (put σ o.dst (.tup [])) H K→wpOps E.P ops Q (List.range' (ops.size-n) n) (a.put o.dst undef) w:=fun h=>next h (hr.put o.dst hd' (.tup [] #[] rfl (fun i h=>absurd h (by simp))));unfold J1Y at h;split at h
   ·rename_i hgd;rw[if_pos (by simp[Region.wanted,hgd])];exact .inl (run h)
   ·rename_i j want hgd;split at h
    ·rename_i t ht;have hsl:=hr.slots t
     have hy:yielded ops a.tmps j=match (a.tmps.getD t undef) with|.bool b=>some b|_=>none:=by
      unfold yielded;unfold gdst at ht;rw[ht];simp only[Option.bind_some,Array.getD_eq_getD_getElem?]
      cases a.tmps[t]? with
      |none=>rfl
      |some v=>cases v<;>rfl
     split at h
     ·rename_i b hb;rw[hb] at hsl;generalize hv:a.tmps.getD t undef=v at hsl hy
      cases hsl with
      |val _ _=>
        have h':(b=want→cvOp E (opd σ) H o fun x H'=>J1Y E ops (ops.toList.drop (ops.size-n)) (put σ o.dst x) H' K)∧(b≠want→J1Y E ops (ops.toList.drop (ops.size-n)) (put σ o.dst (.tup [])) H K):=by
         cases want
         ·exact ⟨fun e=>h.out.2 e,fun e=>h.out.1 (by simpa using e)⟩
         ·exact ⟨fun e=>h.out.1 e,fun e=>h.out.2 (by simpa using e)⟩
        by_cases hbw:b=want
        ·rw[if_pos (by simp[Region.wanted,hgd,hy,hbw])];exact .inl (run (h'.1 hbw))
        ·rw[if_neg (by simp[Region.wanted,hgd,hy,hbw])];exact skip (h'.2 hbw)
     ·rename_i hb;rw[hb] at hsl;generalize hv:a.tmps.getD t undef=v at hsl hy
      cases hsl with
      |tup _ vs _ _=>
        rw[if_neg (by simp[Region.wanted,hgd,hy])];exact skip h
     ·exact h.elim
    ·exact h.elim
end
structure WP (σ:Fr) (H:Hp) (R:Fr→Hp→Prop):Prop where
 mk' ::
 o:W σ H R
theorem WP.intro {σ:Fr}{H:Hp}{R:Fr→Hp→Prop}(h:W σ H R):WP σ H R:=⟨h⟩
theorem WP.out {σ:Fr}{H:Hp}{R:Fr→Hp→Prop}(h:WP σ H R):W σ H R:=h.o
structure Box (p:Prop):Prop where
 mk' ::
 o:p
structure thenB (K:Fr→Hp→Prop) (Q:Exit→Fr→Hp→Prop) (e:Exit) (σ:Fr) (H:Hp):Prop where
 mk' ::
 o:JKr K Q e σ H
structure inB (i:Nat) (Q:Exit→Fr→Hp→Prop) (e:Exit) (σ:Fr) (H:Hp):Prop where
 mk' ::
 o:JH1 i Q e σ H
def noG (Q:Exit→Fr→Hp→Prop):Exit→Fr→Hp→Prop
 |.goto _,_,_=>False
 |e,σ,H=>Q e σ H
structure scB (Q:Exit→Fr→Hp→Prop) (e:Exit) (σ:Fr) (H:Hp):Prop where
 mk' ::
 o:noG Q e σ H
structure LoopP (f:(Exit→Fr→Hp→Prop)→Fr→Hp→Prop) (Q:Exit→Fr→Hp→Prop) (σ:Fr) (H:Hp):Prop where
 mk' ::
 o:∃ I:Nat→Fr→Hp→Prop,WP σ H (fun σ' H'=>∃ n,I n σ' H')∧∀ n σ H,I n σ H→f (thenB (fun σ' H'=>WP σ' H' fun σ'' H''=>∃ m,m<n∧I m σ'' H'') Q) σ H
structure DrawP (D:Array Oper→(Fr→Hp→Prop)→Fr→Hp→Prop) (ops:Array Oper) (K:Fr→Hp→Prop) (σ:Fr) (H:Hp):Prop where
 mk' ::
 o:D ops K σ H
theorem LoopP.intro {f:(Exit→Fr→Hp→Prop)→Fr→Hp→Prop}{Q:Exit→Fr→Hp→Prop}{σ:Fr}{H:Hp}(I:Nat→Fr→Hp→Prop)(h0:WP σ H (fun σ' H'=>∃ n,I n σ' H'))
 (h:∀ n σ H,I n σ H→f (thenB (fun σ' H'=>WP σ' H' fun σ'' H''=>∃ m,m<n∧I m σ'' H'') Q) σ H):LoopP f Q σ H:=⟨⟨I,h0,h⟩⟩
theorem DrawP.intro {D:Array Oper→(Fr→Hp→Prop)→Fr→Hp→Prop}{ops:Array Oper}{K:Fr→Hp→Prop}{σ:Fr}{H:Hp}(h:D ops K σ H):DrawP D ops K σ H:=⟨h⟩
theorem DrawP.out {D:Array Oper→(Fr→Hp→Prop)→Fr→Hp→Prop}{ops:Array Oper}{K:Fr→Hp→Prop}{σ:Fr}{H:Hp}(h:DrawP D ops K σ H):D ops K σ H:=h.o
def cpA (E:En)(D:Array Oper→(Fr→Hp→Prop)→Fr→Hp→Prop):Code→(Exit→Fr→Hp→Prop)→Fr→Hp→Prop
 |.skip,Q,σ,H=>Q .normal σ H
 |.region _ ops draw,Q,σ,H=>match draw with
   |true=>DrawP D ops (Q .normal) σ H
   |false=>J1Y E ops ops.toList σ H (Q .normal)
 |.seq x y,Q,σ,H=>WP σ H fun σ H=>Box (cpA E D x (thenB (fun σ H=>Box (cpA E D y Q σ H)) Q) σ H)
 |.cond c x y,Q,σ,H=>match opd σ c with
   |.val (.bool t)=>CondP t (Box (cpA E D x Q σ H)) (Box (cpA E D y Q σ H))
   |_=>False
 |.block id c,Q,σ,H=>Box (cpA E D c (inB id Q) σ H)
 |.loop c,Q,σ,H=>LoopP (fun Q σ H=>Box (cpA E D c Q σ H)) Q σ H
 |.exit id,Q,σ,H=>WP σ H (Q (.exit id))
 |.scope c,Q,σ,H=>Box (cpA E D c (scB Q) σ H)
 |.label _,Q,σ,H=>Q .normal σ H
 |.ret,Q,σ,H=>WP σ H (Q .ret)
 |_,_,_,_=>False
section
variable {E:En} {gh:Gh}
theorem J9T (hT:TOk E.P E.T){D:Array Oper→(Fr→Hp→Prop)→Fr→Hp→Prop}(hD:DOk E D):∀ (c:Code) (Q:Exit→Fr→Hp→Prop) (κ:KM) (σ:Fr) (H:Hp) (a:Act) (w:World),
  J0T gh.nt c=true→cpA E D c Q σ H→Rel gh κ σ H a w→c.wp E.P (lift gh Q) a w:=by
 intro c
 induction c with
 |skip=>intro Q κ σ H a w _ h hr;exact wp_skip ⟨κ,σ,H,h,hr⟩
 |region id ops draw=>
   intro Q κ σ H a w hg h hr
   cases draw with
   |true=>exact hD gh id ops _ κ σ H a w hg (DrawP.out h) hr _ fun a w h=>h
   |false=>
     refine wp_region ?_;have:=JAo (Q:=lift gh Q) hT ops (K:=Q .normal) (fun a w h=>h) ops.size κ σ H a w (Nat.le_refl _) (fun i _ hi=>List.all_eq_true.1 hg _ (by simp)) (by simpa [cpA] using h) hr
     simpa [List.range_eq_range'] using this
 |seq x y ihx ihy=>
   intro Q κ σ H a w hg h hr;simp only[J0T,Bool.and_eq_true] at hg;obtain ⟨κ,σ,H,h,hr⟩:=WP.out h gh κ a w hr;refine wp_seq (wp_mono (ihx _ κ σ H a w hg.1 h.o hr) ?_);rintro e a' w' ⟨κ',σ',H',hq,hr'⟩;have hq:=hq.o
   cases e<;>first|exact ihy _ κ' σ' H' a' w' hg.2 (Box.o hq) hr'|exact ⟨κ',σ',H',hq,hr'⟩
 |cond c x y ihx ihy=>
   intro Q κ σ H a w hg h hr;simp only[J0T,Bool.and_eq_true] at hg;unfold cpA at h;split at h
   ·rename_i t hc;have hv:=hr.opd c hg.1.1;rw[hc] at hv;generalize hcv:a.eval c=v at hv
    cases hv with
    |val _ _=>
      refine wp_cond hcv ?_;cases t
      ·exact ihy _ κ σ H a w hg.2 (h.out.2 rfl).o hr
      ·exact ihx _ κ σ H a w hg.1.2 (h.out.1 rfl).o hr
   ·exact h.elim
 |block id c ih=>
   intro Q κ σ H a w hg h hr;refine wp_block (wp_mono (ih _ κ σ H a w hg h.o hr) ?_);rintro e a' w' ⟨κ',σ',H',hq,hr'⟩;have hq:=hq.o;cases e<;>try exact ⟨κ',σ',H',hq,hr'⟩
   rename_i id';unfold JH1 at hq;unfold Exit.inBlock;simp only at hq ⊢;split
   ·rename_i e;rw[if_pos e] at hq;exact ⟨κ',σ',H',hq,hr'⟩
   ·rename_i e;rw[if_neg e] at hq;exact ⟨κ',σ',H',hq,hr'⟩
 |loop c ih=>
   intro Q κ σ H a w hg h hr;obtain ⟨I,h0,hstep⟩:=h.o;obtain ⟨κ,σ,H,⟨n,h0⟩,hr⟩:=h0.out gh κ a w hr;intro b k cs
   have key:∀ n a w,Fits gh (I n) a w→∃ e a' w',lift gh Q e a' w'∧Arrives E.P (lone (b.at a (.code c::.inLoop c::k)) cs w) b k cs e a' w':=by
    intro n
    induction n using Nat.strongRecOn with
    |_ n ihn=>
      rintro a w ⟨κ,σ,H,hI,hr⟩;obtain ⟨e,a',w',hq,harr⟩:=ih _ κ σ H a w hg (hstep n σ H hI).o hr b (.inLoop c::k) cs;obtain ⟨κ',σ',H',hq,hr'⟩:=hq;have hq:=hq.o
      cases e with
      |normal=>
        obtain ⟨κ',σ',H',⟨m,hm,hI'⟩,hr'⟩:=hq.out gh κ' a' w' hr';obtain ⟨e2,a2,w2,hq2,harr2⟩:=ihn m hm a' w' ⟨κ',σ',H',hI',hr'⟩;exact ⟨e2,a2,w2,hq2,.of_steps (Steps.trans harr (.one step_inLoop)) harr2⟩
      |exit id=>exact ⟨_,a',w',⟨κ',σ',H',hq,hr'⟩,.pass (x:=.inLoop c) rfl (fun _ _=>.inl (by simp)) harr⟩
      |goto l=>exact ⟨_,a',w',⟨κ',σ',H',hq,hr'⟩,.pass (x:=.inLoop c) rfl (fun _ _=>.inl (by simp)) harr⟩
      |ret=>exact ⟨_,a',w',⟨κ',σ',H',hq,hr'⟩,.pass (x:=.inLoop c) rfl (fun _ _=>.inl (by simp)) harr⟩
      |panic ch=>exact ⟨_,a',w',⟨κ',σ',H',hq,hr'⟩,.pass (x:=.inLoop c) rfl (fun _ _=>.inl (by simp)) harr⟩
      |outgrown=>exact ⟨_,a',w',⟨κ',σ',H',hq,hr'⟩,.pass (x:=.inLoop c) rfl (fun _ _=>.inl (by simp)) harr⟩
   obtain ⟨e,a',w',hq,harr⟩:=key n a w ⟨κ,σ,H,h0,hr⟩;exact ⟨e,a',w',hq,.of_steps (.one step_loop) harr⟩
 |scope c ih=>
   intro Q κ σ H a w hg h hr;refine wp_scope_straight (wp_mono (ih _ κ σ H a w hg h.o hr) ?_);rintro e a' w' ⟨κ',σ',H',hq,hr'⟩;have hq:=hq.o
   cases e<;>first|exact hq.elim|exact ⟨κ',σ',H',hq,hr'⟩
 |label l=>intro Q κ σ H a w _ h hr;exact wp_label ⟨κ,σ,H,h,hr⟩
 |exit id=>
   intro Q κ σ H a w _ h hr;obtain ⟨κ',σ',H',hq,hr'⟩:=WP.out h gh κ a w hr;exact wp_exit ⟨κ',σ',H',hq,hr'⟩
 |ret=>
   intro Q κ σ H a w _ h hr;obtain ⟨κ',σ',H',hq,hr'⟩:=WP.out h gh κ a w hr;exact wp_ret ⟨κ',σ',H',hq,hr'⟩
 |_=>intro Q κ σ H a w _ h hr;exact h.elim
end
section
variable {E:En} {D:Array Oper→(Fr→Hp→Prop)→Fr→Hp→Prop} {Q:Exit→Fr→Hp→Prop} {σ:Fr} {H:Hp}
theorem JHR (h:Q .normal σ H):Box (cpA E D .skip Q σ H):=⟨h⟩
theorem JDF {i:Nat}{ops:Array Oper}(h:J1Y E ops ops.toList σ H (Q .normal)):Box (cpA E D (.region i ops false) Q σ H):=⟨h⟩
theorem JHV {i:Nat}{ops:Array Oper}(h:DrawP D ops (Q .normal) σ H):Box (cpA E D (.region i ops true) Q σ H):=⟨h⟩
theorem J0r {x y:Code}(h:Box (cpA E D x (thenB (fun σ H=>Box (cpA E D y Q σ H)) Q) σ H)):Box (cpA E D (.seq x y) Q σ H):=⟨WP.intro fun gh κ a w hr=>⟨κ,σ,H,h,hr⟩⟩
theorem J0e {x y:Code}(h:W σ H fun σ H=>Box (cpA E D x (thenB (fun σ H=>Box (cpA E D y Q σ H)) Q) σ H)):Box (cpA E D (.seq x y) Q σ H):=⟨WP.intro h⟩
theorem JHW {c:Operand}{x y:Code}(h:match opd σ c with|.val (.bool t)=>CondP t (Box (cpA E D x Q σ H)) (Box (cpA E D y Q σ H))|_=>False):Box (cpA E D (.cond c x y) Q σ H):=⟨by simp only[cpA];exact h⟩
theorem JFa {i:Nat}{c:Code}(h:Box (cpA E D c (inB i Q) σ H)):Box (cpA E D (.block i c) Q σ H):=⟨h⟩
theorem JHT {c:Code}(h:LoopP (fun Q σ H=>Box (cpA E D c Q σ H)) Q σ H):Box (cpA E D (.loop c) Q σ H):=⟨h⟩
theorem JHU {i:Nat}(h:Q (.exit i) σ H):Box (cpA E D (.exit i) Q σ H):=⟨WP.intro fun gh κ a w hr=>⟨κ,σ,H,h,hr⟩⟩
theorem JFY (h:Q .ret σ H):Box (cpA E D .ret Q σ H):=⟨WP.intro fun gh κ a w hr=>⟨κ,σ,H,h,hr⟩⟩
theorem JHS (h:W σ H (Q .ret)):Box (cpA E D .ret Q σ H):=⟨WP.intro h⟩
theorem JIj {K:Fr→Hp→Prop}(h:K σ H):thenB K Q .normal σ H:=⟨h⟩
theorem JIk {K:Fr→Hp→Prop}{i:Nat}(h:Q (.exit i) σ H):thenB K Q (.exit i) σ H:=⟨h⟩
theorem JIi {K:Fr→Hp→Prop}(h:Q .ret σ H):thenB K Q .ret σ H:=⟨h⟩
theorem JFX {c:Code}(h:Box (cpA E D c (scB Q) σ H)):Box (cpA E D (.scope c) Q σ H):=⟨h⟩
theorem JFZ {l:Nat}(h:Q .normal σ H):Box (cpA E D (.label l) Q σ H):=⟨h⟩
theorem JKv (h:Q .normal σ H):scB Q .normal σ H:=⟨h⟩
theorem JKw {i:Nat}(h:Q (.exit i) σ H):scB Q (.exit i) σ H:=⟨h⟩
theorem JKu (h:Q .ret σ H):scB Q .ret σ H:=⟨h⟩
theorem JJA {i:Nat}(h:Q .normal σ H):inB i Q .normal σ H:=⟨h⟩
theorem JJ8 {i:Nat}(h:Q .ret σ H):inB i Q .ret σ H:=⟨h⟩
theorem JJB {i:Nat}(h:Q .normal σ H):inB i Q (.exit i) σ H:=⟨by simp only[JH1,if_pos];exact h⟩
theorem JJ9 {i j:Nat}(e:Nat.beq j i=false)(h:Q (.exit j) σ H):inB i Q (.exit j) σ H:=⟨by simp only[JH1];rw[if_neg (fun e'=>by subst e';rw[Nat.beq_refl] at e;cases e)];exact h⟩
end
end Go.Fw
