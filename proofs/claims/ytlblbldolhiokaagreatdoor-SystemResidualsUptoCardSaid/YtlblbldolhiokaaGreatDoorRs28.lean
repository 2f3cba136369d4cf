/- Part 28 of a proof. -/
import Derived.Test.YtlblbldolhiokaaGreatDoorRs27
set_option linter.all false
set_option maxRecDepth 99999
set_option maxHeartbeats 0
namespace Go.Fw
open Go.RowKit
def JHQ:AV→AV:=snap [] fun _=>none
def JHP (H:Hp)(n:Nat)(x:AV):J08 [] H n x=J08 [] (fun _=>none) n x:=by
 induction n generalizing x with
 |zero=>cases x<;>simp[J08]
 |succ n ih=>
   have e:J08 [] H n=J08 [] (fun _=>none) n:=funext ih;cases x<;>simp[J08,e]
def JE5 (H:Hp):snap [] H=JHQ:=by
 funext x
 have:∀ n,J08 [] H n=J08 [] (fun _=>none) n:=fun n=>funext fun x=>JHP H n x;unfold JHQ snap;rw[this]
def mv (f:Nat→Option Nat):Nat→AV→AV
 |_,.own b g o l=>match f b with
   |some b'=>.own b' g o l
   |none=>.dead
 |_,.op b g i k=>match f b with
   |some b'=>.op b' g i k
   |none=>.dead
 |_,.val v=>.val v
 |_,.sl n xs=>.sl n xs
 |_,.ep x k=>.ep x k
 |_,.mp ks vs=>.mp ks vs
 |_,.om b g=>match f b with
   |some b'=>.om b' g
   |none=>.dead
 |_,.it b g=>match f b with
   |some b'=>.it b' g
   |none=>.dead
 |n+1,.agg cs=>.agg (cs.map (mv f n))
 |n+1,.tup cs=>.tup (cs.map (mv f n))
 |n+1,.fn h a c=>.fn h (a.map (mv f n)) (c.map (mv f n))
 |_,_=>.dead
def JDF {κ κ':KM}{w:World}{N:Nat→Prop}{f:Nat→Option Nat}(hf:∀ b b' g K,f b=some b'→κ b g=some K→κ' b' g=some K) :
  ∀ (n:Nat) {x:AV} {v:Value},VR κ w N x v→VR κ' w N (mv f n x) v:=by
 have hv:∀ {y:AV} {v:Value},VR KM.empty w N y v→VR κ' w N y v:=fun h=>h.lift;intro n
 induction n with
 |zero=>
   intro x v h
   cases h with
   |val _ hp=>exact .val _ hp
   |slnil n=>exact .slnil n
   |slemp n a=>exact .slemp n a
   |sl n xs c o cap g h1 h2 h3 h4 h5 h6 h7=>exact .sl n xs c o cap g h1 h2 h3 h4 h5 h6 h7
   |ep x k c o g h1 h2 h3 h4 h5=>exact .ep x k c o g h1 h2 h3 h4 h5
   |ownnil b g K h1 h2=>
     simp only[mv];split
     ·rename_i b' hb;exact .ownnil b' g K (hf _ _ _ _ hb h1) h2
     exact .dead _
   |own b g off len cap c K h1 h2 h3 h4 hp=>
     simp only[mv];split
     ·rename_i b' hb;exact .own b' g off len cap c K (hf _ _ _ _ hb h1) h2 h3 h4 hp
     exact .dead _
   |op b g i k c K h1 h2 hp=>
     simp only[mv];split
     ·rename_i b' hb;exact .op b' g i k c K (hf _ _ _ _ hb h1) h2 hp
     exact .dead _
   |mp ks vs c A ck h1 h2 h3 h4 h5 h6 h7=>exact .mp ks vs c A ck h1 h2 h3 h4 h5 h6 h7
   |om b g c K h1 h2 h3=>
     simp only[mv];split
     ·rename_i b' hb;exact .om b' g c K (hf _ _ _ _ hb h1) h2 h3
     exact .dead _
   |it b g c K h1 h2 h3=>
     simp only[mv];split
     ·rename_i b' hb;exact .it b' g c K (hf _ _ _ _ hb h1) h2 h3
     exact .dead _
   |_=>exact .dead _
 |succ n ih=>
   intro x v h
   cases h with
   |val _ hp=>exact .val _ hp
   |slnil n=>exact .slnil n
   |slemp n a=>exact .slemp n a
   |sl n xs c o cap g h1 h2 h3 h4 h5 h6 h7=>exact .sl n xs c o cap g h1 h2 h3 h4 h5 h6 h7
   |ep x k c o g h1 h2 h3 h4 h5=>exact .ep x k c o g h1 h2 h3 h4 h5
   |ownnil b g K h1 h2=>
     simp only[mv];split
     ·rename_i b' hb;exact .ownnil b' g K (hf _ _ _ _ hb h1) h2
     exact .dead _
   |own b g off len cap c K h1 h2 h3 h4 hp=>
     simp only[mv];split
     ·rename_i b' hb;exact .own b' g off len cap c K (hf _ _ _ _ hb h1) h2 h3 h4 hp
     exact .dead _
   |op b g i k c K h1 h2 hp=>
     simp only[mv];split
     ·rename_i b' hb;exact .op b' g i k c K (hf _ _ _ _ hb h1) h2 hp
     exact .dead _
   |mp ks vs c A ck h1 h2 h3 h4 h5 h6 h7=>exact .mp ks vs c A ck h1 h2 h3 h4 h5 h6 h7
   |om b g c K h1 h2 h3=>
     simp only[mv];split
     ·rename_i b' hb;exact .om b' g c K (hf _ _ _ _ hb h1) h2 h3
     exact .dead _
   |it b g c K h1 h2 h3=>
     simp only[mv];split
     ·rename_i b' hb;exact .it b' g c K (hf _ _ _ _ hb h1) h2 h3
     exact .dead _
   |agg cs vs h1 h2 h3=>exact .agg _ _ (by simp[h1]) (fun i h h'=>by simp only[QY];exact ih (h2 i (by simpa using h) h')) h3
   |tup cs vs h1 h2=>exact .tup _ _ (by simp[h1]) (fun i h h'=>by simp only[QY];exact ih (h2 i (by simpa using h) h'))
   |fn h a c vf vc h1 h2 h3 h4=>exact .fn h _ _ vf vc (by simp[h1]) (by simp[h2]) (fun i h h'=>by simp only[QY];exact ih (h3 i (by simpa using h) h')) (fun i h h'=>by simp only[QY];exact ih (h4 i (by simpa using h) h'))
   |fu n xs a h=>exact .dead _
   |dead v=>exact .dead _
def J6J (xs:List AV):Prop:=∀ x∈xs,∀ c∈x.cells,JBi c=true
def JCj (b0 off len e n:Nat)(xs:List AV):AV→Hp→Prop:=fun r h=>∃ γ,r=.own b0 γ off len∧h=hp [(b0,γ,⟨e,n,xs⟩)]
def only (b:Nat):Nat→Option Nat:=fun y=>match Nat.beq y b with
 |true=>some 0
 |false=>none
def nm1:AV→Option Nat
 |.own b _ _ _=>some b
 |.op b _ _ _=>some b
 |.om b _=>some b
 |.it b _=>some b
 |_=>none
def nm:AV→List Nat
 |.own b _ _ _=>[b]
 |.op b _ _ _=>[b]
 |.om b _=>[b]
 |.it b _=>[b]
 |.fn _ a c=>(a++c).filterMap nm1
 |_=>[]
def J2z (b:Nat):List Nat→List Nat
 |[]=>[]
 |x::r=>match Nat.beq x b with
   |true=>J2z b r
   |false=>x::J2z b r
def fz1 (b:Nat)(S:List Nat)(H:Hp):AV→AV
 |.own y g o l=>match Nat.beq y b with
   |true=>.own 0 g o l
   |false=>J08 (J2z b S) H 3 (.own y g o l)
 |.op y g i k=>match Nat.beq y b with
   |true=>.op 0 g i k
   |false=>J08 (J2z b S) H 3 (.op y g i k)
 |.om y g=>match Nat.beq y b with
   |true=>.om 0 g
   |false=>J08 (J2z b S) H 3 (.om y g)
 |x=>J08 (J2z b S) H 3 x
def fz (b:Nat)(S:List Nat)(H:Hp):AV→AV
 |.fn f a c=>.fn f (a.map (fz1 b S H)) (c.map (fz1 b S H))
 |x=>fz1 b S H x
def JGU (E:En)(γ:Nat)(f:Nat)(S:List Nat)(args:List AV)(H:Hp)(d:Option Nat)(C:AV→Up→Prop):Prop:=
 (∃ r,PureCall E.P f (args.map JHQ) r∧C r none) ∨
 (∃ dd b0 e k xs off len,d=some dd∧J6J xs∧HCall E.P f (args.map (snap S H)) (hp []) (JCj b0 off len e k xs)∧C (.own (E.base+dd) γ off len) (some (E.base+dd,γ,⟨e,k,xs⟩))) ∨
 (∃ b g B e k xs off len,b∈S∧H b=some (g,B)∧J6J B.xs∧J6J xs∧HCall E.P f (args.map (fz b S H)) (hp [(0,g,B)]) (JCj 0 off len e k xs)∧C (.own b γ off len) (some (b,γ,⟨e,k,xs⟩))) ∨
 (∃ r,flat r=true∧PureCall E.P f (args.map (snap S H)) r∧C r none) ∨
 (∃ b g B r,S=[b]∧H b=some (g,B)∧0<B.n∧PureCall E.P f (args.map (snap [b] H)) r∧C r (some (b,γ,⟨B.e,B.n,[]⟩)))
def J3I (E:En)(γ:Nat)(ρ:Operand→AV)(H:Hp)(c:Call)(d:Option Nat)(C:AV→Up→Prop):Prop:=
 match c.callee with
 |.builtin .len=>match c.args.toList,c.argTypes.toList with
   |[x],[t]=>evLen E.T t (ρ x) fun v=>C v none
   |_,_=>False
 |.builtin .append=>match c.args.toList,c.argTypes.toList,d with
   |[x,y],[t,t'],some d=>t=t'∧evAppend E.T H t (E.base+d) γ (ρ x) (ρ y) C
   |_,_,_=>False
 |.builtin .max=>evMM true (c.args.toList.map ρ) fun v=>C v none
 |.builtin .min=>evMM false (c.args.toList.map ρ) fun v=>C v none
 |.builtin .copy=>match c.args.toList,c.argTypes.toList with
   |[x,y],[t,t']=>evCopy E.T H t (ρ x) (ρ y) C
   |_,_=>False
 |.value f=>match ρ f with
   |.fn (.func n) first cap=>J05 E.P n∧JGU E γ n ((c.args.toList.map ρ).flatMap nm) (first++c.args.toList.map ρ++cap) H d C
   |_=>False
 |_=>False
def evG (E:En)(γ:Nat)(ρ:Operand→AV)(H:Hp)(o:Oper)(C:AV→Up→Prop):Prop:=
 match o.op with
 |.move x=>C (ρ x) none
 |.assign x=>C (ρ x) none
 |.pick c a b=>match ρ c with
   |.val (.bool t)=>C (if t then ρ a else ρ b) none
   |_=>False
 |.load t x=>evLoad E.T H t (ρ x) fun v=>C v none
 |.fieldAddr s x f=>evFieldAddr E.T s (ρ x) f fun v=>C v none
 |.field s x f=>evField E.T s (ρ x) f fun v=>C v none
 |.indexAddr t x i=>evIndexAddr E.T H t (ρ x) (ρ i) fun v=>C v none
 |.index t x i=>evIndex E.T t (ρ x) (ρ i) fun v=>C v none
 |.extract x i=>evExtract (ρ x) i fun v=>C v none
 |.slice t x lo hi mx=>evSliceA E.P E.T H t (ρ x) (lo.map ρ) (hi.map ρ) (mx.map ρ) fun v=>C v none
 |.binOp op t x y _=>∃ r,C r none∧J4y E.P E.T op t (ρ x) (ρ y) (· = r)
 |.unOp op _ x=>evUn op (ρ x) fun v=>C v none
 |.convert s d x=>evConv E.T s d (ρ x) fun v=>C v none
 |.makeFunc f first cap=>C (.fn f (first.toList.map ρ) (cap.toList.map ρ)) none
 |.nilCheck x=>match ρ x with
   |.ep y k=>C (.ep y k) none
   |.op b g i k=>C (.op b g i k) none
   |.fn (.func f) a c=>C (.fn (.func f) a c) none
   |_=>False
 |.build t parts=>evBuild E.T t (parts.toList.map fun p=>(p.1,ρ p.2)) fun v=>C v none
 |.box t x=>match o.dst with
   |some d=>J2w (ρ x)=true∧C (.op (E.base+d) γ 0 0) (some (E.base+d,γ,⟨t,(ρ x).cells.length,[ρ x]⟩))
   |none=>False
 |.alloc t=>match o.dst with
   |some d=>∃ td,E.T t=some td∧C (.op (E.base+d) γ 0 0) (some (E.base+d,γ,⟨t,td.size,[mkEl td]⟩))
   |none=>False
 |.makeSlice t l c=>match o.dst with
   |some d=>evMake E.T t (E.base+d) γ (ρ l) (ρ c) C
   |none=>False
 |.buildSlice t len parts=>match o.dst with
   |some d=>evBuildSlice E.T t (E.base+d) γ len (parts.toList.map fun p=>(p.1,ρ p.2)) C
   |none=>False
 |.store t a x=>evStore E.T H t (ρ a) (ρ x) fun up=>C (.tup []) up
 |.call c=>J3I E γ ρ H c o.dst C
 |.lookup t x k ok=>evLookup E.P E.T H t (ρ x) (ρ k) ok fun v=>C v none
 |_=>False
section
variable {E:En} {gh:Gh} {κ:KM} {H:Hp} {w:World} {γ:Nat}
def StepG (gh:Gh)(κ:KM)(H:Hp)(w:World)(γ:Nat)(C:AV→Up→Prop)(v:Value)(w':World):Prop:=
 ∃ x up κ',C x up∧HRel gh κ' (app H up) w'∧VR κ' w' (Nset gh.O κ' (app H up)) x v∧(∀ {y:AV} {u:Value},VR κ w (Nset gh.O κ H) y u→VR κ' w' (Nset gh.O κ' (app H up)) y u) ∧
   ∀ g,g≠γ→(∀ b,κ b g=none)→∀ b,κ' b g=none
def StepG.calm (hr:HRel gh κ H w){C:AV→Up→Prop}{x:AV}{v:Value}(h:C x none)(hv:VR κ w (Nset gh.O κ H) x v):StepG gh κ H w γ C v w:=⟨x,none,κ,h,hr,hv,fun h=>h,fun g _ h=>h⟩
def StepG.does {α:Type}{s:Sem α}{up:Up}{P:Program}{vr:KM→World→(Nat→Prop)→α→Prop}(h:Does P gh κ H w s up vr)(hup:∀ d g' B,up=some (d,g',B)→g'=γ∨∃ b,κ b g'≠none) :
  ∃ r w',s.run P w=.ok r w'∧∃ κ',HRel gh κ' (app H up) w'∧vr κ' w' (Nset gh.O κ' (app H up)) r∧(∀ {y:AV} {u:Value},VR κ w (Nset gh.O κ H) y u→VR κ' w' (Nset gh.O κ' (app H up)) y u) ∧
    ∀ g,g≠γ→(∀ b,κ b g=none)→∀ b,κ' b g=none:=by
 obtain ⟨r,w',κ',h1,h2,h3,h4,h5⟩:=h;refine ⟨r,w',h1,κ',h2,h4,h3,fun g hg hn b=>?_⟩;rw[h5 b g ?_]
 ·exact hn b
 rintro d g' B hu ⟨rfl,rfl⟩
 rcases hup _ _ _ hu with h|⟨b',h⟩
 ·exact hg h
 exact h (hn b')
def JJF (hr:HRel gh κ H w){P:Program}{f:Nat}{args:List AV}{vs:Array Value}(hv:VRs κ w (Nset gh.O κ H) args vs){r:AV}(h:PureCall P f (args.map JHQ) r) :
  Calls P f vs w fun e w'=>∃ v,e=.returned v∧HRel gh κ H w'∧VR κ w' (Nset gh.O κ H) r v∧∀ {x:AV} {u:Value},VR κ w (Nset gh.O κ H) x u→VR κ w' (Nset gh.O κ H) x u:=by
 refine (h (Nset gh.O κ H) w vs ?_ ⟨by simpa using hv.1,fun i h h'=>?_⟩).mono ?_
 ·intro c hc
  rcases hc with h|h
  ·exact QP (hr.apart c h).1 hr.kept.size
  exact hr.lt h
 ·simp only[QY];have:=J1X hr [] (hv.2 i (by simpa using h) h')
  rwa [rem_nil,JE5] at this
 rintro e w' ⟨v,rfl,hr',hb⟩;obtain ⟨h1,h2⟩:=J0z hr hb;exact ⟨v,rfl,h1,hr'.lift,h2⟩
def J4u {κ κ':KM}{w:World}{N N':Nat→Prop}{K:KI}{B:Blk}(hf:J6J B.xs)(h:BlkRel κ w N K B):BlkRel κ' w N' K B:=by
 rcases h with ⟨hn,h1,h2,h3⟩|⟨h0,h1,c,h2,h3⟩
 case inr=>
  refine .inr ⟨h0,h1,c,h2,?_⟩;unfold ObR at h3 ⊢;split at h3
  ·rename_i ks vs e;have:=hf (.mp ks vs) (by rw[e];simp) (.mp ks vs) (by simp[AV.cells]);simp[JBi] at this
  ·exact h3
  ·rename_i mk mv l cur e;have:=hf (.mp mk mv) (by rw[e];simp) (.mp mk mv) (by simp[AV.cells]);simp[JBi] at this
  exact h3.elim
 refine .inl ⟨hn,h1,h2,?_⟩
 rcases h3 with h3|⟨c,A,f,k1,k2,k3,k4,k5,k6,k7,k8⟩
 ·exact .inl h3
 refine .inr ⟨c,A,f,k1,k2,k3,k4,k5,k6,fun i h j h'=>?_,k8⟩;have hc:=hf B.xs[i] (by simp) (B.xs[i].cells[j]) (by simp);exact (k7 i h j h').flat (by revert hc;cases B.xs[i].cells[j]<;>simp[JBi,flat])
def JBe {κ κ':KM}{w:World}{N N':Nat→Prop}{b b' g g' off len:Nat}{v:Value}{K:KI}(h:VR κ w N (.own b g off len) v)(hk:κ b g=some K)(hk':κ' b' g'=some K):VR κ' w N' (.own b' g' off len) v:=by
 cases h with
 |ownnil _ _ K' h1 h2=>rw[hk] at h1;cases h1;exact .ownnil b' g' K hk' h2
 |own _ _ _ _ cap c K' h1 h2 h3 h4 hp=>rw[hk] at h1;cases h1;exact .own b' g' off len cap c K hk' h2 h3 h4 hp
def JJH (hr:HRel gh κ H w){P:Program}{f:Nat}{args:List AV}{vs:Array Value}(hv:VRs κ w (Nset gh.O κ H) args vs)(S:List Nat){r:AV}(hf:flat r=true)(h:PureCall P f (args.map (snap S H)) r) :
  Calls P f vs w fun e w'=>∃ v,e=.returned v∧HRel gh κ H w'∧VR κ w' (Nset gh.O κ H) r v∧∀ {x:AV} {u:Value},VR κ w (Nset gh.O κ H) x u→VR κ w' (Nset gh.O κ H) x u:=by
 refine (h (Nset gh.O κ (rem H S)) w vs ?_ ⟨by simpa using hv.1,fun i h h'=>?_⟩).mono ?_
 ·intro c hc
  rcases J0W S hc with h|h
  ·exact QP (hr.apart c h).1 hr.kept.size
  exact hr.lt h
 ·simp only[QY];exact J1X hr S (hv.2 i (by simpa using h) h')
 rintro e w' ⟨v,rfl,hr',hb⟩;obtain ⟨h1,h2⟩:=J0z hr hb;exact ⟨v,rfl,h1,hr'.flat hf,h2⟩
def JJG (hr:HRel gh κ H w)(hγ:∀ b,κ b γ=none){P:Program}{f:Nat}{args:List AV}{vs:Array Value}(hv:VRs κ w (Nset gh.O κ H) args vs){b g:Nat}{B:Blk}{r:AV}(hb:H b=some (g,B))(hn:0<B.n)(h:PureCall P f (args.map (snap [b] H)) r) :
  Calls P f vs w fun e' w'=>∃ v K,e'=.returned v∧HRel gh (κ.set b γ K) (setH H b (some (γ,⟨B.e,B.n,[]⟩))) w'∧VR (κ.set b γ K) w' (Nset gh.O (κ.set b γ K) (setH H b (some (γ,⟨B.e,B.n,[]⟩)))) r v ∧
   ∀ {x:AV} {u:Value},VR κ w (Nset gh.O κ H) x u→VR (κ.set b γ K) w' (Nset gh.O (κ.set b γ K) (setH H b (some (γ,⟨B.e,B.n,[]⟩)))) x u:=by
 refine (h (Nset gh.O κ (rem H [b])) w vs ?_ ⟨by simpa using hv.1,fun i h h'=>?_⟩).mono ?_
 ·intro c hc
  rcases J0W [b] hc with h|h
  ·exact QP (hr.apart c h).1 hr.kept.size
  exact hr.lt h
 ·simp only[QY];exact J1X hr [b] (hv.2 i (by simpa using h) h')
 rintro e w' ⟨v,rfl,hr',hbl⟩;obtain ⟨h1,h2⟩:=J0z hr hbl
 obtain ⟨q1,q2⟩:=h1.replace (d:=b) (γ:=γ) (K:=⟨none,B.n,0⟩) (B:=⟨B.e,B.n,[]⟩) (w':=w') (J0r h1 ..) (Agree.refl _ _) (fun _ _ _ _ _ _ _ _ _=>rfl) ⟨rfl,rfl,rfl⟩ (.inl (hγ b)) (fun c hc=>by cases hc)
  (fun _=>.inl ⟨hn,rfl,fun i h=>absurd h (by simp),.inl ⟨rfl,rfl⟩⟩)
 refine ⟨v,_,rfl,q1,hr'.step (J8O _) (Agree.refl _ _) fun c _ hc=>?_,fun h=>q2 (h2 h)⟩
 rcases hc with hc|⟨y,g',B',K',e1,e2,e3⟩
 ·exact .inl hc
 right
 by_cases hy:y=b
 ·subst hy;simp only[setH,if_pos] at e1;cases e1;rw[J0B] at e2;cases e2;cases e3
 rw[J2C _ _ _ _ hy] at e1;rw[J0P _ _ _ _ (fun h=>hy h.1)] at e2;exact ⟨y,g',B',K',by unfold rem;rw[if_neg (by simpa using hy)];exact e1,e2,e3⟩
def JLh (hr:HRel gh κ H w)(hγ:∀ b,κ b γ=none){P:Program}{f:Nat}{args:List AV}{vs:Array Value}(hv:VRs κ w (Nset gh.O κ H) args vs)(S:List Nat)(b:Nat){b0 e n off len:Nat}{xs:List AV}(hx:J6J xs)
  (h:HCall P f (args.map (snap S H)) (hp []) (JCj b0 off len e n xs)) :
  Calls P f vs w fun e' w'=>∃ v K,e'=.returned v∧HRel gh (κ.set b γ K) (setH H b (some (γ,⟨e,n,xs⟩))) w'∧VR (κ.set b γ K) w' (Nset gh.O (κ.set b γ K) (setH H b (some (γ,⟨e,n,xs⟩)))) (.own b γ off len) v ∧
   ∀ {x:AV} {u:Value},VR κ w (Nset gh.O κ H) x u→VR (κ.set b γ K) w' (Nset gh.O (κ.set b γ K) (setH H b (some (γ,⟨e,n,xs⟩)))) x u:=by
 let gh0:Gh:={ nt:=0,w0:=w,M:=fun _=>False,O:=Nset gh.O κ (rem H S) }
 have hlt:∀ c,Nset gh.O κ H c→c<w.heap.size:=by
  rintro c (hc|hc)
  ·exact QP (hr.apart c hc).1 hr.kept.size
  exact hr.lt hc
 have hr0:HRel gh0 KM.empty (hp []) w:=by
  refine ⟨fun b g B h=>(by cases h),fun b b' g g' B B' K K' c h=>(by cases h),fun b g B K c h=>(by cases h),Agree.refl _ _,rfl,rfl,rfl,⟨0,fun _ _ _=>rfl⟩,fun c hc=>⟨hlt c (J0W S hc),fun h=>h⟩⟩
 refine (h gh0 KM.empty w vs hr0 ⟨by simpa using hv.1,fun i h h'=>?_⟩).mono ?_
 ·simp only[QY];have:=J1X hr S (hv.2 i (by simpa using h) h');refine this.mono fun c hc=>?_
  rcases hc with hc|⟨b,g,B,K,hb,_⟩
  ·exact hc
  cases hb
 rintro e' w' ⟨v,r,h',κ0',rfl,⟨γ',rfl,rfl⟩,hr',hv',htr⟩;obtain ⟨K,hk,hbr⟩:=hr'.blk b0 γ' ⟨e,n,xs⟩ (by simp[hp]);have hag:Agree (fun _=>False) w w':=hr'.kept
 obtain ⟨q1,q2⟩:=hr.replace (d:=b) (γ:=γ) (K:=K) (B:=⟨e,n,xs⟩) (w':=w') (J0r hr ..) (hag.mono fun _ h=>h.elim) (fun y g B' K' c _ h1 h2 h3=>hag.block c (hr.lt ⟨y,g,B',K',h1,h2,h3⟩) fun h=>h)
  ⟨hr'.os,hr'.tape,hr'.output⟩ (.inl (hγ b)) (fun c hc=>.inl ((hr'.mine b0 γ' ⟨e,n,xs⟩ K c (by simp[hp]) hk hc).resolve_right fun h=>h)) (fun _=>J4u hx hbr)
 exact ⟨v,K,rfl,q1,JBe hv' hk (J0B ..),q2⟩
theorem J7n (b:Nat):∀ S:List Nat,b ∉ J2z b S
 |[]=>by simp[J2z]
 |x :: r=>by
   unfold J2z;split
   ·exact J7n b r
   rename_i h;intro hm
   rcases QO.1 hm with e|hm
   ·subst e;rw[Q29] at h;cases h
   exact J7n b r hm
def JIP (hr:HRel gh κ H w){b:Nat}{S:List Nat}{κ0:KM}{N0:Nat→Prop}(hN:∀ c,N0 c→Nset gh.O κ (rem H (J2z b S)) c)(hκ:∀ g K,κ b g=some K→κ0 0 g=some K){x:AV}{v:Value}(h:VR κ w (Nset gh.O κ H) x v):VR κ0 w N0 (fz1 b S H x) v:=by
 have other:∀ {y:AV},VR κ w (Nset gh.O κ H) y v→VR κ0 w N0 (J08 (J2z b S) H 3 y) v:=fun hy=>((J0Z hr (J2z b S) 3 hy).mono hN).lift;unfold fz1;split
 ·rename_i y g o l;split
  ·rename_i e;have:=Q7 e;subst this
   cases h with
   |ownnil _ _ K h1 h2=>exact .ownnil 0 g K (hκ _ _ h1) h2
   |own _ _ _ _ cap c K h1 h2 h3 h4 hp=>exact .own 0 g o l cap c K (hκ _ _ h1) h2 h3 h4 hp
  exact other h
 ·rename_i y g i k;split
  ·rename_i e;have:=Q7 e;subst this
   cases h with
   |op _ _ _ _ c K h1 h2 hp=>exact .op 0 g i k c K (hκ _ _ h1) h2 hp
  exact other h
 ·rename_i y g;split
  ·rename_i e;have:=Q7 e;subst this
   cases h with
   |om _ _ c K h1 h2 h3=>exact .om 0 g c K (hκ _ _ h1) h2 h3
  exact other h
 exact other h
def JPb (hr:HRel gh κ H w){b:Nat}{S:List Nat}{κ0:KM}{N0:Nat→Prop}(hN:∀ c,N0 c→Nset gh.O κ (rem H (J2z b S)) c)(hκ:∀ g K,κ b g=some K→κ0 0 g=some K){x:AV}{v:Value}(h:VR κ w (Nset gh.O κ H) x v):VR κ0 w N0 (fz b S H x) v:=by
 unfold fz;split
 ·rename_i f a c
  cases h with
  |fn _ _ _ vf vc h1 h2 h3 h4=>
    exact .fn f _ _ vf vc (by simp[h1]) (by simp[h2]) (fun i h h'=>by simp only[QY];exact JIP hr hN hκ (h3 i (by simpa using h) h')) (fun i h h'=>by simp only[QY];exact JIP hr hN hκ (h4 i (by simpa using h) h'))
 exact JIP hr hN hκ h
def JLi (hr:HRel gh κ H w)(hγ:∀ b,κ b γ=none){P:Program}{f:Nat}{args:List AV}{vs:Array Value}(hv:VRs κ w (Nset gh.O κ H) args vs){b g:Nat}{B:Blk}(hb:H b=some (g,B))(hB:J6J B.xs){e n off len:Nat}{xs:List AV}(hx:J6J xs)
  (S:List Nat)(h:HCall P f (args.map (fz b S H)) (hp [(0,g,B)]) (JCj 0 off len e n xs)) :
  Calls P f vs w fun e' w'=>∃ v K,e'=.returned v∧HRel gh (κ.set b γ K) (setH H b (some (γ,⟨e,n,xs⟩))) w'∧VR (κ.set b γ K) w' (Nset gh.O (κ.set b γ K) (setH H b (some (γ,⟨e,n,xs⟩)))) (.own b γ off len) v ∧
   ∀ {x:AV} {u:Value},VR κ w (Nset gh.O κ H) x u→VR (κ.set b γ K) w' (Nset gh.O (κ.set b γ K) (setH H b (some (γ,⟨e,n,xs⟩)))) x u:=by
 obtain ⟨K0,hK0,hbr0⟩:=hr.blk _ _ _ hb
 let M0:Nat→Prop:=fun c=>K0.c=some c
 let gh0:Gh:={ nt:=0,w0:=w,M:=M0,O:=fun c=>Nset gh.O κ (rem H (J2z b S)) c∧¬ M0 c }
 let κ0:KM:=fun y g'=>if y=0 then κ b g' else none
 have hlt:∀ c,Nset gh.O κ H c→c<w.heap.size:=by
  rintro c (hc|hc)
  ·exact QP (hr.apart c hc).1 hr.kept.size
  exact hr.lt hc
 have hh:∀ y g' B',hp [(0,g,B)] y=some (g',B')→y=0∧g'=g∧B'=B:=by
  intro y g' B' h;unfold hp at h;split at h
  ·rename_i e;cases h;exact ⟨e,rfl,rfl⟩
  cases h
 have hN:∀ c,Nset gh0.O κ0 (hp [(0,g,B)]) c→Nset gh.O κ (rem H (J2z b S)) c:=by
  rintro c (hc|⟨y,g',B',K',h1,h2,h3⟩)
  ·exact hc.1
  obtain ⟨rfl,rfl,rfl⟩:=hh _ _ _ h1;exact .inr ⟨b,g',B',K',by unfold rem;rw[if_neg (J7n b S)];exact hb,by simpa [κ0] using h2,h3⟩
 have hr0:HRel gh0 κ0 (hp [(0,g,B)]) w:=by
  refine ⟨fun y g' B' h=>?_,fun y y' g1 g2 B1 B2 K1 K2 c h1 h2 _ _ _ _=>?_,fun y g' B' K' c h1 h2 h3=>?_,Agree.refl _ _,rfl,rfl,rfl,?_,fun c hc=>⟨hlt c (J0W _ hc.1),hc.2⟩⟩
  ·obtain ⟨rfl,rfl,rfl⟩:=hh _ _ _ h;exact ⟨K0,by simpa [κ0] using hK0,J4u hB hbr0⟩
  ·rw[(hh _ _ _ h1).1,(hh _ _ _ h2).1]
  ·obtain ⟨rfl,rfl,rfl⟩:=hh _ _ _ h1
   have:K'=K0:=by
    have h2:κ b g'=some K':=by simpa [κ0] using h2
    rw[hK0] at h2;cases h2;rfl
   subst this;exact .inr h3
  obtain ⟨G,hG⟩:=hr.fresh;refine ⟨G,fun y g' hg=>?_⟩;show (if y=0 then κ b g' else none)=none
  split
  ·exact hG _ _ hg
  rfl
 refine (h gh0 κ0 w vs hr0 ⟨by simpa using hv.1,fun i h h'=>?_⟩).mono ?_
 ·simp only[QY];exact JPb hr hN (fun g K h=>by simpa [κ0] using h) (hv.2 i (by simpa using h) h')
 rintro e' w' ⟨v,r,h',κ0',rfl,⟨γ',rfl,rfl⟩,hr',hv',htr⟩;obtain ⟨K,hk,hbr⟩:=hr'.blk 0 γ' ⟨e,n,xs⟩ rfl;have hag:Agree M0 w w':=hr'.kept
 obtain ⟨q1,q2⟩:=hr.replace (d:=b) (γ:=γ) (K:=K) (B:=⟨e,n,xs⟩) (w':=w') (J0r hr ..) (hag.mono fun c h=>⟨b,g,B,K0,hb,hK0,h⟩)
  (fun y g' B' K' c hy h1 h2 h3=>hag.block c (hr.lt ⟨y,g',B',K',h1,h2,h3⟩) fun h=>hy (hr.inj _ _ _ _ _ _ _ _ c h1 hb h2 hK0 h3 h))
  ⟨hr'.os,hr'.tape,hr'.output⟩ (.inl (hγ b)) (fun c hc=>(hr'.mine 0 γ' _ K c rfl hk hc).imp (fun h=>h) fun h=>⟨g,B,K0,hb,hK0,h⟩) (fun _=>J4u hx hbr)
 exact ⟨v,K,rfl,q1,JBe hv' hk (J0B ..),q2⟩
def J7i (hT:TOk E.P E.T)(hγ:∀ b,κ b γ=none)(hr:HRel gh κ H w){a:Act}{ρ:Operand→AV}(hv:∀ x,VR κ w (Nset gh.O κ H) (ρ x) (a.eval x)){o:Oper}{C:AV→Up→Prop}(h:evG E γ ρ H o C)
  {K:Act→World→Prop}{Q:Exit→Act→World→Prop}(hK:∀ v w',StepG gh κ H w γ C v w'→K (a.put o.dst v) w'):o.wp E.P a w K Q:=by
 have val:∀ {s:Sem Value} {v:Value} {w':World},execOp a.eval o=(do pure (.value (← s)):Sem Next)→s.run E.P w=.ok v w'→StepG gh κ H w γ C v w'→o.wp E.P a w K Q:=by
  intro s v w' he hs hst;unfold Oper.wp;rw[he];simp only[QA,hs,QH,QX,Qp];exact hK _ _ hst
 unfold evG at h;split at h
 ·
  rename_i x ho;unfold Oper.wp;simp only[execOp,ho,QX,Qp];exact hK _ _ (StepG.calm hr h (hv x))
 ·rename_i x ho;unfold Oper.wp;simp only[execOp,ho,QX,Qp];exact hK _ _ (StepG.calm hr h (hv x))
 ·rename_i c x y ho;split at h
  ·rename_i t hc;have:=hv c;rw[hc] at this;generalize hcv:a.eval c=cv at this
   cases this with
   |val _ _=>
     unfold Oper.wp;simp only[execOp,ho,hcv,asBool,QA,QX,QH,Qp];refine hK _ _ (StepG.calm hr h ?_);cases t<;>simp<;>exact hv _
  exact h.elim
 ·rename_i t x ho;obtain ⟨y,u,hC,hrun,hy⟩:=J5l hT hr (hv x) h;exact val (s:=Instr.loadAt t (a.eval x)) (by simp only[execOp,ho]) hrun (StepG.calm hr hC hy)
 ·rename_i s x f ho;obtain ⟨y,u,hC,hrun,hy⟩:=J72 hT (hv x) h;exact val (s:=Instr.fieldAt s (a.eval x) f) (by simp only[execOp,ho]) hrun (StepG.calm hr hC hy)
 ·rename_i s x f ho;obtain ⟨y,u,hC,hrun,hy⟩:=JBH hT (hv x) h;exact val (s:=Instr.field s (a.eval x) f) (by simp only[execOp,ho]) hrun (StepG.calm hr hC hy)
 ·rename_i t x i ho;obtain ⟨y,u,hC,hrun,hy⟩:=J71 hT hr (hv x) (hv i) h;exact val (s:=Instr.indexAt t (a.eval x) (a.eval i)) (by simp only[execOp,ho]) hrun (StepG.calm hr hC hy)
 ·rename_i t x i ho;obtain ⟨y,u,hC,hrun,hy⟩:=JBF hT (hv x) (hv i) h;exact val (s:=Instr.index t (a.eval x) (a.eval i)) (by simp only[execOp,ho]) hrun (StepG.calm hr hC hy)
 ·rename_i x i ho;obtain ⟨y,u,hC,hrun,hy⟩:=J73 (P:=E.P) (hv x) h;exact val (s:=Instr.extract (a.eval x) i) (by simp only[execOp,ho]) hrun (StepG.calm hr hC hy)
 ·rename_i t x lo hi mx ho;obtain ⟨y,u,hC,hrun,hy⟩:=J8t hT hr (hv x) (optR ρ a.eval hv lo) (optR ρ a.eval hv hi) (optR ρ a.eval hv mx) h;exact val (s:=Instr.sliceAt t (a.eval x) (lo.map a.eval) (hi.map a.eval) (mx.map a.eval)) (by simp only[execOp,ho]) hrun (StepG.calm hr hC hy)
 ·rename_i op t x y yt ho;obtain ⟨r,hC,h⟩:=h;obtain ⟨z,u,rfl,hrun,hz⟩:=JHf (ox:=x) (oy:=y) hT (hv x) (hv y) h;exact val (s:=do eqGuard op t x y (a.eval x) (a.eval y);binOp op t (a.eval x) (a.eval y)) (by simp only[execOp,ho]) hrun (StepG.calm hr hC hz)
 ·rename_i op t x ho;obtain ⟨y,u,hC,hrun,hy⟩:=JMH (P:=E.P) (hv x) h;exact val (s:=Op.unary op (a.eval x)) (by simp only[execOp,ho]) hrun (StepG.calm hr hC hy)
 ·rename_i s d x ho;obtain ⟨y,u,hC,hrun,hy⟩:=JEF hT (hv x) h;exact val (s:=convert s d (a.eval x)) (by simp only[execOp,ho]) hrun (StepG.calm hr hC hy)
 ·rename_i f first cap ho;refine val (s:=Instr.makeFunc f (first.map a.eval) (cap.map a.eval)) (v:=.func f (first.map a.eval) (cap.map a.eval)) (w':=w) (by simp only[execOp,ho]) (by simp only[Instr.makeFunc,QX]) (StepG.calm hr h ?_);exact .fn f _ _ _ _ (by simp) (by simp) (fun i h h'=>by simp only[QY,Q0x,Qy];exact hv _) (fun i h h'=>by simp only[QY,Q0x,Qy];exact hv _)
 ·rename_i x ho;have hx:=hv x;split at h
  ·rename_i y k he;rw[he] at hx;generalize hxv:a.eval x=xv at hx
   cases hx with
   |ep _ _ c o' f h1 h2 h3 h4 h5=>
     unfold Oper.wp;simp only[execOp,ho,hxv,QX,Qp];exact hK _ _ (StepG.calm hr h (.ep y k c o' f h1 h2 h3 h4 h5))
  ·rename_i b g i k he;rw[he] at hx;generalize hxv:a.eval x=xv at hx
   cases hx with
   |op _ _ _ _ c K' h1 h2 hp=>
     unfold Oper.wp;simp only[execOp,ho,hxv,QX,Qp];exact hK _ _ (StepG.calm hr h (.op b g i k c K' h1 h2 hp))
  ·rename_i f first cap he;rw[he] at hx;generalize hxv:a.eval x=xv at hx
   cases hx with
   |fn _ _ _ vf vc h1 h2 h3 h4=>
     unfold Oper.wp;simp only[execOp,ho,hxv,QX,Qp];exact hK _ _ (StepG.calm hr h (.fn _ _ _ vf vc h1 h2 h3 h4))
  exact h.elim
 ·rename_i t parts ho;obtain ⟨y,u,hC,hrun,hy⟩:=J8y (parts:=parts) (ρ:=ρ) (ρc:=a.eval) hT (fun p _=>hv p.2) h;exact val (s:=Instr.build t (parts.map fun (p:Nat×Operand)=>(p.1,a.eval p.2))) (by simp only[execOp,ho]) hrun (StepG.calm hr hC hy)
 ·rename_i t x ho;split at h
  ·rename_i d hd;obtain ⟨hk,h⟩:=h;obtain ⟨r,w',h1,κ',h2,h3,h4,h5⟩:=StepG.does (γ:=γ) (J7p (P:=E.P) (t:=t) (d:=E.base+d) hr (hγ _) (hv x) hk) (fun _ _ _ e=>.inl (by cases e;rfl));exact val (s:=Instr.box t (a.eval x)) (by simp only[execOp,ho]) h1 ⟨_,_,κ',h,h2,h3,h4,h5⟩
  exact h.elim
 ·rename_i t ho;split at h
  ·rename_i d hd;obtain ⟨td,ht,h⟩:=h;obtain ⟨r,w',h1,κ',h2,h3,h4,h5⟩:=StepG.does (γ:=γ) (J9K (P:=E.P) (t:=t) (d:=E.base+d) hr (J0c (hT _ _ ht)) (hγ _)) (fun _ _ _ e=>.inl (by cases e;rfl));exact val (s:=Instr.alloc t true (.tuple #[])) (by simp only[execOp,ho]) h1 ⟨_,_,κ',h,h2,h3,h4,h5⟩
  exact h.elim
 ·rename_i t l c ho;split at h
  ·rename_i d hd;obtain ⟨x,up,hC,hup,hdo⟩:=JBu hT hr (hγ _) (hv l) (hv c) h;obtain ⟨r,w',h1,κ',h2,h3,h4,h5⟩:=StepG.does (γ:=γ) hdo (fun _ _ _ e=>.inl (hup _ _ _ e).2);exact val (s:=Instr.makeSlice t (a.eval l) (a.eval c)) (by simp only[execOp,ho]) h1 ⟨_,_,κ',hC,h2,h3,h4,h5⟩
  exact h.elim
 ·rename_i t len parts ho;split at h
  ·rename_i d hd;obtain ⟨x,up,hC,hup,hdo⟩:=J3K (parts:=parts) (ρ:=ρ) (ρc:=a.eval) hT hr (hγ _) (fun p _=>hv p.2) h;obtain ⟨r,w',h1,κ',h2,h3,h4,h5⟩:=StepG.does (γ:=γ) hdo (fun _ _ _ e=>.inl (hup _ _ _ e).2);exact val (s:=Instr.buildSlice t len (parts.map fun (p:Nat×Operand)=>(p.1,a.eval p.2))) (by simp only[execOp,ho]) h1 ⟨_,_,κ',hC,h2,h3,h4,h5⟩
  exact h.elim
 ·rename_i t p x ho;obtain ⟨up,hC,hup,hdo⟩:=J3i hT hr (hv p) (hv x) h
  obtain ⟨r,w',h1,κ',h2,h3,h4,h5⟩:=StepG.does (γ:=γ) hdo (fun d g' B e=>.inr (by
   obtain ⟨B0,hB0⟩:=hup _ _ _ e;obtain ⟨K',hK',_⟩:=hr.blk _ _ _ hB0
   exact ⟨d,by rw[hK'];simp⟩))
  unfold Oper.wp;simp only[execOp,ho,QA,h1,QH,QX,Q25];exact hK _ _ ⟨_,_,κ',hC,h2,.tup [] #[] rfl (fun i h=>absurd h (by simp)),h4,h5⟩
 ·
  rename_i c ho;unfold J3I at h;split at h
  ·rename_i hc;split at h
   ·rename_i x t hx ht;obtain ⟨y,u,hC,hrun,hy⟩:=JHd (P:=E.P) (ty:=o.type) hT (hv x) h;have hx':c.args=#[x]:=by apply Q0P;simpa using hx
    have ht':c.argTypes=#[t]:=by apply Q0P;simpa using ht
    unfold Oper.wp;simp only[execOp,ho,resolve,hc,hx',ht',Q16,QK,Q0H,QA,QX,QH,invoke,builtin,hrun,Qp];exact hK _ _ (StepG.calm hr hC hy)
   exact h.elim
  ·rename_i hc;split at h
   ·rename_i x y t t' d hx ht hd;obtain ⟨rfl,h⟩:=h;obtain ⟨z,up,hC,hup,hdo⟩:=J7q (ty:=o.type) hT hr hγ (hv x) (hv y) h;obtain ⟨r,w',h1,κ',h2,h3,h4,h5⟩:=StepG.does (γ:=γ) hdo (fun _ _ _ e=>.inl (hup _ _ _ e));have hx':c.args=#[x,y]:=by apply Q0P;simpa using hx
    have ht':c.argTypes=#[t,t]:=by apply Q0P;simpa using ht
    unfold Oper.wp;simp only[execOp,ho,resolve,hc,hx',ht',Q16,QK,Q0H,QA,QX,QH,invoke,builtin,h1,Qp];exact hK _ _ ⟨_,_,κ',hC,h2,h3,h4,h5⟩
   exact h.elim
  ·rename_i hc;obtain ⟨u,hC,hp,hrun⟩:=JED (P:=E.P) (w:=w) true ρ a.eval hv (ats:=c.argTypes) (ty:=o.type) h;have hx':c.args.map a.eval=(c.args.toList.map a.eval).toArray:=by apply Q0P;simp
   unfold Oper.wp;simp only at hrun;simp only[execOp,ho,resolve,hc,hx',QA,QX,QH,invoke,builtin,hrun,Qp];exact hK _ _ (StepG.calm hr hC (.val _ hp))
  ·rename_i hc;obtain ⟨u,hC,hp,hrun⟩:=JED (P:=E.P) (w:=w) false ρ a.eval hv (ats:=c.argTypes) (ty:=o.type) h;have hx':c.args.map a.eval=(c.args.toList.map a.eval).toArray:=by apply Q0P;simp
   unfold Oper.wp;simp only at hrun;simp only[execOp,ho,resolve,hc,hx',QA,QX,QH,invoke,builtin,hrun,Qp];exact hK _ _ (StepG.calm hr hC (.val _ hp))
  ·rename_i hc;split at h
   ·rename_i x y t t' hx ht;obtain ⟨z,up,hC,hup,hdo⟩:=JBv (t':=t') (ty:=o.type) hT hr (hv x) (hv y) h
    obtain ⟨r,w',h1,κ',h2,h3,h4,h5⟩:=StepG.does (γ:=γ) hdo (fun d g' B e=>.inr (by
     obtain ⟨B0,hB0⟩:=hup _ _ _ e;obtain ⟨K',hK',_⟩:=hr.blk _ _ _ hB0
     exact ⟨d,by rw[hK'];simp⟩))
    have hx':c.args=#[x,y]:=by apply Q0P;simpa using hx
    have ht':c.argTypes=#[t,t']:=by apply Q0P;simpa using ht
    unfold Oper.wp;simp only[execOp,ho,resolve,hc,hx',ht',Q16,QK,Q0H,QA,QX,QH,invoke,builtin,h1,Qp];exact hK _ _ ⟨_,_,κ',hC,h2,h3,h4,h5⟩
   exact h.elim
  ·rename_i f hc;split at h
   ·rename_i n first cap hf;obtain ⟨⟨fn,hfn,hname,hbody⟩,h⟩:=h;have hfv:=hv f;rw[hf] at hfv;generalize hfe:a.eval f=fv at hfv
    cases hfv with
    |fn _ _ _ vf vc h1 h2 h3 h4=>
      have hargs:VRs κ w (Nset gh.O κ H) (first++c.args.toList.map ρ++cap) (vf++c.args.map a.eval++vc):=by
       refine ⟨by simp[h1,h2],fun i hi hi'=>?_⟩;have hl:(first++c.args.toList.map ρ).length=(vf++c.args.map a.eval).size:=by simp[h1]
       rw[Q0C,Q1L]
       by_cases q1:i<(first++c.args.toList.map ρ).length
       ·rw[dif_pos q1,dif_pos (by omega),Q0C,Q1L]
        by_cases q2:i<first.length
        ·rw[dif_pos q2,dif_pos (by omega)];exact h3 i q2 (by omega)
        rw[dif_neg q2,dif_neg (by omega)];simp only[QY,Q0x,Qy,h1];exact hv _
       rw[dif_neg q1,dif_neg (by omega)]
       have hi2:i-(first++c.args.toList.map ρ).length<cap.length:=by
        have:=hi;rw[QQ] at this;omega
       have:=h4 (i-(first++c.args.toList.map ρ).length) hi2 (by omega)
       simpa only [hl] using this
      unfold Oper.wp;have hnb:fn.body.isNone=false:=by cases hb:fn.body<;>simp_all
      simp only[execOp,ho,resolve,hc,hfe,Deferred.ofValue,QA,QX,QH,invoke,callFunc,run_program,hfn,hname,hnb,Qc,if_false,Q3K]
      have hset:∀ (b:Nat) (K':KI) (g:Nat),g≠γ→(∀ b,κ b g=none)→∀ y,κ.set b γ K' y g=none:=fun b K' g hg hn y=>by
       unfold KM.set;rw[if_neg (fun h=>hg h.2)];exact hn y
      rcases h with ⟨r,h,hC⟩|⟨dd,b0,e,k,xs,off,len,hdd,hx,h,hC⟩|⟨b,g,B,e,k,xs,off,len,_,hb,hB,hx,h,hC⟩|⟨r,hf,h,hC⟩|⟨b,g,B,r,_,hb,hn,h,hC⟩
      ·refine (JJF hr hargs h).mono fun e w' he=>?_;obtain ⟨v,rfl,q2,q3,q4⟩:=he;exact hK _ _ ⟨r,none,κ,hC,q2,q3,q4,fun g _ h=>h⟩
      ·refine (JLh hr hγ hargs _ (E.base+dd) hx h).mono fun e' w' he=>?_;obtain ⟨v,K',rfl,q2,q3,q4⟩:=he;exact hK _ _ ⟨_,_,_,hC,q2,q3,q4,hset _ _⟩
      ·refine (JLi hr hγ hargs hb hB hx _ h).mono fun e' w' he=>?_;obtain ⟨v,K',rfl,q2,q3,q4⟩:=he;exact hK _ _ ⟨_,_,_,hC,q2,q3,q4,hset _ _⟩
      ·refine (JJH hr hargs _ hf h).mono fun e w' he=>?_;obtain ⟨v,rfl,q2,q3,q4⟩:=he;exact hK _ _ ⟨r,none,κ,hC,q2,q3,q4,fun g _ h=>h⟩
      refine (JJG hr hγ hargs hb hn h).mono fun e' w' he=>?_;obtain ⟨v,K',rfl,q2,q3,q4⟩:=he;exact hK _ _ ⟨_,_,_,hC,q2,q3,q4,hset _ _⟩
   exact h.elim
  exact h.elim
 ·rename_i t x k ok ho;obtain ⟨y,u,hC,hrun,hy⟩:=J8u hT hr (hv x) (hv k) h;exact val (s:=Instr.lookup t (a.eval x) (a.eval k) ok) (by simp only[execOp,ho]) hrun (StepG.calm hr hC hy)
 exact h.elim
end
end Go.Fw
