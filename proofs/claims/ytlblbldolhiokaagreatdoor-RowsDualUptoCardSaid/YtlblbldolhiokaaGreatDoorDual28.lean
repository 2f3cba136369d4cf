/- Part 28 of the proof. -/
import Derived.Test.YtlblbldolhiokaaGreatDoorDual27
set_option linter.unusedVariables false
set_option linter.unusedSimpArgs false
set_option linter.unusedSectionVars false
set_option maxRecDepth 100000
set_option exponentiation.threshold 400
set_option maxHeartbeats 8000000
namespace Go.Fw
open Go.RowKit
def JAK:AV→AV:=snap [] fun _=>none
theorem JE6 (H:Hp)(n:Nat)(x:AV):J05 [] H n x=J05 [] (fun _=>none) n x:=by
 induction n generalizing x with
 |zero=>cases x<;>simp[J05]
 |succ n ih=>
   have e:J05 [] H n=J05 [] (fun _=>none) n:=funext ih;cases x<;>simp[J05,e]
theorem JBG (H:Hp):snap [] H=JAK:=by
 funext x
 have:∀ n,J05 [] H n=J05 [] (fun _=>none) n:=fun n=>funext fun x=>JE6 H n x;unfold JAK snap;rw[this]
def mv (f:Nat→Option Nat):Nat→AV→AV
 |_,.own b g o l=>match f b with
   |some b'=>.own b' g o l
   |none=>.dead
 |_,.op b g i k=>match f b with
   |some b'=>.op b' g i k
   |none=>.dead
 |_,.val v=>.val v
 |_,.sl n xs=>.sl n xs
 |_,.ep x k=>.ep x k
 |_,.mp ks vs=>.mp ks vs
 |_,.om b g=>match f b with
   |some b'=>.om b' g
   |none=>.dead
 |_,.it b g=>match f b with
   |some b'=>.it b' g
   |none=>.dead
 |n+1,.agg cs=>.agg (cs.map (mv f n))
 |n+1,.tup cs=>.tup (cs.map (mv f n))
 |n+1,.fn h a c=>.fn h (a.map (mv f n)) (c.map (mv f n))
 |_,_=>.dead
theorem JAc {κ κ':KM}{w:World}{N:Nat→Prop}{f:Nat→Option Nat}(hf:∀ b b' g K,f b=some b'→κ b g=some K→κ' b' g=some K) :
  ∀ (n:Nat) {x:AV} {v:Value},VR κ w N x v→VR κ' w N (mv f n x) v:=by
 have hv:∀ {y:AV} {v:Value},VR KM.empty w N y v→VR κ' w N y v:=fun h=>h.lift;intro n
 induction n with
 |zero=>
   intro x v h
   cases h with
   |val _ hp=>exact .val _ hp
   |slnil n=>exact .slnil n
   |slemp n a=>exact .slemp n a
   |sl n xs c o cap g h1 h2 h3 h4 h5 h6 h7=>exact .sl n xs c o cap g h1 h2 h3 h4 h5 h6 h7
   |ep x k c o g h1 h2 h3 h4 h5=>exact .ep x k c o g h1 h2 h3 h4 h5
   |ownnil b g K h1 h2=>
     simp only[mv];split
     ·rename_i b' hb;exact .ownnil b' g K (hf _ _ _ _ hb h1) h2
     ·exact .dead _
   |own b g off len cap c K h1 h2 h3 h4 hp=>
     simp only[mv];split
     ·rename_i b' hb;exact .own b' g off len cap c K (hf _ _ _ _ hb h1) h2 h3 h4 hp
     ·exact .dead _
   |op b g i k c K h1 h2 hp=>
     simp only[mv];split
     ·rename_i b' hb;exact .op b' g i k c K (hf _ _ _ _ hb h1) h2 hp
     ·exact .dead _
   |mp ks vs c A ck h1 h2 h3 h4 h5 h6 h7=>exact .mp ks vs c A ck h1 h2 h3 h4 h5 h6 h7
   |om b g c K h1 h2 h3=>
     simp only[mv];split
     ·rename_i b' hb;exact .om b' g c K (hf _ _ _ _ hb h1) h2 h3
     ·exact .dead _
   |it b g c K h1 h2 h3=>
     simp only[mv];split
     ·rename_i b' hb;exact .it b' g c K (hf _ _ _ _ hb h1) h2 h3
     ·exact .dead _
   |_=>exact .dead _
 |succ n ih=>
   intro x v h
   cases h with
   |val _ hp=>exact .val _ hp
   |slnil n=>exact .slnil n
   |slemp n a=>exact .slemp n a
   |sl n xs c o cap g h1 h2 h3 h4 h5 h6 h7=>exact .sl n xs c o cap g h1 h2 h3 h4 h5 h6 h7
   |ep x k c o g h1 h2 h3 h4 h5=>exact .ep x k c o g h1 h2 h3 h4 h5
   |ownnil b g K h1 h2=>
     simp only[mv];split
     ·rename_i b' hb;exact .ownnil b' g K (hf _ _ _ _ hb h1) h2
     ·exact .dead _
   |own b g off len cap c K h1 h2 h3 h4 hp=>
     simp only[mv];split
     ·rename_i b' hb;exact .own b' g off len cap c K (hf _ _ _ _ hb h1) h2 h3 h4 hp
     ·exact .dead _
   |op b g i k c K h1 h2 hp=>
     simp only[mv];split
     ·rename_i b' hb;exact .op b' g i k c K (hf _ _ _ _ hb h1) h2 hp
     ·exact .dead _
   |mp ks vs c A ck h1 h2 h3 h4 h5 h6 h7=>exact .mp ks vs c A ck h1 h2 h3 h4 h5 h6 h7
   |om b g c K h1 h2 h3=>
     simp only[mv];split
     ·rename_i b' hb;exact .om b' g c K (hf _ _ _ _ hb h1) h2 h3
     ·exact .dead _
   |it b g c K h1 h2 h3=>
     simp only[mv];split
     ·rename_i b' hb;exact .it b' g c K (hf _ _ _ _ hb h1) h2 h3
     ·exact .dead _
   |agg cs vs h1 h2 h3=>exact .agg _ _ (by simp[h1]) (fun i h h'=>by simp only[List.getElem_map];exact ih (h2 i (by simpa using h) h')) h3
   |tup cs vs h1 h2=>exact .tup _ _ (by simp[h1]) (fun i h h'=>by simp only[List.getElem_map];exact ih (h2 i (by simpa using h) h'))
   |fn h a c vf vc h1 h2 h3 h4=>exact .fn h _ _ vf vc (by simp[h1]) (by simp[h2]) (fun i h h'=>by simp only[List.getElem_map];exact ih (h3 i (by simpa using h) h')) (fun i h h'=>by simp only[List.getElem_map];exact ih (h4 i (by simpa using h) h'))
   |fu n xs a h=>exact .dead _
   |dead v=>exact .dead _
def J4d (xs:List AV):Prop:=∀ x∈xs,∀ c∈x.cells,J92 c=true
def J9w (b0 off len e n:Nat)(xs:List AV):AV→Hp→Prop:=fun r h=>∃ γ,r=.own b0 γ off len∧h=hp [(b0,γ,⟨e,n,xs⟩)]
def only (b:Nat):Nat→Option Nat:=fun y=>match Nat.beq y b with
 |true=>some 0
 |false=>none
def nm1:AV→Option Nat
 |.own b _ _ _=>some b
 |.op b _ _ _=>some b
 |.om b _=>some b
 |.it b _=>some b
 |_=>none
def nm:AV→List Nat
 |.own b _ _ _=>[b]
 |.op b _ _ _=>[b]
 |.om b _=>[b]
 |.it b _=>[b]
 |.fn _ a c=>(a++c).filterMap nm1
 |_=>[]
def J2N (b:Nat):List Nat→List Nat
 |[]=>[]
 |x::r=>match Nat.beq x b with
   |true=>J2N b r
   |false=>x::J2N b r
def fz1 (b:Nat)(S:List Nat)(H:Hp):AV→AV
 |.own y g o l=>match Nat.beq y b with
   |true=>.own 0 g o l
   |false=>J05 (J2N b S) H 3 (.own y g o l)
 |.op y g i k=>match Nat.beq y b with
   |true=>.op 0 g i k
   |false=>J05 (J2N b S) H 3 (.op y g i k)
 |.om y g=>match Nat.beq y b with
   |true=>.om 0 g
   |false=>J05 (J2N b S) H 3 (.om y g)
 |x=>J05 (J2N b S) H 3 x
def fz (b:Nat)(S:List Nat)(H:Hp):AV→AV
 |.fn f a c=>.fn f (a.map (fz1 b S H)) (c.map (fz1 b S H))
 |x=>fz1 b S H x
def JDL (E:En)(γ:Nat)(f:Nat)(S:List Nat)(args:List AV)(H:Hp)(d:Option Nat)(C:AV→Up→Prop):Prop:=
 (∃ r,PureCall E.P f (args.map JAK) r∧C r none) ∨
 (∃ dd b0 e k xs off len,d=some dd∧J4d xs∧HCall E.P f (args.map (snap S H)) (hp []) (J9w b0 off len e k xs)∧C (.own (E.base+dd) γ off len) (some (E.base+dd,γ,⟨e,k,xs⟩))) ∨
 (∃ b g B e k xs off len,b∈S∧H b=some (g,B)∧J4d B.xs∧J4d xs∧HCall E.P f (args.map (fz b S H)) (hp [(0,g,B)]) (J9w 0 off len e k xs)∧C (.own b γ off len) (some (b,γ,⟨e,k,xs⟩))) ∨
 (∃ r,flat r=true∧PureCall E.P f (args.map (snap S H)) r∧C r none) ∨
 (∃ b g B r,S=[b]∧H b=some (g,B)∧0<B.n∧PureCall E.P f (args.map (snap [b] H)) r∧C r (some (b,γ,⟨B.e,B.n,[]⟩)))
def J2c (E:En)(γ:Nat)(ρ:Operand→AV)(H:Hp)(c:Call)(d:Option Nat)(C:AV→Up→Prop):Prop:=
 match c.callee with
 |.builtin .len=>match c.args.toList,c.argTypes.toList with
   |[x],[t]=>evLen E.T t (ρ x) fun v=>C v none
   |_,_=>False
 |.builtin .append=>match c.args.toList,c.argTypes.toList,d with
   |[x,y],[t,t'],some d=>t=t'∧evAppend E.T H t (E.base+d) γ (ρ x) (ρ y) C
   |_,_,_=>False
 |.builtin .max=>evMM true (c.args.toList.map ρ) fun v=>C v none
 |.builtin .min=>evMM false (c.args.toList.map ρ) fun v=>C v none
 |.builtin .copy=>match c.args.toList,c.argTypes.toList with
   |[x,y],[t,t']=>evCopy E.T H t (ρ x) (ρ y) C
   |_,_=>False
 |.value f=>match ρ f with
   |.fn (.func n) first cap=>J03 E.P n∧JDL E γ n ((c.args.toList.map ρ).flatMap nm) (first++c.args.toList.map ρ++cap) H d C
   |_=>False
 |_=>False
def evG (E:En)(γ:Nat)(ρ:Operand→AV)(H:Hp)(o:Oper)(C:AV→Up→Prop):Prop:=
 match o.op with
 |.move x=>C (ρ x) none
 |.assign x=>C (ρ x) none
 |.pick c a b=>match ρ c with
   |.val (.bool t)=>C (if t then ρ a else ρ b) none
   |_=>False
 |.load t x=>evLoad E.T H t (ρ x) fun v=>C v none
 |.fieldAddr s x f=>evFieldAddr E.T s (ρ x) f fun v=>C v none
 |.field s x f=>evField E.T s (ρ x) f fun v=>C v none
 |.indexAddr t x i=>evIndexAddr E.T H t (ρ x) (ρ i) fun v=>C v none
 |.index t x i=>evIndex E.T t (ρ x) (ρ i) fun v=>C v none
 |.extract x i=>evExtract (ρ x) i fun v=>C v none
 |.slice t x lo hi mx=>evSliceA E.P E.T H t (ρ x) (lo.map ρ) (hi.map ρ) (mx.map ρ) fun v=>C v none
 |.binOp op t x y _=>∃ r,C r none∧J3a E.P E.T op t (ρ x) (ρ y) (· = r)
 |.unOp op _ x=>evUn op (ρ x) fun v=>C v none
 |.convert s d x=>evConv E.T s d (ρ x) fun v=>C v none
 |.makeFunc f first cap=>C (.fn f (first.toList.map ρ) (cap.toList.map ρ)) none
 |.nilCheck x=>match ρ x with
   |.ep y k=>C (.ep y k) none
   |.op b g i k=>C (.op b g i k) none
   |.fn (.func f) a c=>C (.fn (.func f) a c) none
   |_=>False
 |.build t parts=>evBuild E.T t (parts.toList.map fun p=>(p.1,ρ p.2)) fun v=>C v none
 |.box t x=>match o.dst with
   |some d=>J2K (ρ x)=true∧C (.op (E.base+d) γ 0 0) (some (E.base+d,γ,⟨t,(ρ x).cells.length,[ρ x]⟩))
   |none=>False
 |.alloc t=>match o.dst with
   |some d=>∃ td,E.T t=some td∧C (.op (E.base+d) γ 0 0) (some (E.base+d,γ,⟨t,td.size,[mkEl td]⟩))
   |none=>False
 |.makeSlice t l c=>match o.dst with
   |some d=>evMake E.T t (E.base+d) γ (ρ l) (ρ c) C
   |none=>False
 |.buildSlice t len parts=>match o.dst with
   |some d=>evBuildSlice E.T t (E.base+d) γ len (parts.toList.map fun p=>(p.1,ρ p.2)) C
   |none=>False
 |.store t a x=>evStore E.T H t (ρ a) (ρ x) fun up=>C (.tup []) up
 |.call c=>J2c E γ ρ H c o.dst C
 |.lookup t x k ok=>evLookup E.P E.T H t (ρ x) (ρ k) ok fun v=>C v none
 |_=>False
section
variable {E:En} {gh:Gh} {κ:KM} {H:Hp} {w:World} {γ:Nat}
def StepG (gh:Gh)(κ:KM)(H:Hp)(w:World)(γ:Nat)(C:AV→Up→Prop)(v:Value)(w':World):Prop:=
 ∃ x up κ',C x up∧HRel gh κ' (app H up) w'∧VR κ' w' (Nset gh.O κ' (app H up)) x v∧(∀ {y:AV} {u:Value},VR κ w (Nset gh.O κ H) y u→VR κ' w' (Nset gh.O κ' (app H up)) y u) ∧
   ∀ g,g≠γ→(∀ b,κ b g=none)→∀ b,κ' b g=none
theorem StepG.calm (hr:HRel gh κ H w){C:AV→Up→Prop}{x:AV}{v:Value}(h:C x none)(hv:VR κ w (Nset gh.O κ H) x v):StepG gh κ H w γ C v w:=⟨x,none,κ,h,hr,hv,fun h=>h,fun g _ h=>h⟩
theorem StepG.does {α:Type}{s:Sem α}{up:Up}{P:Program}{vr:KM→World→(Nat→Prop)→α→Prop}(h:Does P gh κ H w s up vr)(hup:∀ d g' B,up=some (d,g',B)→g'=γ∨∃ b,κ b g'≠none) :
  ∃ r w',s.run P w=.ok r w'∧∃ κ',HRel gh κ' (app H up) w'∧vr κ' w' (Nset gh.O κ' (app H up)) r∧(∀ {y:AV} {u:Value},VR κ w (Nset gh.O κ H) y u→VR κ' w' (Nset gh.O κ' (app H up)) y u) ∧
    ∀ g,g≠γ→(∀ b,κ b g=none)→∀ b,κ' b g=none:=by
 obtain ⟨r,w',κ',h1,h2,h3,h4,h5⟩:=h;refine ⟨r,w',h1,κ',h2,h4,h3,fun g hg hn b=>?_⟩;rw[h5 b g ?_]
 ·exact hn b
 ·rintro d g' B hu ⟨rfl,rfl⟩
  rcases hup _ _ _ hu with h|⟨b',h⟩
  ·exact hg h
  ·exact h (hn b')
theorem J9e (hr:HRel gh κ H w){P:Program}{f:Nat}{args:List AV}{vs:Array Value}(hv:VRs κ w (Nset gh.O κ H) args vs){r:AV}(h:PureCall P f (args.map JAK) r) :
  Calls P f vs w fun e w'=>∃ v,e=.returned v∧HRel gh κ H w'∧VR κ w' (Nset gh.O κ H) r v∧∀ {x:AV} {u:Value},VR κ w (Nset gh.O κ H) x u→VR κ w' (Nset gh.O κ H) x u:=by
 refine (h (Nset gh.O κ H) w vs ?_ ⟨by simpa using hv.1,fun i h h'=>?_⟩).mono ?_
 ·intro c hc
  rcases hc with h|h
  ·exact Nat.lt_of_lt_of_le (hr.apart c h).1 hr.kept.size
  ·exact hr.lt h
 ·simp only[List.getElem_map];have:=J1E hr [] (hv.2 i (by simpa using h) h')
  rwa [rem_nil,JBG] at this
 ·rintro e w' ⟨v,rfl,hr',hb⟩;obtain ⟨h1,h2⟩:=J14 hr hb;exact ⟨v,rfl,h1,hr'.lift,h2⟩
theorem J3X {κ κ':KM}{w:World}{N N':Nat→Prop}{K:KI}{B:Blk}(hf:J4d B.xs)(h:BlkRel κ w N K B):BlkRel κ' w N' K B:=by
 rcases h with ⟨hn,h1,h2,h3⟩|⟨h0,h1,c,h2,h3⟩
 case inr=>
  refine .inr ⟨h0,h1,c,h2,?_⟩;unfold ObR at h3 ⊢;split at h3
  ·rename_i ks vs e;have:=hf (.mp ks vs) (by rw[e];simp) (.mp ks vs) (by simp[AV.cells]);simp[J92] at this
  ·exact h3
  ·rename_i mk mv l cur e;have:=hf (.mp mk mv) (by rw[e];simp) (.mp mk mv) (by simp[AV.cells]);simp[J92] at this
  ·exact h3.elim
 refine .inl ⟨hn,h1,h2,?_⟩
 rcases h3 with h3|⟨c,A,f,k1,k2,k3,k4,k5,k6,k7,k8⟩
 ·exact .inl h3
 ·refine .inr ⟨c,A,f,k1,k2,k3,k4,k5,k6,fun i h j h'=>?_,k8⟩;have hc:=hf B.xs[i] (by simp) (B.xs[i].cells[j]) (by simp);exact (k7 i h j h').flat (by revert hc;cases B.xs[i].cells[j]<;>simp[J92,flat])
theorem J8x {κ κ':KM}{w:World}{N N':Nat→Prop}{b b' g g' off len:Nat}{v:Value}{K:KI}(h:VR κ w N (.own b g off len) v)(hk:κ b g=some K)(hk':κ' b' g'=some K):VR κ' w N' (.own b' g' off len) v:=by
 cases h with
 |ownnil _ _ K' h1 h2=>rw[hk] at h1;cases h1;exact .ownnil b' g' K hk' h2
 |own _ _ _ _ cap c K' h1 h2 h3 h4 hp=>rw[hk] at h1;cases h1;exact .own b' g' off len cap c K hk' h2 h3 h4 hp
theorem JFh (hr:HRel gh κ H w){P:Program}{f:Nat}{args:List AV}{vs:Array Value}(hv:VRs κ w (Nset gh.O κ H) args vs)(S:List Nat){r:AV}(hf:flat r=true)(h:PureCall P f (args.map (snap S H)) r) :
  Calls P f vs w fun e w'=>∃ v,e=.returned v∧HRel gh κ H w'∧VR κ w' (Nset gh.O κ H) r v∧∀ {x:AV} {u:Value},VR κ w (Nset gh.O κ H) x u→VR κ w' (Nset gh.O κ H) x u:=by
 refine (h (Nset gh.O κ (rem H S)) w vs ?_ ⟨by simpa using hv.1,fun i h h'=>?_⟩).mono ?_
 ·intro c hc
  rcases J0M S hc with h|h
  ·exact Nat.lt_of_lt_of_le (hr.apart c h).1 hr.kept.size
  ·exact hr.lt h
 ·simp only[List.getElem_map];exact J1E hr S (hv.2 i (by simpa using h) h')
 ·rintro e w' ⟨v,rfl,hr',hb⟩;obtain ⟨h1,h2⟩:=J14 hr hb;exact ⟨v,rfl,h1,hr'.flat hf,h2⟩
theorem JFg (hr:HRel gh κ H w)(hγ:∀ b,κ b γ=none){P:Program}{f:Nat}{args:List AV}{vs:Array Value}(hv:VRs κ w (Nset gh.O κ H) args vs){b g:Nat}{B:Blk}{r:AV}(hb:H b=some (g,B))(hn:0<B.n)(h:PureCall P f (args.map (snap [b] H)) r) :
  Calls P f vs w fun e' w'=>∃ v K,e'=.returned v∧HRel gh (κ.set b γ K) (setH H b (some (γ,⟨B.e,B.n,[]⟩))) w'∧VR (κ.set b γ K) w' (Nset gh.O (κ.set b γ K) (setH H b (some (γ,⟨B.e,B.n,[]⟩)))) r v ∧
   ∀ {x:AV} {u:Value},VR κ w (Nset gh.O κ H) x u→VR (κ.set b γ K) w' (Nset gh.O (κ.set b γ K) (setH H b (some (γ,⟨B.e,B.n,[]⟩)))) x u:=by
 refine (h (Nset gh.O κ (rem H [b])) w vs ?_ ⟨by simpa using hv.1,fun i h h'=>?_⟩).mono ?_
 ·intro c hc
  rcases J0M [b] hc with h|h
  ·exact Nat.lt_of_lt_of_le (hr.apart c h).1 hr.kept.size
  ·exact hr.lt h
 ·simp only[List.getElem_map];exact J1E hr [b] (hv.2 i (by simpa using h) h')
 ·rintro e w' ⟨v,rfl,hr',hbl⟩;obtain ⟨h1,h2⟩:=J14 hr hbl
  obtain ⟨q1,q2⟩:=h1.replace (d:=b) (γ:=γ) (K:=⟨none,B.n,0⟩) (B:=⟨B.e,B.n,[]⟩) (w':=w') (J0i h1 ..) (Agree.refl _ _) (fun _ _ _ _ _ _ _ _ _=>rfl) ⟨rfl,rfl,rfl⟩ (.inl (hγ b)) (fun c hc=>by cases hc)
   (fun _=>.inl ⟨hn,rfl,fun i h=>absurd h (by simp),.inl ⟨rfl,rfl⟩⟩)
  refine ⟨v,_,rfl,q1,hr'.step (J6I _) (Agree.refl _ _) fun c _ hc=>?_,fun h=>q2 (h2 h)⟩
  rcases hc with hc|⟨y,g',B',K',e1,e2,e3⟩
  ·exact .inl hc
  ·right
   by_cases hy:y=b
   ·subst hy;simp only[setH,if_pos] at e1;cases e1;rw[J09] at e2;cases e2;cases e3
   ·rw[J28 _ _ _ _ hy] at e1;rw[J0E _ _ _ _ (fun h=>hy h.1)] at e2;exact ⟨y,g',B',K',by unfold rem;rw[if_neg (by simpa using hy)];exact e1,e2,e3⟩
theorem JHY (hr:HRel gh κ H w)(hγ:∀ b,κ b γ=none){P:Program}{f:Nat}{args:List AV}{vs:Array Value}(hv:VRs κ w (Nset gh.O κ H) args vs)(S:List Nat)(b:Nat){b0 e n off len:Nat}{xs:List AV}(hx:J4d xs)
  (h:HCall P f (args.map (snap S H)) (hp []) (J9w b0 off len e n xs)) :
  Calls P f vs w fun e' w'=>∃ v K,e'=.returned v∧HRel gh (κ.set b γ K) (setH H b (some (γ,⟨e,n,xs⟩))) w'∧VR (κ.set b γ K) w' (Nset gh.O (κ.set b γ K) (setH H b (some (γ,⟨e,n,xs⟩)))) (.own b γ off len) v ∧
   ∀ {x:AV} {u:Value},VR κ w (Nset gh.O κ H) x u→VR (κ.set b γ K) w' (Nset gh.O (κ.set b γ K) (setH H b (some (γ,⟨e,n,xs⟩)))) x u:=by
 let gh0:Gh:={ nt:=0,w0:=w,M:=fun _=>False,O:=Nset gh.O κ (rem H S) }
 have hlt:∀ c,Nset gh.O κ H c→c<w.heap.size:=by
  rintro c (hc|hc)
  ·exact Nat.lt_of_lt_of_le (hr.apart c hc).1 hr.kept.size
  ·exact hr.lt hc
 have hr0:HRel gh0 KM.empty (hp []) w:=by
  refine ⟨fun b g B h=>(by cases h),fun b b' g g' B B' K K' c h=>(by cases h),fun b g B K c h=>(by cases h),Agree.refl _ _,rfl,rfl,rfl,⟨0,fun _ _ _=>rfl⟩,fun c hc=>⟨hlt c (J0M S hc),fun h=>h⟩⟩
 refine (h gh0 KM.empty w vs hr0 ⟨by simpa using hv.1,fun i h h'=>?_⟩).mono ?_
 ·simp only[List.getElem_map];have:=J1E hr S (hv.2 i (by simpa using h) h');refine this.mono fun c hc=>?_
  rcases hc with hc|⟨b,g,B,K,hb,_⟩
  ·exact hc
  ·cases hb
 ·rintro e' w' ⟨v,r,h',κ0',rfl,⟨γ',rfl,rfl⟩,hr',hv',htr⟩;obtain ⟨K,hk,hbr⟩:=hr'.blk b0 γ' ⟨e,n,xs⟩ (by simp[hp]);have hag:Agree (fun _=>False) w w':=hr'.kept
  obtain ⟨q1,q2⟩:=hr.replace (d:=b) (γ:=γ) (K:=K) (B:=⟨e,n,xs⟩) (w':=w') (J0i hr ..) (hag.mono fun _ h=>h.elim) (fun y g B' K' c _ h1 h2 h3=>hag.block c (hr.lt ⟨y,g,B',K',h1,h2,h3⟩) fun h=>h)
   ⟨hr'.os,hr'.tape,hr'.output⟩ (.inl (hγ b)) (fun c hc=>.inl ((hr'.mine b0 γ' ⟨e,n,xs⟩ K c (by simp[hp]) hk hc).resolve_right fun h=>h)) (fun _=>J3X hx hbr)
  exact ⟨v,K,rfl,q1,J8x hv' hk (J09 ..),q2⟩
theorem J5o (b:Nat):∀ S:List Nat,b ∉ J2N b S
 |[]=>by simp[J2N]
 |x :: r=>by
   unfold J2N;split
   ·exact J5o b r
   ·rename_i h;intro hm
    rcases List.mem_cons.1 hm with e|hm
    ·subst e;rw[Nat.beq_refl] at h;cases h
    ·exact J5o b r hm
theorem JEs (hr:HRel gh κ H w){b:Nat}{S:List Nat}{κ0:KM}{N0:Nat→Prop}(hN:∀ c,N0 c→Nset gh.O κ (rem H (J2N b S)) c)(hκ:∀ g K,κ b g=some K→κ0 0 g=some K){x:AV}{v:Value}(h:VR κ w (Nset gh.O κ H) x v):VR κ0 w N0 (fz1 b S H x) v:=by
 have other:∀ {y:AV},VR κ w (Nset gh.O κ H) y v→VR κ0 w N0 (J05 (J2N b S) H 3 y) v:=fun hy=>((J0J hr (J2N b S) 3 hy).mono hN).lift;unfold fz1;split
 ·rename_i y g o l;split
  ·rename_i e;have:=Nat.eq_of_beq_eq_true e;subst this
   cases h with
   |ownnil _ _ K h1 h2=>exact .ownnil 0 g K (hκ _ _ h1) h2
   |own _ _ _ _ cap c K h1 h2 h3 h4 hp=>exact .own 0 g o l cap c K (hκ _ _ h1) h2 h3 h4 hp
  ·exact other h
 ·rename_i y g i k;split
  ·rename_i e;have:=Nat.eq_of_beq_eq_true e;subst this
   cases h with
   |op _ _ _ _ c K h1 h2 hp=>exact .op 0 g i k c K (hκ _ _ h1) h2 hp
  ·exact other h
 ·rename_i y g;split
  ·rename_i e;have:=Nat.eq_of_beq_eq_true e;subst this
   cases h with
   |om _ _ c K h1 h2 h3=>exact .om 0 g c K (hκ _ _ h1) h2 h3
  ·exact other h
 ·exact other h
theorem JL7 (hr:HRel gh κ H w){b:Nat}{S:List Nat}{κ0:KM}{N0:Nat→Prop}(hN:∀ c,N0 c→Nset gh.O κ (rem H (J2N b S)) c)(hκ:∀ g K,κ b g=some K→κ0 0 g=some K){x:AV}{v:Value}(h:VR κ w (Nset gh.O κ H) x v):VR κ0 w N0 (fz b S H x) v:=by
 unfold fz;split
 ·rename_i f a c
  cases h with
  |fn _ _ _ vf vc h1 h2 h3 h4=>
    exact .fn f _ _ vf vc (by simp[h1]) (by simp[h2]) (fun i h h'=>by simp only[List.getElem_map];exact JEs hr hN hκ (h3 i (by simpa using h) h')) (fun i h h'=>by simp only[List.getElem_map];exact JEs hr hN hκ (h4 i (by simpa using h) h'))
 ·exact JEs hr hN hκ h
theorem JHZ (hr:HRel gh κ H w)(hγ:∀ b,κ b γ=none){P:Program}{f:Nat}{args:List AV}{vs:Array Value}(hv:VRs κ w (Nset gh.O κ H) args vs){b g:Nat}{B:Blk}(hb:H b=some (g,B))(hB:J4d B.xs){e n off len:Nat}{xs:List AV}(hx:J4d xs)
  (S:List Nat)(h:HCall P f (args.map (fz b S H)) (hp [(0,g,B)]) (J9w 0 off len e n xs)) :
  Calls P f vs w fun e' w'=>∃ v K,e'=.returned v∧HRel gh (κ.set b γ K) (setH H b (some (γ,⟨e,n,xs⟩))) w'∧VR (κ.set b γ K) w' (Nset gh.O (κ.set b γ K) (setH H b (some (γ,⟨e,n,xs⟩)))) (.own b γ off len) v ∧
   ∀ {x:AV} {u:Value},VR κ w (Nset gh.O κ H) x u→VR (κ.set b γ K) w' (Nset gh.O (κ.set b γ K) (setH H b (some (γ,⟨e,n,xs⟩)))) x u:=by
 obtain ⟨K0,hK0,hbr0⟩:=hr.blk _ _ _ hb
 let M0:Nat→Prop:=fun c=>K0.c=some c
 let gh0:Gh:={ nt:=0,w0:=w,M:=M0,O:=fun c=>Nset gh.O κ (rem H (J2N b S)) c∧¬ M0 c }
 let κ0:KM:=fun y g'=>if y=0 then κ b g' else none
 have hlt:∀ c,Nset gh.O κ H c→c<w.heap.size:=by
  rintro c (hc|hc)
  ·exact Nat.lt_of_lt_of_le (hr.apart c hc).1 hr.kept.size
  ·exact hr.lt hc
 have hh:∀ y g' B',hp [(0,g,B)] y=some (g',B')→y=0∧g'=g∧B'=B:=by
  intro y g' B' h;unfold hp at h;split at h
  ·rename_i e;cases h;exact ⟨e,rfl,rfl⟩
  ·cases h
 have hN:∀ c,Nset gh0.O κ0 (hp [(0,g,B)]) c→Nset gh.O κ (rem H (J2N b S)) c:=by
  rintro c (hc|⟨y,g',B',K',h1,h2,h3⟩)
  ·exact hc.1
  ·obtain ⟨rfl,rfl,rfl⟩:=hh _ _ _ h1;exact .inr ⟨b,g',B',K',by unfold rem;rw[if_neg (J5o b S)];exact hb,by simpa [κ0] using h2,h3⟩
 have hr0:HRel gh0 κ0 (hp [(0,g,B)]) w:=by
  refine ⟨fun y g' B' h=>?_,fun y y' g1 g2 B1 B2 K1 K2 c h1 h2 _ _ _ _=>?_,fun y g' B' K' c h1 h2 h3=>?_,Agree.refl _ _,rfl,rfl,rfl,?_,fun c hc=>⟨hlt c (J0M _ hc.1),hc.2⟩⟩
  ·obtain ⟨rfl,rfl,rfl⟩:=hh _ _ _ h;exact ⟨K0,by simpa [κ0] using hK0,J3X hB hbr0⟩
  ·rw[(hh _ _ _ h1).1,(hh _ _ _ h2).1]
  ·obtain ⟨rfl,rfl,rfl⟩:=hh _ _ _ h1
   have:K'=K0:=by
    have h2:κ b g'=some K':=by simpa [κ0] using h2
    rw[hK0] at h2;cases h2;rfl
   subst this;exact .inr h3
  ·obtain ⟨G,hG⟩:=hr.fresh;refine ⟨G,fun y g' hg=>?_⟩;show (if y=0 then κ b g' else none)=none
   split
   ·exact hG _ _ hg
   ·rfl
 refine (h gh0 κ0 w vs hr0 ⟨by simpa using hv.1,fun i h h'=>?_⟩).mono ?_
 ·simp only[List.getElem_map];exact JL7 hr hN (fun g K h=>by simpa [κ0] using h) (hv.2 i (by simpa using h) h')
 ·rintro e' w' ⟨v,r,h',κ0',rfl,⟨γ',rfl,rfl⟩,hr',hv',htr⟩;obtain ⟨K,hk,hbr⟩:=hr'.blk 0 γ' ⟨e,n,xs⟩ rfl;have hag:Agree M0 w w':=hr'.kept
  obtain ⟨q1,q2⟩:=hr.replace (d:=b) (γ:=γ) (K:=K) (B:=⟨e,n,xs⟩) (w':=w') (J0i hr ..) (hag.mono fun c h=>⟨b,g,B,K0,hb,hK0,h⟩)
   (fun y g' B' K' c hy h1 h2 h3=>hag.block c (hr.lt ⟨y,g',B',K',h1,h2,h3⟩) fun h=>hy (hr.inj _ _ _ _ _ _ _ _ c h1 hb h2 hK0 h3 h))
   ⟨hr'.os,hr'.tape,hr'.output⟩ (.inl (hγ b)) (fun c hc=>(hr'.mine 0 γ' _ K c rfl hk hc).imp (fun h=>h) fun h=>⟨g,B,K0,hb,hK0,h⟩) (fun _=>J3X hx hbr)
  exact ⟨v,K,rfl,q1,J8x hv' hk (J09 ..),q2⟩
theorem J5k (hT:TOk E.P E.T)(hγ:∀ b,κ b γ=none)(hr:HRel gh κ H w){a:Act}{ρ:Operand→AV}(hv:∀ x,VR κ w (Nset gh.O κ H) (ρ x) (a.eval x)){o:Oper}{C:AV→Up→Prop}(h:evG E γ ρ H o C)
  {K:Act→World→Prop}{Q:Exit→Act→World→Prop}(hK:∀ v w',StepG gh κ H w γ C v w'→K (a.put o.dst v) w'):o.wp E.P a w K Q:=by
 have val:∀ {s:Sem Value} {v:Value} {w':World},execOp a.eval o=(do pure (.value (← s)):Sem Next)→s.run E.P w=.ok v w'→StepG gh κ H w γ C v w'→o.wp E.P a w K Q:=by
  intro s v w' he hs hst;unfold Oper.wp;rw[he];simp only[Sem.run_bind,hs,Result.andThen_ok,Sem.run_pure,Oper.upon_value];exact hK _ _ hst
 unfold evG at h;split at h
 ·
  rename_i x ho;unfold Oper.wp;simp only[execOp,ho,Sem.run_pure,Oper.upon_value];exact hK _ _ (StepG.calm hr h (hv x))
 ·rename_i x ho;unfold Oper.wp;simp only[execOp,ho,Sem.run_pure,Oper.upon_value];exact hK _ _ (StepG.calm hr h (hv x))
 ·rename_i c x y ho;split at h
  ·rename_i t hc;have:=hv c;rw[hc] at this;generalize hcv:a.eval c=cv at this
   cases this with
   |val _ _=>
     unfold Oper.wp;simp only[execOp,ho,hcv,asBool,Sem.run_bind,Sem.run_pure,Result.andThen_ok,Oper.upon_value];refine hK _ _ (StepG.calm hr h ?_);cases t<;>simp<;>exact hv _
  ·exact h.elim
 ·rename_i t x ho;obtain ⟨y,u,hC,hrun,hy⟩:=J47 hT hr (hv x) h;exact val (s:=Instr.loadAt t (a.eval x)) (by simp only[execOp,ho]) hrun (StepG.calm hr hC hy)
 ·rename_i s x f ho;obtain ⟨y,u,hC,hrun,hy⟩:=J5G hT (hv x) h;exact val (s:=Instr.fieldAt s (a.eval x) f) (by simp only[execOp,ho]) hrun (StepG.calm hr hC hy)
 ·rename_i s x f ho;obtain ⟨y,u,hC,hrun,hy⟩:=J8c hT (hv x) h;exact val (s:=Instr.field s (a.eval x) f) (by simp only[execOp,ho]) hrun (StepG.calm hr hC hy)
 ·rename_i t x i ho;obtain ⟨y,u,hC,hrun,hy⟩:=J5F hT hr (hv x) (hv i) h;exact val (s:=Instr.indexAt t (a.eval x) (a.eval i)) (by simp only[execOp,ho]) hrun (StepG.calm hr hC hy)
 ·rename_i t x i ho;obtain ⟨y,u,hC,hrun,hy⟩:=J8a hT (hv x) (hv i) h;exact val (s:=Instr.index t (a.eval x) (a.eval i)) (by simp only[execOp,ho]) hrun (StepG.calm hr hC hy)
 ·rename_i x i ho;obtain ⟨y,u,hC,hrun,hy⟩:=J5H (P:=E.P) (hv x) h;exact val (s:=Instr.extract (a.eval x) i) (by simp only[execOp,ho]) hrun (StepG.calm hr hC hy)
 ·rename_i t x lo hi mx ho;obtain ⟨y,u,hC,hrun,hy⟩:=J6d hT hr (hv x) (optR ρ a.eval hv lo) (optR ρ a.eval hv hi) (optR ρ a.eval hv mx) h;exact val (s:=Instr.sliceAt t (a.eval x) (lo.map a.eval) (hi.map a.eval) (mx.map a.eval)) (by simp only[execOp,ho]) hrun (StepG.calm hr hC hy)
 ·rename_i op t x y yt ho;obtain ⟨r,hC,h⟩:=h;obtain ⟨z,u,rfl,hrun,hz⟩:=JEL (ox:=x) (oy:=y) hT (hv x) (hv y) h;exact val (s:=do eqGuard op t x y (a.eval x) (a.eval y);binOp op t (a.eval x) (a.eval y)) (by simp only[execOp,ho]) hrun (StepG.calm hr hC hz)
 ·rename_i op t x ho;obtain ⟨y,u,hC,hrun,hy⟩:=JI4 (P:=E.P) (hv x) h;exact val (s:=Op.unary op (a.eval x)) (by simp only[execOp,ho]) hrun (StepG.calm hr hC hy)
 ·rename_i s d x ho;obtain ⟨y,u,hC,hrun,hy⟩:=JBQ hT (hv x) h;exact val (s:=convert s d (a.eval x)) (by simp only[execOp,ho]) hrun (StepG.calm hr hC hy)
 ·rename_i f first cap ho;refine val (s:=Instr.makeFunc f (first.map a.eval) (cap.map a.eval)) (v:=.func f (first.map a.eval) (cap.map a.eval)) (w':=w) (by simp only[execOp,ho]) (by simp only[Instr.makeFunc,Sem.run_pure]) (StepG.calm hr h ?_);exact .fn f _ _ _ _ (by simp) (by simp) (fun i h h'=>by simp only[List.getElem_map,Array.getElem_map,Array.getElem_toList];exact hv _) (fun i h h'=>by simp only[List.getElem_map,Array.getElem_map,Array.getElem_toList];exact hv _)
 ·rename_i x ho;have hx:=hv x;split at h
  ·rename_i y k he;rw[he] at hx;generalize hxv:a.eval x=xv at hx
   cases hx with
   |ep _ _ c o' f h1 h2 h3 h4 h5=>
     unfold Oper.wp;simp only[execOp,ho,hxv,Sem.run_pure,Oper.upon_value];exact hK _ _ (StepG.calm hr h (.ep y k c o' f h1 h2 h3 h4 h5))
  ·rename_i b g i k he;rw[he] at hx;generalize hxv:a.eval x=xv at hx
   cases hx with
   |op _ _ _ _ c K' h1 h2 hp=>
     unfold Oper.wp;simp only[execOp,ho,hxv,Sem.run_pure,Oper.upon_value];exact hK _ _ (StepG.calm hr h (.op b g i k c K' h1 h2 hp))
  ·rename_i f first cap he;rw[he] at hx;generalize hxv:a.eval x=xv at hx
   cases hx with
   |fn _ _ _ vf vc h1 h2 h3 h4=>
     unfold Oper.wp;simp only[execOp,ho,hxv,Sem.run_pure,Oper.upon_value];exact hK _ _ (StepG.calm hr h (.fn _ _ _ vf vc h1 h2 h3 h4))
  ·exact h.elim
 ·rename_i t parts ho;obtain ⟨y,u,hC,hrun,hy⟩:=J6i (parts:=parts) (ρ:=ρ) (ρc:=a.eval) hT (fun p _=>hv p.2) h;exact val (s:=Instr.build t (parts.map fun (p:Nat×Operand)=>(p.1,a.eval p.2))) (by simp only[execOp,ho]) hrun (StepG.calm hr hC hy)
 ·rename_i t x ho;split at h
  ·rename_i d hd;obtain ⟨hk,h⟩:=h;obtain ⟨r,w',h1,κ',h2,h3,h4,h5⟩:=StepG.does (γ:=γ) (J5q (P:=E.P) (t:=t) (d:=E.base+d) hr (hγ _) (hv x) hk) (fun _ _ _ e=>.inl (by cases e;rfl));exact val (s:=Instr.box t (a.eval x)) (by simp only[execOp,ho]) h1 ⟨_,_,κ',h,h2,h3,h4,h5⟩
  ·exact h.elim
 ·rename_i t ho;split at h
  ·rename_i d hd;obtain ⟨td,ht,h⟩:=h;obtain ⟨r,w',h1,κ',h2,h3,h4,h5⟩:=StepG.does (γ:=γ) (J70 (P:=E.P) (t:=t) (d:=E.base+d) hr (J0W (hT _ _ ht)) (hγ _)) (fun _ _ _ e=>.inl (by cases e;rfl));exact val (s:=Instr.alloc t true (.tuple #[])) (by simp only[execOp,ho]) h1 ⟨_,_,κ',h,h2,h3,h4,h5⟩
  ·exact h.elim
 ·rename_i t l c ho;split at h
  ·rename_i d hd;obtain ⟨x,up,hC,hup,hdo⟩:=J9D hT hr (hγ _) (hv l) (hv c) h;obtain ⟨r,w',h1,κ',h2,h3,h4,h5⟩:=StepG.does (γ:=γ) hdo (fun _ _ _ e=>.inl (hup _ _ _ e).2);exact val (s:=Instr.makeSlice t (a.eval l) (a.eval c)) (by simp only[execOp,ho]) h1 ⟨_,_,κ',hC,h2,h3,h4,h5⟩
  ·exact h.elim
 ·rename_i t len parts ho;split at h
  ·rename_i d hd;obtain ⟨x,up,hC,hup,hdo⟩:=J2d (parts:=parts) (ρ:=ρ) (ρc:=a.eval) hT hr (hγ _) (fun p _=>hv p.2) h;obtain ⟨r,w',h1,κ',h2,h3,h4,h5⟩:=StepG.does (γ:=γ) hdo (fun _ _ _ e=>.inl (hup _ _ _ e).2);exact val (s:=Instr.buildSlice t len (parts.map fun (p:Nat×Operand)=>(p.1,a.eval p.2))) (by simp only[execOp,ho]) h1 ⟨_,_,κ',hC,h2,h3,h4,h5⟩
  ·exact h.elim
 ·rename_i t p x ho;obtain ⟨up,hC,hup,hdo⟩:=J2x hT hr (hv p) (hv x) h
  obtain ⟨r,w',h1,κ',h2,h3,h4,h5⟩:=StepG.does (γ:=γ) hdo (fun d g' B e=>.inr (by
   obtain ⟨B0,hB0⟩:=hup _ _ _ e;obtain ⟨K',hK',_⟩:=hr.blk _ _ _ hB0
   exact ⟨d,by rw[hK'];simp⟩))
  unfold Oper.wp;simp only[execOp,ho,Sem.run_bind,h1,Result.andThen_ok,Sem.run_pure,Oper.upon_skip];exact hK _ _ ⟨_,_,κ',hC,h2,.tup [] #[] rfl (fun i h=>absurd h (by simp)),h4,h5⟩
 ·
  rename_i c ho;unfold J2c at h;split at h
  ·rename_i hc;split at h
   ·rename_i x t hx ht;obtain ⟨y,u,hC,hrun,hy⟩:=JEJ (P:=E.P) (ty:=o.type) hT (hv x) h;have hx':c.args=#[x]:=by apply Array.ext';simpa using hx
    have ht':c.argTypes=#[t]:=by apply Array.ext';simpa using ht
    unfold Oper.wp;simp only[execOp,ho,resolve,hc,hx',ht',List.map_toArray,List.map_cons,List.map_nil,Sem.run_bind,Sem.run_pure,Result.andThen_ok,invoke,builtin,hrun,Oper.upon_value];exact hK _ _ (StepG.calm hr hC hy)
   ·exact h.elim
  ·rename_i hc;split at h
   ·rename_i x y t t' d hx ht hd;obtain ⟨rfl,h⟩:=h;obtain ⟨z,up,hC,hup,hdo⟩:=J5r (ty:=o.type) hT hr hγ (hv x) (hv y) h;obtain ⟨r,w',h1,κ',h2,h3,h4,h5⟩:=StepG.does (γ:=γ) hdo (fun _ _ _ e=>.inl (hup _ _ _ e));have hx':c.args=#[x,y]:=by apply Array.ext';simpa using hx
    have ht':c.argTypes=#[t,t]:=by apply Array.ext';simpa using ht
    unfold Oper.wp;simp only[execOp,ho,resolve,hc,hx',ht',List.map_toArray,List.map_cons,List.map_nil,Sem.run_bind,Sem.run_pure,Result.andThen_ok,invoke,builtin,h1,Oper.upon_value];exact hK _ _ ⟨_,_,κ',hC,h2,h3,h4,h5⟩
   ·exact h.elim
  ·rename_i hc;obtain ⟨u,hC,hp,hrun⟩:=JBO (P:=E.P) (w:=w) true ρ a.eval hv (ats:=c.argTypes) (ty:=o.type) h;have hx':c.args.map a.eval=(c.args.toList.map a.eval).toArray:=by apply Array.ext';simp
   unfold Oper.wp;simp only at hrun;simp only[execOp,ho,resolve,hc,hx',Sem.run_bind,Sem.run_pure,Result.andThen_ok,invoke,builtin,hrun,Oper.upon_value];exact hK _ _ (StepG.calm hr hC (.val _ hp))
  ·rename_i hc;obtain ⟨u,hC,hp,hrun⟩:=JBO (P:=E.P) (w:=w) false ρ a.eval hv (ats:=c.argTypes) (ty:=o.type) h;have hx':c.args.map a.eval=(c.args.toList.map a.eval).toArray:=by apply Array.ext';simp
   unfold Oper.wp;simp only at hrun;simp only[execOp,ho,resolve,hc,hx',Sem.run_bind,Sem.run_pure,Result.andThen_ok,invoke,builtin,hrun,Oper.upon_value];exact hK _ _ (StepG.calm hr hC (.val _ hp))
  ·rename_i hc;split at h
   ·rename_i x y t t' hx ht;obtain ⟨z,up,hC,hup,hdo⟩:=J9E (t':=t') (ty:=o.type) hT hr (hv x) (hv y) h
    obtain ⟨r,w',h1,κ',h2,h3,h4,h5⟩:=StepG.does (γ:=γ) hdo (fun d g' B e=>.inr (by
     obtain ⟨B0,hB0⟩:=hup _ _ _ e;obtain ⟨K',hK',_⟩:=hr.blk _ _ _ hB0
     exact ⟨d,by rw[hK'];simp⟩))
    have hx':c.args=#[x,y]:=by apply Array.ext';simpa using hx
    have ht':c.argTypes=#[t,t']:=by apply Array.ext';simpa using ht
    unfold Oper.wp;simp only[execOp,ho,resolve,hc,hx',ht',List.map_toArray,List.map_cons,List.map_nil,Sem.run_bind,Sem.run_pure,Result.andThen_ok,invoke,builtin,h1,Oper.upon_value];exact hK _ _ ⟨_,_,κ',hC,h2,h3,h4,h5⟩
   ·exact h.elim
  ·rename_i f hc;split at h
   ·rename_i n first cap hf;obtain ⟨⟨fn,hfn,hname,hbody⟩,h⟩:=h;have hfv:=hv f;rw[hf] at hfv;generalize hfe:a.eval f=fv at hfv
    cases hfv with
    |fn _ _ _ vf vc h1 h2 h3 h4=>
      have hargs:VRs κ w (Nset gh.O κ H) (first++c.args.toList.map ρ++cap) (vf++c.args.map a.eval++vc):=by
       refine ⟨by simp[h1,h2],fun i hi hi'=>?_⟩;have hl:(first++c.args.toList.map ρ).length=(vf++c.args.map a.eval).size:=by simp[h1]
       rw[List.getElem_append,Array.getElem_append]
       by_cases q1:i<(first++c.args.toList.map ρ).length
       ·rw[dif_pos q1,dif_pos (by omega),List.getElem_append,Array.getElem_append]
        by_cases q2:i<first.length
        ·rw[dif_pos q2,dif_pos (by omega)];exact h3 i q2 (by omega)
        ·rw[dif_neg q2,dif_neg (by omega)];simp only[List.getElem_map,Array.getElem_map,Array.getElem_toList,h1];exact hv _
       ·rw[dif_neg q1,dif_neg (by omega)]
        have hi2:i-(first++c.args.toList.map ρ).length<cap.length:=by
         have:=hi;rw[List.length_append] at this;omega
        have:=h4 (i-(first++c.args.toList.map ρ).length) hi2 (by omega)
        simpa only [hl] using this
      unfold Oper.wp;have hnb:fn.body.isNone=false:=by cases hb:fn.body<;>simp_all
      simp only[execOp,ho,resolve,hc,hfe,Deferred.ofValue,Sem.run_bind,Sem.run_pure,Result.andThen_ok,invoke,callFunc,run_program,hfn,hname,hnb,Bool.false_eq_true,if_false,Oper.upon_enter]
      have hset:∀ (b:Nat) (K':KI) (g:Nat),g≠γ→(∀ b,κ b g=none)→∀ y,κ.set b γ K' y g=none:=fun b K' g hg hn y=>by
       unfold KM.set;rw[if_neg (fun h=>hg h.2)];exact hn y
      rcases h with ⟨r,h,hC⟩|⟨dd,b0,e,k,xs,off,len,hdd,hx,h,hC⟩|⟨b,g,B,e,k,xs,off,len,_,hb,hB,hx,h,hC⟩|⟨r,hf,h,hC⟩|⟨b,g,B,r,_,hb,hn,h,hC⟩
      ·refine (J9e hr hargs h).mono fun e w' he=>?_;obtain ⟨v,rfl,q2,q3,q4⟩:=he;exact hK _ _ ⟨r,none,κ,hC,q2,q3,q4,fun g _ h=>h⟩
      ·refine (JHY hr hγ hargs _ (E.base+dd) hx h).mono fun e' w' he=>?_;obtain ⟨v,K',rfl,q2,q3,q4⟩:=he;exact hK _ _ ⟨_,_,_,hC,q2,q3,q4,hset _ _⟩
      ·refine (JHZ hr hγ hargs hb hB hx _ h).mono fun e' w' he=>?_;obtain ⟨v,K',rfl,q2,q3,q4⟩:=he;exact hK _ _ ⟨_,_,_,hC,q2,q3,q4,hset _ _⟩
      ·refine (JFh hr hargs _ hf h).mono fun e w' he=>?_;obtain ⟨v,rfl,q2,q3,q4⟩:=he;exact hK _ _ ⟨r,none,κ,hC,q2,q3,q4,fun g _ h=>h⟩
      ·refine (JFg hr hγ hargs hb hn h).mono fun e' w' he=>?_;obtain ⟨v,K',rfl,q2,q3,q4⟩:=he;exact hK _ _ ⟨_,_,_,hC,q2,q3,q4,hset _ _⟩
   ·exact h.elim
  ·exact h.elim
 ·rename_i t x k ok ho;obtain ⟨y,u,hC,hrun,hy⟩:=J6e hT hr (hv x) (hv k) h;exact val (s:=Instr.lookup t (a.eval x) (a.eval k) ok) (by simp only[execOp,ho]) hrun (StepG.calm hr hC hy)
 ·exact h.elim
end
end Go.Fw
