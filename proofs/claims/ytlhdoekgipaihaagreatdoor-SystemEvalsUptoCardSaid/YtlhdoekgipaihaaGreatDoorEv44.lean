/- Part 44 of the proof. -/
import Derived.Test.YtlhdoekgipaihaaGreatDoorEv35
import Derived.Test.YtlhdoekgipaihaaGreatDoorEv12
import Derived.Lib.AppendStr
import Derived.Test.YtlhdoekgipaihaaGreatDoorEv14
import Derived.Test.YtlhdoekgipaihaaGreatDoorEv42
import Derived.SizedLaws
import Derived.ProofKit
set_option linter.unusedVariables false
set_option linter.unusedSimpArgs false
set_option linter.unusedSectionVars false
set_option maxRecDepth 100000
set_option exponentiation.threshold 400
set_option maxHeartbeats 8000000
namespace Go.Fw
open Go.RowKit
def J46 (n:Nat)(S:List Nat)(H:Hp)(x:AV):AV:=J0g (J09 S H n) x
theorem JDC {gh:Gh}{κ:KM}{H:Hp}{w:World}(hr:HRel gh κ H w)(n:Nat)(S:List Nat){x:AV}{v:Value}(h:VR κ w (Nset gh.O κ H) x v):VR KM.empty w (Nset gh.O κ (rem H S)) (J46 n S H x) v:=by
 have h':=@J0T gh κ H w hr S n x v h
 cases h with
 |agg cs vs h1 h2 h3=>exact .agg _ _ (by simp[h1]) (fun i h h'=>by
  simp only[List.getElem_map]
  exact J0T hr S n (h2 i (by simpa using h) h')) h3
 |_=>exact h'
theorem J6t {P:Program}{f:Nat}{args:List AV}{H:Hp}{Q:AV→Hp→Prop}(n:Nat)(S:List Nat)(r:AV)(hp:PureCall P f (args.map (J46 n S H)) r)(h:(flat r=true∧Q r H)∨Q r (rem H S)):HCall P f args H Q:=by
 intro gh κ w vs hr hv;refine (hp (Nset gh.O κ (rem H S)) w vs ?_ ⟨by simpa using hv.1,fun i h h'=>?_⟩).mono ?_
 ·intro c hc
  rcases J0Q S hc with h|h
  ·exact Nat.lt_of_lt_of_le (hr.apart c h).1 hr.kept.size
  ·exact hr.lt h
 ·simp only[List.getElem_map];exact JDC hr n S (hv.2 i (by simpa using h) h')
 ·rintro e w' ⟨v,rfl,hr',hb⟩
  rcases h with ⟨hf,hC⟩|hC
  ·obtain ⟨h1,h2⟩:=J17 hr hb;exact ⟨v,r,H,κ,rfl,hC,h1,hr'.flat hf,h2⟩
  ·obtain ⟨h1,h2⟩:=J17 (hr.rem S) hb;exact ⟨v,r,rem H S,κ,rfl,hC,h1,hr'.lift,fun h=>h2 (h.mono fun c h=>J0Q S h)⟩
theorem JCw {E:En}{f:Nat}{args:List AV}{H:Hp}{C:AV→Hp→Prop}(n:Nat)(S:List Nat)(r:AV)(hc:J06 E.P f)(h:PureCall E.P f (args.map (J46 n S H)) r)(k:C r (rem H S)):CallP E f args H C:=.own hc (J6t n S r h (.inr k))
theorem JMj {E:En}{f:Nat}{args:List AV}{H:Hp}{C:AV→Hp→Prop}(n:Nat)(S:List Nat)(r:AV)(hc:J06 E.P f)(h:PureCall E.P f (args.map (J46 n S H)) r)(hf:Fw.flat r=true)(k:C r H):CallP E f args H C:=.own hc (J6t n S r h (.inl ⟨hf,k⟩))
def BY (l:List UInt8):List AV:=l.map fun b=>AV.val (.int .u8 (b.toNat:Int))
@[simp] theorem BY_length (l:List UInt8):(BY l).length=l.length:=by simp[BY]
theorem JIX (a b:List UInt8):BY (a++b)=BY a++BY b:=by simp[BY]
section
variable {P:Program} {T:Nat→Option TD} {gh:Gh} {κ:KM} {H:Hp} {w:World}
theorem Row.bytes (N:Nat→Prop)(s:ByteArray):Row κ w N 1 (BY s.data.toList) (Lib.strCells s):=by
 refine ⟨by simp[BY,Lib.strCells],fun i h=>by simp[BY,AV.cells],fun u hu=>Lib.strCells_oneCell s u hu,fun i h j h'=>?_⟩;have hj:j=0:=by simpa [BY,AV.cells] using h'
 subst hj;have hi:i<s.data.toList.length:=by simpa [BY] using h
 have e1:(BY s.data.toList)[i].cells[0]'(h')=.val (.int .u8 (s.data.toList[i].toNat:Int)):=by simp[BY,AV.cells]
 have e2:(Lib.strCells s).getD (i*1+0) undef=.int .u8 (s.data.toList[i].toNat:Int):=by
  rw[List.getD_eq_getElem?_getD,List.getElem?_eq_getElem (by simpa [Lib.strCells] using hi)];simp[Lib.strCells]
 rw[e1,e2];exact .val _ rfl
theorem JCJ (t u ty e:TypeId)(i:TypeInfo)(ht:P.underlying t=some (.slice e))(hu:P.underlying u=some .string)(hi:P.info? e=some i)(hz:i.zero=some (.int .u8 0))
  (hsize:i.size=1)(hby:i.bytes=1)(v:Value)(n:Nat)(xs:List Value)(hown:w.ownsRow 0 e 1 v n xs)(s:ByteArray)(h63:n+s.size≤140737488355328) :
  ∃ v' w',(Builtin.append_ #[t,u] ty #[v,.string s]).run P w=.ok v' w'∧w'.ownsRow 0 e 1 v' (n+s.size) (xs++Lib.strCells s)∧w.grownBy w' v.ownBlock ∧
    ∀ c,v'.ownBlock=some c→v.ownBlock=some c∨w.heap.size≤c:=by
 have hm:n+s.size≤maxLen:=by unfold maxLen;omega
 obtain ⟨v',w',hr,h1,h2,_⟩:=Lib.run_append_own_string (P:=P) w 0 t u ty e i ht hu hi hz hsize hby v n xs hown s hm h63 (Nat.zero_le _);refine ⟨v',w',hr,h1,h2,fun c hc=>?_⟩;have hxl:xs.length=n:=by simpa using hown.1
 rcases hown.2 with ⟨rfl,rfl⟩|⟨g,cap,cur,rfl,_,hg,hnc,hcm,hcs,htake⟩
 ·obtain rfl:xs=[]:=List.eq_nil_of_length_eq_zero hxl;obtain ⟨v2,w2,hr2,h3,_⟩:=Lib.run_append_own_string (P:=P) w w.heap.size t u ty e i ht hu hi hz hsize hby (.slice none 0 0) 0 [] (World.ownsRow_nil ..) s hm h63 (Nat.le_refl _);rw[hr] at hr2;cases hr2
  rcases h3.2 with ⟨rfl,_⟩|⟨g,cap,cur,rfl,hg,_⟩
  ·simp[Value.ownBlock] at hc
  ·simp[Value.ownBlock] at hc;exact .inr (hc ▸ hg)
 ·by_cases hroom:n+s.size≤cap
  ·have hr2:=Lib.run_append_room_string (P:=P) w t u ty e i ht hu hi hsize g n cap cur hg s hroom (by simp at hcs;omega);rw[hr] at hr2;cases hr2;exact .inl (by simpa [Value.ownBlock] using hc)
  ·have hr2:=Lib.run_append_grow_string (P:=P) w t u ty e i (.int .u8 0) ht hu hi hz ⟨g,0,none⟩ n cap xs (by rw[hsize];simpa using hxl) (hown.cells (g:=g) rfl) s (by omega) (by unfold maxLen at hm;omega) (by rw[hby];exact growslice_fits (by omega) (by omega));rw[hr] at hr2;cases hr2;simp[Value.ownBlock] at hc;exact .inr (by omega)
theorem JB7 (hr:HRel gh κ H w){t u ty e d g γ:Nat}{i:TypeInfo}(ht:P.underlying t=some (.slice e))(hu:P.underlying u=some .string)(hi:P.info? e=some i)(hz:i.zero=some (.int .u8 0))
  (hsize:i.size=1)(hby:i.bytes=1)(hne:e≠solo)(hγ:κ d γ=none){v:Value}{l:List UInt8}{s:ByteArray}(hB:H d=some (g,⟨e,1,BY l⟩))(hv:VR κ w (Nset gh.O κ H) (.own d g 0 l.length) v)
  (hb:l.length+s.size≤140737488355328) :
  Does P gh κ H w (Builtin.append_ #[t,u] ty #[v,.string s]) (some (d,γ,⟨e,1,BY (l++s.data.toList)⟩)) fun κ' w' N' r=>VR κ' w' N' (.own d γ 0 (l.length+s.size)) r:=by
 obtain ⟨K,hk,hbr⟩:=hr.blk _ _ _ hB
 obtain ⟨XS,hown,hrow,hblk⟩:∃ XS,w.ownsRow 0 e 1 v l.length XS∧Row κ w (Nset gh.O κ H) 1 (BY l) XS∧∀ c,v.ownBlock=some c→K.c=some c:=by
  generalize hlen:l.length=len at hv
  cases hv with
  |ownnil _ _ K' hk' hc=>
    rw[hk] at hk';cases hk';obtain rfl:l=[]:=List.eq_nil_of_length_eq_zero hlen;exact ⟨[],World.ownsRow_nil w 0 e 1,Row.nil _,fun c h=>by simp[Value.ownBlock] at h⟩
  |own _ _ _ _ cap c K' hk' hc h1 h2 hp=>
    rw[hk] at hk';cases hk';have hbr:=hbr.rows hp;obtain ⟨A,hbk,hm,hrow⟩:=hbr.row hc 0 len (by simp[hlen]);have hKn:K.n=1:=hbr.1;have htk:(BY l).take len=BY l:=List.take_of_length_le (by simp[hlen]);simp only[List.drop_zero,Nat.zero_mul,htk,hKn,Nat.mul_one] at hrow;have hcs:A.size=cap:=by rw[← hm,← h2.1,hKn];omega
    simp only[Nat.zero_add,Nat.zero_mul] at h2 ⊢;refine ⟨A.toList.take len,⟨by simp;omega,.inr ⟨c,cap,A,rfl,Nat.zero_le _,hbk,h1,h2.2,by omega,by simp⟩⟩,hrow,fun c' h=>?_⟩;simp[Value.ownBlock] at h;rw[hc,h]
 obtain ⟨v',w',hrun,hown',hg,hob⟩:=JCJ (P:=P) t u ty e i ht hu hi hz hsize hby v l.length XS hown s hb;have hall:Row κ w (Nset gh.O κ H) 1 (BY (l++s.data.toList)) (XS++Lib.strCells s):=by rw[JIX];exact hrow.append (Row.bytes _ s)
 have hlen:(BY (l++s.data.toList)).length=l.length+s.size:=by rw[BY_length,List.length_append];rfl
 have hnot:∀ b g' B' K' c,b≠d→H b=some (g',B')→κ b g'=some K'→K'.c=some c→some c≠v.ownBlock:=by
  intro b g' B' K' c hne h1 h2 h3 e';exact hne (hr.inj _ _ _ _ _ _ _ _ c h1 hB h2 hk h3 (hblk c e'.symm))
 have hag:Agree (Own κ H) w w':=⟨hg.size,fun c hc hn=>hg.block c hc fun e'=>hn ⟨d,g,_,K,hB,hk,hblk c e'.symm⟩⟩
 rcases hown'.2 with ⟨rfl,h0⟩|⟨g',cap',cur',rfl,_,hb',hnc,hcm,hcs,htake⟩
 ·have hnil:BY (l++s.data.toList)=[]:=List.eq_nil_of_length_eq_zero (by omega)
  have hrep:=hr.replace (d:=d) (γ:=γ) (K:=⟨none,1,0⟩) (B:=⟨e,1,BY (l++s.data.toList)⟩) (w':=w') (J0v hr ..) hag
   (fun b g B' K' c hne h1 h2 h3=>hg.block c (hr.lt ⟨b,g,B',K',h1,h2,h3⟩) (hnot b g B' K' c hne h1 h2 h3)) ⟨hg.os,hg.tape,hg.output⟩ (.inl hγ) (fun c hc=>by cases hc)
   (fun _=>.inl ⟨Nat.one_pos,rfl,fun i hi=>by rw[hnil] at hi;simp at hi,.inl ⟨rfl,hnil⟩⟩)
  refine ⟨_,w',_,hrun,hrep.1,hrep.2,?_,fun b g h=>J0L _ _ _ _ (h _ _ _ rfl)⟩;rw[h0];exact .ownnil d γ ⟨none,1,0⟩ (J0A ..) rfl
 ·have hrep:=hr.replace (d:=d) (γ:=γ) (K:=⟨some g',1,cur'.size⟩) (B:=⟨e,1,BY (l++s.data.toList)⟩) (w':=w') (J0v hr ..) hag
   (fun b g B' K' c hne h1 h2 h3=>hg.block c (hr.lt ⟨b,g,B',K',h1,h2,h3⟩) (hnot b g B' K' c hne h1 h2 h3)) ⟨hg.os,hg.tape,hg.output⟩ (.inl hγ)
   (fun c hc=>by
     cases hc
     rcases hob g' (by simp[Value.ownBlock]) with hob|hob
     ·exact .inr ⟨g,_,K,hB,hk,hblk _ hob⟩
     ·left;omega)
   (fun htr=>hall.block hb' hcs (by rw[hlen];exact hnc) (by rw[hlen];exact htake) htr Nat.one_pos fun h=>absurd h hne)
  refine ⟨_,w',_,hrun,hrep.1,hrep.2,?_,fun b g h=>J0L _ _ _ _ (h _ _ _ rfl)⟩;have:=VR.own (κ:=κ.set d γ ⟨some g',1,cur'.size⟩) (w:=w') (N:=Nset gh.O (κ.set d γ ⟨some g',1,cur'.size⟩) (setH H d (some (γ,⟨e,1,BY (l++s.data.toList)⟩)))) d γ 0 (l.length+s.size) cap' g' _ (J0A ..) rfl hnc ⟨by simp[hcs],by simpa using hcm⟩ Nat.one_pos
  simpa [app] using this
end
def valB:Value→Value→Bool
 |.string a,.string b=>decide (a=b)
 |.int k a,.int k' b=>decide (k=k')&&decide (a=b)
 |.bool a,.bool b=>decide (a=b)
 |.slice none 0 0,.slice none 0 0=>true
 |_,_=>false
theorem JLB {a b:Value}(h:valB a b=true):a=b:=by
 unfold valB at h;split at h
 ·rw[of_decide_eq_true h]
 ·simp only[Bool.and_eq_true] at h;rw[of_decide_eq_true h.1,of_decide_eq_true h.2]
 ·rw[of_decide_eq_true h]
 ·rfl
 ·cases h
def allB (p:AV→AV→Bool):List AV→List AV→Bool
 |[],[]=>true
 |x::xs,y::ys=>p x y&&allB p xs ys
 |_,_=>false
theorem J3u {p:AV→AV→Bool}:∀ {xs ys:List AV},allB p xs ys=true→xs.length=ys.length∧∀ i (h:i<xs.length) (h':i<ys.length),p xs[i] ys[i]=true
 |[],[],_=>⟨rfl,fun i h=>by simp at h⟩
 |[],_::_,h=>by cases h
 |_::_,[],h=>by cases h
 |x::xs,y::ys,h=>by
   unfold allB at h;simp only[Bool.and_eq_true] at h;obtain ⟨h1,h2⟩:=J3u h.2;refine ⟨by simp[h1],fun i hi hi'=>?_⟩
   cases i with
   |zero=>exact h.1
   |succ i=>exact h2 i (by simpa using hi) (by simpa using hi')
def leN:Nat→AV→AV→Bool
 |0,_,_=>false
 |n+1,.val a,.val b=>valB a b
 |_+1,.val (.slice none 0 0),.sl _ []=>true
 |n+1,.agg xs,.agg ys=>allB (leN n) xs ys
 |n+1,.tup xs,.tup ys=>allB (leN n) xs ys
 |n+1,.sl k xs,.sl k' ys=>Nat.beq k k'&&allB (fun x y=>allB (leN n) x.cells y.cells) xs ys
 |_,_,_=>false
theorem JNA (n:Nat):∀ (x y:AV),leN n x y=true→∀ (κ:KM) (w:World) (N:Nat→Prop) (v:Value),VR κ w N x v→VR κ w N y v:=by
 induction n with
 |zero=>intro x y h;cases h
 |succ n ih=>
   intro x y h κ w N v hv;unfold leN at h;split at h
   ·rename_i h0;cases h0
   ·rw[← JLB h];exact hv
   ·cases hv;exact .slnil _
   ·rename_i e;cases e;obtain ⟨h1,h2⟩:=J3u h
    cases hv with
    |agg cs vs q1 q2 q3=>exact .agg _ _ (h1 ▸ q1) (fun i hi hi'=>ih _ _ (h2 i (by omega) hi) _ _ _ _ (q2 i (by omega) hi')) q3
   ·rename_i e;cases e;obtain ⟨h1,h2⟩:=J3u h
    cases hv with
    |tup cs vs q1 q2=>exact .tup _ _ (h1 ▸ q1) (fun i hi hi'=>ih _ _ (h2 i (by omega) hi) _ _ _ _ (q2 i (by omega) hi'))
   ·rename_i n' k xs k' ys e;cases e;simp only[Bool.and_eq_true] at h;obtain ⟨h0,h⟩:=h;obtain rfl:=Nat.eq_of_beq_eq_true h0;obtain ⟨h1,h2⟩:=J3u h
    cases hv with
    |slnil=>obtain rfl:ys=[]:=List.eq_nil_of_length_eq_zero (by simpa using h1.symm);exact .slnil _
    |slemp _ a=>obtain rfl:ys=[]:=List.eq_nil_of_length_eq_zero (by simpa using h1.symm);exact .slemp _ a
    |sl _ _ c o cap f q1 q2 q3 q4 q5 q6 q7=>
      rw[h1];refine .sl k ys c o cap f (by omega) q2 q3 (fun i hi=>?_) (fun i hi j hj=>q5 i (by omega) j hj) (fun i hi j hj=>?_) (fun i j hi hj=>q7 i j (by omega) hj)
      ·rw[← (J3u (h2 i (by omega) hi)).1];exact q4 i (by omega)
      ·obtain ⟨e1,e2⟩:=J3u (h2 i (by omega) hi);exact ih _ _ (e2 j (by omega) hj) _ _ _ _ (q6 i (by omega) j (by omega))
   ·cases h
abbrev Tab:=List (Nat×List AV×AV)
structure TabOk (P:Program) (tb:Tab):Prop where
 o:∀ e∈tb,J06 P e.1∧PureCall P e.1 e.2.1 e.2.2∧flat e.2.2=true
def hitB (n:Nat)(args:List AV)(m:Mem)(e:Nat×List AV×AV):Bool:=Nat.beq e.1 n&&allB (leN 16) (args.map (J46 8 (m.map Prod.fst) (hp m))) e.2.1
def xTab (tb:Tab)(call:CallX):CallX:=fun n args m k=>match tb.find? (hitB n args m) with
 |some e=>some (e.2.2,m,k)
 |none=>call n args m k
theorem JKs {X:XE}{tb:Tab}(ht:TabOk X.E.P tb){call:CallX}(hc:J1b X call):J1b X (xTab tb call):=by
 intro n args m k r m' k' h;unfold xTab at h;split at h
 ·rename_i e he;cases h;obtain ⟨h1,h2,h3⟩:=ht.o e (List.mem_of_find?_eq_some he);have hb:=List.find?_some he;unfold hitB at hb;simp only[Bool.and_eq_true] at hb;have hn:=Nat.eq_of_beq_eq_true hb.1;obtain ⟨q1,q2⟩:=J3u hb.2;refine ⟨hn ▸ h1,fun gh κ w vs hr hv hk=>?_⟩;rw[← hn]
  have hO:∀ c,Nset gh.O κ (rem (hp m) (m.map Prod.fst)) c→c<w.heap.size:=by
   intro c hc
   rcases J0Q _ hc with h|h
   ·exact Nat.lt_of_lt_of_le (hr.apart c h).1 hr.kept.size
   ·exact hr.lt h
  refine (h2 (Nset gh.O κ (rem (hp m) (m.map Prod.fst))) w vs hO ⟨by simpa using (by simpa using q1:args.length=e.2.1.length).symm.trans hv.1,fun i h h'=>?_⟩).mono ?_
  ·have hl:args.length=e.2.1.length:=by simpa using q1
   have:=q2 i (by simpa [hl] using h) h;simp only[List.getElem_map] at this;exact JNA _ _ _ this _ _ _ _ (JDC hr 8 _ (hv.2 i (by omega) h'))
  ·rintro e' w' ⟨v,rfl,hr',hb'⟩;obtain ⟨z1,z2⟩:=J17 hr hb';exact ⟨v,κ,rfl,z1,hr'.flat h3,z2,hk⟩
 ·exact hc _ _ _ _ _ _ _ h
def JKt (X:XE)(tb:Tab)(fuel:Nat):Nat→CallX
 |0=>fun _ _ _ _=>none
 |n+1=>xTab tb (JD1 X (JKt X tb fuel n) fuel)
theorem JCy {X:XE}{tb:Tab}(hX:XOk X)(ht:TabOk X.E.P tb)(fuel:Nat):∀ n,J1b X (JKt X tb fuel n)
 |0=>fun _ _ _ _ _ _ _ h=>by cases h
 |n+1=>JKs ht (JAG hX (JCy hX ht fuel n) fuel)
theorem JEZ {X:XE}{tb:Tab}(hX:XOk X)(ht:TabOk X.E.P tb){fuel n f:Nat}{args:List AV}{r:AV}(h:JGW (JKt X tb fuel n) f args=some r):PureCall X.E.P f args r:=(JAc (JCy hX ht fuel n) h).2
abbrev NoN:Nat→Prop:=fun _=>False
structure CelR (w:World) (xs:List AV) (cs:List Value):Prop where
 len:xs.length=cs.length
 rel:∀ i (h:i<xs.length) (h':i<cs.length),VR KM.empty w NoN xs[i] cs[i]
 pl:∀ v∈cs,plainV v=true
section
variable {H:Type} {enc:TypeId×Value→H} {P:Program} {w:World}
theorem CelR.one {x:AV}{v:Value}(h:VR KM.empty w NoN x v)(hp:plainV v=true):CelR w [x] [v]:=
 ⟨rfl,fun i h' _=>by
  have:i=0:=by simpa using h'
  subst this;exact h,fun u hu=>by
  have:u=v:=by simpa using hu
  subst this;exact hp⟩
theorem CelR.app {xs ys:List AV}{cs ds:List Value}(h1:CelR w xs cs)(h2:CelR w ys ds):CelR w (xs++ys) (cs++ds):=
 ⟨by simp[h1.len,h2.len],fun i h h'=>by
  by_cases q:i<xs.length
  ·rw[List.getElem_append_left q,List.getElem_append_left (by rw[← h1.len];exact q)];exact h1.rel i q _
  ·rw[List.getElem_append_right (by omega),List.getElem_append_right (by rw[← h1.len];omega)];simp only[← h1.len]
   exact h2.rel _ _ _,fun v hv=>by
  rcases List.mem_append.1 hv with hv|hv
  ·exact h1.pl v hv
  ·exact h2.pl v hv⟩
theorem JKh {A:Type}{Q:Nat→A→Prop}:∀ (n:Nat),(∀ i,i<n→∃ a,Q i a)→∃ l:List A,l.length=n∧∀ i (h:i<l.length),Q i l[i]
 |0,_=>⟨[],rfl,fun i h=>absurd h (by simp)⟩
 |n + 1,h=>by
   obtain ⟨l,h1,h2⟩:=JKh n fun i hi=>h i (by omega);obtain ⟨a,ha⟩:=h n (by omega);refine ⟨l++[a],by simp[h1],fun i hi=>?_⟩;simp only[List.length_append,List.length_cons,List.length_nil] at hi
   by_cases q:i<l.length
   ·rw[List.getElem_append_left q];exact h2 i q
   ·have:i=n:=by omega
    subst this;rw[List.getElem_append_right (by omega)]
    simpa [h1] using ha
theorem JBW {a:Addr}{v:Value}(h:w.cell? a=some v):a.spot=none∧∃ A e z,w.heap[a.block]?=some (.cells A e z)∧A[a.off]?=some v:=by
 unfold World.cell? at h;split at h
 ·rename_i c e z hb;split at h
  ·cases h
  ·rename_i hs;exact ⟨by simpa using hs,c,e,z,hb,h⟩
 ·cases h
theorem J0W {t:Nat}{d:TD}{fs:List (Nat×Nat)}(hd:tdOf P t=some d)(hk:d.kind=.struct fs):∃ g:Array Field,P.underlying t=some (.struct g)∧g.toList.map (fun f=>(f.offset,f.type))=fs:=by
 obtain ⟨u,hu,hr⟩:=(J0f hd).und;rw[hk] at hr;cases u<;>simp[kdOf] at hr
 exact ⟨_,hu,hr⟩
end
structure LB {H:Type} (L:DataW H→Prop) (B:Nat):Prop where
 sl:∀ e s,L (.slice e s)→e.length≤B∧∀ d∈e,L d
 ag:∀ p,L (.agg p)→∀ d∈p,L d
 st:∀ s,L (.lit (.string s))→s.length≤B
def OpenB {H:Type}(L:DataW H→Prop)(N:Nat)(enc:TypeId×Value→H)(P:Program)(w:World)(t:Nat)(Ψ:List AV→Prop):Prop:=
 ∀ (fuel:Nat),fuel≤N→∀ (cs:List Value) (x:DataW H×List MemPlace),DataW.trod enc P w 0 (fun _=>true) true fuel t cs=some x→L x.1→∃ z,CelR w z cs∧Ψ z
section
variable {H:Type} {enc:TypeId×Value→H} {P:Program} {w:World} {L:DataW H→Prop} {B0 N:Nat}
theorem OpenB.mono {t:Nat}{Ψ Ψ':List AV→Prop}(h:OpenB L N enc P w t Ψ)(k:∀ z,Ψ z→Ψ' z):OpenB L N enc P w t Ψ':=fun fuel hf cs x h1 h2=>by
 obtain ⟨z,h3,h4⟩:=h fuel hf cs x h1 h2;exact ⟨z,h3,k z h4⟩
theorem J0u (hL:LB L B0){t:Nat}(ht:P.underlying t=some .string):OpenB L N enc P w t fun z=>∃ s:ByteArray,z=[AV.val (.string s)]∧s.size≤B0:=by
 intro fuel _ cs x h hl;obtain ⟨s,rfl,rfl,_⟩:=DataW.trod_string ht h;exact ⟨_,CelR.one (.val _ rfl) rfl,s,rfl,by simpa using hL.st _ hl⟩
theorem J2v {t:Nat}{k:IntKind}(ht:P.underlying t=some (.int k)):OpenB L N enc P w t fun z=>∃ n:Int,z=[AV.val (.int k n)]:=by
 intro fuel _ cs x h hl;obtain ⟨n,rfl,rfl,hw⟩:=DataW.trod_int ht h;exact ⟨_,CelR.one (.val _ rfl) rfl,n,rfl⟩
theorem J5E {t:Nat}(ht:P.underlying t=some .bool):OpenB L N enc P w t fun z=>∃ b:Bool,z=[AV.val (.bool b)]:=by
 intro fuel _ cs x h hl;obtain ⟨b,rfl,rfl⟩:=DataW.trod_bool ht h;exact ⟨_,CelR.one (.val _ rfl) rfl,b,rfl⟩
theorem J1S {L:DataW H→Prop}{B0 N:Nat}(hL:LB L B0){t e n:Nat}{A:Type}{f:A→AV}{Φ:A→Prop}(ht:P.underlying t=some (.slice e))(hc:P.cellsOf e=n)(hn:0<n)(he:OpenB L N enc P w e fun z=>∃ a,z=(f a).cells∧Φ a) :
  OpenB L (N+1) enc P w t fun z=>∃ l:List A,z=[AV.sl n (l.map f)]∧l.length≤B0∧∀ a∈l,Φ a:=by
 intro fuel hfu cs x h hl
 rcases DataW.trod_slice ht h with ⟨rfl,rfl⟩|⟨a,len,cap,elems,rest,m,hfm,rfl,rfl,_,hlc,hm,hlen,hel,hsp,_⟩
 ·exact ⟨_,CelR.one (.slnil n) rfl,[],rfl,Nat.zero_le _,fun a h=>absurd h (by simp)⟩
 obtain ⟨hrl,hr⟩:=hsp rfl;obtain ⟨hl1,hl2⟩:=hL.sl _ _ hl;have hle:len≤B0:=by simpa [hlen] using hl1
 rw[hc] at hel hr
 have each:∀ i,i<len→∃ ecs,w.cells? 0 (a.add (i*n)) n=some ecs∧∃ y,DataW.trod enc P w 0 (fun _=>true) true m e ecs=some y∧y∈elems:=by
  intro i hi;have:=hel i hi;rw[List.getElem?_eq_getElem (by omega),Option.bind_eq_some_iff] at this;obtain ⟨ecs,h1,h2⟩:=this;exact ⟨ecs,h1,_,h2,List.getElem_mem _⟩
 have eachR:∀ j,j<cap-len→∃ ecs,w.cells? 0 (a.add ((len+j)*n)) n=some ecs:=by
  intro j hj;have:=hr j hj;rw[List.getElem?_eq_getElem (by omega),Option.bind_eq_some_iff] at this;obtain ⟨ecs,h1,h2⟩:=this;exact ⟨ecs,h1⟩
 have any:∀ i,i<cap→∃ ecs,w.cells? 0 (a.add (i*n)) n=some ecs:=by
  intro i hi
  by_cases q:i<len
  ·obtain ⟨ecs,h1,_⟩:=each i q;exact ⟨ecs,h1⟩
  ·have:=eachR (i-len) (by omega)
   rwa [show len+(i-len)=i by omega] at this
 rcases Nat.eq_zero_or_pos cap with hcap|hcap
 ·obtain rfl:len=0:=by omega
  subst hcap;exact ⟨_,CelR.one (.slemp n a) rfl,[],rfl,Nat.zero_le _,fun a h=>absurd h (by simp)⟩
 have hspot:a.spot=none:=by
  obtain ⟨ecs0,h0⟩:=any 0 hcap;obtain ⟨_,hl0,hg0⟩:=World.cells?_some h0;have h1:=hg0 0 hn;rw[List.getElem?_eq_getElem (by omega)] at h1;simp only[Nat.zero_mul,Addr.add,if_pos] at h1;exact (JBW h1).1
 obtain ⟨b,off,spot⟩:=a;simp only at hspot;subst hspot;obtain ⟨ecs0,h0⟩:=any (cap-1) (by omega);obtain ⟨_,hl0,hg0⟩:=World.cells?_some h0;have hlast:=hg0 (n-1) (by omega);rw[List.getElem?_eq_getElem (by omega),J0k,J0k] at hlast;obtain ⟨_,B,et,z,hblk,hoff⟩:=JBW hlast;have hblk':w.heap[b]?=some (.cells B et z):=hblk
 have hsz:off+cap*n≤B.size:=by
  have h2:=(Array.getElem?_eq_some_iff.1 hoff).1;have h3:off+(cap-1)*n+(n-1)<B.size:=h2;have h4:cap*n=(cap-1)*n+n:=by rw[← Nat.succ_mul];congr 1;omega
  omega
 obtain ⟨l,hll,hQ⟩:=JKh (A:=A) (Q:=fun i x=>∃ ecs,w.cells? 0 ((⟨b,off,none⟩:Addr).add (i*n)) n=some ecs∧CelR w (f x).cells ecs∧Φ x) len fun i hi=>by
  obtain ⟨ecs,h1,y,h2,h3⟩:=each i hi;obtain ⟨z,h4,x,rfl,h5⟩:=he m (by omega) ecs y h2 (hl2 _ (List.mem_map.2 ⟨y,h3,rfl⟩));exact ⟨x,ecs,h1,h4,h5⟩
 let F:Nat→Nat→Value:=fun i j=>(((w.cells? 0 ((⟨b,off,none⟩:Addr).add (i*n)) n).getD []).getD j undef)
 have hF:∀ i (hi:i<l.length),∃ ecs,ecs.length=n∧(∀ j,j<n→w.cell? ⟨b,off+i*n+j,none⟩=some (F i j))∧CelR w (f l[i]).cells ecs∧∀ j,F i j=ecs.getD j undef:=by
  intro i hi;obtain ⟨ecs,h1,h2,_⟩:=hQ i hi;obtain ⟨_,h3,h4⟩:=World.cells?_some h1;have hFe:∀ j,F i j=ecs.getD j undef:=fun j=>by simp only[F,h1,Option.getD_some]
  refine ⟨ecs,h3,fun j hj=>?_,h2,hFe⟩;have:=h4 j hj;rw[List.getElem?_eq_getElem (by omega)] at this;rw[hFe,List.getD_eq_getElem?_getD,List.getElem?_eq_getElem (by omega)];rw[J0k,J0k] at this;exact this
 refine ⟨_,CelR.one (x:=AV.sl n (l.map f)) ?_ rfl,l,rfl,by omega,fun x hx=>?_⟩
 ·have:=VR.sl (κ:=KM.empty) (w:=w) (N:=NoN) n (l.map f) b off cap F (by simp;omega) (fun h=>h) ⟨B,et,z,hblk',hsz⟩ (fun i hi=>?_) (fun i hi j hj=>?_) (fun i hi j hj=>?_) (fun i j hi hj=>?_)
  ·simpa [hll] using this
  ·have hi':i<l.length:=by simpa using hi
   obtain ⟨ecs,h1,_,h2,_⟩:=hF i hi';simp only[List.getElem_map];rw[h2.len,h1]
  ·obtain ⟨ecs,_,h1,_,_⟩:=hF i (by simpa using hi);exact h1 j hj
  ·have hi':i<l.length:=by simpa using hi
   obtain ⟨ecs,h1,_,h2,h3⟩:=hF i hi';simp only[List.getElem_map] at hj ⊢;have hje:j<ecs.length:=by rw[← h2.len];exact hj
   rw[h3,List.getD_eq_getElem?_getD,List.getElem?_eq_getElem hje];exact h2.rel j hj hje
  ·obtain ⟨ecs,h1,_,h2,h3⟩:=hF i (by simpa using hi);have hje:j<ecs.length:=by omega
   rw[h3,List.getD_eq_getElem?_getD,List.getElem?_eq_getElem hje];exact h2.pl _ (List.getElem_mem hje)
 ·obtain ⟨i,hi,rfl⟩:=List.getElem_of_mem hx;exact (hQ i hi).choose_spec.2.2
abbrev Fld:=Nat×Nat×Nat×(List AV→Prop)
def offs:Nat→List Fld→Option Nat
 |o,[]=>some o
 |o,p::r=>if p.1=o then offs (o+p.2.2.1) r else none
def AllZ:List Fld→List (List AV)→Prop
 |[],[]=>True
 |p::r,z::zs=>p.2.2.2 z∧AllZ r zs
 |_,_=>False
theorem JAx {n:Nat}{cs:List Value}:∀ (tys:List Fld) (ys:List (DataW H×List MemPlace)) (o:Nat),(∀ p∈tys,P.cellsOf p.2.1=p.2.2.1)→(∀ p∈tys,OpenB L n enc P w p.2.1 p.2.2.2)→ys.length=tys.length →
  (∀ (j:Nat) (p:Fld),tys[j]?=some p→DataW.trod enc P w 0 (fun _=>true) true n p.2.1 ((cs.drop p.1).take (P.cellsOf p.2.1))=ys[j]?)→(∀ y∈ys,L y.1)→offs o tys=some cs.length →
  ∃ zs:List (List AV),CelR w zs.flatten (cs.drop o)∧AllZ tys zs
 |[],ys,o,_,_,_,_,_,ho=>by
   have ho:some o=some cs.length:=ho;cases ho;exact ⟨[],⟨by simp,fun i h=>absurd h (by simp),fun v hv=>by simp at hv⟩,trivial⟩
 |p::r,[],o,_,_,hy,_,_,_=>by simp at hy
 |p :: r,y::ys,o,hc,h,hy,ht,hl,ho=>by
   have ho':(if p.1=o then offs (o+p.2.2.1) r else none)=some cs.length:=ho
   by_cases e:p.1=o
   ·rw[if_pos e] at ho';have h1:=ht 0 p rfl;rw[e,hc p (by simp)] at h1;obtain ⟨z,r1,p1⟩:=h p (by simp) n (Nat.le_refl _) _ y h1 (hl y (by simp));obtain ⟨zs,r2,p2⟩:=JAx r ys (o+p.2.2.1) (fun q hq=>hc q (by simp[hq])) (fun q hq=>h q (by simp[hq])) (by simpa using hy) (fun j q hq=>ht (j+1) q (by simpa using hq)) (fun q hq=>hl q (by simp[hq])) ho';refine ⟨z::zs,?_,p1,p2⟩;have e2:cs.drop o=(cs.drop o).take p.2.2.1++cs.drop (o+p.2.2.1):=by rw[← List.drop_drop,List.take_append_drop]
    rw[e2,List.flatten_cons];exact CelR.app r1 r2
   ·rw[if_neg e] at ho';cases ho'
theorem J0h (hL:LB L B0){t:Nat}{fs:Array Field}(hu:P.underlying t=some (.struct fs))(tys:List Fld)(hf:fs.toList.map (fun f=>(f.offset,f.type))=tys.map fun p=>(p.1,p.2.1))
  (hc:∀ p∈tys,P.cellsOf p.2.1=p.2.2.1)(ho:offs 0 tys=some (P.cellsOf t))(h:∀ p∈tys,OpenB L N enc P w p.2.1 p.2.2.2) :
  OpenB L (N+1) enc P w t fun z=>∃ zs:List (List AV),z=zs.flatten∧AllZ tys zs:=by
 intro fuel hfu cs x hx hl;obtain ⟨xs,n,hfn,rfl,hcl,hxl,hall⟩:=DataW.trod_struct hu hx;have hlen:fs.size=tys.length:=by simpa using congrArg List.length hf
 have hn:n≤N:=by omega
 obtain ⟨zs,h1,h2⟩:=JAx (cs:=cs) (n:=n) tys xs 0 hc (fun p hp=>fun fuel hfu=>h p hp fuel (Nat.le_trans hfu hn)) (by omega) (fun j p hp=>by
  have h3:=congrArg (fun l=>l[j]?) hf;simp only[List.getElem?_map,hp,Option.map_some] at h3
  cases hj:fs[j]? with
  |none=>
    rw[Array.getElem?_toList,hj] at h3;cases h3
  |some f=>
    rw[Array.getElem?_toList,hj] at h3;simp only[Option.map_some,Option.some.injEq,Prod.mk.injEq] at h3;have:=hall j f hj;rw[h3.1,h3.2] at this
    exact this) (fun y hy=>hL.ag _ hl _ (List.mem_map.2 ⟨y,hy,rfl⟩)) (by rw[ho,hcl])
 exact ⟨_,by simpa using h1,zs,rfl,h2⟩
end
end Go.Fw
