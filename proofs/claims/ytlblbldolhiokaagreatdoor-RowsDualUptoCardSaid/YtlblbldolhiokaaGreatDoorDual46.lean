/- Part 46 of the proof. -/
import Derived.Test.YtlblbldolhiokaaGreatDoorDual36
import Derived.Test.YtlblbldolhiokaaGreatDoorDual12
import Derived.Lib.AppendStr
import Derived.Test.YtlblbldolhiokaaGreatDoorDual14
import Derived.Test.YtlblbldolhiokaaGreatDoorDual44
set_option linter.unusedVariables false
set_option linter.unusedSimpArgs false
set_option linter.unusedSectionVars false
set_option maxRecDepth 100000
set_option exponentiation.threshold 400
set_option maxHeartbeats 8000000
namespace Go.Fw
open Go.RowKit
def J3P (n:Nat)(S:List Nat)(H:Hp)(x:AV):AV:=J0N (J05 S H n) x
theorem JBH {gh:Gh}{κ:KM}{H:Hp}{w:World}(hr:HRel gh κ H w)(n:Nat)(S:List Nat){x:AV}{v:Value}(h:VR κ w (Nset gh.O κ H) x v):VR KM.empty w (Nset gh.O κ (rem H S)) (J3P n S H x) v:=by
 have h':=@J0J gh κ H w hr S n x v h
 cases h with
 |agg cs vs h1 h2 h3=>exact .agg _ _ (by simp[h1]) (fun i h h'=>by
  simp only[List.getElem_map]
  exact J0J hr S n (h2 i (by simpa using h) h')) h3
 |_=>exact h'
theorem J5b {P:Program}{f:Nat}{args:List AV}{H:Hp}{Q:AV→Hp→Prop}(n:Nat)(S:List Nat)(r:AV)(hp:PureCall P f (args.map (J3P n S H)) r)(h:(flat r=true∧Q r H)∨Q r (rem H S)):HCall P f args H Q:=by
 intro gh κ w vs hr hv;refine (hp (Nset gh.O κ (rem H S)) w vs ?_ ⟨by simpa using hv.1,fun i h h'=>?_⟩).mono ?_
 ·intro c hc
  rcases J0M S hc with h|h
  ·exact Nat.lt_of_lt_of_le (hr.apart c h).1 hr.kept.size
  ·exact hr.lt h
 ·simp only[List.getElem_map];exact JBH hr n S (hv.2 i (by simpa using h) h')
 ·rintro e w' ⟨v,rfl,hr',hb⟩
  rcases h with ⟨hf,hC⟩|hC
  ·obtain ⟨h1,h2⟩:=J14 hr hb;exact ⟨v,r,H,κ,rfl,hC,h1,hr'.flat hf,h2⟩
  ·obtain ⟨h1,h2⟩:=J14 (hr.rem S) hb;exact ⟨v,r,rem H S,κ,rfl,hC,h1,hr'.lift,fun h=>h2 (h.mono fun c h=>J0M S h)⟩
theorem JB5 {E:En}{f:Nat}{args:List AV}{H:Hp}{C:AV→Hp→Prop}(n:Nat)(S:List Nat)(r:AV)(hc:J03 E.P f)(h:PureCall E.P f (args.map (J3P n S H)) r)(k:C r (rem H S)):CallP E f args H C:=.own hc (J5b n S r h (.inr k))
theorem JJs {E:En}{f:Nat}{args:List AV}{H:Hp}{C:AV→Hp→Prop}(n:Nat)(S:List Nat)(r:AV)(hc:J03 E.P f)(h:PureCall E.P f (args.map (J3P n S H)) r)(hf:Fw.flat r=true)(k:C r H):CallP E f args H C:=.own hc (J5b n S r h (.inl ⟨hf,k⟩))
def BY (l:List UInt8):List AV:=l.map fun b=>AV.val (.int .u8 (b.toNat:Int))
@[simp] theorem BY_length (l:List UInt8):(BY l).length=l.length:=by simp[BY]
theorem JGB (a b:List UInt8):BY (a++b)=BY a++BY b:=by simp[BY]
section
variable {P:Program} {T:Nat→Option TD} {gh:Gh} {κ:KM} {H:Hp} {w:World}
theorem Row.bytes (N:Nat→Prop)(s:ByteArray):Row κ w N 1 (BY s.data.toList) (Lib.strCells s):=by
 refine ⟨by simp[BY,Lib.strCells],fun i h=>by simp[BY,AV.cells],fun u hu=>Lib.strCells_oneCell s u hu,fun i h j h'=>?_⟩;have hj:j=0:=by simpa [BY,AV.cells] using h'
 subst hj;have hi:i<s.data.toList.length:=by simpa [BY] using h
 have e1:(BY s.data.toList)[i].cells[0]'(h')=.val (.int .u8 (s.data.toList[i].toNat:Int)):=by simp[BY,AV.cells]
 have e2:(Lib.strCells s).getD (i*1+0) undef=.int .u8 (s.data.toList[i].toNat:Int):=by
  rw[List.getD_eq_getElem?_getD,List.getElem?_eq_getElem (by simpa [Lib.strCells] using hi)];simp[Lib.strCells]
 rw[e1,e2];exact .val _ rfl
theorem JAO (t u ty e:TypeId)(i:TypeInfo)(ht:P.underlying t=some (.slice e))(hu:P.underlying u=some .string)(hi:P.info? e=some i)(hz:i.zero=some (.int .u8 0))
  (hsize:i.size=1)(hby:i.bytes=1)(v:Value)(n:Nat)(xs:List Value)(hown:w.ownsRow 0 e 1 v n xs)(s:ByteArray)(h63:n+s.size≤140737488355328) :
  ∃ v' w',(Builtin.append_ #[t,u] ty #[v,.string s]).run P w=.ok v' w'∧w'.ownsRow 0 e 1 v' (n+s.size) (xs++Lib.strCells s)∧w.grownBy w' v.ownBlock ∧
    ∀ c,v'.ownBlock=some c→v.ownBlock=some c∨w.heap.size≤c:=by
 have hm:n+s.size≤maxLen:=by unfold maxLen;omega
 obtain ⟨v',w',hr,h1,h2,_⟩:=Lib.run_append_own_string (P:=P) w 0 t u ty e i ht hu hi hz hsize hby v n xs hown s hm h63 (Nat.zero_le _);refine ⟨v',w',hr,h1,h2,fun c hc=>?_⟩;have hxl:xs.length=n:=by simpa using hown.1
 rcases hown.2 with ⟨rfl,rfl⟩|⟨g,cap,cur,rfl,_,hg,hnc,hcm,hcs,htake⟩
 ·obtain rfl:xs=[]:=List.eq_nil_of_length_eq_zero hxl;obtain ⟨v2,w2,hr2,h3,_⟩:=Lib.run_append_own_string (P:=P) w w.heap.size t u ty e i ht hu hi hz hsize hby (.slice none 0 0) 0 [] (World.ownsRow_nil ..) s hm h63 (Nat.le_refl _);rw[hr] at hr2;cases hr2
  rcases h3.2 with ⟨rfl,_⟩|⟨g,cap,cur,rfl,hg,_⟩
  ·simp[Value.ownBlock] at hc
  ·simp[Value.ownBlock] at hc;exact .inr (hc ▸ hg)
 ·by_cases hroom:n+s.size≤cap
  ·have hr2:=Lib.run_append_room_string (P:=P) w t u ty e i ht hu hi hsize g n cap cur hg s hroom (by simp at hcs;omega);rw[hr] at hr2;cases hr2;exact .inl (by simpa [Value.ownBlock] using hc)
  ·have hr2:=Lib.run_append_grow_string (P:=P) w t u ty e i (.int .u8 0) ht hu hi hz ⟨g,0,none⟩ n cap xs (by rw[hsize];simpa using hxl) (hown.cells (g:=g) rfl) s (by omega) (by unfold maxLen at hm;omega) (by rw[hby];exact growslice_fits (by omega) (by omega));rw[hr] at hr2;cases hr2;simp[Value.ownBlock] at hc;exact .inr (by omega)
theorem J9F (hr:HRel gh κ H w){t u ty e d g γ:Nat}{i:TypeInfo}(ht:P.underlying t=some (.slice e))(hu:P.underlying u=some .string)(hi:P.info? e=some i)(hz:i.zero=some (.int .u8 0))
  (hsize:i.size=1)(hby:i.bytes=1)(hne:e≠solo)(hγ:κ d γ=none){v:Value}{l:List UInt8}{s:ByteArray}(hB:H d=some (g,⟨e,1,BY l⟩))(hv:VR κ w (Nset gh.O κ H) (.own d g 0 l.length) v)
  (hb:l.length+s.size≤140737488355328) :
  Does P gh κ H w (Builtin.append_ #[t,u] ty #[v,.string s]) (some (d,γ,⟨e,1,BY (l++s.data.toList)⟩)) fun κ' w' N' r=>VR κ' w' N' (.own d γ 0 (l.length+s.size)) r:=by
 obtain ⟨K,hk,hbr⟩:=hr.blk _ _ _ hB
 obtain ⟨XS,hown,hrow,hblk⟩:∃ XS,w.ownsRow 0 e 1 v l.length XS∧Row κ w (Nset gh.O κ H) 1 (BY l) XS∧∀ c,v.ownBlock=some c→K.c=some c:=by
  generalize hlen:l.length=len at hv
  cases hv with
  |ownnil _ _ K' hk' hc=>
    rw[hk] at hk';cases hk';obtain rfl:l=[]:=List.eq_nil_of_length_eq_zero hlen;exact ⟨[],World.ownsRow_nil w 0 e 1,Row.nil _,fun c h=>by simp[Value.ownBlock] at h⟩
  |own _ _ _ _ cap c K' hk' hc h1 h2 hp=>
    rw[hk] at hk';cases hk';have hbr:=hbr.rows hp;obtain ⟨A,hbk,hm,hrow⟩:=hbr.row hc 0 len (by simp[hlen]);have hKn:K.n=1:=hbr.1;have htk:(BY l).take len=BY l:=List.take_of_length_le (by simp[hlen]);simp only[List.drop_zero,Nat.zero_mul,htk,hKn,Nat.mul_one] at hrow;have hcs:A.size=cap:=by rw[← hm,← h2.1,hKn];omega
    simp only[Nat.zero_add,Nat.zero_mul] at h2 ⊢;refine ⟨A.toList.take len,⟨by simp;omega,.inr ⟨c,cap,A,rfl,Nat.zero_le _,hbk,h1,h2.2,by omega,by simp⟩⟩,hrow,fun c' h=>?_⟩;simp[Value.ownBlock] at h;rw[hc,h]
 obtain ⟨v',w',hrun,hown',hg,hob⟩:=JAO (P:=P) t u ty e i ht hu hi hz hsize hby v l.length XS hown s hb;have hall:Row κ w (Nset gh.O κ H) 1 (BY (l++s.data.toList)) (XS++Lib.strCells s):=by rw[JGB];exact hrow.append (Row.bytes _ s)
 have hlen:(BY (l++s.data.toList)).length=l.length+s.size:=by rw[BY_length,List.length_append];rfl
 have hnot:∀ b g' B' K' c,b≠d→H b=some (g',B')→κ b g'=some K'→K'.c=some c→some c≠v.ownBlock:=by
  intro b g' B' K' c hne h1 h2 h3 e';exact hne (hr.inj _ _ _ _ _ _ _ _ c h1 hB h2 hk h3 (hblk c e'.symm))
 have hag:Agree (Own κ H) w w':=⟨hg.size,fun c hc hn=>hg.block c hc fun e'=>hn ⟨d,g,_,K,hB,hk,hblk c e'.symm⟩⟩
 rcases hown'.2 with ⟨rfl,h0⟩|⟨g',cap',cur',rfl,_,hb',hnc,hcm,hcs,htake⟩
 ·have hnil:BY (l++s.data.toList)=[]:=List.eq_nil_of_length_eq_zero (by omega)
  have hrep:=hr.replace (d:=d) (γ:=γ) (K:=⟨none,1,0⟩) (B:=⟨e,1,BY (l++s.data.toList)⟩) (w':=w') (J0i hr ..) hag
   (fun b g B' K' c hne h1 h2 h3=>hg.block c (hr.lt ⟨b,g,B',K',h1,h2,h3⟩) (hnot b g B' K' c hne h1 h2 h3)) ⟨hg.os,hg.tape,hg.output⟩ (.inl hγ) (fun c hc=>by cases hc)
   (fun _=>.inl ⟨Nat.one_pos,rfl,fun i hi=>by rw[hnil] at hi;simp at hi,.inl ⟨rfl,hnil⟩⟩)
  refine ⟨_,w',_,hrun,hrep.1,hrep.2,?_,fun b g h=>J0E _ _ _ _ (h _ _ _ rfl)⟩;rw[h0];exact .ownnil d γ ⟨none,1,0⟩ (J09 ..) rfl
 ·have hrep:=hr.replace (d:=d) (γ:=γ) (K:=⟨some g',1,cur'.size⟩) (B:=⟨e,1,BY (l++s.data.toList)⟩) (w':=w') (J0i hr ..) hag
   (fun b g B' K' c hne h1 h2 h3=>hg.block c (hr.lt ⟨b,g,B',K',h1,h2,h3⟩) (hnot b g B' K' c hne h1 h2 h3)) ⟨hg.os,hg.tape,hg.output⟩ (.inl hγ)
   (fun c hc=>by
     cases hc
     rcases hob g' (by simp[Value.ownBlock]) with hob|hob
     ·exact .inr ⟨g,_,K,hB,hk,hblk _ hob⟩
     ·left;omega)
   (fun htr=>hall.block hb' hcs (by rw[hlen];exact hnc) (by rw[hlen];exact htake) htr Nat.one_pos fun h=>absurd h hne)
  refine ⟨_,w',_,hrun,hrep.1,hrep.2,?_,fun b g h=>J0E _ _ _ _ (h _ _ _ rfl)⟩;have:=VR.own (κ:=κ.set d γ ⟨some g',1,cur'.size⟩) (w:=w') (N:=Nset gh.O (κ.set d γ ⟨some g',1,cur'.size⟩) (setH H d (some (γ,⟨e,1,BY (l++s.data.toList)⟩)))) d γ 0 (l.length+s.size) cap' g' _ (J09 ..) rfl hnc ⟨by simp[hcs],by simpa using hcm⟩ Nat.one_pos
  simpa [app] using this
end
def valB:Value→Value→Bool
 |.string a,.string b=>decide (a=b)
 |.int k a,.int k' b=>decide (k=k')&&decide (a=b)
 |.bool a,.bool b=>decide (a=b)
 |.slice none 0 0,.slice none 0 0=>true
 |_,_=>false
theorem JIe {a b:Value}(h:valB a b=true):a=b:=by
 unfold valB at h;split at h
 ·rw[of_decide_eq_true h]
 ·simp only[Bool.and_eq_true] at h;rw[of_decide_eq_true h.1,of_decide_eq_true h.2]
 ·rw[of_decide_eq_true h]
 ·rfl
 ·cases h
def allB (p:AV→AV→Bool):List AV→List AV→Bool
 |[],[]=>true
 |x::xs,y::ys=>p x y&&allB p xs ys
 |_,_=>false
theorem J2j {p:AV→AV→Bool}:∀ {xs ys:List AV},allB p xs ys=true→xs.length=ys.length∧∀ i (h:i<xs.length) (h':i<ys.length),p xs[i] ys[i]=true
 |[],[],_=>⟨rfl,fun i h=>by simp at h⟩
 |[],_::_,h=>by cases h
 |_::_,[],h=>by cases h
 |x::xs,y::ys,h=>by
   unfold allB at h;simp only[Bool.and_eq_true] at h;obtain ⟨h1,h2⟩:=J2j h.2;refine ⟨by simp[h1],fun i hi hi'=>?_⟩
   cases i with
   |zero=>exact h.1
   |succ i=>exact h2 i (by simpa using hi) (by simpa using hi')
def leN:Nat→AV→AV→Bool
 |0,_,_=>false
 |n+1,.val a,.val b=>valB a b
 |_+1,.val (.slice none 0 0),.sl _ []=>true
 |n+1,.agg xs,.agg ys=>allB (leN n) xs ys
 |n+1,.tup xs,.tup ys=>allB (leN n) xs ys
 |n+1,.sl k xs,.sl k' ys=>Nat.beq k k'&&allB (fun x y=>allB (leN n) x.cells y.cells) xs ys
 |_,_,_=>false
theorem JEg (n:Nat):∀ (x y:AV),leN n x y=true→∀ (κ:KM) (w:World) (N:Nat→Prop) (v:Value),VR κ w N x v→VR κ w N y v:=by
 induction n with
 |zero=>intro x y h;cases h
 |succ n ih=>
   intro x y h κ w N v hv;unfold leN at h;split at h
   ·rename_i h0;cases h0
   ·rw[← JIe h];exact hv
   ·cases hv;exact .slnil _
   ·rename_i e;cases e;obtain ⟨h1,h2⟩:=J2j h
    cases hv with
    |agg cs vs q1 q2 q3=>exact .agg _ _ (h1 ▸ q1) (fun i hi hi'=>ih _ _ (h2 i (by omega) hi) _ _ _ _ (q2 i (by omega) hi')) q3
   ·rename_i e;cases e;obtain ⟨h1,h2⟩:=J2j h
    cases hv with
    |tup cs vs q1 q2=>exact .tup _ _ (h1 ▸ q1) (fun i hi hi'=>ih _ _ (h2 i (by omega) hi) _ _ _ _ (q2 i (by omega) hi'))
   ·rename_i n' k xs k' ys e;cases e;simp only[Bool.and_eq_true] at h;obtain ⟨h0,h⟩:=h;obtain rfl:=Nat.eq_of_beq_eq_true h0;obtain ⟨h1,h2⟩:=J2j h
    cases hv with
    |slnil=>obtain rfl:ys=[]:=List.eq_nil_of_length_eq_zero (by simpa using h1.symm);exact .slnil _
    |slemp _ a=>obtain rfl:ys=[]:=List.eq_nil_of_length_eq_zero (by simpa using h1.symm);exact .slemp _ a
    |sl _ _ c o cap f q1 q2 q3 q4 q5 q6 q7=>
      rw[h1];refine .sl k ys c o cap f (by omega) q2 q3 (fun i hi=>?_) (fun i hi j hj=>q5 i (by omega) j hj) (fun i hi j hj=>?_) (fun i j hi hj=>q7 i j (by omega) hj)
      ·rw[← (J2j (h2 i (by omega) hi)).1];exact q4 i (by omega)
      ·obtain ⟨e1,e2⟩:=J2j (h2 i (by omega) hi);exact ih _ _ (e2 j (by omega) hj) _ _ _ _ (q6 i (by omega) j (by omega))
   ·cases h
theorem J1m {P:Program}{f:Nat}{args:List AV}{r r':AV}(h:PureCall P f args r)(n:Nat)(hl:leN n r r'=true):PureCall P f args r':=by
 intro O w vs hO hv;exact (h O w vs hO hv).mono fun e w' ⟨v,h1,h2,h3⟩=>⟨v,h1,JEg n _ _ hl _ _ _ _ h2,h3⟩
abbrev Tab:=List (Nat×List AV×AV)
structure TabOk (P:Program) (tb:Tab):Prop where
 o:∀ e∈tb,J03 P e.1∧PureCall P e.1 e.2.1 e.2.2∧flat e.2.2=true
def hitB (n:Nat)(args:List AV)(m:Mem)(e:Nat×List AV×AV):Bool:=Nat.beq e.1 n&&allB (leN 16) (args.map (J3P 8 (m.map Prod.fst) (hp m))) e.2.1
def xTab (tb:Tab)(call:CallX):CallX:=fun n args m k=>match tb.find? (hitB n args m) with
 |some e=>some (e.2.2,m,k)
 |none=>call n args m k
theorem JIN {X:XE}{tb:Tab}(ht:TabOk X.E.P tb){call:CallX}(hc:J1C X call):J1C X (xTab tb call):=by
 intro n args m k r m' k' h;unfold xTab at h;split at h
 ·rename_i e he;cases h;obtain ⟨h1,h2,h3⟩:=ht.o e (List.mem_of_find?_eq_some he);have hb:=List.find?_some he;unfold hitB at hb;simp only[Bool.and_eq_true] at hb;have hn:=Nat.eq_of_beq_eq_true hb.1;obtain ⟨q1,q2⟩:=J2j hb.2;refine ⟨hn ▸ h1,fun gh κ w vs hr hv hk=>?_⟩;rw[← hn]
  have hO:∀ c,Nset gh.O κ (rem (hp m) (m.map Prod.fst)) c→c<w.heap.size:=by
   intro c hc
   rcases J0M _ hc with h|h
   ·exact Nat.lt_of_lt_of_le (hr.apart c h).1 hr.kept.size
   ·exact hr.lt h
  refine (h2 (Nset gh.O κ (rem (hp m) (m.map Prod.fst))) w vs hO ⟨by simpa using (by simpa using q1:args.length=e.2.1.length).symm.trans hv.1,fun i h h'=>?_⟩).mono ?_
  ·have hl:args.length=e.2.1.length:=by simpa using q1
   have:=q2 i (by simpa [hl] using h) h;simp only[List.getElem_map] at this;exact JEg _ _ _ this _ _ _ _ (JBH hr 8 _ (hv.2 i (by omega) h'))
  ·rintro e' w' ⟨v,rfl,hr',hb'⟩;obtain ⟨z1,z2⟩:=J14 hr hb';exact ⟨v,κ,rfl,z1,hr'.flat h3,z2,hk⟩
 ·exact hc _ _ _ _ _ _ _ h
structure TabOk2 (P:Program) (tb:Tab):Prop where
 o:∀ e∈tb,J03 P e.1∧PureCall P e.1 e.2.1 e.2.2
def JKK (n:Nat)(args:List AV)(e:Nat×List AV×AV):Bool:=Nat.beq e.1 n&&allB (leN 16) (args.map JAK) e.2.1
def JIO (tb:Tab)(call:CallX):CallX:=fun n args m k=>match tb.find? (JKK n args) with
 |some e=>some (e.2.2,m,k)
 |none=>call n args m k
theorem JGC {X:XE}{tb:Tab}(ht:TabOk2 X.E.P tb){call:CallX}(hc:J1C X call):J1C X (JIO tb call):=by
 intro n args m k r m' k' h;unfold JIO at h;split at h
 ·rename_i e he;cases h;obtain ⟨h1,h2⟩:=ht.o e (List.mem_of_find?_eq_some he);have hb:=List.find?_some he;unfold JKK at hb;simp only[Bool.and_eq_true] at hb;have hn:=Nat.eq_of_beq_eq_true hb.1;obtain ⟨q1,q2⟩:=J2j hb.2
  have h3:PureCall X.E.P e.1 (args.map JAK) e.2.2:=by
   intro O w vs hO hv;refine h2 O w vs hO ⟨q1.symm.trans hv.1,fun i hi h'=>?_⟩;exact JEg _ _ _ (q2 i (by rw[q1];exact hi) hi) _ _ _ _ (hv.2 i (by rw[q1];exact hi) h')
  refine ⟨hn ▸ h1,fun gh κ w vs hr hv hk=>?_⟩;rw[← hn];refine (J9e hr hv h3).mono ?_;rintro e' w' ⟨v,rfl,z1,z2,z3⟩;exact ⟨v,κ,rfl,z1,z2,z3,hk⟩
 ·exact hc _ _ _ _ _ _ _ h
def JDV (X:XE)(tb tb2:Tab)(fuel:Nat):Nat→CallX
 |0=>fun _ _ _ _=>none
 |n+1=>JIO tb2 (xTab tb (JBA X (JDV X tb tb2 fuel n) fuel))
theorem J8M {X:XE}{tb tb2:Tab}(hX:XOk X)(ht:TabOk X.E.P tb)(ht2:TabOk2 X.E.P tb2)(fuel:Nat):∀ n,J1C X (JDV X tb tb2 fuel n)
 |0=>fun _ _ _ _ _ _ _ h=>by cases h
 |n+1=>JGC ht2 (JIN ht (J8N hX (J8M hX ht ht2 fuel n) fuel))
theorem J3A {X:XE}{tb tb2:Tab}(hX:XOk X)(ht:TabOk X.E.P tb)(ht2:TabOk2 X.E.P tb2){fuel n f:Nat}{args:List AV}{r:AV}(h:JER (JDV X tb tb2 fuel n) f args=some r):PureCall X.E.P f args r:=(J8g (J8M hX ht ht2 fuel n) h).2
end Go.Fw
