/- Part 33 of the proof. -/
import Derived.Test.YtlblbldolhiokaaGreatDoorDual32
set_option linter.unusedVariables false
set_option linter.unusedSimpArgs false
set_option linter.unusedSectionVars false
set_option maxRecDepth 100000
set_option exponentiation.threshold 400
set_option maxHeartbeats 8000000
namespace Go.Fw
open Go.RowKit
def mvB (f:Nat→Option Nat)(p:Nat×Blk):Nat×Blk:=(p.1,{ p.2 with xs:=p.2.xs.map (mv f 3) })
theorem J7i (f:Nat→Option Nat)(n:Nat)(x:AV):(mv f (n+1) x).cells.length=x.cells.length∧∀ j (h:j<(mv f (n+1) x).cells.length) (h':j<x.cells.length),(∃ m,(mv f (n+1) x).cells[j]=mv f m x.cells[j]):=by
 cases x with
 |agg cs=>exact ⟨by simp[mv],fun j h h'=>⟨n,by simp[mv]⟩⟩
 |own b g o l=>
   have:(mv f (n+1) (.own b g o l)).cells=[mv f (n+1) (.own b g o l)]:=by simp only[mv];split<;>rfl
   simp only[this];refine ⟨rfl,fun j h h'=>⟨n+1,?_⟩⟩;have:j=0:=by simpa using h
   subst this;rfl
 |op b g o l=>
   have:(mv f (n+1) (.op b g o l)).cells=[mv f (n+1) (.op b g o l)]:=by simp only[mv];split<;>rfl
   simp only[this];refine ⟨rfl,fun j h h'=>⟨n+1,?_⟩⟩;have:j=0:=by simpa using h
   subst this;rfl
 |om b g=>
   have:(mv f (n+1) (.om b g)).cells=[mv f (n+1) (.om b g)]:=by simp only[mv];split<;>rfl
   simp only[this];refine ⟨rfl,fun j h h'=>⟨n+1,?_⟩⟩;have:j=0:=by simpa using h
   subst this;rfl
 |it b g=>
   have:(mv f (n+1) (.it b g)).cells=[mv f (n+1) (.it b g)]:=by simp only[mv];split<;>rfl
   simp only[this];refine ⟨rfl,fun j h h'=>⟨n+1,?_⟩⟩;have:j=0:=by simpa using h
   subst this;rfl
 |_=>
   refine ⟨rfl,fun j h h'=>⟨n+1,?_⟩⟩;have:j=0:=by simpa [mv,AV.cells] using h
   subst this;rfl
theorem ObR.mv {w:World}{N:Nat→Prop}{c:Nat}{xs:List AV}(f:Nat→Option Nat)(h:ObR w N c xs):ObR w N c (xs.map (mv f 3)):=by
 unfold ObR at h;split at h
 ·exact h
 ·exact h
 ·rename_i mk mv' l cur;obtain ⟨L,rfl,c0,A,ck,seen,hI⟩:=h
  have e:(L.map encN).map (Fw.mv f 2)=L.map encN:=by
   rw[List.map_map];apply List.map_congr_left;intro j _;rfl
  show ObR w N c [.mp mk mv',.tup ((L.map encN).map (Fw.mv f 2)),Fw.mv f 3 cur]
  rw[e];refine ⟨L,rfl,c0,A,ck,seen,hI.it,hI.out,hI.at_,hI.map,hI.lt,hI.left,fun x hx=>hI.cur x ?_⟩
  cases cur<;>simp only[Fw.mv] at hx<;>first
   |exact hx
   |(cases hx;done)
   |(split at hx<;>cases hx)
 ·exact h.elim
theorem JI6 {κ κ':KM}{w:World}{N:Nat→Prop}{f:Nat→Option Nat}(hf:∀ b b' g K,f b=some b'→κ b g=some K→κ' b' g=some K){K:KI}{p:Nat×Blk}(h:BlkRel κ w N K p.2):BlkRel κ' w N K (mvB f p).2:=by
 rcases h with ⟨hn,h1,h2,h3⟩|⟨h0,h1,c,h2,h3⟩
 case inr=>exact .inr ⟨h0,h1,c,h2,h3.mv f⟩
 have hx:∀ i (hi:i<(p.2.xs.map (mv f 3)).length),(p.2.xs.map (mv f 3))[i]=mv f 3 (p.2.xs[i]'(by simpa using hi)):=fun i hi=>by simp
 refine .inl ⟨hn,h1,fun i hi=>?_,?_⟩
 ·have hi':i<(p.2.xs.map (mv f 3)).length:=hi;show ((p.2.xs.map (mv f 3))[i]'hi').cells.length=p.2.n
  rw[hx i hi',(J7i f 2 _).1];exact h2 i (by simpa using hi')
 ·rcases h3 with ⟨h3,h4⟩ | ⟨c,A,F,k1,k2,k3,k4,k5,k6,k7,k8⟩
  ·exact .inl ⟨h3,by simp[mvB,h4]⟩
  ·refine .inr ⟨c,A,F,k1,k2,k3,by simpa [mvB] using k4,fun j hj=>k5 j (by simpa [mvB] using hj),fun j l hj=>k6 j l (by simpa [mvB] using hj),fun j hj l hl=>?_,k8⟩;have hj':j<p.2.xs.length:=by simpa [mvB] using hj
   have e:=hx j (by simpa [mvB] using hj);simp only[mvB,e] at hl ⊢;have hl':l<p.2.xs[j].cells.length:=by rw[← (J7i f 2 _).1];exact hl
   obtain ⟨m,hm⟩:=(J7i f 2 p.2.xs[j]).2 l hl hl';rw[hm];exact JAc hf m (k7 j hj' l hl')
theorem VR.move {κ κ':KM}{w w':World}{N N':Nat→Prop}{x:AV}{v:Value}(h:VR κ w N x v):(∀ y u,VR KM.empty w N y u→VR KM.empty w' N' y u)→(∀ b g o l u,VR κ w N (.own b g o l) u→VR κ' w' N' (.own b g o l) u) →
  (∀ b g i k u,VR κ w N (.op b g i k) u→VR κ' w' N' (.op b g i k) u)→(∀ b g u,VR κ w N (.om b g) u→VR κ' w' N' (.om b g) u)→(∀ b g u,VR κ w N (.it b g) u→VR κ' w' N' (.it b g) u)→VR κ' w' N' x v:=by
 induction h with
 |dead v=>intro hE hO hP hM hI;exact .dead v
 |val v h=>intro hE hO hP hM hI;exact .val v h
 |agg cs vs h1 _ h2 ih=>intro hE hO hP hM hI;exact .agg cs vs h1 (fun i h h'=>ih i h h' hE hO hP hM hI) h2
 |tup cs vs h1 _ ih=>intro hE hO hP hM hI;exact .tup cs vs h1 (fun i h h'=>ih i h h' hE hO hP hM hI)
 |slnil n=>intro hE hO hP hM hI;exact .slnil n
 |slemp n a=>intro hE hO hP hM hI;exact .slemp n a
 |sl n xs c o cap f h1 h2 h3 h4 h5 h6 h7 _=>intro hE hO hP hM hI;exact (hE _ _ (VR.sl n xs c o cap f h1 h2 h3 h4 h5 h6 h7)).lift
 |fu n xs a _ ih=>intro hE hO hP hM hI;exact .fu n xs a (ih hE hO hP hM hI)
 |ep x k c o f h1 h2 h3 h4 h5 _=>intro hE hO hP hM hI;exact (hE _ _ (VR.ep x k c o f h1 h2 h3 h4 h5)).lift
 |ownnil b g K h1 h2=>intro hE hO hP hM hI;exact hO _ _ _ _ _ (.ownnil b g K h1 h2)
 |own b g off len cap c K h1 h2 h3 h4 hp=>intro hE hO hP hM hI;exact hO _ _ _ _ _ (.own b g off len cap c K h1 h2 h3 h4 hp)
 |op b g i k c K h1 h2 hp=>intro hE hO hP hM hI;exact hP _ _ _ _ _ (.op b g i k c K h1 h2 hp)
 |mp ks vs c A ck h1 h2 h3 h4 h5 h6 h7 _ _=>intro hE hO hP hM hI;exact (hE _ _ (VR.mp ks vs c A ck h1 h2 h3 h4 h5 h6 h7)).lift
 |om b g c K h1 h2 h3=>intro hE hO hP hM hI;exact hM _ _ _ (.om b g c K h1 h2 h3)
 |it b g c K h1 h2 h3=>intro hE hO hP hM hI;exact hI _ _ _ (.it b g c K h1 h2 h3)
 |fn f first cap vf vc h1 h2 _ _ ih1 ih2=>intro hE hO hP hM hI;exact .fn f first cap vf vc h1 h2 (fun i h h'=>ih1 i h h' hE hO hP hM hI) (fun i h h'=>ih2 i h h' hE hO hP hM hI)
theorem BlkRel.move {κ κ':KM}{w w':World}{N N':Nat→Prop}{K:KI}{B:Blk}(hv:∀ {x:AV} {u:Value},VR κ w N x u→VR κ' w' N' x u)(ha:Agree N w w')(hN:∀ c,c<w.heap.size→N' c→N c)(hc:∀ c,K.c=some c→w'.heap[c]?=w.heap[c]?)(h:BlkRel κ w N K B):BlkRel κ' w' N' K B:=by
 rcases h with ⟨hn,h1,h2,h3⟩|⟨h0,h1,c,h2,h3⟩
 case inr=>exact .inr ⟨h0,h1,c,h2,h3.step ha hN (hc c h2)⟩
 refine .inl ⟨hn,h1,h2,?_⟩
 rcases h3 with h3|⟨c,A,F,k1,k2,k3,k4,k5,k6,k7,k8⟩
 ·exact .inl h3
 ·exact .inr ⟨c,A,F,k1,(hc c k1).trans k2,k3,k4,k5,k6,fun i h j h'=>hv (k7 i h j h'),k8⟩
def back (φ:Nat→Nat)(ψ:Nat→Option Nat)(h' H:Hp):Hp:=fun y=>match ψ y with
 |some b=>(h' b).map (mvB fun b=>some (φ b))
 |none=>H y
theorem HCall.frame {P:Program}{f:Nat}{args args0:List AV}{H h0:Hp}{Q0:AV→Hp→Prop}(φ:Nat→Nat)(ψ:Nat→Option Nat)(hψ:∀ y b,ψ y=some b↔φ b=y)
  (h:HCall P f args0 h0 Q0)(ha:args.map (mv ψ 3)=args0)(hh:∀ b v,h0 b=some v→(H (φ b)).map (mvB ψ)=some v){C:AV→Hp→Prop}(hC:∀ r0 h',Q0 r0 h'→C (mv (fun b=>some (φ b)) 3 r0) (back φ ψ h' H)):HCall P f args H C:=by
 intro gh κ w vs hr hvs
 have hinj:∀ b b',φ b=φ b'→b=b':=by
  intro b b' e;have h1:=(hψ _ b).2 rfl;rw[e,(hψ _ b').2 rfl] at h1;cases h1;rfl
 have hh':∀ b g B0,h0 b=some (g,B0)→∃ B,H (φ b)=some (g,B)∧(mvB ψ (g,B)).2=B0:=by
  intro b g B0 hb;have:=hh b _ hb;simp only[Option.map_eq_some_iff] at this;obtain ⟨⟨g',B⟩,h1,h2⟩:=this;have e1:g'=g:=congrArg Prod.fst h2;have e2:(mvB ψ (g',B)).2=B0:=congrArg Prod.snd h2;subst e1;exact ⟨B,h1,e2⟩
 let M0:Nat→Prop:=fun c=>∃ b g B K,h0 b=some (g,B)∧κ (φ b) g=some K∧K.c=some c
 let O0:Nat→Prop:=fun c=>gh.O c∨∃ y g B K,H y=some (g,B)∧κ y g=some K∧K.c=some c∧∀ b,ψ y=some b→h0 b=none
 let gh0:Gh:={ gh with w0:=w,M:=M0,O:=O0 }
 let κ0:KM:=fun b g=>κ (φ b) g
 have hf0:∀ b b' g K,ψ b=some b'→κ b g=some K→κ0 b' g=some K:=by
  intro b b' g K hb hk;show κ (φ b') g=some K
  rw[(hψ _ _).1 hb];exact hk
 have hMH:∀ c,M0 c→∃ y g B K,H y=some (g,B)∧κ y g=some K∧K.c=some c:=by
  rintro c ⟨b,g,B,K,hb,hk,hc⟩;obtain ⟨B',hB,_⟩:=hh' _ _ _ hb;exact ⟨_,g,B',K,hB,hk,hc⟩
 have hN0:∀ c,Nset O0 κ0 h0 c→Nset gh.O κ H c:=by
  rintro c ((hc|⟨y,g,B,K,hy,hk,hc,_⟩)|⟨b,g,B,K,hb,hk,hc⟩)
  ·exact .inl hc
  ·exact .inr ⟨y,g,B,K,hy,hk,hc⟩
  ·obtain ⟨B',hB,_⟩:=hh' _ _ _ hb;exact .inr ⟨_,g,B',K,hB,hk,hc⟩
 have hN0':∀ c,Nset gh.O κ H c→Nset O0 κ0 h0 c:=by
  rintro c (hc|⟨y,g,B,K,hy,hk,hc⟩)
  ·exact .inl (.inl hc)
  ·by_cases hb:∃ b,ψ y=some b∧h0 b≠none
   ·obtain ⟨b,hb,hn⟩:=hb;obtain ⟨⟨g',B0⟩,hB0⟩:=Option.ne_none_iff_exists'.1 hn;obtain ⟨B',hB',_⟩:=hh' _ _ _ hB0;rw[(hψ _ _).1 hb,hy] at hB';cases hB';exact .inr ⟨b,g,B0,K,hB0,hf0 _ _ _ _ hb hk,hc⟩
   ·refine .inl (.inr ⟨y,g,B,K,hy,hk,hc,fun b hb'=>?_⟩)
    cases hn:h0 b with
    |none=>rfl
    |some v=>exact absurd ⟨b,hb',by rw[hn];simp⟩ hb
 have hsize:gh.w0.heap.size≤w.heap.size:=hr.kept.size
 have hr0:HRel gh0 κ0 h0 w:=by
  refine ⟨fun b g B hb=>?_,fun b b' g g' B B' K K' c h1 h2 h3 h4 h5 h6=>?_,fun b g B K c h1 h2 h3=>.inr ⟨b,g,B,K,h1,h2,h3⟩,Agree.refl _ _,rfl,rfl,rfl,?_,?_⟩
  ·obtain ⟨B',hB',rfl⟩:=hh' _ _ _ hb;obtain ⟨K,hk,hbr⟩:=hr.blk _ _ _ hB';refine ⟨K,hk,JI6 (p:=(g,B')) hf0 ?_⟩;exact hbr.step (KM.le.refl _) (Agree.refl _ _) (fun c _ hc=>hN0 c hc) fun _ _=>rfl
  ·obtain ⟨B1,hB1,_⟩:=hh' _ _ _ h1;obtain ⟨B2,hB2,_⟩:=hh' _ _ _ h2;exact hinj _ _ (hr.inj _ _ _ _ _ _ _ _ c hB1 hB2 h3 h4 h5 h6)
  ·obtain ⟨G,hG⟩:=hr.fresh;exact ⟨G,fun b g hg=>hG _ _ hg⟩
  ·rintro c (hc | ⟨y,g,B,K,hy,hk,hc,hn⟩)
   ·obtain ⟨q1,q2⟩:=hr.apart c hc;refine ⟨Nat.lt_of_lt_of_le q1 hsize,fun hm=>?_⟩;obtain ⟨y,g,B,K,hy,hk,hkc⟩:=hMH c hm
    rcases hr.mine _ _ _ _ _ hy hk hkc with h|h
    ·omega
    ·exact q2 h
   ·refine ⟨hr.lt ⟨y,g,B,K,hy,hk,hc⟩,?_⟩;rintro ⟨b,g',B0,K',hb,hk',hc'⟩;obtain ⟨B',hB',_⟩:=hh' _ _ _ hb;have e:=hr.inj _ _ _ _ _ _ _ _ c hy hB' hk hk' hc hc';have:=hn b ((hψ _ _).2 e.symm);rw[hb] at this;cases this
 have hvs0:VRs κ0 w (Nset O0 κ0 h0) args0 vs:=by
  subst ha;refine ⟨by simpa using hvs.1,fun i h1 h2=>?_⟩;simp only[List.getElem_map];exact (JAc hf0 3 (hvs.2 i (by simpa using h1) h2)).mono fun c hc=>hN0 c hc
 refine (h gh0 κ0 w vs hr0 hvs0).mono ?_;rintro e w' ⟨v,r0,h',κ0',rfl,hQ,hr',hv',htr⟩
 let κ':KM:=fun y g=>match ψ y with
  |some b=>κ0' b g
  |none=>κ y g
 have hf1:∀ b b' g K,(fun b=>some (φ b)) b=some b'→κ0' b g=some K→κ' b' g=some K:=by
  intro b b' g K hb hk;cases hb;show (match ψ (φ b) with|some b=>κ0' b g|none=>κ (φ b) g)=some K
  rw[(hψ _ b).2 rfl];exact hk
 have hag:Agree M0 w w':=hr'.kept
 have hN1:∀ c,Nset gh.O κ' (back φ ψ h' H) c→Nset O0 κ0' h' c:=by
  rintro c (hc|⟨y,g,B,K,hy,hk,hc⟩)
  ·exact .inl (.inl hc)
  ·unfold back at hy;have hk:(match ψ y with | some b=>κ0' b g | none=>κ y g)=some K:=hk
   cases hp:ψ y with
   |some b=>
     simp only[hp] at hy hk;simp only[Option.map_eq_some_iff] at hy;obtain ⟨⟨g',B'⟩,h1,h2⟩:=hy;have e1:g'=g:=congrArg Prod.fst h2;subst e1;exact .inr ⟨b,g',B',K,h1,hk,hc⟩
   |none=>
     simp only[hp] at hy hk;exact .inl (.inr ⟨y,g,B,K,hy,hk,hc,fun b hb=>by rw[hp] at hb;cases hb⟩)
 have hlt:∀ c,Nset gh.O κ H c→c<w.heap.size:=by
  rintro c (hc|hc)
  ·exact Nat.lt_of_lt_of_le (hr.apart c hc).1 hsize
  ·exact hr.lt hc
 have hMN:∀ c,M0 c→Nset gh.O κ H c:=by
  intro c hm;obtain ⟨y,g,B,K,hy,hk,hkc⟩:=hMH c hm;exact .inr ⟨y,g,B,K,hy,hk,hkc⟩
 have hN2:∀ c,c<w.heap.size→Nset O0 κ0' h' c→Nset gh.O κ H c:=by
  rintro c hc (ho|⟨b,g,B,K,hb,hk,hkc⟩)
  ·exact hN0 c (.inl ho)
  ·rcases hr'.mine _ _ _ _ _ hb hk hkc with h | h
   ·exact absurd h (by show ¬ w.heap.size≤c;omega)
   ·exact hMN c h
 have hN3:∀ c,c<w.heap.size→Nset gh.O κ' (back φ ψ h' H) c→Nset gh.O κ H c:=fun c hc h=>hN2 c hc (hN1 c h)
 have hE:∀ (y:AV) (u:Value),VR KM.empty w (Nset gh.O κ H) y u→VR KM.empty w' (Nset gh.O κ' (back φ ψ h' H)) y u:=fun y u hy=>
  hy.step (KM.le.refl _) ⟨hag.size,fun c hc hn=>hag.block c hc fun hm=>hn (hMN c hm)⟩ hN3
 have thru:∀ {x:AV} {u:Value},VR κ0' w' (Nset O0 κ0' h') x u→∀ n,VR κ' w' (Nset gh.O κ' (back φ ψ h' H)) (mv (fun b=>some (φ b)) n x) u:=fun h n=>(JAc hf1 n h).mono hN1
 have htr':∀ {x:AV} {u:Value},VR κ w (Nset gh.O κ H) x u→VR κ' w' (Nset gh.O κ' (back φ ψ h' H)) x u:=by
  intro x u hx;refine hx.move hE (fun y g o l u hy=>?_) (fun y g i k u hy=>?_) (fun y g u hy=>?_) (fun y g u hy=>?_)
  ·cases hp:ψ y with
   |some b=>
     have hby:=(hψ _ _).1 hp
     have:VR κ0 w (Nset O0 κ0 h0) (.own b g o l) u:=by
      have:=(JAc hf0 3 hy).mono hN0
      simpa [mv,hp] using this
     have:=thru (htr this) 3
     simpa [mv,hby] using this
   |none=>
     have e:∀ g,κ' y g=κ y g:=fun g=>by show (match ψ y with|some b=>κ0' b g|none=>κ y g)=κ y g;rw[hp]
     cases hy with
     |ownnil _ _ K h1 h2=>exact .ownnil y g K ((e g).trans h1) h2
     |own _ _ _ _ cap c K h1 h2 h3 h4 hp=>exact .own y g o l cap c K ((e g).trans h1) h2 h3 h4 hp
  ·cases hp:ψ y with
   |some b=>
     have hby:=(hψ _ _).1 hp
     have:VR κ0 w (Nset O0 κ0 h0) (.op b g i k) u:=by
      have:=(JAc hf0 3 hy).mono hN0
      simpa [mv,hp] using this
     have:=thru (htr this) 3
     simpa [mv,hby] using this
   |none=>
     have e:∀ g,κ' y g=κ y g:=fun g=>by show (match ψ y with|some b=>κ0' b g|none=>κ y g)=κ y g;rw[hp]
     cases hy with
     |op _ _ _ _ c K h1 h2 hp=>exact .op y g i k c K ((e g).trans h1) h2 hp
  ·cases hp:ψ y with
   |some b=>
     have hby:=(hψ _ _).1 hp
     have:VR κ0 w (Nset O0 κ0 h0) (.om b g) u:=by
      have:=(JAc hf0 3 hy).mono hN0
      simpa [mv,hp] using this
     have:=thru (htr this) 3
     simpa [mv,hby] using this
   |none=>
     have e:∀ g,κ' y g=κ y g:=fun g=>by show (match ψ y with|some b=>κ0' b g|none=>κ y g)=κ y g;rw[hp]
     cases hy with
     |om _ _ c K h1 h2 h3=>exact .om y g c K ((e g).trans h1) h2 h3
  ·cases hp:ψ y with
   |some b=>
     have hby:=(hψ _ _).1 hp
     have:VR κ0 w (Nset O0 κ0 h0) (.it b g) u:=by
      have:=(JAc hf0 3 hy).mono hN0
      simpa [mv,hp] using this
     have:=thru (htr this) 3
     simpa [mv,hby] using this
   |none=>
     have e:∀ g,κ' y g=κ y g:=fun g=>by show (match ψ y with|some b=>κ0' b g|none=>κ y g)=κ y g;rw[hp]
     cases hy with
     |it _ _ c K h1 h2 h3=>exact .it y g c K ((e g).trans h1) h2 h3
 have hκs:∀ y b g,ψ y=some b→κ' y g=κ0' b g:=fun y b g hp=>by show (match ψ y with|some b=>κ0' b g|none=>κ y g)=_;rw[hp]
 have hκn:∀ y g,ψ y=none→κ' y g=κ y g:=fun y g hp=>by show (match ψ y with|some b=>κ0' b g|none=>κ y g)=_;rw[hp]
 have hback:∀ y g B,back φ ψ h' H y=some (g,B)→(∃ b B0,ψ y=some b∧h' b=some (g,B0)∧B=(mvB (fun b=>some (φ b)) (g,B0)).2)∨(ψ y=none∧H y=some (g,B)):=by
  intro y g B hy;unfold back at hy
  cases hp:ψ y with
  |some b=>
    simp only[hp,Option.map_eq_some_iff] at hy;obtain ⟨⟨g',B0⟩,h1,h2⟩:=hy;have e1:g'=g:=congrArg Prod.fst h2;subst e1;exact .inl ⟨b,B0,rfl,h1,(congrArg Prod.snd h2).symm⟩
  |none=>
    simp only[hp] at hy;exact .inr ⟨rfl,hy⟩
 have hframeO:∀ y g B K c,ψ y=none→H y=some (g,B)→κ y g=some K→K.c=some c→O0 c:=fun y g B K c hp hy hk hc=>.inr ⟨y,g,B,K,hy,hk,hc,fun b hb=>by rw[hp] at hb;cases hb⟩
 have hmix:∀ b g B0 K c,h' b=some (g,B0)→κ0' b g=some K→K.c=some c→¬ O0 c:=by
  intro b g B0 K c hb hk hc ho;obtain ⟨q1,q2⟩:=hr'.apart c ho
  rcases hr'.mine _ _ _ _ _ hb hk hc with h|h
  ·exact absurd q1 (by show ¬ c<w.heap.size;have:w.heap.size≤c:=h;omega)
  ·exact q2 h
 have hrel:HRel gh κ' (back φ ψ h' H) w':=by
  refine ⟨fun y g B hy=>?_,fun y y' g g' B B' K K' c h1 h2 h3 h4 h5 h6=>?_,fun y g B K c h1 h2 h3=>?_,⟨Nat.le_trans hsize hag.size,fun c hc hn=>?_⟩,hr'.os.trans hr.os,hr'.tape.trans hr.tape,hr'.output.trans hr.output,?_,hr.apart⟩
  ·rcases hback _ _ _ hy with ⟨b,B0,hp,hb,rfl⟩ | ⟨hp,hy⟩
   ·obtain ⟨K,hk,hbr⟩:=hr'.blk _ _ _ hb;refine ⟨K,(hκs _ _ _ hp).trans hk,?_⟩;exact (JI6 (p:=(g,B0)) hf1 hbr).step (KM.le.refl _) (Agree.refl _ _) (fun c _ h=>hN1 c h) fun _ _=>rfl
   ·obtain ⟨K,hk,hbr⟩:=hr.blk _ _ _ hy;refine ⟨K,(hκn _ _ hp).trans hk,hbr.move htr' ⟨hag.size,fun c hc hn=>hag.block c hc fun hm=>hn (hMN c hm)⟩ hN3 fun c hc=>?_⟩;exact hag.block c (hr.lt ⟨y,g,B,K,hy,hk,hc⟩) fun hm=>(hr0.apart c (hframeO _ _ _ _ _ hp hy hk hc)).2 hm
  ·rcases hback _ _ _ h1 with ⟨b,B0,hp,hb,_⟩ | ⟨hp,hy⟩<;>rcases hback _ _ _ h2 with ⟨b',B0',hp',hb',_⟩ | ⟨hp',hy'⟩
   ·rw[hκs _ _ _ hp] at h3;rw[hκs _ _ _ hp'] at h4;have:=hr'.inj _ _ _ _ _ _ _ _ c hb hb' h3 h4 h5 h6;rw[← (hψ _ _).1 hp,← (hψ _ _).1 hp',this]
   ·rw[hκs _ _ _ hp] at h3;rw[hκn _ _ hp'] at h4;exact absurd (hframeO _ _ _ _ _ hp' hy' h4 h6) (hmix _ _ _ _ _ hb h3 h5)
   ·rw[hκn _ _ hp] at h3;rw[hκs _ _ _ hp'] at h4;exact absurd (hframeO _ _ _ _ _ hp hy h3 h5) (hmix _ _ _ _ _ hb' h4 h6)
   ·rw[hκn _ _ hp] at h3;rw[hκn _ _ hp'] at h4;exact hr.inj _ _ _ _ _ _ _ _ c hy hy' h3 h4 h5 h6
  ·rcases hback _ _ _ h1 with ⟨b,B0,hp,hb,_⟩ | ⟨hp,hy⟩
   ·rw[hκs _ _ _ hp] at h2
    rcases hr'.mine _ _ _ _ _ hb h2 h3 with h|h
    ·exact .inl (Nat.le_trans hsize h)
    ·obtain ⟨y',g',B',K',hy',hk',hc'⟩:=hMH c h;exact hr.mine _ _ _ _ _ hy' hk' hc'
   ·rw[hκn _ _ hp] at h2;exact hr.mine _ _ _ _ _ hy h2 h3
  ·rw[hag.block c (Nat.lt_of_lt_of_le hc hsize) fun hm=>?_]
   ·exact hr.kept.block c hc hn
   ·obtain ⟨y',g',B',K',hy',hk',hc'⟩:=hMH c hm
    rcases hr.mine _ _ _ _ _ hy' hk' hc' with h|h
    ·omega
    ·exact hn h
  ·obtain ⟨G,hG⟩:=hr.fresh;obtain ⟨G',hG'⟩:=hr'.fresh;refine ⟨max G G',fun y g hg=>?_⟩
   cases hp:ψ y with
   |some b=>rw[hκs _ _ _ hp];exact hG' b g (by omega)
   |none=>rw[hκn _ _ hp];exact hG y g (by omega)
 exact ⟨v,_,_,κ',rfl,hC _ _ hQ,hrel,thru hv' 3,htr'⟩
def look (l:List (Nat×Nat))(b:Nat):Option Nat:=
 match l with
 |[]=>none
 |(x,y)::r=>match Nat.beq b x with
   |true=>some y
   |false=>look r b
end Go.Fw
