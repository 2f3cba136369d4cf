/- Part 14 of the proof. -/
import Derived.Test.YtlblbldolhiokaaGreatDoorDual13
set_option linter.unusedVariables false
set_option linter.unusedSimpArgs false
set_option linter.unusedSectionVars false
set_option maxRecDepth 100000
set_option exponentiation.threshold 400
set_option maxHeartbeats 8000000
namespace Go.Fw
open Go.RowKit
def VRs (κ:KM)(w:World)(N:Nat→Prop)(xs:List AV)(vs:Array Value):Prop:=xs.length=vs.size∧∀ i (h:i<xs.length) (h':i<vs.size),VR κ w N xs[i] vs[i]
def PureCall (P:Program)(f:Nat)(args:List AV)(r:AV):Prop:=
 ∀ (O:Nat→Prop) (w:World) (vs:Array Value),(∀ c,O c→c<w.heap.size)→VRs KM.empty w O args vs →
   Calls P f vs w fun e w'=>∃ v,e=.returned v∧VR KM.empty w' O r v∧Below w.heap.size w w'
def HCall (P:Program)(f:Nat)(args:List AV)(H:Hp)(Q:AV→Hp→Prop):Prop:=
 ∀ (gh:Gh) (κ:KM) (w:World) (vs:Array Value),HRel gh κ H w→VRs κ w (Nset gh.O κ H) args vs →
   Calls P f vs w fun e w'=>∃ v r H' κ',e=.returned v∧Q r H'∧HRel gh κ' H' w'∧VR κ' w' (Nset gh.O κ' H') r v∧∀ {x:AV} {u:Value},VR κ w (Nset gh.O κ H) x u→VR κ' w' (Nset gh.O κ' H') x u
def J0N (s:AV→AV):AV→AV
 |.agg cs=>.agg (cs.map s)
 |x=>s x
def J05 (S:List Nat)(H:Hp):Nat→AV→AV
 |n + 1,.own b g off len=>if b∈S then match H b with
     |some (g',B)=>if g'=g∧off+len≤B.xs.length then .sl B.n (((B.xs.drop off).take len).map (J0N (J05 S H n))) else .dead
     |none=>.dead
   else .dead
 |n + 1,.op b g i k=>if b∈S then match H b with
     |some (g',B)=>if g'=g∧i<B.xs.length then .ep (J0N (J05 S H n) (B.xs.getD i .dead)) k else .dead
     |none=>.dead
   else .dead
 |_,.val v=>.val v
 |_,.sl n xs=>.sl n xs
 |_,.ep x k=>.ep x k
 |_,.mp ks vs=>.mp ks vs
 |n+1,.fn f a c=>.fn f (a.map (J05 S H n)) (c.map (J05 S H n))
 |n + 1,.om b g=>if b∈S then match H b with
     |some (g',⟨_,_,[.mp ks vs]⟩)=>if g'=g then .mp ks vs else .dead
     |_=>.dead
   else .dead
 |_,_=>.dead
def snap (S:List Nat)(H:Hp)(x:AV):AV:=J0N (J05 S H 3) x
def rem (H:Hp)(S:List Nat):Hp:=fun b=>if b∈S then none else H b
@[simp] theorem rem_nil (H:Hp):rem H []=H:=by funext b;simp[rem]
theorem J4O (s:AV→AV)(hs:∀ x,(∀ cs,x≠.agg cs)→(s x).cells=[s x])(x:AV):(J0N s x).cells=x.cells.map s:=by
 cases x<;>first|rfl|exact hs _ (by intro cs h;cases h)
theorem J8W (S:List Nat)(H:Hp)(n:Nat)(x:AV):(J05 S H n x).cells=[J05 S H n x]:=by
 cases n<;>cases x<;>simp only[J05]<;>(repeat' split)<;>rfl
section
variable {P:Program} {T:Nat→Option TD} {gh:Gh} {κ:KM} {H:Hp} {w:World}
theorem J0M {O:Nat→Prop}(S:List Nat){c:Nat}(h:Nset O κ (rem H S) c):Nset O κ H c:=by
 rcases h with h|⟨b,g,B,K,hb,hk,hc⟩
 ·exact .inl h
 ·right;unfold rem at hb;split at hb
  ·cases hb
  ·exact ⟨b,g,B,K,hb,hk,hc⟩
theorem HRel.rem (hr:HRel gh κ H w)(S:List Nat):HRel gh κ (rem H S) w:=by
 have hsub:∀ b g B,Fw.rem H S b=some (g,B)→H b=some (g,B):=by
  intro b g B h;unfold Fw.rem at h;split at h
  ·cases h
  ·exact h
 refine ⟨fun b g B hb=>?_,fun b b' g g' B B' K K' c h1 h2=>hr.inj b b' g g' B B' K K' c (hsub _ _ _ h1) (hsub _ _ _ h2),fun b g B K c h1=>hr.mine b g B K c (hsub _ _ _ h1),hr.kept,hr.os,hr.tape,hr.output,hr.fresh,hr.apart⟩;obtain ⟨K,hk,hb'⟩:=hr.blk _ _ _ (hsub _ _ _ hb);exact ⟨K,hk,hb'.step (KM.le.refl _) (Agree.refl _ _) (fun c _ h=>J0M S h) fun c _=>rfl⟩
theorem J0J (hr:HRel gh κ H w)(S:List Nat):∀ (n:Nat) {x:AV} {v:Value},VR κ w (Nset gh.O κ H) x v→VR KM.empty w (Nset gh.O κ (rem H S)) (J05 S H n x) v:=by
 intro n
 induction n with
 |zero=>
   intro x v h
   cases h with
   |val _ hp=>exact .val _ hp
   |slnil n=>exact .slnil n
   |slemp n a=>exact .slemp n a
   |sl n xs c o cap f h1 h2 h3 h4 h5 h6 h7=>exact (VR.sl n xs c o cap f h1 h2 h3 h4 h5 h6 h7).mono fun c h=>J0M S h
   |ep x k c o f h1 h2 h3 h4 h5=>exact (VR.ep x k c o f h1 h2 h3 h4 h5).mono fun c h=>J0M S h
   |mp ks vs c A ck h1 h2 h3 h4 h5 h6 h7=>exact (VR.mp ks vs c A ck h1 h2 h3 h4 h5 h6 h7).mono fun c h=>J0M S h
   |_=>exact .dead _
 |succ n ih =>
   have hel:∀ {y:AV},(J0N (J05 S H n) y).cells=y.cells.map (J05 S H n):=fun {y}=>J4O _ (fun x _=>J8W S H n x) y
   have hnot:∀ {b g:Nat} {B:Blk} {K:KI} {c:Nat},b∈S→H b=some (g,B)→κ b g=some K→K.c=some c→¬ Nset gh.O κ (rem H S) c:=by
    intro b g B K c hS hb hk hc hn
    rcases hn with hn|⟨b',g',B',K',hb',hk',hc'⟩
    ·obtain ⟨q1,q2⟩:=hr.apart c hn
     rcases hr.mine _ _ _ _ _ hb hk hc with h|h
     ·omega
     ·exact q2 h
    ·unfold rem at hb';split at hb'
     ·cases hb'
     ·rename_i hns;have:=hr.inj _ _ _ _ _ _ _ _ c hb' hb hk' hk hc' hc;exact hns (this ▸ hS)
   intro x v h
   cases h with
   |val _ hp=>exact .val _ hp
   |slnil n=>exact .slnil n
   |slemp n a=>exact .slemp n a
   |sl n xs c o cap f h1 h2 h3 h4 h5 h6 h7=>exact (VR.sl n xs c o cap f h1 h2 h3 h4 h5 h6 h7).mono fun c h=>J0M S h
   |ep x k c o f h1 h2 h3 h4 h5=>exact (VR.ep x k c o f h1 h2 h3 h4 h5).mono fun c h=>J0M S h
   |mp ks vs c A ck h1 h2 h3 h4 h5 h6 h7=>exact (VR.mp ks vs c A ck h1 h2 h3 h4 h5 h6 h7).mono fun c h=>J0M S h
   |fn f a c vf vc h1 h2 h3 h4=>
     exact .fn f _ _ vf vc (by simp[h1]) (by simp[h2]) (fun i h h'=>by simp only[List.getElem_map];exact ih (h3 i (by simpa using h) h')) (fun i h h'=>by simp only[List.getElem_map];exact ih (h4 i (by simpa using h) h'))
   |om b g c K hk hc hn=>
     simp only[J05];split
     ·rename_i hS;split
      ·rename_i g' e0 n0 ks vs hb;split
       ·rename_i hg;subst hg;obtain ⟨K',hk',hbr⟩:=hr.blk _ _ _ hb;rw[hk] at hk';cases hk';obtain ⟨_,c',hc',A,ck,h1,h2⟩:=hbr.obj hn;rw[hc] at hc';cases hc';have h2:=h2.step (Agree.refl (Nset gh.O κ H) w) (fun c _ h=>J0M S h);exact .mp ks vs c A ck (hnot hS hb hk hc) h1 h2.kl h2.vl h2.key h2.val h2.born
       ·exact .dead _
      ·exact .dead _
     ·exact .dead _
   |ownnil b g K hk hc=>
     simp only[J05];split
     ·split
      ·rename_i g' B hb;split
       ·rename_i h;obtain ⟨rfl,_⟩:=h;have:(B.xs.drop 0).take 0=[]:=by simp
        rw[this];exact .slnil _
       ·exact .dead _
      ·exact .dead _
     ·exact .dead _
   |own b g off len cap c K hk hc h1 h2 hp=>
     simp only[J05];split
     ·rename_i hS;split
      ·rename_i g' B hb;split
       ·rename_i h;obtain ⟨rfl,hle⟩:=h;obtain ⟨K',hk',hbr⟩:=hr.blk _ _ _ hb;rw[hk] at hk';cases hk';obtain ⟨hn,hcl,h3⟩:=hbr.rows hp
        rcases h3 with ⟨h3,_⟩|⟨c',A,f,hc',hbk,hm,hs,hf,hpl,hv,_⟩
        ·rw[h3] at hc;cases hc
        rw[hc'] at hc;cases hc;have hl:(((B.xs.drop off).take len).map (J0N (J05 S H n))).length=len:=by simp;omega
        have hge:∀ i,(hi:i<(((B.xs.drop off).take len).map (J0N (J05 S H n))).length)→(((B.xs.drop off).take len).map (J0N (J05 S H n)))[i]=J0N (J05 S H n) (B.xs[off+i]'(by omega)):=fun i hi=>by simp
        have:=VR.sl (κ:=KM.empty) (w:=w) (N:=Nset gh.O κ (rem H S)) B.n (((B.xs.drop off).take len).map (J0N (J05 S H n))) c (off*K.n) cap (fun i j=>f (off+i) j) (by omega) (hnot hS hb hk hc')
         ⟨A,B.e,(0,0),hbk,by rw[← hm,← h2.1,Nat.add_mul,hn];exact Nat.le_refl _⟩
         (fun i hi=>by rw[hge i hi,hel,List.length_map];exact hcl _ _)
         (fun i hi j hj=>by
           have h4:=hf (off+i) (by omega) j hj;rw[cell_of_row w c _ A B.e (0,0) hbk,hn];rw[show off*B.n+i*B.n+j=(off+i)*B.n+j by rw[Nat.add_mul]]
           exact h4)
         (fun i hi j hj=>by
           have e:=hge i hi
           have hj':j<(B.xs[off+i]'(by omega)).cells.length:=by
            rw[e,hel,List.length_map] at hj;exact hj
           have h4:=ih (hv (off+i) (by omega) j hj');simp only[e,hel,List.getElem_map]
           exact h4)
         (fun i j hi hj=>hpl _ _ (by omega) hj)
        rw[hl] at this;exact this
       ·exact .dead _
      ·exact .dead _
     ·exact .dead _
   |op b g i k c K hk hc hp=>
     simp only[J05];split
     ·rename_i hS;split
      ·rename_i g' B hb;split
       ·rename_i h;obtain ⟨rfl,hi⟩:=h;obtain ⟨K',hk',hbr⟩:=hr.blk _ _ _ hb;rw[hk] at hk';cases hk';obtain ⟨f,h3,h4,h5⟩:=(hbr.rows hp).elem hc i hi;have hlt:=hr.lt ⟨b,g',B,K,hb,hk,hc⟩
        exact VR.ep _ k c (i*K.n) f (hnot hS hb hk hc) hlt (fun j hj=>h3 j (by rw[hel,List.length_map] at hj;exact hj))
         (fun j hj=>by
           have hj':j<(B.xs.getD i .dead).cells.length:=by rw[hel,List.length_map] at hj;exact hj
           have:=ih (h4 j hj');simp only[hel,List.getElem_map]
           exact this) (fun j hj=>h5 j (by rw[hel,List.length_map] at hj;exact hj))
       ·exact .dead _
      ·exact .dead _
     ·exact .dead _
   |_=>exact .dead _
theorem J1E (hr:HRel gh κ H w)(S:List Nat){x:AV}{v:Value}(h:VR κ w (Nset gh.O κ H) x v):VR KM.empty w (Nset gh.O κ (rem H S)) (snap S H x) v:=by
 unfold snap
 cases h with
 |agg cs vs h1 h2 h3=>exact .agg _ _ (by simp[h1]) (fun i h h'=>by
  simp only[List.getElem_map]
  exact J0J hr S 3 (h2 i (by simpa using h) h')) h3
 |dead v=>exact .dead _
 |tup=>exact .dead _
 |fn f a c vf vc h1 h2 h3 h4=>exact J0J hr S 3 (.fn f a c vf vc h1 h2 h3 h4)
 |val v hp=>exact J0J hr S 3 (.val v hp)
 |slnil n=>exact J0J hr S 3 (.slnil n)
 |slemp n a=>exact J0J hr S 3 (.slemp n a)
 |fu n xs a h=>exact J0J hr S 3 (.fu n xs a h)
 |sl n xs c o cap f h1 h2 h3 h4 h5 h6 h7=>exact J0J hr S 3 (.sl n xs c o cap f h1 h2 h3 h4 h5 h6 h7)
 |ep x k c o f h1 h2 h3 h4 h5=>exact J0J hr S 3 (.ep x k c o f h1 h2 h3 h4 h5)
 |mp ks vs c A ck h1 h2 h3 h4 h5 h6 h7=>exact J0J hr S 3 (.mp ks vs c A ck h1 h2 h3 h4 h5 h6 h7)
 |om b g c K h1 h2 h3=>exact J0J hr S 3 (.om b g c K h1 h2 h3)
 |it b g c K h1 h2 h3=>exact J0J hr S 3 (.it b g c K h1 h2 h3)
 |ownnil b g K h1 h2=>exact J0J hr S 3 (.ownnil b g K h1 h2)
 |own b g off len cap c K h1 h2 h3 h4 hp=>exact J0J hr S 3 (.own b g off len cap c K h1 h2 h3 h4 hp)
 |op b g i k c K h1 h2 hp=>exact J0J hr S 3 (.op b g i k c K h1 h2 hp)
def J92:AV→Bool
 |.val _=>true
 |_=>false
def flat:AV→Bool
 |.val _=>true
 |.agg cs=>cs.all J92
 |.tup cs=>cs.all J92
 |_=>false
theorem VR.flat {κ':KM}{w':World}{N N':Nat→Prop}{x:AV}{v:Value}(h:VR κ w N x v)(hf:flat x=true):VR κ' w' N' x v:=by
 have hc:∀ {y:AV} {u:Value},VR κ w N y u→J92 y=true→VR κ' w' N' y u:=by
  intro y u h hf
  cases h with
  |val _ hp=>exact .val _ hp
  |_=>cases hf
 cases h with
 |val _ hp=>exact .val _ hp
 |agg cs vs h1 h2 h3=>exact .agg cs vs h1 (fun i h h'=>hc (h2 i h h') (List.all_eq_true.1 hf _ (List.getElem_mem h))) h3
 |tup cs vs h1 h2=>exact .tup cs vs h1 (fun i h h'=>hc (h2 i h h') (List.all_eq_true.1 hf _ (List.getElem_mem h)))
 |_=>cases hf
def JBw (P:Program)(f:Nat)(args:List AV)(H:Hp)(C:AV→Hp→Prop):Prop:=
 (∃ S r,PureCall P f (args.map (snap S H)) r∧((flat r=true∧C r H)∨C r (rem H S)))∨HCall P f args H C
theorem J14 (hr:HRel gh κ H w){w':World}(hb:Below w.heap.size w w'):HRel gh κ H w'∧∀ {x:AV} {u:Value},VR κ w (Nset gh.O κ H) x u→VR κ w' (Nset gh.O κ H) x u:=by
 have hag:∀ N,Agree N w w':=fun N=>⟨hb.size,fun c hc _=>hb.block c hc⟩;refine ⟨⟨fun b g B h=>?_,hr.inj,hr.mine,hr.keep (hag _),hb.os.trans hr.os,hb.tape.trans hr.tape,hb.output.trans hr.output,hr.fresh,hr.apart⟩,fun h=>h.step (KM.le.refl _) (hag _) fun _ _ h=>h⟩;obtain ⟨K,hk,hbr⟩:=hr.blk _ _ _ h;exact ⟨K,hk,hbr.step (KM.le.refl _) (hag _) (fun _ _ h=>h) fun c hc=>hb.block c (hr.lt ⟨b,g,B,K,h,hk,hc⟩)⟩
theorem JJZ (hr:HRel gh κ H w){f:Nat}{args:List AV}{vs:Array Value}(hv:VRs κ w (Nset gh.O κ H) args vs){C:AV→Hp→Prop}(h:JBw P f args H C) :
  Calls P f vs w fun e w'=>∃ v r H' κ',e=.returned v∧C r H'∧HRel gh κ' H' w'∧VR κ' w' (Nset gh.O κ' H') r v∧∀ {x:AV} {u:Value},VR κ w (Nset gh.O κ H) x u→VR κ' w' (Nset gh.O κ' H') x u:=by
 rcases h with ⟨S,r,hp,h⟩|h
 ·refine (hp (Nset gh.O κ (rem H S)) w vs ?_ ⟨by simpa using hv.1,fun i h h'=>?_⟩).mono ?_
  ·intro c hc
   rcases J0M S hc with h|h
   ·exact Nat.lt_of_lt_of_le (hr.apart c h).1 hr.kept.size
   ·exact hr.lt h
  ·simp only[List.getElem_map];exact J1E hr S (hv.2 i (by simpa using h) h')
  ·rintro e w' ⟨v,rfl,hr',hb⟩
   rcases h with ⟨hf,hC⟩|hC
   ·obtain ⟨h1,h2⟩:=J14 hr hb;exact ⟨v,r,H,κ,rfl,hC,h1,hr'.flat hf,h2⟩
   ·obtain ⟨h1,h2⟩:=J14 (hr.rem S) hb;exact ⟨v,r,rem H S,κ,rfl,hC,h1,hr'.lift,fun h=>h2 (h.mono fun c h=>J0M S h)⟩
 ·exact h gh κ w vs hr hv
end
end Go.Fw
