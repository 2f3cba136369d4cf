/- Part 40 of the proof. -/
import Derived.Test.YtlblbldolhiokaaGreatDoorDual39
set_option linter.unusedVariables false
set_option linter.unusedSimpArgs false
set_option linter.unusedSectionVars false
set_option maxRecDepth 100000
set_option exponentiation.threshold 400
set_option maxHeartbeats 8000000
namespace Go.Fw
open Go.RowKit
def JDh (T:Nat→Option TD)(H:Hp)(t:Nat)(x:AV):Option (AV×Up):=
 match x with
 | .own b g off len=>(J4a T t).bind fun q=>(H b).bind fun B=>ifB (Nat.beq q.2.size 1&&Nat.beq B.1 g&&Nat.beq B.2.n 1&&Nat.blt 0 len&&Nat.ble (off+len) B.2.xs.length)
  (some (.tup [],some (b,g,spl B.2 off (List.replicate len (mkEl q.2)))))
 |_=>none
theorem JDg {T:Nat→Option TD}{H:Hp}{t:Nat}{x:AV}{q:AV×Up}(h:JDh T H t x=some q){C:AV→Up→Prop}(hC:C q.1 q.2):J3H T H t x C:=by
 unfold JDh at h;split at h
 ·rename_i b g off len;obtain ⟨⟨e,ed⟩,h1,h2⟩:=J02 h;obtain ⟨⟨g',B⟩,h3,h4⟩:=J02 h2;obtain ⟨h5,h6⟩:=J0B h4;clear h h2 h4;have e2:=Option.some.inj h6;subst e2;simp only[Bool.and_eq_true] at h5;obtain ⟨⟨⟨⟨a1,a2⟩,a3⟩,a4⟩,a5⟩:=h5;have a2:g'=g:=Nat.eq_of_beq_eq_true a2;subst a2;unfold J3H;exact (J16 h1).1 _ ⟨Nat.eq_of_beq_eq_true a1,B,h3,Nat.eq_of_beq_eq_true a3,Nat.le_of_ble_eq_true a4,Nat.le_of_ble_eq_true a5,hC⟩
 ·cases h
def xM (X:XE)(base γ:Nat)(ρ:Operand→AV)(H:Hp)(o:Oper):Option (AV×Up):=
 match o.op with
 |.makeMap t none=>o.dst.bind fun d=>some (.om (base+d) γ,some (base+d,γ,⟨t,0,[.mp [] []]⟩))
 |.mapUpdate t m k x=>(J2m X H t (ρ m) (ρ k) (ρ x)).bind fun up=>some (.tup [],up)
 |.insert t m k x=>(J2m X H t (ρ m) (ρ k) (ρ x)).bind fun up=>some (.tup [],up)
 |.range t x=>o.dst.bind fun d=>JHs X.E.T t (base+d) γ (ρ x)
 |.next it isS=>JIP H (ρ it) isS
 |.call c=>match c.callee with
   |.builtin .clear=>match c.args.toList,c.argTypes.toList with
     |[x],[t]=>JDh X.E.T H t (ρ x)
     |_,_=>none
   |_=>none
 |_=>none
section
variable {X:XE} {gh:Gh} {κ:KM} {H:Hp} {w:World} {γ:Nat}
theorem JGG (hX:XOk X){base:Nat}(hγ:∀ b,κ b γ=none)(hr:HRel gh κ H w){a:Act}{ρ:Operand→AV}(hv:∀ x,VR κ w (Nset gh.O κ H) (ρ x) (a.eval x)){o:Oper}{v:AV}{up:Up}(h:xM X base γ ρ H o=some (v,up))
  {K:Act→World→Prop}{Q:Exit→Act→World→Prop}(hK:∀ v' w',StepG gh κ H w γ (fun x u=>x=v∧u=up) v' w'→K (a.put o.dst v') w'):o.wp X.E.P a w K Q:=by
 have val:∀ {s:Sem Value} {v':Value} {w':World},execOp a.eval o=(do pure (.value (← s)):Sem Next)→s.run X.E.P w=.ok v' w'→StepG gh κ H w γ (fun x u=>x=v∧u=up) v' w'→o.wp X.E.P a w K Q:=by
  intro s v w' he hs hst;unfold Oper.wp;rw[he];simp only[Sem.run_bind,hs,Result.andThen_ok,Sem.run_pure,Oper.upon_value];exact hK _ _ hst
 have old:∀ {up':Up},(∀ b g B,up'=some (b,g,B)→∃ B0,H b=some (g,B0))→∀ d g' B,up'=some (d,g',B)→g'=γ∨∃ b,κ b g'≠none:=fun hup d g' B e=>.inr (by
  obtain ⟨B0,hB0⟩:=hup _ _ _ e;obtain ⟨K',hK',_⟩:=hr.blk _ _ _ hB0
  exact ⟨d,by rw[hK'];simp⟩)
 unfold xM at h;split at h
 ·rename_i t ho;obtain ⟨d,hd,h⟩:=J02 h;cases h;obtain ⟨x,up,⟨rfl,rfl⟩,hup,hdo⟩:=J4T (P:=X.E.P) (d:=base+d) hr (hγ _) (C:=fun x u=>x=.om (base+d) γ∧u=some (base+d,γ,⟨t,0,[.mp [] []]⟩)) ⟨rfl,rfl,rfl⟩;obtain ⟨r,w',h1,κ',h2,h3,h4,h5⟩:=StepG.does (γ:=γ) hdo (fun _ _ _ e=>.inl (hup _ _ _ e).2);exact val (s:=Instr.makeMap t none) (by simp only[execOp,ho,Option.map_none]) h1 ⟨_,_,κ',⟨rfl,rfl⟩,h2,h3,h4,h5⟩
 ·rename_i t m k x ho;obtain ⟨up',hu,h⟩:=J02 h;cases h;obtain ⟨up,rfl,hup,hdo⟩:=J1K hX.hT hr (hv m) (hv k) (hv x) (C:=fun u=>u=_) (J3N hX hu rfl);obtain ⟨r,w',h1,κ',h2,h3,h4,h5⟩:=StepG.does (γ:=γ) hdo (old hup);unfold Oper.wp;simp only[execOp,ho,Sem.run_bind,h1,Result.andThen_ok,Sem.run_pure,Oper.upon_skip];exact hK _ _ ⟨_,_,κ',⟨rfl,rfl⟩,h2,.tup [] #[] rfl (fun i h=>absurd h (by simp)),h4,h5⟩
 ·rename_i t m k x ho;obtain ⟨up',hu,h⟩:=J02 h;cases h;obtain ⟨up,rfl,hup,hdo⟩:=J1K hX.hT hr (hv m) (hv k) (hv x) (C:=fun u=>u=_) (J3N hX hu rfl);obtain ⟨r,w',h1,κ',h2,h3,h4,h5⟩:=StepG.does (γ:=γ) hdo (old hup);unfold Oper.wp;simp only[execOp,ho,Sem.run_bind,h1,Result.andThen_ok,Sem.run_pure,Oper.upon_skip];exact hK _ _ ⟨_,_,κ',⟨rfl,rfl⟩,h2,.tup [] #[] rfl (fun i h=>absurd h (by simp)),h4,h5⟩
 ·rename_i t x ho;obtain ⟨d,hd,h⟩:=J02 h;obtain ⟨y,up',⟨rfl,rfl⟩,hup,hdo⟩:=J6y hX.hT hr (hγ (base+d)) (hv x) (C:=fun x u=>x=v∧u=up) (JDW h ⟨rfl,rfl⟩);obtain ⟨r,w',h1,κ',h2,h3,h4,h5⟩:=StepG.does (γ:=γ) hdo (fun _ _ _ e=>.inl (hup _ _ _ e).2);exact val (s:=Instr.range t (a.eval x)) (by simp only[execOp,ho]) h1 ⟨_,_,κ',⟨rfl,rfl⟩,h2,h3,h4,h5⟩
 ·rename_i it isS ho;obtain ⟨y,up',⟨rfl,rfl⟩,hup,hdo⟩:=J9C (P:=X.E.P) (ty:=o.type) hr (hv it) (C:=fun x u=>x=v∧u=up) (JGE h ⟨rfl,rfl⟩);obtain ⟨r,w',h1,κ',h2,h3,h4,h5⟩:=StepG.does (γ:=γ) hdo (old hup);exact val (s:=Instr.next (a.eval it) isS o.type) (by simp only[execOp,ho]) h1 ⟨_,_,κ',⟨rfl,rfl⟩,h2,h3,h4,h5⟩
 ·rename_i c ho;split at h
  ·rename_i hc;split at h
   ·rename_i x t hx ht;obtain ⟨z,up',⟨rfl,rfl⟩,hup,hdo⟩:=J6z (ty:=o.type) hX.hT hr (hv x) (C:=fun x u=>x=v∧u=up) (JDg h ⟨rfl,rfl⟩);obtain ⟨r,w',h1,κ',h2,h3,h4,h5⟩:=StepG.does (γ:=γ) hdo (old hup);have hx':c.args=#[x]:=by apply Array.ext';simpa using hx
    have ht':c.argTypes=#[t]:=by apply Array.ext';simpa using ht
    unfold Oper.wp;simp only[execOp,ho,resolve,hc,hx',ht',List.map_toArray,List.map_cons,List.map_nil,Sem.run_bind,Sem.run_pure,Result.andThen_ok,invoke,builtin,h1,Oper.upon_value];exact hK _ _ ⟨_,_,κ',⟨rfl,rfl⟩,h2,h3,h4,h5⟩
   ·cases h
  ·cases h
 ·cases h
def xOne (X:XE)(base γ:Nat)(ρ:Operand→AV)(H:Hp)(o:Oper):Option (AV×Up):=
 match xG X base γ ρ H o with
 |some r=>some r
 |none=>xM X base γ ρ H o
theorem JCM (hX:XOk X){base:Nat}(hγ:∀ b,κ b γ=none)(hr:HRel gh κ H w){a:Act}{ρ:Operand→AV}(hv:∀ x,VR κ w (Nset gh.O κ H) (ρ x) (a.eval x)){o:Oper}{v:AV}{up:Up}(h:xOne X base γ ρ H o=some (v,up))
  {K:Act→World→Prop}{Q:Exit→Act→World→Prop}(hK:∀ v' w',StepG gh κ H w γ (fun x u=>x=v∧u=up) v' w'→K (a.put o.dst v') w'):o.wp X.E.P a w K Q:=by
 unfold xOne at h;split at h
 ·rename_i r hg;cases h;exact J5k (E:={ X.E with base:=base }) hX.hT hγ hr hv (JJx hX hg (C:=fun x u=>x=v∧u=up) ⟨rfl,rfl⟩) hK
 ·exact JGG hX hγ hr hv h hK
end
def lf (σ:List AV):Fr:=fun x=>σ.getD x (.tup [])
def putL (σ:List AV)(d:Option Nat)(v:AV):List AV:=
 match d with
 |some d=>σ.set d v
 |none=>σ
theorem JBk {σ:List AV}{d:Option Nat}{v:AV}(h:∀ x,d=some x→x<σ.length):lf (putL σ d v)=put (lf σ) d v:=by
 cases d with
 |none=>rfl
 |some d=>
   have:=h d rfl
   funext x
   simp only[lf,putL,put,upd,List.getD_eq_getElem?_getD,List.getElem?_set]
   by_cases e:x=d
   ·subst e;simp[this]
   ·simp[e,show ¬ d=x from fun h=>e h.symm]
theorem J2u (σ:List AV)(d:Option Nat)(v:AV):(putL σ d v).length=σ.length:=by cases d<;>simp[putL]
abbrev Mem:=List (Nat×Nat×Blk)
def setL (d:Nat)(v:Nat×Blk):Mem→Mem
 |[]=>[(d,v)]
 |(y,u)::r=>match Nat.beq y d with
   |true=>(d,v)::r
   |false=>(y,u)::setL d v r
theorem JEo (d:Nat)(v:Nat×Blk):∀ m:Mem,hp (setL d v m)=setH (hp m) d (some v)
 |[]=>by funext x;simp[setL,hp,setH]
 |(y,u)::r=>by
   have ih:=JEo d v r
   funext x
   unfold setL;split
   ·rename_i h;have:=Nat.eq_of_beq_eq_true h;subst this
    by_cases e:x=y<;>simp[hp,setH,e]
   ·rename_i h;have hne:y≠d:=J9f h;simp only[hp,setH,ih]
    by_cases e:x=y
    ·subst e;simp[hne]
    ·simp[e]
def upM (m:Mem)(base:Nat):Up→Mem
 |none=>m
 |some (d,v)=>match Nat.ble base d with
   |true=>(d,v)::m
   |false=>setL d v m
theorem JBr (m:Mem)(base:Nat)(up:Up):hp (upM m base up)=app (hp m) up:=by
 unfold upM;split
 ·rfl
 ·split
  ·funext x;simp[hp,app,setH]
  ·exact JEo _ _ _
def Fsh (κ:KM)(k:Nat):Prop:=∀ b g,k≤g→κ b g=none
abbrev CallX:=Nat→List AV→Mem→Nat→Option (AV×Mem×Nat)
abbrev St3:=List AV×Mem×Nat
def JDt (ρ:Operand→AV)(o:Oper):Option (Nat×List AV):=
 match o.op with
 |.call c=>match c.callee with
   |.value f=>match ρ f with
     |.fn (.func n) first cap=>some (n,first++c.args.toList.map ρ++cap)
     |_=>none
   |_=>none
 |_=>none
def delM (b:Nat):Mem→Mem
 |[]=>[]
 |(y,u)::r=>match Nat.beq y b with
   |true=>delM b r
   |false=>(y,u)::delM b r
theorem J7q (b:Nat):∀ m:Mem,hp (delM b m)=rem (hp m) [b]
 |[]=>by funext x;simp[delM,hp,rem]
 |(y,u)::r=>by
   have ih:=J7q b r
   funext x
   unfold delM;split
   ·rename_i h;have:=Nat.eq_of_beq_eq_true h;subst this;rw[ih];unfold rem;simp only[List.mem_singleton];split
    ·rfl
    ·rename_i hx;simp only[hp,if_neg hx]
   ·rename_i h;have hne:y≠b:=J9f h;have ihx:=congrFun ih x;simp only[hp,rem,List.mem_singleton] at ihx ⊢
    by_cases e:x=y
    ·subst e;simp[hne]
    ·simp only[if_neg e];exact ihx
def xFrz (X:XE)(ρ:Operand→AV)(m:Mem)(k:Nat)(o:Oper):Option (AV×Mem×Nat):=
 match o.op with
 |.slice t x none none none=>match ρ x with
   |.op b g 0 0=>match J05 [b] (hp m) 3 (.op b g 0 0) with
     |.ep (.agg cs) 0=>ifB (X.arrs t cs.length) (some (.sl 1 cs,delM b m,k))
     |_=>none
   |_=>none
 |_=>none
def JGD (X:XE)(call:CallX)(ρ:Operand→AV)(m:Mem)(k:Nat)(o:Oper):Option (AV×Mem×Nat):=
 match JDt ρ o with
 |some (n,args)=>match X.ext n args with
   |some v=>some (.val v,m,k)
   |none=>call n args m k
 |none=>match xOne X (k*65536) k ρ (hp m) o with
   |some q=>some (q.1,upM m (k*65536) q.2,k+1)
   |none=>xFrz X ρ m k o
def xOps (X:XE)(call:CallX)(ops:Array Oper):List Oper→List AV→Mem→Nat→Option St3
 |[],σ,m,k=>some (σ,m,k)
 |o::r,σ,m,k=>match gOk ops (lf σ) o with
   |some true=>(JGD X call (opdG (lf σ)) m k o).bind fun q=>xOps X call ops r (putL σ o.dst q.1) q.2.1 q.2.2
   |some false=>xOps X call ops r (putL σ o.dst (.tup [])) m k
   |none=>none
def J1C (X:XE)(call:CallX):Prop:=
 ∀ (n:Nat) (args:List AV) (m:Mem) (k:Nat) (r:AV) (m':Mem) (k':Nat),call n args m k=some (r,m',k')→J03 X.E.P n∧∀ (gh:Gh) (κ:KM) (w:World) (vs:Array Value),HRel gh κ (hp m) w→VRs κ w (Nset gh.O κ (hp m)) args vs→Fsh κ k →
   Calls X.E.P n vs w fun e w'=>∃ v κ',e=.returned v∧HRel gh κ' (hp m') w'∧VR κ' w' (Nset gh.O κ' (hp m')) r v∧(∀ {x:AV} {u:Value},VR κ w (Nset gh.O κ (hp m)) x u→VR κ' w' (Nset gh.O κ' (hp m')) x u)∧Fsh κ' k'
section
variable {X:XE} {gh:Gh} {κ:KM} {w:World} {call:CallX}
def JMH (gh:Gh)(κ:KM)(m:Mem)(w:World)(r:AV)(m':Mem)(k':Nat)(v:Value)(w':World):Prop:=
 ∃ κ',HRel gh κ' (hp m') w'∧VR κ' w' (Nset gh.O κ' (hp m')) r v∧(∀ {x:AV} {u:Value},VR κ w (Nset gh.O κ (hp m)) x u→VR κ' w' (Nset gh.O κ' (hp m')) x u)∧Fsh κ' k'
theorem J9y (hX:XOk X)(hcall:J1C X call){m m':Mem}{k k':Nat}(hF:Fsh κ k)(hr:HRel gh κ (hp m) w){a:Act}{ρ:Operand→AV}(hv:∀ x,VR κ w (Nset gh.O κ (hp m)) (ρ x) (a.eval x)){o:Oper}{r:AV}
  (h:JGD X call ρ m k o=some (r,m',k')){K:Act→World→Prop}{Q:Exit→Act→World→Prop}(hK:∀ v w',JMH gh κ m w r m' k' v w'→K (a.put o.dst v) w'):o.wp X.E.P a w K Q:=by
 unfold JGD at h;split at h
 ·rename_i n args hu;unfold JDt at hu;split at hu
  ·rename_i c ho;split at hu
   ·rename_i f hc;split at hu
    ·rename_i n' first cap hf;simp only[Option.some.injEq,Prod.mk.injEq] at hu;obtain ⟨e1,rfl⟩:=hu;subst e1;have hfv:=hv f;rw[hf] at hfv;generalize hfe:a.eval f=fv at hfv
     cases hfv with
     |fn _ _ _ vf vc h1 h2 h3 h4=>
       have hargs:VRs κ w (Nset gh.O κ (hp m)) (first++c.args.toList.map ρ++cap) (vf++c.args.map a.eval++vc):=by
        refine ⟨by simp[h1,h2],fun i hi hi'=>?_⟩;have hl:(first++c.args.toList.map ρ).length=(vf++c.args.map a.eval).size:=by simp[h1]
        rw[List.getElem_append,Array.getElem_append]
        by_cases q1:i<(first++c.args.toList.map ρ).length
        ·rw[dif_pos q1,dif_pos (by omega),List.getElem_append,Array.getElem_append]
         by_cases q2:i<first.length
         ·rw[dif_pos q2,dif_pos (by omega)];exact h3 i q2 (by omega)
         ·rw[dif_neg q2,dif_neg (by omega)];simp only[List.getElem_map,Array.getElem_map,Array.getElem_toList,h1];exact hv _
        ·rw[dif_neg q1,dif_neg (by omega)]
         have hi2:i-(first++c.args.toList.map ρ).length<cap.length:=by
          have:=hi;rw[List.length_append] at this;omega
         have:=h4 (i-(first++c.args.toList.map ρ).length) hi2 (by omega)
         simpa only [hl] using this
       split at h
       ·rename_i v hx;cases h;obtain ⟨hpl,hx⟩:=hX.ext _ _ _ hx;unfold Oper.wp;simp only[execOp,ho,resolve,hc,hfe,Deferred.ofValue,Sem.run_bind,Sem.run_pure,Result.andThen_ok,invoke,hx _ _ _ _ hargs,Oper.upon_value];exact hK _ _ ⟨κ,hr,.val _ hpl,fun h=>h,hF⟩
       ·obtain ⟨⟨fn,hfn,hname,hbody⟩,hc2⟩:=hcall _ _ _ _ _ _ _ h;unfold Oper.wp;have hnb:fn.body.isNone=false:=by cases hb:fn.body<;>simp_all
        simp only[execOp,ho,resolve,hc,hfe,Deferred.ofValue,Sem.run_bind,Sem.run_pure,Result.andThen_ok,invoke,callFunc,run_program,hfn,hname,hnb,Bool.false_eq_true,if_false,Oper.upon_enter];refine (hc2 gh κ w _ hr hargs hF).mono fun e w' he=>?_;obtain ⟨v,κ',rfl,q2,q3,q4,q5⟩:=he;exact hK _ _ ⟨κ',q2,q3,q4,q5⟩
    ·cases hu
   ·cases hu
  ·cases hu
 ·split at h
  case h_2=>
   unfold xFrz at h;split at h
   ·rename_i t x ho;split at h
    ·rename_i b g hx;split at h
     ·rename_i cs hs;obtain ⟨hc,h⟩:=J0B h;cases h;have h0:=J0J hr [b] 3 (hv x);rw[hx,hs,← J7q] at h0;obtain ⟨y,u,rfl,hrun,hy⟩:=J6c (mx:=none) (vmx:=none) (C:=fun y=>y=.sl 1 cs) hX.hT h0 .no .no .no ⟨hX.arrs _ _ hc,rfl⟩ (t:=t) (lo:=none) (hi:=none)
      have hsub:Sub (hp (delM b m)) (hp m):=fun z=>by
       rw[J7q];unfold rem;split
       ·exact .inr rfl
       ·exact .inl rfl
      obtain ⟨q1,q2⟩:=hr.sub hsub;unfold Oper.wp;rw[show execOp a.eval o=(do pure (.value (← Instr.sliceAt t (a.eval x) none none none)):Sem Next) from by simp only[execOp,ho];rfl];simp only[Sem.run_bind,hrun,Result.andThen_ok,Sem.run_pure,Oper.upon_value];exact hK _ _ ⟨κ,q1,hy.lift,q2,hF⟩
     ·cases h
    ·cases h
   ·cases h
  rename_i q h1;obtain ⟨v,up⟩:=q;cases h;refine JCM hX (fun b=>hF b k (Nat.le_refl _)) hr hv h1 fun v' w' hs=>hK _ _ ?_;obtain ⟨x,u,κ',⟨rfl,rfl⟩,q2,q3,q4,q5⟩:=hs;refine ⟨κ',by rw[JBr];exact q2,by rw[JBr];exact q3,fun h=>by rw[JBr];exact q4 h,fun b g hg=>?_⟩;exact q5 g (by omega) (fun b=>hF b g (by omega)) b
end
end Go.Fw
