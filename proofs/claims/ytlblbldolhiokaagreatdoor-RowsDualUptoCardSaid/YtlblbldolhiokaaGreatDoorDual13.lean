/- Part 13 of the proof. -/
import Derived.Test.YtlblbldolhiokaaGreatDoorDual12
set_option linter.unusedVariables false
set_option linter.unusedSimpArgs false
set_option linter.unusedSectionVars false
set_option maxRecDepth 100000
set_option exponentiation.threshold 400
set_option maxHeartbeats 8000000
namespace Go.Fw
open Go.RowKit
section
variable {P:Program} {T:Nat→Option TD} {gh:Gh} {κ:KM} {H:Hp} {w:World}
def JBv (T:Nat→Option TD)(H:Hp)(t b g off len:Nat)(lo hi mx:Option AV)(C:AV→Prop):Prop:=
 mx=none∧elemOfT T t fun ed=>∃ B,H b=some (g,B)∧B.n=ed.size∧bnds len lo hi fun l h=>l<len∧C (.own b g (off+l) (h-l))
theorem JCe (hT:TOk P T)(hr:HRel gh κ H w){t b g off len:Nat}{lo hi mx:Option AV}{v:Value}{vlo vhi vmx:Option Value}(hv:VR κ w (Nset gh.O κ H) (.own b g off len) v)(hlo:OptR κ w (Nset gh.O κ H) lo vlo)(hhi:OptR κ w (Nset gh.O κ H) hi vhi)
  (hmx:OptR κ w (Nset gh.O κ H) mx vmx){C:AV→Prop}(h:JBv T H t b g off len lo hi mx C):∃ x u,C x∧(Instr.sliceAt t v vlo vhi vmx).run P w=.ok u w∧VR κ w (Nset gh.O κ H) x u:=by
 obtain ⟨rfl,h⟩:=h
 cases hmx with
 |no=>
 obtain ⟨e,ed,hrr,hu,ht,B,hB,hn,h⟩:=J2s hT h w;obtain ⟨K,hk,hbr⟩:=hr.blk _ _ _ hB
 cases hv with
 |ownnil _ _ K' hk' hc=>
   obtain ⟨l,h,hl,hh,⟨hlt,_⟩,hb⟩:=J1F (P:=P) (isS:=true) hlo hhi (Nat.le_refl _) h w;omega
 |own _ _ _ _ cap c K' hk' hc h1 h2 hp=>
   rw[hk] at hk';cases hk';have hbr:=hbr.rows hp;obtain ⟨l,h,hl,hh,⟨hlt,hC⟩,hb⟩:=J1F (P:=P) (isS:=true) hlo hhi h1 h w;have hKn:K.n=ed.size:=hbr.1.trans hn;have hm:¬ cap=l:=by omega
   refine ⟨_,.slice (some ⟨c,(off+l)*K.n,none⟩) (h-l) (cap-l),hC,?_,?_⟩
   ·simp[Instr.sliceAt,Instr.slice,Sem.run_bind,run_underlying hu,hb,ht.run_size w,hm,J0Y,hKn,Nat.add_mul]
   ·refine .own b g (off+l) (h-l) (cap-l) c K hk hc (by omega) ⟨?_,by omega⟩ hp;rw[show off+l+(cap-l)=off+cap by omega];exact h2.1
structure ArrP (P:Program) (t n:Nat):Prop where
 o:∃ e,P.underlying t=some (.array n e)∧(P.info? e).map (·.size)=some 1
def evSliceF (P:Program)(T:Nat→Option TD)(t:Nat)(x:AV)(lo hi mx:Option AV)(C:AV→Prop):Prop:=
 match x,lo,hi,mx with
 |.sl n xs,none,some (.val (.int _ i)),some (.val (.int _ j))=>elemOfT T t fun ed=>n=ed.size∧i=j∧0≤i∧i≤xs.length∧C (.fu n (xs.take i.toNat))
 |.ep (.agg cs) 0,none,none,none=>ArrP P t cs.length∧C (.sl 1 cs)
 |_,_,_,_=>False
theorem J6c (hT:TOk P T){N:Nat→Prop}{t:Nat}{x:AV}{lo hi mx:Option AV}{v:Value}{vlo vhi vmx:Option Value}(hv:VR κ w N x v)(hlo:OptR κ w N lo vlo)(hhi:OptR κ w N hi vhi)
  (hmx:OptR κ w N mx vmx){C:AV→Prop}(h:evSliceF P T t x lo hi mx C):∃ x u,C x∧(Instr.sliceAt t v vlo vhi vmx).run P w=.ok u w∧VR κ w N x u:=by
 unfold evSliceF at h;split at h
 ·rename_i n xs k i k' j;obtain ⟨e,ed,hrr,hu,ht,hn,rfl,h0,h1,hC⟩:=J2s hT h w;cases hlo
  cases hhi with
  |yes hh=>
  cases hmx with
  |yes hm=>
  rw[hh.intOf,hm.intOf];obtain ⟨i,rfl⟩:=Int.eq_ofNat_of_zero_le h0;simp only[Int.toNat_natCast] at hC;have hlen:(xs.take i).length=i:=by simp;omega
  have key:∀ (a:Option Addr) (len cap:Nat),i≤cap→(Instr.sliceAt t (.slice a len cap) none (some (.int k (i:Int))) (some (.int k' (i:Int)))).run P w=.ok (.slice a i i) w:=by
   intro a len cap hc;have e1:(0:Int)≤i∧(i:Int)≤cap:=⟨by omega,by omega⟩;have e2:(0:Int)≤i∧(i:Int)≤i:=⟨by omega,by omega⟩;have e4:¬ cap<i:=by omega
   have e3:a.map (fun x:Addr=>x.add 0)=a:=by cases a<;>simp[Addr.add]
   simp[Instr.sliceAt,Instr.slice,Instr.sliceBounds,Instr.sliceBound,asIntOf,Sem.run_bind,run_underlying hu,ht.run_size w,e1,e2,e3,e4]
  cases hv with
  |slnil=>
    have hi:i=0:=by simp at h1;omega
    subst hi;refine ⟨_,_,hC,key none 0 0 (Nat.le_refl _),?_⟩;have:=VR.fu (κ:=κ) (w:=w) (N:=N) n [] none (.slnil n)
    simpa using this
  |slemp _ a=>
    have hi:i=0:=by simp at h1;omega
    subst hi;refine ⟨_,_,hC,key (some a) 0 0 (Nat.le_refl _),?_⟩;have:=VR.fu (κ:=κ) (w:=w) (N:=N) n [] (some a) (.slemp n a)
    simpa using this
  |sl _ _ c o cap f h2 h3 h4 h5 h6 h7 h8=>
    refine ⟨_,_,hC,key _ _ cap (by omega),?_⟩;have:=VR.fu (κ:=κ) (w:=w) (N:=N) n (xs.take i) (some ⟨c,o,none⟩);rw[hlen] at this;refine this ?_;obtain ⟨A,et,z,hbk,hsz⟩:=h4;have hge:∀ j,(hj:j<(xs.take i).length)→(xs.take i)[j]=xs[j]'(by omega):=fun j hj=>by simp
    have key:=VR.sl (κ:=κ) (w:=w) (N:=N) n (xs.take i) c o i f (by omega) h3 ⟨A,et,z,hbk,by
     have:i*n≤cap*n:=Nat.mul_le_mul_right _ (by omega)
     omega⟩ (fun j hj=>by rw[hge j hj];exact h5 _ _) (fun j hj l hl=>h6 j (by omega) l hl) (fun j hj l hl=>by
      have e:=hge j hj;have hl':l<(xs[j]'(by omega)).cells.length:=by rw[← e];exact hl
      have:=h7 j (by omega) l hl'
      simpa only [e] using this) (fun j l hj hl=>h8 _ _ (by omega) hl)
    rw[hlen] at key;exact key
 ·rename_i cs;obtain ⟨⟨e,hu,hsz⟩,hC⟩:=h;cases hlo;cases hhi;cases hmx
  cases hv with
  |ep _ _ c o f h1 h2 h3 h4 h5=>
    obtain ⟨i,hi,hsz⟩:=Option.map_eq_some_iff.1 hsz;refine ⟨_,.slice (some ⟨c,o,none⟩) cs.length cs.length,hC,?_,?_⟩
    ·simp[Instr.sliceAt,Instr.sliceBounds,Instr.sureAddr,Sem.run_bind,run_underlying hu,sizeOf,typeInfo,hi,hsz,Addr.add]
    ·by_cases he:cs=[]
     ·subst he;exact .slemp 1 _
     ·have hp:0<cs.length:=List.length_pos_iff.2 he;simp only[AV.cells_agg] at h3 h4 h5
      have hb:∃ A e z,w.heap[c]?=some (.cells A e z)∧o+cs.length*1≤A.size:=by
       have:=h3 (cs.length-1) (by omega);unfold World.cell? at this;split at this
       ·rename_i A e z hA;simp only[Option.isSome_none,Bool.false_eq_true,if_false] at this;have:=(Array.getElem?_eq_some_iff.1 this).1;exact ⟨A,e,z,hA,by omega⟩
       ·cases this
      have one:∀ i (h:i<cs.length),cs[i].cells=[cs[i]]:=by
       intro i hi;have q:=h4 i hi;have q2:=h5 i hi
       revert q q2
       generalize f i=u
       cases cs[i]<;>first|(intros;rfl)|skip
       intro q q2;cases q;cases q2
      refine VR.sl 1 cs c o cs.length (fun i _=>f i) (Nat.le_refl _) h1 hb (fun i hi=>by rw[one i hi];rfl) (fun i hi j hj=>?_) (fun i hi j hj=>?_) (fun i j hi hj=>h5 i hi)
      ·obtain rfl:j=0:=by omega
       simpa using h3 i hi
      ·have hj0:j=0:=by rw[one i hi] at hj;simpa using hj
       subst hj0;have:=h4 i hi;simp only[one i hi,List.getElem_cons_zero];exact this
 ·exact h.elim
def evSliceA (P:Program)(T:Nat→Option TD)(H:Hp)(t:Nat)(x:AV)(lo hi mx:Option AV)(C:AV→Prop):Prop:=
 match x with
 |.own b g off len=>JBv T H t b g off len lo hi mx C
 |x=>evSlice T t x lo hi mx C∨evSliceF P T t x lo hi mx C
theorem J6d (hT:TOk P T)(hr:HRel gh κ H w){t:Nat}{x:AV}{lo hi mx:Option AV}{v:Value}{vlo vhi vmx:Option Value}(hv:VR κ w (Nset gh.O κ H) x v)(hlo:OptR κ w (Nset gh.O κ H) lo vlo)(hhi:OptR κ w (Nset gh.O κ H) hi vhi)
  (hmx:OptR κ w (Nset gh.O κ H) mx vmx){C:AV→Prop}(h:evSliceA P T H t x lo hi mx C):∃ x u,C x∧(Instr.sliceAt t v vlo vhi vmx).run P w=.ok u w∧VR κ w (Nset gh.O κ H) x u:=by
 unfold evSliceA at h;split at h
 ·exact JCe hT hr hv hlo hhi hmx h
 ·rcases h with h | h
  ·exact JEI hT hv hlo hhi hmx h
  ·exact J6c hT hv hlo hhi hmx h
theorem J5p (hr:HRel gh κ H w){b g:Nat}{B:Blk}{K:KI}{c:Nat}(hB:H b=some (g,B))(hκ:κ b g=some K)(hc:K.c=some c)(h1:B.n=1){off:Nat}{ys:List AV}{cs:List Value}(hle:off+ys.length≤B.xs.length)
  (hrow:Row κ w (Nset gh.O κ H) 1 ys cs){A:Array Value}(hA:w.heap[c]?=some (.cells A B.e (0,0))){α:Type}{s:Sem α}{r:α}(hs:s.run P w=.ok r (w.setRow c (A.toList.take off++cs++A.toList.drop (off+cs.length)).toArray))
  {vr:KM→World→(Nat→Prop)→α→Prop}(hvr:∀ κ w N,vr κ w N r) :
  Does P gh κ H w s (some (b,g,{ B with xs:=B.xs.take off++ys++B.xs.drop (off+ys.length) })) vr:=by
 obtain ⟨K',hκ',hbr⟩:=hr.blk _ _ _ hB;rw[hκ] at hκ';cases hκ';have hbr:=hbr.rowsN (by omega);have hcl:cs.length=ys.length:=by rw[hrow.len];omega
 obtain ⟨A1,hA1,hm,hr1⟩:=hbr.row hc 0 off (by omega);obtain ⟨A2,hA2,_,hr2⟩:=hbr.row hc (off+ys.length) (B.xs.length-(off+ys.length)) (by omega);obtain ⟨A3,hA3,_,hr3⟩:=hbr.row hc 0 B.xs.length (by omega);rw[hA] at hA1 hA2 hA3;cases hA1;cases hA2;cases hA3;have hn:K.n=1:=hbr.1.trans h1;rw[h1] at hr1 hr2 hr3
 have hAl:B.xs.length≤A.size:=by
  have:=hr3.len;simp at this;omega
 simp only[Nat.zero_mul,List.drop_zero,Nat.mul_one] at hr1 hr2;have hall:=(hr1.append hrow).append hr2;have e1:(B.xs.drop (off+ys.length)).take (B.xs.length-(off+ys.length))=B.xs.drop (off+ys.length):=List.take_of_length_le (by simp);rw[e1] at hall;generalize hA':(A.toList.take off++cs++A.toList.drop (off+cs.length)).toArray=A' at hs;have hA'l:A'.toList=A.toList.take off++cs++A.toList.drop (off+cs.length):=by rw[← hA']
 have hsz:A'.size=A.size:=by rw[← Array.length_toList,hA'l];simp;omega
 have hκs:κ.set b g K=κ:=by
  funext b' g'
  unfold KM.set;split
  ·rename_i e;obtain ⟨rfl,rfl⟩:=e;exact hκ.symm
  ·rfl
 have hag:Agree (Own κ H) w (w.setRow c A'):=⟨by simp,fun c' hc'' hn'=>setRow_other w c c' A' (fun e=>hn' ⟨b,g,B,K,hB,hκ,by rw[e];exact hc⟩)⟩
 have hKe:K=⟨some c,1,A'.size⟩:=by
  obtain ⟨k1,k2,k3⟩:=K;simp only at hc hn hm;rw[hsz,hc,hn,hm]
 have hrep:=hr.replace (d:=b) (γ:=g) (K:=K) (B:={ B with xs:=B.xs.take off++ys++B.xs.drop (off+ys.length) }) (w':=w.setRow c A') (by rw[hκs];exact hr.fresh) hag
  (fun b' g' B' K' c' hne q1 q2 q3=>setRow_other w c c' A' (fun e=>hne (hr.inj _ _ _ _ _ _ _ _ c q1 hB q2 hκ (by rw[← e];exact q3) hc))) ⟨rfl,rfl,rfl⟩ (.inr hκ)
  (fun c' hc''=>.inr ⟨g,B,K,hB,hκ,hc''⟩) (fun htr=>by
    have:=hall.block (e:=B.e) (cap:=A'.size) (setRow_heap w c A A' B.e (0,0) hA) (by omega) (by simp;omega) (by
     rw[hA'l];have e2:(List.drop 0 B.xs |>.take off).length=off:=by simp;omega
     have e3:(B.xs.take off++ys++B.xs.drop (off+ys.length)).length=B.xs.length:=by simp;omega
     rw[e3,Nat.mul_one,List.take_append,List.take_of_length_le (show (A.toList.take off++cs).length≤B.xs.length by simp;omega)];have e4:B.xs.length-(A.toList.take off++cs).length=B.xs.length-(off+ys.length):=by simp;omega
     rw[e4,hcl]) htr (by omega) (fun he=>hsz.trans ((hbr.solo hc hA he).trans h1))
    obtain ⟨xe,xn,xl⟩:=B;simp only at h1;subst h1;rw[← hKe] at this
    exact this)
 rw[hκs] at hrep;exact ⟨r,_,κ,hs,hrep.1,hrep.2,hvr _ _ _,fun _ _ _=>rfl⟩
def spl (B:Blk)(off:Nat)(ys:List AV):Blk:={ B with xs:=B.xs.take off++ys++B.xs.drop (off+ys.length) }
def evCopy (T:Nat→Option TD)(H:Hp)(t:Nat)(x y:AV)(C:AV→Up→Prop):Prop:=
 match x with
 |.own b g off len=>elemT T t fun e ed=>ed.size=1∧∃ B,H b=some (g,B)∧B.n=1∧off+len≤B.xs.length∧srcOf H 1 y fun ys=>
  (0<min ys.length len→C (.val (.int .i64 (min ys.length len:Nat))) (some (b,g,spl B off (ys.take len))))∧(¬ 0<min ys.length len→C (.val (.int .i64 0)) none)
 |_=>False
theorem Row.take1 {N:Nat→Prop}{ys:List AV}{cs:List Value}(h:Row κ w N 1 ys cs)(n:Nat):Row κ w N 1 (ys.take n) (cs.take n):=by
 refine ⟨?_,fun i hi=>?_,fun u hu=>h.pl u (List.mem_of_mem_take hu),fun i hi j hj=>?_⟩
 ·have:=h.len;simp;omega
 ·simp only[List.getElem_take];exact h.el _ _
 ·simp only[List.length_take] at hi;have e:(ys.take n)[i]'(by simpa using hi)=ys[i]'(by omega):=by simp
  have hj':j<(ys[i]'(by omega)).cells.length:=by rw[← e];exact hj
  have hj0:j=0:=by have:=h.el i (by omega);omega
  subst hj0;have:=h.rel i (by omega) 0 hj'
  have e2:(cs.take n).getD (i*1+0) undef=cs.getD (i*1+0) undef:=by
   simp only[List.getD_eq_getElem?_getD,List.getElem?_take];rw[if_pos (by omega)]
  rw[e2]
  simpa only [e] using this
theorem J9E (hT:TOk P T)(hr:HRel gh κ H w){t t' ty:Nat}{x y:AV}{v vy:Value}(hv:VR κ w (Nset gh.O κ H) x v)(hvy:VR κ w (Nset gh.O κ H) y vy){C:AV→Up→Prop}
  (h:evCopy T H t x y C):∃ x up,C x up∧(∀ b g B,up=some (b,g,B)→∃ B0,H b=some (g,B0))∧Does P gh κ H w (Builtin.copy_ #[t,t'] ty #[v,vy]) up fun κ' w' N' r=>VR κ' w' N' x r:=by
 unfold evCopy at h;split at h
 ·rename_i b g off len;obtain ⟨e,ed,hu,ht,hs1,B,hB,hn,hle,h⟩:=J2T hT h;obtain ⟨ys,⟨hC,hC0⟩,hsrc⟩:=JEH hr hvy h;obtain ⟨K,hk,hbr⟩:=hr.blk _ _ _ hB
  have hinfo:(P.info? e).map (·.size)=some 1:=by
   obtain ⟨it,z,hit,hs,_⟩:=ht.info;rw[hit];simp[hs,hs1]
  by_cases hmin:0<min ys.length len
  case neg=>
   refine ⟨_,_,hC0 hmin,fun b g B0 h=>(by cases h),goInt 0,w,κ,?_,hr,fun h=>h,.val _ rfl,fun _ _ _=>rfl⟩
   have hv':∃ d dc,v=.slice d len dc:=by
    cases hv with
    |ownnil _ _ K' hk' hc=>exact ⟨none,0,rfl⟩
    |own _ _ _ _ cap c K' hk' hc h1 h2 hp=>exact ⟨_,_,rfl⟩
   obtain ⟨d,dc,rfl⟩:=hv'
   rcases hsrc with ⟨rfl,rfl⟩|⟨a,m,cy,news,rfl,rfl,hrn,hcell⟩
   ·exact run_copy_none w t t' ty e d none len dc 0 0 hu hinfo (by simp)
   ·exact run_copy_none w t t' ty e d (some a) len dc ys.length cy hu hinfo (by show min ys.length len=0;omega)
  cases hv with
  |ownnil _ _ K' hk' hc=>omega
  |own _ _ _ _ cap c K' hk' hc h1 h2 hp=>
    rw[hk] at hk';cases hk';have hbr:=hbr.rows hp;obtain ⟨A,hA,hm,_⟩:=hbr.row hc 0 0 (by omega);have hKn:K.n=1:=hbr.1.trans hn;obtain ⟨A3,hA3,_,hr3⟩:=hbr.row hc 0 B.xs.length (by omega);rw[hA] at hA3;cases hA3
    have hAl:B.xs.length≤A.size:=by
     have:=hr3.len;simp[hn] at this;omega
    refine ⟨_,_,hC hmin,fun b g B0 h=>by cases h;exact ⟨B,hB⟩,?_⟩
    rcases hsrc with ⟨rfl,rfl⟩|⟨a,m,cy,news,rfl,rfl,hrn,hcell⟩
    ·simp at hmin
    ·have hrt:=hrn.take1 len;have hl:(news.take len).length=min ys.length len:=by have:=hrn.len;simp;omega
     have hlt:(ys.take len).length=min ys.length len:=by simp;omega
     refine J5p (r:=goInt (news.take len).length) hr hB hk hc hn (by rw[hlt];omega) hrt hA ?_ (fun κ w N=>?_)
     ·rw[hKn,Nat.mul_one];refine run_copy_row P w t t' ty e c off len cap a ys.length cy A B.e (news.take len) hu hinfo hA hl (fun j v hv=>?_) (by rw[hl];omega) (fun v hv=>hrt.pl v hv);rw[List.getElem?_take] at hv;split at hv
      ·exact hcell j v hv
      ·cases hv
     ·rw[hl];exact .val _ rfl
 ·exact h.elim
def J3H (T:Nat→Option TD)(H:Hp)(t:Nat)(x:AV)(C:AV→Up→Prop):Prop:=
 match x with
 |.own b g off len=>elemT T t fun e ed=>ed.size=1∧∃ B,H b=some (g,B)∧B.n=1∧0<len∧off+len≤B.xs.length∧C (.tup []) (some (b,g,spl B off (List.replicate len (mkEl ed))))
 |_=>False
theorem J7J (z:Array Value)(h:z.size=1)(n:Nat):(Builtin.zeroCells z n).toList=List.replicate n z[0]! :=by
 unfold Builtin.zeroCells;apply List.ext_getElem
 ·simp[h]
 ·intro i h1 h2;simp[h,Nat.mod_one]
theorem J6z (hT:TOk P T)(hr:HRel gh κ H w){t ty:Nat}{x:AV}{v:Value}(hv:VR κ w (Nset gh.O κ H) x v){C:AV→Up→Prop}
  (h:J3H T H t x C):∃ x up,C x up∧(∀ b g B,up=some (b,g,B)→∃ B0,H b=some (g,B0))∧Does P gh κ H w (Builtin.clear_ #[t] ty #[v]) up fun κ' w' N' r=>VR κ' w' N' x r:=by
 unfold J3H at h;split at h
 ·rename_i b g off len;obtain ⟨e,ed,hu,ht,hs1,B,hB,hn,hpos,hle,hC⟩:=J2T hT h;obtain ⟨K,hk,hbr⟩:=hr.blk _ _ _ hB
  cases hv with
  |ownnil _ _ K' hk' hc=>omega
  |own _ _ _ _ cap c K' hk' hc h1 h2 hp=>
    rw[hk] at hk';cases hk';have hbr:=hbr.rows hp;obtain ⟨A,hA,hm,_⟩:=hbr.row hc 0 0 (by omega);have hKn:K.n=1:=hbr.1.trans hn;obtain ⟨A3,hA3,_,hr3⟩:=hbr.row hc 0 B.xs.length (by omega);rw[hA] at hA3;cases hA3
    have hAl:B.xs.length≤A.size:=by
     have:=hr3.len;simp[hn] at this;omega
    obtain ⟨z,hz,hrunz⟩:=ht.run_zero (w:=w);have hzs:z.cells.size=1:=by rw[← Array.length_toList,hz,ht.len,hs1]
    have hcr:=CR.zero (κ:=κ) (w:=w) (N:=Nset gh.O κ H) ht hz;have hel:=J12 ht;have hel1:(mkEl ed).cells.length=1:=by rw[hel];simp[ht.len,hs1]
    have hz0:z.cells[0]! = z.cells[0]'(by omega):=by simp[hzs]
    have hrow:Row κ w (Nset gh.O κ H) 1 (List.replicate len (mkEl ed)) (List.replicate len z.cells[0]!):=by
     refine ⟨by simp,fun i hi=>by simp[hel1],fun u hu=>?_,fun i hi j hj=>?_⟩
     ·have:=List.eq_of_mem_replicate hu;subst this;rw[hz0];exact hcr.pl 0 (by omega)
     ·simp only[List.length_replicate] at hi;have e1:(List.replicate len (mkEl ed))[i]'(by simpa using hi)=mkEl ed:=by simp
      have hj':j<(mkEl ed).cells.length:=by rw[← e1];exact hj
      have hj0:j=0:=by omega
      subst hj0
      have e2:(List.replicate len z.cells[0]!).getD (i*1+0) undef=z.cells[0]'(by omega):=by
       rw[List.getD_eq_getElem?_getD,List.getElem?_replicate,if_pos (by omega),hz0];rfl
      rw[e2];have:=hcr.rel 0 (by rw[← hel];exact hj') (by omega)
      simpa only [e1,hel] using this
    refine ⟨_,_,hC,fun b g B0 h=>by cases h;exact ⟨B,hB⟩,?_⟩;have hl:(List.replicate len (mkEl ed)).length=len:=by simp
    refine J5p (r:=.tuple #[]) hr hB hk hc hn (by rw[hl];omega) hrow hA ?_ (fun κ w N=>.tup [] #[] rfl (fun i h=>absurd h (by simp)));rw[hKn,Nat.mul_one];have hst:=run_storeCells_at P c off B.e (List.replicate len z.cells[0]!) 0 A w hA (by simp;omega) (fun u hu=>hrow.pl u hu);have hlen0:len≠0:=by omega
    obtain ⟨len',rfl⟩:∃ m,len=m+1:=⟨len-1,by omega⟩;simp[Builtin.clear_,run_underlying hu,Sem.run_bind,hrunz,J7J _ hzs,hst]
 ·exact h.elim
end
end Go.Fw
