/- Part 51 of the proof. -/
import Derived.Test.YtlblbldolhiokaaGreatDoorRule50
import Derived.Test.YtlblbldolhiokaaGreatDoorRule46
import Derived.KernelRfl
import Derived.Test.YtlblbldolhiokaaGreatDoorRule49
import Derived.Test.YtlblbldolhiokaaGreatDoorRule48
import Derived.Test.YtlblbldolhiokaaGreatDoorRows
import Derived.Test.YtlblbldolhiokaaGreatDoorCards
import Derived.Test.YtlblbldolhiokaaGreatDoorTie
import Derived.ProofKit
import Derived.OpenShut
import Derived.Deep.DeepHandedRow
set_option linter.unusedVariables false
set_option linter.unusedSimpArgs false
set_option linter.unusedSectionVars false
set_option maxRecDepth 100000
set_option exponentiation.threshold 400
set_option maxHeartbeats 8000000
namespace Go.Proofs.YtlblbldolhiokaaGreatDoor
open Go Go.Fw Go.RowKit
def bldB (p buf:AV):Blk:=⟨solo,2,[.agg [p,buf]]⟩
def J2T:AV:=.val (.pointer none)
theorem J7o {H:Hp} {b g:Nat} {p buf:AV} (hb:H b=some (g,bldB p buf)) (hp:p=J2T∨p=.op b g 0 0) (hbc:buf.cells=[buf]) :
  HCall Tryz.prog 331 [.op b g 0 0] H fun r H'=>r=.tup []∧H'=setH H b (some (g,bldB (.op b g 0 0) buf)):=by
 intro gh κ w vs hr hv;obtain ⟨hlen,hv⟩:=hv;obtain ⟨vl⟩:=vs
 rcases vl with _ | ⟨a,_ | ⟨a2,r⟩⟩<;>simp at hlen
 have h0:=hv 0 (by simp) (by simp);simp only[List.getElem_cons_zero,List.getElem_toArray] at h0
 cases h0 with
 | op _ _ _ _ c K hκ hc hn=>
 obtain ⟨K',hκ',hbr⟩:=hr.blk _ _ _ hb;have hbr:BlkRel κ w (Nset gh.O κ H) K (bldB p buf):=by rw[hκ] at hκ';cases hκ';exact hbr
 obtain ⟨hn2,hcl,h3⟩:=hbr.rows hn
 rcases h3 with ⟨h3,_⟩ | ⟨c',A,f,hc',hbk,hm,hs,hf,hpl,hvv,hso⟩
 ·rw[h3] at hc;cases hc
 rw[hc'] at hc;cases hc;have hsz:A.size=2:=hso rfl;simp only[Nat.zero_mul,Nat.add_zero];have e0:A[0]?=some (f 0 0):=by have:=hf 0 (by simp[bldB]) 0 (by simp[bldB]);simpa [bldB] using this
 have hv0:VR κ w (Nset gh.O κ H) p (f 0 0):=hvv 0 (by simp[bldB]) 0 (by simp[bldB]);have hcell:w.cell? ⟨c,0,none⟩=some (f 0 0):=by simp[World.cell?,hbk,e0]
 have hself:VR κ w (Nset gh.O κ H) (.op b g 0 0) (.pointer (some ⟨c,0,none⟩)):=by
  have:=VR.op (w:=w) (N:=Nset gh.O κ H) b g 0 0 c K hκ hc' hn
  simpa using this
 rcases hp with rfl | rfl
 ·have hf0:f 0 0=.pointer none:=by generalize f 0 0=v at hv0;cases hv0;rfl
  rw[hf0] at hcell;obtain ⟨up,hup,hex,w',u,κ',hrun,hR,hvr,_,_⟩:=J2P (P:=Tryz.prog) J44 hr (t:=312) hself hself (C:=fun up=>up=some (b,g,bldB (.op b g 0 0) buf)) ⟨_,rfl,rfl,rfl,_,hb,by simp[bldB],by simp[bldB],by simp[AV.cells],by simp[bldB,J4G,over,AV.cells]⟩;subst hup;have hK:=Any.Builder_copyCheck_fresh { J0o with } J0N.toX72 c w hcell (by simp[World.shape?,hbk,hsz];rfl) (by simp[World.frozen?,hbk]);refine hK.mono ?_;rintro e w' ⟨rfl,rfl⟩
  have hst:=run_storeCells_at Tryz.prog c 0 solo [.pointer (some ⟨c,0,none⟩)] 0 A w hbk (by simp[hsz]) (fun v hv=>by
   simp only[List.mem_singleton] at hv;subst hv;rfl)
  have ht:=J0O (J44 312 _ rfl)
  have hrun':(Instr.storeAt 312 (.pointer (some ⟨c,0,none⟩)) (.pointer (some ⟨c,0,none⟩))).run Tryz.prog w=.ok () (w.setCell ⟨c,0,none⟩ (.pointer (some ⟨c,0,none⟩))):=by
   have hA:(A.toList.take 0++[Value.pointer (some ⟨c,0,none⟩)]++A.toList.drop 1).toArray=A.setIfInBounds 0 (.pointer (some ⟨c,0,none⟩)):=by
    obtain ⟨L⟩:=A
    rcases L with _ | ⟨x,r⟩
    ·simp at hsz
    ·simp
   rw[setCell_eq_setRow w c 0 A solo (0,0) _ hbk,← hA];simp only[Nat.add_zero] at hst
   simpa [Instr.storeAt,Instr.sureAddr,Sem.run_bind,storeVar,ht.run_size w,Value.cells] using hst
  rw[hrun'] at hrun;cases hrun;exact ⟨_,.tup [],_,κ',rfl,⟨rfl,rfl⟩,hR,.tup [] #[] rfl (fun i h=>by simp at h),hvr⟩
 ·have hf0:f 0 0=.pointer (some ⟨c,0,none⟩):=by
   generalize f 0 0=v at hv0
   cases hv0 with
   | op _ _ _ _ c2 K2 hκ2 hc2 hn2=>
     rw[hκ] at hκ2;cases hκ2;rw[hc'] at hc2;cases hc2;simp
  rw[hf0] at hcell;refine (Any.Builder_copyCheck_used { J0o with } J0N.toX72 c w hcell).mono ?_;rintro e w' ⟨rfl,rfl⟩
  have hH:setH H b (some (g,bldB (.op b g 0 0) buf))=H:=by
   funext x;unfold setH;split
   ·rename_i h;rw[h,hb]
   ·rfl
  exact ⟨_,.tup [],H,κ,rfl,⟨rfl,hH.symm⟩,hr,.tup [] #[] rfl (fun i h=>by simp at h),fun h=>h⟩
theorem J84 {κ:KM} {w:World} {N:Nat→Prop} {b g i k c o:Nat} (h:VR κ w N (.op b g i k) (.pointer (some ⟨c,o,none⟩))):∃ K,κ b g=some K∧K.c=some c∧0<K.n:=by
 generalize hv:Value.pointer (some ⟨c,o,none⟩)=v at h
 cases h with
 | op _ _ _ _ c2 K2 h1 h2 h3=>cases hv;exact ⟨_,h1,h2,h3⟩
theorem J90 {gh:Gh} {κ:KM} {H:Hp} {w:World} {b g c:Nat} {p buf:AV} (hr:HRel gh κ H w) (hb:H b=some (g,bldB p buf)) (hs:VR κ w (Nset gh.O κ H) (.op b g 0 0) (.pointer (some ⟨c,0,none⟩))) (hp:p.cells=[p]) (hbc:buf.cells=[buf]) :
  ∃ v0 v1,w.heap[c]?=some (.cells #[v0,v1] solo (0,0))∧VR κ w (Nset gh.O κ H) p v0∧VR κ w (Nset gh.O κ H) buf v1:=by
 obtain ⟨K,hκ,hc,hn⟩:=J84 hs;obtain ⟨K1,hκ1,hbr⟩:=hr.blk _ _ _ hb;rw[hκ] at hκ1;cases hκ1;obtain ⟨hn2,hcl,h3⟩:=hbr.rows hn
 rcases h3 with ⟨h3,_⟩ | ⟨c',A,f,hc',hbk,hm,hs',hf,hpl,hvv,hso⟩
 ·rw[h3] at hc;cases hc
 rw[hc'] at hc;cases hc;have hsz:A.size=2:=hso rfl;obtain ⟨L⟩:=A
 rcases L with _ | ⟨v0,_ | ⟨v1,_ | ⟨v2,r⟩⟩⟩<;>simp at hsz
 have e0:=hf 0 (by simp[bldB]) 0 (by simp[bldB]);have e1:=hf 0 (by simp[bldB]) 1 (by simp[bldB]);simp[bldB] at e0 e1;subst e0 e1;exact ⟨_,_,hbk,hvv 0 (by simp[bldB]) 0 (by simp[bldB]),hvv 0 (by simp[bldB]) 1 (by simp[bldB])⟩
theorem J83 {κ:KM} {w:World} {N:Nat→Prop} {b g off len:Nat} {v:Value} (h:VR κ w N (.own b g off len) v):∃ ao n' cap,v=.slice ao n' cap:=by
 cases h<;>exact ⟨_,_,_,rfl⟩
theorem JDG {gh:Gh} {κ:KM} {H:Hp} {w:World} {b g c d γ len n' cap:Nat} {ao:Option Addr} {p buf:AV} (hr:HRel gh κ H w) (hb:H b=some (g,bldB p buf)) (hs:VR κ w (Nset gh.O κ H) (.op b g 0 0) (.pointer (some ⟨c,0,none⟩))) (hp:p.cells=[p]) (hbc:buf.cells=[buf])
  (hx:VR κ w (Nset gh.O κ H) (.own d γ 0 len) (.slice ao n' cap)) :
  ∃ κ',HRel gh κ' (setH H b (some (g,bldB p (.own d γ 0 len)))) (w.setCell ⟨c,1,none⟩ (.slice ao n' cap))∧∀ {y:AV} {v:Value},VR κ w (Nset gh.O κ H) y v→VR κ' (w.setCell ⟨c,1,none⟩ (.slice ao n' cap)) (Nset gh.O κ' (setH H b (some (g,bldB p (.own d γ 0 len))))) y v:=by
 obtain ⟨v0,v1,hbk,_,_⟩:=J90 hr hb hs hp hbc;obtain ⟨K,hκ,hc,hn⟩:=J84 hs
 have hptr:VR κ w (Nset gh.O κ H) (.op b g 0 1) (.pointer (some ⟨c,1,none⟩)):=by
  have:=VR.op (w:=w) (N:=Nset gh.O κ H) b g 0 1 c K hκ hc hn
  simpa using this
 obtain ⟨up,hup,hex,w',u,κ',hrun,hR,hvr,_,_⟩:=J2P (P:=Tryz.prog) J44 hr (t:=283) hptr hx (C:=fun up=>up=some (b,g,bldB p (.own d γ 0 len))) ⟨_,rfl,rfl,rfl,_,hb,by simp[bldB],by simp[bldB],by simp[AV.cells],by simp[bldB,J4G,over,AV.cells]⟩;subst hup
 have hst:=run_storeCells_at Tryz.prog c 1 solo [.slice ao n' cap] 0 #[v0,v1] w hbk (by simp) (fun v hv=>by
  simp only[List.mem_singleton] at hv;subst hv;rfl)
 have ht:=J0O (J44 283 _ rfl)
 have hrun':(Instr.storeAt 283 (.pointer (some ⟨c,1,none⟩)) (.slice ao n' cap)).run Tryz.prog w=.ok () (w.setCell ⟨c,1,none⟩ (.slice ao n' cap)):=by
  rw[setCell_eq_setRow w c 1 _ solo (0,0) _ hbk];simp only[Nat.add_zero] at hst
  simpa [Instr.storeAt,Instr.sureAddr,Sem.run_bind,storeVar,ht.run_size w,Value.cells] using hst
 rw[hrun'] at hrun;cases hrun;exact ⟨κ',hR,hvr⟩
theorem J5H {P:Program} {w:World} {ops:Array Oper} {rest:List Oper} {o:Oper} {a:Act} {Q:Exit→Act→World→Prop} (hgd:o.guard=none) (sl x:Operand) (t u:TypeId)
  (ho:o.op=.call { callee:=.builtin .append,args:=#[sl,x],argTypes:=#[t,u] }) (v:Value) (hs:a.eval sl=v) (s:ByteArray) (hx:a.eval x=.string s) {v':Value} {w':World}
  (hr:(Builtin.append_ #[t,u] o.type #[v,.string s]).run P w=.ok v' w') (h:wpList P ops Q rest (a.put o.dst v') w'):wpList P ops Q (o::rest) a w:=by
 refine wpList_plain hgd fun K hK=>?_;unfold Oper.wp execOp;simp only[ho,resolve,invoke,builtin,Sem.run_bind,Sem.run_pure,Result.andThen_ok,List.map_toArray,List.map_cons,List.map_nil,hs,hx,hr];exact hK _ _ h
theorem J5O {H:Hp} {b g d g0:Nat} {p:AV} {l:List UInt8} {s:ByteArray} (hb:H b=some (g,bldB p (.own d g0 0 l.length))) (hp:p=J2T∨p=.op b g 0 0) (hd:H d=some (g0,⟨5,1,BY l⟩)) (hbd:b≠d)
  (hs:l.length+s.size≤140737488355328) :
  HCall Tryz.prog 283 [.op b g 0 0,encS s] H fun r H'=>r=.tup [encI s.size,.val .nilIface]∧∃ γ,H'=setH (setH H d (some (γ,⟨5,1,BY (l++s.data.toList)⟩))) b (some (g,bldB (.op b g 0 0) (.own d γ 0 (l.length+s.size)))):=by
 intro gh κ w vs hr hv;obtain ⟨hlen,hv⟩:=hv;obtain ⟨vl⟩:=vs
 rcases vl with _ | ⟨a,_ | ⟨a2,_ | ⟨a3,r⟩⟩⟩<;>simp at hlen
 have h0:=hv 0 (by simp) (by simp);have h1:=hv 1 (by simp) (by simp);simp only[List.getElem_cons_zero,List.getElem_cons_succ,List.getElem_toArray] at h0 h1;cases h1
 have hcc:=J7o hb hp rfl gh κ w #[a] hr ⟨rfl,fun i h h'=>by
  have:i=0:=by simpa using h
  subst this;exact h0⟩
 cases h0 with
 | op _ _ _ _ c K hκ hc hn=>
 simp only[Nat.add_zero,Nat.zero_mul] at hcc ⊢;have L:Lays.n166 Tryz.prog Tryz.lays156_ren:={ J0o with };have X:=J0N;have hcc':Calls Tryz.prog (Tryz.lays156_ren.f 240) _ _ _:=hcc;have e5:Tryz.lays156_ren.t 5=5:=rfl;have e72:Tryz.lays156_ren.t 72=solo:=rfl;have hT:=J44;show Calls Tryz.prog (Tryz.lays156_ren.f 166) _ _ _
 clear hcc;generalize Tryz.lays156_ren=ρ at L X hcc' e5 e72 ⊢;obtain ⟨i0,hi,hz0,hz1,hz2⟩:=info_parts X.infoByte;have mixed:=L.mixed;have t72:=L.t72;have a72:=L.a72;have z72:=L.z72;have v72:=L.v72;have u72:=run_underlying L.t72;have t70:=L.t70;have a70:=L.a70;have z70:=L.z70;have v70:=L.v70;have u70:=run_underlying L.t70;have t37:=L.t37;have a37:=L.a37;have z37:=L.z37;have v37:=L.v37;have u37:=run_underlying L.t37;have t3:=L.t3;have a3:=L.a3;have z3:=L.z3;have v3:=L.v3;have u3:=run_underlying L.t3;have t9:=L.t9;have a9:=L.a9;have z9:=L.z9;have v9:=L.v9;have u9:=run_underlying L.t9;have t4:=L.t4;have a4:=L.a4;have z4:=L.z4;have v4:=L.v4;have u4:=run_underlying L.t4;have t164:=L.t164;have a164:=L.a164;have z164:=L.z164;have v164:=L.v164;have u164:=run_underlying L.t164;have t5:=X.t5;have a5:=X.a5;have z5:=X.z5;have v5:=X.v5;have u5:=run_underlying X.t5;have e240:∀ args w,(callFunc (ρ.f 240) args).run Tryz.prog w=.ok (.enter (ρ.f 240) args) w:=enters_of L.f240 (by kernel_rfl) rfl
 go_enter L.f166,Body.n166_ntmps ρ
 go_wp2_with (go_at_fn (ρ.f 240);refine hcc'.mono ?_)
 rintro e w1 ⟨v0,r0,H1,κ1,he,⟨hr0,hH1⟩,hr1,hv0,ht1⟩;subst he hr0 hH1
 have hself:VR κ w (Nset gh.O κ H) (.op b g 0 0) (.pointer (some ⟨c,0,none⟩)):=by
  have:=VR.op (w:=w) (N:=Nset gh.O κ H) b g 0 0 c K hκ hc hn
  simpa using this
 have hself:=ht1 hself;have hb1:(setH H b (some (g,bldB (.op b g 0 0) (.own d g0 0 l.length)))) b=some (g,bldB (.op b g 0 0) (.own d g0 0 l.length)):=by simp[setH]
 have hd1:(setH H b (some (g,bldB (.op b g 0 0) (.own d g0 0 l.length)))) d=some (g0,⟨5,1,BY l⟩):=by rw[setH,if_neg (Ne.symm hbd)];exact hd
 generalize hH1:setH H b (some (g,bldB (.op b g 0 0) (.own d g0 0 l.length)))=H1 at hr1 hv0 ht1 hself hb1 hd1;obtain ⟨p1,v,hbk,_,hv1⟩:=J90 hr1 hb1 hself rfl rfl;have c1:w1.cell? ⟨c,1,none⟩=some v:=by rw[Lib.cell_of_heap hbk];rfl
 obtain ⟨G,hG⟩:=hr1.fresh;obtain ⟨v',w2,κ2,hrun,hr2,ht2,hv2,hk2⟩:=J7f (P:=Tryz.prog) (ty:=ρ.t 37) (u:=ρ.t 9) hr1 (d:=d) (g:=g0) (γ:=G) (s:=s) L.t37 L.t9 hi hz0 hz1 hz2 (by rw[e5];decide) (hG _ _ (Nat.le_refl _)) (by rw[e5];exact hd1) hv1 hs;rw[e5] at hr2 ht2 hv2;have hself2:=ht2 hself;have hb2:app H1 (some (d,G,⟨5,1,BY (l++s.data.toList)⟩)) b=some (g,bldB (.op b g 0 0) (.own d g0 0 l.length)):=by simp only[app,setH];rw[if_neg hbd];exact hb1
 generalize hH2:app H1 (some (d,G,⟨5,1,BY (l++s.data.toList)⟩))=H2 at hr2 ht2 hv2 hself2 hb2;obtain ⟨p2,v2,hbk2,_,_⟩:=J90 hr2 hb2 hself2 rfl rfl;have d1:w2.cell? ⟨c,1,none⟩=some v2:=by rw[Lib.cell_of_heap hbk2];rfl
 have f1:w2.frozen? ⟨c,1,none⟩=false:=Lib.frozen_of_heap hbk2 1;obtain ⟨ao,n',cap,rfl⟩:∃ ao n' cap,v'=.slice ao n' cap:=J83 hv2
 go_wp2_with (at_builtin;refine J5H rfl _ _ (ρ.t 37) (ρ.t 9) rfl v rfl s rfl hrun ?_)
 go_ret2
 obtain ⟨κ3,hr3,ht3⟩:=JDG hr2 hb2 hself2 rfl rfl hv2;subst hH2 hH1
 have eH:∀ z,setH (app (setH H b z) (some (d,G,⟨5,1,BY (l++s.data.toList)⟩))) b (some (g,bldB (.op b g 0 0) (.own d G 0 (l.length+s.size))))=setH (setH H d (some (G,⟨5,1,BY (l++s.data.toList)⟩))) b (some (g,bldB (.op b g 0 0) (.own d G 0 (l.length+s.size)))):=by
  intro z;funext x;simp only[app,setH];split<;>(try split)<;>rfl
 rw[eH] at hr3 ht3
 exact ⟨_,.tup [encI s.size,.val .nilIface],_,κ3,rfl,⟨rfl,_,rfl⟩,hr3,.tup _ _ rfl (fun i h h'=>by
  match i,h with
  | 0,_=>exact .val _ rfl
  | 1,_=>exact .val _ rfl),fun h=>ht3 (ht2 (ht1 h))⟩
theorem HRel.drop {gh:Gh} {κ:KM} {H:Hp} {w w':World} {d g c:Nat} {B:Blk} {K:KI} (hr:HRel gh κ H w) (hd:H d=some (g,B)) (hκ:κ d g=some K) (hc:K.c=some c) (hs:w.heap.size≤w'.heap.size) (hb:∀ k,k<w.heap.size→k≠c→w'.heap[k]?=w.heap[k]?) (ho:w'.os=w.os) (ht:w'.tape=w.tape) (hu:w'.output=w.output) :
  HRel gh κ (rem H [d]) w'∧∀ {x:AV} {u:Value},VR κ w (Nset gh.O κ H) x u→VR κ w' (Nset gh.O κ (rem H [d])) x u:=by
 have hag:Agree (Nset gh.O κ H) w w':=⟨hs,fun k hk hn=>hb k hk fun e=>hn (.inr ⟨d,g,B,K,hd,hκ,e ▸ hc⟩)⟩;have hr':=hr.rem [d];have tr:∀ {x:AV} {u:Value},VR κ w (Nset gh.O κ H) x u→VR κ w' (Nset gh.O κ (rem H [d])) x u:=fun h=>h.step (KM.le.refl _) hag fun k _ h=>J0K [d] h;have hag':Agree (Fw.Own κ H) w w':=⟨hs,fun k hk hn=>hb k hk fun e=>hn ⟨d,g,B,K,hd,hκ,e ▸ hc⟩⟩;refine ⟨⟨fun b g' B' h=>?_,hr'.inj,hr'.mine,hr.keep hag',ho.trans hr.os,ht.trans hr.tape,hu.trans hr.output,hr.fresh,hr.apart⟩,tr⟩;obtain ⟨K',hk,hbr⟩:=hr'.blk _ _ _ h
 have hbd:b≠d:=by
  rintro rfl;simp[Fw.rem] at h
 have hHb:H b=some (g',B'):=by
  unfold Fw.rem at h;split at h
  ·cases h
  ·exact h
 obtain ⟨K2,hk2,hbr2⟩:=hr.blk _ _ _ hHb;exact ⟨K2,hk2,hbr2.step (KM.le.refl _) hag (fun k _ h=>J0K [d] h) fun k hk=>hb k (hr.lt ⟨b,g',B',K2,hHb,hk2,hk⟩) fun e=>hbd (hr.inj _ _ _ _ _ _ _ _ c hHb hd hk2 hκ (e ▸ hk) hc)⟩
end Go.Proofs.YtlblbldolhiokaaGreatDoor
namespace Go.Proofs.YtlblbldolhiokaaGreatDoor
open Go Go.Fw
theorem JEy {e:Nat} {H:Hp} {b g d g0:Nat} {p:AV} {l:List UInt8} (s:ByteArray) {args:List AV} {C:AV→Hp→Prop} (ha:args=[.op b g 0 0,encS s]) (hb:H b=some (g,bldB p (.own d g0 0 l.length))) (hpf:p=J2T∨p=.op b g 0 0) (hd:H d=some (g0,⟨5,1,BY l⟩)) (hbd:b≠d)
  (hs:l.length+s.size≤140737488355328) (h:∀ γ,∃ m,hpOk (setH (setH H d (some (γ,⟨5,1,BY (l++s.data.toList)⟩))) b (some (g,bldB (.op b g 0 0) (.own d γ 0 (l++s.data.toList).length)))) m∧C (.tup [encI s.size,.val .nilIface]) (hp m)) :
  CallP (E e) 283 args H C:=by
 subst ha;refine CallP.own c283 (HCall.mono (J5O hb hpf hd hbd hs) ?_);rintro r h' ⟨rfl,γ,rfl⟩;obtain ⟨m,h1,h2⟩:=h γ;have e1:l.length+s.size=(l++s.data.toList).length:=by rw[List.length_append];rfl
 rw[e1];exact ⟨hp m,h1.sub,h2⟩
def eqF (w:ByteArray) (q:Eqn):ByteArray:=w++b1 32++q.name++b1 32++showF q.left++b1 32++showF q.right++b1 10
def eqsL (w:ByteArray):List Eqn→List UInt8
 | []=>[]
 | q::r=>(eqF w q).data.toList++eqsL w r
structure QnOk (q:Eqn):Prop where
 n:q.name.size<2^35
 l:SzE q.left∧TxE q.left∧builtF q.left=true∧wtF q.left≤1000
 r:SzE q.right∧TxE q.right∧builtF q.right=true∧wtF q.right≤1000
theorem J2J {e:Ex} (h:TxE e) (hb:builtF e=true) (hw:wtF e≤1000):(showF e).size≤2^32:=by
 have:=J5W e hb h;have h2:(2^21+20)*wtF e≤(2^21+20)*1000:=Nat.mul_le_mul_left _ hw;omega
theorem JER {w:ByteArray} {q:Eqn} (hw:w.size≤10) (h:QnOk q):(eqF w q).size≤2^36:=by
 have h1:=J2J h.l.2.1 h.l.2.2.1 h.l.2.2.2;have h2:=J2J h.r.2.1 h.r.2.2.1 h.r.2.2.2;have h3:=h.n;unfold eqF;simp only[J0E];show _+1+_+1+_+1+_+1≤_
 omega
theorem JDk (w:ByteArray) (hw:w.size≤10) (qs:List Eqn) (hq:∀ q∈qs,QnOk q) (hn:qs.length≤120) (p:AV) (g g1:Nat) (hpf:p=J2T∨p=.op 50 g 0 0) (l:List UInt8) (hl:l.length≤2^46) :
  HCall Tryz.prog 285 [encS w,.sl 9 (qs.map J0p),.op 50 g 0 0] (hp [(50,g,bldB p (.own 51 g1 0 l.length)),(51,g1,⟨5,1,BY l⟩)])
   (fun r h=>r=.tup []∧∃ p' g',(p'=J2T∨p'=.op 50 g 0 0)∧h=hp [(50,g,bldB p' (.own 51 g' 0 (l++eqsL w qs).length)),(51,g',⟨5,1,BY (l++eqsL w qs)⟩)]):=by
 refine J3v (E:=E 0) J44 (JHI 0) Tryz.func285 rfl (by rfl) (Nat.le_of_ble_eq_true rfl) ?_;have hml:=@List.length_map _ _ qs J0p;generalize hR:l++eqsL w qs=R;(refine kWQ ?_;repeat intro γ)
 refine LoopP.intro (fun k σ H=>∃ p' g1 i,∃ t:List UInt8,k=qs.length-i∧i≤qs.length∧t.length≤i*2^36+2^46∧(p'=J2T∨p'=.op 50 g 0 0)∧t++eqsL w (qs.drop i)=R ∧
   σ=fr [(0,encS w),(2,.op 50 g 0 0),(7,.sl 9 (qs.map J0p)),(8,encI qs.length),(9,encI i)] ∧
   H=hp [(50,g,bldB p' (.own 51 g1 0 t.length)),(51,g1,⟨5,1,BY t⟩)]) ?_ ?_
 ·exact .intro (W.of ⟨_,p,g1,0,l,rfl,Nat.zero_le _,by omega,hpf,hR,rfl,rfl⟩ ⟨rfl,rfl,rfl,rfl,rfl,trivial⟩ ⟨rfl,rfl,trivial⟩)
 ·rintro k σ H ⟨p',g1,i,t,rfl,hi,ht,hpf,hT,rfl,rfl⟩
  rcases Nat.lt_or_ge i qs.length with h1 | h1
  ·rw[List.drop_eq_getElem_cons h1] at hT;have hqi:=hq _ (List.getElem_mem h1);have hs1:=JBg _ hqi.l.1 hqi.l.2.1 hqi.l.2.2.1 hqi.l.2.2.2;have hs2:=JBg _ hqi.r.1 hqi.r.2.1 hqi.r.2.2.1 hqi.r.2.2.2;have hz:=JER hw hqi;have hz1:=J2J hqi.l.2.1 hqi.l.2.2.1 hqi.l.2.2.2;have hz2:=J2J hqi.r.2.1 hqi.r.2.2.1 hqi.r.2.2.2;have hzn:=hqi.n;rw[J0L] at hs1 hs2;(refine kWO ?_;repeat intro γ)
   (simp (disch:=omega) only [LG];refine kW ?_)
   (refine kO ?_;repeat intro γ);generalize qs[i]=q at *;obtain ⟨qn,ql,qr⟩:=q;simp only at hs1 hs2 hz1 hz2 hzn;unfold eqsL at hT;unfold eqF at hT hz;simp only[b1] at hT hz;generalize showF ql=sl at *;generalize showF qr=sr at *;have z1:({ data:=#[32] }:ByteArray).size=1:=rfl;have z2:({ data:=#[10] }:ByteArray).size=1:=rfl;have y1:=J0E w { data:=#[32] };have y2:=J0E (w++{ data:=#[32] }) qn;have y3:=J0E (w++{ data:=#[32] }++qn) { data:=#[32] };have y4:=J0E (w++{ data:=#[32] }++qn++{ data:=#[32] }) sl;have y5:=J0E (w++{ data:=#[32] }++qn++{ data:=#[32] }++sl) { data:=#[32] };have y6:=J0E (w++{ data:=#[32] }++qn++{ data:=#[32] }++sl++{ data:=#[32] }) sr;have y7:=J0E (w++{ data:=#[32] }++qn++{ data:=#[32] }++sl++{ data:=#[32] }++sr) { data:=#[10] };refine J1D [(16,false),(17,true)] (by kernel_rfl) ?_;(refine kWQ ?_;repeat intro γ);refine CallG.intro _ c128 hs1 ?_;(refine kWQ ?_;repeat intro γ);refine CallG.intro _ c128 hs2 ?_;(refine kWQ ?_;repeat intro γ);refine JEy (b:=50) (g:=g) (d:=51) (g0:=g1) (p:=p') (l:=t) (w++{ data:=#[32] }++qn++{ data:=#[32] }++sl++{ data:=#[32] }++sr++{ data:=#[10] }) (by kernel_rfl) rfl hpf rfl (by decide) (by omega) fun γ=>⟨[(6,_,⟨58,9,[J0p ⟨qn,ql,qr⟩]⟩),(50,g,_),(51,γ,_)],⟨rfl,rfl,rfl,trivial⟩,?_⟩;(refine kWQ ?_;repeat intro γ);obtain ⟨z,hzz⟩:∃ z,w++{ data:=#[32] }++qn++{ data:=#[32] }++sl++{ data:=#[32] }++sr++{ data:=#[10] }=z:=⟨_,rfl⟩;rw[hzz] at hT hz ⊢;have hzl:z.data.toList.length=z.size:=rfl
   refine .intro <| W.of ⟨_,by omega,.op 50 g 0 0,γ,i+1,t++z.data.toList,rfl,h1,by rw[List.length_append,hzl];omega,.inr rfl,by rw[List.append_assoc];exact hT,rfl,rfl⟩ ⟨rfl,rfl,rfl,rfl,rfl,trivial⟩ ⟨rfl,rfl,trivial⟩
  ·rw[List.drop_eq_nil_of_le h1] at hT;(refine kWQ ?_;repeat intro γ);refine EndH.of (m:=[(50,g,bldB p' (.own 51 g1 0 t.length)),(51,g1,⟨5,1,BY t⟩)]) ⟨rfl,rfl,trivial⟩ ⟨rfl,p',g1,hpf,?_⟩;rw[← hT];unfold eqsL;rw[List.append_nil]
def ExOk (e:Ex):Prop:=SzE e∧TxE e∧builtF e=true∧wtF e≤1000
structure AcOk (a:Ac):Prop where
 k:0≤a.kind∧a.kind≤1
 n:a.var.size<2^35
 e:ExOk a.value
structure WnOk (w:Whn):Prop where
 n:w.name.size<2^35
 e:ExOk w.cond
 l:w.acts.length≤20
 a:∀ a∈w.acts,AcOk a
structure VaOk (v:Va):Prop where
 s:v.name.size<2^35∧v.value.size<2^35∧v.start.size<2^35∧v.unit.size<2^35
 k:0≤v.kind∧v.kind≤3
 t:0≤v.type∧v.type≤1
structure TextOk (s:Sys):Prop where
 lv:s.vars.length≤120
 lq:s.eqs.length≤120
 ln:s.inits.length≤120
 lw:s.whens.length≤120
 v:∀ v∈s.vars,VaOk v
 q:∀ q∈s.eqs,QnOk q
 n:∀ q∈s.inits,QnOk q
 w:∀ w∈s.whens,WnOk w
theorem CallP.eqs {S:Blk} {gs g g1:Nat} {p:AV} (hpf:p=J2T∨p=.op 3 g 0 0) (w:ByteArray) (hw:w.size≤10) {qs:List Eqn} (hq:∀ q∈qs,QnOk q) (hn:qs.length≤120) {t:List UInt8} (ht:t.length≤2^46) {args:List AV} {C:AV→Hp→Prop}
  (ha:args=[encS w,.sl 9 (qs.map J0p),.op 3 g 0 0])
  (hC:∀ p' g',(p'=J2T∨p'=.op 3 g 0 0)→C (.tup []) (hp [(1,gs,S),(3,g,bldB p' (.own 100 g' 0 (t++eqsL w qs).length)),(100,g',⟨5,1,BY (t++eqsL w qs)⟩)])) :
  CallP (E 0) 285 args (hp [(1,gs,S),(3,g,bldB p (.own 100 g1 0 t.length)),(100,g1,⟨5,1,BY t⟩)]) C:=by
 subst ha
 have key:∀ p0,(p0=J2T∨p0=.op 50 g 0 0)→p=mv (fun b=>some (fwd 1000000 [(50,3),(51,100)] b)) 2 p0→CallP (E 0) 285 [encS w,.sl 9 (qs.map J0p),.op 3 g 0 0] (hp [(1,gs,S),(3,g,bldB p (.own 100 g1 0 t.length)),(100,g1,⟨5,1,BY t⟩)]) C:=by
  intro p0 h0 hp0;refine CallP.frame 1000000 [(50,3),(51,100)] rfl c285 (JDk w hw qs hq hn p0 g g1 h0 t ht) rfl ⟨?_,J1W (fun b:UInt8=>AV.val (.int .u8 (b.toNat:Int))) _ (fun _=>rfl) ..,trivial⟩ ?_
  ·rcases h0 with rfl | rfl
   ·subst hp0;rfl
   ·subst hp0;rfl
  ·rintro r0 h' ⟨rfl,p',g',h2,rfl⟩;refine ⟨[(1,gs,S),(3,g,bldB (mv (fun b=>some (fwd 1000000 [(50,3),(51,100)] b)) 2 p') (.own 100 g' 0 (t++eqsL w qs).length)),(100,g',⟨5,1,BY (t++eqsL w qs)⟩)],⟨rfl,rfl,J1W (fun b:UInt8=>AV.val (.int .u8 (b.toNat:Int))) _ (fun _=>rfl) ..,trivial⟩,hC _ _ ?_⟩
   rcases h2 with rfl | rfl
   ·exact .inl rfl
   ·exact .inr rfl
 rcases hpf with rfl | rfl
 ·exact key J2T (.inl rfl) rfl
 ·exact key (.op 50 g 0 0) (.inr rfl) rfl
def opE (o:ByteArray) (l:List Ex):Ex:=.mk o ⟨#[]⟩ 0 l
def numE (t:ByteArray):Ex:=.mk oNum t 0 []
def refE (t:ByteArray) (n:Int):Ex:=.mk oVar t n []
def GdE (e:Ex):Prop:=SzE e∧TxE e
theorem J7V {o t:ByteArray} {n:Int} {l:List Ex} (h1:o.size≤100) (h2:t.size≤100) (h3:l.length≤100) (h:∀ e∈l,GdE e):GdE (.mk o t n l):=
 ⟨SzE.mk (by omega) (by omega) (by omega) fun k hk=>(h k hk).1,TxE.mk (by omega) fun k hk=>(h k hk).2⟩
theorem JC3 (s:ByteArray):PureCall Tryz.prog 237 [encS s] (encE (numE s)):=by
 refine J2D (r:=.agg [encS ⟨#[110,117,109]⟩,encS s,encI 0,.val (.slice none 0 0)]) ?_ 3 ?_
 ·refine PC [] Tryz.func237 rfl (by rfl) rfl ?_;refine kWQ ?_;intros;exact .of rfl
 ·rw[J01];simp[leN,allB,valB,encS,encI,numE,oNum,oVar,Ex.op,Ex.text,Ex.order,Ex.kids]
theorem JGn (o:ByteArray) (l:List Ex):PureCall Tryz.prog 238 [encS o,.sl 4 (l.map encE)] (.agg [encS o,encS ⟨#[]⟩,encI 0,.sl 4 (l.map encE)]):=by
 refine PC [] Tryz.func238 rfl (by rfl) rfl ?_;refine kWQ ?_;intros;exact .of rfl
theorem JHk {S:List Nat} {H:Hp} {k:Nat} {L:List AV} {n:Nat} {xs:List Ex} (h:L=xs.map encE) (hn:n=xs.length):AV.sl 4 (((L.drop 0).take n).map (J0R (J07 S H k)))=.sl 4 (xs.map encE):=by
 subst h;rw[J1Q _ _ _ _ hn fun x=>by rw[J01];cases k<;>rfl]
theorem J0Y {b p e n:Nat} {H:Hp} {out:List Ex} (hb:H b=some (p,⟨e,4,out.map encE⟩)) (hn:n=out.length):snap [b] H (.own b p 0 n)=.sl 4 (out.map encE):=by
 rw[J3r (by simp) hb (by simp[hn]),J1Q _ _ _ _ hn fun v=>by rw[J01];rfl]
theorem JD6 (e:Ex):SzE e→wtF e≤1000→PureCall Tryz.prog 92 [encE e] (encE e):=by
 induction e using J2s with
 | h e ih=>
   intro hz hw;have ihk:=fun k hk=>ih k hk (hz.kid k hk) (by have:=JBN hk;omega);have hwt:wtL e.kids≤1000:=by have:=J5R e;omega
   have hlen:e.kids.length≤1000:=Nat.le_trans (J69 _) hwt;clear ih;refine PC [17] Tryz.func92 rfl (by rfl) rfl ?_;rw[J01];obtain ⟨o,t,od,es⟩:=e;simp only[Ex.op,Ex.text,Ex.order,Ex.kids] at *;have hml:=@List.length_map _ _ es encE;(refine kWQ ?_;repeat intro γ)
   refine LoopP.intro (fun j σ H=>∃ g1 g2 gl i,∃ l:List Ex,j=es.length-i∧i≤es.length∧l=es.take i ∧
    σ=fr [(1,.op 1 g1 0 0),(2,.op 2 g2 0 0),(3,.own 17 gl 0 l.length),(7,.sl 4 (es.map encE)),(8,encI es.length),(9,encI i)] ∧
    H=hp [(1,g1,⟨29,4,[.agg [encS o,encS t,encI od,.sl 4 (es.map encE)]]⟩),(2,g2,⟨29,4,[nilE]⟩),(17,gl,⟨29,4,l.map encE⟩)]) ?_ ?_
   ·exact .intro (JAv 3 17 29 4 rfl rfl fun gl=>W.of ⟨_,_,_,gl,0,[],rfl,Nat.zero_le _,rfl,rfl,rfl⟩ ⟨rfl,rfl,rfl,rfl,(by first | rfl | exact congrArg (fun n:Nat=>encI n) hml),rfl,trivial⟩ ⟨rfl,rfl,rfl,trivial⟩)
   rintro j σ H ⟨g1,g2,gl,i,l,rfl,hi,hl,rfl,rfl⟩;have hmt:=@List.length_map _ _ l encE;have htl:l.length=i:=by rw[hl,List.length_take];omega
   rcases Nat.lt_or_ge i es.length with h9 | h9
   ·have hk:=ihk _ (List.getElem_mem h9);have htk:es.take (i+1)=l++[es[i]]:=by rw[List.take_succ_eq_append_getElem h9,hl]
    obtain ⟨k,hkk⟩:∃ k,es[i]=k:=⟨_,rfl⟩;rw[hkk] at hk htk;rw[J01] at hk;clear hl;(refine kWQ ?_;repeat intro γ);simp only[hkk,J01];(refine kQ ?_;repeat intro γ);refine J00 [] _ c92 hk ?_;(refine kWQ ?_;repeat intro γ)
    refine .intro <| W.of ⟨_,by omega,g1,g2,γ,i+1,l++[k],rfl,h9,htk.symm,rfl,rfl⟩ ⟨rfl,rfl,?_,rfl,rfl,rfl,trivial⟩ ⟨rfl,rfl,?_,trivial⟩
    ·exact congrArg (AV.own 17 _ 0) (by simp)
    ·have e1:(l++[k]).map encE=l.map encE++[.agg [encS k.op,encS k.text,encI k.order,.sl 4 (k.kids.map encE)]]:=by rw[List.map_append,← J01];rfl
     rw[e1];rfl
   ·obtain rfl:i=es.length:=by omega
    rw[List.take_length] at hl;subst hl;(refine kWQ ?_;repeat intro γ);refine .of ?_;exact congrArg (fun z=>AV.agg [encS o,encS t,encI od,z]) (JHk rfl rfl)
mutual
def highF:Ex→Bool
 | .mk o t n es=>(decide (o=oVar)&&decide (n=6))||JG2 es
def JG2:List Ex→Bool
 | []=>false
 | e::es=>highF e||JG2 es
end
theorem J7R:∀ es:List Ex,JG2 es=es.any highF
 | []=>rfl
 | e::es=>by rw[List.any_cons,← J7R es];rfl
theorem J9h (e:Ex):highF e=((decide (e.op=oVar)&&decide (e.order=6))||e.kids.any highF):=by
 cases e with
 | mk o t n es=>rw[← J7R];rfl
theorem JAf (e:Ex):SzE e→PureCall Tryz.prog 161 [encE e] (encB (highF e)):=by
 induction e using J2s with
 | h e ih=>
   intro hz;obtain ⟨o,t,od,es⟩:=e;have hC:=J3e 161 highF es hz.len c161 fun k hk=>ih k hk (hz.kid k hk);have hG:highF (.mk o t od es)=((decide (o=oVar)&&decide (od=6))||es.any highF):=J9h _;clear ih;refine PC [] Tryz.func161 rfl (by rfl) rfl ?_;obtain ⟨F,hF⟩:∃ F,highF (.mk o t od es)=F:=⟨_,rfl⟩;rw[hF];rw[hG] at hF;clear hG;rw[show encE (.mk o t od es)=.agg [encS o,encS t,encI od,.sl 4 (es.map encE)] from J01 _];generalize es.any highF=an at *
   by_cases h1:o=oVar
   ·rw[decide_eq_true h1,Bool.true_and] at hF
    by_cases h2:od=6
    ·rw[decide_eq_true h2,Bool.true_or] at hF;refine kWS ?_;intros;exact .of (by rw[← hF];rfl)
    ·rw[decide_eq_false h2,Bool.false_or] at hF;refine kWS ?_;intros;refine CallP.flat [] _ c202 hC rfl ?_;refine kWS ?_;intros;exact .of (by rw[← hF];rfl)
   ·rw[decide_eq_false h1,Bool.false_and,Bool.false_or] at hF;refine kWS ?_;intros;refine CallP.flat [] _ c202 hC rfl ?_;refine kWS ?_;intros;exact .of (by rw[← hF];rfl)
def JAc (ks:List (ByteArray×Va)) (t:ByteArray):Int:=match J17 ks t with
 | some v=>v.kind
 | none=>0
def dE:Ex:=numE ⟨#[48]⟩
def derG (ks:List (ByteArray×Va)) (o t:ByteArray) (n:Int) (es ds:List Ex):Ex:=
 if o=oTime then numE ⟨#[49]⟩
 else if o=oVar then (if JAc ks t=0∨JAc ks t=3 then refE t (n+1) else dE)
 else if o=oNum∨o=oPre then dE
 else if o=oIf then opE oIf [es.getD 0 dE,ds.getD 1 dE,ds.getD 2 dE]
 else if o=oNeg then opE oNeg [ds.getD 0 dE]
 else if o=oAdd∨o=oSub then opE o [ds.getD 0 dE,ds.getD 1 dE]
 else if o=oMul then opE oAdd [opE oMul [ds.getD 0 dE,es.getD 1 dE],opE oMul [es.getD 0 dE,ds.getD 1 dE]]
 else opE oDiv [opE oSub [opE oMul [ds.getD 0 dE,es.getD 1 dE],opE oMul [es.getD 0 dE,ds.getD 1 dE]],opE oMul [es.getD 1 dE,es.getD 1 dE]]
mutual
def derF (ks:List (ByteArray×Va)):Ex→Ex
 | .mk o t n es=>derG ks o t n es (derL ks es)
def derL (ks:List (ByteArray×Va)):List Ex→List Ex
 | []=>[]
 | e::es=>derF ks e::derL ks es
end
theorem J9o (ks:List (ByteArray×Va)):∀ es:List Ex,derL ks es=es.map (derF ks)
 | []=>rfl
 | e::es=>by rw[List.map_cons,← J9o ks es];rfl
theorem J6W (ks:List (ByteArray×Va)) (e:Ex):derF ks e=derG ks e.op e.text e.order e.kids (e.kids.map (derF ks)):=by
 cases e with
 | mk o t n es=>rw[← J9o];rfl
theorem J9m (t:ByteArray) (n:Int):Fw.Ends (.agg [encS oVar,encS t,encI n,.val (.slice none 0 0)]) (encE (refE t n)):=by
 have h:=Le.cons (Le.refl (encS oVar)) (Le.cons (Le.refl (encS t)) (Le.cons (Le.refl (encI n)) (Le.cons (Le.nil 4) J5D)));rw[show encE (refE t n)=.agg [encS oVar,encS t,encI n,.sl 4 []] from J01 _];exact ⟨Le.agg h.1 h.2⟩
theorem JCc (ks:List (ByteArray×Va)) (e:Ex):SzE e→TxE e→builtF e=true→(typeF ks e).2=true→(typeF ks e).1≠1→wtF e≤1000→PureCall Tryz.prog 162 [encK ks,encE e] (encE (derF ks e)):=by
 induction e using J2s with
 | h e ih=>
   intro hz hx hb ht h1 hw;have ihk:=fun k hk=>ih k hk (hz.kid k hk) (hx.kid k hk) ((J0m hb).2 k hk) (JAB hb ht k hk);have hwk:∀ k∈e.kids,wtF k≤1000:=fun k hk=>by have:=JBN hk;omega
   have hcp:=fun k (hk:k∈e.kids)=>JD6 k (hz.kid k hk) (hwk k hk);clear ih;have hs:=JDs hb ht;have hord:=J6I hb;have htx:=hx.tx;obtain ⟨o,t,n,es⟩:=e;obtain ⟨r,hr,hm⟩:=J1M encV t ks;have hG:derF ks (.mk o t n es)=derG ks o t n es (es.map (derF ks)):=J6W ks _;refine PC [] Tryz.func162 rfl (by rfl) rfl ?_;obtain ⟨F,hF⟩:∃ F,derF ks (.mk o t n es)=F:=⟨_,rfl⟩;rw[hF];rw[hG] at hF;clear hG;rw[show encE (.mk o t n es)=.agg [encS o,encS t,encI n,.sl 4 (es.map encE)] from J01 _];clear hz hx hb ht hw;have hn1:=JC3 ⟨#[49]⟩;have hn0:=JC3 ⟨#[48]⟩;have hop:=JGn;rw[J01] at hn1 hn0
   rcases hs with ⟨h,hk,_⟩ | ⟨h,hk,v,hv,_⟩ | ⟨h,a,b,c,hk,ha,hb,hc⟩ | ⟨h,a,b,hk,ha,hb,h2⟩ | ⟨h,a,b,hk,hab,h2⟩ | ⟨h,hk,_⟩ | ⟨h,hk,h2⟩ | ⟨h,a,hk,ha,_⟩ | ⟨h,a,hk,ha,h2⟩ | ⟨h,a,b,hk,ha,hb,h0,h2⟩ | ⟨h,a,b,hk,ha,hb,_⟩ | ⟨h,a,b,hk,ha,hb,h2⟩
   ·have h:o=oNum:=h;subst h;have hF:dE=F:=hF;subst hF;unfold dE;rw[J01];refine kWS ?_;intros;refine J00 [] _ c237 hn0 ?_;refine kWS ?_;intros;exact .of rfl
   ·rcases (show o=oVar∨o=oPre from h) with h | h
    ·have hv2:J17 ks t=some v:=hv;rw[hv2] at hm;subst h;have hF:(if JAc ks t=0∨JAc ks t=3 then refE t (n+1) else dE)=F:=hF;have hkk:JAc ks t=v.kind:=by unfold JAc;rw[hv2]
     rw[hkk] at hF;obtain ⟨q1,q2⟩:=(show 0≤n∧n≤6 from hord rfl)
     cases r with
     | none=>exact hm.elim
     | some ii=>
       have hm:(ks.map fun x=>encV x.2).getD ii .dead=encV v:=hm;refine kWS ?_;intros;refine Need.intro keyst9 ?_;refine kWS ?_;intros;refine LookP.intro (some ii) hr ?_;refine kW ?_;rw[hm];obtain ⟨nm,kd,ty,vl,st,fx,un⟩:=v;simp only at hF
       by_cases k0:kd=0
       ·rw[if_pos (.inl k0)] at hF;subst hF;refine kS ?_;intros;exact J9m t (n+1)
       by_cases k3:kd=3
       ·rw[if_pos (.inr k3)] at hF;subst hF;refine kS ?_;intros;exact J9m t (n+1)
       rw[if_neg (by rintro (h | h);exact k0 h;exact k3 h)] at hF;subst hF;unfold dE;rw[J01];refine kS ?_;intros;refine J00 [] _ c237 hn0 ?_;refine kWS ?_;intros;exact .of rfl
    ·subst h;have hF:dE=F:=hF;subst hF;unfold dE;rw[J01];refine kWS ?_;intros;refine J00 [] _ c237 hn0 ?_;refine kWS ?_;intros;exact .of rfl
   ·have h:o=oIf:=h;have hk:es=[a,b,c]:=hk;subst h hk;have hF:opE oIf [a,derF ks b,derF ks c]=F:=hF;subst hF;have cpA:=hcp a (by simp[Ex.kids]);have ihB:=ihk b (by simp[Ex.kids]) (by rw[hb];exact h1) (hwk b (by simp[Ex.kids]));have ihC:=ihk c (by simp[Ex.kids]) (by rw[hc];exact h1) (hwk c (by simp[Ex.kids]));rw[J01] at cpA;rw[J01,J01 (derF ks b)] at ihB;rw[J01,J01 (derF ks c)] at ihC;rw[J01];simp only[List.map_cons,List.map_nil,J01];refine kWS ?_;intros;refine CallG.intro _ c92 cpA ?_;refine kWS ?_;intros;refine CallG.intro _ c162 ihB ?_;refine kWS ?_;intros;refine CallG.intro _ c162 ihC ?_;refine kWS ?_;intros;refine J04 (b:=61) _ c238 rfl rfl (Nat.succ_pos 3) (J03 (congrArg (fun z=>[encS oIf,z]) (J0Y (out:=[a,derF ks b,derF ks c]) (by simp only[List.map_cons,List.map_nil,J01,opE,Ex.op,Ex.text,Ex.order,Ex.kids];rfl) rfl)) (hop oIf [a,derF ks b,derF ks c])) ?_;refine kWS ?_;intros;exact .of rfl
   ·exact absurd h2 h1
   ·exact absurd h2 h1
   ·have h:o=oTime:=h;subst h;have hF:numE ⟨#[49]⟩=F:=hF;subst hF;rw[J01];refine kWS ?_;intros;refine J00 [] _ c237 hn1 ?_;refine kWS ?_;intros;exact .of rfl
   ·exact absurd h2 h1
   ·have h:o=oNeg:=h;have hk:es=[a]:=hk;subst h hk;have hF:opE oNeg [derF ks a]=F:=hF;subst hF;have ihA:=ihk a (List.mem_cons_self ..) ha (hwk a (List.mem_cons_self ..));rw[J01,J01 (derF ks a)] at ihA;rw[J01];simp only[List.map_cons,List.map_nil,J01];refine kWS ?_;intros;refine J00 [] _ c162 ihA ?_;refine kWS ?_;intros;refine J00 [73] _ c238 (J03 (congrArg (fun z=>[encS oNeg,z]) (J0Y (out:=[derF ks a]) (by simp only[List.map_cons,List.map_nil,J01];rfl) rfl)) (hop oNeg [derF ks a])) ?_;refine kWS ?_;intros;exact .of rfl
   ·exact absurd h2 h1
   ·exact absurd h2 h1
   ·have hk:es=[a,b]:=hk;have h:o=oAdd∨o=oSub∨o=oMul∨o=oDiv:=h;subst hk;have cpA:=hcp a (by simp[Ex.kids]);have cpB:=hcp b (by simp[Ex.kids]);have ihA:=ihk a (by simp[Ex.kids]) ha (hwk a (by simp[Ex.kids]));have ihB:=ihk b (by simp[Ex.kids]) hb (hwk b (by simp[Ex.kids]));rw[J01] at cpA cpB;rw[J01,J01 (derF ks a)] at ihA;rw[J01,J01 (derF ks b)] at ihB;simp only[List.map_cons,List.map_nil,J01 a,J01 b]
    rcases h with rfl | rfl | rfl | rfl
    ·have hF:opE oAdd [derF ks a,derF ks b]=F:=hF;subst hF;rw[J01];refine kWS ?_;intros;refine CallG.intro _ c162 ihA ?_;refine kWS ?_;intros;refine CallG.intro _ c162 ihB ?_;refine kWS ?_;intros;refine J00 [97] _ c238 (J03 (congrArg (fun z=>[encS oAdd,z]) (J0Y (out:=[derF ks a,derF ks b]) (by simp only[List.map_cons,List.map_nil,J01,opE,Ex.op,Ex.text,Ex.order,Ex.kids];rfl) rfl)) (hop oAdd [derF ks a,derF ks b])) ?_;refine kWS ?_;intros;exact .of rfl
    ·have hF:opE oSub [derF ks a,derF ks b]=F:=hF;subst hF;rw[J01];refine kWS ?_;intros;refine CallG.intro _ c162 ihA ?_;refine kWS ?_;intros;refine CallG.intro _ c162 ihB ?_;refine kWS ?_;intros;refine J00 [97] _ c238 (J03 (congrArg (fun z=>[encS oSub,z]) (J0Y (out:=[derF ks a,derF ks b]) (by simp only[List.map_cons,List.map_nil,J01,opE,Ex.op,Ex.text,Ex.order,Ex.kids];rfl) rfl)) (hop oSub [derF ks a,derF ks b])) ?_;refine kWS ?_;intros;exact .of rfl
    ·have hF:opE oAdd [opE oMul [derF ks a,b],opE oMul [a,derF ks b]]=F:=hF;subst hF;rw[J01];refine kWS ?_;intros;refine CallG.intro _ c162 ihA ?_;refine kWS ?_;intros;refine CallG.intro _ c162 ihB ?_;refine kWS ?_;intros;refine CallG.intro _ c92 cpB ?_;refine kWS ?_;intros;refine J04 (b:=102) _ c238 rfl rfl (Nat.succ_pos 3) (J03 (congrArg (fun z=>[encS oMul,z]) (J0Y (out:=[derF ks a,b]) (by simp only[List.map_cons,List.map_nil,J01,opE,Ex.op,Ex.text,Ex.order,Ex.kids];rfl) rfl)) (hop oMul [derF ks a,b])) ?_;refine kWS ?_;intros;refine CallG.intro _ c92 cpA ?_;refine kWS ?_;intros;refine J04 (b:=107) _ c238 rfl rfl (Nat.succ_pos 3) (J03 (congrArg (fun z=>[encS oMul,z]) (J0Y (out:=[a,derF ks b]) (by simp only[List.map_cons,List.map_nil,J01,opE,Ex.op,Ex.text,Ex.order,Ex.kids];rfl) rfl)) (hop oMul [a,derF ks b])) ?_;refine kWS ?_;intros;refine J00 [114] _ c238 (J03 (congrArg (fun z=>[encS oAdd,z]) (J0Y (out:=[opE oMul [derF ks a,b],opE oMul [a,derF ks b]]) (by simp only[List.map_cons,List.map_nil,J01,opE,Ex.op,Ex.text,Ex.order,Ex.kids];rfl) rfl)) (hop oAdd [opE oMul [derF ks a,b],opE oMul [a,derF ks b]])) ?_;refine kWS ?_;intros;exact .of rfl
    ·have hF:opE oDiv [opE oSub [opE oMul [derF ks a,b],opE oMul [a,derF ks b]],opE oMul [b,b]]=F:=hF;subst hF;rw[J01];refine kWS ?_;intros;refine CallG.intro _ c162 ihA ?_;refine kWS ?_;intros;refine CallG.intro _ c162 ihB ?_;refine kWS ?_;intros;refine CallG.intro _ c92 cpB ?_;refine kWS ?_;intros;refine J04 (b:=102) _ c238 rfl rfl (Nat.succ_pos 3) (J03 (congrArg (fun z=>[encS oMul,z]) (J0Y (out:=[derF ks a,b]) (by simp only[List.map_cons,List.map_nil,J01,opE,Ex.op,Ex.text,Ex.order,Ex.kids];rfl) rfl)) (hop oMul [derF ks a,b])) ?_;refine kWS ?_;intros;refine CallG.intro _ c92 cpA ?_;refine kWS ?_;intros;refine J04 (b:=107) _ c238 rfl rfl (Nat.succ_pos 3) (J03 (congrArg (fun z=>[encS oMul,z]) (J0Y (out:=[a,derF ks b]) (by simp only[List.map_cons,List.map_nil,J01,opE,Ex.op,Ex.text,Ex.order,Ex.kids];rfl) rfl)) (hop oMul [a,derF ks b])) ?_;refine kWS ?_;intros;refine J04 (b:=118) _ c238 rfl rfl (Nat.succ_pos 3) (J03 (congrArg (fun z=>[encS oSub,z]) (J0Y (out:=[opE oMul [derF ks a,b],opE oMul [a,derF ks b]]) (by simp only[List.map_cons,List.map_nil,J01,opE,Ex.op,Ex.text,Ex.order,Ex.kids];rfl) rfl)) (hop oSub [opE oMul [derF ks a,b],opE oMul [a,derF ks b]])) ?_;refine kWS ?_;intros;refine CallG.intro _ c92 cpB ?_;refine kWS ?_;intros;refine CallG.intro _ c92 cpB ?_;refine kWS ?_;intros;refine J04 (b:=124) _ c238 rfl rfl (Nat.succ_pos 3) (J03 (congrArg (fun z=>[encS oMul,z]) (J0Y (out:=[b,b]) (by simp only[List.map_cons,List.map_nil,J01,opE,Ex.op,Ex.text,Ex.order,Ex.kids];rfl) rfl)) (hop oMul [b,b])) ?_;refine kWS ?_;intros;refine J04 (b:=126) _ c238 rfl rfl (Nat.succ_pos 3) (J03 (congrArg (fun z=>[encS oDiv,z]) (J0Y (out:=[opE oSub [opE oMul [derF ks a,b],opE oMul [a,derF ks b]],opE oMul [b,b]]) (by simp only[List.map_cons,List.map_nil,J01,opE,Ex.op,Ex.text,Ex.order,Ex.kids];rfl) rfl)) (hop oDiv [opE oSub [opE oMul [derF ks a,b],opE oMul [a,derF ks b]],opE oMul [b,b]])) ?_;refine kWS ?_;intros;exact .of rfl
   ·exact absurd h2 h1
theorem J6G {P:Program} {f:Nat} {a a':List AV} {r:AV} (h:PureCall P f a r) (hl:a'.length=a.length∧∀ i (h:i<a'.length) (h':i<a.length),Le a'[i] a[i]):PureCall P f a' r:=by
 intro O w vs hO hv;exact h O w vs hO ⟨hl.1.symm.trans hv.1,fun i h1 h2=>hl.2 i (hl.1.symm ▸ h1) h1 w O _ (hv.2 i (hl.1.symm ▸ h1) h2)⟩
def zE:Ex:=.mk ⟨#[]⟩ ⟨#[]⟩ 0 []
theorem JHe:Le nilE (encE zE):=by
 have h:=Le.cons (Le.refl (encS ⟨#[]⟩)) (Le.cons (Le.refl (encS ⟨#[]⟩)) (Le.cons (Le.refl (encI 0)) (Le.cons (Le.nil 4) J5D)));rw[show encE zE=.agg [encS ⟨#[]⟩,encS ⟨#[]⟩,encI 0,.sl 4 []] from J01 _];exact Le.agg h.1 h.2
theorem J8m (c:Int):Fw.Ends (.tup [nilE,encI c]) (.tup [encE zE,encI c]):=JCW JHe (Le.refl _)
theorem J4S {o:ByteArray} {l:List Ex} (ho:o.size≤8) (hl:l.length≤100) (h:∀ e∈l,GdE e):GdE (opE o l):=J7V (by omega) (by decide) hl h
theorem J4g {l:List Ex} (h:∀ e∈l,GdE e) (i:Nat):GdE (l.getD i dE):=by
 rw[List.getD_eq_getElem?_getD]
 cases hi:l[i]? with
 | none=>exact J7V (by decide) (by decide) (by decide) (by simp)
 | some e=>exact h e (List.mem_of_getElem? hi)
theorem JGE {ks:List (ByteArray×Va)} {o t:ByteArray} {n:Int} {es ds:List Ex} (ht:t.size<2^21) (ho:o.size≤2^60) (hes:∀ e∈es,GdE e) (hds:∀ e∈ds,GdE e):GdE (derG ks o t n es ds):=by
 have hd:GdE dE:=J7V (by decide) (by decide) (by decide) (by simp);have e0:=J4g hes 0;have e1:=J4g hes 1;have d0:=J4g hds 0;have d1:=J4g hds 1;have d2:=J4g hds 2;have two:∀ {o:ByteArray} {a b:Ex},o.size≤8→GdE a→GdE b→GdE (opE o [a,b]):=fun ho ha hb=>J4S ho (by show 2≤100;decide) (by simp only[List.forall_mem_cons,List.not_mem_nil,false_imp_iff,implies_true,and_true];exact ⟨ha,hb⟩);unfold derG;split
 ·exact J7V (by decide) (by decide) (by decide) (by simp)
 ·split
  ·split
   ·exact ⟨SzE.mk (by decide) (by omega) (by decide) (by simp),TxE.mk ht (by simp)⟩
   ·exact hd
  ·split
   ·exact hd
   ·split
    ·exact J4S (by decide) (by show 3≤100;decide) (by simp only[List.forall_mem_cons,List.not_mem_nil,false_imp_iff,implies_true,and_true];exact ⟨e0,d1,d2⟩)
    ·split
     ·exact J4S (by decide) (by show 1≤100;decide) (by simp only[List.forall_mem_cons,List.not_mem_nil,false_imp_iff,implies_true,and_true];exact d0)
     ·split
      ·rename_i h
       rcases h with h | h<;>rw[h]<;>exact two (by decide) d0 d1
      ·split
       ·exact two (by decide) (two (by decide) d0 e1) (two (by decide) e0 d1)
       ·exact two (by decide) (two (by decide) (two (by decide) d0 e1) (two (by decide) e0 d1)) (two (by decide) e1 e1)
theorem JCd (ks:List (ByteArray×Va)) (e:Ex):GdE e→GdE (derF ks e):=by
 induction e using J2s with
 | h e ih=>
   intro h;rw[J6W];refine JGE h.2.low h.1.os (fun k hk=>⟨h.1.kid k hk,h.2.kid k hk⟩) fun x hx=>?_;obtain ⟨k,hk,rfl⟩:=List.mem_map.1 hx;exact ih k hk ⟨h.1.kid k hk,h.2.kid k hk⟩
def derivedF (ks:List (ByteArray×Va)) (e:Ex):Ex×Int:=if highF e then (zE,3) else if tooF (derF ks e) then (zE,2) else (derF ks e,0)
theorem JAk (ks:List (ByteArray×Va)) (e:Ex) (hg:GdE e) (hb:builtF e=true) (ht:(typeF ks e).2=true) (h1:(typeF ks e).1≠1) (hw:wtF e≤1000):PureCall Tryz.prog 77 [encK ks,encE e] (.tup [encE (derivedF ks e).1,encI (derivedF ks e).2]):=by
 refine PC [] Tryz.func77 rfl (by rfl) rfl ?_;have hH:=JAf e hg.1;have hD:=JCc ks e hg.1 hg.2 hb ht h1 hw;have hT:=J2f (derF ks e) (JCd ks e hg).1;generalize hF:derivedF ks e=F;unfold derivedF at hF;generalize derF ks e=d at *;generalize highF e=h at *;generalize tooF d=tl at *;rw[J01 d] at hT hD;rw[J01 e] at hH hD ⊢
 cases h with
 | true=>
   rw[if_pos rfl] at hF;refine kWQ ?_;intros;refine CallP.flat [] _ c161 hH rfl ?_;refine kWQ ?_;intros;rw[← hF];exact J8m 3
 | false=>
 rw[if_neg (by decide)] at hF;refine kWQ ?_;intros;refine CallP.flat [] _ c161 hH rfl ?_;refine kWQ ?_;intros;refine J00 [] _ c162 hD ?_;refine kWQ ?_;intros;refine CallP.flat [] _ c83 hT rfl ?_
 cases tl with
 | true=>
   rw[if_pos rfl] at hF;refine kWQ ?_;intros;rw[← hF];exact J8m 2
 | false=>
   rw[if_neg (by decide)] at hF;refine kWQ ?_;intros;refine .of ?_;rw[← hF];simp only;rw[J01 d];rfl
def deriveS (s:Sys) (x:Ex):Ex×Int:=if numF s x []≠0 then (zE,numF s x []) else derivedF (knownF s.vars) x
theorem J7K {s:Sys} {x:Ex} {l:List U} (h:numF s x l=0):(typeS s x).2=0∧(typeS s x).1=0∧unkF (knownF s.vars) l=true:=by
 unfold numF at h;split at h
 ·rename_i h1;exact absurd h h1
 ·rename_i h1;have h1:(typeS s x).2=0:=Decidable.not_not.1 h1;split at h
  ·cases h
  ·rename_i h2;have h2:(typeS s x).1=0:=Decidable.not_not.1 h2;split at h
   ·cases h
   ·rename_i h3;exact ⟨h1,h2,by cases hh:unkF (knownF s.vars) l;exact absurd hh h3;rfl⟩
theorem J3E (s:Sys) (hs:SzS s) (x:Ex) (hg:GdE x):PureCall Tryz.prog 23 [J0T s,encE x] (.tup [encE (deriveS s x).1,encI (deriveS s x).2]):=by
 refine PC [] Tryz.func23 rfl (by rfl) rfl ?_;have hN:=J1U s hs x hg.1 hg.2 [] (by simp) (by simp)
 have hN:PureCall Tryz.prog 63 [J0T s,encE x,.val (.slice none 0 0)] (encI (numF s x [])):=by
  refine J6G hN ⟨rfl,fun i h h'=>?_⟩
  match i,h with
  | 0,_=>exact Le.refl _
  | 1,_=>exact Le.refl _
  | 2,_=>exact Le.nil 3
 have hK:=J7P s hs.v;have hz:=@J7K s x [];have hty:=@J9F s x;have hD:=fun hb ht h1 hw=>JAk (knownF s.vars) x hg hb ht h1 hw;generalize hF:deriveS s x=F;unfold deriveS at hF;generalize numF s x []=nm at *;generalize typeS s x=ty at *;generalize hkv:knownF s.vars=ks at *;generalize derivedF ks x=dd at *;obtain ⟨vs,qs,ns,ws⟩:=s;obtain ⟨d1,d2⟩:=dd;unfold J0T at *;rw[J01 x] at hN hD ⊢;rw[J01 d1] at hD;simp only at *;refine kWQ ?_;intros;refine CallP.flat [] _ c63 hN rfl ?_
 by_cases h0:nm=0
 case' neg=>
  rw[if_pos h0] at hF;refine kWQ ?_;intros;rw[← hF];exact J8m nm
 rw[if_neg (fun h=>h h0)] at hF;obtain ⟨t1,t2,_⟩:=hz h0;obtain ⟨_,htl,hb,ht,h5⟩:=hty t1;have hD:=hD hb ht (by rw[← h5,t2];decide) (by have:=JFb htl;omega);refine kWQ ?_;intros;refine CallG.intro _ c68 hK ?_;refine kWQ ?_;intros;refine CallG.intro _ c77 hD ?_;refine kWQ ?_;intros;refine .of ?_;rw[← hF];simp only;rw[J01 d1];rfl
theorem J9z (e:Ex):SzE e→PureCall Tryz.prog 25 [encE e,encE e] (encB true):=by
 induction e using J2s with
 | h e ih=>
   intro hz;have ihk:=fun k hk=>ih k hk (hz.kid k hk);have hlen:=hz.len;clear ih;refine PC [] Tryz.func25 rfl (by rfl) rfl ?_;rw[J01];obtain ⟨o,t,od,es⟩:=e;simp only[Ex.op,Ex.text,Ex.order,Ex.kids] at *;have hml:=@List.length_map _ _ es encE;refine kWQ ?_;intros;simp only[decide_true];refine kQ ?_;intros
   try simp only[decide_true]
   refine kQ ?_;intros
   refine LoopP.intro (fun j σ H=>∃ g1 g2 i,j=es.length-i∧i≤es.length∧σ=fr [(2,.op 2 g1 0 0),(3,.op 3 g2 0 0),(5,encI i)] ∧
    H=hp [(2,g1,⟨29,4,[.agg [encS o,encS t,encI od,.sl 4 (es.map encE)]]⟩),(3,g2,⟨29,4,[.agg [encS o,encS t,encI od,.sl 4 (es.map encE)]]⟩)]) ?_ ?_
   ·exact .intro (W.of ⟨_,_,_,0,rfl,Nat.zero_le _,rfl,rfl⟩ ⟨rfl,rfl,rfl,trivial⟩ ⟨rfl,rfl,trivial⟩)
   rintro j σ H ⟨g1,g2,i,rfl,hi,rfl,rfl⟩
   rcases Nat.lt_or_ge i es.length with h9 | h9
   ·have hk:=ihk _ (List.getElem_mem h9);obtain ⟨k,hkk⟩:∃ k,es[i]=k:=⟨_,rfl⟩;rw[hkk,J01] at hk;refine kWQ ?_;intros;simp only[hkk,J01];refine kQ ?_;intros
    try simp only[hkk,J01]
    refine kQ ?_;intros;refine CallG.intro _ c25 hk ?_;refine kWQ ?_;intros
    exact .intro <| W.of ⟨_,by omega,g1,g2,i+1,rfl,h9,rfl,rfl⟩ ⟨rfl,rfl,rfl,trivial⟩ ⟨rfl,rfl,trivial⟩
   ·refine kWQ ?_;intros;exact .of rfl
theorem J1C {s:Sys} {x:Ex} (h:(deriveS s x).2=0):checkF s=0∧builtF x=true∧typeF (knownF s.vars) x=(0,true)∧highF x=false∧(deriveS s x).1=derF (knownF s.vars) x:=by
 unfold deriveS at h ⊢
 by_cases h0:numF s x []=0
 ·rw[if_neg (fun k=>k h0)] at h ⊢;obtain ⟨t1,t2,_⟩:=J7K h0;obtain ⟨hc,_,hb,ht,h5⟩:=J9F t1;refine ⟨hc,hb,Prod.ext (by rw[← h5,t2]) ht,?_⟩;unfold derivedF at h ⊢
  cases hh:highF x with
  | true=>rw[hh,if_pos rfl] at h;cases h
  | false=>
    rw[hh,if_neg (by decide)] at h;rw[if_neg (by decide)];refine ⟨rfl,?_⟩
    cases htl:tooF (derF (knownF s.vars) x) with
    | true=>rw[htl,if_pos rfl] at h;cases h
    | false=>rw[if_neg (by decide)]
 ·rw[if_pos h0] at h;exact absurd h h0
theorem JC2 {s:Sys} {q:Ex} (hc:checkF s=0) (hb:builtF q=true) (ht:typeF (knownF s.vars) q=(0,true)) (hh:highF q=false) :
  (deriveS s q).2=2∨((deriveS s q).2=0∧(deriveS s q).1=derF (knownF s.vars) q):=by
 cases htl:tooF q with
 | true=>
   have hT:typeS s q=(0,2):=by unfold typeS;rw[if_neg (fun k=>k hc),htl,if_pos rfl]
   have hn:numF s q []=2:=by unfold numF;rw[hT,if_pos (by decide)]
   left;unfold deriveS;rw[hn,if_pos (by decide)]
 | false=>
   have hT:typeS s q=(0,0):=by unfold typeS;rw[if_neg (fun k=>k hc),htl,if_neg (by decide),hb,if_neg (by decide),ht,if_pos rfl]
   have hn:numF s q []=0:=by unfold numF;rw[hT,if_neg (by decide),if_neg (by decide)];rfl
   unfold deriveS;rw[hn,if_neg (by decide)];unfold derivedF;rw[hh,if_neg (by decide)]
   cases tooF (derF (knownF s.vars) q) with
   | true=>exact .inl rfl
   | false=>exact .inr ⟨rfl,rfl⟩
theorem JFJ {o:ByteArray} {l:List Ex} (h1:J0z o=(l.length:Int)) (h2:o≠oNum∧o≠oVar∧o≠oPre∧o≠oSample) (h:∀ e∈l,builtF e=true):builtF (opE o l)=true:=by
 rw[J2B];have a:decide (((opE o l).kids.length:Int)=J0z (opE o l).op)=true:=decide_eq_true h1.symm
 have b:textF (opE o l)=true:=by
  unfold textF;rw[if_neg (show ¬ (opE o l).op=oNum from h2.1),if_neg (show ¬ (opE o l).op=oVar from h2.2.1),if_neg (show ¬ (opE o l).op=oPre from h2.2.2.1)];rfl
 have c:J3i (opE o l).op (opE o l).kids ((opE o l).kids.map builtF)=false:=by
  unfold J3i;rw[show decide ((opE o l).op=oSample)=false from decide_eq_false h2.2.2.2,Bool.false_and]
 rw[a,b,c];exact List.all_eq_true.2 h
theorem JGt {o:ByteArray} {l:List Ex} (h2:o≠oVar) (h:∀ e∈l,highF e=false):highF (opE o l)=false:=by
 rw[J9h];have a:decide ((opE o l).op=oVar)=false:=decide_eq_false h2;rw[a,Bool.false_and,Bool.false_or];exact List.any_eq_false.2 fun e he=>by rw[h e he];decide
theorem JHO (ks:List (ByteArray×Va)) {o:ByteArray} (ho:o=oAdd∨o=oSub∨o=oMul∨o=oDiv):J6A ks o ⟨#[]⟩ 0 [(0,true),(0,true)]=(0,true):=by
 rcases ho with rfl | rfl | rfl | rfl
 ·kernel_rfl
 ·kernel_rfl
 ·kernel_rfl
 ·kernel_rfl
theorem JHP (ks:List (ByteArray×Va)):J6A ks oNeg ⟨#[]⟩ 0 [(0,true)]=(0,true):=by kernel_rfl
theorem JDx {s:Sys} {x y:Ex} (hx:(deriveS s x).2=0) (hy:(deriveS s y).2=0) {o:ByteArray} (ho:o=oAdd∨o=oSub∨o=oMul∨o=oDiv) :
  (deriveS s (opE o [x,y])).2=2∨((deriveS s (opE o [x,y])).2=0∧(deriveS s (opE o [x,y])).1=derF (knownF s.vars) (opE o [x,y])):=by
 obtain ⟨hc,bx,tx,hhx,_⟩:=J1C hx;obtain ⟨_,by',ty,hhy,_⟩:=J1C hy;refine JC2 hc ?_ ?_ ?_
 ·refine JFJ ?_ ?_ ?_
  ·rcases ho with rfl | rfl | rfl | rfl
   ·kernel_rfl
   ·kernel_rfl
   ·kernel_rfl
   ·kernel_rfl
  ·rcases ho with rfl | rfl | rfl | rfl<;>decide
  ·simp only[List.forall_mem_cons,List.not_mem_nil,false_imp_iff,implies_true,and_true];exact ⟨bx,by'⟩
 ·have e:typeF (knownF s.vars) (opE o [x,y])=J6A (knownF s.vars) o ⟨#[]⟩ 0 [typeF (knownF s.vars) x,typeF (knownF s.vars) y]:=J2h _ _;rw[e,tx,ty];exact JHO _ ho
 ·refine JGt ?_ ?_
  ·rcases ho with rfl | rfl | rfl | rfl<;>decide
  ·simp only[List.forall_mem_cons,List.not_mem_nil,false_imp_iff,implies_true,and_true];exact ⟨hhx,hhy⟩
theorem JHW {s:Sys} {x:Ex} (hx:(deriveS s x).2=0) :
  (deriveS s (opE oNeg [x])).2=2∨((deriveS s (opE oNeg [x])).2=0∧(deriveS s (opE oNeg [x])).1=derF (knownF s.vars) (opE oNeg [x])):=by
 obtain ⟨hc,bx,tx,hhx,_⟩:=J1C hx;refine JC2 hc ?_ ?_ ?_
 ·refine JFJ (by kernel_rfl) (by decide) ?_;simp only[List.forall_mem_cons,List.not_mem_nil,false_imp_iff,implies_true,and_true];exact bx
 ·have e:typeF (knownF s.vars) (opE oNeg [x])=J6A (knownF s.vars) oNeg ⟨#[]⟩ 0 [typeF (knownF s.vars) x]:=J2h _ _;rw[e,tx];exact JHP _
 ·refine JGt (by decide) ?_;simp only[List.forall_mem_cons,List.not_mem_nil,false_imp_iff,implies_true,and_true];exact hhx
def fromL (x y:Ex):List Ex:=[opE oAdd [x,y],opE oSub [x,y],opE oMul [x,y],opE oDiv [x,y],opE oNeg [x]]
def toL (x y a b:Ex):List Ex:=[opE oAdd [a,b],opE oSub [a,b],opE oAdd [opE oMul [a,y],opE oMul [x,b]],opE oDiv [opE oSub [opE oMul [a,y],opE oMul [x,b]],opE oMul [y,y]],opE oNeg [a]]
theorem JBr {s:Sys} {x y:Ex} (hx:(deriveS s x).2=0) (hy:(deriveS s y).2=0) (i:Nat) (hi:i<5) :
  (deriveS s ((fromL x y).getD i dE)).2=2∨((deriveS s ((fromL x y).getD i dE)).2=0∧(deriveS s ((fromL x y).getD i dE)).1=(toL x y (deriveS s x).1 (deriveS s y).1).getD i dE):=by
 have ex:=(J1C hx).2.2.2.2;have ey:=(J1C hy).2.2.2.2;have d2:∀ {o:ByteArray},derF (knownF s.vars) (opE o [x,y])=derG (knownF s.vars) o ⟨#[]⟩ 0 [x,y] [derF (knownF s.vars) x,derF (knownF s.vars) y]:=J6W _ _
 match i,hi with
 | 0,_=>rcases JDx hx hy (o:=oAdd) (by simp) with h | ⟨h1,h2⟩;exact .inl h;exact .inr ⟨h1,by rw[ex,ey];exact h2.trans d2⟩
 | 1,_=>rcases JDx hx hy (o:=oSub) (by simp) with h | ⟨h1,h2⟩;exact .inl h;exact .inr ⟨h1,by rw[ex,ey];exact h2.trans d2⟩
 | 2,_=>rcases JDx hx hy (o:=oMul) (by simp) with h | ⟨h1,h2⟩;exact .inl h;exact .inr ⟨h1,by rw[ex,ey];exact h2.trans d2⟩
 | 3,_=>rcases JDx hx hy (o:=oDiv) (by simp) with h | ⟨h1,h2⟩;exact .inl h;exact .inr ⟨h1,by rw[ex,ey];exact h2.trans d2⟩
 | 4,_=>rcases JHW hx with h | ⟨h1,h2⟩;exact .inl h;exact .inr ⟨h1,by rw[ex];exact h2.trans (J6W _ _)⟩
def lenV (v:Va):Nat:=v.name.size+v.value.size+v.start.size+v.unit.size
def JAb:List Va→Nat
 | []=>0
 | v::r=>lenV v+JAb r
def greatS (s:Sys):Bool:=decide (40000<JAb s.vars)||decide (200<s.vars.length)||decide (200<s.eqs.length)||decide (200<s.inits.length)||decide (200<s.whens.length)
theorem JDT (s:Sys) (hs:SzS s) (hl:s.vars.length≤2^20):PureCall Tryz.prog 22 [J0T s] (encB (greatS s)):=by
 refine PC [] Tryz.func22 rfl (by rfl) rfl ?_;have ht:=hs.t;generalize hF:greatS s=F;unfold greatS at hF;obtain ⟨vs,qs,ns,ws⟩:=s;simp only at hl ht hF;unfold J0T;simp only;have mv:=@List.length_map _ _ vs encV;have mq:=@List.length_map _ _ qs J0p;have mn:=@List.length_map _ _ ns J0p;have mw:=@List.length_map _ _ ws J1A;obtain ⟨S,hS⟩:∃ z,JAb vs=z:=⟨_,rfl⟩;rw[hS] at hF;refine kWQ ?_;intros
 refine LoopP.intro (fun k σ H=>∃ gs i,∃ t:Nat,k=vs.length-i∧i≤vs.length∧t≤i*2^38∧t+JAb (vs.drop i)=S ∧
   σ=fr [(1,.op 1 gs 0 0),(3,encI t),(4,encI i)] ∧
   H=hp [(1,gs,⟨26,4,[.agg [.sl 7 (vs.map encV),.sl 9 (qs.map J0p),.sl 9 (ns.map J0p),.sl 6 (ws.map J1A)]]⟩)]) ?_ ?_
 ·exact .intro (W.of ⟨_,_,0,0,rfl,Nat.zero_le _,Nat.zero_le _,by rw[Nat.zero_add];exact hS,rfl,rfl⟩ ⟨rfl,rfl,rfl,trivial⟩ ⟨rfl,trivial⟩)
 rintro k σ H ⟨gs,i,t,rfl,hi,htt,hT,rfl,rfl⟩
 rcases Nat.lt_or_ge i vs.length with h1 | h1
 ·rw[List.drop_eq_getElem_cons h1] at hT;have hvi:=ht _ (List.getElem_mem h1);unfold JAb lenV at hT;obtain ⟨q1,q2,q3,q4⟩:=hvi;refine kWQ ?_;intros
  refine .intro <| W.of ⟨_,by omega,gs,i+1,t+(vs[i].name.size+vs[i].value.size+vs[i].start.size+vs[i].unit.size),rfl,h1,by omega,by omega,rfl,rfl⟩ ⟨rfl,?_,rfl,trivial⟩ ⟨rfl,trivial⟩
  exact congrArg encI (by push_cast;omega)
 ·rw[List.drop_eq_nil_of_le h1] at hT;unfold JAb at hT;rw[Nat.add_zero] at hT;subst hT;refine kWO ?_;intros;refine CondP.dec (fun c1=>?_) (fun c1=>?_)<;>refine kW ?_
  ·refine kQ ?_;intros;have e:F=true:=by rw[← hF];simp only[Bool.or_eq_true,decide_eq_true_eq];omega
   exact .of (by rw[e];rfl)
  refine kQ ?_;intros;refine CondP.dec (fun c2=>?_) (fun c2=>?_)<;>refine kW ?_
  ·refine kQ ?_;intros;have e:F=true:=by rw[← hF];simp only[Bool.or_eq_true,decide_eq_true_eq];omega
   exact .of (by rw[e];rfl)
  refine kQ ?_;intros;refine CondP.dec (fun c3=>?_) (fun c3=>?_)<;>refine kW ?_
  ·refine kQ ?_;intros;have e:F=true:=by rw[← hF];simp only[Bool.or_eq_true,decide_eq_true_eq];omega
   exact .of (by rw[e];rfl)
  refine kQ ?_;intros;refine CondP.dec (fun c4=>?_) (fun c4=>?_)<;>refine kW ?_
  ·refine kQ ?_;intros;have e:F=true:=by rw[← hF];simp only[Bool.or_eq_true,decide_eq_true_eq];omega
   exact .of (by rw[e];rfl)
  refine kQ ?_;intros;refine .of ?_;rw[decide_eq_false (by omega),decide_eq_false (by omega),decide_eq_false (by omega),decide_eq_false (by omega)] at hF;simp only[Bool.false_or] at hF;rw[← hF];exact congrArg encB (decide_eq_decide.2 (by omega))
theorem J1f (o:ByteArray) (l:List Ex):PureCall Tryz.prog 24 [encS o,.sl 4 (l.map encE)] (.agg [encS o,encS ⟨#[]⟩,encI 0,.sl 4 (l.map encE)]):=by
 refine PC [] Tryz.func24 rfl (by rfl) rfl ?_;refine kWQ ?_;intros;exact .of rfl
theorem JEM {x y:Ex} (hx:GdE x) (hy:GdE y):∀ e∈fromL x y,GdE e:=by
 have two:∀ {o:ByteArray},o.size≤8→GdE (opE o [x,y]):=fun ho=>J4S ho (by show 2≤100;decide) (by simp only[List.forall_mem_cons,List.not_mem_nil,false_imp_iff,implies_true,and_true];exact ⟨hx,hy⟩);unfold fromL;simp only[List.forall_mem_cons,List.not_mem_nil,false_imp_iff,implies_true,and_true];exact ⟨two (by decide),two (by decide),two (by decide),two (by decide),J4S (by decide) (by show 1≤100;decide) (by simp only[List.forall_mem_cons,List.not_mem_nil,false_imp_iff,implies_true,and_true];exact hx)⟩
theorem J88 (ha:PureCall Tryz.prog 16 [] (encB true)) (s:Sys) (hs:SzS s) (x y:Ex) (gx:GdE x) (gy:GdE y):PureCall Tryz.prog 4 [J0T s,encE x,encE y] (encB true):=by
 refine PC [] Tryz.func4 rfl (by rfl) rfl ?_;have hg:=JDT s hs hs.v20;have h1:=J3E s hs x gx;have h2:=J3E s hs y gy;have hD:=fun q hq=>J3E s hs q hq;have hfg:=JEM gx gy;have hlaw:=@JBr s x y;have hgd:=fun (q:Ex) (hq:GdE q) (h0:(deriveS s q).2=0)=>(show GdE (deriveS s q).1 by rw[(J1C h0).2.2.2.2];exact JCd _ _ hq);have hop:=J1f;generalize greatS s=gr at *;generalize hdx:deriveS s x=dx at *;generalize hdy:deriveS s y=dy at *;obtain ⟨a,e1⟩:=dx;obtain ⟨b,e2⟩:=dy;obtain ⟨vs,qs,ns,ws⟩:=s;unfold J0T at *;rw[J01 x,J01 a] at h1;rw[J01 y,J01 b] at h2;rw[J01 x,J01 y];simp only at h1 h2 hg hlaw hD;clear hs gx gy;refine kWQ ?_;intros;refine CallP.flat [] _ c22 hg rfl ?_
 cases gr with
 | true=>
   refine kWQ ?_;intros;refine CallP.flat [] _ c16 ha rfl ?_;refine kWQ ?_;intros;exact .of rfl
 | false=>
 refine kWQ ?_;intros;refine J00 [] _ c23 h1 ?_;refine kWQ ?_;intros;refine J00 [] _ c23 h2 ?_
 by_cases k1:e1=0
 case' neg=>
  refine kWQ ?_;intros;refine CallP.flat [] _ c16 ha rfl ?_;refine kWQ ?_;intros;exact .of rfl
 by_cases k2:e2=0
 case' neg=>
  refine kWQ ?_;intros;refine CallP.flat [] _ c16 ha rfl ?_;refine kWQ ?_;intros;exact .of rfl
 have hlaw:=hlaw k1 k2;refine kWS ?_;intros;refine J04 (b:=40) _ c24 rfl rfl (Nat.succ_pos 3) (J03 (congrArg (fun z=>[encS oAdd,z]) (J0Y (out:=[x,y]) (by simp only[List.map_cons,List.map_nil,J01,opE,Ex.op,Ex.text,Ex.order,Ex.kids];rfl) rfl)) (hop oAdd [x,y])) ?_;refine kWS ?_;intros;refine J04 (b:=44) _ c24 rfl rfl (Nat.succ_pos 3) (J03 (congrArg (fun z=>[encS oSub,z]) (J0Y (out:=[x,y]) (by simp only[List.map_cons,List.map_nil,J01,opE,Ex.op,Ex.text,Ex.order,Ex.kids];rfl) rfl)) (hop oSub [x,y])) ?_;refine kWS ?_;intros;refine J04 (b:=48) _ c24 rfl rfl (Nat.succ_pos 3) (J03 (congrArg (fun z=>[encS oMul,z]) (J0Y (out:=[x,y]) (by simp only[List.map_cons,List.map_nil,J01,opE,Ex.op,Ex.text,Ex.order,Ex.kids];rfl) rfl)) (hop oMul [x,y])) ?_;refine kWS ?_;intros;refine J04 (b:=52) _ c24 rfl rfl (Nat.succ_pos 3) (J03 (congrArg (fun z=>[encS oDiv,z]) (J0Y (out:=[x,y]) (by simp only[List.map_cons,List.map_nil,J01,opE,Ex.op,Ex.text,Ex.order,Ex.kids];rfl) rfl)) (hop oDiv [x,y])) ?_;refine kWS ?_;intros;refine J04 (b:=55) _ c24 rfl rfl (Nat.succ_pos 3) (J03 (congrArg (fun z=>[encS oNeg,z]) (J0Y (out:=[x]) (by simp only[List.map_cons,List.map_nil,J01,opE,Ex.op,Ex.text,Ex.order,Ex.kids];rfl) rfl)) (hop oNeg [x])) ?_;refine kWS ?_;intros;refine J04 (b:=60) _ c24 rfl rfl (Nat.succ_pos 3) (J03 (congrArg (fun z=>[encS oAdd,z]) (J0Y (out:=[a,b]) (by simp only[List.map_cons,List.map_nil,J01,opE,Ex.op,Ex.text,Ex.order,Ex.kids];rfl) rfl)) (hop oAdd [a,b])) ?_;refine kWS ?_;intros;refine J04 (b:=64) _ c24 rfl rfl (Nat.succ_pos 3) (J03 (congrArg (fun z=>[encS oSub,z]) (J0Y (out:=[a,b]) (by simp only[List.map_cons,List.map_nil,J01,opE,Ex.op,Ex.text,Ex.order,Ex.kids];rfl) rfl)) (hop oSub [a,b])) ?_;refine kWS ?_;intros;refine J04 (b:=68) _ c24 rfl rfl (Nat.succ_pos 3) (J03 (congrArg (fun z=>[encS oMul,z]) (J0Y (out:=[a,y]) (by simp only[List.map_cons,List.map_nil,J01,opE,Ex.op,Ex.text,Ex.order,Ex.kids];rfl) rfl)) (hop oMul [a,y])) ?_;refine kWS ?_;intros;refine J04 (b:=72) _ c24 rfl rfl (Nat.succ_pos 3) (J03 (congrArg (fun z=>[encS oMul,z]) (J0Y (out:=[x,b]) (by simp only[List.map_cons,List.map_nil,J01,opE,Ex.op,Ex.text,Ex.order,Ex.kids];rfl) rfl)) (hop oMul [x,b])) ?_;refine kWS ?_;intros;refine J04 (b:=74) _ c24 rfl rfl (Nat.succ_pos 3) (J03 (congrArg (fun z=>[encS oAdd,z]) (J0Y (out:=[opE oMul [a,y],opE oMul [x,b]]) (by simp only[List.map_cons,List.map_nil,J01,opE,Ex.op,Ex.text,Ex.order,Ex.kids];rfl) rfl)) (hop oAdd [opE oMul [a,y],opE oMul [x,b]])) ?_;refine kWS ?_;intros;refine J04 (b:=78) _ c24 rfl rfl (Nat.succ_pos 3) (J03 (congrArg (fun z=>[encS oMul,z]) (J0Y (out:=[a,y]) (by simp only[List.map_cons,List.map_nil,J01,opE,Ex.op,Ex.text,Ex.order,Ex.kids];rfl) rfl)) (hop oMul [a,y])) ?_;refine kWS ?_;intros;refine J04 (b:=82) _ c24 rfl rfl (Nat.succ_pos 3) (J03 (congrArg (fun z=>[encS oMul,z]) (J0Y (out:=[x,b]) (by simp only[List.map_cons,List.map_nil,J01,opE,Ex.op,Ex.text,Ex.order,Ex.kids];rfl) rfl)) (hop oMul [x,b])) ?_;refine kWS ?_;intros;refine J04 (b:=84) _ c24 rfl rfl (Nat.succ_pos 3) (J03 (congrArg (fun z=>[encS oSub,z]) (J0Y (out:=[opE oMul [a,y],opE oMul [x,b]]) (by simp only[List.map_cons,List.map_nil,J01,opE,Ex.op,Ex.text,Ex.order,Ex.kids];rfl) rfl)) (hop oSub [opE oMul [a,y],opE oMul [x,b]])) ?_;refine kWS ?_;intros;refine J04 (b:=88) _ c24 rfl rfl (Nat.succ_pos 3) (J03 (congrArg (fun z=>[encS oMul,z]) (J0Y (out:=[y,y]) (by simp only[List.map_cons,List.map_nil,J01,opE,Ex.op,Ex.text,Ex.order,Ex.kids];rfl) rfl)) (hop oMul [y,y])) ?_;refine kWS ?_;intros;refine J04 (b:=90) _ c24 rfl rfl (Nat.succ_pos 3) (J03 (congrArg (fun z=>[encS oDiv,z]) (J0Y (out:=[opE oSub [opE oMul [a,y],opE oMul [x,b]],opE oMul [y,y]]) (by simp only[List.map_cons,List.map_nil,J01,opE,Ex.op,Ex.text,Ex.order,Ex.kids];rfl) rfl)) (hop oDiv [opE oSub [opE oMul [a,y],opE oMul [x,b]],opE oMul [y,y]])) ?_;refine kWS ?_;intros;refine J04 (b:=93) _ c24 rfl rfl (Nat.succ_pos 3) (J03 (congrArg (fun z=>[encS oNeg,z]) (J0Y (out:=[a]) (by simp only[List.map_cons,List.map_nil,J01,opE,Ex.op,Ex.text,Ex.order,Ex.kids];rfl) rfl)) (hop oNeg [a])) ?_;refine kWS ?_;intros
 refine LoopP.intro (fun k σ H=>∃ g3 gf gt i,k=5-i∧i≤5∧σ=fr [(3,.op 3 g3 0 0),(11,.own 57 gf 0 5),(12,.own 95 gt 0 5),(13,encI i)] ∧
   H=hp [(3,g3,⟨26,4,[.agg [.sl 7 (vs.map encV),.sl 9 (qs.map J0p),.sl 9 (ns.map J0p),.sl 6 (ws.map J1A)]]⟩),(57,gf,⟨29,4,(fromL x y).map encE⟩),(95,gt,⟨29,4,(toL x y a b).map encE⟩)]) ?_ ?_
 ·refine .intro (W.of ⟨_,_,_,_,0,rfl,by decide,rfl,rfl⟩ ⟨rfl,rfl,rfl,rfl,trivial⟩ ⟨rfl,?_,?_,trivial⟩)
  ·simp only[fromL,List.map_cons,List.map_nil,J01,opE,Ex.op,Ex.text,Ex.order,Ex.kids];rfl
  ·simp only[toL,List.map_cons,List.map_nil,J01,opE,Ex.op,Ex.text,Ex.order,Ex.kids];rfl
 have hf5:(fromL x y).length=5:=rfl;have ht5:(toL x y a b).length=5:=rfl;generalize fromL x y=fl at *;generalize toL x y a b=tl at *;have hmf:=@List.length_map _ _ fl encE;have hmt:=@List.length_map _ _ tl encE;clear h1 h2 hop hg hdx hdy;rintro k σ H ⟨g3,gf,gt,i,rfl,hi,rfl,rfl⟩
 rcases Nat.lt_or_ge i 5 with h9 | h9
 ·have i1:i<fl.length:=by omega
  have i2:i<tl.length:=by omega
  have hl:=hlaw i h9;rw[show fl.getD i dE=fl[i] by rw[List.getD_eq_getElem?_getD,List.getElem?_eq_getElem i1];rfl,show tl.getD i dE=tl[i] by rw[List.getD_eq_getElem?_getD,List.getElem?_eq_getElem i2];rfl] at hl;have hgq:=hfg _ (List.getElem_mem i1);obtain ⟨q,hqq⟩:∃ q,fl[i]=q:=⟨_,rfl⟩;obtain ⟨t,htt⟩:∃ q,tl[i]=q:=⟨_,rfl⟩;rw[hqq] at hl hgq;rw[htt] at hl;have hd:=hD q hgq;have hdg:=hgd q hgq;generalize deriveS ⟨vs,qs,ns,ws⟩ q=dq at *;obtain ⟨d,g⟩:=dq;simp only at hl hd hdg;rw[J01 q,J01 d] at hd;refine kWQ ?_;intros;simp only[hqq,J01];refine kQ ?_;intros;refine CallG.intro _ c23 hd ?_
  rcases hl with rfl | ⟨rfl,rfl⟩
  ·refine kWQ ?_;intros
   exact .intro <| W.of ⟨_,by omega,g3,gf,gt,i+1,rfl,h9,rfl,rfl⟩ ⟨rfl,rfl,rfl,rfl,trivial⟩ ⟨rfl,rfl,rfl,trivial⟩
  ·have hS:=J9z d (hdg rfl).1;rw[J01 d] at hS;refine kWQ ?_;intros;simp only[htt,J01,decide_true];refine kWQ ?_;intros;refine CallG.intro _ c25 hS ?_;refine kWQ ?_;intros
   exact .intro <| W.of ⟨_,by omega,g3,gf,gt,i+1,rfl,h9,rfl,rfl⟩ ⟨rfl,rfl,rfl,rfl,trivial⟩ ⟨rfl,rfl,rfl,trivial⟩
 ·obtain rfl:i=5:=by omega
  refine kWQ ?_;intros;refine CallP.flat [] _ c16 ha rfl ?_;refine kWQ ?_;intros;exact .of rfl
def bX:ByteArray:=⟨#[120]⟩
def bY:ByteArray:=⟨#[121]⟩
def nV (n:ByteArray):Va:=⟨n,0,0,⟨#[]⟩,⟨#[]⟩,false,⟨#[]⟩⟩
def s3:Sys:=⟨[nV bX,nV bY],[],[],[]⟩
def uX:U:=⟨bX,0,false⟩
def uY:U:=⟨bY,0,false⟩
def xy3:Ex:=opE oMul [refE bX 0,refE bY 0]
def xx3:Ex:=opE oMul [refE bX 0,refE bX 0]
theorem szS3:SzS s3:=by
 refine ⟨by decide,by decide,by decide,by decide,by simp[s3],?_,?_,?_,by decide⟩
 ·intro e he;simp only[s3,allF,J1H,List.flatMap_nil,List.append_nil,List.not_mem_nil] at he
 ·intro v hv;simp only[s3,List.mem_cons,List.not_mem_nil,or_false] at hv
  rcases hv with rfl | rfl<;>decide
 ·exact ⟨by simp[s3],by simp[s3],by simp[s3]⟩
theorem J7U (t:ByteArray) (h:t.size≤100):GdE (refE t 0):=J7V (by decide) h (by decide) (by simp)
theorem gxy3:GdE xy3:=J4S (by decide) (by decide) (by simp only[List.forall_mem_cons,List.not_mem_nil,false_imp_iff,implies_true,and_true];exact ⟨J7U _ (by decide),J7U _ (by decide)⟩)
theorem JIx:PureCall Tryz.prog 63 [J0T s3,encE xy3,J1r [uX,uY]] (encI 0):=by
 have:=J1U s3 szS3 xy3 gxy3.1 gxy3.2 [uX,uY] (by decide) (by simp only[List.forall_mem_cons,List.not_mem_nil,false_imp_iff,implies_true,and_true];decide);rw[show numF s3 xy3 [uX,uY]=0 by kernel_rfl] at this;exact this
theorem n_y:PureCall Tryz.prog 63 [J0T s3,encE xy3,J1r [uY]] (encI 0):=by
 have:=J1U s3 szS3 xy3 gxy3.1 gxy3.2 [uY] (by decide) (by simp only[List.forall_mem_cons,List.not_mem_nil,false_imp_iff,implies_true,and_true];decide);rw[show numF s3 xy3 [uY]=0 by kernel_rfl] at this;exact this
def sm3:Ex:=opE oAdd [opE oMul [numE ⟨#[50]⟩,refE bX 0],opE oSub [refE bY 0,numE ⟨#[51]⟩]]
theorem two3 {o:ByteArray} {a b:Ex} (ho:o.size≤8) (ha:GdE a) (hb:GdE b):GdE (opE o [a,b]):=J4S ho (by show 2≤100;decide) (by simp only[List.forall_mem_cons,List.not_mem_nil,false_imp_iff,implies_true,and_true];exact ⟨ha,hb⟩)
theorem JGu (t:ByteArray) (h:t.size≤100):GdE (numE t):=J7V (by decide) h (by decide) (by simp)
theorem gsm3:GdE sm3:=two3 (by decide) (two3 (by decide) (JGu _ (by decide)) (J7U _ (by decide))) (two3 (by decide) (J7U _ (by decide)) (JGu _ (by decide)))
theorem gxx3:GdE xx3:=two3 (by decide) (J7U _ (by decide)) (J7U _ (by decide))
theorem JIz:PureCall Tryz.prog 63 [J0T s3,encE sm3,J1r [uX,uY]] (encI 0):=by
 have:=J1U s3 szS3 sm3 gsm3.1 gsm3.2 [uX,uY] (by decide) (by simp only[List.forall_mem_cons,List.not_mem_nil,false_imp_iff,implies_true,and_true];decide);rw[show numF s3 sm3 [uX,uY]=0 by kernel_rfl] at this;exact this
theorem JIy:PureCall Tryz.prog 63 [J0T s3,encE xx3,J1r []] (encI 0):=by
 have:=J1U s3 szS3 xx3 gxx3.1 gxx3.2 [] (by decide) (by simp);rw[show numF s3 xx3 []=0 by kernel_rfl] at this;exact this
def tab3:Tab:=[(63,[J0T s3,encE xy3,J1r [uX,uY]],encI 0),(63,[J0T s3,encE xy3,J1r [uY]],encI 0),(63,[J0T s3,encE sm3,J1r [uX,uY]],encI 0),(63,[J0T s3,encE xx3,J1r []],encI 0)]
theorem J8T:TabOk XR.E.P tab3:=by
 refine ⟨?_⟩;unfold tab3;simp only[List.forall_mem_cons,List.not_mem_nil,false_imp_iff,implies_true,and_true];exact ⟨⟨c63,JIx,rfl⟩,⟨c63,n_y,rfl⟩,⟨c63,JIz,rfl⟩,⟨c63,JIy,rfl⟩⟩
theorem zlk {n:Int} (h:Nat.blt (zl n) (2 ^ 36)=true):zl n<2 ^ 36:=Nat.le_of_ble_eq_true h
theorem JGX:zl 1<2 ^ 36:=zlk (by kernel_rfl)
theorem p_3 (c:UInt8) (n:Int) (h:J0D [c]=(some (n,1),true)):PureCall Tryz.prog 134 [encS ⟨#[c]⟩] (.tup [encQ n 1,encB true]):=by
 have:=J2E [c] (Nat.lt_of_le_of_lt (Nat.le_refl 1) (by decide));rw[h] at this;exact this
theorem JHR (n:Int) (hn:zl n<2 ^ 36) (b:List Nat) (h:qT n 1=b):PureCall Tryz.prog 150 [encQ n 1] (encT b):=by
 have:=J62 n 1 hn JGX;rw[h] at this;exact this
theorem JHS (n:Int) (hn:zl n<2 ^ 36) (h:(decide (nd n≤300)&&decide (nd 1≤300))=true):PureCall Tryz.prog 151 [encQ n 1] (encB true):=by
 have:=J87 n 1 hn JGX;rw[h] at this;exact this
def env3:EnvA:=⟨⟨#[48]⟩,false,[]⟩
theorem JIw:PureCall Tryz.prog 67 [J2w env3] (.tup [JCY ⟨0,false,[]⟩,encI 0]):=by
 have:=JEv env3 ⟨by decide,by simp[env3],by simp[env3]⟩;rw[show JH0 (JE3 env3)=.tup [JCY ⟨0,false,[]⟩,encI 0] by kernel_rfl] at this;exact this
def JGf:Tab:=[(67,[J2w env3],.tup [JCY ⟨0,false,[]⟩,encI 0]),(134,[encS ⟨#[48]⟩],.tup [encQ 0 1,encB true]),(134,[encS ⟨#[50]⟩],.tup [encQ 2 1,encB true]),(134,[encS ⟨#[51]⟩],.tup [encQ 3 1,encB true]),
 (150,[encQ 2 1],encT [50]),(150,[encQ 1 1],encT [49]),(150,[encQ (-3) 1],encT [45,51]),
 (151,[encQ 2 1],encB true),(151,[encQ 1 1],encB true),(151,[encQ (-3) 1],encB true)]
theorem J6C:TabOk2 XR.E.P JGf:=by
 refine ⟨?_⟩;unfold JGf;simp only[List.forall_mem_cons,List.not_mem_nil,false_imp_iff,implies_true,and_true]
 exact ⟨⟨c67,JIw⟩,⟨c134,p_3 48 0 (by kernel_rfl)⟩,⟨c134,p_3 50 2 (by kernel_rfl)⟩,⟨c134,p_3 51 3 (by kernel_rfl)⟩,
  ⟨c150,JHR 2 (zlk (by kernel_rfl)) _ (by kernel_rfl)⟩,⟨c150,JHR 1 (zlk (by kernel_rfl)) _ (by kernel_rfl)⟩,⟨c150,JHR (-3) (zlk (by kernel_rfl)) _ (by kernel_rfl)⟩,
  ⟨c151,JHS 2 (zlk (by kernel_rfl)) (by kernel_rfl)⟩,⟨c151,JHS 1 (zlk (by kernel_rfl)) (by kernel_rfl)⟩,⟨c151,JHS (-3) (zlk (by kernel_rfl)) (by kernel_rfl)⟩⟩
theorem il1:PureCall Tryz.prog 17 [J0T s3,encE xy3,J1r [uX,uY]] (.tup [encB false,encI 0]):=J2Z J82 J8T J6C (fuel:=300) (n:=60) (by kernel_rfl)
theorem il2:PureCall Tryz.prog 17 [J0T s3,encE xy3,J1r [uY]] (.tup [encB true,encI 0]):=J2Z J82 J8T J6C (fuel:=300) (n:=60) (by kernel_rfl)
theorem row1:PureCall Tryz.prog 19 [J0T s3,encE sm3,J1r [uX,uY],J2w env3] (.tup [.sl 1 [encS ⟨#[50]⟩,encS ⟨#[49]⟩],encS ⟨#[45,51]⟩,encI 0]):=J2Z J82 J8T J6C (fuel:=300) (n:=60) (by kernel_rfl)
def wt3:Ex:=opE oAdd [opE oMul [refE bX 1,refE bX 0],opE oMul [refE bX 0,refE bX 1]]
theorem dr1:PureCall Tryz.prog 23 [J0T s3,encE xx3] (.tup [encE wt3,encI 0]):=by
 have:=J3E s3 szS3 xx3 gxx3;rw[show deriveS s3 xx3=(wt3,0) by kernel_rfl] at this;exact this
theorem tx1:PureCall Tryz.prog 21 [.sl 1 [encS ⟨#[50]⟩,encS ⟨#[49]⟩],.sl 1 [encS ⟨#[50]⟩,encS ⟨#[49]⟩]] (encB true):=J1y J82 (fuel:=50) (n:=5) (by kernel_rfl)
theorem J9U (s:ByteArray):PureCall Tryz.prog 61 [encS s] (encE (numE s)):=by
 refine J2D (r:=.agg [encS ⟨#[110,117,109]⟩,encS s,encI 0,.val (.slice none 0 0)]) ?_ 3 ?_
 ·refine PC [] Tryz.func61 rfl (by rfl) rfl ?_;refine kWQ ?_;intros;exact .of rfl
 ·rw[J01];simp[leN,allB,valB,encS,encI,numE,oNum,oVar,Ex.op,Ex.text,Ex.order,Ex.kids]
theorem J11 (s:ByteArray) (n:Int):PureCall Tryz.prog 62 [encS s,encI n] (encE (refE s n)):=by
 refine J2D (r:=.agg [encS ⟨#[118,97,114]⟩,encS s,encI n,.val (.slice none 0 0)]) ?_ 3 ?_
 ·refine PC [] Tryz.func62 rfl (by rfl) rfl ?_;refine kWQ ?_;intros;exact .of rfl
 ·rw[J01];simp[leN,allB,valB,encS,encI,refE,oNum,oVar,Ex.op,Ex.text,Ex.order,Ex.kids]
theorem J70 {S:List Nat} {H:Hp} {n b g off len:Nat} {B:Blk} (hS:b∈S) (hb:H b=some (g,B)) (hl:off+len≤B.xs.length):J07 S H (n+1) (.own b g off len)=.sl B.n (((B.xs.drop off).take len).map (J0R (J07 S H n))):=by
 simp only[J07,if_pos hS,hb,true_and,if_pos hl]
abbrev sN:AV:=.agg [.sl 7 [encV (nV bX),encV (nV bY)],.val (.slice none 0 0),.val (.slice none 0 0),.val (.slice none 0 0)]
theorem JFv:Le sN (J0T s3):=by
 have h:=Le.cons (Le.refl (AV.sl 7 [encV (nV bX),encV (nV bY)])) (Le.cons (Le.nil 9) (Le.cons (Le.nil 9) (Le.cons (Le.nil 6) J5D)));exact Le.agg h.1 h.2
theorem row2:PureCall Tryz.prog 19 [sN,encE sm3,J1r [uX,uY],.agg [encS ⟨#[48]⟩,encB false,.val (.slice none 0 0)]] (.tup [.sl 1 [encS ⟨#[50]⟩,encS ⟨#[49]⟩],encS ⟨#[45,51]⟩,encI 0]):=by
 refine J6G row1 ⟨rfl,fun i h h'=>?_⟩
 match i,h with
 | 0,_=>exact JFv
 | 1,_=>exact Le.refl _
 | 2,_=>exact Le.refl _
 | 3,_=>
   have h:=Le.cons (Le.refl (encS ⟨#[48]⟩)) (Le.cons (Le.refl (encB false)) (Le.cons (Le.nil 4) J5D));exact Le.agg h.1 h.2
theorem JGq {f:Nat} {b c r:AV} (h:PureCall Tryz.prog f [J0T s3,b,c] r):PureCall Tryz.prog f [sN,b,c] r:=by
 refine J6G h ⟨rfl,fun i h h'=>?_⟩
 match i,h with
 | 0,_=>exact JFv
 | 1,_=>exact Le.refl _
 | 2,_=>exact Le.refl _
theorem JHf {f:Nat} {b r:AV} (h:PureCall Tryz.prog f [J0T s3,b] r):PureCall Tryz.prog f [sN,b] r:=by
 refine J6G h ⟨rfl,fun i h h'=>?_⟩
 match i,h with
 | 0,_=>exact JFv
 | 1,_=>exact Le.refl _
theorem gwt3:GdE wt3:=two3 (by decide) (two3 (by decide) (J7V (by decide) (by decide) (by decide) (by simp)) (J7U _ (by decide))) (two3 (by decide) (J7U _ (by decide)) (J7V (by decide) (by decide) (by decide) (by simp)))
theorem JAu:PureCall Tryz.prog 16 [] (encB true):=by
 refine PC [] Tryz.func16 rfl (by rfl) rfl ?_;refine kX ?_;(refine kZ ?_;repeat intro γ);refine J0e ?_;refine kX ?_;(refine kZ ?_;repeat intro γ);refine J0e ?_;refine kX ?_;(refine kZ ?_;repeat intro γ)
 rename Nat=>γ1
 refine J0W (JHp [17] 1 γ1 _ rfl (by decide) (W.of (l:=[(0,encB false),(1,.op 1 γ1 0 0)]) (m:=[(1,γ1,⟨26,4,[sN]⟩)]) ?_ ⟨rfl,rfl,trivial⟩ ⟨?_,trivial⟩))
 rotate_left
 ·refine congrArg (fun z=>some (γ1,(⟨26,4,[.agg [z,.val (.slice none 0 0),.val (.slice none 0 0),.val (.slice none 0 0)]]⟩:Blk))) ?_;exact (J70 (B:=⟨89,7,[encV (nV bX),encV (nV bY)]⟩) (by decide) rfl (by decide)).trans rfl
 refine kX ?_;(refine kZ ?_;repeat intro γ);refine J0W (JEr 2 21 (y:=J1r [uX,uY]) rfl ?_ (W.of (l:=[(0,encB false),(1,.op 1 γ1 0 0),(2,J1r [uX,uY])]) (m:=[(1,γ1,⟨26,4,[sN]⟩)]) ?_ ⟨rfl,rfl,rfl,trivial⟩ ⟨rfl,trivial⟩))
 ·exact (J70 (B:=⟨54,3,[encU uX,encU uY]⟩) (by decide) rfl (by decide)).trans rfl
 refine kX ?_;(refine kZ ?_;repeat intro γ);refine J0e ?_;refine kX ?_;(refine kZ ?_;repeat intro γ);refine CallG.intro _ c61 (by have:=J9U ⟨#[50]⟩;rw[J01] at this;exact this) ?_;refine kX ?_;(refine kZ ?_;repeat intro γ);refine CallG.intro _ c62 (by have:=J11 bX 0;rw[J01] at this;exact this) ?_;refine kX ?_;(refine kZ ?_;repeat intro γ);refine J04 (b:=27) _ c24 rfl rfl (Nat.succ_pos 3) (J03 (congrArg (fun z=>[encS oMul,z]) (J0Y (out:=[numE ⟨#[50]⟩,refE bX 0]) (by simp only[List.map_cons,List.map_nil,J01,opE,refE,numE,Ex.op,Ex.text,Ex.order,Ex.kids];rfl) rfl)) (J1f oMul [numE ⟨#[50]⟩,refE bX 0])) ?_;refine kX ?_;(refine kZ ?_;repeat intro γ);refine CallG.intro _ c62 (by have:=J11 bY 0;rw[J01] at this;exact this) ?_;refine kX ?_;(refine kZ ?_;repeat intro γ);refine CallG.intro _ c61 (by have:=J9U ⟨#[51]⟩;rw[J01] at this;exact this) ?_;refine kX ?_;(refine kZ ?_;repeat intro γ);refine J04 (b:=31) _ c24 rfl rfl (Nat.succ_pos 3) (J03 (congrArg (fun z=>[encS oSub,z]) (J0Y (out:=[refE bY 0,numE ⟨#[51]⟩]) (by simp only[List.map_cons,List.map_nil,J01,opE,refE,numE,Ex.op,Ex.text,Ex.order,Ex.kids];rfl) rfl)) (J1f oSub [refE bY 0,numE ⟨#[51]⟩])) ?_;refine kX ?_;(refine kZ ?_;repeat intro γ);refine J04 (b:=33) _ c24 rfl rfl (Nat.succ_pos 3) (J03 (congrArg (fun z=>[encS oAdd,z]) (J0Y (out:=[opE oMul [numE ⟨#[50]⟩,refE bX 0],opE oSub [refE bY 0,numE ⟨#[51]⟩]]) (by simp only[List.map_cons,List.map_nil,J01,opE,refE,numE,Ex.op,Ex.text,Ex.order,Ex.kids];rfl) rfl)) (J1f oAdd [opE oMul [numE ⟨#[50]⟩,refE bX 0],opE oSub [refE bY 0,numE ⟨#[51]⟩]])) ?_;refine kX ?_;(refine kZ ?_;repeat intro γ);refine CallG.intro _ c19 (by have:=row2;simp only[sm3,xx3,xy3,wt3,J01,opE,refE,numE,Ex.op,Ex.text,Ex.order,Ex.kids,List.map_cons,List.map_nil] at this;exact this) ?_;refine kX ?_;(refine kZ ?_;repeat intro γ);refine J0e ?_;refine kX ?_;(refine kZ ?_;repeat intro γ);refine J00 [] _ c62 (by have:=J11 bX 0;rw[J01] at this;exact this) ?_;refine kX ?_;(refine kZ ?_;repeat intro γ);refine J00 [] _ c62 (by have:=J11 bY 0;rw[J01] at this;exact this) ?_;refine kX ?_;(refine kZ ?_;repeat intro γ);refine J00 [43] _ c24 (J03 (congrArg (fun z=>[encS oMul,z]) (J0Y (out:=[refE bX 0,refE bY 0]) (by simp only[List.map_cons,List.map_nil,J01,opE,refE,numE,Ex.op,Ex.text,Ex.order,Ex.kids];rfl) rfl)) (J1f oMul [refE bX 0,refE bY 0])) ?_;refine kX ?_;(refine kZ ?_;repeat intro γ);refine J0e ?_;refine kX ?_;(refine kZ ?_;repeat intro γ);refine J00 [] _ c17 (by have:=JGq il1;simp only[sm3,xx3,xy3,wt3,J01,opE,refE,numE,Ex.op,Ex.text,Ex.order,Ex.kids,List.map_cons,List.map_nil] at this;exact this) ?_;refine kX ?_;(refine kZ ?_;repeat intro γ);refine J0e ?_;refine kX ?_;(refine kZ ?_;repeat intro γ);refine CallG.intro _ c17 (by have:=JGq il2;simp only[sm3,xx3,xy3,wt3,J01,opE,refE,numE,Ex.op,Ex.text,Ex.order,Ex.kids,List.map_cons,List.map_nil] at this;exact this) ?_;refine kX ?_;(refine kZ ?_;repeat intro γ);refine J0e ?_;refine kX ?_;(refine kZ ?_;repeat intro γ);refine CallG.intro _ c62 (by have:=J11 bX 0;rw[J01] at this;exact this) ?_;refine kX ?_;(refine kZ ?_;repeat intro γ);refine CallG.intro _ c62 (by have:=J11 bX 0;rw[J01] at this;exact this) ?_;refine kX ?_;(refine kZ ?_;repeat intro γ);refine J04 (b:=64) _ c24 rfl rfl (Nat.succ_pos 3) (J03 (congrArg (fun z=>[encS oMul,z]) (J0Y (out:=[refE bX 0,refE bX 0]) (by simp only[List.map_cons,List.map_nil,J01,opE,refE,numE,Ex.op,Ex.text,Ex.order,Ex.kids];rfl) rfl)) (J1f oMul [refE bX 0,refE bX 0])) ?_;refine kX ?_;(refine kZ ?_;repeat intro γ);refine CallG.intro _ c23 (by have:=JHf dr1;simp only[sm3,xx3,xy3,wt3,J01,opE,refE,numE,Ex.op,Ex.text,Ex.order,Ex.kids,List.map_cons,List.map_nil] at this;exact this) ?_;refine kX ?_;(refine kZ ?_;repeat intro γ);refine J0e ?_;refine kX ?_;(refine kZ ?_;repeat intro γ);refine J00 [] _ c62 (by have:=J11 bX 1;rw[J01] at this;exact this) ?_;refine kX ?_;(refine kZ ?_;repeat intro γ);refine J00 [] _ c62 (by have:=J11 bX 0;rw[J01] at this;exact this) ?_;refine kX ?_;(refine kZ ?_;repeat intro γ);refine J00 [71] _ c24 (J03 (congrArg (fun z=>[encS oMul,z]) (J0Y (out:=[refE bX 1,refE bX 0]) (by simp only[List.map_cons,List.map_nil,J01,opE,refE,numE,Ex.op,Ex.text,Ex.order,Ex.kids];rfl) rfl)) (J1f oMul [refE bX 1,refE bX 0])) ?_;refine kX ?_;(refine kZ ?_;repeat intro γ);refine J00 [] _ c62 (by have:=J11 bX 0;rw[J01] at this;exact this) ?_;refine kX ?_;(refine kZ ?_;repeat intro γ);refine J00 [] _ c62 (by have:=J11 bX 1;rw[J01] at this;exact this) ?_;refine kX ?_;(refine kZ ?_;repeat intro γ);refine J00 [75] _ c24 (J03 (congrArg (fun z=>[encS oMul,z]) (J0Y (out:=[refE bX 0,refE bX 1]) (by simp only[List.map_cons,List.map_nil,J01,opE,refE,numE,Ex.op,Ex.text,Ex.order,Ex.kids];rfl) rfl)) (J1f oMul [refE bX 0,refE bX 1])) ?_;refine kX ?_;(refine kZ ?_;repeat intro γ);refine J00 [77] _ c24 (J03 (congrArg (fun z=>[encS oAdd,z]) (J0Y (out:=[opE oMul [refE bX 1,refE bX 0],opE oMul [refE bX 0,refE bX 1]]) (by simp only[List.map_cons,List.map_nil,J01,opE,refE,numE,Ex.op,Ex.text,Ex.order,Ex.kids];rfl) rfl)) (J1f oAdd [opE oMul [refE bX 1,refE bX 0],opE oMul [refE bX 0,refE bX 1]])) ?_;refine kX ?_;(refine kZ ?_;repeat intro γ);refine J0e ?_;refine kX ?_;(refine kZ ?_;repeat intro γ);refine CallP.flat [80] _ c21 (J03 ?_ tx1) rfl ?_
 ·show [_,snap [80] _ (.own 80 _ 0 2)]=_
  rw[J3r (B:=⟨9,1,[encS ⟨#[50]⟩,encS ⟨#[49]⟩]⟩) (by decide) rfl (by decide)];rfl
 refine kX ?_;(refine kZ ?_;repeat intro γ);refine CallP.flat [] _ c25 (by have:=J9z wt3 gwt3.1;simp only[sm3,xx3,xy3,wt3,J01,opE,refE,numE,Ex.op,Ex.text,Ex.order,Ex.kids,List.map_cons,List.map_nil] at this;exact this) rfl ?_;refine kX ?_;(refine kZ ?_;repeat intro γ);exact .of rfl
theorem OpenB.low {H:Type} {L:DataW H→Prop} {N M:Nat} {enc:TypeId×Value→H} {P:Program} {w:World} {t:Nat} {Ψ:List AV→Prop} (h:OpenB L M enc P w t Ψ) (hn:N≤M):OpenB L N enc P w t Ψ:=fun fuel hf=>h fuel (Nat.le_trans hf hn)
theorem J1u {t e:Nat} {d:Fw.TD} (hd:T t=some d) (hk:d.kind=.slice e):Tryz.prog.underlying t=some (.slice e):=by
 obtain ⟨u,hu,hr⟩:=(J0O (J44 _ _ hd)).und;rw[hk] at hr;cases u<;>simp[kdOf] at hr
 subst hr;exact hu
theorem u3:Tryz.prog.underlying 3=some (.int .i64):=by kernel_rfl
theorem u4:Tryz.prog.underlying 4=some .bool:=by kernel_rfl
theorem u9:Tryz.prog.underlying 9=some .string:=by kernel_rfl
section
variable {H:Type} {enc:TypeId×Value→H} {w:World} {L:DataW H→Prop} {B0:Nat}
abbrev pS (B0:Nat):List AV→Prop:=fun z=>∃ s:ByteArray,z=[AV.val (.string s)]∧s.size≤B0
abbrev pI:List AV→Prop:=fun z=>∃ n:Int,z=[AV.val (.int .i64 n)]
abbrev pB:List AV→Prop:=fun z=>∃ b:Bool,z=[AV.val (.bool b)]
def J8D (e:Ex):Prop:=SzE e∧TxE e
abbrev pExp (w:World):List AV→Prop:=fun z=>∃ e:Ex,z=(encE e).cells∧J8D e
theorem J8d (hL:LB L B0) (hB:B0<2^21):∀ N:Nat,OpenB L N enc Tryz.prog w 29 (pExp w)
 | 0=>by
   intro fuel hf cs x h _;obtain ⟨fs,hu,_⟩:=J0V (J44 29 _ rfl) rfl;obtain ⟨_,n,hn,_⟩:=DataW.trod_struct hu h;omega
 | N + 1=>by
   obtain ⟨fs,hu,hf⟩:=J0V (J44 29 _ rfl) rfl;have hk:=OpenB.low (J1F (n:=4) (f:=encE) (Φ:=J8D) hL (J1u (t:=27) (e:=29) rfl rfl) (by kernel_rfl) (by decide) (J8d hL hB N)) (Nat.le_succ N)
   refine (J0j hL hu [(0,9,1,pS B0),(1,9,1,pS B0),(2,3,1,pI),(3,27,1,_)] hf (by
    intro p hp;simp only[List.mem_cons,List.not_mem_nil,or_false] at hp
    rcases hp with rfl | rfl | rfl | rfl<;>kernel_rfl) (by kernel_rfl) (by
    intro p hp;simp only[List.mem_cons,List.not_mem_nil,or_false] at hp
    rcases hp with rfl | rfl | rfl | rfl
    ·exact J0s hL u9
    ·exact J0s hL u9
    ·exact J2m u3
    ·exact hk)).mono ?_
   rintro z ⟨zs,rfl,h⟩
   match zs,h with
   | [z0,z1,z2,z3],⟨⟨o,h0,ho⟩,⟨t,h1,ht⟩,⟨n,h2⟩,⟨l,h3,hl,hg⟩,_⟩=>
     subst h0 h1 h2 h3;refine ⟨.mk o t n l,?_,SzE.mk (by omega) (by omega) (by omega) fun k hk=>(hg k hk).1,TxE.mk (by omega) fun k hk=>(hg k hk).2⟩;rw[J01];rfl
theorem JGl (hL:LB L B0) (hB:B0<2^21) (N:Nat):OpenB L (N+1) enc Tryz.prog w 58 fun z=>∃ q:Eqn,z=(J0p q).cells∧q.name.size≤B0∧J8D q.left∧J8D q.right:=by
 obtain ⟨fs,hu,hf⟩:=J0V (J44 58 _ rfl) rfl
 refine (J0j hL hu [(0,9,1,pS B0),(1,29,4,pExp w),(5,29,4,pExp w)] hf (by
  intro p hp;simp only[List.mem_cons,List.not_mem_nil,or_false] at hp
  rcases hp with rfl | rfl | rfl<;>kernel_rfl) (by kernel_rfl) (by
  intro p hp;simp only[List.mem_cons,List.not_mem_nil,or_false] at hp
  rcases hp with rfl | rfl | rfl
  ·exact J0s hL u9
  ·exact J8d hL hB N
  ·exact J8d hL hB N)).mono ?_
 rintro z ⟨zs,rfl,h⟩
 match zs,h with
 | [z0,z1,z2],⟨⟨s,h0,hs⟩,⟨a,h1,ha⟩,⟨b,h2,hb⟩,_⟩=>
   subst h0 h1 h2;refine ⟨⟨s,a,b⟩,?_,hs,ha,hb⟩;rw[J0L,J0L];rfl
theorem JGm (hL:LB L B0) (hB:B0<2^21) (N:Nat):OpenB L (N+1) enc Tryz.prog w 260 fun z=>∃ a:Ac,z=(JCZ a).cells∧J8D a.value:=by
 obtain ⟨fs,hu,hf⟩:=J0V (J44 260 _ rfl) rfl
 refine (J0j hL hu [(0,3,1,pI),(1,9,1,pS B0),(2,29,4,pExp w)] hf (by
  intro p hp;simp only[List.mem_cons,List.not_mem_nil,or_false] at hp
  rcases hp with rfl | rfl | rfl<;>kernel_rfl) (by kernel_rfl) (by
  intro p hp;simp only[List.mem_cons,List.not_mem_nil,or_false] at hp
  rcases hp with rfl | rfl | rfl
  ·exact J2m u3
  ·exact J0s hL u9
  ·exact J8d hL hB N)).mono ?_
 rintro z ⟨zs,rfl,h⟩
 match zs,h with
 | [z0,z1,z2],⟨⟨n,h0⟩,⟨s,h1,hs⟩,⟨b,h2,hb⟩,_⟩=>
   subst h0 h1 h2;refine ⟨⟨n,s,b⟩,?_,hb⟩;rw[J0L];rfl
theorem JGi (hL:LB L B0) (hB:B0<2^21) (N:Nat):OpenB L (N+3) enc Tryz.prog w 228 fun z=>∃ a:Whn,z=(J1A a).cells∧a.name.size≤B0∧a.acts.length≤B0∧J8D a.cond∧∀ x∈a.acts,J8D x.value:=by
 obtain ⟨fs,hu,hf⟩:=J0V (J44 228 _ rfl) rfl;have hk:=J1F (n:=6) (f:=JCZ) (Φ:=fun a=>J8D a.value) hL (J1u (t:=226) (e:=260) rfl rfl) (by kernel_rfl) (by decide) (JGm (enc:=enc) (w:=w) hL hB N)
 refine (J0j hL hu [(0,9,1,pS B0),(1,29,4,pExp w),(5,226,1,_)] hf (by
  intro p hp;simp only[List.mem_cons,List.not_mem_nil,or_false] at hp
  rcases hp with rfl | rfl | rfl<;>kernel_rfl) (by kernel_rfl) (by
  intro p hp;simp only[List.mem_cons,List.not_mem_nil,or_false] at hp
  rcases hp with rfl | rfl | rfl
  ·exact J0s hL u9
  ·exact J8d hL hB _
  ·exact hk)).mono ?_
 rintro z ⟨zs,rfl,h⟩
 match zs,h with
 | [z0,z1,z2],⟨⟨s,h0,hs⟩,⟨a,h1,ha⟩,⟨l,h2,hl,hb⟩,_⟩=>
   subst h0 h1 h2;refine ⟨⟨s,a,l⟩,?_,hs,hl,ha,hb⟩;rw[J0L];rfl
theorem JGj (hL:LB L B0) (N:Nat):OpenB L (N+1) enc Tryz.prog w 89 fun z=>∃ v:Va,z=(encV v).cells∧v.name.size≤B0∧v.value.size≤B0∧v.start.size≤B0∧v.unit.size≤B0:=by
 obtain ⟨fs,hu,hf⟩:=J0V (J44 89 _ rfl) rfl
 refine (J0j hL hu [(0,9,1,pS B0),(1,3,1,pI),(2,3,1,pI),(3,9,1,pS B0),(4,9,1,pS B0),(5,4,1,pB),(6,9,1,pS B0)] hf (by
  intro p hp;simp only[List.mem_cons,List.not_mem_nil,or_false] at hp
  rcases hp with rfl | rfl | rfl | rfl | rfl | rfl | rfl<;>kernel_rfl) (by kernel_rfl) (by
  intro p hp;simp only[List.mem_cons,List.not_mem_nil,or_false] at hp
  rcases hp with rfl | rfl | rfl | rfl | rfl | rfl | rfl
  ·exact J0s hL u9
  ·exact J2m u3
  ·exact J2m u3
  ·exact J0s hL u9
  ·exact J0s hL u9
  ·exact JAX u4
  ·exact J0s hL u9)).mono ?_
 rintro z ⟨zs,rfl,h⟩
 match zs,h with
 | [z0,z1,z2,z3,z4,z5,z6],⟨⟨a,h0,g0⟩,⟨b,h1⟩,⟨c,h2⟩,⟨d,h3,g3⟩,⟨e,h4,g4⟩,⟨f,h5⟩,⟨g,h6,g6⟩,_⟩=>
   subst h0 h1 h2 h3 h4 h5 h6;exact ⟨⟨a,b,c,d,e,f,g⟩,rfl,g0,g3,g4,g6⟩
theorem JGk (hL:LB L B0) (hB:B0≤2^20) (N:Nat):OpenB L (N+5) enc Tryz.prog w 26 fun z=>∃ s:Sys,z=(J0T s).cells∧SzS s:=by
 obtain ⟨fs,hu,hf⟩:=J0V (J44 26 _ rfl) rfl;have hB':B0<2^21:=by omega
 have k1:=OpenB.low (J1F (n:=7) (f:=encV) hL (J1u (t:=22) (e:=89) rfl rfl) (by kernel_rfl) (by decide) (JGj (enc:=enc) (w:=w) hL (N+2))) (N:=N+4) (by omega);have k2:=OpenB.low (J1F (n:=9) (f:=J0p) hL (J1u (t:=23) (e:=58) rfl rfl) (by kernel_rfl) (by decide) (JGl (enc:=enc) (w:=w) hL hB' (N+2))) (N:=N+4) (by omega);have k3:=OpenB.low (J1F (n:=6) (f:=J1A) hL (J1u (t:=24) (e:=228) rfl rfl) (by kernel_rfl) (by decide) (JGi (enc:=enc) (w:=w) hL hB' N)) (N:=N+4) (by omega)
 refine (J0j hL hu [(0,22,1,_),(1,23,1,_),(2,23,1,_),(3,24,1,_)] hf (by
  intro p hp;simp only[List.mem_cons,List.not_mem_nil,or_false] at hp
  rcases hp with rfl | rfl | rfl | rfl<;>kernel_rfl) (by kernel_rfl) (by
  intro p hp;simp only[List.mem_cons,List.not_mem_nil,or_false] at hp
  rcases hp with rfl | rfl | rfl | rfl
  ·exact k1
  ·exact k2
  ·exact k2
  ·exact k3)).mono ?_
 rintro z ⟨zs,rfl,h⟩
 match zs,h with
 | [z0,z1,z2,z3],⟨⟨vs,h0,l0,g0⟩,⟨qs,h1,l1,g1⟩,⟨ns,h2,l2,g2⟩,⟨ws,h3,l3,g3⟩,_⟩=>
   subst h0 h1 h2 h3;refine ⟨⟨vs,qs,ns,ws⟩,rfl,⟨by simp only;omega,by simp only;omega,by simp only;omega,by simp only;omega,fun w hw=>?_,fun e he=>?_,fun v hv=>?_,⟨fun q hq=>?_,fun q hq=>?_,fun w hw=>?_⟩,by simp only;omega⟩⟩
   ·have:=(g3 w hw).2.1;omega
   ·unfold allF at he
    rcases List.mem_append.1 he with he | he
    ·rcases List.mem_append.1 he with he | he
     ·unfold J1H at he;obtain ⟨q,hq,he⟩:=List.mem_flatMap.1 he;simp only[List.mem_cons,List.not_mem_nil,or_false] at he
      rcases he with rfl | rfl
      ·exact (g1 q hq).2.1
      ·exact (g1 q hq).2.2
     ·unfold J1H at he;obtain ⟨q,hq,he⟩:=List.mem_flatMap.1 he;simp only[List.mem_cons,List.not_mem_nil,or_false] at he
      rcases he with rfl | rfl
      ·exact (g2 q hq).2.1
      ·exact (g2 q hq).2.2
    ·obtain ⟨x,hx,he⟩:=List.mem_flatMap.1 he;unfold J47 at he
     rcases List.mem_cons.1 he with rfl | he
     ·exact (g3 x hx).2.2.1
     ·obtain ⟨a,ha,rfl⟩:=List.mem_map.1 he;exact (g3 x hx).2.2.2 a ha
   ·have:=g0 v hv;exact ⟨by omega,by omega,by omega,by omega⟩
   ·have:=(g1 q hq).1;omega
   ·have:=(g2 q hq).1;omega
   ·have:=(g3 w hw).1;omega
end
theorem J80 (e:Ex):AV.agg (encE e).cells=encE e:=by rw[J0L];rfl
end Go.Proofs.YtlblbldolhiokaaGreatDoor
namespace Go.Proofs.YtlblbldolhiokaaGreatDoor
open Go Go.Fw Go.ChangeShapes Go.WideShapes Go.ChangeAt Go.RowKit
theorem JE2:ownKnob Tryz.prog.godebug=none:=by kernel_rfl
theorem J3u:laidOutB Tryz.prog=true:=by kernel_rfl
section
variable {H:Type}
theorem JHo (d:DataW H):1≤Rows.uptoBulk d:=by
 cases d with
 | lit l=>cases l<;>simp[Rows.uptoBulk]
 | _=>simp[Rows.uptoBulk]
theorem J59 {d:DataW H} {l:List (DataW H)} (h:d∈l):Rows.uptoBulk d≤Rows.uptoBulkAll l:=by
 induction l with
 | nil=>cases h
 | cons x r ih=>
   simp only[Rows.uptoBulkAll]
   cases List.mem_cons.1 h with
   | inl e=>subst e;omega
   | inr e=>have:=ih e;omega
theorem JEn (l:List (DataW H)):l.length≤Rows.uptoBulkAll l:=by
 induction l with
 | nil=>simp[Rows.uptoBulkAll]
 | cons x r ih=>have:=JHo x;simp only[Rows.uptoBulkAll,List.length_cons];omega
abbrev Blk (H:Type):DataW H→Prop:=fun d=>Rows.uptoBulk d≤1048576
theorem JDF:LB (Blk H) 1048576:=by
 refine ⟨fun e s h=>?_,fun p h d hd=>?_,fun s h=>?_⟩
 ·have h:Rows.uptoBulkAll e+Rows.uptoBulkAll s+1≤1048576:=by simpa [Blk,Rows.uptoBulk] using h
  refine ⟨by have:=JEn e;omega,fun d hd=>?_⟩;have:=J59 hd;show Rows.uptoBulk d≤1048576
  omega
 ·have h:Rows.uptoBulkAll p+1≤1048576:=by simpa [Blk,Rows.uptoBulk] using h
  have:=J59 hd;show Rows.uptoBulk d≤1048576
  omega
 ·have h:s.length+1≤1048576:=by simpa [Blk,Rows.uptoBulk] using h
  omega
theorem JBd {l:List (DataW H)} (h:Rows.uptoSmall H l=true):∀ d∈l,Blk H d:=fun d hd=>by
 have h:Rows.uptoBulkAll l≤1048576:=by simpa [Rows.uptoSmall] using h
 exact Nat.le_trans (J59 hd) h
end
section
variable {H:Type} {enc:TypeId×Value→H} {w:World} {L:DataW H→Prop} {N t:Nat} {Ψ:List AV→Prop}
theorem J6J (hO:OpenB L N enc Tryz.prog w t Ψ) {fuel:Nat} (hf:fuel≤N) {v:Value} {x:DataW H×List MemPlace} (hv:∃ cs,v=.agg cs) (h:DataW.trod enc Tryz.prog w 0 (fun _=>true) true fuel t v.cells.toList=some x) (hl:L x.1):∃ z,Ψ z∧VR KM.empty w NoN (.agg z) v:=by
 obtain ⟨z,h1,h2⟩:=hO fuel hf _ x h hl;obtain ⟨cs,rfl⟩:=hv;have e:(Value.agg cs).cells.toList=cs.toList:=by simp[Value.cells]
 rw[e] at h1;refine ⟨z,h2,.agg _ cs (h1.len.trans (by simp)) (fun i h h'=>?_) (fun i h=>h1.pl _ (by simp))⟩;have:=h1.rel i h (by simpa using h');rw[Array.getElem_toList] at this;exact this
end
def flatD:Nat→DataW Unit→List Value
 | _,.lit (.int k n)=>[.int k n]
 | n+1,.agg ps=>ps.flatMap (flatD n)
 | _,_=>[]
def putT (d:DataW Unit):Obj→Obj
 | .cells _ t z=>.cells (flatD 3 d).toArray t z
 | o=>o
noncomputable def laidW (os:Os):World:=
 { World.holding Tryz.prog os ⟨#[],#[],[]⟩ with heap:=((World.holding Tryz.prog os ⟨#[],#[],[]⟩).heap.modify 1 (putT Rows.laid_unicode_utf8_first)).modify 2 (putT Rows.laid_unicode_utf8_acceptRanges) }
abbrev laidL:List (String×DataW Unit):=[("unicode/utf8.acceptRanges",Rows.laid_unicode_utf8_acceptRanges),("unicode/utf8.first",Rows.laid_unicode_utf8_first)]
theorem JEA (os:Os) (args:Array Value):laidMet Tryz.prog laidL ((laidW os).forCall (fun _ _=>0) ⟨#[],args,[]⟩).memory:=
 laidMet_of_run' 8 (by kernel_rfl) (by kernel_rfl)
theorem JAY:mapsRowed Tryz.prog=true:=by kernel_rfl
theorem J8U:Tryz.prog.stopsHeard=true:=by kernel_rfl
theorem JC7:Tryz.prog.mayEnter=true:=by kernel_rfl
theorem J8g:(Rows.systemHoldsUptoRow.lifted==Tryz.prog.liftsFinal)=true:=by kernel_rfl
theorem JFr:(Tryz.prog.make==some Rows.systemHoldsUptoRow.make)=true:=by kernel_rfl
theorem JGo:false=Tryz.pinned.checked.prog.looks []:=by kernel_rfl
theorem JFs:Tryz.pinned.checked.prog.mainIs=some (Rows.systemHoldsUptoCard.stood.harness.1,Rows.systemHoldsUptoCard.stood.harness.2.toList):=by kernel_rfl
theorem JAV {n:String} {k:FuncId} {g:Func} {ts:Array TypeId} (h1:Tryz.prog.funcNamed n=some k) (h2:Tryz.prog.funcs[k]?=some g) (h3:g.params=ts) (h4:ts.all (fun t=>!Tryz.prog.wantsStandIn t)=true)
  (f:FuncId) (fn:Func) (hf:Tryz.pinned.checked.prog.funcNamed n=some f) (hfn:Tryz.pinned.checked.prog.funcs[f]?=some fn) :
  false=Tryz.pinned.checked.prog.looks []∧∀ (j:Nat) t,fn.params[j]?=some t→Tryz.pinned.checked.prog.wantsStandIn t=false:=by
 obtain rfl:f=k:=Option.some.inj (hf.symm.trans h1);obtain rfl:fn=g:=Option.some.inj (hfn.symm.trans h2);refine ⟨JGo,fun j t ht=>?_⟩;rw[h3] at ht;have:=Array.all_eq_true'.1 h4 t (Array.mem_of_getElem? ht);have h5:Tryz.pinned.checked.prog.wantsStandIn t=Tryz.prog.wantsStandIn t:=rfl;rw[h5]
 simpa using this
end Go.Proofs.YtlblbldolhiokaaGreatDoor
