/- Part 49 of the proof. -/
import Derived.Test.YtlhdoekgipaihaaGreatDoorEv48
import Derived.Test.YtlhdoekgipaihaaGreatDoorEv44
import Derived.Test.YtlhdoekgipaihaaGreatDoorEv47
import Derived.KernelRfl
import Derived.Test.YtlhdoekgipaihaaGreatDoorRows
import Derived.Test.YtlhdoekgipaihaaGreatDoorCards
import Derived.Test.YtlhdoekgipaihaaGreatDoorTie
import Derived.ProofKit
import Derived.OpenShut
import Derived.Deep.DeepHandedRow
set_option linter.unusedVariables false
set_option linter.unusedSimpArgs false
set_option linter.unusedSectionVars false
set_option maxRecDepth 100000
set_option exponentiation.threshold 400
set_option maxHeartbeats 8000000
namespace Go.Proofs.YtlhdoekgipaihaaGreatDoor
open Go Go.Fw Go.RowKit
def bldB (p buf:AV):Blk:=⟨solo,2,[.agg [p,buf]]⟩
def J1d:AV:=.val (.pointer none)
theorem JBN {H:Hp}{b g:Nat}{p buf:AV}(hb:H b=some (g,bldB p buf))(hp:p=J1d∨p=.op b g 0 0)(hbc:buf.cells=[buf]) :
  HCall Tryz.prog 308 [.op b g 0 0] H fun r H'=>r=.tup []∧H'=setH H b (some (g,bldB (.op b g 0 0) buf)):=by
 intro gh κ w vs hr hv;obtain ⟨hlen,hv⟩:=hv;obtain ⟨vl⟩:=vs
 rcases vl with _|⟨a,_|⟨a2,r⟩⟩<;>simp at hlen
 have h0:=hv 0 (by simp) (by simp);simp only[List.getElem_cons_zero,List.getElem_toArray] at h0
 cases h0 with
 |op _ _ _ _ c K hκ hc hn=>
 obtain ⟨K',hκ',hbr⟩:=hr.blk _ _ _ hb;have hbr:BlkRel κ w (Nset gh.O κ H) K (bldB p buf):=by rw[hκ] at hκ';cases hκ';exact hbr
 obtain ⟨hn2,hcl,h3⟩:=hbr.rows hn
 rcases h3 with ⟨h3,_⟩|⟨c',A,f,hc',hbk,hm,hs,hf,hpl,hvv,hso⟩
 ·rw[h3] at hc;cases hc
 rw[hc'] at hc;cases hc;have hsz:A.size=2:=hso rfl;simp only[Nat.zero_mul,Nat.add_zero];have e0:A[0]?=some (f 0 0):=by have:=hf 0 (by simp[bldB]) 0 (by simp[bldB]);simpa [bldB] using this
 have hv0:VR κ w (Nset gh.O κ H) p (f 0 0):=hvv 0 (by simp[bldB]) 0 (by simp[bldB]);have hcell:w.cell? ⟨c,0,none⟩=some (f 0 0):=by simp[World.cell?,hbk,e0]
 have hself:VR κ w (Nset gh.O κ H) (.op b g 0 0) (.pointer (some ⟨c,0,none⟩)):=by
  have:=VR.op (w:=w) (N:=Nset gh.O κ H) b g 0 0 c K hκ hc' hn
  simpa using this
 rcases hp with rfl|rfl
 ·have hf0:f 0 0=.pointer none:=by generalize f 0 0=v at hv0;cases hv0;rfl
  rw[hf0] at hcell;obtain ⟨up,hup,hex,w',u,κ',hrun,hR,hvr,_,_⟩:=J3P (P:=Tryz.prog) J4j hr (t:=275) hself hself (C:=fun up=>up=some (b,g,bldB (.op b g 0 0) buf)) ⟨_,rfl,rfl,rfl,_,hb,by simp[bldB],by simp[bldB],by simp[AV.cells],by simp[bldB,J6M,over,AV.cells]⟩;subst hup;have hK:=Any.Builder_copyCheck_fresh { J1K with } J0d.toX72 c w hcell (by simp[World.shape?,hbk,hsz];rfl) (by simp[World.frozen?,hbk]);refine hK.mono ?_;rintro e w' ⟨rfl,rfl⟩
  have hst:=run_storeCells_at Tryz.prog c 0 solo [.pointer (some ⟨c,0,none⟩)] 0 A w hbk (by simp[hsz]) (fun v hv=>by
   simp only[List.mem_singleton] at hv;subst hv;rfl)
  have ht:=J0f (J4j 275 _ rfl)
  have hrun':(Instr.storeAt 275 (.pointer (some ⟨c,0,none⟩)) (.pointer (some ⟨c,0,none⟩))).run Tryz.prog w=.ok () (w.setCell ⟨c,0,none⟩ (.pointer (some ⟨c,0,none⟩))):=by
   have hA:(A.toList.take 0++[Value.pointer (some ⟨c,0,none⟩)]++A.toList.drop 1).toArray=A.setIfInBounds 0 (.pointer (some ⟨c,0,none⟩)):=by
    obtain ⟨L⟩:=A
    rcases L with _|⟨x,r⟩
    ·simp at hsz
    ·simp
   rw[setCell_eq_setRow w c 0 A solo (0,0) _ hbk,← hA];simp only[Nat.add_zero] at hst
   simpa [Instr.storeAt,Instr.sureAddr,Sem.run_bind,storeVar,ht.run_size w,Value.cells] using hst
  rw[hrun'] at hrun;cases hrun;exact ⟨_,.tup [],_,κ',rfl,⟨rfl,rfl⟩,hR,.tup [] #[] rfl (fun i h=>by simp at h),hvr⟩
 ·have hf0:f 0 0=.pointer (some ⟨c,0,none⟩):=by
   generalize f 0 0=v at hv0
   cases hv0 with
   |op _ _ _ _ c2 K2 hκ2 hc2 hn2=>
     rw[hκ] at hκ2;cases hκ2;rw[hc'] at hc2;cases hc2;simp
  rw[hf0] at hcell;refine (Any.Builder_copyCheck_used { J1K with } J0d.toX72 c w hcell).mono ?_;rintro e w' ⟨rfl,rfl⟩
  have hH:setH H b (some (g,bldB (.op b g 0 0) buf))=H:=by
   funext x;unfold setH;split
   ·rename_i h;rw[h,hb]
   ·rfl
  exact ⟨_,.tup [],H,κ,rfl,⟨rfl,hH.symm⟩,hr,.tup [] #[] rfl (fun i h=>by simp at h),fun h=>h⟩
theorem JBc {κ:KM}{w:World}{N:Nat→Prop}{b g i k c o:Nat}(h:VR κ w N (.op b g i k) (.pointer (some ⟨c,o,none⟩))):∃ K,κ b g=some K∧K.c=some c∧0<K.n:=by
 generalize hv:Value.pointer (some ⟨c,o,none⟩)=v at h
 cases h with
 |op _ _ _ _ c2 K2 h1 h2 h3=>cases hv;exact ⟨_,h1,h2,h3⟩
theorem J9w {gh:Gh}{κ:KM}{H:Hp}{w:World}{b g c:Nat}{p buf:AV}(hr:HRel gh κ H w)(hb:H b=some (g,bldB p buf))(hs:VR κ w (Nset gh.O κ H) (.op b g 0 0) (.pointer (some ⟨c,0,none⟩)))(hp:p.cells=[p])(hbc:buf.cells=[buf]) :
  ∃ v0 v1,w.heap[c]?=some (.cells #[v0,v1] solo (0,0))∧VR κ w (Nset gh.O κ H) p v0∧VR κ w (Nset gh.O κ H) buf v1:=by
 obtain ⟨K,hκ,hc,hn⟩:=JBc hs;obtain ⟨K1,hκ1,hbr⟩:=hr.blk _ _ _ hb;rw[hκ] at hκ1;cases hκ1;obtain ⟨hn2,hcl,h3⟩:=hbr.rows hn
 rcases h3 with ⟨h3,_⟩|⟨c',A,f,hc',hbk,hm,hs',hf,hpl,hvv,hso⟩
 ·rw[h3] at hc;cases hc
 rw[hc'] at hc;cases hc;have hsz:A.size=2:=hso rfl;obtain ⟨L⟩:=A
 rcases L with _|⟨v0,_|⟨v1,_|⟨v2,r⟩⟩⟩<;>simp at hsz
 have e0:=hf 0 (by simp[bldB]) 0 (by simp[bldB]);have e1:=hf 0 (by simp[bldB]) 1 (by simp[bldB]);simp[bldB] at e0 e1;subst e0 e1;exact ⟨_,_,hbk,hvv 0 (by simp[bldB]) 0 (by simp[bldB]),hvv 0 (by simp[bldB]) 1 (by simp[bldB])⟩
theorem JBb {κ:KM}{w:World}{N:Nat→Prop}{b g off len:Nat}{v:Value}(h:VR κ w N (.own b g off len) v):∃ ao n' cap,v=.slice ao n' cap:=by
 cases h<;>exact ⟨_,_,_,rfl⟩
theorem JHv {gh:Gh}{κ:KM}{H:Hp}{w:World}{b g c d γ len n' cap:Nat}{ao:Option Addr}{p buf:AV}(hr:HRel gh κ H w)(hb:H b=some (g,bldB p buf))(hs:VR κ w (Nset gh.O κ H) (.op b g 0 0) (.pointer (some ⟨c,0,none⟩)))(hp:p.cells=[p])(hbc:buf.cells=[buf])
  (hx:VR κ w (Nset gh.O κ H) (.own d γ 0 len) (.slice ao n' cap)) :
  ∃ κ',HRel gh κ' (setH H b (some (g,bldB p (.own d γ 0 len)))) (w.setCell ⟨c,1,none⟩ (.slice ao n' cap))∧∀ {y:AV} {v:Value},VR κ w (Nset gh.O κ H) y v→VR κ' (w.setCell ⟨c,1,none⟩ (.slice ao n' cap)) (Nset gh.O κ' (setH H b (some (g,bldB p (.own d γ 0 len))))) y v:=by
 obtain ⟨v0,v1,hbk,_,_⟩:=J9w hr hb hs hp hbc;obtain ⟨K,hκ,hc,hn⟩:=JBc hs
 have hptr:VR κ w (Nset gh.O κ H) (.op b g 0 1) (.pointer (some ⟨c,1,none⟩)):=by
  have:=VR.op (w:=w) (N:=Nset gh.O κ H) b g 0 1 c K hκ hc hn
  simpa using this
 obtain ⟨up,hup,hex,w',u,κ',hrun,hR,hvr,_,_⟩:=J3P (P:=Tryz.prog) J4j hr (t:=276) hptr hx (C:=fun up=>up=some (b,g,bldB p (.own d γ 0 len))) ⟨_,rfl,rfl,rfl,_,hb,by simp[bldB],by simp[bldB],by simp[AV.cells],by simp[bldB,J6M,over,AV.cells]⟩;subst hup
 have hst:=run_storeCells_at Tryz.prog c 1 solo [.slice ao n' cap] 0 #[v0,v1] w hbk (by simp) (fun v hv=>by
  simp only[List.mem_singleton] at hv;subst hv;rfl)
 have ht:=J0f (J4j 276 _ rfl)
 have hrun':(Instr.storeAt 276 (.pointer (some ⟨c,1,none⟩)) (.slice ao n' cap)).run Tryz.prog w=.ok () (w.setCell ⟨c,1,none⟩ (.slice ao n' cap)):=by
  rw[setCell_eq_setRow w c 1 _ solo (0,0) _ hbk];simp only[Nat.add_zero] at hst
  simpa [Instr.storeAt,Instr.sureAddr,Sem.run_bind,storeVar,ht.run_size w,Value.cells] using hst
 rw[hrun'] at hrun;cases hrun;exact ⟨κ',hR,hvr⟩
theorem J7j {P:Program}{w:World}{ops:Array Oper}{rest:List Oper}{o:Oper}{a:Act}{Q:Exit→Act→World→Prop}(hgd:o.guard=none)(sl x:Operand)(t u:TypeId)
  (ho:o.op=.call { callee:=.builtin .append,args:=#[sl,x],argTypes:=#[t,u] })(v:Value)(hs:a.eval sl=v)(s:ByteArray)(hx:a.eval x=.string s){v':Value}{w':World}
  (hr:(Builtin.append_ #[t,u] o.type #[v,.string s]).run P w=.ok v' w')(h:wpList P ops Q rest (a.put o.dst v') w'):wpList P ops Q (o::rest) a w:=by
 refine wpList_plain hgd fun K hK=>?_;unfold Oper.wp execOp;simp only[ho,resolve,invoke,builtin,Sem.run_bind,Sem.run_pure,Result.andThen_ok,List.map_toArray,List.map_cons,List.map_nil,hs,hx,hr];exact hK _ _ h
theorem J7y {H:Hp}{b g d g0:Nat}{p:AV}{l:List UInt8}{s:ByteArray}(hb:H b=some (g,bldB p (.own d g0 0 l.length)))(hp:p=J1d∨p=.op b g 0 0)(hd:H d=some (g0,⟨5,1,BY l⟩))(hbd:b≠d)
  (hs:l.length+s.size≤140737488355328) :
  HCall Tryz.prog 213 [.op b g 0 0,encS s] H fun r H'=>r=.tup [encI s.size,.val .nilIface]∧∃ γ,H'=setH (setH H d (some (γ,⟨5,1,BY (l++s.data.toList)⟩))) b (some (g,bldB (.op b g 0 0) (.own d γ 0 (l.length+s.size)))):=by
 intro gh κ w vs hr hv;obtain ⟨hlen,hv⟩:=hv;obtain ⟨vl⟩:=vs
 rcases vl with _|⟨a,_|⟨a2,_|⟨a3,r⟩⟩⟩<;>simp at hlen
 have h0:=hv 0 (by simp) (by simp);have h1:=hv 1 (by simp) (by simp);simp only[List.getElem_cons_zero,List.getElem_cons_succ,List.getElem_toArray] at h0 h1;cases h1
 have hcc:=JBN hb hp rfl gh κ w #[a] hr ⟨rfl,fun i h h'=>by
  have:i=0:=by simpa using h
  subst this;exact h0⟩
 cases h0 with
 |op _ _ _ _ c K hκ hc hn=>
 simp only[Nat.add_zero,Nat.zero_mul] at hcc ⊢;have L:Lays.n166 Tryz.prog Tryz.lays156_ren:={ J1K with };have X:=J0d;have hcc':Calls Tryz.prog (Tryz.lays156_ren.f 240) _ _ _:=hcc;have e5:Tryz.lays156_ren.t 5=5:=rfl;have e72:Tryz.lays156_ren.t 72=solo:=rfl;have hT:=J4j;show Calls Tryz.prog (Tryz.lays156_ren.f 166) _ _ _
 clear hcc;generalize Tryz.lays156_ren=ρ at L X hcc' e5 e72 ⊢;obtain ⟨i0,hi,hz0,hz1,hz2⟩:=info_parts X.infoByte;have mixed:=L.mixed;have t72:=L.t72;have a72:=L.a72;have z72:=L.z72;have v72:=L.v72;have u72:=run_underlying L.t72;have t70:=L.t70;have a70:=L.a70;have z70:=L.z70;have v70:=L.v70;have u70:=run_underlying L.t70;have t37:=L.t37;have a37:=L.a37;have z37:=L.z37;have v37:=L.v37;have u37:=run_underlying L.t37;have t3:=L.t3;have a3:=L.a3;have z3:=L.z3;have v3:=L.v3;have u3:=run_underlying L.t3;have t9:=L.t9;have a9:=L.a9;have z9:=L.z9;have v9:=L.v9;have u9:=run_underlying L.t9;have t4:=L.t4;have a4:=L.a4;have z4:=L.z4;have v4:=L.v4;have u4:=run_underlying L.t4;have t164:=L.t164;have a164:=L.a164;have z164:=L.z164;have v164:=L.v164;have u164:=run_underlying L.t164;have t5:=X.t5;have a5:=X.a5;have z5:=X.z5;have v5:=X.v5;have u5:=run_underlying X.t5;have e240:∀ args w,(callFunc (ρ.f 240) args).run Tryz.prog w=.ok (.enter (ρ.f 240) args) w:=enters_of L.f240 (by kernel_rfl) rfl
 go_enter L.f166,Body.n166_ntmps ρ
 go_wp2_with (go_at_fn (ρ.f 240);refine hcc'.mono ?_)
 rintro e w1 ⟨v0,r0,H1,κ1,he,⟨hr0,hH1⟩,hr1,hv0,ht1⟩;subst he hr0 hH1
 have hself:VR κ w (Nset gh.O κ H) (.op b g 0 0) (.pointer (some ⟨c,0,none⟩)):=by
  have:=VR.op (w:=w) (N:=Nset gh.O κ H) b g 0 0 c K hκ hc hn
  simpa using this
 have hself:=ht1 hself;have hb1:(setH H b (some (g,bldB (.op b g 0 0) (.own d g0 0 l.length)))) b=some (g,bldB (.op b g 0 0) (.own d g0 0 l.length)):=by simp[setH]
 have hd1:(setH H b (some (g,bldB (.op b g 0 0) (.own d g0 0 l.length)))) d=some (g0,⟨5,1,BY l⟩):=by rw[setH,if_neg (Ne.symm hbd)];exact hd
 generalize hH1:setH H b (some (g,bldB (.op b g 0 0) (.own d g0 0 l.length)))=H1 at hr1 hv0 ht1 hself hb1 hd1;obtain ⟨p1,v,hbk,_,hv1⟩:=J9w hr1 hb1 hself rfl rfl;have c1:w1.cell? ⟨c,1,none⟩=some v:=by rw[Lib.cell_of_heap hbk];rfl
 obtain ⟨G,hG⟩:=hr1.fresh;obtain ⟨v',w2,κ2,hrun,hr2,ht2,hv2,hk2⟩:=JB7 (P:=Tryz.prog) (ty:=ρ.t 37) (u:=ρ.t 9) hr1 (d:=d) (g:=g0) (γ:=G) (s:=s) L.t37 L.t9 hi hz0 hz1 hz2 (by rw[e5];decide) (hG _ _ (Nat.le_refl _)) (by rw[e5];exact hd1) hv1 hs;rw[e5] at hr2 ht2 hv2;have hself2:=ht2 hself;have hb2:app H1 (some (d,G,⟨5,1,BY (l++s.data.toList)⟩)) b=some (g,bldB (.op b g 0 0) (.own d g0 0 l.length)):=by simp only[app,setH];rw[if_neg hbd];exact hb1
 generalize hH2:app H1 (some (d,G,⟨5,1,BY (l++s.data.toList)⟩))=H2 at hr2 ht2 hv2 hself2 hb2;obtain ⟨p2,v2,hbk2,_,_⟩:=J9w hr2 hb2 hself2 rfl rfl;have d1:w2.cell? ⟨c,1,none⟩=some v2:=by rw[Lib.cell_of_heap hbk2];rfl
 have f1:w2.frozen? ⟨c,1,none⟩=false:=Lib.frozen_of_heap hbk2 1;obtain ⟨ao,n',cap,rfl⟩:∃ ao n' cap,v'=.slice ao n' cap:=JBb hv2
 go_wp2_with (at_builtin;refine J7j rfl _ _ (ρ.t 37) (ρ.t 9) rfl v rfl s rfl hrun ?_)
 go_ret2
 obtain ⟨κ3,hr3,ht3⟩:=JHv hr2 hb2 hself2 rfl rfl hv2;subst hH2 hH1
 have eH:∀ z,setH (app (setH H b z) (some (d,G,⟨5,1,BY (l++s.data.toList)⟩))) b (some (g,bldB (.op b g 0 0) (.own d G 0 (l.length+s.size))))=setH (setH H d (some (G,⟨5,1,BY (l++s.data.toList)⟩))) b (some (g,bldB (.op b g 0 0) (.own d G 0 (l.length+s.size)))):=by
  intro z;funext x;simp only[app,setH];split<;>(try split)<;>rfl
 rw[eH] at hr3 ht3
 exact ⟨_,.tup [encI s.size,.val .nilIface],_,κ3,rfl,⟨rfl,_,rfl⟩,hr3,.tup _ _ rfl (fun i h h'=>by
  match i,h with
  |0,_=>exact .val _ rfl
  |1,_=>exact .val _ rfl),fun h=>ht3 (ht2 (ht1 h))⟩
theorem JBg {P:Program}{ρ:Go.Shelf.Ren}(L:Lays.n169 P ρ)(X:Builder.Extra P ρ)(b g cap:Nat)(l:List UInt8)(p:Value)(cur:Array Value)(w:World)(h0:l≠[])(hbk:w.heap[b]?=some (.cells #[p,.slice (some ⟨g,0,none⟩) l.length cap] (ρ.t 72) (0,0)))
  (hg:w.heap[g]?=some (.cells cur (ρ.t 5) (0,0)))(hnc:l.length≤cap)(hcm:cap≤maxLen)(hcs:cur.size=cap)(htake:cur.toList.take l.length=Lib.byteCells l) :
  Calls P (ρ.f 169) #[.pointer (some ⟨b,0,none⟩)] w fun e w'=>e=.returned (.string ⟨l.toArray⟩)∧w'=w.drew.freeze ⟨g,0,none⟩ l.length:=by
 have hl0:l.length≠0:=by simpa using h0
 have c1:w.drew.cell? ⟨b,1,none⟩=some (.slice (some ⟨g,0,none⟩) l.length cap):=by
  have:w.drew.heap[b]?=some (.cells #[p,.slice (some ⟨g,0,none⟩) l.length cap] (ρ.t 72) (0,0)):=hbk;rw[Lib.cell_of_heap this];rfl
 have hSD:(Builtin.unsafeSliceData_ #[(ρ.t 37)] (ρ.t 127) #[.slice (some ⟨g,0,none⟩) l.length cap]).run P w.drew=.ok (.pointer (some ⟨g,0,none⟩)) w.drew:=
  Lib.run_unsafeSliceData_row _ _ _ _ _ _ (by omega)
 have hUS:(Builtin.unsafeString_ #[(ρ.t 127),(ρ.t 3)] (ρ.t 9) #[.pointer (some ⟨g,0,none⟩),.int .i64 l.length]).run P w.drew=.ok (.string ⟨l.toArray⟩) (w.drew.freeze ⟨g,0,none⟩ l.length):=by
  refine Lib.run_unsafeString_row w.drew (ρ.t 127) (ρ.t 3) (ρ.t 9) (ρ.t 5) L.t127 X.cellsByte g cur.size (by have hg':w.drew.heap[g]?=some (.cells cur (ρ.t 5) (0,0)):=hg;simp[World.shape?,hg']) l h0 (by omega) (by unfold maxLen at hcm;omega) ?_;intro j x hx;have hg':w.drew.heap[g]?=some (.cells cur (ρ.t 5) (0,0)):=hg;have hj:j<l.length:=(List.getElem?_eq_some_iff.1 hx).1
  have e1:cur.toList[j]?=some (.int .u8 x.toNat):=by
   have:(cur.toList.take l.length)[j]?=some (.int .u8 x.toNat):=by rw[htake];simp[Lib.byteCells,hx]
   rwa [List.getElem?_take,if_pos hj] at this
  rw[Addr.add_lit,Lib.cell_of_heap hg',Nat.zero_add,← Array.getElem?_toList,e1]
 have mixed:=L.mixed;have t72:=L.t72;have a72:=L.a72;have z72:=L.z72;have v72:=L.v72;have u72:=run_underlying L.t72;have t70:=L.t70;have a70:=L.a70;have z70:=L.z70;have v70:=L.v70;have u70:=run_underlying L.t70;have t37:=L.t37;have a37:=L.a37;have z37:=L.z37;have v37:=L.v37;have u37:=run_underlying L.t37;have t127:=L.t127;have a127:=L.a127;have z127:=L.z127;have v127:=L.v127;have u127:=run_underlying L.t127;have t3:=L.t3;have a3:=L.a3;have z3:=L.z3;have v3:=L.v3;have u3:=run_underlying L.t3;have t9:=L.t9;have a9:=L.a9;have z9:=L.z9;have v9:=L.v9;have u9:=run_underlying L.t9;have t5:=X.t5;have a5:=X.a5;have z5:=X.z5;have v5:=X.v5;have u5:=run_underlying X.t5
 go_enter L.f169,Body.n169_ntmps ρ
 go_wp2
 go_region_o
 all_goals (go_wp2;go_ret;exact ⟨rfl,rfl⟩)
theorem HRel.drop {gh:Gh}{κ:KM}{H:Hp}{w w':World}{d g c:Nat}{B:Blk}{K:KI}(hr:HRel gh κ H w)(hd:H d=some (g,B))(hκ:κ d g=some K)(hc:K.c=some c)(hs:w.heap.size≤w'.heap.size)(hb:∀ k,k<w.heap.size→k≠c→w'.heap[k]?=w.heap[k]?)(ho:w'.os=w.os)(ht:w'.tape=w.tape)(hu:w'.output=w.output) :
  HRel gh κ (rem H [d]) w'∧∀ {x:AV} {u:Value},VR κ w (Nset gh.O κ H) x u→VR κ w' (Nset gh.O κ (rem H [d])) x u:=by
 have hag:Agree (Nset gh.O κ H) w w':=⟨hs,fun k hk hn=>hb k hk fun e=>hn (.inr ⟨d,g,B,K,hd,hκ,e ▸ hc⟩)⟩;have hr':=hr.rem [d];have tr:∀ {x:AV} {u:Value},VR κ w (Nset gh.O κ H) x u→VR κ w' (Nset gh.O κ (rem H [d])) x u:=fun h=>h.step (KM.le.refl _) hag fun k _ h=>J0Q [d] h;have hag':Agree (Fw.Own κ H) w w':=⟨hs,fun k hk hn=>hb k hk fun e=>hn ⟨d,g,B,K,hd,hκ,e ▸ hc⟩⟩;refine ⟨⟨fun b g' B' h=>?_,hr'.inj,hr'.mine,hr.keep hag',ho.trans hr.os,ht.trans hr.tape,hu.trans hr.output,hr.fresh,hr.apart⟩,tr⟩;obtain ⟨K',hk,hbr⟩:=hr'.blk _ _ _ h
 have hbd:b≠d:=by
  rintro rfl;simp[Fw.rem] at h
 have hHb:H b=some (g',B'):=by
  unfold Fw.rem at h;split at h
  ·cases h
  ·exact h
 obtain ⟨K2,hk2,hbr2⟩:=hr.blk _ _ _ hHb;exact ⟨K2,hk2,hbr2.step (KM.le.refl _) hag (fun k _ h=>J0Q [d] h) fun k hk=>hb k (hr.lt ⟨b,g',B',K2,hHb,hk2,hk⟩) fun e=>hbd (hr.inj _ _ _ _ _ _ _ _ c hHb hd hk2 hκ (e ▸ hk) hc)⟩
theorem JBi {κ:KM}{w:World}{N:Nat→Prop}{l:List UInt8}{XS:List Value}(h:Row κ w N 1 (BY l) XS):XS=Lib.byteCells l:=by
 have hl:XS.length=l.length:=by simpa using h.len
 refine List.ext_getElem (by simp[Lib.byteCells,hl]) fun i h1 h2=>?_;have hi:i<l.length:=hl ▸ h1;have:=h.rel i (by simpa using hi) 0 (by simp[BY,AV.cells]);have e1:((BY l)[i]'(by simpa using hi)).cells[0]'(by simp[BY,AV.cells])=.val (.int .u8 (l[i].toNat:Int)):=by simp[BY,AV.cells]
 rw[e1] at this;have e2:XS.getD (i*1+0) undef=XS[i]:=by simp[List.getD_eq_getElem?_getD,List.getElem?_eq_getElem h1]
 rw[e2] at this;have e3:(Lib.byteCells l)[i]=.int .u8 (l[i].toNat:Int):=by simp[Lib.byteCells]
 rw[e3];generalize XS[i]=v at this;cases this;rfl
theorem JFM {H:Hp}{b g d g0:Nat}{p:AV}{l:List UInt8}(hb:H b=some (g,bldB p (.own d g0 0 l.length)))(hp:p.cells=[p])(hd:H d=some (g0,⟨5,1,BY l⟩)) :
  HCall Tryz.prog 218 [.op b g 0 0] H fun r H'=>r=.val (.string ⟨l.toArray⟩)∧H'=rem H [d]:=by
 intro gh κ w vs hr hv;obtain ⟨hlen,hv⟩:=hv;obtain ⟨vl⟩:=vs
 rcases vl with _|⟨a,_|⟨a2,r⟩⟩<;>simp at hlen
 have h0:=hv 0 (by simp) (by simp);simp only[List.getElem_cons_zero,List.getElem_toArray] at h0
 obtain ⟨c,rfl⟩:∃ c,a=.pointer (some ⟨c,0,none⟩):=by
  cases h0 with
  |op _ _ _ _ c K hκ hc hn=>exact ⟨c,by simp⟩
 obtain ⟨v0,v1,hbk,_,hv1⟩:=J9w hr hb h0 hp rfl;have L:=JBd;have X:=J2o;have e5:Tryz.lays169_ren.t 5=5:=rfl;have e72:Tryz.lays169_ren.t 72=solo:=rfl;show Calls Tryz.prog (Tryz.lays169_ren.f 169) _ _ _
 generalize Tryz.lays169_ren=ρ at L X e5 e72 ⊢
 have fin:∀ {e:Ending} {w':World},l=[]→(e=.returned (.string ⟨#[]⟩)∧Below w.heap.size w w')→∃ v r H' κ',e=.returned v∧(r=.val (.string ⟨l.toArray⟩)∧H'=rem H [d])∧HRel gh κ' H' w'∧VR κ' w' (Nset gh.O κ' H') r v∧∀ {x:AV} {u:Value},VR κ w (Nset gh.O κ H) x u→VR κ' w' (Nset gh.O κ' H') x u:=by
  rintro e w' rfl ⟨rfl,hB⟩;obtain ⟨q1,q2⟩:=J17 hr hB;exact ⟨_,_,_,κ,rfl,⟨rfl,rfl⟩,q1.rem [d],.val _ rfl,fun h=>(q2 h).mono fun k h=>J0Q [d] h⟩
 have hbk:w.heap[c]?=some (.cells #[v0,v1] (ρ.t 72) (0,0)):=by rw[e72];exact hbk
 obtain ⟨K,hk,hbr⟩:=hr.blk _ _ _ hd;generalize hlen:l.length=len at hv1
 cases hv1 with
 |ownnil _ _ K' hk' hc=>
   exact (Any.Builder_String_nil L X w.heap.size c v0 w hbk).mono fun e w' h=>fin (List.eq_nil_of_length_eq_zero hlen) h
 |own _ _ _ _ cap cd K' hk' hc h1 h2 hp2=>
   rw[hk] at hk';cases hk';have hbr:=hbr.rows hp2;obtain ⟨A,hbk2,hm,hrow⟩:=hbr.row hc 0 len (by rw[← hlen];simp);have hKn:K.n=1:=hbr.1;have htk:(BY l).take len=BY l:=List.take_of_length_le (by rw[← hlen];simp);simp only[List.drop_zero,Nat.zero_mul,htk,hKn,Nat.mul_one] at hrow;have hcs:A.size=cap:=by rw[← hm,← h2.1,hKn];omega
   simp only[Nat.zero_add,Nat.zero_mul] at h2 hbk ⊢;replace hbk2:w.heap[cd]?=some (.cells A (ρ.t 5) (0,0)):=by rw[e5];exact hbk2
   have hdh:w.drew.heap=w.heap:=rfl
   by_cases hl:l=[]
   ·subst hl;obtain rfl:len=0:=by simpa using hlen.symm
    by_cases h0:cap=0
    ·subst h0;exact (Any.Builder_String_noroom L X w.heap.size c cd v0 A w (Nat.le_refl _) hbk hbk2).mono fun e w' h=>fin rfl h
    ·exact (Any.Builder_String_room L X w.heap.size c cd cap v0 w h0 hbk).mono fun e w' h=>fin rfl h
   ·refine (JBg L X c cd cap l v0 A w hl (by rw[hlen];exact hbk) hbk2 (by omega) h2.2 hcs ?_).mono ?_
    ·rw[hlen];exact JBi hrow
    ·rintro e w' ⟨rfl,rfl⟩
     obtain ⟨q1,q2⟩:=HRel.drop (w':=w.drew.freeze ⟨cd,0,none⟩ l.length) hr hd hk hc (by unfold World.freeze;split<;>simp[hdh]) (fun k hk hne=>by
      unfold World.freeze;split
      ·rfl
      ·simp[hdh,Array.getElem?_modify,Ne.symm hne]) (by unfold World.freeze;split<;>rfl) (by unfold World.freeze;split<;>rfl) (by unfold World.freeze;split<;>rfl)
     exact ⟨_,_,_,κ,rfl,⟨rfl,rfl⟩,q1,.val _ rfl,q2⟩
end Go.Proofs.YtlhdoekgipaihaaGreatDoor
namespace Go.Proofs.YtlhdoekgipaihaaGreatDoor
open Go Go.Fw
theorem J4q {e:Nat}{H:Hp}{b g d g0:Nat}{p:AV}{l:List UInt8}(s:ByteArray){args:List AV}{C:AV→Hp→Prop}(ha:args=[.op b g 0 0,encS s])(hb:H b=some (g,bldB p (.own d g0 0 l.length)))(hpf:p=J1d∨p=.op b g 0 0)(hd:H d=some (g0,⟨5,1,BY l⟩))(hbd:b≠d)
  (hs:l.length+s.size≤140737488355328)(h:∀ γ,∃ m,hpOk (setH (setH H d (some (γ,⟨5,1,BY (l++s.data.toList)⟩))) b (some (g,bldB (.op b g 0 0) (.own d γ 0 (l++s.data.toList).length)))) m∧C (.tup [encI s.size,.val .nilIface]) (hp m)) :
  CallP (E e) 213 args H C:=by
 subst ha;refine CallP.own c213 (HCall.mono (J7y hb hpf hd hbd hs) ?_);rintro r h' ⟨rfl,γ,rfl⟩;obtain ⟨m,h1,h2⟩:=h γ;have e1:l.length+s.size=(l++s.data.toList).length:=by rw[List.length_append];rfl
 rw[e1];exact ⟨hp m,h1.sub,h2⟩
def eqF (w:ByteArray)(q:Eqn):ByteArray:=w++b1 32++q.name++b1 32++showF q.left++b1 32++showF q.right++b1 10
def eqsL (w:ByteArray):List Eqn→List UInt8
 |[]=>[]
 |q::r=>(eqF w q).data.toList++eqsL w r
structure QnOk (q:Eqn):Prop where
 n:q.name.size<2^35
 l:SzE q.left∧TxE q.left∧builtF q.left=true∧wtF q.left≤1000
 r:SzE q.right∧TxE q.right∧builtF q.right=true∧wtF q.right≤1000
theorem J1j {e:Ex}(h:TxE e)(hb:builtF e=true)(hw:wtF e≤1000):(showF e).size≤2^32:=by
 have:=J8C e hb h;have h2:(2^21+20)*wtF e≤(2^21+20)*1000:=Nat.mul_le_mul_left _ hw;omega
theorem JDn {w:ByteArray}{q:Eqn}(hw:w.size≤10)(h:QnOk q):(eqF w q).size≤2^36:=by
 have h1:=J1j h.l.2.1 h.l.2.2.1 h.l.2.2.2;have h2:=J1j h.r.2.1 h.r.2.2.1 h.r.2.2.2;have h3:=h.n;unfold eqF;simp only[J0C];show _+1+_+1+_+1+_+1≤_
 omega
theorem JIw (w:ByteArray)(hw:w.size≤10)(qs:List Eqn)(hq:∀ q∈qs,QnOk q)(hn:qs.length≤120)(p:AV)(g g1:Nat)(hpf:p=J1d∨p=.op 50 g 0 0)(l:List UInt8)(hl:l.length≤2^46) :
  HCall Tryz.prog 215 [encS w,.sl 9 (qs.map J0P),.op 50 g 0 0] (hp [(50,g,bldB p (.own 51 g1 0 l.length)),(51,g1,⟨5,1,BY l⟩)])
   (fun r h=>r=.tup []∧∃ p' g',(p'=J1d∨p'=.op 50 g 0 0)∧h=hp [(50,g,bldB p' (.own 51 g' 0 (l++eqsL w qs).length)),(51,g',⟨5,1,BY (l++eqsL w qs)⟩)]):=by
 refine J3M (E:=E 0) J4j (JMh 0) Tryz.func215 rfl (by rfl) (Nat.le_of_ble_eq_true rfl) ?_;have hml:=@List.length_map _ _ qs J0P;generalize hR:l++eqsL w qs=R;(refine kWQ ?_;repeat intro γ)
 refine LoopP.intro (fun k σ H=>∃ p' g1 i,∃ t:List UInt8,k=qs.length-i∧i≤qs.length∧t.length≤i*2^36+2^46∧(p'=J1d∨p'=.op 50 g 0 0)∧t++eqsL w (qs.drop i)=R ∧
   σ=fr [(0,encS w),(2,.op 50 g 0 0),(7,.sl 9 (qs.map J0P)),(8,encI qs.length),(9,encI i)] ∧
   H=hp [(50,g,bldB p' (.own 51 g1 0 t.length)),(51,g1,⟨5,1,BY t⟩)]) ?_ ?_
 ·exact .intro (W.of ⟨_,p,g1,0,l,rfl,Nat.zero_le _,by omega,hpf,hR,rfl,rfl⟩ ⟨rfl,rfl,rfl,rfl,rfl,trivial⟩ ⟨rfl,rfl,trivial⟩)
 ·rintro k σ H ⟨p',g1,i,t,rfl,hi,ht,hpf,hT,rfl,rfl⟩
  rcases Nat.lt_or_ge i qs.length with h1|h1
  ·rw[List.drop_eq_getElem_cons h1] at hT;have hqi:=hq _ (List.getElem_mem h1);have hs1:=J9E _ hqi.l.1 hqi.l.2.1 hqi.l.2.2.1 hqi.l.2.2.2;have hs2:=J9E _ hqi.r.1 hqi.r.2.1 hqi.r.2.2.1 hqi.r.2.2.2;have hz:=JDn hw hqi;have hz1:=J1j hqi.l.2.1 hqi.l.2.2.1 hqi.l.2.2.2;have hz2:=J1j hqi.r.2.1 hqi.r.2.2.1 hqi.r.2.2.2;have hzn:=hqi.n;rw[J08] at hs1 hs2;(refine kWO ?_;repeat intro γ)
   (simp (disch:=omega) only [LG];refine kW ?_)
   (refine kO ?_;repeat intro γ);generalize qs[i]=q at *;obtain ⟨qn,ql,qr⟩:=q;simp only at hs1 hs2 hz1 hz2 hzn;unfold eqsL at hT;unfold eqF at hT hz;simp only[b1] at hT hz;generalize showF ql=sl at *;generalize showF qr=sr at *;have z1:({ data:=#[32] }:ByteArray).size=1:=rfl;have z2:({ data:=#[10] }:ByteArray).size=1:=rfl;have y1:=J0C w { data:=#[32] };have y2:=J0C (w++{ data:=#[32] }) qn;have y3:=J0C (w++{ data:=#[32] }++qn) { data:=#[32] };have y4:=J0C (w++{ data:=#[32] }++qn++{ data:=#[32] }) sl;have y5:=J0C (w++{ data:=#[32] }++qn++{ data:=#[32] }++sl) { data:=#[32] };have y6:=J0C (w++{ data:=#[32] }++qn++{ data:=#[32] }++sl++{ data:=#[32] }) sr;have y7:=J0C (w++{ data:=#[32] }++qn++{ data:=#[32] }++sl++{ data:=#[32] }++sr) { data:=#[10] };refine J18 [(16,false),(17,true)] (by kernel_rfl) ?_;(refine kWQ ?_;repeat intro γ);refine CallG.intro _ c216 hs1 ?_;(refine kWQ ?_;repeat intro γ);refine CallG.intro _ c216 hs2 ?_;(refine kWQ ?_;repeat intro γ);refine J4q (b:=50) (g:=g) (d:=51) (g0:=g1) (p:=p') (l:=t) (w++{ data:=#[32] }++qn++{ data:=#[32] }++sl++{ data:=#[32] }++sr++{ data:=#[10] }) (by kernel_rfl) rfl hpf rfl (by decide) (by omega) fun γ=>⟨[(6,_,⟨44,9,[J0P ⟨qn,ql,qr⟩]⟩),(50,g,_),(51,γ,_)],⟨rfl,rfl,rfl,trivial⟩,?_⟩;(refine kWQ ?_;repeat intro γ);obtain ⟨z,hzz⟩:∃ z,w++{ data:=#[32] }++qn++{ data:=#[32] }++sl++{ data:=#[32] }++sr++{ data:=#[10] }=z:=⟨_,rfl⟩;rw[hzz] at hT hz ⊢;have hzl:z.data.toList.length=z.size:=rfl
   refine .intro <| W.of ⟨_,by omega,.op 50 g 0 0,γ,i+1,t++z.data.toList,rfl,h1,by rw[List.length_append,hzl];omega,.inr rfl,by rw[List.append_assoc];exact hT,rfl,rfl⟩ ⟨rfl,rfl,rfl,rfl,rfl,trivial⟩ ⟨rfl,rfl,trivial⟩
  ·rw[List.drop_eq_nil_of_le h1] at hT;(refine kWQ ?_;repeat intro γ);refine EndH.of (m:=[(50,g,bldB p' (.own 51 g1 0 t.length)),(51,g1,⟨5,1,BY t⟩)]) ⟨rfl,rfl,trivial⟩ ⟨rfl,p',g1,hpf,?_⟩;rw[← hT];unfold eqsL;rw[List.append_nil]
def J8U:List Va→List UInt8
 |[]=>[]
 |v::r=>(lineF v).data.toList++J8U r
def actB (a:Ac):ByteArray:=b1 32++wAct.getD a.kind.toNat ⟨#[]⟩++b1 32++a.var++b1 32++showF a.value
def JI0:List Ac→List UInt8
 |[]=>[]
 |a::r=>(actB a).data.toList++JI0 r
def JMp (w:Whn):ByteArray:=⟨#[119,104,101,110,32]⟩++w.name++b1 32++showF w.cond
def J84:List Whn→List UInt8
 |[]=>[]
 |w::r=>(JMp w).data.toList++(JI0 w.acts++([10]++J84 r))
def wEq:ByteArray:=⟨#[101,113]⟩
def JIr:ByteArray:=⟨#[105,110,105,116]⟩
def JCB (s:Sys):List UInt8:=J8U s.vars++eqsL wEq s.eqs++eqsL JIr s.inits++J84 s.whens
def ExOk (e:Ex):Prop:=SzE e∧TxE e∧builtF e=true∧wtF e≤1000
structure AcOk (a:Ac):Prop where
 k:0≤a.kind∧a.kind≤1
 n:a.var.size<2^35
 e:ExOk a.value
structure WnOk (w:Whn):Prop where
 n:w.name.size<2^35
 e:ExOk w.cond
 l:w.acts.length≤20
 a:∀ a∈w.acts,AcOk a
structure VaOk (v:Va):Prop where
 s:v.name.size<2^35∧v.value.size<2^35∧v.start.size<2^35∧v.unit.size<2^35
 k:0≤v.kind∧v.kind≤3
 t:0≤v.type∧v.type≤1
structure TextOk (s:Sys):Prop where
 lv:s.vars.length≤120
 lq:s.eqs.length≤120
 ln:s.inits.length≤120
 lw:s.whens.length≤120
 v:∀ v∈s.vars,VaOk v
 q:∀ q∈s.eqs,QnOk q
 n:∀ q∈s.inits,QnOk q
 w:∀ w∈s.whens,WnOk w
theorem JEs {v:Va}(h:VaOk v):(lineF v).size≤2^37+310:=by
 obtain ⟨h1,h2⟩:=JDa v h.s;have hj:=J3L (J6j v) (b1 32);have h32:(b1 32).size=1:=rfl;have h10:(b1 10).size=1:=rfl;unfold lineF;rw[J0C,h10];rw[h32] at hj;omega
theorem J9g {w:ByteArray}(hw:w.size≤10):∀ {qs:List Eqn},(∀ q∈qs,QnOk q)→(eqsL w qs).length≤qs.length*2^36
 |[],_=>by simp[eqsL]
 |q::r,h=>by
   have h1:=JDn hw (h q (by simp));have h2:=J9g hw (qs:=r) fun x hx=>h x (by simp[hx]);unfold eqsL;rw[List.length_append,List.length_cons,Nat.succ_mul];have e:(eqF w q).data.toList.length=(eqF w q).size:=rfl;omega
theorem CallP.eqs {S:Blk}{gs g g1:Nat}{p:AV}(hpf:p=J1d∨p=.op 3 g 0 0)(w:ByteArray)(hw:w.size≤10){qs:List Eqn}(hq:∀ q∈qs,QnOk q)(hn:qs.length≤120){t:List UInt8}(ht:t.length≤2^46){args:List AV}{C:AV→Hp→Prop}
  (ha:args=[encS w,.sl 9 (qs.map J0P),.op 3 g 0 0])
  (hC:∀ p' g',(p'=J1d∨p'=.op 3 g 0 0)→C (.tup []) (hp [(1,gs,S),(3,g,bldB p' (.own 100 g' 0 (t++eqsL w qs).length)),(100,g',⟨5,1,BY (t++eqsL w qs)⟩)])) :
  CallP (E 0) 215 args (hp [(1,gs,S),(3,g,bldB p (.own 100 g1 0 t.length)),(100,g1,⟨5,1,BY t⟩)]) C:=by
 subst ha
 have key:∀ p0,(p0=J1d∨p0=.op 50 g 0 0)→p=mv (fun b=>some (fwd 1000000 [(50,3),(51,100)] b)) 2 p0→CallP (E 0) 215 [encS w,.sl 9 (qs.map J0P),.op 3 g 0 0] (hp [(1,gs,S),(3,g,bldB p (.own 100 g1 0 t.length)),(100,g1,⟨5,1,BY t⟩)]) C:=by
  intro p0 h0 hp0;refine CallP.frame 1000000 [(50,3),(51,100)] rfl c215 (JIw w hw qs hq hn p0 g g1 h0 t ht) rfl ⟨?_,J0S (fun b:UInt8=>AV.val (.int .u8 (b.toNat:Int))) _ (fun _=>rfl) ..,trivial⟩ ?_
  ·rcases h0 with rfl | rfl
   ·subst hp0;rfl
   ·subst hp0;rfl
  ·rintro r0 h' ⟨rfl,p',g',h2,rfl⟩;refine ⟨[(1,gs,S),(3,g,bldB (mv (fun b=>some (fwd 1000000 [(50,3),(51,100)] b)) 2 p') (.own 100 g' 0 (t++eqsL w qs).length)),(100,g',⟨5,1,BY (t++eqsL w qs)⟩)],⟨rfl,rfl,J0S (fun b:UInt8=>AV.val (.int .u8 (b.toNat:Int))) _ (fun _=>rfl) ..,trivial⟩,hC _ _ ?_⟩
   rcases h2 with rfl|rfl
   ·exact .inl rfl
   ·exact .inr rfl
 rcases hpf with rfl|rfl
 ·exact key J1d (.inl rfl) rfl
 ·exact key (.op 50 g 0 0) (.inr rfl) rfl
theorem JER (s:Sys)(h:TextOk s):PX 108 [J0J s] (.val (.string ⟨(JCB s).toArray⟩)):=by
 refine PZ Tryz.func108 rfl ?_;generalize hR:JCB s=R;unfold JCB at hR;obtain ⟨vs,qs,ns,ws⟩:=s;obtain ⟨lv,lq,ln,lw,hv,hq,hn,hw⟩:=h;simp only at lv lq ln lw hv hq hn hw hR;unfold J0J;simp only;have mv1:=@List.length_map _ _ vs encV;have mw1:=@List.length_map _ _ ws J0r;obtain ⟨LV,hLV⟩:∃ z,J8U vs=z:=⟨_,rfl⟩;rw[hLV] at hR;have nq:=J9g (w:=wEq) (by decide) hq;have nn:=J9g (w:=JIr) (by decide) hn;(refine kWQ ?_;repeat intro γ)
 refine LoopP.intro (fun k σ H=>∃ g p' g1 gs i,∃ t:List UInt8,k=vs.length-i∧i≤vs.length∧t.length≤i*(2^37+310)∧(p'=J1d∨p'=.op 3 g 0 0)∧t++J8U (vs.drop i)=LV ∧
   σ=fr [(1,.op 1 gs 0 0),(3,.op 3 g 0 0),(12,.sl 7 (vs.map encV)),(13,encI vs.length),(14,encI i)] ∧
   H=hp [(1,gs,⟨26,4,[.agg [.sl 7 (vs.map encV),.sl 9 (qs.map J0P),.sl 9 (ns.map J0P),.sl 6 (ws.map J0r)]]⟩),(3,g,bldB p' (.own 100 g1 0 t.length)),(100,g1,⟨5,1,BY t⟩)]) ?_ ?_
 ·exact .intro (JNb 3 γ 0 1 100 5 1 ⟨278,2,[.agg [J1d,.val (.slice none 0 0)]]⟩ [J1d,.val (.slice none 0 0)] rfl rfl rfl rfl (by decide) fun g1=>W.of ⟨_,γ,J1d,g1,_,0,[],rfl,Nat.zero_le _,by simp,.inl rfl,hLV,rfl,rfl⟩ ⟨rfl,rfl,rfl,rfl,rfl,trivial⟩ ⟨rfl,rfl,rfl,trivial⟩)
 rintro k σ H ⟨g,p',g1,gs,i,t,rfl,hi,ht,hpf,hT,rfl,rfl⟩
 rcases Nat.lt_or_ge i vs.length with h1|h1
 ·rw[List.drop_eq_getElem_cons h1] at hT;have hvi:=hv _ (List.getElem_mem h1);have hl:=JLi _ hvi.s hvi.k hvi.t;have hz:=JEs hvi;(refine kWO ?_;repeat intro γ)
  (simp (disch:=omega) only [LG];refine kW ?_)
  (refine kO ?_;repeat intro γ);generalize vs[i]=v at *;unfold J8U at hT;refine CallP.flat [] _ c214 hl rfl ?_;generalize lineF v=z at *;(refine kWO ?_;repeat intro γ);have hzl:z.data.toList.length=z.size:=rfl;refine J4q (b:=3) (g:=g) (d:=100) (g0:=g1) (p:=p') (l:=t) z (by kernel_rfl) rfl hpf rfl (by decide) (by omega) fun γ2=>⟨[(1,gs,_),(3,g,_),(100,γ2,_)],⟨rfl,rfl,rfl,trivial⟩,?_⟩;(refine kWO ?_;repeat intro γ)
  exact .intro <| W.of ⟨_,by omega,g,.op 3 g 0 0,γ2,gs,i+1,t++z.data.toList,rfl,h1,by rw[List.length_append,hzl];omega,.inr rfl,by rw[List.append_assoc];exact hT,rfl,rfl⟩ ⟨rfl,rfl,rfl,rfl,rfl,trivial⟩ ⟨rfl,rfl,rfl,trivial⟩
 ·rw[List.drop_eq_nil_of_le h1] at hT;unfold J8U at hT;rw[List.append_nil] at hT;subst hT;clear hLV;have ht:t.length≤2^45:=by omega
  (refine kWO ?_;repeat intro γ);refine CallP.eqs hpf wEq (by decide) hq lq (by omega) (by kernel_rfl) fun p2 g2 hpf=>?_;obtain ⟨t2,hT2⟩:∃ z,t++eqsL wEq qs=z:=⟨_,rfl⟩;have ht2:t2.length≤t.length+qs.length*2^36:=by rw[← hT2,List.length_append];omega
  rw[hT2] at hR ⊢;(refine kWO ?_;repeat intro γ);refine CallP.eqs hpf JIr (by decide) hn ln (by omega) (by kernel_rfl) fun p3 g3 hpf=>?_;obtain ⟨t3,hT3⟩:∃ z,t2++eqsL JIr ns=z:=⟨_,rfl⟩;have ht3:t3.length≤t2.length+ns.length*2^36:=by rw[← hT3,List.length_append];omega
  rw[hT3] at hR ⊢;(refine kWO ?_;repeat intro γ)
  refine LoopP.intro (fun k σ H=>∃ p' g1 i,∃ t:List UInt8,k=ws.length-i∧i≤ws.length∧t.length≤2^45+i*(22*(2^35+2^32+20))∧(p'=J1d∨p'=.op 3 g 0 0)∧t++J84 (ws.drop i)=R ∧
   σ=fr [(3,.op 3 g 0 0),(32,.sl 6 (ws.map J0r)),(33,encI ws.length),(34,encI i)] ∧
   H=hp [(3,g,bldB p' (.own 100 g1 0 t.length)),(100,g1,⟨5,1,BY t⟩)]) ?_ ?_
  ·exact .intro (W.of ⟨_,p3,g3,0,t3,rfl,Nat.zero_le _,by omega,hpf,hR,rfl,rfl⟩ ⟨rfl,rfl,congrArg (fun n:Nat=>encI n) mw1,rfl,trivial⟩ ⟨rfl,rfl,trivial⟩)
  clear hT2 hT3 hR nq nn ht ht2 ht3 hpf;rintro k σ H ⟨p',g1,i,t,rfl,hi,ht,hpf,hT,rfl,rfl⟩
  rcases Nat.lt_or_ge i ws.length with h1|h1
  ·rw[List.drop_eq_getElem_cons h1] at hT;have hwi:=hw _ (List.getElem_mem h1);have hs1:=J9E _ hwi.e.1 hwi.e.2.1 hwi.e.2.2.1 hwi.e.2.2.2;have hz1:=J1j hwi.e.2.1 hwi.e.2.2.1 hwi.e.2.2.2;rw[J08] at hs1;(refine kWO ?_;repeat intro γ)
   (simp (disch:=omega) only [LG];refine kW ?_)
   (refine kO ?_;repeat intro γ);generalize ws[i]=wh at *;obtain ⟨wn,wc,ats⟩:=wh;obtain ⟨hwn,_,hal,hac⟩:=hwi;simp only at hs1 hz1 hwn hal hac;rw[J84] at hT;simp only[JMp,b1] at hT;generalize showF wc=sl at *;have z1:({ data:=#[32] }:ByteArray).size=1:=rfl;have z2:({ data:=#[119,104,101,110,32] }:ByteArray).size=5:=rfl;have y1:=J0C { data:=#[119,104,101,110,32] } wn;have y2:=J0C ({ data:=#[119,104,101,110,32] }++wn) { data:=#[32] };have y3:=J0C ({ data:=#[119,104,101,110,32] }++wn++{ data:=#[32] }) sl;refine J18 [(8,false),(9,true)] (by kernel_rfl) ?_;(refine kWQ ?_;repeat intro γ);refine CallG.intro _ c216 hs1 ?_;(refine kWQ ?_;repeat intro γ);refine J4q (b:=3) (g:=g) (d:=100) (g0:=g1) (p:=p') (l:=t) ({ data:=#[119,104,101,110,32] }++wn++{ data:=#[32] }++sl) (by kernel_rfl) rfl hpf rfl (by decide) (by omega) fun γ2=>⟨[(3,g,_),(8,_,⟨163,6,[.agg (encS wn::(J1a wc++[.sl 6 (ats.map J75)]))]⟩),(100,γ2,_)],⟨rfl,rfl,rfl,trivial⟩,?_⟩;obtain ⟨z,hzz⟩:∃ z,{ data:=#[119,104,101,110,32] }++wn++{ data:=#[32] }++sl=z:=⟨_,rfl⟩;rw[hzz] at hT y3 ⊢;have hzl:z.data.toList.length=z.size:=rfl;obtain ⟨X,hX⟩:∃ z,[10]++J84 (ws.drop (i+1))=z:=⟨_,rfl⟩;rw[hX,← List.append_assoc] at hT;obtain ⟨t2,ht2⟩:∃ z2,t++z.data.toList=z2:=⟨_,rfl⟩;have htl:t2.length≤2^45+i*(22*(2^35+2^32+20))+2^35+2^32+20:=by rw[← ht2,List.length_append,hzl];omega
   rw[ht2] at hT ⊢;clear hzz y1 y2 y3 hzl ht2 ht;have ma1:=@List.length_map _ _ ats J75;(refine kWO ?_;repeat intro γ)
   refine LoopP.intro (fun k σ H=>∃ p' g1 j,∃ t:List UInt8,k=ats.length-j∧j≤ats.length∧t.length≤2^45+i*(22*(2^35+2^32+20))+2^35+2^32+20+j*(2^35+2^32+20)∧(p'=J1d∨p'=.op 3 g 0 0)∧t++(JI0 (ats.drop j)++X)=R ∧
    σ=fr [(3,.op 3 g 0 0),(32,.sl 6 (ws.map J0r)),(33,encI ws.length),(34,encI i),(48,.sl 6 (ats.map J75)),(49,encI ats.length),(50,encI j)] ∧
    H=hp [(3,g,bldB p' (.own 100 g1 0 t.length)),(100,g1,⟨5,1,BY t⟩)]) ?_ ?_
   ·exact .intro (W.of ⟨_,.op 3 g 0 0,γ2,0,t2,rfl,Nat.zero_le _,by omega,.inr rfl,hT,rfl,rfl⟩ ⟨rfl,rfl,rfl,rfl,rfl,congrArg (fun n:Nat=>encI n) ma1,rfl,trivial⟩ ⟨rfl,rfl,trivial⟩)
   clear hT htl hs1 hz1 hpf;rintro k σ H ⟨p',g1,j,t,rfl,hj,ht,hpf,hT,rfl,rfl⟩
   rcases Nat.lt_or_ge j ats.length with h2|h2
   ·rw[List.drop_eq_getElem_cons h2] at hT;have hai:=hac _ (List.getElem_mem h2);have hs1:=J9E _ hai.e.1 hai.e.2.1 hai.e.2.2.1 hai.e.2.2.2;have hz1:=J1j hai.e.2.1 hai.e.2.2.1 hai.e.2.2.2;rw[J08] at hs1;(refine kWO ?_;repeat intro γ)
    (simp (disch:=omega) only [LG];refine kW ?_)
    (refine kO ?_;repeat intro γ);generalize ats[j]=ac at *;obtain ⟨ak,av,ae⟩:=ac;obtain ⟨hk,hvs,_⟩:=hai;simp only at hs1 hz1 hk hvs;rw[JI0] at hT;simp only[actB,b1] at hT;generalize showF ae=sl at *
    have gk:(wAct.map encS).getD ak.toNat .dead=encS (wAct.getD ak.toNat ⟨#[]⟩):=by
     have:ak.toNat<wAct.length:=by show _<2;omega
     rw[List.getD_eq_getElem?_getD,List.getElem?_map,List.getD_eq_getElem?_getD,List.getElem?_eq_getElem this];rfl
    have kw:(wAct.getD ak.toNat ⟨#[]⟩).size≤6:=by
     have:ak.toNat=0∨ak.toNat=1:=by omega
     rcases this with h|h<;>rw[h]<;>decide
    have lk:(wAct.map encS).length=2:=rfl;have hAW:=JMR;generalize wAct.map encS=ks at *;generalize wAct.getD ak.toNat ⟨#[]⟩=wa at *;have y1:=J0C { data:=#[32] } wa;have y2:=J0C ({ data:=#[32] }++wa) { data:=#[32] };have y3:=J0C ({ data:=#[32] }++wa++{ data:=#[32] }) av;have y4:=J0C ({ data:=#[32] }++wa++{ data:=#[32] }++av) { data:=#[32] };have y5:=J0C ({ data:=#[32] }++wa++{ data:=#[32] }++av++{ data:=#[32] }) sl;refine J18 [(15,false),(16,true)] (by kernel_rfl) ?_;(refine kWQ ?_;repeat intro γ);refine CallG.intro _ c217 hAW ?_;(refine kWQ ?_;repeat intro γ);rw[gk];(refine kWQ ?_;repeat intro γ);refine CallG.intro _ c216 hs1 ?_;(refine kWQ ?_;repeat intro γ);refine J4q (b:=3) (g:=g) (d:=100) (g0:=g1) (p:=p') (l:=t) ({ data:=#[32] }++wa++{ data:=#[32] }++av++{ data:=#[32] }++sl) (by kernel_rfl) rfl hpf rfl (by decide) (by omega) fun γ2=>⟨[(3,g,_),(100,γ2,_)],⟨rfl,rfl,trivial⟩,?_⟩;obtain ⟨z,hzz⟩:∃ z,{ data:=#[32] }++wa++{ data:=#[32] }++av++{ data:=#[32] }++sl=z:=⟨_,rfl⟩;rw[hzz] at hT y5 ⊢;have hzl:z.data.toList.length=z.size:=rfl;(refine kWO ?_;repeat intro γ)
    refine .intro <| W.of ⟨_,by omega,.op 3 g 0 0,γ2,j+1,t++z.data.toList,rfl,h2,by rw[List.length_append,hzl];omega,.inr rfl,by rw[List.append_assoc,← List.append_assoc z.data.toList];exact hT,rfl,rfl⟩ ⟨rfl,rfl,rfl,rfl,rfl,rfl,rfl,trivial⟩ ⟨rfl,rfl,trivial⟩
   ·rw[List.drop_eq_nil_of_le h2] at hT;rw[JI0,List.nil_append,← hX,← List.append_assoc] at hT;(refine kWO ?_;repeat intro γ);refine J4q (b:=3) (g:=g) (d:=100) (g0:=g1) (p:=p') (l:=t) { data:=#[10] } (by kernel_rfl) rfl hpf rfl (by decide) (by show _+1≤_;omega) fun γ2=>⟨[(3,g,_),(100,γ2,_)],⟨rfl,rfl,trivial⟩,?_⟩;(refine kWO ?_;repeat intro γ)
    refine .intro <| W.of ⟨_,by omega,.op 3 g 0 0,γ2,i+1,t++[10],rfl,h1,by rw[List.length_append];show _+1≤_;omega,.inr rfl,hT,rfl,rfl⟩ ⟨rfl,rfl,rfl,rfl,trivial⟩ ⟨rfl,rfl,trivial⟩
  ·rw[List.drop_eq_nil_of_le h1] at hT;rw[J84,List.append_nil] at hT;subst hT;(refine kWO ?_;repeat intro γ);refine CallP.own c218 (HCall.mono (JFM (b:=3) (g:=g) (d:=100) (g0:=g1) (p:=p') (l:=t) rfl (by rcases hpf with rfl|rfl<;>rfl) rfl) ?_);rintro r h' ⟨rfl,rfl⟩;refine ⟨hp [],fun _=>.inr rfl,?_⟩;(refine kWO ?_;repeat intro γ);exact .of rfl
theorem JJB {l:List (ByteArray×Va)}{k:ByteArray}{v:Va}:∀ {x},x∈putK l k v→x∈l∨x=(k,v):=by
 induction l with
 |nil=>intro x h;right;simpa [putK] using h
 |cons y r ih=>
   intro x h;unfold putK at h;split at h
   ·rename_i e
    rcases List.mem_cons.1 h with rfl|h
    ·right;rw[e]
    ·left;simp[h]
   ·rcases List.mem_cons.1 h with rfl | h
    ·left;simp
    ·rcases ih h with h | h
     ·left;simp[h]
     ·exact .inr h
theorem JGl {vs:List Va}{x:ByteArray×Va}(h:x∈knownF vs):x.1=x.2.name∧x.2∈vs:=by
 have key:∀ (us:List Va) (l:List (ByteArray×Va)) (S:List Va),(∀ y∈l,y.1=y.2.name∧y.2∈S)→(∀ u∈us,u∈S)→∀ y∈us.foldl (fun l v=>putK l v.name v) l,y.1=y.2.name∧y.2∈S:=by
  intro us
  induction us with
  |nil=>intro l S h1 _;exact h1
  |cons u r ih=>
    intro l S h1 h2;rw[List.foldl_cons];refine ih _ _ (fun y hy=>?_) fun z hz=>h2 z (by simp[hz])
    rcases JJB hy with h|rfl
    ·exact h1 y h
    ·exact ⟨rfl,h2 u (by simp)⟩
 exact key vs [] vs (by simp) (fun _ h=>h) x h
theorem JAi:∀ {l:List Ex} {n:Int},J4A l n=false→∀ e∈l,tooF e=false
 |[],_,_,e,h=>by simp at h
 |x::r,n,h,e,he=>by
   unfold J4A at h;simp only[Bool.or_eq_false_iff] at h
   rcases List.mem_cons.1 he with rfl|he
   ·exact h.1
   ·exact JAi h.2 e he
theorem JA2 {ks:List (ByteArray×Va)}:∀ {l:List Ac} {S A:List ByteArray},(J3v ks l S A).1=true→∀ a∈l,(0≤a.kind∧a.kind≤1)∧(∃ v,J0y ks a.var=some v)∧builtF a.value=true
 |[],_,_,_,a,h=>by simp at h
 |x :: r,S,A,h,a,ha=>by
   unfold J3v at h
   by_cases hb:badA ks x (if x.kind=0 then A else S)=true
   ·rw[if_pos hb] at h;cases h
   ·rw[if_neg hb] at h
    rcases List.mem_cons.1 ha with rfl|ha
    ·unfold badA at hb
     revert hb
     cases hv:J0y ks a.var with
     |none=>intro hb;exact absurd rfl hb
     |some v=>
       intro hb;simp only[Bool.or_eq_true,not_or,Bool.and_eq_true,Bool.not_eq_true',decide_eq_false_iff_not,decide_eq_true_eq,typedF] at hb;obtain ⟨⟨⟨h1,_⟩,_⟩,h4⟩:=hb;refine ⟨by omega,⟨v,rfl⟩,?_⟩;have h5:=(Bool.not_eq_false _).mp h4;simp only[Bool.and_eq_true] at h5;exact h5.1.1
    ·by_cases h0:x.kind=0
     ·rw[if_pos h0] at h;exact JA2 h a ha
     ·rw[if_neg h0] at h;exact JA2 h a ha
theorem JAH {ks:List (ByteArray×Va)}:∀ {l:List Whn} {A:List ByteArray},J3y ks l A=true→∀ w∈l,builtF w.cond=true∧∀ a∈w.acts,(0≤a.kind∧a.kind≤1)∧(∃ v,J0y ks a.var=some v)∧builtF a.value=true
 |[],_,_,w,h=>by simp at h
 |x :: r,A,h,w,hw=>by
   unfold J3y at h;simp only[Bool.and_eq_true,typedF] at h
   rcases List.mem_cons.1 hw with rfl|hw
   ·refine ⟨h.1.1.1.1,?_⟩;have:=h.1.2;unfold JA3 at this;simp only[Bool.and_eq_true] at this;exact JA2 this.1
   ·exact JAH h.2 w hw
theorem JFA {s:Sys}(hs:SzS s)(hc:checkF s=0):TextOk s:=by
 unfold checkF at hc
 have hL:largeF s=false:=by
  cases h:largeF s
  ·rfl
  ·rw[h] at hc;simp at hc
 rw[hL] at hc
 have hV:validF s=true:=by
  cases h:validF s
  ·rw[h] at hc;simp at hc
  ·rfl
 unfold largeF at hL;simp only[Bool.or_eq_false_iff,decide_eq_false_iff_not] at hL;obtain ⟨⟨⟨l1,l2⟩,l3⟩,l4⟩:=hL;have ht:=JAi l4;unfold validF at hV;simp only[Bool.and_eq_true,Bool.not_eq_true'] at hV;obtain ⟨⟨⟨_,hv⟩,hq,hn⟩,hw⟩:=hV;have ex:∀ e∈allF s,builtF e=true→ExOk e:=fun e he hb=>⟨(hs.e e he).1,(hs.e e he).2,hb,Nat.le_trans (J9B (ht e he)) (by decide)⟩
 have eqk:∀ (l:List Eqn),(∀ e∈J1X l,e∈allF s)→(∀ q∈l,q.name.size<2^35)→l.all (eqT (knownF s.vars))=true→∀ q∈l,QnOk q:=by
  intro l h1 h2 h3 q hq;have:=List.all_eq_true.1 h3 q hq;unfold eqT typedF at this;simp only[Bool.and_eq_true] at this;exact ⟨h2 q hq,ex _ (h1 _ (J1U hq).1) this.1.1.1,ex _ (h1 _ (J1U hq).2) this.2.1.1⟩
 refine ⟨by omega,by omega,by omega,by omega,fun v hvm=>?_,eqk _ (fun e he=>by simp[allF,he]) hs.m.1 hq,eqk _ (fun e he=>by simp[allF,he]) hs.m.2.1 hn,fun w hwm=>?_⟩
 ·have:=List.any_eq_false.1 hv v hvm;simp only[Bool.not_eq_true,Bool.not_eq_false'] at this;unfold varF at this;simp only[Bool.and_eq_true] at this;have hk:=this.1.1.1.1;unfold J6p at hk;simp only[Bool.not_eq_true',Bool.or_eq_false_iff,Bool.and_eq_false_iff,decide_eq_false_iff_not,Bool.not_eq_false',decide_eq_true_eq] at hk;exact ⟨hs.t v hvm,by omega,by omega⟩
 ·have hwk:=JAH hw w hwm;have hm:=J4C hwm;have hl:=List.any_eq_false.1 l3 w hwm;refine ⟨hs.m.2.2 w hwm,ex _ (by simp[allF,hm.1]) hwk.1,by simpa using hl,fun a ha=>?_⟩;obtain ⟨h1,⟨v,h2⟩,h3⟩:=hwk.2 a ha;have:=JGl (J7T h2);refine ⟨h1,?_,ex _ (by simp[allF,hm.2 a ha]) h3⟩;rw[show a.var=v.name from this.1];exact (hs.t v this.2).1
def JAR (s:Sys):ByteArray×Int:=if checkF s≠0 then (⟨#[]⟩,checkF s) else if 8000<(JCB s).length then (⟨#[]⟩,2) else (⟨(JCB s).toArray⟩,0)
theorem JMU (s:Sys)(hs:SzS s):PX 41 [J0J s] (.tup [encS (JAR s).1,encI (JAR s).2]):=by
 refine PZ Tryz.func41 rfl ?_;have hC:=JEA s hs;generalize hF:JAR s=F;unfold JAR at hF;have ht:=fun h=>JER s (JFA hs h);generalize checkF s=ck at *;obtain ⟨vs,qs,ns,ws⟩:=s;unfold J0J at *;refine kWQ ?_;intros;refine CallP.flat [] _ c36 hC rfl ?_;refine kWQ ?_;intros;refine CondP.dec (fun h0=>?_) (fun h0=>?_)<;>refine kW ?_
 ·have ht:=ht h0;rw[if_neg (by omega)] at hF;generalize hT:JCB _=t at *;refine kQ ?_;intros;refine CallP.flat [] _ c108 ht rfl ?_;refine kWQ ?_;intros;have hz:(({ data:=t.toArray }:ByteArray).size:Int)=(t.length:Int):=rfl;rw[hz];refine CondP.dec (fun h1=>?_) (fun h1=>?_)<;>refine kW ?_
  ·refine kQ ?_;intros;refine .of ?_;rw[if_pos (by omega)] at hF;rw[← hF];rfl
  ·refine kQ ?_;intros;refine .of ?_;rw[if_neg (by omega)] at hF;rw[← hF];rfl
 ·rw[if_pos h0] at hF;refine kQ ?_;intros;refine .of ?_;rw[← hF];rfl
def lenV (v:Va):Nat:=v.name.size+v.value.size+v.start.size+v.unit.size
def JEt:List Va→Nat
 |[]=>0
 |v::r=>lenV v+JEt r
def greatS (s:Sys):Bool:=decide (40000<JEt s.vars)||decide (200<s.vars.length)||decide (200<s.eqs.length)||decide (200<s.inits.length)||decide (200<s.whens.length)
theorem JIP (s:Sys)(hs:SzS s)(hl:s.vars.length≤2^20):PX 29 [J0J s] (encB (greatS s)):=by
 refine PZ Tryz.func29 rfl ?_;have ht:=hs.t;generalize hF:greatS s=F;unfold greatS at hF;obtain ⟨vs,qs,ns,ws⟩:=s;simp only at hl ht hF;unfold J0J;simp only;have mv:=@List.length_map _ _ vs encV;have mq:=@List.length_map _ _ qs J0P;have mn:=@List.length_map _ _ ns J0P;have mw:=@List.length_map _ _ ws J0r;obtain ⟨S,hS⟩:∃ z,JEt vs=z:=⟨_,rfl⟩;rw[hS] at hF;refine kWQ ?_;intros
 refine LoopP.intro (fun k σ H=>∃ gs i,∃ t:Nat,k=vs.length-i∧i≤vs.length∧t≤i*2^38∧t+JEt (vs.drop i)=S ∧
   σ=fr [(1,.op 1 gs 0 0),(3,encI t),(4,encI i)] ∧
   H=hp [(1,gs,⟨26,4,[.agg [.sl 7 (vs.map encV),.sl 9 (qs.map J0P),.sl 9 (ns.map J0P),.sl 6 (ws.map J0r)]]⟩)]) ?_ ?_
 ·exact .intro (W.of ⟨_,_,0,0,rfl,Nat.zero_le _,Nat.zero_le _,by rw[Nat.zero_add];exact hS,rfl,rfl⟩ ⟨rfl,rfl,rfl,trivial⟩ ⟨rfl,trivial⟩)
 rintro k σ H ⟨gs,i,t,rfl,hi,htt,hT,rfl,rfl⟩
 rcases Nat.lt_or_ge i vs.length with h1|h1
 ·rw[List.drop_eq_getElem_cons h1] at hT;have hvi:=ht _ (List.getElem_mem h1);unfold JEt lenV at hT;obtain ⟨q1,q2,q3,q4⟩:=hvi;refine kWQ ?_;intros
  refine .intro <| W.of ⟨_,by omega,gs,i+1,t+(vs[i].name.size+vs[i].value.size+vs[i].start.size+vs[i].unit.size),rfl,h1,by omega,by omega,rfl,rfl⟩ ⟨rfl,?_,rfl,trivial⟩ ⟨rfl,trivial⟩
  exact congrArg encI (by push_cast;omega)
 ·rw[List.drop_eq_nil_of_le h1] at hT;unfold JEt at hT;rw[Nat.add_zero] at hT;subst hT;refine kWO ?_;intros;refine CondP.dec (fun c1=>?_) (fun c1=>?_)<;>refine kW ?_
  ·refine kQ ?_;intros;have e:F=true:=by rw[← hF];simp only[Bool.or_eq_true,decide_eq_true_eq];omega
   exact .of (by rw[e];rfl)
  refine kQ ?_;intros;refine CondP.dec (fun c2=>?_) (fun c2=>?_)<;>refine kW ?_
  ·refine kQ ?_;intros;have e:F=true:=by rw[← hF];simp only[Bool.or_eq_true,decide_eq_true_eq];omega
   exact .of (by rw[e];rfl)
  refine kQ ?_;intros;refine CondP.dec (fun c3=>?_) (fun c3=>?_)<;>refine kW ?_
  ·refine kQ ?_;intros;have e:F=true:=by rw[← hF];simp only[Bool.or_eq_true,decide_eq_true_eq];omega
   exact .of (by rw[e];rfl)
  refine kQ ?_;intros;refine CondP.dec (fun c4=>?_) (fun c4=>?_)<;>refine kW ?_
  ·refine kQ ?_;intros;have e:F=true:=by rw[← hF];simp only[Bool.or_eq_true,decide_eq_true_eq];omega
   exact .of (by rw[e];rfl)
  refine kQ ?_;intros;refine .of ?_;rw[decide_eq_false (by omega),decide_eq_false (by omega),decide_eq_false (by omega),decide_eq_false (by omega)] at hF;simp only[Bool.false_or] at hF;rw[← hF];exact congrArg encB (decide_eq_decide.2 (by omega))
theorem J8Q {e:EnvA}{ev:Ev}(h:openS e=.ok ev):openF e=some ev:=by
 unfold openS at h;split at h
 ·cases h
 ·split at h
  ·cases h
  ·rename_i ev' h';cases h;exact h'
theorem J6Z {e:EnvA}{ev:Ev}(h:openF e=some ev):(J05 e.time.data.toList).2=true∧numV e.time=ev.time∧e.init=ev.init∧∃ l,openL none e.binds []=some l:=by
 unfold openF at h;split at h
 ·rename_i h1
  cases ho:openL none e.binds [] with
  |none=>rw[ho] at h;cases h
  |some l=>rw[ho] at h;cases h;exact ⟨h1,rfl,rfl,l,rfl⟩
 ·cases h
theorem JCk (s:Sys)(hs:SzS s)(hc:checkF s=0)(e:EnvA)(he:SzB e)(ev:Ev)(ho:openF e=some ev)(u:U)(hk:∃ v,J0y (knownF s.vars) u.name=some v) :
  PX 207 [J0J s,J0e e,encU u] (J0O (J1s (knownF s.vars) ev u)):=by
 obtain ⟨v,hv⟩:=hk;obtain ⟨ha,ht⟩:=J8p hc;rw[ha] at hv;obtain ⟨j,hj,h1,h2⟩:=J8Y (i:=0) hv
 have htk:J99 (knownF s.vars) u.name=s.vars[j].type:=by
  unfold J99;rw[ha,hv,h2]
 obtain ⟨_,_,_,l,hl⟩:=J6Z ho;have:=JHu s e.binds e.time e.init u hs.v (Nat.le_trans he.l (by decide)) j hj (by unfold findR;rw[h1];omega) (ht _ (List.getElem_mem hj)) (fun b hb=>⟨(he.b b hb).2,J5C hl b hb⟩);rw[← htk,JFC ho] at this;exact this
theorem JBt (s:Sys)(hs:SzS s)(x:Ex)(hz:SzE x)(hx:TxE x)(e:EnvA)(he:SzB e)(ev:Ev)(h0:(typeS s x).2=0)(ho:openS e=.ok ev) :
  PX 106 [J0J s,encE x,J0e e] (J0O (evalF (knownF s.vars) ev x)):=by
 obtain ⟨hck,htl,hbb,htt,_⟩:=J98 h0;have hwt:=J9B htl;obtain ⟨p1,p2,p3,_⟩:=J6Z (J8Q ho);exact JCt s e (knownF s.vars) ev (J9P ho) he.t p1 p2 p3 (JCk s hs hck e he ev (J8Q ho)) x hz hx hbb htt (by omega)
theorem JKM (s:Sys)(x:Ex)(e:EnvA)(hs:SzS s)(hz:SzE x)(hx:TxE x)(he:SzB e):PX 40 [J0J s,encE x,J0e e] (J7v (evalS s x e)):=by
 refine PZ Tryz.func40 rfl ?_;have hT:=JKE s x hs hz hx;have hO:=JCv e he;have hEv:=JBt s hs x hz hx e he;generalize hF:evalS s x e=F;unfold evalS at hF;unfold envF at hO;have hty:=@J98 s x;have hev:=@J9P e;have her:=@JAf e;generalize typeS s x=ty at *;obtain ⟨t,c⟩:=ty;generalize knownF s.vars=ks at *;generalize openS e=oe at *;have hsz:=fun ev he hb v h=>@J5z ks ev he x hb v h;have hec:=fun ev hb ht c h=>@J4N ks ev x hb ht c h;obtain ⟨vs,qs,ns,ws⟩:=s;obtain ⟨tm,ini,bs⟩:=e;rw[J02] at *;unfold J0J J0e at *;simp only at *;refine kWQ ?_;intros;refine CallP.flat [] _ c105 hT rfl ?_
 by_cases h0:c=0
 case' neg=>
  rw[if_pos h0] at hF;refine kWQ ?_;intros;exact .of (by rw[← hF];rfl)
 subst h0;rw[if_neg (by simp)] at hF;obtain ⟨hck,htl,hbb,htt,_⟩:=hty rfl;have hwt:=J9B htl;refine kWQ ?_;intros
 cases oe with
 |error c=>
   have hc:¬ c=0:=by rcases her rfl with rfl|rfl<;>decide
   simp only at hO;refine CallP.flat [] _ c81 hO rfl ?_;refine kWQ ?_;intros;exact .of (by rw[← hF];rfl)
 |ok ev=>
   have hev:=hev rfl;have hE:=hEv ev rfl rfl;have hsz:=hsz ev hev hbb;have hec:=hec ev hbb htt;simp only at hO;refine CallP.flat [] _ c81 hO rfl ?_;refine kWQ ?_;intros
   cases hr:evalF ks ev x with
   |error c=>
     have hc:=(hec c hr).ne;rw[hr] at hE;have hF:((⟨#[]⟩,c):ByteArray×Int)=F:=by rw[← hF];show _=outV _;rw[hr];rfl
     unfold J0O nilV at hE;refine J00 [] _ c106 hE ?_;refine kWQ ?_;intros;exact .of (by rw[← hF];rfl)
   |ok v=>
     have hv:=hsz v hr;rw[hr] at hE;have hF:outV (.ok v)=F:=by rw[← hF];show _=outV _;rw[hr]
     have hOut:=JKI v (by have:301*wtF x≤301*1000:=Nat.mul_le_mul_left _ (by omega);omega);rw[hF] at hOut;obtain ⟨f1,f2⟩:=F;unfold J0O J7v at *;clear hF hr hsz hec
     rcases v with q|b
     all_goals
      unfold J0M at *;refine J00 [] _ c106 hE ?_;refine kWQ ?_;intros;refine CallP.flat [] _ c107 hOut rfl ?_;refine kWQ ?_;intros;exact .of rfl
def manyF (e:EnvA):Bool:=decide (300<e.binds.length)&&decide (e.binds.length≤1000)
theorem JLf (e:EnvA)(hl:e.binds.length≤2^60):PX 38 [J0e e] (encB (manyF e)):=by
 refine PZ Tryz.func38 rfl ?_;obtain ⟨tm,ini,bs⟩:=e;simp only at hl;generalize hF:manyF ⟨tm,ini,bs⟩=F;unfold manyF at hF;simp only at hF;unfold J0e;have hml:=@List.length_map _ _ bs J74;refine kWQ ?_;intros;refine CondP.dec (fun h1=>?_) (fun h1=>?_)<;>refine kW ?_
 ·refine kQ ?_;intros
  have h2:300<bs.length:=by first|omega|(rw[List.length_map] at h1;omega)
  rw[decide_eq_true h2,Bool.true_and] at hF;refine .of ?_;rw[← hF];show AV.val (.bool (decide _))=AV.val (.bool (decide _))
  congr 2
  exact decide_eq_decide.2 (by first|omega|(rw[List.length_map];omega))
 ·refine kQ ?_;intros
  have h2:¬ 300<bs.length:=by first|omega|(rw[List.length_map] at h1;omega)
  rw[decide_eq_false h2,Bool.false_and] at hF;exact .of (by rw[← hF];rfl)
theorem J80 (ha:PX 35 [] (encB true))(s:Sys)(hs:SzS s)(x:Ex)(hz:SzE x)(hx:TxE x)(e:EnvA)(he:SzB e):PX 9 [J0J s,encE x,J0e e] (encB true):=by
 refine PZ Tryz.func9 rfl ?_;have hg:=JIP s hs hs.v20;have hm:=JLf e (Nat.le_trans he.l (by decide));have h1:=J68 s x e hs hz hx he;have h2:=JKM s x e hs hz hx he;generalize greatS s=gr at *;generalize manyF e=mf at *;generalize evalS s x e=r at *;obtain ⟨r1,r2⟩:=r;obtain ⟨vs,qs,ns,ws⟩:=s;obtain ⟨tm,ini,bs⟩:=e;rw[J02] at *;unfold J0J J0e J7v at *;simp only at *;clear hs hz hx he;refine kWQ ?_;intros;refine CallP.flat [] _ c29 hg rfl ?_
 cases gr with
 |true=>
   refine kWQ ?_;intros;refine CallP.flat [] _ c35 ha rfl ?_;refine kWQ ?_;intros;exact .of rfl
 |false=>
 refine kWQ ?_;intros;refine CallP.flat [] _ c38 hm rfl ?_
 cases mf with
 |true=>
   refine kWQ ?_;intros;refine CallP.flat [] _ c35 ha rfl ?_;refine kWQ ?_;intros;exact .of rfl
 |false=>
   refine kWQ ?_;intros;refine CallP.flat [] _ c39 h1 rfl ?_;refine kWQ ?_;intros;refine CallP.flat [] _ c40 h2 rfl ?_;refine kWQ ?_;intros;simp only[decide_true];refine kQ ?_;intros;refine CallP.flat [] _ c35 ha rfl ?_;refine kWQ ?_;intros;simp only[decide_true];refine kQ ?_;intros;exact .of rfl
def opE (o:ByteArray)(l:List Ex):Ex:=.mk o ⟨#[]⟩ 0 l
def numE (t:ByteArray):Ex:=.mk oNum t 0 []
def refE (t:ByteArray)(n:Int):Ex:=.mk oVar t n []
def exS:Sys:=⟨[⟨⟨#[107]⟩,2,0,⟨#[50]⟩,⟨#[]⟩,false,⟨#[]⟩⟩,⟨⟨#[120]⟩,0,0,⟨#[]⟩,⟨#[49]⟩,true,⟨#[]⟩⟩],[⟨⟨#[101]⟩,refE ⟨#[120]⟩ 1,opE ⟨#[110,101,103]⟩ [opE ⟨#[109,117,108]⟩ [refE ⟨#[107]⟩ 0,refE ⟨#[120]⟩ 0]]⟩],[],[]⟩
def exT:List UInt8:=[118,97,114,32,107,32,112,97,114,97,109,32,110,117,109,98,101,114,32,118,97,108,117,101,61,50,10,118,97,114,32,120,32,99,111,110,116,105,110,117,111,117,115,32,110,117,109,98,101,114,32,115,116,97,114,116,61,49,32,102,105,120,101,100,10,101,113,32,101,32,64,120,58,39,32,110,101,103,40,109,117,108,40,64,107,59,64,120,41,41,10]
def J4L:EnvA:=⟨⟨#[51,47,50]⟩,false,[⟨⟨⟨#[120]⟩,0,false⟩,⟨#[48]⟩⟩]⟩
def ex1:Ex:=opE ⟨#[100,105,118]⟩ [numE ⟨#[49]⟩,refE ⟨#[120]⟩ 0]
def ex2:Ex:=opE ⟨#[105,102]⟩ [opE ⟨#[108,101,115,115]⟩ [refE ⟨#[120]⟩ 0,numE ⟨#[49]⟩],numE ⟨#[48]⟩,opE ⟨#[100,105,118]⟩ [numE ⟨#[49]⟩,refE ⟨#[120]⟩ 0]]
def ex3:Ex:=opE ⟨#[115,97,109,112,108,101]⟩ [numE ⟨#[48]⟩,numE ⟨#[49,47,50]⟩]
theorem JM0:evalS exS ex1 J4L=(⟨#[]⟩,12):=by kernel_rfl
theorem JLz:evalS exS ex2 J4L=(⟨#[48]⟩,0):=by kernel_rfl
theorem JLy:evalS exS ex3 J4L=(⟨#[116,114,117,101]⟩,0):=by kernel_rfl
def GdE (e:Ex):Prop:=SzE e∧TxE e
theorem J2x {o t:ByteArray}{n:Int}{l:List Ex}(h1:o.size≤100)(h2:t.size≤100)(h3:l.length≤100)(h:∀ e∈l,GdE e):GdE (.mk o t n l):=
 ⟨SzE.mk (by omega) (by omega) (by omega) fun k hk=>(h k hk).1,TxE.mk (by omega) fun k hk=>(h k hk).2⟩
theorem gd1:GdE ex1:=by
 refine J2x (by decide) (by decide) (by decide) ?_;simp only[List.forall_mem_cons,List.not_mem_nil,false_imp_iff,implies_true,and_true];exact ⟨J2x (by decide) (by decide) (by decide) (by simp),J2x (by decide) (by decide) (by decide) (by simp)⟩
theorem gd2:GdE ex2:=by
 refine J2x (by decide) (by decide) (by decide) ?_;simp only[List.forall_mem_cons,List.not_mem_nil,false_imp_iff,implies_true,and_true]
 refine ⟨J2x (by decide) (by decide) (by decide) ?_,J2x (by decide) (by decide) (by decide) (by simp),J2x (by decide) (by decide) (by decide) ?_⟩ <;>
  simp only[List.forall_mem_cons,List.not_mem_nil,false_imp_iff,implies_true,and_true] <;>
  exact ⟨J2x (by decide) (by decide) (by decide) (by simp),J2x (by decide) (by decide) (by decide) (by simp)⟩
theorem gd3:GdE ex3:=by
 refine J2x (by decide) (by decide) (by decide) ?_;simp only[List.forall_mem_cons,List.not_mem_nil,false_imp_iff,implies_true,and_true];exact ⟨J2x (by decide) (by decide) (by decide) (by simp),J2x (by decide) (by decide) (by decide) (by simp)⟩
theorem JDA:SzS exS:=by
 refine ⟨by decide,by decide,by decide,by decide,by simp[exS],?_,?_,?_,by decide⟩
 ·intro e he;simp only[exS,allF,J1X,List.flatMap_cons,List.flatMap_nil,List.append_nil,List.mem_cons,List.not_mem_nil,or_false] at he
  rcases he with rfl|rfl
  ·exact J2x (by decide) (by decide) (by decide) (by simp)
  ·refine J2x (by decide) (by decide) (by decide) ?_;simp only[List.forall_mem_cons,List.not_mem_nil,false_imp_iff,implies_true,and_true];refine J2x (by decide) (by decide) (by decide) ?_;simp only[List.forall_mem_cons,List.not_mem_nil,false_imp_iff,implies_true,and_true];exact ⟨J2x (by decide) (by decide) (by decide) (by simp),J2x (by decide) (by decide) (by decide) (by simp)⟩
 ·intro v hv;simp only[exS,List.mem_cons,List.not_mem_nil,or_false] at hv
  rcases hv with rfl|rfl<;>decide
 ·refine ⟨?_,by simp[exS],by simp[exS]⟩;intro q hq;simp only[exS,List.mem_cons,List.not_mem_nil,or_false] at hq;subst hq;decide
theorem JH7:JAR exS=(⟨exT.toArray⟩,0):=by kernel_rfl
theorem JG5:SzB J4L:=by
 refine ⟨by decide,by decide,fun b hb=>?_⟩;simp only[J4L,List.mem_cons,List.not_mem_nil,or_false] at hb;subst hb;decide
theorem JNj:PX 41 [J0J exS] (.tup [encS ⟨exT.toArray⟩,encI 0]):=by
 have:=JMU exS JDA;rw[JH7] at this;exact this
theorem JNO:PX 39 [J0J exS,encE ex1,J0e J4L] (.tup [encS ⟨#[]⟩,encI 12]):=by
 have:=J68 exS ex1 J4L JDA gd1.1 gd1.2 JG5;rw[JM0] at this;exact this
theorem JNN:PX 39 [J0J exS,encE ex2,J0e J4L] (.tup [encS ⟨#[48]⟩,encI 0]):=by
 have:=J68 exS ex2 J4L JDA gd2.1 gd2.2 JG5;rw[JLz] at this;exact this
theorem JNM:PX 39 [J0J exS,encE ex3,J0e J4L] (.tup [encS ⟨#[116,114,117,101]⟩,encI 0]):=by
 have:=J68 exS ex3 J4L JDA gd3.1 gd3.2 JG5;rw[JLy] at this;exact this
def tab2:Tab:=[(41,[J0J exS],.tup [encS ⟨exT.toArray⟩,encI 0]),(39,[J0J exS,encE ex1,J0e J4L],.tup [encS ⟨#[]⟩,encI 12]),
 (39,[J0J exS,encE ex2,J0e J4L],.tup [encS ⟨#[48]⟩,encI 0]),(39,[J0J exS,encE ex3,J0e J4L],.tup [encS ⟨#[116,114,117,101]⟩,encI 0])]
theorem JLK:TabOk XR.E.P tab2:=by
 refine ⟨?_⟩;unfold tab2;simp only[List.forall_mem_cons,List.not_mem_nil,false_imp_iff,implies_true,and_true];exact ⟨⟨c41,JNj,rfl⟩,⟨c39,JNO,rfl⟩,⟨c39,JNN,rfl⟩,⟨c39,JNM,rfl⟩⟩
theorem JFE:PX 35 [] (encB true):=JEZ JBa JLK (fuel:=100) (n:=10) (by kernel_rfl)
theorem OpenB.low {H:Type}{L:DataW H→Prop}{N M:Nat}{enc:TypeId×Value→H}{P:Program}{w:World}{t:Nat}{Ψ:List AV→Prop}(h:OpenB L M enc P w t Ψ)(hn:N≤M):OpenB L N enc P w t Ψ:=fun fuel hf=>h fuel (Nat.le_trans hf hn)
theorem J28 {t e:Nat}{d:Fw.TD}(hd:T t=some d)(hk:d.kind=.slice e):Tryz.prog.underlying t=some (.slice e):=by
 obtain ⟨u,hu,hr⟩:=(J0f (J4j _ _ hd)).und;rw[hk] at hr;cases u<;>simp[kdOf] at hr
 subst hr;exact hu
theorem u3:Tryz.prog.underlying 3=some (.int .i64):=by kernel_rfl
theorem u4:Tryz.prog.underlying 4=some .bool:=by kernel_rfl
theorem u9:Tryz.prog.underlying 9=some .string:=by kernel_rfl
section
variable {H:Type} {enc:TypeId×Value→H} {w:World} {L:DataW H→Prop} {B0:Nat}
abbrev pS (B0:Nat):List AV→Prop:=fun z=>∃ s:ByteArray,z=[AV.val (.string s)]∧s.size≤B0
abbrev pI:List AV→Prop:=fun z=>∃ n:Int,z=[AV.val (.int .i64 n)]
abbrev pB:List AV→Prop:=fun z=>∃ b:Bool,z=[AV.val (.bool b)]
theorem JNs (hL:LB L B0)(N:Nat):OpenB L (N+1) enc Tryz.prog w 46 fun z=>∃ u:U,z=(encU u).cells∧u.name.size≤B0:=by
 obtain ⟨fs,hu,hf⟩:=J0W (J4j 46 _ rfl) rfl
 refine (J0h hL hu [(0,9,1,pS B0),(1,3,1,pI),(2,4,1,pB)] hf (by
  intro p hp;simp only[List.mem_cons,List.not_mem_nil,or_false] at hp
  rcases hp with rfl|rfl|rfl<;>kernel_rfl) (by kernel_rfl) (by
  intro p hp;simp only[List.mem_cons,List.not_mem_nil,or_false] at hp
  rcases hp with rfl|rfl|rfl
  ·exact J0u hL u9
  ·exact J2v u3
  ·exact J5E u4)).mono ?_
 rintro z ⟨zs,rfl,h⟩
 match zs,h with
 |[z0,z1,z2],⟨⟨s,h0,hs⟩,⟨n,h1⟩,⟨b,h2⟩,_⟩=>
   subst h0 h1 h2;exact ⟨⟨s,n,b⟩,rfl,hs⟩
def JBr (e:Ex):Prop:=SzE e∧TxE e
abbrev pExp (w:World):List AV→Prop:=fun z=>∃ e:Ex,z=(encE e).cells∧JBr e
theorem JEo (hL:LB L B0)(hB:B0<2^21):∀ N:Nat,OpenB L N enc Tryz.prog w 42 (pExp w)
 |0=>by
   intro fuel hf cs x h _;obtain ⟨fs,hu,_⟩:=J0W (J4j 42 _ rfl) rfl;obtain ⟨_,n,hn,_⟩:=DataW.trod_struct hu h;omega
 |N + 1=>by
   obtain ⟨fs,hu,hf⟩:=J0W (J4j 42 _ rfl) rfl;have hk:=OpenB.low (J1S (n:=4) (f:=encE) (Φ:=JBr) hL (J28 (t:=40) (e:=42) rfl rfl) (by kernel_rfl) (by decide) (JEo hL hB N)) (Nat.le_succ N)
   refine (J0h hL hu [(0,9,1,pS B0),(1,9,1,pS B0),(2,3,1,pI),(3,40,1,_)] hf (by
    intro p hp;simp only[List.mem_cons,List.not_mem_nil,or_false] at hp
    rcases hp with rfl|rfl|rfl|rfl<;>kernel_rfl) (by kernel_rfl) (by
    intro p hp;simp only[List.mem_cons,List.not_mem_nil,or_false] at hp
    rcases hp with rfl|rfl|rfl|rfl
    ·exact J0u hL u9
    ·exact J0u hL u9
    ·exact J2v u3
    ·exact hk)).mono ?_
   rintro z ⟨zs,rfl,h⟩
   match zs,h with
   |[z0,z1,z2,z3],⟨⟨o,h0,ho⟩,⟨t,h1,ht⟩,⟨n,h2⟩,⟨l,h3,hl,hg⟩,_⟩=>
     subst h0 h1 h2 h3;refine ⟨.mk o t n l,?_,SzE.mk (by omega) (by omega) (by omega) fun k hk=>(hg k hk).1,TxE.mk (by omega) fun k hk=>(hg k hk).2⟩;rw[J02];rfl
theorem JN2 (hL:LB L B0)(hB:B0<2^21)(N:Nat):OpenB L (N+1) enc Tryz.prog w 44 fun z=>∃ q:Eqn,z=(J0P q).cells∧q.name.size≤B0∧JBr q.left∧JBr q.right:=by
 obtain ⟨fs,hu,hf⟩:=J0W (J4j 44 _ rfl) rfl
 refine (J0h hL hu [(0,9,1,pS B0),(1,42,4,pExp w),(5,42,4,pExp w)] hf (by
  intro p hp;simp only[List.mem_cons,List.not_mem_nil,or_false] at hp
  rcases hp with rfl|rfl|rfl<;>kernel_rfl) (by kernel_rfl) (by
  intro p hp;simp only[List.mem_cons,List.not_mem_nil,or_false] at hp
  rcases hp with rfl|rfl|rfl
  ·exact J0u hL u9
  ·exact JEo hL hB N
  ·exact JEo hL hB N)).mono ?_
 rintro z ⟨zs,rfl,h⟩
 match zs,h with
 |[z0,z1,z2],⟨⟨s,h0,hs⟩,⟨a,h1,ha⟩,⟨b,h2,hb⟩,_⟩=>
   subst h0 h1 h2;refine ⟨⟨s,a,b⟩,?_,hs,ha,hb⟩;rw[J08,J08];rfl
theorem JN4 (hL:LB L B0)(hB:B0<2^21)(N:Nat):OpenB L (N+1) enc Tryz.prog w 256 fun z=>∃ a:Ac,z=(J75 a).cells∧JBr a.value:=by
 obtain ⟨fs,hu,hf⟩:=J0W (J4j 256 _ rfl) rfl
 refine (J0h hL hu [(0,3,1,pI),(1,9,1,pS B0),(2,42,4,pExp w)] hf (by
  intro p hp;simp only[List.mem_cons,List.not_mem_nil,or_false] at hp
  rcases hp with rfl|rfl|rfl<;>kernel_rfl) (by kernel_rfl) (by
  intro p hp;simp only[List.mem_cons,List.not_mem_nil,or_false] at hp
  rcases hp with rfl|rfl|rfl
  ·exact J2v u3
  ·exact J0u hL u9
  ·exact JEo hL hB N)).mono ?_
 rintro z ⟨zs,rfl,h⟩
 match zs,h with
 |[z0,z1,z2],⟨⟨n,h0⟩,⟨s,h1,hs⟩,⟨b,h2,hb⟩,_⟩=>
   subst h0 h1 h2;refine ⟨⟨n,s,b⟩,?_,hb⟩;rw[J08];rfl
theorem JMz (hL:LB L B0)(hB:B0<2^21)(N:Nat):OpenB L (N+3) enc Tryz.prog w 163 fun z=>∃ a:Whn,z=(J0r a).cells∧a.name.size≤B0∧a.acts.length≤B0∧JBr a.cond∧∀ x∈a.acts,JBr x.value:=by
 obtain ⟨fs,hu,hf⟩:=J0W (J4j 163 _ rfl) rfl;have hk:=J1S (n:=6) (f:=J75) (Φ:=fun a=>JBr a.value) hL (J28 (t:=161) (e:=256) rfl rfl) (by kernel_rfl) (by decide) (JN4 (enc:=enc) (w:=w) hL hB N)
 refine (J0h hL hu [(0,9,1,pS B0),(1,42,4,pExp w),(5,161,1,_)] hf (by
  intro p hp;simp only[List.mem_cons,List.not_mem_nil,or_false] at hp
  rcases hp with rfl|rfl|rfl<;>kernel_rfl) (by kernel_rfl) (by
  intro p hp;simp only[List.mem_cons,List.not_mem_nil,or_false] at hp
  rcases hp with rfl|rfl|rfl
  ·exact J0u hL u9
  ·exact JEo hL hB _
  ·exact hk)).mono ?_
 rintro z ⟨zs,rfl,h⟩
 match zs,h with
 |[z0,z1,z2],⟨⟨s,h0,hs⟩,⟨a,h1,ha⟩,⟨l,h2,hl,hb⟩,_⟩=>
   subst h0 h1 h2;refine ⟨⟨s,a,l⟩,?_,hs,hl,ha,hb⟩;rw[J08];rfl
theorem JN0 (hL:LB L B0)(N:Nat):OpenB L (N+1) enc Tryz.prog w 83 fun z=>∃ v:Va,z=(encV v).cells∧v.name.size≤B0∧v.value.size≤B0∧v.start.size≤B0∧v.unit.size≤B0:=by
 obtain ⟨fs,hu,hf⟩:=J0W (J4j 83 _ rfl) rfl
 refine (J0h hL hu [(0,9,1,pS B0),(1,3,1,pI),(2,3,1,pI),(3,9,1,pS B0),(4,9,1,pS B0),(5,4,1,pB),(6,9,1,pS B0)] hf (by
  intro p hp;simp only[List.mem_cons,List.not_mem_nil,or_false] at hp
  rcases hp with rfl|rfl|rfl|rfl|rfl|rfl|rfl<;>kernel_rfl) (by kernel_rfl) (by
  intro p hp;simp only[List.mem_cons,List.not_mem_nil,or_false] at hp
  rcases hp with rfl|rfl|rfl|rfl|rfl|rfl|rfl
  ·exact J0u hL u9
  ·exact J2v u3
  ·exact J2v u3
  ·exact J0u hL u9
  ·exact J0u hL u9
  ·exact J5E u4
  ·exact J0u hL u9)).mono ?_
 rintro z ⟨zs,rfl,h⟩
 match zs,h with
 |[z0,z1,z2,z3,z4,z5,z6],⟨⟨a,h0,g0⟩,⟨b,h1⟩,⟨c,h2⟩,⟨d,h3,g3⟩,⟨e,h4,g4⟩,⟨f,h5⟩,⟨g,h6,g6⟩,_⟩=>
   subst h0 h1 h2 h3 h4 h5 h6;exact ⟨⟨a,b,c,d,e,f,g⟩,rfl,g0,g3,g4,g6⟩
theorem JN1 (hL:LB L B0)(hB:B0≤2^20)(N:Nat):OpenB L (N+5) enc Tryz.prog w 26 fun z=>∃ s:Sys,z=(J0J s).cells∧SzS s:=by
 obtain ⟨fs,hu,hf⟩:=J0W (J4j 26 _ rfl) rfl;have hB':B0<2^21:=by omega
 have k1:=OpenB.low (J1S (n:=7) (f:=encV) hL (J28 (t:=22) (e:=83) rfl rfl) (by kernel_rfl) (by decide) (JN0 (enc:=enc) (w:=w) hL (N+2))) (N:=N+4) (by omega);have k2:=OpenB.low (J1S (n:=9) (f:=J0P) hL (J28 (t:=23) (e:=44) rfl rfl) (by kernel_rfl) (by decide) (JN2 (enc:=enc) (w:=w) hL hB' (N+2))) (N:=N+4) (by omega);have k3:=OpenB.low (J1S (n:=6) (f:=J0r) hL (J28 (t:=24) (e:=163) rfl rfl) (by kernel_rfl) (by decide) (JMz (enc:=enc) (w:=w) hL hB' N)) (N:=N+4) (by omega)
 refine (J0h hL hu [(0,22,1,_),(1,23,1,_),(2,23,1,_),(3,24,1,_)] hf (by
  intro p hp;simp only[List.mem_cons,List.not_mem_nil,or_false] at hp
  rcases hp with rfl|rfl|rfl|rfl<;>kernel_rfl) (by kernel_rfl) (by
  intro p hp;simp only[List.mem_cons,List.not_mem_nil,or_false] at hp
  rcases hp with rfl|rfl|rfl|rfl
  ·exact k1
  ·exact k2
  ·exact k2
  ·exact k3)).mono ?_
 rintro z ⟨zs,rfl,h⟩
 match zs,h with
 |[z0,z1,z2,z3],⟨⟨vs,h0,l0,g0⟩,⟨qs,h1,l1,g1⟩,⟨ns,h2,l2,g2⟩,⟨ws,h3,l3,g3⟩,_⟩=>
   subst h0 h1 h2 h3;refine ⟨⟨vs,qs,ns,ws⟩,rfl,⟨by simp only;omega,by simp only;omega,by simp only;omega,by simp only;omega,fun w hw=>?_,fun e he=>?_,fun v hv=>?_,⟨fun q hq=>?_,fun q hq=>?_,fun w hw=>?_⟩,by simp only;omega⟩⟩
   ·have:=(g3 w hw).2.1;omega
   ·unfold allF at he
    rcases List.mem_append.1 he with he|he
    ·rcases List.mem_append.1 he with he | he
     ·unfold J1X at he;obtain ⟨q,hq,he⟩:=List.mem_flatMap.1 he;simp only[List.mem_cons,List.not_mem_nil,or_false] at he
      rcases he with rfl|rfl
      ·exact (g1 q hq).2.1
      ·exact (g1 q hq).2.2
     ·unfold J1X at he;obtain ⟨q,hq,he⟩:=List.mem_flatMap.1 he;simp only[List.mem_cons,List.not_mem_nil,or_false] at he
      rcases he with rfl|rfl
      ·exact (g2 q hq).2.1
      ·exact (g2 q hq).2.2
    ·obtain ⟨x,hx,he⟩:=List.mem_flatMap.1 he;unfold J3z at he
     rcases List.mem_cons.1 he with rfl|he
     ·exact (g3 x hx).2.2.1
     ·obtain ⟨a,ha,rfl⟩:=List.mem_map.1 he;exact (g3 x hx).2.2.2 a ha
   ·have:=g0 v hv;exact ⟨by omega,by omega,by omega,by omega⟩
   ·have:=(g1 q hq).1;omega
   ·have:=(g2 q hq).1;omega
   ·have:=(g3 w hw).1;omega
end
theorem JHy (e:Ex):AV.agg (encE e).cells=encE e:=by rw[J08];rfl
section
variable {H:Type} {enc:TypeId×Value→H} {w:World} {L:DataW H→Prop} {B0:Nat}
theorem JN3 (hL:LB L B0)(N:Nat):OpenB L (N+2) enc Tryz.prog w 154 fun z=>∃ b:Bd,z=(J74 b).cells∧b.use.name.size≤B0∧b.value.size≤B0:=by
 obtain ⟨fs,hu,hf⟩:=J0W (J4j 154 _ rfl) rfl
 refine (J0h hL hu [(0,46,3,_),(3,9,1,pS B0)] hf (by
  intro p hp;simp only[List.mem_cons,List.not_mem_nil,or_false] at hp
  rcases hp with rfl|rfl<;>kernel_rfl) (by kernel_rfl) (by
  intro p hp;simp only[List.mem_cons,List.not_mem_nil,or_false] at hp
  rcases hp with rfl|rfl
  ·exact JNs hL N
  ·exact J0u hL u9)).mono ?_
 rintro z ⟨zs,rfl,h⟩
 match zs,h with
 |[z0,z1],⟨⟨u,h0,hs⟩,⟨v,h1,hv⟩,_⟩=>
   subst h0 h1;exact ⟨⟨u,v⟩,rfl,hs,hv⟩
theorem JLX (hL:LB L B0)(hB:B0≤2^20)(N:Nat):OpenB L (N+4) enc Tryz.prog w 50 fun z=>∃ e:EnvA,z=(J0e e).cells∧SzB e:=by
 obtain ⟨fs,hu,hf⟩:=J0W (J4j 50 _ rfl) rfl;have k:=J1S (n:=4) (f:=J74) hL (J28 (t:=48) (e:=154) rfl rfl) (by kernel_rfl) (by decide) (JN3 (enc:=enc) (w:=w) hL N)
 refine (J0h hL hu [(0,9,1,pS B0),(1,4,1,pB),(2,48,1,_)] hf (by
  intro p hp;simp only[List.mem_cons,List.not_mem_nil,or_false] at hp
  rcases hp with rfl|rfl|rfl<;>kernel_rfl) (by kernel_rfl) (by
  intro p hp;simp only[List.mem_cons,List.not_mem_nil,or_false] at hp
  rcases hp with rfl|rfl|rfl
  ·exact J0u hL u9
  ·exact J5E u4
  ·exact k)).mono ?_
 rintro z ⟨zs,rfl,h⟩
 match zs,h with
 |[z0,z1,z2],⟨⟨t,h0,ht⟩,⟨b,h1⟩,⟨l,h2,hl,hg⟩,_⟩=>
   subst h0 h1 h2
   exact ⟨⟨t,b,l⟩,rfl,by simp only;omega,by simp only;omega,fun x hx=>by
    have:=hg x hx
    constructor<;>omega⟩
end
structure G where
 eqs:List ByteArray
 uses:List U
 joined:List (List Int)
end Go.Proofs.YtlhdoekgipaihaaGreatDoor
namespace Go.Proofs.YtlhdoekgipaihaaGreatDoor
open Go Go.Fw Go.ChangeShapes Go.WideShapes Go.ChangeAt Go.RowKit
theorem JJE:ownKnob Tryz.prog.godebug=none:=by kernel_rfl
theorem J5w:laidOutB Tryz.prog=true:=by kernel_rfl
section
variable {H:Type}
theorem JO0 (d:DataW H):1≤Rows.uptoBulk d:=by
 cases d with
 |lit l=>cases l<;>simp[Rows.uptoBulk]
 |_=>simp[Rows.uptoBulk]
theorem J7S {d:DataW H}{l:List (DataW H)}(h:d∈l):Rows.uptoBulk d≤Rows.uptoBulkAll l:=by
 induction l with
 |nil=>cases h
 |cons x r ih=>
   simp only[Rows.uptoBulkAll]
   cases List.mem_cons.1 h with
   |inl e=>subst e;omega
   |inr e=>have:=ih e;omega
theorem JK5 (l:List (DataW H)):l.length≤Rows.uptoBulkAll l:=by
 induction l with
 |nil=>simp[Rows.uptoBulkAll]
 |cons x r ih=>have:=JO0 x;simp only[Rows.uptoBulkAll,List.length_cons];omega
abbrev Blk (H:Type):DataW H→Prop:=fun d=>Rows.uptoBulk d≤1048576
theorem JHt:LB (Blk H) 1048576:=by
 refine ⟨fun e s h=>?_,fun p h d hd=>?_,fun s h=>?_⟩
 ·have h:Rows.uptoBulkAll e+Rows.uptoBulkAll s+1≤1048576:=by simpa [Blk,Rows.uptoBulk] using h
  refine ⟨by have:=JK5 e;omega,fun d hd=>?_⟩;have:=J7S hd;show Rows.uptoBulk d≤1048576
  omega
 ·have h:Rows.uptoBulkAll p+1≤1048576:=by simpa [Blk,Rows.uptoBulk] using h
  have:=J7S hd;show Rows.uptoBulk d≤1048576
  omega
 ·have h:s.length+1≤1048576:=by simpa [Blk,Rows.uptoBulk] using h
  omega
theorem JGE {l:List (DataW H)}(h:Rows.uptoSmall H l=true):∀ d∈l,Blk H d:=fun d hd=>by
 have h:Rows.uptoBulkAll l≤1048576:=by simpa [Rows.uptoSmall] using h
 exact Nat.le_trans (J7S hd) h
end
section
variable {H:Type} {enc:TypeId×Value→H} {w:World} {L:DataW H→Prop} {N t:Nat} {Ψ:List AV→Prop}
theorem J9O (hO:OpenB L N enc Tryz.prog w t Ψ){fuel:Nat}(hf:fuel≤N){v:Value}{x:DataW H×List MemPlace}(hv:∃ cs,v=.agg cs)(h:DataW.trod enc Tryz.prog w 0 (fun _=>true) true fuel t v.cells.toList=some x)(hl:L x.1):∃ z,Ψ z∧VR KM.empty w NoN (.agg z) v:=by
 obtain ⟨z,h1,h2⟩:=hO fuel hf _ x h hl;obtain ⟨cs,rfl⟩:=hv;have e:(Value.agg cs).cells.toList=cs.toList:=by simp[Value.cells]
 rw[e] at h1;refine ⟨z,h2,.agg _ cs (h1.len.trans (by simp)) (fun i h h'=>?_) (fun i h=>h1.pl _ (by simp))⟩;have:=h1.rel i h (by simpa using h');rw[Array.getElem_toList] at this;exact this
end
def flatD:Nat→DataW Unit→List Value
 |_,.lit (.int k n)=>[.int k n]
 |n+1,.agg ps=>ps.flatMap (flatD n)
 |_,_=>[]
def putT (d:DataW Unit):Obj→Obj
 |.cells _ t z=>.cells (flatD 3 d).toArray t z
 |o=>o
noncomputable def laidW (os:Os):World:=
 { World.holding Tryz.prog os ⟨#[],#[],[]⟩ with heap:=((World.holding Tryz.prog os ⟨#[],#[],[]⟩).heap.modify 1 (putT Rows.laid_unicode_utf8_first)).modify 2 (putT Rows.laid_unicode_utf8_acceptRanges) }
abbrev laidL:List (String×DataW Unit):=[("unicode/utf8.acceptRanges",Rows.laid_unicode_utf8_acceptRanges),("unicode/utf8.first",Rows.laid_unicode_utf8_first)]
theorem JJP (os:Os)(args:Array Value):laidMet Tryz.prog laidL ((laidW os).forCall (fun _ _=>0) ⟨#[],args,[]⟩).memory:=
 laidMet_of_run' 8 (by kernel_rfl) (by kernel_rfl)
theorem JEp:mapsRowed Tryz.prog=true:=by kernel_rfl
theorem JCE:Tryz.prog.stopsHeard=true:=by kernel_rfl
theorem JGg:Tryz.prog.mayEnter=true:=by kernel_rfl
theorem JCR:(Rows.matchTopsUptoRow.lifted==Tryz.prog.liftsFinal)=true:=by kernel_rfl
theorem JLg:(Tryz.prog.make==some Rows.matchTopsUptoRow.make)=true:=by kernel_rfl
theorem JN7:false=Tryz.pinned.checked.prog.looks []:=by kernel_rfl
theorem JLh:Tryz.pinned.checked.prog.mainIs=some (Rows.matchTopsUptoCard.stood.harness.1,Rows.matchTopsUptoCard.stood.harness.2.toList):=by kernel_rfl
theorem JEk {n:String}{k:FuncId}{g:Func}{ts:Array TypeId}(h1:Tryz.prog.funcNamed n=some k)(h2:Tryz.prog.funcs[k]?=some g)(h3:g.params=ts)(h4:ts.all (fun t=>!Tryz.prog.wantsStandIn t)=true)
  (f:FuncId)(fn:Func)(hf:Tryz.pinned.checked.prog.funcNamed n=some f)(hfn:Tryz.pinned.checked.prog.funcs[f]?=some fn) :
  false=Tryz.pinned.checked.prog.looks []∧∀ (j:Nat) t,fn.params[j]?=some t→Tryz.pinned.checked.prog.wantsStandIn t=false:=by
 obtain rfl:f=k:=Option.some.inj (hf.symm.trans h1);obtain rfl:fn=g:=Option.some.inj (hfn.symm.trans h2);refine ⟨JN7,fun j t ht=>?_⟩;rw[h3] at ht;have:=Array.all_eq_true'.1 h4 t (Array.mem_of_getElem? ht);have h5:Tryz.pinned.checked.prog.wantsStandIn t=Tryz.prog.wantsStandIn t:=rfl;rw[h5]
 simpa using this
end Go.Proofs.YtlhdoekgipaihaaGreatDoor
