/- Part 52 of a proof. -/
import Derived.Test.YtlblbldolhiokaaGreatDoorRs51
import Derived.Test.YtlblbldolhiokaaGreatDoorRs46
import Derived.Shelf.Strings.Builder1
import Derived.Shelf.Strings.Builder2
import Derived.Shelf.Strings.OnBuilder
import Derived.Shelf.Strings.Repeat
import Derived.Shelf.Small.Strs
import Derived.Shelf.SlGeneric
import Derived.Shelf.SlSortCmp.WholeK
set_option linter.all false
set_option maxRecDepth 99999
set_option exponentiation.threshold 400
set_option maxHeartbeats 0
namespace Go.Proofs.YtlblbldolhiokaaGreatDoor
open Go Go.Fw
def evFn (ks:List (ByteArray×Va))(ev:Ev):Nat→AV
 |0=>.dead
 |n+1=>.fn (.func 188) [] [.ep (encK ks) 0,.ep (J1L ev) 0,.ep (evFn ks ev n) 0,.ep wayM 0]
def JL6 {e k:Ex}(h:k∈e.kids):SizeOf.sizeOf k<SizeOf.sizeOf e:=by
 cases e with
 |mk o t m ks=>
   have:=Q3R (show k∈ks from h);simp;omega
theorem J9m:∀ es:List Ex,es.length≤wtL es
 |[]=>QG _
 |e::es=>by
   unfold wtL;have:=J9m es;have:=J6l e;simp only[QT];omega
def JPX {b p e n:Nat}{H:Hp}{out:List Vl}(hb:H b=some (p,⟨e,6,out.map J07⟩))(hn:n=out.length):snap [b] H (.own b p 0 n)=J5u out:=by
 rw[J2c (by simp) hb (by simp[hn]),J0S _ _ _ _ hn fun v=>by cases v<;>rfl];rfl
def JFl (ev:Ev)(o:ByteArray)(vs:List Vl)(rs:List (Except Int Vl)):Except Int Vl:=match seqR rs with
 |.error c=>.error c
 |.ok r=>wayF ev o (vs++r)
def JKm (ev:Ev)(o:ByteArray)(vs:List Vl)(v:Vl)(rs:List (Except Int Vl)):JFl ev o vs (.ok v::rs)=JFl ev o (vs++[v]) rs:=by
 unfold JFl;rw[show seqR (.ok v::rs)=match seqR rs with|.ok l=>.ok (v::l)|.error c=>.error c from rfl]
 cases seqR rs with
 |error c=>rfl
 |ok l=>simp
def hpE (g5 g6 gl:Nat)(e:AV)(vs:List Vl):List (Nat×Nat×Blk):=[(5,g5,⟨29,4,[e]⟩),(6,g6,⟨148,6,[J16 nilQ false false]⟩),(93,gl,⟨148,6,vs.map J07⟩)]
def JM1 (ks:List (ByteArray×Va))(ev:Ev)(he:EvOk ev)(e:Ex):SzE e→TxE e→builtF e=true→(typeF ks e).2=true→wtF e≤1000→∀ n,SizeOf.sizeOf e≤n →
  PX 188 [encE e,.ep (encK ks) 0,.ep (J1L ev) 0,.ep (evFn ks ev n) 0,.ep wayM 0] (J1z (evalF ks ev e)):=by
 induction e using J1i with
 |h e ih=>
   intro hz hx hb ht hw n hn;have hpos:0<SizeOf.sizeOf e:=by cases e;simp;omega
   obtain ⟨m,rfl⟩:∃ m,n=m+1:=⟨n-1,by omega⟩;have hm:∀ k∈e.kids,SizeOf.sizeOf k≤m:=fun k hk=>by have:=JL6 hk;omega
   have ihk:∀ k∈e.kids,PX 188 [encE k,.ep (encK ks) 0,.ep (J1L ev) 0,.ep (evFn ks ev m) 0,.ep wayM 0] (J1z (evalF ks ev k)):=
    fun k hk=>ih k hk (hz.kid k hk) (hx.kid k hk) ((J0A hb).2 k hk) (J17 hb ht k hk) (by have:=JDt hk;omega) m (hm k hk)
   clear ih;have hty:∀ k∈e.kids,∀ v,evalF ks ev k=.ok v→v.type=(typeF ks k).1:=fun k hk=>J6b k ((J0A hb).2 k hk) (J17 hb ht k hk);have herr:∀ k∈e.kids,∀ c,evalF ks ev k=.error c→¬ c=0:=fun k hk c h=>(J1y k ((J0A hb).2 k hk) (J17 hb ht k hk) c h).ne;have hsz:∀ k∈e.kids,∀ v,evalF ks ev k=.ok v→v.sz≤301*wtF k:=fun k hk=>J2l he k ((J0A hb).2 k hk);have hs:=J6Q hb ht;have hso:=hs.isOp;have hwt:wtL e.kids≤1000:=by have:=J6l e;omega
   have hlen:e.kids.length≤1000:=Qg (J9m _) hwt;have htx:=hx.tx
   have htxt:e.op=oNum→(J06 e.text.data.toList).2=true:=by
    intro h1;have hx:textF e=true:=by rw[J0t] at hb;simp only[Q5] at hb;exact hb.1.1.2
    unfold textF at hx;rw[if_pos h1] at hx;simp only[Q5] at hx;exact hx.1
   have hUse:=JMW e;have hBound:=JM3 ks ev (useF e);have hway:=fun (vs:List Vl) (ho:IsOp e.op) (h:e.kids.map (evalF ks ev)=vs.map .ok)=>J6o hb hs ho hty h
   have hfirst:e.op=oIf∨e.op=oAnd∨e.op=oOr→0<e.kids.length∧∀ t i,J2v e.op t=some i→i<e.kids.length:=by
    intro h
    rcases hs with ⟨h1⟩|⟨h1⟩|⟨h1,a,b,c,hk,_⟩|⟨h1,a,b,hk,_⟩|⟨h1⟩|⟨h1⟩|⟨h1⟩|⟨h1⟩|⟨h1⟩|⟨h1⟩|⟨h1⟩|⟨h1⟩
    ·exact absurd h1 (J4B h).1
    ·exact absurd h1 (J4B h).2
    ·rw[hk];refine ⟨by simp,fun t i hi=>?_⟩;unfold J2v at hi;rw[if_pos h1] at hi;cases t<;>cases hi<;>simp
    ·rw[hk];refine ⟨by simp,fun t i hi=>?_⟩;unfold J2v at hi;rw[if_neg (by rcases h1 with h1 | h1<;>rw[h1]<;>decide)] at hi;split at hi
     ·cases hi;simp
     cases hi
    all_goals
     exfalso
     have hop:IsOp e.op:=J4r (by
      first|(rcases h1 with h1|h1|h1|h1)|(rcases h1 with h1|h1|h1)|(rcases h1 with h1|h1)|skip
      all_goals rw[h1];simp)
     exact hop.2.2 h
   have hNext:=fun t=>JOK e t;clear hz hx hb ht hw hn hm hs;refine PZ Tryz.func188 rfl ?_;generalize hF:evalF ks ev e=F;rw[J29] at hF;rw[J02] at hUse hNext ⊢;generalize hus:useF e=us at *;obtain ⟨o,t,od,es⟩:=e;simp only[Ex.op,Ex.text,Ex.order,Ex.kids] at *
   rcases hso with h1|h1|h1|h1
   ·rw[J1x h1] at hF;obtain ⟨hq1,hq2⟩:=J4A (htxt h1);have hp:=J3P t.data.toList htx;rw[J12,JEG,← hq1] at hp;have hN:=J1u (numV t);generalize numV t=q at *;generalize (J06 t.data.toList).2=b at *;unfold encF encQ at hp;(refine kWS ?_;repeat intro γ);refine J00 [] _ c134 hp ?_;(refine kWS ?_;repeat intro γ);refine J00 [] _ c189 hN ?_;(refine kWS ?_;repeat intro γ);exact .of (by rw[← hF];rfl)
   ·rw[J4w h1] at hF;replace hF:J21 ks ev us=F:=by rw[← hus];exact hF
    rw[hF] at hBound
    have hcond:¬ o=oNum:=by rcases h1 with rfl|rfl<;>decide
    by_cases h2:o=oVar
    case' neg=>have h3:o=oPre:=h1.resolve_left h2
    all_goals
     (refine kWS ?_;repeat intro γ);refine CallG.intro _ c145 hUse ?_;(refine kWS ?_;repeat intro γ);refine CallG.intro _ c190 hBound ?_
     rcases F with c|q|b
     all_goals
      (refine kWS ?_;repeat intro γ);exact .of rfl
   ·rw[J2k h1] at hF;have n1:¬ o=oNum:=(J4B h1).1;have n2:¬ o=oVar:=fun h=>(J4B h1).2 (.inl h);have n3:¬ o=oPre:=fun h=>(J4B h1).2 (.inr h);obtain ⟨hl0,hnx⟩:=hfirst h1;have hk0:=ihk _ (QF hl0);have he0:=herr _ (QF hl0);have h0:(es.map (evalF ks ev)).getD 0 (.error 0)=evalF ks ev es[0]:=by rw[Q4,Ql,Q8 hl0];rfl
    rw[h0] at hF
    have g0:(es.map encE).getD (Int.toNat 0) .dead=encE es[0]:=by
     show (es.map encE).getD 0 .dead=_
     rw[Q4,Ql,Q8 hl0];rfl
    generalize es[0]=k0 at *
    by_cases h4:o=oIf
    case' neg=>
     by_cases h5:o=oAnd
     case' neg=>have h6:o=oOr:=(h1.resolve_left h4).resolve_left h5
    all_goals
     rw[J02] at g0 hk0;(refine kWS ?_;repeat intro γ);rw[g0];(refine kWS ?_;repeat intro γ);refine CallG.intro _ c188 hk0 ?_
     rcases hr:evalF ks ev k0 with c|v
     ·rw[hr] at hF;have hc:=he0 c hr;replace hF:Except.error c=F:=hF;(refine kWS ?_;repeat intro γ);exact .of (by rw[← hF];rfl)
     rw[hr] at hF;clear he0 hr
     replace hF:(match J2v o v.truth with
      |some i=>(List.map (evalF ks ev) es).getD i (.error 0)
      |none=>.ok v)=F:=hF
     have hN:=hNext v.truth (hnx v.truth);have hnx:=hnx v.truth
     rcases hni:J2v o v.truth with _|i
     ·rw[hni] at hN hF;replace hF:Except.ok v=F:=hF;replace hN:PX 147 [.agg [encS o,encS t,encI od,.sl 4 (es.map encE)],encB v.truth] (.tup [nilE,encB false]):=hN
      rcases v with q|b
      all_goals
       unfold J1z J07 J16
       try unfold encF encQ
       (refine kWS ?_;repeat intro γ);refine J00 [] _ c147 hN ?_;(refine kWS ?_;repeat intro γ);exact .of (by rw[← hF];rfl)
     rw[hni] at hN hF;have hi:=hnx i hni;have hki:=ihk _ (QF hi);have gi:(es.map encE).getD i .dead=encE es[i]:=by rw[Q4,Ql,Q8 hi];rfl
     have fi:(es.map (evalF ks ev)).getD i (.error 0)=evalF ks ev es[i]:=by rw[Q4,Ql,Q8 hi];rfl
     replace hF:(es.map (evalF ks ev)).getD i (.error 0)=F:=hF;rw[fi] at hF;replace hN:PX 147 [.agg [encS o,encS t,encI od,.sl 4 (es.map encE)],encB v.truth] (.tup [(es.map encE).getD i .dead,encB true]):=hN;rw[gi] at hN;generalize es[i]=k at *;rw[J02 k] at hN hki;rw[hF] at hki
     rcases v with q|b
     all_goals
      unfold J1z J07 J16
      try unfold encF encQ
      (refine kWS ?_;repeat intro γ);refine J00 [] _ c147 hN ?_;(refine kWS ?_;repeat intro γ);refine J00 [] _ c188 hki ?_
      rcases F with c|q|b
      all_goals
       (refine kWS ?_;repeat intro γ);exact .of rfl
   rw[J1A h1] at hF;have n1:¬ o=oNum:=h1.1;have n2:¬ o=oVar:=fun h=>h1.2.1 (.inl h);have n3:¬ o=oPre:=fun h=>h1.2.1 (.inr h);have n4:¬ o=oIf:=fun h=>h1.2.2 (.inl h);have n5:¬ o=oAnd:=fun h=>h1.2.2 (.inr (.inl h));have n6:¬ o=oOr:=fun h=>h1.2.2 (.inr (.inr h));have hsq:∀ vs:List Vl,(es.map (evalF ks ev))=vs.map .ok→Way ev o vs:=fun vs h=>JOY ev o vs (hway vs h1 h) (by have:=JHE hsz h;have:=he.1;omega);clear hNext hBound hUse hus hfirst hway hsz hty htxt;replace hF:JFl ev o [] (es.map (evalF ks ev))=F:=by rw[← hF];rfl
   (refine kWS ?_;repeat intro γ)
   refine LoopP.intro (fun j σ H=>∃ g5 g6 gl i,∃ vs:List Vl,j=es.length-i∧i≤es.length∧(es.take i).map (evalF ks ev)=vs.map .ok∧JFl ev o vs ((es.drop i).map (evalF ks ev))=F ∧
    σ=fr [(1,.ep (encK ks) 0),(2,.ep (J1L ev) 0),(3,.ep (evFn ks ev (m+1)) 0),(4,.ep wayM 0),(5,.op 5 g5 0 0),(6,.op 6 g6 0 0),(14,.own 93 gl 0 vs.length),(74,.sl 4 (es.map encE)),(75,encI es.length),(76,encI i)] ∧
    H=hp (hpE g5 g6 gl (.agg [encS o,encS t,encI od,.sl 4 (es.map encE)]) vs)) ?_ ?_
   ·exact .intro (J24 14 93 148 6 rfl rfl fun gl=>W.of ⟨_,_,_,gl,0,[],rfl,QG _,rfl,hF,rfl,rfl⟩ ⟨rfl,rfl,rfl,rfl,rfl,rfl,rfl,rfl,(by rw[Q3];rfl),rfl,trivial⟩ ⟨rfl,rfl,rfl,trivial⟩)
   clear hF;rintro j σ H ⟨g5,g6,gl,i,vs,rfl,hi,hvs,hF,rfl,rfl⟩;unfold hpE
   have hvl:vs.length=i:=by
    have:=QC List.length hvs;rw[Q3,Q3,Qb] at this;omega
   rcases QI i es.length with h9|h9
   ·rw[Q6 h9,QK] at hF;have hk:=ihk _ (QF h9);have hek:=herr _ (QF h9);have htk:(es.take (i+1)).map (evalF ks ev)=vs.map .ok++[evalF ks ev es[i]]:=by rw[Qd h9,QW,hvs];rfl
    obtain ⟨k,hkk⟩:∃ k,es[i]=k:=⟨_,rfl⟩;rw[hkk] at hF hk hek htk;rw[J02] at hk;(refine kWQ ?_;repeat intro γ);simp only[hkk,J02];(refine kQ ?_;repeat intro γ);refine J00 [] _ c188 hk ?_
    rcases hr:evalF ks ev k with c|v
    ·have hc:=hek c hr;rw[hr] at hF;replace hF:Except.error c=F:=hF;(refine kWQ ?_;repeat intro γ);exact .of (by rw[← hF];rfl)
    rw[hr,JKm] at hF;rw[hr] at htk;have hml:=@Q3 _ _ vs J07;clear hek hk
    rcases v with q|b
    ·unfold J1z J07 J16 encF encQ;(refine kWQ ?_;repeat intro γ)
     refine .intro <| W.of ⟨_,by omega,g5,g6,γ,i+1,vs++[.num q],rfl,h9,(by rw[htk,QW];rfl),hF,rfl,rfl⟩ ⟨rfl,rfl,rfl,rfl,rfl,rfl,?_,rfl,rfl,rfl,trivial⟩ ⟨rfl,rfl,?_,trivial⟩
     ·exact QC (AV.own 93 _ 0) (by simp)
     rw[QW];rfl
    unfold J1z J07 J16;(refine kWQ ?_;repeat intro γ)
    refine .intro <| W.of ⟨_,by omega,g5,g6,γ,i+1,vs++[.tr b],rfl,h9,(by rw[htk,QW];rfl),hF,rfl,rfl⟩ ⟨rfl,rfl,rfl,rfl,rfl,rfl,?_,rfl,rfl,rfl,trivial⟩ ⟨rfl,rfl,?_,trivial⟩
    ·exact QC (AV.own 93 _ 0) (by simp)
    rw[QW];rfl
   obtain rfl:i=es.length:=by omega
   rw[Q36] at hF;rw[Qi] at hvs;replace hF:wayF ev o vs=F:=by rw[← hF];unfold JFl seqR;simp
   obtain ⟨kf,cap,ha,hcap,hcal,hcl⟩:=hsq vs hvs;obtain ⟨r,hr,hm⟩:=J27 (fun x:AV=>x) o wayT;rw[ha] at hm
   cases r with
   |none=>exact hm.elim
   |some ix=>
     replace hm:(wayT.map fun x=>x.2).getD ix .dead=.fn (.func kf) [] cap:=hm;refine kWQ ?_;intros;refine Need.intro keyst9 ?_;refine kW ?_;refine LookP.intro (some ix) hr ?_;refine kW ?_;rw[hm]
     rcases hcap with rfl|⟨x,rfl⟩
     all_goals
      refine kWQ ?_;intros;refine J00 [93] _ hcal (J0G (QC (fun z=>J1L ev::z::_) (JPX rfl rfl)) hcl) ?_;rw[hF]
      rcases F with c|q|b
      all_goals
       refine kWQ ?_;intros;exact .of rfl
end Go.Proofs.YtlblbldolhiokaaGreatDoor
namespace Go.Proofs
open Go.Shelf
def Tryz.lays169_ren:Go.Shelf.Ren:=⟨fun|169=>287|n=>n,fun|70=>312|9=>9|0=>0|72=>314|37=>283|127=>355|3=>3|5=>5|n=>n,fun|n=>n⟩
def JCS:Go.Proofs.Lays.n169 Tryz.prog Tryz.lays169_ren:={
 mixed:=by kernel_rfl
 f169:=Tryz.func287.trans (QC some (by kernel_rfl))
 t0:=Tryz.underlying0
 a0:=Tryz.isAgg0
 z0:=Tryz.sizeOf0
 v0:=Tryz.zeroValue0
 t3:=Tryz.underlying3
 a3:=Tryz.isAgg3
 z3:=Tryz.sizeOf3
 v3:=Tryz.zeroValue3
 t9:=Tryz.underlying9
 a9:=Tryz.isAgg9
 z9:=Tryz.sizeOf9
 v9:=Tryz.zeroValue9
 t37:=Tryz.underlying283
 a37:=Tryz.isAgg283
 z37:=Tryz.sizeOf283
 v37:=Tryz.zeroValue283
 t70:=Tryz.underlying312
 a70:=Tryz.isAgg312
 z70:=Tryz.sizeOf312
 v70:=Tryz.zeroValue312
 t72:=Tryz.underlying314
 a72:=Tryz.isAgg314
 z72:=Tryz.sizeOf314
 v72:=Tryz.zeroValue314
 t127:=Tryz.underlying355
 a127:=Tryz.isAgg355
 z127:=Tryz.sizeOf355
 v127:=Tryz.zeroValue355 }
def J30:Builder.Extra Tryz.prog Tryz.lays169_ren:={
 sizeBuilder:=by kernel_rfl
 liesBuilder:=by kernel_rfl
 t5:=Tryz.underlying5
 a5:=Tryz.isAgg5
 z5:=Tryz.sizeOf5
 v5:=Tryz.zeroValue5
 infoByte:=by kernel_rfl
 cellsByte:=by kernel_rfl
 sizeByte:=by kernel_rfl
 neB5:=by decide }
def Tryz.lays156_ren:Go.Shelf.Ren:=⟨fun|156=>212|165=>299|166=>283|169=>287|240=>331|241=>349|276=>368|277=>374|n=>n,fun|31=>39|9=>9|3=>3|4=>4|0=>0|20=>20|72=>314|76=>317|70=>312|37=>283|75=>316|127=>355|164=>391|5=>5|80=>128|n=>n,fun|n=>n⟩
def J1P:Go.Proofs.Lays.n156 Tryz.prog Tryz.lays156_ren:={
 mixed:=by kernel_rfl
 f156:=Tryz.func212.trans (QC some (by kernel_rfl))
 f165:=Tryz.func299.trans (QC some (by kernel_rfl))
 f166:=Tryz.func283.trans (QC some (by kernel_rfl))
 f169:=Tryz.func287.trans (QC some (by kernel_rfl))
 f240:=Tryz.func331.trans (QC some (by kernel_rfl))
 f241:=Tryz.func349.trans (QC some (by kernel_rfl))
 f276:=Tryz.func368.trans (QC some (by kernel_rfl))
 f277:=Tryz.func374.trans (QC some (by kernel_rfl))
 t0:=Tryz.underlying0
 a0:=Tryz.isAgg0
 z0:=Tryz.sizeOf0
 v0:=Tryz.zeroValue0
 t3:=Tryz.underlying3
 a3:=Tryz.isAgg3
 z3:=Tryz.sizeOf3
 v3:=Tryz.zeroValue3
 t4:=Tryz.underlying4
 a4:=Tryz.isAgg4
 z4:=Tryz.sizeOf4
 v4:=Tryz.zeroValue4
 t9:=Tryz.underlying9
 a9:=Tryz.isAgg9
 z9:=Tryz.sizeOf9
 v9:=Tryz.zeroValue9
 t20:=Tryz.underlying20
 a20:=Tryz.isAgg20
 z20:=Tryz.sizeOf20
 v20:=Tryz.zeroValue20
 t31:=Tryz.underlying39
 a31:=Tryz.isAgg39
 z31:=Tryz.sizeOf39
 v31:=Tryz.zeroValue39
 t37:=Tryz.underlying283
 a37:=Tryz.isAgg283
 z37:=Tryz.sizeOf283
 v37:=Tryz.zeroValue283
 t70:=Tryz.underlying312
 a70:=Tryz.isAgg312
 z70:=Tryz.sizeOf312
 v70:=Tryz.zeroValue312
 t72:=Tryz.underlying314
 a72:=Tryz.isAgg314
 z72:=Tryz.sizeOf314
 v72:=Tryz.zeroValue314
 t75:=Tryz.underlying316
 a75:=Tryz.isAgg316
 z75:=Tryz.sizeOf316
 v75:=Tryz.zeroValue316
 t76:=Tryz.underlying317
 a76:=Tryz.isAgg317
 z76:=Tryz.sizeOf317
 v76:=Tryz.zeroValue317
 t127:=Tryz.underlying355
 a127:=Tryz.isAgg355
 z127:=Tryz.sizeOf355
 v127:=Tryz.zeroValue355
 t164:=Tryz.underlying391
 a164:=Tryz.isAgg391
 z164:=Tryz.sizeOf391
 v164:=Tryz.zeroValue391 }
def J0i:Builder.Extra Tryz.prog Tryz.lays156_ren:={
 sizeBuilder:=by kernel_rfl
 liesBuilder:=by kernel_rfl
 t5:=Tryz.underlying5
 a5:=Tryz.isAgg5
 z5:=Tryz.sizeOf5
 v5:=Tryz.zeroValue5
 infoByte:=by kernel_rfl
 cellsByte:=by kernel_rfl
 sizeByte:=by kernel_rfl
 neB5:=by decide }
def Tryz.lays105_ren:Go.Shelf.Ren:=⟨fun|105=>211|212=>298|99=>201|165=>299|166=>283|170=>300|169=>287|263=>347|264=>348|206=>293|240=>331|241=>349|276=>368|277=>374|n=>n,fun|9=>9|3=>3|4=>4|20=>20|0=>0|46=>239|109=>326|5=>5|72=>314|76=>317|51=>285|146=>366|53=>274|148=>368|70=>312|37=>283|75=>316|127=>355|164=>391|80=>128|n=>n,fun|n=>n⟩
def JCU:Go.Proofs.Lays.n105 Tryz.prog Tryz.lays105_ren:={
 mixed:=by kernel_rfl
 f99:=Tryz.func201.trans (QC some (by kernel_rfl))
 f105:=Tryz.func211.trans (QC some (by kernel_rfl))
 f165:=Tryz.func299.trans (QC some (by kernel_rfl))
 f166:=Tryz.func283.trans (QC some (by kernel_rfl))
 f169:=Tryz.func287.trans (QC some (by kernel_rfl))
 f170:=Tryz.func300.trans (QC some (by kernel_rfl))
 f206:=Tryz.func293.trans (QC some (by kernel_rfl))
 f212:=Tryz.func298.trans (QC some (by kernel_rfl))
 f240:=Tryz.func331.trans (QC some (by kernel_rfl))
 f241:=Tryz.func349.trans (QC some (by kernel_rfl))
 f263:=Tryz.func347.trans (QC some (by kernel_rfl))
 f264:=Tryz.func348.trans (QC some (by kernel_rfl))
 f276:=Tryz.func368.trans (QC some (by kernel_rfl))
 f277:=Tryz.func374.trans (QC some (by kernel_rfl))
 t0:=Tryz.underlying0
 a0:=Tryz.isAgg0
 z0:=Tryz.sizeOf0
 v0:=Tryz.zeroValue0
 t3:=Tryz.underlying3
 a3:=Tryz.isAgg3
 z3:=Tryz.sizeOf3
 v3:=Tryz.zeroValue3
 t4:=Tryz.underlying4
 a4:=Tryz.isAgg4
 z4:=Tryz.sizeOf4
 v4:=Tryz.zeroValue4
 t5:=Tryz.underlying5
 a5:=Tryz.isAgg5
 z5:=Tryz.sizeOf5
 v5:=Tryz.zeroValue5
 t9:=Tryz.underlying9
 a9:=Tryz.isAgg9
 z9:=Tryz.sizeOf9
 v9:=Tryz.zeroValue9
 t20:=Tryz.underlying20
 a20:=Tryz.isAgg20
 z20:=Tryz.sizeOf20
 v20:=Tryz.zeroValue20
 t37:=Tryz.underlying283
 a37:=Tryz.isAgg283
 z37:=Tryz.sizeOf283
 v37:=Tryz.zeroValue283
 t46:=Tryz.underlying239
 a46:=Tryz.isAgg239
 z46:=Tryz.sizeOf239
 v46:=Tryz.zeroValue239
 t51:=Tryz.underlying285
 a51:=Tryz.isAgg285
 z51:=Tryz.sizeOf285
 v51:=Tryz.zeroValue285
 t53:=Tryz.underlying274
 a53:=Tryz.isAgg274
 z53:=Tryz.sizeOf274
 v53:=Tryz.zeroValue274
 t70:=Tryz.underlying312
 a70:=Tryz.isAgg312
 z70:=Tryz.sizeOf312
 v70:=Tryz.zeroValue312
 t72:=Tryz.underlying314
 a72:=Tryz.isAgg314
 z72:=Tryz.sizeOf314
 v72:=Tryz.zeroValue314
 t75:=Tryz.underlying316
 a75:=Tryz.isAgg316
 z75:=Tryz.sizeOf316
 v75:=Tryz.zeroValue316
 t76:=Tryz.underlying317
 a76:=Tryz.isAgg317
 z76:=Tryz.sizeOf317
 v76:=Tryz.zeroValue317
 t109:=Tryz.underlying326
 a109:=Tryz.isAgg326
 z109:=Tryz.sizeOf326
 v109:=Tryz.zeroValue326
 t127:=Tryz.underlying355
 a127:=Tryz.isAgg355
 z127:=Tryz.sizeOf355
 v127:=Tryz.zeroValue355
 t146:=Tryz.underlying366
 a146:=Tryz.isAgg366
 z146:=Tryz.sizeOf366
 v146:=Tryz.zeroValue366
 t148:=Tryz.underlying368
 a148:=Tryz.isAgg368
 z148:=Tryz.sizeOf368
 v148:=Tryz.zeroValue368
 t164:=Tryz.underlying391
 a164:=Tryz.isAgg391
 z164:=Tryz.sizeOf391
 v164:=Tryz.zeroValue391 }
def J31:Builder.Extra Tryz.prog Tryz.lays105_ren:={
 sizeBuilder:=by kernel_rfl
 liesBuilder:=by kernel_rfl
 t5:=Tryz.underlying5
 a5:=Tryz.isAgg5
 z5:=Tryz.sizeOf5
 v5:=Tryz.zeroValue5
 infoByte:=by kernel_rfl
 cellsByte:=by kernel_rfl
 sizeByte:=by kernel_rfl
 neB5:=by decide }
end Go.Proofs
namespace Go.Proofs.YtlblbldolhiokaaGreatDoor
open Go Go.Fw Go.RowKit
def joinB (l:List ByteArray)(sep:ByteArray):ByteArray:=⟨(Lib.join (l.map (·.data.toList)) sep.data.toList).toArray⟩
def repB (s:ByteArray)(n:Nat):ByteArray:=⟨(Lib.repeatL s.data.toList n).toArray⟩
def JJq (l:List ByteArray)(sep:ByteArray)(hl:l.length≤2^40)(hs:(joinB l sep).size≤140737488355328):PX 212 [.sl 1 (l.map encS),encS sep] (encS (joinB l sep)):=by
 intro O w vs hO hv;obtain ⟨hlen,hr⟩:=hv;obtain ⟨vl⟩:=vs
 rcases vl with _|⟨a,_|⟨b,_|⟨c,r⟩⟩⟩<;>simp at hlen
 have h0:=hr 0 (by simp) (by simp);have h1:=hr 1 (by simp) (by simp);simp only[Q00,Q0b,Q0Y] at h0 h1;cases h1;have fin:∀ {e:Ending} {w':World},(e=.returned (.string (joinB l sep))∧Below w.heap.size w w')→∃ v,e=.returned v∧VR KM.empty w' O (encS (joinB l sep)) v∧Below w.heap.size w w':=fun ⟨he,hb⟩=>⟨_,he,.val _ rfl,hb⟩;generalize hL:l.map encS=L at h0
 cases h0 with
 |slnil n=>
   obtain rfl:l=[]:=Q2C.1 hL;exact (Any.strings_Join_none J1P J0i none 0 sep w).mono fun e w' ⟨he,hw⟩=>fin ⟨he,hw ▸ Below.refl _ _⟩
 |slemp n a=>
   obtain rfl:l=[]:=Q2C.1 hL;exact (Any.strings_Join_none J1P J0i (some a) 0 sep w).mono fun e w' ⟨he,hw⟩=>fin ⟨he,hw ▸ Below.refl _ _⟩
 |sl n xs c o cap f hcap hO' hblk hcl hcell hrel hpl=>
   subst hL;obtain ⟨A,e,z,hb,hs'⟩:=hblk
   have:=Any.strings_Join J1P J0i c o cap l sep w (fun j x hx=>by
    obtain ⟨hj,rfl⟩:=Q0I.1 hx;have h2:=hcell j (by simpa using hj) 0 Nat.one_pos;have h3:=hrel j (by simpa using hj) 0 (by simp[AV.cells,encS]);have e1:((l.map encS)[j]'(by simpa using hj)).cells[0]'(by simp[AV.cells,encS])=encS l[j]:=by simp[AV.cells,encS]
    rw[e1] at h3
    have h4:f j 0=.string l[j]:=by
     generalize f j 0=v at h3;cases h3;rfl
    rw[h4] at h2
    simpa using h2) (QU.1 hb).1 (by omega) (by simpa using hcap) (by simpa [joinB,ByteArray.size] using hs)
   have hlm:(l.map encS).length=l.length:=Q3 ..;rw[hlm];exact this.mono fun e w' h=>fin h
def JJj (s:ByteArray)(n:Nat)(hn:n≤2^62)(hs:s.size*n≤140737488355328):PX 211 [encS s,encI n] (encS (repB s n)):=by
 intro O w vs hO hv;obtain ⟨hlen,hr⟩:=hv;obtain ⟨vl⟩:=vs
 rcases vl with _|⟨a,_|⟨b,_|⟨c,r⟩⟩⟩<;>simp at hlen
 have h0:=hr 0 (by simp) (by simp);have h1:=hr 1 (by simp) (by simp);simp only[Q00,Q0b,Q0Y] at h0 h1;cases h0;cases h1;exact (Any.strings_Repeat JCU J31 s n w (by omega) hs).mono fun e w' ⟨he,hb⟩=>⟨_,he,.val _ rfl,hb⟩
end Go.Proofs.YtlblbldolhiokaaGreatDoor
namespace Go.Proofs.YtlblbldolhiokaaGreatDoor
open Go Go.Fw
def JKi (o t:ByteArray)(n:Int)(rs:List ByteArray):ByteArray:=
 if o=oNum then t
 else if o=oVar then (if n=0 then b1 64++t else b1 64++t++b1 58++repB (b1 39) n.toNat)
 else if o=oPre then ⟨#[112,114,101,64]⟩++t
 else match rs with
  |[]=>o
  |r::l=>o++b1 40++joinB (r::l) (b1 59)++b1 41
mutual
def showF:Ex→ByteArray
 |.mk o t n es=>JKi o t n (JN4 es)
def JN4:List Ex→List ByteArray
 |[]=>[]
 |e::es=>showF e::JN4 es
end
theorem JB9:∀ es:List Ex,JN4 es=es.map showF
 |[]=>rfl
 |e::es=>by rw[QK,← JB9 es];rfl
def JEA (e:Ex):showF e=JKi e.op e.text e.order (e.kids.map showF):=by
 cases e with
 |mk o t n es=>rw[← JB9];rfl
def J0D (a b:ByteArray):(a++b).size=a.size+b.size:=Q20
def JBL (s:ByteArray)(n:Nat):(repB s n).size=s.size*n:=by
 show (Lib.repeatL s.data.toList n).toArray.size=_
 rw[Q1A]
 have:∀ n,(Lib.repeatL s.data.toList n).length=s.data.toList.length*n:=by
  intro n
  induction n with
  |zero=>rfl
  |succ n ih=>unfold Lib.repeatL;rw[QQ,ih,Q3y];omega
 rw[this n,Q0K];rfl
theorem J68 (sep:List UInt8):∀ r:List (List UInt8),(Lib.joinTail sep r).length=(r.map fun x=>sep.length+x.length).sum
 |[]=>rfl
 |x::r=>by
   have:=J68 sep r;unfold Lib.joinTail at *;simp only[QK,List.flatten_cons,QQ,Q2I,this]
def szB (l:List ByteArray):Nat:=(l.map ByteArray.size).sum
def J3f (l:List ByteArray)(sep:ByteArray):(joinB l sep).size≤szB l+l.length*sep.size:=by
 show (Lib.join _ _).toArray.size≤_
 cases l with
 |nil=>simp[Lib.join_nil]
 |cons x r=>
   rw[QK,Lib.join_cons,Q1A,QQ,J68]
   have key:∀ r:List ByteArray,((r.map (·.data.toList)).map fun x=>sep.data.toList.length+x.length).sum≤szB r+r.length*sep.size:=by
    intro r
    induction r with
    |nil=>simp[szB]
    |cons y r ih=>
      unfold szB at *;simp only[QK,Q2I,QT,Q0a] at *;have e1:y.data.toList.length=y.size:=Q0K;have e2:sep.data.toList.length=sep.size:=Q0K;omega
   have:=key r;have e1:x.data.toList.length=x.size:=Q0K;have e2:szB (x::r)=x.size+szB r:=rfl;rw[QT,Q0a];omega
def JMF {es:List Ex}{C:Nat}(h:∀ k∈es,(showF k).size+1≤C*wtF k):szB (es.map showF)+es.length≤C*wtL es:=by
 induction es with
 |nil=>simp[szB]
 |cons e es ih=>
   have a:=h e (by simp);have b:=ih fun k hk=>h k (by simp[hk]);unfold szB at *;simp only[QK,Q2I,QT] at *;unfold wtL;rw[Q1M];omega
def JHt {e:Ex}(hb:builtF e=true):e.op.size≤8:=by
 have hl:=(J0A hb).1;unfold J0d at hl;split at hl
 ·rename_i h;rcases h with h|h<;>rw[h]<;>decide
 split at hl
 ·rename_i h;rcases h with h|h<;>rw[h]<;>decide
 split at hl
 ·rename_i h;rw[h];decide
 split at hl
 ·omega
 rename_i x hx
 rcases JHV hx with h|⟨h,_⟩|⟨h,_⟩|⟨h,_⟩|⟨h,_⟩|⟨h,_⟩|⟨h,_⟩|⟨h,_⟩|⟨h,_⟩
 ·rw[h];decide
 ·rcases h with h|h<;>rw[h]<;>decide
 ·rw[h];decide
 ·rcases h with h|h|h<;>rw[h]<;>decide
 ·rw[h];decide
 ·rw[h];decide
 ·rw[h];decide
 ·rcases h with h|h|h|h<;>rw[h]<;>decide
 rcases h with h|h|h|h<;>rw[h]<;>decide
def JEO {e:Ex}(hb:builtF e=true)(h:e.op=oVar):0≤e.order∧e.order≤6:=by
 have hx:textF e=true:=by rw[J0t] at hb;simp only[Q5] at hb;exact hb.1.1.2
 unfold textF at hx;rw[if_neg (by rw[h];decide),if_pos h] at hx;simp only[Q5,Qa] at hx;exact ⟨hx.1.2,hx.2⟩
def J8q (e:Ex):builtF e=true→TxE e→(showF e).size+1≤(2^21+20)*wtF e:=by
 induction e using J1i with
 |h e ih=>
   intro hb hx;have ihk:=fun k hk=>ih k hk ((J0A hb).2 k hk) (hx.kid k hk);have ht:=hx.low;have ho:=JHt hb;have hw:=J6l e;have hl:=J9m e.kids;rw[JEA];unfold JKi;have hsum:=JMF ihk;have e0:2^21+20≤(2^21+20)*wtF e:=Q1m _ (by omega);split
   ·omega
   split
   ·rename_i h1;have:=JEO hb h1;split
    ·rw[J0D];show 1+_+1≤_;omega
    rw[J0D,J0D,J0D,JBL];show 1+_+1+1*_+1≤_;omega
   split
   ·rw[J0D];show 4+_+1≤_;omega
   split
   ·omega
   rename_i r l hrl;have:=J3f (r::l) (b1 59);rw[J0D,J0D,J0D];have e1:(r::l).length=e.kids.length:=by rw[← hrl,Q3]
   rw[← hrl] at this ⊢;rw[Q3] at this;show _+1+_+1+1≤_
   have e3:(b1 59).size=1:=rfl;rw[e3] at this;have e4:(2^21+20)*wtF e=(2^21+20)*wtL e.kids+(2^21+20):=by rw[hw,Q3y]
   omega
def JNE {b p e n:Nat}{H:Hp}{out:List ByteArray}(hb:H b=some (p,⟨e,1,out.map encS⟩))(hn:n=out.length):snap [b] H (.own b p 0 n)=.sl 1 (out.map encS):=by
 rw[J2c (by simp) hb (by simp[hn]),J0S _ _ _ _ hn fun _=>rfl]
def J9u (e:Ex):SzE e→TxE e→builtF e=true→wtF e≤1000→PX 128 [encE e] (encS (showF e)):=by
 induction e using J1i with
 |h e ih=>
   intro hz hx hb hw;have ihk:=fun k hk=>ih k hk (hz.kid k hk) (hx.kid k hk) ((J0A hb).2 k hk) (by have:=JDt hk;omega);have hwt:wtL e.kids≤1000:=by have:=J6l e;omega
   have hlen:e.kids.length≤1000:=Qg (J9m _) hwt;have hsum:szB (e.kids.map showF)+e.kids.length≤(2^21+20)*1000:=Qg (JMF fun k hk=>J8q k ((J0A hb).2 k hk) (hx.kid k hk)) (Qt _ hwt);have hord:=JEO hb;have htx:=hx.tx;have hos:=JHt hb;clear ih;refine PZ Tryz.func128 rfl ?_;generalize hF:showF e=F;rw[JEA] at hF;rw[J02];clear hz hx hb hw hwt;have z1:({ data:=#[64] }:ByteArray).size=1:=rfl;have z2:({ data:=#[112,114,101,64] }:ByteArray).size=4:=rfl;have z3:({ data:=#[58] }:ByteArray).size=1:=rfl;have z4:({ data:=#[40] }:ByteArray).size=1:=rfl;have z5:({ data:=#[41] }:ByteArray).size=1:=rfl;obtain ⟨o,t,od,es⟩:=e;simp only[Ex.op,Ex.text,Ex.order,Ex.kids] at *;unfold JKi at hF
   by_cases h1:o=oNum
   ·rw[if_pos h1] at hF;(refine kWS ?_;repeat intro γ);exact .of (by rw[← hF];rfl)
   rw[if_neg h1] at hF
   by_cases h2:o=oVar
   ·rw[if_pos h2] at hF
    by_cases h3:od=0
    ·rw[if_pos h3] at hF;(refine kWS ?_;repeat intro γ);exact .of (by rw[← hF];rfl)
    rw[if_neg h3] at hF;obtain ⟨ho1,ho2⟩:=hord h2;have hR:=JJj (b1 39) od.toNat (by omega) (by show 1*_≤_;omega);rw[show ((od.toNat:Nat):Int)=od by omega] at hR;have y1:=J0D { data:=#[64] } t;have y2:=J0D ({ data:=#[64] }++t) { data:=#[58] };have y3:=JBL (b1 39) od.toNat;have y4:(b1 39).size=1:=rfl;rw[y4] at y3;generalize repB (b1 39) od.toNat=rb at *;(refine kWS ?_;repeat intro γ);refine CallG.intro _ c211 hR ?_;(refine kWS ?_;repeat intro γ);exact .of (by rw[← hF];rfl)
   rw[if_neg h2] at hF
   by_cases h3:o=oPre
   ·rw[if_pos h3] at hF;(refine kWS ?_;repeat intro γ);exact .of (by rw[← hF];rfl)
   rw[if_neg h3] at hF;have hml:=@Q3 _ _ es encE
   by_cases h4:es=[]
   ·subst h4;(refine kWS ?_;repeat intro γ);exact .of (by rw[← hF];rfl)
   have h5:¬ es.length=0:=fun h=>h4 (Qn h)
   replace hF:o++b1 40++joinB (es.map showF) (b1 59)++b1 41=F:=by
    rw[← hF]
    cases es with
    |nil=>exact absurd rfl h4
    |cons k r=>rfl
   (refine kWQ ?_;repeat intro γ)
   refine LoopP.intro (fun j σ H=>∃ g1 gl i,∃ l:List ByteArray,j=es.length-i∧i≤es.length∧l=(es.take i).map showF ∧
    σ=fr [(1,.op 1 g1 0 0),(3,.own 50 gl 0 l.length),(40,.sl 4 (es.map encE)),(41,encI es.length),(42,encI i)] ∧
    H=hp [(1,g1,⟨29,4,[.agg [encS o,encS t,encI od,.sl 4 (es.map encE)]]⟩),(50,gl,⟨9,1,l.map encS⟩)]) ?_ ?_
   ·exact .intro (J24 3 50 9 1 rfl rfl fun gl=>W.of ⟨_,_,gl,0,[],rfl,QG _,rfl,rfl,rfl⟩ ⟨rfl,rfl,rfl,(by first|rfl|(rw[Q3];rfl)),rfl,trivial⟩ ⟨rfl,rfl,trivial⟩)
   rintro j σ H ⟨g1,gl,i,l,rfl,hi,rfl,rfl,rfl⟩;have hll:((es.take i).map showF).length=i:=by rw[Q3,Qb];omega
   rcases QI i es.length with h9|h9
   ·have hk:=ihk _ (QF h9);have htk:(es.take (i+1)).map showF=(es.take i).map showF++[showF es[i]]:=by rw[Qd h9,QW];rfl
    obtain ⟨k,hkk⟩:∃ k,es[i]=k:=⟨_,rfl⟩;rw[hkk] at hk htk;rw[J02] at hk;generalize hL:(es.take i).map showF=l at *;have hml:=@Q3 _ _ l encS;(refine kWQ ?_;repeat intro γ);simp only[hkk,J02];(refine kQ ?_;repeat intro γ);refine CallP.flat [] _ c128 hk rfl ?_;(refine kWQ ?_;repeat intro γ)
    refine .intro <| W.of ⟨_,by omega,g1,γ,i+1,l++[showF k],rfl,h9,htk.symm,rfl,rfl⟩ ⟨rfl,?_,rfl,rfl,rfl,trivial⟩ ⟨rfl,?_,trivial⟩
    ·exact QC (AV.own 50 _ 0) (by simp)
    rw[QW];rfl
   obtain rfl:i=es.length:=by omega
   rw[Qi] at *;have hj:=J3f (es.map showF) (b1 59)
   have hJ:=JJq (es.map showF) (b1 59) (by rw[Q3];omega) (by
    refine Qg hj ?_;rw[Q3];show szB _+es.length*1≤_
    omega)
   have x1:(joinB (es.map showF) (b1 59)).size≤2^46:=by
    refine Qg hj ?_;rw[Q3];show szB _+es.length*1≤_
    omega
   have hls:(es.map showF).length=es.length:=Q3 ..;generalize joinB (es.map showF) (b1 59)=jb at *;have y1:=J0D o { data:=#[40] };have y2:=J0D (o++{ data:=#[40] }) jb;have y3:=J0D (o++{ data:=#[40] }++jb) { data:=#[41] };refine kWQ ?_;intros;refine CallG.flat _ c212 (J0G (QC (fun z=>[z,encS (b1 59)]) (JNE rfl hls.symm)) hJ) rfl ?_;refine kWQ ?_;intros;exact .of (by rw[← hF];rfl)
open Go.RowKit
def bldB (p buf:AV):Blk:=⟨solo,2,[.agg [p,buf]]⟩
def J1m:AV:=.val (.pointer none)
def JCC {H:Hp}{b g:Nat}{p buf:AV}(hb:H b=some (g,bldB p buf))(hp:p=J1m∨p=.op b g 0 0)(hbc:buf.cells=[buf]) :
  HCall Tryz.prog 331 [.op b g 0 0] H fun r H'=>r=.tup []∧H'=setH H b (some (g,bldB (.op b g 0 0) buf)):=by
 intro gh κ w vs hr hv;obtain ⟨hlen,hv⟩:=hv;obtain ⟨vl⟩:=vs
 rcases vl with _|⟨a,_|⟨a2,r⟩⟩<;>simp at hlen
 have h0:=hv 0 (by simp) (by simp);simp only[Q00,Q0Y] at h0
 cases h0 with
 |op _ _ _ _ c K hκ hc hn=>
 obtain ⟨K',hκ',hbr⟩:=hr.blk _ _ _ hb;have hbr:BlkRel κ w (Nset gh.O κ H) K (bldB p buf):=by rw[hκ] at hκ';cases hκ';exact hbr
 obtain ⟨hn2,hcl,h3⟩:=hbr.rows hn
 rcases h3 with ⟨h3,_⟩|⟨c',A,f,hc',hbk,hm,hs,hf,hpl,hvv,hso⟩
 ·rw[h3] at hc;cases hc
 rw[hc'] at hc;cases hc;have hsz:A.size=2:=hso rfl;simp only[Q0Z,Q0O];have e0:A[0]?=some (f 0 0):=by have:=hf 0 (by simp[bldB]) 0 (by simp[bldB]);simpa [bldB] using this
 have hv0:VR κ w (Nset gh.O κ H) p (f 0 0):=hvv 0 (by simp[bldB]) 0 (by simp[bldB]);have hcell:w.cell? ⟨c,0,none⟩=some (f 0 0):=by simp[World.cell?,hbk,e0]
 have hself:VR κ w (Nset gh.O κ H) (.op b g 0 0) (.pointer (some ⟨c,0,none⟩)):=by
  have:=VR.op (w:=w) (N:=Nset gh.O κ H) b g 0 0 c K hκ hc' hn
  simpa using this
 rcases hp with rfl|rfl
 ·have hf0:f 0 0=.pointer none:=by generalize f 0 0=v at hv0;cases hv0;rfl
  rw[hf0] at hcell;obtain ⟨up,hup,hex,w',u,κ',hrun,hR,hvr,_,_⟩:=J3i (P:=Tryz.prog) J3x hr (t:=312) hself hself (C:=fun up=>up=some (b,g,bldB (.op b g 0 0) buf)) ⟨_,rfl,rfl,rfl,_,hb,by simp[bldB],by simp[bldB],by simp[AV.cells],by simp[bldB,J6z,over,AV.cells]⟩;subst hup;have hK:=Any.Builder_copyCheck_fresh { J1P with } J0i.toX72 c w hcell (by simp[World.shape?,hbk,hsz];rfl) (by simp[World.frozen?,hbk]);refine hK.mono ?_;rintro e w' ⟨rfl,rfl⟩
  have hst:=run_storeCells_at Tryz.prog c 0 solo [.pointer (some ⟨c,0,none⟩)] 0 A w hbk (by simp[hsz]) (fun v hv=>by
   simp only[Q12] at hv;subst hv;rfl)
  have ht:=J0c (J3x 312 _ rfl)
  have hrun':(Instr.storeAt 312 (.pointer (some ⟨c,0,none⟩)) (.pointer (some ⟨c,0,none⟩))).run Tryz.prog w=.ok () (w.setCell ⟨c,0,none⟩ (.pointer (some ⟨c,0,none⟩))):=by
   have hA:(A.toList.take 0++[Value.pointer (some ⟨c,0,none⟩)]++A.toList.drop 1).toArray=A.setIfInBounds 0 (.pointer (some ⟨c,0,none⟩)):=by
    obtain ⟨L⟩:=A
    rcases L with _|⟨x,r⟩
    ·simp at hsz
    simp
   rw[setCell_eq_setRow w c 0 A solo (0,0) _ hbk,← hA];simp only[Q0O] at hst
   simpa [Instr.storeAt,Instr.sureAddr,QA,storeVar,ht.run_size w,Value.cells] using hst
  rw[hrun'] at hrun;cases hrun;exact ⟨_,.tup [],_,κ',rfl,⟨rfl,rfl⟩,hR,.tup [] #[] rfl (fun i h=>by simp at h),hvr⟩
 have hf0:f 0 0=.pointer (some ⟨c,0,none⟩):=by
  generalize f 0 0=v at hv0
  cases hv0 with
  |op _ _ _ _ c2 K2 hκ2 hc2 hn2=>
    rw[hκ] at hκ2;cases hκ2;rw[hc'] at hc2;cases hc2;simp
 rw[hf0] at hcell;refine (Any.Builder_copyCheck_used { J1P with } J0i.toX72 c w hcell).mono ?_;rintro e w' ⟨rfl,rfl⟩
 have hH:setH H b (some (g,bldB (.op b g 0 0) buf))=H:=by
  funext x;unfold setH;split
  ·rename_i h;rw[h,hb]
  rfl
 exact ⟨_,.tup [],H,κ,rfl,⟨rfl,hH.symm⟩,hr,.tup [] #[] rfl (fun i h=>by simp at h),fun h=>h⟩
def JCR {κ:KM}{w:World}{N:Nat→Prop}{b g i k c o:Nat}(h:VR κ w N (.op b g i k) (.pointer (some ⟨c,o,none⟩))):∃ K,κ b g=some K∧K.c=some c∧0<K.n:=by
 generalize hv:Value.pointer (some ⟨c,o,none⟩)=v at h
 cases h with
 |op _ _ _ _ c2 K2 h1 h2 h3=>cases hv;exact ⟨_,h1,h2,h3⟩
def JAc {gh:Gh}{κ:KM}{H:Hp}{w:World}{b g c:Nat}{p buf:AV}(hr:HRel gh κ H w)(hb:H b=some (g,bldB p buf))(hs:VR κ w (Nset gh.O κ H) (.op b g 0 0) (.pointer (some ⟨c,0,none⟩)))(hp:p.cells=[p])(hbc:buf.cells=[buf]) :
  ∃ v0 v1,w.heap[c]?=some (.cells #[v0,v1] solo (0,0))∧VR κ w (Nset gh.O κ H) p v0∧VR κ w (Nset gh.O κ H) buf v1:=by
 obtain ⟨K,hκ,hc,hn⟩:=JCR hs;obtain ⟨K1,hκ1,hbr⟩:=hr.blk _ _ _ hb;rw[hκ] at hκ1;cases hκ1;obtain ⟨hn2,hcl,h3⟩:=hbr.rows hn
 rcases h3 with ⟨h3,_⟩|⟨c',A,f,hc',hbk,hm,hs',hf,hpl,hvv,hso⟩
 ·rw[h3] at hc;cases hc
 rw[hc'] at hc;cases hc;have hsz:A.size=2:=hso rfl;obtain ⟨L⟩:=A
 rcases L with _|⟨v0,_|⟨v1,_|⟨v2,r⟩⟩⟩<;>simp at hsz
 have e0:=hf 0 (by simp[bldB]) 0 (by simp[bldB]);have e1:=hf 0 (by simp[bldB]) 1 (by simp[bldB]);simp[bldB] at e0 e1;subst e0 e1;exact ⟨_,_,hbk,hvv 0 (by simp[bldB]) 0 (by simp[bldB]),hvv 0 (by simp[bldB]) 1 (by simp[bldB])⟩
def JCQ {κ:KM}{w:World}{N:Nat→Prop}{b g off len:Nat}{v:Value}(h:VR κ w N (.own b g off len) v):∃ ao n' cap,v=.slice ao n' cap:=by
 cases h<;>exact ⟨_,_,_,rfl⟩
def JJM {gh:Gh}{κ:KM}{H:Hp}{w:World}{b g c d γ len n' cap:Nat}{ao:Option Addr}{p buf:AV}(hr:HRel gh κ H w)(hb:H b=some (g,bldB p buf))(hs:VR κ w (Nset gh.O κ H) (.op b g 0 0) (.pointer (some ⟨c,0,none⟩)))(hp:p.cells=[p])(hbc:buf.cells=[buf])
  (hx:VR κ w (Nset gh.O κ H) (.own d γ 0 len) (.slice ao n' cap)) :
  ∃ κ',HRel gh κ' (setH H b (some (g,bldB p (.own d γ 0 len)))) (w.setCell ⟨c,1,none⟩ (.slice ao n' cap))∧∀ {y:AV} {v:Value},VR κ w (Nset gh.O κ H) y v→VR κ' (w.setCell ⟨c,1,none⟩ (.slice ao n' cap)) (Nset gh.O κ' (setH H b (some (g,bldB p (.own d γ 0 len))))) y v:=by
 obtain ⟨v0,v1,hbk,_,_⟩:=JAc hr hb hs hp hbc;obtain ⟨K,hκ,hc,hn⟩:=JCR hs
 have hptr:VR κ w (Nset gh.O κ H) (.op b g 0 1) (.pointer (some ⟨c,1,none⟩)):=by
  have:=VR.op (w:=w) (N:=Nset gh.O κ H) b g 0 1 c K hκ hc hn
  simpa using this
 obtain ⟨up,hup,hex,w',u,κ',hrun,hR,hvr,_,_⟩:=J3i (P:=Tryz.prog) J3x hr (t:=283) hptr hx (C:=fun up=>up=some (b,g,bldB p (.own d γ 0 len))) ⟨_,rfl,rfl,rfl,_,hb,by simp[bldB],by simp[bldB],by simp[AV.cells],by simp[bldB,J6z,over,AV.cells]⟩;subst hup
 have hst:=run_storeCells_at Tryz.prog c 1 solo [.slice ao n' cap] 0 #[v0,v1] w hbk (by simp) (fun v hv=>by
  simp only[Q12] at hv;subst hv;rfl)
 have ht:=J0c (J3x 283 _ rfl)
 have hrun':(Instr.storeAt 283 (.pointer (some ⟨c,1,none⟩)) (.slice ao n' cap)).run Tryz.prog w=.ok () (w.setCell ⟨c,1,none⟩ (.slice ao n' cap)):=by
  rw[setCell_eq_setRow w c 1 _ solo (0,0) _ hbk];simp only[Q0O] at hst
  simpa [Instr.storeAt,Instr.sureAddr,QA,storeVar,ht.run_size w,Value.cells] using hst
 rw[hrun'] at hrun;cases hrun;exact ⟨κ',hR,hvr⟩
def J8U {P:Program}{w:World}{ops:Array Oper}{rest:List Oper}{o:Oper}{a:Act}{Q:Exit→Act→World→Prop}(hgd:o.guard=none)(sl x:Operand)(t u:TypeId)
  (ho:o.op=.call { callee:=.builtin .append,args:=#[sl,x],argTypes:=#[t,u] })(v:Value)(hs:a.eval sl=v)(s:ByteArray)(hx:a.eval x=.string s){v':Value}{w':World}
  (hr:(Builtin.append_ #[t,u] o.type #[v,.string s]).run P w=.ok v' w')(h:wpList P ops Q rest (a.put o.dst v') w'):wpList P ops Q (o::rest) a w:=by
 refine wpList_plain hgd fun K hK=>?_;unfold Oper.wp execOp;simp only[ho,resolve,invoke,builtin,QA,QX,QH,Q16,QK,Q0H,hs,hx,hr];exact hK _ _ h
def J8a {H:Hp}{b g d g0:Nat}{p:AV}{l:List UInt8}{s:ByteArray}(hb:H b=some (g,bldB p (.own d g0 0 l.length)))(hp:p=J1m∨p=.op b g 0 0)(hd:H d=some (g0,⟨5,1,BY l⟩))(hbd:b≠d)
  (hs:l.length+s.size≤140737488355328) :
  HCall Tryz.prog 283 [.op b g 0 0,encS s] H fun r H'=>r=.tup [encI s.size,.val .nilIface]∧∃ γ,H'=setH (setH H d (some (γ,⟨5,1,BY (l++s.data.toList)⟩))) b (some (g,bldB (.op b g 0 0) (.own d γ 0 (l.length+s.size)))):=by
 intro gh κ w vs hr hv;obtain ⟨hlen,hv⟩:=hv;obtain ⟨vl⟩:=vs
 rcases vl with _|⟨a,_|⟨a2,_|⟨a3,r⟩⟩⟩<;>simp at hlen
 have h0:=hv 0 (by simp) (by simp);have h1:=hv 1 (by simp) (by simp);simp only[Q00,Q0b,Q0Y] at h0 h1;cases h1
 have hcc:=JCC hb hp rfl gh κ w #[a] hr ⟨rfl,fun i h h'=>by
  have:i=0:=by simpa using h
  subst this;exact h0⟩
 cases h0 with
 |op _ _ _ _ c K hκ hc hn=>
 simp only[Q0O,Q0Z] at hcc ⊢;have L:Lays.n166 Tryz.prog Tryz.lays156_ren:={ J1P with };have X:=J0i;have hcc':Calls Tryz.prog (Tryz.lays156_ren.f 240) _ _ _:=hcc;have e5:Tryz.lays156_ren.t 5=5:=rfl;have e72:Tryz.lays156_ren.t 72=solo:=rfl;have hT:=J3x;show Calls Tryz.prog (Tryz.lays156_ren.f 166) _ _ _
 clear hcc;generalize Tryz.lays156_ren=ρ at L X hcc' e5 e72 ⊢;obtain ⟨i0,hi,hz0,hz1,hz2⟩:=info_parts X.infoByte;have mixed:=L.mixed;have t72:=L.t72;have a72:=L.a72;have z72:=L.z72;have v72:=L.v72;have u72:=QR L.t72;have t70:=L.t70;have a70:=L.a70;have z70:=L.z70;have v70:=L.v70;have u70:=QR L.t70;have t37:=L.t37;have a37:=L.a37;have z37:=L.z37;have v37:=L.v37;have u37:=QR L.t37;have t3:=L.t3;have a3:=L.a3;have z3:=L.z3;have v3:=L.v3;have u3:=QR L.t3;have t9:=L.t9;have a9:=L.a9;have z9:=L.z9;have v9:=L.v9;have u9:=QR L.t9;have t4:=L.t4;have a4:=L.a4;have z4:=L.z4;have v4:=L.v4;have u4:=QR L.t4;have t164:=L.t164;have a164:=L.a164;have z164:=L.z164;have v164:=L.v164;have u164:=QR L.t164;have t5:=X.t5;have a5:=X.a5;have z5:=X.z5;have v5:=X.v5;have u5:=QR X.t5;have e240:∀ args w,(callFunc (ρ.f 240) args).run Tryz.prog w=.ok (.enter (ρ.f 240) args) w:=enters_of L.f240 (by kernel_rfl) rfl
 go_enter L.f166,Body.n166_ntmps ρ
 go_wp2_with (go_at_fn (ρ.f 240);refine hcc'.mono ?_)
 rintro e w1 ⟨v0,r0,H1,κ1,he,⟨hr0,hH1⟩,hr1,hv0,ht1⟩;subst he hr0 hH1
 have hself:VR κ w (Nset gh.O κ H) (.op b g 0 0) (.pointer (some ⟨c,0,none⟩)):=by
  have:=VR.op (w:=w) (N:=Nset gh.O κ H) b g 0 0 c K hκ hc hn
  simpa using this
 have hself:=ht1 hself;have hb1:(setH H b (some (g,bldB (.op b g 0 0) (.own d g0 0 l.length)))) b=some (g,bldB (.op b g 0 0) (.own d g0 0 l.length)):=by simp[setH]
 have hd1:(setH H b (some (g,bldB (.op b g 0 0) (.own d g0 0 l.length)))) d=some (g0,⟨5,1,BY l⟩):=by rw[setH,if_neg (Ne.symm hbd)];exact hd
 generalize hH1:setH H b (some (g,bldB (.op b g 0 0) (.own d g0 0 l.length)))=H1 at hr1 hv0 ht1 hself hb1 hd1;obtain ⟨p1,v,hbk,_,hv1⟩:=JAc hr1 hb1 hself rfl rfl;have c1:w1.cell? ⟨c,1,none⟩=some v:=by rw[Lib.cell_of_heap hbk];rfl
 obtain ⟨G,hG⟩:=hr1.fresh;obtain ⟨v',w2,κ2,hrun,hr2,ht2,hv2,hk2⟩:=JBw (P:=Tryz.prog) (ty:=ρ.t 37) (u:=ρ.t 9) hr1 (d:=d) (g:=g0) (γ:=G) (s:=s) L.t37 L.t9 hi hz0 hz1 hz2 (by rw[e5];decide) (hG _ _ (QM _)) (by rw[e5];exact hd1) hv1 hs;rw[e5] at hr2 ht2 hv2;have hself2:=ht2 hself;have hb2:app H1 (some (d,G,⟨5,1,BY (l++s.data.toList)⟩)) b=some (g,bldB (.op b g 0 0) (.own d g0 0 l.length)):=by simp only[app,setH];rw[if_neg hbd];exact hb1
 generalize hH2:app H1 (some (d,G,⟨5,1,BY (l++s.data.toList)⟩))=H2 at hr2 ht2 hv2 hself2 hb2;obtain ⟨p2,v2,hbk2,_,_⟩:=JAc hr2 hb2 hself2 rfl rfl;have d1:w2.cell? ⟨c,1,none⟩=some v2:=by rw[Lib.cell_of_heap hbk2];rfl
 have f1:w2.frozen? ⟨c,1,none⟩=false:=Lib.frozen_of_heap hbk2 1;obtain ⟨ao,n',cap,rfl⟩:∃ ao n' cap,v'=.slice ao n' cap:=JCQ hv2
 go_wp2_with (at_builtin;refine J8U rfl _ _ (ρ.t 37) (ρ.t 9) rfl v rfl s rfl hrun ?_)
 go_ret2
 obtain ⟨κ3,hr3,ht3⟩:=JJM hr2 hb2 hself2 rfl rfl hv2;subst hH2 hH1
 have eH:∀ z,setH (app (setH H b z) (some (d,G,⟨5,1,BY (l++s.data.toList)⟩))) b (some (g,bldB (.op b g 0 0) (.own d G 0 (l.length+s.size))))=setH (setH H d (some (G,⟨5,1,BY (l++s.data.toList)⟩))) b (some (g,bldB (.op b g 0 0) (.own d G 0 (l.length+s.size)))):=by
  intro z;funext x;simp only[app,setH];split<;>(try split)<;>rfl
 rw[eH] at hr3 ht3
 exact ⟨_,.tup [encI s.size,.val .nilIface],_,κ3,rfl,⟨rfl,_,rfl⟩,hr3,.tup _ _ rfl (fun i h h'=>by
  match i,h with
  |0,_=>exact .val _ rfl
  |1,_=>exact .val _ rfl),fun h=>ht3 (ht2 (ht1 h))⟩
end Go.Proofs.YtlblbldolhiokaaGreatDoor
namespace Go.Proofs.YtlblbldolhiokaaGreatDoor
open Go Go.Fw
structure G where
 eqs:List ByteArray
 uses:List U
 joined:List (List Int)
def J3J (l:List U):AV:=.sl 3 (l.map encU)
def JBj (L:List Nat)(j:Nat)(h:j∈L):(L.filter (· ≠ j)).length<L.length:=by
 refine Nat.lt_of_le_of_ne (List.length_filter_le _ _) fun e=>?_;have:=(List.length_filter_eq_length_iff.1 e) j h;simp at this
def JDN (L:List Nat)(j:Nat):(L.map Fw.encN).filter (fun x=>match x with|.val (.int _ i)=>!decide (i=(j:Int))|_=>true)=(L.filter (· ≠ j)).map Fw.encN:=by
 rw[Q3J]
 congr 1
 refine List.filter_congr fun i _=>?_;simp only[Q2i,Fw.encN]
 by_cases h:i=j
 ·simp[h]
 have:¬ (i:Int)=j:=by omega
 simp[h,this]
def ownM {b g e:Nat}{H:Hp}{A:List U}(hb:H b=some (g,⟨e,0,[setU A]⟩)):J08 [b] H 3 (.om b g)=setU A:=by
 unfold J08 setU;rw[hb];simp[setU]
def JLg:∀ (a b:List UInt8),(Lib.compareBytes a b<0)↔Op.bytesLess a b=true:=by
 intro a
 induction a with
 |nil=>intro b;cases b<;>simp[Lib.compareBytes,Op.bytesLess]
 |cons x a ih=>
   intro b
   cases b with
   |nil=>simp[Lib.compareBytes,Op.bytesLess]
   |cons y b=>
     unfold Lib.compareBytes Op.bytesLess;have h1:=ih b
     by_cases hxy:x<y
     ·simp[hxy]
     by_cases hyx:y<x
     ·have hne:¬ x=y:=fun e=>by subst e;exact hxy hyx
      simp[hxy,hyx,hne]
     have:x=y:=UInt8.le_antisymm (UInt8.not_lt.1 hyx) (UInt8.not_lt.1 hxy);subst this;simp[hxy,h1]
def J7S (a b:U):decide (0≤J2h a b)=!beforeF a b:=by
 unfold J2h JG0 beforeF
 by_cases h1:a.name=b.name
 ·simp only[Q2 h1]
  by_cases h2:a.pre=b.pre
  ·simp only[Q2 h2];rw[← decide_not];exact QS.2 (by omega)
  simp only[Q1 h2];cases b.pre<;>rfl
 simp only[Q1 h1];have:=JLg a.name.data.toList b.name.data.toList;rw[Q0w,Q0w];cases hb:Op.bytesLess a.name.data.toList b.name.data.toList
 ·rw[hb] at this;exact Q2 (by unfold cmpS;simp at this;exact this)
 rw[hb] at this;exact Q1 (by unfold cmpS;simp at this;omega)
def J9X (u:U):beforeF u u=false:=by unfold beforeF;simp
def J5G (u v w:U)(h1:beforeF u v=true)(h2:beforeF v w=true):beforeF u w=true:=by
 unfold beforeF at h1 h2 ⊢
 by_cases e1:u.name=v.name
 ·rw[Q2 e1] at h1;simp only at h1
  by_cases e2:v.name=w.name
  ·rw[Q2 e2] at h2;rw[Q2 (e1.trans e2)];simp only at h2 ⊢
   by_cases p1:u.pre=v.pre
   ·rw[Q2 p1] at h1
    by_cases p2:v.pre=w.pre
    ·rw[Q2 p2] at h2;rw[Q2 (p1.trans p2)];simp only[Qa] at h1 h2 ⊢;omega
    rw[Q1 p2] at h2;rw[Q1 (fun q=>p2 (p1.symm.trans q))];exact h2
   rw[Q1 p1] at h1;simp only at h1
   by_cases p2:v.pre=w.pre
   ·rw[Q1 (fun q=>p1 (q.trans p2.symm))];simp only;rw[← p2];exact h1
   rw[Q1 p2] at h2;simp only at h2;exact absurd (h1.trans h2.symm) p2
  rw[Q1 e2] at h2;rw[Q1 (fun q=>e2 (e1.symm.trans q)),e1];exact h2
 rw[Q1 e1] at h1;simp only at h1
 by_cases e2:v.name=w.name
 ·rw[Q1 (fun q=>e1 (q.trans e2.symm))];simp only;rw[← e2];exact h1
 rw[Q1 e2] at h2;simp only at h2;have h3:=JAd _ _ _ h1 h2;rw[Q1 (fun q=>by rw[q,JJO] at h3;cases h3)];exact h3
def eqU (u v:U):(decide (u.name=v.name)&&(decide (u.order=v.order)&&decide (u.pre=v.pre)))=decide (u=v):=by
 obtain ⟨a,b,c⟩:=u;obtain ⟨a',b',c'⟩:=v;simp only[U.mk.injEq,Bool.decide_and]
def atR:List U→U→Nat
 |[],_=>0
 |x::r,u=>if beforeF x u then atR r u+1 else 0
def JF2 (x:U)(r:List U)(u:U):atR (x::r) u=if beforeF x u then atR r u+1 else 0:=rfl
def endU {S:List Nat}{H:Hp}{k:Nat}{L:List AV}{n:Nat}{xs:List U}(h:L=xs.map encU)(hn:n=xs.length):AV.sl 3 (((L.drop 0).take n).map (J0U (J08 S H k)))=AV.sl 3 (xs.map encU):=by
 subst h;rw[J0S _ _ _ _ hn fun x=>by cases k<;>rfl]
def insL (l:List U)(u:U)(i:Nat):List.drop 0 (List.take i (l.map encU))++[encU u]++List.drop i (List.take l.length (l.map encU))=(l.take i++[u]++l.drop i).map encU:=by
 rw[Qm (l:=l.map encU) (i:=l.length) (by simp),QW,QW,Q2d,Q2c];rfl
def insR (l:List U)(u:U):List U:=if l[atR l u]?=some u then l else l.take (atR l u)++[u]++l.drop (atR l u)
def JI9 (l:List U)(u:U)(hl:l.length≤2^40):PX 210 [J3J l,encU u] (J3J (insR l u)):=by
 refine PC [38] Tryz.func210 rfl (by rfl) rfl ?_;have hB:=fun x=>JCl x u;generalize hF:insR l u=F;unfold insR at hF;unfold J3J;refine kWQ ?_;intros;refine LoopP.intro (fun k σ H=>∃ g i,k=l.length-i∧i≤l.length∧atR l u=i+atR (l.drop i) u∧σ=fr [(0,.sl 3 (l.map encU)),(3,.op 3 g 0 0),(5,encI i)]∧H=hp [(3,g,⟨54,3,[encU u]⟩)]) ?_ ?_
 ·exact .intro <| W.of ⟨_,_,0,rfl,QG _,by simp,rfl,rfl⟩ ⟨rfl,rfl,rfl,trivial⟩ ⟨rfl,trivial⟩
 rintro k σ H ⟨g,i,rfl,hi,hat,rfl,rfl⟩
 rcases QI i l.length with h1|h1
 ·rw[List.drop_eq_getElem_cons h1] at hat;rw[JF2] at hat;have hg:l[i]?=some l[i]:=Q8 h1;obtain ⟨x,hx⟩:∃ x,l[i]=x:=⟨_,rfl⟩;rw[hx] at hat hg;have hb:=hB x;generalize beforeF x u=b at hat hb;unfold encU at hb;refine kWQ ?_;intros;simp only[hx];unfold encU;refine kQ ?_;intros;refine CallG.intro _ c119 hb ?_
  cases b with
  |true=>
    rw[if_pos rfl] at hat;refine kWQ ?_;intros
    exact .intro <| W.of ⟨_,by omega,g,i+1,rfl,h1,by omega,rfl,rfl⟩ ⟨rfl,rfl,rfl,trivial⟩ ⟨rfl,trivial⟩
  |false =>
    rw[if_neg (by simp)] at hat;rw[show atR l u=i from hat,hg] at hF;refine kWQ ?_;intros;refine Need.intro eqst54 ?_;simp only[hx];refine kWQ ?_;intros;rw[eqU];refine CondP.dec (fun c1=>?_) (fun c1=>?_)<;>refine kW ?_
    ·rw[if_pos (QC some c1)] at hF;refine kQ ?_;intros;exact .of (by rw[← hF];rfl)
    rw[if_neg (fun h=>c1 (Q0g h))] at hF;refine kQ ?_;intros;refine .of ?_;rw[← hF];refine endU ?_ ?_
    ·first
      |exact (show List.drop 0 (List.take i (l.map encU))++[encU u]++List.drop i (List.take l.length (l.map encU))=_ from insL l u i)
      |exact (show List.drop 0 (List.take i (l.map encU))++[encU u]++List.drop i (List.take (l.map encU).length (l.map encU))=_ from by rw[Q3];exact insL l u i)
    first
     |exact (show (List.drop 0 (List.take i (l.map encU))).length+1+(List.drop i (List.take l.length (l.map encU))).length=(l.take i++[u]++l.drop i).length from by simp;omega)
     |exact (show (List.drop 0 (List.take i (l.map encU))).length+1+(List.drop i (List.take (l.map encU).length (l.map encU))).length=(l.take i++[u]++l.drop i).length from by simp;omega)
 obtain rfl:i=l.length:=by omega
 rw[Q9 h1] at hat;replace hat:atR l u=l.length:=hat;have hg:l[l.length]?=none:=Q0J (QM _);rw[hat,hg,if_neg (by simp)] at hF;refine kWQ ?_;intros;refine .of ?_;rw[← hF];refine endU ?_ ?_
 ·first
   |exact (show List.drop 0 (List.take l.length (l.map encU))++[encU u]++List.drop l.length (List.take l.length (l.map encU))=_ from insL l u l.length)
   |exact (show List.drop 0 (List.take l.length (l.map encU))++[encU u]++List.drop l.length (List.take (l.map encU).length (l.map encU))=_ from by rw[Q3];exact insL l u l.length)
 first
  |exact (show (List.drop 0 (List.take l.length (l.map encU))).length+1+(List.drop l.length (List.take l.length (l.map encU))).length=(l.take l.length++[u]++l.drop l.length).length from by simp)
  |exact (show (List.drop 0 (List.take l.length (l.map encU))).length+1+(List.drop l.length (List.take (l.map encU).length (l.map encU))).length=(l.take l.length++[u]++l.drop l.length).length from by simp)
def JNB {P:Program}{f:Nat}{a a':List AV}{r:AV}(h:PureCall P f a r)(hl:a'.length=a.length∧∀ i (h:i<a'.length) (h':i<a.length),Le a'[i] a[i]):PureCall P f a' r:=by
 intro O w vs hO hv;exact h O w vs hO ⟨hl.1.symm.trans hv.1,fun i h1 h2=>hl.2 i (hl.1.symm ▸ h1) h1 w O _ (hv.2 i (hl.1.symm ▸ h1) h2)⟩
mutual
def J5Z:Ex→List U→List U
 |.mk o t n ks,l=>J26 ks (if o=oVar∨o=oPre then insR l ⟨t,n,decide (o=oPre)⟩ else l)
def J26:List Ex→List U→List U
 |[],l=>l
 |k::ks,l=>J26 ks (J5Z k l)
end
def JKS (e:Ex)(l:List U):J5Z e l=J26 e.kids (if e.op=oVar∨e.op=oPre then insR l (useF e) else l):=by cases e;rfl
def JEg (l:List U)(u:U):(insR l u).length≤l.length+1:=by
 unfold insR;split
 ·omega
 simp;omega
mutual
theorem J6r:∀ (e:Ex) (l:List U),(J5Z e l).length≤l.length+szF e
 |.mk o t n ks,l=>by
   unfold J5Z szF;refine Qg (J8g ks _) ?_;split
   ·have:=JEg l ⟨t,n,decide (o=oPre)⟩;omega
   omega
theorem J8g:∀ (ks:List Ex) (l:List U),(J26 ks l).length≤l.length+szL ks
 |[],l=>by unfold J26;omega
 |k::ks,l=>by
   unfold J26 szL;refine Qg (J8g ks _) ?_;have:=J6r k l;omega
end
def JKb (k:Ex)(ks:List Ex):szL (k::ks)=szF k+szL ks:=rfl
def JKR (e:Ex):SzE e→∀ l:List U,l.length+szF e≤2^30→PX 127 [encE e,J3J l] (J3J (J5Z e l)):=by
 induction e using J1i with
 |h e ih=>
   intro hs l hl;have ihk:=fun k hk=>ih k hk (hs.kid k hk);have hlen:=hs.len;have hsz:=JE2 e;have hin:=JI9 l (useF e) (by omega);have hil:=JEg l (useF e);refine PZ Tryz.func127 rfl ?_;generalize hF:J5Z e l=F;rw[JKS] at hF;have hu:useF e=⟨e.text,e.order,decide (e.op=oPre)⟩:=rfl;rw[hu] at hF hin hil;clear ih hs hu;rw[J02];generalize e.kids=ks at *;generalize e.op=o at *;generalize e.text=tx at *;generalize e.order=od at *;unfold encU at hin;refine kWS ?_;intros;refine CondP.dec (fun h1=>?_) (fun h1=>?_)<;>refine kW ?_
   case' refine_2=>
    by_cases h2:o=oPre
   case' pos|refine_1=>
    rw[if_pos (by simp[*])] at hF;refine kS ?_;intros;refine J00 [] _ c210 hin ?_;refine kWS ?_;intros
   case' neg=>
    rw[if_neg (by simp[*])] at hF;refine kS ?_;intros
   all_goals
    refine LoopP.intro (fun k σ H=>∃ g i,∃ acc:List U,k=ks.length-i∧i≤ks.length∧acc.length+szL (ks.drop i)≤2^30∧J26 (ks.drop i) acc=F∧σ=fr [(1,J3J acc),(2,.op 2 g 0 0),(5,encI i)] ∧
     H=hp [(2,g,⟨29,4,[.agg [encS o,encS tx,encI od,.sl 4 (ks.map encE)]]⟩)]) ?_ ?_
    case' refine_1=>exact .intro <| W.of ⟨_,_,0,_,rfl,QG _,by first|(show l.length+szL ks≤2^30;omega)|(show (insR _ _).length+szL ks≤2^30;omega),hF,rfl,rfl⟩ ⟨rfl,rfl,rfl,trivial⟩ ⟨rfl,trivial⟩
    case' refine_2=>
     clear hF hin hil;rintro k σ H ⟨g,i,acc,rfl,hi,hac,hF,rfl,rfl⟩
     rcases QI i ks.length with h9|h9
     ·rw[Q6 h9] at hF hac;rw[JKb] at hac;have hk:=ihk _ (QF h9) acc (by omega);have hln:=J6r ks[i] acc;obtain ⟨k,hkk⟩:∃ k,ks[i]=k:=⟨_,rfl⟩;rw[hkk] at hF hk hac hln;unfold J26 at hF;rw[J02] at hk;refine kWQ ?_;intros;simp only[hkk,J02];refine kQ ?_;intros;refine J00 [] _ c127 hk ?_;refine kWQ ?_;intros
      exact .intro <| W.of ⟨_,by omega,g,i+1,_,rfl,h9,by omega,hF,rfl,rfl⟩ ⟨rfl,rfl,rfl,trivial⟩ ⟨rfl,trivial⟩
     rw[Q9 h9] at hF;refine kWQ ?_;intros;exact .of (by rw[← hF];rfl)
def JNl (x:List U×Int):AV:=.tup [J3J x.1,encI x.2]
def JQq {s:Sys}(hs:SzS s):∀ q∈s.eqs,(SzE q.left∧TxE q.left)∧SzE q.right∧TxE q.right:=fun q hq=>⟨hs.e _ (by unfold allF;exact Qz _ (Qz _ (J19 hq).1)),hs.e _ (by unfold allF;exact Qz _ (Qz _ (J19 hq).2))⟩
def JJP (u v:U)(h:beforeF u v=false)(hne:u≠v):beforeF v u=true:=by
 unfold beforeF at h ⊢
 by_cases e1:u.name=v.name
 ·rw[Q2 e1] at h;rw[Q2 e1.symm];simp only at h ⊢
  by_cases p1:u.pre=v.pre
  ·rw[Q2 p1] at h;rw[Q2 p1.symm];simp only[Qa,Qe] at h ⊢;refine Int.lt_iff_le_and_ne.2 ⟨by omega,fun e=>hne ?_⟩;obtain ⟨a,b,c⟩:=u;obtain ⟨a',b',c'⟩:=v;simp only at e1 p1 e;rw[e1,p1,e]
  rw[Q1 p1] at h;rw[Q1 (fun q=>p1 q.symm)];simp only at h ⊢
  cases hu:u.pre with
  |true=>rfl
  |false=>exact absurd (hu.trans h.symm) p1
 rw[Q1 e1] at h;rw[Q1 (fun q=>e1 q.symm)];simp only at h ⊢;have:=JJN u.name.toList v.name.toList;rw[h,Qj,Q1 (fun q=>e1 (Q1j (by rw[Q0w,Q0w] at q;exact Q2a.1 q)))] at this
 simpa using this.symm
def insS:List U→U→List U
 |[],u=>[u]
 |x::r,u=>if beforeF x u then x::insS r u else if x=u then x::r else u::x::r
theorem JDK:∀ (l:List U) (u:U),insR l u=insS l u
 |[],u=>rfl
 |x :: r,u=>by
   have ih:=JDK r u;unfold insR at ih ⊢;rw[JF2];unfold insS
   cases hb:beforeF x u with
   |true=>
     simp only[if_true,List.getElem?_cons_succ,Q0D,Q1S];rw[← ih];split<;>rfl
   |false=>
     simp only[Qc,if_false,List.getElem?_cons_zero,Qv,Q2P,Q0F];split<;>rfl
theorem JA7 (v:U):∀ (l:List U) (u:U),v∈insS l u↔v∈l∨v=u
 |[],u=>by simp[insS]
 |x :: r,u=>by
   unfold insS
   cases hb:beforeF x u with
   |true=>
     rw[if_pos rfl,QO,QO,JA7 v r u,or_assoc]
   |false=>
     rw[if_neg (by simp)]
     by_cases hx:x=u
     ·rw[if_pos hx];refine ⟨.inl,fun h=>h.elim id fun h=>?_⟩;rw[h,← hx];simp
     rw[if_neg hx,QO,or_comm]
def SrtU (l:List U):Prop:=l.Pairwise fun a b=>beforeF a b=true
theorem JE4:∀ (l:List U) (u:U),SrtU l→SrtU (insS l u)
 |[],u,_=>List.pairwise_singleton ..
 |x :: r,u,h=>by
   obtain ⟨h1,h2⟩:=Q1x.1 h;unfold insS
   cases hb:beforeF x u with
   |true=>
     rw[if_pos rfl];refine Q1x.2 ⟨fun y hy=>?_,JE4 r u h2⟩
     rcases (JA7 y r u).1 hy with hy|rfl
     ·exact h1 y hy
     exact hb
   |false=>
     rw[if_neg (by simp)]
     by_cases hx:x=u
     ·rw[if_pos hx];exact h
     rw[if_neg hx];have hux:=JJP x u hb hx;refine Q1x.2 ⟨fun y hy=>?_,h⟩
     rcases QO.1 hy with rfl|hy
     ·exact hux
     exact J5G _ _ _ hux (h1 y hy)
def SrtU.nodup {l:List U}(h:SrtU l):l.Nodup:=by
 refine List.Pairwise.imp (fun {a b} hab=>?_) h;rintro rfl;rw[J9X] at hab;cases hab
def JI8 (o:ByteArray):Prop:=o=oVar∨o=oPre
mutual
def OccE:Ex→U→Prop
 |.mk o t n ks,u=>(JI8 o∧u=⟨t,n,decide (o=oPre)⟩)∨OccL ks u
def OccL:List Ex→U→Prop
 |[],_=>False
 |k::ks,u=>OccE k u∨OccL ks u
end
mutual
theorem JBW (u:U):∀ (e:Ex) (A:List U),u∈J33 e A↔u∈A∨OccE e u
 |.mk o t n ks,A=>by
   unfold J33 OccE;rw[JBV u ks]
   by_cases h:o=oVar∨o=oPre
   ·rw[if_pos h];unfold putU JI8;split
    ·rename_i hm;constructor
     ·rintro (h1 | h1)
      ·exact .inl h1
      exact .inr (.inr h1)
     rintro (h1|⟨_,h1⟩|h1)
     ·exact .inl h1
     ·rw[h1];exact .inl hm
     exact .inr h1
    rw[Q0z,Q12];constructor
    ·rintro ((h1 | h1) | h1)
     ·exact .inl h1
     ·exact .inr (.inl ⟨h,h1⟩)
     exact .inr (.inr h1)
    rintro (h1|⟨_,h1⟩|h1)
    ·exact .inl (.inl h1)
    ·exact .inl (.inr h1)
    exact .inr h1
   rw[if_neg h];unfold JI8;constructor
   ·rintro (h1 | h1)
    ·exact .inl h1
    exact .inr (.inr h1)
   rintro (h1|⟨h2,_⟩|h1)
   ·exact .inl h1
   ·exact absurd h2 h
   exact .inr h1
theorem JBV (u:U):∀ (ks:List Ex) (A:List U),u∈J4O ks A↔u∈A∨OccL ks u
 |[],A=>by unfold J4O OccL;simp
 |k::ks,A=>by
   unfold J4O OccL;rw[JBV u ks,JBW u k,or_assoc]
end
mutual
theorem JBU (u:U):∀ (e:Ex) (A:List U),u∈J5Z e A↔u∈A∨OccE e u
 |.mk o t n ks,A=>by
   unfold J5Z OccE;rw[J98 u ks]
   by_cases h:o=oVar∨o=oPre
   ·rw[if_pos h,JDK,JA7,or_assoc];unfold JI8;simp only[h,true_and]
   rw[if_neg h];unfold JI8;simp only[h,false_and,false_or]
theorem J98 (u:U):∀ (ks:List Ex) (A:List U),u∈J26 ks A↔u∈A∨OccL ks u
 |[],A=>by unfold J26 OccL;simp
 |k::ks,A=>by
   unfold J26 OccL;rw[J98 u ks,JBU u k,or_assoc]
end
mutual
theorem JB7:∀ (e:Ex) (A:List U),SrtU A→SrtU (J5Z e A)
 |.mk o t n ks,A,h=>by
   unfold J5Z;refine J8n ks _ ?_;split
   ·rw[JDK];exact JE4 _ _ h
   exact h
theorem J8n:∀ (ks:List Ex) (A:List U),SrtU A→SrtU (J26 ks A)
 |[],A,h=>by unfold J26;exact h
 |k::ks,A,h=>by unfold J26;exact J8n ks _ (JB7 k A h)
end
end Go.Proofs.YtlblbldolhiokaaGreatDoor
namespace Go.Proofs
open Go.Shelf
def Tryz.lays106_ren:Go.Shelf.Ren:=⟨fun|106=>195|213=>289|265=>335|n=>n,fun|9=>9|3=>3|n=>n,fun|n=>n⟩
def JCT:Go.Proofs.Lays.n106 Tryz.prog Tryz.lays106_ren:={
 mixed:=by kernel_rfl
 f106:=Tryz.func195.trans (QC some (by kernel_rfl))
 f213:=Tryz.func289.trans (QC some (by kernel_rfl))
 f265:=Tryz.func335.trans (QC some (by kernel_rfl))
 t3:=Tryz.underlying3
 a3:=Tryz.isAgg3
 z3:=Tryz.sizeOf3
 v3:=Tryz.zeroValue3
 t9:=Tryz.underlying9
 a9:=Tryz.isAgg9
 z9:=Tryz.sizeOf9
 v9:=Tryz.zeroValue9 }
def Tryz.sortU_ren:Go.Shelf.Ren:=⟨fun|6=>198|15=>292|14=>291|28=>345|29=>346|20=>337|21=>338|22=>339|23=>340|24=>341|25=>342|26=>343|27=>344|46=>369|47=>370|48=>371|49=>372|50=>373|57=>383|n=>n,fun|22=>30|24=>54|25=>163|3=>3|39=>239|0=>0|53=>285|55=>274|4=>4|46=>359|45=>358|50=>146|5=>5|9=>9|66=>393|70=>397|76=>406|77=>407|n=>n,fun|n=>n⟩
def JGO:Go.Proofs.SlLaysF0.n6 Tryz.prog Tryz.sortU_ren:={
 mixed:=by kernel_rfl
 f6:=⟨Tryz.f198.name,by decide,Tryz.func198.trans (QC some (by kernel_rfl))⟩
 f14:=⟨Tryz.f291.name,by decide,Tryz.func291.trans (QC some (by kernel_rfl))⟩
 f15:=Tryz.func292.trans (QC some (by kernel_rfl))
 f20:=⟨Tryz.f337.name,by decide,Tryz.func337.trans (QC some (by kernel_rfl))⟩
 f21:=⟨Tryz.f338.name,by decide,Tryz.func338.trans (QC some (by kernel_rfl))⟩
 f22:=⟨Tryz.f339.name,by decide,Tryz.func339.trans (QC some (by kernel_rfl))⟩
 f23:=⟨Tryz.f340.name,by decide,Tryz.func340.trans (QC some (by kernel_rfl))⟩
 f24:=⟨Tryz.f341.name,by decide,Tryz.func341.trans (QC some (by kernel_rfl))⟩
 f25:=⟨Tryz.f342.name,by decide,Tryz.func342.trans (QC some (by kernel_rfl))⟩
 f26:=⟨Tryz.f343.name,by decide,Tryz.func343.trans (QC some (by kernel_rfl))⟩
 f27:=⟨Tryz.f344.name,by decide,Tryz.func344.trans (QC some (by kernel_rfl))⟩
 f28:=Tryz.func345.trans (QC some (by kernel_rfl))
 f29:=Tryz.func346.trans (QC some (by kernel_rfl))
 f46:=⟨Tryz.f369.name,by decide,Tryz.func369.trans (QC some (by kernel_rfl))⟩
 f47:=Tryz.func370.trans (QC some (by kernel_rfl))
 f48:=Tryz.func371.trans (QC some (by kernel_rfl))
 f49:=⟨Tryz.f372.name,by decide,Tryz.func372.trans (QC some (by kernel_rfl))⟩
 f50:=⟨Tryz.f373.name,by decide,Tryz.func373.trans (QC some (by kernel_rfl))⟩
 f57:=⟨Tryz.f383.name,by decide,Tryz.func383.trans (QC some (by kernel_rfl))⟩
 t0:=Tryz.underlying0
 a0:=Tryz.isAgg0
 z0:=Tryz.sizeOf0
 v0:=Tryz.zeroValue0
 t3:=Tryz.underlying3
 a3:=Tryz.isAgg3
 z3:=Tryz.sizeOf3
 v3:=Tryz.zeroValue3
 t4:=Tryz.underlying4
 a4:=Tryz.isAgg4
 z4:=Tryz.sizeOf4
 v4:=Tryz.zeroValue4
 t5:=Tryz.underlying5
 a5:=Tryz.isAgg5
 z5:=Tryz.sizeOf5
 v5:=Tryz.zeroValue5
 t9:=Tryz.underlying9
 a9:=Tryz.isAgg9
 z9:=Tryz.sizeOf9
 v9:=Tryz.zeroValue9
 t22:=Tryz.underlying30
 a22:=Tryz.isAgg30
 z22:=Tryz.sizeOf30
 v22:=Tryz.zeroValue30
 t25:=Tryz.underlying163
 a25:=Tryz.isAgg163
 z25:=Tryz.sizeOf163
 v25:=Tryz.zeroValue163
 t39:=Tryz.underlying239
 a39:=Tryz.isAgg239
 z39:=Tryz.sizeOf239
 v39:=Tryz.zeroValue239
 t45:=Tryz.underlying358
 a45:=Tryz.isAgg358
 z45:=Tryz.sizeOf358
 v45:=Tryz.zeroValue358
 t46:=Tryz.underlying359
 a46:=Tryz.isAgg359
 z46:=Tryz.sizeOf359
 v46:=Tryz.zeroValue359
 t50:=Tryz.underlying146
 a50:=Tryz.isAgg146
 z50:=Tryz.sizeOf146
 v50:=Tryz.zeroValue146
 t53:=Tryz.underlying285
 a53:=Tryz.isAgg285
 z53:=Tryz.sizeOf285
 v53:=Tryz.zeroValue285
 t55:=Tryz.underlying274
 a55:=Tryz.isAgg274
 z55:=Tryz.sizeOf274
 v55:=Tryz.zeroValue274
 t66:=Tryz.underlying393
 a66:=Tryz.isAgg393
 z66:=Tryz.sizeOf393
 v66:=Tryz.zeroValue393
 t70:=Tryz.underlying397
 a70:=Tryz.isAgg397
 z70:=Tryz.sizeOf397
 v70:=Tryz.zeroValue397
 t76:=Tryz.underlying406
 a76:=Tryz.isAgg406
 z76:=Tryz.sizeOf406
 v76:=Tryz.zeroValue406
 t77:=Tryz.underlying407
 a77:=Tryz.isAgg407
 z77:=Tryz.sizeOf407
 v77:=Tryz.zeroValue407 }
end Go.Proofs
namespace Go.Proofs.YtlblbldolhiokaaGreatDoor
open Go Go.Fw Go.RowKit Go.Shelf Go.Sort
def UB:={u:U // 0≤u.order∧u.order≤6}
instance:Inhabited UB:=⟨⟨⟨⟨#[]⟩,0,false⟩,by decide⟩⟩
def J1F (x:UB):List Value:=[.string x.1.name,.int .i64 x.1.order,.bool x.1.pre]
def JFz (x y:UB)(W:World):Calls Tryz.prog 116 #[.agg (J1F x).toArray,.agg (J1F y).toArray] W fun e w'=>e=.returned (.int .i64 (J2h x.1 y.1))∧∃ q os',w'=Go.Sort.grow (W.drewN q) os':=by
 have hcon:=fun W'=>Any.strings_Compare JCT x.1.name y.1.name W'
 change ∀ W',Calls Tryz.prog 195 _ _ _ at hcon
 obtain ⟨⟨xn,xo,xp⟩,hx⟩:=x;obtain ⟨⟨yn,yo,yp⟩,hy⟩:=y;simp only[J1F] at *
 by_cases h1:xn=yn
 ·subst h1;clear hcon;cases xp<;>cases yp
  all_goals
   rw[show J2h ⟨xn,xo,_⟩ ⟨xn,yo,_⟩=_ by unfold J2h JG0;simp only[decide_true];rfl]
   go_enter Tryz.func116,Tryz.ntmps116
   go_wp2
   go_ret
   refine ⟨?_,0,_,by rw[alloc_eq_grow,alloc_eq_grow,grow_grow];rfl⟩
   first
    |rfl
    |exact QC (fun n=>Ending.returned (.int .i64 n)) (show wrap64 (xo-yo)=xo-yo by unfold wrap64;omega)
 rw[show J2h ⟨xn,xo,xp⟩ ⟨yn,yo,yp⟩=Lib.compareBytes xn.data.toList yn.data.toList by unfold J2h JG0;simp only[Q1 h1];rfl]
 have h2:(xn.toList==yn.toList)=false:=by
  rw[beq_eq_false_iff_ne];intro e;rw[Q0w,Q0w] at e;exact h1 (Q1j (Q2a.1 e))
 have h3:∀ {C:Prop},(!xn.toList==yn.toList)=false→C:=fun h=>by rw[h2] at h;cases h
 generalize Lib.compareBytes xn.data.toList yn.data.toList=r at hcon ⊢
 go_enter Tryz.func116,Tryz.ntmps116
 go_wp2_with (go_at_call 195;refine (hcon _).mono ?_;rintro e w' ⟨rfl,rfl⟩)
 all_goals first|exact h3 (by assumption)|(go_ret;exact ⟨rfl,0,_,by rw[alloc_eq_grow,alloc_eq_grow,grow_grow];rfl⟩)
def JL0 (x y:UB):ltOf (fun x y:UB=>J2h x.1 y.1) x y=beforeF x.1 y.1:=by
 have:=J7S x.1 y.1;unfold ltOf
 cases hb:beforeF x.1 y.1 with
 |true=>rw[hb] at this;have:=Q0d this;exact Q2 (show J2h x.1 y.1<0 by omega)
 |false=>rw[hb] at this;have:=Qh this;exact Q1 (show ¬ J2h x.1 y.1<0 by omega)
def swoU:Go.Sort.SWO (ltOf fun x y:UB=>J2h x.1 y.1) where
 irrefl x:=by rw[JL0];exact J9X _
 trans x y z h1 h2:=by rw[JL0] at *;exact J5G _ _ _ h1 h2
 ntrans x y z h1 h2:=by
  rw[JL0] at *
  cases hb:beforeF x.1 z.1 with
  |false=>rfl
  |true=>
    by_cases e:x.1=y.1
    ·rw[e,h2] at hb;cases hb
    have:=JJP _ _ h1 e;have:=J5G _ _ _ this hb;rw[h2] at this;cases this
def JKe:PX 198 [.sl 3 [],.fn (.func 116) [] []] (.tup []):=J1f JAk (fuel:=50) (n:=10) (by kernel_rfl)
def J9U (d:Array UB)(i j:Nat)(hi:i<d.size)(hj:j<3):(flatK J1F 3 d)[i*3+j]?=some ((J1F d[i])[j]!):=by
 have hs:i*3+j<(flatK J1F 3 d).size:=by rw[size_flatK];omega
 have h:=get_flatK J1F 3 d (i*3+j) (by omega);rw[getElem!_pos (flatK J1F 3 d) (i*3+j) hs] at h;rw[QN hs,h,show (i*3+j)/3=i by omega,show (i*3+j)%3=j by omega,getElem!_pos d i hi]
def JHM (w:World)(c n:Nat)(d:Array UB)(os:Array Obj)(A:Array Value)(e:Nat)(hbk:w.heap[c]?=some (.cells A e (0,0))) :
  (∀ x,x<w.heap.size→x≠c→(sortWorldK J1F 3 w c 0 n d os).heap[x]?=w.heap[x]?)∧(sortWorldK J1F 3 w c 0 n d os).heap[c]?=some (.cells (putCells id 0 (flatK J1F 3 d) A) e (0,0))∧w.heap.size≤(sortWorldK J1F 3 w c 0 n d os).heap.size:=by
 have hlt:=(QU.1 hbk).1;have hh:(sortWorldK J1F 3 w c 0 n d os).heap=w.heap.modify c (onCells (putCells id 0 (flatK J1F 3 d)))++os:=rfl;refine ⟨fun x hx hne=>?_,?_,?_⟩
 ·rw[hh,Q18 (by simpa using hx),Q2W,if_neg (fun q=>hne q.symm)]
 ·rw[hh,Q18 (by simpa using hlt),Q2W,if_pos rfl,hbk];rfl
 rw[hh];simp
def JHm (A:Array Value)(d:Array UB)(hA:d.size*3≤A.size)(i j:Nat)(hi:i<d.size)(hj:j<3):(putCells id 0 (flatK J1F 3 d) A)[i*3+j]?=some ((J1F d[i])[j]!):=by
 have h:=J9U d i j hi hj;have hs:i*3+j<(flatK J1F 3 d).size:=(QU.1 h).1;have ha:i*3+j<A.size:=by rw[size_flatK] at hs;omega
 unfold putCells;rw[Array.getElem?_mapIdx,QN ha];simp only[Q1E];rw[if_pos ⟨QG _,by omega⟩,Q2l,getElem!_pos (flatK J1F 3 d) (i*3+j) hs];rw[QN hs] at h;exact h
def JFY {gh:Gh}{κ:KM}{H:Hp}{w:World}{b g c:Nat}{K:KI}{B:Blk}{A:Array Value}(hr:HRel gh κ H w)(hb:H b=some (g,B))(hκ:κ b g=some K)(hc:K.c=some c)(hn3:K.n=3)(hm:K.m=A.size)(e3:Nat)(he:e3≠solo)
  (hbk:w.heap[c]?=some (.cells A e3 (0,0)))(n:Nat)(l:List UB)(os:Array Obj)(hA:l.length*3≤A.size) :
  HRel gh κ (setH H b (some (g,⟨e3,3,(l.map (·.1)).map encU⟩))) (sortWorldK J1F 3 w c 0 n l.toArray os) ∧
   ∀ {x:AV} {v:Value},VR κ w (Nset gh.O κ H) x v→VR κ (sortWorldK J1F 3 w c 0 n l.toArray os) (Nset gh.O κ (setH H b (some (g,⟨e3,3,(l.map (·.1)).map encU⟩)))) x v:=by
 obtain ⟨h1,h2,h3⟩:=JHM w c n l.toArray os A e3 hbk
 have hset:κ.set b g K=κ:=by
  funext x y
  unfold KM.set;split
  ·rename_i h;rw[h.1,h.2,hκ]
  rfl
 have key:=hr.replace (d:=b) (γ:=g) (K:=K) (B:=⟨e3,3,(l.map (·.1)).map encU⟩) (w':=sortWorldK J1F 3 w c 0 n l.toArray os) (J0r hr ..)
  ⟨h3,fun x hx hN=>h1 x hx (fun q=>hN ⟨b,g,B,K,hb,hκ,q ▸ hc⟩)⟩
  (fun b' g' B' K' c' hne hb' hκ' hc'=>h1 c' (hr.lt ⟨b',g',B',K',hb',hκ',hc'⟩) (fun q=>hne (hr.inj _ _ _ _ _ _ _ _ _ hb' hb hκ' hκ hc' (q ▸ hc))))
  ⟨rfl,rfl,rfl⟩ (.inr hκ) (fun x hx=>.inr ⟨g,B,K,hb,hκ,hx⟩) (fun tr=>.inl ⟨Nat.succ_pos 2,hn3,fun i hi=>by simp[encU,AV.cells],.inr ⟨c,_,fun i j=>(J1F l[i]!)[j]!,hc,h2,by rw[hm];simp[putCells],by simpa [putCells] using hA,fun i hi j hj=>?_,fun i j hi hj=>?_,fun i hi j hj=>?_,fun q=>absurd q he⟩⟩)
 ·rw[hset] at key;exact key
 ·have hi':i<l.length:=by simpa using hi
  have:=JHm A l.toArray (by simpa using hA) i j (by simpa using hi') hj;rw[this]
  congr 1
  simp[getElem!_pos l i hi']
 ·match j,hj with
  |0,_=>rfl
  |1,_=>rfl
  |2,_=>rfl
 have hi':i<l.length:=by simpa using hi
 have hx:((l.map (·.1)).map encU)[i]'hi=encU (l[i]).1:=by simp
 have hg:l[i]! = l[i]:=getElem!_pos l i hi';simp only[hg]
 have hv:∀ (a:AV) (ha:a=encU (l[i]).1) (hj:j<a.cells.length),VR (κ.set b g K) (sortWorldK J1F 3 w c 0 n l.toArray os) (Nset gh.O (κ.set b g K) (setH H b (some (g,⟨e3,3,(l.map (·.1)).map encU⟩)))) (a.cells[j]'hj) ((J1F l[i])[j]!):=by
  rintro a rfl hj
  match j,hj with
  |0,_=>exact .val _ rfl
  |1,_=>exact .val _ rfl
  |2,_=>exact .val _ rfl
 exact hv _ hx hj
def JKU {κ:KM}{w:World}{N:Nat→Prop}(x:UB):∀ (j:Nat) (hj:j<(encU x.1).cells.length) (v:Value),VR κ w N (encU x.1).cells[j] v→v=(J1F x)[j]!
 |0,_,v,h=>by cases h;rfl
 |1,_,v,h=>by cases h;rfl
 |2,_,v,h=>by cases h;rfl
def JIJ {κ:KM}{w:World}{N:Nat→Prop}{c e3:Nat}{A:Array Value}{f:Nat→Nat→Value}(l:List UB)(hbk:w.heap[c]?=some (.cells A e3 (0,0)))
  (hf:∀ i,i<l.length→∀ j,j<3→A[i*3+j]?=some (f i j))(hv:∀ i (h:i<l.length) j (h':j<(encU (l[i]).1).cells.length),VR κ w N (encU (l[i]).1).cells[j] (f i j)):HoldsK J1F 3 w c 0 l.toArray:=by
 intro t ht;rw[size_flatK] at ht;have hi:t/3<l.length:=by simp at ht;omega
 have hj:t%3<3:=Q0B _ (by decide);have h1:=J9U l.toArray (t/3) (t%3) (by simpa using hi) hj;have h2:=hf _ hi _ hj;rw[show t/3*3+t%3=t by omega] at h1 h2;have hs:t<(flatK J1F 3 l.toArray).size:=(QU.1 h1).1
 have h3:(flatK J1F 3 l.toArray)[t]! = (J1F (l[t/3]))[t%3]! :=by
  rw[getElem!_pos (flatK J1F 3 l.toArray) t hs];rw[QN hs] at h1;exact (Q0g h1).trans (by simp)
 have h4:=hv _ hi (t%3) hj;have h5:f (t/3) (t%3)=(J1F (l[t/3]))[t%3]! := JKU _ _ hj _ h4;refine ⟨?_,by simp[World.frozen?,hbk]⟩;simp only[Qq,World.cell?,hbk,id];rw[h3,← h5]
 simpa using h2
def JLu {H:Hp}{b g:Nat}(lB:List UB)(hb:H b=some (g,⟨54,3,(lB.map (·.1)).map encU⟩))(hl:lB.length<2^40) :
  HCall Tryz.prog 198 [.own b g 0 lB.length,.fn (.func 116) [] []] H fun r H'=>r=.tup []∧∃ l':List UB,l'.Perm lB∧(l'.Pairwise fun a c=>beforeF c.1 a.1=false)∧H'=setH H b (some (g,⟨54,3,(l'.map (·.1)).map encU⟩)):=by
 intro gh κ w vs hr hv;obtain ⟨hlen,hv⟩:=hv;obtain ⟨vl⟩:=vs
 rcases vl with _|⟨a,_|⟨a2,_|⟨a3,r⟩⟩⟩<;>simp at hlen
 have h0:=hv 0 (by simp) (by simp);have h1:=hv 1 (by simp) (by simp);simp only[Q00,Q0b,Q0Y] at h0 h1
 cases h1 with
 |fn _ _ _ vf vc e1 e2 _ _=>
 obtain rfl:vf=#[]:=Q0u e1.symm;obtain rfl:vc=#[]:=Q0u e2.symm;generalize hn:lB.length=n at h0
 cases h0 with
 |ownnil _ _ K hκ hc=>
   obtain rfl:lB=[]:=Qu.1 hn;refine (JKe (Nset gh.O κ H) w _ (fun c hc=>?_) ⟨rfl,fun i h h'=>?_⟩).mono ?_
   ·rcases hc with hc | ⟨b',g',B,K',h1,h2,h3⟩
    ·exact QP (hr.apart c hc).1 hr.kept.size
    exact hr.lt ⟨b',g',B,K',h1,h2,h3⟩
   ·match i,h with
    |0,_=>exact .slnil 3
    |1,_=>exact .fn _ _ _ _ _ rfl rfl (fun i h=>by simp at h) (fun i h=>by simp at h)
   rintro e w' ⟨v,rfl,hv',hbl⟩;obtain ⟨q1,q2⟩:=J0z hr hbl
   have hH:setH H b (some (g,⟨54,3,(([]:List UB).map (·.1)).map encU⟩))=H:=by
    funext x;unfold setH;split
    ·rename_i h;rw[h,hb]
    rfl
   exact ⟨v,.tup [],H,κ,rfl,⟨rfl,[],.refl _,List.Pairwise.nil,hH.symm⟩,q1,hv'.lift,q2⟩
 |own _ _ _ _ cap c K hκ hc hcap hm hn3=>
   subst hn;obtain ⟨K',hκ',hbr⟩:=hr.blk _ _ _ hb;rw[hκ] at hκ';cases hκ';obtain ⟨hn2,hcl,h3⟩:=hbr.rows hn3;have hn2:K.n=3:=hn2
   rcases h3 with ⟨h3,_⟩|⟨c',A,f,hc',hbk,hmA,hsA,hf,hpl,hvv,hso⟩
   ·rw[h3] at hc;cases hc
   rw[hc'] at hc;cases hc;have hl':=hl
   have hH:=JIJ (κ:=κ) (N:=Nset gh.O κ H) (f:=f) lB hbk (fun i hi j hj=>hf i (by simpa using hi) j hj) (fun i hi j hj=>by
    have hx:((lB.map (·.1)).map encU)[i]'(by simpa using hi)=encU (lB[i]).1:=by simp
    have:=hvv i (by simpa using hi) j (by simp only[hx];exact hj);simp only[hx] at this
    exact this)
   have hlt:=(QU.1 hbk).1;have eg:∀ args w,(callFunc 116 args).run Tryz.prog w=.ok (.enter 116 args) w:=enters_of Tryz.func116 (by kernel_rfl) rfl;have hcon:=AnyQ.slices_SortFunc JGO 3 Tryz.isAgg54 Tryz.sizeOf54 J1F (fun _=>rfl) (fun x v hv=>by simp[J1F] at hv;rcases hv with rfl|rfl|rfl<;>rfl) (fun x y:UB=>J2h x.1 y.1) swoU 116 #[] c 0 cap lB.toArray w eg (fun _ _ _ _ x y=>JFz x y _) hH hlt (by simp;omega)
   change Calls Tryz.prog 198 _ _ _ at hcon
   simp only[Q0Z];refine Calls.mono hcon ?_;rintro e w' ⟨rfl,d',n,os,hp,hs,rfl⟩;obtain ⟨ld⟩:=d';obtain ⟨p1,_,p3⟩:=hp;have p1:ld.length=lB.length:=by simpa using p1
   have p3:ld.Perm lB:=by
    have h3:(ld.toArray.extract 0 lB.length).toList.Perm (lB.toArray.extract 0 lB.length).toList:=p3;have e1:(ld.toArray.extract 0 lB.length).toList=ld:=by simp[← p1]
    have e2:(lB.toArray.extract 0 lB.length).toList=lB:=by simp
    rw[e1,e2] at h3;exact h3
   have hn3':K.n=3:=hn2;obtain ⟨q1,q2⟩:=JFY hr hb hκ hc' hn3' hmA 54 (by decide) hbk n ld os (by rw[p1];simpa using hsA);refine ⟨_,.tup [],_,κ,rfl,⟨rfl,ld,p3,?_,rfl⟩,q1,.tup [] #[] rfl (fun i h=>by simp at h),q2⟩;rw[List.pairwise_iff_getElem];intro i j hi hj hij;have:=hs i j (QG _) hij (by simpa [p1] using hj);rw[JL0] at this
   simpa [getElem!_pos,hi,hj] using this
end Go.Proofs.YtlblbldolhiokaaGreatDoor
namespace Go.Proofs.YtlblbldolhiokaaGreatDoor
open Go Go.Fw
theorem J8o:∀ {a b:List U},SrtU a→SrtU b→(∀ u,u∈a↔u∈b)→a=b
 |[],[],_,_,_=>rfl
 |[],y::b,_,_,h=>by have:=(h y).2 (by simp);cases this
 |x::a,[],_,_,h=>by have:=(h x).1 (by simp);cases this
 |x :: a,y::b,ha,hb,h=>by
   obtain ⟨a1,a2⟩:=Q1x.1 ha;obtain ⟨b1,b2⟩:=Q1x.1 hb
   have hxy:x=y:=by
    rcases QO.1 ((h x).1 (by simp)) with e|e
    ·exact e
    rcases QO.1 ((h y).2 (by simp)) with e'|e'
    ·exact e'.symm
    have:=J5G _ _ _ (a1 y e') (b1 x e);rw[J9X] at this;cases this
   subst hxy;rw[J8o a2 b2 fun u=>?_];constructor
   ·intro hu
    rcases QO.1 ((h u).1 (by simp[hu])) with rfl|e
    ·have:=a1 u hu;rw[J9X] at this;cases this
    exact e
   intro hu
   rcases QO.1 ((h u).2 (by simp[hu])) with rfl|e
   ·have:=b1 u hu;rw[J9X] at this;cases this
   exact e
def JFu {A:List U}(h:A.Nodup)(u:U):(putU A u).Nodup:=by
 unfold putU;split
 ·exact h
 rename_i hu;rw[List.nodup_append];exact ⟨h,by simp,fun a ha b hb=>by rintro rfl;simp at hb;subst hb;exact hu ha⟩
mutual
theorem J7F:∀ (e:Ex) (A:List U),A.Nodup→(J33 e A).Nodup
 |.mk o t n ks,A,h=>by
   unfold J33;refine J7E ks _ ?_;split
   ·exact JFu h _
   exact h
theorem J7E:∀ (ks:List Ex) (A:List U),A.Nodup→(J4O ks A).Nodup
 |[],A,h=>by unfold J4O;exact h
 |k::ks,A,h=>by unfold J4O;exact J7E ks _ (J7F k A h)
end
theorem JI4:∀ acc:List U,(∀ u∈acc,0≤u.order∧u.order≤6)→∃ lB:List UB,lB.map (·.1)=acc
 |[],_=>⟨[],rfl⟩
 |u::r,h=>by
   obtain ⟨l,hl⟩:=JI4 r fun v hv=>h v (by simp[hv]);exact ⟨⟨u,h u (by simp)⟩::l,show u::l.map (·.1)=_ by rw[hl]⟩
def JG4 {P:Program}{f:Nat}{args:List AV}{H:Hp}{Q Q':AV→Hp→Prop}(h:HCall P f args H Q)(hq:∀ r H',Q r H'→Q' r H'):HCall P f args H Q':=
 fun gh κ w vs hr hv=>(h gh κ w vs hr hv).mono fun e w' ⟨v,r,H',κ',he,hQ,h1,h2,h3⟩=>⟨v,r,H',κ',he,hq _ _ hQ,h1,h2,h3⟩
def JOb {l:List UB}{A:List U}(hA:A.Nodup)(hp:(l.map (·.1)).Perm A)(hs:l.Pairwise fun a c=>beforeF c.1 a.1=false):SrtU (l.map (·.1)):=by
 have hn:(l.map (·.1)).Nodup:=hp.nodup_iff.2 hA;unfold SrtU;rw[List.pairwise_map];have hn':l.Pairwise fun a c=>a.1≠c.1:=List.pairwise_map.1 hn;refine (hs.and hn').imp ?_;rintro a c ⟨h1,h2⟩;exact JJP _ _ h1 (fun e=>h2 e.symm)
def JHq {A acc:List U}{L:List Nat}{j:Nat}{u d:U}(hn:L.Nodup)(hj:j∈L)(hu:A.getD j d=u)(h:(acc++L.map fun j=>A.getD j d).Perm A):((acc++[u])++(L.filter (· ≠ j)).map fun j=>A.getD j d).Perm A:=by
 refine List.Perm.trans ?_ h;rw[Qo];refine List.Perm.append_left _ ?_;have e:L.filter (· ≠ j)=L.erase j:=by rw[hn.erase_eq_filter];congr 1;funext x;by_cases hx:x=j<;>simp[hx]
 rw[e,Q3S,← hu];exact ((List.perm_cons_erase hj).map fun j=>A.getD j d).symm
def JJg (A S:List U)(hn:A.Nodup)(ho:∀ u∈A,0≤u.order∧u.order≤6)(hl:A.length<2^39)(hS:SrtU S)(hm:∀ u,u∈S↔u∈A):PX 122 [setU A] (J3J S):=by
 refine PC [14] Tryz.func122 rfl (by rfl) rfl ?_;obtain ⟨B,hB⟩:∃ B,B=A:=⟨_,rfl⟩;unfold setU;(refine kWQ ?_;repeat intro γ)
 refine LoopP.intro (fun k σ H=>∃ gi gl,∃ L:List Nat,∃ acc:List U,∃ cur,k=L.length∧(∀ j∈L,j<A.length)∧L.Nodup∧(acc++L.map fun j=>A.getD j ⟨⟨#[]⟩,0,false⟩).Perm A ∧
  σ=fr [(3,.own 14 gl 0 acc.length),(6,.it 6 gi)] ∧
  H=hp [(6,gi,⟨0,0,[setU A,.tup (L.map Fw.encN),cur]⟩),(14,gl,⟨54,3,acc.map encU⟩)]) ?_ ?_
 ·refine .intro (J24 3 14 54 3 rfl rfl fun gl=>W.of ⟨_,_,gl,List.range A.length,[],.dead,rfl,fun j hj=>by simpa using hj,List.nodup_range,?_,rfl,rfl⟩ ⟨rfl,rfl,trivial⟩ ⟨rfl,rfl,trivial⟩)
  rw[Q07,show (List.range A.length).map (fun j=>A.getD j ⟨⟨#[]⟩,0,false⟩)=A by
   refine Q1X (by simp) fun i h1 h2=>?_
   simp[Q4,h2]]
 rintro k σ H ⟨gi,gl,L,acc,cur,rfl,hL,hLn,hp,rfl,rfl⟩;unfold setU;have hal:acc.length≤A.length:=by have:=hp.length_eq;simp at this;omega
 have hml:=@Q3 _ _ acc encU;(refine kWQ ?_;repeat intro γ);refine NextM.intro L (fun hL0=>?_) (fun j hj=>?_)
 ·subst hL0;have hp:acc.Perm A:=by simpa using hp
  obtain ⟨lB,hlB⟩:∃ lB:List UB,lB.map (·.1)=acc:=JI4 acc fun u hu=>ho u (hp.mem_iff.1 hu);subst hlB;(refine kWQ ?_;repeat intro γ);refine CallP.own c198 (JG4 (JLu (b:=14) (g:=gl) lB rfl (by simp at hal;omega)) ?_);rintro r H' ⟨rfl,l',hp',hs',rfl⟩;have hpA:(l'.map (·.1)).Perm A:=(hp'.map _).trans hp;have hfin:l'.map (·.1)=S:=J8o (JOb hn hpA hs') hS fun u=>(hpA.mem_iff).trans (hm u).symm;have hll:lB.length=(l'.map (·.1)).length:=by rw[Q3];exact hp'.length_eq.symm
  (refine kWQ ?_;repeat intro γ);refine .of ?_;rw[← hfin];exact endU rfl hll
 have hjA:=hL j hj;obtain ⟨u,huu⟩:∃ u,A.getD j ⟨⟨#[]⟩,0,false⟩=u:=⟨_,rfl⟩
 have hgd:(A.map encU).getD (j:Int).toNat .dead=encU u:=by
  rw[QV,Q4,Ql,Q8 hjA,← huu,Q4,Q8 hjA];rfl
 have hlt:(L.filter (· ≠ j)).length<L.length:=JBj L j hj;have hL':∀ k∈L.filter (· ≠ j),k<A.length:=fun k hk=>hL k (Q1Q.1 hk).1;have hfl:(L.map Fw.encN).filter (fun x=>match x with|.val (.int _ i)=>!decide (i=(j:Int))|_=>true)=(L.filter (· ≠ j)).map Fw.encN:=JDN L j;have hp':=JHq hLn hj huu hp;have hal':acc.length+1≤A.length:=by have:=hp'.length_eq;simp at this;omega
 have hAj:A[j]=u:=by rw[← huu,Q4,Q8 hjA];rfl
 (refine kWQ ?_;repeat intro γ)
 try simp only[hAj]
 refine .intro <| W.of ⟨_,hlt,gi,γ,L.filter (· ≠ j),acc++[u],Fw.encN j,rfl,hL',hLn.filter _,hp',rfl,rfl⟩ ⟨?_,rfl,trivial⟩ ⟨QC (fun z=>some (gi,(⟨0,0,[setU A,.tup z,Fw.encN j]⟩:Blk))) hfl,?_,trivial⟩
 ·exact QC (AV.own 14 _ 0) (by simp)
 rw[QW];rfl
def capE (g3 g5 g8 g9:Nat):List AV:=[.op 3 g3 0 0,.op 5 g5 0 0,.op 8 g8 0 0,.op 9 g9 0 0]
def J1q {S:List Nat}{H:Hp}{n b g k e m:Nat}{y:AV}(hS:b∈S)(hb:H b=some (g,⟨e,m,[y]⟩)):J08 S H (n+1) (.op b g 0 k)=.ep (J0U (J08 S H n) y) k:=by
 simp only[J08,if_pos hS,hb,true_and];rfl
def J9t {S:List Nat}{H:Hp}(n:Nat)(ks vs:List AV):J0U (J08 S H n) (.mp ks vs)=.mp ks vs:=by cases n<;>rfl
def JHN {S:List Nat}{H:Hp}(n:Nat)(x:AV)(k:Nat):J0U (J08 S H n) (.ep x k)=.ep x k:=by cases n<;>rfl
theorem JBn {ks:List (ByteArray×Va)}{ev:Ev}{H:Hp}{g3 g5 g8 g9 a3 a5 a8 a9:Nat}(h3:H 3=some (g3,⟨a3,1,[encK ks]⟩))(h5:H 5=some (g5,⟨a5,1,[J1L ev]⟩))
  (h8:H 8=some (g8,⟨a8,1,[.fn (.func 188) [] (capE g3 g5 g8 g9)]⟩))(h9:H 9=some (g9,⟨a9,1,[wayM]⟩)) :
  ∀ n,J08 [3,5,8,9] H (2*n) (.fn (.func 188) [] (capE g3 g5 g8 g9))=evFn ks ev n
 |0=>rfl
 |n+1=>by
   rw[show 2*(n+1)=2*n+1+1 by omega];show AV.fn _ [] [J08 _ _ (2*n+1) (.op 3 g3 0 0),J08 _ _ (2*n+1) (.op 5 g5 0 0),J08 _ _ (2*n+1) (.op 8 g8 0 0),J08 _ _ (2*n+1) (.op 9 g9 0 0)]=_
   rw[J1q (by simp) h3,J1q (by simp) h5,J1q (by simp) h8,J1q (by simp) h9];have:=JBn h3 h5 h8 h9 n;unfold encK wayM J1L at *;rw[J9t,JHN,J9t];rw[show J0U (J08 [3,5,8,9] H (2*n)) (.fn (.func 188) [] (capE g3 g5 g8 g9))=evFn ks ev n from this];rfl
def JP3 {ks:List (ByteArray×Va)}{ev:Ev}{H:Hp}{g3 g5 g8 g9 a3 a5 a8 a9:Nat}(h3:H 3=some (g3,⟨a3,1,[encK ks]⟩))(h5:H 5=some (g5,⟨a5,1,[J1L ev]⟩))
  (h8:H 8=some (g8,⟨a8,1,[.fn (.func 188) [] (capE g3 g5 g8 g9)]⟩))(h9:H 9=some (g9,⟨a9,1,[wayM]⟩))(n:Nat)(o t:ByteArray)(d:Int)(l:List AV) :
  (.agg [encS o,encS t,encI d,.sl 4 l]::capE g3 g5 g8 g9).map (J4c (2*n+1) [3,5,8,9] H)=[.agg [encS o,encS t,encI d,.sl 4 l],.ep (encK ks) 0,.ep (J1L ev) 0,.ep (evFn ks ev n) 0,.ep wayM 0]:=by
 have:=JBn h3 h5 h8 h9 n
 have d3:J4c (2*n+1) [3,5,8,9] H (.op 3 g3 0 0)=.ep (encK ks) 0:=by
  rw[show J4c (2*n+1) [3,5,8,9] H (.op 3 g3 0 0)=J08 [3,5,8,9] H (2*n+1) (.op 3 g3 0 0) from rfl,J1q (by simp) h3];unfold encK;rw[J9t]
 have d5:J4c (2*n+1) [3,5,8,9] H (.op 5 g5 0 0)=.ep (J1L ev) 0:=by
  rw[show J4c (2*n+1) [3,5,8,9] H (.op 5 g5 0 0)=J08 [3,5,8,9] H (2*n+1) (.op 5 g5 0 0) from rfl,J1q (by simp) h5];unfold J1L;rw[JHN]
 have d8:J4c (2*n+1) [3,5,8,9] H (.op 8 g8 0 0)=.ep (evFn ks ev n) 0:=by
  rw[show J4c (2*n+1) [3,5,8,9] H (.op 8 g8 0 0)=J08 [3,5,8,9] H (2*n+1) (.op 8 g8 0 0) from rfl,J1q (by simp) h8];exact QC (fun z=>AV.ep z 0) this
 have d9:J4c (2*n+1) [3,5,8,9] H (.op 9 g9 0 0)=.ep wayM 0:=by
  rw[show J4c (2*n+1) [3,5,8,9] H (.op 9 g9 0 0)=J08 [3,5,8,9] H (2*n+1) (.op 9 g9 0 0) from rfl,J1q (by simp) h9];unfold wayM;rw[J9t]
 unfold capE;simp only[QK,Q0H,d3,d5,d8,d9];rfl
def JJy (ks:List (ByteArray×Va))(ev:Ev)(he:EvOk ev)(e:Ex)(hz:SzE e)(hx:TxE e)(hb:builtF e=true)(ht:(typeF ks e).2=true)(hw:wtF e≤1000) :
  PX 100 [encK ks,encE e,J1L ev] (J1z (evalF ks ev e)):=by
 refine PZ Tryz.func100 rfl ?_;have hc:=JM1 ks ev he e hz hx hb ht hw (SizeOf.sizeOf e) (QM _);generalize evalF ks ev e=F at *;generalize SizeOf.sizeOf e=n at *;rw[J02] at hc ⊢;refine kWS ?_;intros;refine J00 [] _ c187 JMk ?_;refine kWS ?_;intros;refine JDn (2*n+1) [3,5,8,9] _ c188 (J0G (JP3 rfl rfl rfl rfl n _ _ _ _) hc) ?_
 rcases F with c|q|b
 all_goals
  refine kWS ?_;intros;exact .of rfl
structure Bd where
 use:U
 value:ByteArray
structure EnvA where
 time:ByteArray
 init:Bool
 binds:List Bd
def J1b (b:Bd):AV:=.agg [.val (.string b.use.name),.val (.int .i64 b.use.order),.val (.bool b.use.pre),encS b.value]
def J0L (e:EnvA):AV:=.agg [encS e.time,encB e.init,.sl 4 (e.binds.map J1b)]
def valV (s:ByteArray):Option Vl:=if s=sTrue∨s=sFalse then some (.tr (decide (s=sTrue))) else if (J06 s.data.toList).2 then some (.num (numV s)) else none
def JHg {s:ByteArray}{v:Vl}(h:valV s=some v):resV s=.tup [J07 v,encB true]:=by
 unfold valV at h;unfold resV;split at h
 ·rename_i h1;cases h;rw[if_pos h1];rfl
 rename_i h1;rw[if_neg h1];split at h
 ·rename_i h2;cases h;rw[h2,← (J4A h2).1];rfl
 cases h
def JHh {s:ByteArray}(h:valV s=none):∃ q,(q=nilQ∨∃ n d,q=encQ n d)∧resV s=.tup [J16 q false false,encB false]:=by
 unfold valV at h;unfold resV;split at h
 ·cases h
 rename_i h1;rw[if_neg h1];split at h
 ·cases h
 rename_i h2;exact ⟨_,J2L _,by rw[Q23.2 h2]⟩
def JMq {s:ByteArray}{v:Vl}(h:valV s=some v):v.sz≤300:=by
 unfold valV at h;split at h
 ·cases h;exact QG _
 split at h
 ·rename_i h2;cases h;exact (J4A h2).2
 cases h
def putV {β:Type}(l:List (U×β))(k:U)(v:β):List (U×β):=match l with
 |[]=>[(k,v)]
 |x::r=>if k=x.1 then (x.1,v)::r else x::putV r k v
theorem J78 {β:Type}(f:β→AV)(k:U)(v:β):∀ l:List (U×β),∃ r,J1E (J13 T 54 (encU k)) (l.map fun x=>encU x.1)=some r∧(match r with
  |some i=>(l.map fun x=>encU x.1)=((putV l k v).map fun x=>encU x.1)∧(l.map fun x=>f x.2).set i (f v)=(putV l k v).map fun x=>f x.2
  |none=>(l.map fun x=>encU x.1)++[encU k]=((putV l k v).map fun x=>encU x.1)∧(l.map fun x=>f x.2)++[f v]=(putV l k v).map fun x=>f x.2)
 |[]=>⟨none,rfl,rfl,rfl⟩
 |x :: l=>by
   obtain ⟨r,h1,h2⟩:=J78 f k v l;rw[QK,QK];unfold J1E putV;rw[J7X]
   by_cases h:k=x.1
   ·rw[Q2 h,if_pos h];exact ⟨some 0,rfl,rfl,rfl⟩
   rw[Q1 h,if_neg h,h1];refine ⟨r.map (· + 1),rfl,?_⟩
   revert h2
   cases r with
   |none=>
     rintro ⟨h2,h3⟩;exact ⟨by rw[QK,← h2];rfl,by rw[QK,← h3];rfl⟩
   |some i=>
     rintro ⟨h2,h3⟩;exact ⟨by rw[QK,← h2],by rw[QK,← h3];rfl⟩
def J2E:Option U→U→Bool
 |none,_=>false
 |some q,u=>decide (0≤J2h q u)
def openL:Option U→List Bd→List (U×Vl)→Option (List (U×Vl))
 |_,[],l=>some l
 |p,b::r,l=>match valV b.value with
   |none=>none
   |some v=>if !fitF b.use||J2E p b.use then none else openL (some b.use) r (putV l b.use v)
def openF (e:EnvA):Option Ev:=if (J06 e.time.data.toList).2 then (openL none e.binds []).map fun l=>⟨numV e.time,e.init,l⟩ else none
def J8W (bs:List Bd)(i:Nat):Option U:=match i with
 |0=>none
 |i+1=>bs[i]?.map Bd.use
def JNn:Option Ev→AV
 |some ev=>.tup [J1L ev,encB true]
 |none=>.tup [.val (.pointer none),encB false]
def hpO1 (g1 g2 gm:Nat)(e:EnvA)(t:Rat)(l:List (U×Vl)):List (Nat×Nat×Blk):=
 [(1,g1,⟨33,3,[J0L e]⟩),(15,g2,⟨269,6,[.agg [encB (decide (t.num<0)),encW t.num.natAbs,encB (decide ((t.den:Int)<0)),encW (t.den:Int).natAbs,encB e.init,.om 13 gm]]⟩),(13,gm,⟨267,0,[.mp (l.map fun x=>encU x.1) (l.map fun x=>J07 x.2)]⟩)]
def J7e {u:U}(h:fitF u=true):0≤u.order∧u.order≤6:=by
 unfold fitF at h;simp only[Q5,Qa] at h;exact h.1.2
def JKg {S:List Nat}{H:Hp}{n b g e m:Nat}{ks vs:List AV}(hS:b∈S)(hb:H b=some (g,⟨e,m,[.mp ks vs]⟩)):J08 S H (n+1) (.om b g)=.mp ks vs:=by
 simp only[J08,if_pos hS,hb,if_true]
structure SzB (e:EnvA):Prop where
 t:e.time.size<2^35
 l:e.binds.length≤2^30
 b:∀ b∈e.binds,b.use.name.size<2^35∧b.value.size<2^35
def JOH (e:EnvA)(hz:SzB e):PX 141 [J0L e] (JNn (openF e)):=by
 refine PC [15,13] Tryz.func141 rfl (by rfl) rfl ?_;obtain ⟨tm,ini,bs⟩:=e;obtain ⟨hzt,hzl,hzb⟩:=hz;simp only at hzt hzl hzb;generalize hF:openF ⟨tm,ini,bs⟩=F;unfold openF at hF;have hpq:=J3P tm.data.toList hzt;rw[J12,JEG] at hpq;simp only at hF
 cases hok:(J06 tm.data.toList).2 with
 |false=>
   rw[hok] at hF hpq;have hq2:=J2L (J06 tm.data.toList).1;generalize qAV (J06 tm.data.toList).1=q at *;unfold J0L
   rcases hq2 with rfl|⟨n,d,rfl⟩
   all_goals
    refine kWS ?_;intros;refine J00 [] _ c134 hpq ?_;refine kWS ?_;intros;exact .of (by rw[← hF];rfl)
 |true=>
   rw[← (J4A hok).1,hok] at hpq;rw[hok] at hF;generalize numV tm=t at *;replace hF:(openL none bs []).map (fun l=>(⟨t,ini,l⟩:Ev))=F:=hF;unfold encF encQ at hpq;unfold J0L;refine kWS ?_;intros;refine J00 [] _ c134 hpq ?_;refine kWS ?_;intros
   refine LoopP.intro (fun j σ H=>∃ g1 g2 gm i,∃ l:List (U×Vl),j=bs.length-i∧i≤bs.length∧(∀ k (h:k<bs.length),k<i→fitF bs[k].use=true)∧(openL (J8W bs i) (bs.drop i) l).map (fun l=>(⟨t,ini,l⟩:Ev))=F ∧
    σ=fr [(1,.op 1 g1 0 0),(4,.op 15 g2 0 0),(29,.sl 4 (bs.map J1b)),(30,encI bs.length),(31,encI i)]∧H=hp (hpO1 g1 g2 gm ⟨tm,ini,bs⟩ t l)) ?_ ?_
   ·exact .intro <| W.of ⟨_,_,_,_,0,[],rfl,QG _,fun k _ h=>absurd h (by omega),hF,rfl,rfl⟩ ⟨rfl,rfl,rfl,(by rw[Q3];rfl),rfl,trivial⟩ ⟨rfl,rfl,rfl,trivial⟩
   clear hF;rintro j σ H ⟨g1,g2,gm,i,l,rfl,hi,hfit,hF,rfl,rfl⟩;unfold hpO1;simp only
   rcases QI i bs.length with h9|h9
   ·rw[List.drop_eq_getElem_cons h9] at hF;have hb:=hzb _ (QF h9)
    have hprev:J8W bs (i+1)=some bs[i].use:=by
     show bs[i]?.map Bd.use=some _
     rw[Q8 h9];rfl
    have hfx:∀ k (h:k<bs.length),k<i+1→fitF bs[i].use=true→fitF bs[k].use=true:=by
     intro k h hk hc
     rcases QI k i with h|h
     ·exact hfit k _ h
     obtain rfl:k=i:=by omega
     exact hc
    obtain ⟨b,hbb⟩:∃ b,bs[i]=b:=⟨_,rfl⟩;rw[hbb] at hF hb hprev hfx;have hV:=JCc b.value hb.2;have hFit:=JPL b.use hb.1;unfold openL at hF
    cases hv:valV b.value with
    |none=>
      rw[hv] at hF;obtain ⟨q,hq,he⟩:=JHh hv;rw[he] at hV
      rcases hq with rfl|⟨n,d,rfl⟩
      all_goals
       refine kWQ ?_;intros;simp only[hbb];refine kQ ?_;intros;refine J00 [] _ c112 hV ?_;refine kWQ ?_;intros;exact .of (by rw[← hF];rfl)
    |some v=>
      rw[hv] at hF;rw[JHg hv] at hV;replace hF:(if !fitF b.use||J2E (J8W bs i) b.use then none else openL (some b.use) (bs.drop (i+1)) (putV l b.use v)).map (fun l=>(⟨t,ini,l⟩:Ev))=F:=hF;have hb64:bs.length<2^62:=by omega
      rcases i with _|i
      ·rcases v with q | x
       ·unfold J07 J16 encF encQ at hV;refine kWQ ?_;intros;simp only[hbb];refine kQ ?_;intros;refine J00 [] _ c112 hV ?_;refine kWQ ?_;intros;refine CallG.intro _ c81 hFit ?_
        cases hf:fitF b.use with
        |false=>
          rw[hf] at hF;refine kWQ ?_;intros;exact .of (by rw[← hF];rfl)
        |true=>
          rw[hf] at hF;replace hF:(openL (some b.use) (bs.drop (0+1)) (putV l b.use (.num q))).map (fun l=>(⟨t,ini,l⟩:Ev))=F:=hF;refine kWO ?_;intros;refine J1B [(7,false),(8,true)] (by kernel_rfl) ?_;refine kWQ ?_;intros;refine Need.intro keyst54 ?_;refine kWQ ?_;intros;obtain ⟨r,hr,hm⟩:=J78 J07 b.use (.num q) l;refine LookP.intro r hr ?_
          cases r with
          |some j=>
            refine kWQ ?_;intros
            refine .intro <| W.of ⟨_,by omega,g1,g2,gm,0+1,putV l b.use (.num q),rfl,h9,fun k h hk=>hfx k h hk hf,(by rw[hprev];exact hF),rfl,rfl⟩ ⟨rfl,rfl,rfl,rfl,rfl,trivial⟩ ⟨rfl,rfl,?_,trivial⟩
            exact QC (fun z=>some (gm,(⟨267,0,[z]⟩:Blk))) (congr (QC AV.mp hm.1) hm.2)
          |none=>
            refine kWQ ?_;intros
            refine .intro <| W.of ⟨_,by omega,g1,g2,gm,0+1,putV l b.use (.num q),rfl,h9,fun k h hk=>hfx k h hk hf,(by rw[hprev];exact hF),rfl,rfl⟩ ⟨rfl,rfl,rfl,rfl,rfl,trivial⟩ ⟨rfl,rfl,?_,trivial⟩
            exact QC (fun z=>some (gm,(⟨267,0,[z]⟩:Blk))) (congr (QC AV.mp hm.1) hm.2)
       unfold J07 J16 at hV;refine kWQ ?_;intros;simp only[hbb];refine kQ ?_;intros;refine J00 [] _ c112 hV ?_;refine kWQ ?_;intros;refine CallG.intro _ c81 hFit ?_
       cases hf:fitF b.use with
       |false=>
         rw[hf] at hF;refine kWQ ?_;intros;exact .of (by rw[← hF];rfl)
       |true=>
         rw[hf] at hF;replace hF:(openL (some b.use) (bs.drop (0+1)) (putV l b.use (.tr x))).map (fun l=>(⟨t,ini,l⟩:Ev))=F:=hF;refine kWO ?_;intros;refine J1B [(7,false),(8,true)] (by kernel_rfl) ?_;refine kWQ ?_;intros;refine Need.intro keyst54 ?_;refine kWQ ?_;intros;obtain ⟨r,hr,hm⟩:=J78 J07 b.use (.tr x) l;refine LookP.intro r hr ?_
         cases r with
         |some j=>
           refine kWQ ?_;intros
           refine .intro <| W.of ⟨_,by omega,g1,g2,gm,0+1,putV l b.use (.tr x),rfl,h9,fun k h hk=>hfx k h hk hf,(by rw[hprev];exact hF),rfl,rfl⟩ ⟨rfl,rfl,rfl,rfl,rfl,trivial⟩ ⟨rfl,rfl,?_,trivial⟩
           exact QC (fun z=>some (gm,(⟨267,0,[z]⟩:Blk))) (congr (QC AV.mp hm.1) hm.2)
         |none=>
           refine kWQ ?_;intros
           refine .intro <| W.of ⟨_,by omega,g1,g2,gm,0+1,putV l b.use (.tr x),rfl,h9,fun k h hk=>hfx k h hk hf,(by rw[hprev];exact hF),rfl,rfl⟩ ⟨rfl,rfl,rfl,rfl,rfl,trivial⟩ ⟨rfl,rfl,?_,trivial⟩
           exact QC (fun z=>some (gm,(⟨267,0,[z]⟩:Blk))) (congr (QC AV.mp hm.1) hm.2)
      have h8 : i<bs.length:=by omega
      have hpv:J8W bs (i+1)=some bs[i].use:=by
       show bs[i]?.map Bd.use=some _
       rw[Q8 h8];rfl
      have hfp:=J7e (hfit i h8 (by omega));rw[hpv] at hF;have hix:(((i+1:Nat):Int)-1).toNat=i:=by omega
      obtain ⟨pb,hpb⟩:∃ pb,bs[i]=pb:=⟨_,rfl⟩;rw[hpb] at hF hpv hfp;have hL:=JON pb.use b.use hfp
      rcases v with q|x
      ·unfold J07 J16 encF encQ at hV;refine kWQ ?_;intros;simp only[hbb];refine kQ ?_;intros;refine J00 [] _ c112 hV ?_;refine kWQ ?_;intros;refine CallG.intro _ c81 hFit ?_
       cases hf:fitF b.use with
       |false=>
         rw[hf] at hF;refine kWQ ?_;intros;exact .of (by rw[← hF];rfl)
       |true=>
         rw[hf] at hF;have hL:=hL (J7e hf);refine kWQ ?_;intros;simp only[hix,hpb];refine CallG.intro _ c116 hL ?_
         cases hge:J2E (some pb.use) b.use with
         |true=>
           rw[hge] at hF;have hle:0≤J2h pb.use b.use:=Qh hge;refine kWQ ?_;intros;exact .of (by rw[← hF];rfl)
         |false=>
           rw[hge] at hF;have hle:¬ 0≤J2h pb.use b.use:=Q0d hge;replace hF:(openL (some b.use) (bs.drop (i+1+1)) (putV l b.use (.num q))).map (fun l=>(⟨t,ini,l⟩:Ev))=F:=hF;refine kWO ?_;intros;refine J1B [(7,false),(8,true)] (by kernel_rfl) ?_;refine kWQ ?_;intros;refine Need.intro keyst54 ?_;refine kWQ ?_;intros;obtain ⟨r,hr,hm⟩:=J78 J07 b.use (.num q) l;refine LookP.intro r hr ?_
           cases r with
           |some j=>
             refine kWQ ?_;intros
             refine .intro <| W.of ⟨_,by omega,g1,g2,gm,i+1+1,putV l b.use (.num q),rfl,h9,fun k h hk=>hfx k h hk hf,(by rw[hprev];exact hF),rfl,rfl⟩ ⟨rfl,rfl,rfl,rfl,rfl,trivial⟩ ⟨rfl,rfl,?_,trivial⟩
             exact QC (fun z=>some (gm,(⟨267,0,[z]⟩:Blk))) (congr (QC AV.mp hm.1) hm.2)
           |none=>
             refine kWQ ?_;intros
             refine .intro <| W.of ⟨_,by omega,g1,g2,gm,i+1+1,putV l b.use (.num q),rfl,h9,fun k h hk=>hfx k h hk hf,(by rw[hprev];exact hF),rfl,rfl⟩ ⟨rfl,rfl,rfl,rfl,rfl,trivial⟩ ⟨rfl,rfl,?_,trivial⟩
             exact QC (fun z=>some (gm,(⟨267,0,[z]⟩:Blk))) (congr (QC AV.mp hm.1) hm.2)
      unfold J07 J16 at hV;refine kWQ ?_;intros;simp only[hbb];refine kQ ?_;intros;refine J00 [] _ c112 hV ?_;refine kWQ ?_;intros;refine CallG.intro _ c81 hFit ?_
      cases hf:fitF b.use with
      |false=>
        rw[hf] at hF;refine kWQ ?_;intros;exact .of (by rw[← hF];rfl)
      |true=>
        rw[hf] at hF;have hL:=hL (J7e hf);refine kWQ ?_;intros;simp only[hix,hpb];refine CallG.intro _ c116 hL ?_
        cases hge:J2E (some pb.use) b.use with
        |true=>
          rw[hge] at hF;have hle:0≤J2h pb.use b.use:=Qh hge;refine kWQ ?_;intros;exact .of (by rw[← hF];rfl)
        |false=>
          rw[hge] at hF;have hle:¬ 0≤J2h pb.use b.use:=Q0d hge;replace hF:(openL (some b.use) (bs.drop (i+1+1)) (putV l b.use (.tr x))).map (fun l=>(⟨t,ini,l⟩:Ev))=F:=hF;refine kWO ?_;intros;refine J1B [(7,false),(8,true)] (by kernel_rfl) ?_;refine kWQ ?_;intros;refine Need.intro keyst54 ?_;refine kWQ ?_;intros;obtain ⟨r,hr,hm⟩:=J78 J07 b.use (.tr x) l;refine LookP.intro r hr ?_
          cases r with
          |some j=>
            refine kWQ ?_;intros
            refine .intro <| W.of ⟨_,by omega,g1,g2,gm,i+1+1,putV l b.use (.tr x),rfl,h9,fun k h hk=>hfx k h hk hf,(by rw[hprev];exact hF),rfl,rfl⟩ ⟨rfl,rfl,rfl,rfl,rfl,trivial⟩ ⟨rfl,rfl,?_,trivial⟩
            exact QC (fun z=>some (gm,(⟨267,0,[z]⟩:Blk))) (congr (QC AV.mp hm.1) hm.2)
          |none=>
            refine kWQ ?_;intros
            refine .intro <| W.of ⟨_,by omega,g1,g2,gm,i+1+1,putV l b.use (.tr x),rfl,h9,fun k h hk=>hfx k h hk hf,(by rw[hprev];exact hF),rfl,rfl⟩ ⟨rfl,rfl,rfl,rfl,rfl,trivial⟩ ⟨rfl,rfl,?_,trivial⟩
            exact QC (fun z=>some (gm,(⟨267,0,[z]⟩:Blk))) (congr (QC AV.mp hm.1) hm.2)
   obtain rfl:i=bs.length:=by omega
   rw[Q36] at hF;replace hF:some (⟨t,ini,l⟩:Ev)=F:=by rw[← hF];unfold openL;rfl
   refine kWQ ?_;intros;refine .of ?_;rw[← hF];refine (QC (fun z=>AV.tup [z,encB true]) ((J1q (by simp) rfl).trans ?_));show AV.ep (.agg [_,_,_,_,_,J08 [15,13] _ 2 (.om 13 gm)]) 0=_
   rw[JKg (by simp) rfl];rfl
theorem JEI {u:U}{v:Vl}:∀ {l:List (U×Vl)} {x:U×Vl},x∈putV l u v→x.2=v∨x∈l
 |[],x,h=>by simp only[putV,QO,QZ,or_false] at h;subst h;exact .inl rfl
 |y :: l,x,h=>by
   unfold putV at h;split at h
   ·rcases QO.1 h with rfl | h
    ·exact .inl rfl
    exact .inr (Q02 _ h)
   rcases QO.1 h with rfl|h
   ·exact .inr Q0r
   rcases JEI h with h|h
   ·exact .inl h
   exact .inr (Q02 _ h)
theorem JER:∀ {bs:List Bd} {p:Option U} {l r:List (U×Vl)},openL p bs l=some r→(∀ x∈l,x.2.sz≤300)→∀ x∈r,x.2.sz≤300
 |[],p,l,r,h,hl=>by unfold openL at h;cases h;exact hl
 |b :: bs,p,l,r,h,hl=>by
   unfold openL at h;split at h
   ·cases h
   rename_i v hv;split at h
   ·cases h
   refine JER h fun x hx=>?_
   rcases JEI hx with e|hx
   ·rw[e];exact JMq hv
   exact hl x hx
def JKu {e:EnvA}{ev:Ev}(h:openF e=some ev):EvOk ev:=by
 unfold openF at h;split at h
 ·rename_i h1
  cases ho:openL none e.binds [] with
  |none=>rw[ho] at h;cases h
  |some l=>
    rw[ho] at h;cases h;exact ⟨(J4A h1).2,JER ho fun x hx=>by cases hx⟩
 cases h
def openS (e:EnvA):Except Int Ev:=if 1000<e.binds.length then .error 2 else match openF e with
 |none=>.error 1
 |some ev=>.ok ev
def JPg:Except Int Ev→AV
 |.ok ev=>.tup [J1L ev,encI 0]
 |.error c=>.tup [.val (.pointer none),encI c]
def JF8 (e:EnvA)(hz:SzB e):PX 67 [J0L e] (JPg (openS e)):=by
 refine PZ Tryz.func67 rfl ?_;have ho:=JOH e hz;have hl:=hz.l;generalize hF:openS e=F;unfold openS at hF;generalize openF e=oe at *;unfold J0L at *;have hml:=@Q3 _ _ e.binds J1b;refine kWQ ?_;intros;refine CondP.dec (fun h1=>?_) (fun h1=>?_)<;>refine kW ?_
 ·rw[if_pos (by first|omega|(rw[Q3] at h1;omega))] at hF;refine kQ ?_;intros;exact .of (by rw[← hF];rfl)
 rw[if_neg (by first|omega|(rw[Q3] at h1;omega))] at hF;refine kQ ?_;intros;refine J00 [] _ c141 ho ?_
 cases oe with
 |none=>
   refine kWQ ?_;intros;exact .of (by rw[← hF];rfl)
 |some ev=>
   refine kWQ ?_;intros;exact .of (by rw[← hF];rfl)
def typeS (s:Sys)(x:Ex):Int×Int:=if checkF s≠0 then (0,checkF s) else if tooF x then (0,2) else if !builtF x then (0,1) else if (typeF (knownF s.vars) x).2 then ((typeF (knownF s.vars) x).1,0) else (0,1)
def JLs (s:Sys)(x:Ex)(hs:SzS s)(hz:SzE x)(hx:TxE x):PX 48 [J0E s,encE x] (.tup [encI (typeS s x).1,encI (typeS s x).2]):=by
 refine PZ Tryz.func48 rfl ?_;have hc:=J5R s hs;have ht:=J8J x hz;have hb:=JFD x hz hx;have hk:=J6Y s hs.v;have hT:=JJY (knownF s.vars) x hz;generalize hF:typeS s x=F;unfold typeS at hF;generalize checkF s=ck at *;generalize tooF x=tl at *;generalize typeF (knownF s.vars) x=ty at *;generalize knownF s.vars=ks at *;obtain ⟨vs,qs,ns,ws⟩:=s;rw[J02] at *;unfold J0E at *;simp only at *;refine kWQ ?_;intros;refine CallP.flat [] _ c89 hc rfl ?_
 by_cases h0:ck=0
 case' neg=>
  rw[if_pos h0] at hF;refine kWQ ?_;intros;exact .of (by rw[← hF];rfl)
 rw[if_neg (by simp[h0])] at hF;refine kWQ ?_;intros;refine CallP.flat [] _ c83 ht rfl ?_
 cases tl with
 |true=>
   refine kWQ ?_;intros;exact .of (by rw[← hF];rfl)
 |false=>
   refine kWQ ?_;intros;refine CallP.flat [] _ c123 hb rfl ?_
   cases hbb:builtF x with
   |false=>
     rw[hbb] at hF;refine kWQ ?_;intros;exact .of (by rw[← hF];rfl)
   |true=>
     rw[hbb] at hF;have hT:=hT hbb;obtain ⟨t,b⟩:=ty;refine kWQ ?_;intros;refine CallG.intro _ c99 hk ?_;refine kWQ ?_;intros;refine CallG.intro _ c124 hT ?_
     cases b with
     |false=>
       refine kWQ ?_;intros;exact .of (by rw[← hF];rfl)
     |true=>
       refine kWQ ?_;intros;exact .of (by rw[← hF];rfl)
def JDx {s:Sys}{x:Ex}(h:(typeS s x).2=0):checkF s=0∧tooF x=false∧builtF x=true∧(typeF (knownF s.vars) x).2=true∧(typeS s x).1=(typeF (knownF s.vars) x).1:=by
 unfold typeS at *;split at h
 ·rename_i h1;exact absurd h h1
 rename_i h1;split at h
 ·cases h
 rename_i h2;split at h
 ·cases h
 rename_i h3;split at h
 ·rename_i h4;refine ⟨Q2x.1 h1,Q23.2 h2,by simpa using h3,h4,?_⟩;rw[if_neg h1,if_neg h2,if_neg h3,if_pos h4]
 cases h
def J5c {x:Ex}(h:tooF x=false):wtF x≤200:=by
 unfold tooF at h;have h1:=Q0d h;have:=JEU 24 x 200;omega
def outV:Except Int Vl→ByteArray×Int
 |.error c=>(⟨#[]⟩,c)
 |.ok v=>if shortV v then (strV v,0) else (⟨#[]⟩,2)
def JG8 (s:Sys)(x:Ex)(e:EnvA):ByteArray×Int:=if (typeS s x).2≠0 then (⟨#[]⟩,(typeS s x).2) else match openS e with
 |.error c=>(⟨#[]⟩,c)
 |.ok ev=>outV (evalF (knownF s.vars) ev x)
def JPf (p:ByteArray×Int):AV:=.tup [encS p.1,encI p.2]
def J4g {e:EnvA}{ev:Ev}(h:openS e=.ok ev):EvOk ev:=by
 unfold openS at h;split at h
 ·cases h
 split at h
 ·cases h
 rename_i ev' h';cases h;exact JKu h'
def J4h {e:EnvA}{c:Int}(h:openS e=.error c):c=1∨c=2:=by
 unfold openS at h;split at h
 ·cases h;exact .inr rfl
 split at h
 ·cases h;exact .inl rfl
 cases h
def JAt (s:Sys)(x:Ex)(e:EnvA)(hs:SzS s)(hz:SzE x)(hx:TxE x)(he:SzB e):PX 38 [J0E s,encE x,J0L e] (JPf (JG8 s x e)):=by
 refine PZ Tryz.func38 rfl ?_;have hT:=JLs s x hs hz hx;have hO:=JF8 e he;have hk:=J6Y s hs.v;generalize hF:JG8 s x e=F;unfold JG8 at hF;have hty:=@JDx s x;have hev:=@J4g e;have her:=@J4h e;generalize typeS s x=ty at *;obtain ⟨t,c⟩:=ty;generalize hks:knownF s.vars=ks at *;obtain ⟨vs,qs,ns,ws⟩:=s;generalize openS e=oe at *;have hE:=fun ev he hb ht hw=>JJy ks ev he x hz hx hb ht hw;have hsz:=fun ev he hb v h=>@J2l ks ev he x hb v h;have hec:=fun ev hb ht c h=>@J1y ks ev x hb ht c h;rw[J02] at *;unfold J0E J0L at *;simp only at *;refine kWQ ?_;intros;refine J00 [] _ c48 hT ?_
 by_cases h0:c=0
 case' neg=>
  rw[if_pos h0] at hF;refine kWQ ?_;intros;exact .of (by rw[← hF];rfl)
 subst h0;rw[if_neg (by simp)] at hF;obtain ⟨hck,htl,hbb,htt,_⟩:=hty rfl;have hwt:=J5c htl;refine kWQ ?_;intros;refine J00 [] _ c67 hO ?_
 cases oe with
 |error c=>
   have hc:¬ c=0:=by rcases her rfl with rfl|rfl<;>decide
   refine kWQ ?_;intros;exact .of (by rw[← hF];rfl)
 |ok ev =>
   have hev:=hev rfl;have hE:=hE ev hev hbb htt (by omega);have hsz:=hsz ev hev hbb;have hec:=hec ev hbb htt;replace hF:outV (evalF ks ev x)=F:=hF;generalize evalF ks ev x=r at *;refine kWQ ?_;intros;refine CallG.intro _ c99 hk ?_;refine kWQ ?_;intros;refine CallG.intro _ c100 hE ?_
   cases r with
   |error c=>
     have hc:=(hec c rfl).ne;refine kWQ ?_;intros;exact .of (by rw[← hF];rfl)
   |ok v=>
     have hsz:=hsz v rfl;have hS:=JCX v (by omega);have hR:=J9c v (by omega);replace hF:(if shortV v then (strV v,0) else (⟨#[]⟩,2))=F:=hF;generalize shortV v=sv at *;generalize strV v=str at *
     rcases v with q|b
     all_goals
      unfold J07 J16 at hS hR
      try unfold encF encQ at hS hR
      unfold J1z J07 J16
      try unfold encF encQ
      refine kWQ ?_;intros;refine CallP.flat [] _ c101 hS rfl ?_
      cases sv with
      |false=>
        refine kWQ ?_;intros;exact .of (by rw[← hF];rfl)
      |true=>
        refine kWQ ?_;intros;refine CallP.flat [] _ c102 hR rfl ?_;refine kWQ ?_;intros;exact .of (by rw[← hF];rfl)
def wKind:List ByteArray:=[⟨#[99,111,110,116,105,110,117,111,117,115]⟩,⟨#[100,105,115,99,114,101,116,101]⟩,⟨#[112,97,114,97,109]⟩,⟨#[105,110,112,117,116]⟩]
def wType:List ByteArray:=[⟨#[110,117,109,98,101,114]⟩,⟨#[116,114,117,116,104]⟩]
def wAct:List ByteArray:=[⟨#[97,115,115,105,103,110]⟩,⟨#[114,101,105,110,105,116]⟩]
def JL5:PX 332 [] (.sl 1 (wKind.map encS)):=by
 exact J1f JAk (fuel:=60) (n:=3) (by kernel_rfl)
def JKV:PX 333 [] (.sl 1 (wType.map encS)):=by
 exact J1f JAk (fuel:=60) (n:=3) (by kernel_rfl)
def JOB:PX 286 [] (.sl 1 (wAct.map encS)):=by
 exact J1f JAk (fuel:=60) (n:=3) (by kernel_rfl)
def addW (w s:ByteArray)(l:List ByteArray):List ByteArray:=if s=⟨#[]⟩ then l else l++[w++s]
def JAA (w s:ByteArray)(l:List ByteArray)(g g1:Nat)(hl:l.length≤1000)(hw:w.size≤2^40)(hs:s.size≤2^40) :
  HCall Tryz.prog 334 [encS w,encS s,.op 50 g 0 0] (hp [(50,g,⟨39,1,[.own 51 g1 0 l.length]⟩),(51,g1,⟨9,1,l.map encS⟩)])
   (fun r h=>r=.tup []∧∃ g',h=hp [(50,g,⟨39,1,[.own 51 g' 0 (addW w s l).length]⟩),(51,g',⟨9,1,(addW w s l).map encS⟩)]):=by
 refine J2j (E:=E 0) J3x (JMY 0) Tryz.func334 rfl (by rfl) (QJ rfl) ?_;have hml:=@Q3 _ _ l encS;have y1:=J0D w s;generalize hF:addW w s l=F;unfold addW at hF;(refine kWQ ?_;repeat intro γ);refine CondP.dec (fun h1=>?_) (fun h1=>?_)<;>refine kW ?_
 ·rw[if_pos h1] at hF;(refine kQ ?_;repeat intro γ);refine EndH.of (m:=[(50,g,⟨39,1,[.own 51 g1 0 l.length]⟩),(51,g1,⟨9,1,l.map encS⟩)]) ⟨rfl,rfl,trivial⟩ ⟨rfl,g1,?_⟩;rw[← hF]
 rw[if_neg h1] at hF;(refine kQ ?_;repeat intro γ);refine EndH.of (m:=[(50,g,⟨39,1,[.own 51 γ 0 (l.length+1)]⟩),(51,γ,⟨9,1,l.map encS++[encS (w++s)]⟩)]) ⟨rfl,rfl,trivial⟩ ⟨rfl,γ,?_⟩;rw[← hF,QW,QQ];rfl
def J7P (v:Va):List ByteArray:=
 addW ⟨#[117,110,105,116,61]⟩ v.unit ((fun l=>if v.fixed then l++[⟨#[102,105,120,101,100]⟩] else l) (addW ⟨#[115,116,97,114,116,61]⟩ v.start (addW ⟨#[118,97,108,117,101,61]⟩ v.value
  [⟨#[118,97,114]⟩,v.name,wKind.getD v.kind.toNat ⟨#[]⟩,wType.getD v.type.toNat ⟨#[]⟩])))
def lineF (v:Va):ByteArray:=joinB (J7P v) (b1 32)++b1 10
def J3q (w s:ByteArray)(l:List ByteArray):(addW w s l).length≤l.length+1:=by
 unfold addW;split
 ·omega
 simp
def JHJ (a b:List ByteArray):szB (a++b)=szB a+szB b:=by unfold szB;rw[QW,List.sum_append]
def JDg (w s:ByteArray)(l:List ByteArray):szB (addW w s l)≤szB l+w.size+s.size:=by
 unfold addW;split
 ·omega
 rw[JHJ];unfold szB;simp only[QK,Q0H,Q2I,List.sum_nil,J0D];omega
def JEX (v:Va)(h:v.name.size<2^35∧v.value.size<2^35∧v.start.size<2^35∧v.unit.size<2^35):(J7P v).length≤8∧szB (J7P v)≤2^37+300:=by
 unfold J7P;generalize hA:addW ⟨#[118,97,108,117,101,61]⟩ v.value _=A;have a1:=J3q ⟨#[118,97,108,117,101,61]⟩ v.value [⟨#[118,97,114]⟩,v.name,wKind.getD v.kind.toNat ⟨#[]⟩,wType.getD v.type.toNat ⟨#[]⟩];have a2:=JDg ⟨#[118,97,108,117,101,61]⟩ v.value [⟨#[118,97,114]⟩,v.name,wKind.getD v.kind.toNat ⟨#[]⟩,wType.getD v.type.toNat ⟨#[]⟩];rw[hA] at a1 a2
 have k1:∀ n:Nat,(wKind.getD n ⟨#[]⟩).size≤10:=by
  intro n
  match n with
  |0=>decide
  |1=>decide
  |2=>decide
  |3=>decide
  |n+4=>exact QG _
 have k2:∀ n:Nat,(wType.getD n ⟨#[]⟩).size≤10:=by
  intro n
  match n with
  |0=>decide
  |1=>decide
  |n+2=>exact QG _
 have k1:=k1 v.kind.toNat;have k2:=k2 v.type.toNat;have a3:szB [⟨#[118,97,114]⟩,v.name,wKind.getD v.kind.toNat ⟨#[]⟩,wType.getD v.type.toNat ⟨#[]⟩]=3+(v.name.size+((wKind.getD v.kind.toNat ⟨#[]⟩).size+((wType.getD v.type.toNat ⟨#[]⟩).size+0))):=rfl;have a4:(⟨#[118,97,108,117,101,61]⟩:ByteArray).size=6:=rfl;generalize hB:addW ⟨#[115,116,97,114,116,61]⟩ v.start A=B;have b1:=J3q ⟨#[115,116,97,114,116,61]⟩ v.start A;have b2:=JDg ⟨#[115,116,97,114,116,61]⟩ v.start A;have b4:(⟨#[115,116,97,114,116,61]⟩:ByteArray).size=6:=rfl;rw[hB] at b1 b2
 have c0:(if v.fixed=true then B++[⟨#[102,105,120,101,100]⟩] else B).length≤B.length+1∧szB (if v.fixed=true then B++[⟨#[102,105,120,101,100]⟩] else B)≤szB B+5:=by
  split
  ·rw[JHJ,QQ];exact ⟨QM _,QM _⟩
  exact ⟨by omega,by omega⟩
 show (addW _ v.unit (if v.fixed=true then B++[⟨#[102,105,120,101,100]⟩] else B)).length≤8∧szB (addW _ v.unit (if v.fixed=true then B++[⟨#[102,105,120,101,100]⟩] else B))≤2^37+300
 generalize (if v.fixed=true then B++[⟨#[102,105,120,101,100]⟩] else B)=C at *;have d1:=J3q ⟨#[117,110,105,116,61]⟩ v.unit C;have d2:=JDg ⟨#[117,110,105,116,61]⟩ v.unit C;have d4:(⟨#[117,110,105,116,61]⟩:ByteArray).size=5:=rfl;simp only[QT,Q0R] at a1;exact ⟨by omega,by omega⟩
def hpL (g1 g3 gl:Nat)(v:Va)(l:List ByteArray):List (Nat×Nat×Blk):=[(1,g1,⟨89,7,[encV v]⟩),(3,g3,⟨39,1,[.own 17 gl 0 l.length]⟩),(17,gl,⟨9,1,l.map encS⟩)]
def JNQ (v:Va)(h:v.name.size<2^35∧v.value.size<2^35∧v.start.size<2^35∧v.unit.size<2^35)(hk:0≤v.kind∧v.kind≤3)(ht:0≤v.type∧v.type≤1):PX 284 [encV v] (encS (lineF v)):=by
 refine PZ Tryz.func284 rfl ?_;obtain ⟨hL1,hL2⟩:=JEX v h;have hj:=J3f (J7P v) (b1 32);have h32:(b1 32).size=1:=rfl;rw[h32] at hj;have hJ:=JJq (J7P v) (b1 32) (by omega) (by omega);generalize hF:lineF v=F;unfold lineF at hF;have hLL:J7P v=J7P v:=rfl;generalize hL:J7P v=L at *;have y1:=J0D (joinB L (b1 32)) { data:=#[10] };have y2:({ data:=#[10] }:ByteArray).size=1:=rfl;have hs1:(joinB L (b1 32)).size≤2^40:=by omega
 generalize joinB L (b1 32)=jb at *;clear hLL hj;unfold J7P at hL;obtain ⟨nm,kd,ty,vl,st,fx,un⟩:=v;simp only at *
 have gk:(wKind.map encS).getD kd.toNat .dead=encS (wKind.getD kd.toNat ⟨#[]⟩):=by
  have:kd.toNat<wKind.length:=by show _<4;omega
  rw[Q4,Ql,Q4,Q8 this];rfl
 have gt:(wType.map encS).getD ty.toNat .dead=encS (wType.getD ty.toNat ⟨#[]⟩):=by
  have:ty.toNat<wType.length:=by show _<2;omega
  rw[Q4,Ql,Q4,Q8 this];rfl
 have lk:(wKind.map encS).length=4:=rfl;have lt:(wType.map encS).length=2:=rfl;have hKW:=JL5;have hTW:=JKV;generalize wKind.map encS=ks at *;generalize wType.map encS=ts at *;generalize wKind.getD kd.toNat ⟨#[]⟩=wk at *;generalize wType.getD ty.toNat ⟨#[]⟩=wt at *;unfold encV;simp only;(refine kWQ ?_;repeat intro γ);refine CallG.intro _ c332 hKW ?_;(refine kWQ ?_;repeat intro γ);rw[gk];(refine kWQ ?_;repeat intro γ);refine CallG.intro _ c333 hTW ?_;(refine kWQ ?_;repeat intro γ);rw[gt];(refine kWQ ?_;repeat intro γ);have z1:({ data:=#[118,97,108,117,101,61] }:ByteArray).size≤2^40:=by decide
 have z2:({ data:=#[115,116,97,114,116,61] }:ByteArray).size≤2^40:=by decide
 have z3:({ data:=#[117,110,105,116,61] }:ByteArray).size≤2^40:=by decide
 have hA1:=J3q ⟨#[118,97,108,117,101,61]⟩ vl [⟨#[118,97,114]⟩,nm,wk,wt];refine CallP.frame 1000000 [(50,3),(51,17)] rfl c334 (JAA ⟨#[118,97,108,117,101,61]⟩ vl [⟨#[118,97,114]⟩,nm,wk,wt] _ _ (by show 4≤1000;decide) z1 (by omega)) rfl ⟨rfl,rfl,trivial⟩ ?_;rintro r0 h' ⟨rfl,g',rfl⟩;generalize addW ⟨#[118,97,108,117,101,61]⟩ vl [⟨#[118,97,114]⟩,nm,wk,wt]=A at *;refine ⟨hpL _ _ g' ⟨nm,kd,ty,vl,st,fx,un⟩ A,⟨rfl,rfl,J0X encS _ (fun _=>rfl) ..,trivial⟩,?_⟩;unfold hpL encV;have hA:A.length≤5:=hA1;have hmA:=@Q3 _ _ A encS;(refine kWQ ?_;repeat intro γ);have hB1:=J3q ⟨#[115,116,97,114,116,61]⟩ st A;refine CallP.frame 1000000 [(50,3),(51,17)] rfl c334 (JAA ⟨#[115,116,97,114,116,61]⟩ st A _ _ (by omega) z2 (by omega)) rfl ⟨rfl,J0X encS _ (fun _=>rfl) ..,trivial⟩ ?_;rintro r0 h' ⟨rfl,g',rfl⟩;generalize addW ⟨#[115,116,97,114,116,61]⟩ st A=B at *;refine ⟨hpL _ _ g' ⟨nm,kd,ty,vl,st,fx,un⟩ B,⟨rfl,rfl,J0X encS _ (fun _=>rfl) ..,trivial⟩,?_⟩;unfold hpL encV;have hB:B.length≤6:=by omega
 have hmB:=@Q3 _ _ B encS;(refine kWQ ?_;repeat intro γ);obtain ⟨C,hC⟩:∃ C,(if fx=true then B++[⟨#[102,105,120,101,100]⟩] else B)=C:=⟨_,rfl⟩;rw[hC] at hL
 have hC1:C.length≤7:=by
  rw[← hC];split
  ·rw[QQ];show _+1≤7;omega
  omega
 have hmC:=@Q3 _ _ C encS;have hD1:=J3q ⟨#[117,110,105,116,61]⟩ un C;have fin:=fun g3 gl=>JAA ⟨#[117,110,105,116,61]⟩ un C g3 gl (by omega) z3 (by omega);have hls:L.length=L.length:=rfl;cases fx
 ·rw[if_neg (by decide)] at hC;subst hC;(refine kWQ ?_;repeat intro γ);refine CallP.frame 1000000 [(50,3),(51,17)] rfl c334 (fin _ g') (by rfl) ⟨rfl,J0X encS _ (fun _=>rfl) ..,trivial⟩ ?_;rintro r0 h' ⟨rfl,g',rfl⟩;rw[hL];refine ⟨hpL _ _ g' ⟨nm,kd,ty,vl,st,false,un⟩ L,⟨rfl,rfl,J0X encS _ (fun _=>rfl) ..,trivial⟩,?_⟩;unfold hpL encV;(refine kWQ ?_;repeat intro γ);refine CallP.flat [17] _ c212 (J0G (QC (fun z=>[z,encS (b1 32)]) (JNE rfl rfl)) hJ) rfl ?_;(refine kWQ ?_;repeat intro γ);exact .of (by rw[← hF];rfl)
 rw[if_pos rfl] at hC;have hCm:List.map encS B++[encS ⟨#[102,105,120,101,100]⟩]=C.map encS:=by rw[← hC,QW];rfl
 have hCl:B.length+1=C.length:=by rw[← hC,QQ];rfl
 (refine kWQ ?_;repeat intro γ);refine CallP.frame 1000000 [(50,3),(51,17)] rfl c334 (fin _ γ) (by rfl) ⟨QC (fun n=>some (_,(⟨39,1,[.own 51 γ 0 n]⟩:Blk))) hCl,?_,trivial⟩ ?_
 ·show some (mvB _ (γ,(⟨9,1,List.map encS B++[encS ⟨#[102,105,120,101,100]⟩]⟩:Blk)))=_
  rw[hCm];exact J0X encS _ (fun _=>rfl) ..
 rintro r0 h' ⟨rfl,g',rfl⟩;rw[hL];refine ⟨hpL _ _ g' ⟨nm,kd,ty,vl,st,true,un⟩ L,⟨rfl,rfl,J0X encS _ (fun _=>rfl) ..,trivial⟩,?_⟩;unfold hpL encV;refine kWQ ?_;intros;refine CallP.flat [17] _ c212 (J0G (QC (fun z=>[z,encS (b1 32)]) (JNE rfl rfl)) hJ) rfl ?_;refine kWQ ?_;intros;exact .of (by rw[← hF];rfl)
open Go.RowKit
def JCW {P:Program}{ρ:Go.Shelf.Ren}(L:Lays.n169 P ρ)(X:Builder.Extra P ρ)(b g cap:Nat)(l:List UInt8)(p:Value)(cur:Array Value)(w:World)(h0:l≠[])(hbk:w.heap[b]?=some (.cells #[p,.slice (some ⟨g,0,none⟩) l.length cap] (ρ.t 72) (0,0)))
  (hg:w.heap[g]?=some (.cells cur (ρ.t 5) (0,0)))(hnc:l.length≤cap)(hcm:cap≤maxLen)(hcs:cur.size=cap)(htake:cur.toList.take l.length=Lib.byteCells l) :
  Calls P (ρ.f 169) #[.pointer (some ⟨b,0,none⟩)] w fun e w'=>e=.returned (.string ⟨l.toArray⟩)∧w'=w.drew.freeze ⟨g,0,none⟩ l.length:=by
 have hl0:l.length≠0:=by simpa using h0
 have c1:w.drew.cell? ⟨b,1,none⟩=some (.slice (some ⟨g,0,none⟩) l.length cap):=by
  have:w.drew.heap[b]?=some (.cells #[p,.slice (some ⟨g,0,none⟩) l.length cap] (ρ.t 72) (0,0)):=hbk;rw[Lib.cell_of_heap this];rfl
 have hSD:(Builtin.unsafeSliceData_ #[(ρ.t 37)] (ρ.t 127) #[.slice (some ⟨g,0,none⟩) l.length cap]).run P w.drew=.ok (.pointer (some ⟨g,0,none⟩)) w.drew:=
  Lib.run_unsafeSliceData_row _ _ _ _ _ _ (by omega)
 have hUS:(Builtin.unsafeString_ #[(ρ.t 127),(ρ.t 3)] (ρ.t 9) #[.pointer (some ⟨g,0,none⟩),.int .i64 l.length]).run P w.drew=.ok (.string ⟨l.toArray⟩) (w.drew.freeze ⟨g,0,none⟩ l.length):=by
  refine Lib.run_unsafeString_row w.drew (ρ.t 127) (ρ.t 3) (ρ.t 9) (ρ.t 5) L.t127 X.cellsByte g cur.size (by have hg':w.drew.heap[g]?=some (.cells cur (ρ.t 5) (0,0)):=hg;simp[World.shape?,hg']) l h0 (by omega) (by unfold maxLen at hcm;omega) ?_;intro j x hx;have hg':w.drew.heap[g]?=some (.cells cur (ρ.t 5) (0,0)):=hg;have hj:j<l.length:=(Q0I.1 hx).1
  have e1:cur.toList[j]?=some (.int .u8 x.toNat):=by
   have:(cur.toList.take l.length)[j]?=some (.int .u8 x.toNat):=by rw[htake];simp[Lib.byteCells,hx]
   rwa [Q0c,if_pos hj] at this
  rw[Addr.add_lit,Lib.cell_of_heap hg',Qq,← Q0f,e1]
 have mixed:=L.mixed;have t72:=L.t72;have a72:=L.a72;have z72:=L.z72;have v72:=L.v72;have u72:=QR L.t72;have t70:=L.t70;have a70:=L.a70;have z70:=L.z70;have v70:=L.v70;have u70:=QR L.t70;have t37:=L.t37;have a37:=L.a37;have z37:=L.z37;have v37:=L.v37;have u37:=QR L.t37;have t127:=L.t127;have a127:=L.a127;have z127:=L.z127;have v127:=L.v127;have u127:=QR L.t127;have t3:=L.t3;have a3:=L.a3;have z3:=L.z3;have v3:=L.v3;have u3:=QR L.t3;have t9:=L.t9;have a9:=L.a9;have z9:=L.z9;have v9:=L.v9;have u9:=QR L.t9;have t5:=X.t5;have a5:=X.a5;have z5:=X.z5;have v5:=X.v5;have u5:=QR X.t5
 go_enter L.f169,Body.n169_ntmps ρ
 go_wp2
 go_region_o
 all_goals (go_wp2;go_ret;exact ⟨rfl,rfl⟩)
def HRel.drop {gh:Gh}{κ:KM}{H:Hp}{w w':World}{d g c:Nat}{B:Blk}{K:KI}(hr:HRel gh κ H w)(hd:H d=some (g,B))(hκ:κ d g=some K)(hc:K.c=some c)(hs:w.heap.size≤w'.heap.size)(hb:∀ k,k<w.heap.size→k≠c→w'.heap[k]?=w.heap[k]?)(ho:w'.os=w.os)(ht:w'.tape=w.tape)(hu:w'.output=w.output) :
  HRel gh κ (rem H [d]) w'∧∀ {x:AV} {u:Value},VR κ w (Nset gh.O κ H) x u→VR κ w' (Nset gh.O κ (rem H [d])) x u:=by
 have hag:Agree (Nset gh.O κ H) w w':=⟨hs,fun k hk hn=>hb k hk fun e=>hn (.inr ⟨d,g,B,K,hd,hκ,e ▸ hc⟩)⟩;have hr':=hr.rem [d];have tr:∀ {x:AV} {u:Value},VR κ w (Nset gh.O κ H) x u→VR κ w' (Nset gh.O κ (rem H [d])) x u:=fun h=>h.step (KM.le.refl _) hag fun k _ h=>J0W [d] h;have hag':Agree (Fw.Own κ H) w w':=⟨hs,fun k hk hn=>hb k hk fun e=>hn ⟨d,g,B,K,hd,hκ,e ▸ hc⟩⟩;refine ⟨⟨fun b g' B' h=>?_,hr'.inj,hr'.mine,hr.keep hag',ho.trans hr.os,ht.trans hr.tape,hu.trans hr.output,hr.fresh,hr.apart⟩,tr⟩;obtain ⟨K',hk,hbr⟩:=hr'.blk _ _ _ h
 have hbd:b≠d:=by
  rintro rfl;simp[Fw.rem] at h
 have hHb:H b=some (g',B'):=by
  unfold Fw.rem at h;split at h
  ·cases h
  exact h
 obtain ⟨K2,hk2,hbr2⟩:=hr.blk _ _ _ hHb;exact ⟨K2,hk2,hbr2.step (KM.le.refl _) hag (fun k _ h=>J0W [d] h) fun k hk=>hb k (hr.lt ⟨b,g',B',K2,hHb,hk2,hk⟩) fun e=>hbd (hr.inj _ _ _ _ _ _ _ _ c hHb hd hk2 hκ (e ▸ hk) hc)⟩
def JCZ {κ:KM}{w:World}{N:Nat→Prop}{l:List UInt8}{XS:List Value}(h:Row κ w N 1 (BY l) XS):XS=Lib.byteCells l:=by
 have hl:XS.length=l.length:=by simpa using h.len
 refine Q1X (by simp[Lib.byteCells,hl]) fun i h1 h2=>?_;have hi:i<l.length:=hl ▸ h1;have:=h.rel i (by simpa using hi) 0 (by simp[BY,AV.cells]);have e1:((BY l)[i]'(by simpa using hi)).cells[0]'(by simp[BY,AV.cells])=.val (.int .u8 (l[i].toNat:Int)):=by simp[BY,AV.cells]
 rw[e1] at this;have e2:XS.getD (i*1+0) undef=XS[i]:=by simp[Q4,Q8 h1]
 rw[e2] at this;have e3:(Lib.byteCells l)[i]=.int .u8 (l[i].toNat:Int):=by simp[Lib.byteCells]
 rw[e3];generalize XS[i]=v at this;cases this;rfl
def JGX {H:Hp}{b g d g0:Nat}{p:AV}{l:List UInt8}(hb:H b=some (g,bldB p (.own d g0 0 l.length)))(hp:p.cells=[p])(hd:H d=some (g0,⟨5,1,BY l⟩)) :
  HCall Tryz.prog 287 [.op b g 0 0] H fun r H'=>r=.val (.string ⟨l.toArray⟩)∧H'=rem H [d]:=by
 intro gh κ w vs hr hv;obtain ⟨hlen,hv⟩:=hv;obtain ⟨vl⟩:=vs
 rcases vl with _|⟨a,_|⟨a2,r⟩⟩<;>simp at hlen
 have h0:=hv 0 (by simp) (by simp);simp only[Q00,Q0Y] at h0
 obtain ⟨c,rfl⟩:∃ c,a=.pointer (some ⟨c,0,none⟩):=by
  cases h0 with
  |op _ _ _ _ c K hκ hc hn=>exact ⟨c,by simp⟩
 obtain ⟨v0,v1,hbk,_,hv1⟩:=JAc hr hb h0 hp rfl;have L:=JCS;have X:=J30;have e5:Tryz.lays169_ren.t 5=5:=rfl;have e72:Tryz.lays169_ren.t 72=solo:=rfl;show Calls Tryz.prog (Tryz.lays169_ren.f 169) _ _ _
 generalize Tryz.lays169_ren=ρ at L X e5 e72 ⊢
 have fin:∀ {e:Ending} {w':World},l=[]→(e=.returned (.string ⟨#[]⟩)∧Below w.heap.size w w')→∃ v r H' κ',e=.returned v∧(r=.val (.string ⟨l.toArray⟩)∧H'=rem H [d])∧HRel gh κ' H' w'∧VR κ' w' (Nset gh.O κ' H') r v∧∀ {x:AV} {u:Value},VR κ w (Nset gh.O κ H) x u→VR κ' w' (Nset gh.O κ' H') x u:=by
  rintro e w' rfl ⟨rfl,hB⟩;obtain ⟨q1,q2⟩:=J0z hr hB;exact ⟨_,_,_,κ,rfl,⟨rfl,rfl⟩,q1.rem [d],.val _ rfl,fun h=>(q2 h).mono fun k h=>J0W [d] h⟩
 have hbk:w.heap[c]?=some (.cells #[v0,v1] (ρ.t 72) (0,0)):=by rw[e72];exact hbk
 obtain ⟨K,hk,hbr⟩:=hr.blk _ _ _ hd;generalize hlen:l.length=len at hv1
 cases hv1 with
 |ownnil _ _ K' hk' hc=>
   exact (Any.Builder_String_nil L X w.heap.size c v0 w hbk).mono fun e w' h=>fin (Qn hlen) h
 |own _ _ _ _ cap cd K' hk' hc h1 h2 hp2=>
   rw[hk] at hk';cases hk';have hbr:=hbr.rows hp2;obtain ⟨A,hbk2,hm,hrow⟩:=hbr.row hc 0 len (by rw[← hlen];simp);have hKn:K.n=1:=hbr.1;have htk:(BY l).take len=BY l:=Qm (by rw[← hlen];simp);simp only[Q0F,Q0Z,htk,hKn,Q1U] at hrow;have hcs:A.size=cap:=by rw[← hm,← h2.1,hKn];omega
   simp only[Qq,Q0Z] at h2 hbk ⊢;replace hbk2:w.heap[cd]?=some (.cells A (ρ.t 5) (0,0)):=by rw[e5];exact hbk2
   have hdh:w.drew.heap=w.heap:=rfl
   by_cases hl:l=[]
   ·subst hl;obtain rfl:len=0:=by simpa using hlen.symm
    by_cases h0:cap=0
    ·subst h0;exact (Any.Builder_String_noroom L X w.heap.size c cd v0 A w (QM _) hbk hbk2).mono fun e w' h=>fin rfl h
    exact (Any.Builder_String_room L X w.heap.size c cd cap v0 w h0 hbk).mono fun e w' h=>fin rfl h
   refine (JCW L X c cd cap l v0 A w hl (by rw[hlen];exact hbk) hbk2 (by omega) h2.2 hcs ?_).mono ?_
   ·rw[hlen];exact JCZ hrow
   rintro e w' ⟨rfl,rfl⟩
   obtain ⟨q1,q2⟩:=HRel.drop (w':=w.drew.freeze ⟨cd,0,none⟩ l.length) hr hd hk hc (by unfold World.freeze;split<;>simp[hdh]) (fun k hk hne=>by
    unfold World.freeze;split
    ·rfl
    simp[hdh,Q2W,Ne.symm hne]) (by unfold World.freeze;split<;>rfl) (by unfold World.freeze;split<;>rfl) (by unfold World.freeze;split<;>rfl)
   exact ⟨_,_,_,κ,rfl,⟨rfl,rfl⟩,q1,.val _ rfl,q2⟩
end Go.Proofs.YtlblbldolhiokaaGreatDoor
namespace Go.Proofs.YtlblbldolhiokaaGreatDoor
open Go Go.Fw
def J5S {e:Nat}{H:Hp}{b g d g0:Nat}{p:AV}{l:List UInt8}(s:ByteArray){args:List AV}{C:AV→Hp→Prop}(ha:args=[.op b g 0 0,encS s])(hb:H b=some (g,bldB p (.own d g0 0 l.length)))(hpf:p=J1m∨p=.op b g 0 0)(hd:H d=some (g0,⟨5,1,BY l⟩))(hbd:b≠d)
  (hs:l.length+s.size≤140737488355328)(h:∀ γ,∃ m,hpOk (setH (setH H d (some (γ,⟨5,1,BY (l++s.data.toList)⟩))) b (some (g,bldB (.op b g 0 0) (.own d γ 0 (l++s.data.toList).length)))) m∧C (.tup [encI s.size,.val .nilIface]) (hp m)) :
  CallP (E e) 283 args H C:=by
 subst ha;refine CallP.own c283 (HCall.mono (J8a hb hpf hd hbd hs) ?_);rintro r h' ⟨rfl,γ,rfl⟩;obtain ⟨m,h1,h2⟩:=h γ;have e1:l.length+s.size=(l++s.data.toList).length:=by rw[QQ];rfl
 rw[e1];exact ⟨hp m,h1.sub,h2⟩
def eqF (w:ByteArray)(q:Eqn):ByteArray:=w++b1 32++q.name++b1 32++showF q.left++b1 32++showF q.right++b1 10
def eqsL (w:ByteArray):List Eqn→List UInt8
 |[]=>[]
 |q::r=>(eqF w q).data.toList++eqsL w r
structure QnOk (q:Eqn):Prop where
 n:q.name.size<2^35
 l:SzE q.left∧TxE q.left∧builtF q.left=true∧wtF q.left≤1000
 r:SzE q.right∧TxE q.right∧builtF q.right=true∧wtF q.right≤1000
def J1s {e:Ex}(h:TxE e)(hb:builtF e=true)(hw:wtF e≤1000):(showF e).size≤2^32:=by
 have:=J8q e hb h;have h2:(2^21+20)*wtF e≤(2^21+20)*1000:=Qt _ hw;omega
def JEn {w:ByteArray}{q:Eqn}(hw:w.size≤10)(h:QnOk q):(eqF w q).size≤2^36:=by
 have h1:=J1s h.l.2.1 h.l.2.2.1 h.l.2.2.2;have h2:=J1s h.r.2.1 h.r.2.2.1 h.r.2.2.2;have h3:=h.n;unfold eqF;simp only[J0D];show _+1+_+1+_+1+_+1≤_
 omega
def JKY (w:ByteArray)(hw:w.size≤10)(qs:List Eqn)(hq:∀ q∈qs,QnOk q)(hn:qs.length≤120)(p:AV)(g g1:Nat)(hpf:p=J1m∨p=.op 50 g 0 0)(l:List UInt8)(hl:l.length≤2^46) :
  HCall Tryz.prog 285 [encS w,.sl 9 (qs.map J0M),.op 50 g 0 0] (hp [(50,g,bldB p (.own 51 g1 0 l.length)),(51,g1,⟨5,1,BY l⟩)])
   (fun r h=>r=.tup []∧∃ p' g',(p'=J1m∨p'=.op 50 g 0 0)∧h=hp [(50,g,bldB p' (.own 51 g' 0 (l++eqsL w qs).length)),(51,g',⟨5,1,BY (l++eqsL w qs)⟩)]):=by
 refine J2j (E:=E 0) J3x (JMY 0) Tryz.func285 rfl (by rfl) (QJ rfl) ?_;have hml:=@Q3 _ _ qs J0M;generalize hR:l++eqsL w qs=R;(refine kWQ ?_;repeat intro γ)
 refine LoopP.intro (fun k σ H=>∃ p' g1 i,∃ t:List UInt8,k=qs.length-i∧i≤qs.length∧t.length≤i*2^36+2^46∧(p'=J1m∨p'=.op 50 g 0 0)∧t++eqsL w (qs.drop i)=R ∧
   σ=fr [(0,encS w),(2,.op 50 g 0 0),(7,.sl 9 (qs.map J0M)),(8,encI qs.length),(9,encI i)] ∧
   H=hp [(50,g,bldB p' (.own 51 g1 0 t.length)),(51,g1,⟨5,1,BY t⟩)]) ?_ ?_
 ·exact .intro (W.of ⟨_,p,g1,0,l,rfl,QG _,by omega,hpf,hR,rfl,rfl⟩ ⟨rfl,rfl,rfl,rfl,rfl,trivial⟩ ⟨rfl,rfl,trivial⟩)
 rintro k σ H ⟨p',g1,i,t,rfl,hi,ht,hpf,hT,rfl,rfl⟩
 rcases QI i qs.length with h1|h1
 ·rw[Q6 h1] at hT;have hqi:=hq _ (QF h1);have hs1:=J9u _ hqi.l.1 hqi.l.2.1 hqi.l.2.2.1 hqi.l.2.2.2;have hs2:=J9u _ hqi.r.1 hqi.r.2.1 hqi.r.2.2.1 hqi.r.2.2.2;have hz:=JEn hw hqi;have hz1:=J1s hqi.l.2.1 hqi.l.2.2.1 hqi.l.2.2.2;have hz2:=J1s hqi.r.2.1 hqi.r.2.2.1 hqi.r.2.2.2;have hzn:=hqi.n;rw[J0C] at hs1 hs2;(refine kWO ?_;repeat intro γ)
  (simp (disch:=omega) only [LG];refine kW ?_)
  (refine kO ?_;repeat intro γ);generalize qs[i]=q at *;obtain ⟨qn,ql,qr⟩:=q;simp only at hs1 hs2 hz1 hz2 hzn;unfold eqsL at hT;unfold eqF at hT hz;simp only[b1] at hT hz;generalize showF ql=sl at *;generalize showF qr=sr at *;have z1:({ data:=#[32] }:ByteArray).size=1:=rfl;have z2:({ data:=#[10] }:ByteArray).size=1:=rfl;have y1:=J0D w { data:=#[32] };have y2:=J0D (w++{ data:=#[32] }) qn;have y3:=J0D (w++{ data:=#[32] }++qn) { data:=#[32] };have y4:=J0D (w++{ data:=#[32] }++qn++{ data:=#[32] }) sl;have y5:=J0D (w++{ data:=#[32] }++qn++{ data:=#[32] }++sl) { data:=#[32] };have y6:=J0D (w++{ data:=#[32] }++qn++{ data:=#[32] }++sl++{ data:=#[32] }) sr;have y7:=J0D (w++{ data:=#[32] }++qn++{ data:=#[32] }++sl++{ data:=#[32] }++sr) { data:=#[10] };refine J1B [(16,false),(17,true)] (by kernel_rfl) ?_;(refine kWQ ?_;repeat intro γ);refine CallG.intro _ c128 hs1 ?_;(refine kWQ ?_;repeat intro γ);refine CallG.intro _ c128 hs2 ?_;(refine kWQ ?_;repeat intro γ);refine J5S (b:=50) (g:=g) (d:=51) (g0:=g1) (p:=p') (l:=t) (w++{ data:=#[32] }++qn++{ data:=#[32] }++sl++{ data:=#[32] }++sr++{ data:=#[10] }) (by kernel_rfl) rfl hpf rfl (by decide) (by omega) fun γ=>⟨[(6,_,⟨58,9,[J0M ⟨qn,ql,qr⟩]⟩),(50,g,_),(51,γ,_)],⟨rfl,rfl,rfl,trivial⟩,?_⟩;(refine kWQ ?_;repeat intro γ);obtain ⟨z,hzz⟩:∃ z,w++{ data:=#[32] }++qn++{ data:=#[32] }++sl++{ data:=#[32] }++sr++{ data:=#[10] }=z:=⟨_,rfl⟩;rw[hzz] at hT hz ⊢;have hzl:z.data.toList.length=z.size:=rfl
  refine .intro <| W.of ⟨_,by omega,.op 50 g 0 0,γ,i+1,t++z.data.toList,rfl,h1,by rw[QQ,hzl];omega,.inr rfl,by rw[Qo];exact hT,rfl,rfl⟩ ⟨rfl,rfl,rfl,rfl,rfl,trivial⟩ ⟨rfl,rfl,trivial⟩
 rw[Q9 h1] at hT;refine kWQ ?_;intros;refine EndH.of (m:=[(50,g,bldB p' (.own 51 g1 0 t.length)),(51,g1,⟨5,1,BY t⟩)]) ⟨rfl,rfl,trivial⟩ ⟨rfl,p',g1,hpf,?_⟩;rw[← hT];unfold eqsL;rw[Q08]
def J99:List Va→List UInt8
 |[]=>[]
 |v::r=>(lineF v).data.toList++J99 r
def actB (a:Ac):ByteArray:=b1 32++wAct.getD a.kind.toNat ⟨#[]⟩++b1 32++a.var++b1 32++showF a.value
def JJT:List Ac→List UInt8
 |[]=>[]
 |a::r=>(actB a).data.toList++JJT r
def JOX (w:Whn):ByteArray:=⟨#[119,104,101,110,32]⟩++w.name++b1 32++showF w.cond
def J8f:List Whn→List UInt8
 |[]=>[]
 |w::r=>(JOX w).data.toList++(JJT w.acts++([10]++J8f r))
def wEq:ByteArray:=⟨#[101,113]⟩
def JKO:ByteArray:=⟨#[105,110,105,116]⟩
def JD2 (s:Sys):List UInt8:=J99 s.vars++eqsL wEq s.eqs++eqsL JKO s.inits++J8f s.whens
def ExOk (e:Ex):Prop:=SzE e∧TxE e∧builtF e=true∧wtF e≤1000
structure AcOk (a:Ac):Prop where
 k:0≤a.kind∧a.kind≤1
 n:a.var.size<2^35
 e:ExOk a.value
structure WnOk (w:Whn):Prop where
 n:w.name.size<2^35
 e:ExOk w.cond
 l:w.acts.length≤20
 a:∀ a∈w.acts,AcOk a
structure VaOk (v:Va):Prop where
 s:v.name.size<2^35∧v.value.size<2^35∧v.start.size<2^35∧v.unit.size<2^35
 k:0≤v.kind∧v.kind≤3
 t:0≤v.type∧v.type≤1
structure TextOk (s:Sys):Prop where
 lv:s.vars.length≤120
 lq:s.eqs.length≤120
 ln:s.inits.length≤120
 lw:s.whens.length≤120
 v:∀ v∈s.vars,VaOk v
 q:∀ q∈s.eqs,QnOk q
 n:∀ q∈s.inits,QnOk q
 w:∀ w∈s.whens,WnOk w
def JFy {v:Va}(h:VaOk v):(lineF v).size≤2^37+310:=by
 obtain ⟨h1,h2⟩:=JEX v h.s;have hj:=J3f (J7P v) (b1 32);have h32:(b1 32).size=1:=rfl;have h10:(b1 10).size=1:=rfl;unfold lineF;rw[J0D,h10];rw[h32] at hj;omega
theorem JAK {w:ByteArray}(hw:w.size≤10):∀ {qs:List Eqn},(∀ q∈qs,QnOk q)→(eqsL w qs).length≤qs.length*2^36
 |[],_=>by simp[eqsL]
 |q::r,h=>by
   have h1:=JEn hw (h q (by simp));have h2:=JAK hw (qs:=r) fun x hx=>h x (by simp[hx]);unfold eqsL;rw[QQ,QT,Q0a];have e:(eqF w q).data.toList.length=(eqF w q).size:=rfl;omega
def CallP.eqs {S:Blk}{gs g g1:Nat}{p:AV}(hpf:p=J1m∨p=.op 3 g 0 0)(w:ByteArray)(hw:w.size≤10){qs:List Eqn}(hq:∀ q∈qs,QnOk q)(hn:qs.length≤120){t:List UInt8}(ht:t.length≤2^46){args:List AV}{C:AV→Hp→Prop}
  (ha:args=[encS w,.sl 9 (qs.map J0M),.op 3 g 0 0])
  (hC:∀ p' g',(p'=J1m∨p'=.op 3 g 0 0)→C (.tup []) (hp [(1,gs,S),(3,g,bldB p' (.own 100 g' 0 (t++eqsL w qs).length)),(100,g',⟨5,1,BY (t++eqsL w qs)⟩)])) :
  CallP (E 0) 285 args (hp [(1,gs,S),(3,g,bldB p (.own 100 g1 0 t.length)),(100,g1,⟨5,1,BY t⟩)]) C:=by
 subst ha
 have key:∀ p0,(p0=J1m∨p0=.op 50 g 0 0)→p=mv (fun b=>some (fwd 1000000 [(50,3),(51,100)] b)) 2 p0→CallP (E 0) 285 [encS w,.sl 9 (qs.map J0M),.op 3 g 0 0] (hp [(1,gs,S),(3,g,bldB p (.own 100 g1 0 t.length)),(100,g1,⟨5,1,BY t⟩)]) C:=by
  intro p0 h0 hp0;refine CallP.frame 1000000 [(50,3),(51,100)] rfl c285 (JKY w hw qs hq hn p0 g g1 h0 t ht) rfl ⟨?_,J0X (fun b:UInt8=>AV.val (.int .u8 (b.toNat:Int))) _ (fun _=>rfl) ..,trivial⟩ ?_
  ·rcases h0 with rfl | rfl
   ·subst hp0;rfl
   subst hp0;rfl
  rintro r0 h' ⟨rfl,p',g',h2,rfl⟩;refine ⟨[(1,gs,S),(3,g,bldB (mv (fun b=>some (fwd 1000000 [(50,3),(51,100)] b)) 2 p') (.own 100 g' 0 (t++eqsL w qs).length)),(100,g',⟨5,1,BY (t++eqsL w qs)⟩)],⟨rfl,rfl,J0X (fun b:UInt8=>AV.val (.int .u8 (b.toNat:Int))) _ (fun _=>rfl) ..,trivial⟩,hC _ _ ?_⟩
  rcases h2 with rfl|rfl
  ·exact .inl rfl
  exact .inr rfl
 rcases hpf with rfl|rfl
 ·exact key J1m (.inl rfl) rfl
 exact key (.op 50 g 0 0) (.inr rfl) rfl
def JFT (s:Sys)(h:TextOk s):PX 191 [J0E s] (.val (.string ⟨(JD2 s).toArray⟩)):=by
 refine PZ Tryz.func191 rfl ?_;generalize hR:JD2 s=R;unfold JD2 at hR;obtain ⟨vs,qs,ns,ws⟩:=s;obtain ⟨lv,lq,ln,lw,hv,hq,hn,hw⟩:=h;simp only at lv lq ln lw hv hq hn hw hR;unfold J0E;simp only;have mv1:=@Q3 _ _ vs encV;have mw1:=@Q3 _ _ ws J0m;obtain ⟨LV,hLV⟩:∃ z,J99 vs=z:=⟨_,rfl⟩;rw[hLV] at hR;have nq:=JAK (w:=wEq) (by decide) hq;have nn:=JAK (w:=JKO) (by decide) hn;(refine kWQ ?_;repeat intro γ)
 refine LoopP.intro (fun k σ H=>∃ g p' g1 gs i,∃ t:List UInt8,k=vs.length-i∧i≤vs.length∧t.length≤i*(2^37+310)∧(p'=J1m∨p'=.op 3 g 0 0)∧t++J99 (vs.drop i)=LV ∧
   σ=fr [(1,.op 1 gs 0 0),(3,.op 3 g 0 0),(12,.sl 7 (vs.map encV)),(13,encI vs.length),(14,encI i)] ∧
   H=hp [(1,gs,⟨26,4,[.agg [.sl 7 (vs.map encV),.sl 9 (qs.map J0M),.sl 9 (ns.map J0M),.sl 6 (ws.map J0m)]]⟩),(3,g,bldB p' (.own 100 g1 0 t.length)),(100,g1,⟨5,1,BY t⟩)]) ?_ ?_
 ·exact .intro (JJX 3 γ 0 1 100 5 1 ⟨314,2,[.agg [J1m,.val (.slice none 0 0)]]⟩ [J1m,.val (.slice none 0 0)] rfl rfl rfl rfl (by decide) fun g1=>W.of ⟨_,γ,J1m,g1,_,0,[],rfl,QG _,by simp,.inl rfl,hLV,rfl,rfl⟩ ⟨rfl,rfl,rfl,rfl,rfl,trivial⟩ ⟨rfl,rfl,rfl,trivial⟩)
 rintro k σ H ⟨g,p',g1,gs,i,t,rfl,hi,ht,hpf,hT,rfl,rfl⟩
 rcases QI i vs.length with h1|h1
 ·rw[Q6 h1] at hT;have hvi:=hv _ (QF h1);have hl:=JNQ _ hvi.s hvi.k hvi.t;have hz:=JFy hvi;(refine kWO ?_;repeat intro γ)
  (simp (disch:=omega) only [LG];refine kW ?_)
  (refine kO ?_;repeat intro γ);generalize vs[i]=v at *;unfold J99 at hT;refine CallP.flat [] _ c284 hl rfl ?_;generalize lineF v=z at *;(refine kWO ?_;repeat intro γ);have hzl:z.data.toList.length=z.size:=rfl;refine J5S (b:=3) (g:=g) (d:=100) (g0:=g1) (p:=p') (l:=t) z (by kernel_rfl) rfl hpf rfl (by decide) (by omega) fun γ2=>⟨[(1,gs,_),(3,g,_),(100,γ2,_)],⟨rfl,rfl,rfl,trivial⟩,?_⟩;(refine kWO ?_;repeat intro γ)
  exact .intro <| W.of ⟨_,by omega,g,.op 3 g 0 0,γ2,gs,i+1,t++z.data.toList,rfl,h1,by rw[QQ,hzl];omega,.inr rfl,by rw[Qo];exact hT,rfl,rfl⟩ ⟨rfl,rfl,rfl,rfl,rfl,trivial⟩ ⟨rfl,rfl,rfl,trivial⟩
 rw[Q9 h1] at hT;unfold J99 at hT;rw[Q08] at hT;subst hT;clear hLV;have ht:t.length≤2^45:=by omega
 (refine kWO ?_;repeat intro γ);refine CallP.eqs hpf wEq (by decide) hq lq (by omega) (by kernel_rfl) fun p2 g2 hpf=>?_;obtain ⟨t2,hT2⟩:∃ z,t++eqsL wEq qs=z:=⟨_,rfl⟩;have ht2:t2.length≤t.length+qs.length*2^36:=by rw[← hT2,QQ];omega
 rw[hT2] at hR ⊢;(refine kWO ?_;repeat intro γ);refine CallP.eqs hpf JKO (by decide) hn ln (by omega) (by kernel_rfl) fun p3 g3 hpf=>?_;obtain ⟨t3,hT3⟩:∃ z,t2++eqsL JKO ns=z:=⟨_,rfl⟩;have ht3:t3.length≤t2.length+ns.length*2^36:=by rw[← hT3,QQ];omega
 rw[hT3] at hR ⊢;(refine kWO ?_;repeat intro γ)
 refine LoopP.intro (fun k σ H=>∃ p' g1 i,∃ t:List UInt8,k=ws.length-i∧i≤ws.length∧t.length≤2^45+i*(22*(2^35+2^32+20))∧(p'=J1m∨p'=.op 3 g 0 0)∧t++J8f (ws.drop i)=R ∧
  σ=fr [(3,.op 3 g 0 0),(32,.sl 6 (ws.map J0m)),(33,encI ws.length),(34,encI i)] ∧
  H=hp [(3,g,bldB p' (.own 100 g1 0 t.length)),(100,g1,⟨5,1,BY t⟩)]) ?_ ?_
 ·exact .intro (W.of ⟨_,p3,g3,0,t3,rfl,QG _,by omega,hpf,hR,rfl,rfl⟩ ⟨rfl,rfl,QC (fun n:Nat=>encI n) mw1,rfl,trivial⟩ ⟨rfl,rfl,trivial⟩)
 clear hT2 hT3 hR nq nn ht ht2 ht3 hpf;rintro k σ H ⟨p',g1,i,t,rfl,hi,ht,hpf,hT,rfl,rfl⟩
 rcases QI i ws.length with h1|h1
 ·rw[Q6 h1] at hT;have hwi:=hw _ (QF h1);have hs1:=J9u _ hwi.e.1 hwi.e.2.1 hwi.e.2.2.1 hwi.e.2.2.2;have hz1:=J1s hwi.e.2.1 hwi.e.2.2.1 hwi.e.2.2.2;rw[J0C] at hs1;(refine kWO ?_;repeat intro γ)
  (simp (disch:=omega) only [LG];refine kW ?_)
  (refine kO ?_;repeat intro γ);generalize ws[i]=wh at *;obtain ⟨wn,wc,ats⟩:=wh;obtain ⟨hwn,_,hal,hac⟩:=hwi;simp only at hs1 hz1 hwn hal hac;rw[J8f] at hT;simp only[JOX,b1] at hT;generalize showF wc=sl at *;have z1:({ data:=#[32] }:ByteArray).size=1:=rfl;have z2:({ data:=#[119,104,101,110,32] }:ByteArray).size=5:=rfl;have y1:=J0D { data:=#[119,104,101,110,32] } wn;have y2:=J0D ({ data:=#[119,104,101,110,32] }++wn) { data:=#[32] };have y3:=J0D ({ data:=#[119,104,101,110,32] }++wn++{ data:=#[32] }) sl;refine J1B [(8,false),(9,true)] (by kernel_rfl) ?_;(refine kWQ ?_;repeat intro γ);refine CallG.intro _ c128 hs1 ?_;(refine kWQ ?_;repeat intro γ);refine J5S (b:=3) (g:=g) (d:=100) (g0:=g1) (p:=p') (l:=t) ({ data:=#[119,104,101,110,32] }++wn++{ data:=#[32] }++sl) (by kernel_rfl) rfl hpf rfl (by decide) (by omega) fun γ2=>⟨[(3,g,_),(8,_,⟨228,6,[.agg (encS wn::(J1C wc++[.sl 6 (ats.map J7m)]))]⟩),(100,γ2,_)],⟨rfl,rfl,rfl,trivial⟩,?_⟩;obtain ⟨z,hzz⟩:∃ z,{ data:=#[119,104,101,110,32] }++wn++{ data:=#[32] }++sl=z:=⟨_,rfl⟩;rw[hzz] at hT y3 ⊢;have hzl:z.data.toList.length=z.size:=rfl;obtain ⟨X,hX⟩:∃ z,[10]++J8f (ws.drop (i+1))=z:=⟨_,rfl⟩;rw[hX,← Qo] at hT;obtain ⟨t2,ht2⟩:∃ z2,t++z.data.toList=z2:=⟨_,rfl⟩;have htl:t2.length≤2^45+i*(22*(2^35+2^32+20))+2^35+2^32+20:=by rw[← ht2,QQ,hzl];omega
  rw[ht2] at hT ⊢;clear hzz y1 y2 y3 hzl ht2 ht;have ma1:=@Q3 _ _ ats J7m;(refine kWO ?_;repeat intro γ)
  refine LoopP.intro (fun k σ H=>∃ p' g1 j,∃ t:List UInt8,k=ats.length-j∧j≤ats.length∧t.length≤2^45+i*(22*(2^35+2^32+20))+2^35+2^32+20+j*(2^35+2^32+20)∧(p'=J1m∨p'=.op 3 g 0 0)∧t++(JJT (ats.drop j)++X)=R ∧
   σ=fr [(3,.op 3 g 0 0),(32,.sl 6 (ws.map J0m)),(33,encI ws.length),(34,encI i),(48,.sl 6 (ats.map J7m)),(49,encI ats.length),(50,encI j)] ∧
   H=hp [(3,g,bldB p' (.own 100 g1 0 t.length)),(100,g1,⟨5,1,BY t⟩)]) ?_ ?_
  ·exact .intro (W.of ⟨_,.op 3 g 0 0,γ2,0,t2,rfl,QG _,by omega,.inr rfl,hT,rfl,rfl⟩ ⟨rfl,rfl,rfl,rfl,rfl,QC (fun n:Nat=>encI n) ma1,rfl,trivial⟩ ⟨rfl,rfl,trivial⟩)
  clear hT htl hs1 hz1 hpf;rintro k σ H ⟨p',g1,j,t,rfl,hj,ht,hpf,hT,rfl,rfl⟩
  rcases QI j ats.length with h2|h2
  ·rw[Q6 h2] at hT;have hai:=hac _ (QF h2);have hs1:=J9u _ hai.e.1 hai.e.2.1 hai.e.2.2.1 hai.e.2.2.2;have hz1:=J1s hai.e.2.1 hai.e.2.2.1 hai.e.2.2.2;rw[J0C] at hs1;(refine kWO ?_;repeat intro γ)
   (simp (disch:=omega) only [LG];refine kW ?_)
   (refine kO ?_;repeat intro γ);generalize ats[j]=ac at *;obtain ⟨ak,av,ae⟩:=ac;obtain ⟨hk,hvs,_⟩:=hai;simp only at hs1 hz1 hk hvs;rw[JJT] at hT;simp only[actB,b1] at hT;generalize showF ae=sl at *
   have gk:(wAct.map encS).getD ak.toNat .dead=encS (wAct.getD ak.toNat ⟨#[]⟩):=by
    have:ak.toNat<wAct.length:=by show _<2;omega
    rw[Q4,Ql,Q4,Q8 this];rfl
   have kw:(wAct.getD ak.toNat ⟨#[]⟩).size≤6:=by
    have:ak.toNat=0∨ak.toNat=1:=by omega
    rcases this with h|h<;>rw[h]<;>decide
   have lk:(wAct.map encS).length=2:=rfl;have hAW:=JOB;generalize wAct.map encS=ks at *;generalize wAct.getD ak.toNat ⟨#[]⟩=wa at *;have y1:=J0D { data:=#[32] } wa;have y2:=J0D ({ data:=#[32] }++wa) { data:=#[32] };have y3:=J0D ({ data:=#[32] }++wa++{ data:=#[32] }) av;have y4:=J0D ({ data:=#[32] }++wa++{ data:=#[32] }++av) { data:=#[32] };have y5:=J0D ({ data:=#[32] }++wa++{ data:=#[32] }++av++{ data:=#[32] }) sl;refine J1B [(15,false),(16,true)] (by kernel_rfl) ?_;(refine kWQ ?_;repeat intro γ);refine CallG.intro _ c286 hAW ?_;(refine kWQ ?_;repeat intro γ);rw[gk];(refine kWQ ?_;repeat intro γ);refine CallG.intro _ c128 hs1 ?_;(refine kWQ ?_;repeat intro γ);refine J5S (b:=3) (g:=g) (d:=100) (g0:=g1) (p:=p') (l:=t) ({ data:=#[32] }++wa++{ data:=#[32] }++av++{ data:=#[32] }++sl) (by kernel_rfl) rfl hpf rfl (by decide) (by omega) fun γ2=>⟨[(3,g,_),(100,γ2,_)],⟨rfl,rfl,trivial⟩,?_⟩;obtain ⟨z,hzz⟩:∃ z,{ data:=#[32] }++wa++{ data:=#[32] }++av++{ data:=#[32] }++sl=z:=⟨_,rfl⟩;rw[hzz] at hT y5 ⊢;have hzl:z.data.toList.length=z.size:=rfl;(refine kWO ?_;repeat intro γ)
   refine .intro <| W.of ⟨_,by omega,.op 3 g 0 0,γ2,j+1,t++z.data.toList,rfl,h2,by rw[QQ,hzl];omega,.inr rfl,by rw[Qo,← Qo z.data.toList];exact hT,rfl,rfl⟩ ⟨rfl,rfl,rfl,rfl,rfl,rfl,rfl,trivial⟩ ⟨rfl,rfl,trivial⟩
  rw[Q9 h2] at hT;rw[JJT,Q07,← hX,← Qo] at hT;(refine kWO ?_;repeat intro γ);refine J5S (b:=3) (g:=g) (d:=100) (g0:=g1) (p:=p') (l:=t) { data:=#[10] } (by kernel_rfl) rfl hpf rfl (by decide) (by show _+1≤_;omega) fun γ2=>⟨[(3,g,_),(100,γ2,_)],⟨rfl,rfl,trivial⟩,?_⟩;(refine kWO ?_;repeat intro γ)
  refine .intro <| W.of ⟨_,by omega,.op 3 g 0 0,γ2,i+1,t++[10],rfl,h1,by rw[QQ];show _+1≤_;omega,.inr rfl,hT,rfl,rfl⟩ ⟨rfl,rfl,rfl,rfl,trivial⟩ ⟨rfl,rfl,trivial⟩
 rw[Q9 h1] at hT;rw[J8f,Q08] at hT;subst hT;refine kWO ?_;intros;refine CallP.own c287 (HCall.mono (JGX (b:=3) (g:=g) (d:=100) (g0:=g1) (p:=p') (l:=t) rfl (by rcases hpf with rfl|rfl<;>rfl) rfl) ?_);rintro r h' ⟨rfl,rfl⟩;refine ⟨hp [],fun _=>.inr rfl,?_⟩;refine kWO ?_;intros;exact .of rfl
def JKq {l:List (ByteArray×Va)}{k:ByteArray}{v:Va}:∀ {x},x∈putK l k v→x∈l∨x=(k,v):=by
 induction l with
 |nil=>intro x h;right;simpa [putK] using h
 |cons y r ih=>
   intro x h;unfold putK at h;split at h
   ·rename_i e
    rcases QO.1 h with rfl|h
    ·right;rw[e]
    left;simp[h]
   rcases QO.1 h with rfl|h
   ·left;simp
   rcases ih h with h|h
   ·left;simp[h]
   exact .inr h
def JI7 {vs:List Va}{x:ByteArray×Va}(h:x∈knownF vs):x.1=x.2.name∧x.2∈vs:=by
 have key:∀ (us:List Va) (l:List (ByteArray×Va)) (S:List Va),(∀ y∈l,y.1=y.2.name∧y.2∈S)→(∀ u∈us,u∈S)→∀ y∈us.foldl (fun l v=>putK l v.name v) l,y.1=y.2.name∧y.2∈S:=by
  intro us
  induction us with
  |nil=>intro l S h1 _;exact h1
  |cons u r ih=>
    intro l S h1 h2;rw[Q2g];refine ih _ _ (fun y hy=>?_) fun z hz=>h2 z (by simp[hz])
    rcases JKq hy with h|rfl
    ·exact h1 y h
    exact ⟨rfl,h2 u (by simp)⟩
 exact key vs [] vs (by simp) (fun _ h=>h) x h
theorem J4k:∀ {l:List Ex} {n:Int},J4l l n=false→∀ e∈l,tooF e=false
 |[],_,_,e,h=>by simp at h
 |x::r,n,h,e,he=>by
   unfold J4l at h;simp only[Q04] at h
   rcases QO.1 he with rfl|he
   ·exact h.1
   exact J4k h.2 e he
theorem JAi {ks:List (ByteArray×Va)}:∀ {l:List Ac} {S A:List ByteArray},(J4K ks l S A).1=true→∀ a∈l,(0≤a.kind∧a.kind≤1)∧(∃ v,J11 ks a.var=some v)∧builtF a.value=true
 |[],_,_,_,a,h=>by simp at h
 |x :: r,S,A,h,a,ha=>by
   unfold J4K at h
   by_cases hb:badA ks x (if x.kind=0 then A else S)=true
   ·rw[if_pos hb] at h;cases h
   rw[if_neg hb] at h
   rcases QO.1 ha with rfl|ha
   ·unfold badA at hb
    revert hb
    cases hv:J11 ks a.var with
    |none=>intro hb;exact absurd rfl hb
    |some v=>
      intro hb;simp only[Q09,not_or,Q5,Qw,Qe,Qa,typedF] at hb;obtain ⟨⟨⟨h1,_⟩,_⟩,h4⟩:=hb;refine ⟨by omega,⟨v,rfl⟩,?_⟩;have h5:=(Q2y _).mp h4;simp only[Q5] at h5;exact h5.1.1
   by_cases h0:x.kind=0
   ·rw[if_pos h0] at h;exact JAi h a ha
   rw[if_neg h0] at h;exact JAi h a ha
theorem J6n {ks:List (ByteArray×Va)}:∀ {l:List Whn} {A:List ByteArray},J4N ks l A=true→∀ w∈l,builtF w.cond=true∧∀ a∈w.acts,(0≤a.kind∧a.kind≤1)∧(∃ v,J11 ks a.var=some v)∧builtF a.value=true
 |[],_,_,w,h=>by simp at h
 |x :: r,A,h,w,hw=>by
   unfold J4N at h;simp only[Q5,typedF] at h
   rcases QO.1 hw with rfl|hw
   ·refine ⟨h.1.1.1.1,?_⟩;have:=h.1.2;unfold JAj at this;simp only[Q5] at this;exact JAi this.1
   exact J6n h.2 w hw
def J9T {s:Sys}(hs:SzS s)(hc:checkF s=0):TextOk s:=by
 unfold checkF at hc
 have hL:largeF s=false:=by
  cases h:largeF s
  ·rfl
  rw[h] at hc;simp at hc
 rw[hL] at hc
 have hV:validF s=true:=by
  cases h:validF s
  ·rw[h] at hc;simp at hc
  rfl
 unfold largeF at hL;simp only[Q04,Qe] at hL;obtain ⟨⟨⟨l1,l2⟩,l3⟩,l4⟩:=hL;have ht:=J4k l4;unfold validF at hV;simp only[Q5,Qw] at hV;obtain ⟨⟨⟨_,hv⟩,hq,hn⟩,hw⟩:=hV;have ex:∀ e∈allF s,builtF e=true→ExOk e:=fun e he hb=>⟨(hs.e e he).1,(hs.e e he).2,hb,Qg (J5c (ht e he)) (by decide)⟩
 have eqk:∀ (l:List Eqn),(∀ e∈J1R l,e∈allF s)→(∀ q∈l,q.name.size<2^35)→l.all (eqT (knownF s.vars))=true→∀ q∈l,QnOk q:=by
  intro l h1 h2 h3 q hq;have:=QL.1 h3 q hq;unfold eqT typedF at this;simp only[Q5] at this;exact ⟨h2 q hq,ex _ (h1 _ (J19 hq).1) this.1.1.1,ex _ (h1 _ (J19 hq).2) this.2.1.1⟩
 refine ⟨by omega,by omega,by omega,by omega,fun v hvm=>?_,eqk _ (fun e he=>by simp[allF,he]) hs.m.1 hq,eqk _ (fun e he=>by simp[allF,he]) hs.m.2.1 hn,fun w hwm=>?_⟩
 ·have:=Q0q.1 hv v hvm;simp only[Bool.not_eq_true,Q1w] at this;unfold varF at this;simp only[Q5] at this;have hk:=this.1.1.1.1;unfold J7W at hk;simp only[Qw,Q04,Q21,Qe,Q1w,Qa] at hk;exact ⟨hs.t v hvm,by omega,by omega⟩
 have hwk:=J6n hw w hwm;have hm:=J4n hwm;have hl:=Q0q.1 l3 w hwm;refine ⟨hs.m.2.2 w hwm,ex _ (by simp[allF,hm.1]) hwk.1,by simpa using hl,fun a ha=>?_⟩;obtain ⟨h1,⟨v,h2⟩,h3⟩:=hwk.2 a ha;have:=JI7 (J8B h2);refine ⟨h1,?_,ex _ (by simp[allF,hm.2 a ha]) h3⟩;rw[show a.var=v.name from this.1];exact (hs.t v this.2).1
def JBC (s:Sys):ByteArray×Int:=if checkF s≠0 then (⟨#[]⟩,checkF s) else if 8000<(JD2 s).length then (⟨#[]⟩,2) else (⟨(JD2 s).toArray⟩,0)
def JOF (s:Sys)(hs:SzS s):PX 103 [J0E s] (.tup [encS (JBC s).1,encI (JBC s).2]):=by
 refine PZ Tryz.func103 rfl ?_;have hC:=J5R s hs;generalize hF:JBC s=F;unfold JBC at hF;have ht:=fun h=>JFT s (J9T hs h);generalize checkF s=ck at *;obtain ⟨vs,qs,ns,ws⟩:=s;unfold J0E at *;refine kWQ ?_;intros;refine CallP.flat [] _ c89 hC rfl ?_;refine kWQ ?_;intros;refine CondP.dec (fun h0=>?_) (fun h0=>?_)<;>refine kW ?_
 ·have ht:=ht h0;rw[if_neg (by omega)] at hF;generalize hT:JD2 _=t at *;refine kQ ?_;intros;refine CallP.flat [] _ c191 ht rfl ?_;refine kWQ ?_;intros;have hz:(({ data:=t.toArray }:ByteArray).size:Int)=(t.length:Int):=rfl;rw[hz];refine CondP.dec (fun h1=>?_) (fun h1=>?_)<;>refine kW ?_
  ·refine kQ ?_;intros;refine .of ?_;rw[if_pos (by omega)] at hF;rw[← hF];rfl
  refine kQ ?_;intros;refine .of ?_;rw[if_neg (by omega)] at hF;rw[← hF];rfl
 rw[if_pos h0] at hF;refine kQ ?_;intros;refine .of ?_;rw[← hF];rfl
end Go.Proofs.YtlblbldolhiokaaGreatDoor
