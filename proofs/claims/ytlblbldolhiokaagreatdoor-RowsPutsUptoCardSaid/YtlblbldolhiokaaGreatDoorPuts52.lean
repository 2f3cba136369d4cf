/- Part 52 of the proof. -/
import Derived.Test.YtlblbldolhiokaaGreatDoorPuts51
import Derived.Test.YtlblbldolhiokaaGreatDoorPuts46
import Derived.Shelf.Strings.Builder1
import Derived.Shelf.Strings.Builder2
import Derived.Shelf.Strings.OnBuilder
import Derived.Shelf.Strings.Repeat
import Derived.Test.YtlblbldolhiokaaGreatDoorProg
import Derived.Test.YtlblbldolhiokaaGreatDoorPuts45
import Derived.Test.YtlblbldolhiokaaGreatDoorPuts49
import Derived.KernelRfl
import Derived.Test.YtlblbldolhiokaaGreatDoorPuts50
import Derived.Test.YtlblbldolhiokaaGreatDoorPuts48
import Derived.Test.YtlblbldolhiokaaGreatDoorRows
import Derived.Test.YtlblbldolhiokaaGreatDoorCards
import Derived.Test.YtlblbldolhiokaaGreatDoorTie
import Derived.ProofKit
import Derived.OpenShut
import Derived.Deep.DeepHandedRow
set_option linter.unusedVariables false
set_option linter.unusedSimpArgs false
set_option linter.unusedSectionVars false
set_option maxRecDepth 100000
set_option exponentiation.threshold 400
set_option maxHeartbeats 8000000
namespace Go.Proofs.YtlblbldolhiokaaGreatDoor
open Go Go.Fw
theorem J45:∀ es:List Ex,es.length≤wtL es
 | []=>Nat.zero_le _
 | e::es=>by
   unfold wtL;have:=J45 es;have:=J4X e;simp only[List.length_cons];omega
theorem JGl {S:List Nat} {H:Hp} {n b g k e m:Nat} {y:AV} (hS:b∈S) (hb:H b=some (g,⟨e,m,[y]⟩)):J09 S H (n+1) (.op b g 0 k)=.ep (J0R (J09 S H n) y) k:=by
 simp only[J09,if_pos hS,hb,true_and];rfl
structure Bd where
 use:U
 value:ByteArray
structure EnvA where
 time:ByteArray
 init:Bool
 binds:List Bd
def JJa (b:Bd):AV:=.agg [.val (.string b.use.name),.val (.int .i64 b.use.order),.val (.bool b.use.pre),encS b.value]
def J3g (e:EnvA):AV:=.agg [encS e.time,encB e.init,.sl 4 (e.binds.map JJa)]
def valV (s:ByteArray):Option Vl:=if s=sTrue∨s=sFalse then some (.tr (decide (s=sTrue))) else if (J0C s.data.toList).2 then some (.num (numV s)) else none
theorem JEV {s:ByteArray} {v:Vl} (h:valV s=some v):resV s=.tup [J2Y v,encB true]:=by
 unfold valV at h;unfold resV;split at h
 ·rename_i h1;cases h;rw[if_pos h1];rfl
 ·rename_i h1;rw[if_neg h1];split at h
  ·rename_i h2;cases h;rw[h2,← (JEh h2).1];rfl
  ·cases h
theorem JEW {s:ByteArray} (h:valV s=none):∃ q,(q=nilQ∨∃ n d,q=encQ n d)∧resV s=.tup [J4k q false false,encB false]:=by
 unfold valV at h;unfold resV;split at h
 ·cases h
 ·rename_i h1;rw[if_neg h1];split at h
  ·cases h
  ·rename_i h2;exact ⟨_,J1k _,by rw[Bool.eq_false_iff.2 h2]⟩
def putV {β:Type} (l:List (U×β)) (k:U) (v:β):List (U×β):=match l with
 | []=>[(k,v)]
 | x::r=>if k=x.1 then (x.1,v)::r else x::putV r k v
theorem J5V {β:Type} (f:β→AV) (k:U) (v:β):∀ l:List (U×β),∃ r,J18 (J0v T 54 (encU k)) (l.map fun x=>encU x.1)=some r∧(match r with
  | some i=>(l.map fun x=>encU x.1)=((putV l k v).map fun x=>encU x.1)∧(l.map fun x=>f x.2).set i (f v)=(putV l k v).map fun x=>f x.2
  | none=>(l.map fun x=>encU x.1)++[encU k]=((putV l k v).map fun x=>encU x.1)∧(l.map fun x=>f x.2)++[f v]=(putV l k v).map fun x=>f x.2)
 | []=>⟨none,rfl,rfl,rfl⟩
 | x :: l=>by
   obtain ⟨r,h1,h2⟩:=J5V f k v l;rw[List.map_cons,List.map_cons];unfold J18 putV;rw[JEv]
   by_cases h:k=x.1
   ·rw[decide_eq_true h,if_pos h];exact ⟨some 0,rfl,rfl,rfl⟩
   ·rw[decide_eq_false h,if_neg h,h1];refine ⟨r.map (· + 1),rfl,?_⟩
    revert h2
    cases r with
    | none=>
      rintro ⟨h2,h3⟩;exact ⟨by rw[List.map_cons,← h2];rfl,by rw[List.map_cons,← h3];rfl⟩
    | some i=>
      rintro ⟨h2,h3⟩;exact ⟨by rw[List.map_cons,← h2],by rw[List.map_cons,← h3];rfl⟩
def J3G:Option U→U→Bool
 | none,_=>false
 | some q,u=>decide (0≤J7x q u)
def J5X:Option U→List Bd→List (U×Vl)→Option (List (U×Vl))
 | _,[],l=>some l
 | p,b::r,l=>match valV b.value with
   | none=>none
   | some v=>if !fitF b.use||J3G p b.use then none else J5X (some b.use) r (putV l b.use v)
def openF (e:EnvA):Option Ev:=if (J0C e.time.data.toList).2 then (J5X none e.binds []).map fun l=>⟨numV e.time,e.init,l⟩ else none
def JGx (bs:List Bd) (i:Nat):Option U:=match i with
 | 0=>none
 | i+1=>bs[i]?.map Bd.use
def JJW:Option Ev→AV
 | some ev=>.tup [JFM ev,encB true]
 | none=>.tup [.val (.pointer none),encB false]
def hpO1 (g1 g2 gm:Nat) (e:EnvA) (t:Rat) (l:List (U×Vl)):List (Nat×Nat×Blk):=
 [(1,g1,⟨33,3,[J3g e]⟩),(15,g2,⟨269,6,[.agg [encB (decide (t.num<0)),encW t.num.natAbs,encB (decide ((t.den:Int)<0)),encW (t.den:Int).natAbs,encB e.init,.om 13 gm]]⟩),(13,gm,⟨267,0,[.mp (l.map fun x=>encU x.1) (l.map fun x=>J2Y x.2)]⟩)]
theorem J5q {u:U} (h:fitF u=true):0≤u.order∧u.order≤6:=by
 unfold fitF at h;simp only[Bool.and_eq_true,decide_eq_true_eq] at h;exact h.1.2
theorem JGm {S:List Nat} {H:Hp} {n b g e m:Nat} {ks vs:List AV} (hS:b∈S) (hb:H b=some (g,⟨e,m,[.mp ks vs]⟩)):J09 S H (n+1) (.om b g)=.mp ks vs:=by
 simp only[J09,if_pos hS,hb,if_true]
structure SzB (e:EnvA):Prop where
 t:e.time.size<2^35
 l:e.binds.length≤2^30
 b:∀ b∈e.binds,b.use.name.size<2^35∧b.value.size<2^35
theorem JJz (e:EnvA) (hz:SzB e):PureCall Tryz.prog 141 [J3g e] (JJW (openF e)):=by
 refine PC [15,13] Tryz.func141 rfl (by rfl) rfl ?_;obtain ⟨tm,ini,bs⟩:=e;obtain ⟨hzt,hzl,hzb⟩:=hz;simp only at hzt hzl hzb;generalize hF:openF ⟨tm,ini,bs⟩=F;unfold openF at hF;have hpq:=J2g tm.data.toList hzt;rw[J1G,JEX] at hpq;simp only at hF
 cases hok:(J0C tm.data.toList).2 with
 | false=>
   rw[hok] at hF hpq;have hq2:=J1k (J0C tm.data.toList).1;generalize qAV (J0C tm.data.toList).1=q at *;unfold J3g
   rcases hq2 with rfl | ⟨n,d,rfl⟩
   all_goals
    refine kWS ?_;intros;refine J00 [] _ c134 hpq ?_;refine kWS ?_;intros;exact .of (by rw[← hF];rfl)
 | true=>
   rw[← (JEh hok).1,hok] at hpq;rw[hok] at hF;generalize numV tm=t at *;replace hF:(J5X none bs []).map (fun l=>(⟨t,ini,l⟩:Ev))=F:=hF;unfold encF encQ at hpq;unfold J3g;refine kWS ?_;intros;refine J00 [] _ c134 hpq ?_;refine kWS ?_;intros
   refine LoopP.intro (fun j σ H=>∃ g1 g2 gm i,∃ l:List (U×Vl),j=bs.length-i∧i≤bs.length∧(∀ k (h:k<bs.length),k<i→fitF bs[k].use=true)∧(J5X (JGx bs i) (bs.drop i) l).map (fun l=>(⟨t,ini,l⟩:Ev))=F ∧
    σ=fr [(1,.op 1 g1 0 0),(4,.op 15 g2 0 0),(29,.sl 4 (bs.map JJa)),(30,encI bs.length),(31,encI i)]∧H=hp (hpO1 g1 g2 gm ⟨tm,ini,bs⟩ t l)) ?_ ?_
   ·exact .intro <| W.of ⟨_,_,_,_,0,[],rfl,Nat.zero_le _,fun k _ h=>absurd h (by omega),hF,rfl,rfl⟩ ⟨rfl,rfl,rfl,(by rw[List.length_map];rfl),rfl,trivial⟩ ⟨rfl,rfl,rfl,trivial⟩
   ·clear hF;rintro j σ H ⟨g1,g2,gm,i,l,rfl,hi,hfit,hF,rfl,rfl⟩;unfold hpO1;simp only
    rcases Nat.lt_or_ge i bs.length with h9 | h9
    ·rw[List.drop_eq_getElem_cons h9] at hF;have hb:=hzb _ (List.getElem_mem h9)
     have hprev:JGx bs (i+1)=some bs[i].use:=by
      show bs[i]?.map Bd.use=some _
      rw[List.getElem?_eq_getElem h9];rfl
     have hfx:∀ k (h:k<bs.length),k<i+1→fitF bs[i].use=true→fitF bs[k].use=true:=by
      intro k h hk hc
      rcases Nat.lt_or_ge k i with h | h
      ·exact hfit k _ h
      ·obtain rfl:k=i:=by omega
       exact hc
     obtain ⟨b,hbb⟩:∃ b,bs[i]=b:=⟨_,rfl⟩;rw[hbb] at hF hb hprev hfx;have hV:=JA4 b.value hb.2;have hFit:=JGM b.use hb.1;unfold J5X at hF
     cases hv:valV b.value with
     | none=>
       rw[hv] at hF;obtain ⟨q,hq,he⟩:=JEW hv;rw[he] at hV
       rcases hq with rfl | ⟨n,d,rfl⟩
       all_goals
        refine kWQ ?_;intros;simp only[hbb];refine kQ ?_;intros;refine J00 [] _ c112 hV ?_;refine kWQ ?_;intros;exact .of (by rw[← hF];rfl)
     | some v=>
       rw[hv] at hF;rw[JEV hv] at hV;replace hF:(if !fitF b.use||J3G (JGx bs i) b.use then none else J5X (some b.use) (bs.drop (i+1)) (putV l b.use v)).map (fun l=>(⟨t,ini,l⟩:Ev))=F:=hF;have hb64:bs.length<2^62:=by omega
       rcases i with _ | i
       ·rcases v with q | x
        ·unfold J2Y J4k encF encQ at hV;refine kWQ ?_;intros;simp only[hbb];refine kQ ?_;intros;refine J00 [] _ c112 hV ?_;refine kWQ ?_;intros;refine CallG.intro _ c81 hFit ?_
         cases hf:fitF b.use with
         | false=>
           rw[hf] at hF;refine kWQ ?_;intros;exact .of (by rw[← hF];rfl)
         | true=>
           rw[hf] at hF;replace hF:(J5X (some b.use) (bs.drop (0+1)) (putV l b.use (.num q))).map (fun l=>(⟨t,ini,l⟩:Ev))=F:=hF;refine kWO ?_;intros;refine J1E [(7,false),(8,true)] (by kernel_rfl) ?_;refine kWQ ?_;intros;refine Need.intro keyst54 ?_;refine kWQ ?_;intros;obtain ⟨r,hr,hm⟩:=J5V J2Y b.use (.num q) l;refine LookP.intro r hr ?_
           cases r with
           | some j=>
             refine kWQ ?_;intros
             refine .intro <| W.of ⟨_,by omega,g1,g2,gm,0+1,putV l b.use (.num q),rfl,h9,fun k h hk=>hfx k h hk hf,(by rw[hprev];exact hF),rfl,rfl⟩ ⟨rfl,rfl,rfl,rfl,rfl,trivial⟩ ⟨rfl,rfl,?_,trivial⟩
             exact congrArg (fun z=>some (gm,(⟨267,0,[z]⟩:Blk))) (congr (congrArg AV.mp hm.1) hm.2)
           | none=>
             refine kWQ ?_;intros
             refine .intro <| W.of ⟨_,by omega,g1,g2,gm,0+1,putV l b.use (.num q),rfl,h9,fun k h hk=>hfx k h hk hf,(by rw[hprev];exact hF),rfl,rfl⟩ ⟨rfl,rfl,rfl,rfl,rfl,trivial⟩ ⟨rfl,rfl,?_,trivial⟩
             exact congrArg (fun z=>some (gm,(⟨267,0,[z]⟩:Blk))) (congr (congrArg AV.mp hm.1) hm.2)
        ·unfold J2Y J4k at hV;refine kWQ ?_;intros;simp only[hbb];refine kQ ?_;intros;refine J00 [] _ c112 hV ?_;refine kWQ ?_;intros;refine CallG.intro _ c81 hFit ?_
         cases hf:fitF b.use with
         | false=>
           rw[hf] at hF;refine kWQ ?_;intros;exact .of (by rw[← hF];rfl)
         | true=>
           rw[hf] at hF;replace hF:(J5X (some b.use) (bs.drop (0+1)) (putV l b.use (.tr x))).map (fun l=>(⟨t,ini,l⟩:Ev))=F:=hF;refine kWO ?_;intros;refine J1E [(7,false),(8,true)] (by kernel_rfl) ?_;refine kWQ ?_;intros;refine Need.intro keyst54 ?_;refine kWQ ?_;intros;obtain ⟨r,hr,hm⟩:=J5V J2Y b.use (.tr x) l;refine LookP.intro r hr ?_
           cases r with
           | some j=>
             refine kWQ ?_;intros
             refine .intro <| W.of ⟨_,by omega,g1,g2,gm,0+1,putV l b.use (.tr x),rfl,h9,fun k h hk=>hfx k h hk hf,(by rw[hprev];exact hF),rfl,rfl⟩ ⟨rfl,rfl,rfl,rfl,rfl,trivial⟩ ⟨rfl,rfl,?_,trivial⟩
             exact congrArg (fun z=>some (gm,(⟨267,0,[z]⟩:Blk))) (congr (congrArg AV.mp hm.1) hm.2)
           | none=>
             refine kWQ ?_;intros
             refine .intro <| W.of ⟨_,by omega,g1,g2,gm,0+1,putV l b.use (.tr x),rfl,h9,fun k h hk=>hfx k h hk hf,(by rw[hprev];exact hF),rfl,rfl⟩ ⟨rfl,rfl,rfl,rfl,rfl,trivial⟩ ⟨rfl,rfl,?_,trivial⟩
             exact congrArg (fun z=>some (gm,(⟨267,0,[z]⟩:Blk))) (congr (congrArg AV.mp hm.1) hm.2)
       ·have h8 : i<bs.length:=by omega
        have hpv:JGx bs (i+1)=some bs[i].use:=by
         show bs[i]?.map Bd.use=some _
         rw[List.getElem?_eq_getElem h8];rfl
        have hfp:=J5q (hfit i h8 (by omega));rw[hpv] at hF;have hix:(((i+1:Nat):Int)-1).toNat=i:=by omega
        obtain ⟨pb,hpb⟩:∃ pb,bs[i]=pb:=⟨_,rfl⟩;rw[hpb] at hF hpv hfp;have hL:=JGG pb.use b.use hfp
        rcases v with q | x
        ·unfold J2Y J4k encF encQ at hV;refine kWQ ?_;intros;simp only[hbb];refine kQ ?_;intros;refine J00 [] _ c112 hV ?_;refine kWQ ?_;intros;refine CallG.intro _ c81 hFit ?_
         cases hf:fitF b.use with
         | false=>
           rw[hf] at hF;refine kWQ ?_;intros;exact .of (by rw[← hF];rfl)
         | true=>
           rw[hf] at hF;have hL:=hL (J5q hf);refine kWQ ?_;intros;simp only[hix,hpb];refine CallG.intro _ c116 hL ?_
           cases hge:J3G (some pb.use) b.use with
           | true=>
             rw[hge] at hF;have hle:0≤J7x pb.use b.use:=of_decide_eq_true hge;refine kWQ ?_;intros;exact .of (by rw[← hF];rfl)
           | false=>
             rw[hge] at hF;have hle:¬ 0≤J7x pb.use b.use:=of_decide_eq_false hge;replace hF:(J5X (some b.use) (bs.drop (i+1+1)) (putV l b.use (.num q))).map (fun l=>(⟨t,ini,l⟩:Ev))=F:=hF;refine kWO ?_;intros;refine J1E [(7,false),(8,true)] (by kernel_rfl) ?_;refine kWQ ?_;intros;refine Need.intro keyst54 ?_;refine kWQ ?_;intros;obtain ⟨r,hr,hm⟩:=J5V J2Y b.use (.num q) l;refine LookP.intro r hr ?_
             cases r with
             | some j=>
               refine kWQ ?_;intros
               refine .intro <| W.of ⟨_,by omega,g1,g2,gm,i+1+1,putV l b.use (.num q),rfl,h9,fun k h hk=>hfx k h hk hf,(by rw[hprev];exact hF),rfl,rfl⟩ ⟨rfl,rfl,rfl,rfl,rfl,trivial⟩ ⟨rfl,rfl,?_,trivial⟩
               exact congrArg (fun z=>some (gm,(⟨267,0,[z]⟩:Blk))) (congr (congrArg AV.mp hm.1) hm.2)
             | none=>
               refine kWQ ?_;intros
               refine .intro <| W.of ⟨_,by omega,g1,g2,gm,i+1+1,putV l b.use (.num q),rfl,h9,fun k h hk=>hfx k h hk hf,(by rw[hprev];exact hF),rfl,rfl⟩ ⟨rfl,rfl,rfl,rfl,rfl,trivial⟩ ⟨rfl,rfl,?_,trivial⟩
               exact congrArg (fun z=>some (gm,(⟨267,0,[z]⟩:Blk))) (congr (congrArg AV.mp hm.1) hm.2)
        ·unfold J2Y J4k at hV;refine kWQ ?_;intros;simp only[hbb];refine kQ ?_;intros;refine J00 [] _ c112 hV ?_;refine kWQ ?_;intros;refine CallG.intro _ c81 hFit ?_
         cases hf:fitF b.use with
         | false=>
           rw[hf] at hF;refine kWQ ?_;intros;exact .of (by rw[← hF];rfl)
         | true=>
           rw[hf] at hF;have hL:=hL (J5q hf);refine kWQ ?_;intros;simp only[hix,hpb];refine CallG.intro _ c116 hL ?_
           cases hge:J3G (some pb.use) b.use with
           | true=>
             rw[hge] at hF;have hle:0≤J7x pb.use b.use:=of_decide_eq_true hge;refine kWQ ?_;intros;exact .of (by rw[← hF];rfl)
           | false=>
             rw[hge] at hF;have hle:¬ 0≤J7x pb.use b.use:=of_decide_eq_false hge;replace hF:(J5X (some b.use) (bs.drop (i+1+1)) (putV l b.use (.tr x))).map (fun l=>(⟨t,ini,l⟩:Ev))=F:=hF;refine kWO ?_;intros;refine J1E [(7,false),(8,true)] (by kernel_rfl) ?_;refine kWQ ?_;intros;refine Need.intro keyst54 ?_;refine kWQ ?_;intros;obtain ⟨r,hr,hm⟩:=J5V J2Y b.use (.tr x) l;refine LookP.intro r hr ?_
             cases r with
             | some j=>
               refine kWQ ?_;intros
               refine .intro <| W.of ⟨_,by omega,g1,g2,gm,i+1+1,putV l b.use (.tr x),rfl,h9,fun k h hk=>hfx k h hk hf,(by rw[hprev];exact hF),rfl,rfl⟩ ⟨rfl,rfl,rfl,rfl,rfl,trivial⟩ ⟨rfl,rfl,?_,trivial⟩
               exact congrArg (fun z=>some (gm,(⟨267,0,[z]⟩:Blk))) (congr (congrArg AV.mp hm.1) hm.2)
             | none=>
               refine kWQ ?_;intros
               refine .intro <| W.of ⟨_,by omega,g1,g2,gm,i+1+1,putV l b.use (.tr x),rfl,h9,fun k h hk=>hfx k h hk hf,(by rw[hprev];exact hF),rfl,rfl⟩ ⟨rfl,rfl,rfl,rfl,rfl,trivial⟩ ⟨rfl,rfl,?_,trivial⟩
               exact congrArg (fun z=>some (gm,(⟨267,0,[z]⟩:Blk))) (congr (congrArg AV.mp hm.1) hm.2)
    ·obtain rfl:i=bs.length:=by omega
     rw[List.drop_length] at hF;replace hF:some (⟨t,ini,l⟩:Ev)=F:=by rw[← hF];unfold J5X;rfl
     refine kWQ ?_;intros;refine .of ?_;rw[← hF];refine (congrArg (fun z=>AV.tup [z,encB true]) ((JGl (by simp) rfl).trans ?_));show AV.ep (.agg [_,_,_,_,_,J09 [15,13] _ 2 (.om 13 gm)]) 0=_
     rw[JGm (by simp) rfl];rfl
def JH1 (e:EnvA):Except Int Ev:=if 1000<e.binds.length then .error 2 else match openF e with
 | none=>.error 1
 | some ev=>.ok ev
def JKj:Except Int Ev→AV
 | .ok ev=>.tup [JFM ev,encI 0]
 | .error c=>.tup [.val (.pointer none),encI c]
theorem JHx (e:EnvA) (hz:SzB e):PureCall Tryz.prog 67 [J3g e] (JKj (JH1 e)):=by
 refine PC [] Tryz.func67 rfl (by rfl) rfl ?_;have ho:=JJz e hz;have hl:=hz.l;generalize hF:JH1 e=F;unfold JH1 at hF;generalize openF e=oe at *;unfold J3g at *;have hml:=@List.length_map _ _ e.binds JJa;refine kWQ ?_;intros;refine CondP.dec (fun h1=>?_) (fun h1=>?_)<;>refine kW ?_
 ·rw[if_pos (by first | omega | (rw[List.length_map] at h1;omega))] at hF;refine kQ ?_;intros;exact .of (by rw[← hF];rfl)
 ·rw[if_neg (by first | omega | (rw[List.length_map] at h1;omega))] at hF;refine kQ ?_;intros;refine J00 [] _ c141 ho ?_
  cases oe with
  | none=>
    refine kWQ ?_;intros;exact .of (by rw[← hF];rfl)
  | some ev=>
    refine kWQ ?_;intros;exact .of (by rw[← hF];rfl)
def typeS (s:Sys) (x:Ex):Int×Int:=if checkF s≠0 then (0,checkF s) else if tooF x then (0,2) else if !builtF x then (0,1) else if (typeF (knownF s.vars) x).2 then ((typeF (knownF s.vars) x).1,0) else (0,1)
theorem J8T (s:Sys) (x:Ex) (hs:SzS s) (hz:SzE x) (hx:TxE x):PureCall Tryz.prog 48 [J0G s,encE x] (.tup [encI (typeS s x).1,encI (typeS s x).2]):=by
 refine PC [] Tryz.func48 rfl (by rfl) rfl ?_;have hc:=JI3 s hs;have ht:=J29 x hz;have hb:=JCN x hz hx;have hk:=JBp s hs.v;have hT:=JG8 (knownF s.vars) x hz;generalize hF:typeS s x=F;unfold typeS at hF;generalize checkF s=ck at *;generalize tooF x=tl at *;generalize typeF (knownF s.vars) x=ty at *;generalize knownF s.vars=ks at *;obtain ⟨vs,qs,ns,ws⟩:=s;rw[J01] at *;unfold J0G at *;simp only at *;refine kWQ ?_;intros;refine CallP.flat [] _ c89 hc rfl ?_
 by_cases h0:ck=0
 case' neg=>
  rw[if_pos h0] at hF;refine kWQ ?_;intros;exact .of (by rw[← hF];rfl)
 rw[if_neg (by simp[h0])] at hF;refine kWQ ?_;intros;refine CallP.flat [] _ c83 ht rfl ?_
 cases tl with
 | true=>
   refine kWQ ?_;intros;exact .of (by rw[← hF];rfl)
 | false=>
   refine kWQ ?_;intros;refine CallP.flat [] _ c123 hb rfl ?_
   cases hbb:builtF x with
   | false=>
     rw[hbb] at hF;refine kWQ ?_;intros;exact .of (by rw[← hF];rfl)
   | true=>
     rw[hbb] at hF;have hT:=hT hbb;obtain ⟨t,b⟩:=ty;refine kWQ ?_;intros;refine CallG.intro _ c99 hk ?_;refine kWQ ?_;intros;refine CallG.intro _ c124 hT ?_
     cases b with
     | false=>
       refine kWQ ?_;intros;exact .of (by rw[← hF];rfl)
     | true=>
       refine kWQ ?_;intros;exact .of (by rw[← hF];rfl)
theorem J3N {s:Sys} {x:Ex} (h:(typeS s x).2=0):checkF s=0∧tooF x=false∧builtF x=true∧(typeF (knownF s.vars) x).2=true∧(typeS s x).1=(typeF (knownF s.vars) x).1:=by
 unfold typeS at *;split at h
 ·rename_i h1;exact absurd h h1
 ·rename_i h1;split at h
  ·cases h
  ·rename_i h2;split at h
   ·cases h
   ·rename_i h3;split at h
    ·rename_i h4;refine ⟨Classical.not_not.1 h1,Bool.eq_false_iff.2 h2,by simpa using h3,h4,?_⟩;rw[if_neg h1,if_neg h2,if_neg h3,if_pos h4]
    ·cases h
theorem J7e {x:Ex} (h:tooF x=false):wtF x≤200:=by
 unfold tooF at h;have h1:=of_decide_eq_false h;have:=JBl 24 x 200;omega
theorem eqU (u v:U):(decide (u.name=v.name)&&(decide (u.order=v.order)&&decide (u.pre=v.pre)))=decide (u=v):=by
 obtain ⟨a,b,c⟩:=u;obtain ⟨a',b',c'⟩:=v;simp only[U.mk.injEq,Bool.decide_and]
structure G where
 eqs:List ByteArray
 uses:List U
 joined:List (List Int)
def J2G (l:List U):AV:=.sl 3 (l.map encU)
theorem J5k (s:Sys) (hv:s.vars.length≤2^60):PureCall Tryz.prog 68 [J0G s] (encK (knownF s.vars)):=by
 refine PC [6] Tryz.func68 rfl (by rfl) rfl ?_;obtain ⟨vs,qs,ns,ws⟩:=s;simp only at hv ⊢;generalize hF:knownF vs=F;unfold knownF at hF;unfold J0G;refine kWS ?_;intros
 refine LoopP.intro (fun k σ H=>∃ g i,∃ l:List (ByteArray×Va),k=vs.length-i∧i≤vs.length∧(vs.drop i).foldl (fun l v=>putK l v.name v) l=F ∧
  σ=fr [(2,.val (.map none)),(3,.om 6 g),(8,.sl 7 (vs.map encV)),(9,encI vs.length),(10,encI i)] ∧
  H=hp [(6,g,⟨109,0,[encK l]⟩)]) ?_ ?_
 ·refine .intro <| W.of ⟨_,_,0,[],rfl,Nat.zero_le _,hF,rfl,rfl⟩ ⟨rfl,rfl,rfl,?_,rfl,trivial⟩ ⟨rfl,trivial⟩
  show AV.val (.int .i64 _)=AV.val (.int .i64 _)
  rw[List.length_map]
 ·clear hF;rintro k σ H ⟨g,i,l,rfl,hi,hF,rfl,rfl⟩;refine kWS ?_;intros;refine CondP.dec (fun h=>?_) (fun h=>?_)<;>refine kW ?_
  ·have hi':i<vs.length:=by omega
   rw[List.drop_eq_getElem_cons hi',List.foldl_cons] at hF;refine kR ?_;intros;generalize vs[i]=v at hF ⊢;refine kR ?_;intros;refine Need.intro keyst9 ?_;refine kWR ?_;intros;obtain ⟨r,hr,hm⟩:=JAf encV v.name v l;refine LookP.intro r hr ?_
   cases r with
   | some j=>
     refine kWR ?_;intros
     refine .intro <| W.of ⟨_,by omega,_,i+1,putK l v.name v,rfl,hi',hF,rfl,rfl⟩ ⟨rfl,rfl,rfl,rfl,rfl,trivial⟩ ⟨?_,trivial⟩
     exact congrArg (fun z=>some (g,(⟨109,0,[z]⟩:Blk))) (congr (congrArg AV.mp hm.1) hm.2)
   | none=>
     refine kWR ?_;intros
     refine .intro <| W.of ⟨_,by omega,_,i+1,putK l v.name v,rfl,hi',hF,rfl,rfl⟩ ⟨rfl,rfl,rfl,rfl,rfl,trivial⟩ ⟨?_,trivial⟩
     exact congrArg (fun z=>some (g,(⟨109,0,[z]⟩:Blk))) (congr (congrArg AV.mp hm.1) hm.2)
  ·rw[List.drop_eq_nil_of_le (by omega)] at hF;refine kS ?_;intros;exact .of (by rw[← hF];rfl)
def unkB (ks:List (ByteArray×Va)) (p:Option U) (u:U):Bool:=(match J0m ks u.name with
    | some v=>decide (v.kind=0)
    | none=>false)&&(!u.pre&&(fitF u&&!J3G p u))
def unkL (ks:List (ByteArray×Va)):Option U→List U→Bool
 | _,[]=>true
 | p,u::r=>unkB ks p u&&unkL ks (some u) r
def unkF (ks:List (ByteArray×Va)) (l:List U):Bool:=unkL ks none l&&decide (l.length≤400)
def prvU (l:List U) (i:Nat):Option U:=match i with
 | 0=>none
 | i+1=>l[i]?
theorem J75 {u:U} (h:fitF u=true):0≤u.order∧u.order≤6:=by
 unfold fitF at h;simp only[Bool.and_eq_true,decide_eq_true_eq] at h;exact h.1.2
theorem JDy (ks:List (ByteArray×Va)) (p:Option U) (u:U) (r:List U):unkL ks p (u::r)=(unkB ks p u&&unkL ks (some u) r):=rfl
theorem JAM (ks:List (ByteArray×Va)) (l:List U) (hl:l.length≤2^60) (hz:∀ u∈l,u.name.size<2^35):PureCall Tryz.prog 135 [encK ks,J2G l] (encB (unkF ks l)):=by
 refine PC [] Tryz.func135 rfl (by rfl) rfl ?_;generalize hF:unkF ks l=F;unfold unkF at hF;unfold J2G;have hml:=@List.length_map _ _ l encU;refine kWQ ?_;intros
 refine LoopP.intro (fun k σ H=>∃ i,k=l.length-i∧i≤l.length∧(∀ j (h:j<l.length),j<i→fitF l[j]=true)∧(unkL ks (prvU l i) (l.drop i)&&decide (l.length≤400))=F ∧
   σ=fr [(0,encK ks),(1,.sl 3 (l.map encU)),(9,.sl 3 (l.map encU)),(10,encI l.length),(11,encI i)]∧H=hp []) ?_ ?_
 ·exact .intro (W.of ⟨_,0,rfl,Nat.zero_le _,fun j h h'=>absurd h' (by omega),hF,rfl,rfl⟩ ⟨rfl,rfl,rfl,by first | rfl | exact congrArg (fun n:Nat=>encI n) hml,rfl,trivial⟩ trivial)
 clear hF;rintro k σ H ⟨i,rfl,hi,hfit,hT,rfl,rfl⟩
 rcases Nat.lt_or_ge i l.length with h2 | h2
 ·rw[List.drop_eq_getElem_cons h2,JDy] at hT;have hbz:=hz _ (List.getElem_mem h2);have hnx:prvU l (i+1)=some l[i]:=List.getElem?_eq_getElem h2;obtain ⟨u,huu⟩:∃ u,l[i]=u:=⟨_,rfl⟩;rw[huu] at hT hbz hnx
  have hfx:∀ k (h:k<l.length),k<i+1→fitF u=true→fitF l[k]=true:=by
   intro k h hk hf
   rcases Nat.lt_or_ge k i with h' | h'
   ·exact hfit k h h'
   ·obtain rfl:k=i:=by omega
    rw[huu];exact hf
  have hFi:=JGM u hbz;obtain ⟨r2,hr2,hm2⟩:=J1S encV u.name ks;unfold unkB at hT;rw[← hnx] at hT;refine kWQ ?_;intros;simp only[huu,encU];refine kQ ?_;intros;refine Need.intro keyst9 ?_;refine kWQ ?_;intros;refine LookP.intro r2 hr2 ?_
  cases ha:J0m ks u.name with
  | none=>
    rw[ha] at hm2 hT
    cases r2 with
    | some i=>exact hm2.elim
    | none=>
      refine kWQ ?_;intros;exact .of (by rw[← hT];rfl)
  | some v=>
    rw[ha] at hm2 hT
    cases r2 with
    | none=>exact hm2.elim
    | some ii=>
      have hm2:(ks.map fun x=>encV x.2).getD ii .dead=encV v:=hm2;refine kW ?_;rw[hm2];obtain ⟨nm,kd,ty,vl,st,fx,un⟩:=v;simp only at hT
      by_cases k0:kd=0
      case' neg=>
       rw[decide_eq_false k0] at hT;refine kQ ?_;intros;exact .of (by rw[← hT];rfl)
      rw[decide_eq_true k0,Bool.true_and] at hT;obtain ⟨us,uo,up⟩:=u
      cases up with
      | true=>
        refine kQ ?_;intros;exact .of (by rw[← hT];rfl)
      | false=>
      rw[Bool.not_false,Bool.true_and] at hT;refine kQ ?_;intros;refine CallG.intro _ c81 hFi ?_
      cases hf:fitF ⟨us,uo,false⟩ with
      | false=>
        rw[hf] at hT;refine kWQ ?_;intros;exact .of (by rw[← hT];rfl)
      | true=>
      rw[hf,Bool.true_and] at hT;rw[hf] at hfx;have hfit2:=J75 hf
      rcases i with _ | k
      ·replace hT:(unkL ks (prvU l 1) (l.drop 1)&&decide (l.length≤400))=F:=hT;refine kWQ ?_;intros
       exact .intro <| W.of ⟨_,by omega,0+1,rfl,h2,fun k h hk=>hfx k h hk rfl,hT,rfl,rfl⟩ ⟨rfl,rfl,rfl,rfl,rfl,trivial⟩ trivial
      ·have h8:k<l.length:=by omega
       have hpv:prvU l (k+1)=some l[k]:=List.getElem?_eq_getElem h8;have hix:(((k+1:Nat):Int)-1).toNat=k:=by omega
       have hfp:=J75 (hfit k h8 (by omega));obtain ⟨pb,hpb⟩:∃ pb,l[k]=pb:=⟨_,rfl⟩;rw[hpb] at hpv hfp;have hL:=JGG pb ⟨us,uo,false⟩ hfp hfit2;rw[hpv] at hT;refine kWQ ?_;intros;simp only[hix,hpb];refine CallG.intro _ c116 hL ?_
       cases hge:J3G (some pb) ⟨us,uo,false⟩ with
       | true=>
         rw[hge] at hT;have hle:0≤J7x pb ⟨us,uo,false⟩:=of_decide_eq_true hge;refine kWQ ?_;intros;exact .of (by rw[← hT];rfl)
       | false=>
         rw[hge] at hT;have hle:¬ 0≤J7x pb ⟨us,uo,false⟩:=of_decide_eq_false hge;refine kWQ ?_;intros
         exact .intro <| W.of ⟨_,by omega,k+1+1,rfl,h2,fun k h hk=>hfx k h hk rfl,hT,rfl,rfl⟩ ⟨rfl,rfl,rfl,rfl,rfl,trivial⟩ trivial
 ·obtain rfl:i=l.length:=by omega
  rw[List.drop_eq_nil_of_le h2] at hT;refine kWQ ?_;intros;refine .of ?_;rw[← hT];show AV.val (.bool (decide _))=AV.val (.bool (true&&decide _))
  rw[Bool.true_and]
  congr 2
  exact decide_eq_decide.2 (by omega)
def numF (s:Sys) (x:Ex) (l:List U):Int:=if (typeS s x).2≠0 then (typeS s x).2 else if (typeS s x).1≠0 then 7 else if unkF (knownF s.vars) l=false then 1 else 0
theorem J1n (s:Sys) (hs:SzS s) (x:Ex) (hz:SzE x) (hx:TxE x) (l:List U) (hl:l.length≤2^60) (hn:∀ u∈l,u.name.size<2^35):PureCall Tryz.prog 63 [J0G s,encE x,J2G l] (encI (numF s x l)):=by
 refine PC [] Tryz.func63 rfl (by rfl) rfl ?_;have hT:=J8T s x hs hz hx;have hK:=J5k s hs.v;have hU:=JAM (knownF s.vars) l hl hn;generalize hF:numF s x l=F;unfold numF at hF;generalize unkF (knownF s.vars) l=uk at *;generalize typeS s x=ty at *;obtain ⟨t1,t2⟩:=ty;generalize knownF s.vars=ks at *;obtain ⟨vs,qs,ns,ws⟩:=s;rw[J01] at *;unfold J0G J2G at *;simp only at *;clear hs hz hx hl hn;refine kWQ ?_;intros;refine CallP.flat [] _ c48 hT rfl ?_
 by_cases h0:t2=0
 case' neg=>
  rw[if_pos h0] at hF;refine kWQ ?_;intros;exact .of (by rw[← hF];rfl)
 rw[if_neg (fun h=>h h0)] at hF
 by_cases h1:t1=0
 case' neg=>
  rw[if_pos h1] at hF;refine kWQ ?_;intros;exact .of (by rw[← hF];rfl)
 rw[if_neg (fun h=>h h1)] at hF;refine kWQ ?_;intros;refine J00 [] _ c68 hK ?_;refine kWQ ?_;intros;refine CallP.flat [] _ c135 hU rfl ?_
 cases uk with
 | false=>
   rw[if_pos rfl] at hF;refine kWQ ?_;intros;exact .of (by rw[← hF];rfl)
 | true=>
   rw[if_neg (by decide)] at hF;refine kWQ ?_;intros;exact .of (by rw[← hF];rfl)
end Go.Proofs.YtlblbldolhiokaaGreatDoor
namespace Go.Proofs
open Go.Shelf
def Tryz.lays156_ren:Go.Shelf.Ren:=⟨fun | 156=>212 | 165=>299 | 166=>283 | 169=>287 | 240=>331 | 241=>349 | 276=>368 | 277=>374 | n=>n,fun | 31=>39 | 9=>9 | 3=>3 | 4=>4 | 0=>0 | 20=>20 | 72=>314 | 76=>317 | 70=>312 | 37=>283 | 75=>316 | 127=>355 | 164=>391 | 5=>5 | 80=>128 | n=>n,fun | n=>n⟩
theorem J15:Go.Proofs.Lays.n156 Tryz.prog Tryz.lays156_ren:={
 mixed:=by kernel_rfl
 f156:=Tryz.func212.trans (congrArg some (by kernel_rfl))
 f165:=Tryz.func299.trans (congrArg some (by kernel_rfl))
 f166:=Tryz.func283.trans (congrArg some (by kernel_rfl))
 f169:=Tryz.func287.trans (congrArg some (by kernel_rfl))
 f240:=Tryz.func331.trans (congrArg some (by kernel_rfl))
 f241:=Tryz.func349.trans (congrArg some (by kernel_rfl))
 f276:=Tryz.func368.trans (congrArg some (by kernel_rfl))
 f277:=Tryz.func374.trans (congrArg some (by kernel_rfl))
 t0:=Tryz.underlying0
 a0:=Tryz.isAgg0
 z0:=Tryz.sizeOf0
 v0:=Tryz.zeroValue0
 t3:=Tryz.underlying3
 a3:=Tryz.isAgg3
 z3:=Tryz.sizeOf3
 v3:=Tryz.zeroValue3
 t4:=Tryz.underlying4
 a4:=Tryz.isAgg4
 z4:=Tryz.sizeOf4
 v4:=Tryz.zeroValue4
 t9:=Tryz.underlying9
 a9:=Tryz.isAgg9
 z9:=Tryz.sizeOf9
 v9:=Tryz.zeroValue9
 t20:=Tryz.underlying20
 a20:=Tryz.isAgg20
 z20:=Tryz.sizeOf20
 v20:=Tryz.zeroValue20
 t31:=Tryz.underlying39
 a31:=Tryz.isAgg39
 z31:=Tryz.sizeOf39
 v31:=Tryz.zeroValue39
 t37:=Tryz.underlying283
 a37:=Tryz.isAgg283
 z37:=Tryz.sizeOf283
 v37:=Tryz.zeroValue283
 t70:=Tryz.underlying312
 a70:=Tryz.isAgg312
 z70:=Tryz.sizeOf312
 v70:=Tryz.zeroValue312
 t72:=Tryz.underlying314
 a72:=Tryz.isAgg314
 z72:=Tryz.sizeOf314
 v72:=Tryz.zeroValue314
 t75:=Tryz.underlying316
 a75:=Tryz.isAgg316
 z75:=Tryz.sizeOf316
 v75:=Tryz.zeroValue316
 t76:=Tryz.underlying317
 a76:=Tryz.isAgg317
 z76:=Tryz.sizeOf317
 v76:=Tryz.zeroValue317
 t127:=Tryz.underlying355
 a127:=Tryz.isAgg355
 z127:=Tryz.sizeOf355
 v127:=Tryz.zeroValue355
 t164:=Tryz.underlying391
 a164:=Tryz.isAgg391
 z164:=Tryz.sizeOf391
 v164:=Tryz.zeroValue391 }
theorem J0U:Builder.Extra Tryz.prog Tryz.lays156_ren:={
 sizeBuilder:=by kernel_rfl
 liesBuilder:=by kernel_rfl
 t5:=Tryz.underlying5
 a5:=Tryz.isAgg5
 z5:=Tryz.sizeOf5
 v5:=Tryz.zeroValue5
 infoByte:=by kernel_rfl
 cellsByte:=by kernel_rfl
 sizeByte:=by kernel_rfl
 neB5:=by decide }
def Tryz.lays105_ren:Go.Shelf.Ren:=⟨fun | 105=>211 | 212=>298 | 99=>201 | 165=>299 | 166=>283 | 170=>300 | 169=>287 | 263=>347 | 264=>348 | 206=>293 | 240=>331 | 241=>349 | 276=>368 | 277=>374 | n=>n,fun | 9=>9 | 3=>3 | 4=>4 | 20=>20 | 0=>0 | 46=>239 | 109=>326 | 5=>5 | 72=>314 | 76=>317 | 51=>285 | 146=>366 | 53=>274 | 148=>368 | 70=>312 | 37=>283 | 75=>316 | 127=>355 | 164=>391 | 80=>128 | n=>n,fun | n=>n⟩
theorem JA0:Go.Proofs.Lays.n105 Tryz.prog Tryz.lays105_ren:={
 mixed:=by kernel_rfl
 f99:=Tryz.func201.trans (congrArg some (by kernel_rfl))
 f105:=Tryz.func211.trans (congrArg some (by kernel_rfl))
 f165:=Tryz.func299.trans (congrArg some (by kernel_rfl))
 f166:=Tryz.func283.trans (congrArg some (by kernel_rfl))
 f169:=Tryz.func287.trans (congrArg some (by kernel_rfl))
 f170:=Tryz.func300.trans (congrArg some (by kernel_rfl))
 f206:=Tryz.func293.trans (congrArg some (by kernel_rfl))
 f212:=Tryz.func298.trans (congrArg some (by kernel_rfl))
 f240:=Tryz.func331.trans (congrArg some (by kernel_rfl))
 f241:=Tryz.func349.trans (congrArg some (by kernel_rfl))
 f263:=Tryz.func347.trans (congrArg some (by kernel_rfl))
 f264:=Tryz.func348.trans (congrArg some (by kernel_rfl))
 f276:=Tryz.func368.trans (congrArg some (by kernel_rfl))
 f277:=Tryz.func374.trans (congrArg some (by kernel_rfl))
 t0:=Tryz.underlying0
 a0:=Tryz.isAgg0
 z0:=Tryz.sizeOf0
 v0:=Tryz.zeroValue0
 t3:=Tryz.underlying3
 a3:=Tryz.isAgg3
 z3:=Tryz.sizeOf3
 v3:=Tryz.zeroValue3
 t4:=Tryz.underlying4
 a4:=Tryz.isAgg4
 z4:=Tryz.sizeOf4
 v4:=Tryz.zeroValue4
 t5:=Tryz.underlying5
 a5:=Tryz.isAgg5
 z5:=Tryz.sizeOf5
 v5:=Tryz.zeroValue5
 t9:=Tryz.underlying9
 a9:=Tryz.isAgg9
 z9:=Tryz.sizeOf9
 v9:=Tryz.zeroValue9
 t20:=Tryz.underlying20
 a20:=Tryz.isAgg20
 z20:=Tryz.sizeOf20
 v20:=Tryz.zeroValue20
 t37:=Tryz.underlying283
 a37:=Tryz.isAgg283
 z37:=Tryz.sizeOf283
 v37:=Tryz.zeroValue283
 t46:=Tryz.underlying239
 a46:=Tryz.isAgg239
 z46:=Tryz.sizeOf239
 v46:=Tryz.zeroValue239
 t51:=Tryz.underlying285
 a51:=Tryz.isAgg285
 z51:=Tryz.sizeOf285
 v51:=Tryz.zeroValue285
 t53:=Tryz.underlying274
 a53:=Tryz.isAgg274
 z53:=Tryz.sizeOf274
 v53:=Tryz.zeroValue274
 t70:=Tryz.underlying312
 a70:=Tryz.isAgg312
 z70:=Tryz.sizeOf312
 v70:=Tryz.zeroValue312
 t72:=Tryz.underlying314
 a72:=Tryz.isAgg314
 z72:=Tryz.sizeOf314
 v72:=Tryz.zeroValue314
 t75:=Tryz.underlying316
 a75:=Tryz.isAgg316
 z75:=Tryz.sizeOf316
 v75:=Tryz.zeroValue316
 t76:=Tryz.underlying317
 a76:=Tryz.isAgg317
 z76:=Tryz.sizeOf317
 v76:=Tryz.zeroValue317
 t109:=Tryz.underlying326
 a109:=Tryz.isAgg326
 z109:=Tryz.sizeOf326
 v109:=Tryz.zeroValue326
 t127:=Tryz.underlying355
 a127:=Tryz.isAgg355
 z127:=Tryz.sizeOf355
 v127:=Tryz.zeroValue355
 t146:=Tryz.underlying366
 a146:=Tryz.isAgg366
 z146:=Tryz.sizeOf366
 v146:=Tryz.zeroValue366
 t148:=Tryz.underlying368
 a148:=Tryz.isAgg368
 z148:=Tryz.sizeOf368
 v148:=Tryz.zeroValue368
 t164:=Tryz.underlying391
 a164:=Tryz.isAgg391
 z164:=Tryz.sizeOf391
 v164:=Tryz.zeroValue391 }
theorem J2J:Builder.Extra Tryz.prog Tryz.lays105_ren:={
 sizeBuilder:=by kernel_rfl
 liesBuilder:=by kernel_rfl
 t5:=Tryz.underlying5
 a5:=Tryz.isAgg5
 z5:=Tryz.sizeOf5
 v5:=Tryz.zeroValue5
 infoByte:=by kernel_rfl
 cellsByte:=by kernel_rfl
 sizeByte:=by kernel_rfl
 neB5:=by decide }
end Go.Proofs
namespace Go.Proofs.YtlblbldolhiokaaGreatDoor
open Go Go.Fw Go.RowKit
def joinB (l:List ByteArray) (sep:ByteArray):ByteArray:=⟨(Lib.join (l.map (·.data.toList)) sep.data.toList).toArray⟩
def repB (s:ByteArray) (n:Nat):ByteArray:=⟨(Lib.repeatL s.data.toList n).toArray⟩
theorem JK3 (l:List ByteArray) (sep:ByteArray) (hl:l.length≤2^40) (hs:(joinB l sep).size≤140737488355328):PureCall Tryz.prog 212 [.sl 1 (l.map encS),encS sep] (encS (joinB l sep)):=by
 intro O w vs hO hv;obtain ⟨hlen,hr⟩:=hv;obtain ⟨vl⟩:=vs
 rcases vl with _ | ⟨a,_ | ⟨b,_ | ⟨c,r⟩⟩⟩<;>simp at hlen
 have h0:=hr 0 (by simp) (by simp);have h1:=hr 1 (by simp) (by simp);simp only[List.getElem_cons_zero,List.getElem_cons_succ,List.getElem_toArray] at h0 h1;cases h1;have fin:∀ {e:Ending} {w':World},(e=.returned (.string (joinB l sep))∧Below w.heap.size w w')→∃ v,e=.returned v∧VR KM.empty w' O (encS (joinB l sep)) v∧Below w.heap.size w w':=fun ⟨he,hb⟩=>⟨_,he,.val _ rfl,hb⟩;generalize hL:l.map encS=L at h0
 cases h0 with
 | slnil n=>
   obtain rfl:l=[]:=List.map_eq_nil_iff.1 hL;exact (Any.strings_Join_none J15 J0U none 0 sep w).mono fun e w' ⟨he,hw⟩=>fin ⟨he,hw ▸ Below.refl _ _⟩
 | slemp n a=>
   obtain rfl:l=[]:=List.map_eq_nil_iff.1 hL;exact (Any.strings_Join_none J15 J0U (some a) 0 sep w).mono fun e w' ⟨he,hw⟩=>fin ⟨he,hw ▸ Below.refl _ _⟩
 | sl n xs c o cap f hcap hO' hblk hcl hcell hrel hpl=>
   subst hL;obtain ⟨A,e,z,hb,hs'⟩:=hblk
   have:=Any.strings_Join J15 J0U c o cap l sep w (fun j x hx=>by
    obtain ⟨hj,rfl⟩:=List.getElem?_eq_some_iff.1 hx;have h2:=hcell j (by simpa using hj) 0 Nat.one_pos;have h3:=hrel j (by simpa using hj) 0 (by simp[AV.cells,encS]);have e1:((l.map encS)[j]'(by simpa using hj)).cells[0]'(by simp[AV.cells,encS])=encS l[j]:=by simp[AV.cells,encS]
    rw[e1] at h3
    have h4:f j 0=.string l[j]:=by
     generalize f j 0=v at h3;cases h3;rfl
    rw[h4] at h2
    simpa using h2) (Array.getElem?_eq_some_iff.1 hb).1 (by omega) (by simpa using hcap) (by simpa [joinB,ByteArray.size] using hs)
   have hlm:(l.map encS).length=l.length:=List.length_map ..;rw[hlm];exact this.mono fun e w' h=>fin h
theorem JGC (s:ByteArray) (n:Nat) (hn:n≤2^62) (hs:s.size*n≤140737488355328):PureCall Tryz.prog 211 [encS s,encI n] (encS (repB s n)):=by
 intro O w vs hO hv;obtain ⟨hlen,hr⟩:=hv;obtain ⟨vl⟩:=vs
 rcases vl with _ | ⟨a,_ | ⟨b,_ | ⟨c,r⟩⟩⟩<;>simp at hlen
 have h0:=hr 0 (by simp) (by simp);have h1:=hr 1 (by simp) (by simp);simp only[List.getElem_cons_zero,List.getElem_cons_succ,List.getElem_toArray] at h0 h1;cases h0;cases h1;exact (Any.strings_Repeat JA0 J2J s n w (by omega) hs).mono fun e w' ⟨he,hb⟩=>⟨_,he,.val _ rfl,hb⟩
end Go.Proofs.YtlblbldolhiokaaGreatDoor
namespace Go.Proofs.YtlblbldolhiokaaGreatDoor
open Go Go.Fw
def JGp (o t:ByteArray) (n:Int) (rs:List ByteArray):ByteArray:=
 if o=oNum then t
 else if o=oVar then (if n=0 then b1 64++t else b1 64++t++b1 58++repB (b1 39) n.toNat)
 else if o=oPre then ⟨#[112,114,101,64]⟩++t
 else match rs with
  | []=>o
  | r::l=>o++b1 40++joinB (r::l) (b1 59)++b1 41
mutual
def showF:Ex→ByteArray
 | .mk o t n es=>JGp o t n (JIt es)
def JIt:List Ex→List ByteArray
 | []=>[]
 | e::es=>showF e::JIt es
end
theorem J8l:∀ es:List Ex,JIt es=es.map showF
 | []=>rfl
 | e::es=>by rw[List.map_cons,← J8l es];rfl
theorem JBY (e:Ex):showF e=JGp e.op e.text e.order (e.kids.map showF):=by
 cases e with
 | mk o t n es=>rw[← J8l];rfl
theorem J0K (a b:ByteArray):(a++b).size=a.size+b.size:=ByteArray.size_append
theorem J8v (s:ByteArray) (n:Nat):(repB s n).size=s.size*n:=by
 show (Lib.repeatL s.data.toList n).toArray.size=_
 rw[List.size_toArray]
 have:∀ n,(Lib.repeatL s.data.toList n).length=s.data.toList.length*n:=by
  intro n
  induction n with
  | zero=>rfl
  | succ n ih=>unfold Lib.repeatL;rw[List.length_append,ih,Nat.mul_succ];omega
 rw[this n,Array.length_toList];rfl
theorem J4b (sep:List UInt8):∀ r:List (List UInt8),(Lib.joinTail sep r).length=(r.map fun x=>sep.length+x.length).sum
 | []=>rfl
 | x::r=>by
   have:=J4b sep r;unfold Lib.joinTail at *;simp only[List.map_cons,List.flatten_cons,List.length_append,List.sum_cons,this]
def szB (l:List ByteArray):Nat:=(l.map ByteArray.size).sum
theorem J73 (l:List ByteArray) (sep:ByteArray):(joinB l sep).size≤szB l+l.length*sep.size:=by
 show (Lib.join _ _).toArray.size≤_
 cases l with
 | nil=>simp[Lib.join_nil]
 | cons x r=>
   rw[List.map_cons,Lib.join_cons,List.size_toArray,List.length_append,J4b]
   have key:∀ r:List ByteArray,((r.map (·.data.toList)).map fun x=>sep.data.toList.length+x.length).sum≤szB r+r.length*sep.size:=by
    intro r
    induction r with
    | nil=>simp[szB]
    | cons y r ih=>
      unfold szB at *;simp only[List.map_cons,List.sum_cons,List.length_cons,Nat.succ_mul] at *;have e1:y.data.toList.length=y.size:=Array.length_toList;have e2:sep.data.toList.length=sep.size:=Array.length_toList;omega
   have:=key r;have e1:x.data.toList.length=x.size:=Array.length_toList;have e2:szB (x::r)=x.size+szB r:=rfl;rw[List.length_cons,Nat.succ_mul];omega
theorem JIG {es:List Ex} {C:Nat} (h:∀ k∈es,(showF k).size+1≤C*wtF k):szB (es.map showF)+es.length≤C*wtL es:=by
 induction es with
 | nil=>simp[szB]
 | cons e es ih=>
   have a:=h e (by simp);have b:=ih fun k hk=>h k (by simp[hk]);unfold szB at *;simp only[List.map_cons,List.sum_cons,List.length_cons] at *;unfold wtL;rw[Nat.mul_add];omega
theorem JEf {e:Ex} (hb:builtF e=true):e.op.size≤8:=by
 have hl:=(J0W hb).1;unfold J0S at hl;split at hl
 ·rename_i h;rcases h with h | h<;>rw[h]<;>decide
 ·split at hl
  ·rename_i h;rcases h with h | h<;>rw[h]<;>decide
  ·split at hl
   ·rename_i h;rw[h];decide
   ·split at hl
    ·omega
    ·rename_i x hx
     rcases JEK hx with h | ⟨h,_⟩ | ⟨h,_⟩ | ⟨h,_⟩ | ⟨h,_⟩ | ⟨h,_⟩ | ⟨h,_⟩ | ⟨h,_⟩ | ⟨h,_⟩
     ·rw[h];decide
     ·rcases h with h | h<;>rw[h]<;>decide
     ·rw[h];decide
     ·rcases h with h | h | h<;>rw[h]<;>decide
     ·rw[h];decide
     ·rw[h];decide
     ·rw[h];decide
     ·rcases h with h | h | h | h<;>rw[h]<;>decide
     ·rcases h with h | h | h | h<;>rw[h]<;>decide
theorem J7s {e:Ex} (hb:builtF e=true) (h:e.op=oVar):0≤e.order∧e.order≤6:=by
 have hx:textF e=true:=by rw[J1M] at hb;simp only[Bool.and_eq_true] at hb;exact hb.1.1.2
 unfold textF at hx;rw[if_neg (by rw[h];decide),if_pos h] at hx;simp only[Bool.and_eq_true,decide_eq_true_eq] at hx;exact ⟨hx.1.2,hx.2⟩
theorem J6m (e:Ex):builtF e=true→TxE e→(showF e).size+1≤(2^21+20)*wtF e:=by
 induction e using J1K with
 | h e ih=>
   intro hb hx;have ihk:=fun k hk=>ih k hk ((J0W hb).2 k hk) (hx.kid k hk);have ht:=hx.low;have ho:=JEf hb;have hw:=J4X e;have hl:=J45 e.kids;rw[JBY];unfold JGp;have hsum:=JIG ihk;have e0:2^21+20≤(2^21+20)*wtF e:=Nat.le_mul_of_pos_right _ (by omega);split
   ·omega
   ·split
    ·rename_i h1;have:=J7s hb h1;split
     ·rw[J0K];show 1+_+1≤_;omega
     ·rw[J0K,J0K,J0K,J8v];show 1+_+1+1*_+1≤_;omega
    ·split
     ·rw[J0K];show 4+_+1≤_;omega
     ·split
      ·omega
      ·rename_i r l hrl;have:=J73 (r::l) (b1 59);rw[J0K,J0K,J0K];have e1:(r::l).length=e.kids.length:=by rw[← hrl,List.length_map]
       rw[← hrl] at this ⊢;rw[List.length_map] at this;show _+1+_+1+1≤_
       have e3:(b1 59).size=1:=rfl;rw[e3] at this;have e4:(2^21+20)*wtF e=(2^21+20)*wtL e.kids+(2^21+20):=by rw[hw,Nat.mul_succ]
       omega
theorem JLI {b p e n:Nat} {H:Hp} {out:List ByteArray} (hb:H b=some (p,⟨e,1,out.map encS⟩)) (hn:n=out.length):snap [b] H (.own b p 0 n)=.sl 1 (out.map encS):=by
 rw[J1b (by simp) hb (by simp[hn]),J0e _ _ _ _ hn fun _=>rfl]
theorem JEL (e:Ex):SzE e→TxE e→builtF e=true→wtF e≤1000→PureCall Tryz.prog 128 [encE e] (encS (showF e)):=by
 induction e using J1K with
 | h e ih=>
   intro hz hx hb hw;have ihk:=fun k hk=>ih k hk (hz.kid k hk) (hx.kid k hk) ((J0W hb).2 k hk) (by have:=J8d hk;omega);have hwt:wtL e.kids≤1000:=by have:=J4X e;omega
   have hlen:e.kids.length≤1000:=Nat.le_trans (J45 _) hwt;have hsum:szB (e.kids.map showF)+e.kids.length≤(2^21+20)*1000:=Nat.le_trans (JIG fun k hk=>J6m k ((J0W hb).2 k hk) (hx.kid k hk)) (Nat.mul_le_mul_left _ hwt);have hord:=J7s hb;have htx:=hx.tx;have hos:=JEf hb;clear ih;refine PC [] Tryz.func128 rfl (by rfl) rfl ?_;generalize hF:showF e=F;rw[JBY] at hF;rw[J01];clear hz hx hb hw hwt;have z1:({ data:=#[64] }:ByteArray).size=1:=rfl;have z2:({ data:=#[112,114,101,64] }:ByteArray).size=4:=rfl;have z3:({ data:=#[58] }:ByteArray).size=1:=rfl;have z4:({ data:=#[40] }:ByteArray).size=1:=rfl;have z5:({ data:=#[41] }:ByteArray).size=1:=rfl;obtain ⟨o,t,od,es⟩:=e;simp only[Ex.op,Ex.text,Ex.order,Ex.kids] at *;unfold JGp at hF
   by_cases h1:o=oNum
   ·rw[if_pos h1] at hF;(refine kWS ?_;repeat intro γ);exact .of (by rw[← hF];rfl)
   rw[if_neg h1] at hF
   by_cases h2:o=oVar
   ·rw[if_pos h2] at hF
    by_cases h3:od=0
    ·rw[if_pos h3] at hF;(refine kWS ?_;repeat intro γ);exact .of (by rw[← hF];rfl)
    ·rw[if_neg h3] at hF;obtain ⟨ho1,ho2⟩:=hord h2;have hR:=JGC (b1 39) od.toNat (by omega) (by show 1*_≤_;omega);rw[show ((od.toNat:Nat):Int)=od by omega] at hR;have y1:=J0K { data:=#[64] } t;have y2:=J0K ({ data:=#[64] }++t) { data:=#[58] };have y3:=J8v (b1 39) od.toNat;have y4:(b1 39).size=1:=rfl;rw[y4] at y3;generalize repB (b1 39) od.toNat=rb at *;(refine kWS ?_;repeat intro γ);refine CallG.intro _ c211 hR ?_;(refine kWS ?_;repeat intro γ);exact .of (by rw[← hF];rfl)
   rw[if_neg h2] at hF
   by_cases h3:o=oPre
   ·rw[if_pos h3] at hF;(refine kWS ?_;repeat intro γ);exact .of (by rw[← hF];rfl)
   rw[if_neg h3] at hF;have hml:=@List.length_map _ _ es encE
   by_cases h4:es=[]
   ·subst h4;(refine kWS ?_;repeat intro γ);exact .of (by rw[← hF];rfl)
   have h5:¬ es.length=0:=fun h=>h4 (List.eq_nil_of_length_eq_zero h)
   replace hF:o++b1 40++joinB (es.map showF) (b1 59)++b1 41=F:=by
    rw[← hF]
    cases es with
    | nil=>exact absurd rfl h4
    | cons k r=>rfl
   (refine kWQ ?_;repeat intro γ)
   refine LoopP.intro (fun j σ H=>∃ g1 gl i,∃ l:List ByteArray,j=es.length-i∧i≤es.length∧l=(es.take i).map showF ∧
    σ=fr [(1,.op 1 g1 0 0),(3,.own 50 gl 0 l.length),(40,.sl 4 (es.map encE)),(41,encI es.length),(42,encI i)] ∧
    H=hp [(1,g1,⟨29,4,[.agg [encS o,encS t,encI od,.sl 4 (es.map encE)]]⟩),(50,gl,⟨9,1,l.map encS⟩)]) ?_ ?_
   ·exact .intro (J2I 3 50 9 1 rfl rfl fun gl=>W.of ⟨_,_,gl,0,[],rfl,Nat.zero_le _,rfl,rfl,rfl⟩ ⟨rfl,rfl,rfl,(by first | rfl | (rw[List.length_map];rfl)),rfl,trivial⟩ ⟨rfl,rfl,trivial⟩)
   ·rintro j σ H ⟨g1,gl,i,l,rfl,hi,rfl,rfl,rfl⟩;have hll:((es.take i).map showF).length=i:=by rw[List.length_map,List.length_take];omega
    rcases Nat.lt_or_ge i es.length with h9 | h9
    ·have hk:=ihk _ (List.getElem_mem h9);have htk:(es.take (i+1)).map showF=(es.take i).map showF++[showF es[i]]:=by rw[List.take_succ_eq_append_getElem h9,List.map_append];rfl
     obtain ⟨k,hkk⟩:∃ k,es[i]=k:=⟨_,rfl⟩;rw[hkk] at hk htk;rw[J01] at hk;generalize hL:(es.take i).map showF=l at *;have hml:=@List.length_map _ _ l encS;(refine kWQ ?_;repeat intro γ);simp only[hkk,J01];(refine kQ ?_;repeat intro γ);refine CallP.flat [] _ c128 hk rfl ?_;(refine kWQ ?_;repeat intro γ)
     refine .intro <| W.of ⟨_,by omega,g1,γ,i+1,l++[showF k],rfl,h9,htk.symm,rfl,rfl⟩ ⟨rfl,?_,rfl,rfl,rfl,trivial⟩ ⟨rfl,?_,trivial⟩
     ·exact congrArg (AV.own 50 _ 0) (by simp)
     ·rw[List.map_append];rfl
    ·obtain rfl:i=es.length:=by omega
     rw[List.take_length] at *;have hj:=J73 (es.map showF) (b1 59)
     have hJ:=JK3 (es.map showF) (b1 59) (by rw[List.length_map];omega) (by
      refine Nat.le_trans hj ?_;rw[List.length_map];show szB _+es.length*1≤_
      omega)
     have x1:(joinB (es.map showF) (b1 59)).size≤2^46:=by
      refine Nat.le_trans hj ?_;rw[List.length_map];show szB _+es.length*1≤_
      omega
     have hls:(es.map showF).length=es.length:=List.length_map ..;generalize joinB (es.map showF) (b1 59)=jb at *;have y1:=J0K o { data:=#[40] };have y2:=J0K (o++{ data:=#[40] }) jb;have y3:=J0K (o++{ data:=#[40] }++jb) { data:=#[41] };(refine kWQ ?_;repeat intro γ);refine CallG.flat _ c212 (J03 (congrArg (fun z=>[z,encS (b1 59)]) (JLI rfl hls.symm)) hJ) rfl ?_;(refine kWQ ?_;repeat intro γ);exact .of (by rw[← hF];rfl)
end Go.Proofs.YtlblbldolhiokaaGreatDoor
namespace Go.Proofs.YtlblbldolhiokaaGreatDoor
open Go Go.Fw Go.RowKit
def bldB (p buf:AV):Blk:=⟨solo,2,[.agg [p,buf]]⟩
def J34:AV:=.val (.pointer none)
theorem J9e {H:Hp} {b g:Nat} {p buf:AV} (hb:H b=some (g,bldB p buf)) (hp:p=J34∨p=.op b g 0 0) (hbc:buf.cells=[buf]) :
  HCall Tryz.prog 331 [.op b g 0 0] H fun r H'=>r=.tup []∧H'=setH H b (some (g,bldB (.op b g 0 0) buf)):=by
 intro gh κ w vs hr hv;obtain ⟨hlen,hv⟩:=hv;obtain ⟨vl⟩:=vs
 rcases vl with _ | ⟨a,_ | ⟨a2,r⟩⟩<;>simp at hlen
 have h0:=hv 0 (by simp) (by simp);simp only[List.getElem_cons_zero,List.getElem_toArray] at h0
 cases h0 with
 | op _ _ _ _ c K hκ hc hn=>
 obtain ⟨K',hκ',hbr⟩:=hr.blk _ _ _ hb;have hbr:BlkRel κ w (Nset gh.O κ H) K (bldB p buf):=by rw[hκ] at hκ';cases hκ';exact hbr
 obtain ⟨hn2,hcl,h3⟩:=hbr.rows hn
 rcases h3 with ⟨h3,_⟩ | ⟨c',A,f,hc',hbk,hm,hs,hf,hpl,hvv,hso⟩
 ·rw[h3] at hc;cases hc
 rw[hc'] at hc;cases hc;have hsz:A.size=2:=hso rfl;simp only[Nat.zero_mul,Nat.add_zero];have e0:A[0]?=some (f 0 0):=by have:=hf 0 (by simp[bldB]) 0 (by simp[bldB]);simpa [bldB] using this
 have hv0:VR κ w (Nset gh.O κ H) p (f 0 0):=hvv 0 (by simp[bldB]) 0 (by simp[bldB]);have hcell:w.cell? ⟨c,0,none⟩=some (f 0 0):=by simp[World.cell?,hbk,e0]
 have hself:VR κ w (Nset gh.O κ H) (.op b g 0 0) (.pointer (some ⟨c,0,none⟩)):=by
  have:=VR.op (w:=w) (N:=Nset gh.O κ H) b g 0 0 c K hκ hc' hn
  simpa using this
 rcases hp with rfl | rfl
 ·have hf0:f 0 0=.pointer none:=by generalize f 0 0=v at hv0;cases hv0;rfl
  rw[hf0] at hcell;obtain ⟨up,hup,hex,w',u,κ',hrun,hR,hvr,_,_⟩:=J2w (P:=Tryz.prog) J4V hr (t:=312) hself hself (C:=fun up=>up=some (b,g,bldB (.op b g 0 0) buf)) ⟨_,rfl,rfl,rfl,_,hb,by simp[bldB],by simp[bldB],by simp[AV.cells],by simp[bldB,J5K,over,AV.cells]⟩;subst hup;have hK:=Any.Builder_copyCheck_fresh { J15 with } J0U.toX72 c w hcell (by simp[World.shape?,hbk,hsz];rfl) (by simp[World.frozen?,hbk]);refine hK.mono ?_;rintro e w' ⟨rfl,rfl⟩
  have hst:=run_storeCells_at Tryz.prog c 0 solo [.pointer (some ⟨c,0,none⟩)] 0 A w hbk (by simp[hsz]) (fun v hv=>by
   simp only[List.mem_singleton] at hv;subst hv;rfl)
  have ht:=J0Y (J4V 312 _ rfl)
  have hrun':(Instr.storeAt 312 (.pointer (some ⟨c,0,none⟩)) (.pointer (some ⟨c,0,none⟩))).run Tryz.prog w=.ok () (w.setCell ⟨c,0,none⟩ (.pointer (some ⟨c,0,none⟩))):=by
   have hA:(A.toList.take 0++[Value.pointer (some ⟨c,0,none⟩)]++A.toList.drop 1).toArray=A.setIfInBounds 0 (.pointer (some ⟨c,0,none⟩)):=by
    obtain ⟨L⟩:=A
    rcases L with _ | ⟨x,r⟩
    ·simp at hsz
    ·simp
   rw[setCell_eq_setRow w c 0 A solo (0,0) _ hbk,← hA];simp only[Nat.add_zero] at hst
   simpa [Instr.storeAt,Instr.sureAddr,Sem.run_bind,storeVar,ht.run_size w,Value.cells] using hst
  rw[hrun'] at hrun;cases hrun;exact ⟨_,.tup [],_,κ',rfl,⟨rfl,rfl⟩,hR,.tup [] #[] rfl (fun i h=>by simp at h),hvr⟩
 ·have hf0:f 0 0=.pointer (some ⟨c,0,none⟩):=by
   generalize f 0 0=v at hv0
   cases hv0 with
   | op _ _ _ _ c2 K2 hκ2 hc2 hn2=>
     rw[hκ] at hκ2;cases hκ2;rw[hc'] at hc2;cases hc2;simp
  rw[hf0] at hcell;refine (Any.Builder_copyCheck_used { J15 with } J0U.toX72 c w hcell).mono ?_;rintro e w' ⟨rfl,rfl⟩
  have hH:setH H b (some (g,bldB (.op b g 0 0) buf))=H:=by
   funext x;unfold setH;split
   ·rename_i h;rw[h,hb]
   ·rfl
  exact ⟨_,.tup [],H,κ,rfl,⟨rfl,hH.symm⟩,hr,.tup [] #[] rfl (fun i h=>by simp at h),fun h=>h⟩
theorem J9z {κ:KM} {w:World} {N:Nat→Prop} {b g i k c o:Nat} (h:VR κ w N (.op b g i k) (.pointer (some ⟨c,o,none⟩))):∃ K,κ b g=some K∧K.c=some c∧0<K.n:=by
 generalize hv:Value.pointer (some ⟨c,o,none⟩)=v at h
 cases h with
 | op _ _ _ _ c2 K2 h1 h2 h3=>cases hv;exact ⟨_,h1,h2,h3⟩
theorem JB8 {gh:Gh} {κ:KM} {H:Hp} {w:World} {b g c:Nat} {p buf:AV} (hr:HRel gh κ H w) (hb:H b=some (g,bldB p buf)) (hs:VR κ w (Nset gh.O κ H) (.op b g 0 0) (.pointer (some ⟨c,0,none⟩))) (hp:p.cells=[p]) (hbc:buf.cells=[buf]) :
  ∃ v0 v1,w.heap[c]?=some (.cells #[v0,v1] solo (0,0))∧VR κ w (Nset gh.O κ H) p v0∧VR κ w (Nset gh.O κ H) buf v1:=by
 obtain ⟨K,hκ,hc,hn⟩:=J9z hs;obtain ⟨K1,hκ1,hbr⟩:=hr.blk _ _ _ hb;rw[hκ] at hκ1;cases hκ1;obtain ⟨hn2,hcl,h3⟩:=hbr.rows hn
 rcases h3 with ⟨h3,_⟩ | ⟨c',A,f,hc',hbk,hm,hs',hf,hpl,hvv,hso⟩
 ·rw[h3] at hc;cases hc
 rw[hc'] at hc;cases hc;have hsz:A.size=2:=hso rfl;obtain ⟨L⟩:=A
 rcases L with _ | ⟨v0,_ | ⟨v1,_ | ⟨v2,r⟩⟩⟩<;>simp at hsz
 have e0:=hf 0 (by simp[bldB]) 0 (by simp[bldB]);have e1:=hf 0 (by simp[bldB]) 1 (by simp[bldB]);simp[bldB] at e0 e1;subst e0 e1;exact ⟨_,_,hbk,hvv 0 (by simp[bldB]) 0 (by simp[bldB]),hvv 0 (by simp[bldB]) 1 (by simp[bldB])⟩
theorem J9y {κ:KM} {w:World} {N:Nat→Prop} {b g off len:Nat} {v:Value} (h:VR κ w N (.own b g off len) v):∃ ao n' cap,v=.slice ao n' cap:=by
 cases h<;>exact ⟨_,_,_,rfl⟩
theorem JG3 {gh:Gh} {κ:KM} {H:Hp} {w:World} {b g c d γ len n' cap:Nat} {ao:Option Addr} {p buf:AV} (hr:HRel gh κ H w) (hb:H b=some (g,bldB p buf)) (hs:VR κ w (Nset gh.O κ H) (.op b g 0 0) (.pointer (some ⟨c,0,none⟩))) (hp:p.cells=[p]) (hbc:buf.cells=[buf])
  (hx:VR κ w (Nset gh.O κ H) (.own d γ 0 len) (.slice ao n' cap)) :
  ∃ κ',HRel gh κ' (setH H b (some (g,bldB p (.own d γ 0 len)))) (w.setCell ⟨c,1,none⟩ (.slice ao n' cap))∧∀ {y:AV} {v:Value},VR κ w (Nset gh.O κ H) y v→VR κ' (w.setCell ⟨c,1,none⟩ (.slice ao n' cap)) (Nset gh.O κ' (setH H b (some (g,bldB p (.own d γ 0 len))))) y v:=by
 obtain ⟨v0,v1,hbk,_,_⟩:=JB8 hr hb hs hp hbc;obtain ⟨K,hκ,hc,hn⟩:=J9z hs
 have hptr:VR κ w (Nset gh.O κ H) (.op b g 0 1) (.pointer (some ⟨c,1,none⟩)):=by
  have:=VR.op (w:=w) (N:=Nset gh.O κ H) b g 0 1 c K hκ hc hn
  simpa using this
 obtain ⟨up,hup,hex,w',u,κ',hrun,hR,hvr,_,_⟩:=J2w (P:=Tryz.prog) J4V hr (t:=283) hptr hx (C:=fun up=>up=some (b,g,bldB p (.own d γ 0 len))) ⟨_,rfl,rfl,rfl,_,hb,by simp[bldB],by simp[bldB],by simp[AV.cells],by simp[bldB,J5K,over,AV.cells]⟩;subst hup
 have hst:=run_storeCells_at Tryz.prog c 1 solo [.slice ao n' cap] 0 #[v0,v1] w hbk (by simp) (fun v hv=>by
  simp only[List.mem_singleton] at hv;subst hv;rfl)
 have ht:=J0Y (J4V 283 _ rfl)
 have hrun':(Instr.storeAt 283 (.pointer (some ⟨c,1,none⟩)) (.slice ao n' cap)).run Tryz.prog w=.ok () (w.setCell ⟨c,1,none⟩ (.slice ao n' cap)):=by
  rw[setCell_eq_setRow w c 1 _ solo (0,0) _ hbk];simp only[Nat.add_zero] at hst
  simpa [Instr.storeAt,Instr.sureAddr,Sem.run_bind,storeVar,ht.run_size w,Value.cells] using hst
 rw[hrun'] at hrun;cases hrun;exact ⟨κ',hR,hvr⟩
theorem J6U {P:Program} {w:World} {ops:Array Oper} {rest:List Oper} {o:Oper} {a:Act} {Q:Exit→Act→World→Prop} (hgd:o.guard=none) (sl x:Operand) (t u:TypeId)
  (ho:o.op=.call { callee:=.builtin .append,args:=#[sl,x],argTypes:=#[t,u] }) (v:Value) (hs:a.eval sl=v) (s:ByteArray) (hx:a.eval x=.string s) {v':Value} {w':World}
  (hr:(Builtin.append_ #[t,u] o.type #[v,.string s]).run P w=.ok v' w') (h:wpList P ops Q rest (a.put o.dst v') w'):wpList P ops Q (o::rest) a w:=by
 refine wpList_plain hgd fun K hK=>?_;unfold Oper.wp execOp;simp only[ho,resolve,invoke,builtin,Sem.run_bind,Sem.run_pure,Result.andThen_ok,List.map_toArray,List.map_cons,List.map_nil,hs,hx,hr];exact hK _ _ h
theorem J6c {H:Hp} {b g d g0:Nat} {p:AV} {l:List UInt8} {s:ByteArray} (hb:H b=some (g,bldB p (.own d g0 0 l.length))) (hp:p=J34∨p=.op b g 0 0) (hd:H d=some (g0,⟨5,1,BY l⟩)) (hbd:b≠d)
  (hs:l.length+s.size≤140737488355328) :
  HCall Tryz.prog 283 [.op b g 0 0,encS s] H fun r H'=>r=.tup [encI s.size,.val .nilIface]∧∃ γ,H'=setH (setH H d (some (γ,⟨5,1,BY (l++s.data.toList)⟩))) b (some (g,bldB (.op b g 0 0) (.own d γ 0 (l.length+s.size)))):=by
 intro gh κ w vs hr hv;obtain ⟨hlen,hv⟩:=hv;obtain ⟨vl⟩:=vs
 rcases vl with _ | ⟨a,_ | ⟨a2,_ | ⟨a3,r⟩⟩⟩<;>simp at hlen
 have h0:=hv 0 (by simp) (by simp);have h1:=hv 1 (by simp) (by simp);simp only[List.getElem_cons_zero,List.getElem_cons_succ,List.getElem_toArray] at h0 h1;cases h1
 have hcc:=J9e hb hp rfl gh κ w #[a] hr ⟨rfl,fun i h h'=>by
  have:i=0:=by simpa using h
  subst this;exact h0⟩
 cases h0 with
 | op _ _ _ _ c K hκ hc hn=>
 simp only[Nat.add_zero,Nat.zero_mul] at hcc ⊢;have L:Lays.n166 Tryz.prog Tryz.lays156_ren:={ J15 with };have X:=J0U;have hcc':Calls Tryz.prog (Tryz.lays156_ren.f 240) _ _ _:=hcc;have e5:Tryz.lays156_ren.t 5=5:=rfl;have e72:Tryz.lays156_ren.t 72=solo:=rfl;have hT:=J4V;show Calls Tryz.prog (Tryz.lays156_ren.f 166) _ _ _
 clear hcc;generalize Tryz.lays156_ren=ρ at L X hcc' e5 e72 ⊢;obtain ⟨i0,hi,hz0,hz1,hz2⟩:=info_parts X.infoByte;have mixed:=L.mixed;have t72:=L.t72;have a72:=L.a72;have z72:=L.z72;have v72:=L.v72;have u72:=run_underlying L.t72;have t70:=L.t70;have a70:=L.a70;have z70:=L.z70;have v70:=L.v70;have u70:=run_underlying L.t70;have t37:=L.t37;have a37:=L.a37;have z37:=L.z37;have v37:=L.v37;have u37:=run_underlying L.t37;have t3:=L.t3;have a3:=L.a3;have z3:=L.z3;have v3:=L.v3;have u3:=run_underlying L.t3;have t9:=L.t9;have a9:=L.a9;have z9:=L.z9;have v9:=L.v9;have u9:=run_underlying L.t9;have t4:=L.t4;have a4:=L.a4;have z4:=L.z4;have v4:=L.v4;have u4:=run_underlying L.t4;have t164:=L.t164;have a164:=L.a164;have z164:=L.z164;have v164:=L.v164;have u164:=run_underlying L.t164;have t5:=X.t5;have a5:=X.a5;have z5:=X.z5;have v5:=X.v5;have u5:=run_underlying X.t5;have e240:∀ args w,(callFunc (ρ.f 240) args).run Tryz.prog w=.ok (.enter (ρ.f 240) args) w:=enters_of L.f240 (by kernel_rfl) rfl
 go_enter L.f166,Body.n166_ntmps ρ
 go_wp2_with (go_at_fn (ρ.f 240);refine hcc'.mono ?_)
 rintro e w1 ⟨v0,r0,H1,κ1,he,⟨hr0,hH1⟩,hr1,hv0,ht1⟩;subst he hr0 hH1
 have hself:VR κ w (Nset gh.O κ H) (.op b g 0 0) (.pointer (some ⟨c,0,none⟩)):=by
  have:=VR.op (w:=w) (N:=Nset gh.O κ H) b g 0 0 c K hκ hc hn
  simpa using this
 have hself:=ht1 hself;have hb1:(setH H b (some (g,bldB (.op b g 0 0) (.own d g0 0 l.length)))) b=some (g,bldB (.op b g 0 0) (.own d g0 0 l.length)):=by simp[setH]
 have hd1:(setH H b (some (g,bldB (.op b g 0 0) (.own d g0 0 l.length)))) d=some (g0,⟨5,1,BY l⟩):=by rw[setH,if_neg (Ne.symm hbd)];exact hd
 generalize hH1:setH H b (some (g,bldB (.op b g 0 0) (.own d g0 0 l.length)))=H1 at hr1 hv0 ht1 hself hb1 hd1;obtain ⟨p1,v,hbk,_,hv1⟩:=JB8 hr1 hb1 hself rfl rfl;have c1:w1.cell? ⟨c,1,none⟩=some v:=by rw[Lib.cell_of_heap hbk];rfl
 obtain ⟨G,hG⟩:=hr1.fresh;obtain ⟨v',w2,κ2,hrun,hr2,ht2,hv2,hk2⟩:=J9P (P:=Tryz.prog) (ty:=ρ.t 37) (u:=ρ.t 9) hr1 (d:=d) (g:=g0) (γ:=G) (s:=s) L.t37 L.t9 hi hz0 hz1 hz2 (by rw[e5];decide) (hG _ _ (Nat.le_refl _)) (by rw[e5];exact hd1) hv1 hs;rw[e5] at hr2 ht2 hv2;have hself2:=ht2 hself;have hb2:app H1 (some (d,G,⟨5,1,BY (l++s.data.toList)⟩)) b=some (g,bldB (.op b g 0 0) (.own d g0 0 l.length)):=by simp only[app,setH];rw[if_neg hbd];exact hb1
 generalize hH2:app H1 (some (d,G,⟨5,1,BY (l++s.data.toList)⟩))=H2 at hr2 ht2 hv2 hself2 hb2;obtain ⟨p2,v2,hbk2,_,_⟩:=JB8 hr2 hb2 hself2 rfl rfl;have d1:w2.cell? ⟨c,1,none⟩=some v2:=by rw[Lib.cell_of_heap hbk2];rfl
 have f1:w2.frozen? ⟨c,1,none⟩=false:=Lib.frozen_of_heap hbk2 1;obtain ⟨ao,n',cap,rfl⟩:∃ ao n' cap,v'=.slice ao n' cap:=J9y hv2
 go_wp2_with (at_builtin;refine J6U rfl _ _ (ρ.t 37) (ρ.t 9) rfl v rfl s rfl hrun ?_)
 go_ret2
 obtain ⟨κ3,hr3,ht3⟩:=JG3 hr2 hb2 hself2 rfl rfl hv2;subst hH2 hH1
 have eH:∀ z,setH (app (setH H b z) (some (d,G,⟨5,1,BY (l++s.data.toList)⟩))) b (some (g,bldB (.op b g 0 0) (.own d G 0 (l.length+s.size))))=setH (setH H d (some (G,⟨5,1,BY (l++s.data.toList)⟩))) b (some (g,bldB (.op b g 0 0) (.own d G 0 (l.length+s.size)))):=by
  intro z;funext x;simp only[app,setH];split<;>(try split)<;>rfl
 rw[eH] at hr3 ht3
 exact ⟨_,.tup [encI s.size,.val .nilIface],_,κ3,rfl,⟨rfl,_,rfl⟩,hr3,.tup _ _ rfl (fun i h h'=>by
  match i,h with
  | 0,_=>exact .val _ rfl
  | 1,_=>exact .val _ rfl),fun h=>ht3 (ht2 (ht1 h))⟩
theorem HRel.drop {gh:Gh} {κ:KM} {H:Hp} {w w':World} {d g c:Nat} {B:Blk} {K:KI} (hr:HRel gh κ H w) (hd:H d=some (g,B)) (hκ:κ d g=some K) (hc:K.c=some c) (hs:w.heap.size≤w'.heap.size) (hb:∀ k,k<w.heap.size→k≠c→w'.heap[k]?=w.heap[k]?) (ho:w'.os=w.os) (ht:w'.tape=w.tape) (hu:w'.output=w.output) :
  HRel gh κ (rem H [d]) w'∧∀ {x:AV} {u:Value},VR κ w (Nset gh.O κ H) x u→VR κ w' (Nset gh.O κ (rem H [d])) x u:=by
 have hag:Agree (Nset gh.O κ H) w w':=⟨hs,fun k hk hn=>hb k hk fun e=>hn (.inr ⟨d,g,B,K,hd,hκ,e ▸ hc⟩)⟩;have hr':=hr.rem [d];have tr:∀ {x:AV} {u:Value},VR κ w (Nset gh.O κ H) x u→VR κ w' (Nset gh.O κ (rem H [d])) x u:=fun h=>h.step (KM.le.refl _) hag fun k _ h=>J0Q [d] h;have hag':Agree (Fw.Own κ H) w w':=⟨hs,fun k hk hn=>hb k hk fun e=>hn ⟨d,g,B,K,hd,hκ,e ▸ hc⟩⟩;refine ⟨⟨fun b g' B' h=>?_,hr'.inj,hr'.mine,hr.keep hag',ho.trans hr.os,ht.trans hr.tape,hu.trans hr.output,hr.fresh,hr.apart⟩,tr⟩;obtain ⟨K',hk,hbr⟩:=hr'.blk _ _ _ h
 have hbd:b≠d:=by
  rintro rfl;simp[Fw.rem] at h
 have hHb:H b=some (g',B'):=by
  unfold Fw.rem at h;split at h
  ·cases h
  ·exact h
 obtain ⟨K2,hk2,hbr2⟩:=hr.blk _ _ _ hHb;exact ⟨K2,hk2,hbr2.step (KM.le.refl _) hag (fun k _ h=>J0Q [d] h) fun k hk=>hb k (hr.lt ⟨b,g',B',K2,hHb,hk2,hk⟩) fun e=>hbd (hr.inj _ _ _ _ _ _ _ _ c hHb hd hk2 hκ (e ▸ hk) hc)⟩
end Go.Proofs.YtlblbldolhiokaaGreatDoor
namespace Go.Proofs.YtlblbldolhiokaaGreatDoor
open Go Go.Fw
theorem JI4 {e:Nat} {H:Hp} {b g d g0:Nat} {p:AV} {l:List UInt8} (s:ByteArray) {args:List AV} {C:AV→Hp→Prop} (ha:args=[.op b g 0 0,encS s]) (hb:H b=some (g,bldB p (.own d g0 0 l.length))) (hpf:p=J34∨p=.op b g 0 0) (hd:H d=some (g0,⟨5,1,BY l⟩)) (hbd:b≠d)
  (hs:l.length+s.size≤140737488355328) (h:∀ γ,∃ m,hpOk (setH (setH H d (some (γ,⟨5,1,BY (l++s.data.toList)⟩))) b (some (g,bldB (.op b g 0 0) (.own d γ 0 (l++s.data.toList).length)))) m∧C (.tup [encI s.size,.val .nilIface]) (hp m)) :
  CallP (E e) 283 args H C:=by
 subst ha;refine CallP.own c283 (HCall.mono (J6c hb hpf hd hbd hs) ?_);rintro r h' ⟨rfl,γ,rfl⟩;obtain ⟨m,h1,h2⟩:=h γ;have e1:l.length+s.size=(l++s.data.toList).length:=by rw[List.length_append];rfl
 rw[e1];exact ⟨hp m,h1.sub,h2⟩
def eqF (w:ByteArray) (q:Eqn):ByteArray:=w++b1 32++q.name++b1 32++showF q.left++b1 32++showF q.right++b1 10
def eqsL (w:ByteArray):List Eqn→List UInt8
 | []=>[]
 | q::r=>(eqF w q).data.toList++eqsL w r
structure QnOk (q:Eqn):Prop where
 n:q.name.size<2^35
 l:SzE q.left∧TxE q.left∧builtF q.left=true∧wtF q.left≤1000
 r:SzE q.right∧TxE q.right∧builtF q.right=true∧wtF q.right≤1000
theorem J2m {e:Ex} (h:TxE e) (hb:builtF e=true) (hw:wtF e≤1000):(showF e).size≤2^32:=by
 have:=J6m e hb h;have h2:(2^21+20)*wtF e≤(2^21+20)*1000:=Nat.mul_le_mul_left _ hw;omega
theorem JHV {w:ByteArray} {q:Eqn} (hw:w.size≤10) (h:QnOk q):(eqF w q).size≤2^36:=by
 have h1:=J2m h.l.2.1 h.l.2.2.1 h.l.2.2.2;have h2:=J2m h.r.2.1 h.r.2.2.1 h.r.2.2.2;have h3:=h.n;unfold eqF;simp only[J0K];show _+1+_+1+_+1+_+1≤_
 omega
theorem JGf (w:ByteArray) (hw:w.size≤10) (qs:List Eqn) (hq:∀ q∈qs,QnOk q) (hn:qs.length≤120) (p:AV) (g g1:Nat) (hpf:p=J34∨p=.op 50 g 0 0) (l:List UInt8) (hl:l.length≤2^46) :
  HCall Tryz.prog 285 [encS w,.sl 9 (qs.map J0O),.op 50 g 0 0] (hp [(50,g,bldB p (.own 51 g1 0 l.length)),(51,g1,⟨5,1,BY l⟩)])
   (fun r h=>r=.tup []∧∃ p' g',(p'=J34∨p'=.op 50 g 0 0)∧h=hp [(50,g,bldB p' (.own 51 g' 0 (l++eqsL w qs).length)),(51,g',⟨5,1,BY (l++eqsL w qs)⟩)]):=by
 refine J3a (E:=E 0) J4V (JK7 0) Tryz.func285 rfl (by rfl) (Nat.le_of_ble_eq_true rfl) ?_;have hml:=@List.length_map _ _ qs J0O;generalize hR:l++eqsL w qs=R;(refine kWQ ?_;repeat intro γ)
 refine LoopP.intro (fun k σ H=>∃ p' g1 i,∃ t:List UInt8,k=qs.length-i∧i≤qs.length∧t.length≤i*2^36+2^46∧(p'=J34∨p'=.op 50 g 0 0)∧t++eqsL w (qs.drop i)=R ∧
   σ=fr [(0,encS w),(2,.op 50 g 0 0),(7,.sl 9 (qs.map J0O)),(8,encI qs.length),(9,encI i)] ∧
   H=hp [(50,g,bldB p' (.own 51 g1 0 t.length)),(51,g1,⟨5,1,BY t⟩)]) ?_ ?_
 ·exact .intro (W.of ⟨_,p,g1,0,l,rfl,Nat.zero_le _,by omega,hpf,hR,rfl,rfl⟩ ⟨rfl,rfl,rfl,rfl,rfl,trivial⟩ ⟨rfl,rfl,trivial⟩)
 ·rintro k σ H ⟨p',g1,i,t,rfl,hi,ht,hpf,hT,rfl,rfl⟩
  rcases Nat.lt_or_ge i qs.length with h1 | h1
  ·rw[List.drop_eq_getElem_cons h1] at hT;have hqi:=hq _ (List.getElem_mem h1);have hs1:=JEL _ hqi.l.1 hqi.l.2.1 hqi.l.2.2.1 hqi.l.2.2.2;have hs2:=JEL _ hqi.r.1 hqi.r.2.1 hqi.r.2.2.1 hqi.r.2.2.2;have hz:=JHV hw hqi;have hz1:=J2m hqi.l.2.1 hqi.l.2.2.1 hqi.l.2.2.2;have hz2:=J2m hqi.r.2.1 hqi.r.2.2.1 hqi.r.2.2.2;have hzn:=hqi.n;rw[J08] at hs1 hs2;(refine kWO ?_;repeat intro γ)
   (simp (disch:=omega) only [LG];refine kW ?_)
   (refine kO ?_;repeat intro γ);generalize qs[i]=q at *;obtain ⟨qn,ql,qr⟩:=q;simp only at hs1 hs2 hz1 hz2 hzn;unfold eqsL at hT;unfold eqF at hT hz;simp only[b1] at hT hz;generalize showF ql=sl at *;generalize showF qr=sr at *;have z1:({ data:=#[32] }:ByteArray).size=1:=rfl;have z2:({ data:=#[10] }:ByteArray).size=1:=rfl;have y1:=J0K w { data:=#[32] };have y2:=J0K (w++{ data:=#[32] }) qn;have y3:=J0K (w++{ data:=#[32] }++qn) { data:=#[32] };have y4:=J0K (w++{ data:=#[32] }++qn++{ data:=#[32] }) sl;have y5:=J0K (w++{ data:=#[32] }++qn++{ data:=#[32] }++sl) { data:=#[32] };have y6:=J0K (w++{ data:=#[32] }++qn++{ data:=#[32] }++sl++{ data:=#[32] }) sr;have y7:=J0K (w++{ data:=#[32] }++qn++{ data:=#[32] }++sl++{ data:=#[32] }++sr) { data:=#[10] };refine J1E [(16,false),(17,true)] (by kernel_rfl) ?_;(refine kWQ ?_;repeat intro γ);refine CallG.intro _ c128 hs1 ?_;(refine kWQ ?_;repeat intro γ);refine CallG.intro _ c128 hs2 ?_;(refine kWQ ?_;repeat intro γ);refine JI4 (b:=50) (g:=g) (d:=51) (g0:=g1) (p:=p') (l:=t) (w++{ data:=#[32] }++qn++{ data:=#[32] }++sl++{ data:=#[32] }++sr++{ data:=#[10] }) (by kernel_rfl) rfl hpf rfl (by decide) (by omega) fun γ=>⟨[(6,_,⟨58,9,[J0O ⟨qn,ql,qr⟩]⟩),(50,g,_),(51,γ,_)],⟨rfl,rfl,rfl,trivial⟩,?_⟩;(refine kWQ ?_;repeat intro γ);obtain ⟨z,hzz⟩:∃ z,w++{ data:=#[32] }++qn++{ data:=#[32] }++sl++{ data:=#[32] }++sr++{ data:=#[10] }=z:=⟨_,rfl⟩;rw[hzz] at hT hz ⊢;have hzl:z.data.toList.length=z.size:=rfl
   refine .intro <| W.of ⟨_,by omega,.op 50 g 0 0,γ,i+1,t++z.data.toList,rfl,h1,by rw[List.length_append,hzl];omega,.inr rfl,by rw[List.append_assoc];exact hT,rfl,rfl⟩ ⟨rfl,rfl,rfl,rfl,rfl,trivial⟩ ⟨rfl,rfl,trivial⟩
  ·rw[List.drop_eq_nil_of_le h1] at hT;(refine kWQ ?_;repeat intro γ);refine EndH.of (m:=[(50,g,bldB p' (.own 51 g1 0 t.length)),(51,g1,⟨5,1,BY t⟩)]) ⟨rfl,rfl,trivial⟩ ⟨rfl,p',g1,hpf,?_⟩;rw[← hT];unfold eqsL;rw[List.append_nil]
def ExOk (e:Ex):Prop:=SzE e∧TxE e∧builtF e=true∧wtF e≤1000
structure AcOk (a:Ac):Prop where
 k:0≤a.kind∧a.kind≤1
 n:a.var.size<2^35
 e:ExOk a.value
structure WnOk (w:Whn):Prop where
 n:w.name.size<2^35
 e:ExOk w.cond
 l:w.acts.length≤20
 a:∀ a∈w.acts,AcOk a
structure VaOk (v:Va):Prop where
 s:v.name.size<2^35∧v.value.size<2^35∧v.start.size<2^35∧v.unit.size<2^35
 k:0≤v.kind∧v.kind≤3
 t:0≤v.type∧v.type≤1
structure TextOk (s:Sys):Prop where
 lv:s.vars.length≤120
 lq:s.eqs.length≤120
 ln:s.inits.length≤120
 lw:s.whens.length≤120
 v:∀ v∈s.vars,VaOk v
 q:∀ q∈s.eqs,QnOk q
 n:∀ q∈s.inits,QnOk q
 w:∀ w∈s.whens,WnOk w
theorem CallP.eqs {S:Blk} {gs g g1:Nat} {p:AV} (hpf:p=J34∨p=.op 3 g 0 0) (w:ByteArray) (hw:w.size≤10) {qs:List Eqn} (hq:∀ q∈qs,QnOk q) (hn:qs.length≤120) {t:List UInt8} (ht:t.length≤2^46) {args:List AV} {C:AV→Hp→Prop}
  (ha:args=[encS w,.sl 9 (qs.map J0O),.op 3 g 0 0])
  (hC:∀ p' g',(p'=J34∨p'=.op 3 g 0 0)→C (.tup []) (hp [(1,gs,S),(3,g,bldB p' (.own 100 g' 0 (t++eqsL w qs).length)),(100,g',⟨5,1,BY (t++eqsL w qs)⟩)])) :
  CallP (E 0) 285 args (hp [(1,gs,S),(3,g,bldB p (.own 100 g1 0 t.length)),(100,g1,⟨5,1,BY t⟩)]) C:=by
 subst ha
 have key:∀ p0,(p0=J34∨p0=.op 50 g 0 0)→p=mv (fun b=>some (fwd 1000000 [(50,3),(51,100)] b)) 2 p0→CallP (E 0) 285 [encS w,.sl 9 (qs.map J0O),.op 3 g 0 0] (hp [(1,gs,S),(3,g,bldB p (.own 100 g1 0 t.length)),(100,g1,⟨5,1,BY t⟩)]) C:=by
  intro p0 h0 hp0;refine CallP.frame 1000000 [(50,3),(51,100)] rfl c285 (JGf w hw qs hq hn p0 g g1 h0 t ht) rfl ⟨?_,J17 (fun b:UInt8=>AV.val (.int .u8 (b.toNat:Int))) _ (fun _=>rfl) ..,trivial⟩ ?_
  ·rcases h0 with rfl | rfl
   ·subst hp0;rfl
   ·subst hp0;rfl
  ·rintro r0 h' ⟨rfl,p',g',h2,rfl⟩;refine ⟨[(1,gs,S),(3,g,bldB (mv (fun b=>some (fwd 1000000 [(50,3),(51,100)] b)) 2 p') (.own 100 g' 0 (t++eqsL w qs).length)),(100,g',⟨5,1,BY (t++eqsL w qs)⟩)],⟨rfl,rfl,J17 (fun b:UInt8=>AV.val (.int .u8 (b.toNat:Int))) _ (fun _=>rfl) ..,trivial⟩,hC _ _ ?_⟩
   rcases h2 with rfl | rfl
   ·exact .inl rfl
   ·exact .inr rfl
 rcases hpf with rfl | rfl
 ·exact key J34 (.inl rfl) rfl
 ·exact key (.op 50 g 0 0) (.inr rfl) rfl
def opE (o:ByteArray) (l:List Ex):Ex:=.mk o ⟨#[]⟩ 0 l
def numE (t:ByteArray):Ex:=.mk oNum t 0 []
def refE (t:ByteArray) (n:Int):Ex:=.mk oVar t n []
def GdE (e:Ex):Prop:=SzE e∧TxE e
theorem J85 {o t:ByteArray} {n:Int} {l:List Ex} (h1:o.size≤100) (h2:t.size≤100) (h3:l.length≤100) (h:∀ e∈l,GdE e):GdE (.mk o t n l):=
 ⟨SzE.mk (by omega) (by omega) (by omega) fun k hk=>(h k hk).1,TxE.mk (by omega) fun k hk=>(h k hk).2⟩
theorem JEg (s:ByteArray):PureCall Tryz.prog 237 [encS s] (encE (numE s)):=by
 refine J2f (r:=.agg [encS ⟨#[110,117,109]⟩,encS s,encI 0,.val (.slice none 0 0)]) ?_ 3 ?_
 ·refine PC [] Tryz.func237 rfl (by rfl) rfl ?_;refine kWQ ?_;intros;exact .of rfl
 ·rw[J01];simp[leN,allB,valB,encS,encI,numE,oNum,oVar,Ex.op,Ex.text,Ex.order,Ex.kids]
theorem JKR (o:ByteArray) (l:List Ex):PureCall Tryz.prog 238 [encS o,.sl 4 (l.map encE)] (.agg [encS o,encS ⟨#[]⟩,encI 0,.sl 4 (l.map encE)]):=by
 refine PC [] Tryz.func238 rfl (by rfl) rfl ?_;refine kWQ ?_;intros;exact .of rfl
theorem JJV {S:List Nat} {H:Hp} {k:Nat} {L:List AV} {n:Nat} {xs:List Ex} (h:L=xs.map encE) (hn:n=xs.length):AV.sl 4 (((L.drop 0).take n).map (J0R (J09 S H k)))=.sl 4 (xs.map encE):=by
 subst h;rw[J0e _ _ _ _ hn fun x=>by rw[J01];cases k<;>rfl]
theorem J1m {b p e n:Nat} {H:Hp} {out:List Ex} (hb:H b=some (p,⟨e,4,out.map encE⟩)) (hn:n=out.length):snap [b] H (.own b p 0 n)=.sl 4 (out.map encE):=by
 rw[J1b (by simp) hb (by simp[hn]),J0e _ _ _ _ hn fun v=>by rw[J01];rfl]
theorem J9f (e:Ex):SzE e→wtF e≤1000→PureCall Tryz.prog 92 [encE e] (encE e):=by
 induction e using J1K with
 | h e ih=>
   intro hz hw;have ihk:=fun k hk=>ih k hk (hz.kid k hk) (by have:=J8d hk;omega);have hwt:wtL e.kids≤1000:=by have:=J4X e;omega
   have hlen:e.kids.length≤1000:=Nat.le_trans (J45 _) hwt;clear ih;refine PC [17] Tryz.func92 rfl (by rfl) rfl ?_;rw[J01];obtain ⟨o,t,od,es⟩:=e;simp only[Ex.op,Ex.text,Ex.order,Ex.kids] at *;have hml:=@List.length_map _ _ es encE;(refine kWQ ?_;repeat intro γ)
   refine LoopP.intro (fun j σ H=>∃ g1 g2 gl i,∃ l:List Ex,j=es.length-i∧i≤es.length∧l=es.take i ∧
    σ=fr [(1,.op 1 g1 0 0),(2,.op 2 g2 0 0),(3,.own 17 gl 0 l.length),(7,.sl 4 (es.map encE)),(8,encI es.length),(9,encI i)] ∧
    H=hp [(1,g1,⟨29,4,[.agg [encS o,encS t,encI od,.sl 4 (es.map encE)]]⟩),(2,g2,⟨29,4,[nilE]⟩),(17,gl,⟨29,4,l.map encE⟩)]) ?_ ?_
   ·exact .intro (J2I 3 17 29 4 rfl rfl fun gl=>W.of ⟨_,_,_,gl,0,[],rfl,Nat.zero_le _,rfl,rfl,rfl⟩ ⟨rfl,rfl,rfl,rfl,(by first | rfl | exact congrArg (fun n:Nat=>encI n) hml),rfl,trivial⟩ ⟨rfl,rfl,rfl,trivial⟩)
   rintro j σ H ⟨g1,g2,gl,i,l,rfl,hi,hl,rfl,rfl⟩;have hmt:=@List.length_map _ _ l encE;have htl:l.length=i:=by rw[hl,List.length_take];omega
   rcases Nat.lt_or_ge i es.length with h9 | h9
   ·have hk:=ihk _ (List.getElem_mem h9);have htk:es.take (i+1)=l++[es[i]]:=by rw[List.take_succ_eq_append_getElem h9,hl]
    obtain ⟨k,hkk⟩:∃ k,es[i]=k:=⟨_,rfl⟩;rw[hkk] at hk htk;rw[J01] at hk;clear hl;(refine kWQ ?_;repeat intro γ);simp only[hkk,J01];(refine kQ ?_;repeat intro γ);refine J00 [] _ c92 hk ?_;(refine kWQ ?_;repeat intro γ)
    refine .intro <| W.of ⟨_,by omega,g1,g2,γ,i+1,l++[k],rfl,h9,htk.symm,rfl,rfl⟩ ⟨rfl,rfl,?_,rfl,rfl,rfl,trivial⟩ ⟨rfl,rfl,?_,trivial⟩
    ·exact congrArg (AV.own 17 _ 0) (by simp)
    ·have e1:(l++[k]).map encE=l.map encE++[.agg [encS k.op,encS k.text,encI k.order,.sl 4 (k.kids.map encE)]]:=by rw[List.map_append,← J01];rfl
     rw[e1];rfl
   ·obtain rfl:i=es.length:=by omega
    rw[List.take_length] at hl;subst hl;(refine kWQ ?_;repeat intro γ);refine .of ?_;exact congrArg (fun z=>AV.agg [encS o,encS t,encI od,z]) (JJV rfl rfl)
mutual
def highF:Ex→Bool
 | .mk o t n es=>(decide (o=oVar)&&decide (n=6))||JJO es
def JJO:List Ex→Bool
 | []=>false
 | e::es=>highF e||JJO es
end
theorem J99:∀ es:List Ex,JJO es=es.any highF
 | []=>rfl
 | e::es=>by rw[List.any_cons,← J99 es];rfl
theorem JHF (e:Ex):highF e=((decide (e.op=oVar)&&decide (e.order=6))||e.kids.any highF):=by
 cases e with
 | mk o t n es=>rw[← J99];rfl
theorem JD4 (e:Ex):SzE e→PureCall Tryz.prog 161 [encE e] (encB (highF e)):=by
 induction e using J1K with
 | h e ih=>
   intro hz;obtain ⟨o,t,od,es⟩:=e;have hC:=J4f 161 highF es hz.len c161 fun k hk=>ih k hk (hz.kid k hk);have hG:highF (.mk o t od es)=((decide (o=oVar)&&decide (od=6))||es.any highF):=JHF _;clear ih;refine PC [] Tryz.func161 rfl (by rfl) rfl ?_;obtain ⟨F,hF⟩:∃ F,highF (.mk o t od es)=F:=⟨_,rfl⟩;rw[hF];rw[hG] at hF;clear hG;rw[show encE (.mk o t od es)=.agg [encS o,encS t,encI od,.sl 4 (es.map encE)] from J01 _];generalize es.any highF=an at *
   by_cases h1:o=oVar
   ·rw[decide_eq_true h1,Bool.true_and] at hF
    by_cases h2:od=6
    ·rw[decide_eq_true h2,Bool.true_or] at hF;refine kWS ?_;intros;exact .of (by rw[← hF];rfl)
    ·rw[decide_eq_false h2,Bool.false_or] at hF;refine kWS ?_;intros;refine CallP.flat [] _ c202 hC rfl ?_;refine kWS ?_;intros;exact .of (by rw[← hF];rfl)
   ·rw[decide_eq_false h1,Bool.false_and,Bool.false_or] at hF;refine kWS ?_;intros;refine CallP.flat [] _ c202 hC rfl ?_;refine kWS ?_;intros;exact .of (by rw[← hF];rfl)
def JD1 (ks:List (ByteArray×Va)) (t:ByteArray):Int:=match J0m ks t with
 | some v=>v.kind
 | none=>0
def dE:Ex:=numE ⟨#[48]⟩
def derG (ks:List (ByteArray×Va)) (o t:ByteArray) (n:Int) (es ds:List Ex):Ex:=
 if o=oTime then numE ⟨#[49]⟩
 else if o=oVar then (if JD1 ks t=0∨JD1 ks t=3 then refE t (n+1) else dE)
 else if o=oNum∨o=oPre then dE
 else if o=oIf then opE oIf [es.getD 0 dE,ds.getD 1 dE,ds.getD 2 dE]
 else if o=oNeg then opE oNeg [ds.getD 0 dE]
 else if o=oAdd∨o=oSub then opE o [ds.getD 0 dE,ds.getD 1 dE]
 else if o=oMul then opE oAdd [opE oMul [ds.getD 0 dE,es.getD 1 dE],opE oMul [es.getD 0 dE,ds.getD 1 dE]]
 else opE oDiv [opE oSub [opE oMul [ds.getD 0 dE,es.getD 1 dE],opE oMul [es.getD 0 dE,ds.getD 1 dE]],opE oMul [es.getD 1 dE,es.getD 1 dE]]
mutual
def derF (ks:List (ByteArray×Va)):Ex→Ex
 | .mk o t n es=>derG ks o t n es (derL ks es)
def derL (ks:List (ByteArray×Va)):List Ex→List Ex
 | []=>[]
 | e::es=>derF ks e::derL ks es
end
theorem JC4 (ks:List (ByteArray×Va)):∀ es:List Ex,derL ks es=es.map (derF ks)
 | []=>rfl
 | e::es=>by rw[List.map_cons,← JC4 ks es];rfl
theorem JFU (ks:List (ByteArray×Va)) (e:Ex):derF ks e=derG ks e.op e.text e.order e.kids (e.kids.map (derF ks)):=by
 cases e with
 | mk o t n es=>rw[← JC4];rfl
theorem JC0 (t:ByteArray) (n:Int):Fw.Ends (.agg [encS oVar,encS t,encI n,.val (.slice none 0 0)]) (encE (refE t n)):=by
 have h:=Le.cons (Le.refl (encS oVar)) (Le.cons (Le.refl (encS t)) (Le.cons (Le.refl (encI n)) (Le.cons (Le.nil 4) J2h)));rw[show encE (refE t n)=.agg [encS oVar,encS t,encI n,.sl 4 []] from J01 _];exact ⟨Le.agg h.1 h.2⟩
theorem JFT (ks:List (ByteArray×Va)) (e:Ex):SzE e→TxE e→builtF e=true→(typeF ks e).2=true→(typeF ks e).1≠1→wtF e≤1000→PureCall Tryz.prog 162 [encK ks,encE e] (encE (derF ks e)):=by
 induction e using J1K with
 | h e ih=>
   intro hz hx hb ht h1 hw;have ihk:=fun k hk=>ih k hk (hz.kid k hk) (hx.kid k hk) ((J0W hb).2 k hk) (JCZ hb ht k hk);have hwk:∀ k∈e.kids,wtF k≤1000:=fun k hk=>by have:=J8d hk;omega
   have hcp:=fun k (hk:k∈e.kids)=>J9f k (hz.kid k hk) (hwk k hk);clear ih;have hs:=JGq hb ht;have hord:=J7s hb;have htx:=hx.tx;obtain ⟨o,t,n,es⟩:=e;obtain ⟨r,hr,hm⟩:=J1S encV t ks;have hG:derF ks (.mk o t n es)=derG ks o t n es (es.map (derF ks)):=JFU ks _;refine PC [] Tryz.func162 rfl (by rfl) rfl ?_;obtain ⟨F,hF⟩:∃ F,derF ks (.mk o t n es)=F:=⟨_,rfl⟩;rw[hF];rw[hG] at hF;clear hG;rw[show encE (.mk o t n es)=.agg [encS o,encS t,encI n,.sl 4 (es.map encE)] from J01 _];clear hz hx hb ht hw;have hn1:=JEg ⟨#[49]⟩;have hn0:=JEg ⟨#[48]⟩;have hop:=JKR;rw[J01] at hn1 hn0
   rcases hs with ⟨h,hk,_⟩ | ⟨h,hk,v,hv,_⟩ | ⟨h,a,b,c,hk,ha,hb,hc⟩ | ⟨h,a,b,hk,ha,hb,h2⟩ | ⟨h,a,b,hk,hab,h2⟩ | ⟨h,hk,_⟩ | ⟨h,hk,h2⟩ | ⟨h,a,hk,ha,_⟩ | ⟨h,a,hk,ha,h2⟩ | ⟨h,a,b,hk,ha,hb,h0,h2⟩ | ⟨h,a,b,hk,ha,hb,_⟩ | ⟨h,a,b,hk,ha,hb,h2⟩
   ·have h:o=oNum:=h;subst h;have hF:dE=F:=hF;subst hF;unfold dE;rw[J01];refine kWS ?_;intros;refine J00 [] _ c237 hn0 ?_;refine kWS ?_;intros;exact .of rfl
   ·rcases (show o=oVar∨o=oPre from h) with h | h
    ·have hv2:J0m ks t=some v:=hv;rw[hv2] at hm;subst h;have hF:(if JD1 ks t=0∨JD1 ks t=3 then refE t (n+1) else dE)=F:=hF;have hkk:JD1 ks t=v.kind:=by unfold JD1;rw[hv2]
     rw[hkk] at hF;obtain ⟨q1,q2⟩:=(show 0≤n∧n≤6 from hord rfl)
     cases r with
     | none=>exact hm.elim
     | some ii=>
       have hm:(ks.map fun x=>encV x.2).getD ii .dead=encV v:=hm;refine kWS ?_;intros;refine Need.intro keyst9 ?_;refine kWS ?_;intros;refine LookP.intro (some ii) hr ?_;refine kW ?_;rw[hm];obtain ⟨nm,kd,ty,vl,st,fx,un⟩:=v;simp only at hF
       by_cases k0:kd=0
       ·rw[if_pos (.inl k0)] at hF;subst hF;refine kS ?_;intros;exact JC0 t (n+1)
       by_cases k3:kd=3
       ·rw[if_pos (.inr k3)] at hF;subst hF;refine kS ?_;intros;exact JC0 t (n+1)
       rw[if_neg (by rintro (h | h);exact k0 h;exact k3 h)] at hF;subst hF;unfold dE;rw[J01];refine kS ?_;intros;refine J00 [] _ c237 hn0 ?_;refine kWS ?_;intros;exact .of rfl
    ·subst h;have hF:dE=F:=hF;subst hF;unfold dE;rw[J01];refine kWS ?_;intros;refine J00 [] _ c237 hn0 ?_;refine kWS ?_;intros;exact .of rfl
   ·have h:o=oIf:=h;have hk:es=[a,b,c]:=hk;subst h hk;have hF:opE oIf [a,derF ks b,derF ks c]=F:=hF;subst hF;have cpA:=hcp a (by simp[Ex.kids]);have ihB:=ihk b (by simp[Ex.kids]) (by rw[hb];exact h1) (hwk b (by simp[Ex.kids]));have ihC:=ihk c (by simp[Ex.kids]) (by rw[hc];exact h1) (hwk c (by simp[Ex.kids]));rw[J01] at cpA;rw[J01,J01 (derF ks b)] at ihB;rw[J01,J01 (derF ks c)] at ihC;rw[J01];simp only[List.map_cons,List.map_nil,J01];refine kWS ?_;intros;refine CallG.intro _ c92 cpA ?_;refine kWS ?_;intros;refine CallG.intro _ c162 ihB ?_;refine kWS ?_;intros;refine CallG.intro _ c162 ihC ?_;refine kWS ?_;intros;refine J0X (b:=61) _ c238 rfl rfl (Nat.succ_pos 3) (J03 (congrArg (fun z=>[encS oIf,z]) (J1m (out:=[a,derF ks b,derF ks c]) (by simp only[List.map_cons,List.map_nil,J01,opE,Ex.op,Ex.text,Ex.order,Ex.kids];rfl) rfl)) (hop oIf [a,derF ks b,derF ks c])) ?_;refine kWS ?_;intros;exact .of rfl
   ·exact absurd h2 h1
   ·exact absurd h2 h1
   ·have h:o=oTime:=h;subst h;have hF:numE ⟨#[49]⟩=F:=hF;subst hF;rw[J01];refine kWS ?_;intros;refine J00 [] _ c237 hn1 ?_;refine kWS ?_;intros;exact .of rfl
   ·exact absurd h2 h1
   ·have h:o=oNeg:=h;have hk:es=[a]:=hk;subst h hk;have hF:opE oNeg [derF ks a]=F:=hF;subst hF;have ihA:=ihk a (List.mem_cons_self ..) ha (hwk a (List.mem_cons_self ..));rw[J01,J01 (derF ks a)] at ihA;rw[J01];simp only[List.map_cons,List.map_nil,J01];refine kWS ?_;intros;refine J00 [] _ c162 ihA ?_;refine kWS ?_;intros;refine J00 [73] _ c238 (J03 (congrArg (fun z=>[encS oNeg,z]) (J1m (out:=[derF ks a]) (by simp only[List.map_cons,List.map_nil,J01];rfl) rfl)) (hop oNeg [derF ks a])) ?_;refine kWS ?_;intros;exact .of rfl
   ·exact absurd h2 h1
   ·exact absurd h2 h1
   ·have hk:es=[a,b]:=hk;have h:o=oAdd∨o=oSub∨o=oMul∨o=oDiv:=h;subst hk;have cpA:=hcp a (by simp[Ex.kids]);have cpB:=hcp b (by simp[Ex.kids]);have ihA:=ihk a (by simp[Ex.kids]) ha (hwk a (by simp[Ex.kids]));have ihB:=ihk b (by simp[Ex.kids]) hb (hwk b (by simp[Ex.kids]));rw[J01] at cpA cpB;rw[J01,J01 (derF ks a)] at ihA;rw[J01,J01 (derF ks b)] at ihB;simp only[List.map_cons,List.map_nil,J01 a,J01 b]
    rcases h with rfl | rfl | rfl | rfl
    ·have hF:opE oAdd [derF ks a,derF ks b]=F:=hF;subst hF;rw[J01];refine kWS ?_;intros;refine CallG.intro _ c162 ihA ?_;refine kWS ?_;intros;refine CallG.intro _ c162 ihB ?_;refine kWS ?_;intros;refine J00 [97] _ c238 (J03 (congrArg (fun z=>[encS oAdd,z]) (J1m (out:=[derF ks a,derF ks b]) (by simp only[List.map_cons,List.map_nil,J01,opE,Ex.op,Ex.text,Ex.order,Ex.kids];rfl) rfl)) (hop oAdd [derF ks a,derF ks b])) ?_;refine kWS ?_;intros;exact .of rfl
    ·have hF:opE oSub [derF ks a,derF ks b]=F:=hF;subst hF;rw[J01];refine kWS ?_;intros;refine CallG.intro _ c162 ihA ?_;refine kWS ?_;intros;refine CallG.intro _ c162 ihB ?_;refine kWS ?_;intros;refine J00 [97] _ c238 (J03 (congrArg (fun z=>[encS oSub,z]) (J1m (out:=[derF ks a,derF ks b]) (by simp only[List.map_cons,List.map_nil,J01,opE,Ex.op,Ex.text,Ex.order,Ex.kids];rfl) rfl)) (hop oSub [derF ks a,derF ks b])) ?_;refine kWS ?_;intros;exact .of rfl
    ·have hF:opE oAdd [opE oMul [derF ks a,b],opE oMul [a,derF ks b]]=F:=hF;subst hF;rw[J01];refine kWS ?_;intros;refine CallG.intro _ c162 ihA ?_;refine kWS ?_;intros;refine CallG.intro _ c162 ihB ?_;refine kWS ?_;intros;refine CallG.intro _ c92 cpB ?_;refine kWS ?_;intros;refine J0X (b:=102) _ c238 rfl rfl (Nat.succ_pos 3) (J03 (congrArg (fun z=>[encS oMul,z]) (J1m (out:=[derF ks a,b]) (by simp only[List.map_cons,List.map_nil,J01,opE,Ex.op,Ex.text,Ex.order,Ex.kids];rfl) rfl)) (hop oMul [derF ks a,b])) ?_;refine kWS ?_;intros;refine CallG.intro _ c92 cpA ?_;refine kWS ?_;intros;refine J0X (b:=107) _ c238 rfl rfl (Nat.succ_pos 3) (J03 (congrArg (fun z=>[encS oMul,z]) (J1m (out:=[a,derF ks b]) (by simp only[List.map_cons,List.map_nil,J01,opE,Ex.op,Ex.text,Ex.order,Ex.kids];rfl) rfl)) (hop oMul [a,derF ks b])) ?_;refine kWS ?_;intros;refine J00 [114] _ c238 (J03 (congrArg (fun z=>[encS oAdd,z]) (J1m (out:=[opE oMul [derF ks a,b],opE oMul [a,derF ks b]]) (by simp only[List.map_cons,List.map_nil,J01,opE,Ex.op,Ex.text,Ex.order,Ex.kids];rfl) rfl)) (hop oAdd [opE oMul [derF ks a,b],opE oMul [a,derF ks b]])) ?_;refine kWS ?_;intros;exact .of rfl
    ·have hF:opE oDiv [opE oSub [opE oMul [derF ks a,b],opE oMul [a,derF ks b]],opE oMul [b,b]]=F:=hF;subst hF;rw[J01];refine kWS ?_;intros;refine CallG.intro _ c162 ihA ?_;refine kWS ?_;intros;refine CallG.intro _ c162 ihB ?_;refine kWS ?_;intros;refine CallG.intro _ c92 cpB ?_;refine kWS ?_;intros;refine J0X (b:=102) _ c238 rfl rfl (Nat.succ_pos 3) (J03 (congrArg (fun z=>[encS oMul,z]) (J1m (out:=[derF ks a,b]) (by simp only[List.map_cons,List.map_nil,J01,opE,Ex.op,Ex.text,Ex.order,Ex.kids];rfl) rfl)) (hop oMul [derF ks a,b])) ?_;refine kWS ?_;intros;refine CallG.intro _ c92 cpA ?_;refine kWS ?_;intros;refine J0X (b:=107) _ c238 rfl rfl (Nat.succ_pos 3) (J03 (congrArg (fun z=>[encS oMul,z]) (J1m (out:=[a,derF ks b]) (by simp only[List.map_cons,List.map_nil,J01,opE,Ex.op,Ex.text,Ex.order,Ex.kids];rfl) rfl)) (hop oMul [a,derF ks b])) ?_;refine kWS ?_;intros;refine J0X (b:=118) _ c238 rfl rfl (Nat.succ_pos 3) (J03 (congrArg (fun z=>[encS oSub,z]) (J1m (out:=[opE oMul [derF ks a,b],opE oMul [a,derF ks b]]) (by simp only[List.map_cons,List.map_nil,J01,opE,Ex.op,Ex.text,Ex.order,Ex.kids];rfl) rfl)) (hop oSub [opE oMul [derF ks a,b],opE oMul [a,derF ks b]])) ?_;refine kWS ?_;intros;refine CallG.intro _ c92 cpB ?_;refine kWS ?_;intros;refine CallG.intro _ c92 cpB ?_;refine kWS ?_;intros;refine J0X (b:=124) _ c238 rfl rfl (Nat.succ_pos 3) (J03 (congrArg (fun z=>[encS oMul,z]) (J1m (out:=[b,b]) (by simp only[List.map_cons,List.map_nil,J01,opE,Ex.op,Ex.text,Ex.order,Ex.kids];rfl) rfl)) (hop oMul [b,b])) ?_;refine kWS ?_;intros;refine J0X (b:=126) _ c238 rfl rfl (Nat.succ_pos 3) (J03 (congrArg (fun z=>[encS oDiv,z]) (J1m (out:=[opE oSub [opE oMul [derF ks a,b],opE oMul [a,derF ks b]],opE oMul [b,b]]) (by simp only[List.map_cons,List.map_nil,J01,opE,Ex.op,Ex.text,Ex.order,Ex.kids];rfl) rfl)) (hop oDiv [opE oSub [opE oMul [derF ks a,b],opE oMul [a,derF ks b]],opE oMul [b,b]])) ?_;refine kWS ?_;intros;exact .of rfl
   ·exact absurd h2 h1
theorem J7q {P:Program} {f:Nat} {a a':List AV} {r:AV} (h:PureCall P f a r) (hl:a'.length=a.length∧∀ i (h:i<a'.length) (h':i<a.length),Le a'[i] a[i]):PureCall P f a' r:=by
 intro O w vs hO hv;exact h O w vs hO ⟨hl.1.symm.trans hv.1,fun i h1 h2=>hl.2 i (hl.1.symm ▸ h1) h1 w O _ (hv.2 i (hl.1.symm ▸ h1) h2)⟩
def zE:Ex:=.mk ⟨#[]⟩ ⟨#[]⟩ 0 []
theorem JLN:Le nilE (encE zE):=by
 have h:=Le.cons (Le.refl (encS ⟨#[]⟩)) (Le.cons (Le.refl (encS ⟨#[]⟩)) (Le.cons (Le.refl (encI 0)) (Le.cons (Le.nil 4) J2h)));rw[show encE zE=.agg [encS ⟨#[]⟩,encS ⟨#[]⟩,encI 0,.sl 4 []] from J01 _];exact Le.agg h.1 h.2
theorem J0s (c:Int):Fw.Ends (.tup [nilE,encI c]) (.tup [encE zE,encI c]):=J1L JLN (Le.refl _)
theorem J90 {o:ByteArray} {l:List Ex} (ho:o.size≤8) (hl:l.length≤100) (h:∀ e∈l,GdE e):GdE (opE o l):=J85 (by omega) (by decide) hl h
theorem J5o {l:List Ex} (h:∀ e∈l,GdE e) (i:Nat):GdE (l.getD i dE):=by
 rw[List.getD_eq_getElem?_getD]
 cases hi:l[i]? with
 | none=>exact J85 (by decide) (by decide) (by decide) (by simp)
 | some e=>exact h e (List.mem_of_getElem? hi)
theorem JJi {ks:List (ByteArray×Va)} {o t:ByteArray} {n:Int} {es ds:List Ex} (ht:t.size<2^21) (ho:o.size≤2^60) (hes:∀ e∈es,GdE e) (hds:∀ e∈ds,GdE e):GdE (derG ks o t n es ds):=by
 have hd:GdE dE:=J85 (by decide) (by decide) (by decide) (by simp);have e0:=J5o hes 0;have e1:=J5o hes 1;have d0:=J5o hds 0;have d1:=J5o hds 1;have d2:=J5o hds 2;have two:∀ {o:ByteArray} {a b:Ex},o.size≤8→GdE a→GdE b→GdE (opE o [a,b]):=fun ho ha hb=>J90 ho (by show 2≤100;decide) (by simp only[List.forall_mem_cons,List.not_mem_nil,false_imp_iff,implies_true,and_true];exact ⟨ha,hb⟩);unfold derG;split
 ·exact J85 (by decide) (by decide) (by decide) (by simp)
 ·split
  ·split
   ·exact ⟨SzE.mk (by decide) (by omega) (by decide) (by simp),TxE.mk ht (by simp)⟩
   ·exact hd
  ·split
   ·exact hd
   ·split
    ·exact J90 (by decide) (by show 3≤100;decide) (by simp only[List.forall_mem_cons,List.not_mem_nil,false_imp_iff,implies_true,and_true];exact ⟨e0,d1,d2⟩)
    ·split
     ·exact J90 (by decide) (by show 1≤100;decide) (by simp only[List.forall_mem_cons,List.not_mem_nil,false_imp_iff,implies_true,and_true];exact d0)
     ·split
      ·rename_i h
       rcases h with h | h<;>rw[h]<;>exact two (by decide) d0 d1
      ·split
       ·exact two (by decide) (two (by decide) d0 e1) (two (by decide) e0 d1)
       ·exact two (by decide) (two (by decide) (two (by decide) d0 e1) (two (by decide) e0 d1)) (two (by decide) e1 e1)
theorem JJj (ks:List (ByteArray×Va)) (e:Ex):GdE e→GdE (derF ks e):=by
 induction e using J1K with
 | h e ih=>
   intro h;rw[JFU];refine JJi h.2.low h.1.os (fun k hk=>⟨h.1.kid k hk,h.2.kid k hk⟩) fun x hx=>?_;obtain ⟨k,hk,rfl⟩:=List.mem_map.1 hx;exact ih k hk ⟨h.1.kid k hk,h.2.kid k hk⟩
def derivedF (ks:List (ByteArray×Va)) (e:Ex):Ex×Int:=if highF e then (zE,3) else if tooF (derF ks e) then (zE,2) else (derF ks e,0)
theorem JDC (ks:List (ByteArray×Va)) (e:Ex) (hg:GdE e) (hb:builtF e=true) (ht:(typeF ks e).2=true) (h1:(typeF ks e).1≠1) (hw:wtF e≤1000):PureCall Tryz.prog 77 [encK ks,encE e] (.tup [encE (derivedF ks e).1,encI (derivedF ks e).2]):=by
 refine PC [] Tryz.func77 rfl (by rfl) rfl ?_;have hH:=JD4 e hg.1;have hD:=JFT ks e hg.1 hg.2 hb ht h1 hw;have hT:=J29 (derF ks e) (JJj ks e hg).1;generalize hF:derivedF ks e=F;unfold derivedF at hF;generalize derF ks e=d at *;generalize highF e=h at *;generalize tooF d=tl at *;rw[J01 d] at hT hD;rw[J01 e] at hH hD ⊢
 cases h with
 | true=>
   rw[if_pos rfl] at hF;refine kWQ ?_;intros;refine CallP.flat [] _ c161 hH rfl ?_;refine kWQ ?_;intros;rw[← hF];exact J0s 3
 | false=>
 rw[if_neg (by decide)] at hF;refine kWQ ?_;intros;refine CallP.flat [] _ c161 hH rfl ?_;refine kWQ ?_;intros;refine J00 [] _ c162 hD ?_;refine kWQ ?_;intros;refine CallP.flat [] _ c83 hT rfl ?_
 cases tl with
 | true=>
   rw[if_pos rfl] at hF;refine kWQ ?_;intros;rw[← hF];exact J0s 2
 | false=>
   rw[if_neg (by decide)] at hF;refine kWQ ?_;intros;refine .of ?_;rw[← hF];simp only;rw[J01 d];rfl
def J63 (s:Sys) (x:Ex):Ex×Int:=if numF s x []≠0 then (zE,numF s x []) else derivedF (knownF s.vars) x
theorem JEi {s:Sys} {x:Ex} {l:List U} (h:numF s x l=0):(typeS s x).2=0∧(typeS s x).1=0∧unkF (knownF s.vars) l=true:=by
 unfold numF at h;split at h
 ·rename_i h1;exact absurd h h1
 ·rename_i h1;have h1:(typeS s x).2=0:=Decidable.not_not.1 h1;split at h
  ·cases h
  ·rename_i h2;have h2:(typeS s x).1=0:=Decidable.not_not.1 h2;split at h
   ·cases h
   ·rename_i h3;exact ⟨h1,h2,by cases hh:unkF (knownF s.vars) l;exact absurd hh h3;rfl⟩
theorem JGN (s:Sys) (hs:SzS s) (x:Ex) (hg:GdE x):PureCall Tryz.prog 23 [J0G s,encE x] (.tup [encE (J63 s x).1,encI (J63 s x).2]):=by
 refine PC [] Tryz.func23 rfl (by rfl) rfl ?_;have hN:=J1n s hs x hg.1 hg.2 [] (by simp) (by simp)
 have hN:PureCall Tryz.prog 63 [J0G s,encE x,.val (.slice none 0 0)] (encI (numF s x [])):=by
  refine J7q hN ⟨rfl,fun i h h'=>?_⟩
  match i,h with
  | 0,_=>exact Le.refl _
  | 1,_=>exact Le.refl _
  | 2,_=>exact Le.nil 3
 have hK:=J5k s hs.v;have hz:=@JEi s x [];have hty:=@J3N s x;have hD:=fun hb ht h1 hw=>JDC (knownF s.vars) x hg hb ht h1 hw;generalize hF:J63 s x=F;unfold J63 at hF;generalize numF s x []=nm at *;generalize typeS s x=ty at *;generalize hkv:knownF s.vars=ks at *;generalize derivedF ks x=dd at *;obtain ⟨vs,qs,ns,ws⟩:=s;obtain ⟨d1,d2⟩:=dd;unfold J0G at *;rw[J01 x] at hN hD ⊢;rw[J01 d1] at hD;simp only at *;refine kWQ ?_;intros;refine CallP.flat [] _ c63 hN rfl ?_
 by_cases h0:nm=0
 case' neg=>
  rw[if_pos h0] at hF;refine kWQ ?_;intros;rw[← hF];exact J0s nm
 rw[if_neg (fun h=>h h0)] at hF;obtain ⟨t1,t2,_⟩:=hz h0;obtain ⟨_,htl,hb,ht,h5⟩:=hty t1;have hD:=hD hb ht (by rw[← h5,t2];decide) (by have:=J7e htl;omega);refine kWQ ?_;intros;refine CallG.intro _ c68 hK ?_;refine kWQ ?_;intros;refine CallG.intro _ c77 hD ?_;refine kWQ ?_;intros;refine .of ?_;rw[← hF];simp only;rw[J01 d1];rfl
theorem JDL {b c:Bool} {X Y:Prop} (e:b=c) (h:CondP c X Y):CondP b X Y:=e ▸ h
mutual
def putF (u:U) (b:Ex):Ex→Ex
 | .mk o t n es=>if (o=oVar∨o=oPre)∧(⟨t,n,decide (o=oPre)⟩:U)=u then b else .mk o t n (putL u b es)
def putL (u:U) (b:Ex):List Ex→List Ex
 | []=>[]
 | e::es=>putF u b e::putL u b es
end
theorem JBe (u:U) (b:Ex):∀ es:List Ex,putL u b es=es.map (putF u b)
 | []=>rfl
 | e::es=>by rw[List.map_cons,← JBe u b es];rfl
theorem JAh (u:U) (b e:Ex):putF u b e=if (e.op=oVar∨e.op=oPre)∧useF e=u then b else .mk e.op e.text e.order (e.kids.map (putF u b)):=by
 cases e with
 | mk o t n es=>rw[← JBe];rfl
theorem JAg (u:U) {b:Ex} (hb:GdE b) (e:Ex):GdE e→GdE (putF u b e):=by
 induction e using J1K with
 | h e ih=>
   intro h;rw[JAh];split
   ·exact hb
   ·have hk:∀ k∈e.kids.map (putF u b),GdE k:=by
     intro x hx;obtain ⟨k,hk,rfl⟩:=List.mem_map.1 hx;exact ih k hk ⟨h.1.kid k hk,h.2.kid k hk⟩
    exact ⟨SzE.mk h.1.os h.1.tx (by rw[List.length_map];exact h.1.len) fun k k'=>(hk k k').1,TxE.mk h.2.low fun k k'=>(hk k k').2⟩
theorem JKJ (u:U) (b:Ex) (gb:GdE b) (wb:wtF b≤1000) (e:Ex):SzE e→wtF e≤1000→PureCall Tryz.prog 82 [encE e,encU u,encE b] (encE (putF u b e)):=by
 induction e using J1K with
 | h e ih=>
   intro hz hw;have ihk:=fun k hk=>ih k hk (hz.kid k hk) (by have:=J8d hk;omega);have hwt:wtL e.kids≤1000:=by have:=J4X e;omega
   have hlen:e.kids.length≤1000:=Nat.le_trans (J45 _) hwt;have hcp:=J9f b gb.1 wb;have hUse:=JKy e;clear ih;refine PC [39] Tryz.func82 rfl (by rfl) rfl ?_;obtain ⟨F,hF⟩:∃ F,putF u b e=F:=⟨_,rfl⟩;rw[hF];rw[JAh] at hF;rw[J01 e] at hUse ⊢;rw[J01 b] at hcp ihk ⊢;obtain ⟨o,t,od,es⟩:=e;obtain ⟨bo,bt,bn,bes⟩:=b;unfold encU at ihk hUse ⊢;unfold useF at hUse hF;simp only[Ex.op,Ex.text,Ex.order,Ex.kids] at *;replace hF:(if (o=oVar∨o=oPre)∧(⟨t,od,decide (o=oPre)⟩:U)=u then Ex.mk bo bt bn bes else Ex.mk o t od (es.map (putF u (.mk bo bt bn bes))))=F:=hF;have hml:=@List.length_map _ _ es encE;have hfm:¬ ((o=oVar∨o=oPre)∧(⟨t,od,decide (o=oPre)⟩:U)=u)→F=.mk o t od (es.map (putF u (.mk bo bt bn bes))):=fun h=>by rw[if_neg h] at hF;exact hF.symm
   have hpos:(o=oVar∨o=oPre)→(⟨t,od,decide (o=oPre)⟩:U)=u→F=.mk bo bt bn bes:=fun h1 h2=>by rw[if_pos ⟨h1,h2⟩] at hF;exact hF.symm
   clear hF hz hw gb wb;generalize putF u (.mk bo bt bn bes)=G at *
   have hcs:(¬ o=oVar∧¬ o=oPre)∨o=oVar∨(¬ o=oVar∧o=oPre):=by
    by_cases h1:o=oVar
    ·exact .inr (.inl h1)
    ·by_cases h2:o=oPre
     ·exact .inr (.inr ⟨h1,h2⟩)
     ·exact .inl ⟨h1,h2⟩
   rcases hcs with ⟨h1,h2⟩ | h1 | ⟨h1,h2⟩
   case' inl=>
    have hF:=hfm (fun h=>h.1.elim h1 h2);(refine kWQ ?_;repeat intro γ)
   case' inr.inl=>
    have hor:o=oVar∨o=oPre:=.inl h1
   case' inr.inr=>
    have hor:o=oVar∨o=oPre:=.inr h2
   case' inr.inl | inr.inr=>
    replace hpos:=hpos hor;replace hfm:=fun (h:¬ (⟨t,od,decide (o=oPre)⟩:U)=u)=>hfm (fun k=>h k.2);(refine kWQ ?_;repeat intro γ);refine CallG.intro _ c145 hUse ?_;(refine kWQ ?_;repeat intro γ);refine Need.intro eqst54 ?_;(refine kWQ ?_;repeat intro γ);refine JDL (eqU ⟨t,od,decide (o=oPre)⟩ u) ?_;refine CondP.dec (fun c1=>?_) (fun c1=>?_)<;>refine kW ?_
    ·obtain rfl:=hpos c1;(refine kQ ?_;repeat intro γ);refine J00 [] _ c92 hcp ?_;(refine kWQ ?_;repeat intro γ);exact .of (by rw[J01];rfl)
    have hF:=hfm c1;(refine kQ ?_;repeat intro γ)
   all_goals
    clear hpos hfm hUse hcp h1
    refine LoopP.intro (fun j σ H=>∃ g3 g4 g5 g6 gl i,∃ l:List Ex,j=es.length-i∧i≤es.length∧l=(es.take i).map G ∧
     σ=fr [(3,.op 3 g3 0 0),(4,.op 4 g4 0 0),(5,.op 5 g5 0 0),(6,.op 6 g6 0 0),(7,.own 39 gl 0 l.length),(27,.sl 4 (es.map encE)),(28,encI es.length),(29,encI i)] ∧
     H=hp [(3,g3,⟨29,4,[.agg [encS o,encS t,encI od,.sl 4 (es.map encE)]]⟩),(4,g4,⟨54,3,[.agg [.val (.string u.name),.val (.int .i64 u.order),.val (.bool u.pre)]]⟩),(5,g5,⟨29,4,[.agg [encS bo,encS bt,encI bn,.sl 4 (bes.map encE)]]⟩),(6,g6,⟨29,4,[nilE]⟩),(39,gl,⟨29,4,l.map encE⟩)]) ?_ ?_
    ·exact .intro (J2I 7 39 29 4 rfl rfl fun gl=>W.of ⟨_,_,_,_,_,gl,0,[],rfl,Nat.zero_le _,rfl,rfl,rfl⟩ ⟨rfl,rfl,rfl,rfl,rfl,rfl,(by first | rfl | exact congrArg (fun n:Nat=>encI n) hml),rfl,trivial⟩ ⟨rfl,rfl,rfl,rfl,rfl,trivial⟩)
    rintro j σ H ⟨g3,g4,g5,g6,gl,i,l,rfl,hi,hl,rfl,rfl⟩;have hmt:=@List.length_map _ _ l encE;have htl:l.length=i:=by rw[hl,List.length_map,List.length_take];omega
    rcases Nat.lt_or_ge i es.length with h9 | h9
    ·have hk:=ihk _ (List.getElem_mem h9);have htk:(es.take (i+1)).map G=l++[G es[i]]:=by rw[List.take_succ_eq_append_getElem h9,List.map_append,hl];rfl
     obtain ⟨k,hkk⟩:∃ k,es[i]=k:=⟨_,rfl⟩;rw[hkk] at hk htk;generalize G k=gk at *;rw[J01 gk,J01 k] at hk;clear hl;(refine kWQ ?_;repeat intro γ);simp only[hkk,J01];(refine kQ ?_;repeat intro γ);refine J00 [] _ c82 hk ?_;(refine kWQ ?_;repeat intro γ)
     refine .intro <| W.of ⟨_,by omega,g3,g4,g5,g6,γ,i+1,l++[gk],rfl,h9,htk.symm,rfl,rfl⟩ ⟨rfl,rfl,rfl,rfl,?_,rfl,rfl,rfl,trivial⟩ ⟨rfl,rfl,rfl,rfl,?_,trivial⟩
     ·exact congrArg (AV.own 39 _ 0) (by simp)
     ·have e1:(l++[gk]).map encE=l.map encE++[.agg [encS gk.op,encS gk.text,encI gk.order,.sl 4 (gk.kids.map encE)]]:=by rw[List.map_append,← J01];rfl
      rw[e1];rfl
    ·obtain rfl:i=es.length:=by omega
     rw[List.take_length] at hl;subst hl;(refine kWQ ?_;repeat intro γ);refine .of ?_;rw[hF,J01];exact congrArg (fun z=>AV.agg [encS o,encS t,encI od,z]) (JJV rfl (by simp[Ex.kids]))
theorem J7O {s:Sys} (h:checkF s=0):(∀ n,J0m (knownF s.vars) n=s.vars.find? fun v=>decide (v.name=n))∧∀ v∈s.vars,v.type=0∨v.type=1:=by
 unfold checkF at h
 have hL:largeF s=false:=by
  cases h1:largeF s
  ·rfl
  ·rw[h1] at h;simp at h
 rw[hL] at h
 have hV:validF s=true:=by
  cases h1:validF s
  ·rw[h1] at h;simp at h
  ·rfl
 unfold validF at hV;simp only[Bool.and_eq_true,Bool.not_eq_true'] at hV;obtain ⟨⟨⟨⟨⟨⟨h1,_⟩,_⟩,_⟩,hv⟩,_⟩,_⟩:=hV
 refine ⟨fun n=>?_,fun v hvm=>J8e (by
  have:=List.any_eq_false.1 hv v hvm
  simpa using this)⟩
 have e1:knownF s.vars=s.vars.map fun v=>(v.name,v):=by
  unfold knownF;rw[J7y _ _ (by simpa using J4H _ _ h1)];rfl
 rw[e1,J4S]
theorem J76 {n:ByteArray} {v:Va}:∀ {vs:List Va} {i:Int},(vs.find? fun v=>decide (v.name=n))=some v→∃ j,∃ hj:j<vs.length,J0Z (fun v:Va=>decide (v.name=n)) vs i=i+j∧vs[j]=v
 | [],i,h=>by cases h
 | x :: r,i,h=>by
   unfold J0Z;rw[List.find?_cons] at h
   cases hx:decide (x.name=n) with
   | true=>
     rw[hx] at h;cases h;exact ⟨0,by simp,by simp,rfl⟩
   | false=>
     rw[hx] at h;obtain ⟨j,hj,h1,h2⟩:=J76 (vs:=r) (i:=i+1) h;exact ⟨j+1,by simp;omega,by simp only;rw[h1];push_cast;omega,h2⟩
def J83:Option U→List Bd→Bool
 | _,[]=>true
 | p,b::r=>(valV b.value).isSome&&fitF b.use&&!J3G p b.use&&J83 (some b.use) r
theorem JCJ (s:Sys) (x:Ex) (hs:SzS s) (hz:SzE x) (hx:TxE x):PureCall Tryz.prog 49 [J0G s,encE x] (.tup [encI (typeS s x).1,encI (typeS s x).2]):=by
 refine PC [] Tryz.func49 rfl (by rfl) rfl ?_;have hc:=JGO s hs;rw[JDM] at hc;have hl:=J8X x hz;rw[← J4L] at hl;have hb:=JA9 x hz hx;have ht:=J8f s hs.v x hz
 have hsame:checkF s=0→builtF x=true→(typeF (knownF s.vars) x).2=(typR s.vars x).2∧((typeF (knownF s.vars) x).2=true→(typeF (knownF s.vars) x).1=(typR s.vars x).1):=fun h h2=>by
  obtain ⟨h3,h4⟩:=J7O h;obtain ⟨h5,h6⟩:=JBQ (knownF s.vars) s.vars h3 h4 x h2;exact ⟨h5,fun h=>(h6 h).1⟩
 generalize hF:typeS s x=F;unfold typeS at hF;generalize checkF s=ck at *;generalize tooF x=tl at *;generalize typeF (knownF s.vars) x=ty at *;generalize typR s.vars x=tr at *;obtain ⟨vs,qs,ns,ws⟩:=s;rw[J01] at *;unfold J0G J6a at *;simp only at *;refine kWQ ?_;intros;refine CallP.flat [] _ c93 hc rfl ?_
 by_cases h0:ck=0
 case neg=>
  rw[if_pos h0] at hF;refine kWQ ?_;intros;exact .of (by rw[← hF];rfl)
 rw[if_neg (fun h=>h h0)] at hF;refine kWQ ?_;intros;refine CallP.flat [] _ c87 hl rfl ?_
 cases tl with
 | true=>
   rw[if_pos rfl] at hF;refine kWQ ?_;intros;exact .of (by rw[← hF];rfl)
 | false=>
 rw[if_neg (by decide)] at hF;refine kWQ ?_;intros
 cases hbb:builtF x with
 | false=>
   rw[hbb] at hF hb;rw[if_pos (by decide)] at hF;refine CallP.flat [] _ c125 hb rfl ?_;refine kWQ ?_;intros;exact .of (by rw[← hF];rfl)
 | true=>
 rw[hbb] at hF hb;rw[if_neg (by decide)] at hF;obtain ⟨e1,e2⟩:=hsame h0 hbb;have ht:=ht hbb;obtain ⟨t1,t2⟩:=tr;obtain ⟨y1,y2⟩:=ty;simp only at e1 e2 hF ht;subst e1;refine CallP.flat [] _ c125 hb rfl ?_;refine kWQ ?_;intros;refine CallP.flat [] _ c126 ht rfl ?_
 cases y2 with
 | true=>
   rw[if_pos rfl] at hF;have e2:=e2 rfl;subst e2;refine kWQ ?_;intros;exact .of (by rw[← hF];rfl)
 | false=>
   rw[if_neg (by decide)] at hF;refine kWQ ?_;intros;exact .of (by rw[← hF];rfl)
theorem JEb (u:U) (hu:fitF u=true) (b:Ex) {o t:ByteArray} {od:Int} {es:List Ex} (hb:builtF (.mk o t od es)=true) :
  (¬ o=oVar∧¬ o=oPre∧putF u b (.mk o t od es)=.mk o t od (es.map (putF u b)))∨(o=oVar∧u.pre=true∧putF u b (.mk o t od es)=.mk o t od (es.map (putF u b))) ∨
  (o=oVar∧u.pre=false∧¬ t=u.name∧putF u b (.mk o t od es)=.mk o t od (es.map (putF u b)))∨(o=oVar∧u.pre=false∧t=u.name∧¬ od=u.order∧putF u b (.mk o t od es)=.mk o t od (es.map (putF u b))) ∨
  (¬ o=oVar∧o=oPre∧u.pre=false∧putF u b (.mk o t od es)=.mk o t od (es.map (putF u b)))∨(¬ o=oVar∧o=oPre∧u.pre=true∧¬ t=u.name∧putF u b (.mk o t od es)=.mk o t od (es.map (putF u b))) ∨
  (o=oVar∧u.pre=false∧t=u.name∧od=u.order∧putF u b (.mk o t od es)=b)∨(¬ o=oVar∧o=oPre∧u.pre=true∧t=u.name∧putF u b (.mk o t od es)=b):=by
 have e:=JAh u b (.mk o t od es);obtain ⟨un,uo,up⟩:=u;unfold useF at e;simp only[Ex.op,Ex.text,Ex.order,Ex.kids,U.mk.injEq] at e
 replace e:putF ⟨un,uo,up⟩ b (.mk o t od es)=if (o=oVar∨o=oPre)∧t=un∧od=uo∧decide (o=oPre)=up then b else .mk o t od (es.map (putF ⟨un,uo,up⟩ b)):=e
 by_cases h1:o=oVar
 ·have hn:decide (o=oPre)=false:=by rw[h1];decide
  cases up with
  | true=>exact .inr (.inl ⟨h1,rfl,by rw[e,if_neg];rintro ⟨_,_,_,h⟩;rw[hn] at h;cases h⟩)
  | false=>
    by_cases h2:t=un
    ·by_cases h3:od=uo
     ·exact .inr (.inr (.inr (.inr (.inr (.inr (.inl ⟨h1,rfl,h2,h3,by rw[e,if_pos ⟨.inl h1,h2,h3,hn⟩]⟩))))))
     ·exact .inr (.inr (.inr (.inl ⟨h1,rfl,h2,h3,by rw[e,if_neg];rintro ⟨_,_,h,_⟩;exact h3 h⟩)))
    ·exact .inr (.inr (.inl ⟨h1,rfl,h2,by rw[e,if_neg];rintro ⟨_,h,_⟩;exact h2 h⟩))
 ·by_cases h2:o=oPre
  ·have hn:decide (o=oPre)=true:=decide_eq_true h2
   have h0:od=0:=by
    rw[J1M] at hb;simp only[Bool.and_eq_true] at hb;have hx:=hb.1.1.2;unfold textF at hx;rw[if_neg (show ¬ (Ex.mk o t od es).op=oNum by show ¬ o=oNum;rw[h2];decide),if_neg (show ¬ (Ex.mk o t od es).op=oVar from h1),if_pos (show (Ex.mk o t od es).op=oPre from h2)] at hx;simp only[Bool.and_eq_true] at hx;exact of_decide_eq_true hx.2
   cases up with
   | false=>exact .inr (.inr (.inr (.inr (.inl ⟨h1,h2,rfl,by rw[e,if_neg];rintro ⟨_,_,_,h⟩;rw[hn] at h;cases h⟩))))
   | true=>
     have h4:uo=0:=by
      unfold fitF at hu;simp only[Bool.and_eq_true,Bool.or_eq_true,decide_eq_true_eq] at hu
      rcases hu.2 with h | h
      ·cases h
      ·exact h
     by_cases h3:t=un
     ·exact .inr (.inr (.inr (.inr (.inr (.inr (.inr ⟨h1,h2,rfl,h3,by rw[e,if_pos ⟨.inr h2,h3,by omega,hn⟩]⟩))))))
     ·exact .inr (.inr (.inr (.inr (.inr (.inl ⟨h1,h2,rfl,h3,by rw[e,if_neg];rintro ⟨_,h,_⟩;exact h3 h⟩)))))
  ·exact .inl ⟨h1,h2,by rw[e,if_neg];rintro ⟨h | h,_⟩;exact h1 h;exact h2 h⟩
theorem JJ0 (u:U) (hu:fitF u=true) (b:Ex) (e:Ex):SzE e→builtF e=true→wtF e≤1000→PureCall Tryz.prog 86 [encE e,encU u,encE b] (encE (putF u b e)):=by
 induction e using J1K with
 | h e ih=>
   intro hz hb hw;have ihk:=fun k hk=>ih k hk (hz.kid k hk) ((J0W hb).2 k hk) (by have:=J8d hk;omega);have hwt:wtL e.kids≤1000:=by have:=J4X e;omega
   have hlen:e.kids.length≤1000:=Nat.le_trans (J45 _) hwt;clear ih;refine PC [73] Tryz.func86 rfl (by rfl) rfl ?_;obtain ⟨o,t,od,es⟩:=e;have hcs:=JEb u hu b hb;generalize hF:putF u b (.mk o t od es)=F at *;clear hF hb hw hu hz;rw[J01 (.mk o t od es)];obtain ⟨bo,bt,bn,bes⟩:=b;generalize putF u (.mk bo bt bn bes)=G at *;rw[J01 (.mk bo bt bn bes)] at ihk ⊢;obtain ⟨un,uo,up⟩:=u;unfold encU at ihk ⊢;simp only[Ex.op,Ex.text,Ex.order,Ex.kids] at *;have hml:=@List.length_map _ _ es encE;have hnp:o=oVar→¬ o=oPre:=fun h=>by rw[h];decide
   rcases hcs with ⟨h1,h2,hF⟩ | ⟨h1,h2,hF⟩ | ⟨h1,h2,h3,hF⟩ | ⟨h1,h2,h3,h4,hF⟩ | ⟨h0,h1,h2,hF⟩ | ⟨h0,h1,h2,h3,hF⟩ | ⟨h1,h2,h3,h4,hF⟩ | ⟨h0,h1,h2,h3,hF⟩
   rotate_left 6
   ·subst hF;(refine kWQ ?_;repeat intro γ);exact .of (by rw[J01];rfl)
   ·subst hF;(refine kWQ ?_;repeat intro γ);exact .of (by rw[J01];rfl)
   case' inr.inl | inr.inr.inl | inr.inr.inr.inl=>have hq:=hnp h1
   all_goals
    (refine kWQ ?_;repeat intro γ)
    refine LoopP.intro (fun j σ H=>∃ g3 g4 g5 g6 g7 gl i,∃ l:List Ex,j=es.length-i∧i≤es.length∧l=(es.take i).map G ∧
     σ=fr [(3,.op 3 g3 0 0),(4,.op 4 g4 0 0),(5,.op 5 g5 0 0),(6,.op 6 g6 0 0),(7,.op 7 g7 0 0),(8,encI i)] ∧
     H = hp [(3,g3,⟨29,4,[.agg [encS o,encS t,encI od,.sl 4 (es.map encE)]]⟩),(4,g4,⟨54,3,[.agg [.val (.string un),.val (.int .i64 uo),.val (.bool up)]]⟩),(5,g5,⟨29,4,[.agg [encS bo,encS bt,encI bn,.sl 4 (bes.map encE)]]⟩),(6,g6,⟨29,4,[nilE]⟩),
       (7,g7,⟨29,4,[.agg [encS o,encS t,encI od,.own 73 gl 0 l.length]]⟩),(73,gl,⟨29,4,l.map encE⟩)]) ?_ ?_
    ·refine .intro <| JKw 7 _ 0 3 73 29 4 ⟨29,4,[.agg [encS o,encS t,encI od,.val (.slice none 0 0)]]⟩ [encS o,encS t,encI od,.val (.slice none 0 0)] rfl rfl rfl rfl (by decide) fun a=>?_
     exact W.of ⟨_,_,_,_,_,_,a,0,[],rfl,Nat.zero_le _,rfl,rfl,rfl⟩ ⟨rfl,rfl,rfl,rfl,rfl,rfl,trivial⟩ ⟨rfl,rfl,rfl,rfl,rfl,rfl,trivial⟩
    rintro j σ H ⟨g3,g4,g5,g6,g7,gl,i,l,rfl,hi,hl,rfl,rfl⟩;have hmt:=@List.length_map _ _ l encE;have htl:l.length=i:=by rw[hl,List.length_map,List.length_take];omega
    rcases Nat.lt_or_ge i es.length with h9 | h9
    ·have hk:=ihk _ (List.getElem_mem h9);have htk:(es.take (i+1)).map G=l++[G es[i]]:=by rw[List.take_succ_eq_append_getElem h9,List.map_append,hl];rfl
     obtain ⟨k,hkk⟩:∃ k,es[i]=k:=⟨_,rfl⟩;rw[hkk] at hk htk;generalize G k=gk at *;rw[J01 gk,J01 k] at hk;clear hl;(refine kWQ ?_;repeat intro γ);simp only[hkk,J01];(refine kQ ?_;repeat intro γ);refine CallG.intro _ c86 hk ?_;(refine kWQ ?_;repeat intro γ)
     refine .intro <| W.of ⟨_,by omega,g3,g4,g5,g6,_,γ 11,i+1,l++[gk],rfl,h9,htk.symm,rfl,rfl⟩ ⟨rfl,rfl,rfl,rfl,rfl,rfl,trivial⟩ ⟨rfl,rfl,rfl,rfl,?_,?_,trivial⟩
     ·have e2:(l++[gk]).length=l.length+1:=by simp
      rw[e2];rfl
     ·have e1:(l++[gk]).map encE=l.map encE++[.agg [encS gk.op,encS gk.text,encI gk.order,.sl 4 (gk.kids.map encE)]]:=by rw[List.map_append,← J01];rfl
      rw[e1]
      conv=>lhs;whnf
      refine congrArg (fun z=>some (γ 11,(⟨29,4,l.map encE++z⟩:Blk))) ?_
      conv=>lhs;whnf
      rfl
    ·obtain rfl:i=es.length:=by omega
     rw[List.take_length] at hl;subst hl;(refine kWQ ?_;repeat intro γ);refine .of ?_;rw[hF,J01];exact congrArg (fun z=>AV.agg [encS o,encS t,encI od,z]) (JJV rfl (by simp[Ex.kids]))
def putS (s:Sys) (x:Ex) (u:U) (b:Ex):Ex×Int:=if (typeS s x).2≠0 then (zE,(typeS s x).2) else if (typeS s b).2≠0 then (zE,(typeS s b).2) else
 match J0m (knownF s.vars) u.name with
 | none=>(zE,1)
 | some v=>if fitF u=false then (zE,1) else if 0<u.order∧¬ v.kind=0∧¬ v.kind=3 then (zE,1) else if ¬ v.type=(typeS s b).1 then (zE,7) else if tooF (putF u b x) then (zE,2) else (putF u b x,0)
theorem JKz (s:Sys) (hs:SzS s) (x:Ex) (gx:GdE x) (u:U) (hu:u.name.size<2^35) (b:Ex) (gb:GdE b):PureCall Tryz.prog 28 [J0G s,encE x,encU u,encE b] (.tup [encE (putS s x u b).1,encI (putS s x u b).2]):=by
 refine PC [] Tryz.func28 rfl (by rfl) rfl ?_;have hT1:=J8T s x hs gx.1 gx.2;have hT2:=J8T s b hs gb.1 gb.2;have hK:=J5k s hs.v;have hFi:=JGM u hu;have hP:=fun h1 h2=>JKJ u b gb h1 x gx.1 h2;have hL:=J29 (putF u b x) (JAg u gb x gx).1;have hy1:=@J3N s x;have hy2:=@J3N s b;generalize hF:putS s x u b=F;unfold putS at hF;generalize putF u b x=pf at *;generalize tooF pf=tl at *;generalize typeS s x=ty1 at *;generalize typeS s b=ty2 at *;generalize hkv:knownF s.vars=ks at *;obtain ⟨t1,c1⟩:=ty1;obtain ⟨t2,c2⟩:=ty2;obtain ⟨vs,qs,ns,ws⟩:=s;obtain ⟨r2,hr2,hm2⟩:=J1S encV u.name ks;unfold J0G encU at *;rw[J01 x,J01 b] at *;rw[J01 pf] at hP hL;simp only at *;clear hs gx gb;refine kWQ ?_;intros;refine J00 [] _ c48 hT1 ?_
 by_cases h1:c1=0
 case' neg=>
  rw[if_pos h1] at hF;refine kWQ ?_;intros;rw[← hF];exact J0s c1
 rw[if_neg (fun h=>h h1)] at hF;refine kWQ ?_;intros;refine J00 [] _ c48 hT2 ?_
 by_cases h2:c2=0
 case' neg=>
  rw[if_pos h2] at hF;refine kWQ ?_;intros;rw[← hF];exact J0s c2
 rw[if_neg (fun h=>h h2)] at hF;obtain ⟨_,htl1,_,_,_⟩:=hy1 h1;obtain ⟨_,htl2,_,_,_⟩:=hy2 h2;have hP:=hP (by have:=J7e htl2;omega) (by have:=J7e htl1;omega);refine kWQ ?_;intros;refine CallG.intro _ c68 hK ?_;refine kWQ ?_;intros;refine Need.intro keyst9 ?_;refine kWQ ?_;intros;refine LookP.intro r2 hr2 ?_
 cases ha:J0m ks u.name with
 | none=>
   rw[ha] at hm2 hF
   cases r2 with
   | some i=>exact hm2.elim
   | none=>
     refine kWQ ?_;intros;rw[← hF];exact J0s 1
 | some v=>
   rw[ha] at hm2 hF
   cases r2 with
   | none=>exact hm2.elim
   | some ii=>
     have hm2:(ks.map fun x=>encV x.2).getD ii .dead=encV v:=hm2;refine kW ?_;rw[hm2];obtain ⟨nm,kd,ty,vl,st,fx,un⟩:=v;simp only at hF;refine kQ ?_;intros;refine CallP.flat [] _ c81 hFi rfl ?_
     cases hf:fitF u with
     | false=>
       rw[hf,if_pos rfl] at hF;refine kWQ ?_;intros;rw[← hF];exact J0s 1
     | true=>
     rw[hf,if_neg (by decide)] at hF
     have rest:¬ (0<u.order∧¬ kd=0∧¬ kd=3)→F=if ¬ ty=t2 then (zE,7) else if tl then (zE,2) else (pf,0):=fun h=>by rw[if_neg h] at hF;exact hF.symm
     have hcs:(0<u.order∧¬ kd=0∧¬ kd=3∧F=(zE,1))∨(¬ 0<u.order∧F=if ¬ ty=t2 then (zE,7) else if tl then (zE,2) else (pf,0))∨(0<u.order∧kd=0∧F=if ¬ ty=t2 then (zE,7) else if tl then (zE,2) else (pf,0))∨(0<u.order∧¬ kd=0∧kd=3∧F=if ¬ ty=t2 then (zE,7) else if tl then (zE,2) else (pf,0)):=by
      by_cases q1:0<u.order
      ·by_cases q2:kd=0
       ·exact .inr (.inr (.inl ⟨q1,q2,rest fun h=>h.2.1 q2⟩))
       ·by_cases q3:kd=3
        ·exact .inr (.inr (.inr ⟨q1,q2,q3,rest fun h=>h.2.2 q3⟩))
        ·exact .inl ⟨q1,q2,q3,by rw[if_pos ⟨q1,q2,q3⟩] at hF;exact hF.symm⟩
      ·exact .inr (.inl ⟨q1,rest fun h=>q1 h.1⟩)
     clear hF rest
     rcases hcs with ⟨q1,q2,q3,hF⟩ | ⟨q1,hF⟩ | ⟨q1,q2,hF⟩ | ⟨q1,q2,q3,hF⟩
     ·refine kWQ ?_;intros;rw[hF];exact J0s 1
     all_goals
      by_cases q4:ty=t2
      case' neg=>
       rw[if_pos q4] at hF;refine kWQ ?_;intros;rw[hF];exact J0s 7
      rw[if_neg (fun h=>h q4)] at hF;refine kWQ ?_;intros;refine J00 [] _ c82 hP ?_;refine kWQ ?_;intros;refine CallP.flat [] _ c83 hL rfl ?_
      cases tl with
      | true=>
        rw[if_pos rfl] at hF;refine kWQ ?_;intros;rw[hF];exact J0s 2
      | false=>
        rw[if_neg (by decide)] at hF;refine kWQ ?_;intros;refine .of ?_;rw[hF];simp only;rw[J01 pf];rfl
theorem JD5 {s:Sys} (hc:checkF s=0) (n:ByteArray):(J0m (knownF s.vars) n=none∧findR s.vars n<0)∨∃ v j,∃ hj:j<s.vars.length,J0m (knownF s.vars) n=some v∧findR s.vars n=(j:Nat)∧s.vars[j]=v:=by
 obtain ⟨h1,_⟩:=J7O hc;rw[h1 n]
 cases hf:s.vars.find? fun v=>decide (v.name=n) with
 | none=>
   left;refine ⟨rfl,?_⟩
   have hn:(s.vars.any fun v=>decide (v.name=n))=false:=by
    rw[List.any_eq_false];intro v hv;exact List.find?_eq_none.1 hf v hv
   unfold findR
   rcases Int.lt_or_le (J0Z (fun v:Va=>decide (v.name=n)) s.vars 0) 0 with h | h
   ·exact h
   ·rw[(J2U _ s.vars 0 (by omega)).1 h] at hn;cases hn
 | some v=>
   right;obtain ⟨j,hj,h2,h3⟩:=J76 (i:=0) hf;exact ⟨v,j,hj,rfl,by unfold findR;rw[h2];omega,h3⟩
theorem JJx (s:Sys) (hs:SzS s) (x:Ex) (gx:GdE x) (u:U) (hu:u.name.size<2^35) (b:Ex) (gb:GdE b):PureCall Tryz.prog 29 [J0G s,encE x,encU u,encE b] (.tup [encE (putS s x u b).1,encI (putS s x u b).2]):=by
 refine PC [] Tryz.func29 rfl (by rfl) rfl ?_;have hT1:=JCJ s x hs gx.1 gx.2;have hT2:=JCJ s b hs gb.1 gb.2;have hFd:=JBH s u.name hs.v;have hv:=hs.v;have hFi:=JHz u hu;have hP:=fun h0 h1 h2=>JJ0 u h0 b x gx.1 h1 h2;have hL:=J8X (putF u b x) (JAg u gb x gx).1;rw[← J4L] at hL;have hy1:=@J3N s x;have hy2:=@J3N s b;have hfc:=fun hc=>@JD5 s hc u.name;generalize hF:putS s x u b=F;unfold putS at hF;generalize putF u b x=pf at *;generalize tooF pf=tl at *;generalize typeS s x=ty1 at *;generalize typeS s b=ty2 at *;generalize hkv:knownF s.vars=ks at *;generalize findR s.vars u.name=fr at *;generalize checkF s=ck at *;obtain ⟨t1,c1⟩:=ty1;obtain ⟨t2,c2⟩:=ty2;obtain ⟨vs,qs,ns,ws⟩:=s;obtain ⟨us,uo,up⟩:=u;have hmv:=@List.length_map _ _ vs encV;unfold J0G encU at *;rw[J01 x,J01 b] at *;rw[J01 pf] at hP hL;simp only at *;clear hs gx gb hkv;refine kWQ ?_;intros;refine J00 [] _ c49 hT1 ?_
 by_cases h1:c1=0
 case' neg=>
  rw[if_pos h1] at hF;refine kWQ ?_;intros;rw[← hF];exact J0s c1
 rw[if_neg (fun h=>h h1)] at hF;refine kWQ ?_;intros;refine J00 [] _ c49 hT2 ?_
 by_cases h2:c2=0
 case' neg=>
  rw[if_pos h2] at hF;refine kWQ ?_;intros;rw[← hF];exact J0s c2
 rw[if_neg (fun h=>h h2)] at hF;obtain ⟨hck,htl1,hb1,_,_⟩:=hy1 h1;obtain ⟨_,htl2,_,_,_⟩:=hy2 h2;have hfc:=hfc hck;refine kWQ ?_;intros;refine CallP.flat [] _ c84 hFd rfl ?_;refine kWQ ?_;intros;refine CallP.flat [] _ c85 hFi rfl ?_
 cases hf:fitF ⟨us,uo,up⟩ with
 | false=>
   have hF:(zE,1)=F:=by
    rw[← hF]
    cases J0m ks us with
    | none=>rfl
    | some v=>simp only;rw[hf,if_pos rfl]
   refine kWQ ?_;intros;rw[← hF];exact J0s 1
 | true=>
 have hP:=hP hf hb1 (by have:=J7e htl1;omega)
 rcases hfc with ⟨ha,hlt⟩ | ⟨v,j,hj,ha,hfj,hvj⟩
 ·rw[ha] at hF;replace hF:(zE,(1:Int))=F:=hF;refine kWQ ?_;intros;rw[← hF];exact J0s 1
 ·rw[ha] at hF;subst hfj;obtain ⟨nm,kd,ty,vl,st,fx,un⟩:=v;simp only at hF;rw[hf,if_neg (by decide)] at hF
  have rest:¬ (0<uo∧¬ kd=0∧¬ kd=3)→F=if ¬ ty=t2 then (zE,7) else if tl then (zE,2) else (pf,0):=fun h=>by rw[if_neg h] at hF;exact hF.symm
  have hcs:(0<uo∧¬ kd=0∧¬ kd=3∧F=(zE,1))∨(¬ 0<uo∧F=if ¬ ty=t2 then (zE,7) else if tl then (zE,2) else (pf,0))∨(0<uo∧kd=0∧F=if ¬ ty=t2 then (zE,7) else if tl then (zE,2) else (pf,0))∨(0<uo∧¬ kd=0∧kd=3∧F=if ¬ ty=t2 then (zE,7) else if tl then (zE,2) else (pf,0)):=by
   by_cases q1:0<uo
   ·by_cases q2:kd=0
    ·exact .inr (.inr (.inl ⟨q1,q2,rest fun h=>h.2.1 q2⟩))
    ·by_cases q3:kd=3
     ·exact .inr (.inr (.inr ⟨q1,q2,q3,rest fun h=>h.2.2 q3⟩))
     ·exact .inl ⟨q1,q2,q3,by rw[if_pos ⟨q1,q2,q3⟩] at hF;exact hF.symm⟩
   ·exact .inr (.inl ⟨q1,rest fun h=>q1 h.1⟩)
  clear hF rest
  rcases hcs with ⟨q1,q2,q3,hF⟩ | ⟨q1,hF⟩ | ⟨q1,q2,hF⟩ | ⟨q1,q2,q3,hF⟩
  ·refine kWQ ?_;intros
   (repeat (simp only[hvj];refine kQ ?_;intros))
   rw[hF];exact J0s 1
  all_goals
   by_cases q4:ty=t2
   case' neg=>
    rw[if_pos q4] at hF;refine kWQ ?_;intros
    (repeat (simp only[hvj];refine kQ ?_;intros))
    rw[hF];exact J0s 7
   rw[if_neg (fun h=>h q4)] at hF;refine kWQ ?_;intros
   (repeat (simp only[hvj];refine kQ ?_;intros))
   refine J00 [] _ c86 hP ?_;refine kWQ ?_;intros;refine CallP.flat [] _ c87 hL rfl ?_
   cases tl with
   | true=>
     rw[if_pos rfl] at hF;refine kWQ ?_;intros;rw[hF];exact J0s 2
   | false=>
     rw[if_neg (by decide)] at hF;refine kWQ ?_;intros;refine .of ?_;rw[hF];simp only;rw[J01 pf];rfl
theorem JCL (e:Ex):SzE e→PureCall Tryz.prog 25 [encE e,encE e] (encB true):=by
 induction e using J1K with
 | h e ih=>
   intro hz;have ihk:=fun k hk=>ih k hk (hz.kid k hk);have hlen:=hz.len;clear ih;refine PC [] Tryz.func25 rfl (by rfl) rfl ?_;rw[J01];obtain ⟨o,t,od,es⟩:=e;simp only[Ex.op,Ex.text,Ex.order,Ex.kids] at *;have hml:=@List.length_map _ _ es encE;refine kWQ ?_;intros;simp only[decide_true];refine kQ ?_;intros
   try simp only[decide_true]
   refine kQ ?_;intros
   refine LoopP.intro (fun j σ H=>∃ g1 g2 i,j=es.length-i∧i≤es.length∧σ=fr [(2,.op 2 g1 0 0),(3,.op 3 g2 0 0),(5,encI i)] ∧
    H=hp [(2,g1,⟨29,4,[.agg [encS o,encS t,encI od,.sl 4 (es.map encE)]]⟩),(3,g2,⟨29,4,[.agg [encS o,encS t,encI od,.sl 4 (es.map encE)]]⟩)]) ?_ ?_
   ·exact .intro (W.of ⟨_,_,_,0,rfl,Nat.zero_le _,rfl,rfl⟩ ⟨rfl,rfl,rfl,trivial⟩ ⟨rfl,rfl,trivial⟩)
   rintro j σ H ⟨g1,g2,i,rfl,hi,rfl,rfl⟩
   rcases Nat.lt_or_ge i es.length with h9 | h9
   ·have hk:=ihk _ (List.getElem_mem h9);obtain ⟨k,hkk⟩:∃ k,es[i]=k:=⟨_,rfl⟩;rw[hkk,J01] at hk;refine kWQ ?_;intros;simp only[hkk,J01];refine kQ ?_;intros
    try simp only[hkk,J01]
    refine kQ ?_;intros;refine CallG.intro _ c25 hk ?_;refine kWQ ?_;intros
    exact .intro <| W.of ⟨_,by omega,g1,g2,i+1,rfl,h9,rfl,rfl⟩ ⟨rfl,rfl,rfl,trivial⟩ ⟨rfl,rfl,trivial⟩
   ·refine kWQ ?_;intros;exact .of rfl
def lenV (v:Va):Nat:=v.name.size+v.value.size+v.start.size+v.unit.size
def JD0:List Va→Nat
 | []=>0
 | v::r=>lenV v+JD0 r
def greatS (s:Sys):Bool:=decide (40000<JD0 s.vars)||decide (200<s.vars.length)||decide (200<s.eqs.length)||decide (200<s.inits.length)||decide (200<s.whens.length)
theorem JGL (s:Sys) (hs:SzS s) (hl:s.vars.length≤2^20):PureCall Tryz.prog 22 [J0G s] (encB (greatS s)):=by
 refine PC [] Tryz.func22 rfl (by rfl) rfl ?_;have ht:=hs.t;generalize hF:greatS s=F;unfold greatS at hF;obtain ⟨vs,qs,ns,ws⟩:=s;simp only at hl ht hF;unfold J0G;simp only;have mv:=@List.length_map _ _ vs encV;have mq:=@List.length_map _ _ qs J0O;have mn:=@List.length_map _ _ ns J0O;have mw:=@List.length_map _ _ ws J0t;obtain ⟨S,hS⟩:∃ z,JD0 vs=z:=⟨_,rfl⟩;rw[hS] at hF;refine kWQ ?_;intros
 refine LoopP.intro (fun k σ H=>∃ gs i,∃ t:Nat,k=vs.length-i∧i≤vs.length∧t≤i*2^38∧t+JD0 (vs.drop i)=S ∧
   σ=fr [(1,.op 1 gs 0 0),(3,encI t),(4,encI i)] ∧
   H=hp [(1,gs,⟨26,4,[.agg [.sl 7 (vs.map encV),.sl 9 (qs.map J0O),.sl 9 (ns.map J0O),.sl 6 (ws.map J0t)]]⟩)]) ?_ ?_
 ·exact .intro (W.of ⟨_,_,0,0,rfl,Nat.zero_le _,Nat.zero_le _,by rw[Nat.zero_add];exact hS,rfl,rfl⟩ ⟨rfl,rfl,rfl,trivial⟩ ⟨rfl,trivial⟩)
 rintro k σ H ⟨gs,i,t,rfl,hi,htt,hT,rfl,rfl⟩
 rcases Nat.lt_or_ge i vs.length with h1 | h1
 ·rw[List.drop_eq_getElem_cons h1] at hT;have hvi:=ht _ (List.getElem_mem h1);unfold JD0 lenV at hT;obtain ⟨q1,q2,q3,q4⟩:=hvi;refine kWQ ?_;intros
  refine .intro <| W.of ⟨_,by omega,gs,i+1,t+(vs[i].name.size+vs[i].value.size+vs[i].start.size+vs[i].unit.size),rfl,h1,by omega,by omega,rfl,rfl⟩ ⟨rfl,?_,rfl,trivial⟩ ⟨rfl,trivial⟩
  exact congrArg encI (by push_cast;omega)
 ·rw[List.drop_eq_nil_of_le h1] at hT;unfold JD0 at hT;rw[Nat.add_zero] at hT;subst hT;refine kWO ?_;intros;refine CondP.dec (fun c1=>?_) (fun c1=>?_)<;>refine kW ?_
  ·refine kQ ?_;intros;have e:F=true:=by rw[← hF];simp only[Bool.or_eq_true,decide_eq_true_eq];omega
   exact .of (by rw[e];rfl)
  refine kQ ?_;intros;refine CondP.dec (fun c2=>?_) (fun c2=>?_)<;>refine kW ?_
  ·refine kQ ?_;intros;have e:F=true:=by rw[← hF];simp only[Bool.or_eq_true,decide_eq_true_eq];omega
   exact .of (by rw[e];rfl)
  refine kQ ?_;intros;refine CondP.dec (fun c3=>?_) (fun c3=>?_)<;>refine kW ?_
  ·refine kQ ?_;intros;have e:F=true:=by rw[← hF];simp only[Bool.or_eq_true,decide_eq_true_eq];omega
   exact .of (by rw[e];rfl)
  refine kQ ?_;intros;refine CondP.dec (fun c4=>?_) (fun c4=>?_)<;>refine kW ?_
  ·refine kQ ?_;intros;have e:F=true:=by rw[← hF];simp only[Bool.or_eq_true,decide_eq_true_eq];omega
   exact .of (by rw[e];rfl)
  refine kQ ?_;intros;refine .of ?_;rw[decide_eq_false (by omega),decide_eq_false (by omega),decide_eq_false (by omega),decide_eq_false (by omega)] at hF;simp only[Bool.false_or] at hF;rw[← hF];exact congrArg encB (decide_eq_decide.2 (by omega))
theorem JAA:GdE zE:=J85 (by decide) (by decide) (by decide) (by simp)
theorem JIz (s:Sys) {x:Ex} (gx:GdE x) (u:U) {b:Ex} (gb:GdE b):GdE (putS s x u b).1:=by
 unfold putS;split
 ·exact JAA
 ·split
  ·exact JAA
  ·split
   ·exact JAA
   ·split
    ·exact JAA
    ·split
     ·exact JAA
     ·split
      ·exact JAA
      ·split
       ·exact JAA
       ·exact JAg u gb x gx
theorem JBE (ha:PureCall Tryz.prog 16 [] (encB true)) (s:Sys) (hs:SzS s) (x:Ex) (gx:GdE x) (u:U) (hu:u.name.size<2^35) (b:Ex) (gb:GdE b):PureCall Tryz.prog 6 [J0G s,encE x,encU u,encE b] (encB true):=by
 refine PC [] Tryz.func6 rfl (by rfl) rfl ?_;have hg:=JGL s hs hs.v20;have h1:=JKz s hs x gx u hu b gb;have h2:=JJx s hs x gx u hu b gb;have hgd:=JIz s gx u gb;generalize greatS s=gr at *;generalize putS s x u b=r at *;obtain ⟨d,f⟩:=r;have hS:=JCL d hgd.1;obtain ⟨vs,qs,ns,ws⟩:=s;unfold J0G encU at *;rw[J01 x,J01 b,J01 d] at *;simp only at *;clear hs gx gb hgd;refine kWQ ?_;intros;refine CallP.flat [] _ c22 hg rfl ?_
 cases gr with
 | true=>
   refine kWQ ?_;intros;refine CallP.flat [] _ c16 ha rfl ?_;refine kWQ ?_;intros;exact .of rfl
 | false=>
 refine kWQ ?_;intros;refine J00 [] _ c28 h1 ?_;refine kWQ ?_;intros;refine J00 [] _ c29 h2 ?_;refine kWQ ?_;intros;refine CallP.flat [] _ c25 hS rfl ?_;refine kWQ ?_;intros
 (repeat (simp only[beq_self_eq_true,decide_true];refine kQ ?_;intros))
 refine CallP.flat [] _ c16 ha rfl ?_;refine kWQ ?_;intros
 (repeat (simp only[beq_self_eq_true,decide_true];refine kQ ?_;intros))
 exact .of rfl
def bX:ByteArray:=⟨#[120]⟩
def bY:ByteArray:=⟨#[121]⟩
def nV (n:ByteArray):Va:=⟨n,0,0,⟨#[]⟩,⟨#[]⟩,false,⟨#[]⟩⟩
def s3:Sys:=⟨[nV bX,nV bY],[],[],[]⟩
def uX:U:=⟨bX,0,false⟩
def uY:U:=⟨bY,0,false⟩
def xy3:Ex:=opE oMul [refE bX 0,refE bY 0]
def xx3:Ex:=opE oMul [refE bX 0,refE bX 0]
theorem szS3:SzS s3:=by
 refine ⟨by decide,by decide,by decide,by decide,by simp[s3],?_,?_,?_,by decide⟩
 ·intro e he;simp only[s3,allF,J1N,List.flatMap_nil,List.append_nil,List.not_mem_nil] at he
 ·intro v hv;simp only[s3,List.mem_cons,List.not_mem_nil,or_false] at hv
  rcases hv with rfl | rfl<;>decide
 ·exact ⟨by simp[s3],by simp[s3],by simp[s3]⟩
theorem J9C (t:ByteArray) (h:t.size≤100):GdE (refE t 0):=J85 (by decide) h (by decide) (by simp)
theorem gxy3:GdE xy3:=J90 (by decide) (by decide) (by simp only[List.forall_mem_cons,List.not_mem_nil,false_imp_iff,implies_true,and_true];exact ⟨J9C _ (by decide),J9C _ (by decide)⟩)
theorem JMf:PureCall Tryz.prog 63 [J0G s3,encE xy3,J2G [uX,uY]] (encI 0):=by
 have:=J1n s3 szS3 xy3 gxy3.1 gxy3.2 [uX,uY] (by decide) (by simp only[List.forall_mem_cons,List.not_mem_nil,false_imp_iff,implies_true,and_true];decide);rw[show numF s3 xy3 [uX,uY]=0 by kernel_rfl] at this;exact this
theorem n_y:PureCall Tryz.prog 63 [J0G s3,encE xy3,J2G [uY]] (encI 0):=by
 have:=J1n s3 szS3 xy3 gxy3.1 gxy3.2 [uY] (by decide) (by simp only[List.forall_mem_cons,List.not_mem_nil,false_imp_iff,implies_true,and_true];decide);rw[show numF s3 xy3 [uY]=0 by kernel_rfl] at this;exact this
def sm3:Ex:=opE oAdd [opE oMul [numE ⟨#[50]⟩,refE bX 0],opE oSub [refE bY 0,numE ⟨#[51]⟩]]
theorem two3 {o:ByteArray} {a b:Ex} (ho:o.size≤8) (ha:GdE a) (hb:GdE b):GdE (opE o [a,b]):=J90 ho (by show 2≤100;decide) (by simp only[List.forall_mem_cons,List.not_mem_nil,false_imp_iff,implies_true,and_true];exact ⟨ha,hb⟩)
theorem JKe (t:ByteArray) (h:t.size≤100):GdE (numE t):=J85 (by decide) h (by decide) (by simp)
theorem gsm3:GdE sm3:=two3 (by decide) (two3 (by decide) (JKe _ (by decide)) (J9C _ (by decide))) (two3 (by decide) (J9C _ (by decide)) (JKe _ (by decide)))
theorem gxx3:GdE xx3:=two3 (by decide) (J9C _ (by decide)) (J9C _ (by decide))
theorem JMh:PureCall Tryz.prog 63 [J0G s3,encE sm3,J2G [uX,uY]] (encI 0):=by
 have:=J1n s3 szS3 sm3 gsm3.1 gsm3.2 [uX,uY] (by decide) (by simp only[List.forall_mem_cons,List.not_mem_nil,false_imp_iff,implies_true,and_true];decide);rw[show numF s3 sm3 [uX,uY]=0 by kernel_rfl] at this;exact this
theorem JMg:PureCall Tryz.prog 63 [J0G s3,encE xx3,J2G []] (encI 0):=by
 have:=J1n s3 szS3 xx3 gxx3.1 gxx3.2 [] (by decide) (by simp);rw[show numF s3 xx3 []=0 by kernel_rfl] at this;exact this
def tab3:Tab:=[(63,[J0G s3,encE xy3,J2G [uX,uY]],encI 0),(63,[J0G s3,encE xy3,J2G [uY]],encI 0),(63,[J0G s3,encE sm3,J2G [uX,uY]],encI 0),(63,[J0G s3,encE xx3,J2G []],encI 0)]
theorem JAQ:TabOk XR.E.P tab3:=by
 refine ⟨?_⟩;unfold tab3;simp only[List.forall_mem_cons,List.not_mem_nil,false_imp_iff,implies_true,and_true];exact ⟨⟨c63,JMf,rfl⟩,⟨c63,n_y,rfl⟩,⟨c63,JMh,rfl⟩,⟨c63,JMg,rfl⟩⟩
theorem zlk {n:Int} (h:Nat.blt (zl n) (2 ^ 36)=true):zl n<2 ^ 36:=Nat.le_of_ble_eq_true h
theorem JK9:zl 1<2 ^ 36:=zlk (by kernel_rfl)
theorem p_3 (c:UInt8) (n:Int) (h:J0C [c]=(some (n,1),true)):PureCall Tryz.prog 134 [encS ⟨#[c]⟩] (.tup [encQ n 1,encB true]):=by
 have:=J2g [c] (Nat.lt_of_le_of_lt (Nat.le_refl 1) (by decide));rw[h] at this;exact this
theorem JL9 (n:Int) (hn:zl n<2 ^ 36) (b:List Nat) (h:qT n 1=b):PureCall Tryz.prog 150 [encQ n 1] (encT b):=by
 have:=J7T n 1 hn JK9;rw[h] at this;exact this
theorem JLA (n:Int) (hn:zl n<2 ^ 36) (h:(decide (nd n≤300)&&decide (nd 1≤300))=true):PureCall Tryz.prog 151 [encQ n 1] (encB true):=by
 have:=JA2 n 1 hn JK9;rw[h] at this;exact this
def env3:EnvA:=⟨⟨#[48]⟩,false,[]⟩
theorem JMe:PureCall Tryz.prog 67 [J3g env3] (.tup [JFM ⟨0,false,[]⟩,encI 0]):=by
 have:=JHx env3 ⟨by decide,by simp[env3],by simp[env3]⟩;rw[show JKj (JH1 env3)=.tup [JFM ⟨0,false,[]⟩,encI 0] by kernel_rfl] at this;exact this
def JKG:Tab:=[(67,[J3g env3],.tup [JFM ⟨0,false,[]⟩,encI 0]),(134,[encS ⟨#[48]⟩],.tup [encQ 0 1,encB true]),(134,[encS ⟨#[50]⟩],.tup [encQ 2 1,encB true]),(134,[encS ⟨#[51]⟩],.tup [encQ 3 1,encB true]),
 (150,[encQ 2 1],encT [50]),(150,[encQ 1 1],encT [49]),(150,[encQ (-3) 1],encT [45,51]),
 (151,[encQ 2 1],encB true),(151,[encQ 1 1],encB true),(151,[encQ (-3) 1],encB true)]
theorem J7g:TabOk2 XR.E.P JKG:=by
 refine ⟨?_⟩;unfold JKG;simp only[List.forall_mem_cons,List.not_mem_nil,false_imp_iff,implies_true,and_true]
 exact ⟨⟨c67,JMe⟩,⟨c134,p_3 48 0 (by kernel_rfl)⟩,⟨c134,p_3 50 2 (by kernel_rfl)⟩,⟨c134,p_3 51 3 (by kernel_rfl)⟩,
  ⟨c150,JL9 2 (zlk (by kernel_rfl)) _ (by kernel_rfl)⟩,⟨c150,JL9 1 (zlk (by kernel_rfl)) _ (by kernel_rfl)⟩,⟨c150,JL9 (-3) (zlk (by kernel_rfl)) _ (by kernel_rfl)⟩,
  ⟨c151,JLA 2 (zlk (by kernel_rfl)) (by kernel_rfl)⟩,⟨c151,JLA 1 (zlk (by kernel_rfl)) (by kernel_rfl)⟩,⟨c151,JLA (-3) (zlk (by kernel_rfl)) (by kernel_rfl)⟩⟩
theorem il1:PureCall Tryz.prog 17 [J0G s3,encE xy3,J2G [uX,uY]] (.tup [encB false,encI 0]):=J3C J9v JAQ J7g (fuel:=300) (n:=60) (by kernel_rfl)
theorem il2:PureCall Tryz.prog 17 [J0G s3,encE xy3,J2G [uY]] (.tup [encB true,encI 0]):=J3C J9v JAQ J7g (fuel:=300) (n:=60) (by kernel_rfl)
theorem row1:PureCall Tryz.prog 19 [J0G s3,encE sm3,J2G [uX,uY],J3g env3] (.tup [.sl 1 [encS ⟨#[50]⟩,encS ⟨#[49]⟩],encS ⟨#[45,51]⟩,encI 0]):=J3C J9v JAQ J7g (fuel:=300) (n:=60) (by kernel_rfl)
def wt3:Ex:=opE oAdd [opE oMul [refE bX 1,refE bX 0],opE oMul [refE bX 0,refE bX 1]]
theorem dr1:PureCall Tryz.prog 23 [J0G s3,encE xx3] (.tup [encE wt3,encI 0]):=by
 have:=JGN s3 szS3 xx3 gxx3;rw[show J63 s3 xx3=(wt3,0) by kernel_rfl] at this;exact this
theorem tx1:PureCall Tryz.prog 21 [.sl 1 [encS ⟨#[50]⟩,encS ⟨#[49]⟩],.sl 1 [encS ⟨#[50]⟩,encS ⟨#[49]⟩]] (encB true):=J2O J9v (fuel:=50) (n:=5) (by kernel_rfl)
theorem JBk (s:ByteArray):PureCall Tryz.prog 61 [encS s] (encE (numE s)):=by
 refine J2f (r:=.agg [encS ⟨#[110,117,109]⟩,encS s,encI 0,.val (.slice none 0 0)]) ?_ 3 ?_
 ·refine PC [] Tryz.func61 rfl (by rfl) rfl ?_;refine kWQ ?_;intros;exact .of rfl
 ·rw[J01];simp[leN,allB,valB,encS,encI,numE,oNum,oVar,Ex.op,Ex.text,Ex.order,Ex.kids]
theorem J1F (s:ByteArray) (n:Int):PureCall Tryz.prog 62 [encS s,encI n] (encE (refE s n)):=by
 refine J2f (r:=.agg [encS ⟨#[118,97,114]⟩,encS s,encI n,.val (.slice none 0 0)]) ?_ 3 ?_
 ·refine PC [] Tryz.func62 rfl (by rfl) rfl ?_;refine kWQ ?_;intros;exact .of rfl
 ·rw[J01];simp[leN,allB,valB,encS,encI,refE,oNum,oVar,Ex.op,Ex.text,Ex.order,Ex.kids]
theorem J2T (o:ByteArray) (l:List Ex):PureCall Tryz.prog 24 [encS o,.sl 4 (l.map encE)] (.agg [encS o,encS ⟨#[]⟩,encI 0,.sl 4 (l.map encE)]):=by
 refine PC [] Tryz.func24 rfl (by rfl) rfl ?_;refine kWQ ?_;intros;exact .of rfl
theorem J8j {S:List Nat} {H:Hp} {n b g off len:Nat} {B:Blk} (hS:b∈S) (hb:H b=some (g,B)) (hl:off+len≤B.xs.length):J09 S H (n+1) (.own b g off len)=.sl B.n (((B.xs.drop off).take len).map (J0R (J09 S H n))):=by
 simp only[J09,if_pos hS,hb,true_and,if_pos hl]
abbrev sN:AV:=.agg [.sl 7 [encV (nV bX),encV (nV bY)],.val (.slice none 0 0),.val (.slice none 0 0),.val (.slice none 0 0)]
theorem JJG:Le sN (J0G s3):=by
 have h:=Le.cons (Le.refl (AV.sl 7 [encV (nV bX),encV (nV bY)])) (Le.cons (Le.nil 9) (Le.cons (Le.nil 9) (Le.cons (Le.nil 6) J2h)));exact Le.agg h.1 h.2
theorem row2:PureCall Tryz.prog 19 [sN,encE sm3,J2G [uX,uY],.agg [encS ⟨#[48]⟩,encB false,.val (.slice none 0 0)]] (.tup [.sl 1 [encS ⟨#[50]⟩,encS ⟨#[49]⟩],encS ⟨#[45,51]⟩,encI 0]):=by
 refine J7q row1 ⟨rfl,fun i h h'=>?_⟩
 match i,h with
 | 0,_=>exact JJG
 | 1,_=>exact Le.refl _
 | 2,_=>exact Le.refl _
 | 3,_=>
   have h:=Le.cons (Le.refl (encS ⟨#[48]⟩)) (Le.cons (Le.refl (encB false)) (Le.cons (Le.nil 4) J2h));exact Le.agg h.1 h.2
theorem JKV {f:Nat} {b c r:AV} (h:PureCall Tryz.prog f [J0G s3,b,c] r):PureCall Tryz.prog f [sN,b,c] r:=by
 refine J7q h ⟨rfl,fun i h h'=>?_⟩
 match i,h with
 | 0,_=>exact JJG
 | 1,_=>exact Le.refl _
 | 2,_=>exact Le.refl _
theorem JLO {f:Nat} {b r:AV} (h:PureCall Tryz.prog f [J0G s3,b] r):PureCall Tryz.prog f [sN,b] r:=by
 refine J7q h ⟨rfl,fun i h h'=>?_⟩
 match i,h with
 | 0,_=>exact JJG
 | 1,_=>exact Le.refl _
theorem gwt3:GdE wt3:=two3 (by decide) (two3 (by decide) (J85 (by decide) (by decide) (by decide) (by simp)) (J9C _ (by decide))) (two3 (by decide) (J9C _ (by decide)) (J85 (by decide) (by decide) (by decide) (by simp)))
theorem JDO:PureCall Tryz.prog 16 [] (encB true):=by
 refine PC [] Tryz.func16 rfl (by rfl) rfl ?_;refine kX ?_;(refine kZ ?_;repeat intro γ);refine J0w ?_;refine kX ?_;(refine kZ ?_;repeat intro γ);refine J0w ?_;refine kX ?_;(refine kZ ?_;repeat intro γ)
 rename Nat=>γ1
 refine J0L (JLX [17] 1 γ1 _ rfl (by decide) (W.of (l:=[(0,encB false),(1,.op 1 γ1 0 0)]) (m:=[(1,γ1,⟨26,4,[sN]⟩)]) ?_ ⟨rfl,rfl,trivial⟩ ⟨?_,trivial⟩))
 rotate_left
 ·refine congrArg (fun z=>some (γ1,(⟨26,4,[.agg [z,.val (.slice none 0 0),.val (.slice none 0 0),.val (.slice none 0 0)]]⟩:Blk))) ?_;exact (J8j (B:=⟨89,7,[encV (nV bX),encV (nV bY)]⟩) (by decide) rfl (by decide)).trans rfl
 refine kX ?_;(refine kZ ?_;repeat intro γ);refine J0L (JG7 2 21 (y:=J2G [uX,uY]) rfl ?_ (W.of (l:=[(0,encB false),(1,.op 1 γ1 0 0),(2,J2G [uX,uY])]) (m:=[(1,γ1,⟨26,4,[sN]⟩)]) ?_ ⟨rfl,rfl,rfl,trivial⟩ ⟨rfl,trivial⟩))
 ·exact (J8j (B:=⟨54,3,[encU uX,encU uY]⟩) (by decide) rfl (by decide)).trans rfl
 refine kX ?_;(refine kZ ?_;repeat intro γ);refine J0w ?_;refine kX ?_;(refine kZ ?_;repeat intro γ);refine CallG.intro _ c61 (by have:=JBk ⟨#[50]⟩;rw[J01] at this;exact this) ?_;refine kX ?_;(refine kZ ?_;repeat intro γ);refine CallG.intro _ c62 (by have:=J1F bX 0;rw[J01] at this;exact this) ?_;refine kX ?_;(refine kZ ?_;repeat intro γ);refine J0X (b:=27) _ c24 rfl rfl (Nat.succ_pos 3) (J03 (congrArg (fun z=>[encS oMul,z]) (J1m (out:=[numE ⟨#[50]⟩,refE bX 0]) (by simp only[List.map_cons,List.map_nil,J01,opE,refE,numE,Ex.op,Ex.text,Ex.order,Ex.kids];rfl) rfl)) (J2T oMul [numE ⟨#[50]⟩,refE bX 0])) ?_;refine kX ?_;(refine kZ ?_;repeat intro γ);refine CallG.intro _ c62 (by have:=J1F bY 0;rw[J01] at this;exact this) ?_;refine kX ?_;(refine kZ ?_;repeat intro γ);refine CallG.intro _ c61 (by have:=JBk ⟨#[51]⟩;rw[J01] at this;exact this) ?_;refine kX ?_;(refine kZ ?_;repeat intro γ);refine J0X (b:=31) _ c24 rfl rfl (Nat.succ_pos 3) (J03 (congrArg (fun z=>[encS oSub,z]) (J1m (out:=[refE bY 0,numE ⟨#[51]⟩]) (by simp only[List.map_cons,List.map_nil,J01,opE,refE,numE,Ex.op,Ex.text,Ex.order,Ex.kids];rfl) rfl)) (J2T oSub [refE bY 0,numE ⟨#[51]⟩])) ?_;refine kX ?_;(refine kZ ?_;repeat intro γ);refine J0X (b:=33) _ c24 rfl rfl (Nat.succ_pos 3) (J03 (congrArg (fun z=>[encS oAdd,z]) (J1m (out:=[opE oMul [numE ⟨#[50]⟩,refE bX 0],opE oSub [refE bY 0,numE ⟨#[51]⟩]]) (by simp only[List.map_cons,List.map_nil,J01,opE,refE,numE,Ex.op,Ex.text,Ex.order,Ex.kids];rfl) rfl)) (J2T oAdd [opE oMul [numE ⟨#[50]⟩,refE bX 0],opE oSub [refE bY 0,numE ⟨#[51]⟩]])) ?_;refine kX ?_;(refine kZ ?_;repeat intro γ);refine CallG.intro _ c19 (by have:=row2;simp only[sm3,xx3,xy3,wt3,J01,opE,refE,numE,Ex.op,Ex.text,Ex.order,Ex.kids,List.map_cons,List.map_nil] at this;exact this) ?_;refine kX ?_;(refine kZ ?_;repeat intro γ);refine J0w ?_;refine kX ?_;(refine kZ ?_;repeat intro γ);refine J00 [] _ c62 (by have:=J1F bX 0;rw[J01] at this;exact this) ?_;refine kX ?_;(refine kZ ?_;repeat intro γ);refine J00 [] _ c62 (by have:=J1F bY 0;rw[J01] at this;exact this) ?_;refine kX ?_;(refine kZ ?_;repeat intro γ);refine J00 [43] _ c24 (J03 (congrArg (fun z=>[encS oMul,z]) (J1m (out:=[refE bX 0,refE bY 0]) (by simp only[List.map_cons,List.map_nil,J01,opE,refE,numE,Ex.op,Ex.text,Ex.order,Ex.kids];rfl) rfl)) (J2T oMul [refE bX 0,refE bY 0])) ?_;refine kX ?_;(refine kZ ?_;repeat intro γ);refine J0w ?_;refine kX ?_;(refine kZ ?_;repeat intro γ);refine J00 [] _ c17 (by have:=JKV il1;simp only[sm3,xx3,xy3,wt3,J01,opE,refE,numE,Ex.op,Ex.text,Ex.order,Ex.kids,List.map_cons,List.map_nil] at this;exact this) ?_;refine kX ?_;(refine kZ ?_;repeat intro γ);refine J0w ?_;refine kX ?_;(refine kZ ?_;repeat intro γ);refine CallG.intro _ c17 (by have:=JKV il2;simp only[sm3,xx3,xy3,wt3,J01,opE,refE,numE,Ex.op,Ex.text,Ex.order,Ex.kids,List.map_cons,List.map_nil] at this;exact this) ?_;refine kX ?_;(refine kZ ?_;repeat intro γ);refine J0w ?_;refine kX ?_;(refine kZ ?_;repeat intro γ);refine CallG.intro _ c62 (by have:=J1F bX 0;rw[J01] at this;exact this) ?_;refine kX ?_;(refine kZ ?_;repeat intro γ);refine CallG.intro _ c62 (by have:=J1F bX 0;rw[J01] at this;exact this) ?_;refine kX ?_;(refine kZ ?_;repeat intro γ);refine J0X (b:=64) _ c24 rfl rfl (Nat.succ_pos 3) (J03 (congrArg (fun z=>[encS oMul,z]) (J1m (out:=[refE bX 0,refE bX 0]) (by simp only[List.map_cons,List.map_nil,J01,opE,refE,numE,Ex.op,Ex.text,Ex.order,Ex.kids];rfl) rfl)) (J2T oMul [refE bX 0,refE bX 0])) ?_;refine kX ?_;(refine kZ ?_;repeat intro γ);refine CallG.intro _ c23 (by have:=JLO dr1;simp only[sm3,xx3,xy3,wt3,J01,opE,refE,numE,Ex.op,Ex.text,Ex.order,Ex.kids,List.map_cons,List.map_nil] at this;exact this) ?_;refine kX ?_;(refine kZ ?_;repeat intro γ);refine J0w ?_;refine kX ?_;(refine kZ ?_;repeat intro γ);refine J00 [] _ c62 (by have:=J1F bX 1;rw[J01] at this;exact this) ?_;refine kX ?_;(refine kZ ?_;repeat intro γ);refine J00 [] _ c62 (by have:=J1F bX 0;rw[J01] at this;exact this) ?_;refine kX ?_;(refine kZ ?_;repeat intro γ);refine J00 [71] _ c24 (J03 (congrArg (fun z=>[encS oMul,z]) (J1m (out:=[refE bX 1,refE bX 0]) (by simp only[List.map_cons,List.map_nil,J01,opE,refE,numE,Ex.op,Ex.text,Ex.order,Ex.kids];rfl) rfl)) (J2T oMul [refE bX 1,refE bX 0])) ?_;refine kX ?_;(refine kZ ?_;repeat intro γ);refine J00 [] _ c62 (by have:=J1F bX 0;rw[J01] at this;exact this) ?_;refine kX ?_;(refine kZ ?_;repeat intro γ);refine J00 [] _ c62 (by have:=J1F bX 1;rw[J01] at this;exact this) ?_;refine kX ?_;(refine kZ ?_;repeat intro γ);refine J00 [75] _ c24 (J03 (congrArg (fun z=>[encS oMul,z]) (J1m (out:=[refE bX 0,refE bX 1]) (by simp only[List.map_cons,List.map_nil,J01,opE,refE,numE,Ex.op,Ex.text,Ex.order,Ex.kids];rfl) rfl)) (J2T oMul [refE bX 0,refE bX 1])) ?_;refine kX ?_;(refine kZ ?_;repeat intro γ);refine J00 [77] _ c24 (J03 (congrArg (fun z=>[encS oAdd,z]) (J1m (out:=[opE oMul [refE bX 1,refE bX 0],opE oMul [refE bX 0,refE bX 1]]) (by simp only[List.map_cons,List.map_nil,J01,opE,refE,numE,Ex.op,Ex.text,Ex.order,Ex.kids];rfl) rfl)) (J2T oAdd [opE oMul [refE bX 1,refE bX 0],opE oMul [refE bX 0,refE bX 1]])) ?_;refine kX ?_;(refine kZ ?_;repeat intro γ);refine J0w ?_;refine kX ?_;(refine kZ ?_;repeat intro γ);refine CallP.flat [80] _ c21 (J03 ?_ tx1) rfl ?_
 ·show [_,snap [80] _ (.own 80 _ 0 2)]=_
  rw[J1b (B:=⟨9,1,[encS ⟨#[50]⟩,encS ⟨#[49]⟩]⟩) (by decide) rfl (by decide)];rfl
 refine kX ?_;(refine kZ ?_;repeat intro γ);refine CallP.flat [] _ c25 (by have:=JCL wt3 gwt3.1;simp only[sm3,xx3,xy3,wt3,J01,opE,refE,numE,Ex.op,Ex.text,Ex.order,Ex.kids,List.map_cons,List.map_nil] at this;exact this) rfl ?_;refine kX ?_;(refine kZ ?_;repeat intro γ);exact .of rfl
theorem OpenB.low {H:Type} {L:DataW H→Prop} {N M:Nat} {enc:TypeId×Value→H} {P:Program} {w:World} {t:Nat} {Ψ:List AV→Prop} (h:OpenB L M enc P w t Ψ) (hn:N≤M):OpenB L N enc P w t Ψ:=fun fuel hf=>h fuel (Nat.le_trans hf hn)
theorem J2K {t e:Nat} {d:Fw.TD} (hd:T t=some d) (hk:d.kind=.slice e):Tryz.prog.underlying t=some (.slice e):=by
 obtain ⟨u,hu,hr⟩:=(J0Y (J4V _ _ hd)).und;rw[hk] at hr;cases u<;>simp[kdOf] at hr
 subst hr;exact hu
theorem u3:Tryz.prog.underlying 3=some (.int .i64):=by kernel_rfl
theorem u4:Tryz.prog.underlying 4=some .bool:=by kernel_rfl
theorem u9:Tryz.prog.underlying 9=some .string:=by kernel_rfl
section
variable {H:Type} {enc:TypeId×Value→H} {w:World} {L:DataW H→Prop} {B0:Nat}
abbrev pS (B0:Nat):List AV→Prop:=fun z=>∃ s:ByteArray,z=[AV.val (.string s)]∧s.size≤B0
abbrev pI:List AV→Prop:=fun z=>∃ n:Int,z=[AV.val (.int .i64 n)]
abbrev pB:List AV→Prop:=fun z=>∃ b:Bool,z=[AV.val (.bool b)]
theorem JLJ (hL:LB L B0) (N:Nat):OpenB L (N+1) enc Tryz.prog w 54 fun z=>∃ u:U,z=(encU u).cells∧u.name.size≤B0:=by
 obtain ⟨fs,hu,hf⟩:=J0V (J4V 54 _ rfl) rfl
 refine (J0q hL hu [(0,9,1,pS B0),(1,3,1,pI),(2,4,1,pB)] hf (by
  intro p hp;simp only[List.mem_cons,List.not_mem_nil,or_false] at hp
  rcases hp with rfl | rfl | rfl<;>kernel_rfl) (by kernel_rfl) (by
  intro p hp;simp only[List.mem_cons,List.not_mem_nil,or_false] at hp
  rcases hp with rfl | rfl | rfl
  ·exact J0x hL u9
  ·exact J2S u3
  ·exact J71 u4)).mono ?_
 rintro z ⟨zs,rfl,h⟩
 match zs,h with
 | [z0,z1,z2],⟨⟨s,h0,hs⟩,⟨n,h1⟩,⟨b,h2⟩,_⟩=>
   subst h0 h1 h2;exact ⟨⟨s,n,b⟩,rfl,hs⟩
def JA7 (e:Ex):Prop:=SzE e∧TxE e
abbrev pExp (w:World):List AV→Prop:=fun z=>∃ e:Ex,z=(encE e).cells∧JA7 e
theorem JAl (hL:LB L B0) (hB:B0<2^21):∀ N:Nat,OpenB L N enc Tryz.prog w 29 (pExp w)
 | 0=>by
   intro fuel hf cs x h _;obtain ⟨fs,hu,_⟩:=J0V (J4V 29 _ rfl) rfl;obtain ⟨_,n,hn,_⟩:=DataW.trod_struct hu h;omega
 | N + 1=>by
   obtain ⟨fs,hu,hf⟩:=J0V (J4V 29 _ rfl) rfl;have hk:=OpenB.low (J1W (n:=4) (f:=encE) (Φ:=JA7) hL (J2K (t:=27) (e:=29) rfl rfl) (by kernel_rfl) (by decide) (JAl hL hB N)) (Nat.le_succ N)
   refine (J0q hL hu [(0,9,1,pS B0),(1,9,1,pS B0),(2,3,1,pI),(3,27,1,_)] hf (by
    intro p hp;simp only[List.mem_cons,List.not_mem_nil,or_false] at hp
    rcases hp with rfl | rfl | rfl | rfl<;>kernel_rfl) (by kernel_rfl) (by
    intro p hp;simp only[List.mem_cons,List.not_mem_nil,or_false] at hp
    rcases hp with rfl | rfl | rfl | rfl
    ·exact J0x hL u9
    ·exact J0x hL u9
    ·exact J2S u3
    ·exact hk)).mono ?_
   rintro z ⟨zs,rfl,h⟩
   match zs,h with
   | [z0,z1,z2,z3],⟨⟨o,h0,ho⟩,⟨t,h1,ht⟩,⟨n,h2⟩,⟨l,h3,hl,hg⟩,_⟩=>
     subst h0 h1 h2 h3;refine ⟨.mk o t n l,?_,SzE.mk (by omega) (by omega) (by omega) fun k hk=>(hg k hk).1,TxE.mk (by omega) fun k hk=>(hg k hk).2⟩;rw[J01];rfl
theorem JKO (hL:LB L B0) (hB:B0<2^21) (N:Nat):OpenB L (N+1) enc Tryz.prog w 58 fun z=>∃ q:Eqn,z=(J0O q).cells∧q.name.size≤B0∧JA7 q.left∧JA7 q.right:=by
 obtain ⟨fs,hu,hf⟩:=J0V (J4V 58 _ rfl) rfl
 refine (J0q hL hu [(0,9,1,pS B0),(1,29,4,pExp w),(5,29,4,pExp w)] hf (by
  intro p hp;simp only[List.mem_cons,List.not_mem_nil,or_false] at hp
  rcases hp with rfl | rfl | rfl<;>kernel_rfl) (by kernel_rfl) (by
  intro p hp;simp only[List.mem_cons,List.not_mem_nil,or_false] at hp
  rcases hp with rfl | rfl | rfl
  ·exact J0x hL u9
  ·exact JAl hL hB N
  ·exact JAl hL hB N)).mono ?_
 rintro z ⟨zs,rfl,h⟩
 match zs,h with
 | [z0,z1,z2],⟨⟨s,h0,hs⟩,⟨a,h1,ha⟩,⟨b,h2,hb⟩,_⟩=>
   subst h0 h1 h2;refine ⟨⟨s,a,b⟩,?_,hs,ha,hb⟩;rw[J08,J08];rfl
theorem JKP (hL:LB L B0) (hB:B0<2^21) (N:Nat):OpenB L (N+1) enc Tryz.prog w 260 fun z=>∃ a:Ac,z=(J9L a).cells∧JA7 a.value:=by
 obtain ⟨fs,hu,hf⟩:=J0V (J4V 260 _ rfl) rfl
 refine (J0q hL hu [(0,3,1,pI),(1,9,1,pS B0),(2,29,4,pExp w)] hf (by
  intro p hp;simp only[List.mem_cons,List.not_mem_nil,or_false] at hp
  rcases hp with rfl | rfl | rfl<;>kernel_rfl) (by kernel_rfl) (by
  intro p hp;simp only[List.mem_cons,List.not_mem_nil,or_false] at hp
  rcases hp with rfl | rfl | rfl
  ·exact J2S u3
  ·exact J0x hL u9
  ·exact JAl hL hB N)).mono ?_
 rintro z ⟨zs,rfl,h⟩
 match zs,h with
 | [z0,z1,z2],⟨⟨n,h0⟩,⟨s,h1,hs⟩,⟨b,h2,hb⟩,_⟩=>
   subst h0 h1 h2;refine ⟨⟨n,s,b⟩,?_,hb⟩;rw[J08];rfl
theorem JKL (hL:LB L B0) (hB:B0<2^21) (N:Nat):OpenB L (N+3) enc Tryz.prog w 228 fun z=>∃ a:Whn,z=(J0t a).cells∧a.name.size≤B0∧a.acts.length≤B0∧JA7 a.cond∧∀ x∈a.acts,JA7 x.value:=by
 obtain ⟨fs,hu,hf⟩:=J0V (J4V 228 _ rfl) rfl;have hk:=J1W (n:=6) (f:=J9L) (Φ:=fun a=>JA7 a.value) hL (J2K (t:=226) (e:=260) rfl rfl) (by kernel_rfl) (by decide) (JKP (enc:=enc) (w:=w) hL hB N)
 refine (J0q hL hu [(0,9,1,pS B0),(1,29,4,pExp w),(5,226,1,_)] hf (by
  intro p hp;simp only[List.mem_cons,List.not_mem_nil,or_false] at hp
  rcases hp with rfl | rfl | rfl<;>kernel_rfl) (by kernel_rfl) (by
  intro p hp;simp only[List.mem_cons,List.not_mem_nil,or_false] at hp
  rcases hp with rfl | rfl | rfl
  ·exact J0x hL u9
  ·exact JAl hL hB _
  ·exact hk)).mono ?_
 rintro z ⟨zs,rfl,h⟩
 match zs,h with
 | [z0,z1,z2],⟨⟨s,h0,hs⟩,⟨a,h1,ha⟩,⟨l,h2,hl,hb⟩,_⟩=>
   subst h0 h1 h2;refine ⟨⟨s,a,l⟩,?_,hs,hl,ha,hb⟩;rw[J08];rfl
theorem JKM (hL:LB L B0) (N:Nat):OpenB L (N+1) enc Tryz.prog w 89 fun z=>∃ v:Va,z=(encV v).cells∧v.name.size≤B0∧v.value.size≤B0∧v.start.size≤B0∧v.unit.size≤B0:=by
 obtain ⟨fs,hu,hf⟩:=J0V (J4V 89 _ rfl) rfl
 refine (J0q hL hu [(0,9,1,pS B0),(1,3,1,pI),(2,3,1,pI),(3,9,1,pS B0),(4,9,1,pS B0),(5,4,1,pB),(6,9,1,pS B0)] hf (by
  intro p hp;simp only[List.mem_cons,List.not_mem_nil,or_false] at hp
  rcases hp with rfl | rfl | rfl | rfl | rfl | rfl | rfl<;>kernel_rfl) (by kernel_rfl) (by
  intro p hp;simp only[List.mem_cons,List.not_mem_nil,or_false] at hp
  rcases hp with rfl | rfl | rfl | rfl | rfl | rfl | rfl
  ·exact J0x hL u9
  ·exact J2S u3
  ·exact J2S u3
  ·exact J0x hL u9
  ·exact J0x hL u9
  ·exact J71 u4
  ·exact J0x hL u9)).mono ?_
 rintro z ⟨zs,rfl,h⟩
 match zs,h with
 | [z0,z1,z2,z3,z4,z5,z6],⟨⟨a,h0,g0⟩,⟨b,h1⟩,⟨c,h2⟩,⟨d,h3,g3⟩,⟨e,h4,g4⟩,⟨f,h5⟩,⟨g,h6,g6⟩,_⟩=>
   subst h0 h1 h2 h3 h4 h5 h6;exact ⟨⟨a,b,c,d,e,f,g⟩,rfl,g0,g3,g4,g6⟩
theorem JKN (hL:LB L B0) (hB:B0≤2^20) (N:Nat):OpenB L (N+5) enc Tryz.prog w 26 fun z=>∃ s:Sys,z=(J0G s).cells∧SzS s:=by
 obtain ⟨fs,hu,hf⟩:=J0V (J4V 26 _ rfl) rfl;have hB':B0<2^21:=by omega
 have k1:=OpenB.low (J1W (n:=7) (f:=encV) hL (J2K (t:=22) (e:=89) rfl rfl) (by kernel_rfl) (by decide) (JKM (enc:=enc) (w:=w) hL (N+2))) (N:=N+4) (by omega);have k2:=OpenB.low (J1W (n:=9) (f:=J0O) hL (J2K (t:=23) (e:=58) rfl rfl) (by kernel_rfl) (by decide) (JKO (enc:=enc) (w:=w) hL hB' (N+2))) (N:=N+4) (by omega);have k3:=OpenB.low (J1W (n:=6) (f:=J0t) hL (J2K (t:=24) (e:=228) rfl rfl) (by kernel_rfl) (by decide) (JKL (enc:=enc) (w:=w) hL hB' N)) (N:=N+4) (by omega)
 refine (J0q hL hu [(0,22,1,_),(1,23,1,_),(2,23,1,_),(3,24,1,_)] hf (by
  intro p hp;simp only[List.mem_cons,List.not_mem_nil,or_false] at hp
  rcases hp with rfl | rfl | rfl | rfl<;>kernel_rfl) (by kernel_rfl) (by
  intro p hp;simp only[List.mem_cons,List.not_mem_nil,or_false] at hp
  rcases hp with rfl | rfl | rfl | rfl
  ·exact k1
  ·exact k2
  ·exact k2
  ·exact k3)).mono ?_
 rintro z ⟨zs,rfl,h⟩
 match zs,h with
 | [z0,z1,z2,z3],⟨⟨vs,h0,l0,g0⟩,⟨qs,h1,l1,g1⟩,⟨ns,h2,l2,g2⟩,⟨ws,h3,l3,g3⟩,_⟩=>
   subst h0 h1 h2 h3;refine ⟨⟨vs,qs,ns,ws⟩,rfl,⟨by simp only;omega,by simp only;omega,by simp only;omega,by simp only;omega,fun w hw=>?_,fun e he=>?_,fun v hv=>?_,⟨fun q hq=>?_,fun q hq=>?_,fun w hw=>?_⟩,by simp only;omega⟩⟩
   ·have:=(g3 w hw).2.1;omega
   ·unfold allF at he
    rcases List.mem_append.1 he with he | he
    ·rcases List.mem_append.1 he with he | he
     ·unfold J1N at he;obtain ⟨q,hq,he⟩:=List.mem_flatMap.1 he;simp only[List.mem_cons,List.not_mem_nil,or_false] at he
      rcases he with rfl | rfl
      ·exact (g1 q hq).2.1
      ·exact (g1 q hq).2.2
     ·unfold J1N at he;obtain ⟨q,hq,he⟩:=List.mem_flatMap.1 he;simp only[List.mem_cons,List.not_mem_nil,or_false] at he
      rcases he with rfl | rfl
      ·exact (g2 q hq).2.1
      ·exact (g2 q hq).2.2
    ·obtain ⟨x,hx,he⟩:=List.mem_flatMap.1 he;unfold J3L at he
     rcases List.mem_cons.1 he with rfl | he
     ·exact (g3 x hx).2.2.1
     ·obtain ⟨a,ha,rfl⟩:=List.mem_map.1 he;exact (g3 x hx).2.2.2 a ha
   ·have:=g0 v hv;exact ⟨by omega,by omega,by omega,by omega⟩
   ·have:=(g1 q hq).1;omega
   ·have:=(g2 q hq).1;omega
   ·have:=(g3 w hw).1;omega
end
theorem J9s (e:Ex):AV.agg (encE e).cells=encE e:=by rw[J08];rfl
end Go.Proofs.YtlblbldolhiokaaGreatDoor
namespace Go.Proofs.YtlblbldolhiokaaGreatDoor
open Go Go.Fw Go.ChangeShapes Go.WideShapes Go.ChangeAt Go.RowKit
theorem JH0:ownKnob Tryz.prog.godebug=none:=by kernel_rfl
theorem J3X:laidOutB Tryz.prog=true:=by kernel_rfl
section
variable {H:Type}
theorem JLW (d:DataW H):1≤Rows.uptoBulk d:=by
 cases d with
 | lit l=>cases l<;>simp[Rows.uptoBulk]
 | _=>simp[Rows.uptoBulk]
theorem J6K {d:DataW H} {l:List (DataW H)} (h:d∈l):Rows.uptoBulk d≤Rows.uptoBulkAll l:=by
 induction l with
 | nil=>cases h
 | cons x r ih=>
   simp only[Rows.uptoBulkAll]
   cases List.mem_cons.1 h with
   | inl e=>subst e;omega
   | inr e=>have:=ih e;omega
theorem JHq (l:List (DataW H)):l.length≤Rows.uptoBulkAll l:=by
 induction l with
 | nil=>simp[Rows.uptoBulkAll]
 | cons x r ih=>have:=JLW x;simp only[Rows.uptoBulkAll,List.length_cons];omega
abbrev Blk (H:Type):DataW H→Prop:=fun d=>Rows.uptoBulk d≤1048576
theorem JCF:LB (Blk H) 1048576:=by
 refine ⟨fun e s h=>?_,fun p h d hd=>?_,fun s h=>?_⟩
 ·have h:Rows.uptoBulkAll e+Rows.uptoBulkAll s+1≤1048576:=by simpa [Blk,Rows.uptoBulk] using h
  refine ⟨by have:=JHq e;omega,fun d hd=>?_⟩;have:=J6K hd;show Rows.uptoBulk d≤1048576
  omega
 ·have h:Rows.uptoBulkAll p+1≤1048576:=by simpa [Blk,Rows.uptoBulk] using h
  have:=J6K hd;show Rows.uptoBulk d≤1048576
  omega
 ·have h:s.length+1≤1048576:=by simpa [Blk,Rows.uptoBulk] using h
  omega
theorem JEH {l:List (DataW H)} (h:Rows.uptoSmall H l=true):∀ d∈l,Blk H d:=fun d hd=>by
 have h:Rows.uptoBulkAll l≤1048576:=by simpa [Rows.uptoSmall] using h
 exact Nat.le_trans (J6K hd) h
end
section
variable {H:Type} {enc:TypeId×Value→H} {w:World} {L:DataW H→Prop} {N t:Nat} {Ψ:List AV→Prop}
theorem J4u (hO:OpenB L N enc Tryz.prog w t Ψ) {fuel:Nat} (hf:fuel≤N) {v:Value} {x:DataW H×List MemPlace} (hv:∃ cs,v=.agg cs) (h:DataW.trod enc Tryz.prog w 0 (fun _=>true) true fuel t v.cells.toList=some x) (hl:L x.1):∃ z,Ψ z∧VR KM.empty w NoN (.agg z) v:=by
 obtain ⟨z,h1,h2⟩:=hO fuel hf _ x h hl;obtain ⟨cs,rfl⟩:=hv;have e:(Value.agg cs).cells.toList=cs.toList:=by simp[Value.cells]
 rw[e] at h1;refine ⟨z,h2,.agg _ cs (h1.len.trans (by simp)) (fun i h h'=>?_) (fun i h=>h1.pl _ (by simp))⟩;have:=h1.rel i h (by simpa using h');rw[Array.getElem_toList] at this;exact this
end
def flatD:Nat→DataW Unit→List Value
 | _,.lit (.int k n)=>[.int k n]
 | n+1,.agg ps=>ps.flatMap (flatD n)
 | _,_=>[]
def putT (d:DataW Unit):Obj→Obj
 | .cells _ t z=>.cells (flatD 3 d).toArray t z
 | o=>o
noncomputable def laidW (os:Os):World:=
 { World.holding Tryz.prog os ⟨#[],#[],[]⟩ with heap:=((World.holding Tryz.prog os ⟨#[],#[],[]⟩).heap.modify 1 (putT Rows.laid_unicode_utf8_first)).modify 2 (putT Rows.laid_unicode_utf8_acceptRanges) }
abbrev laidL:List (String×DataW Unit):=[("unicode/utf8.acceptRanges",Rows.laid_unicode_utf8_acceptRanges),("unicode/utf8.first",Rows.laid_unicode_utf8_first)]
theorem JHA (os:Os) (args:Array Value):laidMet Tryz.prog laidL ((laidW os).forCall (fun _ _=>0) ⟨#[],args,[]⟩).memory:=
 laidMet_of_run' 8 (by kernel_rfl) (by kernel_rfl)
theorem JCx:mapsRowed Tryz.prog=true:=by kernel_rfl
theorem JAR:Tryz.prog.stopsHeard=true:=by kernel_rfl
theorem JEo:Tryz.prog.mayEnter=true:=by kernel_rfl
theorem JAp:(Rows.systemHoldsUptoRow.lifted==Tryz.prog.liftsFinal)=true:=by kernel_rfl
theorem JJB:(Tryz.prog.make==some Rows.systemHoldsUptoRow.make)=true:=by kernel_rfl
theorem JKT:false=Tryz.pinned.checked.prog.looks []:=by kernel_rfl
theorem JJC:Tryz.pinned.checked.prog.mainIs=some (Rows.systemHoldsUptoCard.stood.harness.1,Rows.systemHoldsUptoCard.stood.harness.2.toList):=by kernel_rfl
theorem JCt {n:String} {k:FuncId} {g:Func} {ts:Array TypeId} (h1:Tryz.prog.funcNamed n=some k) (h2:Tryz.prog.funcs[k]?=some g) (h3:g.params=ts) (h4:ts.all (fun t=>!Tryz.prog.wantsStandIn t)=true)
  (f:FuncId) (fn:Func) (hf:Tryz.pinned.checked.prog.funcNamed n=some f) (hfn:Tryz.pinned.checked.prog.funcs[f]?=some fn) :
  false=Tryz.pinned.checked.prog.looks []∧∀ (j:Nat) t,fn.params[j]?=some t→Tryz.pinned.checked.prog.wantsStandIn t=false:=by
 obtain rfl:f=k:=Option.some.inj (hf.symm.trans h1);obtain rfl:fn=g:=Option.some.inj (hfn.symm.trans h2);refine ⟨JKT,fun j t ht=>?_⟩;rw[h3] at ht;have:=Array.all_eq_true'.1 h4 t (Array.mem_of_getElem? ht);have h5:Tryz.pinned.checked.prog.wantsStandIn t=Tryz.prog.wantsStandIn t:=rfl;rw[h5]
 simpa using this
end Go.Proofs.YtlblbldolhiokaaGreatDoor
