/- Part 50 of the proof: abstract values and their rules; walks of the functions; plain lemmas. -/
import Derived.Test.YtlhdoekgipaihaaGreatDoorMt49
import Derived.RangeFuncBox
import Derived.RangeFuncLeaves
import Derived.RangeFuncNested
import Derived.RangeFuncBound
import Derived.RangeFuncCalls
import Derived.Shelf.Abstract
import Derived.Shelf.RegionOpen
import Derived.WalkKit
import Derived.OwnWalkIn
import Derived.TacticsInMore
import Derived.LoopNIn
import Derived.LoopIn
import Derived.BigFrameIn
set_option linter.unusedVariables false
set_option linter.unusedSimpArgs false
set_option linter.unusedSectionVars false
set_option maxRecDepth 100000
set_option exponentiation.threshold 400
namespace Go.Proofs.YtlhdoekgipaihaaGreatDoor
open Go Go.Fw
theorem encZ_small (z:Int) (n:Nat) (h:z.natAbs=n) (h0:0<n) (h1:n<1000000000):encZ z=.agg [encB (decide (z<0)),encWs [n]]:=by
 rw[encZ_mk,h,dg_one hB9 h0 h1];rfl
theorem Of1_ok:PureCall Tryz.prog 233 [encI 1] (encZ 1):=by
 rw[encZ_small 1 1 rfl (by omega) (by omega)]
 exact runs_pure XR_ok (fuel:=20) (n:=5) (by kernel_rfl)
theorem Ofm1_ok:PureCall Tryz.prog 233 [encI (-1)] (encZ (-1)):=by
 rw[encZ_small (-1) 1 rfl (by omega) (by omega)]
 exact runs_pure XR_ok (fuel:=20) (n:=5) (by kernel_rfl)
theorem dg_pos_len {n:Nat} (h:0<n):0<(dg B9 n).length:=by
 rcases Nat.eq_zero_or_pos (dg B9 n).length with h' | h'
 ·have:=(dg_nil hB9 _).1 (List.length_eq_zero_iff.1 h');omega
 ·exact h'
def qsg (x y:Int):Int:=if (decide (x<0) != decide (y<0))=true then -((x.natAbs/y.natAbs:Nat):Int) else ((x.natAbs/y.natAbs:Nat):Int)
def rsg (x y:Int):Int:=if decide (x<0)=true then -((x.natAbs%y.natAbs:Nat):Int) else ((x.natAbs%y.natAbs:Nat):Int)
theorem PureCall.le {P:Program} {f:Nat} {args args':List AV} {r:AV} (h:PureCall P f args r) (hl:args'.length=args.length) (ha:∀ i (h:i<args'.length) (h':i<args.length),Le args'[i] args[i]):PureCall P f args' r:=by
 intro O w vs hO hv
 refine h O w vs hO ⟨by rw[← hl];exact hv.1,fun i h1 h2=>?_⟩
 exact ha i (by omega) h1 _ _ _ (hv.2 i (by omega) h2)
theorem qr_ok {x y:Int} (hy:y≠0):(¬ rsg x y<0→qsg x y=x/y∧rsg x y=x%y)∧(rsg x y<0→qsg x y-sgn y=x/y∧rsg x y+y.natAbs=x%y):=by
 have hn:0<y.natAbs:=by omega
 have h1:=Nat.mod_add_div x.natAbs y.natAbs
 have h2:=Nat.mod_lt x.natAbs hn
 unfold qsg rsg sgn
 rw[if_neg hy]
 have hp:(0:Int)<(y.natAbs:Int):=by omega
 generalize x.natAbs/y.natAbs=q at *
 generalize x.natAbs%y.natAbs=r at *
 have h1':(r:Int)+(y.natAbs:Int)*q=x.natAbs:=by rw[← Int.natCast_mul];omega
 have key:∀ Q R:Int,R+(y.natAbs:Int)*Q=x→0≤R→R<y.natAbs→x/y=(if y<0 then -Q else Q)∧x%y=R:=by
  intro Q R h3 h4 h5
  have h6:=(Int.ediv_emod_unique hp).2 ⟨h3,h4,h5⟩
  by_cases hs:y<0
  ·rw[if_pos hs]
   have e:y=-(y.natAbs:Int):=by omega
   generalize (y.natAbs:Int)=n at e h6
   rw[e,Int.ediv_neg,Int.emod_neg,h6.1,h6.2]
   exact ⟨rfl,rfl⟩
  ·rw[if_neg hs]
   have e:y=(y.natAbs:Int):=by omega
   generalize (y.natAbs:Int)=n at e h6
   rw[e];exact h6
 by_cases hx:x<0
 ·by_cases h0:r=0
  ·obtain ⟨k1,k2⟩:=key (-(q:Int)) 0 (by rw[Int.mul_neg];omega) (by omega) (by omega)
   rw[k1,k2,h0]
   by_cases hs:y<0<;>simp[hx,hs]
  ·obtain ⟨k1,k2⟩:=key (-(q:Int)-1) (y.natAbs-r) (by rw[Int.mul_sub,Int.mul_neg];omega) (by omega) (by omega)
   rw[k1,k2]
   by_cases hs:y<0<;>simp[hx,hs]<;>omega
 ·obtain ⟨k1,k2⟩:=key q r (by omega) (by omega) (by omega)
  rw[k1,k2]
  by_cases hs:y<0<;>simp[hx,hs]<;>omega
theorem Div_ok (x y:Int) (hx:zl x<2^36) (hy:zl y<2^36) (hy0:y≠0):PureCall Tryz.prog 276 [encZ x,encZ y] (.tup [encZ (x/y),encZ (x%y)]):=by
 refine PC [] Tryz.func276 rfl (by rfl) rfl ?_
 unfold zl at hx hy
 have dx:=dg_dig hB9 x.natAbs
 have dy:=dg_dig hB9 y.natAbs
 have hyp:=dg_pos_len (show 0<y.natAbs by omega)
 rw[encZ_mk x,encZ_mk y]
 refine kW ?_
 (refine kS ?_;repeat intro γ)
 refine CallP.flat [] _ c274 (compare_ok _ _ (by omega) (by omega) dx dy) rfl ?_
 have hc:=cmpW_neg hB9 x.natAbs y.natAbs
 refine kW ?_
 (refine kS ?_;repeat intro γ)
 refine CondP.dec (fun h=>?_) (fun h=>?_)<;>refine kX ?_
 case' refine_1=>
  have hlt:=hc.1 h
  (refine kZ ?_;repeat intro γ)
  obtain ⟨Q,hQe⟩:∃ Q:List Nat,Q=[]:=⟨_,rfl⟩
  obtain ⟨R,hRe⟩:∃ R:List Nat,R=dg B9 x.natAbs:=⟨_,rfl⟩
  refine cpA_seqW (W.le 6 1 rfl (W.of (l:=[(2,.op 2 _ 0 0),(3,.op 3 _ 0 0),(4,.op 4 _ 0 0),(5,.op 5 _ 0 0),(6,encWs Q),(7,encWs R)]) (m:=[(2,_,⟨122,2,[encZ x]⟩),(3,_,⟨122,2,[encZ y]⟩),(4,_,⟨122,2,[.agg [encB false,.val (.slice none 0 0)]]⟩),(5,_,⟨122,2,[.agg [encB false,.val (.slice none 0 0)]]⟩)]) ?_ ⟨rfl,rfl,rfl,rfl,by rw[hQe];rfl,by rw[hRe];rfl,trivial⟩ ⟨rfl,rfl,rfl,rfl,trivial⟩))
  have hQ:Dig B9 Q∧vl B9 Q=x.natAbs/y.natAbs∧Q.length<2^38:=⟨by rw[hQe];exact Dig.nil,by rw[hQe,Nat.div_eq_of_lt hlt];rfl,by rw[hQe];simp⟩
  have hR:Dig B9 R∧vl B9 R=x.natAbs%y.natAbs∧R.length<2^38:=⟨by rw[hRe];exact dx,by rw[hRe,Nat.mod_eq_of_lt hlt,vl_dg hB9],by rw[hRe];omega⟩
  clear hQe hRe hlt h hc
 case' refine_2=>
  have hge:y.natAbs≤x.natAbs:=Nat.le_of_not_lt fun h'=>h (hc.2 h')
  (refine kZ ?_;repeat intro γ)
  refine cpA_seq ?_
  refine kX ?_
  (refine kZ ?_;repeat intro γ)
  refine CondP.dec (fun h=>?_) (fun h=>?_)<;>refine kX ?_
  case' refine_1=>
   have hl1:(dg B9 y.natAbs).length=1:=by omega
   have hd0:(dg B9 y.natAbs)[0]=y.natAbs:=by
    have:=vl_dg hB9 y.natAbs
    obtain ⟨d,hd⟩:=List.length_eq_one_iff.1 hl1
    simp only[hd] at this ⊢
    simpa [vl] using this
   have hyb:y.natAbs<1000000000:=by rw[← hd0];exact g9 dy 0 hyp
   refine cpA_seq ?_
   refine kX ?_
   (refine kZ ?_;repeat intro γ)
   refine cpA_seq ?_
   refine kX ?_
   (refine kZ ?_;repeat intro γ)
   refine CallG.intro _ c334 (pure_args ?_ (small_ok (dg B9 x.natAbs) y.natAbs (by omega) dx (by omega) hyb)) ?_
   ·show [_,AV.val (.int .u32 (((dg B9 y.natAbs)[0]:Nat):Int))]=_
    rw[hd0];rfl
   obtain ⟨v1,d1⟩:=smallF_ok (show 0<y.natAbs by omega) dx
   rw[vl_dg hB9] at v1
   have ls:=smallF_len y.natAbs (dg B9 x.natAbs)
   rw[vl_dg hB9]
   have hm:=Nat.mod_lt x.natAbs (show 0<y.natAbs by omega)
   obtain ⟨Q,hQe⟩:∃ Q:List Nat,Q=smallF y.natAbs (dg B9 x.natAbs):=⟨_,rfl⟩
   obtain ⟨R,hRe⟩:∃ R:List Nat,R=[x.natAbs%y.natAbs]:=⟨_,rfl⟩
   rw[← hQe] at v1 d1 ls ⊢
   refine kX ?_
   (refine kZ ?_;repeat intro γ)
   refine cpA_seqW (W.frx 7 44 (x:=.own 44 _ 0 1) (y:=encWs R) rfl (ownC (e:=329) (by rw[hRe];rfl) (by rw[hRe];rfl)) (W.of (l:=[(2,.op 2 _ 0 0),(3,.op 3 _ 0 0),(4,.op 4 _ 0 0),(5,.op 5 _ 0 0),(6,encWs Q),(7,encWs R)]) (m:=[(2,_,⟨122,2,[encZ x]⟩),(3,_,⟨122,2,[encZ y]⟩),(4,_,⟨122,2,[.agg [encB false,.val (.slice none 0 0)]]⟩),(5,_,⟨122,2,[.agg [encB false,.val (.slice none 0 0)]]⟩)]) ?_ ⟨rfl,rfl,rfl,rfl,rfl,rfl,trivial⟩ ⟨rfl,rfl,rfl,rfl,trivial⟩))
   have hQ:Dig B9 Q∧vl B9 Q=x.natAbs/y.natAbs∧Q.length<2^38:=⟨d1,v1,by omega⟩
   have hR:Dig B9 R∧vl B9 R=x.natAbs%y.natAbs∧R.length<2^38:=⟨by rw[hRe];exact Dig.cons (Nat.lt_trans hm hyb) Dig.nil,by rw[hRe];simp[vl],by rw[hRe];simp⟩
   clear hQe hRe h hc hd0 hyb d1 v1 ls hm hl1 hge
  case' refine_2=>
   (refine kZ ?_;repeat intro γ)
   obtain ⟨k,hk⟩:∃ k,(dg B9 y.natAbs).length=k+1:=⟨(dg B9 y.natAbs).length-1,by omega⟩
   refine CallP.pure [] _ c335 (divide_ok x.natAbs y.natAbs k (by omega) hk hge) ?_
   have l1:=dg_mono hB9 (Nat.div_le_self x.natAbs y.natAbs)
   have l2:=dg_mono hB9 (Nat.mod_le x.natAbs y.natAbs)
   obtain ⟨Q,hQe⟩:∃ Q:List Nat,Q=dg B9 (x.natAbs/y.natAbs):=⟨_,rfl⟩
   obtain ⟨R,hRe⟩:∃ R:List Nat,R=dg B9 (x.natAbs%y.natAbs):=⟨_,rfl⟩
   unfold encW
   rw[← hQe,← hRe]
   refine kX ?_
   (refine kZ ?_;repeat intro γ)
   refine cpA_seqW (W.of (l:=[(2,.op 2 _ 0 0),(3,.op 3 _ 0 0),(4,.op 4 _ 0 0),(5,.op 5 _ 0 0),(6,encWs Q),(7,encWs R)]) (m:=[(2,_,⟨122,2,[encZ x]⟩),(3,_,⟨122,2,[encZ y]⟩),(4,_,⟨122,2,[.agg [encB false,.val (.slice none 0 0)]]⟩),(5,_,⟨122,2,[.agg [encB false,.val (.slice none 0 0)]]⟩)]) ?_ ⟨rfl,rfl,rfl,rfl,rfl,rfl,trivial⟩ ⟨rfl,rfl,rfl,rfl,trivial⟩)
   have hQ:Dig B9 Q∧vl B9 Q=x.natAbs/y.natAbs∧Q.length<2^38:=⟨by rw[hQe];exact dg_dig hB9 _,by rw[hQe,vl_dg hB9],by rw[hQe];omega⟩
   have hR:Dig B9 R∧vl B9 R=x.natAbs%y.natAbs∧R.length<2^38:=⟨by rw[hRe];exact dg_dig hB9 _,by rw[hRe,vl_dg hB9],by rw[hRe];omega⟩
   clear hQe hRe h hc hk l1 l2 hge
 all_goals
  obtain ⟨dQ,vQ,lQ⟩:=hQ
  obtain ⟨dR,vR,lR⟩:=hR
  rw[encZ_mk x,encZ_mk y]
  refine kW ?_
  (refine kS ?_;repeat intro γ)
  refine CallG.intro _ c272 (signed_ok' Q (!(decide (x<0)==decide (y<0))) (by omega) dQ) ?_
  rw[vQ,show (if (!(decide (x<0)==decide (y<0)))=true then -((x.natAbs/y.natAbs:Nat):Int) else ((x.natAbs/y.natAbs:Nat):Int))=qsg x y from rfl]
  refine kW ?_
  (refine kS ?_;repeat intro γ)
  refine CallG.intro _ c272 (signed_ok' R (decide (x<0)) (by omega) dR) ?_
  rw[vR,show (if decide (x<0)=true then -((x.natAbs%y.natAbs:Nat):Int) else ((x.natAbs%y.natAbs:Nat):Int))=rsg x y from rfl]
  refine kW ?_
  (refine kS ?_;repeat intro γ)
  have lq:zl (qsg x y)<2^38+2:=by
   have:=dg_len hB9 dQ
   unfold zl;rw[show (qsg x y).natAbs=vl B9 Q by rw[vQ];unfold qsg;split<;>omega];omega
  have lr:zl (rsg x y)<2^38+2:=by
   have:=dg_len hB9 dR
   unfold zl;rw[show (rsg x y).natAbs=vl B9 R by rw[vR];unfold rsg;split<;>omega];omega
  have hqr:=qr_ok (x:=x) hy0
  generalize qsg x y=q at hqr lq ⊢
  generalize rsg x y=r at hqr lr ⊢
  rw[encZ_mk r]
  refine kW ?_
  (refine kS ?_;repeat intro γ)
  rw[← encZ_mk r]
  refine CondP.dec (fun h=>?_) (fun h=>?_)<;>refine kW ?_
  ·rw[← (hqr.2 h).1,← (hqr.2 h).2]
   refine kW ?_
   (refine kS ?_;repeat intro γ)
   refine CallG.intro _ c319 (Abs_ok y) ?_
   refine kW ?_
   (refine kS ?_;repeat intro γ)
   refine CallG.intro _ c176 (Add_ok r (y.natAbs:Int) (by omega) (by unfold zl;rw[Int.natAbs_natCast];omega)) ?_
   refine kW ?_
   (refine kS ?_;repeat intro γ)
   refine CallG.intro _ c266 (Sign_ok y) ?_
   refine kW ?_
   (refine kS ?_;repeat intro γ)
   by_cases hs:y<0
   ·rw[show sgn y=-1 by unfold sgn;rw[if_neg hy0,if_pos hs]]
    refine kW ?_
    (refine kS ?_;repeat intro γ)
    refine CallG.intro _ c233 Ofm1_ok ?_
    refine kW ?_
    (refine kS ?_;repeat intro γ)
    refine CallG.intro _ c320 (Sub_ok q (-1) (by omega) (by rw[show zl (-1)=1 by unfold zl;rw[show (-1:Int).natAbs=1 from rfl,dg_one hB9 (by omega) (by unfold B9;omega)];rfl];omega)) ?_
    refine kW ?_
    (refine kS ?_;repeat intro γ)
    exact .of rfl
   ·rw[show sgn y=1 by unfold sgn;rw[if_neg hy0,if_neg hs]]
    refine kW ?_
    (refine kS ?_;repeat intro γ)
    refine CallG.intro _ c233 Of1_ok ?_
    refine kW ?_
    (refine kS ?_;repeat intro γ)
    refine CallG.intro _ c320 (Sub_ok q 1 (by omega) (by rw[show zl 1=1 by unfold zl;rw[show (1:Int).natAbs=1 from rfl,dg_one hB9 (by omega) (by unfold B9;omega)];rfl];omega)) ?_
    refine kW ?_
    (refine kS ?_;repeat intro γ)
    exact .of rfl
  ·rw[← (hqr.1 h).1,← (hqr.1 h).2]
   (refine kS ?_;repeat intro γ)
   exact .of rfl
end Go.Proofs.YtlhdoekgipaihaaGreatDoor
namespace Go.Proofs.YtlhdoekgipaihaaGreatDoor
open Go Go.Fw
theorem zl_nat (n:Nat):zl (n:Int)=(dg B9 n).length:=by unfold zl;rw[Int.natAbs_natCast]
theorem Gcd_ok (x y:Int) (hx:zl x<2^36) (hy:zl y<2^36):PureCall Tryz.prog 236 [encZ x,encZ y] (encZ (x.natAbs.gcd y.natAbs:Nat)):=by
 refine PC [] Tryz.func236 rfl (by rfl) rfl ?_
 unfold zl at hx hy
 refine kW ?_
 (refine kS ?_;repeat intro γ)
 refine CallG.intro _ c319 (Abs_ok x) ?_
 refine kW ?_
 (refine kS ?_;repeat intro γ)
 refine CallG.intro _ c319 (Abs_ok y) ?_
 refine kW ?_
 (refine kS ?_;repeat intro γ)
 obtain ⟨d,hd⟩:∃ d,d=x.natAbs.gcd y.natAbs:=⟨_,rfl⟩
 rw[← hd]
 refine LoopP.intro (fun m σ H=>∃ g2 g3 g4 a b,m=b∧a.gcd b=d∧(dg B9 a).length<2^36∧(dg B9 b).length<2^36 ∧
  σ=fr [(2,.op 2 g2 0 0),(3,.op 3 g3 0 0),(4,.op 4 g4 0 0)] ∧
  H=hp [(2,g2,⟨122,2,[encZ (a:Nat)]⟩),(3,g3,⟨122,2,[encZ (b:Nat)]⟩),(4,g4,⟨122,2,[.agg [encB false,.val (.slice none 0 0)]]⟩)]) ?_ ?_
 ·exact .intro <| W.of ⟨_,_,_,_,x.natAbs,y.natAbs,rfl,hd.symm,hx,hy,rfl,rfl⟩ ⟨rfl,rfl,rfl,trivial⟩ ⟨rfl,rfl,rfl,trivial⟩
 ·rintro m σ H ⟨g2,g3,g4,a,b,rfl,hab,ha,hb,rfl,rfl⟩
  refine kW ?_
  (refine kS ?_;repeat intro γ)
  refine CallP.flat [] _ c321 (Zero_ok m) rfl ?_
  refine kW ?_
  (refine kS ?_;repeat intro γ)
  refine CondP.dec (fun h=>?_) (fun h=>?_)<;>refine kW ?_
  ·(refine kS ?_;repeat intro γ)
   have h0:m=0:=by omega
   rw[h0,Nat.gcd_zero_right] at hab
   rw[hab]
   (refine kS ?_;repeat intro γ)
   exact .of rfl
  ·have hm:0<m:=by omega
   (refine kS ?_;repeat intro γ)
   refine CallP.pure [] _ c276 (Div_ok a m (by rw[zl_nat];exact ha) (by rw[zl_nat];exact hb) (by omega)) ?_
   rw[show ((a:Int)/(m:Int))=((a/m:Nat):Int) from rfl,show ((a:Int)%(m:Int))=((a%m:Nat):Int) from rfl]
   have l1:=dg_mono hB9 (Nat.le_of_lt (Nat.mod_lt a hm))
   refine kW ?_
   (refine kS ?_;repeat intro γ)
   exact .intro <| W.of ⟨a%m,Nat.mod_lt _ hm,_,_,_,m,a%m,rfl,by rw[Nat.gcd_comm,← Nat.gcd_rec,Nat.gcd_comm,hab],hb,by omega,rfl,rfl⟩ ⟨rfl,rfl,rfl,trivial⟩ ⟨rfl,rfl,rfl,trivial⟩
end Go.Proofs.YtlhdoekgipaihaaGreatDoor
namespace Go.Proofs.YtlhdoekgipaihaaGreatDoor
open Go Go.Fw
theorem rune_ascii (l:List UInt8) (p:Nat) (hp:p<l.length) (h:(l[p]).toNat<128):runeAt (ofL l) p=((l[p]).toNat,1):=by
 unfold runeAt Utf8.decode
 have e:((ofL l).get! (p+0)).toNat=(l[p]).toNat:=by
  show (l.toArray[p+0]!).toNat=_
  rw[Nat.add_zero,getElem!_pos _ p (by simpa using hp)]
  simp
 simp only[e]
 rw[if_pos h]
theorem head_cut (l:List UInt8):hasP (ofL l) (b1 45)=match l with
 | 45::_=>true
 | _=>false:=by
 unfold hasP
 rw[show (b1 45).size=1 from rfl,ofL_size,ofL_extract]
 cases l with
 | nil=>rfl
 | cons c l=>
   have h1:decide (1≤(c::l).length)=true:=decide_eq_true (by simp)
   rw[h1,Bool.true_and]
   by_cases hc:c=45
   ·subst hc
    exact decide_eq_true rfl
   ·have:decide (ofL (List.drop 0 (List.take 1 (c::l)))=b1 45)=false:=decide_eq_false fun h=>hc (by
     have:=congrArg (fun s:ByteArray=>s.data.toList) h
     simpa [ofL,b1] using this)
    rw[this]
    split
    ·rename_i h;cases h;exact absurd rfl hc
    ·rfl
def isDs (l:List UInt8):Bool:=l.all fun c=>isD c.toNat
def okW (m:Bool) (t:List UInt8):Bool:=!t.isEmpty&&!(decide (t.headD 0=48)&&(decide (1<t.length)||m))&&isDs t
def decU (t:List UInt8):Nat:=decB (t.map UInt8.toNat)
def parseW (l:List UInt8):Option Int:=match l with
 | 45::t=>if okW true t then some (-(decU t:Int)) else none
 | t=>if okW false t then some (decU t:Int) else none
def resW:Option Int→AV
 | some z=>.tup [encZ z,encB true]
 | none=>.tup [.agg [encB false,.val (.slice none 0 0)],encB false]
theorem cut45 (l:List UInt8):∃ t m,cutP (ofL l) (b1 45)=(ofL t,m)∧parseW l=(if okW m t then some (if m then -(decU t:Int) else decU t) else none)∧t.length≤l.length:=by
 unfold cutP
 rw[head_cut]
 unfold parseW
 split
 ·rename_i t
  exact ⟨t,true,by rw[if_pos rfl,ofL_extract];rw[ofL_size,List.take_length];rfl,by simp,by simp⟩
 ·rename_i h
  refine ⟨l,false,by simp,?_,Nat.le_refl _⟩
  split<;>simp_all
theorem isDs_nil (l:List UInt8):decide (ofL (trimD l)=⟨#[]⟩)=isDs l:=by
 unfold isDs
 rw[Bool.eq_iff_iff,decide_eq_true_iff,List.all_eq_true,← trimD_nil]
 constructor
 ·intro h
  have:=congrArg (fun s:ByteArray=>s.data.toList) h
  simpa [ofL] using this
 ·intro h;rw[h];rfl
theorem ofL_nil (l:List UInt8):ofL l=⟨#[]⟩↔l=[]:=by
 constructor
 ·intro h
  have:=congrArg (fun s:ByteArray=>s.data.toList) h
  simpa [ofL] using this
 ·intro h;rw[h];rfl
theorem byte_ofL (l:List UInt8) (i:Nat) (h:i<l.length):byteAt (ofL l) i=((l[i]).toNat:Int):=by
 unfold byteAt
 rw[dif_pos (by rw[ofL_size];exact h)];rfl
def revD (t:List UInt8) (e:Nat):List Nat:=((t.take e).map UInt8.toNat).reverse.map (· - 48)
theorem revD_len (t:List UInt8) (e:Nat) (h:e≤t.length):(revD t e).length=e:=by simp[revD];omega
theorem revD_drop (t:List UInt8) (e k:Nat) (h:e≤t.length):(revD t e).drop k=revD t (e-k):=by
 unfold revD
 rw[← List.map_drop,← List.map_reverse,← List.map_drop,← List.map_reverse,List.drop_reverse]
 simp only[List.length_take,List.take_take]
 rw[show min (min e t.length-k) e=e-k by omega]
theorem revD_take (t:List UInt8) (e k:Nat) (h:e≤t.length):vl 10 ((revD t e).take k)=decU ((t.take e).drop (e-k)):=by
 unfold revD decU decB
 congr 1
 rw[← List.map_take,← List.map_reverse,← List.map_take,← List.map_reverse,List.take_reverse]
 congr 4
 simp only[List.length_take]
 omega
theorem decU_lt (t:List UInt8) (h:∀ i (hi:i<t.length),48≤(t[i]).toNat∧(t[i]).toNat≤57):decU t<10 ^ t.length:=by
 have:=@decB_lt (t.map UInt8.toNat) (by
  rw[List.all_eq_true]
  intro c hc
  obtain ⟨x,hx,rfl⟩:=List.mem_map.1 hc
  obtain ⟨i,hi,rfl⟩:=List.mem_iff_getElem.1 hx
  unfold isDg
  exact decide_eq_true (h i hi))
 simpa [decU] using this
theorem ParseW_ok (l:List UInt8) (hl:l.length<2^35):PureCall Tryz.prog 232 [encS (ofL l)] (resW (parseW l)):=by
 refine PC [] Tryz.func232 rfl (by rfl) rfl ?_
 obtain ⟨t,m,hc,hp,ht⟩:=cut45 l
 rw[hp]
 clear hp
 generalize hF:okW m t=F
 unfold okW at hF
 have hlt:t.length<2^35:=by omega
 refine kW ?_
 (refine kS ?_;repeat intro γ)
 refine CallP.pure [] _ c317 (CutPrefix_ok (ofL l) (b1 45) (by rw[ofL_size];omega) (by decide)) ?_
 rw[hc]
 clear hc ht
 have hsz:=ofL_size t
 refine kW ?_
 (refine kS ?_;repeat intro γ)
 refine CondP.dec (fun h0=>?_) (fun h0=>?_)<;>refine kW ?_
 ·rw[(ofL_nil t).1 h0] at hF
  simp at hF
  subst hF
  (refine kS ?_;repeat intro γ)
  exact .of rfl
 ·have hne:t≠[]:=fun e=>h0 (by rw[e];rfl)
  have hpos:0<t.length:=List.length_pos_iff.2 hne
  have hb:byteAt (ofL t) (Int.toNat 0)=((t.headD 0).toNat:Int):=by
   rw[byte_ofL t (Int.toNat 0) hpos]
   cases t with
   | nil=>exact absurd rfl hne
   | cons c r=>rfl
  have hemp:t.isEmpty=false:=by cases t with
   | nil=>exact absurd rfl hne
   | cons c r=>rfl
  rw[hemp,Bool.not_false,Bool.true_and] at hF
  generalize t.headD 0=c at hb hF
  have hc48:((c.toNat:Int)=48)→(c=48):=fun h=>UInt8.toNat.inj (by
   have:c.toNat=48:=by omega
   rw[this];rfl)
  have hc48':c=48→((c.toNat:Int)=48):=by rintro rfl;rfl
  have hT:=Trim_ok t (by omega)
  have hD:=isDs_nil t
  have bad:(decide (c=48)&&(decide (1<t.length)||m))=true→F=false:=fun h=>by rw[← hF,h];rfl
  have good:(decide (c=48)&&(decide (1<t.length)||m))=false→F=isDs t:=fun h=>by rw[← hF,h];rfl
  clear hF hemp
  (refine kS ?_;repeat intro γ)
  rw[hb]
  refine CondP.dec (fun h=>?_) (fun h=>?_)<;>refine kW ?_
  case' refine_1=>
   have h1:=hc48 h
   (refine kS ?_;repeat intro γ)
   simp only[ofL_size]
   refine CondP.dec (fun h2=>?_) (fun h2=>?_)<;>refine kW ?_
   case' refine_1=>
    rw[bad (by rw[decide_eq_true h1,decide_eq_true (show 1<t.length by omega)];rfl)]
    (refine kS ?_;repeat intro γ)
    exact .of rfl
   (refine kS ?_;repeat intro γ)
   refine CondP.intro (fun h3=>?_) (fun h3=>?_)<;>refine kW ?_
   case' refine_1=>
    rw[bad (by rw[decide_eq_true h1,h3];simp)]
    (refine kS ?_;repeat intro γ)
    exact .of rfl
   have hg:=good (by rw[h3,decide_eq_false (show ¬ 1<t.length by omega)];simp)
  case' refine_2=>
   have hg:=good (by rw[decide_eq_false (fun h'=>h (hc48' h'))];simp)
  all_goals
   (refine kS ?_;repeat intro γ)
   refine CallP.flat [] _ c318 hT rfl ?_
   refine kW ?_
   (refine kS ?_;repeat intro γ)
   refine CondP.dec (fun h4=>?_) (fun h4=>?_)<;>refine kW ?_
   case' refine_2=>
    rw[hg,← hD,decide_eq_false h4]
    (refine kS ?_;repeat intro γ)
    exact .of rfl
   rw[hg,← hD,decide_eq_true h4]
   rw[decide_eq_true h4] at hD
   obtain ⟨C,hC⟩:∃ C,C=chunks 9 t.length (revD t t.length):=⟨_,rfl⟩
   refine LoopP.intro (fun k σ H=>∃ g2 g6 z f,∃ out:List Nat,k=z.toNat∧z.toNat≤t.length∧-9<z∧z.toNat≤f∧out.length+z.toNat≤t.length∧out++chunks 9 f (revD t z.toNat)=C ∧
    σ=fr [(2,.op 2 g2 0 0),(3,encB false),(4,encS (ofL t)),(5,encB m),(6,.own 100 g6 0 out.length),(7,encI z)] ∧
    H=hp [(2,g2,⟨122,2,[.agg [encB false,.val (.slice none 0 0)]]⟩),(100,g6,⟨329,1,out.map encw⟩)]) ?_ ?_
   ·refine .intro (W.mat 6 100 329 1 rfl rfl fun g=>W.of ⟨_,_,g,(t.length:Int),t.length,[],rfl,by omega,by omega,by omega,by simp,by rw[hC];rfl,rfl,rfl⟩ ⟨rfl,rfl,rfl,rfl,rfl,rfl,trivial⟩ ⟨rfl,rfl,trivial⟩)
   ·rintro k σ H ⟨g2,g6,z,f,out,rfl,hz1,hz2,hzf,hol,hout,rfl,rfl⟩
    refine kW ?_
    (refine kS ?_;repeat intro γ)
    refine CondP.dec (fun h=>?_) (fun h=>?_)<;>refine kW ?_
    ·(refine kS ?_;repeat intro γ)
     obtain ⟨f,rfl⟩:∃ f',f=f'+1:=⟨f-1,by omega⟩
     have hR:revD t z.toNat≠[]:=fun e=>by have:=revD_len t z.toNat hz1;rw[e] at this;simp at this;omega
     unfold chunks at hout
     rw[if_neg hR,revD_take t _ 9 hz1,revD_drop t _ 9 hz1] at hout
     have hmax:(max (z-9) 0).toNat=z.toNat-9:=by omega
     simp only[hmax,ofL_extract]
     generalize hx:(t.take z.toNat).drop (z.toNat-9)=x at hout ⊢
     have lx:x.length≤9:=by rw[← hx];simp;omega
     have hxd:∀ i (hi:i<x.length),48≤(x[i]).toNat∧(x[i]).toNat≤57:=by
      intro i hi
      have hm':∀ y,y∈x→y∈t:=by
       rw[← hx]
       exact fun y hy=>List.mem_of_mem_take (List.mem_of_mem_drop hy)
      have hm:=hm' _ (List.getElem_mem hi)
      have:=List.all_eq_true.1 hD.symm _ hm
      unfold isD at this
      simp at this
      omega
     refine LoopP.intro (fun k σ H=>∃ g p w,k=x.length-p∧p≤x.length∧w=decU (x.take p) ∧
      σ=fr [(2,.op 2 g2 0 0),(3,encB false),(4,encS (ofL t)),(5,encB m),(6,.own 100 g6 0 out.length),(7,encI z),(8,encw w),(49,.it 49 g)] ∧
      H=hp [(2,g2,⟨122,2,[.agg [encB false,.val (.slice none 0 0)]]⟩),(100,g6,⟨329,1,out.map encw⟩),(49,g,⟨0,0,[encS (ofL x),encI p]⟩)]) ?_ ?_
     ·exact .intro <| W.of ⟨_,_,0,_,rfl,Nat.zero_le _,rfl,rfl,rfl⟩ ⟨rfl,rfl,rfl,rfl,rfl,rfl,rfl,rfl,trivial⟩ ⟨rfl,rfl,rfl,trivial⟩
     ·rintro k σ H ⟨g,p,w,rfl,hp,hw,rfl,rfl⟩
      have hwl:=decU_lt (x.take p) (fun i hi=>by rw[List.getElem_take];exact hxd i (by simp at hi;omega))
      rw[← hw,List.length_take] at hwl
      have hw9:w<10 ^ 9:=Nat.lt_of_lt_of_le hwl (Nat.pow_le_pow_right (by omega) (by omega))
      refine kW ?_
      (refine kS ?_;repeat intro γ)
      rw[ofL_size]
      refine CondP.dec (fun h=>?_) (fun h=>?_)<;>refine kW ?_
      ·have hp':p<x.length:=by omega
       have hc:=hxd p hp'
       have hr:runeAt (ofL x) (Int.toNat p)=((x[p]).toNat,1):=rune_ascii x p hp' (by omega)
       have hs:decU (x.take (p+1))=10*w+((x[p]).toNat-48):=by
        rw[hw,List.take_succ_eq_append_getElem hp']
        unfold decU
        rw[List.map_append]
        exact decB_snoc _ _
       have hw8:w<10 ^ 8:=by
        refine Nat.lt_of_lt_of_le hwl (Nat.pow_le_pow_right (by omega) (by omega))
       rw[hr]
       generalize hd:(x[p]).toNat=d at hc hs ⊢
       (refine kS ?_;repeat intro γ)
       refine .intro <| W.of ⟨x.length-(p+1),by omega,g,p+1,_,rfl,hp',hs.symm,rfl,rfl⟩ ⟨rfl,rfl,rfl,rfl,rfl,rfl,?_,rfl,trivial⟩ ⟨rfl,rfl,?_,trivial⟩
       ·show AV.val (.int .u32 _)=AV.val (.int .u32 _)
        congr 2;omega
       ·rfl
      ·have hpe:p=x.length:=by omega
       rw[hpe,List.take_length] at hw
       (refine kS ?_;repeat intro γ)
       refine .intro <| W.of ⟨(z-9).toNat,by omega,g2,γ,z-9,f,out++[w],rfl,by omega,by omega,by omega,by simp;omega,?_,rfl,rfl⟩ ⟨rfl,rfl,rfl,rfl,?_,rfl,trivial⟩ ⟨rfl,?_,trivial⟩
       ·rw[hw,← hout,show (z-9).toNat=z.toNat-9 by omega];simp
       ·exact congrArg (AV.own 100 _ 0) (by simp)
       ·show some (_,(⟨_,_,_++_⟩:Blk))=_
        simp;rfl
    ·have hz0:z.toNat=0:=by omega
     have hCo:out=C:=by
      rw[← hout,hz0]
      have:chunks 9 f (revD t 0)=[]:=by cases f<;>rfl
      rw[this];simp
     have hdt:(t.map UInt8.toNat).all isDg=true:=by
      rw[List.all_map,List.all_eq_true]
      intro x hx
      have:=List.all_eq_true.1 hD.symm x hx
      unfold isD at this
      simp at this
      unfold isDg
      exact decide_eq_true (by simpa using this)
     have hrt:revD t t.length=(t.map UInt8.toNat).reverse.map (· - 48):=by unfold revD;rw[List.take_length]
     have hv:vl B9 out=decU t:=by
      rw[hCo,hC,show (B9:Nat)=10 ^ 9 from rfl,chunks_vl (by omega) _ _ (by rw[revD_len _ _ (Nat.le_refl _)];exact Nat.le_refl _),hrt];rfl
     have hd:Dig B9 out:=by
      rw[hCo,hC,hrt]
      exact chunks_dig _ _ (dig_of hdt)
     (refine kS ?_;repeat intro γ)
     refine CallP.pure [100] _ c272 (pure_args ?_ (signed_ok' out m (by omega) hd)) ?_
     ·exact congrArg (fun z=>[z,encB m]) (ownW rfl rfl)
     rw[hv]
     refine kW ?_
     (refine kS ?_;repeat intro γ)
     exact .of rfl
end Go.Proofs.YtlhdoekgipaihaaGreatDoor
namespace Go.Proofs.YtlhdoekgipaihaaGreatDoor
open Go Go.Fw
theorem take_drop_snoc {α:Type} (l:List α) (e i:Nat) (he:e≤i) (hi:i<l.length):(l.take (i+1)).drop e=(l.take i).drop e++[l[i]]:=by
 rw[List.take_succ_eq_append_getElem hi,List.drop_append_of_le_length (by simp;omega)]
theorem readNat_ok (t:List UInt8) (hD:isDs t=true) (hlt:t.length<2^35):PureCall Tryz.prog 304 [encS (ofL t)] (encN (decU t)):=by
 refine PC [] Tryz.func304 rfl (by rfl) rfl ?_
 have hsz:=ofL_size t
 have hdd:∀ i (hi:i<t.length),48≤(t[i]).toNat∧(t[i]).toNat≤57:=by
  intro i hi
  have:=List.all_eq_true.1 hD _ (List.getElem_mem hi)
  unfold isD at this
  simp at this
  omega
 obtain ⟨C,hC⟩:∃ C,C=chunks 4 t.length (revD t t.length):=⟨_,rfl⟩
 refine kW ?_
 (refine kQ ?_;repeat intro γ)
 refine LoopP.intro (fun k σ H=>∃ g z f,∃ out:List Nat,k=z.toNat∧z.toNat≤t.length∧-4<z∧z.toNat≤f∧out.length+z.toNat≤t.length∧out++chunks 4 f (revD t z.toNat)=C ∧
  σ=fr [(0,encS (ofL t)),(3,.own 100 g 0 out.length),(4,encI z)]∧H=hp [(100,g,⟨3,1,out.map encD⟩)]) ?_ ?_
 ·refine .intro (W.mat 3 100 3 1 rfl rfl fun g=>W.of ⟨_,g,(t.length:Int),t.length,[],rfl,by omega,by omega,by omega,by simp,by rw[hC];rfl,rfl,rfl⟩ ⟨rfl,rfl,rfl,trivial⟩ ⟨rfl,trivial⟩)
 ·rintro k σ H ⟨g,z,f,out,rfl,hz1,hz2,hzf,hol,hout,rfl,rfl⟩
  refine kW ?_
  (refine kQ ?_;repeat intro γ)
  refine CondP.dec (fun h=>?_) (fun h=>?_)<;>refine kW ?_
  ·obtain ⟨f,rfl⟩:∃ f',f=f'+1:=⟨f-1,by omega⟩
   have hR:revD t z.toNat≠[]:=fun e=>by have:=revD_len t z.toNat hz1;rw[e] at this;simp at this;omega
   unfold chunks at hout
   rw[if_neg hR,revD_take t _ 4 hz1,revD_drop t _ 4 hz1] at hout
   have hmax:max 0 (z-4)=((z.toNat-4:Nat):Int):=by omega
   (refine kQ ?_;repeat intro γ)
   simp only[hmax]
   refine LoopP.intro (fun k σ H=>∃ g i w,k=z.toNat-i∧z.toNat-4≤i∧i≤z.toNat∧w=decU ((t.take i).drop (z.toNat-4)) ∧
    σ=fr [(0,encS (ofL t)),(3,.own 100 g 0 out.length),(4,encI z),(5,encI w),(6,encI i)]∧H=hp [(100,g,⟨3,1,out.map encD⟩)]) ?_ ?_
   ·refine .intro <| W.of ⟨_,g,z.toNat-4,0,rfl,Nat.le_refl _,by omega,?_,rfl,rfl⟩ ⟨rfl,rfl,rfl,rfl,rfl,trivial⟩ ⟨rfl,trivial⟩
    rw[List.drop_of_length_le (by simp;omega)];rfl
   ·clear g
    rintro k σ H ⟨g,i,w,rfl,hi1,hi2,hw,rfl,rfl⟩
    have hwl:=decU_lt ((t.take i).drop (z.toNat-4)) (fun j hj=>by
     rw[List.getElem_drop,List.getElem_take]
     exact hdd _ (by simp at hj;omega))
    rw[← hw,List.length_drop,List.length_take] at hwl
    have hw4:w<10 ^ 4:=Nat.lt_of_lt_of_le hwl (Nat.pow_le_pow_right (by omega) (by omega))
    have hml:(out.map encD).length=out.length:=List.length_map _
    refine kW ?_
    (refine kQ ?_;repeat intro γ)
    refine CondP.dec (fun h=>?_) (fun h=>?_)<;>refine kW ?_
    ·have hi':i<z.toNat:=by omega
     have hit:i<t.length:=by omega
     have hc:=hdd i hit
     have hs:decU ((t.take (i+1)).drop (z.toNat-4))=10*w+((t[i]).toNat-48):=by
      rw[hw,take_drop_snoc t _ i hi1 hit]
      unfold decU
      rw[List.map_append]
      exact decB_snoc _ _
     have hb:=byte_ofL t i hit
     generalize (t[i]).toNat=d at hc hs hb
     (refine kQ ?_;repeat intro γ)
     simp only[Int.toNat_natCast,hb]
     (refine kQ ?_;repeat intro γ)
     refine .intro <| W.of ⟨_,by omega,g,i+1,_,rfl,by omega,by omega,hs.symm,rfl,rfl⟩ ⟨rfl,rfl,rfl,?_,rfl,trivial⟩ ⟨rfl,trivial⟩
     show AV.val (.int .i64 _)=AV.val (.int .i64 _)
     congr 2;omega
    ·obtain rfl:i=z.toNat:=by omega
     (refine kQ ?_;repeat intro γ)
     refine .intro <| W.of ⟨(z-4).toNat,by omega,γ,z-4,f,out++[w],rfl,by omega,by omega,by omega,by simp;omega,?_,rfl,rfl⟩ ⟨rfl,?_,rfl,trivial⟩ ⟨?_,trivial⟩
     ·rw[hw,← hout,show (z-4).toNat=z.toNat-4 by omega];simp
     ·exact congrArg (AV.own 100 _ 0) (by simp)
     ·show some (_,(⟨_,_,_++_⟩:Blk))=_
      simp;rfl
  ·have hz0:z.toNat=0:=by omega
   have hCo:out=C:=by
    rw[← hout,hz0]
    have:chunks 4 f (revD t 0)=[]:=by cases f<;>rfl
    rw[this];simp
   have hdt:(t.map UInt8.toNat).all isDg=true:=by
    rw[List.all_map,List.all_eq_true]
    intro x hx
    have:=List.all_eq_true.1 hD x hx
    unfold isD at this
    simp at this
    unfold isDg
    exact decide_eq_true (by simpa using this)
   have hrt:revD t t.length=(t.map UInt8.toNat).reverse.map (· - 48):=by unfold revD;rw[List.take_length]
   have hv:vl B4 out=decU t:=by
    rw[hCo,hC,show (B4:Nat)=10 ^ 4 from rfl,chunks_vl (by omega) _ _ (by rw[revD_len _ _ (Nat.le_refl _)];exact Nat.le_refl _),hrt];rfl
   have hd:Dig B4 out:=by
    rw[hCo,hC,hrt]
    exact chunks_dig _ _ (dig_of hdt)
   (refine kQ ?_;repeat intro γ)
   refine CallP.pure [100] _ c331 (pure_args ?_ (trimN_ok out (by omega))) ?_
   ·exact congrArg (fun z=>[z]) (ownD rfl rfl)
   rw[trim4 hd,hv]
   refine kW ?_
   (refine kQ ?_;repeat intro γ)
   exact .of rfl
end Go.Proofs.YtlhdoekgipaihaaGreatDoor
namespace Go.Proofs.YtlhdoekgipaihaaGreatDoor
open Go Go.Fw
def lttI (n:Int):Bool:=decide (97≤n∧n≤122∨65≤n∧n≤90)
def digI (n:Int):Bool:=decide (48≤n∧n≤57)
theorem letter75_ok (n:Int):PureCall Tryz.prog 240 [.val (.int .u8 n)] (encB (lttI n)):=by
 refine PC [] Tryz.func240 rfl (by rfl) rfl ?_
 refine kW ?_
 (repeat (any_goals (first | ((first | refine N0 ?_ | refine A0 fun γ=>?_ | refine C1 ?_ | refine C2 ?_ | refine C3 ?_ | refine C4 ?_ | refine C5 ?_ | refine C6 ?_ | refine C7 ?_ | refine D0 fun γs=>?_ | refine A1 fun γs=>?_ | refine N2 ?_ | refine N3 ?_ | refine N1 ?_);refine kW ?_) | (refine CondP.dec (fun _=>?_) (fun _=>?_)<;>refine kW ?_) | (refine CondP.intro (fun _=>?_) (fun _=>?_)<;>refine kW ?_))))
 all_goals (refine .of ?_;show AV.val (Value.bool _)=AV.val (Value.bool _);congr 2;unfold lttI;first | exact (decide_eq_true (by omega)).symm | exact (decide_eq_false (by omega)).symm | exact decide_eq_decide.2 (by omega))
theorem valid90_ok (n:Nat) (h:n<256):PureCall Tryz.prog 355 [.val (.int .i32 n)] (encB true):=by
 refine PC [] Tryz.func355 rfl (by rfl) rfl ?_
 refine kW ?_
 (refine kO ?_;repeat intro γ)
 exact .of rfl
def six:ByteArray:=⟨#[95,46,91,93,44,39]⟩
theorem runeS2 (n:Nat) (h1:¬ n<128) (h2:n<256):∃ b0 b1:UInt8,runeS n=⟨#[b0,b1]⟩∧128≤b1.toNat:=by
 refine ⟨UInt8.ofNat (192+n/64),UInt8.ofNat (128+n%64),?_,by simp;omega⟩
 unfold runeS Utf8.encode
 have hv:Utf8.valid (n:Int)=true:=by unfold Utf8.valid;simp;omega
 simp only[hv,if_true,Int.toNat_natCast]
 rw[if_neg (by omega),if_pos (by omega)]
theorem idx_none (b:UInt8) (h:128≤b.toNat):idxB (six.extract 2 6) b=-1:=by
 unfold idxB
 have:(List.range (six.extract 2 6).size).find? (fun i=>(six.extract 2 6)[i]! == b)=none:=by
  rw[List.find?_eq_none]
  intro i hi
  have hs:(six.extract 2 6).size=4:=by rfl
  rw[hs,List.mem_range] at hi
  have hb:∀ c:UInt8,c.toNat<128→¬ (c==b)=true:=fun c hc h'=>by
   have:=eq_of_beq h'
   subst this;omega
  rcases i with _ | _ | _ | _ | i
  ·exact hb _ (by decide)
  ·exact hb _ (by decide)
  ·exact hb _ (by decide)
  ·exact hb _ (by decide)
  ·omega
 rw[this]
theorem rune83_ok (n:Nat) (h:n<256):PureCall Tryz.prog 322 [encS six,.val (.int .i32 n)] (encI (if n<128 then idxB six (UInt8.ofNat n) else -1)):=by
 refine PC [] Tryz.func322 rfl (by rfl) rfl ?_
 refine kW ?_
 by_cases h1:n<128
 ·rw[if_pos h1]
  (refine kO ?_;repeat intro γ)
  refine CallP.flat [] _ c354 (IndexByte_ok six n h) rfl ?_
  refine kW ?_
  (refine kO ?_;repeat intro γ)
  exact .of rfl
 ·rw[if_neg h1]
  (refine kO ?_;repeat intro γ)
  refine CallP.flat [] _ c355 (valid90_ok n h) rfl ?_
  refine kW ?_
  (refine kO ?_;repeat intro γ)
  obtain ⟨b0,b1,e,hb⟩:=runeS2 n h1 h
  have hsz:(⟨#[b0,b1]⟩:ByteArray).size=2:=rfl
  have h6:six.size=6:=rfl
  simp only[e,hsz,show ((2:Nat):Int)-1=1 from rfl]
  refine kW ?_
  (refine kO ?_;repeat intro γ)
  refine LoopP.intro (fun k σ H=>k=0∧σ=fr [(0,encS six),(1,.val (.int .i32 n)),(7,encS ⟨#[b0,b1]⟩),(8,encI 1),(9,encI 1),(10,encI 0)]∧H=hp []) ?_ ?_
  ·exact .intro <| W.of ⟨0,rfl,rfl,rfl⟩ ⟨rfl,rfl,rfl,rfl,rfl,rfl,trivial⟩ trivial
  ·rintro k σ H ⟨rfl,rfl,rfl⟩
   refine kW ?_
   (refine kO ?_;repeat intro γ)
   refine D0 fun γs=>?_
   refine kW ?_
   (refine kO ?_;repeat intro γ)
   have hb1:byteAt ⟨#[b0,b1]⟩ (Int.toNat 1)=(b1.toNat:Int):=rfl
   have hs1:byteAt six (Int.toNat 1)=46:=rfl
   refine CondP.neg (by rw[hb1,hs1];omega) ?_
   refine kW ?_
   (refine kO ?_;repeat intro γ)
   refine D0 fun γs=>?_
   refine kW ?_
   (refine kO ?_;repeat intro γ)
   refine CallG.intro (encI (-1)) c354 ?_ ?_
   ·have:=IndexByte_ok (six.extract 2 6) b1.toNat b1.toNat_lt
    rw[UInt8.ofNat_toNat,idx_none b1 hb] at this
    exact this
   refine kW ?_
   (refine kO ?_;repeat intro γ)
   exact .of rfl
theorem rune76_ok (n:Nat) (h:n<256):PureCall Tryz.prog 241 [encS six,.val (.int .i32 n)] (encB (decide (n<128∧0≤idxB six (UInt8.ofNat n)))):=by
 refine PC [] Tryz.func241 rfl (by rfl) rfl ?_
 refine kW ?_
 (refine kS ?_;repeat intro γ)
 refine CallP.flat [] _ c322 (rune83_ok n h) rfl ?_
 refine kW ?_
 (refine kS ?_;repeat intro γ)
 refine .of ?_
 show AV.val (Value.bool (decide (0≤if n<128 then idxB six (UInt8.ofNat n) else -1)))=AV.val (Value.bool _)
 congr 2
 exact decide_eq_decide.2 (by by_cases h1:n<128<;>simp[h1])
def sigI (n:Int):Bool:=decide (n=95∨n=46∨n=91∨n=93∨n=44∨n=39)
def okI (n:Int):Bool:=lttI n||digI n||sigI n
def allOk (s:ByteArray):Nat→Nat→Bool
 | _,0=>true
 | i,k+1=>okI (byteAt s i)&&allOk s (i+1) k
def nameF (s:ByteArray):Bool:=decide (1≤s.size∧s.size≤80)&&lttI (byteAt s 0)&&allOk s 0 s.size
theorem byteAt_lt (s:ByteArray) (i:Nat):0≤byteAt s i∧byteAt s i<256:=by
 unfold byteAt
 split
 ·have:=(s[i]).toNat_lt;omega
 ·omega
theorem six_ok (n:Nat) (h:n<256):decide (n<128∧0≤idxB six (UInt8.ofNat n))=sigI n:=by
 have key:((List.range 256).all fun n=>decide (n<128∧0≤idxB six (UInt8.ofNat n))==sigI n)=true:=by kernel_rfl
 exact eq_of_beq (List.all_eq_true.1 key n (List.mem_range.2 h))
theorem name61_ok (s:ByteArray) (hs:s.size≤2^62):PureCall Tryz.prog 120 [encS s] (encB (nameF s)):=by
 refine PC [] Tryz.func120 rfl (by rfl) rfl ?_
 generalize hF:nameF s=F
 unfold nameF at hF
 refine kW ?_
 (refine kO ?_;repeat intro γ)
 refine CondP.dec (fun h0=>?_) (fun h0=>?_)<;>refine kW ?_
 ·(refine kO ?_;repeat intro γ)
  refine .of ?_
  rw[← hF,h0];rfl
 ·have hpos : 1 ≤ s.size:=by
   rcases Nat.eq_zero_or_pos s.size with h | h
   ·exact absurd (ByteArray.ext (Array.eq_empty_of_size_eq_zero h)) h0
   ·exact h
  (refine kO ?_;repeat intro γ)
  refine CondP.dec (fun h1=>?_) (fun h1=>?_)<;>refine kW ?_
  ·(refine kO ?_;repeat intro γ)
   refine .of ?_
   rw[← hF,decide_eq_false (by omega)];rfl
  ·rw[decide_eq_true (by omega),Bool.true_and] at hF
   (refine kO ?_;repeat intro γ)
   refine CallP.flat [] (encB (lttI (byteAt s 0))) c240 (letter75_ok (byteAt s 0)) rfl ?_
   refine kW ?_
   (refine kO ?_;repeat intro γ)
   refine CondP.intro (fun h2=>?_) (fun h2=>?_)<;>refine kW ?_
   ·rw[h2, Bool.true_and] at hF
    (refine kO ?_;repeat intro γ)
    refine LoopP.intro (fun k σ H=>∃ i,i≤s.size∧k=s.size-i∧allOk s i (s.size-i)=F∧σ=fr [(0,encS s),(3,.fn (.func 240) [] []),(21,encI s.size),(22,encI i)]∧H=hp []) ?_ ?_
    ·exact .intro <| W.of ⟨_,0,Nat.zero_le _,rfl,hF,rfl,rfl⟩ ⟨rfl,rfl,rfl,rfl,trivial⟩ trivial
    ·rintro k σ H ⟨i,hi,rfl,hO,rfl,rfl⟩
     refine kW ?_
     (refine kO ?_;repeat intro γ)
     refine CondP.dec (fun h3=>?_) (fun h3=>?_)<;>refine kW ?_
     ·have hi':i<s.size:=by omega
      have hc:=byteAt_lt s i
      rw[show s.size-i=(s.size-(i+1))+1 by omega] at hO
      unfold allOk okI at hO
      (refine kO ?_;repeat intro γ)
      simp only[Int.toNat_natCast]
      generalize byteAt s i=c at hc hO ⊢
      obtain ⟨m,rfl⟩:∃ m:Nat,c=m:=⟨c.toNat,by omega⟩
      refine CallP.flat [] (encB (lttI m)) c240 (letter75_ok m) rfl ?_
      refine kW ?_
      (refine kO ?_;repeat intro γ)
      refine CondP.intro (fun h4=>?_) (fun h4=>?_)<;>refine kW ?_
      ·rw[h4,Bool.true_or,Bool.true_or,Bool.true_and] at hO
       (refine kO ?_;repeat intro γ)
       exact .intro <| W.of ⟨_,by omega,i+1,hi',rfl,hO,rfl,rfl⟩ ⟨rfl,rfl,rfl,rfl,trivial⟩ trivial
      ·rw[h4,Bool.false_or] at hO
       (refine kO ?_;repeat intro γ)
       refine CondP.dec (fun h5=>?_) (fun h5=>?_)<;>refine kW ?_
       ·have hd:digI m=false:=by unfold digI;exact decide_eq_false (by omega)
        rw[hd,Bool.false_or] at hO
        (refine kO ?_;repeat intro γ)
        refine CallP.flat [] _ c241 (rune76_ok m (by omega)) rfl ?_
        rw[six_ok m (by omega)]
        refine kW ?_
        (refine kO ?_;repeat intro γ)
        refine CondP.intro (fun h6=>?_) (fun h6=>?_)<;>refine kW ?_
        ·rw[h6,Bool.true_and] at hO
         (refine kO ?_;repeat intro γ)
         exact .intro <| W.of ⟨_,by omega,i+1,hi',rfl,hO,rfl,rfl⟩ ⟨rfl,rfl,rfl,rfl,trivial⟩ trivial
        ·rw[h6,Bool.false_and] at hO
         (refine kO ?_;repeat intro γ)
         exact .of (by rw[← hO];rfl)
       ·(refine kO ?_;repeat intro γ)
        refine CondP.dec (fun h7=>?_) (fun h7=>?_)<;>refine kW ?_
        ·have hd:digI m=false:=by unfold digI;exact decide_eq_false (by omega)
         rw[hd,Bool.false_or] at hO
         (refine kO ?_;repeat intro γ)
         refine CallP.flat [] _ c241 (rune76_ok m (by omega)) rfl ?_
         rw[six_ok m (by omega)]
         refine kW ?_
         (refine kO ?_;repeat intro γ)
         refine CondP.intro (fun h6=>?_) (fun h6=>?_)<;>refine kW ?_
         ·rw[h6,Bool.true_and] at hO
          (refine kO ?_;repeat intro γ)
          exact .intro <| W.of ⟨_,by omega,i+1,hi',rfl,hO,rfl,rfl⟩ ⟨rfl,rfl,rfl,rfl,trivial⟩ trivial
         ·rw[h6,Bool.false_and] at hO
          (refine kO ?_;repeat intro γ)
          exact .of (by rw[← hO];rfl)
        ·have hd:digI m=true:=by unfold digI;exact decide_eq_true (by omega)
         rw[hd,Bool.true_or,Bool.true_and] at hO
         (refine kO ?_;repeat intro γ)
         exact .intro <| W.of ⟨_,by omega,i+1,hi',rfl,hO,rfl,rfl⟩ ⟨rfl,rfl,rfl,rfl,trivial⟩ trivial
     ·(refine kO ?_;repeat intro γ)
      rw[show s.size-i=0 by omega] at hO
      exact .of (by rw[← hO];rfl)
   ·rw[h2,Bool.false_and] at hF
    (refine kO ?_;repeat intro γ)
    refine .of ?_
    rw[← hF];rfl
end Go.Proofs.YtlhdoekgipaihaaGreatDoor
namespace Go.Proofs.YtlhdoekgipaihaaGreatDoor
open Go Go.Fw
theorem letterR_ok (n:Int):PureCall Tryz.prog 242 [.val (.int .u8 n)] (encB (lttI n)):=by
 refine PC [] Tryz.func242 rfl (by rfl) rfl ?_
 refine kW ?_
 (repeat (any_goals (first | ((first | refine N0 ?_ | refine A0 fun γ=>?_ | refine C1 ?_ | refine C2 ?_ | refine C3 ?_ | refine C4 ?_ | refine C5 ?_ | refine C6 ?_ | refine C7 ?_ | refine D0 fun γs=>?_ | refine A1 fun γs=>?_ | refine N2 ?_ | refine N3 ?_ | refine N1 ?_);refine kW ?_) | (refine CondP.dec (fun _=>?_) (fun _=>?_)<;>refine kW ?_) | (refine CondP.intro (fun _=>?_) (fun _=>?_)<;>refine kW ?_))))
 all_goals (refine .of ?_;show AV.val (Value.bool _)=AV.val (Value.bool _);congr 2;unfold lttI;first | exact (decide_eq_true (by omega)).symm | exact (decide_eq_false (by omega)).symm | exact decide_eq_decide.2 (by omega))
theorem digitR_ok (n:Int):PureCall Tryz.prog 243 [.val (.int .u8 n)] (encB (digI n)):=by
 refine PC [] Tryz.func243 rfl (by rfl) rfl ?_
 refine kW ?_
 (repeat (any_goals (first | ((first | refine N0 ?_ | refine A0 fun γ=>?_ | refine C1 ?_ | refine C2 ?_ | refine C3 ?_ | refine C4 ?_ | refine C5 ?_ | refine C6 ?_ | refine C7 ?_ | refine D0 fun γs=>?_ | refine A1 fun γs=>?_ | refine N2 ?_ | refine N3 ?_ | refine N1 ?_);refine kW ?_) | (refine CondP.dec (fun _=>?_) (fun _=>?_)<;>refine kW ?_) | (refine CondP.intro (fun _=>?_) (fun _=>?_)<;>refine kW ?_))))
 all_goals (refine .of ?_;show AV.val (Value.bool _)=AV.val (Value.bool _);congr 2;unfold digI;first | exact (decide_eq_true (by omega)).symm | exact (decide_eq_false (by omega)).symm | exact decide_eq_decide.2 (by omega))
set_option maxHeartbeats 1000000 in
theorem IsName_ok (s:ByteArray) (hs:s.size≤2^62):PureCall Tryz.prog 124 [encS s] (encB (nameF s)):=by
 refine PC [] Tryz.func124 rfl (by rfl) rfl ?_
 generalize hF:nameF s=F
 unfold nameF at hF
 by_cases h1:s.size<1
 ·rw[decide_eq_false (by omega)] at hF
  refine kW ?_
  (refine kO ?_;repeat intro γ)
  exact .of (by rw[← hF];rfl)
 by_cases h2:80<s.size
 ·rw[decide_eq_false (by omega)] at hF
  refine kW ?_
  (refine kO ?_;repeat intro γ)
  exact .of (by rw[← hF];rfl)
 rw[decide_eq_true (by omega),Bool.true_and] at hF
 have hlt:=letterR_ok (byteAt s 0)
 cases hb:lttI (byteAt s 0) with
 | false=>
   rw[hb] at hF hlt
   refine kW ?_
   (refine kO ?_;repeat intro γ)
   refine CallP.flat [] _ c242 hlt rfl ?_
   refine kW ?_
   (refine kO ?_;repeat intro γ)
   exact .of (by rw[← hF];rfl)
 | true=>
   rw[hb,Bool.true_and] at hF
   rw[hb] at hlt
   refine kW ?_
   (refine kO ?_;repeat intro γ)
   refine CallP.flat [] _ c242 hlt rfl ?_
   refine kW ?_
   (refine kO ?_;repeat intro γ)
   refine LoopP.intro (fun k σ H=>∃ i,i≤s.size∧k=s.size-i∧allOk s i (s.size-i)=F∧σ=fr [(0,encS s),(3,encI i)]∧H=hp []) ?_ ?_
   ·exact .intro <| W.of ⟨_,0,Nat.zero_le _,rfl,hF,rfl,rfl⟩ ⟨rfl,rfl,trivial⟩ trivial
   ·clear hF hlt hb
    rintro k σ H ⟨i,hi,rfl,hF,rfl,rfl⟩
    rcases Nat.lt_or_ge i s.size with h3 | h3
    ·rw[show s.size-i=s.size-(i+1)+1 by omega,allOk] at hF
     have hl:=letterR_ok (byteAt s i)
     have hd:=digitR_ok (byteAt s i)
     generalize hn:byteAt s i=n at hF hl hd
     have good:okI n=true→allOk s (i+1) (s.size-(i+1))=F:=fun h=>by rw[← hF,h];rfl
     have bad:okI n=false→F=false:=fun h=>by rw[← hF,h];rfl
     unfold okI sigI at good bad
     clear hF
     cases h5:lttI n with
     | true=>
       rw[h5] at hl good
       refine kW ?_
       (refine kO ?_;repeat intro γ)
       simp only[Int.toNat_natCast,hn]
       refine CallP.flat [] _ c242 hl rfl ?_
       refine kW ?_
       (refine kO ?_;repeat intro γ)
       exact .intro <| W.of ⟨_,by omega,i+1,by omega,rfl,good rfl,rfl,rfl⟩ ⟨rfl,rfl,trivial⟩ trivial
     | false =>
       rw[h5] at hl good bad
       cases h6:digI n with
       | true=>
         rw[h6] at hd good
         refine kW ?_
         (refine kO ?_;repeat intro γ)
         simp only[Int.toNat_natCast,hn]
         refine CallP.flat [] _ c242 hl rfl ?_
         refine kW ?_
         (refine kO ?_;repeat intro γ)
         refine CallP.flat [] _ c243 hd rfl ?_
         refine kW ?_
         (refine kO ?_;repeat intro γ)
         exact .intro <| W.of ⟨_,by omega,i+1,by omega,rfl,good rfl,rfl,rfl⟩ ⟨rfl,rfl,trivial⟩ trivial
       | false=>
         rw[h6] at hd good bad
         simp only[Bool.false_or,decide_eq_true_eq,decide_eq_false_iff_not] at good bad
         refine kW ?_
         (refine kO ?_;repeat intro γ)
         simp only[Int.toNat_natCast,hn]
         refine CallP.flat [] _ c242 hl rfl ?_
         refine kW ?_
         (refine kO ?_;repeat intro γ)
         refine CallP.flat [] _ c243 hd rfl ?_
         refine kW ?_
         by_cases h7:n=95∨n=46∨n=91∨n=93∨n=44∨n=39
         ·have hg:=good h7
          rcases h7 with h | h | h | h | h | h
          all_goals
           (refine kO ?_;repeat intro γ)
           exact .intro <| W.of ⟨_,by omega,i+1,by omega,rfl,hg,rfl,rfl⟩ ⟨rfl,rfl,trivial⟩ trivial
         ·have hg:=bad h7
          (refine kO ?_;repeat intro γ)
          exact .of (by rw[hg];rfl)
    ·rw[show s.size-i=0 by omega] at hF
     refine kW ?_
     (refine kO ?_;repeat intro γ)
     exact .of (by rw[← hF];rfl)
theorem isD_iff (n:Nat):isD n=true↔48≤n∧n≤57:=by
 unfold isD
 rw[Bool.and_eq_true,Nat.ble_eq,Nat.ble_eq]
def digB (l:List UInt8):Bool:=decide (1≤l.length)&&decide (l.length≤300)&&!(decide (1<l.length)&&decide (l.headD 0=48))&&isDs l
theorem digits_ok (l:List UInt8) (hl:l.length<2^62):PureCall Tryz.prog 303 [encS (ofL l)] (encB (digB l)):=by
 refine PC [] Tryz.func303 rfl (by rfl) rfl ?_
 have hsz:=ofL_size l
 generalize hF:digB l=F
 unfold digB at hF
 by_cases h0:l.length<1
 ·rw[decide_eq_false (by omega)] at hF
  refine kW ?_
  (refine kO ?_;repeat intro γ)
  exact .of (by rw[← hF];rfl)
 rw[decide_eq_true (by omega),Bool.true_and] at hF
 by_cases h1:300<l.length
 ·rw[decide_eq_false (by omega)] at hF
  refine kW ?_
  (refine kO ?_;repeat intro γ)
  exact .of (by rw[← hF];rfl)
 rw[decide_eq_true (by omega),Bool.true_and] at hF
 have hb:=byte_ofL l 0 (by omega)
 have hh:l.headD 0=l[0]:=by cases l with
  | nil=>simp at h0
  | cons c r=>rfl
 rw[hh] at hF
 by_cases h2:1<l.length∧l[0]=48
 ·have h48:(l[0]).toNat=48:=by rw[h2.2];rfl
  rw[decide_eq_true h2.1,decide_eq_true h2.2] at hF
  refine kW ?_
  (refine kO ?_;repeat intro γ)
  rw[show byteAt (ofL l) (Int.toNat 0)=48 by rw[show Int.toNat 0=0 from rfl,hb,h48];rfl]
  (refine kO ?_;repeat intro γ)
  exact .of (by rw[← hF];rfl)
 ·have hd : (decide (1<l.length)&&decide (l[0]=48))=false:=by
   rcases Nat.lt_or_ge 1 l.length with h | h
   ·rw[decide_eq_false (fun e=>h2 ⟨h,e⟩),Bool.and_false]
   ·rw[decide_eq_false (by omega),Bool.false_and]
  have hne:1<l.length→¬ ((l[0]).toNat:Int)=48:=fun h e=>h2 ⟨h,UInt8.toNat.inj (by rw[show (48:UInt8).toNat=48 from rfl];omega)⟩
  rw[hd,Bool.not_false,Bool.true_and] at hF
  have hF2:isDs (l.drop 0)=F:=hF
  rcases Nat.lt_or_ge 1 l.length with h3 | h3
  case' inl=>have hn3:=hne h3
  all_goals
   refine kW ?_
   (refine kO ?_;repeat intro γ)
   try rw[show byteAt (ofL l) (Int.toNat 0)=((l[0]).toNat:Int) from hb]
   (refine kO ?_;repeat intro γ)
   refine LoopP.intro (fun k σ H=>∃ i,i≤l.length∧k=l.length-i∧isDs (l.drop i)=F∧σ=fr [(0,encS (ofL l)),(3,encI i)]∧H=hp []) ?_ ?_
   ·exact .intro <| W.of ⟨_,0,Nat.zero_le _,rfl,hF2,rfl,rfl⟩ ⟨rfl,rfl,trivial⟩ trivial
   ·rintro k σ H ⟨i,hi,rfl,hF,rfl,rfl⟩
    rcases Nat.lt_or_ge i l.length with h4 | h4
    ·rw[List.drop_eq_getElem_cons h4] at hF
     have hbi:=byte_ofL l i h4
     unfold isDs at hF
     rw[List.all_cons] at hF
     have hdi:=isD_iff (l[i]).toNat
     generalize (l[i]).toNat=d at hF hbi hdi
     cases h5:isD d with
     | true=>
       rw[h5,Bool.true_and] at hF
       have h6:=hdi.1 h5
       refine kW ?_
       (refine kO ?_;repeat intro γ)
       simp only[Int.toNat_natCast,hbi]
       (refine kO ?_;repeat intro γ)
       simp only[Int.toNat_natCast,hbi]
       (refine kO ?_;repeat intro γ)
       exact .intro <| W.of ⟨_,by omega,i+1,by omega,rfl,hF,rfl,rfl⟩ ⟨rfl,rfl,trivial⟩ trivial
     | false=>
       rw[h5,Bool.false_and] at hF
       have h6:¬ (48≤d∧d≤57):=fun h=>by rw[hdi.2 h] at h5;cases h5
       refine kW ?_
       (refine kO ?_;repeat intro γ)
       simp only[Int.toNat_natCast,hbi]
       rcases Nat.lt_or_ge d 48 with h7 | h7
       all_goals
        (refine kO ?_;repeat intro γ)
        try simp only[Int.toNat_natCast,hbi]
        try (refine kO ?_;repeat intro γ)
        exact .of (by rw[← hF];rfl)
    ·rw[List.drop_eq_nil_of_le h4] at hF
     refine kW ?_
     (refine kO ?_;repeat intro γ)
     exact .of (by rw[← hF];rfl)
end Go.Proofs.YtlhdoekgipaihaaGreatDoor
namespace Go.Proofs.YtlhdoekgipaihaaGreatDoor
open Go Go.RowKit Go.Shelf
attribute [local go_sem] Oper.semAt_some
theorem ntD:Tryz.f362.ntmps=21:=by kernel_rfl
def downto {α:Type} (f:Nat→α) (len k:Nat):List (Nat×α):=(List.range k).map fun j=>(len-1-j,f (len-1-j))
theorem downto_succ {α:Type} (f:Nat→α) (len k:Nat):downto f len (k+1)=downto f len k++[(len-1-k,f (len-1-k))]:=by simp[downto,List.range_succ]
theorem downto_length {α:Type} (f:Nat→α) (len k:Nat):(downto f len k).length=k:=by simp[downto]
set_option maxHeartbeats 2000000 in
theorem down1_in (F:Fence) (n:Nat) (h8:F.fn 362) (hro:F.round=none) (hn:1≤n) (l Bs b off len cap:Nat) (m:Bool) (zs:Nat→Fin 1000000000) (hreach:len*4≤140737488351232) (Kp:World→World→Prop) (hKr:∀ A,Kp A A) (hKt:∀ A B C,Kp A B→Kp B C→Kp A C) (hK1:∀ A B,Kp A B→B.cell? ⟨Bs,1,none⟩=A.cell? ⟨Bs,1,none⟩) (hKc:∀ A B j,Kp A B→B.cell? ⟨b,off+j,none⟩=A.cell? ⟨b,off+j,none⟩) (J Jx:List (Nat×Fin 1000000000)→World→Prop)
  (hY:∀ pre x W,J pre W→pre.length<len→YieldAt F (n-1) Tryz.prog l #[.int .i64 (x.1:Int),.int .u32 (x.2.val:Int)] W fun e W'=>
    (e=.returned (.bool true)∧J (pre++[x]) W'∧Kp W W')∨(e=.returned (.bool false)∧Jx (pre++[x]) W'))
  (W:World) (hBs0:W.cell? ⟨Bs,0,none⟩=some (.bool m)) (hBs1:W.cell? ⟨Bs,1,none⟩=some (.slice (some ⟨b,off,none⟩) len cap)) (hc:∀ j,j<len→W.cell? ⟨b,off+j,none⟩=some (.int .u32 ((zs j).val:Int))) (h0:J [] W) :
  CallsIn F n Tryz.prog 362 #[.func (.yield l) #[] #[],.pointer (some ⟨Bs,0,none⟩)] W fun e W'=>(∃ v,e=.returned v) ∧
   ((∃ ys,ys=downto zs len len∧J ys W')∨(∃ pre,(∃ k,k≤len∧pre=downto zs len k)∧Jx pre W')):=by
 refine callsIn_of_wp Tryz.func362 rfl h8 ?_ hro
 simp only[ntD,List.size_toArray,List.length_cons,List.length_nil,Nat.reduceAdd,Nat.reduceSub,Array.replicate_succ,Array.replicate_zero,List.push_toArray,List.append_toArray,List.nil_append,List.cons_append]
 gi_wp2
 gi_loopw [3] (fun i wr=>∃ k:Nat,k≤len∧i=.int .i64 ((len:Int)-1-k)∧J (downto zs len k) wr∧Kp W wr)
  (fun i _=>(intOf i+1).toNat)
 case atStart=>exact ⟨0,Nat.zero_le _,by simp,h0,hKr _⟩
 case round=>
  obtain ⟨k,hk,rfl,hJs,hnx⟩:=hrel
  have hcx:k<len→wr.cell? ⟨b,off+(len-1-k),none⟩=some (.int .u32 ((zs (len-1-k)).val:Int)):=fun h=>(hKc _ _ (len-1-k) hnx).trans (hc _ (by omega))
  have hb1:wr.cell? ⟨Bs,1,none⟩=some (.slice (some ⟨b,off,none⟩) len cap):=(hK1 _ _ hnx).trans hBs1
  by_cases hlt:k<len
  ·obtain ⟨fn,tmps,assign,body,hy,hR⟩:=hY _ (len-1-k,zs (len-1-k)) wr hJs (by rw[downto_length];exact hlt)
   dsimp only at hy
   have hcx':=hcx hlt
   have e:(len:Int)-1-k=((len-1-k:Nat):Int):=by omega
   rw[e]
   have hge:(0:Int)≤((len-1-k:Nat):Int):=by omega
   gi_wp2
   refine hR.mono ?_
   rintro e W3 (⟨rfl,hJ3,hk3⟩ | ⟨rfl,hJx3⟩)
   ·gi_wp2
    go_roundw
    case rel=>exact ⟨k+1,by omega,by simp<;>omega,by rw[downto_succ];exact hJ3,hKt _ _ _ hnx hk3⟩
    case measure=>simp[intOf]<;>omega
   ·gi_wp2
    refine bodyPost_ret (results_none rfl _ _ _) rfl ?_
    exact ⟨⟨_,rfl⟩,.inr ⟨_,⟨k+1,by omega,(downto_succ _ _ _).symm⟩,hJx3⟩⟩
  ·obtain rfl:k=len:=by omega
   have e:(k:Int)-1-k=-1:=by omega
   rw[e]
   gi_wp2
   go_end0
   exact ⟨⟨_,rfl⟩,.inl ⟨_,rfl,hJs⟩⟩
theorem ntW:Tryz.f329.ntmps=4:=by kernel_rfl
set_option maxHeartbeats 1000000 in
theorem down_in (F:Fence) (n:Nat) (h6:F.fn 329) (hro:F.round=none) (m:Bool) (a:Option Addr) (len cap:Nat) (w:World) :
  CallsIn F n Tryz.prog 329 #[.agg #[.bool m,.slice a len cap]] w fun e w'=>e=.returned (.func (.func 362) #[] #[.pointer (some ⟨w.heap.size,0,none⟩)])∧w'=w.alloc (.cells #[.bool m,.slice a len cap] 122):=by
 refine callsIn_of_wp Tryz.func329 rfl h6 ?_ hro
 simp only[ntW,List.size_toArray,List.length_cons,List.length_nil,Nat.reduceAdd,Nat.reduceSub,Array.replicate_succ,Array.replicate_zero,List.push_toArray,List.append_toArray,List.nil_append,List.cons_append]
 gi_wp2
 go_ret
 exact ⟨rfl,rfl⟩
theorem down_stops (F:Fence) (n:Nat) (h8:F.fn 362) (hro:F.round=none) (hn:1≤n) (Bs b off len cap:Nat) (m:Bool) (zs:Nat→Fin 1000000000) (hreach:len*4≤140737488351232) (w:World) (hBs:Bs<w.heap.size) (hb:b<w.heap.size)
  (Kp:World→World→Prop) (hKr:∀ A,Kp A A) (hKt:∀ A B C,Kp A B→Kp B C→Kp A C) (hK1:∀ A B,Kp A B→B.cell? ⟨Bs,1,none⟩=A.cell? ⟨Bs,1,none⟩) (hKc:∀ A B j,Kp A B→B.cell? ⟨b,off+j,none⟩=A.cell? ⟨b,off+j,none⟩)
  (hBs0:w.cell? ⟨Bs,0,none⟩=some (.bool m)) (hBs1:w.cell? ⟨Bs,1,none⟩=some (.slice (some ⟨b,off,none⟩) len cap)) (hc:∀ j,j<len→w.cell? ⟨b,off+j,none⟩=some (.int .u32 ((zs j).val:Int))) :
  SeqStopsK F n Tryz.prog 362 #[.pointer (some ⟨Bs,0,none⟩)] (fun x:Nat×Fin 1000000000=>#[Value.int .i64 (x.1:Int),Value.int .u32 (x.2.val:Int)]) Kp (fun ys=>ys=downto zs len len)
   (fun pre=>∃ k,k≤len∧pre=downto zs len k) len w:=fun l J Jx W hW _ _ hY h0=>
 down1_in F n h8 hro hn l Bs b off len cap m zs hreach Kp hKr hKt hK1 hKc J Jx hY W ((hW.cell (p:=⟨Bs,0,none⟩) hBs).trans hBs0) ((hW.cell (p:=⟨Bs,1,none⟩) hBs).trans hBs1) (fun j hj=>(hW.cell (p:=⟨b,off+j,none⟩) hb).trans (hc j hj)) h0
end Go.Proofs.YtlhdoekgipaihaaGreatDoor
namespace Go.Proofs.YtlhdoekgipaihaaGreatDoor
open Go Go.Fw
def trimB (b:UInt8):List UInt8→List UInt8
 | []=>[]
 | c::l=>if c=b then trimB b l else c::l
theorem trimB_cons (b c:UInt8) (l:List UInt8):trimB b (c::l)=if c=b then trimB b l else c::l:=rfl
theorem trimLeftByte_ok (b:UInt8) (l:List UInt8) (hl:l.length<2^62):PureCall Tryz.prog 347 [encS (ofL l),.val (.int .u8 b.toNat)] (encS (ofL (trimB b l))):=by
 refine PC [] Tryz.func347 rfl (by rfl) rfl ?_
 refine kW ?_
 (refine kS ?_;repeat intro γ)
 refine LoopP.intro (fun k σ H=>∃ m:List UInt8,k=m.length∧m.length<2^62∧trimB b m=trimB b l∧σ=fr [(0,encS (ofL m)),(1,.val (.int .u8 b.toNat))]∧H=hp []) ?_ ?_
 ·exact .intro <| W.of ⟨_,l,rfl,hl,rfl,rfl,rfl⟩ ⟨rfl,rfl,trivial⟩ trivial
 ·rintro k σ H ⟨m,rfl,hm,hml,rfl,rfl⟩
  cases m with
  | nil=>
    refine kW ?_
    (refine kS ?_;repeat intro γ)
    exact .of (by rw[← hml];rfl)
  | cons c m=>
    have hb:byteAt (ofL (c::m)) (Int.toNat 0)=(c.toNat:Int):=rfl
    have hsz:(ofL (c::m)).size=m.length+1:=rfl
    have hp0:(0:Int)<((ofL (c::m)).size:Int):=by rw[hsz];omega
    rw[trimB_cons] at hml
    refine kW ?_
    (refine kS ?_;repeat intro γ)
    rw[hb]
    refine CondP.dec (fun h=>?_) (fun h=>?_)<;>refine kW ?_
    ·have hc:c=b:=UInt8.toNat.inj (by omega)
     rw[if_pos hc] at hml
     (refine kS ?_;repeat intro γ)
     refine .intro <| W.of ⟨m.length,by simp,m,rfl,by simp at hm;omega,hml,rfl,rfl⟩ ⟨?_,rfl,trivial⟩ trivial
     show encS _=encS _
     rw[ofL_extract];congr 2;simp[ofL_size]
    ·have hc:¬ c=b:=fun e=>h (by rw[e])
     rw[if_neg hc] at hml
     (refine kS ?_;repeat intro γ)
     exact .of (by rw[← hml];rfl)
theorem TrimLeft_ok (l:List UInt8) (hl:l.length<2^62):PureCall Tryz.prog 330 [encS (ofL l),encS (b1 48)] (encS (ofL (trimB 48 l))):=by
 refine PC [] Tryz.func330 rfl (by rfl) rfl ?_
 have hb:(b1 48).size=1:=rfl
 have hc:byteAt (b1 48) (Int.toNat 0)=48:=rfl
 have hn:=ofL_nil l
 refine kW ?_
 (refine kS ?_;repeat intro γ)
 refine CondP.dec (fun h=>?_) (fun h=>?_)<;>refine kW ?_
 ·have h0:=hn.1 h
  subst h0
  (refine kS ?_;repeat intro γ)
  exact .of rfl
 ·(refine kS ?_;repeat intro γ)
  rw[hc]
  (refine kS ?_;repeat intro γ)
  refine CallP.flat [] _ c347 (trimLeftByte_ok 48 l hl) rfl ?_
  refine kW ?_
  (refine kS ?_;repeat intro γ)
  exact .of rfl
end Go.Proofs.YtlhdoekgipaihaaGreatDoor
namespace Go.Proofs.YtlhdoekgipaihaaGreatDoor
open Go Go.RowKit Go.Shelf
attribute [local go_sem] Oper.semAt_some
theorem ntS:Tryz.f267.ntmps=38:=by kernel_rfl
theorem ntZ:Tryz.f321.ntmps=7:=by kernel_rfl
set_option maxHeartbeats 1000000 in
theorem Zero_in (F:Fence) (n:Nat) (h6:F.fn 321) (hro:F.round=none) (m:Bool) (a:Option Addr) (len cap:Nat) (hl:0<len) (w:World) :
  CallsIn F n Tryz.prog 321 #[.agg #[.bool m,.slice a len cap]] w fun e w'=>e=.returned (.bool false)∧w'=w.alloc (.cells #[.bool m,.slice a len cap] 122):=by
 refine callsIn_of_wp Tryz.func321 rfl h6 ?_ hro
 simp only[ntZ,List.size_toArray,List.length_cons,List.length_nil,Nat.reduceAdd,Nat.reduceSub,Array.replicate_succ,Array.replicate_zero,List.push_toArray,List.append_toArray,List.nil_append,List.cons_append]
 have hl':¬ (len:Int)=0:=by omega
 gi_wp2
 go_ret
 exact ⟨by simp;omega,rfl⟩
def KpS (n₀:Nat) (A B:World):Prop:=∀ k,(k<n₀∨k=n₀+3)→B.heap[k]?=A.heap[k]?
theorem KpS.cell {n₀:Nat} {A B:World} (h:KpS n₀ A B) {c o:Nat} (hc:c<n₀∨c=n₀+3):B.cell? ⟨c,o,none⟩=A.cell? ⟨c,o,none⟩:=by
 unfold World.cell?
 simp only[h c hc]
def dig9 (v:Nat):List Nat:=(List.range 9).map fun i=>48+v/10 ^ (8-i)%10
def txt9 (pre:List (Nat×Fin 1000000000)):List Nat:=pre.flatMap fun x=>dig9 x.2.val
def encby (n:Nat):Value:=.int .u8 n
theorem grown_set {W wr:World} (hg:W.grownBy wr none) (i:Nat) (v:Value):W.grownBy (wr.setCell ⟨W.heap.size,i,none⟩ v) none:=by
 obtain ⟨h1,h2,h3,h4,h5⟩:=hg
 exact ⟨h1,h2,h3,Nat.le_trans h4 (KeepsWalks.setCell wr _ v).size,fun k hk hn=>(Below.heap_setCell _ _ _ k (by simp;omega)).trans (h5 k hk hn)⟩
def part9 (v:Nat) (j:Nat):Array Value:=(((List.replicate (9-j) (Value.int .u8 0)))++((dig9 v).drop (9-j)).map encby).toArray
theorem set_cells {W:World} {B i:Nat} {A:Array Value} {t:TypeId} {v:Value} (h:W.heap[B]?=some (.cells A t (0,0))):(W.setCell ⟨B,i,none⟩ v).heap[B]?=some (.cells (A.setIfInBounds i v) t (0,0)):=by
 obtain ⟨hlt,hk⟩:=Array.getElem?_eq_some_iff.1 h
 show (W.heap.modify B _)[B]?=_
 rw[Array.getElem?_eq_getElem (by rw[Array.size_modify];exact hlt),Array.getElem_modify_self,hk]
 rfl
theorem part9_succ (v j:Nat) (hj:j<9):part9 v (j+1)=(part9 v j).setIfInBounds (8-j) (encby (48+v/10 ^ j%10)):=by
 unfold part9 dig9 encby
 rcases j with _ | _ | _ | _ | _ | _ | _ | _ | _ | j
 all_goals first
  | omega
  | (simp[List.range,List.range.loop])
theorem txt9_len (pre:List (Nat×Fin 1000000000)):(txt9 pre).length=9*pre.length:=by
 induction pre with
 | nil=>rfl
 | cons a r ih=>
   unfold txt9 at *
   rw[List.flatMap_cons,List.length_append,ih]
   simp[dig9];omega
theorem append_wpIn {F:Fence} {n:Nat} {P:Program} (w:World) {o:Oper} {a:Act} {K:Act→World→Prop} {Q:Exit→Act→World→Prop}
  (s x:Operand) (t:TypeId) (hop:o.op=Op.call { callee:=Callee.builtin Builtin.append,args:=#[s,x],argTypes:=#[t,t] })
  (base:Nat) (e:TypeId) (i:TypeInfo) (z:Value) (size bytes:Nat) (h1:P.underlying t=some (.slice e)) (h2:P.info? e=some i) (h3:i.zero=some z) (h4:i.size=size) (h5:i.bytes=bytes) (h6:z.cells.size=size) (h7:0<size)
  (v:Value) (k:Nat) (xs:List Value) (hs:a.eval s=v) (hown:w.ownsRow base e size v k xs) (ad:Addr) (m c:Nat) (news:List Value) (hx:a.eval x=.slice (some ad) m c) (hn:news.length=m*size)
  (hc:∀ j u,news[j]?=some u→w.cell? (ad.add j)=some u) (h1c:∀ u∈news,u.oneCell'=true) (b1:k+m≤maxLen) (b2:(k+m)*bytes≤140737488355328) (b3:base≤w.heap.size)
  (hK':∀ v' w',w'.ownsRow base e size v' (k+m) (xs++news)→w.grownBy w' v.ownBlock→(v'=.slice none 0 0↔v=.slice none 0 0∧m=0)→K (a.put o.dst v') w') :
  o.wpIn F n P a w K Q:=by
 obtain ⟨v',w',hrun,r1,r2,r3⟩:=run_append_own (P:=P) w base t o.type e i z size bytes h1 h2 h3 h4 h5 h6 h7 v k xs hown ad m c news hn hc h1c b1 b2 b3
 unfold Oper.wpIn
 refine ⟨?_,?_⟩
 ·simp[Oper.about,hop,resolve,Target.leads,Sem.run_pure]
 ·rw[Oper.semAt_plain F _ _ (by rw[hop];intro c hc';cases hc')]
  simp[execOp,hop,resolve,invoke,builtin,hs,hx,hrun,Result.andThen]
  exact hK' _ _ r1 r2 r3
theorem trimB_len (b:UInt8):∀ l:List UInt8,(trimB b l).length≤l.length
 | []=>Nat.le_refl _
 | c::l=>by
   have:=trimB_len b l
   rw[trimB_cons]
   split<;>simp<;>omega
theorem info5:(Tryz.prog.info? 5).map (fun i=>(i.zero,i.size,i.bytes))=some (some (.int .u8 0),1,1):=by kernel_rfl
theorem und5:Tryz.prog.underlying 5=some (.int .u8):=by kernel_rfl
theorem und9:Tryz.prog.underlying 9=some .string:=by kernel_rfl
theorem und276:Tryz.prog.underlying 276=some (.slice 5):=by kernel_rfl
set_option maxHeartbeats 4000000 in
theorem String_in (F:Fence) (n:Nat) (hF:∀ f,F.fn f) (hro:F.round=none) (hn:5≤n) (m:Bool) (b off len cap:Nat) (zs:Nat→Fin 1000000000) (hlen:0<len) (hreach:len≤2^36) (w:World) (hb:b<w.heap.size)
  (hc:∀ j,j<len→w.cell? ⟨b,off+j,none⟩=some (.int .u32 ((zs j).val:Int)))
  (hT:∀ l:List UInt8,l.length<2^62→∀ w',CallsIn F (n-1) Tryz.prog 330 #[.string (ofL l),.string (b1 48)] w' fun e w''=>e=.returned (.string (ofL (trimB 48 l)))∧Below w'.heap.size w' w'') :
  CallsIn F n Tryz.prog 267 #[.agg #[.bool m,.slice (some ⟨b,off,none⟩) len cap]] w fun e W'=>e=.returned (.string (if m then b1 45++ofL (trimB 48 ((txt9 (downto zs len len)).map UInt8.ofNat)) else ofL (trimB 48 ((txt9 (downto zs len len)).map UInt8.ofNat))))∧Below w.heap.size w W':=by
 have h1:1≤n:=by omega
 refine callsIn_of_wp_marks Tryz.func267 rfl (hF _) ?_ hro
 simp only[ntS,List.size_toArray,List.length_cons,List.length_nil,Nat.reduceAdd,Nat.reduceSub,Array.replicate_succ,Array.replicate_zero,List.push_toArray,List.append_toArray,List.nil_append,List.cons_append]
 gi_wp2_with (first
  | (gi_at_call 321;refine (Zero_in F (n-1) (hF _) hro m (some ⟨b,off,none⟩) len cap hlen _).mono ?_;rintro e w' ⟨rfl,rfl⟩)
  | (gi_at_call 329;refine (down_in F (n-1) (hF _) hro m (some ⟨b,off,none⟩) len cap _).mono ?_;rintro e w' ⟨rfl,rfl⟩))
 obtain ⟨W0,hW0⟩:∃ W0,((((w.alloc (.cells #[.bool m,.slice (some ⟨b,off,none⟩) len cap] 122)).alloc (.cells #[.bool m,.slice (some ⟨b,off,none⟩) len cap] 122)).alloc (.cells #[.slice none 0 0] 276)).alloc (.cells #[.bool m,.slice (some ⟨b,off,none⟩) len cap] 122))=W0:=⟨_,rfl⟩
 have hsz:W0.heap.size=w.heap.size+4:=by rw[← hW0];simp
 have hB0:Below w.heap.size w W0:=by rw[← hW0];exact ((((Below.refl _ w).alloc (Nat.le_refl _) _).alloc (by simp) _).alloc (by simp;omega) _).alloc (by simp;omega) _
 have hx3:W0.heap[w.heap.size+3]?=some (.cells #[.bool m,.slice (some ⟨b,off,none⟩) len cap] 122 (0,0)):=by
  rw[← hW0];have:=World.alloc_heap_new (((w.alloc (.cells #[.bool m,.slice (some ⟨b,off,none⟩) len cap] 122)).alloc (.cells #[.bool m,.slice (some ⟨b,off,none⟩) len cap] 122)).alloc (.cells #[.slice none 0 0] 276)) (.cells #[.bool m,.slice (some ⟨b,off,none⟩) len cap] 122)
  simpa using this
 have hx0:W0.heap[w.heap.size]?=some (.cells #[.bool m,.slice (some ⟨b,off,none⟩) len cap] 122 (0,0)):=by
  rw[← hW0,Below.heap_alloc _ _ _ (by simp;omega),Below.heap_alloc _ _ _ (by simp;omega),Below.heap_alloc _ _ _ (by simp)]
  exact World.alloc_heap_new w _
 have hbx:Boxed W0 (w.heap.size+1+1) 276 (.slice none 0 0):=by
  rw[← hW0]
  have:=(Boxed.new ((w.alloc (.cells #[.bool m,.slice (some ⟨b,off,none⟩) len cap] 122)).alloc (.cells #[.bool m,.slice (some ⟨b,off,none⟩) len cap] 122)) 276 (.slice none 0 0)).alloc (.cells #[.bool m,.slice (some ⟨b,off,none⟩) len cap] 122)
  simpa using this
 rw[hW0]
 refine wpIn_rangeFunc_ownG hro h1 (gf:=362) (lb:=#[.pointer (some ⟨w.heap.size+3,0,none⟩)]) rfl (hF _) (enters_of Tryz.func362 (by kernel_rfl) rfl)
  (down_stops F (n-1) (hF _) hro (by omega) (w.heap.size+3) b off len cap m zs (by omega) W0 (by omega) (by omega) (KpS w.heap.size) (fun A k hk=>rfl) (fun A B C h h' k hk=>(h' k hk).trans (h k hk)) (fun A B h=>h.cell (.inr rfl)) (fun A B j h=>h.cell (.inl hb))
    (by simp[World.cell?,hx3]) (by simp[World.cell?,hx3]) (fun j hj=>(hB0.cell (p:=⟨b,off+j,none⟩) hb).trans (hc j hj)))
  (fun h h' k hk=>(h' k hk).trans (h k hk)) (fun W l o o' hl _ _ _ k hk=>World.putObj_heap_other (by omega)) (Below.refl _ _) (fun _=>rfl)
  (fun pre W=>(∃ v,Boxed W (w.heap.size+1+1) 276 v∧W.ownsRow (w.heap.size+4) 5 1 v (txt9 pre).length ((txt9 pre).map encby))∧Below w.heap.size w W∧W0.heap.size≤W.heap.size∧W.heap[w.heap.size]?=some (.cells #[.bool m,.slice (some ⟨b,off,none⟩) len cap] 122 (0,0)))
  (fun _ _ _=>False)
  ?hI (fun _ _ _ _ _ hs _ _=>hs) ⟨⟨_,hbx,?h0⟩,hB0,Nat.le_refl _,hx0⟩
  (fun x=>{ tmps:=#[.agg #[.bool m,.slice (some ⟨b,off,none⟩) len cap],.pointer (some ⟨w.heap.size,0,none⟩),.string ⟨#[]⟩,.pointer (some ⟨w.heap.size+1+1,0,none⟩),undef,.int .u32 (x.2.val:Int),undef,undef,undef,.agg #[.bool m,.slice (some ⟨b,off,none⟩) len cap],.bool false,.agg #[.bool m,.slice (some ⟨b,off,none⟩) len cap],.func (.func 362) #[] #[.pointer (some ⟨w.heap.size+1+1+1,0,none⟩)],.int .i64 (x.1:Int),.int .u32 (x.2.val:Int),undef,undef,undef,undef,undef,undef,undef,undef,undef,undef,undef,undef,undef,undef,undef,undef,undef,undef,undef,undef,undef,undef,undef],defers:=[] }) ?assign ?body ?done ?stop
 case stop=>
  rintro D c pre W _ _ h _
  exact h.elim
 case h0=>exact World.ownsRow_nil _ _ _ _
 case assign=>
  intro l x W K hK
  gi_wp2
  exact hK
 case hI=>
  refine OwnFrom.and (Own.from ?_ _) (OwnFrom.and (ownFrom_below (Nat.le_refl _) (by omega)) (OwnFrom.and (fun s X Y row h hg _=>Nat.le_trans h hg.size) (fun s X Y row h hg hr=>(hg.block _ (Array.getElem?_eq_some_iff.1 h).1 (fun e=>by obtain ⟨_,o,ho,hc⟩:=hr _ e.symm;rw[h] at ho;cases ho;cases hc)).trans h)))
  rintro s X Y row ⟨v,hv,hr⟩ hg hrow
  obtain ⟨v',hv',hr',-⟩:=holdsRow_own (w.heap.size+4) (w.heap.size+1+1) 276 5 1 (fun s=>(txt9 s).length) (fun s=>(txt9 s).map encby) (fun _ _=>True) s X Y row ⟨v,hv,hr,trivial⟩ hg hrow
  exact ⟨v',hv',hr'⟩
 case body =>
  rintro l pre x W ⟨⟨v,hv,hrow⟩,hB,hWs,hx1⟩ hlt
  gi_wp2
  gi_loopw [5,7] (fun wd i wr=>∃ j:Nat,j≤9∧wd=.int .u32 ((x.2.val/10 ^ j:Nat):Int)∧i=.int .i64 (8-(j:Int))∧W.grownBy wr none∧wr.heap.size=W.heap.size+1∧wr.heap[W.heap.size]?=some (.cells (part9 x.2.val j) 366 (0,0)))
   (fun _ i _=>(intOf i+1).toNat)
  case atStart=>
   exact ⟨0,by omega,by simp,rfl,World.grownBy_alloc W _ none,by simp,World.alloc_heap_new W _⟩
  case round=>
   obtain ⟨j,hj,rfl,rfl,hg,hsw,hp⟩:=hrel
   by_cases hj9:j<9
   ·have hge:(0:Int)≤8-(j:Int):=by omega
    have hdv:x.2.val/10 ^ j<1000000000:=Nat.lt_of_le_of_lt (Nat.div_le_self _ _) x.2.isLt
    generalize hvv:x.2.val/10 ^ j=vv at hdv ⊢
    have e8:(8:Int)-j=((8-j:Nat):Int):=by omega
    have hsz9:(part9 x.2.val j).size=9:=by unfold part9 dig9;simp<;>omega
    obtain ⟨u,hu⟩:∃ u,(part9 x.2.val j)[8-j]?=some u:=⟨_,Array.getElem?_eq_getElem (by rw[hsz9];omega)⟩
    have hcl:wr.cell? ⟨W.heap.size,8-j,none⟩=some u:=by simp[World.cell?,hp,hu]
    have hfz:wr.frozen? ⟨W.heap.size,8-j,none⟩=false:=by simp[World.frozen?,hp]
    rw[e8]
    gi_wp2
    refine ⟨⟨j+1,by omega,?_,?_,grown_set hg _ _,?_,?_⟩,?_⟩
    ·rw[Nat.pow_succ,← Nat.div_div_eq_div_mul,hvv];rfl
    ·congr 1;omega
    ·simp[hsw]
    ·rw[set_cells hp,part9_succ x.2.val j hj9,hvv];rfl
    ·simp[intOf]<;>omega
   ·obtain rfl:j=9:=by omega
    have hv2:=hv.kept hg (by simp)
    have hrow2:wr.ownsRow (w.heap.size+4) 5 1 v (txt9 pre).length ((txt9 pre).map encby):=hrow.kept hg (by rcases h:v.ownBlock with _ | g;exact .inl rfl;exact .inr (by simp))
    have hcv:=hv2.cell
    have hfv:=hv2.frozen
    have hp9:(part9 x.2.val 9)=((dig9 x.2.val).map encby).toArray:=by unfold part9;simp
    rw[hp9] at hp
    have hl9:((dig9 x.2.val).map encby).length=9*1:=by simp[dig9]
    have hnw:∀ j u,((dig9 x.2.val).map encby)[j]?=some u→wr.cell? (Addr.add ⟨W.heap.size,0,none⟩ j)=some u:=by
     intro j u hu
     have:Addr.add ⟨W.heap.size,0,none⟩ j=⟨W.heap.size,j,none⟩:=by unfold Addr.add;split<;>simp_all
     rw[this]
     simp only[World.cell?,hp]
     simpa using hu
    obtain ⟨i0,hi,hz0,hz1,hz2⟩:=info_parts info5
    have hw4:w.heap.size+4≤wr.heap.size:=by rw[hsw];have:=hB.size;have:=hv.lt;omega
    have hK9:(txt9 pre).length+9≤9*len:=by rw[txt9_len];omega
    have hmx:Tryz.prog.follows .mixedOrders=true:=by kernel_rfl
    gi_wp2
    refine wpIn_region_any hmx ?_
    change wpAnyIn _ _ _ _ _ _ _ _ _ (World.drew _)
    refine wpAnyIn_ready (rs:=[0,1]) (by kernel_rfl) (by simp) ?_
    refine AllReadyIn.cons rfl (fun K hK=>?_) (AllReadyIn.cons rfl (fun K hK=>?_) AllReadyIn.nil)
    ·go_simp
     refine hK _ _ ?_
     clear hK K
     refine wpAnyIn_ready (rs:=[1]) (by kernel_rfl) (by simp) ?_
     refine AllReadyIn.cons rfl (fun K hK=>?_) AllReadyIn.nil
     go_simp
     refine hK _ _ ?_
     clear hK K
     refine wpAnyIn_ready (rs:=[2]) (by kernel_rfl) (by simp) ?_
     refine AllReadyIn.cons rfl (fun K hK=>?_) AllReadyIn.nil
     refine Eq.mpr (if_pos (by rfl)) ?_
     refine append_wpIn (wr.drew) (o:=_) _ _ 276 rfl (w.heap.size+4) 5 i0 (.int .u8 0) 1 1 und276 hi hz0 hz1 hz2 rfl (by decide) v _ _ rfl hrow2 ⟨W.heap.size,0,none⟩ 9 9 ((dig9 x.2.val).map encby) rfl hl9 hnw (by intro u hu;obtain ⟨d,_,rfl⟩:=List.mem_map.1 hu;rfl) (by unfold maxLen;omega) (by omega) hw4 fun v' w3 hown' hgrow3 hnil3=>hK _ _ ?_
     clear hK K
     obtain ⟨g',cap',rfl⟩:=ownsRow_succ hown'
     have hv3:Boxed w3 _ _ _:=Boxed.kept (W:=wr.drew) hv2 hgrow3 (hv2.not_row (by decide) hrow2)
     have hc3:=hv3.cell
     have hf3:=hv3.frozen
     refine wpAnyIn_ready (rs:=[3]) (by kernel_rfl) (by simp) ?_
     refine AllReadyIn.cons rfl (fun K hK=>?_) AllReadyIn.nil
     go_simp
     refine hK _ _ ?_
     clear hK K
     refine wpAnyIn_done (by kernel_rfl) ?_ _
     have hgd:wr.grownBy wr.drew none:=⟨rfl,rfl,rfl,Nat.le_refl _,fun k _ _=>rfl⟩
     have hne:∀ k,k<w.heap.size+4→some k≠v.ownBlock:=fun k hk e=>by have:=(hrow2.lt k e.symm).1;omega
     have hg4:w3.grownBy (w3.setCell ⟨w.heap.size+1+1,0,none⟩ (.slice (some ⟨g',0,none⟩) ((txt9 pre).length+8+1) cap')) (some (w.heap.size+1+1)):=grownBy_setCell' _ _ _
     refine ⟨?k1,?k2,⟨_,hv3.set _,?k3⟩,?k4,?k5,?k6⟩
     case k1=>
      refine (((KeepsOthers.of_grownBy hg (fun j o e=>by cases e)).trans ((KeepsOthers.drew wr).trans (KeepsOthers.of_grownBy hgrow3 (fun j o ej hj=>?_)))).trans (KeepsOthers.setCell _ _ _)).from _
      rcases hrow2.2 with ⟨rfl,_⟩ | ⟨g,cap,cur,rfl,_,hgb,_⟩
      ·simp[Value.ownBlock] at ej
      ·have:g=j:=by simpa [Value.ownBlock] using ej
       subst this
       rw[show wr.drew.heap[g]?=_ from hgb] at hj
       cases hj;rfl
     case k2=>
      intro k hk
      refine (Below.heap_setCell _ _ _ k (by simp;omega)).trans ((hgrow3.block k (show k<wr.heap.size by omega) (hne k (by omega))).trans (hg.block k (by omega) (by simp)))
     case k3=>
      have hsn:(txt9 (pre++[x])).map encby=(txt9 pre).map encby++(dig9 x.2.val).map encby:=by unfold txt9;simp
      have hln:(txt9 (pre++[x])).length=(txt9 pre).length+9:=by rw[txt9_len,txt9_len];simp;omega
      rw[hsn,hln]
      exact hown'.kept hg4 (.inr (hv3.not_row (by decide) hown').symm)
     case k4=>
      have b1:=(hB.grown hg hB.size (fun k e=>by cases e)).drew
      have b2:=b1.grown hgrow3 (show _≤wr.heap.size by omega) (fun k e=>by have:=(hrow2.lt k e).1;omega)
      exact b2.grown hg4 b2.size (fun k e=>by cases e;omega)
     case k6=>exact ((hg4.block _ (by have:=hgrow3.size;have:wr.drew.heap.size=wr.heap.size:=rfl;omega) (by simp;omega)).trans ((hgrow3.block _ (show w.heap.size<wr.heap.size by omega) (hne _ (by omega))).trans (hg.block _ (by omega) (by simp)))).trans hx1
     case k5=>exact Nat.le_trans (show W0.heap.size≤wr.heap.size by omega) (Nat.le_trans hgrow3.size hg4.size)
    ·go_simp
     refine hK _ _ ?_
     clear hK K
     refine wpAnyIn_ready (rs:=[0]) (by kernel_rfl) (by simp) ?_
     refine AllReadyIn.cons rfl (fun K hK=>?_) AllReadyIn.nil
     go_simp
     refine hK _ _ ?_
     clear hK K
     refine wpAnyIn_ready (rs:=[2]) (by kernel_rfl) (by simp) ?_
     refine AllReadyIn.cons rfl (fun K hK=>?_) AllReadyIn.nil
     refine Eq.mpr (if_pos (by rfl)) ?_
     refine append_wpIn (wr.drew) (o:=_) _ _ 276 rfl (w.heap.size+4) 5 i0 (.int .u8 0) 1 1 und276 hi hz0 hz1 hz2 rfl (by decide) v _ _ rfl hrow2 ⟨W.heap.size,0,none⟩ 9 9 ((dig9 x.2.val).map encby) rfl hl9 hnw (by intro u hu;obtain ⟨d,_,rfl⟩:=List.mem_map.1 hu;rfl) (by unfold maxLen;omega) (by omega) hw4 fun v' w3 hown' hgrow3 hnil3=>hK _ _ ?_
     clear hK K
     obtain ⟨g',cap',rfl⟩:=ownsRow_succ hown'
     have hv3:Boxed w3 _ _ _:=Boxed.kept (W:=wr.drew) hv2 hgrow3 (hv2.not_row (by decide) hrow2)
     have hc3:=hv3.cell
     have hf3:=hv3.frozen
     refine wpAnyIn_ready (rs:=[3]) (by kernel_rfl) (by simp) ?_
     refine AllReadyIn.cons rfl (fun K hK=>?_) AllReadyIn.nil
     go_simp
     refine hK _ _ ?_
     clear hK K
     refine wpAnyIn_done (by kernel_rfl) ?_ _
     have hgd:wr.grownBy wr.drew none:=⟨rfl,rfl,rfl,Nat.le_refl _,fun k _ _=>rfl⟩
     have hne:∀ k,k<w.heap.size+4→some k≠v.ownBlock:=fun k hk e=>by have:=(hrow2.lt k e.symm).1;omega
     have hg4:w3.grownBy (w3.setCell ⟨w.heap.size+1+1,0,none⟩ (.slice (some ⟨g',0,none⟩) ((txt9 pre).length+8+1) cap')) (some (w.heap.size+1+1)):=grownBy_setCell' _ _ _
     refine ⟨?k1,?k2,⟨_,hv3.set _,?k3⟩,?k4,?k5,?k6⟩
     case k1=>
      refine (((KeepsOthers.of_grownBy hg (fun j o e=>by cases e)).trans ((KeepsOthers.drew wr).trans (KeepsOthers.of_grownBy hgrow3 (fun j o ej hj=>?_)))).trans (KeepsOthers.setCell _ _ _)).from _
      rcases hrow2.2 with ⟨rfl,_⟩ | ⟨g,cap,cur,rfl,_,hgb,_⟩
      ·simp[Value.ownBlock] at ej
      ·have:g=j:=by simpa [Value.ownBlock] using ej
       subst this
       rw[show wr.drew.heap[g]?=_ from hgb] at hj
       cases hj;rfl
     case k2=>
      intro k hk
      refine (Below.heap_setCell _ _ _ k (by simp;omega)).trans ((hgrow3.block k (show k<wr.heap.size by omega) (hne k (by omega))).trans (hg.block k (by omega) (by simp)))
     case k3=>
      have hsn:(txt9 (pre++[x])).map encby=(txt9 pre).map encby++(dig9 x.2.val).map encby:=by unfold txt9;simp
      have hln:(txt9 (pre++[x])).length=(txt9 pre).length+9:=by rw[txt9_len,txt9_len];simp;omega
      rw[hsn,hln]
      exact hown'.kept hg4 (.inr (hv3.not_row (by decide) hown').symm)
     case k4=>
      have b1:=(hB.grown hg hB.size (fun k e=>by cases e)).drew
      have b2:=b1.grown hgrow3 (show _≤wr.heap.size by omega) (fun k e=>by have:=(hrow2.lt k e).1;omega)
      exact b2.grown hg4 b2.size (fun k e=>by cases e;omega)
     case k6=>exact ((hg4.block _ (by have:=hgrow3.size;have:wr.drew.heap.size=wr.heap.size:=rfl;omega) (by simp;omega)).trans ((hgrow3.block _ (show w.heap.size<wr.heap.size by omega) (hne _ (by omega))).trans (hg.block _ (by omega) (by simp)))).trans hx1
     case k5=>exact Nat.le_trans (show W0.heap.size≤wr.heap.size by omega) (Nat.le_trans hgrow3.size hg4.size)
 case done=>
  rintro D xs W hD rfl ⟨⟨v,hv,hrow⟩,hB,hWs,hx1⟩ hK
  have hcv:=hv.cell
  have hfv:=hv.frozen
  obtain ⟨T,hTe⟩:∃ T:List UInt8,T=(txt9 (downto zs len len)).map UInt8.ofNat:=⟨_,rfl⟩
  have hTl:T.length=(txt9 (downto zs len len)).length:=by rw[hTe,List.length_map]
  have hT9:T.length=9*len:=by rw[hTl,txt9_len,downto_length]
  have htb:T.map (fun b=>Value.int .u8 (b.toNat:Int))=(txt9 (downto zs len len)).map encby:=by
   rw[hTe,List.map_map]
   refine List.map_congr_left fun d hd=>?_
   have hd':d<256:=by
    unfold txt9 dig9 at hd
    obtain ⟨x,_,hx⟩:=List.mem_flatMap.1 hd
    obtain ⟨i,_,rfl⟩:=List.mem_map.1 hx
    omega
   show Value.int .u8 (((UInt8.ofNat d).toNat:Nat):Int)=Value.int .u8 d
   rw[show (UInt8.ofNat d).toNat=d by simp;omega]
  rw[← htb,← hTl] at hrow
  rcases hrow.2 with ⟨_,h0⟩ | ⟨g,cap2,cur,rfl,hbg,hgb,hr1,hr2,hr3,hr4⟩
  ·omega
  have hcells:∀ j (hj:j<T.length),W.cell? (Addr.add ⟨g,0,none⟩ j)=some (.int .u8 (T[j].toNat:Int)):=by
   intro j hj
   have e:Addr.add ⟨g,0,none⟩ j=⟨g,j,none⟩:=by unfold Addr.add;split<;>simp_all
   rw[e]
   simp only[World.cell?,hgb]
   have h5:(cur.toList.take (T.length*1))[j]?=some (.int .u8 (T[j].toNat:Int)):=by rw[hr4,List.getElem?_map,List.getElem?_eq_getElem hj];rfl
   rw[List.getElem?_take,if_pos (by omega)] at h5
   simpa using h5
  have hcvt:=run_convert_bytes_back (P:=Tryz.prog) W 276 9 5 ⟨g,0,none⟩ cap2 T und276 und5 und9 hcells
  have hTT:=hT T (by omega)
  have hm1:W.cell? ⟨w.heap.size,0,none⟩=some (.bool m):=by simp[World.cell?,hx1]
  have hlen2:=hreach
  clear hcells hgb hr1 hr2 hr3 hr4 htb hT hc hx1 hlen hreach hb hx0 hx3 hbx hB0 hW0
  have hTo:T=(txt9 (downto zs len len)).map UInt8.ofNat∨False:=.inl hTe
  have hsT:¬ 9223372036854775807<1+(ofL (trimB 48 T)).size:=by
   rw[ofL_size]
   have:=trimB_len 48 T
   omega
  clear hTe hTl hT9
  gi_wp2_with (rw[hcvt];dsimp only[Result.andThen,Oper.uponIn])
  refine (hTT _).mono ?_
  rintro e w' ⟨rfl,hBT⟩
  have hm2:=(hBT.cell (p:=⟨w.heap.size,0,none⟩) (by have:=hB.size;show w.heap.size<W.heap.size;omega)).trans hm1
  have hDW:D<W.heap.size:=(Array.getElem?_eq_some_iff.1 hK).1
  have hK':w'.heap[D]?=some (.deferred (some [])):=(hBT.block D hDW).trans hK
  have hBw:Below w.heap.size w (w'.putObj D (.deferred none)):=by
   have hsz2:(w'.putObj D (.deferred none)).heap.size=w'.heap.size:=by simp[World.putObj]
   have b1:Below w.heap.size w w':=hB.trans (hBT.mono (by omega))
   exact b1.trans ⟨rfl,rfl,rfl,by rw[hsz2];exact Nat.le_refl _,fun k hk=>World.putObj_heap_other (by omega)⟩
  clear hcvt hTT hcv hv hrow hfv hm1 hB hWs hK hBT
  gi_wp2
  ·rcases hTo with hTe | hf
   case inr=>exact hf.elim
   subst hTe
   refine ⟨by simp,.inl ⟨_,_,rfl,run_takeDeferred hK',?_⟩⟩
   exact ⟨_,results_tmp rfl _ _ _,rfl,hBw⟩
  ·exact absurd (by assumption:m=true) (by simp[*])
  ·rcases hTo with hTe | hf
   case inr=>exact hf.elim
   subst hTe
   refine ⟨by simp,.inl ⟨_,_,rfl,run_takeDeferred hK',?_⟩⟩
   exact ⟨_,results_tmp rfl _ _ _,rfl,hBw⟩
end Go.Proofs.YtlhdoekgipaihaaGreatDoor
namespace Go.Proofs.YtlhdoekgipaihaaGreatDoor
open Go Go.RowKit Go.Fw
attribute [local go_sem] Oper.semAt_some
theorem dig9_dl (v:Nat):dig9 v=dl v 9:=by
 simp[dig9,dl,List.range,List.range.loop]
theorem txt_dl (n len:Nat) (zs:Nat→Fin 1000000000) (hz:∀ j,j<len→(zs j).val=n/B9 ^ j%B9):∀ k,k≤len→txt9 (downto zs len k)++dl n (9*(len-k))=dl n (9*len)
 | 0,_=>rfl
 | k+1,hk=>by
   have ih:=txt_dl n len zs hz k (by omega)
   rw[← ih,downto_succ]
   have e:txt9 (downto zs len k++[(len-1-k,zs (len-1-k))])=txt9 (downto zs len k)++dig9 (zs (len-1-k)).val:=by unfold txt9;simp
   rw[e,List.append_assoc]
   congr 1
   rw[show 9*(len-k)=9+9*(len-(k+1)) by omega,dl_app,dig9_dl]
   congr 1
   refine dl_mod _ _ 9 ?_
   rw[hz _ (by omega),show len-(k+1)=len-1-k by omega,show (B9:Nat)=10 ^ 9 from rfl,← Nat.pow_mul,Nat.mod_mod]
theorem trim_cut0 {L:List Nat} (h:L.all isDg=true):trimB 48 (L.map UInt8.ofNat)=(cut0 L).map UInt8.ofNat:=by
 induction L with
 | nil=>rfl
 | cons c L ih=>
   rw[List.all_cons,Bool.and_eq_true] at h
   rw[List.map_cons,trimB_cons,ih h.2]
   have hc:=h.1
   unfold isDg at hc
   simp at hc
   rw[show cut0 (c::L)=if c=48 then cut0 L else c::L from rfl]
   by_cases e:c=48
   ·subst e;rfl
   ·rw[if_neg e,if_neg,List.map_cons]
    intro e2
    have:=congrArg UInt8.toNat e2
    simp at this
    omega
theorem words_text (n len:Nat) (hl:len=(dg B9 n).length) (hn:0<n) (zs:Nat→Fin 1000000000) (hz:∀ j (h:j<(dg B9 n).length),(zs j).val=(dg B9 n)[j]) :
  trimB 48 ((txt9 (downto zs len len)).map UInt8.ofNat)=(decT n).map UInt8.ofNat:=by
 have h1:=txt_dl n len zs (fun j hj=>by rw[hz j (by omega),dg_get hB9]) len (Nat.le_refl _)
 rw[Nat.sub_self,Nat.mul_zero,dl,List.append_nil] at h1
 have hlt:n<10 ^ (9*len):=by
  rw[hl,Nat.pow_mul]
  exact dg_lt hB9 n
 have hv:decB (dl n (9*len))=n:=by rw[dl_val,Nat.mod_eq_of_lt hlt]
 rw[h1,trim_cut0 (dl_dg _ _),cut0_decT (dl_dg _ _) (by rw[hv];exact hn),hv]
set_option maxHeartbeats 1000000 in
theorem Zero0_in (F:Fence) (n:Nat) (h6:F.fn 321) (hro:F.round=none) (m:Bool) (a:Option Addr) (cap:Nat) (w:World) :
  CallsIn F n Tryz.prog 321 #[.agg #[.bool m,.slice a 0 cap]] w fun e w'=>e=.returned (.bool true)∧w'=w.alloc (.cells #[.bool m,.slice a 0 cap] 122):=by
 refine callsIn_of_wp Tryz.func321 rfl h6 ?_ hro
 simp only[ntZ,List.size_toArray,List.length_cons,List.length_nil,Nat.reduceAdd,Nat.reduceSub,Array.replicate_succ,Array.replicate_zero,List.push_toArray,List.append_toArray,List.nil_append,List.cons_append]
 gi_wp2
 go_ret
 exact ⟨rfl,rfl⟩
set_option maxHeartbeats 1000000 in
theorem String0_in (F:Fence) (n:Nat) (hF:∀ f,F.fn f) (hro:F.round=none) (hn:5≤n) (m:Bool) (a:Option Addr) (cap:Nat) (w:World) :
  CallsIn F n Tryz.prog 267 #[.agg #[.bool m,.slice a 0 cap]] w fun e W'=>e=.returned (.string ⟨#[48]⟩)∧Below w.heap.size w W':=by
 have h1:1≤n:=by omega
 refine callsIn_of_wp_marks Tryz.func267 rfl (hF _) ?_ hro
 simp only[ntS,List.size_toArray,List.length_cons,List.length_nil,Nat.reduceAdd,Nat.reduceSub,Array.replicate_succ,Array.replicate_zero,List.push_toArray,List.append_toArray,List.nil_append,List.cons_append]
 gi_wp2_with (gi_at_call 321;refine (Zero0_in F (n-1) (hF _) hro m a cap _).mono ?_;rintro e w' ⟨rfl,rfl⟩)
 refine ⟨_,results_tmp rfl _ _ _,rfl,?_⟩
 exact ((Below.refl _ w).alloc (Nat.le_refl _) _).alloc (by simp) _
theorem ba_two {us:Array Value} (h:2=us.size):∃ a b,us=#[a,b]:=by
 obtain ⟨l⟩:=us
 match l,h with
 | [a,b],_=>exact ⟨a,b,rfl⟩
theorem ba_one {us:Array Value} (h:1=us.size):∃ a,us=#[a]:=by
 obtain ⟨l⟩:=us
 match l,h with
 | [a],_=>exact ⟨a,rfl⟩
def encT (l:List Nat):AV:=encS (ofL (l.map UInt8.ofNat))
def sT (z:Int):List Nat:=if z<0 then 45::decT z.natAbs else decT z.natAbs
set_option maxHeartbeats 1000000 in
theorem String_ok (z:Int) (hz:zl z<2^36):PureCall Tryz.prog 267 [encZ z] (encT (sT z)):=by
 intro O w vs hO hv
 obtain ⟨hs,h⟩:=hv
 obtain ⟨v,rfl⟩:=ba_one hs
 have hv0:VR KM.empty w O (encZ z) v:=h 0 (by simp) (by simp)
 clear h hs
 rw[encZ_mk] at hv0
 cases hv0 with
 | agg _ us hl hu hp=>
   obtain ⟨x,y,rfl⟩:=ba_two hl
   have hx:VR KM.empty w O (.val (.bool (decide (z<0)))) x:=hu 0 (by simp) (by simp)
   have hy:VR KM.empty w O (.sl 1 ((dg B9 z.natAbs).map encw)) y:=hu 1 (by simp) (by simp)
   clear hu hp hl
   cases hx with
   | val _ _ =>
     have fin:∀ (e:Ending) (w':World),e=.returned (.string (ofL ((sT z).map UInt8.ofNat)))∧Below w.heap.size w w'→∃ v,e=.returned v∧VR KM.empty w' O (encT (sT z)) v∧Below w.heap.size w w':=by
      rintro e w' ⟨rfl,hb⟩
      exact ⟨_,rfl,.val _ rfl,hb⟩
     refine callsIn_wide.1 (CallsIn.mono (n:=5) (R:=fun e w'=>e=.returned (.string (ofL ((sT z).map UInt8.ofNat)))∧Below w.heap.size w w') ?_ fin)
     unfold zl at hz
     have hg:=g9 (dg_dig hB9 z.natAbs)
     have hdn:=dg_nil hB9 z.natAbs
     have hwt:=words_text z.natAbs
     generalize hW:dg B9 z.natAbs=W at *
     by_cases h0:z=0
     ·have hW0:W=[]:=hdn.2 (by rw[h0];rfl)
      subst hW0
      have e0:ofL ((sT z).map UInt8.ofNat)=⟨#[48]⟩:=by rw[h0];rfl
      rw[e0]
      generalize hxs:([]:List Nat).map encw=xs at hy
      cases hy with
      | slnil=>exact String0_in Fence.wide 5 (fun _=>trivial) rfl (by omega) _ _ _ w
      | slemp _ a=>exact String0_in Fence.wide 5 (fun _=>trivial) rfl (by omega) _ _ _ w
      | sl _ _ c o cap f h1 h2 h3 h4 h5 h6 h7=>
        have:xs=[]:=hxs.symm
        subst this
        exact String0_in Fence.wide 5 (fun _=>trivial) rfl (by omega) _ _ _ w
     ·have hWn:W≠[]:=fun e=>h0 (by have:=hdn.1 e;omega)
      have hpos:0<W.length:=List.length_pos_iff.2 hWn
      generalize hxs:W.map encw=xs at hy
      have hln:xs.length=W.length:=by rw[← hxs,List.length_map]
      cases hy with
      | slnil=>simp at hln;omega
      | slemp _ a=>simp at hln;omega
      | sl _ _ c o cap f h1 h2 h3 h4 h5 h6 h7=>
        obtain ⟨A,e,zz,hA,_⟩:=h3
        have hc:=(Array.getElem?_eq_some_iff.1 hA).1
        have key:=String_in Fence.wide 5 (fun _=>trivial) rfl (by omega) (decide (z<0)) c o W.length cap (fun j=>if h:j<W.length then ⟨W[j],hg j h⟩ else ⟨0,by decide⟩) hpos (by omega) w hc
         (fun j hj=>by
           rw[dif_pos hj]
           have hjx:j<xs.length:=by omega
           have hx:xs[j]=encw W[j]:=by subst hxs;simp
           have h8:=h6 j hjx 0 (by rw[hx];exact Nat.zero_lt_one)
           have h9:=h5 j hjx 0 (by omega)
           simp only[hx,encw,AV.cells,List.getElem_cons_zero] at h8
           rw[Nat.mul_one,Nat.add_zero] at h9
           rw[h9]
           generalize f j 0=y at h8
           cases h8 with
           | val _ _=>rfl)
         (fun l hl w'=>callsIn_wide.2 (by
           have:=TrimLeft_ok l hl (fun _=>False) w' #[.string (ofL l),.string (b1 48)] (fun _ h=>h.elim) ⟨rfl,fun i h h'=>by
            rcases i with _ | _ | i
            ·exact .val _ rfl
            ·exact .val _ rfl
            ·simp at h;omega⟩
           refine this.mono ?_
           rintro e w'' ⟨v,rfl,hv,hb⟩
           cases hv with
           | val _ _=>exact ⟨rfl,hb⟩))
        rw[hln]
        refine key.mono ?_
        rintro e w' ⟨rfl,hb⟩
        refine ⟨?_,hb⟩
        rw[hwt W.length rfl (by omega) _ (fun j hj=>by rw[dif_pos hj])]
        unfold sT
        by_cases hneg:z<0
        ·rw[if_pos (decide_eq_true hneg),if_pos hneg]
         congr 2
        ·rw[if_neg (by simpa using hneg),if_neg hneg]
end Go.Proofs.YtlhdoekgipaihaaGreatDoor
namespace Go.Proofs.YtlhdoekgipaihaaGreatDoor
open Go Go.Fw
def nd (z:Int):Nat:=(decT z.natAbs).length
theorem encT_size (l:List Nat):(ofL (l.map UInt8.ofNat)).size=l.length:=by rw[ofL_size,List.length_map]
theorem Digits_ok (z:Int) (hz:zl z<2^36):PureCall Tryz.prog 234 [encZ z] (encI (nd z)):=by
 refine PC [] Tryz.func234 rfl (by rfl) rfl ?_
 refine kW ?_
 (refine kS ?_;repeat intro γ)
 refine CallP.pure [] _ c319 (Abs_ok z) ?_
 refine kW ?_
 (refine kS ?_;repeat intro γ)
 refine CallP.flat [] _ c267 (String_ok (z.natAbs:Int) (by unfold zl at *;rw[Int.natAbs_natCast];exact hz)) rfl ?_
 refine kW ?_
 (refine kS ?_;repeat intro γ)
 refine .of ?_
 show AV.val (.int .i64 _)=AV.val (.int .i64 _)
 rw[encT_size]
 unfold sT nd
 rw[if_neg (by omega),Int.natAbs_natCast]
end Go.Proofs.YtlhdoekgipaihaaGreatDoor
namespace Go.Proofs.YtlhdoekgipaihaaGreatDoor
open Go Go.Fw
def encQ (n d:Int):AV:=.agg [encB (decide (n<0)),encW n.natAbs,encB (decide (d<0)),encW d.natAbs]
def nilQ:AV:=.agg [encB false,.val (.slice none 0 0),encB false,.val (.slice none 0 0)]
theorem NumQ_ok (n d:Int):PureCall Tryz.prog 395 [encQ n d] (encZ n):=by
 refine PC [] Tryz.func395 rfl (by rfl) rfl ?_
 unfold encQ
 refine kW ?_
 (refine kS ?_;repeat intro γ)
 exact .of rfl
theorem DenQ_ok (n d:Int):PureCall Tryz.prog 396 [encQ n d] (encZ d):=by
 refine PC [] Tryz.func396 rfl (by rfl) rfl ?_
 unfold encQ
 refine kW ?_
 (refine kS ?_;repeat intro γ)
 exact .of rfl
theorem SignQ_ok (n d:Int):PureCall Tryz.prog 160 [encQ n d] (encI (sgn n)):=by
 refine PC [] Tryz.func160 rfl (by rfl) rfl ?_
 unfold encQ
 refine kW ?_
 (refine kS ?_;repeat intro γ)
 refine CallP.flat [] _ c266 (Sign_ok n) rfl ?_
 refine kW ?_
 (refine kS ?_;repeat intro γ)
 exact .of rfl
theorem IntegerQ_ok (n d:Int):PureCall Tryz.prog 338 [encQ n d] (encB (decide (d=1))):=by
 refine PC [] Tryz.func338 rfl (by rfl) rfl ?_
 unfold encQ
 refine kW ?_
 (refine kS ?_;repeat intro γ)
 refine CallP.flat [] _ c175 (One_ok d) rfl ?_
 refine kW ?_
 (refine kS ?_;repeat intro γ)
 exact .of rfl
def qT (n d:Int):List Nat:=if d=1 then sT n else sT n++47::sT d
theorem encT_app (a b:List Nat):ofL (a.map UInt8.ofNat)++ofL (b.map UInt8.ofNat)=ofL ((a++b).map UInt8.ofNat):=by
 apply ByteArray.ext
 rw[ByteArray.data_append]
 apply Array.ext'
 simp[ofL]
theorem nd_le (z:Int):nd z≤9*zl z+1:=by
 unfold nd zl decT
 split
 ·simp
 ·rw[List.length_map,List.length_reverse]
  have:=dg_lt hB9 z.natAbs
  rw[show (B9:Nat)=10 ^ 9 from rfl,← Nat.pow_mul] at this
  have:=dg_len_le (b:=10) (by omega) this
  exact Nat.le_succ_of_le this
theorem sT_le (z:Int):(sT z).length≤9*zl z+2:=by
 have:=nd_le z
 unfold sT nd at *
 split<;>simp<;>omega
theorem StringQ_ok (n d:Int) (hn:zl n<2^36) (hd:zl d<2^36):PureCall Tryz.prog 162 [encQ n d] (encT (qT n d)):=by
 refine PC [] Tryz.func162 rfl (by rfl) rfl ?_
 have s1:=encT_size (sT n)
 have s2:=encT_size (sT d)
 have s3:=sT_le n
 have s4:=sT_le d
 have s5:(⟨#[47]⟩:ByteArray).size=1:=rfl
 unfold encQ qT
 refine kW ?_
 (refine kS ?_;repeat intro γ)
 refine CallP.flat [] _ c175 (One_ok d) rfl ?_
 refine kW ?_
 (refine kS ?_;repeat intro γ)
 refine CondP.dec (fun h=>?_) (fun h=>?_)<;>refine kW ?_
 ·rw[if_pos h]
  (refine kS ?_;repeat intro γ)
  refine CallP.flat [] _ c267 (String_ok n hn) rfl ?_
  refine kW ?_
  (refine kS ?_;repeat intro γ)
  exact .of rfl
 ·rw[if_neg h]
  (refine kS ?_;repeat intro γ)
  refine CallG.intro _ c267 (String_ok n hn) ?_
  refine kW ?_
  (refine kS ?_;repeat intro γ)
  refine CallG.intro _ c267 (String_ok d hd) ?_
  refine kW ?_
  (refine kS ?_;repeat intro γ)
  rw[ByteArray.size_append]
  (refine kS ?_;repeat intro γ)
  refine .of ?_
  have e:(⟨#[47]⟩:ByteArray)=ofL (List.map UInt8.ofNat [47]):=rfl
  show encS _=encS _
  rw[e,encT_app,encT_app,List.append_assoc];rfl
theorem ShortQ_ok (n d:Int) (hn:zl n<2^36) (hd:zl d<2^36):PureCall Tryz.prog 163 [encQ n d] (encB (decide (nd n≤300)&&decide (nd d≤300))):=by
 refine PC [] Tryz.func163 rfl (by rfl) rfl ?_
 unfold encQ
 refine kW ?_
 (refine kS ?_;repeat intro γ)
 refine CallP.flat [] _ c234 (Digits_ok n hn) rfl ?_
 refine kW ?_
 (refine kS ?_;repeat intro γ)
 refine CondP.dec (fun h=>?_) (fun h=>?_)<;>refine kW ?_
 ·rw[decide_eq_true (show nd n≤300 by omega),Bool.true_and]
  (refine kS ?_;repeat intro γ)
  refine CallP.flat [] _ c234 (Digits_ok d hd) rfl ?_
  refine kW ?_
  (refine kS ?_;repeat intro γ)
  refine .of ?_
  show AV.val (.bool (decide _))=AV.val (.bool (decide _))
  congr 2
  exact decide_eq_decide.2 (by omega)
 ·rw[decide_eq_false (show ¬ nd n≤300 by omega),Bool.false_and]
  (refine kS ?_;repeat intro γ)
  exact .of rfl
def pairB:List UInt8→List UInt8×List UInt8×Bool
 | []=>([],[],false)
 | c::l=>if c=47 then ([],l,true) else ((c::(pairB l).1),(pairB l).2.1,(pairB l).2.2)
def parseQ (l:List UInt8):Option (Int×Int)×Bool:=
 match parseW (pairB l).1 with
 | none=>(none,false)
 | some n=>match (pairB l).2.2 with
   | false=>(some (n,1),decide (nd n≤300))
   | true=>match parseW (pairB l).2.1 with
     | none=>(none,false)
     | some d=>if d≤1 then (none,false) else (some (n,d),decide (nd n≤300)&&decide (nd d≤300)&&decide (n.natAbs.gcd d.natAbs=1))
def resQ (p:Option (Int×Int)×Bool):AV:=.tup [match p.1 with | some (n,d)=>encQ n d | none=>nilQ,encB p.2]
theorem idxB_cons (x:UInt8) (l:List UInt8) (c:UInt8):idxB (ofL (x::l)) c=if x=c then 0 else if idxB (ofL l) c<0 then -1 else idxB (ofL l) c+1:=by
 have hsz:(ofL (x::l)).size=l.length+1:=rfl
 have hp:((fun i=>(ofL (x::l))[i]! == c)∘Nat.succ)=fun i=>(ofL l)[i]! == c:=by
  funext i
  show ((ofL (x::l))[i+1]! == c)=((ofL l)[i]! == c)
  congr 1
  by_cases h:i<l.length
  ·rw[getElem!_pos (ofL (x::l)) (i+1) (by rw[hsz];omega),getElem!_pos (ofL l) i h];rfl
  ·rw[getElem!_neg (ofL (x::l)) (i+1) (by rw[hsz];omega),getElem!_neg (ofL l) i h]
 have h0:((ofL (x::l))[0]! == c)=(x==c):=by rw[getElem!_pos (ofL (x::l)) 0 (by rw[hsz];omega)];rfl
 unfold idxB
 rw[hsz,List.range_succ_eq_map,List.find?_cons,h0]
 by_cases hx:x=c
 ·subst hx;simp
 ·rw[if_neg hx,show (x==c)=false by simpa using hx]
  simp only[List.find?_map,hp]
  rw[show (ofL l).size=l.length from rfl]
  cases (List.range l.length).find? fun i=>(ofL l)[i]! == c with
  | none=>rfl
  | some i=>
    show ((i+1:Nat):Int)=if (i:Int)<0 then -1 else (i:Int)+1
    rw[if_neg (by omega)];omega
theorem pair_idx (l:List UInt8):(0≤idxB (ofL l) 47↔(pairB l).2.2=true)∧(0≤idxB (ofL l) 47→l.take (idxB (ofL l) 47).toNat=(pairB l).1∧l.drop ((idxB (ofL l) 47).toNat+1)=(pairB l).2.1)∧(idxB (ofL l) 47<0→pairB l=(l,[],false)):=by
 induction l with
 | nil=>exact ⟨by decide,by decide,fun _=>rfl⟩
 | cons x l ih=>
   rw[idxB_cons]
   unfold pairB
   by_cases hx:x=47
   ·rw[if_pos hx,if_pos hx];simp
   ·rw[if_neg hx,if_neg hx]
    obtain ⟨h1,h2,h3⟩:=ih
    by_cases hi:idxB (ofL l) 47<0
    ·rw[if_pos hi]
     have h4:=h3 hi
     rw[h4]
     simp
    ·rw[if_neg hi]
     have h4:=h2 (by omega)
     have h5:=h1.1 (by omega)
     refine ⟨⟨fun _=>h5,fun _=>by omega⟩,fun _=>?_,fun h=>by omega⟩
     rw[show (idxB (ofL l) 47+1).toNat=(idxB (ofL l) 47).toNat+1 by omega]
     exact ⟨by rw[List.take_succ_cons,h4.1],by rw[List.drop_succ_cons,h4.2]⟩
theorem cut47 (l:List UInt8):cutB (ofL l) 47=(ofL (pairB l).1,ofL (pairB l).2.1,(pairB l).2.2):=by
 obtain ⟨h1,h2,h3⟩:=pair_idx l
 unfold cutB
 by_cases hi:0≤idxB (ofL l) 47
 ·rw[if_pos hi,ofL_extract,ofL_extract,(h1.1 hi),List.drop_zero,(h2 hi).1,ofL_size,List.take_length,(h2 hi).2]
 ·rw[if_neg hi,h3 (by omega)];rfl
theorem pair_len (l:List UInt8):(pairB l).1.length≤l.length∧(pairB l).2.1.length≤l.length:=by
 induction l with
 | nil=>simp[pairB]
 | cons c l ih=>
   unfold pairB
   split<;>simp<;>omega
theorem parseW_zl {l:List UInt8} {z:Int} (h:parseW l=some z):zl z≤l.length:=by
 obtain ⟨t,m,_,hp,ht⟩:=cut45 l
 rw[hp] at h
 split at h
 ·rename_i hok
  have hz:z.natAbs=decU t:=by cases h;split<;>omega
  unfold zl
  rw[hz]
  refine Nat.le_trans (dg_len_le hB9 (k:=t.length) ?_) ht
  have:=decU_lt t (by
   intro i hi
   unfold okW at hok
   simp only[Bool.and_eq_true] at hok
   have:=List.all_eq_true.1 hok.2 _ (List.getElem_mem hi)
   unfold isD at this
   simp at this
   exact this)
  exact Nat.lt_of_lt_of_le this (Nat.pow_le_pow_left (by decide) _)
 ·cases h
theorem zl1:zl 1<2^39:=by unfold zl;rw[show (1:Int).natAbs=1 from rfl,dg_one hB9 (by omega) (by unfold B9;omega)];decide
set_option maxHeartbeats 2000000 in
theorem ParseQ_ok (l:List UInt8) (hl:l.length<2^35):PureCall Tryz.prog 113 [encS (ofL l)] (resQ (parseQ l)):=by
 refine PC [] Tryz.func113 rfl (by rfl) rfl ?_
 obtain ⟨hp1,hp2⟩:=pair_len l
 have hcut:=Cut_ok (ofL l) 47 (by rw[ofL_size];omega)
 rw[cut47] at hcut
 generalize hF:parseQ l=F
 unfold parseQ at hF
 generalize (pairB l).1=top at *
 generalize (pairB l).2.1=low at *
 generalize (pairB l).2.2=ok at *
 refine kW ?_
 (refine kS ?_;repeat intro γ)
 refine CallP.pure [] _ c231 hcut ?_
 refine kW ?_
 (refine kS ?_;repeat intro γ)
 refine CallP.pure [] _ c232 (ParseW_ok top (by omega)) ?_
 cases hn:parseW top with
 | none=>
   rw[hn] at hF
   subst hF
   refine kW ?_
   (refine kS ?_;repeat intro γ)
   exact .of rfl
 | some n=>
   rw[hn] at hF
   have zn:=parseW_zl hn
   refine kW ?_
   (refine kS ?_;repeat intro γ)
   cases ok with
   | false=>
     subst hF
     (refine kS ?_;repeat intro γ)
     refine CallG.intro _ c233 Of1_ok ?_
     refine kW ?_
     (refine kS ?_;repeat intro γ)
     refine CallG.intro _ c234 (Digits_ok n (by omega)) ?_
     refine kW ?_
     (refine kS ?_;repeat intro γ)
     refine .of ?_
     show AV.tup [encQ n 1,.val (.bool (decide _))]=.tup [encQ n 1,.val (.bool (decide _))]
     rw[show decide ((nd n:Int)≤300)=decide (nd n≤300) from decide_eq_decide.2 (by omega)]
   | true=>
     (refine kS ?_;repeat intro γ)
     refine CallP.pure [] _ c232 (ParseW_ok low (by omega)) ?_
     cases hd:parseW low with
     | none=>
       rw[hd] at hF
       subst hF
       refine kW ?_
       (refine kS ?_;repeat intro γ)
       exact .of rfl
     | some d=>
       rw[hd] at hF
       have zd:=parseW_zl hd
       refine kW ?_
       (refine kS ?_;repeat intro γ)
       refine CallG.intro _ c233 Of1_ok ?_
       refine kW ?_
       (refine kS ?_;repeat intro γ)
       refine CallG.intro _ c235 (Cmp_ok d 1 (by omega) zl1) ?_
       refine kW ?_
       (refine kS ?_;repeat intro γ)
       have hs:sgn (d-1)≤0↔d≤1:=by unfold sgn;split<;>(try split)<;>omega
       refine CondP.dec (fun h=>?_) (fun h=>?_)<;>refine kW ?_
       ·simp only[if_pos (hs.1 h)] at hF
        subst hF
        (refine kS ?_;repeat intro γ)
        exact .of rfl
       ·have hd1:¬ d≤1:=fun h'=>h (hs.2 h')
        simp only[if_neg hd1] at hF
        subst hF
        refine kX ?_
        (refine kZ ?_;repeat intro γ)
        refine cpA_seqW (W.of (l:=[(2,.op 2 _ 0 0),(3,encB false),(7,.op 7 _ 0 0),(9,.op 9 _ 0 0),(10,.op 10 _ 0 0)]) (m:=[(2,_,⟨124,4,[nilQ]⟩),(7,_,⟨122,2,[encZ n]⟩),(9,_,⟨122,2,[encZ d]⟩),(10,_,⟨124,4,[encQ n d]⟩)]) ?_ ⟨rfl,rfl,rfl,rfl,rfl,trivial⟩ ⟨rfl,rfl,rfl,rfl,trivial⟩)
        refine kW ?_
        (refine kS ?_;repeat intro γ)
        refine CallG.intro _ c163 (ShortQ_ok n d (by omega) (by omega)) ?_
        refine kW ?_
        (refine kS ?_;repeat intro γ)
        refine CondP.intro (fun h1=>?_) (fun h1=>?_)<;>refine kW ?_
        ·rw[h1,Bool.true_and]
         (refine kS ?_;repeat intro γ)
         refine CallG.intro _ c236 (Gcd_ok n d (by omega) (by omega)) ?_
         refine kW ?_
         (refine kS ?_;repeat intro γ)
         refine CallG.intro _ c175 (One_ok _) ?_
         refine kW ?_
         (refine kS ?_;repeat intro γ)
         refine .of ?_
         show AV.tup [encQ n d,.val (.bool (decide _))]=.tup [encQ n d,.val (.bool (decide _))]
         rw[show decide (((n.natAbs.gcd d.natAbs:Nat):Int)=1)=decide (n.natAbs.gcd d.natAbs=1) from decide_eq_decide.2 (by omega)]
        ·rw[h1,Bool.false_and]
         (refine kS ?_;repeat intro γ)
         exact .of rfl
end Go.Proofs.YtlhdoekgipaihaaGreatDoor
namespace Go.Proofs.YtlhdoekgipaihaaGreatDoor
open Go Go.Fw
theorem pairB_spec (l:List UInt8):(pairB l).1.length≤l.length∧(pairB l).1=l.take (pairB l).1.length∧(∀ j (h:j<l.length),j<(pairB l).1.length→l[j]≠47) ∧
  (∀ h:(pairB l).1.length<l.length,(pairB l).2.2=true∧(pairB l).2.1=l.drop ((pairB l).1.length+1)∧l[(pairB l).1.length]=47)∧(l.length≤(pairB l).1.length→(pairB l).2.2=false):=by
 induction l with
 | nil=>exact ⟨by decide,rfl,fun j h=>absurd h (by simp),fun h=>absurd h (by simp),fun _=>rfl⟩
 | cons c l ih=>
   by_cases hc:c=47
   ·have e:pairB (c::l)=([],l,true):=by unfold pairB;rw[if_pos hc]
    rw[e]
    exact ⟨by simp,rfl,fun j h h'=>absurd h' (by simp),fun h=>⟨rfl,rfl,by simpa using hc⟩,fun h=>by simp at h⟩
   ·have e:pairB (c::l)=(c::(pairB l).1,(pairB l).2.1,(pairB l).2.2):=by rw[pairB,if_neg hc]
    obtain ⟨h1,h2,h3,h4,h5⟩:=ih
    rw[e]
    simp only[List.length_cons,List.take_succ_cons]
    refine ⟨by omega,by rw[← h2],fun j h h'=>?_,fun h=>?_,fun h=>h5 (by omega)⟩
    ·cases j with
     | zero=>exact hc
     | succ j=>exact h3 j (by omega) (by omega)
    ·obtain ⟨a,b,d⟩:=h4 (by omega)
     exact ⟨a,by rw[b,List.drop_succ_cons],d⟩
def encR (n:Int) (d:Nat):AV:=.agg [encB (decide (n<0)),encN n.natAbs,encN d]
def readB (m:Bool) (t:List UInt8):Option (Int×Nat):=
 if digB (pairB t).1=false then none
 else if (pairB t).2.2=true then
  if digB (pairB t).2.1=false then none
  else if decU (pairB t).2.1≤1∨Nat.gcd (decU (pairB t).1) (decU (pairB t).2.1)≠1 then none
  else if m=true∧decU (pairB t).1=0 then none
  else some (if m then -(decU (pairB t).1:Int) else decU (pairB t).1,decU (pairB t).2.1)
 else if m=true∧decU (pairB t).1=0 then none
 else some (if m then -(decU (pairB t).1:Int) else decU (pairB t).1,1)
def readR (l:List UInt8):Option (Int×Nat):=match l with
 | 45::t=>readB true t
 | t=>readB false t
def nilR:AV:=.agg [encB false,.val (.slice none 0 0),.val (.slice none 0 0)]
def encRd:Option (Int×Nat)→AV
 | some (n,d)=>encR n d
 | none=>encR 0 0
theorem le_nilR:Le nilR (encR 0 0):=by
 have h:=Le.cons (Le.refl (encB false)) (Le.cons (Le.nil 1) (Le.cons (Le.nil 1) Le.nils))
 have e:encR 0 0=.agg [encB false,.sl 1 [],.sl 1 []]:=by
  unfold encR encN
  rw[show (0:Int).natAbs=0 from rfl,dg_zero];rfl
 rw[e]
 exact Le.agg h.1 h.2
theorem ends_noR:Fw.Ends (.tup [nilR,encB false]) (.tup [encRd none,encB (none:Option (Int×Nat)).isSome]):=ends_tup2 le_nilR (Le.refl _)
theorem read_head (l:List UInt8):∃ t m,readR l=readB m t∧t.length≤l.length∧((m=true∧l=45::t)∨(m=false∧t=l∧∀ c r,l=c::r→c≠45)):=by
 unfold readR
 split
 ·rename_i t
  exact ⟨t,true,rfl,by simp,.inl ⟨rfl,rfl⟩⟩
 ·rename_i h
  exact ⟨l,false,rfl,Nat.le_refl _,.inr ⟨rfl,rfl,fun c r e e2=>h r (by rw[e,e2])⟩⟩
theorem encR_mk (m:Bool) (n d:Nat) (h:¬ (m=true∧n=0)):AV.agg [encB m,encN n,encN d]=encR (if m then -(n:Int) else n) d:=by
 unfold encR
 cases m with
 | true=>
   have:n≠0:=fun e=>h ⟨rfl,e⟩
   rw[if_pos rfl,Int.natAbs_neg,Int.natAbs_natCast,decide_eq_true (by omega)]
 | false=>rw[if_neg (by decide),Int.natAbs_natCast,decide_eq_false (by omega)]
theorem digB_small (l:List UInt8):digB l=true→isDs l=true∧(dg B4 (decU l)).length≤75:=by
 intro h
 unfold digB at h
 simp only[Bool.and_eq_true,decide_eq_true_eq] at h
 refine ⟨h.2,dg_len_le hB4 ?_⟩
 have hlt:=decU_lt l (fun i hi=>by
  have:=List.all_eq_true.1 h.2 _ (List.getElem_mem hi)
  exact (isD_iff _).1 this)
 refine Nat.lt_of_lt_of_le hlt ?_
 rw[show (B4:Nat)=10 ^ 4 from rfl,← Nat.pow_mul]
 exact Nat.pow_le_pow_right (by omega) (by omega)
set_option maxHeartbeats 1000000 in
theorem Read_ok (l : List UInt8) (hl:l.length<2^35):PureCall Tryz.prog 204 [encS (ofL l)] (.tup [encRd (readR l),encB (readR l).isSome]):=by
 refine PC [] Tryz.func204 rfl (by rfl) rfl ?_
 obtain ⟨t,m,hr,htl,hm⟩:=read_head l
 rw[hr]
 clear hr
 obtain ⟨p1,p2,p3,p4,p5⟩:=pairB_spec t
 generalize hF:readB m t=F
 unfold readB at hF
 have hsz:=ofL_size l
 have hstart:(m=true∧0<l.length∧byteAt (ofL l) 0=45∧(ofL l).extract 1 (ofL l).size=ofL t)∨(m=false∧t=l∧(l.length=0∨0<l.length∧byteAt (ofL l) 0≠45)):=by
  rcases hm with ⟨h1,h2⟩ | ⟨h1,h2,h3⟩
  ·refine .inl ⟨h1,by rw[h2];simp,by rw[h2,byte_ofL _ 0 (by simp)];rfl,?_⟩
   rw[h2,ofL_extract,ofL_size,List.take_length];rfl
  ·refine .inr ⟨h1,h2,?_⟩
   cases l with
   | nil=>exact .inl rfl
   | cons c r=>
     refine .inr ⟨by simp,?_⟩
     rw[byte_ofL _ 0 (by simp)]
     have:=h3 c r rfl
     intro e
     apply this
     apply UInt8.toNat.inj
     have e2:((c.toNat:Nat):Int)=45:=e
     rw[show (45:UInt8).toNat=45 from rfl];omega
 clear hm
 obtain ⟨p,hpl⟩:∃ p,(pairB t).1.length=p:=⟨_,rfl⟩
 rw[hpl] at p1 p2 p3 p4 p5
 have hx0:(ofL t).extract 0 p=ofL (pairB t).1:=by rw[ofL_extract,List.drop_zero,← p2]
 have hx1:p<t.length→(ofL t).extract (p+1) (ofL t).size=ofL (pairB t).2.1:=fun h=>by rw[(p4 h).2.1,ofL_extract,ofL_size,List.take_length]
 have p6:∀ h:p<t.length,(pairB t).2.2=true∧byteAt (ofL t) p=47∧(pairB t).2.1.length≤t.length:=fun h=>by
  obtain ⟨a,b,c⟩:=p4 h
  refine ⟨a,by rw[byte_ofL _ _ h,c];rfl,by rw[b];simp⟩
 have p7:∀ j,j<p→¬ byteAt (ofL t) j=47:=fun j h e=>p3 j (by omega) h (by
  rw[byte_ofL _ _ (by omega)] at e
  apply UInt8.toNat.inj
  rw[show (47:UInt8).toNat=47 from rfl];omega)
 have hst:=ofL_size t
 have ll:=digits_ok (pairB t).1 (by omega)
 have lr:=fun h=>readNat_ok (pairB t).1 h (by omega)
 have kl:=fun h=>digits_ok (pairB t).2.1 (by have:=(p6 h).2.2;omega)
 have kr:=fun h h'=>readNat_ok (pairB t).2.1 h' (by have:=(p6 h).2.2;omega)
 have sl:=digB_small (pairB t).1
 have sr:=digB_small (pairB t).2.1
 clear p2 p3 p4
 generalize (pairB t).1=top at *
 generalize (pairB t).2.1=low at *
 generalize (pairB t).2.2=ok at *
 rcases hstart with ⟨hm,h0,hb,hx⟩ | ⟨hm,ht,h0⟩
 case' inl=>
  refine kW ?_
  (refine kO ?_;repeat intro γ)
  rw[show byteAt (ofL l) (Int.toNat 0)=45 from hb]
  (refine kO ?_;repeat intro γ)
 case' inr=>rcases h0 with h0 | ⟨h0,hb⟩
 case' inr.inl=>
  refine kW ?_
  (refine kO ?_;repeat intro γ)
 case' inr.inr=>
  refine kW ?_
  (refine kO ?_;repeat intro γ)
  refine CondP.neg (by exact hb) ?_
  refine kW ?_
  (refine kO ?_;repeat intro γ)
 all_goals
  refine LoopP.intro (fun k σ H=>∃ g i,i≤p∧k=p-i∧σ=fr [(0,encS (ofL t)),(2,.op 2 g 0 0),(4,encB m),(5,encI i)]∧H=hp [(2,g,⟨140,3,[nilR]⟩)]) ?_ ?_
  ·refine .intro <| W.of ⟨_,_,0,Nat.zero_le _,rfl,rfl,rfl⟩ ⟨?_,rfl,?_,rfl,trivial⟩ ⟨rfl,trivial⟩
   ·first
     | exact congrArg encS hx
     | (rw[ht];rfl)
   ·rw[hm]
    first
     | rfl
     | exact congrArg encB (decide_eq_false hb)
  ·clear hsz hm
   try clear h0
   try clear hb
   try clear hx
   rintro k σ H ⟨g,i,hi,rfl,rfl,rfl⟩
   rcases Nat.lt_or_ge i p with h1 | h1
   ·have h47:=p7 i h1
    refine kW ?_
    (refine kO ?_;repeat intro γ)
    simp only[Int.toNat_natCast]
    (refine kO ?_;repeat intro γ)
    exact .intro <| W.of ⟨_,by omega,_,i+1,by omega,rfl,rfl,rfl⟩ ⟨rfl,rfl,rfl,rfl,trivial⟩ ⟨rfl,trivial⟩
   obtain rfl:i=p:=by omega
   have one:PureCall Tryz.prog 247 [.val (.int .u64 1)] (encN 1):=natOf_ok 1 (by decide)
   rcases Nat.lt_or_ge i t.length with h2 | h2
   case' inl=>
    obtain ⟨q1,q2,q3⟩:=p6 h2
    refine kW ?_
    (refine kO ?_;repeat intro γ)
    simp only[Int.toNat_natCast]
    (refine kO ?_;repeat intro γ)
   case' inr=>
    have q1:=p5 h2
    refine kW ?_
    (refine kO ?_;repeat intro γ)
   all_goals
    simp only[Int.toNat_natCast,hx0]
    cases hd:digB top with
    | false=>
      rw[hd] at ll
      rw[hd,if_pos rfl] at hF
      subst hF
      refine CallP.flat [] _ c303 ll rfl ?_
      refine kW ?_
      (refine kO ?_;repeat intro γ)
      exact ends_noR
    | true =>
      obtain ⟨hds,hn75⟩:=sl hd
      have lr':=lr hds
      rw[hd] at ll
      rw[hd,if_neg (by decide)] at hF
      clear lr sl hd hds
      generalize decU top=n at *
      refine CallP.flat [] _ c303 ll rfl ?_
      refine kW ?_
      (refine kO ?_;repeat intro γ)
      simp only[Int.toNat_natCast,hx0]
      refine CallP.pure [] _ c304 lr' ?_
      refine kW ?_
      (refine kO ?_;repeat intro γ)
      refine CallP.pure [] _ c247 one ?_
      refine kW ?_
      (refine kO ?_;repeat intro γ)
      have hn0:(dg B4 n).length=0↔n=0:=List.length_eq_zero_iff.trans (dg_nil hB4 n)
      first
       | (rw[if_neg (by rw[q1];decide)] at hF
          by_cases hz:m=true∧n=0
          ·rw[if_pos hz] at hF
           obtain ⟨rfl,hz2⟩:=hz
           have hz3:=hn0.2 hz2
           subst hF
           (refine kQ ?_;repeat intro γ)
           exact ends_noR
          ·rw[if_neg hz] at hF
           subst hF
           have hend:=encR_mk m n 1 hz
           cases m with
           | false=>
             (refine kQ ?_;repeat intro γ)
             exact .of (congrArg (fun z=>AV.tup [z,encB true]) hend)
           | true=>
             have hz3:¬ (dg B4 n).length=0:=fun h=>hz ⟨rfl,hn0.1 h⟩
             (refine kQ ?_;repeat intro γ)
             exact .of (congrArg (fun z=>AV.tup [z,encB true]) hend))
       | (have hx2:=hx1 h2
          have kl':=kl h2
          have kr':=kr h2
          have e1:((i:Int)+1).toNat=i+1:=by omega
          rw[if_pos q1] at hF
          (refine kO ?_;repeat intro γ)
          simp only[e1,hx2]
          cases hd:digB low with
          | false=>
            rw[hd] at kl'
            rw[hd,if_pos rfl] at hF
            subst hF
            refine CallP.flat [] _ c303 kl' rfl ?_
            refine kW ?_
            (refine kO ?_;repeat intro γ)
            exact ends_noR
          | true=>
            obtain ⟨hds,hd75⟩:=sr hd
            have kr2:=kr' hds
            rw[hd] at kl'
            rw[hd,if_neg (by decide)] at hF
            clear kr kr' sr hd hds
            generalize decU low=d at *
            have one75:(dg B4 1).length≤75:=dg_len_le hB4 (by decide)
            have hc:=cmpNat_ok d 1 (by omega) (by omega)
            have hc1:=(cmpN_neg d 1).2.2.2
            generalize cmpN d 1=c1 at hc hc1
            refine CallP.flat [] _ c303 kl' rfl ?_
            refine kW ?_
            (refine kO ?_;repeat intro γ)
            simp only[e1,hx2]
            refine CallP.pure [] _ c304 kr2 ?_
            refine kW ?_
            (refine kO ?_;repeat intro γ)
            refine CallP.pure [] _ c247 one ?_
            refine kW ?_
            (refine kO ?_;repeat intro γ)
            refine CallP.flat [] _ c269 hc rfl ?_
            refine kW ?_
            by_cases h3:d≤1
            ·rw[if_pos (.inl h3)] at hF
             subst hF
             have h4:=hc1.2 h3
             (refine kO ?_;repeat intro γ)
             exact ends_noR
            have h4:¬ c1≤0:=fun h=>h3 (hc1.1 h)
            have hg:=gcdNat_ok n d (by omega) (by omega)
            have hg75:(dg B4 (n.gcd d)).length≤75:=Nat.le_trans (dg_mono hB4 (Nat.gcd_le_right n (by omega))) hd75
            have hcg:=cmpNat_ok (n.gcd d) 1 (by omega) (by omega)
            have hcg1:=(cmpN_neg (n.gcd d) 1).2.2.1
            generalize cmpN (n.gcd d) 1=c2 at hcg hcg1
            (refine kO ?_;repeat intro γ)
            refine CallP.pure [] _ c305 hg ?_
            refine kW ?_
            (refine kO ?_;repeat intro γ)
            refine CallP.pure [] _ c247 one ?_
            refine kW ?_
            (refine kO ?_;repeat intro γ)
            refine CallP.flat [] _ c269 hcg rfl ?_
            refine kW ?_
            by_cases h5:n.gcd d=1
            case neg=>
             rw[if_pos (.inr h5)] at hF
             subst hF
             have h6:¬ c2=0:=fun h=>h5 (hcg1.1 h)
             (refine kO ?_;repeat intro γ)
             exact ends_noR
            have h6:=hcg1.2 h5
            rw[if_neg (by rintro (h | h);exact h3 h;exact h h5)] at hF
            (refine kO ?_;repeat intro γ)
            skip
            by_cases hz:m=true∧n=0
            ·rw[if_pos hz] at hF
             obtain ⟨rfl,hz2⟩:=hz
             have hz3:=hn0.2 hz2
             subst hF
             (refine kQ ?_;repeat intro γ)
             exact ends_noR
            ·rw[if_neg hz] at hF
             subst hF
             have hend:=encR_mk m n d hz
             cases m with
             | false=>
               (refine kQ ?_;repeat intro γ)
               exact .of (congrArg (fun z=>AV.tup [z,encB true]) hend)
             | true=>
               have hz3:¬ (dg B4 n).length=0:=fun h=>hz ⟨rfl,hn0.1 h⟩
               (refine kQ ?_;repeat intro γ)
               exact .of (congrArg (fun z=>AV.tup [z,encB true]) hend))
end Go.Proofs.YtlhdoekgipaihaaGreatDoor
namespace Go.Proofs.YtlhdoekgipaihaaGreatDoor
open Go Go.Fw
def l4 (n:Nat):Nat:=(dg B4 n).length
theorem l4_zero (n:Nat):l4 n=0↔n=0:=List.length_eq_zero_iff.trans (dg_nil hB4 n)
theorem SignR_ok (n:Int) (d:Nat):PureCall Tryz.prog 259 [encR n d] (encI (sgn n)):=by
 refine PC [] Tryz.func259 rfl (by rfl) rfl ?_
 have h0:=l4_zero n.natAbs
 unfold l4 at h0
 unfold sgn encR
 by_cases h2:n=0
 ·have h3:=h0.2 (by omega)
  rw[if_pos h2]
  unfold encN
  refine kW ?_
  (refine kQ ?_;repeat intro γ)
  exact .of rfl
 ·have h3:¬ (dg B4 n.natAbs).length=0:=fun h=>by have:=h0.1 h;omega
  rw[if_neg h2]
  unfold encN
  by_cases h1:n<0
  ·rw[if_pos h1,decide_eq_true h1]
   refine kW ?_
   (refine kQ ?_;repeat intro γ)
   exact .of rfl
  ·rw[if_neg h1,decide_eq_false h1]
   refine kW ?_
   (refine kQ ?_;repeat intro γ)
   exact .of rfl
theorem Is1_ok (l:List UInt8) (hl:l.length<2^35):PureCall Tryz.prog 164 [encS (ofL l)] (encB (readR l).isSome):=by
 refine PC [] Tryz.func164 rfl (by rfl) rfl ?_
 have h:=Read_ok l hl
 cases hr:readR l with
 | none=>
   rw[hr] at h
   unfold encRd encR at h
   refine kW ?_
   (refine kQ ?_;repeat intro γ)
   refine CallP.pure [] _ c204 h ?_
   refine kW ?_
   (refine kQ ?_;repeat intro γ)
   exact .of rfl
 | some x=>
   rw[hr] at h
   unfold encRd encR at h
   refine kW ?_
   (refine kQ ?_;repeat intro γ)
   refine CallP.pure [] _ c204 h ?_
   refine kW ?_
   (refine kQ ?_;repeat intro γ)
   exact .of rfl
def rT (n:Int) (d:Nat):List Nat:=if d=1 then sT n else sT n++47::decT d
end Go.Proofs.YtlhdoekgipaihaaGreatDoor
namespace Go.Proofs.YtlhdoekgipaihaaGreatDoor
open Go Go.Fw
theorem bytes_back {l:List Nat} (h:l.all isDg=true):(l.map UInt8.ofNat).map UInt8.toNat=l:=by
 rw[List.map_map]
 refine (List.map_congr_left fun c hc=>?_).trans (List.map_id l)
 have:=List.all_eq_true.1 h c hc
 unfold isDg at this
 simp at this
 simp;omega
theorem isD_dg (n:Nat):isD n=isDg n:=by
 rw[Bool.eq_iff_iff,isD_iff]
 unfold isDg
 rw[decide_eq_true_iff]
theorem isDs_map (l:List UInt8):isDs l=(l.map UInt8.toNat).all isDg:=by
 unfold isDs
 rw[List.all_map]
 congr 1
 funext c
 exact isD_dg _
theorem decU_decT (n:Nat):decU ((decT n).map UInt8.ofNat)=n:=by
 unfold decU
 rw[bytes_back (decT_dg n),decB_decT]
theorem toNat_bytes (l:List UInt8):(l.map UInt8.toNat).map UInt8.ofNat=l:=by
 rw[List.map_map]
 refine (List.map_congr_left fun c hc=>?_).trans (List.map_id l)
 simp
theorem digB_canon (l:List UInt8):digB l=(canon (l.map UInt8.toNat)&&decide (l.length≤300)):=by
 unfold digB canon
 rw[isDs_map,List.length_map]
 cases l with
 | nil=>rfl
 | cons c r=>
   have e:decide ((c::r).headD 0=48)=decide (((c::r).map UInt8.toNat).getD 0 0=48):=decide_eq_decide.2 (by
    simp only[List.headD_cons,List.map_cons,List.getD_cons_zero]
    constructor
    ·rintro rfl;rfl
    ·intro h;exact UInt8.toNat.inj (by rw[h];rfl))
   rw[e]
   generalize ((c::r).map UInt8.toNat).getD 0 0=x
   generalize ((c::r).map UInt8.toNat).all isDg=b
   generalize (c::r).length=n
   rw[Bool.eq_iff_iff]
   simp only[Bool.and_eq_true,Bool.or_eq_true,Bool.not_eq_true',Bool.and_eq_false_iff,decide_eq_true_eq,decide_eq_false_iff_not,ne_eq]
   constructor
   ·rintro ⟨⟨⟨h1,h2⟩,h3⟩,h4⟩
    exact ⟨⟨⟨h1,by omega⟩,h4⟩,h2⟩
   ·rintro ⟨⟨⟨h1,h2⟩,h3⟩,h4⟩
    exact ⟨⟨⟨h1,h4⟩,by omega⟩,h3⟩
theorem digB_decT {n:Nat} (h:(decT n).length≤300):digB ((decT n).map UInt8.ofNat)=true:=by
 rw[digB_canon,bytes_back (decT_dg n),decT_canon,List.length_map,decide_eq_true h];rfl
theorem digB_text {l:List UInt8} (h:digB l=true):l=(decT (decU l)).map UInt8.ofNat∧(decT (decU l)).length≤300:=by
 rw[digB_canon,Bool.and_eq_true] at h
 have e:=decT_decB h.1
 have h2:=of_decide_eq_true h.2
 unfold decU
 rw[e]
 exact ⟨(toNat_bytes l).symm,by rw[List.length_map];exact h2⟩
theorem pairB_none {a:List UInt8} (h:∀ c∈a,c≠47):pairB a=(a,[],false):=by
 induction a with
 | nil=>rfl
 | cons c r ih=>rw[pairB,if_neg (h c (by simp)),ih (fun x hx=>h x (by simp[hx]))]
theorem pairB_some {a:List UInt8} (h:∀ c∈a,c≠47) (b:List UInt8):pairB (a++47::b)=(a,b,true):=by
 induction a with
 | nil=>rw[List.nil_append,pairB,if_pos rfl]
 | cons c r ih=>rw[List.cons_append,pairB,if_neg (h c (by simp)),ih (fun x hx=>h x (by simp[hx]))]
theorem dg_ne {l:List Nat} (h:l.all isDg=true) (x:UInt8) (hx:¬ (48≤x.toNat∧x.toNat≤57)):∀ c∈l.map UInt8.ofNat,c≠x:=by
 intro c hc e
 obtain ⟨d,hd,rfl⟩:=List.mem_map.1 hc
 have:=List.all_eq_true.1 h d hd
 unfold isDg at this
 simp at this
 subst e
 apply hx
 have e2:(UInt8.ofNat d).toNat=d:=by simp;omega
 rw[e2];exact this
theorem decT1:(decT 1).length≤300:=by
 rw[decT_len,if_neg (by decide),dg_one (by decide) (by decide) (by decide)];decide
def okR (x:Int×Nat):Prop:=0<x.2∧Nat.gcd x.1.natAbs x.2=1∧(decT x.1.natAbs).length≤300∧(decT x.2).length≤300
theorem sT_abs (n:Int):sT n=if n<0 then 45::decT n.natAbs else decT n.natAbs:=rfl
theorem readB_text {m:Bool} {t:List UInt8} {x:Int×Nat} (h:readB m t=some x):okR x∧(x.1<0↔m=true)∧t=(decT x.1.natAbs++if x.2=1 then [] else 47::decT x.2).map UInt8.ofNat:=by
 obtain ⟨p1,p2,p3,p4,p5⟩:=pairB_spec t
 unfold readB at h
 cases hd:digB (pairB t).1 with
 | false=>rw[hd,if_pos rfl] at h;cases h
 | true=>
   obtain ⟨t1,t2⟩:=digB_text hd
   rw[hd,if_neg (by decide)] at h
   generalize hn:decU (pairB t).1=n at *
   have sgnz:∀ hz:¬ (m=true∧n=0),((if m then -(n:Int) else n)<0↔m=true)∧(if m then -(n:Int) else (n:Int)).natAbs=n:=by
    intro hz
    cases m with
    | true=>have:n≠0:=fun e=>hz ⟨rfl,e⟩;rw[if_pos rfl];exact ⟨by simp;omega,by omega⟩
    | false=>rw[if_neg (by decide)];exact ⟨by simp,by omega⟩
   by_cases hb:(pairB t).2.2=true
   ·have hlt:(pairB t).1.length<t.length:=by
     rcases Nat.lt_or_ge (pairB t).1.length t.length with h' | h'
     ·exact h'
     ·rw[p5 h'] at hb;cases hb
    obtain ⟨_,q2,q3⟩:=p4 hlt
    have ht:t=(pairB t).1++47::(pairB t).2.1:=by
     conv=>lhs;rw[← List.take_append_drop (pairB t).1.length t]
     rw[← p2,List.drop_eq_getElem_cons hlt,q3,← q2]
    rw[if_pos hb] at h
    cases hd2:digB (pairB t).2.1 with
    | false=>rw[hd2,if_pos rfl] at h;cases h
    | true=>
      obtain ⟨u1,u2⟩:=digB_text hd2
      rw[hd2,if_neg (by decide)] at h
      generalize hdd:decU (pairB t).2.1=d at *
      split at h
      ·cases h
      ·rename_i hg
       split at h
       ·cases h
       ·rename_i hz
        cases h
        obtain ⟨s1,s2⟩:=sgnz hz
        have hg1:¬ d≤1:=fun e=>hg (.inl e)
        have hg2:Nat.gcd n d=1:=Decidable.byContradiction fun e=>hg (.inr e)
        refine ⟨⟨by simp only;omega,by simp only;rw[s2];exact hg2,by simp only;rw[s2];exact t2,u2⟩,s1,?_⟩
        simp only
        rw[s2,if_neg (by omega),List.map_append,List.map_cons,← t1,← u1]
        exact ht
   ·have hge:t.length≤(pairB t).1.length:=by
     rcases Nat.lt_or_ge (pairB t).1.length t.length with h' | h'
     ·exact absurd (p4 h').1 hb
     ·exact h'
    have ht:t=(pairB t).1:=by
     conv=>rhs;rw[p2]
     rw[List.take_of_length_le hge]
    rw[if_neg hb] at h
    split at h
    ·cases h
    ·rename_i hz
     cases h
     obtain ⟨s1,s2⟩:=sgnz hz
     refine ⟨⟨Nat.one_pos,by simp,by simp only;rw[s2];exact t2,decT1⟩,s1,?_⟩
     simp only
     rw[s2,if_pos trivial,List.append_nil,← t1]
     exact ht
theorem rT_eq (n:Int) (d:Nat):rT n d=if n<0 then 45::(decT n.natAbs++if d=1 then [] else 47::decT d) else decT n.natAbs++if d=1 then [] else 47::decT d:=by
 unfold rT
 rw[sT_abs]
 split<;>split<;>simp
theorem readR_text {l:List UInt8} {x:Int×Nat} (h:readR l=some x):okR x∧l=(rT x.1 x.2).map UInt8.ofNat:=by
 unfold readR at h
 split at h
 ·rename_i t
  obtain ⟨h1,h2,h3⟩:=readB_text h
  refine ⟨h1,?_⟩
  rw[rT_eq,if_pos (h2.2 rfl),List.map_cons,← h3];rfl
 ·obtain ⟨h1,h2,h3⟩:=readB_text h
  refine ⟨h1,?_⟩
  rw[rT_eq,if_neg (fun e=>by have:=h2.1 e;cases this),← h3]
theorem readB_rT (n:Int) (d:Nat) (h:okR (n,d)):readB (decide (n<0)) ((decT n.natAbs++if d=1 then [] else 47::decT d).map UInt8.ofNat)=some (n,d):=by
 obtain ⟨h1,h2,h3,h4⟩:=h
 simp only at *
 have hz:¬ (decide (n<0)=true∧n.natAbs=0):=fun e=>by have:=of_decide_eq_true e.1;omega
 have hs:(if decide (n<0)=true then -((n.natAbs:Nat):Int) else (n.natAbs:Nat))=n:=by
  by_cases h:n<0
  ·rw[if_pos (decide_eq_true h)];omega
  ·rw[if_neg (by simpa using h)];omega
 have h47:=dg_ne (decT_dg n.natAbs) 47 (by decide)
 unfold readB
 by_cases hd:d=1
 ·rw[if_pos hd,List.append_nil,pairB_none h47]
  simp only
  rw[digB_decT h3,if_neg (by decide),if_neg (by decide),decU_decT,if_neg hz,hs,hd]
 ·rw[if_neg hd,List.map_append,List.map_cons,show UInt8.ofNat 47=47 from rfl,pairB_some h47]
  simp only
  rw[digB_decT h3,if_neg (by decide),if_pos trivial,digB_decT h4,if_neg (by decide),decU_decT,decU_decT,if_neg (by rintro (h | h);omega;exact h h2),if_neg hz,hs]
theorem readR_rT (n:Int) (d:Nat) (h:okR (n,d)):readR ((rT n d).map UInt8.ofNat)=some (n,d):=by
 have hb:=readB_rT n d h
 rw[rT_eq]
 by_cases hn:n<0
 ·rw[if_pos hn,List.map_cons]
  rw[decide_eq_true hn] at hb
  exact hb
 ·rw[if_neg hn]
  rw[decide_eq_false hn] at hb
  have hc:=decT_canon n.natAbs
  have hdg:=decT_dg n.natAbs
  generalize hT:decT n.natAbs=T at *
  cases T with
  | nil=>simp[canon] at hc
  | cons c r=>
    rw[List.all_cons,Bool.and_eq_true] at hdg
    have hcd:=hdg.1
    unfold isDg at hcd
    simp at hcd
    rw[List.cons_append,List.map_cons] at hb ⊢
    unfold readR
    split
    ·rename_i t heq
     have:=congrArg (fun l:List UInt8=>(l.headD 0).toNat) heq
     simp at this
     omega
    ·exact hb
end Go.Proofs.YtlhdoekgipaihaaGreatDoor
namespace Go.Proofs.YtlhdoekgipaihaaGreatDoor
open Go Go.Fw
inductive Ex where
 | mk (op text:ByteArray) (order:Int) (kids:List Ex)
def Ex.op:Ex→ByteArray | .mk o _ _ _=>o
def Ex.text:Ex→ByteArray | .mk _ t _ _=>t
def Ex.order:Ex→Int | .mk _ _ n _=>n
def Ex.kids:Ex→List Ex | .mk _ _ _ ks=>ks
mutual
def encE:Ex→AV
 | .mk o t n ks=>.agg [encS o,encS t,encI n,.sl 4 (encEs ks)]
def encEs:List Ex→List AV
 | []=>[]
 | k::ks=>encE k::encEs ks
end
theorem encEs_map:∀ ks:List Ex,encEs ks=ks.map encE
 | []=>rfl
 | k::ks=>by rw[List.map_cons,← encEs_map ks];rfl
theorem encE_mk (o t:ByteArray) (n:Int) (ks:List Ex):encE (.mk o t n ks)=.agg [encS o,encS t,encI n,.sl 4 (ks.map encE)]:=by rw[← encEs_map];rfl
theorem encE_eq (e:Ex):encE e=.agg [encS e.op,encS e.text,encI e.order,.sl 4 (e.kids.map encE)]:=by cases e;exact encE_mk ..
inductive SzE:Ex→Prop where
 | mk {o t:ByteArray} {n:Int} {ks:List Ex} (ho:o.size≤2^60) (ht:t.size≤2^60) (hk:ks.length≤2^60) (h:∀ k∈ks,SzE k):SzE (.mk o t n ks)
theorem SzE.kid {e:Ex} (h:SzE e):∀ k∈e.kids,SzE k:=by cases h;assumption
theorem SzE.len {e:Ex} (h:SzE e):e.kids.length≤2^60:=by cases h;assumption
theorem SzE.tx {e:Ex} (h:SzE e):e.text.size≤2^60:=by cases h;assumption
theorem SzE.os {e:Ex} (h:SzE e):e.op.size≤2^60:=by cases h;assumption
def kidsL (f:Ex→Int→Int):List Ex→Int→Int
 | [],l=>l
 | k::ks,l=>if f k l<0 then -1 else kidsL f ks (f k l)
def measF:Nat→Ex→Int→Int
 | 0,_,_=>-1
 | d+1,e,l=>if l-1<0 then -1 else kidsL (measF d) e.kids (l-1)
theorem kidsL_le {f:Ex→Int→Int} (hf:∀ k l,f k l<0∨f k l≤l):∀ (ks:List Ex) (l:Int),kidsL f ks l<0∨kidsL f ks l≤l
 | [],l=>.inr (Int.le_refl _)
 | k :: ks,l=>by
   unfold kidsL
   split
   ·left;omega
   ·have:=hf k l
    have:=kidsL_le hf ks (f k l)
    omega
theorem measF_le:∀ (d:Nat) (e:Ex) (l:Int),measF d e l<0∨measF d e l≤l
 | 0,e,l=>by left;unfold measF;omega
 | d + 1,e,l=>by
   unfold measF
   split
   ·left;omega
   ·have:=kidsL_le (measF_le d) e.kids (l-1)
    omega
theorem kidsL_ge {f:Ex→Int→Int} (hf:∀ k l,0≤l→-1≤f k l):∀ (ks:List Ex) (l:Int),0≤l→-1≤kidsL f ks l
 | [],l,h=>by unfold kidsL;omega
 | k::ks,l,h=>by
   unfold kidsL
   have:=hf k l h
   split
   ·omega
   ·exact kidsL_ge hf ks _ (by omega)
theorem measF_ge:∀ (d:Nat) (e:Ex) (l:Int),0≤l→-1≤measF d e l
 | 0,e,l,h=>by unfold measF;omega
 | d+1,e,l,h=>by
   unfold measF
   split
   ·omega
   ·exact kidsL_ge (measF_ge d) _ _ (by omega)
theorem measure_ok:∀ (d:Nat) (e:Ex) (l:Int),d≤1000→SzE e→0≤l→l≤1000→PureCall Tryz.prog 223 [encE e,encI d,encI l] (encI (measF d e l))
 | 0,e,l,hd,he,h0,h1=>by
   refine PC [] Tryz.func223 rfl (by rfl) rfl ?_
   rw[encE_eq]
   refine kW ?_
   (refine kS ?_;repeat intro γ)
   exact .of rfl
 | d + 1,e,l,hd,he,h0,h1=>by
   refine PC [] Tryz.func223 rfl (by rfl) rfl ?_
   have ih:=measure_ok d
   have hle:=measF_le d
   have hk:=he.len
   generalize hF:measF (d+1) e l=F
   unfold measF at hF
   rw[encE_eq]
   refine kW ?_
   (refine kS ?_;repeat intro γ)
   refine CondP.dec (fun h=>?_) (fun h=>?_)<;>refine kW ?_
   ·rw[if_pos h] at hF
    (refine kS ?_;repeat intro γ)
    exact .of (by rw[← hF];rfl)
   ·rw[if_neg h] at hF
    (refine kS ?_;repeat intro γ)
    refine LoopP.intro (fun m σ H=>∃ i,∃ l':Int,m=e.kids.length-i∧i≤e.kids.length∧0≤l'∧l'≤1000∧kidsL (measF d) (e.kids.drop i) l'=F ∧
     σ=fr [(1,encI ((d+1:Nat):Int)),(2,encI l'),(18,.sl 4 (e.kids.map encE)),(19,encI e.kids.length),(20,encI i)]∧H=hp []) ?_ ?_
    ·refine .intro <| W.of ⟨_,0,l-1,rfl,Nat.zero_le _,by omega,by omega,hF,rfl,rfl⟩ ⟨rfl,rfl,rfl,?_,rfl,trivial⟩ trivial
     show AV.val (.int .i64 _)=AV.val (.int .i64 _)
     rw[List.length_map]
    ·clear hF h h0 h1
     rintro m σ H ⟨i,l',rfl,hi,h0,h1,hF,rfl,rfl⟩
     refine kW ?_
     (refine kS ?_;repeat intro γ)
     refine CondP.dec (fun h=>?_) (fun h=>?_)<;>refine kW ?_
     ·have hi':i<e.kids.length:=by omega
      rw[List.drop_eq_getElem_cons hi'] at hF
      unfold kidsL at hF
      have hm:=hle e.kids[i] l'
      have hs:=he.kid _ (List.getElem_mem hi')
      (refine kR ?_;repeat intro γ)
      generalize e.kids[i]=k at hF hm hs ⊢
      rw[encE_eq]
      (refine kR ?_;repeat intro γ)
      simp only[show ((d+1:Nat):Int)-1=(d:Int) by omega]
      have hi2:=ih k l' (by omega) hs h0 h1
      rw[encE_eq k] at hi2
      refine CallP.pure [] _ c223 hi2 ?_
      generalize measF d k l'=r at hF hm
      refine kW ?_
      (refine kS ?_;repeat intro γ)
      refine CondP.dec (fun h=>?_) (fun h=>?_)<;>refine kW ?_
      ·rw[if_pos h] at hF
       (refine kS ?_;repeat intro γ)
       exact .of (by rw[← hF];rfl)
      ·rw[if_neg h] at hF
       (refine kS ?_;repeat intro γ)
       exact .intro <| W.of ⟨_,by omega,i+1,r,rfl,hi',by omega,by omega,hF,rfl,rfl⟩ ⟨rfl,rfl,rfl,rfl,rfl,trivial⟩ trivial
     ·rw[List.drop_eq_nil_of_le (by omega)] at hF
      (refine kS ?_;repeat intro γ)
      exact .of (by rw[← hF];rfl)
def tooF (e:Ex):Bool:=decide (measF 24 e 200<0)
def sizeF (e:Ex):Int:=200-measF 24 e 200
theorem TooLarge_ok (e:Ex) (he:SzE e):PureCall Tryz.prog 110 [encE e] (encB (tooF e)):=by
 refine PC [] Tryz.func110 rfl (by rfl) rfl ?_
 have hm:=measure_ok 24 e 200 (by omega) he (by omega) (by omega)
 rw[encE_eq] at hm ⊢
 refine kW ?_
 (refine kS ?_;repeat intro γ)
 refine CallP.flat [] _ c223 hm rfl ?_
 refine kW ?_
 (refine kS ?_;repeat intro γ)
 exact .of rfl
theorem Size_ok (e:Ex) (he:SzE e):PureCall Tryz.prog 182 [encE e] (encI (sizeF e)):=by
 refine PC [] Tryz.func182 rfl (by rfl) rfl ?_
 have hm:=measure_ok 24 e 200 (by omega) he (by omega) (by omega)
 have hle:=measF_le 24 e 200
 have hge:=measF_ge 24 e 200 (by omega)
 unfold sizeF
 rw[encE_eq] at hm ⊢
 refine kW ?_
 (refine kS ?_;repeat intro γ)
 refine CallP.flat [] _ c223 hm rfl ?_
 generalize measF 24 e 200=r at *
 refine kW ?_
 (refine kS ?_;repeat intro γ)
 exact .of rfl
end Go.Proofs.YtlhdoekgipaihaaGreatDoor
namespace Go.Proofs.YtlhdoekgipaihaaGreatDoor
open Go Go.Fw
def shp:List (ByteArray×Int×Bool×Bool):=[
 (⟨#[110,117,109]⟩,0,false,false),(⟨#[116,105,109,101]⟩,0,false,false),(⟨#[110,101,103]⟩,1,false,false),
 (⟨#[116,114,117,101]⟩,0,false,true),(⟨#[102,97,108,115,101]⟩,0,false,true),(⟨#[105,110,105,116,105,97,108]⟩,0,false,true),
 (⟨#[97,100,100]⟩,2,false,false),(⟨#[115,117,98]⟩,2,false,false),(⟨#[109,117,108]⟩,2,false,false),(⟨#[100,105,118]⟩,2,false,false),
 (⟨#[108,101,115,115]⟩,2,false,true),(⟨#[97,116,109,111,115,116]⟩,2,false,true),(⟨#[109,111,114,101]⟩,2,false,true),(⟨#[97,116,108,101,97,115,116]⟩,2,false,true),
 (⟨#[97,110,100]⟩,2,true,true),(⟨#[111,114]⟩,2,true,true),(⟨#[110,111,116]⟩,1,true,true),(⟨#[115,97,109,112,108,101]⟩,2,false,true)]
def encSh (x:Int×Bool×Bool):AV:=.agg [encI x.1,encB x.2.1,encB x.2.2]
def shpM:AV:=.mp (shp.map fun x=>encS x.1) (shp.map fun x=>encSh x.2)
theorem shapes_ok:PureCall Tryz.prog 230 [] shpM:=by
 exact runs_pure XR_ok (fuel:=60) (n:=5) (by kernel_rfl)
def assoc {β:Type} (l:List (ByteArray×β)) (s:ByteArray):Option β:=match l with
 | []=>none
 | x::r=>if s=x.1 then some x.2 else assoc r s
theorem ba_beq (s y:ByteArray):(s==y)=decide (s=y):=by
 rw[Bool.eq_iff_iff]
 cases s with | mk a=>cases y with | mk b=>
 show (a==b)=true↔_
 simp
theorem keyEq_str (s y:ByteArray):keyEq T 9 (encS s) (encS y)=some (decide (s=y)):=by
 show some (s==y)=_
 rw[ba_beq]
theorem look_str {β:Type} (f:β→AV) (s:ByteArray):∀ l:List (ByteArray×β),∃ r,findK (keyEq T 9 (encS s)) (l.map fun x=>encS x.1)=some r∧match r,assoc l s with
  | none,none=>True
  | some i,some b=>(l.map fun x=>f x.2).getD i .dead=f b
  | _,_=>False
 | []=>⟨none,rfl,trivial⟩
 | x :: l=>by
   obtain ⟨r,h1,h2⟩:=look_str f s l
   rw[List.map_cons]
   unfold findK assoc
   rw[keyEq_str]
   by_cases h:s=x.1
   ·rw[decide_eq_true h,if_pos h]
    exact ⟨some 0,rfl,rfl⟩
   ·rw[decide_eq_false h,if_neg h,h1]
    refine ⟨r.map (· + 1),rfl,?_⟩
    revert h2
    cases r<;>cases assoc l s<;>intro h2<;>first | trivial | exact h2
abbrev oVar:ByteArray:=⟨#[118,97,114]⟩
abbrev oPre:ByteArray:=⟨#[112,114,101]⟩
abbrev oEq:ByteArray:=⟨#[101,113,117,97,108]⟩
abbrev oNe:ByteArray:=⟨#[117,110,101,113,117,97,108]⟩
abbrev oIf:ByteArray:=⟨#[105,102]⟩
abbrev oNum:ByteArray:=⟨#[110,117,109]⟩
abbrev oSample:ByteArray:=⟨#[115,97,109,112,108,101]⟩
def kidsF (o:ByteArray):Int:=if o=oVar∨o=oPre then 0 else if o=oEq∨o=oNe then 2 else if o=oIf then 3 else match assoc shp o with
 | none=>-1
 | some x=>x.1
theorem kids_ok (o:ByteArray):PureCall Tryz.prog 224 [encS o] (encI (kidsF o)):=by
 refine PC [] Tryz.func224 rfl (by rfl) rfl ?_
 generalize hF:kidsF o=F
 unfold kidsF at hF
 refine kW ?_
 (refine kS ?_;repeat intro γ)
 refine CondP.dec (fun h1=>?_) (fun h1=>?_)<;>refine kW ?_
 ·rw[if_pos (.inl h1)] at hF
  (refine kS ?_;repeat intro γ)
  exact .of (by rw[← hF];rfl)
 (refine kS ?_;repeat intro γ)
 refine CondP.dec (fun h2=>?_) (fun h2=>?_)<;>refine kW ?_
 ·rw[if_pos (.inr h2)] at hF
  (refine kS ?_;repeat intro γ)
  exact .of (by rw[← hF];rfl)
 rw[if_neg (by rintro (h | h);exact h1 h;exact h2 h)] at hF
 (refine kS ?_;repeat intro γ)
 refine CondP.dec (fun h3=>?_) (fun h3=>?_)<;>refine kW ?_
 ·rw[if_pos (.inl h3)] at hF
  (refine kS ?_;repeat intro γ)
  exact .of (by rw[← hF];rfl)
 (refine kS ?_;repeat intro γ)
 refine CondP.dec (fun h4=>?_) (fun h4=>?_)<;>refine kW ?_
 ·rw[if_pos (.inr h4)] at hF
  (refine kS ?_;repeat intro γ)
  exact .of (by rw[← hF];rfl)
 rw[if_neg (by rintro (h | h);exact h3 h;exact h4 h)] at hF
 (refine kS ?_;repeat intro γ)
 refine CondP.dec (fun h5=>?_) (fun h5=>?_)<;>refine kW ?_
 ·rw[if_pos h5] at hF
  (refine kS ?_;repeat intro γ)
  exact .of (by rw[← hF];rfl)
 rw[if_neg h5] at hF
 (refine kS ?_;repeat intro γ)
 refine CallP.pure [] _ c230 shapes_ok ?_
 refine kW ?_
 (refine kS ?_;repeat intro γ)
 obtain ⟨r,hr,hm⟩:=look_str encSh o shp
 refine Need.intro keyst9 ?_
 refine kW ?_
 refine LookP.intro r hr ?_
 cases ha:assoc shp o with
 | none=>
   rw[ha] at hm hF
   cases r with
   | some i=>exact hm.elim
   | none=>
     refine kW ?_
     (refine kS ?_;repeat intro γ)
     exact .of (by rw[← hF];rfl)
 | some x=>
   rw[ha] at hm hF
   cases r with
   | none=>exact hm.elim
   | some i=>
     refine kW ?_
     rw[show (List.map (fun x=>encSh x.snd) shp).getD i AV.dead=encSh x from hm]
     refine kW ?_
     (refine kS ?_;repeat intro γ)
     exact .of (by rw[← hF];rfl)
theorem resQ_shape (p:Option (Int×Int)×Bool):(∃ a,a=nilQ∧resQ p=.tup [a,encB p.2])∨∃ a,(∃ n d,a=encQ n d)∧resQ p=.tup [a,encB p.2]:=by
 unfold resQ
 cases p.1 with
 | none=>exact .inl ⟨_,rfl,rfl⟩
 | some q=>exact .inr ⟨_,⟨_,_,rfl⟩,rfl⟩
def textF (e:Ex):Bool:=
 if e.op=oNum then (parseQ e.text.data.toList).2&&decide (e.order=0)
 else if e.op=oVar then nameF e.text&&decide (0≤e.order)&&decide (e.order≤6)
 else if e.op=oPre then nameF e.text&&decide (e.order=0)
 else decide (e.text=⟨#[]⟩)&&decide (e.order=0)
theorem text_ok (e:Ex) (ht:e.text.size<2^35):PureCall Tryz.prog 225 [encE e] (encB (textF e)):=by
 refine PC [] Tryz.func225 rfl (by rfl) rfl ?_
 rw[encE_eq]
 generalize hF:textF e=F
 unfold textF at hF
 generalize e.op=o at hF
 refine kW ?_
 (refine kS ?_;repeat intro γ)
 refine CondP.dec (fun h1=>?_) (fun h1=>?_)<;>refine kW ?_
 ·rw[if_pos h1] at hF
  have hq:=ParseQ_ok e.text.data.toList (by exact ht)
  rw[ofL_self] at hq
  have hrs:=resQ_shape (parseQ e.text.data.toList)
  generalize (parseQ e.text.data.toList).2=q at hF hrs
  rcases hrs with ⟨a,rfl,hrs⟩ | ⟨a,⟨x,y,rfl⟩,hrs⟩
  all_goals
   rw[hrs] at hq
   (refine kS ?_;repeat intro γ)
   refine CallP.pure [] _ c113 hq ?_
   refine kW ?_
   (refine kS ?_;repeat intro γ)
   refine CondP.intro (fun h2=>?_) (fun h2=>?_)<;>refine kW ?_
   ·rw[h2,Bool.true_and] at hF
    (refine kS ?_;repeat intro γ)
    exact .of (by rw[← hF];rfl)
   ·rw[h2,Bool.false_and] at hF
    (refine kS ?_;repeat intro γ)
    exact .of (by rw[← hF];rfl)
 rw[if_neg h1] at hF
 (refine kS ?_;repeat intro γ)
 refine CondP.dec (fun h2=>?_) (fun h2=>?_)<;>refine kW ?_
 ·rw[if_pos h2] at hF
  have hn:=name61_ok e.text (by omega)
  generalize nameF e.text=q at hF hn
  (refine kS ?_;repeat intro γ)
  refine CallP.flat [] _ c120 hn rfl ?_
  refine kW ?_
  (refine kS ?_;repeat intro γ)
  refine CondP.intro (fun h3=>?_) (fun h3=>?_)<;>refine kW ?_
  ·rw[h3,Bool.true_and] at hF
   (refine kS ?_;repeat intro γ)
   refine CondP.dec (fun h4=>?_) (fun h4=>?_)<;>refine kW ?_
   ·rw[decide_eq_true h4,Bool.true_and] at hF
    (refine kS ?_;repeat intro γ)
    exact .of (by rw[← hF];rfl)
   ·rw[decide_eq_false h4,Bool.false_and] at hF
    (refine kS ?_;repeat intro γ)
    exact .of (by rw[← hF];rfl)
  ·rw[h3,Bool.false_and,Bool.false_and] at hF
   (refine kS ?_;repeat intro γ)
   exact .of (by rw[← hF];rfl)
 rw[if_neg h2] at hF
 (refine kS ?_;repeat intro γ)
 refine CondP.dec (fun h3=>?_) (fun h3=>?_)<;>refine kW ?_
 ·rw[if_pos h3] at hF
  have hn:=name61_ok e.text (by omega)
  generalize nameF e.text=q at hF hn
  (refine kS ?_;repeat intro γ)
  refine CallP.flat [] _ c120 hn rfl ?_
  refine kW ?_
  (refine kS ?_;repeat intro γ)
  refine CondP.intro (fun h4=>?_) (fun h4=>?_)<;>refine kW ?_
  ·rw[h4,Bool.true_and] at hF
   (refine kS ?_;repeat intro γ)
   exact .of (by rw[← hF];rfl)
  ·rw[h4,Bool.false_and] at hF
   (refine kS ?_;repeat intro γ)
   exact .of (by rw[← hF];rfl)
 rw[if_neg h3] at hF
 (refine kS ?_;repeat intro γ)
 refine CondP.dec (fun h4=>?_) (fun h4=>?_)<;>refine kW ?_
 ·rw[decide_eq_true h4,Bool.true_and] at hF
  (refine kS ?_;repeat intro γ)
  exact .of (by rw[← hF];rfl)
 ·rw[decide_eq_false h4,Bool.false_and] at hF
  (refine kS ?_;repeat intro γ)
  exact .of (by rw[← hF];rfl)
end Go.Proofs.YtlhdoekgipaihaaGreatDoor
namespace Go.Proofs.YtlhdoekgipaihaaGreatDoor
open Go Go.Fw
def indexP {α:Type} (p:α→Bool):List α→Int→Int
 | [],_=>-1
 | y::r,i=>match p y with
   | true=>i
   | false=>indexP p r (i+1)
theorem indexP_ge {α:Type} (p:α→Bool):∀ (l:List α) (i:Int),0≤i→(0≤indexP p l i↔l.any p=true)
 | [],i,h=>by simp[indexP]
 | y :: r,i,h=>by
   unfold indexP
   split
   ·rename_i e;simp[e,h]
   ·rename_i e
    rw[indexP_ge p r (i+1) (by omega)]
    simp[e]
theorem indexE_ok (k:Nat) (p:Ex→Bool) (l:List Ex) (hl:l.length≤2^60) (hk:Callable Tryz.prog k) (hf:∀ x∈l,PureCall Tryz.prog k [encE x] (encB (p x))) :
  PureCall Tryz.prog 315 [.sl 4 (l.map encE),.fn (.func k) [] []] (encI (indexP p l 0)):=by
 refine PC [] Tryz.func315 rfl (by rfl) rfl ?_
 generalize hF:indexP p l 0=F
 refine kW ?_
 (refine kS ?_;repeat intro γ)
 refine LoopP.intro (fun n σ H=>∃ i,i≤l.length∧n=l.length-i∧indexP p (l.drop i) i=F∧σ=fr [(0,.sl 4 (l.map encE)),(1,.fn (.func k) [] []),(7,encI l.length),(8,encI i)]∧H=hp []) ?_ ?_
 ·exact .intro <| W.of ⟨_,0,Nat.zero_le _,rfl,hF,rfl,rfl⟩ ⟨rfl,rfl,by simp;rfl,rfl,trivial⟩ trivial
 ·rintro n σ H ⟨i,hi,rfl,hc,rfl,rfl⟩
  refine kW ?_
  (refine kS ?_;repeat intro γ)
  refine CondP.dec (fun h=>?_) (fun h=>?_)<;>refine kW ?_
  ·have hi':i<l.length:=by omega
   have hx:=hf _ (List.getElem_mem hi')
   rw[List.drop_eq_getElem_cons hi'] at hc
   unfold indexP at hc
   (refine kR ?_;repeat intro γ)
   generalize l[i]=x at hx hc ⊢
   rw[encE_eq] at hx ⊢
   (refine kR ?_;repeat intro γ)
   refine CallP.flat [] _ hk hx rfl ?_
   refine kW ?_
   (refine kS ?_;repeat intro γ)
   refine CondP.intro (fun hq=>?_) (fun hq=>?_)<;>refine kW ?_
   ·rw[hq] at hc
    (refine kS ?_;repeat intro γ)
    exact .of (by rw[← hc];rfl)
   ·rw[hq] at hc
    (refine kS ?_;repeat intro γ)
    exact .intro <| W.of ⟨_,by omega,i+1,hi',rfl,hc,rfl,rfl⟩ ⟨rfl,rfl,rfl,rfl,trivial⟩ trivial
  ·(refine kS ?_;repeat intro γ)
   rw[List.drop_eq_nil_of_le (by omega)] at hc
   exact .of (by rw[← hc];rfl)
theorem containsE_ok (k:Nat) (p:Ex→Bool) (l:List Ex) (hl:l.length≤2^60) (hk:Callable Tryz.prog k) (hf:∀ x∈l,PureCall Tryz.prog k [encE x] (encB (p x))) :
  PureCall Tryz.prog 227 [.sl 4 (l.map encE),.fn (.func k) [] []] (encB (l.any p)):=by
 refine PC [] Tryz.func227 rfl (by rfl) rfl ?_
 refine kW ?_
 (refine kS ?_;repeat intro γ)
 refine CallP.flat [] _ c315 (indexE_ok k p l hl hk hf) rfl ?_
 refine kW ?_
 (refine kS ?_;repeat intro γ)
 refine .of ?_
 show AV.val (Value.bool (decide (0≤indexP p l 0)))=AV.val (Value.bool (l.any p))
 congr 2
 rw[Bool.eq_iff_iff,decide_eq_true_iff]
 exact indexP_ge p l 0 (by omega)
def sampF (o:ByteArray) (ks:List Ex) (bs:List Bool):Bool:=decide (o=oSample)&&match ks,bs with
 | k0::k1::_,_::b::_=>!decide (k0.op=oNum)||!decide (k1.op=oNum)||!b||hasP k1.text (b1 45)||decide (k1.text=⟨#[48]⟩)
 | _,_=>false
mutual
def builtF:Ex→Bool
 | .mk o t n ks=>decide ((ks.length:Int)=kidsF o)&&textF (.mk o t n ks)&&!sampF o ks (builtL ks)&&(builtL ks).all id
def builtL:List Ex→List Bool
 | []=>[]
 | k::ks=>builtF k::builtL ks
end
theorem builtL_map:∀ ks:List Ex,builtL ks=ks.map builtF
 | []=>rfl
 | k::ks=>by rw[List.map_cons,← builtL_map ks];rfl
theorem builtF_eq (e:Ex):builtF e=(decide ((e.kids.length:Int)=kidsF e.op)&&textF e&&!sampF e.op e.kids (e.kids.map builtF)&&e.kids.all builtF):=by
 cases e with
 | mk o t n ks=>
   rw[← builtL_map]
   have:ks.all builtF=(builtL ks).all id:=by rw[builtL_map,List.all_map];rfl
   show builtF (.mk o t n ks)=(decide ((ks.length:Int)=kidsF o)&&textF (.mk o t n ks)&&!sampF o ks (builtL ks)&&ks.all builtF)
   rw[this];rfl
theorem ex_ind {M:Ex→Prop} (h:∀ e:Ex,(∀ k∈e.kids,M k)→M e) (e:Ex):M e:=by
 have key:∀ n (e:Ex),SizeOf.sizeOf e≤n→M e:=by
  intro n
  induction n with
  | zero=>intro e he;cases e;simp at he
  | succ n ih=>
    intro e he
    refine h e fun k hk=>ih k ?_
    cases e with
    | mk o t m ks=>
      have:=List.sizeOf_lt_of_mem (show k∈ks from hk)
      simp at he
      omega
 exact key _ e (Nat.le_refl _)
inductive TxE:Ex→Prop where
 | mk {o t:ByteArray} {n:Int} {ks:List Ex} (ht:t.size<2^35) (h:∀ k∈ks,TxE k):TxE (.mk o t n ks)
theorem TxE.kid {e:Ex} (h:TxE e):∀ k∈e.kids,TxE k:=by cases h;assumption
theorem TxE.tx {e:Ex} (h:TxE e):e.text.size<2^35:=by cases h;assumption
theorem BuiltC_ok (e:Ex) (b:Bool) (h:PureCall Tryz.prog 111 [encE e] (encB b)):PureCall Tryz.prog 228 [encE e] (encB (!b)):=by
 refine PC [] Tryz.func228 rfl (by rfl) rfl ?_
 rw[encE_eq] at h ⊢
 refine kW ?_
 (refine kS ?_;repeat intro γ)
 refine CallP.flat [] _ c111 h rfl ?_
 refine kW ?_
 (refine kS ?_;repeat intro γ)
 exact .of rfl
set_option maxHeartbeats 1000000 in
theorem Built_ok (e:Ex):SzE e→TxE e→PureCall Tryz.prog 111 [encE e] (encB (builtF e)):=by
 induction e using ex_ind with
 | h e ih=>
   intro hs ht
   have ihk:∀ k∈e.kids,PureCall Tryz.prog 111 [encE k] (encB (builtF k)):=fun k hk=>ih k hk (hs.kid k hk) (by cases ht;rename_i h;exact h k hk)
   clear ih
   have htx:e.text.size<2^35:=by cases ht;assumption
   have hlen:=hs.len
   refine PC [] Tryz.func111 rfl (by rfl) rfl ?_
   have hT:=text_ok e htx
   generalize hF:builtF e=F
   rw[builtF_eq] at hF
   generalize textF e=bt at hF hT
   rw[encE_eq] at hT ⊢
   generalize hks:e.kids=ks at *
   generalize e.op=o at *
   refine kW ?_
   (refine kS ?_;repeat intro γ)
   refine CallG.intro _ c224 (kids_ok o) ?_
   refine kW ?_
   (refine kS ?_;repeat intro γ)
   rw[List.length_map]
   refine CondP.dec (fun h=>?_) (fun h=>?_)<;>refine kW ?_
   case' refine_2=>
    rw[decide_eq_false h,Bool.false_and,Bool.false_and,Bool.false_and] at hF
    (refine kS ?_;repeat intro γ)
    exact .of (by rw[← hF];rfl)
   have hlk:=h
   rw[decide_eq_true hlk,Bool.true_and] at hF
   (refine kS ?_;repeat intro γ)
   refine CallG.intro _ c225 hT ?_
   refine kW ?_
   (refine kS ?_;repeat intro γ)
   refine CondP.intro (fun h1=>?_) (fun h1=>?_)<;>refine kW ?_
   case' refine_2=>
    rw[h1,Bool.false_and,Bool.false_and] at hF
    (refine kS ?_;repeat intro γ)
    exact .of (by rw[← hF];rfl)
   rw[h1,Bool.true_and] at hF
   (refine kS ?_;repeat intro γ)
   have fin:sampF o ks (ks.map builtF)=false→ks.all builtF=F:=fun h=>by rw[← hF,h];rfl
   have bad:sampF o ks (ks.map builtF)=true→F=false:=fun h=>by rw[← hF,h];rfl
   clear hF
   refine CondP.dec (fun h2=>?_) (fun h2=>?_)<;>refine kW ?_
   case' refine_2=>
    have hf:=fin (by unfold sampF;rw[decide_eq_false h2];rfl)
   case' refine_1=>
    obtain ⟨k0,k1,rfl⟩:∃ k0 k1,ks=[k0,k1]:=by
     have h2':o=oSample:=h2
     have:kidsF oSample=2:=by rfl
     rw[h2',this] at hlk
     match ks,hlk with
     | [a,b],_=>exact ⟨a,b,rfl⟩
     | [],h=>simp at h
     | [_],h=>simp at h
     | _::_::_::_,h=>simp at h;omega
    have hk1:=ihk k1 (by simp)
    have hsm:sampF o [k0,k1] ([k0,k1].map builtF)=(!decide (k0.op=oNum)||!decide (k1.op=oNum)||!builtF k1||hasP k1.text (b1 45)||decide (k1.text=⟨#[48]⟩)):=by
     unfold sampF;rw[decide_eq_true h2];rfl
    rw[hsm] at bad fin
    generalize builtF k1=bk at bad fin hk1
    have ht1:k1.text.size<2^35:=by
     have hm:k1∈e.kids:=by rw[hks];simp
     have:TxE k1:=ht.kid k1 hm
     exact this.tx
    have hHP:=HasPrefix_ok k1.text (b1 45) (by omega) (by decide)
    have hsl:List.map encE [k0,k1]=[.agg [encS k0.op,encS k0.text,encI k0.order,.sl 4 (k0.kids.map encE)],.agg [encS k1.op,encS k1.text,encI k1.order,.sl 4 (k1.kids.map encE)]]:=by
     rw[← encE_eq,← encE_eq];rfl
    rw[encE_eq] at hk1
    rw[hsl]
    generalize hT0:hasP k1.text (b1 45)=hp at *
    (refine kS ?_;repeat intro γ)
    refine CondP.dec (fun h3=>?_) (fun h3=>?_)<;>refine kW ?_
    case' refine_2=>
     rw[bad (by rw[decide_eq_false h3];rfl)]
     (refine kS ?_;repeat intro γ)
     exact .of rfl
    (refine kS ?_;repeat intro γ)
    refine CondP.dec (fun h4=>?_) (fun h4=>?_)<;>refine kW ?_
    case' refine_2=>
     rw[bad (by rw[decide_eq_false h4];simp)]
     (refine kS ?_;repeat intro γ)
     exact .of rfl
    (refine kS ?_;repeat intro γ)
    refine CallP.flat [] _ c111 hk1 rfl ?_
    refine kW ?_
    (refine kS ?_;repeat intro γ)
    refine CondP.intro (fun h5=>?_) (fun h5=>?_)<;>refine kW ?_
    case' refine_2=>
     rw[bad (by rw[h5];simp)]
     (refine kS ?_;repeat intro γ)
     exact .of rfl
    (refine kS ?_;repeat intro γ)
    refine CallP.flat [] _ c226 hHP rfl ?_
    refine kW ?_
    (refine kS ?_;repeat intro γ)
    refine CondP.intro (fun h6=>?_) (fun h6=>?_)<;>refine kW ?_
    case' refine_1=>
     rw[bad (by rw[h6];simp)]
     (refine kS ?_;repeat intro γ)
     exact .of rfl
    (refine kS ?_;repeat intro γ)
    refine CondP.dec (fun h7=>?_) (fun h7=>?_)<;>refine kW ?_
    case' refine_1=>
     rw[bad (by rw[decide_eq_true h7];simp)]
     (refine kS ?_;repeat intro γ)
     exact .of rfl
    have hf:=fin (by rw[decide_eq_true h3,decide_eq_true h4,h5,h6,decide_eq_false h7];rfl)
    rw[← hsl]
   all_goals
    (refine kS ?_;repeat intro γ)
    refine CallP.flat [] _ c227 (containsE_ok 228 (fun k=>!builtF k) _ hlen c228 fun k hk=>BuiltC_ok k _ (ihk k hk)) rfl ?_
    refine kW ?_
    (refine kS ?_;repeat intro γ)
    refine .of ?_
    rw[← hf,List.all_eq_not_any_not];rfl
end Go.Proofs.YtlhdoekgipaihaaGreatDoor
