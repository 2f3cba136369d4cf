/- For every input whose values and letters are at most 1048576 the law SystemResiduals returns true, and its arguments read as they did. The condition: that bound. -/
import Derived.Test.YtlblbldolhiokaaGreatDoorRs53
set_option linter.all false
set_option maxRecDepth 99999
set_option maxHeartbeats 0
namespace Go.Proofs.YtlblbldolhiokaaGreatDoor
open Go Go.Fw Go.ChangeShapes Go.WideShapes Go.ChangeAt Go.RowKit
abbrev WV:Array Value:=#[.agg #[.slice none 0 0,.slice none 0 0,.slice none 0 0,.slice none 0 0],.agg #[.string ⟨#[]⟩,.bool false,.slice none 0 0]]
abbrev SU:=Rows.OpenSpec.upto Rows.systemResidualsSpec
abbrev RU:=Rows.systemResidualsUptoRow
theorem J1V:Tryz.f13.params=#[26,33]:=by kernel_rfl
theorem J2I (H:Type)(enc:TypeId×Value→H)(W:World)(base:Nat)(args:Array Value)(ds gs:List (DataW H))(before:List MemPlace)
  (hval:∀ (j:Nat) t v,Tryz.f13.params[j]?=some t→args[j]?=some v→Value.okWide Tryz.prog W .any base t v)
  (hW:DataW.Whole enc Tryz.prog Tryz.f13.params.toList Rows.systemResidualsSpec.vars false W args.toList ds gs before)(hk:Rows.uptoSmall H (ds++gs)=true) :
  Calls Tryz.prog 13 args W fun e W'=>∃ v,e=.returned v∧Rows.systemResidualsSpec.post enc Tryz.prog Tryz.f13 false true false false W args v W':=by
 have hW':=hW;obtain ⟨p,q,hA0,hV,rfl,hfz,hnd⟩:=hW;have hA:DataW.TrodAll enc Tryz.prog W 0 (fun _=>true) true Tryz.f13.params.toList args.toList ds p:=hA0;rw[J1V] at hA hval;obtain ⟨v0,vs0,d0,ds0,p0,q0,e0,rfl,rfl,t0,r0⟩:=trodAll_cons hA;obtain ⟨v1,vs1,d1,ds1,p1,q1,e1,rfl,rfl,t1,r1⟩:=trodAll_cons r0;obtain ⟨rfl,rfl,rfl⟩:=trodAll_nil r1;obtain rfl:args=#[v0,v1]:=by cases args;simp_all
 obtain ⟨rfl,rfl⟩:=trodVars_none hV;clear hA0;simp only[Q08] at hW' hk;have hb:=JHS hk;have k0:=t0;have lt0:∀ x∈p0,x.block<W.heap.size:=by obtain ⟨m,hm⟩:=k0;exact DataW.trod_lt m _ _ _ hm
 obtain ⟨fuel,g0⟩:=t0
 have w0:∃ cs,v0=.agg cs:=by
  obtain ⟨fs,hu,_⟩:=J0j (J3x 26 _ rfl) rfl;obtain ⟨cs,h,_⟩:=okWide_struct hu (hval 0 26 v0 rfl rfl);exact ⟨cs,h⟩
 obtain ⟨z0,⟨a0,ez0,h0⟩,s0⟩:=JEQ (JOj JMT (by decide) fuel) (by omega) w0 g0 (hb d0 (by simp));subst ez0;have k1:=t1;have lt1:∀ x∈p1,x.block<W.heap.size:=by obtain ⟨m,hm⟩:=k1;exact DataW.trod_lt m _ _ _ hm
 obtain ⟨fuel,g1⟩:=t1
 have w1:∃ cs,v1=.agg cs:=by
  obtain ⟨fs,hu,_⟩:=J0j (J3x 33 _ rfl) rfl;obtain ⟨cs,h,_⟩:=okWide_struct hu (hval 1 33 v1 rfl rfl);exact ⟨cs,h⟩
 obtain ⟨z1,⟨a1,ez1,h1⟩,s1⟩:=JEQ (JNF JMT (by decide) fuel) (by omega) w1 g1 (hb d1 (by simp));subst ez1;refine (J5J JGN a0 h0 a1 h1 (fun _=>False) W #[v0,v1] (fun c h=>h.elim) ⟨rfl,fun i h h'=>?_⟩).mono fun e W' he=>?_
 ·have hi:i<2:=h
  match i,hi with
  |0,_=>exact s0
  |1,_=>exact s1
 obtain ⟨v,rfl,hr,bel⟩:=he
 cases hr with
 |val _ _=>
   exact ⟨_,rfl,_,_,_,[],_,[],hW',trodAll_mk1 (shut_bool u4 _),trodAll_cons_mk (Below.trod JAB (by kernel_rfl) (Qh (by kernel_rfl)) k0 bel lt0) (trodAll_cons_mk (Below.trod JAB (by kernel_rfl) (Qh (by kernel_rfl)) k1 bel lt1) (trodAll_mk0)),rfl,bel.frame _,fun h=>by cases h⟩
theorem J36 (os:Os){H:Type}(enc:TypeId×Value→H):∃ places,DataW.whole enc Tryz.prog ((laidW os).forCall (fun _ _=>0) ⟨#[],WV,[]⟩).memory Tryz.f13.params.toList Rows.systemResidualsSpec.vars false WV.toList 8=some ([.agg [.nil,.nil,.nil,.nil],.agg [.lit (.string []),.lit (.bool false),.nil]],[],places):=⟨[],by kernel_rfl⟩
theorem J2u (os:Os)(started:os.Started)(H:Type)(enc:TypeId×Value→H)(F:Stop.Interp) :
  ReturnsInHanded {} Tryz.checked os 13 .any (SU.preRow enc Tryz.prog Tryz.f13 RU.domain false RU.laid) ((SU.at F).post enc Tryz.prog Tryz.f13 false true false false):=by
 obtain ⟨places,hx⟩:=J36 os enc
 refine returnsInHanded_of_row (C:=Tryz.checked) (s:=SU) JKt started (by kernel_rfl) Tryz.func13
  (witness_row_at (enc:=enc) (C:=Tryz.checked) false (laidW os) WV rfl (by kernel_rfl) (by kernel_rfl) (by kernel_rfl)
    (OpenSpec.preRow_of_cond 8 hx (by kernel_rfl) (fun k hk=>by cases hk;kernel_rfl) (by kernel_rfl) (JL4 os _))) ?_
 intro W base args ds gs before hval hW _ hcond _ _ _ _;exact J2I H enc W base args ds gs before hval hW (hcond _ rfl)
theorem J1e:Tryz.prog.funcNamed RU.func=some 13:=by kernel_rfl
theorem J4a:(RU.inPlace==Tryz.prog.inPlace 13)=true:=by kernel_rfl
theorem J4Z:(RU.unfollowed==Tryz.prog.unfollowed 13)=true:=by kernel_rfl
theorem J4Y:(RU.recurses==Tryz.prog.recurses 13)=true:=by kernel_rfl
theorem J4X:(RU.named==Tryz.prog.varsNamed 13)=true:=by kernel_rfl
theorem J4W:(RU.loops==(Tryz.f13.params.toList++SU.bare.plain.varTypes Tryz.prog).any (Tryz.prog.loopsFrom ·))=true:=by kernel_rfl
theorem J4V:(RU.lifted==Tryz.prog.liftsFinal)=true:=JDH
theorem J4U:(Tryz.prog.make==some RU.make)=true:=JNO
theorem J37:joinedFacts Tryz.prog 13 Tryz.f13 SU.bare RU=true:=by
 unfold joinedFacts
 repeat (with_reducible refine Bool.and_eq_true_iff.2 ⟨?_,?_⟩)
 all_goals first|with_reducible(first|exact JAB|exact JFv|exact JD4|exact JI0|exact J4a|exact J4Z|exact J4Y|exact J4X|exact J4W|exact J4V|exact J4U)|kernel_rfl
theorem J3s:Func.isWrapper Tryz.prog Tryz.f13 RU.wrapper RU.mainSum:=by unfold Func.isWrapper;first|(rw[if_pos (by decide +kernel)];kernel_rfl)|(rw[if_neg (by decide +kernel)];exact ⟨rfl,rfl⟩)
theorem J3v:Func.isInstance Tryz.prog Tryz.f13 RU.origin RU.targs:=Qh (by kernel_rfl)
theorem J3w:false=RU.goesBy Tryz.pinned.checked.prog:=by kernel_rfl
theorem J3t:(#[26,33]:Array TypeId).all (fun t=>!Tryz.prog.wantsStandIn t)=true:=by kernel_rfl
theorem J3u:Rows.SystemResidualsUptoSaid:=
 OpenClaim.holds_of_cond 13 Tryz.f13 rfl rfl rfl rfl rfl rfl rfl ⟨rfl,rfl,rfl,rfl,rfl⟩ rfl rfl rfl rfl rfl J1e Tryz.func13 J37 J3v J3s
  (fun os started H enc _ F=>by rw[OpenClaim.pre_eq_preRow];exact J2u os started H enc F)
theorem J4T:RU.wfByText SU=true:=by kernel_rfl
theorem systemResiduals_card:Rows.SystemResidualsUptoCardSaid:=
 Claim7.holds_tied_plain_at .later [] _ _ _ _ J3u (fun _ h=>by cases h) J4T (fun _ h=>by cases h) systemResidualsUpto_row_tie rfl ⟨rfl,rfl⟩ JNP rfl (JFp J1e Tryz.func13 J1V J3t) J3w
end Go.Proofs.YtlblbldolhiokaaGreatDoor
