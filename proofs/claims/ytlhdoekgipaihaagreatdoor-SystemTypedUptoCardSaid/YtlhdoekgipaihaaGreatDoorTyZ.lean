/- An expression of the type number has a number as its value, one of the type truth a truth, or an error: for every input whose values and letters are at most 1048576, the law SystemTyped returns true, and its arguments read as they did. The condition: that bound (the second form), as the statement is given. -/
import Derived.Test.YtlhdoekgipaihaaGreatDoorTy51
set_option linter.unusedVariables false
set_option linter.unusedSimpArgs false
set_option linter.unusedSectionVars false
set_option maxRecDepth 100000
set_option exponentiation.threshold 400
set_option maxHeartbeats 8000000
namespace Go.Proofs.YtlhdoekgipaihaaGreatDoor
open Go Go.Fw Go.ChangeShapes Go.WideShapes Go.ChangeAt Go.RowKit
theorem J1W:Tryz.f12.params=#[26,42,50]:=by kernel_rfl
theorem J2l (H:Type) (enc:TypeId×Value→H) (W:World) (base:Nat) (args:Array Value) (ds gs:List (DataW H)) (before:List MemPlace)
  (hval:∀ (j:Nat) t v,Tryz.f12.params[j]?=some t→args[j]?=some v→Value.okWide Tryz.prog W .any base t v)
  (hW:DataW.Whole enc Tryz.prog Tryz.f12.params.toList Rows.systemTypedSpec.vars false W args.toList ds gs before) (hk:Rows.uptoSmall H (ds++gs)=true) :
  Calls Tryz.prog 12 args W fun e W'=>∃ v,e=.returned v∧Rows.systemTypedSpec.post enc Tryz.prog Tryz.f12 false true false false W args v W':=by
 have hW':=hW;obtain ⟨p,q,hA0,hV,rfl,hfz,hnd⟩:=hW;have hA:DataW.TrodAll enc Tryz.prog W 0 (fun _=>true) true Tryz.f12.params.toList args.toList ds p:=hA0;rw[J1W] at hA hval;obtain ⟨v0,vs0,d0,ds0,p0,q0,e0,rfl,rfl,t0,r0⟩:=trodAll_cons hA;obtain ⟨v1,vs1,d1,ds1,p1,q1,e1,rfl,rfl,t1,r1⟩:=trodAll_cons r0;obtain ⟨v2,vs2,d2,ds2,p2,q2,e2,rfl,rfl,t2,r2⟩:=trodAll_cons r1;obtain ⟨rfl,rfl,rfl⟩:=trodAll_nil r2;obtain rfl:args=#[v0,v1,v2]:=by cases args;simp_all
 obtain ⟨rfl,rfl⟩:=trodVars_none hV;clear hA0;simp only[List.append_nil] at hW' hk;have hb:=JDL hk;have k0:=t0;have lt0:∀ x∈p0,x.block<W.heap.size:=by obtain ⟨m,hm⟩:=k0;exact DataW.trod_lt m _ _ _ hm
 obtain ⟨fuel,g0⟩:=t0
 have w0:∃ cs,v0=.agg cs:=by
  obtain ⟨fs,hu,_⟩:=J0N (J3f 26 _ rfl) rfl;obtain ⟨cs,h,_⟩:=okWide_struct hu (hval 0 26 v0 rfl rfl);exact ⟨cs,h⟩
 obtain ⟨z0,⟨a0,ez0,h0⟩,s0⟩:=J7S (JJ4 JEq (by decide) fuel) (by omega) w0 g0 (hb d0 (by simp));subst ez0;have k1:=t1;have lt1:∀ x∈p1,x.block<W.heap.size:=by obtain ⟨m,hm⟩:=k1;exact DataW.trod_lt m _ _ _ hm
 obtain ⟨fuel,g1⟩:=t1
 have w1:∃ cs,v1=.agg cs:=by
  obtain ⟨fs,hu,_⟩:=J0N (J3f 42 _ rfl) rfl;obtain ⟨cs,h,_⟩:=okWide_struct hu (hval 1 42 v1 rfl rfl);exact ⟨cs,h⟩
 obtain ⟨z1,⟨a1,ez1,h1⟩,s1⟩:=J7S (JC6 JEq (by decide) fuel) (by omega) w1 g1 (hb d1 (by simp));subst ez1;have k2:=t2;have lt2:∀ x∈p2,x.block<W.heap.size:=by obtain ⟨m,hm⟩:=k2;exact DataW.trod_lt m _ _ _ hm
 obtain ⟨fuel,g2⟩:=t2
 have w2:∃ cs,v2=.agg cs:=by
  obtain ⟨fs,hu,_⟩:=J0N (J3f 50 _ rfl) rfl;obtain ⟨cs,h,_⟩:=okWide_struct hu (hval 2 50 v2 rfl rfl);exact ⟨cs,h⟩
 obtain ⟨z2,⟨a2,ez2,h2⟩,s2⟩:=J7S (JHs JEq (by decide) fuel) (by omega) w2 g2 (hb d2 (by simp));subst ez2;refine (J6I JCT a0 h0 a1 h1.1 h1.2 a2 h2 (fun _=>False) W #[v0,v1,v2] (fun c h=>h.elim) ⟨rfl,fun i h h'=>?_⟩).mono fun e W' he=>?_
 ·have hi:i<3:=h
  match i,hi with
  | 0,_=>exact s0
  | 1,_=>rw[JEs] at s1;exact s1
  | 2,_=>exact s2
 ·obtain ⟨v,rfl,hr,bel⟩:=he
  cases hr with
  | val _ _=>
    exact ⟨_,rfl,_,_,_,[],_,[],hW',trodAll_mk1 (shut_bool u4 _),trodAll_cons_mk (Below.trod J4S (by kernel_rfl) (of_decide_eq_true (by kernel_rfl)) k0 bel lt0) (trodAll_cons_mk (Below.trod J4S (by kernel_rfl) (of_decide_eq_true (by kernel_rfl)) k1 bel lt1) (trodAll_cons_mk (Below.trod J4S (by kernel_rfl) (of_decide_eq_true (by kernel_rfl)) k2 bel lt2) (trodAll_mk0))),rfl,bel.frame _,fun h=>by cases h⟩
theorem J3n (os:Os) {H:Type} (enc:TypeId×Value→H):∃ places,DataW.whole enc Tryz.prog ((laidW os).forCall (fun _ _=>0) ⟨#[],#[.agg #[Value.slice none 0 0,Value.slice none 0 0,Value.slice none 0 0,Value.slice none 0 0],.agg #[Value.string ⟨#[]⟩,Value.string ⟨#[]⟩,.int .i64 0,Value.slice none 0 0],.agg #[Value.string ⟨#[]⟩,.bool false,Value.slice none 0 0]],[]⟩).memory Tryz.f12.params.toList Rows.systemTypedSpec.vars false (#[.agg #[Value.slice none 0 0,Value.slice none 0 0,Value.slice none 0 0,Value.slice none 0 0],.agg #[Value.string ⟨#[]⟩,Value.string ⟨#[]⟩,.int .i64 0,Value.slice none 0 0],.agg #[Value.string ⟨#[]⟩,.bool false,Value.slice none 0 0]]:Array Value).toList 8=some ([.agg [.nil,.nil,.nil,.nil],.agg [.lit (.string []),.lit (.string []),.lit (.int .i64 0),.nil],.agg [.lit (.string []),.lit (.bool false),.nil]],[],places):=⟨[],by kernel_rfl⟩
theorem J35 (os:Os) (started:os.Started) (H:Type) (enc:TypeId×Value→H) (F:Stop.Interp) :
  ReturnsInHanded {} Tryz.checked os 12 .any ((Rows.OpenSpec.upto Rows.systemTypedSpec).preRow enc Tryz.prog Tryz.f12 Rows.systemTypedUptoRow.domain false Rows.systemTypedUptoRow.laid) (((Rows.OpenSpec.upto Rows.systemTypedSpec).at F).post enc Tryz.prog Tryz.f12 false true false false):=by
 obtain ⟨places,hx⟩:=J3n os enc
 refine returnsInHanded_of_row (C:=Tryz.checked) (s:=(Rows.OpenSpec.upto Rows.systemTypedSpec)) JFv started (by kernel_rfl) Tryz.func12
  (witness_row_at (enc:=enc) (C:=Tryz.checked) false (laidW os) #[.agg #[Value.slice none 0 0,Value.slice none 0 0,Value.slice none 0 0,Value.slice none 0 0],.agg #[Value.string ⟨#[]⟩,Value.string ⟨#[]⟩,.int .i64 0,Value.slice none 0 0],.agg #[Value.string ⟨#[]⟩,.bool false,Value.slice none 0 0]] rfl (by kernel_rfl) (by kernel_rfl) (by kernel_rfl)
    (OpenSpec.preRow_of_cond 8 hx (by kernel_rfl) (fun k hk=>by cases hk;kernel_rfl) (by kernel_rfl) (JG4 os _))) ?_
 intro W base args ds gs before hval hW _ hcond _ _ _ _;exact J2l H enc W base args ds gs before hval hW (hcond _ rfl)
theorem J1h:Tryz.prog.funcNamed Rows.systemTypedUptoRow.func=some 12:=by kernel_rfl
theorem J6D:(Rows.systemTypedUptoRow.inPlace==Tryz.prog.inPlace 12)=true:=by kernel_rfl
theorem J6C:(Rows.systemTypedUptoRow.unfollowed==Tryz.prog.unfollowed 12)=true:=by kernel_rfl
theorem J6B:(Rows.systemTypedUptoRow.recurses==Tryz.prog.recurses 12)=true:=by kernel_rfl
theorem J6A:(Rows.systemTypedUptoRow.named==Tryz.prog.varsNamed 12)=true:=by kernel_rfl
theorem J69:(Rows.systemTypedUptoRow.loops==(Tryz.f12.params.toList++(Rows.OpenSpec.upto Rows.systemTypedSpec).bare.plain.varTypes Tryz.prog).any (Tryz.prog.loopsFrom ·))=true:=by kernel_rfl
theorem J68:(Rows.systemTypedUptoRow.lifted==Tryz.prog.liftsFinal)=true:=JA0
theorem J67:(Tryz.prog.make==some Rows.systemTypedUptoRow.make)=true:=JHy
theorem J3o:joinedFacts Tryz.prog 12 Tryz.f12 (Rows.OpenSpec.upto Rows.systemTypedSpec).bare Rows.systemTypedUptoRow=true:=by
 unfold joinedFacts
 repeat (with_reducible refine Bool.and_eq_true_iff.2 ⟨?_,?_⟩)
 all_goals first | with_reducible exact J4S | with_reducible exact JC7 | with_reducible exact J9p | with_reducible exact JDp | with_reducible exact J6D | with_reducible exact J6C | with_reducible exact J6B | with_reducible exact J6A | with_reducible exact J69 | with_reducible exact J68 | with_reducible exact J67 | kernel_rfl
theorem J4G:Func.isWrapper Tryz.prog Tryz.f12 Rows.systemTypedUptoRow.wrapper Rows.systemTypedUptoRow.mainSum:=by unfold Func.isWrapper;first | (rw[if_pos (by decide +kernel)];kernel_rfl) | (rw[if_neg (by decide +kernel)];exact ⟨rfl,rfl⟩)
theorem J4J:Func.isInstance Tryz.prog Tryz.f12 Rows.systemTypedUptoRow.origin Rows.systemTypedUptoRow.targs:=of_decide_eq_true (by kernel_rfl)
theorem J4K:false=Rows.systemTypedUptoRow.goesBy Tryz.pinned.checked.prog:=by kernel_rfl
theorem J4H:(#[26,42,50]:Array TypeId).all (fun t=>!Tryz.prog.wantsStandIn t)=true:=by kernel_rfl
theorem J4I:Rows.SystemTypedUptoSaid:=
 OpenClaim.holds_of_cond 12 Tryz.f12 rfl rfl rfl rfl rfl rfl rfl ⟨rfl,rfl,rfl,rfl,rfl⟩ rfl rfl rfl rfl rfl J1h Tryz.func12 J3o J4J J4G
  (fun os started H enc _ F=>by rw[OpenClaim.pre_eq_preRow];exact J35 os started H enc F)
theorem J66:Rows.systemTypedUptoRow.wfByText (Rows.OpenSpec.upto Rows.systemTypedSpec)=true:=by kernel_rfl
theorem systemTyped_card:Rows.SystemTypedUptoCardSaid:=
 Claim7.holds_tied_plain_at .later [] _ _ _ _ J4I (fun _ h=>by cases h) J66 (fun _ h=>by cases h) systemTypedUpto_row_tie rfl ⟨rfl,rfl⟩ JHz rfl (JC2 J1h Tryz.func12 J1W J4H) J4K
end Go.Proofs.YtlhdoekgipaihaaGreatDoor
