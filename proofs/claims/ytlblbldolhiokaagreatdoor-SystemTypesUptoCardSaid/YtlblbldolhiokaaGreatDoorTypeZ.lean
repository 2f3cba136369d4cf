/- Type, Of and Show are as the chapter says: for every input whose values and letters are at most 1048576, the law SystemTypes returns true, and its arguments read as they did. The condition: that bound (the second form), as the statement is given. -/
import Derived.Test.YtlblbldolhiokaaGreatDoorType53
set_option linter.unusedVariables false
set_option linter.unusedSimpArgs false
set_option linter.unusedSectionVars false
set_option maxRecDepth 100000
set_option exponentiation.threshold 400
set_option maxHeartbeats 8000000
namespace Go.Proofs.YtlblbldolhiokaaGreatDoor
open Go Go.Fw Go.ChangeShapes Go.WideShapes Go.ChangeAt Go.RowKit
theorem J1m:Tryz.f12.params=#[26,29]:=by kernel_rfl
theorem J3I (H:Type)(enc:TypeId×Value→H)(W:World)(base:Nat)(args:Array Value)(ds gs:List (DataW H))(before:List MemPlace)
  (hval:∀ (j:Nat) t v,Tryz.f12.params[j]?=some t→args[j]?=some v→Value.okWide Tryz.prog W .any base t v)
  (hW:DataW.Whole enc Tryz.prog Tryz.f12.params.toList Rows.systemTypesSpec.vars false W args.toList ds gs before)(hk:Rows.uptoSmall H (ds++gs)=true) :
  Calls Tryz.prog 12 args W fun e W'=>∃ v,e=.returned v∧Rows.systemTypesSpec.post enc Tryz.prog Tryz.f12 false true false false W args v W':=by
 have hW':=hW;obtain ⟨p,q,hA0,hV,rfl,hfz,hnd⟩:=hW;have hA:DataW.TrodAll enc Tryz.prog W 0 (fun _=>true) true Tryz.f12.params.toList args.toList ds p:=hA0;rw[J1m] at hA hval;obtain ⟨v0,vs0,d0,ds0,p0,q0,e0,rfl,rfl,t0,r0⟩:=trodAll_cons hA;obtain ⟨v1,vs1,d1,ds1,p1,q1,e1,rfl,rfl,t1,r1⟩:=trodAll_cons r0;obtain ⟨rfl,rfl,rfl⟩:=trodAll_nil r1;obtain rfl:args=#[v0,v1]:=by cases args;simp_all
 obtain ⟨rfl,rfl⟩:=trodVars_none hV;clear hA0;simp only[List.append_nil] at hW' hk;have hb:=JGC hk;have k0:=t0;have lt0:∀ x∈p0,x.block<W.heap.size:=by obtain ⟨m,hm⟩:=k0;exact DataW.trod_lt m _ _ _ hm
 obtain ⟨fuel,g0⟩:=t0
 have w0:∃ cs,v0=.agg cs:=by
  obtain ⟨fs,hu,_⟩:=J0v (J5C 26 _ rfl) rfl;obtain ⟨cs,h,_⟩:=okWide_struct hu (hval 0 26 v0 rfl rfl);exact ⟨cs,h⟩
 obtain ⟨z0,⟨a0,ez0,h0⟩,s0⟩:=JDC (JNH JL7 (by decide) fuel) (by omega) w0 g0 (hb d0 (by simp));subst ez0;have k1:=t1;have lt1:∀ x∈p1,x.block<W.heap.size:=by obtain ⟨m,hm⟩:=k1;exact DataW.trod_lt m _ _ _ hm
 obtain ⟨fuel,g1⟩:=t1
 have w1:∃ cs,v1=.agg cs:=by
  obtain ⟨fs,hu,_⟩:=J0v (J5C 29 _ rfl) rfl;obtain ⟨cs,h,_⟩:=okWide_struct hu (hval 1 29 v1 rfl rfl);exact ⟨cs,h⟩
 obtain ⟨z1,⟨a1,ez1,h1⟩,s1⟩:=JDC (JEc JL7 (by decide) fuel) (by omega) w1 g1 (hb d1 (by simp));subst ez1;refine (J7f JF9 a0 h0 a1 h1 (fun _=>False) W #[v0,v1] (fun c h=>h.elim) ⟨rfl,fun i h h'=>?_⟩).mono fun e W' he=>?_
 ·have hi:i<2:=h
  match i,hi with
  |0,_=>exact s0
  |1,_=>rw[JIA] at s1;exact s1
 ·obtain ⟨v,rfl,hr,bel⟩:=he
  cases hr with
  |val _ _=>
    exact ⟨_,rfl,_,_,_,[],_,[],hW',trodAll_mk1 (shut_bool u4 _),trodAll_cons_mk (Below.trod J96 (by kernel_rfl) (of_decide_eq_true (by kernel_rfl)) k0 bel lt0) (trodAll_cons_mk (Below.trod J96 (by kernel_rfl) (of_decide_eq_true (by kernel_rfl)) k1 bel lt1) (trodAll_mk0)),rfl,bel.frame _,fun h=>by cases h⟩
theorem J4f (os:Os){H:Type}(enc:TypeId×Value→H):∃ places,DataW.whole enc Tryz.prog ((laidW os).forCall (fun _ _=>0) ⟨#[],#[.agg #[Value.slice none 0 0,Value.slice none 0 0,Value.slice none 0 0,Value.slice none 0 0],.agg #[Value.string ⟨#[]⟩,Value.string ⟨#[]⟩,.int .i64 0,Value.slice none 0 0]],[]⟩).memory Tryz.f12.params.toList Rows.systemTypesSpec.vars false (#[.agg #[Value.slice none 0 0,Value.slice none 0 0,Value.slice none 0 0,Value.slice none 0 0],.agg #[Value.string ⟨#[]⟩,Value.string ⟨#[]⟩,.int .i64 0,Value.slice none 0 0]]:Array Value).toList 8=some ([.agg [.nil,.nil,.nil,.nil],.agg [.lit (.string []),.lit (.string []),.lit (.int .i64 0),.nil]],[],places):=⟨[],by kernel_rfl⟩
theorem J3m (os:Os)(started:os.Started)(H:Type)(enc:TypeId×Value→H)(F:Stop.Interp) :
  ReturnsInHanded {} Tryz.checked os 12 .any ((Rows.OpenSpec.upto Rows.systemTypesSpec).preRow enc Tryz.prog Tryz.f12 Rows.systemTypesUptoRow.domain false Rows.systemTypesUptoRow.laid) (((Rows.OpenSpec.upto Rows.systemTypesSpec).at F).post enc Tryz.prog Tryz.f12 false true false false):=by
 obtain ⟨places,hx⟩:=J4f os enc
 refine returnsInHanded_of_row (C:=Tryz.checked) (s:=(Rows.OpenSpec.upto Rows.systemTypesSpec)) JJV started (by kernel_rfl) Tryz.func12
  (witness_row_at (enc:=enc) (C:=Tryz.checked) false (laidW os) #[.agg #[Value.slice none 0 0,Value.slice none 0 0,Value.slice none 0 0,Value.slice none 0 0],.agg #[Value.string ⟨#[]⟩,Value.string ⟨#[]⟩,.int .i64 0,Value.slice none 0 0]] rfl (by kernel_rfl) (by kernel_rfl) (by kernel_rfl)
    (OpenSpec.preRow_of_cond 8 hx (by kernel_rfl) (fun k hk=>by cases hk;kernel_rfl) (by kernel_rfl) (JJi os _))) ?_
 intro W base args ds gs before hval hW _ hcond _ _ _ _;exact J3I H enc W base args ds gs before hval hW (hcond _ rfl)
theorem J1w:Tryz.prog.funcNamed Rows.systemTypesUptoRow.func=some 12:=by kernel_rfl
theorem J7Z:(Rows.systemTypesUptoRow.inPlace==Tryz.prog.inPlace 12)=true:=by kernel_rfl
theorem J7Y:(Rows.systemTypesUptoRow.unfollowed==Tryz.prog.unfollowed 12)=true:=by kernel_rfl
theorem J7X:(Rows.systemTypesUptoRow.recurses==Tryz.prog.recurses 12)=true:=by kernel_rfl
theorem J7W:(Rows.systemTypesUptoRow.named==Tryz.prog.varsNamed 12)=true:=by kernel_rfl
theorem J7V:(Rows.systemTypesUptoRow.loops==(Tryz.f12.params.toList++(Rows.OpenSpec.upto Rows.systemTypesSpec).bare.plain.varTypes Tryz.prog).any (Tryz.prog.loopsFrom ·))=true:=by kernel_rfl
theorem J7U:(Rows.systemTypesUptoRow.lifted==Tryz.prog.liftsFinal)=true:=JCA
theorem J7T:(Tryz.prog.make==some Rows.systemTypesUptoRow.make)=true:=JM0
theorem J4g:joinedFacts Tryz.prog 12 Tryz.f12 (Rows.OpenSpec.upto Rows.systemTypesSpec).bare Rows.systemTypesUptoRow=true:=by
 unfold joinedFacts
 repeat (with_reducible refine Bool.and_eq_true_iff.2 ⟨?_,?_⟩)
 all_goals first|with_reducible exact J96|with_reducible exact JEf|with_reducible exact JBu|with_reducible exact JGm|with_reducible exact J7Z|with_reducible exact J7Y|with_reducible exact J7X|with_reducible exact J7W|with_reducible exact J7V|with_reducible exact J7U|with_reducible exact J7T|kernel_rfl
theorem J5H:Func.isWrapper Tryz.prog Tryz.f12 Rows.systemTypesUptoRow.wrapper Rows.systemTypesUptoRow.mainSum:=by unfold Func.isWrapper;first|(rw[if_pos (by decide +kernel)];kernel_rfl)|(rw[if_neg (by decide +kernel)];exact ⟨rfl,rfl⟩)
theorem J5K:Func.isInstance Tryz.prog Tryz.f12 Rows.systemTypesUptoRow.origin Rows.systemTypesUptoRow.targs:=of_decide_eq_true (by kernel_rfl)
theorem J5L:false=Rows.systemTypesUptoRow.goesBy Tryz.pinned.checked.prog:=by kernel_rfl
theorem J5I:(#[26,29]:Array TypeId).all (fun t=>!Tryz.prog.wantsStandIn t)=true:=by kernel_rfl
theorem J5J:Rows.SystemTypesUptoSaid:=
 OpenClaim.holds_of_cond 12 Tryz.f12 rfl rfl rfl rfl rfl rfl rfl ⟨rfl,rfl,rfl,rfl,rfl⟩ rfl rfl rfl rfl rfl J1w Tryz.func12 J4g J5K J5H
  (fun os started H enc _ F=>by rw[OpenClaim.pre_eq_preRow];exact J3m os started H enc F)
theorem J7S:Rows.systemTypesUptoRow.wfByText (Rows.OpenSpec.upto Rows.systemTypesSpec)=true:=by kernel_rfl
theorem systemTypes_card:Rows.SystemTypesUptoCardSaid:=
 Claim7.holds_tied_plain_at .later [] _ _ _ _ J5J (fun _ h=>by cases h) J7S (fun _ h=>by cases h) systemTypesUpto_row_tie rfl ⟨rfl,rfl⟩ JM1 rfl (JEY J1w Tryz.func12 J1m J5I) J5L
end Go.Proofs.YtlblbldolhiokaaGreatDoor
