/- Binds of other uses than those of the expression do not matter: for every input whose values and letters are at most 1048576, the law SystemNeeded returns true, and its arguments read as they did. The condition: that bound (the second form), as the statement is given. -/
import Derived.Test.YtlblbldolhiokaaGreatDoorNeed52
set_option linter.unusedVariables false
set_option linter.unusedSimpArgs false
set_option linter.unusedSectionVars false
set_option maxRecDepth 100000
set_option exponentiation.threshold 400
set_option maxHeartbeats 8000000
namespace Go.Proofs.YtlblbldolhiokaaGreatDoor
open Go Go.Fw Go.ChangeShapes Go.WideShapes Go.ChangeAt Go.RowKit
theorem J1S:Tryz.f11.params=#[26,29,33]:=by kernel_rfl
theorem J2O (H:Type) (enc:TypeId×Value→H) (W:World) (base:Nat) (args:Array Value) (ds gs:List (DataW H)) (before:List MemPlace)
  (hval:∀ (j:Nat) t v,Tryz.f11.params[j]?=some t→args[j]?=some v→Value.okWide Tryz.prog W .any base t v)
  (hW:DataW.Whole enc Tryz.prog Tryz.f11.params.toList Rows.systemNeededSpec.vars false W args.toList ds gs before) (hk:Rows.uptoSmall H (ds++gs)=true) :
  Calls Tryz.prog 11 args W fun e W'=>∃ v,e=.returned v∧Rows.systemNeededSpec.post enc Tryz.prog Tryz.f11 false true false false W args v W':=by
 have hW':=hW;obtain ⟨p,q,hA0,hV,rfl,hfz,hnd⟩:=hW;have hA:DataW.TrodAll enc Tryz.prog W 0 (fun _=>true) true Tryz.f11.params.toList args.toList ds p:=hA0;rw[J1S] at hA hval;obtain ⟨v0,vs0,d0,ds0,p0,q0,e0,rfl,rfl,t0,r0⟩:=trodAll_cons hA;obtain ⟨v1,vs1,d1,ds1,p1,q1,e1,rfl,rfl,t1,r1⟩:=trodAll_cons r0;obtain ⟨v2,vs2,d2,ds2,p2,q2,e2,rfl,rfl,t2,r2⟩:=trodAll_cons r1;obtain ⟨rfl,rfl,rfl⟩:=trodAll_nil r2;obtain rfl:args=#[v0,v1,v2]:=by cases args;simp_all
 obtain ⟨rfl,rfl⟩:=trodVars_none hV;clear hA0;simp only[List.append_nil] at hW' hk;have hb:=JEA hk;have k0:=t0;have lt0:∀ x∈p0,x.block<W.heap.size:=by obtain ⟨m,hm⟩:=k0;exact DataW.trod_lt m _ _ _ hm
 obtain ⟨fuel,g0⟩:=t0
 have w0:∃ cs,v0=.agg cs:=by
  obtain ⟨fs,hu,_⟩:=J0O (J3q 26 _ rfl) rfl;obtain ⟨cs,h,_⟩:=okWide_struct hu (hval 0 26 v0 rfl rfl);exact ⟨cs,h⟩
 obtain ⟨z0,⟨a0,ez0,h0⟩,s0⟩:=J7u (JKQ JFq (by decide) fuel) (by omega) w0 g0 (hb d0 (by simp));subst ez0;have k1:=t1;have lt1:∀ x∈p1,x.block<W.heap.size:=by obtain ⟨m,hm⟩:=k1;exact DataW.trod_lt m _ _ _ hm
 obtain ⟨fuel,g1⟩:=t1
 have w1:∃ cs,v1=.agg cs:=by
  obtain ⟨fs,hu,_⟩:=J0O (J3q 29 _ rfl) rfl;obtain ⟨cs,h,_⟩:=okWide_struct hu (hval 1 29 v1 rfl rfl);exact ⟨cs,h⟩
 obtain ⟨z1,⟨a1,ez1,h1⟩,s1⟩:=J7u (JCq JFq (by decide) fuel) (by omega) w1 g1 (hb d1 (by simp));subst ez1;have k2:=t2;have lt2:∀ x∈p2,x.block<W.heap.size:=by obtain ⟨m,hm⟩:=k2;exact DataW.trod_lt m _ _ _ hm
 obtain ⟨fuel,g2⟩:=t2
 have w2:∃ cs,v2=.agg cs:=by
  obtain ⟨fs,hu,_⟩:=J0O (J3q 33 _ rfl) rfl;obtain ⟨cs,h,_⟩:=okWide_struct hu (hval 2 33 v2 rfl rfl);exact ⟨cs,h⟩
 obtain ⟨z2,⟨a2,ez2,h2⟩,s2⟩:=J7u (JJB JFq (by decide) fuel) (by omega) w2 g2 (hb d2 (by simp));subst ez2;refine (J6W JDI a0 h0 a1 h1 a2 h2 (fun _=>False) W #[v0,v1,v2] (fun c h=>h.elim) ⟨rfl,fun i h h'=>?_⟩).mono fun e W' he=>?_
 ·have hi:i<3:=h
  match i,hi with
  | 0,_=>exact s0
  | 1,_=>rw[JFv] at s1;exact s1
  | 2,_=>exact s2
 ·obtain ⟨v,rfl,hr,bel⟩:=he
  cases hr with
  | val _ _=>
    exact ⟨_,rfl,_,_,_,[],_,[],hW',trodAll_mk1 (shut_bool u4 _),trodAll_cons_mk (Below.trod J4o (by kernel_rfl) (of_decide_eq_true (by kernel_rfl)) k0 bel lt0) (trodAll_cons_mk (Below.trod J4o (by kernel_rfl) (of_decide_eq_true (by kernel_rfl)) k1 bel lt1) (trodAll_cons_mk (Below.trod J4o (by kernel_rfl) (of_decide_eq_true (by kernel_rfl)) k2 bel lt2) (trodAll_mk0))),rfl,bel.frame _,fun h=>by cases h⟩
theorem J3M (os:Os) {H:Type} (enc:TypeId×Value→H):∃ places,DataW.whole enc Tryz.prog ((laidW os).forCall (fun _ _=>0) ⟨#[],#[.agg #[Value.slice none 0 0,Value.slice none 0 0,Value.slice none 0 0,Value.slice none 0 0],.agg #[Value.string ⟨#[]⟩,Value.string ⟨#[]⟩,.int .i64 0,Value.slice none 0 0],.agg #[Value.string ⟨#[]⟩,.bool false,Value.slice none 0 0]],[]⟩).memory Tryz.f11.params.toList Rows.systemNeededSpec.vars false (#[.agg #[Value.slice none 0 0,Value.slice none 0 0,Value.slice none 0 0,Value.slice none 0 0],.agg #[Value.string ⟨#[]⟩,Value.string ⟨#[]⟩,.int .i64 0,Value.slice none 0 0],.agg #[Value.string ⟨#[]⟩,.bool false,Value.slice none 0 0]]:Array Value).toList 8=some ([.agg [.nil,.nil,.nil,.nil],.agg [.lit (.string []),.lit (.string []),.lit (.int .i64 0),.nil],.agg [.lit (.string []),.lit (.bool false),.nil]],[],places):=⟨[],by kernel_rfl⟩
theorem J36 (os:Os) (started:os.Started) (H:Type) (enc:TypeId×Value→H) (F:Stop.Interp) :
  ReturnsInHanded {} Tryz.checked os 11 .any ((Rows.OpenSpec.upto Rows.systemNeededSpec).preRow enc Tryz.prog Tryz.f11 Rows.systemNeededUptoRow.domain false Rows.systemNeededUptoRow.laid) (((Rows.OpenSpec.upto Rows.systemNeededSpec).at F).post enc Tryz.prog Tryz.f11 false true false false):=by
 obtain ⟨places,hx⟩:=J3M os enc
 refine returnsInHanded_of_row (C:=Tryz.checked) (s:=(Rows.OpenSpec.upto Rows.systemNeededSpec)) JH2 started (by kernel_rfl) Tryz.func11
  (witness_row_at (enc:=enc) (C:=Tryz.checked) false (laidW os) #[.agg #[Value.slice none 0 0,Value.slice none 0 0,Value.slice none 0 0,Value.slice none 0 0],.agg #[Value.string ⟨#[]⟩,Value.string ⟨#[]⟩,.int .i64 0,Value.slice none 0 0],.agg #[Value.string ⟨#[]⟩,.bool false,Value.slice none 0 0]] rfl (by kernel_rfl) (by kernel_rfl) (by kernel_rfl)
    (OpenSpec.preRow_of_cond 8 hx (by kernel_rfl) (fun k hk=>by cases hk;kernel_rfl) (by kernel_rfl) (JHD os _))) ?_
 intro W base args ds gs before hval hW _ hcond _ _ _ _;exact J2O H enc W base args ds gs before hval hW (hcond _ rfl)
theorem J1b:Tryz.prog.funcNamed Rows.systemNeededUptoRow.func=some 11:=by kernel_rfl
theorem J5K:(Rows.systemNeededUptoRow.inPlace==Tryz.prog.inPlace 11)=true:=by kernel_rfl
theorem J5J:(Rows.systemNeededUptoRow.unfollowed==Tryz.prog.unfollowed 11)=true:=by kernel_rfl
theorem J5I:(Rows.systemNeededUptoRow.recurses==Tryz.prog.recurses 11)=true:=by kernel_rfl
theorem J5H:(Rows.systemNeededUptoRow.named==Tryz.prog.varsNamed 11)=true:=by kernel_rfl
theorem J5G:(Rows.systemNeededUptoRow.loops==(Tryz.f11.params.toList++(Rows.OpenSpec.upto Rows.systemNeededSpec).bare.plain.varTypes Tryz.prog).any (Tryz.prog.loopsFrom ·))=true:=by kernel_rfl
theorem J5F:(Rows.systemNeededUptoRow.lifted==Tryz.prog.liftsFinal)=true:=JAd
theorem J5E:(Tryz.prog.make==some Rows.systemNeededUptoRow.make)=true:=JJH
theorem J3N:joinedFacts Tryz.prog 11 Tryz.f11 (Rows.OpenSpec.upto Rows.systemNeededSpec).bare Rows.systemNeededUptoRow=true:=by
 unfold joinedFacts
 repeat (with_reducible refine Bool.and_eq_true_iff.2 ⟨?_,?_⟩)
 all_goals first | with_reducible exact J4o | with_reducible exact JCt | with_reducible exact JAQ | with_reducible exact JEk | with_reducible exact J5K | with_reducible exact J5J | with_reducible exact J5I | with_reducible exact J5H | with_reducible exact J5G | with_reducible exact J5F | with_reducible exact J5E | kernel_rfl
theorem J45:Func.isWrapper Tryz.prog Tryz.f11 Rows.systemNeededUptoRow.wrapper Rows.systemNeededUptoRow.mainSum:=by unfold Func.isWrapper;first | (rw[if_pos (by decide +kernel)];kernel_rfl) | (rw[if_neg (by decide +kernel)];exact ⟨rfl,rfl⟩)
theorem J48:Func.isInstance Tryz.prog Tryz.f11 Rows.systemNeededUptoRow.origin Rows.systemNeededUptoRow.targs:=of_decide_eq_true (by kernel_rfl)
theorem J49:false=Rows.systemNeededUptoRow.goesBy Tryz.pinned.checked.prog:=by kernel_rfl
theorem J46:(#[26,29,33]:Array TypeId).all (fun t=>!Tryz.prog.wantsStandIn t)=true:=by kernel_rfl
theorem J47:Rows.SystemNeededUptoSaid:=
 OpenClaim.holds_of_cond 11 Tryz.f11 rfl rfl rfl rfl rfl rfl rfl ⟨rfl,rfl,rfl,rfl,rfl⟩ rfl rfl rfl rfl rfl J1b Tryz.func11 J3N J48 J45
  (fun os started H enc _ F=>by rw[OpenClaim.pre_eq_preRow];exact J36 os started H enc F)
theorem J5D:Rows.systemNeededUptoRow.wfByText (Rows.OpenSpec.upto Rows.systemNeededSpec)=true:=by kernel_rfl
theorem systemNeeded_card:Rows.SystemNeededUptoCardSaid:=
 Claim7.holds_tied_plain_at .later [] _ _ _ _ J47 (fun _ h=>by cases h) J5D (fun _ h=>by cases h) systemNeededUpto_row_tie rfl ⟨rfl,rfl⟩ JJI rfl (JCm J1b Tryz.func11 J1S J46) J49
end Go.Proofs.YtlblbldolhiokaaGreatDoor
