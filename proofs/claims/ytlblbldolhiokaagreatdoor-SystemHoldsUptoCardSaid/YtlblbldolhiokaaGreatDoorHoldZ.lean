/- Holds is true exactly if all Residuals are 0: for every input whose values and letters are at most 1048576, the law SystemHolds returns true, and its arguments read as they did. The condition: that bound (the second form), as the statement is given. -/
import Derived.Test.YtlblbldolhiokaaGreatDoorHold51
set_option linter.unusedVariables false
set_option linter.unusedSimpArgs false
set_option linter.unusedSectionVars false
set_option maxRecDepth 100000
set_option exponentiation.threshold 400
set_option maxHeartbeats 8000000
namespace Go.Proofs.YtlblbldolhiokaaGreatDoor
open Go Go.Fw Go.ChangeShapes Go.WideShapes Go.ChangeAt Go.RowKit
theorem J1Y:Tryz.f9.params=#[26,33]:=by kernel_rfl
theorem J2o (H:Type) (enc:TypeId×Value→H) (W:World) (base:Nat) (args:Array Value) (ds gs:List (DataW H)) (before:List MemPlace)
  (hval:∀ (j:Nat) t v,Tryz.f9.params[j]?=some t→args[j]?=some v→Value.okWide Tryz.prog W .any base t v)
  (hW:DataW.Whole enc Tryz.prog Tryz.f9.params.toList Rows.systemHoldsSpec.vars false W args.toList ds gs before) (hk:Rows.uptoSmall H (ds++gs)=true) :
  Calls Tryz.prog 9 args W fun e W'=>∃ v,e=.returned v∧Rows.systemHoldsSpec.post enc Tryz.prog Tryz.f9 false true false false W args v W':=by
 have hW':=hW;obtain ⟨p,q,hA0,hV,rfl,hfz,hnd⟩:=hW;have hA:DataW.TrodAll enc Tryz.prog W 0 (fun _=>true) true Tryz.f9.params.toList args.toList ds p:=hA0;rw[J1Y] at hA hval;obtain ⟨v0,vs0,d0,ds0,p0,q0,e0,rfl,rfl,t0,r0⟩:=trodAll_cons hA;obtain ⟨v1,vs1,d1,ds1,p1,q1,e1,rfl,rfl,t1,r1⟩:=trodAll_cons r0;obtain ⟨rfl,rfl,rfl⟩:=trodAll_nil r1;obtain rfl:args=#[v0,v1]:=by cases args;simp_all
 obtain ⟨rfl,rfl⟩:=trodVars_none hV;clear hA0;simp only[List.append_nil] at hW' hk;have hb:=JDS hk;have k0:=t0;have lt0:∀ x∈p0,x.block<W.heap.size:=by obtain ⟨m,hm⟩:=k0;exact DataW.trod_lt m _ _ _ hm
 obtain ⟨fuel,g0⟩:=t0
 have w0:∃ cs,v0=.agg cs:=by
  obtain ⟨fs,hu,_⟩:=J0P (J47 26 _ rfl) rfl;obtain ⟨cs,h,_⟩:=okWide_struct hu (hval 0 26 v0 rfl rfl);exact ⟨cs,h⟩
 obtain ⟨z0,⟨a0,ez0,h0⟩,s0⟩:=JB2 (JJC JHP (by decide) fuel) (by omega) w0 g0 (hb d0 (by simp));subst ez0;have k1:=t1;have lt1:∀ x∈p1,x.block<W.heap.size:=by obtain ⟨m,hm⟩:=k1;exact DataW.trod_lt m _ _ _ hm
 obtain ⟨fuel,g1⟩:=t1
 have w1:∃ cs,v1=.agg cs:=by
  obtain ⟨fs,hu,_⟩:=J0P (J47 33 _ rfl) rfl;obtain ⟨cs,h,_⟩:=okWide_struct hu (hval 1 33 v1 rfl rfl);exact ⟨cs,h⟩
 obtain ⟨z1,⟨a1,ez1,h1⟩,s1⟩:=JB2 (JI0 JHP (by decide) fuel) (by omega) w1 g1 (hb d1 (by simp));subst ez1;refine (J6O JCe a0 h0 a1 h1 (fun _=>False) W #[v0,v1] (fun c h=>h.elim) ⟨rfl,fun i h h'=>?_⟩).mono fun e W' he=>?_
 ·have hi:i<2:=h
  match i,hi with
  | 0,_=>exact s0
  | 1,_=>exact s1
 ·obtain ⟨v,rfl,hr,bel⟩:=he
  cases hr with
  | val _ _=>
    exact ⟨_,rfl,_,_,_,[],_,[],hW',trodAll_mk1 (shut_bool u4 _),trodAll_cons_mk (Below.trod J7c (by kernel_rfl) (of_decide_eq_true (by kernel_rfl)) k0 bel lt0) (trodAll_cons_mk (Below.trod J7c (by kernel_rfl) (of_decide_eq_true (by kernel_rfl)) k1 bel lt1) (trodAll_mk0)),rfl,bel.frame _,fun h=>by cases h⟩
theorem J3p (os:Os) {H:Type} (enc:TypeId×Value→H):∃ places,DataW.whole enc Tryz.prog ((laidW os).forCall (fun _ _=>0) ⟨#[],#[.agg #[Value.slice none 0 0,Value.slice none 0 0,Value.slice none 0 0,Value.slice none 0 0],.agg #[Value.string ⟨#[]⟩,.bool false,Value.slice none 0 0]],[]⟩).memory Tryz.f9.params.toList Rows.systemHoldsSpec.vars false (#[.agg #[Value.slice none 0 0,Value.slice none 0 0,Value.slice none 0 0,Value.slice none 0 0],.agg #[Value.string ⟨#[]⟩,.bool false,Value.slice none 0 0]]:Array Value).toList 8=some ([.agg [.nil,.nil,.nil,.nil],.agg [.lit (.string []),.lit (.bool false),.nil]],[],places):=⟨[],by kernel_rfl⟩
theorem J37 (os:Os) (started:os.Started) (H:Type) (enc:TypeId×Value→H) (F:Stop.Interp) :
  ReturnsInHanded {} Tryz.checked os 9 .any ((Rows.OpenSpec.upto Rows.systemHoldsSpec).preRow enc Tryz.prog Tryz.f9 Rows.systemHoldsUptoRow.domain false Rows.systemHoldsUptoRow.laid) (((Rows.OpenSpec.upto Rows.systemHoldsSpec).at F).post enc Tryz.prog Tryz.f9 false true false false):=by
 obtain ⟨places,hx⟩:=J3p os enc
 refine returnsInHanded_of_row (C:=Tryz.checked) (s:=(Rows.OpenSpec.upto Rows.systemHoldsSpec)) JG4 started (by kernel_rfl) Tryz.func9
  (witness_row_at (enc:=enc) (C:=Tryz.checked) false (laidW os) #[.agg #[Value.slice none 0 0,Value.slice none 0 0,Value.slice none 0 0,Value.slice none 0 0],.agg #[Value.string ⟨#[]⟩,.bool false,Value.slice none 0 0]] rfl (by kernel_rfl) (by kernel_rfl) (by kernel_rfl)
    (OpenSpec.preRow_of_cond 8 hx (by kernel_rfl) (fun k hk=>by cases hk;kernel_rfl) (by kernel_rfl) (JGC os _))) ?_
 intro W base args ds gs before hval hW _ hcond _ _ _ _;exact J2o H enc W base args ds gs before hval hW (hcond _ rfl)
theorem J1h:Tryz.prog.funcNamed Rows.systemHoldsUptoRow.func=some 9:=by kernel_rfl
theorem J6I:(Rows.systemHoldsUptoRow.inPlace==Tryz.prog.inPlace 9)=true:=by kernel_rfl
theorem J6H:(Rows.systemHoldsUptoRow.unfollowed==Tryz.prog.unfollowed 9)=true:=by kernel_rfl
theorem J6G:(Rows.systemHoldsUptoRow.recurses==Tryz.prog.recurses 9)=true:=by kernel_rfl
theorem J6F:(Rows.systemHoldsUptoRow.named==Tryz.prog.varsNamed 9)=true:=by kernel_rfl
theorem J6E:(Rows.systemHoldsUptoRow.loops==(Tryz.f9.params.toList++(Rows.OpenSpec.upto Rows.systemHoldsSpec).bare.plain.varTypes Tryz.prog).any (Tryz.prog.loopsFrom ·))=true:=by kernel_rfl
theorem J6D:(Rows.systemHoldsUptoRow.lifted==Tryz.prog.liftsFinal)=true:=JAA
theorem J6C:(Tryz.prog.make==some Rows.systemHoldsUptoRow.make)=true:=JI6
theorem J3q:joinedFacts Tryz.prog 9 Tryz.f9 (Rows.OpenSpec.upto Rows.systemHoldsSpec).bare Rows.systemHoldsUptoRow=true:=by
 unfold joinedFacts
 repeat (with_reducible refine Bool.and_eq_true_iff.2 ⟨?_,?_⟩)
 all_goals first | with_reducible exact J7c | with_reducible exact JCH | with_reducible exact J9y | with_reducible exact JDy | with_reducible exact J6I | with_reducible exact J6H | with_reducible exact J6G | with_reducible exact J6F | with_reducible exact J6E | with_reducible exact J6D | with_reducible exact J6C | kernel_rfl
theorem J4M:Func.isWrapper Tryz.prog Tryz.f9 Rows.systemHoldsUptoRow.wrapper Rows.systemHoldsUptoRow.mainSum:=by unfold Func.isWrapper;first | (rw[if_pos (by decide +kernel)];kernel_rfl) | (rw[if_neg (by decide +kernel)];exact ⟨rfl,rfl⟩)
theorem J4P:Func.isInstance Tryz.prog Tryz.f9 Rows.systemHoldsUptoRow.origin Rows.systemHoldsUptoRow.targs:=of_decide_eq_true (by kernel_rfl)
theorem J4Q:false=Rows.systemHoldsUptoRow.goesBy Tryz.pinned.checked.prog:=by kernel_rfl
theorem J4N:(#[26,33]:Array TypeId).all (fun t=>!Tryz.prog.wantsStandIn t)=true:=by kernel_rfl
theorem J4O:Rows.SystemHoldsUptoSaid:=
 OpenClaim.holds_of_cond 9 Tryz.f9 rfl rfl rfl rfl rfl rfl rfl ⟨rfl,rfl,rfl,rfl,rfl⟩ rfl rfl rfl rfl rfl J1h Tryz.func9 J3q J4P J4M
  (fun os started H enc _ F=>by rw[OpenClaim.pre_eq_preRow];exact J37 os started H enc F)
theorem J6B:Rows.systemHoldsUptoRow.wfByText (Rows.OpenSpec.upto Rows.systemHoldsSpec)=true:=by kernel_rfl
theorem systemHolds_card:Rows.SystemHoldsUptoCardSaid:=
 Claim7.holds_tied_plain_at .later [] _ _ _ _ J4O (fun _ h=>by cases h) J6B (fun _ h=>by cases h) systemHoldsUpto_row_tie rfl ⟨rfl,rfl⟩ JI7 rfl (JCE J1h Tryz.func9 J1Y J4N) J4Q
end Go.Proofs.YtlblbldolhiokaaGreatDoor
