/- Graph of the uses of Tops is Tops, and each of its uses has the greatest order of its variable: for every input whose values and letters are at most 1048576, the law MatchTops returns true, and its arguments read as they did. The condition: that bound (the second form), as the statement is given. -/
import Derived.Test.YtlhdoekgipaihaaGreatDoorMt52
set_option linter.unusedVariables false
set_option linter.unusedSimpArgs false
set_option linter.unusedSectionVars false
set_option maxRecDepth 100000
set_option exponentiation.threshold 400
namespace Go.Proofs.YtlhdoekgipaihaaGreatDoor
open Go Go.Fw Go.ChangeShapes Go.WideShapes Go.ChangeAt Go.RowKit
theorem matchTops_params:Tryz.f4.params=#[26]:=by kernel_rfl
theorem matchTops_contract (H:Type) (enc:TypeId×Value→H) (W:World) (base:Nat) (args:Array Value) (ds gs:List (DataW H)) (before:List MemPlace)
  (hval:∀ (j:Nat) t v,Tryz.f4.params[j]?=some t→args[j]?=some v→Value.okWide Tryz.prog W .any base t v)
  (hW:DataW.Whole enc Tryz.prog Tryz.f4.params.toList Rows.matchTopsSpec.vars false W args.toList ds gs before) (hk:Rows.uptoSmall H (ds++gs)=true) :
  Calls Tryz.prog 4 args W fun e W'=>∃ v,e=.returned v∧Rows.matchTopsSpec.post enc Tryz.prog Tryz.f4 false true false false W args v W':=by
 have hW':=hW
 obtain ⟨p,q,hA0,hV,rfl,hfz,hnd⟩:=hW
 have hA:DataW.TrodAll enc Tryz.prog W 0 (fun _=>true) true Tryz.f4.params.toList args.toList ds p:=hA0
 rw[matchTops_params] at hA hval
 obtain ⟨v0,vs0,d0,ds0,p0,q0,e0,rfl,rfl,t0,r0⟩:=trodAll_cons hA
 obtain ⟨rfl,rfl,rfl⟩:=trodAll_nil r0
 obtain rfl:args=#[v0]:=by cases args;simp_all
 obtain ⟨rfl,rfl⟩:=trodVars_none hV
 clear hA0
 simp only[List.append_nil] at hW' hk
 have hb:=small_all hk
 have k0:=t0
 have lt0:∀ x∈p0,x.block<W.heap.size:=by obtain ⟨m,hm⟩:=k0;exact DataW.trod_lt m _ _ _ hm
 obtain ⟨fuel,g0⟩:=t0
 have w0:∃ cs,v0=.agg cs:=by
  obtain ⟨fs,hu,_⟩:=und_struct (T_ok 26 _ rfl) rfl
  obtain ⟨cs,h,_⟩:=okWide_struct hu (hval 0 26 v0 rfl rfl)
  exact ⟨cs,h⟩
 obtain ⟨z0,⟨a0,ez0,h0⟩,s0⟩:=open_agg (openSy bulkLB (by decide) fuel) (by omega) w0 g0 (hb d0 (by simp))
 subst ez0
 refine (MatchTops_ok awake13_ok a0 h0 (fun _=>False) W #[v0] (fun c h=>h.elim) ⟨rfl,fun i h h'=>?_⟩).mono fun e W' he=>?_
 ·have hi:i<1:=h
  match i,hi with
  | 0,_=>exact s0
 ·obtain ⟨v,rfl,hr,bel⟩:=he
  cases hr with
  | val _ _=>
    exact ⟨_,rfl,_,_,_,[],_,[],hW',trodAll_mk1 (shut_bool u4 _),trodAll_cons_mk (Below.trod laid_out (by kernel_rfl) (of_decide_eq_true (by kernel_rfl)) k0 bel lt0) (trodAll_mk0),rfl,bel.frame _,fun h=>by cases h⟩
theorem matchTops_reads (os:Os) {H:Type} (enc:TypeId×Value→H):∃ places,DataW.whole enc Tryz.prog ((laidW os).forCall (fun _ _=>0) ⟨#[],#[.agg #[Value.slice none 0 0,Value.slice none 0 0,Value.slice none 0 0,Value.slice none 0 0]],[]⟩).memory Tryz.f4.params.toList Rows.matchTopsSpec.vars false (#[.agg #[Value.slice none 0 0,Value.slice none 0 0,Value.slice none 0 0,Value.slice none 0 0]]:Array Value).toList 8=some ([.agg [.nil,.nil,.nil,.nil]],[],places):=⟨[],by kernel_rfl⟩
theorem matchTops_lifted (os:Os) (started:os.Started) (H:Type) (enc:TypeId×Value→H) (F:Stop.Interp) :
  ReturnsInHanded {} Tryz.checked os 4 .any ((Rows.OpenSpec.upto Rows.matchTopsSpec).preRow enc Tryz.prog Tryz.f4 Rows.matchTopsUptoRow.domain false Rows.matchTopsUptoRow.laid) (((Rows.OpenSpec.upto Rows.matchTopsSpec).at F).post enc Tryz.prog Tryz.f4 false true false false):=by
 obtain ⟨places,hx⟩:=matchTops_reads os enc
 refine returnsInHanded_of_row (C:=Tryz.checked) (s:=(Rows.OpenSpec.upto Rows.matchTopsSpec)) own_knob started (by kernel_rfl) Tryz.func4
  (witness_row_at (enc:=enc) (C:=Tryz.checked) false (laidW os) #[.agg #[Value.slice none 0 0,Value.slice none 0 0,Value.slice none 0 0,Value.slice none 0 0]] rfl (by kernel_rfl) (by kernel_rfl) (by kernel_rfl)
    (OpenSpec.preRow_of_cond 8 hx (by kernel_rfl) (fun k hk=>by cases hk;kernel_rfl) (by kernel_rfl) (laid_met os _))) ?_
 intro W base args ds gs before hval hW _ hcond _ _ _ _
 exact matchTops_contract H enc W base args ds gs before hval hW (hcond _ rfl)
theorem matchTops_named:Tryz.prog.funcNamed Rows.matchTopsUptoRow.func=some 4:=by kernel_rfl
theorem matchTops_j1:(Rows.matchTopsUptoRow.inPlace==Tryz.prog.inPlace 4)=true:=by kernel_rfl
theorem matchTops_j2:(Rows.matchTopsUptoRow.unfollowed==Tryz.prog.unfollowed 4)=true:=by kernel_rfl
theorem matchTops_j3:(Rows.matchTopsUptoRow.recurses==Tryz.prog.recurses 4)=true:=by kernel_rfl
theorem matchTops_j4:(Rows.matchTopsUptoRow.named==Tryz.prog.varsNamed 4)=true:=by kernel_rfl
theorem matchTops_j5:(Rows.matchTopsUptoRow.loops==(Tryz.f4.params.toList++(Rows.OpenSpec.upto Rows.matchTopsSpec).bare.plain.varTypes Tryz.prog).any (Tryz.prog.loopsFrom ·))=true:=by kernel_rfl
theorem matchTops_j6:(Rows.matchTopsUptoRow.lifted==Tryz.prog.liftsFinal)=true:=lifts_final
theorem matchTops_j7:(Tryz.prog.make==some Rows.matchTopsUptoRow.make)=true:=make_is
theorem matchTops_facts:joinedFacts Tryz.prog 4 Tryz.f4 (Rows.OpenSpec.upto Rows.matchTopsSpec).bare Rows.matchTopsUptoRow=true:=by
 unfold joinedFacts
 repeat (with_reducible refine Bool.and_eq_true_iff.2 ⟨?_,?_⟩)
 all_goals first | with_reducible exact laid_out | with_reducible exact maps_rowed | with_reducible exact stops_heard | with_reducible exact may_enter | with_reducible exact matchTops_j1 | with_reducible exact matchTops_j2 | with_reducible exact matchTops_j3 | with_reducible exact matchTops_j4 | with_reducible exact matchTops_j5 | with_reducible exact matchTops_j6 | with_reducible exact matchTops_j7 | kernel_rfl
theorem matchTops_wrap:Func.isWrapper Tryz.prog Tryz.f4 Rows.matchTopsUptoRow.wrapper Rows.matchTopsUptoRow.mainSum:=by unfold Func.isWrapper;first | (rw[if_pos (by decide +kernel)];kernel_rfl) | (rw[if_neg (by decide +kernel)];exact ⟨rfl,rfl⟩)
theorem matchTops_inst:Func.isInstance Tryz.prog Tryz.f4 Rows.matchTopsUptoRow.origin Rows.matchTopsUptoRow.targs:=of_decide_eq_true (by kernel_rfl)
theorem matchTops_goes:false=Rows.matchTopsUptoRow.goesBy Tryz.pinned.checked.prog:=by kernel_rfl
theorem matchTops_want:(#[26]:Array TypeId).all (fun t=>!Tryz.prog.wantsStandIn t)=true:=by kernel_rfl
theorem matchTops_upto:Rows.MatchTopsUptoSaid:=
 OpenClaim.holds_of_cond 4 Tryz.f4 rfl rfl rfl rfl rfl rfl rfl ⟨rfl,rfl,rfl,rfl,rfl⟩ rfl rfl rfl rfl rfl matchTops_named Tryz.func4 matchTops_facts matchTops_inst matchTops_wrap
  (fun os started H enc _ F=>by rw[OpenClaim.pre_eq_preRow];exact matchTops_lifted os started H enc F)
theorem matchTops_wf:Rows.matchTopsUptoRow.wfByText (Rows.OpenSpec.upto Rows.matchTopsSpec)=true:=by kernel_rfl
theorem matchTops_card:Rows.MatchTopsUptoCardSaid:=
 Claim7.holds_tied_plain_at .later [] _ _ _ _ matchTops_upto (fun _ h=>by cases h) matchTops_wf (fun _ h=>by cases h) matchTopsUpto_row_tie rfl ⟨rfl,rfl⟩ main_is rfl (plain_card matchTops_named Tryz.func4 matchTops_params matchTops_want) matchTops_goes
end Go.Proofs.YtlhdoekgipaihaaGreatDoor
