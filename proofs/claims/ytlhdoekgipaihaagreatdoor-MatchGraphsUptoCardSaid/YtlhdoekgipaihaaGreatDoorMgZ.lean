/- Graph and Tops of any system, and any uses, are what chapter 13 says: for every input whose values and letters are at most 1048576, the law MatchGraphs returns true, and its arguments read as they did. The condition: that bound (the second form), as the statement is given. -/
import Derived.Test.YtlhdoekgipaihaaGreatDoorMg53
set_option linter.unusedVariables false
set_option linter.unusedSimpArgs false
set_option linter.unusedSectionVars false
set_option maxRecDepth 100000
set_option exponentiation.threshold 400
namespace Go.Proofs.YtlhdoekgipaihaaGreatDoor
open Go Go.Fw Go.ChangeShapes Go.WideShapes Go.ChangeAt Go.RowKit
theorem matchGraphs_params:Tryz.f3.params=#[26,27]:=by kernel_rfl
theorem matchGraphs_contract (H:Type) (enc:TypeId×Value→H) (W:World) (base:Nat) (args:Array Value) (ds gs:List (DataW H)) (before:List MemPlace)
  (hval:∀ (j:Nat) t v,Tryz.f3.params[j]?=some t→args[j]?=some v→Value.okWide Tryz.prog W .any base t v)
  (hW:DataW.Whole enc Tryz.prog Tryz.f3.params.toList Rows.matchGraphsSpec.vars false W args.toList ds gs before) (hk:Rows.uptoSmall H (ds++gs)=true) :
  Calls Tryz.prog 3 args W fun e W'=>∃ v,e=.returned v∧Rows.matchGraphsSpec.post enc Tryz.prog Tryz.f3 false true false false W args v W':=by
 have hW':=hW
 obtain ⟨p,q,hA0,hV,rfl,hfz,hnd⟩:=hW
 have hA:DataW.TrodAll enc Tryz.prog W 0 (fun _=>true) true Tryz.f3.params.toList args.toList ds p:=hA0
 rw[matchGraphs_params] at hA hval
 obtain ⟨v0,vs0,d0,ds0,p0,q0,e0,rfl,rfl,t0,r0⟩:=trodAll_cons hA
 obtain ⟨v1,vs1,d1,ds1,p1,q1,e1,rfl,rfl,t1,r1⟩:=trodAll_cons r0
 obtain ⟨rfl,rfl,rfl⟩:=trodAll_nil r1
 obtain rfl:args=#[v0,v1]:=by cases args;simp_all
 obtain ⟨rfl,rfl⟩:=trodVars_none hV
 clear hA0
 simp only[List.append_nil] at hW' hk
 have hb:=small_all hk
 have k0:=t0
 have lt0:∀ x∈p0,x.block<W.heap.size:=by obtain ⟨m,hm⟩:=k0;exact DataW.trod_lt m _ _ _ hm
 obtain ⟨fuel,g0⟩:=t0
 have w0:∃ cs,v0=.agg cs:=by
  obtain ⟨fs,hu,_⟩:=und_struct (T_ok 26 _ rfl) rfl
  obtain ⟨cs,h,_⟩:=okWide_struct hu (hval 0 26 v0 rfl rfl)
  exact ⟨cs,h⟩
 obtain ⟨z0,⟨a0,ez0,h0⟩,s0⟩:=open_agg (openSy bulkLB (by decide) fuel) (by omega) w0 g0 (hb d0 (by simp))
 subst ez0
 have k1:=t1
 have lt1:∀ x∈p1,x.block<W.heap.size:=by obtain ⟨m,hm⟩:=k1;exact DataW.trod_lt m _ _ _ hm
 obtain ⟨fuel,g1⟩:=t1
 have w1:v1.cells=#[v1]:=by obtain ⟨_,_,_,rfl⟩:=okWide_slice (und_slice (t:=27) rfl rfl) (hval 1 27 v1 rfl rfl);rfl
 obtain ⟨z1,⟨a1,ez1,h1⟩,s1⟩:=open_cell (openUs bulkLB fuel) (by omega) w1 g1 (hb d1 (by simp))
 simp only[List.cons.injEq,and_true] at ez1
 subst ez1
 refine (MatchGraphs_ok awake13_ok a0 h0 a1 (Nat.le_trans h1.1 (by decide)) (fun u hu=>Nat.lt_of_le_of_lt (h1.2 u hu) (by decide)) (fun _=>False) W #[v0,v1] (fun c h=>h.elim) ⟨rfl,fun i h h'=>?_⟩).mono fun e W' he=>?_
 ·have hi:i<2:=h
  match i,hi with
  | 0,_=>exact s0
  | 1,_=>exact s1
 ·obtain ⟨v,rfl,hr,bel⟩:=he
  cases hr with
  | val _ _=>
    exact ⟨_,rfl,_,_,_,[],_,[],hW',trodAll_mk1 (shut_bool u4 _),trodAll_cons_mk (Below.trod laid_out (by kernel_rfl) (of_decide_eq_true (by kernel_rfl)) k0 bel lt0) (trodAll_cons_mk (Below.trod laid_out (by kernel_rfl) (of_decide_eq_true (by kernel_rfl)) k1 bel lt1) (trodAll_mk0)),rfl,bel.frame _,fun h=>by cases h⟩
theorem matchGraphs_reads (os:Os) {H:Type} (enc:TypeId×Value→H):∃ places,DataW.whole enc Tryz.prog ((laidW os).forCall (fun _ _=>0) ⟨#[],#[.agg #[Value.slice none 0 0,Value.slice none 0 0,Value.slice none 0 0,Value.slice none 0 0],Value.slice none 0 0],[]⟩).memory Tryz.f3.params.toList Rows.matchGraphsSpec.vars false (#[.agg #[Value.slice none 0 0,Value.slice none 0 0,Value.slice none 0 0,Value.slice none 0 0],Value.slice none 0 0]:Array Value).toList 8=some ([.agg [.nil,.nil,.nil,.nil],.nil],[],places):=⟨[],by kernel_rfl⟩
theorem matchGraphs_lifted (os:Os) (started:os.Started) (H:Type) (enc:TypeId×Value→H) (F:Stop.Interp) :
  ReturnsInHanded {} Tryz.checked os 3 .any ((Rows.OpenSpec.upto Rows.matchGraphsSpec).preRow enc Tryz.prog Tryz.f3 Rows.matchGraphsUptoRow.domain false Rows.matchGraphsUptoRow.laid) (((Rows.OpenSpec.upto Rows.matchGraphsSpec).at F).post enc Tryz.prog Tryz.f3 false true false false):=by
 obtain ⟨places,hx⟩:=matchGraphs_reads os enc
 refine returnsInHanded_of_row (C:=Tryz.checked) (s:=(Rows.OpenSpec.upto Rows.matchGraphsSpec)) own_knob started (by kernel_rfl) Tryz.func3
  (witness_row_at (enc:=enc) (C:=Tryz.checked) false (laidW os) #[.agg #[Value.slice none 0 0,Value.slice none 0 0,Value.slice none 0 0,Value.slice none 0 0],Value.slice none 0 0] rfl (by kernel_rfl) (by kernel_rfl) (by kernel_rfl)
    (OpenSpec.preRow_of_cond 8 hx (by kernel_rfl) (fun k hk=>by cases hk;kernel_rfl) (by kernel_rfl) (laid_met os _))) ?_
 intro W base args ds gs before hval hW _ hcond _ _ _ _
 exact matchGraphs_contract H enc W base args ds gs before hval hW (hcond _ rfl)
theorem matchGraphs_named:Tryz.prog.funcNamed Rows.matchGraphsUptoRow.func=some 3:=by kernel_rfl
theorem matchGraphs_j1:(Rows.matchGraphsUptoRow.inPlace==Tryz.prog.inPlace 3)=true:=by kernel_rfl
theorem matchGraphs_j2:(Rows.matchGraphsUptoRow.unfollowed==Tryz.prog.unfollowed 3)=true:=by kernel_rfl
theorem matchGraphs_j3:(Rows.matchGraphsUptoRow.recurses==Tryz.prog.recurses 3)=true:=by kernel_rfl
theorem matchGraphs_j4:(Rows.matchGraphsUptoRow.named==Tryz.prog.varsNamed 3)=true:=by kernel_rfl
theorem matchGraphs_j5:(Rows.matchGraphsUptoRow.loops==(Tryz.f3.params.toList++(Rows.OpenSpec.upto Rows.matchGraphsSpec).bare.plain.varTypes Tryz.prog).any (Tryz.prog.loopsFrom ·))=true:=by kernel_rfl
theorem matchGraphs_j6:(Rows.matchGraphsUptoRow.lifted==Tryz.prog.liftsFinal)=true:=lifts_final
theorem matchGraphs_j7:(Tryz.prog.make==some Rows.matchGraphsUptoRow.make)=true:=make_is
theorem matchGraphs_facts:joinedFacts Tryz.prog 3 Tryz.f3 (Rows.OpenSpec.upto Rows.matchGraphsSpec).bare Rows.matchGraphsUptoRow=true:=by
 unfold joinedFacts
 repeat (with_reducible refine Bool.and_eq_true_iff.2 ⟨?_,?_⟩)
 all_goals first | with_reducible exact laid_out | with_reducible exact maps_rowed | with_reducible exact stops_heard | with_reducible exact may_enter | with_reducible exact matchGraphs_j1 | with_reducible exact matchGraphs_j2 | with_reducible exact matchGraphs_j3 | with_reducible exact matchGraphs_j4 | with_reducible exact matchGraphs_j5 | with_reducible exact matchGraphs_j6 | with_reducible exact matchGraphs_j7 | kernel_rfl
theorem matchGraphs_wrap:Func.isWrapper Tryz.prog Tryz.f3 Rows.matchGraphsUptoRow.wrapper Rows.matchGraphsUptoRow.mainSum:=by unfold Func.isWrapper;first | (rw[if_pos (by decide +kernel)];kernel_rfl) | (rw[if_neg (by decide +kernel)];exact ⟨rfl,rfl⟩)
theorem matchGraphs_inst:Func.isInstance Tryz.prog Tryz.f3 Rows.matchGraphsUptoRow.origin Rows.matchGraphsUptoRow.targs:=of_decide_eq_true (by kernel_rfl)
theorem matchGraphs_goes:false=Rows.matchGraphsUptoRow.goesBy Tryz.pinned.checked.prog:=by kernel_rfl
theorem matchGraphs_want:(#[26,27]:Array TypeId).all (fun t=>!Tryz.prog.wantsStandIn t)=true:=by kernel_rfl
theorem matchGraphs_upto:Rows.MatchGraphsUptoSaid:=
 OpenClaim.holds_of_cond 3 Tryz.f3 rfl rfl rfl rfl rfl rfl rfl ⟨rfl,rfl,rfl,rfl,rfl⟩ rfl rfl rfl rfl rfl matchGraphs_named Tryz.func3 matchGraphs_facts matchGraphs_inst matchGraphs_wrap
  (fun os started H enc _ F=>by rw[OpenClaim.pre_eq_preRow];exact matchGraphs_lifted os started H enc F)
theorem matchGraphs_wf:Rows.matchGraphsUptoRow.wfByText (Rows.OpenSpec.upto Rows.matchGraphsSpec)=true:=by kernel_rfl
theorem matchGraphs_card:Rows.MatchGraphsUptoCardSaid:=
 Claim7.holds_tied_plain_at .later [] _ _ _ _ matchGraphs_upto (fun _ h=>by cases h) matchGraphs_wf (fun _ h=>by cases h) matchGraphsUpto_row_tie rfl ⟨rfl,rfl⟩ main_is rfl (plain_card matchGraphs_named Tryz.func3 matchGraphs_params matchGraphs_want) matchGraphs_goes
end Go.Proofs.YtlhdoekgipaihaaGreatDoor
