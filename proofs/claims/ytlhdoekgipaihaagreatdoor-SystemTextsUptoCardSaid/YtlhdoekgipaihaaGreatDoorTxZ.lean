/- Text is as the chapter says: for every input whose values and letters are at most 1048576, the law SystemTexts returns true, and its arguments read as they did. The condition: that bound (the second form), as the statement is given. -/
import Derived.Test.YtlhdoekgipaihaaGreatDoorTx52
import Derived.Test.YtlhdoekgipaihaaGreatDoorTx53
set_option linter.unusedVariables false
set_option linter.unusedSimpArgs false
set_option linter.unusedSectionVars false
set_option maxRecDepth 100000
set_option exponentiation.threshold 400
set_option maxHeartbeats 8000000
namespace Go.Proofs.YtlhdoekgipaihaaGreatDoor
open Go Go.Fw Go.ChangeShapes Go.WideShapes Go.ChangeAt Go.RowKit
theorem J1j:Tryz.f10.params=#[26]:=by kernel_rfl
theorem J3H (H:Type) (enc:TypeId×Value→H) (W:World) (base:Nat) (args:Array Value) (ds gs:List (DataW H)) (before:List MemPlace)
  (hval:∀ (j:Nat) t v,Tryz.f10.params[j]?=some t→args[j]?=some v→Value.okWide Tryz.prog W .any base t v)
  (hW:DataW.Whole enc Tryz.prog Tryz.f10.params.toList Rows.systemTextsSpec.vars false W args.toList ds gs before) (hk:Rows.uptoSmall H (ds++gs)=true) :
  Calls Tryz.prog 10 args W fun e W'=>∃ v,e=.returned v∧Rows.systemTextsSpec.post enc Tryz.prog Tryz.f10 false true false false W args v W':=by
 have hW':=hW;obtain ⟨p,q,hA0,hV,rfl,hfz,hnd⟩:=hW;have hA:DataW.TrodAll enc Tryz.prog W 0 (fun _=>true) true Tryz.f10.params.toList args.toList ds p:=hA0;rw[J1j] at hA hval;obtain ⟨v0,vs0,d0,ds0,p0,q0,e0,rfl,rfl,t0,r0⟩:=trodAll_cons hA;obtain ⟨rfl,rfl,rfl⟩:=trodAll_nil r0;obtain rfl:args=#[v0]:=by cases args;simp_all
 obtain ⟨rfl,rfl⟩:=trodVars_none hV;clear hA0;simp only[List.append_nil] at hW' hk;have hb:=JFa hk;have k0:=t0;have lt0:∀ x∈p0,x.block<W.heap.size:=by obtain ⟨m,hm⟩:=k0;exact DataW.trod_lt m _ _ _ hm
 obtain ⟨fuel,g0⟩:=t0
 have w0:∃ cs,v0=.agg cs:=by
  obtain ⟨fs,hu,_⟩:=J16 (J5k 26 _ rfl) rfl;obtain ⟨cs,h,_⟩:=okWide_struct hu (hval 0 26 v0 rfl rfl);exact ⟨cs,h⟩
 obtain ⟨z0,⟨a0,ez0,h0⟩,s0⟩:=JId (JMK JMq (by decide) fuel) (by omega) w0 g0 (hb d0 (by simp));subst ez0;refine (J7W JET a0 h0 (fun _=>False) W #[v0] (fun c h=>h.elim) ⟨rfl,fun i h h'=>?_⟩).mono fun e W' he=>?_
 ·have hi:i<1:=h
  match i,hi with
  | 0,_=>exact s0
 ·obtain ⟨v,rfl,hr,bel⟩:=he
  cases hr with
  | val _ _=>
    exact ⟨_,rfl,_,_,_,[],_,[],hW',trodAll_mk1 (shut_bool u4 _),trodAll_cons_mk (Below.trod JCq (by kernel_rfl) (of_decide_eq_true (by kernel_rfl)) k0 bel lt0) (trodAll_mk0),rfl,bel.frame _,fun h=>by cases h⟩
theorem J4d (os:Os) {H:Type} (enc:TypeId×Value→H):∃ places,DataW.whole enc Tryz.prog ((laidW os).forCall (fun _ _=>0) ⟨#[],#[.agg #[Value.slice none 0 0,Value.slice none 0 0,Value.slice none 0 0,Value.slice none 0 0]],[]⟩).memory Tryz.f10.params.toList Rows.systemTextsSpec.vars false (#[.agg #[Value.slice none 0 0,Value.slice none 0 0,Value.slice none 0 0,Value.slice none 0 0]]:Array Value).toList 8=some ([.agg [.nil,.nil,.nil,.nil]],[],places):=⟨[],by kernel_rfl⟩
theorem J3k (os:Os) (started:os.Started) (H:Type) (enc:TypeId×Value→H) (F:Stop.Interp) :
  ReturnsInHanded {} Tryz.checked os 10 .any ((Rows.OpenSpec.upto Rows.systemTextsSpec).preRow enc Tryz.prog Tryz.f10 Rows.systemTextsUptoRow.domain false Rows.systemTextsUptoRow.laid) (((Rows.OpenSpec.upto Rows.systemTextsSpec).at F).post enc Tryz.prog Tryz.f10 false true false false):=by
 obtain ⟨places,hx⟩:=J4d os enc
 refine returnsInHanded_of_row (C:=Tryz.checked) (s:=(Rows.OpenSpec.upto Rows.systemTextsSpec)) JIb started (by kernel_rfl) Tryz.func10
  (witness_row_at (enc:=enc) (C:=Tryz.checked) false (laidW os) #[.agg #[Value.slice none 0 0,Value.slice none 0 0,Value.slice none 0 0,Value.slice none 0 0]] rfl (by kernel_rfl) (by kernel_rfl) (by kernel_rfl)
    (OpenSpec.preRow_of_cond 8 hx (by kernel_rfl) (fun k hk=>by cases hk;kernel_rfl) (by kernel_rfl) (JIp os _))) ?_
 intro W base args ds gs before hval hW _ hcond _ _ _ _;exact J3H H enc W base args ds gs before hval hW (hcond _ rfl)
theorem J1v:Tryz.prog.funcNamed Rows.systemTextsUptoRow.func=some 10:=by kernel_rfl
theorem J7Q:(Rows.systemTextsUptoRow.inPlace==Tryz.prog.inPlace 10)=true:=by kernel_rfl
theorem J7P:(Rows.systemTextsUptoRow.unfollowed==Tryz.prog.unfollowed 10)=true:=by kernel_rfl
theorem J7O:(Rows.systemTextsUptoRow.recurses==Tryz.prog.recurses 10)=true:=by kernel_rfl
theorem J7N:(Rows.systemTextsUptoRow.named==Tryz.prog.varsNamed 10)=true:=by kernel_rfl
theorem J7M:(Rows.systemTextsUptoRow.loops==(Tryz.f10.params.toList++(Rows.OpenSpec.upto Rows.systemTextsSpec).bare.plain.varTypes Tryz.prog).any (Tryz.prog.loopsFrom ·))=true:=by kernel_rfl
theorem J7L:(Rows.systemTextsUptoRow.lifted==Tryz.prog.liftsFinal)=true:=JBk
theorem J7K:(Tryz.prog.make==some Rows.systemTextsUptoRow.make)=true:=JL3
theorem J4e:joinedFacts Tryz.prog 10 Tryz.f10 (Rows.OpenSpec.upto Rows.systemTextsSpec).bare Rows.systemTextsUptoRow=true:=by
 unfold joinedFacts
 repeat (with_reducible refine Bool.and_eq_true_iff.2 ⟨?_,?_⟩)
 all_goals first | with_reducible exact JCq | with_reducible exact JE5 | with_reducible exact JBU | with_reducible exact JG8 | with_reducible exact J7Q | with_reducible exact J7P | with_reducible exact J7O | with_reducible exact J7N | with_reducible exact J7M | with_reducible exact J7L | with_reducible exact J7K | kernel_rfl
theorem J5F:Func.isWrapper Tryz.prog Tryz.f10 Rows.systemTextsUptoRow.wrapper Rows.systemTextsUptoRow.mainSum:=by unfold Func.isWrapper;first | (rw[if_pos (by decide +kernel)];kernel_rfl) | (rw[if_neg (by decide +kernel)];exact ⟨rfl,rfl⟩)
theorem J5I:Func.isInstance Tryz.prog Tryz.f10 Rows.systemTextsUptoRow.origin Rows.systemTextsUptoRow.targs:=of_decide_eq_true (by kernel_rfl)
theorem J5J:false=Rows.systemTextsUptoRow.goesBy Tryz.pinned.checked.prog:=by kernel_rfl
theorem J5G:(#[26]:Array TypeId).all (fun t=>!Tryz.prog.wantsStandIn t)=true:=by kernel_rfl
theorem J5H:Rows.SystemTextsUptoSaid:=
 OpenClaim.holds_of_cond 10 Tryz.f10 rfl rfl rfl rfl rfl rfl rfl ⟨rfl,rfl,rfl,rfl,rfl⟩ rfl rfl rfl rfl rfl J1v Tryz.func10 J4e J5I J5F
  (fun os started H enc _ F=>by rw[OpenClaim.pre_eq_preRow];exact J3k os started H enc F)
theorem J7J:Rows.systemTextsUptoRow.wfByText (Rows.OpenSpec.upto Rows.systemTextsSpec)=true:=by kernel_rfl
theorem systemTexts_card:Rows.SystemTextsUptoCardSaid:=
 Claim7.holds_tied_plain_at .later [] _ _ _ _ J5H (fun _ h=>by cases h) J7J (fun _ h=>by cases h) systemTextsUpto_row_tie rfl ⟨rfl,rfl⟩ JL4 rfl (JE0 J1v Tryz.func10 J1j J5G) J5J
end Go.Proofs.YtlhdoekgipaihaaGreatDoor
