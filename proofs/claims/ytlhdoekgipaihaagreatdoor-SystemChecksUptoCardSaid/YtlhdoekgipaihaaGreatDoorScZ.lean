/- Check is as the chapter says: for every input whose values and letters are at most 1048576, the law SystemChecks returns true, and its arguments read as they did. The condition: that bound (the second form), as the statement is given. -/
import Derived.Test.YtlhdoekgipaihaaGreatDoorSc52
set_option linter.unusedVariables false
set_option linter.unusedSimpArgs false
set_option linter.unusedSectionVars false
set_option maxRecDepth 100000
set_option exponentiation.threshold 400
set_option maxHeartbeats 8000000
namespace Go.Proofs.YtlhdoekgipaihaaGreatDoor
open Go Go.Fw Go.ChangeShapes Go.WideShapes Go.ChangeAt Go.RowKit
theorem J1Z:Tryz.f8.params=#[26]:=by kernel_rfl
theorem J2a (H:Type) (enc:TypeId×Value→H) (W:World) (base:Nat) (args:Array Value) (ds gs:List (DataW H)) (before:List MemPlace)
  (hval:∀ (j:Nat) t v,Tryz.f8.params[j]?=some t→args[j]?=some v→Value.okWide Tryz.prog W .any base t v)
  (hW:DataW.Whole enc Tryz.prog Tryz.f8.params.toList Rows.systemChecksSpec.vars false W args.toList ds gs before) (hk:Rows.uptoSmall H (ds++gs)=true) :
  Calls Tryz.prog 8 args W fun e W'=>∃ v,e=.returned v∧Rows.systemChecksSpec.post enc Tryz.prog Tryz.f8 false true false false W args v W':=by
 have hW':=hW;obtain ⟨p,q,hA0,hV,rfl,hfz,hnd⟩:=hW;have hA:DataW.TrodAll enc Tryz.prog W 0 (fun _=>true) true Tryz.f8.params.toList args.toList ds p:=hA0;rw[J1Z] at hA hval;obtain ⟨v0,vs0,d0,ds0,p0,q0,e0,rfl,rfl,t0,r0⟩:=trodAll_cons hA;obtain ⟨rfl,rfl,rfl⟩:=trodAll_nil r0;obtain rfl:args=#[v0]:=by cases args;simp_all
 obtain ⟨rfl,rfl⟩:=trodVars_none hV;clear hA0;simp only[List.append_nil] at hW' hk;have hb:=JFF hk;have k0:=t0;have lt0:∀ x∈p0,x.block<W.heap.size:=by obtain ⟨m,hm⟩:=k0;exact DataW.trod_lt m _ _ _ hm
 obtain ⟨fuel,g0⟩:=t0
 have w0:∃ cs,v0=.agg cs:=by
  obtain ⟨fs,hu,_⟩:=J14 (J5V 26 _ rfl) rfl;obtain ⟨cs,h,_⟩:=okWide_struct hu (hval 0 26 v0 rfl rfl);exact ⟨cs,h⟩
 obtain ⟨z0,⟨a0,ez0,h0⟩,s0⟩:=JID (JLt JMP (by decide) fuel) (by omega) w0 g0 (hb d0 (by simp));subst ez0;refine (J72 JEB a0 h0 h0.v20 (fun _=>False) W #[v0] (fun c h=>h.elim) ⟨rfl,fun i h h'=>?_⟩).mono fun e W' he=>?_
 ·have hi:i<1:=h
  match i,hi with
  | 0,_=>exact s0
 ·obtain ⟨v,rfl,hr,bel⟩:=he
  cases hr with
  | val _ _=>
    exact ⟨_,rfl,_,_,_,[],_,[],hW',trodAll_mk1 (shut_bool u4 _),trodAll_cons_mk (Below.trod JCY (by kernel_rfl) (of_decide_eq_true (by kernel_rfl)) k0 bel lt0) (trodAll_mk0),rfl,bel.frame _,fun h=>by cases h⟩
theorem J3g (os:Os) {H:Type} (enc:TypeId×Value→H):∃ places,DataW.whole enc Tryz.prog ((laidW os).forCall (fun _ _=>0) ⟨#[],#[.agg #[Value.slice none 0 0,Value.slice none 0 0,Value.slice none 0 0,Value.slice none 0 0]],[]⟩).memory Tryz.f8.params.toList Rows.systemChecksSpec.vars false (#[.agg #[Value.slice none 0 0,Value.slice none 0 0,Value.slice none 0 0,Value.slice none 0 0]]:Array Value).toList 8=some ([.agg [.nil,.nil,.nil,.nil]],[],places):=⟨[],by kernel_rfl⟩
theorem J3M (os:Os) (started:os.Started) (H:Type) (enc:TypeId×Value→H) (F:Stop.Interp) :
  ReturnsInHanded {} Tryz.checked os 8 .any ((Rows.OpenSpec.upto Rows.systemChecksSpec).preRow enc Tryz.prog Tryz.f8 Rows.systemChecksUptoRow.domain false Rows.systemChecksUptoRow.laid) (((Rows.OpenSpec.upto Rows.systemChecksSpec).at F).post enc Tryz.prog Tryz.f8 false true false false):=by
 obtain ⟨places,hx⟩:=J3g os enc
 refine returnsInHanded_of_row (C:=Tryz.checked) (s:=(Rows.OpenSpec.upto Rows.systemChecksSpec)) JIC started (by kernel_rfl) Tryz.func8
  (witness_row_at (enc:=enc) (C:=Tryz.checked) false (laidW os) #[.agg #[Value.slice none 0 0,Value.slice none 0 0,Value.slice none 0 0,Value.slice none 0 0]] rfl (by kernel_rfl) (by kernel_rfl) (by kernel_rfl)
    (OpenSpec.preRow_of_cond 8 hx (by kernel_rfl) (fun k hk=>by cases hk;kernel_rfl) (by kernel_rfl) (JIO os _))) ?_
 intro W base args ds gs before hval hW _ hcond _ _ _ _;exact J2a H enc W base args ds gs before hval hW (hcond _ rfl)
theorem J1j:Tryz.prog.funcNamed Rows.systemChecksUptoRow.func=some 8:=by kernel_rfl
theorem J5o:(Rows.systemChecksUptoRow.inPlace==Tryz.prog.inPlace 8)=true:=by kernel_rfl
theorem J5n:(Rows.systemChecksUptoRow.unfollowed==Tryz.prog.unfollowed 8)=true:=by kernel_rfl
theorem J5m:(Rows.systemChecksUptoRow.recurses==Tryz.prog.recurses 8)=true:=by kernel_rfl
theorem J5l:(Rows.systemChecksUptoRow.named==Tryz.prog.varsNamed 8)=true:=by kernel_rfl
theorem J5k:(Rows.systemChecksUptoRow.loops==(Tryz.f8.params.toList++(Rows.OpenSpec.upto Rows.systemChecksSpec).bare.plain.varTypes Tryz.prog).any (Tryz.prog.loopsFrom ·))=true:=by kernel_rfl
theorem J5j:(Rows.systemChecksUptoRow.lifted==Tryz.prog.liftsFinal)=true:=JBR
theorem J5i:(Tryz.prog.make==some Rows.systemChecksUptoRow.make)=true:=JKb
theorem J3h:joinedFacts Tryz.prog 8 Tryz.f8 (Rows.OpenSpec.upto Rows.systemChecksSpec).bare Rows.systemChecksUptoRow=true:=by
 unfold joinedFacts
 repeat (with_reducible refine Bool.and_eq_true_iff.2 ⟨?_,?_⟩)
 all_goals first | with_reducible exact JCY | with_reducible exact JDl | with_reducible exact JBF | with_reducible exact JFm | with_reducible exact J5o | with_reducible exact J5n | with_reducible exact J5m | with_reducible exact J5l | with_reducible exact J5k | with_reducible exact J5j | with_reducible exact J5i | kernel_rfl
theorem J4Y:Func.isWrapper Tryz.prog Tryz.f8 Rows.systemChecksUptoRow.wrapper Rows.systemChecksUptoRow.mainSum:=by unfold Func.isWrapper;first | (rw[if_pos (by decide +kernel)];kernel_rfl) | (rw[if_neg (by decide +kernel)];exact ⟨rfl,rfl⟩)
theorem J4b:Func.isInstance Tryz.prog Tryz.f8 Rows.systemChecksUptoRow.origin Rows.systemChecksUptoRow.targs:=of_decide_eq_true (by kernel_rfl)
theorem J4c:false=Rows.systemChecksUptoRow.goesBy Tryz.pinned.checked.prog:=by kernel_rfl
theorem J4Z:(#[26]:Array TypeId).all (fun t=>!Tryz.prog.wantsStandIn t)=true:=by kernel_rfl
theorem J4a:Rows.SystemChecksUptoSaid:=
 OpenClaim.holds_of_cond 8 Tryz.f8 rfl rfl rfl rfl rfl rfl rfl ⟨rfl,rfl,rfl,rfl,rfl⟩ rfl rfl rfl rfl rfl J1j Tryz.func8 J3h J4b J4Y
  (fun os started H enc _ F=>by rw[OpenClaim.pre_eq_preRow];exact J3M os started H enc F)
theorem J5h:Rows.systemChecksUptoRow.wfByText (Rows.OpenSpec.upto Rows.systemChecksSpec)=true:=by kernel_rfl
theorem systemChecks_card:Rows.SystemChecksUptoCardSaid:=
 Claim7.holds_tied_plain_at .later [] _ _ _ _ J4a (fun _ h=>by cases h) J5h (fun _ h=>by cases h) systemChecksUpto_row_tie rfl ⟨rfl,rfl⟩ JKc rfl (JDg J1j Tryz.func8 J1Z J4Z) J4c
end Go.Proofs.YtlhdoekgipaihaaGreatDoor
