/- Eval is as the chapter says: for every input whose values and letters are at most 1048576, the law SystemEvals returns true, and its arguments read as they did. The condition: that bound (the second form), as the statement is given. -/
import Derived.Test.YtlhdoekgipaihaaGreatDoorEv49
set_option linter.unusedVariables false
set_option linter.unusedSimpArgs false
set_option linter.unusedSectionVars false
set_option maxRecDepth 100000
set_option exponentiation.threshold 400
set_option maxHeartbeats 8000000
namespace Go.Proofs.YtlhdoekgipaihaaGreatDoor
open Go Go.Fw Go.ChangeShapes Go.WideShapes Go.ChangeAt Go.RowKit
theorem J1w:Tryz.f9.params=#[26,42,50]:=by kernel_rfl
theorem J3Z (H:Type)(enc:TypeId×Value→H)(W:World)(base:Nat)(args:Array Value)(ds gs:List (DataW H))(before:List MemPlace)
  (hval:∀ (j:Nat) t v,Tryz.f9.params[j]?=some t→args[j]?=some v→Value.okWide Tryz.prog W .any base t v)
  (hW:DataW.Whole enc Tryz.prog Tryz.f9.params.toList Rows.systemEvalsSpec.vars false W args.toList ds gs before)(hk:Rows.uptoSmall H (ds++gs)=true) :
  Calls Tryz.prog 9 args W fun e W'=>∃ v,e=.returned v∧Rows.systemEvalsSpec.post enc Tryz.prog Tryz.f9 false true false false W args v W':=by
 have hW':=hW;obtain ⟨p,q,hA0,hV,rfl,hfz,hnd⟩:=hW;have hA:DataW.TrodAll enc Tryz.prog W 0 (fun _=>true) true Tryz.f9.params.toList args.toList ds p:=hA0;rw[J1w] at hA hval;obtain ⟨v0,vs0,d0,ds0,p0,q0,e0,rfl,rfl,t0,r0⟩:=trodAll_cons hA;obtain ⟨v1,vs1,d1,ds1,p1,q1,e1,rfl,rfl,t1,r1⟩:=trodAll_cons r0;obtain ⟨v2,vs2,d2,ds2,p2,q2,e2,rfl,rfl,t2,r2⟩:=trodAll_cons r1;obtain ⟨rfl,rfl,rfl⟩:=trodAll_nil r2;obtain rfl:args=#[v0,v1,v2]:=by cases args;simp_all
 obtain ⟨rfl,rfl⟩:=trodVars_none hV;clear hA0;simp only[List.append_nil] at hW' hk;have hb:=JGE hk;have k0:=t0;have lt0:∀ x∈p0,x.block<W.heap.size:=by obtain ⟨m,hm⟩:=k0;exact DataW.trod_lt m _ _ _ hm
 obtain ⟨fuel,g0⟩:=t0
 have w0:∃ cs,v0=.agg cs:=by
  obtain ⟨fs,hu,_⟩:=J0W (J4j 26 _ rfl) rfl;obtain ⟨cs,h,_⟩:=okWide_struct hu (hval 0 26 v0 rfl rfl);exact ⟨cs,h⟩
 obtain ⟨z0,⟨a0,ez0,h0⟩,s0⟩:=J9O (JN1 JHt (by decide) fuel) (by omega) w0 g0 (hb d0 (by simp));subst ez0;have k1:=t1;have lt1:∀ x∈p1,x.block<W.heap.size:=by obtain ⟨m,hm⟩:=k1;exact DataW.trod_lt m _ _ _ hm
 obtain ⟨fuel,g1⟩:=t1
 have w1:∃ cs,v1=.agg cs:=by
  obtain ⟨fs,hu,_⟩:=J0W (J4j 42 _ rfl) rfl;obtain ⟨cs,h,_⟩:=okWide_struct hu (hval 1 42 v1 rfl rfl);exact ⟨cs,h⟩
 obtain ⟨z1,⟨a1,ez1,h1⟩,s1⟩:=J9O (JEo JHt (by decide) fuel) (by omega) w1 g1 (hb d1 (by simp));subst ez1;have k2:=t2;have lt2:∀ x∈p2,x.block<W.heap.size:=by obtain ⟨m,hm⟩:=k2;exact DataW.trod_lt m _ _ _ hm
 obtain ⟨fuel,g2⟩:=t2
 have w2:∃ cs,v2=.agg cs:=by
  obtain ⟨fs,hu,_⟩:=J0W (J4j 50 _ rfl) rfl;obtain ⟨cs,h,_⟩:=okWide_struct hu (hval 2 50 v2 rfl rfl);exact ⟨cs,h⟩
 obtain ⟨z2,⟨a2,ez2,h2⟩,s2⟩:=J9O (JLX JHt (by decide) fuel) (by omega) w2 g2 (hb d2 (by simp));subst ez2;refine (J80 JFE a0 h0 a1 h1.1 h1.2 a2 h2 (fun _=>False) W #[v0,v1,v2] (fun c h=>h.elim) ⟨rfl,fun i h h'=>?_⟩).mono fun e W' he=>?_
 ·have hi:i<3:=h
  match i,hi with
  |0,_=>exact s0
  |1,_=>rw[JHy] at s1;exact s1
  |2,_=>exact s2
 ·obtain ⟨v,rfl,hr,bel⟩:=he
  cases hr with
  |val _ _=>
    exact ⟨_,rfl,_,_,_,[],_,[],hW',trodAll_mk1 (shut_bool u4 _),trodAll_cons_mk (Below.trod J5w (by kernel_rfl) (of_decide_eq_true (by kernel_rfl)) k0 bel lt0) (trodAll_cons_mk (Below.trod J5w (by kernel_rfl) (of_decide_eq_true (by kernel_rfl)) k1 bel lt1) (trodAll_cons_mk (Below.trod J5w (by kernel_rfl) (of_decide_eq_true (by kernel_rfl)) k2 bel lt2) (trodAll_mk0))),rfl,bel.frame _,fun h=>by cases h⟩
theorem J50 (os:Os){H:Type}(enc:TypeId×Value→H):∃ places,DataW.whole enc Tryz.prog ((laidW os).forCall (fun _ _=>0) ⟨#[],#[.agg #[Value.slice none 0 0,Value.slice none 0 0,Value.slice none 0 0,Value.slice none 0 0],.agg #[Value.string ⟨#[]⟩,Value.string ⟨#[]⟩,.int .i64 0,Value.slice none 0 0],.agg #[Value.string ⟨#[]⟩,.bool false,Value.slice none 0 0]],[]⟩).memory Tryz.f9.params.toList Rows.systemEvalsSpec.vars false (#[.agg #[Value.slice none 0 0,Value.slice none 0 0,Value.slice none 0 0,Value.slice none 0 0],.agg #[Value.string ⟨#[]⟩,Value.string ⟨#[]⟩,.int .i64 0,Value.slice none 0 0],.agg #[Value.string ⟨#[]⟩,.bool false,Value.slice none 0 0]]:Array Value).toList 8=some ([.agg [.nil,.nil,.nil,.nil],.agg [.lit (.string []),.lit (.string []),.lit (.int .i64 0),.nil],.agg [.lit (.string []),.lit (.bool false),.nil]],[],places):=⟨[],by kernel_rfl⟩
theorem J44 (os:Os)(started:os.Started)(H:Type)(enc:TypeId×Value→H)(F:Stop.Interp) :
  ReturnsInHanded {} Tryz.checked os 9 .any ((Rows.OpenSpec.upto Rows.systemEvalsSpec).preRow enc Tryz.prog Tryz.f9 Rows.systemEvalsUptoRow.domain false Rows.systemEvalsUptoRow.laid) (((Rows.OpenSpec.upto Rows.systemEvalsSpec).at F).post enc Tryz.prog Tryz.f9 false true false false):=by
 obtain ⟨places,hx⟩:=J50 os enc
 refine returnsInHanded_of_row (C:=Tryz.checked) (s:=(Rows.OpenSpec.upto Rows.systemEvalsSpec)) JJE started (by kernel_rfl) Tryz.func9
  (witness_row_at (enc:=enc) (C:=Tryz.checked) false (laidW os) #[.agg #[Value.slice none 0 0,Value.slice none 0 0,Value.slice none 0 0,Value.slice none 0 0],.agg #[Value.string ⟨#[]⟩,Value.string ⟨#[]⟩,.int .i64 0,Value.slice none 0 0],.agg #[Value.string ⟨#[]⟩,.bool false,Value.slice none 0 0]] rfl (by kernel_rfl) (by kernel_rfl) (by kernel_rfl)
    (OpenSpec.preRow_of_cond 8 hx (by kernel_rfl) (fun k hk=>by cases hk;kernel_rfl) (by kernel_rfl) (JJP os _))) ?_
 intro W base args ds gs before hval hW _ hcond _ _ _ _;exact J3Z H enc W base args ds gs before hval hW (hcond _ rfl)
theorem J29:Tryz.prog.funcNamed Rows.systemEvalsUptoRow.func=some 9:=by kernel_rfl
theorem J7s:(Rows.systemEvalsUptoRow.inPlace==Tryz.prog.inPlace 9)=true:=by kernel_rfl
theorem J7r:(Rows.systemEvalsUptoRow.unfollowed==Tryz.prog.unfollowed 9)=true:=by kernel_rfl
theorem J7q:(Rows.systemEvalsUptoRow.recurses==Tryz.prog.recurses 9)=true:=by kernel_rfl
theorem J7p:(Rows.systemEvalsUptoRow.named==Tryz.prog.varsNamed 9)=true:=by kernel_rfl
theorem J7o:(Rows.systemEvalsUptoRow.loops==(Tryz.f9.params.toList++(Rows.OpenSpec.upto Rows.systemEvalsSpec).bare.plain.varTypes Tryz.prog).any (Tryz.prog.loopsFrom ·))=true:=by kernel_rfl
theorem J7n:(Rows.systemEvalsUptoRow.lifted==Tryz.prog.liftsFinal)=true:=JCR
theorem J7m:(Tryz.prog.make==some Rows.systemEvalsUptoRow.make)=true:=JLg
theorem J51:joinedFacts Tryz.prog 9 Tryz.f9 (Rows.OpenSpec.upto Rows.systemEvalsSpec).bare Rows.systemEvalsUptoRow=true:=by
 unfold joinedFacts
 repeat (with_reducible refine Bool.and_eq_true_iff.2 ⟨?_,?_⟩)
 all_goals first|with_reducible exact J5w|with_reducible exact JEp|with_reducible exact JCE|with_reducible exact JGg|with_reducible exact J7s|with_reducible exact J7r|with_reducible exact J7q|with_reducible exact J7p|with_reducible exact J7o|with_reducible exact J7n|with_reducible exact J7m|kernel_rfl
theorem J5c:Func.isWrapper Tryz.prog Tryz.f9 Rows.systemEvalsUptoRow.wrapper Rows.systemEvalsUptoRow.mainSum:=by unfold Func.isWrapper;first|(rw[if_pos (by decide +kernel)];kernel_rfl)|(rw[if_neg (by decide +kernel)];exact ⟨rfl,rfl⟩)
theorem J5f:Func.isInstance Tryz.prog Tryz.f9 Rows.systemEvalsUptoRow.origin Rows.systemEvalsUptoRow.targs:=of_decide_eq_true (by kernel_rfl)
theorem J5g:false=Rows.systemEvalsUptoRow.goesBy Tryz.pinned.checked.prog:=by kernel_rfl
theorem J5d:(#[26,42,50]:Array TypeId).all (fun t=>!Tryz.prog.wantsStandIn t)=true:=by kernel_rfl
theorem J5e:Rows.SystemEvalsUptoSaid:=
 OpenClaim.holds_of_cond 9 Tryz.f9 rfl rfl rfl rfl rfl rfl rfl ⟨rfl,rfl,rfl,rfl,rfl⟩ rfl rfl rfl rfl rfl J29 Tryz.func9 J51 J5f J5c
  (fun os started H enc _ F=>by rw[OpenClaim.pre_eq_preRow];exact J44 os started H enc F)
theorem J7l:Rows.systemEvalsUptoRow.wfByText (Rows.OpenSpec.upto Rows.systemEvalsSpec)=true:=by kernel_rfl
theorem systemEvals_card:Rows.SystemEvalsUptoCardSaid:=
 Claim7.holds_tied_plain_at .later [] _ _ _ _ J5e (fun _ h=>by cases h) J7l (fun _ h=>by cases h) systemEvalsUpto_row_tie rfl ⟨rfl,rfl⟩ JLh rfl (JEk J29 Tryz.func9 J1w J5d) J5g
end Go.Proofs.YtlhdoekgipaihaaGreatDoor
