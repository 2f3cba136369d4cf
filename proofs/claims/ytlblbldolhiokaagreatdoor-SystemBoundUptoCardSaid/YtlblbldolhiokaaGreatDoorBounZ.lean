/- A built and typed expression whose uses are bound by system.Bind has a value: for every input whose values and letters are at most 1048576, the law SystemBound returns true, and its arguments read as they did. The condition: that bound (the second form), as the statement is given. -/
import Derived.Test.YtlblbldolhiokaaGreatDoorBoun52
set_option linter.unusedVariables false
set_option linter.unusedSimpArgs false
set_option linter.unusedSectionVars false
set_option maxRecDepth 100000
set_option exponentiation.threshold 400
set_option maxHeartbeats 8000000
namespace Go.Proofs.YtlblbldolhiokaaGreatDoor
open Go Go.Fw Go.ChangeShapes Go.WideShapes Go.ChangeAt Go.RowKit
theorem J1h:Tryz.f14.params=#[26,29,39]:=by kernel_rfl
theorem J30 (H:Type)(enc:TypeId×Value→H)(W:World)(base:Nat)(args:Array Value)(ds gs:List (DataW H))(before:List MemPlace)
  (hval:∀ (j:Nat) t v,Tryz.f14.params[j]?=some t→args[j]?=some v→Value.okWide Tryz.prog W .any base t v)
  (hW:DataW.Whole enc Tryz.prog Tryz.f14.params.toList Rows.systemBoundSpec.vars false W args.toList ds gs before)(hk:Rows.uptoSmall H (ds++gs)=true) :
  Calls Tryz.prog 14 args W fun e W'=>∃ v,e=.returned v∧Rows.systemBoundSpec.post enc Tryz.prog Tryz.f14 false true false false W args v W':=by
 have hW':=hW;obtain ⟨p,q,hA0,hV,rfl,hfz,hnd⟩:=hW;have hA:DataW.TrodAll enc Tryz.prog W 0 (fun _=>true) true Tryz.f14.params.toList args.toList ds p:=hA0;rw[J1h] at hA hval;obtain ⟨v0,vs0,d0,ds0,p0,q0,e0,rfl,rfl,t0,r0⟩:=trodAll_cons hA;obtain ⟨v1,vs1,d1,ds1,p1,q1,e1,rfl,rfl,t1,r1⟩:=trodAll_cons r0;obtain ⟨v2,vs2,d2,ds2,p2,q2,e2,rfl,rfl,t2,r2⟩:=trodAll_cons r1;obtain ⟨rfl,rfl,rfl⟩:=trodAll_nil r2;obtain rfl:args=#[v0,v1,v2]:=by cases args;simp_all
 obtain ⟨rfl,rfl⟩:=trodVars_none hV;clear hA0;simp only[List.append_nil] at hW' hk;have hb:=JEf hk;have k0:=t0;have lt0:∀ x∈p0,x.block<W.heap.size:=by obtain ⟨m,hm⟩:=k0;exact DataW.trod_lt m _ _ _ hm
 obtain ⟨fuel,g0⟩:=t0
 have w0:∃ cs,v0=.agg cs:=by
  obtain ⟨fs,hu,_⟩:=J0f (J4S 26 _ rfl) rfl;obtain ⟨cs,h,_⟩:=okWide_struct hu (hval 0 26 v0 rfl rfl);exact ⟨cs,h⟩
 obtain ⟨z0,⟨a0,ez0,h0⟩,s0⟩:=JBv (JL0 JGP (by decide) fuel) (by omega) w0 g0 (hb d0 (by simp));subst ez0;have k1:=t1;have lt1:∀ x∈p1,x.block<W.heap.size:=by obtain ⟨m,hm⟩:=k1;exact DataW.trod_lt m _ _ _ hm
 obtain ⟨fuel,g1⟩:=t1
 have w1:∃ cs,v1=.agg cs:=by
  obtain ⟨fs,hu,_⟩:=J0f (J4S 29 _ rfl) rfl;obtain ⟨cs,h,_⟩:=okWide_struct hu (hval 1 29 v1 rfl rfl);exact ⟨cs,h⟩
 obtain ⟨z1,⟨a1,ez1,h1⟩,s1⟩:=JBv (JDG JGP (by decide) fuel) (by omega) w1 g1 (hb d1 (by simp));subst ez1;have k2:=t2;have lt2:∀ x∈p2,x.block<W.heap.size:=by obtain ⟨m,hm⟩:=k2;exact DataW.trod_lt m _ _ _ hm
 obtain ⟨fuel,g2⟩:=t2;have w2:v2.cells=#[v2]:=by obtain ⟨_,_,_,rfl⟩:=okWide_slice (J1W (t:=39) rfl rfl) (hval 2 39 v2 rfl rfl);rfl
 obtain ⟨z2,⟨a2,ez2,h2⟩,s2⟩:=JF6 (JL1 JGP fuel) (by omega) w2 g2 (hb d2 (by simp));simp only[List.cons.injEq,and_true] at ez2;subst ez2;refine (J6p JDl a0 h0 a1 h1 a2 (Nat.le_trans h2.1 (by decide)) (fun x hx=>Nat.lt_of_le_of_lt (h2.2 x hx) (by decide)) (fun _=>False) W #[v0,v1,v2] (fun c h=>h.elim) ⟨rfl,fun i h h'=>?_⟩).mono fun e W' he=>?_
 ·have hi:i<3:=h
  match i,hi with
  |0,_=>exact s0
  |1,_=>rw[JGX] at s1;exact s1
  |2,_=>exact s2
 ·obtain ⟨v,rfl,hr,bel⟩:=he
  cases hr with
  |val _ _=>
    exact ⟨_,rfl,_,_,_,[],_,[],hW',trodAll_mk1 (shut_bool u4 _),trodAll_cons_mk (Below.trod J4u (by kernel_rfl) (of_decide_eq_true (by kernel_rfl)) k0 bel lt0) (trodAll_cons_mk (Below.trod J4u (by kernel_rfl) (of_decide_eq_true (by kernel_rfl)) k1 bel lt1) (trodAll_cons_mk (Below.trod J4u (by kernel_rfl) (of_decide_eq_true (by kernel_rfl)) k2 bel lt2) (trodAll_mk0))),rfl,bel.frame _,fun h=>by cases h⟩
theorem J48 (os:Os){H:Type}(enc:TypeId×Value→H):∃ places,DataW.whole enc Tryz.prog ((laidW os).forCall (fun _ _=>0) ⟨#[],#[.agg #[Value.slice none 0 0,Value.slice none 0 0,Value.slice none 0 0,Value.slice none 0 0],.agg #[Value.string ⟨#[]⟩,Value.string ⟨#[]⟩,.int .i64 0,Value.slice none 0 0],Value.slice none 0 0],[]⟩).memory Tryz.f14.params.toList Rows.systemBoundSpec.vars false (#[.agg #[Value.slice none 0 0,Value.slice none 0 0,Value.slice none 0 0,Value.slice none 0 0],.agg #[Value.string ⟨#[]⟩,Value.string ⟨#[]⟩,.int .i64 0,Value.slice none 0 0],Value.slice none 0 0]:Array Value).toList 8=some ([.agg [.nil,.nil,.nil,.nil],.agg [.lit (.string []),.lit (.string []),.lit (.int .i64 0),.nil],.nil],[],places):=⟨[],by kernel_rfl⟩
theorem J3P (os:Os)(started:os.Started)(H:Type)(enc:TypeId×Value→H)(F:Stop.Interp) :
  ReturnsInHanded {} Tryz.checked os 14 .any ((Rows.OpenSpec.upto Rows.systemBoundSpec).preRow enc Tryz.prog Tryz.f14 Rows.systemBoundUptoRow.domain false Rows.systemBoundUptoRow.laid) (((Rows.OpenSpec.upto Rows.systemBoundSpec).at F).post enc Tryz.prog Tryz.f14 false true false false):=by
 obtain ⟨places,hx⟩:=J48 os enc
 refine returnsInHanded_of_row (C:=Tryz.checked) (s:=(Rows.OpenSpec.upto Rows.systemBoundSpec)) JHf started (by kernel_rfl) Tryz.func14
  (witness_row_at (enc:=enc) (C:=Tryz.checked) false (laidW os) #[.agg #[Value.slice none 0 0,Value.slice none 0 0,Value.slice none 0 0,Value.slice none 0 0],.agg #[Value.string ⟨#[]⟩,Value.string ⟨#[]⟩,.int .i64 0,Value.slice none 0 0],Value.slice none 0 0] rfl (by kernel_rfl) (by kernel_rfl) (by kernel_rfl)
    (OpenSpec.preRow_of_cond 8 hx (by kernel_rfl) (fun k hk=>by cases hk;kernel_rfl) (by kernel_rfl) (JHp os _))) ?_
 intro W base args ds gs before hval hW _ hcond _ _ _ _;exact J30 H enc W base args ds gs before hval hW (hcond _ rfl)
theorem J1r:Tryz.prog.funcNamed Rows.systemBoundUptoRow.func=some 14:=by kernel_rfl
theorem J6k:(Rows.systemBoundUptoRow.inPlace==Tryz.prog.inPlace 14)=true:=by kernel_rfl
theorem J6j:(Rows.systemBoundUptoRow.unfollowed==Tryz.prog.unfollowed 14)=true:=by kernel_rfl
theorem J6i:(Rows.systemBoundUptoRow.recurses==Tryz.prog.recurses 14)=true:=by kernel_rfl
theorem J6h:(Rows.systemBoundUptoRow.named==Tryz.prog.varsNamed 14)=true:=by kernel_rfl
theorem J6g:(Rows.systemBoundUptoRow.loops==(Tryz.f14.params.toList++(Rows.OpenSpec.upto Rows.systemBoundSpec).bare.plain.varTypes Tryz.prog).any (Tryz.prog.loopsFrom ·))=true:=by kernel_rfl
theorem J6f:(Rows.systemBoundUptoRow.lifted==Tryz.prog.liftsFinal)=true:=JAy
theorem J6e:(Tryz.prog.make==some Rows.systemBoundUptoRow.make)=true:=JJs
theorem J49:joinedFacts Tryz.prog 14 Tryz.f14 (Rows.OpenSpec.upto Rows.systemBoundSpec).bare Rows.systemBoundUptoRow=true:=by
 unfold joinedFacts
 repeat (with_reducible refine Bool.and_eq_true_iff.2 ⟨?_,?_⟩)
 all_goals first|with_reducible exact J4u|with_reducible exact JDJ|with_reducible exact JAk|with_reducible exact JFG|with_reducible exact J6k|with_reducible exact J6j|with_reducible exact J6i|with_reducible exact J6h|with_reducible exact J6g|with_reducible exact J6f|with_reducible exact J6e|kernel_rfl
theorem J4f:Func.isWrapper Tryz.prog Tryz.f14 Rows.systemBoundUptoRow.wrapper Rows.systemBoundUptoRow.mainSum:=by unfold Func.isWrapper;first|(rw[if_pos (by decide +kernel)];kernel_rfl)|(rw[if_neg (by decide +kernel)];exact ⟨rfl,rfl⟩)
theorem J4i:Func.isInstance Tryz.prog Tryz.f14 Rows.systemBoundUptoRow.origin Rows.systemBoundUptoRow.targs:=of_decide_eq_true (by kernel_rfl)
theorem J4j:false=Rows.systemBoundUptoRow.goesBy Tryz.pinned.checked.prog:=by kernel_rfl
theorem J4g:(#[26,29,39]:Array TypeId).all (fun t=>!Tryz.prog.wantsStandIn t)=true:=by kernel_rfl
theorem J4h:Rows.SystemBoundUptoSaid:=
 OpenClaim.holds_of_cond 14 Tryz.f14 rfl rfl rfl rfl rfl rfl rfl ⟨rfl,rfl,rfl,rfl,rfl⟩ rfl rfl rfl rfl rfl J1r Tryz.func14 J49 J4i J4f
  (fun os started H enc _ F=>by rw[OpenClaim.pre_eq_preRow];exact J3P os started H enc F)
theorem J6d:Rows.systemBoundUptoRow.wfByText (Rows.OpenSpec.upto Rows.systemBoundSpec)=true:=by kernel_rfl
theorem systemBound_card:Rows.SystemBoundUptoCardSaid:=
 Claim7.holds_tied_plain_at .later [] _ _ _ _ J4h (fun _ h=>by cases h) J6d (fun _ h=>by cases h) systemBoundUpto_row_tie rfl ⟨rfl,rfl⟩ JJt rfl (JDC J1r Tryz.func14 J1h J4g) J4j
end Go.Proofs.YtlblbldolhiokaaGreatDoor
