/- The derivative of a sum, a difference, a product, a quotient and a neg is built from those of its kids: for every input whose values and letters are at most 1048576, the law RowsRules returns true, and its arguments read as they did. The condition: that bound (the second form), as the statement is given. -/
import Derived.Test.YtlblbldolhiokaaGreatDoorRule51
set_option linter.unusedVariables false
set_option linter.unusedSimpArgs false
set_option linter.unusedSectionVars false
set_option maxRecDepth 100000
set_option exponentiation.threshold 400
set_option maxHeartbeats 8000000
namespace Go.Proofs.YtlblbldolhiokaaGreatDoor
open Go Go.Fw Go.ChangeShapes Go.WideShapes Go.ChangeAt Go.RowKit
theorem J1n:Tryz.f4.params=#[26,29,29]:=by kernel_rfl
theorem J2j (H:Type) (enc:TypeId×Value→H) (W:World) (base:Nat) (args:Array Value) (ds gs:List (DataW H)) (before:List MemPlace)
  (hval:∀ (j:Nat) t v,Tryz.f4.params[j]?=some t→args[j]?=some v→Value.okWide Tryz.prog W .any base t v)
  (hW:DataW.Whole enc Tryz.prog Tryz.f4.params.toList Rows.rowsRulesSpec.vars false W args.toList ds gs before) (hk:Rows.uptoSmall H (ds++gs)=true) :
  Calls Tryz.prog 4 args W fun e W'=>∃ v,e=.returned v∧Rows.rowsRulesSpec.post enc Tryz.prog Tryz.f4 false true false false W args v W':=by
 have hW':=hW;obtain ⟨p,q,hA0,hV,rfl,hfz,hnd⟩:=hW;have hA:DataW.TrodAll enc Tryz.prog W 0 (fun _=>true) true Tryz.f4.params.toList args.toList ds p:=hA0;rw[J1n] at hA hval;obtain ⟨v0,vs0,d0,ds0,p0,q0,e0,rfl,rfl,t0,r0⟩:=trodAll_cons hA;obtain ⟨v1,vs1,d1,ds1,p1,q1,e1,rfl,rfl,t1,r1⟩:=trodAll_cons r0;obtain ⟨v2,vs2,d2,ds2,p2,q2,e2,rfl,rfl,t2,r2⟩:=trodAll_cons r1;obtain ⟨rfl,rfl,rfl⟩:=trodAll_nil r2;obtain rfl:args=#[v0,v1,v2]:=by cases args;simp_all
 obtain ⟨rfl,rfl⟩:=trodVars_none hV;clear hA0;simp only[List.append_nil] at hW' hk;have hb:=JBd hk;have k0:=t0;have lt0:∀ x∈p0,x.block<W.heap.size:=by obtain ⟨m,hm⟩:=k0;exact DataW.trod_lt m _ _ _ hm
 obtain ⟨fuel,g0⟩:=t0
 have w0:∃ cs,v0=.agg cs:=by
  obtain ⟨fs,hu,_⟩:=J0V (J44 26 _ rfl) rfl;obtain ⟨cs,h,_⟩:=okWide_struct hu (hval 0 26 v0 rfl rfl);exact ⟨cs,h⟩
 obtain ⟨z0,⟨a0,ez0,h0⟩,s0⟩:=J6J (JGk JDF (by decide) fuel) (by omega) w0 g0 (hb d0 (by simp));subst ez0;have k1:=t1;have lt1:∀ x∈p1,x.block<W.heap.size:=by obtain ⟨m,hm⟩:=k1;exact DataW.trod_lt m _ _ _ hm
 obtain ⟨fuel,g1⟩:=t1
 have w1:∃ cs,v1=.agg cs:=by
  obtain ⟨fs,hu,_⟩:=J0V (J44 29 _ rfl) rfl;obtain ⟨cs,h,_⟩:=okWide_struct hu (hval 1 29 v1 rfl rfl);exact ⟨cs,h⟩
 obtain ⟨z1,⟨a1,ez1,h1⟩,s1⟩:=J6J (J8d JDF (by decide) fuel) (by omega) w1 g1 (hb d1 (by simp));subst ez1;have k2:=t2;have lt2:∀ x∈p2,x.block<W.heap.size:=by obtain ⟨m,hm⟩:=k2;exact DataW.trod_lt m _ _ _ hm
 obtain ⟨fuel,g2⟩:=t2
 have w2:∃ cs,v2=.agg cs:=by
  obtain ⟨fs,hu,_⟩:=J0V (J44 29 _ rfl) rfl;obtain ⟨cs,h,_⟩:=okWide_struct hu (hval 2 29 v2 rfl rfl);exact ⟨cs,h⟩
 obtain ⟨z2,⟨a2,ez2,h2⟩,s2⟩:=J6J (J8d JDF (by decide) fuel) (by omega) w2 g2 (hb d2 (by simp));subst ez2;refine (J88 JAu a0 h0 a1 a2 h1 h2 (fun _=>False) W #[v0,v1,v2] (fun c h=>h.elim) ⟨rfl,fun i h h'=>?_⟩).mono fun e W' he=>?_
 ·have hi:i<3:=h
  match i,hi with
  | 0,_=>exact s0
  | 1,_=>rw[J80] at s1;exact s1
  | 2,_=>rw[J80] at s2;exact s2
 ·obtain ⟨v,rfl,hr,bel⟩:=he
  cases hr with
  | val _ _=>
    exact ⟨_,rfl,_,_,_,[],_,[],hW',trodAll_mk1 (shut_bool u4 _),trodAll_cons_mk (Below.trod J3u (by kernel_rfl) (of_decide_eq_true (by kernel_rfl)) k0 bel lt0) (trodAll_cons_mk (Below.trod J3u (by kernel_rfl) (of_decide_eq_true (by kernel_rfl)) k1 bel lt1) (trodAll_cons_mk (Below.trod J3u (by kernel_rfl) (of_decide_eq_true (by kernel_rfl)) k2 bel lt2) (trodAll_mk0))),rfl,bel.frame _,fun h=>by cases h⟩
theorem J4M (os:Os) {H:Type} (enc:TypeId×Value→H):∃ places,DataW.whole enc Tryz.prog ((laidW os).forCall (fun _ _=>0) ⟨#[],#[.agg #[Value.slice none 0 0,Value.slice none 0 0,Value.slice none 0 0,Value.slice none 0 0],.agg #[Value.string ⟨#[]⟩,Value.string ⟨#[]⟩,.int .i64 0,Value.slice none 0 0],.agg #[Value.string ⟨#[]⟩,Value.string ⟨#[]⟩,.int .i64 0,Value.slice none 0 0]],[]⟩).memory Tryz.f4.params.toList Rows.rowsRulesSpec.vars false (#[.agg #[Value.slice none 0 0,Value.slice none 0 0,Value.slice none 0 0,Value.slice none 0 0],.agg #[Value.string ⟨#[]⟩,Value.string ⟨#[]⟩,.int .i64 0,Value.slice none 0 0],.agg #[Value.string ⟨#[]⟩,Value.string ⟨#[]⟩,.int .i64 0,Value.slice none 0 0]]:Array Value).toList 8=some ([.agg [.nil,.nil,.nil,.nil],.agg [.lit (.string []),.lit (.string []),.lit (.int .i64 0),.nil],.agg [.lit (.string []),.lit (.string []),.lit (.int .i64 0),.nil]],[],places):=⟨[],by kernel_rfl⟩
theorem J3j (os:Os) (started:os.Started) (H:Type) (enc:TypeId×Value→H) (F:Stop.Interp) :
  ReturnsInHanded {} Tryz.checked os 4 .any ((Rows.OpenSpec.upto Rows.rowsRulesSpec).preRow enc Tryz.prog Tryz.f4 Rows.rowsRulesUptoRow.domain false Rows.rowsRulesUptoRow.laid) (((Rows.OpenSpec.upto Rows.rowsRulesSpec).at F).post enc Tryz.prog Tryz.f4 false true false false):=by
 obtain ⟨places,hx⟩:=J4M os enc
 refine returnsInHanded_of_row (C:=Tryz.checked) (s:=(Rows.OpenSpec.upto Rows.rowsRulesSpec)) JE2 started (by kernel_rfl) Tryz.func4
  (witness_row_at (enc:=enc) (C:=Tryz.checked) false (laidW os) #[.agg #[Value.slice none 0 0,Value.slice none 0 0,Value.slice none 0 0,Value.slice none 0 0],.agg #[Value.string ⟨#[]⟩,Value.string ⟨#[]⟩,.int .i64 0,Value.slice none 0 0],.agg #[Value.string ⟨#[]⟩,Value.string ⟨#[]⟩,.int .i64 0,Value.slice none 0 0]] rfl (by kernel_rfl) (by kernel_rfl) (by kernel_rfl)
    (OpenSpec.preRow_of_cond 8 hx (by kernel_rfl) (fun k hk=>by cases hk;kernel_rfl) (by kernel_rfl) (JEA os _))) ?_
 intro W base args ds gs before hval hW _ hcond _ _ _ _;exact J2j H enc W base args ds gs before hval hW (hcond _ rfl)
theorem J20:Tryz.prog.funcNamed Rows.rowsRulesUptoRow.func=some 4:=by kernel_rfl
theorem J7F:(Rows.rowsRulesUptoRow.inPlace==Tryz.prog.inPlace 4)=true:=by kernel_rfl
theorem J7E:(Rows.rowsRulesUptoRow.unfollowed==Tryz.prog.unfollowed 4)=true:=by kernel_rfl
theorem J7D:(Rows.rowsRulesUptoRow.recurses==Tryz.prog.recurses 4)=true:=by kernel_rfl
theorem J7C:(Rows.rowsRulesUptoRow.named==Tryz.prog.varsNamed 4)=true:=by kernel_rfl
theorem J7B:(Rows.rowsRulesUptoRow.loops==(Tryz.f4.params.toList++(Rows.OpenSpec.upto Rows.rowsRulesSpec).bare.plain.varTypes Tryz.prog).any (Tryz.prog.loopsFrom ·))=true:=by kernel_rfl
theorem J7A:(Rows.rowsRulesUptoRow.lifted==Tryz.prog.liftsFinal)=true:=J8g
theorem J79:(Tryz.prog.make==some Rows.rowsRulesUptoRow.make)=true:=JFr
theorem J4N:joinedFacts Tryz.prog 4 Tryz.f4 (Rows.OpenSpec.upto Rows.rowsRulesSpec).bare Rows.rowsRulesUptoRow=true:=by
 unfold joinedFacts
 repeat (with_reducible refine Bool.and_eq_true_iff.2 ⟨?_,?_⟩)
 all_goals first | with_reducible exact J3u | with_reducible exact JAY | with_reducible exact J8U | with_reducible exact JC7 | with_reducible exact J7F | with_reducible exact J7E | with_reducible exact J7D | with_reducible exact J7C | with_reducible exact J7B | with_reducible exact J7A | with_reducible exact J79 | kernel_rfl
theorem J5I:Func.isWrapper Tryz.prog Tryz.f4 Rows.rowsRulesUptoRow.wrapper Rows.rowsRulesUptoRow.mainSum:=by unfold Func.isWrapper;first | (rw[if_pos (by decide +kernel)];kernel_rfl) | (rw[if_neg (by decide +kernel)];exact ⟨rfl,rfl⟩)
theorem J5L:Func.isInstance Tryz.prog Tryz.f4 Rows.rowsRulesUptoRow.origin Rows.rowsRulesUptoRow.targs:=of_decide_eq_true (by kernel_rfl)
theorem J5M:false=Rows.rowsRulesUptoRow.goesBy Tryz.pinned.checked.prog:=by kernel_rfl
theorem J5J:(#[26,29,29]:Array TypeId).all (fun t=>!Tryz.prog.wantsStandIn t)=true:=by kernel_rfl
theorem J5K:Rows.RowsRulesUptoSaid:=
 OpenClaim.holds_of_cond 4 Tryz.f4 rfl rfl rfl rfl rfl rfl rfl ⟨rfl,rfl,rfl,rfl,rfl⟩ rfl rfl rfl rfl rfl J20 Tryz.func4 J4N J5L J5I
  (fun os started H enc _ F=>by rw[OpenClaim.pre_eq_preRow];exact J3j os started H enc F)
theorem J78:Rows.rowsRulesUptoRow.wfByText (Rows.OpenSpec.upto Rows.rowsRulesSpec)=true:=by kernel_rfl
theorem rowsRules_card:Rows.RowsRulesUptoCardSaid:=
 Claim7.holds_tied_plain_at .later [] _ _ _ _ J5K (fun _ h=>by cases h) J78 (fun _ h=>by cases h) rowsRulesUpto_row_tie rfl ⟨rfl,rfl⟩ JFs rfl (JAV J20 Tryz.func4 J1n J5J) J5M
end Go.Proofs.YtlblbldolhiokaaGreatDoor
