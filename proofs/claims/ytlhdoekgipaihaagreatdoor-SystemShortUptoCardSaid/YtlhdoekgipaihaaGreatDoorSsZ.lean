/- Kids that are not needed do not matter: for every input whose values and letters are at most 1048576, the law SystemShort returns true, and its arguments read as they did. The condition: that bound (the second form), as the statement is given. -/
import Derived.Test.YtlhdoekgipaihaaGreatDoorSs51
set_option linter.unusedVariables false
set_option linter.unusedSimpArgs false
set_option linter.unusedSectionVars false
set_option maxRecDepth 100000
set_option exponentiation.threshold 400
set_option maxHeartbeats 8000000
namespace Go.Proofs.YtlhdoekgipaihaaGreatDoor
open Go Go.Fw Go.ChangeShapes Go.WideShapes Go.ChangeAt Go.RowKit
theorem J1X:Tryz.f11.params=#[26,42,42,42,42,50]:=by kernel_rfl
theorem J2q (H:Type) (enc:TypeId×Value→H) (W:World) (base:Nat) (args:Array Value) (ds gs:List (DataW H)) (before:List MemPlace)
  (hval:∀ (j:Nat) t v,Tryz.f11.params[j]?=some t→args[j]?=some v→Value.okWide Tryz.prog W .any base t v)
  (hW:DataW.Whole enc Tryz.prog Tryz.f11.params.toList Rows.systemShortSpec.vars false W args.toList ds gs before) (hk:Rows.uptoSmall H (ds++gs)=true) :
  Calls Tryz.prog 11 args W fun e W'=>∃ v,e=.returned v∧Rows.systemShortSpec.post enc Tryz.prog Tryz.f11 false true false false W args v W':=by
 have hW':=hW;obtain ⟨p,q,hA0,hV,rfl,hfz,hnd⟩:=hW;have hA:DataW.TrodAll enc Tryz.prog W 0 (fun _=>true) true Tryz.f11.params.toList args.toList ds p:=hA0;rw[J1X] at hA hval;obtain ⟨v0,vs0,d0,ds0,p0,q0,e0,rfl,rfl,t0,r0⟩:=trodAll_cons hA;obtain ⟨v1,vs1,d1,ds1,p1,q1,e1,rfl,rfl,t1,r1⟩:=trodAll_cons r0;obtain ⟨v2,vs2,d2,ds2,p2,q2,e2,rfl,rfl,t2,r2⟩:=trodAll_cons r1;obtain ⟨v3,vs3,d3,ds3,p3,q3,e3,rfl,rfl,t3,r3⟩:=trodAll_cons r2;obtain ⟨v4,vs4,d4,ds4,p4,q4,e4,rfl,rfl,t4,r4⟩:=trodAll_cons r3;obtain ⟨v5,vs5,d5,ds5,p5,q5,e5,rfl,rfl,t5,r5⟩:=trodAll_cons r4;obtain ⟨rfl,rfl,rfl⟩:=trodAll_nil r5;obtain rfl:args=#[v0,v1,v2,v3,v4,v5]:=by cases args;simp_all
 obtain ⟨rfl,rfl⟩:=trodVars_none hV;clear hA0;simp only[List.append_nil] at hW' hk;have hb:=JDQ hk;have k0:=t0;have lt0:∀ x∈p0,x.block<W.heap.size:=by obtain ⟨m,hm⟩:=k0;exact DataW.trod_lt m _ _ _ hm
 obtain ⟨fuel,g0⟩:=t0
 have w0:∃ cs,v0=.agg cs:=by
  obtain ⟨fs,hu,_⟩:=J0D (J38 26 _ rfl) rfl;obtain ⟨cs,h,_⟩:=okWide_struct hu (hval 0 26 v0 rfl rfl);exact ⟨cs,h⟩
 obtain ⟨z0,⟨a0,ez0,h0⟩,s0⟩:=J2f (JJD J79 (by decide) fuel) (by omega) w0 g0 (hb d0 (by simp));subst ez0;have k1:=t1;have lt1:∀ x∈p1,x.block<W.heap.size:=by obtain ⟨m,hm⟩:=k1;exact DataW.trod_lt m _ _ _ hm
 obtain ⟨fuel,g1⟩:=t1
 have w1:∃ cs,v1=.agg cs:=by
  obtain ⟨fs,hu,_⟩:=J0D (J38 42 _ rfl) rfl;obtain ⟨cs,h,_⟩:=okWide_struct hu (hval 1 42 v1 rfl rfl);exact ⟨cs,h⟩
 obtain ⟨z1,⟨a1,ez1,h1⟩,s1⟩:=J2f (J7Z J79 (by decide) fuel) (by omega) w1 g1 (hb d1 (by simp));subst ez1;have k2:=t2;have lt2:∀ x∈p2,x.block<W.heap.size:=by obtain ⟨m,hm⟩:=k2;exact DataW.trod_lt m _ _ _ hm
 obtain ⟨fuel,g2⟩:=t2
 have w2:∃ cs,v2=.agg cs:=by
  obtain ⟨fs,hu,_⟩:=J0D (J38 42 _ rfl) rfl;obtain ⟨cs,h,_⟩:=okWide_struct hu (hval 2 42 v2 rfl rfl);exact ⟨cs,h⟩
 obtain ⟨z2,⟨a2,ez2,h2⟩,s2⟩:=J2f (J7Z J79 (by decide) fuel) (by omega) w2 g2 (hb d2 (by simp));subst ez2;have k3:=t3;have lt3:∀ x∈p3,x.block<W.heap.size:=by obtain ⟨m,hm⟩:=k3;exact DataW.trod_lt m _ _ _ hm
 obtain ⟨fuel,g3⟩:=t3
 have w3:∃ cs,v3=.agg cs:=by
  obtain ⟨fs,hu,_⟩:=J0D (J38 42 _ rfl) rfl;obtain ⟨cs,h,_⟩:=okWide_struct hu (hval 3 42 v3 rfl rfl);exact ⟨cs,h⟩
 obtain ⟨z3,⟨a3,ez3,h3⟩,s3⟩:=J2f (J7Z J79 (by decide) fuel) (by omega) w3 g3 (hb d3 (by simp));subst ez3;have k4:=t4;have lt4:∀ x∈p4,x.block<W.heap.size:=by obtain ⟨m,hm⟩:=k4;exact DataW.trod_lt m _ _ _ hm
 obtain ⟨fuel,g4⟩:=t4
 have w4:∃ cs,v4=.agg cs:=by
  obtain ⟨fs,hu,_⟩:=J0D (J38 42 _ rfl) rfl;obtain ⟨cs,h,_⟩:=okWide_struct hu (hval 4 42 v4 rfl rfl);exact ⟨cs,h⟩
 obtain ⟨z4,⟨a4,ez4,h4⟩,s4⟩:=J2f (J7Z J79 (by decide) fuel) (by omega) w4 g4 (hb d4 (by simp));subst ez4;have k5:=t5;have lt5:∀ x∈p5,x.block<W.heap.size:=by obtain ⟨m,hm⟩:=k5;exact DataW.trod_lt m _ _ _ hm
 obtain ⟨fuel,g5⟩:=t5
 have w5:∃ cs,v5=.agg cs:=by
  obtain ⟨fs,hu,_⟩:=J0D (J38 50 _ rfl) rfl;obtain ⟨cs,h,_⟩:=okWide_struct hu (hval 5 50 v5 rfl rfl);exact ⟨cs,h⟩
 obtain ⟨z5,⟨a5,ez5,h5⟩,s5⟩:=J2f (JHz J79 (by decide) fuel) (by omega) w5 g5 (hb d5 (by simp));subst ez5;refine (J6O JCY a0 h0 a1 a2 a3 a4 h1 h2 h3 h4 a5 h5 (fun _=>False) W #[v0,v1,v2,v3,v4,v5] (fun c h=>h.elim) ⟨rfl,fun i h h'=>?_⟩).mono fun e W' he=>?_
 ·have hi:i<6:=h
  match i,hi with
  | 0,_=>exact s0
  | 1,_=>rw[J3d] at s1;exact s1
  | 2,_=>rw[J3d] at s2;exact s2
  | 3,_=>rw[J3d] at s3;exact s3
  | 4,_=>rw[J3d] at s4;exact s4
  | 5,_=>exact s5
 ·obtain ⟨v,rfl,hr,bel⟩:=he
  cases hr with
  | val _ _=>
    exact ⟨_,rfl,_,_,_,[],_,[],hW',trodAll_mk1 (shut_bool u4 _),trodAll_cons_mk (Below.trod J21 (by kernel_rfl) (of_decide_eq_true (by kernel_rfl)) k0 bel lt0) (trodAll_cons_mk (Below.trod J21 (by kernel_rfl) (of_decide_eq_true (by kernel_rfl)) k1 bel lt1) (trodAll_cons_mk (Below.trod J21 (by kernel_rfl) (of_decide_eq_true (by kernel_rfl)) k2 bel lt2) (trodAll_cons_mk (Below.trod J21 (by kernel_rfl) (of_decide_eq_true (by kernel_rfl)) k3 bel lt3) (trodAll_cons_mk (Below.trod J21 (by kernel_rfl) (of_decide_eq_true (by kernel_rfl)) k4 bel lt4) (trodAll_cons_mk (Below.trod J21 (by kernel_rfl) (of_decide_eq_true (by kernel_rfl)) k5 bel lt5) (trodAll_mk0)))))),rfl,bel.frame _,fun h=>by cases h⟩
theorem J3u (os:Os) {H:Type} (enc:TypeId×Value→H):∃ places,DataW.whole enc Tryz.prog ((laidW os).forCall (fun _ _=>0) ⟨#[],#[.agg #[Value.slice none 0 0,Value.slice none 0 0,Value.slice none 0 0,Value.slice none 0 0],.agg #[Value.string ⟨#[]⟩,Value.string ⟨#[]⟩,.int .i64 0,Value.slice none 0 0],.agg #[Value.string ⟨#[]⟩,Value.string ⟨#[]⟩,.int .i64 0,Value.slice none 0 0],.agg #[Value.string ⟨#[]⟩,Value.string ⟨#[]⟩,.int .i64 0,Value.slice none 0 0],.agg #[Value.string ⟨#[]⟩,Value.string ⟨#[]⟩,.int .i64 0,Value.slice none 0 0],.agg #[Value.string ⟨#[]⟩,.bool false,Value.slice none 0 0]],[]⟩).memory Tryz.f11.params.toList Rows.systemShortSpec.vars false (#[.agg #[Value.slice none 0 0,Value.slice none 0 0,Value.slice none 0 0,Value.slice none 0 0],.agg #[Value.string ⟨#[]⟩,Value.string ⟨#[]⟩,.int .i64 0,Value.slice none 0 0],.agg #[Value.string ⟨#[]⟩,Value.string ⟨#[]⟩,.int .i64 0,Value.slice none 0 0],.agg #[Value.string ⟨#[]⟩,Value.string ⟨#[]⟩,.int .i64 0,Value.slice none 0 0],.agg #[Value.string ⟨#[]⟩,Value.string ⟨#[]⟩,.int .i64 0,Value.slice none 0 0],.agg #[Value.string ⟨#[]⟩,.bool false,Value.slice none 0 0]]:Array Value).toList 8=some ([.agg [.nil,.nil,.nil,.nil],.agg [.lit (.string []),.lit (.string []),.lit (.int .i64 0),.nil],.agg [.lit (.string []),.lit (.string []),.lit (.int .i64 0),.nil],.agg [.lit (.string []),.lit (.string []),.lit (.int .i64 0),.nil],.agg [.lit (.string []),.lit (.string []),.lit (.int .i64 0),.nil],.agg [.lit (.string []),.lit (.bool false),.nil]],[],places):=⟨[],by kernel_rfl⟩
theorem J3B (os:Os) (started:os.Started) (H:Type) (enc:TypeId×Value→H) (F:Stop.Interp) :
  ReturnsInHanded {} Tryz.checked os 11 .any ((Rows.OpenSpec.upto Rows.systemShortSpec).preRow enc Tryz.prog Tryz.f11 Rows.systemShortUptoRow.domain false Rows.systemShortUptoRow.laid) (((Rows.OpenSpec.upto Rows.systemShortSpec).at F).post enc Tryz.prog Tryz.f11 false true false false):=by
 obtain ⟨places,hx⟩:=J3u os enc
 refine returnsInHanded_of_row (C:=Tryz.checked) (s:=(Rows.OpenSpec.upto Rows.systemShortSpec)) JG1 started (by kernel_rfl) Tryz.func11
  (witness_row_at (enc:=enc) (C:=Tryz.checked) false (laidW os) #[.agg #[Value.slice none 0 0,Value.slice none 0 0,Value.slice none 0 0,Value.slice none 0 0],.agg #[Value.string ⟨#[]⟩,Value.string ⟨#[]⟩,.int .i64 0,Value.slice none 0 0],.agg #[Value.string ⟨#[]⟩,Value.string ⟨#[]⟩,.int .i64 0,Value.slice none 0 0],.agg #[Value.string ⟨#[]⟩,Value.string ⟨#[]⟩,.int .i64 0,Value.slice none 0 0],.agg #[Value.string ⟨#[]⟩,Value.string ⟨#[]⟩,.int .i64 0,Value.slice none 0 0],.agg #[Value.string ⟨#[]⟩,.bool false,Value.slice none 0 0]] rfl (by kernel_rfl) (by kernel_rfl) (by kernel_rfl)
    (OpenSpec.preRow_of_cond 8 hx (by kernel_rfl) (fun k hk=>by cases hk;kernel_rfl) (by kernel_rfl) (JGA os _))) ?_
 intro W base args ds gs before hval hW _ hcond _ _ _ _;exact J2q H enc W base args ds gs before hval hW (hcond _ rfl)
theorem J1j:Tryz.prog.funcNamed Rows.systemShortUptoRow.func=some 11:=by kernel_rfl
theorem J6J:(Rows.systemShortUptoRow.inPlace==Tryz.prog.inPlace 11)=true:=by kernel_rfl
theorem J6I:(Rows.systemShortUptoRow.unfollowed==Tryz.prog.unfollowed 11)=true:=by kernel_rfl
theorem J6H:(Rows.systemShortUptoRow.recurses==Tryz.prog.recurses 11)=true:=by kernel_rfl
theorem J6G:(Rows.systemShortUptoRow.named==Tryz.prog.varsNamed 11)=true:=by kernel_rfl
theorem J6F:(Rows.systemShortUptoRow.loops==(Tryz.f11.params.toList++(Rows.OpenSpec.upto Rows.systemShortSpec).bare.plain.varTypes Tryz.prog).any (Tryz.prog.loopsFrom ·))=true:=by kernel_rfl
theorem J6E:(Rows.systemShortUptoRow.lifted==Tryz.prog.liftsFinal)=true:=JA5
theorem J6D:(Tryz.prog.make==some Rows.systemShortUptoRow.make)=true:=JI5
theorem J3v:joinedFacts Tryz.prog 11 Tryz.f11 (Rows.OpenSpec.upto Rows.systemShortSpec).bare Rows.systemShortUptoRow=true:=by
 unfold joinedFacts
 repeat (with_reducible refine Bool.and_eq_true_iff.2 ⟨?_,?_⟩)
 all_goals first | with_reducible exact J21 | with_reducible exact JCA | with_reducible exact J9u | with_reducible exact JDw | with_reducible exact J6J | with_reducible exact J6I | with_reducible exact J6H | with_reducible exact J6G | with_reducible exact J6F | with_reducible exact J6E | with_reducible exact J6D | kernel_rfl
theorem J4O:Func.isWrapper Tryz.prog Tryz.f11 Rows.systemShortUptoRow.wrapper Rows.systemShortUptoRow.mainSum:=by unfold Func.isWrapper;first | (rw[if_pos (by decide +kernel)];kernel_rfl) | (rw[if_neg (by decide +kernel)];exact ⟨rfl,rfl⟩)
theorem J4R:Func.isInstance Tryz.prog Tryz.f11 Rows.systemShortUptoRow.origin Rows.systemShortUptoRow.targs:=of_decide_eq_true (by kernel_rfl)
theorem J4S:false=Rows.systemShortUptoRow.goesBy Tryz.pinned.checked.prog:=by kernel_rfl
theorem J4P:(#[26,42,42,42,42,50]:Array TypeId).all (fun t=>!Tryz.prog.wantsStandIn t)=true:=by kernel_rfl
theorem J4Q:Rows.SystemShortUptoSaid:=
 OpenClaim.holds_of_cond 11 Tryz.f11 rfl rfl rfl rfl rfl rfl rfl ⟨rfl,rfl,rfl,rfl,rfl⟩ rfl rfl rfl rfl rfl J1j Tryz.func11 J3v J4R J4O
  (fun os started H enc _ F=>by rw[OpenClaim.pre_eq_preRow];exact J3B os started H enc F)
theorem J6C:Rows.systemShortUptoRow.wfByText (Rows.OpenSpec.upto Rows.systemShortSpec)=true:=by kernel_rfl
theorem systemShort_card:Rows.SystemShortUptoCardSaid:=
 Claim7.holds_tied_plain_at .later [] _ _ _ _ J4Q (fun _ h=>by cases h) J6C (fun _ h=>by cases h) systemShortUpto_row_tie rfl ⟨rfl,rfl⟩ JI6 rfl (JC6 J1j Tryz.func11 J1X J4P) J4S
end Go.Proofs.YtlhdoekgipaihaaGreatDoor
