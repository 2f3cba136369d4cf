/- Put is as the chapter says: for every input whose values and letters are at most 1048576, the law RowsPuts returns true, and its arguments read as they did. The condition: that bound (the second form), as the statement is given. -/
import Derived.Test.YtlblbldolhiokaaGreatDoorPuts52
set_option linter.unusedVariables false
set_option linter.unusedSimpArgs false
set_option linter.unusedSectionVars false
set_option maxRecDepth 100000
set_option exponentiation.threshold 400
set_option maxHeartbeats 8000000
namespace Go.Proofs.YtlblbldolhiokaaGreatDoor
open Go Go.Fw Go.ChangeShapes Go.WideShapes Go.ChangeAt Go.RowKit
theorem J2Q:Tryz.f6.params=#[26,29,54,29]:=by kernel_rfl
theorem J4G (H:Type) (enc:TypeId×Value→H) (W:World) (base:Nat) (args:Array Value) (ds gs:List (DataW H)) (before:List MemPlace)
  (hval:∀ (j:Nat) t v,Tryz.f6.params[j]?=some t→args[j]?=some v→Value.okWide Tryz.prog W .any base t v)
  (hW:DataW.Whole enc Tryz.prog Tryz.f6.params.toList Rows.rowsPutsSpec.vars false W args.toList ds gs before) (hk:Rows.uptoSmall H (ds++gs)=true) :
  Calls Tryz.prog 6 args W fun e W'=>∃ v,e=.returned v∧Rows.rowsPutsSpec.post enc Tryz.prog Tryz.f6 false true false false W args v W':=by
 have hW':=hW;obtain ⟨p,q,hA0,hV,rfl,hfz,hnd⟩:=hW;have hA:DataW.TrodAll enc Tryz.prog W 0 (fun _=>true) true Tryz.f6.params.toList args.toList ds p:=hA0;rw[J2Q] at hA hval;obtain ⟨v0,vs0,d0,ds0,p0,q0,e0,rfl,rfl,t0,r0⟩:=trodAll_cons hA;obtain ⟨v1,vs1,d1,ds1,p1,q1,e1,rfl,rfl,t1,r1⟩:=trodAll_cons r0;obtain ⟨v2,vs2,d2,ds2,p2,q2,e2,rfl,rfl,t2,r2⟩:=trodAll_cons r1;obtain ⟨v3,vs3,d3,ds3,p3,q3,e3,rfl,rfl,t3,r3⟩:=trodAll_cons r2;obtain ⟨rfl,rfl,rfl⟩:=trodAll_nil r3;obtain rfl:args=#[v0,v1,v2,v3]:=by cases args;simp_all
 obtain ⟨rfl,rfl⟩:=trodVars_none hV;clear hA0;simp only[List.append_nil] at hW' hk;have hb:=JEH hk;have k0:=t0;have lt0:∀ x∈p0,x.block<W.heap.size:=by obtain ⟨m,hm⟩:=k0;exact DataW.trod_lt m _ _ _ hm
 obtain ⟨fuel,g0⟩:=t0
 have w0:∃ cs,v0=.agg cs:=by
  obtain ⟨fs,hu,_⟩:=J0V (J4V 26 _ rfl) rfl;obtain ⟨cs,h,_⟩:=okWide_struct hu (hval 0 26 v0 rfl rfl);exact ⟨cs,h⟩
 obtain ⟨z0,⟨a0,ez0,h0⟩,s0⟩:=J4u (JKN JCF (by decide) fuel) (by omega) w0 g0 (hb d0 (by simp));subst ez0;have k1:=t1;have lt1:∀ x∈p1,x.block<W.heap.size:=by obtain ⟨m,hm⟩:=k1;exact DataW.trod_lt m _ _ _ hm
 obtain ⟨fuel,g1⟩:=t1
 have w1:∃ cs,v1=.agg cs:=by
  obtain ⟨fs,hu,_⟩:=J0V (J4V 29 _ rfl) rfl;obtain ⟨cs,h,_⟩:=okWide_struct hu (hval 1 29 v1 rfl rfl);exact ⟨cs,h⟩
 obtain ⟨z1,⟨a1,ez1,h1⟩,s1⟩:=J4u (JAl JCF (by decide) fuel) (by omega) w1 g1 (hb d1 (by simp));subst ez1;have k2:=t2;have lt2:∀ x∈p2,x.block<W.heap.size:=by obtain ⟨m,hm⟩:=k2;exact DataW.trod_lt m _ _ _ hm
 obtain ⟨fuel,g2⟩:=t2
 have w2:∃ cs,v2=.agg cs:=by
  obtain ⟨fs,hu,_⟩:=J0V (J4V 54 _ rfl) rfl;obtain ⟨cs,h,_⟩:=okWide_struct hu (hval 2 54 v2 rfl rfl);exact ⟨cs,h⟩
 obtain ⟨z2,⟨a2,ez2,h2⟩,s2⟩:=J4u (JLJ JCF fuel) (by omega) w2 g2 (hb d2 (by simp));subst ez2;have k3:=t3;have lt3:∀ x∈p3,x.block<W.heap.size:=by obtain ⟨m,hm⟩:=k3;exact DataW.trod_lt m _ _ _ hm
 obtain ⟨fuel,g3⟩:=t3
 have w3:∃ cs,v3=.agg cs:=by
  obtain ⟨fs,hu,_⟩:=J0V (J4V 29 _ rfl) rfl;obtain ⟨cs,h,_⟩:=okWide_struct hu (hval 3 29 v3 rfl rfl);exact ⟨cs,h⟩
 obtain ⟨z3,⟨a3,ez3,h3⟩,s3⟩:=J4u (JAl JCF (by decide) fuel) (by omega) w3 g3 (hb d3 (by simp));subst ez3;refine (JBE JDO a0 h0 a1 h1 a2 (Nat.lt_of_le_of_lt h2 (by decide)) a3 h3 (fun _=>False) W #[v0,v1,v2,v3] (fun c h=>h.elim) ⟨rfl,fun i h h'=>?_⟩).mono fun e W' he=>?_
 ·have hi:i<4:=h
  match i,hi with
  | 0,_=>exact s0
  | 1,_=>rw[J9s] at s1;exact s1
  | 2,_=>exact s2
  | 3,_=>rw[J9s] at s3;exact s3
 ·obtain ⟨v,rfl,hr,bel⟩:=he
  cases hr with
  | val _ _=>
    exact ⟨_,rfl,_,_,_,[],_,[],hW',trodAll_mk1 (shut_bool u4 _),trodAll_cons_mk (Below.trod J3X (by kernel_rfl) (of_decide_eq_true (by kernel_rfl)) k0 bel lt0) (trodAll_cons_mk (Below.trod J3X (by kernel_rfl) (of_decide_eq_true (by kernel_rfl)) k1 bel lt1) (trodAll_cons_mk (Below.trod J3X (by kernel_rfl) (of_decide_eq_true (by kernel_rfl)) k2 bel lt2) (trodAll_cons_mk (Below.trod J3X (by kernel_rfl) (of_decide_eq_true (by kernel_rfl)) k3 bel lt3) (trodAll_mk0)))),rfl,bel.frame _,fun h=>by cases h⟩
theorem J6W (os:Os) {H:Type} (enc:TypeId×Value→H):∃ places,DataW.whole enc Tryz.prog ((laidW os).forCall (fun _ _=>0) ⟨#[],#[.agg #[Value.slice none 0 0,Value.slice none 0 0,Value.slice none 0 0,Value.slice none 0 0],.agg #[Value.string ⟨#[]⟩,Value.string ⟨#[]⟩,.int .i64 0,Value.slice none 0 0],.agg #[Value.string ⟨#[]⟩,.int .i64 0,.bool false],.agg #[Value.string ⟨#[]⟩,Value.string ⟨#[]⟩,.int .i64 0,Value.slice none 0 0]],[]⟩).memory Tryz.f6.params.toList Rows.rowsPutsSpec.vars false (#[.agg #[Value.slice none 0 0,Value.slice none 0 0,Value.slice none 0 0,Value.slice none 0 0],.agg #[Value.string ⟨#[]⟩,Value.string ⟨#[]⟩,.int .i64 0,Value.slice none 0 0],.agg #[Value.string ⟨#[]⟩,.int .i64 0,.bool false],.agg #[Value.string ⟨#[]⟩,Value.string ⟨#[]⟩,.int .i64 0,Value.slice none 0 0]]:Array Value).toList 8=some ([.agg [.nil,.nil,.nil,.nil],.agg [.lit (.string []),.lit (.string []),.lit (.int .i64 0),.nil],.agg [.lit (.string []),.lit (.int .i64 0),.lit (.bool false)],.agg [.lit (.string []),.lit (.string []),.lit (.int .i64 0),.nil]],[],places):=⟨[],by kernel_rfl⟩
theorem J5Q (os:Os) (started:os.Started) (H:Type) (enc:TypeId×Value→H) (F:Stop.Interp) :
  ReturnsInHanded {} Tryz.checked os 6 .any ((Rows.OpenSpec.upto Rows.rowsPutsSpec).preRow enc Tryz.prog Tryz.f6 Rows.rowsPutsUptoRow.domain false Rows.rowsPutsUptoRow.laid) (((Rows.OpenSpec.upto Rows.rowsPutsSpec).at F).post enc Tryz.prog Tryz.f6 false true false false):=by
 obtain ⟨places,hx⟩:=J6W os enc
 refine returnsInHanded_of_row (C:=Tryz.checked) (s:=(Rows.OpenSpec.upto Rows.rowsPutsSpec)) JH0 started (by kernel_rfl) Tryz.func6
  (witness_row_at (enc:=enc) (C:=Tryz.checked) false (laidW os) #[.agg #[Value.slice none 0 0,Value.slice none 0 0,Value.slice none 0 0,Value.slice none 0 0],.agg #[Value.string ⟨#[]⟩,Value.string ⟨#[]⟩,.int .i64 0,Value.slice none 0 0],.agg #[Value.string ⟨#[]⟩,.int .i64 0,.bool false],.agg #[Value.string ⟨#[]⟩,Value.string ⟨#[]⟩,.int .i64 0,Value.slice none 0 0]] rfl (by kernel_rfl) (by kernel_rfl) (by kernel_rfl)
    (OpenSpec.preRow_of_cond 8 hx (by kernel_rfl) (fun k hk=>by cases hk;kernel_rfl) (by kernel_rfl) (JHA os _))) ?_
 intro W base args ds gs before hval hW _ hcond _ _ _ _;exact J4G H enc W base args ds gs before hval hW (hcond _ rfl)
theorem J32:Tryz.prog.funcNamed Rows.rowsPutsUptoRow.func=some 6:=by kernel_rfl
theorem JAe:(Rows.rowsPutsUptoRow.inPlace==Tryz.prog.inPlace 6)=true:=by kernel_rfl
theorem JAd:(Rows.rowsPutsUptoRow.unfollowed==Tryz.prog.unfollowed 6)=true:=by kernel_rfl
theorem JAc:(Rows.rowsPutsUptoRow.recurses==Tryz.prog.recurses 6)=true:=by kernel_rfl
theorem JAb:(Rows.rowsPutsUptoRow.named==Tryz.prog.varsNamed 6)=true:=by kernel_rfl
theorem JAa:(Rows.rowsPutsUptoRow.loops==(Tryz.f6.params.toList++(Rows.OpenSpec.upto Rows.rowsPutsSpec).bare.plain.varTypes Tryz.prog).any (Tryz.prog.loopsFrom ·))=true:=by kernel_rfl
theorem JAZ:(Rows.rowsPutsUptoRow.lifted==Tryz.prog.liftsFinal)=true:=JAp
theorem JAY:(Tryz.prog.make==some Rows.rowsPutsUptoRow.make)=true:=JJB
theorem J6X:joinedFacts Tryz.prog 6 Tryz.f6 (Rows.OpenSpec.upto Rows.rowsPutsSpec).bare Rows.rowsPutsUptoRow=true:=by
 unfold joinedFacts
 repeat (with_reducible refine Bool.and_eq_true_iff.2 ⟨?_,?_⟩)
 all_goals first | with_reducible exact J3X | with_reducible exact JCx | with_reducible exact JAR | with_reducible exact JEo | with_reducible exact JAe | with_reducible exact JAd | with_reducible exact JAc | with_reducible exact JAb | with_reducible exact JAa | with_reducible exact JAZ | with_reducible exact JAY | kernel_rfl
theorem J7j:Func.isWrapper Tryz.prog Tryz.f6 Rows.rowsPutsUptoRow.wrapper Rows.rowsPutsUptoRow.mainSum:=by unfold Func.isWrapper;first | (rw[if_pos (by decide +kernel)];kernel_rfl) | (rw[if_neg (by decide +kernel)];exact ⟨rfl,rfl⟩)
theorem J7m:Func.isInstance Tryz.prog Tryz.f6 Rows.rowsPutsUptoRow.origin Rows.rowsPutsUptoRow.targs:=of_decide_eq_true (by kernel_rfl)
theorem J7n:false=Rows.rowsPutsUptoRow.goesBy Tryz.pinned.checked.prog:=by kernel_rfl
theorem J7k:(#[26,29,54,29]:Array TypeId).all (fun t=>!Tryz.prog.wantsStandIn t)=true:=by kernel_rfl
theorem J7l:Rows.RowsPutsUptoSaid:=
 OpenClaim.holds_of_cond 6 Tryz.f6 rfl rfl rfl rfl rfl rfl rfl ⟨rfl,rfl,rfl,rfl,rfl⟩ rfl rfl rfl rfl rfl J32 Tryz.func6 J6X J7m J7j
  (fun os started H enc _ F=>by rw[OpenClaim.pre_eq_preRow];exact J5Q os started H enc F)
theorem JAX:Rows.rowsPutsUptoRow.wfByText (Rows.OpenSpec.upto Rows.rowsPutsSpec)=true:=by kernel_rfl
theorem rowsPuts_card:Rows.RowsPutsUptoCardSaid:=
 Claim7.holds_tied_plain_at .later [] _ _ _ _ J7l (fun _ h=>by cases h) JAX (fun _ h=>by cases h) rowsPutsUpto_row_tie rfl ⟨rfl,rfl⟩ JJC rfl (JCt J32 Tryz.func6 J2Q J7k) J7n
end Go.Proofs.YtlblbldolhiokaaGreatDoor
