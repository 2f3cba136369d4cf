/- Part 6 of the proof. -/
import Derived.Test.YtlblbldolhiokaaGreatDoorDual5
import Derived.Laws.IdiomStrings
set_option linter.unusedVariables false
set_option linter.unusedSimpArgs false
set_option linter.unusedSectionVars false
set_option maxRecDepth 100000
set_option exponentiation.threshold 400
set_option maxHeartbeats 8000000
namespace Go.Fw
open Go.RowKit
section
variable {P:Program} {T:Nat→Option TD} {κ:KM} {N:Nat→Prop} {w:World}
theorem JEI (hT:TOk P T){t:Nat}{x:AV}{lo hi mx:Option AV}{v:Value}{vlo vhi vmx:Option Value}(hv:VR κ w N x v)(hlo:OptR κ w N lo vlo)(hhi:OptR κ w N hi vhi)(hmx:OptR κ w N mx vmx){C:AV→Prop}
  (h:evSlice T t x lo hi mx C):∃ x u,C x∧(Instr.sliceAt t v vlo vhi vmx).run P w=.ok u w∧VR κ w N x u:=by
 obtain ⟨rfl,h⟩:=h
 cases hmx with
 |no=>
 split at h
 ·obtain ⟨⟨d,hd,hk⟩,h⟩:=h;obtain ⟨td,hu,hr⟩:=(J0W (hT _ _ hd)).und;rw[hk] at hr;cases td<;>simp[kdOf] at hr
  cases hv with
  |val _ _=>
    obtain ⟨l,h,hl,hh,hC,hb⟩:=J1F (P:=P) (isS:=false) hlo hhi (Nat.le_refl _) h w;exact ⟨_,_,hC,by simp[Instr.sliceAt,Instr.slice,Sem.run_bind,run_underlying hu,hb],.val _ rfl⟩
 ·rename_i n xs;obtain ⟨e,ed,hr,hu,ht,hn,h⟩:=J2s hT h w
  cases hv with
  |slnil=>
    obtain ⟨l,h,hl,hh,hC,hb⟩:=J1F (P:=P) (isS:=true) hlo hhi (Nat.le_refl _) h w;simp at hh;obtain rfl:h=0:=hh;obtain rfl:l=0:=by omega
    simp only[List.length_nil] at hb;exact ⟨_,.slice none 0 0,hC,by simp[Instr.sliceAt,Instr.slice,Sem.run_bind,run_underlying hu,hb,ht.run_size w],by simpa using VR.slnil n⟩
  |slemp _ a=>
    obtain ⟨l,h,hl,hh,hC,hb⟩:=J1F (P:=P) (isS:=true) hlo hhi (Nat.le_refl _) h w;simp at hh;obtain rfl:h=0:=hh;obtain rfl:l=0:=by omega
    simp only[List.length_nil] at hb;exact ⟨_,.slice (some a) 0 0,hC,by simp[Instr.sliceAt,Instr.slice,Sem.run_bind,run_underlying hu,hb,ht.run_size w],by simpa using VR.slemp n a⟩
  |sl _ _ c o cap f h1 h2 h3 h4 h5 h6 h7=>
    obtain ⟨l,h,hl,hh,hC,hb⟩:=J1F (P:=P) (isS:=true) hlo hhi h1 h w;obtain ⟨A,et,z,hbk,hsz⟩:=h3
    by_cases hm:cap=l
    ·subst hm;obtain rfl:h=cap:=by omega
     have hnil:(xs.take h).drop h=[]:=by simp
     refine ⟨_,.slice (some ⟨c,o,none⟩) 0 0,hC,?_,?_⟩
     ·simp[Instr.sliceAt,Instr.slice,Sem.run_bind,run_underlying hu,hb,ht.run_size w]
     ·rw[hnil];have:=VR.sl (κ:=κ) (w:=w) (N:=N) n [] c o 0 (fun _ _=>undef) (Nat.zero_le _) h2 ⟨A,et,z,hbk,by omega⟩ (fun i h=>absurd h (by simp)) (fun i h=>absurd h (by simp)) (fun i h=>absurd h (by simp)) (fun i j h=>absurd h (by simp))
      simpa using this
    ·refine ⟨_,.slice (some ⟨c,o+l*n,none⟩) (h-l) (cap-l),hC,?_,?_⟩
     ·simp[Instr.sliceAt,Instr.slice,Sem.run_bind,run_underlying hu,hb,ht.run_size w,hm,J0Y,hn]
     ·have hlen:((xs.take h).drop l).length=h-l:=by simp;omega
      have hge:∀ i,(hi:i<((xs.take h).drop l).length)→((xs.take h).drop l)[i]=xs[l+i]'(by omega):=fun i hi=>by simp
      have:=VR.sl (κ:=κ) (w:=w) (N:=N) n ((xs.take h).drop l) c (o+l*n) (cap-l) (fun i j=>f (l+i) j) (by omega) h2
       ⟨A,et,z,hbk,by
        have:l*n+(cap-l)*n=cap*n:=by rw[← Nat.add_mul];congr 1;omega
        omega⟩
       (fun i hi=>by rw[hge i hi];exact h4 _ _) (fun i hi j hj=>by
         have:=h5 (l+i) (by omega) j hj
         rwa [show o+(l+i)*n+j=o+l*n+i*n+j from by rw[Nat.add_mul];omega] at this)
       (fun i hi j hj=>by
         have e:=hge i hi;have hj':j<(xs[l+i]'(by omega)).cells.length:=by rw[← e];exact hj
         have:=h6 (l+i) (by omega) j hj'
         simpa only [e] using this) (fun i j hi hj=>h7 _ _ (by omega) hj)
      rw[hlen] at this;exact this
 ·obtain ⟨e,ed,hr,hu,ht,h⟩:=J2s hT h w
  cases hv with
  |val _ _=>
    obtain ⟨l,h,hl,hh,hC,hb⟩:=J1F (P:=P) (isS:=true) hlo hhi (Nat.le_refl _) h w;simp at hh;obtain rfl:h=0:=hh;obtain rfl:l=0:=by omega
    exact ⟨_,_,hC,by simp[Instr.sliceAt,Instr.slice,Sem.run_bind,run_underlying hu,hb,ht.run_size w],.val _ rfl⟩
 ·exact h.elim
def evLen (T:Nat→Option TD)(t:Nat)(x:AV)(C:AV→Prop):Prop:=
 ∃ d,T t=some d ∧
 match x with
 |.val (.string s)=>d.kind=.str∧C (.val (.int .i64 s.size))
 |.sl _ xs=>(∃ e,d.kind=.slice e)∧C (.val (.int .i64 xs.length))
 |.own _ _ _ len=>(∃ e,d.kind=.slice e)∧C (.val (.int .i64 len))
 |.val (.slice none len _)=>(∃ e,d.kind=.slice e)∧C (.val (.int .i64 len))
 |_=>False
theorem JEJ (hT:TOk P T){t ty:Nat}{x:AV}{v:Value}(hv:VR κ w N x v){C:AV→Prop}(h:evLen T t x C) :
  ∃ x u,C x∧(Builtin.len_ #[t] ty #[v]).run P w=.ok u w∧VR κ w N x u:=by
 obtain ⟨d,hd,h⟩:=h;obtain ⟨td,hu,hr⟩:=(J0W (hT _ _ hd)).und;split at h
 ·obtain ⟨hk,hC⟩:=h;rw[hk] at hr;cases td<;>simp[kdOf] at hr
  cases hv with
  |val _ _=>exact ⟨_,_,hC,by simp[Builtin.len_,Sem.run_bind,run_underlying hu,goInt],.val _ rfl⟩
 ·obtain ⟨⟨e,hk⟩,hC⟩:=h;rw[hk] at hr;cases td<;>simp[kdOf] at hr
  cases hv with
  |slnil=>exact ⟨_,_,hC,by simp[Builtin.len_,Sem.run_bind,run_underlying hu,goInt],.val _ rfl⟩
  |slemp=>exact ⟨_,_,hC,by simp[Builtin.len_,Sem.run_bind,run_underlying hu,goInt],.val _ rfl⟩
  |sl=>exact ⟨_,_,hC,by simp[Builtin.len_,Sem.run_bind,run_underlying hu,goInt],.val _ rfl⟩
 ·obtain ⟨⟨e,hk⟩,hC⟩:=h;rw[hk] at hr;cases td<;>simp[kdOf] at hr
  cases hv with
  |ownnil=>exact ⟨_,_,hC,by simp[Builtin.len_,Sem.run_bind,run_underlying hu,goInt],.val _ rfl⟩
  |own=>exact ⟨_,_,hC,by simp[Builtin.len_,Sem.run_bind,run_underlying hu,goInt],.val _ rfl⟩
 ·obtain ⟨⟨e,hk⟩,hC⟩:=h;rw[hk] at hr;cases td<;>simp[kdOf] at hr
  cases hv with
  |val _ _=>exact ⟨_,_,hC,by simp[Builtin.len_,Sem.run_bind,run_underlying hu,goInt],.val _ rfl⟩
 ·exact h.elim
def evUn (op:UnOp)(x:AV)(C:AV→Prop):Prop:=
 match op,x with
 |.neg,.val (.int k n)=>C (.val (.int k (k.wrap (0-n))))
 |.not,.val (.bool b)=>C (.val (.bool (!b)))
 |_,_=>False
theorem JI4 {op:UnOp}{x:AV}{v:Value}(hv:VR κ w N x v){C:AV→Prop}(h:evUn op x C):∃ x u,C x∧(Op.unary op v).run P w=.ok u w∧VR κ w N x u:=by
 unfold evUn at h;split at h
 ·cases hv with
  |val _ _=>exact ⟨_,_,h,by simp[Op.unary,Op.intArith],.val _ rfl⟩
 ·cases hv with
  |val _ _=>exact ⟨_,_,h,by simp[Op.unary],.val _ rfl⟩
 ·exact h.elim
@[irreducible] def runeS (n:Int):ByteArray:=Utf8.encode n
structure BytesP (xs:List AV) (K:List UInt8→Prop):Prop where
 out:∃ l:List UInt8,xs=l.map (fun b=>AV.val (.int .u8 (b.toNat:Int)))∧K l
theorem BytesP.intro {xs:List AV}{K:List UInt8→Prop}(l:List UInt8)(h:xs=l.map (fun b=>AV.val (.int .u8 (b.toNat:Int))))(k:K l):BytesP xs K:=⟨l,h,k⟩
def evConv (T:Nat→Option TD)(src dst:Nat)(x:AV)(C:AV→Prop):Prop:=
 ∃ d e,T dst=some d∧T src=some e ∧
 match x with
 |.val (.int _ n)=>∃ j,e.kind=.int j∧match d.kind with
   |.int k=>C (.val (.int k (k.wrap n)))
   |.str=>C (.val (.string (runeS n)))
   |_=>False
 |.val (.string s)=>d.kind=.str∧e.kind=.str∧C (.val (.string s))
 |.sl 1 xs=>d.kind=.str∧(∃ t k,e.kind=.slice t∧T t=some k∧k.kind=.int .u8)∧BytesP xs fun l=>C (.val (.string ⟨l.toArray⟩))
 |_=>False
theorem JBQ (hT:TOk P T){src dst:Nat}{x:AV}{v:Value}(hv:VR κ w N x v){C:AV→Prop}(h:evConv T src dst x C):∃ x u,C x∧(convert src dst v).run P w=.ok u w∧VR κ w N x u:=by
 obtain ⟨d,e,hd,he,h⟩:=h;obtain ⟨td,hu,hr⟩:=(J0W (hT _ _ hd)).und;obtain ⟨te,hu',hr'⟩:=(J0W (hT _ _ he)).und;split at h
 ·obtain ⟨j,hj,hC⟩:=h;rw[hj] at hr';split at hC
  ·rename_i k hk;rw[hk] at hr;cases td<;>simp[kdOf] at hr
   cases te<;>simp[kdOf] at hr'
   subst hr
   cases hv with
   |val _ _=>exact ⟨_,_,hC,by simp[convert,Sem.run_bind,run_underlying hu,run_underlying hu',Conv.intToInt],.val _ rfl⟩
  ·rename_i hk;rw[hk] at hr;cases td<;>simp[kdOf] at hr
   cases te<;>simp[kdOf] at hr'
   cases hv with
   |val _ _=>exact ⟨_,_,hC,by unfold runeS;simp[convert,Sem.run_bind,run_underlying hu,run_underlying hu',Conv.intToString],.val _ rfl⟩
  ·exact hC.elim
 ·obtain ⟨hk,hj,hC⟩:=h;rw[hk] at hr;rw[hj] at hr';cases td<;>simp[kdOf] at hr
  cases te<;>simp[kdOf] at hr'
  cases hv with
  |val _ _=>exact ⟨_,_,hC,by simp[convert,Sem.run_bind,run_underlying hu,run_underlying hu'],.val _ rfl⟩
 ·obtain ⟨hk,⟨t,k,hj,ht,hku⟩,⟨l,rfl,hC⟩⟩:=h;obtain ⟨tb,hub,hrb⟩:=(J0W (hT _ _ ht)).und;rw[hk] at hr;rw[hj] at hr';rw[hku] at hrb;cases td<;>simp[kdOf] at hr
  cases te<;>simp[kdOf] at hr'
  cases tb<;>simp[kdOf] at hrb
  subst hr' hrb;refine ⟨_,.string ⟨l.toArray⟩,hC,?_,.val _ rfl⟩;generalize hxs:(l.map fun b=>AV.val (.int .u8 (b.toNat:Int)))=xs at hv;have hln:xs.length=l.length:=by rw[← hxs,List.length_map]
  cases hv with
  |slnil=>
    have:l=[]:=by simpa using hxs
    subst this;rw[run_convert_bytes_string w src dst _ none 0 0 hu' hub hu];unfold Conv.bytesToString;simp;rfl
  |slemp _ a=>
    have:l=[]:=by simpa using hxs
    subst this;exact run_convert_bytes_back w src dst _ a 0 [] hu' hub hu (fun j hj=>absurd hj (by simp))
  |sl _ _ c o cap f h1 h2 h3 h4 h5 h6 h7=>
    rw[hln];refine run_convert_bytes_back w src dst _ _ cap l hu' hub hu fun j hj=>?_;have hjx:j<xs.length:=by omega
    have e:Addr.add ⟨c,o,none⟩ j=⟨c,o+j,none⟩:=by unfold Addr.add;split<;>simp_all
    have hx:xs[j]=AV.val (.int .u8 (l[j].toNat:Int)):=by subst hxs;simp
    have h8:=h6 j hjx 0 (by rw[hx];exact Nat.zero_lt_one);have h9:=h5 j hjx 0 (by omega);simp only[hx,AV.cells,List.getElem_cons_zero] at h8;rw[e];rw[Nat.mul_one,Nat.add_zero] at h9;rw[h9];generalize f j 0=y at h8
    cases h8 with
    |val _ _=>rfl
 ·exact h.elim
def JAh (op:BinOp)(x y:AV)(C:AV→Prop):Prop:=
 match op,x,y with
 |.shl,.val (.int k a),.val (.int _ b)=>0≤b∧C (.val (.int k (k.wrap (a*2 ^ min b.toNat k.bits))))
 |.shr,.val (.int k a),.val (.int _ b)=>0≤b∧C (.val (.int k (a.fdiv (2 ^ min b.toNat k.bits))))
 |_,_,_=>False
def J3a (P:Program)(T:Nat→Option TD)(op:BinOp)(t:Nat)(x y:AV)(C:AV→Prop):Prop:=
 match x,y with
 |.val (.int k a),.val (.int k' b)=>if op=.shl∨op=.shr then JAh op x y C else k=k'∧binI op k a b fun v=>C (.val v)
 |.val (.string a),.val (.string b)=>binS op a b fun v=>C (.val v)
 |_,_=>(op=.eql∨op=.neq)∧evEq P T t x y fun b=>C (.val (.bool (if op=.eql then b else !b)))
theorem JEL (hT:TOk P T){op:BinOp}{t:Nat}{x y:AV}{u v:Value}{ox oy:Operand}(hx:VR κ w N x u)(hy:VR κ w N y v){C:AV→Prop}(h:J3a P T op t x y C) :
  ∃ x r,C x∧(do eqGuard op t ox oy u v;binOp op t u v:Sem Value).run P w=.ok r w∧VR κ w N x r:=by
 unfold J3a at h;split at h
 ·rename_i k a k' b
  cases hx with
  |val _ _=>cases hy with
    |val _ _=>
      have hg:=J0A (P:=P) (op:=op) (t:=t) (x:=ox) (y:=oy) (a:=.int k a) (b:=.int k' b) (by simp) (by simp) w;split at h
      ·rename_i hop;unfold JAh at h;split at h
       ·cases ‹AV.val _=AV.val _›;cases ‹AV.val _=AV.val _›;obtain ⟨h0,hC⟩:=h;have h0':=Int.not_lt.2 h0;exact ⟨_,_,hC,by simp[Sem.run_bind,hg,go_sem,Op.shift,h0'],.val _ rfl⟩
       ·cases ‹AV.val _=AV.val _›;cases ‹AV.val _=AV.val _›;obtain ⟨h0,hC⟩:=h;have h0':=Int.not_lt.2 h0;exact ⟨_,_,hC,by simp[Sem.run_bind,hg,go_sem,Op.shift,h0'],.val _ rfl⟩
       ·exact h.elim
      ·obtain ⟨rfl,h⟩:=h;obtain ⟨v,hC,hp,hr⟩:=JGg (P:=P) (w:=w) t h;exact ⟨_,v,hC,by simp only[Sem.run_bind,hg,Result.andThen_ok,hr],.val _ hp⟩
 ·rename_i a b
  cases hx with
  |val _ _=>cases hy with
    |val _ _=>
      have hg:=J0A (P:=P) (op:=op) (t:=t) (x:=ox) (y:=oy) (a:=.string a) (b:=.string b) (by simp) (by simp) w;obtain ⟨v,hC,hp,hr⟩:=JGf (P:=P) (w:=w) t h;exact ⟨_,v,hC,by simp only[Sem.run_bind,hg,Result.andThen_ok,hr],.val _ hp⟩
 ·obtain ⟨ho,h⟩:=h;obtain ⟨b,hC,hg,hb⟩:=JCf hT hx hy h w;exact ⟨_,_,hC,by simp only[Sem.run_bind,hg op ox oy,Result.andThen_ok,hb op ho],.val _ rfl⟩
end
def mmF (b:Bool)(x:Int):List AV→Option Int
 |[]=>some x
 |.val (.int _ y)::r=>mmF b (match b with|true=>max x y|false=>min x y) r
 |_=>none
def evMM (b:Bool)(xs:List AV)(C:AV→Prop):Prop:=
 match xs with
 |.val (.int k x)::r=>∃ z,mmF b x r=some z∧C (.val (.int k z))
 |_=>False
theorem JAN {P:Program}{κ:KM}{w:World}{N:Nat→Prop}(b:Bool)(ρ:Operand→AV)(ρc:Operand→Value)(hv:∀ x,VR κ w N (ρ x) (ρc x))(k:IntKind):∀ (l:List Operand) (x z:Int),mmF b x (l.map ρ)=some z →
  (List.foldlM (match b with|true=>Builtin.max2|false=>Builtin.min2) (.int k x) (l.map ρc)).run P w=.ok (.int k z) w
 |[],x,z,h=>by cases h;cases b<;>simp[Sem.run_pure]
 |o :: l,x,z,h=>by
   have ho:=hv o;rw[List.map_cons] at h;cases hρ:ρ o<;>rw[hρ] at h ho<;>try (cases h;done)
   rename_i u;cases u<;>try (cases h;done)
   rename_i k' y;have e:=ho.intOf;cases b
   ·have ih:=JAN (P:=P) false ρ ρc hv k l (min x y) z h;simp only[List.map_cons,List.foldlM_cons,e,Builtin.min2,Sem.run_bind,Sem.run_pure,Result.andThen_ok];rw[show (if y<x then y else x)=min x y from by omega];exact ih
   ·have ih:=JAN (P:=P) true ρ ρc hv k l (max x y) z h;simp only[List.map_cons,List.foldlM_cons,e,Builtin.max2,Sem.run_bind,Sem.run_pure,Result.andThen_ok];rw[show (if y>x then y else x)=max x y from by omega];exact ih
theorem JBO {P:Program}{κ:KM}{w:World}{N:Nat→Prop}(b:Bool)(ρ:Operand→AV)(ρc:Operand→Value)(hv:∀ x,VR κ w N (ρ x) (ρc x)){l:List Operand}{ats:Array TypeId}{ty:TypeId}{C:AV→Prop}(h:evMM b (l.map ρ) C) :
  ∃ v,C (.val v)∧plainV v=true∧((match b with|true=>Builtin.max_|false=>Builtin.min_) ats ty (l.map ρc).toArray).run P w=.ok v w:=by
 cases l with
 |nil=>exact h.elim
 |cons o l=>
   have ho:=hv o;unfold evMM at h;rw[List.map_cons] at h;cases hρ:ρ o<;>rw[hρ] at h ho<;>try exact h.elim
   rename_i u;cases u<;>try exact h.elim
   rename_i k x;obtain ⟨z,h1,h2⟩:=h;have e:=ho.intOf;have:=JAN (P:=P) b ρ ρc hv k l x z h1;refine ⟨_,h2,rfl,?_⟩;cases b
   ·simp only[Builtin.min_,List.map_cons,e];exact this
   ·simp only[Builtin.max_,List.map_cons,e];exact this
end Go.Fw
