/- Part 1 of the proof. -/
import Derived.WalkKit
import Derived.Below
import Derived.Orders
import Derived.Laws.Sem
import Derived.Laws.Cells
import Derived.Laws.AppendOwn
import Derived.Laws.OwnMore
import Derived.Laws.MakeOwn
set_option linter.unusedVariables false
set_option linter.unusedSimpArgs false
set_option linter.unusedSectionVars false
set_option maxRecDepth 100000
set_option exponentiation.threshold 400
set_option maxHeartbeats 8000000
namespace Go.Fw
open Go.RowKit
inductive AV where
 |dead
 |val (v:Value)
 |agg (cs:List AV)
 |tup (vs:List AV)
 |sl (n:Nat) (xs:List AV)
 |fu (n:Nat) (xs:List AV)
 |ep (x:AV) (k:Nat)
 |own (b g off len:Nat)
 |op (b g i k:Nat)
 |fn (f:Fn) (first cap:List AV)
 |mp (ks vs:List AV)
 |om (b g:Nat)
 |it (b g:Nat)
 deriving Inhabited
def AV.cells:AV→List AV
 |.agg cs=>cs
 |x=>[x]
@[simp] theorem AV.cells_agg (cs:List AV):(AV.agg cs).cells=cs:=rfl
abbrev plainV (v:Value):Bool:=v.oneCell'
structure KI where
 c:Option Nat
 n:Nat
 m:Nat
abbrev KM:=Nat→Nat→Option KI
structure Blk where
 e:Nat
 n:Nat
 xs:List AV
abbrev Hp:=Nat→Option (Nat×Blk)
abbrev Fr:=Nat→AV
def KM.empty:KM:=fun _ _=>Option.none
inductive VR:KM→World→(Nat→Prop)→AV→Value→Prop
 |dead {κ w N} (v:Value):VR κ w N .dead v
 |val {κ w N} (v:Value):plainV v=true→VR κ w N (.val v) v
 |agg {κ w N} (cs:List AV) (vs:Array Value):cs.length=vs.size→(∀ i (h:i<cs.length) (h':i<vs.size),VR κ w N cs[i] vs[i])→(∀ (i:Nat) (h':i<vs.size),plainV vs[i]=true)→VR κ w N (.agg cs) (.agg vs)
 |tup {κ w N} (cs:List AV) (vs:Array Value):cs.length=vs.size→(∀ i (h:i<cs.length) (h':i<vs.size),VR κ w N cs[i] vs[i])→VR κ w N (.tup cs) (.tuple vs)
 |slnil {κ w N} (n:Nat):VR κ w N (.sl n []) (.slice none 0 0)
 |slemp {κ w N} (n:Nat) (a:Addr):VR κ w N (.sl n []) (.slice (some a) 0 0)
 | sl {κ w N} (n:Nat) (xs:List AV) (c o cap:Nat) (f:Nat→Nat→Value):xs.length≤cap→¬ N c→(∃ A e z,w.heap[c]?=some (.cells A e z)∧o+cap*n≤A.size) →
  (∀ i (h:i<xs.length),xs[i].cells.length=n)→(∀ i (h:i<xs.length) j,j<n→w.cell? ⟨c,o+i*n+j,none⟩=some (f i j)) →
  (∀ i (h:i<xs.length) j (h':j<xs[i].cells.length),VR KM.empty w N xs[i].cells[j] (f i j))→(∀ i j,i<xs.length→j<n→plainV (f i j)=true)→VR κ w N (.sl n xs) (.slice (some ⟨c,o,none⟩) xs.length cap)
 |fu {κ w N} (n:Nat) (xs:List AV) (a:Option Addr):VR κ w N (.sl n xs) (.slice a xs.length xs.length)→VR κ w N (.fu n xs) (.slice a xs.length xs.length)
 | ep {κ w N} (x:AV) (k c o:Nat) (f:Nat→Value):¬ N c→c<w.heap.size→(∀ j,j<x.cells.length→w.cell? ⟨c,o+j,none⟩=some (f j)) →
  (∀ j (h:j<x.cells.length),VR KM.empty w N x.cells[j] (f j))→(∀ j,j<x.cells.length→plainV (f j)=true)→VR κ w N (.ep x k) (.pointer (some ⟨c,o+k,none⟩))
 |ownnil {κ w N} (b g:Nat) (K:KI):κ b g=some K→K.c=none→VR κ w N (.own b g 0 0) (.slice none 0 0)
 | own {κ w N} (b g off len cap c:Nat) (K:KI):κ b g=some K→K.c=some c→len≤cap→(off+cap)*K.n=K.m∧off+cap≤maxLen→0<K.n →
  VR κ w N (.own b g off len) (.slice (some ⟨c,off*K.n,none⟩) len cap)
 |op {κ w N} (b g i k c:Nat) (K:KI):κ b g=some K→K.c=some c→0<K.n→VR κ w N (.op b g i k) (.pointer (some ⟨c,i*K.n+k,none⟩))
 | fn {κ w N} (f:Fn) (first cap:List AV) (vf vc:Array Value):first.length=vf.size→cap.length=vc.size →
  (∀ i (h:i<first.length) (h':i<vf.size),VR κ w N first[i] vf[i])→(∀ i (h:i<cap.length) (h':i<vc.size),VR κ w N cap[i] vc[i])→VR κ w N (.fn f first cap) (.func f vf vc)
 | mp {κ w N} (ks vs:List AV) (c:Nat) (A:Array MapEntry) (ck:Nat):¬ N c→w.heap[c]?=some (.map A ck)→ks.length=A.size→vs.length=A.size →
  (∀ i (h:i<ks.length) (h':i<A.size),VR KM.empty w N ks[i] A[i].key)→(∀ i (h:i<vs.length) (h':i<A.size),VR KM.empty w N vs[i] A[i].val) →
  (∀ i (h:i<A.size),A[i].born<ck∧∀ j (h':j<A.size),A[i].born=A[j].born→i=j)→VR κ w N (.mp ks vs) (.map (some c))
 |om {κ w N} (b g c:Nat) (K:KI):κ b g=some K→K.c=some c→K.n=0→VR κ w N (.om b g) (.map (some c))
 |it {κ w N} (b g c:Nat) (K:KI):κ b g=some K→K.c=some c→K.n=0→VR κ w N (.it b g) (.pointer (some ⟨c,0,none⟩))
def KM.le (κ κ':KM):Prop:=∀ b g K,κ b g=some K→κ' b g=some K
theorem KM.le.refl (κ:KM):κ.le κ:=fun _ _ _ h=>h
theorem KM.le.trans {a b c:KM}(h:a.le b)(h':b.le c):a.le c:=fun x y K hk=>h' _ _ _ (h _ _ _ hk)
theorem J6I (κ:KM):KM.empty.le κ:=fun _ _ _ h=>by cases h
structure Agree (N:Nat→Prop) (w w':World):Prop where
 size:w.heap.size≤w'.heap.size
 block:∀ c,c<w.heap.size→¬ N c→w'.heap[c]?=w.heap[c]?
theorem Agree.refl (N:Nat→Prop)(w:World):Agree N w w:=⟨Nat.le_refl _,fun _ _ _=>rfl⟩
theorem Agree.trans {N:Nat→Prop}{a b c:World}(h:Agree N a b)(k:Agree N b c):Agree N a c:=
 ⟨Nat.le_trans h.size k.size,fun x hx hn=>(k.block x (Nat.lt_of_lt_of_le hx h.size) hn).trans (h.block x hx hn)⟩
theorem Agree.mono {N N':Nat→Prop}{a b:World}(h:Agree N a b)(hn:∀ c,N c→N' c):Agree N' a b:=⟨h.size,fun c hc hN=>h.block c hc fun x=>hN (hn c x)⟩
theorem J3p {w w':World}{c:Nat}(h:w'.heap[c]?=w.heap[c]?)(o:Nat):w'.cell? ⟨c,o,none⟩=w.cell? ⟨c,o,none⟩:=World.cell?_of_block (w:=w) (a:=⟨c,o,none⟩) h
theorem VR.step' {κ:KM}{w:World}{N:Nat→Prop}{x:AV}{v:Value}(h:VR κ w N x v):∀ {κ':KM} {w':World} {N':Nat→Prop},κ.le κ'→Agree N w w'→(∀ c,c<w.heap.size→N' c→N c)→VR κ' w' N' x v:=by
 induction h with
 |dead v=>intro κ' w' N' hκ ha hN;exact .dead v
 |val v h=>intro κ' w' N' hκ ha hN;exact .val v h
 |agg cs vs h1 _ h2 ih=>intro κ' w' N' hκ ha hN;exact .agg cs vs h1 (fun i h h'=>ih i h h' hκ ha hN) h2
 |tup cs vs h1 _ ih=>intro κ' w' N' hκ ha hN;exact .tup cs vs h1 (fun i h h'=>ih i h h' hκ ha hN)
 |slnil n=>intro κ' w' N' hκ ha hN;exact .slnil n
 |slemp n a=>intro κ' w' N' hκ ha hN;exact .slemp n a
 |sl n xs c o cap f h1 h2 h3 h4 h5 _ h6 ih=>
   intro κ' w' N' hκ ha hN;obtain ⟨A,e,z,hb,hs⟩:=h3;have hlt:=(Array.getElem?_eq_some_iff.1 hb).1;have hbk:=ha.block c hlt h2;exact .sl n xs c o cap f h1 (fun hn=>h2 (hN c hlt hn)) ⟨A,e,z,hbk.trans hb,hs⟩ h4 (fun i h j hj=>(J3p hbk _).trans (h5 i h j hj)) (fun i h j h'=>ih i h j h' (KM.le.refl _) ha hN) h6
 |fu n xs a _ ih=>intro κ' w' N' hκ ha hN;exact .fu n xs a (ih hκ ha hN)
 |ep x k c o f h1 hlt h2 _ h3 ih=>
   intro κ' w' N' hκ ha hN;have hbk:=ha.block c hlt h1;exact .ep x k c o f (fun hn=>h1 (hN c hlt hn)) (Nat.lt_of_lt_of_le hlt ha.size) (fun j hj=>(J3p hbk _).trans (h2 j hj)) (fun j h=>ih j h (KM.le.refl _) ha hN) h3
 |ownnil b g K h1 h2=>intro κ' w' N' hκ ha hN;exact .ownnil b g K (hκ _ _ _ h1) h2
 |own b g off len cap c K h1 h2 h3 h4 hp=>intro κ' w' N' hκ ha hN;exact .own b g off len cap c K (hκ _ _ _ h1) h2 h3 h4 hp
 |op b g i k c K h1 h2 hp=>intro κ' w' N' hκ ha hN;exact .op b g i k c K (hκ _ _ _ h1) h2 hp
 |mp ks vs c A ck h1 h2 h3 h4 _ _ h7 ih1 ih2=>
   intro κ' w' N' hκ ha hN;have hlt:=(Array.getElem?_eq_some_iff.1 h2).1;exact .mp ks vs c A ck (fun hn=>h1 (hN c hlt hn)) ((ha.block c hlt h1).trans h2) h3 h4 (fun i h h'=>ih1 i h h' (KM.le.refl _) ha hN) (fun i h h'=>ih2 i h h' (KM.le.refl _) ha hN) h7
 |om b g c K h1 h2 h3=>intro κ' w' N' hκ ha hN;exact .om b g c K (hκ _ _ _ h1) h2 h3
 |it b g c K h1 h2 h3=>intro κ' w' N' hκ ha hN;exact .it b g c K (hκ _ _ _ h1) h2 h3
 |fn f first cap vf vc h1 h2 _ _ ih1 ih2=>intro κ' w' N' hκ ha hN;exact .fn f first cap vf vc h1 h2 (fun i h h'=>ih1 i h h' hκ ha hN) (fun i h h'=>ih2 i h h' hκ ha hN)
theorem VR.step {κ κ':KM}{w w':World}{N N':Nat→Prop}(hκ:κ.le κ')(ha:Agree N w w')(hN:∀ c,c<w.heap.size→N' c→N c){x:AV}{v:Value}(h:VR κ w N x v):VR κ' w' N' x v:=h.step' hκ ha hN
theorem VR.lift {κ:KM}{w:World}{N:Nat→Prop}{x:AV}{v:Value}(h:VR KM.empty w N x v):VR κ w N x v:=h.step (J6I κ) (Agree.refl _ _) fun _ _ h=>h
theorem VR.mono {κ:KM}{w:World}{N N':Nat→Prop}(hN:∀ c,N' c→N c){x:AV}{v:Value}(h:VR κ w N x v):VR κ w N' x v:=
 h.step (KM.le.refl _) (Agree.refl _ _) fun c _=>hN c
def Own (κ:KM)(H:Hp):Nat→Prop:=fun c=>∃ b g B K,H b=some (g,B)∧κ b g=some K∧K.c=some c
def Nset (O:Nat→Prop)(κ:KM)(H:Hp):Nat→Prop:=fun c=>O c∨Own κ H c
structure MapR (w:World) (N:Nat→Prop) (ks vs:List AV) (A:Array MapEntry) (ck:Nat):Prop where
 kl:ks.length=A.size
 vl:vs.length=A.size
 key:∀ i (h:i<ks.length) (h':i<A.size),VR KM.empty w N ks[i] A[i].key
 val:∀ i (h:i<vs.length) (h':i<A.size),VR KM.empty w N vs[i] A[i].val
 born:∀ i (h:i<A.size),A[i].born<ck∧∀ j (h':j<A.size),A[i].born=A[j].born→i=j
theorem MapR.step {w w':World}{N N':Nat→Prop}{ks vs:List AV}{A:Array MapEntry}{ck:Nat}(h:MapR w N ks vs A ck)(ha:Agree N w w')(hN:∀ c,c<w.heap.size→N' c→N c):MapR w' N' ks vs A ck:=
 ⟨h.kl,h.vl,fun i h1 h2=>(h.key i h1 h2).step (KM.le.refl _) ha hN,fun i h1 h2=>(h.val i h1 h2).step (KM.le.refl _) ha hN,h.born⟩
def encN (j:Nat):AV:=.val (.int .i64 j)
structure ItR (w:World) (N:Nat→Prop) (c:Nat) (mk mv:List AV) (L:List Nat) (cur:AV) (c0:Nat) (A:Array MapEntry) (ck:Nat) (seen:Array Nat):Prop where
 it:w.heap[c]?=some (.mapIter (some c0) ck seen ck)
 out:¬ N c0
 at_:w.heap[c0]?=some (.map A ck)
 map:MapR w N mk mv A ck
 lt:∀ j∈L,j<A.size
 left:(A.toList.filter fun e=>!seen.contains e.born)=L.map fun j=>A[j]!
 cur:∀ x,cur=.val x→∃ j:Nat,x=.int .i64 j∧∃ h:j<A.size,seen.back?=some A[j].born
def ObR (w:World)(N:Nat→Prop)(c:Nat):List AV→Prop
 |[.mp ks vs]=>∃ A ck,w.heap[c]?=some (.map A ck)∧MapR w N ks vs A ck
 |[.val (.string s),.val (.int .i64 p)]=>∃ pos:Nat,p=pos∧w.heap[c]?=some (.stringIter s pos)
 |[.mp mk mv,.tup l,cur]=>∃ L:List Nat,l=L.map encN∧∃ c0 A ck seen,ItR w N c mk mv L cur c0 A ck seen
 |_=>False
theorem ObR.step {w w':World}{N N':Nat→Prop}{c:Nat}{xs:List AV}(h:ObR w N c xs)(ha:Agree N w w')(hN:∀ c,c<w.heap.size→N' c→N c)(hk:w'.heap[c]?=w.heap[c]?):ObR w' N' c xs:=by
 unfold ObR at h ⊢;split at h
 ·obtain ⟨A,ck,h1,h2⟩:=h;exact ⟨A,ck,hk.trans h1,h2.step ha hN⟩
 ·obtain ⟨p,h1,h2⟩:=h;exact ⟨p,h1,hk.trans h2⟩
 ·obtain ⟨L,e,c0,A,ck,seen,h1,h2,h3,h4,h5,h6,h7⟩:=h;have hlt:=(Array.getElem?_eq_some_iff.1 h3).1;exact ⟨L,e,c0,A,ck,seen,hk.trans h1,fun hn=>h2 (hN c0 hlt hn),(ha.block c0 hlt h2).trans h3,h4.step ha hN,h5,h6,h7⟩
 ·exact h.elim
theorem ObR.lt {w:World}{N:Nat→Prop}{c:Nat}{xs:List AV}(h:ObR w N c xs):c<w.heap.size:=by
 unfold ObR at h;split at h
 ·obtain ⟨A,ck,h1,h2⟩:=h;exact (Array.getElem?_eq_some_iff.1 h1).1
 ·obtain ⟨p,h1,h2⟩:=h;exact (Array.getElem?_eq_some_iff.1 h2).1
 ·obtain ⟨L,e,c0,A,ck,seen,h1,_⟩:=h;exact (Array.getElem?_eq_some_iff.1 h1).1
 ·exact h.elim
abbrev solo:Nat:=314
def RowRel (κ:KM)(w:World)(N:Nat→Prop)(K:KI)(B:Blk):Prop:=
 K.n=B.n∧(∀ i (h:i<B.xs.length),B.xs[i].cells.length=B.n) ∧
 ((K.c=none∧B.xs=[]) ∨
  ∃ c A,∃ f:Nat→Nat→Value,K.c=some c∧w.heap[c]?=some (.cells A B.e (0,0))∧K.m=A.size∧B.xs.length*B.n≤A.size ∧
    (∀ i (h:i<B.xs.length) j,j<B.n→A[i*B.n+j]?=some (f i j))∧(∀ i j,i<B.xs.length→j<B.n→plainV (f i j)=true) ∧
    (∀ i (h:i<B.xs.length) j (h':j<B.xs[i].cells.length),VR κ w N B.xs[i].cells[j] (f i j))∧(B.e=solo→A.size=B.n))
theorem RowRel.step {κ κ':KM}{w w':World}{N N':Nat→Prop}(hκ:κ.le κ')(ha:Agree N w w')(hN:∀ c,c<w.heap.size→N' c→N c){K:KI}{B:Blk}
  (hk:∀ c,K.c=some c→w'.heap[c]?=w.heap[c]?)(h:RowRel κ w N K B):RowRel κ' w' N' K B:=by
 obtain ⟨h1,h2,h3⟩:=h;refine ⟨h1,h2,?_⟩
 rcases h3 with h3|⟨c,A,f,hc,hb,hm,hs,hf,hp,hv,hx⟩
 ·exact .inl h3
 ·exact .inr ⟨c,A,f,hc,(hk c hc).trans hb,hm,hs,hf,hp,fun i h j h'=>(hv i h j h').step hκ ha hN,hx⟩
def BlkRel (κ:KM)(w:World)(N:Nat→Prop)(K:KI)(B:Blk):Prop:=
 (0<B.n∧RowRel κ w N K B)∨(B.n=0∧K.n=0∧∃ c,K.c=some c∧ObR w N c B.xs)
theorem BlkRel.rows {κ:KM}{w:World}{N:Nat→Prop}{K:KI}{B:Blk}(h:BlkRel κ w N K B)(hp:0<K.n):RowRel κ w N K B:=by
 rcases h with ⟨_,h⟩|⟨_,h,_⟩
 ·exact h
 ·omega
theorem BlkRel.rowsN {κ:KM}{w:World}{N:Nat→Prop}{K:KI}{B:Blk}(h:BlkRel κ w N K B)(hp:0<B.n):RowRel κ w N K B:=by
 rcases h with ⟨_,h⟩|⟨h,_,_⟩
 ·exact h
 ·omega
theorem BlkRel.obj {κ:KM}{w:World}{N:Nat→Prop}{K:KI}{B:Blk}(h:BlkRel κ w N K B)(hp:K.n=0):B.n=0∧∃ c,K.c=some c∧ObR w N c B.xs:=by
 rcases h with ⟨h0,h⟩|⟨h1,_,h2⟩
 ·have:=h.1;omega
 ·exact ⟨h1,h2⟩
theorem BlkRel.step {κ κ':KM}{w w':World}{N N':Nat→Prop}(hκ:κ.le κ')(ha:Agree N w w')(hN:∀ c,c<w.heap.size→N' c→N c){K:KI}{B:Blk}
  (hk:∀ c,K.c=some c→w'.heap[c]?=w.heap[c]?)(h:BlkRel κ w N K B):BlkRel κ' w' N' K B:=by
 rcases h with ⟨h0,h⟩|⟨h0,h1,c,h2,h3⟩
 ·exact .inl ⟨h0,h.step hκ ha hN hk⟩
 ·exact .inr ⟨h0,h1,c,h2,h3.step ha hN (hk c h2)⟩
structure Gh where
 nt:Nat
 w0:World
 M:Nat→Prop
 O:Nat→Prop
 ref:AV→Value→Prop:=fun _ _=>False
structure HRel (gh:Gh) (κ:KM) (H:Hp) (w:World):Prop where
 blk:∀ b g B,H b=some (g,B)→∃ K,κ b g=some K∧BlkRel κ w (Nset gh.O κ H) K B
 inj:∀ b b' g g' B B' K K' c,H b=some (g,B)→H b'=some (g',B')→κ b g=some K→κ b' g'=some K'→K.c=some c→K'.c=some c→b=b'
 mine:∀ b g B K c,H b=some (g,B)→κ b g=some K→K.c=some c→gh.w0.heap.size≤c∨gh.M c
 kept:Agree gh.M gh.w0 w
 os:w.os=gh.w0.os
 tape:w.tape=gh.w0.tape
 output:w.output=gh.w0.output
 fresh:∃ G,∀ b g,G≤g→κ b g=none
 apart:∀ c,gh.O c→c<gh.w0.heap.size∧¬ gh.M c
structure Rel (gh:Gh) (κ:KM) (σ:Fr) (H:Hp) (a:Act) (w:World):Prop where
 hp:HRel gh κ H w
 slots:∀ x,VR κ w (Nset gh.O κ H) (σ x) (a.tmps.getD x undef)
 size:a.tmps.size=gh.nt
 defers:a.defers=[]
 tr:∀ x v,gh.ref x v→VR κ w (Nset gh.O κ H) x v
def upd (σ:Fr)(d:Nat)(v:AV):Fr:=fun x=>if x=d then v else σ x
def put (σ:Fr)(d:Option Nat)(v:AV):Fr:=match d with|some d=>upd σ d v|none=>σ
@[simp] theorem put_some (σ:Fr) (d:Nat) (v:AV):put σ (some d) v=upd σ d v:=rfl
@[simp] theorem put_none (σ:Fr) (v:AV):put σ none v=σ:=rfl
theorem JK2 (σ:Fr)(d x:Nat)(v:AV)(h:x≠d):upd σ d v x=σ x:=by simp[upd,h]
def ofV:Value→AV
 |.agg cs=>.agg (cs.toList.map .val)
 |.tuple _=>.dead
 |v=>.val v
def opd (σ:Fr):Operand→AV
 |.tmp t=>σ t
 |.const v=>ofV v
 |.func f=>.fn (.func f) [] []
 |.global _=>.dead
def J8w:Value→Bool
 |.agg cs=>cs.toList.all plainV
 |_=>true
def J7r:Operand→Bool
 |.const v=>J8w v
 |_=>true
theorem VR.ofV {κ:KM}{w:World}{N:Nat→Prop}(v:Value)(h:J8w v=true):VR κ w N (ofV v) v:=by
 unfold Fw.ofV;split
 ·rename_i cs;have h':∀ x∈cs.toList,plainV x=true:=List.all_eq_true.1 h;refine .agg _ _ (by simp) (fun i h1 h2=>?_) (fun i hi=>h' _ (by simp));simp only[List.getElem_map,Array.getElem_toList];exact .val _ (h' _ (by simp))
 ·exact .dead _
 ·rename_i h1 h2;refine .val v ?_
  cases v<;>first|rfl|exact absurd rfl (h1 _)|exact absurd rfl (h2 _)
theorem Rel.opd {gh:Gh}{κ:KM}{σ:Fr}{H:Hp}{a:Act}{w:World}(h:Rel gh κ σ H a w)(x:Operand)(hx:J7r x=true) :
  VR κ w (Nset gh.O κ H) (opd σ x) (a.eval x):=by
 cases x with
 |tmp t=>exact h.slots t
 |const v=>exact VR.ofV v hx
 |global g=>exact .dead _
 |func f=>exact .fn _ _ _ _ _ rfl rfl (fun i h=>absurd h (by simp)) (fun i h=>absurd h (by simp))
theorem Rel.put {gh:Gh}{κ:KM}{σ:Fr}{H:Hp}{a:Act}{w:World}(h:Rel gh κ σ H a w)(d:Option Nat)(hd:∀ x,d=some x→x<gh.nt){x:AV}{v:Value}
  (hv:VR κ w (Nset gh.O κ H) x v):Rel gh κ (put σ d x) H (a.put d v) w:=by
 cases d with
 |none=>exact h
 |some d=>
   have hlt:d<a.tmps.size:=by rw[h.size];exact hd d rfl
   refine ⟨h.hp,fun y=>?_,by simp[Act.put,h.size],h.defers,h.tr⟩
   by_cases e:y=d
   ·subst e
    simpa [upd,Act.put,hlt] using hv
   ·have:=h.slots y;have hne:d≠y:=fun e'=>e e'.symm
    simpa [upd,e,Act.put,Array.getElem?_setIfInBounds_ne hne] using this
end Go.Fw
