/- The framework, part 1: abstract values (data that does not change as trees, memory of the call's own by names), and what a machine value has to do with them. -/
import Derived.WalkKit
import Derived.Below
import Derived.Orders
import Derived.Laws.Sem
import Derived.Laws.Cells
import Derived.Laws.AppendOwn
import Derived.Laws.OwnMore
import Derived.Laws.MakeOwn
set_option linter.unusedVariables false
namespace Go.Fw
open Go.RowKit

/-- Abstract values. -/
inductive AV where
  | dead                               -- nothing is known
  | val (v : Value)                    -- just this value
  | agg (cs : List AV)                 -- a struct or an array by value: its cells
  | tup (vs : List AV)                 -- several results
  | sl (n : Nat) (xs : List AV)        -- a slice that nobody writes any more: its elements, of n cells each
  | ep (x : AV) (k : Nat)              -- a pointer to cell k of something that nobody writes any more
  | own (b g off len : Nat)            -- a slice of the call's own block b, in its state g
  | op (b g i k : Nat)                 -- a pointer to cell k of element i of it
  | fn (f : Fn) (first cap : List AV)  -- a function value
  deriving Inhabited

def AV.cells : AV → List AV
  | .agg cs => cs
  | x => [x]

@[simp] theorem AV.cells_agg (cs : List AV) : (AV.agg cs).cells = cs := rfl

/-- A value of one cell that is no aggregate. -/
abbrev plainV (v : Value) : Bool := v.oneCell'

/-- Where a name's block lies: its number (none: a nil slice), cells an element, cells in all. -/
structure KI where
  c : Option Nat
  n : Nat
  m : Nat

abbrev KM := Nat → Nat → Option KI

/-- What a block of the call's own holds: elements of type e, n cells each. -/
structure Blk where
  e : Nat
  n : Nat
  xs : List AV

abbrev Hp := Nat → Option (Nat × Blk)
abbrev Fr := Nat → AV

def KM.empty : KM := fun _ _ => Option.none

/-- The machine's value v is what the abstract value says; cells of blocks in N are not looked at as what does not change. -/
inductive VR : KM → World → (Nat → Prop) → AV → Value → Prop
  | dead {κ w N} (v : Value) : VR κ w N .dead v
  | val {κ w N} (v : Value) : plainV v = true → VR κ w N (.val v) v
  | agg {κ w N} (cs : List AV) (vs : Array Value) : cs.length = vs.size → (∀ i (h : i < cs.length) (h' : i < vs.size), VR κ w N cs[i] vs[i]) → (∀ (i : Nat) (h' : i < vs.size), plainV vs[i] = true) → VR κ w N (.agg cs) (.agg vs)
  | tup {κ w N} (cs : List AV) (vs : Array Value) : cs.length = vs.size → (∀ i (h : i < cs.length) (h' : i < vs.size), VR κ w N cs[i] vs[i]) → VR κ w N (.tup cs) (.tuple vs)
  | slnil {κ w N} (n : Nat) : VR κ w N (.sl n []) (.slice none 0 0)
  | slemp {κ w N} (n : Nat) (a : Addr) : VR κ w N (.sl n []) (.slice (some a) 0 0)
  | sl {κ w N} (n : Nat) (xs : List AV) (c o cap : Nat) (f : Nat → Nat → Value) : xs.length ≤ cap → ¬ N c → (∃ A e z, w.heap[c]? = some (.cells A e z) ∧ o + cap * n ≤ A.size) →
      (∀ i (h : i < xs.length), xs[i].cells.length = n) → (∀ i (h : i < xs.length) j, j < n → w.cell? ⟨c, o + i * n + j, none⟩ = some (f i j)) →
      (∀ i (h : i < xs.length) j (h' : j < xs[i].cells.length), VR KM.empty w N xs[i].cells[j] (f i j)) → (∀ i j, i < xs.length → j < n → plainV (f i j) = true) → VR κ w N (.sl n xs) (.slice (some ⟨c, o, none⟩) xs.length cap)
  | ep {κ w N} (x : AV) (k c o : Nat) (f : Nat → Value) : ¬ N c → c < w.heap.size → (∀ j, j < x.cells.length → w.cell? ⟨c, o + j, none⟩ = some (f j)) →
      (∀ j (h : j < x.cells.length), VR KM.empty w N x.cells[j] (f j)) → (∀ j, j < x.cells.length → plainV (f j) = true) → VR κ w N (.ep x k) (.pointer (some ⟨c, o + k, none⟩))
  | ownnil {κ w N} (b g : Nat) (K : KI) : κ b g = some K → K.c = none → VR κ w N (.own b g 0 0) (.slice none 0 0)
  | own {κ w N} (b g off len cap c : Nat) (K : KI) : κ b g = some K → K.c = some c → len ≤ cap → (off + cap) * K.n = K.m ∧ off + cap ≤ maxLen →
      VR κ w N (.own b g off len) (.slice (some ⟨c, off * K.n, none⟩) len cap)
  | op {κ w N} (b g i k c : Nat) (K : KI) : κ b g = some K → K.c = some c → VR κ w N (.op b g i k) (.pointer (some ⟨c, i * K.n + k, none⟩))
  | fn {κ w N} (f : Fn) (first cap : List AV) (vf vc : Array Value) : first.length = vf.size → cap.length = vc.size →
      (∀ i (h : i < first.length) (h' : i < vf.size), VR κ w N first[i] vf[i]) → (∀ i (h : i < cap.length) (h' : i < vc.size), VR κ w N cap[i] vc[i]) → VR κ w N (.fn f first cap) (.func f vf vc)

/-- What is known of names stays known. -/
def KM.le (κ κ' : KM) : Prop := ∀ b g K, κ b g = some K → κ' b g = some K
theorem KM.le.refl (κ : KM) : κ.le κ := fun _ _ _ h => h
theorem KM.le.trans {a b c : KM} (h : a.le b) (h' : b.le c) : a.le c := fun x y K hk => h' _ _ _ (h _ _ _ hk)
theorem KM.empty_le (κ : KM) : KM.empty.le κ := fun _ _ _ h => by cases h

/-- Outside of N memory is as it was; nothing goes. -/
structure Agree (N : Nat → Prop) (w w' : World) : Prop where
  size : w.heap.size ≤ w'.heap.size
  block : ∀ c, c < w.heap.size → ¬ N c → w'.heap[c]? = w.heap[c]?

theorem Agree.refl (N : Nat → Prop) (w : World) : Agree N w w := ⟨Nat.le_refl _, fun _ _ _ => rfl⟩
theorem Agree.trans {N : Nat → Prop} {a b c : World} (h : Agree N a b) (k : Agree N b c) : Agree N a c :=
  ⟨Nat.le_trans h.size k.size, fun x hx hn => (k.block x (Nat.lt_of_lt_of_le hx h.size) hn).trans (h.block x hx hn)⟩
theorem Agree.mono {N N' : Nat → Prop} {a b : World} (h : Agree N a b) (hn : ∀ c, N c → N' c) : Agree N' a b := ⟨h.size, fun c hc hN => h.block c hc fun x => hN (hn c x)⟩

theorem cell_lt {w : World} {c o : Nat} {v : Value} (h : w.cell? ⟨c, o, none⟩ = some v) : c < w.heap.size := World.block_lt_of_cell? w ⟨c, o, none⟩ h
theorem cell_of_block {w w' : World} {c : Nat} (h : w'.heap[c]? = w.heap[c]?) (o : Nat) : w'.cell? ⟨c, o, none⟩ = w.cell? ⟨c, o, none⟩ := World.cell?_of_block (w := w) (a := ⟨c, o, none⟩) h

/-- What was so stays so. -/
theorem VR.step' {κ : KM} {w : World} {N : Nat → Prop} {x : AV} {v : Value} (h : VR κ w N x v) : ∀ {κ' : KM} {w' : World} {N' : Nat → Prop}, κ.le κ' → Agree N w w' → (∀ c, c < w.heap.size → N' c → N c) → VR κ' w' N' x v := by
  induction h with
  | dead v => intro κ' w' N' hκ ha hN; exact .dead v
  | val v h => intro κ' w' N' hκ ha hN; exact .val v h
  | agg cs vs h1 _ h2 ih => intro κ' w' N' hκ ha hN; exact .agg cs vs h1 (fun i h h' => ih i h h' hκ ha hN) h2
  | tup cs vs h1 _ ih => intro κ' w' N' hκ ha hN; exact .tup cs vs h1 (fun i h h' => ih i h h' hκ ha hN)
  | slnil n => intro κ' w' N' hκ ha hN; exact .slnil n
  | slemp n a => intro κ' w' N' hκ ha hN; exact .slemp n a
  | sl n xs c o cap f h1 h2 h3 h4 h5 _ h6 ih =>
    intro κ' w' N' hκ ha hN
    obtain ⟨A, e, z, hb, hs⟩ := h3
    have hlt := (Array.getElem?_eq_some_iff.1 hb).1
    have hbk := ha.block c hlt h2
    exact .sl n xs c o cap f h1 (fun hn => h2 (hN c hlt hn)) ⟨A, e, z, hbk.trans hb, hs⟩ h4 (fun i h j hj => (cell_of_block hbk _).trans (h5 i h j hj)) (fun i h j h' => ih i h j h' (KM.le.refl _) ha hN) h6
  | ep x k c o f h1 hlt h2 _ h3 ih =>
    intro κ' w' N' hκ ha hN
    have hbk := ha.block c hlt h1
    exact .ep x k c o f (fun hn => h1 (hN c hlt hn)) (Nat.lt_of_lt_of_le hlt ha.size) (fun j hj => (cell_of_block hbk _).trans (h2 j hj)) (fun j h => ih j h (KM.le.refl _) ha hN) h3
  | ownnil b g K h1 h2 => intro κ' w' N' hκ ha hN; exact .ownnil b g K (hκ _ _ _ h1) h2
  | own b g off len cap c K h1 h2 h3 h4 => intro κ' w' N' hκ ha hN; exact .own b g off len cap c K (hκ _ _ _ h1) h2 h3 h4
  | op b g i k c K h1 h2 => intro κ' w' N' hκ ha hN; exact .op b g i k c K (hκ _ _ _ h1) h2
  | fn f first cap vf vc h1 h2 _ _ ih1 ih2 => intro κ' w' N' hκ ha hN; exact .fn f first cap vf vc h1 h2 (fun i h h' => ih1 i h h' hκ ha hN) (fun i h h' => ih2 i h h' hκ ha hN)

theorem VR.step {κ κ' : KM} {w w' : World} {N N' : Nat → Prop} (hκ : κ.le κ') (ha : Agree N w w') (hN : ∀ c, c < w.heap.size → N' c → N c) {x : AV} {v : Value} (h : VR κ w N x v) : VR κ' w' N' x v := h.step' hκ ha hN
/-- What holds without names holds with them. -/
theorem VR.lift {κ : KM} {w : World} {N : Nat → Prop} {x : AV} {v : Value} (h : VR KM.empty w N x v) : VR κ w N x v := h.step (KM.empty_le κ) (Agree.refl _ _) fun _ _ h => h

theorem VR.mono {κ : KM} {w : World} {N N' : Nat → Prop} (hN : ∀ c, N' c → N c) {x : AV} {v : Value} (h : VR κ w N x v) : VR κ w N' x v :=
  h.step (KM.le.refl _) (Agree.refl _ _) fun c _ => hN c

/-- A heap's own blocks, and what must not be read besides. -/
def Own (κ : KM) (H : Hp) : Nat → Prop := fun c => ∃ b g B K, H b = some (g, B) ∧ κ b g = some K ∧ K.c = some c
def Nset (O : Nat → Prop) (κ : KM) (H : Hp) : Nat → Prop := fun c => O c ∨ Own κ H c

/-- A block's cells are what its elements say. -/
def BlkRel (κ : KM) (w : World) (N : Nat → Prop) (K : KI) (B : Blk) : Prop :=
  K.n = B.n ∧ (∀ i (h : i < B.xs.length), B.xs[i].cells.length = B.n) ∧
  ((K.c = none ∧ B.xs = []) ∨
   ∃ c A, ∃ f : Nat → Nat → Value, K.c = some c ∧ w.heap[c]? = some (.cells A B.e (0, 0)) ∧ K.m = A.size ∧ B.xs.length * B.n ≤ A.size ∧
     (∀ i (h : i < B.xs.length) j, j < B.n → A[i * B.n + j]? = some (f i j)) ∧ (∀ i j, i < B.xs.length → j < B.n → plainV (f i j) = true) ∧
     (∀ i (h : i < B.xs.length) j (h' : j < B.xs[i].cells.length), VR κ w N B.xs[i].cells[j] (f i j)))

theorem BlkRel.step {κ κ' : KM} {w w' : World} {N N' : Nat → Prop} (hκ : κ.le κ') (ha : Agree N w w') (hN : ∀ c, c < w.heap.size → N' c → N c) {K : KI} {B : Blk}
    (hk : ∀ c, K.c = some c → w'.heap[c]? = w.heap[c]?) (h : BlkRel κ w N K B) : BlkRel κ' w' N' K B := by
  obtain ⟨h1, h2, h3⟩ := h
  refine ⟨h1, h2, ?_⟩
  rcases h3 with h3 | ⟨c, A, f, hc, hb, hm, hs, hf, hp, hv⟩
  · exact .inl h3
  · exact .inr ⟨c, A, f, hc, (hk c hc).trans hb, hm, hs, hf, hp, fun i h j h' => (hv i h j h').step hκ ha hN⟩

/-- What a call is told: how many slots; the world at its begin; which old blocks it may change; which it must not read; which values are to stay as they read. -/
structure Gh where
  nt : Nat
  w0 : World
  M : Nat → Prop
  O : Nat → Prop
  ref : AV → Value → Prop := fun _ _ => False

structure HRel (gh : Gh) (κ : KM) (H : Hp) (w : World) : Prop where
  blk : ∀ b g B, H b = some (g, B) → ∃ K, κ b g = some K ∧ BlkRel κ w (Nset gh.O κ H) K B
  inj : ∀ b b' g g' B B' K K' c, H b = some (g, B) → H b' = some (g', B') → κ b g = some K → κ b' g' = some K' → K.c = some c → K'.c = some c → b = b'
  mine : ∀ b g B K c, H b = some (g, B) → κ b g = some K → K.c = some c → gh.w0.heap.size ≤ c ∨ gh.M c
  kept : Agree gh.M gh.w0 w
  os : w.os = gh.w0.os
  tape : w.tape = gh.w0.tape
  output : w.output = gh.w0.output
  fresh : ∃ G, ∀ b g, G ≤ g → κ b g = none
  apart : ∀ c, gh.O c → c < gh.w0.heap.size ∧ ¬ gh.M c

structure Rel (gh : Gh) (κ : KM) (σ : Fr) (H : Hp) (a : Act) (w : World) : Prop where
  hp : HRel gh κ H w
  slots : ∀ x, VR κ w (Nset gh.O κ H) (σ x) (a.tmps.getD x undef)
  size : a.tmps.size = gh.nt
  defers : a.defers = []
  tr : ∀ x v, gh.ref x v → VR κ w (Nset gh.O κ H) x v

/-! ### Frames -/
def upd (σ : Fr) (d : Nat) (v : AV) : Fr := fun x => if x = d then v else σ x
def put (σ : Fr) (d : Option Nat) (v : AV) : Fr := match d with | some d => upd σ d v | none => σ
@[simp] theorem put_some (σ : Fr) (d : Nat) (v : AV) : put σ (some d) v = upd σ d v := rfl
@[simp] theorem put_none (σ : Fr) (v : AV) : put σ none v = σ := rfl
theorem upd_same (σ : Fr) (d : Nat) (v : AV) : upd σ d v d = v := by simp [upd]
theorem upd_ne (σ : Fr) (d x : Nat) (v : AV) (h : x ≠ d) : upd σ d v x = σ x := by simp [upd, h]

/-- A constant as an abstract value. -/
def ofV : Value → AV
  | .agg cs => .agg (cs.toList.map .val)
  | .tuple _ => .dead
  | v => .val v
def opd (σ : Fr) : Operand → AV
  | .tmp t => σ t
  | .const v => ofV v
  | .func f => .fn (.func f) [] []
  | .global _ => .dead

def goodConst : Value → Bool
  | .agg cs => cs.toList.all plainV
  | _ => true
def goodOpd : Operand → Bool
  | .const v => goodConst v
  | _ => true

theorem VR.ofV {κ : KM} {w : World} {N : Nat → Prop} (v : Value) (h : goodConst v = true) : VR κ w N (ofV v) v := by
  unfold Fw.ofV
  split
  · rename_i cs
    have h' : ∀ x ∈ cs.toList, plainV x = true := List.all_eq_true.1 h
    refine .agg _ _ (by simp) (fun i h1 h2 => ?_) (fun i hi => h' _ (by simp))
    simp only [List.getElem_map, Array.getElem_toList]
    exact .val _ (h' _ (by simp))
  · exact .dead _
  · rename_i h1 h2
    refine .val v ?_
    cases v <;> first | rfl | exact absurd rfl (h1 _) | exact absurd rfl (h2 _)

theorem Rel.opd {gh : Gh} {κ : KM} {σ : Fr} {H : Hp} {a : Act} {w : World} (h : Rel gh κ σ H a w) (x : Operand) (hx : goodOpd x = true) :
    VR κ w (Nset gh.O κ H) (opd σ x) (a.eval x) := by
  cases x with
  | tmp t => exact h.slots t
  | const v => exact VR.ofV v hx
  | global g => exact .dead _
  | func f => exact .fn _ _ _ _ _ rfl rfl (fun i h => absurd h (by simp)) (fun i h => absurd h (by simp))

/-- Putting a value into a slot. -/
theorem Rel.put {gh : Gh} {κ : KM} {σ : Fr} {H : Hp} {a : Act} {w : World} (h : Rel gh κ σ H a w) (d : Option Nat) (hd : ∀ x, d = some x → x < gh.nt) {x : AV} {v : Value}
    (hv : VR κ w (Nset gh.O κ H) x v) : Rel gh κ (put σ d x) H (a.put d v) w := by
  cases d with
  | none => exact h
  | some d =>
    have hlt : d < a.tmps.size := by rw [h.size]; exact hd d rfl
    refine ⟨h.hp, fun y => ?_, by simp [Act.put, h.size], h.defers, h.tr⟩
    by_cases e : y = d
    · subst e
      simpa [upd, Act.put, hlt] using hv
    · have := h.slots y
      have hne : d ≠ y := fun e' => e e'.symm
      simpa [upd, e, Act.put, Array.getElem?_setIfInBounds_ne hne] using this

end Go.Fw
