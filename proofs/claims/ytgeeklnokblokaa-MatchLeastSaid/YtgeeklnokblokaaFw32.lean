/- The framework, part 32: an argument as a statement's row reads it, told as an abstract value. -/
import Derived.Test.YtgeeklnokblokaaFw31
import Derived.SizedLaws
import Derived.ProofKit
set_option linter.unusedVariables false
set_option linter.unusedSimpArgs false
namespace Go.Fw
open Go.RowKit

abbrev NoN : Nat → Prop := fun _ => False
/-- Cells and what is told of them. -/
structure CelR (w : World) (xs : List AV) (cs : List Value) : Prop where
  len : xs.length = cs.length
  rel : ∀ i (h : i < xs.length) (h' : i < cs.length), VR KM.empty w NoN xs[i] cs[i]
  pl : ∀ v ∈ cs, plainV v = true
def Light {H : Type} (P : Program) (t : Nat) (d : DataW H) : Prop := ∀ n ∈ d.weights P t, n ≤ reachBytes
/-- What reads as type t is laid as an element of A is. -/
def Opens {H : Type} (enc : TypeId × Value → H) (P : Program) (w : World) (t : Nat) {A : Type} (f : A → AV) (Φ : A → Prop) : Prop :=
  ∀ (fuel : Nat) (cs : List Value) (x : DataW H × List MemPlace), DataW.trod enc P w 0 (fun _ => true) true fuel t cs = some x → Light P t x.1 → ∃ a, CelR w (f a).cells cs ∧ Φ a

section
variable {H : Type} {enc : TypeId × Value → H} {P : Program} {w : World}

theorem CelR.one {x : AV} {v : Value} (h : VR KM.empty w NoN x v) (hp : plainV v = true) : CelR w [x] [v] :=
  ⟨rfl, fun i h' _ => by
    have : i = 0 := by simpa using h'
    subst this; exact h, fun u hu => by
    have : u = v := by simpa using hu
    subst this; exact hp⟩

theorem CelR.app {xs ys : List AV} {cs ds : List Value} (h1 : CelR w xs cs) (h2 : CelR w ys ds) : CelR w (xs ++ ys) (cs ++ ds) :=
  ⟨by simp [h1.len, h2.len], fun i h h' => by
    by_cases q : i < xs.length
    · rw [List.getElem_append_left q, List.getElem_append_left (by rw [← h1.len]; exact q)]
      exact h1.rel i q _
    · rw [List.getElem_append_right (by omega), List.getElem_append_right (by rw [← h1.len]; omega)]
      simp only [← h1.len]
      exact h2.rel _ _ _, fun v hv => by
    rcases List.mem_append.1 hv with hv | hv
    · exact h1.pl v hv
    · exact h2.pl v hv⟩
theorem opens_str {t : Nat} (ht : P.underlying t = some .string) : Opens enc P w t (fun s : ByteArray => AV.val (.string s)) (fun s => s.size ≤ reachBytes) := by
  intro fuel cs x h hl
  obtain ⟨s, rfl, rfl, _⟩ := DataW.trod_string ht h
  exact ⟨s, CelR.one (.val _ rfl) rfl, by simpa [DataW.weights] using hl s.data.toList.length (by simp [DataW.weights])⟩
theorem opens_int {t : Nat} {k : IntKind} (ht : P.underlying t = some (.int k)) : Opens enc P w t (fun n : Int => AV.val (.int k n)) (fun n => (Lit.int k n).wf = true) := by
  intro fuel cs x h hl
  obtain ⟨n, rfl, rfl, hw⟩ := DataW.trod_int ht h
  exact ⟨n, CelR.one (.val _ rfl) rfl, hw⟩
theorem opens_bool {t : Nat} (ht : P.underlying t = some .bool) : Opens enc P w t (fun b : Bool => AV.val (.bool b)) (fun _ => True) := by
  intro fuel cs x h hl
  obtain ⟨b, rfl, rfl⟩ := DataW.trod_bool ht h
  exact ⟨b, CelR.one (.val _ rfl) rfl, trivial⟩

theorem listOf {A : Type} {Q : Nat → A → Prop} : ∀ (n : Nat), (∀ i, i < n → ∃ a, Q i a) → ∃ l : List A, l.length = n ∧ ∀ i (h : i < l.length), Q i l[i]
  | 0, _ => ⟨[], rfl, fun i h => absurd h (by simp)⟩
  | n + 1, h => by
    obtain ⟨l, h1, h2⟩ := listOf n fun i hi => h i (by omega)
    obtain ⟨a, ha⟩ := h n (by omega)
    refine ⟨l ++ [a], by simp [h1], fun i hi => ?_⟩
    simp only [List.length_append, List.length_cons, List.length_nil] at hi
    by_cases q : i < l.length
    · rw [List.getElem_append_left q]; exact h2 i q
    · have : i = n := by omega
      subst this
      rw [List.getElem_append_right (by omega)]
      simpa [h1] using ha
theorem weightsAll_mem {e : TypeId} : ∀ (ds : List (DataW H)) (d : DataW H), d ∈ ds → ∀ n ∈ d.weights P e, n ∈ DataW.weightsAll P e ds
  | [], d, h, _, _ => absurd h (by simp)
  | a :: r, d, h, n, hn => by
    simp only [DataW.weightsAll, List.mem_append]
    rcases List.mem_cons.1 h with rfl | h
    · exact .inl hn
    · exact .inr (weightsAll_mem r d h n hn)
theorem cell_spot {a : Addr} {v : Value} (h : w.cell? a = some v) : a.spot = none ∧ ∃ A e z, w.heap[a.block]? = some (.cells A e z) ∧ A[a.off]? = some v := by
  unfold World.cell? at h
  split at h
  · rename_i c e z hb
    split at h
    · cases h
    · rename_i hs
      exact ⟨by simpa using hs, c, e, z, hb, h⟩
  · cases h

theorem opens_slice {t e n : Nat} {A : Type} {f : A → AV} {Φ : A → Prop} (ht : P.underlying t = some (.slice e)) (hc : P.cellsOf e = n) (hn : 0 < n) (hb : 1 ≤ P.bytesOf e) (he : Opens enc P w e f Φ) :
    Opens enc P w t (fun l : List A => AV.sl n (l.map f)) (fun l => l.length ≤ reachBytes ∧ ∀ a ∈ l, Φ a) := by
  intro fuel cs x h hl
  rcases DataW.trod_slice ht h with ⟨rfl, rfl⟩ | ⟨a, len, cap, elems, rest, m, _, rfl, rfl, _, hlc, hm, hlen, hel, hsp, _⟩
  · exact ⟨[], CelR.one (.slnil n) rfl, Nat.zero_le _, fun a h => absurd h (by simp)⟩
  obtain ⟨hrl, hr⟩ := hsp rfl
  simp only [Light, DataW.weights, ht] at hl
  have hle : len ≤ reachBytes := by
    have h1 := hl ((elems.map (·.1)).length * P.bytesOf e + (rest.map (·.1)).length * P.bytesOf e) (by simp [Nat.add_mul])
    simp only [List.length_map, hlen] at h1
    have : len * 1 ≤ len * P.bytesOf e := Nat.mul_le_mul_left _ hb
    omega
  rw [hc] at hel hr
  have each : ∀ i, i < len → ∃ ecs, w.cells? 0 (a.add (i * n)) n = some ecs ∧ ∃ y, DataW.trod enc P w 0 (fun _ => true) true m e ecs = some y ∧ y ∈ elems := by
    intro i hi
    have := hel i hi
    rw [List.getElem?_eq_getElem (by omega), Option.bind_eq_some_iff] at this
    obtain ⟨ecs, h1, h2⟩ := this
    exact ⟨ecs, h1, _, h2, List.getElem_mem _⟩
  have eachR : ∀ j, j < cap - len → ∃ ecs, w.cells? 0 (a.add ((len + j) * n)) n = some ecs := by
    intro j hj
    have := hr j hj
    rw [List.getElem?_eq_getElem (by omega), Option.bind_eq_some_iff] at this
    obtain ⟨ecs, h1, h2⟩ := this
    exact ⟨ecs, h1⟩
  have any : ∀ i, i < cap → ∃ ecs, w.cells? 0 (a.add (i * n)) n = some ecs := by
    intro i hi
    by_cases q : i < len
    · obtain ⟨ecs, h1, _⟩ := each i q; exact ⟨ecs, h1⟩
    · have := eachR (i - len) (by omega)
      rwa [show len + (i - len) = i by omega] at this
  rcases Nat.eq_zero_or_pos cap with hcap | hcap
  · obtain rfl : len = 0 := by omega
    subst hcap
    exact ⟨[], CelR.one (.slemp n a) rfl, Nat.zero_le _, fun a h => absurd h (by simp)⟩
  have hspot : a.spot = none := by
    obtain ⟨ecs0, h0⟩ := any 0 hcap
    obtain ⟨_, hl0, hg0⟩ := World.cells?_some h0
    have h1 := hg0 0 hn
    rw [List.getElem?_eq_getElem (by omega)] at h1
    simp only [Nat.zero_mul, Addr.add, if_pos] at h1
    exact (cell_spot h1).1
  obtain ⟨b, off, spot⟩ := a
  simp only at hspot
  subst hspot
  obtain ⟨ecs0, h0⟩ := any (cap - 1) (by omega)
  obtain ⟨_, hl0, hg0⟩ := World.cells?_some h0
  have hlast := hg0 (n - 1) (by omega)
  rw [List.getElem?_eq_getElem (by omega), addr_add, addr_add] at hlast
  obtain ⟨_, B, et, z, hblk, hoff⟩ := cell_spot hlast
  have hblk' : w.heap[b]? = some (.cells B et z) := hblk
  have hsz : off + cap * n ≤ B.size := by
    have h2 := (Array.getElem?_eq_some_iff.1 hoff).1
    have h3 : off + (cap - 1) * n + (n - 1) < B.size := h2
    have h4 : cap * n = (cap - 1) * n + n := by rw [← Nat.succ_mul]; congr 1; omega
    omega
  obtain ⟨l, hll, hQ⟩ := listOf (A := A) (Q := fun i x => ∃ ecs, w.cells? 0 ((⟨b, off, none⟩ : Addr).add (i * n)) n = some ecs ∧ CelR w (f x).cells ecs ∧ Φ x) len fun i hi => by
    obtain ⟨ecs, h1, y, h2, h3⟩ := each i hi
    obtain ⟨x, h4, h5⟩ := he m ecs y h2 (fun k hk => hl k (by
      simp only [List.mem_cons, List.mem_append]
      exact .inr (.inl (weightsAll_mem _ y.1 (List.mem_map.2 ⟨y, h3, rfl⟩) k hk))))
    exact ⟨x, ecs, h1, h4, h5⟩
  let F : Nat → Nat → Value := fun i j => (((w.cells? 0 ((⟨b, off, none⟩ : Addr).add (i * n)) n).getD []).getD j undef)
  have hF : ∀ i (hi : i < l.length), ∃ ecs, ecs.length = n ∧ (∀ j, j < n → w.cell? ⟨b, off + i * n + j, none⟩ = some (F i j)) ∧ CelR w (f l[i]).cells ecs ∧ ∀ j, F i j = ecs.getD j undef := by
    intro i hi
    obtain ⟨ecs, h1, h2, _⟩ := hQ i hi
    obtain ⟨_, h3, h4⟩ := World.cells?_some h1
    have hFe : ∀ j, F i j = ecs.getD j undef := fun j => by simp only [F, h1, Option.getD_some]
    refine ⟨ecs, h3, fun j hj => ?_, h2, hFe⟩
    have := h4 j hj
    rw [List.getElem?_eq_getElem (by omega)] at this
    rw [hFe, List.getD_eq_getElem?_getD, List.getElem?_eq_getElem (by omega)]
    rw [addr_add, addr_add] at this
    exact this
  refine ⟨l, CelR.one ?_ rfl, by omega, fun x hx => ?_⟩
  · have := VR.sl (κ := KM.empty) (w := w) (N := NoN) n (l.map f) b off cap F (by simp; omega) (fun h => h) ⟨B, et, z, hblk', hsz⟩ (fun i hi => ?_) (fun i hi j hj => ?_) (fun i hi j hj => ?_) (fun i j hi hj => ?_)
    · simpa [hll] using this
    · have hi' : i < l.length := by simpa using hi
      obtain ⟨ecs, h1, _, h2, _⟩ := hF i hi'
      simp only [List.getElem_map]
      rw [h2.len, h1]
    · obtain ⟨ecs, _, h1, _, _⟩ := hF i (by simpa using hi)
      exact h1 j hj
    · have hi' : i < l.length := by simpa using hi
      obtain ⟨ecs, h1, _, h2, h3⟩ := hF i hi'
      simp only [List.getElem_map] at hj ⊢
      have hje : j < ecs.length := by rw [← h2.len]; exact hj
      rw [h3, List.getD_eq_getElem?_getD, List.getElem?_eq_getElem hje]
      exact h2.rel j hj hje
    · obtain ⟨ecs, h1, _, h2, h3⟩ := hF i (by simpa using hi)
      have hje : j < ecs.length := by omega
      rw [h3, List.getD_eq_getElem?_getD, List.getElem?_eq_getElem hje]
      exact h2.pl _ (List.getElem_mem hje)
  · obtain ⟨i, hi, rfl⟩ := List.getElem_of_mem hx
    exact (hQ i hi).choose_spec.2.2

theorem len3 {α : Type} {l : List α} (h : l.length = 3) : ∃ a b c, l = [a, b, c] := by
  match l, h with
  | [a, b, c], _ => exact ⟨a, b, c, rfl⟩
theorem und_struct {t : Nat} {d : TD} {fs : List (Nat × Nat)} (hd : tdOf P t = some d) (hk : d.kind = .struct fs) : ∃ g : Array Field, P.underlying t = some (.struct g) ∧ g.toList.map (fun f => (f.offset, f.type)) = fs := by
  obtain ⟨u, hu, hr⟩ := (tfact hd).und
  rw [hk] at hr
  cases u <;> simp [kdOf] at hr
  exact ⟨_, hu, hr⟩
theorem weightsEach_mem : ∀ {ts : List TypeId} {ds : List (DataW H)} {j : Nat} {t : TypeId} {d : DataW H}, ts[j]? = some t → ds[j]? = some d → ∀ n ∈ d.weights P t, n ∈ DataW.weightsEach P ts ds := fun h1 h2 => DataW.weights_mem_each h1 h2
theorem opens_struct3 {t t0 t1 t2 : Nat} {A0 A1 A2 : Type} {f0 : A0 → AV} {f1 : A1 → AV} {f2 : A2 → AV} {Φ0 : A0 → Prop} {Φ1 : A1 → Prop} {Φ2 : A2 → Prop} {fs : Array Field}
    (hu : P.underlying t = some (.struct fs)) (hf : fs.toList.map (fun f => (f.offset, f.type)) = [(0, t0), (1, t1), (2, t2)]) (hc : P.cellsOf t = 3) (c0 : P.cellsOf t0 = 1) (c1 : P.cellsOf t1 = 1) (c2 : P.cellsOf t2 = 1)
    (h0 : Opens enc P w t0 f0 Φ0) (h1 : Opens enc P w t1 f1 Φ1) (h2 : Opens enc P w t2 f2 Φ2) :
    Opens enc P w t (fun a : A0 × A1 × A2 => AV.agg ((f0 a.1).cells ++ (f1 a.2.1).cells ++ (f2 a.2.2).cells)) (fun a => Φ0 a.1 ∧ Φ1 a.2.1 ∧ Φ2 a.2.2) := by
  intro fuel cs x h hl
  obtain ⟨xs, n, _, rfl, hcl, hxl, hall⟩ := DataW.trod_struct hu h
  obtain ⟨g0, g1, g2, rfl⟩ : ∃ g0 g1 g2, fs = #[g0, g1, g2] := by
    obtain ⟨fs⟩ := fs
    obtain ⟨a, b, c, rfl⟩ := len3 (l := fs) (by simpa using congrArg List.length hf)
    exact ⟨a, b, c, rfl⟩
  simp only [List.map_cons, List.map_nil, List.cons.injEq, Prod.mk.injEq, and_true] at hf
  obtain ⟨⟨o0, e0⟩, ⟨o1, e1⟩, o2, e2⟩ := hf
  rw [hc] at hcl
  obtain ⟨v0, v1, v2, rfl⟩ : ∃ v0 v1 v2, cs = [v0, v1, v2] := len3 hcl
  obtain ⟨y0, y1, y2, rfl⟩ : ∃ y0 y1 y2, xs = [y0, y1, y2] := len3 hxl
  have k0 := hall 0 g0 rfl
  have k1 := hall 1 g1 rfl
  have k2 := hall 2 g2 rfl
  rw [o0, e0, c0] at k0
  rw [o1, e1, c1] at k1
  rw [o2, e2, c2] at k2
  have hw : ∀ (j : Nat) (tt : TypeId) (y : DataW H × List MemPlace), (([g0, g1, g2] : List Field).map (·.type))[j]? = some tt → ([y0, y1, y2] : List (DataW H × List MemPlace))[j]? = some y → Light P tt y.1 := by
    intro j tt y h3 h4 n hn
    refine hl n ?_
    show n ∈ DataW.weights P t (.agg _)
    simp only [DataW.weights, hu]
    exact DataW.weights_mem_each h3 (by rw [List.getElem?_map, h4]; rfl) n hn
  obtain ⟨a0, r0, p0⟩ := h0 n [v0] y0 k0 (hw 0 t0 y0 (by simp [e0]) rfl)
  obtain ⟨a1, r1, p1⟩ := h1 n [v1] y1 k1 (hw 1 t1 y1 (by simp [e1]) rfl)
  obtain ⟨a2, r2, p2⟩ := h2 n [v2] y2 k2 (hw 2 t2 y2 (by simp [e2]) rfl)
  refine ⟨(a0, a1, a2), ?_, p0, p1, p2⟩
  simp only [AV.cells_agg]
  generalize (f0 a0).cells = z0 at r0
  generalize (f1 a1).cells = z1 at r1
  generalize (f2 a2).cells = z2 at r2
  exact CelR.app (CelR.app r0 r1) r2
end
end Go.Fw
