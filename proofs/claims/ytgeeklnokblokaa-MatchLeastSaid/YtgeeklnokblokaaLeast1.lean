/- Part 1 of the proof: joined texts (abstract values and their rules; walks of the functions; plain lemmas). -/
import Derived.Lib.Bytealg
import Derived.Test.YtgeeklnokblokaaRows
import Derived.Test.YtgeeklnokblokaaBase
import Derived.Test.YtgeeklnokblokaaFw32
set_option linter.unusedVariables false
set_option linter.unusedSimpArgs false
set_option linter.unusedSectionVars false
namespace Go.Proofs.Ytgeeklnokblokaa
open Go Go.Fw
set_option maxRecDepth 100000 in
theorem D0 {i : Nat} {ops : Array Oper} {K : Fr → Hp → Prop} {σ : Fr} {H : Hp} (h : ∀ γs : Nat → Nat, cgOps (E i) ops γs 0 ops.toList σ H [] fun σ' H' L => Need (chkAll ops [] [] (ops.toList.zip L) = true) (K σ' H')) : DrawP (DH (E i)) ops K σ H := DrawH.intro (E := E i) T_ok h
theorem Need.drawn {ops : Array Oper} {a c : List (Oper × St)} {b : List Nat} {K : Prop} (h : chkAll ops a b c = true) (k : K) : Need (chkAll ops a b c = true) K := Need.intro h k
theorem Need.drawS {ops : Array Oper} {ms : List Nat} {lo : Nat} {a c : List (Oper × St)} {K : Prop} (h : chkS ops ms lo a c = true) (k : K) : Need (chkS ops ms lo a c = true) K := Need.intro h k
theorem CondP.pos {p : Prop} [Decidable p] {X Y : Prop} (h : p) (k : X) : CondP (decide p) X Y := .dec (fun _ => k) (fun q => absurd h q)
theorem CondP.neg {p : Prop} [Decidable p] {X Y : Prop} (h : ¬ p) (k : Y) : CondP (decide p) X Y := .dec (fun q => absurd q h) (fun _ => k)
theorem CondP.bt {b : Bool} {X Y : Prop} (h : b = true) (k : X) : CondP b X Y := .intro (fun _ => k) (fun q => by rw [h] at q; cases q)
theorem CondP.bf {b : Bool} {X Y : Prop} (h : b = false) (k : Y) : CondP b X Y := .intro (fun q => by rw [h] at q; cases q) (fun _ => k)
def encS (s : ByteArray) : AV := .val (.string s)
def encI (n : Int) : AV := .val (.int .i64 n)
def encB (b : Bool) : AV := .val (.bool b)
structure U where
  name : ByteArray
  order : Int
  pre : Bool
  deriving DecidableEq
def encU (u : U) : AV := .agg [.val (.string u.name), .val (.int .i64 u.order), .val (.bool u.pre)]
structure Pt where
  eqs : List ByteArray
  uses : List U
def encP (p : Pt) : AV := .agg [.sl 1 (p.eqs.map encS), .sl 3 (p.uses.map encU)]
def encL (l : List Int) : AV := .sl 1 (l.map encI)
/-- A graph. -/
structure G where
  eqs : List ByteArray
  uses : List U
  joined : List (List Int)
def encG (g : G) : AV := .agg [.sl 1 (g.eqs.map encS), .sl 3 (g.uses.map encU), .sl 1 (g.joined.map encL)]
set_option maxRecDepth 100000 in
theorem hasEq_ok (p : Pt) (name : ByteArray) (hl : p.eqs.length < 2^62) : PureCall Try.prog 24 [encP p, encS name] (encB (p.eqs.any fun x => decide (x = name))) := by
  refine pure_cp (E := E 0) T_ok (D_ok 0) [] Try.func24 rfl (by rfl) (Nat.le_of_ble_eq_true rfl) ?_
  ((conv => whnf); repeat ((first | refine Sw.o ?_ | refine B0 ?_); conv => whnf))
  (repeat ((first | refine N0 ?_ | refine A0 fun γ => ?_ | refine C1 ?_ | refine C2 ?_ | refine C3 ?_ | refine C4 ?_ | refine C5 ?_ | refine C6 ?_ | refine C7 ?_ | refine D0 fun γs => ?_ | refine A1 fun γs => ?_ | refine N2 ?_ | refine N3 ?_ | refine N1 ?_); ((conv => whnf); repeat ((first | refine Sw.o ?_ | refine B0 ?_); conv => whnf))))
  refine LoopP.intro (fun n σ H => ∃ γ i, ∃ hi : i ≤ p.eqs.length, n = p.eqs.length - i ∧ (p.eqs.any fun x => decide (x = name)) = ((p.eqs.drop i).any fun x => decide (x = name)) ∧ σ = fr [(0, encP p), (1, encS name), (2, .op 2 γ 0 0), (5, encI i)] ∧ H = hp [(2, γ, ⟨41, 2, [encP p]⟩)]) ?_ ?_
  · exact .intro <| W.of ⟨_, _, 0, Nat.zero_le _, rfl, rfl, rfl, rfl⟩ ⟨rfl, rfl, rfl, rfl, trivial⟩ ⟨rfl, trivial⟩
  · rintro n σ H ⟨γ, i, hi, rfl, hany, rfl, rfl⟩
    ((conv => whnf); repeat ((first | refine Sw.o ?_ | refine B0 ?_); conv => whnf))
    (repeat ((first | refine N0 ?_ | refine A0 fun γ => ?_ | refine C1 ?_ | refine C2 ?_ | refine C3 ?_ | refine C4 ?_ | refine C5 ?_ | refine C6 ?_ | refine C7 ?_ | refine D0 fun γs => ?_ | refine A1 fun γs => ?_ | refine N2 ?_ | refine N3 ?_ | refine N1 ?_); ((conv => whnf); repeat ((first | refine Sw.o ?_ | refine B0 ?_); conv => whnf))))
    refine CondP.dec (fun h => ?_) (fun h => ?_) <;> ((conv => whnf); repeat ((first | refine Sw.o ?_ | refine B0 ?_); conv => whnf))
    · (have h2 := h; try simp only [LN] at h2)
      (repeat ((first | refine N0 ?_ | refine A0 fun γ => ?_ | refine C1 ?_ | refine C2 ?_ | refine C3 ?_ | refine C4 ?_ | refine C5 ?_ | refine C6 ?_ | refine C7 ?_ | refine D0 fun γs => ?_ | refine A1 fun γs => ?_ | refine N2 ?_ | refine N3 ?_ | refine N1 ?_); ((conv => whnf); repeat ((first | refine Sw.o ?_ | refine B0 ?_); conv => whnf))))
      (simp (disch := omega) only [LG]; ((conv => whnf); repeat ((first | refine Sw.o ?_ | refine B0 ?_); conv => whnf)))
      have hi' : i < p.eqs.length := by omega
      rw [List.drop_eq_getElem_cons hi', List.any_cons] at hany
      refine CondP.dec (fun h => ?_) (fun h => ?_) <;> ((conv => whnf); repeat ((first | refine Sw.o ?_ | refine B0 ?_); conv => whnf))
      · exact .of (by rw [hany, h]; simp; rfl)
      · (repeat ((first | refine N0 ?_ | refine A0 fun γ => ?_ | refine C1 ?_ | refine C2 ?_ | refine C3 ?_ | refine C4 ?_ | refine C5 ?_ | refine C6 ?_ | refine C7 ?_ | refine D0 fun γs => ?_ | refine A1 fun γs => ?_ | refine N2 ?_ | refine N3 ?_ | refine N1 ?_); ((conv => whnf); repeat ((first | refine Sw.o ?_ | refine B0 ?_); conv => whnf))))
        refine .intro <| W.of ⟨_, by omega, γ, i + 1, hi', rfl, ?_, rfl, rfl⟩ ⟨rfl, rfl, rfl, rfl, trivial⟩ ⟨rfl, trivial⟩
        rw [hany, decide_eq_false h, Bool.false_or]
    · (have h2 := h; try simp only [LN] at h2)
      exact .of (by rw [hany, List.drop_eq_nil_of_le (by omega)]; rfl)
end Go.Proofs.Ytgeeklnokblokaa
namespace Go.Proofs.Ytgeeklnokblokaa
open Go Go.Fw
set_option maxRecDepth 100000 in
theorem SameInts_ok (a b : List Int) (ha : a.length < 2^62) (hb : b.length < 2^62) : PureCall Try.prog 18 [.sl 1 (a.map encI), .sl 1 (b.map encI)] (encB (decide (a = b))) := by
  refine pure_cp (E := E 0) T_ok (D_ok 0) [] Try.func18 rfl (by rfl) (Nat.le_of_ble_eq_true rfl) ?_
  ((conv => whnf); repeat ((first | refine Sw.o ?_ | refine B0 ?_); conv => whnf))
  (repeat ((first | refine N0 ?_ | refine A0 fun γ => ?_ | refine C1 ?_ | refine C2 ?_ | refine C3 ?_ | refine C4 ?_ | refine C5 ?_ | refine C6 ?_ | refine C7 ?_ | refine D0 fun γs => ?_ | refine A1 fun γs => ?_ | refine N2 ?_ | refine N3 ?_ | refine N1 ?_); ((conv => whnf); repeat ((first | refine Sw.o ?_ | refine B0 ?_); conv => whnf))))
  refine CondP.dec (fun h => ?_) (fun h => ?_) <;> ((conv => whnf); repeat ((first | refine Sw.o ?_ | refine B0 ?_); conv => whnf))
  · (have h2 := h; try simp only [LN] at h2)
    refine LoopP.intro (fun n σ H => ∃ i, ∃ hi : i ≤ a.length, n = a.length - i ∧ (a = b ↔ a.drop i = b.drop i) ∧ σ = fr [(0, .sl 1 (a.map encI)), (1, .sl 1 (b.map encI)), (5, encI i)] ∧ H = hp []) ?_ ?_
    · exact .intro <| W.of ⟨_, 0, Nat.zero_le _, rfl, Iff.rfl, rfl, rfl⟩ ⟨rfl, rfl, rfl, trivial⟩ trivial
    · rintro n σ H ⟨i, hi, rfl, hany, rfl, rfl⟩
      ((conv => whnf); repeat ((first | refine Sw.o ?_ | refine B0 ?_); conv => whnf))
      (repeat ((first | refine N0 ?_ | refine A0 fun γ => ?_ | refine C1 ?_ | refine C2 ?_ | refine C3 ?_ | refine C4 ?_ | refine C5 ?_ | refine C6 ?_ | refine C7 ?_ | refine D0 fun γs => ?_ | refine A1 fun γs => ?_ | refine N2 ?_ | refine N3 ?_ | refine N1 ?_); ((conv => whnf); repeat ((first | refine Sw.o ?_ | refine B0 ?_); conv => whnf))))
      refine CondP.dec (fun h => ?_) (fun h => ?_) <;> ((conv => whnf); repeat ((first | refine Sw.o ?_ | refine B0 ?_); conv => whnf))
      · (have h2 := h; try simp only [LN] at h2)
        (repeat ((first | refine N0 ?_ | refine A0 fun γ => ?_ | refine C1 ?_ | refine C2 ?_ | refine C3 ?_ | refine C4 ?_ | refine C5 ?_ | refine C6 ?_ | refine C7 ?_ | refine D0 fun γs => ?_ | refine A1 fun γs => ?_ | refine N2 ?_ | refine N3 ?_ | refine N1 ?_); ((conv => whnf); repeat ((first | refine Sw.o ?_ | refine B0 ?_); conv => whnf))))
        (simp (disch := omega) only [LG]; ((conv => whnf); repeat ((first | refine Sw.o ?_ | refine B0 ?_); conv => whnf)))
        (repeat ((first | refine N0 ?_ | refine A0 fun γ => ?_ | refine C1 ?_ | refine C2 ?_ | refine C3 ?_ | refine C4 ?_ | refine C5 ?_ | refine C6 ?_ | refine C7 ?_ | refine D0 fun γs => ?_ | refine A1 fun γs => ?_ | refine N2 ?_ | refine N3 ?_ | refine N1 ?_); ((conv => whnf); repeat ((first | refine Sw.o ?_ | refine B0 ?_); conv => whnf))))
        (simp (disch := omega) only [LG]; ((conv => whnf); repeat ((first | refine Sw.o ?_ | refine B0 ?_); conv => whnf)))
        (repeat ((first | refine N0 ?_ | refine A0 fun γ => ?_ | refine C1 ?_ | refine C2 ?_ | refine C3 ?_ | refine C4 ?_ | refine C5 ?_ | refine C6 ?_ | refine C7 ?_ | refine D0 fun γs => ?_ | refine A1 fun γs => ?_ | refine N2 ?_ | refine N3 ?_ | refine N1 ?_); ((conv => whnf); repeat ((first | refine Sw.o ?_ | refine B0 ?_); conv => whnf))))
        have hi' : i < a.length := by omega
        have hi2 : i < b.length := by omega
        rw [List.drop_eq_getElem_cons hi', List.drop_eq_getElem_cons hi2, List.cons.injEq] at hany
        refine CondP.dec (fun h => ?_) (fun h => ?_) <;> ((conv => whnf); repeat ((first | refine Sw.o ?_ | refine B0 ?_); conv => whnf))
        · (repeat ((first | refine N0 ?_ | refine A0 fun γ => ?_ | refine C1 ?_ | refine C2 ?_ | refine C3 ?_ | refine C4 ?_ | refine C5 ?_ | refine C6 ?_ | refine C7 ?_ | refine D0 fun γs => ?_ | refine A1 fun γs => ?_ | refine N2 ?_ | refine N3 ?_ | refine N1 ?_); ((conv => whnf); repeat ((first | refine Sw.o ?_ | refine B0 ?_); conv => whnf))))
          refine .intro <| W.of ⟨_, by omega, i + 1, hi', rfl, ?_, rfl, rfl⟩ ⟨rfl, rfl, rfl, trivial⟩ trivial
          rw [hany]; exact ⟨fun q => q.2, fun q => ⟨h, q⟩⟩
        · exact .of (by rw [decide_eq_false (fun e => h (hany.1 e).1)]; rfl)
      · (have h2 := h; try simp only [LN] at h2)
        exact .of (by rw [decide_eq_true (hany.2 (by rw [List.drop_eq_nil_of_le (by omega), List.drop_eq_nil_of_le (by omega)]))]; rfl)
  · (have h2 := h; try simp only [LN] at h2)
    exact .of (by rw [decide_eq_false (fun e => by rw [← e] at h2; omega)]; rfl)
set_option maxRecDepth 100000 in
theorem SameNames_ok (a b : List ByteArray) (ha : a.length < 2^62) (hb : b.length < 2^62) : PureCall Try.prog 59 [.sl 1 (a.map encS), .sl 1 (b.map encS)] (encB (decide (a = b))) := by
  refine pure_cp (E := E 0) T_ok (D_ok 0) [] Try.func59 rfl (by rfl) (Nat.le_of_ble_eq_true rfl) ?_
  ((conv => whnf); repeat ((first | refine Sw.o ?_ | refine B0 ?_); conv => whnf))
  (repeat ((first | refine N0 ?_ | refine A0 fun γ => ?_ | refine C1 ?_ | refine C2 ?_ | refine C3 ?_ | refine C4 ?_ | refine C5 ?_ | refine C6 ?_ | refine C7 ?_ | refine D0 fun γs => ?_ | refine A1 fun γs => ?_ | refine N2 ?_ | refine N3 ?_ | refine N1 ?_); ((conv => whnf); repeat ((first | refine Sw.o ?_ | refine B0 ?_); conv => whnf))))
  refine CondP.dec (fun h => ?_) (fun h => ?_) <;> ((conv => whnf); repeat ((first | refine Sw.o ?_ | refine B0 ?_); conv => whnf))
  · (have h2 := h; try simp only [LN] at h2)
    refine LoopP.intro (fun n σ H => ∃ i, ∃ hi : i ≤ a.length, n = a.length - i ∧ (a = b ↔ a.drop i = b.drop i) ∧ σ = fr [(0, .sl 1 (a.map encS)), (1, .sl 1 (b.map encS)), (5, encI i)] ∧ H = hp []) ?_ ?_
    · exact .intro <| W.of ⟨_, 0, Nat.zero_le _, rfl, Iff.rfl, rfl, rfl⟩ ⟨rfl, rfl, rfl, trivial⟩ trivial
    · rintro n σ H ⟨i, hi, rfl, hany, rfl, rfl⟩
      ((conv => whnf); repeat ((first | refine Sw.o ?_ | refine B0 ?_); conv => whnf))
      (repeat ((first | refine N0 ?_ | refine A0 fun γ => ?_ | refine C1 ?_ | refine C2 ?_ | refine C3 ?_ | refine C4 ?_ | refine C5 ?_ | refine C6 ?_ | refine C7 ?_ | refine D0 fun γs => ?_ | refine A1 fun γs => ?_ | refine N2 ?_ | refine N3 ?_ | refine N1 ?_); ((conv => whnf); repeat ((first | refine Sw.o ?_ | refine B0 ?_); conv => whnf))))
      refine CondP.dec (fun h => ?_) (fun h => ?_) <;> ((conv => whnf); repeat ((first | refine Sw.o ?_ | refine B0 ?_); conv => whnf))
      · (have h2 := h; try simp only [LN] at h2)
        (repeat ((first | refine N0 ?_ | refine A0 fun γ => ?_ | refine C1 ?_ | refine C2 ?_ | refine C3 ?_ | refine C4 ?_ | refine C5 ?_ | refine C6 ?_ | refine C7 ?_ | refine D0 fun γs => ?_ | refine A1 fun γs => ?_ | refine N2 ?_ | refine N3 ?_ | refine N1 ?_); ((conv => whnf); repeat ((first | refine Sw.o ?_ | refine B0 ?_); conv => whnf))))
        (simp (disch := omega) only [LG]; ((conv => whnf); repeat ((first | refine Sw.o ?_ | refine B0 ?_); conv => whnf)))
        (repeat ((first | refine N0 ?_ | refine A0 fun γ => ?_ | refine C1 ?_ | refine C2 ?_ | refine C3 ?_ | refine C4 ?_ | refine C5 ?_ | refine C6 ?_ | refine C7 ?_ | refine D0 fun γs => ?_ | refine A1 fun γs => ?_ | refine N2 ?_ | refine N3 ?_ | refine N1 ?_); ((conv => whnf); repeat ((first | refine Sw.o ?_ | refine B0 ?_); conv => whnf))))
        (simp (disch := omega) only [LG]; ((conv => whnf); repeat ((first | refine Sw.o ?_ | refine B0 ?_); conv => whnf)))
        (repeat ((first | refine N0 ?_ | refine A0 fun γ => ?_ | refine C1 ?_ | refine C2 ?_ | refine C3 ?_ | refine C4 ?_ | refine C5 ?_ | refine C6 ?_ | refine C7 ?_ | refine D0 fun γs => ?_ | refine A1 fun γs => ?_ | refine N2 ?_ | refine N3 ?_ | refine N1 ?_); ((conv => whnf); repeat ((first | refine Sw.o ?_ | refine B0 ?_); conv => whnf))))
        have hi' : i < a.length := by omega
        have hi2 : i < b.length := by omega
        rw [List.drop_eq_getElem_cons hi', List.drop_eq_getElem_cons hi2, List.cons.injEq] at hany
        refine CondP.dec (fun h => ?_) (fun h => ?_) <;> ((conv => whnf); repeat ((first | refine Sw.o ?_ | refine B0 ?_); conv => whnf))
        · (repeat ((first | refine N0 ?_ | refine A0 fun γ => ?_ | refine C1 ?_ | refine C2 ?_ | refine C3 ?_ | refine C4 ?_ | refine C5 ?_ | refine C6 ?_ | refine C7 ?_ | refine D0 fun γs => ?_ | refine A1 fun γs => ?_ | refine N2 ?_ | refine N3 ?_ | refine N1 ?_); ((conv => whnf); repeat ((first | refine Sw.o ?_ | refine B0 ?_); conv => whnf))))
          refine .intro <| W.of ⟨_, by omega, i + 1, hi', rfl, ?_, rfl, rfl⟩ ⟨rfl, rfl, rfl, trivial⟩ trivial
          rw [hany]; exact ⟨fun q => q.2, fun q => ⟨h, q⟩⟩
        · exact .of (by rw [decide_eq_false (fun e => h (hany.1 e).1)]; rfl)
      · (have h2 := h; try simp only [LN] at h2)
        exact .of (by rw [decide_eq_true (hany.2 (by rw [List.drop_eq_nil_of_le (by omega), List.drop_eq_nil_of_le (by omega)]))]; rfl)
  · (have h2 := h; try simp only [LN] at h2)
    exact .of (by rw [decide_eq_false (fun e => by rw [← e] at h2; omega)]; rfl)
theorem eqU (u v : U) : (decide (u.name = v.name) && (decide (u.order = v.order) && decide (u.pre = v.pre))) = decide (u = v) := by
  obtain ⟨a, b, c⟩ := u
  obtain ⟨a', b', c'⟩ := v
  simp only [U.mk.injEq, Bool.decide_and]
theorem eqst50 : EqSt Try.prog 50 := .of (by kernel_rfl) (by kernel_rfl) (by kernel_rfl)
theorem eqst55 : Try.prog.eqGuardType Try.prog.depth 55 = false := by kernel_rfl
def encPr (p : Int × Int) : AV := .agg [.val (.int .i64 p.1), .val (.int .i64 p.2)]
theorem eqPr (u v : Int × Int) : (decide (u.1 = v.1) && decide (u.2 = v.2)) = decide (u = v) := by
  obtain ⟨a, b⟩ := u
  obtain ⟨a', b'⟩ := v
  simp only [Prod.mk.injEq, Bool.decide_and]
set_option maxRecDepth 100000 in
theorem SameUses_ok (a b : List U) (ha : a.length < 2^62) (hb : b.length < 2^62) : PureCall Try.prog 60 [.sl 3 (a.map encU), .sl 3 (b.map encU)] (encB (decide (a = b))) := by
  refine pure_cp (E := E 0) T_ok (D_ok 0) [] Try.func60 rfl (by rfl) (Nat.le_of_ble_eq_true rfl) ?_
  ((conv => whnf); repeat ((first | refine Sw.o ?_ | refine B0 ?_); conv => whnf))
  (repeat ((first | refine N0 ?_ | refine A0 fun γ => ?_ | refine C1 ?_ | refine C2 ?_ | refine C3 ?_ | refine C4 ?_ | refine C5 ?_ | refine C6 ?_ | refine C7 ?_ | refine D0 fun γs => ?_ | refine A1 fun γs => ?_ | refine N2 ?_ | refine N3 ?_ | refine N1 ?_); ((conv => whnf); repeat ((first | refine Sw.o ?_ | refine B0 ?_); conv => whnf))))
  refine CondP.dec (fun h => ?_) (fun h => ?_) <;> ((conv => whnf); repeat ((first | refine Sw.o ?_ | refine B0 ?_); conv => whnf))
  · (have h2 := h; try simp only [LN] at h2)
    refine LoopP.intro (fun n σ H => ∃ i, ∃ hi : i ≤ a.length, n = a.length - i ∧ (a = b ↔ a.drop i = b.drop i) ∧ σ = fr [(0, .sl 3 (a.map encU)), (1, .sl 3 (b.map encU)), (5, encI i)] ∧ H = hp []) ?_ ?_
    · exact .intro <| W.of ⟨_, 0, Nat.zero_le _, rfl, Iff.rfl, rfl, rfl⟩ ⟨rfl, rfl, rfl, trivial⟩ trivial
    · rintro n σ H ⟨i, hi, rfl, hany, rfl, rfl⟩
      ((conv => whnf); repeat ((first | refine Sw.o ?_ | refine B0 ?_); conv => whnf))
      (repeat ((first | refine N0 ?_ | refine A0 fun γ => ?_ | refine C1 ?_ | refine C2 ?_ | refine C3 ?_ | refine C4 ?_ | refine C5 ?_ | refine C6 ?_ | refine C7 ?_ | refine D0 fun γs => ?_ | refine A1 fun γs => ?_ | refine N2 ?_ | refine N3 ?_ | refine N1 ?_); ((conv => whnf); repeat ((first | refine Sw.o ?_ | refine B0 ?_); conv => whnf))))
      refine CondP.dec (fun h => ?_) (fun h => ?_) <;> ((conv => whnf); repeat ((first | refine Sw.o ?_ | refine B0 ?_); conv => whnf))
      · (have h2 := h; try simp only [LN] at h2)
        (repeat ((first | refine N0 ?_ | refine A0 fun γ => ?_ | refine C1 ?_ | refine C2 ?_ | refine C3 ?_ | refine C4 ?_ | refine C5 ?_ | refine C6 ?_ | refine C7 ?_ | refine D0 fun γs => ?_ | refine A1 fun γs => ?_ | refine N2 ?_ | refine N3 ?_ | refine N1 ?_); ((conv => whnf); repeat ((first | refine Sw.o ?_ | refine B0 ?_); conv => whnf))))
        (simp (disch := omega) only [LG]; ((conv => whnf); repeat ((first | refine Sw.o ?_ | refine B0 ?_); conv => whnf)))
        (repeat ((first | refine N0 ?_ | refine A0 fun γ => ?_ | refine C1 ?_ | refine C2 ?_ | refine C3 ?_ | refine C4 ?_ | refine C5 ?_ | refine C6 ?_ | refine C7 ?_ | refine D0 fun γs => ?_ | refine A1 fun γs => ?_ | refine N2 ?_ | refine N3 ?_ | refine N1 ?_); ((conv => whnf); repeat ((first | refine Sw.o ?_ | refine B0 ?_); conv => whnf))))
        (simp (disch := omega) only [LG]; ((conv => whnf); repeat ((first | refine Sw.o ?_ | refine B0 ?_); conv => whnf)))
        (repeat ((first | refine N0 ?_ | refine A0 fun γ => ?_ | refine C1 ?_ | refine C2 ?_ | refine C3 ?_ | refine C4 ?_ | refine C5 ?_ | refine C6 ?_ | refine C7 ?_ | refine D0 fun γs => ?_ | refine A1 fun γs => ?_ | refine N2 ?_ | refine N3 ?_ | refine N1 ?_); ((conv => whnf); repeat ((first | refine Sw.o ?_ | refine B0 ?_); conv => whnf))))
        have hi' : i < a.length := by omega
        have hi2 : i < b.length := by omega
        rw [List.drop_eq_getElem_cons hi', List.drop_eq_getElem_cons hi2, List.cons.injEq] at hany
        refine Need.intro eqst50 ?_
        ((conv => whnf); repeat ((first | refine Sw.o ?_ | refine B0 ?_); conv => whnf))
        (repeat ((first | refine N0 ?_ | refine A0 fun γ => ?_ | refine C1 ?_ | refine C2 ?_ | refine C3 ?_ | refine C4 ?_ | refine C5 ?_ | refine C6 ?_ | refine C7 ?_ | refine D0 fun γs => ?_ | refine A1 fun γs => ?_ | refine N2 ?_ | refine N3 ?_ | refine N1 ?_); ((conv => whnf); repeat ((first | refine Sw.o ?_ | refine B0 ?_); conv => whnf))))
        rw [eqU]
        refine CondP.dec (fun h => ?_) (fun h => ?_) <;> ((conv => whnf); repeat ((first | refine Sw.o ?_ | refine B0 ?_); conv => whnf))
        · (repeat ((first | refine N0 ?_ | refine A0 fun γ => ?_ | refine C1 ?_ | refine C2 ?_ | refine C3 ?_ | refine C4 ?_ | refine C5 ?_ | refine C6 ?_ | refine C7 ?_ | refine D0 fun γs => ?_ | refine A1 fun γs => ?_ | refine N2 ?_ | refine N3 ?_ | refine N1 ?_); ((conv => whnf); repeat ((first | refine Sw.o ?_ | refine B0 ?_); conv => whnf))))
          refine .intro <| W.of ⟨_, by omega, i + 1, hi', rfl, ?_, rfl, rfl⟩ ⟨rfl, rfl, rfl, trivial⟩ trivial
          rw [hany]; exact ⟨fun q => q.2, fun q => ⟨h, q⟩⟩
        · exact .of (by rw [decide_eq_false (fun e => h (hany.1 e).1)]; rfl)
      · (have h2 := h; try simp only [LN] at h2)
        exact .of (by rw [decide_eq_true (hany.2 (by rw [List.drop_eq_nil_of_le (by omega), List.drop_eq_nil_of_le (by omega)]))]; rfl)
  · (have h2 := h; try simp only [LN] at h2)
    exact .of (by rw [decide_eq_false (fun e => by rw [← e] at h2; omega)]; rfl)
set_option maxRecDepth 100000 in
theorem pairs_ok (a b : List (Int × Int)) (ha : a.length < 2^62) (hb : b.length < 2^62) : PureCall Try.prog 19 [.sl 2 (a.map encPr), .sl 2 (b.map encPr)] (encB (decide (a = b))) := by
  refine pure_cp (E := E 0) T_ok (D_ok 0) [] Try.func19 rfl (by rfl) (Nat.le_of_ble_eq_true rfl) ?_
  ((conv => whnf); repeat ((first | refine Sw.o ?_ | refine B0 ?_); conv => whnf))
  (repeat ((first | refine N0 ?_ | refine A0 fun γ => ?_ | refine C1 ?_ | refine C2 ?_ | refine C3 ?_ | refine C4 ?_ | refine C5 ?_ | refine C6 ?_ | refine C7 ?_ | refine D0 fun γs => ?_ | refine A1 fun γs => ?_ | refine N2 ?_ | refine N3 ?_ | refine N1 ?_); ((conv => whnf); repeat ((first | refine Sw.o ?_ | refine B0 ?_); conv => whnf))))
  refine CondP.dec (fun h => ?_) (fun h => ?_) <;> ((conv => whnf); repeat ((first | refine Sw.o ?_ | refine B0 ?_); conv => whnf))
  · (have h2 := h; try simp only [LN] at h2)
    refine LoopP.intro (fun n σ H => ∃ i, ∃ hi : i ≤ a.length, n = a.length - i ∧ (a = b ↔ a.drop i = b.drop i) ∧ σ = fr [(0, .sl 2 (a.map encPr)), (1, .sl 2 (b.map encPr)), (5, encI i)] ∧ H = hp []) ?_ ?_
    · exact .intro <| W.of ⟨_, 0, Nat.zero_le _, rfl, Iff.rfl, rfl, rfl⟩ ⟨rfl, rfl, rfl, trivial⟩ trivial
    · rintro n σ H ⟨i, hi, rfl, hany, rfl, rfl⟩
      ((conv => whnf); repeat ((first | refine Sw.o ?_ | refine B0 ?_); conv => whnf))
      (repeat ((first | refine N0 ?_ | refine A0 fun γ => ?_ | refine C1 ?_ | refine C2 ?_ | refine C3 ?_ | refine C4 ?_ | refine C5 ?_ | refine C6 ?_ | refine C7 ?_ | refine D0 fun γs => ?_ | refine A1 fun γs => ?_ | refine N2 ?_ | refine N3 ?_ | refine N1 ?_); ((conv => whnf); repeat ((first | refine Sw.o ?_ | refine B0 ?_); conv => whnf))))
      refine CondP.dec (fun h => ?_) (fun h => ?_) <;> ((conv => whnf); repeat ((first | refine Sw.o ?_ | refine B0 ?_); conv => whnf))
      · (have h2 := h; try simp only [LN] at h2)
        (repeat ((first | refine N0 ?_ | refine A0 fun γ => ?_ | refine C1 ?_ | refine C2 ?_ | refine C3 ?_ | refine C4 ?_ | refine C5 ?_ | refine C6 ?_ | refine C7 ?_ | refine D0 fun γs => ?_ | refine A1 fun γs => ?_ | refine N2 ?_ | refine N3 ?_ | refine N1 ?_); ((conv => whnf); repeat ((first | refine Sw.o ?_ | refine B0 ?_); conv => whnf))))
        (simp (disch := omega) only [LG]; ((conv => whnf); repeat ((first | refine Sw.o ?_ | refine B0 ?_); conv => whnf)))
        (repeat ((first | refine N0 ?_ | refine A0 fun γ => ?_ | refine C1 ?_ | refine C2 ?_ | refine C3 ?_ | refine C4 ?_ | refine C5 ?_ | refine C6 ?_ | refine C7 ?_ | refine D0 fun γs => ?_ | refine A1 fun γs => ?_ | refine N2 ?_ | refine N3 ?_ | refine N1 ?_); ((conv => whnf); repeat ((first | refine Sw.o ?_ | refine B0 ?_); conv => whnf))))
        (simp (disch := omega) only [LG]; ((conv => whnf); repeat ((first | refine Sw.o ?_ | refine B0 ?_); conv => whnf)))
        (repeat ((first | refine N0 ?_ | refine A0 fun γ => ?_ | refine C1 ?_ | refine C2 ?_ | refine C3 ?_ | refine C4 ?_ | refine C5 ?_ | refine C6 ?_ | refine C7 ?_ | refine D0 fun γs => ?_ | refine A1 fun γs => ?_ | refine N2 ?_ | refine N3 ?_ | refine N1 ?_); ((conv => whnf); repeat ((first | refine Sw.o ?_ | refine B0 ?_); conv => whnf))))
        have hi' : i < a.length := by omega
        have hi2 : i < b.length := by omega
        rw [List.drop_eq_getElem_cons hi', List.drop_eq_getElem_cons hi2, List.cons.injEq] at hany
        refine Need.intro eqst55 ?_
        ((conv => whnf); repeat ((first | refine Sw.o ?_ | refine B0 ?_); conv => whnf))
        (repeat ((first | refine N0 ?_ | refine A0 fun γ => ?_ | refine C1 ?_ | refine C2 ?_ | refine C3 ?_ | refine C4 ?_ | refine C5 ?_ | refine C6 ?_ | refine C7 ?_ | refine D0 fun γs => ?_ | refine A1 fun γs => ?_ | refine N2 ?_ | refine N3 ?_ | refine N1 ?_); ((conv => whnf); repeat ((first | refine Sw.o ?_ | refine B0 ?_); conv => whnf))))
        rw [eqPr]
        refine CondP.dec (fun h => ?_) (fun h => ?_) <;> ((conv => whnf); repeat ((first | refine Sw.o ?_ | refine B0 ?_); conv => whnf))
        · (repeat ((first | refine N0 ?_ | refine A0 fun γ => ?_ | refine C1 ?_ | refine C2 ?_ | refine C3 ?_ | refine C4 ?_ | refine C5 ?_ | refine C6 ?_ | refine C7 ?_ | refine D0 fun γs => ?_ | refine A1 fun γs => ?_ | refine N2 ?_ | refine N3 ?_ | refine N1 ?_); ((conv => whnf); repeat ((first | refine Sw.o ?_ | refine B0 ?_); conv => whnf))))
          refine .intro <| W.of ⟨_, by omega, i + 1, hi', rfl, ?_, rfl, rfl⟩ ⟨rfl, rfl, rfl, trivial⟩ trivial
          rw [hany]; exact ⟨fun q => q.2, fun q => ⟨h, q⟩⟩
        · exact .of (by rw [decide_eq_false (fun e => h (hany.1 e).1)]; rfl)
      · (have h2 := h; try simp only [LN] at h2)
        exact .of (by rw [decide_eq_true (hany.2 (by rw [List.drop_eq_nil_of_le (by omega), List.drop_eq_nil_of_le (by omega)]))]; rfl)
  · (have h2 := h; try simp only [LN] at h2)
    exact .of (by rw [decide_eq_false (fun e => by rw [← e] at h2; omega)]; rfl)
end Go.Proofs.Ytgeeklnokblokaa
namespace Go.Proofs.Ytgeeklnokblokaa
open Go Go.Fw
set_option maxRecDepth 100000 in
theorem one_ok (a b c : Bool) : PureCall Try.prog 23 [encB a, encB b, encB c] (encI (if a && !b && !c then 0 else if b && !a && !c then 1 else if c && !a && !b then 2 else -1)) := by
  refine pure_cp (E := E 0) T_ok (D_ok 0) [] Try.func23 rfl (by rfl) (Nat.le_of_ble_eq_true rfl) ?_
  cases a <;> cases b <;> cases c <;> (
  ((conv => whnf); repeat ((first | refine Sw.o ?_ | refine B0 ?_); conv => whnf))
  (repeat ((first | refine N0 ?_ | refine A0 fun γ => ?_ | refine C1 ?_ | refine C2 ?_ | refine C3 ?_ | refine C4 ?_ | refine C5 ?_ | refine C6 ?_ | refine C7 ?_ | refine D0 fun γs => ?_ | refine A1 fun γs => ?_ | refine N2 ?_ | refine N3 ?_ | refine N1 ?_); ((conv => whnf); repeat ((first | refine Sw.o ?_ | refine B0 ?_); conv => whnf))))
  exact .of rfl)
set_option maxRecDepth 100000 in
theorem hasUse_ok (p : Pt) (u : U) (hl : p.uses.length < 2^62) : PureCall Try.prog 25 [encP p, encU u] (encB (p.uses.any fun x => decide (x = u))) := by
  refine pure_cp (E := E 0) T_ok (D_ok 0) [] Try.func25 rfl (by rfl) (Nat.le_of_ble_eq_true rfl) ?_
  ((conv => whnf); repeat ((first | refine Sw.o ?_ | refine B0 ?_); conv => whnf))
  (repeat ((first | refine N0 ?_ | refine A0 fun γ => ?_ | refine C1 ?_ | refine C2 ?_ | refine C3 ?_ | refine C4 ?_ | refine C5 ?_ | refine C6 ?_ | refine C7 ?_ | refine D0 fun γs => ?_ | refine A1 fun γs => ?_ | refine N2 ?_ | refine N3 ?_ | refine N1 ?_); ((conv => whnf); repeat ((first | refine Sw.o ?_ | refine B0 ?_); conv => whnf))))
  refine LoopP.intro (fun n σ H => ∃ γ γ' i, ∃ hi : i ≤ p.uses.length, n = p.uses.length - i ∧ (p.uses.any fun x => decide (x = u)) = ((p.uses.drop i).any fun x => decide (x = u)) ∧ σ = fr [(2, .op 2 γ 0 0), (3, .op 3 γ' 0 0), (5, encI i)] ∧ H = hp [(2, γ, ⟨41, 2, [encP p]⟩), (3, γ', ⟨50, 3, [encU u]⟩)]) ?_ ?_
  · exact .intro <| W.of ⟨_, _, _, 0, Nat.zero_le _, rfl, rfl, rfl, rfl⟩ ⟨rfl, rfl, rfl, trivial⟩ ⟨rfl, rfl, trivial⟩
  · rintro n σ H ⟨γ, γ', i, hi, rfl, hany, rfl, rfl⟩
    ((conv => whnf); repeat ((first | refine Sw.o ?_ | refine B0 ?_); conv => whnf))
    (repeat ((first | refine N0 ?_ | refine A0 fun γ => ?_ | refine C1 ?_ | refine C2 ?_ | refine C3 ?_ | refine C4 ?_ | refine C5 ?_ | refine C6 ?_ | refine C7 ?_ | refine D0 fun γs => ?_ | refine A1 fun γs => ?_ | refine N2 ?_ | refine N3 ?_ | refine N1 ?_); ((conv => whnf); repeat ((first | refine Sw.o ?_ | refine B0 ?_); conv => whnf))))
    refine CondP.dec (fun h => ?_) (fun h => ?_) <;> ((conv => whnf); repeat ((first | refine Sw.o ?_ | refine B0 ?_); conv => whnf))
    · (have h2 := h; try simp only [LN] at h2)
      (repeat ((first | refine N0 ?_ | refine A0 fun γ => ?_ | refine C1 ?_ | refine C2 ?_ | refine C3 ?_ | refine C4 ?_ | refine C5 ?_ | refine C6 ?_ | refine C7 ?_ | refine D0 fun γs => ?_ | refine A1 fun γs => ?_ | refine N2 ?_ | refine N3 ?_ | refine N1 ?_); ((conv => whnf); repeat ((first | refine Sw.o ?_ | refine B0 ?_); conv => whnf))))
      (simp (disch := omega) only [LG]; ((conv => whnf); repeat ((first | refine Sw.o ?_ | refine B0 ?_); conv => whnf)))
      (repeat ((first | refine N0 ?_ | refine A0 fun γ => ?_ | refine C1 ?_ | refine C2 ?_ | refine C3 ?_ | refine C4 ?_ | refine C5 ?_ | refine C6 ?_ | refine C7 ?_ | refine D0 fun γs => ?_ | refine A1 fun γs => ?_ | refine N2 ?_ | refine N3 ?_ | refine N1 ?_); ((conv => whnf); repeat ((first | refine Sw.o ?_ | refine B0 ?_); conv => whnf))))
      have hi' : i < p.uses.length := by omega
      rw [List.drop_eq_getElem_cons hi', List.any_cons] at hany
      refine Need.intro eqst50 ?_
      ((conv => whnf); repeat ((first | refine Sw.o ?_ | refine B0 ?_); conv => whnf))
      (repeat ((first | refine N0 ?_ | refine A0 fun γ => ?_ | refine C1 ?_ | refine C2 ?_ | refine C3 ?_ | refine C4 ?_ | refine C5 ?_ | refine C6 ?_ | refine C7 ?_ | refine D0 fun γs => ?_ | refine A1 fun γs => ?_ | refine N2 ?_ | refine N3 ?_ | refine N1 ?_); ((conv => whnf); repeat ((first | refine Sw.o ?_ | refine B0 ?_); conv => whnf))))
      rw [eqU]
      refine CondP.dec (fun h => ?_) (fun h => ?_) <;> ((conv => whnf); repeat ((first | refine Sw.o ?_ | refine B0 ?_); conv => whnf))
      · exact .of (by rw [hany, decide_eq_true h]; rfl)
      · (repeat ((first | refine N0 ?_ | refine A0 fun γ => ?_ | refine C1 ?_ | refine C2 ?_ | refine C3 ?_ | refine C4 ?_ | refine C5 ?_ | refine C6 ?_ | refine C7 ?_ | refine D0 fun γs => ?_ | refine A1 fun γs => ?_ | refine N2 ?_ | refine N3 ?_ | refine N1 ?_); ((conv => whnf); repeat ((first | refine Sw.o ?_ | refine B0 ?_); conv => whnf))))
        refine .intro <| W.of ⟨_, by omega, _, _, i + 1, hi', rfl, ?_, rfl, rfl⟩ ⟨rfl, rfl, rfl, trivial⟩ ⟨rfl, rfl, trivial⟩
        rw [hany, decide_eq_false h, Bool.false_or]
    · (have h2 := h; try simp only [LN] at h2)
      exact .of (by rw [hany, List.drop_eq_nil_of_le (by omega)]; rfl)
set_option maxRecDepth 100000 in
/-- joined of the statements. -/
theorem lawJoined_ok (g : G) (e : Nat) (u : Int) (he : e < g.joined.length) (hl : (g.joined[e]).length < 2^62) : PureCall Try.prog 26 [encG g, encI e, encI u] (encB ((g.joined[e]).any fun x => decide (x = u))) := by
  refine pure_cp (E := E 0) T_ok (D_ok 0) [] Try.func26 rfl (by rfl) (Nat.le_of_ble_eq_true rfl) ?_
  ((conv => whnf); repeat ((first | refine Sw.o ?_ | refine B0 ?_); conv => whnf))
  (repeat ((first | refine N0 ?_ | refine A0 fun γ => ?_ | refine C1 ?_ | refine C2 ?_ | refine C3 ?_ | refine C4 ?_ | refine C5 ?_ | refine C6 ?_ | refine C7 ?_ | refine D0 fun γs => ?_ | refine A1 fun γs => ?_ | refine N2 ?_ | refine N3 ?_ | refine N1 ?_); ((conv => whnf); repeat ((first | refine Sw.o ?_ | refine B0 ?_); conv => whnf))))
  refine LoopP.intro (fun n σ H => ∃ γ i, ∃ hi : i ≤ (g.joined[e]).length, n = (g.joined[e]).length - i ∧ ((g.joined[e]).any fun x => decide (x = u)) = (((g.joined[e]).drop i).any fun x => decide (x = u)) ∧ σ = fr [(1, encI e), (2, encI u), (3, .op 3 γ 0 0), (7, encI i)] ∧ H = hp [(3, γ, ⟨26, 3, [encG g]⟩)]) ?_ ?_
  · exact .intro <| W.of ⟨_, _, 0, Nat.zero_le _, rfl, rfl, rfl, rfl⟩ ⟨rfl, rfl, rfl, rfl, trivial⟩ ⟨rfl, trivial⟩
  · rintro n σ H ⟨γ, i, hi, rfl, hany, rfl, rfl⟩
    ((conv => whnf); repeat ((first | refine Sw.o ?_ | refine B0 ?_); conv => whnf))
    (repeat ((first | refine N0 ?_ | refine A0 fun γ => ?_ | refine C1 ?_ | refine C2 ?_ | refine C3 ?_ | refine C4 ?_ | refine C5 ?_ | refine C6 ?_ | refine C7 ?_ | refine D0 fun γs => ?_ | refine A1 fun γs => ?_ | refine N2 ?_ | refine N3 ?_ | refine N1 ?_); ((conv => whnf); repeat ((first | refine Sw.o ?_ | refine B0 ?_); conv => whnf))))
    (simp (disch := omega) only [LG]; ((conv => whnf); repeat ((first | refine Sw.o ?_ | refine B0 ?_); conv => whnf)))
    (repeat ((first | refine N0 ?_ | refine A0 fun γ => ?_ | refine C1 ?_ | refine C2 ?_ | refine C3 ?_ | refine C4 ?_ | refine C5 ?_ | refine C6 ?_ | refine C7 ?_ | refine D0 fun γs => ?_ | refine A1 fun γs => ?_ | refine N2 ?_ | refine N3 ?_ | refine N1 ?_); ((conv => whnf); repeat ((first | refine Sw.o ?_ | refine B0 ?_); conv => whnf))))
    refine CondP.dec (fun h => ?_) (fun h => ?_) <;> ((conv => whnf); repeat ((first | refine Sw.o ?_ | refine B0 ?_); conv => whnf))
    · (have h2 := h; try simp only [LN] at h2)
      (repeat ((first | refine N0 ?_ | refine A0 fun γ => ?_ | refine C1 ?_ | refine C2 ?_ | refine C3 ?_ | refine C4 ?_ | refine C5 ?_ | refine C6 ?_ | refine C7 ?_ | refine D0 fun γs => ?_ | refine A1 fun γs => ?_ | refine N2 ?_ | refine N3 ?_ | refine N1 ?_); ((conv => whnf); repeat ((first | refine Sw.o ?_ | refine B0 ?_); conv => whnf))))
      (simp (disch := omega) only [LG]; ((conv => whnf); repeat ((first | refine Sw.o ?_ | refine B0 ?_); conv => whnf)))
      (repeat ((first | refine N0 ?_ | refine A0 fun γ => ?_ | refine C1 ?_ | refine C2 ?_ | refine C3 ?_ | refine C4 ?_ | refine C5 ?_ | refine C6 ?_ | refine C7 ?_ | refine D0 fun γs => ?_ | refine A1 fun γs => ?_ | refine N2 ?_ | refine N3 ?_ | refine N1 ?_); ((conv => whnf); repeat ((first | refine Sw.o ?_ | refine B0 ?_); conv => whnf))))
      (simp (disch := omega) only [LG]; ((conv => whnf); repeat ((first | refine Sw.o ?_ | refine B0 ?_); conv => whnf)))
      have hi' : i < (g.joined[e]).length := by omega
      rw [List.drop_eq_getElem_cons hi', List.any_cons] at hany
      refine CondP.dec (fun h => ?_) (fun h => ?_) <;> ((conv => whnf); repeat ((first | refine Sw.o ?_ | refine B0 ?_); conv => whnf))
      · exact .of (by rw [hany, decide_eq_true h]; rfl)
      · (repeat ((first | refine N0 ?_ | refine A0 fun γ => ?_ | refine C1 ?_ | refine C2 ?_ | refine C3 ?_ | refine C4 ?_ | refine C5 ?_ | refine C6 ?_ | refine C7 ?_ | refine D0 fun γs => ?_ | refine A1 fun γs => ?_ | refine N2 ?_ | refine N3 ?_ | refine N1 ?_); ((conv => whnf); repeat ((first | refine Sw.o ?_ | refine B0 ?_); conv => whnf))))
        refine .intro <| W.of ⟨_, by omega, _, i + 1, hi', rfl, ?_, rfl, rfl⟩ ⟨rfl, rfl, rfl, rfl, trivial⟩ ⟨rfl, trivial⟩
        rw [hany, decide_eq_false h, Bool.false_or]
    · (have h2 := h; try simp only [LN] at h2)
      exact .of (by rw [hany, List.drop_eq_nil_of_le (by omega)]; rfl)
set_option maxRecDepth 100000 in
theorem use_ok (s : ByteArray) : PureCall Try.prog 34 [encS s] (encU ⟨s, 0, false⟩) := by
  refine pure_cp (E := E 0) T_ok (D_ok 0) [] Try.func34 rfl (by rfl) (Nat.le_of_ble_eq_true rfl) ?_
  ((conv => whnf); repeat ((first | refine Sw.o ?_ | refine B0 ?_); conv => whnf))
  (repeat ((first | refine N0 ?_ | refine A0 fun γ => ?_ | refine C1 ?_ | refine C2 ?_ | refine C3 ?_ | refine C4 ?_ | refine C5 ?_ | refine C6 ?_ | refine C7 ?_ | refine D0 fun γs => ?_ | refine A1 fun γs => ?_ | refine N2 ?_ | refine N3 ?_ | refine N1 ?_); ((conv => whnf); repeat ((first | refine Sw.o ?_ | refine B0 ?_); conv => whnf))))
  exact .of rfl
end Go.Proofs.Ytgeeklnokblokaa
namespace Go.Proofs.Ytgeeklnokblokaa
open Go Go.Fw
def lttI (n : Int) : Bool := decide (97 ≤ n ∧ n ≤ 122 ∨ 65 ≤ n ∧ n ≤ 90)
def digI (n : Int) : Bool := decide (48 ≤ n ∧ n ≤ 57)
set_option maxRecDepth 100000 in
theorem letter75_ok (n : Int) : PureCall Try.prog 75 [.val (.int .u8 n)] (encB (lttI n)) := by
  refine pure_cp (E := E 0) T_ok (D_ok 0) [] Try.func75 rfl (by rfl) (Nat.le_of_ble_eq_true rfl) ?_
  ((conv => whnf); repeat ((first | refine Sw.o ?_ | refine B0 ?_); conv => whnf))
  (repeat (any_goals (first | ((first | refine N0 ?_ | refine A0 fun γ => ?_ | refine C1 ?_ | refine C2 ?_ | refine C3 ?_ | refine C4 ?_ | refine C5 ?_ | refine C6 ?_ | refine C7 ?_ | refine D0 fun γs => ?_ | refine A1 fun γs => ?_ | refine N2 ?_ | refine N3 ?_ | refine N1 ?_); ((conv => whnf); repeat ((first | refine Sw.o ?_ | refine B0 ?_); conv => whnf))) | (refine CondP.dec (fun _ => ?_) (fun _ => ?_) <;> ((conv => whnf); repeat ((first | refine Sw.o ?_ | refine B0 ?_); conv => whnf))) | (refine CondP.intro (fun _ => ?_) (fun _ => ?_) <;> ((conv => whnf); repeat ((first | refine Sw.o ?_ | refine B0 ?_); conv => whnf))))))
  all_goals (refine .of ?_; show AV.val (Value.bool _) = AV.val (Value.bool _); congr 2; unfold lttI; first | exact (decide_eq_true (by omega)).symm | exact (decide_eq_false (by omega)).symm | exact decide_eq_decide.2 (by omega))
set_option maxRecDepth 100000 in
theorem letter85_ok (n : Int) : PureCall Try.prog 85 [.val (.int .u8 n)] (encB (lttI n)) := by
  refine pure_cp (E := E 0) T_ok (D_ok 0) [] Try.func85 rfl (by rfl) (Nat.le_of_ble_eq_true rfl) ?_
  ((conv => whnf); repeat ((first | refine Sw.o ?_ | refine B0 ?_); conv => whnf))
  (repeat (any_goals (first | ((first | refine N0 ?_ | refine A0 fun γ => ?_ | refine C1 ?_ | refine C2 ?_ | refine C3 ?_ | refine C4 ?_ | refine C5 ?_ | refine C6 ?_ | refine C7 ?_ | refine D0 fun γs => ?_ | refine A1 fun γs => ?_ | refine N2 ?_ | refine N3 ?_ | refine N1 ?_); ((conv => whnf); repeat ((first | refine Sw.o ?_ | refine B0 ?_); conv => whnf))) | (refine CondP.dec (fun _ => ?_) (fun _ => ?_) <;> ((conv => whnf); repeat ((first | refine Sw.o ?_ | refine B0 ?_); conv => whnf))) | (refine CondP.intro (fun _ => ?_) (fun _ => ?_) <;> ((conv => whnf); repeat ((first | refine Sw.o ?_ | refine B0 ?_); conv => whnf))))))
  all_goals (refine .of ?_; show AV.val (Value.bool _) = AV.val (Value.bool _); congr 2; unfold lttI; first | exact (decide_eq_true (by omega)).symm | exact (decide_eq_false (by omega)).symm | exact decide_eq_decide.2 (by omega))
set_option maxRecDepth 100000 in
theorem digit86_ok (n : Int) : PureCall Try.prog 86 [.val (.int .u8 n)] (encB (digI n)) := by
  refine pure_cp (E := E 0) T_ok (D_ok 0) [] Try.func86 rfl (by rfl) (Nat.le_of_ble_eq_true rfl) ?_
  ((conv => whnf); repeat ((first | refine Sw.o ?_ | refine B0 ?_); conv => whnf))
  (repeat (any_goals (first | ((first | refine N0 ?_ | refine A0 fun γ => ?_ | refine C1 ?_ | refine C2 ?_ | refine C3 ?_ | refine C4 ?_ | refine C5 ?_ | refine C6 ?_ | refine C7 ?_ | refine D0 fun γs => ?_ | refine A1 fun γs => ?_ | refine N2 ?_ | refine N3 ?_ | refine N1 ?_); ((conv => whnf); repeat ((first | refine Sw.o ?_ | refine B0 ?_); conv => whnf))) | (refine CondP.dec (fun _ => ?_) (fun _ => ?_) <;> ((conv => whnf); repeat ((first | refine Sw.o ?_ | refine B0 ?_); conv => whnf))) | (refine CondP.intro (fun _ => ?_) (fun _ => ?_) <;> ((conv => whnf); repeat ((first | refine Sw.o ?_ | refine B0 ?_); conv => whnf))))))
  all_goals (refine .of ?_; show AV.val (Value.bool _) = AV.val (Value.bool _); congr 2; unfold digI; first | exact (decide_eq_true (by omega)).symm | exact (decide_eq_false (by omega)).symm | exact decide_eq_decide.2 (by omega))
theorem vrs2 {κ : KM} {w : World} {N : Nat → Prop} {a b : Value} {vs : Array Value} (h : VRs κ w N [.val a, .val b] vs) : vs = #[a, b] := by
  obtain ⟨hl, hv⟩ := h
  obtain ⟨l⟩ := vs
  rcases l with _ | ⟨x, _ | ⟨y, _ | ⟨z, r⟩⟩⟩ <;> simp at hl
  have h0 := hv 0 (by simp) (by simp)
  have h1 := hv 1 (by simp) (by simp)
  simp at h0 h1
  cases h0; cases h1; rfl
def idxB (s : ByteArray) (c : UInt8) : Int := match (List.range s.size).find? fun i => s[i]! == c with
  | some i => i
  | none => -1
theorem ext95 (s : ByteArray) (n : Nat) (h : n < 256) : ExtCall Try.prog 95 [encS s, .val (.int .u8 n)] (.int .i64 (idxB s (UInt8.ofNat n))) := by
  refine ⟨rfl, fun κ w N vs hv => ?_⟩
  rw [vrs2 hv]
  have h1 : Try.prog.funcs[95]? = some Try.f95 := Try.func95
  have h2 : (Try.f95.name == "runtime.NumGoroutine") = false := by kernel_rfl
  have h3 : Try.f95.body.isNone = true := by kernel_rfl
  have h4 : Extern.findNext Try.f95 = none := by kernel_rfl
  have h5 : Extern.find Try.f95 = some Extern.BytealgIndexByte.indexByte := by kernel_rfl
  simp only [callFunc, Sem.run_bind, run_program, Result.andThen_ok, h1, h2, h3, h4, h5, run_mark, if_true, Bool.false_eq_true, if_false]
  have e : (Extern.BytealgIndexByte.indexByte #[.string s, .int .u8 n]).run Try.prog w = .ok (.int .i64 (idxB s (UInt8.ofNat n))) w := by
    change Sem.run Try.prog (do
      let b ← Extern.Bytes.bytesOf (.string s)
      let c ← Extern.Bytes.asByte (.int .u8 n)
      match (List.range b.size).find? fun i => b[i]! == c with
      | some i => pure (goInt i)
      | none => pure (goInt (-1))) w = _
    simp only [Extern.Bytes.bytesOf, Extern.Bytes.asByte, Sem.run_bind, Sem.run_pure, Result.andThen_ok, Int.toNat_natCast, idxB]
    rw [show n.toUInt8 = UInt8.ofNat n from rfl]
    cases (List.range s.size).find? fun i => s[i]! == UInt8.ofNat n <;> simp [goInt, Sem.run_pure]
  rw [e]; rfl
theorem ext93 (a b : ByteArray) : ExtCall Try.prog 93 [encS a, encS b] (.int .i64 (Lib.compareBytes a.data.toList b.data.toList)) := by
  refine ⟨rfl, fun κ w N vs hv => ?_⟩
  rw [vrs2 hv]
  have h1 : Try.prog.funcs[93]? = some Try.f93 := Try.func93
  have h2 : (Try.f93.name == "runtime.NumGoroutine") = false := by kernel_rfl
  have h3 : Try.f93.body.isNone = true := by kernel_rfl
  have h4 : Extern.findNext Try.f93 = none := by kernel_rfl
  have h5 : Extern.find Try.f93 = some Extern.BytealgCompare.compare := by kernel_rfl
  simp only [callFunc, Sem.run_bind, run_program, Result.andThen_ok, h1, h2, h3, h4, h5, run_mark, if_true, Bool.false_eq_true, if_false]
  rw [show (Extern.BytealgCompare.compare #[.string a, .string b]).run Try.prog w = _ from Lib.run_compareString a b w]; rfl
end Go.Proofs.Ytgeeklnokblokaa
namespace Go.Proofs.Ytgeeklnokblokaa
open Go Go.Fw
def cmpS (a b : ByteArray) : Int := Lib.compareBytes a.data.toList b.data.toList
set_option maxRecDepth 100000 in
theorem cmp84_ok (a b : ByteArray) : PureCall Try.prog 84 [encS a, encS b] (encI (cmpS a b)) := by
  refine pure_cp (E := E 0) T_ok (D_ok 0) [] Try.func84 rfl (by rfl) (Nat.le_of_ble_eq_true rfl) ?_
  ((conv => whnf); repeat ((first | refine Sw.o ?_ | refine B0 ?_); conv => whnf))
  (repeat ((first | refine N0 ?_ | refine A0 fun γ => ?_ | refine C1 ?_ | refine C2 ?_ | refine C3 ?_ | refine C4 ?_ | refine C5 ?_ | refine C6 ?_ | refine C7 ?_ | refine D0 fun γs => ?_ | refine A1 fun γs => ?_ | refine N2 ?_ | refine N3 ?_ | refine N1 ?_); ((conv => whnf); repeat ((first | refine Sw.o ?_ | refine B0 ?_); conv => whnf))))
  refine CallP.ext _ (ext93 a b) ?_
  ((conv => whnf); repeat ((first | refine Sw.o ?_ | refine B0 ?_); conv => whnf))
  (repeat ((first | refine N0 ?_ | refine A0 fun γ => ?_ | refine C1 ?_ | refine C2 ?_ | refine C3 ?_ | refine C4 ?_ | refine C5 ?_ | refine C6 ?_ | refine C7 ?_ | refine D0 fun γs => ?_ | refine A1 fun γs => ?_ | refine N2 ?_ | refine N3 ?_ | refine N1 ?_); ((conv => whnf); repeat ((first | refine Sw.o ?_ | refine B0 ?_); conv => whnf))))
  exact .of rfl
set_option maxRecDepth 100000 in
theorem cmp77_ok (a b : ByteArray) : PureCall Try.prog 77 [encS a, encS b] (encI (cmpS a b)) := by
  refine pure_cp (E := E 0) T_ok (D_ok 0) [] Try.func77 rfl (by rfl) (Nat.le_of_ble_eq_true rfl) ?_
  ((conv => whnf); repeat ((first | refine Sw.o ?_ | refine B0 ?_); conv => whnf))
  (repeat ((first | refine N0 ?_ | refine A0 fun γ => ?_ | refine C1 ?_ | refine C2 ?_ | refine C3 ?_ | refine C4 ?_ | refine C5 ?_ | refine C6 ?_ | refine C7 ?_ | refine D0 fun γs => ?_ | refine A1 fun γs => ?_ | refine N2 ?_ | refine N3 ?_ | refine N1 ?_); ((conv => whnf); repeat ((first | refine Sw.o ?_ | refine B0 ?_); conv => whnf))))
  refine CallP.flat [] _ c84 (cmp84_ok a b) rfl ?_
  ((conv => whnf); repeat ((first | refine Sw.o ?_ | refine B0 ?_); conv => whnf))
  (repeat ((first | refine N0 ?_ | refine A0 fun γ => ?_ | refine C1 ?_ | refine C2 ?_ | refine C3 ?_ | refine C4 ?_ | refine C5 ?_ | refine C6 ?_ | refine C7 ?_ | refine D0 fun γs => ?_ | refine A1 fun γs => ?_ | refine N2 ?_ | refine N3 ?_ | refine N1 ?_); ((conv => whnf); repeat ((first | refine Sw.o ?_ | refine B0 ?_); conv => whnf))))
  exact .of rfl
set_option maxRecDepth 100000 in
theorem idx94_ok (s : ByteArray) (n : Nat) (h : n < 256) : PureCall Try.prog 94 [encS s, .val (.int .u8 n)] (encI (idxB s (UInt8.ofNat n))) := by
  refine pure_cp (E := E 0) T_ok (D_ok 0) [] Try.func94 rfl (by rfl) (Nat.le_of_ble_eq_true rfl) ?_
  ((conv => whnf); repeat ((first | refine Sw.o ?_ | refine B0 ?_); conv => whnf))
  (repeat ((first | refine N0 ?_ | refine A0 fun γ => ?_ | refine C1 ?_ | refine C2 ?_ | refine C3 ?_ | refine C4 ?_ | refine C5 ?_ | refine C6 ?_ | refine C7 ?_ | refine D0 fun γs => ?_ | refine A1 fun γs => ?_ | refine N2 ?_ | refine N3 ?_ | refine N1 ?_); ((conv => whnf); repeat ((first | refine Sw.o ?_ | refine B0 ?_); conv => whnf))))
  refine CallP.ext _ (ext95 s n h) ?_
  ((conv => whnf); repeat ((first | refine Sw.o ?_ | refine B0 ?_); conv => whnf))
  (repeat ((first | refine N0 ?_ | refine A0 fun γ => ?_ | refine C1 ?_ | refine C2 ?_ | refine C3 ?_ | refine C4 ?_ | refine C5 ?_ | refine C6 ?_ | refine C7 ?_ | refine D0 fun γs => ?_ | refine A1 fun γs => ?_ | refine N2 ?_ | refine N3 ?_ | refine N1 ?_); ((conv => whnf); repeat ((first | refine Sw.o ?_ | refine B0 ?_); conv => whnf))))
  exact .of rfl
set_option maxRecDepth 100000 in
theorem idx89_ok (s : ByteArray) (n : Nat) (h : n < 256) : PureCall Try.prog 89 [encS s, .val (.int .u8 n)] (encI (idxB s (UInt8.ofNat n))) := by
  refine pure_cp (E := E 0) T_ok (D_ok 0) [] Try.func89 rfl (by rfl) (Nat.le_of_ble_eq_true rfl) ?_
  ((conv => whnf); repeat ((first | refine Sw.o ?_ | refine B0 ?_); conv => whnf))
  (repeat ((first | refine N0 ?_ | refine A0 fun γ => ?_ | refine C1 ?_ | refine C2 ?_ | refine C3 ?_ | refine C4 ?_ | refine C5 ?_ | refine C6 ?_ | refine C7 ?_ | refine D0 fun γs => ?_ | refine A1 fun γs => ?_ | refine N2 ?_ | refine N3 ?_ | refine N1 ?_); ((conv => whnf); repeat ((first | refine Sw.o ?_ | refine B0 ?_); conv => whnf))))
  refine CallP.flat [] _ c94 (idx94_ok s n h) rfl ?_
  ((conv => whnf); repeat ((first | refine Sw.o ?_ | refine B0 ?_); conv => whnf))
  (repeat ((first | refine N0 ?_ | refine A0 fun γ => ?_ | refine C1 ?_ | refine C2 ?_ | refine C3 ?_ | refine C4 ?_ | refine C5 ?_ | refine C6 ?_ | refine C7 ?_ | refine D0 fun γs => ?_ | refine A1 fun γs => ?_ | refine N2 ?_ | refine N3 ?_ | refine N1 ?_); ((conv => whnf); repeat ((first | refine Sw.o ?_ | refine B0 ?_); conv => whnf))))
  exact .of rfl
set_option maxRecDepth 100000 in
theorem valid90_ok (n : Nat) (h : n < 256) : PureCall Try.prog 90 [.val (.int .i32 n)] (encB true) := by
  refine pure_cp (E := E 0) T_ok (D_ok 0) [] Try.func90 rfl (by rfl) (Nat.le_of_ble_eq_true rfl) ?_
  ((conv => whnf); repeat ((first | refine Sw.o ?_ | refine B0 ?_); conv => whnf))
  (repeat ((first | refine N0 ?_ | refine A0 fun γ => ?_ | with_reducible refine C1 ?_ | with_reducible refine C2 ?_ | with_reducible refine C3 ?_ | refine C8 ?_ | refine C9 ?_ | refine C6 ?_ | refine C7 ?_ | refine A1 fun γs => ?_ | refine N2 ?_ | refine N3 ?_ | refine N1 ?_); ((conv => whnf); repeat ((first | refine Sw.o ?_ | refine B0 ?_); conv => whnf))))
  exact .of rfl
def six : ByteArray := ⟨#[95, 46, 91, 93, 44, 39]⟩
theorem runeS2 (n : Nat) (h1 : ¬ n < 128) (h2 : n < 256) : ∃ b0 b1 : UInt8, runeS n = ⟨#[b0, b1]⟩ ∧ 128 ≤ b1.toNat := by
  refine ⟨UInt8.ofNat (192 + n / 64), UInt8.ofNat (128 + n % 64), ?_, by simp; omega⟩
  unfold runeS Utf8.encode
  have hv : Utf8.valid (n : Int) = true := by unfold Utf8.valid; simp; omega
  simp only [hv, if_true, Int.toNat_natCast]
  rw [if_neg (by omega), if_pos (by omega)]
theorem idx_none (b : UInt8) (h : 128 ≤ b.toNat) : idxB (six.extract 2 6) b = -1 := by
  unfold idxB
  have : (List.range (six.extract 2 6).size).find? (fun i => (six.extract 2 6)[i]! == b) = none := by
    rw [List.find?_eq_none]
    intro i hi
    have hs : (six.extract 2 6).size = 4 := by rfl
    rw [hs, List.mem_range] at hi
    have hb : ∀ c : UInt8, c.toNat < 128 → ¬ (c == b) = true := fun c hc h' => by
      have := eq_of_beq h'
      subst this; omega
    rcases i with _ | _ | _ | _ | i
    · exact hb _ (by decide)
    · exact hb _ (by decide)
    · exact hb _ (by decide)
    · exact hb _ (by decide)
    · omega
  rw [this]
set_option maxRecDepth 100000 in
theorem rune83_ok (n : Nat) (h : n < 256) : PureCall Try.prog 83 [encS six, .val (.int .i32 n)] (encI (if n < 128 then idxB six (UInt8.ofNat n) else -1)) := by
  refine pure_cp (E := E 0) T_ok (D_ok 0) [] Try.func83 rfl (by rfl) (Nat.le_of_ble_eq_true rfl) ?_
  ((conv => whnf); repeat ((first | refine Sw.o ?_ | refine B0 ?_); conv => whnf))
  by_cases h1 : n < 128
  · rw [if_pos h1]
    (repeat ((first | refine N0 ?_ | refine A0 fun γ => ?_ | with_reducible refine C1 ?_ | with_reducible refine C2 ?_ | with_reducible refine C3 ?_ | refine C8 ?_ | refine C9 ?_ | refine C6 ?_ | refine C7 ?_ | refine A1 fun γs => ?_ | refine N2 ?_ | refine N3 ?_ | refine N1 ?_); ((conv => whnf); repeat ((first | refine Sw.o ?_ | refine B0 ?_); conv => whnf))))
    refine CallP.flat [] _ c89 (idx89_ok six n h) rfl ?_
    ((conv => whnf); repeat ((first | refine Sw.o ?_ | refine B0 ?_); conv => whnf))
    (repeat ((first | refine N0 ?_ | refine A0 fun γ => ?_ | with_reducible refine C1 ?_ | with_reducible refine C2 ?_ | with_reducible refine C3 ?_ | refine C8 ?_ | refine C9 ?_ | refine C6 ?_ | refine C7 ?_ | refine A1 fun γs => ?_ | refine N2 ?_ | refine N3 ?_ | refine N1 ?_); ((conv => whnf); repeat ((first | refine Sw.o ?_ | refine B0 ?_); conv => whnf))))
    exact .of rfl
  · rw [if_neg h1]
    (repeat ((first | refine N0 ?_ | refine A0 fun γ => ?_ | with_reducible refine C1 ?_ | with_reducible refine C2 ?_ | with_reducible refine C3 ?_ | refine C8 ?_ | refine C9 ?_ | refine C6 ?_ | refine C7 ?_ | refine A1 fun γs => ?_ | refine N2 ?_ | refine N3 ?_ | refine N1 ?_); ((conv => whnf); repeat ((first | refine Sw.o ?_ | refine B0 ?_); conv => whnf))))
    refine CallP.flat [] _ c90 (valid90_ok n h) rfl ?_
    ((conv => whnf); repeat ((first | refine Sw.o ?_ | refine B0 ?_); conv => whnf))
    (repeat ((first | refine N0 ?_ | refine A0 fun γ => ?_ | with_reducible refine C1 ?_ | with_reducible refine C2 ?_ | with_reducible refine C3 ?_ | refine C8 ?_ | refine C9 ?_ | refine C6 ?_ | refine C7 ?_ | refine A1 fun γs => ?_ | refine N2 ?_ | refine N3 ?_ | refine N1 ?_); ((conv => whnf); repeat ((first | refine Sw.o ?_ | refine B0 ?_); conv => whnf))))
    obtain ⟨b0, b1, e, hb⟩ := runeS2 n h1 h
    have hsz : (⟨#[b0, b1]⟩ : ByteArray).size = 2 := rfl
    have h6 : six.size = 6 := rfl
    simp only [e, hsz, show ((2 : Nat) : Int) - 1 = 1 from rfl]
    ((conv => whnf); repeat ((first | refine Sw.o ?_ | refine B0 ?_); conv => whnf))
    (repeat ((first | refine N0 ?_ | refine A0 fun γ => ?_ | with_reducible refine C1 ?_ | with_reducible refine C2 ?_ | with_reducible refine C3 ?_ | refine C8 ?_ | refine C9 ?_ | refine C6 ?_ | refine C7 ?_ | refine A1 fun γs => ?_ | refine N2 ?_ | refine N3 ?_ | refine N1 ?_); ((conv => whnf); repeat ((first | refine Sw.o ?_ | refine B0 ?_); conv => whnf))))
    refine LoopP.intro (fun k σ H => k = 0 ∧ σ = fr [(0, encS six), (1, .val (.int .i32 n)), (7, encS ⟨#[b0, b1]⟩), (8, encI 1), (9, encI 1), (10, encI 0)] ∧ H = hp []) ?_ ?_
    · exact .intro <| W.of ⟨0, rfl, rfl, rfl⟩ ⟨rfl, rfl, rfl, rfl, rfl, rfl, trivial⟩ trivial
    · rintro k σ H ⟨rfl, rfl, rfl⟩
      ((conv => whnf); repeat ((first | refine Sw.o ?_ | refine B0 ?_); conv => whnf))
      (repeat ((first | refine N0 ?_ | refine A0 fun γ => ?_ | with_reducible refine C1 ?_ | with_reducible refine C2 ?_ | with_reducible refine C3 ?_ | refine C8 ?_ | refine C9 ?_ | refine C6 ?_ | refine C7 ?_ | refine A1 fun γs => ?_ | refine N2 ?_ | refine N3 ?_ | refine N1 ?_); ((conv => whnf); repeat ((first | refine Sw.o ?_ | refine B0 ?_); conv => whnf))))
      refine DrawH.intro T_ok fun γs => ?_
      ((conv => whnf); repeat ((first | refine Sw.o ?_ | refine B0 ?_); conv => whnf))
      (repeat ((first | refine N0 ?_ | refine A0 fun γ => ?_ | with_reducible refine C1 ?_ | with_reducible refine C2 ?_ | with_reducible refine C3 ?_ | refine C8 ?_ | refine C9 ?_ | refine C6 ?_ | refine C7 ?_ | refine A1 fun γs => ?_ | refine N2 ?_ | refine N3 ?_ | refine N1 ?_); ((conv => whnf); repeat ((first | refine Sw.o ?_ | refine B0 ?_); conv => whnf))))
      have hb1 : byteAt ⟨#[b0, b1]⟩ (Int.toNat 1) = (b1.toNat : Int) := rfl
      have hs1 : byteAt six (Int.toNat 1) = 46 := rfl
      refine CondP.neg (by rw [hb1, hs1]; omega) ?_
      ((conv => whnf); repeat ((first | refine Sw.o ?_ | refine B0 ?_); conv => whnf))
      (repeat ((first | refine N0 ?_ | refine A0 fun γ => ?_ | with_reducible refine C1 ?_ | with_reducible refine C2 ?_ | with_reducible refine C3 ?_ | refine C8 ?_ | refine C9 ?_ | refine C6 ?_ | refine C7 ?_ | refine A1 fun γs => ?_ | refine N2 ?_ | refine N3 ?_ | refine N1 ?_); ((conv => whnf); repeat ((first | refine Sw.o ?_ | refine B0 ?_); conv => whnf))))
      refine DrawH.intro T_ok fun γs => ?_
      ((conv => whnf); repeat ((first | refine Sw.o ?_ | refine B0 ?_); conv => whnf))
      (repeat ((first | refine N0 ?_ | refine A0 fun γ => ?_ | with_reducible refine C1 ?_ | with_reducible refine C2 ?_ | with_reducible refine C3 ?_ | refine C8 ?_ | refine C9 ?_ | refine C6 ?_ | refine C7 ?_ | refine A1 fun γs => ?_ | refine N2 ?_ | refine N3 ?_ | refine N1 ?_); ((conv => whnf); repeat ((first | refine Sw.o ?_ | refine B0 ?_); conv => whnf))))
      refine CallG.intro (encI (-1)) c89 ?_ ?_
      · have := idx89_ok (six.extract 2 6) b1.toNat b1.toNat_lt
        rw [UInt8.ofNat_toNat, idx_none b1 hb] at this
        exact this
      ((conv => whnf); repeat ((first | refine Sw.o ?_ | refine B0 ?_); conv => whnf))
      (repeat ((first | refine N0 ?_ | refine A0 fun γ => ?_ | with_reducible refine C1 ?_ | with_reducible refine C2 ?_ | with_reducible refine C3 ?_ | refine C8 ?_ | refine C9 ?_ | refine C6 ?_ | refine C7 ?_ | refine A1 fun γs => ?_ | refine N2 ?_ | refine N3 ?_ | refine N1 ?_); ((conv => whnf); repeat ((first | refine Sw.o ?_ | refine B0 ?_); conv => whnf))))
      exact .of rfl
set_option maxRecDepth 100000 in
theorem rune76_ok (n : Nat) (h : n < 256) : PureCall Try.prog 76 [encS six, .val (.int .i32 n)] (encB (decide (n < 128 ∧ 0 ≤ idxB six (UInt8.ofNat n)))) := by
  refine pure_cp (E := E 0) T_ok (D_ok 0) [] Try.func76 rfl (by rfl) (Nat.le_of_ble_eq_true rfl) ?_
  ((conv => whnf); repeat ((first | refine Sw.o ?_ | refine B0 ?_); conv => whnf))
  (repeat ((first | refine N0 ?_ | refine A0 fun γ => ?_ | refine C1 ?_ | refine C2 ?_ | refine C3 ?_ | refine C4 ?_ | refine C5 ?_ | refine C6 ?_ | refine C7 ?_ | refine D0 fun γs => ?_ | refine A1 fun γs => ?_ | refine N2 ?_ | refine N3 ?_ | refine N1 ?_); ((conv => whnf); repeat ((first | refine Sw.o ?_ | refine B0 ?_); conv => whnf))))
  refine CallP.flat [] _ c83 (rune83_ok n h) rfl ?_
  ((conv => whnf); repeat ((first | refine Sw.o ?_ | refine B0 ?_); conv => whnf))
  (repeat ((first | refine N0 ?_ | refine A0 fun γ => ?_ | refine C1 ?_ | refine C2 ?_ | refine C3 ?_ | refine C4 ?_ | refine C5 ?_ | refine C6 ?_ | refine C7 ?_ | refine D0 fun γs => ?_ | refine A1 fun γs => ?_ | refine N2 ?_ | refine N3 ?_ | refine N1 ?_); ((conv => whnf); repeat ((first | refine Sw.o ?_ | refine B0 ?_); conv => whnf))))
  refine .of ?_
  show AV.val (Value.bool (decide (0 ≤ if n < 128 then idxB six (UInt8.ofNat n) else -1))) = AV.val (Value.bool _)
  congr 2
  exact decide_eq_decide.2 (by by_cases h1 : n < 128 <;> simp [h1])
end Go.Proofs.Ytgeeklnokblokaa
namespace Go.Proofs.Ytgeeklnokblokaa
open Go Go.Fw
def sigI (n : Int) : Bool := decide (n = 95 ∨ n = 46 ∨ n = 91 ∨ n = 93 ∨ n = 44 ∨ n = 39)
def okI (n : Int) : Bool := lttI n || digI n || sigI n
def allOk (s : ByteArray) : Nat → Nat → Bool
  | _, 0 => true
  | i, k + 1 => okI (byteAt s i) && allOk s (i + 1) k
def nameF (s : ByteArray) : Bool := decide (1 ≤ s.size ∧ s.size ≤ 80) && lttI (byteAt s 0) && allOk s 0 s.size
theorem byteAt_lt (s : ByteArray) (i : Nat) : 0 ≤ byteAt s i ∧ byteAt s i < 256 := by
  unfold byteAt
  split
  · have := (s[i]).toNat_lt; omega
  · omega
theorem six_ok (n : Nat) (h : n < 256) : decide (n < 128 ∧ 0 ≤ idxB six (UInt8.ofNat n)) = sigI n := by
  have key : ((List.range 256).all fun n => decide (n < 128 ∧ 0 ≤ idxB six (UInt8.ofNat n)) == sigI n) = true := by kernel_rfl
  exact eq_of_beq (List.all_eq_true.1 key n (List.mem_range.2 h))
set_option maxRecDepth 100000 in
theorem name61_ok (s : ByteArray) (hs : s.size ≤ 2^62) : PureCall Try.prog 61 [encS s] (encB (nameF s)) := by
  refine pure_cp (E := E 0) T_ok (D_ok 0) [] Try.func61 rfl (by rfl) (Nat.le_of_ble_eq_true rfl) ?_
  generalize hF : nameF s = F
  unfold nameF at hF
  ((conv => whnf); repeat ((first | refine Sw.o ?_ | refine B0 ?_); conv => whnf))
  (repeat ((first | refine N0 ?_ | refine A0 fun γ => ?_ | with_reducible refine C1 ?_ | with_reducible refine C2 ?_ | with_reducible refine C3 ?_ | refine C8 ?_ | refine C9 ?_ | refine C6 ?_ | refine C7 ?_ | refine A1 fun γs => ?_ | refine N2 ?_ | refine N3 ?_ | refine N1 ?_); ((conv => whnf); repeat ((first | refine Sw.o ?_ | refine B0 ?_); conv => whnf))))
  refine CondP.dec (fun h0 => ?_) (fun h0 => ?_) <;> ((conv => whnf); repeat ((first | refine Sw.o ?_ | refine B0 ?_); conv => whnf))
  · (repeat ((first | refine N0 ?_ | refine A0 fun γ => ?_ | with_reducible refine C1 ?_ | with_reducible refine C2 ?_ | with_reducible refine C3 ?_ | refine C8 ?_ | refine C9 ?_ | refine C6 ?_ | refine C7 ?_ | refine A1 fun γs => ?_ | refine N2 ?_ | refine N3 ?_ | refine N1 ?_); ((conv => whnf); repeat ((first | refine Sw.o ?_ | refine B0 ?_); conv => whnf))))
    refine .of ?_
    rw [← hF, h0]; rfl
  · have hpos : 1 ≤ s.size := by
      rcases Nat.eq_zero_or_pos s.size with h | h
      · exact absurd (ByteArray.ext (Array.eq_empty_of_size_eq_zero h)) h0
      · exact h
    (repeat ((first | refine N0 ?_ | refine A0 fun γ => ?_ | with_reducible refine C1 ?_ | with_reducible refine C2 ?_ | with_reducible refine C3 ?_ | refine C8 ?_ | refine C9 ?_ | refine C6 ?_ | refine C7 ?_ | refine A1 fun γs => ?_ | refine N2 ?_ | refine N3 ?_ | refine N1 ?_); ((conv => whnf); repeat ((first | refine Sw.o ?_ | refine B0 ?_); conv => whnf))))
    refine CondP.dec (fun h1 => ?_) (fun h1 => ?_) <;> ((conv => whnf); repeat ((first | refine Sw.o ?_ | refine B0 ?_); conv => whnf))
    · (repeat ((first | refine N0 ?_ | refine A0 fun γ => ?_ | with_reducible refine C1 ?_ | with_reducible refine C2 ?_ | with_reducible refine C3 ?_ | refine C8 ?_ | refine C9 ?_ | refine C6 ?_ | refine C7 ?_ | refine A1 fun γs => ?_ | refine N2 ?_ | refine N3 ?_ | refine N1 ?_); ((conv => whnf); repeat ((first | refine Sw.o ?_ | refine B0 ?_); conv => whnf))))
      refine .of ?_
      rw [← hF, decide_eq_false (by omega)]; rfl
    · rw [decide_eq_true (by omega), Bool.true_and] at hF
      (repeat ((first | refine N0 ?_ | refine A0 fun γ => ?_ | with_reducible refine C1 ?_ | with_reducible refine C2 ?_ | with_reducible refine C3 ?_ | refine C8 ?_ | refine C9 ?_ | refine C6 ?_ | refine C7 ?_ | refine A1 fun γs => ?_ | refine N2 ?_ | refine N3 ?_ | refine N1 ?_); ((conv => whnf); repeat ((first | refine Sw.o ?_ | refine B0 ?_); conv => whnf))))
      refine CallP.flat [] (encB (lttI (byteAt s 0))) c75 (letter75_ok (byteAt s 0)) rfl ?_
      ((conv => whnf); repeat ((first | refine Sw.o ?_ | refine B0 ?_); conv => whnf))
      (repeat ((first | refine N0 ?_ | refine A0 fun γ => ?_ | with_reducible refine C1 ?_ | with_reducible refine C2 ?_ | with_reducible refine C3 ?_ | refine C8 ?_ | refine C9 ?_ | refine C6 ?_ | refine C7 ?_ | refine A1 fun γs => ?_ | refine N2 ?_ | refine N3 ?_ | refine N1 ?_); ((conv => whnf); repeat ((first | refine Sw.o ?_ | refine B0 ?_); conv => whnf))))
      refine CondP.intro (fun h2 => ?_) (fun h2 => ?_) <;> ((conv => whnf); repeat ((first | refine Sw.o ?_ | refine B0 ?_); conv => whnf))
      · rw [h2, Bool.true_and] at hF
        (repeat ((first | refine N0 ?_ | refine A0 fun γ => ?_ | with_reducible refine C1 ?_ | with_reducible refine C2 ?_ | with_reducible refine C3 ?_ | refine C8 ?_ | refine C9 ?_ | refine C6 ?_ | refine C7 ?_ | refine A1 fun γs => ?_ | refine N2 ?_ | refine N3 ?_ | refine N1 ?_); ((conv => whnf); repeat ((first | refine Sw.o ?_ | refine B0 ?_); conv => whnf))))
        refine LoopP.intro (fun k σ H => ∃ i, i ≤ s.size ∧ k = s.size - i ∧ allOk s i (s.size - i) = F ∧ σ = fr [(0, encS s), (3, .fn (.func 75) [] []), (21, encI s.size), (22, encI i)] ∧ H = hp []) ?_ ?_
        · exact .intro <| W.of ⟨_, 0, Nat.zero_le _, rfl, hF, rfl, rfl⟩ ⟨rfl, rfl, rfl, rfl, trivial⟩ trivial
        · rintro k σ H ⟨i, hi, rfl, hO, rfl, rfl⟩
          ((conv => whnf); repeat ((first | refine Sw.o ?_ | refine B0 ?_); conv => whnf))
          (repeat ((first | refine N0 ?_ | refine A0 fun γ => ?_ | with_reducible refine C1 ?_ | with_reducible refine C2 ?_ | with_reducible refine C3 ?_ | refine C8 ?_ | refine C9 ?_ | refine C6 ?_ | refine C7 ?_ | refine A1 fun γs => ?_ | refine N2 ?_ | refine N3 ?_ | refine N1 ?_); ((conv => whnf); repeat ((first | refine Sw.o ?_ | refine B0 ?_); conv => whnf))))
          refine CondP.dec (fun h3 => ?_) (fun h3 => ?_) <;> ((conv => whnf); repeat ((first | refine Sw.o ?_ | refine B0 ?_); conv => whnf))
          · have hi' : i < s.size := by omega
            have hc := byteAt_lt s i
            rw [show s.size - i = (s.size - (i + 1)) + 1 by omega] at hO
            unfold allOk okI at hO
            (repeat ((first | refine N0 ?_ | refine A0 fun γ => ?_ | with_reducible refine C1 ?_ | with_reducible refine C2 ?_ | with_reducible refine C3 ?_ | refine C8 ?_ | refine C9 ?_ | refine C6 ?_ | refine C7 ?_ | refine A1 fun γs => ?_ | refine N2 ?_ | refine N3 ?_ | refine N1 ?_); ((conv => whnf); repeat ((first | refine Sw.o ?_ | refine B0 ?_); conv => whnf))))
            simp only [Int.toNat_natCast]
            generalize byteAt s i = c at hc hO ⊢
            obtain ⟨m, rfl⟩ : ∃ m : Nat, c = m := ⟨c.toNat, by omega⟩
            refine CallP.flat [] (encB (lttI m)) c75 (letter75_ok m) rfl ?_
            ((conv => whnf); repeat ((first | refine Sw.o ?_ | refine B0 ?_); conv => whnf))
            (repeat ((first | refine N0 ?_ | refine A0 fun γ => ?_ | with_reducible refine C1 ?_ | with_reducible refine C2 ?_ | with_reducible refine C3 ?_ | refine C8 ?_ | refine C9 ?_ | refine C6 ?_ | refine C7 ?_ | refine A1 fun γs => ?_ | refine N2 ?_ | refine N3 ?_ | refine N1 ?_); ((conv => whnf); repeat ((first | refine Sw.o ?_ | refine B0 ?_); conv => whnf))))
            refine CondP.intro (fun h4 => ?_) (fun h4 => ?_) <;> ((conv => whnf); repeat ((first | refine Sw.o ?_ | refine B0 ?_); conv => whnf))
            · rw [h4, Bool.true_or, Bool.true_or, Bool.true_and] at hO
              (repeat ((first | refine N0 ?_ | refine A0 fun γ => ?_ | with_reducible refine C1 ?_ | with_reducible refine C2 ?_ | with_reducible refine C3 ?_ | refine C8 ?_ | refine C9 ?_ | refine C6 ?_ | refine C7 ?_ | refine A1 fun γs => ?_ | refine N2 ?_ | refine N3 ?_ | refine N1 ?_); ((conv => whnf); repeat ((first | refine Sw.o ?_ | refine B0 ?_); conv => whnf))))
              exact .intro <| W.of ⟨_, by omega, i + 1, hi', rfl, hO, rfl, rfl⟩ ⟨rfl, rfl, rfl, rfl, trivial⟩ trivial
            · rw [h4, Bool.false_or] at hO
              (repeat ((first | refine N0 ?_ | refine A0 fun γ => ?_ | with_reducible refine C1 ?_ | with_reducible refine C2 ?_ | with_reducible refine C3 ?_ | refine C8 ?_ | refine C9 ?_ | refine C6 ?_ | refine C7 ?_ | refine A1 fun γs => ?_ | refine N2 ?_ | refine N3 ?_ | refine N1 ?_); ((conv => whnf); repeat ((first | refine Sw.o ?_ | refine B0 ?_); conv => whnf))))
              refine CondP.dec (fun h5 => ?_) (fun h5 => ?_) <;> ((conv => whnf); repeat ((first | refine Sw.o ?_ | refine B0 ?_); conv => whnf))
              · have hd : digI m = false := by unfold digI; exact decide_eq_false (by omega)
                rw [hd, Bool.false_or] at hO
                (repeat ((first | refine N0 ?_ | refine A0 fun γ => ?_ | with_reducible refine C1 ?_ | with_reducible refine C2 ?_ | with_reducible refine C3 ?_ | refine C8 ?_ | refine C9 ?_ | refine C6 ?_ | refine C7 ?_ | refine A1 fun γs => ?_ | refine N2 ?_ | refine N3 ?_ | refine N1 ?_); ((conv => whnf); repeat ((first | refine Sw.o ?_ | refine B0 ?_); conv => whnf))))
                refine CallP.flat [] _ c76 (rune76_ok m (by omega)) rfl ?_
                rw [six_ok m (by omega)]
                ((conv => whnf); repeat ((first | refine Sw.o ?_ | refine B0 ?_); conv => whnf))
                (repeat ((first | refine N0 ?_ | refine A0 fun γ => ?_ | with_reducible refine C1 ?_ | with_reducible refine C2 ?_ | with_reducible refine C3 ?_ | refine C8 ?_ | refine C9 ?_ | refine C6 ?_ | refine C7 ?_ | refine A1 fun γs => ?_ | refine N2 ?_ | refine N3 ?_ | refine N1 ?_); ((conv => whnf); repeat ((first | refine Sw.o ?_ | refine B0 ?_); conv => whnf))))
                refine CondP.intro (fun h6 => ?_) (fun h6 => ?_) <;> ((conv => whnf); repeat ((first | refine Sw.o ?_ | refine B0 ?_); conv => whnf))
                · rw [h6, Bool.true_and] at hO
                  (repeat ((first | refine N0 ?_ | refine A0 fun γ => ?_ | with_reducible refine C1 ?_ | with_reducible refine C2 ?_ | with_reducible refine C3 ?_ | refine C8 ?_ | refine C9 ?_ | refine C6 ?_ | refine C7 ?_ | refine A1 fun γs => ?_ | refine N2 ?_ | refine N3 ?_ | refine N1 ?_); ((conv => whnf); repeat ((first | refine Sw.o ?_ | refine B0 ?_); conv => whnf))))
                  exact .intro <| W.of ⟨_, by omega, i + 1, hi', rfl, hO, rfl, rfl⟩ ⟨rfl, rfl, rfl, rfl, trivial⟩ trivial
                · rw [h6, Bool.false_and] at hO
                  (repeat ((first | refine N0 ?_ | refine A0 fun γ => ?_ | with_reducible refine C1 ?_ | with_reducible refine C2 ?_ | with_reducible refine C3 ?_ | refine C8 ?_ | refine C9 ?_ | refine C6 ?_ | refine C7 ?_ | refine A1 fun γs => ?_ | refine N2 ?_ | refine N3 ?_ | refine N1 ?_); ((conv => whnf); repeat ((first | refine Sw.o ?_ | refine B0 ?_); conv => whnf))))
                  exact .of (by rw [← hO]; rfl)
              · (repeat ((first | refine N0 ?_ | refine A0 fun γ => ?_ | with_reducible refine C1 ?_ | with_reducible refine C2 ?_ | with_reducible refine C3 ?_ | refine C8 ?_ | refine C9 ?_ | refine C6 ?_ | refine C7 ?_ | refine A1 fun γs => ?_ | refine N2 ?_ | refine N3 ?_ | refine N1 ?_); ((conv => whnf); repeat ((first | refine Sw.o ?_ | refine B0 ?_); conv => whnf))))
                refine CondP.dec (fun h7 => ?_) (fun h7 => ?_) <;> ((conv => whnf); repeat ((first | refine Sw.o ?_ | refine B0 ?_); conv => whnf))
                · have hd : digI m = false := by unfold digI; exact decide_eq_false (by omega)
                  rw [hd, Bool.false_or] at hO
                  (repeat ((first | refine N0 ?_ | refine A0 fun γ => ?_ | with_reducible refine C1 ?_ | with_reducible refine C2 ?_ | with_reducible refine C3 ?_ | refine C8 ?_ | refine C9 ?_ | refine C6 ?_ | refine C7 ?_ | refine A1 fun γs => ?_ | refine N2 ?_ | refine N3 ?_ | refine N1 ?_); ((conv => whnf); repeat ((first | refine Sw.o ?_ | refine B0 ?_); conv => whnf))))
                  refine CallP.flat [] _ c76 (rune76_ok m (by omega)) rfl ?_
                  rw [six_ok m (by omega)]
                  ((conv => whnf); repeat ((first | refine Sw.o ?_ | refine B0 ?_); conv => whnf))
                  (repeat ((first | refine N0 ?_ | refine A0 fun γ => ?_ | with_reducible refine C1 ?_ | with_reducible refine C2 ?_ | with_reducible refine C3 ?_ | refine C8 ?_ | refine C9 ?_ | refine C6 ?_ | refine C7 ?_ | refine A1 fun γs => ?_ | refine N2 ?_ | refine N3 ?_ | refine N1 ?_); ((conv => whnf); repeat ((first | refine Sw.o ?_ | refine B0 ?_); conv => whnf))))
                  refine CondP.intro (fun h6 => ?_) (fun h6 => ?_) <;> ((conv => whnf); repeat ((first | refine Sw.o ?_ | refine B0 ?_); conv => whnf))
                  · rw [h6, Bool.true_and] at hO
                    (repeat ((first | refine N0 ?_ | refine A0 fun γ => ?_ | with_reducible refine C1 ?_ | with_reducible refine C2 ?_ | with_reducible refine C3 ?_ | refine C8 ?_ | refine C9 ?_ | refine C6 ?_ | refine C7 ?_ | refine A1 fun γs => ?_ | refine N2 ?_ | refine N3 ?_ | refine N1 ?_); ((conv => whnf); repeat ((first | refine Sw.o ?_ | refine B0 ?_); conv => whnf))))
                    exact .intro <| W.of ⟨_, by omega, i + 1, hi', rfl, hO, rfl, rfl⟩ ⟨rfl, rfl, rfl, rfl, trivial⟩ trivial
                  · rw [h6, Bool.false_and] at hO
                    (repeat ((first | refine N0 ?_ | refine A0 fun γ => ?_ | with_reducible refine C1 ?_ | with_reducible refine C2 ?_ | with_reducible refine C3 ?_ | refine C8 ?_ | refine C9 ?_ | refine C6 ?_ | refine C7 ?_ | refine A1 fun γs => ?_ | refine N2 ?_ | refine N3 ?_ | refine N1 ?_); ((conv => whnf); repeat ((first | refine Sw.o ?_ | refine B0 ?_); conv => whnf))))
                    exact .of (by rw [← hO]; rfl)
                · have hd : digI m = true := by unfold digI; exact decide_eq_true (by omega)
                  rw [hd, Bool.true_or, Bool.true_and] at hO
                  (repeat ((first | refine N0 ?_ | refine A0 fun γ => ?_ | with_reducible refine C1 ?_ | with_reducible refine C2 ?_ | with_reducible refine C3 ?_ | refine C8 ?_ | refine C9 ?_ | refine C6 ?_ | refine C7 ?_ | refine A1 fun γs => ?_ | refine N2 ?_ | refine N3 ?_ | refine N1 ?_); ((conv => whnf); repeat ((first | refine Sw.o ?_ | refine B0 ?_); conv => whnf))))
                  exact .intro <| W.of ⟨_, by omega, i + 1, hi', rfl, hO, rfl, rfl⟩ ⟨rfl, rfl, rfl, rfl, trivial⟩ trivial
          · (repeat ((first | refine N0 ?_ | refine A0 fun γ => ?_ | with_reducible refine C1 ?_ | with_reducible refine C2 ?_ | with_reducible refine C3 ?_ | refine C8 ?_ | refine C9 ?_ | refine C6 ?_ | refine C7 ?_ | refine A1 fun γs => ?_ | refine N2 ?_ | refine N3 ?_ | refine N1 ?_); ((conv => whnf); repeat ((first | refine Sw.o ?_ | refine B0 ?_); conv => whnf))))
            rw [show s.size - i = 0 by omega] at hO
            exact .of (by rw [← hO]; rfl)
      · rw [h2, Bool.false_and] at hF
        (repeat ((first | refine N0 ?_ | refine A0 fun γ => ?_ | with_reducible refine C1 ?_ | with_reducible refine C2 ?_ | with_reducible refine C3 ?_ | refine C8 ?_ | refine C9 ?_ | refine C6 ?_ | refine C7 ?_ | refine A1 fun γs => ?_ | refine N2 ?_ | refine N3 ?_ | refine N1 ?_); ((conv => whnf); repeat ((first | refine Sw.o ?_ | refine B0 ?_); conv => whnf))))
        refine .of ?_
        rw [← hF]; rfl
end Go.Proofs.Ytgeeklnokblokaa
namespace Go.Proofs.Ytgeeklnokblokaa
open Go Go.Fw
set_option maxRecDepth 100000 in
theorem name79_ok (s : ByteArray) (hs : s.size ≤ 2^62) : PureCall Try.prog 79 [encS s] (encB (nameF s)) := by
  refine pure_cp (E := E 0) T_ok (D_ok 0) [] Try.func79 rfl (by rfl) (Nat.le_of_ble_eq_true rfl) ?_
  generalize hF : nameF s = F
  unfold nameF at hF
  ((conv => whnf); repeat ((first | refine Sw.o ?_ | refine B0 ?_); conv => whnf))
  (repeat ((first | refine N0 ?_ | refine A0 fun γ => ?_ | with_reducible refine C1 ?_ | with_reducible refine C2 ?_ | with_reducible refine C3 ?_ | refine C8 ?_ | refine C9 ?_ | refine C6 ?_ | refine C7 ?_ | refine A1 fun γs => ?_ | refine N2 ?_ | refine N3 ?_ | refine N1 ?_); ((conv => whnf); repeat ((first | refine Sw.o ?_ | refine B0 ?_); conv => whnf))))
  refine CondP.dec (fun h0 => ?_) (fun h0 => ?_) <;> ((conv => whnf); repeat ((first | refine Sw.o ?_ | refine B0 ?_); conv => whnf))
  · (repeat ((first | refine N0 ?_ | refine A0 fun γ => ?_ | with_reducible refine C1 ?_ | with_reducible refine C2 ?_ | with_reducible refine C3 ?_ | refine C8 ?_ | refine C9 ?_ | refine C6 ?_ | refine C7 ?_ | refine A1 fun γs => ?_ | refine N2 ?_ | refine N3 ?_ | refine N1 ?_); ((conv => whnf); repeat ((first | refine Sw.o ?_ | refine B0 ?_); conv => whnf))))
    refine .of ?_
    rw [← hF, decide_eq_false (by omega)]; rfl
  · (repeat ((first | refine N0 ?_ | refine A0 fun γ => ?_ | with_reducible refine C1 ?_ | with_reducible refine C2 ?_ | with_reducible refine C3 ?_ | refine C8 ?_ | refine C9 ?_ | refine C6 ?_ | refine C7 ?_ | refine A1 fun γs => ?_ | refine N2 ?_ | refine N3 ?_ | refine N1 ?_); ((conv => whnf); repeat ((first | refine Sw.o ?_ | refine B0 ?_); conv => whnf))))
    refine CondP.dec (fun h1 => ?_) (fun h1 => ?_) <;> ((conv => whnf); repeat ((first | refine Sw.o ?_ | refine B0 ?_); conv => whnf))
    · (repeat ((first | refine N0 ?_ | refine A0 fun γ => ?_ | with_reducible refine C1 ?_ | with_reducible refine C2 ?_ | with_reducible refine C3 ?_ | refine C8 ?_ | refine C9 ?_ | refine C6 ?_ | refine C7 ?_ | refine A1 fun γs => ?_ | refine N2 ?_ | refine N3 ?_ | refine N1 ?_); ((conv => whnf); repeat ((first | refine Sw.o ?_ | refine B0 ?_); conv => whnf))))
      refine .of ?_
      rw [← hF, decide_eq_false (by omega)]; rfl
    · rw [decide_eq_true (by omega), Bool.true_and] at hF
      (repeat ((first | refine N0 ?_ | refine A0 fun γ => ?_ | with_reducible refine C1 ?_ | with_reducible refine C2 ?_ | with_reducible refine C3 ?_ | refine C8 ?_ | refine C9 ?_ | refine C6 ?_ | refine C7 ?_ | refine A1 fun γs => ?_ | refine N2 ?_ | refine N3 ?_ | refine N1 ?_); ((conv => whnf); repeat ((first | refine Sw.o ?_ | refine B0 ?_); conv => whnf))))
      refine CallP.flat [] (encB (lttI (byteAt s 0))) c85 (letter85_ok (byteAt s 0)) rfl ?_
      ((conv => whnf); repeat ((first | refine Sw.o ?_ | refine B0 ?_); conv => whnf))
      (repeat ((first | refine N0 ?_ | refine A0 fun γ => ?_ | with_reducible refine C1 ?_ | with_reducible refine C2 ?_ | with_reducible refine C3 ?_ | refine C8 ?_ | refine C9 ?_ | refine C6 ?_ | refine C7 ?_ | refine A1 fun γs => ?_ | refine N2 ?_ | refine N3 ?_ | refine N1 ?_); ((conv => whnf); repeat ((first | refine Sw.o ?_ | refine B0 ?_); conv => whnf))))
      refine CondP.intro (fun h2 => ?_) (fun h2 => ?_) <;> ((conv => whnf); repeat ((first | refine Sw.o ?_ | refine B0 ?_); conv => whnf))
      · rw [h2, Bool.true_and] at hF
        (repeat ((first | refine N0 ?_ | refine A0 fun γ => ?_ | with_reducible refine C1 ?_ | with_reducible refine C2 ?_ | with_reducible refine C3 ?_ | refine C8 ?_ | refine C9 ?_ | refine C6 ?_ | refine C7 ?_ | refine A1 fun γs => ?_ | refine N2 ?_ | refine N3 ?_ | refine N1 ?_); ((conv => whnf); repeat ((first | refine Sw.o ?_ | refine B0 ?_); conv => whnf))))
        refine LoopP.intro (fun k σ H => ∃ i, i ≤ s.size ∧ k = s.size - i ∧ allOk s i (s.size - i) = F ∧ σ = fr [(0, encS s), (3, encI i)] ∧ H = hp []) ?_ ?_
        · exact .intro <| W.of ⟨_, 0, Nat.zero_le _, rfl, hF, rfl, rfl⟩ ⟨rfl, rfl, trivial⟩ trivial
        · rintro k σ H ⟨i, hi, rfl, hO, rfl, rfl⟩
          ((conv => whnf); repeat ((first | refine Sw.o ?_ | refine B0 ?_); conv => whnf))
          (repeat ((first | refine N0 ?_ | refine A0 fun γ => ?_ | with_reducible refine C1 ?_ | with_reducible refine C2 ?_ | with_reducible refine C3 ?_ | refine C8 ?_ | refine C9 ?_ | refine C6 ?_ | refine C7 ?_ | refine A1 fun γs => ?_ | refine N2 ?_ | refine N3 ?_ | refine N1 ?_); ((conv => whnf); repeat ((first | refine Sw.o ?_ | refine B0 ?_); conv => whnf))))
          refine CondP.dec (fun h3 => ?_) (fun h3 => ?_) <;> ((conv => whnf); repeat ((first | refine Sw.o ?_ | refine B0 ?_); conv => whnf))
          · have hi' : i < s.size := by omega
            have hc := byteAt_lt s i
            rw [show s.size - i = (s.size - (i + 1)) + 1 by omega] at hO
            unfold allOk okI at hO
            (repeat ((first | refine N0 ?_ | refine A0 fun γ => ?_ | with_reducible refine C1 ?_ | with_reducible refine C2 ?_ | with_reducible refine C3 ?_ | refine C8 ?_ | refine C9 ?_ | refine C6 ?_ | refine C7 ?_ | refine A1 fun γs => ?_ | refine N2 ?_ | refine N3 ?_ | refine N1 ?_); ((conv => whnf); repeat ((first | refine Sw.o ?_ | refine B0 ?_); conv => whnf))))
            simp only [Int.toNat_natCast]
            generalize byteAt s i = c at hc hO ⊢
            refine CallP.flat [] (encB (lttI c)) c85 (letter85_ok c) rfl ?_
            ((conv => whnf); repeat ((first | refine Sw.o ?_ | refine B0 ?_); conv => whnf))
            (repeat ((first | refine N0 ?_ | refine A0 fun γ => ?_ | with_reducible refine C1 ?_ | with_reducible refine C2 ?_ | with_reducible refine C3 ?_ | refine C8 ?_ | refine C9 ?_ | refine C6 ?_ | refine C7 ?_ | refine A1 fun γs => ?_ | refine N2 ?_ | refine N3 ?_ | refine N1 ?_); ((conv => whnf); repeat ((first | refine Sw.o ?_ | refine B0 ?_); conv => whnf))))
            refine CondP.intro (fun h4 => ?_) (fun h4 => ?_) <;> ((conv => whnf); repeat ((first | refine Sw.o ?_ | refine B0 ?_); conv => whnf))
            · rw [h4, Bool.true_or, Bool.true_or, Bool.true_and] at hO
              (repeat ((first | refine N0 ?_ | refine A0 fun γ => ?_ | with_reducible refine C1 ?_ | with_reducible refine C2 ?_ | with_reducible refine C3 ?_ | refine C8 ?_ | refine C9 ?_ | refine C6 ?_ | refine C7 ?_ | refine A1 fun γs => ?_ | refine N2 ?_ | refine N3 ?_ | refine N1 ?_); ((conv => whnf); repeat ((first | refine Sw.o ?_ | refine B0 ?_); conv => whnf))))
              exact .intro <| W.of ⟨_, by omega, i + 1, hi', rfl, hO, rfl, rfl⟩ ⟨rfl, rfl, trivial⟩ trivial
            · rw [h4, Bool.false_or] at hO
              (repeat ((first | refine N0 ?_ | refine A0 fun γ => ?_ | with_reducible refine C1 ?_ | with_reducible refine C2 ?_ | with_reducible refine C3 ?_ | refine C8 ?_ | refine C9 ?_ | refine C6 ?_ | refine C7 ?_ | refine A1 fun γs => ?_ | refine N2 ?_ | refine N3 ?_ | refine N1 ?_); ((conv => whnf); repeat ((first | refine Sw.o ?_ | refine B0 ?_); conv => whnf))))
              refine CallP.flat [] (encB (digI c)) c86 (digit86_ok c) rfl ?_
              ((conv => whnf); repeat ((first | refine Sw.o ?_ | refine B0 ?_); conv => whnf))
              (repeat ((first | refine N0 ?_ | refine A0 fun γ => ?_ | with_reducible refine C1 ?_ | with_reducible refine C2 ?_ | with_reducible refine C3 ?_ | refine C8 ?_ | refine C9 ?_ | refine C6 ?_ | refine C7 ?_ | refine A1 fun γs => ?_ | refine N2 ?_ | refine N3 ?_ | refine N1 ?_); ((conv => whnf); repeat ((first | refine Sw.o ?_ | refine B0 ?_); conv => whnf))))
              refine CondP.intro (fun h5 => ?_) (fun h5 => ?_) <;> ((conv => whnf); repeat ((first | refine Sw.o ?_ | refine B0 ?_); conv => whnf))
              · rw [h5, Bool.true_or, Bool.true_and] at hO
                (repeat ((first | refine N0 ?_ | refine A0 fun γ => ?_ | with_reducible refine C1 ?_ | with_reducible refine C2 ?_ | with_reducible refine C3 ?_ | refine C8 ?_ | refine C9 ?_ | refine C6 ?_ | refine C7 ?_ | refine A1 fun γs => ?_ | refine N2 ?_ | refine N3 ?_ | refine N1 ?_); ((conv => whnf); repeat ((first | refine Sw.o ?_ | refine B0 ?_); conv => whnf))))
                exact .intro <| W.of ⟨_, by omega, i + 1, hi', rfl, hO, rfl, rfl⟩ ⟨rfl, rfl, trivial⟩ trivial
              · rw [h5, Bool.false_or] at hO
                unfold sigI at hO
                (repeat (any_goals (first | ((first | refine N0 ?_ | refine A0 fun γ => ?_ | with_reducible refine C1 ?_ | with_reducible refine C2 ?_ | with_reducible refine C3 ?_ | refine C8 ?_ | refine C9 ?_ | refine C6 ?_ | refine C7 ?_ | refine A1 fun γs => ?_ | refine N2 ?_ | refine N3 ?_ | refine N1 ?_); ((conv => whnf); repeat ((first | refine Sw.o ?_ | refine B0 ?_); conv => whnf))) | (refine CondP.dec (fun _ => ?_) (fun _ => ?_) <;> ((conv => whnf); repeat ((first | refine Sw.o ?_ | refine B0 ?_); conv => whnf))))))
                all_goals first
                  | (rw [decide_eq_true (by omega), Bool.true_and] at hO; exact .intro <| W.of ⟨_, by omega, i + 1, hi', rfl, hO, rfl, rfl⟩ ⟨rfl, rfl, trivial⟩ trivial)
                  | (rw [decide_eq_false (by omega), Bool.false_and] at hO; exact .of (by rw [← hO]; rfl))
          · (repeat ((first | refine N0 ?_ | refine A0 fun γ => ?_ | with_reducible refine C1 ?_ | with_reducible refine C2 ?_ | with_reducible refine C3 ?_ | refine C8 ?_ | refine C9 ?_ | refine C6 ?_ | refine C7 ?_ | refine A1 fun γs => ?_ | refine N2 ?_ | refine N3 ?_ | refine N1 ?_); ((conv => whnf); repeat ((first | refine Sw.o ?_ | refine B0 ?_); conv => whnf))))
            rw [show s.size - i = 0 by omega] at hO
            exact .of (by rw [← hO]; rfl)
      · rw [h2, Bool.false_and] at hF
        (repeat ((first | refine N0 ?_ | refine A0 fun γ => ?_ | with_reducible refine C1 ?_ | with_reducible refine C2 ?_ | with_reducible refine C3 ?_ | refine C8 ?_ | refine C9 ?_ | refine C6 ?_ | refine C7 ?_ | refine A1 fun γs => ?_ | refine N2 ?_ | refine N3 ?_ | refine N1 ?_); ((conv => whnf); repeat ((first | refine Sw.o ?_ | refine B0 ?_); conv => whnf))))
        refine .of ?_
        rw [← hF]; rfl
end Go.Proofs.Ytgeeklnokblokaa
namespace Go.Proofs.Ytgeeklnokblokaa
open Go Go.Fw
def fitF (u : U) : Bool := nameF u.name && decide (0 ≤ u.order ∧ u.order ≤ 6) && (!u.pre || decide (u.order = 0))
def lessG (s s' : ByteArray) (n n' : Int) (p p' : Bool) : Int := match decide (s = s') with
  | false => cmpS s s'
  | true => match decide (p = p') with
    | false => match p' with
      | true => -1
      | false => 1
    | true => n - n'
def lessF (a b : U) : Int := lessG a.name b.name a.order b.order a.pre b.pre
theorem encU_mk (s : ByteArray) (n : Int) (p : Bool) : encU ⟨s, n, p⟩ = .agg [.val (.string s), .val (.int .i64 n), .val (.bool p)] := rfl
def beforeF (a b : U) : Bool := match decide (a.name = b.name) with
  | false => Op.bytesLess a.name.toList b.name.toList
  | true => match decide (a.pre = b.pre) with
    | false => b.pre
    | true => decide (a.order < b.order)
set_option maxRecDepth 100000 in
theorem fit62_ok (u : U) (hs : u.name.size ≤ 2^62) : PureCall Try.prog 62 [encU u] (encB (fitF u)) := by
  refine pure_cp (E := E 0) T_ok (D_ok 0) [] Try.func62 rfl (by rfl) (Nat.le_of_ble_eq_true rfl) ?_
  obtain ⟨s, n, p⟩ := u
  obtain ⟨F, hF⟩ : ∃ F, (nameF s && decide (0 ≤ n ∧ n ≤ 6) && (!p || decide (n = 0))) = F := ⟨_, rfl⟩
  rw [show fitF ⟨s, n, p⟩ = F from hF]
  simp only at hs
  rw [encU_mk]
  ((conv => whnf); repeat ((first | refine Sw.o ?_ | refine B0 ?_); conv => whnf))
  (repeat ((first | refine N0 ?_ | refine A0 fun γ => ?_ | with_reducible refine C1 ?_ | with_reducible refine C2 ?_ | with_reducible refine C3 ?_ | refine C8 ?_ | refine C9 ?_ | refine C6 ?_ | refine C7 ?_ | refine A1 fun γs => ?_ | refine N2 ?_ | refine N3 ?_ | refine N1 ?_); ((conv => whnf); repeat ((first | refine Sw.o ?_ | refine B0 ?_); conv => whnf))))
  refine CallP.flat [] (encB (nameF s)) c61 (name61_ok s hs) rfl ?_
  ((conv => whnf); repeat ((first | refine Sw.o ?_ | refine B0 ?_); conv => whnf))
  (repeat ((first | refine N0 ?_ | refine A0 fun γ => ?_ | with_reducible refine C1 ?_ | with_reducible refine C2 ?_ | with_reducible refine C3 ?_ | refine C8 ?_ | refine C9 ?_ | refine C6 ?_ | refine C7 ?_ | refine A1 fun γs => ?_ | refine N2 ?_ | refine N3 ?_ | refine N1 ?_); ((conv => whnf); repeat ((first | refine Sw.o ?_ | refine B0 ?_); conv => whnf))))
  refine CondP.intro (fun h1 => ?_) (fun h1 => ?_) <;> ((conv => whnf); repeat ((first | refine Sw.o ?_ | refine B0 ?_); conv => whnf))
  · rw [h1, Bool.true_and] at hF
    (repeat ((first | refine N0 ?_ | refine A0 fun γ => ?_ | with_reducible refine C1 ?_ | with_reducible refine C2 ?_ | with_reducible refine C3 ?_ | refine C8 ?_ | refine C9 ?_ | refine C6 ?_ | refine C7 ?_ | refine A1 fun γs => ?_ | refine N2 ?_ | refine N3 ?_ | refine N1 ?_); ((conv => whnf); repeat ((first | refine Sw.o ?_ | refine B0 ?_); conv => whnf))))
    refine CondP.dec (fun h2 => ?_) (fun h2 => ?_) <;> ((conv => whnf); repeat ((first | refine Sw.o ?_ | refine B0 ?_); conv => whnf))
    · (repeat ((first | refine N0 ?_ | refine A0 fun γ => ?_ | with_reducible refine C1 ?_ | with_reducible refine C2 ?_ | with_reducible refine C3 ?_ | refine C8 ?_ | refine C9 ?_ | refine C6 ?_ | refine C7 ?_ | refine A1 fun γs => ?_ | refine N2 ?_ | refine N3 ?_ | refine N1 ?_); ((conv => whnf); repeat ((first | refine Sw.o ?_ | refine B0 ?_); conv => whnf))))
      refine CondP.dec (fun h3 => ?_) (fun h3 => ?_) <;> ((conv => whnf); repeat ((first | refine Sw.o ?_ | refine B0 ?_); conv => whnf))
      · rw [decide_eq_true (by omega), Bool.true_and] at hF
        (repeat ((first | refine N0 ?_ | refine A0 fun γ => ?_ | with_reducible refine C1 ?_ | with_reducible refine C2 ?_ | with_reducible refine C3 ?_ | refine C8 ?_ | refine C9 ?_ | refine C6 ?_ | refine C7 ?_ | refine A1 fun γs => ?_ | refine N2 ?_ | refine N3 ?_ | refine N1 ?_); ((conv => whnf); repeat ((first | refine Sw.o ?_ | refine B0 ?_); conv => whnf))))
        cases p
        · ((conv => whnf); repeat ((first | refine Sw.o ?_ | refine B0 ?_); conv => whnf))
          (repeat ((first | refine N0 ?_ | refine A0 fun γ => ?_ | with_reducible refine C1 ?_ | with_reducible refine C2 ?_ | with_reducible refine C3 ?_ | refine C8 ?_ | refine C9 ?_ | refine C6 ?_ | refine C7 ?_ | refine A1 fun γs => ?_ | refine N2 ?_ | refine N3 ?_ | refine N1 ?_); ((conv => whnf); repeat ((first | refine Sw.o ?_ | refine B0 ?_); conv => whnf))))
          exact .of (by rw [← hF]; rfl)
        · ((conv => whnf); repeat ((first | refine Sw.o ?_ | refine B0 ?_); conv => whnf))
          (repeat ((first | refine N0 ?_ | refine A0 fun γ => ?_ | with_reducible refine C1 ?_ | with_reducible refine C2 ?_ | with_reducible refine C3 ?_ | refine C8 ?_ | refine C9 ?_ | refine C6 ?_ | refine C7 ?_ | refine A1 fun γs => ?_ | refine N2 ?_ | refine N3 ?_ | refine N1 ?_); ((conv => whnf); repeat ((first | refine Sw.o ?_ | refine B0 ?_); conv => whnf))))
          exact .of (by rw [← hF]; simp; rfl)
      · rw [decide_eq_false (by omega), Bool.false_and] at hF
        (repeat ((first | refine N0 ?_ | refine A0 fun γ => ?_ | with_reducible refine C1 ?_ | with_reducible refine C2 ?_ | with_reducible refine C3 ?_ | refine C8 ?_ | refine C9 ?_ | refine C6 ?_ | refine C7 ?_ | refine A1 fun γs => ?_ | refine N2 ?_ | refine N3 ?_ | refine N1 ?_); ((conv => whnf); repeat ((first | refine Sw.o ?_ | refine B0 ?_); conv => whnf))))
        exact .of (by rw [← hF]; rfl)
    · rw [decide_eq_false (by omega), Bool.false_and] at hF
      (repeat ((first | refine N0 ?_ | refine A0 fun γ => ?_ | with_reducible refine C1 ?_ | with_reducible refine C2 ?_ | with_reducible refine C3 ?_ | refine C8 ?_ | refine C9 ?_ | refine C6 ?_ | refine C7 ?_ | refine A1 fun γs => ?_ | refine N2 ?_ | refine N3 ?_ | refine N1 ?_); ((conv => whnf); repeat ((first | refine Sw.o ?_ | refine B0 ?_); conv => whnf))))
      exact .of (by rw [← hF]; rfl)
  · rw [h1, Bool.false_and, Bool.false_and] at hF
    (repeat ((first | refine N0 ?_ | refine A0 fun γ => ?_ | with_reducible refine C1 ?_ | with_reducible refine C2 ?_ | with_reducible refine C3 ?_ | refine C8 ?_ | refine C9 ?_ | refine C6 ?_ | refine C7 ?_ | refine A1 fun γs => ?_ | refine N2 ?_ | refine N3 ?_ | refine N1 ?_); ((conv => whnf); repeat ((first | refine Sw.o ?_ | refine B0 ?_); conv => whnf))))
    exact .of (by rw [← hF]; rfl)
set_option maxRecDepth 100000 in
theorem use80_ok (u : U) (hs : u.name.size ≤ 2^62) : PureCall Try.prog 80 [encU u] (encB (fitF u)) := by
  refine pure_cp (E := E 0) T_ok (D_ok 0) [] Try.func80 rfl (by rfl) (Nat.le_of_ble_eq_true rfl) ?_
  obtain ⟨s, n, p⟩ := u
  obtain ⟨F, hF⟩ : ∃ F, (nameF s && decide (0 ≤ n ∧ n ≤ 6) && (!p || decide (n = 0))) = F := ⟨_, rfl⟩
  rw [show fitF ⟨s, n, p⟩ = F from hF]
  simp only at hs
  rw [encU_mk]
  ((conv => whnf); repeat ((first | refine Sw.o ?_ | refine B0 ?_); conv => whnf))
  (repeat ((first | refine N0 ?_ | refine A0 fun γ => ?_ | with_reducible refine C1 ?_ | with_reducible refine C2 ?_ | with_reducible refine C3 ?_ | refine C8 ?_ | refine C9 ?_ | refine C6 ?_ | refine C7 ?_ | refine A1 fun γs => ?_ | refine N2 ?_ | refine N3 ?_ | refine N1 ?_); ((conv => whnf); repeat ((first | refine Sw.o ?_ | refine B0 ?_); conv => whnf))))
  refine CallP.flat [] (encB (nameF s)) c79 (name79_ok s hs) rfl ?_
  ((conv => whnf); repeat ((first | refine Sw.o ?_ | refine B0 ?_); conv => whnf))
  (repeat ((first | refine N0 ?_ | refine A0 fun γ => ?_ | with_reducible refine C1 ?_ | with_reducible refine C2 ?_ | with_reducible refine C3 ?_ | refine C8 ?_ | refine C9 ?_ | refine C6 ?_ | refine C7 ?_ | refine A1 fun γs => ?_ | refine N2 ?_ | refine N3 ?_ | refine N1 ?_); ((conv => whnf); repeat ((first | refine Sw.o ?_ | refine B0 ?_); conv => whnf))))
  refine CondP.intro (fun h1 => ?_) (fun h1 => ?_) <;> ((conv => whnf); repeat ((first | refine Sw.o ?_ | refine B0 ?_); conv => whnf))
  · rw [h1, Bool.true_and] at hF
    (repeat ((first | refine N0 ?_ | refine A0 fun γ => ?_ | with_reducible refine C1 ?_ | with_reducible refine C2 ?_ | with_reducible refine C3 ?_ | refine C8 ?_ | refine C9 ?_ | refine C6 ?_ | refine C7 ?_ | refine A1 fun γs => ?_ | refine N2 ?_ | refine N3 ?_ | refine N1 ?_); ((conv => whnf); repeat ((first | refine Sw.o ?_ | refine B0 ?_); conv => whnf))))
    refine CondP.dec (fun h2 => ?_) (fun h2 => ?_) <;> ((conv => whnf); repeat ((first | refine Sw.o ?_ | refine B0 ?_); conv => whnf))
    · (repeat ((first | refine N0 ?_ | refine A0 fun γ => ?_ | with_reducible refine C1 ?_ | with_reducible refine C2 ?_ | with_reducible refine C3 ?_ | refine C8 ?_ | refine C9 ?_ | refine C6 ?_ | refine C7 ?_ | refine A1 fun γs => ?_ | refine N2 ?_ | refine N3 ?_ | refine N1 ?_); ((conv => whnf); repeat ((first | refine Sw.o ?_ | refine B0 ?_); conv => whnf))))
      refine CondP.dec (fun h3 => ?_) (fun h3 => ?_) <;> ((conv => whnf); repeat ((first | refine Sw.o ?_ | refine B0 ?_); conv => whnf))
      · rw [decide_eq_true (by omega), Bool.true_and] at hF
        (repeat ((first | refine N0 ?_ | refine A0 fun γ => ?_ | with_reducible refine C1 ?_ | with_reducible refine C2 ?_ | with_reducible refine C3 ?_ | refine C8 ?_ | refine C9 ?_ | refine C6 ?_ | refine C7 ?_ | refine A1 fun γs => ?_ | refine N2 ?_ | refine N3 ?_ | refine N1 ?_); ((conv => whnf); repeat ((first | refine Sw.o ?_ | refine B0 ?_); conv => whnf))))
        cases p
        · ((conv => whnf); repeat ((first | refine Sw.o ?_ | refine B0 ?_); conv => whnf))
          (repeat ((first | refine N0 ?_ | refine A0 fun γ => ?_ | with_reducible refine C1 ?_ | with_reducible refine C2 ?_ | with_reducible refine C3 ?_ | refine C8 ?_ | refine C9 ?_ | refine C6 ?_ | refine C7 ?_ | refine A1 fun γs => ?_ | refine N2 ?_ | refine N3 ?_ | refine N1 ?_); ((conv => whnf); repeat ((first | refine Sw.o ?_ | refine B0 ?_); conv => whnf))))
          exact .of (by rw [← hF]; rfl)
        · ((conv => whnf); repeat ((first | refine Sw.o ?_ | refine B0 ?_); conv => whnf))
          (repeat ((first | refine N0 ?_ | refine A0 fun γ => ?_ | with_reducible refine C1 ?_ | with_reducible refine C2 ?_ | with_reducible refine C3 ?_ | refine C8 ?_ | refine C9 ?_ | refine C6 ?_ | refine C7 ?_ | refine A1 fun γs => ?_ | refine N2 ?_ | refine N3 ?_ | refine N1 ?_); ((conv => whnf); repeat ((first | refine Sw.o ?_ | refine B0 ?_); conv => whnf))))
          exact .of (by rw [← hF]; simp; rfl)
      · rw [decide_eq_false (by omega), Bool.false_and] at hF
        (repeat ((first | refine N0 ?_ | refine A0 fun γ => ?_ | with_reducible refine C1 ?_ | with_reducible refine C2 ?_ | with_reducible refine C3 ?_ | refine C8 ?_ | refine C9 ?_ | refine C6 ?_ | refine C7 ?_ | refine A1 fun γs => ?_ | refine N2 ?_ | refine N3 ?_ | refine N1 ?_); ((conv => whnf); repeat ((first | refine Sw.o ?_ | refine B0 ?_); conv => whnf))))
        exact .of (by rw [← hF]; rfl)
    · rw [decide_eq_false (by omega), Bool.false_and] at hF
      (repeat ((first | refine N0 ?_ | refine A0 fun γ => ?_ | with_reducible refine C1 ?_ | with_reducible refine C2 ?_ | with_reducible refine C3 ?_ | refine C8 ?_ | refine C9 ?_ | refine C6 ?_ | refine C7 ?_ | refine A1 fun γs => ?_ | refine N2 ?_ | refine N3 ?_ | refine N1 ?_); ((conv => whnf); repeat ((first | refine Sw.o ?_ | refine B0 ?_); conv => whnf))))
      exact .of (by rw [← hF]; rfl)
  · rw [h1, Bool.false_and, Bool.false_and] at hF
    (repeat ((first | refine N0 ?_ | refine A0 fun γ => ?_ | with_reducible refine C1 ?_ | with_reducible refine C2 ?_ | with_reducible refine C3 ?_ | refine C8 ?_ | refine C9 ?_ | refine C6 ?_ | refine C7 ?_ | refine A1 fun γs => ?_ | refine N2 ?_ | refine N3 ?_ | refine N1 ?_); ((conv => whnf); repeat ((first | refine Sw.o ?_ | refine B0 ?_); conv => whnf))))
    exact .of (by rw [← hF]; rfl)
set_option maxRecDepth 100000 in
theorem less63_ok (a b : U) (ha : 0 ≤ a.order ∧ a.order ≤ 6) (hb : 0 ≤ b.order ∧ b.order ≤ 6) : PureCall Try.prog 63 [encU a, encU b] (encI (lessF a b)) := by
  refine pure_cp (E := E 0) T_ok (D_ok 0) [] Try.func63 rfl (by rfl) (Nat.le_of_ble_eq_true rfl) ?_
  obtain ⟨s, n, p⟩ := a
  obtain ⟨s', n', p'⟩ := b
  obtain ⟨F, hF⟩ : ∃ F, lessG s s' n n' p p' = F := ⟨_, rfl⟩
  rw [show lessF ⟨s, n, p⟩ ⟨s', n', p'⟩ = F from hF]
  unfold lessG at hF
  simp only at ha hb
  rw [encU_mk, encU_mk]
  ((conv => whnf); repeat ((first | refine Sw.o ?_ | refine B0 ?_); conv => whnf))
  (repeat ((first | refine N0 ?_ | refine A0 fun γ => ?_ | with_reducible refine C1 ?_ | with_reducible refine C2 ?_ | with_reducible refine C3 ?_ | refine C8 ?_ | refine C9 ?_ | refine C6 ?_ | refine C7 ?_ | refine A1 fun γs => ?_ | refine N2 ?_ | refine N3 ?_ | refine N1 ?_); ((conv => whnf); repeat ((first | refine Sw.o ?_ | refine B0 ?_); conv => whnf))))
  refine CondP.dec (fun h1 => ?_) (fun h1 => ?_) <;> ((conv => whnf); repeat ((first | refine Sw.o ?_ | refine B0 ?_); conv => whnf))
  · rw [decide_eq_true h1] at hF
    cases p <;> cases p'
    all_goals (((conv => whnf); repeat ((first | refine Sw.o ?_ | refine B0 ?_); conv => whnf)))
    all_goals ((repeat ((first | refine N0 ?_ | refine A0 fun γ => ?_ | refine C1 ?_ | refine C2 ?_ | refine C3 ?_ | refine C4 ?_ | refine C5 ?_ | refine C6 ?_ | refine C7 ?_ | refine D0 fun γs => ?_ | refine A1 fun γs => ?_ | refine N2 ?_ | refine N3 ?_ | refine N1 ?_); ((conv => whnf); repeat ((first | refine Sw.o ?_ | refine B0 ?_); conv => whnf)))))
    all_goals exact .of (by rw [← hF]; rfl)
  · rw [decide_eq_false h1] at hF
    (repeat ((first | refine N0 ?_ | refine A0 fun γ => ?_ | with_reducible refine C1 ?_ | with_reducible refine C2 ?_ | with_reducible refine C3 ?_ | refine C8 ?_ | refine C9 ?_ | refine C6 ?_ | refine C7 ?_ | refine A1 fun γs => ?_ | refine N2 ?_ | refine N3 ?_ | refine N1 ?_); ((conv => whnf); repeat ((first | refine Sw.o ?_ | refine B0 ?_); conv => whnf))))
    refine CallP.flat [] (encI (cmpS s s')) c77 (cmp77_ok s s') rfl ?_
    ((conv => whnf); repeat ((first | refine Sw.o ?_ | refine B0 ?_); conv => whnf))
    (repeat ((first | refine N0 ?_ | refine A0 fun γ => ?_ | with_reducible refine C1 ?_ | with_reducible refine C2 ?_ | with_reducible refine C3 ?_ | refine C8 ?_ | refine C9 ?_ | refine C6 ?_ | refine C7 ?_ | refine A1 fun γs => ?_ | refine N2 ?_ | refine N3 ?_ | refine N1 ?_); ((conv => whnf); repeat ((first | refine Sw.o ?_ | refine B0 ?_); conv => whnf))))
    exact .of (by rw [← hF]; rfl)
set_option maxRecDepth 100000 in
theorem before81_ok (a b : U) : PureCall Try.prog 81 [encU a, encU b] (encB (beforeF a b)) := by
  refine pure_cp (E := E 0) T_ok (D_ok 0) [] Try.func81 rfl (by rfl) (Nat.le_of_ble_eq_true rfl) ?_
  obtain ⟨s, n, p⟩ := a
  obtain ⟨s', n', p'⟩ := b
  obtain ⟨F, hF⟩ : ∃ F, (match decide (s = s') with | false => Op.bytesLess s.toList s'.toList | true => match decide (p = p') with | false => p' | true => decide (n < n')) = F := ⟨_, rfl⟩
  rw [show beforeF ⟨s, n, p⟩ ⟨s', n', p'⟩ = F from hF]
  rw [encU_mk, encU_mk]
  ((conv => whnf); repeat ((first | refine Sw.o ?_ | refine B0 ?_); conv => whnf))
  (repeat ((first | refine N0 ?_ | refine A0 fun γ => ?_ | with_reducible refine C1 ?_ | with_reducible refine C2 ?_ | with_reducible refine C3 ?_ | refine C8 ?_ | refine C9 ?_ | refine C6 ?_ | refine C7 ?_ | refine A1 fun γs => ?_ | refine N2 ?_ | refine N3 ?_ | refine N1 ?_); ((conv => whnf); repeat ((first | refine Sw.o ?_ | refine B0 ?_); conv => whnf))))
  refine CondP.dec (fun h1 => ?_) (fun h1 => ?_) <;> ((conv => whnf); repeat ((first | refine Sw.o ?_ | refine B0 ?_); conv => whnf))
  · rw [decide_eq_true h1] at hF
    cases p <;> cases p'
    all_goals (((conv => whnf); repeat ((first | refine Sw.o ?_ | refine B0 ?_); conv => whnf)))
    all_goals ((repeat ((first | refine N0 ?_ | refine A0 fun γ => ?_ | refine C1 ?_ | refine C2 ?_ | refine C3 ?_ | refine C4 ?_ | refine C5 ?_ | refine C6 ?_ | refine C7 ?_ | refine D0 fun γs => ?_ | refine A1 fun γs => ?_ | refine N2 ?_ | refine N3 ?_ | refine N1 ?_); ((conv => whnf); repeat ((first | refine Sw.o ?_ | refine B0 ?_); conv => whnf)))))
    all_goals exact .of (by rw [← hF]; rfl)
  · rw [decide_eq_false h1] at hF
    (repeat ((first | refine N0 ?_ | refine A0 fun γ => ?_ | with_reducible refine C1 ?_ | with_reducible refine C2 ?_ | with_reducible refine C3 ?_ | refine C8 ?_ | refine C9 ?_ | refine C6 ?_ | refine C7 ?_ | refine A1 fun γs => ?_ | refine N2 ?_ | refine N3 ?_ | refine N1 ?_); ((conv => whnf); repeat ((first | refine Sw.o ?_ | refine B0 ?_); conv => whnf))))
    exact .of (by rw [← hF]; rfl)
end Go.Proofs.Ytgeeklnokblokaa
namespace Go.Proofs.Ytgeeklnokblokaa
open Go Go.Fw
def cntT (l : List Bool) : Nat := l.countP id
def encBs (l : List Bool) : AV := .sl 1 (l.map encB)
theorem rep_encB (n : Nat) : List.replicate n (mkEl { size := 1, bytes := 1, zero := [Value.bool false], kind := Kd.bool }) = (List.replicate n false).map encB := by rw [List.map_replicate]; rfl
theorem cntT_cons (b : Bool) (l : List Bool) : cntT (b :: l) = cntT l + (if b then 1 else 0) := by simp [cntT, List.countP_cons]
set_option maxRecDepth 100000 in
theorem count_ok (l : List Bool) (hl : l.length < 2^62) : PureCall Try.prog 50 [encBs l] (encI (cntT l)) := by
  refine pure_cp (E := E 0) T_ok (D_ok 0) [] Try.func50 rfl (by rfl) (Nat.le_of_ble_eq_true rfl) ?_
  ((conv => whnf); repeat ((first | refine Sw.o ?_ | refine B0 ?_); conv => whnf))
  (repeat ((first | refine N0 ?_ | refine A0 fun γ => ?_ | refine C1 ?_ | refine C2 ?_ | refine C3 ?_ | refine C4 ?_ | refine C5 ?_ | refine C6 ?_ | refine C7 ?_ | refine D0 fun γs => ?_ | refine A1 fun γs => ?_ | refine N2 ?_ | refine N3 ?_ | refine N1 ?_); ((conv => whnf); repeat ((first | refine Sw.o ?_ | refine B0 ?_); conv => whnf))))
  refine LoopP.intro (fun n σ H => ∃ i k, ∃ hi : i ≤ l.length, n = l.length - i ∧ k ≤ i ∧ cntT l = k + cntT (l.drop i) ∧ σ = fr [(3, encI k), (6, encBs l), (7, .val (.int .i64 (l.map encB).length)), (8, encI i)] ∧ H = hp []) ?_ ?_
  · exact .intro <| W.of ⟨_, 0, 0, Nat.zero_le _, rfl, Nat.le_refl _, (Nat.zero_add _).symm, rfl, rfl⟩ ⟨rfl, rfl, rfl, rfl, trivial⟩ trivial
  · rintro n σ H ⟨i, k, hi, rfl, hk, hc, rfl, rfl⟩
    ((conv => whnf); repeat ((first | refine Sw.o ?_ | refine B0 ?_); conv => whnf))
    (repeat ((first | refine N0 ?_ | refine A0 fun γ => ?_ | refine C1 ?_ | refine C2 ?_ | refine C3 ?_ | refine C4 ?_ | refine C5 ?_ | refine C6 ?_ | refine C7 ?_ | refine D0 fun γs => ?_ | refine A1 fun γs => ?_ | refine N2 ?_ | refine N3 ?_ | refine N1 ?_); ((conv => whnf); repeat ((first | refine Sw.o ?_ | refine B0 ?_); conv => whnf))))
    refine CondP.dec (fun h => ?_) (fun h => ?_) <;> ((conv => whnf); repeat ((first | refine Sw.o ?_ | refine B0 ?_); conv => whnf))
    · (have h2 := h; try simp only [LN] at h2)
      (repeat ((first | refine N0 ?_ | refine A0 fun γ => ?_ | refine C1 ?_ | refine C2 ?_ | refine C3 ?_ | refine C4 ?_ | refine C5 ?_ | refine C6 ?_ | refine C7 ?_ | refine D0 fun γs => ?_ | refine A1 fun γs => ?_ | refine N2 ?_ | refine N3 ?_ | refine N1 ?_); ((conv => whnf); repeat ((first | refine Sw.o ?_ | refine B0 ?_); conv => whnf))))
      (simp (disch := omega) only [LG]; ((conv => whnf); repeat ((first | refine Sw.o ?_ | refine B0 ?_); conv => whnf)))
      have hi' : i < l.length := by omega
      rw [List.drop_eq_getElem_cons hi', cntT_cons] at hc
      refine CondP.intro (fun h => ?_) (fun h => ?_) <;> ((conv => whnf); repeat ((first | refine Sw.o ?_ | refine B0 ?_); conv => whnf))
      · (repeat ((first | refine N0 ?_ | refine A0 fun γ => ?_ | refine C1 ?_ | refine C2 ?_ | refine C3 ?_ | refine C4 ?_ | refine C5 ?_ | refine C6 ?_ | refine C7 ?_ | refine D0 fun γs => ?_ | refine A1 fun γs => ?_ | refine N2 ?_ | refine N3 ?_ | refine N1 ?_); ((conv => whnf); repeat ((first | refine Sw.o ?_ | refine B0 ?_); conv => whnf))))
        refine .intro <| W.of ⟨_, by omega, i + 1, k + 1, hi', rfl, by omega, ?_, rfl, rfl⟩ ⟨rfl, rfl, rfl, rfl, trivial⟩ trivial
        rw [hc, h]; simp; omega
      · (repeat ((first | refine N0 ?_ | refine A0 fun γ => ?_ | refine C1 ?_ | refine C2 ?_ | refine C3 ?_ | refine C4 ?_ | refine C5 ?_ | refine C6 ?_ | refine C7 ?_ | refine D0 fun γs => ?_ | refine A1 fun γs => ?_ | refine N2 ?_ | refine N3 ?_ | refine N1 ?_); ((conv => whnf); repeat ((first | refine Sw.o ?_ | refine B0 ?_); conv => whnf))))
        refine .intro <| W.of ⟨_, by omega, i + 1, k, hi', rfl, by omega, ?_, rfl, rfl⟩ ⟨rfl, rfl, rfl, rfl, trivial⟩ trivial
        rw [hc, h]; simp
    · (have h2 := h; try simp only [LN] at h2)
      exact .of (by rw [hc, List.drop_eq_nil_of_le (by omega)]; rfl)
set_option maxRecDepth 100000 in
theorem many_ok (l : List Bool) (hl : l.length < 2^62) : PureCall Try.prog 57 [encBs l] (encI (cntT l)) := by
  refine pure_cp (E := E 0) T_ok (D_ok 0) [] Try.func57 rfl (by rfl) (Nat.le_of_ble_eq_true rfl) ?_
  ((conv => whnf); repeat ((first | refine Sw.o ?_ | refine B0 ?_); conv => whnf))
  (repeat ((first | refine N0 ?_ | refine A0 fun γ => ?_ | refine C1 ?_ | refine C2 ?_ | refine C3 ?_ | refine C4 ?_ | refine C5 ?_ | refine C6 ?_ | refine C7 ?_ | refine D0 fun γs => ?_ | refine A1 fun γs => ?_ | refine N2 ?_ | refine N3 ?_ | refine N1 ?_); ((conv => whnf); repeat ((first | refine Sw.o ?_ | refine B0 ?_); conv => whnf))))
  refine LoopP.intro (fun n σ H => ∃ i k, ∃ hi : i ≤ l.length, n = l.length - i ∧ k ≤ i ∧ cntT l = k + cntT (l.drop i) ∧ σ = fr [(0, encBs l), (3, encI k), (4, encI i)] ∧ H = hp []) ?_ ?_
  · exact .intro <| W.of ⟨_, 0, 0, Nat.zero_le _, rfl, Nat.le_refl _, (Nat.zero_add _).symm, rfl, rfl⟩ ⟨rfl, rfl, rfl, trivial⟩ trivial
  · rintro n σ H ⟨i, k, hi, rfl, hk, hc, rfl, rfl⟩
    ((conv => whnf); repeat ((first | refine Sw.o ?_ | refine B0 ?_); conv => whnf))
    (repeat ((first | refine N0 ?_ | refine A0 fun γ => ?_ | refine C1 ?_ | refine C2 ?_ | refine C3 ?_ | refine C4 ?_ | refine C5 ?_ | refine C6 ?_ | refine C7 ?_ | refine D0 fun γs => ?_ | refine A1 fun γs => ?_ | refine N2 ?_ | refine N3 ?_ | refine N1 ?_); ((conv => whnf); repeat ((first | refine Sw.o ?_ | refine B0 ?_); conv => whnf))))
    refine CondP.dec (fun h => ?_) (fun h => ?_) <;> ((conv => whnf); repeat ((first | refine Sw.o ?_ | refine B0 ?_); conv => whnf))
    · (have h2 := h; try simp only [LN] at h2)
      (repeat ((first | refine N0 ?_ | refine A0 fun γ => ?_ | refine C1 ?_ | refine C2 ?_ | refine C3 ?_ | refine C4 ?_ | refine C5 ?_ | refine C6 ?_ | refine C7 ?_ | refine D0 fun γs => ?_ | refine A1 fun γs => ?_ | refine N2 ?_ | refine N3 ?_ | refine N1 ?_); ((conv => whnf); repeat ((first | refine Sw.o ?_ | refine B0 ?_); conv => whnf))))
      (simp (disch := omega) only [LG]; ((conv => whnf); repeat ((first | refine Sw.o ?_ | refine B0 ?_); conv => whnf)))
      have hi' : i < l.length := by omega
      rw [List.drop_eq_getElem_cons hi', cntT_cons] at hc
      refine CondP.intro (fun h => ?_) (fun h => ?_) <;> ((conv => whnf); repeat ((first | refine Sw.o ?_ | refine B0 ?_); conv => whnf))
      · (repeat ((first | refine N0 ?_ | refine A0 fun γ => ?_ | refine C1 ?_ | refine C2 ?_ | refine C3 ?_ | refine C4 ?_ | refine C5 ?_ | refine C6 ?_ | refine C7 ?_ | refine D0 fun γs => ?_ | refine A1 fun γs => ?_ | refine N2 ?_ | refine N3 ?_ | refine N1 ?_); ((conv => whnf); repeat ((first | refine Sw.o ?_ | refine B0 ?_); conv => whnf))))
        refine .intro <| W.of ⟨_, by omega, i + 1, k + 1, hi', rfl, by omega, ?_, rfl, rfl⟩ ⟨rfl, rfl, rfl, trivial⟩ trivial
        rw [hc, h]; simp; omega
      · (repeat ((first | refine N0 ?_ | refine A0 fun γ => ?_ | refine C1 ?_ | refine C2 ?_ | refine C3 ?_ | refine C4 ?_ | refine C5 ?_ | refine C6 ?_ | refine C7 ?_ | refine D0 fun γs => ?_ | refine A1 fun γs => ?_ | refine N2 ?_ | refine N3 ?_ | refine N1 ?_); ((conv => whnf); repeat ((first | refine Sw.o ?_ | refine B0 ?_); conv => whnf))))
        refine .intro <| W.of ⟨_, by omega, i + 1, k, hi', rfl, by omega, ?_, rfl, rfl⟩ ⟨rfl, rfl, rfl, trivial⟩ trivial
        rw [hc, h]; simp
    · (have h2 := h; try simp only [LN] at h2)
      exact .of (by rw [hc, List.drop_eq_nil_of_le (by omega)]; rfl)
theorem snap_list {α : Type} (s : AV → AV) (enc : α → AV) (xs : List α) (n : Nat) (hn : n = xs.length) (hs : ∀ x, snapEl s (enc x) = enc x) : (((xs.map enc).drop 0).take n).map (snapEl s) = xs.map enc := by
  subst hn
  rw [List.drop_zero, List.take_of_length_le (by simp), List.map_map]
  exact List.map_congr_left fun x _ => hs x
def restF (a b : List Bool) : List Bool := (List.range a.length).map fun i => !a.getD i false && !b.getD i false
theorem set_map {α : Type} (f : α → AV) (l : List α) (i : Nat) (x : α) (y : AV) (h : y = f x) : (l.map f).set i y = (l.set i x).map f := by rw [h, List.map_set]
theorem ext_getD {α : Type} {d : α} {a b : List α} (hl : a.length = b.length) (h : ∀ i, i < a.length → a.getD i d = b.getD i d) : a = b := by
  refine List.ext_getElem hl fun i h1 h2 => ?_
  have := h i h1
  simpa [List.getD_eq_getElem?_getD, h1, h2] using this
theorem getD_set {α : Type} (l : List α) (i j : Nat) (x d : α) : (l.set i x).getD j d = if i = j ∧ j < l.length then x else l.getD j d := by
  simp only [List.getD_eq_getElem?_getD, List.getElem?_set]
  by_cases h : i = j
  · subst h
    by_cases h2 : i < l.length <;> simp [h2]
  · simp [h]
theorem getD_lt {α : Type} (l : List α) (i : Nat) (d : α) (h : i < l.length) : l.getD i d = l[i] := by simp [h]
end Go.Proofs.Ytgeeklnokblokaa
namespace Go.Proofs.Ytgeeklnokblokaa
open Go Go.Fw
set_option maxRecDepth 100000 in
theorem rest_ok (a b : List Bool) (hl : a.length < 2^40) (hb : a.length ≤ b.length) : PureCall Try.prog 49 [encBs a, encBs b] (encBs (restF a b)) := by
  refine pure_cp (E := E 0) T_ok (D_ok 0) [9] Try.func49 rfl (by rfl) (Nat.le_of_ble_eq_true rfl) ?_
  ((conv => whnf); repeat ((first | refine Sw.o ?_ | refine B0 ?_); conv => whnf))
  (repeat ((first | refine N0 ?_ | refine A0 fun γ => ?_ | refine C1 ?_ | refine C2 ?_ | refine C3 ?_ | refine C4 ?_ | refine C5 ?_ | refine C6 ?_ | refine C7 ?_ | refine D0 fun γs => ?_ | refine A1 fun γs => ?_ | refine N2 ?_ | refine N3 ?_ | refine N1 ?_); ((conv => whnf); repeat ((first | refine Sw.o ?_ | refine B0 ?_); conv => whnf))))
  simp only [List.length_map, Int.toNat_natCast, rep_encB]
  refine LoopP.intro (fun n σ H => ∃ γ i, ∃ xs : List Bool, ∃ hi : i ≤ a.length, n = a.length - i ∧ xs.length = a.length ∧ (∀ j, j < i → xs.getD j false = (restF a b).getD j false) ∧
    σ = fr [(0, encBs a), (1, encBs b), (5, .own 9 γ 0 a.length), (11, encI a.length), (12, encI i)] ∧ H = hp [(9, γ, ⟨4, 1, xs.map encB⟩)]) ?_ ?_
  · exact .intro <| W.of ⟨_, _, 0, _, Nat.zero_le _, rfl, by simp, fun j h => absurd h (by omega), rfl, rfl⟩ ⟨rfl, rfl, rfl, rfl, rfl, trivial⟩ ⟨rfl, trivial⟩
  · rintro n σ H ⟨γ, i, xs, hi, rfl, hxl, hx, rfl, rfl⟩
    ((conv => whnf); repeat ((first | refine Sw.o ?_ | refine B0 ?_); conv => whnf))
    (repeat ((first | refine N0 ?_ | refine A0 fun γ => ?_ | refine C1 ?_ | refine C2 ?_ | refine C3 ?_ | refine C4 ?_ | refine C5 ?_ | refine C6 ?_ | refine C7 ?_ | refine D0 fun γs => ?_ | refine A1 fun γs => ?_ | refine N2 ?_ | refine N3 ?_ | refine N1 ?_); ((conv => whnf); repeat ((first | refine Sw.o ?_ | refine B0 ?_); conv => whnf))))
    refine CondP.dec (fun h => ?_) (fun h => ?_) <;> ((conv => whnf); repeat ((first | refine Sw.o ?_ | refine B0 ?_); conv => whnf))
    · (have h2 := h; try simp only [LN] at h2)
      (repeat ((first | refine N0 ?_ | refine A0 fun γ => ?_ | refine C1 ?_ | refine C2 ?_ | refine C3 ?_ | refine C4 ?_ | refine C5 ?_ | refine C6 ?_ | refine C7 ?_ | refine D0 fun γs => ?_ | refine A1 fun γs => ?_ | refine N2 ?_ | refine N3 ?_ | refine N1 ?_); ((conv => whnf); repeat ((first | refine Sw.o ?_ | refine B0 ?_); conv => whnf))))
      (simp (disch := omega) only [LG]; ((conv => whnf); repeat ((first | refine Sw.o ?_ | refine B0 ?_); conv => whnf)))
      (repeat ((first | refine N0 ?_ | refine A0 fun γ => ?_ | refine C1 ?_ | refine C2 ?_ | refine C3 ?_ | refine C4 ?_ | refine C5 ?_ | refine C6 ?_ | refine C7 ?_ | refine D0 fun γs => ?_ | refine A1 fun γs => ?_ | refine N2 ?_ | refine N3 ?_ | refine N1 ?_); ((conv => whnf); repeat ((first | refine Sw.o ?_ | refine B0 ?_); conv => whnf))))
      have hi' : i < a.length := by omega
      have hr : (restF a b).getD i false = (!a[i] && !(b[i]'(by omega))) := by
        rw [getD_lt _ _ _ (by simp [restF]; omega)]; simp [restF, hi', show i < b.length by omega]
      have upd : ∀ v, v = (restF a b).getD i false → ∀ j, j < i + 1 → (xs.set i v).getD j false = (restF a b).getD j false := by
        intro v hv j hj
        rw [getD_set]
        split
        · rename_i e; rw [← e.1]; exact hv
        · rename_i e
          exact hx j (by omega)
      refine CondP.intro (fun h => ?_) (fun h => ?_) <;> ((conv => whnf); repeat ((first | refine Sw.o ?_ | refine B0 ?_); conv => whnf))
      · (repeat ((first | refine N0 ?_ | refine A0 fun γ => ?_ | refine C1 ?_ | refine C2 ?_ | refine C3 ?_ | refine C4 ?_ | refine C5 ?_ | refine C6 ?_ | refine C7 ?_ | refine D0 fun γs => ?_ | refine A1 fun γs => ?_ | refine N2 ?_ | refine N3 ?_ | refine N1 ?_); ((conv => whnf); repeat ((first | refine Sw.o ?_ | refine B0 ?_); conv => whnf))))
        (simp (disch := omega) only [LG]; ((conv => whnf); repeat ((first | refine Sw.o ?_ | refine B0 ?_); conv => whnf)))
        (repeat ((first | refine N0 ?_ | refine A0 fun γ => ?_ | refine C1 ?_ | refine C2 ?_ | refine C3 ?_ | refine C4 ?_ | refine C5 ?_ | refine C6 ?_ | refine C7 ?_ | refine D0 fun γs => ?_ | refine A1 fun γs => ?_ | refine N2 ?_ | refine N3 ?_ | refine N1 ?_); ((conv => whnf); repeat ((first | refine Sw.o ?_ | refine B0 ?_); conv => whnf))))
        refine .intro <| W.of ⟨_, by omega, _, i + 1, xs.set i false, hi', rfl, by simpa using hxl, upd _ (by rw [hr, h]; rfl), rfl, rfl⟩ ⟨rfl, rfl, rfl, rfl, rfl, trivial⟩ ⟨by rw [← set_map (x := false) (h := rfl)]; rfl, trivial⟩
      · (repeat ((first | refine N0 ?_ | refine A0 fun γ => ?_ | refine C1 ?_ | refine C2 ?_ | refine C3 ?_ | refine C4 ?_ | refine C5 ?_ | refine C6 ?_ | refine C7 ?_ | refine D0 fun γs => ?_ | refine A1 fun γs => ?_ | refine N2 ?_ | refine N3 ?_ | refine N1 ?_); ((conv => whnf); repeat ((first | refine Sw.o ?_ | refine B0 ?_); conv => whnf))))
        (simp (disch := omega) only [LG]; ((conv => whnf); repeat ((first | refine Sw.o ?_ | refine B0 ?_); conv => whnf)))
        (repeat ((first | refine N0 ?_ | refine A0 fun γ => ?_ | refine C1 ?_ | refine C2 ?_ | refine C3 ?_ | refine C4 ?_ | refine C5 ?_ | refine C6 ?_ | refine C7 ?_ | refine D0 fun γs => ?_ | refine A1 fun γs => ?_ | refine N2 ?_ | refine N3 ?_ | refine N1 ?_); ((conv => whnf); repeat ((first | refine Sw.o ?_ | refine B0 ?_); conv => whnf))))
        (simp (disch := omega) only [LG]; ((conv => whnf); repeat ((first | refine Sw.o ?_ | refine B0 ?_); conv => whnf)))
        (repeat ((first | refine N0 ?_ | refine A0 fun γ => ?_ | refine C1 ?_ | refine C2 ?_ | refine C3 ?_ | refine C4 ?_ | refine C5 ?_ | refine C6 ?_ | refine C7 ?_ | refine D0 fun γs => ?_ | refine A1 fun γs => ?_ | refine N2 ?_ | refine N3 ?_ | refine N1 ?_); ((conv => whnf); repeat ((first | refine Sw.o ?_ | refine B0 ?_); conv => whnf))))
        refine .intro <| W.of ⟨_, by omega, _, i + 1, xs.set i (!b[i]), hi', rfl, by simpa using hxl, upd _ (by rw [hr, h]; rfl), rfl, rfl⟩ ⟨rfl, rfl, rfl, rfl, rfl, trivial⟩ ⟨by rw [← set_map (x := !b[i]) (h := rfl)]; rfl, trivial⟩
    · (have h2 := h; try simp only [LN] at h2)
      (repeat ((first | refine N0 ?_ | refine A0 fun γ => ?_ | refine C1 ?_ | refine C2 ?_ | refine C3 ?_ | refine C4 ?_ | refine C5 ?_ | refine C6 ?_ | refine C7 ?_ | refine D0 fun γs => ?_ | refine A1 fun γs => ?_ | refine N2 ?_ | refine N3 ?_ | refine N1 ?_); ((conv => whnf); repeat ((first | refine Sw.o ?_ | refine B0 ?_); conv => whnf))))
      refine .of ?_
      show AV.sl 1 _ = AV.sl 1 _
      rw [snap_list _ _ _ _ hxl.symm (fun _ => rfl), ext_getD (d := false) (hxl.trans (by simp [restF])) (fun j hj => hx j (by omega))]
end Go.Proofs.Ytgeeklnokblokaa
namespace Go.Proofs.Ytgeeklnokblokaa
open Go Go.Fw
theorem restF_length (a b : List Bool) : (restF a b).length = a.length := by simp [restF]
theorem restF_get (a b : List Bool) (i : Nat) (h : i < a.length) (h' : i < b.length) (h2 : i < (restF a b).length) : (restF a b)[i] = (!a[i] && !b[i]) := by simp [restF, h, h']
theorem take_snoc {α : Type} (f : α → AV) (l : List α) (i : Nat) (h : i < l.length) (y : AV) (hy : y = f l[i]) : (l.take i).map f ++ [y] = (l.take (i + 1)).map f := by
  rw [hy, List.take_succ_eq_append_getElem h, List.map_append]; rfl
set_option maxRecDepth 100000 in
theorem none_ok (a b : List Bool) (hl : a.length < 2^40) (hb : a.length ≤ b.length) : PureCall Try.prog 56 [encBs a, encBs b] (encBs (restF a b)) := by
  refine pure_cp (E := E 0) T_ok (D_ok 0) [100] Try.func56 rfl (by rfl) (Nat.le_of_ble_eq_true rfl) ?_
  ((conv => whnf); repeat ((first | refine Sw.o ?_ | refine B0 ?_); conv => whnf))
  (repeat ((first | refine N0 ?_ | refine A0 fun γ => ?_ | refine C1 ?_ | refine C2 ?_ | refine C3 ?_ | refine C4 ?_ | refine C5 ?_ | refine C6 ?_ | refine C7 ?_ | refine D0 fun γs => ?_ | refine A1 fun γs => ?_ | refine N2 ?_ | refine N3 ?_ | refine N1 ?_); ((conv => whnf); repeat ((first | refine Sw.o ?_ | refine B0 ?_); conv => whnf))))
  have hrl := restF_length a b
  refine LoopP.intro (fun n σ H => ∃ γ i, ∃ hi : i ≤ a.length, n = a.length - i ∧
    σ = fr [(0, encBs a), (1, encBs b), (5, .own 100 γ 0 i), (6, encI i)] ∧ H = hp [(100, γ, ⟨4, 1, ((restF a b).take i).map encB⟩)]) ?_ ?_
  · exact .intro <| W.mat 5 100 4 1 rfl rfl fun γ => W.of ⟨_, _, 0, Nat.zero_le _, rfl, rfl, rfl⟩ ⟨rfl, rfl, rfl, rfl, trivial⟩ ⟨rfl, trivial⟩
  · rintro n σ H ⟨γ, i, hi, rfl, rfl, rfl⟩
    ((conv => whnf); repeat ((first | refine Sw.o ?_ | refine B0 ?_); conv => whnf))
    (repeat ((first | refine N0 ?_ | refine A0 fun γ => ?_ | refine C1 ?_ | refine C2 ?_ | refine C3 ?_ | refine C4 ?_ | refine C5 ?_ | refine C6 ?_ | refine C7 ?_ | refine D0 fun γs => ?_ | refine A1 fun γs => ?_ | refine N2 ?_ | refine N3 ?_ | refine N1 ?_); ((conv => whnf); repeat ((first | refine Sw.o ?_ | refine B0 ?_); conv => whnf))))
    refine CondP.dec (fun h => ?_) (fun h => ?_) <;> ((conv => whnf); repeat ((first | refine Sw.o ?_ | refine B0 ?_); conv => whnf))
    · (have h2 := h; try simp only [LN] at h2)
      (repeat ((first | refine N0 ?_ | refine A0 fun γ => ?_ | refine C1 ?_ | refine C2 ?_ | refine C3 ?_ | refine C4 ?_ | refine C5 ?_ | refine C6 ?_ | refine C7 ?_ | refine D0 fun γs => ?_ | refine A1 fun γs => ?_ | refine N2 ?_ | refine N3 ?_ | refine N1 ?_); ((conv => whnf); repeat ((first | refine Sw.o ?_ | refine B0 ?_); conv => whnf))))
      (simp (disch := omega) only [LG]; ((conv => whnf); repeat ((first | refine Sw.o ?_ | refine B0 ?_); conv => whnf)))
      (repeat ((first | refine N0 ?_ | refine A0 fun γ => ?_ | refine C1 ?_ | refine C2 ?_ | refine C3 ?_ | refine C4 ?_ | refine C5 ?_ | refine C6 ?_ | refine C7 ?_ | refine D0 fun γs => ?_ | refine A1 fun γs => ?_ | refine N2 ?_ | refine N3 ?_ | refine N1 ?_); ((conv => whnf); repeat ((first | refine Sw.o ?_ | refine B0 ?_); conv => whnf))))
      have hi' : i < a.length := by omega
      have hrg := restF_get a b i hi' (by omega) (by omega)
      refine CondP.intro (fun h => ?_) (fun h => ?_) <;> ((conv => whnf); repeat ((first | refine Sw.o ?_ | refine B0 ?_); conv => whnf))
      · (repeat ((first | refine N0 ?_ | refine A0 fun γ => ?_ | refine C1 ?_ | refine C2 ?_ | refine C3 ?_ | refine C4 ?_ | refine C5 ?_ | refine C6 ?_ | refine C7 ?_ | refine D0 fun γs => ?_ | refine A1 fun γs => ?_ | refine N2 ?_ | refine N3 ?_ | refine N1 ?_); ((conv => whnf); repeat ((first | refine Sw.o ?_ | refine B0 ?_); conv => whnf))))
        refine .intro <| W.of ⟨_, by omega, _, i + 1, hi', rfl, rfl, rfl⟩ ⟨rfl, rfl, rfl, rfl, trivial⟩ ⟨by rw [← take_snoc encB _ i (by omega) (encB false) (by rw [hrg, h]; rfl)]; rfl, trivial⟩
      · (repeat ((first | refine N0 ?_ | refine A0 fun γ => ?_ | refine C1 ?_ | refine C2 ?_ | refine C3 ?_ | refine C4 ?_ | refine C5 ?_ | refine C6 ?_ | refine C7 ?_ | refine D0 fun γs => ?_ | refine A1 fun γs => ?_ | refine N2 ?_ | refine N3 ?_ | refine N1 ?_); ((conv => whnf); repeat ((first | refine Sw.o ?_ | refine B0 ?_); conv => whnf))))
        (simp (disch := omega) only [LG]; ((conv => whnf); repeat ((first | refine Sw.o ?_ | refine B0 ?_); conv => whnf)))
        (repeat ((first | refine N0 ?_ | refine A0 fun γ => ?_ | refine C1 ?_ | refine C2 ?_ | refine C3 ?_ | refine C4 ?_ | refine C5 ?_ | refine C6 ?_ | refine C7 ?_ | refine D0 fun γs => ?_ | refine A1 fun γs => ?_ | refine N2 ?_ | refine N3 ?_ | refine N1 ?_); ((conv => whnf); repeat ((first | refine Sw.o ?_ | refine B0 ?_); conv => whnf))))
        refine .intro <| W.of ⟨_, by omega, _, i + 1, hi', rfl, rfl, rfl⟩ ⟨rfl, rfl, rfl, rfl, trivial⟩ ⟨by rw [← take_snoc encB _ i (by omega) (encB !b[i]) (by rw [hrg, h]; rfl)]; rfl, trivial⟩
    · (have h2 := h; try simp only [LN] at h2)
      (repeat ((first | refine N0 ?_ | refine A0 fun γ => ?_ | refine C1 ?_ | refine C2 ?_ | refine C3 ?_ | refine C4 ?_ | refine C5 ?_ | refine C6 ?_ | refine C7 ?_ | refine D0 fun γs => ?_ | refine A1 fun γs => ?_ | refine N2 ?_ | refine N3 ?_ | refine N1 ?_); ((conv => whnf); repeat ((first | refine Sw.o ?_ | refine B0 ?_); conv => whnf))))
      refine .of ?_
      show AV.sl 1 _ = AV.sl 1 _
      rw [snap_list _ _ _ _ (by simp; omega) (fun _ => rfl), List.take_of_length_le (by omega)]
end Go.Proofs.Ytgeeklnokblokaa
namespace Go.Proofs.Ytgeeklnokblokaa
open Go Go.Fw
/-- A graph as it should be, and not too large. -/
structure WF (g : G) : Prop where
  len : g.joined.length = g.eqs.length
  in_ : ∀ l ∈ g.joined, ∀ u ∈ l, 0 ≤ u ∧ u < g.uses.length
  se : g.eqs.length ≤ 2^20
  su : g.uses.length ≤ 2^20
  sl : ∀ l ∈ g.joined, l.length ≤ 2^20
def orAt (b : Bool) (xs : List Bool) (u : Int) : List Bool := xs.set u.toNat (xs.getD u.toNat false || b)
def joinedF (g : G) (eqs : List Bool) : List Bool := (eqs.zip g.joined).foldl (fun xs p => p.2.foldl (orAt p.1) xs) (List.replicate g.uses.length false)
theorem orAt_length (b : Bool) (xs : List Bool) (u : Int) : (orAt b xs u).length = xs.length := by simp [orAt]
set_option maxRecDepth 100000 in
theorem joined_ok (g : G) (hg : WF g) (eqs : List Bool) (hl : eqs.length ≤ g.eqs.length) : PureCall Try.prog 46 [encG g, encBs eqs] (encBs (joinedF g eqs)) := by
  refine pure_cp (E := E 0) T_ok (D_ok 0) [13] Try.func46 rfl (by rfl) (Nat.le_of_ble_eq_true rfl) ?_
  have su := hg.su
  have se := hg.se
  have hjl := hg.len
  ((conv => whnf); repeat ((first | refine Sw.o ?_ | refine B0 ?_); conv => whnf))
  (repeat ((first | refine N0 ?_ | refine A0 fun γ => ?_ | refine C1 ?_ | refine C2 ?_ | refine C3 ?_ | refine C4 ?_ | refine C5 ?_ | refine C6 ?_ | refine C7 ?_ | refine D0 fun γs => ?_ | refine A1 fun γs => ?_ | refine N2 ?_ | refine N3 ?_ | refine N1 ?_); ((conv => whnf); repeat ((first | refine Sw.o ?_ | refine B0 ?_); conv => whnf))))
  simp only [List.length_map, Int.toNat_natCast, rep_encB]
  refine LoopP.intro (fun n σ H => ∃ γ γ' i, ∃ xs : List Bool, ∃ hi : i ≤ eqs.length, n = eqs.length - i ∧ xs.length = g.uses.length ∧ ((eqs.drop i).zip (g.joined.drop i)).foldl (fun xs p => p.2.foldl (orAt p.1) xs) xs = joinedF g eqs ∧
    σ = fr [(2, .op 2 γ' 0 0), (5, .own 13 γ 0 g.uses.length), (14, encBs eqs), (15, encI eqs.length), (16, encI i)] ∧ H = hp [(13, γ, ⟨4, 1, xs.map encB⟩), (2, γ', ⟨26, 3, [encG g]⟩)]) ?_ ?_
  · exact .intro <| W.of ⟨_, _, _, 0, _, Nat.zero_le _, rfl, by simp, rfl, rfl, rfl⟩ ⟨rfl, rfl, rfl, rfl, rfl, trivial⟩ ⟨rfl, rfl, trivial⟩
  · rintro n σ H ⟨γ, γ', i, xs, hi, rfl, hxl, hx, rfl, rfl⟩
    ((conv => whnf); repeat ((first | refine Sw.o ?_ | refine B0 ?_); conv => whnf))
    (repeat ((first | refine N0 ?_ | refine A0 fun γ => ?_ | refine C1 ?_ | refine C2 ?_ | refine C3 ?_ | refine C4 ?_ | refine C5 ?_ | refine C6 ?_ | refine C7 ?_ | refine D0 fun γs => ?_ | refine A1 fun γs => ?_ | refine N2 ?_ | refine N3 ?_ | refine N1 ?_); ((conv => whnf); repeat ((first | refine Sw.o ?_ | refine B0 ?_); conv => whnf))))
    refine CondP.dec (fun h => ?_) (fun h => ?_) <;> ((conv => whnf); repeat ((first | refine Sw.o ?_ | refine B0 ?_); conv => whnf))
    · (have h2 := h; try simp only [LN] at h2)
      (repeat ((first | refine N0 ?_ | refine A0 fun γ => ?_ | refine C1 ?_ | refine C2 ?_ | refine C3 ?_ | refine C4 ?_ | refine C5 ?_ | refine C6 ?_ | refine C7 ?_ | refine D0 fun γs => ?_ | refine A1 fun γs => ?_ | refine N2 ?_ | refine N3 ?_ | refine N1 ?_); ((conv => whnf); repeat ((first | refine Sw.o ?_ | refine B0 ?_); conv => whnf))))
      (simp (disch := omega) only [LG]; ((conv => whnf); repeat ((first | refine Sw.o ?_ | refine B0 ?_); conv => whnf)))
      (repeat ((first | refine N0 ?_ | refine A0 fun γ => ?_ | refine C1 ?_ | refine C2 ?_ | refine C3 ?_ | refine C4 ?_ | refine C5 ?_ | refine C6 ?_ | refine C7 ?_ | refine D0 fun γs => ?_ | refine A1 fun γs => ?_ | refine N2 ?_ | refine N3 ?_ | refine N1 ?_); ((conv => whnf); repeat ((first | refine Sw.o ?_ | refine B0 ?_); conv => whnf))))
      (simp (disch := omega) only [LG]; ((conv => whnf); repeat ((first | refine Sw.o ?_ | refine B0 ?_); conv => whnf)))
      (repeat ((first | refine N0 ?_ | refine A0 fun γ => ?_ | refine C1 ?_ | refine C2 ?_ | refine C3 ?_ | refine C4 ?_ | refine C5 ?_ | refine C6 ?_ | refine C7 ?_ | refine D0 fun γs => ?_ | refine A1 fun γs => ?_ | refine N2 ?_ | refine N3 ?_ | refine N1 ?_); ((conv => whnf); repeat ((first | refine Sw.o ?_ | refine B0 ?_); conv => whnf))))
      have hi' : i < eqs.length := by omega
      have hij : i < g.joined.length := by omega
      rw [List.drop_eq_getElem_cons hi', List.drop_eq_getElem_cons hij, List.zip_cons_cons, List.foldl_cons] at hx
      have sl := hg.sl _ (List.getElem_mem hij)
      refine LoopP.intro (fun n σ H => ∃ γ γ' k, ∃ ys : List Bool, ∃ hk : k ≤ (g.joined[i]).length, n = (g.joined[i]).length - k ∧ ys.length = g.uses.length ∧
        ((eqs.drop (i + 1)).zip (g.joined.drop (i + 1))).foldl (fun xs p => p.2.foldl (orAt p.1) xs) (((g.joined[i]).drop k).foldl (orAt eqs[i]) ys) = joinedF g eqs ∧
        σ = fr [(2, .op 2 γ' 0 0), (5, .own 13 γ 0 g.uses.length), (14, encBs eqs), (15, encI eqs.length), (16, encI i), (7, encB eqs[i]), (25, encL g.joined[i]), (26, encI (g.joined[i]).length), (27, encI k)] ∧ H = hp [(13, γ, ⟨4, 1, ys.map encB⟩), (2, γ', ⟨26, 3, [encG g]⟩)]) ?_ ?_
      · exact .intro <| W.of ⟨_, _, _, 0, _, Nat.zero_le _, rfl, hxl, hx, rfl, rfl⟩ ⟨rfl, rfl, rfl, rfl, rfl, rfl, rfl, by simp; rfl, rfl, trivial⟩ ⟨rfl, rfl, trivial⟩
      · rintro n σ H ⟨γ, γ', k, ys, hk, rfl, hyl, hy, rfl, rfl⟩
        ((conv => whnf); repeat ((first | refine Sw.o ?_ | refine B0 ?_); conv => whnf))
        (repeat ((first | refine N0 ?_ | refine A0 fun γ => ?_ | refine C1 ?_ | refine C2 ?_ | refine C3 ?_ | refine C4 ?_ | refine C5 ?_ | refine C6 ?_ | refine C7 ?_ | refine D0 fun γs => ?_ | refine A1 fun γs => ?_ | refine N2 ?_ | refine N3 ?_ | refine N1 ?_); ((conv => whnf); repeat ((first | refine Sw.o ?_ | refine B0 ?_); conv => whnf))))
        refine CondP.dec (fun h => ?_) (fun h => ?_) <;> ((conv => whnf); repeat ((first | refine Sw.o ?_ | refine B0 ?_); conv => whnf))
        · (have h2 := h; try simp only [LN] at h2)
          (repeat ((first | refine N0 ?_ | refine A0 fun γ => ?_ | refine C1 ?_ | refine C2 ?_ | refine C3 ?_ | refine C4 ?_ | refine C5 ?_ | refine C6 ?_ | refine C7 ?_ | refine D0 fun γs => ?_ | refine A1 fun γs => ?_ | refine N2 ?_ | refine N3 ?_ | refine N1 ?_); ((conv => whnf); repeat ((first | refine Sw.o ?_ | refine B0 ?_); conv => whnf))))
          (simp (disch := omega) only [LG]; ((conv => whnf); repeat ((first | refine Sw.o ?_ | refine B0 ?_); conv => whnf)))
          have hk' : k < (g.joined[i]).length := by omega
          have hu := hg.in_ _ (List.getElem_mem hij) _ (List.getElem_mem hk')
          rw [List.drop_eq_getElem_cons hk', List.foldl_cons] at hy
          (repeat ((first | refine N0 ?_ | refine A0 fun γ => ?_ | refine C1 ?_ | refine C2 ?_ | refine C3 ?_ | refine C4 ?_ | refine C5 ?_ | refine C6 ?_ | refine C7 ?_ | refine D0 fun γs => ?_ | refine A1 fun γs => ?_ | refine N2 ?_ | refine N3 ?_ | refine N1 ?_); ((conv => whnf); repeat ((first | refine Sw.o ?_ | refine B0 ?_); conv => whnf))))
          (simp (disch := omega) only [LG]; ((conv => whnf); repeat ((first | refine Sw.o ?_ | refine B0 ?_); conv => whnf)))
          have hu1 : (g.joined[i][k]).toNat < ys.length := by omega
          have hor : ∀ v, v = (ys[(g.joined[i][k]).toNat] || eqs[i]) → orAt eqs[i] ys g.joined[i][k] = ys.set (g.joined[i][k]).toNat v := fun v hv => by unfold orAt; rw [getD_lt _ _ _ hu1, hv]
          refine CondP.intro (fun h => ?_) (fun h => ?_) <;> ((conv => whnf); repeat ((first | refine Sw.o ?_ | refine B0 ?_); conv => whnf))
          · (repeat ((first | refine N0 ?_ | refine A0 fun γ => ?_ | refine C1 ?_ | refine C2 ?_ | refine C3 ?_ | refine C4 ?_ | refine C5 ?_ | refine C6 ?_ | refine C7 ?_ | refine D0 fun γs => ?_ | refine A1 fun γs => ?_ | refine N2 ?_ | refine N3 ?_ | refine N1 ?_); ((conv => whnf); repeat ((first | refine Sw.o ?_ | refine B0 ?_); conv => whnf))))
            (simp (disch := omega) only [LG]; ((conv => whnf); repeat ((first | refine Sw.o ?_ | refine B0 ?_); conv => whnf)))
            (repeat ((first | refine N0 ?_ | refine A0 fun γ => ?_ | refine C1 ?_ | refine C2 ?_ | refine C3 ?_ | refine C4 ?_ | refine C5 ?_ | refine C6 ?_ | refine C7 ?_ | refine D0 fun γs => ?_ | refine A1 fun γs => ?_ | refine N2 ?_ | refine N3 ?_ | refine N1 ?_); ((conv => whnf); repeat ((first | refine Sw.o ?_ | refine B0 ?_); conv => whnf))))
            refine .intro <| W.of ⟨_, by omega, _, _, k + 1, ys.set (g.joined[i][k]).toNat true, hk', rfl, by simpa using hyl, by rw [← hor true (by rw [h]; rfl)]; exact hy, rfl, rfl⟩ ⟨rfl, rfl, rfl, rfl, rfl, rfl, rfl, rfl, rfl, trivial⟩ ⟨by rw [← set_map (x := true) (h := rfl)]; rfl, rfl, trivial⟩
          · (repeat ((first | refine N0 ?_ | refine A0 fun γ => ?_ | refine C1 ?_ | refine C2 ?_ | refine C3 ?_ | refine C4 ?_ | refine C5 ?_ | refine C6 ?_ | refine C7 ?_ | refine D0 fun γs => ?_ | refine A1 fun γs => ?_ | refine N2 ?_ | refine N3 ?_ | refine N1 ?_); ((conv => whnf); repeat ((first | refine Sw.o ?_ | refine B0 ?_); conv => whnf))))
            (simp (disch := omega) only [LG]; ((conv => whnf); repeat ((first | refine Sw.o ?_ | refine B0 ?_); conv => whnf)))
            (repeat ((first | refine N0 ?_ | refine A0 fun γ => ?_ | refine C1 ?_ | refine C2 ?_ | refine C3 ?_ | refine C4 ?_ | refine C5 ?_ | refine C6 ?_ | refine C7 ?_ | refine D0 fun γs => ?_ | refine A1 fun γs => ?_ | refine N2 ?_ | refine N3 ?_ | refine N1 ?_); ((conv => whnf); repeat ((first | refine Sw.o ?_ | refine B0 ?_); conv => whnf))))
            refine .intro <| W.of ⟨_, by omega, _, _, k + 1, ys.set (g.joined[i][k]).toNat eqs[i], hk', rfl, by simpa using hyl, by rw [← hor eqs[i] (by rw [h]; rfl)]; exact hy, rfl, rfl⟩ ⟨rfl, rfl, rfl, rfl, rfl, rfl, rfl, rfl, rfl, trivial⟩ ⟨by rw [← set_map (x := eqs[i]) (h := rfl)]; rfl, rfl, trivial⟩
        · (have h2 := h; try simp only [LN] at h2)
          (repeat ((first | refine N0 ?_ | refine A0 fun γ => ?_ | refine C1 ?_ | refine C2 ?_ | refine C3 ?_ | refine C4 ?_ | refine C5 ?_ | refine C6 ?_ | refine C7 ?_ | refine D0 fun γs => ?_ | refine A1 fun γs => ?_ | refine N2 ?_ | refine N3 ?_ | refine N1 ?_); ((conv => whnf); repeat ((first | refine Sw.o ?_ | refine B0 ?_); conv => whnf))))
          rw [List.drop_eq_nil_of_le (show (g.joined[i]).length ≤ k by omega), List.foldl_nil] at hy
          exact .intro <| W.of ⟨_, by omega, _, _, i + 1, ys, hi', rfl, hyl, hy, rfl, rfl⟩ ⟨rfl, rfl, rfl, rfl, rfl, trivial⟩ ⟨rfl, rfl, trivial⟩
    · (have h2 := h; try simp only [LN] at h2)
      (repeat ((first | refine N0 ?_ | refine A0 fun γ => ?_ | refine C1 ?_ | refine C2 ?_ | refine C3 ?_ | refine C4 ?_ | refine C5 ?_ | refine C6 ?_ | refine C7 ?_ | refine D0 fun γs => ?_ | refine A1 fun γs => ?_ | refine N2 ?_ | refine N3 ?_ | refine N1 ?_); ((conv => whnf); repeat ((first | refine Sw.o ?_ | refine B0 ?_); conv => whnf))))
      refine .of ?_
      show AV.sl 1 _ = AV.sl 1 _
      rw [snap_list _ _ _ _ hxl.symm (fun _ => rfl), ← hx, List.drop_eq_nil_of_le (by omega)]
      rfl
end Go.Proofs.Ytgeeklnokblokaa
namespace Go.Proofs.Ytgeeklnokblokaa
open Go Go.Fw
def prevE {α : Type} (l : List α) : Nat → Option α
  | 0 => none
  | i + 1 => l[i]?
def ltE : Option ByteArray → ByteArray → Bool
  | none, _ => true
  | some q, s => Op.bytesLess q.toList s.toList
def ltU : Option U → U → Bool
  | none, _ => true
  | some q, s => beforeF q s
def ltI : Option Int → Int → Bool
  | none, _ => true
  | some q, s => decide (q < s)
def eqsV : Option ByteArray → List ByteArray → Bool
  | _, [] => true
  | p, s :: r => nameF s && ltE p s && eqsV (some s) r
def usesV : Option U → List U → Bool
  | _, [] => true
  | p, u :: r => fitF u && !u.pre && ltU p u && usesV (some u) r
def listV (n : Nat) : Option Int → List Int → Bool
  | _, [] => true
  | p, k :: r => decide (0 ≤ k ∧ k < n) && ltI p k && listV n (some k) r
def listsV (n : Nat) : List (List Int) → Bool
  | [] => true
  | l :: r => listV n none l && listsV n r
def validG (g : G) : Bool := decide (g.joined.length = g.eqs.length) && eqsV none g.eqs && usesV none g.uses && listsV g.uses.length g.joined
def checkF (g : G) : Int := match validG g with
  | false => 1
  | true => match decide (120 < g.eqs.length ∨ 400 < g.uses.length) with
    | true => 2
    | false => 0
/-- No list is too large to be. -/
structure Sz (g : G) : Prop where
  e : g.eqs.length ≤ 2^60
  u : g.uses.length ≤ 2^60
  j : g.joined.length ≤ 2^60
  l : ∀ l ∈ g.joined, l.length ≤ 2^60
  s : ∀ s ∈ g.eqs, s.size ≤ 2^60
  n : ∀ u ∈ g.uses, u.name.size ≤ 2^60
theorem cmp_less : ∀ (a b : List UInt8), (Lib.compareBytes a b < 0) ↔ Op.bytesLess a b = true := by
  intro a
  induction a with
  | nil => intro b; cases b <;> simp [Lib.compareBytes, Op.bytesLess]
  | cons x a ih =>
    intro b
    cases b with
    | nil => simp [Lib.compareBytes, Op.bytesLess]
    | cons y b =>
      unfold Lib.compareBytes Op.bytesLess
      have h1 := ih b
      by_cases hxy : x < y
      · simp [hxy]
      · by_cases hyx : y < x
        · have hne : ¬ x = y := fun e => by subst e; exact hxy hyx
          simp [hxy, hyx, hne]
        · have : x = y := UInt8.le_antisymm (UInt8.not_lt.1 hyx) (UInt8.not_lt.1 hxy)
          subst this
          simp [hxy, h1]
theorem less_before (a b : U) : decide (0 ≤ lessF a b) = !beforeF a b := by
  unfold lessF lessG beforeF
  by_cases h1 : a.name = b.name
  · simp only [decide_eq_true h1]
    by_cases h2 : a.pre = b.pre
    · simp only [decide_eq_true h2]
      rw [← decide_not]
      exact decide_eq_decide.2 (by omega)
    · simp only [decide_eq_false h2]
      cases b.pre <;> rfl
  · simp only [decide_eq_false h1]
    have := cmp_less a.name.data.toList b.name.data.toList
    rw [ByteArray.toList_eq, ByteArray.toList_eq]
    cases hb : Op.bytesLess a.name.data.toList b.name.data.toList
    · rw [hb] at this
      exact decide_eq_true (by unfold cmpS; simp at this; exact this)
    · rw [hb] at this
      exact decide_eq_false (by unfold cmpS; simp at this; omega)
theorem fit_order {u : U} (h : fitF u = true) : 0 ≤ u.order ∧ u.order ≤ 6 := by
  unfold fitF at h
  simp only [Bool.and_eq_true, decide_eq_true_eq] at h
  exact h.1.2
set_option maxHeartbeats 4000000 in
set_option maxRecDepth 100000 in
theorem check35_ok (g : G) (hz : Sz g) : PureCall Try.prog 35 [encG g] (encI (checkF g)) := by
  refine pure_cp (E := E 0) T_ok (D_ok 0) [] Try.func35 rfl (by rfl) (Nat.le_of_ble_eq_true rfl) ?_
  have ze := hz.e
  have zu := hz.u
  have zj := hz.j
  have hlu : (g.uses.map encU).length = g.uses.length := List.length_map ..
  generalize hR : checkF g = R
  unfold checkF at hR
  generalize hV : validG g = V at hR
  unfold validG at hV
  ((conv => whnf); repeat ((first | refine Sw.o ?_ | refine B0 ?_); conv => whnf))
  (repeat ((first | refine N0 ?_ | refine A0 fun γ => ?_ | refine C1 ?_ | refine C2 ?_ | refine C3 ?_ | refine C4 ?_ | refine C5 ?_ | refine C6 ?_ | refine C7 ?_ | refine D0 fun γs => ?_ | refine A1 fun γs => ?_ | refine N2 ?_ | refine N3 ?_ | refine N1 ?_); ((conv => whnf); repeat ((first | refine Sw.o ?_ | refine B0 ?_); conv => whnf))))
  simp only [List.length_map]
  refine CondP.dec (fun h0 => ?_) (fun h0 => ?_) <;> ((conv => whnf); repeat ((first | refine Sw.o ?_ | refine B0 ?_); conv => whnf))
  · rw [decide_eq_true (by omega), Bool.true_and] at hV
    (repeat ((first | refine N0 ?_ | refine A0 fun γ => ?_ | refine C1 ?_ | refine C2 ?_ | refine C3 ?_ | refine C4 ?_ | refine C5 ?_ | refine C6 ?_ | refine C7 ?_ | refine D0 fun γs => ?_ | refine A1 fun γs => ?_ | refine N2 ?_ | refine N3 ?_ | refine N1 ?_); ((conv => whnf); repeat ((first | refine Sw.o ?_ | refine B0 ?_); conv => whnf))))
    refine LoopP.intro (fun k σ H => ∃ p i, i ≤ g.eqs.length ∧ k = g.eqs.length - i ∧ (eqsV (prevE g.eqs i) (g.eqs.drop i) && usesV none g.uses && listsV g.uses.length g.joined) = V ∧
      σ = fr [(1, .op 1 p 0 0), (19, .sl 1 (g.eqs.map encS)), (20, encI g.eqs.length), (21, encI i)] ∧ H = hp [(1, p, ⟨26, 3, [encG g]⟩)]) ?_ ?_
    · exact .intro <| W.of ⟨_, _, 0, Nat.zero_le _, rfl, hV, rfl, rfl⟩ ⟨rfl, rfl, by simp; rfl, rfl, trivial⟩ ⟨rfl, trivial⟩
    · rintro k σ H ⟨p, i, hi, rfl, hO, rfl, rfl⟩
      ((conv => whnf); repeat ((first | refine Sw.o ?_ | refine B0 ?_); conv => whnf))
      (repeat ((first | refine N0 ?_ | refine A0 fun γ => ?_ | refine C1 ?_ | refine C2 ?_ | refine C3 ?_ | refine C4 ?_ | refine C5 ?_ | refine C6 ?_ | refine C7 ?_ | refine D0 fun γs => ?_ | refine A1 fun γs => ?_ | refine N2 ?_ | refine N3 ?_ | refine N1 ?_); ((conv => whnf); repeat ((first | refine Sw.o ?_ | refine B0 ?_); conv => whnf))))
      refine CondP.dec (fun h => ?_) (fun h => ?_) <;> ((conv => whnf); repeat ((first | refine Sw.o ?_ | refine B0 ?_); conv => whnf))
      · (have h2 := h; try simp only [LN] at h2)
        have hi' : i < g.eqs.length := by omega
        have zs := hz.s _ (List.getElem_mem hi')
        rw [List.drop_eq_getElem_cons hi'] at hO
        unfold eqsV at hO
        (repeat ((first | refine N0 ?_ | refine A0 fun γ => ?_ | refine C1 ?_ | refine C2 ?_ | refine C3 ?_ | refine C4 ?_ | refine C5 ?_ | refine C6 ?_ | refine C7 ?_ | refine D0 fun γs => ?_ | refine A1 fun γs => ?_ | refine N2 ?_ | refine N3 ?_ | refine N1 ?_); ((conv => whnf); repeat ((first | refine Sw.o ?_ | refine B0 ?_); conv => whnf))))
        (simp (disch := omega) only [LG]; ((conv => whnf); repeat ((first | refine Sw.o ?_ | refine B0 ?_); conv => whnf)))
        have hprev : prevE g.eqs (i + 1) = some g.eqs[i] := List.getElem?_eq_getElem hi'
        generalize hs : g.eqs[i] = s at zs hO hprev ⊢
        (repeat ((first | refine N0 ?_ | refine A0 fun γ => ?_ | refine C1 ?_ | refine C2 ?_ | refine C3 ?_ | refine C4 ?_ | refine C5 ?_ | refine C6 ?_ | refine C7 ?_ | refine D0 fun γs => ?_ | refine A1 fun γs => ?_ | refine N2 ?_ | refine N3 ?_ | refine N1 ?_); ((conv => whnf); repeat ((first | refine Sw.o ?_ | refine B0 ?_); conv => whnf))))
        refine CallP.flat [] (encB (nameF s)) c61 (name61_ok s (by omega)) rfl ?_
        ((conv => whnf); repeat ((first | refine Sw.o ?_ | refine B0 ?_); conv => whnf))
        (repeat ((first | refine N0 ?_ | refine A0 fun γ => ?_ | refine C1 ?_ | refine C2 ?_ | refine C3 ?_ | refine C4 ?_ | refine C5 ?_ | refine C6 ?_ | refine C7 ?_ | refine D0 fun γs => ?_ | refine A1 fun γs => ?_ | refine N2 ?_ | refine N3 ?_ | refine N1 ?_); ((conv => whnf); repeat ((first | refine Sw.o ?_ | refine B0 ?_); conv => whnf))))
        refine CondP.intro (fun h1 => ?_) (fun h1 => ?_) <;> ((conv => whnf); repeat ((first | refine Sw.o ?_ | refine B0 ?_); conv => whnf))
        · rw [h1, Bool.true_and] at hO
          (repeat ((first | refine N0 ?_ | refine A0 fun γ => ?_ | refine C1 ?_ | refine C2 ?_ | refine C3 ?_ | refine C4 ?_ | refine C5 ?_ | refine C6 ?_ | refine C7 ?_ | refine D0 fun γs => ?_ | refine A1 fun γs => ?_ | refine N2 ?_ | refine N3 ?_ | refine N1 ?_); ((conv => whnf); repeat ((first | refine Sw.o ?_ | refine B0 ?_); conv => whnf))))
          refine CondP.dec (fun h2 => ?_) (fun h2 => ?_) <;> ((conv => whnf); repeat ((first | refine Sw.o ?_ | refine B0 ?_); conv => whnf))
          · obtain ⟨j, rfl⟩ : ∃ j, i = j + 1 := ⟨i - 1, by omega⟩
            have hj : j < g.eqs.length := by omega
            have hp1 : prevE g.eqs (j + 1) = some g.eqs[j] := List.getElem?_eq_getElem hj
            rw [hp1] at hO
            simp only [ltE] at hO
            (repeat ((first | refine N0 ?_ | refine A0 fun γ => ?_ | refine C1 ?_ | refine C2 ?_ | refine C3 ?_ | refine C4 ?_ | refine C5 ?_ | refine C6 ?_ | refine C7 ?_ | refine D0 fun γs => ?_ | refine A1 fun γs => ?_ | refine N2 ?_ | refine N3 ?_ | refine N1 ?_); ((conv => whnf); repeat ((first | refine Sw.o ?_ | refine B0 ?_); conv => whnf))))
            simp only [show ((↑(j + 1) : Int) - 1).toNat = j by omega]
            (simp (disch := omega) only [LG]; ((conv => whnf); repeat ((first | refine Sw.o ?_ | refine B0 ?_); conv => whnf)))
            (repeat ((first | refine N0 ?_ | refine A0 fun γ => ?_ | refine C1 ?_ | refine C2 ?_ | refine C3 ?_ | refine C4 ?_ | refine C5 ?_ | refine C6 ?_ | refine C7 ?_ | refine D0 fun γs => ?_ | refine A1 fun γs => ?_ | refine N2 ?_ | refine N3 ?_ | refine N1 ?_); ((conv => whnf); repeat ((first | refine Sw.o ?_ | refine B0 ?_); conv => whnf))))
            refine CondP.intro (fun h3 => ?_) (fun h3 => ?_) <;> ((conv => whnf); repeat ((first | refine Sw.o ?_ | refine B0 ?_); conv => whnf))
            · rw [h3, Bool.true_and] at hO
              (repeat ((first | refine N0 ?_ | refine A0 fun γ => ?_ | refine C1 ?_ | refine C2 ?_ | refine C3 ?_ | refine C4 ?_ | refine C5 ?_ | refine C6 ?_ | refine C7 ?_ | refine D0 fun γs => ?_ | refine A1 fun γs => ?_ | refine N2 ?_ | refine N3 ?_ | refine N1 ?_); ((conv => whnf); repeat ((first | refine Sw.o ?_ | refine B0 ?_); conv => whnf))))
              exact .intro <| W.of ⟨_, by omega, _, j + 1 + 1, hi', rfl, by rw [hprev]; exact hO, rfl, rfl⟩ ⟨rfl, rfl, rfl, rfl, trivial⟩ ⟨rfl, trivial⟩
            · rw [h3, Bool.false_and, Bool.false_and, Bool.false_and] at hO
              subst hO
              (repeat ((first | refine N0 ?_ | refine A0 fun γ => ?_ | refine C1 ?_ | refine C2 ?_ | refine C3 ?_ | refine C4 ?_ | refine C5 ?_ | refine C6 ?_ | refine C7 ?_ | refine D0 fun γs => ?_ | refine A1 fun γs => ?_ | refine N2 ?_ | refine N3 ?_ | refine N1 ?_); ((conv => whnf); repeat ((first | refine Sw.o ?_ | refine B0 ?_); conv => whnf))))
              exact .of (by rw [← hR]; rfl)
          · have : i = 0 := by omega
            subst this
            rw [show prevE g.eqs 0 = none from rfl] at hO
            simp only [ltE, Bool.true_and] at hO
            (repeat ((first | refine N0 ?_ | refine A0 fun γ => ?_ | refine C1 ?_ | refine C2 ?_ | refine C3 ?_ | refine C4 ?_ | refine C5 ?_ | refine C6 ?_ | refine C7 ?_ | refine D0 fun γs => ?_ | refine A1 fun γs => ?_ | refine N2 ?_ | refine N3 ?_ | refine N1 ?_); ((conv => whnf); repeat ((first | refine Sw.o ?_ | refine B0 ?_); conv => whnf))))
            exact .intro <| W.of ⟨_, by omega, _, 1, hi', rfl, by rw [hprev]; exact hO, rfl, rfl⟩ ⟨rfl, rfl, rfl, rfl, trivial⟩ ⟨rfl, trivial⟩
        · rw [h1, Bool.false_and, Bool.false_and, Bool.false_and, Bool.false_and] at hO
          subst hO
          (repeat ((first | refine N0 ?_ | refine A0 fun γ => ?_ | refine C1 ?_ | refine C2 ?_ | refine C3 ?_ | refine C4 ?_ | refine C5 ?_ | refine C6 ?_ | refine C7 ?_ | refine D0 fun γs => ?_ | refine A1 fun γs => ?_ | refine N2 ?_ | refine N3 ?_ | refine N1 ?_); ((conv => whnf); repeat ((first | refine Sw.o ?_ | refine B0 ?_); conv => whnf))))
          exact .of (by rw [← hR]; rfl)
      · (have h2 := h; try simp only [LN] at h2)
        rw [List.drop_eq_nil_of_le (by omega)] at hO
        simp only [eqsV, Bool.true_and] at hO
        clear hV
        (repeat ((first | refine N0 ?_ | refine A0 fun γ => ?_ | refine C1 ?_ | refine C2 ?_ | refine C3 ?_ | refine C4 ?_ | refine C5 ?_ | refine C6 ?_ | refine C7 ?_ | refine D0 fun γs => ?_ | refine A1 fun γs => ?_ | refine N2 ?_ | refine N3 ?_ | refine N1 ?_); ((conv => whnf); repeat ((first | refine Sw.o ?_ | refine B0 ?_); conv => whnf))))
        refine LoopP.intro (fun k σ H => ∃ p i, i ≤ g.uses.length ∧ k = g.uses.length - i ∧ (∀ q, prevE g.uses i = some q → 0 ≤ q.order ∧ q.order ≤ 6) ∧ (usesV (prevE g.uses i) (g.uses.drop i) && listsV g.uses.length g.joined) = V ∧
          σ = fr [(1, .op 1 p 0 0), (45, .sl 3 (g.uses.map encU)), (46, encI g.uses.length), (47, encI i)] ∧ H = hp [(1, p, ⟨26, 3, [encG g]⟩)]) ?_ ?_
        · exact .intro <| W.of ⟨_, _, 0, Nat.zero_le _, rfl, (fun q hq => by cases hq), hO, rfl, rfl⟩ ⟨rfl, rfl, by simp; rfl, rfl, trivial⟩ ⟨rfl, trivial⟩
        · rintro k σ H ⟨p, i, hi, rfl, hpr, hO, rfl, rfl⟩
          ((conv => whnf); repeat ((first | refine Sw.o ?_ | refine B0 ?_); conv => whnf))
          (repeat ((first | refine N0 ?_ | refine A0 fun γ => ?_ | refine C1 ?_ | refine C2 ?_ | refine C3 ?_ | refine C4 ?_ | refine C5 ?_ | refine C6 ?_ | refine C7 ?_ | refine D0 fun γs => ?_ | refine A1 fun γs => ?_ | refine N2 ?_ | refine N3 ?_ | refine N1 ?_); ((conv => whnf); repeat ((first | refine Sw.o ?_ | refine B0 ?_); conv => whnf))))
          refine CondP.dec (fun h => ?_) (fun h => ?_) <;> ((conv => whnf); repeat ((first | refine Sw.o ?_ | refine B0 ?_); conv => whnf))
          · (have h2 := h; try simp only [LN] at h2)
            have hi' : i < g.uses.length := by omega
            have zs := hz.n _ (List.getElem_mem hi')
            rw [List.drop_eq_getElem_cons hi'] at hO
            unfold usesV at hO
            (repeat ((first | refine N0 ?_ | refine A0 fun γ => ?_ | refine C1 ?_ | refine C2 ?_ | refine C3 ?_ | refine C4 ?_ | refine C5 ?_ | refine C6 ?_ | refine C7 ?_ | refine A1 fun γs => ?_ | refine N2 ?_ | refine N3 ?_ | refine N1 ?_); ((conv => whnf); repeat ((first | refine Sw.o ?_ | refine B0 ?_); conv => whnf))))
            (simp (disch := omega) only [LG]; ((conv => whnf); repeat ((first | refine Sw.o ?_ | refine B0 ?_); conv => whnf)))
            have hprev : prevE g.uses (i + 1) = some g.uses[i] := List.getElem?_eq_getElem hi'
            generalize hs : g.uses[i] = u at zs hO hprev ⊢
            (repeat ((first | refine N0 ?_ | refine A0 fun γ => ?_ | refine C1 ?_ | refine C2 ?_ | refine C3 ?_ | refine C4 ?_ | refine C5 ?_ | refine C6 ?_ | refine C7 ?_ | refine A1 fun γs => ?_ | refine N2 ?_ | refine N3 ?_ | refine N1 ?_); ((conv => whnf); repeat ((first | refine Sw.o ?_ | refine B0 ?_); conv => whnf))))
            refine DrawH.intro T_ok fun γs => ?_
            ((conv => whnf); repeat ((first | refine Sw.o ?_ | refine B0 ?_); conv => whnf))
            (repeat ((first | refine N0 ?_ | refine A0 fun γ => ?_ | refine C1 ?_ | refine C2 ?_ | refine C3 ?_ | refine C4 ?_ | refine C5 ?_ | refine C6 ?_ | refine C7 ?_ | refine A1 fun γs => ?_ | refine N2 ?_ | refine N3 ?_ | refine N1 ?_); ((conv => whnf); repeat ((first | refine Sw.o ?_ | refine B0 ?_); conv => whnf))))
            refine CallG.intro (encB (fitF u)) c62 (fit62_ok u (by omega)) ?_
            ((conv => whnf); repeat ((first | refine Sw.o ?_ | refine B0 ?_); conv => whnf))
            (repeat ((first | refine N0 ?_ | refine A0 fun γ => ?_ | refine C1 ?_ | refine C2 ?_ | refine C3 ?_ | refine C4 ?_ | refine C5 ?_ | refine C6 ?_ | refine C7 ?_ | refine A1 fun γs => ?_ | refine N2 ?_ | refine N3 ?_ | refine N1 ?_); ((conv => whnf); repeat ((first | refine Sw.o ?_ | refine B0 ?_); conv => whnf))))
            refine CondP.intro (fun h1 => ?_) (fun h1 => ?_) <;> ((conv => whnf); repeat ((first | refine Sw.o ?_ | refine B0 ?_); conv => whnf))
            · rw [h1, Bool.true_and] at hO
              (repeat ((first | refine N0 ?_ | refine A0 fun γ => ?_ | refine C1 ?_ | refine C2 ?_ | refine C3 ?_ | refine C4 ?_ | refine C5 ?_ | refine C6 ?_ | refine C7 ?_ | refine A1 fun γs => ?_ | refine N2 ?_ | refine N3 ?_ | refine N1 ?_); ((conv => whnf); repeat ((first | refine Sw.o ?_ | refine B0 ?_); conv => whnf))))
              refine CondP.intro (fun h2 => ?_) (fun h2 => ?_) <;> ((conv => whnf); repeat ((first | refine Sw.o ?_ | refine B0 ?_); conv => whnf))
              · rw [h2, Bool.not_true, Bool.false_and, Bool.false_and, Bool.false_and] at hO
                subst hO
                (repeat ((first | refine N0 ?_ | refine A0 fun γ => ?_ | refine C1 ?_ | refine C2 ?_ | refine C3 ?_ | refine C4 ?_ | refine C5 ?_ | refine C6 ?_ | refine C7 ?_ | refine A1 fun γs => ?_ | refine N2 ?_ | refine N3 ?_ | refine N1 ?_); ((conv => whnf); repeat ((first | refine Sw.o ?_ | refine B0 ?_); conv => whnf))))
                exact .of (by rw [← hR]; rfl)
              · rw [h2, Bool.not_false, Bool.true_and] at hO
                (repeat ((first | refine N0 ?_ | refine A0 fun γ => ?_ | refine C1 ?_ | refine C2 ?_ | refine C3 ?_ | refine C4 ?_ | refine C5 ?_ | refine C6 ?_ | refine C7 ?_ | refine A1 fun γs => ?_ | refine N2 ?_ | refine N3 ?_ | refine N1 ?_); ((conv => whnf); repeat ((first | refine Sw.o ?_ | refine B0 ?_); conv => whnf))))
                refine CondP.dec (fun h3 => ?_) (fun h3 => ?_) <;> ((conv => whnf); repeat ((first | refine Sw.o ?_ | refine B0 ?_); conv => whnf))
                · obtain ⟨j, rfl⟩ : ∃ j, i = j + 1 := ⟨i - 1, by omega⟩
                  have hj : j < g.uses.length := by omega
                  have hp1 : prevE g.uses (j + 1) = some g.uses[j] := List.getElem?_eq_getElem hj
                  have hq := hpr _ hp1
                  rw [hp1] at hO
                  simp only [ltU] at hO
                  (repeat ((first | refine N0 ?_ | refine A0 fun γ => ?_ | refine C1 ?_ | refine C2 ?_ | refine C3 ?_ | refine C4 ?_ | refine C5 ?_ | refine C6 ?_ | refine C7 ?_ | refine A1 fun γs => ?_ | refine N2 ?_ | refine N3 ?_ | refine N1 ?_); ((conv => whnf); repeat ((first | refine Sw.o ?_ | refine B0 ?_); conv => whnf))))
                  simp only [show ((↑(j + 1) : Int) - 1).toNat = j by omega]
                  (simp (disch := omega) only [LG]; ((conv => whnf); repeat ((first | refine Sw.o ?_ | refine B0 ?_); conv => whnf)))
                  (repeat ((first | refine N0 ?_ | refine A0 fun γ => ?_ | refine C1 ?_ | refine C2 ?_ | refine C3 ?_ | refine C4 ?_ | refine C5 ?_ | refine C6 ?_ | refine C7 ?_ | refine A1 fun γs => ?_ | refine N2 ?_ | refine N3 ?_ | refine N1 ?_); ((conv => whnf); repeat ((first | refine Sw.o ?_ | refine B0 ?_); conv => whnf))))
                  refine CallG.intro (encI (lessF g.uses[j] u)) c63 (less63_ok g.uses[j] u hq (fit_order h1)) ?_
                  have hlb := less_before g.uses[j] u
                  ((conv => whnf); repeat ((first | refine Sw.o ?_ | refine B0 ?_); conv => whnf))
                  (repeat ((first | refine N0 ?_ | refine A0 fun γ => ?_ | refine C1 ?_ | refine C2 ?_ | refine C3 ?_ | refine C4 ?_ | refine C5 ?_ | refine C6 ?_ | refine C7 ?_ | refine A1 fun γs => ?_ | refine N2 ?_ | refine N3 ?_ | refine N1 ?_); ((conv => whnf); repeat ((first | refine Sw.o ?_ | refine B0 ?_); conv => whnf))))
                  rw [hlb]
                  refine CondP.not ?_
                  refine CondP.intro (fun h4 => ?_) (fun h4 => ?_) <;> ((conv => whnf); repeat ((first | refine Sw.o ?_ | refine B0 ?_); conv => whnf))
                  · rw [h4, Bool.true_and] at hO
                    (repeat ((first | refine N0 ?_ | refine A0 fun γ => ?_ | refine C1 ?_ | refine C2 ?_ | refine C3 ?_ | refine C4 ?_ | refine C5 ?_ | refine C6 ?_ | refine C7 ?_ | refine A1 fun γs => ?_ | refine N2 ?_ | refine N3 ?_ | refine N1 ?_); ((conv => whnf); repeat ((first | refine Sw.o ?_ | refine B0 ?_); conv => whnf))))
                    exact .intro <| W.of ⟨_, by omega, _, j + 1 + 1, hi', rfl, (by rw [hprev]; rintro q hq; cases hq; exact fit_order h1), by rw [hprev]; exact hO, rfl, rfl⟩ ⟨rfl, rfl, rfl, rfl, trivial⟩ ⟨rfl, trivial⟩
                  · rw [h4, Bool.false_and, Bool.false_and] at hO
                    subst hO
                    (repeat ((first | refine N0 ?_ | refine A0 fun γ => ?_ | refine C1 ?_ | refine C2 ?_ | refine C3 ?_ | refine C4 ?_ | refine C5 ?_ | refine C6 ?_ | refine C7 ?_ | refine A1 fun γs => ?_ | refine N2 ?_ | refine N3 ?_ | refine N1 ?_); ((conv => whnf); repeat ((first | refine Sw.o ?_ | refine B0 ?_); conv => whnf))))
                    exact .of (by rw [← hR]; rfl)
                · have : i = 0 := by omega
                  subst this
                  rw [show prevE g.uses 0 = none from rfl] at hO
                  simp only [ltU, Bool.true_and] at hO
                  (repeat ((first | refine N0 ?_ | refine A0 fun γ => ?_ | refine C1 ?_ | refine C2 ?_ | refine C3 ?_ | refine C4 ?_ | refine C5 ?_ | refine C6 ?_ | refine C7 ?_ | refine A1 fun γs => ?_ | refine N2 ?_ | refine N3 ?_ | refine N1 ?_); ((conv => whnf); repeat ((first | refine Sw.o ?_ | refine B0 ?_); conv => whnf))))
                  exact .intro <| W.of ⟨_, by omega, _, 1, hi', rfl, (by rw [hprev]; rintro q hq; cases hq; exact fit_order h1), by rw [hprev]; exact hO, rfl, rfl⟩ ⟨rfl, rfl, rfl, rfl, trivial⟩ ⟨rfl, trivial⟩
            · rw [h1, Bool.false_and, Bool.false_and, Bool.false_and, Bool.false_and] at hO
              subst hO
              (repeat ((first | refine N0 ?_ | refine A0 fun γ => ?_ | refine C1 ?_ | refine C2 ?_ | refine C3 ?_ | refine C4 ?_ | refine C5 ?_ | refine C6 ?_ | refine C7 ?_ | refine A1 fun γs => ?_ | refine N2 ?_ | refine N3 ?_ | refine N1 ?_); ((conv => whnf); repeat ((first | refine Sw.o ?_ | refine B0 ?_); conv => whnf))))
              exact .of (by rw [← hR]; rfl)
          · (have h2 := h; try simp only [LN] at h2)
            rw [List.drop_eq_nil_of_le (by omega)] at hO
            simp only [usesV, Bool.true_and] at hO
            (repeat ((first | refine N0 ?_ | refine A0 fun γ => ?_ | refine C1 ?_ | refine C2 ?_ | refine C3 ?_ | refine C4 ?_ | refine C5 ?_ | refine C6 ?_ | refine C7 ?_ | refine D0 fun γs => ?_ | refine A1 fun γs => ?_ | refine N2 ?_ | refine N3 ?_ | refine N1 ?_); ((conv => whnf); repeat ((first | refine Sw.o ?_ | refine B0 ?_); conv => whnf))))
            refine LoopP.intro (fun k σ H => ∃ p i, i ≤ g.joined.length ∧ k = g.joined.length - i ∧ listsV g.uses.length (g.joined.drop i) = V ∧
              σ = fr [(1, .op 1 p 0 0), (76, .sl 1 (g.joined.map encL)), (77, encI g.joined.length), (78, encI i)] ∧ H = hp [(1, p, ⟨26, 3, [encG g]⟩)]) ?_ ?_
            · exact .intro <| W.of ⟨_, _, 0, Nat.zero_le _, rfl, hO, rfl, rfl⟩ ⟨rfl, rfl, by simp; rfl, rfl, trivial⟩ ⟨rfl, trivial⟩
            · rintro k σ H ⟨p, i, hi, rfl, hO, rfl, rfl⟩
              ((conv => whnf); repeat ((first | refine Sw.o ?_ | refine B0 ?_); conv => whnf))
              (repeat ((first | refine N0 ?_ | refine A0 fun γ => ?_ | refine C1 ?_ | refine C2 ?_ | refine C3 ?_ | refine C4 ?_ | refine C5 ?_ | refine C6 ?_ | refine C7 ?_ | refine D0 fun γs => ?_ | refine A1 fun γs => ?_ | refine N2 ?_ | refine N3 ?_ | refine N1 ?_); ((conv => whnf); repeat ((first | refine Sw.o ?_ | refine B0 ?_); conv => whnf))))
              refine CondP.dec (fun h => ?_) (fun h => ?_) <;> ((conv => whnf); repeat ((first | refine Sw.o ?_ | refine B0 ?_); conv => whnf))
              · (have h2 := h; try simp only [LN] at h2)
                have hi' : i < g.joined.length := by omega
                have zl := hz.l _ (List.getElem_mem hi')
                rw [List.drop_eq_getElem_cons hi'] at hO
                unfold listsV at hO
                (repeat ((first | refine N0 ?_ | refine A0 fun γ => ?_ | refine C1 ?_ | refine C2 ?_ | refine C3 ?_ | refine C4 ?_ | refine C5 ?_ | refine C6 ?_ | refine C7 ?_ | refine D0 fun γs => ?_ | refine A1 fun γs => ?_ | refine N2 ?_ | refine N3 ?_ | refine N1 ?_); ((conv => whnf); repeat ((first | refine Sw.o ?_ | refine B0 ?_); conv => whnf))))
                (simp (disch := omega) only [LG]; ((conv => whnf); repeat ((first | refine Sw.o ?_ | refine B0 ?_); conv => whnf)))
                generalize g.joined[i] = l at zl hO ⊢
                (repeat ((first | refine N0 ?_ | refine A0 fun γ => ?_ | refine C1 ?_ | refine C2 ?_ | refine C3 ?_ | refine C4 ?_ | refine C5 ?_ | refine C6 ?_ | refine C7 ?_ | refine D0 fun γs => ?_ | refine A1 fun γs => ?_ | refine N2 ?_ | refine N3 ?_ | refine N1 ?_); ((conv => whnf); repeat ((first | refine Sw.o ?_ | refine B0 ?_); conv => whnf))))
                refine LoopP.intro (fun k σ H => ∃ p m, m ≤ l.length ∧ k = l.length - m ∧ (listV g.uses.length (prevE l m) (l.drop m) && listsV g.uses.length (g.joined.drop (i + 1))) = V ∧
                  σ = fr [(1, .op 1 p 0 0), (76, .sl 1 (g.joined.map encL)), (77, encI g.joined.length), (78, encI i), (8, encL l), (82, encL l), (83, encI l.length), (84, encI m)] ∧ H = hp [(1, p, ⟨26, 3, [encG g]⟩)]) ?_ ?_
                · exact .intro <| W.of ⟨_, _, 0, Nat.zero_le _, rfl, hO, rfl, rfl⟩ ⟨rfl, rfl, rfl, rfl, rfl, rfl, by simp; rfl, rfl, trivial⟩ ⟨rfl, trivial⟩
                · rintro k σ H ⟨p, m, hm, rfl, hO, rfl, rfl⟩
                  ((conv => whnf); repeat ((first | refine Sw.o ?_ | refine B0 ?_); conv => whnf))
                  (repeat ((first | refine N0 ?_ | refine A0 fun γ => ?_ | refine C1 ?_ | refine C2 ?_ | refine C3 ?_ | refine C4 ?_ | refine C5 ?_ | refine C6 ?_ | refine C7 ?_ | refine D0 fun γs => ?_ | refine A1 fun γs => ?_ | refine N2 ?_ | refine N3 ?_ | refine N1 ?_); ((conv => whnf); repeat ((first | refine Sw.o ?_ | refine B0 ?_); conv => whnf))))
                  refine CondP.dec (fun h => ?_) (fun h => ?_) <;> ((conv => whnf); repeat ((first | refine Sw.o ?_ | refine B0 ?_); conv => whnf))
                  · (have h2 := h; try simp only [LN] at h2)
                    have hm' : m < l.length := by omega
                    rw [List.drop_eq_getElem_cons hm'] at hO
                    unfold listV at hO
                    (repeat ((first | refine N0 ?_ | refine A0 fun γ => ?_ | refine C1 ?_ | refine C2 ?_ | refine C3 ?_ | refine C4 ?_ | refine C5 ?_ | refine C6 ?_ | refine C7 ?_ | refine D0 fun γs => ?_ | refine A1 fun γs => ?_ | refine N2 ?_ | refine N3 ?_ | refine N1 ?_); ((conv => whnf); repeat ((first | refine Sw.o ?_ | refine B0 ?_); conv => whnf))))
                    (simp (disch := omega) only [LG]; ((conv => whnf); repeat ((first | refine Sw.o ?_ | refine B0 ?_); conv => whnf)))
                    have hprev : prevE l (m + 1) = some l[m] := List.getElem?_eq_getElem hm'
                    generalize l[m] = u at hO hprev ⊢
                    (repeat ((first | refine N0 ?_ | refine A0 fun γ => ?_ | refine C1 ?_ | refine C2 ?_ | refine C3 ?_ | refine C4 ?_ | refine C5 ?_ | refine C6 ?_ | refine C7 ?_ | refine D0 fun γs => ?_ | refine A1 fun γs => ?_ | refine N2 ?_ | refine N3 ?_ | refine N1 ?_); ((conv => whnf); repeat ((first | refine Sw.o ?_ | refine B0 ?_); conv => whnf))))
                    refine CondP.dec (fun h1 => ?_) (fun h1 => ?_) <;> ((conv => whnf); repeat ((first | refine Sw.o ?_ | refine B0 ?_); conv => whnf))
                    · rw [decide_eq_false (by omega), Bool.false_and, Bool.false_and, Bool.false_and] at hO
                      subst hO
                      (repeat ((first | refine N0 ?_ | refine A0 fun γ => ?_ | refine C1 ?_ | refine C2 ?_ | refine C3 ?_ | refine C4 ?_ | refine C5 ?_ | refine C6 ?_ | refine C7 ?_ | refine D0 fun γs => ?_ | refine A1 fun γs => ?_ | refine N2 ?_ | refine N3 ?_ | refine N1 ?_); ((conv => whnf); repeat ((first | refine Sw.o ?_ | refine B0 ?_); conv => whnf))))
                      exact .of (by rw [← hR]; rfl)
                    · (repeat ((first | refine N0 ?_ | refine A0 fun γ => ?_ | refine C1 ?_ | refine C2 ?_ | refine C3 ?_ | refine C4 ?_ | refine C5 ?_ | refine C6 ?_ | refine C7 ?_ | refine D0 fun γs => ?_ | refine A1 fun γs => ?_ | refine N2 ?_ | refine N3 ?_ | refine N1 ?_); ((conv => whnf); repeat ((first | refine Sw.o ?_ | refine B0 ?_); conv => whnf))))
                      refine CondP.dec (fun h2 => ?_) (fun h2 => ?_) <;> ((conv => whnf); repeat ((first | refine Sw.o ?_ | refine B0 ?_); conv => whnf))
                      · rw [decide_eq_false (by omega), Bool.false_and, Bool.false_and, Bool.false_and] at hO
                        subst hO
                        (repeat ((first | refine N0 ?_ | refine A0 fun γ => ?_ | refine C1 ?_ | refine C2 ?_ | refine C3 ?_ | refine C4 ?_ | refine C5 ?_ | refine C6 ?_ | refine C7 ?_ | refine D0 fun γs => ?_ | refine A1 fun γs => ?_ | refine N2 ?_ | refine N3 ?_ | refine N1 ?_); ((conv => whnf); repeat ((first | refine Sw.o ?_ | refine B0 ?_); conv => whnf))))
                        exact .of (by rw [← hR]; rfl)
                      · rw [decide_eq_true (by omega), Bool.true_and] at hO
                        (repeat ((first | refine N0 ?_ | refine A0 fun γ => ?_ | refine C1 ?_ | refine C2 ?_ | refine C3 ?_ | refine C4 ?_ | refine C5 ?_ | refine C6 ?_ | refine C7 ?_ | refine D0 fun γs => ?_ | refine A1 fun γs => ?_ | refine N2 ?_ | refine N3 ?_ | refine N1 ?_); ((conv => whnf); repeat ((first | refine Sw.o ?_ | refine B0 ?_); conv => whnf))))
                        refine CondP.dec (fun h3 => ?_) (fun h3 => ?_) <;> ((conv => whnf); repeat ((first | refine Sw.o ?_ | refine B0 ?_); conv => whnf))
                        · obtain ⟨j, rfl⟩ : ∃ j, m = j + 1 := ⟨m - 1, by omega⟩
                          have hj : j < l.length := by omega
                          have hp1 : prevE l (j + 1) = some l[j] := List.getElem?_eq_getElem hj
                          rw [hp1] at hO
                          simp only [ltI] at hO
                          (repeat ((first | refine N0 ?_ | refine A0 fun γ => ?_ | with_reducible refine C1 ?_ | with_reducible refine C2 ?_ | with_reducible refine C3 ?_ | refine C8 ?_ | refine C9 ?_ | refine C6 ?_ | refine C7 ?_ | refine A1 fun γs => ?_ | refine N2 ?_ | refine N3 ?_ | refine N1 ?_); ((conv => whnf); repeat ((first | refine Sw.o ?_ | refine B0 ?_); conv => whnf))))
                          simp only [show ((↑(j + 1) : Int) - 1).toNat = j by omega]
                          (simp (disch := omega) only [LG]; ((conv => whnf); repeat ((first | refine Sw.o ?_ | refine B0 ?_); conv => whnf)))
                          (repeat ((first | refine N0 ?_ | refine A0 fun γ => ?_ | with_reducible refine C1 ?_ | with_reducible refine C2 ?_ | with_reducible refine C3 ?_ | refine C8 ?_ | refine C9 ?_ | refine C6 ?_ | refine C7 ?_ | refine A1 fun γs => ?_ | refine N2 ?_ | refine N3 ?_ | refine N1 ?_); ((conv => whnf); repeat ((first | refine Sw.o ?_ | refine B0 ?_); conv => whnf))))
                          refine CondP.dec (fun h4 => ?_) (fun h4 => ?_) <;> ((conv => whnf); repeat ((first | refine Sw.o ?_ | refine B0 ?_); conv => whnf))
                          · rw [decide_eq_false (by omega), Bool.false_and, Bool.false_and] at hO
                            subst hO
                            (repeat ((first | refine N0 ?_ | refine A0 fun γ => ?_ | refine C1 ?_ | refine C2 ?_ | refine C3 ?_ | refine C4 ?_ | refine C5 ?_ | refine C6 ?_ | refine C7 ?_ | refine D0 fun γs => ?_ | refine A1 fun γs => ?_ | refine N2 ?_ | refine N3 ?_ | refine N1 ?_); ((conv => whnf); repeat ((first | refine Sw.o ?_ | refine B0 ?_); conv => whnf))))
                            exact .of (by rw [← hR]; rfl)
                          · rw [decide_eq_true (by omega), Bool.true_and] at hO
                            (repeat ((first | refine N0 ?_ | refine A0 fun γ => ?_ | refine C1 ?_ | refine C2 ?_ | refine C3 ?_ | refine C4 ?_ | refine C5 ?_ | refine C6 ?_ | refine C7 ?_ | refine D0 fun γs => ?_ | refine A1 fun γs => ?_ | refine N2 ?_ | refine N3 ?_ | refine N1 ?_); ((conv => whnf); repeat ((first | refine Sw.o ?_ | refine B0 ?_); conv => whnf))))
                            exact .intro <| W.of ⟨_, by omega, _, j + 1 + 1, hm', rfl, by rw [hprev]; exact hO, rfl, rfl⟩ ⟨rfl, rfl, rfl, rfl, rfl, rfl, rfl, rfl, trivial⟩ ⟨rfl, trivial⟩
                        · have : m = 0 := by omega
                          subst this
                          rw [show prevE l 0 = none from rfl] at hO
                          simp only [ltI, Bool.true_and] at hO
                          (repeat ((first | refine N0 ?_ | refine A0 fun γ => ?_ | refine C1 ?_ | refine C2 ?_ | refine C3 ?_ | refine C4 ?_ | refine C5 ?_ | refine C6 ?_ | refine C7 ?_ | refine D0 fun γs => ?_ | refine A1 fun γs => ?_ | refine N2 ?_ | refine N3 ?_ | refine N1 ?_); ((conv => whnf); repeat ((first | refine Sw.o ?_ | refine B0 ?_); conv => whnf))))
                          exact .intro <| W.of ⟨_, by omega, _, 1, hm', rfl, by rw [hprev]; exact hO, rfl, rfl⟩ ⟨rfl, rfl, rfl, rfl, rfl, rfl, rfl, rfl, trivial⟩ ⟨rfl, trivial⟩
                  · (have h2 := h; try simp only [LN] at h2)
                    rw [List.drop_eq_nil_of_le (by omega)] at hO
                    simp only [listV, Bool.true_and] at hO
                    (repeat ((first | refine N0 ?_ | refine A0 fun γ => ?_ | refine C1 ?_ | refine C2 ?_ | refine C3 ?_ | refine C4 ?_ | refine C5 ?_ | refine C6 ?_ | refine C7 ?_ | refine D0 fun γs => ?_ | refine A1 fun γs => ?_ | refine N2 ?_ | refine N3 ?_ | refine N1 ?_); ((conv => whnf); repeat ((first | refine Sw.o ?_ | refine B0 ?_); conv => whnf))))
                    exact .intro <| W.of ⟨_, by omega, _, i + 1, hi', rfl, hO, rfl, rfl⟩ ⟨rfl, rfl, rfl, rfl, trivial⟩ ⟨rfl, trivial⟩
              · (have h2 := h; try simp only [LN] at h2)
                rw [List.drop_eq_nil_of_le (by omega)] at hO
                simp only [listsV] at hO
                subst hO
                simp only at hR
                (repeat ((first | refine N0 ?_ | refine A0 fun γ => ?_ | refine C1 ?_ | refine C2 ?_ | refine C3 ?_ | refine C4 ?_ | refine C5 ?_ | refine C6 ?_ | refine C7 ?_ | refine A1 fun γs => ?_ | refine N2 ?_ | refine N3 ?_ | refine N1 ?_); ((conv => whnf); repeat ((first | refine Sw.o ?_ | refine B0 ?_); conv => whnf))))
                simp only [List.length_map]
                refine CondP.dec (fun h1 => ?_) (fun h1 => ?_) <;> ((conv => whnf); repeat ((first | refine Sw.o ?_ | refine B0 ?_); conv => whnf))
                · rw [decide_eq_true (by omega)] at hR
                  (repeat ((first | refine N0 ?_ | refine A0 fun γ => ?_ | refine C1 ?_ | refine C2 ?_ | refine C3 ?_ | refine C4 ?_ | refine C5 ?_ | refine C6 ?_ | refine C7 ?_ | refine D0 fun γs => ?_ | refine A1 fun γs => ?_ | refine N2 ?_ | refine N3 ?_ | refine N1 ?_); ((conv => whnf); repeat ((first | refine Sw.o ?_ | refine B0 ?_); conv => whnf))))
                  exact .of (by rw [← hR]; rfl)
                · (repeat ((first | refine N0 ?_ | refine A0 fun γ => ?_ | refine C1 ?_ | refine C2 ?_ | refine C3 ?_ | refine C4 ?_ | refine C5 ?_ | refine C6 ?_ | refine C7 ?_ | refine A1 fun γs => ?_ | refine N2 ?_ | refine N3 ?_ | refine N1 ?_); ((conv => whnf); repeat ((first | refine Sw.o ?_ | refine B0 ?_); conv => whnf))))
                  simp only [List.length_map]
                  refine CondP.dec (fun h2 => ?_) (fun h2 => ?_) <;> ((conv => whnf); repeat ((first | refine Sw.o ?_ | refine B0 ?_); conv => whnf))
                  · rw [decide_eq_true (by omega)] at hR
                    (repeat ((first | refine N0 ?_ | refine A0 fun γ => ?_ | refine C1 ?_ | refine C2 ?_ | refine C3 ?_ | refine C4 ?_ | refine C5 ?_ | refine C6 ?_ | refine C7 ?_ | refine D0 fun γs => ?_ | refine A1 fun γs => ?_ | refine N2 ?_ | refine N3 ?_ | refine N1 ?_); ((conv => whnf); repeat ((first | refine Sw.o ?_ | refine B0 ?_); conv => whnf))))
                    exact .of (by rw [← hR]; rfl)
                  · rw [decide_eq_false (by omega)] at hR
                    (repeat ((first | refine N0 ?_ | refine A0 fun γ => ?_ | refine C1 ?_ | refine C2 ?_ | refine C3 ?_ | refine C4 ?_ | refine C5 ?_ | refine C6 ?_ | refine C7 ?_ | refine D0 fun γs => ?_ | refine A1 fun γs => ?_ | refine N2 ?_ | refine N3 ?_ | refine N1 ?_); ((conv => whnf); repeat ((first | refine Sw.o ?_ | refine B0 ?_); conv => whnf))))
                    exact .of (by rw [← hR]; rfl)
  · rw [decide_eq_false (by omega), Bool.false_and, Bool.false_and] at hV
    subst hV
    (repeat ((first | refine N0 ?_ | refine A0 fun γ => ?_ | refine C1 ?_ | refine C2 ?_ | refine C3 ?_ | refine C4 ?_ | refine C5 ?_ | refine C6 ?_ | refine C7 ?_ | refine D0 fun γs => ?_ | refine A1 fun γs => ?_ | refine N2 ?_ | refine N3 ?_ | refine N1 ?_); ((conv => whnf); repeat ((first | refine Sw.o ?_ | refine B0 ?_); conv => whnf))))
    exact .of (by rw [← hR]; rfl)
end Go.Proofs.Ytgeeklnokblokaa
namespace Go.Proofs.Ytgeeklnokblokaa
open Go Go.Fw Go.ChangeShapes Go.WideShapes Go.ChangeAt Go.RowKit
theorem Opens.to {H : Type} {enc : TypeId × Value → H} {P : Program} {w : World} {t : Nat} {A B : Type} {f : A → AV} {f' : B → AV} {Φ : A → Prop} {Φ' : B → Prop} (h : Opens enc P w t f Φ) (k : ∀ a, Φ a → ∃ b, f a = f' b ∧ Φ' b) : Opens enc P w t f' Φ' := by
  intro fuel cs x h1 h2
  obtain ⟨a, h3, h4⟩ := h fuel cs x h1 h2
  obtain ⟨b, h5, h6⟩ := k a h4
  exact ⟨b, h5 ▸ h3, h6⟩
theorem own_knob : ownKnob Try.prog.godebug = none := by kernel_rfl
theorem laid_out : laidOutB Try.prog = true := by kernel_rfl
theorem tdo (t : Nat) (d : TD) (h : T t = some d) : tdOf Try.prog t = some d := T_ok t d h
theorem und_slice {t e : Nat} {d : TD} (hd : T t = some d) (hk : d.kind = .slice e) : Try.prog.underlying t = some (.slice e) := by
  obtain ⟨u, hu, hr⟩ := (tfact (T_ok _ _ hd)).und
  rw [hk] at hr
  cases u <;> simp [kdOf] at hr
  subst hr; exact hu
section
variable {H : Type} {enc : TypeId × Value → H} {w : World}
theorem u3 : Try.prog.underlying 3 = some (.int .i64) := by kernel_rfl
theorem u4 : Try.prog.underlying 4 = some .bool := by kernel_rfl
theorem u9 : Try.prog.underlying 9 = some .string := by kernel_rfl
theorem opensS : Opens enc Try.prog w 9 encS (fun s => s.size ≤ reachBytes) := opens_str u9
theorem opensI : Opens enc Try.prog w 3 encI (fun _ => True) := Opens.to (opens_int u3) fun a _ => ⟨a, rfl, trivial⟩
theorem opensU : Opens enc Try.prog w 50 encU (fun u => u.name.size ≤ reachBytes) := by
  obtain ⟨fs, hu, hf⟩ := und_struct (T_ok 50 _ rfl) rfl
  exact Opens.to (opens_struct3 hu hf (by kernel_rfl) (by kernel_rfl) (by kernel_rfl) (by kernel_rfl) opensS opensI (opens_bool u4)) fun a h => ⟨⟨a.1, a.2.1, a.2.2⟩, rfl, h.1⟩
theorem opensL : Opens enc Try.prog w 29 encL (fun l => l.length ≤ reachBytes) :=
  Opens.to (opens_slice (n := 1) (und_slice (t := 29) (e := 3) rfl rfl) (by kernel_rfl) (by decide) (Nat.le_of_ble_eq_true (by kernel_rfl)) opensI) fun a h => ⟨a, rfl, h.1⟩
theorem opensG : Opens enc Try.prog w 26 encG Sz := by
  obtain ⟨fs, hu, hf⟩ := und_struct (T_ok 26 _ rfl) rfl
  refine Opens.to (opens_struct3 hu hf (by kernel_rfl) (by kernel_rfl) (by kernel_rfl) (by kernel_rfl)
    (opens_slice (n := 1) (und_slice (t := 22) (e := 9) rfl rfl) (by kernel_rfl) (by decide) (Nat.le_of_ble_eq_true (by kernel_rfl)) opensS)
    (opens_slice (n := 3) (und_slice (t := 23) (e := 50) rfl rfl) (by kernel_rfl) (by decide) (Nat.le_of_ble_eq_true (by kernel_rfl)) opensU)
    (opens_slice (n := 1) (und_slice (t := 24) (e := 29) rfl rfl) (by kernel_rfl) (by decide) (Nat.le_of_ble_eq_true (by kernel_rfl)) opensL)) fun a h => ⟨⟨a.1, a.2.1, a.2.2⟩, rfl, ?_⟩
  have hb : reachBytes ≤ 2 ^ 60 := by decide
  obtain ⟨⟨h1, h2⟩, ⟨h3, h4⟩, h5, h6⟩ := h
  exact ⟨Nat.le_trans h1 hb, Nat.le_trans h3 hb, Nat.le_trans h5 hb, fun l hl => Nat.le_trans (h6 l hl) hb, fun s hs => Nat.le_trans (h2 s hs) hb, fun u hu => Nat.le_trans (h4 u hu) hb⟩
theorem open_graph {fuel : Nat} {v : Value} {x : DataW H × List MemPlace} (hv : ∃ cs, v = .agg cs) (h : DataW.trod enc Try.prog w 0 (fun _ => true) true fuel 26 v.cells.toList = some x) (hl : Light Try.prog 26 x.1) : ∃ g, Sz g ∧ VR KM.empty w NoN (encG g) v := by
  obtain ⟨g, h1, h2⟩ := opensG fuel _ x h hl
  obtain ⟨cs, rfl⟩ := hv
  have e : (Value.agg cs).cells.toList = cs.toList := by simp [Value.cells]
  rw [e] at h1
  refine ⟨g, h2, .agg _ cs (h1.len.trans (by simp)) (fun i h h' => ?_) (fun i h => h1.pl _ (by simp))⟩
  have := h1.rel i h (by simpa using h')
  rw [Array.getElem_toList] at this
  exact this
end
end Go.Proofs.Ytgeeklnokblokaa
namespace Go.Proofs.Ytgeeklnokblokaa
open Go Go.Fw
abbrev MS := List Int × List Bool
def tryL (rec : Int → MS → Bool × MS) (e : Int) : List Int → MS → Bool × MS
  | [], s => (false, s)
  | u :: r, s => match s.2.getD u.toNat false with
    | true => tryL rec e r s
    | false => match decide (s.1.getD u.toNat 0 < 0) with
      | true => (true, s.1.set u.toNat e, s.2.set u.toNat true)
      | false => match rec (s.1.getD u.toNat 0) (s.1, s.2.set u.toNat true) with
        | (true, s') => (true, s'.1.set u.toNat e, s'.2)
        | (false, s') => tryL rec e r s'
def tryF (g : G) : Nat → Int → MS → Bool × MS
  | 0, _, s => (false, s)
  | n + 1, e, s => tryL (tryF g n) e (g.joined.getD e.toNat []) s
def unseen (l : List Bool) : Nat := l.countP (!·)
theorem unseen_set {l : List Bool} {i : Nat} (hi : i < l.length) (h : l.getD i false = false) : unseen (l.set i true) + 1 = unseen l := by
  induction l generalizing i with
  | nil => simp at hi
  | cons a l ih =>
    cases i with
    | zero => simp at h; subst h; simp [unseen]
    | succ i =>
      have := ih (i := i) (by simpa using hi) (by simpa using h)
      simp only [unseen, List.set_cons_succ, List.countP_cons] at this ⊢
      omega
/-- As a matching is kept. -/
structure MOk (g : G) (s : MS) : Prop where
  lm : s.1.length = g.uses.length
  ls : s.2.length = g.uses.length
  lt : ∀ x ∈ s.1, x < g.eqs.length
theorem MOk.set {g : G} {s : MS} (h : MOk g s) (u : Nat) {e : Int} (he : e < g.eqs.length) : MOk g (s.1.set u e, s.2) :=
  ⟨by simpa using h.lm, h.ls, fun x hx => by
    rcases List.mem_or_eq_of_mem_set hx with h' | h'
    · exact h.lt x h'
    · rw [h']; exact he⟩
theorem MOk.see {g : G} {s : MS} (h : MOk g s) (u : Nat) : MOk g (s.1, s.2.set u true) := ⟨h.lm, by simpa using h.ls, h.lt⟩
theorem tryL_ok {g : G} {rec : Int → MS → Bool × MS} (hrec : ∀ (e : Int) (s : MS), 0 ≤ e → e < g.eqs.length → MOk g s → MOk g (rec e s).2 ∧ unseen (rec e s).2.2 ≤ unseen s.2) {e : Int} (he : e < g.eqs.length) :
    ∀ (l : List Int) (s : MS), (∀ u ∈ l, 0 ≤ u ∧ u < g.uses.length) → MOk g s → MOk g (tryL rec e l s).2 ∧ unseen (tryL rec e l s).2.2 ≤ unseen s.2
  | [], s, _, h => ⟨h, Nat.le_refl _⟩
  | u :: r, s, hu, h => by
    have hr : ∀ u ∈ r, 0 ≤ u ∧ u < g.uses.length := fun x hx => hu x (by simp [hx])
    have h0 := hu u (by simp)
    have hlt : u.toNat < s.2.length := by rw [h.ls]; omega
    unfold tryL
    split
    · exact tryL_ok hrec he r s hr h
    · rename_i hs
      have hun := unseen_set hlt hs
      split
      · exact ⟨(h.see u.toNat).set u.toNat he, by simp only; omega⟩
      · rename_i hm
        have hm' := of_decide_eq_false hm
        have hlm : u.toNat < s.1.length := by rw [h.lm]; omega
        have hin : s.1.getD u.toNat 0 ∈ s.1 := by simp [hlm]
        have hq := hrec (s.1.getD u.toNat 0) (s.1, s.2.set u.toNat true) (by omega) (h.lt _ hin) (h.see u.toNat)
        split
        · rename_i s' hs'
          rw [hs'] at hq
          exact ⟨hq.1.set u.toNat he, by simp only at hq ⊢; omega⟩
        · rename_i s' hs'
          rw [hs'] at hq
          have := tryL_ok hrec he r s' hr hq.1
          exact ⟨this.1, by simp only at hq; omega⟩
theorem tryF_ok {g : G} (hg : WF g) : ∀ (n : Nat) (e : Int) (s : MS), 0 ≤ e → e < g.eqs.length → MOk g s → MOk g (tryF g n e s).2 ∧ unseen (tryF g n e s).2.2 ≤ unseen s.2
  | 0, e, s, _, _, h => ⟨h, Nat.le_refl _⟩
  | n + 1, e, s, h0, he, h => by
    unfold tryF
    refine tryL_ok (fun e s h0 he h => tryF_ok hg n e s h0 he h) he _ s (fun u hu => ?_) h
    have : e.toNat < g.joined.length := by rw [hg.len]; omega
    rw [List.getD_eq_getElem?_getD, List.getElem?_eq_getElem this] at hu
    exact hg.in_ _ (List.getElem_mem this) u hu
def hpM (γ γ' : Nat) (s : MS) : List (Nat × Nat × Blk) := [(100, γ, ⟨3, 1, s.1.map encI⟩), (101, γ', ⟨4, 1, s.2.map encB⟩)]
end Go.Proofs.Ytgeeklnokblokaa
namespace Go.Proofs.Ytgeeklnokblokaa
open Go Go.Fw
set_option maxRecDepth 100000 in
theorem try_ok (g : G) (hg : WF g) : ∀ (n : Nat) (e : Int) (s : MS) (p0 p1 : Nat), 0 ≤ e → e < g.eqs.length → MOk g s → unseen s.2 < n →
    HCall Try.prog 68 [.own 100 p0 0 g.uses.length, encG g, encI e, .own 101 p1 0 g.uses.length] (hp (hpM p0 p1 s))
      (fun r h => r = encB (tryF g n e s).1 ∧ h = hp (hpM p0 p1 (tryF g n e s).2)) := by
  intro n
  induction n with
  | zero => intro e s p0 p1 _ _ _ h; exact absurd h (by omega)
  | succ n ih =>
    intro e s p0 p1 h0 he hs hn
    have su := hg.su
    have hjl : e.toNat < g.joined.length := by rw [hg.len]; omega
    have sl := hg.sl _ (List.getElem_mem hjl)
    have hF : tryF g (n + 1) e s = tryL (tryF g n) e (g.joined[e.toNat]) s := by unfold tryF; rw [getD_lt _ _ _ hjl]
    rw [hF]
    generalize hR : tryL (tryF g n) e (g.joined[e.toNat]) s = R
    refine hcall_cp (E := E 0) T_ok (D_ok 0) Try.func68 rfl (by rfl) (Nat.le_of_ble_eq_true rfl) ?_
    ((conv => whnf); repeat ((first | refine Sw.o ?_ | refine B0 ?_); conv => whnf))
    (repeat ((first | refine N0 ?_ | refine A0 fun γ => ?_ | refine C1 ?_ | refine C2 ?_ | refine C3 ?_ | refine C4 ?_ | refine C5 ?_ | refine C6 ?_ | refine C7 ?_ | refine D0 fun γs => ?_ | refine A1 fun γs => ?_ | refine N2 ?_ | refine N3 ?_ | refine N1 ?_); ((conv => whnf); repeat ((first | refine Sw.o ?_ | refine B0 ?_); conv => whnf))))
    (simp (disch := omega) only [LG]; ((conv => whnf); repeat ((first | refine Sw.o ?_ | refine B0 ?_); conv => whnf)))
    (repeat ((first | refine N0 ?_ | refine A0 fun γ => ?_ | refine C1 ?_ | refine C2 ?_ | refine C3 ?_ | refine C4 ?_ | refine C5 ?_ | refine C6 ?_ | refine C7 ?_ | refine D0 fun γs => ?_ | refine A1 fun γs => ?_ | refine N2 ?_ | refine N3 ?_ | refine N1 ?_); ((conv => whnf); repeat ((first | refine Sw.o ?_ | refine B0 ?_); conv => whnf))))
    refine LoopP.intro (fun k σ H => ∃ p2 i, ∃ t : MS, ∃ hi : i ≤ (g.joined[e.toNat]).length, k = (g.joined[e.toNat]).length - i ∧ MOk g t ∧ unseen t.2 ≤ unseen s.2 ∧ tryL (tryF g n) e ((g.joined[e.toNat]).drop i) t = R ∧
      σ = fr [(0, .own 100 p0 0 g.uses.length), (2, encI e), (3, .own 101 p1 0 g.uses.length), (5, .op 5 p2 0 0), (8, encB false), (15, encL g.joined[e.toNat]), (16, encI (g.joined[e.toNat]).length), (17, encI i)] ∧
      H = hp [(100, p0, ⟨3, 1, t.1.map encI⟩), (101, p1, ⟨4, 1, t.2.map encB⟩), (5, p2, ⟨26, 3, [encG g]⟩)]) ?_ ?_
    · refine .intro <| W.of ⟨_, _, 0, s, Nat.zero_le _, rfl, hs, Nat.le_refl _, hR, rfl, rfl⟩ ⟨rfl, rfl, rfl, rfl, rfl, rfl, by simp; rfl, rfl, trivial⟩ ⟨rfl, rfl, rfl, trivial⟩
    · rintro k σ H ⟨p2, i, t, hi, rfl, ht, hun, hR', rfl, rfl⟩
      have lm := ht.lm
      have ls := ht.ls
      ((conv => whnf); repeat ((first | refine Sw.o ?_ | refine B0 ?_); conv => whnf))
      (repeat ((first | refine N0 ?_ | refine A0 fun γ => ?_ | refine C1 ?_ | refine C2 ?_ | refine C3 ?_ | refine C4 ?_ | refine C5 ?_ | refine C6 ?_ | refine C7 ?_ | refine D0 fun γs => ?_ | refine A1 fun γs => ?_ | refine N2 ?_ | refine N3 ?_ | refine N1 ?_); ((conv => whnf); repeat ((first | refine Sw.o ?_ | refine B0 ?_); conv => whnf))))
      refine CondP.dec (fun h => ?_) (fun h => ?_) <;> ((conv => whnf); repeat ((first | refine Sw.o ?_ | refine B0 ?_); conv => whnf))
      · (have h2 := h; try simp only [LN] at h2)
        (repeat ((first | refine N0 ?_ | refine A0 fun γ => ?_ | refine C1 ?_ | refine C2 ?_ | refine C3 ?_ | refine C4 ?_ | refine C5 ?_ | refine C6 ?_ | refine C7 ?_ | refine D0 fun γs => ?_ | refine A1 fun γs => ?_ | refine N2 ?_ | refine N3 ?_ | refine N1 ?_); ((conv => whnf); repeat ((first | refine Sw.o ?_ | refine B0 ?_); conv => whnf))))
        (simp (disch := omega) only [LG]; ((conv => whnf); repeat ((first | refine Sw.o ?_ | refine B0 ?_); conv => whnf)))
        have hi' : i < (g.joined[e.toNat]).length := by omega
        have hu := hg.in_ _ (List.getElem_mem hjl) _ (List.getElem_mem hi')
        rw [List.drop_eq_getElem_cons hi'] at hR'
        generalize g.joined[e.toNat][i] = u at hu hR' ⊢
        (repeat ((first | refine N0 ?_ | refine A0 fun γ => ?_ | refine C1 ?_ | refine C2 ?_ | refine C3 ?_ | refine C4 ?_ | refine C5 ?_ | refine C6 ?_ | refine C7 ?_ | refine D0 fun γs => ?_ | refine A1 fun γs => ?_ | refine N2 ?_ | refine N3 ?_ | refine N1 ?_); ((conv => whnf); repeat ((first | refine Sw.o ?_ | refine B0 ?_); conv => whnf))))
        (simp (disch := omega) only [LG]; ((conv => whnf); repeat ((first | refine Sw.o ?_ | refine B0 ?_); conv => whnf)))
        have hut : u.toNat < t.2.length := by omega
        have hum : u.toNat < t.1.length := by omega
        unfold tryL at hR'
        rw [getD_lt _ _ _ hut, getD_lt _ _ _ hum] at hR'
        refine CondP.intro (fun h => ?_) (fun h => ?_) <;> ((conv => whnf); repeat ((first | refine Sw.o ?_ | refine B0 ?_); conv => whnf))
        · rw [h] at hR'
          (repeat ((first | refine N0 ?_ | refine A0 fun γ => ?_ | refine C1 ?_ | refine C2 ?_ | refine C3 ?_ | refine C4 ?_ | refine C5 ?_ | refine C6 ?_ | refine C7 ?_ | refine D0 fun γs => ?_ | refine A1 fun γs => ?_ | refine N2 ?_ | refine N3 ?_ | refine N1 ?_); ((conv => whnf); repeat ((first | refine Sw.o ?_ | refine B0 ?_); conv => whnf))))
          exact .intro <| W.of ⟨_, by omega, _, i + 1, t, hi', rfl, ht, hun, hR', rfl, rfl⟩ ⟨rfl, rfl, rfl, rfl, rfl, rfl, rfl, rfl, trivial⟩ ⟨rfl, rfl, rfl, trivial⟩
        · rw [h] at hR'
          simp only at hR'
          have hsee := ht.see u.toNat
          have huns := unseen_set hut (by rw [getD_lt _ _ _ hut]; exact h)
          (repeat ((first | refine N0 ?_ | refine A0 fun γ => ?_ | refine C1 ?_ | refine C2 ?_ | refine C3 ?_ | refine C4 ?_ | refine C5 ?_ | refine C6 ?_ | refine C7 ?_ | refine A1 fun γs => ?_ | refine N2 ?_ | refine N3 ?_ | refine N1 ?_ | simp (disch := omega) only [LG]); ((conv => whnf); repeat ((first | refine Sw.o ?_ | refine B0 ?_); conv => whnf))))
          refine DrawH.segs [(13, false), (14, true), (15, false)] (by kernel_rfl) ?_
          ((conv => whnf); repeat ((first | refine Sw.o ?_ | refine B0 ?_); conv => whnf))
          (repeat ((first | refine N0 ?_ | refine A0 fun γ => ?_ | refine C1 ?_ | refine C2 ?_ | refine C3 ?_ | refine C4 ?_ | refine C5 ?_ | refine C6 ?_ | refine C7 ?_ | refine A1 fun γs => ?_ | refine N2 ?_ | refine N3 ?_ | refine N1 ?_ | simp (disch := omega) only [LG]); ((conv => whnf); repeat ((first | refine Sw.o ?_ | refine B0 ?_); conv => whnf))))
          refine CondP.dec (fun hlt => ?_) (fun hge => ?_) <;> ((conv => whnf); repeat ((first | refine Sw.o ?_ | refine B0 ?_); conv => whnf))
          · (repeat ((first | refine N0 ?_ | refine A0 fun γ => ?_ | refine C1 ?_ | refine C2 ?_ | refine C3 ?_ | refine C4 ?_ | refine C5 ?_ | refine C6 ?_ | refine C7 ?_ | refine A1 fun γs => ?_ | refine N2 ?_ | refine N3 ?_ | refine N1 ?_ | simp (disch := omega) only [LG]); ((conv => whnf); repeat ((first | refine Sw.o ?_ | refine B0 ?_); conv => whnf))))
            rw [decide_eq_true hlt] at hR'
            subst hR'
            refine EndH.of (m := hpM p0 p1 (t.1.set u.toNat e, t.2.set u.toNat true)) ⟨?_, ?_, trivial⟩ ⟨rfl, rfl⟩
            · rw [← set_map (x := e) (h := rfl)]; rfl
            · rw [← set_map (x := true) (h := rfl)]; rfl
          · (repeat ((first | refine N0 ?_ | refine A0 fun γ => ?_ | refine C1 ?_ | refine C2 ?_ | refine C3 ?_ | refine C4 ?_ | refine C5 ?_ | refine C6 ?_ | refine C7 ?_ | refine A1 fun γs => ?_ | refine N2 ?_ | refine N3 ?_ | refine N1 ?_ | simp (disch := omega) only [LG]); ((conv => whnf); repeat ((first | refine Sw.o ?_ | refine B0 ?_); conv => whnf))))
            rw [decide_eq_false hge] at hR'
            have hq := tryF_ok hg n t.1[u.toNat] (t.1, t.2.set u.toNat true) (by omega) (ht.lt _ (List.getElem_mem _)) hsee
            refine CallP.frame 1000000 [(100, 100), (101, 101)] rfl c68 (ih t.1[u.toNat] (t.1, t.2.set u.toNat true) p0 p1 (by omega) (ht.lt _ (List.getElem_mem _)) hsee (by simp only; omega)) rfl ⟨?_, ?_, trivial⟩ ?_
            · exact mvB_flats encI _ (fun _ => rfl) ..
            · show some (mvB _ (p1, ⟨4, 1, (t.2.map encB).set u.toNat (encB true)⟩)) = _
              rw [set_map (x := true) (h := rfl)]
              exact mvB_flats encB _ (fun _ => rfl) ..
            · rintro r0 h' ⟨rfl, rfl⟩
              simp only at hR'
              generalize tryF g n t.1[u.toNat] (t.1, t.2.set u.toNat true) = q at hR' hq ⊢
              refine ⟨[(100, p0, ⟨3, 1, q.2.1.map encI⟩), (101, p1, ⟨4, 1, q.2.2.map encB⟩), (5, p2, ⟨26, 3, [encG g]⟩)], ⟨mvB_flats encI _ (fun _ => rfl) .., mvB_flats encB _ (fun _ => rfl) .., rfl, trivial⟩, ?_⟩
              obtain ⟨b, q⟩ := q
              have lm := hq.1.lm
              have ls := hq.1.ls
              simp only at hq lm ls hun
              ((conv => whnf); repeat ((first | refine Sw.o ?_ | refine B0 ?_); conv => whnf))
              (repeat ((first | refine N0 ?_ | refine A0 fun γ => ?_ | refine C1 ?_ | refine C2 ?_ | refine C3 ?_ | refine C4 ?_ | refine C5 ?_ | refine C6 ?_ | refine C7 ?_ | refine A1 fun γs => ?_ | refine N2 ?_ | refine N3 ?_ | refine N1 ?_ | simp (disch := omega) only [LG]); ((conv => whnf); repeat ((first | refine Sw.o ?_ | refine B0 ?_); conv => whnf))))
              cases b
              · simp only at hR'
                ((conv => whnf); repeat ((first | refine Sw.o ?_ | refine B0 ?_); conv => whnf))
                (repeat ((first | refine N0 ?_ | refine A0 fun γ => ?_ | refine C1 ?_ | refine C2 ?_ | refine C3 ?_ | refine C4 ?_ | refine C5 ?_ | refine C6 ?_ | refine C7 ?_ | refine D0 fun γs => ?_ | refine A1 fun γs => ?_ | refine N2 ?_ | refine N3 ?_ | refine N1 ?_); ((conv => whnf); repeat ((first | refine Sw.o ?_ | refine B0 ?_); conv => whnf))))
                exact .intro <| W.of ⟨_, by omega, _, i + 1, q, hi', rfl, hq.1, by omega, hR', rfl, rfl⟩ ⟨rfl, rfl, rfl, rfl, rfl, rfl, rfl, rfl, trivial⟩ ⟨rfl, rfl, rfl, trivial⟩
              · simp only at hR'
                subst hR'
                ((conv => whnf); repeat ((first | refine Sw.o ?_ | refine B0 ?_); conv => whnf))
                (repeat ((first | refine N0 ?_ | refine A0 fun γ => ?_ | refine C1 ?_ | refine C2 ?_ | refine C3 ?_ | refine C4 ?_ | refine C5 ?_ | refine C6 ?_ | refine C7 ?_ | refine D0 fun γs => ?_ | refine A1 fun γs => ?_ | refine N2 ?_ | refine N3 ?_ | refine N1 ?_ | simp (disch := omega) only [LG]); ((conv => whnf); repeat ((first | refine Sw.o ?_ | refine B0 ?_); conv => whnf))))
                refine EndH.of (m := hpM p0 p1 (q.1.set u.toNat e, q.2)) ⟨?_, rfl, trivial⟩ ⟨rfl, rfl⟩
                rw [← set_map (x := e) (h := rfl)]; rfl
      · (have h2 := h; try simp only [LN] at h2)
        (repeat ((first | refine N0 ?_ | refine A0 fun γ => ?_ | refine C1 ?_ | refine C2 ?_ | refine C3 ?_ | refine C4 ?_ | refine C5 ?_ | refine C6 ?_ | refine C7 ?_ | refine D0 fun γs => ?_ | refine A1 fun γs => ?_ | refine N2 ?_ | refine N3 ?_ | refine N1 ?_); ((conv => whnf); repeat ((first | refine Sw.o ?_ | refine B0 ?_); conv => whnf))))
        rw [List.drop_eq_nil_of_le (by omega)] at hR'
        subst hR'
        exact EndH.of (m := hpM p0 p1 t) ⟨rfl, rfl, trivial⟩ ⟨rfl, rfl⟩
end Go.Proofs.Ytgeeklnokblokaa
namespace Go.Proofs.Ytgeeklnokblokaa
open Go Go.Fw
set_option maxRecDepth 100000 in
theorem clone43_ok (xs : List Int) (hl : xs.length ≤ 2^40) : HCall Try.prog 43 [.sl 1 (xs.map encI)] (hp []) (Gives 5 0 xs.length 3 1 (xs.map encI)) := by
  refine hcall_cp (E := E 0) T_ok (D_ok 0) Try.func43 rfl (by rfl) (Nat.le_of_ble_eq_true rfl) ?_
  ((conv => whnf); repeat ((first | refine Sw.o ?_ | refine B0 ?_); conv => whnf))
  (repeat ((first | refine N0 ?_ | refine A0 fun γ => ?_ | refine C1 ?_ | refine C2 ?_ | refine C3 ?_ | refine C4 ?_ | refine C5 ?_ | refine C6 ?_ | refine C7 ?_ | refine D0 fun γs => ?_ | refine A1 fun γs => ?_ | refine N2 ?_ | refine N3 ?_ | refine N1 ?_); ((conv => whnf); repeat ((first | refine Sw.o ?_ | refine B0 ?_); conv => whnf))))
  refine Need.intro ?_ ?_
  · by_cases h : xs = []
    · right
      subst h
      ((conv => whnf); repeat ((first | refine Sv.o ?_ | refine B0 ?_); conv => whnf))
      refine CondP.tt ?_
      ((conv => whnf); repeat ((first | refine Sv.o ?_ | refine B0 ?_); conv => whnf))
      refine cpA_retW ?_
      refine W.mat 2 5 3 1 rfl rfl fun γ => ?_
      refine W.of (l := [(2, .own 5 γ 0 0)]) (m := [(5, γ, ⟨3, 1, []⟩)]) ?_ ⟨rfl, trivial⟩ ⟨rfl, trivial⟩
      ((conv => whnf); repeat ((first | refine Sw.o ?_ | refine B0 ?_); conv => whnf))
      (repeat ((first | refine N0 ?_ | refine A0 fun γ => ?_ | refine C1 ?_ | refine C2 ?_ | refine C3 ?_ | refine C4 ?_ | refine C5 ?_ | refine C6 ?_ | refine C7 ?_ | refine D0 fun γs => ?_ | refine A1 fun γs => ?_ | refine N2 ?_ | refine N3 ?_ | refine N1 ?_); ((conv => whnf); repeat ((first | refine Sw.o ?_ | refine B0 ?_); conv => whnf))))
      exact EndH.of (m := [(5, γ, ⟨3, 1, []⟩)]) ⟨rfl, trivial⟩ ⟨γ, rfl, rfl⟩
    · left
      simpa using h
  · ((conv => whnf); repeat ((first | refine Sw.o ?_ | refine B0 ?_); conv => whnf))
    (repeat ((first | refine N0 ?_ | refine A0 fun γ => ?_ | refine C1 ?_ | refine C2 ?_ | refine C3 ?_ | refine C4 ?_ | refine C5 ?_ | refine C6 ?_ | refine C7 ?_ | refine D0 fun γs => ?_ | refine A1 fun γs => ?_ | refine N2 ?_ | refine N3 ?_ | refine N1 ?_); ((conv => whnf); repeat ((first | refine Sw.o ?_ | refine B0 ?_); conv => whnf))))
    rename_i γ
    refine EndH.of (m := [(5, γ, ⟨3, 1, xs.map encI⟩)]) ⟨rfl, trivial⟩ ⟨γ, ?_, rfl⟩
    simp; rfl
set_option maxRecDepth 100000 in
theorem clone69_ok (xs : List Bool) (hl : xs.length ≤ 2^40) : HCall Try.prog 69 [.sl 1 (xs.map encB)] (hp []) (Gives 5 0 xs.length 4 1 (xs.map encB)) := by
  refine hcall_cp (E := E 0) T_ok (D_ok 0) Try.func69 rfl (by rfl) (Nat.le_of_ble_eq_true rfl) ?_
  ((conv => whnf); repeat ((first | refine Sw.o ?_ | refine B0 ?_); conv => whnf))
  (repeat ((first | refine N0 ?_ | refine A0 fun γ => ?_ | refine C1 ?_ | refine C2 ?_ | refine C3 ?_ | refine C4 ?_ | refine C5 ?_ | refine C6 ?_ | refine C7 ?_ | refine D0 fun γs => ?_ | refine A1 fun γs => ?_ | refine N2 ?_ | refine N3 ?_ | refine N1 ?_); ((conv => whnf); repeat ((first | refine Sw.o ?_ | refine B0 ?_); conv => whnf))))
  refine Need.intro ?_ ?_
  · by_cases h : xs = []
    · right
      subst h
      ((conv => whnf); repeat ((first | refine Sv.o ?_ | refine B0 ?_); conv => whnf))
      refine CondP.tt ?_
      ((conv => whnf); repeat ((first | refine Sv.o ?_ | refine B0 ?_); conv => whnf))
      refine cpA_retW ?_
      refine W.mat 2 5 4 1 rfl rfl fun γ => ?_
      refine W.of (l := [(2, .own 5 γ 0 0)]) (m := [(5, γ, ⟨4, 1, []⟩)]) ?_ ⟨rfl, trivial⟩ ⟨rfl, trivial⟩
      ((conv => whnf); repeat ((first | refine Sw.o ?_ | refine B0 ?_); conv => whnf))
      (repeat ((first | refine N0 ?_ | refine A0 fun γ => ?_ | refine C1 ?_ | refine C2 ?_ | refine C3 ?_ | refine C4 ?_ | refine C5 ?_ | refine C6 ?_ | refine C7 ?_ | refine D0 fun γs => ?_ | refine A1 fun γs => ?_ | refine N2 ?_ | refine N3 ?_ | refine N1 ?_); ((conv => whnf); repeat ((first | refine Sw.o ?_ | refine B0 ?_); conv => whnf))))
      exact EndH.of (m := [(5, γ, ⟨4, 1, []⟩)]) ⟨rfl, trivial⟩ ⟨γ, rfl, rfl⟩
    · left
      simpa using h
  · ((conv => whnf); repeat ((first | refine Sw.o ?_ | refine B0 ?_); conv => whnf))
    (repeat ((first | refine N0 ?_ | refine A0 fun γ => ?_ | refine C1 ?_ | refine C2 ?_ | refine C3 ?_ | refine C4 ?_ | refine C5 ?_ | refine C6 ?_ | refine C7 ?_ | refine D0 fun γs => ?_ | refine A1 fun γs => ?_ | refine N2 ?_ | refine N3 ?_ | refine N1 ?_); ((conv => whnf); repeat ((first | refine Sw.o ?_ | refine B0 ?_); conv => whnf))))
    rename_i γ
    refine EndH.of (m := [(5, γ, ⟨4, 1, xs.map encB⟩)]) ⟨rfl, trivial⟩ ⟨γ, ?_, rfl⟩
    simp; rfl
set_option maxRecDepth 100000 in
theorem clone41_ok (xs : List (List Int)) (hl : xs.length ≤ 2^40) : HCall Try.prog 41 [.sl 1 (xs.map encL)] (hp []) (Gives 5 0 xs.length 29 1 (xs.map encL)) := by
  refine hcall_cp (E := E 0) T_ok (D_ok 0) Try.func41 rfl (by rfl) (Nat.le_of_ble_eq_true rfl) ?_
  ((conv => whnf); repeat ((first | refine Sw.o ?_ | refine B0 ?_); conv => whnf))
  (repeat ((first | refine N0 ?_ | refine A0 fun γ => ?_ | refine C1 ?_ | refine C2 ?_ | refine C3 ?_ | refine C4 ?_ | refine C5 ?_ | refine C6 ?_ | refine C7 ?_ | refine D0 fun γs => ?_ | refine A1 fun γs => ?_ | refine N2 ?_ | refine N3 ?_ | refine N1 ?_); ((conv => whnf); repeat ((first | refine Sw.o ?_ | refine B0 ?_); conv => whnf))))
  refine Need.intro ?_ ?_
  · by_cases h : xs = []
    · right
      subst h
      ((conv => whnf); repeat ((first | refine Sv.o ?_ | refine B0 ?_); conv => whnf))
      refine CondP.tt ?_
      ((conv => whnf); repeat ((first | refine Sv.o ?_ | refine B0 ?_); conv => whnf))
      refine cpA_retW ?_
      refine W.mat 2 5 29 1 rfl rfl fun γ => ?_
      refine W.of (l := [(2, .own 5 γ 0 0)]) (m := [(5, γ, ⟨29, 1, []⟩)]) ?_ ⟨rfl, trivial⟩ ⟨rfl, trivial⟩
      ((conv => whnf); repeat ((first | refine Sw.o ?_ | refine B0 ?_); conv => whnf))
      (repeat ((first | refine N0 ?_ | refine A0 fun γ => ?_ | refine C1 ?_ | refine C2 ?_ | refine C3 ?_ | refine C4 ?_ | refine C5 ?_ | refine C6 ?_ | refine C7 ?_ | refine D0 fun γs => ?_ | refine A1 fun γs => ?_ | refine N2 ?_ | refine N3 ?_ | refine N1 ?_); ((conv => whnf); repeat ((first | refine Sw.o ?_ | refine B0 ?_); conv => whnf))))
      exact EndH.of (m := [(5, γ, ⟨29, 1, []⟩)]) ⟨rfl, trivial⟩ ⟨γ, rfl, rfl⟩
    · left
      simpa using h
  · ((conv => whnf); repeat ((first | refine Sw.o ?_ | refine B0 ?_); conv => whnf))
    (repeat ((first | refine N0 ?_ | refine A0 fun γ => ?_ | refine C1 ?_ | refine C2 ?_ | refine C3 ?_ | refine C4 ?_ | refine C5 ?_ | refine C6 ?_ | refine C7 ?_ | refine D0 fun γs => ?_ | refine A1 fun γs => ?_ | refine N2 ?_ | refine N3 ?_ | refine N1 ?_); ((conv => whnf); repeat ((first | refine Sw.o ?_ | refine B0 ?_); conv => whnf))))
    rename_i γ
    refine EndH.of (m := [(5, γ, ⟨29, 1, xs.map encL⟩)]) ⟨rfl, trivial⟩ ⟨γ, ?_, rfl⟩
    simp; rfl
end Go.Proofs.Ytgeeklnokblokaa
namespace Go.Proofs.Ytgeeklnokblokaa
open Go Go.Fw
theorem and_mask (n : Nat) (h : n < 2^32) : andI .u64 (n : Int) 4294967295 = (n : Int) := by
  have e : (BitVec.ofInt (IntKind.bits .u64) (n : Int) &&& BitVec.ofInt (IntKind.bits .u64) 4294967295).toNat = n := by
    show (BitVec.ofInt 64 (n : Int) &&& BitVec.ofInt 64 4294967295).toNat = n
    rw [BitVec.toNat_and]
    have e1 : (BitVec.ofInt 64 (n : Int)).toNat = n := by simp; omega
    have e2 : (BitVec.ofInt 64 4294967295).toNat = 2^32 - 1 := by rfl
    rw [e1, e2, Nat.and_two_pow_sub_one_eq_mod]
    omega
  unfold andI
  rw [e]
  exact wrap_in .u64 _ (by simp [lowOf]) (by simp [highOf]; omega)
theorem and_one : andI .u64 1 4294967295 = 1 := and_mask 1 (by omega)
theorem and_zero : andI .u64 0 4294967295 = 0 := and_mask 0 (by omega)
theorem shr_n (n : Nat) (h : n < 2^32) : shrI .u64 (n : Int) 32 = 0 := by
  unfold shrI
  show Int.fdiv (n : Int) (2 ^ 32) = 0
  rw [Int.fdiv_eq_ediv_of_nonneg _ (by omega)]
  omega
theorem shr_one : shrI .u64 1 32 = 0 := shr_n 1 (by omega)
theorem shr_zero : shrI .u64 0 32 = 0 := shr_n 0 (by omega)
set_option maxRecDepth 100000 in
theorem mul64_ok (n : Nat) (hn : n ≤ 2^20) : PureCall Try.prog 88 [.val (.int .u64 1), .val (.int .u64 n)] (.tup [.val (.int .u64 0), .val (.int .u64 n)]) := by
  refine pure_cp (E := E 0) T_ok (D_ok 0) [] Try.func88 rfl (by rfl) (Nat.le_of_ble_eq_true rfl) ?_
  ((conv => whnf); repeat ((first | refine Sw.o ?_ | refine B0 ?_); conv => whnf))
  (repeat ((first | refine N0 ?_ | refine A0 fun γ => ?_ | refine C1 ?_ | refine C2 ?_ | refine C3 ?_ | refine C4 ?_ | refine C5 ?_ | refine C6 ?_ | refine C7 ?_ | refine D0 fun γs => ?_ | refine A1 fun γs => ?_ | refine N2 ?_ | refine N3 ?_ | refine N1 ?_); ((conv => whnf); repeat ((first | refine Sw.o ?_ | refine B0 ?_); conv => whnf))))
  repeat (first | (simp (disch := omega) only [and_mask, and_one, and_zero, shr_n, shr_one, shr_zero, Int.one_mul, Int.zero_mul, Int.mul_one, Int.add_zero, Int.zero_add, Int.mul_zero]; ((conv => whnf); repeat ((first | refine Sw.o ?_ | refine B0 ?_); conv => whnf))) | ((first | refine N0 ?_ | refine A0 fun γ => ?_ | refine C1 ?_ | refine C2 ?_ | refine C3 ?_ | refine C4 ?_ | refine C5 ?_ | refine C6 ?_ | refine C7 ?_ | refine D0 fun γs => ?_ | refine A1 fun γs => ?_ | refine N2 ?_ | refine N3 ?_ | refine N1 ?_); ((conv => whnf); repeat ((first | refine Sw.o ?_ | refine B0 ?_); conv => whnf))))
  exact .of rfl
set_option maxRecDepth 100000 in
theorem mul_ok (n : Nat) (hn : n ≤ 2^20) : PureCall Try.prog 82 [.val (.int .u64 1), .val (.int .u64 n)] (.tup [.val (.int .u64 0), .val (.int .u64 n)]) := by
  refine pure_cp (E := E 0) T_ok (D_ok 0) [] Try.func82 rfl (by rfl) (Nat.le_of_ble_eq_true rfl) ?_
  ((conv => whnf); repeat ((first | refine Sw.o ?_ | refine B0 ?_); conv => whnf))
  (repeat ((first | refine N0 ?_ | refine A0 fun γ => ?_ | refine C1 ?_ | refine C2 ?_ | refine C3 ?_ | refine C4 ?_ | refine C5 ?_ | refine C6 ?_ | refine C7 ?_ | refine D0 fun γs => ?_ | refine A1 fun γs => ?_ | refine N2 ?_ | refine N3 ?_ | refine N1 ?_); ((conv => whnf); repeat ((first | refine Sw.o ?_ | refine B0 ?_); conv => whnf))))
  refine CallP.flat [] _ c88 (mul64_ok n hn) rfl ?_
  ((conv => whnf); repeat ((first | refine Sw.o ?_ | refine B0 ?_); conv => whnf))
  (repeat ((first | refine N0 ?_ | refine A0 fun γ => ?_ | refine C1 ?_ | refine C2 ?_ | refine C3 ?_ | refine C4 ?_ | refine C5 ?_ | refine C6 ?_ | refine C7 ?_ | refine D0 fun γs => ?_ | refine A1 fun γs => ?_ | refine N2 ?_ | refine N3 ?_ | refine N1 ?_); ((conv => whnf); repeat ((first | refine Sw.o ?_ | refine B0 ?_); conv => whnf))))
  exact .of rfl
end Go.Proofs.Ytgeeklnokblokaa
namespace Go.Proofs.Ytgeeklnokblokaa
open Go Go.Fw
def cellsR (n k : Nat) : List AV := (List.replicate k (-1) ++ List.replicate (n - k) 0).map encI
theorem cellsR_len {n k : Nat} (h : k ≤ n) : (cellsR n k).length = n := by unfold cellsR; simp; omega
theorem cellsR_take (n k : Nat) (h : k ≤ n) : (cellsR n k).take k = (List.replicate k (-1)).map encI := by
  unfold cellsR
  simp [List.take_append, List.take_replicate, Nat.min_comm]
theorem spl_cellsR (e n k : Nat) (ys : List AV) (j : Nat) (hy : ys = (List.replicate j (-1)).map encI) (h : k + j ≤ n) : spl ⟨e, 1, cellsR n k⟩ k ys = ⟨e, 1, cellsR n (k + j)⟩ := by
  subst hy
  unfold spl cellsR
  simp only [List.map_append, List.map_replicate, List.length_replicate, Blk.mk.injEq, true_and]
  rw [List.take_append, List.drop_append]
  simp only [List.take_replicate, List.length_replicate, List.drop_replicate, Nat.min_self, Nat.sub_self, Nat.zero_min, List.replicate_zero, List.append_nil]
  rw [show k - (k + j) = 0 by omega, List.replicate_zero, List.nil_append, ← List.replicate_append_replicate]
  congr 2
  omega
theorem cellsR_zero (n : Nat) : List.replicate n (mkEl { size := 1, bytes := 8, zero := [Value.int IntKind.i64 0], kind := Kd.int IntKind.i64 }) = cellsR n 0 := by
  unfold cellsR
  rw [List.replicate_zero, List.nil_append, List.map_replicate, Nat.sub_zero]
  rfl
set_option maxRecDepth 100000 in
theorem repeat_ok (γ0 n : Nat) (hn : n ≤ 2^20) : HCall Try.prog 67 [.own 200 γ0 0 1, encI n] (hp [(200, γ0, ⟨3, 1, [encI (-1)]⟩)]) (Gives 30 0 n 3 1 ((List.replicate n (-1)).map encI)) := by
  refine hcall_cp (E := E 0) T_ok (D_ok 0) Try.func67 rfl (by rfl) (Nat.le_of_ble_eq_true rfl) ?_
  ((conv => whnf); repeat ((first | refine Sw.o ?_ | refine B0 ?_); conv => whnf))
  (repeat ((first | refine N0 ?_ | refine A0 fun γ => ?_ | refine C1 ?_ | refine C2 ?_ | refine C3 ?_ | refine C4 ?_ | refine C5 ?_ | refine C6 ?_ | refine C7 ?_ | refine D0 fun γs => ?_ | refine A1 fun γs => ?_ | refine N2 ?_ | refine N3 ?_ | refine N1 ?_); ((conv => whnf); repeat ((first | refine Sw.o ?_ | refine B0 ?_); conv => whnf))))
  refine CallP.flat [] _ c82 (mul_ok n hn) rfl ?_
  ((conv => whnf); repeat ((first | refine Sw.o ?_ | refine B0 ?_); conv => whnf))
  (repeat ((first | refine N0 ?_ | refine A0 fun γ => ?_ | refine C1 ?_ | refine C2 ?_ | refine C3 ?_ | refine C4 ?_ | refine C5 ?_ | refine C6 ?_ | refine C7 ?_ | refine D0 fun γs => ?_ | refine A1 fun γs => ?_ | refine N2 ?_ | refine N3 ?_ | refine N1 ?_); ((conv => whnf); repeat ((first | refine Sw.o ?_ | refine B0 ?_); conv => whnf))))
  refine CondP.neg (by omega) ?_
  ((conv => whnf); repeat ((first | refine Sw.o ?_ | refine B0 ?_); conv => whnf))
  (repeat ((first | refine N0 ?_ | refine A0 fun γ => ?_ | refine C1 ?_ | refine C2 ?_ | refine C3 ?_ | refine C4 ?_ | refine C5 ?_ | refine C6 ?_ | refine C7 ?_ | refine D0 fun γs => ?_ | refine A1 fun γs => ?_ | refine N2 ?_ | refine N3 ?_ | refine N1 ?_); ((conv => whnf); repeat ((first | refine Sw.o ?_ | refine B0 ?_); conv => whnf))))
  refine CondP.dec (fun hq => ?_) (fun hq => ?_) <;> ((conv => whnf); repeat ((first | refine Sw.o ?_ | refine B0 ?_); conv => whnf))
  all_goals ((repeat ((first | refine N0 ?_ | refine A0 fun γ => ?_ | refine C1 ?_ | refine C2 ?_ | refine C3 ?_ | refine C4 ?_ | refine C5 ?_ | refine C6 ?_ | refine C7 ?_ | refine D0 fun γs => ?_ | refine A1 fun γs => ?_ | refine N2 ?_ | refine N3 ?_ | refine N1 ?_); ((conv => whnf); repeat ((first | refine Sw.o ?_ | refine B0 ?_); conv => whnf)))))
  all_goals refine LoopP.intro (fun m σ H => ∃ γ k, k ≤ n ∧ (k = 0 → n = 0) ∧ m = n - k ∧ σ = fr [(7, .own 30 γ 0 n), (8, encI (k : Nat))] ∧ H = Fw.hp [(30, γ, ⟨3, 1, cellsR n k⟩)]) ?_ ?_
  case refine_1.refine_1 =>
    have h1 : 0 < n := by simp at hq; omega
    refine .intro <| W.of ⟨_, _, 1, by omega, by omega, rfl, rfl, rfl⟩ ⟨rfl, ?_, trivial⟩ ⟨?_, trivial⟩
    · show AV.val (Value.int IntKind.i64 ↑(min (List.take 1 (List.drop 0 [encI (-1)])).length (n : Int).toNat)) = _
      rw [show min (List.take 1 (List.drop 0 [encI (-1)])).length (n : Int).toNat = 1 by simp; omega]
      rfl
    · show some (_, spl (⟨3, 1, List.replicate (n : Int).toNat _⟩ : Blk) 0 _) = _
      rw [Int.toNat_natCast, cellsR_zero, spl_cellsR 3 n 0 _ 1 (by rw [List.take_of_length_le (by simp; omega)]; rfl) (by omega)]
  case refine_2.refine_1 =>
    have h1 : n = 0 := by simp at hq; omega
    refine .intro <| W.of ⟨_, _, 0, by omega, by omega, rfl, rfl, rfl⟩ ⟨rfl, rfl, trivial⟩ ⟨?_, trivial⟩
    show some (_, (⟨3, 1, List.replicate (n : Int).toNat _⟩ : Blk)) = _
    rw [Int.toNat_natCast, cellsR_zero]
  all_goals
    rintro m σ H ⟨γ, k, hk, hk0, rfl, rfl, rfl⟩
    ((conv => whnf); repeat ((first | refine Sw.o ?_ | refine B0 ?_); conv => whnf))
    (repeat ((first | refine N0 ?_ | refine A0 fun γ => ?_ | refine C1 ?_ | refine C2 ?_ | refine C3 ?_ | refine C4 ?_ | refine C5 ?_ | refine C6 ?_ | refine C7 ?_ | refine D0 fun γs => ?_ | refine A1 fun γs => ?_ | refine N2 ?_ | refine N3 ?_ | refine N1 ?_); ((conv => whnf); repeat ((first | refine Sw.o ?_ | refine B0 ?_); conv => whnf))))
    refine CondP.dec (fun hl => ?_) (fun hl => ?_) <;> ((conv => whnf); repeat ((first | refine Sw.o ?_ | refine B0 ?_); conv => whnf))
  all_goals ((repeat ((first | refine N0 ?_ | refine A0 fun γ => ?_ | refine C1 ?_ | refine C2 ?_ | refine C3 ?_ | refine C4 ?_ | refine C5 ?_ | refine C6 ?_ | refine C7 ?_ | refine D0 fun γs => ?_ | refine A1 fun γs => ?_ | refine N2 ?_ | refine N3 ?_ | refine N1 ?_); ((conv => whnf); repeat ((first | refine Sw.o ?_ | refine B0 ?_); conv => whnf)))))
  case refine_1.refine_2.refine_1 =>
    have hk1 : 0 < k := by omega
    refine Need.intro ⟨rfl, by simp only [cellsR_len hk]; omega⟩ ?_
    ((conv => whnf); repeat ((first | refine Sw.o ?_ | refine B0 ?_); conv => whnf))
    (repeat ((first | refine N0 ?_ | refine A0 fun γ => ?_ | refine C1 ?_ | refine C2 ?_ | refine C3 ?_ | refine C4 ?_ | refine C5 ?_ | refine C6 ?_ | refine C7 ?_ | refine D0 fun γs => ?_ | refine A1 fun γs => ?_ | refine N2 ?_ | refine N3 ?_ | refine N1 ?_); ((conv => whnf); repeat ((first | refine Sw.o ?_ | refine B0 ?_); conv => whnf))))
    have e1 : ((cellsR n k).drop 0).take k = (List.replicate k (-1)).map encI := by rw [List.drop_zero, cellsR_take n k hk]
    simp only [Int.toNat_natCast, Nat.sub_zero, Nat.zero_add, e1, List.length_map, List.length_replicate]
    refine Need.intro ⟨trivial, by rw [cellsR_len hk]; exact hk⟩ ?_
    refine CondP.pos (by omega) ?_
    ((conv => whnf); repeat ((first | refine Sw.o ?_ | refine B0 ?_); conv => whnf))
    (repeat ((first | refine N0 ?_ | refine A0 fun γ => ?_ | refine C1 ?_ | refine C2 ?_ | refine C3 ?_ | refine C4 ?_ | refine C5 ?_ | refine C6 ?_ | refine C7 ?_ | refine D0 fun γs => ?_ | refine A1 fun γs => ?_ | refine N2 ?_ | refine N3 ?_ | refine N1 ?_); ((conv => whnf); repeat ((first | refine Sw.o ?_ | refine B0 ?_); conv => whnf))))
    refine .intro <| W.of ⟨_, ?_, _, k + min k (n - k), by omega, by omega, rfl, rfl, rfl⟩ ⟨rfl, ?_, trivial⟩ ⟨?_, trivial⟩
    · omega
    · show AV.val (Value.int IntKind.i64 ((k : Int) + ((min k (n - k) : Nat) : Int))) = AV.val (Value.int IntKind.i64 ((k + min k (n - k) : Nat) : Int))
      rw [Int.natCast_add]
    · show some (γ, spl (⟨3, 1, cellsR n k⟩ : Blk) k _) = _
      rw [spl_cellsR 3 n k _ (min k (n - k)) (by rw [← List.map_take, List.take_replicate, Nat.min_comm]) (by omega)]
  case refine_2.refine_2.refine_1 => exfalso; simp at hq; omega
  all_goals
    have e : k = n := by omega
    subst e
    refine EndH.of (m := [(30, γ, ⟨3, 1, cellsR k k⟩)]) ⟨rfl, trivial⟩ ⟨γ, rfl, ?_⟩
    have : cellsR k k = (List.replicate k (-1)).map encI := by unfold cellsR; simp
    rw [this]
end Go.Proofs.Ytgeeklnokblokaa
namespace Go.Proofs.Ytgeeklnokblokaa
open Go Go.Fw
def fixF : Nat → List Int → MS × Int → MS × Int
  | _, [], s => s
  | e, u :: r, s => match decide (0 ≤ u) with
    | true => fixF (e + 1) r ((s.1.1.set u.toNat e, s.1.2.set u.toNat true), s.2 + 1)
    | false => fixF (e + 1) r s
def runF (g : G) (shut : List Bool) : List Nat → List Int × Int → List Int × Int
  | [], s => s
  | e :: r, s => match tryF g (shut.length + 1) e (s.1, shut) with
    | (true, t) => runF g shut r (t.1, s.2 + 1)
    | (false, t) => runF g shut r (t.1, s.2)
def startF (g : G) : MS × Int := ((List.replicate g.uses.length (-1), List.replicate g.uses.length false), 0)
def greatestF (g : G) (fixed : List Int) : List Int × Int :=
  runF g (fixF 0 fixed (startF g)).1.2 (List.range' fixed.length (g.eqs.length - fixed.length)) ((fixF 0 fixed (startF g)).1.1, (fixF 0 fixed (startF g)).2)
theorem fixF_ok {g : G} : ∀ (l : List Int) (e : Nat) (s : MS × Int), e + l.length ≤ g.eqs.length → MOk g s.1 → MOk g (fixF e l s).1
  | [], e, s, _, h => h
  | u :: r, e, s, he, h => by
    simp only [List.length_cons] at he
    unfold fixF
    split
    · exact fixF_ok r (e + 1) _ (by omega) ((h.see u.toNat).set u.toNat (e := (e : Int)) (by omega))
    · exact fixF_ok r (e + 1) s (by omega) h
theorem startF_ok (g : G) : MOk g (startF g).1 := ⟨by simp [startF], by simp [startF], fun x hx => by have := List.eq_of_mem_replicate hx; omega⟩
theorem fixF_n (l : List Int) : ∀ (e : Nat) (s : MS × Int), s.2 ≤ (fixF e l s).2 ∧ (fixF e l s).2 ≤ s.2 + l.length := by
  induction l with
  | nil => intro e s; simp [fixF]
  | cons u r ih =>
    intro e s
    unfold fixF
    split
    · have := ih (e + 1) ((s.1.1.set u.toNat e, s.1.2.set u.toNat true), s.2 + 1)
      simp only at this
      simp only [List.length_cons]; omega
    · have := ih (e + 1) s
      simp only [List.length_cons]; omega
theorem PureCall.le {P : Program} {f : Nat} {args args' : List AV} {r : AV} (h : PureCall P f args r) (hl : args'.length = args.length) (ha : ∀ i (h : i < args'.length) (h' : i < args.length), Le args'[i] args[i]) : PureCall P f args' r := by
  intro O w vs hO hv
  refine h O w vs hO ⟨by rw [← hl]; exact hv.1, fun i h1 h2 => ?_⟩
  exact ha i (by omega) h1 _ _ _ (hv.2 i (by omega) h2)
theorem snap_own {S : List Nat} {H : Hp} {b g off len : Nat} {B : Blk} (hS : b ∈ S) (hb : H b = some (g, B)) (hl : off + len ≤ B.xs.length) : snap S H (.own b g off len) = .sl B.n (((B.xs.drop off).take len).map (snapEl (snapC S H 2))) := by
  show snapC S H 3 (.own b g off len) = _
  simp only [snapC, if_pos hS, hb, true_and, if_pos hl]
theorem hcall_args {P : Program} {f : Nat} {args args' : List AV} {H : Hp} {Q : AV → Hp → Prop} (e : args = args') (h : HCall P f args' H Q) : HCall P f args H Q := e ▸ h
set_option maxRecDepth 100000 in
theorem greatest_ok (g : G) (hg : WF g) (fixed : List Int) (hf : fixed.length ≤ g.eqs.length) (hu : ∀ u ∈ fixed, u < g.uses.length) :
    PureCall Try.prog 39 [encG g, encL fixed] (.tup [encL (greatestF g fixed).1, encI (greatestF g fixed).2]) := by
  refine pure_cp (E := E 0) T_ok (D_ok 0) [6] Try.func39 rfl (by rfl) (Nat.le_of_ble_eq_true rfl) ?_
  have su := hg.su
  have se := hg.se
  ((conv => whnf); repeat ((first | refine Sw.o ?_ | refine B0 ?_); conv => whnf))
  (repeat ((first | refine N0 ?_ | refine A0 fun γ => ?_ | refine C1 ?_ | refine C2 ?_ | refine C3 ?_ | refine C4 ?_ | refine C5 ?_ | refine C6 ?_ | refine C7 ?_ | refine D0 fun γs => ?_ | refine A1 fun γs => ?_ | refine N2 ?_ | refine N3 ?_ | refine N1 ?_); ((conv => whnf); repeat ((first | refine Sw.o ?_ | refine B0 ?_); conv => whnf))))
  simp only [List.length_map]
  rename_i γ
  refine CallP.frame 1000000 [(200, 12), (30, 6)] rfl c67 (repeat_ok γ g.uses.length su) rfl ⟨rfl, trivial⟩ ?_
  rintro r0 h' ⟨δ, rfl, rfl⟩
  refine ⟨[(6, δ, ⟨3, 1, (List.replicate g.uses.length (-1)).map encI⟩), (2, _, ⟨26, 3, [encG g]⟩)], ⟨mvB_flats encI _ (fun _ => rfl) .., rfl, trivial⟩, ?_⟩
  ((conv => whnf); repeat ((first | refine Sw.o ?_ | refine B0 ?_); conv => whnf))
  (repeat ((first | refine N0 ?_ | refine A0 fun γ => ?_ | refine C1 ?_ | refine C2 ?_ | refine C3 ?_ | refine C4 ?_ | refine C5 ?_ | refine C6 ?_ | refine C7 ?_ | refine D0 fun γs => ?_ | refine A1 fun γs => ?_ | refine N2 ?_ | refine N3 ?_ | refine N1 ?_); ((conv => whnf); repeat ((first | refine Sw.o ?_ | refine B0 ?_); conv => whnf))))
  generalize hF : greatestF g fixed = F
  unfold greatestF at hF
  generalize hFx : fixF 0 fixed (startF g) = Fx at hF
  simp only [Int.toNat_natCast, rep_encB, List.length_map]
  refine LoopP.intro (fun m σ H => ∃ p6 p20 p2 i, ∃ t : MS × Int, i ≤ fixed.length ∧ m = fixed.length - i ∧ MOk g t.1 ∧ 0 ≤ t.2 ∧ t.2 ≤ i ∧ fixF i (fixed.drop i) t = Fx ∧
    σ = fr [(1, encL fixed), (2, .op 2 p2 0 0), (6, .own 6 p6 0 g.uses.length), (7, .own 20 p20 0 g.uses.length), (8, encI t.2), (21, encL fixed), (22, encI fixed.length), (23, encI i)] ∧
    H = hp [(6, p6, ⟨3, 1, t.1.1.map encI⟩), (20, p20, ⟨4, 1, t.1.2.map encB⟩), (2, p2, ⟨26, 3, [encG g]⟩)]) ?_ ?_
  · exact .intro <| W.of ⟨_, _, _, _, 0, startF g, Nat.zero_le _, rfl, startF_ok g, Int.le_refl _, Int.le_refl _, hFx, rfl, rfl⟩ ⟨rfl, rfl, rfl, rfl, rfl, rfl, rfl, rfl, trivial⟩ ⟨rfl, rfl, rfl, trivial⟩
  · rintro m σ H ⟨p6, p20, p2, i, t, hi, rfl, ht, hk0, hk1, hfix, rfl, rfl⟩
    have lm := ht.lm
    have ls := ht.ls
    ((conv => whnf); repeat ((first | refine Sw.o ?_ | refine B0 ?_); conv => whnf))
    (repeat ((first | refine N0 ?_ | refine A0 fun γ => ?_ | refine C1 ?_ | refine C2 ?_ | refine C3 ?_ | refine C4 ?_ | refine C5 ?_ | refine C6 ?_ | refine C7 ?_ | refine D0 fun γs => ?_ | refine A1 fun γs => ?_ | refine N2 ?_ | refine N3 ?_ | refine N1 ?_); ((conv => whnf); repeat ((first | refine Sw.o ?_ | refine B0 ?_); conv => whnf))))
    refine CondP.dec (fun h => ?_) (fun h => ?_) <;> ((conv => whnf); repeat ((first | refine Sw.o ?_ | refine B0 ?_); conv => whnf))
    · (have h2 := h; try simp only [LN] at h2)
      (repeat ((first | refine N0 ?_ | refine A0 fun γ => ?_ | refine C1 ?_ | refine C2 ?_ | refine C3 ?_ | refine C4 ?_ | refine C5 ?_ | refine C6 ?_ | refine C7 ?_ | refine D0 fun γs => ?_ | refine A1 fun γs => ?_ | refine N2 ?_ | refine N3 ?_ | refine N1 ?_); ((conv => whnf); repeat ((first | refine Sw.o ?_ | refine B0 ?_); conv => whnf))))
      (simp (disch := omega) only [LG]; ((conv => whnf); repeat ((first | refine Sw.o ?_ | refine B0 ?_); conv => whnf)))
      have hi' : i < fixed.length := by omega
      have hui := hu _ (List.getElem_mem hi')
      rw [List.drop_eq_getElem_cons hi'] at hfix
      generalize fixed[i] = u at hui hfix ⊢
      unfold fixF at hfix
      (repeat ((first | refine N0 ?_ | refine A0 fun γ => ?_ | refine C1 ?_ | refine C2 ?_ | refine C3 ?_ | refine C4 ?_ | refine C5 ?_ | refine C6 ?_ | refine C7 ?_ | refine D0 fun γs => ?_ | refine A1 fun γs => ?_ | refine N2 ?_ | refine N3 ?_ | refine N1 ?_); ((conv => whnf); repeat ((first | refine Sw.o ?_ | refine B0 ?_); conv => whnf))))
      refine CondP.dec (fun hp => ?_) (fun hp => ?_) <;> ((conv => whnf); repeat ((first | refine Sw.o ?_ | refine B0 ?_); conv => whnf))
      · rw [decide_eq_true hp] at hfix
        (repeat ((first | refine N0 ?_ | refine A0 fun γ => ?_ | refine C1 ?_ | refine C2 ?_ | refine C3 ?_ | refine C4 ?_ | refine C5 ?_ | refine C6 ?_ | refine C7 ?_ | refine D0 fun γs => ?_ | refine A1 fun γs => ?_ | refine N2 ?_ | refine N3 ?_ | refine N1 ?_ | simp (disch := omega) only [LG]); ((conv => whnf); repeat ((first | refine Sw.o ?_ | refine B0 ?_); conv => whnf))))
        refine .intro <| W.of ⟨_, by omega, _, _, _, i + 1, ((t.1.1.set u.toNat i, t.1.2.set u.toNat true), t.2 + 1), by omega, rfl, (ht.see u.toNat).set u.toNat (e := (i : Int)) (by omega), by simp only; omega, by simp only; omega, hfix, rfl, rfl⟩ ⟨rfl, rfl, rfl, rfl, rfl, rfl, rfl, rfl, trivial⟩ ⟨?_, ?_, rfl, trivial⟩
        · rw [← set_map (x := (i : Int)) (h := rfl)]; rfl
        · rw [← set_map (x := true) (h := rfl)]; rfl
      · rw [decide_eq_false hp] at hfix
        (repeat ((first | refine N0 ?_ | refine A0 fun γ => ?_ | refine C1 ?_ | refine C2 ?_ | refine C3 ?_ | refine C4 ?_ | refine C5 ?_ | refine C6 ?_ | refine C7 ?_ | refine D0 fun γs => ?_ | refine A1 fun γs => ?_ | refine N2 ?_ | refine N3 ?_ | refine N1 ?_); ((conv => whnf); repeat ((first | refine Sw.o ?_ | refine B0 ?_); conv => whnf))))
        exact .intro <| W.of ⟨_, by omega, _, _, _, i + 1, t, by omega, rfl, ht, hk0, by omega, hfix, rfl, rfl⟩ ⟨rfl, rfl, rfl, rfl, rfl, rfl, rfl, rfl, trivial⟩ ⟨rfl, rfl, rfl, trivial⟩
    · (have h2 := h; try simp only [LN] at h2)
      (repeat ((first | refine N0 ?_ | refine A0 fun γ => ?_ | refine C1 ?_ | refine C2 ?_ | refine C3 ?_ | refine C4 ?_ | refine C5 ?_ | refine C6 ?_ | refine C7 ?_ | refine D0 fun γs => ?_ | refine A1 fun γs => ?_ | refine N2 ?_ | refine N3 ?_ | refine N1 ?_); ((conv => whnf); repeat ((first | refine Sw.o ?_ | refine B0 ?_); conv => whnf))))
      rw [List.drop_eq_nil_of_le (by omega)] at hfix
      simp only [fixF] at hfix
      rw [← hfix] at hF
      simp only [List.length_map]
      refine LoopP.intro (fun m σ H => ∃ p6 p20 p2 e, ∃ s : List Int × Int, fixed.length ≤ e ∧ e ≤ g.eqs.length ∧ m = g.eqs.length - e ∧ MOk g (s.1, t.1.2) ∧ 0 ≤ s.2 ∧ s.2 ≤ e ∧ runF g t.1.2 (List.range' e (g.eqs.length - e)) s = F ∧
        σ = fr [(2, .op 2 p2 0 0), (6, .own 6 p6 0 g.uses.length), (7, .own 20 p20 0 g.uses.length), (8, encI s.2), (11, encI e)] ∧
        H = hp [(6, p6, ⟨3, 1, s.1.map encI⟩), (20, p20, ⟨4, 1, t.1.2.map encB⟩), (2, p2, ⟨26, 3, [encG g]⟩)]) ?_ ?_
      · exact .intro <| W.of ⟨_, _, _, _, fixed.length, (t.1.1, t.2), Nat.le_refl _, hf, rfl, ht, hk0, by simp only; omega, hF, rfl, rfl⟩ ⟨rfl, rfl, rfl, rfl, rfl, trivial⟩ ⟨rfl, rfl, rfl, trivial⟩
      · rintro m σ H ⟨p6, p20, p2, e, s, he0, he1, rfl, hs, hs0, hs1, hrun, rfl, rfl⟩
        have lm := hs.lm
        have ls := hs.ls
        ((conv => whnf); repeat ((first | refine Sw.o ?_ | refine B0 ?_); conv => whnf))
        (repeat ((first | refine N0 ?_ | refine A0 fun γ => ?_ | refine C1 ?_ | refine C2 ?_ | refine C3 ?_ | refine C4 ?_ | refine C5 ?_ | refine C6 ?_ | refine C7 ?_ | refine A1 fun γs => ?_ | refine N2 ?_ | refine N3 ?_ | refine N1 ?_); ((conv => whnf); repeat ((first | refine Sw.o ?_ | refine B0 ?_); conv => whnf))))
        refine CondP.dec (fun h => ?_) (fun h => ?_) <;> ((conv => whnf); repeat ((first | refine Sw.o ?_ | refine B0 ?_); conv => whnf))
        · (have h2 := h; try simp only [LN] at h2)
          (repeat ((first | refine N0 ?_ | refine A0 fun γ => ?_ | refine C1 ?_ | refine C2 ?_ | refine C3 ?_ | refine C4 ?_ | refine C5 ?_ | refine C6 ?_ | refine C7 ?_ | refine A1 fun γs => ?_ | refine N2 ?_ | refine N3 ?_ | refine N1 ?_); ((conv => whnf); repeat ((first | refine Sw.o ?_ | refine B0 ?_); conv => whnf))))
          have he' : e < g.eqs.length := by omega
          rw [show g.eqs.length - e = (g.eqs.length - (e + 1)) + 1 by omega, List.range'_succ] at hrun
          unfold runF at hrun
          have htry := tryF_ok hg (t.1.2.length + 1) (e : Int) (s.1, t.1.2) (by omega) (by omega) hs
          refine DrawH.segs [(5, false), (6, true)] (by kernel_rfl) ?_
          ((conv => whnf); repeat ((first | refine Sw.o ?_ | refine B0 ?_); conv => whnf))
          (repeat ((first | refine N0 ?_ | refine A0 fun γ => ?_ | refine C1 ?_ | refine C2 ?_ | refine C3 ?_ | refine C4 ?_ | refine C5 ?_ | refine C6 ?_ | refine C7 ?_ | refine A1 fun γs => ?_ | refine N2 ?_ | refine N3 ?_ | refine N1 ?_ | simp (disch := omega) only [LG]); ((conv => whnf); repeat ((first | refine Sw.o ?_ | refine B0 ?_); conv => whnf))))
          refine CallG.new 5 4 1 (t.1.2.map encB) 0 t.1.2.length c69 ?_ (fun x hx c hc => by obtain ⟨b, _, rfl⟩ := List.mem_map.1 hx; obtain rfl := List.mem_singleton.1 hc; rfl) ?_
          · refine hcall_args ?_ (clone69_ok t.1.2 (by simp only at ls; omega))
            show [snap _ _ (.own 20 p20 0 g.uses.length)] = _
            rw [snap_own (B := ⟨4, 1, t.1.2.map encB⟩) (by show (20 : Nat) ∈ [20]; simp) rfl (by simp only [List.length_map]; simp only at ls; omega), snap_list _ _ _ _ ls.symm (fun _ => rfl)]
          ((conv => whnf); repeat ((first | refine Sw.o ?_ | refine B0 ?_); conv => whnf))
          (repeat ((first | refine N0 ?_ | refine A0 fun γ => ?_ | refine C1 ?_ | refine C2 ?_ | refine C3 ?_ | refine C4 ?_ | refine C5 ?_ | refine C6 ?_ | refine C7 ?_ | refine A1 fun γs => ?_ | refine N2 ?_ | refine N3 ?_ | refine N1 ?_ | simp (disch := omega) only [LG]); ((conv => whnf); repeat ((first | refine Sw.o ?_ | refine B0 ?_); conv => whnf))))
          refine CallP.frame 1000000 [(100, 6), (101, 53)] rfl c68 (try_ok g hg (t.1.2.length + 1) e (s.1, t.1.2) p6 _ (by omega) (by omega) hs (by simp only [unseen]; have := List.countP_le_length (p := (!·)) (l := t.1.2); omega)) ?_ ⟨mvB_flats encI _ (fun _ => rfl) .., mvB_flats encB _ (fun _ => rfl) .., trivial⟩ ?_
          · show [AV.own 100 p6 0 _, _, _, AV.own 101 _ 0 _] = _
            simp only at ls
            rw [ls]; rfl
          · rintro r0 h' ⟨rfl, rfl⟩
            generalize tryF g (t.1.2.length + 1) e (s.1, t.1.2) = q at hrun htry ⊢
            obtain ⟨b, q⟩ := q
            refine ⟨[(6, p6, ⟨3, 1, q.1.map encI⟩), (20, p20, ⟨4, 1, t.1.2.map encB⟩), (2, p2, ⟨26, 3, [encG g]⟩)], ⟨mvB_flats encI _ (fun _ => rfl) .., rfl, rfl, trivial⟩, ?_⟩
            have hq : MOk g (q.1, t.1.2) := ⟨htry.1.lm, ht.ls, htry.1.lt⟩
            cases b
            · simp only at hrun
              ((conv => whnf); repeat ((first | refine Sw.o ?_ | refine B0 ?_); conv => whnf))
              (repeat ((first | refine N0 ?_ | refine A0 fun γ => ?_ | refine C1 ?_ | refine C2 ?_ | refine C3 ?_ | refine C4 ?_ | refine C5 ?_ | refine C6 ?_ | refine C7 ?_ | refine D0 fun γs => ?_ | refine A1 fun γs => ?_ | refine N2 ?_ | refine N3 ?_ | refine N1 ?_); ((conv => whnf); repeat ((first | refine Sw.o ?_ | refine B0 ?_); conv => whnf))))
              exact .intro <| W.of ⟨_, by omega, _, _, _, e + 1, (q.1, s.2), by omega, by omega, rfl, hq, hs0, by simp only; omega, hrun, rfl, rfl⟩ ⟨rfl, rfl, rfl, rfl, rfl, trivial⟩ ⟨rfl, rfl, rfl, trivial⟩
            · simp only at hrun
              ((conv => whnf); repeat ((first | refine Sw.o ?_ | refine B0 ?_); conv => whnf))
              (repeat ((first | refine N0 ?_ | refine A0 fun γ => ?_ | refine C1 ?_ | refine C2 ?_ | refine C3 ?_ | refine C4 ?_ | refine C5 ?_ | refine C6 ?_ | refine C7 ?_ | refine D0 fun γs => ?_ | refine A1 fun γs => ?_ | refine N2 ?_ | refine N3 ?_ | refine N1 ?_); ((conv => whnf); repeat ((first | refine Sw.o ?_ | refine B0 ?_); conv => whnf))))
              exact .intro <| W.of ⟨_, by omega, _, _, _, e + 1, (q.1, s.2 + 1), by omega, by omega, rfl, hq, by simp only; omega, by simp only; omega, hrun, rfl, rfl⟩ ⟨rfl, rfl, rfl, rfl, rfl, trivial⟩ ⟨rfl, rfl, rfl, trivial⟩
        · (have h2 := h; try simp only [LN] at h2)
          rw [show g.eqs.length - e = 0 by omega] at hrun
          subst hrun
          (repeat ((first | refine N0 ?_ | refine A0 fun γ => ?_ | refine C1 ?_ | refine C2 ?_ | refine C3 ?_ | refine C4 ?_ | refine C5 ?_ | refine C6 ?_ | refine C7 ?_ | refine A1 fun γs => ?_ | refine N2 ?_ | refine N3 ?_ | refine N1 ?_); ((conv => whnf); repeat ((first | refine Sw.o ?_ | refine B0 ?_); conv => whnf))))
          refine .of ?_
          show AV.tup [AV.sl 1 _, _] = AV.tup [AV.sl 1 _, _]
          rw [snap_list _ _ _ _ (show g.uses.length = s.1.length by simpa using lm.symm) (fun _ => rfl)]
          rfl
end Go.Proofs.Ytgeeklnokblokaa
namespace Go.Proofs.Ytgeeklnokblokaa
open Go Go.Fw
def indexF (x : Int) : List Int → Int → Int
  | [], _ => -1
  | y :: r, i => match decide (x = y) with
    | true => i
    | false => indexF x r (i + 1)
theorem indexF_ge (x : Int) : ∀ (l : List Int) (i : Int), 0 ≤ i → (0 ≤ indexF x l i ↔ x ∈ l)
  | [], i, h => by simp [indexF]
  | y :: r, i, h => by
    unfold indexF
    split
    · rename_i e; simp only [List.mem_cons, of_decide_eq_true e, true_or, iff_true]; exact h
    · rename_i e
      rw [indexF_ge x r (i + 1) (by omega), List.mem_cons]
      simp [of_decide_eq_false e]
set_option maxRecDepth 100000 in
theorem index_ok (l : List Int) (x : Int) (hl : l.length ≤ 2^40) : PureCall Try.prog 78 [encL l, encI x] (encI (indexF x l 0)) := by
  refine pure_cp (E := E 0) T_ok (D_ok 0) [] Try.func78 rfl (by rfl) (Nat.le_of_ble_eq_true rfl) ?_
  generalize hF : indexF x l 0 = F
  ((conv => whnf); repeat ((first | refine Sw.o ?_ | refine B0 ?_); conv => whnf))
  (repeat ((first | refine N0 ?_ | refine A0 fun γ => ?_ | refine C1 ?_ | refine C2 ?_ | refine C3 ?_ | refine C4 ?_ | refine C5 ?_ | refine C6 ?_ | refine C7 ?_ | refine D0 fun γs => ?_ | refine A1 fun γs => ?_ | refine N2 ?_ | refine N3 ?_ | refine N1 ?_); ((conv => whnf); repeat ((first | refine Sw.o ?_ | refine B0 ?_); conv => whnf))))
  refine LoopP.intro (fun n σ H => ∃ i, i ≤ l.length ∧ n = l.length - i ∧ indexF x (l.drop i) i = F ∧ σ = fr [(0, encL l), (1, encI x), (7, encI l.length), (8, encI i)] ∧ H = hp []) ?_ ?_
  · exact .intro <| W.of ⟨_, 0, Nat.zero_le _, rfl, hF, rfl, rfl⟩ ⟨rfl, rfl, by simp; rfl, rfl, trivial⟩ trivial
  · rintro n σ H ⟨i, hi, rfl, hc, rfl, rfl⟩
    ((conv => whnf); repeat ((first | refine Sw.o ?_ | refine B0 ?_); conv => whnf))
    (repeat ((first | refine N0 ?_ | refine A0 fun γ => ?_ | refine C1 ?_ | refine C2 ?_ | refine C3 ?_ | refine C4 ?_ | refine C5 ?_ | refine C6 ?_ | refine C7 ?_ | refine D0 fun γs => ?_ | refine A1 fun γs => ?_ | refine N2 ?_ | refine N3 ?_ | refine N1 ?_); ((conv => whnf); repeat ((first | refine Sw.o ?_ | refine B0 ?_); conv => whnf))))
    refine CondP.dec (fun h => ?_) (fun h => ?_) <;> ((conv => whnf); repeat ((first | refine Sw.o ?_ | refine B0 ?_); conv => whnf))
    · (have h2 := h; try simp only [LN] at h2)
      have hi' : i < l.length := by omega
      rw [List.drop_eq_getElem_cons hi'] at hc
      unfold indexF at hc
      (repeat ((first | refine N0 ?_ | refine A0 fun γ => ?_ | refine C1 ?_ | refine C2 ?_ | refine C3 ?_ | refine C4 ?_ | refine C5 ?_ | refine C6 ?_ | refine C7 ?_ | refine D0 fun γs => ?_ | refine A1 fun γs => ?_ | refine N2 ?_ | refine N3 ?_ | refine N1 ?_); ((conv => whnf); repeat ((first | refine Sw.o ?_ | refine B0 ?_); conv => whnf))))
      (simp (disch := omega) only [LG]; ((conv => whnf); repeat ((first | refine Sw.o ?_ | refine B0 ?_); conv => whnf)))
      refine CondP.dec (fun hq => ?_) (fun hq => ?_) <;> ((conv => whnf); repeat ((first | refine Sw.o ?_ | refine B0 ?_); conv => whnf))
      · rw [decide_eq_true hq] at hc
        (repeat ((first | refine N0 ?_ | refine A0 fun γ => ?_ | refine C1 ?_ | refine C2 ?_ | refine C3 ?_ | refine C4 ?_ | refine C5 ?_ | refine C6 ?_ | refine C7 ?_ | refine D0 fun γs => ?_ | refine A1 fun γs => ?_ | refine N2 ?_ | refine N3 ?_ | refine N1 ?_); ((conv => whnf); repeat ((first | refine Sw.o ?_ | refine B0 ?_); conv => whnf))))
        refine .of ?_
        rw [← hc]
        rfl
      · rw [decide_eq_false hq] at hc
        (repeat ((first | refine N0 ?_ | refine A0 fun γ => ?_ | refine C1 ?_ | refine C2 ?_ | refine C3 ?_ | refine C4 ?_ | refine C5 ?_ | refine C6 ?_ | refine C7 ?_ | refine D0 fun γs => ?_ | refine A1 fun γs => ?_ | refine N2 ?_ | refine N3 ?_ | refine N1 ?_); ((conv => whnf); repeat ((first | refine Sw.o ?_ | refine B0 ?_); conv => whnf))))
        exact .intro <| W.of ⟨_, by omega, i + 1, hi', rfl, hc, rfl, rfl⟩ ⟨rfl, rfl, rfl, rfl, trivial⟩ trivial
    · (have h2 := h; try simp only [LN] at h2)
      (repeat ((first | refine N0 ?_ | refine A0 fun γ => ?_ | refine C1 ?_ | refine C2 ?_ | refine C3 ?_ | refine C4 ?_ | refine C5 ?_ | refine C6 ?_ | refine C7 ?_ | refine D0 fun γs => ?_ | refine A1 fun γs => ?_ | refine N2 ?_ | refine N3 ?_ | refine N1 ?_); ((conv => whnf); repeat ((first | refine Sw.o ?_ | refine B0 ?_); conv => whnf))))
      refine .of ?_
      rw [← hc, List.drop_eq_nil_of_le (by omega)]; rfl
set_option maxRecDepth 100000 in
theorem contains_ok (l : List Int) (x : Int) (hl : l.length ≤ 2^40) : PureCall Try.prog 64 [encL l, encI x] (encB (decide (x ∈ l))) := by
  refine pure_cp (E := E 0) T_ok (D_ok 0) [] Try.func64 rfl (by rfl) (Nat.le_of_ble_eq_true rfl) ?_
  ((conv => whnf); repeat ((first | refine Sw.o ?_ | refine B0 ?_); conv => whnf))
  (repeat ((first | refine N0 ?_ | refine A0 fun γ => ?_ | refine C1 ?_ | refine C2 ?_ | refine C3 ?_ | refine C4 ?_ | refine C5 ?_ | refine C6 ?_ | refine C7 ?_ | refine D0 fun γs => ?_ | refine A1 fun γs => ?_ | refine N2 ?_ | refine N3 ?_ | refine N1 ?_); ((conv => whnf); repeat ((first | refine Sw.o ?_ | refine B0 ?_); conv => whnf))))
  refine CallP.flat [] _ c78 (index_ok l x hl) rfl ?_
  ((conv => whnf); repeat ((first | refine Sw.o ?_ | refine B0 ?_); conv => whnf))
  (repeat ((first | refine N0 ?_ | refine A0 fun γ => ?_ | refine C1 ?_ | refine C2 ?_ | refine C3 ?_ | refine C4 ?_ | refine C5 ?_ | refine C6 ?_ | refine C7 ?_ | refine D0 fun γs => ?_ | refine A1 fun γs => ?_ | refine N2 ?_ | refine N3 ?_ | refine N1 ?_); ((conv => whnf); repeat ((first | refine Sw.o ?_ | refine B0 ?_); conv => whnf))))
  refine .of ?_
  show AV.val (Value.bool (decide (0 ≤ indexF x l 0))) = AV.val (Value.bool (decide (x ∈ l)))
  simp only [indexF_ge x l 0 (Int.le_refl _)]
def matchL (g : G) (most : Int) (out : List Int) : List Int → Int
  | [] => -1
  | u :: r => match decide (u ∈ out) with
    | true => matchL g most out r
    | false => match decide ((greatestF g (out ++ [u])).2 = most) with
      | true => u
      | false => matchL g most out r
def matchO (g : G) (most : Int) : List (List Int) → List Int → List Int
  | [], out => out
  | l :: r, out => matchO g most r (out ++ [matchL g most out l])
def matchF (g : G) : List Int := matchO g (greatestF g []).2 g.joined []
theorem matchL_lt (g : G) (most : Int) (out : List Int) : ∀ l : List Int, (∀ u ∈ l, u < g.uses.length) → matchL g most out l < g.uses.length
  | [], _ => by unfold matchL; omega
  | u :: r, h => by
    unfold matchL
    have ih := matchL_lt g most out r fun x hx => h x (by simp [hx])
    split
    · exact ih
    · split
      · exact h u (by simp)
      · exact ih
theorem greatest0_ok (g : G) (hg : WF g) : PureCall Try.prog 39 [encG g, .val (.slice none 0 0)] (.tup [encL (greatestF g []).1, encI (greatestF g []).2]) := by
  refine PureCall.le (greatest_ok g hg [] (Nat.zero_le _) (fun u h => absurd h (by simp))) rfl (fun i h h' => ?_)
  rcases i with _ | _ | i
  · exact Le.refl _
  · exact Le.nil 1
  · simp at h'; omega
theorem pure_args {P : Program} {f : Nat} {args args' : List AV} {r : AV} (e : args = args') (h : PureCall P f args' r) : PureCall P f args r := e ▸ h
theorem snoc_encI (l : List Int) (u : Int) : l.map encI ++ [encI u] = (l ++ [u]).map encI := by simp
set_option maxRecDepth 100000 in
theorem match_ok (g : G) (hg : WF g) : PureCall Try.prog 36 [encG g] (encL (matchF g)) := by
  refine pure_cp (E := E 0) T_ok (D_ok 0) [20] Try.func36 rfl (by rfl) (Nat.le_of_ble_eq_true rfl) ?_
  have su := hg.su
  have se := hg.se
  have hjl := hg.len
  ((conv => whnf); repeat ((first | refine Sw.o ?_ | refine B0 ?_); conv => whnf))
  (repeat ((first | refine N0 ?_ | refine A0 fun γ => ?_ | refine C1 ?_ | refine C2 ?_ | refine C3 ?_ | refine C4 ?_ | refine C5 ?_ | refine C6 ?_ | refine C7 ?_ | refine D0 fun γs => ?_ | refine A1 fun γs => ?_ | refine N2 ?_ | refine N3 ?_ | refine N1 ?_); ((conv => whnf); repeat ((first | refine Sw.o ?_ | refine B0 ?_); conv => whnf))))
  refine CallP.pure [] _ c39 (greatest0_ok g hg) ?_
  generalize hR : matchF g = R
  unfold matchF at hR
  generalize (greatestF g []).2 = most at hR ⊢
  generalize (greatestF g []).1 = m0
  ((conv => whnf); repeat ((first | refine Sw.o ?_ | refine B0 ?_); conv => whnf))
  (repeat ((first | refine N0 ?_ | refine A0 fun γ => ?_ | refine C1 ?_ | refine C2 ?_ | refine C3 ?_ | refine C4 ?_ | refine C5 ?_ | refine C6 ?_ | refine C7 ?_ | refine D0 fun γs => ?_ | refine A1 fun γs => ?_ | refine N2 ?_ | refine N3 ?_ | refine N1 ?_); ((conv => whnf); repeat ((first | refine Sw.o ?_ | refine B0 ?_); conv => whnf))))
  simp only [List.length_map]
  refine LoopP.intro (fun m σ H => ∃ p1 p20 i, ∃ out : List Int, i ≤ g.eqs.length ∧ m = g.eqs.length - i ∧ out.length = i ∧ (∀ u ∈ out, u < g.uses.length) ∧ matchO g most (g.joined.drop i) out = R ∧
    σ = fr [(1, .op 1 p1 0 0), (4, encI most), (5, .own 20 p20 0 i), (23, encI g.eqs.length), (24, encI i)] ∧
    H = hp [(20, p20, ⟨3, 1, out.map encI⟩), (1, p1, ⟨26, 3, [encG g]⟩)]) ?_ ?_
  · exact .intro <| W.of ⟨_, _, _, 0, [], Nat.zero_le _, rfl, rfl, fun u h => absurd h (by simp), hR, rfl, rfl⟩ ⟨rfl, rfl, rfl, rfl, rfl, trivial⟩ ⟨rfl, rfl, trivial⟩
  · rintro m σ H ⟨p1, p20, i, out, hi, rfl, hol, hou, hO, rfl, rfl⟩
    ((conv => whnf); repeat ((first | refine Sw.o ?_ | refine B0 ?_); conv => whnf))
    (repeat ((first | refine N0 ?_ | refine A0 fun γ => ?_ | refine C1 ?_ | refine C2 ?_ | refine C3 ?_ | refine C4 ?_ | refine C5 ?_ | refine C6 ?_ | refine C7 ?_ | refine D0 fun γs => ?_ | refine A1 fun γs => ?_ | refine N2 ?_ | refine N3 ?_ | refine N1 ?_); ((conv => whnf); repeat ((first | refine Sw.o ?_ | refine B0 ?_); conv => whnf))))
    refine CondP.dec (fun h => ?_) (fun h => ?_) <;> ((conv => whnf); repeat ((first | refine Sw.o ?_ | refine B0 ?_); conv => whnf))
    · (have h2 := h; try simp only [LN] at h2)
      have hi' : i < g.joined.length := by omega
      have sl := hg.sl _ (List.getElem_mem hi')
      have hin := hg.in_ _ (List.getElem_mem hi')
      rw [List.drop_eq_getElem_cons hi'] at hO
      unfold matchO at hO
      (repeat ((first | refine N0 ?_ | refine A0 fun γ => ?_ | refine C1 ?_ | refine C2 ?_ | refine C3 ?_ | refine C4 ?_ | refine C5 ?_ | refine C6 ?_ | refine C7 ?_ | refine D0 fun γs => ?_ | refine A1 fun γs => ?_ | refine N2 ?_ | refine N3 ?_ | refine N1 ?_); ((conv => whnf); repeat ((first | refine Sw.o ?_ | refine B0 ?_); conv => whnf))))
      (simp (disch := omega) only [LG]; ((conv => whnf); repeat ((first | refine Sw.o ?_ | refine B0 ?_); conv => whnf)))
      (repeat ((first | refine N0 ?_ | refine A0 fun γ => ?_ | refine C1 ?_ | refine C2 ?_ | refine C3 ?_ | refine C4 ?_ | refine C5 ?_ | refine C6 ?_ | refine C7 ?_ | refine D0 fun γs => ?_ | refine A1 fun γs => ?_ | refine N2 ?_ | refine N3 ?_ | refine N1 ?_); ((conv => whnf); repeat ((first | refine Sw.o ?_ | refine B0 ?_); conv => whnf))))
      generalize g.joined[i] = l at sl hin hO ⊢
      generalize hU : matchL g most out l = U at hO
      have hUlt : U < g.uses.length := by rw [← hU]; exact matchL_lt g most out l fun u hu => (hin u hu).2
      refine LoopP.intro (fun m σ H => ∃ p1 p20 k, k ≤ l.length ∧ m = l.length - k ∧ matchL g most out (l.drop k) = U ∧
        σ = fr [(1, .op 1 p1 0 0), (4, encI most), (5, .own 20 p20 0 i), (23, encI g.eqs.length), (24, encI i), (7, encI (-1)), (31, encL l), (32, encI l.length), (33, encI k)] ∧
        H = hp [(20, p20, ⟨3, 1, out.map encI⟩), (1, p1, ⟨26, 3, [encG g]⟩)]) ?_ ?_
      · exact .intro <| W.of ⟨_, _, _, 0, Nat.zero_le _, rfl, hU, rfl, rfl⟩ ⟨rfl, rfl, rfl, rfl, rfl, rfl, rfl, by simp; rfl, rfl, trivial⟩ ⟨rfl, rfl, trivial⟩
      · rintro m σ H ⟨p1, p20, k, hk, rfl, hL, rfl, rfl⟩
        ((conv => whnf); repeat ((first | refine Sw.o ?_ | refine B0 ?_); conv => whnf))
        (repeat ((first | refine N0 ?_ | refine A0 fun γ => ?_ | refine C1 ?_ | refine C2 ?_ | refine C3 ?_ | refine C4 ?_ | refine C5 ?_ | refine C6 ?_ | refine C7 ?_ | refine D0 fun γs => ?_ | refine A1 fun γs => ?_ | refine N2 ?_ | refine N3 ?_ | refine N1 ?_); ((conv => whnf); repeat ((first | refine Sw.o ?_ | refine B0 ?_); conv => whnf))))
        refine CondP.dec (fun h => ?_) (fun h => ?_) <;> ((conv => whnf); repeat ((first | refine Sw.o ?_ | refine B0 ?_); conv => whnf))
        · (have h2 := h; try simp only [LN] at h2)
          (repeat ((first | refine N0 ?_ | refine A0 fun γ => ?_ | refine C1 ?_ | refine C2 ?_ | refine C3 ?_ | refine C4 ?_ | refine C5 ?_ | refine C6 ?_ | refine C7 ?_ | refine D0 fun γs => ?_ | refine A1 fun γs => ?_ | refine N2 ?_ | refine N3 ?_ | refine N1 ?_); ((conv => whnf); repeat ((first | refine Sw.o ?_ | refine B0 ?_); conv => whnf))))
          (simp (disch := omega) only [LG]; ((conv => whnf); repeat ((first | refine Sw.o ?_ | refine B0 ?_); conv => whnf)))
          have hk' : k < l.length := by omega
          have hu := hin _ (List.getElem_mem hk')
          rw [List.drop_eq_getElem_cons hk'] at hL
          generalize l[k] = u at hu hL ⊢
          unfold matchL at hL
          (repeat ((first | refine N0 ?_ | refine A0 fun γ => ?_ | refine C1 ?_ | refine C2 ?_ | refine C3 ?_ | refine C4 ?_ | refine C5 ?_ | refine C6 ?_ | refine C7 ?_ | refine D0 fun γs => ?_ | refine A1 fun γs => ?_ | refine N2 ?_ | refine N3 ?_ | refine N1 ?_); ((conv => whnf); repeat ((first | refine Sw.o ?_ | refine B0 ?_); conv => whnf))))
          have es : snap [20] (hp [(20, p20, ⟨3, 1, out.map encI⟩), (1, p1, ⟨26, 3, [encG g]⟩)]) (.own 20 p20 0 i) = encL out := by
            rw [snap_own (B := ⟨3, 1, out.map encI⟩) (by simp) rfl (by simp; omega), snap_list _ _ _ _ hol.symm (fun _ => rfl)]; rfl
          refine CallP.flat [20] (encB (decide (u ∈ out))) c64 ?_ rfl ?_
          · show PureCall Try.prog 64 [snap [20] (hp [(20, p20, ⟨3, 1, out.map encI⟩), (1, p1, ⟨26, 3, [encG g]⟩)]) (.own 20 p20 0 i), encI u] _
            rw [es]; exact contains_ok out u (by omega)
          ((conv => whnf); repeat ((first | refine Sw.o ?_ | refine B0 ?_); conv => whnf))
          (repeat ((first | refine N0 ?_ | refine A0 fun γ => ?_ | refine C1 ?_ | refine C2 ?_ | refine C3 ?_ | refine C4 ?_ | refine C5 ?_ | refine C6 ?_ | refine C7 ?_ | refine D0 fun γs => ?_ | refine A1 fun γs => ?_ | refine N2 ?_ | refine N3 ?_ | refine N1 ?_); ((conv => whnf); repeat ((first | refine Sw.o ?_ | refine B0 ?_); conv => whnf))))
          refine CondP.dec (fun hq => ?_) (fun hq => ?_) <;> ((conv => whnf); repeat ((first | refine Sw.o ?_ | refine B0 ?_); conv => whnf))
          · rw [decide_eq_true hq] at hL
            (repeat ((first | refine N0 ?_ | refine A0 fun γ => ?_ | refine C1 ?_ | refine C2 ?_ | refine C3 ?_ | refine C4 ?_ | refine C5 ?_ | refine C6 ?_ | refine C7 ?_ | refine D0 fun γs => ?_ | refine A1 fun γs => ?_ | refine N2 ?_ | refine N3 ?_ | refine N1 ?_); ((conv => whnf); repeat ((first | refine Sw.o ?_ | refine B0 ?_); conv => whnf))))
            exact .intro <| W.of ⟨_, by omega, _, _, k + 1, by omega, rfl, hL, rfl, rfl⟩ ⟨rfl, rfl, rfl, rfl, rfl, rfl, rfl, rfl, rfl, trivial⟩ ⟨rfl, rfl, trivial⟩
          · rw [decide_eq_false hq] at hL
            simp only at hL
            (repeat ((first | refine N0 ?_ | refine A0 fun γ => ?_ | refine C1 ?_ | refine C2 ?_ | refine C3 ?_ | refine C4 ?_ | refine C5 ?_ | refine C6 ?_ | refine C7 ?_ | refine A1 fun γs => ?_ | refine N2 ?_ | refine N3 ?_ | refine N1 ?_); ((conv => whnf); repeat ((first | refine Sw.o ?_ | refine B0 ?_); conv => whnf))))
            refine DrawH.segs [(6, false), (7, true), (12, false)] (by kernel_rfl) ?_
            ((conv => whnf); repeat ((first | refine Sw.o ?_ | refine B0 ?_); conv => whnf))
            (repeat ((first | refine N0 ?_ | refine A0 fun γ => ?_ | refine C1 ?_ | refine C2 ?_ | refine C3 ?_ | refine C4 ?_ | refine C5 ?_ | refine C6 ?_ | refine C7 ?_ | refine A1 fun γs => ?_ | refine N2 ?_ | refine N3 ?_ | refine N1 ?_ | simp (disch := omega) only [LG]); ((conv => whnf); repeat ((first | refine Sw.o ?_ | refine B0 ?_); conv => whnf))))
            refine CallG.new 5 3 1 (out.map encI) 0 out.length c43 ?_ (fun x hx c hc => by obtain ⟨b, _, rfl⟩ := List.mem_map.1 hx; obtain rfl := List.mem_singleton.1 hc; rfl) ?_
            · refine hcall_args ?_ (clone43_ok out (by omega))
              show [snap _ _ (.own 20 p20 0 i)] = _
              rw [snap_own (B := ⟨3, 1, out.map encI⟩) (by show (20 : Nat) ∈ [20]; simp) rfl (by simp; omega), snap_list _ _ _ _ hol.symm (fun _ => rfl)]
            ((conv => whnf); repeat ((first | refine Sw.o ?_ | refine B0 ?_); conv => whnf))
            (repeat ((first | refine N0 ?_ | refine A0 fun γ => ?_ | refine C1 ?_ | refine C2 ?_ | refine C3 ?_ | refine C4 ?_ | refine C5 ?_ | refine C6 ?_ | refine C7 ?_ | refine A1 fun γs => ?_ | refine N2 ?_ | refine N3 ?_ | refine N1 ?_ | simp (disch := omega) only [LG]); ((conv => whnf); repeat ((first | refine Sw.o ?_ | refine B0 ?_); conv => whnf))))
            rename_i γs
            have hgr := greatest_ok g hg (out ++ [u]) (by simp; omega) (fun x hx => by
              rcases List.mem_append.1 hx with h' | h'
              · exact hou x h'
              · rw [List.mem_singleton.1 h']; exact hu.2)
            refine CallP.pure [43] (.tup [encL (greatestF g (out ++ [u])).1, encI (greatestF g (out ++ [u])).2]) c39 ?_ ?_
            · refine pure_args ?_ hgr
              show [encG g, snap [43] _ (.own 43 _ 0 (out.length + 1))] = _
              rw [snap_own (B := ⟨3, 1, (out ++ [u]).map encI⟩) (by simp) (by rw [← snoc_encI]; rfl) (by simp), snap_list _ _ _ _ (by simp) (fun _ => rfl)]
              rfl
            ((conv => whnf); repeat ((first | refine Sw.o ?_ | refine B0 ?_); conv => whnf))
            (repeat ((first | refine N0 ?_ | refine A0 fun γ => ?_ | refine C1 ?_ | refine C2 ?_ | refine C3 ?_ | refine C4 ?_ | refine C5 ?_ | refine C6 ?_ | refine C7 ?_ | refine D0 fun γs => ?_ | refine A1 fun γs => ?_ | refine N2 ?_ | refine N3 ?_ | refine N1 ?_); ((conv => whnf); repeat ((first | refine Sw.o ?_ | refine B0 ?_); conv => whnf))))
            refine CondP.dec (fun hr => ?_) (fun hr => ?_) <;> ((conv => whnf); repeat ((first | refine Sw.o ?_ | refine B0 ?_); conv => whnf))
            · rw [decide_eq_true hr] at hL
              simp only at hL
              subst hL
              (repeat ((first | refine N0 ?_ | refine A0 fun γ => ?_ | refine C1 ?_ | refine C2 ?_ | refine C3 ?_ | refine C4 ?_ | refine C5 ?_ | refine C6 ?_ | refine C7 ?_ | refine D0 fun γs => ?_ | refine A1 fun γs => ?_ | refine N2 ?_ | refine N3 ?_ | refine N1 ?_); ((conv => whnf); repeat ((first | refine Sw.o ?_ | refine B0 ?_); conv => whnf))))
              exact .intro <| W.of ⟨_, by omega, _, _, i + 1, out ++ [u], by omega, rfl, by simp [hol], fun x hx => by
                rcases List.mem_append.1 hx with h' | h'
                · exact hou x h'
                · rw [List.mem_singleton.1 h']; exact hu.2, hO, rfl, rfl⟩ ⟨rfl, rfl, rfl, rfl, rfl, trivial⟩ ⟨by rw [← snoc_encI]; rfl, rfl, trivial⟩
            · rw [decide_eq_false hr] at hL
              (repeat ((first | refine N0 ?_ | refine A0 fun γ => ?_ | refine C1 ?_ | refine C2 ?_ | refine C3 ?_ | refine C4 ?_ | refine C5 ?_ | refine C6 ?_ | refine C7 ?_ | refine D0 fun γs => ?_ | refine A1 fun γs => ?_ | refine N2 ?_ | refine N3 ?_ | refine N1 ?_); ((conv => whnf); repeat ((first | refine Sw.o ?_ | refine B0 ?_); conv => whnf))))
              exact .intro <| W.of ⟨_, by omega, _, _, k + 1, by omega, rfl, hL, rfl, rfl⟩ ⟨rfl, rfl, rfl, rfl, rfl, rfl, rfl, rfl, rfl, trivial⟩ ⟨rfl, rfl, trivial⟩
        · (have h2 := h; try simp only [LN] at h2)
          rw [List.drop_eq_nil_of_le (by omega)] at hL
          simp only [matchL] at hL
          subst hL
          (repeat ((first | refine N0 ?_ | refine A0 fun γ => ?_ | refine C1 ?_ | refine C2 ?_ | refine C3 ?_ | refine C4 ?_ | refine C5 ?_ | refine C6 ?_ | refine C7 ?_ | refine D0 fun γs => ?_ | refine A1 fun γs => ?_ | refine N2 ?_ | refine N3 ?_ | refine N1 ?_); ((conv => whnf); repeat ((first | refine Sw.o ?_ | refine B0 ?_); conv => whnf))))
          exact .intro <| W.of ⟨_, by omega, _, _, i + 1, out ++ [-1], by omega, rfl, by simp [hol], fun x hx => by
              rcases List.mem_append.1 hx with h' | h'
              · exact hou x h'
              · rw [List.mem_singleton.1 h']; omega, hO, rfl, rfl⟩ ⟨rfl, rfl, rfl, rfl, rfl, trivial⟩ ⟨by rw [← snoc_encI]; rfl, rfl, trivial⟩
    · (have h2 := h; try simp only [LN] at h2)
      rw [List.drop_eq_nil_of_le (by omega)] at hO
      simp only [matchO] at hO
      subst hO
      (repeat ((first | refine N0 ?_ | refine A0 fun γ => ?_ | refine C1 ?_ | refine C2 ?_ | refine C3 ?_ | refine C4 ?_ | refine C5 ?_ | refine C6 ?_ | refine C7 ?_ | refine D0 fun γs => ?_ | refine A1 fun γs => ?_ | refine N2 ?_ | refine N3 ?_ | refine N1 ?_); ((conv => whnf); repeat ((first | refine Sw.o ?_ | refine B0 ?_); conv => whnf))))
      refine .of ?_
      show AV.sl 1 _ = AV.sl 1 _
      rw [snap_list _ _ _ _ hol.symm (fun _ => rfl)]
end Go.Proofs.Ytgeeklnokblokaa
namespace Go.Proofs.Ytgeeklnokblokaa
open Go Go.Fw
def overL (rec : Int → List Bool → List Bool) (m : List Int) : List Int → List Bool → List Bool
  | [], s => s
  | u :: r, s => overL rec m r (rec (m.getD u.toNat 0) s)
def overF (g : G) (m : List Int) : Nat → Int → List Bool → List Bool
  | 0, _, s => s
  | n + 1, e, s => match s.getD e.toNat false with
    | true => s
    | false => overL (overF g m n) m (g.joined.getD e.toNat []) (s.set e.toNat true)
theorem overL_ok {rec : Int → List Bool → List Bool} {m : List Int} {k : Nat} {P : Int → Prop} (hrec : ∀ e s, P e → s.length = k → (rec e s).length = k ∧ unseen (rec e s) ≤ unseen s) :
    ∀ (l : List Int) (s : List Bool), (∀ u ∈ l, P (m.getD u.toNat 0)) → s.length = k → (overL rec m l s).length = k ∧ unseen (overL rec m l s) ≤ unseen s
  | [], s, _, h => ⟨h, Nat.le_refl _⟩
  | u :: r, s, hl, h => by
    have h1 := hrec (m.getD u.toNat 0) s (hl u (by simp)) h
    have h2 := overL_ok hrec r (rec (m.getD u.toNat 0) s) (fun x hx => hl x (by simp [hx])) h1.1
    unfold overL
    exact ⟨h2.1, by omega⟩
/-- A set of equations that no way leads out of. -/
structure Shut (g : G) (m : List Int) (S : Int → Prop) : Prop where
  in_ : ∀ e, S e → 0 ≤ e ∧ e < g.eqs.length
  go : ∀ e, S e → ∀ u ∈ g.joined.getD e.toNat [], S (m.getD u.toNat 0)
theorem overF_ok {g : G} {m : List Int} {S : Int → Prop} (hS : Shut g m S) : ∀ (n : Nat) (e : Int) (s : List Bool), S e → s.length = g.eqs.length → (overF g m n e s).length = g.eqs.length ∧ unseen (overF g m n e s) ≤ unseen s
  | 0, e, s, _, h => ⟨h, Nat.le_refl _⟩
  | n + 1, e, s, he, h => by
    have hin := hS.in_ e he
    unfold overF
    split
    · exact ⟨h, Nat.le_refl _⟩
    · rename_i hs
      have hu := unseen_set (l := s) (i := e.toNat) (by omega) hs
      have := overL_ok (P := S) (fun e s he h => overF_ok hS n e s he h) (g.joined.getD e.toNat []) (s.set e.toNat true) (hS.go e he) (by simpa using h)
      exact ⟨this.1, by omega⟩
def hpO (q0 q1 q2 q3 q4 : Nat) (g : G) (m : List Int) (s : List Bool) : List (Nat × Nat × Blk) :=
  [(244, q0, ⟨4, 1, s.map encB⟩), (209, q1, ⟨54, 1, [.own 244 q0 0 g.eqs.length]⟩), (201, q2, ⟨26, 3, [encG g]⟩),
   (211, q3, ⟨92, 1, [.fn (.func 71) [] [.op 209 q1 0 0, .op 201 q2 0 0, .op 211 q3 0 0, .op 204 q4 0 0]]⟩), (204, q4, ⟨63, 1, [encL m]⟩)]
set_option maxRecDepth 100000 in
theorem over_ok (g : G) (hg : WF g) (m : List Int) (hm : m.length = g.uses.length) {S : Int → Prop} (hS : Shut g m S) : ∀ (n : Nat) (e : Int) (s : List Bool) (q0 q1 q2 q3 q4 : Nat), S e → s.length = g.eqs.length → unseen s < n →
    HCall Try.prog 71 [encI e, .op 209 q1 0 0, .op 201 q2 0 0, .op 211 q3 0 0, .op 204 q4 0 0] (hp (hpO q0 q1 q2 q3 q4 g m s))
      (fun r h => r = .tup [] ∧ h = hp (hpO q0 q1 q2 q3 q4 g m (overF g m n e s))) := by
  intro n
  induction n with
  | zero => intro e s q0 q1 q2 q3 q4 _ _ h; exact absurd h (by omega)
  | succ n ih =>
    intro e s q0 q1 q2 q3 q4 he hs hn
    have su := hg.su
    have hin := hS.in_ e he
    have hjl : e.toNat < g.joined.length := by rw [hg.len]; omega
    have sl := hg.sl _ (List.getElem_mem hjl)
    have hes : e.toNat < s.length := by omega
    have hgo := hS.go e he
    have hF : overF g m (n + 1) e s = match s[e.toNat] with | true => s | false => overL (overF g m n) m (g.joined[e.toNat]) (s.set e.toNat true) := by
      show (match s.getD e.toNat false with | true => s | false => overL (overF g m n) m (g.joined.getD e.toNat []) (s.set e.toNat true)) = _
      rw [getD_lt _ _ _ hjl, getD_lt _ _ _ hes]
    rw [getD_lt _ _ _ hjl] at hgo
    rw [hF]
    have hinj := hg.in_ _ (List.getElem_mem hjl)
    refine hcall_cp (E := E 0) T_ok (D_ok 0) Try.func71 rfl (by rfl) (Nat.le_of_ble_eq_true rfl) ?_
    ((conv => whnf); repeat ((first | refine Sw.o ?_ | refine B0 ?_); conv => whnf))
    (repeat ((first | refine N0 ?_ | refine A0 fun γ => ?_ | refine C1 ?_ | refine C2 ?_ | refine C3 ?_ | refine C4 ?_ | refine C5 ?_ | refine C6 ?_ | refine C7 ?_ | refine D0 fun γs => ?_ | refine A1 fun γs => ?_ | refine N2 ?_ | refine N3 ?_ | refine N1 ?_ | simp (disch := omega) only [LG]); ((conv => whnf); repeat ((first | refine Sw.o ?_ | refine B0 ?_); conv => whnf))))
    refine CondP.intro (fun h => ?_) (fun h => ?_) <;> ((conv => whnf); repeat ((first | refine Sw.o ?_ | refine B0 ?_); conv => whnf))
    · rw [h]
      (repeat ((first | refine N0 ?_ | refine A0 fun γ => ?_ | refine C1 ?_ | refine C2 ?_ | refine C3 ?_ | refine C4 ?_ | refine C5 ?_ | refine C6 ?_ | refine C7 ?_ | refine D0 fun γs => ?_ | refine A1 fun γs => ?_ | refine N2 ?_ | refine N3 ?_ | refine N1 ?_); ((conv => whnf); repeat ((first | refine Sw.o ?_ | refine B0 ?_); conv => whnf))))
      exact EndH.of (m := hpO q0 q1 q2 q3 q4 g m s) ⟨rfl, rfl, rfl, rfl, rfl, trivial⟩ ⟨rfl, rfl⟩
    · rw [h]
      have hus := unseen_set hes (by rw [getD_lt _ _ _ hes]; exact h)
      (repeat ((first | refine N0 ?_ | refine A0 fun γ => ?_ | refine C1 ?_ | refine C2 ?_ | refine C3 ?_ | refine C4 ?_ | refine C5 ?_ | refine C6 ?_ | refine C7 ?_ | refine D0 fun γs => ?_ | refine A1 fun γs => ?_ | refine N2 ?_ | refine N3 ?_ | refine N1 ?_ | simp (disch := omega) only [LG]); ((conv => whnf); repeat ((first | refine Sw.o ?_ | refine B0 ?_); conv => whnf))))
      generalize g.joined[e.toNat] = l at sl hgo hinj ⊢
      generalize hR : overL (overF g m n) m l (s.set e.toNat true) = R
      refine LoopP.intro (fun k σ H => ∃ i, ∃ t : List Bool, i ≤ l.length ∧ k = l.length - i ∧ t.length = g.eqs.length ∧ unseen t < n ∧ overL (overF g m n) m (l.drop i) t = R ∧
        σ = fr [(3, .op 211 q3 0 0), (4, .op 204 q4 0 0), (19, encL l), (20, encI l.length), (21, encI i)] ∧ H = hp (hpO q0 q1 q2 q3 q4 g m t)) ?_ ?_
      · refine .intro <| W.of (m := hpO q0 q1 q2 q3 q4 g m (s.set e.toNat true)) ⟨_, 0, s.set e.toNat true, Nat.zero_le _, rfl, by simpa using hs, by omega, hR, rfl, rfl⟩ ⟨rfl, rfl, rfl, rfl, rfl, trivial⟩ ⟨?_, rfl, rfl, rfl, rfl, trivial⟩
        rw [← set_map (x := true) (h := rfl)]; rfl
      · rintro k σ H ⟨i, t, hi, rfl, ht, hun, hO, rfl, rfl⟩
        ((conv => whnf); repeat ((first | refine Sw.o ?_ | refine B0 ?_); conv => whnf))
        (repeat ((first | refine N0 ?_ | refine A0 fun γ => ?_ | refine C1 ?_ | refine C2 ?_ | refine C3 ?_ | refine C4 ?_ | refine C5 ?_ | refine C6 ?_ | refine C7 ?_ | refine D0 fun γs => ?_ | refine A1 fun γs => ?_ | refine N2 ?_ | refine N3 ?_ | refine N1 ?_); ((conv => whnf); repeat ((first | refine Sw.o ?_ | refine B0 ?_); conv => whnf))))
        refine CondP.dec (fun h => ?_) (fun h => ?_) <;> ((conv => whnf); repeat ((first | refine Sw.o ?_ | refine B0 ?_); conv => whnf))
        · (have h2 := h; try simp only [LN] at h2)
          (repeat ((first | refine N0 ?_ | refine A0 fun γ => ?_ | refine C1 ?_ | refine C2 ?_ | refine C3 ?_ | refine C4 ?_ | refine C5 ?_ | refine C6 ?_ | refine C7 ?_ | refine A1 fun γs => ?_ | refine N2 ?_ | refine N3 ?_ | refine N1 ?_); ((conv => whnf); repeat ((first | refine Sw.o ?_ | refine B0 ?_); conv => whnf))))
          (simp (disch := omega) only [LG]; ((conv => whnf); repeat ((first | refine Sw.o ?_ | refine B0 ?_); conv => whnf)))
          have hi' : i < l.length := by omega
          have hu := hinj _ (List.getElem_mem hi')
          have hSu := hgo _ (List.getElem_mem hi')
          rw [List.drop_eq_getElem_cons hi'] at hO
          generalize l[i] = u at hu hSu hO ⊢
          unfold overL at hO
          have hum : u.toNat < m.length := by omega
          rw [getD_lt _ _ _ hum] at hSu hO
          have hq := overF_ok hS n m[u.toNat] t hSu ht
          (repeat ((first | refine N0 ?_ | refine A0 fun γ => ?_ | refine C1 ?_ | refine C2 ?_ | refine C3 ?_ | refine C4 ?_ | refine C5 ?_ | refine C6 ?_ | refine C7 ?_ | refine A1 fun γs => ?_ | refine N2 ?_ | refine N3 ?_ | refine N1 ?_); ((conv => whnf); repeat ((first | refine Sw.o ?_ | refine B0 ?_); conv => whnf))))
          refine DrawH.segs [(5, false), (6, true)] (by kernel_rfl) ?_
          ((conv => whnf); repeat ((first | refine Sw.o ?_ | refine B0 ?_); conv => whnf))
          (repeat ((first | refine N0 ?_ | refine A0 fun γ => ?_ | refine C1 ?_ | refine C2 ?_ | refine C3 ?_ | refine C4 ?_ | refine C5 ?_ | refine C6 ?_ | refine C7 ?_ | refine A1 fun γs => ?_ | refine N2 ?_ | refine N3 ?_ | refine N1 ?_ | simp (disch := omega) only [LG]); ((conv => whnf); repeat ((first | refine Sw.o ?_ | refine B0 ?_); conv => whnf))))
          refine CallP.frame 1000000 [(244, 244), (209, 209), (201, 201), (211, 211), (204, 204)] rfl c71 (ih m[u.toNat] t q0 q1 q2 q3 q4 hSu ht hun) rfl ⟨mvB_flats encB _ (fun _ => rfl) .., rfl, rfl, rfl, rfl, trivial⟩ ?_
          rintro r0 h' ⟨rfl, rfl⟩
          generalize overF g m n m[u.toNat] t = t' at hO hq
          refine ⟨hpO q0 q1 q2 q3 q4 g m t', ⟨mvB_flats encB _ (fun _ => rfl) .., rfl, rfl, rfl, rfl, trivial⟩, ?_⟩
          ((conv => whnf); repeat ((first | refine Sw.o ?_ | refine B0 ?_); conv => whnf))
          (repeat ((first | refine N0 ?_ | refine A0 fun γ => ?_ | refine C1 ?_ | refine C2 ?_ | refine C3 ?_ | refine C4 ?_ | refine C5 ?_ | refine C6 ?_ | refine C7 ?_ | refine D0 fun γs => ?_ | refine A1 fun γs => ?_ | refine N2 ?_ | refine N3 ?_ | refine N1 ?_); ((conv => whnf); repeat ((first | refine Sw.o ?_ | refine B0 ?_); conv => whnf))))
          exact .intro <| W.of (m := hpO q0 q1 q2 q3 q4 g m t') ⟨_, by omega, i + 1, t', by omega, rfl, hq.1, by omega, hO, rfl, rfl⟩ ⟨rfl, rfl, rfl, rfl, rfl, trivial⟩ ⟨rfl, rfl, rfl, rfl, rfl, trivial⟩
        · (have h2 := h; try simp only [LN] at h2)
          rw [List.drop_eq_nil_of_le (by omega)] at hO
          simp only [overL] at hO
          subst hO
          (repeat ((first | refine N0 ?_ | refine A0 fun γ => ?_ | refine C1 ?_ | refine C2 ?_ | refine C3 ?_ | refine C4 ?_ | refine C5 ?_ | refine C6 ?_ | refine C7 ?_ | refine D0 fun γs => ?_ | refine A1 fun γs => ?_ | refine N2 ?_ | refine N3 ?_ | refine N1 ?_); ((conv => whnf); repeat ((first | refine Sw.o ?_ | refine B0 ?_); conv => whnf))))
          exact EndH.of (m := hpO q0 q1 q2 q3 q4 g m t) ⟨rfl, rfl, rfl, rfl, rfl, trivial⟩ ⟨rfl, rfl⟩
end Go.Proofs.Ytgeeklnokblokaa
namespace Go.Proofs.Ytgeeklnokblokaa
open Go Go.Fw
def underL (rec : Int → List Bool → List Bool) (of : List Int) (u : Int) : Nat → List (List Int) → List Bool → List Bool
  | _, [], s => s
  | e, l :: r, s => match decide (u ∈ l) with
    | true => underL rec of u (e + 1) r (rec (of.getD e 0) s)
    | false => underL rec of u (e + 1) r s
def underF (g : G) (of : List Int) : Nat → Int → List Bool → List Bool
  | 0, _, s => s
  | n + 1, u, s => match s.getD u.toNat false with
    | true => s
    | false => underL (underF g of n) of u 0 g.joined (s.set u.toNat true)
theorem underL_ok {rec : Int → List Bool → List Bool} {of : List Int} {k : Nat} {P : Int → Prop} (hrec : ∀ e s, P e → s.length = k → (rec e s).length = k ∧ unseen (rec e s) ≤ unseen s) (u : Int) :
    ∀ (l : List (List Int)) (e : Nat) (s : List Bool), (∀ i (h : i < l.length), u ∈ l[i] → P (of.getD (e + i) 0)) → s.length = k → (underL rec of u e l s).length = k ∧ unseen (underL rec of u e l s) ≤ unseen s
  | [], e, s, _, h => ⟨h, Nat.le_refl _⟩
  | x :: r, e, s, hl, h => by
    have hr : ∀ i (h : i < r.length), u ∈ r[i] → P (of.getD (e + 1 + i) 0) := fun i h hu => by
      have := hl (i + 1) (by simpa using h) (by simpa using hu)
      rwa [show e + (i + 1) = e + 1 + i by omega] at this
    unfold underL
    split
    · rename_i hd
      have h1 := hrec (of.getD e 0) s (hl 0 (by simp) (by simpa using of_decide_eq_true hd)) h
      have h2 := underL_ok hrec u r (e + 1) _ hr h1.1
      exact ⟨h2.1, by omega⟩
    · exact underL_ok hrec u r (e + 1) s hr h
structure ShutU (g : G) (of : List Int) (S : Int → Prop) : Prop where
  in_ : ∀ u, S u → 0 ≤ u ∧ u < g.uses.length
  go : ∀ u, S u → ∀ i (h : i < g.joined.length), u ∈ g.joined[i] → S (of.getD i 0)
theorem underF_ok {g : G} {of : List Int} {S : Int → Prop} (hS : ShutU g of S) : ∀ (n : Nat) (u : Int) (s : List Bool), S u → s.length = g.uses.length → (underF g of n u s).length = g.uses.length ∧ unseen (underF g of n u s) ≤ unseen s
  | 0, u, s, _, h => ⟨h, Nat.le_refl _⟩
  | n + 1, u, s, he, h => by
    have hin := hS.in_ u he
    unfold underF
    split
    · exact ⟨h, Nat.le_refl _⟩
    · rename_i hs
      have hu := unseen_set (l := s) (i := u.toNat) (by omega) hs
      have := underL_ok (P := S) (of := of) (fun e s he h => underF_ok hS n e s he h) u g.joined 0 (s.set u.toNat true) (fun i h hi => by rw [Nat.zero_add]; exact hS.go u he i h hi) (by simpa using h)
      exact ⟨this.1, by omega⟩
def hpU (q0 q1 q2 q3 q4 q5 : Nat) (g : G) (of : List Int) (s : List Bool) : List (Nat × Nat × Blk) :=
  [(248, q0, ⟨4, 1, s.map encB⟩), (210, q1, ⟨54, 1, [.own 248 q0 0 g.uses.length]⟩), (201, q2, ⟨26, 3, [encG g]⟩),
   (214, q3, ⟨92, 1, [.fn (.func 72) [] [.op 210 q1 0 0, .op 201 q2 0 0, .op 214 q3 0 0, .op 206 q4 0 0]]⟩), (206, q4, ⟨29, 1, [.own 226 q5 0 g.eqs.length]⟩), (226, q5, ⟨3, 1, of.map encI⟩)]
set_option maxRecDepth 100000 in
theorem under72_ok (g : G) (hg : WF g) (of : List Int) (hof : of.length = g.eqs.length) {S : Int → Prop} (hS : ShutU g of S) : ∀ (n : Nat) (u : Int) (s : List Bool) (q0 q1 q2 q3 q4 q5 : Nat), S u → s.length = g.uses.length → unseen s < n →
    HCall Try.prog 72 [encI u, .op 210 q1 0 0, .op 201 q2 0 0, .op 214 q3 0 0, .op 206 q4 0 0] (hp (hpU q0 q1 q2 q3 q4 q5 g of s))
      (fun r h => r = .tup [] ∧ h = hp (hpU q0 q1 q2 q3 q4 q5 g of (underF g of n u s))) := by
  intro n
  induction n with
  | zero => intro u s q0 q1 q2 q3 q4 q5 _ _ h; exact absurd h (by omega)
  | succ n ih =>
    intro u s q0 q1 q2 q3 q4 q5 he hs hn
    have su := hg.su
    have se := hg.se
    have hjl := hg.len
    have hin := hS.in_ u he
    have hes : u.toNat < s.length := by omega
    have hgo := hS.go u he
    have hF : underF g of (n + 1) u s = match s[u.toNat] with | true => s | false => underL (underF g of n) of u 0 g.joined (s.set u.toNat true) := by
      show (match s.getD u.toNat false with | true => s | false => underL (underF g of n) of u 0 g.joined (s.set u.toNat true)) = _
      rw [getD_lt _ _ _ hes]
    rw [hF]
    refine hcall_cp (E := E 0) T_ok (D_ok 0) Try.func72 rfl (by rfl) (Nat.le_of_ble_eq_true rfl) ?_
    ((conv => whnf); repeat ((first | refine Sw.o ?_ | refine B0 ?_); conv => whnf))
    (repeat ((first | refine N0 ?_ | refine A0 fun γ => ?_ | refine C1 ?_ | refine C2 ?_ | refine C3 ?_ | refine C4 ?_ | refine C5 ?_ | refine C6 ?_ | refine C7 ?_ | refine D0 fun γs => ?_ | refine A1 fun γs => ?_ | refine N2 ?_ | refine N3 ?_ | refine N1 ?_ | simp (disch := omega) only [LG]); ((conv => whnf); repeat ((first | refine Sw.o ?_ | refine B0 ?_); conv => whnf))))
    refine CondP.intro (fun h => ?_) (fun h => ?_) <;> ((conv => whnf); repeat ((first | refine Sw.o ?_ | refine B0 ?_); conv => whnf))
    · rw [h]
      (repeat ((first | refine N0 ?_ | refine A0 fun γ => ?_ | refine C1 ?_ | refine C2 ?_ | refine C3 ?_ | refine C4 ?_ | refine C5 ?_ | refine C6 ?_ | refine C7 ?_ | refine D0 fun γs => ?_ | refine A1 fun γs => ?_ | refine N2 ?_ | refine N3 ?_ | refine N1 ?_); ((conv => whnf); repeat ((first | refine Sw.o ?_ | refine B0 ?_); conv => whnf))))
      exact EndH.of (m := hpU q0 q1 q2 q3 q4 q5 g of s) ⟨rfl, rfl, rfl, rfl, rfl, rfl, trivial⟩ ⟨rfl, rfl⟩
    · rw [h]
      have hus := unseen_set hes (by rw [getD_lt _ _ _ hes]; exact h)
      (repeat ((first | refine N0 ?_ | refine A0 fun γ => ?_ | refine C1 ?_ | refine C2 ?_ | refine C3 ?_ | refine C4 ?_ | refine C5 ?_ | refine C6 ?_ | refine C7 ?_ | refine D0 fun γs => ?_ | refine A1 fun γs => ?_ | refine N2 ?_ | refine N3 ?_ | refine N1 ?_ | simp (disch := omega) only [LG]); ((conv => whnf); repeat ((first | refine Sw.o ?_ | refine B0 ?_); conv => whnf))))
      generalize hR : underL (underF g of n) of u 0 g.joined (s.set u.toNat true) = R
      refine LoopP.intro (fun k σ H => ∃ i, ∃ t : List Bool, i ≤ g.joined.length ∧ k = g.joined.length - i ∧ t.length = g.uses.length ∧ unseen t < n ∧ underL (underF g of n) of u i (g.joined.drop i) t = R ∧
        σ = fr [(0, encI u), (3, .op 214 q3 0 0), (4, .op 206 q4 0 0), (16, .sl 1 (g.joined.map encL)), (17, encI g.joined.length), (18, encI i)] ∧ H = hp (hpU q0 q1 q2 q3 q4 q5 g of t)) ?_ ?_
      · refine .intro <| W.of (m := hpU q0 q1 q2 q3 q4 q5 g of (s.set u.toNat true)) ⟨_, 0, s.set u.toNat true, Nat.zero_le _, rfl, by simpa using hs, by omega, hR, rfl, rfl⟩ ⟨rfl, rfl, rfl, rfl, by simp; rfl, rfl, trivial⟩ ⟨?_, rfl, rfl, rfl, rfl, rfl, trivial⟩
        rw [← set_map (x := true) (h := rfl)]; rfl
      · rintro k σ H ⟨i, t, hi, rfl, ht, hun, hO, rfl, rfl⟩
        ((conv => whnf); repeat ((first | refine Sw.o ?_ | refine B0 ?_); conv => whnf))
        (repeat ((first | refine N0 ?_ | refine A0 fun γ => ?_ | refine C1 ?_ | refine C2 ?_ | refine C3 ?_ | refine C4 ?_ | refine C5 ?_ | refine C6 ?_ | refine C7 ?_ | refine D0 fun γs => ?_ | refine A1 fun γs => ?_ | refine N2 ?_ | refine N3 ?_ | refine N1 ?_); ((conv => whnf); repeat ((first | refine Sw.o ?_ | refine B0 ?_); conv => whnf))))
        refine CondP.dec (fun h => ?_) (fun h => ?_) <;> ((conv => whnf); repeat ((first | refine Sw.o ?_ | refine B0 ?_); conv => whnf))
        · (have h2 := h; try simp only [LN] at h2)
          (repeat ((first | refine N0 ?_ | refine A0 fun γ => ?_ | refine C1 ?_ | refine C2 ?_ | refine C3 ?_ | refine C4 ?_ | refine C5 ?_ | refine C6 ?_ | refine C7 ?_ | refine A1 fun γs => ?_ | refine N2 ?_ | refine N3 ?_ | refine N1 ?_); ((conv => whnf); repeat ((first | refine Sw.o ?_ | refine B0 ?_); conv => whnf))))
          (simp (disch := omega) only [LG]; ((conv => whnf); repeat ((first | refine Sw.o ?_ | refine B0 ?_); conv => whnf)))
          have hi' : i < g.joined.length := by omega
          have sl := hg.sl _ (List.getElem_mem hi')
          have hgi := hgo i hi'
          rw [List.drop_eq_getElem_cons hi'] at hO
          generalize g.joined[i] = l at sl hgi hO ⊢
          unfold underL at hO
          have hif : i < of.length := by omega
          rw [getD_lt _ _ _ hif] at hO hgi
          (repeat ((first | refine N0 ?_ | refine A0 fun γ => ?_ | refine C1 ?_ | refine C2 ?_ | refine C3 ?_ | refine C4 ?_ | refine C5 ?_ | refine C6 ?_ | refine C7 ?_ | refine A1 fun γs => ?_ | refine N2 ?_ | refine N3 ?_ | refine N1 ?_); ((conv => whnf); repeat ((first | refine Sw.o ?_ | refine B0 ?_); conv => whnf))))
          refine CallP.flat [] (encB (decide (u ∈ l))) c64 (contains_ok l u (by omega)) rfl ?_
          ((conv => whnf); repeat ((first | refine Sw.o ?_ | refine B0 ?_); conv => whnf))
          (repeat ((first | refine N0 ?_ | refine A0 fun γ => ?_ | refine C1 ?_ | refine C2 ?_ | refine C3 ?_ | refine C4 ?_ | refine C5 ?_ | refine C6 ?_ | refine C7 ?_ | refine A1 fun γs => ?_ | refine N2 ?_ | refine N3 ?_ | refine N1 ?_); ((conv => whnf); repeat ((first | refine Sw.o ?_ | refine B0 ?_); conv => whnf))))
          refine CondP.dec (fun hd => ?_) (fun hd => ?_) <;> ((conv => whnf); repeat ((first | refine Sw.o ?_ | refine B0 ?_); conv => whnf))
          · rw [decide_eq_true hd] at hO
            simp only at hO
            have hSu := hgi hd
            have hq := underF_ok hS n of[i] t hSu ht
            (repeat ((first | refine N0 ?_ | refine A0 fun γ => ?_ | refine C1 ?_ | refine C2 ?_ | refine C3 ?_ | refine C4 ?_ | refine C5 ?_ | refine C6 ?_ | refine C7 ?_ | refine A1 fun γs => ?_ | refine N2 ?_ | refine N3 ?_ | refine N1 ?_); ((conv => whnf); repeat ((first | refine Sw.o ?_ | refine B0 ?_); conv => whnf))))
            refine DrawH.segs [(5, false), (6, true)] (by kernel_rfl) ?_
            ((conv => whnf); repeat ((first | refine Sw.o ?_ | refine B0 ?_); conv => whnf))
            (repeat ((first | refine N0 ?_ | refine A0 fun γ => ?_ | refine C1 ?_ | refine C2 ?_ | refine C3 ?_ | refine C4 ?_ | refine C5 ?_ | refine C6 ?_ | refine C7 ?_ | refine A1 fun γs => ?_ | refine N2 ?_ | refine N3 ?_ | refine N1 ?_ | simp (disch := omega) only [LG]); ((conv => whnf); repeat ((first | refine Sw.o ?_ | refine B0 ?_); conv => whnf))))
            refine CallP.frame 1000000 [(248, 248), (210, 210), (201, 201), (214, 214), (206, 206), (226, 226)] rfl c72 (ih of[i] t q0 q1 q2 q3 q4 q5 hSu ht hun) rfl ⟨mvB_flats encB _ (fun _ => rfl) .., rfl, rfl, rfl, rfl, mvB_flats encI _ (fun _ => rfl) .., trivial⟩ ?_
            rintro r0 h' ⟨rfl, rfl⟩
            generalize underF g of n of[i] t = t' at hO hq
            refine ⟨hpU q0 q1 q2 q3 q4 q5 g of t', ⟨mvB_flats encB _ (fun _ => rfl) .., rfl, rfl, rfl, rfl, mvB_flats encI _ (fun _ => rfl) .., trivial⟩, ?_⟩
            ((conv => whnf); repeat ((first | refine Sw.o ?_ | refine B0 ?_); conv => whnf))
            (repeat ((first | refine N0 ?_ | refine A0 fun γ => ?_ | refine C1 ?_ | refine C2 ?_ | refine C3 ?_ | refine C4 ?_ | refine C5 ?_ | refine C6 ?_ | refine C7 ?_ | refine D0 fun γs => ?_ | refine A1 fun γs => ?_ | refine N2 ?_ | refine N3 ?_ | refine N1 ?_); ((conv => whnf); repeat ((first | refine Sw.o ?_ | refine B0 ?_); conv => whnf))))
            exact .intro <| W.of (m := hpU q0 q1 q2 q3 q4 q5 g of t') ⟨_, by omega, i + 1, t', by omega, rfl, hq.1, by omega, hO, rfl, rfl⟩ ⟨rfl, rfl, rfl, rfl, rfl, rfl, trivial⟩ ⟨rfl, rfl, rfl, rfl, rfl, rfl, trivial⟩
          · rw [decide_eq_false hd] at hO
            (repeat ((first | refine N0 ?_ | refine A0 fun γ => ?_ | refine C1 ?_ | refine C2 ?_ | refine C3 ?_ | refine C4 ?_ | refine C5 ?_ | refine C6 ?_ | refine C7 ?_ | refine D0 fun γs => ?_ | refine A1 fun γs => ?_ | refine N2 ?_ | refine N3 ?_ | refine N1 ?_); ((conv => whnf); repeat ((first | refine Sw.o ?_ | refine B0 ?_); conv => whnf))))
            exact .intro <| W.of (m := hpU q0 q1 q2 q3 q4 q5 g of t) ⟨_, by omega, i + 1, t, by omega, rfl, ht, hun, hO, rfl, rfl⟩ ⟨rfl, rfl, rfl, rfl, rfl, rfl, trivial⟩ ⟨rfl, rfl, rfl, rfl, rfl, rfl, trivial⟩
        · (have h2 := h; try simp only [LN] at h2)
          rw [List.drop_eq_nil_of_le (by omega)] at hO
          simp only [underL] at hO
          subst hO
          (repeat ((first | refine N0 ?_ | refine A0 fun γ => ?_ | refine C1 ?_ | refine C2 ?_ | refine C3 ?_ | refine C4 ?_ | refine C5 ?_ | refine C6 ?_ | refine C7 ?_ | refine D0 fun γs => ?_ | refine A1 fun γs => ?_ | refine N2 ?_ | refine N3 ?_ | refine N1 ?_); ((conv => whnf); repeat ((first | refine Sw.o ?_ | refine B0 ?_); conv => whnf))))
          exact EndH.of (m := hpU q0 q1 q2 q3 q4 q5 g of t) ⟨rfl, rfl, rfl, rfl, rfl, rfl, trivial⟩ ⟨rfl, rfl⟩
end Go.Proofs.Ytgeeklnokblokaa
