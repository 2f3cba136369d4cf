/- Part 4 of the proof: joined texts (abstract values and their rules; walks of the functions; plain lemmas). -/
import Derived.Test.YtgeeklnokblokaaLeast3
set_option linter.unusedVariables false
set_option linter.unusedSimpArgs false
set_option linter.unusedSectionVars false
namespace Go.Proofs.Ytgeeklnokblokaa
open Go Go.Fw
theorem pick_len {α : Type} : ∀ (bs : List Bool) (xs : List α), bs.length = xs.length → (pick bs xs).length = cntT bs
  | [], [], _ => rfl
  | b :: bs, x :: xs, h => by
    rw [pick_cons, List.length_append, pick_len bs xs (by simpa using h), cntT_cons]
    cases b <;> simp [Nat.add_comm]
theorem pick_mem {α : Type} : ∀ (bs : List Bool) (xs : List α) (i : Nat) (h : i < xs.length), bs.getD i false = true → xs[i] ∈ pick bs xs
  | [], _, i, _, h => by simp at h
  | b :: bs, x :: xs, 0, _, h => by
    have : b = true := h
    subst this
    rw [pick_cons]; simp
  | b :: bs, x :: xs, i + 1, h, hb => by
    rw [pick_cons]
    have := pick_mem bs xs i (by simpa using h) (by simpa using hb)
    simp only [List.getElem_cons_succ, List.mem_append]
    exact .inr this
structure Rt (g : G) (k : Nat) : Prop where
  wf : WF g
  gr : Gr g k
  pa : Pa g k
  c0 : checkF g = 0
  m : MatchF g = (matchF g, 0)
  r : rankF g = ((k : Int), 0)
  ml : MOkL g (matchF g)
  nn : nonneg (matchF g) = k
theorem rt {g : G} (h : checkF g = 0) : ∃ k, Rt g k := by
  have hg := (check_wf h).1
  obtain ⟨k, hk⟩ := gr g hg
  obtain ⟨h1, h2⟩ := match_sp hg hk
  refine ⟨k, hg, hk, pa hg hk, h, by unfold MatchF; rw [decide_eq_true h], by unfold rankF; rw [decide_eq_true h, greatest0_size, hk.size], h1, by omega⟩
def covP (g : G) : Pt := partF g (restF (halvesF g).1 (halvesF g).1) (joinedF g (halvesF g).1)
theorem Rt.cover {g : G} {k : Nat} (h : Rt g k) : coverF g = (covP g, 0) ∧ (covP g).eqs.length + (covP g).uses.length = k := by
  refine ⟨by unfold coverF; rw [decide_eq_true h.c0]; rfl, ?_⟩
  have h1 := pick_len (restF (halvesF g).1 (halvesF g).1) g.eqs (by rw [restF_len, halvesF_len1])
  have h2 := pick_len (joinedF g (halvesF g).1) g.uses (by rw [joinedF_len])
  show (pick _ _).length + (pick _ _).length = k
  rw [h1, h2]; exact h.pa.over
theorem any_of_mem {α : Type} [DecidableEq α] {l : List α} {x : α} (h : x ∈ l) : (l.any fun y => decide (y = x)) = true := List.any_eq_true.2 ⟨x, h, by simp⟩
theorem Rt.covers {g : G} {k : Nat} (h : Rt g k) {i u : Nat} (hi : i < g.eqs.length) (hu : u < g.uses.length) (hj : (u : Int) ∈ jn g i) :
    ((covP g).eqs.any fun x => decide (x = g.eqs[i])) = true ∨ ((covP g).uses.any fun x => decide (x = g.uses[u])) = true := by
  have l1 := halvesF_len1 g
  cases hb : (halvesF g).1.getD i false with
  | true => exact .inr (any_of_mem (pick_mem _ _ u hu (h.pa.goE i u hb hj)))
  | false => exact .inl (any_of_mem (pick_mem _ _ i hi (by rw [restF_getD, l1, hb]; simp [hi])))
set_option maxHeartbeats 4000000 in
set_option maxRecDepth 100000 in
theorem MatchGreatest_ok (g : G) (hz : Sz g) : PureCall Try.prog 9 [encG g] (encB true) := by
  refine pure_cp (E := E 0) T_ok (D_ok 0) [] Try.func9 rfl (by rfl) (Nat.le_of_ble_eq_true rfl) ?_
  ((conv => whnf); repeat ((first | refine Sw.o ?_ | refine B0 ?_); conv => whnf))
  (repeat ((first | refine N0 ?_ | refine A0 fun γ => ?_ | refine C1 ?_ | refine C2 ?_ | refine C3 ?_ | refine C4 ?_ | refine C5 ?_ | refine C6 ?_ | refine C7 ?_ | refine D0 fun γs => ?_ | refine A1 fun γs => ?_ | refine N2 ?_ | refine N3 ?_ | refine N1 ?_); ((conv => whnf); repeat ((first | refine Sw.o ?_ | refine B0 ?_); conv => whnf))))
  refine CallP.flat [] _ c20 (right_ok g hz) rfl ?_
  ((conv => whnf); repeat ((first | refine Sw.o ?_ | refine B0 ?_); conv => whnf))
  (repeat ((first | refine N0 ?_ | refine A0 fun γ => ?_ | refine C1 ?_ | refine C2 ?_ | refine C3 ?_ | refine C4 ?_ | refine C5 ?_ | refine C6 ?_ | refine C7 ?_ | refine D0 fun γs => ?_ | refine A1 fun γs => ?_ | refine N2 ?_ | refine N3 ?_ | refine N1 ?_); ((conv => whnf); repeat ((first | refine Sw.o ?_ | refine B0 ?_); conv => whnf))))
  refine CondP.dec (fun h => ?_) (fun h => ?_) <;> ((conv => whnf); repeat ((first | refine Sw.o ?_ | refine B0 ?_); conv => whnf))
  · (repeat ((first | refine N0 ?_ | refine A0 fun γ => ?_ | refine C1 ?_ | refine C2 ?_ | refine C3 ?_ | refine C4 ?_ | refine C5 ?_ | refine C6 ?_ | refine C7 ?_ | refine D0 fun γs => ?_ | refine A1 fun γs => ?_ | refine N2 ?_ | refine N3 ?_ | refine N1 ?_); ((conv => whnf); repeat ((first | refine Sw.o ?_ | refine B0 ?_); conv => whnf))))
    obtain ⟨k, hr⟩ := rt h.1
    have hg := hr.wf
    have su := hg.su
    have se := hg.se
    have hjl := hg.len
    refine CallP.pure [] _ c12 (match12_ok g hz) ?_
    rw [hr.m]
    ((conv => whnf); repeat ((first | refine Sw.o ?_ | refine B0 ?_); conv => whnf))
    (repeat ((first | refine N0 ?_ | refine A0 fun γ => ?_ | refine C1 ?_ | refine C2 ?_ | refine C3 ?_ | refine C4 ?_ | refine C5 ?_ | refine C6 ?_ | refine C7 ?_ | refine D0 fun γs => ?_ | refine A1 fun γs => ?_ | refine N2 ?_ | refine N3 ?_ | refine N1 ?_); ((conv => whnf); repeat ((first | refine Sw.o ?_ | refine B0 ?_); conv => whnf))))
    refine CallP.pure [] _ c14 (rank14_ok g hz) ?_
    rw [hr.r]
    ((conv => whnf); repeat ((first | refine Sw.o ?_ | refine B0 ?_); conv => whnf))
    (repeat ((first | refine N0 ?_ | refine A0 fun γ => ?_ | refine C1 ?_ | refine C2 ?_ | refine C3 ?_ | refine C4 ?_ | refine C5 ?_ | refine C6 ?_ | refine C7 ?_ | refine D0 fun γs => ?_ | refine A1 fun γs => ?_ | refine N2 ?_ | refine N3 ?_ | refine N1 ?_); ((conv => whnf); repeat ((first | refine Sw.o ?_ | refine B0 ?_); conv => whnf))))
    refine CallP.pure [] _ c31 (cover31_ok g hz (halv g)) ?_
    have hc2 : (coverF g).2 = 0 := by rw [hr.cover.1]
    have hcl : (coverF g).1.eqs.length + (coverF g).1.uses.length = k := by rw [hr.cover.1]; exact hr.cover.2
    have hcov : ∀ (i u : Nat) (hi : i < g.eqs.length) (hu : u < g.uses.length), (u : Int) ∈ jn g i → ((coverF g).1.eqs.any fun x => decide (x = g.eqs[i])) = true ∨ ((coverF g).1.uses.any fun x => decide (x = g.uses[u])) = true := fun i u hi hu hj => by
      rw [hr.cover.1]; exact hr.covers hi hu hj
    have hk := hr.pa.le1
    generalize coverF g = C at hc2 hcl hcov ⊢
    ((conv => whnf); repeat ((first | refine Sw.o ?_ | refine B0 ?_); conv => whnf))
    (repeat ((first | refine N0 ?_ | refine A0 fun γ => ?_ | refine C1 ?_ | refine C2 ?_ | refine C3 ?_ | refine C4 ?_ | refine C5 ?_ | refine C6 ?_ | refine C7 ?_ | refine D0 fun γs => ?_ | refine A1 fun γs => ?_ | refine N2 ?_ | refine N3 ?_ | refine N1 ?_); ((conv => whnf); repeat ((first | refine Sw.o ?_ | refine B0 ?_); conv => whnf))))
    refine CallP.pure [] _ c22 (matched_ok g hg _ hr.ml) ?_
    rw [hr.nn]
    ((conv => whnf); repeat ((first | refine Sw.o ?_ | refine B0 ?_); conv => whnf))
    have e1 : ((k : Nat) : Int) = k := rfl
    have e2 : ((C.1.eqs.map encS).length : Int) + ((C.1.uses.map encU).length : Int) = k := by
      simp only [List.length_map]; omega
    (repeat ((first | refine N0 ?_ | refine A0 fun γ => ?_ | refine C1 ?_ | refine C2 ?_ | refine C3 ?_ | refine C4 ?_ | refine C5 ?_ | refine C6 ?_ | refine C7 ?_ | refine D0 fun γs => ?_ | refine A1 fun γs => ?_ | refine N2 ?_ | refine N3 ?_ | refine N1 ?_); ((conv => whnf); repeat ((first | refine Sw.o ?_ | refine B0 ?_); conv => whnf))))
    refine LoopP.intro (fun n σ H => ∃ p1 p7 i, i ≤ g.eqs.length ∧ n = g.eqs.length - i ∧ σ = fr [(1, .op 1 p1 0 0), (7, .op 7 p7 0 0), (11, encI i)] ∧ H = hp [(1, p1, ⟨26, 3, [encG g]⟩), (7, p7, ⟨41, 2, [encP C.1]⟩)]) ?_ ?_
    · exact .intro <| W.of ⟨_, _, _, 0, Nat.zero_le _, rfl, rfl, rfl⟩ ⟨rfl, rfl, rfl, trivial⟩ ⟨rfl, rfl, trivial⟩
    · rintro n σ H ⟨p1, p7, i, hi, rfl, rfl, rfl⟩
      ((conv => whnf); repeat ((first | refine Sw.o ?_ | refine B0 ?_); conv => whnf))
      (repeat ((first | refine N0 ?_ | refine A0 fun γ => ?_ | refine C1 ?_ | refine C2 ?_ | refine C3 ?_ | refine C4 ?_ | refine C5 ?_ | refine C6 ?_ | refine C7 ?_ | refine D0 fun γs => ?_ | refine A1 fun γs => ?_ | refine N2 ?_ | refine N3 ?_ | refine N1 ?_); ((conv => whnf); repeat ((first | refine Sw.o ?_ | refine B0 ?_); conv => whnf))))
      refine CondP.dec (fun h1 => ?_) (fun h1 => ?_) <;> ((conv => whnf); repeat ((first | refine Sw.o ?_ | refine B0 ?_); conv => whnf))
      · have hi' : i < g.eqs.length := by simp only [LN] at h1; omega
        have hij : i < g.joined.length := by omega
        have hsl := hg.sl _ (List.getElem_mem hij)
        (repeat ((first | refine N0 ?_ | refine A0 fun γ => ?_ | refine C1 ?_ | refine C2 ?_ | refine C3 ?_ | refine C4 ?_ | refine C5 ?_ | refine C6 ?_ | refine C7 ?_ | refine D0 fun γs => ?_ | refine A1 fun γs => ?_ | refine N2 ?_ | refine N3 ?_ | refine N1 ?_); ((conv => whnf); repeat ((first | refine Sw.o ?_ | refine B0 ?_); conv => whnf))))
        refine LoopP.intro (fun n σ H => ∃ p1 p7 u, u ≤ g.uses.length ∧ n = g.uses.length - u ∧ σ = fr [(1, .op 1 p1 0 0), (7, .op 7 p7 0 0), (11, encI i), (12, encI u)] ∧ H = hp [(1, p1, ⟨26, 3, [encG g]⟩), (7, p7, ⟨41, 2, [encP C.1]⟩)]) ?_ ?_
        · exact .intro <| W.of ⟨_, _, _, 0, Nat.zero_le _, rfl, rfl, rfl⟩ ⟨rfl, rfl, rfl, rfl, trivial⟩ ⟨rfl, rfl, trivial⟩
        · rintro n σ H ⟨p1, p7, u, hu, rfl, rfl, rfl⟩
          ((conv => whnf); repeat ((first | refine Sw.o ?_ | refine B0 ?_); conv => whnf))
          (repeat ((first | refine N0 ?_ | refine A0 fun γ => ?_ | refine C1 ?_ | refine C2 ?_ | refine C3 ?_ | refine C4 ?_ | refine C5 ?_ | refine C6 ?_ | refine C7 ?_ | refine D0 fun γs => ?_ | refine A1 fun γs => ?_ | refine N2 ?_ | refine N3 ?_ | refine N1 ?_); ((conv => whnf); repeat ((first | refine Sw.o ?_ | refine B0 ?_); conv => whnf))))
          refine CondP.dec (fun h2 => ?_) (fun h2 => ?_) <;> ((conv => whnf); repeat ((first | refine Sw.o ?_ | refine B0 ?_); conv => whnf))
          · have hu' : u < g.uses.length := by simp only [LN] at h2; omega
            have hc := hcov i u hi' hu'
            have a1 := lawJoined_ok g i u hij (by omega)
            have a2 := hasEq_ok C.1 g.eqs[i] (by omega)
            have a3 := hasUse_ok C.1 g.uses[u] (by omega)
            have hj : (g.joined[i].any fun x => decide (x = (u : Int))) = true → (u : Int) ∈ jn g i := fun q => by
              obtain ⟨x, hx, hq⟩ := List.any_eq_true.1 q
              have hx2 : x = (u : Int) := by simpa using hq
              unfold jn
              rw [Int.toNat_natCast, getD_lt _ _ _ hij, ← hx2]; exact hx
            have hc := fun q => hc (hj q)
            clear hj
            generalize (g.joined[i].any fun x => decide (x = (u : Int))) = b1 at a1 hc
            generalize (C.1.eqs.any fun x => decide (x = g.eqs[i])) = b2 at a2 hc
            generalize (C.1.uses.any fun x => decide (x = g.uses[u])) = b3 at a3 hc
            (repeat ((first | refine N0 ?_ | refine A0 fun γ => ?_ | refine C1 ?_ | refine C2 ?_ | refine C3 ?_ | refine C4 ?_ | refine C5 ?_ | refine C6 ?_ | refine C7 ?_ | refine D0 fun γs => ?_ | refine A1 fun γs => ?_ | refine N2 ?_ | refine N3 ?_ | refine N1 ?_); ((conv => whnf); repeat ((first | refine Sw.o ?_ | refine B0 ?_); conv => whnf))))
            refine CallG.intro (encB b1) c26 a1 ?_
            cases b1 with
            | false =>
              ((conv => whnf); repeat ((first | refine Sw.o ?_ | refine B0 ?_); conv => whnf))
              (repeat ((first | refine N0 ?_ | refine A0 fun γ => ?_ | refine C1 ?_ | refine C2 ?_ | refine C3 ?_ | refine C4 ?_ | refine C5 ?_ | refine C6 ?_ | refine C7 ?_ | refine D0 fun γs => ?_ | refine A1 fun γs => ?_ | refine N2 ?_ | refine N3 ?_ | refine N1 ?_ | simp (disch := omega) only [LG]); ((conv => whnf); repeat ((first | refine Sw.o ?_ | refine B0 ?_); conv => whnf))))
              exact .intro <| W.of ⟨_, by simp only [LN] at h2; omega, _, _, u + 1, hu', rfl, rfl, rfl⟩ ⟨rfl, rfl, rfl, rfl, trivial⟩ ⟨rfl, rfl, trivial⟩
            | true =>
              ((conv => whnf); repeat ((first | refine Sw.o ?_ | refine B0 ?_); conv => whnf))
              (repeat ((first | refine N0 ?_ | refine A0 fun γ => ?_ | refine C1 ?_ | refine C2 ?_ | refine C3 ?_ | refine C4 ?_ | refine C5 ?_ | refine C6 ?_ | refine C7 ?_ | refine D0 fun γs => ?_ | refine A1 fun γs => ?_ | refine N2 ?_ | refine N3 ?_ | refine N1 ?_ | simp (disch := omega) only [LG]); ((conv => whnf); repeat ((first | refine Sw.o ?_ | refine B0 ?_); conv => whnf))))
              refine CallG.intro (encB b2) c24 a2 ?_
              cases b2 with
              | true =>
                ((conv => whnf); repeat ((first | refine Sw.o ?_ | refine B0 ?_); conv => whnf))
                (repeat ((first | refine N0 ?_ | refine A0 fun γ => ?_ | refine C1 ?_ | refine C2 ?_ | refine C3 ?_ | refine C4 ?_ | refine C5 ?_ | refine C6 ?_ | refine C7 ?_ | refine D0 fun γs => ?_ | refine A1 fun γs => ?_ | refine N2 ?_ | refine N3 ?_ | refine N1 ?_ | simp (disch := omega) only [LG]); ((conv => whnf); repeat ((first | refine Sw.o ?_ | refine B0 ?_); conv => whnf))))
                exact .intro <| W.of ⟨_, by simp only [LN] at h2; omega, _, _, u + 1, hu', rfl, rfl, rfl⟩ ⟨rfl, rfl, rfl, rfl, trivial⟩ ⟨rfl, rfl, trivial⟩
              | false =>
                have hb3 : b3 = true := (hc rfl).resolve_left (by simp)
                subst hb3
                ((conv => whnf); repeat ((first | refine Sw.o ?_ | refine B0 ?_); conv => whnf))
                (repeat ((first | refine N0 ?_ | refine A0 fun γ => ?_ | refine C1 ?_ | refine C2 ?_ | refine C3 ?_ | refine C4 ?_ | refine C5 ?_ | refine C6 ?_ | refine C7 ?_ | refine D0 fun γs => ?_ | refine A1 fun γs => ?_ | refine N2 ?_ | refine N3 ?_ | refine N1 ?_ | simp (disch := omega) only [LG]); ((conv => whnf); repeat ((first | refine Sw.o ?_ | refine B0 ?_); conv => whnf))))
                refine CallG.intro (encB true) c25 a3 ?_
                ((conv => whnf); repeat ((first | refine Sw.o ?_ | refine B0 ?_); conv => whnf))
                (repeat ((first | refine N0 ?_ | refine A0 fun γ => ?_ | refine C1 ?_ | refine C2 ?_ | refine C3 ?_ | refine C4 ?_ | refine C5 ?_ | refine C6 ?_ | refine C7 ?_ | refine D0 fun γs => ?_ | refine A1 fun γs => ?_ | refine N2 ?_ | refine N3 ?_ | refine N1 ?_ | simp (disch := omega) only [LG]); ((conv => whnf); repeat ((first | refine Sw.o ?_ | refine B0 ?_); conv => whnf))))
                exact .intro <| W.of ⟨_, by simp only [LN] at h2; omega, _, _, u + 1, hu', rfl, rfl, rfl⟩ ⟨rfl, rfl, rfl, rfl, trivial⟩ ⟨rfl, rfl, trivial⟩
          · (repeat ((first | refine N0 ?_ | refine A0 fun γ => ?_ | refine C1 ?_ | refine C2 ?_ | refine C3 ?_ | refine C4 ?_ | refine C5 ?_ | refine C6 ?_ | refine C7 ?_ | refine D0 fun γs => ?_ | refine A1 fun γs => ?_ | refine N2 ?_ | refine N3 ?_ | refine N1 ?_); ((conv => whnf); repeat ((first | refine Sw.o ?_ | refine B0 ?_); conv => whnf))))
            exact .intro <| W.of ⟨_, by simp only [LN] at h1; omega, _, _, i + 1, hi', rfl, rfl, rfl⟩ ⟨rfl, rfl, rfl, trivial⟩ ⟨rfl, rfl, trivial⟩
      · (repeat ((first | refine N0 ?_ | refine A0 fun γ => ?_ | refine C1 ?_ | refine C2 ?_ | refine C3 ?_ | refine C4 ?_ | refine C5 ?_ | refine C6 ?_ | refine C7 ?_ | refine D0 fun γs => ?_ | refine A1 fun γs => ?_ | refine N2 ?_ | refine N3 ?_ | refine N1 ?_); ((conv => whnf); repeat ((first | refine Sw.o ?_ | refine B0 ?_); conv => whnf))))
        refine CallP.flat [] _ c11 awake11_ok rfl ?_
        ((conv => whnf); repeat ((first | refine Sw.o ?_ | refine B0 ?_); conv => whnf))
        (repeat ((first | refine N0 ?_ | refine A0 fun γ => ?_ | refine C1 ?_ | refine C2 ?_ | refine C3 ?_ | refine C4 ?_ | refine C5 ?_ | refine C6 ?_ | refine C7 ?_ | refine D0 fun γs => ?_ | refine A1 fun γs => ?_ | refine N2 ?_ | refine N3 ?_ | refine N1 ?_); ((conv => whnf); repeat ((first | refine Sw.o ?_ | refine B0 ?_); conv => whnf))))
        exact .of rfl
  · (repeat ((first | refine N0 ?_ | refine A0 fun γ => ?_ | refine C1 ?_ | refine C2 ?_ | refine C3 ?_ | refine C4 ?_ | refine C5 ?_ | refine C6 ?_ | refine C7 ?_ | refine D0 fun γs => ?_ | refine A1 fun γs => ?_ | refine N2 ?_ | refine N3 ?_ | refine N1 ?_); ((conv => whnf); repeat ((first | refine Sw.o ?_ | refine B0 ?_); conv => whnf))))
    refine CallP.flat [] _ c11 awake11_ok rfl ?_
    ((conv => whnf); repeat ((first | refine Sw.o ?_ | refine B0 ?_); conv => whnf))
    (repeat ((first | refine N0 ?_ | refine A0 fun γ => ?_ | refine C1 ?_ | refine C2 ?_ | refine C3 ?_ | refine C4 ?_ | refine C5 ?_ | refine C6 ?_ | refine C7 ?_ | refine D0 fun γs => ?_ | refine A1 fun γs => ?_ | refine N2 ?_ | refine N3 ?_ | refine N1 ?_); ((conv => whnf); repeat ((first | refine Sw.o ?_ | refine B0 ?_); conv => whnf))))
    exact .of rfl
end Go.Proofs.Ytgeeklnokblokaa
namespace Go.Proofs.Ytgeeklnokblokaa
open Go Go.Fw
theorem bl_cons (x y : UInt8) (a b : List UInt8) : Op.bytesLess (x :: a) (y :: b) = (decide (x < y) || (decide (x = y) && Op.bytesLess a b)) := by
  simp only [Op.bytesLess]
  by_cases h : x < y
  · simp [h]
  · by_cases h2 : x = y <;> simp [h, h2]
theorem bl_irr : ∀ a : List UInt8, Op.bytesLess a a = false
  | [] => by simp [Op.bytesLess]
  | x :: a => by rw [bl_cons, bl_irr a]; simp
theorem bl_trans : ∀ a b c : List UInt8, Op.bytesLess a b = true → Op.bytesLess b c = true → Op.bytesLess a c = true
  | [], [], c, h, _ => by simp [Op.bytesLess] at h
  | [], _ :: _, [], _, h => by simp [Op.bytesLess] at h
  | [], _ :: _, _ :: _, _, _ => by simp [Op.bytesLess]
  | _ :: _, [], _, h, _ => by simp [Op.bytesLess] at h
  | _ :: _, _ :: _, [], _, h => by simp [Op.bytesLess] at h
  | x :: a, y :: b, z :: c, h1, h2 => by
    rw [bl_cons] at h1 h2 ⊢
    simp only [Bool.or_eq_true, Bool.and_eq_true, decide_eq_true_eq] at h1 h2 ⊢
    rcases h1 with h1 | ⟨rfl, h1⟩ <;> rcases h2 with h2 | ⟨rfl, h2⟩
    · exact .inl (UInt8.lt_trans h1 h2)
    · exact .inl h1
    · exact .inl h2
    · exact .inr ⟨rfl, bl_trans a b c h1 h2⟩
theorem bf_irr (u : U) : beforeF u u = false := by unfold beforeF; simp
theorem bf_trans (u v w : U) (h1 : beforeF u v = true) (h2 : beforeF v w = true) : beforeF u w = true := by
  unfold beforeF at h1 h2 ⊢
  by_cases e1 : u.name = v.name
  · rw [decide_eq_true e1] at h1
    simp only at h1
    by_cases e2 : v.name = w.name
    · rw [decide_eq_true e2] at h2
      rw [decide_eq_true (e1.trans e2)]
      simp only at h2 ⊢
      by_cases p1 : u.pre = v.pre
      · rw [decide_eq_true p1] at h1
        by_cases p2 : v.pre = w.pre
        · rw [decide_eq_true p2] at h2
          rw [decide_eq_true (p1.trans p2)]
          simp only [decide_eq_true_eq] at h1 h2 ⊢
          omega
        · rw [decide_eq_false p2] at h2
          rw [decide_eq_false (fun q => p2 (p1.symm.trans q))]
          exact h2
      · rw [decide_eq_false p1] at h1
        simp only at h1
        by_cases p2 : v.pre = w.pre
        · rw [decide_eq_false (fun q => p1 (q.trans p2.symm))]
          simp only
          rw [← p2]; exact h1
        · rw [decide_eq_false p2] at h2
          simp only at h2
          exact absurd (h1.trans h2.symm) p2
    · rw [decide_eq_false e2] at h2
      rw [decide_eq_false (fun q => e2 (e1.symm.trans q)), e1]
      exact h2
  · rw [decide_eq_false e1] at h1
    simp only at h1
    by_cases e2 : v.name = w.name
    · rw [decide_eq_false (fun q => e1 (q.trans e2.symm))]
      simp only
      rw [← e2]; exact h1
    · rw [decide_eq_false e2] at h2
      simp only at h2
      have h3 := bl_trans _ _ _ h1 h2
      rw [decide_eq_false (fun q => by rw [q, bl_irr] at h3; cases h3)]
      exact h3
theorem eqsV_all : ∀ (l : List ByteArray) (p : Option ByteArray), eqsV p l = true → (∀ s ∈ l, ltE p s = true) ∧ l.Nodup
  | [], _, _ => ⟨fun s h => absurd h (by simp), by simp⟩
  | s :: r, p, h => by
    unfold eqsV at h
    simp only [Bool.and_eq_true] at h
    obtain ⟨⟨_, h1⟩, h2⟩ := h
    obtain ⟨h3, h4⟩ := eqsV_all r (some s) h2
    refine ⟨fun x hx => ?_, List.nodup_cons.2 ⟨fun hm => ?_, h4⟩⟩
    · rcases List.mem_cons.1 hx with rfl | hx
      · exact h1
      · cases p with
        | none => rfl
        | some q => exact bl_trans _ _ _ h1 (h3 x hx)
    · have := h3 s hm
      have h5 : Op.bytesLess s.toList s.toList = true := this
      rw [bl_irr] at h5; cases h5
theorem usesV_all : ∀ (l : List U) (p : Option U), usesV p l = true → (∀ s ∈ l, ltU p s = true) ∧ l.Nodup
  | [], _, _ => ⟨fun s h => absurd h (by simp), by simp⟩
  | s :: r, p, h => by
    unfold usesV at h
    simp only [Bool.and_eq_true] at h
    obtain ⟨⟨_, h1⟩, h2⟩ := h
    obtain ⟨h3, h4⟩ := usesV_all r (some s) h2
    refine ⟨fun x hx => ?_, List.nodup_cons.2 ⟨fun hm => ?_, h4⟩⟩
    · rcases List.mem_cons.1 hx with rfl | hx
      · exact h1
      · cases p with
        | none => rfl
        | some q => exact bf_trans _ _ _ h1 (h3 x hx)
    · have := h3 s hm
      have h5 : beforeF s s = true := this
      rw [bf_irr] at h5; cases h5
theorem nodup_of {g : G} (h : checkF g = 0) : g.eqs.Nodup ∧ g.uses.Nodup := by
  have hv := (check_wf h).2.1
  unfold validG at hv
  simp only [Bool.and_eq_true] at hv
  exact ⟨(eqsV_all _ _ hv.1.1.2).2, (usesV_all _ _ hv.1.2).2⟩
theorem pick_sub {α : Type} (bs : List Bool) (xs : List α) : ∀ x ∈ pick bs xs, x ∈ xs := by
  intro x hx
  unfold pick at hx
  obtain ⟨⟨b, y⟩, hy, rfl⟩ := List.mem_map.1 hx
  exact (List.of_mem_zip (List.mem_filter.1 hy).1).2
theorem any_pick {α : Type} [DecidableEq α] : ∀ (bs : List Bool) (xs : List α), xs.Nodup → bs.length = xs.length → ∀ (i : Nat) (h : i < xs.length), ((pick bs xs).any fun x => decide (x = xs[i])) = bs.getD i false
  | [], [], _, _, i, h => absurd h (by simp)
  | b :: bs, x :: xs, hn, hl, i, h => by
    rw [List.nodup_cons] at hn
    rw [pick_cons, List.any_append]
    cases i with
    | zero =>
      have h2 : ((pick bs xs).any fun y => decide (y = x)) = false := by
        rw [List.any_eq_false]
        intro y hy
        have : y ≠ x := fun e => hn.1 (e ▸ pick_sub bs xs y hy)
        simp [this]
      simp only [List.getElem_cons_zero, h2, Bool.or_false, List.getD_cons_zero]
      cases b <;> simp
    | succ i =>
      have hi : i < xs.length := by simpa using h
      have ih := any_pick bs xs hn.2 (by simpa using hl) i hi
      simp only [List.getElem_cons_succ, List.getD_cons_succ]
      rw [ih]
      have : x ≠ xs[i] := fun e => hn.1 (e ▸ List.getElem_mem hi)
      cases b <;> simp [this]
theorem cnt_three : ∀ (a d : List Bool), a.length = d.length → (∀ i, a.getD i false = true → d.getD i false = true → False) → cntT a + cntT (restF a d) + cntT d = a.length := by
  intro a d hl hno
  rw [cntT_range a, cntT_range d, cntT_range (restF a d), restF_len, ← hl]
  have h1 : (List.range a.length).filter (fun i => (restF a d).getD i false) = ((List.range a.length).filter fun i => !a.getD i false).filter fun i => !d.getD i false := by
    rw [List.filter_filter]
    refine List.filter_congr fun i hi => ?_
    rw [restF_getD]
    have := List.mem_range.1 hi
    simp [this, Bool.and_comm]
  have h2 : (List.range a.length).filter (fun i => d.getD i false) = ((List.range a.length).filter fun i => !a.getD i false).filter fun i => d.getD i false := by
    rw [List.filter_filter]
    refine List.filter_congr fun i hi => ?_
    cases h3 : d.getD i false with
    | false => rfl
    | true =>
      cases h4 : a.getD i false with
      | false => rfl
      | true => exact (hno i h4 h3).elim
  rw [h1, h2]
  have s1 := filter_split (fun i => a.getD i false) (List.range a.length)
  have s2 := filter_split (fun i => d.getD i false) ((List.range a.length).filter fun i => !a.getD i false)
  simp only [List.length_range] at s1
  omega
theorem cnt_two (a : List Bool) : cntT a + cntT (restF a a) = a.length := by
  have h1 : restF a a = restF a (List.replicate a.length false) := by
    refine ext_getD (d := false) (by simp [restF_len]) fun i _ => ?_
    rw [restF_getD, restF_getD, getD_rep']
    simp
  have := cnt_three a (List.replicate a.length false) (by simp) (fun i _ h => by rw [getD_rep'] at h; cases h)
  rw [← h1] at this
  have h2 : cntT (List.replicate a.length false) = 0 := by simp [cntT, List.countP_replicate]
  omega
/-- The three parts by numbers. -/
structure Th (g : G) (k A C D B WE WU : Nat) : Prop where
  e : A + WE + D = g.eqs.length
  u : C + WU + B = g.uses.length
  o : A + k = g.eqs.length + C
  n : B + k = g.uses.length + D
  w : WE = WU
  o0 : 0 < A + C ↔ C < A
  n0 : 0 < D + B ↔ D < B
theorem cnt_zero {l : List Bool} (h : ∀ i, l.getD i false = false) : cntT l = 0 := by
  rw [cntT_range]
  have : (List.range l.length).filter (fun i => l.getD i false) = [] := List.filter_eq_nil_iff.2 fun i _ => by rw [h i]; simp
  rw [this]; rfl
theorem Rt.three {g : G} {k : Nat} (h : Rt g k) : Th g k (cntT (halvesF g).1) (cntT (joinedF g (halvesF g).1)) (cntT (touchF g (halvesF g).2)) (cntT (halvesF g).2)
    (cntT (restF (halvesF g).1 (touchF g (halvesF g).2))) (cntT (restF (joinedF g (halvesF g).1) (halvesF g).2)) := by
  have l1 := halvesF_len1 g
  have l2 := halvesF_len2 g
  have l3 := joinedF_len g (halvesF g).1
  have l4 := touchF_len g (halvesF g).2
  have hl := h.wf.len
  have s1 := cnt_three (halvesF g).1 (touchF g (halvesF g).2) (by omega) h.pa.noE
  have s2 := cnt_three (joinedF g (halvesF g).1) (halvesF g).2 (by omega) h.pa.noU
  have s3 := cnt_two (halvesF g).1
  have s4 := cnt_two (halvesF g).2
  have o := h.pa.over
  have n := h.pa.under
  have k1 := h.pa.le1
  have k2 := h.pa.le2
  have z1 : k = g.eqs.length → cntT (halvesF g).1 = 0 := fun q => cnt_zero (h.pa.none1 q)
  have z2 : k = g.uses.length → cntT (halvesF g).2 = 0 := fun q => cnt_zero (h.pa.none2 q)
  rw [l1] at s1 s3
  rw [l3] at s2
  rw [l2] at s4
  refine ⟨s1, s2, by omega, by omega, by omega, ?_, ?_⟩
  · by_cases q : k = g.eqs.length
    · have := z1 q; omega
    · omega
  · by_cases q : k = g.uses.length
    · have := z2 q; omega
    · omega
end Go.Proofs.Ytgeeklnokblokaa
namespace Go.Proofs.Ytgeeklnokblokaa
open Go Go.Fw
def one3 (a b c : Bool) : Int := if a && !b && !c then 0 else if b && !a && !c then 1 else if c && !a && !b then 2 else -1
/-- What a statement sees of the three parts: x, y are in the first one, z, v in the last one. -/
structure P3 (g : G) (k : Nat) (Q : Pt × Pt × Pt × Int) (x z y v : Nat → Bool) : Prop where
  ok : Q.2.2.2 = 0
  th : Th g k Q.1.eqs.length Q.1.uses.length Q.2.2.1.eqs.length Q.2.2.1.uses.length Q.2.1.eqs.length Q.2.1.uses.length
  e : ∀ (i : Nat) (h : i < g.eqs.length), (Q.1.eqs.any fun s => decide (s = g.eqs[i])) = x i ∧ (Q.2.1.eqs.any fun s => decide (s = g.eqs[i])) = (!x i && !z i) ∧ (Q.2.2.1.eqs.any fun s => decide (s = g.eqs[i])) = z i
  u : ∀ (i : Nat) (h : i < g.uses.length), (Q.1.uses.any fun s => decide (s = g.uses[i])) = y i ∧ (Q.2.1.uses.any fun s => decide (s = g.uses[i])) = (!y i && !v i) ∧ (Q.2.2.1.uses.any fun s => decide (s = g.uses[i])) = v i
  xz : ∀ i, x i = true → z i = true → False
  yv : ∀ i, y i = true → v i = true → False
  go : ∀ e u : Nat, x e = true → (u : Int) ∈ jn g e → y u = true
  goU : ∀ e u : Nat, v u = true → (u : Int) ∈ jn g e → z e = true
theorem Rt.p3 {g : G} {k : Nat} (h : Rt g k) : ∃ x z y v, P3 g k (partsF g) x z y v := by
  have l1 := halvesF_len1 g
  have l2 := halvesF_len2 g
  have l3 := joinedF_len g (halvesF g).1
  have l4 := touchF_len g (halvesF g).2
  have hl := h.wf.len
  obtain ⟨n1, n2⟩ := nodup_of h.c0
  have hp : partsF g = (partF g (halvesF g).1 (joinedF g (halvesF g).1), partF g (restF (halvesF g).1 (touchF g (halvesF g).2)) (restF (joinedF g (halvesF g).1) (halvesF g).2), partF g (touchF g (halvesF g).2) (halvesF g).2, 0) := by
    unfold partsF; rw [decide_eq_true h.c0]
  have th := h.three
  refine ⟨fun i => (halvesF g).1.getD i false, fun i => (touchF g (halvesF g).2).getD i false, fun u => (joinedF g (halvesF g).1).getD u false, fun u => (halvesF g).2.getD u false, ?_, ?_, fun i hi => ⟨?_, ?_, ?_⟩, fun i hi => ⟨?_, ?_, ?_⟩, h.pa.noE, h.pa.noU, h.pa.goE, h.pa.goU⟩
  · rw [hp]
  · rw [hp]
    have e1 := pick_len (halvesF g).1 g.eqs l1
    have e2 := pick_len (joinedF g (halvesF g).1) g.uses l3
    have e3 := pick_len (touchF g (halvesF g).2) g.eqs (by omega)
    have e4 := pick_len (halvesF g).2 g.uses l2
    have e5 := pick_len (restF (halvesF g).1 (touchF g (halvesF g).2)) g.eqs (by rw [restF_len]; omega)
    have e6 := pick_len (restF (joinedF g (halvesF g).1) (halvesF g).2) g.uses (by rw [restF_len]; omega)
    show Th g k (pick _ _).length (pick _ _).length (pick _ _).length (pick _ _).length (pick _ _).length (pick _ _).length
    rw [e1, e2, e3, e4, e5, e6]
    exact th
  · rw [hp]; exact any_pick _ _ n1 l1 i hi
  · rw [hp]
    have := any_pick (restF (halvesF g).1 (touchF g (halvesF g).2)) g.eqs n1 (by rw [restF_len]; omega) i hi
    rw [restF_getD, l1, decide_eq_true hi, Bool.true_and] at this
    exact this
  · rw [hp]; exact any_pick _ _ n1 (by omega) i hi
  · rw [hp]; exact any_pick _ _ n2 l3 i hi
  · rw [hp]
    have := any_pick (restF (joinedF g (halvesF g).1) (halvesF g).2) g.uses n2 (by rw [restF_len]; omega) i hi
    rw [restF_getD, l3, decide_eq_true hi, Bool.true_and] at this
    exact this
  · rw [hp]; exact any_pick _ _ n2 l2 i hi
theorem one3_sp (x z : Bool) (h : x = true → z = true → False) : (one3 x (!x && !z) z = 0 ∧ x = true) ∨ (one3 x (!x && !z) z = 1 ∧ x = false ∧ z = false) ∨ (one3 x (!x && !z) z = 2 ∧ z = true ∧ x = false) := by
  cases x <;> cases z
  · exact .inr (.inl ⟨rfl, rfl, rfl⟩)
  · exact .inr (.inr ⟨rfl, rfl, rfl⟩)
  · exact .inl ⟨rfl, rfl⟩
  · exact (h rfl rfl).elim
theorem one3_ok (a b c : Bool) : PureCall Try.prog 23 [encB a, encB b, encB c] (encI (one3 a b c)) := one_ok a b c
set_option maxHeartbeats 8000000 in
set_option maxRecDepth 100000 in
theorem MatchThree_ok (g : G) (hz : Sz g) : PureCall Try.prog 4 [encG g] (encB true) := by
  refine pure_cp (E := E 0) T_ok (D_ok 0) [] Try.func4 rfl (by rfl) (Nat.le_of_ble_eq_true rfl) ?_
  ((conv => whnf); repeat ((first | refine Sw.o ?_ | refine B0 ?_); conv => whnf))
  (repeat ((first | refine N0 ?_ | refine A0 fun γ => ?_ | refine C1 ?_ | refine C2 ?_ | refine C3 ?_ | refine C4 ?_ | refine C5 ?_ | refine C6 ?_ | refine C7 ?_ | refine D0 fun γs => ?_ | refine A1 fun γs => ?_ | refine N2 ?_ | refine N3 ?_ | refine N1 ?_); ((conv => whnf); repeat ((first | refine Sw.o ?_ | refine B0 ?_); conv => whnf))))
  refine CallP.flat [] _ c20 (right_ok g hz) rfl ?_
  ((conv => whnf); repeat ((first | refine Sw.o ?_ | refine B0 ?_); conv => whnf))
  (repeat ((first | refine N0 ?_ | refine A0 fun γ => ?_ | refine C1 ?_ | refine C2 ?_ | refine C3 ?_ | refine C4 ?_ | refine C5 ?_ | refine C6 ?_ | refine C7 ?_ | refine D0 fun γs => ?_ | refine A1 fun γs => ?_ | refine N2 ?_ | refine N3 ?_ | refine N1 ?_); ((conv => whnf); repeat ((first | refine Sw.o ?_ | refine B0 ?_); conv => whnf))))
  refine CondP.dec (fun h => ?_) (fun h => ?_) <;> ((conv => whnf); repeat ((first | refine Sw.o ?_ | refine B0 ?_); conv => whnf))
  · (repeat ((first | refine N0 ?_ | refine A0 fun γ => ?_ | refine C1 ?_ | refine C2 ?_ | refine C3 ?_ | refine C4 ?_ | refine C5 ?_ | refine C6 ?_ | refine C7 ?_ | refine D0 fun γs => ?_ | refine A1 fun γs => ?_ | refine N2 ?_ | refine N3 ?_ | refine N1 ?_); ((conv => whnf); repeat ((first | refine Sw.o ?_ | refine B0 ?_); conv => whnf))))
    obtain ⟨k, hr⟩ := rt h.1
    have hg := hr.wf
    have su := hg.su
    have se := hg.se
    have hjl := hg.len
    have k1 := hr.pa.le1
    have k2 := hr.pa.le2
    obtain ⟨x, z, y, v, hq⟩ := hr.p3
    refine CallP.pure [] _ c21 (parts21_ok g hz (halv g)) ?_
    generalize partsF g = Q at hq ⊢
    ((conv => whnf); repeat ((first | refine Sw.o ?_ | refine B0 ?_); conv => whnf))
    (repeat ((first | refine N0 ?_ | refine A0 fun γ => ?_ | refine C1 ?_ | refine C2 ?_ | refine C3 ?_ | refine C4 ?_ | refine C5 ?_ | refine C6 ?_ | refine C7 ?_ | refine D0 fun γs => ?_ | refine A1 fun γs => ?_ | refine N2 ?_ | refine N3 ?_ | refine N1 ?_); ((conv => whnf); repeat ((first | refine Sw.o ?_ | refine B0 ?_); conv => whnf))))
    refine CallP.pure [] _ c12 (match12_ok g hz) ?_
    rw [hr.m]
    ((conv => whnf); repeat ((first | refine Sw.o ?_ | refine B0 ?_); conv => whnf))
    (repeat ((first | refine N0 ?_ | refine A0 fun γ => ?_ | refine C1 ?_ | refine C2 ?_ | refine C3 ?_ | refine C4 ?_ | refine C5 ?_ | refine C6 ?_ | refine C7 ?_ | refine D0 fun γs => ?_ | refine A1 fun γs => ?_ | refine N2 ?_ | refine N3 ?_ | refine N1 ?_); ((conv => whnf); repeat ((first | refine Sw.o ?_ | refine B0 ?_); conv => whnf))))
    refine CallP.pure [] _ c22 (matched_ok g hg _ hr.ml) ?_
    rw [hr.nn]
    ((conv => whnf); repeat ((first | refine Sw.o ?_ | refine B0 ?_); conv => whnf))
    have q0 := hq.ok
    obtain ⟨t1, t2, t3, t4, t5, t6, t7⟩ := hq.th
    have f1 : ((Q.1.eqs.map encS).length : Int) + ((Q.2.1.eqs.map encS).length : Int) + ((Q.2.2.1.eqs.map encS).length : Int) = ((g.eqs.map encS).length : Int) := by simp only [List.length_map]; omega
    have f2 : ((Q.1.uses.map encU).length : Int) + ((Q.2.1.uses.map encU).length : Int) + ((Q.2.2.1.uses.map encU).length : Int) = ((g.uses.map encU).length : Int) := by simp only [List.length_map]; omega
    have f3 : ((Q.1.eqs.map encS).length : Int) - ((Q.1.uses.map encU).length : Int) = ((g.eqs.map encS).length : Int) - (k : Int) := by simp only [List.length_map]; omega
    have f4 : ((Q.2.2.1.uses.map encU).length : Int) - ((Q.2.2.1.eqs.map encS).length : Int) = ((g.uses.map encU).length : Int) - (k : Int) := by simp only [List.length_map]; omega
    have f5 : ((Q.2.1.eqs.map encS).length : Int) = ((Q.2.1.uses.map encU).length : Int) := by simp only [List.length_map]; omega
    have f6 : (decide ((0 : Int) < ((Q.1.eqs.map encS).length : Int) + ((Q.1.uses.map encU).length : Int)) == decide (((Q.1.uses.map encU).length : Int) < ((Q.1.eqs.map encS).length : Int))) = true := by
      rw [beq_iff_eq, decide_eq_decide]
      simp only [List.length_map]; omega
    have f7 : (decide ((0 : Int) < ((Q.2.2.1.eqs.map encS).length : Int) + ((Q.2.2.1.uses.map encU).length : Int)) == decide (((Q.2.2.1.eqs.map encS).length : Int) < ((Q.2.2.1.uses.map encU).length : Int))) = true := by
      rw [beq_iff_eq, decide_eq_decide]
      simp only [List.length_map]; omega
    (repeat ((first | refine N0 ?_ | refine A0 fun γ => ?_ | refine C1 ?_ | refine C2 ?_ | refine C3 ?_ | refine C4 ?_ | refine C5 ?_ | refine C6 ?_ | refine C7 ?_ | refine D0 fun γs => ?_ | refine A1 fun γs => ?_ | refine N2 ?_ | refine N3 ?_ | refine N1 ?_); ((conv => whnf); repeat ((first | refine Sw.o ?_ | refine B0 ?_); conv => whnf))))
    refine LoopP.intro (fun n σ H => ∃ p1 p3 p4 p5 i, i ≤ g.eqs.length ∧ n = g.eqs.length - i ∧ σ = fr [(1, .op 1 p1 0 0), (3, .op 3 p3 0 0), (4, .op 4 p4 0 0), (5, .op 5 p5 0 0), (11, encI i)] ∧ H = hp [(1, p1, ⟨26, 3, [encG g]⟩), (3, p3, ⟨41, 2, [encP Q.1]⟩), (4, p4, ⟨41, 2, [encP Q.2.1]⟩), (5, p5, ⟨41, 2, [encP Q.2.2.1]⟩)]) ?_ ?_
    · exact .intro <| W.of ⟨_, _, _, _, _, 0, Nat.zero_le _, rfl, rfl, rfl⟩ ⟨rfl, rfl, rfl, rfl, rfl, trivial⟩ ⟨rfl, rfl, rfl, rfl, trivial⟩
    · rintro n σ H ⟨p1, p3, p4, p5, i, hi, rfl, rfl, rfl⟩
      ((conv => whnf); repeat ((first | refine Sw.o ?_ | refine B0 ?_); conv => whnf))
      (repeat ((first | refine N0 ?_ | refine A0 fun γ => ?_ | refine C1 ?_ | refine C2 ?_ | refine C3 ?_ | refine C4 ?_ | refine C5 ?_ | refine C6 ?_ | refine C7 ?_ | refine D0 fun γs => ?_ | refine A1 fun γs => ?_ | refine N2 ?_ | refine N3 ?_ | refine N1 ?_); ((conv => whnf); repeat ((first | refine Sw.o ?_ | refine B0 ?_); conv => whnf))))
      refine CondP.dec (fun h1 => ?_) (fun h1 => ?_) <;> ((conv => whnf); repeat ((first | refine Sw.o ?_ | refine B0 ?_); conv => whnf))
      · have hi' : i < g.eqs.length := by simp only [LN] at h1; omega
        have hij : i < g.joined.length := by omega
        have hsl := hg.sl _ (List.getElem_mem hij)
        obtain ⟨b1, b2, b3⟩ := hq.e i hi'
        have a1 := hasEq_ok Q.1 g.eqs[i] (by omega)
        have a2 := hasEq_ok Q.2.1 g.eqs[i] (by omega)
        have a3 := hasEq_ok Q.2.2.1 g.eqs[i] (by omega)
        rw [b1] at a1
        rw [b2] at a2
        rw [b3] at a3
        (repeat ((first | refine N0 ?_ | refine A0 fun γ => ?_ | refine C1 ?_ | refine C2 ?_ | refine C3 ?_ | refine C4 ?_ | refine C5 ?_ | refine C6 ?_ | refine C7 ?_ | refine D0 fun γs => ?_ | refine A1 fun γs => ?_ | refine N2 ?_ | refine N3 ?_ | refine N1 ?_ | simp (disch := omega) only [LG]); ((conv => whnf); repeat ((first | refine Sw.o ?_ | refine B0 ?_); conv => whnf))))
        refine CallG.intro (encB (x i)) c24 a1 ?_
        ((conv => whnf); repeat ((first | refine Sw.o ?_ | refine B0 ?_); conv => whnf))
        (repeat ((first | refine N0 ?_ | refine A0 fun γ => ?_ | refine C1 ?_ | refine C2 ?_ | refine C3 ?_ | refine C4 ?_ | refine C5 ?_ | refine C6 ?_ | refine C7 ?_ | refine D0 fun γs => ?_ | refine A1 fun γs => ?_ | refine N2 ?_ | refine N3 ?_ | refine N1 ?_ | simp (disch := omega) only [LG]); ((conv => whnf); repeat ((first | refine Sw.o ?_ | refine B0 ?_); conv => whnf))))
        refine CallG.intro (encB (!x i && !z i)) c24 a2 ?_
        ((conv => whnf); repeat ((first | refine Sw.o ?_ | refine B0 ?_); conv => whnf))
        (repeat ((first | refine N0 ?_ | refine A0 fun γ => ?_ | refine C1 ?_ | refine C2 ?_ | refine C3 ?_ | refine C4 ?_ | refine C5 ?_ | refine C6 ?_ | refine C7 ?_ | refine D0 fun γs => ?_ | refine A1 fun γs => ?_ | refine N2 ?_ | refine N3 ?_ | refine N1 ?_ | simp (disch := omega) only [LG]); ((conv => whnf); repeat ((first | refine Sw.o ?_ | refine B0 ?_); conv => whnf))))
        refine CallG.intro (encB (z i)) c24 a3 ?_
        ((conv => whnf); repeat ((first | refine Sw.o ?_ | refine B0 ?_); conv => whnf))
        (repeat ((first | refine N0 ?_ | refine A0 fun γ => ?_ | refine C1 ?_ | refine C2 ?_ | refine C3 ?_ | refine C4 ?_ | refine C5 ?_ | refine C6 ?_ | refine C7 ?_ | refine D0 fun γs => ?_ | refine A1 fun γs => ?_ | refine N2 ?_ | refine N3 ?_ | refine N1 ?_ | simp (disch := omega) only [LG]); ((conv => whnf); repeat ((first | refine Sw.o ?_ | refine B0 ?_); conv => whnf))))
        refine CallG.intro (encI (one3 (x i) (!x i && !z i) (z i))) c23 (one3_ok (x i) (!x i && !z i) (z i)) ?_
        ((conv => whnf); repeat ((first | refine Sw.o ?_ | refine B0 ?_); conv => whnf))
        (repeat ((first | refine N0 ?_ | refine A0 fun γ => ?_ | refine C1 ?_ | refine C2 ?_ | refine C3 ?_ | refine C4 ?_ | refine C5 ?_ | refine C6 ?_ | refine C7 ?_ | refine D0 fun γs => ?_ | refine A1 fun γs => ?_ | refine N2 ?_ | refine N3 ?_ | refine N1 ?_ | simp (disch := omega) only [LG]); ((conv => whnf); repeat ((first | refine Sw.o ?_ | refine B0 ?_); conv => whnf))))
        refine LoopP.intro (fun n σ H => ∃ p1 p3 p4 p5 u, u ≤ g.uses.length ∧ n = g.uses.length - u ∧ σ = fr [(1, .op 1 p1 0 0), (3, .op 3 p3 0 0), (4, .op 4 p4 0 0), (5, .op 5 p5 0 0), (11, encI i), (12, encI (one3 (x i) (!x i && !z i) (z i))), (13, encI u)] ∧ H = hp [(1, p1, ⟨26, 3, [encG g]⟩), (3, p3, ⟨41, 2, [encP Q.1]⟩), (4, p4, ⟨41, 2, [encP Q.2.1]⟩), (5, p5, ⟨41, 2, [encP Q.2.2.1]⟩)]) ?_ ?_
        · exact .intro <| W.of ⟨_, _, _, _, _, 0, Nat.zero_le _, rfl, rfl, rfl⟩ ⟨rfl, rfl, rfl, rfl, rfl, rfl, rfl, trivial⟩ ⟨rfl, rfl, rfl, rfl, trivial⟩
        · rintro n σ H ⟨p1, p3, p4, p5, u, hu, rfl, rfl, rfl⟩
          ((conv => whnf); repeat ((first | refine Sw.o ?_ | refine B0 ?_); conv => whnf))
          (repeat ((first | refine N0 ?_ | refine A0 fun γ => ?_ | refine C1 ?_ | refine C2 ?_ | refine C3 ?_ | refine C4 ?_ | refine C5 ?_ | refine C6 ?_ | refine C7 ?_ | refine D0 fun γs => ?_ | refine A1 fun γs => ?_ | refine N2 ?_ | refine N3 ?_ | refine N1 ?_); ((conv => whnf); repeat ((first | refine Sw.o ?_ | refine B0 ?_); conv => whnf))))
          refine CondP.dec (fun h2 => ?_) (fun h2 => ?_) <;> ((conv => whnf); repeat ((first | refine Sw.o ?_ | refine B0 ?_); conv => whnf))
          · have hu' : u < g.uses.length := by simp only [LN] at h2; omega
            obtain ⟨d1, d2, d3⟩ := hq.u u hu'
            have w1 := hasUse_ok Q.1 g.uses[u] (by omega)
            have w2 := hasUse_ok Q.2.1 g.uses[u] (by omega)
            have w3 := hasUse_ok Q.2.2.1 g.uses[u] (by omega)
            rw [d1] at w1
            rw [d2] at w2
            rw [d3] at w3
            have wj := lawJoined_ok g i u hij (by omega)
            have hj : (g.joined[i].any fun x => decide (x = (u : Int))) = true → (u : Int) ∈ jn g i := fun q => by
              obtain ⟨s, hx, hq⟩ := List.any_eq_true.1 q
              have hx2 : s = (u : Int) := by simpa using hq
              unfold jn
              rw [Int.toNat_natCast, getD_lt _ _ _ hij, ← hx2]; exact hx
            generalize (g.joined[i].any fun x => decide (x = (u : Int))) = bj at wj hj
            (repeat ((first | refine N0 ?_ | refine A0 fun γ => ?_ | refine C1 ?_ | refine C2 ?_ | refine C3 ?_ | refine C4 ?_ | refine C5 ?_ | refine C6 ?_ | refine C7 ?_ | refine D0 fun γs => ?_ | refine A1 fun γs => ?_ | refine N2 ?_ | refine N3 ?_ | refine N1 ?_ | simp (disch := omega) only [LG]); ((conv => whnf); repeat ((first | refine Sw.o ?_ | refine B0 ?_); conv => whnf))))
            refine CallG.intro (encB (y u)) c25 w1 ?_
            ((conv => whnf); repeat ((first | refine Sw.o ?_ | refine B0 ?_); conv => whnf))
            (repeat ((first | refine N0 ?_ | refine A0 fun γ => ?_ | refine C1 ?_ | refine C2 ?_ | refine C3 ?_ | refine C4 ?_ | refine C5 ?_ | refine C6 ?_ | refine C7 ?_ | refine D0 fun γs => ?_ | refine A1 fun γs => ?_ | refine N2 ?_ | refine N3 ?_ | refine N1 ?_ | simp (disch := omega) only [LG]); ((conv => whnf); repeat ((first | refine Sw.o ?_ | refine B0 ?_); conv => whnf))))
            refine CallG.intro (encB (!y u && !v u)) c25 w2 ?_
            ((conv => whnf); repeat ((first | refine Sw.o ?_ | refine B0 ?_); conv => whnf))
            (repeat ((first | refine N0 ?_ | refine A0 fun γ => ?_ | refine C1 ?_ | refine C2 ?_ | refine C3 ?_ | refine C4 ?_ | refine C5 ?_ | refine C6 ?_ | refine C7 ?_ | refine D0 fun γs => ?_ | refine A1 fun γs => ?_ | refine N2 ?_ | refine N3 ?_ | refine N1 ?_ | simp (disch := omega) only [LG]); ((conv => whnf); repeat ((first | refine Sw.o ?_ | refine B0 ?_); conv => whnf))))
            refine CallG.intro (encB (v u)) c25 w3 ?_
            ((conv => whnf); repeat ((first | refine Sw.o ?_ | refine B0 ?_); conv => whnf))
            (repeat ((first | refine N0 ?_ | refine A0 fun γ => ?_ | refine C1 ?_ | refine C2 ?_ | refine C3 ?_ | refine C4 ?_ | refine C5 ?_ | refine C6 ?_ | refine C7 ?_ | refine D0 fun γs => ?_ | refine A1 fun γs => ?_ | refine N2 ?_ | refine N3 ?_ | refine N1 ?_ | simp (disch := omega) only [LG]); ((conv => whnf); repeat ((first | refine Sw.o ?_ | refine B0 ?_); conv => whnf))))
            refine CallG.intro (encI (one3 (y u) (!y u && !v u) (v u))) c23 (one3_ok (y u) (!y u && !v u) (v u)) ?_
            have hA := one3_sp (x i) (z i) (hq.xz i)
            have hB := one3_sp (y u) (v u) (hq.yv u)
            generalize one3 (x i) (!x i && !z i) (z i) = A at hA ⊢
            generalize one3 (y u) (!y u && !v u) (v u) = B at hB ⊢
            have hA0 : 0 ≤ A ∧ A ≤ 2 := by rcases hA with ⟨q, _⟩ | ⟨q, _⟩ | ⟨q, _⟩ <;> omega
            have hB0 : 0 ≤ B ∧ B ≤ 2 := by rcases hB with ⟨q, _⟩ | ⟨q, _⟩ | ⟨q, _⟩ <;> omega
            have hAB : bj = true → (A = 0 → B = 0) ∧ (A = 1 → B ≠ 2) := fun q => by
              refine ⟨fun qa => ?_, fun qa qb => ?_⟩
              · have hx : x i = true := by rcases hA with ⟨q, h⟩ | ⟨q, _⟩ | ⟨q, _⟩ <;> first | exact h | omega
                have hy := hq.go i u hx (hj q)
                rcases hB with ⟨q, h⟩ | ⟨_, h, _⟩ | ⟨_, _, h⟩
                · exact q
                · rw [hy] at h; cases h
                · rw [hy] at h; cases h
              · have hv : v u = true := by rcases hB with ⟨q, h⟩ | ⟨q, _⟩ | ⟨q, h, _⟩ <;> first | exact h | omega
                have hzt := hq.goU i u hv (hj q)
                rcases hA with ⟨q, h⟩ | ⟨q, _, h⟩ | ⟨q, _⟩
                · omega
                · rw [hzt] at h; cases h
                · omega
            ((conv => whnf); repeat ((first | refine Sw.o ?_ | refine B0 ?_); conv => whnf))
            (repeat ((first | refine N0 ?_ | refine A0 fun γ => ?_ | with_reducible refine C1 ?_ | with_reducible refine C2 ?_ | with_reducible refine C3 ?_ | refine C8 ?_ | refine C9 ?_ | refine C6 ?_ | refine C7 ?_ | refine D0 fun γs => ?_ | refine A1 fun γs => ?_ | refine N2 ?_ | refine N3 ?_ | refine N1 ?_ | simp (disch := omega) only [LG]); ((conv => whnf); repeat ((first | refine Sw.o ?_ | refine B0 ?_); conv => whnf))))
            refine CallP.flat [] (encB bj) c26 wj rfl ?_
            cases bj with
            | false =>
              ((conv => whnf); repeat ((first | refine Sw.o ?_ | refine B0 ?_); conv => whnf))
              (repeat ((first | refine N0 ?_ | refine A0 fun γ => ?_ | with_reducible refine C1 ?_ | with_reducible refine C2 ?_ | with_reducible refine C3 ?_ | refine C8 ?_ | refine C9 ?_ | refine C6 ?_ | refine C7 ?_ | refine A1 fun γs => ?_ | refine N2 ?_ | refine N3 ?_ | refine N1 ?_); ((conv => whnf); repeat ((first | refine Sw.o ?_ | refine B0 ?_); conv => whnf))))
              exact .intro <| W.of ⟨_, by simp only [LN] at h2; omega, _, _, _, _, u + 1, hu', rfl, rfl, rfl⟩ ⟨rfl, rfl, rfl, rfl, rfl, rfl, rfl, trivial⟩ ⟨rfl, rfl, rfl, rfl, trivial⟩
            | true =>
              obtain ⟨hab1, hab2⟩ := hAB rfl
              ((conv => whnf); repeat ((first | refine Sw.o ?_ | refine B0 ?_); conv => whnf))
              (repeat (any_goals (first | ((first | refine N0 ?_ | refine A0 fun γ => ?_ | with_reducible refine C1 ?_ | with_reducible refine C2 ?_ | with_reducible refine C3 ?_ | refine C8 ?_ | refine C9 ?_ | refine C6 ?_ | refine C7 ?_ | refine A1 fun γs => ?_ | refine N2 ?_ | refine N3 ?_ | refine N1 ?_); ((conv => whnf); repeat ((first | refine Sw.o ?_ | refine B0 ?_); conv => whnf))) | (refine CondP.dec (fun _ => ?_) (fun _ => ?_) <;> ((conv => whnf); repeat ((first | refine Sw.o ?_ | refine B0 ?_); conv => whnf))))))
              all_goals exact .intro <| W.of ⟨_, by simp only [LN] at h2; omega, _, _, _, _, u + 1, hu', rfl, rfl, rfl⟩ ⟨rfl, rfl, rfl, rfl, rfl, rfl, rfl, trivial⟩ ⟨rfl, rfl, rfl, rfl, trivial⟩
          · (repeat ((first | refine N0 ?_ | refine A0 fun γ => ?_ | refine C1 ?_ | refine C2 ?_ | refine C3 ?_ | refine C4 ?_ | refine C5 ?_ | refine C6 ?_ | refine C7 ?_ | refine D0 fun γs => ?_ | refine A1 fun γs => ?_ | refine N2 ?_ | refine N3 ?_ | refine N1 ?_); ((conv => whnf); repeat ((first | refine Sw.o ?_ | refine B0 ?_); conv => whnf))))
            exact .intro <| W.of ⟨_, by simp only [LN] at h1; omega, _, _, _, _, i + 1, hi', rfl, rfl, rfl⟩ ⟨rfl, rfl, rfl, rfl, rfl, trivial⟩ ⟨rfl, rfl, rfl, rfl, trivial⟩
      · (repeat ((first | refine N0 ?_ | refine A0 fun γ => ?_ | refine C1 ?_ | refine C2 ?_ | refine C3 ?_ | refine C4 ?_ | refine C5 ?_ | refine C6 ?_ | refine C7 ?_ | refine D0 fun γs => ?_ | refine A1 fun γs => ?_ | refine N2 ?_ | refine N3 ?_ | refine N1 ?_); ((conv => whnf); repeat ((first | refine Sw.o ?_ | refine B0 ?_); conv => whnf))))
        refine CallP.flat [] _ c11 awake11_ok rfl ?_
        ((conv => whnf); repeat ((first | refine Sw.o ?_ | refine B0 ?_); conv => whnf))
        (repeat ((first | refine N0 ?_ | refine A0 fun γ => ?_ | refine C1 ?_ | refine C2 ?_ | refine C3 ?_ | refine C4 ?_ | refine C5 ?_ | refine C6 ?_ | refine C7 ?_ | refine D0 fun γs => ?_ | refine A1 fun γs => ?_ | refine N2 ?_ | refine N3 ?_ | refine N1 ?_); ((conv => whnf); repeat ((first | refine Sw.o ?_ | refine B0 ?_); conv => whnf))))
        exact .of rfl
  · (repeat ((first | refine N0 ?_ | refine A0 fun γ => ?_ | refine C1 ?_ | refine C2 ?_ | refine C3 ?_ | refine C4 ?_ | refine C5 ?_ | refine C6 ?_ | refine C7 ?_ | refine D0 fun γs => ?_ | refine A1 fun γs => ?_ | refine N2 ?_ | refine N3 ?_ | refine N1 ?_); ((conv => whnf); repeat ((first | refine Sw.o ?_ | refine B0 ?_); conv => whnf))))
    refine CallP.flat [] _ c11 awake11_ok rfl ?_
    ((conv => whnf); repeat ((first | refine Sw.o ?_ | refine B0 ?_); conv => whnf))
    (repeat ((first | refine N0 ?_ | refine A0 fun γ => ?_ | refine C1 ?_ | refine C2 ?_ | refine C3 ?_ | refine C4 ?_ | refine C5 ?_ | refine C6 ?_ | refine C7 ?_ | refine D0 fun γs => ?_ | refine A1 fun γs => ?_ | refine N2 ?_ | refine N3 ?_ | refine N1 ?_); ((conv => whnf); repeat ((first | refine Sw.o ?_ | refine B0 ?_); conv => whnf))))
    exact .of rfl
end Go.Proofs.Ytgeeklnokblokaa
namespace Go.Proofs.Ytgeeklnokblokaa
open Go Go.Fw
theorem listV_filter (n : Nat) (f : Int → Bool) : ∀ (l : List Int) (p q : Option Int), listV n p l = true → (∀ a, q = some a → ∃ b, p = some b ∧ a ≤ b) → listV n q (l.filter f) = true
  | [], p, q, _, _ => by simp [listV]
  | x :: r, p, q, h, hq => by
    unfold listV at h
    simp only [Bool.and_eq_true, decide_eq_true_eq] at h
    obtain ⟨⟨h1, h2⟩, h3⟩ := h
    have hqx : ltI q x = true := by
      cases q with
      | none => rfl
      | some a =>
        obtain ⟨b, hb, hab⟩ := hq a rfl
        subst hb
        simp only [ltI, decide_eq_true_eq] at h2 ⊢
        omega
    cases hf : f x with
    | true =>
      simp only [List.filter_cons, hf, if_true]
      unfold listV
      rw [listV_filter n f r (some x) (some x) h3 (fun a ha => ⟨x, rfl, by cases ha; exact Int.le_refl _⟩), hqx]
      simp [h1]
    | false =>
      simp only [List.filter_cons, hf, Bool.false_eq_true, if_false]
      refine listV_filter n f r (some x) q h3 fun a ha => ⟨x, rfl, ?_⟩
      subst ha
      simp only [ltI, decide_eq_true_eq] at hqx
      omega
theorem listsV_iff (n : Nat) : ∀ ls : List (List Int), listsV n ls = true ↔ ∀ l ∈ ls, listV n none l = true
  | [] => by simp [listsV]
  | x :: r => by
    unfold listsV
    simp [listsV_iff n r]
theorem check_of {g h : G} (hc : checkF g = 0) (he : h.eqs = g.eqs) (hu : h.uses = g.uses) (hl : h.joined.length = g.joined.length) (hj : ∀ l ∈ h.joined, listV h.uses.length none l = true) : checkF h = 0 := by
  obtain ⟨_, hv, h1, h2⟩ := check_wf hc
  have hv2 := hv
  unfold validG at hv2
  simp only [Bool.and_eq_true, decide_eq_true_eq] at hv2
  have hvh : validG h = true := by
    unfold validG
    simp only [Bool.and_eq_true, decide_eq_true_eq]
    exact ⟨⟨⟨by rw [hl, he]; exact hv2.1.1.1, by rw [he]; exact hv2.1.1.2⟩, by rw [hu]; exact hv2.1.2⟩, (listsV_iff _ _).2 hj⟩
  unfold checkF
  rw [hvh]
  simp only
  rw [decide_eq_false (by rw [he, hu]; omega)]
theorem sz_of {g h : G} (hz : Sz g) (hc : checkF h = 0) (he : h.eqs = g.eqs) (hu : h.uses = g.uses) : Sz h := by
  have hg := (check_wf hc).1
  refine ⟨by rw [he]; exact hz.e, by rw [hu]; exact hz.u, ?_, fun l hl => ?_, by rw [he]; exact hz.s, by rw [hu]; exact hz.n⟩
  · have := hg.len; have := hg.se; omega
  · have := hg.sl l hl; omega
theorem rank_of {g : G} (h : checkF g = 0) : ∃ k, Gr g k ∧ rankF g = ((k : Int), 0) := by
  obtain ⟨k, hr⟩ := rt h
  exact ⟨k, hr.gr, hr.r⟩
theorem without_jn (g : G) (e u : Int) (i : Nat) (hi : i < g.joined.length) (v : Int) : v ∈ jn (withoutF g e u) i ↔ v ∈ jn g i ∧ ¬ ((i : Int) = e ∧ v = u) := by
  have h2 : i < (wojF e u 0 g.joined).length := by rw [wojF_len]; exact hi
  unfold jn
  rw [Int.toNat_natCast]
  show v ∈ (wojF e u 0 g.joined).getD i [] ↔ _
  rw [getD_lt _ _ _ h2, getD_lt _ _ _ hi, wojF_get e u g.joined 0 i hi h2, Nat.zero_add]
  unfold wolF
  rw [List.mem_filter]
  by_cases h3 : (i : Int) = e <;> by_cases h4 : v = u <;> simp [h3, h4]
theorem without_ck {g : G} (h : checkF g = 0) (e u : Int) : checkF (withoutF g e u) = 0 := by
  have hv := (check_wf h).2.1
  unfold validG at hv
  simp only [Bool.and_eq_true, decide_eq_true_eq] at hv
  refine check_of h rfl rfl (wojF_len ..) fun l hl => ?_
  obtain ⟨k, hk, rfl⟩ := List.getElem_of_mem hl
  have hk2 : k < (wojF e u 0 g.joined).length := hk
  have hk' : k < g.joined.length := by rw [wojF_len] at hk2; exact hk2
  have := wojF_get e u g.joined 0 k hk' hk2
  show listV g.uses.length none (wojF e u 0 g.joined)[k] = true
  rw [this]
  exact listV_filter _ _ _ none none ((listsV_iff _ _).1 hv.2 _ (List.getElem_mem hk')) (fun a h => by cases h)
/-- One pair less: as many pairs, or one fewer. -/
theorem without_nu {g : G} {k : Nat} (h : Rt g k) (i : Nat) (u : Int) : ∃ k' : Nat, Gr (withoutF g i u) k' ∧ rankF (withoutF g i u) = ((k' : Int), 0) ∧ k' ≤ k ∧ k ≤ k' + 1 := by
  obtain ⟨k', h1, h2⟩ := rank_of (without_ck h.c0 i u)
  have hJ : ∀ e v, Jz (withoutF g i u) e v ↔ Jz g e v ∧ ¬ (e = i ∧ (v : Int) = u) := fun e v => by
    rw [Jz_iff, Jz_iff]
    show e < g.eqs.length ∧ _ ↔ _
    constructor
    · rintro ⟨a, b⟩
      have := (without_jn g i u e (by rw [h.wf.len]; exact a) v).1 b
      exact ⟨⟨a, this.1⟩, fun q => this.2 ⟨by omega, q.2⟩⟩
    · rintro ⟨⟨a, b⟩, c⟩
      exact ⟨a, (without_jn g i u e (by rw [h.wf.len]; exact a) v).2 ⟨b, fun q => c ⟨by omega, q.2⟩⟩⟩
  refine ⟨k', h1, h2, h1.nu.mono h.gr.nu fun e v q => ((hJ e v).1 q).1, ?_⟩
  obtain ⟨X, Y, hc, hx⟩ := h1.nu.c
  have := h.gr.nu.ge (X := i :: X) (Y := Y) fun e v q => by
    by_cases he : e = i
    · exact .inl (by simp [he])
    · exact (hc e v ((hJ e v).2 ⟨q, fun z => he z.1⟩)).imp (fun z => by simp [z]) fun z => z
  simp only [List.length_cons] at this
  omega
/-- A matching that does not use the pair stays. -/
theorem without_keep {g : G} {k k' : Nat} (h : Rt g k) (i : Nat) (u : Int) (hk' : Gr (withoutF g i u) k') (hi : i < g.eqs.length) (hm : ∀ (q : i < (matchF g).length), (matchF g)[i] ≠ u) : k ≤ k' := by
  have hl := h.ml.len
  let p : List (Nat × Nat) := ((List.range (matchF g).length).filter fun e => decide (0 ≤ (matchF g).getD e (-1))).map fun e => (e, ((matchF g).getD e (-1)).toNat)
  have hp : ∀ x ∈ p, ∃ q : x.1 < (matchF g).length, 0 ≤ (matchF g)[x.1] ∧ (x.2 : Int) = (matchF g)[x.1] := fun x hx => by
    obtain ⟨e, he, rfl⟩ := List.mem_map.1 hx
    obtain ⟨h1, h2⟩ := List.mem_filter.1 he
    have h3 := List.mem_range.1 h1
    have h4 := of_decide_eq_true h2
    rw [getD_lt _ _ _ h3] at h4
    refine ⟨h3, h4, ?_⟩
    simp only
    rw [getD_lt _ _ _ h3]
    omega
  have hlen : p.length = nonneg (matchF g) := by
    have e : matchF g = (List.range (matchF g).length).map fun u => (matchF g).getD u (-1) := by
      refine List.ext_getElem (by simp) fun i h1 h2 => ?_
      simp [List.getElem?_eq_getElem h1]
    show (List.map _ _).length = _
    rw [List.length_map]
    unfold nonneg
    conv => rhs; rw [e]
    rw [List.countP_map, List.countP_eq_length_filter]
    rfl
  have hM : Mch (Jz (withoutF g i u)) p := by
    refine ⟨?_, ?_, fun x hx => ?_⟩
    · show (List.map Prod.fst (List.map _ _)).Nodup
      rw [List.map_map]
      have : (Prod.fst ∘ fun e : Nat => (e, ((matchF g).getD e (-1)).toNat)) = id := rfl
      rw [this, List.map_id]
      exact List.nodup_range.sublist (List.filter_sublist ..)
    · show (List.map Prod.snd (List.map _ _)).Nodup
      rw [List.map_map]
      refine nodup_map_on _ _ (List.nodup_range.sublist (List.filter_sublist ..)) fun a ha b hb e => ?_
      obtain ⟨a1, a2⟩ := List.mem_filter.1 ha
      obtain ⟨b1, b2⟩ := List.mem_filter.1 hb
      have a1 := List.mem_range.1 a1
      have b1 := List.mem_range.1 b1
      have a2 := of_decide_eq_true a2
      have b2 := of_decide_eq_true b2
      simp only [Function.comp] at e
      rw [getD_lt _ _ _ a1] at a2 e
      rw [getD_lt _ _ _ b1] at b2 e
      have e2 : (matchF g)[a] = (matchF g)[b] := by omega
      rcases Nat.lt_trichotomy a b with q | q | q
      · exact absurd e2 (h.ml.dist a b a1 b1 q a2)
      · exact q
      · exact absurd e2.symm (h.ml.dist b a b1 a1 q b2)
    · obtain ⟨q, h1, h2⟩ := hp x hx
      have hxe : x.1 < g.eqs.length := by omega
      have h3 := (h.ml.ok x.1 q).resolve_left (by omega)
      refine (Jz_iff ..).2 ⟨hxe, (without_jn g i u x.1 (by rw [h.wf.len]; exact hxe) x.2).2 ⟨by rw [h2]; exact h3.2.2, fun z => ?_⟩⟩
      have hz : x.1 = i := by omega
      subst hz
      exact hm q (by rw [← h2]; exact z.2)
  have := hk'.nu.le hM
  have hn := h.nn
  omega
theorem certG_mem (t : Nat → Int → Bool) : ∀ (l : List Int) (e : Nat) (x : Int × Int), x ∈ certG t e l ↔ ∃ j, ∃ h : j < l.length, x = (((e + j : Nat) : Int), l[j]) ∧ 0 ≤ l[j] ∧ t (e + j) l[j] = true
  | [], e, x => by simp [certG]
  | u :: r, e, x => by
    have ih := certG_mem t r (e + 1) x
    have key : (∃ j, ∃ h : j < (u :: r).length, x = (((e + j : Nat) : Int), (u :: r)[j]) ∧ 0 ≤ (u :: r)[j] ∧ t (e + j) (u :: r)[j] = true) ↔ (x = ((e : Int), u) ∧ 0 ≤ u ∧ t e u = true) ∨ ∃ j, ∃ h : j < r.length, x = (((e + 1 + j : Nat) : Int), r[j]) ∧ 0 ≤ r[j] ∧ t (e + 1 + j) r[j] = true := by
      constructor
      · rintro ⟨j, h, h1, h2, h3⟩
        cases j with
        | zero => exact .inl ⟨h1, h2, h3⟩
        | succ j =>
          have e1 : e + (j + 1) = e + 1 + j := by omega
          rw [e1] at h1 h3
          exact .inr ⟨j, by simpa using h, h1, h2, h3⟩
      · rintro (⟨h1, h2, h3⟩ | ⟨j, h, h1, h2, h3⟩)
        · exact ⟨0, by simp, h1, h2, h3⟩
        · have e1 : e + (j + 1) = e + 1 + j := by omega
          exact ⟨j + 1, by simpa using h, by rw [e1]; exact h1, h2, by rw [e1]; exact h3⟩
    rw [key, ← ih]
    have e1 : certG t e (u :: r) = (match decide (0 ≤ u) with | true => (match t e u with | true => ((e : Int), u) :: certG t (e + 1) r | false => certG t (e + 1) r) | false => certG t (e + 1) r) := rfl
    rw [e1]
    cases h1 : decide (0 ≤ u) with
    | false =>
      have := of_decide_eq_false h1
      simp [this]
    | true =>
      have h1' := of_decide_eq_true h1
      cases h2 : t e u with
      | false => simp
      | true => simp [h1']
theorem certG_inc (t : Nat → Int → Bool) : ∀ (l : List Int) (e : Nat), (∀ x ∈ certG t e l, (e : Int) ≤ x.1) ∧ ∀ i j (h : i < (certG t e l).length) (h' : j < (certG t e l).length), i < j → ((certG t e l)[i]).1 < ((certG t e l)[j]).1
  | [], e => ⟨fun x h => absurd h (by simp [certG]), fun i j h => absurd h (by simp [certG])⟩
  | u :: r, e => by
    obtain ⟨h1, h2⟩ := certG_inc t r (e + 1)
    have h1' : ∀ x ∈ certG t (e + 1) r, (e : Int) ≤ x.1 := fun x hx => by have := h1 x hx; omega
    have cs : certG t e (u :: r) = certG t (e + 1) r ∨ certG t e (u :: r) = ((e : Int), u) :: certG t (e + 1) r := by
      show (match decide (0 ≤ u) with | true => (match t e u with | true => ((e : Int), u) :: certG t (e + 1) r | false => certG t (e + 1) r) | false => certG t (e + 1) r) = _ ∨ _
      cases hd : decide (0 ≤ u) with
      | false => exact .inl rfl
      | true => cases ht : t e u with
        | false => exact .inl rfl
        | true => right; simp [certG, hd, ht]
    rcases cs with q | q
    · rw [q]; exact ⟨h1', h2⟩
    · rw [q]
      refine ⟨fun x hx => ?_, fun i j hi hj hij => ?_⟩
      · rcases List.mem_cons.1 hx with rfl | hx
        · exact Int.le_refl _
        · exact h1' x hx
      · cases j with
        | zero => omega
        | succ j => cases i with
          | zero =>
            have := h1 _ (List.getElem_mem (show j < (certG t (e + 1) r).length by simpa using hj))
            simp only [List.getElem_cons_zero, List.getElem_cons_succ]
            omega
          | succ i => exact h2 i j (by simpa using hi) (by simpa using hj) (by omega)
/-- What a statement sees of Certain. -/
theorem Rt.certain {g : G} {k : Nat} (h : Rt g k) : CertainF g = (certG (tF g) 0 (matchF g), 0) ∧
    (∀ (i : Nat) (u : Int), i < g.eqs.length → 0 ≤ u → ∃ k' : Nat, rankF (withoutF g i u) = ((k' : Int), 0) ∧ ((((i : Int), u) ∈ certG (tF g) 0 (matchF g)) ↔ k' < k) ∧ k ≤ k' + 1) ∧
    (∀ x ∈ certG (tF g) 0 (matchF g), ∃ e : Nat, x.1 = e ∧ e < g.eqs.length ∧ x.2 ∈ jn g e) := by
  refine ⟨by unfold CertainF; rw [decide_eq_true h.c0], fun i u hi hu => ?_, fun x hx => ?_⟩
  · obtain ⟨k', h1, h2, h3, h4⟩ := without_nu h i u
    refine ⟨k', h2, ?_, h4⟩
    have hlen := h.ml.len
    have hij : i < g.joined.length := by rw [h.wf.len]; exact hi
    have ht : tF g i u = decide (k' < k) := by
      unfold tF
      rw [cut_without g i u hij, greatest0_size, greatest0_size, h1.size, h.gr.size]
      exact decide_eq_decide.2 (by omega)
    rw [certG_mem]
    constructor
    · rintro ⟨j, hj, e1, _, e3⟩
      rw [Nat.zero_add] at e1 e3
      obtain ⟨q1, q2⟩ := Prod.mk.injEq .. ▸ e1
      have : i = j := by omega
      subst this
      rw [← q2, ht] at e3
      exact of_decide_eq_true e3
    · intro q
      have hm : (matchF g)[i]'(by omega) = u := Classical.byContradiction fun hne => by
        have := without_keep h i u h1 hi fun _ => hne
        omega
      exact ⟨i, by omega, by rw [Nat.zero_add, hm], by rw [hm]; exact hu, by rw [Nat.zero_add, hm, ht]; exact decide_eq_true q⟩
  · obtain ⟨j, hj, e1, e2, _⟩ := (certG_mem ..).1 hx
    have hlen := h.ml.len
    have h3 := (h.ml.ok j hj).resolve_left (by omega)
    subst e1
    exact ⟨j, by simp, by omega, h3.2.2⟩
/-! ### One pair more -/
def molF (U : Nat) (l : List Int) (b : Bool) (k : Nat) : List Int := ((List.range U).filter fun (x : Nat) => decide ((x : Int) ∈ l) || (b && decide (x = k))).map fun (x : Nat) => (x : Int)
def mojF (U i k : Nat) : Nat → List (List Int) → List (List Int)
  | _, [] => []
  | j, l :: r => molF U l (decide (j = i)) k :: mojF U i k (j + 1) r
def moreF (g : G) (i k : Nat) : G := ⟨g.eqs, g.uses, mojF g.uses.length i k 0 g.joined⟩
theorem mojF_len (U i k : Nat) : ∀ (l : List (List Int)) (j : Nat), (mojF U i k j l).length = l.length
  | [], j => rfl
  | x :: r, j => by simp [mojF, mojF_len U i k r (j + 1)]
theorem mojF_get (U i k : Nat) : ∀ (l : List (List Int)) (j n : Nat) (h : n < l.length) (h' : n < (mojF U i k j l).length), (mojF U i k j l)[n] = molF U l[n] (decide (j + n = i)) k
  | x :: r, j, 0, h, h' => rfl
  | x :: r, j, n + 1, h, h' => by
    simp only [mojF, List.getElem_cons_succ]
    have h2 : n < (mojF U i k (j + 1) r).length := by rw [mojF_len]; simpa using h
    have := mojF_get U i k r (j + 1) n (by simpa using h) h2
    rw [this, show j + 1 + n = j + (n + 1) by omega]
theorem range_listV (U : Nat) (f : Nat → Bool) : ∀ (m s : Nat) (p : Option Int), s + m ≤ U → (∀ a, p = some a → a < s) → listV U p (((List.range' s m).filter f).map fun (x : Nat) => (x : Int)) = true
  | 0, s, p, _, _ => by simp [listV]
  | m + 1, s, p, hs, hp => by
    rw [List.range'_succ]
    cases hf : f s with
    | false =>
      simp only [List.filter_cons, hf, Bool.false_eq_true, if_false]
      exact range_listV U f m (s + 1) p (by omega) fun a ha => by have := hp a ha; omega
    | true =>
      simp only [List.filter_cons, hf, if_true, List.map_cons]
      unfold listV
      rw [range_listV U f m (s + 1) (some (s : Int)) (by omega) (fun a ha => by cases ha; omega)]
      have : ltI p (s : Int) = true := by
        cases p with
        | none => rfl
        | some a => simp only [ltI, decide_eq_true_eq]; exact hp a rfl
      rw [this]
      simp; omega
theorem molF_mem (U : Nat) (l : List Int) (b : Bool) (k : Nat) (v : Int) (hv : ∀ x ∈ l, 0 ≤ x ∧ x < U) (hk : k < U) : v ∈ molF U l b k ↔ v ∈ l ∨ (b = true ∧ v = k) := by
  unfold molF
  simp only [List.mem_map, List.mem_filter, List.mem_range, Bool.or_eq_true, decide_eq_true_eq, Bool.and_eq_true]
  constructor
  · rintro ⟨x, ⟨h1, h2⟩, rfl⟩
    rcases h2 with h2 | ⟨h2, h3⟩
    · exact .inl h2
    · exact .inr ⟨h2, by omega⟩
  · rintro (h | ⟨h1, h2⟩)
    · have := hv v h
      exact ⟨v.toNat, ⟨by omega, .inl (by rw [show ((v.toNat : Nat) : Int) = v by omega]; exact h)⟩, by omega⟩
    · exact ⟨k, ⟨hk, .inr ⟨h1, rfl⟩⟩, h2.symm⟩
theorem more_ck {g : G} (h : checkF g = 0) (i k : Nat) : checkF (moreF g i k) = 0 := by
  refine check_of h rfl rfl (mojF_len ..) fun l hl => ?_
  obtain ⟨n, hn, rfl⟩ := List.getElem_of_mem hl
  have hn2 : n < (mojF g.uses.length i k 0 g.joined).length := hn
  have hn' : n < g.joined.length := by rw [mojF_len] at hn2; exact hn2
  show listV g.uses.length none (mojF g.uses.length i k 0 g.joined)[n] = true
  rw [mojF_get _ _ _ _ _ n hn' hn2]
  unfold molF
  rw [List.range_eq_range']
  exact range_listV _ _ _ 0 none (by omega) (fun a ha => by cases ha)
theorem more_nu {g : G} {r : Nat} (h : Rt g r) (i k : Nat) (hi : i < g.eqs.length) (hk : k < g.uses.length) : ∃ r' : Nat, rankF (moreF g i k) = ((r' : Int), 0) ∧ r ≤ r' ∧ r' ≤ r + 1 := by
  obtain ⟨r', h1, h2⟩ := rank_of (more_ck h.c0 i k)
  have hJ : ∀ e v, Jz (moreF g i k) e v ↔ Jz g e v ∨ (e = i ∧ v = k) := fun e v => by
    rw [Jz_iff, Jz_iff]
    show e < g.eqs.length ∧ _ ↔ _
    by_cases he : e < g.eqs.length
    · have hej : e < g.joined.length := by rw [h.wf.len]; exact he
      have h2 : e < (mojF g.uses.length i k 0 g.joined).length := by rw [mojF_len]; exact hej
      have hm : (v : Int) ∈ jn (moreF g i k) e ↔ (v : Int) ∈ jn g e ∨ (e = i ∧ v = k) := by
        unfold jn
        rw [Int.toNat_natCast]
        show (v : Int) ∈ (mojF g.uses.length i k 0 g.joined).getD e [] ↔ _
        rw [getD_lt _ _ _ h2, getD_lt _ _ _ hej, mojF_get _ _ _ _ _ e hej h2, molF_mem _ _ _ _ _ (h.wf.in_ _ (List.getElem_mem hej)) hk, Nat.zero_add]
        simp only [decide_eq_true_eq]
        constructor
        · exact fun q => q.imp (fun q => q) fun q => ⟨q.1, by omega⟩
        · exact fun q => q.imp (fun q => q) fun q => ⟨q.1, by omega⟩
      rw [hm]
      simp [he]
    · have : ¬ e = i := by omega
      simp [he, this]
  refine ⟨r', h2, h.gr.nu.mono h1.nu fun e v q => (hJ e v).2 (.inl q), ?_⟩
  obtain ⟨X, Y, hc, hx⟩ := h.gr.nu.c
  have := h1.nu.ge (X := i :: X) (Y := Y) fun e v q => by
    rcases (hJ e v).1 q with q | ⟨q, _⟩
    · exact (hc e v q).imp (fun z => by simp [z]) fun z => z
    · exact .inl (by simp [q])
  simp only [List.length_cons] at this
  omega
end Go.Proofs.Ytgeeklnokblokaa
namespace Go.Proofs.Ytgeeklnokblokaa
open Go Go.Fw
def Js (g : G) (s : List Bool) : Rel2 := fun e u => e < g.eqs.length ∧ s.getD e false = true ∧ (u : Int) ∈ jn g e
theorem T_nu {g : G} (hg : WF g) {s : List Bool} (hs : s.length = g.eqs.length) : ∃ k, Nu (Js g s) k ∧ (onlyT g s = true ↔ k = cntT s) := by
  obtain ⟨k, h1, h2⟩ := size_nu g hg (restF s s) (fu g) (by simp [fu])
  refine ⟨k, h1.iff fun e u => ?_, ?_⟩
  · unfold Jg Js
    have e3 : (fu g).getD u false = false := getD_rep' _ _ _
    rw [e3, restF_getD]
    by_cases he : e < g.eqs.length
    · have : e < s.length := by omega
      simp only [this, decide_true, Bool.true_and, he, true_and]
      cases s.getD e false <;> simp
    · simp [he]
  · rw [only_given g hg s hs]
    unfold givenF
    rw [decide_eq_true_eq, h2]
    omega
def setOf (s : List Bool) : List Nat := (List.range s.length).filter fun i => s.getD i false
theorem setOf_nodup (s : List Bool) : (setOf s).Nodup := List.nodup_range.sublist (List.filter_sublist ..)
theorem setOf_mem (s : List Bool) (i : Nat) : i ∈ setOf s ↔ s.getD i false = true := by
  unfold setOf
  rw [List.mem_filter, List.mem_range]
  exact ⟨fun h => h.2, fun h => ⟨getD_ge h, h⟩⟩
theorem setOf_len (s : List Bool) : (setOf s).length = cntT s := (cntT_range s).symm
theorem Js_le {g : G} {s : List Bool} {p : List (Nat × Nat)} (hp : Mch (Js g s) p) : p.length ≤ cntT s := by
  have := sub_len (p.map Prod.fst) (setOf s) hp.l fun x hx => by
    obtain ⟨y, hy, rfl⟩ := List.mem_map.1 hx
    exact (setOf_mem ..).2 (hp.j y hy).2.1
  rw [List.length_map, setOf_len] at this
  exact this
/-- All equations of a set have uses exactly if the set's number is found. -/
theorem T_iff {g : G} (hg : WF g) {s : List Bool} (hs : s.length = g.eqs.length) : onlyT g s = true ↔ ∃ p, Mch (Js g s) p ∧ p.length = cntT s := by
  obtain ⟨k, h1, h2⟩ := T_nu hg hs
  rw [h2]
  constructor
  · rintro rfl; exact h1.p
  · rintro ⟨p, hp, hl⟩
    obtain ⟨q, hq, rfl⟩ := h1.p
    have a := Js_le hq
    have b := h1.le hp
    omega
theorem T_mono {g : G} (hg : WF g) {s s' : List Bool} (hs : s.length = g.eqs.length) (hs' : s'.length = g.eqs.length) (h : ∀ i, s'.getD i false = true → s.getD i false = true) (ht : onlyT g s = true) : onlyT g s' = true := by
  obtain ⟨p, hp, hl⟩ := (T_iff hg hs).1 ht
  refine (T_iff hg hs').2 ⟨p.filter fun x => s'.getD x.1 false, ⟨(hp.filter _).l, (hp.filter _).r, fun x hx => ?_⟩, ?_⟩
  · obtain ⟨h1, h2⟩ := List.mem_filter.1 hx
    have := hp.j x h1
    exact ⟨this.1, h2, this.2.2⟩
  · have hall := sub_all (p.map Prod.fst) (setOf s) hp.l (fun x hx => by
      obtain ⟨y, hy, rfl⟩ := List.mem_map.1 hx
      exact (setOf_mem ..).2 (hp.j y hy).2.1) (by rw [setOf_len, List.length_map, hl]; exact Nat.le_refl _)
    have h1 : cntT s' = ((p.filter fun x => s'.getD x.1 false).map Prod.fst).length := cntT_list (hp.filter _).l fun i => by
      constructor
      · intro q
        obtain ⟨y, hy, rfl⟩ := List.mem_map.1 q
        exact (List.mem_filter.1 hy).2
      · intro q
        obtain ⟨y, hy, rfl⟩ := List.mem_map.1 (hall i ((setOf_mem ..).2 (h i q)))
        exact List.mem_map.2 ⟨y, List.mem_filter.2 ⟨hy, q⟩, rfl⟩
    rw [h1, List.length_map]
theorem set_sub {s s' : List Bool} (h : ∀ i, s'.getD i false = true → s.getD i false = true) (j : Nat) : ∀ i, (s'.set j false).getD i false = true → (s.set j false).getD i false = true := by
  intro i q
  rw [getD_setL] at q ⊢
  by_cases e : j = i
  · split
    · rename_i h1
      by_cases h2 : j < s'.length
      · rw [if_pos ⟨e, h2⟩] at q; cases q
      · rw [if_neg (fun h => h2 h.2)] at q
        exact absurd (getD_ge q) (by omega)
    · rename_i h1
      by_cases h2 : j < s'.length
      · rw [if_pos ⟨e, h2⟩] at q; cases q
      · rw [if_neg (fun h => h2 h.2)] at q
        exact absurd (getD_ge q) (by omega)
  · rw [if_neg (fun h => e h.1)] at q ⊢
    exact h i q
theorem culL_sp {g : G} (hg : WF g) : ∀ (n : Nat) (s : List Bool), s.length = g.eqs.length → onlyT g s = false → (∀ i, n ≤ i → s.getD i false = true → onlyT g (s.set i false) = true) →
    (culL (onlyT g) n s).length = g.eqs.length ∧ (∀ i, (culL (onlyT g) n s).getD i false = true → s.getD i false = true) ∧ onlyT g (culL (onlyT g) n s) = false ∧ (∀ i, (culL (onlyT g) n s).getD i false = true → onlyT g ((culL (onlyT g) n s).set i false) = true)
  | 0, s, hs, ht, hi => ⟨hs, fun _ h => h, ht, fun i h => hi i (Nat.zero_le _) h⟩
  | n + 1, s, hs, ht, hi => by
    unfold culL
    cases hb : s.getD n false with
    | false =>
      refine culL_sp hg n s hs ht fun i h q => ?_
      by_cases e : i = n
      · subst e; rw [hb] at q; cases q
      · exact hi i (by omega) q
    | true =>
      simp only
      cases hT : onlyT g (s.set n false) with
      | true =>
        refine culL_sp hg n s hs ht fun i h q => ?_
        by_cases e : i = n
        · subst e; exact hT
        · exact hi i (by omega) q
      | false =>
        simp only
        have hsub : ∀ i, (s.set n false).getD i false = true → s.getD i false = true := fun i q => by
          rw [getD_setL] at q
          split at q
          · cases q
          · exact q
        obtain ⟨a, b, c, d⟩ := culL_sp hg n (s.set n false) (by simpa using hs) hT fun i h q => by
          have hne : i ≠ n := fun e => by
            subst e
            rw [getD_setL, if_pos ⟨rfl, getD_ge hb⟩] at q
            cases q
          exact T_mono hg (by simpa using hs) (by simpa using hs) (set_sub hsub i) (hi i (by omega) (hsub i q))
        exact ⟨a, fun i q => hsub i (b i q), c, d⟩
/-- The least set has one use fewer than equations. -/
theorem least_count {g : G} (hg : WF g) {c : List Bool} (hc : c.length = g.eqs.length) (h0 : onlyT g c = false) (h1 : ∀ i, c.getD i false = true → onlyT g (c.set i false) = true) : cntT (joinedF g c) + 1 = cntT c := by
  obtain ⟨k, hn, hk⟩ := T_nu hg hc
  have hne : k ≠ cntT c := fun q => by rw [hk.2 q] at h0; cases h0
  have hle : k ≤ cntT c := by
    obtain ⟨p, hp, rfl⟩ := hn.p
    exact Js_le hp
  obtain ⟨X, Y, hcov, hxy⟩ := hn.c
  have hcut : ∀ i, i < g.eqs.length → c.getD i false = true → cntT (c.set i false) + 1 = cntT c := fun i hi hci => by
    have e1 := cntT_list (l := c) (X := i :: setOf (c.set i false)) (List.nodup_cons.2 ⟨fun q => by
      have := (setOf_mem ..).1 q
      rw [getD_setL, if_pos ⟨rfl, by omega⟩] at this
      exact absurd this (by simp), setOf_nodup _⟩) fun j => by
        rw [List.mem_cons, setOf_mem, getD_setL]
        by_cases e : i = j
        · subst e; exact ⟨fun _ => hci, fun _ => .inl rfl⟩
        · rw [if_neg (fun h => e h.1)]
          constructor
          · rintro (q | q)
            · exact absurd q.symm e
            · exact q
          · exact .inr
    rw [e1, List.length_cons, setOf_len]
  have hS : ∀ i, c.getD i false = true → i ∉ X := fun i hci hiX => by
    have hil : i < g.eqs.length := by rw [← hc]; exact getD_ge hci
    obtain ⟨p, hp, hpl⟩ := (T_iff hg (by simpa using hc)).1 (h1 i hci)
    -- the pairs of equations outside X have their uses in Y; those inside are no more than X without i
    have hsp := filter_split (fun x : Nat × Nat => X.contains x.1) p
    have a1 := sub_len (i :: (p.filter fun x => X.contains x.1).map Prod.fst) X (List.nodup_cons.2 ⟨fun q => by
      obtain ⟨y, hy, e⟩ := List.mem_map.1 q
      have := (hp.j y (List.mem_filter.1 hy).1).2.1
      rw [e, getD_setL, if_pos ⟨rfl, by omega⟩] at this
      exact absurd this (by simp), (hp.filter _).l⟩) fun x hx => by
        rcases List.mem_cons.1 hx with rfl | hx
        · exact hiX
        · obtain ⟨y, hy, rfl⟩ := List.mem_map.1 hx
          simpa using (List.mem_filter.1 hy).2
    have a2 := sub_len ((p.filter fun x => !X.contains x.1).map Prod.snd) Y (hp.filter _).r fun x hx => by
      obtain ⟨y, hy, rfl⟩ := List.mem_map.1 hx
      obtain ⟨b1, b2⟩ := List.mem_filter.1 hy
      have b3 := hp.j y b1
      have b4 : c.getD y.1 false = true := by
        have := b3.2.1
        rw [getD_setL] at this
        split at this
        · cases this
        · exact this
      have b5 : y.1 ∉ X := by simpa using b2
      exact (hcov y.1 y.2 ⟨b3.1, b4, b3.2.2⟩).resolve_left b5
    simp only [List.length_cons, List.length_map] at a1 a2
    have := hcut i hil hci
    omega
  have hNY : cntT (joinedF g c) ≤ Y.length := by
    rw [← setOf_len]
    refine sub_len _ _ (setOf_nodup _) fun u hu => ?_
    obtain ⟨e, a, b, d⟩ := (joinedF_get hg c hc u).1 ((setOf_mem ..).1 hu)
    exact (hcov e u ⟨a, b, d⟩).resolve_left (hS e b)
  have hpos : 0 < cntT c := by omega
  obtain ⟨i, hi⟩ : ∃ i, i ∈ setOf c := by
    cases hh : setOf c with
    | nil => rw [← setOf_len, hh] at hpos; simp at hpos
    | cons a r => exact ⟨a, by simp⟩
  have hci := (setOf_mem ..).1 hi
  have hil : i < g.eqs.length := by rw [← hc]; exact getD_ge hci
  obtain ⟨p, hp, hpl⟩ := (T_iff hg (by simpa using hc)).1 (h1 i hci)
  have hge := sub_len (p.map Prod.snd) (setOf (joinedF g c)) hp.r fun u hu => by
    obtain ⟨y, hy, rfl⟩ := List.mem_map.1 hu
    have b3 := hp.j y hy
    refine (setOf_mem ..).2 ((joinedF_get hg c hc y.2).2 ⟨y.1, b3.1, ?_, b3.2.2⟩)
    have := b3.2.1
    rw [getD_setL] at this
    split at this
    · cases this
    · exact this
  rw [List.length_map, setOf_len, hpl] at hge
  have := hcut i hil hci
  omega
/-! ### The graph of some of the equations -/
def someF (g : G) (s : List Bool) : G := ⟨pick s g.eqs, g.uses, pick s g.joined⟩
theorem pick_get {α : Type} : ∀ (bs : List Bool) (xs : List α), bs.length = xs.length → ∀ (e : Nat) (h : e < xs.length), bs.getD e false = true → ∃ h' : cntT (bs.take e) < (pick bs xs).length, (pick bs xs)[cntT (bs.take e)] = xs[e]
  | [], [], _, e, h, _ => absurd h (by simp)
  | b :: bs, x :: xs, hl, e, h, hb => by
    rw [pick_cons]
    cases e with
    | zero =>
      have : b = true := hb
      subst this
      exact ⟨by simp [cntT], by simp [cntT]⟩
    | succ e =>
      obtain ⟨h1, h2⟩ := pick_get bs xs (by simpa using hl) e (by simpa using h) (by simpa using hb)
      rw [List.take_succ_cons, cntT_cons]
      cases b with
      | true =>
        simp only [if_true, List.cons_append, List.nil_append]
        exact ⟨by simp only [List.length_cons]; omega, by simpa using h2⟩
      | false => exact ⟨by simpa using h1, by simpa using h2⟩
theorem cntT_take_lt : ∀ (l : List Bool) (i j : Nat), i < j → l.getD i false = true → cntT (l.take i) < cntT (l.take j)
  | [], i, j, _, h => by simp at h
  | b :: l, 0, j + 1, _, h => by
    have : b = true := h
    subst this
    simp [cntT]
  | b :: l, i + 1, j + 1, hij, h => by
    have := cntT_take_lt l i j (by omega) (by simpa using h)
    rw [List.take_succ_cons, List.take_succ_cons, cntT_cons, cntT_cons]
    omega
  | b :: l, i, 0, hij, _ => absurd hij (by omega)
theorem eqsV_pick : ∀ (l : List ByteArray) (bs : List Bool) (p q : Option ByteArray), bs.length = l.length → eqsV p l = true → (∀ s, ltE p s = true → ltE q s = true) → eqsV q (pick bs l) = true
  | [], [], p, q, _, _, _ => rfl
  | s :: r, b :: bs, p, q, hl, h, hpq => by
    unfold eqsV at h
    simp only [Bool.and_eq_true] at h
    obtain ⟨⟨h0, h1⟩, h2⟩ := h
    rw [pick_cons]
    have hq := hpq s h1
    cases b with
    | true =>
      simp only [if_true, List.cons_append, List.nil_append]
      unfold eqsV
      rw [h0, hq, eqsV_pick r bs (some s) (some s) (by simpa using hl) h2 fun _ h => h]
      rfl
    | false =>
      simp only [Bool.false_eq_true, if_false, List.nil_append]
      refine eqsV_pick r bs (some s) q (by simpa using hl) h2 fun x hx => ?_
      cases q with
      | none => rfl
      | some a => exact bl_trans _ _ _ hq hx
theorem some_ck {g : G} (h : checkF g = 0) (s : List Bool) (hs : s.length = g.eqs.length) : checkF (someF g s) = 0 := by
  obtain ⟨hg, hv, h1, h2⟩ := check_wf h
  unfold validG at hv
  simp only [Bool.and_eq_true, decide_eq_true_eq] at hv
  have l1 : (someF g s).eqs.length = cntT s := pick_len s g.eqs hs
  have l2 : (someF g s).joined.length = cntT s := pick_len s g.joined (by rw [hg.len]; exact hs)
  have hvh : validG (someF g s) = true := by
    unfold validG
    simp only [Bool.and_eq_true, decide_eq_true_eq]
    exact ⟨⟨⟨by rw [l1, l2], eqsV_pick g.eqs s none none hs hv.1.1.2 fun _ h => h⟩, hv.1.2⟩, (listsV_iff _ _).2 fun l hl => (listsV_iff _ _).1 hv.2 l (pick_sub _ _ l hl)⟩
  have h3 : cntT s ≤ g.eqs.length := by
    have := List.countP_le_length (p := id) (l := s)
    unfold cntT; omega
  unfold checkF
  rw [hvh]
  simp only
  have h4 : (someF g s).uses.length = g.uses.length := rfl
  rw [decide_eq_false (by rw [l1, h4]; omega)]
theorem some_sz {g : G} (hz : Sz g) (h : checkF g = 0) (s : List Bool) (hs : s.length = g.eqs.length) : Sz (someF g s) := by
  have hg := (check_wf (some_ck h s hs)).1
  refine ⟨?_, hz.u, ?_, fun l hl => ?_, fun x hx => hz.s x (pick_sub _ _ x hx), hz.n⟩
  · have := hg.se; omega
  · have := hg.len; have := hg.se; omega
  · have := hg.sl l hl; omega
/-- All of a set that can be given uses: the graph of it has as many pairs as equations. -/
theorem some_rank {g : G} (h : checkF g = 0) (s : List Bool) (hs : s.length = g.eqs.length) : ∃ r : Nat, rankF (someF g s) = ((r : Int), 0) ∧ (onlyT g s = true → r = cntT s) := by
  obtain ⟨r, h1, h2⟩ := rank_of (some_ck h s hs)
  have hg := (check_wf h).1
  have hg2 := (check_wf (some_ck h s hs)).1
  refine ⟨r, h2, fun ht => ?_⟩
  have l1 : (someF g s).eqs.length = cntT s := pick_len s g.eqs hs
  have hle := (lt_len hg2 h1).1
  rw [l1] at hle
  obtain ⟨p, hp, hpl⟩ := (T_iff hg hs).1 ht
  refine Nat.le_antisymm hle ?_
  rw [← hpl]
  have hM : Mch (Jz (someF g s)) (p.map fun x => (cntT (s.take x.1), x.2)) := by
    refine ⟨?_, ?_, fun x hx => ?_⟩
    · rw [List.map_map]
      have : (Prod.fst ∘ fun x : Nat × Nat => (cntT (s.take x.1), x.2)) = (fun e => cntT (s.take e)) ∘ Prod.fst := rfl
      rw [this, ← List.map_map]
      refine nodup_map_on _ _ hp.l fun a ha b hb e => ?_
      obtain ⟨x, hx, rfl⟩ := List.mem_map.1 ha
      obtain ⟨y, hy, rfl⟩ := List.mem_map.1 hb
      have hx2 := (hp.j x hx).2.1
      have hy2 := (hp.j y hy).2.1
      rcases Nat.lt_trichotomy x.1 y.1 with q | q | q
      · have := cntT_take_lt s _ _ q hx2; omega
      · exact q
      · have := cntT_take_lt s _ _ q hy2; omega
    · rw [List.map_map]
      exact hp.r
    · obtain ⟨y, hy, rfl⟩ := List.mem_map.1 hx
      obtain ⟨b1, b2, b3⟩ := hp.j y hy
      obtain ⟨c1, _⟩ := pick_get s g.eqs hs y.1 b1 b2
      have hej : y.1 < g.joined.length := by rw [hg.len]; exact b1
      obtain ⟨d1, d2⟩ := pick_get s g.joined (by rw [hg.len]; exact hs) y.1 hej b2
      refine (Jz_iff ..).2 ⟨c1, ?_⟩
      unfold jn
      rw [Int.toNat_natCast]
      show (y.2 : Int) ∈ (pick s g.joined).getD _ []
      rw [getD_lt _ _ _ d1, d2]
      unfold jn at b3
      rwa [Int.toNat_natCast, getD_lt _ _ _ hej] at b3
  have := h1.nu.le hM
  rwa [List.length_map] at this
/-- What a statement sees of Culprit. -/
structure Cu (g : G) (c : List Bool) : Prop where
  len : c.length = g.eqs.length
  cut : ∀ i, c.getD i false = true → onlyT g (c.set i false) = true
  cnt : cntT (joinedF g c) + 1 = cntT c
theorem Rt.cul {g : G} {k : Nat} (h : Rt g k) : (culF g = (noP, 5) ∧ k = g.eqs.length) ∨ (k ≠ g.eqs.length ∧ ∃ c, culF g = (partF g c (joinedF g c), 0) ∧ Cu g c) := by
  have l1 := halvesF_len1 g
  have th := h.three
  have k1 := h.pa.le1
  unfold culF culG
  rw [decide_eq_true h.c0]
  simp only
  by_cases hz : cntT (halvesF g).1 = 0
  · rw [decide_eq_true (by omega)]
    refine .inl ⟨rfl, ?_⟩
    have := th.o
    have := th.o0
    omega
  · rw [decide_eq_false (by omega)]
    have hne : k ≠ g.eqs.length := by
      have := th.o
      have := th.o0
      omega
    refine .inr ⟨hne, ?_⟩
    have hT : onlyT g (halvesF g).1 = false := by
      cases hb : onlyT g (halvesF g).1 with
      | false => rfl
      | true =>
        obtain ⟨p, hp, hpl⟩ := (T_iff h.wf l1).1 hb
        have := sub_len (p.map Prod.snd) (setOf (joinedF g (halvesF g).1)) hp.r fun u hu => by
          obtain ⟨y, hy, rfl⟩ := List.mem_map.1 hu
          have b := hp.j y hy
          exact (setOf_mem ..).2 ((joinedF_get h.wf _ l1 y.2).2 ⟨y.1, b.1, b.2.1, b.2.2⟩)
        rw [List.length_map, setOf_len, hpl] at this
        have := th.o0
        omega
    obtain ⟨a, b, c, d⟩ := culL_sp h.wf (halvesF g).1.length (halvesF g).1 l1 hT fun i hi q => absurd (getD_ge q) (by omega)
    exact ⟨_, rfl, a, d, least_count h.wf a c d⟩
end Go.Proofs.Ytgeeklnokblokaa
namespace Go.Proofs.Ytgeeklnokblokaa
open Go Go.Fw
theorem pick_inv {α : Type} : ∀ (bs : List Bool) (xs : List α) (x : α), x ∈ pick bs xs → ∃ j, ∃ h : j < xs.length, bs.getD j false = true ∧ xs[j] = x
  | [], xs, x, h => by simp [pick] at h
  | b :: bs, [], x, h => by simp [pick] at h
  | b :: bs, y :: xs, x, h => by
    rw [pick_cons] at h
    rcases List.mem_append.1 h with h | h
    · cases b with
      | true =>
        have h2 : x = y := by simpa using h
        exact ⟨0, by simp, rfl, h2.symm⟩
      | false => simp at h
    · obtain ⟨j, h1, h2, h3⟩ := pick_inv bs xs x h
      exact ⟨j + 1, by simpa using h1, by simpa using h2, by simpa using h3⟩
theorem pick_snoc {α : Type} : ∀ (bs : List Bool) (xs : List α) (i : Nat) (h : i < xs.length), bs.length = xs.length → pick (bs.take (i + 1)) (xs.take (i + 1)) = pick (bs.take i) (xs.take i) ++ (if bs.getD i false then [xs[i]] else [])
  | [], [], i, h, _ => absurd h (by simp)
  | b :: bs, x :: xs, 0, _, _ => by
    simp only [List.take_succ_cons, List.take_zero, pick_cons, List.getD_cons_zero, List.getElem_cons_zero]
    simp [pick]
  | b :: bs, x :: xs, i + 1, h, hl => by
    have := pick_snoc bs xs i (by simpa using h) (by simpa using hl)
    rw [List.take_succ_cons, List.take_succ_cons, pick_cons, this, List.take_succ_cons, List.take_succ_cons, pick_cons, List.append_assoc]
    simp
theorem cntT_snoc (l : List Bool) (i : Nat) (h : i < l.length) : cntT (l.take (i + 1)) = cntT (l.take i) + (if l.getD i false then 1 else 0) := by
  rw [List.take_succ_eq_append_getElem h]
  unfold cntT
  rw [List.countP_append, getD_lt _ _ _ h]
  cases l[i] <;> simp
/-- The equations of one round: all of c, or all but the b'th. -/
structure It (g : G) (c : List Bool) (b : Nat) (s : List Bool) : Prop where
  len : s.length = g.eqs.length
  sub : ∀ i, s.getD i false = true → c.getD i false = true
  b0 : b = 0 → s = c
  bT : 0 < b → onlyT g s = true
  inc0 : b = 0 → ∀ i, s.getD i false = c.getD i false
  inc : ∀ (h : b - 1 < (pick c g.eqs).length), 0 < b → ∀ i (hi : i < g.eqs.length), s.getD i false = (c.getD i false && !decide (g.eqs[i] = (pick c g.eqs)[b - 1]))
theorem it_of {g : G} (hck : checkF g = 0) {c : List Bool} (hc : Cu g c) (b : Nat) (hb : b - 1 < (pick c g.eqs).length) : ∃ s, It g c b s := by
  rcases Nat.eq_zero_or_pos b with h | h
  · subst h
    exact ⟨c, hc.len, fun _ h => h, fun _ => rfl, fun h => absurd h (by omega), fun _ _ => rfl, fun _ h => absurd h (by omega)⟩
  · obtain ⟨j, h1, h2, h3⟩ := pick_inv c g.eqs _ (List.getElem_mem hb)
    have hnd := (nodup_of hck).1
    have get : ∀ i, (c.set j false).getD i false = (c.getD i false && !decide (i = j)) := fun i => by
      rw [getD_setL]
      by_cases e : j = i
      · subst e
        rw [if_pos ⟨rfl, getD_ge h2⟩]; simp
      · rw [if_neg (fun h => e h.1)]
        have : ¬ i = j := fun q => e q.symm
        simp [this]
    refine ⟨c.set j false, by simpa using hc.len, fun i q => ?_, fun h => absurd h (by omega), fun _ => hc.cut j h2, fun h => absurd h (by omega), fun _ _ i hi => ?_⟩
    · rw [get] at q
      simp only [Bool.and_eq_true] at q
      exact q.1
    · rw [get]
      congr 2
      rw [← h3]
      refine decide_eq_decide.2 ⟨fun q => by subst q; rfl, fun q => (List.getElem_inj hnd).1 q⟩
set_option maxHeartbeats 8000000 in
set_option maxRecDepth 100000 in
theorem MatchLeast_ok (g : G) (hz : Sz g) : PureCall Try.prog 5 [encG g] (encB true) := by
  refine pure_cp (E := E 0) T_ok (D_ok 0) [] Try.func5 rfl (by rfl) (Nat.le_of_ble_eq_true rfl) ?_
  ((conv => whnf); repeat ((first | refine Sw.o ?_ | refine B0 ?_); conv => whnf))
  (repeat ((first | refine N0 ?_ | refine A0 fun γ => ?_ | refine C1 ?_ | refine C2 ?_ | refine C3 ?_ | refine C4 ?_ | refine C5 ?_ | refine C6 ?_ | refine C7 ?_ | refine D0 fun γs => ?_ | refine A1 fun γs => ?_ | refine N2 ?_ | refine N3 ?_ | refine N1 ?_); ((conv => whnf); repeat ((first | refine Sw.o ?_ | refine B0 ?_); conv => whnf))))
  refine CallP.flat [] _ c20 (right_ok g hz) rfl ?_
  ((conv => whnf); repeat ((first | refine Sw.o ?_ | refine B0 ?_); conv => whnf))
  (repeat ((first | refine N0 ?_ | refine A0 fun γ => ?_ | refine C1 ?_ | refine C2 ?_ | refine C3 ?_ | refine C4 ?_ | refine C5 ?_ | refine C6 ?_ | refine C7 ?_ | refine D0 fun γs => ?_ | refine A1 fun γs => ?_ | refine N2 ?_ | refine N3 ?_ | refine N1 ?_); ((conv => whnf); repeat ((first | refine Sw.o ?_ | refine B0 ?_); conv => whnf))))
  refine CondP.dec (fun h => ?_) (fun h => ?_) <;> ((conv => whnf); repeat ((first | refine Sw.o ?_ | refine B0 ?_); conv => whnf))
  · (repeat ((first | refine N0 ?_ | refine A0 fun γ => ?_ | refine C1 ?_ | refine C2 ?_ | refine C3 ?_ | refine C4 ?_ | refine C5 ?_ | refine C6 ?_ | refine C7 ?_ | refine D0 fun γs => ?_ | refine A1 fun γs => ?_ | refine N2 ?_ | refine N3 ?_ | refine N1 ?_); ((conv => whnf); repeat ((first | refine Sw.o ?_ | refine B0 ?_); conv => whnf))))
    obtain ⟨k, hr⟩ := rt h.1
    have hg := hr.wf
    have hck := hr.c0
    have su := hg.su
    have se := hg.se
    have hjl := hg.len
    have k1 := hr.pa.le1
    refine CallP.pure [] _ c27 (culprit27_ok g hz (halv g)) ?_
    have hcul := hr.cul
    generalize culF g = D at hcul ⊢
    rcases hcul with ⟨hq, hkn⟩ | ⟨hkn, c, hq, hc⟩
    · have q1 : D.2 = 5 := by rw [hq]
      have q2 : ¬ D.2 = 0 := by omega
      ((conv => whnf); repeat ((first | refine Sw.o ?_ | refine B0 ?_); conv => whnf))
      (repeat ((first | refine N0 ?_ | refine A0 fun γ => ?_ | refine C1 ?_ | refine C2 ?_ | refine C3 ?_ | refine C4 ?_ | refine C5 ?_ | refine C6 ?_ | refine C7 ?_ | refine D0 fun γs => ?_ | refine A1 fun γs => ?_ | refine N2 ?_ | refine N3 ?_ | refine N1 ?_); ((conv => whnf); repeat ((first | refine Sw.o ?_ | refine B0 ?_); conv => whnf))))
      refine CallP.pure [] _ c14 (rank14_ok g hz) ?_
      rw [hr.r]
      ((conv => whnf); repeat ((first | refine Sw.o ?_ | refine B0 ?_); conv => whnf))
      have e1 : (k : Int) = ((g.eqs.map encS).length : Int) := by simp [hkn]
      (repeat ((first | refine N0 ?_ | refine A0 fun γ => ?_ | refine C1 ?_ | refine C2 ?_ | refine C3 ?_ | refine C4 ?_ | refine C5 ?_ | refine C6 ?_ | refine C7 ?_ | refine D0 fun γs => ?_ | refine A1 fun γs => ?_ | refine N2 ?_ | refine N3 ?_ | refine N1 ?_); ((conv => whnf); repeat ((first | refine Sw.o ?_ | refine B0 ?_); conv => whnf))))
      refine CallP.flat [] _ c11 awake11_ok rfl ?_
      ((conv => whnf); repeat ((first | refine Sw.o ?_ | refine B0 ?_); conv => whnf))
      (repeat ((first | refine N0 ?_ | refine A0 fun γ => ?_ | refine C1 ?_ | refine C2 ?_ | refine C3 ?_ | refine C4 ?_ | refine C5 ?_ | refine C6 ?_ | refine C7 ?_ | refine D0 fun γs => ?_ | refine A1 fun γs => ?_ | refine N2 ?_ | refine N3 ?_ | refine N1 ?_); ((conv => whnf); repeat ((first | refine Sw.o ?_ | refine B0 ?_); conv => whnf))))
      exact .of rfl
    · have q1 : D.2 = 0 := by rw [hq]
      have q2 : D.1.eqs = pick c g.eqs := by rw [hq]; rfl
      have q3 : D.1.uses = pick (joinedF g c) g.uses := by rw [hq]; rfl
      clear hq
      ((conv => whnf); repeat ((first | refine Sw.o ?_ | refine B0 ?_); conv => whnf))
      (repeat ((first | refine N0 ?_ | refine A0 fun γ => ?_ | refine C1 ?_ | refine C2 ?_ | refine C3 ?_ | refine C4 ?_ | refine C5 ?_ | refine C6 ?_ | refine C7 ?_ | refine D0 fun γs => ?_ | refine A1 fun γs => ?_ | refine N2 ?_ | refine N3 ?_ | refine N1 ?_); ((conv => whnf); repeat ((first | refine Sw.o ?_ | refine B0 ?_); conv => whnf))))
      refine CallP.pure [] _ c14 (rank14_ok g hz) ?_
      rw [hr.r]
      ((conv => whnf); repeat ((first | refine Sw.o ?_ | refine B0 ?_); conv => whnf))
      have e1 : ¬ (k : Int) = ((g.eqs.map encS).length : Int) := by simp only [List.length_map]; omega
      have lc := hc.len
      have pe : D.1.eqs.length = cntT c := by rw [q2]; exact pick_len c g.eqs lc
      have pu : D.1.uses.length = cntT (joinedF g c) := by rw [q3]; exact pick_len _ g.uses (joinedF_len ..)
      have hcn := hc.cnt
      have hcl : cntT c ≤ g.eqs.length := by rw [← lc]; exact List.countP_le_length
      have e2 : ((D.1.uses.map encU).length : Int) = ((D.1.eqs.map encS).length : Int) - 1 := by simp only [List.length_map]; omega
      (repeat ((first | refine N0 ?_ | refine A0 fun γ => ?_ | refine C1 ?_ | refine C2 ?_ | refine C3 ?_ | refine C4 ?_ | refine C5 ?_ | refine C6 ?_ | refine C7 ?_ | refine D0 fun γs => ?_ | refine A1 fun γs => ?_ | refine N2 ?_ | refine N3 ?_ | refine N1 ?_); ((conv => whnf); repeat ((first | refine Sw.o ?_ | refine B0 ?_); conv => whnf))))
      refine LoopP.intro (fun n σ H => ∃ p1 p3 b, b ≤ cntT c + 1 ∧ n = cntT c + 1 - b ∧ σ = fr [(1, .op 1 p1 0 0), (3, .op 3 p3 0 0), (7, encI ((b : Int) - 1))] ∧ H = hp [(1, p1, ⟨26, 3, [encG g]⟩), (3, p3, ⟨41, 2, [encP D.1]⟩)]) ?_ ?_
      · exact .intro <| W.of ⟨_, _, _, 0, Nat.zero_le _, rfl, rfl, rfl⟩ ⟨rfl, rfl, rfl, trivial⟩ ⟨rfl, rfl, trivial⟩
      · rintro n σ H ⟨p1, p3, b, hb, rfl, rfl, rfl⟩
        ((conv => whnf); repeat ((first | refine Sw.o ?_ | refine B0 ?_); conv => whnf))
        (repeat ((first | refine N0 ?_ | refine A0 fun γ => ?_ | refine C1 ?_ | refine C2 ?_ | refine C3 ?_ | refine C4 ?_ | refine C5 ?_ | refine C6 ?_ | refine C7 ?_ | refine D0 fun γs => ?_ | refine A1 fun γs => ?_ | refine N2 ?_ | refine N3 ?_ | refine N1 ?_); ((conv => whnf); repeat ((first | refine Sw.o ?_ | refine B0 ?_); conv => whnf))))
        refine CondP.dec (fun h1 => ?_) (fun h1 => ?_) <;> ((conv => whnf); repeat ((first | refine Sw.o ?_ | refine B0 ?_); conv => whnf))
        · have hb' : b ≤ cntT c := by simp only [LN] at h1; omega
          have hpl : (pick c g.eqs).length = cntT c := pick_len c g.eqs lc
          have hb1 : b - 1 < (pick c g.eqs).length := by omega
          obtain ⟨s, hs⟩ := it_of hck hc b hb1
          have ls := hs.len
          (repeat ((first | refine N0 ?_ | refine A0 fun γ => ?_ | refine C1 ?_ | refine C2 ?_ | refine C3 ?_ | refine C4 ?_ | refine C5 ?_ | refine C6 ?_ | refine C7 ?_ | refine D0 fun γs => ?_ | refine A1 fun γs => ?_ | refine N2 ?_ | refine N3 ?_ | refine N1 ?_); ((conv => whnf); repeat ((first | refine Sw.o ?_ | refine B0 ?_); conv => whnf))))
          refine LoopP.intro (fun n σ H => ∃ p1 p3 p8 p113 p123 p72 i, ∃ t : List Bool, i ≤ g.eqs.length ∧ n = g.eqs.length - i ∧ t.length = g.uses.length ∧ (∀ u, t.getD u false = true ↔ ∃ e : Nat, e < i ∧ s.getD e false = true ∧ ((u : Nat) : Int) ∈ jn g e) ∧
            σ = fr [(1, .op 1 p1 0 0), (3, .op 3 p3 0 0), (7, encI ((b : Int) - 1)), (8, .op 8 p8 0 0), (9, .own 72 p72 0 g.uses.length), (10, encI i)] ∧ H = hp [(1, p1, ⟨26, 3, [encG g]⟩), (3, p3, ⟨41, 2, [encP D.1]⟩), (8, p8, ⟨26, 3, [.agg [.own 113 p113 0 (cntT (s.take i)), .sl 3 (g.uses.map encU), .own 123 p123 0 (cntT (s.take i))]]⟩), (113, p113, ⟨9, 1, (pick (s.take i) (g.eqs.take i)).map encS⟩), (123, p123, ⟨29, 1, (pick (s.take i) (g.joined.take i)).map encL⟩), (72, p72, ⟨4, 1, t.map encB⟩)]) ?_ ?_
          · rename Nat => γ9
            have hz0 : ∀ u, (List.replicate g.uses.length false).getD u false = true ↔ ∃ e : Nat, e < 0 ∧ s.getD e false = true ∧ ((u : Nat) : Int) ∈ jn g e := fun u => by
              rw [getD_rep']
              constructor
              · intro h; cases h
              · rintro ⟨e, h, _⟩; omega
            refine .intro <| W.matc 8 _ 0 2 123 29 1 _ _ rfl rfl rfl rfl (by omega) fun γb => W.matc 8 _ 0 0 113 9 1 _ _ rfl rfl rfl rfl (by omega) fun γa => W.of ⟨_, _, _, _, _, _, γ9, 0, List.replicate g.uses.length false, Nat.zero_le _, rfl, by simp, hz0, rfl, rfl⟩
              ⟨rfl, rfl, rfl, rfl, ?_, rfl, trivial⟩ ⟨rfl, rfl, rfl, rfl, rfl, ?_, trivial⟩
            · show AV.own 72 γ9 0 (((g.uses.map encU).length : Nat) : Int).toNat = _
              rw [Int.toNat_natCast, List.length_map]
            · show some (γ9, (⟨4, 1, List.replicate (((g.uses.map encU).length : Nat) : Int).toNat (mkEl ⟨1, 1, [.bool false], .bool⟩)⟩ : Blk)) = _
              rw [Int.toNat_natCast, List.length_map, rep_encB]
          · rintro n σ H ⟨p1, p3, p8, p113, p123, p72, i, t, hi, rfl, htl, ht, rfl, rfl⟩
            have hcs : cntT (s.take i) ≤ i := Nat.le_trans List.countP_le_length (by simp; omega)
            ((conv => whnf); repeat ((first | refine Sw.o ?_ | refine B0 ?_); conv => whnf))
            (repeat ((first | refine N0 ?_ | refine A0 fun γ => ?_ | refine C1 ?_ | refine C2 ?_ | refine C3 ?_ | refine C4 ?_ | refine C5 ?_ | refine C6 ?_ | refine C7 ?_ | refine D0 fun γs => ?_ | refine A1 fun γs => ?_ | refine N2 ?_ | refine N3 ?_ | refine N1 ?_); ((conv => whnf); repeat ((first | refine Sw.o ?_ | refine B0 ?_); conv => whnf))))
            refine CondP.dec (fun h2 => ?_) (fun h2 => ?_)
            · ((conv => whnf); repeat ((first | refine Sw.o ?_ | refine B0 ?_); conv => whnf))
              have hi' : i < g.eqs.length := by simp only [LN] at h2; omega
              have hij : i < g.joined.length := by omega
              have sl := hg.sl _ (List.getElem_mem hij)
              have his : i < s.length := by omega
              have hps := pick_snoc s g.eqs i hi' ls
              have hpj := pick_snoc s g.joined i hij (by omega)
              have hcc := cntT_snoc s i his
              have pl1 : (pick (s.take i) (g.eqs.take i)).length = cntT (s.take i) := pick_len _ _ (by simp only [List.length_take]; omega)
              have pl2 : (pick (s.take i) (g.joined.take i)).length = cntT (s.take i) := pick_len _ _ (by simp only [List.length_take]; omega)
              have hnd := nodup_of hck
              have hany := any_pick c g.eqs hnd.1 lc i hi'
              rw [← q2] at hany
              have hcall := hasEq_ok D.1 g.eqs[i] (by omega)
              rw [hany] at hcall
              (repeat ((first | refine N0 ?_ | refine A0 fun γ => ?_ | refine C1 ?_ | refine C2 ?_ | refine C3 ?_ | refine C4 ?_ | refine C5 ?_ | refine C6 ?_ | refine C7 ?_ | refine D0 fun γs => ?_ | refine A1 fun γs => ?_ | refine N2 ?_ | refine N3 ?_ | refine N1 ?_ | simp (disch := omega) only [LG]); ((conv => whnf); repeat ((first | refine Sw.o ?_ | refine B0 ?_); conv => whnf))))
              refine CallG.intro (encB (c.getD i false)) c24 hcall ?_
              cases hci : c.getD i false with
              | false =>
                have hsi : s.getD i false = false := by
                  cases hb2 : s.getD i false with
                  | false => rfl
                  | true => rw [hs.sub i hb2] at hci; cases hci
                rw [hsi] at hps hpj hcc
                simp only [Bool.false_eq_true, if_false, List.append_nil, Nat.add_zero] at hps hpj hcc
                have ht' : ∀ u, t.getD u false = true ↔ ∃ e : Nat, e < i + 1 ∧ s.getD e false = true ∧ ((u : Nat) : Int) ∈ jn g e := fun u => by
                  rw [ht]
                  constructor
                  · rintro ⟨e, a, b, d⟩; exact ⟨e, by omega, b, d⟩
                  · rintro ⟨e, a, b, d⟩
                    refine ⟨e, ?_, b, d⟩
                    by_cases q : e = i
                    · subst q; rw [hsi] at b; cases b
                    · omega
                ((conv => whnf); repeat ((first | refine Sw.o ?_ | refine B0 ?_); conv => whnf))
                (repeat ((first | refine N0 ?_ | refine A0 fun γ => ?_ | refine C1 ?_ | refine C2 ?_ | refine C3 ?_ | refine C4 ?_ | refine C5 ?_ | refine C6 ?_ | refine C7 ?_ | refine D0 fun γs => ?_ | refine A1 fun γs => ?_ | refine N2 ?_ | refine N3 ?_ | refine N1 ?_ | simp (disch := omega) only [LG]); ((conv => whnf); repeat ((first | refine Sw.o ?_ | refine B0 ?_); conv => whnf))))
                refine .intro <| W.of ⟨_, by omega, p1, p3, p8, p113, p123, p72, i + 1, t, hi', rfl, htl, ht', rfl, rfl⟩ ⟨rfl, rfl, rfl, rfl, rfl, rfl, trivial⟩ ⟨rfl, rfl, ?_, ?_, ?_, rfl, trivial⟩
                · rw [hcc]; rfl
                · rw [hps]; rfl
                · rw [hpj]; rfl
              | true =>
                have hbi : ∀ (q : 0 < b), ((b : Int) - 1).toNat < D.1.eqs.length := fun q => by omega
                have hinc : ∀ (q : 0 < b), s.getD i false = !decide (g.eqs[i] = D.1.eqs[((b : Int) - 1).toNat]'(hbi q)) := fun q => by
                  have e := hs.inc hb1 q i hi'
                  rw [hci, Bool.true_and] at e
                  rw [e]
                  have e3 : ((b : Int) - 1).toNat = b - 1 := by omega
                  simp only [q2, e3]
                cases hsi : s.getD i false with
                | false =>
                  have hb0 : 0 < b := by
                    refine Nat.pos_of_ne_zero fun q => ?_
                    have := hs.inc0 q i
                    rw [hci, hsi] at this; cases this
                  have heq : g.eqs[i] = D.1.eqs[((b : Int) - 1).toNat]'(hbi hb0) := by
                    have := hinc hb0
                    rw [hsi] at this
                    simpa using this.symm
                  rw [hsi] at hps hpj hcc
                  simp only [Bool.false_eq_true, if_false, List.append_nil, Nat.add_zero] at hps hpj hcc
                  have ht' : ∀ u, t.getD u false = true ↔ ∃ e : Nat, e < i + 1 ∧ s.getD e false = true ∧ ((u : Nat) : Int) ∈ jn g e := fun u => by
                    rw [ht]
                    constructor
                    · rintro ⟨e, a, b, d⟩; exact ⟨e, by omega, b, d⟩
                    · rintro ⟨e, a, b, d⟩
                      refine ⟨e, ?_, b, d⟩
                      by_cases q : e = i
                      · subst q; rw [hsi] at b; cases b
                      · omega
                  ((conv => whnf); repeat ((first | refine Sw.o ?_ | refine B0 ?_); conv => whnf))
                  (repeat ((first | refine N0 ?_ | refine A0 fun γ => ?_ | with_reducible refine C1 ?_ | with_reducible refine C2 ?_ | with_reducible refine C3 ?_ | refine C8 ?_ | refine C9 ?_ | refine C6 ?_ | refine C7 ?_ | refine D0 fun γs => ?_ | refine A1 fun γs => ?_ | refine N2 ?_ | refine N3 ?_ | refine N1 ?_ | simp (disch := omega) only [LG]); ((conv => whnf); repeat ((first | refine Sw.o ?_ | refine B0 ?_); conv => whnf))))
                  refine .intro <| W.of ⟨_, by omega, p1, p3, p8, p113, p123, p72, i + 1, t, hi', rfl, htl, ht', rfl, rfl⟩ ⟨rfl, rfl, rfl, rfl, rfl, rfl, trivial⟩ ⟨rfl, rfl, ?_, ?_, ?_, rfl, trivial⟩
                  · rw [hcc]; rfl
                  · rw [hps]; rfl
                  · rw [hpj]; rfl
                | true =>
                  rw [hsi] at hps hpj hcc
                  simp only [if_true] at hps hpj hcc
                  have hne : ∀ (q : 0 < b), ¬ g.eqs[i] = D.1.eqs[((b : Int) - 1).toNat]'(hbi q) := fun q => by
                    have := hinc q
                    rw [hsi] at this
                    simpa using this.symm
                  rcases Nat.eq_zero_or_pos b with hb0 | hb0
                  all_goals (
                    try have hne2 := hne hb0
                    ((conv => whnf); repeat ((first | refine Sw.o ?_ | refine B0 ?_); conv => whnf))
                    (repeat ((first | refine N0 ?_ | refine A0 fun γ => ?_ | with_reducible refine C1 ?_ | with_reducible refine C2 ?_ | with_reducible refine C3 ?_ | refine C8 ?_ | refine C9 ?_ | refine C6 ?_ | refine C7 ?_ | refine D0 fun γs => ?_ | refine A1 fun γs => ?_ | refine N2 ?_ | refine N3 ?_ | refine N1 ?_ | simp (disch := omega) only [LG]); ((conv => whnf); repeat ((first | refine Sw.o ?_ | refine B0 ?_); conv => whnf))))
                    refine LoopP.intro (fun n σ H => ∃ p1 p3 p8 p113 p123 p72 q, ∃ t : List Bool, q ≤ (g.joined[i]).length ∧ n = (g.joined[i]).length - q ∧ t.length = g.uses.length ∧ (∀ u, t.getD u false = true ↔ (∃ e : Nat, e < i ∧ s.getD e false = true ∧ ((u : Nat) : Int) ∈ jn g e) ∨ ((u : Nat) : Int) ∈ (g.joined[i]).take q) ∧
                      σ = fr [(1, .op 1 p1 0 0), (3, .op 3 p3 0 0), (7, encI ((b : Int) - 1)), (8, .op 8 p8 0 0), (9, .own 72 p72 0 g.uses.length), (10, encI i), (11, encI q)] ∧ H = hp [(1, p1, ⟨26, 3, [encG g]⟩), (3, p3, ⟨41, 2, [encP D.1]⟩), (8, p8, ⟨26, 3, [.agg [.own 113 p113 0 (cntT (s.take (i + 1))), .sl 3 (g.uses.map encU), .own 123 p123 0 (cntT (s.take (i + 1)))]]⟩), (113, p113, ⟨9, 1, (pick (s.take (i + 1)) (g.eqs.take (i + 1))).map encS⟩), (123, p123, ⟨29, 1, (pick (s.take (i + 1)) (g.joined.take (i + 1))).map encL⟩), (72, p72, ⟨4, 1, t.map encB⟩)]) ?_ ?_
                    · rw [hcc, hps, hpj, List.map_append, List.map_append]
                      have ht0 : ∀ u, t.getD u false = true ↔ (∃ e : Nat, e < i ∧ s.getD e false = true ∧ ((u : Nat) : Int) ∈ jn g e) ∨ ((u : Nat) : Int) ∈ (g.joined[i]).take 0 := fun u => by rw [ht]; simp
                      exact .intro <| W.of ⟨_, _, _, _, _, _, _, 0, t, Nat.zero_le _, rfl, htl, ht0, rfl, rfl⟩ ⟨rfl, rfl, rfl, rfl, rfl, rfl, rfl, trivial⟩ ⟨rfl, rfl, rfl, rfl, rfl, rfl, trivial⟩
                    · rintro n σ H ⟨p1, p3, p8, p113, p123, p72, q, t, hq, rfl, htl, ht, rfl, rfl⟩
                      ((conv => whnf); repeat ((first | refine Sw.o ?_ | refine B0 ?_); conv => whnf))
                      (repeat ((first | refine N0 ?_ | refine A0 fun γ => ?_ | refine C1 ?_ | refine C2 ?_ | refine C3 ?_ | refine C4 ?_ | refine C5 ?_ | refine C6 ?_ | refine C7 ?_ | refine D0 fun γs => ?_ | refine A1 fun γs => ?_ | refine N2 ?_ | refine N3 ?_ | refine N1 ?_ | simp (disch := omega) only [LG]); ((conv => whnf); repeat ((first | refine Sw.o ?_ | refine B0 ?_); conv => whnf))))
                      refine CondP.dec (fun h4 => ?_) (fun h4 => ?_) <;> ((conv => whnf); repeat ((first | refine Sw.o ?_ | refine B0 ?_); conv => whnf))
                      · have hq' : q < (g.joined[i]).length := by first | omega | (simp only [LN] at h4; omega)
                        have hu := hg.in_ _ (List.getElem_mem hij) _ (List.getElem_mem hq')
                        have hut : (g.joined[i][q]).toNat < t.length := by omega
                        have hjn : g.joined[i][q] ∈ jn g i := by
                          unfold jn
                          rw [Int.toNat_natCast, getD_lt _ _ _ hij]; exact List.getElem_mem hq'
                        have huu : (((g.joined[i][q]).toNat : Nat) : Int) = g.joined[i][q] := by omega
                        have hun : (g.joined[i][q]).toNat < g.uses.length := by omega
                        have hju : (joinedF g c).getD (g.joined[i][q]).toNat false = true := (joinedF_get hg c lc _).2 ⟨i, hi', hci, by rw [huu]; exact hjn⟩
                        have hanyU := any_pick (joinedF g c) g.uses hnd.2 (joinedF_len ..) _ hun
                        rw [← q3, hju] at hanyU
                        have hcallU := hasUse_ok D.1 g.uses[(g.joined[i][q]).toNat] (by omega)
                        rw [hanyU] at hcallU
                        (repeat ((first | refine N0 ?_ | refine A0 fun γ => ?_ | refine C1 ?_ | refine C2 ?_ | refine C3 ?_ | refine C4 ?_ | refine C5 ?_ | refine C6 ?_ | refine C7 ?_ | refine D0 fun γs => ?_ | refine A1 fun γs => ?_ | refine N2 ?_ | refine N3 ?_ | refine N1 ?_ | simp (disch := omega) only [LG]); ((conv => whnf); repeat ((first | refine Sw.o ?_ | refine B0 ?_); conv => whnf))))
                        rw [Nat.zero_add, getD_map (h := hut)]
                        ((conv => whnf); repeat ((first | refine Sw.o ?_ | refine B0 ?_); conv => whnf))
                        (repeat ((first | refine N0 ?_ | refine A0 fun γ => ?_ | refine C1 ?_ | refine C2 ?_ | refine C3 ?_ | refine C4 ?_ | refine C5 ?_ | refine C6 ?_ | refine C7 ?_ | refine D0 fun γs => ?_ | refine A1 fun γs => ?_ | refine N2 ?_ | refine N3 ?_ | refine N1 ?_ | simp (disch := omega) only [LG]); ((conv => whnf); repeat ((first | refine Sw.o ?_ | refine B0 ?_); conv => whnf))))
                        rw [getD_map encU g.uses _ hun]
                        ((conv => whnf); repeat ((first | refine Sw.o ?_ | refine B0 ?_); conv => whnf))
                        (repeat ((first | refine N0 ?_ | refine A0 fun γ => ?_ | refine C1 ?_ | refine C2 ?_ | refine C3 ?_ | refine C4 ?_ | refine C5 ?_ | refine C6 ?_ | refine C7 ?_ | refine D0 fun γs => ?_ | refine A1 fun γs => ?_ | refine N2 ?_ | refine N3 ?_ | refine N1 ?_ | simp (disch := omega) only [LG]); ((conv => whnf); repeat ((first | refine Sw.o ?_ | refine B0 ?_); conv => whnf))))
                        refine CallG.intro (encB true) c25 hcallU ?_
                        ((conv => whnf); repeat ((first | refine Sw.o ?_ | refine B0 ?_); conv => whnf))
                        (repeat ((first | refine N0 ?_ | refine A0 fun γ => ?_ | refine C1 ?_ | refine C2 ?_ | refine C3 ?_ | refine C4 ?_ | refine C5 ?_ | refine C6 ?_ | refine C7 ?_ | refine D0 fun γs => ?_ | refine A1 fun γs => ?_ | refine N2 ?_ | refine N3 ?_ | refine N1 ?_ | simp (disch := omega) only [LG]); ((conv => whnf); repeat ((first | refine Sw.o ?_ | refine B0 ?_); conv => whnf))))
                        refine .intro <| W.of ⟨_, by first | omega | (simp only [LN] at h4; omega), p1, p3, p8, p113, p123, p72, q + 1, t.set (g.joined[i][q]).toNat true, hq', rfl, by simpa using htl, fun u => ?_, rfl, rfl⟩ ⟨rfl, rfl, rfl, rfl, rfl, rfl, rfl, trivial⟩ ⟨rfl, rfl, rfl, rfl, rfl, ?_, trivial⟩
                        · rw [getD_setL, List.take_succ_eq_append_getElem hq', List.mem_append, List.mem_singleton]
                          by_cases e : (g.joined[i][q]).toNat = u
                          · rw [if_pos ⟨e, by omega⟩]
                            exact ⟨fun _ => .inr (.inr (by omega)), fun _ => rfl⟩
                          · rw [if_neg (fun h => e h.1), ht]
                            constructor
                            · rintro (h | h)
                              · exact .inl h
                              · exact .inr (.inl h)
                            · rintro (h | h | h)
                              · exact .inl h
                              · exact .inr h
                              · exact absurd (by omega) e
                        · show some (_, (⟨4, 1, (t.map encB).set (g.joined[i][q]).toNat (encB true)⟩ : Blk)) = _
                          rw [set_map (x := true) (h := rfl)]
                      · have hqe : q = (g.joined[i]).length := by first | omega | (simp only [LN] at h4; omega)
                        subst hqe
                        rw [List.take_length] at ht
                        have ht' : ∀ u, t.getD u false = true ↔ ∃ e : Nat, e < i + 1 ∧ s.getD e false = true ∧ ((u : Nat) : Int) ∈ jn g e := fun u => by
                          rw [ht]
                          have hji : jn g (i : Nat) = g.joined[i] := by
                            unfold jn
                            rw [Int.toNat_natCast, getD_lt _ _ _ hij]
                          constructor
                          · rintro (⟨e, a, b, d⟩ | h)
                            · exact ⟨e, by omega, b, d⟩
                            · exact ⟨i, by omega, hsi, by rw [hji]; exact h⟩
                          · rintro ⟨e, a, b, d⟩
                            by_cases q : e = i
                            · subst q; right; rw [← hji]; exact d
                            · exact .inl ⟨e, by omega, b, d⟩
                        (repeat ((first | refine N0 ?_ | refine A0 fun γ => ?_ | refine C1 ?_ | refine C2 ?_ | refine C3 ?_ | refine C4 ?_ | refine C5 ?_ | refine C6 ?_ | refine C7 ?_ | refine D0 fun γs => ?_ | refine A1 fun γs => ?_ | refine N2 ?_ | refine N3 ?_ | refine N1 ?_); ((conv => whnf); repeat ((first | refine Sw.o ?_ | refine B0 ?_); conv => whnf))))
                        exact .intro <| W.of ⟨_, by omega, p1, p3, p8, p113, p123, p72, i + 1, t, hi', rfl, htl, ht', rfl, rfl⟩ ⟨rfl, rfl, rfl, rfl, rfl, rfl, trivial⟩ ⟨rfl, rfl, rfl, rfl, rfl, rfl, trivial⟩)
            · ((conv => whnf); repeat ((first | refine Sw.o ?_ | refine B0 ?_); conv => whnf))
              have hie : i = g.eqs.length := by simp only [LN] at h2; omega
              subst hie
              have tk1 : s.take g.eqs.length = s := List.take_of_length_le (by omega)
              have tk2 : g.joined.take g.eqs.length = g.joined := List.take_of_length_le (by omega)
              rw [tk1, List.take_length, tk2]
              have htj : t = joinedF g s := by
                refine ext_getD (d := false) (by rw [htl, joinedF_len]) fun u _ => ?_
                rw [Bool.eq_iff_iff, ht, joinedF_get hg s ls]
              have pl1 : (pick s g.eqs).length = cntT s := pick_len s g.eqs ls
              have pl2 : (pick s g.joined).length = cntT s := pick_len s g.joined (by omega)
              (repeat ((first | refine N0 ?_ | refine A0 fun γ => ?_ | refine C1 ?_ | refine C2 ?_ | refine C3 ?_ | refine C4 ?_ | refine C5 ?_ | refine C6 ?_ | refine C7 ?_ | refine D0 fun γs => ?_ | refine A1 fun γs => ?_ | refine N2 ?_ | refine N3 ?_ | refine N1 ?_); ((conv => whnf); repeat ((first | refine Sw.o ?_ | refine B0 ?_); conv => whnf))))
              refine LoopP.intro (fun n σ H => ∃ p1 p3 p8 p113 p123 p72 x, x ≤ t.length ∧ n = t.length - x ∧ σ = fr [(1, .op 1 p1 0 0), (3, .op 3 p3 0 0), (7, encI ((b : Int) - 1)), (8, .op 8 p8 0 0), (9, .own 72 p72 0 g.uses.length), (12, encI (cntT (t.take x))), (13, encI x)] ∧ H = hp [(1, p1, ⟨26, 3, [encG g]⟩), (3, p3, ⟨41, 2, [encP D.1]⟩), (8, p8, ⟨26, 3, [.agg [.own 113 p113 0 (cntT s), .sl 3 (g.uses.map encU), .own 123 p123 0 (cntT s)]]⟩), (113, p113, ⟨9, 1, (pick s g.eqs).map encS⟩), (123, p123, ⟨29, 1, (pick s g.joined).map encL⟩), (72, p72, ⟨4, 1, t.map encB⟩)]) ?_ ?_
              · exact .intro <| W.of ⟨_, _, _, _, _, _, _, 0, Nat.zero_le _, rfl, rfl, rfl⟩ ⟨rfl, rfl, rfl, rfl, rfl, rfl, rfl, trivial⟩ ⟨rfl, rfl, rfl, rfl, rfl, rfl, trivial⟩
              · rintro n σ H ⟨p1, p3, p8, p113, p123, p72, x, hx, rfl, rfl, rfl⟩
                have hcx : cntT (t.take x) ≤ x := Nat.le_trans List.countP_le_length (by simp; omega)
                ((conv => whnf); repeat ((first | refine Sw.o ?_ | refine B0 ?_); conv => whnf))
                (repeat ((first | refine N0 ?_ | refine A0 fun γ => ?_ | refine C1 ?_ | refine C2 ?_ | refine C3 ?_ | refine C4 ?_ | refine C5 ?_ | refine C6 ?_ | refine C7 ?_ | refine D0 fun γs => ?_ | refine A1 fun γs => ?_ | refine N2 ?_ | refine N3 ?_ | refine N1 ?_); ((conv => whnf); repeat ((first | refine Sw.o ?_ | refine B0 ?_); conv => whnf))))
                refine CondP.dec (fun h4 => ?_) (fun h4 => ?_) <;> ((conv => whnf); repeat ((first | refine Sw.o ?_ | refine B0 ?_); conv => whnf))
                · have hx' : x < t.length := by omega
                  have hcn2 := cntT_snoc t x hx'
                  (repeat ((first | refine N0 ?_ | refine A0 fun γ => ?_ | refine C1 ?_ | refine C2 ?_ | refine C3 ?_ | refine C4 ?_ | refine C5 ?_ | refine C6 ?_ | refine C7 ?_ | refine D0 fun γs => ?_ | refine A1 fun γs => ?_ | refine N2 ?_ | refine N3 ?_ | refine N1 ?_); ((conv => whnf); repeat ((first | refine Sw.o ?_ | refine B0 ?_); conv => whnf))))
                  rw [Int.toNat_natCast, Nat.zero_add, getD_map (h := hx')]
                  ((conv => whnf); repeat ((first | refine Sw.o ?_ | refine B0 ?_); conv => whnf))
                  (repeat ((first | refine N0 ?_ | refine A0 fun γ => ?_ | refine C1 ?_ | refine C2 ?_ | refine C3 ?_ | refine C4 ?_ | refine C5 ?_ | refine C6 ?_ | refine C7 ?_ | refine D0 fun γs => ?_ | refine A1 fun γs => ?_ | refine N2 ?_ | refine N3 ?_ | refine N1 ?_); ((conv => whnf); repeat ((first | refine Sw.o ?_ | refine B0 ?_); conv => whnf))))
                  refine CondP.intro (fun h5 => ?_) (fun h5 => ?_) <;> ((conv => whnf); repeat ((first | refine Sw.o ?_ | refine B0 ?_); conv => whnf))
                  · rw [getD_lt _ _ _ hx', h5, if_pos rfl] at hcn2
                    (repeat ((first | refine N0 ?_ | refine A0 fun γ => ?_ | refine C1 ?_ | refine C2 ?_ | refine C3 ?_ | refine C4 ?_ | refine C5 ?_ | refine C6 ?_ | refine C7 ?_ | refine D0 fun γs => ?_ | refine A1 fun γs => ?_ | refine N2 ?_ | refine N3 ?_ | refine N1 ?_); ((conv => whnf); repeat ((first | refine Sw.o ?_ | refine B0 ?_); conv => whnf))))
                    refine .intro <| W.of ⟨_, by omega, p1, p3, p8, p113, p123, p72, x + 1, hx', rfl, rfl, rfl⟩ ⟨rfl, rfl, rfl, rfl, rfl, ?_, rfl, trivial⟩ ⟨rfl, rfl, rfl, rfl, rfl, rfl, trivial⟩
                    rw [hcn2]; rfl
                  · rw [getD_lt _ _ _ hx', h5, if_neg (by simp), Nat.add_zero] at hcn2
                    (repeat ((first | refine N0 ?_ | refine A0 fun γ => ?_ | refine C1 ?_ | refine C2 ?_ | refine C3 ?_ | refine C4 ?_ | refine C5 ?_ | refine C6 ?_ | refine C7 ?_ | refine D0 fun γs => ?_ | refine A1 fun γs => ?_ | refine N2 ?_ | refine N3 ?_ | refine N1 ?_); ((conv => whnf); repeat ((first | refine Sw.o ?_ | refine B0 ?_); conv => whnf))))
                    refine .intro <| W.of ⟨_, by omega, p1, p3, p8, p113, p123, p72, x + 1, hx', rfl, rfl, rfl⟩ ⟨rfl, rfl, rfl, rfl, rfl, ?_, rfl, trivial⟩ ⟨rfl, rfl, rfl, rfl, rfl, rfl, trivial⟩
                    rw [hcn2]; rfl
                · have hxe : x = t.length := by omega
                  subst hxe
                  rw [List.take_length] at hcx ⊢
                  obtain ⟨r, hr1, hr2⟩ := some_rank hck s ls
                  have hrk := rank14_ok (someF g s) (some_sz hz hck s ls)
                  rw [hr1] at hrk
                  have hcs2 : cntT s ≤ g.eqs.length := by rw [← ls]; exact List.countP_le_length
                  (repeat ((first | refine N0 ?_ | refine A0 fun γ => ?_ | refine C1 ?_ | refine C2 ?_ | refine C3 ?_ | refine C4 ?_ | refine C5 ?_ | refine C6 ?_ | refine C7 ?_ | refine D0 fun γs => ?_ | refine A1 fun γs => ?_ | refine N2 ?_ | refine N3 ?_ | refine N1 ?_); ((conv => whnf); repeat ((first | refine Sw.o ?_ | refine B0 ?_); conv => whnf))))
                  refine CallP.pure [113, 123] _ c14 (pure_args ?_ hrk) ?_
                  · show [AV.agg [snapC [113, 123] _ 3 (.own 113 p113 0 (cntT s)), AV.sl 3 (g.uses.map encU), snapC [113, 123] _ 3 (.own 123 p123 0 (cntT s))]] = _
                    rw [snapC_own (B := ⟨9, 1, (pick s g.eqs).map encS⟩) (by simp) rfl (by simp [pl1]), snapC_own (B := ⟨29, 1, (pick s g.joined).map encL⟩) (by simp) rfl (by simp [pl2]), snap_list _ _ _ _ pl1.symm (fun _ => rfl), snap_list _ _ _ _ pl2.symm (fun _ => rfl)]
                    rfl
                  ((conv => whnf); repeat ((first | refine Sw.o ?_ | refine B0 ?_); conv => whnf))
                  rcases Nat.eq_zero_or_pos b with hb0 | hb0
                  · have hsc := hs.b0 hb0
                    rw [hsc] at htj
                    have g1 : ((cntT t : Nat) : Int) = ((D.1.uses.map encU).length : Int) := by rw [htj, List.length_map, pu]
                    have g2 : ((cntT s : Nat) : Int) = ((D.1.eqs.map encS).length : Int) := by rw [hsc, List.length_map, pe]
                    (repeat ((first | refine N0 ?_ | refine A0 fun γ => ?_ | with_reducible refine C1 ?_ | with_reducible refine C2 ?_ | with_reducible refine C3 ?_ | refine C8 ?_ | refine C9 ?_ | refine C6 ?_ | refine C7 ?_ | refine A1 fun γs => ?_ | refine N2 ?_ | refine N3 ?_ | refine N1 ?_); ((conv => whnf); repeat ((first | refine Sw.o ?_ | refine B0 ?_); conv => whnf))))
                    exact .intro <| W.of ⟨_, by omega, p1, p3, b + 1, by omega, rfl, rfl, rfl⟩ ⟨rfl, rfl, by show encI ((b : Int) - 1 + 1) = encI (((b + 1 : Nat) : Int) - 1); congr 1; omega, trivial⟩ ⟨rfl, rfl, trivial⟩
                  · have g1 : (r : Int) = ((cntT s : Nat) : Int) := by rw [hr2 (hs.bT hb0)]
                    (repeat ((first | refine N0 ?_ | refine A0 fun γ => ?_ | with_reducible refine C1 ?_ | with_reducible refine C2 ?_ | with_reducible refine C3 ?_ | refine C8 ?_ | refine C9 ?_ | refine C6 ?_ | refine C7 ?_ | refine A1 fun γs => ?_ | refine N2 ?_ | refine N3 ?_ | refine N1 ?_); ((conv => whnf); repeat ((first | refine Sw.o ?_ | refine B0 ?_); conv => whnf))))
                    exact .intro <| W.of ⟨_, by omega, p1, p3, b + 1, by omega, rfl, rfl, rfl⟩ ⟨rfl, rfl, by show encI ((b : Int) - 1 + 1) = encI (((b + 1 : Nat) : Int) - 1); congr 1; omega, trivial⟩ ⟨rfl, rfl, trivial⟩
        · (repeat ((first | refine N0 ?_ | refine A0 fun γ => ?_ | refine C1 ?_ | refine C2 ?_ | refine C3 ?_ | refine C4 ?_ | refine C5 ?_ | refine C6 ?_ | refine C7 ?_ | refine D0 fun γs => ?_ | refine A1 fun γs => ?_ | refine N2 ?_ | refine N3 ?_ | refine N1 ?_); ((conv => whnf); repeat ((first | refine Sw.o ?_ | refine B0 ?_); conv => whnf))))
          refine CallP.flat [] _ c11 awake11_ok rfl ?_
          ((conv => whnf); repeat ((first | refine Sw.o ?_ | refine B0 ?_); conv => whnf))
          (repeat ((first | refine N0 ?_ | refine A0 fun γ => ?_ | refine C1 ?_ | refine C2 ?_ | refine C3 ?_ | refine C4 ?_ | refine C5 ?_ | refine C6 ?_ | refine C7 ?_ | refine D0 fun γs => ?_ | refine A1 fun γs => ?_ | refine N2 ?_ | refine N3 ?_ | refine N1 ?_); ((conv => whnf); repeat ((first | refine Sw.o ?_ | refine B0 ?_); conv => whnf))))
          exact .of rfl
  · (repeat ((first | refine N0 ?_ | refine A0 fun γ => ?_ | refine C1 ?_ | refine C2 ?_ | refine C3 ?_ | refine C4 ?_ | refine C5 ?_ | refine C6 ?_ | refine C7 ?_ | refine D0 fun γs => ?_ | refine A1 fun γs => ?_ | refine N2 ?_ | refine N3 ?_ | refine N1 ?_); ((conv => whnf); repeat ((first | refine Sw.o ?_ | refine B0 ?_); conv => whnf))))
    refine CallP.flat [] _ c11 awake11_ok rfl ?_
    ((conv => whnf); repeat ((first | refine Sw.o ?_ | refine B0 ?_); conv => whnf))
    (repeat ((first | refine N0 ?_ | refine A0 fun γ => ?_ | refine C1 ?_ | refine C2 ?_ | refine C3 ?_ | refine C4 ?_ | refine C5 ?_ | refine C6 ?_ | refine C7 ?_ | refine D0 fun γs => ?_ | refine A1 fun γs => ?_ | refine N2 ?_ | refine N3 ?_ | refine N1 ?_); ((conv => whnf); repeat ((first | refine Sw.o ?_ | refine B0 ?_); conv => whnf))))
    exact .of rfl
end Go.Proofs.Ytgeeklnokblokaa
