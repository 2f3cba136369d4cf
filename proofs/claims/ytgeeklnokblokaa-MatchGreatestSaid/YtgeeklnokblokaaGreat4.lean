/- Part 4 of the proof: joined texts (abstract values and their rules; walks of the functions; plain lemmas). -/
import Derived.Test.YtgeeklnokblokaaGreat3
set_option linter.unusedVariables false
set_option linter.unusedSimpArgs false
set_option linter.unusedSectionVars false
namespace Go.Proofs.Ytgeeklnokblokaa
open Go Go.Fw
theorem pick_len {α : Type} : ∀ (bs : List Bool) (xs : List α), bs.length = xs.length → (pick bs xs).length = cntT bs
  | [], [], _ => rfl
  | b :: bs, x :: xs, h => by
    rw [pick_cons, List.length_append, pick_len bs xs (by simpa using h), cntT_cons]
    cases b <;> simp [Nat.add_comm]
theorem pick_mem {α : Type} : ∀ (bs : List Bool) (xs : List α) (i : Nat) (h : i < xs.length), bs.getD i false = true → xs[i] ∈ pick bs xs
  | [], _, i, _, h => by simp at h
  | b :: bs, x :: xs, 0, _, h => by
    have : b = true := h
    subst this
    rw [pick_cons]; simp
  | b :: bs, x :: xs, i + 1, h, hb => by
    rw [pick_cons]
    have := pick_mem bs xs i (by simpa using h) (by simpa using hb)
    simp only [List.getElem_cons_succ, List.mem_append]
    exact .inr this
structure Rt (g : G) (k : Nat) : Prop where
  wf : WF g
  gr : Gr g k
  pa : Pa g k
  c0 : checkF g = 0
  m : MatchF g = (matchF g, 0)
  r : rankF g = ((k : Int), 0)
  ml : MOkL g (matchF g)
  nn : nonneg (matchF g) = k
theorem rt {g : G} (h : checkF g = 0) : ∃ k, Rt g k := by
  have hg := (check_wf h).1
  obtain ⟨k, hk⟩ := gr g hg
  obtain ⟨h1, h2⟩ := match_sp hg hk
  refine ⟨k, hg, hk, pa hg hk, h, by unfold MatchF; rw [decide_eq_true h], by unfold rankF; rw [decide_eq_true h, greatest0_size, hk.size], h1, by omega⟩
def covP (g : G) : Pt := partF g (restF (halvesF g).1 (halvesF g).1) (joinedF g (halvesF g).1)
theorem Rt.cover {g : G} {k : Nat} (h : Rt g k) : coverF g = (covP g, 0) ∧ (covP g).eqs.length + (covP g).uses.length = k := by
  refine ⟨by unfold coverF; rw [decide_eq_true h.c0]; rfl, ?_⟩
  have h1 := pick_len (restF (halvesF g).1 (halvesF g).1) g.eqs (by rw [restF_len, halvesF_len1])
  have h2 := pick_len (joinedF g (halvesF g).1) g.uses (by rw [joinedF_len])
  show (pick _ _).length + (pick _ _).length = k
  rw [h1, h2]; exact h.pa.over
theorem any_of_mem {α : Type} [DecidableEq α] {l : List α} {x : α} (h : x ∈ l) : (l.any fun y => decide (y = x)) = true := List.any_eq_true.2 ⟨x, h, by simp⟩
theorem Rt.covers {g : G} {k : Nat} (h : Rt g k) {i u : Nat} (hi : i < g.eqs.length) (hu : u < g.uses.length) (hj : (u : Int) ∈ jn g i) :
    ((covP g).eqs.any fun x => decide (x = g.eqs[i])) = true ∨ ((covP g).uses.any fun x => decide (x = g.uses[u])) = true := by
  have l1 := halvesF_len1 g
  cases hb : (halvesF g).1.getD i false with
  | true => exact .inr (any_of_mem (pick_mem _ _ u hu (h.pa.goE i u hb hj)))
  | false => exact .inl (any_of_mem (pick_mem _ _ i hi (by rw [restF_getD, l1, hb]; simp [hi])))
set_option maxHeartbeats 4000000 in
set_option maxRecDepth 100000 in
theorem MatchGreatest_ok (g : G) (hz : Sz g) : PureCall Try.prog 9 [encG g] (encB true) := by
  refine pure_cp (E := E 0) T_ok (D_ok 0) [] Try.func9 rfl (by rfl) (Nat.le_of_ble_eq_true rfl) ?_
  ((conv => whnf); repeat ((first | refine Sw.o ?_ | refine B0 ?_); conv => whnf))
  (repeat ((first | refine N0 ?_ | refine A0 fun γ => ?_ | refine C1 ?_ | refine C2 ?_ | refine C3 ?_ | refine C4 ?_ | refine C5 ?_ | refine C6 ?_ | refine C7 ?_ | refine D0 fun γs => ?_ | refine A1 fun γs => ?_ | refine N2 ?_ | refine N3 ?_ | refine N1 ?_); ((conv => whnf); repeat ((first | refine Sw.o ?_ | refine B0 ?_); conv => whnf))))
  refine CallP.flat [] _ c20 (right_ok g hz) rfl ?_
  ((conv => whnf); repeat ((first | refine Sw.o ?_ | refine B0 ?_); conv => whnf))
  (repeat ((first | refine N0 ?_ | refine A0 fun γ => ?_ | refine C1 ?_ | refine C2 ?_ | refine C3 ?_ | refine C4 ?_ | refine C5 ?_ | refine C6 ?_ | refine C7 ?_ | refine D0 fun γs => ?_ | refine A1 fun γs => ?_ | refine N2 ?_ | refine N3 ?_ | refine N1 ?_); ((conv => whnf); repeat ((first | refine Sw.o ?_ | refine B0 ?_); conv => whnf))))
  refine CondP.dec (fun h => ?_) (fun h => ?_) <;> ((conv => whnf); repeat ((first | refine Sw.o ?_ | refine B0 ?_); conv => whnf))
  · (repeat ((first | refine N0 ?_ | refine A0 fun γ => ?_ | refine C1 ?_ | refine C2 ?_ | refine C3 ?_ | refine C4 ?_ | refine C5 ?_ | refine C6 ?_ | refine C7 ?_ | refine D0 fun γs => ?_ | refine A1 fun γs => ?_ | refine N2 ?_ | refine N3 ?_ | refine N1 ?_); ((conv => whnf); repeat ((first | refine Sw.o ?_ | refine B0 ?_); conv => whnf))))
    obtain ⟨k, hr⟩ := rt h.1
    have hg := hr.wf
    have su := hg.su
    have se := hg.se
    have hjl := hg.len
    refine CallP.pure [] _ c12 (match12_ok g hz) ?_
    rw [hr.m]
    ((conv => whnf); repeat ((first | refine Sw.o ?_ | refine B0 ?_); conv => whnf))
    (repeat ((first | refine N0 ?_ | refine A0 fun γ => ?_ | refine C1 ?_ | refine C2 ?_ | refine C3 ?_ | refine C4 ?_ | refine C5 ?_ | refine C6 ?_ | refine C7 ?_ | refine D0 fun γs => ?_ | refine A1 fun γs => ?_ | refine N2 ?_ | refine N3 ?_ | refine N1 ?_); ((conv => whnf); repeat ((first | refine Sw.o ?_ | refine B0 ?_); conv => whnf))))
    refine CallP.pure [] _ c14 (rank14_ok g hz) ?_
    rw [hr.r]
    ((conv => whnf); repeat ((first | refine Sw.o ?_ | refine B0 ?_); conv => whnf))
    (repeat ((first | refine N0 ?_ | refine A0 fun γ => ?_ | refine C1 ?_ | refine C2 ?_ | refine C3 ?_ | refine C4 ?_ | refine C5 ?_ | refine C6 ?_ | refine C7 ?_ | refine D0 fun γs => ?_ | refine A1 fun γs => ?_ | refine N2 ?_ | refine N3 ?_ | refine N1 ?_); ((conv => whnf); repeat ((first | refine Sw.o ?_ | refine B0 ?_); conv => whnf))))
    refine CallP.pure [] _ c31 (cover31_ok g hz (halv g)) ?_
    have hc2 : (coverF g).2 = 0 := by rw [hr.cover.1]
    have hcl : (coverF g).1.eqs.length + (coverF g).1.uses.length = k := by rw [hr.cover.1]; exact hr.cover.2
    have hcov : ∀ (i u : Nat) (hi : i < g.eqs.length) (hu : u < g.uses.length), (u : Int) ∈ jn g i → ((coverF g).1.eqs.any fun x => decide (x = g.eqs[i])) = true ∨ ((coverF g).1.uses.any fun x => decide (x = g.uses[u])) = true := fun i u hi hu hj => by
      rw [hr.cover.1]; exact hr.covers hi hu hj
    have hk := hr.pa.le1
    generalize coverF g = C at hc2 hcl hcov ⊢
    ((conv => whnf); repeat ((first | refine Sw.o ?_ | refine B0 ?_); conv => whnf))
    (repeat ((first | refine N0 ?_ | refine A0 fun γ => ?_ | refine C1 ?_ | refine C2 ?_ | refine C3 ?_ | refine C4 ?_ | refine C5 ?_ | refine C6 ?_ | refine C7 ?_ | refine D0 fun γs => ?_ | refine A1 fun γs => ?_ | refine N2 ?_ | refine N3 ?_ | refine N1 ?_); ((conv => whnf); repeat ((first | refine Sw.o ?_ | refine B0 ?_); conv => whnf))))
    refine CallP.pure [] _ c22 (matched_ok g hg _ hr.ml) ?_
    rw [hr.nn]
    ((conv => whnf); repeat ((first | refine Sw.o ?_ | refine B0 ?_); conv => whnf))
    have e1 : ((k : Nat) : Int) = k := rfl
    have e2 : ((C.1.eqs.map encS).length : Int) + ((C.1.uses.map encU).length : Int) = k := by
      simp only [List.length_map]; omega
    (repeat ((first | refine N0 ?_ | refine A0 fun γ => ?_ | refine C1 ?_ | refine C2 ?_ | refine C3 ?_ | refine C4 ?_ | refine C5 ?_ | refine C6 ?_ | refine C7 ?_ | refine D0 fun γs => ?_ | refine A1 fun γs => ?_ | refine N2 ?_ | refine N3 ?_ | refine N1 ?_); ((conv => whnf); repeat ((first | refine Sw.o ?_ | refine B0 ?_); conv => whnf))))
    refine LoopP.intro (fun n σ H => ∃ p1 p7 i, i ≤ g.eqs.length ∧ n = g.eqs.length - i ∧ σ = fr [(1, .op 1 p1 0 0), (7, .op 7 p7 0 0), (11, encI i)] ∧ H = hp [(1, p1, ⟨26, 3, [encG g]⟩), (7, p7, ⟨41, 2, [encP C.1]⟩)]) ?_ ?_
    · exact .intro <| W.of ⟨_, _, _, 0, Nat.zero_le _, rfl, rfl, rfl⟩ ⟨rfl, rfl, rfl, trivial⟩ ⟨rfl, rfl, trivial⟩
    · rintro n σ H ⟨p1, p7, i, hi, rfl, rfl, rfl⟩
      ((conv => whnf); repeat ((first | refine Sw.o ?_ | refine B0 ?_); conv => whnf))
      (repeat ((first | refine N0 ?_ | refine A0 fun γ => ?_ | refine C1 ?_ | refine C2 ?_ | refine C3 ?_ | refine C4 ?_ | refine C5 ?_ | refine C6 ?_ | refine C7 ?_ | refine D0 fun γs => ?_ | refine A1 fun γs => ?_ | refine N2 ?_ | refine N3 ?_ | refine N1 ?_); ((conv => whnf); repeat ((first | refine Sw.o ?_ | refine B0 ?_); conv => whnf))))
      refine CondP.dec (fun h1 => ?_) (fun h1 => ?_) <;> ((conv => whnf); repeat ((first | refine Sw.o ?_ | refine B0 ?_); conv => whnf))
      · have hi' : i < g.eqs.length := by simp only [LN] at h1; omega
        have hij : i < g.joined.length := by omega
        have hsl := hg.sl _ (List.getElem_mem hij)
        (repeat ((first | refine N0 ?_ | refine A0 fun γ => ?_ | refine C1 ?_ | refine C2 ?_ | refine C3 ?_ | refine C4 ?_ | refine C5 ?_ | refine C6 ?_ | refine C7 ?_ | refine D0 fun γs => ?_ | refine A1 fun γs => ?_ | refine N2 ?_ | refine N3 ?_ | refine N1 ?_); ((conv => whnf); repeat ((first | refine Sw.o ?_ | refine B0 ?_); conv => whnf))))
        refine LoopP.intro (fun n σ H => ∃ p1 p7 u, u ≤ g.uses.length ∧ n = g.uses.length - u ∧ σ = fr [(1, .op 1 p1 0 0), (7, .op 7 p7 0 0), (11, encI i), (12, encI u)] ∧ H = hp [(1, p1, ⟨26, 3, [encG g]⟩), (7, p7, ⟨41, 2, [encP C.1]⟩)]) ?_ ?_
        · exact .intro <| W.of ⟨_, _, _, 0, Nat.zero_le _, rfl, rfl, rfl⟩ ⟨rfl, rfl, rfl, rfl, trivial⟩ ⟨rfl, rfl, trivial⟩
        · rintro n σ H ⟨p1, p7, u, hu, rfl, rfl, rfl⟩
          ((conv => whnf); repeat ((first | refine Sw.o ?_ | refine B0 ?_); conv => whnf))
          (repeat ((first | refine N0 ?_ | refine A0 fun γ => ?_ | refine C1 ?_ | refine C2 ?_ | refine C3 ?_ | refine C4 ?_ | refine C5 ?_ | refine C6 ?_ | refine C7 ?_ | refine D0 fun γs => ?_ | refine A1 fun γs => ?_ | refine N2 ?_ | refine N3 ?_ | refine N1 ?_); ((conv => whnf); repeat ((first | refine Sw.o ?_ | refine B0 ?_); conv => whnf))))
          refine CondP.dec (fun h2 => ?_) (fun h2 => ?_) <;> ((conv => whnf); repeat ((first | refine Sw.o ?_ | refine B0 ?_); conv => whnf))
          · have hu' : u < g.uses.length := by simp only [LN] at h2; omega
            have hc := hcov i u hi' hu'
            have a1 := lawJoined_ok g i u hij (by omega)
            have a2 := hasEq_ok C.1 g.eqs[i] (by omega)
            have a3 := hasUse_ok C.1 g.uses[u] (by omega)
            have hj : (g.joined[i].any fun x => decide (x = (u : Int))) = true → (u : Int) ∈ jn g i := fun q => by
              obtain ⟨x, hx, hq⟩ := List.any_eq_true.1 q
              have hx2 : x = (u : Int) := by simpa using hq
              unfold jn
              rw [Int.toNat_natCast, getD_lt _ _ _ hij, ← hx2]; exact hx
            have hc := fun q => hc (hj q)
            clear hj
            generalize (g.joined[i].any fun x => decide (x = (u : Int))) = b1 at a1 hc
            generalize (C.1.eqs.any fun x => decide (x = g.eqs[i])) = b2 at a2 hc
            generalize (C.1.uses.any fun x => decide (x = g.uses[u])) = b3 at a3 hc
            (repeat ((first | refine N0 ?_ | refine A0 fun γ => ?_ | refine C1 ?_ | refine C2 ?_ | refine C3 ?_ | refine C4 ?_ | refine C5 ?_ | refine C6 ?_ | refine C7 ?_ | refine D0 fun γs => ?_ | refine A1 fun γs => ?_ | refine N2 ?_ | refine N3 ?_ | refine N1 ?_); ((conv => whnf); repeat ((first | refine Sw.o ?_ | refine B0 ?_); conv => whnf))))
            refine CallG.intro (encB b1) c26 a1 ?_
            cases b1 with
            | false =>
              ((conv => whnf); repeat ((first | refine Sw.o ?_ | refine B0 ?_); conv => whnf))
              (repeat ((first | refine N0 ?_ | refine A0 fun γ => ?_ | refine C1 ?_ | refine C2 ?_ | refine C3 ?_ | refine C4 ?_ | refine C5 ?_ | refine C6 ?_ | refine C7 ?_ | refine D0 fun γs => ?_ | refine A1 fun γs => ?_ | refine N2 ?_ | refine N3 ?_ | refine N1 ?_ | simp (disch := omega) only [LG]); ((conv => whnf); repeat ((first | refine Sw.o ?_ | refine B0 ?_); conv => whnf))))
              exact .intro <| W.of ⟨_, by simp only [LN] at h2; omega, _, _, u + 1, hu', rfl, rfl, rfl⟩ ⟨rfl, rfl, rfl, rfl, trivial⟩ ⟨rfl, rfl, trivial⟩
            | true =>
              ((conv => whnf); repeat ((first | refine Sw.o ?_ | refine B0 ?_); conv => whnf))
              (repeat ((first | refine N0 ?_ | refine A0 fun γ => ?_ | refine C1 ?_ | refine C2 ?_ | refine C3 ?_ | refine C4 ?_ | refine C5 ?_ | refine C6 ?_ | refine C7 ?_ | refine D0 fun γs => ?_ | refine A1 fun γs => ?_ | refine N2 ?_ | refine N3 ?_ | refine N1 ?_ | simp (disch := omega) only [LG]); ((conv => whnf); repeat ((first | refine Sw.o ?_ | refine B0 ?_); conv => whnf))))
              refine CallG.intro (encB b2) c24 a2 ?_
              cases b2 with
              | true =>
                ((conv => whnf); repeat ((first | refine Sw.o ?_ | refine B0 ?_); conv => whnf))
                (repeat ((first | refine N0 ?_ | refine A0 fun γ => ?_ | refine C1 ?_ | refine C2 ?_ | refine C3 ?_ | refine C4 ?_ | refine C5 ?_ | refine C6 ?_ | refine C7 ?_ | refine D0 fun γs => ?_ | refine A1 fun γs => ?_ | refine N2 ?_ | refine N3 ?_ | refine N1 ?_ | simp (disch := omega) only [LG]); ((conv => whnf); repeat ((first | refine Sw.o ?_ | refine B0 ?_); conv => whnf))))
                exact .intro <| W.of ⟨_, by simp only [LN] at h2; omega, _, _, u + 1, hu', rfl, rfl, rfl⟩ ⟨rfl, rfl, rfl, rfl, trivial⟩ ⟨rfl, rfl, trivial⟩
              | false =>
                have hb3 : b3 = true := (hc rfl).resolve_left (by simp)
                subst hb3
                ((conv => whnf); repeat ((first | refine Sw.o ?_ | refine B0 ?_); conv => whnf))
                (repeat ((first | refine N0 ?_ | refine A0 fun γ => ?_ | refine C1 ?_ | refine C2 ?_ | refine C3 ?_ | refine C4 ?_ | refine C5 ?_ | refine C6 ?_ | refine C7 ?_ | refine D0 fun γs => ?_ | refine A1 fun γs => ?_ | refine N2 ?_ | refine N3 ?_ | refine N1 ?_ | simp (disch := omega) only [LG]); ((conv => whnf); repeat ((first | refine Sw.o ?_ | refine B0 ?_); conv => whnf))))
                refine CallG.intro (encB true) c25 a3 ?_
                ((conv => whnf); repeat ((first | refine Sw.o ?_ | refine B0 ?_); conv => whnf))
                (repeat ((first | refine N0 ?_ | refine A0 fun γ => ?_ | refine C1 ?_ | refine C2 ?_ | refine C3 ?_ | refine C4 ?_ | refine C5 ?_ | refine C6 ?_ | refine C7 ?_ | refine D0 fun γs => ?_ | refine A1 fun γs => ?_ | refine N2 ?_ | refine N3 ?_ | refine N1 ?_ | simp (disch := omega) only [LG]); ((conv => whnf); repeat ((first | refine Sw.o ?_ | refine B0 ?_); conv => whnf))))
                exact .intro <| W.of ⟨_, by simp only [LN] at h2; omega, _, _, u + 1, hu', rfl, rfl, rfl⟩ ⟨rfl, rfl, rfl, rfl, trivial⟩ ⟨rfl, rfl, trivial⟩
          · (repeat ((first | refine N0 ?_ | refine A0 fun γ => ?_ | refine C1 ?_ | refine C2 ?_ | refine C3 ?_ | refine C4 ?_ | refine C5 ?_ | refine C6 ?_ | refine C7 ?_ | refine D0 fun γs => ?_ | refine A1 fun γs => ?_ | refine N2 ?_ | refine N3 ?_ | refine N1 ?_); ((conv => whnf); repeat ((first | refine Sw.o ?_ | refine B0 ?_); conv => whnf))))
            exact .intro <| W.of ⟨_, by simp only [LN] at h1; omega, _, _, i + 1, hi', rfl, rfl, rfl⟩ ⟨rfl, rfl, rfl, trivial⟩ ⟨rfl, rfl, trivial⟩
      · (repeat ((first | refine N0 ?_ | refine A0 fun γ => ?_ | refine C1 ?_ | refine C2 ?_ | refine C3 ?_ | refine C4 ?_ | refine C5 ?_ | refine C6 ?_ | refine C7 ?_ | refine D0 fun γs => ?_ | refine A1 fun γs => ?_ | refine N2 ?_ | refine N3 ?_ | refine N1 ?_); ((conv => whnf); repeat ((first | refine Sw.o ?_ | refine B0 ?_); conv => whnf))))
        refine CallP.flat [] _ c11 awake11_ok rfl ?_
        ((conv => whnf); repeat ((first | refine Sw.o ?_ | refine B0 ?_); conv => whnf))
        (repeat ((first | refine N0 ?_ | refine A0 fun γ => ?_ | refine C1 ?_ | refine C2 ?_ | refine C3 ?_ | refine C4 ?_ | refine C5 ?_ | refine C6 ?_ | refine C7 ?_ | refine D0 fun γs => ?_ | refine A1 fun γs => ?_ | refine N2 ?_ | refine N3 ?_ | refine N1 ?_); ((conv => whnf); repeat ((first | refine Sw.o ?_ | refine B0 ?_); conv => whnf))))
        exact .of rfl
  · (repeat ((first | refine N0 ?_ | refine A0 fun γ => ?_ | refine C1 ?_ | refine C2 ?_ | refine C3 ?_ | refine C4 ?_ | refine C5 ?_ | refine C6 ?_ | refine C7 ?_ | refine D0 fun γs => ?_ | refine A1 fun γs => ?_ | refine N2 ?_ | refine N3 ?_ | refine N1 ?_); ((conv => whnf); repeat ((first | refine Sw.o ?_ | refine B0 ?_); conv => whnf))))
    refine CallP.flat [] _ c11 awake11_ok rfl ?_
    ((conv => whnf); repeat ((first | refine Sw.o ?_ | refine B0 ?_); conv => whnf))
    (repeat ((first | refine N0 ?_ | refine A0 fun γ => ?_ | refine C1 ?_ | refine C2 ?_ | refine C3 ?_ | refine C4 ?_ | refine C5 ?_ | refine C6 ?_ | refine C7 ?_ | refine D0 fun γs => ?_ | refine A1 fun γs => ?_ | refine N2 ?_ | refine N3 ?_ | refine N1 ?_); ((conv => whnf); repeat ((first | refine Sw.o ?_ | refine B0 ?_); conv => whnf))))
    exact .of rfl
end Go.Proofs.Ytgeeklnokblokaa
