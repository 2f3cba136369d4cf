/- Part 4 of the proof: joined texts (abstract values and their rules; walks of the functions; plain lemmas). -/
import Derived.Test.YtgeeklnokblokaaMore3
set_option linter.unusedVariables false
set_option linter.unusedSimpArgs false
set_option linter.unusedSectionVars false
namespace Go.Proofs.Ytgeeklnokblokaa
open Go Go.Fw
theorem pick_len {α : Type} : ∀ (bs : List Bool) (xs : List α), bs.length = xs.length → (pick bs xs).length = cntT bs
  | [], [], _ => rfl
  | b :: bs, x :: xs, h => by
    rw [pick_cons, List.length_append, pick_len bs xs (by simpa using h), cntT_cons]
    cases b <;> simp [Nat.add_comm]
theorem pick_mem {α : Type} : ∀ (bs : List Bool) (xs : List α) (i : Nat) (h : i < xs.length), bs.getD i false = true → xs[i] ∈ pick bs xs
  | [], _, i, _, h => by simp at h
  | b :: bs, x :: xs, 0, _, h => by
    have : b = true := h
    subst this
    rw [pick_cons]; simp
  | b :: bs, x :: xs, i + 1, h, hb => by
    rw [pick_cons]
    have := pick_mem bs xs i (by simpa using h) (by simpa using hb)
    simp only [List.getElem_cons_succ, List.mem_append]
    exact .inr this
structure Rt (g : G) (k : Nat) : Prop where
  wf : WF g
  gr : Gr g k
  pa : Pa g k
  c0 : checkF g = 0
  m : MatchF g = (matchF g, 0)
  r : rankF g = ((k : Int), 0)
  ml : MOkL g (matchF g)
  nn : nonneg (matchF g) = k
theorem rt {g : G} (h : checkF g = 0) : ∃ k, Rt g k := by
  have hg := (check_wf h).1
  obtain ⟨k, hk⟩ := gr g hg
  obtain ⟨h1, h2⟩ := match_sp hg hk
  refine ⟨k, hg, hk, pa hg hk, h, by unfold MatchF; rw [decide_eq_true h], by unfold rankF; rw [decide_eq_true h, greatest0_size, hk.size], h1, by omega⟩
def covP (g : G) : Pt := partF g (restF (halvesF g).1 (halvesF g).1) (joinedF g (halvesF g).1)
theorem Rt.cover {g : G} {k : Nat} (h : Rt g k) : coverF g = (covP g, 0) ∧ (covP g).eqs.length + (covP g).uses.length = k := by
  refine ⟨by unfold coverF; rw [decide_eq_true h.c0]; rfl, ?_⟩
  have h1 := pick_len (restF (halvesF g).1 (halvesF g).1) g.eqs (by rw [restF_len, halvesF_len1])
  have h2 := pick_len (joinedF g (halvesF g).1) g.uses (by rw [joinedF_len])
  show (pick _ _).length + (pick _ _).length = k
  rw [h1, h2]; exact h.pa.over
theorem any_of_mem {α : Type} [DecidableEq α] {l : List α} {x : α} (h : x ∈ l) : (l.any fun y => decide (y = x)) = true := List.any_eq_true.2 ⟨x, h, by simp⟩
theorem Rt.covers {g : G} {k : Nat} (h : Rt g k) {i u : Nat} (hi : i < g.eqs.length) (hu : u < g.uses.length) (hj : (u : Int) ∈ jn g i) :
    ((covP g).eqs.any fun x => decide (x = g.eqs[i])) = true ∨ ((covP g).uses.any fun x => decide (x = g.uses[u])) = true := by
  have l1 := halvesF_len1 g
  cases hb : (halvesF g).1.getD i false with
  | true => exact .inr (any_of_mem (pick_mem _ _ u hu (h.pa.goE i u hb hj)))
  | false => exact .inl (any_of_mem (pick_mem _ _ i hi (by rw [restF_getD, l1, hb]; simp [hi])))
set_option maxHeartbeats 4000000 in
set_option maxRecDepth 100000 in
theorem MatchGreatest_ok (g : G) (hz : Sz g) : PureCall Try.prog 9 [encG g] (encB true) := by
  refine pure_cp (E := E 0) T_ok (D_ok 0) [] Try.func9 rfl (by rfl) (Nat.le_of_ble_eq_true rfl) ?_
  ((conv => whnf); repeat ((first | refine Sw.o ?_ | refine B0 ?_); conv => whnf))
  (repeat ((first | refine N0 ?_ | refine A0 fun γ => ?_ | refine C1 ?_ | refine C2 ?_ | refine C3 ?_ | refine C4 ?_ | refine C5 ?_ | refine C6 ?_ | refine C7 ?_ | refine D0 fun γs => ?_ | refine A1 fun γs => ?_ | refine N2 ?_ | refine N3 ?_ | refine N1 ?_); ((conv => whnf); repeat ((first | refine Sw.o ?_ | refine B0 ?_); conv => whnf))))
  refine CallP.flat [] _ c20 (right_ok g hz) rfl ?_
  ((conv => whnf); repeat ((first | refine Sw.o ?_ | refine B0 ?_); conv => whnf))
  (repeat ((first | refine N0 ?_ | refine A0 fun γ => ?_ | refine C1 ?_ | refine C2 ?_ | refine C3 ?_ | refine C4 ?_ | refine C5 ?_ | refine C6 ?_ | refine C7 ?_ | refine D0 fun γs => ?_ | refine A1 fun γs => ?_ | refine N2 ?_ | refine N3 ?_ | refine N1 ?_); ((conv => whnf); repeat ((first | refine Sw.o ?_ | refine B0 ?_); conv => whnf))))
  refine CondP.dec (fun h => ?_) (fun h => ?_) <;> ((conv => whnf); repeat ((first | refine Sw.o ?_ | refine B0 ?_); conv => whnf))
  · (repeat ((first | refine N0 ?_ | refine A0 fun γ => ?_ | refine C1 ?_ | refine C2 ?_ | refine C3 ?_ | refine C4 ?_ | refine C5 ?_ | refine C6 ?_ | refine C7 ?_ | refine D0 fun γs => ?_ | refine A1 fun γs => ?_ | refine N2 ?_ | refine N3 ?_ | refine N1 ?_); ((conv => whnf); repeat ((first | refine Sw.o ?_ | refine B0 ?_); conv => whnf))))
    obtain ⟨k, hr⟩ := rt h.1
    have hg := hr.wf
    have su := hg.su
    have se := hg.se
    have hjl := hg.len
    refine CallP.pure [] _ c12 (match12_ok g hz) ?_
    rw [hr.m]
    ((conv => whnf); repeat ((first | refine Sw.o ?_ | refine B0 ?_); conv => whnf))
    (repeat ((first | refine N0 ?_ | refine A0 fun γ => ?_ | refine C1 ?_ | refine C2 ?_ | refine C3 ?_ | refine C4 ?_ | refine C5 ?_ | refine C6 ?_ | refine C7 ?_ | refine D0 fun γs => ?_ | refine A1 fun γs => ?_ | refine N2 ?_ | refine N3 ?_ | refine N1 ?_); ((conv => whnf); repeat ((first | refine Sw.o ?_ | refine B0 ?_); conv => whnf))))
    refine CallP.pure [] _ c14 (rank14_ok g hz) ?_
    rw [hr.r]
    ((conv => whnf); repeat ((first | refine Sw.o ?_ | refine B0 ?_); conv => whnf))
    (repeat ((first | refine N0 ?_ | refine A0 fun γ => ?_ | refine C1 ?_ | refine C2 ?_ | refine C3 ?_ | refine C4 ?_ | refine C5 ?_ | refine C6 ?_ | refine C7 ?_ | refine D0 fun γs => ?_ | refine A1 fun γs => ?_ | refine N2 ?_ | refine N3 ?_ | refine N1 ?_); ((conv => whnf); repeat ((first | refine Sw.o ?_ | refine B0 ?_); conv => whnf))))
    refine CallP.pure [] _ c31 (cover31_ok g hz (halv g)) ?_
    have hc2 : (coverF g).2 = 0 := by rw [hr.cover.1]
    have hcl : (coverF g).1.eqs.length + (coverF g).1.uses.length = k := by rw [hr.cover.1]; exact hr.cover.2
    have hcov : ∀ (i u : Nat) (hi : i < g.eqs.length) (hu : u < g.uses.length), (u : Int) ∈ jn g i → ((coverF g).1.eqs.any fun x => decide (x = g.eqs[i])) = true ∨ ((coverF g).1.uses.any fun x => decide (x = g.uses[u])) = true := fun i u hi hu hj => by
      rw [hr.cover.1]; exact hr.covers hi hu hj
    have hk := hr.pa.le1
    generalize coverF g = C at hc2 hcl hcov ⊢
    ((conv => whnf); repeat ((first | refine Sw.o ?_ | refine B0 ?_); conv => whnf))
    (repeat ((first | refine N0 ?_ | refine A0 fun γ => ?_ | refine C1 ?_ | refine C2 ?_ | refine C3 ?_ | refine C4 ?_ | refine C5 ?_ | refine C6 ?_ | refine C7 ?_ | refine D0 fun γs => ?_ | refine A1 fun γs => ?_ | refine N2 ?_ | refine N3 ?_ | refine N1 ?_); ((conv => whnf); repeat ((first | refine Sw.o ?_ | refine B0 ?_); conv => whnf))))
    refine CallP.pure [] _ c22 (matched_ok g hg _ hr.ml) ?_
    rw [hr.nn]
    ((conv => whnf); repeat ((first | refine Sw.o ?_ | refine B0 ?_); conv => whnf))
    have e1 : ((k : Nat) : Int) = k := rfl
    have e2 : ((C.1.eqs.map encS).length : Int) + ((C.1.uses.map encU).length : Int) = k := by
      simp only [List.length_map]; omega
    (repeat ((first | refine N0 ?_ | refine A0 fun γ => ?_ | refine C1 ?_ | refine C2 ?_ | refine C3 ?_ | refine C4 ?_ | refine C5 ?_ | refine C6 ?_ | refine C7 ?_ | refine D0 fun γs => ?_ | refine A1 fun γs => ?_ | refine N2 ?_ | refine N3 ?_ | refine N1 ?_); ((conv => whnf); repeat ((first | refine Sw.o ?_ | refine B0 ?_); conv => whnf))))
    refine LoopP.intro (fun n σ H => ∃ p1 p7 i, i ≤ g.eqs.length ∧ n = g.eqs.length - i ∧ σ = fr [(1, .op 1 p1 0 0), (7, .op 7 p7 0 0), (11, encI i)] ∧ H = hp [(1, p1, ⟨26, 3, [encG g]⟩), (7, p7, ⟨41, 2, [encP C.1]⟩)]) ?_ ?_
    · exact .intro <| W.of ⟨_, _, _, 0, Nat.zero_le _, rfl, rfl, rfl⟩ ⟨rfl, rfl, rfl, trivial⟩ ⟨rfl, rfl, trivial⟩
    · rintro n σ H ⟨p1, p7, i, hi, rfl, rfl, rfl⟩
      ((conv => whnf); repeat ((first | refine Sw.o ?_ | refine B0 ?_); conv => whnf))
      (repeat ((first | refine N0 ?_ | refine A0 fun γ => ?_ | refine C1 ?_ | refine C2 ?_ | refine C3 ?_ | refine C4 ?_ | refine C5 ?_ | refine C6 ?_ | refine C7 ?_ | refine D0 fun γs => ?_ | refine A1 fun γs => ?_ | refine N2 ?_ | refine N3 ?_ | refine N1 ?_); ((conv => whnf); repeat ((first | refine Sw.o ?_ | refine B0 ?_); conv => whnf))))
      refine CondP.dec (fun h1 => ?_) (fun h1 => ?_) <;> ((conv => whnf); repeat ((first | refine Sw.o ?_ | refine B0 ?_); conv => whnf))
      · have hi' : i < g.eqs.length := by simp only [LN] at h1; omega
        have hij : i < g.joined.length := by omega
        have hsl := hg.sl _ (List.getElem_mem hij)
        (repeat ((first | refine N0 ?_ | refine A0 fun γ => ?_ | refine C1 ?_ | refine C2 ?_ | refine C3 ?_ | refine C4 ?_ | refine C5 ?_ | refine C6 ?_ | refine C7 ?_ | refine D0 fun γs => ?_ | refine A1 fun γs => ?_ | refine N2 ?_ | refine N3 ?_ | refine N1 ?_); ((conv => whnf); repeat ((first | refine Sw.o ?_ | refine B0 ?_); conv => whnf))))
        refine LoopP.intro (fun n σ H => ∃ p1 p7 u, u ≤ g.uses.length ∧ n = g.uses.length - u ∧ σ = fr [(1, .op 1 p1 0 0), (7, .op 7 p7 0 0), (11, encI i), (12, encI u)] ∧ H = hp [(1, p1, ⟨26, 3, [encG g]⟩), (7, p7, ⟨41, 2, [encP C.1]⟩)]) ?_ ?_
        · exact .intro <| W.of ⟨_, _, _, 0, Nat.zero_le _, rfl, rfl, rfl⟩ ⟨rfl, rfl, rfl, rfl, trivial⟩ ⟨rfl, rfl, trivial⟩
        · rintro n σ H ⟨p1, p7, u, hu, rfl, rfl, rfl⟩
          ((conv => whnf); repeat ((first | refine Sw.o ?_ | refine B0 ?_); conv => whnf))
          (repeat ((first | refine N0 ?_ | refine A0 fun γ => ?_ | refine C1 ?_ | refine C2 ?_ | refine C3 ?_ | refine C4 ?_ | refine C5 ?_ | refine C6 ?_ | refine C7 ?_ | refine D0 fun γs => ?_ | refine A1 fun γs => ?_ | refine N2 ?_ | refine N3 ?_ | refine N1 ?_); ((conv => whnf); repeat ((first | refine Sw.o ?_ | refine B0 ?_); conv => whnf))))
          refine CondP.dec (fun h2 => ?_) (fun h2 => ?_) <;> ((conv => whnf); repeat ((first | refine Sw.o ?_ | refine B0 ?_); conv => whnf))
          · have hu' : u < g.uses.length := by simp only [LN] at h2; omega
            have hc := hcov i u hi' hu'
            have a1 := lawJoined_ok g i u hij (by omega)
            have a2 := hasEq_ok C.1 g.eqs[i] (by omega)
            have a3 := hasUse_ok C.1 g.uses[u] (by omega)
            have hj : (g.joined[i].any fun x => decide (x = (u : Int))) = true → (u : Int) ∈ jn g i := fun q => by
              obtain ⟨x, hx, hq⟩ := List.any_eq_true.1 q
              have hx2 : x = (u : Int) := by simpa using hq
              unfold jn
              rw [Int.toNat_natCast, getD_lt _ _ _ hij, ← hx2]; exact hx
            have hc := fun q => hc (hj q)
            clear hj
            generalize (g.joined[i].any fun x => decide (x = (u : Int))) = b1 at a1 hc
            generalize (C.1.eqs.any fun x => decide (x = g.eqs[i])) = b2 at a2 hc
            generalize (C.1.uses.any fun x => decide (x = g.uses[u])) = b3 at a3 hc
            (repeat ((first | refine N0 ?_ | refine A0 fun γ => ?_ | refine C1 ?_ | refine C2 ?_ | refine C3 ?_ | refine C4 ?_ | refine C5 ?_ | refine C6 ?_ | refine C7 ?_ | refine D0 fun γs => ?_ | refine A1 fun γs => ?_ | refine N2 ?_ | refine N3 ?_ | refine N1 ?_); ((conv => whnf); repeat ((first | refine Sw.o ?_ | refine B0 ?_); conv => whnf))))
            refine CallG.intro (encB b1) c26 a1 ?_
            cases b1 with
            | false =>
              ((conv => whnf); repeat ((first | refine Sw.o ?_ | refine B0 ?_); conv => whnf))
              (repeat ((first | refine N0 ?_ | refine A0 fun γ => ?_ | refine C1 ?_ | refine C2 ?_ | refine C3 ?_ | refine C4 ?_ | refine C5 ?_ | refine C6 ?_ | refine C7 ?_ | refine D0 fun γs => ?_ | refine A1 fun γs => ?_ | refine N2 ?_ | refine N3 ?_ | refine N1 ?_ | simp (disch := omega) only [LG]); ((conv => whnf); repeat ((first | refine Sw.o ?_ | refine B0 ?_); conv => whnf))))
              exact .intro <| W.of ⟨_, by simp only [LN] at h2; omega, _, _, u + 1, hu', rfl, rfl, rfl⟩ ⟨rfl, rfl, rfl, rfl, trivial⟩ ⟨rfl, rfl, trivial⟩
            | true =>
              ((conv => whnf); repeat ((first | refine Sw.o ?_ | refine B0 ?_); conv => whnf))
              (repeat ((first | refine N0 ?_ | refine A0 fun γ => ?_ | refine C1 ?_ | refine C2 ?_ | refine C3 ?_ | refine C4 ?_ | refine C5 ?_ | refine C6 ?_ | refine C7 ?_ | refine D0 fun γs => ?_ | refine A1 fun γs => ?_ | refine N2 ?_ | refine N3 ?_ | refine N1 ?_ | simp (disch := omega) only [LG]); ((conv => whnf); repeat ((first | refine Sw.o ?_ | refine B0 ?_); conv => whnf))))
              refine CallG.intro (encB b2) c24 a2 ?_
              cases b2 with
              | true =>
                ((conv => whnf); repeat ((first | refine Sw.o ?_ | refine B0 ?_); conv => whnf))
                (repeat ((first | refine N0 ?_ | refine A0 fun γ => ?_ | refine C1 ?_ | refine C2 ?_ | refine C3 ?_ | refine C4 ?_ | refine C5 ?_ | refine C6 ?_ | refine C7 ?_ | refine D0 fun γs => ?_ | refine A1 fun γs => ?_ | refine N2 ?_ | refine N3 ?_ | refine N1 ?_ | simp (disch := omega) only [LG]); ((conv => whnf); repeat ((first | refine Sw.o ?_ | refine B0 ?_); conv => whnf))))
                exact .intro <| W.of ⟨_, by simp only [LN] at h2; omega, _, _, u + 1, hu', rfl, rfl, rfl⟩ ⟨rfl, rfl, rfl, rfl, trivial⟩ ⟨rfl, rfl, trivial⟩
              | false =>
                have hb3 : b3 = true := (hc rfl).resolve_left (by simp)
                subst hb3
                ((conv => whnf); repeat ((first | refine Sw.o ?_ | refine B0 ?_); conv => whnf))
                (repeat ((first | refine N0 ?_ | refine A0 fun γ => ?_ | refine C1 ?_ | refine C2 ?_ | refine C3 ?_ | refine C4 ?_ | refine C5 ?_ | refine C6 ?_ | refine C7 ?_ | refine D0 fun γs => ?_ | refine A1 fun γs => ?_ | refine N2 ?_ | refine N3 ?_ | refine N1 ?_ | simp (disch := omega) only [LG]); ((conv => whnf); repeat ((first | refine Sw.o ?_ | refine B0 ?_); conv => whnf))))
                refine CallG.intro (encB true) c25 a3 ?_
                ((conv => whnf); repeat ((first | refine Sw.o ?_ | refine B0 ?_); conv => whnf))
                (repeat ((first | refine N0 ?_ | refine A0 fun γ => ?_ | refine C1 ?_ | refine C2 ?_ | refine C3 ?_ | refine C4 ?_ | refine C5 ?_ | refine C6 ?_ | refine C7 ?_ | refine D0 fun γs => ?_ | refine A1 fun γs => ?_ | refine N2 ?_ | refine N3 ?_ | refine N1 ?_ | simp (disch := omega) only [LG]); ((conv => whnf); repeat ((first | refine Sw.o ?_ | refine B0 ?_); conv => whnf))))
                exact .intro <| W.of ⟨_, by simp only [LN] at h2; omega, _, _, u + 1, hu', rfl, rfl, rfl⟩ ⟨rfl, rfl, rfl, rfl, trivial⟩ ⟨rfl, rfl, trivial⟩
          · (repeat ((first | refine N0 ?_ | refine A0 fun γ => ?_ | refine C1 ?_ | refine C2 ?_ | refine C3 ?_ | refine C4 ?_ | refine C5 ?_ | refine C6 ?_ | refine C7 ?_ | refine D0 fun γs => ?_ | refine A1 fun γs => ?_ | refine N2 ?_ | refine N3 ?_ | refine N1 ?_); ((conv => whnf); repeat ((first | refine Sw.o ?_ | refine B0 ?_); conv => whnf))))
            exact .intro <| W.of ⟨_, by simp only [LN] at h1; omega, _, _, i + 1, hi', rfl, rfl, rfl⟩ ⟨rfl, rfl, rfl, trivial⟩ ⟨rfl, rfl, trivial⟩
      · (repeat ((first | refine N0 ?_ | refine A0 fun γ => ?_ | refine C1 ?_ | refine C2 ?_ | refine C3 ?_ | refine C4 ?_ | refine C5 ?_ | refine C6 ?_ | refine C7 ?_ | refine D0 fun γs => ?_ | refine A1 fun γs => ?_ | refine N2 ?_ | refine N3 ?_ | refine N1 ?_); ((conv => whnf); repeat ((first | refine Sw.o ?_ | refine B0 ?_); conv => whnf))))
        refine CallP.flat [] _ c11 awake11_ok rfl ?_
        ((conv => whnf); repeat ((first | refine Sw.o ?_ | refine B0 ?_); conv => whnf))
        (repeat ((first | refine N0 ?_ | refine A0 fun γ => ?_ | refine C1 ?_ | refine C2 ?_ | refine C3 ?_ | refine C4 ?_ | refine C5 ?_ | refine C6 ?_ | refine C7 ?_ | refine D0 fun γs => ?_ | refine A1 fun γs => ?_ | refine N2 ?_ | refine N3 ?_ | refine N1 ?_); ((conv => whnf); repeat ((first | refine Sw.o ?_ | refine B0 ?_); conv => whnf))))
        exact .of rfl
  · (repeat ((first | refine N0 ?_ | refine A0 fun γ => ?_ | refine C1 ?_ | refine C2 ?_ | refine C3 ?_ | refine C4 ?_ | refine C5 ?_ | refine C6 ?_ | refine C7 ?_ | refine D0 fun γs => ?_ | refine A1 fun γs => ?_ | refine N2 ?_ | refine N3 ?_ | refine N1 ?_); ((conv => whnf); repeat ((first | refine Sw.o ?_ | refine B0 ?_); conv => whnf))))
    refine CallP.flat [] _ c11 awake11_ok rfl ?_
    ((conv => whnf); repeat ((first | refine Sw.o ?_ | refine B0 ?_); conv => whnf))
    (repeat ((first | refine N0 ?_ | refine A0 fun γ => ?_ | refine C1 ?_ | refine C2 ?_ | refine C3 ?_ | refine C4 ?_ | refine C5 ?_ | refine C6 ?_ | refine C7 ?_ | refine D0 fun γs => ?_ | refine A1 fun γs => ?_ | refine N2 ?_ | refine N3 ?_ | refine N1 ?_); ((conv => whnf); repeat ((first | refine Sw.o ?_ | refine B0 ?_); conv => whnf))))
    exact .of rfl
end Go.Proofs.Ytgeeklnokblokaa
namespace Go.Proofs.Ytgeeklnokblokaa
open Go Go.Fw
theorem bl_cons (x y : UInt8) (a b : List UInt8) : Op.bytesLess (x :: a) (y :: b) = (decide (x < y) || (decide (x = y) && Op.bytesLess a b)) := by
  simp only [Op.bytesLess]
  by_cases h : x < y
  · simp [h]
  · by_cases h2 : x = y <;> simp [h, h2]
theorem bl_irr : ∀ a : List UInt8, Op.bytesLess a a = false
  | [] => by simp [Op.bytesLess]
  | x :: a => by rw [bl_cons, bl_irr a]; simp
theorem bl_trans : ∀ a b c : List UInt8, Op.bytesLess a b = true → Op.bytesLess b c = true → Op.bytesLess a c = true
  | [], [], c, h, _ => by simp [Op.bytesLess] at h
  | [], _ :: _, [], _, h => by simp [Op.bytesLess] at h
  | [], _ :: _, _ :: _, _, _ => by simp [Op.bytesLess]
  | _ :: _, [], _, h, _ => by simp [Op.bytesLess] at h
  | _ :: _, _ :: _, [], _, h => by simp [Op.bytesLess] at h
  | x :: a, y :: b, z :: c, h1, h2 => by
    rw [bl_cons] at h1 h2 ⊢
    simp only [Bool.or_eq_true, Bool.and_eq_true, decide_eq_true_eq] at h1 h2 ⊢
    rcases h1 with h1 | ⟨rfl, h1⟩ <;> rcases h2 with h2 | ⟨rfl, h2⟩
    · exact .inl (UInt8.lt_trans h1 h2)
    · exact .inl h1
    · exact .inl h2
    · exact .inr ⟨rfl, bl_trans a b c h1 h2⟩
theorem bf_irr (u : U) : beforeF u u = false := by unfold beforeF; simp
theorem bf_trans (u v w : U) (h1 : beforeF u v = true) (h2 : beforeF v w = true) : beforeF u w = true := by
  unfold beforeF at h1 h2 ⊢
  by_cases e1 : u.name = v.name
  · rw [decide_eq_true e1] at h1
    simp only at h1
    by_cases e2 : v.name = w.name
    · rw [decide_eq_true e2] at h2
      rw [decide_eq_true (e1.trans e2)]
      simp only at h2 ⊢
      by_cases p1 : u.pre = v.pre
      · rw [decide_eq_true p1] at h1
        by_cases p2 : v.pre = w.pre
        · rw [decide_eq_true p2] at h2
          rw [decide_eq_true (p1.trans p2)]
          simp only [decide_eq_true_eq] at h1 h2 ⊢
          omega
        · rw [decide_eq_false p2] at h2
          rw [decide_eq_false (fun q => p2 (p1.symm.trans q))]
          exact h2
      · rw [decide_eq_false p1] at h1
        simp only at h1
        by_cases p2 : v.pre = w.pre
        · rw [decide_eq_false (fun q => p1 (q.trans p2.symm))]
          simp only
          rw [← p2]; exact h1
        · rw [decide_eq_false p2] at h2
          simp only at h2
          exact absurd (h1.trans h2.symm) p2
    · rw [decide_eq_false e2] at h2
      rw [decide_eq_false (fun q => e2 (e1.symm.trans q)), e1]
      exact h2
  · rw [decide_eq_false e1] at h1
    simp only at h1
    by_cases e2 : v.name = w.name
    · rw [decide_eq_false (fun q => e1 (q.trans e2.symm))]
      simp only
      rw [← e2]; exact h1
    · rw [decide_eq_false e2] at h2
      simp only at h2
      have h3 := bl_trans _ _ _ h1 h2
      rw [decide_eq_false (fun q => by rw [q, bl_irr] at h3; cases h3)]
      exact h3
theorem eqsV_all : ∀ (l : List ByteArray) (p : Option ByteArray), eqsV p l = true → (∀ s ∈ l, ltE p s = true) ∧ l.Nodup
  | [], _, _ => ⟨fun s h => absurd h (by simp), by simp⟩
  | s :: r, p, h => by
    unfold eqsV at h
    simp only [Bool.and_eq_true] at h
    obtain ⟨⟨_, h1⟩, h2⟩ := h
    obtain ⟨h3, h4⟩ := eqsV_all r (some s) h2
    refine ⟨fun x hx => ?_, List.nodup_cons.2 ⟨fun hm => ?_, h4⟩⟩
    · rcases List.mem_cons.1 hx with rfl | hx
      · exact h1
      · cases p with
        | none => rfl
        | some q => exact bl_trans _ _ _ h1 (h3 x hx)
    · have := h3 s hm
      have h5 : Op.bytesLess s.toList s.toList = true := this
      rw [bl_irr] at h5; cases h5
theorem usesV_all : ∀ (l : List U) (p : Option U), usesV p l = true → (∀ s ∈ l, ltU p s = true) ∧ l.Nodup
  | [], _, _ => ⟨fun s h => absurd h (by simp), by simp⟩
  | s :: r, p, h => by
    unfold usesV at h
    simp only [Bool.and_eq_true] at h
    obtain ⟨⟨_, h1⟩, h2⟩ := h
    obtain ⟨h3, h4⟩ := usesV_all r (some s) h2
    refine ⟨fun x hx => ?_, List.nodup_cons.2 ⟨fun hm => ?_, h4⟩⟩
    · rcases List.mem_cons.1 hx with rfl | hx
      · exact h1
      · cases p with
        | none => rfl
        | some q => exact bf_trans _ _ _ h1 (h3 x hx)
    · have := h3 s hm
      have h5 : beforeF s s = true := this
      rw [bf_irr] at h5; cases h5
theorem nodup_of {g : G} (h : checkF g = 0) : g.eqs.Nodup ∧ g.uses.Nodup := by
  have hv := (check_wf h).2.1
  unfold validG at hv
  simp only [Bool.and_eq_true] at hv
  exact ⟨(eqsV_all _ _ hv.1.1.2).2, (usesV_all _ _ hv.1.2).2⟩
theorem pick_sub {α : Type} (bs : List Bool) (xs : List α) : ∀ x ∈ pick bs xs, x ∈ xs := by
  intro x hx
  unfold pick at hx
  obtain ⟨⟨b, y⟩, hy, rfl⟩ := List.mem_map.1 hx
  exact (List.of_mem_zip (List.mem_filter.1 hy).1).2
theorem any_pick {α : Type} [DecidableEq α] : ∀ (bs : List Bool) (xs : List α), xs.Nodup → bs.length = xs.length → ∀ (i : Nat) (h : i < xs.length), ((pick bs xs).any fun x => decide (x = xs[i])) = bs.getD i false
  | [], [], _, _, i, h => absurd h (by simp)
  | b :: bs, x :: xs, hn, hl, i, h => by
    rw [List.nodup_cons] at hn
    rw [pick_cons, List.any_append]
    cases i with
    | zero =>
      have h2 : ((pick bs xs).any fun y => decide (y = x)) = false := by
        rw [List.any_eq_false]
        intro y hy
        have : y ≠ x := fun e => hn.1 (e ▸ pick_sub bs xs y hy)
        simp [this]
      simp only [List.getElem_cons_zero, h2, Bool.or_false, List.getD_cons_zero]
      cases b <;> simp
    | succ i =>
      have hi : i < xs.length := by simpa using h
      have ih := any_pick bs xs hn.2 (by simpa using hl) i hi
      simp only [List.getElem_cons_succ, List.getD_cons_succ]
      rw [ih]
      have : x ≠ xs[i] := fun e => hn.1 (e ▸ List.getElem_mem hi)
      cases b <;> simp [this]
theorem cnt_three : ∀ (a d : List Bool), a.length = d.length → (∀ i, a.getD i false = true → d.getD i false = true → False) → cntT a + cntT (restF a d) + cntT d = a.length := by
  intro a d hl hno
  rw [cntT_range a, cntT_range d, cntT_range (restF a d), restF_len, ← hl]
  have h1 : (List.range a.length).filter (fun i => (restF a d).getD i false) = ((List.range a.length).filter fun i => !a.getD i false).filter fun i => !d.getD i false := by
    rw [List.filter_filter]
    refine List.filter_congr fun i hi => ?_
    rw [restF_getD]
    have := List.mem_range.1 hi
    simp [this, Bool.and_comm]
  have h2 : (List.range a.length).filter (fun i => d.getD i false) = ((List.range a.length).filter fun i => !a.getD i false).filter fun i => d.getD i false := by
    rw [List.filter_filter]
    refine List.filter_congr fun i hi => ?_
    cases h3 : d.getD i false with
    | false => rfl
    | true =>
      cases h4 : a.getD i false with
      | false => rfl
      | true => exact (hno i h4 h3).elim
  rw [h1, h2]
  have s1 := filter_split (fun i => a.getD i false) (List.range a.length)
  have s2 := filter_split (fun i => d.getD i false) ((List.range a.length).filter fun i => !a.getD i false)
  simp only [List.length_range] at s1
  omega
theorem cnt_two (a : List Bool) : cntT a + cntT (restF a a) = a.length := by
  have h1 : restF a a = restF a (List.replicate a.length false) := by
    refine ext_getD (d := false) (by simp [restF_len]) fun i _ => ?_
    rw [restF_getD, restF_getD, getD_rep']
    simp
  have := cnt_three a (List.replicate a.length false) (by simp) (fun i _ h => by rw [getD_rep'] at h; cases h)
  rw [← h1] at this
  have h2 : cntT (List.replicate a.length false) = 0 := by simp [cntT, List.countP_replicate]
  omega
/-- The three parts by numbers. -/
structure Th (g : G) (k A C D B WE WU : Nat) : Prop where
  e : A + WE + D = g.eqs.length
  u : C + WU + B = g.uses.length
  o : A + k = g.eqs.length + C
  n : B + k = g.uses.length + D
  w : WE = WU
  o0 : 0 < A + C ↔ C < A
  n0 : 0 < D + B ↔ D < B
theorem cnt_zero {l : List Bool} (h : ∀ i, l.getD i false = false) : cntT l = 0 := by
  rw [cntT_range]
  have : (List.range l.length).filter (fun i => l.getD i false) = [] := List.filter_eq_nil_iff.2 fun i _ => by rw [h i]; simp
  rw [this]; rfl
theorem Rt.three {g : G} {k : Nat} (h : Rt g k) : Th g k (cntT (halvesF g).1) (cntT (joinedF g (halvesF g).1)) (cntT (touchF g (halvesF g).2)) (cntT (halvesF g).2)
    (cntT (restF (halvesF g).1 (touchF g (halvesF g).2))) (cntT (restF (joinedF g (halvesF g).1) (halvesF g).2)) := by
  have l1 := halvesF_len1 g
  have l2 := halvesF_len2 g
  have l3 := joinedF_len g (halvesF g).1
  have l4 := touchF_len g (halvesF g).2
  have hl := h.wf.len
  have s1 := cnt_three (halvesF g).1 (touchF g (halvesF g).2) (by omega) h.pa.noE
  have s2 := cnt_three (joinedF g (halvesF g).1) (halvesF g).2 (by omega) h.pa.noU
  have s3 := cnt_two (halvesF g).1
  have s4 := cnt_two (halvesF g).2
  have o := h.pa.over
  have n := h.pa.under
  have k1 := h.pa.le1
  have k2 := h.pa.le2
  have z1 : k = g.eqs.length → cntT (halvesF g).1 = 0 := fun q => cnt_zero (h.pa.none1 q)
  have z2 : k = g.uses.length → cntT (halvesF g).2 = 0 := fun q => cnt_zero (h.pa.none2 q)
  rw [l1] at s1 s3
  rw [l3] at s2
  rw [l2] at s4
  refine ⟨s1, s2, by omega, by omega, by omega, ?_, ?_⟩
  · by_cases q : k = g.eqs.length
    · have := z1 q; omega
    · omega
  · by_cases q : k = g.uses.length
    · have := z2 q; omega
    · omega
end Go.Proofs.Ytgeeklnokblokaa
namespace Go.Proofs.Ytgeeklnokblokaa
open Go Go.Fw
def one3 (a b c : Bool) : Int := if a && !b && !c then 0 else if b && !a && !c then 1 else if c && !a && !b then 2 else -1
/-- What a statement sees of the three parts: x, y are in the first one, z, v in the last one. -/
structure P3 (g : G) (k : Nat) (Q : Pt × Pt × Pt × Int) (x z y v : Nat → Bool) : Prop where
  ok : Q.2.2.2 = 0
  th : Th g k Q.1.eqs.length Q.1.uses.length Q.2.2.1.eqs.length Q.2.2.1.uses.length Q.2.1.eqs.length Q.2.1.uses.length
  e : ∀ (i : Nat) (h : i < g.eqs.length), (Q.1.eqs.any fun s => decide (s = g.eqs[i])) = x i ∧ (Q.2.1.eqs.any fun s => decide (s = g.eqs[i])) = (!x i && !z i) ∧ (Q.2.2.1.eqs.any fun s => decide (s = g.eqs[i])) = z i
  u : ∀ (i : Nat) (h : i < g.uses.length), (Q.1.uses.any fun s => decide (s = g.uses[i])) = y i ∧ (Q.2.1.uses.any fun s => decide (s = g.uses[i])) = (!y i && !v i) ∧ (Q.2.2.1.uses.any fun s => decide (s = g.uses[i])) = v i
  xz : ∀ i, x i = true → z i = true → False
  yv : ∀ i, y i = true → v i = true → False
  go : ∀ e u : Nat, x e = true → (u : Int) ∈ jn g e → y u = true
  goU : ∀ e u : Nat, v u = true → (u : Int) ∈ jn g e → z e = true
theorem Rt.p3 {g : G} {k : Nat} (h : Rt g k) : ∃ x z y v, P3 g k (partsF g) x z y v := by
  have l1 := halvesF_len1 g
  have l2 := halvesF_len2 g
  have l3 := joinedF_len g (halvesF g).1
  have l4 := touchF_len g (halvesF g).2
  have hl := h.wf.len
  obtain ⟨n1, n2⟩ := nodup_of h.c0
  have hp : partsF g = (partF g (halvesF g).1 (joinedF g (halvesF g).1), partF g (restF (halvesF g).1 (touchF g (halvesF g).2)) (restF (joinedF g (halvesF g).1) (halvesF g).2), partF g (touchF g (halvesF g).2) (halvesF g).2, 0) := by
    unfold partsF; rw [decide_eq_true h.c0]
  have th := h.three
  refine ⟨fun i => (halvesF g).1.getD i false, fun i => (touchF g (halvesF g).2).getD i false, fun u => (joinedF g (halvesF g).1).getD u false, fun u => (halvesF g).2.getD u false, ?_, ?_, fun i hi => ⟨?_, ?_, ?_⟩, fun i hi => ⟨?_, ?_, ?_⟩, h.pa.noE, h.pa.noU, h.pa.goE, h.pa.goU⟩
  · rw [hp]
  · rw [hp]
    have e1 := pick_len (halvesF g).1 g.eqs l1
    have e2 := pick_len (joinedF g (halvesF g).1) g.uses l3
    have e3 := pick_len (touchF g (halvesF g).2) g.eqs (by omega)
    have e4 := pick_len (halvesF g).2 g.uses l2
    have e5 := pick_len (restF (halvesF g).1 (touchF g (halvesF g).2)) g.eqs (by rw [restF_len]; omega)
    have e6 := pick_len (restF (joinedF g (halvesF g).1) (halvesF g).2) g.uses (by rw [restF_len]; omega)
    show Th g k (pick _ _).length (pick _ _).length (pick _ _).length (pick _ _).length (pick _ _).length (pick _ _).length
    rw [e1, e2, e3, e4, e5, e6]
    exact th
  · rw [hp]; exact any_pick _ _ n1 l1 i hi
  · rw [hp]
    have := any_pick (restF (halvesF g).1 (touchF g (halvesF g).2)) g.eqs n1 (by rw [restF_len]; omega) i hi
    rw [restF_getD, l1, decide_eq_true hi, Bool.true_and] at this
    exact this
  · rw [hp]; exact any_pick _ _ n1 (by omega) i hi
  · rw [hp]; exact any_pick _ _ n2 l3 i hi
  · rw [hp]
    have := any_pick (restF (joinedF g (halvesF g).1) (halvesF g).2) g.uses n2 (by rw [restF_len]; omega) i hi
    rw [restF_getD, l3, decide_eq_true hi, Bool.true_and] at this
    exact this
  · rw [hp]; exact any_pick _ _ n2 l2 i hi
theorem one3_sp (x z : Bool) (h : x = true → z = true → False) : (one3 x (!x && !z) z = 0 ∧ x = true) ∨ (one3 x (!x && !z) z = 1 ∧ x = false ∧ z = false) ∨ (one3 x (!x && !z) z = 2 ∧ z = true ∧ x = false) := by
  cases x <;> cases z
  · exact .inr (.inl ⟨rfl, rfl, rfl⟩)
  · exact .inr (.inr ⟨rfl, rfl, rfl⟩)
  · exact .inl ⟨rfl, rfl⟩
  · exact (h rfl rfl).elim
theorem one3_ok (a b c : Bool) : PureCall Try.prog 23 [encB a, encB b, encB c] (encI (one3 a b c)) := one_ok a b c
set_option maxHeartbeats 8000000 in
set_option maxRecDepth 100000 in
theorem MatchThree_ok (g : G) (hz : Sz g) : PureCall Try.prog 4 [encG g] (encB true) := by
  refine pure_cp (E := E 0) T_ok (D_ok 0) [] Try.func4 rfl (by rfl) (Nat.le_of_ble_eq_true rfl) ?_
  ((conv => whnf); repeat ((first | refine Sw.o ?_ | refine B0 ?_); conv => whnf))
  (repeat ((first | refine N0 ?_ | refine A0 fun γ => ?_ | refine C1 ?_ | refine C2 ?_ | refine C3 ?_ | refine C4 ?_ | refine C5 ?_ | refine C6 ?_ | refine C7 ?_ | refine D0 fun γs => ?_ | refine A1 fun γs => ?_ | refine N2 ?_ | refine N3 ?_ | refine N1 ?_); ((conv => whnf); repeat ((first | refine Sw.o ?_ | refine B0 ?_); conv => whnf))))
  refine CallP.flat [] _ c20 (right_ok g hz) rfl ?_
  ((conv => whnf); repeat ((first | refine Sw.o ?_ | refine B0 ?_); conv => whnf))
  (repeat ((first | refine N0 ?_ | refine A0 fun γ => ?_ | refine C1 ?_ | refine C2 ?_ | refine C3 ?_ | refine C4 ?_ | refine C5 ?_ | refine C6 ?_ | refine C7 ?_ | refine D0 fun γs => ?_ | refine A1 fun γs => ?_ | refine N2 ?_ | refine N3 ?_ | refine N1 ?_); ((conv => whnf); repeat ((first | refine Sw.o ?_ | refine B0 ?_); conv => whnf))))
  refine CondP.dec (fun h => ?_) (fun h => ?_) <;> ((conv => whnf); repeat ((first | refine Sw.o ?_ | refine B0 ?_); conv => whnf))
  · (repeat ((first | refine N0 ?_ | refine A0 fun γ => ?_ | refine C1 ?_ | refine C2 ?_ | refine C3 ?_ | refine C4 ?_ | refine C5 ?_ | refine C6 ?_ | refine C7 ?_ | refine D0 fun γs => ?_ | refine A1 fun γs => ?_ | refine N2 ?_ | refine N3 ?_ | refine N1 ?_); ((conv => whnf); repeat ((first | refine Sw.o ?_ | refine B0 ?_); conv => whnf))))
    obtain ⟨k, hr⟩ := rt h.1
    have hg := hr.wf
    have su := hg.su
    have se := hg.se
    have hjl := hg.len
    have k1 := hr.pa.le1
    have k2 := hr.pa.le2
    obtain ⟨x, z, y, v, hq⟩ := hr.p3
    refine CallP.pure [] _ c21 (parts21_ok g hz (halv g)) ?_
    generalize partsF g = Q at hq ⊢
    ((conv => whnf); repeat ((first | refine Sw.o ?_ | refine B0 ?_); conv => whnf))
    (repeat ((first | refine N0 ?_ | refine A0 fun γ => ?_ | refine C1 ?_ | refine C2 ?_ | refine C3 ?_ | refine C4 ?_ | refine C5 ?_ | refine C6 ?_ | refine C7 ?_ | refine D0 fun γs => ?_ | refine A1 fun γs => ?_ | refine N2 ?_ | refine N3 ?_ | refine N1 ?_); ((conv => whnf); repeat ((first | refine Sw.o ?_ | refine B0 ?_); conv => whnf))))
    refine CallP.pure [] _ c12 (match12_ok g hz) ?_
    rw [hr.m]
    ((conv => whnf); repeat ((first | refine Sw.o ?_ | refine B0 ?_); conv => whnf))
    (repeat ((first | refine N0 ?_ | refine A0 fun γ => ?_ | refine C1 ?_ | refine C2 ?_ | refine C3 ?_ | refine C4 ?_ | refine C5 ?_ | refine C6 ?_ | refine C7 ?_ | refine D0 fun γs => ?_ | refine A1 fun γs => ?_ | refine N2 ?_ | refine N3 ?_ | refine N1 ?_); ((conv => whnf); repeat ((first | refine Sw.o ?_ | refine B0 ?_); conv => whnf))))
    refine CallP.pure [] _ c22 (matched_ok g hg _ hr.ml) ?_
    rw [hr.nn]
    ((conv => whnf); repeat ((first | refine Sw.o ?_ | refine B0 ?_); conv => whnf))
    have q0 := hq.ok
    obtain ⟨t1, t2, t3, t4, t5, t6, t7⟩ := hq.th
    have f1 : ((Q.1.eqs.map encS).length : Int) + ((Q.2.1.eqs.map encS).length : Int) + ((Q.2.2.1.eqs.map encS).length : Int) = ((g.eqs.map encS).length : Int) := by simp only [List.length_map]; omega
    have f2 : ((Q.1.uses.map encU).length : Int) + ((Q.2.1.uses.map encU).length : Int) + ((Q.2.2.1.uses.map encU).length : Int) = ((g.uses.map encU).length : Int) := by simp only [List.length_map]; omega
    have f3 : ((Q.1.eqs.map encS).length : Int) - ((Q.1.uses.map encU).length : Int) = ((g.eqs.map encS).length : Int) - (k : Int) := by simp only [List.length_map]; omega
    have f4 : ((Q.2.2.1.uses.map encU).length : Int) - ((Q.2.2.1.eqs.map encS).length : Int) = ((g.uses.map encU).length : Int) - (k : Int) := by simp only [List.length_map]; omega
    have f5 : ((Q.2.1.eqs.map encS).length : Int) = ((Q.2.1.uses.map encU).length : Int) := by simp only [List.length_map]; omega
    have f6 : (decide ((0 : Int) < ((Q.1.eqs.map encS).length : Int) + ((Q.1.uses.map encU).length : Int)) == decide (((Q.1.uses.map encU).length : Int) < ((Q.1.eqs.map encS).length : Int))) = true := by
      rw [beq_iff_eq, decide_eq_decide]
      simp only [List.length_map]; omega
    have f7 : (decide ((0 : Int) < ((Q.2.2.1.eqs.map encS).length : Int) + ((Q.2.2.1.uses.map encU).length : Int)) == decide (((Q.2.2.1.eqs.map encS).length : Int) < ((Q.2.2.1.uses.map encU).length : Int))) = true := by
      rw [beq_iff_eq, decide_eq_decide]
      simp only [List.length_map]; omega
    (repeat ((first | refine N0 ?_ | refine A0 fun γ => ?_ | refine C1 ?_ | refine C2 ?_ | refine C3 ?_ | refine C4 ?_ | refine C5 ?_ | refine C6 ?_ | refine C7 ?_ | refine D0 fun γs => ?_ | refine A1 fun γs => ?_ | refine N2 ?_ | refine N3 ?_ | refine N1 ?_); ((conv => whnf); repeat ((first | refine Sw.o ?_ | refine B0 ?_); conv => whnf))))
    refine LoopP.intro (fun n σ H => ∃ p1 p3 p4 p5 i, i ≤ g.eqs.length ∧ n = g.eqs.length - i ∧ σ = fr [(1, .op 1 p1 0 0), (3, .op 3 p3 0 0), (4, .op 4 p4 0 0), (5, .op 5 p5 0 0), (11, encI i)] ∧ H = hp [(1, p1, ⟨26, 3, [encG g]⟩), (3, p3, ⟨41, 2, [encP Q.1]⟩), (4, p4, ⟨41, 2, [encP Q.2.1]⟩), (5, p5, ⟨41, 2, [encP Q.2.2.1]⟩)]) ?_ ?_
    · exact .intro <| W.of ⟨_, _, _, _, _, 0, Nat.zero_le _, rfl, rfl, rfl⟩ ⟨rfl, rfl, rfl, rfl, rfl, trivial⟩ ⟨rfl, rfl, rfl, rfl, trivial⟩
    · rintro n σ H ⟨p1, p3, p4, p5, i, hi, rfl, rfl, rfl⟩
      ((conv => whnf); repeat ((first | refine Sw.o ?_ | refine B0 ?_); conv => whnf))
      (repeat ((first | refine N0 ?_ | refine A0 fun γ => ?_ | refine C1 ?_ | refine C2 ?_ | refine C3 ?_ | refine C4 ?_ | refine C5 ?_ | refine C6 ?_ | refine C7 ?_ | refine D0 fun γs => ?_ | refine A1 fun γs => ?_ | refine N2 ?_ | refine N3 ?_ | refine N1 ?_); ((conv => whnf); repeat ((first | refine Sw.o ?_ | refine B0 ?_); conv => whnf))))
      refine CondP.dec (fun h1 => ?_) (fun h1 => ?_) <;> ((conv => whnf); repeat ((first | refine Sw.o ?_ | refine B0 ?_); conv => whnf))
      · have hi' : i < g.eqs.length := by simp only [LN] at h1; omega
        have hij : i < g.joined.length := by omega
        have hsl := hg.sl _ (List.getElem_mem hij)
        obtain ⟨b1, b2, b3⟩ := hq.e i hi'
        have a1 := hasEq_ok Q.1 g.eqs[i] (by omega)
        have a2 := hasEq_ok Q.2.1 g.eqs[i] (by omega)
        have a3 := hasEq_ok Q.2.2.1 g.eqs[i] (by omega)
        rw [b1] at a1
        rw [b2] at a2
        rw [b3] at a3
        (repeat ((first | refine N0 ?_ | refine A0 fun γ => ?_ | refine C1 ?_ | refine C2 ?_ | refine C3 ?_ | refine C4 ?_ | refine C5 ?_ | refine C6 ?_ | refine C7 ?_ | refine D0 fun γs => ?_ | refine A1 fun γs => ?_ | refine N2 ?_ | refine N3 ?_ | refine N1 ?_ | simp (disch := omega) only [LG]); ((conv => whnf); repeat ((first | refine Sw.o ?_ | refine B0 ?_); conv => whnf))))
        refine CallG.intro (encB (x i)) c24 a1 ?_
        ((conv => whnf); repeat ((first | refine Sw.o ?_ | refine B0 ?_); conv => whnf))
        (repeat ((first | refine N0 ?_ | refine A0 fun γ => ?_ | refine C1 ?_ | refine C2 ?_ | refine C3 ?_ | refine C4 ?_ | refine C5 ?_ | refine C6 ?_ | refine C7 ?_ | refine D0 fun γs => ?_ | refine A1 fun γs => ?_ | refine N2 ?_ | refine N3 ?_ | refine N1 ?_ | simp (disch := omega) only [LG]); ((conv => whnf); repeat ((first | refine Sw.o ?_ | refine B0 ?_); conv => whnf))))
        refine CallG.intro (encB (!x i && !z i)) c24 a2 ?_
        ((conv => whnf); repeat ((first | refine Sw.o ?_ | refine B0 ?_); conv => whnf))
        (repeat ((first | refine N0 ?_ | refine A0 fun γ => ?_ | refine C1 ?_ | refine C2 ?_ | refine C3 ?_ | refine C4 ?_ | refine C5 ?_ | refine C6 ?_ | refine C7 ?_ | refine D0 fun γs => ?_ | refine A1 fun γs => ?_ | refine N2 ?_ | refine N3 ?_ | refine N1 ?_ | simp (disch := omega) only [LG]); ((conv => whnf); repeat ((first | refine Sw.o ?_ | refine B0 ?_); conv => whnf))))
        refine CallG.intro (encB (z i)) c24 a3 ?_
        ((conv => whnf); repeat ((first | refine Sw.o ?_ | refine B0 ?_); conv => whnf))
        (repeat ((first | refine N0 ?_ | refine A0 fun γ => ?_ | refine C1 ?_ | refine C2 ?_ | refine C3 ?_ | refine C4 ?_ | refine C5 ?_ | refine C6 ?_ | refine C7 ?_ | refine D0 fun γs => ?_ | refine A1 fun γs => ?_ | refine N2 ?_ | refine N3 ?_ | refine N1 ?_ | simp (disch := omega) only [LG]); ((conv => whnf); repeat ((first | refine Sw.o ?_ | refine B0 ?_); conv => whnf))))
        refine CallG.intro (encI (one3 (x i) (!x i && !z i) (z i))) c23 (one3_ok (x i) (!x i && !z i) (z i)) ?_
        ((conv => whnf); repeat ((first | refine Sw.o ?_ | refine B0 ?_); conv => whnf))
        (repeat ((first | refine N0 ?_ | refine A0 fun γ => ?_ | refine C1 ?_ | refine C2 ?_ | refine C3 ?_ | refine C4 ?_ | refine C5 ?_ | refine C6 ?_ | refine C7 ?_ | refine D0 fun γs => ?_ | refine A1 fun γs => ?_ | refine N2 ?_ | refine N3 ?_ | refine N1 ?_ | simp (disch := omega) only [LG]); ((conv => whnf); repeat ((first | refine Sw.o ?_ | refine B0 ?_); conv => whnf))))
        refine LoopP.intro (fun n σ H => ∃ p1 p3 p4 p5 u, u ≤ g.uses.length ∧ n = g.uses.length - u ∧ σ = fr [(1, .op 1 p1 0 0), (3, .op 3 p3 0 0), (4, .op 4 p4 0 0), (5, .op 5 p5 0 0), (11, encI i), (12, encI (one3 (x i) (!x i && !z i) (z i))), (13, encI u)] ∧ H = hp [(1, p1, ⟨26, 3, [encG g]⟩), (3, p3, ⟨41, 2, [encP Q.1]⟩), (4, p4, ⟨41, 2, [encP Q.2.1]⟩), (5, p5, ⟨41, 2, [encP Q.2.2.1]⟩)]) ?_ ?_
        · exact .intro <| W.of ⟨_, _, _, _, _, 0, Nat.zero_le _, rfl, rfl, rfl⟩ ⟨rfl, rfl, rfl, rfl, rfl, rfl, rfl, trivial⟩ ⟨rfl, rfl, rfl, rfl, trivial⟩
        · rintro n σ H ⟨p1, p3, p4, p5, u, hu, rfl, rfl, rfl⟩
          ((conv => whnf); repeat ((first | refine Sw.o ?_ | refine B0 ?_); conv => whnf))
          (repeat ((first | refine N0 ?_ | refine A0 fun γ => ?_ | refine C1 ?_ | refine C2 ?_ | refine C3 ?_ | refine C4 ?_ | refine C5 ?_ | refine C6 ?_ | refine C7 ?_ | refine D0 fun γs => ?_ | refine A1 fun γs => ?_ | refine N2 ?_ | refine N3 ?_ | refine N1 ?_); ((conv => whnf); repeat ((first | refine Sw.o ?_ | refine B0 ?_); conv => whnf))))
          refine CondP.dec (fun h2 => ?_) (fun h2 => ?_) <;> ((conv => whnf); repeat ((first | refine Sw.o ?_ | refine B0 ?_); conv => whnf))
          · have hu' : u < g.uses.length := by simp only [LN] at h2; omega
            obtain ⟨d1, d2, d3⟩ := hq.u u hu'
            have w1 := hasUse_ok Q.1 g.uses[u] (by omega)
            have w2 := hasUse_ok Q.2.1 g.uses[u] (by omega)
            have w3 := hasUse_ok Q.2.2.1 g.uses[u] (by omega)
            rw [d1] at w1
            rw [d2] at w2
            rw [d3] at w3
            have wj := lawJoined_ok g i u hij (by omega)
            have hj : (g.joined[i].any fun x => decide (x = (u : Int))) = true → (u : Int) ∈ jn g i := fun q => by
              obtain ⟨s, hx, hq⟩ := List.any_eq_true.1 q
              have hx2 : s = (u : Int) := by simpa using hq
              unfold jn
              rw [Int.toNat_natCast, getD_lt _ _ _ hij, ← hx2]; exact hx
            generalize (g.joined[i].any fun x => decide (x = (u : Int))) = bj at wj hj
            (repeat ((first | refine N0 ?_ | refine A0 fun γ => ?_ | refine C1 ?_ | refine C2 ?_ | refine C3 ?_ | refine C4 ?_ | refine C5 ?_ | refine C6 ?_ | refine C7 ?_ | refine D0 fun γs => ?_ | refine A1 fun γs => ?_ | refine N2 ?_ | refine N3 ?_ | refine N1 ?_ | simp (disch := omega) only [LG]); ((conv => whnf); repeat ((first | refine Sw.o ?_ | refine B0 ?_); conv => whnf))))
            refine CallG.intro (encB (y u)) c25 w1 ?_
            ((conv => whnf); repeat ((first | refine Sw.o ?_ | refine B0 ?_); conv => whnf))
            (repeat ((first | refine N0 ?_ | refine A0 fun γ => ?_ | refine C1 ?_ | refine C2 ?_ | refine C3 ?_ | refine C4 ?_ | refine C5 ?_ | refine C6 ?_ | refine C7 ?_ | refine D0 fun γs => ?_ | refine A1 fun γs => ?_ | refine N2 ?_ | refine N3 ?_ | refine N1 ?_ | simp (disch := omega) only [LG]); ((conv => whnf); repeat ((first | refine Sw.o ?_ | refine B0 ?_); conv => whnf))))
            refine CallG.intro (encB (!y u && !v u)) c25 w2 ?_
            ((conv => whnf); repeat ((first | refine Sw.o ?_ | refine B0 ?_); conv => whnf))
            (repeat ((first | refine N0 ?_ | refine A0 fun γ => ?_ | refine C1 ?_ | refine C2 ?_ | refine C3 ?_ | refine C4 ?_ | refine C5 ?_ | refine C6 ?_ | refine C7 ?_ | refine D0 fun γs => ?_ | refine A1 fun γs => ?_ | refine N2 ?_ | refine N3 ?_ | refine N1 ?_ | simp (disch := omega) only [LG]); ((conv => whnf); repeat ((first | refine Sw.o ?_ | refine B0 ?_); conv => whnf))))
            refine CallG.intro (encB (v u)) c25 w3 ?_
            ((conv => whnf); repeat ((first | refine Sw.o ?_ | refine B0 ?_); conv => whnf))
            (repeat ((first | refine N0 ?_ | refine A0 fun γ => ?_ | refine C1 ?_ | refine C2 ?_ | refine C3 ?_ | refine C4 ?_ | refine C5 ?_ | refine C6 ?_ | refine C7 ?_ | refine D0 fun γs => ?_ | refine A1 fun γs => ?_ | refine N2 ?_ | refine N3 ?_ | refine N1 ?_ | simp (disch := omega) only [LG]); ((conv => whnf); repeat ((first | refine Sw.o ?_ | refine B0 ?_); conv => whnf))))
            refine CallG.intro (encI (one3 (y u) (!y u && !v u) (v u))) c23 (one3_ok (y u) (!y u && !v u) (v u)) ?_
            have hA := one3_sp (x i) (z i) (hq.xz i)
            have hB := one3_sp (y u) (v u) (hq.yv u)
            generalize one3 (x i) (!x i && !z i) (z i) = A at hA ⊢
            generalize one3 (y u) (!y u && !v u) (v u) = B at hB ⊢
            have hA0 : 0 ≤ A ∧ A ≤ 2 := by rcases hA with ⟨q, _⟩ | ⟨q, _⟩ | ⟨q, _⟩ <;> omega
            have hB0 : 0 ≤ B ∧ B ≤ 2 := by rcases hB with ⟨q, _⟩ | ⟨q, _⟩ | ⟨q, _⟩ <;> omega
            have hAB : bj = true → (A = 0 → B = 0) ∧ (A = 1 → B ≠ 2) := fun q => by
              refine ⟨fun qa => ?_, fun qa qb => ?_⟩
              · have hx : x i = true := by rcases hA with ⟨q, h⟩ | ⟨q, _⟩ | ⟨q, _⟩ <;> first | exact h | omega
                have hy := hq.go i u hx (hj q)
                rcases hB with ⟨q, h⟩ | ⟨_, h, _⟩ | ⟨_, _, h⟩
                · exact q
                · rw [hy] at h; cases h
                · rw [hy] at h; cases h
              · have hv : v u = true := by rcases hB with ⟨q, h⟩ | ⟨q, _⟩ | ⟨q, h, _⟩ <;> first | exact h | omega
                have hzt := hq.goU i u hv (hj q)
                rcases hA with ⟨q, h⟩ | ⟨q, _, h⟩ | ⟨q, _⟩
                · omega
                · rw [hzt] at h; cases h
                · omega
            ((conv => whnf); repeat ((first | refine Sw.o ?_ | refine B0 ?_); conv => whnf))
            (repeat ((first | refine N0 ?_ | refine A0 fun γ => ?_ | with_reducible refine C1 ?_ | with_reducible refine C2 ?_ | with_reducible refine C3 ?_ | refine C8 ?_ | refine C9 ?_ | refine C6 ?_ | refine C7 ?_ | refine D0 fun γs => ?_ | refine A1 fun γs => ?_ | refine N2 ?_ | refine N3 ?_ | refine N1 ?_ | simp (disch := omega) only [LG]); ((conv => whnf); repeat ((first | refine Sw.o ?_ | refine B0 ?_); conv => whnf))))
            refine CallP.flat [] (encB bj) c26 wj rfl ?_
            cases bj with
            | false =>
              ((conv => whnf); repeat ((first | refine Sw.o ?_ | refine B0 ?_); conv => whnf))
              (repeat ((first | refine N0 ?_ | refine A0 fun γ => ?_ | with_reducible refine C1 ?_ | with_reducible refine C2 ?_ | with_reducible refine C3 ?_ | refine C8 ?_ | refine C9 ?_ | refine C6 ?_ | refine C7 ?_ | refine A1 fun γs => ?_ | refine N2 ?_ | refine N3 ?_ | refine N1 ?_); ((conv => whnf); repeat ((first | refine Sw.o ?_ | refine B0 ?_); conv => whnf))))
              exact .intro <| W.of ⟨_, by simp only [LN] at h2; omega, _, _, _, _, u + 1, hu', rfl, rfl, rfl⟩ ⟨rfl, rfl, rfl, rfl, rfl, rfl, rfl, trivial⟩ ⟨rfl, rfl, rfl, rfl, trivial⟩
            | true =>
              obtain ⟨hab1, hab2⟩ := hAB rfl
              ((conv => whnf); repeat ((first | refine Sw.o ?_ | refine B0 ?_); conv => whnf))
              (repeat (any_goals (first | ((first | refine N0 ?_ | refine A0 fun γ => ?_ | with_reducible refine C1 ?_ | with_reducible refine C2 ?_ | with_reducible refine C3 ?_ | refine C8 ?_ | refine C9 ?_ | refine C6 ?_ | refine C7 ?_ | refine A1 fun γs => ?_ | refine N2 ?_ | refine N3 ?_ | refine N1 ?_); ((conv => whnf); repeat ((first | refine Sw.o ?_ | refine B0 ?_); conv => whnf))) | (refine CondP.dec (fun _ => ?_) (fun _ => ?_) <;> ((conv => whnf); repeat ((first | refine Sw.o ?_ | refine B0 ?_); conv => whnf))))))
              all_goals exact .intro <| W.of ⟨_, by simp only [LN] at h2; omega, _, _, _, _, u + 1, hu', rfl, rfl, rfl⟩ ⟨rfl, rfl, rfl, rfl, rfl, rfl, rfl, trivial⟩ ⟨rfl, rfl, rfl, rfl, trivial⟩
          · (repeat ((first | refine N0 ?_ | refine A0 fun γ => ?_ | refine C1 ?_ | refine C2 ?_ | refine C3 ?_ | refine C4 ?_ | refine C5 ?_ | refine C6 ?_ | refine C7 ?_ | refine D0 fun γs => ?_ | refine A1 fun γs => ?_ | refine N2 ?_ | refine N3 ?_ | refine N1 ?_); ((conv => whnf); repeat ((first | refine Sw.o ?_ | refine B0 ?_); conv => whnf))))
            exact .intro <| W.of ⟨_, by simp only [LN] at h1; omega, _, _, _, _, i + 1, hi', rfl, rfl, rfl⟩ ⟨rfl, rfl, rfl, rfl, rfl, trivial⟩ ⟨rfl, rfl, rfl, rfl, trivial⟩
      · (repeat ((first | refine N0 ?_ | refine A0 fun γ => ?_ | refine C1 ?_ | refine C2 ?_ | refine C3 ?_ | refine C4 ?_ | refine C5 ?_ | refine C6 ?_ | refine C7 ?_ | refine D0 fun γs => ?_ | refine A1 fun γs => ?_ | refine N2 ?_ | refine N3 ?_ | refine N1 ?_); ((conv => whnf); repeat ((first | refine Sw.o ?_ | refine B0 ?_); conv => whnf))))
        refine CallP.flat [] _ c11 awake11_ok rfl ?_
        ((conv => whnf); repeat ((first | refine Sw.o ?_ | refine B0 ?_); conv => whnf))
        (repeat ((first | refine N0 ?_ | refine A0 fun γ => ?_ | refine C1 ?_ | refine C2 ?_ | refine C3 ?_ | refine C4 ?_ | refine C5 ?_ | refine C6 ?_ | refine C7 ?_ | refine D0 fun γs => ?_ | refine A1 fun γs => ?_ | refine N2 ?_ | refine N3 ?_ | refine N1 ?_); ((conv => whnf); repeat ((first | refine Sw.o ?_ | refine B0 ?_); conv => whnf))))
        exact .of rfl
  · (repeat ((first | refine N0 ?_ | refine A0 fun γ => ?_ | refine C1 ?_ | refine C2 ?_ | refine C3 ?_ | refine C4 ?_ | refine C5 ?_ | refine C6 ?_ | refine C7 ?_ | refine D0 fun γs => ?_ | refine A1 fun γs => ?_ | refine N2 ?_ | refine N3 ?_ | refine N1 ?_); ((conv => whnf); repeat ((first | refine Sw.o ?_ | refine B0 ?_); conv => whnf))))
    refine CallP.flat [] _ c11 awake11_ok rfl ?_
    ((conv => whnf); repeat ((first | refine Sw.o ?_ | refine B0 ?_); conv => whnf))
    (repeat ((first | refine N0 ?_ | refine A0 fun γ => ?_ | refine C1 ?_ | refine C2 ?_ | refine C3 ?_ | refine C4 ?_ | refine C5 ?_ | refine C6 ?_ | refine C7 ?_ | refine D0 fun γs => ?_ | refine A1 fun γs => ?_ | refine N2 ?_ | refine N3 ?_ | refine N1 ?_); ((conv => whnf); repeat ((first | refine Sw.o ?_ | refine B0 ?_); conv => whnf))))
    exact .of rfl
end Go.Proofs.Ytgeeklnokblokaa
namespace Go.Proofs.Ytgeeklnokblokaa
open Go Go.Fw
theorem listV_filter (n : Nat) (f : Int → Bool) : ∀ (l : List Int) (p q : Option Int), listV n p l = true → (∀ a, q = some a → ∃ b, p = some b ∧ a ≤ b) → listV n q (l.filter f) = true
  | [], p, q, _, _ => by simp [listV]
  | x :: r, p, q, h, hq => by
    unfold listV at h
    simp only [Bool.and_eq_true, decide_eq_true_eq] at h
    obtain ⟨⟨h1, h2⟩, h3⟩ := h
    have hqx : ltI q x = true := by
      cases q with
      | none => rfl
      | some a =>
        obtain ⟨b, hb, hab⟩ := hq a rfl
        subst hb
        simp only [ltI, decide_eq_true_eq] at h2 ⊢
        omega
    cases hf : f x with
    | true =>
      simp only [List.filter_cons, hf, if_true]
      unfold listV
      rw [listV_filter n f r (some x) (some x) h3 (fun a ha => ⟨x, rfl, by cases ha; exact Int.le_refl _⟩), hqx]
      simp [h1]
    | false =>
      simp only [List.filter_cons, hf, Bool.false_eq_true, if_false]
      refine listV_filter n f r (some x) q h3 fun a ha => ⟨x, rfl, ?_⟩
      subst ha
      simp only [ltI, decide_eq_true_eq] at hqx
      omega
theorem listsV_iff (n : Nat) : ∀ ls : List (List Int), listsV n ls = true ↔ ∀ l ∈ ls, listV n none l = true
  | [] => by simp [listsV]
  | x :: r => by
    unfold listsV
    simp [listsV_iff n r]
theorem check_of {g h : G} (hc : checkF g = 0) (he : h.eqs = g.eqs) (hu : h.uses = g.uses) (hl : h.joined.length = g.joined.length) (hj : ∀ l ∈ h.joined, listV h.uses.length none l = true) : checkF h = 0 := by
  obtain ⟨_, hv, h1, h2⟩ := check_wf hc
  have hv2 := hv
  unfold validG at hv2
  simp only [Bool.and_eq_true, decide_eq_true_eq] at hv2
  have hvh : validG h = true := by
    unfold validG
    simp only [Bool.and_eq_true, decide_eq_true_eq]
    exact ⟨⟨⟨by rw [hl, he]; exact hv2.1.1.1, by rw [he]; exact hv2.1.1.2⟩, by rw [hu]; exact hv2.1.2⟩, (listsV_iff _ _).2 hj⟩
  unfold checkF
  rw [hvh]
  simp only
  rw [decide_eq_false (by rw [he, hu]; omega)]
theorem sz_of {g h : G} (hz : Sz g) (hc : checkF h = 0) (he : h.eqs = g.eqs) (hu : h.uses = g.uses) : Sz h := by
  have hg := (check_wf hc).1
  refine ⟨by rw [he]; exact hz.e, by rw [hu]; exact hz.u, ?_, fun l hl => ?_, by rw [he]; exact hz.s, by rw [hu]; exact hz.n⟩
  · have := hg.len; have := hg.se; omega
  · have := hg.sl l hl; omega
theorem rank_of {g : G} (h : checkF g = 0) : ∃ k, Gr g k ∧ rankF g = ((k : Int), 0) := by
  obtain ⟨k, hr⟩ := rt h
  exact ⟨k, hr.gr, hr.r⟩
theorem without_jn (g : G) (e u : Int) (i : Nat) (hi : i < g.joined.length) (v : Int) : v ∈ jn (withoutF g e u) i ↔ v ∈ jn g i ∧ ¬ ((i : Int) = e ∧ v = u) := by
  have h2 : i < (wojF e u 0 g.joined).length := by rw [wojF_len]; exact hi
  unfold jn
  rw [Int.toNat_natCast]
  show v ∈ (wojF e u 0 g.joined).getD i [] ↔ _
  rw [getD_lt _ _ _ h2, getD_lt _ _ _ hi, wojF_get e u g.joined 0 i hi h2, Nat.zero_add]
  unfold wolF
  rw [List.mem_filter]
  by_cases h3 : (i : Int) = e <;> by_cases h4 : v = u <;> simp [h3, h4]
theorem without_ck {g : G} (h : checkF g = 0) (e u : Int) : checkF (withoutF g e u) = 0 := by
  have hv := (check_wf h).2.1
  unfold validG at hv
  simp only [Bool.and_eq_true, decide_eq_true_eq] at hv
  refine check_of h rfl rfl (wojF_len ..) fun l hl => ?_
  obtain ⟨k, hk, rfl⟩ := List.getElem_of_mem hl
  have hk2 : k < (wojF e u 0 g.joined).length := hk
  have hk' : k < g.joined.length := by rw [wojF_len] at hk2; exact hk2
  have := wojF_get e u g.joined 0 k hk' hk2
  show listV g.uses.length none (wojF e u 0 g.joined)[k] = true
  rw [this]
  exact listV_filter _ _ _ none none ((listsV_iff _ _).1 hv.2 _ (List.getElem_mem hk')) (fun a h => by cases h)
/-- One pair less: as many pairs, or one fewer. -/
theorem without_nu {g : G} {k : Nat} (h : Rt g k) (i : Nat) (u : Int) : ∃ k' : Nat, Gr (withoutF g i u) k' ∧ rankF (withoutF g i u) = ((k' : Int), 0) ∧ k' ≤ k ∧ k ≤ k' + 1 := by
  obtain ⟨k', h1, h2⟩ := rank_of (without_ck h.c0 i u)
  have hJ : ∀ e v, Jz (withoutF g i u) e v ↔ Jz g e v ∧ ¬ (e = i ∧ (v : Int) = u) := fun e v => by
    rw [Jz_iff, Jz_iff]
    show e < g.eqs.length ∧ _ ↔ _
    constructor
    · rintro ⟨a, b⟩
      have := (without_jn g i u e (by rw [h.wf.len]; exact a) v).1 b
      exact ⟨⟨a, this.1⟩, fun q => this.2 ⟨by omega, q.2⟩⟩
    · rintro ⟨⟨a, b⟩, c⟩
      exact ⟨a, (without_jn g i u e (by rw [h.wf.len]; exact a) v).2 ⟨b, fun q => c ⟨by omega, q.2⟩⟩⟩
  refine ⟨k', h1, h2, h1.nu.mono h.gr.nu fun e v q => ((hJ e v).1 q).1, ?_⟩
  obtain ⟨X, Y, hc, hx⟩ := h1.nu.c
  have := h.gr.nu.ge (X := i :: X) (Y := Y) fun e v q => by
    by_cases he : e = i
    · exact .inl (by simp [he])
    · exact (hc e v ((hJ e v).2 ⟨q, fun z => he z.1⟩)).imp (fun z => by simp [z]) fun z => z
  simp only [List.length_cons] at this
  omega
/-- A matching that does not use the pair stays. -/
theorem without_keep {g : G} {k k' : Nat} (h : Rt g k) (i : Nat) (u : Int) (hk' : Gr (withoutF g i u) k') (hi : i < g.eqs.length) (hm : ∀ (q : i < (matchF g).length), (matchF g)[i] ≠ u) : k ≤ k' := by
  have hl := h.ml.len
  let p : List (Nat × Nat) := ((List.range (matchF g).length).filter fun e => decide (0 ≤ (matchF g).getD e (-1))).map fun e => (e, ((matchF g).getD e (-1)).toNat)
  have hp : ∀ x ∈ p, ∃ q : x.1 < (matchF g).length, 0 ≤ (matchF g)[x.1] ∧ (x.2 : Int) = (matchF g)[x.1] := fun x hx => by
    obtain ⟨e, he, rfl⟩ := List.mem_map.1 hx
    obtain ⟨h1, h2⟩ := List.mem_filter.1 he
    have h3 := List.mem_range.1 h1
    have h4 := of_decide_eq_true h2
    rw [getD_lt _ _ _ h3] at h4
    refine ⟨h3, h4, ?_⟩
    simp only
    rw [getD_lt _ _ _ h3]
    omega
  have hlen : p.length = nonneg (matchF g) := by
    have e : matchF g = (List.range (matchF g).length).map fun u => (matchF g).getD u (-1) := by
      refine List.ext_getElem (by simp) fun i h1 h2 => ?_
      simp [List.getElem?_eq_getElem h1]
    show (List.map _ _).length = _
    rw [List.length_map]
    unfold nonneg
    conv => rhs; rw [e]
    rw [List.countP_map, List.countP_eq_length_filter]
    rfl
  have hM : Mch (Jz (withoutF g i u)) p := by
    refine ⟨?_, ?_, fun x hx => ?_⟩
    · show (List.map Prod.fst (List.map _ _)).Nodup
      rw [List.map_map]
      have : (Prod.fst ∘ fun e : Nat => (e, ((matchF g).getD e (-1)).toNat)) = id := rfl
      rw [this, List.map_id]
      exact List.nodup_range.sublist (List.filter_sublist ..)
    · show (List.map Prod.snd (List.map _ _)).Nodup
      rw [List.map_map]
      refine nodup_map_on _ _ (List.nodup_range.sublist (List.filter_sublist ..)) fun a ha b hb e => ?_
      obtain ⟨a1, a2⟩ := List.mem_filter.1 ha
      obtain ⟨b1, b2⟩ := List.mem_filter.1 hb
      have a1 := List.mem_range.1 a1
      have b1 := List.mem_range.1 b1
      have a2 := of_decide_eq_true a2
      have b2 := of_decide_eq_true b2
      simp only [Function.comp] at e
      rw [getD_lt _ _ _ a1] at a2 e
      rw [getD_lt _ _ _ b1] at b2 e
      have e2 : (matchF g)[a] = (matchF g)[b] := by omega
      rcases Nat.lt_trichotomy a b with q | q | q
      · exact absurd e2 (h.ml.dist a b a1 b1 q a2)
      · exact q
      · exact absurd e2.symm (h.ml.dist b a b1 a1 q b2)
    · obtain ⟨q, h1, h2⟩ := hp x hx
      have hxe : x.1 < g.eqs.length := by omega
      have h3 := (h.ml.ok x.1 q).resolve_left (by omega)
      refine (Jz_iff ..).2 ⟨hxe, (without_jn g i u x.1 (by rw [h.wf.len]; exact hxe) x.2).2 ⟨by rw [h2]; exact h3.2.2, fun z => ?_⟩⟩
      have hz : x.1 = i := by omega
      subst hz
      exact hm q (by rw [← h2]; exact z.2)
  have := hk'.nu.le hM
  have hn := h.nn
  omega
theorem certG_mem (t : Nat → Int → Bool) : ∀ (l : List Int) (e : Nat) (x : Int × Int), x ∈ certG t e l ↔ ∃ j, ∃ h : j < l.length, x = (((e + j : Nat) : Int), l[j]) ∧ 0 ≤ l[j] ∧ t (e + j) l[j] = true
  | [], e, x => by simp [certG]
  | u :: r, e, x => by
    have ih := certG_mem t r (e + 1) x
    have key : (∃ j, ∃ h : j < (u :: r).length, x = (((e + j : Nat) : Int), (u :: r)[j]) ∧ 0 ≤ (u :: r)[j] ∧ t (e + j) (u :: r)[j] = true) ↔ (x = ((e : Int), u) ∧ 0 ≤ u ∧ t e u = true) ∨ ∃ j, ∃ h : j < r.length, x = (((e + 1 + j : Nat) : Int), r[j]) ∧ 0 ≤ r[j] ∧ t (e + 1 + j) r[j] = true := by
      constructor
      · rintro ⟨j, h, h1, h2, h3⟩
        cases j with
        | zero => exact .inl ⟨h1, h2, h3⟩
        | succ j =>
          have e1 : e + (j + 1) = e + 1 + j := by omega
          rw [e1] at h1 h3
          exact .inr ⟨j, by simpa using h, h1, h2, h3⟩
      · rintro (⟨h1, h2, h3⟩ | ⟨j, h, h1, h2, h3⟩)
        · exact ⟨0, by simp, h1, h2, h3⟩
        · have e1 : e + (j + 1) = e + 1 + j := by omega
          exact ⟨j + 1, by simpa using h, by rw [e1]; exact h1, h2, by rw [e1]; exact h3⟩
    rw [key, ← ih]
    have e1 : certG t e (u :: r) = (match decide (0 ≤ u) with | true => (match t e u with | true => ((e : Int), u) :: certG t (e + 1) r | false => certG t (e + 1) r) | false => certG t (e + 1) r) := rfl
    rw [e1]
    cases h1 : decide (0 ≤ u) with
    | false =>
      have := of_decide_eq_false h1
      simp [this]
    | true =>
      have h1' := of_decide_eq_true h1
      cases h2 : t e u with
      | false => simp
      | true => simp [h1']
theorem certG_inc (t : Nat → Int → Bool) : ∀ (l : List Int) (e : Nat), (∀ x ∈ certG t e l, (e : Int) ≤ x.1) ∧ ∀ i j (h : i < (certG t e l).length) (h' : j < (certG t e l).length), i < j → ((certG t e l)[i]).1 < ((certG t e l)[j]).1
  | [], e => ⟨fun x h => absurd h (by simp [certG]), fun i j h => absurd h (by simp [certG])⟩
  | u :: r, e => by
    obtain ⟨h1, h2⟩ := certG_inc t r (e + 1)
    have h1' : ∀ x ∈ certG t (e + 1) r, (e : Int) ≤ x.1 := fun x hx => by have := h1 x hx; omega
    have cs : certG t e (u :: r) = certG t (e + 1) r ∨ certG t e (u :: r) = ((e : Int), u) :: certG t (e + 1) r := by
      show (match decide (0 ≤ u) with | true => (match t e u with | true => ((e : Int), u) :: certG t (e + 1) r | false => certG t (e + 1) r) | false => certG t (e + 1) r) = _ ∨ _
      cases hd : decide (0 ≤ u) with
      | false => exact .inl rfl
      | true => cases ht : t e u with
        | false => exact .inl rfl
        | true => right; simp [certG, hd, ht]
    rcases cs with q | q
    · rw [q]; exact ⟨h1', h2⟩
    · rw [q]
      refine ⟨fun x hx => ?_, fun i j hi hj hij => ?_⟩
      · rcases List.mem_cons.1 hx with rfl | hx
        · exact Int.le_refl _
        · exact h1' x hx
      · cases j with
        | zero => omega
        | succ j => cases i with
          | zero =>
            have := h1 _ (List.getElem_mem (show j < (certG t (e + 1) r).length by simpa using hj))
            simp only [List.getElem_cons_zero, List.getElem_cons_succ]
            omega
          | succ i => exact h2 i j (by simpa using hi) (by simpa using hj) (by omega)
/-- What a statement sees of Certain. -/
theorem Rt.certain {g : G} {k : Nat} (h : Rt g k) : CertainF g = (certG (tF g) 0 (matchF g), 0) ∧
    (∀ (i : Nat) (u : Int), i < g.eqs.length → 0 ≤ u → ∃ k' : Nat, rankF (withoutF g i u) = ((k' : Int), 0) ∧ ((((i : Int), u) ∈ certG (tF g) 0 (matchF g)) ↔ k' < k) ∧ k ≤ k' + 1) ∧
    (∀ x ∈ certG (tF g) 0 (matchF g), ∃ e : Nat, x.1 = e ∧ e < g.eqs.length ∧ x.2 ∈ jn g e) := by
  refine ⟨by unfold CertainF; rw [decide_eq_true h.c0], fun i u hi hu => ?_, fun x hx => ?_⟩
  · obtain ⟨k', h1, h2, h3, h4⟩ := without_nu h i u
    refine ⟨k', h2, ?_, h4⟩
    have hlen := h.ml.len
    have hij : i < g.joined.length := by rw [h.wf.len]; exact hi
    have ht : tF g i u = decide (k' < k) := by
      unfold tF
      rw [cut_without g i u hij, greatest0_size, greatest0_size, h1.size, h.gr.size]
      exact decide_eq_decide.2 (by omega)
    rw [certG_mem]
    constructor
    · rintro ⟨j, hj, e1, _, e3⟩
      rw [Nat.zero_add] at e1 e3
      obtain ⟨q1, q2⟩ := Prod.mk.injEq .. ▸ e1
      have : i = j := by omega
      subst this
      rw [← q2, ht] at e3
      exact of_decide_eq_true e3
    · intro q
      have hm : (matchF g)[i]'(by omega) = u := Classical.byContradiction fun hne => by
        have := without_keep h i u h1 hi fun _ => hne
        omega
      exact ⟨i, by omega, by rw [Nat.zero_add, hm], by rw [hm]; exact hu, by rw [Nat.zero_add, hm, ht]; exact decide_eq_true q⟩
  · obtain ⟨j, hj, e1, e2, _⟩ := (certG_mem ..).1 hx
    have hlen := h.ml.len
    have h3 := (h.ml.ok j hj).resolve_left (by omega)
    subst e1
    exact ⟨j, by simp, by omega, h3.2.2⟩
/-! ### One pair more -/
def molF (U : Nat) (l : List Int) (b : Bool) (k : Nat) : List Int := ((List.range U).filter fun (x : Nat) => decide ((x : Int) ∈ l) || (b && decide (x = k))).map fun (x : Nat) => (x : Int)
def mojF (U i k : Nat) : Nat → List (List Int) → List (List Int)
  | _, [] => []
  | j, l :: r => molF U l (decide (j = i)) k :: mojF U i k (j + 1) r
def moreF (g : G) (i k : Nat) : G := ⟨g.eqs, g.uses, mojF g.uses.length i k 0 g.joined⟩
theorem mojF_len (U i k : Nat) : ∀ (l : List (List Int)) (j : Nat), (mojF U i k j l).length = l.length
  | [], j => rfl
  | x :: r, j => by simp [mojF, mojF_len U i k r (j + 1)]
theorem mojF_get (U i k : Nat) : ∀ (l : List (List Int)) (j n : Nat) (h : n < l.length) (h' : n < (mojF U i k j l).length), (mojF U i k j l)[n] = molF U l[n] (decide (j + n = i)) k
  | x :: r, j, 0, h, h' => rfl
  | x :: r, j, n + 1, h, h' => by
    simp only [mojF, List.getElem_cons_succ]
    have h2 : n < (mojF U i k (j + 1) r).length := by rw [mojF_len]; simpa using h
    have := mojF_get U i k r (j + 1) n (by simpa using h) h2
    rw [this, show j + 1 + n = j + (n + 1) by omega]
theorem range_listV (U : Nat) (f : Nat → Bool) : ∀ (m s : Nat) (p : Option Int), s + m ≤ U → (∀ a, p = some a → a < s) → listV U p (((List.range' s m).filter f).map fun (x : Nat) => (x : Int)) = true
  | 0, s, p, _, _ => by simp [listV]
  | m + 1, s, p, hs, hp => by
    rw [List.range'_succ]
    cases hf : f s with
    | false =>
      simp only [List.filter_cons, hf, Bool.false_eq_true, if_false]
      exact range_listV U f m (s + 1) p (by omega) fun a ha => by have := hp a ha; omega
    | true =>
      simp only [List.filter_cons, hf, if_true, List.map_cons]
      unfold listV
      rw [range_listV U f m (s + 1) (some (s : Int)) (by omega) (fun a ha => by cases ha; omega)]
      have : ltI p (s : Int) = true := by
        cases p with
        | none => rfl
        | some a => simp only [ltI, decide_eq_true_eq]; exact hp a rfl
      rw [this]
      simp; omega
theorem molF_mem (U : Nat) (l : List Int) (b : Bool) (k : Nat) (v : Int) (hv : ∀ x ∈ l, 0 ≤ x ∧ x < U) (hk : k < U) : v ∈ molF U l b k ↔ v ∈ l ∨ (b = true ∧ v = k) := by
  unfold molF
  simp only [List.mem_map, List.mem_filter, List.mem_range, Bool.or_eq_true, decide_eq_true_eq, Bool.and_eq_true]
  constructor
  · rintro ⟨x, ⟨h1, h2⟩, rfl⟩
    rcases h2 with h2 | ⟨h2, h3⟩
    · exact .inl h2
    · exact .inr ⟨h2, by omega⟩
  · rintro (h | ⟨h1, h2⟩)
    · have := hv v h
      exact ⟨v.toNat, ⟨by omega, .inl (by rw [show ((v.toNat : Nat) : Int) = v by omega]; exact h)⟩, by omega⟩
    · exact ⟨k, ⟨hk, .inr ⟨h1, rfl⟩⟩, h2.symm⟩
theorem more_ck {g : G} (h : checkF g = 0) (i k : Nat) : checkF (moreF g i k) = 0 := by
  refine check_of h rfl rfl (mojF_len ..) fun l hl => ?_
  obtain ⟨n, hn, rfl⟩ := List.getElem_of_mem hl
  have hn2 : n < (mojF g.uses.length i k 0 g.joined).length := hn
  have hn' : n < g.joined.length := by rw [mojF_len] at hn2; exact hn2
  show listV g.uses.length none (mojF g.uses.length i k 0 g.joined)[n] = true
  rw [mojF_get _ _ _ _ _ n hn' hn2]
  unfold molF
  rw [List.range_eq_range']
  exact range_listV _ _ _ 0 none (by omega) (fun a ha => by cases ha)
theorem more_nu {g : G} {r : Nat} (h : Rt g r) (i k : Nat) (hi : i < g.eqs.length) (hk : k < g.uses.length) : ∃ r' : Nat, rankF (moreF g i k) = ((r' : Int), 0) ∧ r ≤ r' ∧ r' ≤ r + 1 := by
  obtain ⟨r', h1, h2⟩ := rank_of (more_ck h.c0 i k)
  have hJ : ∀ e v, Jz (moreF g i k) e v ↔ Jz g e v ∨ (e = i ∧ v = k) := fun e v => by
    rw [Jz_iff, Jz_iff]
    show e < g.eqs.length ∧ _ ↔ _
    by_cases he : e < g.eqs.length
    · have hej : e < g.joined.length := by rw [h.wf.len]; exact he
      have h2 : e < (mojF g.uses.length i k 0 g.joined).length := by rw [mojF_len]; exact hej
      have hm : (v : Int) ∈ jn (moreF g i k) e ↔ (v : Int) ∈ jn g e ∨ (e = i ∧ v = k) := by
        unfold jn
        rw [Int.toNat_natCast]
        show (v : Int) ∈ (mojF g.uses.length i k 0 g.joined).getD e [] ↔ _
        rw [getD_lt _ _ _ h2, getD_lt _ _ _ hej, mojF_get _ _ _ _ _ e hej h2, molF_mem _ _ _ _ _ (h.wf.in_ _ (List.getElem_mem hej)) hk, Nat.zero_add]
        simp only [decide_eq_true_eq]
        constructor
        · exact fun q => q.imp (fun q => q) fun q => ⟨q.1, by omega⟩
        · exact fun q => q.imp (fun q => q) fun q => ⟨q.1, by omega⟩
      rw [hm]
      simp [he]
    · have : ¬ e = i := by omega
      simp [he, this]
  refine ⟨r', h2, h.gr.nu.mono h1.nu fun e v q => (hJ e v).2 (.inl q), ?_⟩
  obtain ⟨X, Y, hc, hx⟩ := h.gr.nu.c
  have := h1.nu.ge (X := i :: X) (Y := Y) fun e v q => by
    rcases (hJ e v).1 q with q | ⟨q, _⟩
    · exact (hc e v q).imp (fun z => by simp [z]) fun z => z
    · exact .inl (by simp [q])
  simp only [List.length_cons] at this
  omega
end Go.Proofs.Ytgeeklnokblokaa
namespace Go.Proofs.Ytgeeklnokblokaa
open Go Go.Fw
def molP (x : Nat) (l : List Int) (b : Bool) (k : Nat) : List Int := ((List.range x).filter fun (y : Nat) => decide ((y : Int) ∈ l) || (b && decide (y = k))).map fun (y : Nat) => (y : Int)
theorem molP_succ (x : Nat) (l : List Int) (b : Bool) (k : Nat) : molP (x + 1) l b k = molP x l b k ++ (if decide ((x : Int) ∈ l) || (b && decide (x = k)) then [(x : Int)] else []) := by
  unfold molP
  rw [List.range_succ, List.filter_append, List.map_append]
  congr 1
  simp only [List.filter_cons, List.filter_nil]
  split <;> simp
theorem molP_len (x : Nat) (l : List Int) (b : Bool) (k : Nat) : (molP x l b k).length ≤ x := by
  unfold molP
  rw [List.length_map]
  exact Nat.le_trans (List.length_filter_le ..) (by simp)
def encU8 (n : Int) : AV := .val (.int .u8 n)
theorem tmod_nat (a : Int) (n : Nat) (ha : 0 ≤ a) (hn : 0 < n) : ∃ i : Nat, a.tmod n = i ∧ i < n := by
  have h1 : a.tmod n = a % n := Int.tmod_eq_emod_of_nonneg ha
  have h2 := Int.emod_nonneg a (show (n : Int) ≠ 0 by omega)
  have h3 := Int.emod_lt_of_pos a (show (0 : Int) < n by omega)
  exact ⟨(a % n).toNat, by rw [h1]; omega, by omega⟩
set_option maxHeartbeats 8000000 in
set_option maxRecDepth 100000 in
theorem MatchMore_ok (g : G) (hz : Sz g) (a b : Int) (ha : 0 ≤ a ∧ a ≤ 255) (hb : 0 ≤ b ∧ b ≤ 255) : PureCall Try.prog 7 [encG g, encU8 a, encU8 b] (encB true) := by
  refine pure_cp (E := E 0) T_ok (D_ok 0) [] Try.func7 rfl (by rfl) (Nat.le_of_ble_eq_true rfl) ?_
  ((conv => whnf); repeat ((first | refine Sw.o ?_ | refine B0 ?_); conv => whnf))
  (repeat ((first | refine N0 ?_ | refine A0 fun γ => ?_ | refine C1 ?_ | refine C2 ?_ | refine C3 ?_ | refine C4 ?_ | refine C5 ?_ | refine C6 ?_ | refine C7 ?_ | refine D0 fun γs => ?_ | refine A1 fun γs => ?_ | refine N2 ?_ | refine N3 ?_ | refine N1 ?_); ((conv => whnf); repeat ((first | refine Sw.o ?_ | refine B0 ?_); conv => whnf))))
  refine CallP.flat [] _ c20 (right_ok g hz) rfl ?_
  ((conv => whnf); repeat ((first | refine Sw.o ?_ | refine B0 ?_); conv => whnf))
  (repeat ((first | refine N0 ?_ | refine A0 fun γ => ?_ | refine C1 ?_ | refine C2 ?_ | refine C3 ?_ | refine C4 ?_ | refine C5 ?_ | refine C6 ?_ | refine C7 ?_ | refine D0 fun γs => ?_ | refine A1 fun γs => ?_ | refine N2 ?_ | refine N3 ?_ | refine N1 ?_); ((conv => whnf); repeat ((first | refine Sw.o ?_ | refine B0 ?_); conv => whnf))))
  refine CondP.dec (fun h => ?_) (fun h => ?_) <;> ((conv => whnf); repeat ((first | refine Sw.o ?_ | refine B0 ?_); conv => whnf))
  · (repeat ((first | refine N0 ?_ | refine A0 fun γ => ?_ | refine C1 ?_ | refine C2 ?_ | refine C3 ?_ | refine C4 ?_ | refine C5 ?_ | refine C6 ?_ | refine C7 ?_ | refine D0 fun γs => ?_ | refine A1 fun γs => ?_ | refine N2 ?_ | refine N3 ?_ | refine N1 ?_); ((conv => whnf); repeat ((first | refine Sw.o ?_ | refine B0 ?_); conv => whnf))))
    refine CondP.dec (fun h5 => ?_) (fun h5 => ?_) <;> ((conv => whnf); repeat ((first | refine Sw.o ?_ | refine B0 ?_); conv => whnf))
    · (repeat ((first | refine N0 ?_ | refine A0 fun γ => ?_ | refine C1 ?_ | refine C2 ?_ | refine C3 ?_ | refine C4 ?_ | refine C5 ?_ | refine C6 ?_ | refine C7 ?_ | refine D0 fun γs => ?_ | refine A1 fun γs => ?_ | refine N2 ?_ | refine N3 ?_ | refine N1 ?_); ((conv => whnf); repeat ((first | refine Sw.o ?_ | refine B0 ?_); conv => whnf))))
      refine CallP.flat [] _ c11 awake11_ok rfl ?_
      ((conv => whnf); repeat ((first | refine Sw.o ?_ | refine B0 ?_); conv => whnf))
      (repeat ((first | refine N0 ?_ | refine A0 fun γ => ?_ | refine C1 ?_ | refine C2 ?_ | refine C3 ?_ | refine C4 ?_ | refine C5 ?_ | refine C6 ?_ | refine C7 ?_ | refine D0 fun γs => ?_ | refine A1 fun γs => ?_ | refine N2 ?_ | refine N3 ?_ | refine N1 ?_); ((conv => whnf); repeat ((first | refine Sw.o ?_ | refine B0 ?_); conv => whnf))))
      exact .of rfl
    · (repeat ((first | refine N0 ?_ | refine A0 fun γ => ?_ | refine C1 ?_ | refine C2 ?_ | refine C3 ?_ | refine C4 ?_ | refine C5 ?_ | refine C6 ?_ | refine C7 ?_ | refine D0 fun γs => ?_ | refine A1 fun γs => ?_ | refine N2 ?_ | refine N3 ?_ | refine N1 ?_); ((conv => whnf); repeat ((first | refine Sw.o ?_ | refine B0 ?_); conv => whnf))))
      refine CondP.dec (fun h6 => ?_) (fun h6 => ?_) <;> ((conv => whnf); repeat ((first | refine Sw.o ?_ | refine B0 ?_); conv => whnf))
      · (repeat ((first | refine N0 ?_ | refine A0 fun γ => ?_ | refine C1 ?_ | refine C2 ?_ | refine C3 ?_ | refine C4 ?_ | refine C5 ?_ | refine C6 ?_ | refine C7 ?_ | refine D0 fun γs => ?_ | refine A1 fun γs => ?_ | refine N2 ?_ | refine N3 ?_ | refine N1 ?_); ((conv => whnf); repeat ((first | refine Sw.o ?_ | refine B0 ?_); conv => whnf))))
        refine CallP.flat [] _ c11 awake11_ok rfl ?_
        ((conv => whnf); repeat ((first | refine Sw.o ?_ | refine B0 ?_); conv => whnf))
        (repeat ((first | refine N0 ?_ | refine A0 fun γ => ?_ | refine C1 ?_ | refine C2 ?_ | refine C3 ?_ | refine C4 ?_ | refine C5 ?_ | refine C6 ?_ | refine C7 ?_ | refine D0 fun γs => ?_ | refine A1 fun γs => ?_ | refine N2 ?_ | refine N3 ?_ | refine N1 ?_); ((conv => whnf); repeat ((first | refine Sw.o ?_ | refine B0 ?_); conv => whnf))))
        exact .of rfl
      · obtain ⟨r, hr⟩ := rt h.1
        have hg := hr.wf
        have su := hg.su
        have se := hg.se
        have hjl := hg.len
        obtain ⟨i, hi1, hi2⟩ := tmod_nat a (g.eqs.map encS).length ha.1 (by omega)
        obtain ⟨k, hk1, hk2⟩ := tmod_nat b (g.uses.map encU).length hb.1 (by omega)
        rw [List.length_map] at hi2 hk2
        (repeat ((first | refine N0 ?_ | refine A0 fun γ => ?_ | refine C1 ?_ | refine C2 ?_ | refine C3 ?_ | refine C4 ?_ | refine C5 ?_ | refine C6 ?_ | refine C7 ?_ | refine D0 fun γs => ?_ | refine A1 fun γs => ?_ | refine N2 ?_ | refine N3 ?_ | refine N1 ?_); ((conv => whnf); repeat ((first | refine Sw.o ?_ | refine B0 ?_); conv => whnf))))
        have hwl := mojF_len g.uses.length i k g.joined 0
        refine LoopP.intro (fun n σ H => ∃ p3 p9 p86 j, j ≤ g.joined.length ∧ n = g.joined.length - j ∧ σ = fr [(3, .op 3 p3 0 0), (7, encI i), (8, encI k), (9, .op 9 p9 0 0), (10, encI j)] ∧ H = hp [(3, p3, ⟨26, 3, [encG g]⟩), (9, p9, ⟨26, 3, [.agg [.sl 1 (g.eqs.map encS), .sl 3 (g.uses.map encU), .own 86 p86 0 j]]⟩), (86, p86, ⟨29, 1, ((mojF g.uses.length i k 0 g.joined).take j).map encL⟩)]) ?_ ?_
        · refine .intro <| W.matc 9 _ 0 2 86 29 1 _ _ rfl rfl rfl rfl (by omega) fun γ => W.of ⟨_, _, _, _, 0, Nat.zero_le _, rfl, rfl, rfl⟩ ⟨rfl, ?_, ?_, rfl, rfl, trivial⟩ ⟨rfl, rfl, rfl, trivial⟩
          · exact congrArg encI hi1
          · exact congrArg encI hk1
        · rintro n σ H ⟨p3, p9, p86, j, hj, rfl, rfl, rfl⟩
          ((conv => whnf); repeat ((first | refine Sw.o ?_ | refine B0 ?_); conv => whnf))
          (repeat ((first | refine N0 ?_ | refine A0 fun γ => ?_ | refine C1 ?_ | refine C2 ?_ | refine C3 ?_ | refine C4 ?_ | refine C5 ?_ | refine C6 ?_ | refine C7 ?_ | refine D0 fun γs => ?_ | refine A1 fun γs => ?_ | refine N2 ?_ | refine N3 ?_ | refine N1 ?_); ((conv => whnf); repeat ((first | refine Sw.o ?_ | refine B0 ?_); conv => whnf))))
          refine CondP.dec (fun h1 => ?_) (fun h1 => ?_) <;> ((conv => whnf); repeat ((first | refine Sw.o ?_ | refine B0 ?_); conv => whnf))
          · have hj' : j < g.joined.length := by simp only [LN] at h1; omega
            have sl := hg.sl _ (List.getElem_mem hj')
            have hwg := mojF_get g.uses.length i k g.joined 0 j hj' (by omega)
            rw [Nat.zero_add] at hwg
            (repeat ((first | refine N0 ?_ | refine A0 fun γ => ?_ | refine C1 ?_ | refine C2 ?_ | refine C3 ?_ | refine C4 ?_ | refine C5 ?_ | refine C6 ?_ | refine C7 ?_ | refine D0 fun γs => ?_ | refine A1 fun γs => ?_ | refine N2 ?_ | refine N3 ?_ | refine N1 ?_); ((conv => whnf); repeat ((first | refine Sw.o ?_ | refine B0 ?_); conv => whnf))))
            refine LoopP.intro (fun m σ H => ∃ p3 p9 p86 p81 x, ∃ n : Nat, x ≤ g.uses.length ∧ m = g.uses.length - x ∧ n = (molP x g.joined[j] (decide (j = i)) k).length ∧
              σ = fr [(3, .op 3 p3 0 0), (7, encI i), (8, encI k), (9, .op 9 p9 0 0), (10, encI j), (11, .own 81 p81 0 n), (12, encI x)] ∧ H = hp [(3, p3, ⟨26, 3, [encG g]⟩), (9, p9, ⟨26, 3, [.agg [.sl 1 (g.eqs.map encS), .sl 3 (g.uses.map encU), .own 86 p86 0 j]]⟩), (86, p86, ⟨29, 1, ((mojF g.uses.length i k 0 g.joined).take j).map encL⟩), (81, p81, ⟨3, 1, (molP x g.joined[j] (decide (j = i)) k).map encI⟩)]) ?_ ?_
            · exact .intro <| W.mat 11 81 3 1 rfl rfl fun γ => W.of ⟨_, _, _, _, _, 0, 0, Nat.zero_le _, rfl, rfl, rfl, rfl⟩ ⟨rfl, rfl, rfl, rfl, rfl, rfl, rfl, trivial⟩ ⟨rfl, rfl, rfl, rfl, trivial⟩
            · rintro m σ H ⟨p3, p9, p86, p81, x, n, hx, rfl, hn, rfl, rfl⟩
              ((conv => whnf); repeat ((first | refine Sw.o ?_ | refine B0 ?_); conv => whnf))
              (repeat ((first | refine N0 ?_ | refine A0 fun γ => ?_ | refine C1 ?_ | refine C2 ?_ | refine C3 ?_ | refine C4 ?_ | refine C5 ?_ | refine C6 ?_ | refine C7 ?_ | refine D0 fun γs => ?_ | refine A1 fun γs => ?_ | refine N2 ?_ | refine N3 ?_ | refine N1 ?_); ((conv => whnf); repeat ((first | refine Sw.o ?_ | refine B0 ?_); conv => whnf))))
              refine CondP.dec (fun h2 => ?_) (fun h2 => ?_)
              · ((conv => whnf); repeat ((first | refine Sw.o ?_ | refine B0 ?_); conv => whnf))
                have hx' : x < g.uses.length := by simp only [LN] at h2; omega
                have hms := molP_succ x g.joined[j] (decide (j = i)) k
                have hml := molP_len x g.joined[j] (decide (j = i)) k
                have hany : (g.joined[j].any fun y => decide (y = (x : Int))) = decide ((x : Int) ∈ g.joined[j]) := by
                  rw [Bool.eq_iff_iff, List.any_eq_true, decide_eq_true_eq]
                  constructor
                  · rintro ⟨y, hy, hq⟩
                    have : y = (x : Int) := by simpa using hq
                    rw [← this]; exact hy
                  · intro hy; exact ⟨_, hy, by simp⟩
                have hcall := lawJoined_ok g j x hj' (by omega)
                rw [hany] at hcall
                (repeat ((first | refine N0 ?_ | refine A0 fun γ => ?_ | refine C1 ?_ | refine C2 ?_ | refine C3 ?_ | refine C4 ?_ | refine C5 ?_ | refine C6 ?_ | refine C7 ?_ | refine D0 fun γs => ?_ | refine A1 fun γs => ?_ | refine N2 ?_ | refine N3 ?_ | refine N1 ?_); ((conv => whnf); repeat ((first | refine Sw.o ?_ | refine B0 ?_); conv => whnf))))
                refine CallP.flat [] (encB (decide ((x : Int) ∈ g.joined[j]))) c26 hcall rfl ?_
                ((conv => whnf); repeat ((first | refine Sw.o ?_ | refine B0 ?_); conv => whnf))
                (repeat ((first | refine N0 ?_ | refine A0 fun γ => ?_ | refine C1 ?_ | refine C2 ?_ | refine C3 ?_ | refine C4 ?_ | refine C5 ?_ | refine C6 ?_ | refine C7 ?_ | refine D0 fun γs => ?_ | refine A1 fun γs => ?_ | refine N2 ?_ | refine N3 ?_ | refine N1 ?_); ((conv => whnf); repeat ((first | refine Sw.o ?_ | refine B0 ?_); conv => whnf))))
                refine CondP.dec (fun h3 => ?_) (fun h3 => ?_) <;> ((conv => whnf); repeat ((first | refine Sw.o ?_ | refine B0 ?_); conv => whnf))
                · have hbit : (decide ((x : Int) ∈ g.joined[j]) || (decide (j = i) && decide (x = k))) = true := by simp [h3]
                  rw [hbit, if_pos rfl] at hms
                  (repeat ((first | refine N0 ?_ | refine A0 fun γ => ?_ | refine C1 ?_ | refine C2 ?_ | refine C3 ?_ | refine C4 ?_ | refine C5 ?_ | refine C6 ?_ | refine C7 ?_ | refine D0 fun γs => ?_ | refine A1 fun γs => ?_ | refine N2 ?_ | refine N3 ?_ | refine N1 ?_); ((conv => whnf); repeat ((first | refine Sw.o ?_ | refine B0 ?_); conv => whnf))))
                  exact .intro <| W.of ⟨_, by simp only [LN] at h2; omega, _, _, _, _, x + 1, n + 1, hx', rfl, by rw [hn, hms]; simp, rfl, rfl⟩ ⟨rfl, rfl, rfl, rfl, rfl, rfl, rfl, trivial⟩ ⟨rfl, rfl, rfl, by rw [hms, ← snoc_encI]; rfl, trivial⟩
                · (repeat ((first | refine N0 ?_ | refine A0 fun γ => ?_ | refine C1 ?_ | refine C2 ?_ | refine C3 ?_ | refine C4 ?_ | refine C5 ?_ | refine C6 ?_ | refine C7 ?_ | refine D0 fun γs => ?_ | refine A1 fun γs => ?_ | refine N2 ?_ | refine N3 ?_ | refine N1 ?_); ((conv => whnf); repeat ((first | refine Sw.o ?_ | refine B0 ?_); conv => whnf))))
                  refine CondP.dec (fun h7 => ?_) (fun h7 => ?_) <;> ((conv => whnf); repeat ((first | refine Sw.o ?_ | refine B0 ?_); conv => whnf))
                  · (repeat ((first | refine N0 ?_ | refine A0 fun γ => ?_ | refine C1 ?_ | refine C2 ?_ | refine C3 ?_ | refine C4 ?_ | refine C5 ?_ | refine C6 ?_ | refine C7 ?_ | refine D0 fun γs => ?_ | refine A1 fun γs => ?_ | refine N2 ?_ | refine N3 ?_ | refine N1 ?_); ((conv => whnf); repeat ((first | refine Sw.o ?_ | refine B0 ?_); conv => whnf))))
                    refine CondP.dec (fun h8 => ?_) (fun h8 => ?_) <;> ((conv => whnf); repeat ((first | refine Sw.o ?_ | refine B0 ?_); conv => whnf))
                    · have hbit : (decide ((x : Int) ∈ g.joined[j]) || (decide (j = i) && decide (x = k))) = true := by
                        have q1 : j = i := by omega
                        have q2 : x = k := by omega
                        simp [q1, q2]
                      rw [hbit, if_pos rfl] at hms
                      (repeat ((first | refine N0 ?_ | refine A0 fun γ => ?_ | refine C1 ?_ | refine C2 ?_ | refine C3 ?_ | refine C4 ?_ | refine C5 ?_ | refine C6 ?_ | refine C7 ?_ | refine D0 fun γs => ?_ | refine A1 fun γs => ?_ | refine N2 ?_ | refine N3 ?_ | refine N1 ?_); ((conv => whnf); repeat ((first | refine Sw.o ?_ | refine B0 ?_); conv => whnf))))
                      exact .intro <| W.of ⟨_, by simp only [LN] at h2; omega, _, _, _, _, x + 1, n + 1, hx', rfl, by rw [hn, hms]; simp, rfl, rfl⟩ ⟨rfl, rfl, rfl, rfl, rfl, rfl, rfl, trivial⟩ ⟨rfl, rfl, rfl, by rw [hms, ← snoc_encI]; rfl, trivial⟩
                    · have hbit : (decide ((x : Int) ∈ g.joined[j]) || (decide (j = i) && decide (x = k))) = false := by
                        have q2 : ¬ x = k := by omega
                        simp [h3, q2]
                      rw [hbit, if_neg (by simp), List.append_nil] at hms
                      (repeat ((first | refine N0 ?_ | refine A0 fun γ => ?_ | refine C1 ?_ | refine C2 ?_ | refine C3 ?_ | refine C4 ?_ | refine C5 ?_ | refine C6 ?_ | refine C7 ?_ | refine D0 fun γs => ?_ | refine A1 fun γs => ?_ | refine N2 ?_ | refine N3 ?_ | refine N1 ?_); ((conv => whnf); repeat ((first | refine Sw.o ?_ | refine B0 ?_); conv => whnf))))
                      exact .intro <| W.of ⟨_, by simp only [LN] at h2; omega, _, _, _, _, x + 1, n, hx', rfl, by rw [hn, hms], rfl, rfl⟩ ⟨rfl, rfl, rfl, rfl, rfl, rfl, rfl, trivial⟩ ⟨rfl, rfl, rfl, by rw [hms]; rfl, trivial⟩
                  · have hbit : (decide ((x : Int) ∈ g.joined[j]) || (decide (j = i) && decide (x = k))) = false := by
                      have q2 : ¬ j = i := by omega
                      simp [h3, q2]
                    rw [hbit, if_neg (by simp), List.append_nil] at hms
                    (repeat ((first | refine N0 ?_ | refine A0 fun γ => ?_ | refine C1 ?_ | refine C2 ?_ | refine C3 ?_ | refine C4 ?_ | refine C5 ?_ | refine C6 ?_ | refine C7 ?_ | refine D0 fun γs => ?_ | refine A1 fun γs => ?_ | refine N2 ?_ | refine N3 ?_ | refine N1 ?_); ((conv => whnf); repeat ((first | refine Sw.o ?_ | refine B0 ?_); conv => whnf))))
                    exact .intro <| W.of ⟨_, by simp only [LN] at h2; omega, _, _, _, _, x + 1, n, hx', rfl, by rw [hn, hms], rfl, rfl⟩ ⟨rfl, rfl, rfl, rfl, rfl, rfl, rfl, trivial⟩ ⟨rfl, rfl, rfl, by rw [hms]; rfl, trivial⟩
              · have hxe : x = g.uses.length := by simp only [LN] at h2; omega
                subst hxe
                have hmol : molP g.uses.length g.joined[j] (decide (j = i)) k = (mojF g.uses.length i k 0 g.joined)[j] := hwg.symm
                rw [hmol] at hn ⊢
                refine cpA_exitW (W.fre 11 81 p81 0 n (y := encL ((mojF g.uses.length i k 0 g.joined)[j])) rfl ?_ (W.of (l := [(3, .op 3 p3 0 0), (7, encI i), (8, encI k), (9, .op 9 p9 0 0), (10, encI j), (11, encL ((mojF g.uses.length i k 0 g.joined)[j]))]) (m := [(3, p3, ⟨26, 3, [encG g]⟩), (9, p9, ⟨26, 3, [.agg [.sl 1 (g.eqs.map encS), .sl 3 (g.uses.map encU), .own 86 p86 0 j]]⟩), (86, p86, ⟨29, 1, ((mojF g.uses.length i k 0 g.joined).take j).map encL⟩)]) ?_ ⟨rfl, rfl, rfl, rfl, rfl, rfl, trivial⟩ ⟨rfl, rfl, rfl, trivial⟩))
                · rw [snap_own (B := ⟨3, 1, ((mojF g.uses.length i k 0 g.joined)[j]).map encI⟩) (by simp) rfl (by simp [hn]), snap_list _ _ _ _ hn (fun _ => rfl)]
                  rfl
                ((conv => whnf); repeat ((first | refine Sw.o ?_ | refine B0 ?_); conv => whnf))
                (repeat ((first | refine N0 ?_ | refine A0 fun γ => ?_ | refine C1 ?_ | refine C2 ?_ | refine C3 ?_ | refine C4 ?_ | refine C5 ?_ | refine C6 ?_ | refine C7 ?_ | refine D0 fun γs => ?_ | refine A1 fun γs => ?_ | refine N2 ?_ | refine N3 ?_ | refine N1 ?_); ((conv => whnf); repeat ((first | refine Sw.o ?_ | refine B0 ?_); conv => whnf))))
                refine .intro <| W.of ⟨_, by omega, _, _, _, j + 1, hj', rfl, rfl, rfl⟩ ⟨rfl, rfl, rfl, rfl, rfl, trivial⟩ ⟨rfl, rfl, ?_, trivial⟩
                rw [← take_snoc encL _ j (by omega) _ rfl]; rfl
          · have hje : j = g.joined.length := by simp only [LN] at h1; omega
            subst hje
            obtain ⟨r', hr1, hr2, hr3⟩ := more_nu hr i k hi2 hk2
            have hmc := more_ck hr.c0 i k
            have hmz := sz_of hz hmc rfl rfl
            have hrk := rank14_ok (moreF g i k) hmz
            rw [hr1] at hrk
            have k1 := hr.pa.le1
            rw [List.take_of_length_le (by omega)]
            (repeat ((first | refine N0 ?_ | refine A0 fun γ => ?_ | refine C1 ?_ | refine C2 ?_ | refine C3 ?_ | refine C4 ?_ | refine C5 ?_ | refine C6 ?_ | refine C7 ?_ | refine D0 fun γs => ?_ | refine A1 fun γs => ?_ | refine N2 ?_ | refine N3 ?_ | refine N1 ?_); ((conv => whnf); repeat ((first | refine Sw.o ?_ | refine B0 ?_); conv => whnf))))
            refine CallP.pure [] _ c14 (rank14_ok g hz) ?_
            rw [hr.r]
            ((conv => whnf); repeat ((first | refine Sw.o ?_ | refine B0 ?_); conv => whnf))
            (repeat ((first | refine N0 ?_ | refine A0 fun γ => ?_ | refine C1 ?_ | refine C2 ?_ | refine C3 ?_ | refine C4 ?_ | refine C5 ?_ | refine C6 ?_ | refine C7 ?_ | refine D0 fun γs => ?_ | refine A1 fun γs => ?_ | refine N2 ?_ | refine N3 ?_ | refine N1 ?_); ((conv => whnf); repeat ((first | refine Sw.o ?_ | refine B0 ?_); conv => whnf))))
            refine CallP.pure [86] _ c14 (pure_args ?_ hrk) ?_
            · show [AV.agg [AV.sl 1 (g.eqs.map encS), AV.sl 3 (g.uses.map encU), snapC [86] _ 3 (.own 86 p86 0 g.joined.length)]] = _
              rw [snapC_own (B := ⟨29, 1, (mojF g.uses.length i k 0 g.joined).map encL⟩) (by simp) rfl (by simp [hwl]), snap_list _ _ _ _ hwl.symm (fun _ => rfl)]
              rfl
            ((conv => whnf); repeat ((first | refine Sw.o ?_ | refine B0 ?_); conv => whnf))
            (repeat ((first | refine N0 ?_ | refine A0 fun γ => ?_ | refine C1 ?_ | refine C2 ?_ | refine C3 ?_ | refine C4 ?_ | refine C5 ?_ | refine C6 ?_ | refine C7 ?_ | refine D0 fun γs => ?_ | refine A1 fun γs => ?_ | refine N2 ?_ | refine N3 ?_ | refine N1 ?_); ((conv => whnf); repeat ((first | refine Sw.o ?_ | refine B0 ?_); conv => whnf))))
            refine CondP.dec (fun h7 => ?_) (fun h7 => ?_) <;> ((conv => whnf); repeat ((first | refine Sw.o ?_ | refine B0 ?_); conv => whnf))
            · (repeat ((first | refine N0 ?_ | refine A0 fun γ => ?_ | refine C1 ?_ | refine C2 ?_ | refine C3 ?_ | refine C4 ?_ | refine C5 ?_ | refine C6 ?_ | refine C7 ?_ | refine D0 fun γs => ?_ | refine A1 fun γs => ?_ | refine N2 ?_ | refine N3 ?_ | refine N1 ?_); ((conv => whnf); repeat ((first | refine Sw.o ?_ | refine B0 ?_); conv => whnf))))
              refine CallP.flat [] _ c11 awake11_ok rfl ?_
              ((conv => whnf); repeat ((first | refine Sw.o ?_ | refine B0 ?_); conv => whnf))
              (repeat ((first | refine N0 ?_ | refine A0 fun γ => ?_ | refine C1 ?_ | refine C2 ?_ | refine C3 ?_ | refine C4 ?_ | refine C5 ?_ | refine C6 ?_ | refine C7 ?_ | refine D0 fun γs => ?_ | refine A1 fun γs => ?_ | refine N2 ?_ | refine N3 ?_ | refine N1 ?_); ((conv => whnf); repeat ((first | refine Sw.o ?_ | refine B0 ?_); conv => whnf))))
              exact .of rfl
            · have h8 : (r' : Int) = (r : Int) + 1 := by omega
              (repeat ((first | refine N0 ?_ | refine A0 fun γ => ?_ | refine C1 ?_ | refine C2 ?_ | refine C3 ?_ | refine C4 ?_ | refine C5 ?_ | refine C6 ?_ | refine C7 ?_ | refine D0 fun γs => ?_ | refine A1 fun γs => ?_ | refine N2 ?_ | refine N3 ?_ | refine N1 ?_); ((conv => whnf); repeat ((first | refine Sw.o ?_ | refine B0 ?_); conv => whnf))))
              refine CallP.flat [] _ c11 awake11_ok rfl ?_
              ((conv => whnf); repeat ((first | refine Sw.o ?_ | refine B0 ?_); conv => whnf))
              (repeat ((first | refine N0 ?_ | refine A0 fun γ => ?_ | refine C1 ?_ | refine C2 ?_ | refine C3 ?_ | refine C4 ?_ | refine C5 ?_ | refine C6 ?_ | refine C7 ?_ | refine D0 fun γs => ?_ | refine A1 fun γs => ?_ | refine N2 ?_ | refine N3 ?_ | refine N1 ?_); ((conv => whnf); repeat ((first | refine Sw.o ?_ | refine B0 ?_); conv => whnf))))
              exact .of rfl
  · (repeat ((first | refine N0 ?_ | refine A0 fun γ => ?_ | refine C1 ?_ | refine C2 ?_ | refine C3 ?_ | refine C4 ?_ | refine C5 ?_ | refine C6 ?_ | refine C7 ?_ | refine D0 fun γs => ?_ | refine A1 fun γs => ?_ | refine N2 ?_ | refine N3 ?_ | refine N1 ?_); ((conv => whnf); repeat ((first | refine Sw.o ?_ | refine B0 ?_); conv => whnf))))
    refine CallP.flat [] _ c11 awake11_ok rfl ?_
    ((conv => whnf); repeat ((first | refine Sw.o ?_ | refine B0 ?_); conv => whnf))
    (repeat ((first | refine N0 ?_ | refine A0 fun γ => ?_ | refine C1 ?_ | refine C2 ?_ | refine C3 ?_ | refine C4 ?_ | refine C5 ?_ | refine C6 ?_ | refine C7 ?_ | refine D0 fun γs => ?_ | refine A1 fun γs => ?_ | refine N2 ?_ | refine N3 ?_ | refine N1 ?_); ((conv => whnf); repeat ((first | refine Sw.o ?_ | refine B0 ?_); conv => whnf))))
    exact .of rfl
end Go.Proofs.Ytgeeklnokblokaa
