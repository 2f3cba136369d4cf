/- Part 2 of the proof: joined texts (abstract values and their rules; walks of the functions; plain lemmas). -/
import Derived.Test.YtgeeklnokblokaaLeast1
set_option linter.unusedVariables false
set_option linter.unusedSimpArgs false
set_option linter.unusedSectionVars false
namespace Go.Proofs.Ytgeeklnokblokaa
open Go Go.Fw
def ofF : Nat → List Int → List Int → List Int
  | _, [], s => s
  | u, e :: r, s => match decide (0 ≤ e) with
    | true => ofF (u + 1) r (s.set e.toNat u)
    | false => ofF (u + 1) r s
def overA (g : G) (m : List Int) : Nat → List Int → List Bool → List Bool
  | _, [], s => s
  | e, u :: r, s => match decide (u < 0) with
    | true => overA g m (e + 1) r (overF g m (g.eqs.length + 1) e s)
    | false => overA g m (e + 1) r s
def underA (g : G) (of : List Int) : Nat → List Int → List Bool → List Bool
  | _, [], s => s
  | u, e :: r, s => match decide (e < 0) with
    | true => underA g of (u + 1) r (underF g of (g.uses.length + 1) u s)
    | false => underA g of (u + 1) r s
def mF (g : G) : List Int := (greatestF g []).1
def ofM (g : G) : List Int := ofF 0 (mF g) (List.replicate g.eqs.length (-1))
def halvesF (g : G) : List Bool × List Bool :=
  (overA g (mF g) 0 (ofM g) (List.replicate g.eqs.length false), underA g (ofM g) 0 (mF g) (List.replicate g.uses.length false))
theorem ofF_len : ∀ (l : List Int) (u : Nat) (s : List Int), (ofF u l s).length = s.length
  | [], u, s => rfl
  | e :: r, u, s => by
    unfold ofF
    split
    · rw [ofF_len]; simp
    · rw [ofF_len]
theorem runF_ok {g : G} (hg : WF g) (shut : List Bool) : ∀ (l : List Nat) (s : List Int × Int), (∀ e ∈ l, e < g.eqs.length) → MOk g (s.1, shut) → MOk g ((runF g shut l s).1, shut)
  | [], s, _, h => h
  | e :: r, s, hl, h => by
    have hr : ∀ e ∈ r, e < g.eqs.length := fun x hx => hl x (by simp [hx])
    have he := hl e (by simp)
    have ht := tryF_ok hg (shut.length + 1) (e : Int) (s.1, shut) (by omega) (by omega) h
    unfold runF
    split
    · rename_i t hq
      rw [hq] at ht
      exact runF_ok hg shut r (t.1, s.2 + 1) hr ⟨ht.1.lm, h.ls, ht.1.lt⟩
    · rename_i t hq
      rw [hq] at ht
      exact runF_ok hg shut r (t.1, s.2) hr ⟨ht.1.lm, h.ls, ht.1.lt⟩
theorem mF_ok {g : G} (hg : WF g) : (mF g).length = g.uses.length ∧ ∀ x ∈ mF g, x < g.eqs.length := by
  have := runF_ok hg (List.replicate g.uses.length false) (List.range' 0 (g.eqs.length - 0)) (List.replicate g.uses.length (-1), 0) (fun e he => by simpa using he) (startF_ok g)
  exact ⟨this.lm, this.lt⟩
theorem unseen_le (l : List Bool) : unseen l ≤ l.length := List.countP_le_length
set_option maxRecDepth 100000 in
theorem halves_ok (g : G) (hg : WF g) {S S' : Int → Prop} (hS : Shut g (mF g) S) (hS0 : ∀ i (h : i < (ofM g).length), (ofM g)[i] < 0 → S i) (hS' : ShutU g (ofM g) S') (hS0' : ∀ i (h : i < (mF g).length), (mF g)[i] < 0 → S' i) :
    PureCall Try.prog 45 [encG g] (.tup [encBs (halvesF g).1, encBs (halvesF g).2]) := by
  refine pure_cp (E := E 0) T_ok (D_ok 0) [44, 48] Try.func45 rfl (by rfl) (Nat.le_of_ble_eq_true rfl) ?_
  have su := hg.su
  have se := hg.se
  have hjl := hg.len
  have hmok := mF_ok hg
  have hlof : (ofM g).length = g.eqs.length := by unfold ofM; rw [ofF_len]; simp
  ((conv => whnf); repeat ((first | refine Sw.o ?_ | refine B0 ?_); conv => whnf))
  (repeat ((first | refine N0 ?_ | refine A0 fun γ => ?_ | refine C1 ?_ | refine C2 ?_ | refine C3 ?_ | refine C4 ?_ | refine C5 ?_ | refine C6 ?_ | refine C7 ?_ | refine D0 fun γs => ?_ | refine A1 fun γs => ?_ | refine N2 ?_ | refine N3 ?_ | refine N1 ?_); ((conv => whnf); repeat ((first | refine Sw.o ?_ | refine B0 ?_); conv => whnf))))
  refine CallP.pure [] _ c39 (greatest0_ok g hg) ?_
  generalize hR : halvesF g = R
  unfold halvesF at hR
  rw [show (greatestF g []).1 = mF g from rfl]
  generalize (greatestF g []).2 = most
  generalize hof : ofM g = of at hR hS0 hS' hlof ⊢
  unfold ofM at hof
  generalize mF g = m at hR hS hmok hof hS0' ⊢
  obtain ⟨lm, mlt⟩ := hmok
  ((conv => whnf); repeat ((first | refine Sw.o ?_ | refine B0 ?_); conv => whnf))
  (repeat ((first | refine N0 ?_ | refine A0 fun γ => ?_ | refine C1 ?_ | refine C2 ?_ | refine C3 ?_ | refine C4 ?_ | refine C5 ?_ | refine C6 ?_ | refine C7 ?_ | refine D0 fun γs => ?_ | refine A1 fun γs => ?_ | refine N2 ?_ | refine N3 ?_ | refine N1 ?_); ((conv => whnf); repeat ((first | refine Sw.o ?_ | refine B0 ?_); conv => whnf))))
  simp only [List.length_map]
  rename_i γ
  refine CallP.frame 1000000 [(200, 22), (30, 26)] rfl c67 (repeat_ok γ g.eqs.length se) rfl ⟨rfl, trivial⟩ ?_
  rintro r0 h' ⟨δ, rfl, rfl⟩
  refine ⟨[(26, δ, ⟨3, 1, (List.replicate g.eqs.length (-1)).map encI⟩), (1, _, ⟨26, 3, [encG g]⟩), (4, _, ⟨63, 1, [encL m]⟩)], ⟨mvB_flats encI _ (fun _ => rfl) .., rfl, rfl, trivial⟩, ?_⟩
  ((conv => whnf); repeat ((first | refine Sw.o ?_ | refine B0 ?_); conv => whnf))
  (repeat ((first | refine N0 ?_ | refine A0 fun γ => ?_ | refine C1 ?_ | refine C2 ?_ | refine C3 ?_ | refine C4 ?_ | refine C5 ?_ | refine C6 ?_ | refine C7 ?_ | refine D0 fun γs => ?_ | refine A1 fun γs => ?_ | refine N2 ?_ | refine N3 ?_ | refine N1 ?_); ((conv => whnf); repeat ((first | refine Sw.o ?_ | refine B0 ?_); conv => whnf))))
  refine LoopP.intro (fun k σ H => ∃ p1 p4 p6 p26 i, ∃ t : List Int, i ≤ m.length ∧ k = m.length - i ∧ t.length = g.eqs.length ∧ ofF i (m.drop i) t = of ∧
    σ = fr [(1, .op 1 p1 0 0), (4, .op 4 p4 0 0), (6, .op 6 p6 0 0), (27, encL m), (28, encI m.length), (29, encI i)] ∧
    H = hp [(26, p26, ⟨3, 1, t.map encI⟩), (1, p1, ⟨26, 3, [encG g]⟩), (4, p4, ⟨63, 1, [encL m]⟩), (6, p6, ⟨29, 1, [.own 26 p26 0 g.eqs.length]⟩)]) ?_ ?_
  · exact .intro <| W.of ⟨_, _, _, _, _, 0, _, Nat.zero_le _, rfl, by simp, hof, rfl, rfl⟩ ⟨rfl, rfl, rfl, rfl, by simp; rfl, rfl, trivial⟩ ⟨rfl, rfl, rfl, rfl, trivial⟩
  · rintro k σ H ⟨p1, p4, p6, p26, i, t, hi, rfl, ht, hO, rfl, rfl⟩
    ((conv => whnf); repeat ((first | refine Sw.o ?_ | refine B0 ?_); conv => whnf))
    (repeat ((first | refine N0 ?_ | refine A0 fun γ => ?_ | refine C1 ?_ | refine C2 ?_ | refine C3 ?_ | refine C4 ?_ | refine C5 ?_ | refine C6 ?_ | refine C7 ?_ | refine D0 fun γs => ?_ | refine A1 fun γs => ?_ | refine N2 ?_ | refine N3 ?_ | refine N1 ?_); ((conv => whnf); repeat ((first | refine Sw.o ?_ | refine B0 ?_); conv => whnf))))
    refine CondP.dec (fun h => ?_) (fun h => ?_) <;> ((conv => whnf); repeat ((first | refine Sw.o ?_ | refine B0 ?_); conv => whnf))
    · (have h2 := h; try simp only [LN] at h2)
      have hi' : i < m.length := by omega
      have hlt := mlt _ (List.getElem_mem hi')
      rw [List.drop_eq_getElem_cons hi'] at hO
      unfold ofF at hO
      (repeat ((first | refine N0 ?_ | refine A0 fun γ => ?_ | refine C1 ?_ | refine C2 ?_ | refine C3 ?_ | refine C4 ?_ | refine C5 ?_ | refine C6 ?_ | refine C7 ?_ | refine D0 fun γs => ?_ | refine A1 fun γs => ?_ | refine N2 ?_ | refine N3 ?_ | refine N1 ?_); ((conv => whnf); repeat ((first | refine Sw.o ?_ | refine B0 ?_); conv => whnf))))
      (simp (disch := omega) only [LG]; ((conv => whnf); repeat ((first | refine Sw.o ?_ | refine B0 ?_); conv => whnf)))
      generalize m[i] = e at hlt hO ⊢
      (repeat ((first | refine N0 ?_ | refine A0 fun γ => ?_ | refine C1 ?_ | refine C2 ?_ | refine C3 ?_ | refine C4 ?_ | refine C5 ?_ | refine C6 ?_ | refine C7 ?_ | refine D0 fun γs => ?_ | refine A1 fun γs => ?_ | refine N2 ?_ | refine N3 ?_ | refine N1 ?_); ((conv => whnf); repeat ((first | refine Sw.o ?_ | refine B0 ?_); conv => whnf))))
      refine CondP.dec (fun hd => ?_) (fun hd => ?_) <;> ((conv => whnf); repeat ((first | refine Sw.o ?_ | refine B0 ?_); conv => whnf))
      · rw [decide_eq_true hd] at hO
        (repeat ((first | refine N0 ?_ | refine A0 fun γ => ?_ | refine C1 ?_ | refine C2 ?_ | refine C3 ?_ | refine C4 ?_ | refine C5 ?_ | refine C6 ?_ | refine C7 ?_ | refine D0 fun γs => ?_ | refine A1 fun γs => ?_ | refine N2 ?_ | refine N3 ?_ | refine N1 ?_ | simp (disch := omega) only [LG]); ((conv => whnf); repeat ((first | refine Sw.o ?_ | refine B0 ?_); conv => whnf))))
        refine .intro <| W.of ⟨_, by omega, _, _, _, _, i + 1, t.set e.toNat i, by omega, rfl, by simpa using ht, hO, rfl, rfl⟩ ⟨rfl, rfl, rfl, rfl, rfl, rfl, trivial⟩ ⟨?_, rfl, rfl, rfl, trivial⟩
        rw [← set_map (x := (i : Int)) (h := rfl)]; rfl
      · rw [decide_eq_false hd] at hO
        (repeat ((first | refine N0 ?_ | refine A0 fun γ => ?_ | refine C1 ?_ | refine C2 ?_ | refine C3 ?_ | refine C4 ?_ | refine C5 ?_ | refine C6 ?_ | refine C7 ?_ | refine D0 fun γs => ?_ | refine A1 fun γs => ?_ | refine N2 ?_ | refine N3 ?_ | refine N1 ?_ | simp (disch := omega) only [LG]); ((conv => whnf); repeat ((first | refine Sw.o ?_ | refine B0 ?_); conv => whnf))))
        exact .intro <| W.of ⟨_, by omega, _, _, _, _, i + 1, t, by omega, rfl, ht, hO, rfl, rfl⟩ ⟨rfl, rfl, rfl, rfl, rfl, rfl, trivial⟩ ⟨rfl, rfl, rfl, rfl, trivial⟩
    · (have h2 := h; try simp only [LN] at h2)
      rw [List.drop_eq_nil_of_le (by omega)] at hO
      simp only [ofF] at hO
      subst hO
      (repeat ((first | refine N0 ?_ | refine A0 fun γ => ?_ | refine C1 ?_ | refine C2 ?_ | refine C3 ?_ | refine C4 ?_ | refine C5 ?_ | refine C6 ?_ | refine C7 ?_ | refine D0 fun γs => ?_ | refine A1 fun γs => ?_ | refine N2 ?_ | refine N3 ?_ | refine N1 ?_); ((conv => whnf); repeat ((first | refine Sw.o ?_ | refine B0 ?_); conv => whnf))))
      simp only [List.length_map, Int.toNat_natCast, rep_encB]
      refine LoopP.intro (fun k σ H => ∃ p1 p4 p6 p9 p10 p11 p26 p44 p48 i, ∃ s : List Bool, i ≤ t.length ∧ k = t.length - i ∧ s.length = g.eqs.length ∧ overA g m i (t.drop i) s = R.1 ∧
        σ = fr [(1, .op 1 p1 0 0), (4, .op 4 p4 0 0), (6, .op 6 p6 0 0), (9, .op 9 p9 0 0), (10, .op 10 p10 0 0), (11, .op 11 p11 0 0), (50, .own 26 p26 0 g.eqs.length), (51, encI t.length), (52, encI i)] ∧
        H = hp [(44, p44, ⟨4, 1, s.map encB⟩), (9, p9, ⟨54, 1, [.own 44 p44 0 g.eqs.length]⟩), (1, p1, ⟨26, 3, [encG g]⟩), (11, p11, ⟨92, 1, [.fn (.func 71) [] [.op 9 p9 0 0, .op 1 p1 0 0, .op 11 p11 0 0, .op 4 p4 0 0]]⟩), (4, p4, ⟨63, 1, [encL m]⟩),
          (26, p26, ⟨3, 1, t.map encI⟩), (6, p6, ⟨29, 1, [.own 26 p26 0 g.eqs.length]⟩), (10, p10, ⟨54, 1, [.own 48 p48 0 g.uses.length]⟩), (48, p48, ⟨4, 1, (List.replicate g.uses.length false).map encB⟩)]) ?_ ?_
      · exact .intro <| W.of ⟨_, _, _, _, _, _, _, _, _, _, 0, _, Nat.zero_le _, rfl, by simp, by rw [← hR]; rfl, rfl, rfl⟩ ⟨rfl, rfl, rfl, rfl, rfl, rfl, rfl, by rw [ht]; rfl, rfl, trivial⟩ ⟨rfl, rfl, rfl, rfl, rfl, rfl, rfl, rfl, rfl, trivial⟩
      · rintro k σ H ⟨p1, p4, p6, p9, p10, p11, p26, p44, p48, i, s, hi, rfl, hs, hO, rfl, rfl⟩
        ((conv => whnf); repeat ((first | refine Sw.o ?_ | refine B0 ?_); conv => whnf))
        (repeat ((first | refine N0 ?_ | refine A0 fun γ => ?_ | refine C1 ?_ | refine C2 ?_ | refine C3 ?_ | refine C4 ?_ | refine C5 ?_ | refine C6 ?_ | refine C7 ?_ | refine D0 fun γs => ?_ | refine A1 fun γs => ?_ | refine N2 ?_ | refine N3 ?_ | refine N1 ?_); ((conv => whnf); repeat ((first | refine Sw.o ?_ | refine B0 ?_); conv => whnf))))
        refine CondP.dec (fun h => ?_) (fun h => ?_) <;> ((conv => whnf); repeat ((first | refine Sw.o ?_ | refine B0 ?_); conv => whnf))
        · (have h2 := h; try simp only [LN] at h2)
          have hi' : i < t.length := by omega
          have hSi := hS0 i hi'
          rw [List.drop_eq_getElem_cons hi'] at hO
          unfold overA at hO
          (repeat ((first | refine N0 ?_ | refine A0 fun γ => ?_ | refine C1 ?_ | refine C2 ?_ | refine C3 ?_ | refine C4 ?_ | refine C5 ?_ | refine C6 ?_ | refine C7 ?_ | refine D0 fun γs => ?_ | refine A1 fun γs => ?_ | refine N2 ?_ | refine N3 ?_ | refine N1 ?_); ((conv => whnf); repeat ((first | refine Sw.o ?_ | refine B0 ?_); conv => whnf))))
          (simp (disch := omega) only [LG]; ((conv => whnf); repeat ((first | refine Sw.o ?_ | refine B0 ?_); conv => whnf)))
          generalize t[i] = u at hSi hO ⊢
          (repeat ((first | refine N0 ?_ | refine A0 fun γ => ?_ | refine C1 ?_ | refine C2 ?_ | refine C3 ?_ | refine C4 ?_ | refine C5 ?_ | refine C6 ?_ | refine C7 ?_ | refine D0 fun γs => ?_ | refine A1 fun γs => ?_ | refine N2 ?_ | refine N3 ?_ | refine N1 ?_); ((conv => whnf); repeat ((first | refine Sw.o ?_ | refine B0 ?_); conv => whnf))))
          refine CondP.dec (fun hd => ?_) (fun hd => ?_) <;> ((conv => whnf); repeat ((first | refine Sw.o ?_ | refine B0 ?_); conv => whnf))
          · rw [decide_eq_true hd] at hO
            simp only at hO
            have hq := overF_ok hS (g.eqs.length + 1) i s (hSi hd) hs
            (repeat ((first | refine N0 ?_ | refine A0 fun γ => ?_ | refine C1 ?_ | refine C2 ?_ | refine C3 ?_ | refine C4 ?_ | refine C5 ?_ | refine C6 ?_ | refine C7 ?_ | refine D0 fun γs => ?_ | refine A1 fun γs => ?_ | refine N2 ?_ | refine N3 ?_ | refine N1 ?_); ((conv => whnf); repeat ((first | refine Sw.o ?_ | refine B0 ?_); conv => whnf))))
            refine CallP.frame 1000000 [(244, 44), (209, 9), (201, 1), (211, 11), (204, 4)] rfl c71 (over_ok g hg m lm hS (g.eqs.length + 1) i s p44 p9 p1 p11 p4 (hSi hd) hs (by have := unseen_le s; omega)) rfl ⟨mvB_flats encB _ (fun _ => rfl) .., rfl, rfl, rfl, rfl, trivial⟩ ?_
            rintro r0 h' ⟨rfl, rfl⟩
            generalize overF g m (g.eqs.length + 1) i s = s' at hO hq
            refine ⟨[(44, p44, ⟨4, 1, s'.map encB⟩), (9, p9, ⟨54, 1, [.own 44 p44 0 g.eqs.length]⟩), (1, p1, ⟨26, 3, [encG g]⟩), (11, p11, ⟨92, 1, [.fn (.func 71) [] [.op 9 p9 0 0, .op 1 p1 0 0, .op 11 p11 0 0, .op 4 p4 0 0]]⟩), (4, p4, ⟨63, 1, [encL m]⟩),
              (26, p26, ⟨3, 1, t.map encI⟩), (6, p6, ⟨29, 1, [.own 26 p26 0 g.eqs.length]⟩), (10, p10, ⟨54, 1, [.own 48 p48 0 g.uses.length]⟩), (48, p48, ⟨4, 1, (List.replicate g.uses.length false).map encB⟩)],
              ⟨mvB_flats encB _ (fun _ => rfl) .., rfl, rfl, rfl, rfl, rfl, rfl, rfl, rfl, trivial⟩, ?_⟩
            ((conv => whnf); repeat ((first | refine Sw.o ?_ | refine B0 ?_); conv => whnf))
            (repeat ((first | refine N0 ?_ | refine A0 fun γ => ?_ | refine C1 ?_ | refine C2 ?_ | refine C3 ?_ | refine C4 ?_ | refine C5 ?_ | refine C6 ?_ | refine C7 ?_ | refine D0 fun γs => ?_ | refine A1 fun γs => ?_ | refine N2 ?_ | refine N3 ?_ | refine N1 ?_); ((conv => whnf); repeat ((first | refine Sw.o ?_ | refine B0 ?_); conv => whnf))))
            exact .intro <| W.of ⟨_, by omega, _, _, _, _, _, _, _, _, _, i + 1, s', by omega, rfl, hq.1, hO, rfl, rfl⟩ ⟨rfl, rfl, rfl, rfl, rfl, rfl, rfl, rfl, rfl, trivial⟩ ⟨rfl, rfl, rfl, rfl, rfl, rfl, rfl, rfl, rfl, trivial⟩
          · rw [decide_eq_false hd] at hO
            (repeat ((first | refine N0 ?_ | refine A0 fun γ => ?_ | refine C1 ?_ | refine C2 ?_ | refine C3 ?_ | refine C4 ?_ | refine C5 ?_ | refine C6 ?_ | refine C7 ?_ | refine D0 fun γs => ?_ | refine A1 fun γs => ?_ | refine N2 ?_ | refine N3 ?_ | refine N1 ?_); ((conv => whnf); repeat ((first | refine Sw.o ?_ | refine B0 ?_); conv => whnf))))
            exact .intro <| W.of ⟨_, by omega, _, _, _, _, _, _, _, _, _, i + 1, s, by omega, rfl, hs, hO, rfl, rfl⟩ ⟨rfl, rfl, rfl, rfl, rfl, rfl, rfl, rfl, rfl, trivial⟩ ⟨rfl, rfl, rfl, rfl, rfl, rfl, rfl, rfl, rfl, trivial⟩
        · (have h2 := h; try simp only [LN] at h2)
          rw [List.drop_eq_nil_of_le (by omega)] at hO
          simp only [overA] at hO
          subst hO
          (repeat ((first | refine N0 ?_ | refine A0 fun γ => ?_ | refine C1 ?_ | refine C2 ?_ | refine C3 ?_ | refine C4 ?_ | refine C5 ?_ | refine C6 ?_ | refine C7 ?_ | refine D0 fun γs => ?_ | refine A1 fun γs => ?_ | refine N2 ?_ | refine N3 ?_ | refine N1 ?_); ((conv => whnf); repeat ((first | refine Sw.o ?_ | refine B0 ?_); conv => whnf))))
          refine LoopP.intro (fun k σ H => ∃ p1 p6 p9 p10 p14 p26 p44 p48 i, ∃ s : List Bool, i ≤ m.length ∧ k = m.length - i ∧ s.length = g.uses.length ∧ underA g t i (m.drop i) s = R.2 ∧
            σ = fr [(1, .op 1 p1 0 0), (6, .op 6 p6 0 0), (9, .op 9 p9 0 0), (10, .op 10 p10 0 0), (14, .op 14 p14 0 0), (64, encL m), (65, encI m.length), (66, encI i)] ∧
            H = hp [(48, p48, ⟨4, 1, s.map encB⟩), (10, p10, ⟨54, 1, [.own 48 p48 0 g.uses.length]⟩), (1, p1, ⟨26, 3, [encG g]⟩), (14, p14, ⟨92, 1, [.fn (.func 72) [] [.op 10 p10 0 0, .op 1 p1 0 0, .op 14 p14 0 0, .op 6 p6 0 0]]⟩), (6, p6, ⟨29, 1, [.own 26 p26 0 g.eqs.length]⟩), (26, p26, ⟨3, 1, t.map encI⟩), (44, p44, ⟨4, 1, R.1.map encB⟩), (9, p9, ⟨54, 1, [.own 44 p44 0 g.eqs.length]⟩)]) ?_ ?_
          · exact .intro <| W.of ⟨_, _, _, _, _, _, _, _, _, 0, _, Nat.zero_le _, rfl, by simp, by rw [← hR]; rfl, rfl, rfl⟩ ⟨rfl, rfl, rfl, rfl, rfl, rfl, by simp; rfl, rfl, trivial⟩ ⟨rfl, rfl, rfl, rfl, rfl, rfl, rfl, rfl, trivial⟩
          · rintro k σ H ⟨p1, p6, p9, p10, p14, p26, p44, p48, i, s, hi, rfl, hs', hO, rfl, rfl⟩
            ((conv => whnf); repeat ((first | refine Sw.o ?_ | refine B0 ?_); conv => whnf))
            (repeat ((first | refine N0 ?_ | refine A0 fun γ => ?_ | refine C1 ?_ | refine C2 ?_ | refine C3 ?_ | refine C4 ?_ | refine C5 ?_ | refine C6 ?_ | refine C7 ?_ | refine D0 fun γs => ?_ | refine A1 fun γs => ?_ | refine N2 ?_ | refine N3 ?_ | refine N1 ?_); ((conv => whnf); repeat ((first | refine Sw.o ?_ | refine B0 ?_); conv => whnf))))
            refine CondP.dec (fun h => ?_) (fun h => ?_) <;> ((conv => whnf); repeat ((first | refine Sw.o ?_ | refine B0 ?_); conv => whnf))
            · (have h2 := h; try simp only [LN] at h2)
              have hi' : i < m.length := by omega
              have hSi := hS0' i hi'
              rw [List.drop_eq_getElem_cons hi'] at hO
              unfold underA at hO
              (repeat ((first | refine N0 ?_ | refine A0 fun γ => ?_ | refine C1 ?_ | refine C2 ?_ | refine C3 ?_ | refine C4 ?_ | refine C5 ?_ | refine C6 ?_ | refine C7 ?_ | refine D0 fun γs => ?_ | refine A1 fun γs => ?_ | refine N2 ?_ | refine N3 ?_ | refine N1 ?_); ((conv => whnf); repeat ((first | refine Sw.o ?_ | refine B0 ?_); conv => whnf))))
              (simp (disch := omega) only [LG]; ((conv => whnf); repeat ((first | refine Sw.o ?_ | refine B0 ?_); conv => whnf)))
              generalize m[i] = e at hSi hO ⊢
              (repeat ((first | refine N0 ?_ | refine A0 fun γ => ?_ | refine C1 ?_ | refine C2 ?_ | refine C3 ?_ | refine C4 ?_ | refine C5 ?_ | refine C6 ?_ | refine C7 ?_ | refine D0 fun γs => ?_ | refine A1 fun γs => ?_ | refine N2 ?_ | refine N3 ?_ | refine N1 ?_); ((conv => whnf); repeat ((first | refine Sw.o ?_ | refine B0 ?_); conv => whnf))))
              refine CondP.dec (fun hd => ?_) (fun hd => ?_) <;> ((conv => whnf); repeat ((first | refine Sw.o ?_ | refine B0 ?_); conv => whnf))
              · rw [decide_eq_true hd] at hO
                simp only at hO
                have hq := underF_ok hS' (g.uses.length + 1) i s (hSi hd) hs'
                (repeat ((first | refine N0 ?_ | refine A0 fun γ => ?_ | refine C1 ?_ | refine C2 ?_ | refine C3 ?_ | refine C4 ?_ | refine C5 ?_ | refine C6 ?_ | refine C7 ?_ | refine D0 fun γs => ?_ | refine A1 fun γs => ?_ | refine N2 ?_ | refine N3 ?_ | refine N1 ?_); ((conv => whnf); repeat ((first | refine Sw.o ?_ | refine B0 ?_); conv => whnf))))
                refine CallP.frame 1000000 [(248, 48), (210, 10), (201, 1), (214, 14), (206, 6), (226, 26)] rfl c72 (under72_ok g hg t ht hS' (g.uses.length + 1) i s p48 p10 p1 p14 p6 p26 (hSi hd) hs' (by have := unseen_le s; omega)) rfl ⟨mvB_flats encB _ (fun _ => rfl) .., rfl, rfl, rfl, rfl, mvB_flats encI _ (fun _ => rfl) .., trivial⟩ ?_
                rintro r0 h' ⟨rfl, rfl⟩
                generalize underF g t (g.uses.length + 1) i s = s' at hO hq
                refine ⟨[(48, p48, ⟨4, 1, s'.map encB⟩), (10, p10, ⟨54, 1, [.own 48 p48 0 g.uses.length]⟩), (1, p1, ⟨26, 3, [encG g]⟩), (14, p14, ⟨92, 1, [.fn (.func 72) [] [.op 10 p10 0 0, .op 1 p1 0 0, .op 14 p14 0 0, .op 6 p6 0 0]]⟩), (6, p6, ⟨29, 1, [.own 26 p26 0 g.eqs.length]⟩), (26, p26, ⟨3, 1, t.map encI⟩), (44, p44, ⟨4, 1, R.1.map encB⟩), (9, p9, ⟨54, 1, [.own 44 p44 0 g.eqs.length]⟩)], ⟨mvB_flats encB _ (fun _ => rfl) .., rfl, rfl, rfl, rfl, mvB_flats encI _ (fun _ => rfl) .., rfl, rfl, trivial⟩, ?_⟩
                ((conv => whnf); repeat ((first | refine Sw.o ?_ | refine B0 ?_); conv => whnf))
                (repeat ((first | refine N0 ?_ | refine A0 fun γ => ?_ | refine C1 ?_ | refine C2 ?_ | refine C3 ?_ | refine C4 ?_ | refine C5 ?_ | refine C6 ?_ | refine C7 ?_ | refine D0 fun γs => ?_ | refine A1 fun γs => ?_ | refine N2 ?_ | refine N3 ?_ | refine N1 ?_); ((conv => whnf); repeat ((first | refine Sw.o ?_ | refine B0 ?_); conv => whnf))))
                exact .intro <| W.of ⟨_, by omega, _, _, _, _, _, _, _, _, i + 1, s', by omega, rfl, hq.1, hO, rfl, rfl⟩ ⟨rfl, rfl, rfl, rfl, rfl, rfl, rfl, rfl, trivial⟩ ⟨rfl, rfl, rfl, rfl, rfl, rfl, rfl, rfl, trivial⟩
              · rw [decide_eq_false hd] at hO
                (repeat ((first | refine N0 ?_ | refine A0 fun γ => ?_ | refine C1 ?_ | refine C2 ?_ | refine C3 ?_ | refine C4 ?_ | refine C5 ?_ | refine C6 ?_ | refine C7 ?_ | refine D0 fun γs => ?_ | refine A1 fun γs => ?_ | refine N2 ?_ | refine N3 ?_ | refine N1 ?_); ((conv => whnf); repeat ((first | refine Sw.o ?_ | refine B0 ?_); conv => whnf))))
                exact .intro <| W.of ⟨_, by omega, _, _, _, _, _, _, _, _, i + 1, s, by omega, rfl, hs', hO, rfl, rfl⟩ ⟨rfl, rfl, rfl, rfl, rfl, rfl, rfl, rfl, trivial⟩ ⟨rfl, rfl, rfl, rfl, rfl, rfl, rfl, rfl, trivial⟩
            · (have h2 := h; try simp only [LN] at h2)
              rw [List.drop_eq_nil_of_le (by omega)] at hO
              simp only [underA] at hO
              subst hO
              (repeat ((first | refine N0 ?_ | refine A0 fun γ => ?_ | refine C1 ?_ | refine C2 ?_ | refine C3 ?_ | refine C4 ?_ | refine C5 ?_ | refine C6 ?_ | refine C7 ?_ | refine D0 fun γs => ?_ | refine A1 fun γs => ?_ | refine N2 ?_ | refine N3 ?_ | refine N1 ?_); ((conv => whnf); repeat ((first | refine Sw.o ?_ | refine B0 ?_); conv => whnf))))
              refine .of ?_
              show AV.tup [AV.sl 1 _, AV.sl 1 _] = AV.tup [AV.sl 1 _, AV.sl 1 _]
              rw [snap_list _ _ _ _ hs.symm (fun _ => rfl), snap_list _ _ _ _ hs'.symm (fun _ => rfl)]
end Go.Proofs.Ytgeeklnokblokaa
namespace Go.Proofs.Ytgeeklnokblokaa
open Go Go.Fw
/-- A list, or nil. -/
def encL0 (x : List Int × Bool) : AV := match x.2 with
  | true => encL x.1
  | false => .val (.slice none 0 0)
def onlyJ : List (List Int) → List Bool → List (List Int × Bool)
  | l :: r, b :: s => (l, b) :: onlyJ r s
  | l, _ => l.map fun x => (x, true)
def cutJ (x : List Int × Bool) : List Int := match x.2 with
  | true => x.1
  | false => []
def onlyF (g : G) (eqs : List Bool) : G := ⟨g.eqs, g.uses, (onlyJ g.joined eqs).map cutJ⟩
theorem onlyJ_len : ∀ (l : List (List Int)) (b : List Bool), (onlyJ l b).length = l.length
  | [], _ => by simp [onlyJ]
  | l :: r, [] => by simp [onlyJ]
  | l :: r, b :: s => by simp [onlyJ, onlyJ_len r s]
theorem onlyJ_nil (l : List (List Int)) : onlyJ l [] = l.map fun x => (x, true) := by cases l <;> rfl
theorem onlyJ_take : ∀ (l : List (List Int)) (b : List Bool) (i : Nat) (h : i < b.length) (h' : i < l.length), onlyJ l (b.take (i + 1)) = (onlyJ l (b.take i)).set i (l[i], b[i])
  | [], _, _, _, h' => absurd h' (by simp)
  | l :: r, [], _, h, _ => absurd h (by simp)
  | l :: r, b :: s, 0, _, _ => by simp [onlyJ, onlyJ_nil]
  | l :: r, b :: s, i + 1, h, h' => by
    simp only [List.take_succ_cons, onlyJ, List.set_cons_succ, List.getElem_cons_succ]
    rw [onlyJ_take r s i (by simpa using h) (by simpa using h')]
theorem onlyJ_at : ∀ (l : List (List Int)) (b : List Bool) (i : Nat) (h : i < b.length) (h' : i < l.length), (onlyJ l (b.take i))[i]'(by rw [onlyJ_len]; exact h') = (l[i], true)
  | [], _, _, _, h' => absurd h' (by simp)
  | l :: r, [], _, h, _ => absurd h (by simp)
  | l :: r, b :: s, 0, _, _ => by simp [onlyJ]
  | l :: r, b :: s, i + 1, h, h' => by
    simp only [List.take_succ_cons, onlyJ, List.getElem_cons_succ]
    exact onlyJ_at r s i (by simpa using h) (by simpa using h')
theorem onlyJ_start (l : List (List Int)) : (onlyJ l []).map encL0 = l.map encL := by rw [onlyJ_nil, List.map_map]; rfl
theorem Le.sl {n : Nat} {xs ys : List AV} (hl : xs.length = ys.length) (h1 : ∀ i (h : i < xs.length) (h' : i < ys.length), ys[i].cells.length = xs[i].cells.length ∧ ∀ j (k : j < xs[i].cells.length) (k' : j < ys[i].cells.length), Le xs[i].cells[j] ys[i].cells[j]) : Le (.sl n xs) (.sl n ys) := by
  intro w N v hv
  cases hv with
  | slnil n =>
    have : ys = [] := List.eq_nil_of_length_eq_zero (by simpa using hl.symm)
    subst this
    exact .slnil n
  | slemp n a =>
    have : ys = [] := List.eq_nil_of_length_eq_zero (by simpa using hl.symm)
    subst this
    exact .slemp n a
  | sl _ _ c o cap f h2 h3 h4 h5 h6 h7 h8 =>
    rw [hl]
    refine .sl n ys c o cap f (by omega) h3 h4 (fun i h => ?_) (fun i h j hj => h6 i (by omega) j hj) (fun i h j hj => ?_) (fun i j hi hj => h8 i j (by omega) hj)
    · rw [(h1 i (by omega) h).1]; exact h5 i (by omega)
    · have hh := h1 i (by omega) h
      exact hh.2 j (by rw [← hh.1]; exact hj) hj _ _ _ (h7 i (by omega) j (by rw [← hh.1]; exact hj))
theorem le0 (x : List Int × Bool) : (encL (cutJ x)).cells.length = (encL0 x).cells.length ∧ ∀ j (k : j < (encL0 x).cells.length) (k' : j < (encL (cutJ x)).cells.length), Le (encL0 x).cells[j] (encL (cutJ x)).cells[j] := by
  obtain ⟨l, b⟩ := x
  cases b
  · refine ⟨rfl, fun j k k' => ?_⟩
    have : j = 0 := by simp [encL0, AV.cells] at k; exact k
    subst this
    exact Le.nil 1
  · refine ⟨rfl, fun j k k' => ?_⟩
    have : j = 0 := by simp [encL0, encL, AV.cells] at k; exact k
    subst this
    exact Le.refl _
set_option maxRecDepth 100000 in
theorem only_ok (g : G) (hg : WF g) (eqs : List Bool) (he : eqs.length = g.eqs.length) : PureCall Try.prog 51 [encG g, encBs eqs] (encG (onlyF g eqs)) := by
  refine pure_cp (E := E 0) T_ok (D_ok 0) [11] Try.func51 rfl (by rfl) (Nat.le_of_ble_eq_true rfl) ?_
  have se := hg.se
  have hjl := hg.len
  ((conv => whnf); repeat ((first | refine Sw.o ?_ | refine B0 ?_); conv => whnf))
  (repeat ((first | refine N0 ?_ | refine A0 fun γ => ?_ | refine C1 ?_ | refine C2 ?_ | refine C3 ?_ | refine C4 ?_ | refine C5 ?_ | refine C6 ?_ | refine C7 ?_ | refine D0 fun γs => ?_ | refine A1 fun γs => ?_ | refine N2 ?_ | refine N3 ?_ | refine N1 ?_); ((conv => whnf); repeat ((first | refine Sw.o ?_ | refine B0 ?_); conv => whnf))))
  refine CallP.frame 1000000 [(5, 11)] rfl c41 (clone41_ok g.joined (by omega)) rfl trivial ?_
  rintro r0 h' ⟨δ, rfl, rfl⟩
  refine ⟨[(11, δ, ⟨29, 1, (onlyJ g.joined (eqs.take 0)).map encL0⟩), (2, _, ⟨26, 3, [encG g]⟩), (4, _, ⟨26, 3, _⟩), (5, _, ⟨26, 3, [encG g]⟩)], ⟨?_, rfl, rfl, rfl, trivial⟩, ?_⟩
  · rw [List.take_zero, onlyJ_start]
    exact mvB_flats encL _ (fun _ => rfl) ..
  ((conv => whnf); repeat ((first | refine Sw.o ?_ | refine B0 ?_); conv => whnf))
  (repeat ((first | refine N0 ?_ | refine A0 fun γ => ?_ | refine C1 ?_ | refine C2 ?_ | refine C3 ?_ | refine C4 ?_ | refine C5 ?_ | refine C6 ?_ | refine C7 ?_ | refine D0 fun γs => ?_ | refine A1 fun γs => ?_ | refine N2 ?_ | refine N3 ?_ | refine N1 ?_); ((conv => whnf); repeat ((first | refine Sw.o ?_ | refine B0 ?_); conv => whnf))))
  simp only [List.length_map]
  refine LoopP.intro (fun k σ H => ∃ p4 p5 p11 i, i ≤ eqs.length ∧ k = eqs.length - i ∧
    σ = fr [(4, .op 4 p4 0 0), (5, .op 5 p5 0 0), (13, encBs eqs), (14, encI eqs.length), (15, encI i)] ∧
    H = hp [(11, p11, ⟨29, 1, (onlyJ g.joined (eqs.take i)).map encL0⟩), (4, p4, ⟨26, 3, [.agg [.val (.slice none 0 0), .val (.slice none 0 0), .val (.slice none 0 0)]]⟩), (5, p5, ⟨26, 3, [.agg [.sl 1 (g.eqs.map encS), .sl 3 (g.uses.map encU), .own 11 p11 0 g.joined.length]]⟩)]) ?_ ?_
  · exact .intro <| W.of ⟨_, _, _, _, 0, Nat.zero_le _, rfl, rfl, rfl⟩ ⟨rfl, rfl, rfl, rfl, rfl, trivial⟩ ⟨rfl, rfl, rfl, trivial⟩
  · rintro k σ H ⟨p4, p5, p11, i, hi, rfl, rfl, rfl⟩
    have hol : ((onlyJ g.joined (eqs.take i)).map encL0).length = g.joined.length := by rw [List.length_map, onlyJ_len]
    ((conv => whnf); repeat ((first | refine Sw.o ?_ | refine B0 ?_); conv => whnf))
    (repeat ((first | refine N0 ?_ | refine A0 fun γ => ?_ | refine C1 ?_ | refine C2 ?_ | refine C3 ?_ | refine C4 ?_ | refine C5 ?_ | refine C6 ?_ | refine C7 ?_ | refine D0 fun γs => ?_ | refine A1 fun γs => ?_ | refine N2 ?_ | refine N3 ?_ | refine N1 ?_); ((conv => whnf); repeat ((first | refine Sw.o ?_ | refine B0 ?_); conv => whnf))))
    refine CondP.dec (fun h => ?_) (fun h => ?_) <;> ((conv => whnf); repeat ((first | refine Sw.o ?_ | refine B0 ?_); conv => whnf))
    · (have h2 := h; try simp only [LN] at h2)
      have hi' : i < eqs.length := by omega
      have hij : i < g.joined.length := by omega
      have hT := onlyJ_take g.joined eqs i hi' hij
      have hA := onlyJ_at g.joined eqs i hi' hij
      (repeat ((first | refine N0 ?_ | refine A0 fun γ => ?_ | refine C1 ?_ | refine C2 ?_ | refine C3 ?_ | refine C4 ?_ | refine C5 ?_ | refine C6 ?_ | refine C7 ?_ | refine D0 fun γs => ?_ | refine A1 fun γs => ?_ | refine N2 ?_ | refine N3 ?_ | refine N1 ?_); ((conv => whnf); repeat ((first | refine Sw.o ?_ | refine B0 ?_); conv => whnf))))
      (simp (disch := omega) only [LG]; ((conv => whnf); repeat ((first | refine Sw.o ?_ | refine B0 ?_); conv => whnf)))
      generalize eqs[i] = b at hT ⊢
      refine CondP.not ?_
      refine CondP.intro (fun hb => ?_) (fun hb => ?_) <;> ((conv => whnf); repeat ((first | refine Sw.o ?_ | refine B0 ?_); conv => whnf))
      · subst hb
        (repeat ((first | refine N0 ?_ | refine A0 fun γ => ?_ | refine C1 ?_ | refine C2 ?_ | refine C3 ?_ | refine C4 ?_ | refine C5 ?_ | refine C6 ?_ | refine C7 ?_ | refine D0 fun γs => ?_ | refine A1 fun γs => ?_ | refine N2 ?_ | refine N3 ?_ | refine N1 ?_); ((conv => whnf); repeat ((first | refine Sw.o ?_ | refine B0 ?_); conv => whnf))))
        refine .intro <| W.of ⟨_, by omega, _, _, _, i + 1, by omega, rfl, rfl, rfl⟩ ⟨rfl, rfl, rfl, rfl, rfl, trivial⟩ ⟨?_, rfl, rfl, trivial⟩
        rw [hT, ← hA, List.set_getElem_self]; rfl
      · subst hb
        (repeat ((first | refine N0 ?_ | refine A0 fun γ => ?_ | refine C1 ?_ | refine C2 ?_ | refine C3 ?_ | refine C4 ?_ | refine C5 ?_ | refine C6 ?_ | refine C7 ?_ | refine D0 fun γs => ?_ | refine A1 fun γs => ?_ | refine N2 ?_ | refine N3 ?_ | refine N1 ?_); ((conv => whnf); repeat ((first | refine Sw.o ?_ | refine B0 ?_); conv => whnf))))
        have hg0 : ((onlyJ g.joined (eqs.take i)).map encL0).getD i .dead = encL g.joined[i] := by
          rw [getD_map _ _ _ (by rw [onlyJ_len]; exact hij), hA]; rfl
        simp only [Int.toNat_natCast, Nat.zero_add, hg0]
        ((conv => whnf); repeat ((first | refine Sw.o ?_ | refine B0 ?_); conv => whnf))
        (repeat ((first | refine N0 ?_ | refine A0 fun γ => ?_ | refine C1 ?_ | refine C2 ?_ | refine C3 ?_ | refine C4 ?_ | refine C5 ?_ | refine C6 ?_ | refine C7 ?_ | refine D0 fun γs => ?_ | refine A1 fun γs => ?_ | refine N2 ?_ | refine N3 ?_ | refine N1 ?_); ((conv => whnf); repeat ((first | refine Sw.o ?_ | refine B0 ?_); conv => whnf))))
        refine .intro <| W.of ⟨_, by omega, _, _, _, i + 1, by omega, rfl, rfl, rfl⟩ ⟨rfl, rfl, rfl, rfl, rfl, trivial⟩ ⟨?_, rfl, rfl, trivial⟩
        rw [hT, ← set_map (h := rfl)]; rfl
    · (have h2 := h; try simp only [LN] at h2)
      have : i = eqs.length := by omega
      subst this
      (repeat ((first | refine N0 ?_ | refine A0 fun γ => ?_ | refine C1 ?_ | refine C2 ?_ | refine C3 ?_ | refine C4 ?_ | refine C5 ?_ | refine C6 ?_ | refine C7 ?_ | refine D0 fun γs => ?_ | refine A1 fun γs => ?_ | refine N2 ?_ | refine N3 ?_ | refine N1 ?_); ((conv => whnf); repeat ((first | refine Sw.o ?_ | refine B0 ?_); conv => whnf))))
      show Fw.Ends (.agg [.sl 1 (g.eqs.map encS), .sl 3 (g.uses.map encU), .sl 1 ((((List.map encL0 _).drop 0).take g.joined.length).map (snapEl _))]) _
      rw [snap_list _ _ _ _ (by rw [onlyJ_len]) (by rintro ⟨l, b⟩; cases b <;> rfl), List.take_length]
      have h3 : Le (.sl 1 ((onlyJ g.joined eqs).map encL0)) (.sl 1 ((onlyF g eqs).joined.map encL)) := by
        unfold onlyF
        refine Le.sl (by simp) fun i h h' => ?_
        simp only [List.getElem_map]
        exact le0 _
      have h := Le.cons (Le.refl (.sl 1 (g.eqs.map encS))) (Le.cons (Le.refl (.sl 3 (g.uses.map encU))) (Le.cons h3 Le.nils))
      exact Fw.Ends.le (Le.agg h.1 h.2)
end Go.Proofs.Ytgeeklnokblokaa
namespace Go.Proofs.Ytgeeklnokblokaa
open Go Go.Fw
set_option maxHeartbeats 4000000 in
set_option maxRecDepth 100000 in
theorem valid65_ok (g : G) (hz : Sz g) : PureCall Try.prog 65 [encG g] (encB (validG g)) := by
  refine pure_cp (E := E 0) T_ok (D_ok 0) [] Try.func65 rfl (by rfl) (Nat.le_of_ble_eq_true rfl) ?_
  have ze := hz.e
  have zu := hz.u
  have zj := hz.j
  have hlu : (g.uses.map encU).length = g.uses.length := List.length_map ..
  have hle : (g.eqs.map encS).length = g.eqs.length := List.length_map ..
  have hlj : (g.joined.map encL).length = g.joined.length := List.length_map ..
  generalize hV : validG g = V
  unfold validG at hV
  ((conv => whnf); repeat ((first | refine Sw.o ?_ | refine B0 ?_); conv => whnf))
  (repeat ((first | refine N0 ?_ | refine A0 fun γ => ?_ | with_reducible refine C1 ?_ | with_reducible refine C2 ?_ | with_reducible refine C3 ?_ | refine C8 ?_ | refine C9 ?_ | refine C6 ?_ | refine C7 ?_ | refine A1 fun γs => ?_ | refine N2 ?_ | refine N3 ?_ | refine N1 ?_); ((conv => whnf); repeat ((first | refine Sw.o ?_ | refine B0 ?_); conv => whnf))))
  simp only [List.length_map]
  refine CondP.dec (fun h0 => ?_) (fun h0 => ?_) <;> ((conv => whnf); repeat ((first | refine Sw.o ?_ | refine B0 ?_); conv => whnf))
  · rw [decide_eq_true (by omega), Bool.true_and] at hV
    (repeat ((first | refine N0 ?_ | refine A0 fun γ => ?_ | with_reducible refine C1 ?_ | with_reducible refine C2 ?_ | with_reducible refine C3 ?_ | refine C8 ?_ | refine C9 ?_ | refine C6 ?_ | refine C7 ?_ | refine A1 fun γs => ?_ | refine N2 ?_ | refine N3 ?_ | refine N1 ?_); ((conv => whnf); repeat ((first | refine Sw.o ?_ | refine B0 ?_); conv => whnf))))
    refine LoopP.intro (fun k σ H => ∃ p i, i ≤ g.eqs.length ∧ k = g.eqs.length - i ∧ (eqsV (prevE g.eqs i) (g.eqs.drop i) && usesV none g.uses && listsV g.uses.length g.joined) = V ∧
      σ = fr [(1, .op 1 p 0 0), (3, encI i)] ∧ H = hp [(1, p, ⟨26, 3, [encG g]⟩)]) ?_ ?_
    · exact .intro <| W.of ⟨_, _, 0, Nat.zero_le _, rfl, hV, rfl, rfl⟩ ⟨rfl, rfl, trivial⟩ ⟨rfl, trivial⟩
    · rintro k σ H ⟨p, i, hi, rfl, hO, rfl, rfl⟩
      ((conv => whnf); repeat ((first | refine Sw.o ?_ | refine B0 ?_); conv => whnf))
      (repeat ((first | refine N0 ?_ | refine A0 fun γ => ?_ | with_reducible refine C1 ?_ | with_reducible refine C2 ?_ | with_reducible refine C3 ?_ | refine C8 ?_ | refine C9 ?_ | refine C6 ?_ | refine C7 ?_ | refine A1 fun γs => ?_ | refine N2 ?_ | refine N3 ?_ | refine N1 ?_); ((conv => whnf); repeat ((first | refine Sw.o ?_ | refine B0 ?_); conv => whnf))))
      refine CondP.dec (fun h => ?_) (fun h => ?_) <;> ((conv => whnf); repeat ((first | refine Sw.o ?_ | refine B0 ?_); conv => whnf))
      · have hi' : i < g.eqs.length := by omega
        have zs := hz.s _ (List.getElem_mem hi')
        rw [List.drop_eq_getElem_cons hi'] at hO
        unfold eqsV at hO
        have hprev : prevE g.eqs (i + 1) = some g.eqs[i] := List.getElem?_eq_getElem hi'
        (repeat ((first | refine N0 ?_ | refine A0 fun γ => ?_ | with_reducible refine C1 ?_ | with_reducible refine C2 ?_ | with_reducible refine C3 ?_ | refine C8 ?_ | refine C9 ?_ | refine C6 ?_ | refine C7 ?_ | refine D0 fun γs => ?_ | refine A1 fun γs => ?_ | refine N2 ?_ | refine N3 ?_ | refine N1 ?_ | simp (disch := omega) only [LG]); ((conv => whnf); repeat ((first | refine Sw.o ?_ | refine B0 ?_); conv => whnf))))
        refine CallG.intro (encB (nameF g.eqs[i])) c79 (name79_ok g.eqs[i] (by omega)) ?_
        ((conv => whnf); repeat ((first | refine Sw.o ?_ | refine B0 ?_); conv => whnf))
        (repeat ((first | refine N0 ?_ | refine A0 fun γ => ?_ | with_reducible refine C1 ?_ | with_reducible refine C2 ?_ | with_reducible refine C3 ?_ | refine C8 ?_ | refine C9 ?_ | refine C6 ?_ | refine C7 ?_ | refine D0 fun γs => ?_ | refine A1 fun γs => ?_ | refine N2 ?_ | refine N3 ?_ | refine N1 ?_ | simp (disch := omega) only [LG]); ((conv => whnf); repeat ((first | refine Sw.o ?_ | refine B0 ?_); conv => whnf))))
        refine CondP.intro (fun h1 => ?_) (fun h1 => ?_) <;> ((conv => whnf); repeat ((first | refine Sw.o ?_ | refine B0 ?_); conv => whnf))
        · rw [h1, Bool.true_and] at hO
          (repeat ((first | refine N0 ?_ | refine A0 fun γ => ?_ | with_reducible refine C1 ?_ | with_reducible refine C2 ?_ | with_reducible refine C3 ?_ | refine C8 ?_ | refine C9 ?_ | refine C6 ?_ | refine C7 ?_ | refine D0 fun γs => ?_ | refine A1 fun γs => ?_ | refine N2 ?_ | refine N3 ?_ | refine N1 ?_ | simp (disch := omega) only [LG]); ((conv => whnf); repeat ((first | refine Sw.o ?_ | refine B0 ?_); conv => whnf))))
          refine CondP.dec (fun h2 => ?_) (fun h2 => ?_) <;> ((conv => whnf); repeat ((first | refine Sw.o ?_ | refine B0 ?_); conv => whnf))
          · obtain ⟨j, rfl⟩ : ∃ j, i = j + 1 := ⟨i - 1, by omega⟩
            have hj : j < g.eqs.length := by omega
            have hp1 : prevE g.eqs (j + 1) = some g.eqs[j] := List.getElem?_eq_getElem hj
            rw [hp1] at hO
            simp only [ltE] at hO
            (repeat ((first | refine N0 ?_ | refine A0 fun γ => ?_ | with_reducible refine C1 ?_ | with_reducible refine C2 ?_ | with_reducible refine C3 ?_ | refine C8 ?_ | refine C9 ?_ | refine C6 ?_ | refine C7 ?_ | refine D0 fun γs => ?_ | refine A1 fun γs => ?_ | refine N2 ?_ | refine N3 ?_ | refine N1 ?_ | simp (disch := omega) only [LG]); ((conv => whnf); repeat ((first | refine Sw.o ?_ | refine B0 ?_); conv => whnf))))
            simp only [show ((↑(j + 1) : Int) - 1).toNat = j by omega]
            (repeat ((first | refine N0 ?_ | refine A0 fun γ => ?_ | with_reducible refine C1 ?_ | with_reducible refine C2 ?_ | with_reducible refine C3 ?_ | refine C8 ?_ | refine C9 ?_ | refine C6 ?_ | refine C7 ?_ | refine D0 fun γs => ?_ | refine A1 fun γs => ?_ | refine N2 ?_ | refine N3 ?_ | refine N1 ?_ | simp (disch := omega) only [LG]); ((conv => whnf); repeat ((first | refine Sw.o ?_ | refine B0 ?_); conv => whnf))))
            refine CondP.intro (fun h3 => ?_) (fun h3 => ?_) <;> ((conv => whnf); repeat ((first | refine Sw.o ?_ | refine B0 ?_); conv => whnf))
            · rw [h3, Bool.true_and] at hO
              (repeat ((first | refine N0 ?_ | refine A0 fun γ => ?_ | with_reducible refine C1 ?_ | with_reducible refine C2 ?_ | with_reducible refine C3 ?_ | refine C8 ?_ | refine C9 ?_ | refine C6 ?_ | refine C7 ?_ | refine D0 fun γs => ?_ | refine A1 fun γs => ?_ | refine N2 ?_ | refine N3 ?_ | refine N1 ?_ | simp (disch := omega) only [LG]); ((conv => whnf); repeat ((first | refine Sw.o ?_ | refine B0 ?_); conv => whnf))))
              exact .intro <| W.of ⟨_, by omega, _, j + 1 + 1, hi', rfl, by rw [hprev]; exact hO, rfl, rfl⟩ ⟨rfl, rfl, trivial⟩ ⟨rfl, trivial⟩
            · rw [h3, Bool.false_and, Bool.false_and, Bool.false_and] at hO
              (repeat ((first | refine N0 ?_ | refine A0 fun γ => ?_ | with_reducible refine C1 ?_ | with_reducible refine C2 ?_ | with_reducible refine C3 ?_ | refine C8 ?_ | refine C9 ?_ | refine C6 ?_ | refine C7 ?_ | refine D0 fun γs => ?_ | refine A1 fun γs => ?_ | refine N2 ?_ | refine N3 ?_ | refine N1 ?_ | simp (disch := omega) only [LG]); ((conv => whnf); repeat ((first | refine Sw.o ?_ | refine B0 ?_); conv => whnf))))
              exact .of (by rw [← hO]; rfl)
          · have : i = 0 := by omega
            subst this
            rw [show prevE g.eqs 0 = none from rfl] at hO
            simp only [ltE, Bool.true_and] at hO
            (repeat ((first | refine N0 ?_ | refine A0 fun γ => ?_ | with_reducible refine C1 ?_ | with_reducible refine C2 ?_ | with_reducible refine C3 ?_ | refine C8 ?_ | refine C9 ?_ | refine C6 ?_ | refine C7 ?_ | refine D0 fun γs => ?_ | refine A1 fun γs => ?_ | refine N2 ?_ | refine N3 ?_ | refine N1 ?_ | simp (disch := omega) only [LG]); ((conv => whnf); repeat ((first | refine Sw.o ?_ | refine B0 ?_); conv => whnf))))
            exact .intro <| W.of ⟨_, by omega, _, 1, hi', rfl, by rw [hprev]; exact hO, rfl, rfl⟩ ⟨rfl, rfl, trivial⟩ ⟨rfl, trivial⟩
        · rw [h1, Bool.false_and, Bool.false_and, Bool.false_and, Bool.false_and] at hO
          (repeat ((first | refine N0 ?_ | refine A0 fun γ => ?_ | with_reducible refine C1 ?_ | with_reducible refine C2 ?_ | with_reducible refine C3 ?_ | refine C8 ?_ | refine C9 ?_ | refine C6 ?_ | refine C7 ?_ | refine D0 fun γs => ?_ | refine A1 fun γs => ?_ | refine N2 ?_ | refine N3 ?_ | refine N1 ?_ | simp (disch := omega) only [LG]); ((conv => whnf); repeat ((first | refine Sw.o ?_ | refine B0 ?_); conv => whnf))))
          exact .of (by rw [← hO]; rfl)
      · rw [List.drop_eq_nil_of_le (by omega)] at hO
        simp only [eqsV, Bool.true_and] at hO
        clear hV
        (repeat ((first | refine N0 ?_ | refine A0 fun γ => ?_ | with_reducible refine C1 ?_ | with_reducible refine C2 ?_ | with_reducible refine C3 ?_ | refine C8 ?_ | refine C9 ?_ | refine C6 ?_ | refine C7 ?_ | refine D0 fun γs => ?_ | refine A1 fun γs => ?_ | refine N2 ?_ | refine N3 ?_ | refine N1 ?_ | simp (disch := omega) only [LG]); ((conv => whnf); repeat ((first | refine Sw.o ?_ | refine B0 ?_); conv => whnf))))
        refine LoopP.intro (fun k σ H => ∃ p i, i ≤ g.uses.length ∧ k = g.uses.length - i ∧ (usesV (prevE g.uses i) (g.uses.drop i) && listsV g.uses.length g.joined) = V ∧
          σ = fr [(1, .op 1 p 0 0), (4, encI i)] ∧ H = hp [(1, p, ⟨26, 3, [encG g]⟩)]) ?_ ?_
        · exact .intro <| W.of ⟨_, _, 0, Nat.zero_le _, rfl, hO, rfl, rfl⟩ ⟨rfl, rfl, trivial⟩ ⟨rfl, trivial⟩
        · rintro k σ H ⟨p, i, hi, rfl, hO, rfl, rfl⟩
          ((conv => whnf); repeat ((first | refine Sw.o ?_ | refine B0 ?_); conv => whnf))
          (repeat ((first | refine N0 ?_ | refine A0 fun γ => ?_ | with_reducible refine C1 ?_ | with_reducible refine C2 ?_ | with_reducible refine C3 ?_ | refine C8 ?_ | refine C9 ?_ | refine C6 ?_ | refine C7 ?_ | refine A1 fun γs => ?_ | refine N2 ?_ | refine N3 ?_ | refine N1 ?_); ((conv => whnf); repeat ((first | refine Sw.o ?_ | refine B0 ?_); conv => whnf))))
          refine CondP.dec (fun h => ?_) (fun h => ?_) <;> ((conv => whnf); repeat ((first | refine Sw.o ?_ | refine B0 ?_); conv => whnf))
          · have hi' : i < g.uses.length := by omega
            have zs := hz.n _ (List.getElem_mem hi')
            rw [List.drop_eq_getElem_cons hi'] at hO
            unfold usesV at hO
            have hprev : prevE g.uses (i + 1) = some g.uses[i] := List.getElem?_eq_getElem hi'
            (repeat ((first | refine N0 ?_ | refine A0 fun γ => ?_ | with_reducible refine C1 ?_ | with_reducible refine C2 ?_ | with_reducible refine C3 ?_ | refine C8 ?_ | refine C9 ?_ | refine C6 ?_ | refine C7 ?_ | refine D0 fun γs => ?_ | refine A1 fun γs => ?_ | refine N2 ?_ | refine N3 ?_ | refine N1 ?_ | simp (disch := omega) only [LG]); ((conv => whnf); repeat ((first | refine Sw.o ?_ | refine B0 ?_); conv => whnf))))
            refine CallG.intro (encB (fitF g.uses[i])) c80 (use80_ok g.uses[i] (by omega)) ?_
            ((conv => whnf); repeat ((first | refine Sw.o ?_ | refine B0 ?_); conv => whnf))
            (repeat ((first | refine N0 ?_ | refine A0 fun γ => ?_ | with_reducible refine C1 ?_ | with_reducible refine C2 ?_ | with_reducible refine C3 ?_ | refine C8 ?_ | refine C9 ?_ | refine C6 ?_ | refine C7 ?_ | refine D0 fun γs => ?_ | refine A1 fun γs => ?_ | refine N2 ?_ | refine N3 ?_ | refine N1 ?_ | simp (disch := omega) only [LG]); ((conv => whnf); repeat ((first | refine Sw.o ?_ | refine B0 ?_); conv => whnf))))
            refine CondP.intro (fun h1 => ?_) (fun h1 => ?_) <;> ((conv => whnf); repeat ((first | refine Sw.o ?_ | refine B0 ?_); conv => whnf))
            · rw [h1, Bool.true_and] at hO
              (repeat ((first | refine N0 ?_ | refine A0 fun γ => ?_ | with_reducible refine C1 ?_ | with_reducible refine C2 ?_ | with_reducible refine C3 ?_ | refine C8 ?_ | refine C9 ?_ | refine C6 ?_ | refine C7 ?_ | refine D0 fun γs => ?_ | refine A1 fun γs => ?_ | refine N2 ?_ | refine N3 ?_ | refine N1 ?_ | simp (disch := omega) only [LG]); ((conv => whnf); repeat ((first | refine Sw.o ?_ | refine B0 ?_); conv => whnf))))
              refine CondP.intro (fun h2 => ?_) (fun h2 => ?_) <;> ((conv => whnf); repeat ((first | refine Sw.o ?_ | refine B0 ?_); conv => whnf))
              · rw [h2, Bool.not_true, Bool.false_and, Bool.false_and, Bool.false_and] at hO
                (repeat ((first | refine N0 ?_ | refine A0 fun γ => ?_ | with_reducible refine C1 ?_ | with_reducible refine C2 ?_ | with_reducible refine C3 ?_ | refine C8 ?_ | refine C9 ?_ | refine C6 ?_ | refine C7 ?_ | refine D0 fun γs => ?_ | refine A1 fun γs => ?_ | refine N2 ?_ | refine N3 ?_ | refine N1 ?_ | simp (disch := omega) only [LG]); ((conv => whnf); repeat ((first | refine Sw.o ?_ | refine B0 ?_); conv => whnf))))
                exact .of (by rw [← hO]; rfl)
              · rw [h2, Bool.not_false, Bool.true_and] at hO
                (repeat ((first | refine N0 ?_ | refine A0 fun γ => ?_ | with_reducible refine C1 ?_ | with_reducible refine C2 ?_ | with_reducible refine C3 ?_ | refine C8 ?_ | refine C9 ?_ | refine C6 ?_ | refine C7 ?_ | refine D0 fun γs => ?_ | refine A1 fun γs => ?_ | refine N2 ?_ | refine N3 ?_ | refine N1 ?_ | simp (disch := omega) only [LG]); ((conv => whnf); repeat ((first | refine Sw.o ?_ | refine B0 ?_); conv => whnf))))
                refine CondP.dec (fun h3 => ?_) (fun h3 => ?_) <;> ((conv => whnf); repeat ((first | refine Sw.o ?_ | refine B0 ?_); conv => whnf))
                · obtain ⟨j, rfl⟩ : ∃ j, i = j + 1 := ⟨i - 1, by omega⟩
                  have hj : j < g.uses.length := by omega
                  have hp1 : prevE g.uses (j + 1) = some g.uses[j] := List.getElem?_eq_getElem hj
                  rw [hp1] at hO
                  simp only [ltU] at hO
                  (repeat ((first | refine N0 ?_ | refine A0 fun γ => ?_ | with_reducible refine C1 ?_ | with_reducible refine C2 ?_ | with_reducible refine C3 ?_ | refine C8 ?_ | refine C9 ?_ | refine C6 ?_ | refine C7 ?_ | refine D0 fun γs => ?_ | refine A1 fun γs => ?_ | refine N2 ?_ | refine N3 ?_ | refine N1 ?_ | simp (disch := omega) only [LG]); ((conv => whnf); repeat ((first | refine Sw.o ?_ | refine B0 ?_); conv => whnf))))
                  simp only [show ((↑(j + 1) : Int) - 1).toNat = j by omega]
                  (repeat ((first | refine N0 ?_ | refine A0 fun γ => ?_ | with_reducible refine C1 ?_ | with_reducible refine C2 ?_ | with_reducible refine C3 ?_ | refine C8 ?_ | refine C9 ?_ | refine C6 ?_ | refine C7 ?_ | refine D0 fun γs => ?_ | refine A1 fun γs => ?_ | refine N2 ?_ | refine N3 ?_ | refine N1 ?_ | simp (disch := omega) only [LG]); ((conv => whnf); repeat ((first | refine Sw.o ?_ | refine B0 ?_); conv => whnf))))
                  refine CallG.intro (encB (beforeF g.uses[j] g.uses[j + 1])) c81 (before81_ok g.uses[j] g.uses[j + 1]) ?_
                  ((conv => whnf); repeat ((first | refine Sw.o ?_ | refine B0 ?_); conv => whnf))
                  (repeat ((first | refine N0 ?_ | refine A0 fun γ => ?_ | with_reducible refine C1 ?_ | with_reducible refine C2 ?_ | with_reducible refine C3 ?_ | refine C8 ?_ | refine C9 ?_ | refine C6 ?_ | refine C7 ?_ | refine D0 fun γs => ?_ | refine A1 fun γs => ?_ | refine N2 ?_ | refine N3 ?_ | refine N1 ?_ | simp (disch := omega) only [LG]); ((conv => whnf); repeat ((first | refine Sw.o ?_ | refine B0 ?_); conv => whnf))))
                  refine CondP.intro (fun h4 => ?_) (fun h4 => ?_) <;> ((conv => whnf); repeat ((first | refine Sw.o ?_ | refine B0 ?_); conv => whnf))
                  · rw [h4, Bool.true_and] at hO
                    (repeat ((first | refine N0 ?_ | refine A0 fun γ => ?_ | with_reducible refine C1 ?_ | with_reducible refine C2 ?_ | with_reducible refine C3 ?_ | refine C8 ?_ | refine C9 ?_ | refine C6 ?_ | refine C7 ?_ | refine D0 fun γs => ?_ | refine A1 fun γs => ?_ | refine N2 ?_ | refine N3 ?_ | refine N1 ?_ | simp (disch := omega) only [LG]); ((conv => whnf); repeat ((first | refine Sw.o ?_ | refine B0 ?_); conv => whnf))))
                    exact .intro <| W.of ⟨_, by omega, _, j + 1 + 1, hi', rfl, by rw [hprev]; exact hO, rfl, rfl⟩ ⟨rfl, rfl, trivial⟩ ⟨rfl, trivial⟩
                  · rw [h4, Bool.false_and, Bool.false_and] at hO
                    (repeat ((first | refine N0 ?_ | refine A0 fun γ => ?_ | with_reducible refine C1 ?_ | with_reducible refine C2 ?_ | with_reducible refine C3 ?_ | refine C8 ?_ | refine C9 ?_ | refine C6 ?_ | refine C7 ?_ | refine D0 fun γs => ?_ | refine A1 fun γs => ?_ | refine N2 ?_ | refine N3 ?_ | refine N1 ?_ | simp (disch := omega) only [LG]); ((conv => whnf); repeat ((first | refine Sw.o ?_ | refine B0 ?_); conv => whnf))))
                    exact .of (by rw [← hO]; rfl)
                · have : i = 0 := by omega
                  subst this
                  rw [show prevE g.uses 0 = none from rfl] at hO
                  simp only [ltU, Bool.true_and] at hO
                  (repeat ((first | refine N0 ?_ | refine A0 fun γ => ?_ | with_reducible refine C1 ?_ | with_reducible refine C2 ?_ | with_reducible refine C3 ?_ | refine C8 ?_ | refine C9 ?_ | refine C6 ?_ | refine C7 ?_ | refine D0 fun γs => ?_ | refine A1 fun γs => ?_ | refine N2 ?_ | refine N3 ?_ | refine N1 ?_ | simp (disch := omega) only [LG]); ((conv => whnf); repeat ((first | refine Sw.o ?_ | refine B0 ?_); conv => whnf))))
                  exact .intro <| W.of ⟨_, by omega, _, 1, hi', rfl, by rw [hprev]; exact hO, rfl, rfl⟩ ⟨rfl, rfl, trivial⟩ ⟨rfl, trivial⟩
            · rw [h1, Bool.false_and, Bool.false_and, Bool.false_and, Bool.false_and] at hO
              (repeat ((first | refine N0 ?_ | refine A0 fun γ => ?_ | with_reducible refine C1 ?_ | with_reducible refine C2 ?_ | with_reducible refine C3 ?_ | refine C8 ?_ | refine C9 ?_ | refine C6 ?_ | refine C7 ?_ | refine D0 fun γs => ?_ | refine A1 fun γs => ?_ | refine N2 ?_ | refine N3 ?_ | refine N1 ?_ | simp (disch := omega) only [LG]); ((conv => whnf); repeat ((first | refine Sw.o ?_ | refine B0 ?_); conv => whnf))))
              exact .of (by rw [← hO]; rfl)
          · rw [List.drop_eq_nil_of_le (by omega)] at hO
            simp only [usesV, Bool.true_and] at hO
            (repeat ((first | refine N0 ?_ | refine A0 fun γ => ?_ | with_reducible refine C1 ?_ | with_reducible refine C2 ?_ | with_reducible refine C3 ?_ | refine C8 ?_ | refine C9 ?_ | refine C6 ?_ | refine C7 ?_ | refine D0 fun γs => ?_ | refine A1 fun γs => ?_ | refine N2 ?_ | refine N3 ?_ | refine N1 ?_ | simp (disch := omega) only [LG]); ((conv => whnf); repeat ((first | refine Sw.o ?_ | refine B0 ?_); conv => whnf))))
            refine LoopP.intro (fun k σ H => ∃ p i, i ≤ g.joined.length ∧ k = g.joined.length - i ∧ listsV g.uses.length (g.joined.drop i) = V ∧
              σ = fr [(1, .op 1 p 0 0), (5, encI i)] ∧ H = hp [(1, p, ⟨26, 3, [encG g]⟩)]) ?_ ?_
            · exact .intro <| W.of ⟨_, _, 0, Nat.zero_le _, rfl, hO, rfl, rfl⟩ ⟨rfl, rfl, trivial⟩ ⟨rfl, trivial⟩
            · rintro k σ H ⟨p, i, hi, rfl, hO, rfl, rfl⟩
              ((conv => whnf); repeat ((first | refine Sw.o ?_ | refine B0 ?_); conv => whnf))
              (repeat ((first | refine N0 ?_ | refine A0 fun γ => ?_ | with_reducible refine C1 ?_ | with_reducible refine C2 ?_ | with_reducible refine C3 ?_ | refine C8 ?_ | refine C9 ?_ | refine C6 ?_ | refine C7 ?_ | refine A1 fun γs => ?_ | refine N2 ?_ | refine N3 ?_ | refine N1 ?_); ((conv => whnf); repeat ((first | refine Sw.o ?_ | refine B0 ?_); conv => whnf))))
              refine CondP.dec (fun h => ?_) (fun h => ?_) <;> ((conv => whnf); repeat ((first | refine Sw.o ?_ | refine B0 ?_); conv => whnf))
              · have hi' : i < g.joined.length := by omega
                have zl := hz.l _ (List.getElem_mem hi')
                rw [List.drop_eq_getElem_cons hi'] at hO
                unfold listsV at hO
                (repeat ((first | refine N0 ?_ | refine A0 fun γ => ?_ | with_reducible refine C1 ?_ | with_reducible refine C2 ?_ | with_reducible refine C3 ?_ | refine C8 ?_ | refine C9 ?_ | refine C6 ?_ | refine C7 ?_ | refine D0 fun γs => ?_ | refine A1 fun γs => ?_ | refine N2 ?_ | refine N3 ?_ | refine N1 ?_ | simp (disch := omega) only [LG]); ((conv => whnf); repeat ((first | refine Sw.o ?_ | refine B0 ?_); conv => whnf))))
                generalize g.joined[i] = l at zl hO ⊢
                have hll : (l.map encI).length = l.length := List.length_map ..
                refine LoopP.intro (fun k σ H => ∃ p m, m ≤ l.length ∧ k = l.length - m ∧ (listV g.uses.length (prevE l m) (l.drop m) && listsV g.uses.length (g.joined.drop (i + 1))) = V ∧
                  σ = fr [(1, .op 1 p 0 0), (5, encI i), (6, encL l), (7, encI m)] ∧ H = hp [(1, p, ⟨26, 3, [encG g]⟩)]) ?_ ?_
                · exact .intro <| W.of ⟨_, _, 0, Nat.zero_le _, rfl, hO, rfl, rfl⟩ ⟨rfl, rfl, rfl, rfl, trivial⟩ ⟨rfl, trivial⟩
                · rintro k σ H ⟨p, m, hm, rfl, hO, rfl, rfl⟩
                  ((conv => whnf); repeat ((first | refine Sw.o ?_ | refine B0 ?_); conv => whnf))
                  (repeat ((first | refine N0 ?_ | refine A0 fun γ => ?_ | with_reducible refine C1 ?_ | with_reducible refine C2 ?_ | with_reducible refine C3 ?_ | refine C8 ?_ | refine C9 ?_ | refine C6 ?_ | refine C7 ?_ | refine A1 fun γs => ?_ | refine N2 ?_ | refine N3 ?_ | refine N1 ?_); ((conv => whnf); repeat ((first | refine Sw.o ?_ | refine B0 ?_); conv => whnf))))
                  refine CondP.dec (fun h => ?_) (fun h => ?_) <;> ((conv => whnf); repeat ((first | refine Sw.o ?_ | refine B0 ?_); conv => whnf))
                  · have hm' : m < l.length := by omega
                    rw [List.drop_eq_getElem_cons hm'] at hO
                    unfold listV at hO
                    have hprev : prevE l (m + 1) = some l[m] := List.getElem?_eq_getElem hm'
                    (repeat ((first | refine N0 ?_ | refine A0 fun γ => ?_ | with_reducible refine C1 ?_ | with_reducible refine C2 ?_ | with_reducible refine C3 ?_ | refine C8 ?_ | refine C9 ?_ | refine C6 ?_ | refine C7 ?_ | refine D0 fun γs => ?_ | refine A1 fun γs => ?_ | refine N2 ?_ | refine N3 ?_ | refine N1 ?_ | simp (disch := omega) only [LG]); ((conv => whnf); repeat ((first | refine Sw.o ?_ | refine B0 ?_); conv => whnf))))
                    refine CondP.dec (fun h1 => ?_) (fun h1 => ?_) <;> ((conv => whnf); repeat ((first | refine Sw.o ?_ | refine B0 ?_); conv => whnf))
                    · rw [decide_eq_false (by omega), Bool.false_and, Bool.false_and, Bool.false_and] at hO
                      (repeat ((first | refine N0 ?_ | refine A0 fun γ => ?_ | with_reducible refine C1 ?_ | with_reducible refine C2 ?_ | with_reducible refine C3 ?_ | refine C8 ?_ | refine C9 ?_ | refine C6 ?_ | refine C7 ?_ | refine D0 fun γs => ?_ | refine A1 fun γs => ?_ | refine N2 ?_ | refine N3 ?_ | refine N1 ?_ | simp (disch := omega) only [LG]); ((conv => whnf); repeat ((first | refine Sw.o ?_ | refine B0 ?_); conv => whnf))))
                      exact .of (by rw [← hO]; rfl)
                    · (repeat ((first | refine N0 ?_ | refine A0 fun γ => ?_ | with_reducible refine C1 ?_ | with_reducible refine C2 ?_ | with_reducible refine C3 ?_ | refine C8 ?_ | refine C9 ?_ | refine C6 ?_ | refine C7 ?_ | refine D0 fun γs => ?_ | refine A1 fun γs => ?_ | refine N2 ?_ | refine N3 ?_ | refine N1 ?_ | simp (disch := omega) only [LG]); ((conv => whnf); repeat ((first | refine Sw.o ?_ | refine B0 ?_); conv => whnf))))
                      refine CondP.dec (fun h2 => ?_) (fun h2 => ?_) <;> ((conv => whnf); repeat ((first | refine Sw.o ?_ | refine B0 ?_); conv => whnf))
                      · rw [decide_eq_false (by omega), Bool.false_and, Bool.false_and, Bool.false_and] at hO
                        (repeat ((first | refine N0 ?_ | refine A0 fun γ => ?_ | with_reducible refine C1 ?_ | with_reducible refine C2 ?_ | with_reducible refine C3 ?_ | refine C8 ?_ | refine C9 ?_ | refine C6 ?_ | refine C7 ?_ | refine D0 fun γs => ?_ | refine A1 fun γs => ?_ | refine N2 ?_ | refine N3 ?_ | refine N1 ?_ | simp (disch := omega) only [LG]); ((conv => whnf); repeat ((first | refine Sw.o ?_ | refine B0 ?_); conv => whnf))))
                        exact .of (by rw [← hO]; rfl)
                      · rw [decide_eq_true (by omega), Bool.true_and] at hO
                        (repeat ((first | refine N0 ?_ | refine A0 fun γ => ?_ | with_reducible refine C1 ?_ | with_reducible refine C2 ?_ | with_reducible refine C3 ?_ | refine C8 ?_ | refine C9 ?_ | refine C6 ?_ | refine C7 ?_ | refine D0 fun γs => ?_ | refine A1 fun γs => ?_ | refine N2 ?_ | refine N3 ?_ | refine N1 ?_ | simp (disch := omega) only [LG]); ((conv => whnf); repeat ((first | refine Sw.o ?_ | refine B0 ?_); conv => whnf))))
                        refine CondP.dec (fun h3 => ?_) (fun h3 => ?_) <;> ((conv => whnf); repeat ((first | refine Sw.o ?_ | refine B0 ?_); conv => whnf))
                        · obtain ⟨j, rfl⟩ : ∃ j, m = j + 1 := ⟨m - 1, by omega⟩
                          have hj : j < l.length := by omega
                          have hp1 : prevE l (j + 1) = some l[j] := List.getElem?_eq_getElem hj
                          rw [hp1] at hO
                          simp only [ltI] at hO
                          (repeat ((first | refine N0 ?_ | refine A0 fun γ => ?_ | with_reducible refine C1 ?_ | with_reducible refine C2 ?_ | with_reducible refine C3 ?_ | refine C8 ?_ | refine C9 ?_ | refine C6 ?_ | refine C7 ?_ | refine D0 fun γs => ?_ | refine A1 fun γs => ?_ | refine N2 ?_ | refine N3 ?_ | refine N1 ?_ | simp (disch := omega) only [LG]); ((conv => whnf); repeat ((first | refine Sw.o ?_ | refine B0 ?_); conv => whnf))))
                          simp only [show ((↑(j + 1) : Int) - 1).toNat = j by omega]
                          (repeat ((first | refine N0 ?_ | refine A0 fun γ => ?_ | with_reducible refine C1 ?_ | with_reducible refine C2 ?_ | with_reducible refine C3 ?_ | refine C8 ?_ | refine C9 ?_ | refine C6 ?_ | refine C7 ?_ | refine D0 fun γs => ?_ | refine A1 fun γs => ?_ | refine N2 ?_ | refine N3 ?_ | refine N1 ?_ | simp (disch := omega) only [LG]); ((conv => whnf); repeat ((first | refine Sw.o ?_ | refine B0 ?_); conv => whnf))))
                          refine CondP.dec (fun h4 => ?_) (fun h4 => ?_) <;> ((conv => whnf); repeat ((first | refine Sw.o ?_ | refine B0 ?_); conv => whnf))
                          · rw [decide_eq_false (by omega), Bool.false_and, Bool.false_and] at hO
                            (repeat ((first | refine N0 ?_ | refine A0 fun γ => ?_ | with_reducible refine C1 ?_ | with_reducible refine C2 ?_ | with_reducible refine C3 ?_ | refine C8 ?_ | refine C9 ?_ | refine C6 ?_ | refine C7 ?_ | refine D0 fun γs => ?_ | refine A1 fun γs => ?_ | refine N2 ?_ | refine N3 ?_ | refine N1 ?_ | simp (disch := omega) only [LG]); ((conv => whnf); repeat ((first | refine Sw.o ?_ | refine B0 ?_); conv => whnf))))
                            exact .of (by rw [← hO]; rfl)
                          · rw [decide_eq_true (by omega), Bool.true_and] at hO
                            (repeat ((first | refine N0 ?_ | refine A0 fun γ => ?_ | with_reducible refine C1 ?_ | with_reducible refine C2 ?_ | with_reducible refine C3 ?_ | refine C8 ?_ | refine C9 ?_ | refine C6 ?_ | refine C7 ?_ | refine D0 fun γs => ?_ | refine A1 fun γs => ?_ | refine N2 ?_ | refine N3 ?_ | refine N1 ?_ | simp (disch := omega) only [LG]); ((conv => whnf); repeat ((first | refine Sw.o ?_ | refine B0 ?_); conv => whnf))))
                            exact .intro <| W.of ⟨_, by omega, _, j + 1 + 1, hm', rfl, by rw [hprev]; exact hO, rfl, rfl⟩ ⟨rfl, rfl, rfl, rfl, trivial⟩ ⟨rfl, trivial⟩
                        · have : m = 0 := by omega
                          subst this
                          rw [show prevE l 0 = none from rfl] at hO
                          simp only [ltI, Bool.true_and] at hO
                          (repeat ((first | refine N0 ?_ | refine A0 fun γ => ?_ | with_reducible refine C1 ?_ | with_reducible refine C2 ?_ | with_reducible refine C3 ?_ | refine C8 ?_ | refine C9 ?_ | refine C6 ?_ | refine C7 ?_ | refine D0 fun γs => ?_ | refine A1 fun γs => ?_ | refine N2 ?_ | refine N3 ?_ | refine N1 ?_ | simp (disch := omega) only [LG]); ((conv => whnf); repeat ((first | refine Sw.o ?_ | refine B0 ?_); conv => whnf))))
                          exact .intro <| W.of ⟨_, by omega, _, 1, hm', rfl, by rw [hprev]; exact hO, rfl, rfl⟩ ⟨rfl, rfl, rfl, rfl, trivial⟩ ⟨rfl, trivial⟩
                  · rw [List.drop_eq_nil_of_le (by omega)] at hO
                    simp only [listV, Bool.true_and] at hO
                    (repeat ((first | refine N0 ?_ | refine A0 fun γ => ?_ | with_reducible refine C1 ?_ | with_reducible refine C2 ?_ | with_reducible refine C3 ?_ | refine C8 ?_ | refine C9 ?_ | refine C6 ?_ | refine C7 ?_ | refine D0 fun γs => ?_ | refine A1 fun γs => ?_ | refine N2 ?_ | refine N3 ?_ | refine N1 ?_ | simp (disch := omega) only [LG]); ((conv => whnf); repeat ((first | refine Sw.o ?_ | refine B0 ?_); conv => whnf))))
                    exact .intro <| W.of ⟨_, by omega, _, i + 1, hi', rfl, hO, rfl, rfl⟩ ⟨rfl, rfl, trivial⟩ ⟨rfl, trivial⟩
              · rw [List.drop_eq_nil_of_le (by omega)] at hO
                simp only [listsV] at hO
                subst hO
                (repeat ((first | refine N0 ?_ | refine A0 fun γ => ?_ | with_reducible refine C1 ?_ | with_reducible refine C2 ?_ | with_reducible refine C3 ?_ | refine C8 ?_ | refine C9 ?_ | refine C6 ?_ | refine C7 ?_ | refine D0 fun γs => ?_ | refine A1 fun γs => ?_ | refine N2 ?_ | refine N3 ?_ | refine N1 ?_ | simp (disch := omega) only [LG]); ((conv => whnf); repeat ((first | refine Sw.o ?_ | refine B0 ?_); conv => whnf))))
                exact .of rfl
  · rw [decide_eq_false (by omega), Bool.false_and, Bool.false_and] at hV
    subst hV
    (repeat ((first | refine N0 ?_ | refine A0 fun γ => ?_ | with_reducible refine C1 ?_ | with_reducible refine C2 ?_ | with_reducible refine C3 ?_ | refine C8 ?_ | refine C9 ?_ | refine C6 ?_ | refine C7 ?_ | refine A1 fun γs => ?_ | refine N2 ?_ | refine N3 ?_ | refine N1 ?_); ((conv => whnf); repeat ((first | refine Sw.o ?_ | refine B0 ?_); conv => whnf))))
    exact .of rfl
set_option maxRecDepth 100000 in
theorem check37_ok (g : G) (hz : Sz g) : PureCall Try.prog 37 [encG g] (encI (checkF g)) := by
  refine pure_cp (E := E 0) T_ok (D_ok 0) [] Try.func37 rfl (by rfl) (Nat.le_of_ble_eq_true rfl) ?_
  have ze := hz.e
  have zu := hz.u
  have hlu : (g.uses.map encU).length = g.uses.length := List.length_map ..
  have hle : (g.eqs.map encS).length = g.eqs.length := List.length_map ..
  generalize hR : checkF g = R
  unfold checkF at hR
  ((conv => whnf); repeat ((first | refine Sw.o ?_ | refine B0 ?_); conv => whnf))
  (repeat ((first | refine N0 ?_ | refine A0 fun γ => ?_ | with_reducible refine C1 ?_ | with_reducible refine C2 ?_ | with_reducible refine C3 ?_ | refine C8 ?_ | refine C9 ?_ | refine C6 ?_ | refine C7 ?_ | refine A1 fun γs => ?_ | refine N2 ?_ | refine N3 ?_ | refine N1 ?_); ((conv => whnf); repeat ((first | refine Sw.o ?_ | refine B0 ?_); conv => whnf))))
  refine CallP.flat [] (encB (validG g)) c65 (valid65_ok g hz) rfl ?_
  generalize validG g = V at hR ⊢
  ((conv => whnf); repeat ((first | refine Sw.o ?_ | refine B0 ?_); conv => whnf))
  (repeat ((first | refine N0 ?_ | refine A0 fun γ => ?_ | with_reducible refine C1 ?_ | with_reducible refine C2 ?_ | with_reducible refine C3 ?_ | refine C8 ?_ | refine C9 ?_ | refine C6 ?_ | refine C7 ?_ | refine A1 fun γs => ?_ | refine N2 ?_ | refine N3 ?_ | refine N1 ?_); ((conv => whnf); repeat ((first | refine Sw.o ?_ | refine B0 ?_); conv => whnf))))
  refine CondP.intro (fun h1 => ?_) (fun h1 => ?_) <;> ((conv => whnf); repeat ((first | refine Sw.o ?_ | refine B0 ?_); conv => whnf))
  · subst h1
    simp only at hR
    (repeat ((first | refine N0 ?_ | refine A0 fun γ => ?_ | with_reducible refine C1 ?_ | with_reducible refine C2 ?_ | with_reducible refine C3 ?_ | refine C8 ?_ | refine C9 ?_ | refine C6 ?_ | refine C7 ?_ | refine A1 fun γs => ?_ | refine N2 ?_ | refine N3 ?_ | refine N1 ?_); ((conv => whnf); repeat ((first | refine Sw.o ?_ | refine B0 ?_); conv => whnf))))
    refine CondP.dec (fun h2 => ?_) (fun h2 => ?_) <;> ((conv => whnf); repeat ((first | refine Sw.o ?_ | refine B0 ?_); conv => whnf))
    · rw [decide_eq_true (by omega)] at hR
      (repeat ((first | refine N0 ?_ | refine A0 fun γ => ?_ | with_reducible refine C1 ?_ | with_reducible refine C2 ?_ | with_reducible refine C3 ?_ | refine C8 ?_ | refine C9 ?_ | refine C6 ?_ | refine C7 ?_ | refine A1 fun γs => ?_ | refine N2 ?_ | refine N3 ?_ | refine N1 ?_); ((conv => whnf); repeat ((first | refine Sw.o ?_ | refine B0 ?_); conv => whnf))))
      exact .of (by rw [← hR]; rfl)
    · (repeat ((first | refine N0 ?_ | refine A0 fun γ => ?_ | with_reducible refine C1 ?_ | with_reducible refine C2 ?_ | with_reducible refine C3 ?_ | refine C8 ?_ | refine C9 ?_ | refine C6 ?_ | refine C7 ?_ | refine A1 fun γs => ?_ | refine N2 ?_ | refine N3 ?_ | refine N1 ?_); ((conv => whnf); repeat ((first | refine Sw.o ?_ | refine B0 ?_); conv => whnf))))
      refine CondP.dec (fun h3 => ?_) (fun h3 => ?_) <;> ((conv => whnf); repeat ((first | refine Sw.o ?_ | refine B0 ?_); conv => whnf))
      · rw [decide_eq_true (by omega)] at hR
        (repeat ((first | refine N0 ?_ | refine A0 fun γ => ?_ | with_reducible refine C1 ?_ | with_reducible refine C2 ?_ | with_reducible refine C3 ?_ | refine C8 ?_ | refine C9 ?_ | refine C6 ?_ | refine C7 ?_ | refine A1 fun γs => ?_ | refine N2 ?_ | refine N3 ?_ | refine N1 ?_); ((conv => whnf); repeat ((first | refine Sw.o ?_ | refine B0 ?_); conv => whnf))))
        exact .of (by rw [← hR]; rfl)
      · rw [decide_eq_false (by omega)] at hR
        (repeat ((first | refine N0 ?_ | refine A0 fun γ => ?_ | with_reducible refine C1 ?_ | with_reducible refine C2 ?_ | with_reducible refine C3 ?_ | refine C8 ?_ | refine C9 ?_ | refine C6 ?_ | refine C7 ?_ | refine A1 fun γs => ?_ | refine N2 ?_ | refine N3 ?_ | refine N1 ?_); ((conv => whnf); repeat ((first | refine Sw.o ?_ | refine B0 ?_); conv => whnf))))
        exact .of (by rw [← hR]; rfl)
  · subst h1
    (repeat ((first | refine N0 ?_ | refine A0 fun γ => ?_ | with_reducible refine C1 ?_ | with_reducible refine C2 ?_ | with_reducible refine C3 ?_ | refine C8 ?_ | refine C9 ?_ | refine C6 ?_ | refine C7 ?_ | refine A1 fun γs => ?_ | refine N2 ?_ | refine N3 ?_ | refine N1 ?_); ((conv => whnf); repeat ((first | refine Sw.o ?_ | refine B0 ?_); conv => whnf))))
    exact .of (by rw [← hR]; rfl)
end Go.Proofs.Ytgeeklnokblokaa
namespace Go.Proofs.Ytgeeklnokblokaa
open Go Go.Fw
def findL (no : List Bool) (rec : Int → MS → Bool × MS) (e : Int) : List Int → MS → Bool × MS
  | [], s => (false, s)
  | u :: r, s => match no.getD u.toNat false || s.2.getD u.toNat false with
    | true => findL no rec e r s
    | false => match decide (s.1.getD u.toNat 0 < 0) with
      | true => (true, s.1.set u.toNat e, s.2.set u.toNat true)
      | false => match rec (s.1.getD u.toNat 0) (s.1, s.2.set u.toNat true) with
        | (true, s') => (true, s'.1.set u.toNat e, s'.2)
        | (false, s') => findL no rec e r s'
def findF (g : G) (no : List Bool) : Nat → Int → MS → Bool × MS
  | 0, _, s => (false, s)
  | n + 1, e, s => findL no (findF g no n) e (g.joined.getD e.toNat []) s
theorem findL_ok {g : G} {no : List Bool} {rec : Int → MS → Bool × MS} (hrec : ∀ (e : Int) (s : MS), 0 ≤ e → e < g.eqs.length → MOk g s → MOk g (rec e s).2 ∧ unseen (rec e s).2.2 ≤ unseen s.2) {e : Int} (he : e < g.eqs.length) :
    ∀ (l : List Int) (s : MS), (∀ u ∈ l, 0 ≤ u ∧ u < g.uses.length) → MOk g s → MOk g (findL no rec e l s).2 ∧ unseen (findL no rec e l s).2.2 ≤ unseen s.2
  | [], s, _, h => ⟨h, Nat.le_refl _⟩
  | u :: r, s, hu, h => by
    have hr : ∀ u ∈ r, 0 ≤ u ∧ u < g.uses.length := fun x hx => hu x (by simp [hx])
    have h0 := hu u (by simp)
    have hlt : u.toNat < s.2.length := by rw [h.ls]; omega
    unfold findL
    split
    · exact findL_ok hrec he r s hr h
    · rename_i hs
      have hun := unseen_set hlt (Bool.or_eq_false_iff.1 hs).2
      split
      · exact ⟨(h.see u.toNat).set u.toNat he, by simp only; omega⟩
      · rename_i hm
        have hm' := of_decide_eq_false hm
        have hlm : u.toNat < s.1.length := by rw [h.lm]; omega
        have hin : s.1.getD u.toNat 0 ∈ s.1 := by simp [hlm]
        have hq := hrec (s.1.getD u.toNat 0) (s.1, s.2.set u.toNat true) (by omega) (h.lt _ hin) (h.see u.toNat)
        split
        · rename_i s' hs'
          rw [hs'] at hq
          exact ⟨hq.1.set u.toNat he, by simp only at hq ⊢; omega⟩
        · rename_i s' hs'
          rw [hs'] at hq
          have := findL_ok (no := no) hrec he r s' hr hq.1
          exact ⟨this.1, by simp only at hq; omega⟩
theorem findF_ok {g : G} (hg : WF g) (no : List Bool) : ∀ (n : Nat) (e : Int) (s : MS), 0 ≤ e → e < g.eqs.length → MOk g s → MOk g (findF g no n e s).2 ∧ unseen (findF g no n e s).2.2 ≤ unseen s.2
  | 0, e, s, _, _, h => ⟨h, Nat.le_refl _⟩
  | n + 1, e, s, h0, he, h => by
    unfold findF
    refine findL_ok (fun e s h0 he h => findF_ok hg no n e s h0 he h) he _ s (fun u hu => ?_) h
    have : e.toNat < g.joined.length := by rw [hg.len]; omega
    rw [List.getD_eq_getElem?_getD, List.getElem?_eq_getElem this] at hu
    exact hg.in_ _ (List.getElem_mem this) u hu
def hpF (q0 q1 q2 : Nat) (g : G) (ne no : List Bool) (s : MS) : List (Nat × Nat × Blk) :=
  [(200, q0, ⟨87, 7, [.agg [.sl 1 (g.eqs.map encS), .sl 3 (g.uses.map encU), .sl 1 (g.joined.map encL), encBs ne, encBs no, .own 101 q1 0 g.uses.length, .own 102 q2 0 g.uses.length]]⟩),
   (101, q1, ⟨3, 1, s.1.map encI⟩), (102, q2, ⟨4, 1, s.2.map encB⟩)]
set_option maxHeartbeats 4000000 in
set_option maxRecDepth 100000 in
theorem find_ok (g : G) (hg : WF g) (ne no : List Bool) (hno : no.length = g.uses.length) : ∀ (n : Nat) (e : Int) (s : MS) (q0 q1 q2 : Nat), 0 ≤ e → e < g.eqs.length → MOk g s → unseen s.2 < n →
    HCall Try.prog 66 [.op 200 q0 0 0, encI e] (hp (hpF q0 q1 q2 g ne no s))
      (fun r h => r = encB (findF g no n e s).1 ∧ h = hp (hpF q0 q1 q2 g ne no (findF g no n e s).2)) := by
  intro n
  induction n with
  | zero => intro e s q0 q1 q2 _ _ _ h; exact absurd h (by omega)
  | succ n ih =>
    intro e s q0 q1 q2 h0 he hs hn
    have su := hg.su
    have hjl : e.toNat < g.joined.length := by rw [hg.len]; omega
    have sl := hg.sl _ (List.getElem_mem hjl)
    have hF : findF g no (n + 1) e s = findL no (findF g no n) e (g.joined[e.toNat]) s := by unfold findF; rw [getD_lt _ _ _ hjl]
    rw [hF]
    have hinj := hg.in_ _ (List.getElem_mem hjl)
    generalize hR : findL no (findF g no n) e (g.joined[e.toNat]) s = R
    have hlj : (g.joined.map encL).length = g.joined.length := List.length_map ..
    refine hcall_cp (E := E 0) T_ok (D_ok 0) Try.func66 rfl (by rfl) (Nat.le_of_ble_eq_true rfl) ?_
    ((conv => whnf); repeat ((first | refine Sw.o ?_ | refine B0 ?_); conv => whnf))
    (repeat ((first | refine N0 ?_ | refine A0 fun γ => ?_ | with_reducible refine C1 ?_ | with_reducible refine C2 ?_ | with_reducible refine C3 ?_ | refine C8 ?_ | refine C9 ?_ | refine C6 ?_ | refine C7 ?_ | refine A1 fun γs => ?_ | refine N2 ?_ | refine N3 ?_ | refine N1 ?_); ((conv => whnf); repeat ((first | refine Sw.o ?_ | refine B0 ?_); conv => whnf))))
    refine LoopP.intro (fun k σ H => ∃ i, ∃ t : MS, i ≤ (g.joined[e.toNat]).length ∧ k = (g.joined[e.toNat]).length - i ∧ MOk g t ∧ unseen t.2 ≤ unseen s.2 ∧ findL no (findF g no n) e ((g.joined[e.toNat]).drop i) t = R ∧
      σ = fr [(0, .op 200 q0 0 0), (1, encI e), (4, encB false), (5, encI i)] ∧ H = hp (hpF q0 q1 q2 g ne no t)) ?_ ?_
    · refine .intro <| W.of (m := hpF q0 q1 q2 g ne no s) ⟨_, 0, s, Nat.zero_le _, rfl, hs, Nat.le_refl _, hR, rfl, rfl⟩ ⟨rfl, rfl, rfl, rfl, trivial⟩ ⟨rfl, rfl, rfl, trivial⟩
    · rintro k σ H ⟨i, t, hi, rfl, ht, hun, hR', rfl, rfl⟩
      have lm := ht.lm
      have ls := ht.ls
      have hlb : (t.2.map encB).length = g.uses.length := by simpa using ls
      have hlm : (t.1.map encI).length = g.uses.length := by simpa using lm
      have hln : (no.map encB).length = g.uses.length := by simpa using hno
      ((conv => whnf); repeat ((first | refine Sw.o ?_ | refine B0 ?_); conv => whnf))
      (repeat ((first | refine N0 ?_ | refine A0 fun γ => ?_ | with_reducible refine C1 ?_ | with_reducible refine C2 ?_ | with_reducible refine C3 ?_ | refine C8 ?_ | refine C9 ?_ | refine C6 ?_ | refine C7 ?_ | refine D0 fun γs => ?_ | refine A1 fun γs => ?_ | refine N2 ?_ | refine N3 ?_ | refine N1 ?_ | simp (disch := omega) only [LG]); ((conv => whnf); repeat ((first | refine Sw.o ?_ | refine B0 ?_); conv => whnf))))
      refine CondP.dec (fun h => ?_) (fun h => ?_) <;> ((conv => whnf); repeat ((first | refine Sw.o ?_ | refine B0 ?_); conv => whnf))
      · have hi' : i < (g.joined[e.toNat]).length := by omega
        have hu := hinj _ (List.getElem_mem hi')
        rw [List.drop_eq_getElem_cons hi'] at hR'
        (repeat ((first | refine N0 ?_ | refine A0 fun γ => ?_ | with_reducible refine C1 ?_ | with_reducible refine C2 ?_ | with_reducible refine C3 ?_ | refine C8 ?_ | refine C9 ?_ | refine C6 ?_ | refine C7 ?_ | refine D0 fun γs => ?_ | refine A1 fun γs => ?_ | refine N2 ?_ | refine N3 ?_ | refine N1 ?_ | simp (disch := omega) only [LG]); ((conv => whnf); repeat ((first | refine Sw.o ?_ | refine B0 ?_); conv => whnf))))
        have hlj2 : (g.joined[e.toNat].map encI).length = (g.joined[e.toNat]).length := List.length_map ..
        have hut : (g.joined[e.toNat][i]).toNat < t.2.length := by omega
        have hum : (g.joined[e.toNat][i]).toNat < t.1.length := by omega
        have hun' : (g.joined[e.toNat][i]).toNat < no.length := by omega
        unfold findL at hR'
        rw [getD_lt _ _ _ hut, getD_lt _ _ _ hum, getD_lt _ _ _ hun'] at hR'
        refine CondP.intro (fun h1 => ?_) (fun h1 => ?_) <;> ((conv => whnf); repeat ((first | refine Sw.o ?_ | refine B0 ?_); conv => whnf))
        · rw [h1, Bool.true_or] at hR'
          (repeat ((first | refine N0 ?_ | refine A0 fun γ => ?_ | with_reducible refine C1 ?_ | with_reducible refine C2 ?_ | with_reducible refine C3 ?_ | refine C8 ?_ | refine C9 ?_ | refine C6 ?_ | refine C7 ?_ | refine D0 fun γs => ?_ | refine A1 fun γs => ?_ | refine N2 ?_ | refine N3 ?_ | refine N1 ?_ | simp (disch := omega) only [LG]); ((conv => whnf); repeat ((first | refine Sw.o ?_ | refine B0 ?_); conv => whnf))))
          exact .intro <| W.of (m := hpF q0 q1 q2 g ne no t) ⟨_, by omega, i + 1, t, hi', rfl, ht, by omega, hR', rfl, rfl⟩ ⟨rfl, rfl, rfl, rfl, trivial⟩ ⟨rfl, rfl, rfl, trivial⟩
        · rw [h1, Bool.false_or] at hR'
          (repeat ((first | refine N0 ?_ | refine A0 fun γ => ?_ | with_reducible refine C1 ?_ | with_reducible refine C2 ?_ | with_reducible refine C3 ?_ | refine C8 ?_ | refine C9 ?_ | refine C6 ?_ | refine C7 ?_ | refine D0 fun γs => ?_ | refine A1 fun γs => ?_ | refine N2 ?_ | refine N3 ?_ | refine N1 ?_ | simp (disch := omega) only [LG]); ((conv => whnf); repeat ((first | refine Sw.o ?_ | refine B0 ?_); conv => whnf))))
          refine CondP.intro (fun h2 => ?_) (fun h2 => ?_) <;> ((conv => whnf); repeat ((first | refine Sw.o ?_ | refine B0 ?_); conv => whnf))
          · rw [h2] at hR'
            (repeat ((first | refine N0 ?_ | refine A0 fun γ => ?_ | with_reducible refine C1 ?_ | with_reducible refine C2 ?_ | with_reducible refine C3 ?_ | refine C8 ?_ | refine C9 ?_ | refine C6 ?_ | refine C7 ?_ | refine D0 fun γs => ?_ | refine A1 fun γs => ?_ | refine N2 ?_ | refine N3 ?_ | refine N1 ?_ | simp (disch := omega) only [LG]); ((conv => whnf); repeat ((first | refine Sw.o ?_ | refine B0 ?_); conv => whnf))))
            exact .intro <| W.of (m := hpF q0 q1 q2 g ne no t) ⟨_, by omega, i + 1, t, hi', rfl, ht, by omega, hR', rfl, rfl⟩ ⟨rfl, rfl, rfl, rfl, trivial⟩ ⟨rfl, rfl, rfl, trivial⟩
          · rw [h2] at hR'
            simp only at hR'
            have hsee := ht.see (g.joined[e.toNat][i]).toNat
            have huns := unseen_set hut (by rw [getD_lt _ _ _ hut]; exact h2)
            (repeat ((first | refine N0 ?_ | refine A0 fun γ => ?_ | with_reducible refine C1 ?_ | with_reducible refine C2 ?_ | with_reducible refine C3 ?_ | refine C8 ?_ | refine C9 ?_ | refine C6 ?_ | refine C7 ?_ | refine D0 fun γs => ?_ | refine A1 fun γs => ?_ | refine N2 ?_ | refine N3 ?_ | refine N1 ?_ | simp (disch := omega) only [LG]); ((conv => whnf); repeat ((first | refine Sw.o ?_ | refine B0 ?_); conv => whnf))))
            refine CondP.dec (fun h3 => ?_) (fun h3 => ?_) <;> ((conv => whnf); repeat ((first | refine Sw.o ?_ | refine B0 ?_); conv => whnf))
            · rw [decide_eq_true h3] at hR'
              subst hR'
              (repeat ((first | refine N0 ?_ | refine A0 fun γ => ?_ | with_reducible refine C1 ?_ | with_reducible refine C2 ?_ | with_reducible refine C3 ?_ | refine C8 ?_ | refine C9 ?_ | refine C6 ?_ | refine C7 ?_ | refine D0 fun γs => ?_ | refine A1 fun γs => ?_ | refine N2 ?_ | refine N3 ?_ | refine N1 ?_ | simp (disch := omega) only [LG]); ((conv => whnf); repeat ((first | refine Sw.o ?_ | refine B0 ?_); conv => whnf))))
              refine EndH.of (m := hpF q0 q1 q2 g ne no (t.1.set (g.joined[e.toNat][i]).toNat e, t.2.set (g.joined[e.toNat][i]).toNat true)) ⟨rfl, ?_, ?_, trivial⟩ ⟨rfl, rfl⟩
              · rw [← set_map (x := e) (h := rfl)]; rfl
              · rw [← set_map (x := true) (h := rfl)]; rfl
            · rw [decide_eq_false h3] at hR'
              have hq := findF_ok hg no n t.1[(g.joined[e.toNat][i]).toNat] (t.1, t.2.set (g.joined[e.toNat][i]).toNat true) (by omega) (ht.lt _ (List.getElem_mem _)) hsee
              (repeat ((first | refine N0 ?_ | refine A0 fun γ => ?_ | with_reducible refine C1 ?_ | with_reducible refine C2 ?_ | with_reducible refine C3 ?_ | refine C8 ?_ | refine C9 ?_ | refine C6 ?_ | refine C7 ?_ | refine D0 fun γs => ?_ | refine A1 fun γs => ?_ | refine N2 ?_ | refine N3 ?_ | refine N1 ?_ | simp (disch := omega) only [LG]); ((conv => whnf); repeat ((first | refine Sw.o ?_ | refine B0 ?_); conv => whnf))))
              refine CallP.frame 1000000 [(200, 200), (101, 101), (102, 102)] rfl c66 (ih t.1[(g.joined[e.toNat][i]).toNat] (t.1, t.2.set (g.joined[e.toNat][i]).toNat true) q0 q1 q2 (by omega) (ht.lt _ (List.getElem_mem _)) hsee (by simp only; omega)) rfl ⟨rfl, mvB_flats encI _ (fun _ => rfl) .., ?_, trivial⟩ ?_
              · show some (mvB _ (q2, ⟨4, 1, (t.2.map encB).set (g.joined[e.toNat][i]).toNat (encB true)⟩)) = _
                rw [set_map (x := true) (h := rfl)]
                exact mvB_flats encB _ (fun _ => rfl) ..
              · rintro r0 h' ⟨rfl, rfl⟩
                simp only at hR'
                generalize findF g no n t.1[(g.joined[e.toNat][i]).toNat] (t.1, t.2.set (g.joined[e.toNat][i]).toNat true) = q at hR' hq ⊢
                refine ⟨hpF q0 q1 q2 g ne no q.2, ⟨rfl, mvB_flats encI _ (fun _ => rfl) .., mvB_flats encB _ (fun _ => rfl) .., trivial⟩, ?_⟩
                obtain ⟨b, q⟩ := q
                have lm' := hq.1.lm
                have ls' := hq.1.ls
                simp only at hq lm' ls' hun
                have hlm2 : (q.1.map encI).length = g.uses.length := by simpa using lm'
                cases b
                · simp only at hR'
                  ((conv => whnf); repeat ((first | refine Sw.o ?_ | refine B0 ?_); conv => whnf))
                  (repeat ((first | refine N0 ?_ | refine A0 fun γ => ?_ | refine C1 ?_ | refine C2 ?_ | refine C3 ?_ | refine C4 ?_ | refine C5 ?_ | refine C6 ?_ | refine C7 ?_ | refine D0 fun γs => ?_ | refine A1 fun γs => ?_ | refine N2 ?_ | refine N3 ?_ | refine N1 ?_); ((conv => whnf); repeat ((first | refine Sw.o ?_ | refine B0 ?_); conv => whnf))))
                  exact .intro <| W.of (m := hpF q0 q1 q2 g ne no q) ⟨_, by omega, i + 1, q, hi', rfl, hq.1, by omega, hR', rfl, rfl⟩ ⟨rfl, rfl, rfl, rfl, trivial⟩ ⟨rfl, rfl, rfl, trivial⟩
                · simp only at hR'
                  subst hR'
                  ((conv => whnf); repeat ((first | refine Sw.o ?_ | refine B0 ?_); conv => whnf))
                  (repeat ((first | refine N0 ?_ | refine A0 fun γ => ?_ | refine C1 ?_ | refine C2 ?_ | refine C3 ?_ | refine C4 ?_ | refine C5 ?_ | refine C6 ?_ | refine C7 ?_ | refine D0 fun γs => ?_ | refine A1 fun γs => ?_ | refine N2 ?_ | refine N3 ?_ | refine N1 ?_ | simp (disch := omega) only [LG]); ((conv => whnf); repeat ((first | refine Sw.o ?_ | refine B0 ?_); conv => whnf))))
                  refine EndH.of (m := hpF q0 q1 q2 g ne no (q.1.set (g.joined[e.toNat][i]).toNat e, q.2)) ⟨rfl, ?_, rfl, trivial⟩ ⟨rfl, rfl⟩
                  rw [← set_map (x := e) (h := rfl)]; rfl
      · rw [List.drop_eq_nil_of_le (by omega)] at hR'
        subst hR'
        (repeat ((first | refine N0 ?_ | refine A0 fun γ => ?_ | with_reducible refine C1 ?_ | with_reducible refine C2 ?_ | with_reducible refine C3 ?_ | refine C8 ?_ | refine C9 ?_ | refine C6 ?_ | refine C7 ?_ | refine D0 fun γs => ?_ | refine A1 fun γs => ?_ | refine N2 ?_ | refine N3 ?_ | refine N1 ?_ | simp (disch := omega) only [LG]); ((conv => whnf); repeat ((first | refine Sw.o ?_ | refine B0 ?_); conv => whnf))))
        exact EndH.of (m := hpF q0 q1 q2 g ne no t) ⟨rfl, rfl, rfl, trivial⟩ ⟨rfl, rfl⟩
end Go.Proofs.Ytgeeklnokblokaa
namespace Go.Proofs.Ytgeeklnokblokaa
open Go Go.Fw
def sizeL (g : G) (ne no : List Bool) : List Nat → List Int × Int → Int
  | [], s => s.2
  | e :: r, s => match ne.getD e false with
    | true => sizeL g ne no r s
    | false => match findF g no (g.uses.length + 1) e (s.1, List.replicate g.uses.length false) with
      | (true, t) => sizeL g ne no r (t.1, s.2 + 1)
      | (false, t) => sizeL g ne no r (t.1, s.2)
def sizeF (g : G) (ne no : List Bool) : Int := sizeL g ne no (List.range' 0 g.eqs.length) (List.replicate g.uses.length (-1), 0)
theorem cellsR_set (n i : Nat) (h : i < n) : (cellsR n i).set i (encI (-1)) = cellsR n (i + 1) := by
  unfold cellsR
  apply List.ext_getElem
  · simp; omega
  · intro j h1 h2
    simp only [List.getElem_set, List.getElem_map, List.getElem_append, List.length_replicate, List.getElem_replicate]
    by_cases e1 : i = j
    · subst e1; simp
    · by_cases e2 : j < i
      · simp [e1, e2, show j < i + 1 by omega]
      · simp [e1, e2, show ¬ j < i + 1 by omega]
theorem cellsR_get (n i : Nat) (h : i < n) : (cellsR n i).getD i .dead = encI 0 := by
  unfold cellsR
  rw [List.getD_eq_getElem?_getD, List.getElem?_map, List.getElem?_append_right (by simp)]
  simp [List.getElem?_replicate, show 0 < n - i by omega]
theorem cellsR_all (n : Nat) : cellsR n n = (List.replicate n (-1)).map encI := by unfold cellsR; simp
set_option maxHeartbeats 4000000 in
set_option maxRecDepth 100000 in
theorem size_ok (g : G) (hg : WF g) (ne no : List Bool) (hne : ne.length = g.eqs.length) (hno : no.length = g.uses.length) : PureCall Try.prog 38 [encG g, encBs ne, encBs no] (encI (sizeF g ne no)) := by
  refine pure_cp (E := E 0) T_ok (D_ok 0) [] Try.func38 rfl (by rfl) (Nat.le_of_ble_eq_true rfl) ?_
  have su := hg.su
  have se := hg.se
  have hlu : (g.uses.map encU).length = g.uses.length := List.length_map ..
  have hle : (g.eqs.map encS).length = g.eqs.length := List.length_map ..
  have hln : (ne.map encB).length = g.eqs.length := by simpa using hne
  generalize hR : sizeF g ne no = R
  unfold sizeF at hR
  ((conv => whnf); repeat ((first | refine Sw.o ?_ | refine B0 ?_); conv => whnf))
  (repeat ((first | refine N0 ?_ | refine A0 fun γ => ?_ | with_reducible refine C1 ?_ | with_reducible refine C2 ?_ | with_reducible refine C3 ?_ | refine C8 ?_ | refine C9 ?_ | refine C6 ?_ | refine C7 ?_ | refine D0 fun γs => ?_ | refine A1 fun γs => ?_ | refine N2 ?_ | refine N3 ?_ | refine N1 ?_ | simp (disch := omega) only [LG]); ((conv => whnf); repeat ((first | refine Sw.o ?_ | refine B0 ?_); conv => whnf))))
  refine LoopP.intro (fun k σ H => ∃ p3 p19 p17 i, i ≤ g.uses.length ∧ k = g.uses.length - i ∧
    σ = fr [(1, encBs ne), (2, encBs no), (3, .op 3 p3 0 0), (7, .op 19 p19 0 0), (8, encI i)] ∧
    H = hp [(3, p3, ⟨26, 3, [encG g]⟩), (19, p19, ⟨87, 7, [.agg [.sl 1 (g.eqs.map encS), .sl 3 (g.uses.map encU), .sl 1 (g.joined.map encL), encBs ne, encBs no, .own 17 p17 0 g.uses.length, .val (.slice none 0 0)]]⟩), (17, p17, ⟨3, 1, cellsR g.uses.length i⟩)]) ?_ ?_
  · refine .intro <| W.of ⟨_, _, _, _, 0, Nat.zero_le _, rfl, rfl, rfl⟩ ⟨rfl, rfl, rfl, rfl, rfl, trivial⟩ ⟨rfl, rfl, ?_, trivial⟩
    rw [← cellsR_zero]; rfl
  · rintro k σ H ⟨p3, p19, p17, i, hi, rfl, rfl, rfl⟩
    have hc := cellsR_len hi
    ((conv => whnf); repeat ((first | refine Sw.o ?_ | refine B0 ?_); conv => whnf))
    (repeat ((first | refine N0 ?_ | refine A0 fun γ => ?_ | with_reducible refine C1 ?_ | with_reducible refine C2 ?_ | with_reducible refine C3 ?_ | refine C8 ?_ | refine C9 ?_ | refine C6 ?_ | refine C7 ?_ | refine D0 fun γs => ?_ | refine A1 fun γs => ?_ | refine N2 ?_ | refine N3 ?_ | refine N1 ?_ | simp (disch := omega) only [LG]); ((conv => whnf); repeat ((first | refine Sw.o ?_ | refine B0 ?_); conv => whnf))))
    refine CondP.dec (fun h => ?_) (fun h => ?_) <;> ((conv => whnf); repeat ((first | refine Sw.o ?_ | refine B0 ?_); conv => whnf))
    · (repeat ((first | refine N0 ?_ | refine A0 fun γ => ?_ | with_reducible refine C1 ?_ | with_reducible refine C2 ?_ | with_reducible refine C3 ?_ | refine C8 ?_ | refine C9 ?_ | refine C6 ?_ | refine C7 ?_ | refine D0 fun γs => ?_ | refine A1 fun γs => ?_ | refine N2 ?_ | refine N3 ?_ | refine N1 ?_ | simp (disch := omega) only [LG]); ((conv => whnf); repeat ((first | refine Sw.o ?_ | refine B0 ?_); conv => whnf))))
      simp only [cellsR_get g.uses.length i (by omega)]
      ((conv => whnf); repeat ((first | refine Sw.o ?_ | refine B0 ?_); conv => whnf))
      (repeat ((first | refine N0 ?_ | refine A0 fun γ => ?_ | with_reducible refine C1 ?_ | with_reducible refine C2 ?_ | with_reducible refine C3 ?_ | refine C8 ?_ | refine C9 ?_ | refine C6 ?_ | refine C7 ?_ | refine D0 fun γs => ?_ | refine A1 fun γs => ?_ | refine N2 ?_ | refine N3 ?_ | refine N1 ?_ | simp (disch := omega) only [LG]); ((conv => whnf); repeat ((first | refine Sw.o ?_ | refine B0 ?_); conv => whnf))))
      refine .intro <| W.of ⟨_, by omega, _, _, _, i + 1, by omega, rfl, rfl, rfl⟩ ⟨rfl, rfl, rfl, rfl, rfl, trivial⟩ ⟨rfl, rfl, ?_, trivial⟩
      rw [← cellsR_set g.uses.length i (by omega)]; rfl
    · have : i = g.uses.length := by omega
      subst this
      rw [cellsR_all]
      (repeat ((first | refine N0 ?_ | refine A0 fun γ => ?_ | with_reducible refine C1 ?_ | with_reducible refine C2 ?_ | with_reducible refine C3 ?_ | refine C8 ?_ | refine C9 ?_ | refine C6 ?_ | refine C7 ?_ | refine D0 fun γs => ?_ | refine A1 fun γs => ?_ | refine N2 ?_ | refine N3 ?_ | refine N1 ?_ | simp (disch := omega) only [LG]); ((conv => whnf); repeat ((first | refine Sw.o ?_ | refine B0 ?_); conv => whnf))))
      refine LoopP.intro (fun k σ H => ∃ p3 p19 p17 e, ∃ x : AV, ∃ s : List Int × Int, e ≤ g.eqs.length ∧ k = g.eqs.length - e ∧ MOk g (s.1, List.replicate g.uses.length false) ∧ 0 ≤ s.2 ∧ s.2 ≤ e ∧ sizeL g ne no (List.range' e (g.eqs.length - e)) s = R ∧
        σ = fr [(1, encBs ne), (2, encBs no), (3, .op 3 p3 0 0), (7, .op 19 p19 0 0), (9, encI s.2), (10, encI e)] ∧
        H = hp [(3, p3, ⟨26, 3, [encG g]⟩), (19, p19, ⟨87, 7, [.agg [.sl 1 (g.eqs.map encS), .sl 3 (g.uses.map encU), .sl 1 (g.joined.map encL), encBs ne, encBs no, .own 17 p17 0 g.uses.length, x]]⟩), (17, p17, ⟨3, 1, s.1.map encI⟩)]) ?_ ?_
      · exact .intro <| W.of ⟨_, _, _, _, 0, _, (List.replicate g.uses.length (-1), 0), Nat.zero_le _, rfl, startF_ok g, Int.le_refl _, Int.le_refl _, hR, rfl, rfl⟩ ⟨rfl, rfl, rfl, rfl, rfl, rfl, trivial⟩ ⟨rfl, rfl, rfl, trivial⟩
      · rintro k σ H ⟨p3, p19, p17, e, x, s, he, rfl, hs, hs0, hs1, hO, rfl, rfl⟩
        ((conv => whnf); repeat ((first | refine Sw.o ?_ | refine B0 ?_); conv => whnf))
        (repeat ((first | refine N0 ?_ | refine A0 fun γ => ?_ | with_reducible refine C1 ?_ | with_reducible refine C2 ?_ | with_reducible refine C3 ?_ | refine C8 ?_ | refine C9 ?_ | refine C6 ?_ | refine C7 ?_ | refine D0 fun γs => ?_ | refine A1 fun γs => ?_ | refine N2 ?_ | refine N3 ?_ | refine N1 ?_ | simp (disch := omega) only [LG]); ((conv => whnf); repeat ((first | refine Sw.o ?_ | refine B0 ?_); conv => whnf))))
        refine CondP.dec (fun h1 => ?_) (fun h1 => ?_) <;> ((conv => whnf); repeat ((first | refine Sw.o ?_ | refine B0 ?_); conv => whnf))
        · have he' : e < g.eqs.length := by omega
          rw [show g.eqs.length - e = (g.eqs.length - (e + 1)) + 1 by omega, List.range'_succ] at hO
          unfold sizeL at hO
          rw [getD_lt _ _ _ (show e < ne.length by omega)] at hO
          (repeat ((first | refine N0 ?_ | refine A0 fun γ => ?_ | with_reducible refine C1 ?_ | with_reducible refine C2 ?_ | with_reducible refine C3 ?_ | refine C8 ?_ | refine C9 ?_ | refine C6 ?_ | refine C7 ?_ | refine D0 fun γs => ?_ | refine A1 fun γs => ?_ | refine N2 ?_ | refine N3 ?_ | refine N1 ?_ | simp (disch := omega) only [LG]); ((conv => whnf); repeat ((first | refine Sw.o ?_ | refine B0 ?_); conv => whnf))))
          rename_i γ
          refine CondP.intro (fun h2 => ?_) (fun h2 => ?_) <;> ((conv => whnf); repeat ((first | refine Sw.o ?_ | refine B0 ?_); conv => whnf))
          · rw [h2] at hO
            (repeat ((first | refine N0 ?_ | refine A0 fun γ => ?_ | with_reducible refine C1 ?_ | with_reducible refine C2 ?_ | with_reducible refine C3 ?_ | refine C8 ?_ | refine C9 ?_ | refine C6 ?_ | refine C7 ?_ | refine D0 fun γs => ?_ | refine A1 fun γs => ?_ | refine N2 ?_ | refine N3 ?_ | refine N1 ?_ | simp (disch := omega) only [LG]); ((conv => whnf); repeat ((first | refine Sw.o ?_ | refine B0 ?_); conv => whnf))))
            exact .intro <| W.of ⟨_, by omega, _, _, _, e + 1, .own 46 γ 0 g.uses.length, s, by omega, rfl, hs, hs0, by omega, hO, rfl, rfl⟩ ⟨rfl, rfl, rfl, rfl, rfl, rfl, trivial⟩ ⟨rfl, rfl, rfl, trivial⟩
          · rw [h2] at hO
            simp only at hO
            (repeat ((first | refine N0 ?_ | refine A0 fun γ => ?_ | with_reducible refine C1 ?_ | with_reducible refine C2 ?_ | with_reducible refine C3 ?_ | refine C8 ?_ | refine C9 ?_ | refine C6 ?_ | refine C7 ?_ | refine D0 fun γs => ?_ | refine A1 fun γs => ?_ | refine N2 ?_ | refine N3 ?_ | refine N1 ?_ | simp (disch := omega) only [LG]); ((conv => whnf); repeat ((first | refine Sw.o ?_ | refine B0 ?_); conv => whnf))))
            have hq := findF_ok hg no (g.uses.length + 1) (e : Int) (s.1, List.replicate g.uses.length false) (by omega) (by omega) hs
            refine CallP.frame 1000000 [(200, 19), (101, 17), (102, 46)] rfl c66 (find_ok g hg ne no hno (g.uses.length + 1) e (s.1, List.replicate g.uses.length false) p19 p17 γ (by omega) (by omega) hs (by have := unseen_le (List.replicate g.uses.length false); simp only [List.length_replicate] at this ⊢; omega)) rfl ⟨rfl, mvB_flats encI _ (fun _ => rfl) .., ?_, trivial⟩ ?_
            · show some (mvB _ (γ, ⟨4, 1, List.replicate g.uses.length _⟩)) = _
              rw [rep_encB]
              exact mvB_flats encB _ (fun _ => rfl) ..
            · rintro r0 h' ⟨rfl, rfl⟩
              generalize findF g no (g.uses.length + 1) e (s.1, List.replicate g.uses.length false) = q at hO hq ⊢
              obtain ⟨b, q⟩ := q
              refine ⟨[(3, p3, ⟨26, 3, [encG g]⟩), (19, p19, ⟨87, 7, [.agg [.sl 1 (g.eqs.map encS), .sl 3 (g.uses.map encU), .sl 1 (g.joined.map encL), encBs ne, encBs no, .own 17 p17 0 g.uses.length, .own 46 γ 0 g.uses.length]]⟩), (17, p17, ⟨3, 1, q.1.map encI⟩)], ⟨rfl, rfl, mvB_flats encI _ (fun _ => rfl) .., trivial⟩, ?_⟩
              have hq' : MOk g (q.1, List.replicate g.uses.length false) := ⟨hq.1.lm, hs.ls, hq.1.lt⟩
              cases b
              · simp only at hO
                ((conv => whnf); repeat ((first | refine Sw.o ?_ | refine B0 ?_); conv => whnf))
                (repeat ((first | refine N0 ?_ | refine A0 fun γ => ?_ | refine C1 ?_ | refine C2 ?_ | refine C3 ?_ | refine C4 ?_ | refine C5 ?_ | refine C6 ?_ | refine C7 ?_ | refine D0 fun γs => ?_ | refine A1 fun γs => ?_ | refine N2 ?_ | refine N3 ?_ | refine N1 ?_); ((conv => whnf); repeat ((first | refine Sw.o ?_ | refine B0 ?_); conv => whnf))))
                exact .intro <| W.of ⟨_, by omega, _, _, _, e + 1, .own 46 γ 0 g.uses.length, (q.1, s.2), by omega, rfl, hq', hs0, by simp only; omega, hO, rfl, rfl⟩ ⟨rfl, rfl, rfl, rfl, rfl, rfl, trivial⟩ ⟨rfl, rfl, rfl, trivial⟩
              · simp only at hO
                ((conv => whnf); repeat ((first | refine Sw.o ?_ | refine B0 ?_); conv => whnf))
                (repeat ((first | refine N0 ?_ | refine A0 fun γ => ?_ | refine C1 ?_ | refine C2 ?_ | refine C3 ?_ | refine C4 ?_ | refine C5 ?_ | refine C6 ?_ | refine C7 ?_ | refine D0 fun γs => ?_ | refine A1 fun γs => ?_ | refine N2 ?_ | refine N3 ?_ | refine N1 ?_); ((conv => whnf); repeat ((first | refine Sw.o ?_ | refine B0 ?_); conv => whnf))))
                exact .intro <| W.of ⟨_, by omega, _, _, _, e + 1, .own 46 γ 0 g.uses.length, (q.1, s.2 + 1), by omega, rfl, hq', by simp only; omega, by simp only; omega, hO, rfl, rfl⟩ ⟨rfl, rfl, rfl, rfl, rfl, rfl, trivial⟩ ⟨rfl, rfl, rfl, trivial⟩
        · rw [show g.eqs.length - e = 0 by omega] at hO
          simp only [List.range'_zero, sizeL] at hO
          subst hO
          (repeat ((first | refine N0 ?_ | refine A0 fun γ => ?_ | with_reducible refine C1 ?_ | with_reducible refine C2 ?_ | with_reducible refine C3 ?_ | refine C8 ?_ | refine C9 ?_ | refine C6 ?_ | refine C7 ?_ | refine D0 fun γs => ?_ | refine A1 fun γs => ?_ | refine N2 ?_ | refine N3 ?_ | refine N1 ?_ | simp (disch := omega) only [LG]); ((conv => whnf); repeat ((first | refine Sw.o ?_ | refine B0 ?_); conv => whnf))))
          exact .of rfl
def SizeF (g : G) : Int := sizeF g (List.replicate g.eqs.length false) (List.replicate g.uses.length false)
set_option maxRecDepth 100000 in
theorem Size_ok (g : G) (hg : WF g) : PureCall Try.prog 40 [encG g] (encI (SizeF g)) := by
  refine pure_cp (E := E 0) T_ok (D_ok 0) [] Try.func40 rfl (by rfl) (Nat.le_of_ble_eq_true rfl) ?_
  have su := hg.su
  have se := hg.se
  ((conv => whnf); repeat ((first | refine Sw.o ?_ | refine B0 ?_); conv => whnf))
  (repeat ((first | refine N0 ?_ | refine A0 fun γ => ?_ | refine C1 ?_ | refine C2 ?_ | refine C3 ?_ | refine C4 ?_ | refine C5 ?_ | refine C6 ?_ | refine C7 ?_ | refine A1 fun γs => ?_ | refine N2 ?_ | refine N3 ?_ | refine N1 ?_); ((conv => whnf); repeat ((first | refine Sw.o ?_ | refine B0 ?_); conv => whnf))))
  refine DrawH.segs [(9, false), (10, true), (11, false)] (by kernel_rfl) ?_
  ((conv => whnf); repeat ((first | refine Sw.o ?_ | refine B0 ?_); conv => whnf))
  (repeat ((first | refine N0 ?_ | refine A0 fun γ => ?_ | refine C1 ?_ | refine C2 ?_ | refine C3 ?_ | refine C4 ?_ | refine C5 ?_ | refine C6 ?_ | refine C7 ?_ | refine A1 fun γs => ?_ | refine N2 ?_ | refine N3 ?_ | refine N1 ?_); ((conv => whnf); repeat ((first | refine Sw.o ?_ | refine B0 ?_); conv => whnf))))
  refine CallP.flat [7, 11] (encI (SizeF g)) c38 (pure_args ?_ (size_ok g hg _ _ (by simp) (by simp))) rfl ?_
  · simp only [List.length_map, Int.toNat_natCast]
    show [encG g, snap [7, 11] _ (.own 7 _ 0 g.eqs.length), snap [7, 11] _ (.own 11 _ 0 g.uses.length)] = _
    rw [snap_own (B := ⟨4, 1, (List.replicate g.eqs.length false).map encB⟩) (by simp) (by rw [← rep_encB]; rfl) (by simp), snap_own (B := ⟨4, 1, (List.replicate g.uses.length false).map encB⟩) (by simp) (by rw [← rep_encB]; rfl) (by simp),
      snap_list _ _ _ _ (by simp) (fun _ => rfl), snap_list _ _ _ _ (by simp) (fun _ => rfl)]
    rfl
  ((conv => whnf); repeat ((first | refine Sw.o ?_ | refine B0 ?_); conv => whnf))
  (repeat ((first | refine N0 ?_ | refine A0 fun γ => ?_ | refine C1 ?_ | refine C2 ?_ | refine C3 ?_ | refine C4 ?_ | refine C5 ?_ | refine C6 ?_ | refine C7 ?_ | refine D0 fun γs => ?_ | refine A1 fun γs => ?_ | refine N2 ?_ | refine N3 ?_ | refine N1 ?_); ((conv => whnf); repeat ((first | refine Sw.o ?_ | refine B0 ?_); conv => whnf))))
  exact .of rfl
end Go.Proofs.Ytgeeklnokblokaa
namespace Go.Proofs.Ytgeeklnokblokaa
open Go Go.Fw
def fe (g : G) : List Bool := List.replicate g.eqs.length false
def fu (g : G) : List Bool := List.replicate g.uses.length false
def spareE (g : G) (i : Nat) : Bool := decide (sizeF g ((fe g).set i true) (fu g) = SizeF g)
def spareU (g : G) (i : Nat) : Bool := decide (sizeF g (fe g) ((fu g).set i true) = SizeF g)
def spareF (g : G) : List Bool × List Bool := ((List.range g.eqs.length).map (spareE g), (List.range g.uses.length).map (spareU g))
theorem fe_len (g : G) : (fe g).length = g.eqs.length := by simp [fe]
theorem fu_len (g : G) : (fu g).length = g.uses.length := by simp [fu]
theorem fe_back (g : G) (i : Nat) : ((fe g).set i true).set i false = fe g := by
  unfold fe
  apply List.ext_getElem
  · simp
  · intro j h1 h2
    simp only [List.getElem_set, List.getElem_replicate]
    split <;> simp_all
theorem fu_back (g : G) (i : Nat) : ((fu g).set i true).set i false = fu g := by
  unfold fu
  apply List.ext_getElem
  · simp
  · intro j h1 h2
    simp only [List.getElem_set, List.getElem_replicate]
    split <;> simp_all
theorem spareF_1 (g : G) (i : Nat) (h : i < g.eqs.length) : (spareF g).1.getD i false = spareE g i := by
  rw [getD_lt _ _ _ (by simp [spareF]; exact h)]; simp [spareF]
theorem spareF_2 (g : G) (i : Nat) (h : i < g.uses.length) : (spareF g).2.getD i false = spareU g i := by
  rw [getD_lt _ _ _ (by simp [spareF]; exact h)]; simp [spareF]
set_option maxHeartbeats 4000000 in
set_option maxRecDepth 100000 in
theorem spare_ok (g : G) (hg : WF g) : PureCall Try.prog 52 [encG g] (.tup [encBs (spareF g).1, encBs (spareF g).2]) := by
  refine pure_cp (E := E 0) T_ok (D_ok 0) [24, 28] Try.func52 rfl (by rfl) (Nat.le_of_ble_eq_true rfl) ?_
  have su := hg.su
  have se := hg.se
  have lf := fe_len g
  have lu := fu_len g
  ((conv => whnf); repeat ((first | refine Sw.o ?_ | refine B0 ?_); conv => whnf))
  (repeat ((first | refine N0 ?_ | refine A0 fun γ => ?_ | refine C1 ?_ | refine C2 ?_ | refine C3 ?_ | refine C4 ?_ | refine C5 ?_ | refine C6 ?_ | refine C7 ?_ | refine D0 fun γs => ?_ | refine A1 fun γs => ?_ | refine N2 ?_ | refine N3 ?_ | refine N1 ?_); ((conv => whnf); repeat ((first | refine Sw.o ?_ | refine B0 ?_); conv => whnf))))
  refine CallP.flat [] (encI (SizeF g)) c40 (Size_ok g hg) rfl ?_
  ((conv => whnf); repeat ((first | refine Sw.o ?_ | refine B0 ?_); conv => whnf))
  (repeat ((first | refine N0 ?_ | refine A0 fun γ => ?_ | refine C1 ?_ | refine C2 ?_ | refine C3 ?_ | refine C4 ?_ | refine C5 ?_ | refine C6 ?_ | refine C7 ?_ | refine D0 fun γs => ?_ | refine A1 fun γs => ?_ | refine N2 ?_ | refine N3 ?_ | refine N1 ?_); ((conv => whnf); repeat ((first | refine Sw.o ?_ | refine B0 ?_); conv => whnf))))
  simp only [List.length_map, Int.toNat_natCast, rep_encB]
  refine LoopP.intro (fun k σ H => ∃ p1 p16 p20 p24 p28 i, ∃ xs : List Bool, i ≤ g.eqs.length ∧ k = g.eqs.length - i ∧ xs.length = g.eqs.length ∧ (∀ j, j < i → xs.getD j false = (spareF g).1.getD j false) ∧
    σ = fr [(1, .op 1 p1 0 0), (4, encI (SizeF g)), (5, .own 16 p16 0 g.eqs.length), (6, .own 20 p20 0 g.uses.length), (7, .own 24 p24 0 g.eqs.length), (8, .own 28 p28 0 g.uses.length), (9, encI i)] ∧
    H = hp [(1, p1, ⟨26, 3, [encG g]⟩), (16, p16, ⟨4, 1, (fe g).map encB⟩), (20, p20, ⟨4, 1, (fu g).map encB⟩), (24, p24, ⟨4, 1, xs.map encB⟩), (28, p28, ⟨4, 1, (fu g).map encB⟩)]) ?_ ?_
  · exact .intro <| W.of ⟨_, _, _, _, _, _, 0, fe g, Nat.zero_le _, rfl, lf, fun j h => absurd h (by omega), rfl, rfl⟩ ⟨rfl, rfl, rfl, rfl, rfl, rfl, rfl, trivial⟩ ⟨rfl, by unfold fe; rw [← rep_encB]; rfl, by unfold fu; rw [← rep_encB]; rfl, by unfold fe; rw [← rep_encB]; rfl, by unfold fu; rw [← rep_encB]; rfl, trivial⟩
  · rintro k σ H ⟨p1, p16, p20, p24, p28, i, xs, hi, rfl, hxl, hx, rfl, rfl⟩
    have hl1 : ((fe g).map encB).length = g.eqs.length := by simpa using lf
    have hl2 : (xs.map encB).length = g.eqs.length := by simpa using hxl
    ((conv => whnf); repeat ((first | refine Sw.o ?_ | refine B0 ?_); conv => whnf))
    (repeat ((first | refine N0 ?_ | refine A0 fun γ => ?_ | refine C1 ?_ | refine C2 ?_ | refine C3 ?_ | refine C4 ?_ | refine C5 ?_ | refine C6 ?_ | refine C7 ?_ | refine D0 fun γs => ?_ | refine A1 fun γs => ?_ | refine N2 ?_ | refine N3 ?_ | refine N1 ?_); ((conv => whnf); repeat ((first | refine Sw.o ?_ | refine B0 ?_); conv => whnf))))
    refine CondP.dec (fun h => ?_) (fun h => ?_) <;> ((conv => whnf); repeat ((first | refine Sw.o ?_ | refine B0 ?_); conv => whnf))
    · (have h2 := h; try simp only [LN] at h2)
      have hi' : i < g.eqs.length := by omega
      (repeat ((first | refine N0 ?_ | refine A0 fun γ => ?_ | refine C1 ?_ | refine C2 ?_ | refine C3 ?_ | refine C4 ?_ | refine C5 ?_ | refine C6 ?_ | refine C7 ?_ | refine D0 fun γs => ?_ | refine A1 fun γs => ?_ | refine N2 ?_ | refine N3 ?_ | refine N1 ?_ | simp (disch := omega) only [LG]); ((conv => whnf); repeat ((first | refine Sw.o ?_ | refine B0 ?_); conv => whnf))))
      refine CallP.flat [16, 20] (encI (sizeF g ((fe g).set i true) (fu g))) c38 (pure_args ?_ (size_ok g hg ((fe g).set i true) (fu g) (by simp [lf]) lu)) rfl ?_
      · show [encG g, snap [16, 20] _ (.own 16 _ 0 g.eqs.length), snap [16, 20] _ (.own 20 _ 0 g.uses.length)] = _
        rw [snap_own (B := ⟨4, 1, ((fe g).set i true).map encB⟩) (by simp) (by rw [← set_map (x := true) (h := rfl)]; rfl) (by simp [lf]), snap_own (B := ⟨4, 1, (fu g).map encB⟩) (by simp) rfl (by simp [lu]),
          snap_list _ _ _ _ (by simp [lf]) (fun _ => rfl), snap_list _ _ _ _ (by simp [lu]) (fun _ => rfl)]
        rfl
      have hb : decide (sizeF g ((fe g).set i true) (fu g) = SizeF g) = spareE g i := rfl
      have hs1 : (List.map encB (fe g)).set i (AV.val (Value.bool true)) = ((fe g).set i true).map encB := by rw [← set_map (x := true) (h := rfl)]; rfl
      have hl3 : (((fe g).set i true).map encB).length = g.eqs.length := by simp [lf]
      have hl4 : ((fe g).set i true).length = g.eqs.length := by simp [lf]
      simp only [hs1]
      ((conv => whnf); repeat ((first | refine Sw.o ?_ | refine B0 ?_); conv => whnf))
      (repeat ((first | refine N0 ?_ | refine A0 fun γ => ?_ | refine C1 ?_ | refine C2 ?_ | refine C3 ?_ | refine C4 ?_ | refine C5 ?_ | refine C6 ?_ | refine C7 ?_ | refine D0 fun γs => ?_ | refine A1 fun γs => ?_ | refine N2 ?_ | refine N3 ?_ | refine N1 ?_ | simp (disch := omega) only [LG]); ((conv => whnf); repeat ((first | refine Sw.o ?_ | refine B0 ?_); conv => whnf))))
      refine .intro <| W.of ⟨_, by omega, _, _, _, _, _, i + 1, xs.set i (spareE g i), by omega, rfl, by simpa using hxl, ?_, rfl, rfl⟩ ⟨rfl, rfl, rfl, rfl, rfl, rfl, rfl, trivial⟩ ⟨rfl, ?_, rfl, ?_, rfl, trivial⟩
      · intro j hj
        rw [getD_set]
        split
        · rename_i e; rw [← e.1, spareF_1 g i hi']
        · rename_i e; exact hx j (by omega)
      · show some (_, (⟨4, 1, (List.map encB ((fe g).set i true)).set i (encB false)⟩ : Blk)) = _
        rw [set_map (x := false) (h := rfl), fe_back]
      · rw [← set_map (x := spareE g i) (h := rfl)]; rfl
    · (have h2 := h; try simp only [LN] at h2)
      have hE : xs = (spareF g).1 := ext_getD (d := false) (hxl.trans (by simp [spareF])) (fun j hj => hx j (by omega))
      subst hE
      (repeat ((first | refine N0 ?_ | refine A0 fun γ => ?_ | refine C1 ?_ | refine C2 ?_ | refine C3 ?_ | refine C4 ?_ | refine C5 ?_ | refine C6 ?_ | refine C7 ?_ | refine D0 fun γs => ?_ | refine A1 fun γs => ?_ | refine N2 ?_ | refine N3 ?_ | refine N1 ?_); ((conv => whnf); repeat ((first | refine Sw.o ?_ | refine B0 ?_); conv => whnf))))
      refine LoopP.intro (fun k σ H => ∃ p1 p16 p20 p24 p28 i, ∃ xs : List Bool, i ≤ g.uses.length ∧ k = g.uses.length - i ∧ xs.length = g.uses.length ∧ (∀ j, j < i → xs.getD j false = (spareF g).2.getD j false) ∧
        σ = fr [(1, .op 1 p1 0 0), (4, encI (SizeF g)), (5, .own 16 p16 0 g.eqs.length), (6, .own 20 p20 0 g.uses.length), (7, .own 24 p24 0 g.eqs.length), (8, .own 28 p28 0 g.uses.length), (10, encI i)] ∧
        H = hp [(1, p1, ⟨26, 3, [encG g]⟩), (16, p16, ⟨4, 1, (fe g).map encB⟩), (20, p20, ⟨4, 1, (fu g).map encB⟩), (24, p24, ⟨4, 1, (spareF g).1.map encB⟩), (28, p28, ⟨4, 1, xs.map encB⟩)]) ?_ ?_
      · exact .intro <| W.of ⟨_, _, _, _, _, _, 0, fu g, Nat.zero_le _, rfl, lu, fun j h => absurd h (by omega), rfl, rfl⟩ ⟨rfl, rfl, rfl, rfl, rfl, rfl, rfl, trivial⟩ ⟨rfl, rfl, rfl, rfl, rfl, trivial⟩
      · rintro k σ H ⟨p1, p16, p20, p24, p28, i, xs, hi, rfl, hxl', hx, rfl, rfl⟩
        have hl1 : ((fu g).map encB).length = g.uses.length := by simpa using lu
        have hl2 : (xs.map encB).length = g.uses.length := by simpa using hxl'
        ((conv => whnf); repeat ((first | refine Sw.o ?_ | refine B0 ?_); conv => whnf))
        (repeat ((first | refine N0 ?_ | refine A0 fun γ => ?_ | refine C1 ?_ | refine C2 ?_ | refine C3 ?_ | refine C4 ?_ | refine C5 ?_ | refine C6 ?_ | refine C7 ?_ | refine D0 fun γs => ?_ | refine A1 fun γs => ?_ | refine N2 ?_ | refine N3 ?_ | refine N1 ?_); ((conv => whnf); repeat ((first | refine Sw.o ?_ | refine B0 ?_); conv => whnf))))
        refine CondP.dec (fun h => ?_) (fun h => ?_) <;> ((conv => whnf); repeat ((first | refine Sw.o ?_ | refine B0 ?_); conv => whnf))
        · (have h2 := h; try simp only [LN] at h2)
          have hi' : i < g.uses.length := by omega
          (repeat ((first | refine N0 ?_ | refine A0 fun γ => ?_ | refine C1 ?_ | refine C2 ?_ | refine C3 ?_ | refine C4 ?_ | refine C5 ?_ | refine C6 ?_ | refine C7 ?_ | refine D0 fun γs => ?_ | refine A1 fun γs => ?_ | refine N2 ?_ | refine N3 ?_ | refine N1 ?_ | simp (disch := omega) only [LG]); ((conv => whnf); repeat ((first | refine Sw.o ?_ | refine B0 ?_); conv => whnf))))
          refine CallP.flat [16, 20] (encI (sizeF g (fe g) ((fu g).set i true))) c38 (pure_args ?_ (size_ok g hg (fe g) ((fu g).set i true) lf (by simp [lu]))) rfl ?_
          · show [encG g, snap [16, 20] _ (.own 16 _ 0 g.eqs.length), snap [16, 20] _ (.own 20 _ 0 g.uses.length)] = _
            rw [snap_own (B := ⟨4, 1, (fe g).map encB⟩) (by simp) rfl (by simp [lf]), snap_own (B := ⟨4, 1, ((fu g).set i true).map encB⟩) (by simp) (by rw [← set_map (x := true) (h := rfl)]; rfl) (by simp [lu]),
              snap_list _ _ _ _ (by simp [lf]) (fun _ => rfl), snap_list _ _ _ _ (by simp [lu]) (fun _ => rfl)]
            rfl
          have hs1 : (List.map encB (fu g)).set i (AV.val (Value.bool true)) = ((fu g).set i true).map encB := by rw [← set_map (x := true) (h := rfl)]; rfl
          have hl3 : (((fu g).set i true).map encB).length = g.uses.length := by simp [lu]
          have hl4 : ((fu g).set i true).length = g.uses.length := by simp [lu]
          simp only [hs1]
          ((conv => whnf); repeat ((first | refine Sw.o ?_ | refine B0 ?_); conv => whnf))
          (repeat ((first | refine N0 ?_ | refine A0 fun γ => ?_ | refine C1 ?_ | refine C2 ?_ | refine C3 ?_ | refine C4 ?_ | refine C5 ?_ | refine C6 ?_ | refine C7 ?_ | refine D0 fun γs => ?_ | refine A1 fun γs => ?_ | refine N2 ?_ | refine N3 ?_ | refine N1 ?_ | simp (disch := omega) only [LG]); ((conv => whnf); repeat ((first | refine Sw.o ?_ | refine B0 ?_); conv => whnf))))
          refine .intro <| W.of ⟨_, by omega, _, _, _, _, _, i + 1, xs.set i (spareU g i), by omega, rfl, by simpa using hxl', ?_, rfl, rfl⟩ ⟨rfl, rfl, rfl, rfl, rfl, rfl, rfl, trivial⟩ ⟨rfl, rfl, ?_, rfl, ?_, trivial⟩
          · intro j hj
            rw [getD_set]
            split
            · rename_i e; rw [← e.1, spareF_2 g i hi']
            · rename_i e; exact hx j (by omega)
          · show some (_, (⟨4, 1, (List.map encB ((fu g).set i true)).set i (encB false)⟩ : Blk)) = _
            rw [set_map (x := false) (h := rfl), fu_back]
          · rw [← set_map (x := spareU g i) (h := rfl)]; rfl
        · (have h2 := h; try simp only [LN] at h2)
          have hU : xs = (spareF g).2 := ext_getD (d := false) (hxl'.trans (by simp [spareF])) (fun j hj => hx j (by omega))
          subst hU
          (repeat ((first | refine N0 ?_ | refine A0 fun γ => ?_ | refine C1 ?_ | refine C2 ?_ | refine C3 ?_ | refine C4 ?_ | refine C5 ?_ | refine C6 ?_ | refine C7 ?_ | refine D0 fun γs => ?_ | refine A1 fun γs => ?_ | refine N2 ?_ | refine N3 ?_ | refine N1 ?_); ((conv => whnf); repeat ((first | refine Sw.o ?_ | refine B0 ?_); conv => whnf))))
          refine .of ?_
          show AV.tup [AV.sl 1 _, AV.sl 1 _] = AV.tup [AV.sl 1 _, AV.sl 1 _]
          rw [snap_list _ _ _ _ hxl.symm (fun _ => rfl), snap_list _ _ _ _ hxl'.symm (fun _ => rfl)]
end Go.Proofs.Ytgeeklnokblokaa
namespace Go.Proofs.Ytgeeklnokblokaa
open Go Go.Fw
def Gives2 (b b' : Nat) (l l' : List Bool) : AV → Hp → Prop := fun r h => ∃ γ γ', r = .tup [.own b γ 0 l.length, .own b' γ' 0 l'.length] ∧ h = hp [(b, γ, ⟨4, 1, l.map encB⟩), (b', γ', ⟨4, 1, l'.map encB⟩)]
def Halv (g : G) : Prop := ∃ S S' : Int → Prop, Shut g (mF g) S ∧ (∀ i (h : i < (ofM g).length), (ofM g)[i] < 0 → S i) ∧ ShutU g (ofM g) S' ∧ (∀ i (h : i < (mF g).length), (mF g)[i] < 0 → S' i)
theorem halvesP_ok (g : G) (hg : WF g) (hh : Halv g) : PureCall Try.prog 45 [encG g] (.tup [encBs (halvesF g).1, encBs (halvesF g).2]) := by
  obtain ⟨S, S', h1, h2, h3, h4⟩ := hh
  exact halves_ok g hg h1 h2 h3 h4
set_option maxRecDepth 100000 in
theorem halvesO_ok (g : G) (hg : WF g) (hh : Halv g) : HCall Try.prog 45 [encG g] (hp []) (Gives2 44 48 (halvesF g).1 (halvesF g).2) := by
  obtain ⟨S, S', hS, hS0, hS', hS0'⟩ := hh
  refine hcall_cp (E := E 0) T_ok (D_ok 0) Try.func45 rfl (by rfl) (Nat.le_of_ble_eq_true rfl) ?_
  have su := hg.su
  have se := hg.se
  have hjl := hg.len
  have hmok := mF_ok hg
  have hlof : (ofM g).length = g.eqs.length := by unfold ofM; rw [ofF_len]; simp
  ((conv => whnf); repeat ((first | refine Sw.o ?_ | refine B0 ?_); conv => whnf))
  (repeat ((first | refine N0 ?_ | refine A0 fun γ => ?_ | refine C1 ?_ | refine C2 ?_ | refine C3 ?_ | refine C4 ?_ | refine C5 ?_ | refine C6 ?_ | refine C7 ?_ | refine D0 fun γs => ?_ | refine A1 fun γs => ?_ | refine N2 ?_ | refine N3 ?_ | refine N1 ?_); ((conv => whnf); repeat ((first | refine Sw.o ?_ | refine B0 ?_); conv => whnf))))
  refine CallP.pure [] _ c39 (greatest0_ok g hg) ?_
  generalize hR : halvesF g = R
  unfold halvesF at hR
  rw [show (greatestF g []).1 = mF g from rfl]
  generalize (greatestF g []).2 = most
  generalize hof : ofM g = of at hR hS0 hS' hlof ⊢
  unfold ofM at hof
  generalize mF g = m at hR hS hmok hof hS0' ⊢
  obtain ⟨lm, mlt⟩ := hmok
  ((conv => whnf); repeat ((first | refine Sw.o ?_ | refine B0 ?_); conv => whnf))
  (repeat ((first | refine N0 ?_ | refine A0 fun γ => ?_ | refine C1 ?_ | refine C2 ?_ | refine C3 ?_ | refine C4 ?_ | refine C5 ?_ | refine C6 ?_ | refine C7 ?_ | refine D0 fun γs => ?_ | refine A1 fun γs => ?_ | refine N2 ?_ | refine N3 ?_ | refine N1 ?_); ((conv => whnf); repeat ((first | refine Sw.o ?_ | refine B0 ?_); conv => whnf))))
  simp only [List.length_map]
  rename_i γ
  refine CallP.frame 1000000 [(200, 22), (30, 26)] rfl c67 (repeat_ok γ g.eqs.length se) rfl ⟨rfl, trivial⟩ ?_
  rintro r0 h' ⟨δ, rfl, rfl⟩
  refine ⟨[(26, δ, ⟨3, 1, (List.replicate g.eqs.length (-1)).map encI⟩), (1, _, ⟨26, 3, [encG g]⟩), (4, _, ⟨63, 1, [encL m]⟩)], ⟨mvB_flats encI _ (fun _ => rfl) .., rfl, rfl, trivial⟩, ?_⟩
  ((conv => whnf); repeat ((first | refine Sw.o ?_ | refine B0 ?_); conv => whnf))
  (repeat ((first | refine N0 ?_ | refine A0 fun γ => ?_ | refine C1 ?_ | refine C2 ?_ | refine C3 ?_ | refine C4 ?_ | refine C5 ?_ | refine C6 ?_ | refine C7 ?_ | refine D0 fun γs => ?_ | refine A1 fun γs => ?_ | refine N2 ?_ | refine N3 ?_ | refine N1 ?_); ((conv => whnf); repeat ((first | refine Sw.o ?_ | refine B0 ?_); conv => whnf))))
  refine LoopP.intro (fun k σ H => ∃ p1 p4 p6 p26 i, ∃ t : List Int, i ≤ m.length ∧ k = m.length - i ∧ t.length = g.eqs.length ∧ ofF i (m.drop i) t = of ∧
    σ = fr [(1, .op 1 p1 0 0), (4, .op 4 p4 0 0), (6, .op 6 p6 0 0), (27, encL m), (28, encI m.length), (29, encI i)] ∧
    H = hp [(26, p26, ⟨3, 1, t.map encI⟩), (1, p1, ⟨26, 3, [encG g]⟩), (4, p4, ⟨63, 1, [encL m]⟩), (6, p6, ⟨29, 1, [.own 26 p26 0 g.eqs.length]⟩)]) ?_ ?_
  · exact .intro <| W.of ⟨_, _, _, _, _, 0, _, Nat.zero_le _, rfl, by simp, hof, rfl, rfl⟩ ⟨rfl, rfl, rfl, rfl, by simp; rfl, rfl, trivial⟩ ⟨rfl, rfl, rfl, rfl, trivial⟩
  · rintro k σ H ⟨p1, p4, p6, p26, i, t, hi, rfl, ht, hO, rfl, rfl⟩
    ((conv => whnf); repeat ((first | refine Sw.o ?_ | refine B0 ?_); conv => whnf))
    (repeat ((first | refine N0 ?_ | refine A0 fun γ => ?_ | refine C1 ?_ | refine C2 ?_ | refine C3 ?_ | refine C4 ?_ | refine C5 ?_ | refine C6 ?_ | refine C7 ?_ | refine D0 fun γs => ?_ | refine A1 fun γs => ?_ | refine N2 ?_ | refine N3 ?_ | refine N1 ?_); ((conv => whnf); repeat ((first | refine Sw.o ?_ | refine B0 ?_); conv => whnf))))
    refine CondP.dec (fun h => ?_) (fun h => ?_) <;> ((conv => whnf); repeat ((first | refine Sw.o ?_ | refine B0 ?_); conv => whnf))
    · (have h2 := h; try simp only [LN] at h2)
      have hi' : i < m.length := by omega
      have hlt := mlt _ (List.getElem_mem hi')
      rw [List.drop_eq_getElem_cons hi'] at hO
      unfold ofF at hO
      (repeat ((first | refine N0 ?_ | refine A0 fun γ => ?_ | refine C1 ?_ | refine C2 ?_ | refine C3 ?_ | refine C4 ?_ | refine C5 ?_ | refine C6 ?_ | refine C7 ?_ | refine D0 fun γs => ?_ | refine A1 fun γs => ?_ | refine N2 ?_ | refine N3 ?_ | refine N1 ?_); ((conv => whnf); repeat ((first | refine Sw.o ?_ | refine B0 ?_); conv => whnf))))
      (simp (disch := omega) only [LG]; ((conv => whnf); repeat ((first | refine Sw.o ?_ | refine B0 ?_); conv => whnf)))
      generalize m[i] = e at hlt hO ⊢
      (repeat ((first | refine N0 ?_ | refine A0 fun γ => ?_ | refine C1 ?_ | refine C2 ?_ | refine C3 ?_ | refine C4 ?_ | refine C5 ?_ | refine C6 ?_ | refine C7 ?_ | refine D0 fun γs => ?_ | refine A1 fun γs => ?_ | refine N2 ?_ | refine N3 ?_ | refine N1 ?_); ((conv => whnf); repeat ((first | refine Sw.o ?_ | refine B0 ?_); conv => whnf))))
      refine CondP.dec (fun hd => ?_) (fun hd => ?_) <;> ((conv => whnf); repeat ((first | refine Sw.o ?_ | refine B0 ?_); conv => whnf))
      · rw [decide_eq_true hd] at hO
        (repeat ((first | refine N0 ?_ | refine A0 fun γ => ?_ | refine C1 ?_ | refine C2 ?_ | refine C3 ?_ | refine C4 ?_ | refine C5 ?_ | refine C6 ?_ | refine C7 ?_ | refine D0 fun γs => ?_ | refine A1 fun γs => ?_ | refine N2 ?_ | refine N3 ?_ | refine N1 ?_ | simp (disch := omega) only [LG]); ((conv => whnf); repeat ((first | refine Sw.o ?_ | refine B0 ?_); conv => whnf))))
        refine .intro <| W.of ⟨_, by omega, _, _, _, _, i + 1, t.set e.toNat i, by omega, rfl, by simpa using ht, hO, rfl, rfl⟩ ⟨rfl, rfl, rfl, rfl, rfl, rfl, trivial⟩ ⟨?_, rfl, rfl, rfl, trivial⟩
        rw [← set_map (x := (i : Int)) (h := rfl)]; rfl
      · rw [decide_eq_false hd] at hO
        (repeat ((first | refine N0 ?_ | refine A0 fun γ => ?_ | refine C1 ?_ | refine C2 ?_ | refine C3 ?_ | refine C4 ?_ | refine C5 ?_ | refine C6 ?_ | refine C7 ?_ | refine D0 fun γs => ?_ | refine A1 fun γs => ?_ | refine N2 ?_ | refine N3 ?_ | refine N1 ?_ | simp (disch := omega) only [LG]); ((conv => whnf); repeat ((first | refine Sw.o ?_ | refine B0 ?_); conv => whnf))))
        exact .intro <| W.of ⟨_, by omega, _, _, _, _, i + 1, t, by omega, rfl, ht, hO, rfl, rfl⟩ ⟨rfl, rfl, rfl, rfl, rfl, rfl, trivial⟩ ⟨rfl, rfl, rfl, rfl, trivial⟩
    · (have h2 := h; try simp only [LN] at h2)
      rw [List.drop_eq_nil_of_le (by omega)] at hO
      simp only [ofF] at hO
      subst hO
      (repeat ((first | refine N0 ?_ | refine A0 fun γ => ?_ | refine C1 ?_ | refine C2 ?_ | refine C3 ?_ | refine C4 ?_ | refine C5 ?_ | refine C6 ?_ | refine C7 ?_ | refine D0 fun γs => ?_ | refine A1 fun γs => ?_ | refine N2 ?_ | refine N3 ?_ | refine N1 ?_); ((conv => whnf); repeat ((first | refine Sw.o ?_ | refine B0 ?_); conv => whnf))))
      simp only [List.length_map, Int.toNat_natCast, rep_encB]
      refine LoopP.intro (fun k σ H => ∃ p1 p4 p6 p9 p10 p11 p26 p44 p48 i, ∃ s : List Bool, i ≤ t.length ∧ k = t.length - i ∧ s.length = g.eqs.length ∧ overA g m i (t.drop i) s = R.1 ∧
        σ = fr [(1, .op 1 p1 0 0), (4, .op 4 p4 0 0), (6, .op 6 p6 0 0), (9, .op 9 p9 0 0), (10, .op 10 p10 0 0), (11, .op 11 p11 0 0), (50, .own 26 p26 0 g.eqs.length), (51, encI t.length), (52, encI i)] ∧
        H = hp [(44, p44, ⟨4, 1, s.map encB⟩), (9, p9, ⟨54, 1, [.own 44 p44 0 g.eqs.length]⟩), (1, p1, ⟨26, 3, [encG g]⟩), (11, p11, ⟨92, 1, [.fn (.func 71) [] [.op 9 p9 0 0, .op 1 p1 0 0, .op 11 p11 0 0, .op 4 p4 0 0]]⟩), (4, p4, ⟨63, 1, [encL m]⟩),
          (26, p26, ⟨3, 1, t.map encI⟩), (6, p6, ⟨29, 1, [.own 26 p26 0 g.eqs.length]⟩), (10, p10, ⟨54, 1, [.own 48 p48 0 g.uses.length]⟩), (48, p48, ⟨4, 1, (List.replicate g.uses.length false).map encB⟩)]) ?_ ?_
      · exact .intro <| W.of ⟨_, _, _, _, _, _, _, _, _, _, 0, _, Nat.zero_le _, rfl, by simp, by rw [← hR]; rfl, rfl, rfl⟩ ⟨rfl, rfl, rfl, rfl, rfl, rfl, rfl, by rw [ht]; rfl, rfl, trivial⟩ ⟨rfl, rfl, rfl, rfl, rfl, rfl, rfl, rfl, rfl, trivial⟩
      · rintro k σ H ⟨p1, p4, p6, p9, p10, p11, p26, p44, p48, i, s, hi, rfl, hs, hO, rfl, rfl⟩
        ((conv => whnf); repeat ((first | refine Sw.o ?_ | refine B0 ?_); conv => whnf))
        (repeat ((first | refine N0 ?_ | refine A0 fun γ => ?_ | refine C1 ?_ | refine C2 ?_ | refine C3 ?_ | refine C4 ?_ | refine C5 ?_ | refine C6 ?_ | refine C7 ?_ | refine D0 fun γs => ?_ | refine A1 fun γs => ?_ | refine N2 ?_ | refine N3 ?_ | refine N1 ?_); ((conv => whnf); repeat ((first | refine Sw.o ?_ | refine B0 ?_); conv => whnf))))
        refine CondP.dec (fun h => ?_) (fun h => ?_) <;> ((conv => whnf); repeat ((first | refine Sw.o ?_ | refine B0 ?_); conv => whnf))
        · (have h2 := h; try simp only [LN] at h2)
          have hi' : i < t.length := by omega
          have hSi := hS0 i hi'
          rw [List.drop_eq_getElem_cons hi'] at hO
          unfold overA at hO
          (repeat ((first | refine N0 ?_ | refine A0 fun γ => ?_ | refine C1 ?_ | refine C2 ?_ | refine C3 ?_ | refine C4 ?_ | refine C5 ?_ | refine C6 ?_ | refine C7 ?_ | refine D0 fun γs => ?_ | refine A1 fun γs => ?_ | refine N2 ?_ | refine N3 ?_ | refine N1 ?_); ((conv => whnf); repeat ((first | refine Sw.o ?_ | refine B0 ?_); conv => whnf))))
          (simp (disch := omega) only [LG]; ((conv => whnf); repeat ((first | refine Sw.o ?_ | refine B0 ?_); conv => whnf)))
          generalize t[i] = u at hSi hO ⊢
          (repeat ((first | refine N0 ?_ | refine A0 fun γ => ?_ | refine C1 ?_ | refine C2 ?_ | refine C3 ?_ | refine C4 ?_ | refine C5 ?_ | refine C6 ?_ | refine C7 ?_ | refine D0 fun γs => ?_ | refine A1 fun γs => ?_ | refine N2 ?_ | refine N3 ?_ | refine N1 ?_); ((conv => whnf); repeat ((first | refine Sw.o ?_ | refine B0 ?_); conv => whnf))))
          refine CondP.dec (fun hd => ?_) (fun hd => ?_) <;> ((conv => whnf); repeat ((first | refine Sw.o ?_ | refine B0 ?_); conv => whnf))
          · rw [decide_eq_true hd] at hO
            simp only at hO
            have hq := overF_ok hS (g.eqs.length + 1) i s (hSi hd) hs
            (repeat ((first | refine N0 ?_ | refine A0 fun γ => ?_ | refine C1 ?_ | refine C2 ?_ | refine C3 ?_ | refine C4 ?_ | refine C5 ?_ | refine C6 ?_ | refine C7 ?_ | refine D0 fun γs => ?_ | refine A1 fun γs => ?_ | refine N2 ?_ | refine N3 ?_ | refine N1 ?_); ((conv => whnf); repeat ((first | refine Sw.o ?_ | refine B0 ?_); conv => whnf))))
            refine CallP.frame 1000000 [(244, 44), (209, 9), (201, 1), (211, 11), (204, 4)] rfl c71 (over_ok g hg m lm hS (g.eqs.length + 1) i s p44 p9 p1 p11 p4 (hSi hd) hs (by have := unseen_le s; omega)) rfl ⟨mvB_flats encB _ (fun _ => rfl) .., rfl, rfl, rfl, rfl, trivial⟩ ?_
            rintro r0 h' ⟨rfl, rfl⟩
            generalize overF g m (g.eqs.length + 1) i s = s' at hO hq
            refine ⟨[(44, p44, ⟨4, 1, s'.map encB⟩), (9, p9, ⟨54, 1, [.own 44 p44 0 g.eqs.length]⟩), (1, p1, ⟨26, 3, [encG g]⟩), (11, p11, ⟨92, 1, [.fn (.func 71) [] [.op 9 p9 0 0, .op 1 p1 0 0, .op 11 p11 0 0, .op 4 p4 0 0]]⟩), (4, p4, ⟨63, 1, [encL m]⟩),
              (26, p26, ⟨3, 1, t.map encI⟩), (6, p6, ⟨29, 1, [.own 26 p26 0 g.eqs.length]⟩), (10, p10, ⟨54, 1, [.own 48 p48 0 g.uses.length]⟩), (48, p48, ⟨4, 1, (List.replicate g.uses.length false).map encB⟩)],
              ⟨mvB_flats encB _ (fun _ => rfl) .., rfl, rfl, rfl, rfl, rfl, rfl, rfl, rfl, trivial⟩, ?_⟩
            ((conv => whnf); repeat ((first | refine Sw.o ?_ | refine B0 ?_); conv => whnf))
            (repeat ((first | refine N0 ?_ | refine A0 fun γ => ?_ | refine C1 ?_ | refine C2 ?_ | refine C3 ?_ | refine C4 ?_ | refine C5 ?_ | refine C6 ?_ | refine C7 ?_ | refine D0 fun γs => ?_ | refine A1 fun γs => ?_ | refine N2 ?_ | refine N3 ?_ | refine N1 ?_); ((conv => whnf); repeat ((first | refine Sw.o ?_ | refine B0 ?_); conv => whnf))))
            exact .intro <| W.of ⟨_, by omega, _, _, _, _, _, _, _, _, _, i + 1, s', by omega, rfl, hq.1, hO, rfl, rfl⟩ ⟨rfl, rfl, rfl, rfl, rfl, rfl, rfl, rfl, rfl, trivial⟩ ⟨rfl, rfl, rfl, rfl, rfl, rfl, rfl, rfl, rfl, trivial⟩
          · rw [decide_eq_false hd] at hO
            (repeat ((first | refine N0 ?_ | refine A0 fun γ => ?_ | refine C1 ?_ | refine C2 ?_ | refine C3 ?_ | refine C4 ?_ | refine C5 ?_ | refine C6 ?_ | refine C7 ?_ | refine D0 fun γs => ?_ | refine A1 fun γs => ?_ | refine N2 ?_ | refine N3 ?_ | refine N1 ?_); ((conv => whnf); repeat ((first | refine Sw.o ?_ | refine B0 ?_); conv => whnf))))
            exact .intro <| W.of ⟨_, by omega, _, _, _, _, _, _, _, _, _, i + 1, s, by omega, rfl, hs, hO, rfl, rfl⟩ ⟨rfl, rfl, rfl, rfl, rfl, rfl, rfl, rfl, rfl, trivial⟩ ⟨rfl, rfl, rfl, rfl, rfl, rfl, rfl, rfl, rfl, trivial⟩
        · (have h2 := h; try simp only [LN] at h2)
          rw [List.drop_eq_nil_of_le (by omega)] at hO
          simp only [overA] at hO
          subst hO
          (repeat ((first | refine N0 ?_ | refine A0 fun γ => ?_ | refine C1 ?_ | refine C2 ?_ | refine C3 ?_ | refine C4 ?_ | refine C5 ?_ | refine C6 ?_ | refine C7 ?_ | refine D0 fun γs => ?_ | refine A1 fun γs => ?_ | refine N2 ?_ | refine N3 ?_ | refine N1 ?_); ((conv => whnf); repeat ((first | refine Sw.o ?_ | refine B0 ?_); conv => whnf))))
          refine LoopP.intro (fun k σ H => ∃ p1 p6 p9 p10 p14 p26 p44 p48 i, ∃ s : List Bool, i ≤ m.length ∧ k = m.length - i ∧ s.length = g.uses.length ∧ underA g t i (m.drop i) s = R.2 ∧
            σ = fr [(1, .op 1 p1 0 0), (6, .op 6 p6 0 0), (9, .op 9 p9 0 0), (10, .op 10 p10 0 0), (14, .op 14 p14 0 0), (64, encL m), (65, encI m.length), (66, encI i)] ∧
            H = hp [(48, p48, ⟨4, 1, s.map encB⟩), (10, p10, ⟨54, 1, [.own 48 p48 0 g.uses.length]⟩), (1, p1, ⟨26, 3, [encG g]⟩), (14, p14, ⟨92, 1, [.fn (.func 72) [] [.op 10 p10 0 0, .op 1 p1 0 0, .op 14 p14 0 0, .op 6 p6 0 0]]⟩), (6, p6, ⟨29, 1, [.own 26 p26 0 g.eqs.length]⟩), (26, p26, ⟨3, 1, t.map encI⟩), (44, p44, ⟨4, 1, R.1.map encB⟩), (9, p9, ⟨54, 1, [.own 44 p44 0 g.eqs.length]⟩)]) ?_ ?_
          · exact .intro <| W.of ⟨_, _, _, _, _, _, _, _, _, 0, _, Nat.zero_le _, rfl, by simp, by rw [← hR]; rfl, rfl, rfl⟩ ⟨rfl, rfl, rfl, rfl, rfl, rfl, by simp; rfl, rfl, trivial⟩ ⟨rfl, rfl, rfl, rfl, rfl, rfl, rfl, rfl, trivial⟩
          · rintro k σ H ⟨p1, p6, p9, p10, p14, p26, p44, p48, i, s, hi, rfl, hs', hO, rfl, rfl⟩
            ((conv => whnf); repeat ((first | refine Sw.o ?_ | refine B0 ?_); conv => whnf))
            (repeat ((first | refine N0 ?_ | refine A0 fun γ => ?_ | refine C1 ?_ | refine C2 ?_ | refine C3 ?_ | refine C4 ?_ | refine C5 ?_ | refine C6 ?_ | refine C7 ?_ | refine D0 fun γs => ?_ | refine A1 fun γs => ?_ | refine N2 ?_ | refine N3 ?_ | refine N1 ?_); ((conv => whnf); repeat ((first | refine Sw.o ?_ | refine B0 ?_); conv => whnf))))
            refine CondP.dec (fun h => ?_) (fun h => ?_) <;> ((conv => whnf); repeat ((first | refine Sw.o ?_ | refine B0 ?_); conv => whnf))
            · (have h2 := h; try simp only [LN] at h2)
              have hi' : i < m.length := by omega
              have hSi := hS0' i hi'
              rw [List.drop_eq_getElem_cons hi'] at hO
              unfold underA at hO
              (repeat ((first | refine N0 ?_ | refine A0 fun γ => ?_ | refine C1 ?_ | refine C2 ?_ | refine C3 ?_ | refine C4 ?_ | refine C5 ?_ | refine C6 ?_ | refine C7 ?_ | refine D0 fun γs => ?_ | refine A1 fun γs => ?_ | refine N2 ?_ | refine N3 ?_ | refine N1 ?_); ((conv => whnf); repeat ((first | refine Sw.o ?_ | refine B0 ?_); conv => whnf))))
              (simp (disch := omega) only [LG]; ((conv => whnf); repeat ((first | refine Sw.o ?_ | refine B0 ?_); conv => whnf)))
              generalize m[i] = e at hSi hO ⊢
              (repeat ((first | refine N0 ?_ | refine A0 fun γ => ?_ | refine C1 ?_ | refine C2 ?_ | refine C3 ?_ | refine C4 ?_ | refine C5 ?_ | refine C6 ?_ | refine C7 ?_ | refine D0 fun γs => ?_ | refine A1 fun γs => ?_ | refine N2 ?_ | refine N3 ?_ | refine N1 ?_); ((conv => whnf); repeat ((first | refine Sw.o ?_ | refine B0 ?_); conv => whnf))))
              refine CondP.dec (fun hd => ?_) (fun hd => ?_) <;> ((conv => whnf); repeat ((first | refine Sw.o ?_ | refine B0 ?_); conv => whnf))
              · rw [decide_eq_true hd] at hO
                simp only at hO
                have hq := underF_ok hS' (g.uses.length + 1) i s (hSi hd) hs'
                (repeat ((first | refine N0 ?_ | refine A0 fun γ => ?_ | refine C1 ?_ | refine C2 ?_ | refine C3 ?_ | refine C4 ?_ | refine C5 ?_ | refine C6 ?_ | refine C7 ?_ | refine D0 fun γs => ?_ | refine A1 fun γs => ?_ | refine N2 ?_ | refine N3 ?_ | refine N1 ?_); ((conv => whnf); repeat ((first | refine Sw.o ?_ | refine B0 ?_); conv => whnf))))
                refine CallP.frame 1000000 [(248, 48), (210, 10), (201, 1), (214, 14), (206, 6), (226, 26)] rfl c72 (under72_ok g hg t ht hS' (g.uses.length + 1) i s p48 p10 p1 p14 p6 p26 (hSi hd) hs' (by have := unseen_le s; omega)) rfl ⟨mvB_flats encB _ (fun _ => rfl) .., rfl, rfl, rfl, rfl, mvB_flats encI _ (fun _ => rfl) .., trivial⟩ ?_
                rintro r0 h' ⟨rfl, rfl⟩
                generalize underF g t (g.uses.length + 1) i s = s' at hO hq
                refine ⟨[(48, p48, ⟨4, 1, s'.map encB⟩), (10, p10, ⟨54, 1, [.own 48 p48 0 g.uses.length]⟩), (1, p1, ⟨26, 3, [encG g]⟩), (14, p14, ⟨92, 1, [.fn (.func 72) [] [.op 10 p10 0 0, .op 1 p1 0 0, .op 14 p14 0 0, .op 6 p6 0 0]]⟩), (6, p6, ⟨29, 1, [.own 26 p26 0 g.eqs.length]⟩), (26, p26, ⟨3, 1, t.map encI⟩), (44, p44, ⟨4, 1, R.1.map encB⟩), (9, p9, ⟨54, 1, [.own 44 p44 0 g.eqs.length]⟩)], ⟨mvB_flats encB _ (fun _ => rfl) .., rfl, rfl, rfl, rfl, mvB_flats encI _ (fun _ => rfl) .., rfl, rfl, trivial⟩, ?_⟩
                ((conv => whnf); repeat ((first | refine Sw.o ?_ | refine B0 ?_); conv => whnf))
                (repeat ((first | refine N0 ?_ | refine A0 fun γ => ?_ | refine C1 ?_ | refine C2 ?_ | refine C3 ?_ | refine C4 ?_ | refine C5 ?_ | refine C6 ?_ | refine C7 ?_ | refine D0 fun γs => ?_ | refine A1 fun γs => ?_ | refine N2 ?_ | refine N3 ?_ | refine N1 ?_); ((conv => whnf); repeat ((first | refine Sw.o ?_ | refine B0 ?_); conv => whnf))))
                exact .intro <| W.of ⟨_, by omega, _, _, _, _, _, _, _, _, i + 1, s', by omega, rfl, hq.1, hO, rfl, rfl⟩ ⟨rfl, rfl, rfl, rfl, rfl, rfl, rfl, rfl, trivial⟩ ⟨rfl, rfl, rfl, rfl, rfl, rfl, rfl, rfl, trivial⟩
              · rw [decide_eq_false hd] at hO
                (repeat ((first | refine N0 ?_ | refine A0 fun γ => ?_ | refine C1 ?_ | refine C2 ?_ | refine C3 ?_ | refine C4 ?_ | refine C5 ?_ | refine C6 ?_ | refine C7 ?_ | refine D0 fun γs => ?_ | refine A1 fun γs => ?_ | refine N2 ?_ | refine N3 ?_ | refine N1 ?_); ((conv => whnf); repeat ((first | refine Sw.o ?_ | refine B0 ?_); conv => whnf))))
                exact .intro <| W.of ⟨_, by omega, _, _, _, _, _, _, _, _, i + 1, s, by omega, rfl, hs', hO, rfl, rfl⟩ ⟨rfl, rfl, rfl, rfl, rfl, rfl, rfl, rfl, trivial⟩ ⟨rfl, rfl, rfl, rfl, rfl, rfl, rfl, rfl, trivial⟩
            · (have h2 := h; try simp only [LN] at h2)
              rw [List.drop_eq_nil_of_le (by omega)] at hO
              simp only [underA] at hO
              subst hO
              (repeat ((first | refine N0 ?_ | refine A0 fun γ => ?_ | refine C1 ?_ | refine C2 ?_ | refine C3 ?_ | refine C4 ?_ | refine C5 ?_ | refine C6 ?_ | refine C7 ?_ | refine D0 fun γs => ?_ | refine A1 fun γs => ?_ | refine N2 ?_ | refine N3 ?_ | refine N1 ?_); ((conv => whnf); repeat ((first | refine Sw.o ?_ | refine B0 ?_); conv => whnf))))
              refine EndH.of (m := [(44, p44, ⟨4, 1, R.1.map encB⟩), (48, p48, ⟨4, 1, R.2.map encB⟩)]) ⟨rfl, rfl, trivial⟩ ⟨_, _, ?_, rfl⟩
              rw [hs, hs']; rfl
set_option maxHeartbeats 4000000 in
set_option maxRecDepth 100000 in
theorem spareO_ok (g : G) (hg : WF g) : HCall Try.prog 52 [encG g] (hp []) (Gives2 24 28 (spareF g).1 (spareF g).2) := by
  refine hcall_cp (E := E 0) T_ok (D_ok 0) Try.func52 rfl (by rfl) (Nat.le_of_ble_eq_true rfl) ?_
  have su := hg.su
  have se := hg.se
  have lf := fe_len g
  have lu := fu_len g
  ((conv => whnf); repeat ((first | refine Sw.o ?_ | refine B0 ?_); conv => whnf))
  (repeat ((first | refine N0 ?_ | refine A0 fun γ => ?_ | refine C1 ?_ | refine C2 ?_ | refine C3 ?_ | refine C4 ?_ | refine C5 ?_ | refine C6 ?_ | refine C7 ?_ | refine D0 fun γs => ?_ | refine A1 fun γs => ?_ | refine N2 ?_ | refine N3 ?_ | refine N1 ?_); ((conv => whnf); repeat ((first | refine Sw.o ?_ | refine B0 ?_); conv => whnf))))
  refine CallP.flat [] (encI (SizeF g)) c40 (Size_ok g hg) rfl ?_
  ((conv => whnf); repeat ((first | refine Sw.o ?_ | refine B0 ?_); conv => whnf))
  (repeat ((first | refine N0 ?_ | refine A0 fun γ => ?_ | refine C1 ?_ | refine C2 ?_ | refine C3 ?_ | refine C4 ?_ | refine C5 ?_ | refine C6 ?_ | refine C7 ?_ | refine D0 fun γs => ?_ | refine A1 fun γs => ?_ | refine N2 ?_ | refine N3 ?_ | refine N1 ?_); ((conv => whnf); repeat ((first | refine Sw.o ?_ | refine B0 ?_); conv => whnf))))
  simp only [List.length_map, Int.toNat_natCast, rep_encB]
  refine LoopP.intro (fun k σ H => ∃ p1 p16 p20 p24 p28 i, ∃ xs : List Bool, i ≤ g.eqs.length ∧ k = g.eqs.length - i ∧ xs.length = g.eqs.length ∧ (∀ j, j < i → xs.getD j false = (spareF g).1.getD j false) ∧
    σ = fr [(1, .op 1 p1 0 0), (4, encI (SizeF g)), (5, .own 16 p16 0 g.eqs.length), (6, .own 20 p20 0 g.uses.length), (7, .own 24 p24 0 g.eqs.length), (8, .own 28 p28 0 g.uses.length), (9, encI i)] ∧
    H = hp [(1, p1, ⟨26, 3, [encG g]⟩), (16, p16, ⟨4, 1, (fe g).map encB⟩), (20, p20, ⟨4, 1, (fu g).map encB⟩), (24, p24, ⟨4, 1, xs.map encB⟩), (28, p28, ⟨4, 1, (fu g).map encB⟩)]) ?_ ?_
  · exact .intro <| W.of ⟨_, _, _, _, _, _, 0, fe g, Nat.zero_le _, rfl, lf, fun j h => absurd h (by omega), rfl, rfl⟩ ⟨rfl, rfl, rfl, rfl, rfl, rfl, rfl, trivial⟩ ⟨rfl, by unfold fe; rw [← rep_encB]; rfl, by unfold fu; rw [← rep_encB]; rfl, by unfold fe; rw [← rep_encB]; rfl, by unfold fu; rw [← rep_encB]; rfl, trivial⟩
  · rintro k σ H ⟨p1, p16, p20, p24, p28, i, xs, hi, rfl, hxl, hx, rfl, rfl⟩
    have hl1 : ((fe g).map encB).length = g.eqs.length := by simpa using lf
    have hl2 : (xs.map encB).length = g.eqs.length := by simpa using hxl
    ((conv => whnf); repeat ((first | refine Sw.o ?_ | refine B0 ?_); conv => whnf))
    (repeat ((first | refine N0 ?_ | refine A0 fun γ => ?_ | refine C1 ?_ | refine C2 ?_ | refine C3 ?_ | refine C4 ?_ | refine C5 ?_ | refine C6 ?_ | refine C7 ?_ | refine D0 fun γs => ?_ | refine A1 fun γs => ?_ | refine N2 ?_ | refine N3 ?_ | refine N1 ?_); ((conv => whnf); repeat ((first | refine Sw.o ?_ | refine B0 ?_); conv => whnf))))
    refine CondP.dec (fun h => ?_) (fun h => ?_) <;> ((conv => whnf); repeat ((first | refine Sw.o ?_ | refine B0 ?_); conv => whnf))
    · (have h2 := h; try simp only [LN] at h2)
      have hi' : i < g.eqs.length := by omega
      (repeat ((first | refine N0 ?_ | refine A0 fun γ => ?_ | refine C1 ?_ | refine C2 ?_ | refine C3 ?_ | refine C4 ?_ | refine C5 ?_ | refine C6 ?_ | refine C7 ?_ | refine D0 fun γs => ?_ | refine A1 fun γs => ?_ | refine N2 ?_ | refine N3 ?_ | refine N1 ?_ | simp (disch := omega) only [LG]); ((conv => whnf); repeat ((first | refine Sw.o ?_ | refine B0 ?_); conv => whnf))))
      refine CallP.flat [16, 20] (encI (sizeF g ((fe g).set i true) (fu g))) c38 (pure_args ?_ (size_ok g hg ((fe g).set i true) (fu g) (by simp [lf]) lu)) rfl ?_
      · show [encG g, snap [16, 20] _ (.own 16 _ 0 g.eqs.length), snap [16, 20] _ (.own 20 _ 0 g.uses.length)] = _
        rw [snap_own (B := ⟨4, 1, ((fe g).set i true).map encB⟩) (by simp) (by rw [← set_map (x := true) (h := rfl)]; rfl) (by simp [lf]), snap_own (B := ⟨4, 1, (fu g).map encB⟩) (by simp) rfl (by simp [lu]),
          snap_list _ _ _ _ (by simp [lf]) (fun _ => rfl), snap_list _ _ _ _ (by simp [lu]) (fun _ => rfl)]
        rfl
      have hb : decide (sizeF g ((fe g).set i true) (fu g) = SizeF g) = spareE g i := rfl
      have hs1 : (List.map encB (fe g)).set i (AV.val (Value.bool true)) = ((fe g).set i true).map encB := by rw [← set_map (x := true) (h := rfl)]; rfl
      have hl3 : (((fe g).set i true).map encB).length = g.eqs.length := by simp [lf]
      have hl4 : ((fe g).set i true).length = g.eqs.length := by simp [lf]
      simp only [hs1]
      ((conv => whnf); repeat ((first | refine Sw.o ?_ | refine B0 ?_); conv => whnf))
      (repeat ((first | refine N0 ?_ | refine A0 fun γ => ?_ | refine C1 ?_ | refine C2 ?_ | refine C3 ?_ | refine C4 ?_ | refine C5 ?_ | refine C6 ?_ | refine C7 ?_ | refine D0 fun γs => ?_ | refine A1 fun γs => ?_ | refine N2 ?_ | refine N3 ?_ | refine N1 ?_ | simp (disch := omega) only [LG]); ((conv => whnf); repeat ((first | refine Sw.o ?_ | refine B0 ?_); conv => whnf))))
      refine .intro <| W.of ⟨_, by omega, _, _, _, _, _, i + 1, xs.set i (spareE g i), by omega, rfl, by simpa using hxl, ?_, rfl, rfl⟩ ⟨rfl, rfl, rfl, rfl, rfl, rfl, rfl, trivial⟩ ⟨rfl, ?_, rfl, ?_, rfl, trivial⟩
      · intro j hj
        rw [getD_set]
        split
        · rename_i e; rw [← e.1, spareF_1 g i hi']
        · rename_i e; exact hx j (by omega)
      · show some (_, (⟨4, 1, (List.map encB ((fe g).set i true)).set i (encB false)⟩ : Blk)) = _
        rw [set_map (x := false) (h := rfl), fe_back]
      · rw [← set_map (x := spareE g i) (h := rfl)]; rfl
    · (have h2 := h; try simp only [LN] at h2)
      have hE : xs = (spareF g).1 := ext_getD (d := false) (hxl.trans (by simp [spareF])) (fun j hj => hx j (by omega))
      subst hE
      (repeat ((first | refine N0 ?_ | refine A0 fun γ => ?_ | refine C1 ?_ | refine C2 ?_ | refine C3 ?_ | refine C4 ?_ | refine C5 ?_ | refine C6 ?_ | refine C7 ?_ | refine D0 fun γs => ?_ | refine A1 fun γs => ?_ | refine N2 ?_ | refine N3 ?_ | refine N1 ?_); ((conv => whnf); repeat ((first | refine Sw.o ?_ | refine B0 ?_); conv => whnf))))
      refine LoopP.intro (fun k σ H => ∃ p1 p16 p20 p24 p28 i, ∃ xs : List Bool, i ≤ g.uses.length ∧ k = g.uses.length - i ∧ xs.length = g.uses.length ∧ (∀ j, j < i → xs.getD j false = (spareF g).2.getD j false) ∧
        σ = fr [(1, .op 1 p1 0 0), (4, encI (SizeF g)), (5, .own 16 p16 0 g.eqs.length), (6, .own 20 p20 0 g.uses.length), (7, .own 24 p24 0 g.eqs.length), (8, .own 28 p28 0 g.uses.length), (10, encI i)] ∧
        H = hp [(1, p1, ⟨26, 3, [encG g]⟩), (16, p16, ⟨4, 1, (fe g).map encB⟩), (20, p20, ⟨4, 1, (fu g).map encB⟩), (24, p24, ⟨4, 1, (spareF g).1.map encB⟩), (28, p28, ⟨4, 1, xs.map encB⟩)]) ?_ ?_
      · exact .intro <| W.of ⟨_, _, _, _, _, _, 0, fu g, Nat.zero_le _, rfl, lu, fun j h => absurd h (by omega), rfl, rfl⟩ ⟨rfl, rfl, rfl, rfl, rfl, rfl, rfl, trivial⟩ ⟨rfl, rfl, rfl, rfl, rfl, trivial⟩
      · rintro k σ H ⟨p1, p16, p20, p24, p28, i, xs, hi, rfl, hxl', hx, rfl, rfl⟩
        have hl1 : ((fu g).map encB).length = g.uses.length := by simpa using lu
        have hl2 : (xs.map encB).length = g.uses.length := by simpa using hxl'
        ((conv => whnf); repeat ((first | refine Sw.o ?_ | refine B0 ?_); conv => whnf))
        (repeat ((first | refine N0 ?_ | refine A0 fun γ => ?_ | refine C1 ?_ | refine C2 ?_ | refine C3 ?_ | refine C4 ?_ | refine C5 ?_ | refine C6 ?_ | refine C7 ?_ | refine D0 fun γs => ?_ | refine A1 fun γs => ?_ | refine N2 ?_ | refine N3 ?_ | refine N1 ?_); ((conv => whnf); repeat ((first | refine Sw.o ?_ | refine B0 ?_); conv => whnf))))
        refine CondP.dec (fun h => ?_) (fun h => ?_) <;> ((conv => whnf); repeat ((first | refine Sw.o ?_ | refine B0 ?_); conv => whnf))
        · (have h2 := h; try simp only [LN] at h2)
          have hi' : i < g.uses.length := by omega
          (repeat ((first | refine N0 ?_ | refine A0 fun γ => ?_ | refine C1 ?_ | refine C2 ?_ | refine C3 ?_ | refine C4 ?_ | refine C5 ?_ | refine C6 ?_ | refine C7 ?_ | refine D0 fun γs => ?_ | refine A1 fun γs => ?_ | refine N2 ?_ | refine N3 ?_ | refine N1 ?_ | simp (disch := omega) only [LG]); ((conv => whnf); repeat ((first | refine Sw.o ?_ | refine B0 ?_); conv => whnf))))
          refine CallP.flat [16, 20] (encI (sizeF g (fe g) ((fu g).set i true))) c38 (pure_args ?_ (size_ok g hg (fe g) ((fu g).set i true) lf (by simp [lu]))) rfl ?_
          · show [encG g, snap [16, 20] _ (.own 16 _ 0 g.eqs.length), snap [16, 20] _ (.own 20 _ 0 g.uses.length)] = _
            rw [snap_own (B := ⟨4, 1, (fe g).map encB⟩) (by simp) rfl (by simp [lf]), snap_own (B := ⟨4, 1, ((fu g).set i true).map encB⟩) (by simp) (by rw [← set_map (x := true) (h := rfl)]; rfl) (by simp [lu]),
              snap_list _ _ _ _ (by simp [lf]) (fun _ => rfl), snap_list _ _ _ _ (by simp [lu]) (fun _ => rfl)]
            rfl
          have hs1 : (List.map encB (fu g)).set i (AV.val (Value.bool true)) = ((fu g).set i true).map encB := by rw [← set_map (x := true) (h := rfl)]; rfl
          have hl3 : (((fu g).set i true).map encB).length = g.uses.length := by simp [lu]
          have hl4 : ((fu g).set i true).length = g.uses.length := by simp [lu]
          simp only [hs1]
          ((conv => whnf); repeat ((first | refine Sw.o ?_ | refine B0 ?_); conv => whnf))
          (repeat ((first | refine N0 ?_ | refine A0 fun γ => ?_ | refine C1 ?_ | refine C2 ?_ | refine C3 ?_ | refine C4 ?_ | refine C5 ?_ | refine C6 ?_ | refine C7 ?_ | refine D0 fun γs => ?_ | refine A1 fun γs => ?_ | refine N2 ?_ | refine N3 ?_ | refine N1 ?_ | simp (disch := omega) only [LG]); ((conv => whnf); repeat ((first | refine Sw.o ?_ | refine B0 ?_); conv => whnf))))
          refine .intro <| W.of ⟨_, by omega, _, _, _, _, _, i + 1, xs.set i (spareU g i), by omega, rfl, by simpa using hxl', ?_, rfl, rfl⟩ ⟨rfl, rfl, rfl, rfl, rfl, rfl, rfl, trivial⟩ ⟨rfl, rfl, ?_, rfl, ?_, trivial⟩
          · intro j hj
            rw [getD_set]
            split
            · rename_i e; rw [← e.1, spareF_2 g i hi']
            · rename_i e; exact hx j (by omega)
          · show some (_, (⟨4, 1, (List.map encB ((fu g).set i true)).set i (encB false)⟩ : Blk)) = _
            rw [set_map (x := false) (h := rfl), fu_back]
          · rw [← set_map (x := spareU g i) (h := rfl)]; rfl
        · (have h2 := h; try simp only [LN] at h2)
          have hU : xs = (spareF g).2 := ext_getD (d := false) (hxl'.trans (by simp [spareF])) (fun j hj => hx j (by omega))
          subst hU
          (repeat ((first | refine N0 ?_ | refine A0 fun γ => ?_ | refine C1 ?_ | refine C2 ?_ | refine C3 ?_ | refine C4 ?_ | refine C5 ?_ | refine C6 ?_ | refine C7 ?_ | refine D0 fun γs => ?_ | refine A1 fun γs => ?_ | refine N2 ?_ | refine N3 ?_ | refine N1 ?_); ((conv => whnf); repeat ((first | refine Sw.o ?_ | refine B0 ?_); conv => whnf))))
          refine EndH.of (m := [(24, p24, ⟨4, 1, (spareF g).1.map encB⟩), (28, p28, ⟨4, 1, (spareF g).2.map encB⟩)]) ⟨rfl, rfl, trivial⟩ ⟨_, _, ?_, rfl⟩
          rw [hxl, hxl']; rfl
set_option maxRecDepth 100000 in
theorem onlyO_ok (g : G) (hg : WF g) (q : Nat) (eqs : List Bool) (he : eqs.length = g.eqs.length) : HCall Try.prog 51 [encG g, .own 100 q 0 eqs.length] (hp [(100, q, ⟨4, 1, eqs.map encB⟩)])
    (fun r h => ∃ γ, r = .agg [.sl 1 (g.eqs.map encS), .sl 3 (g.uses.map encU), .own 11 γ 0 g.joined.length] ∧ h = hp [(11, γ, ⟨29, 1, (onlyJ g.joined eqs).map encL0⟩), (100, q, ⟨4, 1, eqs.map encB⟩)]) := by
  refine hcall_cp (E := E 0) T_ok (D_ok 0) Try.func51 rfl (by rfl) (Nat.le_of_ble_eq_true rfl) ?_
  have se := hg.se
  have hjl := hg.len
  ((conv => whnf); repeat ((first | refine Sw.o ?_ | refine B0 ?_); conv => whnf))
  (repeat ((first | refine N0 ?_ | refine A0 fun γ => ?_ | refine C1 ?_ | refine C2 ?_ | refine C3 ?_ | refine C4 ?_ | refine C5 ?_ | refine C6 ?_ | refine C7 ?_ | refine D0 fun γs => ?_ | refine A1 fun γs => ?_ | refine N2 ?_ | refine N3 ?_ | refine N1 ?_); ((conv => whnf); repeat ((first | refine Sw.o ?_ | refine B0 ?_); conv => whnf))))
  refine CallP.frame 1000000 [(5, 11)] rfl c41 (clone41_ok g.joined (by omega)) rfl trivial ?_
  rintro r0 h' ⟨δ, rfl, rfl⟩
  refine ⟨[(11, δ, ⟨29, 1, (onlyJ g.joined (eqs.take 0)).map encL0⟩), (100, q, ⟨4, 1, eqs.map encB⟩), (2, _, ⟨26, 3, [encG g]⟩), (4, _, ⟨26, 3, _⟩), (5, _, ⟨26, 3, [encG g]⟩)], ⟨?_, rfl, rfl, rfl, rfl, trivial⟩, ?_⟩
  · rw [List.take_zero, onlyJ_start]
    exact mvB_flats encL _ (fun _ => rfl) ..
  ((conv => whnf); repeat ((first | refine Sw.o ?_ | refine B0 ?_); conv => whnf))
  (repeat ((first | refine N0 ?_ | refine A0 fun γ => ?_ | refine C1 ?_ | refine C2 ?_ | refine C3 ?_ | refine C4 ?_ | refine C5 ?_ | refine C6 ?_ | refine C7 ?_ | refine D0 fun γs => ?_ | refine A1 fun γs => ?_ | refine N2 ?_ | refine N3 ?_ | refine N1 ?_); ((conv => whnf); repeat ((first | refine Sw.o ?_ | refine B0 ?_); conv => whnf))))
  simp only [List.length_map]
  refine LoopP.intro (fun k σ H => ∃ p4 p5 p11 i, i ≤ eqs.length ∧ k = eqs.length - i ∧
    σ = fr [(4, .op 4 p4 0 0), (5, .op 5 p5 0 0), (13, .own 100 q 0 eqs.length), (14, encI eqs.length), (15, encI i)] ∧
    H = hp [(11, p11, ⟨29, 1, (onlyJ g.joined (eqs.take i)).map encL0⟩), (100, q, ⟨4, 1, eqs.map encB⟩), (4, p4, ⟨26, 3, [.agg [.val (.slice none 0 0), .val (.slice none 0 0), .val (.slice none 0 0)]]⟩), (5, p5, ⟨26, 3, [.agg [.sl 1 (g.eqs.map encS), .sl 3 (g.uses.map encU), .own 11 p11 0 g.joined.length]]⟩)]) ?_ ?_
  · exact .intro <| W.of ⟨_, _, _, _, 0, Nat.zero_le _, rfl, rfl, rfl⟩ ⟨rfl, rfl, rfl, rfl, rfl, trivial⟩ ⟨rfl, rfl, rfl, rfl, trivial⟩
  · rintro k σ H ⟨p4, p5, p11, i, hi, rfl, rfl, rfl⟩
    have hol : ((onlyJ g.joined (eqs.take i)).map encL0).length = g.joined.length := by rw [List.length_map, onlyJ_len]
    ((conv => whnf); repeat ((first | refine Sw.o ?_ | refine B0 ?_); conv => whnf))
    (repeat ((first | refine N0 ?_ | refine A0 fun γ => ?_ | refine C1 ?_ | refine C2 ?_ | refine C3 ?_ | refine C4 ?_ | refine C5 ?_ | refine C6 ?_ | refine C7 ?_ | refine D0 fun γs => ?_ | refine A1 fun γs => ?_ | refine N2 ?_ | refine N3 ?_ | refine N1 ?_); ((conv => whnf); repeat ((first | refine Sw.o ?_ | refine B0 ?_); conv => whnf))))
    refine CondP.dec (fun h => ?_) (fun h => ?_) <;> ((conv => whnf); repeat ((first | refine Sw.o ?_ | refine B0 ?_); conv => whnf))
    · (have h2 := h; try simp only [LN] at h2)
      have hi' : i < eqs.length := by omega
      have hij : i < g.joined.length := by omega
      have hT := onlyJ_take g.joined eqs i hi' hij
      have hA := onlyJ_at g.joined eqs i hi' hij
      (repeat ((first | refine N0 ?_ | refine A0 fun γ => ?_ | refine C1 ?_ | refine C2 ?_ | refine C3 ?_ | refine C4 ?_ | refine C5 ?_ | refine C6 ?_ | refine C7 ?_ | refine D0 fun γs => ?_ | refine A1 fun γs => ?_ | refine N2 ?_ | refine N3 ?_ | refine N1 ?_); ((conv => whnf); repeat ((first | refine Sw.o ?_ | refine B0 ?_); conv => whnf))))
      (simp (disch := omega) only [LG]; ((conv => whnf); repeat ((first | refine Sw.o ?_ | refine B0 ?_); conv => whnf)))
      generalize eqs[i] = b at hT ⊢
      refine CondP.not ?_
      refine CondP.intro (fun hb => ?_) (fun hb => ?_) <;> ((conv => whnf); repeat ((first | refine Sw.o ?_ | refine B0 ?_); conv => whnf))
      · subst hb
        (repeat ((first | refine N0 ?_ | refine A0 fun γ => ?_ | refine C1 ?_ | refine C2 ?_ | refine C3 ?_ | refine C4 ?_ | refine C5 ?_ | refine C6 ?_ | refine C7 ?_ | refine D0 fun γs => ?_ | refine A1 fun γs => ?_ | refine N2 ?_ | refine N3 ?_ | refine N1 ?_); ((conv => whnf); repeat ((first | refine Sw.o ?_ | refine B0 ?_); conv => whnf))))
        refine .intro <| W.of ⟨_, by omega, _, _, _, i + 1, by omega, rfl, rfl, rfl⟩ ⟨rfl, rfl, rfl, rfl, rfl, trivial⟩ ⟨?_, rfl, rfl, rfl, trivial⟩
        rw [hT, ← hA, List.set_getElem_self]; rfl
      · subst hb
        (repeat ((first | refine N0 ?_ | refine A0 fun γ => ?_ | refine C1 ?_ | refine C2 ?_ | refine C3 ?_ | refine C4 ?_ | refine C5 ?_ | refine C6 ?_ | refine C7 ?_ | refine D0 fun γs => ?_ | refine A1 fun γs => ?_ | refine N2 ?_ | refine N3 ?_ | refine N1 ?_); ((conv => whnf); repeat ((first | refine Sw.o ?_ | refine B0 ?_); conv => whnf))))
        have hg0 : ((onlyJ g.joined (eqs.take i)).map encL0).getD i .dead = encL g.joined[i] := by
          rw [getD_map _ _ _ (by rw [onlyJ_len]; exact hij), hA]; rfl
        simp only [Int.toNat_natCast, Nat.zero_add, hg0]
        ((conv => whnf); repeat ((first | refine Sw.o ?_ | refine B0 ?_); conv => whnf))
        (repeat ((first | refine N0 ?_ | refine A0 fun γ => ?_ | refine C1 ?_ | refine C2 ?_ | refine C3 ?_ | refine C4 ?_ | refine C5 ?_ | refine C6 ?_ | refine C7 ?_ | refine D0 fun γs => ?_ | refine A1 fun γs => ?_ | refine N2 ?_ | refine N3 ?_ | refine N1 ?_); ((conv => whnf); repeat ((first | refine Sw.o ?_ | refine B0 ?_); conv => whnf))))
        refine .intro <| W.of ⟨_, by omega, _, _, _, i + 1, by omega, rfl, rfl, rfl⟩ ⟨rfl, rfl, rfl, rfl, rfl, trivial⟩ ⟨?_, rfl, rfl, rfl, trivial⟩
        rw [hT, ← set_map (h := rfl)]; rfl
    · (have h2 := h; try simp only [LN] at h2)
      have : i = eqs.length := by omega
      subst this
      (repeat ((first | refine N0 ?_ | refine A0 fun γ => ?_ | refine C1 ?_ | refine C2 ?_ | refine C3 ?_ | refine C4 ?_ | refine C5 ?_ | refine C6 ?_ | refine C7 ?_ | refine D0 fun γs => ?_ | refine A1 fun γs => ?_ | refine N2 ?_ | refine N3 ?_ | refine N1 ?_); ((conv => whnf); repeat ((first | refine Sw.o ?_ | refine B0 ?_); conv => whnf))))
      refine EndH.of (m := [(11, p11, ⟨29, 1, (onlyJ g.joined eqs).map encL0⟩), (100, q, ⟨4, 1, eqs.map encB⟩)]) ⟨?_, rfl, trivial⟩ ⟨_, rfl, rfl⟩
      rw [List.take_length]; rfl
end Go.Proofs.Ytgeeklnokblokaa
namespace Go.Proofs.Ytgeeklnokblokaa
open Go Go.Fw
theorem orAt_false (xs : List Bool) (u : Int) : orAt false xs u = xs := by
  unfold orAt
  refine ext_getD (d := false) (by simp) fun j hj => ?_
  rw [getD_set]
  split
  · rename_i e; rw [← e.1]; simp
  · rfl
theorem foldl_orAt_false (l : List Int) (xs : List Bool) : l.foldl (orAt false) xs = xs := by
  induction l with
  | nil => rfl
  | cons a l ih => rw [List.foldl_cons, orAt_false]; exact ih
set_option maxRecDepth 100000 in
theorem with_ok (g : G) (hg : WF g) (eqs : List Bool) (hl : eqs.length ≤ g.eqs.length) : PureCall Try.prog 53 [encG g, encBs eqs] (encBs (joinedF g eqs)) := by
  refine pure_cp (E := E 0) T_ok (D_ok 0) [11] Try.func53 rfl (by rfl) (Nat.le_of_ble_eq_true rfl) ?_
  have su := hg.su
  have se := hg.se
  have hjl := hg.len
  ((conv => whnf); repeat ((first | refine Sw.o ?_ | refine B0 ?_); conv => whnf))
  (repeat ((first | refine N0 ?_ | refine A0 fun γ => ?_ | refine C1 ?_ | refine C2 ?_ | refine C3 ?_ | refine C4 ?_ | refine C5 ?_ | refine C6 ?_ | refine C7 ?_ | refine D0 fun γs => ?_ | refine A1 fun γs => ?_ | refine N2 ?_ | refine N3 ?_ | refine N1 ?_); ((conv => whnf); repeat ((first | refine Sw.o ?_ | refine B0 ?_); conv => whnf))))
  simp only [List.length_map, Int.toNat_natCast, rep_encB]
  refine LoopP.intro (fun n σ H => ∃ γ γ' i, ∃ xs : List Bool, ∃ hi : i ≤ eqs.length, n = eqs.length - i ∧ xs.length = g.uses.length ∧ ((eqs.drop i).zip (g.joined.drop i)).foldl (fun xs p => p.2.foldl (orAt p.1) xs) xs = joinedF g eqs ∧
    σ = fr [(1, encBs eqs), (2, .op 2 γ' 0 0), (5, .own 11 γ 0 g.uses.length), (6, encI i)] ∧ H = hp [(11, γ, ⟨4, 1, xs.map encB⟩), (2, γ', ⟨26, 3, [encG g]⟩)]) ?_ ?_
  · exact .intro <| W.of ⟨_, _, _, 0, _, Nat.zero_le _, rfl, by simp, rfl, rfl, rfl⟩ ⟨rfl, rfl, rfl, rfl, trivial⟩ ⟨rfl, rfl, trivial⟩
  · rintro n σ H ⟨γ, γ', i, xs, hi, rfl, hxl, hx, rfl, rfl⟩
    ((conv => whnf); repeat ((first | refine Sw.o ?_ | refine B0 ?_); conv => whnf))
    (repeat ((first | refine N0 ?_ | refine A0 fun γ => ?_ | refine C1 ?_ | refine C2 ?_ | refine C3 ?_ | refine C4 ?_ | refine C5 ?_ | refine C6 ?_ | refine C7 ?_ | refine D0 fun γs => ?_ | refine A1 fun γs => ?_ | refine N2 ?_ | refine N3 ?_ | refine N1 ?_); ((conv => whnf); repeat ((first | refine Sw.o ?_ | refine B0 ?_); conv => whnf))))
    refine CondP.dec (fun h => ?_) (fun h => ?_) <;> ((conv => whnf); repeat ((first | refine Sw.o ?_ | refine B0 ?_); conv => whnf))
    · (have h2 := h; try simp only [LN] at h2)
      (repeat ((first | refine N0 ?_ | refine A0 fun γ => ?_ | refine C1 ?_ | refine C2 ?_ | refine C3 ?_ | refine C4 ?_ | refine C5 ?_ | refine C6 ?_ | refine C7 ?_ | refine D0 fun γs => ?_ | refine A1 fun γs => ?_ | refine N2 ?_ | refine N3 ?_ | refine N1 ?_); ((conv => whnf); repeat ((first | refine Sw.o ?_ | refine B0 ?_); conv => whnf))))
      have hi' : i < eqs.length := by omega
      have hij : i < g.joined.length := by omega
      rw [List.drop_eq_getElem_cons hi', List.drop_eq_getElem_cons hij, List.zip_cons_cons, List.foldl_cons] at hx
      have sl := hg.sl _ (List.getElem_mem hij)
      refine LoopP.intro (fun n σ H => ∃ γ γ' k, ∃ ys : List Bool, ∃ hk : k ≤ (g.joined[i]).length, n = (g.joined[i]).length - k ∧ ys.length = g.uses.length ∧
        ((eqs.drop (i + 1)).zip (g.joined.drop (i + 1))).foldl (fun xs p => p.2.foldl (orAt p.1) xs) (((g.joined[i]).drop k).foldl (orAt eqs[i]) ys) = joinedF g eqs ∧
        σ = fr [(1, encBs eqs), (2, .op 2 γ' 0 0), (5, .own 11 γ 0 g.uses.length), (6, encI i), (7, encI k)] ∧ H = hp [(11, γ, ⟨4, 1, ys.map encB⟩), (2, γ', ⟨26, 3, [encG g]⟩)]) ?_ ?_
      · exact .intro <| W.of ⟨_, _, _, 0, _, Nat.zero_le _, rfl, hxl, hx, rfl, rfl⟩ ⟨rfl, rfl, rfl, rfl, rfl, trivial⟩ ⟨rfl, rfl, trivial⟩
      · rintro n σ H ⟨γ, γ', k, ys, hk, rfl, hyl, hy, rfl, rfl⟩
        ((conv => whnf); repeat ((first | refine Sw.o ?_ | refine B0 ?_); conv => whnf))
        (repeat ((first | refine N0 ?_ | refine A0 fun γ => ?_ | refine C1 ?_ | refine C2 ?_ | refine C3 ?_ | refine C4 ?_ | refine C5 ?_ | refine C6 ?_ | refine C7 ?_ | refine D0 fun γs => ?_ | refine A1 fun γs => ?_ | refine N2 ?_ | refine N3 ?_ | refine N1 ?_); ((conv => whnf); repeat ((first | refine Sw.o ?_ | refine B0 ?_); conv => whnf))))
        (simp (disch := omega) only [LG]; ((conv => whnf); repeat ((first | refine Sw.o ?_ | refine B0 ?_); conv => whnf)))
        refine CondP.intro (fun h => ?_) (fun h => ?_) <;> ((conv => whnf); repeat ((first | refine Sw.o ?_ | refine B0 ?_); conv => whnf))
        · have hb := h
          (repeat ((first | refine N0 ?_ | refine A0 fun γ => ?_ | refine C1 ?_ | refine C2 ?_ | refine C3 ?_ | refine C4 ?_ | refine C5 ?_ | refine C6 ?_ | refine C7 ?_ | refine D0 fun γs => ?_ | refine A1 fun γs => ?_ | refine N2 ?_ | refine N3 ?_ | refine N1 ?_); ((conv => whnf); repeat ((first | refine Sw.o ?_ | refine B0 ?_); conv => whnf))))
          (simp (disch := omega) only [LG]; ((conv => whnf); repeat ((first | refine Sw.o ?_ | refine B0 ?_); conv => whnf)))
          (repeat ((first | refine N0 ?_ | refine A0 fun γ => ?_ | refine C1 ?_ | refine C2 ?_ | refine C3 ?_ | refine C4 ?_ | refine C5 ?_ | refine C6 ?_ | refine C7 ?_ | refine D0 fun γs => ?_ | refine A1 fun γs => ?_ | refine N2 ?_ | refine N3 ?_ | refine N1 ?_); ((conv => whnf); repeat ((first | refine Sw.o ?_ | refine B0 ?_); conv => whnf))))
          refine CondP.dec (fun h => ?_) (fun h => ?_) <;> ((conv => whnf); repeat ((first | refine Sw.o ?_ | refine B0 ?_); conv => whnf))
          · (have h2 := h; try simp only [LN] at h2)
            (repeat ((first | refine N0 ?_ | refine A0 fun γ => ?_ | refine C1 ?_ | refine C2 ?_ | refine C3 ?_ | refine C4 ?_ | refine C5 ?_ | refine C6 ?_ | refine C7 ?_ | refine D0 fun γs => ?_ | refine A1 fun γs => ?_ | refine N2 ?_ | refine N3 ?_ | refine N1 ?_); ((conv => whnf); repeat ((first | refine Sw.o ?_ | refine B0 ?_); conv => whnf))))
            (simp (disch := omega) only [LG]; ((conv => whnf); repeat ((first | refine Sw.o ?_ | refine B0 ?_); conv => whnf)))
            (repeat ((first | refine N0 ?_ | refine A0 fun γ => ?_ | refine C1 ?_ | refine C2 ?_ | refine C3 ?_ | refine C4 ?_ | refine C5 ?_ | refine C6 ?_ | refine C7 ?_ | refine D0 fun γs => ?_ | refine A1 fun γs => ?_ | refine N2 ?_ | refine N3 ?_ | refine N1 ?_); ((conv => whnf); repeat ((first | refine Sw.o ?_ | refine B0 ?_); conv => whnf))))
            (simp (disch := omega) only [LG]; ((conv => whnf); repeat ((first | refine Sw.o ?_ | refine B0 ?_); conv => whnf)))
            have hk' : k < (g.joined[i]).length := by omega
            have hu := hg.in_ _ (List.getElem_mem hij) _ (List.getElem_mem hk')
            rw [List.drop_eq_getElem_cons hk', List.foldl_cons] at hy
            have hu1 : (g.joined[i][k]).toNat < ys.length := by omega
            have hor : orAt eqs[i] ys g.joined[i][k] = ys.set (g.joined[i][k]).toNat true := by unfold orAt; rw [hb, Bool.or_true]
            (repeat ((first | refine N0 ?_ | refine A0 fun γ => ?_ | refine C1 ?_ | refine C2 ?_ | refine C3 ?_ | refine C4 ?_ | refine C5 ?_ | refine C6 ?_ | refine C7 ?_ | refine D0 fun γs => ?_ | refine A1 fun γs => ?_ | refine N2 ?_ | refine N3 ?_ | refine N1 ?_); ((conv => whnf); repeat ((first | refine Sw.o ?_ | refine B0 ?_); conv => whnf))))
            (simp (disch := omega) only [LG]; ((conv => whnf); repeat ((first | refine Sw.o ?_ | refine B0 ?_); conv => whnf)))
            (repeat ((first | refine N0 ?_ | refine A0 fun γ => ?_ | refine C1 ?_ | refine C2 ?_ | refine C3 ?_ | refine C4 ?_ | refine C5 ?_ | refine C6 ?_ | refine C7 ?_ | refine D0 fun γs => ?_ | refine A1 fun γs => ?_ | refine N2 ?_ | refine N3 ?_ | refine N1 ?_); ((conv => whnf); repeat ((first | refine Sw.o ?_ | refine B0 ?_); conv => whnf))))
            refine .intro <| W.of ⟨_, by omega, _, _, k + 1, ys.set (g.joined[i][k]).toNat true, hk', rfl, by simpa using hyl, by rw [← hor]; exact hy, rfl, rfl⟩ ⟨rfl, rfl, rfl, rfl, rfl, trivial⟩ ⟨by rw [← set_map (x := true) (h := rfl)]; rfl, rfl, trivial⟩
          · (have h2 := h; try simp only [LN] at h2)
            (repeat ((first | refine N0 ?_ | refine A0 fun γ => ?_ | refine C1 ?_ | refine C2 ?_ | refine C3 ?_ | refine C4 ?_ | refine C5 ?_ | refine C6 ?_ | refine C7 ?_ | refine D0 fun γs => ?_ | refine A1 fun γs => ?_ | refine N2 ?_ | refine N3 ?_ | refine N1 ?_); ((conv => whnf); repeat ((first | refine Sw.o ?_ | refine B0 ?_); conv => whnf))))
            rw [List.drop_eq_nil_of_le (show (g.joined[i]).length ≤ k by omega), List.foldl_nil] at hy
            exact .intro <| W.of ⟨_, by omega, _, _, i + 1, ys, hi', rfl, hyl, hy, rfl, rfl⟩ ⟨rfl, rfl, rfl, rfl, trivial⟩ ⟨rfl, rfl, trivial⟩
        · (repeat ((first | refine N0 ?_ | refine A0 fun γ => ?_ | refine C1 ?_ | refine C2 ?_ | refine C3 ?_ | refine C4 ?_ | refine C5 ?_ | refine C6 ?_ | refine C7 ?_ | refine D0 fun γs => ?_ | refine A1 fun γs => ?_ | refine N2 ?_ | refine N3 ?_ | refine N1 ?_); ((conv => whnf); repeat ((first | refine Sw.o ?_ | refine B0 ?_); conv => whnf))))
          rw [h, foldl_orAt_false] at hy
          exact .intro <| W.of ⟨_, by omega, _, _, i + 1, ys, hi', rfl, hyl, hy, rfl, rfl⟩ ⟨rfl, rfl, rfl, rfl, trivial⟩ ⟨rfl, rfl, trivial⟩
    · (have h2 := h; try simp only [LN] at h2)
      (repeat ((first | refine N0 ?_ | refine A0 fun γ => ?_ | refine C1 ?_ | refine C2 ?_ | refine C3 ?_ | refine C4 ?_ | refine C5 ?_ | refine C6 ?_ | refine C7 ?_ | refine D0 fun γs => ?_ | refine A1 fun γs => ?_ | refine N2 ?_ | refine N3 ?_ | refine N1 ?_); ((conv => whnf); repeat ((first | refine Sw.o ?_ | refine B0 ?_); conv => whnf))))
      refine .of ?_
      show AV.sl 1 _ = AV.sl 1 _
      rw [snap_list _ _ _ _ hxl.symm (fun _ => rfl), ← hx, List.drop_eq_nil_of_le (by omega)]
      rfl
def touchF (g : G) (uses : List Bool) : List Bool := g.joined.map fun l => l.any fun u => uses.getD u.toNat false
set_option maxRecDepth 100000 in
theorem under_ok (g : G) (hg : WF g) (uses : List Bool) (hl : g.uses.length ≤ uses.length) : PureCall Try.prog 54 [encG g, encBs uses] (encBs (touchF g uses)) := by
  refine pure_cp (E := E 0) T_ok (D_ok 0) [100] Try.func54 rfl (by rfl) (Nat.le_of_ble_eq_true rfl) ?_
  have su := hg.su
  have se := hg.se
  have hjl := hg.len
  have hul : (touchF g uses).length = g.joined.length := by simp [touchF]
  ((conv => whnf); repeat ((first | refine Sw.o ?_ | refine B0 ?_); conv => whnf))
  (repeat ((first | refine N0 ?_ | refine A0 fun γ => ?_ | refine C1 ?_ | refine C2 ?_ | refine C3 ?_ | refine C4 ?_ | refine C5 ?_ | refine C6 ?_ | refine C7 ?_ | refine D0 fun γs => ?_ | refine A1 fun γs => ?_ | refine N2 ?_ | refine N3 ?_ | refine N1 ?_); ((conv => whnf); repeat ((first | refine Sw.o ?_ | refine B0 ?_); conv => whnf))))
  refine LoopP.intro (fun n σ H => ∃ γ γ' i, ∃ hi : i ≤ g.eqs.length, n = g.eqs.length - i ∧
    σ = fr [(1, encBs uses), (2, .op 2 γ' 0 0), (5, .own 100 γ 0 i), (6, encI i)] ∧ H = hp [(100, γ, ⟨4, 1, ((touchF g uses).take i).map encB⟩), (2, γ', ⟨26, 3, [encG g]⟩)]) ?_ ?_
  · exact .intro <| W.mat 5 100 4 1 rfl rfl fun γ => W.of ⟨_, _, _, 0, Nat.zero_le _, rfl, rfl, rfl⟩ ⟨rfl, rfl, rfl, rfl, trivial⟩ ⟨rfl, rfl, trivial⟩
  · rintro n σ H ⟨γ, γ', i, hi, rfl, rfl, rfl⟩
    ((conv => whnf); repeat ((first | refine Sw.o ?_ | refine B0 ?_); conv => whnf))
    (repeat ((first | refine N0 ?_ | refine A0 fun γ => ?_ | refine C1 ?_ | refine C2 ?_ | refine C3 ?_ | refine C4 ?_ | refine C5 ?_ | refine C6 ?_ | refine C7 ?_ | refine D0 fun γs => ?_ | refine A1 fun γs => ?_ | refine N2 ?_ | refine N3 ?_ | refine N1 ?_); ((conv => whnf); repeat ((first | refine Sw.o ?_ | refine B0 ?_); conv => whnf))))
    refine CondP.dec (fun h => ?_) (fun h => ?_) <;> ((conv => whnf); repeat ((first | refine Sw.o ?_ | refine B0 ?_); conv => whnf))
    · (have h2 := h; try simp only [LN] at h2)
      (repeat ((first | refine N0 ?_ | refine A0 fun γ => ?_ | refine C1 ?_ | refine C2 ?_ | refine C3 ?_ | refine C4 ?_ | refine C5 ?_ | refine C6 ?_ | refine C7 ?_ | refine D0 fun γs => ?_ | refine A1 fun γs => ?_ | refine N2 ?_ | refine N3 ?_ | refine N1 ?_); ((conv => whnf); repeat ((first | refine Sw.o ?_ | refine B0 ?_); conv => whnf))))
      have hij : i < g.joined.length := by omega
      have sl := hg.sl _ (List.getElem_mem hij)
      have htg : (touchF g uses)[i]'(by omega) = (g.joined[i]).any fun u => uses.getD u.toNat false := by simp [touchF]
      refine LoopP.intro (fun n σ H => ∃ γ γ' k, ∃ b : Bool, ∃ hk : k ≤ (g.joined[i]).length, n = (g.joined[i]).length - k ∧
        (b || ((g.joined[i]).drop k).any fun u => uses.getD u.toNat false) = (g.joined[i]).any (fun u => uses.getD u.toNat false) ∧
        σ = fr [(1, encBs uses), (2, .op 2 γ' 0 0), (5, .own 100 γ 0 i), (6, encI i), (7, encB b), (8, encI k)] ∧ H = hp [(100, γ, ⟨4, 1, ((touchF g uses).take i).map encB⟩), (2, γ', ⟨26, 3, [encG g]⟩)]) ?_ ?_
      · exact .intro <| W.of ⟨_, _, _, 0, _, Nat.zero_le _, rfl, rfl, rfl, rfl⟩ ⟨rfl, rfl, rfl, rfl, rfl, rfl, trivial⟩ ⟨rfl, rfl, trivial⟩
      · rintro n σ H ⟨γ, γ', k, b, hk, rfl, hy, rfl, rfl⟩
        ((conv => whnf); repeat ((first | refine Sw.o ?_ | refine B0 ?_); conv => whnf))
        (repeat ((first | refine N0 ?_ | refine A0 fun γ => ?_ | refine C1 ?_ | refine C2 ?_ | refine C3 ?_ | refine C4 ?_ | refine C5 ?_ | refine C6 ?_ | refine C7 ?_ | refine D0 fun γs => ?_ | refine A1 fun γs => ?_ | refine N2 ?_ | refine N3 ?_ | refine N1 ?_); ((conv => whnf); repeat ((first | refine Sw.o ?_ | refine B0 ?_); conv => whnf))))
        (simp (disch := omega) only [LG]; ((conv => whnf); repeat ((first | refine Sw.o ?_ | refine B0 ?_); conv => whnf)))
        (repeat ((first | refine N0 ?_ | refine A0 fun γ => ?_ | refine C1 ?_ | refine C2 ?_ | refine C3 ?_ | refine C4 ?_ | refine C5 ?_ | refine C6 ?_ | refine C7 ?_ | refine D0 fun γs => ?_ | refine A1 fun γs => ?_ | refine N2 ?_ | refine N3 ?_ | refine N1 ?_); ((conv => whnf); repeat ((first | refine Sw.o ?_ | refine B0 ?_); conv => whnf))))
        refine CondP.dec (fun h => ?_) (fun h => ?_) <;> ((conv => whnf); repeat ((first | refine Sw.o ?_ | refine B0 ?_); conv => whnf))
        · (have h2 := h; try simp only [LN] at h2)
          (repeat ((first | refine N0 ?_ | refine A0 fun γ => ?_ | refine C1 ?_ | refine C2 ?_ | refine C3 ?_ | refine C4 ?_ | refine C5 ?_ | refine C6 ?_ | refine C7 ?_ | refine D0 fun γs => ?_ | refine A1 fun γs => ?_ | refine N2 ?_ | refine N3 ?_ | refine N1 ?_); ((conv => whnf); repeat ((first | refine Sw.o ?_ | refine B0 ?_); conv => whnf))))
          have hk' : k < (g.joined[i]).length := by omega
          have hu := hg.in_ _ (List.getElem_mem hij) _ (List.getElem_mem hk')
          rw [List.drop_eq_getElem_cons hk', List.any_cons] at hy
          have hu1 : (g.joined[i][k]).toNat < uses.length := by omega
          rw [getD_lt _ _ _ hu1] at hy
          refine CondP.intro (fun h => ?_) (fun h => ?_) <;> ((conv => whnf); repeat ((first | refine Sw.o ?_ | refine B0 ?_); conv => whnf))
          · (repeat ((first | refine N0 ?_ | refine A0 fun γ => ?_ | refine C1 ?_ | refine C2 ?_ | refine C3 ?_ | refine C4 ?_ | refine C5 ?_ | refine C6 ?_ | refine C7 ?_ | refine D0 fun γs => ?_ | refine A1 fun γs => ?_ | refine N2 ?_ | refine N3 ?_ | refine N1 ?_); ((conv => whnf); repeat ((first | refine Sw.o ?_ | refine B0 ?_); conv => whnf))))
            refine .intro <| W.of ⟨_, by omega, _, _, k + 1, true, hk', rfl, by rw [← hy, h]; rfl, rfl, rfl⟩ ⟨rfl, rfl, rfl, rfl, rfl, rfl, trivial⟩ ⟨rfl, rfl, trivial⟩
          · (repeat ((first | refine N0 ?_ | refine A0 fun γ => ?_ | refine C1 ?_ | refine C2 ?_ | refine C3 ?_ | refine C4 ?_ | refine C5 ?_ | refine C6 ?_ | refine C7 ?_ | refine D0 fun γs => ?_ | refine A1 fun γs => ?_ | refine N2 ?_ | refine N3 ?_ | refine N1 ?_); ((conv => whnf); repeat ((first | refine Sw.o ?_ | refine B0 ?_); conv => whnf))))
            (simp (disch := omega) only [LG]; ((conv => whnf); repeat ((first | refine Sw.o ?_ | refine B0 ?_); conv => whnf)))
            (repeat ((first | refine N0 ?_ | refine A0 fun γ => ?_ | refine C1 ?_ | refine C2 ?_ | refine C3 ?_ | refine C4 ?_ | refine C5 ?_ | refine C6 ?_ | refine C7 ?_ | refine D0 fun γs => ?_ | refine A1 fun γs => ?_ | refine N2 ?_ | refine N3 ?_ | refine N1 ?_); ((conv => whnf); repeat ((first | refine Sw.o ?_ | refine B0 ?_); conv => whnf))))
            (simp (disch := omega) only [LG]; ((conv => whnf); repeat ((first | refine Sw.o ?_ | refine B0 ?_); conv => whnf)))
            (repeat ((first | refine N0 ?_ | refine A0 fun γ => ?_ | refine C1 ?_ | refine C2 ?_ | refine C3 ?_ | refine C4 ?_ | refine C5 ?_ | refine C6 ?_ | refine C7 ?_ | refine D0 fun γs => ?_ | refine A1 fun γs => ?_ | refine N2 ?_ | refine N3 ?_ | refine N1 ?_); ((conv => whnf); repeat ((first | refine Sw.o ?_ | refine B0 ?_); conv => whnf))))
            (simp (disch := omega) only [LG]; ((conv => whnf); repeat ((first | refine Sw.o ?_ | refine B0 ?_); conv => whnf)))
            (repeat ((first | refine N0 ?_ | refine A0 fun γ => ?_ | refine C1 ?_ | refine C2 ?_ | refine C3 ?_ | refine C4 ?_ | refine C5 ?_ | refine C6 ?_ | refine C7 ?_ | refine D0 fun γs => ?_ | refine A1 fun γs => ?_ | refine N2 ?_ | refine N3 ?_ | refine N1 ?_); ((conv => whnf); repeat ((first | refine Sw.o ?_ | refine B0 ?_); conv => whnf))))
            refine .intro <| W.of ⟨_, by omega, _, _, k + 1, uses[(g.joined[i][k]).toNat], hk', rfl, by rw [← hy, h]; rfl, rfl, rfl⟩ ⟨rfl, rfl, rfl, rfl, rfl, rfl, trivial⟩ ⟨rfl, rfl, trivial⟩
        · (have h2 := h; try simp only [LN] at h2)
          (repeat ((first | refine N0 ?_ | refine A0 fun γ => ?_ | refine C1 ?_ | refine C2 ?_ | refine C3 ?_ | refine C4 ?_ | refine C5 ?_ | refine C6 ?_ | refine C7 ?_ | refine D0 fun γs => ?_ | refine A1 fun γs => ?_ | refine N2 ?_ | refine N3 ?_ | refine N1 ?_); ((conv => whnf); repeat ((first | refine Sw.o ?_ | refine B0 ?_); conv => whnf))))
          rw [List.drop_eq_nil_of_le (show (g.joined[i]).length ≤ k by omega), List.any_nil, Bool.or_false] at hy
          exact .intro <| W.of ⟨_, by omega, _, _, i + 1, by omega, rfl, rfl, rfl⟩ ⟨rfl, rfl, rfl, rfl, trivial⟩ ⟨by rw [← take_snoc encB _ i (by omega) (encB b) (by rw [htg, hy])]; rfl, rfl, trivial⟩
    · (have h2 := h; try simp only [LN] at h2)
      (repeat ((first | refine N0 ?_ | refine A0 fun γ => ?_ | refine C1 ?_ | refine C2 ?_ | refine C3 ?_ | refine C4 ?_ | refine C5 ?_ | refine C6 ?_ | refine C7 ?_ | refine D0 fun γs => ?_ | refine A1 fun γs => ?_ | refine N2 ?_ | refine N3 ?_ | refine N1 ?_); ((conv => whnf); repeat ((first | refine Sw.o ?_ | refine B0 ?_); conv => whnf))))
      refine .of ?_
      show AV.sl 1 _ = AV.sl 1 _
      rw [snap_list _ _ _ _ (by simp; omega) (fun _ => rfl), List.take_of_length_le (by omega)]
end Go.Proofs.Ytgeeklnokblokaa
namespace Go.Proofs.Ytgeeklnokblokaa
open Go Go.Fw
def pick {α : Type} (bs : List Bool) (xs : List α) : List α := ((bs.zip xs).filter (·.1)).map (·.2)
theorem pick_cons {α : Type} (b : Bool) (bs : List Bool) (x : α) (xs : List α) : pick (b :: bs) (x :: xs) = (if b then [x] else []) ++ pick bs xs := by
  unfold pick
  cases b <;> simp
def partF (g : G) (eqs uses : List Bool) : Pt := ⟨pick eqs g.eqs, pick uses g.uses⟩
theorem snoc_map {α : Type} (f : α → AV) (l : List α) (x : α) (y : AV) (hy : y = f x) : l.map f ++ [y] = (l ++ [x]).map f := by rw [hy, List.map_append]; rfl
set_option maxRecDepth 100000 in
theorem part_ok (g : G) (eqs uses : List Bool) (h1 : eqs.length ≤ g.eqs.length) (h2 : uses.length ≤ g.uses.length) (se : g.eqs.length ≤ 2^20) (su : g.uses.length ≤ 2^20) :
    PureCall Try.prog 48 [encG g, encBs eqs, encBs uses] (encP (partF g eqs uses)) := by
  refine pure_cp (E := E 0) T_ok (D_ok 0) [100, 101] Try.func48 rfl (by rfl) (Nat.le_of_ble_eq_true rfl) ?_
  ((conv => whnf); repeat ((first | refine Sw.o ?_ | refine B0 ?_); conv => whnf))
  (repeat ((first | refine N0 ?_ | refine A0 fun γ => ?_ | refine C1 ?_ | refine C2 ?_ | refine C3 ?_ | refine C4 ?_ | refine C5 ?_ | refine C6 ?_ | refine C7 ?_ | refine D0 fun γs => ?_ | refine A1 fun γs => ?_ | refine N2 ?_ | refine N3 ?_ | refine N1 ?_); ((conv => whnf); repeat ((first | refine Sw.o ?_ | refine B0 ?_); conv => whnf))))
  refine LoopP.intro (fun n σ H => ∃ γ3 γ6 γ7 γ γ' i, ∃ acc : List ByteArray, ∃ hi : i ≤ eqs.length, n = eqs.length - i ∧ acc.length ≤ i ∧ acc ++ pick (eqs.drop i) (g.eqs.drop i) = pick eqs g.eqs ∧
    σ = fr [(2, encBs uses), (3, .op 3 γ3 0 0), (6, .op 6 γ6 0 0), (7, .op 7 γ7 0 0), (12, encBs eqs), (13, encI eqs.length), (14, encI i)] ∧
    H = hp [(7, γ7, ⟨41, 2, [.agg [.own 100 γ 0 acc.length, .own 101 γ' 0 0]]⟩), (100, γ, ⟨9, 1, acc.map encS⟩), (101, γ', ⟨50, 3, []⟩), (3, γ3, ⟨26, 3, [encG g]⟩), (6, γ6, ⟨41, 2, [.agg [.val (.slice none 0 0), .val (.slice none 0 0)]]⟩)]) ?_ ?_
  · refine .intro <| W.matc 7 _ 0 0 100 9 1 ⟨41, 2, [.agg [.val (.slice none 0 0), .val (.slice none 0 0)]]⟩ [.val (.slice none 0 0), .val (.slice none 0 0)] rfl rfl rfl rfl (by decide) fun γ => ?_
    refine W.matc 7 _ 0 1 101 50 3 ⟨41, 2, [.agg [.own 100 γ 0 0, .val (.slice none 0 0)]]⟩ [.own 100 γ 0 0, .val (.slice none 0 0)] rfl rfl rfl rfl (by decide) fun γ' => ?_
    exact W.of ⟨_, _, _, _, _, _, 0, [], Nat.zero_le _, rfl, Nat.le_refl _, rfl, rfl, rfl⟩ ⟨rfl, rfl, rfl, rfl, rfl, by simp; rfl, rfl, trivial⟩ ⟨rfl, rfl, rfl, rfl, rfl, trivial⟩
  · rintro n σ H ⟨γ3, γ6, γ7, γ, γ', i, acc, hi, rfl, hal, hacc, rfl, rfl⟩
    ((conv => whnf); repeat ((first | refine Sw.o ?_ | refine B0 ?_); conv => whnf))
    (repeat ((first | refine N0 ?_ | refine A0 fun γ => ?_ | refine C1 ?_ | refine C2 ?_ | refine C3 ?_ | refine C4 ?_ | refine C5 ?_ | refine C6 ?_ | refine C7 ?_ | refine D0 fun γs => ?_ | refine A1 fun γs => ?_ | refine N2 ?_ | refine N3 ?_ | refine N1 ?_); ((conv => whnf); repeat ((first | refine Sw.o ?_ | refine B0 ?_); conv => whnf))))
    refine CondP.dec (fun h => ?_) (fun h => ?_) <;> ((conv => whnf); repeat ((first | refine Sw.o ?_ | refine B0 ?_); conv => whnf))
    · (have h2 := h; try simp only [LN] at h2)
      (repeat ((first | refine N0 ?_ | refine A0 fun γ => ?_ | refine C1 ?_ | refine C2 ?_ | refine C3 ?_ | refine C4 ?_ | refine C5 ?_ | refine C6 ?_ | refine C7 ?_ | refine D0 fun γs => ?_ | refine A1 fun γs => ?_ | refine N2 ?_ | refine N3 ?_ | refine N1 ?_); ((conv => whnf); repeat ((first | refine Sw.o ?_ | refine B0 ?_); conv => whnf))))
      (simp (disch := omega) only [LG]; ((conv => whnf); repeat ((first | refine Sw.o ?_ | refine B0 ?_); conv => whnf)))
      have hi' : i < eqs.length := by omega
      have hig : i < g.eqs.length := by omega
      rw [List.drop_eq_getElem_cons hi', List.drop_eq_getElem_cons hig, pick_cons, ← List.append_assoc] at hacc
      refine CondP.intro (fun h => ?_) (fun h => ?_) <;> ((conv => whnf); repeat ((first | refine Sw.o ?_ | refine B0 ?_); conv => whnf))
      · (repeat ((first | refine N0 ?_ | refine A0 fun γ => ?_ | refine C1 ?_ | refine C2 ?_ | refine C3 ?_ | refine C4 ?_ | refine C5 ?_ | refine C6 ?_ | refine C7 ?_ | refine D0 fun γs => ?_ | refine A1 fun γs => ?_ | refine N2 ?_ | refine N3 ?_ | refine N1 ?_); ((conv => whnf); repeat ((first | refine Sw.o ?_ | refine B0 ?_); conv => whnf))))
        (simp (disch := omega) only [LG]; ((conv => whnf); repeat ((first | refine Sw.o ?_ | refine B0 ?_); conv => whnf)))
        (repeat ((first | refine N0 ?_ | refine A0 fun γ => ?_ | refine C1 ?_ | refine C2 ?_ | refine C3 ?_ | refine C4 ?_ | refine C5 ?_ | refine C6 ?_ | refine C7 ?_ | refine D0 fun γs => ?_ | refine A1 fun γs => ?_ | refine N2 ?_ | refine N3 ?_ | refine N1 ?_); ((conv => whnf); repeat ((first | refine Sw.o ?_ | refine B0 ?_); conv => whnf))))
        rw [if_pos h] at hacc
        refine .intro <| W.of ⟨_, by omega, _, _, _, _, _, i + 1, acc ++ [g.eqs[i]], hi', rfl, by simp; omega, hacc, rfl, rfl⟩ ⟨rfl, rfl, rfl, rfl, rfl, rfl, rfl, trivial⟩ ⟨by simp; rfl, by rw [← snoc_map encS acc g.eqs[i] (encS g.eqs[i]) rfl]; rfl, rfl, rfl, rfl, trivial⟩
      · (repeat ((first | refine N0 ?_ | refine A0 fun γ => ?_ | refine C1 ?_ | refine C2 ?_ | refine C3 ?_ | refine C4 ?_ | refine C5 ?_ | refine C6 ?_ | refine C7 ?_ | refine D0 fun γs => ?_ | refine A1 fun γs => ?_ | refine N2 ?_ | refine N3 ?_ | refine N1 ?_); ((conv => whnf); repeat ((first | refine Sw.o ?_ | refine B0 ?_); conv => whnf))))
        rw [if_neg (by rw [h]; simp), List.append_nil] at hacc
        exact .intro <| W.of ⟨_, by omega, _, _, _, _, _, i + 1, acc, hi', rfl, by omega, hacc, rfl, rfl⟩ ⟨rfl, rfl, rfl, rfl, rfl, rfl, rfl, trivial⟩ ⟨rfl, rfl, rfl, rfl, rfl, trivial⟩
    · (have h2 := h; try simp only [LN] at h2)
      (repeat ((first | refine N0 ?_ | refine A0 fun γ => ?_ | refine C1 ?_ | refine C2 ?_ | refine C3 ?_ | refine C4 ?_ | refine C5 ?_ | refine C6 ?_ | refine C7 ?_ | refine D0 fun γs => ?_ | refine A1 fun γs => ?_ | refine N2 ?_ | refine N3 ?_ | refine N1 ?_); ((conv => whnf); repeat ((first | refine Sw.o ?_ | refine B0 ?_); conv => whnf))))
      have hac : acc = pick eqs g.eqs := by rw [← hacc, List.drop_eq_nil_of_le (show eqs.length ≤ i by omega)]; simp [pick]
      refine LoopP.intro (fun n σ H => ∃ γ3 γ6 γ7 γ γ' i, ∃ acd : List U, ∃ hi : i ≤ uses.length, n = uses.length - i ∧ acd.length ≤ i ∧ acd ++ pick (uses.drop i) (g.uses.drop i) = pick uses g.uses ∧
        σ = fr [(3, .op 3 γ3 0 0), (6, .op 6 γ6 0 0), (7, .op 7 γ7 0 0), (31, encBs uses), (32, encI uses.length), (33, encI i)] ∧
        H = hp [(7, γ7, ⟨41, 2, [.agg [.own 100 γ 0 acc.length, .own 101 γ' 0 acd.length]]⟩), (100, γ, ⟨9, 1, acc.map encS⟩), (101, γ', ⟨50, 3, acd.map encU⟩), (3, γ3, ⟨26, 3, [encG g]⟩), (6, γ6, ⟨41, 2, [.agg [.val (.slice none 0 0), .val (.slice none 0 0)]]⟩)]) ?_ ?_
      · exact .intro <| W.of ⟨_, _, _, _, _, _, 0, [], Nat.zero_le _, rfl, Nat.le_refl _, rfl, rfl, rfl⟩ ⟨rfl, rfl, rfl, rfl, by simp; rfl, rfl, trivial⟩ ⟨rfl, rfl, rfl, rfl, rfl, trivial⟩
      · rintro n σ H ⟨γ3, γ6, γ7, γ, γ', j, acd, hj, rfl, hdl, hacd, rfl, rfl⟩
        ((conv => whnf); repeat ((first | refine Sw.o ?_ | refine B0 ?_); conv => whnf))
        (repeat ((first | refine N0 ?_ | refine A0 fun γ => ?_ | refine C1 ?_ | refine C2 ?_ | refine C3 ?_ | refine C4 ?_ | refine C5 ?_ | refine C6 ?_ | refine C7 ?_ | refine D0 fun γs => ?_ | refine A1 fun γs => ?_ | refine N2 ?_ | refine N3 ?_ | refine N1 ?_); ((conv => whnf); repeat ((first | refine Sw.o ?_ | refine B0 ?_); conv => whnf))))
        refine CondP.dec (fun h => ?_) (fun h => ?_) <;> ((conv => whnf); repeat ((first | refine Sw.o ?_ | refine B0 ?_); conv => whnf))
        · (have h2 := h; try simp only [LN] at h2)
          (repeat ((first | refine N0 ?_ | refine A0 fun γ => ?_ | refine C1 ?_ | refine C2 ?_ | refine C3 ?_ | refine C4 ?_ | refine C5 ?_ | refine C6 ?_ | refine C7 ?_ | refine D0 fun γs => ?_ | refine A1 fun γs => ?_ | refine N2 ?_ | refine N3 ?_ | refine N1 ?_); ((conv => whnf); repeat ((first | refine Sw.o ?_ | refine B0 ?_); conv => whnf))))
          (simp (disch := omega) only [LG]; ((conv => whnf); repeat ((first | refine Sw.o ?_ | refine B0 ?_); conv => whnf)))
          have hj' : j < uses.length := by omega
          have hjg : j < g.uses.length := by omega
          rw [List.drop_eq_getElem_cons hj', List.drop_eq_getElem_cons hjg, pick_cons, ← List.append_assoc] at hacd
          refine CondP.intro (fun h => ?_) (fun h => ?_) <;> ((conv => whnf); repeat ((first | refine Sw.o ?_ | refine B0 ?_); conv => whnf))
          · (repeat ((first | refine N0 ?_ | refine A0 fun γ => ?_ | refine C1 ?_ | refine C2 ?_ | refine C3 ?_ | refine C4 ?_ | refine C5 ?_ | refine C6 ?_ | refine C7 ?_ | refine D0 fun γs => ?_ | refine A1 fun γs => ?_ | refine N2 ?_ | refine N3 ?_ | refine N1 ?_); ((conv => whnf); repeat ((first | refine Sw.o ?_ | refine B0 ?_); conv => whnf))))
            (simp (disch := omega) only [LG]; ((conv => whnf); repeat ((first | refine Sw.o ?_ | refine B0 ?_); conv => whnf)))
            (repeat ((first | refine N0 ?_ | refine A0 fun γ => ?_ | refine C1 ?_ | refine C2 ?_ | refine C3 ?_ | refine C4 ?_ | refine C5 ?_ | refine C6 ?_ | refine C7 ?_ | refine D0 fun γs => ?_ | refine A1 fun γs => ?_ | refine N2 ?_ | refine N3 ?_ | refine N1 ?_); ((conv => whnf); repeat ((first | refine Sw.o ?_ | refine B0 ?_); conv => whnf))))
            rw [if_pos h] at hacd
            refine .intro <| W.of ⟨_, by omega, _, _, _, _, _, j + 1, acd ++ [g.uses[j]], hj', rfl, by simp; omega, hacd, rfl, rfl⟩ ⟨rfl, rfl, rfl, rfl, rfl, rfl, trivial⟩ ⟨by simp; rfl, rfl, by rw [← snoc_map encU acd g.uses[j] (encU g.uses[j]) rfl]; rfl, rfl, rfl, trivial⟩
          · (repeat ((first | refine N0 ?_ | refine A0 fun γ => ?_ | refine C1 ?_ | refine C2 ?_ | refine C3 ?_ | refine C4 ?_ | refine C5 ?_ | refine C6 ?_ | refine C7 ?_ | refine D0 fun γs => ?_ | refine A1 fun γs => ?_ | refine N2 ?_ | refine N3 ?_ | refine N1 ?_); ((conv => whnf); repeat ((first | refine Sw.o ?_ | refine B0 ?_); conv => whnf))))
            rw [if_neg (by rw [h]; simp), List.append_nil] at hacd
            exact .intro <| W.of ⟨_, by omega, _, _, _, _, _, j + 1, acd, hj', rfl, by omega, hacd, rfl, rfl⟩ ⟨rfl, rfl, rfl, rfl, rfl, rfl, trivial⟩ ⟨rfl, rfl, rfl, rfl, rfl, trivial⟩
        · (have h2 := h; try simp only [LN] at h2)
          (repeat ((first | refine N0 ?_ | refine A0 fun γ => ?_ | refine C1 ?_ | refine C2 ?_ | refine C3 ?_ | refine C4 ?_ | refine C5 ?_ | refine C6 ?_ | refine C7 ?_ | refine D0 fun γs => ?_ | refine A1 fun γs => ?_ | refine N2 ?_ | refine N3 ?_ | refine N1 ?_); ((conv => whnf); repeat ((first | refine Sw.o ?_ | refine B0 ?_); conv => whnf))))
          have had : acd = pick uses g.uses := by rw [← hacd, List.drop_eq_nil_of_le (show uses.length ≤ j by omega)]; simp [pick]
          refine .of ?_
          show AV.agg [AV.sl 1 _, AV.sl 3 _] = AV.agg [AV.sl 1 _, AV.sl 3 _]
          rw [snap_list _ _ _ _ rfl (fun _ => rfl), snap_list _ _ _ _ rfl (fun _ => rfl), hac, had]
          rfl
end Go.Proofs.Ytgeeklnokblokaa
namespace Go.Proofs.Ytgeeklnokblokaa
open Go Go.Fw
set_option maxRecDepth 100000 in
theorem refPart_ok (g : G) (eqs uses : List Bool) (h1 : eqs.length ≤ g.eqs.length) (h2 : uses.length ≤ g.uses.length) (se : g.eqs.length ≤ 2^20) (su : g.uses.length ≤ 2^20) :
    PureCall Try.prog 55 [encG g, encBs eqs, encBs uses] (encP (partF g eqs uses)) := by
  refine pure_cp (E := E 0) T_ok (D_ok 0) [100, 101] Try.func55 rfl (by rfl) (Nat.le_of_ble_eq_true rfl) ?_
  ((conv => whnf); repeat ((first | refine Sw.o ?_ | refine B0 ?_); conv => whnf))
  (repeat ((first | refine N0 ?_ | refine A0 fun γ => ?_ | refine C1 ?_ | refine C2 ?_ | refine C3 ?_ | refine C4 ?_ | refine C5 ?_ | refine C6 ?_ | refine C7 ?_ | refine D0 fun γs => ?_ | refine A1 fun γs => ?_ | refine N2 ?_ | refine N3 ?_ | refine N1 ?_); ((conv => whnf); repeat ((first | refine Sw.o ?_ | refine B0 ?_); conv => whnf))))
  refine LoopP.intro (fun n σ H => ∃ γ3 γ6 γ7 γ γ' i, ∃ acc : List ByteArray, ∃ hi : i ≤ eqs.length, n = eqs.length - i ∧ acc.length ≤ i ∧ acc ++ pick (eqs.drop i) (g.eqs.drop i) = pick eqs g.eqs ∧
    σ = fr [(1, encBs eqs), (2, encBs uses), (3, .op 3 γ3 0 0), (6, .op 6 γ6 0 0), (7, .op 7 γ7 0 0), (8, encI i)] ∧
    H = hp [(7, γ7, ⟨41, 2, [.agg [.own 100 γ 0 acc.length, .own 101 γ' 0 0]]⟩), (100, γ, ⟨9, 1, acc.map encS⟩), (101, γ', ⟨50, 3, []⟩), (3, γ3, ⟨26, 3, [encG g]⟩), (6, γ6, ⟨41, 2, [.agg [.val (.slice none 0 0), .val (.slice none 0 0)]]⟩)]) ?_ ?_
  · refine .intro <| W.matc 7 _ 0 0 100 9 1 ⟨41, 2, [.agg [.val (.slice none 0 0), .val (.slice none 0 0)]]⟩ [.val (.slice none 0 0), .val (.slice none 0 0)] rfl rfl rfl rfl (by decide) fun γ => ?_
    refine W.matc 7 _ 0 1 101 50 3 ⟨41, 2, [.agg [.own 100 γ 0 0, .val (.slice none 0 0)]]⟩ [.own 100 γ 0 0, .val (.slice none 0 0)] rfl rfl rfl rfl (by decide) fun γ' => ?_
    exact W.of ⟨_, _, _, _, _, _, 0, [], Nat.zero_le _, rfl, Nat.le_refl _, rfl, rfl, rfl⟩ ⟨rfl, rfl, rfl, rfl, rfl, rfl, trivial⟩ ⟨rfl, rfl, rfl, rfl, rfl, trivial⟩
  · rintro n σ H ⟨γ3, γ6, γ7, γ, γ', i, acc, hi, rfl, hal, hacc, rfl, rfl⟩
    ((conv => whnf); repeat ((first | refine Sw.o ?_ | refine B0 ?_); conv => whnf))
    (repeat ((first | refine N0 ?_ | refine A0 fun γ => ?_ | refine C1 ?_ | refine C2 ?_ | refine C3 ?_ | refine C4 ?_ | refine C5 ?_ | refine C6 ?_ | refine C7 ?_ | refine D0 fun γs => ?_ | refine A1 fun γs => ?_ | refine N2 ?_ | refine N3 ?_ | refine N1 ?_); ((conv => whnf); repeat ((first | refine Sw.o ?_ | refine B0 ?_); conv => whnf))))
    refine CondP.dec (fun h => ?_) (fun h => ?_) <;> ((conv => whnf); repeat ((first | refine Sw.o ?_ | refine B0 ?_); conv => whnf))
    · (have h2 := h; try simp only [LN] at h2)
      (repeat ((first | refine N0 ?_ | refine A0 fun γ => ?_ | refine C1 ?_ | refine C2 ?_ | refine C3 ?_ | refine C4 ?_ | refine C5 ?_ | refine C6 ?_ | refine C7 ?_ | refine D0 fun γs => ?_ | refine A1 fun γs => ?_ | refine N2 ?_ | refine N3 ?_ | refine N1 ?_); ((conv => whnf); repeat ((first | refine Sw.o ?_ | refine B0 ?_); conv => whnf))))
      (simp (disch := omega) only [LG]; ((conv => whnf); repeat ((first | refine Sw.o ?_ | refine B0 ?_); conv => whnf)))
      have hi' : i < eqs.length := by omega
      have hig : i < g.eqs.length := by omega
      rw [List.drop_eq_getElem_cons hi', List.drop_eq_getElem_cons hig, pick_cons, ← List.append_assoc] at hacc
      refine CondP.intro (fun h => ?_) (fun h => ?_) <;> ((conv => whnf); repeat ((first | refine Sw.o ?_ | refine B0 ?_); conv => whnf))
      · (repeat ((first | refine N0 ?_ | refine A0 fun γ => ?_ | refine C1 ?_ | refine C2 ?_ | refine C3 ?_ | refine C4 ?_ | refine C5 ?_ | refine C6 ?_ | refine C7 ?_ | refine D0 fun γs => ?_ | refine A1 fun γs => ?_ | refine N2 ?_ | refine N3 ?_ | refine N1 ?_); ((conv => whnf); repeat ((first | refine Sw.o ?_ | refine B0 ?_); conv => whnf))))
        (simp (disch := omega) only [LG]; ((conv => whnf); repeat ((first | refine Sw.o ?_ | refine B0 ?_); conv => whnf)))
        (repeat ((first | refine N0 ?_ | refine A0 fun γ => ?_ | refine C1 ?_ | refine C2 ?_ | refine C3 ?_ | refine C4 ?_ | refine C5 ?_ | refine C6 ?_ | refine C7 ?_ | refine D0 fun γs => ?_ | refine A1 fun γs => ?_ | refine N2 ?_ | refine N3 ?_ | refine N1 ?_); ((conv => whnf); repeat ((first | refine Sw.o ?_ | refine B0 ?_); conv => whnf))))
        rw [if_pos h] at hacc
        refine .intro <| W.of ⟨_, by omega, _, _, _, _, _, i + 1, acc ++ [g.eqs[i]], hi', rfl, by simp; omega, hacc, rfl, rfl⟩ ⟨rfl, rfl, rfl, rfl, rfl, rfl, trivial⟩ ⟨by simp; rfl, by rw [← snoc_map encS acc g.eqs[i] (encS g.eqs[i]) rfl]; rfl, rfl, rfl, rfl, trivial⟩
      · (repeat ((first | refine N0 ?_ | refine A0 fun γ => ?_ | refine C1 ?_ | refine C2 ?_ | refine C3 ?_ | refine C4 ?_ | refine C5 ?_ | refine C6 ?_ | refine C7 ?_ | refine D0 fun γs => ?_ | refine A1 fun γs => ?_ | refine N2 ?_ | refine N3 ?_ | refine N1 ?_); ((conv => whnf); repeat ((first | refine Sw.o ?_ | refine B0 ?_); conv => whnf))))
        rw [if_neg (by rw [h]; simp), List.append_nil] at hacc
        exact .intro <| W.of ⟨_, by omega, _, _, _, _, _, i + 1, acc, hi', rfl, by omega, hacc, rfl, rfl⟩ ⟨rfl, rfl, rfl, rfl, rfl, rfl, trivial⟩ ⟨rfl, rfl, rfl, rfl, rfl, trivial⟩
    · (have h2 := h; try simp only [LN] at h2)
      (repeat ((first | refine N0 ?_ | refine A0 fun γ => ?_ | refine C1 ?_ | refine C2 ?_ | refine C3 ?_ | refine C4 ?_ | refine C5 ?_ | refine C6 ?_ | refine C7 ?_ | refine D0 fun γs => ?_ | refine A1 fun γs => ?_ | refine N2 ?_ | refine N3 ?_ | refine N1 ?_); ((conv => whnf); repeat ((first | refine Sw.o ?_ | refine B0 ?_); conv => whnf))))
      have hac : acc = pick eqs g.eqs := by rw [← hacc, List.drop_eq_nil_of_le (show eqs.length ≤ i by omega)]; simp [pick]
      refine LoopP.intro (fun n σ H => ∃ γ3 γ6 γ7 γ γ' i, ∃ acd : List U, ∃ hi : i ≤ uses.length, n = uses.length - i ∧ acd.length ≤ i ∧ acd ++ pick (uses.drop i) (g.uses.drop i) = pick uses g.uses ∧
        σ = fr [(2, encBs uses), (3, .op 3 γ3 0 0), (6, .op 6 γ6 0 0), (7, .op 7 γ7 0 0), (9, encI i)] ∧
        H = hp [(7, γ7, ⟨41, 2, [.agg [.own 100 γ 0 acc.length, .own 101 γ' 0 acd.length]]⟩), (100, γ, ⟨9, 1, acc.map encS⟩), (101, γ', ⟨50, 3, acd.map encU⟩), (3, γ3, ⟨26, 3, [encG g]⟩), (6, γ6, ⟨41, 2, [.agg [.val (.slice none 0 0), .val (.slice none 0 0)]]⟩)]) ?_ ?_
      · exact .intro <| W.of ⟨_, _, _, _, _, _, 0, [], Nat.zero_le _, rfl, Nat.le_refl _, rfl, rfl, rfl⟩ ⟨rfl, rfl, rfl, rfl, rfl, trivial⟩ ⟨rfl, rfl, rfl, rfl, rfl, trivial⟩
      · rintro n σ H ⟨γ3, γ6, γ7, γ, γ', j, acd, hj, rfl, hdl, hacd, rfl, rfl⟩
        ((conv => whnf); repeat ((first | refine Sw.o ?_ | refine B0 ?_); conv => whnf))
        (repeat ((first | refine N0 ?_ | refine A0 fun γ => ?_ | refine C1 ?_ | refine C2 ?_ | refine C3 ?_ | refine C4 ?_ | refine C5 ?_ | refine C6 ?_ | refine C7 ?_ | refine D0 fun γs => ?_ | refine A1 fun γs => ?_ | refine N2 ?_ | refine N3 ?_ | refine N1 ?_); ((conv => whnf); repeat ((first | refine Sw.o ?_ | refine B0 ?_); conv => whnf))))
        refine CondP.dec (fun h => ?_) (fun h => ?_) <;> ((conv => whnf); repeat ((first | refine Sw.o ?_ | refine B0 ?_); conv => whnf))
        · (have h2 := h; try simp only [LN] at h2)
          (repeat ((first | refine N0 ?_ | refine A0 fun γ => ?_ | refine C1 ?_ | refine C2 ?_ | refine C3 ?_ | refine C4 ?_ | refine C5 ?_ | refine C6 ?_ | refine C7 ?_ | refine D0 fun γs => ?_ | refine A1 fun γs => ?_ | refine N2 ?_ | refine N3 ?_ | refine N1 ?_); ((conv => whnf); repeat ((first | refine Sw.o ?_ | refine B0 ?_); conv => whnf))))
          (simp (disch := omega) only [LG]; ((conv => whnf); repeat ((first | refine Sw.o ?_ | refine B0 ?_); conv => whnf)))
          have hj' : j < uses.length := by omega
          have hjg : j < g.uses.length := by omega
          rw [List.drop_eq_getElem_cons hj', List.drop_eq_getElem_cons hjg, pick_cons, ← List.append_assoc] at hacd
          refine CondP.intro (fun h => ?_) (fun h => ?_) <;> ((conv => whnf); repeat ((first | refine Sw.o ?_ | refine B0 ?_); conv => whnf))
          · (repeat ((first | refine N0 ?_ | refine A0 fun γ => ?_ | refine C1 ?_ | refine C2 ?_ | refine C3 ?_ | refine C4 ?_ | refine C5 ?_ | refine C6 ?_ | refine C7 ?_ | refine D0 fun γs => ?_ | refine A1 fun γs => ?_ | refine N2 ?_ | refine N3 ?_ | refine N1 ?_); ((conv => whnf); repeat ((first | refine Sw.o ?_ | refine B0 ?_); conv => whnf))))
            (simp (disch := omega) only [LG]; ((conv => whnf); repeat ((first | refine Sw.o ?_ | refine B0 ?_); conv => whnf)))
            (repeat ((first | refine N0 ?_ | refine A0 fun γ => ?_ | refine C1 ?_ | refine C2 ?_ | refine C3 ?_ | refine C4 ?_ | refine C5 ?_ | refine C6 ?_ | refine C7 ?_ | refine D0 fun γs => ?_ | refine A1 fun γs => ?_ | refine N2 ?_ | refine N3 ?_ | refine N1 ?_); ((conv => whnf); repeat ((first | refine Sw.o ?_ | refine B0 ?_); conv => whnf))))
            rw [if_pos h] at hacd
            refine .intro <| W.of ⟨_, by omega, _, _, _, _, _, j + 1, acd ++ [g.uses[j]], hj', rfl, by simp; omega, hacd, rfl, rfl⟩ ⟨rfl, rfl, rfl, rfl, rfl, trivial⟩ ⟨by simp; rfl, rfl, by rw [← snoc_map encU acd g.uses[j] (encU g.uses[j]) rfl]; rfl, rfl, rfl, trivial⟩
          · (repeat ((first | refine N0 ?_ | refine A0 fun γ => ?_ | refine C1 ?_ | refine C2 ?_ | refine C3 ?_ | refine C4 ?_ | refine C5 ?_ | refine C6 ?_ | refine C7 ?_ | refine D0 fun γs => ?_ | refine A1 fun γs => ?_ | refine N2 ?_ | refine N3 ?_ | refine N1 ?_); ((conv => whnf); repeat ((first | refine Sw.o ?_ | refine B0 ?_); conv => whnf))))
            rw [if_neg (by rw [h]; simp), List.append_nil] at hacd
            exact .intro <| W.of ⟨_, by omega, _, _, _, _, _, j + 1, acd, hj', rfl, by omega, hacd, rfl, rfl⟩ ⟨rfl, rfl, rfl, rfl, rfl, trivial⟩ ⟨rfl, rfl, rfl, rfl, rfl, trivial⟩
        · (have h2 := h; try simp only [LN] at h2)
          (repeat ((first | refine N0 ?_ | refine A0 fun γ => ?_ | refine C1 ?_ | refine C2 ?_ | refine C3 ?_ | refine C4 ?_ | refine C5 ?_ | refine C6 ?_ | refine C7 ?_ | refine D0 fun γs => ?_ | refine A1 fun γs => ?_ | refine N2 ?_ | refine N3 ?_ | refine N1 ?_); ((conv => whnf); repeat ((first | refine Sw.o ?_ | refine B0 ?_); conv => whnf))))
          have had : acd = pick uses g.uses := by rw [← hacd, List.drop_eq_nil_of_le (show uses.length ≤ j by omega)]; simp [pick]
          refine .of ?_
          show AV.agg [AV.sl 1 _, AV.sl 3 _] = AV.agg [AV.sl 1 _, AV.sl 3 _]
          rw [snap_list _ _ _ _ rfl (fun _ => rfl), snap_list _ _ _ _ rfl (fun _ => rfl), hac, had]
          rfl
set_option maxRecDepth 100000 in
theorem SamePart_ok (a b : Pt) (h1 : a.eqs.length < 2^62) (h2 : b.eqs.length < 2^62) (h3 : a.uses.length < 2^62) (h4 : b.uses.length < 2^62) : PureCall Try.prog 33 [encP a, encP b] (encB (decide (a.eqs = b.eqs) && decide (a.uses = b.uses))) := by
  refine pure_cp (E := E 0) T_ok (D_ok 0) [] Try.func33 rfl (by rfl) (Nat.le_of_ble_eq_true rfl) ?_
  ((conv => whnf); repeat ((first | refine Sw.o ?_ | refine B0 ?_); conv => whnf))
  (repeat ((first | refine N0 ?_ | refine A0 fun γ => ?_ | refine C1 ?_ | refine C2 ?_ | refine C3 ?_ | refine C4 ?_ | refine C5 ?_ | refine C6 ?_ | refine C7 ?_ | refine D0 fun γs => ?_ | refine A1 fun γs => ?_ | refine N2 ?_ | refine N3 ?_ | refine N1 ?_); ((conv => whnf); repeat ((first | refine Sw.o ?_ | refine B0 ?_); conv => whnf))))
  refine CallP.flat [] _ c59 (SameNames_ok a.eqs b.eqs h1 h2) rfl ?_
  ((conv => whnf); repeat ((first | refine Sw.o ?_ | refine B0 ?_); conv => whnf))
  refine CondP.dec (fun h => ?_) (fun h => ?_) <;> ((conv => whnf); repeat ((first | refine Sw.o ?_ | refine B0 ?_); conv => whnf))
  · (repeat ((first | refine N0 ?_ | refine A0 fun γ => ?_ | refine C1 ?_ | refine C2 ?_ | refine C3 ?_ | refine C4 ?_ | refine C5 ?_ | refine C6 ?_ | refine C7 ?_ | refine D0 fun γs => ?_ | refine A1 fun γs => ?_ | refine N2 ?_ | refine N3 ?_ | refine N1 ?_); ((conv => whnf); repeat ((first | refine Sw.o ?_ | refine B0 ?_); conv => whnf))))
    refine CallP.flat [] _ c60 (SameUses_ok a.uses b.uses h3 h4) rfl ?_
    ((conv => whnf); repeat ((first | refine Sw.o ?_ | refine B0 ?_); conv => whnf))
    (repeat ((first | refine N0 ?_ | refine A0 fun γ => ?_ | refine C1 ?_ | refine C2 ?_ | refine C3 ?_ | refine C4 ?_ | refine C5 ?_ | refine C6 ?_ | refine C7 ?_ | refine D0 fun γs => ?_ | refine A1 fun γs => ?_ | refine N2 ?_ | refine N3 ?_ | refine N1 ?_); ((conv => whnf); repeat ((first | refine Sw.o ?_ | refine B0 ?_); conv => whnf))))
    exact .of (by rw [decide_eq_true h]; rfl)
  · (repeat ((first | refine N0 ?_ | refine A0 fun γ => ?_ | refine C1 ?_ | refine C2 ?_ | refine C3 ?_ | refine C4 ?_ | refine C5 ?_ | refine C6 ?_ | refine C7 ?_ | refine D0 fun γs => ?_ | refine A1 fun γs => ?_ | refine N2 ?_ | refine N3 ?_ | refine N1 ?_); ((conv => whnf); repeat ((first | refine Sw.o ?_ | refine B0 ?_); conv => whnf))))
    exact .of (by rw [decide_eq_false h]; rfl)
end Go.Proofs.Ytgeeklnokblokaa
namespace Go.Proofs.Ytgeeklnokblokaa
open Go Go.Fw
def lowP : Option Int → Int
  | none => 0
  | some q => q + 1
theorem listV_len (n : Nat) : ∀ (l : List Int) (p : Option Int), listV n p l = true → lowP p + (l.length : Int) ≤ (n : Int) ∨ l = []
  | [], p, _ => .inr rfl
  | k :: r, p, h => by
    unfold listV at h
    simp only [Bool.and_eq_true, decide_eq_true_eq] at h
    obtain ⟨⟨⟨h1, h2⟩, h3⟩, h4⟩ := h
    have ih := listV_len n r (some k) h4
    left
    have hk : lowP p ≤ k := by
      cases p with
      | none => exact h1
      | some q => simp [ltI] at h3; show q + 1 ≤ k; omega
    rcases ih with ih | ih
    · rw [show lowP (some k) = k + 1 from rfl] at ih
      simp only [List.length_cons] at ih ⊢
      omega
    · subst ih
      simp only [List.length_cons, List.length_nil]
      omega
theorem listV_in (n : Nat) : ∀ (l : List Int) (p : Option Int), listV n p l = true → ∀ u ∈ l, 0 ≤ u ∧ u < n
  | [], _, _, u, hu => absurd hu (by simp)
  | k :: r, p, h, u, hu => by
    unfold listV at h
    simp only [Bool.and_eq_true, decide_eq_true_eq] at h
    rcases List.mem_cons.1 hu with rfl | hu
    · exact h.1.1
    · exact listV_in n r (some k) h.2 u hu
theorem listsV_all (n : Nat) : ∀ (ls : List (List Int)), listsV n ls = true → ∀ l ∈ ls, listV n none l = true
  | [], _, l, hl => absurd hl (by simp)
  | x :: r, h, l, hl => by
    unfold listsV at h
    simp only [Bool.and_eq_true] at h
    rcases List.mem_cons.1 hl with rfl | hl
    · exact h.1
    · exact listsV_all n r h.2 l hl
theorem check_wf {g : G} (h : checkF g = 0) : WF g ∧ validG g = true ∧ g.eqs.length ≤ 120 ∧ g.uses.length ≤ 400 := by
  unfold checkF at h
  split at h
  · cases h
  · rename_i hv
    split at h
    · cases h
    · rename_i hs
      have hs := of_decide_eq_false hs
      have hv' := hv
      unfold validG at hv'
      simp only [Bool.and_eq_true, decide_eq_true_eq] at hv'
      obtain ⟨⟨⟨h1, h2⟩, h3⟩, h4⟩ := hv'
      refine ⟨⟨h1, fun l hl u hu => listV_in _ l none (listsV_all _ _ h4 l hl) u hu, by omega, by omega, fun l hl => ?_⟩, hv, by omega, by omega⟩
      rcases listV_len _ l none (listsV_all _ _ h4 l hl) with h5 | h5
      · simp only [lowP] at h5; omega
      · subst h5; simp
def rankF (g : G) : Int × Int := match decide (checkF g = 0) with
  | true => ((greatestF g []).2, 0)
  | false => (0, checkF g)
set_option maxRecDepth 100000 in
theorem rank14_ok (g : G) (hz : Sz g) : PureCall Try.prog 14 [encG g] (.tup [encI (rankF g).1, encI (rankF g).2]) := by
  refine pure_cp (E := E 0) T_ok (D_ok 0) [] Try.func14 rfl (by rfl) (Nat.le_of_ble_eq_true rfl) ?_
  generalize hR : rankF g = R
  unfold rankF at hR
  ((conv => whnf); repeat ((first | refine Sw.o ?_ | refine B0 ?_); conv => whnf))
  (repeat ((first | refine N0 ?_ | refine A0 fun γ => ?_ | refine C1 ?_ | refine C2 ?_ | refine C3 ?_ | refine C4 ?_ | refine C5 ?_ | refine C6 ?_ | refine C7 ?_ | refine D0 fun γs => ?_ | refine A1 fun γs => ?_ | refine N2 ?_ | refine N3 ?_ | refine N1 ?_); ((conv => whnf); repeat ((first | refine Sw.o ?_ | refine B0 ?_); conv => whnf))))
  refine CallP.flat [] (encI (checkF g)) c35 (check35_ok g hz) rfl ?_
  ((conv => whnf); repeat ((first | refine Sw.o ?_ | refine B0 ?_); conv => whnf))
  (repeat ((first | refine N0 ?_ | refine A0 fun γ => ?_ | refine C1 ?_ | refine C2 ?_ | refine C3 ?_ | refine C4 ?_ | refine C5 ?_ | refine C6 ?_ | refine C7 ?_ | refine D0 fun γs => ?_ | refine A1 fun γs => ?_ | refine N2 ?_ | refine N3 ?_ | refine N1 ?_); ((conv => whnf); repeat ((first | refine Sw.o ?_ | refine B0 ?_); conv => whnf))))
  refine CondP.dec (fun h => ?_) (fun h => ?_) <;> ((conv => whnf); repeat ((first | refine Sw.o ?_ | refine B0 ?_); conv => whnf))
  · rw [decide_eq_true h] at hR
    have hg := (check_wf h).1
    (repeat ((first | refine N0 ?_ | refine A0 fun γ => ?_ | refine C1 ?_ | refine C2 ?_ | refine C3 ?_ | refine C4 ?_ | refine C5 ?_ | refine C6 ?_ | refine C7 ?_ | refine D0 fun γs => ?_ | refine A1 fun γs => ?_ | refine N2 ?_ | refine N3 ?_ | refine N1 ?_); ((conv => whnf); repeat ((first | refine Sw.o ?_ | refine B0 ?_); conv => whnf))))
    refine CallP.pure [] _ c39 (greatest0_ok g hg) ?_
    subst hR
    generalize greatestF g [] = q
    ((conv => whnf); repeat ((first | refine Sw.o ?_ | refine B0 ?_); conv => whnf))
    (repeat ((first | refine N0 ?_ | refine A0 fun γ => ?_ | refine C1 ?_ | refine C2 ?_ | refine C3 ?_ | refine C4 ?_ | refine C5 ?_ | refine C6 ?_ | refine C7 ?_ | refine D0 fun γs => ?_ | refine A1 fun γs => ?_ | refine N2 ?_ | refine N3 ?_ | refine N1 ?_); ((conv => whnf); repeat ((first | refine Sw.o ?_ | refine B0 ?_); conv => whnf))))
    exact .of rfl
  · rw [decide_eq_false h] at hR
    subst hR
    (repeat ((first | refine N0 ?_ | refine A0 fun γ => ?_ | refine C1 ?_ | refine C2 ?_ | refine C3 ?_ | refine C4 ?_ | refine C5 ?_ | refine C6 ?_ | refine C7 ?_ | refine D0 fun γs => ?_ | refine A1 fun γs => ?_ | refine N2 ?_ | refine N3 ?_ | refine N1 ?_); ((conv => whnf); repeat ((first | refine Sw.o ?_ | refine B0 ?_); conv => whnf))))
    exact .of rfl
theorem ends_tup2 {x y x' y' : AV} (h1 : Le x x') (h2 : Le y y') : Fw.Ends (.tup [x, y]) (.tup [x', y']) := by
  have h := Le.cons h1 (Le.cons h2 Le.nils)
  exact Fw.Ends.le (Le.tup h.1 h.2)
def MatchF (g : G) : List Int × Int := match decide (checkF g = 0) with
  | true => (matchF g, 0)
  | false => ([], checkF g)
set_option maxRecDepth 100000 in
theorem match12_ok (g : G) (hz : Sz g) : PureCall Try.prog 12 [encG g] (.tup [encL (MatchF g).1, encI (MatchF g).2]) := by
  refine pure_cp (E := E 0) T_ok (D_ok 0) [] Try.func12 rfl (by rfl) (Nat.le_of_ble_eq_true rfl) ?_
  generalize hR : MatchF g = R
  unfold MatchF at hR
  ((conv => whnf); repeat ((first | refine Sw.o ?_ | refine B0 ?_); conv => whnf))
  (repeat ((first | refine N0 ?_ | refine A0 fun γ => ?_ | refine C1 ?_ | refine C2 ?_ | refine C3 ?_ | refine C4 ?_ | refine C5 ?_ | refine C6 ?_ | refine C7 ?_ | refine D0 fun γs => ?_ | refine A1 fun γs => ?_ | refine N2 ?_ | refine N3 ?_ | refine N1 ?_); ((conv => whnf); repeat ((first | refine Sw.o ?_ | refine B0 ?_); conv => whnf))))
  refine CallP.flat [] (encI (checkF g)) c35 (check35_ok g hz) rfl ?_
  ((conv => whnf); repeat ((first | refine Sw.o ?_ | refine B0 ?_); conv => whnf))
  (repeat ((first | refine N0 ?_ | refine A0 fun γ => ?_ | refine C1 ?_ | refine C2 ?_ | refine C3 ?_ | refine C4 ?_ | refine C5 ?_ | refine C6 ?_ | refine C7 ?_ | refine D0 fun γs => ?_ | refine A1 fun γs => ?_ | refine N2 ?_ | refine N3 ?_ | refine N1 ?_); ((conv => whnf); repeat ((first | refine Sw.o ?_ | refine B0 ?_); conv => whnf))))
  refine CondP.dec (fun h => ?_) (fun h => ?_) <;> ((conv => whnf); repeat ((first | refine Sw.o ?_ | refine B0 ?_); conv => whnf))
  · rw [decide_eq_true h] at hR
    have hg := (check_wf h).1
    (repeat ((first | refine N0 ?_ | refine A0 fun γ => ?_ | refine C1 ?_ | refine C2 ?_ | refine C3 ?_ | refine C4 ?_ | refine C5 ?_ | refine C6 ?_ | refine C7 ?_ | refine D0 fun γs => ?_ | refine A1 fun γs => ?_ | refine N2 ?_ | refine N3 ?_ | refine N1 ?_); ((conv => whnf); repeat ((first | refine Sw.o ?_ | refine B0 ?_); conv => whnf))))
    refine CallP.pure [] _ c36 (match_ok g hg) ?_
    subst hR
    ((conv => whnf); repeat ((first | refine Sw.o ?_ | refine B0 ?_); conv => whnf))
    (repeat ((first | refine N0 ?_ | refine A0 fun γ => ?_ | refine C1 ?_ | refine C2 ?_ | refine C3 ?_ | refine C4 ?_ | refine C5 ?_ | refine C6 ?_ | refine C7 ?_ | refine D0 fun γs => ?_ | refine A1 fun γs => ?_ | refine N2 ?_ | refine N3 ?_ | refine N1 ?_); ((conv => whnf); repeat ((first | refine Sw.o ?_ | refine B0 ?_); conv => whnf))))
    exact .of rfl
  · rw [decide_eq_false h] at hR
    subst hR
    (repeat ((first | refine N0 ?_ | refine A0 fun γ => ?_ | refine C1 ?_ | refine C2 ?_ | refine C3 ?_ | refine C4 ?_ | refine C5 ?_ | refine C6 ?_ | refine C7 ?_ | refine D0 fun γs => ?_ | refine A1 fun γs => ?_ | refine N2 ?_ | refine N3 ?_ | refine N1 ?_); ((conv => whnf); repeat ((first | refine Sw.o ?_ | refine B0 ?_); conv => whnf))))
    exact ends_tup2 (Le.nil 1) (Le.refl _)
end Go.Proofs.Ytgeeklnokblokaa
namespace Go.Proofs.Ytgeeklnokblokaa
open Go Go.Fw
theorem restF_len (a b : List Bool) : (restF a b).length = a.length := by simp [restF]
theorem joinedF_len (g : G) (eqs : List Bool) : (joinedF g eqs).length = g.uses.length := by
  unfold joinedF
  have inner : ∀ (l : List Int) (b : Bool) (xs : List Bool), (l.foldl (orAt b) xs).length = xs.length := by
    intro l b
    induction l with
    | nil => intro xs; rfl
    | cons u r ih => intro xs; rw [List.foldl_cons, ih, orAt_length]
  have : ∀ (l : List (Bool × List Int)) (xs : List Bool), (l.foldl (fun xs p => p.2.foldl (orAt p.1) xs) xs).length = xs.length := by
    intro l
    induction l with
    | nil => intro xs; rfl
    | cons p r ih => intro xs; rw [List.foldl_cons, ih, inner]
  rw [this]; simp
theorem touchF_len (g : G) (uses : List Bool) : (touchF g uses).length = g.joined.length := by simp [touchF]
theorem spareF_len1 (g : G) : (spareF g).1.length = g.eqs.length := by simp [spareF]
theorem spareF_len2 (g : G) : (spareF g).2.length = g.uses.length := by simp [spareF]
def givenF (g : G) (eqs : List Bool) : Bool := decide (sizeF g (restF eqs eqs) (fu g) = cntT eqs)
set_option maxHeartbeats 4000000 in
set_option maxRecDepth 100000 in
theorem given_ok (g : G) (hg : WF g) (eqs : List Bool) (he : eqs.length = g.eqs.length) : PureCall Try.prog 58 [encG g, encBs eqs] (encB (givenF g eqs)) := by
  refine pure_cp (E := E 0) T_ok (D_ok 0) [] Try.func58 rfl (by rfl) (Nat.le_of_ble_eq_true rfl) ?_
  have su := hg.su
  have se := hg.se
  have lu := fu_len g
  have hlu : (g.uses.map encU).length = g.uses.length := List.length_map ..
  ((conv => whnf); repeat ((first | refine Sw.o ?_ | refine B0 ?_); conv => whnf))
  (repeat ((first | refine N0 ?_ | refine A0 fun γ => ?_ | refine C1 ?_ | refine C2 ?_ | refine C3 ?_ | refine C4 ?_ | refine C5 ?_ | refine C6 ?_ | refine C7 ?_ | refine D0 fun γs => ?_ | refine A1 fun γs => ?_ | refine N2 ?_ | refine N3 ?_ | refine N1 ?_); ((conv => whnf); repeat ((first | refine Sw.o ?_ | refine B0 ?_); conv => whnf))))
  refine CallG.intro (encBs (restF eqs eqs)) c56 (none_ok eqs eqs (by omega) (Nat.le_refl _)) ?_
  ((conv => whnf); repeat ((first | refine Sw.o ?_ | refine B0 ?_); conv => whnf))
  (repeat ((first | refine N0 ?_ | refine A0 fun γ => ?_ | refine C1 ?_ | refine C2 ?_ | refine C3 ?_ | refine C4 ?_ | refine C5 ?_ | refine C6 ?_ | refine C7 ?_ | refine D0 fun γs => ?_ | refine A1 fun γs => ?_ | refine N2 ?_ | refine N3 ?_ | refine N1 ?_); ((conv => whnf); repeat ((first | refine Sw.o ?_ | refine B0 ?_); conv => whnf))))
  refine CallG.flat (encI (sizeF g (restF eqs eqs) (fu g))) c38 (pure_args ?_ (size_ok g hg (restF eqs eqs) (fu g) (by rw [restF_len]; exact he) lu)) rfl ?_
  · simp only [List.length_map, Int.toNat_natCast]
    show [encG g, encBs (restF eqs eqs), snap _ _ (.own 12 _ 0 g.uses.length)] = _
    rw [snap_own (B := ⟨4, 1, (fu g).map encB⟩) (by show (12 : Nat) ∈ [12]; simp) (by unfold fu; rw [← rep_encB]; rfl) (by simp [lu]), snap_list _ _ _ _ (by simp [lu]) (fun _ => rfl)]
    rfl
  ((conv => whnf); repeat ((first | refine Sw.o ?_ | refine B0 ?_); conv => whnf))
  (repeat ((first | refine N0 ?_ | refine A0 fun γ => ?_ | refine C1 ?_ | refine C2 ?_ | refine C3 ?_ | refine C4 ?_ | refine C5 ?_ | refine C6 ?_ | refine C7 ?_ | refine D0 fun γs => ?_ | refine A1 fun γs => ?_ | refine N2 ?_ | refine N3 ?_ | refine N1 ?_); ((conv => whnf); repeat ((first | refine Sw.o ?_ | refine B0 ?_); conv => whnf))))
  refine CallG.intro (encI (cntT eqs)) c57 (many_ok eqs (by omega)) ?_
  ((conv => whnf); repeat ((first | refine Sw.o ?_ | refine B0 ?_); conv => whnf))
  (repeat ((first | refine N0 ?_ | refine A0 fun γ => ?_ | refine C1 ?_ | refine C2 ?_ | refine C3 ?_ | refine C4 ?_ | refine C5 ?_ | refine C6 ?_ | refine C7 ?_ | refine D0 fun γs => ?_ | refine A1 fun γs => ?_ | refine N2 ?_ | refine N3 ?_ | refine N1 ?_); ((conv => whnf); repeat ((first | refine Sw.o ?_ | refine B0 ?_); conv => whnf))))
  exact .of rfl
def rankR (g : G) : Int × Int := match decide (checkF g = 0) with
  | true => (SizeF g, 0)
  | false => (0, checkF g)
set_option maxRecDepth 100000 in
theorem rank15_ok (g : G) (hz : Sz g) : PureCall Try.prog 15 [encG g] (.tup [encI (rankR g).1, encI (rankR g).2]) := by
  refine pure_cp (E := E 0) T_ok (D_ok 0) [] Try.func15 rfl (by rfl) (Nat.le_of_ble_eq_true rfl) ?_
  generalize hR : rankR g = R
  unfold rankR at hR
  ((conv => whnf); repeat ((first | refine Sw.o ?_ | refine B0 ?_); conv => whnf))
  (repeat ((first | refine N0 ?_ | refine A0 fun γ => ?_ | refine C1 ?_ | refine C2 ?_ | refine C3 ?_ | refine C4 ?_ | refine C5 ?_ | refine C6 ?_ | refine C7 ?_ | refine D0 fun γs => ?_ | refine A1 fun γs => ?_ | refine N2 ?_ | refine N3 ?_ | refine N1 ?_); ((conv => whnf); repeat ((first | refine Sw.o ?_ | refine B0 ?_); conv => whnf))))
  refine CallP.flat [] (encI (checkF g)) c37 (check37_ok g hz) rfl ?_
  ((conv => whnf); repeat ((first | refine Sw.o ?_ | refine B0 ?_); conv => whnf))
  (repeat ((first | refine N0 ?_ | refine A0 fun γ => ?_ | refine C1 ?_ | refine C2 ?_ | refine C3 ?_ | refine C4 ?_ | refine C5 ?_ | refine C6 ?_ | refine C7 ?_ | refine D0 fun γs => ?_ | refine A1 fun γs => ?_ | refine N2 ?_ | refine N3 ?_ | refine N1 ?_); ((conv => whnf); repeat ((first | refine Sw.o ?_ | refine B0 ?_); conv => whnf))))
  refine CondP.dec (fun h => ?_) (fun h => ?_) <;> ((conv => whnf); repeat ((first | refine Sw.o ?_ | refine B0 ?_); conv => whnf))
  · rw [decide_eq_true h] at hR
    have hg := (check_wf h).1
    (repeat ((first | refine N0 ?_ | refine A0 fun γ => ?_ | refine C1 ?_ | refine C2 ?_ | refine C3 ?_ | refine C4 ?_ | refine C5 ?_ | refine C6 ?_ | refine C7 ?_ | refine D0 fun γs => ?_ | refine A1 fun γs => ?_ | refine N2 ?_ | refine N3 ?_ | refine N1 ?_); ((conv => whnf); repeat ((first | refine Sw.o ?_ | refine B0 ?_); conv => whnf))))
    refine CallP.flat [] (encI (SizeF g)) c40 (Size_ok g hg) rfl ?_
    subst hR
    ((conv => whnf); repeat ((first | refine Sw.o ?_ | refine B0 ?_); conv => whnf))
    (repeat ((first | refine N0 ?_ | refine A0 fun γ => ?_ | refine C1 ?_ | refine C2 ?_ | refine C3 ?_ | refine C4 ?_ | refine C5 ?_ | refine C6 ?_ | refine C7 ?_ | refine D0 fun γs => ?_ | refine A1 fun γs => ?_ | refine N2 ?_ | refine N3 ?_ | refine N1 ?_); ((conv => whnf); repeat ((first | refine Sw.o ?_ | refine B0 ?_); conv => whnf))))
    exact .of rfl
  · rw [decide_eq_false h] at hR
    subst hR
    (repeat ((first | refine N0 ?_ | refine A0 fun γ => ?_ | refine C1 ?_ | refine C2 ?_ | refine C3 ?_ | refine C4 ?_ | refine C5 ?_ | refine C6 ?_ | refine C7 ?_ | refine D0 fun γs => ?_ | refine A1 fun γs => ?_ | refine N2 ?_ | refine N3 ?_ | refine N1 ?_); ((conv => whnf); repeat ((first | refine Sw.o ?_ | refine B0 ?_); conv => whnf))))
    exact .of rfl
def noP : Pt := ⟨[], []⟩
def partsR (g : G) : Pt × Pt × Pt × Int := match decide (checkF g = 0) with
  | true => (partF g (spareF g).1 (joinedF g (spareF g).1), partF g (restF (spareF g).1 (touchF g (spareF g).2)) (restF (joinedF g (spareF g).1) (spareF g).2), partF g (touchF g (spareF g).2) (spareF g).2, 0)
  | false => (noP, noP, noP, checkF g)
theorem le_noP : Le (.agg [.val (.slice none 0 0), .val (.slice none 0 0)]) (encP noP) := by
  have h := Le.cons (Le.nil 1) (Le.cons (Le.nil 3) Le.nils)
  exact Le.agg h.1 h.2
theorem ends_tup4 {a b c d a' b' c' d' : AV} (h1 : Le a a') (h2 : Le b b') (h3 : Le c c') (h4 : Le d d') : Fw.Ends (.tup [a, b, c, d]) (.tup [a', b', c', d']) := by
  have h := Le.cons h1 (Le.cons h2 (Le.cons h3 (Le.cons h4 Le.nils)))
  exact Fw.Ends.le (Le.tup h.1 h.2)
set_option maxHeartbeats 4000000 in
set_option maxRecDepth 100000 in
theorem parts29_ok (g : G) (hz : Sz g) : PureCall Try.prog 29 [encG g] (.tup [encP (partsR g).1, encP (partsR g).2.1, encP (partsR g).2.2.1, encI (partsR g).2.2.2]) := by
  refine pure_cp (E := E 0) T_ok (D_ok 0) [] Try.func29 rfl (by rfl) (Nat.le_of_ble_eq_true rfl) ?_
  generalize hR : partsR g = R
  unfold partsR at hR
  ((conv => whnf); repeat ((first | refine Sw.o ?_ | refine B0 ?_); conv => whnf))
  (repeat ((first | refine N0 ?_ | refine A0 fun γ => ?_ | refine C1 ?_ | refine C2 ?_ | refine C3 ?_ | refine C4 ?_ | refine C5 ?_ | refine C6 ?_ | refine C7 ?_ | refine D0 fun γs => ?_ | refine A1 fun γs => ?_ | refine N2 ?_ | refine N3 ?_ | refine N1 ?_); ((conv => whnf); repeat ((first | refine Sw.o ?_ | refine B0 ?_); conv => whnf))))
  refine CallP.flat [] (encI (checkF g)) c37 (check37_ok g hz) rfl ?_
  ((conv => whnf); repeat ((first | refine Sw.o ?_ | refine B0 ?_); conv => whnf))
  (repeat ((first | refine N0 ?_ | refine A0 fun γ => ?_ | refine C1 ?_ | refine C2 ?_ | refine C3 ?_ | refine C4 ?_ | refine C5 ?_ | refine C6 ?_ | refine C7 ?_ | refine D0 fun γs => ?_ | refine A1 fun γs => ?_ | refine N2 ?_ | refine N3 ?_ | refine N1 ?_); ((conv => whnf); repeat ((first | refine Sw.o ?_ | refine B0 ?_); conv => whnf))))
  refine CondP.dec (fun h => ?_) (fun h => ?_) <;> ((conv => whnf); repeat ((first | refine Sw.o ?_ | refine B0 ?_); conv => whnf))
  · rw [decide_eq_true h] at hR
    have hg := (check_wf h).1
    have su := hg.su
    have se := hg.se
    have hjl := hg.len
    (repeat ((first | refine N0 ?_ | refine A0 fun γ => ?_ | refine C1 ?_ | refine C2 ?_ | refine C3 ?_ | refine C4 ?_ | refine C5 ?_ | refine C6 ?_ | refine C7 ?_ | refine D0 fun γs => ?_ | refine A1 fun γs => ?_ | refine N2 ?_ | refine N3 ?_ | refine N1 ?_); ((conv => whnf); repeat ((first | refine Sw.o ?_ | refine B0 ?_); conv => whnf))))
    refine CallP.pure [] _ c52 (spare_ok g hg) ?_
    have l1 := spareF_len1 g
    have l2 := spareF_len2 g
    have l3 := joinedF_len g (spareF g).1
    have l4 := touchF_len g (spareF g).2
    generalize (spareF g).1 = a at hR l1 l3 ⊢
    generalize (spareF g).2 = b at hR l2 l4 ⊢
    ((conv => whnf); repeat ((first | refine Sw.o ?_ | refine B0 ?_); conv => whnf))
    (repeat ((first | refine N0 ?_ | refine A0 fun γ => ?_ | refine C1 ?_ | refine C2 ?_ | refine C3 ?_ | refine C4 ?_ | refine C5 ?_ | refine C6 ?_ | refine C7 ?_ | refine D0 fun γs => ?_ | refine A1 fun γs => ?_ | refine N2 ?_ | refine N3 ?_ | refine N1 ?_); ((conv => whnf); repeat ((first | refine Sw.o ?_ | refine B0 ?_); conv => whnf))))
    refine CallG.intro (encBs (joinedF g a)) c53 (with_ok g hg a (by omega)) ?_
    ((conv => whnf); repeat ((first | refine Sw.o ?_ | refine B0 ?_); conv => whnf))
    (repeat ((first | refine N0 ?_ | refine A0 fun γ => ?_ | refine C1 ?_ | refine C2 ?_ | refine C3 ?_ | refine C4 ?_ | refine C5 ?_ | refine C6 ?_ | refine C7 ?_ | refine D0 fun γs => ?_ | refine A1 fun γs => ?_ | refine N2 ?_ | refine N3 ?_ | refine N1 ?_); ((conv => whnf); repeat ((first | refine Sw.o ?_ | refine B0 ?_); conv => whnf))))
    refine CallG.intro (encBs (touchF g b)) c54 (under_ok g hg b (by omega)) ?_
    generalize joinedF g a = c at hR l3 ⊢
    generalize touchF g b = d at hR l4 ⊢
    ((conv => whnf); repeat ((first | refine Sw.o ?_ | refine B0 ?_); conv => whnf))
    (repeat ((first | refine N0 ?_ | refine A0 fun γ => ?_ | refine C1 ?_ | refine C2 ?_ | refine C3 ?_ | refine C4 ?_ | refine C5 ?_ | refine C6 ?_ | refine C7 ?_ | refine D0 fun γs => ?_ | refine A1 fun γs => ?_ | refine N2 ?_ | refine N3 ?_ | refine N1 ?_); ((conv => whnf); repeat ((first | refine Sw.o ?_ | refine B0 ?_); conv => whnf))))
    refine CallG.intro (encP (partF g a c)) c55 (refPart_ok g a c (by omega) (by omega) se su) ?_
    ((conv => whnf); repeat ((first | refine Sw.o ?_ | refine B0 ?_); conv => whnf))
    (repeat ((first | refine N0 ?_ | refine A0 fun γ => ?_ | refine C1 ?_ | refine C2 ?_ | refine C3 ?_ | refine C4 ?_ | refine C5 ?_ | refine C6 ?_ | refine C7 ?_ | refine D0 fun γs => ?_ | refine A1 fun γs => ?_ | refine N2 ?_ | refine N3 ?_ | refine N1 ?_); ((conv => whnf); repeat ((first | refine Sw.o ?_ | refine B0 ?_); conv => whnf))))
    refine CallG.intro (encBs (restF a d)) c56 (none_ok a d (by omega) (by omega)) ?_
    ((conv => whnf); repeat ((first | refine Sw.o ?_ | refine B0 ?_); conv => whnf))
    (repeat ((first | refine N0 ?_ | refine A0 fun γ => ?_ | refine C1 ?_ | refine C2 ?_ | refine C3 ?_ | refine C4 ?_ | refine C5 ?_ | refine C6 ?_ | refine C7 ?_ | refine D0 fun γs => ?_ | refine A1 fun γs => ?_ | refine N2 ?_ | refine N3 ?_ | refine N1 ?_); ((conv => whnf); repeat ((first | refine Sw.o ?_ | refine B0 ?_); conv => whnf))))
    refine CallG.intro (encBs (restF c b)) c56 (none_ok c b (by omega) (by omega)) ?_
    ((conv => whnf); repeat ((first | refine Sw.o ?_ | refine B0 ?_); conv => whnf))
    (repeat ((first | refine N0 ?_ | refine A0 fun γ => ?_ | refine C1 ?_ | refine C2 ?_ | refine C3 ?_ | refine C4 ?_ | refine C5 ?_ | refine C6 ?_ | refine C7 ?_ | refine D0 fun γs => ?_ | refine A1 fun γs => ?_ | refine N2 ?_ | refine N3 ?_ | refine N1 ?_); ((conv => whnf); repeat ((first | refine Sw.o ?_ | refine B0 ?_); conv => whnf))))
    refine CallG.intro (encP (partF g (restF a d) (restF c b))) c55 (refPart_ok g _ _ (by rw [restF_len]; omega) (by rw [restF_len]; omega) se su) ?_
    ((conv => whnf); repeat ((first | refine Sw.o ?_ | refine B0 ?_); conv => whnf))
    (repeat ((first | refine N0 ?_ | refine A0 fun γ => ?_ | refine C1 ?_ | refine C2 ?_ | refine C3 ?_ | refine C4 ?_ | refine C5 ?_ | refine C6 ?_ | refine C7 ?_ | refine D0 fun γs => ?_ | refine A1 fun γs => ?_ | refine N2 ?_ | refine N3 ?_ | refine N1 ?_); ((conv => whnf); repeat ((first | refine Sw.o ?_ | refine B0 ?_); conv => whnf))))
    refine CallG.intro (encP (partF g d b)) c55 (refPart_ok g d b (by omega) (by omega) se su) ?_
    subst hR
    ((conv => whnf); repeat ((first | refine Sw.o ?_ | refine B0 ?_); conv => whnf))
    (repeat ((first | refine N0 ?_ | refine A0 fun γ => ?_ | refine C1 ?_ | refine C2 ?_ | refine C3 ?_ | refine C4 ?_ | refine C5 ?_ | refine C6 ?_ | refine C7 ?_ | refine D0 fun γs => ?_ | refine A1 fun γs => ?_ | refine N2 ?_ | refine N3 ?_ | refine N1 ?_); ((conv => whnf); repeat ((first | refine Sw.o ?_ | refine B0 ?_); conv => whnf))))
    exact .of rfl
  · rw [decide_eq_false h] at hR
    subst hR
    (repeat ((first | refine N0 ?_ | refine A0 fun γ => ?_ | refine C1 ?_ | refine C2 ?_ | refine C3 ?_ | refine C4 ?_ | refine C5 ?_ | refine C6 ?_ | refine C7 ?_ | refine D0 fun γs => ?_ | refine A1 fun γs => ?_ | refine N2 ?_ | refine N3 ?_ | refine N1 ?_); ((conv => whnf); repeat ((first | refine Sw.o ?_ | refine B0 ?_); conv => whnf))))
    exact ends_tup4 le_noP le_noP le_noP (Le.refl _)
end Go.Proofs.Ytgeeklnokblokaa
namespace Go.Proofs.Ytgeeklnokblokaa
open Go Go.Fw
def indexP (p : Int → Bool) : List Int → Int → Int
  | [], _ => -1
  | y :: r, i => match p y with
    | true => i
    | false => indexP p r (i + 1)
theorem indexP_ge (p : Int → Bool) : ∀ (l : List Int) (i : Int), 0 ≤ i → (0 ≤ indexP p l i ↔ l.any p = true)
  | [], i, h => by simp [indexP]
  | y :: r, i, h => by
    unfold indexP
    split
    · rename_i e; simp [e, h]
    · rename_i e
      rw [indexP_ge p r (i + 1) (by omega)]
      simp [e]
set_option maxRecDepth 100000 in
theorem indexFunc_ok (k : Nat) (caps : List AV) (H0 : Hp) (p : Int → Bool) (l : List Int) (hl : l.length ≤ 2^40) (hk : Callable Try.prog k) (hf : ∀ x ∈ l, HCall Try.prog k (encI x :: caps) H0 (fun r h => r = encB (p x) ∧ h = H0)) :
    HCall Try.prog 70 [encL l, .fn (.func k) [] caps] H0 (fun r h => r = encI (indexP p l 0) ∧ h = H0) := by
  refine hcall_cp (E := E 0) T_ok (D_ok 0) Try.func70 rfl (by rfl) (Nat.le_of_ble_eq_true rfl) ?_
  generalize hF : indexP p l 0 = F
  ((conv => whnf); repeat ((first | refine Sw.o ?_ | refine B0 ?_); conv => whnf))
  (repeat ((first | refine N0 ?_ | refine A0 fun γ => ?_ | refine C1 ?_ | refine C2 ?_ | refine C3 ?_ | refine C4 ?_ | refine C5 ?_ | refine C6 ?_ | refine C7 ?_ | refine D0 fun γs => ?_ | refine A1 fun γs => ?_ | refine N2 ?_ | refine N3 ?_ | refine N1 ?_); ((conv => whnf); repeat ((first | refine Sw.o ?_ | refine B0 ?_); conv => whnf))))
  refine LoopP.intro (fun n σ H => ∃ i, i ≤ l.length ∧ n = l.length - i ∧ indexP p (l.drop i) i = F ∧ σ = fr [(0, encL l), (1, .fn (.func k) [] caps), (7, encI l.length), (8, encI i)] ∧ H = H0) ?_ ?_
  · exact .intro <| W.of' ⟨_, 0, Nat.zero_le _, rfl, hF, rfl, rfl⟩ ⟨rfl, rfl, by simp; rfl, rfl, trivial⟩
  · rintro n σ H ⟨i, hi, rfl, hc, rfl, hHe⟩
    subst hHe
    ((conv => whnf); repeat ((first | refine Sw.o ?_ | refine B0 ?_); conv => whnf))
    (repeat ((first | refine N0 ?_ | refine A0 fun γ => ?_ | refine C1 ?_ | refine C2 ?_ | refine C3 ?_ | refine C4 ?_ | refine C5 ?_ | refine C6 ?_ | refine C7 ?_ | refine D0 fun γs => ?_ | refine A1 fun γs => ?_ | refine N2 ?_ | refine N3 ?_ | refine N1 ?_); ((conv => whnf); repeat ((first | refine Sw.o ?_ | refine B0 ?_); conv => whnf))))
    refine CondP.dec (fun h => ?_) (fun h => ?_) <;> ((conv => whnf); repeat ((first | refine Sw.o ?_ | refine B0 ?_); conv => whnf))
    · (have h2 := h; try simp only [LN] at h2)
      have hi' : i < l.length := by omega
      have hx := hf _ (List.getElem_mem hi')
      rw [List.drop_eq_getElem_cons hi'] at hc
      unfold indexP at hc
      (repeat ((first | refine N0 ?_ | refine A0 fun γ => ?_ | refine C1 ?_ | refine C2 ?_ | refine C3 ?_ | refine C4 ?_ | refine C5 ?_ | refine C6 ?_ | refine C7 ?_ | refine D0 fun γs => ?_ | refine A1 fun γs => ?_ | refine N2 ?_ | refine N3 ?_ | refine N1 ?_); ((conv => whnf); repeat ((first | refine Sw.o ?_ | refine B0 ?_); conv => whnf))))
      (simp (disch := omega) only [LG]; ((conv => whnf); repeat ((first | refine Sw.o ?_ | refine B0 ?_); conv => whnf)))
      generalize l[i] = x at hx hc ⊢
      (repeat ((first | refine N0 ?_ | refine A0 fun γ => ?_ | refine C1 ?_ | refine C2 ?_ | refine C3 ?_ | refine C4 ?_ | refine C5 ?_ | refine C6 ?_ | refine C7 ?_ | refine D0 fun γs => ?_ | refine A1 fun γs => ?_ | refine N2 ?_ | refine N3 ?_ | refine N1 ?_); ((conv => whnf); repeat ((first | refine Sw.o ?_ | refine B0 ?_); conv => whnf))))
      refine CallP.own hk (HCall.mono (hcall_args (by rfl) hx) ?_)
      rintro r h' ⟨rfl, rfl⟩
      refine ⟨_, fun _ => .inl rfl, ?_⟩
      ((conv => whnf); repeat ((first | refine Sw.o ?_ | refine B0 ?_); conv => whnf))
      (repeat ((first | refine N0 ?_ | refine A0 fun γ => ?_ | refine C1 ?_ | refine C2 ?_ | refine C3 ?_ | refine C4 ?_ | refine C5 ?_ | refine C6 ?_ | refine C7 ?_ | refine D0 fun γs => ?_ | refine A1 fun γs => ?_ | refine N2 ?_ | refine N3 ?_ | refine N1 ?_); ((conv => whnf); repeat ((first | refine Sw.o ?_ | refine B0 ?_); conv => whnf))))
      refine CondP.intro (fun hq => ?_) (fun hq => ?_) <;> ((conv => whnf); repeat ((first | refine Sw.o ?_ | refine B0 ?_); conv => whnf))
      · rw [hq] at hc
        (repeat ((first | refine N0 ?_ | refine A0 fun γ => ?_ | refine C1 ?_ | refine C2 ?_ | refine C3 ?_ | refine C4 ?_ | refine C5 ?_ | refine C6 ?_ | refine C7 ?_ | refine D0 fun γs => ?_ | refine A1 fun γs => ?_ | refine N2 ?_ | refine N3 ?_ | refine N1 ?_); ((conv => whnf); repeat ((first | refine Sw.o ?_ | refine B0 ?_); conv => whnf))))
        exact EndH.intro (fun _ => .inl rfl) ⟨by rw [← hc]; rfl, rfl⟩
      · rw [hq] at hc
        (repeat ((first | refine N0 ?_ | refine A0 fun γ => ?_ | refine C1 ?_ | refine C2 ?_ | refine C3 ?_ | refine C4 ?_ | refine C5 ?_ | refine C6 ?_ | refine C7 ?_ | refine D0 fun γs => ?_ | refine A1 fun γs => ?_ | refine N2 ?_ | refine N3 ?_ | refine N1 ?_); ((conv => whnf); repeat ((first | refine Sw.o ?_ | refine B0 ?_); conv => whnf))))
        exact .intro <| W.of' ⟨_, by omega, i + 1, hi', rfl, hc, rfl, rfl⟩ ⟨rfl, rfl, rfl, rfl, trivial⟩
    · (have h2 := h; try simp only [LN] at h2)
      (repeat ((first | refine N0 ?_ | refine A0 fun γ => ?_ | refine C1 ?_ | refine C2 ?_ | refine C3 ?_ | refine C4 ?_ | refine C5 ?_ | refine C6 ?_ | refine C7 ?_ | refine D0 fun γs => ?_ | refine A1 fun γs => ?_ | refine N2 ?_ | refine N3 ?_ | refine N1 ?_); ((conv => whnf); repeat ((first | refine Sw.o ?_ | refine B0 ?_); conv => whnf))))
      rw [List.drop_eq_nil_of_le (by omega)] at hc
      exact EndH.intro (fun _ => .inl rfl) ⟨by rw [← hc]; rfl, rfl⟩
set_option maxRecDepth 100000 in
theorem containsFunc_ok (k : Nat) (caps : List AV) (H0 : Hp) (p : Int → Bool) (l : List Int) (hl : l.length ≤ 2^40) (hk : Callable Try.prog k) (hf : ∀ x ∈ l, HCall Try.prog k (encI x :: caps) H0 (fun r h => r = encB (p x) ∧ h = H0)) :
    HCall Try.prog 73 [encL l, .fn (.func k) [] caps] H0 (fun r h => r = encB (l.any p) ∧ h = H0) := by
  refine hcall_cp (E := E 0) T_ok (D_ok 0) Try.func73 rfl (by rfl) (Nat.le_of_ble_eq_true rfl) ?_
  ((conv => whnf); repeat ((first | refine Sw.o ?_ | refine B0 ?_); conv => whnf))
  (repeat ((first | refine N0 ?_ | refine A0 fun γ => ?_ | refine C1 ?_ | refine C2 ?_ | refine C3 ?_ | refine C4 ?_ | refine C5 ?_ | refine C6 ?_ | refine C7 ?_ | refine D0 fun γs => ?_ | refine A1 fun γs => ?_ | refine N2 ?_ | refine N3 ?_ | refine N1 ?_); ((conv => whnf); repeat ((first | refine Sw.o ?_ | refine B0 ?_); conv => whnf))))
  refine CallP.own c70 (HCall.mono (hcall_args (by rfl) (indexFunc_ok k caps H0 p l hl hk hf)) ?_)
  rintro r h' ⟨rfl, rfl⟩
  refine ⟨_, fun _ => .inl rfl, ?_⟩
  ((conv => whnf); repeat ((first | refine Sw.o ?_ | refine B0 ?_); conv => whnf))
  (repeat ((first | refine N0 ?_ | refine A0 fun γ => ?_ | refine C1 ?_ | refine C2 ?_ | refine C3 ?_ | refine C4 ?_ | refine C5 ?_ | refine C6 ?_ | refine C7 ?_ | refine D0 fun γs => ?_ | refine A1 fun γs => ?_ | refine N2 ?_ | refine N3 ?_ | refine N1 ?_); ((conv => whnf); repeat ((first | refine Sw.o ?_ | refine B0 ?_); conv => whnf))))
  refine EndH.intro (fun _ => .inl rfl) ⟨?_, rfl⟩
  show AV.val (Value.bool (decide (0 ≤ indexP p l 0))) = AV.val (Value.bool (l.any p))
  have := indexP_ge p l 0 (Int.le_refl _)
  cases h : l.any p
  · rw [h] at this; rw [decide_eq_false (by simpa using this)]
  · rw [h] at this; rw [decide_eq_true (by simpa using this)]
set_option maxRecDepth 100000 in
theorem touch74_ok (q : Nat) (uses : List Bool) (x : Int) (h0 : 0 ≤ x ∧ x < uses.length) :
    HCall Try.prog 74 [encI x, .op 203 q 0 0] (hp [(203, q, ⟨54, 1, [encBs uses]⟩)]) (fun r h => r = encB (uses.getD x.toNat false) ∧ h = hp [(203, q, ⟨54, 1, [encBs uses]⟩)]) := by
  refine hcall_cp (E := E 0) T_ok (D_ok 0) Try.func74 rfl (by rfl) (Nat.le_of_ble_eq_true rfl) ?_
  have hx : x.toNat < uses.length := by omega
  ((conv => whnf); repeat ((first | refine Sw.o ?_ | refine B0 ?_); conv => whnf))
  (repeat ((first | refine N0 ?_ | refine A0 fun γ => ?_ | refine C1 ?_ | refine C2 ?_ | refine C3 ?_ | refine C4 ?_ | refine C5 ?_ | refine C6 ?_ | refine C7 ?_ | refine D0 fun γs => ?_ | refine A1 fun γs => ?_ | refine N2 ?_ | refine N3 ?_ | refine N1 ?_ | simp (disch := omega) only [LG]); ((conv => whnf); repeat ((first | refine Sw.o ?_ | refine B0 ?_); conv => whnf))))
  refine EndH.of (m := [(203, q, ⟨54, 1, [encBs uses]⟩)]) ⟨rfl, trivial⟩ ⟨?_, rfl⟩
  rw [getD_lt _ _ _ hx]; rfl
set_option maxRecDepth 100000 in
theorem touching_ok (g : G) (hg : WF g) (uses : List Bool) (hu : uses.length = g.uses.length) : PureCall Try.prog 47 [encG g, encBs uses] (encBs (touchF g uses)) := by
  refine pure_cp (E := E 0) T_ok (D_ok 0) [11] Try.func47 rfl (by rfl) (Nat.le_of_ble_eq_true rfl) ?_
  have se := hg.se
  have hjl := hg.len
  ((conv => whnf); repeat ((first | refine Sw.o ?_ | refine B0 ?_); conv => whnf))
  (repeat ((first | refine N0 ?_ | refine A0 fun γ => ?_ | refine C1 ?_ | refine C2 ?_ | refine C3 ?_ | refine C4 ?_ | refine C5 ?_ | refine C6 ?_ | refine C7 ?_ | refine D0 fun γs => ?_ | refine A1 fun γs => ?_ | refine N2 ?_ | refine N3 ?_ | refine N1 ?_); ((conv => whnf); repeat ((first | refine Sw.o ?_ | refine B0 ?_); conv => whnf))))
  simp only [List.length_map, Int.toNat_natCast, rep_encB]
  refine LoopP.intro (fun k σ H => ∃ p2 p3 p11 i, ∃ xs : List Bool, i ≤ g.joined.length ∧ k = g.joined.length - i ∧ xs.length = g.eqs.length ∧ (∀ j, j < i → xs.getD j false = (touchF g uses).getD j false) ∧
    σ = fr [(2, .op 2 p2 0 0), (3, .op 3 p3 0 0), (5, .own 11 p11 0 g.eqs.length), (13, .sl 1 (g.joined.map encL)), (14, encI g.joined.length), (15, encI i)] ∧
    H = hp [(11, p11, ⟨4, 1, xs.map encB⟩), (2, p2, ⟨26, 3, [encG g]⟩), (3, p3, ⟨54, 1, [encBs uses]⟩)]) ?_ ?_
  · exact .intro <| W.of ⟨_, _, _, _, 0, _, Nat.zero_le _, rfl, by simp, fun j h => absurd h (by omega), rfl, rfl⟩ ⟨rfl, rfl, rfl, rfl, by simp; rfl, rfl, trivial⟩ ⟨rfl, rfl, rfl, trivial⟩
  · rintro k σ H ⟨p2, p3, p11, i, xs, hi, rfl, hxl, hx, rfl, rfl⟩
    ((conv => whnf); repeat ((first | refine Sw.o ?_ | refine B0 ?_); conv => whnf))
    (repeat ((first | refine N0 ?_ | refine A0 fun γ => ?_ | refine C1 ?_ | refine C2 ?_ | refine C3 ?_ | refine C4 ?_ | refine C5 ?_ | refine C6 ?_ | refine C7 ?_ | refine D0 fun γs => ?_ | refine A1 fun γs => ?_ | refine N2 ?_ | refine N3 ?_ | refine N1 ?_); ((conv => whnf); repeat ((first | refine Sw.o ?_ | refine B0 ?_); conv => whnf))))
    refine CondP.dec (fun h => ?_) (fun h => ?_) <;> ((conv => whnf); repeat ((first | refine Sw.o ?_ | refine B0 ?_); conv => whnf))
    · (have h2 := h; try simp only [LN] at h2)
      have hi' : i < g.joined.length := by omega
      have sl := hg.sl _ (List.getElem_mem hi')
      have hin := hg.in_ _ (List.getElem_mem hi')
      have hT : (touchF g uses).getD i false = (g.joined[i]).any fun u => uses.getD u.toNat false := by
        rw [getD_lt _ _ _ (by simp [touchF]; omega)]; simp [touchF]
      (repeat ((first | refine N0 ?_ | refine A0 fun γ => ?_ | refine C1 ?_ | refine C2 ?_ | refine C3 ?_ | refine C4 ?_ | refine C5 ?_ | refine C6 ?_ | refine C7 ?_ | refine D0 fun γs => ?_ | refine A1 fun γs => ?_ | refine N2 ?_ | refine N3 ?_ | refine N1 ?_); ((conv => whnf); repeat ((first | refine Sw.o ?_ | refine B0 ?_); conv => whnf))))
      (simp (disch := omega) only [LG]; ((conv => whnf); repeat ((first | refine Sw.o ?_ | refine B0 ?_); conv => whnf)))
      generalize g.joined[i] = l at sl hin hT ⊢
      (repeat ((first | refine N0 ?_ | refine A0 fun γ => ?_ | refine C1 ?_ | refine C2 ?_ | refine C3 ?_ | refine C4 ?_ | refine C5 ?_ | refine C6 ?_ | refine C7 ?_ | refine D0 fun γs => ?_ | refine A1 fun γs => ?_ | refine N2 ?_ | refine N3 ?_ | refine N1 ?_); ((conv => whnf); repeat ((first | refine Sw.o ?_ | refine B0 ?_); conv => whnf))))
      refine CallP.frame 1000000 [(203, 3)] rfl c73 (containsFunc_ok 74 [.op 203 p3 0 0] (hp [(203, p3, ⟨54, 1, [encBs uses]⟩)]) (fun u => uses.getD u.toNat false) l (by omega) c74 (fun x hx => touch74_ok p3 uses x (by have := hin x hx; omega))) rfl ⟨rfl, trivial⟩ ?_
      rintro r0 h' ⟨rfl, rfl⟩
      generalize (l.any fun u => uses.getD u.toNat false) = b at hT
      refine ⟨[(11, p11, ⟨4, 1, xs.map encB⟩), (2, p2, ⟨26, 3, [encG g]⟩), (3, p3, ⟨54, 1, [encBs uses]⟩)], ⟨rfl, rfl, rfl, trivial⟩, ?_⟩
      ((conv => whnf); repeat ((first | refine Sw.o ?_ | refine B0 ?_); conv => whnf))
      (repeat ((first | refine N0 ?_ | refine A0 fun γ => ?_ | refine C1 ?_ | refine C2 ?_ | refine C3 ?_ | refine C4 ?_ | refine C5 ?_ | refine C6 ?_ | refine C7 ?_ | refine D0 fun γs => ?_ | refine A1 fun γs => ?_ | refine N2 ?_ | refine N3 ?_ | refine N1 ?_ | simp (disch := omega) only [LG]); ((conv => whnf); repeat ((first | refine Sw.o ?_ | refine B0 ?_); conv => whnf))))
      refine .intro <| W.of ⟨_, by omega, _, _, _, i + 1, xs.set i b, by omega, rfl, by simpa using hxl, ?_, rfl, rfl⟩ ⟨rfl, rfl, rfl, rfl, rfl, rfl, trivial⟩ ⟨?_, rfl, rfl, trivial⟩
      · intro j hj
        rw [getD_set]
        split
        · rename_i e; rw [← e.1, hT]
        · rename_i e; exact hx j (by omega)
      · rw [← set_map (x := b) (h := rfl)]; rfl
    · (have h2 := h; try simp only [LN] at h2)
      (repeat ((first | refine N0 ?_ | refine A0 fun γ => ?_ | refine C1 ?_ | refine C2 ?_ | refine C3 ?_ | refine C4 ?_ | refine C5 ?_ | refine C6 ?_ | refine C7 ?_ | refine D0 fun γs => ?_ | refine A1 fun γs => ?_ | refine N2 ?_ | refine N3 ?_ | refine N1 ?_); ((conv => whnf); repeat ((first | refine Sw.o ?_ | refine B0 ?_); conv => whnf))))
      refine .of ?_
      show AV.sl 1 _ = AV.sl 1 _
      rw [snap_list _ _ _ _ hxl.symm (fun _ => rfl), ext_getD (d := false) (hxl.trans (by simp [touchF, hjl])) (fun j hj => hx j (by omega))]
end Go.Proofs.Ytgeeklnokblokaa
namespace Go.Proofs.Ytgeeklnokblokaa
open Go Go.Fw
theorem overL_n {rec : Int → List Bool → List Bool} (h : ∀ e s, (rec e s).length = s.length) (m : List Int) : ∀ (l : List Int) (s : List Bool), (overL rec m l s).length = s.length
  | [], s => rfl
  | u :: r, s => by unfold overL; rw [overL_n h m r, h]
theorem overF_n (g : G) (m : List Int) : ∀ (n : Nat) (e : Int) (s : List Bool), (overF g m n e s).length = s.length
  | 0, e, s => rfl
  | n + 1, e, s => by
    unfold overF
    split
    · rfl
    · rw [overL_n (overF_n g m n)]; simp
theorem overA_n (g : G) (m : List Int) : ∀ (l : List Int) (e : Nat) (s : List Bool), (overA g m e l s).length = s.length
  | [], e, s => rfl
  | u :: r, e, s => by
    unfold overA
    split
    · rw [overA_n g m r, overF_n]
    · rw [overA_n g m r]
theorem underL_n {rec : Int → List Bool → List Bool} (h : ∀ e s, (rec e s).length = s.length) (of : List Int) (u : Int) : ∀ (l : List (List Int)) (e : Nat) (s : List Bool), (underL rec of u e l s).length = s.length
  | [], e, s => rfl
  | x :: r, e, s => by
    unfold underL
    split
    · rw [underL_n h of u r, h]
    · rw [underL_n h of u r]
theorem underF_n (g : G) (of : List Int) : ∀ (n : Nat) (u : Int) (s : List Bool), (underF g of n u s).length = s.length
  | 0, u, s => rfl
  | n + 1, u, s => by
    unfold underF
    split
    · rfl
    · rw [underL_n (underF_n g of n)]; simp
theorem underA_n (g : G) (of : List Int) : ∀ (l : List Int) (u : Nat) (s : List Bool), (underA g of u l s).length = s.length
  | [], u, s => rfl
  | e :: r, u, s => by
    unfold underA
    split
    · rw [underA_n g of r, underF_n]
    · rw [underA_n g of r]
theorem halvesF_len1 (g : G) : (halvesF g).1.length = g.eqs.length := by unfold halvesF; rw [overA_n]; simp
theorem halvesF_len2 (g : G) : (halvesF g).2.length = g.uses.length := by unfold halvesF; rw [underA_n]; simp
def partsF (g : G) : Pt × Pt × Pt × Int := match decide (checkF g = 0) with
  | true => (partF g (halvesF g).1 (joinedF g (halvesF g).1), partF g (restF (halvesF g).1 (touchF g (halvesF g).2)) (restF (joinedF g (halvesF g).1) (halvesF g).2), partF g (touchF g (halvesF g).2) (halvesF g).2, 0)
  | false => (noP, noP, noP, checkF g)
set_option maxHeartbeats 4000000 in
set_option maxRecDepth 100000 in
theorem parts21_ok (g : G) (hz : Sz g) (hh : checkF g = 0 → Halv g) : PureCall Try.prog 21 [encG g] (.tup [encP (partsF g).1, encP (partsF g).2.1, encP (partsF g).2.2.1, encI (partsF g).2.2.2]) := by
  refine pure_cp (E := E 0) T_ok (D_ok 0) [] Try.func21 rfl (by rfl) (Nat.le_of_ble_eq_true rfl) ?_
  generalize hR : partsF g = R
  unfold partsF at hR
  ((conv => whnf); repeat ((first | refine Sw.o ?_ | refine B0 ?_); conv => whnf))
  (repeat ((first | refine N0 ?_ | refine A0 fun γ => ?_ | refine C1 ?_ | refine C2 ?_ | refine C3 ?_ | refine C4 ?_ | refine C5 ?_ | refine C6 ?_ | refine C7 ?_ | refine D0 fun γs => ?_ | refine A1 fun γs => ?_ | refine N2 ?_ | refine N3 ?_ | refine N1 ?_); ((conv => whnf); repeat ((first | refine Sw.o ?_ | refine B0 ?_); conv => whnf))))
  refine CallP.flat [] (encI (checkF g)) c35 (check35_ok g hz) rfl ?_
  ((conv => whnf); repeat ((first | refine Sw.o ?_ | refine B0 ?_); conv => whnf))
  (repeat ((first | refine N0 ?_ | refine A0 fun γ => ?_ | refine C1 ?_ | refine C2 ?_ | refine C3 ?_ | refine C4 ?_ | refine C5 ?_ | refine C6 ?_ | refine C7 ?_ | refine D0 fun γs => ?_ | refine A1 fun γs => ?_ | refine N2 ?_ | refine N3 ?_ | refine N1 ?_); ((conv => whnf); repeat ((first | refine Sw.o ?_ | refine B0 ?_); conv => whnf))))
  refine CondP.dec (fun h => ?_) (fun h => ?_) <;> ((conv => whnf); repeat ((first | refine Sw.o ?_ | refine B0 ?_); conv => whnf))
  · rw [decide_eq_true h] at hR
    have hg := (check_wf h).1
    have su := hg.su
    have se := hg.se
    have hjl := hg.len
    (repeat ((first | refine N0 ?_ | refine A0 fun γ => ?_ | refine C1 ?_ | refine C2 ?_ | refine C3 ?_ | refine C4 ?_ | refine C5 ?_ | refine C6 ?_ | refine C7 ?_ | refine D0 fun γs => ?_ | refine A1 fun γs => ?_ | refine N2 ?_ | refine N3 ?_ | refine N1 ?_); ((conv => whnf); repeat ((first | refine Sw.o ?_ | refine B0 ?_); conv => whnf))))
    refine CallP.pure [] _ c45 (halvesP_ok g hg (hh h)) ?_
    have l1 := halvesF_len1 g
    have l2 := halvesF_len2 g
    have l3 := joinedF_len g (halvesF g).1
    have l4 := touchF_len g (halvesF g).2
    generalize (halvesF g).1 = a at hR l1 l3 ⊢
    generalize (halvesF g).2 = b at hR l2 l4 ⊢
    ((conv => whnf); repeat ((first | refine Sw.o ?_ | refine B0 ?_); conv => whnf))
    (repeat ((first | refine N0 ?_ | refine A0 fun γ => ?_ | refine C1 ?_ | refine C2 ?_ | refine C3 ?_ | refine C4 ?_ | refine C5 ?_ | refine C6 ?_ | refine C7 ?_ | refine D0 fun γs => ?_ | refine A1 fun γs => ?_ | refine N2 ?_ | refine N3 ?_ | refine N1 ?_); ((conv => whnf); repeat ((first | refine Sw.o ?_ | refine B0 ?_); conv => whnf))))
    refine CallG.intro (encBs (joinedF g a)) c46 (joined_ok g hg a (by omega)) ?_
    ((conv => whnf); repeat ((first | refine Sw.o ?_ | refine B0 ?_); conv => whnf))
    (repeat ((first | refine N0 ?_ | refine A0 fun γ => ?_ | refine C1 ?_ | refine C2 ?_ | refine C3 ?_ | refine C4 ?_ | refine C5 ?_ | refine C6 ?_ | refine C7 ?_ | refine D0 fun γs => ?_ | refine A1 fun γs => ?_ | refine N2 ?_ | refine N3 ?_ | refine N1 ?_); ((conv => whnf); repeat ((first | refine Sw.o ?_ | refine B0 ?_); conv => whnf))))
    refine CallG.intro (encBs (touchF g b)) c47 (touching_ok g hg b (by omega)) ?_
    generalize joinedF g a = c at hR l3 ⊢
    generalize touchF g b = d at hR l4 ⊢
    ((conv => whnf); repeat ((first | refine Sw.o ?_ | refine B0 ?_); conv => whnf))
    (repeat ((first | refine N0 ?_ | refine A0 fun γ => ?_ | refine C1 ?_ | refine C2 ?_ | refine C3 ?_ | refine C4 ?_ | refine C5 ?_ | refine C6 ?_ | refine C7 ?_ | refine D0 fun γs => ?_ | refine A1 fun γs => ?_ | refine N2 ?_ | refine N3 ?_ | refine N1 ?_); ((conv => whnf); repeat ((first | refine Sw.o ?_ | refine B0 ?_); conv => whnf))))
    refine CallG.intro (encP (partF g a c)) c48 (part_ok g a c (by omega) (by omega) se su) ?_
    ((conv => whnf); repeat ((first | refine Sw.o ?_ | refine B0 ?_); conv => whnf))
    (repeat ((first | refine N0 ?_ | refine A0 fun γ => ?_ | refine C1 ?_ | refine C2 ?_ | refine C3 ?_ | refine C4 ?_ | refine C5 ?_ | refine C6 ?_ | refine C7 ?_ | refine D0 fun γs => ?_ | refine A1 fun γs => ?_ | refine N2 ?_ | refine N3 ?_ | refine N1 ?_); ((conv => whnf); repeat ((first | refine Sw.o ?_ | refine B0 ?_); conv => whnf))))
    refine CallG.intro (encBs (restF a d)) c49 (rest_ok a d (by omega) (by omega)) ?_
    ((conv => whnf); repeat ((first | refine Sw.o ?_ | refine B0 ?_); conv => whnf))
    (repeat ((first | refine N0 ?_ | refine A0 fun γ => ?_ | refine C1 ?_ | refine C2 ?_ | refine C3 ?_ | refine C4 ?_ | refine C5 ?_ | refine C6 ?_ | refine C7 ?_ | refine D0 fun γs => ?_ | refine A1 fun γs => ?_ | refine N2 ?_ | refine N3 ?_ | refine N1 ?_); ((conv => whnf); repeat ((first | refine Sw.o ?_ | refine B0 ?_); conv => whnf))))
    refine CallG.intro (encBs (restF c b)) c49 (rest_ok c b (by omega) (by omega)) ?_
    ((conv => whnf); repeat ((first | refine Sw.o ?_ | refine B0 ?_); conv => whnf))
    (repeat ((first | refine N0 ?_ | refine A0 fun γ => ?_ | refine C1 ?_ | refine C2 ?_ | refine C3 ?_ | refine C4 ?_ | refine C5 ?_ | refine C6 ?_ | refine C7 ?_ | refine D0 fun γs => ?_ | refine A1 fun γs => ?_ | refine N2 ?_ | refine N3 ?_ | refine N1 ?_); ((conv => whnf); repeat ((first | refine Sw.o ?_ | refine B0 ?_); conv => whnf))))
    refine CallG.intro (encP (partF g (restF a d) (restF c b))) c48 (part_ok g _ _ (by rw [restF_len]; omega) (by rw [restF_len]; omega) se su) ?_
    ((conv => whnf); repeat ((first | refine Sw.o ?_ | refine B0 ?_); conv => whnf))
    (repeat ((first | refine N0 ?_ | refine A0 fun γ => ?_ | refine C1 ?_ | refine C2 ?_ | refine C3 ?_ | refine C4 ?_ | refine C5 ?_ | refine C6 ?_ | refine C7 ?_ | refine D0 fun γs => ?_ | refine A1 fun γs => ?_ | refine N2 ?_ | refine N3 ?_ | refine N1 ?_); ((conv => whnf); repeat ((first | refine Sw.o ?_ | refine B0 ?_); conv => whnf))))
    refine CallG.intro (encP (partF g d b)) c48 (part_ok g d b (by omega) (by omega) se su) ?_
    subst hR
    ((conv => whnf); repeat ((first | refine Sw.o ?_ | refine B0 ?_); conv => whnf))
    (repeat ((first | refine N0 ?_ | refine A0 fun γ => ?_ | refine C1 ?_ | refine C2 ?_ | refine C3 ?_ | refine C4 ?_ | refine C5 ?_ | refine C6 ?_ | refine C7 ?_ | refine D0 fun γs => ?_ | refine A1 fun γs => ?_ | refine N2 ?_ | refine N3 ?_ | refine N1 ?_); ((conv => whnf); repeat ((first | refine Sw.o ?_ | refine B0 ?_); conv => whnf))))
    exact .of rfl
  · rw [decide_eq_false h] at hR
    subst hR
    (repeat ((first | refine N0 ?_ | refine A0 fun γ => ?_ | refine C1 ?_ | refine C2 ?_ | refine C3 ?_ | refine C4 ?_ | refine C5 ?_ | refine C6 ?_ | refine C7 ?_ | refine D0 fun γs => ?_ | refine A1 fun γs => ?_ | refine N2 ?_ | refine N3 ?_ | refine N1 ?_); ((conv => whnf); repeat ((first | refine Sw.o ?_ | refine B0 ?_); conv => whnf))))
    exact ends_tup4 le_noP le_noP le_noP (Le.refl _)
def coverF (g : G) : Pt × Int := match decide (checkF g = 0) with
  | true => (partF g (restF (halvesF g).1 (halvesF g).1) (joinedF g (halvesF g).1), 0)
  | false => (noP, checkF g)
set_option maxHeartbeats 4000000 in
set_option maxRecDepth 100000 in
theorem cover31_ok (g : G) (hz : Sz g) (hh : checkF g = 0 → Halv g) : PureCall Try.prog 31 [encG g] (.tup [encP (coverF g).1, encI (coverF g).2]) := by
  refine pure_cp (E := E 0) T_ok (D_ok 0) [] Try.func31 rfl (by rfl) (Nat.le_of_ble_eq_true rfl) ?_
  generalize hR : coverF g = R
  unfold coverF at hR
  ((conv => whnf); repeat ((first | refine Sw.o ?_ | refine B0 ?_); conv => whnf))
  (repeat ((first | refine N0 ?_ | refine A0 fun γ => ?_ | refine C1 ?_ | refine C2 ?_ | refine C3 ?_ | refine C4 ?_ | refine C5 ?_ | refine C6 ?_ | refine C7 ?_ | refine D0 fun γs => ?_ | refine A1 fun γs => ?_ | refine N2 ?_ | refine N3 ?_ | refine N1 ?_); ((conv => whnf); repeat ((first | refine Sw.o ?_ | refine B0 ?_); conv => whnf))))
  refine CallP.flat [] (encI (checkF g)) c35 (check35_ok g hz) rfl ?_
  ((conv => whnf); repeat ((first | refine Sw.o ?_ | refine B0 ?_); conv => whnf))
  (repeat ((first | refine N0 ?_ | refine A0 fun γ => ?_ | refine C1 ?_ | refine C2 ?_ | refine C3 ?_ | refine C4 ?_ | refine C5 ?_ | refine C6 ?_ | refine C7 ?_ | refine D0 fun γs => ?_ | refine A1 fun γs => ?_ | refine N2 ?_ | refine N3 ?_ | refine N1 ?_); ((conv => whnf); repeat ((first | refine Sw.o ?_ | refine B0 ?_); conv => whnf))))
  refine CondP.dec (fun h => ?_) (fun h => ?_) <;> ((conv => whnf); repeat ((first | refine Sw.o ?_ | refine B0 ?_); conv => whnf))
  · rw [decide_eq_true h] at hR
    have hg := (check_wf h).1
    have su := hg.su
    have se := hg.se
    have hjl := hg.len
    (repeat ((first | refine N0 ?_ | refine A0 fun γ => ?_ | refine C1 ?_ | refine C2 ?_ | refine C3 ?_ | refine C4 ?_ | refine C5 ?_ | refine C6 ?_ | refine C7 ?_ | refine D0 fun γs => ?_ | refine A1 fun γs => ?_ | refine N2 ?_ | refine N3 ?_ | refine N1 ?_); ((conv => whnf); repeat ((first | refine Sw.o ?_ | refine B0 ?_); conv => whnf))))
    refine CallP.pure [] _ c45 (halvesP_ok g hg (hh h)) ?_
    have l1 := halvesF_len1 g
    have l3 := joinedF_len g (halvesF g).1
    generalize (halvesF g).1 = a at hR l1 l3 ⊢
    ((conv => whnf); repeat ((first | refine Sw.o ?_ | refine B0 ?_); conv => whnf))
    (repeat ((first | refine N0 ?_ | refine A0 fun γ => ?_ | refine C1 ?_ | refine C2 ?_ | refine C3 ?_ | refine C4 ?_ | refine C5 ?_ | refine C6 ?_ | refine C7 ?_ | refine D0 fun γs => ?_ | refine A1 fun γs => ?_ | refine N2 ?_ | refine N3 ?_ | refine N1 ?_); ((conv => whnf); repeat ((first | refine Sw.o ?_ | refine B0 ?_); conv => whnf))))
    refine CallG.intro (encBs (restF a a)) c49 (rest_ok a a (by omega) (by omega)) ?_
    ((conv => whnf); repeat ((first | refine Sw.o ?_ | refine B0 ?_); conv => whnf))
    (repeat ((first | refine N0 ?_ | refine A0 fun γ => ?_ | refine C1 ?_ | refine C2 ?_ | refine C3 ?_ | refine C4 ?_ | refine C5 ?_ | refine C6 ?_ | refine C7 ?_ | refine D0 fun γs => ?_ | refine A1 fun γs => ?_ | refine N2 ?_ | refine N3 ?_ | refine N1 ?_); ((conv => whnf); repeat ((first | refine Sw.o ?_ | refine B0 ?_); conv => whnf))))
    refine CallG.intro (encBs (joinedF g a)) c46 (joined_ok g hg a (by omega)) ?_
    ((conv => whnf); repeat ((first | refine Sw.o ?_ | refine B0 ?_); conv => whnf))
    (repeat ((first | refine N0 ?_ | refine A0 fun γ => ?_ | refine C1 ?_ | refine C2 ?_ | refine C3 ?_ | refine C4 ?_ | refine C5 ?_ | refine C6 ?_ | refine C7 ?_ | refine D0 fun γs => ?_ | refine A1 fun γs => ?_ | refine N2 ?_ | refine N3 ?_ | refine N1 ?_); ((conv => whnf); repeat ((first | refine Sw.o ?_ | refine B0 ?_); conv => whnf))))
    refine CallG.intro (encP (partF g (restF a a) (joinedF g a))) c48 (part_ok g _ _ (by rw [restF_len]; omega) (by omega) se su) ?_
    subst hR
    ((conv => whnf); repeat ((first | refine Sw.o ?_ | refine B0 ?_); conv => whnf))
    (repeat ((first | refine N0 ?_ | refine A0 fun γ => ?_ | refine C1 ?_ | refine C2 ?_ | refine C3 ?_ | refine C4 ?_ | refine C5 ?_ | refine C6 ?_ | refine C7 ?_ | refine D0 fun γs => ?_ | refine A1 fun γs => ?_ | refine N2 ?_ | refine N3 ?_ | refine N1 ?_); ((conv => whnf); repeat ((first | refine Sw.o ?_ | refine B0 ?_); conv => whnf))))
    exact .of rfl
  · rw [decide_eq_false h] at hR
    subst hR
    (repeat ((first | refine N0 ?_ | refine A0 fun γ => ?_ | refine C1 ?_ | refine C2 ?_ | refine C3 ?_ | refine C4 ?_ | refine C5 ?_ | refine C6 ?_ | refine C7 ?_ | refine D0 fun γs => ?_ | refine A1 fun γs => ?_ | refine N2 ?_ | refine N3 ?_ | refine N1 ?_); ((conv => whnf); repeat ((first | refine Sw.o ?_ | refine B0 ?_); conv => whnf))))
    exact ends_tup2 le_noP (Le.refl _)
def coverR (g : G) : Pt × Int := match decide (checkF g = 0) with
  | true => (partF g (restF (spareF g).1 (spareF g).1) (joinedF g (spareF g).1), 0)
  | false => (noP, checkF g)
set_option maxHeartbeats 4000000 in
set_option maxRecDepth 100000 in
theorem cover32_ok (g : G) (hz : Sz g) : PureCall Try.prog 32 [encG g] (.tup [encP (coverR g).1, encI (coverR g).2]) := by
  refine pure_cp (E := E 0) T_ok (D_ok 0) [] Try.func32 rfl (by rfl) (Nat.le_of_ble_eq_true rfl) ?_
  generalize hR : coverR g = R
  unfold coverR at hR
  ((conv => whnf); repeat ((first | refine Sw.o ?_ | refine B0 ?_); conv => whnf))
  (repeat ((first | refine N0 ?_ | refine A0 fun γ => ?_ | refine C1 ?_ | refine C2 ?_ | refine C3 ?_ | refine C4 ?_ | refine C5 ?_ | refine C6 ?_ | refine C7 ?_ | refine D0 fun γs => ?_ | refine A1 fun γs => ?_ | refine N2 ?_ | refine N3 ?_ | refine N1 ?_); ((conv => whnf); repeat ((first | refine Sw.o ?_ | refine B0 ?_); conv => whnf))))
  refine CallP.flat [] (encI (checkF g)) c37 (check37_ok g hz) rfl ?_
  ((conv => whnf); repeat ((first | refine Sw.o ?_ | refine B0 ?_); conv => whnf))
  (repeat ((first | refine N0 ?_ | refine A0 fun γ => ?_ | refine C1 ?_ | refine C2 ?_ | refine C3 ?_ | refine C4 ?_ | refine C5 ?_ | refine C6 ?_ | refine C7 ?_ | refine D0 fun γs => ?_ | refine A1 fun γs => ?_ | refine N2 ?_ | refine N3 ?_ | refine N1 ?_); ((conv => whnf); repeat ((first | refine Sw.o ?_ | refine B0 ?_); conv => whnf))))
  refine CondP.dec (fun h => ?_) (fun h => ?_) <;> ((conv => whnf); repeat ((first | refine Sw.o ?_ | refine B0 ?_); conv => whnf))
  · rw [decide_eq_true h] at hR
    have hg := (check_wf h).1
    have su := hg.su
    have se := hg.se
    have hjl := hg.len
    (repeat ((first | refine N0 ?_ | refine A0 fun γ => ?_ | refine C1 ?_ | refine C2 ?_ | refine C3 ?_ | refine C4 ?_ | refine C5 ?_ | refine C6 ?_ | refine C7 ?_ | refine D0 fun γs => ?_ | refine A1 fun γs => ?_ | refine N2 ?_ | refine N3 ?_ | refine N1 ?_); ((conv => whnf); repeat ((first | refine Sw.o ?_ | refine B0 ?_); conv => whnf))))
    refine CallP.pure [] _ c52 (spare_ok g hg) ?_
    have l1 := spareF_len1 g
    have l3 := joinedF_len g (spareF g).1
    generalize (spareF g).1 = a at hR l1 l3 ⊢
    ((conv => whnf); repeat ((first | refine Sw.o ?_ | refine B0 ?_); conv => whnf))
    (repeat ((first | refine N0 ?_ | refine A0 fun γ => ?_ | refine C1 ?_ | refine C2 ?_ | refine C3 ?_ | refine C4 ?_ | refine C5 ?_ | refine C6 ?_ | refine C7 ?_ | refine D0 fun γs => ?_ | refine A1 fun γs => ?_ | refine N2 ?_ | refine N3 ?_ | refine N1 ?_); ((conv => whnf); repeat ((first | refine Sw.o ?_ | refine B0 ?_); conv => whnf))))
    refine CallG.intro (encBs (restF a a)) c56 (none_ok a a (by omega) (by omega)) ?_
    ((conv => whnf); repeat ((first | refine Sw.o ?_ | refine B0 ?_); conv => whnf))
    (repeat ((first | refine N0 ?_ | refine A0 fun γ => ?_ | refine C1 ?_ | refine C2 ?_ | refine C3 ?_ | refine C4 ?_ | refine C5 ?_ | refine C6 ?_ | refine C7 ?_ | refine D0 fun γs => ?_ | refine A1 fun γs => ?_ | refine N2 ?_ | refine N3 ?_ | refine N1 ?_); ((conv => whnf); repeat ((first | refine Sw.o ?_ | refine B0 ?_); conv => whnf))))
    refine CallG.intro (encBs (joinedF g a)) c53 (with_ok g hg a (by omega)) ?_
    ((conv => whnf); repeat ((first | refine Sw.o ?_ | refine B0 ?_); conv => whnf))
    (repeat ((first | refine N0 ?_ | refine A0 fun γ => ?_ | refine C1 ?_ | refine C2 ?_ | refine C3 ?_ | refine C4 ?_ | refine C5 ?_ | refine C6 ?_ | refine C7 ?_ | refine D0 fun γs => ?_ | refine A1 fun γs => ?_ | refine N2 ?_ | refine N3 ?_ | refine N1 ?_); ((conv => whnf); repeat ((first | refine Sw.o ?_ | refine B0 ?_); conv => whnf))))
    refine CallG.intro (encP (partF g (restF a a) (joinedF g a))) c55 (refPart_ok g _ _ (by rw [restF_len]; omega) (by omega) se su) ?_
    subst hR
    ((conv => whnf); repeat ((first | refine Sw.o ?_ | refine B0 ?_); conv => whnf))
    (repeat ((first | refine N0 ?_ | refine A0 fun γ => ?_ | refine C1 ?_ | refine C2 ?_ | refine C3 ?_ | refine C4 ?_ | refine C5 ?_ | refine C6 ?_ | refine C7 ?_ | refine D0 fun γs => ?_ | refine A1 fun γs => ?_ | refine N2 ?_ | refine N3 ?_ | refine N1 ?_); ((conv => whnf); repeat ((first | refine Sw.o ?_ | refine B0 ?_); conv => whnf))))
    exact .of rfl
  · rw [decide_eq_false h] at hR
    subst hR
    (repeat ((first | refine N0 ?_ | refine A0 fun γ => ?_ | refine C1 ?_ | refine C2 ?_ | refine C3 ?_ | refine C4 ?_ | refine C5 ?_ | refine C6 ?_ | refine C7 ?_ | refine D0 fun γs => ?_ | refine A1 fun γs => ?_ | refine N2 ?_ | refine N3 ?_ | refine N1 ?_); ((conv => whnf); repeat ((first | refine Sw.o ?_ | refine B0 ?_); conv => whnf))))
    exact ends_tup2 le_noP (Le.refl _)
end Go.Proofs.Ytgeeklnokblokaa
namespace Go.Proofs.Ytgeeklnokblokaa
open Go Go.Fw
def culL (T : List Bool → Bool) : Nat → List Bool → List Bool
  | 0, s => s
  | n + 1, s => match s.getD n false with
    | false => culL T n s
    | true => match T (s.set n false) with
      | true => culL T n s
      | false => culL T n (s.set n false)
def culG (g : G) (T : List Bool → Bool) (a : List Bool) : Pt × Int := match decide (checkF g = 0) with
  | false => (noP, checkF g)
  | true => match decide ((cntT a : Int) = 0) with
    | true => (noP, 5)
    | false => (partF g (culL T a.length a) (joinedF g (culL T a.length a)), 0)
def culR (g : G) : Pt × Int := culG g (givenF g) (spareF g).1
def onlyT (g : G) (s : List Bool) : Bool := decide ((greatestF (onlyF g s) []).2 = cntT s)
def culF (g : G) : Pt × Int := culG g (onlyT g) (halvesF g).1
theorem set_back' {l : List Bool} {i : Nat} (h : l.getD i false = true) (hi : i < l.length) : (l.set i false).set i true = l := by
  apply List.ext_getElem
  · simp
  · intro j h1 h2
    simp only [List.getElem_set]
    split
    · rename_i e; subst e; rw [getD_lt _ _ _ hi] at h; exact h.symm
    · rfl
set_option maxHeartbeats 4000000 in
set_option maxRecDepth 100000 in
theorem culprit30_ok (g : G) (hz : Sz g) : PureCall Try.prog 30 [encG g] (.tup [encP (culR g).1, encI (culR g).2]) := by
  refine pure_cp (E := E 0) T_ok (D_ok 0) [] Try.func30 rfl (by rfl) (Nat.le_of_ble_eq_true rfl) ?_
  generalize hR : culR g = R
  unfold culR culG at hR
  ((conv => whnf); repeat ((first | refine Sw.o ?_ | refine B0 ?_); conv => whnf))
  (repeat ((first | refine N0 ?_ | refine A0 fun γ => ?_ | refine C1 ?_ | refine C2 ?_ | refine C3 ?_ | refine C4 ?_ | refine C5 ?_ | refine C6 ?_ | refine C7 ?_ | refine D0 fun γs => ?_ | refine A1 fun γs => ?_ | refine N2 ?_ | refine N3 ?_ | refine N1 ?_); ((conv => whnf); repeat ((first | refine Sw.o ?_ | refine B0 ?_); conv => whnf))))
  refine CallP.flat [] (encI (checkF g)) c37 (check37_ok g hz) rfl ?_
  ((conv => whnf); repeat ((first | refine Sw.o ?_ | refine B0 ?_); conv => whnf))
  (repeat ((first | refine N0 ?_ | refine A0 fun γ => ?_ | refine C1 ?_ | refine C2 ?_ | refine C3 ?_ | refine C4 ?_ | refine C5 ?_ | refine C6 ?_ | refine C7 ?_ | refine D0 fun γs => ?_ | refine A1 fun γs => ?_ | refine N2 ?_ | refine N3 ?_ | refine N1 ?_); ((conv => whnf); repeat ((first | refine Sw.o ?_ | refine B0 ?_); conv => whnf))))
  refine CondP.dec (fun h => ?_) (fun h => ?_) <;> ((conv => whnf); repeat ((first | refine Sw.o ?_ | refine B0 ?_); conv => whnf))
  · rw [decide_eq_true h] at hR
    have hg := (check_wf h).1
    have su := hg.su
    have se := hg.se
    have hjl := hg.len
    simp only at hR
    have l1 := spareF_len1 g
    have l2 := spareF_len2 g
    (repeat ((first | refine N0 ?_ | refine A0 fun γ => ?_ | refine C1 ?_ | refine C2 ?_ | refine C3 ?_ | refine C4 ?_ | refine C5 ?_ | refine C6 ?_ | refine C7 ?_ | refine D0 fun γs => ?_ | refine A1 fun γs => ?_ | refine N2 ?_ | refine N3 ?_ | refine N1 ?_); ((conv => whnf); repeat ((first | refine Sw.o ?_ | refine B0 ?_); conv => whnf))))
    rename_i γ2
    refine CallP.frame 1000000 [(24, 70), (28, 71)] rfl c52 (spareO_ok g hg) rfl trivial ?_
    rintro r0 h' ⟨δ, δ', rfl, rfl⟩
    generalize (spareF g).1 = a at hR l1 ⊢
    generalize (spareF g).2 = b at l2 ⊢
    refine ⟨[(70, δ, ⟨4, 1, a.map encB⟩), (1, _, ⟨26, 3, [encG g]⟩), (2, _, ⟨41, 2, [.agg [.val (.slice none 0 0), .val (.slice none 0 0)]]⟩)], ⟨mvB_flats encB _ (fun _ => rfl) .., rfl, rfl, trivial⟩, ?_⟩
    ((conv => whnf); repeat ((first | refine Sw.o ?_ | refine B0 ?_); conv => whnf))
    (repeat ((first | refine N0 ?_ | refine A0 fun γ => ?_ | refine C1 ?_ | refine C2 ?_ | refine C3 ?_ | refine C4 ?_ | refine C5 ?_ | refine C6 ?_ | refine C7 ?_ | refine D0 fun γs => ?_ | refine A1 fun γs => ?_ | refine N2 ?_ | refine N3 ?_ | refine N1 ?_); ((conv => whnf); repeat ((first | refine Sw.o ?_ | refine B0 ?_); conv => whnf))))
    refine CallP.flat [70] (encI (cntT a)) c57 (pure_args ?_ (many_ok a (by omega))) rfl ?_
    · show [snap [70] _ (.own 70 _ 0 a.length)] = _
      rw [snap_own (B := ⟨4, 1, a.map encB⟩) (by simp) rfl (by simp), snap_list _ _ _ _ rfl (fun _ => rfl)]
      rfl
    ((conv => whnf); repeat ((first | refine Sw.o ?_ | refine B0 ?_); conv => whnf))
    (repeat ((first | refine N0 ?_ | refine A0 fun γ => ?_ | refine C1 ?_ | refine C2 ?_ | refine C3 ?_ | refine C4 ?_ | refine C5 ?_ | refine C6 ?_ | refine C7 ?_ | refine D0 fun γs => ?_ | refine A1 fun γs => ?_ | refine N2 ?_ | refine N3 ?_ | refine N1 ?_); ((conv => whnf); repeat ((first | refine Sw.o ?_ | refine B0 ?_); conv => whnf))))
    refine CondP.dec (fun h0 => ?_) (fun h0 => ?_) <;> ((conv => whnf); repeat ((first | refine Sw.o ?_ | refine B0 ?_); conv => whnf))
    · rw [decide_eq_true h0] at hR
      subst hR
      (repeat ((first | refine N0 ?_ | refine A0 fun γ => ?_ | refine C1 ?_ | refine C2 ?_ | refine C3 ?_ | refine C4 ?_ | refine C5 ?_ | refine C6 ?_ | refine C7 ?_ | refine D0 fun γs => ?_ | refine A1 fun γs => ?_ | refine N2 ?_ | refine N3 ?_ | refine N1 ?_); ((conv => whnf); repeat ((first | refine Sw.o ?_ | refine B0 ?_); conv => whnf))))
      exact ends_tup2 le_noP (Le.refl _)
    · rw [decide_eq_false h0] at hR
      simp only at hR
      (repeat ((first | refine N0 ?_ | refine A0 fun γ => ?_ | refine C1 ?_ | refine C2 ?_ | refine C3 ?_ | refine C4 ?_ | refine C5 ?_ | refine C6 ?_ | refine C7 ?_ | refine D0 fun γs => ?_ | refine A1 fun γs => ?_ | refine N2 ?_ | refine N3 ?_ | refine N1 ?_); ((conv => whnf); repeat ((first | refine Sw.o ?_ | refine B0 ?_); conv => whnf))))
      generalize hC : culL (givenF g) a.length a = c at hR
      refine LoopP.intro (fun k σ H => ∃ p1 p2 p70 n, ∃ s : List Bool, n ≤ s.length ∧ k = n ∧ s.length = g.eqs.length ∧ culL (givenF g) n s = c ∧
        σ = fr [(1, .op 1 p1 0 0), (2, .op 2 p2 0 0), (5, .own 70 p70 0 g.eqs.length), (7, encI ((n : Int) - 1))] ∧
        H = hp [(1, p1, ⟨26, 3, [encG g]⟩), (2, p2, ⟨41, 2, [.agg [.val (.slice none 0 0), .val (.slice none 0 0)]]⟩), (70, p70, ⟨4, 1, s.map encB⟩)]) ?_ ?_
      · exact .intro <| W.of ⟨_, _, _, _, a.length, a, Nat.le_refl _, rfl, l1, hC, rfl, rfl⟩ ⟨rfl, rfl, by rw [← l1]; rfl, rfl, trivial⟩ ⟨rfl, rfl, rfl, trivial⟩
      · rintro k σ H ⟨p1, p2, p70, n, s, hn, rfl, hsl, hL, rfl, rfl⟩
        have hsl' : (s.map encB).length = g.eqs.length := by simpa using hsl
        ((conv => whnf); repeat ((first | refine Sw.o ?_ | refine B0 ?_); conv => whnf))
        (repeat ((first | refine N0 ?_ | refine A0 fun γ => ?_ | refine C1 ?_ | refine C2 ?_ | refine C3 ?_ | refine C4 ?_ | refine C5 ?_ | refine C6 ?_ | refine C7 ?_ | refine D0 fun γs => ?_ | refine A1 fun γs => ?_ | refine N2 ?_ | refine N3 ?_ | refine N1 ?_); ((conv => whnf); repeat ((first | refine Sw.o ?_ | refine B0 ?_); conv => whnf))))
        refine CondP.dec (fun h1 => ?_) (fun h1 => ?_)
        · ((conv => whnf); repeat ((first | refine Sw.o ?_ | refine B0 ?_); conv => whnf))
          obtain ⟨n, rfl⟩ : ∃ m, k = m + 1 := ⟨k - 1, by omega⟩
          have hns : n < s.length := by omega
          have hgd := getD_lt s n false hns
          unfold culL at hL
          simp only [show ((n + 1 : Nat) : Int) - 1 = (n : Int) by omega]
          (repeat ((first | refine N0 ?_ | refine A0 fun γ => ?_ | refine C1 ?_ | refine C2 ?_ | refine C3 ?_ | refine C4 ?_ | refine C5 ?_ | refine C6 ?_ | refine C7 ?_ | refine D0 fun γs => ?_ | refine A1 fun γs => ?_ | refine N2 ?_ | refine N3 ?_ | refine N1 ?_); ((conv => whnf); repeat ((first | refine Sw.o ?_ | refine B0 ?_); conv => whnf))))
          rw [Int.toNat_natCast, Nat.zero_add, getD_map (h := hns)]
          ((conv => whnf); repeat ((first | refine Sw.o ?_ | refine B0 ?_); conv => whnf))
          (repeat ((first | refine N0 ?_ | refine A0 fun γ => ?_ | refine C1 ?_ | refine C2 ?_ | refine C3 ?_ | refine C4 ?_ | refine C5 ?_ | refine C6 ?_ | refine C7 ?_ | refine D0 fun γs => ?_ | refine A1 fun γs => ?_ | refine N2 ?_ | refine N3 ?_ | refine N1 ?_); ((conv => whnf); repeat ((first | refine Sw.o ?_ | refine B0 ?_); conv => whnf))))
          refine CondP.intro (fun hb => ?_) (fun hb => ?_) <;> ((conv => whnf); repeat ((first | refine Sw.o ?_ | refine B0 ?_); conv => whnf))
          · rw [hgd, hb] at hL
            simp only at hL
            have hsb := set_back' (hgd.trans hb) hns
            (repeat ((first | refine N0 ?_ | refine A0 fun γ => ?_ | refine C1 ?_ | refine C2 ?_ | refine C3 ?_ | refine C4 ?_ | refine C5 ?_ | refine C6 ?_ | refine C7 ?_ | refine D0 fun γs => ?_ | refine A1 fun γs => ?_ | refine N2 ?_ | refine N3 ?_ | refine N1 ?_); ((conv => whnf); repeat ((first | refine Sw.o ?_ | refine B0 ?_); conv => whnf))))
            rw [Int.toNat_natCast, Nat.zero_add, getD_map (h := hns)]
            ((conv => whnf); repeat ((first | refine Sw.o ?_ | refine B0 ?_); conv => whnf))
            (repeat ((first | refine N0 ?_ | refine A0 fun γ => ?_ | refine C1 ?_ | refine C2 ?_ | refine C3 ?_ | refine C4 ?_ | refine C5 ?_ | refine C6 ?_ | refine C7 ?_ | refine D0 fun γs => ?_ | refine A1 fun γs => ?_ | refine N2 ?_ | refine N3 ?_ | refine N1 ?_); ((conv => whnf); repeat ((first | refine Sw.o ?_ | refine B0 ?_); conv => whnf))))
            have hsn : (s.map encB).set n (AV.val (Value.bool false)) = (s.set n false).map encB := by rw [← set_map (x := false) (h := rfl)]; rfl
            have hl4 : (s.set n false).length = g.eqs.length := by simpa using hsl
            have hl5 : ((s.set n false).map encB).length = g.eqs.length := by simpa using hsl
            have hut4 : n < (s.set n false).length := by omega
            simp only [hsn]
            refine CallP.flat [70] (encB (givenF g (s.set n false))) c58 (pure_args ?_ (given_ok g hg (s.set n false) hl4)) rfl ?_
            · show [encG g, snap [70] _ (.own 70 _ 0 g.eqs.length)] = _
              rw [snap_own (B := ⟨4, 1, (s.set n false).map encB⟩) (by simp) rfl (by simp [hsl]), snap_list _ _ _ _ hl4.symm (fun _ => rfl)]
              rfl
            ((conv => whnf); repeat ((first | refine Sw.o ?_ | refine B0 ?_); conv => whnf))
            (repeat ((first | refine N0 ?_ | refine A0 fun γ => ?_ | refine C1 ?_ | refine C2 ?_ | refine C3 ?_ | refine C4 ?_ | refine C5 ?_ | refine C6 ?_ | refine C7 ?_ | refine D0 fun γs => ?_ | refine A1 fun γs => ?_ | refine N2 ?_ | refine N3 ?_ | refine N1 ?_); ((conv => whnf); repeat ((first | refine Sw.o ?_ | refine B0 ?_); conv => whnf))))
            refine CondP.intro (fun hz => ?_) (fun hz => ?_) <;> ((conv => whnf); repeat ((first | refine Sw.o ?_ | refine B0 ?_); conv => whnf))
            · rw [hz] at hL
              simp only at hL
              (repeat ((first | refine N0 ?_ | refine A0 fun γ => ?_ | refine C1 ?_ | refine C2 ?_ | refine C3 ?_ | refine C4 ?_ | refine C5 ?_ | refine C6 ?_ | refine C7 ?_ | refine D0 fun γs => ?_ | refine A1 fun γs => ?_ | refine N2 ?_ | refine N3 ?_ | refine N1 ?_); ((conv => whnf); repeat ((first | refine Sw.o ?_ | refine B0 ?_); conv => whnf))))
              rw [Int.toNat_natCast, Nat.zero_add, getD_map (h := hut4)]
              ((conv => whnf); repeat ((first | refine Sw.o ?_ | refine B0 ?_); conv => whnf))
              (repeat ((first | refine N0 ?_ | refine A0 fun γ => ?_ | refine C1 ?_ | refine C2 ?_ | refine C3 ?_ | refine C4 ?_ | refine C5 ?_ | refine C6 ?_ | refine C7 ?_ | refine D0 fun γs => ?_ | refine A1 fun γs => ?_ | refine N2 ?_ | refine N3 ?_ | refine N1 ?_); ((conv => whnf); repeat ((first | refine Sw.o ?_ | refine B0 ?_); conv => whnf))))
              refine .intro <| W.of ⟨n, by omega, _, _, _, n, s, by omega, rfl, hsl, hL, rfl, rfl⟩ ⟨rfl, rfl, rfl, rfl, trivial⟩ ⟨rfl, rfl, ?_, trivial⟩
              show some (_, (⟨4, 1, ((s.set n false).map encB).set n (encB true)⟩ : Blk)) = _
              rw [set_map (x := true) (h := rfl), hsb]
            · rw [hz] at hL
              simp only at hL
              (repeat ((first | refine N0 ?_ | refine A0 fun γ => ?_ | refine C1 ?_ | refine C2 ?_ | refine C3 ?_ | refine C4 ?_ | refine C5 ?_ | refine C6 ?_ | refine C7 ?_ | refine D0 fun γs => ?_ | refine A1 fun γs => ?_ | refine N2 ?_ | refine N3 ?_ | refine N1 ?_); ((conv => whnf); repeat ((first | refine Sw.o ?_ | refine B0 ?_); conv => whnf))))
              exact .intro <| W.of ⟨n, by omega, _, _, _, n, s.set n false, by omega, rfl, hl4, hL, rfl, rfl⟩ ⟨rfl, rfl, rfl, rfl, trivial⟩ ⟨rfl, rfl, rfl, trivial⟩
          · rw [hgd, hb] at hL
            simp only at hL
            (repeat ((first | refine N0 ?_ | refine A0 fun γ => ?_ | refine C1 ?_ | refine C2 ?_ | refine C3 ?_ | refine C4 ?_ | refine C5 ?_ | refine C6 ?_ | refine C7 ?_ | refine D0 fun γs => ?_ | refine A1 fun γs => ?_ | refine N2 ?_ | refine N3 ?_ | refine N1 ?_); ((conv => whnf); repeat ((first | refine Sw.o ?_ | refine B0 ?_); conv => whnf))))
            exact .intro <| W.of ⟨n, by omega, _, _, _, n, s, by omega, rfl, hsl, hL, rfl, rfl⟩ ⟨rfl, rfl, rfl, rfl, trivial⟩ ⟨rfl, rfl, rfl, trivial⟩
        · have hn0 : k = 0 := by omega
          subst hn0
          simp only [culL] at hL
          subst hL
          refine cpA_exitW (W.fre 5 70 p70 0 g.eqs.length (y := encBs s) rfl ?_ (W.of (l := [(1, .op 1 p1 0 0), (2, .op 2 p2 0 0), (5, encBs s)])
            (m := [(1, p1, ⟨26, 3, [encG g]⟩), (2, p2, ⟨41, 2, [.agg [.val (.slice none 0 0), .val (.slice none 0 0)]]⟩)])
            ?_ ⟨rfl, rfl, rfl, trivial⟩ ⟨rfl, rfl, trivial⟩))
          · rw [snap_own (B := ⟨4, 1, s.map encB⟩) (by simp) rfl (by simp [hsl]), snap_list _ _ _ _ hsl.symm (fun _ => rfl)]
            rfl
          ((conv => whnf); repeat ((first | refine Sw.o ?_ | refine B0 ?_); conv => whnf))
          (repeat ((first | refine N0 ?_ | refine A0 fun γ => ?_ | refine C1 ?_ | refine C2 ?_ | refine C3 ?_ | refine C4 ?_ | refine C5 ?_ | refine C6 ?_ | refine C7 ?_ | refine D0 fun γs => ?_ | refine A1 fun γs => ?_ | refine N2 ?_ | refine N3 ?_ | refine N1 ?_); ((conv => whnf); repeat ((first | refine Sw.o ?_ | refine B0 ?_); conv => whnf))))
          refine CallG.intro (encBs (joinedF g s)) c53 (with_ok g hg s (by omega)) ?_
          have l3 := joinedF_len g s
          ((conv => whnf); repeat ((first | refine Sw.o ?_ | refine B0 ?_); conv => whnf))
          (repeat ((first | refine N0 ?_ | refine A0 fun γ => ?_ | refine C1 ?_ | refine C2 ?_ | refine C3 ?_ | refine C4 ?_ | refine C5 ?_ | refine C6 ?_ | refine C7 ?_ | refine D0 fun γs => ?_ | refine A1 fun γs => ?_ | refine N2 ?_ | refine N3 ?_ | refine N1 ?_); ((conv => whnf); repeat ((first | refine Sw.o ?_ | refine B0 ?_); conv => whnf))))
          refine CallG.intro (encP (partF g s (joinedF g s))) c55 (refPart_ok g s _ (by omega) (by omega) se su) ?_
          subst hR
          ((conv => whnf); repeat ((first | refine Sw.o ?_ | refine B0 ?_); conv => whnf))
          (repeat ((first | refine N0 ?_ | refine A0 fun γ => ?_ | refine C1 ?_ | refine C2 ?_ | refine C3 ?_ | refine C4 ?_ | refine C5 ?_ | refine C6 ?_ | refine C7 ?_ | refine D0 fun γs => ?_ | refine A1 fun γs => ?_ | refine N2 ?_ | refine N3 ?_ | refine N1 ?_); ((conv => whnf); repeat ((first | refine Sw.o ?_ | refine B0 ?_); conv => whnf))))
          exact .of rfl
  · rw [decide_eq_false h] at hR
    subst hR
    (repeat ((first | refine N0 ?_ | refine A0 fun γ => ?_ | refine C1 ?_ | refine C2 ?_ | refine C3 ?_ | refine C4 ?_ | refine C5 ?_ | refine C6 ?_ | refine C7 ?_ | refine D0 fun γs => ?_ | refine A1 fun γs => ?_ | refine N2 ?_ | refine N3 ?_ | refine N1 ?_); ((conv => whnf); repeat ((first | refine Sw.o ?_ | refine B0 ?_); conv => whnf))))
    exact ends_tup2 le_noP (Le.refl _)
end Go.Proofs.Ytgeeklnokblokaa
