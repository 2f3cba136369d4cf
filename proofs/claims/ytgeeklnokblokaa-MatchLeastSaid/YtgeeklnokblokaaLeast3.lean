/- Part 3 of the proof: joined texts (abstract values and their rules; walks of the functions; plain lemmas). -/
import Derived.Test.YtgeeklnokblokaaLeast2
set_option linter.unusedVariables false
set_option linter.unusedSimpArgs false
set_option linter.unusedSectionVars false
namespace Go.Proofs.Ytgeeklnokblokaa
open Go Go.Fw
theorem onlyJ_get : ∀ (l : List (List Int)) (b : List Bool) (i : Nat) (h : i < l.length) (h' : i < (onlyJ l b).length), ((onlyJ l b)[i]).1 = l[i]
  | l :: r, [], 0, _, _ => by simp [onlyJ]
  | l :: r, [], i + 1, h, h' => by simp [onlyJ]
  | l :: r, b :: s, 0, _, _ => rfl
  | l :: r, b :: s, i + 1, h, h' => by
    simp only [onlyJ, List.getElem_cons_succ]
    exact onlyJ_get r s i (by simpa using h) (by simpa [onlyJ] using h')
theorem cutJ_sub (x : List Int × Bool) : (cutJ x).length ≤ x.1.length ∧ ∀ u ∈ cutJ x, u ∈ x.1 := by
  obtain ⟨l, b⟩ := x
  cases b
  · exact ⟨Nat.zero_le _, fun u h => absurd h (by simp [cutJ])⟩
  · exact ⟨Nat.le_refl _, fun u h => h⟩
theorem only_wf {g : G} (hg : WF g) (eqs : List Bool) : WF (onlyF g eqs) := by
  have hin : ∀ l ∈ (onlyF g eqs).joined, ∃ l' ∈ g.joined, l.length ≤ l'.length ∧ ∀ x ∈ l, x ∈ l' := by
    intro l h
    obtain ⟨x, hx, rfl⟩ := List.mem_map.1 h
    obtain ⟨k, hk, rfl⟩ := List.getElem_of_mem hx
    have hk' : k < g.joined.length := by rw [← onlyJ_len g.joined eqs]; exact hk
    have := cutJ_sub (onlyJ g.joined eqs)[k]
    rw [onlyJ_get g.joined eqs k hk' hk] at this
    exact ⟨_, List.getElem_mem hk', this⟩
  refine ⟨by simp [onlyF, onlyJ_len, hg.len], fun l h x hx => ?_, hg.se, hg.su, fun l h => ?_⟩
  · obtain ⟨l', h1, h2, h3⟩ := hin l h
    exact hg.in_ l' h1 x (h3 x hx)
  · obtain ⟨l', h1, h2, h3⟩ := hin l h
    exact Nat.le_trans h2 (hg.sl l' h1)
theorem le_only (g : G) (eqs : List Bool) : Le (.agg [.sl 1 (g.eqs.map encS), .sl 3 (g.uses.map encU), .sl 1 ((onlyJ g.joined eqs).map encL0)]) (encG (onlyF g eqs)) := by
  have h3 : Le (.sl 1 ((onlyJ g.joined eqs).map encL0)) (.sl 1 ((onlyF g eqs).joined.map encL)) := by
    unfold onlyF
    refine Le.sl (by simp) fun i h h' => ?_
    simp only [List.getElem_map]
    exact le0 _
  have h := Le.cons (Le.refl (.sl 1 (g.eqs.map encS))) (Le.cons (Le.refl (.sl 3 (g.uses.map encU))) (Le.cons h3 Le.nils))
  exact Le.agg h.1 h.2
theorem snap_g3 {S : List Nat} {H : Hp} {xs ys : List AV} {b q n : Nat} : List.map (snap S H) [.agg [.sl 1 xs, .sl 3 ys, .own b q 0 n], .val (.slice none 0 0)] = [.agg [.sl 1 xs, .sl 3 ys, snap S H (.own b q 0 n)], .val (.slice none 0 0)] := rfl
theorem greatestO_ok (g : G) (hg : WF g) (eqs : List Bool) : PureCall Try.prog 39 [.agg [.sl 1 (g.eqs.map encS), .sl 3 (g.uses.map encU), .sl 1 ((onlyJ g.joined eqs).map encL0)], .val (.slice none 0 0)] (.tup [encL (greatestF (onlyF g eqs) []).1, encI (greatestF (onlyF g eqs) []).2]) := by
  refine PureCall.le (greatest0_ok _ (only_wf hg eqs)) rfl (fun i h h' => ?_)
  rcases i with _ | _ | i
  · exact le_only g eqs
  · exact Le.refl _
  · simp at h'; omega
set_option maxHeartbeats 4000000 in
set_option maxRecDepth 100000 in
theorem culprit27_ok (g : G) (hz : Sz g) (hh : checkF g = 0 → Halv g) : PureCall Try.prog 27 [encG g] (.tup [encP (culF g).1, encI (culF g).2]) := by
  refine pure_cp (E := E 0) T_ok (D_ok 0) [] Try.func27 rfl (by rfl) (Nat.le_of_ble_eq_true rfl) ?_
  generalize hR : culF g = R
  unfold culF culG at hR
  ((conv => whnf); repeat ((first | refine Sw.o ?_ | refine B0 ?_); conv => whnf))
  (repeat ((first | refine N0 ?_ | refine A0 fun γ => ?_ | refine C1 ?_ | refine C2 ?_ | refine C3 ?_ | refine C4 ?_ | refine C5 ?_ | refine C6 ?_ | refine C7 ?_ | refine D0 fun γs => ?_ | refine A1 fun γs => ?_ | refine N2 ?_ | refine N3 ?_ | refine N1 ?_); ((conv => whnf); repeat ((first | refine Sw.o ?_ | refine B0 ?_); conv => whnf))))
  refine CallP.flat [] (encI (checkF g)) c35 (check35_ok g hz) rfl ?_
  ((conv => whnf); repeat ((first | refine Sw.o ?_ | refine B0 ?_); conv => whnf))
  (repeat ((first | refine N0 ?_ | refine A0 fun γ => ?_ | refine C1 ?_ | refine C2 ?_ | refine C3 ?_ | refine C4 ?_ | refine C5 ?_ | refine C6 ?_ | refine C7 ?_ | refine D0 fun γs => ?_ | refine A1 fun γs => ?_ | refine N2 ?_ | refine N3 ?_ | refine N1 ?_); ((conv => whnf); repeat ((first | refine Sw.o ?_ | refine B0 ?_); conv => whnf))))
  refine CondP.dec (fun h => ?_) (fun h => ?_) <;> ((conv => whnf); repeat ((first | refine Sw.o ?_ | refine B0 ?_); conv => whnf))
  · rw [decide_eq_true h] at hR
    have hg := (check_wf h).1
    have su := hg.su
    have se := hg.se
    have hjl := hg.len
    simp only at hR
    have l1 := halvesF_len1 g
    have l2 := halvesF_len2 g
    (repeat ((first | refine N0 ?_ | refine A0 fun γ => ?_ | refine C1 ?_ | refine C2 ?_ | refine C3 ?_ | refine C4 ?_ | refine C5 ?_ | refine C6 ?_ | refine C7 ?_ | refine D0 fun γs => ?_ | refine A1 fun γs => ?_ | refine N2 ?_ | refine N3 ?_ | refine N1 ?_); ((conv => whnf); repeat ((first | refine Sw.o ?_ | refine B0 ?_); conv => whnf))))
    rename_i γ2
    refine CallP.frame 1000000 [(44, 70), (48, 71)] rfl c45 (halvesO_ok g hg (hh h)) rfl trivial ?_
    rintro r0 h' ⟨δ, δ', rfl, rfl⟩
    generalize (halvesF g).1 = a at hR l1 ⊢
    generalize (halvesF g).2 = b at l2 ⊢
    refine ⟨[(70, δ, ⟨4, 1, a.map encB⟩), (1, _, ⟨26, 3, [encG g]⟩), (2, _, ⟨41, 2, [.agg [.val (.slice none 0 0), .val (.slice none 0 0)]]⟩)], ⟨mvB_flats encB _ (fun _ => rfl) .., rfl, rfl, trivial⟩, ?_⟩
    ((conv => whnf); repeat ((first | refine Sw.o ?_ | refine B0 ?_); conv => whnf))
    (repeat ((first | refine N0 ?_ | refine A0 fun γ => ?_ | refine C1 ?_ | refine C2 ?_ | refine C3 ?_ | refine C4 ?_ | refine C5 ?_ | refine C6 ?_ | refine C7 ?_ | refine D0 fun γs => ?_ | refine A1 fun γs => ?_ | refine N2 ?_ | refine N3 ?_ | refine N1 ?_); ((conv => whnf); repeat ((first | refine Sw.o ?_ | refine B0 ?_); conv => whnf))))
    refine CallP.flat [70] (encI (cntT a)) c50 (pure_args ?_ (count_ok a (by omega))) rfl ?_
    · show [snap [70] _ (.own 70 _ 0 a.length)] = _
      rw [snap_own (B := ⟨4, 1, a.map encB⟩) (by simp) rfl (by simp), snap_list _ _ _ _ rfl (fun _ => rfl)]
      rfl
    ((conv => whnf); repeat ((first | refine Sw.o ?_ | refine B0 ?_); conv => whnf))
    (repeat ((first | refine N0 ?_ | refine A0 fun γ => ?_ | refine C1 ?_ | refine C2 ?_ | refine C3 ?_ | refine C4 ?_ | refine C5 ?_ | refine C6 ?_ | refine C7 ?_ | refine D0 fun γs => ?_ | refine A1 fun γs => ?_ | refine N2 ?_ | refine N3 ?_ | refine N1 ?_); ((conv => whnf); repeat ((first | refine Sw.o ?_ | refine B0 ?_); conv => whnf))))
    refine CondP.dec (fun h0 => ?_) (fun h0 => ?_) <;> ((conv => whnf); repeat ((first | refine Sw.o ?_ | refine B0 ?_); conv => whnf))
    · rw [decide_eq_true h0] at hR
      subst hR
      (repeat ((first | refine N0 ?_ | refine A0 fun γ => ?_ | refine C1 ?_ | refine C2 ?_ | refine C3 ?_ | refine C4 ?_ | refine C5 ?_ | refine C6 ?_ | refine C7 ?_ | refine D0 fun γs => ?_ | refine A1 fun γs => ?_ | refine N2 ?_ | refine N3 ?_ | refine N1 ?_); ((conv => whnf); repeat ((first | refine Sw.o ?_ | refine B0 ?_); conv => whnf))))
      exact ends_tup2 le_noP (Le.refl _)
    · rw [decide_eq_false h0] at hR
      simp only at hR
      (repeat ((first | refine N0 ?_ | refine A0 fun γ => ?_ | refine C1 ?_ | refine C2 ?_ | refine C3 ?_ | refine C4 ?_ | refine C5 ?_ | refine C6 ?_ | refine C7 ?_ | refine D0 fun γs => ?_ | refine A1 fun γs => ?_ | refine N2 ?_ | refine N3 ?_ | refine N1 ?_); ((conv => whnf); repeat ((first | refine Sw.o ?_ | refine B0 ?_); conv => whnf))))
      generalize hC : culL (onlyT g) a.length a = c at hR
      refine LoopP.intro (fun k σ H => ∃ p1 p2 p70 n, ∃ s : List Bool, n ≤ s.length ∧ k = n ∧ s.length = g.eqs.length ∧ culL (onlyT g) n s = c ∧
        σ = fr [(1, .op 1 p1 0 0), (2, .op 2 p2 0 0), (5, .own 70 p70 0 g.eqs.length), (7, encI ((n : Int) - 1))] ∧
        H = hp [(1, p1, ⟨26, 3, [encG g]⟩), (2, p2, ⟨41, 2, [.agg [.val (.slice none 0 0), .val (.slice none 0 0)]]⟩), (70, p70, ⟨4, 1, s.map encB⟩)]) ?_ ?_
      · exact .intro <| W.of ⟨_, _, _, _, a.length, a, Nat.le_refl _, rfl, l1, hC, rfl, rfl⟩ ⟨rfl, rfl, by rw [← l1]; rfl, rfl, trivial⟩ ⟨rfl, rfl, rfl, trivial⟩
      · rintro k σ H ⟨p1, p2, p70, n, s, hn, rfl, hsl, hL, rfl, rfl⟩
        have hsl' : (s.map encB).length = g.eqs.length := by simpa using hsl
        ((conv => whnf); repeat ((first | refine Sw.o ?_ | refine B0 ?_); conv => whnf))
        (repeat ((first | refine N0 ?_ | refine A0 fun γ => ?_ | refine C1 ?_ | refine C2 ?_ | refine C3 ?_ | refine C4 ?_ | refine C5 ?_ | refine C6 ?_ | refine C7 ?_ | refine D0 fun γs => ?_ | refine A1 fun γs => ?_ | refine N2 ?_ | refine N3 ?_ | refine N1 ?_); ((conv => whnf); repeat ((first | refine Sw.o ?_ | refine B0 ?_); conv => whnf))))
        refine CondP.dec (fun h1 => ?_) (fun h1 => ?_)
        · ((conv => whnf); repeat ((first | refine Sw.o ?_ | refine B0 ?_); conv => whnf))
          obtain ⟨n, rfl⟩ : ∃ m, k = m + 1 := ⟨k - 1, by omega⟩
          have hns : n < s.length := by omega
          have hgd := getD_lt s n false hns
          unfold culL at hL
          simp only [show ((n + 1 : Nat) : Int) - 1 = (n : Int) by omega]
          (repeat ((first | refine N0 ?_ | refine A0 fun γ => ?_ | refine C1 ?_ | refine C2 ?_ | refine C3 ?_ | refine C4 ?_ | refine C5 ?_ | refine C6 ?_ | refine C7 ?_ | refine D0 fun γs => ?_ | refine A1 fun γs => ?_ | refine N2 ?_ | refine N3 ?_ | refine N1 ?_); ((conv => whnf); repeat ((first | refine Sw.o ?_ | refine B0 ?_); conv => whnf))))
          rw [Int.toNat_natCast, Nat.zero_add, getD_map (h := hns)]
          ((conv => whnf); repeat ((first | refine Sw.o ?_ | refine B0 ?_); conv => whnf))
          (repeat ((first | refine N0 ?_ | refine A0 fun γ => ?_ | refine C1 ?_ | refine C2 ?_ | refine C3 ?_ | refine C4 ?_ | refine C5 ?_ | refine C6 ?_ | refine C7 ?_ | refine D0 fun γs => ?_ | refine A1 fun γs => ?_ | refine N2 ?_ | refine N3 ?_ | refine N1 ?_); ((conv => whnf); repeat ((first | refine Sw.o ?_ | refine B0 ?_); conv => whnf))))
          refine CondP.intro (fun hb => ?_) (fun hb => ?_) <;> ((conv => whnf); repeat ((first | refine Sw.o ?_ | refine B0 ?_); conv => whnf))
          · rw [hgd, hb] at hL
            simp only at hL
            have hsb := set_back' (hgd.trans hb) hns
            (repeat ((first | refine N0 ?_ | refine A0 fun γ => ?_ | refine C1 ?_ | refine C2 ?_ | refine C3 ?_ | refine C4 ?_ | refine C5 ?_ | refine C6 ?_ | refine C7 ?_ | refine D0 fun γs => ?_ | refine A1 fun γs => ?_ | refine N2 ?_ | refine N3 ?_ | refine N1 ?_); ((conv => whnf); repeat ((first | refine Sw.o ?_ | refine B0 ?_); conv => whnf))))
            rw [Int.toNat_natCast, Nat.zero_add, getD_map (h := hns)]
            ((conv => whnf); repeat ((first | refine Sw.o ?_ | refine B0 ?_); conv => whnf))
            (repeat ((first | refine N0 ?_ | refine A0 fun γ => ?_ | refine C1 ?_ | refine C2 ?_ | refine C3 ?_ | refine C4 ?_ | refine C5 ?_ | refine C6 ?_ | refine C7 ?_ | refine D0 fun γs => ?_ | refine A1 fun γs => ?_ | refine N2 ?_ | refine N3 ?_ | refine N1 ?_); ((conv => whnf); repeat ((first | refine Sw.o ?_ | refine B0 ?_); conv => whnf))))
            have hsn : (s.map encB).set n (AV.val (Value.bool false)) = (s.set n false).map encB := by rw [← set_map (x := false) (h := rfl)]; rfl
            have hl4 : (s.set n false).length = g.eqs.length := by simpa using hsl
            have hl5 : ((s.set n false).map encB).length = g.eqs.length := by simpa using hsl
            have hut4 : n < (s.set n false).length := by omega
            simp only [hsn]
            have hT : onlyT g (s.set n false) = decide ((greatestF (onlyF g (s.set n false)) []).2 = cntT (s.set n false)) := rfl
            have hol := onlyJ_len g.joined (s.set n false)
            have hgr := greatestO_ok g hg (s.set n false)
            refine CallP.frame 1000000 [(100, 70), (11, 43)] rfl c51 (onlyO_ok g hg p70 (s.set n false) hl4) (by show [_, AV.own 100 p70 0 _] = _; rw [hl4]; rfl) ⟨mvB_flats encB _ (fun _ => rfl) .., trivial⟩ ?_
            rintro r0 h' ⟨ε, rfl, rfl⟩
            generalize greatestF (onlyF g (s.set n false)) [] = gr at hT hgr
            generalize onlyJ g.joined (s.set n false) = oj at hol hgr ⊢
            refine ⟨[(70, p70, ⟨4, 1, (s.set n false).map encB⟩), (43, ε, ⟨29, 1, oj.map encL0⟩), (1, p1, ⟨26, 3, [encG g]⟩), (2, p2, ⟨41, 2, [.agg [.val (.slice none 0 0), .val (.slice none 0 0)]]⟩)], ⟨mvB_flats encB _ (fun _ => rfl) .., mvB_flats encL0 _ (by rintro ⟨l, b⟩; cases b <;> rfl) .., rfl, rfl, trivial⟩, ?_⟩
            ((conv => whnf); repeat ((first | refine Sw.o ?_ | refine B0 ?_); conv => whnf))
            (repeat ((first | refine N0 ?_ | refine A0 fun γ => ?_ | refine C1 ?_ | refine C2 ?_ | refine C3 ?_ | refine C4 ?_ | refine C5 ?_ | refine C6 ?_ | refine C7 ?_ | refine D0 fun γs => ?_ | refine A1 fun γs => ?_ | refine N2 ?_ | refine N3 ?_ | refine N1 ?_); ((conv => whnf); repeat ((first | refine Sw.o ?_ | refine B0 ?_); conv => whnf))))
            refine CallP.pure [43] _ c39 (pure_args ?_ hgr) ?_
            · refine (snap_g3 (xs := g.eqs.map encS) (ys := g.uses.map encU) (b := 43) (q := ε) (n := g.joined.length)).trans ?_
              rw [snap_own (B := ⟨29, 1, oj.map encL0⟩) (by simp) rfl (by simp [hol]), snap_list _ _ _ _ hol.symm (by rintro ⟨l, b⟩; cases b <;> rfl)]
            ((conv => whnf); repeat ((first | refine Sw.o ?_ | refine B0 ?_); conv => whnf))
            (repeat ((first | refine N0 ?_ | refine A0 fun γ => ?_ | refine C1 ?_ | refine C2 ?_ | refine C3 ?_ | refine C4 ?_ | refine C5 ?_ | refine C6 ?_ | refine C7 ?_ | refine D0 fun γs => ?_ | refine A1 fun γs => ?_ | refine N2 ?_ | refine N3 ?_ | refine N1 ?_); ((conv => whnf); repeat ((first | refine Sw.o ?_ | refine B0 ?_); conv => whnf))))
            refine CallP.flat [70] (encI (cntT (s.set n false))) c50 (pure_args ?_ (count_ok (s.set n false) (by omega))) rfl ?_
            · show [snap [70] _ (.own 70 _ 0 g.eqs.length)] = _
              rw [snap_own (B := ⟨4, 1, (s.set n false).map encB⟩) (by simp) rfl (by simp [hsl]), snap_list _ _ _ _ hl4.symm (fun _ => rfl)]
              rfl
            rw [hT] at hL
            ((conv => whnf); repeat ((first | refine Sw.o ?_ | refine B0 ?_); conv => whnf))
            (repeat ((first | refine N0 ?_ | refine A0 fun γ => ?_ | refine C1 ?_ | refine C2 ?_ | refine C3 ?_ | refine C4 ?_ | refine C5 ?_ | refine C6 ?_ | refine C7 ?_ | refine D0 fun γs => ?_ | refine A1 fun γs => ?_ | refine N2 ?_ | refine N3 ?_ | refine N1 ?_); ((conv => whnf); repeat ((first | refine Sw.o ?_ | refine B0 ?_); conv => whnf))))
            refine CondP.dec (fun hz => ?_) (fun hz => ?_) <;> ((conv => whnf); repeat ((first | refine Sw.o ?_ | refine B0 ?_); conv => whnf))
            · rw [decide_eq_true hz] at hL
              simp only at hL
              (repeat ((first | refine N0 ?_ | refine A0 fun γ => ?_ | refine C1 ?_ | refine C2 ?_ | refine C3 ?_ | refine C4 ?_ | refine C5 ?_ | refine C6 ?_ | refine C7 ?_ | refine D0 fun γs => ?_ | refine A1 fun γs => ?_ | refine N2 ?_ | refine N3 ?_ | refine N1 ?_); ((conv => whnf); repeat ((first | refine Sw.o ?_ | refine B0 ?_); conv => whnf))))
              rw [Int.toNat_natCast, Nat.zero_add, getD_map (h := hut4)]
              ((conv => whnf); repeat ((first | refine Sw.o ?_ | refine B0 ?_); conv => whnf))
              (repeat ((first | refine N0 ?_ | refine A0 fun γ => ?_ | refine C1 ?_ | refine C2 ?_ | refine C3 ?_ | refine C4 ?_ | refine C5 ?_ | refine C6 ?_ | refine C7 ?_ | refine D0 fun γs => ?_ | refine A1 fun γs => ?_ | refine N2 ?_ | refine N3 ?_ | refine N1 ?_); ((conv => whnf); repeat ((first | refine Sw.o ?_ | refine B0 ?_); conv => whnf))))
              refine .intro <| W.of ⟨n, by omega, _, _, _, n, s, by omega, rfl, hsl, hL, rfl, rfl⟩ ⟨rfl, rfl, rfl, rfl, trivial⟩ ⟨rfl, rfl, ?_, trivial⟩
              show some (_, (⟨4, 1, ((s.set n false).map encB).set n (encB true)⟩ : Blk)) = _
              rw [set_map (x := true) (h := rfl), hsb]
            · rw [decide_eq_false hz] at hL
              simp only at hL
              (repeat ((first | refine N0 ?_ | refine A0 fun γ => ?_ | refine C1 ?_ | refine C2 ?_ | refine C3 ?_ | refine C4 ?_ | refine C5 ?_ | refine C6 ?_ | refine C7 ?_ | refine D0 fun γs => ?_ | refine A1 fun γs => ?_ | refine N2 ?_ | refine N3 ?_ | refine N1 ?_); ((conv => whnf); repeat ((first | refine Sw.o ?_ | refine B0 ?_); conv => whnf))))
              exact .intro <| W.of ⟨n, by omega, _, _, _, n, s.set n false, by omega, rfl, hl4, hL, rfl, rfl⟩ ⟨rfl, rfl, rfl, rfl, trivial⟩ ⟨rfl, rfl, rfl, trivial⟩
          · rw [hgd, hb] at hL
            simp only at hL
            (repeat ((first | refine N0 ?_ | refine A0 fun γ => ?_ | refine C1 ?_ | refine C2 ?_ | refine C3 ?_ | refine C4 ?_ | refine C5 ?_ | refine C6 ?_ | refine C7 ?_ | refine D0 fun γs => ?_ | refine A1 fun γs => ?_ | refine N2 ?_ | refine N3 ?_ | refine N1 ?_); ((conv => whnf); repeat ((first | refine Sw.o ?_ | refine B0 ?_); conv => whnf))))
            exact .intro <| W.of ⟨n, by omega, _, _, _, n, s, by omega, rfl, hsl, hL, rfl, rfl⟩ ⟨rfl, rfl, rfl, rfl, trivial⟩ ⟨rfl, rfl, rfl, trivial⟩
        · have hn0 : k = 0 := by omega
          subst hn0
          simp only [culL] at hL
          subst hL
          refine cpA_exitW (W.fre 5 70 p70 0 g.eqs.length (y := encBs s) rfl ?_ (W.of (l := [(1, .op 1 p1 0 0), (2, .op 2 p2 0 0), (5, encBs s)])
            (m := [(1, p1, ⟨26, 3, [encG g]⟩), (2, p2, ⟨41, 2, [.agg [.val (.slice none 0 0), .val (.slice none 0 0)]]⟩)])
            ?_ ⟨rfl, rfl, rfl, trivial⟩ ⟨rfl, rfl, trivial⟩))
          · rw [snap_own (B := ⟨4, 1, s.map encB⟩) (by simp) rfl (by simp [hsl]), snap_list _ _ _ _ hsl.symm (fun _ => rfl)]
            rfl
          ((conv => whnf); repeat ((first | refine Sw.o ?_ | refine B0 ?_); conv => whnf))
          (repeat ((first | refine N0 ?_ | refine A0 fun γ => ?_ | refine C1 ?_ | refine C2 ?_ | refine C3 ?_ | refine C4 ?_ | refine C5 ?_ | refine C6 ?_ | refine C7 ?_ | refine D0 fun γs => ?_ | refine A1 fun γs => ?_ | refine N2 ?_ | refine N3 ?_ | refine N1 ?_); ((conv => whnf); repeat ((first | refine Sw.o ?_ | refine B0 ?_); conv => whnf))))
          refine CallG.intro (encBs (joinedF g s)) c46 (joined_ok g hg s (by omega)) ?_
          have l3 := joinedF_len g s
          ((conv => whnf); repeat ((first | refine Sw.o ?_ | refine B0 ?_); conv => whnf))
          (repeat ((first | refine N0 ?_ | refine A0 fun γ => ?_ | refine C1 ?_ | refine C2 ?_ | refine C3 ?_ | refine C4 ?_ | refine C5 ?_ | refine C6 ?_ | refine C7 ?_ | refine D0 fun γs => ?_ | refine A1 fun γs => ?_ | refine N2 ?_ | refine N3 ?_ | refine N1 ?_); ((conv => whnf); repeat ((first | refine Sw.o ?_ | refine B0 ?_); conv => whnf))))
          refine CallG.intro (encP (partF g s (joinedF g s))) c48 (part_ok g s _ (by omega) (by omega) se su) ?_
          subst hR
          ((conv => whnf); repeat ((first | refine Sw.o ?_ | refine B0 ?_); conv => whnf))
          (repeat ((first | refine N0 ?_ | refine A0 fun γ => ?_ | refine C1 ?_ | refine C2 ?_ | refine C3 ?_ | refine C4 ?_ | refine C5 ?_ | refine C6 ?_ | refine C7 ?_ | refine D0 fun γs => ?_ | refine A1 fun γs => ?_ | refine N2 ?_ | refine N3 ?_ | refine N1 ?_); ((conv => whnf); repeat ((first | refine Sw.o ?_ | refine B0 ?_); conv => whnf))))
          exact .of rfl
  · rw [decide_eq_false h] at hR
    subst hR
    (repeat ((first | refine N0 ?_ | refine A0 fun γ => ?_ | refine C1 ?_ | refine C2 ?_ | refine C3 ?_ | refine C4 ?_ | refine C5 ?_ | refine C6 ?_ | refine C7 ?_ | refine D0 fun γs => ?_ | refine A1 fun γs => ?_ | refine N2 ?_ | refine N3 ?_ | refine N1 ?_); ((conv => whnf); repeat ((first | refine Sw.o ?_ | refine B0 ?_); conv => whnf))))
    exact ends_tup2 le_noP (Le.refl _)
end Go.Proofs.Ytgeeklnokblokaa
namespace Go.Proofs.Ytgeeklnokblokaa
open Go Go.Fw
set_option maxRecDepth 100000 in
theorem same44_ok (u x : Int) (H0 : Hp) : HCall Try.prog 44 [encI x, .ep (encI u) 0] H0 (fun r h => r = encB (decide (x = u)) ∧ h = H0) := by
  refine hcall_cp (E := E 0) T_ok (D_ok 0) Try.func44 rfl (by rfl) (Nat.le_of_ble_eq_true rfl) ?_
  ((conv => whnf); repeat ((first | refine Sw.o ?_ | refine B0 ?_); conv => whnf))
  (repeat ((first | refine N0 ?_ | refine A0 fun γ => ?_ | refine C1 ?_ | refine C2 ?_ | refine C3 ?_ | refine C4 ?_ | refine C5 ?_ | refine C6 ?_ | refine C7 ?_ | refine D0 fun γs => ?_ | refine A1 fun γs => ?_ | refine N2 ?_ | refine N3 ?_ | refine N1 ?_ | simp (disch := omega) only [LG]); ((conv => whnf); repeat ((first | refine Sw.o ?_ | refine B0 ?_); conv => whnf))))
  exact EndH.intro (fun _ => .inl rfl) ⟨rfl, rfl⟩
set_option maxRecDepth 100000 in
theorem indexFuncO_ok (k : Nat) (caps : List AV) (q : Nat) (p : Int → Bool) (l : List Int) (hl : l.length ≤ 2^40) (hk : Callable Try.prog k) (hf : ∀ x ∈ l, HCall Try.prog k (encI x :: caps) (hp [(0, q, ⟨3, 1, l.map encI⟩)]) (fun r h => r = encB (p x) ∧ h = (hp [(0, q, ⟨3, 1, l.map encI⟩)]))) :
    HCall Try.prog 70 [.own 0 q 0 l.length, .fn (.func k) [] caps] (hp [(0, q, ⟨3, 1, l.map encI⟩)]) (fun r h => r = encI (indexP p l 0) ∧ h = (hp [(0, q, ⟨3, 1, l.map encI⟩)])) := by
  refine hcall_cp (E := E 0) T_ok (D_ok 0) Try.func70 rfl (by rfl) (Nat.le_of_ble_eq_true rfl) ?_
  generalize hF : indexP p l 0 = F
  ((conv => whnf); repeat ((first | refine Sw.o ?_ | refine B0 ?_); conv => whnf))
  (repeat ((first | refine N0 ?_ | refine A0 fun γ => ?_ | refine C1 ?_ | refine C2 ?_ | refine C3 ?_ | refine C4 ?_ | refine C5 ?_ | refine C6 ?_ | refine C7 ?_ | refine D0 fun γs => ?_ | refine A1 fun γs => ?_ | refine N2 ?_ | refine N3 ?_ | refine N1 ?_); ((conv => whnf); repeat ((first | refine Sw.o ?_ | refine B0 ?_); conv => whnf))))
  refine LoopP.intro (fun n σ H => ∃ i, i ≤ l.length ∧ n = l.length - i ∧ indexP p (l.drop i) i = F ∧ σ = fr [(0, .own 0 q 0 l.length), (1, .fn (.func k) [] caps), (7, encI l.length), (8, encI i)] ∧ H = (hp [(0, q, ⟨3, 1, l.map encI⟩)])) ?_ ?_
  · exact .intro <| W.of ⟨_, 0, Nat.zero_le _, rfl, hF, rfl, rfl⟩ ⟨rfl, rfl, rfl, rfl, trivial⟩ ⟨rfl, trivial⟩
  · rintro n σ H ⟨i, hi, rfl, hc, rfl, rfl⟩
    ((conv => whnf); repeat ((first | refine Sw.o ?_ | refine B0 ?_); conv => whnf))
    (repeat ((first | refine N0 ?_ | refine A0 fun γ => ?_ | refine C1 ?_ | refine C2 ?_ | refine C3 ?_ | refine C4 ?_ | refine C5 ?_ | refine C6 ?_ | refine C7 ?_ | refine D0 fun γs => ?_ | refine A1 fun γs => ?_ | refine N2 ?_ | refine N3 ?_ | refine N1 ?_); ((conv => whnf); repeat ((first | refine Sw.o ?_ | refine B0 ?_); conv => whnf))))
    refine CondP.dec (fun h => ?_) (fun h => ?_) <;> ((conv => whnf); repeat ((first | refine Sw.o ?_ | refine B0 ?_); conv => whnf))
    · (have h2 := h; try simp only [LN] at h2)
      have hi' : i < l.length := by omega
      have hx := hf _ (List.getElem_mem hi')
      rw [List.drop_eq_getElem_cons hi'] at hc
      unfold indexP at hc
      (repeat ((first | refine N0 ?_ | refine A0 fun γ => ?_ | refine C1 ?_ | refine C2 ?_ | refine C3 ?_ | refine C4 ?_ | refine C5 ?_ | refine C6 ?_ | refine C7 ?_ | refine D0 fun γs => ?_ | refine A1 fun γs => ?_ | refine N2 ?_ | refine N3 ?_ | refine N1 ?_); ((conv => whnf); repeat ((first | refine Sw.o ?_ | refine B0 ?_); conv => whnf))))
      (simp (disch := omega) only [LG]; ((conv => whnf); repeat ((first | refine Sw.o ?_ | refine B0 ?_); conv => whnf)))
      generalize l[i] = x at hx hc ⊢
      (repeat ((first | refine N0 ?_ | refine A0 fun γ => ?_ | refine C1 ?_ | refine C2 ?_ | refine C3 ?_ | refine C4 ?_ | refine C5 ?_ | refine C6 ?_ | refine C7 ?_ | refine D0 fun γs => ?_ | refine A1 fun γs => ?_ | refine N2 ?_ | refine N3 ?_ | refine N1 ?_); ((conv => whnf); repeat ((first | refine Sw.o ?_ | refine B0 ?_); conv => whnf))))
      refine CallP.own hk (HCall.mono (hcall_args (by rfl) hx) ?_)
      rintro r h' ⟨rfl, rfl⟩
      refine ⟨_, fun _ => .inl rfl, ?_⟩
      ((conv => whnf); repeat ((first | refine Sw.o ?_ | refine B0 ?_); conv => whnf))
      (repeat ((first | refine N0 ?_ | refine A0 fun γ => ?_ | refine C1 ?_ | refine C2 ?_ | refine C3 ?_ | refine C4 ?_ | refine C5 ?_ | refine C6 ?_ | refine C7 ?_ | refine D0 fun γs => ?_ | refine A1 fun γs => ?_ | refine N2 ?_ | refine N3 ?_ | refine N1 ?_); ((conv => whnf); repeat ((first | refine Sw.o ?_ | refine B0 ?_); conv => whnf))))
      refine CondP.intro (fun hq => ?_) (fun hq => ?_) <;> ((conv => whnf); repeat ((first | refine Sw.o ?_ | refine B0 ?_); conv => whnf))
      · rw [hq] at hc
        (repeat ((first | refine N0 ?_ | refine A0 fun γ => ?_ | refine C1 ?_ | refine C2 ?_ | refine C3 ?_ | refine C4 ?_ | refine C5 ?_ | refine C6 ?_ | refine C7 ?_ | refine D0 fun γs => ?_ | refine A1 fun γs => ?_ | refine N2 ?_ | refine N3 ?_ | refine N1 ?_); ((conv => whnf); repeat ((first | refine Sw.o ?_ | refine B0 ?_); conv => whnf))))
        exact EndH.intro (fun _ => .inl rfl) ⟨by rw [← hc]; rfl, rfl⟩
      · rw [hq] at hc
        (repeat ((first | refine N0 ?_ | refine A0 fun γ => ?_ | refine C1 ?_ | refine C2 ?_ | refine C3 ?_ | refine C4 ?_ | refine C5 ?_ | refine C6 ?_ | refine C7 ?_ | refine D0 fun γs => ?_ | refine A1 fun γs => ?_ | refine N2 ?_ | refine N3 ?_ | refine N1 ?_); ((conv => whnf); repeat ((first | refine Sw.o ?_ | refine B0 ?_); conv => whnf))))
        exact .intro <| W.of ⟨_, by omega, i + 1, hi', rfl, hc, rfl, rfl⟩ ⟨rfl, rfl, rfl, rfl, trivial⟩ ⟨rfl, trivial⟩
    · (have h2 := h; try simp only [LN] at h2)
      (repeat ((first | refine N0 ?_ | refine A0 fun γ => ?_ | refine C1 ?_ | refine C2 ?_ | refine C3 ?_ | refine C4 ?_ | refine C5 ?_ | refine C6 ?_ | refine C7 ?_ | refine D0 fun γs => ?_ | refine A1 fun γs => ?_ | refine N2 ?_ | refine N3 ?_ | refine N1 ?_); ((conv => whnf); repeat ((first | refine Sw.o ?_ | refine B0 ?_); conv => whnf))))
      rw [List.drop_eq_nil_of_le (by omega)] at hc
      exact EndH.intro (fun _ => .inl rfl) ⟨by rw [← hc]; rfl, rfl⟩
def delF (u : Int) (l : List Int) : List Int := l.filter fun x => !decide (x = u)
theorem delF_len (u : Int) (l : List Int) : (delF u l).length ≤ l.length := List.length_filter_le ..
theorem indexP_spec (p : Int → Bool) : ∀ (l : List Int) (i : Int), (indexP p l i = -1 ∧ l.filter (fun x => !p x) = l) ∨ ∃ n : Nat, n < l.length ∧ indexP p l i = i + n ∧ (l.take (n + 1)).filter (fun x => !p x) = l.take n
  | [], i => .inl ⟨rfl, rfl⟩
  | y :: r, i => by
    have ih := indexP_spec p r (i + 1)
    unfold indexP
    cases hp : p y
    · simp only
      rcases ih with ⟨h, h2⟩ | ⟨n, h, h1, h2⟩
      · exact .inl ⟨h, by simp [hp, h2]⟩
      · exact .inr ⟨n + 1, by simp; omega, by omega, by simp [hp, h2]⟩
    · simp only
      exact .inr ⟨0, by simp, by simp, by simp [hp]⟩
set_option maxHeartbeats 4000000 in
set_option maxRecDepth 100000 in
theorem deleteFunc_ok (q : Nat) (u : Int) (l : List Int) (hl : l.length ≤ 2^40) :
    HCall Try.prog 42 [.own 0 q 0 l.length, .fn (.func 44) [] [.ep (encI u) 0]] (hp [(0, q, ⟨3, 1, l.map encI⟩)])
      (Gives 0 0 (delF u l).length 3 1 ((delF u l ++ List.replicate (l.length - (delF u l).length) 0).map encI)) := by
  refine hcall_cp (E := E 0) T_ok (D_ok 0) Try.func42 rfl (by rfl) (Nat.le_of_ble_eq_true rfl) ?_
  have hsp := indexP_spec (fun x => decide (x = u)) l 0
  have hdl := delF_len u l
  ((conv => whnf); repeat ((first | refine Sw.o ?_ | refine B0 ?_); conv => whnf))
  (repeat ((first | refine N0 ?_ | refine A0 fun γ => ?_ | refine C1 ?_ | refine C2 ?_ | refine C3 ?_ | refine C4 ?_ | refine C5 ?_ | refine C6 ?_ | refine C7 ?_ | refine D0 fun γs => ?_ | refine A1 fun γs => ?_ | refine N2 ?_ | refine N3 ?_ | refine N1 ?_); ((conv => whnf); repeat ((first | refine Sw.o ?_ | refine B0 ?_); conv => whnf))))
  refine CallP.own c70 (HCall.mono (hcall_args (by rfl) (indexFuncO_ok 44 [.ep (encI u) 0] q (fun x => decide (x = u)) l hl c44 (fun x _ => same44_ok u x _))) ?_)
  rintro r h' ⟨rfl, rfl⟩
  refine ⟨_, fun _ => .inl rfl, ?_⟩
  generalize indexP (fun x => decide (x = u)) l 0 = i0 at hsp ⊢
  ((conv => whnf); repeat ((first | refine Sw.o ?_ | refine B0 ?_); conv => whnf))
  (repeat ((first | refine N0 ?_ | refine A0 fun γ => ?_ | refine C1 ?_ | refine C2 ?_ | refine C3 ?_ | refine C4 ?_ | refine C5 ?_ | refine C6 ?_ | refine C7 ?_ | refine D0 fun γs => ?_ | refine A1 fun γs => ?_ | refine N2 ?_ | refine N3 ?_ | refine N1 ?_); ((conv => whnf); repeat ((first | refine Sw.o ?_ | refine B0 ?_); conv => whnf))))
  rcases hsp with ⟨rfl, hf⟩ | ⟨n, hn, rfl, hf⟩
  · (repeat ((first | refine N0 ?_ | refine A0 fun γ => ?_ | refine C1 ?_ | refine C2 ?_ | refine C3 ?_ | refine C4 ?_ | refine C5 ?_ | refine C6 ?_ | refine C7 ?_ | refine D0 fun γs => ?_ | refine A1 fun γs => ?_ | refine N2 ?_ | refine N3 ?_ | refine N1 ?_); ((conv => whnf); repeat ((first | refine Sw.o ?_ | refine B0 ?_); conv => whnf))))
    have hd : delF u l = l := hf
    refine EndH.intro (fun _ => .inl rfl) ⟨q, ?_, ?_⟩
    · rw [hd]; rfl
    · rw [hd, Nat.sub_self]; simp
  · have hne : ¬ ((0 : Int) + n = -1) := by omega
    rw [Int.zero_add] at hne ⊢
    (repeat ((first | refine N0 ?_ | refine A0 fun γ => ?_ | refine C1 ?_ | refine C2 ?_ | refine C3 ?_ | refine C4 ?_ | refine C5 ?_ | refine C6 ?_ | refine C7 ?_ | refine D0 fun γs => ?_ | refine A1 fun γs => ?_ | refine N2 ?_ | refine N3 ?_ | refine N1 ?_); ((conv => whnf); repeat ((first | refine Sw.o ?_ | refine B0 ?_); conv => whnf))))
    refine LoopP.intro (fun m σ H => ∃ i j, ∃ xs : List Int, i < j ∧ j ≤ l.length ∧ m = l.length - j ∧ xs.length = l.length ∧ xs.take i = delF u (l.take j) ∧ xs.drop j = l.drop j ∧
      σ = fr [(0, .own 0 q 0 l.length), (1, .fn (.func 44) [] [.ep (encI u) 0]), (5, encI i), (6, encI j)] ∧ H = hp [(0, q, ⟨3, 1, xs.map encI⟩)]) ?_ ?_
    · exact .intro <| W.of ⟨_, n, n + 1, l, by omega, hn, rfl, rfl, hf.symm, rfl, rfl, rfl⟩ ⟨rfl, rfl, rfl, rfl, trivial⟩ ⟨rfl, trivial⟩
    · rintro m σ H ⟨i, j, xs, hij, hj, rfl, hxl, hxi, hxj, rfl, rfl⟩
      have hxl' : (xs.map encI).length = l.length := by simpa using hxl
      ((conv => whnf); repeat ((first | refine Sw.o ?_ | refine B0 ?_); conv => whnf))
      (repeat ((first | refine N0 ?_ | refine A0 fun γ => ?_ | refine C1 ?_ | refine C2 ?_ | refine C3 ?_ | refine C4 ?_ | refine C5 ?_ | refine C6 ?_ | refine C7 ?_ | refine D0 fun γs => ?_ | refine A1 fun γs => ?_ | refine N2 ?_ | refine N3 ?_ | refine N1 ?_); ((conv => whnf); repeat ((first | refine Sw.o ?_ | refine B0 ?_); conv => whnf))))
      refine CondP.dec (fun h => ?_) (fun h => ?_) <;> ((conv => whnf); repeat ((first | refine Sw.o ?_ | refine B0 ?_); conv => whnf))
      · (have h2 := h; try simp only [LN] at h2)
        have hj' : j < xs.length := by omega
        have hjl : j < l.length := by omega
        rw [List.drop_eq_getElem_cons hj', List.drop_eq_getElem_cons hjl] at hxj
        injection hxj with hx0 hxj
        (repeat ((first | refine N0 ?_ | refine A0 fun γ => ?_ | refine C1 ?_ | refine C2 ?_ | refine C3 ?_ | refine C4 ?_ | refine C5 ?_ | refine C6 ?_ | refine C7 ?_ | refine D0 fun γs => ?_ | refine A1 fun γs => ?_ | refine N2 ?_ | refine N3 ?_ | refine N1 ?_); ((conv => whnf); repeat ((first | refine Sw.o ?_ | refine B0 ?_); conv => whnf))))
        (simp (disch := omega) only [LG]; ((conv => whnf); repeat ((first | refine Sw.o ?_ | refine B0 ?_); conv => whnf)))
        rw [hx0]
        have htk : delF u (l.take (j + 1)) = delF u (l.take j) ++ (if l[j] = u then [] else [l[j]]) := by
          rw [List.take_succ_eq_append_getElem hjl]
          simp only [delF, List.filter_append]
          by_cases e : l[j] = u <;> simp [e]
        generalize l[j] = x at htk ⊢
        (repeat ((first | refine N0 ?_ | refine A0 fun γ => ?_ | refine C1 ?_ | refine C2 ?_ | refine C3 ?_ | refine C4 ?_ | refine C5 ?_ | refine C6 ?_ | refine C7 ?_ | refine D0 fun γs => ?_ | refine A1 fun γs => ?_ | refine N2 ?_ | refine N3 ?_ | refine N1 ?_); ((conv => whnf); repeat ((first | refine Sw.o ?_ | refine B0 ?_); conv => whnf))))
        refine CallP.own c44 (HCall.mono (hcall_args (by rfl) (same44_ok u x _)) ?_)
        rintro r h' ⟨rfl, rfl⟩
        refine ⟨_, fun _ => .inl rfl, ?_⟩
        ((conv => whnf); repeat ((first | refine Sw.o ?_ | refine B0 ?_); conv => whnf))
        (repeat ((first | refine N0 ?_ | refine A0 fun γ => ?_ | refine C1 ?_ | refine C2 ?_ | refine C3 ?_ | refine C4 ?_ | refine C5 ?_ | refine C6 ?_ | refine C7 ?_ | refine D0 fun γs => ?_ | refine A1 fun γs => ?_ | refine N2 ?_ | refine N3 ?_ | refine N1 ?_); ((conv => whnf); repeat ((first | refine Sw.o ?_ | refine B0 ?_); conv => whnf))))
        refine CondP.dec (fun hx => ?_) (fun hx => ?_) <;> ((conv => whnf); repeat ((first | refine Sw.o ?_ | refine B0 ?_); conv => whnf))
        · rw [if_pos hx, List.append_nil] at htk
          (repeat ((first | refine N0 ?_ | refine A0 fun γ => ?_ | refine C1 ?_ | refine C2 ?_ | refine C3 ?_ | refine C4 ?_ | refine C5 ?_ | refine C6 ?_ | refine C7 ?_ | refine D0 fun γs => ?_ | refine A1 fun γs => ?_ | refine N2 ?_ | refine N3 ?_ | refine N1 ?_); ((conv => whnf); repeat ((first | refine Sw.o ?_ | refine B0 ?_); conv => whnf))))
          exact .intro <| W.of ⟨_, by omega, i, j + 1, xs, by omega, by omega, rfl, hxl, hxi.trans htk.symm, hxj, rfl, rfl⟩ ⟨rfl, rfl, rfl, rfl, trivial⟩ ⟨rfl, trivial⟩
        · rw [if_neg hx] at htk
          (repeat ((first | refine N0 ?_ | refine A0 fun γ => ?_ | refine C1 ?_ | refine C2 ?_ | refine C3 ?_ | refine C4 ?_ | refine C5 ?_ | refine C6 ?_ | refine C7 ?_ | refine D0 fun γs => ?_ | refine A1 fun γs => ?_ | refine N2 ?_ | refine N3 ?_ | refine N1 ?_ | simp (disch := omega) only [LG]); ((conv => whnf); repeat ((first | refine Sw.o ?_ | refine B0 ?_); conv => whnf))))
          refine .intro <| W.of ⟨_, by omega, i + 1, j + 1, xs.set i x, by omega, by omega, rfl, by simpa using hxl, ?_, ?_, rfl, rfl⟩ ⟨rfl, rfl, rfl, rfl, trivial⟩ ⟨?_, trivial⟩
          · rw [htk, ← hxi, List.take_succ_eq_append_getElem (by simp; omega), List.take_set_of_le (Nat.le_refl _), List.getElem_set_self]
          · rw [List.drop_set_of_lt (by omega), hxj]
          · rw [← set_map (x := x) (h := rfl)]; rfl
      · (have h2 := h; try simp only [LN] at h2)
        have hjl : j = l.length := by omega
        subst hjl
        rw [List.take_length] at hxi
        have hil : i = (delF u l).length := by rw [← hxi]; simp; omega
        (repeat ((first | refine N0 ?_ | refine A0 fun γ => ?_ | refine C1 ?_ | refine C2 ?_ | refine C3 ?_ | refine C4 ?_ | refine C5 ?_ | refine C6 ?_ | refine C7 ?_ | refine D0 fun γs => ?_ | refine A1 fun γs => ?_ | refine N2 ?_ | refine N3 ?_ | refine N1 ?_); ((conv => whnf); repeat ((first | refine Sw.o ?_ | refine B0 ?_); conv => whnf))))
        refine EndH.of (m := [(0, q, ⟨3, 1, (delF u l ++ List.replicate (l.length - (delF u l).length) 0).map encI⟩)]) ⟨?_, trivial⟩ ⟨q, ?_, rfl⟩
        · show some (q, spl ⟨3, 1, xs.map encI⟩ (0 + (i : Int).toNat) (List.replicate (l.length - (i : Int).toNat) (encI 0))) = _
          unfold spl
          simp only [Int.toNat_natCast, Nat.zero_add, List.length_replicate, List.map_append, List.map_replicate, ← List.map_take, hxi, ← hil]
          rw [List.drop_eq_nil_of_le (by simp; omega), List.append_nil]
        · show AV.own 0 q 0 ((i : Int).toNat - 0) = _
          rw [← hil]; rfl
end Go.Proofs.Ytgeeklnokblokaa
namespace Go.Proofs.Ytgeeklnokblokaa
open Go Go.Fw
theorem sizeL_n (g : G) (ne no : List Bool) : ∀ (l : List Nat) (s : List Int × Int), s.2 ≤ sizeL g ne no l s ∧ sizeL g ne no l s ≤ s.2 + l.length
  | [], s => by simp [sizeL]
  | e :: r, s => by
    unfold sizeL
    simp only [List.length_cons]
    split
    · have := sizeL_n g ne no r s; omega
    · split
      · rename_i t _; have := sizeL_n g ne no r (t.1, s.2 + 1); simp only at this; omega
      · rename_i t _; have := sizeL_n g ne no r (t.1, s.2); simp only at this; omega
theorem sizeF_n (g : G) (ne no : List Bool) : 0 ≤ sizeF g ne no ∧ sizeF g ne no ≤ g.eqs.length := by
  unfold sizeF
  have := sizeL_n g ne no (List.range' 0 g.eqs.length) (List.replicate g.uses.length (-1), 0)
  simp only [List.length_range'] at this
  omega
abbrev RS := Int × Int × List Bool
def mrL (g : G) (ne : List Bool) : List Int → RS → RS
  | [], s => s
  | u :: r, s => match decide (s.1 < 0) with
    | false => s
    | true => match s.2.2.getD u.toNat false with
      | true => mrL g ne r s
      | false => match decide (sizeF g ne (s.2.2.set u.toNat true) = s.2.1 - 1) with
        | true => mrL g ne r (u, s.2.1 - 1, s.2.2.set u.toNat true)
        | false => mrL g ne r s
def mrO (g : G) : List Nat → Int × List Bool × List Bool → List Int → List Int
  | [], _, out => out
  | e :: r, s, out => mrO g r ((mrL g (s.2.1.set e true) (g.joined.getD e []) (-1, s.1, s.2.2)).2.1, s.2.1.set e true, (mrL g (s.2.1.set e true) (g.joined.getD e []) (-1, s.1, s.2.2)).2.2) (out ++ [(mrL g (s.2.1.set e true) (g.joined.getD e []) (-1, s.1, s.2.2)).1])
def matchR (g : G) : List Int := mrO g (List.range' 0 g.eqs.length) (SizeF g, fe g, fu g) []
def MatchR (g : G) : List Int × Int := match decide (checkF g = 0) with
  | true => (matchR g, 0)
  | false => ([], checkF g)
theorem set_back {l : List Bool} {i : Nat} (h : l.getD i false = false) (hi : i < l.length) : (l.set i true).set i false = l := by
  apply List.ext_getElem
  · simp
  · intro j h1 h2
    simp only [List.getElem_set]
    split
    · rename_i e; subst e; rw [getD_lt _ _ _ hi] at h; exact h.symm
    · rfl
set_option maxHeartbeats 4000000 in
set_option maxRecDepth 100000 in
theorem match13_ok (g : G) (hz : Sz g) : PureCall Try.prog 13 [encG g] (.tup [encL (MatchR g).1, encI (MatchR g).2]) := by
  refine pure_cp (E := E 0) T_ok (D_ok 0) [100] Try.func13 rfl (by rfl) (Nat.le_of_ble_eq_true rfl) ?_
  generalize hR : MatchR g = R
  unfold MatchR at hR
  ((conv => whnf); repeat ((first | refine Sw.o ?_ | refine B0 ?_); conv => whnf))
  (repeat ((first | refine N0 ?_ | refine A0 fun γ => ?_ | refine C1 ?_ | refine C2 ?_ | refine C3 ?_ | refine C4 ?_ | refine C5 ?_ | refine C6 ?_ | refine C7 ?_ | refine D0 fun γs => ?_ | refine A1 fun γs => ?_ | refine N2 ?_ | refine N3 ?_ | refine N1 ?_); ((conv => whnf); repeat ((first | refine Sw.o ?_ | refine B0 ?_); conv => whnf))))
  refine CallP.flat [] (encI (checkF g)) c37 (check37_ok g hz) rfl ?_
  ((conv => whnf); repeat ((first | refine Sw.o ?_ | refine B0 ?_); conv => whnf))
  (repeat ((first | refine N0 ?_ | refine A0 fun γ => ?_ | refine C1 ?_ | refine C2 ?_ | refine C3 ?_ | refine C4 ?_ | refine C5 ?_ | refine C6 ?_ | refine C7 ?_ | refine D0 fun γs => ?_ | refine A1 fun γs => ?_ | refine N2 ?_ | refine N3 ?_ | refine N1 ?_); ((conv => whnf); repeat ((first | refine Sw.o ?_ | refine B0 ?_); conv => whnf))))
  refine CondP.dec (fun h => ?_) (fun h => ?_) <;> ((conv => whnf); repeat ((first | refine Sw.o ?_ | refine B0 ?_); conv => whnf))
  · rw [decide_eq_true h] at hR
    have hg := (check_wf h).1
    have su := hg.su
    have se := hg.se
    have hjl := hg.len
    have lf := fe_len g
    have lu := fu_len g
    (repeat ((first | refine N0 ?_ | refine A0 fun γ => ?_ | refine C1 ?_ | refine C2 ?_ | refine C3 ?_ | refine C4 ?_ | refine C5 ?_ | refine C6 ?_ | refine C7 ?_ | refine D0 fun γs => ?_ | refine A1 fun γs => ?_ | refine N2 ?_ | refine N3 ?_ | refine N1 ?_); ((conv => whnf); repeat ((first | refine Sw.o ?_ | refine B0 ?_); conv => whnf))))
    refine CallP.flat [21, 25] (encI (SizeF g)) c38 (pure_args ?_ (size_ok g hg _ _ lf lu)) rfl ?_
    · simp only [List.length_map, Int.toNat_natCast]
      show [encG g, snap [21, 25] _ (.own 21 _ 0 g.eqs.length), snap [21, 25] _ (.own 25 _ 0 g.uses.length)] = _
      rw [snap_own (B := ⟨4, 1, (fe g).map encB⟩) (by simp) (by unfold fe; rw [← rep_encB]; rfl) (by simp [lf]), snap_own (B := ⟨4, 1, (fu g).map encB⟩) (by simp) (by unfold fu; rw [← rep_encB]; rfl) (by simp [lu]),
        snap_list _ _ _ _ (by simp [lf]) (fun _ => rfl), snap_list _ _ _ _ (by simp [lu]) (fun _ => rfl)]
      rfl
    simp only at hR
    generalize hM : matchR g = M at hR
    unfold matchR at hM
    have hs := sizeF_n g (fe g) (fu g)
    rw [show sizeF g (fe g) (fu g) = SizeF g from rfl] at hs
    generalize SizeF g = left at hM hs ⊢
    ((conv => whnf); repeat ((first | refine Sw.o ?_ | refine B0 ?_); conv => whnf))
    (repeat ((first | refine N0 ?_ | refine A0 fun γ => ?_ | refine C1 ?_ | refine C2 ?_ | refine C3 ?_ | refine C4 ?_ | refine C5 ?_ | refine C6 ?_ | refine C7 ?_ | refine D0 fun γs => ?_ | refine A1 fun γs => ?_ | refine N2 ?_ | refine N3 ?_ | refine N1 ?_); ((conv => whnf); repeat ((first | refine Sw.o ?_ | refine B0 ?_); conv => whnf))))
    simp only [List.length_map, Int.toNat_natCast]
    refine LoopP.intro (fun m σ H => ∃ p1 p21 p25 p100 i, ∃ l : Int, ∃ ne no : List Bool, ∃ out : List Int, i ≤ g.eqs.length ∧ m = g.eqs.length - i ∧ out.length = i ∧ ne.length = g.eqs.length ∧ no.length = g.uses.length ∧ -(i : Int) ≤ l ∧ l ≤ g.eqs.length ∧
      mrO g (List.range' i (g.eqs.length - i)) (l, ne, no) out = M ∧
      σ = fr [(1, .op 1 p1 0 0), (5, .own 21 p21 0 g.eqs.length), (6, .own 25 p25 0 g.uses.length), (7, encI l), (8, .own 100 p100 0 i), (9, encI i)] ∧
      H = hp [(1, p1, ⟨26, 3, [encG g]⟩), (21, p21, ⟨4, 1, ne.map encB⟩), (25, p25, ⟨4, 1, no.map encB⟩), (100, p100, ⟨3, 1, out.map encI⟩)]) ?_ ?_
    · exact .intro <| W.mat 8 100 3 1 rfl rfl fun γ => W.of ⟨_, _, _, _, _, 0, left, fe g, fu g, [], Nat.zero_le _, rfl, rfl, lf, lu, by omega, hs.2, hM, rfl, rfl⟩ ⟨rfl, rfl, rfl, rfl, rfl, rfl, trivial⟩ ⟨rfl, by unfold fe; rw [← rep_encB]; rfl, by unfold fu; rw [← rep_encB]; rfl, rfl, trivial⟩
    · rintro m σ H ⟨p1, p21, p25, p100, i, l, ne, no, out, hi, rfl, hol, hne, hno, hl0, hl1, hO, rfl, rfl⟩
      have hl1' : (ne.map encB).length = g.eqs.length := by simpa using hne
      have hl2 : (no.map encB).length = g.uses.length := by simpa using hno
      ((conv => whnf); repeat ((first | refine Sw.o ?_ | refine B0 ?_); conv => whnf))
      (repeat ((first | refine N0 ?_ | refine A0 fun γ => ?_ | refine C1 ?_ | refine C2 ?_ | refine C3 ?_ | refine C4 ?_ | refine C5 ?_ | refine C6 ?_ | refine C7 ?_ | refine D0 fun γs => ?_ | refine A1 fun γs => ?_ | refine N2 ?_ | refine N3 ?_ | refine N1 ?_); ((conv => whnf); repeat ((first | refine Sw.o ?_ | refine B0 ?_); conv => whnf))))
      refine CondP.dec (fun h => ?_) (fun h => ?_) <;> ((conv => whnf); repeat ((first | refine Sw.o ?_ | refine B0 ?_); conv => whnf))
      · (have h2 := h; try simp only [LN] at h2)
        have hi' : i < g.joined.length := by omega
        have sl := hg.sl _ (List.getElem_mem hi')
        have hin := hg.in_ _ (List.getElem_mem hi')
        rw [show g.eqs.length - i = (g.eqs.length - (i + 1)) + 1 by omega, List.range'_succ] at hO
        unfold mrO at hO
        rw [getD_lt _ _ _ hi'] at hO
        (repeat ((first | refine N0 ?_ | refine A0 fun γ => ?_ | refine C1 ?_ | refine C2 ?_ | refine C3 ?_ | refine C4 ?_ | refine C5 ?_ | refine C6 ?_ | refine C7 ?_ | refine D0 fun γs => ?_ | refine A1 fun γs => ?_ | refine N2 ?_ | refine N3 ?_ | refine N1 ?_ | simp (disch := omega) only [LG]); ((conv => whnf); repeat ((first | refine Sw.o ?_ | refine B0 ?_); conv => whnf))))
        have hs1 : (List.map encB ne).set i (AV.val (Value.bool true)) = (ne.set i true).map encB := by rw [← set_map (x := true) (h := rfl)]; rfl
        have hl3 : (ne.set i true).length = g.eqs.length := by simpa using hne
        simp only [hs1]
        generalize ne.set i true = ne' at hl3 hO ⊢
        generalize hU : mrL g ne' g.joined[i] (-1, l, no) = U at hO
        (repeat ((first | refine N0 ?_ | refine A0 fun γ => ?_ | refine C1 ?_ | refine C2 ?_ | refine C3 ?_ | refine C4 ?_ | refine C5 ?_ | refine C6 ?_ | refine C7 ?_ | refine A1 fun γs => ?_ | refine N2 ?_ | refine N3 ?_ | refine N1 ?_); ((conv => whnf); repeat ((first | refine Sw.o ?_ | refine B0 ?_); conv => whnf))))
        refine LoopP.intro (fun m σ H => ∃ p1 p21 p25 p100 k, ∃ s : RS, k ≤ (g.joined[i]).length ∧ m = (g.joined[i]).length - k ∧ s.2.2.length = g.uses.length ∧ -((i : Int) + 1) ≤ s.2.1 ∧ (s.1 < 0 → -(i : Int) ≤ s.2.1) ∧ s.2.1 ≤ g.eqs.length ∧ mrL g ne' ((g.joined[i]).drop k) s = U ∧
          σ = fr [(1, .op 1 p1 0 0), (5, .own 21 p21 0 g.eqs.length), (6, .own 25 p25 0 g.uses.length), (7, encI s.2.1), (8, .own 100 p100 0 i), (9, encI i), (10, encI s.1), (11, encI k)] ∧
          H = hp [(1, p1, ⟨26, 3, [encG g]⟩), (21, p21, ⟨4, 1, ne'.map encB⟩), (25, p25, ⟨4, 1, s.2.2.map encB⟩), (100, p100, ⟨3, 1, out.map encI⟩)]) ?_ ?_
        · exact .intro <| W.of ⟨_, _, _, _, _, 0, (-1, l, no), Nat.zero_le _, rfl, hno, by simp only; omega, fun _ => hl0, hl1, hU, rfl, rfl⟩ ⟨rfl, rfl, rfl, rfl, rfl, rfl, rfl, rfl, trivial⟩ ⟨rfl, rfl, rfl, rfl, trivial⟩
        · rintro m σ H ⟨p1, p21, p25, p100, k, s, hk, rfl, hsl, hs0, hs0', hs1, hL, rfl, rfl⟩
          have hl2 : (s.2.2.map encB).length = g.uses.length := by simpa using hsl
          ((conv => whnf); repeat ((first | refine Sw.o ?_ | refine B0 ?_); conv => whnf))
          (repeat ((first | refine N0 ?_ | refine A0 fun γ => ?_ | refine C1 ?_ | refine C2 ?_ | refine C3 ?_ | refine C4 ?_ | refine C5 ?_ | refine C6 ?_ | refine C7 ?_ | refine D0 fun γs => ?_ | refine A1 fun γs => ?_ | refine N2 ?_ | refine N3 ?_ | refine N1 ?_); ((conv => whnf); repeat ((first | refine Sw.o ?_ | refine B0 ?_); conv => whnf))))
          (simp (disch := omega) only [LG]; ((conv => whnf); repeat ((first | refine Sw.o ?_ | refine B0 ?_); conv => whnf)))
          (repeat ((first | refine N0 ?_ | refine A0 fun γ => ?_ | refine C1 ?_ | refine C2 ?_ | refine C3 ?_ | refine C4 ?_ | refine C5 ?_ | refine C6 ?_ | refine C7 ?_ | refine D0 fun γs => ?_ | refine A1 fun γs => ?_ | refine N2 ?_ | refine N3 ?_ | refine N1 ?_); ((conv => whnf); repeat ((first | refine Sw.o ?_ | refine B0 ?_); conv => whnf))))
          refine CondP.dec (fun h => ?_) (fun h => ?_) <;> ((conv => whnf); repeat ((first | refine Sw.o ?_ | refine B0 ?_); conv => whnf))
          · (have h2 := h; try simp only [LN] at h2)
            have hk' : k < (g.joined[i]).length := by omega
            (repeat ((first | refine N0 ?_ | refine A0 fun γ => ?_ | refine C1 ?_ | refine C2 ?_ | refine C3 ?_ | refine C4 ?_ | refine C5 ?_ | refine C6 ?_ | refine C7 ?_ | refine D0 fun γs => ?_ | refine A1 fun γs => ?_ | refine N2 ?_ | refine N3 ?_ | refine N1 ?_); ((conv => whnf); repeat ((first | refine Sw.o ?_ | refine B0 ?_); conv => whnf))))
            refine CondP.dec (fun hn => ?_) (fun hn => ?_) <;> ((conv => whnf); repeat ((first | refine Sw.o ?_ | refine B0 ?_); conv => whnf))
            · have hu := hin _ (List.getElem_mem hk')
              rw [List.drop_eq_getElem_cons hk'] at hL
              (repeat ((first | refine N0 ?_ | refine A0 fun γ => ?_ | refine C1 ?_ | refine C2 ?_ | refine C3 ?_ | refine C4 ?_ | refine C5 ?_ | refine C6 ?_ | refine C7 ?_ | refine D0 fun γs => ?_ | refine A1 fun γs => ?_ | refine N2 ?_ | refine N3 ?_ | refine N1 ?_); ((conv => whnf); repeat ((first | refine Sw.o ?_ | refine B0 ?_); conv => whnf))))
              (simp (disch := omega) only [LG]; ((conv => whnf); repeat ((first | refine Sw.o ?_ | refine B0 ?_); conv => whnf)))
              (repeat ((first | refine N0 ?_ | refine A0 fun γ => ?_ | refine C1 ?_ | refine C2 ?_ | refine C3 ?_ | refine C4 ?_ | refine C5 ?_ | refine C6 ?_ | refine C7 ?_ | refine D0 fun γs => ?_ | refine A1 fun γs => ?_ | refine N2 ?_ | refine N3 ?_ | refine N1 ?_); ((conv => whnf); repeat ((first | refine Sw.o ?_ | refine B0 ?_); conv => whnf))))
              (simp (disch := omega) only [LG]; ((conv => whnf); repeat ((first | refine Sw.o ?_ | refine B0 ?_); conv => whnf)))
              generalize g.joined[i][k] = u at hu hL ⊢
              have hut : u.toNat < s.2.2.length := by omega
              unfold mrL at hL
              rw [decide_eq_true hn] at hL
              simp only at hL
              (repeat ((first | refine N0 ?_ | refine A0 fun γ => ?_ | refine C1 ?_ | refine C2 ?_ | refine C3 ?_ | refine C4 ?_ | refine C5 ?_ | refine C6 ?_ | refine C7 ?_ | refine D0 fun γs => ?_ | refine A1 fun γs => ?_ | refine N2 ?_ | refine N3 ?_ | refine N1 ?_); ((conv => whnf); repeat ((first | refine Sw.o ?_ | refine B0 ?_); conv => whnf))))
              (simp (disch := omega) only [LG]; ((conv => whnf); repeat ((first | refine Sw.o ?_ | refine B0 ?_); conv => whnf)))
              have hgd : s.2.2.getD u.toNat false = s.2.2[u.toNat] := getD_lt _ _ _ hut
              refine CondP.intro (fun h => ?_) (fun h => ?_) <;> ((conv => whnf); repeat ((first | refine Sw.o ?_ | refine B0 ?_); conv => whnf))
              · rw [hgd, h] at hL
                (repeat ((first | refine N0 ?_ | refine A0 fun γ => ?_ | refine C1 ?_ | refine C2 ?_ | refine C3 ?_ | refine C4 ?_ | refine C5 ?_ | refine C6 ?_ | refine C7 ?_ | refine D0 fun γs => ?_ | refine A1 fun γs => ?_ | refine N2 ?_ | refine N3 ?_ | refine N1 ?_); ((conv => whnf); repeat ((first | refine Sw.o ?_ | refine B0 ?_); conv => whnf))))
                exact .intro <| W.of ⟨_, by omega, _, _, _, _, k + 1, s, hk', rfl, hsl, hs0, hs0', hs1, hL, rfl, rfl⟩ ⟨rfl, rfl, rfl, rfl, rfl, rfl, rfl, rfl, trivial⟩ ⟨rfl, rfl, rfl, rfl, trivial⟩
              · rw [hgd, h] at hL
                simp only at hL
                have hsb := set_back (hgd.trans h) hut
                (repeat ((first | refine N0 ?_ | refine A0 fun γ => ?_ | refine C1 ?_ | refine C2 ?_ | refine C3 ?_ | refine C4 ?_ | refine C5 ?_ | refine C6 ?_ | refine C7 ?_ | refine D0 fun γs => ?_ | refine A1 fun γs => ?_ | refine N2 ?_ | refine N3 ?_ | refine N1 ?_); ((conv => whnf); repeat ((first | refine Sw.o ?_ | refine B0 ?_); conv => whnf))))
                rw [Nat.zero_add, getD_map (h := hut)]
                ((conv => whnf); repeat ((first | refine Sw.o ?_ | refine B0 ?_); conv => whnf))
                (repeat ((first | refine N0 ?_ | refine A0 fun γ => ?_ | refine C1 ?_ | refine C2 ?_ | refine C3 ?_ | refine C4 ?_ | refine C5 ?_ | refine C6 ?_ | refine C7 ?_ | refine D0 fun γs => ?_ | refine A1 fun γs => ?_ | refine N2 ?_ | refine N3 ?_ | refine N1 ?_); ((conv => whnf); repeat ((first | refine Sw.o ?_ | refine B0 ?_); conv => whnf))))
                have hsn : (List.map encB s.2.2).set u.toNat (AV.val (Value.bool true)) = (s.2.2.set u.toNat true).map encB := by rw [← set_map (x := true) (h := rfl)]; rfl
                have hl4 : (s.2.2.set u.toNat true).length = g.uses.length := by simpa using hsl
                have hl5 : ((s.2.2.set u.toNat true).map encB).length = g.uses.length := by simpa using hsl
                simp only [hsn]
                refine CallP.flat [21, 25] (encI (sizeF g ne' (s.2.2.set u.toNat true))) c38 (pure_args ?_ (size_ok g hg ne' (s.2.2.set u.toNat true) hl3 hl4)) rfl ?_
                · show [encG g, snap [21, 25] _ (.own 21 _ 0 g.eqs.length), snap [21, 25] _ (.own 25 _ 0 g.uses.length)] = _
                  rw [snap_own (B := ⟨4, 1, ne'.map encB⟩) (by simp) rfl (by simp [hl3]), snap_own (B := ⟨4, 1, (s.2.2.set u.toNat true).map encB⟩) (by simp) rfl (by simp [hsl]),
                    snap_list _ _ _ _ hl3.symm (fun _ => rfl), snap_list _ _ _ _ hl4.symm (fun _ => rfl)]
                  rfl
                ((conv => whnf); repeat ((first | refine Sw.o ?_ | refine B0 ?_); conv => whnf))
                (repeat ((first | refine N0 ?_ | refine A0 fun γ => ?_ | refine C1 ?_ | refine C2 ?_ | refine C3 ?_ | refine C4 ?_ | refine C5 ?_ | refine C6 ?_ | refine C7 ?_ | refine D0 fun γs => ?_ | refine A1 fun γs => ?_ | refine N2 ?_ | refine N3 ?_ | refine N1 ?_); ((conv => whnf); repeat ((first | refine Sw.o ?_ | refine B0 ?_); conv => whnf))))
                refine CondP.dec (fun hz => ?_) (fun hz => ?_) <;> ((conv => whnf); repeat ((first | refine Sw.o ?_ | refine B0 ?_); conv => whnf))
                · rw [decide_eq_true hz] at hL
                  (repeat ((first | refine N0 ?_ | refine A0 fun γ => ?_ | refine C1 ?_ | refine C2 ?_ | refine C3 ?_ | refine C4 ?_ | refine C5 ?_ | refine C6 ?_ | refine C7 ?_ | refine D0 fun γs => ?_ | refine A1 fun γs => ?_ | refine N2 ?_ | refine N3 ?_ | refine N1 ?_); ((conv => whnf); repeat ((first | refine Sw.o ?_ | refine B0 ?_); conv => whnf))))
                  exact .intro <| W.of ⟨_, by omega, _, _, _, _, k + 1, (u, s.2.1 - 1, s.2.2.set u.toNat true), hk', rfl, hl4, by simp only; omega, by simp only; omega, by simp only; omega, hL, rfl, rfl⟩ ⟨rfl, rfl, rfl, rfl, rfl, rfl, rfl, rfl, trivial⟩ ⟨rfl, rfl, rfl, rfl, trivial⟩
                · rw [decide_eq_false hz] at hL
                  have hut4 : u.toNat < (s.2.2.set u.toNat true).length := by omega
                  (repeat ((first | refine N0 ?_ | refine A0 fun γ => ?_ | refine C1 ?_ | refine C2 ?_ | refine C3 ?_ | refine C4 ?_ | refine C5 ?_ | refine C6 ?_ | refine C7 ?_ | refine D0 fun γs => ?_ | refine A1 fun γs => ?_ | refine N2 ?_ | refine N3 ?_ | refine N1 ?_); ((conv => whnf); repeat ((first | refine Sw.o ?_ | refine B0 ?_); conv => whnf))))
                  rw [Nat.zero_add, getD_map (h := hut4)]
                  ((conv => whnf); repeat ((first | refine Sw.o ?_ | refine B0 ?_); conv => whnf))
                  (repeat ((first | refine N0 ?_ | refine A0 fun γ => ?_ | refine C1 ?_ | refine C2 ?_ | refine C3 ?_ | refine C4 ?_ | refine C5 ?_ | refine C6 ?_ | refine C7 ?_ | refine D0 fun γs => ?_ | refine A1 fun γs => ?_ | refine N2 ?_ | refine N3 ?_ | refine N1 ?_); ((conv => whnf); repeat ((first | refine Sw.o ?_ | refine B0 ?_); conv => whnf))))
                  refine .intro <| W.of ⟨_, by omega, _, _, _, _, k + 1, s, hk', rfl, hsl, hs0, hs0', hs1, hL, rfl, rfl⟩ ⟨rfl, rfl, rfl, rfl, rfl, rfl, rfl, rfl, trivial⟩ ⟨rfl, rfl, ?_, rfl, trivial⟩
                  show some (_, (⟨4, 1, (List.map encB (s.2.2.set u.toNat true)).set u.toNat (encB false)⟩ : Blk)) = _
                  rw [set_map (x := false) (h := rfl), hsb]
            · have hL' : s = U := by
                rw [← hL]
                cases hd : (g.joined[i]).drop k with
                | nil => rfl
                | cons u r => unfold mrL; rw [decide_eq_false hn]
              subst hL'
              (repeat ((first | refine N0 ?_ | refine A0 fun γ => ?_ | refine C1 ?_ | refine C2 ?_ | refine C3 ?_ | refine C4 ?_ | refine C5 ?_ | refine C6 ?_ | refine C7 ?_ | refine D0 fun γs => ?_ | refine A1 fun γs => ?_ | refine N2 ?_ | refine N3 ?_ | refine N1 ?_); ((conv => whnf); repeat ((first | refine Sw.o ?_ | refine B0 ?_); conv => whnf))))
              exact .intro <| W.of ⟨_, by omega, _, _, _, _, i + 1, s.2.1, ne', s.2.2, out ++ [s.1], by omega, rfl, by simp [hol], hl3, hsl, by omega, hs1, hO, rfl, rfl⟩ ⟨rfl, rfl, rfl, rfl, rfl, rfl, trivial⟩ ⟨rfl, rfl, rfl, by rw [← snoc_encI]; rfl, trivial⟩
          · (have h2 := h; try simp only [LN] at h2)
            rw [List.drop_eq_nil_of_le (by omega)] at hL
            simp only [mrL] at hL
            subst hL
            (repeat ((first | refine N0 ?_ | refine A0 fun γ => ?_ | refine C1 ?_ | refine C2 ?_ | refine C3 ?_ | refine C4 ?_ | refine C5 ?_ | refine C6 ?_ | refine C7 ?_ | refine D0 fun γs => ?_ | refine A1 fun γs => ?_ | refine N2 ?_ | refine N3 ?_ | refine N1 ?_); ((conv => whnf); repeat ((first | refine Sw.o ?_ | refine B0 ?_); conv => whnf))))
            exact .intro <| W.of ⟨_, by omega, _, _, _, _, i + 1, s.2.1, ne', s.2.2, out ++ [s.1], by omega, rfl, by simp [hol], hl3, hsl, by omega, hs1, hO, rfl, rfl⟩ ⟨rfl, rfl, rfl, rfl, rfl, rfl, trivial⟩ ⟨rfl, rfl, rfl, by rw [← snoc_encI]; rfl, trivial⟩
      · (have h2 := h; try simp only [LN] at h2)
        rw [show g.eqs.length - i = 0 by omega] at hO
        simp only [List.range'_zero, mrO] at hO
        subst hR
        subst hO
        (repeat ((first | refine N0 ?_ | refine A0 fun γ => ?_ | refine C1 ?_ | refine C2 ?_ | refine C3 ?_ | refine C4 ?_ | refine C5 ?_ | refine C6 ?_ | refine C7 ?_ | refine D0 fun γs => ?_ | refine A1 fun γs => ?_ | refine N2 ?_ | refine N3 ?_ | refine N1 ?_); ((conv => whnf); repeat ((first | refine Sw.o ?_ | refine B0 ?_); conv => whnf))))
        refine .of ?_
        show AV.tup [AV.sl 1 _, _] = AV.tup [AV.sl 1 _, _]
        rw [snap_list _ _ _ _ hol.symm (fun _ => rfl)]
        rfl
  · rw [decide_eq_false h] at hR
    subst hR
    (repeat ((first | refine N0 ?_ | refine A0 fun γ => ?_ | refine C1 ?_ | refine C2 ?_ | refine C3 ?_ | refine C4 ?_ | refine C5 ?_ | refine C6 ?_ | refine C7 ?_ | refine D0 fun γs => ?_ | refine A1 fun γs => ?_ | refine N2 ?_ | refine N3 ?_ | refine N1 ?_); ((conv => whnf); repeat ((first | refine Sw.o ?_ | refine B0 ?_); conv => whnf))))
    exact ends_tup2 (Le.nil 1) (Le.refl _)
end Go.Proofs.Ytgeeklnokblokaa
namespace Go.Proofs.Ytgeeklnokblokaa
open Go Go.Fw
def wolF (b : Bool) (u : Int) (l : List Int) : List Int := l.filter fun x => b || !decide (x = u)
def wojF (e u : Int) : Nat → List (List Int) → List (List Int)
  | _, [] => []
  | i, l :: r => wolF (!decide ((i : Int) = e)) u l :: wojF e u (i + 1) r
def withoutF (g : G) (e u : Int) : G := ⟨g.eqs, g.uses, wojF e u 0 g.joined⟩
theorem wojF_len (e u : Int) : ∀ (l : List (List Int)) (i : Nat), (wojF e u i l).length = l.length
  | [], _ => rfl
  | l :: r, i => by simp [wojF, wojF_len e u r (i + 1)]
theorem wojF_get (e u : Int) : ∀ (l : List (List Int)) (i k : Nat) (h : k < l.length) (h' : k < (wojF e u i l).length), (wojF e u i l)[k] = wolF (!decide (((i + k : Nat) : Int) = e)) u l[k]
  | l :: r, i, 0, h, _ => rfl
  | l :: r, i, k + 1, h, h' => by
    simp only [wojF, List.getElem_cons_succ]
    rw [wojF_get e u r (i + 1) k (by simpa using h) (by rw [wojF_len]; simpa using h)]
    rw [show i + 1 + k = i + (k + 1) by omega]
theorem wolF_len (b : Bool) (u : Int) (l : List Int) : (wolF b u l).length ≤ l.length := List.length_filter_le ..
theorem wolF_take (b : Bool) (u : Int) (l : List Int) (k : Nat) (h : k < l.length) : wolF b u (l.take (k + 1)) = wolF b u (l.take k) ++ (if b || !decide (l[k] = u) then [l[k]] else []) := by
  rw [List.take_succ_eq_append_getElem h]
  simp only [wolF, List.filter_append]
  cases b <;> by_cases e : l[k] = u <;> simp [e]
set_option maxHeartbeats 4000000 in
set_option maxRecDepth 100000 in
theorem without_ok (g : G) (hg : WF g) (e u : Int) : PureCall Try.prog 28 [encG g, encI e, encI u] (encG (withoutF g e u)) := by
  refine pure_cp (E := E 0) T_ok (D_ok 0) [102] Try.func28 rfl (by rfl) (Nat.le_of_ble_eq_true rfl) ?_
  have su := hg.su
  have se := hg.se
  have hjl := hg.len
  have hwl := wojF_len e u g.joined 0
  ((conv => whnf); repeat ((first | refine Sw.o ?_ | refine B0 ?_); conv => whnf))
  (repeat ((first | refine N0 ?_ | refine A0 fun γ => ?_ | refine C1 ?_ | refine C2 ?_ | refine C3 ?_ | refine C4 ?_ | refine C5 ?_ | refine C6 ?_ | refine C7 ?_ | refine D0 fun γs => ?_ | refine A1 fun γs => ?_ | refine N2 ?_ | refine N3 ?_ | refine N1 ?_); ((conv => whnf); repeat ((first | refine Sw.o ?_ | refine B0 ?_); conv => whnf))))
  refine LoopP.intro (fun m σ H => ∃ p3 p6 p7 p102 i, i ≤ g.joined.length ∧ m = g.joined.length - i ∧
    σ = fr [(1, encI e), (2, encI u), (3, .op 3 p3 0 0), (6, .op 6 p6 0 0), (7, .op 7 p7 0 0), (8, encI i)] ∧
    H = hp [(3, p3, ⟨26, 3, [encG g]⟩), (6, p6, ⟨26, 3, [.agg [.val (.slice none 0 0), .val (.slice none 0 0), .val (.slice none 0 0)]]⟩), (7, p7, ⟨26, 3, [.agg [.sl 1 (g.eqs.map encS), .sl 3 (g.uses.map encU), .own 102 p102 0 i]]⟩), (102, p102, ⟨29, 1, ((wojF e u 0 g.joined).take i).map encL⟩)]) ?_ ?_
  · exact .intro <| W.matc 7 _ 0 2 102 29 1 _ _ rfl rfl rfl rfl (by omega) fun γ => W.of ⟨_, _, _, _, _, 0, Nat.zero_le _, rfl, rfl, rfl⟩ ⟨rfl, rfl, rfl, rfl, rfl, rfl, trivial⟩ ⟨rfl, rfl, rfl, rfl, trivial⟩
  · rintro m σ H ⟨p3, p6, p7, p102, i, hi, rfl, rfl, rfl⟩
    ((conv => whnf); repeat ((first | refine Sw.o ?_ | refine B0 ?_); conv => whnf))
    (repeat ((first | refine N0 ?_ | refine A0 fun γ => ?_ | refine C1 ?_ | refine C2 ?_ | refine C3 ?_ | refine C4 ?_ | refine C5 ?_ | refine C6 ?_ | refine C7 ?_ | refine D0 fun γs => ?_ | refine A1 fun γs => ?_ | refine N2 ?_ | refine N3 ?_ | refine N1 ?_); ((conv => whnf); repeat ((first | refine Sw.o ?_ | refine B0 ?_); conv => whnf))))
    refine CondP.dec (fun h => ?_) (fun h => ?_) <;> ((conv => whnf); repeat ((first | refine Sw.o ?_ | refine B0 ?_); conv => whnf))
    · (have h2 := h; try simp only [LN] at h2)
      have hi' : i < g.joined.length := by omega
      have sl := hg.sl _ (List.getElem_mem hi')
      have hwg := wojF_get e u g.joined 0 i hi' (by omega)
      rw [Nat.zero_add] at hwg
      (repeat ((first | refine N0 ?_ | refine A0 fun γ => ?_ | refine C1 ?_ | refine C2 ?_ | refine C3 ?_ | refine C4 ?_ | refine C5 ?_ | refine C6 ?_ | refine C7 ?_ | refine D0 fun γs => ?_ | refine A1 fun γs => ?_ | refine N2 ?_ | refine N3 ?_ | refine N1 ?_); ((conv => whnf); repeat ((first | refine Sw.o ?_ | refine B0 ?_); conv => whnf))))
      refine LoopP.intro (fun m σ H => ∃ p3 p6 p7 p102 p101 k, ∃ n : Nat, k ≤ (g.joined[i]).length ∧ m = (g.joined[i]).length - k ∧ n = (wolF (!decide ((i : Int) = e)) u ((g.joined[i]).take k)).length ∧
        σ = fr [(1, encI e), (2, encI u), (3, .op 3 p3 0 0), (6, .op 6 p6 0 0), (7, .op 7 p7 0 0), (8, encI i), (9, .own 101 p101 0 n), (10, encI k)] ∧
        H = hp [(3, p3, ⟨26, 3, [encG g]⟩), (6, p6, ⟨26, 3, [.agg [.val (.slice none 0 0), .val (.slice none 0 0), .val (.slice none 0 0)]]⟩), (7, p7, ⟨26, 3, [.agg [.sl 1 (g.eqs.map encS), .sl 3 (g.uses.map encU), .own 102 p102 0 i]]⟩), (102, p102, ⟨29, 1, ((wojF e u 0 g.joined).take i).map encL⟩),
          (101, p101, ⟨3, 1, (wolF (!decide ((i : Int) = e)) u ((g.joined[i]).take k)).map encI⟩)]) ?_ ?_
      · exact .intro <| W.mat 9 101 3 1 rfl rfl fun γ => W.of ⟨_, _, _, _, _, _, 0, 0, Nat.zero_le _, rfl, rfl, rfl, rfl⟩ ⟨rfl, rfl, rfl, rfl, rfl, rfl, rfl, rfl, trivial⟩ ⟨rfl, rfl, rfl, rfl, rfl, trivial⟩
      · rintro m σ H ⟨p3, p6, p7, p102, p101, k, n, hk, rfl, hn, rfl, rfl⟩
        ((conv => whnf); repeat ((first | refine Sw.o ?_ | refine B0 ?_); conv => whnf))
        (repeat ((first | refine N0 ?_ | refine A0 fun γ => ?_ | refine C1 ?_ | refine C2 ?_ | refine C3 ?_ | refine C4 ?_ | refine C5 ?_ | refine C6 ?_ | refine C7 ?_ | refine D0 fun γs => ?_ | refine A1 fun γs => ?_ | refine N2 ?_ | refine N3 ?_ | refine N1 ?_); ((conv => whnf); repeat ((first | refine Sw.o ?_ | refine B0 ?_); conv => whnf))))
        (simp (disch := omega) only [LG]; ((conv => whnf); repeat ((first | refine Sw.o ?_ | refine B0 ?_); conv => whnf)))
        (repeat ((first | refine N0 ?_ | refine A0 fun γ => ?_ | refine C1 ?_ | refine C2 ?_ | refine C3 ?_ | refine C4 ?_ | refine C5 ?_ | refine C6 ?_ | refine C7 ?_ | refine D0 fun γs => ?_ | refine A1 fun γs => ?_ | refine N2 ?_ | refine N3 ?_ | refine N1 ?_); ((conv => whnf); repeat ((first | refine Sw.o ?_ | refine B0 ?_); conv => whnf))))
        refine CondP.dec (fun h => ?_) (fun h => ?_)
        · ((conv => whnf); repeat ((first | refine Sw.o ?_ | refine B0 ?_); conv => whnf))
          (repeat ((first | refine N0 ?_ | refine A0 fun γ => ?_ | refine C1 ?_ | refine C2 ?_ | refine C3 ?_ | refine C4 ?_ | refine C5 ?_ | refine C6 ?_ | refine C7 ?_ | refine D0 fun γs => ?_ | refine A1 fun γs => ?_ | refine N2 ?_ | refine N3 ?_ | refine N1 ?_); ((conv => whnf); repeat ((first | refine Sw.o ?_ | refine B0 ?_); conv => whnf))))
          have hk' : k < (g.joined[i]).length := by simpa using h
          have hwt := wolF_take (!decide ((i : Int) = e)) u g.joined[i] k hk'
          have hwl := wolF_len (!decide ((i : Int) = e)) u ((g.joined[i]).take k)
          rw [List.length_take] at hwl
          refine CondP.dec (fun he => ?_) (fun he => ?_) <;> ((conv => whnf); repeat ((first | refine Sw.o ?_ | refine B0 ?_); conv => whnf))
          · simp only [decide_eq_true he, Bool.not_true, Bool.false_or] at hwt hn hwl ⊢
            (repeat ((first | refine N0 ?_ | refine A0 fun γ => ?_ | refine C1 ?_ | refine C2 ?_ | refine C3 ?_ | refine C4 ?_ | refine C5 ?_ | refine C6 ?_ | refine C7 ?_ | refine D0 fun γs => ?_ | refine A1 fun γs => ?_ | refine N2 ?_ | refine N3 ?_ | refine N1 ?_); ((conv => whnf); repeat ((first | refine Sw.o ?_ | refine B0 ?_); conv => whnf))))
            (simp (disch := omega) only [LG]; ((conv => whnf); repeat ((first | refine Sw.o ?_ | refine B0 ?_); conv => whnf)))
            (repeat ((first | refine N0 ?_ | refine A0 fun γ => ?_ | refine C1 ?_ | refine C2 ?_ | refine C3 ?_ | refine C4 ?_ | refine C5 ?_ | refine C6 ?_ | refine C7 ?_ | refine D0 fun γs => ?_ | refine A1 fun γs => ?_ | refine N2 ?_ | refine N3 ?_ | refine N1 ?_); ((conv => whnf); repeat ((first | refine Sw.o ?_ | refine B0 ?_); conv => whnf))))
            (simp (disch := omega) only [LG]; ((conv => whnf); repeat ((first | refine Sw.o ?_ | refine B0 ?_); conv => whnf)))
            (repeat ((first | refine N0 ?_ | refine A0 fun γ => ?_ | refine C1 ?_ | refine C2 ?_ | refine C3 ?_ | refine C4 ?_ | refine C5 ?_ | refine C6 ?_ | refine C7 ?_ | refine D0 fun γs => ?_ | refine A1 fun γs => ?_ | refine N2 ?_ | refine N3 ?_ | refine N1 ?_); ((conv => whnf); repeat ((first | refine Sw.o ?_ | refine B0 ?_); conv => whnf))))
            refine CondP.dec (fun hx => ?_) (fun hx => ?_) <;> ((conv => whnf); repeat ((first | refine Sw.o ?_ | refine B0 ?_); conv => whnf))
            · simp only [hx, decide_true, Bool.not_true, Bool.false_eq_true, if_false, List.append_nil] at hwt
              (repeat ((first | refine N0 ?_ | refine A0 fun γ => ?_ | refine C1 ?_ | refine C2 ?_ | refine C3 ?_ | refine C4 ?_ | refine C5 ?_ | refine C6 ?_ | refine C7 ?_ | refine D0 fun γs => ?_ | refine A1 fun γs => ?_ | refine N2 ?_ | refine N3 ?_ | refine N1 ?_); ((conv => whnf); repeat ((first | refine Sw.o ?_ | refine B0 ?_); conv => whnf))))
              exact .intro <| W.of ⟨_, by omega, _, _, _, _, _, k + 1, n, hk', rfl, by rw [hn, hwt], rfl, rfl⟩ ⟨rfl, rfl, rfl, rfl, rfl, rfl, rfl, rfl, trivial⟩ ⟨rfl, rfl, rfl, rfl, by rw [hwt]; rfl, trivial⟩
            · simp only [hx, decide_false, Bool.not_false, if_true] at hwt
              (repeat ((first | refine N0 ?_ | refine A0 fun γ => ?_ | refine C1 ?_ | refine C2 ?_ | refine C3 ?_ | refine C4 ?_ | refine C5 ?_ | refine C6 ?_ | refine C7 ?_ | refine D0 fun γs => ?_ | refine A1 fun γs => ?_ | refine N2 ?_ | refine N3 ?_ | refine N1 ?_); ((conv => whnf); repeat ((first | refine Sw.o ?_ | refine B0 ?_); conv => whnf))))
              (simp (disch := omega) only [LG]; ((conv => whnf); repeat ((first | refine Sw.o ?_ | refine B0 ?_); conv => whnf)))
              (repeat ((first | refine N0 ?_ | refine A0 fun γ => ?_ | refine C1 ?_ | refine C2 ?_ | refine C3 ?_ | refine C4 ?_ | refine C5 ?_ | refine C6 ?_ | refine C7 ?_ | refine D0 fun γs => ?_ | refine A1 fun γs => ?_ | refine N2 ?_ | refine N3 ?_ | refine N1 ?_); ((conv => whnf); repeat ((first | refine Sw.o ?_ | refine B0 ?_); conv => whnf))))
              (simp (disch := omega) only [LG]; ((conv => whnf); repeat ((first | refine Sw.o ?_ | refine B0 ?_); conv => whnf)))
              (repeat ((first | refine N0 ?_ | refine A0 fun γ => ?_ | refine C1 ?_ | refine C2 ?_ | refine C3 ?_ | refine C4 ?_ | refine C5 ?_ | refine C6 ?_ | refine C7 ?_ | refine D0 fun γs => ?_ | refine A1 fun γs => ?_ | refine N2 ?_ | refine N3 ?_ | refine N1 ?_); ((conv => whnf); repeat ((first | refine Sw.o ?_ | refine B0 ?_); conv => whnf))))
              exact .intro <| W.of ⟨_, by omega, _, _, _, _, _, k + 1, n + 1, hk', rfl, by rw [hn, hwt]; simp, rfl, rfl⟩ ⟨rfl, rfl, rfl, rfl, rfl, rfl, rfl, rfl, trivial⟩ ⟨rfl, rfl, rfl, rfl, by rw [hwt, ← snoc_encI]; rfl, trivial⟩
          · simp only [decide_eq_false he, Bool.not_false, Bool.true_or, if_true] at hwt hn hwl ⊢
            (repeat ((first | refine N0 ?_ | refine A0 fun γ => ?_ | refine C1 ?_ | refine C2 ?_ | refine C3 ?_ | refine C4 ?_ | refine C5 ?_ | refine C6 ?_ | refine C7 ?_ | refine D0 fun γs => ?_ | refine A1 fun γs => ?_ | refine N2 ?_ | refine N3 ?_ | refine N1 ?_); ((conv => whnf); repeat ((first | refine Sw.o ?_ | refine B0 ?_); conv => whnf))))
            (simp (disch := omega) only [LG]; ((conv => whnf); repeat ((first | refine Sw.o ?_ | refine B0 ?_); conv => whnf)))
            (repeat ((first | refine N0 ?_ | refine A0 fun γ => ?_ | refine C1 ?_ | refine C2 ?_ | refine C3 ?_ | refine C4 ?_ | refine C5 ?_ | refine C6 ?_ | refine C7 ?_ | refine D0 fun γs => ?_ | refine A1 fun γs => ?_ | refine N2 ?_ | refine N3 ?_ | refine N1 ?_); ((conv => whnf); repeat ((first | refine Sw.o ?_ | refine B0 ?_); conv => whnf))))
            (simp (disch := omega) only [LG]; ((conv => whnf); repeat ((first | refine Sw.o ?_ | refine B0 ?_); conv => whnf)))
            (repeat ((first | refine N0 ?_ | refine A0 fun γ => ?_ | refine C1 ?_ | refine C2 ?_ | refine C3 ?_ | refine C4 ?_ | refine C5 ?_ | refine C6 ?_ | refine C7 ?_ | refine D0 fun γs => ?_ | refine A1 fun γs => ?_ | refine N2 ?_ | refine N3 ?_ | refine N1 ?_); ((conv => whnf); repeat ((first | refine Sw.o ?_ | refine B0 ?_); conv => whnf))))
            exact .intro <| W.of ⟨_, by omega, _, _, _, _, _, k + 1, n + 1, hk', rfl, by rw [hn, hwt]; simp, rfl, rfl⟩ ⟨rfl, rfl, rfl, rfl, rfl, rfl, rfl, rfl, trivial⟩ ⟨rfl, rfl, rfl, rfl, by rw [hwt, ← snoc_encI]; rfl, trivial⟩
        · have hkl : (g.joined[i]).take k = g.joined[i] := List.take_of_length_le (by simpa using h)
          rw [hkl] at hn ⊢
          rw [← hwg] at hn ⊢
          refine cpA_exitW (W.fre 9 101 p101 0 n (y := encL ((wojF e u 0 g.joined)[i])) rfl ?_ (W.of (l := [(1, encI e), (2, encI u), (3, .op 3 p3 0 0), (6, .op 6 p6 0 0), (7, .op 7 p7 0 0), (8, encI i), (9, encL ((wojF e u 0 g.joined)[i]))])
            (m := [(3, p3, ⟨26, 3, [encG g]⟩), (6, p6, ⟨26, 3, [.agg [.val (.slice none 0 0), .val (.slice none 0 0), .val (.slice none 0 0)]]⟩), (7, p7, ⟨26, 3, [.agg [.sl 1 (g.eqs.map encS), .sl 3 (g.uses.map encU), .own 102 p102 0 i]]⟩), (102, p102, ⟨29, 1, ((wojF e u 0 g.joined).take i).map encL⟩)])
            ?_ ⟨rfl, rfl, rfl, rfl, rfl, rfl, rfl, trivial⟩ ⟨rfl, rfl, rfl, rfl, trivial⟩))
          · rw [snap_own (B := ⟨3, 1, ((wojF e u 0 g.joined)[i]).map encI⟩) (by simp) rfl (by simp [hn]), snap_list _ _ _ _ hn (fun _ => rfl)]
            rfl
          ((conv => whnf); repeat ((first | refine Sw.o ?_ | refine B0 ?_); conv => whnf))
          (repeat ((first | refine N0 ?_ | refine A0 fun γ => ?_ | refine C1 ?_ | refine C2 ?_ | refine C3 ?_ | refine C4 ?_ | refine C5 ?_ | refine C6 ?_ | refine C7 ?_ | refine D0 fun γs => ?_ | refine A1 fun γs => ?_ | refine N2 ?_ | refine N3 ?_ | refine N1 ?_); ((conv => whnf); repeat ((first | refine Sw.o ?_ | refine B0 ?_); conv => whnf))))
          refine .intro <| W.of ⟨_, by omega, _, _, _, _, i + 1, by omega, rfl, rfl, rfl⟩ ⟨rfl, rfl, rfl, rfl, rfl, rfl, trivial⟩ ⟨rfl, rfl, rfl, ?_, trivial⟩
          rw [← take_snoc encL _ i (by omega) _ rfl]; rfl
    · (have h2 := h; try simp only [LN] at h2)
      have hie : i = (wojF e u 0 g.joined).length := by omega
      (repeat ((first | refine N0 ?_ | refine A0 fun γ => ?_ | refine C1 ?_ | refine C2 ?_ | refine C3 ?_ | refine C4 ?_ | refine C5 ?_ | refine C6 ?_ | refine C7 ?_ | refine D0 fun γs => ?_ | refine A1 fun γs => ?_ | refine N2 ?_ | refine N3 ?_ | refine N1 ?_); ((conv => whnf); repeat ((first | refine Sw.o ?_ | refine B0 ?_); conv => whnf))))
      show Fw.Ends (.agg [.sl 1 (g.eqs.map encS), .sl 3 (g.uses.map encU), .sl 1 (((((wojF e u 0 g.joined).take i).map encL |>.drop 0).take i).map (snapEl _))]) _
      rw [snap_list _ _ _ _ (by rw [List.length_take]; omega) (fun _ => rfl), List.take_of_length_le (by omega)]
      exact .of rfl
end Go.Proofs.Ytgeeklnokblokaa
namespace Go.Proofs.Ytgeeklnokblokaa
open Go Go.Fw
def certG (t : Nat → Int → Bool) : Nat → List Int → List (Int × Int)
  | _, [] => []
  | e, u :: r => match decide (0 ≤ u) with
    | true => match t e u with
      | true => ((e : Int), u) :: certG t (e + 1) r
      | false => certG t (e + 1) r
    | false => certG t (e + 1) r
theorem certG_len (t : Nat → Int → Bool) : ∀ (l : List Int) (e : Nat), (certG t e l).length ≤ l.length
  | [], _ => Nat.le_refl _
  | u :: r, e => by
    have := certG_len t r (e + 1)
    unfold certG
    split
    · split <;> simp only [List.length_cons] <;> omega
    · simp only [List.length_cons]; omega
theorem mrO_len (g : G) : ∀ (l : List Nat) (s : Int × List Bool × List Bool) (out : List Int), (mrO g l s out).length = out.length + l.length
  | [], s, out => by simp [mrO]
  | e :: r, s, out => by simp only [mrO, mrO_len g r, List.length_append, List.length_cons, List.length_nil]; omega
theorem matchR_len (g : G) : (matchR g).length = g.eqs.length := by unfold matchR; rw [mrO_len]; simp
theorem without_wf {g : G} (hg : WF g) (e u : Int) : WF (withoutF g e u) := by
  have hl := wojF_len e u g.joined 0
  have hin : ∀ l ∈ wojF e u 0 g.joined, ∃ l' ∈ g.joined, l.length ≤ l'.length ∧ ∀ x ∈ l, x ∈ l' := by
    intro l h
    obtain ⟨k, hk, rfl⟩ := List.getElem_of_mem h
    have hk' : k < g.joined.length := by rw [← hl]; exact hk
    rw [wojF_get e u g.joined 0 k hk' hk]
    exact ⟨_, List.getElem_mem hk', wolF_len .., fun x hx => (List.mem_filter.1 hx).1⟩
  refine ⟨hl.trans hg.len, fun l h x hx => ?_, hg.se, hg.su, fun l h => ?_⟩
  · obtain ⟨l', h1, h2, h3⟩ := hin l h
    exact hg.in_ l' h1 x (h3 x hx)
  · obtain ⟨l', h1, h2, h3⟩ := hin l h
    exact Nat.le_trans h2 (hg.sl l' h1)
def tR (g : G) (e : Nat) (u : Int) : Bool := decide (SizeF (withoutF g e u) < SizeF g)
def CertainR (g : G) : List (Int × Int) × Int := match decide (checkF g = 0) with
  | true => (certG (tR g) 0 (matchR g), 0)
  | false => ([], checkF g)
theorem snoc_encPr (l : List (Int × Int)) (u : Int × Int) : l.map encPr ++ [encPr u] = (l ++ [u]).map encPr := by simp
theorem snapEl_encPr (S : List Nat) (H : Hp) (n : Nat) (x : Int × Int) : snapEl (snapC S H n) (encPr x) = encPr x := by
  cases n <;> rfl
set_option maxHeartbeats 4000000 in
set_option maxRecDepth 100000 in
theorem certain17_ok (g : G) (hz : Sz g) : PureCall Try.prog 17 [encG g] (.tup [.sl 2 ((CertainR g).1.map encPr), encI (CertainR g).2]) := by
  refine pure_cp (E := E 0) T_ok (D_ok 0) [100] Try.func17 rfl (by rfl) (Nat.le_of_ble_eq_true rfl) ?_
  generalize hR : CertainR g = R
  unfold CertainR at hR
  rcases Decidable.em (checkF g = 0) with h | h
  · rw [decide_eq_true h] at hR
    have hM : MatchR g = (matchR g, 0) := by unfold MatchR; rw [decide_eq_true h]
    have hg := (check_wf h).1
    have su := hg.su
    have se := hg.se
    have hjl := hg.len
    have hml := matchR_len g
    simp only at hR
    generalize hC : certG (tR g) 0 (matchR g) = C at hR
    ((conv => whnf); repeat ((first | refine Sw.o ?_ | refine B0 ?_); conv => whnf))
    (repeat ((first | refine N0 ?_ | refine A0 fun γ => ?_ | refine C1 ?_ | refine C2 ?_ | refine C3 ?_ | refine C4 ?_ | refine C5 ?_ | refine C6 ?_ | refine C7 ?_ | refine D0 fun γs => ?_ | refine A1 fun γs => ?_ | refine N2 ?_ | refine N3 ?_ | refine N1 ?_); ((conv => whnf); repeat ((first | refine Sw.o ?_ | refine B0 ?_); conv => whnf))))
    refine CallP.pure [] _ c13 (match13_ok g hz) ?_
    rw [hM]
    generalize matchR g = m at hml hC ⊢
    ((conv => whnf); repeat ((first | refine Sw.o ?_ | refine B0 ?_); conv => whnf))
    (repeat ((first | refine N0 ?_ | refine A0 fun γ => ?_ | refine C1 ?_ | refine C2 ?_ | refine C3 ?_ | refine C4 ?_ | refine C5 ?_ | refine C6 ?_ | refine C7 ?_ | refine D0 fun γs => ?_ | refine A1 fun γs => ?_ | refine N2 ?_ | refine N3 ?_ | refine N1 ?_); ((conv => whnf); repeat ((first | refine Sw.o ?_ | refine B0 ?_); conv => whnf))))
    refine CallP.flat [] (encI (SizeF g)) c40 (Size_ok g hg) rfl ?_
    ((conv => whnf); repeat ((first | refine Sw.o ?_ | refine B0 ?_); conv => whnf))
    (repeat ((first | refine N0 ?_ | refine A0 fun γ => ?_ | refine C1 ?_ | refine C2 ?_ | refine C3 ?_ | refine C4 ?_ | refine C5 ?_ | refine C6 ?_ | refine C7 ?_ | refine D0 fun γs => ?_ | refine A1 fun γs => ?_ | refine N2 ?_ | refine N3 ?_ | refine N1 ?_); ((conv => whnf); repeat ((first | refine Sw.o ?_ | refine B0 ?_); conv => whnf))))
    refine LoopP.intro (fun k σ H => ∃ p1 p100 i, ∃ out : List (Int × Int), i ≤ m.length ∧ k = m.length - i ∧ out ++ certG (tR g) i (m.drop i) = C ∧ out.length ≤ i ∧
      σ = fr [(1, .op 1 p1 0 0), (4, encL m), (6, encI (SizeF g)), (7, .own 100 p100 0 out.length), (8, encI i)] ∧
      H = hp [(1, p1, ⟨26, 3, [encG g]⟩), (100, p100, ⟨55, 2, out.map encPr⟩)]) ?_ ?_
    · exact .intro <| W.mat 7 100 55 2 rfl rfl fun γ => W.of ⟨_, _, _, 0, [], Nat.zero_le _, rfl, hC, Nat.le_refl _, rfl, rfl⟩ ⟨rfl, rfl, rfl, rfl, rfl, trivial⟩ ⟨rfl, rfl, trivial⟩
    · rintro k σ H ⟨p1, p100, i, out, hi, rfl, hO, hol, rfl, rfl⟩
      ((conv => whnf); repeat ((first | refine Sw.o ?_ | refine B0 ?_); conv => whnf))
      (repeat ((first | refine N0 ?_ | refine A0 fun γ => ?_ | refine C1 ?_ | refine C2 ?_ | refine C3 ?_ | refine C4 ?_ | refine C5 ?_ | refine C6 ?_ | refine C7 ?_ | refine D0 fun γs => ?_ | refine A1 fun γs => ?_ | refine N2 ?_ | refine N3 ?_ | refine N1 ?_); ((conv => whnf); repeat ((first | refine Sw.o ?_ | refine B0 ?_); conv => whnf))))
      refine CondP.dec (fun h => ?_) (fun h => ?_) <;> ((conv => whnf); repeat ((first | refine Sw.o ?_ | refine B0 ?_); conv => whnf))
      · (have h2 := h; try simp only [LN] at h2)
        have hi' : i < m.length := by omega
        rw [List.drop_eq_getElem_cons hi'] at hO
        (repeat ((first | refine N0 ?_ | refine A0 fun γ => ?_ | refine C1 ?_ | refine C2 ?_ | refine C3 ?_ | refine C4 ?_ | refine C5 ?_ | refine C6 ?_ | refine C7 ?_ | refine D0 fun γs => ?_ | refine A1 fun γs => ?_ | refine N2 ?_ | refine N3 ?_ | refine N1 ?_); ((conv => whnf); repeat ((first | refine Sw.o ?_ | refine B0 ?_); conv => whnf))))
        (simp (disch := omega) only [LG]; ((conv => whnf); repeat ((first | refine Sw.o ?_ | refine B0 ?_); conv => whnf)))
        (repeat ((first | refine N0 ?_ | refine A0 fun γ => ?_ | refine C1 ?_ | refine C2 ?_ | refine C3 ?_ | refine C4 ?_ | refine C5 ?_ | refine C6 ?_ | refine C7 ?_ | refine D0 fun γs => ?_ | refine A1 fun γs => ?_ | refine N2 ?_ | refine N3 ?_ | refine N1 ?_); ((conv => whnf); repeat ((first | refine Sw.o ?_ | refine B0 ?_); conv => whnf))))
        have hcl := certG_len (tR g) (m.drop (i + 1)) (i + 1)
        have hoC : out.length + (certG (tR g) i (m[i] :: m.drop (i + 1))).length = C.length := by rw [← hO]; simp
        generalize hu : m[i] = u at hO hoC ⊢
        unfold certG at hO
        refine CondP.dec (fun h0 => ?_) (fun h0 => ?_) <;> ((conv => whnf); repeat ((first | refine Sw.o ?_ | refine B0 ?_); conv => whnf))
        · rw [decide_eq_true h0] at hO
          simp only at hO
          have ht : tR g i u = decide (SizeF (withoutF g i u) < SizeF g) := rfl
          (repeat ((first | refine N0 ?_ | refine A0 fun γ => ?_ | refine C1 ?_ | refine C2 ?_ | refine C3 ?_ | refine C4 ?_ | refine C5 ?_ | refine C6 ?_ | refine C7 ?_ | refine D0 fun γs => ?_ | refine A1 fun γs => ?_ | refine N2 ?_ | refine N3 ?_ | refine N1 ?_); ((conv => whnf); repeat ((first | refine Sw.o ?_ | refine B0 ?_); conv => whnf))))
          (simp (disch := omega) only [LG]; ((conv => whnf); repeat ((first | refine Sw.o ?_ | refine B0 ?_); conv => whnf)))
          rw [hu]
          (repeat ((first | refine N0 ?_ | refine A0 fun γ => ?_ | refine C1 ?_ | refine C2 ?_ | refine C3 ?_ | refine C4 ?_ | refine C5 ?_ | refine C6 ?_ | refine C7 ?_ | refine D0 fun γs => ?_ | refine A1 fun γs => ?_ | refine N2 ?_ | refine N3 ?_ | refine N1 ?_); ((conv => whnf); repeat ((first | refine Sw.o ?_ | refine B0 ?_); conv => whnf))))
          refine CallG.intro (encG (withoutF g i u)) c28 (without_ok g hg i u) ?_
          ((conv => whnf); repeat ((first | refine Sw.o ?_ | refine B0 ?_); conv => whnf))
          (repeat ((first | refine N0 ?_ | refine A0 fun γ => ?_ | refine C1 ?_ | refine C2 ?_ | refine C3 ?_ | refine C4 ?_ | refine C5 ?_ | refine C6 ?_ | refine C7 ?_ | refine D0 fun γs => ?_ | refine A1 fun γs => ?_ | refine N2 ?_ | refine N3 ?_ | refine N1 ?_); ((conv => whnf); repeat ((first | refine Sw.o ?_ | refine B0 ?_); conv => whnf))))
          refine CallG.intro (encI (SizeF (withoutF g i u))) c40 (Size_ok _ (without_wf hg i u)) ?_
          ((conv => whnf); repeat ((first | refine Sw.o ?_ | refine B0 ?_); conv => whnf))
          (repeat ((first | refine N0 ?_ | refine A0 fun γ => ?_ | refine C1 ?_ | refine C2 ?_ | refine C3 ?_ | refine C4 ?_ | refine C5 ?_ | refine C6 ?_ | refine C7 ?_ | refine D0 fun γs => ?_ | refine A1 fun γs => ?_ | refine N2 ?_ | refine N3 ?_ | refine N1 ?_); ((conv => whnf); repeat ((first | refine Sw.o ?_ | refine B0 ?_); conv => whnf))))
          refine CondP.dec (fun hs => ?_) (fun hs => ?_) <;> ((conv => whnf); repeat ((first | refine Sw.o ?_ | refine B0 ?_); conv => whnf))
          · rw [ht, decide_eq_true hs] at hO
            (repeat ((first | refine N0 ?_ | refine A0 fun γ => ?_ | refine C1 ?_ | refine C2 ?_ | refine C3 ?_ | refine C4 ?_ | refine C5 ?_ | refine C6 ?_ | refine C7 ?_ | refine D0 fun γs => ?_ | refine A1 fun γs => ?_ | refine N2 ?_ | refine N3 ?_ | refine N1 ?_); ((conv => whnf); repeat ((first | refine Sw.o ?_ | refine B0 ?_); conv => whnf))))
            (simp (disch := omega) only [LG]; ((conv => whnf); repeat ((first | refine Sw.o ?_ | refine B0 ?_); conv => whnf)))
            (repeat ((first | refine N0 ?_ | refine A0 fun γ => ?_ | refine C1 ?_ | refine C2 ?_ | refine C3 ?_ | refine C4 ?_ | refine C5 ?_ | refine C6 ?_ | refine C7 ?_ | refine D0 fun γs => ?_ | refine A1 fun γs => ?_ | refine N2 ?_ | refine N3 ?_ | refine N1 ?_); ((conv => whnf); repeat ((first | refine Sw.o ?_ | refine B0 ?_); conv => whnf))))
            rw [hu]
            ((conv => whnf); repeat ((first | refine Sw.o ?_ | refine B0 ?_); conv => whnf))
            (repeat ((first | refine N0 ?_ | refine A0 fun γ => ?_ | refine C1 ?_ | refine C2 ?_ | refine C3 ?_ | refine C4 ?_ | refine C5 ?_ | refine C6 ?_ | refine C7 ?_ | refine D0 fun γs => ?_ | refine A1 fun γs => ?_ | refine N2 ?_ | refine N3 ?_ | refine N1 ?_); ((conv => whnf); repeat ((first | refine Sw.o ?_ | refine B0 ?_); conv => whnf))))
            refine .intro <| W.of ⟨_, by omega, _, _, i + 1, out ++ [((i : Int), u)], by omega, rfl, by rw [List.append_assoc]; exact hO, by simp; omega, rfl, rfl⟩ ⟨rfl, rfl, rfl, by rw [List.length_append]; rfl, rfl, trivial⟩ ⟨rfl, ?_, trivial⟩
            rw [← snoc_encPr]; rfl
          · rw [ht, decide_eq_false hs] at hO
            (repeat ((first | refine N0 ?_ | refine A0 fun γ => ?_ | refine C1 ?_ | refine C2 ?_ | refine C3 ?_ | refine C4 ?_ | refine C5 ?_ | refine C6 ?_ | refine C7 ?_ | refine D0 fun γs => ?_ | refine A1 fun γs => ?_ | refine N2 ?_ | refine N3 ?_ | refine N1 ?_); ((conv => whnf); repeat ((first | refine Sw.o ?_ | refine B0 ?_); conv => whnf))))
            exact .intro <| W.of ⟨_, by omega, _, _, i + 1, out, by omega, rfl, hO, by omega, rfl, rfl⟩ ⟨rfl, rfl, rfl, rfl, rfl, trivial⟩ ⟨rfl, rfl, trivial⟩
        · rw [decide_eq_false h0] at hO
          (repeat ((first | refine N0 ?_ | refine A0 fun γ => ?_ | refine C1 ?_ | refine C2 ?_ | refine C3 ?_ | refine C4 ?_ | refine C5 ?_ | refine C6 ?_ | refine C7 ?_ | refine D0 fun γs => ?_ | refine A1 fun γs => ?_ | refine N2 ?_ | refine N3 ?_ | refine N1 ?_); ((conv => whnf); repeat ((first | refine Sw.o ?_ | refine B0 ?_); conv => whnf))))
          exact .intro <| W.of ⟨_, by omega, _, _, i + 1, out, by omega, rfl, hO, by omega, rfl, rfl⟩ ⟨rfl, rfl, rfl, rfl, rfl, trivial⟩ ⟨rfl, rfl, trivial⟩
      · (have h2 := h; try simp only [LN] at h2)
        rw [List.drop_eq_nil_of_le (by omega), certG, List.append_nil] at hO
        subst hR
        subst hO
        (repeat ((first | refine N0 ?_ | refine A0 fun γ => ?_ | refine C1 ?_ | refine C2 ?_ | refine C3 ?_ | refine C4 ?_ | refine C5 ?_ | refine C6 ?_ | refine C7 ?_ | refine D0 fun γs => ?_ | refine A1 fun γs => ?_ | refine N2 ?_ | refine N3 ?_ | refine N1 ?_); ((conv => whnf); repeat ((first | refine Sw.o ?_ | refine B0 ?_); conv => whnf))))
        refine .of ?_
        show AV.tup [AV.sl 2 _, _] = AV.tup [AV.sl 2 _, _]
        rw [snap_list _ _ _ _ rfl (snapEl_encPr _ _ _)]
        rfl
  · rw [decide_eq_false h] at hR
    have hM : MatchR g = ([], checkF g) := by unfold MatchR; rw [decide_eq_false h]
    ((conv => whnf); repeat ((first | refine Sw.o ?_ | refine B0 ?_); conv => whnf))
    (repeat ((first | refine N0 ?_ | refine A0 fun γ => ?_ | refine C1 ?_ | refine C2 ?_ | refine C3 ?_ | refine C4 ?_ | refine C5 ?_ | refine C6 ?_ | refine C7 ?_ | refine D0 fun γs => ?_ | refine A1 fun γs => ?_ | refine N2 ?_ | refine N3 ?_ | refine N1 ?_); ((conv => whnf); repeat ((first | refine Sw.o ?_ | refine B0 ?_); conv => whnf))))
    refine CallP.pure [] _ c13 (match13_ok g hz) ?_
    rw [hM]
    ((conv => whnf); repeat ((first | refine Sw.o ?_ | refine B0 ?_); conv => whnf))
    (repeat ((first | refine N0 ?_ | refine A0 fun γ => ?_ | refine C1 ?_ | refine C2 ?_ | refine C3 ?_ | refine C4 ?_ | refine C5 ?_ | refine C6 ?_ | refine C7 ?_ | refine D0 fun γs => ?_ | refine A1 fun γs => ?_ | refine N2 ?_ | refine N3 ?_ | refine N1 ?_); ((conv => whnf); repeat ((first | refine Sw.o ?_ | refine B0 ?_); conv => whnf))))
    subst hR
    (repeat ((first | refine N0 ?_ | refine A0 fun γ => ?_ | refine C1 ?_ | refine C2 ?_ | refine C3 ?_ | refine C4 ?_ | refine C5 ?_ | refine C6 ?_ | refine C7 ?_ | refine D0 fun γs => ?_ | refine A1 fun γs => ?_ | refine N2 ?_ | refine N3 ?_ | refine N1 ?_); ((conv => whnf); repeat ((first | refine Sw.o ?_ | refine B0 ?_); conv => whnf))))
    exact ends_tup2 (Le.nil 2) (Le.refl _)
end Go.Proofs.Ytgeeklnokblokaa
namespace Go.Proofs.Ytgeeklnokblokaa
open Go Go.Fw
theorem matchO_len (g : G) (most : Int) : ∀ (l : List (List Int)) (out : List Int), (matchO g most l out).length = out.length + l.length
  | [], out => by simp [matchO]
  | e :: r, out => by simp only [matchO, matchO_len g most r, List.length_append, List.length_cons, List.length_nil]; omega
theorem matchF_len (g : G) : (matchF g).length = g.joined.length := by unfold matchF; rw [matchO_len]; simp
def cutF (g : G) (e : Nat) (u : Int) : G := ⟨g.eqs, g.uses, g.joined.set e (delF u (g.joined.getD e []))⟩
theorem cut_wf {g : G} (hg : WF g) (e : Nat) (u : Int) : WF (cutF g e u) := by
  have hin : ∀ l ∈ (cutF g e u).joined, ∃ l' ∈ g.joined, l.length ≤ l'.length ∧ ∀ x ∈ l, x ∈ l' := by
    intro l h
    rcases Nat.lt_or_ge e g.joined.length with he | he
    · rcases List.mem_or_eq_of_mem_set h with h | h
      · exact ⟨l, h, Nat.le_refl _, fun x h => h⟩
      · rw [h, getD_lt _ _ _ he]
        exact ⟨_, List.getElem_mem he, delF_len .., fun x hx => (List.mem_filter.1 hx).1⟩
    · have : (cutF g e u).joined = g.joined := by unfold cutF; simp only; rw [List.set_eq_of_length_le he]
      rw [this] at h
      exact ⟨l, h, Nat.le_refl _, fun x h => h⟩
  refine ⟨by simp [cutF, hg.len], fun l h x hx => ?_, hg.se, hg.su, fun l h => ?_⟩
  · obtain ⟨l', h1, h2, h3⟩ := hin l h
    exact hg.in_ l' h1 x (h3 x hx)
  · obtain ⟨l', h1, h2, h3⟩ := hin l h
    exact Nat.le_trans h2 (hg.sl l' h1)
def tF (g : G) (e : Nat) (u : Int) : Bool := decide ((greatestF (cutF g e u) []).2 < (greatestF g []).2)
def CertainF (g : G) : List (Int × Int) × Int := match decide (checkF g = 0) with
  | true => (certG (tF g) 0 (matchF g), 0)
  | false => ([], checkF g)
theorem snap_op {S : List Nat} {H : Hp} {b g i k : Nat} {B : Blk} (hS : b ∈ S) (hb : H b = some (g, B)) (hl : i < B.xs.length) : snapC S H 3 (.op b g i k) = .ep (snapEl (snapC S H 2) (B.xs.getD i .dead)) k := by
  simp only [snapC, if_pos hS, hb, true_and, if_pos hl]
theorem fz_two {S : List Nat} {H : Hp} {q9 q46 n : Nat} {u : Int} (h9 : 9 ∈ drop1 46 S) (hb : H 9 = some (q9, ⟨3, 1, [encI u]⟩)) : List.map (fz 46 S H) [.own 46 q46 0 n, .fn (.func 44) [] [.op 9 q9 0 0]] = [.own 0 q46 0 n, .fn (.func 44) [] [.ep (encI u) 0]] := by
  show [AV.own 0 q46 0 n, AV.fn (.func 44) [] [snapC (drop1 46 S) H 3 (.op 9 q9 0 0)]] = _
  rw [snap_op h9 hb (by simp)]
  rfl
theorem snap_cut {g : G} {H : Hp} {q36 q46 i : Nat} {l l' : List Int} (h36 : H 36 = some (q36, ⟨29, 1, (g.joined.map encL).set i (.own 46 q46 0 l.length)⟩)) (h46 : H 46 = some (q46, ⟨3, 1, (l ++ l').map encI⟩)) :
    List.map (snap [36, 46] H) [.agg [.sl 1 (g.eqs.map encS), .sl 3 (g.uses.map encU), .own 36 q36 0 g.joined.length], .val (.slice none 0 0)] = [encG ⟨g.eqs, g.uses, g.joined.set i l⟩, .val (.slice none 0 0)] := by
  have hsn : snapEl (snapC [36, 46] H 2) (.own 46 q46 0 l.length) = encL l := by
    show snapC [36, 46] H 2 (.own 46 q46 0 l.length) = _
    simp only [snapC, if_pos (show (46 : Nat) ∈ [36, 46] by simp), h46, List.length_map, List.length_append, true_and, if_pos (show 0 + l.length ≤ l.length + l'.length by omega)]
    show AV.sl 1 _ = AV.sl 1 _
    rw [List.drop_zero, ← List.map_take, List.take_left' rfl, List.map_map]
    rfl
  show [AV.agg [.sl 1 (g.eqs.map encS), .sl 3 (g.uses.map encU), snap [36, 46] H (.own 36 q36 0 g.joined.length)], _] = _
  rw [snap_own (by simp) h36 (by simp)]
  show [AV.agg [.sl 1 (g.eqs.map encS), .sl 3 (g.uses.map encU), .sl 1 ((((g.joined.map encL).set i (.own 46 q46 0 l.length)).drop 0).take g.joined.length |>.map (snapEl (snapC [36, 46] H 2)))], _] = _
  rw [List.drop_zero, List.take_of_length_le (by simp), List.map_set, hsn, List.map_map]
  unfold encG
  rw [List.map_set]
  rfl
set_option maxHeartbeats 4000000 in
set_option maxRecDepth 100000 in
theorem certain16_ok (g : G) (hz : Sz g) : PureCall Try.prog 16 [encG g] (.tup [.sl 2 ((CertainF g).1.map encPr), encI (CertainF g).2]) := by
  refine pure_cp (E := E 0) T_ok (D_ok 0) [100] Try.func16 rfl (by rfl) (Nat.le_of_ble_eq_true rfl) ?_
  generalize hR : CertainF g = R
  unfold CertainF at hR
  ((conv => whnf); repeat ((first | refine Sw.o ?_ | refine B0 ?_); conv => whnf))
  (repeat ((first | refine N0 ?_ | refine A0 fun γ => ?_ | refine C1 ?_ | refine C2 ?_ | refine C3 ?_ | refine C4 ?_ | refine C5 ?_ | refine C6 ?_ | refine C7 ?_ | refine D0 fun γs => ?_ | refine A1 fun γs => ?_ | refine N2 ?_ | refine N3 ?_ | refine N1 ?_); ((conv => whnf); repeat ((first | refine Sw.o ?_ | refine B0 ?_); conv => whnf))))
  refine CallP.flat [] (encI (checkF g)) c35 (check35_ok g hz) rfl ?_
  ((conv => whnf); repeat ((first | refine Sw.o ?_ | refine B0 ?_); conv => whnf))
  (repeat ((first | refine N0 ?_ | refine A0 fun γ => ?_ | refine C1 ?_ | refine C2 ?_ | refine C3 ?_ | refine C4 ?_ | refine C5 ?_ | refine C6 ?_ | refine C7 ?_ | refine D0 fun γs => ?_ | refine A1 fun γs => ?_ | refine N2 ?_ | refine N3 ?_ | refine N1 ?_); ((conv => whnf); repeat ((first | refine Sw.o ?_ | refine B0 ?_); conv => whnf))))
  refine CondP.dec (fun h => ?_) (fun h => ?_) <;> ((conv => whnf); repeat ((first | refine Sw.o ?_ | refine B0 ?_); conv => whnf))
  · rw [decide_eq_true h] at hR
    have hg := (check_wf h).1
    have su := hg.su
    have se := hg.se
    have hjl := hg.len
    have hml := matchF_len g
    simp only at hR
    generalize hC : certG (tF g) 0 (matchF g) = C at hR
    (repeat ((first | refine N0 ?_ | refine A0 fun γ => ?_ | refine C1 ?_ | refine C2 ?_ | refine C3 ?_ | refine C4 ?_ | refine C5 ?_ | refine C6 ?_ | refine C7 ?_ | refine D0 fun γs => ?_ | refine A1 fun γs => ?_ | refine N2 ?_ | refine N3 ?_ | refine N1 ?_); ((conv => whnf); repeat ((first | refine Sw.o ?_ | refine B0 ?_); conv => whnf))))
    refine CallP.pure [] _ c39 (greatest0_ok g hg) ?_
    have htF : ∀ e u, tF g e u = decide ((greatestF (cutF g e u) []).2 < (greatestF g []).2) := fun _ _ => rfl
    generalize greatestF g [] = q at htF ⊢
    ((conv => whnf); repeat ((first | refine Sw.o ?_ | refine B0 ?_); conv => whnf))
    (repeat ((first | refine N0 ?_ | refine A0 fun γ => ?_ | refine C1 ?_ | refine C2 ?_ | refine C3 ?_ | refine C4 ?_ | refine C5 ?_ | refine C6 ?_ | refine C7 ?_ | refine D0 fun γs => ?_ | refine A1 fun γs => ?_ | refine N2 ?_ | refine N3 ?_ | refine N1 ?_); ((conv => whnf); repeat ((first | refine Sw.o ?_ | refine B0 ?_); conv => whnf))))
    refine CallP.pure [] _ c36 (match_ok g hg) ?_
    generalize matchF g = m at hml hC ⊢
    ((conv => whnf); repeat ((first | refine Sw.o ?_ | refine B0 ?_); conv => whnf))
    (repeat ((first | refine N0 ?_ | refine A0 fun γ => ?_ | refine C1 ?_ | refine C2 ?_ | refine C3 ?_ | refine C4 ?_ | refine C5 ?_ | refine C6 ?_ | refine C7 ?_ | refine D0 fun γs => ?_ | refine A1 fun γs => ?_ | refine N2 ?_ | refine N3 ?_ | refine N1 ?_); ((conv => whnf); repeat ((first | refine Sw.o ?_ | refine B0 ?_); conv => whnf))))
    simp only [List.length_map]
    refine LoopP.intro (fun k σ H => ∃ p1 p100 i, ∃ out : List (Int × Int), i ≤ m.length ∧ k = m.length - i ∧ out ++ certG (tF g) i (m.drop i) = C ∧ out.length ≤ i ∧
      σ = fr [(1, .op 1 p1 0 0), (6, encI q.2), (7, .own 100 p100 0 out.length), (24, encL m), (25, encI m.length), (26, encI i)] ∧
      H = hp [(1, p1, ⟨26, 3, [encG g]⟩), (100, p100, ⟨55, 2, out.map encPr⟩)]) ?_ ?_
    · exact .intro <| W.mat 7 100 55 2 rfl rfl fun γ => W.of ⟨_, _, _, 0, [], Nat.zero_le _, rfl, hC, Nat.le_refl _, rfl, rfl⟩ ⟨rfl, rfl, rfl, rfl, rfl, rfl, trivial⟩ ⟨rfl, rfl, trivial⟩
    · rintro k σ H ⟨p1, p100, i, out, hi, rfl, hO, hol, rfl, rfl⟩
      ((conv => whnf); repeat ((first | refine Sw.o ?_ | refine B0 ?_); conv => whnf))
      (repeat ((first | refine N0 ?_ | refine A0 fun γ => ?_ | refine C1 ?_ | refine C2 ?_ | refine C3 ?_ | refine C4 ?_ | refine C5 ?_ | refine C6 ?_ | refine C7 ?_ | refine D0 fun γs => ?_ | refine A1 fun γs => ?_ | refine N2 ?_ | refine N3 ?_ | refine N1 ?_); ((conv => whnf); repeat ((first | refine Sw.o ?_ | refine B0 ?_); conv => whnf))))
      refine CondP.dec (fun h => ?_) (fun h => ?_) <;> ((conv => whnf); repeat ((first | refine Sw.o ?_ | refine B0 ?_); conv => whnf))
      · (have h2 := h; try simp only [LN] at h2)
        have hi' : i < m.length := by omega
        rw [List.drop_eq_getElem_cons hi'] at hO
        (repeat ((first | refine N0 ?_ | refine A0 fun γ => ?_ | refine C1 ?_ | refine C2 ?_ | refine C3 ?_ | refine C4 ?_ | refine C5 ?_ | refine C6 ?_ | refine C7 ?_ | refine D0 fun γs => ?_ | refine A1 fun γs => ?_ | refine N2 ?_ | refine N3 ?_ | refine N1 ?_); ((conv => whnf); repeat ((first | refine Sw.o ?_ | refine B0 ?_); conv => whnf))))
        (simp (disch := omega) only [LG]; ((conv => whnf); repeat ((first | refine Sw.o ?_ | refine B0 ?_); conv => whnf)))
        have hcl := certG_len (tF g) (m.drop (i + 1)) (i + 1)
        have hoC : out.length + (certG (tF g) i (m[i] :: m.drop (i + 1))).length = C.length := by rw [← hO]; simp
        generalize hu : m[i] = u at hO hoC ⊢
        unfold certG at hO
        (repeat ((first | refine N0 ?_ | refine A0 fun γ => ?_ | refine C1 ?_ | refine C2 ?_ | refine C3 ?_ | refine C4 ?_ | refine C5 ?_ | refine C6 ?_ | refine C7 ?_ | refine D0 fun γs => ?_ | refine A1 fun γs => ?_ | refine N2 ?_ | refine N3 ?_ | refine N1 ?_); ((conv => whnf); repeat ((first | refine Sw.o ?_ | refine B0 ?_); conv => whnf))))
        refine CondP.dec (fun h0 => ?_) (fun h0 => ?_) <;> ((conv => whnf); repeat ((first | refine Sw.o ?_ | refine B0 ?_); conv => whnf))
        · rw [decide_eq_false (by omega)] at hO
          (repeat ((first | refine N0 ?_ | refine A0 fun γ => ?_ | refine C1 ?_ | refine C2 ?_ | refine C3 ?_ | refine C4 ?_ | refine C5 ?_ | refine C6 ?_ | refine C7 ?_ | refine D0 fun γs => ?_ | refine A1 fun γs => ?_ | refine N2 ?_ | refine N3 ?_ | refine N1 ?_); ((conv => whnf); repeat ((first | refine Sw.o ?_ | refine B0 ?_); conv => whnf))))
          exact .intro <| W.of ⟨_, by omega, _, _, i + 1, out, by omega, rfl, hO, by omega, rfl, rfl⟩ ⟨rfl, rfl, rfl, rfl, rfl, rfl, trivial⟩ ⟨rfl, rfl, trivial⟩
        · rw [decide_eq_true (by omega)] at hO
          simp only at hO
          (repeat ((first | refine N0 ?_ | refine A0 fun γ => ?_ | refine C1 ?_ | refine C2 ?_ | refine C3 ?_ | refine C4 ?_ | refine C5 ?_ | refine C6 ?_ | refine C7 ?_ | refine D0 fun γs => ?_ | refine A1 fun γs => ?_ | refine N2 ?_ | refine N3 ?_ | refine N1 ?_); ((conv => whnf); repeat ((first | refine Sw.o ?_ | refine B0 ?_); conv => whnf))))
          rename_i γ9
          refine CallP.frame 1000000 [(5, 36)] rfl c41 (clone41_ok g.joined (by omega)) rfl trivial ?_
          rintro r0 h' ⟨δ, rfl, rfl⟩
          refine ⟨[(36, δ, ⟨29, 1, g.joined.map encL⟩), (1, p1, ⟨26, 3, [encG g]⟩), (100, p100, ⟨55, 2, out.map encPr⟩), (9, γ9, ⟨3, 1, [encI u]⟩), (10, γ, ⟨26, 3, [encG g]⟩)], ⟨mvB_flats encL _ (fun _ => rfl) .., rfl, rfl, rfl, rfl, trivial⟩, ?_⟩
          ((conv => whnf); repeat ((first | refine Sw.o ?_ | refine B0 ?_); conv => whnf))
          (repeat ((first | refine N0 ?_ | refine A0 fun γ => ?_ | refine C1 ?_ | refine C2 ?_ | refine C3 ?_ | refine C4 ?_ | refine C5 ?_ | refine C6 ?_ | refine C7 ?_ | refine D0 fun γs => ?_ | refine A1 fun γs => ?_ | refine N2 ?_ | refine N3 ?_ | refine N1 ?_); ((conv => whnf); repeat ((first | refine Sw.o ?_ | refine B0 ?_); conv => whnf))))
          (simp (disch := omega) only [LG]; ((conv => whnf); repeat ((first | refine Sw.o ?_ | refine B0 ?_); conv => whnf)))
          have hij : i < g.joined.length := by omega
          have sl := hg.sl _ (List.getElem_mem hij)
          have hcut : g.joined.set i (delF u g.joined[i]) = (cutF g i u).joined := by unfold cutF; simp only; rw [getD_lt _ _ _ hij]
          have hcw := cut_wf hg i u
          have hcl : (cutF g i u).joined.length = g.joined.length := by simp [cutF]
          generalize g.joined[i] = l at sl hcut ⊢
          refine CallG.new 5 3 1 (l.map encI) 0 l.length c43 (hcall_args (by rfl) (clone43_ok l (by omega))) (fun x hx c hc => by obtain ⟨b, _, rfl⟩ := List.mem_map.1 hx; obtain rfl := List.mem_singleton.1 hc; rfl) ?_
          ((conv => whnf); repeat ((first | refine Sw.o ?_ | refine B0 ?_); conv => whnf))
          (repeat ((first | refine N0 ?_ | refine A0 fun γ => ?_ | refine C1 ?_ | refine C2 ?_ | refine C3 ?_ | refine C4 ?_ | refine C5 ?_ | refine C6 ?_ | refine C7 ?_ | refine D0 fun γs => ?_ | refine A1 fun γs => ?_ | refine N2 ?_ | refine N3 ?_ | refine N1 ?_); ((conv => whnf); repeat ((first | refine Sw.o ?_ | refine B0 ?_); conv => whnf))))
          refine CallG.mod (b := 46) 3 1 _ 0 (delF u l).length c42 ?_ rfl (fun x hx c hc => by obtain ⟨b, _, rfl⟩ := List.mem_map.1 hx; obtain rfl := List.mem_singleton.1 hc; rfl) (hcall_args ?_ (deleteFunc_ok _ u l (by omega))) (fun x hx c hc => by obtain ⟨b, _, rfl⟩ := List.mem_map.1 hx; obtain rfl := List.mem_singleton.1 hc; rfl) ?_
          · show 46 ∈ [46, 9]
            simp
          · exact fz_two (by show 9 ∈ [9]; simp) rfl
          ((conv => whnf); repeat ((first | refine Sw.o ?_ | refine B0 ?_); conv => whnf))
          (repeat ((first | refine N0 ?_ | refine A0 fun γ => ?_ | refine C1 ?_ | refine C2 ?_ | refine C3 ?_ | refine C4 ?_ | refine C5 ?_ | refine C6 ?_ | refine C7 ?_ | refine D0 fun γs => ?_ | refine A1 fun γs => ?_ | refine N2 ?_ | refine N3 ?_ | refine N1 ?_); ((conv => whnf); repeat ((first | refine Sw.o ?_ | refine B0 ?_); conv => whnf))))
          (simp (disch := omega) only [LG]; ((conv => whnf); repeat ((first | refine Sw.o ?_ | refine B0 ?_); conv => whnf)))
          (repeat ((first | refine N0 ?_ | refine A0 fun γ => ?_ | refine C1 ?_ | refine C2 ?_ | refine C3 ?_ | refine C4 ?_ | refine C5 ?_ | refine C6 ?_ | refine C7 ?_ | refine D0 fun γs => ?_ | refine A1 fun γs => ?_ | refine N2 ?_ | refine N3 ?_ | refine N1 ?_); ((conv => whnf); repeat ((first | refine Sw.o ?_ | refine B0 ?_); conv => whnf))))
          refine CallP.pure [36, 46] _ c39 (pure_args ?_ (greatest0_ok (cutF g i u) hcw)) ?_
          · refine (snap_cut (g := g) (i := i) (l := delF u l) rfl rfl).trans ?_
            rw [hcut]; rfl
          ((conv => whnf); repeat ((first | refine Sw.o ?_ | refine B0 ?_); conv => whnf))
          (repeat ((first | refine N0 ?_ | refine A0 fun γ => ?_ | refine C1 ?_ | refine C2 ?_ | refine C3 ?_ | refine C4 ?_ | refine C5 ?_ | refine C6 ?_ | refine C7 ?_ | refine D0 fun γs => ?_ | refine A1 fun γs => ?_ | refine N2 ?_ | refine N3 ?_ | refine N1 ?_); ((conv => whnf); repeat ((first | refine Sw.o ?_ | refine B0 ?_); conv => whnf))))
          have ht := htF i u
          refine CondP.dec (fun hs => ?_) (fun hs => ?_) <;> ((conv => whnf); repeat ((first | refine Sw.o ?_ | refine B0 ?_); conv => whnf))
          · rw [ht, decide_eq_true hs] at hO
            (repeat ((first | refine N0 ?_ | refine A0 fun γ => ?_ | refine C1 ?_ | refine C2 ?_ | refine C3 ?_ | refine C4 ?_ | refine C5 ?_ | refine C6 ?_ | refine C7 ?_ | refine D0 fun γs => ?_ | refine A1 fun γs => ?_ | refine N2 ?_ | refine N3 ?_ | refine N1 ?_); ((conv => whnf); repeat ((first | refine Sw.o ?_ | refine B0 ?_); conv => whnf))))
            refine .intro <| W.of ⟨_, by omega, _, _, i + 1, out ++ [((i : Int), u)], by omega, rfl, by rw [List.append_assoc]; exact hO, by simp; omega, rfl, rfl⟩ ⟨rfl, rfl, by rw [List.length_append]; rfl, rfl, rfl, rfl, trivial⟩ ⟨rfl, ?_, trivial⟩
            rw [← snoc_encPr]; rfl
          · rw [ht, decide_eq_false hs] at hO
            (repeat ((first | refine N0 ?_ | refine A0 fun γ => ?_ | refine C1 ?_ | refine C2 ?_ | refine C3 ?_ | refine C4 ?_ | refine C5 ?_ | refine C6 ?_ | refine C7 ?_ | refine D0 fun γs => ?_ | refine A1 fun γs => ?_ | refine N2 ?_ | refine N3 ?_ | refine N1 ?_); ((conv => whnf); repeat ((first | refine Sw.o ?_ | refine B0 ?_); conv => whnf))))
            exact .intro <| W.of ⟨_, by omega, _, _, i + 1, out, by omega, rfl, hO, by omega, rfl, rfl⟩ ⟨rfl, rfl, rfl, rfl, rfl, rfl, trivial⟩ ⟨rfl, rfl, trivial⟩
      · (have h2 := h; try simp only [LN] at h2)
        rw [List.drop_eq_nil_of_le (by omega), certG, List.append_nil] at hO
        subst hR
        subst hO
        (repeat ((first | refine N0 ?_ | refine A0 fun γ => ?_ | refine C1 ?_ | refine C2 ?_ | refine C3 ?_ | refine C4 ?_ | refine C5 ?_ | refine C6 ?_ | refine C7 ?_ | refine D0 fun γs => ?_ | refine A1 fun γs => ?_ | refine N2 ?_ | refine N3 ?_ | refine N1 ?_); ((conv => whnf); repeat ((first | refine Sw.o ?_ | refine B0 ?_); conv => whnf))))
        refine .of ?_
        show AV.tup [AV.sl 2 _, _] = AV.tup [AV.sl 2 _, _]
        rw [snap_list _ _ _ _ rfl (snapEl_encPr _ _ _)]
        rfl
  · rw [decide_eq_false h] at hR
    subst hR
    (repeat ((first | refine N0 ?_ | refine A0 fun γ => ?_ | refine C1 ?_ | refine C2 ?_ | refine C3 ?_ | refine C4 ?_ | refine C5 ?_ | refine C6 ?_ | refine C7 ?_ | refine D0 fun γs => ?_ | refine A1 fun γs => ?_ | refine N2 ?_ | refine N3 ?_ | refine N1 ?_); ((conv => whnf); repeat ((first | refine Sw.o ?_ | refine B0 ?_); conv => whnf))))
    exact ends_tup2 (Le.nil 2) (Le.refl _)
end Go.Proofs.Ytgeeklnokblokaa
namespace Go.Proofs.Ytgeeklnokblokaa
open Go Go.Fw
def bs1 (c : UInt8) : ByteArray := ⟨#[c]⟩
def ux : U := ⟨bs1 120, 0, false⟩
def uy : U := ⟨bs1 121, 0, false⟩
def gA : G := ⟨[bs1 97, bs1 98, bs1 99], [ux, uy], [[0], [0], [0, 1]]⟩
def gB : G := ⟨[bs1 97], [ux, uy], [[0, 1]]⟩
def pTwo : Pt := ⟨[bs1 97, bs1 98], [ux]⟩
theorem vA1 : checkF gA = 0 := by kernel_rfl
theorem vB1 : checkF gB = 0 := by kernel_rfl
theorem vA2 : MatchF gA = ([0, -1, 1], 0) := by kernel_rfl
theorem vA3 : partsF gA = (pTwo, ⟨[bs1 99], [uy]⟩, ⟨[], []⟩, 0) := by kernel_rfl
theorem vA4 : culF gA = (pTwo, 0) := by kernel_rfl
theorem vB2 : MatchF gB = ([0], 0) := by kernel_rfl
theorem vB3 : CertainF gB = ([], 0) := by kernel_rfl
theorem vB4 : rankF gB = (1, 0) := by kernel_rfl
theorem zA : Sz gA := ⟨by decide, by decide, by decide, by decide, by decide, by decide⟩
theorem zB : Sz gB := ⟨by decide, by decide, by decide, by decide, by decide, by decide⟩
theorem hA : Halv gA := by
  have hm : mF gA = [0, 2] := by kernel_rfl
  have ho : ofM gA = [0, -1, 1] := by kernel_rfl
  unfold Halv
  rw [hm, ho]
  refine ⟨fun e => e = 0 ∨ e = 1, fun _ => False, ⟨?_, ?_⟩, ?_, ⟨?_, ?_⟩, ?_⟩
  · rintro e (rfl | rfl) <;> exact ⟨by decide, by decide⟩
  · rintro e (rfl | rfl) u hu
    · have : u = 0 := by simpa [gA] using hu
      subst this; exact .inl rfl
    · have : u = 0 := by simpa [gA] using hu
      subst this; exact .inl rfl
  · intro i h hi
    match i, h with
    | 0, _ => exact absurd (show (0 : Int) < 0 from hi) (by decide)
    | 1, _ => exact .inr rfl
    | 2, _ => exact absurd (show (1 : Int) < 0 from hi) (by decide)
  · rintro e h; exact h.elim
  · rintro e h; exact h.elim
  · intro i h hi
    match i, h with
    | 0, _ => exact absurd (show (0 : Int) < 0 from hi) (by decide)
    | 1, _ => exact absurd (show (2 : Int) < 0 from hi) (by decide)
theorem snapC_own {S : List Nat} {H : Hp} {n b g off len : Nat} {B : Blk} (hS : b ∈ S) (hb : H b = some (g, B)) (hl : off + len ≤ B.xs.length) : snapC S H (n + 1) (.own b g off len) = .sl B.n (((B.xs.drop off).take len).map (snapEl (snapC S H n))) := by
  simp only [snapC, if_pos hS, hb, true_and, if_pos hl]
theorem snapE_own {S : List Nat} {H : Hp} {n b g off len : Nat} {B : Blk} (hS : b ∈ S) (hb : H b = some (g, B)) (hl : off + len ≤ B.xs.length) : snapEl (snapC S H (n + 1)) (.own b g off len) = .sl B.n (((B.xs.drop off).take len).map (snapEl (snapC S H n))) := snapC_own hS hb hl
theorem cong1 {n : Nat} {a a' : AV} (h : a = a') : AV.sl n [a] = AV.sl n [a'] := by rw [h]
theorem cong3 {n : Nat} {a b c a' b' c' : AV} (h1 : a = a') (h2 : b = b') (h3 : c = c') : AV.sl n [a, b, c] = AV.sl n [a', b', c'] := by rw [h1, h2, h3]
theorem congG {γ : Nat} {a b c a' b' c' : AV} (h1 : a = a') (h2 : b = b') (h3 : c = c') : some (γ, (⟨26, 3, [.agg [a, b, c]]⟩ : Blk)) = some (γ, ⟨26, 3, [.agg [a', b', c']]⟩) := by rw [h1, h2, h3]
theorem congP {γ : Nat} {a b a' b' : AV} (h1 : a = a') (h2 : b = b') : some (γ, (⟨41, 2, [.agg [a, b]]⟩ : Blk)) = some (γ, ⟨41, 2, [.agg [a', b']]⟩) := by rw [h1, h2]
theorem SameInts_eq (a : List Int) (ha : a.length < 2^62) : PureCall Try.prog 18 [.sl 1 (a.map encI), .sl 1 (a.map encI)] (encB true) := by
  have := SameInts_ok a a ha ha
  rwa [decide_eq_true rfl] at this
theorem SamePart_eq (a : Pt) (h1 : a.eqs.length < 2^62) (h2 : a.uses.length < 2^62) : PureCall Try.prog 33 [encP a, encP a] (encB true) := by
  have := SamePart_ok a a h1 h1 h2 h2
  rwa [decide_eq_true rfl, decide_eq_true rfl, Bool.and_true] at this
set_option maxHeartbeats 4000000 in
set_option maxRecDepth 100000 in
theorem awake11_ok : PureCall Try.prog 11 [] (encB true) := by
  refine pure_cp (E := E 0) T_ok (D_ok 0) [] Try.func11 rfl (by rfl) (Nat.le_of_ble_eq_true rfl) ?_
  ((conv => whnf); repeat ((first | refine Sx.o ?_ | refine B0 ?_); conv => whnf))
  (repeat ((first | refine N0 ?_ | refine A0 fun γ => ?_ | refine C1 ?_ | refine C2 ?_ | refine C3 ?_ | refine C4 ?_ | refine C5 ?_ | refine C6 ?_ | refine C7 ?_ | refine D0 fun γs => ?_ | refine A1 fun γs => ?_ | refine N2 ?_ | refine N3 ?_ | refine N1 ?_ | simp (disch := omega) only [LG]); ((conv => whnf); repeat ((first | refine Sx.o ?_ | refine B0 ?_); conv => whnf))))
  refine cpA_seq ?_
  ((conv => whnf); repeat ((first | refine Sx.o ?_ | refine B0 ?_); conv => whnf))
  (repeat ((first | refine N0 ?_ | refine A0 fun γ => ?_ | refine C1 ?_ | refine C2 ?_ | refine C3 ?_ | refine C4 ?_ | refine C5 ?_ | refine C6 ?_ | refine C7 ?_ | refine D0 fun γs => ?_ | refine A1 fun γs => ?_ | refine N2 ?_ | refine N3 ?_ | refine N1 ?_ | simp (disch := omega) only [LG]); ((conv => whnf); repeat ((first | refine Sx.o ?_ | refine B0 ?_); conv => whnf))))
  refine cpA_seq ?_
  ((conv => whnf); repeat ((first | refine Sx.o ?_ | refine B0 ?_); conv => whnf))
  (repeat ((first | refine N0 ?_ | refine A0 fun γ => ?_ | refine C1 ?_ | refine C2 ?_ | refine C3 ?_ | refine C4 ?_ | refine C5 ?_ | refine C6 ?_ | refine C7 ?_ | refine D0 fun γs => ?_ | refine A1 fun γs => ?_ | refine N2 ?_ | refine N3 ?_ | refine N1 ?_ | simp (disch := omega) only [LG]); ((conv => whnf); repeat ((first | refine Sx.o ?_ | refine B0 ?_); conv => whnf))))
  refine CallP.pure [] _ c34 (use_ok (bs1 120)) ?_
  ((conv => whnf); repeat ((first | refine Sx.o ?_ | refine B0 ?_); conv => whnf))
  (repeat ((first | refine N0 ?_ | refine A0 fun γ => ?_ | refine C1 ?_ | refine C2 ?_ | refine C3 ?_ | refine C4 ?_ | refine C5 ?_ | refine C6 ?_ | refine C7 ?_ | refine D0 fun γs => ?_ | refine A1 fun γs => ?_ | refine N2 ?_ | refine N3 ?_ | refine N1 ?_ | simp (disch := omega) only [LG]); ((conv => whnf); repeat ((first | refine Sx.o ?_ | refine B0 ?_); conv => whnf))))
  refine CallP.pure [] _ c34 (use_ok (bs1 121)) ?_
  ((conv => whnf); repeat ((first | refine Sx.o ?_ | refine B0 ?_); conv => whnf))
  (repeat ((first | refine N0 ?_ | refine A0 fun γ => ?_ | refine C1 ?_ | refine C2 ?_ | refine C3 ?_ | refine C4 ?_ | refine C5 ?_ | refine C6 ?_ | refine C7 ?_ | refine D0 fun γs => ?_ | refine A1 fun γs => ?_ | refine N2 ?_ | refine N3 ?_ | refine N1 ?_ | simp (disch := omega) only [LG]); ((conv => whnf); repeat ((first | refine Sx.o ?_ | refine B0 ?_); conv => whnf))))
  rename Nat => γ1
  refine cpA_seqW (W.frb [13, 16, 17, 18, 19, 20] 1 γ1 _ rfl (by decide) (W.of (l := [(1, .op 1 γ1 0 0)]) (m := [(1, γ1, ⟨26, 3, [encG gA]⟩)]) ?_ ⟨rfl, trivial⟩ ⟨?_, trivial⟩))
  rotate_left
  · refine congG ?_ ?_ ?_
    · refine (snapC_own (B := ⟨9, 1, gA.eqs.map encS⟩) ?_ rfl ?_).trans rfl <;> (first | decide | exact Nat.le_of_ble_eq_true rfl)
    · refine (snapC_own (B := ⟨50, 3, gA.uses.map encU⟩) ?_ rfl ?_).trans rfl <;> (first | decide | exact Nat.le_of_ble_eq_true rfl)
    · refine (snapC_own (B := ⟨29, 1, [.own 17 _ 0 1, .own 18 _ 0 1, .own 19 _ 0 2]⟩) (by decide) rfl (Nat.le_of_ble_eq_true rfl)).trans (cong3 ?_ ?_ ?_)
      · refine Eq.trans (snapE_own (S := [13, 16, 17, 18, 19, 20]) (n := 1) (b := 17) (off := 0) (len := 1) (B := ⟨3, 1, [encI 0]⟩) (by decide) ?_ (by decide)) ?_ <;> rfl
      · refine Eq.trans (snapE_own (S := [13, 16, 17, 18, 19, 20]) (n := 1) (b := 18) (off := 0) (len := 1) (B := ⟨3, 1, [encI 0]⟩) (by decide) ?_ (by decide)) ?_ <;> rfl
      · refine Eq.trans (snapE_own (S := [13, 16, 17, 18, 19, 20]) (n := 1) (b := 19) (off := 0) (len := 2) (B := ⟨3, 1, [encI 0, encI 1]⟩) (by decide) ?_ (by decide)) ?_ <;> rfl
  ((conv => whnf); repeat ((first | refine Sx.o ?_ | refine B0 ?_); conv => whnf))
  (repeat ((first | refine N0 ?_ | refine A0 fun γ => ?_ | refine C1 ?_ | refine C2 ?_ | refine C3 ?_ | refine C4 ?_ | refine C5 ?_ | refine C6 ?_ | refine C7 ?_ | refine D0 fun γs => ?_ | refine A1 fun γs => ?_ | refine N2 ?_ | refine N3 ?_ | refine N1 ?_ | simp (disch := omega) only [LG]); ((conv => whnf); repeat ((first | refine Sx.o ?_ | refine B0 ?_); conv => whnf))))
  refine CallP.pure [] _ c12 (match12_ok gA zA) ?_
  rw [vA2]
  ((conv => whnf); repeat ((first | refine Sx.o ?_ | refine B0 ?_); conv => whnf))
  (repeat ((first | refine N0 ?_ | refine A0 fun γ => ?_ | refine C1 ?_ | refine C2 ?_ | refine C3 ?_ | refine C4 ?_ | refine C5 ?_ | refine C6 ?_ | refine C7 ?_ | refine D0 fun γs => ?_ | refine A1 fun γs => ?_ | refine N2 ?_ | refine N3 ?_ | refine N1 ?_ | simp (disch := omega) only [LG]); ((conv => whnf); repeat ((first | refine Sx.o ?_ | refine B0 ?_); conv => whnf))))
  refine cpA_seq ?_
  ((conv => whnf); repeat ((first | refine Sx.o ?_ | refine B0 ?_); conv => whnf))
  (repeat ((first | refine N0 ?_ | refine A0 fun γ => ?_ | refine C1 ?_ | refine C2 ?_ | refine C3 ?_ | refine C4 ?_ | refine C5 ?_ | refine C6 ?_ | refine C7 ?_ | refine D0 fun γs => ?_ | refine A1 fun γs => ?_ | refine N2 ?_ | refine N3 ?_ | refine N1 ?_ | simp (disch := omega) only [LG]); ((conv => whnf); repeat ((first | refine Sx.o ?_ | refine B0 ?_); conv => whnf))))
  refine CallP.pure [] _ c21 (parts21_ok gA zA fun _ => hA) ?_
  rw [vA3]
  ((conv => whnf); repeat ((first | refine Sx.o ?_ | refine B0 ?_); conv => whnf))
  (repeat ((first | refine N0 ?_ | refine A0 fun γ => ?_ | refine C1 ?_ | refine C2 ?_ | refine C3 ?_ | refine C4 ?_ | refine C5 ?_ | refine C6 ?_ | refine C7 ?_ | refine D0 fun γs => ?_ | refine A1 fun γs => ?_ | refine N2 ?_ | refine N3 ?_ | refine N1 ?_ | simp (disch := omega) only [LG]); ((conv => whnf); repeat ((first | refine Sx.o ?_ | refine B0 ?_); conv => whnf))))
  refine cpA_seq ?_
  ((conv => whnf); repeat ((first | refine Sx.o ?_ | refine B0 ?_); conv => whnf))
  (repeat ((first | refine N0 ?_ | refine A0 fun γ => ?_ | refine C1 ?_ | refine C2 ?_ | refine C3 ?_ | refine C4 ?_ | refine C5 ?_ | refine C6 ?_ | refine C7 ?_ | refine D0 fun γs => ?_ | refine A1 fun γs => ?_ | refine N2 ?_ | refine N3 ?_ | refine N1 ?_ | simp (disch := omega) only [LG]); ((conv => whnf); repeat ((first | refine Sx.o ?_ | refine B0 ?_); conv => whnf))))
  refine CallP.pure [] _ c27 (culprit27_ok gA zA fun _ => hA) ?_
  rw [vA4]
  ((conv => whnf); repeat ((first | refine Sx.o ?_ | refine B0 ?_); conv => whnf))
  (repeat ((first | refine N0 ?_ | refine A0 fun γ => ?_ | refine C1 ?_ | refine C2 ?_ | refine C3 ?_ | refine C4 ?_ | refine C5 ?_ | refine C6 ?_ | refine C7 ?_ | refine D0 fun γs => ?_ | refine A1 fun γs => ?_ | refine N2 ?_ | refine N3 ?_ | refine N1 ?_ | simp (disch := omega) only [LG]); ((conv => whnf); repeat ((first | refine Sx.o ?_ | refine B0 ?_); conv => whnf))))
  refine cpA_seq ?_
  ((conv => whnf); repeat ((first | refine Sx.o ?_ | refine B0 ?_); conv => whnf))
  (repeat ((first | refine N0 ?_ | refine A0 fun γ => ?_ | refine C1 ?_ | refine C2 ?_ | refine C3 ?_ | refine C4 ?_ | refine C5 ?_ | refine C6 ?_ | refine C7 ?_ | refine D0 fun γs => ?_ | refine A1 fun γs => ?_ | refine N2 ?_ | refine N3 ?_ | refine N1 ?_ | simp (disch := omega) only [LG]); ((conv => whnf); repeat ((first | refine Sx.o ?_ | refine B0 ?_); conv => whnf))))
  refine CallP.pure [] _ c34 (use_ok (bs1 120)) ?_
  ((conv => whnf); repeat ((first | refine Sx.o ?_ | refine B0 ?_); conv => whnf))
  (repeat ((first | refine N0 ?_ | refine A0 fun γ => ?_ | refine C1 ?_ | refine C2 ?_ | refine C3 ?_ | refine C4 ?_ | refine C5 ?_ | refine C6 ?_ | refine C7 ?_ | refine D0 fun γs => ?_ | refine A1 fun γs => ?_ | refine N2 ?_ | refine N3 ?_ | refine N1 ?_ | simp (disch := omega) only [LG]); ((conv => whnf); repeat ((first | refine Sx.o ?_ | refine B0 ?_); conv => whnf))))
  rename Nat => γ10
  refine cpA_seqW (W.frb [39, 41] 10 γ10 _ rfl (by decide) (W.of (l := [(1, .op 1 γ1 0 0), (2, encL [0, -1, 1]), (3, encI 0), (4, .op 4 _ 0 0), (5, .op 5 _ 0 0), (6, .op 6 _ 0 0), (7, encI 0), (8, .op 8 _ 0 0), (9, encI 0), (10, .op 10 γ10 0 0)])
    (m := [(1, γ1, ⟨26, 3, [encG gA]⟩), (4, _, ⟨41, 2, [encP pTwo]⟩), (5, _, ⟨41, 2, [encP ⟨[bs1 99], [uy]⟩]⟩), (6, _, ⟨41, 2, [encP ⟨[], []⟩]⟩), (8, _, ⟨41, 2, [encP pTwo]⟩), (10, γ10, ⟨41, 2, [encP pTwo]⟩)])
    ?_ ⟨rfl, rfl, rfl, rfl, rfl, rfl, rfl, rfl, rfl, rfl, trivial⟩ ⟨rfl, rfl, rfl, rfl, rfl, ?_, trivial⟩))
  rotate_left
  · refine congP ?_ ?_
    · refine (snapC_own (B := ⟨9, 1, pTwo.eqs.map encS⟩) ?_ rfl ?_).trans rfl <;> (first | decide | exact Nat.le_of_ble_eq_true rfl)
    · refine (snapC_own (B := ⟨50, 3, pTwo.uses.map encU⟩) ?_ rfl ?_).trans rfl <;> (first | decide | exact Nat.le_of_ble_eq_true rfl)
  ((conv => whnf); repeat ((first | refine Sx.o ?_ | refine B0 ?_); conv => whnf))
  (repeat ((first | refine N0 ?_ | refine A0 fun γ => ?_ | refine C1 ?_ | refine C2 ?_ | refine C3 ?_ | refine C4 ?_ | refine C5 ?_ | refine C6 ?_ | refine C7 ?_ | refine D0 fun γs => ?_ | refine A1 fun γs => ?_ | refine N2 ?_ | refine N3 ?_ | refine N1 ?_ | simp (disch := omega) only [LG]); ((conv => whnf); repeat ((first | refine Sx.o ?_ | refine B0 ?_); conv => whnf))))
  refine cpA_seq ?_
  ((conv => whnf); repeat ((first | refine Sx.o ?_ | refine B0 ?_); conv => whnf))
  refine DrawH.segs [(34, false), (35, true), (43, false)] (by kernel_rfl) ?_
  ((conv => whnf); repeat ((first | refine Sx.o ?_ | refine B0 ?_); conv => whnf))
  (repeat ((first | refine N0 ?_ | refine A0 fun γ => ?_ | refine C1 ?_ | refine C2 ?_ | refine C3 ?_ | refine C4 ?_ | refine C5 ?_ | refine C6 ?_ | refine C7 ?_ | refine D0 fun γs => ?_ | refine A1 fun γs => ?_ | refine N2 ?_ | refine N3 ?_ | refine N1 ?_ | simp (disch := omega) only [LG]); ((conv => whnf); repeat ((first | refine Sx.o ?_ | refine B0 ?_); conv => whnf))))
  refine CallG.flat (encB true) c18 (pure_args ?_ (SameInts_eq [0, -1, 1] (by decide))) rfl ?_
  · show [_, snap [55] _ (.own 55 _ 0 3)] = _
    rw [snap_own (B := ⟨3, 1, [encI 0, encI (-1), encI 1]⟩) (by decide) rfl (by decide)]
    rfl
  ((conv => whnf); repeat ((first | refine Sx.o ?_ | refine B0 ?_); conv => whnf))
  (repeat ((first | refine N0 ?_ | refine A0 fun γ => ?_ | refine C1 ?_ | refine C2 ?_ | refine C3 ?_ | refine C4 ?_ | refine C5 ?_ | refine C6 ?_ | refine C7 ?_ | refine D0 fun γs => ?_ | refine A1 fun γs => ?_ | refine N2 ?_ | refine N3 ?_ | refine N1 ?_ | simp (disch := omega) only [LG]); ((conv => whnf); repeat ((first | refine Sx.o ?_ | refine B0 ?_); conv => whnf))))
  refine CallG.flat (encB true) c33 (SamePart_eq pTwo (by decide) (by decide)) rfl ?_
  ((conv => whnf); repeat ((first | refine Sx.o ?_ | refine B0 ?_); conv => whnf))
  (repeat ((first | refine N0 ?_ | refine A0 fun γ => ?_ | refine C1 ?_ | refine C2 ?_ | refine C3 ?_ | refine C4 ?_ | refine C5 ?_ | refine C6 ?_ | refine C7 ?_ | refine D0 fun γs => ?_ | refine A1 fun γs => ?_ | refine N2 ?_ | refine N3 ?_ | refine N1 ?_ | simp (disch := omega) only [LG]); ((conv => whnf); repeat ((first | refine Sx.o ?_ | refine B0 ?_); conv => whnf))))
  refine CallG.flat (encB true) c33 (SamePart_eq pTwo (by decide) (by decide)) rfl ?_
  ((conv => whnf); repeat ((first | refine Sx.o ?_ | refine B0 ?_); conv => whnf))
  (repeat ((first | refine N0 ?_ | refine A0 fun γ => ?_ | refine C1 ?_ | refine C2 ?_ | refine C3 ?_ | refine C4 ?_ | refine C5 ?_ | refine C6 ?_ | refine C7 ?_ | refine D0 fun γs => ?_ | refine A1 fun γs => ?_ | refine N2 ?_ | refine N3 ?_ | refine N1 ?_ | simp (disch := omega) only [LG]); ((conv => whnf); repeat ((first | refine Sx.o ?_ | refine B0 ?_); conv => whnf))))
  refine CallG.intro (encU uy) c34 (use_ok (bs1 121)) ?_
  ((conv => whnf); repeat ((first | refine Sx.o ?_ | refine B0 ?_); conv => whnf))
  (repeat ((first | refine N0 ?_ | refine A0 fun γ => ?_ | refine C1 ?_ | refine C2 ?_ | refine C3 ?_ | refine C4 ?_ | refine C5 ?_ | refine C6 ?_ | refine C7 ?_ | refine D0 fun γs => ?_ | refine A1 fun γs => ?_ | refine N2 ?_ | refine N3 ?_ | refine N1 ?_ | simp (disch := omega) only [LG]); ((conv => whnf); repeat ((first | refine Sx.o ?_ | refine B0 ?_); conv => whnf))))
  refine CallP.flat [73, 75] (encB true) c33 (pure_args ?_ (SamePart_eq ⟨[bs1 99], [uy]⟩ (by decide) (by decide))) rfl ?_
  · show [_, AV.agg [snapC [73, 75] _ 3 (.own 73 _ 0 1), snapC [73, 75] _ 3 (.own 75 _ 0 1)]] = _
    rw [snapC_own (B := ⟨9, 1, [encS (bs1 99)]⟩) (by decide) rfl (by decide), snapC_own (B := ⟨50, 3, [encU uy]⟩) (by decide) rfl (by decide)]
    rfl
  ((conv => whnf); repeat ((first | refine Sx.o ?_ | refine B0 ?_); conv => whnf))
  (repeat ((first | refine N0 ?_ | refine A0 fun γ => ?_ | refine C1 ?_ | refine C2 ?_ | refine C3 ?_ | refine C4 ?_ | refine C5 ?_ | refine C6 ?_ | refine C7 ?_ | refine D0 fun γs => ?_ | refine A1 fun γs => ?_ | refine N2 ?_ | refine N3 ?_ | refine N1 ?_ | simp (disch := omega) only [LG]); ((conv => whnf); repeat ((first | refine Sx.o ?_ | refine B0 ?_); conv => whnf))))
  refine CallG.flat (encB true) c33 (PureCall.le (SamePart_eq ⟨[], []⟩ (by decide) (by decide)) rfl fun i h h' => ?_) rfl ?_
  · rcases i with _ | _ | i
    · exact Le.refl _
    · exact le_noP
    · simp at h'; omega
  ((conv => whnf); repeat ((first | refine Sx.o ?_ | refine B0 ?_); conv => whnf))
  (repeat ((first | refine N0 ?_ | refine A0 fun γ => ?_ | refine C1 ?_ | refine C2 ?_ | refine C3 ?_ | refine C4 ?_ | refine C5 ?_ | refine C6 ?_ | refine C7 ?_ | refine D0 fun γs => ?_ | refine A1 fun γs => ?_ | refine N2 ?_ | refine N3 ?_ | refine N1 ?_ | simp (disch := omega) only [LG]); ((conv => whnf); repeat ((first | refine Sx.o ?_ | refine B0 ?_); conv => whnf))))
  refine cpA_seqW (W.of (l := [(1, .op 1 γ1 0 0)]) (m := [(1, γ1, ⟨26, 3, [encG gA]⟩)]) ?_ ⟨rfl, trivial⟩ ⟨rfl, trivial⟩)
  ((conv => whnf); repeat ((first | refine Sx.o ?_ | refine B0 ?_); conv => whnf))
  (repeat ((first | refine N0 ?_ | refine A0 fun γ => ?_ | refine C1 ?_ | refine C2 ?_ | refine C3 ?_ | refine C4 ?_ | refine C5 ?_ | refine C6 ?_ | refine C7 ?_ | refine D0 fun γs => ?_ | refine A1 fun γs => ?_ | refine N2 ?_ | refine N3 ?_ | refine N1 ?_ | simp (disch := omega) only [LG]); ((conv => whnf); repeat ((first | refine Sx.o ?_ | refine B0 ?_); conv => whnf))))
  refine CallP.pure [] _ c34 (use_ok (bs1 120)) ?_
  ((conv => whnf); repeat ((first | refine Sx.o ?_ | refine B0 ?_); conv => whnf))
  (repeat ((first | refine N0 ?_ | refine A0 fun γ => ?_ | refine C1 ?_ | refine C2 ?_ | refine C3 ?_ | refine C4 ?_ | refine C5 ?_ | refine C6 ?_ | refine C7 ?_ | refine D0 fun γs => ?_ | refine A1 fun γs => ?_ | refine N2 ?_ | refine N3 ?_ | refine N1 ?_ | simp (disch := omega) only [LG]); ((conv => whnf); repeat ((first | refine Sx.o ?_ | refine B0 ?_); conv => whnf))))
  refine CallP.pure [] _ c34 (use_ok (bs1 121)) ?_
  ((conv => whnf); repeat ((first | refine Sx.o ?_ | refine B0 ?_); conv => whnf))
  (repeat ((first | refine N0 ?_ | refine A0 fun γ => ?_ | refine C1 ?_ | refine C2 ?_ | refine C3 ?_ | refine C4 ?_ | refine C5 ?_ | refine C6 ?_ | refine C7 ?_ | refine D0 fun γs => ?_ | refine A1 fun γs => ?_ | refine N2 ?_ | refine N3 ?_ | refine N1 ?_ | simp (disch := omega) only [LG]); ((conv => whnf); repeat ((first | refine Sx.o ?_ | refine B0 ?_); conv => whnf))))
  refine cpA_seqW (W.frb [86, 89, 90, 91] 1 γ1 _ rfl (by decide) (W.of (l := [(1, .op 1 γ1 0 0)]) (m := [(1, γ1, ⟨26, 3, [encG gB]⟩)]) ?_ ⟨rfl, trivial⟩ ⟨?_, trivial⟩))
  rotate_left
  · refine congG ?_ ?_ ?_
    · refine (snapC_own (B := ⟨9, 1, gB.eqs.map encS⟩) ?_ rfl ?_).trans rfl <;> (first | decide | exact Nat.le_of_ble_eq_true rfl)
    · refine (snapC_own (B := ⟨50, 3, gB.uses.map encU⟩) ?_ rfl ?_).trans rfl <;> (first | decide | exact Nat.le_of_ble_eq_true rfl)
    · refine (snapC_own (B := ⟨29, 1, [.own 90 _ 0 2]⟩) (by decide) rfl (Nat.le_of_ble_eq_true rfl)).trans (cong1 ?_)
      refine Eq.trans (snapE_own (S := [86, 89, 90, 91]) (n := 1) (b := 90) (off := 0) (len := 2) (B := ⟨3, 1, [encI 0, encI 1]⟩) (by decide) ?_ (by decide)) ?_ <;> rfl
  ((conv => whnf); repeat ((first | refine Sx.o ?_ | refine B0 ?_); conv => whnf))
  (repeat ((first | refine N0 ?_ | refine A0 fun γ => ?_ | refine C1 ?_ | refine C2 ?_ | refine C3 ?_ | refine C4 ?_ | refine C5 ?_ | refine C6 ?_ | refine C7 ?_ | refine D0 fun γs => ?_ | refine A1 fun γs => ?_ | refine N2 ?_ | refine N3 ?_ | refine N1 ?_ | simp (disch := omega) only [LG]); ((conv => whnf); repeat ((first | refine Sx.o ?_ | refine B0 ?_); conv => whnf))))
  refine CallP.pure [] _ c12 (match12_ok gB zB) ?_
  rw [vB2]
  ((conv => whnf); repeat ((first | refine Sx.o ?_ | refine B0 ?_); conv => whnf))
  (repeat ((first | refine N0 ?_ | refine A0 fun γ => ?_ | refine C1 ?_ | refine C2 ?_ | refine C3 ?_ | refine C4 ?_ | refine C5 ?_ | refine C6 ?_ | refine C7 ?_ | refine D0 fun γs => ?_ | refine A1 fun γs => ?_ | refine N2 ?_ | refine N3 ?_ | refine N1 ?_ | simp (disch := omega) only [LG]); ((conv => whnf); repeat ((first | refine Sx.o ?_ | refine B0 ?_); conv => whnf))))
  refine cpA_seq ?_
  ((conv => whnf); repeat ((first | refine Sx.o ?_ | refine B0 ?_); conv => whnf))
  (repeat ((first | refine N0 ?_ | refine A0 fun γ => ?_ | refine C1 ?_ | refine C2 ?_ | refine C3 ?_ | refine C4 ?_ | refine C5 ?_ | refine C6 ?_ | refine C7 ?_ | refine D0 fun γs => ?_ | refine A1 fun γs => ?_ | refine N2 ?_ | refine N3 ?_ | refine N1 ?_ | simp (disch := omega) only [LG]); ((conv => whnf); repeat ((first | refine Sx.o ?_ | refine B0 ?_); conv => whnf))))
  refine CallP.pure [] _ c16 (certain16_ok gB zB) ?_
  rw [vB3]
  ((conv => whnf); repeat ((first | refine Sx.o ?_ | refine B0 ?_); conv => whnf))
  (repeat ((first | refine N0 ?_ | refine A0 fun γ => ?_ | refine C1 ?_ | refine C2 ?_ | refine C3 ?_ | refine C4 ?_ | refine C5 ?_ | refine C6 ?_ | refine C7 ?_ | refine D0 fun γs => ?_ | refine A1 fun γs => ?_ | refine N2 ?_ | refine N3 ?_ | refine N1 ?_ | simp (disch := omega) only [LG]); ((conv => whnf); repeat ((first | refine Sx.o ?_ | refine B0 ?_); conv => whnf))))
  refine cpA_seq ?_
  ((conv => whnf); repeat ((first | refine Sx.o ?_ | refine B0 ?_); conv => whnf))
  (repeat ((first | refine N0 ?_ | refine A0 fun γ => ?_ | refine C1 ?_ | refine C2 ?_ | refine C3 ?_ | refine C4 ?_ | refine C5 ?_ | refine C6 ?_ | refine C7 ?_ | refine D0 fun γs => ?_ | refine A1 fun γs => ?_ | refine N2 ?_ | refine N3 ?_ | refine N1 ?_ | simp (disch := omega) only [LG]); ((conv => whnf); repeat ((first | refine Sx.o ?_ | refine B0 ?_); conv => whnf))))
  refine CallP.pure [] _ c14 (rank14_ok gB zB) ?_
  rw [vB4]
  ((conv => whnf); repeat ((first | refine Sx.o ?_ | refine B0 ?_); conv => whnf))
  (repeat ((first | refine N0 ?_ | refine A0 fun γ => ?_ | refine C1 ?_ | refine C2 ?_ | refine C3 ?_ | refine C4 ?_ | refine C5 ?_ | refine C6 ?_ | refine C7 ?_ | refine D0 fun γs => ?_ | refine A1 fun γs => ?_ | refine N2 ?_ | refine N3 ?_ | refine N1 ?_ | simp (disch := omega) only [LG]); ((conv => whnf); repeat ((first | refine Sx.o ?_ | refine B0 ?_); conv => whnf))))
  refine cpA_seq ?_
  ((conv => whnf); repeat ((first | refine Sx.o ?_ | refine B0 ?_); conv => whnf))
  (repeat ((first | refine N0 ?_ | refine A0 fun γ => ?_ | refine C1 ?_ | refine C2 ?_ | refine C3 ?_ | refine C4 ?_ | refine C5 ?_ | refine C6 ?_ | refine C7 ?_ | refine D0 fun γs => ?_ | refine A1 fun γs => ?_ | refine N2 ?_ | refine N3 ?_ | refine N1 ?_ | simp (disch := omega) only [LG]); ((conv => whnf); repeat ((first | refine Sx.o ?_ | refine B0 ?_); conv => whnf))))
  refine CallP.flat [120] (encB true) c18 (pure_args ?_ (SameInts_eq [0] (by decide))) rfl ?_
  · show [_, snap [120] _ (.own 120 _ 0 1)] = _
    rw [snap_own (B := ⟨3, 1, [encI 0]⟩) (by decide) rfl (by decide)]
    rfl
  ((conv => whnf); repeat ((first | refine Sw.o ?_ | refine B0 ?_); conv => whnf))
  (repeat ((first | refine N0 ?_ | refine A0 fun γ => ?_ | refine C1 ?_ | refine C2 ?_ | refine C3 ?_ | refine C4 ?_ | refine C5 ?_ | refine C6 ?_ | refine C7 ?_ | refine D0 fun γs => ?_ | refine A1 fun γs => ?_ | refine N2 ?_ | refine N3 ?_ | refine N1 ?_); ((conv => whnf); repeat ((first | refine Sw.o ?_ | refine B0 ?_); conv => whnf))))
  exact .of rfl
end Go.Proofs.Ytgeeklnokblokaa
namespace Go.Proofs.Ytgeeklnokblokaa
open Go Go.Fw
theorem getD_setL {α : Type} (l : List α) (i j : Nat) (x d : α) : (l.set i x).getD j d = if i = j ∧ i < l.length then x else l.getD j d := by
  simp only [List.getD_eq_getElem?_getD, List.getElem?_set]
  by_cases h : i = j
  · subst h
    by_cases h2 : i < l.length
    · simp [h2]
    · simp [h2, List.getElem?_eq_none (Nat.le_of_not_lt h2)]
  · simp [h]
/-- Two states of the search that differ in shut uses alone. -/
structure Sim (no : List Bool) (s t : MS) : Prop where
  lm : s.1.length = t.1.length
  ls : s.2.length = t.2.length
  see : ∀ i, s.2.getD i false = (no.getD i false || t.2.getD i false)
  mat : ∀ i, no.getD i false = false → s.1.getD i 0 = t.1.getD i 0
theorem Sim.set {no : List Bool} {s t : MS} (h : Sim no s t) (u : Nat) (e : Int) : Sim no (s.1.set u e, s.2) (t.1.set u e, t.2) :=
  ⟨by simp [h.lm], h.ls, h.see, fun i hi => by simp only [getD_setL, h.lm, h.mat i hi]⟩
theorem Sim.mark {no : List Bool} {s t : MS} (h : Sim no s t) (u : Nat) : Sim no (s.1, s.2.set u true) (t.1, t.2.set u true) :=
  ⟨h.lm, by simp [h.ls], fun i => by simp only [getD_setL, h.ls, h.see i]; split <;> simp, h.mat⟩
theorem sim_L {no : List Bool} {rt rf : Int → MS → Bool × MS} (hrec : ∀ (e : Int) (s t : MS), Sim no s t → (rt e s).1 = (rf e t).1 ∧ Sim no (rt e s).2 (rf e t).2) (e : Int) :
    ∀ (l : List Int) (s t : MS), Sim no s t → (tryL rt e l s).1 = (findL no rf e l t).1 ∧ Sim no (tryL rt e l s).2 (findL no rf e l t).2
  | [], s, t, h => ⟨rfl, h⟩
  | u :: r, s, t, h => by
    unfold tryL findL
    have hs := h.see u.toNat
    cases hb : (no.getD u.toNat false || t.2.getD u.toNat false) with
    | true =>
      rw [hb] at hs
      rw [hs]
      exact sim_L hrec e r s t h
    | false =>
      rw [hb] at hs
      rw [hs]
      simp only
      have hno : no.getD u.toNat false = false := by
        cases hx : no.getD u.toNat false with
        | true => rw [hx] at hb; simp at hb
        | false => rfl
      rw [h.mat _ hno]
      cases hd : decide (t.1.getD u.toNat 0 < 0) with
      | true => exact ⟨rfl, (h.set _ _).mark _⟩
      | false =>
        simp only
        have hr := hrec (t.1.getD u.toNat 0) _ _ (h.mark u.toNat)
        generalize rt (t.1.getD u.toNat 0) (s.1, s.2.set u.toNat true) = a at hr
        generalize rf (t.1.getD u.toNat 0) (t.1, t.2.set u.toNat true) = b at hr
        obtain ⟨a1, a2⟩ := a
        obtain ⟨b1, b2⟩ := b
        obtain ⟨h1, h2⟩ := hr
        simp only at h1 h2
        subst h1
        cases a1 with
        | true => exact ⟨rfl, h2.set _ _⟩
        | false => exact sim_L hrec e r a2 b2 h2
theorem sim_F (g : G) (no : List Bool) : ∀ (n : Nat) (e : Int) (s t : MS), Sim no s t → (tryF g n e s).1 = (findF g no n e t).1 ∧ Sim no (tryF g n e s).2 (findF g no n e t).2
  | 0, e, s, t, h => ⟨rfl, h⟩
  | n + 1, e, s, t, h => by
    unfold tryF findF
    exact sim_L (sim_F g no n) e _ s t h
theorem run_size (g : G) (ne no : List Bool) (hno : no.length = g.uses.length) (c : Int) : ∀ (l : List Nat) (s t : List Int × Int), s.1.length = t.1.length → (∀ i, no.getD i false = false → s.1.getD i 0 = t.1.getD i 0) → s.2 = t.2 + c →
    (runF g no (l.filter fun e => !ne.getD e false) s).2 = sizeL g ne no l t + c
  | [], s, t, hl, hm, hs => hs
  | e :: r, s, t, hl, hm, hs => by
    unfold sizeL
    cases hb : ne.getD e false with
    | true =>
      simp only [List.filter_cons, hb, Bool.not_true]
      exact run_size g ne no hno c r s t hl hm hs
    | false =>
      simp only [List.filter_cons, hb, Bool.not_false, if_true]
      unfold runF
      have hsim : Sim no (s.1, no) (t.1, List.replicate g.uses.length false) := ⟨hl, by simp [hno], fun i => by
        simp only [List.getD_eq_getElem?_getD, List.getElem?_replicate]
        split <;> simp, hm⟩
      have hr := sim_F g no (no.length + 1) (e : Int) _ _ hsim
      rw [← hno]
      rw [← hno] at hr
      generalize tryF g (no.length + 1) (e : Int) (s.1, no) = a at hr
      generalize findF g no (no.length + 1) (e : Int) (t.1, List.replicate no.length false) = b at hr
      obtain ⟨a1, a2⟩ := a
      obtain ⟨b1, b2⟩ := b
      obtain ⟨h1, h2⟩ := hr
      simp only at h1 h2
      subst h1
      cases a1 with
      | true => exact run_size g ne no hno c r _ _ h2.lm h2.mat (by simp only; omega)
      | false => exact run_size g ne no hno c r _ _ h2.lm h2.mat hs
/-- How many of a list of given uses there are. -/
def nonneg (l : List Int) : Nat := l.countP fun u => decide (0 ≤ u)
theorem nonneg_snoc (l : List Int) (u : Int) : (nonneg (l ++ [u]) : Int) = nonneg l + (if 0 ≤ u then 1 else 0) := by
  unfold nonneg
  rw [List.countP_append]
  by_cases h : 0 ≤ u <;> simp [h]
theorem fix_spec (n : Nat) : ∀ (l : List Int) (e : Nat) (s : MS × Int), (∀ u ∈ l, u < n) → s.1.1.length = n → s.1.2.length = n →
    (fixF e l s).1.1.length = n ∧ (fixF e l s).1.2.length = n ∧ (fixF e l s).2 = s.2 + nonneg l ∧
    (∀ i : Nat, (fixF e l s).1.2.getD i false = (s.1.2.getD i false || decide ((i : Int) ∈ l))) ∧
    (∀ i : Nat, (fixF e l s).1.2.getD i false = false → (fixF e l s).1.1.getD i 0 = s.1.1.getD i 0)
  | [], e, s, _, h1, h2 => ⟨h1, h2, by simp [fixF, nonneg], fun i => by simp [fixF], fun i _ => rfl⟩
  | u :: r, e, s, hu, h1, h2 => by
    unfold fixF
    have hr : ∀ v ∈ r, v < n := fun v hv => hu v (List.mem_cons_of_mem _ hv)
    by_cases hd : 0 ≤ u
    · rw [decide_eq_true hd]
      simp only
      obtain ⟨a, b, c, d, f⟩ := fix_spec n r (e + 1) ((s.1.1.set u.toNat e, s.1.2.set u.toNat true), s.2 + 1) hr (by simpa using h1) (by simpa using h2)
      have hun : u < n := hu u (by simp)
      refine ⟨a, b, ?_, fun i => ?_, fun i hi => ?_⟩
      · rw [c]
        simp only [nonneg, List.countP_cons, hd, decide_true, if_true]
        omega
      · rw [d]
        simp only [getD_setL, List.mem_cons]
        by_cases hiu : u.toNat = i
        · have : (i : Int) = u := by omega
          simp [hiu, this, h2, show i < n by omega]
        · have : ¬ (i : Int) = u := by omega
          simp [hiu, this]
      · rw [f i hi]
        have := d i
        rw [hi] at this
        simp only [getD_setL] at this ⊢
        split
        · rename_i q
          rw [if_pos ⟨q.1, by omega⟩] at this
          simp at this
        · rfl
    · rw [decide_eq_false hd]
      simp only
      obtain ⟨a, b, c, d, f⟩ := fix_spec n r (e + 1) s hr h1 h2
      refine ⟨a, b, ?_, fun i => ?_, f⟩
      · rw [c]; simp [nonneg, List.countP_cons, hd]
      · rw [d]
        have : ¬ (i : Int) = u := by omega
        simp [this]
theorem filter_from (ne : List Bool) (n k : Nat) (hk : k ≤ n) (h : ∀ i, i < n → ne.getD i false = decide (i < k)) : (List.range' 0 n).filter (fun e => !ne.getD e false) = List.range' k (n - k) := by
  have h1 : List.range' 0 n = List.range' 0 k ++ List.range' k (n - k) := by
    have := List.range'_append (s := 0) (m := k) (n := n - k) (step := 1)
    simp only [Nat.one_mul, Nat.zero_add] at this
    rw [this]
    congr 1
    omega
  rw [h1, List.filter_append]
  have h2 : (List.range' 0 k).filter (fun e => !ne.getD e false) = [] := by
    refine List.filter_eq_nil_iff.2 fun e he => ?_
    rw [List.mem_range'_1] at he
    rw [h e (by omega)]
    simp; omega
  have h3 : (List.range' k (n - k)).filter (fun e => !ne.getD e false) = List.range' k (n - k) := by
    refine List.filter_eq_self.2 fun e he => ?_
    rw [List.mem_range'_1] at he
    rw [h e (by omega)]
    simp; omega
  rw [h2, h3, List.nil_append]
/-- The program's greatest number with uses given to the first equations, by the document's size. -/
theorem greatest_size (g : G) (fixed : List Int) (hf : fixed.length ≤ g.eqs.length) (hu : ∀ u ∈ fixed, u < g.uses.length) (ne no : List Bool) (hno : no.length = g.uses.length)
    (h1 : ∀ i, i < g.eqs.length → ne.getD i false = decide (i < fixed.length)) (h2 : ∀ i : Nat, no.getD i false = decide ((i : Int) ∈ fixed)) : (greatestF g fixed).2 = sizeF g ne no + nonneg fixed := by
  obtain ⟨a, b, c, d, f⟩ := fix_spec g.uses.length fixed 0 (startF g) hu (by simp [startF]) (by simp [startF])
  have hsh : (fixF 0 fixed (startF g)).1.2 = no := by
    refine ext_getD (d := false) (by rw [b, hno]) fun i hi => ?_
    rw [d, h2]
    simp [startF, List.getD_eq_getElem?_getD, List.getElem?_replicate]
    split <;> simp
  unfold greatestF sizeF
  rw [hsh, ← filter_from ne g.eqs.length fixed.length hf h1]
  refine run_size g ne no hno _ _ _ _ (by rw [a]; simp) (fun i hi => ?_) (by rw [c]; simp [startF])
  rw [f i (by rw [hsh]; exact hi)]
  rfl
theorem getD_rep' {α : Type} (n i : Nat) (x : α) : (List.replicate n x).getD i x = x := by
  simp only [List.getD_eq_getElem?_getD, List.getElem?_replicate]
  split <;> rfl
theorem greatest0_size (g : G) : (greatestF g []).2 = SizeF g := by
  have := greatest_size g [] (Nat.zero_le _) (fun u h => absurd h (by simp)) (fe g) (fu g) (by simp [fu]) (fun i h => by unfold fe; rw [getD_rep']; simp) (fun i => by unfold fu; rw [getD_rep']; simp)
  rw [this]; simp [nonneg, SizeF, fe, fu]
theorem rank_eq (g : G) : rankF g = rankR g := by unfold rankF rankR; rw [greatest0_size]; try rfl
theorem match_L (g : G) (out : List Int) (most left : Int) (ne no : List Bool) (hl : left = most - nonneg out) (ho : out.length < g.eqs.length) (hu : ∀ u ∈ out, u < g.uses.length) (hno : no.length = g.uses.length)
    (h1 : ∀ i, i < g.eqs.length → ne.getD i false = decide (i < out.length + 1)) (h2 : ∀ i : Nat, no.getD i false = decide ((i : Int) ∈ out)) : ∀ l : List Int, (∀ u ∈ l, 0 ≤ u ∧ u < g.uses.length) →
    mrL g ne l (-1, left, no) = (matchL g most out l, most - nonneg (out ++ [matchL g most out l]), if 0 ≤ matchL g most out l then no.set (matchL g most out l).toNat true else no)
  | [], _ => by
    unfold mrL matchL
    have hz : ¬ (0 : Int) ≤ -1 := by decide
    rw [nonneg_snoc, if_neg hz, if_neg hz, hl, Int.add_zero]
  | u :: r, hin => by
    have hr := fun v hv => hin v (List.mem_cons_of_mem _ hv)
    have ih := match_L g out most left ne no hl ho hu hno h1 h2 r hr
    obtain ⟨hu0, hun⟩ := hin u (by simp)
    unfold mrL matchL
    rw [decide_eq_true (show (-1 : Int) < 0 by decide)]
    simp only
    rw [h2 u.toNat, show ((u.toNat : Nat) : Int) = u by omega]
    by_cases hmem : u ∈ out
    · rw [decide_eq_true hmem]
      exact ih
    · rw [decide_eq_false hmem]
      simp only
      have hgs := greatest_size g (out ++ [u]) (by simp; omega) (fun v hv => by
        rcases List.mem_append.1 hv with hv | hv
        · exact hu v hv
        · simp at hv; omega) ne (no.set u.toNat true) (by simpa using hno) (fun i hi => by rw [h1 i hi]; simp) (fun i => by
        rw [getD_setL, h2]
        by_cases hiu : u.toNat = i
        · have hi2 : (i : Int) = u := by omega
          rw [if_pos ⟨hiu, by omega⟩, decide_eq_true (show (i : Int) ∈ out ++ [u] by rw [hi2]; simp)]
        · have : ¬ (i : Int) = u := by omega
          rw [if_neg (fun h => hiu h.1)]
          simp [this])
      rw [nonneg_snoc, if_pos hu0] at hgs
      have hiff : (sizeF g ne (no.set u.toNat true) = left - 1) ↔ ((greatestF g (out ++ [u])).2 = most) := by rw [hgs, hl]; omega
      by_cases hm : (greatestF g (out ++ [u])).2 = most
      · rw [decide_eq_true hm, decide_eq_true (hiff.2 hm)]
        simp only
        have hdone : ∀ (l : List Int) (x : Int) (q : Int × List Bool), 0 ≤ x → mrL g ne l (x, q) = (x, q) := by
          intro l x q hx
          cases l with
          | nil => rfl
          | cons v r => unfold mrL; rw [decide_eq_false (by simp only; omega)]
        rw [hdone _ _ _ hu0, nonneg_snoc, if_pos hu0, if_pos hu0, hl]
        congr 2
        omega
      · rw [decide_eq_false hm, decide_eq_false (fun h => hm (hiff.1 h))]
        exact ih
theorem match_O (g : G) (hg : WF g) (most : Int) : ∀ (l : List (List Int)) (out : List Int) (left : Int) (ne no : List Bool), out.length + l.length = g.eqs.length → g.joined.drop out.length = l → left = most - nonneg out → (∀ u ∈ out, u < g.uses.length) → no.length = g.uses.length → ne.length = g.eqs.length →
    (∀ i, i < g.eqs.length → ne.getD i false = decide (i < out.length)) → (∀ i : Nat, no.getD i false = decide ((i : Int) ∈ out)) →
    mrO g (List.range' out.length l.length) (left, ne, no) out = matchO g most l out
  | [], out, left, ne, no, _, _, _, _, _, _, _, _ => rfl
  | l :: r, out, left, ne, no, hlen, hdr, hl, hu, hno, hne, h1, h2 => by
    have hol : out.length < g.joined.length := by
      have := congrArg List.length hdr
      simp at this
      omega
    have hgl := hg.len
    rw [List.drop_eq_getElem_cons hol] at hdr
    injection hdr with hd1 hd2
    simp only [List.length_cons] at hlen
    have hle : out.length < g.eqs.length := by omega
    have hget : g.joined.getD out.length [] = l := by rw [getD_lt _ _ _ hol, hd1]
    have hwf := hg.in_ l (by rw [← hd1]; exact List.getElem_mem hol)
    rw [List.length_cons, List.range'_succ]
    unfold mrO matchO
    have hne' : ∀ i, i < g.eqs.length → (ne.set out.length true).getD i false = decide (i < out.length + 1) := by
      intro i hi
      rw [getD_setL, h1 i hi]
      by_cases q : out.length = i
      · rw [if_pos ⟨q, by omega⟩, decide_eq_true (by omega)]
      · rw [if_neg (fun h => q h.1)]
        by_cases q2 : i < out.length
        · rw [decide_eq_true q2, decide_eq_true (by omega)]
        · rw [decide_eq_false q2, decide_eq_false (by omega)]
    simp only [hget]
    rw [match_L g out most left _ no hl hle hu hno hne' h2 l hwf]
    simp only
    have hx := matchL_lt g most out l (fun u h => (hwf u h).2)
    generalize matchL g most out l = x at hx
    have hlen' : (out ++ [x]).length = out.length + 1 := by simp
    rw [← hlen']
    refine match_O g hg most r (out ++ [x]) _ _ _ (by rw [hlen']; omega) (by rw [hlen']; exact hd2) rfl (fun v hv => ?_) ?_ (by simpa using hne) (fun i hi => by rw [hlen']; exact hne' i hi) (fun i => ?_)
    · rcases List.mem_append.1 hv with hv | hv
      · exact hu v hv
      · simp at hv; omega
    · split
      · simpa using hno
      · exact hno
    · split
      · rename_i hx0
        rw [getD_setL, h2]
        by_cases q : x.toNat = i
        · have hi2 : (i : Int) = x := by omega
          rw [if_pos ⟨q, by omega⟩, decide_eq_true (show (i : Int) ∈ out ++ [x] by rw [hi2]; simp)]
        · have : ¬ (i : Int) = x := by omega
          rw [if_neg (fun h => q h.1)]
          simp [this]
      · rw [h2]
        have : ¬ (i : Int) = x := by omega
        simp [this]
theorem match_eq0 (g : G) (hg : WF g) : matchF g = matchR g := by
  unfold matchF matchR
  rw [greatest0_size]
  have := match_O g hg (SizeF g) g.joined [] (SizeF g) (fe g) (fu g) (by simp [hg.len]) rfl (by simp [nonneg]) (fun u h => absurd h (by simp)) (by simp [fu]) (by simp [fe]) (fun i h => by unfold fe; rw [getD_rep']; simp) (fun i => by unfold fu; rw [getD_rep']; simp)
  rw [← this, ← hg.len]
  rfl
theorem match_eq (g : G) : MatchF g = MatchR g := by
  unfold MatchF MatchR
  cases h : decide (checkF g = 0) with
  | true => rw [match_eq0 g (check_wf (of_decide_eq_true h)).1]
  | false => rfl
theorem cut_without (g : G) (e : Nat) (u : Int) (he : e < g.joined.length) : cutF g e u = withoutF g e u := by
  unfold cutF withoutF
  congr 1
  refine List.ext_getElem (by simp [wojF_len]) fun i h1 h2 => ?_
  have hi : i < g.joined.length := by simpa using h1
  rw [wojF_get e u g.joined 0 i hi h2, List.getElem_set]
  simp only [Nat.zero_add]
  by_cases q : e = i
  · subst q
    rw [if_pos rfl, getD_lt _ _ _ he]
    simp [wolF, delF]
  · rw [if_neg q]
    have : ¬ (i : Int) = (e : Int) := by omega
    simp only [wolF, this, decide_false, Bool.not_false, Bool.true_or]
    exact (List.filter_eq_self.2 fun _ _ => rfl).symm
theorem cert_congr {t t' : Nat → Int → Bool} (n : Nat) (h : ∀ e u, e < n → t e u = t' e u) : ∀ (l : List Int) (e : Nat), e + l.length ≤ n → certG t e l = certG t' e l
  | [], e, _ => rfl
  | u :: r, e, hl => by
    simp only [List.length_cons] at hl
    unfold certG
    rw [h e u (by omega), cert_congr n h r (e + 1) (by omega)]
theorem certain_eq (g : G) : CertainF g = CertainR g := by
  unfold CertainF CertainR
  cases h : decide (checkF g = 0) with
  | true =>
    have hg := (check_wf (of_decide_eq_true h)).1
    simp only
    rw [← match_eq0 g hg]
    congr 1
    refine cert_congr g.joined.length (fun e u he => ?_) _ _ (by rw [matchF_len]; omega)
    unfold tF tR
    rw [cut_without g e u he, greatest0_size, greatest0_size]
  | false => rfl
end Go.Proofs.Ytgeeklnokblokaa
namespace Go.Proofs.Ytgeeklnokblokaa
open Go Go.Fw
def GreatP (g : G) : Prop := (14 < g.eqs.length ∧ g.eqs.length ≤ 120) ∨ (14 < g.uses.length ∧ g.uses.length ≤ 400) ∨ 200 < g.joined.length
instance (g : G) : Decidable (GreatP g) := by unfold GreatP; infer_instance
set_option maxRecDepth 100000 in
theorem Great_ok (g : G) : PureCall Try.prog 10 [encG g] (encB (decide (GreatP g))) := by
  refine pure_cp (E := E 0) T_ok (D_ok 0) [] Try.func10 rfl (by rfl) (Nat.le_of_ble_eq_true rfl) ?_
  have key : ∀ b : Bool, (b = true ↔ GreatP g) → Fw.Ends (encB b) (encB (decide (GreatP g))) := fun b hb => Fw.Ends.of (congrArg encB (by rw [Bool.eq_iff_iff, hb, decide_eq_true_iff]))
  ((conv => whnf); repeat ((first | refine Sw.o ?_ | refine B0 ?_); conv => whnf))
  (repeat ((first | refine N0 ?_ | refine A0 fun γ => ?_ | refine C1 ?_ | refine C2 ?_ | refine C3 ?_ | refine C4 ?_ | refine C5 ?_ | refine C6 ?_ | refine C7 ?_ | refine D0 fun γs => ?_ | refine A1 fun γs => ?_ | refine N2 ?_ | refine N3 ?_ | refine N1 ?_); ((conv => whnf); repeat ((first | refine Sw.o ?_ | refine B0 ?_); conv => whnf))))
  (repeat' (first | ((first | refine N0 ?_ | refine A0 fun γ => ?_ | refine C1 ?_ | refine C2 ?_ | refine C3 ?_ | refine C4 ?_ | refine C5 ?_ | refine C6 ?_ | refine C7 ?_ | refine D0 fun γs => ?_ | refine A1 fun γs => ?_ | refine N2 ?_ | refine N3 ?_ | refine N1 ?_); ((conv => whnf); repeat ((first | refine Sw.o ?_ | refine B0 ?_); conv => whnf))) | (refine CondP.dec (fun h => ?_) (fun h => ?_) <;> (conv => whnf))))
  all_goals (
    refine key _ ?_
    unfold GreatP
    simp only [List.length_map] at *
    first | omega | (simp only [decide_eq_true_iff]; omega) | (simp only [true_iff, Bool.false_eq_true, false_iff]; omega))
end Go.Proofs.Ytgeeklnokblokaa
namespace Go.Proofs.Ytgeeklnokblokaa
open Go Go.Fw
theorem pairs_eq (a : List (Int × Int)) (ha : a.length < 2^62) : PureCall Try.prog 19 [.sl 2 (a.map encPr), .sl 2 (a.map encPr)] (encB true) := by
  have := pairs_ok a a ha ha
  rwa [decide_eq_true rfl] at this
theorem MatchR_len (g : G) : (MatchR g).1.length ≤ 120 := by
  unfold MatchR
  cases h : decide (checkF g = 0) with
  | true =>
    have := (check_wf (of_decide_eq_true h)).2.2.1
    simp only [matchR_len]; exact this
  | false => simp
theorem CertainR_len (g : G) : (CertainR g).1.length ≤ 120 := by
  unfold CertainR
  cases h : decide (checkF g = 0) with
  | true =>
    have := (check_wf (of_decide_eq_true h)).2.2.1
    have := certG_len (tR g) (matchR g) 0
    rw [matchR_len] at this
    simp only; omega
  | false => simp
set_option maxHeartbeats 4000000 in
set_option maxRecDepth 100000 in
theorem MatchPlays_ok (g : G) (hz : Sz g) : PureCall Try.prog 3 [encG g] (encB true) := by
  refine pure_cp (E := E 0) T_ok (D_ok 0) [] Try.func3 rfl (by rfl) (Nat.le_of_ble_eq_true rfl) ?_
  ((conv => whnf); repeat ((first | refine Sw.o ?_ | refine B0 ?_); conv => whnf))
  (repeat ((first | refine N0 ?_ | refine A0 fun γ => ?_ | refine C1 ?_ | refine C2 ?_ | refine C3 ?_ | refine C4 ?_ | refine C5 ?_ | refine C6 ?_ | refine C7 ?_ | refine D0 fun γs => ?_ | refine A1 fun γs => ?_ | refine N2 ?_ | refine N3 ?_ | refine N1 ?_); ((conv => whnf); repeat ((first | refine Sw.o ?_ | refine B0 ?_); conv => whnf))))
  refine CallP.flat [] _ c10 (Great_ok g) rfl ?_
  ((conv => whnf); repeat ((first | refine Sw.o ?_ | refine B0 ?_); conv => whnf))
  (repeat ((first | refine N0 ?_ | refine A0 fun γ => ?_ | refine C1 ?_ | refine C2 ?_ | refine C3 ?_ | refine C4 ?_ | refine C5 ?_ | refine C6 ?_ | refine C7 ?_ | refine D0 fun γs => ?_ | refine A1 fun γs => ?_ | refine N2 ?_ | refine N3 ?_ | refine N1 ?_); ((conv => whnf); repeat ((first | refine Sw.o ?_ | refine B0 ?_); conv => whnf))))
  refine CondP.dec (fun h => ?_) (fun h => ?_) <;> ((conv => whnf); repeat ((first | refine Sw.o ?_ | refine B0 ?_); conv => whnf))
  · (repeat ((first | refine N0 ?_ | refine A0 fun γ => ?_ | refine C1 ?_ | refine C2 ?_ | refine C3 ?_ | refine C4 ?_ | refine C5 ?_ | refine C6 ?_ | refine C7 ?_ | refine D0 fun γs => ?_ | refine A1 fun γs => ?_ | refine N2 ?_ | refine N3 ?_ | refine N1 ?_); ((conv => whnf); repeat ((first | refine Sw.o ?_ | refine B0 ?_); conv => whnf))))
    refine CallP.flat [] _ c11 awake11_ok rfl ?_
    ((conv => whnf); repeat ((first | refine Sw.o ?_ | refine B0 ?_); conv => whnf))
    (repeat ((first | refine N0 ?_ | refine A0 fun γ => ?_ | refine C1 ?_ | refine C2 ?_ | refine C3 ?_ | refine C4 ?_ | refine C5 ?_ | refine C6 ?_ | refine C7 ?_ | refine D0 fun γs => ?_ | refine A1 fun γs => ?_ | refine N2 ?_ | refine N3 ?_ | refine N1 ?_); ((conv => whnf); repeat ((first | refine Sw.o ?_ | refine B0 ?_); conv => whnf))))
    exact .of rfl
  · (repeat ((first | refine N0 ?_ | refine A0 fun γ => ?_ | refine C1 ?_ | refine C2 ?_ | refine C3 ?_ | refine C4 ?_ | refine C5 ?_ | refine C6 ?_ | refine C7 ?_ | refine D0 fun γs => ?_ | refine A1 fun γs => ?_ | refine N2 ?_ | refine N3 ?_ | refine N1 ?_); ((conv => whnf); repeat ((first | refine Sw.o ?_ | refine B0 ?_); conv => whnf))))
    refine CallP.pure [] _ c12 (match12_ok g hz) ?_
    ((conv => whnf); repeat ((first | refine Sw.o ?_ | refine B0 ?_); conv => whnf))
    (repeat ((first | refine N0 ?_ | refine A0 fun γ => ?_ | refine C1 ?_ | refine C2 ?_ | refine C3 ?_ | refine C4 ?_ | refine C5 ?_ | refine C6 ?_ | refine C7 ?_ | refine D0 fun γs => ?_ | refine A1 fun γs => ?_ | refine N2 ?_ | refine N3 ?_ | refine N1 ?_); ((conv => whnf); repeat ((first | refine Sw.o ?_ | refine B0 ?_); conv => whnf))))
    refine CallP.pure [] _ c13 (match13_ok g hz) ?_
    ((conv => whnf); repeat ((first | refine Sw.o ?_ | refine B0 ?_); conv => whnf))
    (repeat ((first | refine N0 ?_ | refine A0 fun γ => ?_ | refine C1 ?_ | refine C2 ?_ | refine C3 ?_ | refine C4 ?_ | refine C5 ?_ | refine C6 ?_ | refine C7 ?_ | refine D0 fun γs => ?_ | refine A1 fun γs => ?_ | refine N2 ?_ | refine N3 ?_ | refine N1 ?_); ((conv => whnf); repeat ((first | refine Sw.o ?_ | refine B0 ?_); conv => whnf))))
    refine CallP.pure [] _ c14 (rank14_ok g hz) ?_
    ((conv => whnf); repeat ((first | refine Sw.o ?_ | refine B0 ?_); conv => whnf))
    (repeat ((first | refine N0 ?_ | refine A0 fun γ => ?_ | refine C1 ?_ | refine C2 ?_ | refine C3 ?_ | refine C4 ?_ | refine C5 ?_ | refine C6 ?_ | refine C7 ?_ | refine D0 fun γs => ?_ | refine A1 fun γs => ?_ | refine N2 ?_ | refine N3 ?_ | refine N1 ?_); ((conv => whnf); repeat ((first | refine Sw.o ?_ | refine B0 ?_); conv => whnf))))
    refine CallP.pure [] _ c15 (rank15_ok g hz) ?_
    ((conv => whnf); repeat ((first | refine Sw.o ?_ | refine B0 ?_); conv => whnf))
    (repeat ((first | refine N0 ?_ | refine A0 fun γ => ?_ | refine C1 ?_ | refine C2 ?_ | refine C3 ?_ | refine C4 ?_ | refine C5 ?_ | refine C6 ?_ | refine C7 ?_ | refine D0 fun γs => ?_ | refine A1 fun γs => ?_ | refine N2 ?_ | refine N3 ?_ | refine N1 ?_); ((conv => whnf); repeat ((first | refine Sw.o ?_ | refine B0 ?_); conv => whnf))))
    refine CallP.pure [] _ c16 (certain16_ok g hz) ?_
    ((conv => whnf); repeat ((first | refine Sw.o ?_ | refine B0 ?_); conv => whnf))
    (repeat ((first | refine N0 ?_ | refine A0 fun γ => ?_ | refine C1 ?_ | refine C2 ?_ | refine C3 ?_ | refine C4 ?_ | refine C5 ?_ | refine C6 ?_ | refine C7 ?_ | refine D0 fun γs => ?_ | refine A1 fun γs => ?_ | refine N2 ?_ | refine N3 ?_ | refine N1 ?_); ((conv => whnf); repeat ((first | refine Sw.o ?_ | refine B0 ?_); conv => whnf))))
    refine CallP.pure [] _ c17 (certain17_ok g hz) ?_
    rw [match_eq, rank_eq, certain_eq]
    have l1 := MatchR_len g
    have l2 := CertainR_len g
    generalize MatchR g = A at l1 ⊢
    generalize rankR g = B
    generalize CertainR g = C at l2 ⊢
    have e1 : A.2 = A.2 := rfl
    have e2 : B.2 = B.2 := rfl
    have e3 : C.2 = C.2 := rfl
    have e4 : B.1 = B.1 := rfl
    ((conv => whnf); repeat ((first | refine Sw.o ?_ | refine B0 ?_); conv => whnf))
    (repeat ((first | refine N0 ?_ | refine A0 fun γ => ?_ | refine C1 ?_ | refine C2 ?_ | refine C3 ?_ | refine C4 ?_ | refine C5 ?_ | refine C6 ?_ | refine C7 ?_ | refine D0 fun γs => ?_ | refine A1 fun γs => ?_ | refine N2 ?_ | refine N3 ?_ | refine N1 ?_); ((conv => whnf); repeat ((first | refine Sw.o ?_ | refine B0 ?_); conv => whnf))))
    refine CallP.flat [] _ c18 (SameInts_eq A.1 (by omega)) rfl ?_
    ((conv => whnf); repeat ((first | refine Sw.o ?_ | refine B0 ?_); conv => whnf))
    (repeat ((first | refine N0 ?_ | refine A0 fun γ => ?_ | refine C1 ?_ | refine C2 ?_ | refine C3 ?_ | refine C4 ?_ | refine C5 ?_ | refine C6 ?_ | refine C7 ?_ | refine D0 fun γs => ?_ | refine A1 fun γs => ?_ | refine N2 ?_ | refine N3 ?_ | refine N1 ?_); ((conv => whnf); repeat ((first | refine Sw.o ?_ | refine B0 ?_); conv => whnf))))
    refine CallP.flat [] _ c19 (pairs_eq C.1 (by omega)) rfl ?_
    ((conv => whnf); repeat ((first | refine Sw.o ?_ | refine B0 ?_); conv => whnf))
    (repeat ((first | refine N0 ?_ | refine A0 fun γ => ?_ | refine C1 ?_ | refine C2 ?_ | refine C3 ?_ | refine C4 ?_ | refine C5 ?_ | refine C6 ?_ | refine C7 ?_ | refine D0 fun γs => ?_ | refine A1 fun γs => ?_ | refine N2 ?_ | refine N3 ?_ | refine N1 ?_); ((conv => whnf); repeat ((first | refine Sw.o ?_ | refine B0 ?_); conv => whnf))))
    refine CallP.flat [] _ c11 awake11_ok rfl ?_
    ((conv => whnf); repeat ((first | refine Sw.o ?_ | refine B0 ?_); conv => whnf))
    (repeat ((first | refine N0 ?_ | refine A0 fun γ => ?_ | refine C1 ?_ | refine C2 ?_ | refine C3 ?_ | refine C4 ?_ | refine C5 ?_ | refine C6 ?_ | refine C7 ?_ | refine D0 fun γs => ?_ | refine A1 fun γs => ?_ | refine N2 ?_ | refine N3 ?_ | refine N1 ?_); ((conv => whnf); repeat ((first | refine Sw.o ?_ | refine B0 ?_); conv => whnf))))
    exact .of rfl
end Go.Proofs.Ytgeeklnokblokaa
namespace Go.Proofs.Ytgeeklnokblokaa
theorem sub_len {α : Type} : ∀ (l X : List α), l.Nodup → (∀ x ∈ l, x ∈ X) → l.length ≤ X.length
  | [], X, _, _ => Nat.zero_le _
  | a :: l, X, hn, h => by
    have ha : a ∈ X := h a (by simp)
    obtain ⟨s, t, rfl⟩ := List.append_of_mem ha
    rw [List.nodup_cons] at hn
    have := sub_len l (s ++ t) hn.2 (fun x hx => by
      have h1 := h x (by simp [hx])
      have h2 : x ≠ a := fun e => hn.1 (e ▸ hx)
      simp only [List.mem_append, List.mem_cons] at h1 ⊢
      rcases h1 with h1 | h1 | h1
      · exact .inl h1
      · exact absurd h1 h2
      · exact .inr h1)
    simp only [List.length_append, List.length_cons] at this ⊢
    omega
theorem sub_all {α : Type} (l X : List α) (hn : l.Nodup) (h : ∀ x ∈ l, x ∈ X) (hl : X.length ≤ l.length) : ∀ x ∈ X, x ∈ l := by
  intro x hx
  refine Classical.byContradiction fun hc => ?_
  have := sub_len (x :: l) X (List.nodup_cons.2 ⟨hc, hn⟩) (fun y hy => by
    rcases List.mem_cons.1 hy with rfl | hy
    · exact hx
    · exact h y hy)
  simp only [List.length_cons] at this
  omega
abbrev Rel2 := Nat → Nat → Prop
structure Mch (J : Rel2) (p : List (Nat × Nat)) : Prop where
  l : (p.map Prod.fst).Nodup
  r : (p.map Prod.snd).Nodup
  j : ∀ x ∈ p, J x.1 x.2
def Cov (J : Rel2) (X Y : List Nat) : Prop := ∀ e u, J e u → e ∈ X ∨ u ∈ Y
/-- The greatest number of pairs is k. -/
structure Nu (J : Rel2) (k : Nat) : Prop where
  p : ∃ p, Mch J p ∧ p.length = k
  c : ∃ X Y, Cov J X Y ∧ X.length + Y.length = k
theorem Mch.mono {J J' : Rel2} (h : ∀ e u, J e u → J' e u) {p : List (Nat × Nat)} (hp : Mch J p) : Mch J' p := ⟨hp.l, hp.r, fun x hx => h _ _ (hp.j x hx)⟩
theorem Mch.filter {J : Rel2} {p : List (Nat × Nat)} (hp : Mch J p) (f : Nat × Nat → Bool) : Mch J (p.filter f) :=
  ⟨hp.l.sublist ((List.filter_sublist ..).map _), hp.r.sublist ((List.filter_sublist ..).map _), fun x hx => hp.j x (List.mem_filter.1 hx).1⟩
theorem filter_split {α : Type} (f : α → Bool) : ∀ l : List α, (l.filter f).length + (l.filter fun x => !f x).length = l.length
  | [] => rfl
  | a :: l => by
    have := filter_split f l
    cases h : f a <;> simp [h] <;> omega
open Classical in
theorem Mch.le {J : Rel2} {p : List (Nat × Nat)} (hp : Mch J p) {X Y : List Nat} (hc : Cov J X Y) : p.length ≤ X.length + Y.length := by
  have h1 := filter_split (fun x : Nat × Nat => decide (x.1 ∈ X)) p
  have h2 := sub_len _ X (hp.filter fun x => decide (x.1 ∈ X)).l (fun x hx => by
    obtain ⟨y, hy, rfl⟩ := List.mem_map.1 hx
    exact of_decide_eq_true (List.mem_filter.1 hy).2)
  have h3 := sub_len _ Y (hp.filter fun x => !decide (x.1 ∈ X)).r (fun x hx => by
    obtain ⟨y, hy, rfl⟩ := List.mem_map.1 hx
    have := List.mem_filter.1 hy
    rcases hc _ _ (hp.j y this.1) with h | h
    · simp [h] at this
    · exact h)
  simp only [List.length_map] at h2 h3
  omega
theorem Nu.le {J : Rel2} {k : Nat} (h : Nu J k) {p : List (Nat × Nat)} (hp : Mch J p) : p.length ≤ k := by
  obtain ⟨X, Y, hc, rfl⟩ := h.c
  exact hp.le hc
theorem Nu.ge {J : Rel2} {k : Nat} (h : Nu J k) {X Y : List Nat} (hc : Cov J X Y) : k ≤ X.length + Y.length := by
  obtain ⟨p, hp, rfl⟩ := h.p
  exact hp.le hc
theorem Nu.uniq {J : Rel2} {k k' : Nat} (h : Nu J k) (h' : Nu J k') : k = k' := by
  obtain ⟨p, hp, rfl⟩ := h.p
  obtain ⟨q, hq, rfl⟩ := h'.p
  exact Nat.le_antisymm (h'.le hp) (h.le hq)
theorem Nu.mono {J J' : Rel2} {k k' : Nat} (h : Nu J k) (h' : Nu J' k') (hj : ∀ e u, J e u → J' e u) : k ≤ k' := by
  obtain ⟨p, hp, rfl⟩ := h.p
  exact h'.le (hp.mono hj)
theorem Nu.congr {J J' : Rel2} {k k' : Nat} (h : Nu J k) (h' : Nu J' k') (hj : ∀ e u, J e u ↔ J' e u) : k = k' :=
  Nat.le_antisymm (h.mono h' fun e u => (hj e u).1) (h'.mono h fun e u => (hj e u).2)
theorem Nu.iff {J J' : Rel2} {k : Nat} (h : Nu J k) (hj : ∀ e u, J e u ↔ J' e u) : Nu J' k := by
  obtain ⟨p, hp, hl⟩ := h.p
  obtain ⟨X, Y, hc, hk⟩ := h.c
  exact ⟨⟨p, hp.mono fun e u => (hj e u).1, hl⟩, X, Y, fun e u he => hc e u ((hj e u).2 he), hk⟩
/-- A cover that is as small as a matching is great meets it just once in each pair. -/
structure Tight (p : List (Nat × Nat)) (X Y : List Nat) : Prop where
  x : ∀ e ∈ X, e ∈ p.map Prod.fst
  y : ∀ u ∈ Y, u ∈ p.map Prod.snd
  n : ∀ q ∈ p, q.1 ∈ X → q.2 ∈ Y → False
open Classical in
theorem Mch.tight {J : Rel2} {p : List (Nat × Nat)} (hp : Mch J p) {X Y : List Nat} (hc : Cov J X Y) (hl : X.length + Y.length ≤ p.length) : Tight p X Y := by
  have h1 := filter_split (fun x : Nat × Nat => decide (x.1 ∈ X)) p
  have a2 : ∀ x ∈ (p.filter fun x => decide (x.1 ∈ X)).map Prod.fst, x ∈ X := fun x hx => by
    obtain ⟨y, hy, rfl⟩ := List.mem_map.1 hx
    exact of_decide_eq_true (List.mem_filter.1 hy).2
  have a3 : ∀ x ∈ (p.filter fun x => !decide (x.1 ∈ X)).map Prod.snd, x ∈ Y := fun x hx => by
    obtain ⟨y, hy, rfl⟩ := List.mem_map.1 hx
    have := List.mem_filter.1 hy
    rcases hc _ _ (hp.j y this.1) with h | h
    · simp [h] at this
    · exact h
  have h2 := sub_len _ X (hp.filter fun x => decide (x.1 ∈ X)).l a2
  have h3 := sub_len _ Y (hp.filter fun x => !decide (x.1 ∈ X)).r a3
  have b2 := sub_all _ X (hp.filter fun x => decide (x.1 ∈ X)).l a2 (by simp only [List.length_map] at h2 h3 ⊢; omega)
  have b3 := sub_all _ Y (hp.filter fun x => !decide (x.1 ∈ X)).r a3 (by simp only [List.length_map] at h2 h3 ⊢; omega)
  refine ⟨fun e he => ?_, fun u hu => ?_, fun q hq h4 h5 => ?_⟩
  · obtain ⟨y, hy, rfl⟩ := List.mem_map.1 (b2 e he)
    exact List.mem_map.2 ⟨y, (List.mem_filter.1 hy).1, rfl⟩
  · obtain ⟨y, hy, rfl⟩ := List.mem_map.1 (b3 u hu)
    exact List.mem_map.2 ⟨y, (List.mem_filter.1 hy).1, rfl⟩
  · obtain ⟨y, hy, hyq⟩ := List.mem_map.1 (b3 q.2 h5)
    obtain ⟨hy1, hy2⟩ := List.mem_filter.1 hy
    have := inj_snd hp.r hy1 hq hyq
    subst this
    simp [h4] at hy2
where
  inj_snd {p : List (Nat × Nat)} (hn : (p.map Prod.snd).Nodup) {x y : Nat × Nat} (hx : x ∈ p) (hy : y ∈ p) (e : x.2 = y.2) : x = y := by
    induction p with
    | nil => exact absurd hx (by simp)
    | cons a p ih =>
      rw [List.map_cons, List.nodup_cons] at hn
      rcases List.mem_cons.1 hx with h1 | h1 <;> rcases List.mem_cons.1 hy with h2 | h2
      · rw [h1, h2]
      · exact absurd (List.mem_map.2 ⟨y, h2, by rw [← e, h1]⟩) hn.1
      · exact absurd (List.mem_map.2 ⟨x, h1, by rw [e, h2]⟩) hn.1
      · exact ih hn.2 h1 h2
/-- What can be reached from what has no partner. -/
inductive Rch (J : Rel2) (n : Nat) (p : List (Nat × Nat)) : Nat → Prop
  | start (e : Nat) : e < n → (∀ u, (e, u) ∉ p) → Rch J n p e
  | step (e u e' : Nat) : Rch J n p e → J e u → (e', u) ∈ p → Rch J n p e'
theorem Rch.out {J : Rel2} {n : Nat} {p : List (Nat × Nat)} {X Y : List Nat} (hc : Cov J X Y) (ht : Tight p X Y) {e : Nat} (h : Rch J n p e) : e ∉ X := by
  induction h with
  | start e _ hn =>
    intro he
    obtain ⟨⟨a, b⟩, hx, rfl⟩ := List.mem_map.1 (ht.x e he)
    exact hn b hx
  | step e u e' _ hj hp ih =>
    intro he
    rcases hc e u hj with h | h
    · exact ih h
    · exact ht.n _ hp he h
theorem Rch.met {J : Rel2} {n k : Nat} {p : List (Nat × Nat)} (hk : Nu J k) (hp : Mch J p) (hl : p.length = k) {e u : Nat} (h : Rch J n p e) (hj : J e u) : ∃ e', (e', u) ∈ p ∧ Rch J n p e' := by
  obtain ⟨X, Y, hc, hx⟩ := hk.c
  have ht := hp.tight hc (by omega)
  have hy : u ∈ Y := (hc e u hj).resolve_left (h.out hc ht)
  obtain ⟨⟨a, b⟩, hab, rfl⟩ := List.mem_map.1 (ht.y u hy)
  exact ⟨a, hab, .step e b a h hj hab⟩
theorem Mch.bound {J : Rel2} {p : List (Nat × Nat)} (hp : Mch J p) {n m : Nat} (hb : ∀ e u, J e u → e < n ∧ u < m) {x : Nat × Nat} (hx : x ∈ p) : x.1 < n ∧ x.2 < m := hb _ _ (hp.j x hx)
open Classical in
/-- The cover that the reached elements make. -/
theorem Rch.cov {J : Rel2} {n k : Nat} {p : List (Nat × Nat)} (hb : ∀ e u, J e u → e < n) (hk : Nu J k) (hp : Mch J p) (hl : p.length = k) :
    Cov J ((p.filter fun x => !decide (Rch J n p x.1)).map Prod.fst) ((p.filter fun x => decide (Rch J n p x.1)).map Prod.snd) := by
  intro e u hj
  by_cases h : Rch J n p e
  · obtain ⟨e', h1, h2⟩ := h.met hk hp hl hj
    exact .inr (List.mem_map.2 ⟨(e', u), List.mem_filter.2 ⟨h1, by simpa using h2⟩, rfl⟩)
  · refine .inl ?_
    have : ∃ v, (e, v) ∈ p := Classical.byContradiction fun hc => h (.start e (hb e u hj) fun v hv => hc ⟨v, hv⟩)
    obtain ⟨v, hv⟩ := this
    exact List.mem_map.2 ⟨(e, v), List.mem_filter.2 ⟨hv, by simpa using h⟩, rfl⟩
def offE (J : Rel2) (i : Nat) : Rel2 := fun e u => J e u ∧ e ≠ i
open Classical in
theorem Rch.iff {J : Rel2} {n k k' i : Nat} {p : List (Nat × Nat)} (hb : ∀ e u, J e u → e < n) (hk : Nu J k) (hp : Mch J p) (hl : p.length = k) (hk' : Nu (offE J i) k') (hi : i < n) : Rch J n p i ↔ k' = k := by
  have hle : k' ≤ k := hk'.mono hk fun e u h => h.1
  obtain ⟨X, Y, hc, hx⟩ := hk'.c
  have hc2 : Cov J (i :: X) Y := fun e u h => by
    by_cases he : e = i
    · exact .inl (by simp [he])
    · exact (hc e u ⟨h, he⟩).imp (fun h => by simp [h]) fun h => h
  have hge := hk.ge hc2
  simp only [List.length_cons] at hge
  constructor
  · intro h
    refine Classical.byContradiction fun hne => ?_
    have ht := hp.tight hc2 (by simp only [List.length_cons]; omega)
    exact h.out hc2 ht (by simp)
  · intro he
    refine Classical.byContradiction fun hn => ?_
    have hcv := Rch.cov hb hk hp hl
    have hm : ∃ v, (i, v) ∈ p := Classical.byContradiction fun hc => hn (.start i hi fun v hv => hc ⟨v, hv⟩)
    obtain ⟨v, hv⟩ := hm
    have hmem : i ∈ (p.filter fun x => !decide (Rch J n p x.1)).map Prod.fst := List.mem_map.2 ⟨(i, v), List.mem_filter.2 ⟨hv, by simpa using hn⟩, rfl⟩
    have hsp := filter_split (fun x : Nat × Nat => decide (Rch J n p x.1)) p
    generalize hA : (p.filter fun x => !decide (Rch J n p x.1)).map Prod.fst = A at hcv hmem
    have hAl : A.length = (p.filter fun x => !decide (Rch J n p x.1)).length := by rw [← hA]; simp
    obtain ⟨s, t, rfl⟩ := List.append_of_mem hmem
    have hcf : Cov (offE J i) (s ++ t) ((p.filter fun x => decide (Rch J n p x.1)).map Prod.snd) := fun e u h => by
      rcases hcv e u h.1 with h1 | h1
      · refine .inl ?_
        simp only [List.mem_append, List.mem_cons] at h1 ⊢
        rcases h1 with h1 | h1 | h1
        · exact .inl h1
        · exact absurd h1 h.2
        · exact .inr h1
      · exact .inr h1
    have := hk'.ge hcf
    simp only [List.length_append, List.length_cons, List.length_map] at this hAl
    omega
/-! ### The other side -/
def flip2 (J : Rel2) : Rel2 := fun u e => J e u
def swapP (p : List (Nat × Nat)) : List (Nat × Nat) := p.map fun x => (x.2, x.1)
theorem swap_fst (p : List (Nat × Nat)) : (swapP p).map Prod.fst = p.map Prod.snd := by simp [swapP]
theorem swap_snd (p : List (Nat × Nat)) : (swapP p).map Prod.snd = p.map Prod.fst := by simp [swapP]
theorem swap_mem (p : List (Nat × Nat)) (a b : Nat) : (a, b) ∈ swapP p ↔ (b, a) ∈ p := by
  simp only [swapP, List.mem_map, Prod.mk.injEq]
  constructor
  · rintro ⟨⟨x, y⟩, h, rfl, rfl⟩; exact h
  · intro h; exact ⟨(b, a), h, rfl, rfl⟩
theorem swap_len (p : List (Nat × Nat)) : (swapP p).length = p.length := by simp [swapP]
theorem Mch.flip {J : Rel2} {p : List (Nat × Nat)} (hp : Mch J p) : Mch (flip2 J) (swapP p) :=
  ⟨by rw [swap_fst]; exact hp.r, by rw [swap_snd]; exact hp.l, fun x hx => hp.j (x.2, x.1) ((swap_mem p x.1 x.2).1 hx)⟩
theorem Nu.flip {J : Rel2} {k : Nat} (h : Nu J k) : Nu (flip2 J) k := by
  obtain ⟨p, hp, hl⟩ := h.p
  obtain ⟨X, Y, hc, hk⟩ := h.c
  exact ⟨⟨swapP p, hp.flip, by rw [swap_len, hl]⟩, Y, X, fun u e hj => (hc e u hj).symm, by omega⟩
end Go.Proofs.Ytgeeklnokblokaa
namespace Go.Proofs.Ytgeeklnokblokaa
open Go Go.Fw
def jn (g : G) (e : Int) : List Int := g.joined.getD e.toNat []
/-- What is matched at uses that are not seen. -/
structure Gd (g : G) (m : List Int) (S : List Bool) : Prop where
  edge : ∀ u, u < g.uses.length → S.getD u false = false → 0 ≤ m.getD u 0 → (u : Int) ∈ jn g (m.getD u 0)
  inj : ∀ u v, u < g.uses.length → v < g.uses.length → S.getD u false = false → S.getD v false = false → 0 ≤ m.getD u 0 → m.getD u 0 = m.getD v 0 → u = v
structure Won (g : G) (e : Int) (m m' : List Int) (S : List Bool) : Prop where
  gd : Gd g m' S
  has : ∃ u, u < g.uses.length ∧ S.getD u false = false ∧ m'.getD u 0 = e
  old : ∀ u, u < g.uses.length → S.getD u false = false → 0 ≤ m.getD u 0 → ∃ v, v < g.uses.length ∧ S.getD v false = false ∧ m'.getD v 0 = m.getD u 0
  new : ∀ v, v < g.uses.length → S.getD v false = false → 0 ≤ m'.getD v 0 → m'.getD v 0 = e ∨ ∃ u, u < g.uses.length ∧ S.getD u false = false ∧ m.getD u 0 = m'.getD v 0
structure TS (g : G) (e : Int) (l : List Int) (k : Nat) (s : MS) (r : Bool × MS) : Prop where
  lm : r.2.1.length = g.uses.length
  ls : r.2.2.length = g.uses.length
  un : unseen r.2.2 ≤ unseen s.2
  grow : ∀ u, s.2.getD u false = true → r.2.2.getD u false = true
  fail : r.1 = false → r.2.1 = s.1
  keep : r.1 = true → ∀ u, s.2.getD u false = true → r.2.1.getD u 0 = s.1.getD u 0
  one : r.1 = true → nonneg r.2.1 = nonneg s.1 + 1
  won : r.1 = true → Gd g s.1 s.2 → (∀ u, u < g.uses.length → s.2.getD u false = false → s.1.getD u 0 ≠ e) → Won g e s.1 r.2.1 s.2
  clos : r.1 = false → unseen s.2 < k → (∀ v ∈ l, r.2.2.getD v.toNat false = true) ∧
    ∀ u, u < g.uses.length → r.2.2.getD u false = true → s.2.getD u false = false → 0 ≤ s.1.getD u 0 ∧ ∀ v ∈ jn g (s.1.getD u 0), r.2.2.getD v.toNat false = true
  prot : ∀ Z : Nat → Prop, (∀ u, Z u → u < g.uses.length ∧ 0 ≤ s.1.getD u 0 ∧ ∀ v ∈ jn g (s.1.getD u 0), s.2.getD v.toNat false = true ∨ Z v.toNat) →
    (r.1 = true → ∀ u, Z u → r.2.1.getD u 0 = s.1.getD u 0) ∧ ((∀ v ∈ l, s.2.getD v.toNat false = true ∨ Z v.toNat) → r.1 = false)
theorem nonneg_set : ∀ (l : List Int) (i : Nat) (x : Int), i < l.length → 0 ≤ x → (nonneg (l.set i x) : Int) = nonneg l + (if 0 ≤ l.getD i 0 then 0 else 1)
  | [], i, x, h, _ => absurd h (by simp)
  | a :: l, 0, x, _, hx => by
    simp only [nonneg, List.set_cons_zero, List.countP_cons, List.getD_cons_zero, hx, decide_true, if_true]
    by_cases h : 0 ≤ a <;> simp [h]
  | a :: l, i + 1, x, h, hx => by
    have := nonneg_set l i x (by simpa using h) hx
    simp only [nonneg, List.set_cons_succ, List.countP_cons, List.getD_cons_succ] at this ⊢
    omega
theorem TS.skip {g : G} {e u : Int} {l : List Int} {k : Nat} {s s' : MS} {r : Bool × MS} (h : TS g e l (k + 1) s' r) (hm : s'.1 = s.1) (hg : ∀ u, s.2.getD u false = true → s'.2.getD u false = true) (hu : unseen s'.2 ≤ unseen s.2)
    (hc : unseen s.2 < k + 1 → s'.2.getD u.toNat false = true ∧ ∀ u, u < g.uses.length → s'.2.getD u false = true → s.2.getD u false = false → 0 ≤ s.1.getD u 0 ∧ ∀ v ∈ jn g (s.1.getD u 0), s'.2.getD v.toNat false = true) :
    TS g e (u :: l) (k + 1) s r := by
  have hf : ∀ u, s'.2.getD u false = false → s.2.getD u false = false := fun u h => by
    cases hx : s.2.getD u false with
    | false => rfl
    | true => rw [hg u hx] at h; exact h
  refine ⟨h.lm, h.ls, Nat.le_trans h.un hu, fun u q => h.grow u (hg u q), fun q => (h.fail q).trans hm, fun q u q2 => by rw [h.keep q u (hg u q2), hm], fun q => by rw [h.one q, hm], fun q gd ne => ?_, fun q hk => ?_, fun Z hZ => ?_⟩
  · have gd' : Gd g s'.1 s'.2 := ⟨fun u h1 h2 h3 => by rw [hm] at h3 ⊢; exact gd.edge u h1 (hf u h2) h3, fun u v h1 h2 h3 h4 h5 h6 => by rw [hm] at h5 h6; exact gd.inj u v h1 h2 (hf u h3) (hf v h4) h5 h6⟩
    have w := h.won q gd' (fun u h1 h2 => by rw [hm]; exact ne u h1 (hf u h2))
    have kp := h.keep q
    rw [hm] at w kp
    have cs : ∀ u, s'.2.getD u false = true ∨ s'.2.getD u false = false := fun u => by cases s'.2.getD u false <;> simp
    refine ⟨⟨fun u h1 h2 h3 => ?_, fun u v h1 h2 h3 h4 h5 h6 => ?_⟩, ?_, fun u h1 h2 h3 => ?_, fun v h1 h2 h3 => ?_⟩
    · rcases cs u with c | c
      · rw [kp u c] at h3 ⊢; exact gd.edge u h1 h2 h3
      · exact w.gd.edge u h1 c h3
    · have mix : ∀ u v, u < g.uses.length → v < g.uses.length → s.2.getD u false = false → s.2.getD v false = false → 0 ≤ r.2.1.getD u 0 → r.2.1.getD u 0 = r.2.1.getD v 0 → s'.2.getD u false = true → s'.2.getD v false = false → False := by
        intro u v h1 h2 h3 h4 h5 h6 cu cv
        rcases w.new v h2 cv (by rw [← h6]; exact h5) with h7 | ⟨x, hx1, hx2, hx3⟩
        · rw [← h6, kp u cu] at h7; exact ne u h1 h3 h7
        · rw [← h6, kp u cu] at hx3
          have := gd.inj u x h1 hx1 h3 (hf x hx2) (by rw [← kp u cu]; exact h5) hx3.symm
          subst this
          rw [cu] at hx2; cases hx2
      rcases cs u with cu | cu <;> rcases cs v with cv | cv
      · rw [kp u cu] at h5 h6
        rw [kp v cv] at h6
        exact gd.inj u v h1 h2 h3 h4 h5 h6
      · exact (mix u v h1 h2 h3 h4 h5 h6 cu cv).elim
      · exact (mix v u h2 h1 h4 h3 (by rw [← h6]; exact h5) h6.symm cv cu).elim
      · exact w.gd.inj u v h1 h2 cu cv h5 h6
    · obtain ⟨x, h1, h2, h3⟩ := w.has
      exact ⟨x, h1, hf x h2, h3⟩
    · rcases cs u with c | c
      · exact ⟨u, h1, h2, kp u c⟩
      · obtain ⟨v, a, b, d⟩ := w.old u h1 c h3
        exact ⟨v, a, hf v b, d⟩
    · rcases cs v with c | c
      · exact .inr ⟨v, h1, h2, (kp v c).symm⟩
      · rcases w.new v h1 c h3 with d | ⟨x, a, b, d⟩
        · exact .inl d
        · exact .inr ⟨x, a, hf x b, d⟩
  · obtain ⟨c1, c2⟩ := hc hk
    obtain ⟨d1, d2⟩ := h.clos q (by omega)
    rw [hm] at d2
    refine ⟨fun v hv => ?_, fun u a b c => ?_⟩
    · rcases List.mem_cons.1 hv with rfl | hv
      · exact h.grow _ c1
      · exact d1 v hv
    · cases hx : s'.2.getD u false with
      | true =>
        obtain ⟨x1, x2⟩ := c2 u a hx c
        exact ⟨x1, fun v hv => h.grow _ (x2 v hv)⟩
      | false => exact d2 u a b hx
  · have := h.prot Z (fun u hu => by
      obtain ⟨a, b, c⟩ := hZ u hu
      rw [hm]
      exact ⟨a, b, fun v hv => (c v hv).imp (hg _) fun h => h⟩)
    rw [hm] at this
    exact ⟨this.1, fun q => this.2 fun v hv => (q v (by simp [hv])).imp (hg _) fun h => h⟩
theorem tryL_TS {g : G} (hin : ∀ e : Int, ∀ u ∈ jn g e, 0 ≤ u ∧ u < g.uses.length) {rec : Int → MS → Bool × MS} {k : Nat}
    (hrec : ∀ (e : Int) (s : MS), 0 ≤ e → s.1.length = g.uses.length → s.2.length = g.uses.length → TS g e (jn g e) k s (rec e s)) {e : Int} (he : 0 ≤ e) :
    ∀ (l : List Int) (s : MS), (∀ u ∈ l, u ∈ jn g e) → s.1.length = g.uses.length → s.2.length = g.uses.length → TS g e l (k + 1) s (tryL rec e l s)
  | [], s, _, h1, h2 => ⟨h1, h2, Nat.le_refl _, fun _ h => h, fun _ => rfl, fun h => (by cases h), fun h => (by cases h), fun h => (by cases h),
      fun _ _ => ⟨fun v h => absurd h (by simp), fun u _ a b => by rw [show (tryL rec e [] s).2.2 = s.2 from rfl, b] at a; cases a⟩, fun Z hZ => ⟨fun h => (by cases h), fun _ => rfl⟩⟩
  | u :: r, s, hl, h1, h2 => by
    have hr := fun v hv => hl v (List.mem_cons_of_mem _ hv)
    have hu := hl u (by simp)
    obtain ⟨hu0, hun⟩ := hin e u hu
    have hu1 : u.toNat < g.uses.length := by omega
    have huu : ((u.toNat : Nat) : Int) = u := by omega
    unfold tryL
    cases hS : s.2.getD u.toNat false with
    | true => exact (tryL_TS hin hrec he r s hr h1 h2).skip rfl (fun _ h => h) (Nat.le_refl _) fun _ => ⟨hS, fun w _ a b => by rw [b] at a; cases a⟩
    | false =>
      have hus := unseen_set (l := s.2) (i := u.toNat) (by omega) hS
      simp only
      by_cases hm : s.1.getD u.toNat 0 < 0
      · rw [decide_eq_true hm]
        have g1 : ∀ i, (s.1.set u.toNat e).getD i 0 = if u.toNat = i then e else s.1.getD i 0 := fun i => by
          rw [getD_setL]
          by_cases q : u.toNat = i
          · rw [if_pos ⟨q, by omega⟩, if_pos q]
          · rw [if_neg (fun h => q h.1), if_neg q]
        refine ⟨by simpa using h1, by simpa using h2, by simp only; omega, fun i h => ?_, fun h => (by cases h), fun _ i h => ?_, fun _ => ?_, fun _ gd ne => ?_, fun h => (by cases h), fun Z hZ => ⟨fun _ i hi => ?_, fun hq => ?_⟩⟩
        · rw [getD_setL]; split
          · rfl
          · exact h
        · simp only; rw [g1, if_neg (fun q => by rw [q] at hS; rw [hS] at h; cases h)]
        · have := nonneg_set s.1 u.toNat e (by omega) he
          rw [if_neg (by omega)] at this
          simp only; omega
        · simp only
          have nz : ∀ i, u.toNat ≠ i → (s.1.set u.toNat e).getD i 0 = s.1.getD i 0 := fun i q => by rw [g1, if_neg q]
          have zz : (s.1.set u.toNat e).getD u.toNat 0 = e := by rw [g1, if_pos rfl]
          refine ⟨⟨fun i a b c => ?_, fun i j a1 a2 b1 b2 c d => ?_⟩, ⟨u.toNat, hu1, hS, zz⟩, fun i a b c => ?_, fun i a b c => ?_⟩
          · by_cases q : u.toNat = i
            · rw [← q, zz, huu]; exact hu
            · rw [nz i q] at c ⊢; exact gd.edge i a b c
          · by_cases q : u.toNat = i <;> by_cases q2 : u.toNat = j
            · omega
            · rw [← q, zz, nz j q2] at d; exact absurd d.symm (ne j a2 b2)
            · rw [← q2, zz, nz i q] at d; exact absurd d (ne i a1 b1)
            · rw [nz i q] at c d; rw [nz j q2] at d; exact gd.inj i j a1 a2 b1 b2 c d
          · have q : u.toNat ≠ i := fun q => by rw [← q] at c; omega
            exact ⟨i, a, b, nz i q⟩
          · by_cases q : u.toNat = i
            · exact .inl (by rw [← q, zz])
            · exact .inr ⟨i, a, b, (nz i q).symm⟩
        · obtain ⟨a, b, c⟩ := hZ i hi
          simp only
          rw [g1, if_neg (fun q => by rw [← q] at b; omega)]
        · rcases hq u (by simp) with h | h
          · rw [hS] at h; cases h
          · obtain ⟨a, b, c⟩ := hZ _ h
            omega
      · rw [decide_eq_false hm]
        simp only
        have hm0 : 0 ≤ s.1.getD u.toNat 0 := by omega
        have T := hrec (s.1.getD u.toNat 0) (s.1, s.2.set u.toNat true) hm0 h1 (by simpa using h2)
        have gS : ∀ i, (s.2.set u.toNat true).getD i false = if u.toNat = i then true else s.2.getD i false := fun i => by
          rw [getD_setL]
          by_cases q : u.toNat = i
          · rw [if_pos ⟨q, by omega⟩, if_pos q]
          · rw [if_neg (fun h => q h.1), if_neg q]
        have gS1 : ∀ i, s.2.getD i false = true → (s.2.set u.toNat true).getD i false = true := fun i h => by rw [gS]; split; exact rfl; exact h
        have gS2 : (s.2.set u.toNat true).getD u.toNat false = true := by rw [gS, if_pos rfl]
        generalize rec (s.1.getD u.toNat 0) (s.1, s.2.set u.toNat true) = b at T
        obtain ⟨b1, bm, bs⟩ := b
        have tl := T.lm
        have ts := T.ls
        simp only at tl ts
        cases b1 with
        | false =>
          have tf : bm = s.1 := T.fail rfl
          subst tf
          refine (tryL_TS hin hrec he r (_, bs) hr h1 T.ls).skip rfl (fun i h => T.grow i (gS1 i h)) (by have := T.un; simp only at this ⊢; omega) fun hk => ⟨T.grow _ gS2, fun w a b c => ?_⟩
          obtain ⟨c1, c2⟩ := T.clos rfl (by simp only; omega)
          simp only at c1 c2 b
          by_cases q : u.toNat = w
          · subst q
            exact ⟨hm0, c1⟩
          · exact c2 w a b (by rw [gS, if_neg q]; exact c)
        | true =>
          simp only
          have kp := T.keep rfl
          simp only at kp
          have g1 : ∀ i, (bm.set u.toNat e).getD i 0 = if u.toNat = i then e else bm.getD i 0 := fun i => by
            rw [getD_setL]
            by_cases q : u.toNat = i
            · rw [if_pos ⟨q, by omega⟩, if_pos q]
            · rw [if_neg (fun h => q h.1), if_neg q]
          have nz : ∀ i, u.toNat ≠ i → (bm.set u.toNat e).getD i 0 = bm.getD i 0 := fun i q => by rw [g1, if_neg q]
          have zz : (bm.set u.toNat e).getD u.toNat 0 = e := by rw [g1, if_pos rfl]
          refine ⟨by simpa using tl, ts, by have := T.un; simp only at this ⊢; omega, fun i h => T.grow i (gS1 i h), fun h => (by cases h), fun _ i h => ?_, fun _ => ?_, fun _ gd ne => ?_, fun h => (by cases h), fun Z hZ => ⟨fun _ i hi => ?_, fun hq => ?_⟩⟩
          · have q : u.toNat ≠ i := fun q => by rw [q] at hS; rw [hS] at h; cases h
            show (bm.set u.toNat e).getD i 0 = _
            rw [nz i q]; exact kp i (gS1 i h)
          · have h3 := nonneg_set bm u.toNat e (by omega) he
            rw [if_pos (by rw [kp _ gS2]; exact hm0)] at h3
            have := T.one rfl
            simp only at this ⊢
            omega
          · simp only
            have uns : ∀ i, (s.2.set u.toNat true).getD i false = false → s.2.getD i false = false ∧ u.toNat ≠ i := fun i h => by
              rw [gS] at h
              split at h
              · cases h
              · rename_i q; exact ⟨h, q⟩
            have uns2 : ∀ i, s.2.getD i false = false → u.toNat ≠ i → (s.2.set u.toNat true).getD i false = false := fun i h q => by rw [gS, if_neg q]; exact h
            have w := T.won rfl ⟨fun i a b c => gd.edge i a (uns i b).1 c, fun i j a1 a2 b1 b2 c d => gd.inj i j a1 a2 (uns i b1).1 (uns j b2).1 c d⟩
              (fun i a b d => (uns i b).2 (gd.inj u.toNat i hu1 a hS (uns i b).1 hm0 d.symm))
            simp only at w
            have neW : ∀ i, i < g.uses.length → s.2.getD i false = false → u.toNat ≠ i → 0 ≤ bm.getD i 0 → bm.getD i 0 ≠ e := fun i a b q c d => by
              rcases w.new i a (uns2 i b q) c with h | ⟨x, x1, x2, x3⟩
              · exact ne u.toNat hu1 hS (by rw [← h]; exact d)
              · exact ne x x1 (uns x x2).1 (by rw [x3]; exact d)
            refine ⟨⟨fun i a b c => ?_, fun i j a1 a2 b1 b2 c d => ?_⟩, ⟨u.toNat, hu1, hS, zz⟩, fun i a b c => ?_, fun i a b c => ?_⟩
            · by_cases q : u.toNat = i
              · rw [← q, zz, huu]; exact hu
              · rw [nz i q] at c ⊢; exact w.gd.edge i a (uns2 i b q) c
            · by_cases q : u.toNat = i <;> by_cases q2 : u.toNat = j
              · omega
              · rw [← q, zz, nz j q2] at d; exact absurd d.symm (neW j a2 b2 q2 (by rw [← d]; exact he))
              · rw [nz i q] at c; rw [← q2, zz, nz i q] at d; exact absurd d (neW i a1 b1 q c)
              · rw [nz i q] at c d; rw [nz j q2] at d; exact w.gd.inj i j a1 a2 (uns2 i b1 q) (uns2 j b2 q2) c d
            · by_cases q : u.toNat = i
              · subst q
                obtain ⟨v, v1, v2, v3⟩ := w.has
                exact ⟨v, v1, (uns v v2).1, by rw [nz v (uns v v2).2]; exact v3⟩
              · obtain ⟨v, v1, v2, v3⟩ := w.old i a (uns2 i b q) c
                exact ⟨v, v1, (uns v v2).1, by rw [nz v (uns v v2).2]; exact v3⟩
            · by_cases q : u.toNat = i
              · exact .inl (by rw [← q, zz])
              · rw [nz i q] at c
                rcases w.new i a (uns2 i b q) c with h | ⟨x, x1, x2, x3⟩
                · exact .inr ⟨u.toNat, hu1, hS, by rw [nz i q]; exact h.symm⟩
                · exact .inr ⟨x, x1, (uns x x2).1, by rw [nz i q]; exact x3⟩
          · have tp := T.prot Z (fun i hi => by
              obtain ⟨a, b, c⟩ := hZ i hi
              exact ⟨a, b, fun v hv => (c v hv).imp (gS1 _) fun h => h⟩)
            simp only at tp
            by_cases q : u.toNat = i
            · subst q
              obtain ⟨a, b, c⟩ := hZ _ hi
              exact absurd (tp.2 fun v hv => (c v hv).imp (gS1 _) fun h => h) (by simp)
            · show (bm.set u.toNat e).getD i 0 = _
              rw [nz i q]; exact tp.1 trivial i hi
          · have tp := T.prot Z (fun i hi => by
              obtain ⟨a, b, c⟩ := hZ i hi
              exact ⟨a, b, fun v hv => (c v hv).imp (gS1 _) fun h => h⟩)
            rcases hq u (by simp) with h | h
            · rw [hS] at h; cases h
            · obtain ⟨a, b, c⟩ := hZ _ h
              exact absurd (tp.2 fun v hv => (c v hv).imp (gS1 _) fun h => h) (by simp)
theorem tryF_TS {g : G} (hin : ∀ e : Int, ∀ u ∈ jn g e, 0 ≤ u ∧ u < g.uses.length) : ∀ (n : Nat) (e : Int) (s : MS), 0 ≤ e → s.1.length = g.uses.length → s.2.length = g.uses.length → TS g e (jn g e) n s (tryF g n e s)
  | 0, e, s, he, h1, h2 => ⟨h1, h2, Nat.le_refl _, fun _ h => h, fun _ => rfl, fun h => (by cases h), fun h => (by cases h), fun h => (by cases h), fun _ h => absurd h (Nat.not_lt_zero _),
      fun Z hZ => ⟨fun h => (by cases h), fun _ => rfl⟩⟩
  | n + 1, e, s, he, h1, h2 => by
    unfold tryF
    exact tryL_TS hin (fun e s he h1 h2 => tryF_TS hin n e s he h1 h2) he _ s (fun u h => h) h1 h2
end Go.Proofs.Ytgeeklnokblokaa
namespace Go.Proofs.Ytgeeklnokblokaa
open Go Go.Fw
/-- Joined, the equation not left out, the use not left out. -/
def Jg (g : G) (ne no : List Bool) : Rel2 := fun e u => e < g.eqs.length ∧ ne.getD e false = false ∧ no.getD u false = false ∧ (u : Int) ∈ jn g e
structure RI (g : G) (no : List Bool) (dn : Nat → Prop) (m : List Int) (c : Int) (Z : Nat → Prop) : Prop where
  lm : m.length = g.uses.length
  shut : ∀ u, u < g.uses.length → no.getD u false = true → m.getD u 0 < 0
  gd : Gd g m no
  done : ∀ u, u < g.uses.length → 0 ≤ m.getD u 0 → dn (m.getD u 0).toNat
  z : ∀ u, Z u → u < g.uses.length ∧ 0 ≤ m.getD u 0 ∧ ∀ v ∈ jn g (m.getD u 0), no.getD v.toNat false = true ∨ Z v.toNat
  cov : ∀ e : Nat, dn e → (∃ u, u < g.uses.length ∧ m.getD u 0 = e) ∨ ∀ v ∈ jn g e, no.getD v.toNat false = true ∨ Z v.toNat
  cnt : c = nonneg m
theorem unseen_le2 (l : List Bool) : unseen l ≤ l.length := List.countP_le_length
theorem run_inv {g : G} (hin : ∀ e : Int, ∀ u ∈ jn g e, 0 ≤ u ∧ u < g.uses.length) (no : List Bool) (hno : no.length = g.uses.length) : ∀ (l : List Nat) (m : List Int) (c : Int) (dn Z : Nat → Prop),
    RI g no dn m c Z → l.Nodup → (∀ e ∈ l, ¬ dn e) → ∃ Z', RI g no (fun e => dn e ∨ e ∈ l) (runF g no l (m, c)).1 (runF g no l (m, c)).2 Z'
  | [], m, c, dn, Z, h, _, _ => ⟨Z, by simpa [runF] using h⟩
  | e :: r, m, c, dn, Z, h, hnd, hnew => by
    rw [List.nodup_cons] at hnd
    have he : ¬ dn e := hnew e (by simp)
    have T := tryF_TS hin (no.length + 1) e (m, no) (by omega) h.lm hno
    unfold runF
    generalize tryF g (no.length + 1) e (m, no) = b at T
    obtain ⟨b1, m', S'⟩ := b
    have fin : ∀ {m' c' Z'}, RI g no (fun x => dn x ∨ x = e) m' c' Z' → ∃ Z', RI g no (fun x => dn x ∨ x ∈ e :: r) (runF g no r (m', c')).1 (runF g no r (m', c')).2 Z' := by
      intro m' c' Z' h'
      obtain ⟨Z2, h2⟩ := run_inv hin no hno r m' c' _ Z' h' hnd.2 (fun x hx h3 => by
        rcases h3 with h3 | rfl
        · exact hnew x (by simp [hx]) h3
        · exact hnd.1 hx)
      have e2 : (fun x => (dn x ∨ x = e) ∨ x ∈ r) = (fun x => dn x ∨ x ∈ e :: r) := by
        funext x
        simp only [List.mem_cons, or_assoc]
      rw [e2] at h2
      exact ⟨Z2, h2⟩
    cases b1 with
    | false =>
      simp only
      have hm := T.fail rfl
      simp only at hm
      subst hm
      obtain ⟨c1, c2⟩ := T.clos rfl (by have := unseen_le2 no; simp only; omega)
      simp only at c1 c2
      refine fin (Z' := fun u => Z u ∨ (u < g.uses.length ∧ S'.getD u false = true ∧ no.getD u false = false)) ⟨h.lm, h.shut, h.gd, fun u a b => .inl (h.done u a b), fun u hu => ?_, fun x hx => ?_, h.cnt⟩
      · have key : ∀ v : Int, 0 ≤ v ∧ v < g.uses.length → S'.getD v.toNat false = true → no.getD v.toNat false = true ∨ Z v.toNat ∨ (v.toNat < g.uses.length ∧ S'.getD v.toNat false = true ∧ no.getD v.toNat false = false) := fun v hv hs => by
          cases hn : no.getD v.toNat false with
          | true => exact .inl rfl
          | false => exact .inr (.inr ⟨by omega, hs, rfl⟩)
        rcases hu with hu | ⟨a, b, d⟩
        · obtain ⟨x1, x2, x3⟩ := h.z u hu
          exact ⟨x1, x2, fun v hv => (x3 v hv).imp (fun h => h) .inl⟩
        · obtain ⟨x1, x2⟩ := c2 u a b d
          exact ⟨a, x1, fun v hv => key v (hin _ v hv) (x2 v hv)⟩
      · rcases hx with hx | rfl
        · rcases h.cov x hx with h1 | h1
          · exact .inl h1
          · exact .inr fun v hv => (h1 v hv).imp (fun h => h) .inl
        · refine .inr fun v hv => ?_
          have hv2 := hin _ v hv
          cases hn : no.getD v.toNat false with
          | true => exact .inl rfl
          | false => exact .inr (.inr ⟨by omega, c1 v hv, rfl⟩)
    | true =>
      simp only
      have hne : ∀ u, u < g.uses.length → no.getD u false = false → m.getD u 0 ≠ (e : Int) := fun u a b d => he (by
        have := h.done u a (by omega)
        rwa [d, Int.toNat_natCast] at this)
      have w := T.won rfl h.gd hne
      have kp := T.keep rfl
      have one := T.one rfl
      obtain ⟨pr, _⟩ := T.prot Z h.z
      have pr := pr rfl
      simp only at w kp one pr
      have shut' : ∀ u, u < g.uses.length → 0 ≤ m'.getD u 0 → no.getD u false = false := fun u a b => by
        cases hn : no.getD u false with
        | false => rfl
        | true =>
          have := h.shut u a hn
          rw [kp u hn] at b
          omega
      have unshut : ∀ u, u < g.uses.length → 0 ≤ m.getD u 0 → no.getD u false = false := fun u a b => by
        cases hn : no.getD u false with
        | false => rfl
        | true =>
          have := h.shut u a hn
          omega
      refine fin (Z' := Z) ⟨T.lm, fun u a b => ?_, w.gd, fun u a b => ?_, fun u hu => ?_, fun x hx => ?_, ?_⟩
      · rw [kp u b]; exact h.shut u a b
      · rcases w.new u a (shut' u a b) b with h1 | ⟨v, v1, v2, v3⟩
        · exact .inr (by rw [h1]; simp)
        · exact .inl (by rw [← v3]; exact h.done v v1 (by rw [v3]; exact b))
      · obtain ⟨x1, x2, x3⟩ := h.z u hu
        rw [pr u hu]
        exact ⟨x1, x2, x3⟩
      · rcases hx with hx | rfl
        · rcases h.cov x hx with ⟨u, h1, h2⟩ | h1
          · obtain ⟨v, v1, _, v3⟩ := w.old u h1 (unshut u h1 (by omega)) (by omega)
            exact .inl ⟨v, v1, by rw [v3, h2]⟩
          · exact .inr h1
        · obtain ⟨u, h1, _, h2⟩ := w.has
          exact .inl ⟨u, h1, h2⟩
      · rw [h.cnt]; omega
theorem nonneg_range (m : List Int) : nonneg m = ((List.range m.length).filter fun u => decide (0 ≤ m.getD u 0)).length := by
  have e : m = (List.range m.length).map fun u => m.getD u 0 := by
    refine List.ext_getElem (by simp) fun i h1 h2 => ?_
    simp [List.getElem?_eq_getElem h1]
  unfold nonneg
  conv => lhs; rw [e]
  rw [List.countP_map, List.countP_eq_length_filter]
  rfl
theorem nodup_map_on {α β : Type} (f : α → β) : ∀ l : List α, l.Nodup → (∀ x ∈ l, ∀ y ∈ l, f x = f y → x = y) → (l.map f).Nodup
  | [], _, _ => by simp
  | a :: l, h, hf => by
    rw [List.nodup_cons] at h
    rw [List.map_cons, List.nodup_cons]
    refine ⟨fun hm => ?_, nodup_map_on f l h.2 fun x hx y hy => hf x (by simp [hx]) y (by simp [hy])⟩
    obtain ⟨y, hy, e⟩ := List.mem_map.1 hm
    have := hf y (by simp [hy]) a (by simp) e
    subst this
    exact h.1 hy
/-- The pairs of a matching as it is kept. -/
def prs (g : G) (m : List Int) : List (Nat × Nat) := ((List.range g.uses.length).filter fun u => decide (0 ≤ m.getD u 0)).map fun u => ((m.getD u 0).toNat, u)
theorem prs_mem (g : G) (m : List Int) (e u : Nat) : (e, u) ∈ prs g m ↔ u < g.uses.length ∧ m.getD u 0 = e := by
  unfold prs
  simp only [List.mem_map, List.mem_filter, List.mem_range, decide_eq_true_eq, Prod.mk.injEq]
  constructor
  · rintro ⟨v, ⟨h1, h2⟩, h3, rfl⟩
    exact ⟨h1, by omega⟩
  · rintro ⟨h1, h2⟩
    exact ⟨u, ⟨h1, by omega⟩, by omega, rfl⟩
open Classical in
theorem RI.nu {g : G} {ne no : List Bool} {m : List Int} {c : Int} {Z : Nat → Prop} (h : RI g no (fun e => e < g.eqs.length ∧ ne.getD e false = false) m c Z) : Nu (Jg g ne no) (nonneg m) ∧ Mch (Jg g ne no) (prs g m) ∧ (prs g m).length = nonneg m := by
  have hlen : (prs g m).length = nonneg m := by rw [nonneg_range, h.lm]; simp [prs]
  have unshut : ∀ u, u < g.uses.length → 0 ≤ m.getD u 0 → no.getD u false = false := fun u a b => by
    cases hn : no.getD u false with
    | false => rfl
    | true =>
      have := h.shut u a hn
      omega
  have hm : Mch (Jg g ne no) (prs g m) := by
    refine ⟨?_, ?_, ?_⟩
    · unfold prs
      rw [List.map_map]
      refine nodup_map_on _ _ (List.nodup_range.sublist (List.filter_sublist ..)) fun x hx y hy e => ?_
      simp only [List.mem_filter, List.mem_range, decide_eq_true_eq] at hx hy
      simp only [Function.comp] at e
      exact h.gd.inj x y hx.1 hy.1 (unshut x hx.1 hx.2) (unshut y hy.1 hy.2) hx.2 (by omega)
    · unfold prs
      rw [List.map_map]
      have : (Prod.snd ∘ fun u : Nat => ((m.getD u 0).toNat, u)) = id := rfl
      rw [this, List.map_id]
      exact List.nodup_range.sublist (List.filter_sublist ..)
    · rintro ⟨e, u⟩ hx
      obtain ⟨h1, h2⟩ := (prs_mem g m e u).1 hx
      have h3 := h.done u h1 (by omega)
      have h4 := h.gd.edge u h1 (unshut u h1 (by omega)) (by omega)
      rw [h2] at h4
      have h5 : (m.getD u 0).toNat = e := by omega
      rw [h5] at h3
      exact ⟨h3.1, h3.2, unshut u h1 (by omega), h4⟩
  refine ⟨⟨⟨_, hm, hlen⟩, ?_⟩, hm, hlen⟩
  have hsp := filter_split (fun x : Nat × Nat => decide (Z x.2)) (prs g m)
  refine ⟨((prs g m).filter fun x => !decide (Z x.2)).map Prod.fst, ((prs g m).filter fun x => decide (Z x.2)).map Prod.snd, ?_, by simp only [List.length_map]; omega⟩
  rintro e u ⟨h1, h2, h3, h4⟩
  have inY : Z u → u ∈ ((prs g m).filter fun x => decide (Z x.2)).map Prod.snd := fun hz => by
    obtain ⟨z1, z2, _⟩ := h.z u hz
    exact List.mem_map.2 ⟨((m.getD u 0).toNat, u), List.mem_filter.2 ⟨(prs_mem ..).2 ⟨z1, by omega⟩, by simpa using hz⟩, rfl⟩
  have hz : (no.getD (u : Int).toNat false = true ∨ Z (u : Int).toNat) → Z u := fun q => by
    rw [Int.toNat_natCast, h3] at q
    exact q.resolve_left (by simp)
  rcases h.cov e ⟨h1, h2⟩ with ⟨v, v1, v2⟩ | hc
  · by_cases hv : Z v
    · obtain ⟨_, _, z3⟩ := h.z v hv
      rw [v2] at z3
      exact .inr (inY (hz (z3 u h4)))
    · exact .inl (List.mem_map.2 ⟨(e, v), List.mem_filter.2 ⟨(prs_mem ..).2 ⟨v1, v2⟩, by simpa using hv⟩, rfl⟩)
  · exact .inr (inY (hz (hc u h4)))
theorem wf_in {g : G} (hg : WF g) : ∀ e : Int, ∀ u ∈ jn g e, 0 ≤ u ∧ u < g.uses.length := by
  intro e u hu
  unfold jn at hu
  by_cases h : e.toNat < g.joined.length
  · rw [getD_lt _ _ _ h] at hu
    exact hg.in_ _ (List.getElem_mem h) u hu
  · rw [List.getD_eq_getElem?_getD, List.getElem?_eq_none (by omega)] at hu
    simp at hu
theorem run_nu (g : G) (hg : WF g) (ne no : List Bool) (hno : no.length = g.uses.length) : ∃ m Z, RI g no (fun e => e < g.eqs.length ∧ ne.getD e false = false) m (sizeF g ne no) Z ∧
    m = (runF g no ((List.range' 0 g.eqs.length).filter fun e => !ne.getD e false) (List.replicate g.uses.length (-1), 0)).1 := by
  have h0 : RI g no (fun _ => False) (List.replicate g.uses.length (-1)) 0 (fun _ => False) := by
    have hm : ∀ u, u < g.uses.length → (List.replicate g.uses.length (-1 : Int)).getD u 0 = -1 := fun u h => by simp [List.getD_eq_getElem?_getD, List.getElem?_replicate, h]
    refine ⟨by simp, fun u a _ => by rw [hm u a]; decide, ⟨fun u a _ b => ?_, fun u v a _ _ _ b => ?_⟩, fun u a b => ?_, fun u h => h.elim, fun e h => h.elim, ?_⟩
    · rw [hm u a] at b; omega
    · rw [hm u a] at b; omega
    · rw [hm u a] at b; omega
    · simp [nonneg, List.countP_replicate]
  obtain ⟨Z, h⟩ := run_inv (wf_in hg) no hno ((List.range' 0 g.eqs.length).filter fun e => !ne.getD e false) _ 0 _ _ h0 ((List.nodup_range').sublist (List.filter_sublist ..)) (fun e _ h => h)
  have e2 : (fun e => False ∨ e ∈ (List.range' 0 g.eqs.length).filter fun e => !ne.getD e false) = (fun e => e < g.eqs.length ∧ ne.getD e false = false) := by
    funext e
    simp [List.mem_range'_1]
  have hs := run_size g ne no hno 0 (List.range' 0 g.eqs.length) (List.replicate g.uses.length (-1), 0) (List.replicate g.uses.length (-1), 0) rfl (fun _ _ => rfl) rfl
  rw [e2] at h
  rw [Int.add_zero] at hs
  rw [hs] at h
  exact ⟨_, Z, h, rfl⟩
/-- The document's size is the greatest number of pairs. -/
theorem size_nu (g : G) (hg : WF g) (ne no : List Bool) (hno : no.length = g.uses.length) : ∃ k, Nu (Jg g ne no) k ∧ sizeF g ne no = k := by
  obtain ⟨m, Z, h, _⟩ := run_nu g hg ne no hno
  exact ⟨nonneg m, h.nu.1, h.cnt⟩
end Go.Proofs.Ytgeeklnokblokaa
namespace Go.Proofs.Ytgeeklnokblokaa
open Go Go.Fw
/-! ### A depth-first search marks just what can be reached -/
def dfsL (rec : Int → List Bool → List Bool) : List Int → List Bool → List Bool
  | [], s => s
  | x :: r, s => dfsL rec r (rec x s)
def dfs (succ : Int → List Int) : Nat → Int → List Bool → List Bool
  | 0, _, s => s
  | n + 1, x, s => match s.getD x.toNat false with
    | true => s
    | false => dfsL (dfs succ n) (succ x) (s.set x.toNat true)
def dfsA (f : Int → List Bool → List Bool) : Nat → List Int → List Bool → List Bool
  | _, [], s => s
  | e, u :: r, s => match decide (u < 0) with
    | true => dfsA f (e + 1) r (f e s)
    | false => dfsA f (e + 1) r s
structure Dfs (succ : Int → List Int) (P : Int → Prop) (l : List Int) (s s' : List Bool) : Prop where
  len : s'.length = s.length
  un : unseen s' ≤ unseen s
  grow : ∀ i, s.getD i false = true → s'.getD i false = true
  all : ∀ x ∈ l, s'.getD x.toNat false = true
  only : ∀ i : Nat, s'.getD i false = true → s.getD i false = true ∨ P i
  clos : ∀ y, P y → s'.getD y.toNat false = true → s.getD y.toNat false = true ∨ ∀ z ∈ succ y, s'.getD z.toNat false = true
theorem Dfs.refl (succ : Int → List Int) (P : Int → Prop) (s : List Bool) : Dfs succ P [] s s := ⟨rfl, Nat.le_refl _, fun _ h => h, fun _ h => absurd h (by simp), fun _ h => .inl h, fun _ _ h => .inl h⟩
theorem Dfs.trans {succ : Int → List Int} {P : Int → Prop} {l l' : List Int} {s s' s'' : List Bool} (h : Dfs succ P l s s') (h' : Dfs succ P l' s' s'') : Dfs succ P (l ++ l') s s'' :=
  ⟨h'.len.trans h.len, Nat.le_trans h'.un h.un, fun i q => h'.grow i (h.grow i q), fun x hx => (List.mem_append.1 hx).elim (fun q => h'.grow _ (h.all x q)) (h'.all x),
    fun i q => (h'.only i q).elim (h.only i) .inr, fun y hy q => (h'.clos y hy q).elim (fun q2 => (h.clos y hy q2).imp (fun q => q) fun q3 z hz => h'.grow _ (q3 z hz)) .inr⟩
theorem dfsL_sp {succ : Int → List Int} {P : Int → Prop} {rec : Int → List Bool → List Bool} {N n : Nat} (hrec : ∀ x s, P x → s.length = N → unseen s < n → Dfs succ P [x] s (rec x s)) :
    ∀ (l : List Int) (s : List Bool), (∀ x ∈ l, P x) → s.length = N → unseen s < n → Dfs succ P l s (dfsL rec l s)
  | [], s, _, _, _ => Dfs.refl ..
  | x :: r, s, hl, hs, hn => by
    have h1 := hrec x s (hl x (by simp)) hs hn
    have h2 := dfsL_sp hrec r (rec x s) (fun y hy => hl y (by simp [hy])) (h1.len.trans hs) (Nat.lt_of_le_of_lt h1.un hn)
    exact h1.trans h2
theorem dfs_sp {succ : Int → List Int} {P : Int → Prop} {N : Nat} (hin : ∀ x, P x → 0 ≤ x ∧ x < N) (hgo : ∀ x, P x → ∀ y ∈ succ x, P y) : ∀ (n : Nat) (x : Int) (s : List Bool), P x → s.length = N → unseen s < n → Dfs succ P [x] s (dfs succ n x s)
  | 0, x, s, _, _, h => absurd h (Nat.not_lt_zero _)
  | n + 1, x, s, hx, hs, hn => by
    have hxn := hin x hx
    have hxx : ((x.toNat : Nat) : Int) = x := by omega
    unfold dfs
    cases hb : s.getD x.toNat false with
    | true => exact ⟨rfl, Nat.le_refl _, fun _ h => h, fun y hy => by
        have : y = x := by simpa using hy
        subst this; exact hb, fun _ h => .inl h, fun _ _ h => .inl h⟩
    | false =>
      simp only
      have hu := unseen_set (l := s) (i := x.toNat) (by omega) hb
      have h := dfsL_sp (n := n) (fun y s hy h1 h2 => dfs_sp hin hgo n y s hy h1 h2) (succ x) (s.set x.toNat true) (hgo x hx) (by simpa using hs) (by omega)
      have gS : ∀ i, (s.set x.toNat true).getD i false = if x.toNat = i then true else s.getD i false := fun i => by
        rw [getD_setL]
        by_cases q : x.toNat = i
        · rw [if_pos ⟨q, by omega⟩, if_pos q]
        · rw [if_neg (fun h => q h.1), if_neg q]
      refine ⟨by simpa using h.len, by have := h.un; omega, fun i q => h.grow i (by rw [gS, q]; simp), fun y hy => ?_, fun i q => ?_, fun y hy q => ?_⟩
      · have : y = x := by simpa using hy
        subst this
        exact h.grow _ (by rw [gS, if_pos rfl])
      · rcases h.only i q with q2 | q2
        · rw [gS] at q2
          by_cases q3 : x.toNat = i
          · right; rw [← q3, hxx]; exact hx
          · rw [if_neg q3] at q2; exact .inl q2
        · exact .inr q2
      · rcases h.clos y hy q with q2 | q2
        · rw [gS] at q2
          by_cases q3 : x.toNat = y.toNat
          · have : y = x := by have := hin y hy; omega
            subst this
            exact .inr h.all
          · rw [if_neg q3] at q2; exact .inl q2
        · exact .inr q2
/-- From all starts: what is marked is just what can be reached. -/
theorem dfsA_sp {succ : Int → List Int} {P : Int → Prop} {N : Nat} (hin : ∀ x, P x → 0 ≤ x ∧ x < N) (hgo : ∀ x, P x → ∀ y ∈ succ x, P y) : ∀ (l : List Int) (e : Nat) (s : List Bool), s.length = N →
    (∀ i (h : i < l.length), l[i] < 0 → P ((e + i : Nat) : Int)) → (∀ y, P y → s.getD y.toNat false = true → ∀ z ∈ succ y, s.getD z.toNat false = true) → (∀ i : Nat, s.getD i false = true → P i) →
    (dfsA (dfs succ (N + 1)) e l s).length = N ∧ (∀ i, s.getD i false = true → (dfsA (dfs succ (N + 1)) e l s).getD i false = true) ∧ (∀ i (h : i < l.length), l[i] < 0 → (dfsA (dfs succ (N + 1)) e l s).getD (e + i) false = true) ∧
    (∀ y, P y → (dfsA (dfs succ (N + 1)) e l s).getD y.toNat false = true → ∀ z ∈ succ y, (dfsA (dfs succ (N + 1)) e l s).getD z.toNat false = true) ∧ (∀ i : Nat, (dfsA (dfs succ (N + 1)) e l s).getD i false = true → P i)
  | [], e, s, hs, _, hc, ho => ⟨hs, fun _ h => h, fun i h => absurd h (by simp), hc, ho⟩
  | u :: r, e, s, hs, hst, hc, ho => by
    have hst' : ∀ i (h : i < r.length), r[i] < 0 → P ((e + 1 + i : Nat) : Int) := fun i h q => by
      have := hst (i + 1) (by simpa using h) (by simpa using q)
      rwa [show e + (i + 1) = e + 1 + i by omega] at this
    unfold dfsA
    cases hd : decide (u < 0) with
    | false =>
      obtain ⟨a, b, c, d, f⟩ := dfsA_sp hin hgo r (e + 1) s hs hst' hc ho
      refine ⟨a, b, fun i h q => ?_, d, f⟩
      cases i with
      | zero => exact absurd (show u < 0 from q) (of_decide_eq_false hd)
      | succ i =>
        have := c i (by simpa using h) (by simpa using q)
        rwa [show e + 1 + i = e + (i + 1) by omega] at this
    | true =>
      have hP : P (e : Int) := hst 0 (by simp) (of_decide_eq_true hd)
      have hun : unseen s < N + 1 := by have := unseen_le2 s; omega
      have h := dfs_sp hin hgo (N + 1) e s hP hs hun
      obtain ⟨a, b, c, d, f⟩ := dfsA_sp hin hgo r (e + 1) (dfs succ (N + 1) e s) (h.len.trans hs) hst' (fun y hy q => (h.clos y hy q).elim (fun q2 z hz => h.grow _ (hc y hy q2 z hz)) fun q => q) (fun i q => (h.only i q).elim (ho i) fun q => q)
      refine ⟨a, fun i q => b i (h.grow i q), fun i hi q => ?_, d, f⟩
      cases i with
      | zero =>
        have := h.all e (by simp)
        rw [Int.toNat_natCast] at this
        exact b e this
      | succ i =>
        have := c i (by simpa using hi) (by simpa using q)
        rwa [show e + 1 + i = e + (i + 1) by omega] at this
theorem overF_dfs (g : G) (m : List Int) : ∀ (n : Nat) (e : Int) (s : List Bool), overF g m n e s = dfs (fun e => (jn g e).map fun u => m.getD u.toNat 0) n e s := by
  have hL : ∀ (rec rec' : Int → List Bool → List Bool), (∀ e s, rec e s = rec' e s) → ∀ (l : List Int) (s : List Bool), overL rec m l s = dfsL rec' (l.map fun u => m.getD u.toNat 0) s := by
    intro rec rec' hr l
    induction l with
    | nil => intro s; rfl
    | cons u r ih => intro s; unfold overL; rw [ih, hr]; rfl
  intro n
  induction n with
  | zero => intro e s; rfl
  | succ n ih =>
    intro e s
    unfold overF dfs
    cases s.getD e.toNat false with
    | true => rfl
    | false => exact hL _ _ ih _ _
def underS (of : List Int) (u : Int) : Nat → List (List Int) → List Int
  | _, [] => []
  | e, l :: r => if u ∈ l then of.getD e 0 :: underS of u (e + 1) r else underS of u (e + 1) r
theorem underF_dfs (g : G) (of : List Int) : ∀ (n : Nat) (u : Int) (s : List Bool), underF g of n u s = dfs (fun u => underS of u 0 g.joined) n u s := by
  have hL : ∀ (rec rec' : Int → List Bool → List Bool), (∀ e s, rec e s = rec' e s) → ∀ (u : Int) (l : List (List Int)) (e : Nat) (s : List Bool), underL rec of u e l s = dfsL rec' (underS of u e l) s := by
    intro rec rec' hr u l
    induction l with
    | nil => intro e s; rfl
    | cons x r ih =>
      intro e s
      unfold underL underS
      by_cases h : u ∈ x
      · rw [decide_eq_true h, if_pos h]
        simp only
        rw [ih, hr]; rfl
      · rw [decide_eq_false h, if_neg h]
        exact ih _ _
  intro n
  induction n with
  | zero => intro e s; rfl
  | succ n ih =>
    intro u s
    unfold underF dfs
    cases s.getD u.toNat false with
    | true => rfl
    | false => exact hL _ _ ih _ _ _ _
theorem overA_dfs (g : G) (m : List Int) : ∀ (l : List Int) (e : Nat) (s : List Bool), overA g m e l s = dfsA (dfs (fun e => (jn g e).map fun u => m.getD u.toNat 0) (g.eqs.length + 1)) e l s
  | [], e, s => rfl
  | u :: r, e, s => by unfold overA dfsA; rw [overF_dfs, overA_dfs g m r, overA_dfs g m r]; rfl
theorem underA_dfs (g : G) (of : List Int) : ∀ (l : List Int) (e : Nat) (s : List Bool), underA g of e l s = dfsA (dfs (fun u => underS of u 0 g.joined) (g.uses.length + 1)) e l s
  | [], e, s => rfl
  | u :: r, e, s => by unfold underA dfsA; rw [underF_dfs, underA_dfs g of r, underA_dfs g of r]; rfl
theorem underS_mem (of : List Int) (u : Int) : ∀ (l : List (List Int)) (e : Nat) (y : Int), y ∈ underS of u e l ↔ ∃ i, ∃ h : i < l.length, u ∈ l[i] ∧ y = of.getD (e + i) 0
  | [], e, y => by simp [underS]
  | x :: r, e, y => by
    have ih := underS_mem of u r (e + 1) y
    have key : (∃ i, ∃ h : i < (x :: r).length, u ∈ (x :: r)[i] ∧ y = of.getD (e + i) 0) ↔ (u ∈ x ∧ y = of.getD e 0) ∨ ∃ i, ∃ h : i < r.length, u ∈ r[i] ∧ y = of.getD (e + 1 + i) 0 := by
      constructor
      · rintro ⟨i, h, h1, h2⟩
        cases i with
        | zero => exact .inl ⟨h1, h2⟩
        | succ i => exact .inr ⟨i, by simpa using h, by simpa using h1, by rw [h2]; congr 1; omega⟩
      · rintro (⟨h1, h2⟩ | ⟨i, h, h1, h2⟩)
        · exact ⟨0, by simp, h1, h2⟩
        · exact ⟨i + 1, by simpa using h, by simpa using h1, by rw [h2]; congr 1; omega⟩
    rw [key, ← ih]
    have e1 : underS of u e (x :: r) = if u ∈ x then of.getD e 0 :: underS of u (e + 1) r else underS of u (e + 1) r := rfl
    rw [e1]
    by_cases h : u ∈ x
    · simp [h]
    · simp [h]
theorem ofF_sp : ∀ (l : List Int) (u : Nat) (s : List Int) (i : Nat), i < s.length → (∃ j, ∃ h : j < l.length, l[j] = i ∧ (ofF u l s).getD i 0 = ((u + j : Nat) : Int)) ∨ ((∀ j (h : j < l.length), l[j] ≠ i) ∧ (ofF u l s).getD i 0 = s.getD i 0)
  | [], u, s, i, _ => .inr ⟨fun j h => absurd h (by simp), rfl⟩
  | e :: r, u, s, i, hi => by
    unfold ofF
    by_cases h : 0 ≤ e
    · rw [decide_eq_true h]
      simp only
      rcases ofF_sp r (u + 1) (s.set e.toNat u) i (by simpa using hi) with ⟨j, hj, h1, h2⟩ | ⟨h1, h2⟩
      · exact .inl ⟨j + 1, by simpa using hj, by simpa using h1, by rw [h2]; congr 1; omega⟩
      · by_cases q : e = i
        · refine .inl ⟨0, by simp, q, ?_⟩
          rw [h2, getD_setL, if_pos ⟨by omega, by omega⟩]; rfl
        · refine .inr ⟨fun j hj => ?_, ?_⟩
          · cases j with
            | zero => exact q
            | succ j => simpa using h1 j (by simpa using hj)
          · rw [h2, getD_setL, if_neg (fun h => by omega)]
    · rw [decide_eq_false h]
      simp only
      rcases ofF_sp r (u + 1) s i hi with ⟨j, hj, h1, h2⟩ | ⟨h1, h2⟩
      · exact .inl ⟨j + 1, by simpa using hj, by simpa using h1, by rw [h2]; congr 1; omega⟩
      · refine .inr ⟨fun j hj => ?_, h2⟩
        cases j with
        | zero => show e ≠ i; omega
        | succ j => simpa using h1 j (by simpa using hj)
/-! ### The greatest matching of a graph -/
def Jz (g : G) : Rel2 := Jg g (fe g) (fu g)
theorem Jz_iff (g : G) (e u : Nat) : Jz g e u ↔ e < g.eqs.length ∧ (u : Int) ∈ jn g e := by
  have e1 : (fe g).getD e false = false := getD_rep' _ _ _
  have e2 : (fu g).getD u false = false := getD_rep' _ _ _
  unfold Jz Jg
  rw [e1, e2]
  simp
theorem Jz_bound {g : G} (hg : WF g) (e u : Nat) (h : Jz g e u) : e < g.eqs.length ∧ u < g.uses.length := by
  obtain ⟨h1, h2⟩ := (Jz_iff g e u).1 h
  exact ⟨h1, by have := wf_in hg e u h2; omega⟩
def pz (g : G) : List (Nat × Nat) := prs g (mF g)
structure Gr (g : G) (k : Nat) : Prop where
  nu : Nu (Jz g) k
  m : Mch (Jz g) (pz g)
  l : (pz g).length = k
  lm : (mF g).length = g.uses.length
  size : SizeF g = k
  le : ∀ x ∈ mF g, x < g.eqs.length
theorem gr (g : G) (hg : WF g) : ∃ k, Gr g k := by
  obtain ⟨m, Z, h, hm⟩ := run_nu g hg (fe g) (fu g) (by simp [fu])
  have e1 : (List.range' 0 g.eqs.length).filter (fun e => !(fe g).getD e false) = List.range' 0 g.eqs.length := List.filter_eq_self.2 fun e _ => by unfold fe; rw [getD_rep']; rfl
  have e2 : m = mF g := by
    rw [hm, e1]
    unfold mF greatestF
    simp only [fixF, startF, List.length_nil, Nat.sub_zero]
    rfl
  have hn := h.nu
  have hd := h.done
  have hl := h.lm
  rw [e2] at hn hd hl
  refine ⟨nonneg (mF g), hn.1, hn.2.1, hn.2.2, hl, ?_, fun x hx => ?_⟩
  · have := h.cnt; rw [e2] at this; exact this
  · obtain ⟨i, hi, rfl⟩ := List.getElem_of_mem hx
    by_cases q : 0 ≤ (mF g)[i]
    · have := (hd i (by omega) (by rw [getD_lt _ _ _ hi]; exact q)).1
      rw [getD_lt _ _ _ hi] at this
      omega
    · omega
section
variable {g : G} {k : Nat}
theorem pz_mem (e u : Nat) : (e, u) ∈ pz g ↔ u < g.uses.length ∧ (mF g).getD u 0 = e := prs_mem ..
theorem Gr.of (h : Gr g k) {e : Nat} (he : e < g.eqs.length) : (∃ u, (e, u) ∈ pz g ∧ (ofM g).getD e 0 = u) ∨ ((∀ u, (e, u) ∉ pz g) ∧ (ofM g).getD e 0 = -1) := by
  have hs : (List.replicate g.eqs.length (-1 : Int)).length = g.eqs.length := by simp
  rcases ofF_sp (mF g) 0 (List.replicate g.eqs.length (-1)) e (by rw [hs]; exact he) with ⟨j, hj, h1, h2⟩ | ⟨h1, h2⟩
  · refine .inl ⟨j, (pz_mem e j).2 ⟨by rw [← h.lm]; exact hj, by rw [getD_lt _ _ _ hj]; exact h1⟩, ?_⟩
    unfold ofM
    rw [h2]; simp
  · refine .inr ⟨fun u hu => ?_, ?_⟩
    · obtain ⟨a, b⟩ := (pz_mem e u).1 hu
      have ha : u < (mF g).length := by rw [h.lm]; exact a
      rw [getD_lt _ _ _ ha] at b
      exact h1 u ha b
    · unfold ofM
      rw [h2]
      simp [List.getD_eq_getElem?_getD, List.getElem?_replicate, he]
theorem pz_uniq {h : Gr g k} {e u v : Nat} (h1 : (e, u) ∈ pz g) (h2 : (e, v) ∈ pz g) : u = v := by
  have := Mch.tight.inj_snd (p := swapP (pz g)) (by rw [swap_snd]; exact h.m.l) ((swap_mem _ u e).2 h1) ((swap_mem _ v e).2 h2) rfl
  exact congrArg Prod.fst this
/-- The equations that can be reached, the uses that can be reached. -/
def PE (g : G) (x : Int) : Prop := 0 ≤ x ∧ Rch (Jz g) g.eqs.length (pz g) x.toNat
def PU (g : G) (x : Int) : Prop := 0 ≤ x ∧ Rch (flip2 (Jz g)) g.uses.length (swapP (pz g)) x.toNat
theorem rch_lt {J : Rel2} {n : Nat} {p : List (Nat × Nat)} (hb : ∀ x ∈ p, x.1 < n) {e : Nat} (h : Rch J n p e) : e < n := by
  cases h with
  | start _ h _ => exact h
  | step _ _ _ _ _ h => exact hb _ h
theorem Gr.inE (h : Gr g k) (x : Int) (hx : PE g x) : 0 ≤ x ∧ x < g.eqs.length := ⟨hx.1, by
  have := rch_lt (fun y hy => ((Jz_iff g y.1 y.2).1 (h.m.j y hy)).1) hx.2
  omega⟩
theorem Gr.inU (hg : WF g) (h : Gr g k) (x : Int) (hx : PU g x) : 0 ≤ x ∧ x < g.uses.length := ⟨hx.1, by
  have := rch_lt (fun y hy => (Jz_bound hg y.2 y.1 (h.m.flip.j y hy)).2) hx.2
  omega⟩
theorem Gr.goE (hg : WF g) (h : Gr g k) (x : Int) (hx : PE g x) : ∀ y ∈ (jn g x).map (fun u => (mF g).getD u.toNat 0), PE g y := by
  intro y hy
  obtain ⟨u, hu, rfl⟩ := List.mem_map.1 hy
  have hxn := h.inE x hx
  have hu2 := wf_in hg x u hu
  obtain ⟨e', h1, h2⟩ := hx.2.met (u := u.toNat) h.nu h.m h.l ((Jz_iff ..).2 ⟨by omega, by rw [show ((x.toNat : Nat) : Int) = x by omega, show ((u.toNat : Nat) : Int) = u by omega]; exact hu⟩)
  obtain ⟨_, h3⟩ := (pz_mem e' u.toNat).1 h1
  rw [h3]
  exact ⟨by omega, by rw [Int.toNat_natCast]; exact h2⟩
theorem Gr.goU (hg : WF g) (h : Gr g k) (x : Int) (hx : PU g x) : ∀ y ∈ underS (ofM g) x 0 g.joined, PU g y := by
  intro y hy
  obtain ⟨i, hi, h1, rfl⟩ := (underS_mem ..).1 hy
  have hie : i < g.eqs.length := by rw [← hg.len]; exact hi
  have hxn := h.inU hg x hx
  have hj : Jz g i x.toNat := (Jz_iff ..).2 ⟨hie, by
    rw [show ((x.toNat : Nat) : Int) = x by omega]
    unfold jn
    rw [Int.toNat_natCast, getD_lt _ _ _ hi]; exact h1⟩
  obtain ⟨v, h2, h3⟩ := hx.2.met h.nu.flip h.m.flip (by rw [swap_len]; exact h.l) (u := i) hj
  have h4 := (swap_mem _ v i).1 h2
  rcases h.of hie with ⟨u, h5, h6⟩ | ⟨h5, _⟩
  · have := pz_uniq (h := h) h4 h5
    subst this
    rw [Nat.zero_add, h6]
    exact ⟨by omega, by rw [Int.toNat_natCast]; exact h3⟩
  · exact absurd h4 (h5 v)
theorem Gr.stE (h : Gr g k) (i : Nat) (hi : i < (ofM g).length) (hn : (ofM g)[i] < 0) : PE g ((0 + i : Nat) : Int) := by
  have hl : (ofM g).length = g.eqs.length := by unfold ofM; rw [ofF_len]; simp
  have hie : i < g.eqs.length := by omega
  rw [Nat.zero_add]
  refine ⟨by omega, ?_⟩
  rw [Int.toNat_natCast]
  rcases h.of hie with ⟨u, _, h2⟩ | ⟨h1, _⟩
  · rw [getD_lt _ _ _ hi] at h2; omega
  · exact .start i hie h1
theorem Gr.stU (h : Gr g k) (i : Nat) (hi : i < (mF g).length) (hn : (mF g)[i] < 0) : PU g ((0 + i : Nat) : Int) := by
  rw [Nat.zero_add]
  refine ⟨by omega, ?_⟩
  rw [Int.toNat_natCast]
  refine .start i (by rw [← h.lm]; exact hi) fun e he => ?_
  have := ((pz_mem e i).1 ((swap_mem _ i e).1 he)).2
  rw [getD_lt _ _ _ hi] at this
  omega
theorem halv_of (hg : WF g) : Halv g := by
  obtain ⟨k, h⟩ := gr g hg
  refine ⟨PE g, PU g, ⟨h.inE, fun e he u hu => h.goE hg e he _ (List.mem_map.2 ⟨u, hu, rfl⟩)⟩, fun i hi hn => ?_, ⟨h.inU hg, fun u hu i hi hm => h.goU hg u hu _ ((underS_mem ..).2 ⟨i, hi, hm, by rw [Nat.zero_add]⟩)⟩, fun i hi hn => ?_⟩
  · have := h.stE i hi hn; rwa [Nat.zero_add] at this
  · have := h.stU i hi hn; rwa [Nat.zero_add] at this
theorem halves_E (hg : WF g) (h : Gr g k) (i : Nat) (hi : i < g.eqs.length) : (halvesF g).1.getD i false = true ↔ Rch (Jz g) g.eqs.length (pz g) i := by
  have hr : ∀ i, (List.replicate g.eqs.length false).getD i false = true → False := fun i h => by rw [getD_rep'] at h; cases h
  obtain ⟨a, b, c, d, f⟩ := dfsA_sp (N := g.eqs.length) h.inE (h.goE hg) (ofM g) 0 (List.replicate g.eqs.length false) (by simp) h.stE (fun y _ q => (hr _ q).elim) (fun i q => (hr _ q).elim)
  have hh : (halvesF g).1 = dfsA (dfs (fun e => (jn g e).map fun u => (mF g).getD u.toNat 0) (g.eqs.length + 1)) 0 (ofM g) (List.replicate g.eqs.length false) := overA_dfs ..
  rw [← hh] at a b c d f
  constructor
  · intro q
    have := (f i q).2
    rwa [Int.toNat_natCast] at this
  · intro q
    clear hi
    induction q with
    | start e he hn =>
      have hl : (ofM g).length = g.eqs.length := by unfold ofM; rw [ofF_len]; simp
      have := c e (by omega) (by
        rcases h.of he with ⟨u, h1, _⟩ | ⟨_, h2⟩
        · exact absurd h1 (hn u)
        · rw [getD_lt _ _ _ (by omega)] at h2; omega)
      rwa [Nat.zero_add] at this
    | step e u e' hR hj hp ih =>
      have := d (e : Int) ⟨by omega, by rw [Int.toNat_natCast]; exact hR⟩ (by rw [Int.toNat_natCast]; exact ih) e' (List.mem_map.2 ⟨u, ((Jz_iff ..).1 hj).2, by rw [Int.toNat_natCast]; exact ((pz_mem ..).1 hp).2⟩)
      rwa [Int.toNat_natCast] at this
theorem halves_U (hg : WF g) (h : Gr g k) (i : Nat) (hi : i < g.uses.length) : (halvesF g).2.getD i false = true ↔ Rch (flip2 (Jz g)) g.uses.length (swapP (pz g)) i := by
  have hr : ∀ i, (List.replicate g.uses.length false).getD i false = true → False := fun i h => by rw [getD_rep'] at h; cases h
  obtain ⟨a, b, c, d, f⟩ := dfsA_sp (N := g.uses.length) (h.inU hg) (h.goU hg) (mF g) 0 (List.replicate g.uses.length false) (by simp) h.stU (fun y _ q => (hr _ q).elim) (fun i q => (hr _ q).elim)
  have hh : (halvesF g).2 = dfsA (dfs (fun u => underS (ofM g) u 0 g.joined) (g.uses.length + 1)) 0 (mF g) (List.replicate g.uses.length false) := underA_dfs ..
  rw [← hh] at a b c d f
  constructor
  · intro q
    have := (f i q).2
    rwa [Int.toNat_natCast] at this
  · intro q
    clear hi
    induction q with
    | start e he hn =>
      have hl := h.lm
      have := c e (by omega) (by
        refine Int.not_le.1 fun hle => ?_
        have hx : (((mF g)[e]).toNat, e) ∈ pz g := (pz_mem ..).2 ⟨he, by rw [getD_lt _ _ _ (by omega)]; omega⟩
        exact hn _ ((swap_mem ..).2 hx))
      rwa [Nat.zero_add] at this
    | step u e v hR hj hp ih =>
      have hje := (Jz_iff g e u).1 hj
      have hel : e < g.joined.length := by rw [hg.len]; exact hje.1
      have hm : (u : Int) ∈ g.joined[e] := by
        have := hje.2
        unfold jn at this
        rwa [Int.toNat_natCast, getD_lt _ _ _ hel] at this
      have hpv := (swap_mem _ v e).1 hp
      have hof : (ofM g).getD e 0 = v := by
        rcases h.of hje.1 with ⟨w, h1, h2⟩ | ⟨h1, _⟩
        · rw [h2, pz_uniq (h := h) h1 hpv]
        · exact absurd hpv (h1 v)
      have := d (u : Int) ⟨by omega, by rw [Int.toNat_natCast]; exact hR⟩ (by rw [Int.toNat_natCast]; exact ih) v ((underS_mem ..).2 ⟨e, hel, hm, by rw [Nat.zero_add, hof]⟩)
      rwa [Int.toNat_natCast] at this
theorem spare_E (hg : WF g) (h : Gr g k) (i : Nat) (hi : i < g.eqs.length) : spareE g i = true ↔ Rch (Jz g) g.eqs.length (pz g) i := by
  obtain ⟨k', h1, h2⟩ := size_nu g hg ((fe g).set i true) (fu g) (by simp [fu])
  have hJ : ∀ e u, Jg g ((fe g).set i true) (fu g) e u ↔ offE (Jz g) i e u := fun e u => by
    unfold offE Jz Jg
    rw [getD_setL]
    by_cases q : i = e
    · subst q
      rw [if_pos ⟨rfl, by simpa [fe] using hi⟩]
      simp
    · rw [if_neg (fun h => q h.1)]
      have : e ≠ i := fun h => q h.symm
      simp [this]
  rw [Rch.iff (fun e u hj => (Jz_bound hg e u hj).1) h.nu h.m h.l (h1.iff hJ) hi]
  unfold spareE
  rw [decide_eq_true_eq, h2, h.size]
  omega
theorem spare_U (hg : WF g) (h : Gr g k) (i : Nat) (hi : i < g.uses.length) : spareU g i = true ↔ Rch (flip2 (Jz g)) g.uses.length (swapP (pz g)) i := by
  obtain ⟨k', h1, h2⟩ := size_nu g hg (fe g) ((fu g).set i true) (by simp [fu])
  have hJ : ∀ u e, flip2 (Jg g (fe g) ((fu g).set i true)) u e ↔ offE (flip2 (Jz g)) i u e := fun u e => by
    unfold offE flip2 Jz Jg
    rw [getD_setL]
    by_cases q : i = u
    · subst q
      rw [if_pos ⟨rfl, by simpa [fu] using hi⟩]
      simp
    · rw [if_neg (fun h => q h.1)]
      have : u ≠ i := fun h => q h.symm
      simp [this]
  rw [Rch.iff (J := flip2 (Jz g)) (fun u e hj => (Jz_bound hg e u hj).2) h.nu.flip h.m.flip (by rw [swap_len]; exact h.l) (h1.flip.iff hJ) hi]
  unfold spareU
  rw [decide_eq_true_eq, h2, h.size]
  omega
end
/-- The program's halves are the document's. -/
theorem spare_halves (g : G) (hg : WF g) : spareF g = halvesF g := by
  obtain ⟨k, h⟩ := gr g hg
  have e1 : (spareF g).1 = (halvesF g).1 := by
    refine ext_getD (d := false) (by rw [spareF_len1, halvesF_len1]) fun i hi => ?_
    rw [spareF_len1] at hi
    have a := halves_E hg h i hi
    have b := spare_E hg h i hi
    have c : (spareF g).1.getD i false = spareE g i := by simp [spareF, hi]
    rw [c, Bool.eq_iff_iff, a, b]
  have e2 : (spareF g).2 = (halvesF g).2 := by
    refine ext_getD (d := false) (by rw [spareF_len2, halvesF_len2]) fun i hi => ?_
    rw [spareF_len2] at hi
    have a := halves_U hg h i hi
    have b := spare_U hg h i hi
    have c : (spareF g).2.getD i false = spareU g i := by simp [spareF, hi]
    rw [c, Bool.eq_iff_iff, a, b]
  exact Prod.ext e1 e2
theorem parts_eq (g : G) : partsF g = partsR g := by
  unfold partsF partsR
  cases h : decide (checkF g = 0) with
  | true => rw [spare_halves g (check_wf (of_decide_eq_true h)).1]
  | false => rfl
theorem cover_eq (g : G) : coverF g = coverR g := by
  unfold coverF coverR
  cases h : decide (checkF g = 0) with
  | true => rw [spare_halves g (check_wf (of_decide_eq_true h)).1]
  | false => rfl
/-! ### The culprit -/
theorem restF_getD (a b : List Bool) (i : Nat) : (restF a b).getD i false = (decide (i < a.length) && (!a.getD i false && !b.getD i false)) := by
  unfold restF
  by_cases h : i < a.length
  · simp [h]
  · simp [h, List.getD_eq_getElem?_getD, List.getElem?_eq_none (show (List.range a.length).length ≤ i by simp; omega)]
theorem onlyJ_bit : ∀ (l : List (List Int)) (b : List Bool) (i : Nat) (h : i < (onlyJ l b).length) (h' : i < b.length), ((onlyJ l b)[i]).2 = b[i]
  | [], b, i, h, _ => absurd h (by simp [onlyJ])
  | l :: r, [], i, _, h => absurd h (by simp)
  | l :: r, b :: s, 0, _, _ => rfl
  | l :: r, b :: s, i + 1, h, h' => by
    simp only [onlyJ, List.getElem_cons_succ]
    exact onlyJ_bit r s i (by simpa [onlyJ] using h) (by simpa using h')
theorem only_jn (g : G) (hg : WF g) (s : List Bool) (hs : s.length = g.eqs.length) (e : Nat) (he : e < g.eqs.length) (u : Int) : u ∈ jn (onlyF g s) e ↔ s.getD e false = true ∧ u ∈ jn g e := by
  have h1 : e < g.joined.length := by rw [hg.len]; exact he
  have h2 : e < (onlyJ g.joined s).length := by rw [onlyJ_len]; exact h1
  have h3 : e < (onlyF g s).joined.length := by simpa [onlyF] using h2
  unfold jn
  rw [Int.toNat_natCast, getD_lt _ _ _ h3, getD_lt _ _ _ h1, getD_lt _ _ _ (by omega)]
  simp only [onlyF, List.getElem_map]
  have a := onlyJ_get g.joined s e h1 h2
  have b := onlyJ_bit g.joined s e h2 (by omega)
  generalize (onlyJ g.joined s)[e] = x at a b
  obtain ⟨x1, x2⟩ := x
  simp only at a b
  subst a
  unfold cutJ
  cases x2 with
  | true => simp [← b]
  | false => simp [← b]
theorem only_given (g : G) (hg : WF g) (s : List Bool) (hs : s.length = g.eqs.length) : onlyT g s = givenF g s := by
  unfold onlyT givenF
  rw [greatest0_size]
  obtain ⟨k1, a1, b1⟩ := size_nu (onlyF g s) (only_wf hg s) (fe (onlyF g s)) (fu (onlyF g s)) (by simp [fu])
  obtain ⟨k2, a2, b2⟩ := size_nu g hg (restF s s) (fu g) (by simp [fu])
  have e : k1 = k2 := a1.congr a2 fun e u => by
    unfold Jg
    have e1 : (fe (onlyF g s)).getD e false = false := getD_rep' _ _ _
    have e2 : (fu (onlyF g s)).getD u false = false := getD_rep' _ _ _
    have e3 : (fu g).getD u false = false := getD_rep' _ _ _
    rw [e1, e2, e3, restF_getD]
    show (e < g.eqs.length ∧ _) ↔ _
    by_cases he : e < g.eqs.length
    · rw [only_jn g hg s hs e he]
      have : e < s.length := by omega
      simp [he, this]
    · simp [he]
  have h1 : SizeF (onlyF g s) = k1 := b1
  rw [h1, b2, e]
theorem culL_congr {T T' : List Bool → Bool} {N : Nat} (h : ∀ s, s.length = N → T s = T' s) : ∀ (n : Nat) (s : List Bool), s.length = N → culL T n s = culL T' n s
  | 0, s, _ => rfl
  | n + 1, s, hs => by
    unfold culL
    rw [h (s.set n false) (by simpa using hs), culL_congr h n s hs, culL_congr h n (s.set n false) (by simpa using hs)]
theorem cul_eq (g : G) : culF g = culR g := by
  unfold culF culR culG
  cases h : decide (checkF g = 0) with
  | true =>
    have hg := (check_wf (of_decide_eq_true h)).1
    simp only
    rw [spare_halves g hg, culL_congr (fun s hs => only_given g hg s hs) _ _ (halvesF_len1 g), halvesF_len1]
  | false => rfl
end Go.Proofs.Ytgeeklnokblokaa
namespace Go.Proofs.Ytgeeklnokblokaa
open Go Go.Fw
def Small (p : Pt) : Prop := p.eqs.length < 2^62 ∧ p.uses.length < 2^62
theorem pick_le {α : Type} (bs : List Bool) (xs : List α) : (pick bs xs).length ≤ xs.length := by
  unfold pick
  rw [List.length_map]
  refine Nat.le_trans (List.length_filter_le ..) ?_
  rw [List.length_zip]
  exact Nat.min_le_right ..
theorem small_part {g : G} (h : checkF g = 0) (a b : List Bool) : Small (partF g a b) := by
  obtain ⟨_, _, h1, h2⟩ := check_wf h
  have a1 := pick_le a g.eqs
  have a2 := pick_le b g.uses
  exact ⟨by show (pick a g.eqs).length < _; omega, by show (pick b g.uses).length < _; omega⟩
theorem small_no : Small noP := ⟨by decide, by decide⟩
theorem partsR_small (g : G) : Small (partsR g).1 ∧ Small (partsR g).2.1 ∧ Small (partsR g).2.2.1 := by
  unfold partsR
  cases h : decide (checkF g = 0) with
  | true => have h := of_decide_eq_true h; exact ⟨small_part h .., small_part h .., small_part h ..⟩
  | false => exact ⟨small_no, small_no, small_no⟩
theorem coverR_small (g : G) : Small (coverR g).1 := by
  unfold coverR
  cases h : decide (checkF g = 0) with
  | true => exact small_part (of_decide_eq_true h) ..
  | false => exact small_no
theorem culR_small (g : G) : Small (culR g).1 := by
  unfold culR culG
  cases h : decide (checkF g = 0) with
  | true =>
    simp only
    split
    · exact small_no
    · exact small_part (of_decide_eq_true h) ..
  | false => exact small_no
theorem SamePart_sm (a : Pt) (h : Small a) : PureCall Try.prog 33 [encP a, encP a] (encB true) := SamePart_eq a h.1 h.2
theorem halv (g : G) (h : checkF g = 0) : Halv g := halv_of (check_wf h).1
set_option maxHeartbeats 4000000 in
set_option maxRecDepth 100000 in
theorem MatchParts_ok (g : G) (hz : Sz g) : PureCall Try.prog 8 [encG g] (encB true) := by
  refine pure_cp (E := E 0) T_ok (D_ok 0) [] Try.func8 rfl (by rfl) (Nat.le_of_ble_eq_true rfl) ?_
  ((conv => whnf); repeat ((first | refine Sw.o ?_ | refine B0 ?_); conv => whnf))
  (repeat ((first | refine N0 ?_ | refine A0 fun γ => ?_ | refine C1 ?_ | refine C2 ?_ | refine C3 ?_ | refine C4 ?_ | refine C5 ?_ | refine C6 ?_ | refine C7 ?_ | refine D0 fun γs => ?_ | refine A1 fun γs => ?_ | refine N2 ?_ | refine N3 ?_ | refine N1 ?_); ((conv => whnf); repeat ((first | refine Sw.o ?_ | refine B0 ?_); conv => whnf))))
  refine CallP.flat [] _ c10 (Great_ok g) rfl ?_
  ((conv => whnf); repeat ((first | refine Sw.o ?_ | refine B0 ?_); conv => whnf))
  (repeat ((first | refine N0 ?_ | refine A0 fun γ => ?_ | refine C1 ?_ | refine C2 ?_ | refine C3 ?_ | refine C4 ?_ | refine C5 ?_ | refine C6 ?_ | refine C7 ?_ | refine D0 fun γs => ?_ | refine A1 fun γs => ?_ | refine N2 ?_ | refine N3 ?_ | refine N1 ?_); ((conv => whnf); repeat ((first | refine Sw.o ?_ | refine B0 ?_); conv => whnf))))
  refine CondP.dec (fun h => ?_) (fun h => ?_) <;> ((conv => whnf); repeat ((first | refine Sw.o ?_ | refine B0 ?_); conv => whnf))
  · (repeat ((first | refine N0 ?_ | refine A0 fun γ => ?_ | refine C1 ?_ | refine C2 ?_ | refine C3 ?_ | refine C4 ?_ | refine C5 ?_ | refine C6 ?_ | refine C7 ?_ | refine D0 fun γs => ?_ | refine A1 fun γs => ?_ | refine N2 ?_ | refine N3 ?_ | refine N1 ?_); ((conv => whnf); repeat ((first | refine Sw.o ?_ | refine B0 ?_); conv => whnf))))
    refine CallP.flat [] _ c11 awake11_ok rfl ?_
    ((conv => whnf); repeat ((first | refine Sw.o ?_ | refine B0 ?_); conv => whnf))
    (repeat ((first | refine N0 ?_ | refine A0 fun γ => ?_ | refine C1 ?_ | refine C2 ?_ | refine C3 ?_ | refine C4 ?_ | refine C5 ?_ | refine C6 ?_ | refine C7 ?_ | refine D0 fun γs => ?_ | refine A1 fun γs => ?_ | refine N2 ?_ | refine N3 ?_ | refine N1 ?_); ((conv => whnf); repeat ((first | refine Sw.o ?_ | refine B0 ?_); conv => whnf))))
    exact .of rfl
  · (repeat ((first | refine N0 ?_ | refine A0 fun γ => ?_ | refine C1 ?_ | refine C2 ?_ | refine C3 ?_ | refine C4 ?_ | refine C5 ?_ | refine C6 ?_ | refine C7 ?_ | refine D0 fun γs => ?_ | refine A1 fun γs => ?_ | refine N2 ?_ | refine N3 ?_ | refine N1 ?_); ((conv => whnf); repeat ((first | refine Sw.o ?_ | refine B0 ?_); conv => whnf))))
    refine CallP.pure [] _ c21 (parts21_ok g hz (halv g)) ?_
    ((conv => whnf); repeat ((first | refine Sw.o ?_ | refine B0 ?_); conv => whnf))
    (repeat ((first | refine N0 ?_ | refine A0 fun γ => ?_ | refine C1 ?_ | refine C2 ?_ | refine C3 ?_ | refine C4 ?_ | refine C5 ?_ | refine C6 ?_ | refine C7 ?_ | refine D0 fun γs => ?_ | refine A1 fun γs => ?_ | refine N2 ?_ | refine N3 ?_ | refine N1 ?_); ((conv => whnf); repeat ((first | refine Sw.o ?_ | refine B0 ?_); conv => whnf))))
    refine CallP.pure [] _ c29 (parts29_ok g hz) ?_
    ((conv => whnf); repeat ((first | refine Sw.o ?_ | refine B0 ?_); conv => whnf))
    (repeat ((first | refine N0 ?_ | refine A0 fun γ => ?_ | refine C1 ?_ | refine C2 ?_ | refine C3 ?_ | refine C4 ?_ | refine C5 ?_ | refine C6 ?_ | refine C7 ?_ | refine D0 fun γs => ?_ | refine A1 fun γs => ?_ | refine N2 ?_ | refine N3 ?_ | refine N1 ?_); ((conv => whnf); repeat ((first | refine Sw.o ?_ | refine B0 ?_); conv => whnf))))
    refine CallP.pure [] _ c27 (culprit27_ok g hz (halv g)) ?_
    ((conv => whnf); repeat ((first | refine Sw.o ?_ | refine B0 ?_); conv => whnf))
    (repeat ((first | refine N0 ?_ | refine A0 fun γ => ?_ | refine C1 ?_ | refine C2 ?_ | refine C3 ?_ | refine C4 ?_ | refine C5 ?_ | refine C6 ?_ | refine C7 ?_ | refine D0 fun γs => ?_ | refine A1 fun γs => ?_ | refine N2 ?_ | refine N3 ?_ | refine N1 ?_); ((conv => whnf); repeat ((first | refine Sw.o ?_ | refine B0 ?_); conv => whnf))))
    refine CallP.pure [] _ c30 (culprit30_ok g hz) ?_
    ((conv => whnf); repeat ((first | refine Sw.o ?_ | refine B0 ?_); conv => whnf))
    (repeat ((first | refine N0 ?_ | refine A0 fun γ => ?_ | refine C1 ?_ | refine C2 ?_ | refine C3 ?_ | refine C4 ?_ | refine C5 ?_ | refine C6 ?_ | refine C7 ?_ | refine D0 fun γs => ?_ | refine A1 fun γs => ?_ | refine N2 ?_ | refine N3 ?_ | refine N1 ?_); ((conv => whnf); repeat ((first | refine Sw.o ?_ | refine B0 ?_); conv => whnf))))
    refine CallP.pure [] _ c31 (cover31_ok g hz (halv g)) ?_
    ((conv => whnf); repeat ((first | refine Sw.o ?_ | refine B0 ?_); conv => whnf))
    (repeat ((first | refine N0 ?_ | refine A0 fun γ => ?_ | refine C1 ?_ | refine C2 ?_ | refine C3 ?_ | refine C4 ?_ | refine C5 ?_ | refine C6 ?_ | refine C7 ?_ | refine D0 fun γs => ?_ | refine A1 fun γs => ?_ | refine N2 ?_ | refine N3 ?_ | refine N1 ?_); ((conv => whnf); repeat ((first | refine Sw.o ?_ | refine B0 ?_); conv => whnf))))
    refine CallP.pure [] _ c32 (cover32_ok g hz) ?_
    rw [parts_eq, cul_eq, cover_eq]
    obtain ⟨s1, s2, s3⟩ := partsR_small g
    have s4 := culR_small g
    have s5 := coverR_small g
    generalize partsR g = A at s1 s2 s3 ⊢
    generalize culR g = B at s4 ⊢
    generalize coverR g = C at s5 ⊢
    have e1 : A.2.2.2 = A.2.2.2 := rfl
    have e2 : B.2 = B.2 := rfl
    have e3 : C.2 = C.2 := rfl
    ((conv => whnf); repeat ((first | refine Sw.o ?_ | refine B0 ?_); conv => whnf))
    (repeat ((first | refine N0 ?_ | refine A0 fun γ => ?_ | refine C1 ?_ | refine C2 ?_ | refine C3 ?_ | refine C4 ?_ | refine C5 ?_ | refine C6 ?_ | refine C7 ?_ | refine D0 fun γs => ?_ | refine A1 fun γs => ?_ | refine N2 ?_ | refine N3 ?_ | refine N1 ?_); ((conv => whnf); repeat ((first | refine Sw.o ?_ | refine B0 ?_); conv => whnf))))
    refine CallP.flat [] _ c33 (SamePart_sm A.1 s1) rfl ?_
    ((conv => whnf); repeat ((first | refine Sw.o ?_ | refine B0 ?_); conv => whnf))
    (repeat ((first | refine N0 ?_ | refine A0 fun γ => ?_ | refine C1 ?_ | refine C2 ?_ | refine C3 ?_ | refine C4 ?_ | refine C5 ?_ | refine C6 ?_ | refine C7 ?_ | refine D0 fun γs => ?_ | refine A1 fun γs => ?_ | refine N2 ?_ | refine N3 ?_ | refine N1 ?_); ((conv => whnf); repeat ((first | refine Sw.o ?_ | refine B0 ?_); conv => whnf))))
    refine CallP.flat [] _ c33 (SamePart_sm A.2.1 s2) rfl ?_
    ((conv => whnf); repeat ((first | refine Sw.o ?_ | refine B0 ?_); conv => whnf))
    (repeat ((first | refine N0 ?_ | refine A0 fun γ => ?_ | refine C1 ?_ | refine C2 ?_ | refine C3 ?_ | refine C4 ?_ | refine C5 ?_ | refine C6 ?_ | refine C7 ?_ | refine D0 fun γs => ?_ | refine A1 fun γs => ?_ | refine N2 ?_ | refine N3 ?_ | refine N1 ?_); ((conv => whnf); repeat ((first | refine Sw.o ?_ | refine B0 ?_); conv => whnf))))
    refine CallP.flat [] _ c33 (SamePart_sm A.2.2.1 s3) rfl ?_
    ((conv => whnf); repeat ((first | refine Sw.o ?_ | refine B0 ?_); conv => whnf))
    (repeat ((first | refine N0 ?_ | refine A0 fun γ => ?_ | refine C1 ?_ | refine C2 ?_ | refine C3 ?_ | refine C4 ?_ | refine C5 ?_ | refine C6 ?_ | refine C7 ?_ | refine D0 fun γs => ?_ | refine A1 fun γs => ?_ | refine N2 ?_ | refine N3 ?_ | refine N1 ?_); ((conv => whnf); repeat ((first | refine Sw.o ?_ | refine B0 ?_); conv => whnf))))
    refine CallP.flat [] _ c33 (SamePart_sm B.1 s4) rfl ?_
    ((conv => whnf); repeat ((first | refine Sw.o ?_ | refine B0 ?_); conv => whnf))
    (repeat ((first | refine N0 ?_ | refine A0 fun γ => ?_ | refine C1 ?_ | refine C2 ?_ | refine C3 ?_ | refine C4 ?_ | refine C5 ?_ | refine C6 ?_ | refine C7 ?_ | refine D0 fun γs => ?_ | refine A1 fun γs => ?_ | refine N2 ?_ | refine N3 ?_ | refine N1 ?_); ((conv => whnf); repeat ((first | refine Sw.o ?_ | refine B0 ?_); conv => whnf))))
    refine CallP.flat [] _ c33 (SamePart_sm C.1 s5) rfl ?_
    ((conv => whnf); repeat ((first | refine Sw.o ?_ | refine B0 ?_); conv => whnf))
    (repeat ((first | refine N0 ?_ | refine A0 fun γ => ?_ | refine C1 ?_ | refine C2 ?_ | refine C3 ?_ | refine C4 ?_ | refine C5 ?_ | refine C6 ?_ | refine C7 ?_ | refine D0 fun γs => ?_ | refine A1 fun γs => ?_ | refine N2 ?_ | refine N3 ?_ | refine N1 ?_); ((conv => whnf); repeat ((first | refine Sw.o ?_ | refine B0 ?_); conv => whnf))))
    refine CallP.flat [] _ c11 awake11_ok rfl ?_
    ((conv => whnf); repeat ((first | refine Sw.o ?_ | refine B0 ?_); conv => whnf))
    (repeat ((first | refine N0 ?_ | refine A0 fun γ => ?_ | refine C1 ?_ | refine C2 ?_ | refine C3 ?_ | refine C4 ?_ | refine C5 ?_ | refine C6 ?_ | refine C7 ?_ | refine D0 fun γs => ?_ | refine A1 fun γs => ?_ | refine N2 ?_ | refine N3 ?_ | refine N1 ?_); ((conv => whnf); repeat ((first | refine Sw.o ?_ | refine B0 ?_); conv => whnf))))
    exact .of rfl
end Go.Proofs.Ytgeeklnokblokaa
namespace Go.Proofs.Ytgeeklnokblokaa
open Go Go.Fw
def RightP (g : G) : Prop := checkF g = 0 ∧ ¬ GreatP g
instance (g : G) : Decidable (RightP g) := by unfold RightP; infer_instance
set_option maxRecDepth 100000 in
theorem right_ok (g : G) (hz : Sz g) : PureCall Try.prog 20 [encG g] (encB (decide (RightP g))) := by
  refine pure_cp (E := E 0) T_ok (D_ok 0) [] Try.func20 rfl (by rfl) (Nat.le_of_ble_eq_true rfl) ?_
  ((conv => whnf); repeat ((first | refine Sw.o ?_ | refine B0 ?_); conv => whnf))
  (repeat ((first | refine N0 ?_ | refine A0 fun γ => ?_ | refine C1 ?_ | refine C2 ?_ | refine C3 ?_ | refine C4 ?_ | refine C5 ?_ | refine C6 ?_ | refine C7 ?_ | refine D0 fun γs => ?_ | refine A1 fun γs => ?_ | refine N2 ?_ | refine N3 ?_ | refine N1 ?_); ((conv => whnf); repeat ((first | refine Sw.o ?_ | refine B0 ?_); conv => whnf))))
  refine CallP.flat [] (encI (checkF g)) c37 (check37_ok g hz) rfl ?_
  ((conv => whnf); repeat ((first | refine Sw.o ?_ | refine B0 ?_); conv => whnf))
  (repeat ((first | refine N0 ?_ | refine A0 fun γ => ?_ | refine C1 ?_ | refine C2 ?_ | refine C3 ?_ | refine C4 ?_ | refine C5 ?_ | refine C6 ?_ | refine C7 ?_ | refine D0 fun γs => ?_ | refine A1 fun γs => ?_ | refine N2 ?_ | refine N3 ?_ | refine N1 ?_); ((conv => whnf); repeat ((first | refine Sw.o ?_ | refine B0 ?_); conv => whnf))))
  refine CondP.dec (fun h => ?_) (fun h => ?_) <;> ((conv => whnf); repeat ((first | refine Sw.o ?_ | refine B0 ?_); conv => whnf))
  · (repeat ((first | refine N0 ?_ | refine A0 fun γ => ?_ | refine C1 ?_ | refine C2 ?_ | refine C3 ?_ | refine C4 ?_ | refine C5 ?_ | refine C6 ?_ | refine C7 ?_ | refine D0 fun γs => ?_ | refine A1 fun γs => ?_ | refine N2 ?_ | refine N3 ?_ | refine N1 ?_); ((conv => whnf); repeat ((first | refine Sw.o ?_ | refine B0 ?_); conv => whnf))))
    refine CallP.flat [] _ c10 (Great_ok g) rfl ?_
    ((conv => whnf); repeat ((first | refine Sw.o ?_ | refine B0 ?_); conv => whnf))
    (repeat ((first | refine N0 ?_ | refine A0 fun γ => ?_ | refine C1 ?_ | refine C2 ?_ | refine C3 ?_ | refine C4 ?_ | refine C5 ?_ | refine C6 ?_ | refine C7 ?_ | refine D0 fun γs => ?_ | refine A1 fun γs => ?_ | refine N2 ?_ | refine N3 ?_ | refine N1 ?_); ((conv => whnf); repeat ((first | refine Sw.o ?_ | refine B0 ?_); conv => whnf))))
    have q : decide (RightP g) = !decide (GreatP g) := by
      unfold RightP
      by_cases h1 : GreatP g <;> simp [h, h1]
    exact .of (by rw [q]; rfl)
  · (repeat ((first | refine N0 ?_ | refine A0 fun γ => ?_ | refine C1 ?_ | refine C2 ?_ | refine C3 ?_ | refine C4 ?_ | refine C5 ?_ | refine C6 ?_ | refine C7 ?_ | refine D0 fun γs => ?_ | refine A1 fun γs => ?_ | refine N2 ?_ | refine N3 ?_ | refine N1 ?_); ((conv => whnf); repeat ((first | refine Sw.o ?_ | refine B0 ?_); conv => whnf))))
    have q : ¬ RightP g := fun q => h q.1
    exact .of (by rw [decide_eq_false q]; rfl)
/-- A list gives equations uses, each another one. -/
structure MOkL (g : G) (m : List Int) : Prop where
  len : m.length = g.eqs.length
  ok : ∀ e (h : e < m.length), m[e] = -1 ∨ (0 ≤ m[e] ∧ m[e] < g.uses.length ∧ m[e] ∈ jn g e)
  dist : ∀ e e' (h : e < m.length) (h' : e' < m.length), e < e' → 0 ≤ m[e] → m[e] ≠ m[e']
set_option maxHeartbeats 4000000 in
set_option maxRecDepth 100000 in
theorem matched_ok (g : G) (hg : WF g) (m : List Int) (hm : MOkL g m) : PureCall Try.prog 22 [encG g, encL m] (.tup [encI (nonneg m), encB true]) := by
  refine pure_cp (E := E 0) T_ok (D_ok 0) [] Try.func22 rfl (by rfl) (Nat.le_of_ble_eq_true rfl) ?_
  have su := hg.su
  have se := hg.se
  have hml := hm.len
  have hjl := hg.len
  have e1 : ((m.map encI).length : Int) = ((g.eqs.map encS).length : Int) := by simp [hml]
  ((conv => whnf); repeat ((first | refine Sw.o ?_ | refine B0 ?_); conv => whnf))
  (repeat ((first | refine N0 ?_ | refine A0 fun γ => ?_ | refine C1 ?_ | refine C2 ?_ | refine C3 ?_ | refine C4 ?_ | refine C5 ?_ | refine C6 ?_ | refine C7 ?_ | refine D0 fun γs => ?_ | refine A1 fun γs => ?_ | refine N2 ?_ | refine N3 ?_ | refine N1 ?_); ((conv => whnf); repeat ((first | refine Sw.o ?_ | refine B0 ?_); conv => whnf))))
  refine LoopP.intro (fun k σ H => ∃ p2 p12 e, ∃ t : List Bool, e ≤ m.length ∧ k = m.length - e ∧ t.length = g.uses.length ∧ (∀ u, t.getD u false = true → ∃ e', ∃ h : e' < m.length, e' < e ∧ m[e'] = (u : Int)) ∧
    σ = fr [(1, encL m), (2, .op 2 p2 0 0), (6, encI (nonneg (m.take e))), (7, .own 12 p12 0 g.uses.length), (8, encI e)] ∧ H = hp [(2, p2, ⟨26, 3, [encG g]⟩), (12, p12, ⟨4, 1, t.map encB⟩)]) ?_ ?_
  · have hz : ∀ u, (List.replicate g.uses.length false).getD u false = true → ∃ e', ∃ h : e' < m.length, e' < 0 ∧ m[e'] = (u : Int) := by
      intro u h
      rw [getD_rep'] at h
      cases h
    refine .intro <| W.of ⟨_, _, γ, 0, List.replicate g.uses.length false, Nat.zero_le _, rfl, by simp, hz, rfl, rfl⟩ ⟨rfl, rfl, rfl, ?_, rfl, trivial⟩ ⟨rfl, ?_, trivial⟩
    · show AV.own 12 γ 0 (((g.uses.map encU).length : Nat) : Int).toNat = _
      rw [Int.toNat_natCast, List.length_map]
    · show some (γ, (⟨4, 1, List.replicate (((g.uses.map encU).length : Nat) : Int).toNat (mkEl ⟨1, 1, [.bool false], .bool⟩)⟩ : Blk)) = _
      rw [Int.toNat_natCast, List.length_map, rep_encB]
  · rintro k σ H ⟨p2, p12, e, t, he, rfl, htl, ht, rfl, rfl⟩
    have hcnt : nonneg (m.take e) ≤ e := Nat.le_trans List.countP_le_length (by simp; omega)
    ((conv => whnf); repeat ((first | refine Sw.o ?_ | refine B0 ?_); conv => whnf))
    (repeat ((first | refine N0 ?_ | refine A0 fun γ => ?_ | refine C1 ?_ | refine C2 ?_ | refine C3 ?_ | refine C4 ?_ | refine C5 ?_ | refine C6 ?_ | refine C7 ?_ | refine D0 fun γs => ?_ | refine A1 fun γs => ?_ | refine N2 ?_ | refine N3 ?_ | refine N1 ?_); ((conv => whnf); repeat ((first | refine Sw.o ?_ | refine B0 ?_); conv => whnf))))
    refine CondP.dec (fun h => ?_) (fun h => ?_) <;> ((conv => whnf); repeat ((first | refine Sw.o ?_ | refine B0 ?_); conv => whnf))
    · (have h2 := h; try simp only [LN] at h2)
      (repeat ((first | refine N0 ?_ | refine A0 fun γ => ?_ | refine C1 ?_ | refine C2 ?_ | refine C3 ?_ | refine C4 ?_ | refine C5 ?_ | refine C6 ?_ | refine C7 ?_ | refine D0 fun γs => ?_ | refine A1 fun γs => ?_ | refine N2 ?_ | refine N3 ?_ | refine N1 ?_); ((conv => whnf); repeat ((first | refine Sw.o ?_ | refine B0 ?_); conv => whnf))))
      have hem : e < m.length := by omega
      (simp (disch := omega) only [LG]; ((conv => whnf); repeat ((first | refine Sw.o ?_ | refine B0 ?_); conv => whnf)))
      have hx := hm.ok e hem
      have htk : nonneg (m.take (e + 1)) = nonneg (m.take e) + (if 0 ≤ m[e] then 1 else 0) := by
        rw [List.take_succ_eq_append_getElem hem]
        have := nonneg_snoc (m.take e) m[e]
        by_cases q : 0 ≤ m[e]
        · rw [if_pos q] at this ⊢; omega
        · rw [if_neg q] at this ⊢; omega
      refine CondP.dec (fun h1 => ?_) (fun h1 => ?_) <;> ((conv => whnf); repeat ((first | refine Sw.o ?_ | refine B0 ?_); conv => whnf))
      · rw [h1] at htk
        (repeat ((first | refine N0 ?_ | refine A0 fun γ => ?_ | refine C1 ?_ | refine C2 ?_ | refine C3 ?_ | refine C4 ?_ | refine C5 ?_ | refine C6 ?_ | refine C7 ?_ | refine D0 fun γs => ?_ | refine A1 fun γs => ?_ | refine N2 ?_ | refine N3 ?_ | refine N1 ?_); ((conv => whnf); repeat ((first | refine Sw.o ?_ | refine B0 ?_); conv => whnf))))
        refine .intro <| W.of ⟨_, by omega, _, _, e + 1, t, hem, rfl, htl, fun u hu => ?_, rfl, rfl⟩ ⟨rfl, rfl, ?_, rfl, rfl, trivial⟩ ⟨rfl, rfl, trivial⟩
        · obtain ⟨e', a, b, c⟩ := ht u hu
          exact ⟨e', a, by omega, c⟩
        · rw [htk]; rfl
      · obtain ⟨h3, h4, h5⟩ := hx.resolve_left h1
        rw [if_pos h3] at htk
        have hxt : m[e].toNat < t.length := by omega
        have hfr : t[m[e].toNat] = false := by
          cases hb : t[m[e].toNat] with
          | false => rfl
          | true =>
            obtain ⟨e', a, b, c⟩ := ht m[e].toNat (by rw [getD_lt _ _ _ hxt]; exact hb)
            exact absurd (by rw [c]; omega) (hm.dist e' e a hem b (by rw [c]; omega))
        have hej : e < g.joined.length := by omega
        have hsl := hg.sl _ (List.getElem_mem hej)
        have hany : (g.joined[e].any fun x => decide (x = m[e])) = true := by
          refine List.any_eq_true.2 ⟨m[e], ?_, by simp⟩
          unfold jn at h5
          rwa [Int.toNat_natCast, getD_lt _ _ _ hej] at h5
        have hcall := lawJoined_ok g e m[e] hej (by omega)
        rw [hany] at hcall
        (repeat ((first | refine N0 ?_ | refine A0 fun γ => ?_ | with_reducible refine C1 ?_ | with_reducible refine C2 ?_ | with_reducible refine C3 ?_ | refine C8 ?_ | refine C9 ?_ | refine C6 ?_ | refine C7 ?_ | refine D0 fun γs => ?_ | refine A1 fun γs => ?_ | refine N2 ?_ | refine N3 ?_ | refine N1 ?_ | simp (disch := omega) only [LG]); ((conv => whnf); repeat ((first | refine Sw.o ?_ | refine B0 ?_); conv => whnf))))
        refine CallG.intro (encB true) c26 hcall ?_
        ((conv => whnf); repeat ((first | refine Sw.o ?_ | refine B0 ?_); conv => whnf))
        (repeat ((first | refine N0 ?_ | refine A0 fun γ => ?_ | with_reducible refine C1 ?_ | with_reducible refine C2 ?_ | with_reducible refine C3 ?_ | refine C8 ?_ | refine C9 ?_ | refine C6 ?_ | refine C7 ?_ | refine D0 fun γs => ?_ | refine A1 fun γs => ?_ | refine N2 ?_ | refine N3 ?_ | refine N1 ?_ | simp (disch := omega) only [LG]); ((conv => whnf); repeat ((first | refine Sw.o ?_ | refine B0 ?_); conv => whnf))))
        refine .intro <| W.of ⟨_, by omega, _, _, e + 1, t.set m[e].toNat true, hem, rfl, by simpa using htl, fun u hu => ?_, rfl, rfl⟩ ⟨rfl, rfl, ?_, rfl, rfl, trivial⟩ ⟨rfl, ?_, trivial⟩
        · rw [getD_setL] at hu
          by_cases q : m[e].toNat = u
          · exact ⟨e, hem, by omega, by omega⟩
          · rw [if_neg (fun h => q h.1)] at hu
            obtain ⟨e', a, b, c⟩ := ht u hu
            exact ⟨e', a, by omega, c⟩
        · rw [htk]; rfl
        · show some (_, (⟨4, 1, (t.map encB).set m[e].toNat (encB true)⟩ : Blk)) = _
          rw [set_map (x := true) (h := rfl)]
    · (have h2 := h; try simp only [LN] at h2)
      have hee : e = m.length := by omega
      subst hee
      rw [List.take_length] at hcnt ⊢
      (repeat ((first | refine N0 ?_ | refine A0 fun γ => ?_ | refine C1 ?_ | refine C2 ?_ | refine C3 ?_ | refine C4 ?_ | refine C5 ?_ | refine C6 ?_ | refine C7 ?_ | refine D0 fun γs => ?_ | refine A1 fun γs => ?_ | refine N2 ?_ | refine N3 ?_ | refine N1 ?_); ((conv => whnf); repeat ((first | refine Sw.o ?_ | refine B0 ?_); conv => whnf))))
      exact .of rfl
end Go.Proofs.Ytgeeklnokblokaa
namespace Go.Proofs.Ytgeeklnokblokaa
open Go Go.Fw
theorem cntT_range (l : List Bool) : cntT l = ((List.range l.length).filter fun i => l.getD i false).length := by
  have e : l = (List.range l.length).map fun i => l.getD i false := by
    refine List.ext_getElem (by simp) fun i h1 h2 => ?_
    simp [List.getElem?_eq_getElem h1]
  unfold cntT
  conv => lhs; rw [e]
  rw [List.countP_map, List.countP_eq_length_filter]
  rfl
theorem same_len {α : Type} {l l' : List α} (h : l.Nodup) (h' : l'.Nodup) (hm : ∀ x, x ∈ l ↔ x ∈ l') : l.length = l'.length :=
  Nat.le_antisymm (sub_len _ _ h fun x => (hm x).1) (sub_len _ _ h' fun x => (hm x).2)
theorem cntT_list {l : List Bool} {X : List Nat} (hX : X.Nodup) (hm : ∀ i, i ∈ X ↔ l.getD i false = true) : cntT l = X.length := by
  rw [cntT_range]
  refine same_len (List.nodup_range.sublist (List.filter_sublist ..)) hX fun i => ?_
  rw [hm, List.mem_filter, List.mem_range]
  constructor
  · exact fun h => h.2
  · intro h
    refine ⟨?_, h⟩
    refine Nat.lt_of_not_le fun hle => ?_
    rw [List.getD_eq_getElem?_getD, List.getElem?_eq_none hle] at h
    cases h
theorem orAt_fold (b : Bool) (u : Nat) : ∀ (l : List Int) (xs : List Bool), (∀ v ∈ l, 0 ≤ v ∧ v < xs.length) → (l.foldl (orAt b) xs).getD u false = (xs.getD u false || (b && decide ((u : Int) ∈ l))) ∧ (l.foldl (orAt b) xs).length = xs.length
  | [], xs, _ => by simp
  | v :: r, xs, h => by
    have hv := h v (by simp)
    have hlen : (orAt b xs v).length = xs.length := by simp [orAt]
    obtain ⟨h1, h2⟩ := orAt_fold b u r (orAt b xs v) (fun w hw => by rw [hlen]; exact h w (by simp [hw]))
    rw [List.foldl_cons, h1, h2, hlen]
    refine ⟨?_, rfl⟩
    have e1 : (orAt b xs v).getD u false = (xs.getD u false || (b && decide ((u : Int) = v))) := by
      unfold orAt
      rw [getD_setL]
      by_cases q : v.toNat = u
      · have : (u : Int) = v := by omega
        rw [if_pos ⟨q, by omega⟩, q, decide_eq_true this, Bool.and_true]
      · have : ¬ (u : Int) = v := by omega
        rw [if_neg (fun h => q h.1), decide_eq_false this]
        simp
    rw [e1]
    cases b <;> simp [Bool.or_assoc, List.mem_cons, Bool.decide_or]
theorem joined_fold (u : Nat) (N : Nat) : ∀ (ps : List (Bool × List Int)) (xs : List Bool), xs.length = N → (∀ p ∈ ps, ∀ v ∈ p.2, 0 ≤ v ∧ v < N) →
    (ps.foldl (fun xs p => p.2.foldl (orAt p.1) xs) xs).getD u false = (xs.getD u false || ps.any fun p => p.1 && decide ((u : Int) ∈ p.2))
  | [], xs, _, _ => by simp
  | p :: r, xs, hx, h => by
    obtain ⟨h1, h2⟩ := orAt_fold p.1 u p.2 xs (fun v hv => by rw [hx]; exact h p (by simp) v hv)
    rw [List.foldl_cons, joined_fold u N r _ (h2.trans hx) (fun q hq => h q (by simp [hq])), h1, List.any_cons, Bool.or_assoc]
theorem joinedF_get {g : G} (hg : WF g) (s : List Bool) (hs : s.length = g.eqs.length) (u : Nat) : (joinedF g s).getD u false = true ↔ ∃ e, e < g.eqs.length ∧ s.getD e false = true ∧ (u : Int) ∈ jn g e := by
  have hin : ∀ p ∈ s.zip g.joined, ∀ v ∈ p.2, 0 ≤ v ∧ v < g.uses.length := fun p hp v hv => hg.in_ p.2 (List.of_mem_zip (show (p.1, p.2) ∈ s.zip g.joined from hp)).2 v hv
  unfold joinedF
  rw [joined_fold u g.uses.length _ _ (by simp) hin, getD_rep', Bool.false_or, List.any_eq_true]
  constructor
  · rintro ⟨p, hp, hq⟩
    obtain ⟨i, hi, rfl⟩ := List.getElem_of_mem hp
    simp only [List.length_zip] at hi
    simp only [List.getElem_zip, Bool.and_eq_true, decide_eq_true_eq] at hq
    refine ⟨i, by omega, by rw [getD_lt _ _ _ (by omega)]; exact hq.1, ?_⟩
    unfold jn
    rw [Int.toNat_natCast, getD_lt _ _ _ (by omega)]
    exact hq.2
  · rintro ⟨e, he, h1, h2⟩
    have hje : e < g.joined.length := by rw [hg.len]; exact he
    refine ⟨(s.zip g.joined)[e]'(by simp only [List.length_zip]; omega), List.getElem_mem _, ?_⟩
    unfold jn at h2
    rw [Int.toNat_natCast, getD_lt _ _ _ hje] at h2
    rw [getD_lt _ _ _ (by omega)] at h1
    simp only [List.getElem_zip, Bool.and_eq_true, decide_eq_true_eq]
    exact ⟨h1, h2⟩
theorem touchF_get {g : G} (hg : WF g) (t : List Bool) (e : Nat) : (touchF g t).getD e false = true ↔ ∃ u : Nat, t.getD u false = true ∧ (u : Int) ∈ jn g e := by
  unfold touchF
  by_cases h : e < g.joined.length
  · rw [getD_lt _ _ _ (by simpa using h)]
    simp only [List.getElem_map, List.any_eq_true]
    unfold jn
    rw [Int.toNat_natCast, getD_lt _ _ _ h]
    constructor
    · rintro ⟨u, hu, ht⟩
      have := hg.in_ _ (List.getElem_mem h) u hu
      exact ⟨u.toNat, ht, by rw [show ((u.toNat : Nat) : Int) = u by omega]; exact hu⟩
    · rintro ⟨u, ht, hu⟩
      exact ⟨u, hu, by rw [Int.toNat_natCast]; exact ht⟩
  · rw [List.getD_eq_getElem?_getD, List.getElem?_eq_none (by simpa using h)]
    unfold jn
    rw [Int.toNat_natCast, List.getD_eq_getElem?_getD, List.getElem?_eq_none (by omega)]
    simp
open Classical in
/-- What is not reached, and what the reached is joined with, is as much as there are pairs. -/
theorem Rch.count {J : Rel2} {n k : Nat} {p : List (Nat × Nat)} (hb : ∀ e u, J e u → e < n) (hk : Nu J k) (hp : Mch J p) (hl : p.length = k) {a c : List Bool}
    (ha : ∀ e, a.getD e false = true ↔ e < n ∧ ¬ Rch J n p e) (hc : ∀ u, c.getD u false = true ↔ ∃ e, Rch J n p e ∧ J e u) : cntT a + cntT c = k := by
  have hsp := filter_split (fun x : Nat × Nat => decide (Rch J n p x.1)) p
  have h1 := cntT_list (l := a) (X := (p.filter fun x => !decide (Rch J n p x.1)).map Prod.fst) (hp.filter _).l fun e => by
    rw [ha]
    constructor
    · intro h
      obtain ⟨⟨x, y⟩, hx, rfl⟩ := List.mem_map.1 h
      obtain ⟨h1, h2⟩ := List.mem_filter.1 hx
      exact ⟨hb _ _ (hp.j _ h1), by simpa using h2⟩
    · rintro ⟨h1, h2⟩
      have : ∃ v, (e, v) ∈ p := Classical.byContradiction fun hc => h2 (.start e h1 fun v hv => hc ⟨v, hv⟩)
      obtain ⟨v, hv⟩ := this
      exact List.mem_map.2 ⟨(e, v), List.mem_filter.2 ⟨hv, by simpa using h2⟩, rfl⟩
  have h2 := cntT_list (l := c) (X := (p.filter fun x => decide (Rch J n p x.1)).map Prod.snd) (hp.filter _).r fun u => by
    rw [hc]
    constructor
    · intro h
      obtain ⟨⟨x, y⟩, hx, rfl⟩ := List.mem_map.1 h
      obtain ⟨h1, h2⟩ := List.mem_filter.1 hx
      exact ⟨x, by simpa using h2, hp.j _ h1⟩
    · rintro ⟨e, h1, h2⟩
      obtain ⟨e', h3, h4⟩ := h1.met hk hp hl h2
      exact List.mem_map.2 ⟨(e', u), List.mem_filter.2 ⟨h3, by simpa using h4⟩, rfl⟩
  rw [h1, h2, List.length_map, List.length_map]
  omega
theorem getD_ge {l : List Bool} {i : Nat} (h : l.getD i false = true) : i < l.length := Nat.lt_of_not_le fun hle => by
  rw [List.getD_eq_getElem?_getD, List.getElem?_eq_none hle] at h
  cases h
/-- The parts of a graph. -/
structure Pa (g : G) (k : Nat) : Prop where
  over : cntT (restF (halvesF g).1 (halvesF g).1) + cntT (joinedF g (halvesF g).1) = k
  under : cntT (restF (halvesF g).2 (halvesF g).2) + cntT (touchF g (halvesF g).2) = k
  le1 : k ≤ g.eqs.length
  le2 : k ≤ g.uses.length
  goE : ∀ e u : Nat, (halvesF g).1.getD e false = true → (u : Int) ∈ jn g e → (joinedF g (halvesF g).1).getD u false = true
  goU : ∀ e u : Nat, (halvesF g).2.getD u false = true → (u : Int) ∈ jn g e → (touchF g (halvesF g).2).getD e false = true
  noE : ∀ e : Nat, (halvesF g).1.getD e false = true → (touchF g (halvesF g).2).getD e false = true → False
  noU : ∀ u : Nat, (joinedF g (halvesF g).1).getD u false = true → (halvesF g).2.getD u false = true → False
  none1 : k = g.eqs.length → ∀ e : Nat, (halvesF g).1.getD e false = false
  none2 : k = g.uses.length → ∀ u : Nat, (halvesF g).2.getD u false = false
theorem lt_len {g : G} {k : Nat} (hg : WF g) (h : Gr g k) : k ≤ g.eqs.length ∧ k ≤ g.uses.length := by
  have h1 := sub_len ((pz g).map Prod.fst) (List.range g.eqs.length) h.m.l fun x hx => by
    obtain ⟨y, hy, rfl⟩ := List.mem_map.1 hx
    exact List.mem_range.2 (Jz_bound hg _ _ (h.m.j y hy)).1
  have h2 := sub_len ((pz g).map Prod.snd) (List.range g.uses.length) h.m.r fun x hx => by
    obtain ⟨y, hy, rfl⟩ := List.mem_map.1 hx
    exact List.mem_range.2 (Jz_bound hg _ _ (h.m.j y hy)).2
  simp only [List.length_map, List.length_range, h.l] at h1 h2
  exact ⟨h1, h2⟩
theorem pa {g : G} {k : Nat} (hg : WF g) (h : Gr g k) : Pa g k := by
  have l1 := halvesF_len1 g
  have l2 := halvesF_len2 g
  have hE : ∀ e, (halvesF g).1.getD e false = true ↔ e < g.eqs.length ∧ Rch (Jz g) g.eqs.length (pz g) e := fun e => by
    constructor
    · intro q
      have he : e < g.eqs.length := by rw [← l1]; exact getD_ge q
      exact ⟨he, (halves_E hg h e he).1 q⟩
    · rintro ⟨he, q⟩; exact (halves_E hg h e he).2 q
  have hU : ∀ u, (halvesF g).2.getD u false = true ↔ u < g.uses.length ∧ Rch (flip2 (Jz g)) g.uses.length (swapP (pz g)) u := fun u => by
    constructor
    · intro q
      have he : u < g.uses.length := by rw [← l2]; exact getD_ge q
      exact ⟨he, (halves_U hg h u he).1 q⟩
    · rintro ⟨he, q⟩; exact (halves_U hg h u he).2 q
  have hC : ∀ u, (joinedF g (halvesF g).1).getD u false = true ↔ ∃ e, Rch (Jz g) g.eqs.length (pz g) e ∧ Jz g e u := fun u => by
    rw [joinedF_get hg _ l1]
    constructor
    · rintro ⟨e, he, h1, h2⟩; exact ⟨e, ((hE e).1 h1).2, (Jz_iff ..).2 ⟨he, h2⟩⟩
    · rintro ⟨e, h1, h2⟩
      have := (Jz_iff ..).1 h2
      exact ⟨e, this.1, (hE e).2 ⟨this.1, h1⟩, this.2⟩
  have hD : ∀ e, (touchF g (halvesF g).2).getD e false = true ↔ ∃ u, Rch (flip2 (Jz g)) g.uses.length (swapP (pz g)) u ∧ flip2 (Jz g) u e := fun e => by
    constructor
    · intro q
      have he : e < g.eqs.length := by rw [← hg.len, ← touchF_len g (halvesF g).2]; exact getD_ge q
      obtain ⟨u, h1, h2⟩ := (touchF_get hg _ e).1 q
      exact ⟨u, ((hU u).1 h1).2, (Jz_iff g e u).2 ⟨he, h2⟩⟩
    · rintro ⟨u, h1, h2⟩
      have h3 := Jz_bound hg e u h2
      exact (touchF_get hg _ e).2 ⟨u, (hU u).2 ⟨h3.2, h1⟩, ((Jz_iff g e u).1 h2).2⟩
  have bE : ∀ e u, Jz g e u → e < g.eqs.length := fun e u q => (Jz_bound hg e u q).1
  have bU : ∀ u e, flip2 (Jz g) u e → u < g.uses.length := fun u e q => (Jz_bound hg e u q).2
  have rE : ∀ e, (restF (halvesF g).1 (halvesF g).1).getD e false = true ↔ e < g.eqs.length ∧ ¬ Rch (Jz g) g.eqs.length (pz g) e := fun e => by
    rw [restF_getD, l1]
    by_cases he : e < g.eqs.length
    · have := hE e
      cases hb : (halvesF g).1.getD e false with
      | true => simp [he, ((hE e).1 hb).2]
      | false =>
        have : ¬ Rch (Jz g) g.eqs.length (pz g) e := fun q => by rw [(hE e).2 ⟨he, q⟩] at hb; cases hb
        simp [he, this]
    · simp [he]
  have rU : ∀ u, (restF (halvesF g).2 (halvesF g).2).getD u false = true ↔ u < g.uses.length ∧ ¬ Rch (flip2 (Jz g)) g.uses.length (swapP (pz g)) u := fun u => by
    rw [restF_getD, l2]
    by_cases he : u < g.uses.length
    · cases hb : (halvesF g).2.getD u false with
      | true => simp [he, ((hU u).1 hb).2]
      | false =>
        have : ¬ Rch (flip2 (Jz g)) g.uses.length (swapP (pz g)) u := fun q => by rw [(hU u).2 ⟨he, q⟩] at hb; cases hb
        simp [he, this]
    · simp [he]
  obtain ⟨k1, k2⟩ := lt_len hg h
  have hsl : (swapP (pz g)).length = k := by rw [swap_len]; exact h.l
  have hcv := Rch.cov bE h.nu h.m h.l
  have hfl : Cov (flip2 (Jz g)) (((pz g).filter fun x => @decide _ (Classical.propDecidable (Rch (Jz g) g.eqs.length (pz g) x.1))).map Prod.snd) (((pz g).filter fun x => !@decide _ (Classical.propDecidable (Rch (Jz g) g.eqs.length (pz g) x.1))).map Prod.fst) := fun u e hj => (hcv e u hj).symm
  have hsp := filter_split (fun x : Nat × Nat => @decide _ (Classical.propDecidable (Rch (Jz g) g.eqs.length (pz g) x.1))) (pz g)
  have hpl := h.l
  have hti := h.m.flip.tight hfl (by simp only [List.length_map]; rw [hsl, ← hpl, ← hsp]; exact Nat.le_refl _)
  have outU : ∀ u, Rch (flip2 (Jz g)) g.uses.length (swapP (pz g)) u → ∀ e, Rch (Jz g) g.eqs.length (pz g) e → Jz g e u → False := fun u hu e he hj => by
    have h1 := hu.out hfl hti
    obtain ⟨e', h2, h3⟩ := he.met h.nu h.m h.l hj
    exact h1 (List.mem_map.2 ⟨(e', u), List.mem_filter.2 ⟨h2, by simpa using h3⟩, rfl⟩)
  refine ⟨Rch.count bE h.nu h.m h.l rE hC, Rch.count bU h.nu.flip h.m.flip hsl rU hD, k1, k2, fun e u q1 q2 => (hC u).2 ⟨e, ((hE e).1 q1).2, (Jz_iff ..).2 ⟨((hE e).1 q1).1, q2⟩⟩,
    fun e u q1 q2 => (touchF_get hg _ e).2 ⟨u, q1, q2⟩, fun e q1 q2 => ?_, fun u q1 q2 => ?_, fun q e => ?_, fun q u => ?_⟩
  · obtain ⟨u, h1, h2⟩ := (hD e).1 q2
    exact outU u h1 e ((hE e).1 q1).2 h2
  · obtain ⟨e, h1, h2⟩ := (hC u).1 q1
    exact outU u ((hU u).1 q2).2 e h1 h2
  · cases hb : (halvesF g).1.getD e false with
    | false => rfl
    | true =>
      have hall := sub_all ((pz g).map Prod.fst) (List.range g.eqs.length) h.m.l (fun x hx => by
        obtain ⟨y, hy, rfl⟩ := List.mem_map.1 hx
        exact List.mem_range.2 (Jz_bound hg _ _ (h.m.j y hy)).1) (by simp [h.l, q])
      have : ∀ x, Rch (Jz g) g.eqs.length (pz g) x → False := fun x hx => by
        induction hx with
        | start x hx hn =>
          obtain ⟨⟨a, b⟩, h1, rfl⟩ := List.mem_map.1 (hall x (List.mem_range.2 hx))
          exact hn b h1
        | step _ _ _ _ _ _ ih => exact ih
      exact (this e ((hE e).1 hb).2).elim
  · cases hb : (halvesF g).2.getD u false with
    | false => rfl
    | true =>
      have hall := sub_all ((pz g).map Prod.snd) (List.range g.uses.length) h.m.r (fun x hx => by
        obtain ⟨y, hy, rfl⟩ := List.mem_map.1 hx
        exact List.mem_range.2 (Jz_bound hg _ _ (h.m.j y hy)).2) (by simp [h.l, q])
      have : ∀ x, Rch (flip2 (Jz g)) g.uses.length (swapP (pz g)) x → False := fun x hx => by
        induction hx with
        | start x hx hn =>
          obtain ⟨⟨a, b⟩, h1, rfl⟩ := List.mem_map.1 (hall x (List.mem_range.2 hx))
          exact hn a ((swap_mem ..).2 h1)
        | step _ _ _ _ _ _ ih => exact ih
      exact (this u ((hU u).1 hb).2).elim
/-! ### The list of Match -/
def neO (g : G) (n : Nat) : List Bool := (List.range g.eqs.length).map fun i => decide (i < n)
def noO (g : G) (out : List Int) : List Bool := (List.range g.uses.length).map fun (u : Nat) => decide ((u : Int) ∈ out)
theorem neO_get (g : G) (n i : Nat) (h : i < g.eqs.length) : (neO g n).getD i false = decide (i < n) := by simp [neO, h]
theorem noO_get (g : G) (out : List Int) (hu : ∀ u ∈ out, u < g.uses.length) (i : Nat) : (noO g out).getD i false = decide ((i : Int) ∈ out) := by
  by_cases h : i < g.uses.length
  · simp [noO, h]
  · have : ¬ (i : Int) ∈ out := fun q => by have := hu _ q; omega
    rw [decide_eq_false this]
    simp [noO, List.getD_eq_getElem?_getD, List.getElem?_eq_none, Nat.le_of_not_lt h]
def Jo (g : G) (out : List Int) : Rel2 := fun e u => e < g.eqs.length ∧ out.length ≤ e ∧ (u : Int) ∉ out ∧ (u : Int) ∈ jn g e
theorem out_nu {g : G} (hg : WF g) (out : List Int) (ho : out.length ≤ g.eqs.length) (hu : ∀ u ∈ out, u < g.uses.length) : ∃ k, Nu (Jo g out) k ∧ (greatestF g out).2 = k + nonneg out := by
  obtain ⟨k, h1, h2⟩ := size_nu g hg (neO g out.length) (noO g out) (by simp [noO])
  refine ⟨k, h1.iff fun e u => ?_, ?_⟩
  · unfold Jg Jo
    rw [noO_get g out hu]
    by_cases he : e < g.eqs.length
    · rw [neO_get g _ e he]
      simp [he]
    · simp [he]
  · rw [greatest_size g out ho hu (neO g out.length) (noO g out) (by simp [noO]) (fun i hi => neO_get g _ i hi) (noO_get g out hu), h2]
theorem matchL_sp (g : G) (most : Int) (out : List Int) : ∀ l : List Int, (matchL g most out l ∈ l ∧ matchL g most out l ∉ out ∧ (greatestF g (out ++ [matchL g most out l])).2 = most) ∨
    (matchL g most out l = -1 ∧ ∀ u ∈ l, u ∉ out → (greatestF g (out ++ [u])).2 ≠ most)
  | [] => .inr ⟨rfl, fun u h => absurd h (by simp)⟩
  | u :: r => by
    unfold matchL
    have ih := matchL_sp g most out r
    by_cases h : u ∈ out
    · rw [decide_eq_true h]
      simp only
      rcases ih with ⟨a, b, c⟩ | ⟨a, b⟩
      · exact .inl ⟨by simp [a], b, c⟩
      · refine .inr ⟨a, fun v hv hn => ?_⟩
        rcases List.mem_cons.1 hv with rfl | hv
        · exact absurd h hn
        · exact b v hv hn
    · rw [decide_eq_false h]
      simp only
      by_cases hm : (greatestF g (out ++ [u])).2 = most
      · rw [decide_eq_true hm]
        exact .inl ⟨by simp, h, hm⟩
      · rw [decide_eq_false hm]
        simp only
        rcases ih with ⟨a, b, c⟩ | ⟨a, b⟩
        · exact .inl ⟨by simp [a], b, c⟩
        · refine .inr ⟨a, fun v hv hn => ?_⟩
          rcases List.mem_cons.1 hv with rfl | hv
          · exact hm
          · exact b v hv hn
theorem erase_pair {J : Rel2} {p : List (Nat × Nat)} (hp : Mch J p) {e u : Nat} (h : (e, u) ∈ p) : ∃ p', Mch (fun a b => J a b ∧ a ≠ e ∧ b ≠ u) p' ∧ p'.length + 1 = p.length := by
  obtain ⟨s, t, rfl⟩ := List.append_of_mem h
  have h1 := hp.l
  have h2 := hp.r
  simp only [List.map_append, List.map_cons] at h1 h2
  have h3 := (List.perm_middle (a := e)).nodup_iff.1 h1
  have h4 := (List.perm_middle (a := u)).nodup_iff.1 h2
  rw [List.nodup_cons] at h3 h4
  refine ⟨s ++ t, ⟨by rw [List.map_append]; exact h3.2, by rw [List.map_append]; exact h4.2, fun x hx => ⟨hp.j x ?_, fun q => h3.1 ?_, fun q => h4.1 ?_⟩⟩, by simp; omega⟩
  · simp only [List.mem_append, List.mem_cons] at hx ⊢
    exact hx.imp (fun h => h) .inr
  · rw [← List.map_append, ← q]; exact List.mem_map.2 ⟨x, hx, rfl⟩
  · rw [← List.map_append, ← q]; exact List.mem_map.2 ⟨x, hx, rfl⟩
theorem match_step {g : G} (hg : WF g) (most : Int) (out : List Int) (ho : out.length < g.eqs.length) (hu : ∀ u ∈ out, u < g.uses.length) (hm : (greatestF g out).2 = most) :
    (greatestF g (out ++ [matchL g most out (jn g (out.length : Nat))])).2 = most := by
  rcases matchL_sp g most out (jn g (out.length : Nat)) with ⟨_, _, h⟩ | ⟨h, hall⟩
  · exact h
  · rw [h]
    have hin := wf_in hg (out.length : Nat)
    obtain ⟨k, n1, e1⟩ := out_nu hg out (Nat.le_of_lt ho) hu
    obtain ⟨k', n2, e2⟩ := out_nu hg (out ++ [-1]) (by simp; omega) (fun u h => by
      rcases List.mem_append.1 h with h | h
      · exact hu u h
      · simp at h; omega)
    rw [e2, nonneg_snoc, if_neg (by decide)]
    rw [hm] at e1
    have hlen : (out ++ [(-1 : Int)]).length = out.length + 1 := by simp
    have n2' : Nu (offE (Jo g out) out.length) k' := n2.iff fun e u => by
      unfold Jo offE
      rw [hlen]
      constructor
      · rintro ⟨a, b, c, d⟩
        exact ⟨⟨a, by omega, fun q => c (by simp [q]), d⟩, by omega⟩
      · rintro ⟨⟨a, b, c, d⟩, f⟩
        refine ⟨a, by omega, fun q => ?_, d⟩
        rcases List.mem_append.1 q with q | q
        · exact c q
        · simp at q
    have hle : k' ≤ k := n2'.mono n1 fun e u h => h.1
    refine Classical.byContradiction fun hne => ?_
    have hlt : k' < k := by
      refine Nat.lt_of_le_of_ne hle fun q => hne ?_
      rw [q, e1]; omega
    obtain ⟨p, hp, hpl⟩ := n1.p
    have hmem : ∃ u, (out.length, u) ∈ p := Classical.byContradiction fun hc => by
      have : Mch (offE (Jo g out) out.length) p := ⟨hp.l, hp.r, fun x hx => ⟨hp.j x hx, fun q => hc ⟨x.2, by rw [← q]; exact hx⟩⟩⟩
      have := n2'.le this
      omega
    obtain ⟨u, hu1⟩ := hmem
    obtain ⟨_, _, hun, huj⟩ := hp.j _ hu1
    have hub := hin u huj
    obtain ⟨p', hp', hpl'⟩ := erase_pair hp hu1
    obtain ⟨k2, n3, e3⟩ := out_nu hg (out ++ [(u : Int)]) (by simp; omega) (fun v h => by
      rcases List.mem_append.1 h with h | h
      · exact hu v h
      · simp at h; omega)
    have hJ : ∀ e v, Jo g (out ++ [(u : Int)]) e v ↔ (Jo g out e v ∧ e ≠ out.length ∧ v ≠ u) := fun e v => by
      unfold Jo
      simp only [List.length_append, List.length_cons, List.length_nil, List.mem_append, List.mem_singleton, not_or]
      constructor
      · rintro ⟨a, b, ⟨c, c'⟩, d⟩; exact ⟨⟨a, by omega, c, d⟩, by omega, fun q => c' (by rw [q])⟩
      · rintro ⟨⟨a, b, c, d⟩, f, q⟩; exact ⟨a, by omega, ⟨c, by omega⟩, d⟩
    have h3 := n3.le (hp'.mono fun e v h => (hJ e v).2 h)
    have h4 : k2 ≤ k' := n3.mono n2' fun e v h => ⟨((hJ e v).1 h).1, ((hJ e v).1 h).2.1⟩
    refine hall u huj hun ?_
    rw [e3, nonneg_snoc, if_pos hub.1, e1]
    omega
theorem matchO_sp {g : G} (hg : WF g) (most : Int) : ∀ (l : List (List Int)) (out : List Int), g.joined.drop out.length = l → out.length + l.length = g.eqs.length → (greatestF g out).2 = most →
    (∀ e (h : e < out.length), out[e] = -1 ∨ (0 ≤ out[e] ∧ out[e] < g.uses.length ∧ out[e] ∈ jn g e)) → (∀ e e' (h : e < out.length) (h' : e' < out.length), e < e' → 0 ≤ out[e] → out[e] ≠ out[e']) →
    MOkL g (matchO g most l out) ∧ (greatestF g (matchO g most l out)).2 = most
  | [], out, _, hl, hm, h1, h2 => ⟨⟨by simpa [matchO] using hl, h1, h2⟩, hm⟩
  | x :: r, out, hd, hl, hm, h1, h2 => by
    unfold matchO
    simp only [List.length_cons] at hl
    have hol : out.length < g.joined.length := by rw [hg.len]; omega
    rw [List.drop_eq_getElem_cons hol] at hd
    injection hd with hd1 hd2
    have hx : x = jn g (out.length : Nat) := by
      unfold jn
      rw [Int.toNat_natCast, getD_lt _ _ _ hol, hd1]
    subst hx
    have hu : ∀ u ∈ out, u < g.uses.length := fun u hu => by
      obtain ⟨i, hi, rfl⟩ := List.getElem_of_mem hu
      rcases h1 i hi with h | h <;> omega
    have hst := match_step hg most out (by omega) hu hm
    have hsp := matchL_sp g most out (jn g (out.length : Nat))
    have hin := wf_in hg (out.length : Nat)
    generalize matchL g most out (jn g (out.length : Nat)) = y at hst hsp
    have hy : y = -1 ∨ (y ∈ jn g (out.length : Nat) ∧ y ∉ out) := hsp.elim (fun q => .inr ⟨q.1, q.2.1⟩) (fun q => .inl q.1)
    have hlen : (out ++ [y]).length = out.length + 1 := by simp
    refine matchO_sp hg most r (out ++ [y]) (by rw [hlen]; exact hd2) (by rw [hlen]; omega) hst (fun e he => ?_) (fun e e' he he' hlt h0 => ?_)
    · by_cases q : e < out.length
      · rw [List.getElem_append_left q]; exact h1 e q
      · have : e = out.length := by omega
        subst this
        rw [List.getElem_append_right (Nat.le_refl _)]
        simp only [Nat.sub_self, List.getElem_cons_zero]
        rcases hy with h | ⟨h, _⟩
        · exact .inl h
        · exact .inr ⟨(hin y h).1, (hin y h).2, h⟩
    · have q : e < out.length := by omega
      rw [List.getElem_append_left q] at h0 ⊢
      by_cases q' : e' < out.length
      · rw [List.getElem_append_left q']; exact h2 e e' q q' hlt h0
      · have : e' = out.length := by omega
        subst this
        rw [List.getElem_append_right (Nat.le_refl _)]
        simp only [Nat.sub_self, List.getElem_cons_zero]
        intro h
        rcases hy with h3 | ⟨_, h3⟩
        · omega
        · exact h3 (by rw [← h]; exact List.getElem_mem q)
/-- The list of Match is a matching with as many pairs as there can be. -/
theorem match_sp {g : G} {k : Nat} (hg : WF g) (h : Gr g k) : MOkL g (matchF g) ∧ (nonneg (matchF g) : Int) = k := by
  obtain ⟨h1, h2⟩ := matchO_sp hg (greatestF g []).2 g.joined [] rfl (by simp [hg.len]) rfl (fun e h => absurd h (by simp)) (fun e e' h => absurd h (by simp))
  refine ⟨h1, ?_⟩
  have h1' : MOkL g (matchF g) := h1
  obtain ⟨k', n, e⟩ := out_nu hg (matchF g) (Nat.le_of_eq h1'.len) (fun u hu => by
    obtain ⟨i, hi, rfl⟩ := List.getElem_of_mem hu
    rcases h1'.ok i hi with h | h <;> omega)
  have hz : k' = 0 := by
    obtain ⟨p, hp, rfl⟩ := n.p
    cases p with
    | nil => rfl
    | cons x r =>
      obtain ⟨a, b, _⟩ := hp.j x (by simp)
      have := h1'.len
      omega
  have h3 : (greatestF g (matchF g)).2 = (greatestF g []).2 := h2
  rw [e, hz, greatest0_size, h.size] at h3
  omega
end Go.Proofs.Ytgeeklnokblokaa
