/- Part 3 of the proof: joined texts (abstract values and their rules; walks of the functions; plain lemmas). -/
import Derived.Test.YtgeeklnokblokaaPlays2
set_option linter.unusedVariables false
set_option linter.unusedSimpArgs false
set_option linter.unusedSectionVars false
namespace Go.Proofs.Ytgeeklnokblokaa
open Go Go.Fw
theorem onlyJ_get : ∀ (l : List (List Int)) (b : List Bool) (i : Nat) (h : i < l.length) (h' : i < (onlyJ l b).length), ((onlyJ l b)[i]).1 = l[i]
  | l :: r, [], 0, _, _ => by simp [onlyJ]
  | l :: r, [], i + 1, h, h' => by simp [onlyJ]
  | l :: r, b :: s, 0, _, _ => rfl
  | l :: r, b :: s, i + 1, h, h' => by
    simp only [onlyJ, List.getElem_cons_succ]
    exact onlyJ_get r s i (by simpa using h) (by simpa [onlyJ] using h')
theorem cutJ_sub (x : List Int × Bool) : (cutJ x).length ≤ x.1.length ∧ ∀ u ∈ cutJ x, u ∈ x.1 := by
  obtain ⟨l, b⟩ := x
  cases b
  · exact ⟨Nat.zero_le _, fun u h => absurd h (by simp [cutJ])⟩
  · exact ⟨Nat.le_refl _, fun u h => h⟩
theorem only_wf {g : G} (hg : WF g) (eqs : List Bool) : WF (onlyF g eqs) := by
  have hin : ∀ l ∈ (onlyF g eqs).joined, ∃ l' ∈ g.joined, l.length ≤ l'.length ∧ ∀ x ∈ l, x ∈ l' := by
    intro l h
    obtain ⟨x, hx, rfl⟩ := List.mem_map.1 h
    obtain ⟨k, hk, rfl⟩ := List.getElem_of_mem hx
    have hk' : k < g.joined.length := by rw [← onlyJ_len g.joined eqs]; exact hk
    have := cutJ_sub (onlyJ g.joined eqs)[k]
    rw [onlyJ_get g.joined eqs k hk' hk] at this
    exact ⟨_, List.getElem_mem hk', this⟩
  refine ⟨by simp [onlyF, onlyJ_len, hg.len], fun l h x hx => ?_, hg.se, hg.su, fun l h => ?_⟩
  · obtain ⟨l', h1, h2, h3⟩ := hin l h
    exact hg.in_ l' h1 x (h3 x hx)
  · obtain ⟨l', h1, h2, h3⟩ := hin l h
    exact Nat.le_trans h2 (hg.sl l' h1)
theorem le_only (g : G) (eqs : List Bool) : Le (.agg [.sl 1 (g.eqs.map encS), .sl 3 (g.uses.map encU), .sl 1 ((onlyJ g.joined eqs).map encL0)]) (encG (onlyF g eqs)) := by
  have h3 : Le (.sl 1 ((onlyJ g.joined eqs).map encL0)) (.sl 1 ((onlyF g eqs).joined.map encL)) := by
    unfold onlyF
    refine Le.sl (by simp) fun i h h' => ?_
    simp only [List.getElem_map]
    exact le0 _
  have h := Le.cons (Le.refl (.sl 1 (g.eqs.map encS))) (Le.cons (Le.refl (.sl 3 (g.uses.map encU))) (Le.cons h3 Le.nils))
  exact Le.agg h.1 h.2
theorem snap_g3 {S : List Nat} {H : Hp} {xs ys : List AV} {b q n : Nat} : List.map (snap S H) [.agg [.sl 1 xs, .sl 3 ys, .own b q 0 n], .val (.slice none 0 0)] = [.agg [.sl 1 xs, .sl 3 ys, snap S H (.own b q 0 n)], .val (.slice none 0 0)] := rfl
theorem greatestO_ok (g : G) (hg : WF g) (eqs : List Bool) : PureCall Try.prog 39 [.agg [.sl 1 (g.eqs.map encS), .sl 3 (g.uses.map encU), .sl 1 ((onlyJ g.joined eqs).map encL0)], .val (.slice none 0 0)] (.tup [encL (greatestF (onlyF g eqs) []).1, encI (greatestF (onlyF g eqs) []).2]) := by
  refine PureCall.le (greatest0_ok _ (only_wf hg eqs)) rfl (fun i h h' => ?_)
  rcases i with _ | _ | i
  · exact le_only g eqs
  · exact Le.refl _
  · simp at h'; omega
set_option maxHeartbeats 4000000 in
set_option maxRecDepth 100000 in
theorem culprit27_ok (g : G) (hz : Sz g) (hh : checkF g = 0 → Halv g) : PureCall Try.prog 27 [encG g] (.tup [encP (culF g).1, encI (culF g).2]) := by
  refine pure_cp (E := E 0) T_ok (D_ok 0) [] Try.func27 rfl (by rfl) (Nat.le_of_ble_eq_true rfl) ?_
  generalize hR : culF g = R
  unfold culF culG at hR
  ((conv => whnf); repeat ((first | refine Sw.o ?_ | refine B0 ?_); conv => whnf))
  (repeat ((first | refine N0 ?_ | refine A0 fun γ => ?_ | refine C1 ?_ | refine C2 ?_ | refine C3 ?_ | refine C4 ?_ | refine C5 ?_ | refine C6 ?_ | refine C7 ?_ | refine D0 fun γs => ?_ | refine A1 fun γs => ?_ | refine N2 ?_ | refine N3 ?_ | refine N1 ?_); ((conv => whnf); repeat ((first | refine Sw.o ?_ | refine B0 ?_); conv => whnf))))
  refine CallP.flat [] (encI (checkF g)) c35 (check35_ok g hz) rfl ?_
  ((conv => whnf); repeat ((first | refine Sw.o ?_ | refine B0 ?_); conv => whnf))
  (repeat ((first | refine N0 ?_ | refine A0 fun γ => ?_ | refine C1 ?_ | refine C2 ?_ | refine C3 ?_ | refine C4 ?_ | refine C5 ?_ | refine C6 ?_ | refine C7 ?_ | refine D0 fun γs => ?_ | refine A1 fun γs => ?_ | refine N2 ?_ | refine N3 ?_ | refine N1 ?_); ((conv => whnf); repeat ((first | refine Sw.o ?_ | refine B0 ?_); conv => whnf))))
  refine CondP.dec (fun h => ?_) (fun h => ?_) <;> ((conv => whnf); repeat ((first | refine Sw.o ?_ | refine B0 ?_); conv => whnf))
  · rw [decide_eq_true h] at hR
    have hg := (check_wf h).1
    have su := hg.su
    have se := hg.se
    have hjl := hg.len
    simp only at hR
    have l1 := halvesF_len1 g
    have l2 := halvesF_len2 g
    (repeat ((first | refine N0 ?_ | refine A0 fun γ => ?_ | refine C1 ?_ | refine C2 ?_ | refine C3 ?_ | refine C4 ?_ | refine C5 ?_ | refine C6 ?_ | refine C7 ?_ | refine D0 fun γs => ?_ | refine A1 fun γs => ?_ | refine N2 ?_ | refine N3 ?_ | refine N1 ?_); ((conv => whnf); repeat ((first | refine Sw.o ?_ | refine B0 ?_); conv => whnf))))
    rename_i γ2
    refine CallP.frame 1000000 [(44, 70), (48, 71)] rfl c45 (halvesO_ok g hg (hh h)) rfl trivial ?_
    rintro r0 h' ⟨δ, δ', rfl, rfl⟩
    generalize (halvesF g).1 = a at hR l1 ⊢
    generalize (halvesF g).2 = b at l2 ⊢
    refine ⟨[(70, δ, ⟨4, 1, a.map encB⟩), (1, _, ⟨26, 3, [encG g]⟩), (2, _, ⟨41, 2, [.agg [.val (.slice none 0 0), .val (.slice none 0 0)]]⟩)], ⟨mvB_flats encB _ (fun _ => rfl) .., rfl, rfl, trivial⟩, ?_⟩
    ((conv => whnf); repeat ((first | refine Sw.o ?_ | refine B0 ?_); conv => whnf))
    (repeat ((first | refine N0 ?_ | refine A0 fun γ => ?_ | refine C1 ?_ | refine C2 ?_ | refine C3 ?_ | refine C4 ?_ | refine C5 ?_ | refine C6 ?_ | refine C7 ?_ | refine D0 fun γs => ?_ | refine A1 fun γs => ?_ | refine N2 ?_ | refine N3 ?_ | refine N1 ?_); ((conv => whnf); repeat ((first | refine Sw.o ?_ | refine B0 ?_); conv => whnf))))
    refine CallP.flat [70] (encI (cntT a)) c50 (pure_args ?_ (count_ok a (by omega))) rfl ?_
    · show [snap [70] _ (.own 70 _ 0 a.length)] = _
      rw [snap_own (B := ⟨4, 1, a.map encB⟩) (by simp) rfl (by simp), snap_list _ _ _ _ rfl (fun _ => rfl)]
      rfl
    ((conv => whnf); repeat ((first | refine Sw.o ?_ | refine B0 ?_); conv => whnf))
    (repeat ((first | refine N0 ?_ | refine A0 fun γ => ?_ | refine C1 ?_ | refine C2 ?_ | refine C3 ?_ | refine C4 ?_ | refine C5 ?_ | refine C6 ?_ | refine C7 ?_ | refine D0 fun γs => ?_ | refine A1 fun γs => ?_ | refine N2 ?_ | refine N3 ?_ | refine N1 ?_); ((conv => whnf); repeat ((first | refine Sw.o ?_ | refine B0 ?_); conv => whnf))))
    refine CondP.dec (fun h0 => ?_) (fun h0 => ?_) <;> ((conv => whnf); repeat ((first | refine Sw.o ?_ | refine B0 ?_); conv => whnf))
    · rw [decide_eq_true h0] at hR
      subst hR
      (repeat ((first | refine N0 ?_ | refine A0 fun γ => ?_ | refine C1 ?_ | refine C2 ?_ | refine C3 ?_ | refine C4 ?_ | refine C5 ?_ | refine C6 ?_ | refine C7 ?_ | refine D0 fun γs => ?_ | refine A1 fun γs => ?_ | refine N2 ?_ | refine N3 ?_ | refine N1 ?_); ((conv => whnf); repeat ((first | refine Sw.o ?_ | refine B0 ?_); conv => whnf))))
      exact ends_tup2 le_noP (Le.refl _)
    · rw [decide_eq_false h0] at hR
      simp only at hR
      (repeat ((first | refine N0 ?_ | refine A0 fun γ => ?_ | refine C1 ?_ | refine C2 ?_ | refine C3 ?_ | refine C4 ?_ | refine C5 ?_ | refine C6 ?_ | refine C7 ?_ | refine D0 fun γs => ?_ | refine A1 fun γs => ?_ | refine N2 ?_ | refine N3 ?_ | refine N1 ?_); ((conv => whnf); repeat ((first | refine Sw.o ?_ | refine B0 ?_); conv => whnf))))
      generalize hC : culL (onlyT g) a.length a = c at hR
      refine LoopP.intro (fun k σ H => ∃ p1 p2 p70 n, ∃ s : List Bool, n ≤ s.length ∧ k = n ∧ s.length = g.eqs.length ∧ culL (onlyT g) n s = c ∧
        σ = fr [(1, .op 1 p1 0 0), (2, .op 2 p2 0 0), (5, .own 70 p70 0 g.eqs.length), (7, encI ((n : Int) - 1))] ∧
        H = hp [(1, p1, ⟨26, 3, [encG g]⟩), (2, p2, ⟨41, 2, [.agg [.val (.slice none 0 0), .val (.slice none 0 0)]]⟩), (70, p70, ⟨4, 1, s.map encB⟩)]) ?_ ?_
      · exact .intro <| W.of ⟨_, _, _, _, a.length, a, Nat.le_refl _, rfl, l1, hC, rfl, rfl⟩ ⟨rfl, rfl, by rw [← l1]; rfl, rfl, trivial⟩ ⟨rfl, rfl, rfl, trivial⟩
      · rintro k σ H ⟨p1, p2, p70, n, s, hn, rfl, hsl, hL, rfl, rfl⟩
        have hsl' : (s.map encB).length = g.eqs.length := by simpa using hsl
        ((conv => whnf); repeat ((first | refine Sw.o ?_ | refine B0 ?_); conv => whnf))
        (repeat ((first | refine N0 ?_ | refine A0 fun γ => ?_ | refine C1 ?_ | refine C2 ?_ | refine C3 ?_ | refine C4 ?_ | refine C5 ?_ | refine C6 ?_ | refine C7 ?_ | refine D0 fun γs => ?_ | refine A1 fun γs => ?_ | refine N2 ?_ | refine N3 ?_ | refine N1 ?_); ((conv => whnf); repeat ((first | refine Sw.o ?_ | refine B0 ?_); conv => whnf))))
        refine CondP.dec (fun h1 => ?_) (fun h1 => ?_)
        · ((conv => whnf); repeat ((first | refine Sw.o ?_ | refine B0 ?_); conv => whnf))
          obtain ⟨n, rfl⟩ : ∃ m, k = m + 1 := ⟨k - 1, by omega⟩
          have hns : n < s.length := by omega
          have hgd := getD_lt s n false hns
          unfold culL at hL
          simp only [show ((n + 1 : Nat) : Int) - 1 = (n : Int) by omega]
          (repeat ((first | refine N0 ?_ | refine A0 fun γ => ?_ | refine C1 ?_ | refine C2 ?_ | refine C3 ?_ | refine C4 ?_ | refine C5 ?_ | refine C6 ?_ | refine C7 ?_ | refine D0 fun γs => ?_ | refine A1 fun γs => ?_ | refine N2 ?_ | refine N3 ?_ | refine N1 ?_); ((conv => whnf); repeat ((first | refine Sw.o ?_ | refine B0 ?_); conv => whnf))))
          rw [Int.toNat_natCast, Nat.zero_add, getD_map (h := hns)]
          ((conv => whnf); repeat ((first | refine Sw.o ?_ | refine B0 ?_); conv => whnf))
          (repeat ((first | refine N0 ?_ | refine A0 fun γ => ?_ | refine C1 ?_ | refine C2 ?_ | refine C3 ?_ | refine C4 ?_ | refine C5 ?_ | refine C6 ?_ | refine C7 ?_ | refine D0 fun γs => ?_ | refine A1 fun γs => ?_ | refine N2 ?_ | refine N3 ?_ | refine N1 ?_); ((conv => whnf); repeat ((first | refine Sw.o ?_ | refine B0 ?_); conv => whnf))))
          refine CondP.intro (fun hb => ?_) (fun hb => ?_) <;> ((conv => whnf); repeat ((first | refine Sw.o ?_ | refine B0 ?_); conv => whnf))
          · rw [hgd, hb] at hL
            simp only at hL
            have hsb := set_back' (hgd.trans hb) hns
            (repeat ((first | refine N0 ?_ | refine A0 fun γ => ?_ | refine C1 ?_ | refine C2 ?_ | refine C3 ?_ | refine C4 ?_ | refine C5 ?_ | refine C6 ?_ | refine C7 ?_ | refine D0 fun γs => ?_ | refine A1 fun γs => ?_ | refine N2 ?_ | refine N3 ?_ | refine N1 ?_); ((conv => whnf); repeat ((first | refine Sw.o ?_ | refine B0 ?_); conv => whnf))))
            rw [Int.toNat_natCast, Nat.zero_add, getD_map (h := hns)]
            ((conv => whnf); repeat ((first | refine Sw.o ?_ | refine B0 ?_); conv => whnf))
            (repeat ((first | refine N0 ?_ | refine A0 fun γ => ?_ | refine C1 ?_ | refine C2 ?_ | refine C3 ?_ | refine C4 ?_ | refine C5 ?_ | refine C6 ?_ | refine C7 ?_ | refine D0 fun γs => ?_ | refine A1 fun γs => ?_ | refine N2 ?_ | refine N3 ?_ | refine N1 ?_); ((conv => whnf); repeat ((first | refine Sw.o ?_ | refine B0 ?_); conv => whnf))))
            have hsn : (s.map encB).set n (AV.val (Value.bool false)) = (s.set n false).map encB := by rw [← set_map (x := false) (h := rfl)]; rfl
            have hl4 : (s.set n false).length = g.eqs.length := by simpa using hsl
            have hl5 : ((s.set n false).map encB).length = g.eqs.length := by simpa using hsl
            have hut4 : n < (s.set n false).length := by omega
            simp only [hsn]
            have hT : onlyT g (s.set n false) = decide ((greatestF (onlyF g (s.set n false)) []).2 = cntT (s.set n false)) := rfl
            have hol := onlyJ_len g.joined (s.set n false)
            have hgr := greatestO_ok g hg (s.set n false)
            refine CallP.frame 1000000 [(100, 70), (11, 43)] rfl c51 (onlyO_ok g hg p70 (s.set n false) hl4) (by show [_, AV.own 100 p70 0 _] = _; rw [hl4]; rfl) ⟨mvB_flats encB _ (fun _ => rfl) .., trivial⟩ ?_
            rintro r0 h' ⟨ε, rfl, rfl⟩
            generalize greatestF (onlyF g (s.set n false)) [] = gr at hT hgr
            generalize onlyJ g.joined (s.set n false) = oj at hol hgr ⊢
            refine ⟨[(70, p70, ⟨4, 1, (s.set n false).map encB⟩), (43, ε, ⟨29, 1, oj.map encL0⟩), (1, p1, ⟨26, 3, [encG g]⟩), (2, p2, ⟨41, 2, [.agg [.val (.slice none 0 0), .val (.slice none 0 0)]]⟩)], ⟨mvB_flats encB _ (fun _ => rfl) .., mvB_flats encL0 _ (by rintro ⟨l, b⟩; cases b <;> rfl) .., rfl, rfl, trivial⟩, ?_⟩
            ((conv => whnf); repeat ((first | refine Sw.o ?_ | refine B0 ?_); conv => whnf))
            (repeat ((first | refine N0 ?_ | refine A0 fun γ => ?_ | refine C1 ?_ | refine C2 ?_ | refine C3 ?_ | refine C4 ?_ | refine C5 ?_ | refine C6 ?_ | refine C7 ?_ | refine D0 fun γs => ?_ | refine A1 fun γs => ?_ | refine N2 ?_ | refine N3 ?_ | refine N1 ?_); ((conv => whnf); repeat ((first | refine Sw.o ?_ | refine B0 ?_); conv => whnf))))
            refine CallP.pure [43] _ c39 (pure_args ?_ hgr) ?_
            · refine (snap_g3 (xs := g.eqs.map encS) (ys := g.uses.map encU) (b := 43) (q := ε) (n := g.joined.length)).trans ?_
              rw [snap_own (B := ⟨29, 1, oj.map encL0⟩) (by simp) rfl (by simp [hol]), snap_list _ _ _ _ hol.symm (by rintro ⟨l, b⟩; cases b <;> rfl)]
            ((conv => whnf); repeat ((first | refine Sw.o ?_ | refine B0 ?_); conv => whnf))
            (repeat ((first | refine N0 ?_ | refine A0 fun γ => ?_ | refine C1 ?_ | refine C2 ?_ | refine C3 ?_ | refine C4 ?_ | refine C5 ?_ | refine C6 ?_ | refine C7 ?_ | refine D0 fun γs => ?_ | refine A1 fun γs => ?_ | refine N2 ?_ | refine N3 ?_ | refine N1 ?_); ((conv => whnf); repeat ((first | refine Sw.o ?_ | refine B0 ?_); conv => whnf))))
            refine CallP.flat [70] (encI (cntT (s.set n false))) c50 (pure_args ?_ (count_ok (s.set n false) (by omega))) rfl ?_
            · show [snap [70] _ (.own 70 _ 0 g.eqs.length)] = _
              rw [snap_own (B := ⟨4, 1, (s.set n false).map encB⟩) (by simp) rfl (by simp [hsl]), snap_list _ _ _ _ hl4.symm (fun _ => rfl)]
              rfl
            rw [hT] at hL
            ((conv => whnf); repeat ((first | refine Sw.o ?_ | refine B0 ?_); conv => whnf))
            (repeat ((first | refine N0 ?_ | refine A0 fun γ => ?_ | refine C1 ?_ | refine C2 ?_ | refine C3 ?_ | refine C4 ?_ | refine C5 ?_ | refine C6 ?_ | refine C7 ?_ | refine D0 fun γs => ?_ | refine A1 fun γs => ?_ | refine N2 ?_ | refine N3 ?_ | refine N1 ?_); ((conv => whnf); repeat ((first | refine Sw.o ?_ | refine B0 ?_); conv => whnf))))
            refine CondP.dec (fun hz => ?_) (fun hz => ?_) <;> ((conv => whnf); repeat ((first | refine Sw.o ?_ | refine B0 ?_); conv => whnf))
            · rw [decide_eq_true hz] at hL
              simp only at hL
              (repeat ((first | refine N0 ?_ | refine A0 fun γ => ?_ | refine C1 ?_ | refine C2 ?_ | refine C3 ?_ | refine C4 ?_ | refine C5 ?_ | refine C6 ?_ | refine C7 ?_ | refine D0 fun γs => ?_ | refine A1 fun γs => ?_ | refine N2 ?_ | refine N3 ?_ | refine N1 ?_); ((conv => whnf); repeat ((first | refine Sw.o ?_ | refine B0 ?_); conv => whnf))))
              rw [Int.toNat_natCast, Nat.zero_add, getD_map (h := hut4)]
              ((conv => whnf); repeat ((first | refine Sw.o ?_ | refine B0 ?_); conv => whnf))
              (repeat ((first | refine N0 ?_ | refine A0 fun γ => ?_ | refine C1 ?_ | refine C2 ?_ | refine C3 ?_ | refine C4 ?_ | refine C5 ?_ | refine C6 ?_ | refine C7 ?_ | refine D0 fun γs => ?_ | refine A1 fun γs => ?_ | refine N2 ?_ | refine N3 ?_ | refine N1 ?_); ((conv => whnf); repeat ((first | refine Sw.o ?_ | refine B0 ?_); conv => whnf))))
              refine .intro <| W.of ⟨n, by omega, _, _, _, n, s, by omega, rfl, hsl, hL, rfl, rfl⟩ ⟨rfl, rfl, rfl, rfl, trivial⟩ ⟨rfl, rfl, ?_, trivial⟩
              show some (_, (⟨4, 1, ((s.set n false).map encB).set n (encB true)⟩ : Blk)) = _
              rw [set_map (x := true) (h := rfl), hsb]
            · rw [decide_eq_false hz] at hL
              simp only at hL
              (repeat ((first | refine N0 ?_ | refine A0 fun γ => ?_ | refine C1 ?_ | refine C2 ?_ | refine C3 ?_ | refine C4 ?_ | refine C5 ?_ | refine C6 ?_ | refine C7 ?_ | refine D0 fun γs => ?_ | refine A1 fun γs => ?_ | refine N2 ?_ | refine N3 ?_ | refine N1 ?_); ((conv => whnf); repeat ((first | refine Sw.o ?_ | refine B0 ?_); conv => whnf))))
              exact .intro <| W.of ⟨n, by omega, _, _, _, n, s.set n false, by omega, rfl, hl4, hL, rfl, rfl⟩ ⟨rfl, rfl, rfl, rfl, trivial⟩ ⟨rfl, rfl, rfl, trivial⟩
          · rw [hgd, hb] at hL
            simp only at hL
            (repeat ((first | refine N0 ?_ | refine A0 fun γ => ?_ | refine C1 ?_ | refine C2 ?_ | refine C3 ?_ | refine C4 ?_ | refine C5 ?_ | refine C6 ?_ | refine C7 ?_ | refine D0 fun γs => ?_ | refine A1 fun γs => ?_ | refine N2 ?_ | refine N3 ?_ | refine N1 ?_); ((conv => whnf); repeat ((first | refine Sw.o ?_ | refine B0 ?_); conv => whnf))))
            exact .intro <| W.of ⟨n, by omega, _, _, _, n, s, by omega, rfl, hsl, hL, rfl, rfl⟩ ⟨rfl, rfl, rfl, rfl, trivial⟩ ⟨rfl, rfl, rfl, trivial⟩
        · have hn0 : k = 0 := by omega
          subst hn0
          simp only [culL] at hL
          subst hL
          refine cpA_exitW (W.fre 5 70 p70 0 g.eqs.length (y := encBs s) rfl ?_ (W.of (l := [(1, .op 1 p1 0 0), (2, .op 2 p2 0 0), (5, encBs s)])
            (m := [(1, p1, ⟨26, 3, [encG g]⟩), (2, p2, ⟨41, 2, [.agg [.val (.slice none 0 0), .val (.slice none 0 0)]]⟩)])
            ?_ ⟨rfl, rfl, rfl, trivial⟩ ⟨rfl, rfl, trivial⟩))
          · rw [snap_own (B := ⟨4, 1, s.map encB⟩) (by simp) rfl (by simp [hsl]), snap_list _ _ _ _ hsl.symm (fun _ => rfl)]
            rfl
          ((conv => whnf); repeat ((first | refine Sw.o ?_ | refine B0 ?_); conv => whnf))
          (repeat ((first | refine N0 ?_ | refine A0 fun γ => ?_ | refine C1 ?_ | refine C2 ?_ | refine C3 ?_ | refine C4 ?_ | refine C5 ?_ | refine C6 ?_ | refine C7 ?_ | refine D0 fun γs => ?_ | refine A1 fun γs => ?_ | refine N2 ?_ | refine N3 ?_ | refine N1 ?_); ((conv => whnf); repeat ((first | refine Sw.o ?_ | refine B0 ?_); conv => whnf))))
          refine CallG.intro (encBs (joinedF g s)) c46 (joined_ok g hg s (by omega)) ?_
          have l3 := joinedF_len g s
          ((conv => whnf); repeat ((first | refine Sw.o ?_ | refine B0 ?_); conv => whnf))
          (repeat ((first | refine N0 ?_ | refine A0 fun γ => ?_ | refine C1 ?_ | refine C2 ?_ | refine C3 ?_ | refine C4 ?_ | refine C5 ?_ | refine C6 ?_ | refine C7 ?_ | refine D0 fun γs => ?_ | refine A1 fun γs => ?_ | refine N2 ?_ | refine N3 ?_ | refine N1 ?_); ((conv => whnf); repeat ((first | refine Sw.o ?_ | refine B0 ?_); conv => whnf))))
          refine CallG.intro (encP (partF g s (joinedF g s))) c48 (part_ok g s _ (by omega) (by omega) se su) ?_
          subst hR
          ((conv => whnf); repeat ((first | refine Sw.o ?_ | refine B0 ?_); conv => whnf))
          (repeat ((first | refine N0 ?_ | refine A0 fun γ => ?_ | refine C1 ?_ | refine C2 ?_ | refine C3 ?_ | refine C4 ?_ | refine C5 ?_ | refine C6 ?_ | refine C7 ?_ | refine D0 fun γs => ?_ | refine A1 fun γs => ?_ | refine N2 ?_ | refine N3 ?_ | refine N1 ?_); ((conv => whnf); repeat ((first | refine Sw.o ?_ | refine B0 ?_); conv => whnf))))
          exact .of rfl
  · rw [decide_eq_false h] at hR
    subst hR
    (repeat ((first | refine N0 ?_ | refine A0 fun γ => ?_ | refine C1 ?_ | refine C2 ?_ | refine C3 ?_ | refine C4 ?_ | refine C5 ?_ | refine C6 ?_ | refine C7 ?_ | refine D0 fun γs => ?_ | refine A1 fun γs => ?_ | refine N2 ?_ | refine N3 ?_ | refine N1 ?_); ((conv => whnf); repeat ((first | refine Sw.o ?_ | refine B0 ?_); conv => whnf))))
    exact ends_tup2 le_noP (Le.refl _)
end Go.Proofs.Ytgeeklnokblokaa
namespace Go.Proofs.Ytgeeklnokblokaa
open Go Go.Fw
set_option maxRecDepth 100000 in
theorem same44_ok (u x : Int) (H0 : Hp) : HCall Try.prog 44 [encI x, .ep (encI u) 0] H0 (fun r h => r = encB (decide (x = u)) ∧ h = H0) := by
  refine hcall_cp (E := E 0) T_ok (D_ok 0) Try.func44 rfl (by rfl) (Nat.le_of_ble_eq_true rfl) ?_
  ((conv => whnf); repeat ((first | refine Sw.o ?_ | refine B0 ?_); conv => whnf))
  (repeat ((first | refine N0 ?_ | refine A0 fun γ => ?_ | refine C1 ?_ | refine C2 ?_ | refine C3 ?_ | refine C4 ?_ | refine C5 ?_ | refine C6 ?_ | refine C7 ?_ | refine D0 fun γs => ?_ | refine A1 fun γs => ?_ | refine N2 ?_ | refine N3 ?_ | refine N1 ?_ | simp (disch := omega) only [LG]); ((conv => whnf); repeat ((first | refine Sw.o ?_ | refine B0 ?_); conv => whnf))))
  exact EndH.intro (fun _ => .inl rfl) ⟨rfl, rfl⟩
set_option maxRecDepth 100000 in
theorem indexFuncO_ok (k : Nat) (caps : List AV) (q : Nat) (p : Int → Bool) (l : List Int) (hl : l.length ≤ 2^40) (hk : Callable Try.prog k) (hf : ∀ x ∈ l, HCall Try.prog k (encI x :: caps) (hp [(0, q, ⟨3, 1, l.map encI⟩)]) (fun r h => r = encB (p x) ∧ h = (hp [(0, q, ⟨3, 1, l.map encI⟩)]))) :
    HCall Try.prog 70 [.own 0 q 0 l.length, .fn (.func k) [] caps] (hp [(0, q, ⟨3, 1, l.map encI⟩)]) (fun r h => r = encI (indexP p l 0) ∧ h = (hp [(0, q, ⟨3, 1, l.map encI⟩)])) := by
  refine hcall_cp (E := E 0) T_ok (D_ok 0) Try.func70 rfl (by rfl) (Nat.le_of_ble_eq_true rfl) ?_
  generalize hF : indexP p l 0 = F
  ((conv => whnf); repeat ((first | refine Sw.o ?_ | refine B0 ?_); conv => whnf))
  (repeat ((first | refine N0 ?_ | refine A0 fun γ => ?_ | refine C1 ?_ | refine C2 ?_ | refine C3 ?_ | refine C4 ?_ | refine C5 ?_ | refine C6 ?_ | refine C7 ?_ | refine D0 fun γs => ?_ | refine A1 fun γs => ?_ | refine N2 ?_ | refine N3 ?_ | refine N1 ?_); ((conv => whnf); repeat ((first | refine Sw.o ?_ | refine B0 ?_); conv => whnf))))
  refine LoopP.intro (fun n σ H => ∃ i, i ≤ l.length ∧ n = l.length - i ∧ indexP p (l.drop i) i = F ∧ σ = fr [(0, .own 0 q 0 l.length), (1, .fn (.func k) [] caps), (7, encI l.length), (8, encI i)] ∧ H = (hp [(0, q, ⟨3, 1, l.map encI⟩)])) ?_ ?_
  · exact .intro <| W.of ⟨_, 0, Nat.zero_le _, rfl, hF, rfl, rfl⟩ ⟨rfl, rfl, rfl, rfl, trivial⟩ ⟨rfl, trivial⟩
  · rintro n σ H ⟨i, hi, rfl, hc, rfl, rfl⟩
    ((conv => whnf); repeat ((first | refine Sw.o ?_ | refine B0 ?_); conv => whnf))
    (repeat ((first | refine N0 ?_ | refine A0 fun γ => ?_ | refine C1 ?_ | refine C2 ?_ | refine C3 ?_ | refine C4 ?_ | refine C5 ?_ | refine C6 ?_ | refine C7 ?_ | refine D0 fun γs => ?_ | refine A1 fun γs => ?_ | refine N2 ?_ | refine N3 ?_ | refine N1 ?_); ((conv => whnf); repeat ((first | refine Sw.o ?_ | refine B0 ?_); conv => whnf))))
    refine CondP.dec (fun h => ?_) (fun h => ?_) <;> ((conv => whnf); repeat ((first | refine Sw.o ?_ | refine B0 ?_); conv => whnf))
    · (have h2 := h; try simp only [LN] at h2)
      have hi' : i < l.length := by omega
      have hx := hf _ (List.getElem_mem hi')
      rw [List.drop_eq_getElem_cons hi'] at hc
      unfold indexP at hc
      (repeat ((first | refine N0 ?_ | refine A0 fun γ => ?_ | refine C1 ?_ | refine C2 ?_ | refine C3 ?_ | refine C4 ?_ | refine C5 ?_ | refine C6 ?_ | refine C7 ?_ | refine D0 fun γs => ?_ | refine A1 fun γs => ?_ | refine N2 ?_ | refine N3 ?_ | refine N1 ?_); ((conv => whnf); repeat ((first | refine Sw.o ?_ | refine B0 ?_); conv => whnf))))
      (simp (disch := omega) only [LG]; ((conv => whnf); repeat ((first | refine Sw.o ?_ | refine B0 ?_); conv => whnf)))
      generalize l[i] = x at hx hc ⊢
      (repeat ((first | refine N0 ?_ | refine A0 fun γ => ?_ | refine C1 ?_ | refine C2 ?_ | refine C3 ?_ | refine C4 ?_ | refine C5 ?_ | refine C6 ?_ | refine C7 ?_ | refine D0 fun γs => ?_ | refine A1 fun γs => ?_ | refine N2 ?_ | refine N3 ?_ | refine N1 ?_); ((conv => whnf); repeat ((first | refine Sw.o ?_ | refine B0 ?_); conv => whnf))))
      refine CallP.own hk (HCall.mono (hcall_args (by rfl) hx) ?_)
      rintro r h' ⟨rfl, rfl⟩
      refine ⟨_, fun _ => .inl rfl, ?_⟩
      ((conv => whnf); repeat ((first | refine Sw.o ?_ | refine B0 ?_); conv => whnf))
      (repeat ((first | refine N0 ?_ | refine A0 fun γ => ?_ | refine C1 ?_ | refine C2 ?_ | refine C3 ?_ | refine C4 ?_ | refine C5 ?_ | refine C6 ?_ | refine C7 ?_ | refine D0 fun γs => ?_ | refine A1 fun γs => ?_ | refine N2 ?_ | refine N3 ?_ | refine N1 ?_); ((conv => whnf); repeat ((first | refine Sw.o ?_ | refine B0 ?_); conv => whnf))))
      refine CondP.intro (fun hq => ?_) (fun hq => ?_) <;> ((conv => whnf); repeat ((first | refine Sw.o ?_ | refine B0 ?_); conv => whnf))
      · rw [hq] at hc
        (repeat ((first | refine N0 ?_ | refine A0 fun γ => ?_ | refine C1 ?_ | refine C2 ?_ | refine C3 ?_ | refine C4 ?_ | refine C5 ?_ | refine C6 ?_ | refine C7 ?_ | refine D0 fun γs => ?_ | refine A1 fun γs => ?_ | refine N2 ?_ | refine N3 ?_ | refine N1 ?_); ((conv => whnf); repeat ((first | refine Sw.o ?_ | refine B0 ?_); conv => whnf))))
        exact EndH.intro (fun _ => .inl rfl) ⟨by rw [← hc]; rfl, rfl⟩
      · rw [hq] at hc
        (repeat ((first | refine N0 ?_ | refine A0 fun γ => ?_ | refine C1 ?_ | refine C2 ?_ | refine C3 ?_ | refine C4 ?_ | refine C5 ?_ | refine C6 ?_ | refine C7 ?_ | refine D0 fun γs => ?_ | refine A1 fun γs => ?_ | refine N2 ?_ | refine N3 ?_ | refine N1 ?_); ((conv => whnf); repeat ((first | refine Sw.o ?_ | refine B0 ?_); conv => whnf))))
        exact .intro <| W.of ⟨_, by omega, i + 1, hi', rfl, hc, rfl, rfl⟩ ⟨rfl, rfl, rfl, rfl, trivial⟩ ⟨rfl, trivial⟩
    · (have h2 := h; try simp only [LN] at h2)
      (repeat ((first | refine N0 ?_ | refine A0 fun γ => ?_ | refine C1 ?_ | refine C2 ?_ | refine C3 ?_ | refine C4 ?_ | refine C5 ?_ | refine C6 ?_ | refine C7 ?_ | refine D0 fun γs => ?_ | refine A1 fun γs => ?_ | refine N2 ?_ | refine N3 ?_ | refine N1 ?_); ((conv => whnf); repeat ((first | refine Sw.o ?_ | refine B0 ?_); conv => whnf))))
      rw [List.drop_eq_nil_of_le (by omega)] at hc
      exact EndH.intro (fun _ => .inl rfl) ⟨by rw [← hc]; rfl, rfl⟩
def delF (u : Int) (l : List Int) : List Int := l.filter fun x => !decide (x = u)
theorem delF_len (u : Int) (l : List Int) : (delF u l).length ≤ l.length := List.length_filter_le ..
theorem indexP_spec (p : Int → Bool) : ∀ (l : List Int) (i : Int), (indexP p l i = -1 ∧ l.filter (fun x => !p x) = l) ∨ ∃ n : Nat, n < l.length ∧ indexP p l i = i + n ∧ (l.take (n + 1)).filter (fun x => !p x) = l.take n
  | [], i => .inl ⟨rfl, rfl⟩
  | y :: r, i => by
    have ih := indexP_spec p r (i + 1)
    unfold indexP
    cases hp : p y
    · simp only
      rcases ih with ⟨h, h2⟩ | ⟨n, h, h1, h2⟩
      · exact .inl ⟨h, by simp [hp, h2]⟩
      · exact .inr ⟨n + 1, by simp; omega, by omega, by simp [hp, h2]⟩
    · simp only
      exact .inr ⟨0, by simp, by simp, by simp [hp]⟩
set_option maxHeartbeats 4000000 in
set_option maxRecDepth 100000 in
theorem deleteFunc_ok (q : Nat) (u : Int) (l : List Int) (hl : l.length ≤ 2^40) :
    HCall Try.prog 42 [.own 0 q 0 l.length, .fn (.func 44) [] [.ep (encI u) 0]] (hp [(0, q, ⟨3, 1, l.map encI⟩)])
      (Gives 0 0 (delF u l).length 3 1 ((delF u l ++ List.replicate (l.length - (delF u l).length) 0).map encI)) := by
  refine hcall_cp (E := E 0) T_ok (D_ok 0) Try.func42 rfl (by rfl) (Nat.le_of_ble_eq_true rfl) ?_
  have hsp := indexP_spec (fun x => decide (x = u)) l 0
  have hdl := delF_len u l
  ((conv => whnf); repeat ((first | refine Sw.o ?_ | refine B0 ?_); conv => whnf))
  (repeat ((first | refine N0 ?_ | refine A0 fun γ => ?_ | refine C1 ?_ | refine C2 ?_ | refine C3 ?_ | refine C4 ?_ | refine C5 ?_ | refine C6 ?_ | refine C7 ?_ | refine D0 fun γs => ?_ | refine A1 fun γs => ?_ | refine N2 ?_ | refine N3 ?_ | refine N1 ?_); ((conv => whnf); repeat ((first | refine Sw.o ?_ | refine B0 ?_); conv => whnf))))
  refine CallP.own c70 (HCall.mono (hcall_args (by rfl) (indexFuncO_ok 44 [.ep (encI u) 0] q (fun x => decide (x = u)) l hl c44 (fun x _ => same44_ok u x _))) ?_)
  rintro r h' ⟨rfl, rfl⟩
  refine ⟨_, fun _ => .inl rfl, ?_⟩
  generalize indexP (fun x => decide (x = u)) l 0 = i0 at hsp ⊢
  ((conv => whnf); repeat ((first | refine Sw.o ?_ | refine B0 ?_); conv => whnf))
  (repeat ((first | refine N0 ?_ | refine A0 fun γ => ?_ | refine C1 ?_ | refine C2 ?_ | refine C3 ?_ | refine C4 ?_ | refine C5 ?_ | refine C6 ?_ | refine C7 ?_ | refine D0 fun γs => ?_ | refine A1 fun γs => ?_ | refine N2 ?_ | refine N3 ?_ | refine N1 ?_); ((conv => whnf); repeat ((first | refine Sw.o ?_ | refine B0 ?_); conv => whnf))))
  rcases hsp with ⟨rfl, hf⟩ | ⟨n, hn, rfl, hf⟩
  · (repeat ((first | refine N0 ?_ | refine A0 fun γ => ?_ | refine C1 ?_ | refine C2 ?_ | refine C3 ?_ | refine C4 ?_ | refine C5 ?_ | refine C6 ?_ | refine C7 ?_ | refine D0 fun γs => ?_ | refine A1 fun γs => ?_ | refine N2 ?_ | refine N3 ?_ | refine N1 ?_); ((conv => whnf); repeat ((first | refine Sw.o ?_ | refine B0 ?_); conv => whnf))))
    have hd : delF u l = l := hf
    refine EndH.intro (fun _ => .inl rfl) ⟨q, ?_, ?_⟩
    · rw [hd]; rfl
    · rw [hd, Nat.sub_self]; simp
  · have hne : ¬ ((0 : Int) + n = -1) := by omega
    rw [Int.zero_add] at hne ⊢
    (repeat ((first | refine N0 ?_ | refine A0 fun γ => ?_ | refine C1 ?_ | refine C2 ?_ | refine C3 ?_ | refine C4 ?_ | refine C5 ?_ | refine C6 ?_ | refine C7 ?_ | refine D0 fun γs => ?_ | refine A1 fun γs => ?_ | refine N2 ?_ | refine N3 ?_ | refine N1 ?_); ((conv => whnf); repeat ((first | refine Sw.o ?_ | refine B0 ?_); conv => whnf))))
    refine LoopP.intro (fun m σ H => ∃ i j, ∃ xs : List Int, i < j ∧ j ≤ l.length ∧ m = l.length - j ∧ xs.length = l.length ∧ xs.take i = delF u (l.take j) ∧ xs.drop j = l.drop j ∧
      σ = fr [(0, .own 0 q 0 l.length), (1, .fn (.func 44) [] [.ep (encI u) 0]), (5, encI i), (6, encI j)] ∧ H = hp [(0, q, ⟨3, 1, xs.map encI⟩)]) ?_ ?_
    · exact .intro <| W.of ⟨_, n, n + 1, l, by omega, hn, rfl, rfl, hf.symm, rfl, rfl, rfl⟩ ⟨rfl, rfl, rfl, rfl, trivial⟩ ⟨rfl, trivial⟩
    · rintro m σ H ⟨i, j, xs, hij, hj, rfl, hxl, hxi, hxj, rfl, rfl⟩
      have hxl' : (xs.map encI).length = l.length := by simpa using hxl
      ((conv => whnf); repeat ((first | refine Sw.o ?_ | refine B0 ?_); conv => whnf))
      (repeat ((first | refine N0 ?_ | refine A0 fun γ => ?_ | refine C1 ?_ | refine C2 ?_ | refine C3 ?_ | refine C4 ?_ | refine C5 ?_ | refine C6 ?_ | refine C7 ?_ | refine D0 fun γs => ?_ | refine A1 fun γs => ?_ | refine N2 ?_ | refine N3 ?_ | refine N1 ?_); ((conv => whnf); repeat ((first | refine Sw.o ?_ | refine B0 ?_); conv => whnf))))
      refine CondP.dec (fun h => ?_) (fun h => ?_) <;> ((conv => whnf); repeat ((first | refine Sw.o ?_ | refine B0 ?_); conv => whnf))
      · (have h2 := h; try simp only [LN] at h2)
        have hj' : j < xs.length := by omega
        have hjl : j < l.length := by omega
        rw [List.drop_eq_getElem_cons hj', List.drop_eq_getElem_cons hjl] at hxj
        injection hxj with hx0 hxj
        (repeat ((first | refine N0 ?_ | refine A0 fun γ => ?_ | refine C1 ?_ | refine C2 ?_ | refine C3 ?_ | refine C4 ?_ | refine C5 ?_ | refine C6 ?_ | refine C7 ?_ | refine D0 fun γs => ?_ | refine A1 fun γs => ?_ | refine N2 ?_ | refine N3 ?_ | refine N1 ?_); ((conv => whnf); repeat ((first | refine Sw.o ?_ | refine B0 ?_); conv => whnf))))
        (simp (disch := omega) only [LG]; ((conv => whnf); repeat ((first | refine Sw.o ?_ | refine B0 ?_); conv => whnf)))
        rw [hx0]
        have htk : delF u (l.take (j + 1)) = delF u (l.take j) ++ (if l[j] = u then [] else [l[j]]) := by
          rw [List.take_succ_eq_append_getElem hjl]
          simp only [delF, List.filter_append]
          by_cases e : l[j] = u <;> simp [e]
        generalize l[j] = x at htk ⊢
        (repeat ((first | refine N0 ?_ | refine A0 fun γ => ?_ | refine C1 ?_ | refine C2 ?_ | refine C3 ?_ | refine C4 ?_ | refine C5 ?_ | refine C6 ?_ | refine C7 ?_ | refine D0 fun γs => ?_ | refine A1 fun γs => ?_ | refine N2 ?_ | refine N3 ?_ | refine N1 ?_); ((conv => whnf); repeat ((first | refine Sw.o ?_ | refine B0 ?_); conv => whnf))))
        refine CallP.own c44 (HCall.mono (hcall_args (by rfl) (same44_ok u x _)) ?_)
        rintro r h' ⟨rfl, rfl⟩
        refine ⟨_, fun _ => .inl rfl, ?_⟩
        ((conv => whnf); repeat ((first | refine Sw.o ?_ | refine B0 ?_); conv => whnf))
        (repeat ((first | refine N0 ?_ | refine A0 fun γ => ?_ | refine C1 ?_ | refine C2 ?_ | refine C3 ?_ | refine C4 ?_ | refine C5 ?_ | refine C6 ?_ | refine C7 ?_ | refine D0 fun γs => ?_ | refine A1 fun γs => ?_ | refine N2 ?_ | refine N3 ?_ | refine N1 ?_); ((conv => whnf); repeat ((first | refine Sw.o ?_ | refine B0 ?_); conv => whnf))))
        refine CondP.dec (fun hx => ?_) (fun hx => ?_) <;> ((conv => whnf); repeat ((first | refine Sw.o ?_ | refine B0 ?_); conv => whnf))
        · rw [if_pos hx, List.append_nil] at htk
          (repeat ((first | refine N0 ?_ | refine A0 fun γ => ?_ | refine C1 ?_ | refine C2 ?_ | refine C3 ?_ | refine C4 ?_ | refine C5 ?_ | refine C6 ?_ | refine C7 ?_ | refine D0 fun γs => ?_ | refine A1 fun γs => ?_ | refine N2 ?_ | refine N3 ?_ | refine N1 ?_); ((conv => whnf); repeat ((first | refine Sw.o ?_ | refine B0 ?_); conv => whnf))))
          exact .intro <| W.of ⟨_, by omega, i, j + 1, xs, by omega, by omega, rfl, hxl, hxi.trans htk.symm, hxj, rfl, rfl⟩ ⟨rfl, rfl, rfl, rfl, trivial⟩ ⟨rfl, trivial⟩
        · rw [if_neg hx] at htk
          (repeat ((first | refine N0 ?_ | refine A0 fun γ => ?_ | refine C1 ?_ | refine C2 ?_ | refine C3 ?_ | refine C4 ?_ | refine C5 ?_ | refine C6 ?_ | refine C7 ?_ | refine D0 fun γs => ?_ | refine A1 fun γs => ?_ | refine N2 ?_ | refine N3 ?_ | refine N1 ?_ | simp (disch := omega) only [LG]); ((conv => whnf); repeat ((first | refine Sw.o ?_ | refine B0 ?_); conv => whnf))))
          refine .intro <| W.of ⟨_, by omega, i + 1, j + 1, xs.set i x, by omega, by omega, rfl, by simpa using hxl, ?_, ?_, rfl, rfl⟩ ⟨rfl, rfl, rfl, rfl, trivial⟩ ⟨?_, trivial⟩
          · rw [htk, ← hxi, List.take_succ_eq_append_getElem (by simp; omega), List.take_set_of_le (Nat.le_refl _), List.getElem_set_self]
          · rw [List.drop_set_of_lt (by omega), hxj]
          · rw [← set_map (x := x) (h := rfl)]; rfl
      · (have h2 := h; try simp only [LN] at h2)
        have hjl : j = l.length := by omega
        subst hjl
        rw [List.take_length] at hxi
        have hil : i = (delF u l).length := by rw [← hxi]; simp; omega
        (repeat ((first | refine N0 ?_ | refine A0 fun γ => ?_ | refine C1 ?_ | refine C2 ?_ | refine C3 ?_ | refine C4 ?_ | refine C5 ?_ | refine C6 ?_ | refine C7 ?_ | refine D0 fun γs => ?_ | refine A1 fun γs => ?_ | refine N2 ?_ | refine N3 ?_ | refine N1 ?_); ((conv => whnf); repeat ((first | refine Sw.o ?_ | refine B0 ?_); conv => whnf))))
        refine EndH.of (m := [(0, q, ⟨3, 1, (delF u l ++ List.replicate (l.length - (delF u l).length) 0).map encI⟩)]) ⟨?_, trivial⟩ ⟨q, ?_, rfl⟩
        · show some (q, spl ⟨3, 1, xs.map encI⟩ (0 + (i : Int).toNat) (List.replicate (l.length - (i : Int).toNat) (encI 0))) = _
          unfold spl
          simp only [Int.toNat_natCast, Nat.zero_add, List.length_replicate, List.map_append, List.map_replicate, ← List.map_take, hxi, ← hil]
          rw [List.drop_eq_nil_of_le (by simp; omega), List.append_nil]
        · show AV.own 0 q 0 ((i : Int).toNat - 0) = _
          rw [← hil]; rfl
end Go.Proofs.Ytgeeklnokblokaa
namespace Go.Proofs.Ytgeeklnokblokaa
open Go Go.Fw
theorem sizeL_n (g : G) (ne no : List Bool) : ∀ (l : List Nat) (s : List Int × Int), s.2 ≤ sizeL g ne no l s ∧ sizeL g ne no l s ≤ s.2 + l.length
  | [], s => by simp [sizeL]
  | e :: r, s => by
    unfold sizeL
    simp only [List.length_cons]
    split
    · have := sizeL_n g ne no r s; omega
    · split
      · rename_i t _; have := sizeL_n g ne no r (t.1, s.2 + 1); simp only at this; omega
      · rename_i t _; have := sizeL_n g ne no r (t.1, s.2); simp only at this; omega
theorem sizeF_n (g : G) (ne no : List Bool) : 0 ≤ sizeF g ne no ∧ sizeF g ne no ≤ g.eqs.length := by
  unfold sizeF
  have := sizeL_n g ne no (List.range' 0 g.eqs.length) (List.replicate g.uses.length (-1), 0)
  simp only [List.length_range'] at this
  omega
abbrev RS := Int × Int × List Bool
def mrL (g : G) (ne : List Bool) : List Int → RS → RS
  | [], s => s
  | u :: r, s => match decide (s.1 < 0) with
    | false => s
    | true => match s.2.2.getD u.toNat false with
      | true => mrL g ne r s
      | false => match decide (sizeF g ne (s.2.2.set u.toNat true) = s.2.1 - 1) with
        | true => mrL g ne r (u, s.2.1 - 1, s.2.2.set u.toNat true)
        | false => mrL g ne r s
def mrO (g : G) : List Nat → Int × List Bool × List Bool → List Int → List Int
  | [], _, out => out
  | e :: r, s, out => mrO g r ((mrL g (s.2.1.set e true) (g.joined.getD e []) (-1, s.1, s.2.2)).2.1, s.2.1.set e true, (mrL g (s.2.1.set e true) (g.joined.getD e []) (-1, s.1, s.2.2)).2.2) (out ++ [(mrL g (s.2.1.set e true) (g.joined.getD e []) (-1, s.1, s.2.2)).1])
def matchR (g : G) : List Int := mrO g (List.range' 0 g.eqs.length) (SizeF g, fe g, fu g) []
def MatchR (g : G) : List Int × Int := match decide (checkF g = 0) with
  | true => (matchR g, 0)
  | false => ([], checkF g)
theorem set_back {l : List Bool} {i : Nat} (h : l.getD i false = false) (hi : i < l.length) : (l.set i true).set i false = l := by
  apply List.ext_getElem
  · simp
  · intro j h1 h2
    simp only [List.getElem_set]
    split
    · rename_i e; subst e; rw [getD_lt _ _ _ hi] at h; exact h.symm
    · rfl
set_option maxHeartbeats 4000000 in
set_option maxRecDepth 100000 in
theorem match13_ok (g : G) (hz : Sz g) : PureCall Try.prog 13 [encG g] (.tup [encL (MatchR g).1, encI (MatchR g).2]) := by
  refine pure_cp (E := E 0) T_ok (D_ok 0) [100] Try.func13 rfl (by rfl) (Nat.le_of_ble_eq_true rfl) ?_
  generalize hR : MatchR g = R
  unfold MatchR at hR
  ((conv => whnf); repeat ((first | refine Sw.o ?_ | refine B0 ?_); conv => whnf))
  (repeat ((first | refine N0 ?_ | refine A0 fun γ => ?_ | refine C1 ?_ | refine C2 ?_ | refine C3 ?_ | refine C4 ?_ | refine C5 ?_ | refine C6 ?_ | refine C7 ?_ | refine D0 fun γs => ?_ | refine A1 fun γs => ?_ | refine N2 ?_ | refine N3 ?_ | refine N1 ?_); ((conv => whnf); repeat ((first | refine Sw.o ?_ | refine B0 ?_); conv => whnf))))
  refine CallP.flat [] (encI (checkF g)) c37 (check37_ok g hz) rfl ?_
  ((conv => whnf); repeat ((first | refine Sw.o ?_ | refine B0 ?_); conv => whnf))
  (repeat ((first | refine N0 ?_ | refine A0 fun γ => ?_ | refine C1 ?_ | refine C2 ?_ | refine C3 ?_ | refine C4 ?_ | refine C5 ?_ | refine C6 ?_ | refine C7 ?_ | refine D0 fun γs => ?_ | refine A1 fun γs => ?_ | refine N2 ?_ | refine N3 ?_ | refine N1 ?_); ((conv => whnf); repeat ((first | refine Sw.o ?_ | refine B0 ?_); conv => whnf))))
  refine CondP.dec (fun h => ?_) (fun h => ?_) <;> ((conv => whnf); repeat ((first | refine Sw.o ?_ | refine B0 ?_); conv => whnf))
  · rw [decide_eq_true h] at hR
    have hg := (check_wf h).1
    have su := hg.su
    have se := hg.se
    have hjl := hg.len
    have lf := fe_len g
    have lu := fu_len g
    (repeat ((first | refine N0 ?_ | refine A0 fun γ => ?_ | refine C1 ?_ | refine C2 ?_ | refine C3 ?_ | refine C4 ?_ | refine C5 ?_ | refine C6 ?_ | refine C7 ?_ | refine D0 fun γs => ?_ | refine A1 fun γs => ?_ | refine N2 ?_ | refine N3 ?_ | refine N1 ?_); ((conv => whnf); repeat ((first | refine Sw.o ?_ | refine B0 ?_); conv => whnf))))
    refine CallP.flat [21, 25] (encI (SizeF g)) c38 (pure_args ?_ (size_ok g hg _ _ lf lu)) rfl ?_
    · simp only [List.length_map, Int.toNat_natCast]
      show [encG g, snap [21, 25] _ (.own 21 _ 0 g.eqs.length), snap [21, 25] _ (.own 25 _ 0 g.uses.length)] = _
      rw [snap_own (B := ⟨4, 1, (fe g).map encB⟩) (by simp) (by unfold fe; rw [← rep_encB]; rfl) (by simp [lf]), snap_own (B := ⟨4, 1, (fu g).map encB⟩) (by simp) (by unfold fu; rw [← rep_encB]; rfl) (by simp [lu]),
        snap_list _ _ _ _ (by simp [lf]) (fun _ => rfl), snap_list _ _ _ _ (by simp [lu]) (fun _ => rfl)]
      rfl
    simp only at hR
    generalize hM : matchR g = M at hR
    unfold matchR at hM
    have hs := sizeF_n g (fe g) (fu g)
    rw [show sizeF g (fe g) (fu g) = SizeF g from rfl] at hs
    generalize SizeF g = left at hM hs ⊢
    ((conv => whnf); repeat ((first | refine Sw.o ?_ | refine B0 ?_); conv => whnf))
    (repeat ((first | refine N0 ?_ | refine A0 fun γ => ?_ | refine C1 ?_ | refine C2 ?_ | refine C3 ?_ | refine C4 ?_ | refine C5 ?_ | refine C6 ?_ | refine C7 ?_ | refine D0 fun γs => ?_ | refine A1 fun γs => ?_ | refine N2 ?_ | refine N3 ?_ | refine N1 ?_); ((conv => whnf); repeat ((first | refine Sw.o ?_ | refine B0 ?_); conv => whnf))))
    simp only [List.length_map, Int.toNat_natCast]
    refine LoopP.intro (fun m σ H => ∃ p1 p21 p25 p100 i, ∃ l : Int, ∃ ne no : List Bool, ∃ out : List Int, i ≤ g.eqs.length ∧ m = g.eqs.length - i ∧ out.length = i ∧ ne.length = g.eqs.length ∧ no.length = g.uses.length ∧ -(i : Int) ≤ l ∧ l ≤ g.eqs.length ∧
      mrO g (List.range' i (g.eqs.length - i)) (l, ne, no) out = M ∧
      σ = fr [(1, .op 1 p1 0 0), (5, .own 21 p21 0 g.eqs.length), (6, .own 25 p25 0 g.uses.length), (7, encI l), (8, .own 100 p100 0 i), (9, encI i)] ∧
      H = hp [(1, p1, ⟨26, 3, [encG g]⟩), (21, p21, ⟨4, 1, ne.map encB⟩), (25, p25, ⟨4, 1, no.map encB⟩), (100, p100, ⟨3, 1, out.map encI⟩)]) ?_ ?_
    · exact .intro <| W.mat 8 100 3 1 rfl rfl fun γ => W.of ⟨_, _, _, _, _, 0, left, fe g, fu g, [], Nat.zero_le _, rfl, rfl, lf, lu, by omega, hs.2, hM, rfl, rfl⟩ ⟨rfl, rfl, rfl, rfl, rfl, rfl, trivial⟩ ⟨rfl, by unfold fe; rw [← rep_encB]; rfl, by unfold fu; rw [← rep_encB]; rfl, rfl, trivial⟩
    · rintro m σ H ⟨p1, p21, p25, p100, i, l, ne, no, out, hi, rfl, hol, hne, hno, hl0, hl1, hO, rfl, rfl⟩
      have hl1' : (ne.map encB).length = g.eqs.length := by simpa using hne
      have hl2 : (no.map encB).length = g.uses.length := by simpa using hno
      ((conv => whnf); repeat ((first | refine Sw.o ?_ | refine B0 ?_); conv => whnf))
      (repeat ((first | refine N0 ?_ | refine A0 fun γ => ?_ | refine C1 ?_ | refine C2 ?_ | refine C3 ?_ | refine C4 ?_ | refine C5 ?_ | refine C6 ?_ | refine C7 ?_ | refine D0 fun γs => ?_ | refine A1 fun γs => ?_ | refine N2 ?_ | refine N3 ?_ | refine N1 ?_); ((conv => whnf); repeat ((first | refine Sw.o ?_ | refine B0 ?_); conv => whnf))))
      refine CondP.dec (fun h => ?_) (fun h => ?_) <;> ((conv => whnf); repeat ((first | refine Sw.o ?_ | refine B0 ?_); conv => whnf))
      · (have h2 := h; try simp only [LN] at h2)
        have hi' : i < g.joined.length := by omega
        have sl := hg.sl _ (List.getElem_mem hi')
        have hin := hg.in_ _ (List.getElem_mem hi')
        rw [show g.eqs.length - i = (g.eqs.length - (i + 1)) + 1 by omega, List.range'_succ] at hO
        unfold mrO at hO
        rw [getD_lt _ _ _ hi'] at hO
        (repeat ((first | refine N0 ?_ | refine A0 fun γ => ?_ | refine C1 ?_ | refine C2 ?_ | refine C3 ?_ | refine C4 ?_ | refine C5 ?_ | refine C6 ?_ | refine C7 ?_ | refine D0 fun γs => ?_ | refine A1 fun γs => ?_ | refine N2 ?_ | refine N3 ?_ | refine N1 ?_ | simp (disch := omega) only [LG]); ((conv => whnf); repeat ((first | refine Sw.o ?_ | refine B0 ?_); conv => whnf))))
        have hs1 : (List.map encB ne).set i (AV.val (Value.bool true)) = (ne.set i true).map encB := by rw [← set_map (x := true) (h := rfl)]; rfl
        have hl3 : (ne.set i true).length = g.eqs.length := by simpa using hne
        simp only [hs1]
        generalize ne.set i true = ne' at hl3 hO ⊢
        generalize hU : mrL g ne' g.joined[i] (-1, l, no) = U at hO
        (repeat ((first | refine N0 ?_ | refine A0 fun γ => ?_ | refine C1 ?_ | refine C2 ?_ | refine C3 ?_ | refine C4 ?_ | refine C5 ?_ | refine C6 ?_ | refine C7 ?_ | refine A1 fun γs => ?_ | refine N2 ?_ | refine N3 ?_ | refine N1 ?_); ((conv => whnf); repeat ((first | refine Sw.o ?_ | refine B0 ?_); conv => whnf))))
        refine LoopP.intro (fun m σ H => ∃ p1 p21 p25 p100 k, ∃ s : RS, k ≤ (g.joined[i]).length ∧ m = (g.joined[i]).length - k ∧ s.2.2.length = g.uses.length ∧ -((i : Int) + 1) ≤ s.2.1 ∧ (s.1 < 0 → -(i : Int) ≤ s.2.1) ∧ s.2.1 ≤ g.eqs.length ∧ mrL g ne' ((g.joined[i]).drop k) s = U ∧
          σ = fr [(1, .op 1 p1 0 0), (5, .own 21 p21 0 g.eqs.length), (6, .own 25 p25 0 g.uses.length), (7, encI s.2.1), (8, .own 100 p100 0 i), (9, encI i), (10, encI s.1), (11, encI k)] ∧
          H = hp [(1, p1, ⟨26, 3, [encG g]⟩), (21, p21, ⟨4, 1, ne'.map encB⟩), (25, p25, ⟨4, 1, s.2.2.map encB⟩), (100, p100, ⟨3, 1, out.map encI⟩)]) ?_ ?_
        · exact .intro <| W.of ⟨_, _, _, _, _, 0, (-1, l, no), Nat.zero_le _, rfl, hno, by simp only; omega, fun _ => hl0, hl1, hU, rfl, rfl⟩ ⟨rfl, rfl, rfl, rfl, rfl, rfl, rfl, rfl, trivial⟩ ⟨rfl, rfl, rfl, rfl, trivial⟩
        · rintro m σ H ⟨p1, p21, p25, p100, k, s, hk, rfl, hsl, hs0, hs0', hs1, hL, rfl, rfl⟩
          have hl2 : (s.2.2.map encB).length = g.uses.length := by simpa using hsl
          ((conv => whnf); repeat ((first | refine Sw.o ?_ | refine B0 ?_); conv => whnf))
          (repeat ((first | refine N0 ?_ | refine A0 fun γ => ?_ | refine C1 ?_ | refine C2 ?_ | refine C3 ?_ | refine C4 ?_ | refine C5 ?_ | refine C6 ?_ | refine C7 ?_ | refine D0 fun γs => ?_ | refine A1 fun γs => ?_ | refine N2 ?_ | refine N3 ?_ | refine N1 ?_); ((conv => whnf); repeat ((first | refine Sw.o ?_ | refine B0 ?_); conv => whnf))))
          (simp (disch := omega) only [LG]; ((conv => whnf); repeat ((first | refine Sw.o ?_ | refine B0 ?_); conv => whnf)))
          (repeat ((first | refine N0 ?_ | refine A0 fun γ => ?_ | refine C1 ?_ | refine C2 ?_ | refine C3 ?_ | refine C4 ?_ | refine C5 ?_ | refine C6 ?_ | refine C7 ?_ | refine D0 fun γs => ?_ | refine A1 fun γs => ?_ | refine N2 ?_ | refine N3 ?_ | refine N1 ?_); ((conv => whnf); repeat ((first | refine Sw.o ?_ | refine B0 ?_); conv => whnf))))
          refine CondP.dec (fun h => ?_) (fun h => ?_) <;> ((conv => whnf); repeat ((first | refine Sw.o ?_ | refine B0 ?_); conv => whnf))
          · (have h2 := h; try simp only [LN] at h2)
            have hk' : k < (g.joined[i]).length := by omega
            (repeat ((first | refine N0 ?_ | refine A0 fun γ => ?_ | refine C1 ?_ | refine C2 ?_ | refine C3 ?_ | refine C4 ?_ | refine C5 ?_ | refine C6 ?_ | refine C7 ?_ | refine D0 fun γs => ?_ | refine A1 fun γs => ?_ | refine N2 ?_ | refine N3 ?_ | refine N1 ?_); ((conv => whnf); repeat ((first | refine Sw.o ?_ | refine B0 ?_); conv => whnf))))
            refine CondP.dec (fun hn => ?_) (fun hn => ?_) <;> ((conv => whnf); repeat ((first | refine Sw.o ?_ | refine B0 ?_); conv => whnf))
            · have hu := hin _ (List.getElem_mem hk')
              rw [List.drop_eq_getElem_cons hk'] at hL
              (repeat ((first | refine N0 ?_ | refine A0 fun γ => ?_ | refine C1 ?_ | refine C2 ?_ | refine C3 ?_ | refine C4 ?_ | refine C5 ?_ | refine C6 ?_ | refine C7 ?_ | refine D0 fun γs => ?_ | refine A1 fun γs => ?_ | refine N2 ?_ | refine N3 ?_ | refine N1 ?_); ((conv => whnf); repeat ((first | refine Sw.o ?_ | refine B0 ?_); conv => whnf))))
              (simp (disch := omega) only [LG]; ((conv => whnf); repeat ((first | refine Sw.o ?_ | refine B0 ?_); conv => whnf)))
              (repeat ((first | refine N0 ?_ | refine A0 fun γ => ?_ | refine C1 ?_ | refine C2 ?_ | refine C3 ?_ | refine C4 ?_ | refine C5 ?_ | refine C6 ?_ | refine C7 ?_ | refine D0 fun γs => ?_ | refine A1 fun γs => ?_ | refine N2 ?_ | refine N3 ?_ | refine N1 ?_); ((conv => whnf); repeat ((first | refine Sw.o ?_ | refine B0 ?_); conv => whnf))))
              (simp (disch := omega) only [LG]; ((conv => whnf); repeat ((first | refine Sw.o ?_ | refine B0 ?_); conv => whnf)))
              generalize g.joined[i][k] = u at hu hL ⊢
              have hut : u.toNat < s.2.2.length := by omega
              unfold mrL at hL
              rw [decide_eq_true hn] at hL
              simp only at hL
              (repeat ((first | refine N0 ?_ | refine A0 fun γ => ?_ | refine C1 ?_ | refine C2 ?_ | refine C3 ?_ | refine C4 ?_ | refine C5 ?_ | refine C6 ?_ | refine C7 ?_ | refine D0 fun γs => ?_ | refine A1 fun γs => ?_ | refine N2 ?_ | refine N3 ?_ | refine N1 ?_); ((conv => whnf); repeat ((first | refine Sw.o ?_ | refine B0 ?_); conv => whnf))))
              (simp (disch := omega) only [LG]; ((conv => whnf); repeat ((first | refine Sw.o ?_ | refine B0 ?_); conv => whnf)))
              have hgd : s.2.2.getD u.toNat false = s.2.2[u.toNat] := getD_lt _ _ _ hut
              refine CondP.intro (fun h => ?_) (fun h => ?_) <;> ((conv => whnf); repeat ((first | refine Sw.o ?_ | refine B0 ?_); conv => whnf))
              · rw [hgd, h] at hL
                (repeat ((first | refine N0 ?_ | refine A0 fun γ => ?_ | refine C1 ?_ | refine C2 ?_ | refine C3 ?_ | refine C4 ?_ | refine C5 ?_ | refine C6 ?_ | refine C7 ?_ | refine D0 fun γs => ?_ | refine A1 fun γs => ?_ | refine N2 ?_ | refine N3 ?_ | refine N1 ?_); ((conv => whnf); repeat ((first | refine Sw.o ?_ | refine B0 ?_); conv => whnf))))
                exact .intro <| W.of ⟨_, by omega, _, _, _, _, k + 1, s, hk', rfl, hsl, hs0, hs0', hs1, hL, rfl, rfl⟩ ⟨rfl, rfl, rfl, rfl, rfl, rfl, rfl, rfl, trivial⟩ ⟨rfl, rfl, rfl, rfl, trivial⟩
              · rw [hgd, h] at hL
                simp only at hL
                have hsb := set_back (hgd.trans h) hut
                (repeat ((first | refine N0 ?_ | refine A0 fun γ => ?_ | refine C1 ?_ | refine C2 ?_ | refine C3 ?_ | refine C4 ?_ | refine C5 ?_ | refine C6 ?_ | refine C7 ?_ | refine D0 fun γs => ?_ | refine A1 fun γs => ?_ | refine N2 ?_ | refine N3 ?_ | refine N1 ?_); ((conv => whnf); repeat ((first | refine Sw.o ?_ | refine B0 ?_); conv => whnf))))
                rw [Nat.zero_add, getD_map (h := hut)]
                ((conv => whnf); repeat ((first | refine Sw.o ?_ | refine B0 ?_); conv => whnf))
                (repeat ((first | refine N0 ?_ | refine A0 fun γ => ?_ | refine C1 ?_ | refine C2 ?_ | refine C3 ?_ | refine C4 ?_ | refine C5 ?_ | refine C6 ?_ | refine C7 ?_ | refine D0 fun γs => ?_ | refine A1 fun γs => ?_ | refine N2 ?_ | refine N3 ?_ | refine N1 ?_); ((conv => whnf); repeat ((first | refine Sw.o ?_ | refine B0 ?_); conv => whnf))))
                have hsn : (List.map encB s.2.2).set u.toNat (AV.val (Value.bool true)) = (s.2.2.set u.toNat true).map encB := by rw [← set_map (x := true) (h := rfl)]; rfl
                have hl4 : (s.2.2.set u.toNat true).length = g.uses.length := by simpa using hsl
                have hl5 : ((s.2.2.set u.toNat true).map encB).length = g.uses.length := by simpa using hsl
                simp only [hsn]
                refine CallP.flat [21, 25] (encI (sizeF g ne' (s.2.2.set u.toNat true))) c38 (pure_args ?_ (size_ok g hg ne' (s.2.2.set u.toNat true) hl3 hl4)) rfl ?_
                · show [encG g, snap [21, 25] _ (.own 21 _ 0 g.eqs.length), snap [21, 25] _ (.own 25 _ 0 g.uses.length)] = _
                  rw [snap_own (B := ⟨4, 1, ne'.map encB⟩) (by simp) rfl (by simp [hl3]), snap_own (B := ⟨4, 1, (s.2.2.set u.toNat true).map encB⟩) (by simp) rfl (by simp [hsl]),
                    snap_list _ _ _ _ hl3.symm (fun _ => rfl), snap_list _ _ _ _ hl4.symm (fun _ => rfl)]
                  rfl
                ((conv => whnf); repeat ((first | refine Sw.o ?_ | refine B0 ?_); conv => whnf))
                (repeat ((first | refine N0 ?_ | refine A0 fun γ => ?_ | refine C1 ?_ | refine C2 ?_ | refine C3 ?_ | refine C4 ?_ | refine C5 ?_ | refine C6 ?_ | refine C7 ?_ | refine D0 fun γs => ?_ | refine A1 fun γs => ?_ | refine N2 ?_ | refine N3 ?_ | refine N1 ?_); ((conv => whnf); repeat ((first | refine Sw.o ?_ | refine B0 ?_); conv => whnf))))
                refine CondP.dec (fun hz => ?_) (fun hz => ?_) <;> ((conv => whnf); repeat ((first | refine Sw.o ?_ | refine B0 ?_); conv => whnf))
                · rw [decide_eq_true hz] at hL
                  (repeat ((first | refine N0 ?_ | refine A0 fun γ => ?_ | refine C1 ?_ | refine C2 ?_ | refine C3 ?_ | refine C4 ?_ | refine C5 ?_ | refine C6 ?_ | refine C7 ?_ | refine D0 fun γs => ?_ | refine A1 fun γs => ?_ | refine N2 ?_ | refine N3 ?_ | refine N1 ?_); ((conv => whnf); repeat ((first | refine Sw.o ?_ | refine B0 ?_); conv => whnf))))
                  exact .intro <| W.of ⟨_, by omega, _, _, _, _, k + 1, (u, s.2.1 - 1, s.2.2.set u.toNat true), hk', rfl, hl4, by simp only; omega, by simp only; omega, by simp only; omega, hL, rfl, rfl⟩ ⟨rfl, rfl, rfl, rfl, rfl, rfl, rfl, rfl, trivial⟩ ⟨rfl, rfl, rfl, rfl, trivial⟩
                · rw [decide_eq_false hz] at hL
                  have hut4 : u.toNat < (s.2.2.set u.toNat true).length := by omega
                  (repeat ((first | refine N0 ?_ | refine A0 fun γ => ?_ | refine C1 ?_ | refine C2 ?_ | refine C3 ?_ | refine C4 ?_ | refine C5 ?_ | refine C6 ?_ | refine C7 ?_ | refine D0 fun γs => ?_ | refine A1 fun γs => ?_ | refine N2 ?_ | refine N3 ?_ | refine N1 ?_); ((conv => whnf); repeat ((first | refine Sw.o ?_ | refine B0 ?_); conv => whnf))))
                  rw [Nat.zero_add, getD_map (h := hut4)]
                  ((conv => whnf); repeat ((first | refine Sw.o ?_ | refine B0 ?_); conv => whnf))
                  (repeat ((first | refine N0 ?_ | refine A0 fun γ => ?_ | refine C1 ?_ | refine C2 ?_ | refine C3 ?_ | refine C4 ?_ | refine C5 ?_ | refine C6 ?_ | refine C7 ?_ | refine D0 fun γs => ?_ | refine A1 fun γs => ?_ | refine N2 ?_ | refine N3 ?_ | refine N1 ?_); ((conv => whnf); repeat ((first | refine Sw.o ?_ | refine B0 ?_); conv => whnf))))
                  refine .intro <| W.of ⟨_, by omega, _, _, _, _, k + 1, s, hk', rfl, hsl, hs0, hs0', hs1, hL, rfl, rfl⟩ ⟨rfl, rfl, rfl, rfl, rfl, rfl, rfl, rfl, trivial⟩ ⟨rfl, rfl, ?_, rfl, trivial⟩
                  show some (_, (⟨4, 1, (List.map encB (s.2.2.set u.toNat true)).set u.toNat (encB false)⟩ : Blk)) = _
                  rw [set_map (x := false) (h := rfl), hsb]
            · have hL' : s = U := by
                rw [← hL]
                cases hd : (g.joined[i]).drop k with
                | nil => rfl
                | cons u r => unfold mrL; rw [decide_eq_false hn]
              subst hL'
              (repeat ((first | refine N0 ?_ | refine A0 fun γ => ?_ | refine C1 ?_ | refine C2 ?_ | refine C3 ?_ | refine C4 ?_ | refine C5 ?_ | refine C6 ?_ | refine C7 ?_ | refine D0 fun γs => ?_ | refine A1 fun γs => ?_ | refine N2 ?_ | refine N3 ?_ | refine N1 ?_); ((conv => whnf); repeat ((first | refine Sw.o ?_ | refine B0 ?_); conv => whnf))))
              exact .intro <| W.of ⟨_, by omega, _, _, _, _, i + 1, s.2.1, ne', s.2.2, out ++ [s.1], by omega, rfl, by simp [hol], hl3, hsl, by omega, hs1, hO, rfl, rfl⟩ ⟨rfl, rfl, rfl, rfl, rfl, rfl, trivial⟩ ⟨rfl, rfl, rfl, by rw [← snoc_encI]; rfl, trivial⟩
          · (have h2 := h; try simp only [LN] at h2)
            rw [List.drop_eq_nil_of_le (by omega)] at hL
            simp only [mrL] at hL
            subst hL
            (repeat ((first | refine N0 ?_ | refine A0 fun γ => ?_ | refine C1 ?_ | refine C2 ?_ | refine C3 ?_ | refine C4 ?_ | refine C5 ?_ | refine C6 ?_ | refine C7 ?_ | refine D0 fun γs => ?_ | refine A1 fun γs => ?_ | refine N2 ?_ | refine N3 ?_ | refine N1 ?_); ((conv => whnf); repeat ((first | refine Sw.o ?_ | refine B0 ?_); conv => whnf))))
            exact .intro <| W.of ⟨_, by omega, _, _, _, _, i + 1, s.2.1, ne', s.2.2, out ++ [s.1], by omega, rfl, by simp [hol], hl3, hsl, by omega, hs1, hO, rfl, rfl⟩ ⟨rfl, rfl, rfl, rfl, rfl, rfl, trivial⟩ ⟨rfl, rfl, rfl, by rw [← snoc_encI]; rfl, trivial⟩
      · (have h2 := h; try simp only [LN] at h2)
        rw [show g.eqs.length - i = 0 by omega] at hO
        simp only [List.range'_zero, mrO] at hO
        subst hR
        subst hO
        (repeat ((first | refine N0 ?_ | refine A0 fun γ => ?_ | refine C1 ?_ | refine C2 ?_ | refine C3 ?_ | refine C4 ?_ | refine C5 ?_ | refine C6 ?_ | refine C7 ?_ | refine D0 fun γs => ?_ | refine A1 fun γs => ?_ | refine N2 ?_ | refine N3 ?_ | refine N1 ?_); ((conv => whnf); repeat ((first | refine Sw.o ?_ | refine B0 ?_); conv => whnf))))
        refine .of ?_
        show AV.tup [AV.sl 1 _, _] = AV.tup [AV.sl 1 _, _]
        rw [snap_list _ _ _ _ hol.symm (fun _ => rfl)]
        rfl
  · rw [decide_eq_false h] at hR
    subst hR
    (repeat ((first | refine N0 ?_ | refine A0 fun γ => ?_ | refine C1 ?_ | refine C2 ?_ | refine C3 ?_ | refine C4 ?_ | refine C5 ?_ | refine C6 ?_ | refine C7 ?_ | refine D0 fun γs => ?_ | refine A1 fun γs => ?_ | refine N2 ?_ | refine N3 ?_ | refine N1 ?_); ((conv => whnf); repeat ((first | refine Sw.o ?_ | refine B0 ?_); conv => whnf))))
    exact ends_tup2 (Le.nil 1) (Le.refl _)
end Go.Proofs.Ytgeeklnokblokaa
namespace Go.Proofs.Ytgeeklnokblokaa
open Go Go.Fw
def wolF (b : Bool) (u : Int) (l : List Int) : List Int := l.filter fun x => b || !decide (x = u)
def wojF (e u : Int) : Nat → List (List Int) → List (List Int)
  | _, [] => []
  | i, l :: r => wolF (!decide ((i : Int) = e)) u l :: wojF e u (i + 1) r
def withoutF (g : G) (e u : Int) : G := ⟨g.eqs, g.uses, wojF e u 0 g.joined⟩
theorem wojF_len (e u : Int) : ∀ (l : List (List Int)) (i : Nat), (wojF e u i l).length = l.length
  | [], _ => rfl
  | l :: r, i => by simp [wojF, wojF_len e u r (i + 1)]
theorem wojF_get (e u : Int) : ∀ (l : List (List Int)) (i k : Nat) (h : k < l.length) (h' : k < (wojF e u i l).length), (wojF e u i l)[k] = wolF (!decide (((i + k : Nat) : Int) = e)) u l[k]
  | l :: r, i, 0, h, _ => rfl
  | l :: r, i, k + 1, h, h' => by
    simp only [wojF, List.getElem_cons_succ]
    rw [wojF_get e u r (i + 1) k (by simpa using h) (by rw [wojF_len]; simpa using h)]
    rw [show i + 1 + k = i + (k + 1) by omega]
theorem wolF_len (b : Bool) (u : Int) (l : List Int) : (wolF b u l).length ≤ l.length := List.length_filter_le ..
theorem wolF_take (b : Bool) (u : Int) (l : List Int) (k : Nat) (h : k < l.length) : wolF b u (l.take (k + 1)) = wolF b u (l.take k) ++ (if b || !decide (l[k] = u) then [l[k]] else []) := by
  rw [List.take_succ_eq_append_getElem h]
  simp only [wolF, List.filter_append]
  cases b <;> by_cases e : l[k] = u <;> simp [e]
set_option maxHeartbeats 4000000 in
set_option maxRecDepth 100000 in
theorem without_ok (g : G) (hg : WF g) (e u : Int) : PureCall Try.prog 28 [encG g, encI e, encI u] (encG (withoutF g e u)) := by
  refine pure_cp (E := E 0) T_ok (D_ok 0) [102] Try.func28 rfl (by rfl) (Nat.le_of_ble_eq_true rfl) ?_
  have su := hg.su
  have se := hg.se
  have hjl := hg.len
  have hwl := wojF_len e u g.joined 0
  ((conv => whnf); repeat ((first | refine Sw.o ?_ | refine B0 ?_); conv => whnf))
  (repeat ((first | refine N0 ?_ | refine A0 fun γ => ?_ | refine C1 ?_ | refine C2 ?_ | refine C3 ?_ | refine C4 ?_ | refine C5 ?_ | refine C6 ?_ | refine C7 ?_ | refine D0 fun γs => ?_ | refine A1 fun γs => ?_ | refine N2 ?_ | refine N3 ?_ | refine N1 ?_); ((conv => whnf); repeat ((first | refine Sw.o ?_ | refine B0 ?_); conv => whnf))))
  refine LoopP.intro (fun m σ H => ∃ p3 p6 p7 p102 i, i ≤ g.joined.length ∧ m = g.joined.length - i ∧
    σ = fr [(1, encI e), (2, encI u), (3, .op 3 p3 0 0), (6, .op 6 p6 0 0), (7, .op 7 p7 0 0), (8, encI i)] ∧
    H = hp [(3, p3, ⟨26, 3, [encG g]⟩), (6, p6, ⟨26, 3, [.agg [.val (.slice none 0 0), .val (.slice none 0 0), .val (.slice none 0 0)]]⟩), (7, p7, ⟨26, 3, [.agg [.sl 1 (g.eqs.map encS), .sl 3 (g.uses.map encU), .own 102 p102 0 i]]⟩), (102, p102, ⟨29, 1, ((wojF e u 0 g.joined).take i).map encL⟩)]) ?_ ?_
  · exact .intro <| W.matc 7 _ 0 2 102 29 1 _ _ rfl rfl rfl rfl (by omega) fun γ => W.of ⟨_, _, _, _, _, 0, Nat.zero_le _, rfl, rfl, rfl⟩ ⟨rfl, rfl, rfl, rfl, rfl, rfl, trivial⟩ ⟨rfl, rfl, rfl, rfl, trivial⟩
  · rintro m σ H ⟨p3, p6, p7, p102, i, hi, rfl, rfl, rfl⟩
    ((conv => whnf); repeat ((first | refine Sw.o ?_ | refine B0 ?_); conv => whnf))
    (repeat ((first | refine N0 ?_ | refine A0 fun γ => ?_ | refine C1 ?_ | refine C2 ?_ | refine C3 ?_ | refine C4 ?_ | refine C5 ?_ | refine C6 ?_ | refine C7 ?_ | refine D0 fun γs => ?_ | refine A1 fun γs => ?_ | refine N2 ?_ | refine N3 ?_ | refine N1 ?_); ((conv => whnf); repeat ((first | refine Sw.o ?_ | refine B0 ?_); conv => whnf))))
    refine CondP.dec (fun h => ?_) (fun h => ?_) <;> ((conv => whnf); repeat ((first | refine Sw.o ?_ | refine B0 ?_); conv => whnf))
    · (have h2 := h; try simp only [LN] at h2)
      have hi' : i < g.joined.length := by omega
      have sl := hg.sl _ (List.getElem_mem hi')
      have hwg := wojF_get e u g.joined 0 i hi' (by omega)
      rw [Nat.zero_add] at hwg
      (repeat ((first | refine N0 ?_ | refine A0 fun γ => ?_ | refine C1 ?_ | refine C2 ?_ | refine C3 ?_ | refine C4 ?_ | refine C5 ?_ | refine C6 ?_ | refine C7 ?_ | refine D0 fun γs => ?_ | refine A1 fun γs => ?_ | refine N2 ?_ | refine N3 ?_ | refine N1 ?_); ((conv => whnf); repeat ((first | refine Sw.o ?_ | refine B0 ?_); conv => whnf))))
      refine LoopP.intro (fun m σ H => ∃ p3 p6 p7 p102 p101 k, ∃ n : Nat, k ≤ (g.joined[i]).length ∧ m = (g.joined[i]).length - k ∧ n = (wolF (!decide ((i : Int) = e)) u ((g.joined[i]).take k)).length ∧
        σ = fr [(1, encI e), (2, encI u), (3, .op 3 p3 0 0), (6, .op 6 p6 0 0), (7, .op 7 p7 0 0), (8, encI i), (9, .own 101 p101 0 n), (10, encI k)] ∧
        H = hp [(3, p3, ⟨26, 3, [encG g]⟩), (6, p6, ⟨26, 3, [.agg [.val (.slice none 0 0), .val (.slice none 0 0), .val (.slice none 0 0)]]⟩), (7, p7, ⟨26, 3, [.agg [.sl 1 (g.eqs.map encS), .sl 3 (g.uses.map encU), .own 102 p102 0 i]]⟩), (102, p102, ⟨29, 1, ((wojF e u 0 g.joined).take i).map encL⟩),
          (101, p101, ⟨3, 1, (wolF (!decide ((i : Int) = e)) u ((g.joined[i]).take k)).map encI⟩)]) ?_ ?_
      · exact .intro <| W.mat 9 101 3 1 rfl rfl fun γ => W.of ⟨_, _, _, _, _, _, 0, 0, Nat.zero_le _, rfl, rfl, rfl, rfl⟩ ⟨rfl, rfl, rfl, rfl, rfl, rfl, rfl, rfl, trivial⟩ ⟨rfl, rfl, rfl, rfl, rfl, trivial⟩
      · rintro m σ H ⟨p3, p6, p7, p102, p101, k, n, hk, rfl, hn, rfl, rfl⟩
        ((conv => whnf); repeat ((first | refine Sw.o ?_ | refine B0 ?_); conv => whnf))
        (repeat ((first | refine N0 ?_ | refine A0 fun γ => ?_ | refine C1 ?_ | refine C2 ?_ | refine C3 ?_ | refine C4 ?_ | refine C5 ?_ | refine C6 ?_ | refine C7 ?_ | refine D0 fun γs => ?_ | refine A1 fun γs => ?_ | refine N2 ?_ | refine N3 ?_ | refine N1 ?_); ((conv => whnf); repeat ((first | refine Sw.o ?_ | refine B0 ?_); conv => whnf))))
        (simp (disch := omega) only [LG]; ((conv => whnf); repeat ((first | refine Sw.o ?_ | refine B0 ?_); conv => whnf)))
        (repeat ((first | refine N0 ?_ | refine A0 fun γ => ?_ | refine C1 ?_ | refine C2 ?_ | refine C3 ?_ | refine C4 ?_ | refine C5 ?_ | refine C6 ?_ | refine C7 ?_ | refine D0 fun γs => ?_ | refine A1 fun γs => ?_ | refine N2 ?_ | refine N3 ?_ | refine N1 ?_); ((conv => whnf); repeat ((first | refine Sw.o ?_ | refine B0 ?_); conv => whnf))))
        refine CondP.dec (fun h => ?_) (fun h => ?_)
        · ((conv => whnf); repeat ((first | refine Sw.o ?_ | refine B0 ?_); conv => whnf))
          (repeat ((first | refine N0 ?_ | refine A0 fun γ => ?_ | refine C1 ?_ | refine C2 ?_ | refine C3 ?_ | refine C4 ?_ | refine C5 ?_ | refine C6 ?_ | refine C7 ?_ | refine D0 fun γs => ?_ | refine A1 fun γs => ?_ | refine N2 ?_ | refine N3 ?_ | refine N1 ?_); ((conv => whnf); repeat ((first | refine Sw.o ?_ | refine B0 ?_); conv => whnf))))
          have hk' : k < (g.joined[i]).length := by simpa using h
          have hwt := wolF_take (!decide ((i : Int) = e)) u g.joined[i] k hk'
          have hwl := wolF_len (!decide ((i : Int) = e)) u ((g.joined[i]).take k)
          rw [List.length_take] at hwl
          refine CondP.dec (fun he => ?_) (fun he => ?_) <;> ((conv => whnf); repeat ((first | refine Sw.o ?_ | refine B0 ?_); conv => whnf))
          · simp only [decide_eq_true he, Bool.not_true, Bool.false_or] at hwt hn hwl ⊢
            (repeat ((first | refine N0 ?_ | refine A0 fun γ => ?_ | refine C1 ?_ | refine C2 ?_ | refine C3 ?_ | refine C4 ?_ | refine C5 ?_ | refine C6 ?_ | refine C7 ?_ | refine D0 fun γs => ?_ | refine A1 fun γs => ?_ | refine N2 ?_ | refine N3 ?_ | refine N1 ?_); ((conv => whnf); repeat ((first | refine Sw.o ?_ | refine B0 ?_); conv => whnf))))
            (simp (disch := omega) only [LG]; ((conv => whnf); repeat ((first | refine Sw.o ?_ | refine B0 ?_); conv => whnf)))
            (repeat ((first | refine N0 ?_ | refine A0 fun γ => ?_ | refine C1 ?_ | refine C2 ?_ | refine C3 ?_ | refine C4 ?_ | refine C5 ?_ | refine C6 ?_ | refine C7 ?_ | refine D0 fun γs => ?_ | refine A1 fun γs => ?_ | refine N2 ?_ | refine N3 ?_ | refine N1 ?_); ((conv => whnf); repeat ((first | refine Sw.o ?_ | refine B0 ?_); conv => whnf))))
            (simp (disch := omega) only [LG]; ((conv => whnf); repeat ((first | refine Sw.o ?_ | refine B0 ?_); conv => whnf)))
            (repeat ((first | refine N0 ?_ | refine A0 fun γ => ?_ | refine C1 ?_ | refine C2 ?_ | refine C3 ?_ | refine C4 ?_ | refine C5 ?_ | refine C6 ?_ | refine C7 ?_ | refine D0 fun γs => ?_ | refine A1 fun γs => ?_ | refine N2 ?_ | refine N3 ?_ | refine N1 ?_); ((conv => whnf); repeat ((first | refine Sw.o ?_ | refine B0 ?_); conv => whnf))))
            refine CondP.dec (fun hx => ?_) (fun hx => ?_) <;> ((conv => whnf); repeat ((first | refine Sw.o ?_ | refine B0 ?_); conv => whnf))
            · simp only [hx, decide_true, Bool.not_true, Bool.false_eq_true, if_false, List.append_nil] at hwt
              (repeat ((first | refine N0 ?_ | refine A0 fun γ => ?_ | refine C1 ?_ | refine C2 ?_ | refine C3 ?_ | refine C4 ?_ | refine C5 ?_ | refine C6 ?_ | refine C7 ?_ | refine D0 fun γs => ?_ | refine A1 fun γs => ?_ | refine N2 ?_ | refine N3 ?_ | refine N1 ?_); ((conv => whnf); repeat ((first | refine Sw.o ?_ | refine B0 ?_); conv => whnf))))
              exact .intro <| W.of ⟨_, by omega, _, _, _, _, _, k + 1, n, hk', rfl, by rw [hn, hwt], rfl, rfl⟩ ⟨rfl, rfl, rfl, rfl, rfl, rfl, rfl, rfl, trivial⟩ ⟨rfl, rfl, rfl, rfl, by rw [hwt]; rfl, trivial⟩
            · simp only [hx, decide_false, Bool.not_false, if_true] at hwt
              (repeat ((first | refine N0 ?_ | refine A0 fun γ => ?_ | refine C1 ?_ | refine C2 ?_ | refine C3 ?_ | refine C4 ?_ | refine C5 ?_ | refine C6 ?_ | refine C7 ?_ | refine D0 fun γs => ?_ | refine A1 fun γs => ?_ | refine N2 ?_ | refine N3 ?_ | refine N1 ?_); ((conv => whnf); repeat ((first | refine Sw.o ?_ | refine B0 ?_); conv => whnf))))
              (simp (disch := omega) only [LG]; ((conv => whnf); repeat ((first | refine Sw.o ?_ | refine B0 ?_); conv => whnf)))
              (repeat ((first | refine N0 ?_ | refine A0 fun γ => ?_ | refine C1 ?_ | refine C2 ?_ | refine C3 ?_ | refine C4 ?_ | refine C5 ?_ | refine C6 ?_ | refine C7 ?_ | refine D0 fun γs => ?_ | refine A1 fun γs => ?_ | refine N2 ?_ | refine N3 ?_ | refine N1 ?_); ((conv => whnf); repeat ((first | refine Sw.o ?_ | refine B0 ?_); conv => whnf))))
              (simp (disch := omega) only [LG]; ((conv => whnf); repeat ((first | refine Sw.o ?_ | refine B0 ?_); conv => whnf)))
              (repeat ((first | refine N0 ?_ | refine A0 fun γ => ?_ | refine C1 ?_ | refine C2 ?_ | refine C3 ?_ | refine C4 ?_ | refine C5 ?_ | refine C6 ?_ | refine C7 ?_ | refine D0 fun γs => ?_ | refine A1 fun γs => ?_ | refine N2 ?_ | refine N3 ?_ | refine N1 ?_); ((conv => whnf); repeat ((first | refine Sw.o ?_ | refine B0 ?_); conv => whnf))))
              exact .intro <| W.of ⟨_, by omega, _, _, _, _, _, k + 1, n + 1, hk', rfl, by rw [hn, hwt]; simp, rfl, rfl⟩ ⟨rfl, rfl, rfl, rfl, rfl, rfl, rfl, rfl, trivial⟩ ⟨rfl, rfl, rfl, rfl, by rw [hwt, ← snoc_encI]; rfl, trivial⟩
          · simp only [decide_eq_false he, Bool.not_false, Bool.true_or, if_true] at hwt hn hwl ⊢
            (repeat ((first | refine N0 ?_ | refine A0 fun γ => ?_ | refine C1 ?_ | refine C2 ?_ | refine C3 ?_ | refine C4 ?_ | refine C5 ?_ | refine C6 ?_ | refine C7 ?_ | refine D0 fun γs => ?_ | refine A1 fun γs => ?_ | refine N2 ?_ | refine N3 ?_ | refine N1 ?_); ((conv => whnf); repeat ((first | refine Sw.o ?_ | refine B0 ?_); conv => whnf))))
            (simp (disch := omega) only [LG]; ((conv => whnf); repeat ((first | refine Sw.o ?_ | refine B0 ?_); conv => whnf)))
            (repeat ((first | refine N0 ?_ | refine A0 fun γ => ?_ | refine C1 ?_ | refine C2 ?_ | refine C3 ?_ | refine C4 ?_ | refine C5 ?_ | refine C6 ?_ | refine C7 ?_ | refine D0 fun γs => ?_ | refine A1 fun γs => ?_ | refine N2 ?_ | refine N3 ?_ | refine N1 ?_); ((conv => whnf); repeat ((first | refine Sw.o ?_ | refine B0 ?_); conv => whnf))))
            (simp (disch := omega) only [LG]; ((conv => whnf); repeat ((first | refine Sw.o ?_ | refine B0 ?_); conv => whnf)))
            (repeat ((first | refine N0 ?_ | refine A0 fun γ => ?_ | refine C1 ?_ | refine C2 ?_ | refine C3 ?_ | refine C4 ?_ | refine C5 ?_ | refine C6 ?_ | refine C7 ?_ | refine D0 fun γs => ?_ | refine A1 fun γs => ?_ | refine N2 ?_ | refine N3 ?_ | refine N1 ?_); ((conv => whnf); repeat ((first | refine Sw.o ?_ | refine B0 ?_); conv => whnf))))
            exact .intro <| W.of ⟨_, by omega, _, _, _, _, _, k + 1, n + 1, hk', rfl, by rw [hn, hwt]; simp, rfl, rfl⟩ ⟨rfl, rfl, rfl, rfl, rfl, rfl, rfl, rfl, trivial⟩ ⟨rfl, rfl, rfl, rfl, by rw [hwt, ← snoc_encI]; rfl, trivial⟩
        · have hkl : (g.joined[i]).take k = g.joined[i] := List.take_of_length_le (by simpa using h)
          rw [hkl] at hn ⊢
          rw [← hwg] at hn ⊢
          refine cpA_exitW (W.fre 9 101 p101 0 n (y := encL ((wojF e u 0 g.joined)[i])) rfl ?_ (W.of (l := [(1, encI e), (2, encI u), (3, .op 3 p3 0 0), (6, .op 6 p6 0 0), (7, .op 7 p7 0 0), (8, encI i), (9, encL ((wojF e u 0 g.joined)[i]))])
            (m := [(3, p3, ⟨26, 3, [encG g]⟩), (6, p6, ⟨26, 3, [.agg [.val (.slice none 0 0), .val (.slice none 0 0), .val (.slice none 0 0)]]⟩), (7, p7, ⟨26, 3, [.agg [.sl 1 (g.eqs.map encS), .sl 3 (g.uses.map encU), .own 102 p102 0 i]]⟩), (102, p102, ⟨29, 1, ((wojF e u 0 g.joined).take i).map encL⟩)])
            ?_ ⟨rfl, rfl, rfl, rfl, rfl, rfl, rfl, trivial⟩ ⟨rfl, rfl, rfl, rfl, trivial⟩))
          · rw [snap_own (B := ⟨3, 1, ((wojF e u 0 g.joined)[i]).map encI⟩) (by simp) rfl (by simp [hn]), snap_list _ _ _ _ hn (fun _ => rfl)]
            rfl
          ((conv => whnf); repeat ((first | refine Sw.o ?_ | refine B0 ?_); conv => whnf))
          (repeat ((first | refine N0 ?_ | refine A0 fun γ => ?_ | refine C1 ?_ | refine C2 ?_ | refine C3 ?_ | refine C4 ?_ | refine C5 ?_ | refine C6 ?_ | refine C7 ?_ | refine D0 fun γs => ?_ | refine A1 fun γs => ?_ | refine N2 ?_ | refine N3 ?_ | refine N1 ?_); ((conv => whnf); repeat ((first | refine Sw.o ?_ | refine B0 ?_); conv => whnf))))
          refine .intro <| W.of ⟨_, by omega, _, _, _, _, i + 1, by omega, rfl, rfl, rfl⟩ ⟨rfl, rfl, rfl, rfl, rfl, rfl, trivial⟩ ⟨rfl, rfl, rfl, ?_, trivial⟩
          rw [← take_snoc encL _ i (by omega) _ rfl]; rfl
    · (have h2 := h; try simp only [LN] at h2)
      have hie : i = (wojF e u 0 g.joined).length := by omega
      (repeat ((first | refine N0 ?_ | refine A0 fun γ => ?_ | refine C1 ?_ | refine C2 ?_ | refine C3 ?_ | refine C4 ?_ | refine C5 ?_ | refine C6 ?_ | refine C7 ?_ | refine D0 fun γs => ?_ | refine A1 fun γs => ?_ | refine N2 ?_ | refine N3 ?_ | refine N1 ?_); ((conv => whnf); repeat ((first | refine Sw.o ?_ | refine B0 ?_); conv => whnf))))
      show Fw.Ends (.agg [.sl 1 (g.eqs.map encS), .sl 3 (g.uses.map encU), .sl 1 (((((wojF e u 0 g.joined).take i).map encL |>.drop 0).take i).map (snapEl _))]) _
      rw [snap_list _ _ _ _ (by rw [List.length_take]; omega) (fun _ => rfl), List.take_of_length_le (by omega)]
      exact .of rfl
end Go.Proofs.Ytgeeklnokblokaa
namespace Go.Proofs.Ytgeeklnokblokaa
open Go Go.Fw
def certG (t : Nat → Int → Bool) : Nat → List Int → List (Int × Int)
  | _, [] => []
  | e, u :: r => match decide (0 ≤ u) with
    | true => match t e u with
      | true => ((e : Int), u) :: certG t (e + 1) r
      | false => certG t (e + 1) r
    | false => certG t (e + 1) r
theorem certG_len (t : Nat → Int → Bool) : ∀ (l : List Int) (e : Nat), (certG t e l).length ≤ l.length
  | [], _ => Nat.le_refl _
  | u :: r, e => by
    have := certG_len t r (e + 1)
    unfold certG
    split
    · split <;> simp only [List.length_cons] <;> omega
    · simp only [List.length_cons]; omega
theorem mrO_len (g : G) : ∀ (l : List Nat) (s : Int × List Bool × List Bool) (out : List Int), (mrO g l s out).length = out.length + l.length
  | [], s, out => by simp [mrO]
  | e :: r, s, out => by simp only [mrO, mrO_len g r, List.length_append, List.length_cons, List.length_nil]; omega
theorem matchR_len (g : G) : (matchR g).length = g.eqs.length := by unfold matchR; rw [mrO_len]; simp
theorem without_wf {g : G} (hg : WF g) (e u : Int) : WF (withoutF g e u) := by
  have hl := wojF_len e u g.joined 0
  have hin : ∀ l ∈ wojF e u 0 g.joined, ∃ l' ∈ g.joined, l.length ≤ l'.length ∧ ∀ x ∈ l, x ∈ l' := by
    intro l h
    obtain ⟨k, hk, rfl⟩ := List.getElem_of_mem h
    have hk' : k < g.joined.length := by rw [← hl]; exact hk
    rw [wojF_get e u g.joined 0 k hk' hk]
    exact ⟨_, List.getElem_mem hk', wolF_len .., fun x hx => (List.mem_filter.1 hx).1⟩
  refine ⟨hl.trans hg.len, fun l h x hx => ?_, hg.se, hg.su, fun l h => ?_⟩
  · obtain ⟨l', h1, h2, h3⟩ := hin l h
    exact hg.in_ l' h1 x (h3 x hx)
  · obtain ⟨l', h1, h2, h3⟩ := hin l h
    exact Nat.le_trans h2 (hg.sl l' h1)
def tR (g : G) (e : Nat) (u : Int) : Bool := decide (SizeF (withoutF g e u) < SizeF g)
def CertainR (g : G) : List (Int × Int) × Int := match decide (checkF g = 0) with
  | true => (certG (tR g) 0 (matchR g), 0)
  | false => ([], checkF g)
theorem snoc_encPr (l : List (Int × Int)) (u : Int × Int) : l.map encPr ++ [encPr u] = (l ++ [u]).map encPr := by simp
theorem snapEl_encPr (S : List Nat) (H : Hp) (n : Nat) (x : Int × Int) : snapEl (snapC S H n) (encPr x) = encPr x := by
  cases n <;> rfl
set_option maxHeartbeats 4000000 in
set_option maxRecDepth 100000 in
theorem certain17_ok (g : G) (hz : Sz g) : PureCall Try.prog 17 [encG g] (.tup [.sl 2 ((CertainR g).1.map encPr), encI (CertainR g).2]) := by
  refine pure_cp (E := E 0) T_ok (D_ok 0) [100] Try.func17 rfl (by rfl) (Nat.le_of_ble_eq_true rfl) ?_
  generalize hR : CertainR g = R
  unfold CertainR at hR
  rcases Decidable.em (checkF g = 0) with h | h
  · rw [decide_eq_true h] at hR
    have hM : MatchR g = (matchR g, 0) := by unfold MatchR; rw [decide_eq_true h]
    have hg := (check_wf h).1
    have su := hg.su
    have se := hg.se
    have hjl := hg.len
    have hml := matchR_len g
    simp only at hR
    generalize hC : certG (tR g) 0 (matchR g) = C at hR
    ((conv => whnf); repeat ((first | refine Sw.o ?_ | refine B0 ?_); conv => whnf))
    (repeat ((first | refine N0 ?_ | refine A0 fun γ => ?_ | refine C1 ?_ | refine C2 ?_ | refine C3 ?_ | refine C4 ?_ | refine C5 ?_ | refine C6 ?_ | refine C7 ?_ | refine D0 fun γs => ?_ | refine A1 fun γs => ?_ | refine N2 ?_ | refine N3 ?_ | refine N1 ?_); ((conv => whnf); repeat ((first | refine Sw.o ?_ | refine B0 ?_); conv => whnf))))
    refine CallP.pure [] _ c13 (match13_ok g hz) ?_
    rw [hM]
    generalize matchR g = m at hml hC ⊢
    ((conv => whnf); repeat ((first | refine Sw.o ?_ | refine B0 ?_); conv => whnf))
    (repeat ((first | refine N0 ?_ | refine A0 fun γ => ?_ | refine C1 ?_ | refine C2 ?_ | refine C3 ?_ | refine C4 ?_ | refine C5 ?_ | refine C6 ?_ | refine C7 ?_ | refine D0 fun γs => ?_ | refine A1 fun γs => ?_ | refine N2 ?_ | refine N3 ?_ | refine N1 ?_); ((conv => whnf); repeat ((first | refine Sw.o ?_ | refine B0 ?_); conv => whnf))))
    refine CallP.flat [] (encI (SizeF g)) c40 (Size_ok g hg) rfl ?_
    ((conv => whnf); repeat ((first | refine Sw.o ?_ | refine B0 ?_); conv => whnf))
    (repeat ((first | refine N0 ?_ | refine A0 fun γ => ?_ | refine C1 ?_ | refine C2 ?_ | refine C3 ?_ | refine C4 ?_ | refine C5 ?_ | refine C6 ?_ | refine C7 ?_ | refine D0 fun γs => ?_ | refine A1 fun γs => ?_ | refine N2 ?_ | refine N3 ?_ | refine N1 ?_); ((conv => whnf); repeat ((first | refine Sw.o ?_ | refine B0 ?_); conv => whnf))))
    refine LoopP.intro (fun k σ H => ∃ p1 p100 i, ∃ out : List (Int × Int), i ≤ m.length ∧ k = m.length - i ∧ out ++ certG (tR g) i (m.drop i) = C ∧ out.length ≤ i ∧
      σ = fr [(1, .op 1 p1 0 0), (4, encL m), (6, encI (SizeF g)), (7, .own 100 p100 0 out.length), (8, encI i)] ∧
      H = hp [(1, p1, ⟨26, 3, [encG g]⟩), (100, p100, ⟨55, 2, out.map encPr⟩)]) ?_ ?_
    · exact .intro <| W.mat 7 100 55 2 rfl rfl fun γ => W.of ⟨_, _, _, 0, [], Nat.zero_le _, rfl, hC, Nat.le_refl _, rfl, rfl⟩ ⟨rfl, rfl, rfl, rfl, rfl, trivial⟩ ⟨rfl, rfl, trivial⟩
    · rintro k σ H ⟨p1, p100, i, out, hi, rfl, hO, hol, rfl, rfl⟩
      ((conv => whnf); repeat ((first | refine Sw.o ?_ | refine B0 ?_); conv => whnf))
      (repeat ((first | refine N0 ?_ | refine A0 fun γ => ?_ | refine C1 ?_ | refine C2 ?_ | refine C3 ?_ | refine C4 ?_ | refine C5 ?_ | refine C6 ?_ | refine C7 ?_ | refine D0 fun γs => ?_ | refine A1 fun γs => ?_ | refine N2 ?_ | refine N3 ?_ | refine N1 ?_); ((conv => whnf); repeat ((first | refine Sw.o ?_ | refine B0 ?_); conv => whnf))))
      refine CondP.dec (fun h => ?_) (fun h => ?_) <;> ((conv => whnf); repeat ((first | refine Sw.o ?_ | refine B0 ?_); conv => whnf))
      · (have h2 := h; try simp only [LN] at h2)
        have hi' : i < m.length := by omega
        rw [List.drop_eq_getElem_cons hi'] at hO
        (repeat ((first | refine N0 ?_ | refine A0 fun γ => ?_ | refine C1 ?_ | refine C2 ?_ | refine C3 ?_ | refine C4 ?_ | refine C5 ?_ | refine C6 ?_ | refine C7 ?_ | refine D0 fun γs => ?_ | refine A1 fun γs => ?_ | refine N2 ?_ | refine N3 ?_ | refine N1 ?_); ((conv => whnf); repeat ((first | refine Sw.o ?_ | refine B0 ?_); conv => whnf))))
        (simp (disch := omega) only [LG]; ((conv => whnf); repeat ((first | refine Sw.o ?_ | refine B0 ?_); conv => whnf)))
        (repeat ((first | refine N0 ?_ | refine A0 fun γ => ?_ | refine C1 ?_ | refine C2 ?_ | refine C3 ?_ | refine C4 ?_ | refine C5 ?_ | refine C6 ?_ | refine C7 ?_ | refine D0 fun γs => ?_ | refine A1 fun γs => ?_ | refine N2 ?_ | refine N3 ?_ | refine N1 ?_); ((conv => whnf); repeat ((first | refine Sw.o ?_ | refine B0 ?_); conv => whnf))))
        have hcl := certG_len (tR g) (m.drop (i + 1)) (i + 1)
        have hoC : out.length + (certG (tR g) i (m[i] :: m.drop (i + 1))).length = C.length := by rw [← hO]; simp
        generalize hu : m[i] = u at hO hoC ⊢
        unfold certG at hO
        refine CondP.dec (fun h0 => ?_) (fun h0 => ?_) <;> ((conv => whnf); repeat ((first | refine Sw.o ?_ | refine B0 ?_); conv => whnf))
        · rw [decide_eq_true h0] at hO
          simp only at hO
          have ht : tR g i u = decide (SizeF (withoutF g i u) < SizeF g) := rfl
          (repeat ((first | refine N0 ?_ | refine A0 fun γ => ?_ | refine C1 ?_ | refine C2 ?_ | refine C3 ?_ | refine C4 ?_ | refine C5 ?_ | refine C6 ?_ | refine C7 ?_ | refine D0 fun γs => ?_ | refine A1 fun γs => ?_ | refine N2 ?_ | refine N3 ?_ | refine N1 ?_); ((conv => whnf); repeat ((first | refine Sw.o ?_ | refine B0 ?_); conv => whnf))))
          (simp (disch := omega) only [LG]; ((conv => whnf); repeat ((first | refine Sw.o ?_ | refine B0 ?_); conv => whnf)))
          rw [hu]
          (repeat ((first | refine N0 ?_ | refine A0 fun γ => ?_ | refine C1 ?_ | refine C2 ?_ | refine C3 ?_ | refine C4 ?_ | refine C5 ?_ | refine C6 ?_ | refine C7 ?_ | refine D0 fun γs => ?_ | refine A1 fun γs => ?_ | refine N2 ?_ | refine N3 ?_ | refine N1 ?_); ((conv => whnf); repeat ((first | refine Sw.o ?_ | refine B0 ?_); conv => whnf))))
          refine CallG.intro (encG (withoutF g i u)) c28 (without_ok g hg i u) ?_
          ((conv => whnf); repeat ((first | refine Sw.o ?_ | refine B0 ?_); conv => whnf))
          (repeat ((first | refine N0 ?_ | refine A0 fun γ => ?_ | refine C1 ?_ | refine C2 ?_ | refine C3 ?_ | refine C4 ?_ | refine C5 ?_ | refine C6 ?_ | refine C7 ?_ | refine D0 fun γs => ?_ | refine A1 fun γs => ?_ | refine N2 ?_ | refine N3 ?_ | refine N1 ?_); ((conv => whnf); repeat ((first | refine Sw.o ?_ | refine B0 ?_); conv => whnf))))
          refine CallG.intro (encI (SizeF (withoutF g i u))) c40 (Size_ok _ (without_wf hg i u)) ?_
          ((conv => whnf); repeat ((first | refine Sw.o ?_ | refine B0 ?_); conv => whnf))
          (repeat ((first | refine N0 ?_ | refine A0 fun γ => ?_ | refine C1 ?_ | refine C2 ?_ | refine C3 ?_ | refine C4 ?_ | refine C5 ?_ | refine C6 ?_ | refine C7 ?_ | refine D0 fun γs => ?_ | refine A1 fun γs => ?_ | refine N2 ?_ | refine N3 ?_ | refine N1 ?_); ((conv => whnf); repeat ((first | refine Sw.o ?_ | refine B0 ?_); conv => whnf))))
          refine CondP.dec (fun hs => ?_) (fun hs => ?_) <;> ((conv => whnf); repeat ((first | refine Sw.o ?_ | refine B0 ?_); conv => whnf))
          · rw [ht, decide_eq_true hs] at hO
            (repeat ((first | refine N0 ?_ | refine A0 fun γ => ?_ | refine C1 ?_ | refine C2 ?_ | refine C3 ?_ | refine C4 ?_ | refine C5 ?_ | refine C6 ?_ | refine C7 ?_ | refine D0 fun γs => ?_ | refine A1 fun γs => ?_ | refine N2 ?_ | refine N3 ?_ | refine N1 ?_); ((conv => whnf); repeat ((first | refine Sw.o ?_ | refine B0 ?_); conv => whnf))))
            (simp (disch := omega) only [LG]; ((conv => whnf); repeat ((first | refine Sw.o ?_ | refine B0 ?_); conv => whnf)))
            (repeat ((first | refine N0 ?_ | refine A0 fun γ => ?_ | refine C1 ?_ | refine C2 ?_ | refine C3 ?_ | refine C4 ?_ | refine C5 ?_ | refine C6 ?_ | refine C7 ?_ | refine D0 fun γs => ?_ | refine A1 fun γs => ?_ | refine N2 ?_ | refine N3 ?_ | refine N1 ?_); ((conv => whnf); repeat ((first | refine Sw.o ?_ | refine B0 ?_); conv => whnf))))
            rw [hu]
            ((conv => whnf); repeat ((first | refine Sw.o ?_ | refine B0 ?_); conv => whnf))
            (repeat ((first | refine N0 ?_ | refine A0 fun γ => ?_ | refine C1 ?_ | refine C2 ?_ | refine C3 ?_ | refine C4 ?_ | refine C5 ?_ | refine C6 ?_ | refine C7 ?_ | refine D0 fun γs => ?_ | refine A1 fun γs => ?_ | refine N2 ?_ | refine N3 ?_ | refine N1 ?_); ((conv => whnf); repeat ((first | refine Sw.o ?_ | refine B0 ?_); conv => whnf))))
            refine .intro <| W.of ⟨_, by omega, _, _, i + 1, out ++ [((i : Int), u)], by omega, rfl, by rw [List.append_assoc]; exact hO, by simp; omega, rfl, rfl⟩ ⟨rfl, rfl, rfl, by rw [List.length_append]; rfl, rfl, trivial⟩ ⟨rfl, ?_, trivial⟩
            rw [← snoc_encPr]; rfl
          · rw [ht, decide_eq_false hs] at hO
            (repeat ((first | refine N0 ?_ | refine A0 fun γ => ?_ | refine C1 ?_ | refine C2 ?_ | refine C3 ?_ | refine C4 ?_ | refine C5 ?_ | refine C6 ?_ | refine C7 ?_ | refine D0 fun γs => ?_ | refine A1 fun γs => ?_ | refine N2 ?_ | refine N3 ?_ | refine N1 ?_); ((conv => whnf); repeat ((first | refine Sw.o ?_ | refine B0 ?_); conv => whnf))))
            exact .intro <| W.of ⟨_, by omega, _, _, i + 1, out, by omega, rfl, hO, by omega, rfl, rfl⟩ ⟨rfl, rfl, rfl, rfl, rfl, trivial⟩ ⟨rfl, rfl, trivial⟩
        · rw [decide_eq_false h0] at hO
          (repeat ((first | refine N0 ?_ | refine A0 fun γ => ?_ | refine C1 ?_ | refine C2 ?_ | refine C3 ?_ | refine C4 ?_ | refine C5 ?_ | refine C6 ?_ | refine C7 ?_ | refine D0 fun γs => ?_ | refine A1 fun γs => ?_ | refine N2 ?_ | refine N3 ?_ | refine N1 ?_); ((conv => whnf); repeat ((first | refine Sw.o ?_ | refine B0 ?_); conv => whnf))))
          exact .intro <| W.of ⟨_, by omega, _, _, i + 1, out, by omega, rfl, hO, by omega, rfl, rfl⟩ ⟨rfl, rfl, rfl, rfl, rfl, trivial⟩ ⟨rfl, rfl, trivial⟩
      · (have h2 := h; try simp only [LN] at h2)
        rw [List.drop_eq_nil_of_le (by omega), certG, List.append_nil] at hO
        subst hR
        subst hO
        (repeat ((first | refine N0 ?_ | refine A0 fun γ => ?_ | refine C1 ?_ | refine C2 ?_ | refine C3 ?_ | refine C4 ?_ | refine C5 ?_ | refine C6 ?_ | refine C7 ?_ | refine D0 fun γs => ?_ | refine A1 fun γs => ?_ | refine N2 ?_ | refine N3 ?_ | refine N1 ?_); ((conv => whnf); repeat ((first | refine Sw.o ?_ | refine B0 ?_); conv => whnf))))
        refine .of ?_
        show AV.tup [AV.sl 2 _, _] = AV.tup [AV.sl 2 _, _]
        rw [snap_list _ _ _ _ rfl (snapEl_encPr _ _ _)]
        rfl
  · rw [decide_eq_false h] at hR
    have hM : MatchR g = ([], checkF g) := by unfold MatchR; rw [decide_eq_false h]
    ((conv => whnf); repeat ((first | refine Sw.o ?_ | refine B0 ?_); conv => whnf))
    (repeat ((first | refine N0 ?_ | refine A0 fun γ => ?_ | refine C1 ?_ | refine C2 ?_ | refine C3 ?_ | refine C4 ?_ | refine C5 ?_ | refine C6 ?_ | refine C7 ?_ | refine D0 fun γs => ?_ | refine A1 fun γs => ?_ | refine N2 ?_ | refine N3 ?_ | refine N1 ?_); ((conv => whnf); repeat ((first | refine Sw.o ?_ | refine B0 ?_); conv => whnf))))
    refine CallP.pure [] _ c13 (match13_ok g hz) ?_
    rw [hM]
    ((conv => whnf); repeat ((first | refine Sw.o ?_ | refine B0 ?_); conv => whnf))
    (repeat ((first | refine N0 ?_ | refine A0 fun γ => ?_ | refine C1 ?_ | refine C2 ?_ | refine C3 ?_ | refine C4 ?_ | refine C5 ?_ | refine C6 ?_ | refine C7 ?_ | refine D0 fun γs => ?_ | refine A1 fun γs => ?_ | refine N2 ?_ | refine N3 ?_ | refine N1 ?_); ((conv => whnf); repeat ((first | refine Sw.o ?_ | refine B0 ?_); conv => whnf))))
    subst hR
    (repeat ((first | refine N0 ?_ | refine A0 fun γ => ?_ | refine C1 ?_ | refine C2 ?_ | refine C3 ?_ | refine C4 ?_ | refine C5 ?_ | refine C6 ?_ | refine C7 ?_ | refine D0 fun γs => ?_ | refine A1 fun γs => ?_ | refine N2 ?_ | refine N3 ?_ | refine N1 ?_); ((conv => whnf); repeat ((first | refine Sw.o ?_ | refine B0 ?_); conv => whnf))))
    exact ends_tup2 (Le.nil 2) (Le.refl _)
end Go.Proofs.Ytgeeklnokblokaa
namespace Go.Proofs.Ytgeeklnokblokaa
open Go Go.Fw
theorem matchO_len (g : G) (most : Int) : ∀ (l : List (List Int)) (out : List Int), (matchO g most l out).length = out.length + l.length
  | [], out => by simp [matchO]
  | e :: r, out => by simp only [matchO, matchO_len g most r, List.length_append, List.length_cons, List.length_nil]; omega
theorem matchF_len (g : G) : (matchF g).length = g.joined.length := by unfold matchF; rw [matchO_len]; simp
def cutF (g : G) (e : Nat) (u : Int) : G := ⟨g.eqs, g.uses, g.joined.set e (delF u (g.joined.getD e []))⟩
theorem cut_wf {g : G} (hg : WF g) (e : Nat) (u : Int) : WF (cutF g e u) := by
  have hin : ∀ l ∈ (cutF g e u).joined, ∃ l' ∈ g.joined, l.length ≤ l'.length ∧ ∀ x ∈ l, x ∈ l' := by
    intro l h
    rcases Nat.lt_or_ge e g.joined.length with he | he
    · rcases List.mem_or_eq_of_mem_set h with h | h
      · exact ⟨l, h, Nat.le_refl _, fun x h => h⟩
      · rw [h, getD_lt _ _ _ he]
        exact ⟨_, List.getElem_mem he, delF_len .., fun x hx => (List.mem_filter.1 hx).1⟩
    · have : (cutF g e u).joined = g.joined := by unfold cutF; simp only; rw [List.set_eq_of_length_le he]
      rw [this] at h
      exact ⟨l, h, Nat.le_refl _, fun x h => h⟩
  refine ⟨by simp [cutF, hg.len], fun l h x hx => ?_, hg.se, hg.su, fun l h => ?_⟩
  · obtain ⟨l', h1, h2, h3⟩ := hin l h
    exact hg.in_ l' h1 x (h3 x hx)
  · obtain ⟨l', h1, h2, h3⟩ := hin l h
    exact Nat.le_trans h2 (hg.sl l' h1)
def tF (g : G) (e : Nat) (u : Int) : Bool := decide ((greatestF (cutF g e u) []).2 < (greatestF g []).2)
def CertainF (g : G) : List (Int × Int) × Int := match decide (checkF g = 0) with
  | true => (certG (tF g) 0 (matchF g), 0)
  | false => ([], checkF g)
theorem snap_op {S : List Nat} {H : Hp} {b g i k : Nat} {B : Blk} (hS : b ∈ S) (hb : H b = some (g, B)) (hl : i < B.xs.length) : snapC S H 3 (.op b g i k) = .ep (snapEl (snapC S H 2) (B.xs.getD i .dead)) k := by
  simp only [snapC, if_pos hS, hb, true_and, if_pos hl]
theorem fz_two {S : List Nat} {H : Hp} {q9 q46 n : Nat} {u : Int} (h9 : 9 ∈ drop1 46 S) (hb : H 9 = some (q9, ⟨3, 1, [encI u]⟩)) : List.map (fz 46 S H) [.own 46 q46 0 n, .fn (.func 44) [] [.op 9 q9 0 0]] = [.own 0 q46 0 n, .fn (.func 44) [] [.ep (encI u) 0]] := by
  show [AV.own 0 q46 0 n, AV.fn (.func 44) [] [snapC (drop1 46 S) H 3 (.op 9 q9 0 0)]] = _
  rw [snap_op h9 hb (by simp)]
  rfl
theorem snap_cut {g : G} {H : Hp} {q36 q46 i : Nat} {l l' : List Int} (h36 : H 36 = some (q36, ⟨29, 1, (g.joined.map encL).set i (.own 46 q46 0 l.length)⟩)) (h46 : H 46 = some (q46, ⟨3, 1, (l ++ l').map encI⟩)) :
    List.map (snap [36, 46] H) [.agg [.sl 1 (g.eqs.map encS), .sl 3 (g.uses.map encU), .own 36 q36 0 g.joined.length], .val (.slice none 0 0)] = [encG ⟨g.eqs, g.uses, g.joined.set i l⟩, .val (.slice none 0 0)] := by
  have hsn : snapEl (snapC [36, 46] H 2) (.own 46 q46 0 l.length) = encL l := by
    show snapC [36, 46] H 2 (.own 46 q46 0 l.length) = _
    simp only [snapC, if_pos (show (46 : Nat) ∈ [36, 46] by simp), h46, List.length_map, List.length_append, true_and, if_pos (show 0 + l.length ≤ l.length + l'.length by omega)]
    show AV.sl 1 _ = AV.sl 1 _
    rw [List.drop_zero, ← List.map_take, List.take_left' rfl, List.map_map]
    rfl
  show [AV.agg [.sl 1 (g.eqs.map encS), .sl 3 (g.uses.map encU), snap [36, 46] H (.own 36 q36 0 g.joined.length)], _] = _
  rw [snap_own (by simp) h36 (by simp)]
  show [AV.agg [.sl 1 (g.eqs.map encS), .sl 3 (g.uses.map encU), .sl 1 ((((g.joined.map encL).set i (.own 46 q46 0 l.length)).drop 0).take g.joined.length |>.map (snapEl (snapC [36, 46] H 2)))], _] = _
  rw [List.drop_zero, List.take_of_length_le (by simp), List.map_set, hsn, List.map_map]
  unfold encG
  rw [List.map_set]
  rfl
set_option maxHeartbeats 4000000 in
set_option maxRecDepth 100000 in
theorem certain16_ok (g : G) (hz : Sz g) : PureCall Try.prog 16 [encG g] (.tup [.sl 2 ((CertainF g).1.map encPr), encI (CertainF g).2]) := by
  refine pure_cp (E := E 0) T_ok (D_ok 0) [100] Try.func16 rfl (by rfl) (Nat.le_of_ble_eq_true rfl) ?_
  generalize hR : CertainF g = R
  unfold CertainF at hR
  ((conv => whnf); repeat ((first | refine Sw.o ?_ | refine B0 ?_); conv => whnf))
  (repeat ((first | refine N0 ?_ | refine A0 fun γ => ?_ | refine C1 ?_ | refine C2 ?_ | refine C3 ?_ | refine C4 ?_ | refine C5 ?_ | refine C6 ?_ | refine C7 ?_ | refine D0 fun γs => ?_ | refine A1 fun γs => ?_ | refine N2 ?_ | refine N3 ?_ | refine N1 ?_); ((conv => whnf); repeat ((first | refine Sw.o ?_ | refine B0 ?_); conv => whnf))))
  refine CallP.flat [] (encI (checkF g)) c35 (check35_ok g hz) rfl ?_
  ((conv => whnf); repeat ((first | refine Sw.o ?_ | refine B0 ?_); conv => whnf))
  (repeat ((first | refine N0 ?_ | refine A0 fun γ => ?_ | refine C1 ?_ | refine C2 ?_ | refine C3 ?_ | refine C4 ?_ | refine C5 ?_ | refine C6 ?_ | refine C7 ?_ | refine D0 fun γs => ?_ | refine A1 fun γs => ?_ | refine N2 ?_ | refine N3 ?_ | refine N1 ?_); ((conv => whnf); repeat ((first | refine Sw.o ?_ | refine B0 ?_); conv => whnf))))
  refine CondP.dec (fun h => ?_) (fun h => ?_) <;> ((conv => whnf); repeat ((first | refine Sw.o ?_ | refine B0 ?_); conv => whnf))
  · rw [decide_eq_true h] at hR
    have hg := (check_wf h).1
    have su := hg.su
    have se := hg.se
    have hjl := hg.len
    have hml := matchF_len g
    simp only at hR
    generalize hC : certG (tF g) 0 (matchF g) = C at hR
    (repeat ((first | refine N0 ?_ | refine A0 fun γ => ?_ | refine C1 ?_ | refine C2 ?_ | refine C3 ?_ | refine C4 ?_ | refine C5 ?_ | refine C6 ?_ | refine C7 ?_ | refine D0 fun γs => ?_ | refine A1 fun γs => ?_ | refine N2 ?_ | refine N3 ?_ | refine N1 ?_); ((conv => whnf); repeat ((first | refine Sw.o ?_ | refine B0 ?_); conv => whnf))))
    refine CallP.pure [] _ c39 (greatest0_ok g hg) ?_
    have htF : ∀ e u, tF g e u = decide ((greatestF (cutF g e u) []).2 < (greatestF g []).2) := fun _ _ => rfl
    generalize greatestF g [] = q at htF ⊢
    ((conv => whnf); repeat ((first | refine Sw.o ?_ | refine B0 ?_); conv => whnf))
    (repeat ((first | refine N0 ?_ | refine A0 fun γ => ?_ | refine C1 ?_ | refine C2 ?_ | refine C3 ?_ | refine C4 ?_ | refine C5 ?_ | refine C6 ?_ | refine C7 ?_ | refine D0 fun γs => ?_ | refine A1 fun γs => ?_ | refine N2 ?_ | refine N3 ?_ | refine N1 ?_); ((conv => whnf); repeat ((first | refine Sw.o ?_ | refine B0 ?_); conv => whnf))))
    refine CallP.pure [] _ c36 (match_ok g hg) ?_
    generalize matchF g = m at hml hC ⊢
    ((conv => whnf); repeat ((first | refine Sw.o ?_ | refine B0 ?_); conv => whnf))
    (repeat ((first | refine N0 ?_ | refine A0 fun γ => ?_ | refine C1 ?_ | refine C2 ?_ | refine C3 ?_ | refine C4 ?_ | refine C5 ?_ | refine C6 ?_ | refine C7 ?_ | refine D0 fun γs => ?_ | refine A1 fun γs => ?_ | refine N2 ?_ | refine N3 ?_ | refine N1 ?_); ((conv => whnf); repeat ((first | refine Sw.o ?_ | refine B0 ?_); conv => whnf))))
    simp only [List.length_map]
    refine LoopP.intro (fun k σ H => ∃ p1 p100 i, ∃ out : List (Int × Int), i ≤ m.length ∧ k = m.length - i ∧ out ++ certG (tF g) i (m.drop i) = C ∧ out.length ≤ i ∧
      σ = fr [(1, .op 1 p1 0 0), (6, encI q.2), (7, .own 100 p100 0 out.length), (24, encL m), (25, encI m.length), (26, encI i)] ∧
      H = hp [(1, p1, ⟨26, 3, [encG g]⟩), (100, p100, ⟨55, 2, out.map encPr⟩)]) ?_ ?_
    · exact .intro <| W.mat 7 100 55 2 rfl rfl fun γ => W.of ⟨_, _, _, 0, [], Nat.zero_le _, rfl, hC, Nat.le_refl _, rfl, rfl⟩ ⟨rfl, rfl, rfl, rfl, rfl, rfl, trivial⟩ ⟨rfl, rfl, trivial⟩
    · rintro k σ H ⟨p1, p100, i, out, hi, rfl, hO, hol, rfl, rfl⟩
      ((conv => whnf); repeat ((first | refine Sw.o ?_ | refine B0 ?_); conv => whnf))
      (repeat ((first | refine N0 ?_ | refine A0 fun γ => ?_ | refine C1 ?_ | refine C2 ?_ | refine C3 ?_ | refine C4 ?_ | refine C5 ?_ | refine C6 ?_ | refine C7 ?_ | refine D0 fun γs => ?_ | refine A1 fun γs => ?_ | refine N2 ?_ | refine N3 ?_ | refine N1 ?_); ((conv => whnf); repeat ((first | refine Sw.o ?_ | refine B0 ?_); conv => whnf))))
      refine CondP.dec (fun h => ?_) (fun h => ?_) <;> ((conv => whnf); repeat ((first | refine Sw.o ?_ | refine B0 ?_); conv => whnf))
      · (have h2 := h; try simp only [LN] at h2)
        have hi' : i < m.length := by omega
        rw [List.drop_eq_getElem_cons hi'] at hO
        (repeat ((first | refine N0 ?_ | refine A0 fun γ => ?_ | refine C1 ?_ | refine C2 ?_ | refine C3 ?_ | refine C4 ?_ | refine C5 ?_ | refine C6 ?_ | refine C7 ?_ | refine D0 fun γs => ?_ | refine A1 fun γs => ?_ | refine N2 ?_ | refine N3 ?_ | refine N1 ?_); ((conv => whnf); repeat ((first | refine Sw.o ?_ | refine B0 ?_); conv => whnf))))
        (simp (disch := omega) only [LG]; ((conv => whnf); repeat ((first | refine Sw.o ?_ | refine B0 ?_); conv => whnf)))
        have hcl := certG_len (tF g) (m.drop (i + 1)) (i + 1)
        have hoC : out.length + (certG (tF g) i (m[i] :: m.drop (i + 1))).length = C.length := by rw [← hO]; simp
        generalize hu : m[i] = u at hO hoC ⊢
        unfold certG at hO
        (repeat ((first | refine N0 ?_ | refine A0 fun γ => ?_ | refine C1 ?_ | refine C2 ?_ | refine C3 ?_ | refine C4 ?_ | refine C5 ?_ | refine C6 ?_ | refine C7 ?_ | refine D0 fun γs => ?_ | refine A1 fun γs => ?_ | refine N2 ?_ | refine N3 ?_ | refine N1 ?_); ((conv => whnf); repeat ((first | refine Sw.o ?_ | refine B0 ?_); conv => whnf))))
        refine CondP.dec (fun h0 => ?_) (fun h0 => ?_) <;> ((conv => whnf); repeat ((first | refine Sw.o ?_ | refine B0 ?_); conv => whnf))
        · rw [decide_eq_false (by omega)] at hO
          (repeat ((first | refine N0 ?_ | refine A0 fun γ => ?_ | refine C1 ?_ | refine C2 ?_ | refine C3 ?_ | refine C4 ?_ | refine C5 ?_ | refine C6 ?_ | refine C7 ?_ | refine D0 fun γs => ?_ | refine A1 fun γs => ?_ | refine N2 ?_ | refine N3 ?_ | refine N1 ?_); ((conv => whnf); repeat ((first | refine Sw.o ?_ | refine B0 ?_); conv => whnf))))
          exact .intro <| W.of ⟨_, by omega, _, _, i + 1, out, by omega, rfl, hO, by omega, rfl, rfl⟩ ⟨rfl, rfl, rfl, rfl, rfl, rfl, trivial⟩ ⟨rfl, rfl, trivial⟩
        · rw [decide_eq_true (by omega)] at hO
          simp only at hO
          (repeat ((first | refine N0 ?_ | refine A0 fun γ => ?_ | refine C1 ?_ | refine C2 ?_ | refine C3 ?_ | refine C4 ?_ | refine C5 ?_ | refine C6 ?_ | refine C7 ?_ | refine D0 fun γs => ?_ | refine A1 fun γs => ?_ | refine N2 ?_ | refine N3 ?_ | refine N1 ?_); ((conv => whnf); repeat ((first | refine Sw.o ?_ | refine B0 ?_); conv => whnf))))
          rename_i γ9
          refine CallP.frame 1000000 [(5, 36)] rfl c41 (clone41_ok g.joined (by omega)) rfl trivial ?_
          rintro r0 h' ⟨δ, rfl, rfl⟩
          refine ⟨[(36, δ, ⟨29, 1, g.joined.map encL⟩), (1, p1, ⟨26, 3, [encG g]⟩), (100, p100, ⟨55, 2, out.map encPr⟩), (9, γ9, ⟨3, 1, [encI u]⟩), (10, γ, ⟨26, 3, [encG g]⟩)], ⟨mvB_flats encL _ (fun _ => rfl) .., rfl, rfl, rfl, rfl, trivial⟩, ?_⟩
          ((conv => whnf); repeat ((first | refine Sw.o ?_ | refine B0 ?_); conv => whnf))
          (repeat ((first | refine N0 ?_ | refine A0 fun γ => ?_ | refine C1 ?_ | refine C2 ?_ | refine C3 ?_ | refine C4 ?_ | refine C5 ?_ | refine C6 ?_ | refine C7 ?_ | refine D0 fun γs => ?_ | refine A1 fun γs => ?_ | refine N2 ?_ | refine N3 ?_ | refine N1 ?_); ((conv => whnf); repeat ((first | refine Sw.o ?_ | refine B0 ?_); conv => whnf))))
          (simp (disch := omega) only [LG]; ((conv => whnf); repeat ((first | refine Sw.o ?_ | refine B0 ?_); conv => whnf)))
          have hij : i < g.joined.length := by omega
          have sl := hg.sl _ (List.getElem_mem hij)
          have hcut : g.joined.set i (delF u g.joined[i]) = (cutF g i u).joined := by unfold cutF; simp only; rw [getD_lt _ _ _ hij]
          have hcw := cut_wf hg i u
          have hcl : (cutF g i u).joined.length = g.joined.length := by simp [cutF]
          generalize g.joined[i] = l at sl hcut ⊢
          refine CallG.new 5 3 1 (l.map encI) 0 l.length c43 (hcall_args (by rfl) (clone43_ok l (by omega))) (fun x hx c hc => by obtain ⟨b, _, rfl⟩ := List.mem_map.1 hx; obtain rfl := List.mem_singleton.1 hc; rfl) ?_
          ((conv => whnf); repeat ((first | refine Sw.o ?_ | refine B0 ?_); conv => whnf))
          (repeat ((first | refine N0 ?_ | refine A0 fun γ => ?_ | refine C1 ?_ | refine C2 ?_ | refine C3 ?_ | refine C4 ?_ | refine C5 ?_ | refine C6 ?_ | refine C7 ?_ | refine D0 fun γs => ?_ | refine A1 fun γs => ?_ | refine N2 ?_ | refine N3 ?_ | refine N1 ?_); ((conv => whnf); repeat ((first | refine Sw.o ?_ | refine B0 ?_); conv => whnf))))
          refine CallG.mod (b := 46) 3 1 _ 0 (delF u l).length c42 ?_ rfl (fun x hx c hc => by obtain ⟨b, _, rfl⟩ := List.mem_map.1 hx; obtain rfl := List.mem_singleton.1 hc; rfl) (hcall_args ?_ (deleteFunc_ok _ u l (by omega))) (fun x hx c hc => by obtain ⟨b, _, rfl⟩ := List.mem_map.1 hx; obtain rfl := List.mem_singleton.1 hc; rfl) ?_
          · show 46 ∈ [46, 9]
            simp
          · exact fz_two (by show 9 ∈ [9]; simp) rfl
          ((conv => whnf); repeat ((first | refine Sw.o ?_ | refine B0 ?_); conv => whnf))
          (repeat ((first | refine N0 ?_ | refine A0 fun γ => ?_ | refine C1 ?_ | refine C2 ?_ | refine C3 ?_ | refine C4 ?_ | refine C5 ?_ | refine C6 ?_ | refine C7 ?_ | refine D0 fun γs => ?_ | refine A1 fun γs => ?_ | refine N2 ?_ | refine N3 ?_ | refine N1 ?_); ((conv => whnf); repeat ((first | refine Sw.o ?_ | refine B0 ?_); conv => whnf))))
          (simp (disch := omega) only [LG]; ((conv => whnf); repeat ((first | refine Sw.o ?_ | refine B0 ?_); conv => whnf)))
          (repeat ((first | refine N0 ?_ | refine A0 fun γ => ?_ | refine C1 ?_ | refine C2 ?_ | refine C3 ?_ | refine C4 ?_ | refine C5 ?_ | refine C6 ?_ | refine C7 ?_ | refine D0 fun γs => ?_ | refine A1 fun γs => ?_ | refine N2 ?_ | refine N3 ?_ | refine N1 ?_); ((conv => whnf); repeat ((first | refine Sw.o ?_ | refine B0 ?_); conv => whnf))))
          refine CallP.pure [36, 46] _ c39 (pure_args ?_ (greatest0_ok (cutF g i u) hcw)) ?_
          · refine (snap_cut (g := g) (i := i) (l := delF u l) rfl rfl).trans ?_
            rw [hcut]; rfl
          ((conv => whnf); repeat ((first | refine Sw.o ?_ | refine B0 ?_); conv => whnf))
          (repeat ((first | refine N0 ?_ | refine A0 fun γ => ?_ | refine C1 ?_ | refine C2 ?_ | refine C3 ?_ | refine C4 ?_ | refine C5 ?_ | refine C6 ?_ | refine C7 ?_ | refine D0 fun γs => ?_ | refine A1 fun γs => ?_ | refine N2 ?_ | refine N3 ?_ | refine N1 ?_); ((conv => whnf); repeat ((first | refine Sw.o ?_ | refine B0 ?_); conv => whnf))))
          have ht := htF i u
          refine CondP.dec (fun hs => ?_) (fun hs => ?_) <;> ((conv => whnf); repeat ((first | refine Sw.o ?_ | refine B0 ?_); conv => whnf))
          · rw [ht, decide_eq_true hs] at hO
            (repeat ((first | refine N0 ?_ | refine A0 fun γ => ?_ | refine C1 ?_ | refine C2 ?_ | refine C3 ?_ | refine C4 ?_ | refine C5 ?_ | refine C6 ?_ | refine C7 ?_ | refine D0 fun γs => ?_ | refine A1 fun γs => ?_ | refine N2 ?_ | refine N3 ?_ | refine N1 ?_); ((conv => whnf); repeat ((first | refine Sw.o ?_ | refine B0 ?_); conv => whnf))))
            refine .intro <| W.of ⟨_, by omega, _, _, i + 1, out ++ [((i : Int), u)], by omega, rfl, by rw [List.append_assoc]; exact hO, by simp; omega, rfl, rfl⟩ ⟨rfl, rfl, by rw [List.length_append]; rfl, rfl, rfl, rfl, trivial⟩ ⟨rfl, ?_, trivial⟩
            rw [← snoc_encPr]; rfl
          · rw [ht, decide_eq_false hs] at hO
            (repeat ((first | refine N0 ?_ | refine A0 fun γ => ?_ | refine C1 ?_ | refine C2 ?_ | refine C3 ?_ | refine C4 ?_ | refine C5 ?_ | refine C6 ?_ | refine C7 ?_ | refine D0 fun γs => ?_ | refine A1 fun γs => ?_ | refine N2 ?_ | refine N3 ?_ | refine N1 ?_); ((conv => whnf); repeat ((first | refine Sw.o ?_ | refine B0 ?_); conv => whnf))))
            exact .intro <| W.of ⟨_, by omega, _, _, i + 1, out, by omega, rfl, hO, by omega, rfl, rfl⟩ ⟨rfl, rfl, rfl, rfl, rfl, rfl, trivial⟩ ⟨rfl, rfl, trivial⟩
      · (have h2 := h; try simp only [LN] at h2)
        rw [List.drop_eq_nil_of_le (by omega), certG, List.append_nil] at hO
        subst hR
        subst hO
        (repeat ((first | refine N0 ?_ | refine A0 fun γ => ?_ | refine C1 ?_ | refine C2 ?_ | refine C3 ?_ | refine C4 ?_ | refine C5 ?_ | refine C6 ?_ | refine C7 ?_ | refine D0 fun γs => ?_ | refine A1 fun γs => ?_ | refine N2 ?_ | refine N3 ?_ | refine N1 ?_); ((conv => whnf); repeat ((first | refine Sw.o ?_ | refine B0 ?_); conv => whnf))))
        refine .of ?_
        show AV.tup [AV.sl 2 _, _] = AV.tup [AV.sl 2 _, _]
        rw [snap_list _ _ _ _ rfl (snapEl_encPr _ _ _)]
        rfl
  · rw [decide_eq_false h] at hR
    subst hR
    (repeat ((first | refine N0 ?_ | refine A0 fun γ => ?_ | refine C1 ?_ | refine C2 ?_ | refine C3 ?_ | refine C4 ?_ | refine C5 ?_ | refine C6 ?_ | refine C7 ?_ | refine D0 fun γs => ?_ | refine A1 fun γs => ?_ | refine N2 ?_ | refine N3 ?_ | refine N1 ?_); ((conv => whnf); repeat ((first | refine Sw.o ?_ | refine B0 ?_); conv => whnf))))
    exact ends_tup2 (Le.nil 2) (Le.refl _)
end Go.Proofs.Ytgeeklnokblokaa
namespace Go.Proofs.Ytgeeklnokblokaa
open Go Go.Fw
def bs1 (c : UInt8) : ByteArray := ⟨#[c]⟩
def ux : U := ⟨bs1 120, 0, false⟩
def uy : U := ⟨bs1 121, 0, false⟩
def gA : G := ⟨[bs1 97, bs1 98, bs1 99], [ux, uy], [[0], [0], [0, 1]]⟩
def gB : G := ⟨[bs1 97], [ux, uy], [[0, 1]]⟩
def pTwo : Pt := ⟨[bs1 97, bs1 98], [ux]⟩
theorem vA1 : checkF gA = 0 := by kernel_rfl
theorem vB1 : checkF gB = 0 := by kernel_rfl
theorem vA2 : MatchF gA = ([0, -1, 1], 0) := by kernel_rfl
theorem vA3 : partsF gA = (pTwo, ⟨[bs1 99], [uy]⟩, ⟨[], []⟩, 0) := by kernel_rfl
theorem vA4 : culF gA = (pTwo, 0) := by kernel_rfl
theorem vB2 : MatchF gB = ([0], 0) := by kernel_rfl
theorem vB3 : CertainF gB = ([], 0) := by kernel_rfl
theorem vB4 : rankF gB = (1, 0) := by kernel_rfl
theorem zA : Sz gA := ⟨by decide, by decide, by decide, by decide, by decide, by decide⟩
theorem zB : Sz gB := ⟨by decide, by decide, by decide, by decide, by decide, by decide⟩
theorem hA : Halv gA := by
  have hm : mF gA = [0, 2] := by kernel_rfl
  have ho : ofM gA = [0, -1, 1] := by kernel_rfl
  unfold Halv
  rw [hm, ho]
  refine ⟨fun e => e = 0 ∨ e = 1, fun _ => False, ⟨?_, ?_⟩, ?_, ⟨?_, ?_⟩, ?_⟩
  · rintro e (rfl | rfl) <;> exact ⟨by decide, by decide⟩
  · rintro e (rfl | rfl) u hu
    · have : u = 0 := by simpa [gA] using hu
      subst this; exact .inl rfl
    · have : u = 0 := by simpa [gA] using hu
      subst this; exact .inl rfl
  · intro i h hi
    match i, h with
    | 0, _ => exact absurd (show (0 : Int) < 0 from hi) (by decide)
    | 1, _ => exact .inr rfl
    | 2, _ => exact absurd (show (1 : Int) < 0 from hi) (by decide)
  · rintro e h; exact h.elim
  · rintro e h; exact h.elim
  · intro i h hi
    match i, h with
    | 0, _ => exact absurd (show (0 : Int) < 0 from hi) (by decide)
    | 1, _ => exact absurd (show (2 : Int) < 0 from hi) (by decide)
theorem snapC_own {S : List Nat} {H : Hp} {n b g off len : Nat} {B : Blk} (hS : b ∈ S) (hb : H b = some (g, B)) (hl : off + len ≤ B.xs.length) : snapC S H (n + 1) (.own b g off len) = .sl B.n (((B.xs.drop off).take len).map (snapEl (snapC S H n))) := by
  simp only [snapC, if_pos hS, hb, true_and, if_pos hl]
theorem snapE_own {S : List Nat} {H : Hp} {n b g off len : Nat} {B : Blk} (hS : b ∈ S) (hb : H b = some (g, B)) (hl : off + len ≤ B.xs.length) : snapEl (snapC S H (n + 1)) (.own b g off len) = .sl B.n (((B.xs.drop off).take len).map (snapEl (snapC S H n))) := snapC_own hS hb hl
theorem cong1 {n : Nat} {a a' : AV} (h : a = a') : AV.sl n [a] = AV.sl n [a'] := by rw [h]
theorem cong3 {n : Nat} {a b c a' b' c' : AV} (h1 : a = a') (h2 : b = b') (h3 : c = c') : AV.sl n [a, b, c] = AV.sl n [a', b', c'] := by rw [h1, h2, h3]
theorem congG {γ : Nat} {a b c a' b' c' : AV} (h1 : a = a') (h2 : b = b') (h3 : c = c') : some (γ, (⟨26, 3, [.agg [a, b, c]]⟩ : Blk)) = some (γ, ⟨26, 3, [.agg [a', b', c']]⟩) := by rw [h1, h2, h3]
theorem congP {γ : Nat} {a b a' b' : AV} (h1 : a = a') (h2 : b = b') : some (γ, (⟨41, 2, [.agg [a, b]]⟩ : Blk)) = some (γ, ⟨41, 2, [.agg [a', b']]⟩) := by rw [h1, h2]
theorem SameInts_eq (a : List Int) (ha : a.length < 2^62) : PureCall Try.prog 18 [.sl 1 (a.map encI), .sl 1 (a.map encI)] (encB true) := by
  have := SameInts_ok a a ha ha
  rwa [decide_eq_true rfl] at this
theorem SamePart_eq (a : Pt) (h1 : a.eqs.length < 2^62) (h2 : a.uses.length < 2^62) : PureCall Try.prog 33 [encP a, encP a] (encB true) := by
  have := SamePart_ok a a h1 h1 h2 h2
  rwa [decide_eq_true rfl, decide_eq_true rfl, Bool.and_true] at this
set_option maxHeartbeats 4000000 in
set_option maxRecDepth 100000 in
theorem awake11_ok : PureCall Try.prog 11 [] (encB true) := by
  refine pure_cp (E := E 0) T_ok (D_ok 0) [] Try.func11 rfl (by rfl) (Nat.le_of_ble_eq_true rfl) ?_
  ((conv => whnf); repeat ((first | refine Sx.o ?_ | refine B0 ?_); conv => whnf))
  (repeat ((first | refine N0 ?_ | refine A0 fun γ => ?_ | refine C1 ?_ | refine C2 ?_ | refine C3 ?_ | refine C4 ?_ | refine C5 ?_ | refine C6 ?_ | refine C7 ?_ | refine D0 fun γs => ?_ | refine A1 fun γs => ?_ | refine N2 ?_ | refine N3 ?_ | refine N1 ?_ | simp (disch := omega) only [LG]); ((conv => whnf); repeat ((first | refine Sx.o ?_ | refine B0 ?_); conv => whnf))))
  refine cpA_seq ?_
  ((conv => whnf); repeat ((first | refine Sx.o ?_ | refine B0 ?_); conv => whnf))
  (repeat ((first | refine N0 ?_ | refine A0 fun γ => ?_ | refine C1 ?_ | refine C2 ?_ | refine C3 ?_ | refine C4 ?_ | refine C5 ?_ | refine C6 ?_ | refine C7 ?_ | refine D0 fun γs => ?_ | refine A1 fun γs => ?_ | refine N2 ?_ | refine N3 ?_ | refine N1 ?_ | simp (disch := omega) only [LG]); ((conv => whnf); repeat ((first | refine Sx.o ?_ | refine B0 ?_); conv => whnf))))
  refine cpA_seq ?_
  ((conv => whnf); repeat ((first | refine Sx.o ?_ | refine B0 ?_); conv => whnf))
  (repeat ((first | refine N0 ?_ | refine A0 fun γ => ?_ | refine C1 ?_ | refine C2 ?_ | refine C3 ?_ | refine C4 ?_ | refine C5 ?_ | refine C6 ?_ | refine C7 ?_ | refine D0 fun γs => ?_ | refine A1 fun γs => ?_ | refine N2 ?_ | refine N3 ?_ | refine N1 ?_ | simp (disch := omega) only [LG]); ((conv => whnf); repeat ((first | refine Sx.o ?_ | refine B0 ?_); conv => whnf))))
  refine CallP.pure [] _ c34 (use_ok (bs1 120)) ?_
  ((conv => whnf); repeat ((first | refine Sx.o ?_ | refine B0 ?_); conv => whnf))
  (repeat ((first | refine N0 ?_ | refine A0 fun γ => ?_ | refine C1 ?_ | refine C2 ?_ | refine C3 ?_ | refine C4 ?_ | refine C5 ?_ | refine C6 ?_ | refine C7 ?_ | refine D0 fun γs => ?_ | refine A1 fun γs => ?_ | refine N2 ?_ | refine N3 ?_ | refine N1 ?_ | simp (disch := omega) only [LG]); ((conv => whnf); repeat ((first | refine Sx.o ?_ | refine B0 ?_); conv => whnf))))
  refine CallP.pure [] _ c34 (use_ok (bs1 121)) ?_
  ((conv => whnf); repeat ((first | refine Sx.o ?_ | refine B0 ?_); conv => whnf))
  (repeat ((first | refine N0 ?_ | refine A0 fun γ => ?_ | refine C1 ?_ | refine C2 ?_ | refine C3 ?_ | refine C4 ?_ | refine C5 ?_ | refine C6 ?_ | refine C7 ?_ | refine D0 fun γs => ?_ | refine A1 fun γs => ?_ | refine N2 ?_ | refine N3 ?_ | refine N1 ?_ | simp (disch := omega) only [LG]); ((conv => whnf); repeat ((first | refine Sx.o ?_ | refine B0 ?_); conv => whnf))))
  rename Nat => γ1
  refine cpA_seqW (W.frb [13, 16, 17, 18, 19, 20] 1 γ1 _ rfl (by decide) (W.of (l := [(1, .op 1 γ1 0 0)]) (m := [(1, γ1, ⟨26, 3, [encG gA]⟩)]) ?_ ⟨rfl, trivial⟩ ⟨?_, trivial⟩))
  rotate_left
  · refine congG ?_ ?_ ?_
    · refine (snapC_own (B := ⟨9, 1, gA.eqs.map encS⟩) ?_ rfl ?_).trans rfl <;> (first | decide | exact Nat.le_of_ble_eq_true rfl)
    · refine (snapC_own (B := ⟨50, 3, gA.uses.map encU⟩) ?_ rfl ?_).trans rfl <;> (first | decide | exact Nat.le_of_ble_eq_true rfl)
    · refine (snapC_own (B := ⟨29, 1, [.own 17 _ 0 1, .own 18 _ 0 1, .own 19 _ 0 2]⟩) (by decide) rfl (Nat.le_of_ble_eq_true rfl)).trans (cong3 ?_ ?_ ?_)
      · refine Eq.trans (snapE_own (S := [13, 16, 17, 18, 19, 20]) (n := 1) (b := 17) (off := 0) (len := 1) (B := ⟨3, 1, [encI 0]⟩) (by decide) ?_ (by decide)) ?_ <;> rfl
      · refine Eq.trans (snapE_own (S := [13, 16, 17, 18, 19, 20]) (n := 1) (b := 18) (off := 0) (len := 1) (B := ⟨3, 1, [encI 0]⟩) (by decide) ?_ (by decide)) ?_ <;> rfl
      · refine Eq.trans (snapE_own (S := [13, 16, 17, 18, 19, 20]) (n := 1) (b := 19) (off := 0) (len := 2) (B := ⟨3, 1, [encI 0, encI 1]⟩) (by decide) ?_ (by decide)) ?_ <;> rfl
  ((conv => whnf); repeat ((first | refine Sx.o ?_ | refine B0 ?_); conv => whnf))
  (repeat ((first | refine N0 ?_ | refine A0 fun γ => ?_ | refine C1 ?_ | refine C2 ?_ | refine C3 ?_ | refine C4 ?_ | refine C5 ?_ | refine C6 ?_ | refine C7 ?_ | refine D0 fun γs => ?_ | refine A1 fun γs => ?_ | refine N2 ?_ | refine N3 ?_ | refine N1 ?_ | simp (disch := omega) only [LG]); ((conv => whnf); repeat ((first | refine Sx.o ?_ | refine B0 ?_); conv => whnf))))
  refine CallP.pure [] _ c12 (match12_ok gA zA) ?_
  rw [vA2]
  ((conv => whnf); repeat ((first | refine Sx.o ?_ | refine B0 ?_); conv => whnf))
  (repeat ((first | refine N0 ?_ | refine A0 fun γ => ?_ | refine C1 ?_ | refine C2 ?_ | refine C3 ?_ | refine C4 ?_ | refine C5 ?_ | refine C6 ?_ | refine C7 ?_ | refine D0 fun γs => ?_ | refine A1 fun γs => ?_ | refine N2 ?_ | refine N3 ?_ | refine N1 ?_ | simp (disch := omega) only [LG]); ((conv => whnf); repeat ((first | refine Sx.o ?_ | refine B0 ?_); conv => whnf))))
  refine cpA_seq ?_
  ((conv => whnf); repeat ((first | refine Sx.o ?_ | refine B0 ?_); conv => whnf))
  (repeat ((first | refine N0 ?_ | refine A0 fun γ => ?_ | refine C1 ?_ | refine C2 ?_ | refine C3 ?_ | refine C4 ?_ | refine C5 ?_ | refine C6 ?_ | refine C7 ?_ | refine D0 fun γs => ?_ | refine A1 fun γs => ?_ | refine N2 ?_ | refine N3 ?_ | refine N1 ?_ | simp (disch := omega) only [LG]); ((conv => whnf); repeat ((first | refine Sx.o ?_ | refine B0 ?_); conv => whnf))))
  refine CallP.pure [] _ c21 (parts21_ok gA zA fun _ => hA) ?_
  rw [vA3]
  ((conv => whnf); repeat ((first | refine Sx.o ?_ | refine B0 ?_); conv => whnf))
  (repeat ((first | refine N0 ?_ | refine A0 fun γ => ?_ | refine C1 ?_ | refine C2 ?_ | refine C3 ?_ | refine C4 ?_ | refine C5 ?_ | refine C6 ?_ | refine C7 ?_ | refine D0 fun γs => ?_ | refine A1 fun γs => ?_ | refine N2 ?_ | refine N3 ?_ | refine N1 ?_ | simp (disch := omega) only [LG]); ((conv => whnf); repeat ((first | refine Sx.o ?_ | refine B0 ?_); conv => whnf))))
  refine cpA_seq ?_
  ((conv => whnf); repeat ((first | refine Sx.o ?_ | refine B0 ?_); conv => whnf))
  (repeat ((first | refine N0 ?_ | refine A0 fun γ => ?_ | refine C1 ?_ | refine C2 ?_ | refine C3 ?_ | refine C4 ?_ | refine C5 ?_ | refine C6 ?_ | refine C7 ?_ | refine D0 fun γs => ?_ | refine A1 fun γs => ?_ | refine N2 ?_ | refine N3 ?_ | refine N1 ?_ | simp (disch := omega) only [LG]); ((conv => whnf); repeat ((first | refine Sx.o ?_ | refine B0 ?_); conv => whnf))))
  refine CallP.pure [] _ c27 (culprit27_ok gA zA fun _ => hA) ?_
  rw [vA4]
  ((conv => whnf); repeat ((first | refine Sx.o ?_ | refine B0 ?_); conv => whnf))
  (repeat ((first | refine N0 ?_ | refine A0 fun γ => ?_ | refine C1 ?_ | refine C2 ?_ | refine C3 ?_ | refine C4 ?_ | refine C5 ?_ | refine C6 ?_ | refine C7 ?_ | refine D0 fun γs => ?_ | refine A1 fun γs => ?_ | refine N2 ?_ | refine N3 ?_ | refine N1 ?_ | simp (disch := omega) only [LG]); ((conv => whnf); repeat ((first | refine Sx.o ?_ | refine B0 ?_); conv => whnf))))
  refine cpA_seq ?_
  ((conv => whnf); repeat ((first | refine Sx.o ?_ | refine B0 ?_); conv => whnf))
  (repeat ((first | refine N0 ?_ | refine A0 fun γ => ?_ | refine C1 ?_ | refine C2 ?_ | refine C3 ?_ | refine C4 ?_ | refine C5 ?_ | refine C6 ?_ | refine C7 ?_ | refine D0 fun γs => ?_ | refine A1 fun γs => ?_ | refine N2 ?_ | refine N3 ?_ | refine N1 ?_ | simp (disch := omega) only [LG]); ((conv => whnf); repeat ((first | refine Sx.o ?_ | refine B0 ?_); conv => whnf))))
  refine CallP.pure [] _ c34 (use_ok (bs1 120)) ?_
  ((conv => whnf); repeat ((first | refine Sx.o ?_ | refine B0 ?_); conv => whnf))
  (repeat ((first | refine N0 ?_ | refine A0 fun γ => ?_ | refine C1 ?_ | refine C2 ?_ | refine C3 ?_ | refine C4 ?_ | refine C5 ?_ | refine C6 ?_ | refine C7 ?_ | refine D0 fun γs => ?_ | refine A1 fun γs => ?_ | refine N2 ?_ | refine N3 ?_ | refine N1 ?_ | simp (disch := omega) only [LG]); ((conv => whnf); repeat ((first | refine Sx.o ?_ | refine B0 ?_); conv => whnf))))
  rename Nat => γ10
  refine cpA_seqW (W.frb [39, 41] 10 γ10 _ rfl (by decide) (W.of (l := [(1, .op 1 γ1 0 0), (2, encL [0, -1, 1]), (3, encI 0), (4, .op 4 _ 0 0), (5, .op 5 _ 0 0), (6, .op 6 _ 0 0), (7, encI 0), (8, .op 8 _ 0 0), (9, encI 0), (10, .op 10 γ10 0 0)])
    (m := [(1, γ1, ⟨26, 3, [encG gA]⟩), (4, _, ⟨41, 2, [encP pTwo]⟩), (5, _, ⟨41, 2, [encP ⟨[bs1 99], [uy]⟩]⟩), (6, _, ⟨41, 2, [encP ⟨[], []⟩]⟩), (8, _, ⟨41, 2, [encP pTwo]⟩), (10, γ10, ⟨41, 2, [encP pTwo]⟩)])
    ?_ ⟨rfl, rfl, rfl, rfl, rfl, rfl, rfl, rfl, rfl, rfl, trivial⟩ ⟨rfl, rfl, rfl, rfl, rfl, ?_, trivial⟩))
  rotate_left
  · refine congP ?_ ?_
    · refine (snapC_own (B := ⟨9, 1, pTwo.eqs.map encS⟩) ?_ rfl ?_).trans rfl <;> (first | decide | exact Nat.le_of_ble_eq_true rfl)
    · refine (snapC_own (B := ⟨50, 3, pTwo.uses.map encU⟩) ?_ rfl ?_).trans rfl <;> (first | decide | exact Nat.le_of_ble_eq_true rfl)
  ((conv => whnf); repeat ((first | refine Sx.o ?_ | refine B0 ?_); conv => whnf))
  (repeat ((first | refine N0 ?_ | refine A0 fun γ => ?_ | refine C1 ?_ | refine C2 ?_ | refine C3 ?_ | refine C4 ?_ | refine C5 ?_ | refine C6 ?_ | refine C7 ?_ | refine D0 fun γs => ?_ | refine A1 fun γs => ?_ | refine N2 ?_ | refine N3 ?_ | refine N1 ?_ | simp (disch := omega) only [LG]); ((conv => whnf); repeat ((first | refine Sx.o ?_ | refine B0 ?_); conv => whnf))))
  refine cpA_seq ?_
  ((conv => whnf); repeat ((first | refine Sx.o ?_ | refine B0 ?_); conv => whnf))
  refine DrawH.segs [(34, false), (35, true), (43, false)] (by kernel_rfl) ?_
  ((conv => whnf); repeat ((first | refine Sx.o ?_ | refine B0 ?_); conv => whnf))
  (repeat ((first | refine N0 ?_ | refine A0 fun γ => ?_ | refine C1 ?_ | refine C2 ?_ | refine C3 ?_ | refine C4 ?_ | refine C5 ?_ | refine C6 ?_ | refine C7 ?_ | refine D0 fun γs => ?_ | refine A1 fun γs => ?_ | refine N2 ?_ | refine N3 ?_ | refine N1 ?_ | simp (disch := omega) only [LG]); ((conv => whnf); repeat ((first | refine Sx.o ?_ | refine B0 ?_); conv => whnf))))
  refine CallG.flat (encB true) c18 (pure_args ?_ (SameInts_eq [0, -1, 1] (by decide))) rfl ?_
  · show [_, snap [55] _ (.own 55 _ 0 3)] = _
    rw [snap_own (B := ⟨3, 1, [encI 0, encI (-1), encI 1]⟩) (by decide) rfl (by decide)]
    rfl
  ((conv => whnf); repeat ((first | refine Sx.o ?_ | refine B0 ?_); conv => whnf))
  (repeat ((first | refine N0 ?_ | refine A0 fun γ => ?_ | refine C1 ?_ | refine C2 ?_ | refine C3 ?_ | refine C4 ?_ | refine C5 ?_ | refine C6 ?_ | refine C7 ?_ | refine D0 fun γs => ?_ | refine A1 fun γs => ?_ | refine N2 ?_ | refine N3 ?_ | refine N1 ?_ | simp (disch := omega) only [LG]); ((conv => whnf); repeat ((first | refine Sx.o ?_ | refine B0 ?_); conv => whnf))))
  refine CallG.flat (encB true) c33 (SamePart_eq pTwo (by decide) (by decide)) rfl ?_
  ((conv => whnf); repeat ((first | refine Sx.o ?_ | refine B0 ?_); conv => whnf))
  (repeat ((first | refine N0 ?_ | refine A0 fun γ => ?_ | refine C1 ?_ | refine C2 ?_ | refine C3 ?_ | refine C4 ?_ | refine C5 ?_ | refine C6 ?_ | refine C7 ?_ | refine D0 fun γs => ?_ | refine A1 fun γs => ?_ | refine N2 ?_ | refine N3 ?_ | refine N1 ?_ | simp (disch := omega) only [LG]); ((conv => whnf); repeat ((first | refine Sx.o ?_ | refine B0 ?_); conv => whnf))))
  refine CallG.flat (encB true) c33 (SamePart_eq pTwo (by decide) (by decide)) rfl ?_
  ((conv => whnf); repeat ((first | refine Sx.o ?_ | refine B0 ?_); conv => whnf))
  (repeat ((first | refine N0 ?_ | refine A0 fun γ => ?_ | refine C1 ?_ | refine C2 ?_ | refine C3 ?_ | refine C4 ?_ | refine C5 ?_ | refine C6 ?_ | refine C7 ?_ | refine D0 fun γs => ?_ | refine A1 fun γs => ?_ | refine N2 ?_ | refine N3 ?_ | refine N1 ?_ | simp (disch := omega) only [LG]); ((conv => whnf); repeat ((first | refine Sx.o ?_ | refine B0 ?_); conv => whnf))))
  refine CallG.intro (encU uy) c34 (use_ok (bs1 121)) ?_
  ((conv => whnf); repeat ((first | refine Sx.o ?_ | refine B0 ?_); conv => whnf))
  (repeat ((first | refine N0 ?_ | refine A0 fun γ => ?_ | refine C1 ?_ | refine C2 ?_ | refine C3 ?_ | refine C4 ?_ | refine C5 ?_ | refine C6 ?_ | refine C7 ?_ | refine D0 fun γs => ?_ | refine A1 fun γs => ?_ | refine N2 ?_ | refine N3 ?_ | refine N1 ?_ | simp (disch := omega) only [LG]); ((conv => whnf); repeat ((first | refine Sx.o ?_ | refine B0 ?_); conv => whnf))))
  refine CallP.flat [73, 75] (encB true) c33 (pure_args ?_ (SamePart_eq ⟨[bs1 99], [uy]⟩ (by decide) (by decide))) rfl ?_
  · show [_, AV.agg [snapC [73, 75] _ 3 (.own 73 _ 0 1), snapC [73, 75] _ 3 (.own 75 _ 0 1)]] = _
    rw [snapC_own (B := ⟨9, 1, [encS (bs1 99)]⟩) (by decide) rfl (by decide), snapC_own (B := ⟨50, 3, [encU uy]⟩) (by decide) rfl (by decide)]
    rfl
  ((conv => whnf); repeat ((first | refine Sx.o ?_ | refine B0 ?_); conv => whnf))
  (repeat ((first | refine N0 ?_ | refine A0 fun γ => ?_ | refine C1 ?_ | refine C2 ?_ | refine C3 ?_ | refine C4 ?_ | refine C5 ?_ | refine C6 ?_ | refine C7 ?_ | refine D0 fun γs => ?_ | refine A1 fun γs => ?_ | refine N2 ?_ | refine N3 ?_ | refine N1 ?_ | simp (disch := omega) only [LG]); ((conv => whnf); repeat ((first | refine Sx.o ?_ | refine B0 ?_); conv => whnf))))
  refine CallG.flat (encB true) c33 (PureCall.le (SamePart_eq ⟨[], []⟩ (by decide) (by decide)) rfl fun i h h' => ?_) rfl ?_
  · rcases i with _ | _ | i
    · exact Le.refl _
    · exact le_noP
    · simp at h'; omega
  ((conv => whnf); repeat ((first | refine Sx.o ?_ | refine B0 ?_); conv => whnf))
  (repeat ((first | refine N0 ?_ | refine A0 fun γ => ?_ | refine C1 ?_ | refine C2 ?_ | refine C3 ?_ | refine C4 ?_ | refine C5 ?_ | refine C6 ?_ | refine C7 ?_ | refine D0 fun γs => ?_ | refine A1 fun γs => ?_ | refine N2 ?_ | refine N3 ?_ | refine N1 ?_ | simp (disch := omega) only [LG]); ((conv => whnf); repeat ((first | refine Sx.o ?_ | refine B0 ?_); conv => whnf))))
  refine cpA_seqW (W.of (l := [(1, .op 1 γ1 0 0)]) (m := [(1, γ1, ⟨26, 3, [encG gA]⟩)]) ?_ ⟨rfl, trivial⟩ ⟨rfl, trivial⟩)
  ((conv => whnf); repeat ((first | refine Sx.o ?_ | refine B0 ?_); conv => whnf))
  (repeat ((first | refine N0 ?_ | refine A0 fun γ => ?_ | refine C1 ?_ | refine C2 ?_ | refine C3 ?_ | refine C4 ?_ | refine C5 ?_ | refine C6 ?_ | refine C7 ?_ | refine D0 fun γs => ?_ | refine A1 fun γs => ?_ | refine N2 ?_ | refine N3 ?_ | refine N1 ?_ | simp (disch := omega) only [LG]); ((conv => whnf); repeat ((first | refine Sx.o ?_ | refine B0 ?_); conv => whnf))))
  refine CallP.pure [] _ c34 (use_ok (bs1 120)) ?_
  ((conv => whnf); repeat ((first | refine Sx.o ?_ | refine B0 ?_); conv => whnf))
  (repeat ((first | refine N0 ?_ | refine A0 fun γ => ?_ | refine C1 ?_ | refine C2 ?_ | refine C3 ?_ | refine C4 ?_ | refine C5 ?_ | refine C6 ?_ | refine C7 ?_ | refine D0 fun γs => ?_ | refine A1 fun γs => ?_ | refine N2 ?_ | refine N3 ?_ | refine N1 ?_ | simp (disch := omega) only [LG]); ((conv => whnf); repeat ((first | refine Sx.o ?_ | refine B0 ?_); conv => whnf))))
  refine CallP.pure [] _ c34 (use_ok (bs1 121)) ?_
  ((conv => whnf); repeat ((first | refine Sx.o ?_ | refine B0 ?_); conv => whnf))
  (repeat ((first | refine N0 ?_ | refine A0 fun γ => ?_ | refine C1 ?_ | refine C2 ?_ | refine C3 ?_ | refine C4 ?_ | refine C5 ?_ | refine C6 ?_ | refine C7 ?_ | refine D0 fun γs => ?_ | refine A1 fun γs => ?_ | refine N2 ?_ | refine N3 ?_ | refine N1 ?_ | simp (disch := omega) only [LG]); ((conv => whnf); repeat ((first | refine Sx.o ?_ | refine B0 ?_); conv => whnf))))
  refine cpA_seqW (W.frb [86, 89, 90, 91] 1 γ1 _ rfl (by decide) (W.of (l := [(1, .op 1 γ1 0 0)]) (m := [(1, γ1, ⟨26, 3, [encG gB]⟩)]) ?_ ⟨rfl, trivial⟩ ⟨?_, trivial⟩))
  rotate_left
  · refine congG ?_ ?_ ?_
    · refine (snapC_own (B := ⟨9, 1, gB.eqs.map encS⟩) ?_ rfl ?_).trans rfl <;> (first | decide | exact Nat.le_of_ble_eq_true rfl)
    · refine (snapC_own (B := ⟨50, 3, gB.uses.map encU⟩) ?_ rfl ?_).trans rfl <;> (first | decide | exact Nat.le_of_ble_eq_true rfl)
    · refine (snapC_own (B := ⟨29, 1, [.own 90 _ 0 2]⟩) (by decide) rfl (Nat.le_of_ble_eq_true rfl)).trans (cong1 ?_)
      refine Eq.trans (snapE_own (S := [86, 89, 90, 91]) (n := 1) (b := 90) (off := 0) (len := 2) (B := ⟨3, 1, [encI 0, encI 1]⟩) (by decide) ?_ (by decide)) ?_ <;> rfl
  ((conv => whnf); repeat ((first | refine Sx.o ?_ | refine B0 ?_); conv => whnf))
  (repeat ((first | refine N0 ?_ | refine A0 fun γ => ?_ | refine C1 ?_ | refine C2 ?_ | refine C3 ?_ | refine C4 ?_ | refine C5 ?_ | refine C6 ?_ | refine C7 ?_ | refine D0 fun γs => ?_ | refine A1 fun γs => ?_ | refine N2 ?_ | refine N3 ?_ | refine N1 ?_ | simp (disch := omega) only [LG]); ((conv => whnf); repeat ((first | refine Sx.o ?_ | refine B0 ?_); conv => whnf))))
  refine CallP.pure [] _ c12 (match12_ok gB zB) ?_
  rw [vB2]
  ((conv => whnf); repeat ((first | refine Sx.o ?_ | refine B0 ?_); conv => whnf))
  (repeat ((first | refine N0 ?_ | refine A0 fun γ => ?_ | refine C1 ?_ | refine C2 ?_ | refine C3 ?_ | refine C4 ?_ | refine C5 ?_ | refine C6 ?_ | refine C7 ?_ | refine D0 fun γs => ?_ | refine A1 fun γs => ?_ | refine N2 ?_ | refine N3 ?_ | refine N1 ?_ | simp (disch := omega) only [LG]); ((conv => whnf); repeat ((first | refine Sx.o ?_ | refine B0 ?_); conv => whnf))))
  refine cpA_seq ?_
  ((conv => whnf); repeat ((first | refine Sx.o ?_ | refine B0 ?_); conv => whnf))
  (repeat ((first | refine N0 ?_ | refine A0 fun γ => ?_ | refine C1 ?_ | refine C2 ?_ | refine C3 ?_ | refine C4 ?_ | refine C5 ?_ | refine C6 ?_ | refine C7 ?_ | refine D0 fun γs => ?_ | refine A1 fun γs => ?_ | refine N2 ?_ | refine N3 ?_ | refine N1 ?_ | simp (disch := omega) only [LG]); ((conv => whnf); repeat ((first | refine Sx.o ?_ | refine B0 ?_); conv => whnf))))
  refine CallP.pure [] _ c16 (certain16_ok gB zB) ?_
  rw [vB3]
  ((conv => whnf); repeat ((first | refine Sx.o ?_ | refine B0 ?_); conv => whnf))
  (repeat ((first | refine N0 ?_ | refine A0 fun γ => ?_ | refine C1 ?_ | refine C2 ?_ | refine C3 ?_ | refine C4 ?_ | refine C5 ?_ | refine C6 ?_ | refine C7 ?_ | refine D0 fun γs => ?_ | refine A1 fun γs => ?_ | refine N2 ?_ | refine N3 ?_ | refine N1 ?_ | simp (disch := omega) only [LG]); ((conv => whnf); repeat ((first | refine Sx.o ?_ | refine B0 ?_); conv => whnf))))
  refine cpA_seq ?_
  ((conv => whnf); repeat ((first | refine Sx.o ?_ | refine B0 ?_); conv => whnf))
  (repeat ((first | refine N0 ?_ | refine A0 fun γ => ?_ | refine C1 ?_ | refine C2 ?_ | refine C3 ?_ | refine C4 ?_ | refine C5 ?_ | refine C6 ?_ | refine C7 ?_ | refine D0 fun γs => ?_ | refine A1 fun γs => ?_ | refine N2 ?_ | refine N3 ?_ | refine N1 ?_ | simp (disch := omega) only [LG]); ((conv => whnf); repeat ((first | refine Sx.o ?_ | refine B0 ?_); conv => whnf))))
  refine CallP.pure [] _ c14 (rank14_ok gB zB) ?_
  rw [vB4]
  ((conv => whnf); repeat ((first | refine Sx.o ?_ | refine B0 ?_); conv => whnf))
  (repeat ((first | refine N0 ?_ | refine A0 fun γ => ?_ | refine C1 ?_ | refine C2 ?_ | refine C3 ?_ | refine C4 ?_ | refine C5 ?_ | refine C6 ?_ | refine C7 ?_ | refine D0 fun γs => ?_ | refine A1 fun γs => ?_ | refine N2 ?_ | refine N3 ?_ | refine N1 ?_ | simp (disch := omega) only [LG]); ((conv => whnf); repeat ((first | refine Sx.o ?_ | refine B0 ?_); conv => whnf))))
  refine cpA_seq ?_
  ((conv => whnf); repeat ((first | refine Sx.o ?_ | refine B0 ?_); conv => whnf))
  (repeat ((first | refine N0 ?_ | refine A0 fun γ => ?_ | refine C1 ?_ | refine C2 ?_ | refine C3 ?_ | refine C4 ?_ | refine C5 ?_ | refine C6 ?_ | refine C7 ?_ | refine D0 fun γs => ?_ | refine A1 fun γs => ?_ | refine N2 ?_ | refine N3 ?_ | refine N1 ?_ | simp (disch := omega) only [LG]); ((conv => whnf); repeat ((first | refine Sx.o ?_ | refine B0 ?_); conv => whnf))))
  refine CallP.flat [120] (encB true) c18 (pure_args ?_ (SameInts_eq [0] (by decide))) rfl ?_
  · show [_, snap [120] _ (.own 120 _ 0 1)] = _
    rw [snap_own (B := ⟨3, 1, [encI 0]⟩) (by decide) rfl (by decide)]
    rfl
  ((conv => whnf); repeat ((first | refine Sw.o ?_ | refine B0 ?_); conv => whnf))
  (repeat ((first | refine N0 ?_ | refine A0 fun γ => ?_ | refine C1 ?_ | refine C2 ?_ | refine C3 ?_ | refine C4 ?_ | refine C5 ?_ | refine C6 ?_ | refine C7 ?_ | refine D0 fun γs => ?_ | refine A1 fun γs => ?_ | refine N2 ?_ | refine N3 ?_ | refine N1 ?_); ((conv => whnf); repeat ((first | refine Sw.o ?_ | refine B0 ?_); conv => whnf))))
  exact .of rfl
end Go.Proofs.Ytgeeklnokblokaa
namespace Go.Proofs.Ytgeeklnokblokaa
open Go Go.Fw
theorem getD_setL {α : Type} (l : List α) (i j : Nat) (x d : α) : (l.set i x).getD j d = if i = j ∧ i < l.length then x else l.getD j d := by
  simp only [List.getD_eq_getElem?_getD, List.getElem?_set]
  by_cases h : i = j
  · subst h
    by_cases h2 : i < l.length
    · simp [h2]
    · simp [h2, List.getElem?_eq_none (Nat.le_of_not_lt h2)]
  · simp [h]
/-- Two states of the search that differ in shut uses alone. -/
structure Sim (no : List Bool) (s t : MS) : Prop where
  lm : s.1.length = t.1.length
  ls : s.2.length = t.2.length
  see : ∀ i, s.2.getD i false = (no.getD i false || t.2.getD i false)
  mat : ∀ i, no.getD i false = false → s.1.getD i 0 = t.1.getD i 0
theorem Sim.set {no : List Bool} {s t : MS} (h : Sim no s t) (u : Nat) (e : Int) : Sim no (s.1.set u e, s.2) (t.1.set u e, t.2) :=
  ⟨by simp [h.lm], h.ls, h.see, fun i hi => by simp only [getD_setL, h.lm, h.mat i hi]⟩
theorem Sim.mark {no : List Bool} {s t : MS} (h : Sim no s t) (u : Nat) : Sim no (s.1, s.2.set u true) (t.1, t.2.set u true) :=
  ⟨h.lm, by simp [h.ls], fun i => by simp only [getD_setL, h.ls, h.see i]; split <;> simp, h.mat⟩
theorem sim_L {no : List Bool} {rt rf : Int → MS → Bool × MS} (hrec : ∀ (e : Int) (s t : MS), Sim no s t → (rt e s).1 = (rf e t).1 ∧ Sim no (rt e s).2 (rf e t).2) (e : Int) :
    ∀ (l : List Int) (s t : MS), Sim no s t → (tryL rt e l s).1 = (findL no rf e l t).1 ∧ Sim no (tryL rt e l s).2 (findL no rf e l t).2
  | [], s, t, h => ⟨rfl, h⟩
  | u :: r, s, t, h => by
    unfold tryL findL
    have hs := h.see u.toNat
    cases hb : (no.getD u.toNat false || t.2.getD u.toNat false) with
    | true =>
      rw [hb] at hs
      rw [hs]
      exact sim_L hrec e r s t h
    | false =>
      rw [hb] at hs
      rw [hs]
      simp only
      have hno : no.getD u.toNat false = false := by
        cases hx : no.getD u.toNat false with
        | true => rw [hx] at hb; simp at hb
        | false => rfl
      rw [h.mat _ hno]
      cases hd : decide (t.1.getD u.toNat 0 < 0) with
      | true => exact ⟨rfl, (h.set _ _).mark _⟩
      | false =>
        simp only
        have hr := hrec (t.1.getD u.toNat 0) _ _ (h.mark u.toNat)
        generalize rt (t.1.getD u.toNat 0) (s.1, s.2.set u.toNat true) = a at hr
        generalize rf (t.1.getD u.toNat 0) (t.1, t.2.set u.toNat true) = b at hr
        obtain ⟨a1, a2⟩ := a
        obtain ⟨b1, b2⟩ := b
        obtain ⟨h1, h2⟩ := hr
        simp only at h1 h2
        subst h1
        cases a1 with
        | true => exact ⟨rfl, h2.set _ _⟩
        | false => exact sim_L hrec e r a2 b2 h2
theorem sim_F (g : G) (no : List Bool) : ∀ (n : Nat) (e : Int) (s t : MS), Sim no s t → (tryF g n e s).1 = (findF g no n e t).1 ∧ Sim no (tryF g n e s).2 (findF g no n e t).2
  | 0, e, s, t, h => ⟨rfl, h⟩
  | n + 1, e, s, t, h => by
    unfold tryF findF
    exact sim_L (sim_F g no n) e _ s t h
theorem run_size (g : G) (ne no : List Bool) (hno : no.length = g.uses.length) (c : Int) : ∀ (l : List Nat) (s t : List Int × Int), s.1.length = t.1.length → (∀ i, no.getD i false = false → s.1.getD i 0 = t.1.getD i 0) → s.2 = t.2 + c →
    (runF g no (l.filter fun e => !ne.getD e false) s).2 = sizeL g ne no l t + c
  | [], s, t, hl, hm, hs => hs
  | e :: r, s, t, hl, hm, hs => by
    unfold sizeL
    cases hb : ne.getD e false with
    | true =>
      simp only [List.filter_cons, hb, Bool.not_true]
      exact run_size g ne no hno c r s t hl hm hs
    | false =>
      simp only [List.filter_cons, hb, Bool.not_false, if_true]
      unfold runF
      have hsim : Sim no (s.1, no) (t.1, List.replicate g.uses.length false) := ⟨hl, by simp [hno], fun i => by
        simp only [List.getD_eq_getElem?_getD, List.getElem?_replicate]
        split <;> simp, hm⟩
      have hr := sim_F g no (no.length + 1) (e : Int) _ _ hsim
      rw [← hno]
      rw [← hno] at hr
      generalize tryF g (no.length + 1) (e : Int) (s.1, no) = a at hr
      generalize findF g no (no.length + 1) (e : Int) (t.1, List.replicate no.length false) = b at hr
      obtain ⟨a1, a2⟩ := a
      obtain ⟨b1, b2⟩ := b
      obtain ⟨h1, h2⟩ := hr
      simp only at h1 h2
      subst h1
      cases a1 with
      | true => exact run_size g ne no hno c r _ _ h2.lm h2.mat (by simp only; omega)
      | false => exact run_size g ne no hno c r _ _ h2.lm h2.mat hs
/-- How many of a list of given uses there are. -/
def nonneg (l : List Int) : Nat := l.countP fun u => decide (0 ≤ u)
theorem nonneg_snoc (l : List Int) (u : Int) : (nonneg (l ++ [u]) : Int) = nonneg l + (if 0 ≤ u then 1 else 0) := by
  unfold nonneg
  rw [List.countP_append]
  by_cases h : 0 ≤ u <;> simp [h]
theorem fix_spec (n : Nat) : ∀ (l : List Int) (e : Nat) (s : MS × Int), (∀ u ∈ l, u < n) → s.1.1.length = n → s.1.2.length = n →
    (fixF e l s).1.1.length = n ∧ (fixF e l s).1.2.length = n ∧ (fixF e l s).2 = s.2 + nonneg l ∧
    (∀ i : Nat, (fixF e l s).1.2.getD i false = (s.1.2.getD i false || decide ((i : Int) ∈ l))) ∧
    (∀ i : Nat, (fixF e l s).1.2.getD i false = false → (fixF e l s).1.1.getD i 0 = s.1.1.getD i 0)
  | [], e, s, _, h1, h2 => ⟨h1, h2, by simp [fixF, nonneg], fun i => by simp [fixF], fun i _ => rfl⟩
  | u :: r, e, s, hu, h1, h2 => by
    unfold fixF
    have hr : ∀ v ∈ r, v < n := fun v hv => hu v (List.mem_cons_of_mem _ hv)
    by_cases hd : 0 ≤ u
    · rw [decide_eq_true hd]
      simp only
      obtain ⟨a, b, c, d, f⟩ := fix_spec n r (e + 1) ((s.1.1.set u.toNat e, s.1.2.set u.toNat true), s.2 + 1) hr (by simpa using h1) (by simpa using h2)
      have hun : u < n := hu u (by simp)
      refine ⟨a, b, ?_, fun i => ?_, fun i hi => ?_⟩
      · rw [c]
        simp only [nonneg, List.countP_cons, hd, decide_true, if_true]
        omega
      · rw [d]
        simp only [getD_setL, List.mem_cons]
        by_cases hiu : u.toNat = i
        · have : (i : Int) = u := by omega
          simp [hiu, this, h2, show i < n by omega]
        · have : ¬ (i : Int) = u := by omega
          simp [hiu, this]
      · rw [f i hi]
        have := d i
        rw [hi] at this
        simp only [getD_setL] at this ⊢
        split
        · rename_i q
          rw [if_pos ⟨q.1, by omega⟩] at this
          simp at this
        · rfl
    · rw [decide_eq_false hd]
      simp only
      obtain ⟨a, b, c, d, f⟩ := fix_spec n r (e + 1) s hr h1 h2
      refine ⟨a, b, ?_, fun i => ?_, f⟩
      · rw [c]; simp [nonneg, List.countP_cons, hd]
      · rw [d]
        have : ¬ (i : Int) = u := by omega
        simp [this]
theorem filter_from (ne : List Bool) (n k : Nat) (hk : k ≤ n) (h : ∀ i, i < n → ne.getD i false = decide (i < k)) : (List.range' 0 n).filter (fun e => !ne.getD e false) = List.range' k (n - k) := by
  have h1 : List.range' 0 n = List.range' 0 k ++ List.range' k (n - k) := by
    have := List.range'_append (s := 0) (m := k) (n := n - k) (step := 1)
    simp only [Nat.one_mul, Nat.zero_add] at this
    rw [this]
    congr 1
    omega
  rw [h1, List.filter_append]
  have h2 : (List.range' 0 k).filter (fun e => !ne.getD e false) = [] := by
    refine List.filter_eq_nil_iff.2 fun e he => ?_
    rw [List.mem_range'_1] at he
    rw [h e (by omega)]
    simp; omega
  have h3 : (List.range' k (n - k)).filter (fun e => !ne.getD e false) = List.range' k (n - k) := by
    refine List.filter_eq_self.2 fun e he => ?_
    rw [List.mem_range'_1] at he
    rw [h e (by omega)]
    simp; omega
  rw [h2, h3, List.nil_append]
/-- The program's greatest number with uses given to the first equations, by the document's size. -/
theorem greatest_size (g : G) (fixed : List Int) (hf : fixed.length ≤ g.eqs.length) (hu : ∀ u ∈ fixed, u < g.uses.length) (ne no : List Bool) (hno : no.length = g.uses.length)
    (h1 : ∀ i, i < g.eqs.length → ne.getD i false = decide (i < fixed.length)) (h2 : ∀ i : Nat, no.getD i false = decide ((i : Int) ∈ fixed)) : (greatestF g fixed).2 = sizeF g ne no + nonneg fixed := by
  obtain ⟨a, b, c, d, f⟩ := fix_spec g.uses.length fixed 0 (startF g) hu (by simp [startF]) (by simp [startF])
  have hsh : (fixF 0 fixed (startF g)).1.2 = no := by
    refine ext_getD (d := false) (by rw [b, hno]) fun i hi => ?_
    rw [d, h2]
    simp [startF, List.getD_eq_getElem?_getD, List.getElem?_replicate]
    split <;> simp
  unfold greatestF sizeF
  rw [hsh, ← filter_from ne g.eqs.length fixed.length hf h1]
  refine run_size g ne no hno _ _ _ _ (by rw [a]; simp) (fun i hi => ?_) (by rw [c]; simp [startF])
  rw [f i (by rw [hsh]; exact hi)]
  rfl
theorem getD_rep' {α : Type} (n i : Nat) (x : α) : (List.replicate n x).getD i x = x := by
  simp only [List.getD_eq_getElem?_getD, List.getElem?_replicate]
  split <;> rfl
theorem greatest0_size (g : G) : (greatestF g []).2 = SizeF g := by
  have := greatest_size g [] (Nat.zero_le _) (fun u h => absurd h (by simp)) (fe g) (fu g) (by simp [fu]) (fun i h => by unfold fe; rw [getD_rep']; simp) (fun i => by unfold fu; rw [getD_rep']; simp)
  rw [this]; simp [nonneg, SizeF, fe, fu]
theorem rank_eq (g : G) : rankF g = rankR g := by unfold rankF rankR; rw [greatest0_size]; try rfl
theorem match_L (g : G) (out : List Int) (most left : Int) (ne no : List Bool) (hl : left = most - nonneg out) (ho : out.length < g.eqs.length) (hu : ∀ u ∈ out, u < g.uses.length) (hno : no.length = g.uses.length)
    (h1 : ∀ i, i < g.eqs.length → ne.getD i false = decide (i < out.length + 1)) (h2 : ∀ i : Nat, no.getD i false = decide ((i : Int) ∈ out)) : ∀ l : List Int, (∀ u ∈ l, 0 ≤ u ∧ u < g.uses.length) →
    mrL g ne l (-1, left, no) = (matchL g most out l, most - nonneg (out ++ [matchL g most out l]), if 0 ≤ matchL g most out l then no.set (matchL g most out l).toNat true else no)
  | [], _ => by
    unfold mrL matchL
    have hz : ¬ (0 : Int) ≤ -1 := by decide
    rw [nonneg_snoc, if_neg hz, if_neg hz, hl, Int.add_zero]
  | u :: r, hin => by
    have hr := fun v hv => hin v (List.mem_cons_of_mem _ hv)
    have ih := match_L g out most left ne no hl ho hu hno h1 h2 r hr
    obtain ⟨hu0, hun⟩ := hin u (by simp)
    unfold mrL matchL
    rw [decide_eq_true (show (-1 : Int) < 0 by decide)]
    simp only
    rw [h2 u.toNat, show ((u.toNat : Nat) : Int) = u by omega]
    by_cases hmem : u ∈ out
    · rw [decide_eq_true hmem]
      exact ih
    · rw [decide_eq_false hmem]
      simp only
      have hgs := greatest_size g (out ++ [u]) (by simp; omega) (fun v hv => by
        rcases List.mem_append.1 hv with hv | hv
        · exact hu v hv
        · simp at hv; omega) ne (no.set u.toNat true) (by simpa using hno) (fun i hi => by rw [h1 i hi]; simp) (fun i => by
        rw [getD_setL, h2]
        by_cases hiu : u.toNat = i
        · have hi2 : (i : Int) = u := by omega
          rw [if_pos ⟨hiu, by omega⟩, decide_eq_true (show (i : Int) ∈ out ++ [u] by rw [hi2]; simp)]
        · have : ¬ (i : Int) = u := by omega
          rw [if_neg (fun h => hiu h.1)]
          simp [this])
      rw [nonneg_snoc, if_pos hu0] at hgs
      have hiff : (sizeF g ne (no.set u.toNat true) = left - 1) ↔ ((greatestF g (out ++ [u])).2 = most) := by rw [hgs, hl]; omega
      by_cases hm : (greatestF g (out ++ [u])).2 = most
      · rw [decide_eq_true hm, decide_eq_true (hiff.2 hm)]
        simp only
        have hdone : ∀ (l : List Int) (x : Int) (q : Int × List Bool), 0 ≤ x → mrL g ne l (x, q) = (x, q) := by
          intro l x q hx
          cases l with
          | nil => rfl
          | cons v r => unfold mrL; rw [decide_eq_false (by simp only; omega)]
        rw [hdone _ _ _ hu0, nonneg_snoc, if_pos hu0, if_pos hu0, hl]
        congr 2
        omega
      · rw [decide_eq_false hm, decide_eq_false (fun h => hm (hiff.1 h))]
        exact ih
theorem match_O (g : G) (hg : WF g) (most : Int) : ∀ (l : List (List Int)) (out : List Int) (left : Int) (ne no : List Bool), out.length + l.length = g.eqs.length → g.joined.drop out.length = l → left = most - nonneg out → (∀ u ∈ out, u < g.uses.length) → no.length = g.uses.length → ne.length = g.eqs.length →
    (∀ i, i < g.eqs.length → ne.getD i false = decide (i < out.length)) → (∀ i : Nat, no.getD i false = decide ((i : Int) ∈ out)) →
    mrO g (List.range' out.length l.length) (left, ne, no) out = matchO g most l out
  | [], out, left, ne, no, _, _, _, _, _, _, _, _ => rfl
  | l :: r, out, left, ne, no, hlen, hdr, hl, hu, hno, hne, h1, h2 => by
    have hol : out.length < g.joined.length := by
      have := congrArg List.length hdr
      simp at this
      omega
    have hgl := hg.len
    rw [List.drop_eq_getElem_cons hol] at hdr
    injection hdr with hd1 hd2
    simp only [List.length_cons] at hlen
    have hle : out.length < g.eqs.length := by omega
    have hget : g.joined.getD out.length [] = l := by rw [getD_lt _ _ _ hol, hd1]
    have hwf := hg.in_ l (by rw [← hd1]; exact List.getElem_mem hol)
    rw [List.length_cons, List.range'_succ]
    unfold mrO matchO
    have hne' : ∀ i, i < g.eqs.length → (ne.set out.length true).getD i false = decide (i < out.length + 1) := by
      intro i hi
      rw [getD_setL, h1 i hi]
      by_cases q : out.length = i
      · rw [if_pos ⟨q, by omega⟩, decide_eq_true (by omega)]
      · rw [if_neg (fun h => q h.1)]
        by_cases q2 : i < out.length
        · rw [decide_eq_true q2, decide_eq_true (by omega)]
        · rw [decide_eq_false q2, decide_eq_false (by omega)]
    simp only [hget]
    rw [match_L g out most left _ no hl hle hu hno hne' h2 l hwf]
    simp only
    have hx := matchL_lt g most out l (fun u h => (hwf u h).2)
    generalize matchL g most out l = x at hx
    have hlen' : (out ++ [x]).length = out.length + 1 := by simp
    rw [← hlen']
    refine match_O g hg most r (out ++ [x]) _ _ _ (by rw [hlen']; omega) (by rw [hlen']; exact hd2) rfl (fun v hv => ?_) ?_ (by simpa using hne) (fun i hi => by rw [hlen']; exact hne' i hi) (fun i => ?_)
    · rcases List.mem_append.1 hv with hv | hv
      · exact hu v hv
      · simp at hv; omega
    · split
      · simpa using hno
      · exact hno
    · split
      · rename_i hx0
        rw [getD_setL, h2]
        by_cases q : x.toNat = i
        · have hi2 : (i : Int) = x := by omega
          rw [if_pos ⟨q, by omega⟩, decide_eq_true (show (i : Int) ∈ out ++ [x] by rw [hi2]; simp)]
        · have : ¬ (i : Int) = x := by omega
          rw [if_neg (fun h => q h.1)]
          simp [this]
      · rw [h2]
        have : ¬ (i : Int) = x := by omega
        simp [this]
theorem match_eq0 (g : G) (hg : WF g) : matchF g = matchR g := by
  unfold matchF matchR
  rw [greatest0_size]
  have := match_O g hg (SizeF g) g.joined [] (SizeF g) (fe g) (fu g) (by simp [hg.len]) rfl (by simp [nonneg]) (fun u h => absurd h (by simp)) (by simp [fu]) (by simp [fe]) (fun i h => by unfold fe; rw [getD_rep']; simp) (fun i => by unfold fu; rw [getD_rep']; simp)
  rw [← this, ← hg.len]
  rfl
theorem match_eq (g : G) : MatchF g = MatchR g := by
  unfold MatchF MatchR
  cases h : decide (checkF g = 0) with
  | true => rw [match_eq0 g (check_wf (of_decide_eq_true h)).1]
  | false => rfl
theorem cut_without (g : G) (e : Nat) (u : Int) (he : e < g.joined.length) : cutF g e u = withoutF g e u := by
  unfold cutF withoutF
  congr 1
  refine List.ext_getElem (by simp [wojF_len]) fun i h1 h2 => ?_
  have hi : i < g.joined.length := by simpa using h1
  rw [wojF_get e u g.joined 0 i hi h2, List.getElem_set]
  simp only [Nat.zero_add]
  by_cases q : e = i
  · subst q
    rw [if_pos rfl, getD_lt _ _ _ he]
    simp [wolF, delF]
  · rw [if_neg q]
    have : ¬ (i : Int) = (e : Int) := by omega
    simp only [wolF, this, decide_false, Bool.not_false, Bool.true_or]
    exact (List.filter_eq_self.2 fun _ _ => rfl).symm
theorem cert_congr {t t' : Nat → Int → Bool} (n : Nat) (h : ∀ e u, e < n → t e u = t' e u) : ∀ (l : List Int) (e : Nat), e + l.length ≤ n → certG t e l = certG t' e l
  | [], e, _ => rfl
  | u :: r, e, hl => by
    simp only [List.length_cons] at hl
    unfold certG
    rw [h e u (by omega), cert_congr n h r (e + 1) (by omega)]
theorem certain_eq (g : G) : CertainF g = CertainR g := by
  unfold CertainF CertainR
  cases h : decide (checkF g = 0) with
  | true =>
    have hg := (check_wf (of_decide_eq_true h)).1
    simp only
    rw [← match_eq0 g hg]
    congr 1
    refine cert_congr g.joined.length (fun e u he => ?_) _ _ (by rw [matchF_len]; omega)
    unfold tF tR
    rw [cut_without g e u he, greatest0_size, greatest0_size]
  | false => rfl
end Go.Proofs.Ytgeeklnokblokaa
namespace Go.Proofs.Ytgeeklnokblokaa
open Go Go.Fw
def GreatP (g : G) : Prop := (14 < g.eqs.length ∧ g.eqs.length ≤ 120) ∨ (14 < g.uses.length ∧ g.uses.length ≤ 400) ∨ 200 < g.joined.length
instance (g : G) : Decidable (GreatP g) := by unfold GreatP; infer_instance
set_option maxRecDepth 100000 in
theorem Great_ok (g : G) : PureCall Try.prog 10 [encG g] (encB (decide (GreatP g))) := by
  refine pure_cp (E := E 0) T_ok (D_ok 0) [] Try.func10 rfl (by rfl) (Nat.le_of_ble_eq_true rfl) ?_
  have key : ∀ b : Bool, (b = true ↔ GreatP g) → Fw.Ends (encB b) (encB (decide (GreatP g))) := fun b hb => Fw.Ends.of (congrArg encB (by rw [Bool.eq_iff_iff, hb, decide_eq_true_iff]))
  ((conv => whnf); repeat ((first | refine Sw.o ?_ | refine B0 ?_); conv => whnf))
  (repeat ((first | refine N0 ?_ | refine A0 fun γ => ?_ | refine C1 ?_ | refine C2 ?_ | refine C3 ?_ | refine C4 ?_ | refine C5 ?_ | refine C6 ?_ | refine C7 ?_ | refine D0 fun γs => ?_ | refine A1 fun γs => ?_ | refine N2 ?_ | refine N3 ?_ | refine N1 ?_); ((conv => whnf); repeat ((first | refine Sw.o ?_ | refine B0 ?_); conv => whnf))))
  (repeat' (first | ((first | refine N0 ?_ | refine A0 fun γ => ?_ | refine C1 ?_ | refine C2 ?_ | refine C3 ?_ | refine C4 ?_ | refine C5 ?_ | refine C6 ?_ | refine C7 ?_ | refine D0 fun γs => ?_ | refine A1 fun γs => ?_ | refine N2 ?_ | refine N3 ?_ | refine N1 ?_); ((conv => whnf); repeat ((first | refine Sw.o ?_ | refine B0 ?_); conv => whnf))) | (refine CondP.dec (fun h => ?_) (fun h => ?_) <;> (conv => whnf))))
  all_goals (
    refine key _ ?_
    unfold GreatP
    simp only [List.length_map] at *
    first | omega | (simp only [decide_eq_true_iff]; omega) | (simp only [true_iff, Bool.false_eq_true, false_iff]; omega))
end Go.Proofs.Ytgeeklnokblokaa
namespace Go.Proofs.Ytgeeklnokblokaa
open Go Go.Fw
theorem pairs_eq (a : List (Int × Int)) (ha : a.length < 2^62) : PureCall Try.prog 19 [.sl 2 (a.map encPr), .sl 2 (a.map encPr)] (encB true) := by
  have := pairs_ok a a ha ha
  rwa [decide_eq_true rfl] at this
theorem MatchR_len (g : G) : (MatchR g).1.length ≤ 120 := by
  unfold MatchR
  cases h : decide (checkF g = 0) with
  | true =>
    have := (check_wf (of_decide_eq_true h)).2.2.1
    simp only [matchR_len]; exact this
  | false => simp
theorem CertainR_len (g : G) : (CertainR g).1.length ≤ 120 := by
  unfold CertainR
  cases h : decide (checkF g = 0) with
  | true =>
    have := (check_wf (of_decide_eq_true h)).2.2.1
    have := certG_len (tR g) (matchR g) 0
    rw [matchR_len] at this
    simp only; omega
  | false => simp
set_option maxHeartbeats 4000000 in
set_option maxRecDepth 100000 in
theorem MatchPlays_ok (g : G) (hz : Sz g) : PureCall Try.prog 3 [encG g] (encB true) := by
  refine pure_cp (E := E 0) T_ok (D_ok 0) [] Try.func3 rfl (by rfl) (Nat.le_of_ble_eq_true rfl) ?_
  ((conv => whnf); repeat ((first | refine Sw.o ?_ | refine B0 ?_); conv => whnf))
  (repeat ((first | refine N0 ?_ | refine A0 fun γ => ?_ | refine C1 ?_ | refine C2 ?_ | refine C3 ?_ | refine C4 ?_ | refine C5 ?_ | refine C6 ?_ | refine C7 ?_ | refine D0 fun γs => ?_ | refine A1 fun γs => ?_ | refine N2 ?_ | refine N3 ?_ | refine N1 ?_); ((conv => whnf); repeat ((first | refine Sw.o ?_ | refine B0 ?_); conv => whnf))))
  refine CallP.flat [] _ c10 (Great_ok g) rfl ?_
  ((conv => whnf); repeat ((first | refine Sw.o ?_ | refine B0 ?_); conv => whnf))
  (repeat ((first | refine N0 ?_ | refine A0 fun γ => ?_ | refine C1 ?_ | refine C2 ?_ | refine C3 ?_ | refine C4 ?_ | refine C5 ?_ | refine C6 ?_ | refine C7 ?_ | refine D0 fun γs => ?_ | refine A1 fun γs => ?_ | refine N2 ?_ | refine N3 ?_ | refine N1 ?_); ((conv => whnf); repeat ((first | refine Sw.o ?_ | refine B0 ?_); conv => whnf))))
  refine CondP.dec (fun h => ?_) (fun h => ?_) <;> ((conv => whnf); repeat ((first | refine Sw.o ?_ | refine B0 ?_); conv => whnf))
  · (repeat ((first | refine N0 ?_ | refine A0 fun γ => ?_ | refine C1 ?_ | refine C2 ?_ | refine C3 ?_ | refine C4 ?_ | refine C5 ?_ | refine C6 ?_ | refine C7 ?_ | refine D0 fun γs => ?_ | refine A1 fun γs => ?_ | refine N2 ?_ | refine N3 ?_ | refine N1 ?_); ((conv => whnf); repeat ((first | refine Sw.o ?_ | refine B0 ?_); conv => whnf))))
    refine CallP.flat [] _ c11 awake11_ok rfl ?_
    ((conv => whnf); repeat ((first | refine Sw.o ?_ | refine B0 ?_); conv => whnf))
    (repeat ((first | refine N0 ?_ | refine A0 fun γ => ?_ | refine C1 ?_ | refine C2 ?_ | refine C3 ?_ | refine C4 ?_ | refine C5 ?_ | refine C6 ?_ | refine C7 ?_ | refine D0 fun γs => ?_ | refine A1 fun γs => ?_ | refine N2 ?_ | refine N3 ?_ | refine N1 ?_); ((conv => whnf); repeat ((first | refine Sw.o ?_ | refine B0 ?_); conv => whnf))))
    exact .of rfl
  · (repeat ((first | refine N0 ?_ | refine A0 fun γ => ?_ | refine C1 ?_ | refine C2 ?_ | refine C3 ?_ | refine C4 ?_ | refine C5 ?_ | refine C6 ?_ | refine C7 ?_ | refine D0 fun γs => ?_ | refine A1 fun γs => ?_ | refine N2 ?_ | refine N3 ?_ | refine N1 ?_); ((conv => whnf); repeat ((first | refine Sw.o ?_ | refine B0 ?_); conv => whnf))))
    refine CallP.pure [] _ c12 (match12_ok g hz) ?_
    ((conv => whnf); repeat ((first | refine Sw.o ?_ | refine B0 ?_); conv => whnf))
    (repeat ((first | refine N0 ?_ | refine A0 fun γ => ?_ | refine C1 ?_ | refine C2 ?_ | refine C3 ?_ | refine C4 ?_ | refine C5 ?_ | refine C6 ?_ | refine C7 ?_ | refine D0 fun γs => ?_ | refine A1 fun γs => ?_ | refine N2 ?_ | refine N3 ?_ | refine N1 ?_); ((conv => whnf); repeat ((first | refine Sw.o ?_ | refine B0 ?_); conv => whnf))))
    refine CallP.pure [] _ c13 (match13_ok g hz) ?_
    ((conv => whnf); repeat ((first | refine Sw.o ?_ | refine B0 ?_); conv => whnf))
    (repeat ((first | refine N0 ?_ | refine A0 fun γ => ?_ | refine C1 ?_ | refine C2 ?_ | refine C3 ?_ | refine C4 ?_ | refine C5 ?_ | refine C6 ?_ | refine C7 ?_ | refine D0 fun γs => ?_ | refine A1 fun γs => ?_ | refine N2 ?_ | refine N3 ?_ | refine N1 ?_); ((conv => whnf); repeat ((first | refine Sw.o ?_ | refine B0 ?_); conv => whnf))))
    refine CallP.pure [] _ c14 (rank14_ok g hz) ?_
    ((conv => whnf); repeat ((first | refine Sw.o ?_ | refine B0 ?_); conv => whnf))
    (repeat ((first | refine N0 ?_ | refine A0 fun γ => ?_ | refine C1 ?_ | refine C2 ?_ | refine C3 ?_ | refine C4 ?_ | refine C5 ?_ | refine C6 ?_ | refine C7 ?_ | refine D0 fun γs => ?_ | refine A1 fun γs => ?_ | refine N2 ?_ | refine N3 ?_ | refine N1 ?_); ((conv => whnf); repeat ((first | refine Sw.o ?_ | refine B0 ?_); conv => whnf))))
    refine CallP.pure [] _ c15 (rank15_ok g hz) ?_
    ((conv => whnf); repeat ((first | refine Sw.o ?_ | refine B0 ?_); conv => whnf))
    (repeat ((first | refine N0 ?_ | refine A0 fun γ => ?_ | refine C1 ?_ | refine C2 ?_ | refine C3 ?_ | refine C4 ?_ | refine C5 ?_ | refine C6 ?_ | refine C7 ?_ | refine D0 fun γs => ?_ | refine A1 fun γs => ?_ | refine N2 ?_ | refine N3 ?_ | refine N1 ?_); ((conv => whnf); repeat ((first | refine Sw.o ?_ | refine B0 ?_); conv => whnf))))
    refine CallP.pure [] _ c16 (certain16_ok g hz) ?_
    ((conv => whnf); repeat ((first | refine Sw.o ?_ | refine B0 ?_); conv => whnf))
    (repeat ((first | refine N0 ?_ | refine A0 fun γ => ?_ | refine C1 ?_ | refine C2 ?_ | refine C3 ?_ | refine C4 ?_ | refine C5 ?_ | refine C6 ?_ | refine C7 ?_ | refine D0 fun γs => ?_ | refine A1 fun γs => ?_ | refine N2 ?_ | refine N3 ?_ | refine N1 ?_); ((conv => whnf); repeat ((first | refine Sw.o ?_ | refine B0 ?_); conv => whnf))))
    refine CallP.pure [] _ c17 (certain17_ok g hz) ?_
    rw [match_eq, rank_eq, certain_eq]
    have l1 := MatchR_len g
    have l2 := CertainR_len g
    generalize MatchR g = A at l1 ⊢
    generalize rankR g = B
    generalize CertainR g = C at l2 ⊢
    have e1 : A.2 = A.2 := rfl
    have e2 : B.2 = B.2 := rfl
    have e3 : C.2 = C.2 := rfl
    have e4 : B.1 = B.1 := rfl
    ((conv => whnf); repeat ((first | refine Sw.o ?_ | refine B0 ?_); conv => whnf))
    (repeat ((first | refine N0 ?_ | refine A0 fun γ => ?_ | refine C1 ?_ | refine C2 ?_ | refine C3 ?_ | refine C4 ?_ | refine C5 ?_ | refine C6 ?_ | refine C7 ?_ | refine D0 fun γs => ?_ | refine A1 fun γs => ?_ | refine N2 ?_ | refine N3 ?_ | refine N1 ?_); ((conv => whnf); repeat ((first | refine Sw.o ?_ | refine B0 ?_); conv => whnf))))
    refine CallP.flat [] _ c18 (SameInts_eq A.1 (by omega)) rfl ?_
    ((conv => whnf); repeat ((first | refine Sw.o ?_ | refine B0 ?_); conv => whnf))
    (repeat ((first | refine N0 ?_ | refine A0 fun γ => ?_ | refine C1 ?_ | refine C2 ?_ | refine C3 ?_ | refine C4 ?_ | refine C5 ?_ | refine C6 ?_ | refine C7 ?_ | refine D0 fun γs => ?_ | refine A1 fun γs => ?_ | refine N2 ?_ | refine N3 ?_ | refine N1 ?_); ((conv => whnf); repeat ((first | refine Sw.o ?_ | refine B0 ?_); conv => whnf))))
    refine CallP.flat [] _ c19 (pairs_eq C.1 (by omega)) rfl ?_
    ((conv => whnf); repeat ((first | refine Sw.o ?_ | refine B0 ?_); conv => whnf))
    (repeat ((first | refine N0 ?_ | refine A0 fun γ => ?_ | refine C1 ?_ | refine C2 ?_ | refine C3 ?_ | refine C4 ?_ | refine C5 ?_ | refine C6 ?_ | refine C7 ?_ | refine D0 fun γs => ?_ | refine A1 fun γs => ?_ | refine N2 ?_ | refine N3 ?_ | refine N1 ?_); ((conv => whnf); repeat ((first | refine Sw.o ?_ | refine B0 ?_); conv => whnf))))
    refine CallP.flat [] _ c11 awake11_ok rfl ?_
    ((conv => whnf); repeat ((first | refine Sw.o ?_ | refine B0 ?_); conv => whnf))
    (repeat ((first | refine N0 ?_ | refine A0 fun γ => ?_ | refine C1 ?_ | refine C2 ?_ | refine C3 ?_ | refine C4 ?_ | refine C5 ?_ | refine C6 ?_ | refine C7 ?_ | refine D0 fun γs => ?_ | refine A1 fun γs => ?_ | refine N2 ?_ | refine N3 ?_ | refine N1 ?_); ((conv => whnf); repeat ((first | refine Sw.o ?_ | refine B0 ?_); conv => whnf))))
    exact .of rfl
end Go.Proofs.Ytgeeklnokblokaa
