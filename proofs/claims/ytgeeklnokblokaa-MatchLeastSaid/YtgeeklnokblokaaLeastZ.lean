/- Culprit, if an equation can be left out, has one use fewer than equations, which are joined with no other ones, and without any one of its equations all others can be given uses; if it returns none, Match gives every equation a use: for every input the law MatchLeast returns true, and its argument reads as it did.

The law's own code is walked by PureCall theorems (a call with such arguments returns just this and changes nothing); here the row's reading of the argument is told as such an argument. No condition: the statement as given. -/
import Derived.Test.YtgeeklnokblokaaLeast4
set_option linter.unusedSimpArgs false
set_option linter.unusedVariables false
namespace Go.Proofs.Ytgeeklnokblokaa
open Go Go.Fw Go.ChangeShapes Go.WideShapes Go.ChangeAt Go.RowKit

set_option maxRecDepth 100000 in
theorem matchLeast_lifted (os : Os) (started : os.Started) (H : Type) (enc : TypeId × Value → H) :
    ReturnsInHanded {} Try.checked os 5 .any (Rows.matchLeastSpec.pre6 enc Try.prog Try.f5 Rows.matchLeastRow.domain false) (Rows.matchLeastSpec.post enc Try.prog Try.f5 false true false false) := by
  refine returnsInHanded_of_change_sized (C := Try.checked) own_knob started (by kernel_rfl) Try.func5
    (ChangeSpec.witness6 (enc := enc) (C := Try.checked) false ⟨#[], #[.agg #[.slice none 0 0, .slice none 0 0, .slice none 0 0]], []⟩ 8 (by kernel_rfl) (by kernel_rfl) (by kernel_rfl) (by kernel_rfl)) ?_
  intro W base args ds gs before hval0 hW hcnd hsz0 _
  have hsz : (DataW.weightsEach Try.prog (Try.f5.params.toList ++ Rows.matchLeastSpec.plain.varTypes Try.prog) (ds ++ gs)).all (· ≤ reachBytes) = true := hsz0
  have hval : ∀ (j : Nat) t v, Try.f5.params[j]? = some t → args[j]? = some v → Value.okWide Try.prog W .any base t v := hval0
  have hW' := hW
  obtain ⟨p, q, hA0, hV, rfl, hfz, hnd⟩ := hW
  have hA : DataW.TrodAll enc Try.prog W 0 (fun _ => true) true [26] args.toList ds p := hA0
  obtain ⟨v0, d0, rfl, rfl, h0⟩ := trodAll_one hA
  obtain ⟨rfl, rfl⟩ := trodVars_none hV
  have k0 := h0
  have lt0 : ∀ x ∈ p, x.block < W.heap.size := by obtain ⟨m, hm⟩ := k0; exact DataW.trod_lt m _ _ _ hm
  have hlight : Light Try.prog 26 d0 := fun m hm => by
    have := List.all_eq_true.1 hsz m (DataW.weights_mem_each (j := 0) (t := 26) (d := d0) rfl rfl m hm)
    simpa using this
  have hv0 : ∃ cs, v0 = .agg cs := by
    obtain ⟨fs, hu, _⟩ := und_struct (T_ok 26 _ rfl) rfl
    obtain ⟨cs, h, _⟩ := okWide_struct hu (hval 0 26 v0 rfl rfl)
    exact ⟨cs, h⟩
  obtain ⟨fuel, hf⟩ := h0
  obtain ⟨g, hg, hrel⟩ := open_graph hv0 hf hlight
  clear hA0 hval0 hsz0
  refine (MatchLeast_ok g hg (fun _ => False) W #[v0] (fun c h => h.elim) ⟨rfl, fun i h h' => ?_⟩).mono fun e W' he => ?_
  · have : i = 0 := by simpa using h'
    subst this
    exact hrel
  · obtain ⟨v, rfl, hr, bel⟩ := he
    cases hr with
    | val _ _ =>
      exact ⟨_, rfl, _, _, _, [], _, [], hW', trodAll_mk1 (shut_bool u4 _), trodAll_mk1 (Below.trod laid_out (by kernel_rfl) (of_decide_eq_true (by kernel_rfl)) k0 bel lt0), rfl, bel.frame _, fun h => by cases h⟩

theorem matchLeast_over : Rows.matchLeastRow.holds Try.pinned (OpenSpec.ofChange Rows.matchLeastSpec) :=
  OpenClaim.holds_of_wide 5 Try.f5 rfl rfl rfl rfl rfl rfl rfl ⟨rfl, rfl, rfl, rfl, rfl⟩ rfl rfl rfl rfl rfl (by kernel_rfl) Try.func5 (by kernel_rfl)
    (of_decide_eq_true (by kernel_rfl)) (by unfold Func.isWrapper; first | (rw [if_pos (by decide +kernel)]; kernel_rfl) | (rw [if_neg (by decide +kernel)]; exact ⟨rfl, rfl⟩))
    (fun os started H enc _ => matchLeast_lifted os started H enc)
/-- Culprit, if an equation can be left out, has one use fewer than equations, which are joined with no other ones, and without any one of its equations all others can be given uses; if it returns none, Match gives every equation a use: for every input the law MatchLeast returns true, and its argument reads as it did. -/
theorem matchLeast_holds : Rows.MatchLeastSaid := matchLeast_over
#print axioms matchLeast_holds
end Go.Proofs.Ytgeeklnokblokaa
