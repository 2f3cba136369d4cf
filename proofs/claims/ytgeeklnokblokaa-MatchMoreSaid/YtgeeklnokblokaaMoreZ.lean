/- With one pair more joined Rank is the same or 1 more, for every input: the law MatchMore returns true, and its arguments read as they did.

The law's own code is walked by PureCall theorems (a call with such arguments returns just this and changes nothing); here the row's reading of the argument is told as such an argument. No condition: the statement as given. -/
import Derived.Test.YtgeeklnokblokaaMore4
set_option linter.unusedSimpArgs false
set_option linter.unusedVariables false
namespace Go.Proofs.Ytgeeklnokblokaa
open Go Go.Fw Go.ChangeShapes Go.WideShapes Go.ChangeAt Go.RowKit

set_option maxRecDepth 100000 in
theorem matchMore_lifted (os : Os) (started : os.Started) (H : Type) (enc : TypeId × Value → H) :
    ReturnsInHanded {} Try.checked os 7 .any (Rows.matchMoreSpec.pre6 enc Try.prog Try.f7 Rows.matchMoreRow.domain false) (Rows.matchMoreSpec.post enc Try.prog Try.f7 false true false false) := by
  refine returnsInHanded_of_change_sized (C := Try.checked) own_knob started (by kernel_rfl) Try.func7
    (ChangeSpec.witness6 (enc := enc) (C := Try.checked) false ⟨#[], #[.agg #[.slice none 0 0, .slice none 0 0, .slice none 0 0], .int .u8 0, .int .u8 0], []⟩ 8 (by kernel_rfl) (by kernel_rfl) (by kernel_rfl) (by kernel_rfl)) ?_
  intro W base args ds gs before hval0 hW hcnd hsz0 _
  have hsz : (DataW.weightsEach Try.prog (Try.f7.params.toList ++ Rows.matchMoreSpec.plain.varTypes Try.prog) (ds ++ gs)).all (· ≤ reachBytes) = true := hsz0
  have hval : ∀ (j : Nat) t v, Try.f7.params[j]? = some t → args[j]? = some v → Value.okWide Try.prog W .any base t v := hval0
  have hW' := hW
  obtain ⟨p, q, hA0, hV, rfl, hfz, hnd⟩ := hW
  have hA : DataW.TrodAll enc Try.prog W 0 (fun _ => true) true [26, 5, 5] args.toList ds p := hA0
  obtain ⟨v0, v1, v2, d0, d1, d2, p0, p1, p2, rfl, rfl, rfl, h0, h1, h2⟩ := trodAll_three hA
  obtain ⟨rfl, rfl⟩ := trodVars_none hV
  have k0 := h0
  have lt0 : ∀ x ∈ p0, x.block < W.heap.size := by obtain ⟨m, hm⟩ := k0; exact DataW.trod_lt m _ _ _ hm
  have u5 : Try.prog.underlying 5 = some (.int .u8) := by kernel_rfl
  obtain ⟨a, rfl, rfl, rfl, wa⟩ := open_int u5 (hval 1 5 v1 rfl rfl) h1
  obtain ⟨b, rfl, rfl, rfl, wb⟩ := open_int u5 (hval 2 5 v2 rfl rfl) h2
  have ra : 0 ≤ a ∧ a ≤ 255 := by simpa [Lit.wf, IntKind.min, IntKind.max, IntKind.signed, IntKind.bits] using wa
  have rb : 0 ≤ b ∧ b ≤ 255 := by simpa [Lit.wf, IntKind.min, IntKind.max, IntKind.signed, IntKind.bits] using wb
  have hlight : Light Try.prog 26 d0 := fun m hm => by
    have := List.all_eq_true.1 hsz m (DataW.weights_mem_each (j := 0) (t := 26) (d := d0) rfl rfl m hm)
    simpa using this
  have hv0 : ∃ cs, v0 = .agg cs := by
    obtain ⟨fs, hu, _⟩ := und_struct (T_ok 26 _ rfl) rfl
    obtain ⟨cs, h, _⟩ := okWide_struct hu (hval 0 26 v0 rfl rfl)
    exact ⟨cs, h⟩
  obtain ⟨fuel, hf⟩ := h0
  obtain ⟨g, hg, hrel⟩ := open_graph hv0 hf hlight
  clear hA0 hval0 hsz0
  refine (MatchMore_ok g hg a b ra rb (fun _ => False) W #[v0, .int .u8 a, .int .u8 b] (fun c h => h.elim) ⟨rfl, fun i h h' => ?_⟩).mono fun e W' he => ?_
  · match i, h, h' with
    | 0, _, _ => exact hrel
    | 1, _, _ => exact .val _ rfl
    | 2, _, _ => exact .val _ rfl
    | i + 3, h, _ => exact absurd h (by simp)
  · obtain ⟨v, rfl, hr, bel⟩ := he
    cases hr with
    | val _ _ =>
      exact ⟨_, rfl, _, _, _, [], _, [], hW', trodAll_mk1 (shut_bool u4 _), trodAll_mk3 (Below.trod laid_out (by kernel_rfl) (of_decide_eq_true (by kernel_rfl)) k0 bel lt0) (shut_int u5 wa) (shut_int u5 wb), rfl, bel.frame _, fun h => by cases h⟩

theorem matchMore_over : Rows.matchMoreRow.holds Try.pinned (OpenSpec.ofChange Rows.matchMoreSpec) :=
  OpenClaim.holds_of_wide 7 Try.f7 rfl rfl rfl rfl rfl rfl rfl ⟨rfl, rfl, rfl, rfl, rfl⟩ rfl rfl rfl rfl rfl (by kernel_rfl) Try.func7 (by kernel_rfl)
    (of_decide_eq_true (by kernel_rfl)) (by unfold Func.isWrapper; first | (rw [if_pos (by decide +kernel)]; kernel_rfl) | (rw [if_neg (by decide +kernel)]; exact ⟨rfl, rfl⟩))
    (fun os started H enc _ => matchMore_lifted os started H enc)
/-- With one pair more joined Rank is the same or 1 more, for every input: the law MatchMore returns true, and its arguments read as they did. -/
theorem matchMore_holds : Rows.MatchMoreSaid := matchMore_over
#print axioms matchMore_holds
end Go.Proofs.Ytgeeklnokblokaa
