/- The framework, part 15: regions in the text's order, bodies, functions. -/
import Derived.Test.YtgeeklnokblokaaFw14
set_option linter.unusedVariables false
set_option linter.unusedSimpArgs false
namespace Go.Fw
open Go.RowKit

/-! ### Regions -/
def gdst (ops : Array Oper) (j : Nat) : Option Nat := (ops[j]?).bind (·.dst)

/-- Operations one behind the other. -/
def evOps (E : En) (ops : Array Oper) : List Oper → Fr → Hp → (Fr → Hp → Prop) → Prop
  | [], σ, H, K => K σ H
  | o :: r, σ, H, K =>
    match o.guard with
    | none => evOp E (opd σ) H o fun x H' => evOps E ops r (put σ o.dst x) H' K
    | some (j, want) => match gdst ops j with
      | some t => match σ t with
        | .val (.bool b) => (b = want → evOp E (opd σ) H o fun x H' => evOps E ops r (put σ o.dst x) H' K) ∧ (b ≠ want → evOps E ops r (put σ o.dst (.tup [])) H K)
        | .tup [] => evOps E ops r (put σ o.dst (.tup [])) H K
        | _ => False
      | none => False

def goodOp (nt : Nat) (o : Oper) : Bool :=
  (match o.dst with | some d => decide (d < nt) | none => true) && o.op.operands.toList.all goodOpd
def goodCode (nt : Nat) : Code → Bool
  | .region _ ops _ => ops.toList.all (goodOp nt)
  | .seq a b => goodCode nt a && goodCode nt b
  | .cond c a b => goodOpd c && goodCode nt a && goodCode nt b
  | .block _ b => goodCode nt b
  | .loop b => goodCode nt b
  | .scope b => goodCode nt b
  | _ => true

section
variable {E : En} {gh : Gh} {κ : KM} {σ : Fr} {H : Hp} {a : Act} {w : World}

/-- Some abstract state fits. -/
def Fits (gh : Gh) (K : Fr → Hp → Prop) (a : Act) (w : World) : Prop := ∃ κ σ H, K σ H ∧ Rel gh κ σ H a w

/-- Operands that are not constants of a kind that is not served read as nothing. -/
def opdG (σ : Fr) (x : Operand) : AV := if goodOpd x then opd σ x else .dead
theorem Rel.opdG (h : Rel gh κ σ H a w) (x : Operand) : VR κ w (Nset gh.O κ H) (opdG σ x) (a.eval x) := by
  unfold Fw.opdG
  split
  · rename_i hx; exact h.opd x hx
  · exact .dead _

theorem Rel.step (h : Rel gh κ σ H a w) {d : Option Nat} (hd : ∀ x, d = some x → x < gh.nt) {C : AV → Hp → Prop} {v : Value} {w' : World} (hs : Step gh κ H w C v w') :
    ∃ x H' κ', C x H' ∧ Rel gh κ' (Fw.put σ d x) H' (a.put d v) w' := by
  obtain ⟨x, H', κ', h1, h2, h3, h4⟩ := hs
  have h' : Rel gh κ' σ H' a w' := ⟨h2, fun y => h4 (h.slots y), h.size, h.defers, fun x v hx => h4 (h.tr x v hx)⟩
  exact ⟨x, H', κ', h1, h'.put d hd h3⟩
end

/-- The same with operands as they may be read. -/
theorem evOp_congr {E : En} {ρ ρ' : Operand → AV} {H : Hp} {o : Oper} {C : AV → Hp → Prop} (hρ : ∀ x ∈ o.op.operands.toList, ρ x = ρ' x) (h : evOp E ρ H o C) : evOp E ρ' H o C := by
  obtain ⟨dst, op, ty, pos, after, guard⟩ := o
  simp only at hρ
  unfold evOp at h ⊢
  cases op <;> simp only [Op.operands] at hρ h ⊢ <;> try exact h.elim
  case move x => rw [← hρ x (by simp)]; exact h
  case assign x => rw [← hρ x (by simp)]; exact h
  case pick c a b => rw [← hρ c (by simp), ← hρ a (by simp), ← hρ b (by simp)]; exact h
  case box t x => rw [← hρ x (by simp)]; exact h
  case alloc t => exact h
  case build t ps =>
    have : (ps.toList.map fun p => (p.1, ρ' p.2)) = ps.toList.map fun p => (p.1, ρ p.2) := List.map_congr_left fun p hp => by rw [hρ p.2 (by simp; exact ⟨p.1, by simpa using hp⟩)]
    rw [this]; exact h
  case buildSlice t n ps =>
    have : (ps.toList.map fun p => (p.1, ρ' p.2)) = ps.toList.map fun p => (p.1, ρ p.2) := List.map_congr_left fun p hp => by rw [hρ p.2 (by simp; exact ⟨p.1, by simpa using hp⟩)]
    rw [this]; exact h
  case load t x => rw [← hρ x (by simp)]; exact h
  case store t x y => rw [← hρ x (by simp), ← hρ y (by simp)]; exact h
  case nilCheck x => rw [← hρ x (by simp)]; exact h
  case binOp op t x y yt => rw [← hρ x (by simp), ← hρ y (by simp)]; exact h
  case unOp op t x => rw [← hρ x (by simp)]; exact h
  case convert s d x => rw [← hρ x (by simp)]; exact h
  case makeFunc f first cap =>
    have e1 : first.toList.map ρ' = first.toList.map ρ := List.map_congr_left fun x hx => (hρ x (by simp; exact .inl (by simpa using hx))).symm
    have e2 : cap.toList.map ρ' = cap.toList.map ρ := List.map_congr_left fun x hx => (hρ x (by simp; exact .inr (by simpa using hx))).symm
    rw [e1, e2]; exact h
  case makeSlice t l c => rw [← hρ l (by simp), ← hρ c (by simp)]; exact h
  case slice t x lo hi mx =>
    have e0 := hρ x (by simp)
    have e1 : lo.map ρ' = lo.map ρ := by cases lo <;> simp; exact (hρ _ (by simp)).symm
    have e2 : hi.map ρ' = hi.map ρ := by cases hi <;> simp; exact (hρ _ (by simp)).symm
    have e3 : mx.map ρ' = mx.map ρ := by cases mx <;> simp; exact (hρ _ (by simp)).symm
    rw [← e0, e1, e2, e3]; exact h
  case fieldAddr t x f => rw [← hρ x (by simp)]; exact h
  case field t x f => rw [← hρ x (by simp)]; exact h
  case indexAddr t x i => rw [← hρ x (by simp), ← hρ i (by simp)]; exact h
  case index t x i => rw [← hρ x (by simp), ← hρ i (by simp)]; exact h
  case extract x i => rw [← hρ x (by simp)]; exact h
  case call c =>
    obtain ⟨callee, args, ats⟩ := c
    have ha : ∀ x ∈ args.toList, ρ x = ρ' x := fun x hx => hρ x (by simp [Call.operands]; exact .inr (by simpa using hx))
    unfold evCallee at h ⊢
    simp only at h ⊢
    cases callee with
    | builtin b =>
      cases b <;> simp only at h ⊢ <;> try exact h.elim
      · revert h ha
        generalize args.toList = l
        generalize ats.toList = l'
        intro ha h
        split at h
        · rw [← ha _ (by simp), ← ha _ (by simp)]; exact h
        · exact h.elim
      · revert h ha
        generalize args.toList = l
        generalize ats.toList = l'
        intro ha h
        split at h
        · rw [← ha _ (by simp)]; exact h
        · exact h.elim
      · revert h ha
        generalize args.toList = l
        generalize ats.toList = l'
        intro ha h
        split at h
        · rw [← ha _ (by simp), ← ha _ (by simp)]; exact h
        · exact h.elim
      · revert h ha
        generalize args.toList = l
        generalize ats.toList = l'
        intro ha h
        split at h
        · rw [← ha _ (by simp)]; exact h
        · exact h.elim
    | value f =>
      have hf := hρ f (by simp [Call.operands])
      have e1 : args.toList.map ρ' = args.toList.map ρ := List.map_congr_left fun x hx => (ha x hx).symm
      simp only at h ⊢
      rw [← hf, e1]
      exact h
    | invoke r m => exact h.elim

section
variable {E : En} {gh : Gh}

theorem evOps_sound (hT : TOk E.P E.T) (ops : Array Oper) {Q : Exit → Act → World → Prop} {K : Fr → Hp → Prop} (hQ : ∀ a w, Fits gh K a w → Q .normal a w) :
    ∀ (n : Nat) (κ : KM) (σ : Fr) (H : Hp) (a : Act) (w : World), n ≤ ops.size → (∀ i, ops.size - n ≤ i → (hi : i < ops.size) → goodOp gh.nt ops[i] = true) → evOps E ops (ops.toList.drop (ops.size - n)) σ H K → Rel gh κ σ H a w →
      wpOps E.P ops Q (List.range' (ops.size - n) n) a w := by
  intro n
  induction n with
  | zero =>
    intro κ σ H a w _ _ h hr
    rw [Nat.sub_zero, List.drop_eq_nil_of_le (by simp)] at h
    exact hQ a w ⟨κ, σ, H, h, hr⟩
  | succ n ih =>
    intro κ σ H a w hn hg h hr
    have hi : ops.size - (n + 1) < ops.size := by omega
    have hsucc : ops.size - (n + 1) + 1 = ops.size - n := by omega
    rw [List.drop_eq_getElem_cons (by simpa using hi), hsucc] at h
    rw [List.range'_succ, hsucc]
    have hgo := hg _ (Nat.le_refl _) hi
    have ho : ops[ops.size - (n + 1)]? = some ops[ops.size - (n + 1)] := Array.getElem?_eq_getElem hi
    simp only [Array.getElem_toList] at h
    simp only [wpOps, ho]
    generalize ops[ops.size - (n + 1)] = o at h hgo
    unfold goodOp at hgo
    simp only [Bool.and_eq_true] at hgo
    obtain ⟨hd, hops⟩ := hgo
    have hd' : ∀ x, o.dst = some x → x < gh.nt := by intro x hx; rw [hx] at hd; simpa using hd
    have hρ : ∀ x ∈ o.op.operands.toList, opd σ x = opdG σ x := fun x hx => by simp [opdG, List.all_eq_true.1 hops x hx]
    have next : ∀ {κ : KM} {σ : Fr} {H : Hp} {a : Act} {w : World}, evOps E ops (ops.toList.drop (ops.size - n)) σ H K → Rel gh κ σ H a w → wpOps E.P ops Q (List.range' (ops.size - n) n) a w := fun h hr => ih _ _ _ _ _ (by omega) (fun i hi => hg i (by omega)) h hr
    have run : ∀ (_ : evOp E (opd σ) H o fun x H' => evOps E ops (ops.toList.drop (ops.size - n)) (put σ o.dst x) H' K), o.wp E.P a w (wpOps E.P ops Q (List.range' (ops.size - n) n)) Q := by
      intro h
      refine evOp_sound (ρ := opdG σ) hT hr.hp (fun x => hr.opdG x) (evOp_congr hρ h) fun v w' hs => ?_
      obtain ⟨x, H', κ', hC, hr'⟩ := hr.step hd' hs
      exact next hC hr'
    have skip : evOps E ops (ops.toList.drop (ops.size - n)) (put σ o.dst (.tup [])) H K → wpOps E.P ops Q (List.range' (ops.size - n) n) (a.put o.dst undef) w := fun h => next h (hr.put o.dst hd' (.tup [] #[] rfl (fun i h => absurd h (by simp))))
    unfold evOps at h
    split at h
    · rename_i hgd
      rw [if_pos (by simp [Region.wanted, hgd])]
      exact .inl (run h)
    · rename_i j want hgd
      split at h
      · rename_i t ht
        have hsl := hr.slots t
        have hy : yielded ops a.tmps j = match (a.tmps.getD t undef) with | .bool b => some b | _ => none := by
          unfold yielded
          unfold gdst at ht
          rw [ht]
          simp only [Option.bind_some, Array.getD_eq_getD_getElem?]
          cases a.tmps[t]? with
          | none => rfl
          | some v => cases v <;> rfl
        split at h
        · rename_i b hb
          rw [hb] at hsl
          generalize hv : a.tmps.getD t undef = v at hsl hy
          cases hsl with
          | val _ _ =>
            by_cases hbw : b = want
            · rw [if_pos (by simp [Region.wanted, hgd, hy, hbw])]
              exact .inl (run (h.1 hbw))
            · rw [if_neg (by simp [Region.wanted, hgd, hy, hbw])]
              exact skip (h.2 hbw)
        · rename_i hb
          rw [hb] at hsl
          generalize hv : a.tmps.getD t undef = v at hsl hy
          cases hsl with
          | tup _ vs _ _ =>
            rw [if_neg (by simp [Region.wanted, hgd, hy])]
            exact skip h
        · exact h.elim
      · exact h.elim

/-! ### What is known may be forgotten; a nil slice may be taken for one of the call's own -/
/-- From here some state of R fits. -/
def W (σ : Fr) (H : Hp) (R : Fr → Hp → Prop) : Prop := ∀ (gh : Gh) (κ : KM) (a : Act) (w : World), Rel gh κ σ H a w → ∃ κ' σ' H', R σ' H' ∧ Rel gh κ' σ' H' a w

/-! ### Bodies -/
def inBlk (id : Nat) (Q : Exit → Fr → Hp → Prop) : Exit → Fr → Hp → Prop
  | .exit id', σ, H => if id' = id then Q .normal σ H else Q (.exit id') σ H
  | e, σ, H => Q e σ H
def thenA (K : Fr → Hp → Prop) (Q : Exit → Fr → Hp → Prop) : Exit → Fr → Hp → Prop
  | .normal, σ, H => K σ H
  | e, σ, H => Q e σ H

/-- What a body does. D: what is asked of a region that draws its order. -/
def wpA (E : En) (D : Array Oper → (Fr → Hp → Prop) → Fr → Hp → Prop) : Code → (Exit → Fr → Hp → Prop) → Fr → Hp → Prop
  | .skip, Q, σ, H => Q .normal σ H
  | .region _ ops draw, Q, σ, H => match draw with
    | true => D ops (Q .normal) σ H
    | false => evOps E ops ops.toList σ H (Q .normal)
  | .seq x y, Q, σ, H => wpA E D x (thenA (wpA E D y Q) Q) σ H
  | .cond c x y, Q, σ, H => match opd σ c with
    | .val (.bool t) => (t = true → wpA E D x Q σ H) ∧ (t = false → wpA E D y Q σ H)
    | _ => False
  | .block id c, Q, σ, H => wpA E D c (inBlk id Q) σ H
  | .loop c, Q, σ, H => ∃ I : Nat → Fr → Hp → Prop, W σ H (fun σ' H' => ∃ n, I n σ' H') ∧ ∀ n σ H, I n σ H → wpA E D c (thenA (fun σ' H' => W σ' H' fun σ'' H'' => ∃ m, m < n ∧ I m σ'' H'') Q) σ H
  | .exit id, Q, σ, H => Q (.exit id) σ H
  | .ret, Q, σ, H => Q .ret σ H
  | _, _, _, _ => False

/-- A rule for regions that draw their order. -/
def DOk (E : En) (D : Array Oper → (Fr → Hp → Prop) → Fr → Hp → Prop) : Prop :=
  ∀ (gh : Gh) (id : Nat) (ops : Array Oper) (K : Fr → Hp → Prop) (κ : KM) (σ : Fr) (H : Hp) (a : Act) (w : World), ops.toList.all (goodOp gh.nt) = true → D ops K σ H → Rel gh κ σ H a w →
    ∀ Q : Exit → Act → World → Prop, (∀ a w, Fits gh K a w → Q .normal a w) → (Code.region id ops true).wp E.P Q a w

def lift (gh : Gh) (Q : Exit → Fr → Hp → Prop) (e : Exit) (a : Act) (w : World) : Prop := Fits gh (Q e) a w

theorem wpA_sound (hT : TOk E.P E.T) {D : Array Oper → (Fr → Hp → Prop) → Fr → Hp → Prop} (hD : DOk E D) : ∀ (c : Code) (Q : Exit → Fr → Hp → Prop) (κ : KM) (σ : Fr) (H : Hp) (a : Act) (w : World),
    goodCode gh.nt c = true → wpA E D c Q σ H → Rel gh κ σ H a w → c.wp E.P (lift gh Q) a w := by
  intro c
  induction c with
  | skip => intro Q κ σ H a w _ h hr; exact wp_skip ⟨κ, σ, H, h, hr⟩
  | region id ops draw =>
    intro Q κ σ H a w hg h hr
    cases draw with
    | true => exact hD gh id ops _ κ σ H a w hg h hr _ fun a w h => h
    | false =>
      refine wp_region ?_
      have := evOps_sound (Q := lift gh Q) hT ops (K := Q .normal) (fun a w h => h) ops.size κ σ H a w (Nat.le_refl _) (fun i _ hi => List.all_eq_true.1 hg _ (by simp)) (by simpa [wpA] using h) hr
      simpa [List.range_eq_range'] using this
  | seq x y ihx ihy =>
    intro Q κ σ H a w hg h hr
    simp only [goodCode, Bool.and_eq_true] at hg
    refine wp_seq (wp_mono (ihx _ κ σ H a w hg.1 h hr) ?_)
    rintro e a' w' ⟨κ', σ', H', hq, hr'⟩
    cases e <;> first | exact ihy _ κ' σ' H' a' w' hg.2 hq hr' | exact ⟨κ', σ', H', hq, hr'⟩
  | cond c x y ihx ihy =>
    intro Q κ σ H a w hg h hr
    simp only [goodCode, Bool.and_eq_true] at hg
    unfold wpA at h
    split at h
    · rename_i t hc
      have hv := hr.opd c hg.1.1
      rw [hc] at hv
      generalize hcv : a.eval c = v at hv
      cases hv with
      | val _ _ =>
        refine wp_cond hcv ?_
        cases t
        · exact ihy _ κ σ H a w hg.2 (h.2 rfl) hr
        · exact ihx _ κ σ H a w hg.1.2 (h.1 rfl) hr
    · exact h.elim
  | block id c ih =>
    intro Q κ σ H a w hg h hr
    refine wp_block (wp_mono (ih _ κ σ H a w hg h hr) ?_)
    rintro e a' w' ⟨κ', σ', H', hq, hr'⟩
    cases e <;> try exact ⟨κ', σ', H', hq, hr'⟩
    rename_i id'
    unfold inBlk at hq
    unfold Exit.inBlock
    simp only at hq ⊢
    split
    · rename_i e
      rw [if_pos e] at hq
      exact ⟨κ', σ', H', hq, hr'⟩
    · rename_i e
      rw [if_neg e] at hq
      exact ⟨κ', σ', H', hq, hr'⟩
  | loop c ih =>
    intro Q κ σ H a w hg h hr
    obtain ⟨I, h0, hstep⟩ := h
    obtain ⟨κ, σ, H, ⟨n, h0⟩, hr⟩ := h0 gh κ a w hr
    intro b k cs
    have key : ∀ n a w, Fits gh (I n) a w → ∃ e a' w', lift gh Q e a' w' ∧ Arrives E.P (lone (b.at a (.code c :: .inLoop c :: k)) cs w) b k cs e a' w' := by
      intro n
      induction n using Nat.strongRecOn with
      | _ n ihn =>
        rintro a w ⟨κ, σ, H, hI, hr⟩
        obtain ⟨e, a', w', hq, harr⟩ := ih _ κ σ H a w hg (hstep n σ H hI) hr b (.inLoop c :: k) cs
        obtain ⟨κ', σ', H', hq, hr'⟩ := hq
        cases e with
        | normal =>
          obtain ⟨κ', σ', H', ⟨m, hm, hI'⟩, hr'⟩ := hq gh κ' a' w' hr'
          obtain ⟨e2, a2, w2, hq2, harr2⟩ := ihn m hm a' w' ⟨κ', σ', H', hI', hr'⟩
          exact ⟨e2, a2, w2, hq2, .of_steps (Steps.trans harr (.one step_inLoop)) harr2⟩
        | exit id => exact ⟨_, a', w', ⟨κ', σ', H', hq, hr'⟩, .pass (x := .inLoop c) rfl (fun _ _ => .inl (by simp)) harr⟩
        | goto l => exact ⟨_, a', w', ⟨κ', σ', H', hq, hr'⟩, .pass (x := .inLoop c) rfl (fun _ _ => .inl (by simp)) harr⟩
        | ret => exact ⟨_, a', w', ⟨κ', σ', H', hq, hr'⟩, .pass (x := .inLoop c) rfl (fun _ _ => .inl (by simp)) harr⟩
        | panic ch => exact ⟨_, a', w', ⟨κ', σ', H', hq, hr'⟩, .pass (x := .inLoop c) rfl (fun _ _ => .inl (by simp)) harr⟩
        | outgrown => exact ⟨_, a', w', ⟨κ', σ', H', hq, hr'⟩, .pass (x := .inLoop c) rfl (fun _ _ => .inl (by simp)) harr⟩
    obtain ⟨e, a', w', hq, harr⟩ := key n a w ⟨κ, σ, H, h0, hr⟩
    exact ⟨e, a', w', hq, .of_steps (.one step_loop) harr⟩
  | exit id => intro Q κ σ H a w _ h hr; exact wp_exit ⟨κ, σ, H, h, hr⟩
  | ret => intro Q κ σ H a w _ h hr; exact wp_ret ⟨κ, σ, H, h, hr⟩
  | _ => intro Q κ σ H a w _ h hr; exact h.elim
end
end Go.Fw
