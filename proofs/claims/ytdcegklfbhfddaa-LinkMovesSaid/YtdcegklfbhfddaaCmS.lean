/- Drawn regions: the facts of all operations, from the run. No condition. -/
import Derived.Test.YtdcegklfbhfddaaCmR
noncomputable section
namespace Go.CM
set_option linter.unusedVariables false
set_option linter.unusedSimpArgs false

section
variable {P : Program} {E : Env}

theorem tri_ok {o : Oper} {tmps : Tm} {e : Ev} (h : ∀ (ρ : Rho) (a : Act) (w : World), HR ρ e.d w → (∀ x ∈ o.op.operands, VR ρ (cvOf E.globs tmps x) (a.eval x)) → OpOk P o a ρ e.d w e.v e.d') : Tri P E o tmps e := by
  intro ρ a w hr _ hop next Q hn ro
  obtain ⟨x, w1, ρ1, g1, g2, g3⟩ := h ρ a w hr hop
  exact wp_of_gives g1 (hn x ρ1 w1 g2 g3)

theorem call_facts {bs : List Bits} {all r : List Oper} {i : Nat} {recs : List Rec} {ev0 : Nat → Ev} {tmps : Tm} {h : Heap} {o : Oper} {hid : List Nat} {x : R} {run0 : Run} (ho : all[i]? = some o) (hg : guardOn all tmps o = some true)
    (hs : dCall run0 bs all r i recs o.dst tmps h (without h hid) hid x ≠ .stop) (hrec : RecsOk i ev0 recs) (hnx : ∀ j, j < i → (ev0 j).d'.next ≤ h.next) (hhid : hides ((nth bs i).getD Bits.nil) recs = some hid)
    (htri : ∀ v d', x = .val v d' → Tri P E o tmps ⟨true, v, without h hid, d'⟩)
    (ih : ∀ (e : Ev) recs' tmps' h', run0 (.draw bs all r (i + 1) recs') tmps' h' ≠ .stop → RecsOk (i + 1) (fun j => if j = i then e else ev0 j) recs' → (∀ j, j < i + 1 → (if j = i then e else ev0 j).d'.next ≤ h'.next) →
      DrawRes P E bs all (i + 1) (fun j => if j = i then e else ev0 j) tmps' h' (run0 (.draw bs all r (i + 1) recs') tmps' h')) :
    DrawRes P E bs all i ev0 tmps h (dCall run0 bs all r i recs o.dst tmps h (without h hid) hid x) := by
  unfold dCall at hs ⊢
  cases x with
  | val v d' =>
    have htri := htri v d' rfl
    simp only at hs ⊢
    cases hq : Nat.ble h.next d'.next && (looks ((nth bs i).getD Bits.nil) (without h hid) d' recs && all1 hid fun k => isNo (d'.get k)) with
    | false => rw [hq] at hs; exact absurd rfl hs
    | true =>
      rw [hq] at hs
      simp only at hs ⊢
      rw [Bool.and_eq_true, Bool.and_eq_true, all1_iff] at hq
      obtain ⟨q1, q2, q3⟩ := hq
      have hle := Nat.le_of_ble_eq_true q1
      have hno : ∀ k ∈ hid, d'.get k = none := fun k hk => (isNo_iff _).1 (q3 k hk)
      have hbn : (back d' ⟨h.t, d'.next, none⟩ hid).next = d'.next := by rw [back_next]
      have hbg : ∀ k, (back d' ⟨h.t, d'.next, none⟩ hid).get k = if k ∈ hid then h.get k else d'.get k := fun k => back_get _ _ _ _
      refine draw_cons (e := ⟨true, v, without h hid, d'⟩) ho ⟨hg, fun _ => htri, (fun e => by cases e), without_next _ _, hbn, by rw [hbn]; exact hle, fun k b hb => ?_, fun k => ⟨fun hT => ?_, fun hT => ?_⟩, rfl⟩ (fun j' hj' => ?_) ?_
      · have hb : (without h hid).get k = some b := hb
        rw [without_get] at hb
        split at hb
        · cases hb
        · exact hb
      · rw [hbg]
        split
        · rename_i hk
          have h1 : (without h hid).get k = none := by rw [without_get, if_pos hk]
          exact absurd ((hno k hk).trans h1.symm) hT
        · rfl
      · rw [hbg]
        split
        · rfl
        · rename_i hk
          have hT : d'.get k = (without h hid).get k := Classical.not_not.1 hT
          rw [hT, without_get, if_neg hk]
      · rcases hrec j' hj' with h1 | ⟨r', h1, h2, h3⟩
        · exact .inr (Apart.silentL h1)
        · rcases call_apart (v := v) rfl hhid q2 hno h1 h3 with h4 | h4
          · left; rw [← nth_eq, ← h2]; exact h4
          · right; exact h4
      · refine ih _ _ _ _ hs (recs_cons (r := .call i (without h hid) d') hrec rfl ⟨rfl, rfl⟩) fun j hj => ?_
        rw [hbn]
        by_cases e0 : j = i
        · rw [if_pos e0]; exact Nat.le_refl _
        · rw [if_neg e0]
          exact Nat.le_trans (hnx j (by omega)) hle
  | pan v d' => exact absurd rfl hs
  | code _ _ _ => exact absurd rfl hs
  | stop => exact absurd rfl hs

theorem draw_facts (W : EnvW P E) {bs : List Bits} {all : List Oper} : ∀ (m : Nat), (∀ m', m' < m → Snd P E m') → ∀ (rest : List Oper) (i : Nat) (recs : List Rec) (tmps : Tm) (h : Heap) (ev0 : Nat → Ev),
    run E m (.draw bs all rest i recs) tmps h ≠ .stop → all.drop i = rest → RecsOk i ev0 recs → (∀ j, j < i → (ev0 j).d'.next ≤ h.next) →
    DrawRes P E bs all i ev0 tmps h (run E m (.draw bs all rest i recs) tmps h)
  | 0, _, _, _, _, _, _, _, hs, _, _, _ => absurd rfl hs
  | m + 1, S, rest, i, recs, tmps, h, ev0, hs, hk, hrec, hnx => by
    have e : run E (m + 1) (.draw bs all rest i recs) tmps h = sDraw E (run E m) bs all rest i recs tmps h := rfl
    rw [e] at hs ⊢
    unfold sDraw at hs ⊢
    cases rest with
    | nil =>
      simp only
      have hlen : all.length ≤ i := by
        have := congrArg List.length hk
        simp at this
        omega
      refine ⟨ev0, fun _ => tmps, fun _ => h, fun _ _ => rfl, rfl, rfl, rfl, fun j o hij ho => ?_⟩
      have := (List.getElem?_eq_some_iff.1 ho).1
      omega
    | cons o r =>
      obtain ⟨ho, hk2⟩ := drop_cons hk
      have ih : ∀ (e : Ev) recs' tmps' h', run E m (.draw bs all r (i + 1) recs') tmps' h' ≠ .stop → RecsOk (i + 1) (fun j => if j = i then e else ev0 j) recs' → (∀ j, j < i + 1 → (if j = i then e else ev0 j).d'.next ≤ h'.next) →
          DrawRes P E bs all (i + 1) (fun j => if j = i then e else ev0 j) tmps' h' (run E m (.draw bs all r (i + 1) recs') tmps' h') :=
        fun e recs' tmps' h' h1 h2 h3 => draw_facts W m (fun m' hm' => S m' (by omega)) r (i + 1) recs' tmps' h' _ h1 hk2 h2 h3
      simp only at hs ⊢
      cases hg : guardOn all tmps o with
      | none => rw [hg] at hs; exact absurd rfl hs
      | some b =>
        rw [hg] at hs
        cases b with
        | false =>
          simp only at hs ⊢
          have hsil := silent_empty h.next false (.tup [])
          refine draw_cons (h' := h) (e := ⟨false, .tup [], ⟨.leaf, h.next, none⟩, ⟨.leaf, h.next, none⟩⟩) ho ⟨hg, (fun e => by cases e), fun _ => ⟨rfl, hsil, rfl⟩, rfl, rfl, Nat.le_refl _, fun k b hb => ?_, fun k => ⟨fun hT => absurd rfl hT, fun _ => rfl⟩, rfl⟩ (fun j' _ => .inr (Apart.silentR hsil)) ?_
          · rw [(hsil k).1] at hb; cases hb
          · refine ih _ _ _ _ hs (recs_silent hrec hsil) fun j hj => ?_
            by_cases e0 : j = i
            · rw [if_pos e0]; exact Nat.le_refl _
            · rw [if_neg e0]; exact hnx j (by omega)
        | true =>
          simp only at hs ⊢
          have plain : ∀ (hs : dNext (run E m) bs all r i recs o.dst tmps h (fpOf o.op (cvOf E.globs tmps)) (wrOf o.op) (opVal E o.op (cvOf E.globs tmps) (only h (fpOf o.op (cvOf E.globs tmps)))) ≠ .stop),
              DrawRes P E bs all i ev0 tmps h (dNext (run E m) bs all r i recs o.dst tmps h (fpOf o.op (cvOf E.globs tmps)) (wrOf o.op) (opVal E o.op (cvOf E.globs tmps) (only h (fpOf o.op (cvOf E.globs tmps))))) := fun hs =>
            next_facts ho hg hs hrec hnx (fun p hp => opVal_touch (v := p.1) (h' := p.2) hp) (fun p hp => tri_ok fun ρ a w hr hop => op_sound W.ok hr (v := p.1) (h' := p.2) hp hop) ih
          unfold dOp at hs ⊢
          cases hop : o.op with
          | call c =>
            rw [hop] at hs
            simp only at hs ⊢
            cases hbi : isBuiltin c.callee with
            | some b =>
              rw [hbi] at hs
              simp only at hs ⊢
              have hbc := isBuiltin_some hbi
              obtain ⟨callee, args, tys⟩ := c
              simp only at hbc
              subst hbc
              have := next_facts (P := P) (E := E) (fp := fpOf o.op (cvOf E.globs tmps)) (x := builtinV E (only h (fpOf o.op (cvOf E.globs tmps))) b tys.toList (args.toList.map (cvOf E.globs tmps))) (run0 := run E m) (bs := bs) (r := r) ho hg (by rw [hop]; exact hs) hrec hnx
                (fun p hp => by rw [hop] at hp ⊢; exact builtin_touch (v := p.1) (h' := p.2) hp) (fun p hp => tri_ok fun ρ a w hr hopr => builtin_sound W.ok hr hop (v := p.1) (h' := p.2) hp fun x hx => hopr x (by rw [hop]; simp [Op.operands, Call.operands]; simpa using hx)) ih
              rw [hop] at this
              exact this
            | none =>
              rw [hbi] at hs
              simp only at hs ⊢
              unfold dHid at hs ⊢
              cases hhid : hides ((nth bs i).getD Bits.nil) recs with
              | none => rw [hhid] at hs; exact absurd rfl hs
              | some hid =>
                rw [hhid] at hs
                simp only at hs ⊢
                refine call_facts ho hg hs hrec hnx hhid (fun v d' hx => ?_) ih
                intro ρ a w hr g hopr next Q hn ro
                refine callee_sound W (S m (Nat.lt_succ_self m)) hop hr g hopr hx (by simp) (fun v' h' x ρ' w' e0 j hv => ?_) (fun v' h' x ρ' w' e0 j hv => by cases e0) ro
                cases e0
                exact hn x ρ' w' j hv
          | _ =>
            rw [hop] at hs
            simp only at hs ⊢
            have := plain (by rw [hop]; exact hs)
            rw [hop] at this
            exact this
end
end Go.CM
