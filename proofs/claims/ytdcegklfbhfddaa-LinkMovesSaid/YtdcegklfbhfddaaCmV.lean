/- The plain machine is sound. No condition. -/
import Derived.Test.YtdcegklfbhfddaaCmU
noncomputable section
namespace Go.CM
set_option linter.unusedVariables false
set_option linter.unusedSimpArgs false

theorem filter_lt {p q : Nat → Bool} {i : Nat} : ∀ {l : List Nat}, i ∈ l → p i = true → q i = false → (∀ j, q j = true → p j = true) → (l.filter q).length < (l.filter p).length
  | [], h, _, _, _ => by cases h
  | x :: r, h, hp, hq, hh => by
    have hle : (r.filter q).length ≤ (r.filter p).length := by
      clear h
      induction r with
      | nil => exact Nat.le_refl _
      | cons y r ih =>
        simp only [List.filter_cons]
        by_cases h1 : q y = true
        · simp [h1, hh y h1, ih]
        · by_cases h2 : p y = true
          · simp [h1, h2]; omega
          · simp [h1, h2, ih]
    simp only [List.filter_cons]
    by_cases hx : i = x
    · subst hx
      simp only [hp, hq, if_true, List.length_cons]
      simp; omega
    · have hm : i ∈ r := by simpa [hx] using h
      have := filter_lt (l := r) hm hp hq hh
      by_cases h1 : q x = true
      · simp [h1, hh x h1, this]
      · by_cases h2 : p x = true
        · simp [h1, h2]; omega
        · simp [h1, h2, this]

section
variable {P : Program} {E : Env} {m : Nat} {n : Nat × Nat} {ρ : Rho} {h : Heap} {w : World} {tmps : Tm} {a : Act}

theorem wpAny_of {ro : Option Nat} {ops : Array Oper} {Q' : Exit → Act → World → Prop} {md : Region.Mode} (I : Array Bool → Act → World → Prop)
    (step : ∀ listed a w i, listed.size = ops.size → I listed a w → i ∈ Region.ready md ops listed → wpOpIn (FW ro) 0 P ops Q' i (I (listed.setIfInBounds i true)) a w)
    (fin : ∀ listed a w, listed.size = ops.size → I listed a w → Region.ready md ops listed = [] → Q' .normal a w) :
    ∀ (fuel : Nat) (listed : Array Bool) (a : Act) (w : World), listed.size = ops.size → ((List.range ops.size).filter fun j => !listed.getD j true).length ≤ fuel → I listed a w → wpAnyIn (FW ro) 0 P md ops Q' fuel listed a w := by
  intro fuel
  induction fuel with
  | zero =>
    intro listed a w hs hf hI
    have hr : Region.ready md ops listed = [] := by
      have : ((List.range ops.size).filter fun j => !listed.getD j true) = [] := List.length_eq_zero_iff.1 (by omega)
      rw [List.filter_eq_nil_iff] at this
      rw [Region.ready, List.filter_eq_nil_iff]
      intro j hj
      have := this j hj
      simp only [Bool.and_eq_true, not_and]
      intro hh
      exact absurd hh this
    exact ⟨hr, fin _ _ _ hs hI hr⟩
  | succ fuel ih =>
    intro listed a w hs hf hI
    refine ⟨fun hr => fin _ _ _ hs hI hr, fun i hi => ?_⟩
    refine wpOpIn_mono (fun a' w' hI' => ih _ a' w' (by simp [hs]) ?_ hI') (step _ _ _ _ hs hI hi)
    obtain ⟨h0, o, ho, _⟩ := mem_ready.1 hi
    have hlt : i < ops.size := (Array.getElem?_eq_some_iff.1 ho).1
    have := filter_lt (p := fun j => !listed.getD j true) (q := fun j => !(listed.setIfInBounds i true).getD j true) (i := i) (l := List.range ops.size) (by simpa using hlt) (by simp only [h0]; rfl) (by
      have : (listed.setIfInBounds i true).getD i true = true := by simp [hs, hlt]
      simp only [this]; rfl) (fun j hj => by
        by_cases hij : i = j
        · subst hij; simp only [h0]; rfl
        · rwa [getD_set_ne true hij] at hj)
    omega

theorem getD_true {l : Array Bool} {j : Nat} (hj : j < l.size) : l.getD j true = l.getD j false := by simp [hj]

theorem all_listed {ops : Array Oper} {listed : Array Bool} (hs : listed.size = ops.size) (ht : edgesBack 0 ops.toList = true) (hr : Region.ready .any ops listed = []) : ∀ (n i : Nat), i < n → i < ops.size → listed.getD i false = true := by
  intro n
  induction n with
  | zero => intro i hi; omega
  | succ n ih =>
    intro i hi hlt
    cases hl : listed.getD i false
    · have hm : i ∈ Region.ready .any ops listed := by
        rw [mem_ready]
        refine ⟨by rw [getD_true (by omega)]; exact hl, ops[i], by simp [hlt], fun e he hb => ?_⟩
        have h1 := edgesBack_spec ops.toList 0 ht i ops[i] (by simp [hlt]) e he hb
        exact ih e.on (by omega) (by omega)
      rw [hr] at hm
      cases hm
    · rfl

theorem wanted_of {arr : Array Oper} {o : Oper} {b : Bool} (ht : ∀ t ∈ looksAt arr.toList o, VR ρ ((tmps.get t).getD .undef) (a.tmps.getD t undef)) (e : guardOn arr.toList tmps o = some b) : Region.wanted o (yielded arr a.tmps) = b := by
  unfold guardOn at e
  unfold Region.wanted
  split at e
  · rename_i hg
    cases e
    rw [hg]
  · rename_i g hg
    rw [hg]
    obtain ⟨j, want⟩ := g
    simp only at e ⊢
    unfold yieldOf at e
    split at e
    · rename_i oj hoj
      split at e
      · rename_i d hd
        split at e
        · rename_i y' hget
          cases e
          have ht := ht d (by simp [looksAt, hg, hoj, hd])
          rw [nth_eq] at hoj
          rw [hget] at ht
          have hv := ht.inv_bool
          have hoj : arr[j]? = some oj := by rw [← Array.getElem?_toList]; exact hoj
          have hsome : a.tmps[d]? = some (.bool y') := by
            rcases Nat.lt_or_ge d a.tmps.size with hlt | hge
            · simp [hlt] at hv
              simp [hlt, hv]
            · simp [Nat.not_lt.2 hge] at hv
              cases hv
          simp [yielded, hoj, hd, hsome]
        · rename_i l hget
          split at e
          · cases e
            have ht := ht d (by simp [looksAt, hg, hoj, hd])
            rw [nth_eq] at hoj
            rw [hget] at ht
            have hoj : arr[j]? = some oj := by rw [← Array.getElem?_toList]; exact hoj
            obtain ⟨xs, hx, hxs⟩ := ht.inv_tup
            have hnil : xs = #[] := by
              have := hxs.of_nil
              exact Array.toList_eq_nil_iff.1 this
            subst hnil
            have hsome : a.tmps[d]? = some (.tuple #[]) ∨ a.tmps[d]? = none := by
              rcases Nat.lt_or_ge d a.tmps.size with hlt | hge
              · simp [hlt] at hx
                simp [hlt, hx]
              · exact .inr (by simp [hge])
            rcases hsome with hsome | hsome <;> simp [yielded, hoj, hd, hsome]
          · cases e
        · cases e
      · cases e
    · cases e

theorem operand_of {o : Oper} {all : List Oper} (g : GR E ρ h) (ht : ∀ t ∈ looksAt all o, VR ρ ((tmps.get t).getD .undef) (a.tmps.getD t undef)) (x : Operand) (hx : x ∈ o.op.operands) : VR ρ (cvOf E.globs tmps x) (a.eval x) := by
  unfold cvOf
  split
  · rename_i t
    exact ht t (List.mem_append_left _ (mem_tmpsOf (by simpa using hx)))
  · rename_i v
    cases hc : constCV v with
    | none => exact .undef _
    | some c => exact constCV_sound hc
  · rename_i i
    split
    · rename_i hi
      have hi : i < E.globs := by simpa [Nat.blt_eq] using hi
      exact VR.ptr (ρ := ρ) i 0 i 0 (g.glob i hi)
    · exact .undef _
  · exact VRs.fn (VRs.nil _) (VRs.nil _)

theorem J.silent {d d' : Heap} (hr : HR ρ d w) (h1 : ∀ k, d.get k = none ∧ d'.get k = none) (hn : d'.next = d.next) : J ρ d w ρ d' w := by
  refine ⟨fun _ _ => ⟨rfl, rfl⟩, by omega, ⟨fun k b hb => ?_, fun x y k d e bx cy hx => (by rw [(h1 x).2] at hx; cases hx), fun k hk => hr.fresh k (by omega), hr.lt⟩, Keep.refl _ _, fun b ⟨j, e, h2, _⟩ => absurd (h1 j).2 h2, fun b ⟨j, e, c, h2, _⟩ => by rw [(h1 j).2] at h2; cases h2⟩
  rw [(h1 k).2] at hb; cases hb

theorem draw_sound (W : EnvW P E) (S : ∀ m', m' < m → Snd P E m') {arr : Array Oper} (hs : run E m (.draw (aheads arr.toList []) arr.toList arr.toList 0 []) tmps h ≠ .stop) (hdst : ∀ o ∈ arr.toList, dstOk n.1 o = true) (hok : drawOk arr.toList = true)
    (hr : HR ρ h w) (g : GR E ρ h) (t : TR n ρ h w tmps a) (ro : Option Nat) (k : Nat) : wpOpsIn (FW ro) 0 P arr (PostR n ρ h w (run E m (.draw (aheads arr.toList []) arr.toList arr.toList 0 []) tmps h)) (Region.schedule (P.follows .mixedOrders) arr k) a w := by
  obtain ⟨ev, tm, hp, _, h2, h3, h4, h5⟩ := draw_facts (P := P) W m S arr.toList 0 [] tmps h (fun _ => ⟨true, .undef, h, h⟩) hs (by simp) (fun j hj => by omega) (fun j hj => by omega)
  have D : Drawn P E arr.toList ev tm hp := ⟨fun j o ho => (h5 j o (Nat.zero_le _) ho).1, fun j o ho => (h5 j o (Nat.zero_le _) ho).2, hok⟩
  rw [h4]
  subst h2
  subst h3
  have hback : edgesBack 0 arr.toList = true := by
    unfold drawOk at hok
    rw [Bool.and_eq_true] at hok
    exact hok.1
  simp only [Region.schedule, W.mixed, Bool.true_or, if_true]
  refine wpAnyIn_sound arr.size k _ a w ?_
  refine wpAny_of (fun listed a' w' => (∀ i o, arr.toList[i]? = some o → listed.getD i false = true → ∀ e ∈ o.after, Region.binds .any e = true → listed.getD e.on false = true) ∧
    ∃ ρ', Inv n.1 a.defers arr.toList ev (tm 0) (hp 0) ρ w (fun j => listed.getD j false) ρ' a' w') ?_ ?_ _ _ _ _ (by simp) (Nat.le_trans (List.length_filter_le ..) (by simp)) ⟨fun i o _ hl => ?_, ρ, ?_⟩
  · rintro listed a1 w1 i hsz ⟨hcl, ρ1, I⟩ hi
    obtain ⟨hun, o, ho, hw⟩ := mem_ready.1 hi
    have hlt : i < arr.size := (Array.getElem?_eq_some_iff.1 ho).1
    have hol : arr.toList[i]? = some o := by simpa using ho
    have hunf : listed.getD i false = false := by rw [← getD_true (by omega)]; exact hun
    have R : Rdy arr.toList (fun j => listed.getD j false) i := by
      refine ⟨hunf, ahead_in (L := fun j => listed.getD j false) hcl (i + 1) i (Nat.lt_succ_self _) o hol hw, fun j hj hm => ?_⟩
      have hjs : j < arr.toList.length := by
        rcases Nat.lt_or_ge j listed.size with h | h
        · rw [Array.length_toList]; omega
        · have hj : listed.getD j false = true := hj
          simp [Nat.not_lt.2 h] at hj
      have := ahead_in (L := fun j => listed.getD j false) hcl (j + 1) j (Nat.lt_succ_self _) arr.toList[j] (List.getElem?_eq_getElem hjs) (hcl j _ (List.getElem?_eq_getElem hjs) hj) i hm
      rw [hunf] at this
      cases this
    have hF := D.fact i o hol
    have htm : ∀ t ∈ looksAt arr.toList o, VR (restr ρ1 (hp i).next) (((tm i).get t).getD .undef) (a1.tmps.getD t undef) := fun t ht => D.operand hol R I ht
    have hwant := wanted_of htm hF.guard
    have hcl2 : ∀ i' o', arr.toList[i']? = some o' → (listed.setIfInBounds i true).getD i' false = true → ∀ e ∈ o'.after, Region.binds .any e = true → (listed.setIfInBounds i true).getD e.on false = true := by
      have up : ∀ j, listed.getD j false = true → (listed.setIfInBounds i true).getD j false = true := fun j hj => by
        by_cases e : i = j
        · subst e; rw [hunf] at hj; cases hj
        · rw [getD_set_ne false e]; exact hj
      intro i' o' ho' hl e he hb
      by_cases hii : i = i'
      · subst hii
        rw [hol] at ho'
        cases ho'
        exact up _ (hw e he hb)
      · rw [getD_set_ne false hii] at hl
        exact up _ (hcl i' o' ho' hl e he hb)
    have hfun : (fun j => (listed.setIfInBounds i true).getD j false) = add (fun j => listed.getD j false) i := by
      funext j
      by_cases e : i = j
      · subst e
        rw [add_same]
        simp [hsz, hlt]
      · rw [add_other _ (Ne.symm e)]
        exact getD_set_ne false e
    have fin : ∀ (x : Value) (ρ' : Rho) (w' : World), J (restr ρ1 (hp i).next) (ev i).d w1 ρ' (ev i).d' w' → VR ρ' (ev i).v x →
        (∀ i' o', arr.toList[i']? = some o' → (listed.setIfInBounds i true).getD i' false = true → ∀ e ∈ o'.after, Region.binds .any e = true → (listed.setIfInBounds i true).getD e.on false = true) ∧
        ∃ ρ', Inv n.1 a.defers arr.toList ev (tm 0) (hp 0) ρ w (fun j => (listed.setIfInBounds i true).getD j false) ρ' (a1.put o.dst x) w' := by
      intro x ρ' w' j hv
      rw [hfun]
      exact ⟨hcl2, D.step hol R (dstOk_lt (hdst o (List.mem_of_getElem? hol))) I j hv⟩
    have hri := D.hr hol R I
    unfold wpOpIn
    simp only [ho]
    rw [hwant]
    cases hon : (ev i).on with
    | true =>
      simp only [if_true]
      exact hF.tri hon _ a1 w1 hri (D.gr hol I g) (fun x hx => operand_of (D.gr hol I g) htm x hx) _ _ fin ro
    | false =>
      simp only [Bool.false_eq_true, if_false]
      obtain ⟨v1, v2, v3⟩ := hF.off hon
      refine ⟨fun _ _ => trivial, fin undef _ w1 (J.silent hri v2 v3) ?_⟩
      rw [v1]
      exact VRs.tup (VRs.nil _)
  · rintro listed a1 w1 hsz ⟨_, ρ1, I⟩ hrd
    have hall := all_listed hsz hback hrd
    have hHS : ∀ k, HS ev (hp 0) arr.toList.length (fun j => listed.getD j false) k = HS ev (hp 0) arr.toList.length (fun j => decide (j < arr.toList.length)) k := fun k =>
      last_congr fun j hj _ => by
        rw [hall (j + 1) j (Nat.lt_succ_self _) (by rw [← Array.length_toList]; exact hj)]
        simpa using hj
    have hTS : ∀ t, TS ev arr.toList (tm 0) (hp 0) (fun j => listed.getD j false) t = TS ev arr.toList (tm 0) (hp 0) (fun j => decide (j < arr.toList.length)) t := fun k =>
      last_congr fun j hj _ => by
        rw [hall (j + 1) j (Nat.lt_succ_self _) (by rw [← Array.length_toList]; exact hj)]
        simpa using hj
    have hv : ∀ k, (HS ev (hp 0) arr.toList.length (fun j => listed.getD j false) k).1 = (hp arr.toList.length).get k := fun k => by
      rw [hHS]; exact D.heap_val (Nat.le_refl _) k
    have hle : (hp 0).next ≤ (hp arr.toList.length).next := D.next_le (Nat.zero_le _) (Nat.le_refl _)
    have hJ : J ρ (hp 0) w ρ1 (hp arr.toList.length) w1 := by
      refine ⟨I.ext, hle, ⟨fun k b hb => ?_, fun x y k d e bx cy hx hy => ?_, fun k hk => ?_, I.lt⟩, I.keep, fun b hb => ?_, fun b hb => ?_⟩
      · obtain ⟨c, d, g1, g2⟩ := I.blk k b (by rw [hv]; exact hb)
        exact ⟨c, d, (restr_some g1).2, g2.later (restr_sub _ _) rfl⟩
      · exact I.inj x y k d e bx cy (by rw [hv]; exact hx) (by rw [hv]; exact hy)
      · rcases Classical.em (ρ1 k = none) with h | h
        · exact h
        · exfalso
          obtain ⟨j, j1, _, _, j4⟩ := I.dom k (by omega) h
          rw [D.hi j1] at j4
          have := D.next_le (i := j + 1) (j := arr.toList.length) (by omega) (Nat.le_refl _)
          omega
      · obtain ⟨j, e, k1, k2⟩ := hb
        exact I.own b ⟨j, e, by rw [hv]; exact k1, k2⟩
      · obtain ⟨j, e, c, k1, k0, k2⟩ := hb
        exact I.ownW b ⟨j, e, c, by rw [hv]; exact k1, k0, k2⟩
    refine ⟨trivial, ρ1, hJ, ⟨I.size, t.mks.step hJ I.defers, fun t => ?_⟩⟩
    have ht := I.tmp t
    rw [hTS, D.tmp_val (Nat.le_refl _)] at ht
    exact ht.mono (restr_sub _ _)
  · exfalso
    by_cases hj : i < arr.size <;> simp [hj] at hl
  · have hno : ∀ i, (fun j => (Array.replicate arr.size false).getD j false) i = false := fun i => by
      by_cases hj : i < arr.size <;> simp [hj]
    have hv : ∀ k, HS ev (hp 0) arr.toList.length (fun j => (Array.replicate arr.size false).getD j false) k = ((hp 0).get k, (hp 0).next) := fun k => last_none fun i _ => hno i
    have hlow : ∀ k p, ρ k = some p → k < (hp 0).next := fun k p hk => by
      rcases Nat.lt_or_ge k (hp 0).next with h | h
      · exact h
      · rw [hr.fresh k h] at hk; cases hk
    have hsub : Sub ρ (restr ρ (hp 0).next) := fun k p hk => ⟨by rw [restr_lt (hlow k p hk)]; exact hk, rfl⟩
    refine ⟨fun _ _ => ⟨rfl, rfl⟩, fun k b hb => ?_, fun x y k d e bx cy hx hy => ?_, hr.lt, fun k hk hne => absurd (hr.fresh k hk) hne, Keep.refl _ _, fun b ⟨k, d, c, hk, hk0, hk2⟩ => ?_, fun b ⟨k, d, hk, hk2⟩ => ?_, t.size, rfl, fun x => ?_⟩
    · rw [hv] at hb ⊢
      obtain ⟨c, d, g1, g2⟩ := hr.blk k b hb
      exact ⟨c, d, (hsub _ _ g1).1, g2.later hsub rfl⟩
    · rw [hv] at hx hy
      exact hr.inj x y k d e bx cy hx hy
    · rw [hv] at hk
      exact .inr ⟨k, d, c, hk, hk0, hk2⟩
    · rw [hv] at hk
      exact .inr ⟨k, d, hk, hk2⟩
    · have : TS ev arr.toList (tm 0) (hp 0) (fun j => (Array.replicate arr.size false).getD j false) x = ((tm 0).get x, (hp 0).next) := last_none fun i _ => hno i
      rw [this]
      exact (t.tmp x).mono hsub

theorem snd (W : EnvW P E) : ∀ (m m' : Nat), m' < m → Snd P E m'
  | 0, _, h => by omega
  | m + 1, m', hm => by
    have S := snd W m
    cases m' with
    | zero =>
      exact ⟨fun _ _ _ _ hs => absurd rfl hs, fun _ _ _ _ hs => absurd rfl hs, fun _ _ _ _ _ _ hs => absurd rfl hs, fun _ _ _ _ hs => absurd rfl hs, fun _ _ _ _ _ hs => absurd rfl hs, fun _ _ _ hs => absurd rfl hs⟩
    | succ m' =>
      have S1 := S m' (by omega)
      refine ⟨fun n c tmps h hs hc ro hro ρ a w hr g t => code_step W S1 hs hc hr g t ro hro, fun n c tmps h hs hc ro hro ρ a w hr g t => loop_step S1 hs hc hr g t ro hro, fun n arr rest k tmps h hs hk hd ro ρ a w hr g t => ops_step W S1 hs hk hd hr g t ro,
        fun n arr tmps h hs hd hok ro ρ a w hr g t k => draw_sound W (fun m1 h1 => S m1 (by omega)) hs hd hok hr g t ro k, fun f first caps args h hs ρ w xs hr g hx => call_step W S1 hs hr g hx, fun i args h hs ro ρ w xs hr g hx => round_step W S1 hs ro hr g hx⟩

theorem sound (W : EnvW P E) (m : Nat) : Snd P E m := snd W (m + 1) m (Nat.lt_succ_self _)
end
end Go.CM
