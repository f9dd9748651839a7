/- A small environment, told by lists. No condition. -/
import Derived.Test.YtdcegklfbhfddaaCmX
import Derived.Test.YtdcegklfbhfddaaXLa
noncomputable section
namespace Go.CM
set_option linter.unusedVariables false
set_option linter.unusedSimpArgs false

theorem lk_mem {α : Type} : ∀ {l : List (Nat × α)} {t : Nat} {x : α}, lk l t = some x → (t, x) ∈ l
  | [], _, _, h => by cases h
  | p :: r, t, x, h => by
    unfold lk at h
    cases hb : Nat.beq p.1 t with
    | true =>
      rw [hb] at h
      have e := Nat.eq_of_beq_eq_true hb
      cases h
      subst e
      simp
    | false =>
      rw [hb] at h
      exact List.mem_cons_of_mem _ (lk_mem h)

theorem envW_small {P : Program} {tyL : List (Nat × TyS)} {fnL : List (Nat × FnS)} {g : Nat} {kn : List KE} {rows : List (Nat × List CV)} (ht : ∀ p ∈ tyL, tyOf P p.1 false = some p.2)
    (hf : ∀ p ∈ fnL, ∃ fn, P.funcs[p.1]? = some fn ∧ p.2 = fnOf fn ∧ fnGood fn = true) (hm : P.follows .mixedOrders = true) (hr : rowsGood g rows = true) (hk : ∀ e ∈ kn, KnownOk P g rows e) : EnvW P ⟨lk tyL, lk fnL, g, kn, rows⟩ := by
  have row : ∀ f s, lk fnL f = some s → ∃ fn, P.funcs[f]? = some fn ∧ s = ⟨fn.ntmps, fn.results.toList, fn.body⟩ ∧ fnGood fn = true := by
    intro f s h
    obtain ⟨fn, h1, h2, h3⟩ := hf _ (lk_mem h)
    exact ⟨fn, h1, h2, h3⟩
  refine ⟨⟨fun t s h => ?_, fun f s h => ?_⟩, fun f s c h hb => ?_, fun f s fn h hfn => ?_, hm, hk, fun r hmm => ?_⟩
  · have h1 := ht _ (lk_mem h)
    have h2 := tyOf_cmp h1
    simp only at h1 h2
    rw [h2]
    exact ⟨h1, fun e => by cases e⟩
  · obtain ⟨fn, h1, rfl, _⟩ := row f s h
    exact ⟨fn, h1, rfl, rfl, rfl⟩
  · obtain ⟨fn, h1, rfl, h2⟩ := row f s h
    unfold fnGood at h2
    rw [Bool.and_eq_true] at h2
    have hb : fn.body = some c := hb
    rw [hb] at h2
    exact h2.2
  · obtain ⟨fn', h1, rfl, h2⟩ := row f s h
    rw [h1] at hfn
    cases hfn
    unfold fnGood at h2
    rw [Bool.and_eq_true] at h2
    simpa using h2.1
  · have := List.all_eq_true.1 hr r hmm
    rw [Bool.and_eq_true] at this
    exact ⟨by have := this.1; rw [Nat.blt_eq] at this; exact this, this.2⟩

/-- Cells of arguments: block, first cell, what lies there. -/
structure ArgB where
  blk : Nat
  off : Nat
  cs : List CV
/-- Where the ids of arguments are. -/
def rhoA (g : Nat) (l : List ArgB) : Rho := ⟨fun i => if i < g then some (i, 0) else (l[i - g]?).map fun b => (b.blk, b.off), fun _ => 0⟩
theorem hr_args {w : World} {g : Nat} {rows : List (Nat × List CV)} {l : List ArgB} (hg : g ≤ w.heap.size) (hrows : ∀ r ∈ rows, r.1 < g ∧ r.2.all CV.plain = true) (hat : RowsAt w rows (rho0 g))
    (hl : ∀ b ∈ l, ∃ arr ty fz, w.heap[b.blk]? = some (.cells arr ty fz) ∧ b.off + b.cs.length ≤ arr.size ∧ VRs (rhoA g l) b.cs ((arr.toList.drop b.off).take b.cs.length) ∧ ∀ c ∈ b.cs, c.one = true) :
    HR (rhoA g l) (heapOf g rows (l.map (·.cs))) w := by
  have ro : ∀ (j : Nat) (b : Blk), (heapOf g rows (l.map (·.cs))).get j = some b → b.ro = true := by
    intro j b hb
    rcases heapOf_get hb with ⟨_, _, _, _, rfl⟩ | ⟨_, _, rfl⟩ <;> rfl
  refine ⟨fun j b hb => ?_, fun i j k d e bx cy hi hj hn _ _ => ?_, fun j hj => ?_, fun j k d hj => ?_⟩
  · rcases heapOf_get hb with ⟨n, cs, rfl, hn, rfl⟩ | ⟨cs, hmem, rfl⟩
    · rw [List.getElem?_map, Option.map_eq_some_iff] at hn
      obtain ⟨x, hx, rfl⟩ := hn
      obtain ⟨arr, ty, fz, r1, r2, r3, r4⟩ := hl x (List.mem_of_getElem? hx)
      refine ⟨x.blk, x.off, ?_, arr, ty, fz, r1, ⟨r2, by show x.off + 0 ≤ arr.size; omega⟩, r3, r4, fun e => by cases e⟩
      show (if g + n < g then _ else (l[g + n - g]?).map fun b => (b.blk, b.off)) = _
      rw [if_neg (by omega), show g + n - g = n by omega, hx]; rfl
    · obtain ⟨hlt, hpl⟩ := hrows _ hmem
      obtain ⟨arr, ty, fz, r1, r2, r3, r4⟩ := hat _ hmem
      refine ⟨j, 0, by show (if j < g then _ else _) = _; rw [if_pos hlt], arr, ty, fz, r1, ⟨by simpa using r2, Nat.zero_le _⟩, by simpa using r3.plain hpl, r4, fun e => by cases e⟩
  · rcases hn with hn | hn
    · rw [ro i bx hi] at hn; cases hn
    · rw [ro j cy hj] at hn; cases hn
  · have hj : g + len (l.map (·.cs)) ≤ j := hj
    rw [len_eq, List.length_map] at hj
    show (if j < g then _ else (l[j - g]?).map fun b => (b.blk, b.off)) = none
    rw [if_neg (by omega), List.getElem?_eq_none (by omega)]; rfl
  · have hj : (if j < g then some (j, 0) else (l[j - g]?).map fun b => (b.blk, b.off)) = some (k, d) := hj
    split at hj
    · cases hj; omega
    · rw [Option.map_eq_some_iff] at hj
      obtain ⟨x, hx, he⟩ := hj
      obtain ⟨arr, ty, fz, r1, _⟩ := hl x (List.mem_of_getElem? hx)
      cases he
      exact (Array.getElem?_eq_some_iff.1 r1).1

/-- What a call with arguments comes to: by what the plain machine makes of it. -/
theorem run_args {P : Program} {E : Env} {f : FuncId} {vs : List CV} {l : List ArgB} {v : CV} (W : EnvW P E) (hrun : CM.W E (.call (.fn f [] []) vs) .leaf (heapOf E.globs E.rows (l.map (·.cs))) (fun r => ∃ h', r = .val v h')) (hv : v.plain = true)
    {w : World} {xs : List Value} (hH : HR (rhoA E.globs l) (heapOf E.globs E.rows (l.map (·.cs))) w) (hx : VRs (rhoA E.globs l) vs xs) : Calls P f xs.toArray w fun e w' => ∃ x, e = .returned x ∧ VR (rho0 E.globs) v x ∧ Keep (fun _ => False) w w' := by
  obtain ⟨r, ⟨N, e⟩, h', rfl⟩ := hrun
  exact run_closed W (e N (Nat.le_refl _)) hv hH (fun i hi => by show (if i < E.globs then _ else _) = _; rw [if_pos hi]) hx
end Go.CM
