/- Windows that are moved, or more: what comes of the first tick. In plain words. No condition, no program. -/
import Derived.Test.YtdcegklfbhfddaaXNa
namespace Go.CM.Wins
set_option linter.unusedVariables false
set_option linter.unusedSimpArgs false

/-- Moved. -/
def mvW (b : Int) (l : List (Int × Int)) : List (Int × Int) := l.map fun w => (w.1 + b, w.2 + b)
theorem in_mv {b y : Int} {l : List (Int × Int)} : In (y + b) (mvW b l) ↔ In y l := by
  constructor
  · rintro ⟨w, hw, h1, h2⟩
    obtain ⟨u, hu, rfl⟩ := List.mem_map.1 hw
    simp only at h1 h2
    exact ⟨u, hu, by omega, by omega⟩
  · rintro ⟨u, hu, h1, h2⟩
    refine ⟨_, List.mem_map.2 ⟨u, hu, rfl⟩, ?_, ?_⟩
    · show u.1 + b ≤ y + b
      omega
    · show y + b < u.2 + b
      omega
theorem free_mv {n b y : Int} {l : List (Int × Int)} : Free n (y + b) (mvW b l) ↔ Free n y l := by
  constructor
  · intro f w hw
    have h : w.2 + b ≤ y + b ∨ y + b + n ≤ w.1 + b := f _ (List.mem_map.2 ⟨w, hw, rfl⟩)
    omega
  · intro f w hw
    obtain ⟨u, hu, rfl⟩ := List.mem_map.1 hw
    have h := f u hu
    show u.2 + b ≤ y + b ∨ y + b + n ≤ u.1 + b
    omega
def Link.mv (k : Link) (b : Int) : Link := ⟨mvW b k.shut, k.door, mvW b k.opn, mvW b k.closed, k.len⟩
theorem may_mv {k : Link} {b y : Int} : (k.mv b).May (y + b) ↔ k.May y := by
  unfold Link.May Link.mv
  simp only [free_mv, in_mv]
theorem first_mv {k : Link} {last t b : Int} {r : Option Int} (h : k.First last t r) : (k.mv b).First (last + b) (t + b) (r.map (· + b)) := by
  have back : ∀ y, (k.mv b).May y → k.May (y - b) := fun y hy => by
    have e : y = (y - b) + b := by omega
    rw [e] at hy
    exact may_mv.1 hy
  cases r with
  | none => exact fun y h1 h2 hm => h (y - b) (by omega) (by omega) (back y hm)
  | some a =>
    obtain ⟨h1, h2, h3, h4⟩ := h
    refine ⟨?_, ?_, may_mv.2 h3, fun y g1 g2 hm => h4 (y - b) (by omega) ?_ (back y hm)⟩
    · show t + b ≤ a + b
      omega
    · show a + b ≤ last + b
      omega
    · have g2 : y < a + b := g2
      omega
/-- There is but one first tick. -/
theorem first_unique {k : Link} {last t : Int} {r r' : Option Int} (h : k.First last t r) (h' : k.First last t r') : r = r' := by
  cases r with
  | none =>
    cases r' with
    | none => rfl
    | some a => exact absurd h'.2.2.1 (h a h'.1 h'.2.1)
  | some a =>
    cases r' with
    | none => exact absurd h.2.2.1 (h' a h.1 h.2.1)
    | some c =>
      have : a = c := by
        by_cases h1 : a < c
        · exact absurd h.2.2.1 (h'.2.2.2 a h.1 h1)
        · by_cases h2 : c < a
          · exact absurd h'.2.2.1 (h.2.2.2 c h'.1 h2)
          · omega
      rw [this]
/-- Whoever may less is no earlier. -/
theorem first_less {k k' : Link} {last t : Int} {r r' : Option Int} (hl : last ≤ 1099511627776) (sub : ∀ y, k'.May y → k.May y) (h : k.First last t r) (h' : k'.First last t r') : r.getD 4611686018427387904 ≤ r'.getD 4611686018427387904 := by
  cases r' with
  | none =>
    cases r with
    | none => exact Int.le_refl _
    | some a => have := h.2.1; show a ≤ 4611686018427387904; omega
  | some c =>
    have hc := sub c h'.2.2.1
    cases r with
    | none => exact absurd hc (h c h'.1 h'.2.1)
    | some a =>
      show a ≤ c
      by_cases hh : a ≤ c
      · exact hh
      · exact absurd hc (h.2.2.2 c h'.1 (by omega))
end Go.CM.Wins
