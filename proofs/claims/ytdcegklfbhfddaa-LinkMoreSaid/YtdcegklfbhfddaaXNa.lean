/- Windows, in plain words: rows of windows that are good; the least tick from which on so many are in none; the least one that is in one. No condition, no program. -/
import Derived.KernelRfl
namespace Go.CM.Wins
set_option linter.unusedVariables false
set_option linter.unusedSimpArgs false

/-- Windows that stand apart, in order, behind a tick. -/
def Good : List (Int × Int) → Int → Prop
  | [], _ => True
  | w :: r, b => b < w.1 ∧ w.1 < w.2 ∧ w.2 ≤ 2199023255552 ∧ Good r w.2
theorem Good.low : ∀ {l : List (Int × Int)} {b : Int}, Good l b → ∀ w ∈ l, b < w.1 ∧ w.1 < w.2 ∧ w.2 ≤ 2199023255552
  | [], _, _, w, h => by cases h
  | v :: r, b, g, w, h => by
    obtain ⟨g1, g2, g3, g4⟩ := g
    rcases List.mem_cons.1 h with rfl | h
    · exact ⟨g1, g2, g3⟩
    · have := Good.low g4 w h
      omega
/-- So many ticks from y on are in none. -/
def Free (n y : Int) (l : List (Int × Int)) : Prop := ∀ w ∈ l, w.2 ≤ y ∨ y + n ≤ w.1
/-- A tick is in one. -/
def In (y : Int) (l : List (Int × Int)) : Prop := ∃ w ∈ l, w.1 ≤ y ∧ y < w.2
def gap (n : Int) : List (Int × Int) → Int → Int
  | [], x => x
  | w :: r, x => if w.2 ≤ x then gap n r x else if x + n ≤ w.1 then x else gap n r w.2
def next : List (Int × Int) → Int → Option Int
  | [], _ => none
  | w :: r, x => if w.2 ≤ x then next r x else some (if x ≤ w.1 then w.1 else x)

theorem gap_ge (n : Int) : ∀ (l : List (Int × Int)) (x : Int), x ≤ gap n l x
  | [], x => Int.le_refl _
  | w :: r, x => by
    unfold gap
    split
    · exact gap_ge n r x
    · split
      · exact Int.le_refl _
      · have := gap_ge n r w.2
        omega
theorem gap_free {n : Int} (hn : 1 ≤ n) : ∀ {l : List (Int × Int)} {b x : Int}, Good l b → Free n (gap n l x) l
  | [], _, _, _ => fun w h => by cases h
  | v :: r, b, x, g => by
    obtain ⟨g1, g2, g3, g4⟩ := g
    intro w h
    unfold gap
    split
    · rename_i hv
      rcases List.mem_cons.1 h with rfl | h
      · have := gap_ge n r x
        exact .inl (by omega)
      · exact gap_free hn g4 w h
    · split
      · rcases List.mem_cons.1 h with rfl | h
        · exact .inr (by omega)
        · have := g4.low w h
          exact .inr (by omega)
      · rcases List.mem_cons.1 h with rfl | h
        · have := gap_ge n r w.2
          exact .inl (by omega)
        · exact gap_free hn g4 w h
theorem gap_least {n : Int} (hn : 1 ≤ n) : ∀ {l : List (Int × Int)} {b x y : Int}, Good l b → x ≤ y → Free n y l → gap n l x ≤ y
  | [], _, _, _, _, h, _ => h
  | v :: r, b, x, y, g, h, f => by
    obtain ⟨g1, g2, g3, g4⟩ := g
    have f2 : Free n y r := fun w hw => f w (List.mem_cons_of_mem _ hw)
    unfold gap
    split
    · exact gap_least hn g4 h f2
    · split
      · exact h
      · refine gap_least hn g4 ?_ f2
        rcases f v (by simp) with h1 | h1
        · exact h1
        · omega
theorem gap_same {n : Int} (hn : 1 ≤ n) {l : List (Int × Int)} {b x : Int} (g : Good l b) : gap n l x = x ↔ Free n x l := by
  constructor
  · intro h
    have := gap_free hn (x := x) g
    rwa [h] at this
  · intro h
    have h1 := gap_least hn g (Int.le_refl x) h
    have h2 := gap_ge n l x
    omega
theorem next_some : ∀ {l : List (Int × Int)} {b x y : Int}, Good l b → next l x = some y → x ≤ y ∧ In y l
  | [], _, _, _, _, h => by cases h
  | v :: r, b, x, y, g, h => by
    obtain ⟨g1, g2, g3, g4⟩ := g
    unfold next at h
    split at h
    · obtain ⟨h1, w, h2, h3⟩ := next_some g4 h
      exact ⟨h1, w, List.mem_cons_of_mem _ h2, h3⟩
    · cases h
      refine ⟨by split <;> omega, v, by simp, ?_, ?_⟩
      · split <;> omega
      · split <;> omega
theorem next_least : ∀ {l : List (Int × Int)} {b x z : Int}, Good l b → x ≤ z → In z l → ∃ y, next l x = some y ∧ y ≤ z
  | [], _, _, _, _, _, h => by obtain ⟨w, h, _⟩ := h; cases h
  | v :: r, b, x, z, g, hx, h => by
    obtain ⟨g1, g2, g3, g4⟩ := g
    unfold next
    obtain ⟨w, h1, h2, h3⟩ := h
    split
    · rename_i hv
      rcases List.mem_cons.1 h1 with rfl | h1
      · omega
      · exact next_least g4 hx ⟨w, h1, h2, h3⟩
    · refine ⟨_, rfl, ?_⟩
      rcases List.mem_cons.1 h1 with rfl | h1
      · split <;> omega
      · have := g4.low w h1
        split <;> omega
theorem next_same {l : List (Int × Int)} {b x : Int} (g : Good l b) : next l x = some x ↔ In x l := by
  constructor
  · intro h; exact (next_some g h).2
  · intro h
    obtain ⟨y, h1, h2⟩ := next_least g (Int.le_refl x) h
    have := (next_some g h1).1
    rw [h1, show y = x by omega]

/-- May a link be begun at a tick? By the windows of its stop, its own ones, its length. -/
structure Link where
  shut : List (Int × Int)
  door : Bool
  opn : List (Int × Int)
  closed : List (Int × Int)
  len : Int
structure Link.Ok (k : Link) : Prop where
  len : 1 ≤ k.len ∧ k.len ≤ 1099511627776
  shut : Good k.shut (-1)
  opn : Good k.opn (-1)
  closed : Good k.closed (-1)
def Link.May (k : Link) (y : Int) : Prop := Free 1 y k.shut ∧ (k.door = true → In y k.opn) ∧ (k.door = false → Free k.len y k.closed)
/-- The first tick from t on, no later than the last one. -/
def Link.First (k : Link) (last t : Int) : Option Int → Prop
  | none => ∀ y, t ≤ y → y ≤ last → ¬ k.May y
  | some a => t ≤ a ∧ a ≤ last ∧ k.May a ∧ ∀ y, t ≤ y → y < a → ¬ k.May y
end Go.CM.Wins
