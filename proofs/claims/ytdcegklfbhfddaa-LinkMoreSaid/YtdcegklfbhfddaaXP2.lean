/- A net of one's own: its blocks stand apart. No condition. -/
import Derived.Test.YtdcegklfbhfddaaXNf
import Derived.Test.YtdcegklfbhfddaaXP1
namespace Go.Proofs.Ytdcegklfbhfddaa
set_option linter.unusedVariables false
set_option linter.unusedSimpArgs false
open Go Go.CM
noncomputable section
set_option maxHeartbeats 4000000

/-- Rows of windows, each of one's own. -/
def OwnC (h : Heap) (own : Nat → Tag) (lo : Nat) (v : CV) (l : List (List (Int × Int))) : Prop :=
  ∃ css, OwnT h own lo 1 (0, 0) v css ∧ css.length = l.length ∧ ∀ (j : Nat) (cs : List CV) (w : List (Int × Int)), css[j]? = some cs → l[j]? = some w → ∃ u, cs = [u] ∧ OwnT h own lo 2 (2, j) u (w.map winC)
/-- A link, its windows of one's own. -/
def OwnK (h : Heap) (own : Nat → Tag) (lo j : Nat) (cs : List CV) (L : LinkD) : Prop := ∃ vo vc, cs = [.int .i64 L.a, .int .i64 L.b, .int .i64 L.len, .bool L.door, .int .i64 L.of, vo, vc] ∧ OwnT h own lo 2 (3, j) vo (L.opn.map winC) ∧ OwnT h own lo 2 (4, j) vc (L.closed.map winC)
/-- Links, each of one's own. -/
def OwnL (h : Heap) (own : Nat → Tag) (lo : Nat) (v : CV) (l : List LinkD) : Prop :=
  ∃ css, OwnT h own lo 7 (1, 0) v css ∧ css.length = l.length ∧ ∀ (j : Nat) (cs : List CV) (L : LinkD), css[j]? = some cs → l[j]? = some L → OwnK h own lo j cs L

section
variable {h h' : Heap} {own own' : Nat → Tag} {lo : Nat} {v : CV} {t : Tag}
theorem OwnC.sl {l : List (List (Int × Int))} (o : OwnC h own lo v l) : SlC h v l := by
  obtain ⟨css, h1, h2, h3⟩ := o
  refine ⟨css, h1.sl, h2, fun j cs w hc hw => ?_⟩
  obtain ⟨u, e, s⟩ := h3 j cs w hc hw
  exact ⟨u, e, s.sl⟩
theorem OwnK.sl {j : Nat} {cs : List CV} {L : LinkD} (o : OwnK h own lo j cs L) : LinkR h cs L := by
  obtain ⟨vo, vc, e, s1, s2⟩ := o
  exact ⟨vo, vc, e, s1.sl, s2.sl⟩
theorem OwnL.sl {l : List LinkD} (o : OwnL h own lo v l) : SlL h v l := by
  obtain ⟨css, h1, h2, h3⟩ := o
  exact ⟨css, h1.sl, h2, fun j cs L hc hL => (h3 j cs L hc hL).sl⟩
theorem OwnC.ext {l : List (List (Int × Int))} (o : OwnC h own lo v l) (x : Ext h h') : OwnC h' own lo v l := by
  obtain ⟨css, h1, h2, h3⟩ := o
  refine ⟨css, h1.ext x, h2, fun j cs w hc hw => ?_⟩
  obtain ⟨u, e, s⟩ := h3 j cs w hc hw
  exact ⟨u, e, s.ext x⟩
theorem OwnC.tags {l : List (List (Int × Int))} (o : OwnC h own lo v l) (x : Tags h.next own own') : OwnC h own' lo v l := by
  obtain ⟨css, h1, h2, h3⟩ := o
  refine ⟨css, h1.tags x, h2, fun j cs w hc hw => ?_⟩
  obtain ⟨u, e, s⟩ := h3 j cs w hc hw
  exact ⟨u, e, s.tags x⟩
theorem OwnC.keep {l : List (List (Int × Int))} (o : OwnC h own lo v l) (x : Only h h' own lo t) (h0 : t.1 ≠ 0) (h2' : t.1 ≠ 2) (h9 : t.1 ≠ 9) : OwnC h' own lo v l := by
  obtain ⟨css, h1, h2, h3⟩ := o
  refine ⟨css, h1.keep x (fun e => h0 (by rw [← e])) (fun e => h9 (by rw [e])), h2, fun j cs w hc hw => ?_⟩
  obtain ⟨u, e, s⟩ := h3 j cs w hc hw
  exact ⟨u, e, s.keep x (fun e => h2' (by rw [← e])) (fun e => h9 (by rw [e]))⟩
theorem OwnK.ext {j : Nat} {cs : List CV} {L : LinkD} (o : OwnK h own lo j cs L) (x : Ext h h') : OwnK h' own lo j cs L := by
  obtain ⟨vo, vc, e, s1, s2⟩ := o
  exact ⟨vo, vc, e, s1.ext x, s2.ext x⟩
theorem OwnK.tags {j : Nat} {cs : List CV} {L : LinkD} (o : OwnK h own lo j cs L) (x : Tags h.next own own') : OwnK h own' lo j cs L := by
  obtain ⟨vo, vc, e, s1, s2⟩ := o
  exact ⟨vo, vc, e, s1.tags x, s2.tags x⟩
theorem OwnK.keep {j : Nat} {cs : List CV} {L : LinkD} (o : OwnK h own lo j cs L) (x : Only h h' own lo t) (h3 : t ≠ (3, j)) (h4 : t ≠ (4, j)) (h9 : t.1 ≠ 9) : OwnK h' own lo j cs L := by
  obtain ⟨vo, vc, e, s1, s2⟩ := o
  exact ⟨vo, vc, e, s1.keep x (Ne.symm h3) (fun e => h9 (by rw [e])), s2.keep x (Ne.symm h4) (fun e => h9 (by rw [e]))⟩
theorem OwnL.ext {l : List LinkD} (o : OwnL h own lo v l) (x : Ext h h') : OwnL h' own lo v l := by
  obtain ⟨css, h1, h2, h3⟩ := o
  exact ⟨css, h1.ext x, h2, fun j cs L hc hL => (h3 j cs L hc hL).ext x⟩
theorem OwnL.tags {l : List LinkD} (o : OwnL h own lo v l) (x : Tags h.next own own') : OwnL h own' lo v l := by
  obtain ⟨css, h1, h2, h3⟩ := o
  exact ⟨css, h1.tags x, h2, fun j cs L hc hL => (h3 j cs L hc hL).tags x⟩
theorem OwnL.keep {l : List LinkD} (o : OwnL h own lo v l) (x : Only h h' own lo t) (h1' : t.1 ≠ 1) (h3' : t.1 ≠ 3) (h4' : t.1 ≠ 4) (h9 : t.1 ≠ 9) : OwnL h' own lo v l := by
  obtain ⟨css, h1, h2, h3⟩ := o
  exact ⟨css, h1.keep x (fun e => h1' (by rw [← e])) (fun e => h9 (by rw [e])), h2, fun j cs L hc hL => (h3 j cs L hc hL).keep x (fun e => h3' (by rw [e])) (fun e => h4' (by rw [e])) h9⟩
/-- One row of windows more. -/
theorem OwnC.more {l : List (List (Int × Int))} {css : List (List CV)} {v' u : CV} {w : List (Int × Int)} (h2 : css.length = l.length) (h3 : ∀ (j : Nat) (cs : List CV) (w : List (Int × Int)), css[j]? = some cs → l[j]? = some w → ∃ u, cs = [u] ∧ OwnT h own lo 2 (2, j) u (w.map winC))
    (o : OwnT h own lo 1 (0, 0) v' (css ++ [[u]])) (ou : OwnT h own lo 2 (2, l.length) u (w.map winC)) : OwnC h own lo v' (l ++ [w]) := by
  refine ⟨css ++ [[u]], o, by simp [h2], fun j cs w' hc hw => ?_⟩
  by_cases hj : j < l.length
  · rw [List.getElem?_append_left (by omega)] at hc
    rw [List.getElem?_append_left hj] at hw
    exact h3 j cs w' hc hw
  · have hjl := (List.getElem?_eq_some_iff.1 hw).1
    simp only [List.length_append, List.length_cons, List.length_nil] at hjl
    obtain rfl : j = l.length := by omega
    rw [List.getElem?_append_right (by omega), h2, Nat.sub_self] at hc
    rw [List.getElem?_append_right (by omega), Nat.sub_self] at hw
    simp at hc hw
    subst hc hw
    exact ⟨u, rfl, ou⟩
theorem OwnL.more {l : List LinkD} {css : List (List CV)} {v' : CV} {cs : List CV} {L : LinkD} (h2 : css.length = l.length) (h3 : ∀ (j : Nat) (cs : List CV) (L : LinkD), css[j]? = some cs → l[j]? = some L → OwnK h own lo j cs L)
    (o : OwnT h own lo 7 (1, 0) v' (css ++ [cs])) (ou : OwnK h own lo l.length cs L) : OwnL h own lo v' (l ++ [L]) := by
  refine ⟨css ++ [cs], o, by simp [h2], fun j cs' w' hc hw => ?_⟩
  by_cases hj : j < l.length
  · rw [List.getElem?_append_left (by omega)] at hc
    rw [List.getElem?_append_left hj] at hw
    exact h3 j cs' w' hc hw
  · have hjl := (List.getElem?_eq_some_iff.1 hw).1
    simp only [List.length_append, List.length_cons, List.length_nil] at hjl
    obtain rfl : j = l.length := by omega
    rw [List.getElem?_append_right (by omega), h2, Nat.sub_self] at hc
    rw [List.getElem?_append_right (by omega), Nat.sub_self] at hw
    simp at hc hw
    subst hc hw
    exact ou
end

/-- The first k of a row turned. -/
def upTo {α : Type} (f : α → α) (k : Nat) (l : List α) : List α := (l.take k).map f ++ l.drop k
theorem upTo_zero {α : Type} {f : α → α} {l : List α} : upTo f 0 l = l := rfl
theorem upTo_all {α : Type} {f : α → α} {l : List α} : upTo f l.length l = l.map f := by simp [upTo]
theorem upTo_len {α : Type} {f : α → α} {k : Nat} {l : List α} : (upTo f k l).length = l.length := by simp [upTo]; omega
theorem upTo_lt {α : Type} {f : α → α} {k j : Nat} {l : List α} (h : j < k) : (upTo f k l)[j]? = (l[j]?).map f := by
  unfold upTo
  by_cases hj : j < l.length
  · rw [List.getElem?_append_left (by simp; omega), List.getElem?_map, List.getElem?_take, if_pos h]
  · rw [List.getElem?_eq_none (by simp; omega), List.getElem?_eq_none (by omega)]; rfl
theorem upTo_ge {α : Type} {f : α → α} {k j : Nat} {l : List α} (h : k ≤ j) : (upTo f k l)[j]? = l[j]? := by
  unfold upTo
  by_cases hk : k ≤ l.length
  · rw [List.getElem?_append_right (by simp; omega), List.getElem?_drop]
    congr 1
    simp; omega
  · rw [List.getElem?_eq_none (by simp; omega), List.getElem?_eq_none (by omega)]
theorem upTo_succ {α : Type} {f : α → α} {k : Nat} {l : List α} {u : α} (h : l[k]? = some u) : upTo f (k + 1) l = (upTo f k l).set k (f u) := by
  apply List.ext_getElem?
  intro j
  have hk := (List.getElem?_eq_some_iff.1 h).1
  by_cases hj : j = k
  · subst hj
    rw [upTo_lt (Nat.lt_succ_self _), h, List.getElem?_set_self (by rw [upTo_len]; exact hk)]; rfl
  · rw [List.getElem?_set_ne (Ne.symm hj)]
    by_cases hlt : j < k
    · rw [upTo_lt hlt, upTo_lt (by omega)]
    · rw [upTo_ge (by omega), upTo_ge (by omega)]
/-- One row of windows has been turned in its place. -/
theorem OwnC.turn {h h' : Heap} {own : Nat → Tag} {lo k : Nat} {v : CV} {f : List (Int × Int) → List (Int × Int)} {l : List (List (Int × Int))} {css : List (List CV)} {u : CV} {w : List (Int × Int)} (o : OwnT h own lo 1 (0, 0) v css) (h2 : css.length = (upTo f k l).length)
    (h3 : ∀ (j : Nat) (cs : List CV) (w : List (Int × Int)), css[j]? = some cs → (upTo f k l)[j]? = some w → ∃ u, cs = [u] ∧ OwnT h own lo 2 (2, j) u (w.map winC)) (x : Only h h' own lo (2, k)) (hu : css[k]? = some [u]) (hw : l[k]? = some w) (ou : OwnT h' own lo 2 (2, k) u ((f w).map winC)) : OwnC h' own lo v (upTo f (k + 1) l) := by
  refine ⟨css, o.keep x (fun e => by cases e) (fun e => by cases e), by rw [h2, upTo_len, upTo_len], fun j cs w' hc hw' => ?_⟩
  by_cases hj : j = k
  · subst hj
    rw [hu] at hc
    cases hc
    rw [upTo_lt (Nat.lt_succ_self _), hw] at hw'
    cases hw'
    exact ⟨u, rfl, ou⟩
  · have hw2 : (upTo f k l)[j]? = some w' := by
      rw [← hw']
      by_cases hlt : j < k
      · rw [upTo_lt hlt, upTo_lt (by omega)]
      · rw [upTo_ge (by omega), upTo_ge (by omega)]
    obtain ⟨u', e, s⟩ := h3 j cs w' hc hw2
    exact ⟨u', e, s.keep x (fun e => hj (by cases e; rfl)) (fun e => by cases e)⟩
def LinkD.mv (b : Int) (L : LinkD) : LinkD := { L with opn := Wins.mvW b L.opn, closed := Wins.mvW b L.closed }
/-- One link has been turned in its place. -/
theorem OwnL.turn {h h' : Heap} {own : Nat → Tag} {lo k : Nat} {v : CV} {f : LinkD → LinkD} {l : List LinkD} {css : List (List CV)} {e : List CV} {L : LinkD} (o : OwnT h own lo 7 (1, 0) v css) (h2 : css.length = (upTo f k l).length)
    (h3 : ∀ (j : Nat) (cs : List CV) (L : LinkD), css[j]? = some cs → (upTo f k l)[j]? = some L → OwnK h own lo j cs L) {hm : Heap} (x : Only h hm own lo (3, k)) (y : Only hm h' own lo (4, k)) (he : css[k]? = some e) (hL : l[k]? = some L) (ou : OwnK h' own lo k e (f L)) : OwnL h' own lo v (upTo f (k + 1) l) := by
  refine ⟨css, (o.keep x (fun e => by cases e) (fun e => by cases e)).keep y (fun e => by cases e) (fun e => by cases e), by rw [h2, upTo_len, upTo_len], fun j cs w' hc hw' => ?_⟩
  by_cases hj : j = k
  · subst hj
    rw [he] at hc
    cases hc
    rw [upTo_lt (Nat.lt_succ_self _), hL] at hw'
    cases hw'
    exact ou
  · have hw2 : (upTo f k l)[j]? = some w' := by
      rw [← hw']
      by_cases hlt : j < k
      · rw [upTo_lt hlt, upTo_lt (by omega)]
      · rw [upTo_ge (by omega), upTo_ge (by omega)]
    exact ((h3 j cs w' hc hw2).keep x (fun e => hj (by cases e; rfl)) (fun e => by cases e) (by show (3 : Nat) ≠ 9; decide)).keep y (fun e => by cases e) (fun e => hj (by cases e; rfl)) (by show (4 : Nat) ≠ 9; decide)
end
end Go.Proofs.Ytdcegklfbhfddaa
