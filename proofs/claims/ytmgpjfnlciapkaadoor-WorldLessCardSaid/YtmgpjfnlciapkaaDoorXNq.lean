/- Two rows of windows as one: merged, joined. In plain words. No condition, no program. -/
import Derived.Test.YtmgpjfnlciapkaaDoorYM
import Derived.Test.YtmgpjfnlciapkaaDoorXNb
namespace Go.CM.Wins
set_option linter.unusedVariables false
set_option linter.unusedSimpArgs false

/-- By their begins. -/
def Asc : Int → List (Int × Int) → Prop
  | _, [] => True
  | b, w :: r => b ≤ w.1 ∧ w.1 < w.2 ∧ w.2 ≤ 2199023255552 ∧ Asc w.1 r
theorem Asc.low : ∀ {l : List (Int × Int)} {b : Int}, Asc b l → ∀ w ∈ l, b ≤ w.1 ∧ w.1 < w.2 ∧ w.2 ≤ 2199023255552
  | [], _, _, w, h => by cases h
  | v :: r, b, g, w, h => by
    obtain ⟨g1, g2, g3, g4⟩ := g
    rcases List.mem_cons.1 h with rfl | h
    · exact ⟨g1, g2, g3⟩
    · have := g4.low w h
      omega
theorem Asc.mono : ∀ {l : List (Int × Int)} {a b : Int}, Asc b l → a ≤ b → Asc a l
  | [], _, _, _, _ => trivial
  | v :: r, a, b, g, h => ⟨by have := g.1; omega, g.2⟩
theorem Good.asc : ∀ {l : List (Int × Int)} {b : Int}, Good l b → Asc b l
  | [], _, _ => trivial
  | v :: r, b, g => ⟨by have := g.1; omega, g.2.1, g.2.2.1, (Good.asc g.2.2.2).mono (by have := g.2.1; omega)⟩

def mergeF : Nat → List (Int × Int) → List (Int × Int) → List (Int × Int)
  | 0, a, b => a ++ b
  | n + 1, a, b => match a, b with
    | [], b => b
    | a, [] => a
    | x :: a, y :: b => if x.1 ≤ y.1 then x :: mergeF n a (y :: b) else y :: mergeF n (x :: a) b
/-- Merged by their begins, a's first. -/
def merge (a b : List (Int × Int)) : List (Int × Int) := mergeF (a.length + b.length) a b
theorem mergeF_cons (n : Nat) (x y : Int × Int) (a b : List (Int × Int)) : mergeF (n + 1) (x :: a) (y :: b) = if x.1 ≤ y.1 then x :: mergeF n a (y :: b) else y :: mergeF n (x :: a) b := rfl
theorem mem_mergeF : ∀ {n : Nat} {a b : List (Int × Int)} {w : Int × Int}, w ∈ mergeF n a b ↔ w ∈ a ∨ w ∈ b
  | 0, a, b, w => by simp [mergeF]
  | n + 1, [], b, w => by simp [mergeF]
  | n + 1, x :: a, [], w => by simp [mergeF]
  | n + 1, x :: a, y :: b, w => by
    rw [mergeF_cons]
    split
    · rw [List.mem_cons, mem_mergeF]
      simp only [List.mem_cons]
      exact Iff.intro (fun h => by rcases h with h | h | h; exact .inl (.inl h); exact .inl (.inr h); exact .inr h) (fun h => by rcases h with (h | h) | h; exact .inl h; exact .inr (.inl h); exact .inr (.inr h))
    · rw [List.mem_cons, mem_mergeF]
      simp only [List.mem_cons]
      exact Iff.intro (fun h => by rcases h with h | h | h; exact .inr (.inl h); exact .inl h; exact .inr (.inr h)) (fun h => by rcases h with h | h | h; exact .inr (.inl h); exact .inl h; exact .inr (.inr h))
theorem asc_mergeF : ∀ {n : Nat} {a b : List (Int × Int)} {c : Int}, a.length + b.length ≤ n → Asc c a → Asc c b → Asc c (mergeF n a b)
  | 0, [], [], c, _, _, _ => trivial
  | 0, x :: a, b, c, h, _, _ => by simp at h
  | 0, [], y :: b, c, h, _, _ => by simp at h
  | n + 1, [], b, c, _, _, hb => hb
  | n + 1, x :: a, [], c, _, ha, _ => ha
  | n + 1, x :: a, y :: b, c, h, ha, hb => by
    rw [mergeF_cons]
    simp only [List.length_cons] at h
    split
    · rename_i hxy
      exact ⟨ha.1, ha.2.1, ha.2.2.1, asc_mergeF (by simp only [List.length_cons]; omega) ha.2.2.2 ⟨hxy, hb.2⟩⟩
    · rename_i hxy
      exact ⟨hb.1, hb.2.1, hb.2.2.1, asc_mergeF (by simp only [List.length_cons]; omega) ⟨by omega, ha.2⟩ hb.2.2.2⟩

/-- What overlaps or touches, put together: the pending one, the rest. -/
def joinP : Int × Int → List (Int × Int) → List (Int × Int)
  | p, [] => [p]
  | p, w :: r => if w.1 ≤ p.2 then joinP (p.1, if w.2 ≤ p.2 then p.2 else w.2) r else p :: joinP w r
def join : List (Int × Int) → List (Int × Int)
  | [] => []
  | w :: r => joinP w r
theorem in_joinP : ∀ {r : List (Int × Int)} {p : Int × Int} {y : Int}, Asc p.1 r → (In y (joinP p r) ↔ (p.1 ≤ y ∧ y < p.2) ∨ In y r)
  | [], p, y, _ => by
    constructor
    · rintro ⟨w, hw, h⟩
      have : w = p := by simpa [joinP] using hw
      subst this
      exact .inl h
    · rintro (h | ⟨w, hw, _⟩)
      · exact ⟨p, by simp [joinP], h⟩
      · cases hw
  | w :: r, p, y, a => by
    obtain ⟨a1, a2, a3, a4⟩ := a
    have hin : In y (w :: r) ↔ (w.1 ≤ y ∧ y < w.2) ∨ In y r := by
      constructor
      · rintro ⟨u, hu, h⟩
        rcases List.mem_cons.1 hu with rfl | hu
        · exact .inl h
        · exact .inr ⟨u, hu, h⟩
      · rintro (h | ⟨u, hu, h⟩)
        · exact ⟨w, by simp, h⟩
        · exact ⟨u, List.mem_cons_of_mem _ hu, h⟩
    rw [hin]
    unfold joinP
    split
    · rename_i hle
      have ih := in_joinP (p := (p.1, if w.2 ≤ p.2 then p.2 else w.2)) (y := y) (a4.mono a1)
      rw [ih]
      simp only
      constructor
      · rintro (⟨h1, h2⟩ | h)
        · by_cases c : w.2 ≤ p.2
          · rw [if_pos c] at h2
            exact .inl ⟨h1, h2⟩
          · rw [if_neg c] at h2
            by_cases d : y < p.2
            · exact .inl ⟨h1, d⟩
            · exact .inr (.inl ⟨by omega, h2⟩)
        · exact .inr (.inr h)
      · rintro (⟨h1, h2⟩ | ⟨h1, h2⟩ | h)
        · exact .inl ⟨h1, by split <;> omega⟩
        · exact .inl ⟨by omega, by split <;> omega⟩
        · exact .inr h
    · have ih := in_joinP (p := w) (y := y) a4
      constructor
      · rintro ⟨u, hu, h⟩
        rcases List.mem_cons.1 hu with rfl | hu
        · exact .inl h
        · exact .inr (ih.1 ⟨u, hu, h⟩)
      · rintro (h | h)
        · exact ⟨p, by simp, h⟩
        · obtain ⟨u, hu, h⟩ := ih.2 h
          exact ⟨u, List.mem_cons_of_mem _ hu, h⟩
theorem good_joinP : ∀ {r : List (Int × Int)} {p : Int × Int} {b : Int}, b < p.1 → p.1 < p.2 → p.2 ≤ 2199023255552 → Asc p.1 r → Good (joinP p r) b
  | [], p, b, h1, h2, h3, _ => ⟨h1, h2, h3, trivial⟩
  | w :: r, p, b, h1, h2, h3, a => by
    obtain ⟨a1, a2, a3, a4⟩ := a
    unfold joinP
    split
    · refine good_joinP h1 ?_ ?_ (a4.mono a1)
      · show p.1 < (if w.2 ≤ p.2 then p.2 else w.2)
        split <;> omega
      · show (if w.2 ≤ p.2 then p.2 else w.2) ≤ 2199023255552
        split <;> omega
    · exact ⟨h1, h2, h3, good_joinP (by omega) a2 a3 a4⟩
def union (a b : List (Int × Int)) : List (Int × Int) := join (merge a b)
theorem in_union {a b : List (Int × Int)} {y : Int} (ha : Good a (-1)) (hb : Good b (-1)) : In y (union a b) ↔ In y a ∨ In y b := by
  have asc := asc_mergeF (n := a.length + b.length) (Nat.le_refl _) ha.asc hb.asc
  have hm : In y (merge a b) ↔ In y a ∨ In y b := by
    constructor
    · rintro ⟨w, hw, h⟩
      rcases mem_mergeF.1 hw with hw | hw
      · exact .inl ⟨w, hw, h⟩
      · exact .inr ⟨w, hw, h⟩
    · rintro (⟨w, hw, h⟩ | ⟨w, hw, h⟩)
      · exact ⟨w, mem_mergeF.2 (.inl hw), h⟩
      · exact ⟨w, mem_mergeF.2 (.inr hw), h⟩
  rw [← hm]
  unfold union
  have e : merge a b = mergeF (a.length + b.length) a b := rfl
  rw [← e] at asc
  cases hg : merge a b with
  | nil => exact Iff.rfl
  | cons w r =>
    rw [hg] at asc
    show In y (joinP w r) ↔ _
    rw [in_joinP asc.2.2.2]
    constructor
    · rintro (h | ⟨u, hu, h⟩)
      · exact ⟨w, by simp, h⟩
      · exact ⟨u, List.mem_cons_of_mem _ hu, h⟩
    · rintro ⟨u, hu, h⟩
      rcases List.mem_cons.1 hu with rfl | hu
      · exact .inl h
      · exact .inr ⟨u, hu, h⟩
theorem good_union {a b : List (Int × Int)} (ha : Good a (-1)) (hb : Good b (-1)) : Good (union a b) (-1) := by
  have asc := asc_mergeF (n := a.length + b.length) (c := 0) (Nat.le_refl _) ?_ ?_
  · have e : merge a b = mergeF (a.length + b.length) a b := rfl
    rw [← e] at asc
    unfold union
    cases hg : merge a b with
    | nil => trivial
    | cons w r =>
      rw [hg] at asc
      exact good_joinP (by have := asc.1; omega) asc.2.1 asc.2.2.1 asc.2.2.2
  · cases a with
    | nil => trivial
    | cons w r => exact ⟨by have := ha.1; omega, ha.asc.2⟩
  · cases b with
    | nil => trivial
    | cons w r => exact ⟨by have := hb.1; omega, hb.asc.2⟩
/-- So many ticks are free where none of them is in one. -/
theorem free_iff {n y b : Int} {l : List (Int × Int)} (hn : 1 ≤ n) (g : Good l b) : Free n y l ↔ ∀ z, y ≤ z → z < y + n → ¬ In z l := by
  constructor
  · rintro f z h1 h2 ⟨w, hw, h3, h4⟩
    rcases f w hw with h | h <;> omega
  · intro h w hw
    have := g.low w hw
    by_cases c : w.2 ≤ y
    · exact .inl c
    · by_cases d : y + n ≤ w.1
      · exact .inr d
      · exfalso
        by_cases e : w.1 ≤ y
        · exact h y (by omega) (by omega) ⟨w, hw, by omega, by omega⟩
        · exact h w.1 (by omega) (by omega) ⟨w, hw, by omega, by omega⟩
theorem free_union {n y : Int} {a b : List (Int × Int)} (hn : 1 ≤ n) (ha : Good a (-1)) (hb : Good b (-1)) (f : Free n y (union a b)) : Free n y a := by
  rw [free_iff hn (good_union ha hb)] at f
  rw [free_iff hn ha]
  exact fun z h1 h2 hz => f z h1 h2 ((in_union ha hb).2 (.inl hz))
end Go.CM.Wins

namespace Go.CM
set_option linter.unusedVariables false
set_option linter.unusedSimpArgs false
noncomputable section
theorem op_mul {α : Type} {a b : Int} {h : α} (hl : -9223372036854775808 ≤ a * b) (hu : a * b ≤ 9223372036854775807) : some (CV.int .i64 (IntKind.i64.wrap (a * b)), h) = some (CV.int .i64 (a * b), h) := by
  rw [show IntKind.i64.wrap (a * b) = a * b from IntWalk.i64_in _ (by omega)]
def winE (w : Int × Int) : List CV := [.int .i64 w.1, .int .i64 w.2]
instance : Rp (Int × Int) := ⟨2, fun _ cs w => cs = winE w, fun _ h => h, fun h => by rw [h]; rfl⟩
instance : Flat (Int × Int) := ⟨winE, fun _ _ _ => Iff.rfl⟩
end
end Go.CM
namespace Go.Proofs.YtmgpjfnlciapkaaDoor
open Go Go.CM Go.CM.Tt
noncomputable section
set_option maxHeartbeats 8000000

def winAt (t : Times) (k : Nat) : Int × Int := (t.frm + (k : Int) * t.evr, t.frm + (k : Int) * t.evr + t.len)
theorem each_w {H h : Heap} {tm : Tm} {Q : R → Prop} {b3 bt : Nat} {n : Nat} {t : Times} (y : Nat) (I : Nat → Heap → Prop) (L3 : LocE H b3 0 [.int .i64 (n : Int)]) (Lt : LocE H bt 0 t.enc) (hn : n ≤ 256) (b1 : 0 ≤ t.frm ∧ t.frm ≤ 1099511627776) (b2 : 0 ≤ t.evr ∧ t.evr ≤ 1099511627776) (b3' : 0 ≤ t.len ∧ t.len ≤ 1099511627776)
    (h0 : I 0 h) (hX : ∀ k h', I k h' → Ext H h')
    (hy : ∀ k : Nat, k < n → ∀ (h' : Heap) (tm : Tm) (Q : R → Prop), I k h' → (∀ h2, I (k + 1) h2 → Q (.val (.bool true) h2)) → W E1 (.call (.yield y) [.agg (winE (winAt t k))]) tm h' Q)
    (q : ∀ h', I n h' → Q (.val (.tup []) h')) : W E1 (.call (.fn 98 [] [.ptr (some (b3, 0)), .ptr (some (bt, 0))]) [.yield y]) tm h Q := by
  refine W.fn (s := fnOf Tryd.f98) rfl rfl rfl rfl ?_
  have X0 := hX 0 h h0
  repeat (first | (with_reducible first | refine W.seq ?_ | refine W.block ?_ | refine W.region ?_ | refine SeqQ.normal ?_) | refine W.opn (v := .int _ _) rfl rfl rfl ?_ | refine W.nil ?_ | refine W.ld0 (by assumption) (by first | assumption | exact Ext.refl _ | ((repeat (first | assumption | refine Ext.trans ?_ (by assumption))); done)) rfl rfl rfl rfl rfl rfl rfl rfl ?_)
  refine W.loop (σ := Nat) (fun k tm h' => I k h' ∧ tm.look 0 = .yield y ∧ tm.look 1 = .ptr (some (b3, 0)) ∧ tm.look 2 = .ptr (some (bt, 0)) ∧ tm.look 6 = .int .i64 (n : Int) ∧ tm.look 7 = .int .i64 (k : Int) ∧ k ≤ n) (fun k => n - k) ?_ (s := 0)
    ⟨h0, rfl, rfl, rfl, rfl, rfl, Nat.zero_le _⟩
  rintro k tm h' ⟨hI, w0, w1, w2, w6, w7, hk⟩
  obtain ⟨T, rfl⟩ : ∃ T : Tm, tm = (((((T.set 0 (some (.yield y))).set 1 (some (.ptr (some (b3, 0))))).set 2 (some (.ptr (some (bt, 0))))).set 6 (some (.int .i64 (n : Int)))).set 7 (some (.int .i64 (k : Int)))) := ⟨tm, (show tm = (((((tm.set 0 (some (tm.look 0))).set 1 (some (tm.look 1))).set 2 (some (tm.look 2))).set 6 (some (tm.look 6))).set 7 (some (tm.look 7))) by rfl).trans (by rw [w0, w1, w2, w6, w7])⟩
  clear w0 w1 w2 w6 w7
  have X1 := hX k h' hI
  by_cases c1 : k < n
  · have m0 : 0 ≤ (k : Int) * t.evr := Int.mul_nonneg (by omega) b2.1
    have m3 : (k : Int) * t.evr ≤ 256 * 1099511627776 := Int.mul_le_mul (by omega) b2.2 b2.1 (by omega)
    have m1 : -9223372036854775808 ≤ (k : Int) * t.evr := by omega
    have m2 : (k : Int) * t.evr ≤ 9223372036854775807 := by omega
    repeat (first | (with_reducible first | refine W.seq ?_ | refine W.block ?_ | refine W.region ?_ | refine W.skip ?_ | refine SeqQ.normal ?_) | refine W.opn rfl op_lss rfl ?_ | refine W.opn rfl (op_add (by omega) (by omega)) rfl ?_ | refine W.opn rfl (op_mul (by assumption) (by assumption)) rfl ?_ | refine W.opn (v := .int _ _) rfl rfl rfl ?_ | refine W.opn (v := .ptr _) rfl rfl rfl ?_ | refine W.opn (v := .agg _) rfl rfl rfl ?_ | refine W.opn rfl rfl rfl ?_ | refine W.nil ?_ | refine W.ldk (by assumption) (by first | assumption | exact Ext.refl _ | ((repeat (first | assumption | refine Ext.trans ?_ (by assumption))); done)) rfl rfl rfl rfl rfl rfl rfl rfl ?_ | refine W.cond (x := true) rfl (fun _ => ?_) (fun hc => by cases hc) | rw [decide_eq_true (by first | assumption | omega)])
    refine W.call rfl rfl rfl (hy k c1 h' _ _ hI fun h2 hI2 => ?_)
    repeat (first | (with_reducible first | refine W.region ?_ | refine W.skip ?_ | refine SeqQ.normal ?_ | refine BlockQ.normal ?_ | refine CallQ.val ?_) | refine W.opn rfl (op_add (by omega) (by omega)) rfl ?_ | refine W.opn (v := .int _ _) rfl rfl rfl ?_ | refine W.opn (v := .bool _) rfl rfl rfl ?_ | refine W.nil ?_ | refine W.cond (x := false) rfl (fun hc => by cases hc) (fun _ => ?_))
    exact ⟨k + 1, lessN c1, hI2, rfl, rfl, rfl, rfl, rfl, c1⟩
  · repeat (first | (with_reducible first | refine W.seq ?_ | refine W.region ?_ | refine W.exit ?_ | refine SeqQ.normal ?_ | refine SeqQ.exit ?_ | refine BlockQ.exit ?_ | refine LoopQ.exit ?_) | refine W.opn rfl op_lss rfl ?_ | refine W.nil ?_ | refine W.cond (x := false) rfl (fun hc => by cases hc) (fun _ => ?_) | rw [decide_eq_false (by first | assumption | omega)])
    rw [show k = n by omega] at hI
    exact q _ hI
end
end Go.Proofs.YtmgpjfnlciapkaaDoor

noncomputable section
namespace Go.CM
set_option linter.unusedVariables false
set_option linter.unusedSimpArgs false
section
variable {E : Env} {tm : Tm} {h : Heap} {Q : R → Prop}
theorem W.rangeX {f : Operand} {ps : Array Nat} {asg body : Code} {id : Nat} {first caps : List CV} (hf : cvOf E.globs tm f = .fn id first caps)
    (w : ∀ B : Blk, B = .loop tm ps.toList asg body 0 none → W E (.call (.fn id first caps) [.yield h.next]) .leaf (h.new B) (RangeQ h.next tm Q)) : W E (.code (.rangeFunc f ps asg body)) tm h Q := W.range hf (w _ rfl)
/-- A round, the memory told anew. -/
theorem W.yieldX {i : Nat} {args : List CV} {tx : Tm} {ps : List Nat} {asg body : Code} {st : Nat} {pend : Option Code} {t1 : Tm} (hg : h.get i = some (.loop tx ps asg body st pend)) (hs : setPs ps args tx = some t1)
    (w : W E (.code asg) t1 h (CutQ fun t' h' => ∃ tx' ps' asg' bd' pend', h'.get i = some (.loop tx' ps' asg' bd' 0 pend') ∧ ∀ G, G.next = h'.next → G.get i = some (.loop tx' ps' asg' bd' 1 pend') → (∀ k, k ≠ i → G.get k = h'.get k) → W E (.code body) t' G (RoundQ i Q))) : W E (.call (.yield i) args) tm h Q := by
  refine W.yield hg hs (w.mono fun r q => ?_)
  cases r with
  | code e t' h' =>
    cases e with
    | normal =>
      obtain ⟨tx', ps', asg', bd', pend', g, k⟩ := q
      exact ⟨tx', ps', asg', bd', pend', g, k _ rfl (by rw [Heap.get_put]; simp) fun j hj => by rw [Heap.get_put, if_neg (Ne.symm hj)]⟩
    | _ => exact q.elim
  | _ => exact q.elim
/-- A round's end, the memory told anew. -/
theorem RoundQ.norm {i : Nat} {tmx : Tm} {psx : List Nat} {asg body : Code} {st : Nat} {pend : Option Code} (hg : h.get i = some (.loop tmx psx asg body st pend)) (q : ∀ G, G.next = h.next → G.get i = some (.loop tmx psx asg body 0 none) → (∀ k, k ≠ i → G.get k = h.get k) → Q (.val (.bool true) G)) : RoundQ i Q (.code .normal tm h) :=
  RoundQ.normal hg (q _ rfl (by rw [Heap.get_put]; simp) fun j hj => by rw [Heap.get_put, if_neg (Ne.symm hj)])
end
end Go.CM

noncomputable section
namespace Go.CM
set_option linter.unusedVariables false
set_option linter.unusedSimpArgs false

abbrev Tag := Nat × Nat
/-- A row of one's own with a tag; an empty one may lie in a block that nobody writes. -/
def OwnT (h : Heap) (own : Nat → Tag) (lo z : Nat) (t : Tag) (v : CV) (l : List (List CV)) : Prop :=
  (l = [] ∧ (v = .slice none 0 0 0 ∨ ∃ i cs ro, v = .slice (some (i, 0)) 0 0 0 ∧ lo ≤ i ∧ i < h.next ∧ own i = (9, 0) ∧ h.get i = some (.cells cs ro))) ∨
  ∃ i, v = .slice (some (i, 0)) l.length l.length z ∧ lo ≤ i ∧ i < h.next ∧ own i = t ∧ h.get i = some (.cells l.flatten false) ∧ (∀ e ∈ l, e.length = z) ∧ l ≠ []
/-- Nothing is turned but what has this tag. -/
structure Only (h h' : Heap) (own : Nat → Tag) (lo : Nat) (t : Tag) : Prop where
  next : h.next ≤ h'.next
  old : ∀ k, k < h.next → (k < lo ∨ own k ≠ t) → h'.get k = h.get k
  fr : Fresh h → Fresh h'
def updT (own : Nat → Tag) (n : Nat) (t : Tag) : Nat → Tag := fun k => if k = n then t else own k
theorem updT_same {own : Nat → Tag} {n : Nat} {t : Tag} : updT own n t n = t := by unfold updT; rw [if_pos rfl]
theorem updT_old {own : Nat → Tag} {n k : Nat} {t : Tag} (h : k < n) : updT own n t k = own k := by unfold updT; rw [if_neg (by omega)]
/-- Tags of blocks that are there are as they were. -/
def Tags (n : Nat) (own own' : Nat → Tag) : Prop := ∀ k, k < n → own' k = own k
theorem Tags.refl {n : Nat} {own : Nat → Tag} : Tags n own own := fun _ _ => rfl
theorem Tags.trans {n m : Nat} {a b c : Nat → Tag} (x : Tags n a b) (y : Tags m b c) (h : n ≤ m) : Tags n a c := fun k hk => (y k (Nat.lt_of_lt_of_le hk h)).trans (x k hk)
theorem Tags.upd {n m : Nat} {a b : Nat → Tag} {t : Tag} (x : Tags n a b) (h : n ≤ m) : Tags n a (updT b m t) := fun k hk => (updT_old (Nat.lt_of_lt_of_le hk h)).trans (x k hk)

section
variable {h h' : Heap} {own own' : Nat → Tag} {lo z : Nat} {t t' : Tag} {v : CV} {l : List (List CV)}
theorem Only.refl : Only h h own lo t := ⟨Nat.le_refl _, fun _ _ _ => rfl, id⟩
theorem Only.trans {a b c : Heap} (x : Only a b own lo t) (y : Only b c own lo t) : Only a c own lo t := ⟨Nat.le_trans x.next y.next, fun k hk hc => (y.old k (Nat.lt_of_lt_of_le hk x.next) hc).trans (x.old k hk hc), fun f => y.fr (x.fr f)⟩
theorem Ext.only (x : Ext h h') : Only h h' own lo t := ⟨x.next, fun k hk _ => x.old k hk, x.fr⟩
/-- Of a memory's elder part nothing is turned. -/
theorem Only.ext {h0 : Heap} (x : Ext h0 h) (y : Only h h' own lo t) (hl : h0.next ≤ lo) : Ext h0 h' := ⟨Nat.le_trans x.next y.next, fun k hk => (y.old k (Nat.lt_of_lt_of_le hk x.next) (.inl (by omega))).trans (x.old k hk), fun f => y.fr (x.fr f)⟩
theorem OwnT.keep (o : OwnT h own lo z t v l) (y : Only h h' own lo t') (hne : t ≠ t') (h9 : t' ≠ (9, 0)) : OwnT h' own lo z t v l := by
  rcases o with ⟨rfl, rfl | ⟨i, cs, ro, rfl, h1, h2, h3, h4⟩⟩ | ⟨i, rfl, h1, h2, h3, h4, h5, h6⟩
  · exact .inl ⟨rfl, .inl rfl⟩
  · exact .inl ⟨rfl, .inr ⟨i, cs, ro, rfl, h1, Nat.lt_of_lt_of_le h2 y.next, h3, (y.old i h2 (.inr (by rw [h3]; exact Ne.symm h9))).trans h4⟩⟩
  · exact .inr ⟨i, rfl, h1, Nat.lt_of_lt_of_le h2 y.next, h3, (y.old i h2 (.inr (by rw [h3]; exact hne))).trans h4, h5, h6⟩
theorem OwnT.ext (o : OwnT h own lo z t v l) (y : Ext h h') : OwnT h' own lo z t v l := by
  rcases o with ⟨rfl, rfl | ⟨i, cs, ro, rfl, h1, h2, h3, h4⟩⟩ | ⟨i, rfl, h1, h2, h3, h4, h5, h6⟩
  · exact .inl ⟨rfl, .inl rfl⟩
  · exact .inl ⟨rfl, .inr ⟨i, cs, ro, rfl, h1, Nat.lt_of_lt_of_le h2 y.next, h3, (y.old i h2).trans h4⟩⟩
  · exact .inr ⟨i, rfl, h1, Nat.lt_of_lt_of_le h2 y.next, h3, (y.old i h2).trans h4, h5, h6⟩
theorem OwnT.tags (o : OwnT h own lo z t v l) (y : Tags h.next own own') : OwnT h own' lo z t v l := by
  rcases o with ⟨rfl, rfl | ⟨i, cs, ro, rfl, h1, h2, h3, h4⟩⟩ | ⟨i, rfl, h1, h2, h3, h4, h5, h6⟩
  · exact .inl ⟨rfl, .inl rfl⟩
  · exact .inl ⟨rfl, .inr ⟨i, cs, ro, rfl, h1, h2, (y i h2).trans h3, h4⟩⟩
  · exact .inr ⟨i, rfl, h1, h2, (y i h2).trans h3, h4, h5, h6⟩
theorem OwnT.sl (o : OwnT h own lo z t v l) : SlG h z v l := by
  rcases o with ⟨rfl, rfl | ⟨i, cs, ro, rfl, h1, h2, h3, h4⟩⟩ | ⟨i, rfl, h1, h2, h3, h4, h5, h6⟩
  · exact .inl ⟨rfl, rfl⟩
  · exact .inr (.inr ⟨i, 0, 0, 0, cs, ro, rfl, h2, h4, (fun j e he => by simp at he), Nat.zero_le _, .inl rfl⟩)
  · exact .inr (.inr ⟨i, 0, l.length, z, _, false, rfl, h2, h4, (fun j e he => ⟨h5 e (List.mem_of_getElem? he), flat_cut h5 he⟩), Nat.le_refl _, .inr rfl⟩)
theorem OwnT.ownG (o : OwnT h own lo z t v l) : OwnG h lo z v l := by
  rcases o with ⟨rfl, rfl | ⟨i, cs, ro, rfl, h1, h2, h3, h4⟩⟩ | ⟨i, rfl, h1, h2, h3, h4, h5, h6⟩
  · exact .inl ⟨.inl rfl, rfl⟩
  · exact .inl ⟨.inr ⟨i, rfl⟩, rfl⟩
  · exact .inr ⟨i, rfl, h1, h2, h4, h5, h6⟩
/-- Where there is an element, there is a block with the tag. -/
theorem OwnT.at (o : OwnT h own lo z t v l) {j : Nat} (hj : j < l.length) : ∃ i, v = .slice (some (i, 0)) l.length l.length z ∧ lo ≤ i ∧ i < h.next ∧ own i = t ∧ h.get i = some (.cells l.flatten false) ∧ (∀ e ∈ l, e.length = z) := by
  rcases o with ⟨rfl, _⟩ | ⟨i, h1, h2, h3, h4, h5, h6, _⟩
  · simp at hj
  · exact ⟨i, h1, h2, h3, h4, h5, h6⟩
theorem OwnT.lenOf (o : OwnT h own lo z t v l) : LenOf v l.length := o.sl.lenOf
theorem OwnT.form (o : OwnT h own lo z t v l) : ∃ p n c x, v = .slice p n c x := by
  rcases o with ⟨_, rfl | ⟨i, _, _, rfl, _⟩⟩ | ⟨i, rfl, _⟩
  · exact ⟨_, _, _, _, rfl⟩
  · exact ⟨_, _, _, _, rfl⟩
  · exact ⟨_, _, _, _, rfl⟩
theorem OwnT.low {lo' : Nat} (o : OwnT h own lo z t v l) (hl : lo' ≤ lo) : OwnT h own lo' z t v l := by
  rcases o with ⟨rfl, rfl | ⟨i, cs, ro, rfl, h1, h2, h3, h4⟩⟩ | ⟨i, rfl, h1, h2, h3, h4, h5, h6⟩
  · exact .inl ⟨rfl, .inl rfl⟩
  · exact .inl ⟨rfl, .inr ⟨i, cs, ro, rfl, by omega, h2, h3, h4⟩⟩
  · exact .inr ⟨i, rfl, by omega, h2, h3, h4, h5, h6⟩
theorem Same.only (s : Same h h') : Only h h' own lo t := s.ext.only
theorem OwnT.nil : OwnT h own lo z t (.slice none 0 0 0) [] := .inl ⟨rfl, .inl rfl⟩
theorem Only.tags (y : Only h h' own lo t) (x : Tags h.next own own') : Only h h' own' lo t := ⟨y.next, fun k hk hc => y.old k hk (by rw [x k hk] at hc; exact hc), y.fr⟩

theorem flat_set {f : Nat} {x : CV} : ∀ {l : List (List CV)} {k : Nat} {e : List CV}, (∀ e ∈ l, e.length = z) → f < z → l[k]? = some e → l.flatten.set (k * z + f) x = (l.set k (e.set f x)).flatten
  | [], k, e, _, _, h => by simp at h
  | a :: l, 0, e, hz, hf, h => by
    simp at h
    subst h
    have := hz a (by simp)
    rw [Nat.zero_mul, Nat.zero_add, List.flatten_cons, List.set_append_left _ _ (by omega)]
    rfl
  | a :: l, k + 1, e, hz, hf, h => by
    have ih := flat_set (l := l) (k := k) (e := e) (x := x) (fun x hx => hz x (List.mem_cons_of_mem _ hx)) hf (by simpa using h)
    have := hz a (by simp)
    rw [Nat.succ_mul, List.flatten_cons, List.set_append_right _ _ (by omega), show k * z + z + f - a.length = k * z + f by omega, ih]
    rfl
theorem setAt_one {cs : List CV} {x : CV} {o : Nat} (h : o < cs.length) : setAt cs [x] o = some (cs.set o x) := by
  rw [setAt_eq, if_pos (by simp only [List.length_cons, List.length_nil]; omega)]
  congr 1
  rw [List.set_eq_take_append_cons_drop, if_pos h]
  simp
theorem flat_len2 {k : Nat} {e : List CV} {f : Nat} (hz : ∀ e ∈ l, e.length = z) (hf : f < z) (hk : l[k]? = some e) : k * z + f < l.flatten.length := by
  rw [flat_len hz]
  have hk := (List.getElem?_eq_some_iff.1 hk).1
  have : (k + 1) * z ≤ l.length * z := Nat.mul_le_mul_right _ hk
  rw [Nat.succ_mul] at this
  omega
/-- One cell of an element is turned. -/
theorem flat_setAt {k : Nat} {e : List CV} {f : Nat} {x : CV} (hz : ∀ e ∈ l, e.length = z) (hf : f < z) (hk : l[k]? = some e) : setAt l.flatten [x] (0 + k * z + f) = some (l.set k (e.set f x)).flatten := by
  rw [Nat.zero_add, setAt_one (flat_len2 hz hf hk), flat_set hz hf hk]
theorem flat_get {k : Nat} {e : List CV} {f : Nat} {x : CV} (hz : ∀ e ∈ l, e.length = z) (hk : l[k]? = some e) (hx : e[f]? = some x) : nth l.flatten (0 + k * z + f) = some x := cut_nth (flat_cut hz hk) hx
/-- What a memory says that differs in one block of the tag. -/
theorem only_of {i : Nat} (hi : own i = t) (hlo : lo ≤ i) (hn : h'.next = h.next) (hi2 : i < h.next) (hk : ∀ k, k ≠ i → h'.get k = h.get k) : Only h h' own lo t := ⟨by omega, fun k _ hc => hk k (by
  rintro rfl
  rcases hc with hc | hc
  · omega
  · exact hc hi), fun f k hk' => by
    rw [hn] at hk'
    exact (hk k (by omega)).trans (f k hk')⟩
end

section
variable {E : Env} {tm : Tm} {h : Heap} {own : Nat → Tag} {Q : R → Prop} {all rest : List Oper} {o : Oper}
/-- A row behind nothing: a copy. -/
theorem W.cpT {c : Call} {t t2 e : TypeId} {ts es t2s : TyS} {v : CV} {z lo i0 : Nat} {cs0 : List CV} {ro0 : Bool} (tag : Tag) {l : List (List CV)} (h1 : lo ≤ i0) (h2 : i0 < h.next) (h3 : own i0 = (9, 0)) (h4 : h.get i0 = some (.cells cs0 ro0)) (sl : SlG h z v l) (hlo : lo ≤ h.next)
    (hgd : guardOn all tm o = some true) (hop : o.op = .call c) (hb : isBuiltin c.callee = some .append) (hty : c.argTypes.toList = [t, t2]) (ha : c.args.toList.map (cvOf E.globs tm) = [.slice (some (i0, 0)) 0 0 0, v])
    (hts : E.ty t = some ts) (hk : ts.kind = .slice e) (hes : E.ty e = some es) (hz : es.size = z) (hz0 : (Nat.beq es.size 0 || Nat.beq es.bytes 0) = false) (ht2 : E.ty t2 = some t2s) (hk2 : t2s.kind = .slice e) (hm : l.length * es.bytes ≤ 70368744177664)
    (w : ∀ v' h', Ext h h' → OwnT h' (updT own h.next tag) lo z tag v' l → W E (.ops all rest) (putTmp tm o.dst v') h' Q) : W E (.ops all (o :: rest)) tm h Q := by
  refine W.cpG (.inr ⟨i0, rfl⟩) sl hlo hgd hop hb hty ha hts hk hes hz hz0 ht2 hk2 hm fun v' h' x g he hn => w v' h' x ?_
  by_cases hl : l = []
  · obtain ⟨rfl, rfl⟩ := he hl
    exact .inl ⟨hl, .inr ⟨i0, cs0, ro0, rfl, h1, h2, (updT_old h2).trans h3, h4⟩⟩
  · obtain ⟨rfl, rfl⟩ := hn hl
    have hz5 : ∀ e ∈ l, e.length = z := by
      rcases g with ⟨_, rfl⟩ | ⟨i, _, _, _, _, h5, _⟩
      · exact absurd rfl hl
      · exact h5
    exact .inr ⟨h.next, rfl, hlo, Nat.lt_succ_self _, updT_same, new_same _ _, hz5, hl⟩
/-- One element more behind a row of one's own. -/
theorem W.apT {c : Call} {t t2 e : TypeId} {ts es t2s : TyS} {s : CV} {z lo j cc xx : Nat} {ro : Bool} {tag : Tag} {l : List (List CV)} {el : List CV} (so : OwnT h own lo z tag s l) (h9 : tag ≠ (9, 0)) (hlo : lo ≤ h.next) (hj : h.get j = some (.cells el ro)) (hel : el.length = z)
    (hgd : guardOn all tm o = some true) (hop : o.op = .call c) (hb : isBuiltin c.callee = some .append) (hty : c.argTypes.toList = [t, t2]) (ha : c.args.toList.map (cvOf E.globs tm) = [s, .slice (some (j, 0)) 1 cc xx])
    (hts : E.ty t = some ts) (hk : ts.kind = .slice e) (hes : E.ty e = some es) (hz : es.size = z) (hz0 : (Nat.beq es.size 0 || Nat.beq es.bytes 0) = false) (ht2 : E.ty t2 = some t2s) (hk2 : t2s.kind = .slice e) (hm : (l.length + 1) * es.bytes ≤ 70368744177664)
    (w : ∀ v' h', h'.next = h.next + 1 → Only h h' own lo tag → OwnT h' (updT own h.next tag) lo z tag v' (l ++ [el]) → W E (.ops all rest) (putTmp tm o.dst v') h' Q) : W E (.ops all (o :: rest)) tm h Q := by
  refine W.ap1 so.ownG hlo hj hel hgd hop hb hty ha hts hk hes hz hz0 ht2 hk2 hm fun v' h' hn g hk' hv hg hfr => w v' h' hn ⟨by omega, fun k hk hc => ?_, hfr⟩ ?_
  · refine hk' k hk ?_
    rcases so with ⟨rfl, _⟩ | ⟨i, rfl, g1, g2, g3, g4, _⟩
    · exact .inl rfl
    · refine .inr fun n c x e => ?_
      injection e with e1
      injection e1 with e1
      injection e1 with e1
      subst e1
      rcases hc with hc | hc
      · omega
      · exact hc g3
  · have hz5 : ∀ e ∈ l ++ [el], e.length = z := by
      rcases g with ⟨_, h0⟩ | ⟨i, _, _, _, _, h5, _⟩
      · simp at h0
      · exact h5
    exact .inr ⟨h.next, by rw [hv]; simp, hlo, by omega, updT_same, hg, hz5, by simp⟩
end
end Go.CM
