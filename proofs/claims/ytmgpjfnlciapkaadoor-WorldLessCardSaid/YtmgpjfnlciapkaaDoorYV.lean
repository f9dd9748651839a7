/- Names that come twice; the first thing that has an error: in plain words. No condition, no program. -/
import Derived.Test.YtmgpjfnlciapkaaDoorYA
import Derived.Test.YtmgpjfnlciapkaaDoorXZ
namespace Go.CM.Tt
set_option linter.unusedVariables false
set_option linter.unusedSimpArgs false

/-- Up to there no name was there already. -/
def Clean (seen l : List Str) (n : Nat) : Prop := ∀ m a, m < n → l[m]? = some a → a ∉ seen ++ l.take m
theorem dupIn_no : ∀ {l seen : List Str} {i : Nat}, Clean seen l l.length → dupIn seen l i = none
  | [], _, _, _ => rfl
  | a :: l, seen, i, h => by
    have h0 : a ∉ seen := by simpa using h 0 a (by simp) rfl
    have ih := dupIn_no (l := l) (seen := seen ++ [a]) (i := i + 1) fun m b hm hb => by
      have := h (m + 1) b (by simpa using hm) (by simpa using hb)
      simpa [List.append_assoc] using this
    unfold dupIn
    rw [if_neg h0, ih]
theorem dupIn_some : ∀ {l seen : List Str} {i j : Nat} {a : Str}, Clean seen l j → l[j]? = some a → a ∈ seen ++ l.take j → dupIn seen l i = some (i + j)
  | [], _, _, _, _, _, h, _ => by simp at h
  | b :: l, seen, i, 0, a, _, h, hm => by
    have : b = a := by simpa using h
    unfold dupIn
    rw [if_pos (by rw [this]; simpa using hm)]; rfl
  | b :: l, seen, i, j + 1, a, hc, h, hm => by
    have h0 : b ∉ seen := by simpa using hc 0 b (by omega) rfl
    have ih := dupIn_some (l := l) (seen := seen ++ [b]) (i := i + 1) (j := j) (a := a) (fun m c hm hc' => by
      have := hc (m + 1) c (by omega) (by simpa using hc')
      simpa [List.append_assoc] using this) (by simpa using h) (by simpa [List.append_assoc] using hm)
    unfold dupIn
    rw [if_neg h0, ih]
    congr 1
    omega
theorem dups_no : ∀ {L : List (List Str)} {seen : List Str} {k : Int}, (∀ n l, L[n]? = some l → Clean (seen ++ (L.take n).flatten) l l.length) → dups seen L k = none
  | [], _, _, _ => rfl
  | l :: L, seen, k, h => by
    have h0 := h 0 l rfl
    have ih := dups_no (L := L) (seen := seen ++ l) (k := k + 1) fun n m hm => by
      have := h (n + 1) m (by simpa using hm)
      simpa [List.append_assoc] using this
    unfold dups
    rw [dupIn_no (by simpa using h0)]
    exact ih
theorem dups_some : ∀ {L : List (List Str)} {seen : List Str} {k : Int} {n : Nat} {l : List Str} {j : Nat} {a : Str}, (∀ n' l', n' < n → L[n']? = some l' → Clean (seen ++ (L.take n').flatten) l' l'.length) → L[n]? = some l → Clean (seen ++ (L.take n).flatten) l j → l[j]? = some a → a ∈ (seen ++ (L.take n).flatten) ++ l.take j → dups seen L k = some ⟨6, k + n, j⟩
  | [], _, _, _, _, _, _, _, h, _, _, _ => by simp at h
  | l0 :: L, seen, k, 0, l, j, a, _, h, hc, ha, hm => by
    have : l0 = l := by simpa using h
    subst this
    unfold dups
    rw [dupIn_some (i := 0) (j := j) (by simpa using hc) ha (by simpa using hm)]
    simp
  | l0 :: L, seen, k, n + 1, l, j, a, hp, h, hc, ha, hm => by
    have h0 := hp 0 l0 (by omega) rfl
    have ih := dups_some (L := L) (seen := seen ++ l0) (k := k + 1) (n := n) (l := l) (j := j) (a := a) (fun n' l' hn' hl' => by
      have := hp (n' + 1) l' (by omega) (by simpa using hl')
      simpa [List.append_assoc] using this) (by simpa using h) (by simpa [List.append_assoc] using hc) ha (by simpa [List.append_assoc] using hm)
    unfold dups
    rw [dupIn_no (by simpa using h0)]
    simp only
    rw [ih]
    congr 2
    omega
theorem firstErr_no {α : Type} {f : α → Int} : ∀ {l : List α} {i : Nat}, (∀ a ∈ l, f a = 0) → firstErr f l i = none
  | [], _, _ => rfl
  | a :: l, i, h => by
    unfold firstErr
    rw [if_pos (h a (by simp))]
    exact firstErr_no fun b hb => h b (List.mem_cons_of_mem _ hb)
theorem firstErr_none {α : Type} {f : α → Int} : ∀ {l : List α} {i : Nat}, firstErr f l i = none → ∀ a ∈ l, f a = 0
  | [], _, _, a, h => by cases h
  | b :: l, i, h, a, ha => by
    unfold firstErr at h
    split at h
    · rename_i hb
      rcases List.mem_cons.1 ha with rfl | ha
      · exact hb
      · exact firstErr_none h a ha
    · cases h
theorem firstErr_some {α : Type} {f : α → Int} : ∀ {l : List α} {i j : Nat} {a : α}, (∀ m b, m < j → l[m]? = some b → f b = 0) → l[j]? = some a → f a ≠ 0 → firstErr f l i = some (f a, i + j)
  | [], _, _, _, _, h, _ => by simp at h
  | b :: l, i, 0, a, _, h, hf => by
    have : b = a := by simpa using h
    subst this
    unfold firstErr
    rw [if_neg hf]; rfl
  | b :: l, i, j + 1, a, hc, h, hf => by
    have h0 := hc 0 b (by omega) rfl
    have ih := firstErr_some (l := l) (i := i + 1) (j := j) (a := a) (fun m c hm hc' => hc (m + 1) c (by omega) (by simpa using hc')) (by simpa using h) hf
    unfold firstErr
    rw [if_pos h0, ih]
    congr 2
    omega
end Go.CM.Tt

noncomputable section
namespace Go.CM
set_option linter.unusedVariables false
set_option linter.unusedSimpArgs false
theorem W.ixv {E : Env} {tm : Tm} {h : Heap} {Q : R → Prop} {all rest : List Oper} {o : Oper} {t e : TypeId} {x y : Operand} {cs : List CV} {s es : TyS} {kk : IntKind} {j n : Nat} {m : Int} {v : CV} (hgd : guardOn all tm o = some true) (hop : o.op = .index t x y) (hx : cvOf E.globs tm x = .agg cs) (hy : cvOf E.globs tm y = .int kk m) (hs : E.ty t = some s) (hk : s.kind = .array n e) (hes : E.ty e = some es) (hz : es.size = 1) (hag : es.agg = false) (hn : place m n = some j) (hv : nth cs j = some v)
    (w : W E (.ops all rest) (putTmp tm o.dst v) h Q) : W E (.ops all (o :: rest)) tm h Q := by
  refine W.op hgd (v := v) (h1 := h) ?_ w
  unfold opAny
  rw [hop]
  show oIndex E (E.ty t) (cvOf E.globs tm x) (cvOf E.globs tm y) h = _
  rw [hx, hy, hs]
  unfold oIndex
  have hp : CM.part cs (j * es.size) es.size es.agg = some v := by
    rw [hag, hz, Nat.mul_one]; exact hv
  simp only [hk, hn, hes, hp, withH]


end Go.CM

noncomputable section
namespace Go.CM
set_option linter.unusedVariables false
set_option linter.unusedSimpArgs false
theorem W.ixp {E : Env} {tm : Tm} {h : Heap} {Q : R → Prop} {all rest : List Oper} {o : Oper} {t e : TypeId} {x y : Operand} {s : TyS} {kk : IntKind} {i off j n : Nat} {m : Int} (hgd : guardOn all tm o = some true) (hop : o.op = .indexAddr t x y) (hx : cvOf E.globs tm x = .ptr (some (i, off))) (hy : cvOf E.globs tm y = .int kk m) (hs : E.ty t = some s) (hk : s.kind = .array n e) (hz : sizeOf? E e = some 1) (hn : place m n = some j)
    (w : W E (.ops all rest) (putTmp tm o.dst (.ptr (some (i, off + j)))) h Q) : W E (.ops all (o :: rest)) tm h Q := by
  refine W.op hgd (v := .ptr (some (i, off + j))) (h1 := h) ?_ w
  unfold opAny
  rw [hop]
  show oIndexAddr E (E.ty t) (cvOf E.globs tm x) (cvOf E.globs tm y) h = _
  rw [hx, hy, hs]
  unfold oIndexAddr
  simp only [hk, hz, hn, addrAt, Nat.mul_one]
end Go.CM

namespace Go.CM.Tt
set_option linter.unusedVariables false
set_option linter.unusedSimpArgs false
theorem firstErr_map {α : Type} (f : α → Int) : ∀ (l : List α) (i : Nat), firstErr f l i = firstErr id (l.map f) i
  | [], _ => rfl
  | a :: l, i => by
    rw [List.map_cons]
    unfold firstErr
    rw [firstErr_map f l (i + 1)]
    rfl
theorem len_le_flatten {α : Type} : ∀ {L : List (List α)} {l : List α}, l ∈ L → l.length ≤ L.flatten.length
  | [], _, h => by cases h
  | a :: L, l, h => by
    rw [List.flatten_cons, List.length_append]
    rcases List.mem_cons.1 h with rfl | h
    · omega
    · have := len_le_flatten h
      omega
/-- The errors of each kind's things. -/
noncomputable def WorldD.errs (w : WorldD) : List (List Int) := [[], w.names.stops.map fun _ => 0, w.paths.map PathW.err, w.doors.map (DoorW.err w.hz), w.routes.map RouteW.err, w.trips.map TripW.err, w.hazards.map (HazW.err w.hz)]
theorem wrong_err {w : WorldD} (hd : dups [] w.names.lists 0 = none) {k j : Nat} {l : List Int} {e : Int} (hp : ∀ n l', n < k → w.errs[n]? = some l' → ∀ x ∈ l', x = 0) (hl : w.errs[k]? = some l) (hj : ∀ m b, m < j → l[m]? = some b → b = 0) (he : l[j]? = some e) (h0 : e ≠ 0) : w.wrong = ⟨e, k, j⟩ := by
  have hs : firstErr id l 0 = some (e, j) := by
    have := firstErr_some (f := id) (i := 0) hj he h0
    simpa using this
  have no : ∀ n l', n < k → w.errs[n]? = some l' → firstErr id l' 0 = none := fun n l' hn hl' => firstErr_no (hp n l' hn hl')
  unfold WorldD.wrong
  rw [hd, firstErr_map PathW.err, firstErr_map (DoorW.err w.hz), firstErr_map RouteW.err, firstErr_map TripW.err, firstErr_map (HazW.err w.hz)]
  have hk : k < 7 := (List.getElem?_eq_some_iff.1 hl).1
  unfold WorldD.errs at hl no
  rcases k with _ | _ | _ | _ | _ | _ | _ | k
  · cases hl; simp at he
  · cases hl
    rw [List.getElem?_map] at he
    cases hx : w.names.stops[j]? with
    | none => rw [hx] at he; cases he
    | some x => rw [hx] at he; exact absurd (Option.some.inj he).symm h0
  · cases hl
    rw [hs]; rfl
  · have n2 := no 2 _ (by omega) rfl
    cases hl
    rw [n2, hs]; rfl
  · have n2 := no 2 _ (by omega) rfl
    have n3 := no 3 _ (by omega) rfl
    cases hl
    rw [n2, n3, hs]; rfl
  · have n2 := no 2 _ (by omega) rfl
    have n3 := no 3 _ (by omega) rfl
    have n4 := no 4 _ (by omega) rfl
    cases hl
    rw [n2, n3, n4, hs]; rfl
  · have n2 := no 2 _ (by omega) rfl
    have n3 := no 3 _ (by omega) rfl
    have n4 := no 4 _ (by omega) rfl
    have n5 := no 5 _ (by omega) rfl
    cases hl
    rw [n2, n3, n4, n5, hs]; rfl
  · omega
theorem wrong_none {w : WorldD} (hd : dups [] w.names.lists 0 = none) (hp : ∀ (n : Nat) (l' : List Int), w.errs[n]? = some l' → ∀ x ∈ l', x = 0) : w.wrong = Wrong0 := by
  have no : ∀ (n : Nat) (l' : List Int), w.errs[n]? = some l' → firstErr id l' 0 = none := fun n l' hl' => firstErr_no (hp n l' hl')
  unfold WorldD.wrong
  rw [hd, firstErr_map PathW.err, firstErr_map (DoorW.err w.hz), firstErr_map RouteW.err, firstErr_map TripW.err, firstErr_map (HazW.err w.hz)]
  rw [no 2 _ rfl, no 3 _ rfl, no 4 _ rfl, no 5 _ rfl, no 6 _ rfl]
  rfl
end Go.CM.Tt
