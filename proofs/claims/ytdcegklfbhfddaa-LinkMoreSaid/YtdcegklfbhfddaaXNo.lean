/- Rows of one's own: copied, grown by one. No condition, no program. -/
import Derived.Test.YtdcegklfbhfddaaXNb
import Derived.Test.YtdcegklfbhfddaaXNa
noncomputable section
namespace Go.CM
set_option linter.unusedVariables false
set_option linter.unusedSimpArgs false

theorem cut_join {cs e f : List CV} {o z m : Nat} (h1 : cut cs o z = some e) (h2 : cut cs (o + z) m = some f) : cut cs o (z + m) = some (e ++ f) := by
  rw [cut_eq] at h1 h2 ⊢
  split at h1
  · rename_i l1
    cases h1
    split at h2
    · rename_i l2
      cases h2
      rw [if_pos (by omega)]
      congr 1
      rw [List.take_add, List.drop_drop]
    · cases h2
  · cases h1
theorem cut_all {cs : List CV} {z : Nat} : ∀ {l : List (List CV)} {o : Nat}, l ≠ [] → (∀ j e, l[j]? = some e → e.length = z ∧ cut cs (o + j * z) z = some e) → cut cs o (l.length * z) = some l.flatten
  | [], _, h, _ => absurd rfl h
  | [e], o, _, h => by
    have := (h 0 e rfl).2
    rw [Nat.zero_mul, Nat.add_zero] at this
    simpa using this
  | e :: f :: l, o, _, h => by
    have h0 := (h 0 e rfl).2
    rw [Nat.zero_mul, Nat.add_zero] at h0
    have ih := cut_all (cs := cs) (z := z) (l := f :: l) (o := o + z) (by simp) fun j g hg => by
      have := h (j + 1) g (by simpa using hg)
      refine ⟨this.1, ?_⟩
      rw [← this.2]
      congr 1
      rw [Nat.succ_mul]; omega
    have := cut_join h0 ih
    rw [List.flatten_cons, ← this]
    congr 1
    rw [List.length_cons, Nat.succ_mul]; omega

/-- A row of one's own: its block is from id lo on, and holds just its elements. -/
def OwnG (h : Heap) (lo z : Nat) (v : CV) (l : List (List CV)) : Prop :=
  ((v = .slice none 0 0 0 ∨ ∃ i, v = .slice (some (i, 0)) 0 0 0) ∧ l = []) ∨ ∃ i, v = .slice (some (i, 0)) l.length l.length z ∧ lo ≤ i ∧ i < h.next ∧ h.get i = some (.cells l.flatten false) ∧ (∀ e ∈ l, e.length = z) ∧ l ≠ []

theorem flat_len {z : Nat} : ∀ {l : List (List CV)}, (∀ e ∈ l, e.length = z) → l.flatten.length = l.length * z
  | [], _ => by simp
  | e :: l, h => by
    rw [List.flatten_cons, List.length_append, h e (by simp), flat_len fun x hx => h x (List.mem_cons_of_mem _ hx), List.length_cons, Nat.succ_mul]
    omega
/-- It reads as any row. -/
theorem OwnG.sl {h : Heap} {lo z : Nat} {v : CV} {l : List (List CV)} (s : OwnG h lo z v l) (hl : ∀ i, v = .slice (some (i, 0)) 0 0 0 → i < h.next ∧ ∃ cs ro, h.get i = some (.cells cs ro)) : SlG h z v l := by
  rcases s with ⟨rfl | ⟨i, rfl⟩, rfl⟩ | ⟨i, rfl, h1, h2, h3, h4, h5⟩
  · exact .inl ⟨rfl, rfl⟩
  · obtain ⟨g1, cs, ro, g2⟩ := hl i rfl
    exact .inr (.inr ⟨i, 0, 0, 0, cs, ro, rfl, g1, g2, (fun j e he => by simp at he), Nat.zero_le _, .inl rfl⟩)
  · exact .inr (.inr ⟨i, 0, l.length, z, _, false, rfl, h2, h3, (fun j e he => ⟨h4 e (List.mem_of_getElem? he), flat_cut h4 he⟩), Nat.le_refl _, .inr rfl⟩)

section
variable {E : Env} {tm : Tm} {h : Heap} {Q : R → Prop} {all rest : List Oper} {o : Oper}
/-- A row behind nothing: a copy. -/
theorem W.cpG {c : Call} {t t2 e : TypeId} {ts es t2s : TyS} {s v : CV} {z lo : Nat} {l : List (List CV)} (hs : s = .slice none 0 0 0 ∨ ∃ i, s = .slice (some (i, 0)) 0 0 0) (sl : SlG h z v l) (hlo : lo ≤ h.next)
    (hgd : guardOn all tm o = some true) (hop : o.op = .call c) (hb : isBuiltin c.callee = some .append) (hty : c.argTypes.toList = [t, t2]) (ha : c.args.toList.map (cvOf E.globs tm) = [s, v])
    (hts : E.ty t = some ts) (hk : ts.kind = .slice e) (hes : E.ty e = some es) (hz : es.size = z) (hz0 : (Nat.beq es.size 0 || Nat.beq es.bytes 0) = false) (ht2 : E.ty t2 = some t2s) (hk2 : t2s.kind = .slice e) (hm : l.length * es.bytes ≤ 70368744177664)
    (w : ∀ v' h', Ext h h' → OwnG h' lo z v' l → (l = [] → v' = s ∧ h' = h) → (l ≠ [] → v' = .slice (some (h.next, 0)) l.length l.length z ∧ h' = h.new (.cells l.flatten false)) → W E (.ops all rest) (putTmp tm o.dst v') h' Q) : W E (.ops all (o :: rest)) tm h Q := by
  have key : ∃ v' h', oAppend E h (E.ty t) (E.ty t2) s v = some (v', h') ∧ Ext h h' ∧ OwnG h' lo z v' l ∧ (l = [] → v' = s ∧ h' = h) ∧ (l ≠ [] → v' = .slice (some (h.next, 0)) l.length l.length z ∧ h' = h.new (.cells l.flatten false)) := by
    by_cases hl : l = []
    · subst hl
      have hsrc : srcLen v = some 0 ∧ srcCells h es.size 0 v = some [] := by
        rcases sl with ⟨rfl, _⟩ | ⟨rfl, _⟩ | ⟨i, o, c, x, cs, ro, rfl, _⟩ <;> exact ⟨rfl, rfl⟩
      refine ⟨s, h, ?_, Ext.refl _, .inl ⟨hs, rfl⟩, fun _ => ⟨rfl, rfl⟩, fun h => absurd rfl h⟩
      rcases hs with rfl | ⟨i, rfl⟩
      · unfold oAppend
        simp only [hts, hk, hes, hz0, ht2, hk2, hsrc.1, hsrc.2]
        rfl
      · unfold oAppend
        simp only [hts, hk, hes, hz0, ht2, hk2, hsrc.1, hsrc.2]
        rfl
    · rcases sl with ⟨_, rfl⟩ | ⟨_, rfl⟩ | ⟨i, oo, cc, x, cs, ro, rfl, h2, h3, h4, h5, h6⟩
      · exact absurd rfl hl
      · exact absurd rfl hl
      · have hcut := cut_all hl h4
        have hpos : 0 < l.length := List.length_pos_iff.2 hl
        obtain ⟨n, hn⟩ : ∃ n, l.length = n + 1 := ⟨l.length - 1, by omega⟩
        have hsrc : srcCells h es.size l.length (.slice (some (i, oo)) l.length cc x) = some l.flatten := by
          rw [hz, hn]
          show (match h.get i with | some (.cells cs _) => cut cs oo ((n + 1) * z) | _ => none) = _
          rw [h3, ← hn]; exact hcut
        have hble : Nat.ble (0 + l.length) 0 = false := by rw [hn]; rfl
        have hby : Nat.ble ((0 + l.length) * es.bytes) 70368744177664 = true := Nat.ble_eq_true_of_le (by rw [Nat.zero_add]; exact hm)
        refine ⟨.slice (some (h.next, 0)) l.length l.length z, h.new (.cells l.flatten false), ?_, Ext.new _ _, .inr ⟨h.next, rfl, hlo, Nat.lt_succ_self _, new_same _ _, fun e he => ?_, hl⟩, fun h => absurd h hl, fun _ => ⟨rfl, rfl⟩⟩
        · rcases hs with rfl | ⟨i0, rfl⟩
          · unfold oAppend
            simp only [hts, hk, hes, hz0, ht2, hk2, srcLen, hsrc, appendAt, hble, hby]
            simp only [srcCells, growTo, List.nil_append, Nat.zero_add, hz]
          · unfold oAppend
            simp only [hts, hk, hes, hz0, ht2, hk2, srcLen, hsrc, appendAt, hble, hby]
            simp only [srcCells, growTo, List.nil_append, Nat.zero_add, hz]
        · obtain ⟨j, hj⟩ := List.getElem?_of_mem he
          exact (h4 j e hj).1
  obtain ⟨v', h', k1, k2, k3, k4, k5⟩ := key
  refine W.op hgd (v := v') (h1 := h') ?_ (w v' h' k2 k3 k4 k5)
  unfold opAny
  rw [hop]
  simp only [hb]
  show builtinV E h .append c.argTypes.toList (c.args.toList.map (cvOf E.globs tm)) = _
  rw [hty, ha]
  exact k1

/-- One element more behind a row of one's own. -/
theorem W.ap1 {c : Call} {t t2 e : TypeId} {ts es t2s : TyS} {s : CV} {z lo j cc xx : Nat} {ro : Bool} {l : List (List CV)} {el : List CV} (so : OwnG h lo z s l) (hlo : lo ≤ h.next) (hj : h.get j = some (.cells el ro)) (hel : el.length = z)
    (hgd : guardOn all tm o = some true) (hop : o.op = .call c) (hb : isBuiltin c.callee = some .append) (hty : c.argTypes.toList = [t, t2]) (ha : c.args.toList.map (cvOf E.globs tm) = [s, .slice (some (j, 0)) 1 cc xx])
    (hts : E.ty t = some ts) (hk : ts.kind = .slice e) (hes : E.ty e = some es) (hz : es.size = z) (hz0 : (Nat.beq es.size 0 || Nat.beq es.bytes 0) = false) (ht2 : E.ty t2 = some t2s) (hk2 : t2s.kind = .slice e) (hm : (l.length + 1) * es.bytes ≤ 70368744177664)
    (w : ∀ v' h', h'.next = h.next + 1 → OwnG h' lo z v' (l ++ [el]) → (∀ k, k < h.next → (l = [] ∨ ∀ n c x, s ≠ .slice (some (k, 0)) n c x) → h'.get k = h.get k) → v' = .slice (some (h.next, 0)) (l.length + 1) (l.length + 1) z → h'.get h.next = some (.cells (l ++ [el]).flatten false) → (Fresh h → Fresh h') → W E (.ops all rest) (putTmp tm o.dst v') h' Q) : W E (.ops all (o :: rest)) tm h Q := by
  have hzpos : 0 < z := by
    rw [← hz]
    cases hs : es.size with
    | zero => rw [hs] at hz0; cases hz0
    | succ n => omega
  have hsrc1 : srcCells h es.size 1 (.slice (some (j, 0)) 1 cc xx) = some el := by
    show (match h.get j with | some (.cells cs _) => cut cs 0 (1 * es.size) | _ => none) = _
    rw [hj]
    show cut el 0 (1 * es.size) = _
    rw [cut_eq, if_pos (by omega), hz, Nat.one_mul, List.drop_zero, List.take_of_length_le (by omega)]
  have key : ∃ v' h', oAppend E h (E.ty t) (E.ty t2) s (.slice (some (j, 0)) 1 cc xx) = some (v', h') ∧ h'.next = h.next + 1 ∧ OwnG h' lo z v' (l ++ [el]) ∧ (∀ k, k < h.next → (l = [] ∨ ∀ n c x, s ≠ .slice (some (k, 0)) n c x) → h'.get k = h.get k)  ∧ v' = .slice (some (h.next, 0)) (l.length + 1) (l.length + 1) z ∧ h'.get h.next = some (.cells (l ++ [el]).flatten false) ∧ (Fresh h → Fresh h') := by
    rcases so with ⟨hs, rfl⟩ | ⟨i, rfl, h1, h2, h3, h4, h5⟩
    · have hby : Nat.ble ((0 + 1) * es.bytes) 70368744177664 = true := Nat.ble_eq_true_of_le (by simpa using hm)
      have hble : Nat.ble (0 + 1) 0 = false := rfl
      refine ⟨.slice (some (h.next, 0)) 1 1 z, h.new (.cells el false), ?_, rfl, .inr ⟨h.next, rfl, hlo, Nat.lt_succ_self _, by simpa using new_same h (.cells el false), fun e he => by simp at he; rw [he]; exact hel, by simp⟩, fun k hk _ => by rw [Heap.get_new, if_neg (by omega)], rfl, by simpa using new_same h (.cells el false), fun f => f.new _⟩
      rcases hs with rfl | ⟨i0, rfl⟩
      · unfold oAppend
        simp only [hts, hk, hes, hz0, ht2, hk2, srcLen, hsrc1, appendAt, hble, hby]
        simp only [srcCells, growTo, List.nil_append, Nat.zero_add, hz]
      · unfold oAppend
        simp only [hts, hk, hes, hz0, ht2, hk2, srcLen, hsrc1, appendAt, hble, hby]
        simp only [srcCells, growTo, List.nil_append, Nat.zero_add, hz]
    · have hpos : 0 < l.length := List.length_pos_iff.2 h5
      obtain ⟨n, hn⟩ : ∃ n, l.length = n + 1 := ⟨l.length - 1, by omega⟩
      have hby : Nat.ble ((l.length + 1) * es.bytes) 70368744177664 = true := Nat.ble_eq_true_of_le hm
      have hble : Nat.ble (l.length + 1) l.length = false := by
        cases hh : Nat.ble (l.length + 1) l.length with
        | true => have := Nat.le_of_ble_eq_true hh; omega
        | false => rfl
      have hold : srcCells h es.size l.length (.slice (some (i, 0)) l.length l.length z) = some l.flatten := by
        rw [hz, hn]
        show (match h.get i with | some (.cells cs _) => cut cs 0 ((n + 1) * z) | _ => none) = _
        rw [h3, ← hn]
        show cut l.flatten 0 (l.length * z) = _
        have hfl := flat_len h4
        rw [cut_eq, if_pos (by omega), List.drop_zero, List.take_of_length_le (by omega)]
      obtain ⟨zz, hzz⟩ : ∃ zz, z = zz + 1 := ⟨z - 1, by omega⟩
      have hgrow : growTo h (some (i, 0)) z es.size (l.length + 1) (l.flatten ++ el) = some (.slice (some (h.next, 0)) (l.length + 1) (l.length + 1) es.size, (h.del i).new (.cells (l.flatten ++ el) false)) := by
        have hbq : Nat.beq (zz + 1) (zz + 1) = true := Nat.beq_refl _
        rw [hz, hzz]
        unfold growTo
        simp only [hbq, h3]
      refine ⟨.slice (some (h.next, 0)) (l.length + 1) (l.length + 1) z, (h.del i).new (.cells (l.flatten ++ el) false), ?_, rfl, .inr ⟨h.next, by simp, hlo, Nat.lt_succ_self _, by rw [show (l ++ [el]).flatten = l.flatten ++ el by simp]; exact new_same (h.del i) (.cells (l.flatten ++ el) false), fun e he => ?_, by simp⟩, fun k hk hne => ?_, rfl, by rw [show (l ++ [el]).flatten = l.flatten ++ el by simp]; exact new_same (h.del i) (.cells (l.flatten ++ el) false), fun f => Fresh.new (fun k hk => by
          have hk : h.next ≤ k := hk
          rw [Heap.get_del]
          split
          · rfl
          · exact f k hk) _⟩
      · unfold oAppend
        simp only [hts, hk, hes, hz0, ht2, hk2, srcLen, hsrc1, appendAt, hble, hby, hold, hgrow]
        rw [hz]
      · rcases List.mem_append.1 he with he | he
        · exact h4 e he
        · rw [List.mem_singleton] at he
          rw [he]; exact hel
      · have hki : i ≠ k := fun e => hne.elim h5 fun hne => hne _ _ _ (by rw [e])
        rw [Heap.get_new, if_neg (by show ¬ h.next = k; omega), Heap.get_del, if_neg hki]
  obtain ⟨v', h', k1, k2, k3, k4, k5, k6, k7⟩ := key
  refine W.op hgd (v := v') (h1 := h') ?_ (w v' h' k2 k3 k4 k5 k6 k7)
  unfold opAny
  rw [hop]
  simp only [hb]
  show builtinV E h .append c.argTypes.toList (c.args.toList.map (cvOf E.globs tm)) = _
  rw [hty, ha]
  exact k1
end
end Go.CM

namespace Go.CM.Wins
set_option linter.unusedVariables false
set_option linter.unusedSimpArgs false

/-- Moved. -/
def mvW (b : Int) (l : List (Int × Int)) : List (Int × Int) := l.map fun w => (w.1 + b, w.2 + b)
theorem in_mv {b y : Int} {l : List (Int × Int)} : In (y + b) (mvW b l) ↔ In y l := by
  constructor
  · rintro ⟨w, hw, h1, h2⟩
    obtain ⟨u, hu, rfl⟩ := List.mem_map.1 hw
    simp only at h1 h2
    exact ⟨u, hu, by omega, by omega⟩
  · rintro ⟨u, hu, h1, h2⟩
    refine ⟨_, List.mem_map.2 ⟨u, hu, rfl⟩, ?_, ?_⟩
    · show u.1 + b ≤ y + b
      omega
    · show y + b < u.2 + b
      omega
theorem free_mv {n b y : Int} {l : List (Int × Int)} : Free n (y + b) (mvW b l) ↔ Free n y l := by
  constructor
  · intro f w hw
    have h : w.2 + b ≤ y + b ∨ y + b + n ≤ w.1 + b := f _ (List.mem_map.2 ⟨w, hw, rfl⟩)
    omega
  · intro f w hw
    obtain ⟨u, hu, rfl⟩ := List.mem_map.1 hw
    have h := f u hu
    show u.2 + b ≤ y + b ∨ y + b + n ≤ u.1 + b
    omega
def Link.mv (k : Link) (b : Int) : Link := ⟨mvW b k.shut, k.door, mvW b k.opn, mvW b k.closed, k.len⟩
theorem may_mv {k : Link} {b y : Int} : (k.mv b).May (y + b) ↔ k.May y := by
  unfold Link.May Link.mv
  simp only [free_mv, in_mv]
theorem first_mv {k : Link} {last t b : Int} {r : Option Int} (h : k.First last t r) : (k.mv b).First (last + b) (t + b) (r.map (· + b)) := by
  have back : ∀ y, (k.mv b).May y → k.May (y - b) := fun y hy => by
    have e : y = (y - b) + b := by omega
    rw [e] at hy
    exact may_mv.1 hy
  cases r with
  | none => exact fun y h1 h2 hm => h (y - b) (by omega) (by omega) (back y hm)
  | some a =>
    obtain ⟨h1, h2, h3, h4⟩ := h
    refine ⟨?_, ?_, may_mv.2 h3, fun y g1 g2 hm => h4 (y - b) (by omega) ?_ (back y hm)⟩
    · show t + b ≤ a + b
      omega
    · show a + b ≤ last + b
      omega
    · have g2 : y < a + b := g2
      omega
/-- There is but one first tick. -/
theorem first_unique {k : Link} {last t : Int} {r r' : Option Int} (h : k.First last t r) (h' : k.First last t r') : r = r' := by
  cases r with
  | none =>
    cases r' with
    | none => rfl
    | some a => exact absurd h'.2.2.1 (h a h'.1 h'.2.1)
  | some a =>
    cases r' with
    | none => exact absurd h.2.2.1 (h' a h.1 h.2.1)
    | some c =>
      have : a = c := by
        by_cases h1 : a < c
        · exact absurd h.2.2.1 (h'.2.2.2 a h.1 h1)
        · by_cases h2 : c < a
          · exact absurd h'.2.2.1 (h.2.2.2 c h'.1 h2)
          · omega
      rw [this]
/-- Whoever may less is no earlier. -/
theorem first_less {k k' : Link} {last t : Int} {r r' : Option Int} (hl : last ≤ 1099511627776) (sub : ∀ y, k'.May y → k.May y) (h : k.First last t r) (h' : k'.First last t r') : r.getD 4611686018427387904 ≤ r'.getD 4611686018427387904 := by
  cases r' with
  | none =>
    cases r with
    | none => exact Int.le_refl _
    | some a => have := h.2.1; show a ≤ 4611686018427387904; omega
  | some c =>
    have hc := sub c h'.2.2.1
    cases r with
    | none => exact absurd hc (h c h'.1 h'.2.1)
    | some a =>
      show a ≤ c
      by_cases hh : a ≤ c
      · exact hh
      · exact absurd hc (h.2.2.2 c h'.1 (by omega))
end Go.CM.Wins

namespace Go.CM.Wins
set_option linter.unusedVariables false
set_option linter.unusedSimpArgs false

/-- By their begins. -/
def Asc : Int → List (Int × Int) → Prop
  | _, [] => True
  | b, w :: r => b ≤ w.1 ∧ w.1 < w.2 ∧ w.2 ≤ 2199023255552 ∧ Asc w.1 r
theorem Asc.low : ∀ {l : List (Int × Int)} {b : Int}, Asc b l → ∀ w ∈ l, b ≤ w.1 ∧ w.1 < w.2 ∧ w.2 ≤ 2199023255552
  | [], _, _, w, h => by cases h
  | v :: r, b, g, w, h => by
    obtain ⟨g1, g2, g3, g4⟩ := g
    rcases List.mem_cons.1 h with rfl | h
    · exact ⟨g1, g2, g3⟩
    · have := g4.low w h
      omega
theorem Asc.mono : ∀ {l : List (Int × Int)} {a b : Int}, Asc b l → a ≤ b → Asc a l
  | [], _, _, _, _ => trivial
  | v :: r, a, b, g, h => ⟨by have := g.1; omega, g.2⟩
theorem Good.asc : ∀ {l : List (Int × Int)} {b : Int}, Good l b → Asc b l
  | [], _, _ => trivial
  | v :: r, b, g => ⟨by have := g.1; omega, g.2.1, g.2.2.1, (Good.asc g.2.2.2).mono (by have := g.2.1; omega)⟩

def mergeF : Nat → List (Int × Int) → List (Int × Int) → List (Int × Int)
  | 0, a, b => a ++ b
  | n + 1, a, b => match a, b with
    | [], b => b
    | a, [] => a
    | x :: a, y :: b => if x.1 ≤ y.1 then x :: mergeF n a (y :: b) else y :: mergeF n (x :: a) b
/-- Merged by their begins, a's first. -/
def merge (a b : List (Int × Int)) : List (Int × Int) := mergeF (a.length + b.length) a b
theorem mergeF_cons (n : Nat) (x y : Int × Int) (a b : List (Int × Int)) : mergeF (n + 1) (x :: a) (y :: b) = if x.1 ≤ y.1 then x :: mergeF n a (y :: b) else y :: mergeF n (x :: a) b := rfl
theorem mem_mergeF : ∀ {n : Nat} {a b : List (Int × Int)} {w : Int × Int}, w ∈ mergeF n a b ↔ w ∈ a ∨ w ∈ b
  | 0, a, b, w => by simp [mergeF]
  | n + 1, [], b, w => by simp [mergeF]
  | n + 1, x :: a, [], w => by simp [mergeF]
  | n + 1, x :: a, y :: b, w => by
    rw [mergeF_cons]
    split
    · rw [List.mem_cons, mem_mergeF]
      simp only [List.mem_cons]
      exact Iff.intro (fun h => by rcases h with h | h | h; exact .inl (.inl h); exact .inl (.inr h); exact .inr h) (fun h => by rcases h with (h | h) | h; exact .inl h; exact .inr (.inl h); exact .inr (.inr h))
    · rw [List.mem_cons, mem_mergeF]
      simp only [List.mem_cons]
      exact Iff.intro (fun h => by rcases h with h | h | h; exact .inr (.inl h); exact .inl h; exact .inr (.inr h)) (fun h => by rcases h with h | h | h; exact .inr (.inl h); exact .inl h; exact .inr (.inr h))
theorem asc_mergeF : ∀ {n : Nat} {a b : List (Int × Int)} {c : Int}, a.length + b.length ≤ n → Asc c a → Asc c b → Asc c (mergeF n a b)
  | 0, [], [], c, _, _, _ => trivial
  | 0, x :: a, b, c, h, _, _ => by simp at h
  | 0, [], y :: b, c, h, _, _ => by simp at h
  | n + 1, [], b, c, _, _, hb => hb
  | n + 1, x :: a, [], c, _, ha, _ => ha
  | n + 1, x :: a, y :: b, c, h, ha, hb => by
    rw [mergeF_cons]
    simp only [List.length_cons] at h
    split
    · rename_i hxy
      exact ⟨ha.1, ha.2.1, ha.2.2.1, asc_mergeF (by simp only [List.length_cons]; omega) ha.2.2.2 ⟨hxy, hb.2⟩⟩
    · rename_i hxy
      exact ⟨hb.1, hb.2.1, hb.2.2.1, asc_mergeF (by simp only [List.length_cons]; omega) ⟨by omega, ha.2⟩ hb.2.2.2⟩

/-- What overlaps or touches, put together: the pending one, the rest. -/
def joinP : Int × Int → List (Int × Int) → List (Int × Int)
  | p, [] => [p]
  | p, w :: r => if w.1 ≤ p.2 then joinP (p.1, if w.2 ≤ p.2 then p.2 else w.2) r else p :: joinP w r
def join : List (Int × Int) → List (Int × Int)
  | [] => []
  | w :: r => joinP w r
theorem in_joinP : ∀ {r : List (Int × Int)} {p : Int × Int} {y : Int}, Asc p.1 r → (In y (joinP p r) ↔ (p.1 ≤ y ∧ y < p.2) ∨ In y r)
  | [], p, y, _ => by
    constructor
    · rintro ⟨w, hw, h⟩
      have : w = p := by simpa [joinP] using hw
      subst this
      exact .inl h
    · rintro (h | ⟨w, hw, _⟩)
      · exact ⟨p, by simp [joinP], h⟩
      · cases hw
  | w :: r, p, y, a => by
    obtain ⟨a1, a2, a3, a4⟩ := a
    have hin : In y (w :: r) ↔ (w.1 ≤ y ∧ y < w.2) ∨ In y r := by
      constructor
      · rintro ⟨u, hu, h⟩
        rcases List.mem_cons.1 hu with rfl | hu
        · exact .inl h
        · exact .inr ⟨u, hu, h⟩
      · rintro (h | ⟨u, hu, h⟩)
        · exact ⟨w, by simp, h⟩
        · exact ⟨u, List.mem_cons_of_mem _ hu, h⟩
    rw [hin]
    unfold joinP
    split
    · rename_i hle
      have ih := in_joinP (p := (p.1, if w.2 ≤ p.2 then p.2 else w.2)) (y := y) (a4.mono a1)
      rw [ih]
      simp only
      constructor
      · rintro (⟨h1, h2⟩ | h)
        · by_cases c : w.2 ≤ p.2
          · rw [if_pos c] at h2
            exact .inl ⟨h1, h2⟩
          · rw [if_neg c] at h2
            by_cases d : y < p.2
            · exact .inl ⟨h1, d⟩
            · exact .inr (.inl ⟨by omega, h2⟩)
        · exact .inr (.inr h)
      · rintro (⟨h1, h2⟩ | ⟨h1, h2⟩ | h)
        · exact .inl ⟨h1, by split <;> omega⟩
        · exact .inl ⟨by omega, by split <;> omega⟩
        · exact .inr h
    · have ih := in_joinP (p := w) (y := y) a4
      constructor
      · rintro ⟨u, hu, h⟩
        rcases List.mem_cons.1 hu with rfl | hu
        · exact .inl h
        · exact .inr (ih.1 ⟨u, hu, h⟩)
      · rintro (h | h)
        · exact ⟨p, by simp, h⟩
        · obtain ⟨u, hu, h⟩ := ih.2 h
          exact ⟨u, List.mem_cons_of_mem _ hu, h⟩
theorem good_joinP : ∀ {r : List (Int × Int)} {p : Int × Int} {b : Int}, b < p.1 → p.1 < p.2 → p.2 ≤ 2199023255552 → Asc p.1 r → Good (joinP p r) b
  | [], p, b, h1, h2, h3, _ => ⟨h1, h2, h3, trivial⟩
  | w :: r, p, b, h1, h2, h3, a => by
    obtain ⟨a1, a2, a3, a4⟩ := a
    unfold joinP
    split
    · refine good_joinP h1 ?_ ?_ (a4.mono a1)
      · show p.1 < (if w.2 ≤ p.2 then p.2 else w.2)
        split <;> omega
      · show (if w.2 ≤ p.2 then p.2 else w.2) ≤ 2199023255552
        split <;> omega
    · exact ⟨h1, h2, h3, good_joinP (by omega) a2 a3 a4⟩
def union (a b : List (Int × Int)) : List (Int × Int) := join (merge a b)
theorem in_union {a b : List (Int × Int)} {y : Int} (ha : Good a (-1)) (hb : Good b (-1)) : In y (union a b) ↔ In y a ∨ In y b := by
  have asc := asc_mergeF (n := a.length + b.length) (Nat.le_refl _) ha.asc hb.asc
  have hm : In y (merge a b) ↔ In y a ∨ In y b := by
    constructor
    · rintro ⟨w, hw, h⟩
      rcases mem_mergeF.1 hw with hw | hw
      · exact .inl ⟨w, hw, h⟩
      · exact .inr ⟨w, hw, h⟩
    · rintro (⟨w, hw, h⟩ | ⟨w, hw, h⟩)
      · exact ⟨w, mem_mergeF.2 (.inl hw), h⟩
      · exact ⟨w, mem_mergeF.2 (.inr hw), h⟩
  rw [← hm]
  unfold union
  have e : merge a b = mergeF (a.length + b.length) a b := rfl
  rw [← e] at asc
  cases hg : merge a b with
  | nil => exact Iff.rfl
  | cons w r =>
    rw [hg] at asc
    show In y (joinP w r) ↔ _
    rw [in_joinP asc.2.2.2]
    constructor
    · rintro (h | ⟨u, hu, h⟩)
      · exact ⟨w, by simp, h⟩
      · exact ⟨u, List.mem_cons_of_mem _ hu, h⟩
    · rintro ⟨u, hu, h⟩
      rcases List.mem_cons.1 hu with rfl | hu
      · exact .inl h
      · exact .inr ⟨u, hu, h⟩
theorem good_union {a b : List (Int × Int)} (ha : Good a (-1)) (hb : Good b (-1)) : Good (union a b) (-1) := by
  have asc := asc_mergeF (n := a.length + b.length) (c := 0) (Nat.le_refl _) ?_ ?_
  · have e : merge a b = mergeF (a.length + b.length) a b := rfl
    rw [← e] at asc
    unfold union
    cases hg : merge a b with
    | nil => trivial
    | cons w r =>
      rw [hg] at asc
      exact good_joinP (by have := asc.1; omega) asc.2.1 asc.2.2.1 asc.2.2.2
  · cases a with
    | nil => trivial
    | cons w r => exact ⟨by have := ha.1; omega, ha.asc.2⟩
  · cases b with
    | nil => trivial
    | cons w r => exact ⟨by have := hb.1; omega, hb.asc.2⟩
/-- So many ticks are free where none of them is in one. -/
theorem free_iff {n y b : Int} {l : List (Int × Int)} (hn : 1 ≤ n) (g : Good l b) : Free n y l ↔ ∀ z, y ≤ z → z < y + n → ¬ In z l := by
  constructor
  · rintro f z h1 h2 ⟨w, hw, h3, h4⟩
    rcases f w hw with h | h <;> omega
  · intro h w hw
    have := g.low w hw
    by_cases c : w.2 ≤ y
    · exact .inl c
    · by_cases d : y + n ≤ w.1
      · exact .inr d
      · exfalso
        by_cases e : w.1 ≤ y
        · exact h y (by omega) (by omega) ⟨w, hw, by omega, by omega⟩
        · exact h w.1 (by omega) (by omega) ⟨w, hw, by omega, by omega⟩
theorem free_union {n y : Int} {a b : List (Int × Int)} (hn : 1 ≤ n) (ha : Good a (-1)) (hb : Good b (-1)) (f : Free n y (union a b)) : Free n y a := by
  rw [free_iff hn (good_union ha hb)] at f
  rw [free_iff hn ha]
  exact fun z h1 h2 hz => f z h1 h2 ((in_union ha hb).2 (.inl hz))
end Go.CM.Wins
