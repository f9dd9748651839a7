/- Rows of numbers, as the plain machine has them; comparisons. No condition. -/
import Derived.Test.YtdcegklfbhfddaaCmZd
import Derived.KernelRfl
noncomputable section
namespace Go.CM
set_option linter.unusedVariables false
set_option linter.unusedSimpArgs false

noncomputable def lk {α : Type} : List (Nat × α) → Nat → Option α
  | [], _ => none
  | p :: r, t => match Nat.beq p.1 t with
    | true => some p.2
    | false => lk r t
noncomputable def fnOf (f : Func) : FnS := ⟨f.ntmps, f.results.toList, f.body⟩

section
variable {α : Type} {a b : Int} {h : α}
theorem op_lss : some (CV.bool (!intLe b a), h) = some (CV.bool (decide (a < b)), h) := by
  rw [intLe_eq]
  by_cases hx : a < b
  · rw [decide_eq_true hx, decide_eq_false (by omega)]; rfl
  · rw [decide_eq_false hx, decide_eq_true (by omega)]; rfl
theorem op_leq : some (CV.bool (intLe a b), h) = some (CV.bool (decide (a ≤ b)), h) := by rw [intLe_eq]
theorem op_gtr : some (CV.bool (!intLe a b), h) = some (CV.bool (decide (b < a)), h) := op_lss
theorem op_geq : some (CV.bool (intLe b a), h) = some (CV.bool (decide (b ≤ a)), h) := op_leq
theorem op_eql : some (CV.bool (intEq a b), h) = some (CV.bool (decide (a = b)), h) := by
  rw [intEq_eq]
  by_cases hx : a = b
  · rw [decide_eq_true hx]; simp [hx]
  · rw [decide_eq_false hx]; simp [hx]
theorem op_neq : some (CV.bool (!intEq a b), h) = some (CV.bool (decide (a ≠ b)), h) := by
  rw [intEq_eq]
  by_cases hx : a = b
  · rw [decide_eq_false (by simpa using hx)]; simp [hx]
  · rw [decide_eq_true hx]; simp [hx]
theorem op_add (hl : -9223372036854775808 ≤ a + b) (hu : a + b ≤ 9223372036854775807) : some (CV.int .i64 (IntKind.i64.wrap (a + b)), h) = some (CV.int .i64 (a + b), h) := by
  rw [show IntKind.i64.wrap (a + b) = a + b from IntWalk.i64_in _ (by omega)]
theorem op_sub (hl : -9223372036854775808 ≤ a - b) (hu : a - b ≤ 9223372036854775807) : some (CV.int .i64 (IntKind.i64.wrap (a - b)), h) = some (CV.int .i64 (a - b), h) := by
  rw [show IntKind.i64.wrap (a - b) = a - b from IntWalk.i64_in _ (by omega)]
end

/-- A slice of numbers. -/
def SlI (h : Heap) (v : CV) (l : List Int) : Prop :=
  (v = .slice none 0 0 0 ∧ l = []) ∨ ∃ i o c x cs ro, v = .slice (some (i, o)) l.length c x ∧ i < h.next ∧ h.get i = some (.cells cs ro) ∧ ∀ j n, l[j]? = some n → nth cs (o + j * 1) = some (.int .i64 n)
theorem SlI.ext {h h' : Heap} (e : Ext h h') {v : CV} {l : List Int} (s : SlI h v l) : SlI h' v l := by
  rcases s with s | ⟨i, o, c, x, cs, ro, h1, h2, h3, h4⟩
  · exact .inl s
  · exact .inr ⟨i, o, c, x, cs, ro, h1, Nat.lt_of_lt_of_le h2 e.next, (e.old i h2).trans h3, h4⟩
/-- Where there is an element. -/
theorem SlI.at {h : Heap} {v : CV} {l : List Int} (s : SlI h v l) {j : Nat} (hj : j < l.length) : ∃ i o c x cs ro, v = .slice (some (i, o)) l.length c x ∧ i < h.next ∧ h.get i = some (.cells cs ro) ∧ ∀ j n, l[j]? = some n → nth cs (o + j * 1) = some (.int .i64 n) := by
  rcases s with ⟨_, rfl⟩ | s
  · simp at hj
  · exact s
/-- Its length. -/
theorem SlI.len {h : Heap} {v : CV} {l : List Int} (s : SlI h v l) : ∃ p c x, v = .slice p l.length c x := by
  rcases s with ⟨rfl, rfl⟩ | ⟨i, o, c, x, cs, ro, h1, _⟩
  · exact ⟨none, 0, 0, rfl⟩
  · exact ⟨_, c, x, h1⟩

theorem cut_ints {cs : List CV} {o : Nat} {l : List Int} (h : ∀ j n, l[j]? = some n → nth cs (o + j * 1) = some (.int .i64 n)) : l ≠ [] → cut cs o (l.length * 1) = some (l.map (CV.int .i64)) := by
  intro hne
  rw [cut_eq]
  have hlen : o + l.length * 1 ≤ cs.length := by
    have hpos : 0 < l.length := List.length_pos_iff.2 hne
    have := h (l.length - 1) (l[l.length - 1]'(by omega)) (by rw [List.getElem?_eq_getElem])
    rw [nth_eq] at this
    obtain ⟨hlt, _⟩ := List.getElem?_eq_some_iff.1 this
    omega
  rw [if_pos hlen]
  congr 1
  apply List.ext_getElem?
  intro j
  rw [List.getElem?_take, List.getElem?_map]
  by_cases hj : j < l.length
  · rw [if_pos (by omega), List.getElem?_drop, List.getElem?_eq_getElem hj]
    have := h j l[j] (List.getElem?_eq_getElem hj)
    rw [nth_eq, Nat.mul_one] at this
    exact this
  · rw [if_neg (by omega), List.getElem?_eq_none (by omega)]; rfl

/-- A copy of a row, behind a row of length nought. -/
theorem W.cp {E : Env} {tm : Tm} {h : Heap} {all rest : List Oper} {o : Oper} {Q : R → Prop} {c : Call} {t t2 e : TypeId} {ts es t2s : TyS} {p : Nat × Nat} {i oo n cap ex : Nat} {cs news : List CV} {ro : Bool}
    (hgd : guardOn all tm o = some true) (hop : o.op = .call c) (hb : isBuiltin c.callee = some .append) (hty : c.argTypes.toList = [t, t2]) (ha : c.args.toList.map (cvOf E.globs tm) = [.slice (some p) 0 0 0, .slice (some (i, oo)) n cap ex])
    (hts : E.ty t = some ts) (hk : ts.kind = .slice e) (hes : E.ty e = some es) (hz : es.size = 1) (hbb : es.bytes = 8) (ht2 : E.ty t2 = some t2s) (hk2 : t2s.kind = .slice e) (hg : h.get i = some (.cells cs ro)) (hcut : cut cs oo (n * 1) = some news) (hn : 1 ≤ n) (hm : n ≤ 1099511627776)
    (w : W E (.ops all rest) (putTmp tm o.dst (.slice (some (h.next, 0)) n n 1)) (h.new (.cells news false)) Q) : W E (.ops all (o :: rest)) tm h Q := by
  refine W.op hgd (v := .slice (some (h.next, 0)) n n 1) (h1 := h.new (.cells news false)) ?_ w
  unfold opAny
  rw [hop]
  simp only [hb]
  show builtinV E h .append c.argTypes.toList (c.args.toList.map (cvOf E.globs tm)) = _
  rw [hty, ha]
  show oAppend E h (E.ty t) (E.ty t2) (.slice (some p) 0 0 0) (.slice (some (i, oo)) n cap ex) = _
  unfold oAppend
  simp only [hts, hk, hes, hz, hbb, ht2, hk2]
  obtain ⟨n, rfl⟩ : ∃ m, n = m + 1 := ⟨n - 1, by omega⟩
  have hc : srcCells h 1 (n + 1) (.slice (some (i, oo)) (n + 1) cap ex) = some news := by
    show (match h.get i with | some (.cells cs _) => cut cs oo ((n + 1) * 1) | _ => none) = _
    rw [hg]; exact hcut
  have h1 : Nat.ble (0 + (n + 1)) 0 = false := rfl
  have h2 : Nat.ble ((0 + (n + 1)) * 8) 70368744177664 = true := Nat.ble_eq_true_of_le (by omega)
  simp only [show (Nat.beq 1 0 || Nat.beq 8 0) = false from rfl, srcLen, hc, appendAt, h1, h2]
  simp [srcCells, growTo]

/-- A function that gives a variable's cells, and a temporary. -/
theorem BodyQ.cell {E : Env} {tm : Tm} {h : Heap} {Q : R → Prop} {rs : List ResultVar} {a b i off : Nat} {t : TypeId} {s : TyS} {cs : List CV} {ro : Bool} {v u : CV} (hrs : rs = [.cell a t, .tmp b]) (ha : tm.look a = .ptr (some (i, off))) (hb : tm.look b = u) (hg : h.get i = some (.cells cs ro)) (hs : E.ty t = some s) (hp : part cs off s.size s.agg = some v)
    (q : Q (.val (.tup [v, u]) h)) : BodyQ E rs Q (.code .ret tm h) := by
  show Q (kBody E rs (.code .ret tm h))
  have e : resultVals E h tm rs = some [v, u] := by
    subst hrs
    have hl : CM.load E h t i off = some v := by
      unfold CM.load loadB
      simp only [hg, hs, hp]
    have h2 : resultVals E h tm [.tmp b] = some [u] := by
      show some [(tm.get b).getD .undef] = _
      have : (tm.get b).getD .undef = tm.look b := rfl
      rw [this, hb]
    have h3 : tm.get a = some (.ptr (some (i, off))) := by
      have : tm.get a = some (tm.look a) := rfl
      rw [this, ha]
    unfold resultVals
    simp only [h3, hl, h2]
  unfold kBody
  simp only [e]
  exact q

theorem Ext.put {h h' : Heap} (x : Ext h h') {i : Nat} (hi : h.next ≤ i) (hi2 : i < h'.next) (b : Blk) : Ext h (h'.put i b) := ⟨x.next, fun j hj => by
  rw [Heap.get_put, if_neg (by omega)]
  exact x.old j hj, fun f k hk => by
  have hk : h'.next ≤ k := hk
  rw [Heap.get_put, if_neg (by omega)]
  exact x.fr f k hk⟩
theorem put_same (h : Heap) (i : Nat) (b : Blk) : (h.put i b).get i = some b := by rw [Heap.get_put]; simp
theorem put_old {h : Heap} {i j : Nat} {b x : Blk} (hn : i ≠ j) (hg : h.get j = some x) : (h.put i b).get j = some x := by rw [Heap.get_put, if_neg hn]; exact hg

theorem set_ints {l : List Int} {k : Nat} {x : Int} (hk : k < l.length) : setAt (l.map (CV.int .i64)) [.int .i64 x] (0 + k * 1) = some ((l.set k x).map (CV.int .i64)) := by
  rw [setAt_eq]
  have e : 0 + k * 1 = k := by omega
  rw [e, if_pos (by simp only [List.length_map, List.length_cons, List.length_nil]; omega)]
  congr 1
  apply List.ext_getElem?
  intro j
  simp only [List.length_cons, List.length_nil, List.getElem?_map, List.getElem?_set, List.getElem?_append, List.length_append, List.length_take, List.length_map, List.getElem?_take, List.getElem?_drop]
  by_cases h1 : j < k
  · rw [if_pos (by omega), if_pos (by omega), if_pos h1, if_neg (by omega)]
  · by_cases h2 : j = k
    · subst h2
      rw [if_pos (by omega), if_neg (by omega), if_pos rfl, if_pos hk]
      have : j - min j l.length = 0 := by omega
      rw [this]; rfl
    · rw [if_neg (by omega), if_neg (by omega)]
      congr 2; omega
theorem nth_ints {l : List Int} {k : Nat} (hk : k < l.length) : nth (l.map (CV.int .i64)) (0 + k * 1) = some (.int .i64 (l.getD k 0)) := by
  rw [nth_eq, List.getElem?_map, show 0 + k * 1 = k by omega, List.getElem?_eq_getElem hk, List.getD_eq_getElem?_getD, List.getElem?_eq_getElem hk]; rfl
/-- A row of one's own. -/
theorem SlI.own {h : Heap} {i : Nat} {l : List Int} {c x : Nat} (hi : i < h.next) (hg : h.get i = some (.cells (l.map (CV.int .i64)) false)) : SlI h (.slice (some (i, 0)) l.length c x) l :=
  .inr ⟨i, 0, c, x, _, false, rfl, hi, hg, fun j n hj => by
    rw [nth_eq, List.getElem?_map, show 0 + j * 1 = j by omega, hj]; rfl⟩
end Go.CM
