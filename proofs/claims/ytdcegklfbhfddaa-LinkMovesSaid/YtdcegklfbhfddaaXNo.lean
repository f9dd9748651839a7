/- Rows of one's own: copied, grown by one. No condition, no program. -/
import Derived.Test.YtdcegklfbhfddaaXNb
noncomputable section
namespace Go.CM
set_option linter.unusedVariables false
set_option linter.unusedSimpArgs false

theorem cut_join {cs e f : List CV} {o z m : Nat} (h1 : cut cs o z = some e) (h2 : cut cs (o + z) m = some f) : cut cs o (z + m) = some (e ++ f) := by
  rw [cut_eq] at h1 h2 ⊢
  split at h1
  · rename_i l1
    cases h1
    split at h2
    · rename_i l2
      cases h2
      rw [if_pos (by omega)]
      congr 1
      rw [List.take_add, List.drop_drop]
    · cases h2
  · cases h1
theorem cut_all {cs : List CV} {z : Nat} : ∀ {l : List (List CV)} {o : Nat}, l ≠ [] → (∀ j e, l[j]? = some e → e.length = z ∧ cut cs (o + j * z) z = some e) → cut cs o (l.length * z) = some l.flatten
  | [], _, h, _ => absurd rfl h
  | [e], o, _, h => by
    have := (h 0 e rfl).2
    rw [Nat.zero_mul, Nat.add_zero] at this
    simpa using this
  | e :: f :: l, o, _, h => by
    have h0 := (h 0 e rfl).2
    rw [Nat.zero_mul, Nat.add_zero] at h0
    have ih := cut_all (cs := cs) (z := z) (l := f :: l) (o := o + z) (by simp) fun j g hg => by
      have := h (j + 1) g (by simpa using hg)
      refine ⟨this.1, ?_⟩
      rw [← this.2]
      congr 1
      rw [Nat.succ_mul]; omega
    have := cut_join h0 ih
    rw [List.flatten_cons, ← this]
    congr 1
    rw [List.length_cons, Nat.succ_mul]; omega

/-- A row of one's own: its block is from id lo on, and holds just its elements. -/
def OwnG (h : Heap) (lo z : Nat) (v : CV) (l : List (List CV)) : Prop :=
  ((v = .slice none 0 0 0 ∨ ∃ i, v = .slice (some (i, 0)) 0 0 0) ∧ l = []) ∨ ∃ i, v = .slice (some (i, 0)) l.length l.length z ∧ lo ≤ i ∧ i < h.next ∧ h.get i = some (.cells l.flatten false) ∧ (∀ e ∈ l, e.length = z) ∧ l ≠ []

theorem flat_len {z : Nat} : ∀ {l : List (List CV)}, (∀ e ∈ l, e.length = z) → l.flatten.length = l.length * z
  | [], _ => by simp
  | e :: l, h => by
    rw [List.flatten_cons, List.length_append, h e (by simp), flat_len fun x hx => h x (List.mem_cons_of_mem _ hx), List.length_cons, Nat.succ_mul]
    omega
/-- It reads as any row. -/
theorem OwnG.sl {h : Heap} {lo z : Nat} {v : CV} {l : List (List CV)} (s : OwnG h lo z v l) (hl : ∀ i, v = .slice (some (i, 0)) 0 0 0 → i < h.next ∧ ∃ cs ro, h.get i = some (.cells cs ro)) : SlG h z v l := by
  rcases s with ⟨rfl | ⟨i, rfl⟩, rfl⟩ | ⟨i, rfl, h1, h2, h3, h4, h5⟩
  · exact .inl ⟨rfl, rfl⟩
  · obtain ⟨g1, cs, ro, g2⟩ := hl i rfl
    exact .inr (.inr ⟨i, 0, 0, 0, cs, ro, rfl, g1, g2, (fun j e he => by simp at he), Nat.zero_le _, .inl rfl⟩)
  · exact .inr (.inr ⟨i, 0, l.length, z, _, false, rfl, h2, h3, (fun j e he => ⟨h4 e (List.mem_of_getElem? he), flat_cut h4 he⟩), Nat.le_refl _, .inr rfl⟩)

section
variable {E : Env} {tm : Tm} {h : Heap} {Q : R → Prop} {all rest : List Oper} {o : Oper}
/-- A row behind nothing: a copy. -/
theorem W.cpG {c : Call} {t t2 e : TypeId} {ts es t2s : TyS} {s v : CV} {z lo : Nat} {l : List (List CV)} (hs : s = .slice none 0 0 0 ∨ ∃ i, s = .slice (some (i, 0)) 0 0 0) (sl : SlG h z v l) (hlo : lo ≤ h.next)
    (hgd : guardOn all tm o = some true) (hop : o.op = .call c) (hb : isBuiltin c.callee = some .append) (hty : c.argTypes.toList = [t, t2]) (ha : c.args.toList.map (cvOf E.globs tm) = [s, v])
    (hts : E.ty t = some ts) (hk : ts.kind = .slice e) (hes : E.ty e = some es) (hz : es.size = z) (hz0 : (Nat.beq es.size 0 || Nat.beq es.bytes 0) = false) (ht2 : E.ty t2 = some t2s) (hk2 : t2s.kind = .slice e) (hm : l.length * es.bytes ≤ 70368744177664)
    (w : ∀ v' h', Ext h h' → OwnG h' lo z v' l → (l = [] → v' = s ∧ h' = h) → (l ≠ [] → v' = .slice (some (h.next, 0)) l.length l.length z ∧ h' = h.new (.cells l.flatten false)) → W E (.ops all rest) (putTmp tm o.dst v') h' Q) : W E (.ops all (o :: rest)) tm h Q := by
  have key : ∃ v' h', oAppend E h (E.ty t) (E.ty t2) s v = some (v', h') ∧ Ext h h' ∧ OwnG h' lo z v' l ∧ (l = [] → v' = s ∧ h' = h) ∧ (l ≠ [] → v' = .slice (some (h.next, 0)) l.length l.length z ∧ h' = h.new (.cells l.flatten false)) := by
    by_cases hl : l = []
    · subst hl
      have hsrc : srcLen v = some 0 ∧ srcCells h es.size 0 v = some [] := by
        rcases sl with ⟨rfl, _⟩ | ⟨rfl, _⟩ | ⟨i, o, c, x, cs, ro, rfl, _⟩ <;> exact ⟨rfl, rfl⟩
      refine ⟨s, h, ?_, Ext.refl _, .inl ⟨hs, rfl⟩, fun _ => ⟨rfl, rfl⟩, fun h => absurd rfl h⟩
      rcases hs with rfl | ⟨i, rfl⟩
      · unfold oAppend
        simp only [hts, hk, hes, hz0, ht2, hk2, hsrc.1, hsrc.2]
        rfl
      · unfold oAppend
        simp only [hts, hk, hes, hz0, ht2, hk2, hsrc.1, hsrc.2]
        rfl
    · rcases sl with ⟨_, rfl⟩ | ⟨_, rfl⟩ | ⟨i, oo, cc, x, cs, ro, rfl, h2, h3, h4, h5, h6⟩
      · exact absurd rfl hl
      · exact absurd rfl hl
      · have hcut := cut_all hl h4
        have hpos : 0 < l.length := List.length_pos_iff.2 hl
        obtain ⟨n, hn⟩ : ∃ n, l.length = n + 1 := ⟨l.length - 1, by omega⟩
        have hsrc : srcCells h es.size l.length (.slice (some (i, oo)) l.length cc x) = some l.flatten := by
          rw [hz, hn]
          show (match h.get i with | some (.cells cs _) => cut cs oo ((n + 1) * z) | _ => none) = _
          rw [h3, ← hn]; exact hcut
        have hble : Nat.ble (0 + l.length) 0 = false := by rw [hn]; rfl
        have hby : Nat.ble ((0 + l.length) * es.bytes) 70368744177664 = true := Nat.ble_eq_true_of_le (by rw [Nat.zero_add]; exact hm)
        refine ⟨.slice (some (h.next, 0)) l.length l.length z, h.new (.cells l.flatten false), ?_, Ext.new _ _, .inr ⟨h.next, rfl, hlo, Nat.lt_succ_self _, new_same _ _, fun e he => ?_, hl⟩, fun h => absurd h hl, fun _ => ⟨rfl, rfl⟩⟩
        · rcases hs with rfl | ⟨i0, rfl⟩
          · unfold oAppend
            simp only [hts, hk, hes, hz0, ht2, hk2, srcLen, hsrc, appendAt, hble, hby]
            simp only [srcCells, growTo, List.nil_append, Nat.zero_add, hz]
          · unfold oAppend
            simp only [hts, hk, hes, hz0, ht2, hk2, srcLen, hsrc, appendAt, hble, hby]
            simp only [srcCells, growTo, List.nil_append, Nat.zero_add, hz]
        · obtain ⟨j, hj⟩ := List.getElem?_of_mem he
          exact (h4 j e hj).1
  obtain ⟨v', h', k1, k2, k3, k4, k5⟩ := key
  refine W.op hgd (v := v') (h1 := h') ?_ (w v' h' k2 k3 k4 k5)
  unfold opAny
  rw [hop]
  simp only [hb]
  show builtinV E h .append c.argTypes.toList (c.args.toList.map (cvOf E.globs tm)) = _
  rw [hty, ha]
  exact k1

/-- One element more behind a row of one's own. -/
theorem W.ap1 {c : Call} {t t2 e : TypeId} {ts es t2s : TyS} {s : CV} {z lo j cc xx : Nat} {ro : Bool} {l : List (List CV)} {el : List CV} (so : OwnG h lo z s l) (hlo : lo ≤ h.next) (hj : h.get j = some (.cells el ro)) (hel : el.length = z)
    (hgd : guardOn all tm o = some true) (hop : o.op = .call c) (hb : isBuiltin c.callee = some .append) (hty : c.argTypes.toList = [t, t2]) (ha : c.args.toList.map (cvOf E.globs tm) = [s, .slice (some (j, 0)) 1 cc xx])
    (hts : E.ty t = some ts) (hk : ts.kind = .slice e) (hes : E.ty e = some es) (hz : es.size = z) (hz0 : (Nat.beq es.size 0 || Nat.beq es.bytes 0) = false) (ht2 : E.ty t2 = some t2s) (hk2 : t2s.kind = .slice e) (hm : (l.length + 1) * es.bytes ≤ 70368744177664)
    (w : ∀ v' h', h'.next = h.next + 1 → OwnG h' lo z v' (l ++ [el]) → (∀ k, k < h.next → (l = [] ∨ ∀ n c x, s ≠ .slice (some (k, 0)) n c x) → h'.get k = h.get k) → v' = .slice (some (h.next, 0)) (l.length + 1) (l.length + 1) z → h'.get h.next = some (.cells (l ++ [el]).flatten false) → (Fresh h → Fresh h') → W E (.ops all rest) (putTmp tm o.dst v') h' Q) : W E (.ops all (o :: rest)) tm h Q := by
  have hzpos : 0 < z := by
    rw [← hz]
    cases hs : es.size with
    | zero => rw [hs] at hz0; cases hz0
    | succ n => omega
  have hsrc1 : srcCells h es.size 1 (.slice (some (j, 0)) 1 cc xx) = some el := by
    show (match h.get j with | some (.cells cs _) => cut cs 0 (1 * es.size) | _ => none) = _
    rw [hj]
    show cut el 0 (1 * es.size) = _
    rw [cut_eq, if_pos (by omega), hz, Nat.one_mul, List.drop_zero, List.take_of_length_le (by omega)]
  have key : ∃ v' h', oAppend E h (E.ty t) (E.ty t2) s (.slice (some (j, 0)) 1 cc xx) = some (v', h') ∧ h'.next = h.next + 1 ∧ OwnG h' lo z v' (l ++ [el]) ∧ (∀ k, k < h.next → (l = [] ∨ ∀ n c x, s ≠ .slice (some (k, 0)) n c x) → h'.get k = h.get k)  ∧ v' = .slice (some (h.next, 0)) (l.length + 1) (l.length + 1) z ∧ h'.get h.next = some (.cells (l ++ [el]).flatten false) ∧ (Fresh h → Fresh h') := by
    rcases so with ⟨hs, rfl⟩ | ⟨i, rfl, h1, h2, h3, h4, h5⟩
    · have hby : Nat.ble ((0 + 1) * es.bytes) 70368744177664 = true := Nat.ble_eq_true_of_le (by simpa using hm)
      have hble : Nat.ble (0 + 1) 0 = false := rfl
      refine ⟨.slice (some (h.next, 0)) 1 1 z, h.new (.cells el false), ?_, rfl, .inr ⟨h.next, rfl, hlo, Nat.lt_succ_self _, by simpa using new_same h (.cells el false), fun e he => by simp at he; rw [he]; exact hel, by simp⟩, fun k hk _ => by rw [Heap.get_new, if_neg (by omega)], rfl, by simpa using new_same h (.cells el false), fun f => f.new _⟩
      rcases hs with rfl | ⟨i0, rfl⟩
      · unfold oAppend
        simp only [hts, hk, hes, hz0, ht2, hk2, srcLen, hsrc1, appendAt, hble, hby]
        simp only [srcCells, growTo, List.nil_append, Nat.zero_add, hz]
      · unfold oAppend
        simp only [hts, hk, hes, hz0, ht2, hk2, srcLen, hsrc1, appendAt, hble, hby]
        simp only [srcCells, growTo, List.nil_append, Nat.zero_add, hz]
    · have hpos : 0 < l.length := List.length_pos_iff.2 h5
      obtain ⟨n, hn⟩ : ∃ n, l.length = n + 1 := ⟨l.length - 1, by omega⟩
      have hby : Nat.ble ((l.length + 1) * es.bytes) 70368744177664 = true := Nat.ble_eq_true_of_le hm
      have hble : Nat.ble (l.length + 1) l.length = false := by
        cases hh : Nat.ble (l.length + 1) l.length with
        | true => have := Nat.le_of_ble_eq_true hh; omega
        | false => rfl
      have hold : srcCells h es.size l.length (.slice (some (i, 0)) l.length l.length z) = some l.flatten := by
        rw [hz, hn]
        show (match h.get i with | some (.cells cs _) => cut cs 0 ((n + 1) * z) | _ => none) = _
        rw [h3, ← hn]
        show cut l.flatten 0 (l.length * z) = _
        have hfl := flat_len h4
        rw [cut_eq, if_pos (by omega), List.drop_zero, List.take_of_length_le (by omega)]
      obtain ⟨zz, hzz⟩ : ∃ zz, z = zz + 1 := ⟨z - 1, by omega⟩
      have hgrow : growTo h (some (i, 0)) z es.size (l.length + 1) (l.flatten ++ el) = some (.slice (some (h.next, 0)) (l.length + 1) (l.length + 1) es.size, (h.del i).new (.cells (l.flatten ++ el) false)) := by
        have hbq : Nat.beq (zz + 1) (zz + 1) = true := Nat.beq_refl _
        rw [hz, hzz]
        unfold growTo
        simp only [hbq, h3]
      refine ⟨.slice (some (h.next, 0)) (l.length + 1) (l.length + 1) z, (h.del i).new (.cells (l.flatten ++ el) false), ?_, rfl, .inr ⟨h.next, by simp, hlo, Nat.lt_succ_self _, by rw [show (l ++ [el]).flatten = l.flatten ++ el by simp]; exact new_same (h.del i) (.cells (l.flatten ++ el) false), fun e he => ?_, by simp⟩, fun k hk hne => ?_, rfl, by rw [show (l ++ [el]).flatten = l.flatten ++ el by simp]; exact new_same (h.del i) (.cells (l.flatten ++ el) false), fun f => Fresh.new (fun k hk => by
          have hk : h.next ≤ k := hk
          rw [Heap.get_del]
          split
          · rfl
          · exact f k hk) _⟩
      · unfold oAppend
        simp only [hts, hk, hes, hz0, ht2, hk2, srcLen, hsrc1, appendAt, hble, hby, hold, hgrow]
        rw [hz]
      · rcases List.mem_append.1 he with he | he
        · exact h4 e he
        · rw [List.mem_singleton] at he
          rw [he]; exact hel
      · have hki : i ≠ k := fun e => hne.elim h5 fun hne => hne _ _ _ (by rw [e])
        rw [Heap.get_new, if_neg (by show ¬ h.next = k; omega), Heap.get_del, if_neg hki]
  obtain ⟨v', h', k1, k2, k3, k4, k5, k6, k7⟩ := key
  refine W.op hgd (v := v') (h1 := h') ?_ (w v' h' k2 k3 k4 k5 k6 k7)
  unfold opAny
  rw [hop]
  simp only [hb]
  show builtinV E h .append c.argTypes.toList (c.args.toList.map (cvOf E.globs tm)) = _
  rw [hty, ha]
  exact k1
end
end Go.CM
