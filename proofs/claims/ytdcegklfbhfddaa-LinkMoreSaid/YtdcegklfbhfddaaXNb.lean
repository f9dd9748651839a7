/- Walks over rows of structs: what memory says of them; loads from a memory that has only grown. No condition, no program. -/
import Derived.Test.YtdcegklfbhfddaaXMa
noncomputable section
namespace Go.CM
set_option linter.unusedVariables false
set_option linter.unusedSimpArgs false

/-- A row's length. -/
def LenOf (v : CV) (n : Nat) : Prop := (v = .empty ∧ n = 0) ∨ ∃ p c x, v = .slice p n c x
/-- A row of elements, each of z cells. -/
def SlG (h : Heap) (z : Nat) (v : CV) (l : List (List CV)) : Prop :=
  (v = .slice none 0 0 0 ∧ l = []) ∨ (v = .empty ∧ l = []) ∨ ∃ i o c x cs ro, v = .slice (some (i, o)) l.length c x ∧ i < h.next ∧ h.get i = some (.cells cs ro) ∧ (∀ j e, l[j]? = some e → e.length = z ∧ cut cs (o + j * z) z = some e) ∧ l.length ≤ c ∧ (x = 0 ∨ x = z)
theorem SlG.ext {h h' : Heap} (e : Ext h h') {z : Nat} {v : CV} {l : List (List CV)} (s : SlG h z v l) : SlG h' z v l := by
  rcases s with s | s | ⟨i, o, c, x, cs, ro, h1, h2, h3, h4⟩
  · exact .inl s
  · exact .inr (.inl s)
  · exact .inr (.inr ⟨i, o, c, x, cs, ro, h1, Nat.lt_of_lt_of_le h2 e.next, (e.old i h2).trans h3, h4⟩)
theorem SlG.lenOf {h : Heap} {z : Nat} {v : CV} {l : List (List CV)} (s : SlG h z v l) : LenOf v l.length := by
  rcases s with ⟨rfl, rfl⟩ | ⟨rfl, rfl⟩ | ⟨i, o, c, x, cs, ro, h1, _⟩
  · exact .inr ⟨none, 0, 0, rfl⟩
  · exact .inl ⟨rfl, rfl⟩
  · exact .inr ⟨_, c, x, h1⟩
theorem SlG.at {h : Heap} {z : Nat} {v : CV} {l : List (List CV)} (s : SlG h z v l) {j : Nat} (hj : j < l.length) : ∃ i o c x cs ro, v = .slice (some (i, o)) l.length c x ∧ i < h.next ∧ h.get i = some (.cells cs ro) ∧ ∀ j e, l[j]? = some e → e.length = z ∧ cut cs (o + j * z) z = some e := by
  rcases s with ⟨_, rfl⟩ | ⟨_, rfl⟩ | s
  · simp at hj
  · simp at hj
  · obtain ⟨i, o, c, x, cs, ro, h1, h2, h3, h4, _⟩ := s
    exact ⟨i, o, c, x, cs, ro, h1, h2, h3, h4⟩
/-- An element's cell. -/
theorem cut_nth {cs e : List CV} {a z k : Nat} {v : CV} (h : cut cs a z = some e) (hk : e[k]? = some v) : nth cs (a + k) = some v := by
  rw [cut_eq] at h
  split at h
  · cases h
    rw [List.getElem?_take] at hk
    split at hk
    · rw [nth_eq]
      rwa [List.getElem?_drop] at hk
    · cases hk
  · cases h
theorem flat_cut {z : Nat} : ∀ {vss : List (List CV)} {j : Nat} {e : List CV}, (∀ vs ∈ vss, vs.length = z) → vss[j]? = some e → cut vss.flatten (0 + j * z) z = some e
  | [], j, e, _, h => by simp at h
  | v :: vss, 0, e, hz, h => by
    simp at h
    subst h
    rw [cut_eq, List.flatten_cons]
    have := hz v (by simp)
    rw [if_pos (by rw [List.length_append]; omega)]
    simp [this]
  | v :: vss, j + 1, e, hz, h => by
    have ih := flat_cut (vss := vss) (j := j) (fun x hx => hz x (List.mem_cons_of_mem _ hx)) (by simpa using h)
    rw [cut_eq] at ih ⊢
    have hv := hz v (by simp)
    have e1 : 0 + (j + 1) * z = z + j * z := by rw [Nat.succ_mul]; omega
    have e2 : 0 + j * z = j * z := by omega
    rw [e2] at ih
    rw [e1, List.flatten_cons]
    split at ih
    · rename_i hle
      rw [if_pos (by rw [List.length_append]; omega), ← ih]
      congr 2
      rw [List.drop_append, List.drop_of_length_le (by omega), List.nil_append, hv]
      congr 1
      omega
    · cases ih
/-- An argument's row. -/
theorem Rep.sl {h : Heap} {e : PT} {v : CV} {ds : List Dat} (r : Rep h (.slice e) [v] (.row ds)) : ∃ vss : List (List CV), SlG h e.size v vss ∧ vss.length = ds.length ∧ ∀ (j : Nat) (vs : List CV) (d : Dat), vss[j]? = some vs → ds[j]? = some d → Rep h e vs d := by
  cases r with
  | nil => exact ⟨[], .inl ⟨rfl, rfl⟩, rfl, fun j vs d h => by simp at h⟩
  | emp => exact ⟨[], .inr (.inl ⟨rfl, rfl⟩), rfl, fun j vs d h => by simp at h⟩
  | row _ i c vss ds hi hg hl h0 hc hm hz hr =>
    exact ⟨vss, .inr (.inr ⟨i, 0, c, 0, _, true, rfl, hi, hg, fun j e he => ⟨hz e (List.mem_of_getElem? he), flat_cut hz he⟩, hc, .inl rfl⟩), hl.symm, hr⟩

section
variable {E : Env} {tm : Tm} {H h : Heap} {Q : R → Prop} {all rest : List Oper} {o : Oper} {bs : List Bits} {recs : List Rec} {n0 i : Nat} {idx calls : List Nat}
theorem W.ln {c : Call} {t e : TypeId} {s : TyS} {v : CV} {n : Nat} {a0 a1 a2 a3 a4 a5 a6 a7 a8 a9 a10 a11 a12 a13 a14 a15 : NA} {a16 : Tree CV} (hl : LenOf v n)
    (hgd : guardOn all tm o = some true) (hop : o.op = .call c) (hb : isBuiltin c.callee = some .len) (hty : c.argTypes.toList = [t]) (ha : c.args.toList.map (cvOf E.globs tm) = [v]) (hts : E.ty t = some s) (hk : s.kind = .slice e)
    (ht : putTmp tm o.dst (.int .i64 (Int.ofNat n)) = (Tm.mk a0 a1 a2 a3 a4 a5 a6 a7 a8 a9 a10 a11 a12 a13 a14 a15 a16)) (w : W E (.ops all rest) (Tm.mk a0 a1 a2 a3 a4 a5 a6 a7 a8 a9 a10 a11 a12 a13 a14 a15 a16) h Q) : W E (.ops all (o :: rest)) tm h Q := by
  refine W.op hgd (v := .int .i64 (Int.ofNat n)) (h1 := h) ?_ (by rw [ht]; exact w)
  unfold opAny
  rw [hop]
  simp only [hb]
  show builtinV E h .len c.argTypes.toList (c.args.toList.map (cvOf E.globs tm)) = _
  rw [hty, ha]
  rcases hl with ⟨rfl, rfl⟩ | ⟨p, c', x, rfl⟩
  · simp [builtinV, lenV, hts, hk]; rfl
  · simp [builtinV, lenV, hts, hk]; rfl
/-- A row from an element on. -/
theorem upto_nat {k n : Nat} (h : k ≤ n) : upto (k : Int) n = some k := by
  show (match Nat.ble k n with | true => some k | false => none) = some k
  rw [Nat.ble_eq_true_of_le h]
theorem slice_from {z : Nat} {v : CV} {l : List (List CV)} {k : Nat} {kk : IntKind} {s : TyS} {e : TypeId} (sl : SlG h z v l) (hk : k ≤ l.length) (hkd : s.kind = .slice e) (hz : sizeOf? E e = some z) :
    ∃ v', oSlice E (some s) v (some (.int kk (k : Int))) none none = some v' ∧ SlG h z v' (l.drop k) := by
  rcases sl with ⟨rfl, rfl⟩ | ⟨rfl, rfl⟩ | ⟨i, o, c, x, cs, ro, rfl, h2, h3, h4, h5, h6⟩
  · have : k = 0 := by simpa using hk
    subst this
    exact ⟨.slice none 0 0 0, by simp only [oSlice, hkd, hz, hiOf, loOf]; rfl, .inl ⟨rfl, rfl⟩⟩
  · have : k = 0 := by simpa using hk
    subst this
    exact ⟨.empty, by simp only [oSlice, hkd, hz, hiOf, loOf]; rfl, .inr (.inl ⟨rfl, rfl⟩)⟩
  · have hu := upto_nat hk
    by_cases hck : c = k
    · subst hck
      have hl : l.length = c := by omega
      have hd : l.drop c = [] := List.drop_of_length_le (by omega)
      rw [hd]
      cases x with
      | zero =>
        refine ⟨.slice (some (i, o)) (l.length - c) (c - c) 0, by simp [oSlice, hkd, hz, hiOf, loOf, hu], .inr (.inr ⟨i, o, c - c, 0, cs, ro, ?_, h2, h3, fun j e he => by simp at he, Nat.zero_le _, .inl rfl⟩)⟩
        rw [hl, Nat.sub_self]; rfl
      | succ y =>
        cases c with
        | zero => exact ⟨.slice (some (i, o)) l.length 0 (y + 1), by simp only [oSlice, hkd, hz, hiOf, loOf, hu, Nat.beq_refl], .inr (.inr ⟨i, o, 0, y + 1, cs, ro, by rw [hl]; rfl, h2, h3, fun j e he => by simp at he, Nat.zero_le _, h6⟩)⟩
        | succ c => exact ⟨.empty, by simp only [oSlice, hkd, hz, hiOf, loOf, hu, Nat.beq_refl], .inr (.inl ⟨rfl, rfl⟩)⟩
    · have hb : Nat.beq c k = false := by
        cases hbb : Nat.beq c k with
        | true => exact absurd (Nat.eq_of_beq_eq_true hbb) hck
        | false => rfl
      have hx : (Nat.beq x 0 || Nat.beq x z) = true := by
        rcases h6 with rfl | rfl
        · rfl
        · rw [Nat.beq_refl, Bool.or_true]
      refine ⟨.slice (some (i, o + k * z)) (l.length - k) (c - k) x, by simp only [oSlice, hkd, hz, hiOf, loOf, hu, hb, hx, sliceAtO], .inr (.inr ⟨i, o + k * z, c - k, x, cs, ro, by rw [List.length_drop], h2, h3, fun j e he => ?_, by rw [List.length_drop]; omega, h6⟩)⟩
      rw [List.getElem?_drop] at he
      obtain ⟨g1, g2⟩ := h4 _ _ he
      refine ⟨g1, ?_⟩
      rw [← g2]
      congr 1
      rw [Nat.add_mul]; omega
theorem W.slc {z : Nat} {v : CV} {l : List (List CV)} {k : Nat} {kk : IntKind} {t e : TypeId} {x y : Operand} {s : TyS} (sl : SlG h z v l) (hk : k ≤ l.length) (hgd : guardOn all tm o = some true) (hop : o.op = .slice t x (some y) none none) (hx : cvOf E.globs tm x = v) (hy : cvOf E.globs tm y = .int kk (k : Int)) (hs : E.ty t = some s) (hkd : s.kind = .slice e) (hz : sizeOf? E e = some z)
    (w : ∀ v', SlG h z v' (l.drop k) → W E (.ops all rest) (putTmp tm o.dst v') h Q) : W E (.ops all (o :: rest)) tm h Q := by
  obtain ⟨v', h1, h2⟩ := slice_from (E := E) (kk := kk) sl hk hkd hz
  refine W.op hgd (v := v') (h1 := h) ?_ (w v' h2)
  unfold opAny
  rw [hop]
  show withH h (oSlice E (E.ty t) (cvOf E.globs tm x) (some (cvOf E.globs tm y)) none none) = _
  rw [hs, hx, hy, h1]; rfl
/-- A load from a memory that has grown. -/
theorem W.ldX (X : Ext H h) {t : TypeId} {x : Operand} {id off : Nat} {cs : List CV} {ro : Bool} {s : TyS} {v : CV} (hgd : guardOn all tm o = some true) (hop : o.op = .load t x) (hx : cvOf E.globs tm x = .ptr (some (id, off))) (hg : H.get id = some (.cells cs ro)) (hid : id < H.next) (hs : E.ty t = some s) (hp : part cs off s.size s.agg = some v)
    (w : W E (.ops all rest) (putTmp tm o.dst v) h Q) : W E (.ops all (o :: rest)) tm h Q := W.ld hgd hop hx ((X.old id hid).trans hg) hs hp w

/-- In a drawn region that only reads, over a memory that has grown. -/
structure DS (H h : Heap) (n0 : Nat) (idx calls : List Nat) (recs : List Rec) : Prop where
  r : RecsR h n0 idx calls recs
  x : Ext H h
  n : H.next ≤ n0
  m : n0 ≤ h.next
theorem DS.start (X : Ext H h) : DS H h h.next [] [] [] := ⟨RecsR.start, X, X.next, Nat.le_refl _⟩
theorem W.dldX (ds : DS H h n0 idx calls recs) {t : TypeId} {x : Operand} {id off : Nat} {cs : List CV} {ro : Bool} {s : TyS} {v : CV} (hgd : guardOn all tm o = some true) (hop : o.op = .load t x) (hx : cvOf E.globs tm x = .ptr (some (id, off))) (hg : H.get id = some (.cells cs ro)) (hid : id < H.next) (hs : E.ty t = some s) (hp : part cs off s.size s.agg = some v)
    (w : ∀ recs' h', DS H h' n0 (i :: idx) calls recs' → W E (.draw bs all rest (i + 1) recs') (putTmp tm o.dst v) h' Q) : W E (.draw bs all (o :: rest) i recs) tm h Q :=
  W.dld ds.r hgd hop hx ((ds.x.old id hid).trans hg) (Nat.lt_of_lt_of_le hid ds.n) hs hp fun recs' h' r s => w recs' h' ⟨r, ds.x.trans s.ext, ds.n, by rw [s.next]; exact ds.m⟩
theorem all1_each {p : Nat → Bool} : ∀ {l : List Nat}, (∀ k ∈ l, p k = true) → all1 l p = true
  | [], _ => rfl
  | k :: l, h => by
    show (match p k with | true => all1 l p | false => false) = true
    rw [h k (by simp)]
    exact all1_each fun x hx => h x (List.mem_cons_of_mem _ hx)
theorem mem_false {k : Nat} : ∀ {l : List Nat}, (∀ x ∈ l, x ≠ k) → mem k l = false
  | [], _ => rfl
  | x :: l, h => by
    unfold mem
    have : Nat.beq k x = false := by
      cases hb : Nat.beq k x with
      | true => exact absurd (Nat.eq_of_beq_eq_true hb).symm (h x (by simp))
      | false => rfl
    rw [this]
    exact mem_false fun y hy => h y (List.mem_cons_of_mem _ hy)
theorem okPairs_new {ahead : Bits} : ∀ {recs : List Rec}, RecsR h n0 idx [] recs → n0 ≤ h.next → okPairs ahead [] false [h.next] recs = true
  | [], _, _ => rfl
  | r :: rs, hr, hn => by
    unfold okPairs
    have ih := okPairs_new (ahead := ahead) (recs := rs) (fun x hx => hr x (List.mem_cons_of_mem _ hx)) hn
    rcases (hr r (by simp)).1 with ⟨i, fp, lo, rfl, h1⟩ | ⟨i, d, d', rfl, h1, _⟩
    · have : okPair [] false [h.next] (.op i fp false lo lo) = true := by
        show all1 [h.next] (fun k => !mem k fp) = true
        refine all1_each fun k hk => ?_
        rw [List.mem_singleton] at hk
        subst hk
        rw [mem_false fun x hx => by have := (h1 x hx).1; omega]; rfl
      rw [this]
      exact ih
    · cases h1
/-- A new variable in a drawn region. -/
theorem W.dal (ds : DS H h n0 idx [] recs) {t : TypeId} {s : TyS} (hgd : guardOn all tm o = some true) (hop : o.op = .alloc t) (hs : E.ty t = some s)
    (w : ∀ recs' h', (∀ r ∈ recs', recIdx r ∈ i :: idx) → Ext H h' → h'.next = h.next + 1 → h'.get h.next = some (.cells s.zero false) → W E (.draw bs all rest (i + 1) recs') (putTmp tm o.dst (.ptr (some (h.next, 0)))) h' Q) : W E (.draw bs all (o :: rest) i recs) tm h Q := by
  have hfp : fpAny E o tm = [] := by
    unfold fpAny
    rw [hop]; rfl
  have hwr : wrOf o.op = false := by rw [hop]; rfl
  have ho : opAny E o tm (only h (fpAny E o tm)) = some (.ptr (some (h.next, 0)), (only h []).new (.cells s.zero false)) := by
    rw [hfp]
    unfold opAny
    rw [hop]
    show newPtr (only h []) ((E.ty t).map (·.zero)) = _
    rw [hs]; rfl
  have hb : ∀ k, (back h ((only h []).new (.cells s.zero false)) ([] ++ [h.next])).get k = if k = h.next then some (.cells s.zero false) else h.get k := by
    intro k
    rw [back_get]
    by_cases e : k = h.next
    · subst e
      rw [if_pos (by simp), if_pos rfl]
      exact new_same (only h []) _
    · rw [if_neg (by simpa using e), if_neg e]
  have hx : Ext H (back h ((only h []).new (.cells s.zero false)) ([] ++ [h.next])) := by
    refine ⟨?_, fun k hk => ?_, fun f k hk => ?_⟩
    · rw [back_next]
      show H.next ≤ h.next + 1
      have := ds.x.next
      omega
    · have := ds.x.next
      rw [hb, if_neg (by omega)]
      exact ds.x.old k hk
    · rw [back_next] at hk
      have hk : h.next + 1 ≤ k := hk
      rw [hb, if_neg (by omega)]
      exact ds.x.fr f k (by omega)
  obtain ⟨r, ⟨N, e⟩, q⟩ := w (.op i [] false h.next (h.next + 1) :: recs) _ (fun r hm => by
    rcases List.mem_cons.1 hm with rfl | hm
    · simp [recIdx]
    · exact List.mem_cons_of_mem _ (ds.r r hm).2) hx (by rw [back_next]; rfl) (by rw [hb, if_pos rfl])
  refine ⟨r, .step ⟨N, fun m hm => ?_⟩, q⟩
  show (match guardOn all tm o with
      | some true => dOp E (run E m) bs all rest o i recs tm h
      | some false => run E m (.draw bs all rest (i + 1) recs) (putTmp tm o.dst (.tup [])) h
      | none => .stop) = r
  rw [hgd]
  show dOp E (run E m) bs all rest o i recs tm h = r
  rw [dOp_any ho, hfp, hwr]
  have hnb : Nat.beq (h.next + 1) h.next = false := by
    cases hb : Nat.beq (h.next + 1) h.next with
    | true => have := Nat.eq_of_beq_eq_true hb; omega
    | false => rfl
  have hsp : span h.next (h.next + 1 - h.next) = [h.next] := by
    rw [show h.next + 1 - h.next = 1 by omega]; rfl
  show (match isNil ([] : List Nat) && Nat.beq (h.next + 1) h.next with
    | true => _
    | false => match okPairs ((nth bs i).getD Bits.nil) [] false (span h.next (h.next + 1 - h.next)) recs with
      | true => run E m (.draw bs all rest (i + 1) (.op i [] false h.next (h.next + 1) :: recs)) (putTmp tm o.dst (.ptr (some (h.next, 0)))) (back h ((only h []).new (.cells s.zero false)) ([] ++ span h.next (h.next + 1 - h.next)))
      | false => .stop) = r
  rw [hnb, hsp, okPairs_new ds.r ds.m]
  exact e m hm
end
end Go.CM
