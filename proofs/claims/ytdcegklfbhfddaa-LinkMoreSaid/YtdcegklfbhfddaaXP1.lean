/- Rows of one's own that stand apart: each block has its tag. No condition, no program. -/
import Derived.Test.YtdcegklfbhfddaaXNo
noncomputable section
namespace Go.CM
set_option linter.unusedVariables false
set_option linter.unusedSimpArgs false

abbrev Tag := Nat × Nat
/-- A row of one's own with a tag; an empty one may lie in a block that nobody writes. -/
def OwnT (h : Heap) (own : Nat → Tag) (lo z : Nat) (t : Tag) (v : CV) (l : List (List CV)) : Prop :=
  (l = [] ∧ (v = .slice none 0 0 0 ∨ ∃ i cs ro, v = .slice (some (i, 0)) 0 0 0 ∧ lo ≤ i ∧ i < h.next ∧ own i = (9, 0) ∧ h.get i = some (.cells cs ro))) ∨
  ∃ i, v = .slice (some (i, 0)) l.length l.length z ∧ lo ≤ i ∧ i < h.next ∧ own i = t ∧ h.get i = some (.cells l.flatten false) ∧ (∀ e ∈ l, e.length = z) ∧ l ≠ []
/-- Nothing is turned but what has this tag. -/
structure Only (h h' : Heap) (own : Nat → Tag) (lo : Nat) (t : Tag) : Prop where
  next : h.next ≤ h'.next
  old : ∀ k, k < h.next → (k < lo ∨ own k ≠ t) → h'.get k = h.get k
  fr : Fresh h → Fresh h'
def updT (own : Nat → Tag) (n : Nat) (t : Tag) : Nat → Tag := fun k => if k = n then t else own k
theorem updT_same {own : Nat → Tag} {n : Nat} {t : Tag} : updT own n t n = t := by unfold updT; rw [if_pos rfl]
theorem updT_old {own : Nat → Tag} {n k : Nat} {t : Tag} (h : k < n) : updT own n t k = own k := by unfold updT; rw [if_neg (by omega)]
/-- Tags of blocks that are there are as they were. -/
def Tags (n : Nat) (own own' : Nat → Tag) : Prop := ∀ k, k < n → own' k = own k
theorem Tags.refl {n : Nat} {own : Nat → Tag} : Tags n own own := fun _ _ => rfl
theorem Tags.trans {n m : Nat} {a b c : Nat → Tag} (x : Tags n a b) (y : Tags m b c) (h : n ≤ m) : Tags n a c := fun k hk => (y k (Nat.lt_of_lt_of_le hk h)).trans (x k hk)
theorem Tags.upd {n m : Nat} {a b : Nat → Tag} {t : Tag} (x : Tags n a b) (h : n ≤ m) : Tags n a (updT b m t) := fun k hk => (updT_old (Nat.lt_of_lt_of_le hk h)).trans (x k hk)

section
variable {h h' : Heap} {own own' : Nat → Tag} {lo z : Nat} {t t' : Tag} {v : CV} {l : List (List CV)}
theorem Only.refl : Only h h own lo t := ⟨Nat.le_refl _, fun _ _ _ => rfl, id⟩
theorem Only.trans {a b c : Heap} (x : Only a b own lo t) (y : Only b c own lo t) : Only a c own lo t := ⟨Nat.le_trans x.next y.next, fun k hk hc => (y.old k (Nat.lt_of_lt_of_le hk x.next) hc).trans (x.old k hk hc), fun f => y.fr (x.fr f)⟩
theorem Ext.only (x : Ext h h') : Only h h' own lo t := ⟨x.next, fun k hk _ => x.old k hk, x.fr⟩
/-- Of a memory's elder part nothing is turned. -/
theorem Only.ext {h0 : Heap} (x : Ext h0 h) (y : Only h h' own lo t) (hl : h0.next ≤ lo) : Ext h0 h' := ⟨Nat.le_trans x.next y.next, fun k hk => (y.old k (Nat.lt_of_lt_of_le hk x.next) (.inl (by omega))).trans (x.old k hk), fun f => y.fr (x.fr f)⟩
theorem OwnT.keep (o : OwnT h own lo z t v l) (y : Only h h' own lo t') (hne : t ≠ t') (h9 : t' ≠ (9, 0)) : OwnT h' own lo z t v l := by
  rcases o with ⟨rfl, rfl | ⟨i, cs, ro, rfl, h1, h2, h3, h4⟩⟩ | ⟨i, rfl, h1, h2, h3, h4, h5, h6⟩
  · exact .inl ⟨rfl, .inl rfl⟩
  · exact .inl ⟨rfl, .inr ⟨i, cs, ro, rfl, h1, Nat.lt_of_lt_of_le h2 y.next, h3, (y.old i h2 (.inr (by rw [h3]; exact Ne.symm h9))).trans h4⟩⟩
  · exact .inr ⟨i, rfl, h1, Nat.lt_of_lt_of_le h2 y.next, h3, (y.old i h2 (.inr (by rw [h3]; exact hne))).trans h4, h5, h6⟩
theorem OwnT.ext (o : OwnT h own lo z t v l) (y : Ext h h') : OwnT h' own lo z t v l := by
  rcases o with ⟨rfl, rfl | ⟨i, cs, ro, rfl, h1, h2, h3, h4⟩⟩ | ⟨i, rfl, h1, h2, h3, h4, h5, h6⟩
  · exact .inl ⟨rfl, .inl rfl⟩
  · exact .inl ⟨rfl, .inr ⟨i, cs, ro, rfl, h1, Nat.lt_of_lt_of_le h2 y.next, h3, (y.old i h2).trans h4⟩⟩
  · exact .inr ⟨i, rfl, h1, Nat.lt_of_lt_of_le h2 y.next, h3, (y.old i h2).trans h4, h5, h6⟩
theorem OwnT.tags (o : OwnT h own lo z t v l) (y : Tags h.next own own') : OwnT h own' lo z t v l := by
  rcases o with ⟨rfl, rfl | ⟨i, cs, ro, rfl, h1, h2, h3, h4⟩⟩ | ⟨i, rfl, h1, h2, h3, h4, h5, h6⟩
  · exact .inl ⟨rfl, .inl rfl⟩
  · exact .inl ⟨rfl, .inr ⟨i, cs, ro, rfl, h1, h2, (y i h2).trans h3, h4⟩⟩
  · exact .inr ⟨i, rfl, h1, h2, (y i h2).trans h3, h4, h5, h6⟩
theorem OwnT.sl (o : OwnT h own lo z t v l) : SlG h z v l := by
  rcases o with ⟨rfl, rfl | ⟨i, cs, ro, rfl, h1, h2, h3, h4⟩⟩ | ⟨i, rfl, h1, h2, h3, h4, h5, h6⟩
  · exact .inl ⟨rfl, rfl⟩
  · exact .inr (.inr ⟨i, 0, 0, 0, cs, ro, rfl, h2, h4, (fun j e he => by simp at he), Nat.zero_le _, .inl rfl⟩)
  · exact .inr (.inr ⟨i, 0, l.length, z, _, false, rfl, h2, h4, (fun j e he => ⟨h5 e (List.mem_of_getElem? he), flat_cut h5 he⟩), Nat.le_refl _, .inr rfl⟩)
theorem OwnT.ownG (o : OwnT h own lo z t v l) : OwnG h lo z v l := by
  rcases o with ⟨rfl, rfl | ⟨i, cs, ro, rfl, h1, h2, h3, h4⟩⟩ | ⟨i, rfl, h1, h2, h3, h4, h5, h6⟩
  · exact .inl ⟨.inl rfl, rfl⟩
  · exact .inl ⟨.inr ⟨i, rfl⟩, rfl⟩
  · exact .inr ⟨i, rfl, h1, h2, h4, h5, h6⟩
/-- Where there is an element, there is a block with the tag. -/
theorem OwnT.at (o : OwnT h own lo z t v l) {j : Nat} (hj : j < l.length) : ∃ i, v = .slice (some (i, 0)) l.length l.length z ∧ lo ≤ i ∧ i < h.next ∧ own i = t ∧ h.get i = some (.cells l.flatten false) ∧ (∀ e ∈ l, e.length = z) := by
  rcases o with ⟨rfl, _⟩ | ⟨i, h1, h2, h3, h4, h5, h6, _⟩
  · simp at hj
  · exact ⟨i, h1, h2, h3, h4, h5, h6⟩
theorem OwnT.lenOf (o : OwnT h own lo z t v l) : LenOf v l.length := o.sl.lenOf
theorem OwnT.form (o : OwnT h own lo z t v l) : ∃ p n c x, v = .slice p n c x := by
  rcases o with ⟨_, rfl | ⟨i, _, _, rfl, _⟩⟩ | ⟨i, rfl, _⟩
  · exact ⟨_, _, _, _, rfl⟩
  · exact ⟨_, _, _, _, rfl⟩
  · exact ⟨_, _, _, _, rfl⟩
theorem OwnT.low {lo' : Nat} (o : OwnT h own lo z t v l) (hl : lo' ≤ lo) : OwnT h own lo' z t v l := by
  rcases o with ⟨rfl, rfl | ⟨i, cs, ro, rfl, h1, h2, h3, h4⟩⟩ | ⟨i, rfl, h1, h2, h3, h4, h5, h6⟩
  · exact .inl ⟨rfl, .inl rfl⟩
  · exact .inl ⟨rfl, .inr ⟨i, cs, ro, rfl, by omega, h2, h3, h4⟩⟩
  · exact .inr ⟨i, rfl, by omega, h2, h3, h4, h5, h6⟩
theorem Same.only (s : Same h h') : Only h h' own lo t := s.ext.only
theorem OwnT.nil : OwnT h own lo z t (.slice none 0 0 0) [] := .inl ⟨rfl, .inl rfl⟩
theorem Only.tags (y : Only h h' own lo t) (x : Tags h.next own own') : Only h h' own' lo t := ⟨y.next, fun k hk hc => y.old k hk (by rw [x k hk] at hc; exact hc), y.fr⟩

theorem flat_set {f : Nat} {x : CV} : ∀ {l : List (List CV)} {k : Nat} {e : List CV}, (∀ e ∈ l, e.length = z) → f < z → l[k]? = some e → l.flatten.set (k * z + f) x = (l.set k (e.set f x)).flatten
  | [], k, e, _, _, h => by simp at h
  | a :: l, 0, e, hz, hf, h => by
    simp at h
    subst h
    have := hz a (by simp)
    rw [Nat.zero_mul, Nat.zero_add, List.flatten_cons, List.set_append_left _ _ (by omega)]
    rfl
  | a :: l, k + 1, e, hz, hf, h => by
    have ih := flat_set (l := l) (k := k) (e := e) (x := x) (fun x hx => hz x (List.mem_cons_of_mem _ hx)) hf (by simpa using h)
    have := hz a (by simp)
    rw [Nat.succ_mul, List.flatten_cons, List.set_append_right _ _ (by omega), show k * z + z + f - a.length = k * z + f by omega, ih]
    rfl
theorem setAt_one {cs : List CV} {x : CV} {o : Nat} (h : o < cs.length) : setAt cs [x] o = some (cs.set o x) := by
  rw [setAt_eq, if_pos (by simp only [List.length_cons, List.length_nil]; omega)]
  congr 1
  rw [List.set_eq_take_append_cons_drop, if_pos h]
  simp
theorem flat_len2 {k : Nat} {e : List CV} {f : Nat} (hz : ∀ e ∈ l, e.length = z) (hf : f < z) (hk : l[k]? = some e) : k * z + f < l.flatten.length := by
  rw [flat_len hz]
  have hk := (List.getElem?_eq_some_iff.1 hk).1
  have : (k + 1) * z ≤ l.length * z := Nat.mul_le_mul_right _ hk
  rw [Nat.succ_mul] at this
  omega
/-- One cell of an element is turned. -/
theorem flat_setAt {k : Nat} {e : List CV} {f : Nat} {x : CV} (hz : ∀ e ∈ l, e.length = z) (hf : f < z) (hk : l[k]? = some e) : setAt l.flatten [x] (0 + k * z + f) = some (l.set k (e.set f x)).flatten := by
  rw [Nat.zero_add, setAt_one (flat_len2 hz hf hk), flat_set hz hf hk]
theorem flat_get {k : Nat} {e : List CV} {f : Nat} {x : CV} (hz : ∀ e ∈ l, e.length = z) (hk : l[k]? = some e) (hx : e[f]? = some x) : nth l.flatten (0 + k * z + f) = some x := cut_nth (flat_cut hz hk) hx
/-- What a memory says that differs in one block of the tag. -/
theorem only_of {i : Nat} (hi : own i = t) (hlo : lo ≤ i) (hn : h'.next = h.next) (hi2 : i < h.next) (hk : ∀ k, k ≠ i → h'.get k = h.get k) : Only h h' own lo t := ⟨by omega, fun k _ hc => hk k (by
  rintro rfl
  rcases hc with hc | hc
  · omega
  · exact hc hi), fun f k hk' => by
    rw [hn] at hk'
    exact (hk k (by omega)).trans (f k hk')⟩
end

section
variable {E : Env} {tm : Tm} {h : Heap} {own : Nat → Tag} {Q : R → Prop} {all rest : List Oper} {o : Oper}
/-- A row behind nothing: a copy. -/
theorem W.cpT {c : Call} {t t2 e : TypeId} {ts es t2s : TyS} {v : CV} {z lo i0 : Nat} {cs0 : List CV} {ro0 : Bool} (tag : Tag) {l : List (List CV)} (h1 : lo ≤ i0) (h2 : i0 < h.next) (h3 : own i0 = (9, 0)) (h4 : h.get i0 = some (.cells cs0 ro0)) (sl : SlG h z v l) (hlo : lo ≤ h.next)
    (hgd : guardOn all tm o = some true) (hop : o.op = .call c) (hb : isBuiltin c.callee = some .append) (hty : c.argTypes.toList = [t, t2]) (ha : c.args.toList.map (cvOf E.globs tm) = [.slice (some (i0, 0)) 0 0 0, v])
    (hts : E.ty t = some ts) (hk : ts.kind = .slice e) (hes : E.ty e = some es) (hz : es.size = z) (hz0 : (Nat.beq es.size 0 || Nat.beq es.bytes 0) = false) (ht2 : E.ty t2 = some t2s) (hk2 : t2s.kind = .slice e) (hm : l.length * es.bytes ≤ 70368744177664)
    (w : ∀ v' h', Ext h h' → OwnT h' (updT own h.next tag) lo z tag v' l → W E (.ops all rest) (putTmp tm o.dst v') h' Q) : W E (.ops all (o :: rest)) tm h Q := by
  refine W.cpG (.inr ⟨i0, rfl⟩) sl hlo hgd hop hb hty ha hts hk hes hz hz0 ht2 hk2 hm fun v' h' x g he hn => w v' h' x ?_
  by_cases hl : l = []
  · obtain ⟨rfl, rfl⟩ := he hl
    exact .inl ⟨hl, .inr ⟨i0, cs0, ro0, rfl, h1, h2, (updT_old h2).trans h3, h4⟩⟩
  · obtain ⟨rfl, rfl⟩ := hn hl
    have hz5 : ∀ e ∈ l, e.length = z := by
      rcases g with ⟨_, rfl⟩ | ⟨i, _, _, _, _, h5, _⟩
      · exact absurd rfl hl
      · exact h5
    exact .inr ⟨h.next, rfl, hlo, Nat.lt_succ_self _, updT_same, new_same _ _, hz5, hl⟩
/-- One element more behind a row of one's own. -/
theorem W.apT {c : Call} {t t2 e : TypeId} {ts es t2s : TyS} {s : CV} {z lo j cc xx : Nat} {ro : Bool} {tag : Tag} {l : List (List CV)} {el : List CV} (so : OwnT h own lo z tag s l) (h9 : tag ≠ (9, 0)) (hlo : lo ≤ h.next) (hj : h.get j = some (.cells el ro)) (hel : el.length = z)
    (hgd : guardOn all tm o = some true) (hop : o.op = .call c) (hb : isBuiltin c.callee = some .append) (hty : c.argTypes.toList = [t, t2]) (ha : c.args.toList.map (cvOf E.globs tm) = [s, .slice (some (j, 0)) 1 cc xx])
    (hts : E.ty t = some ts) (hk : ts.kind = .slice e) (hes : E.ty e = some es) (hz : es.size = z) (hz0 : (Nat.beq es.size 0 || Nat.beq es.bytes 0) = false) (ht2 : E.ty t2 = some t2s) (hk2 : t2s.kind = .slice e) (hm : (l.length + 1) * es.bytes ≤ 70368744177664)
    (w : ∀ v' h', h'.next = h.next + 1 → Only h h' own lo tag → OwnT h' (updT own h.next tag) lo z tag v' (l ++ [el]) → W E (.ops all rest) (putTmp tm o.dst v') h' Q) : W E (.ops all (o :: rest)) tm h Q := by
  refine W.ap1 so.ownG hlo hj hel hgd hop hb hty ha hts hk hes hz hz0 ht2 hk2 hm fun v' h' hn g hk' hv hg hfr => w v' h' hn ⟨by omega, fun k hk hc => ?_, hfr⟩ ?_
  · refine hk' k hk ?_
    rcases so with ⟨rfl, _⟩ | ⟨i, rfl, g1, g2, g3, g4, _⟩
    · exact .inl rfl
    · refine .inr fun n c x e => ?_
      injection e with e1
      injection e1 with e1
      injection e1 with e1
      subst e1
      rcases hc with hc | hc
      · omega
      · exact hc g3
  · have hz5 : ∀ e ∈ l ++ [el], e.length = z := by
      rcases g with ⟨_, h0⟩ | ⟨i, _, _, _, _, h5, _⟩
      · simp at h0
      · exact h5
    exact .inr ⟨h.next, by rw [hv]; simp, hlo, by omega, updT_same, hg, hz5, by simp⟩
end
end Go.CM
