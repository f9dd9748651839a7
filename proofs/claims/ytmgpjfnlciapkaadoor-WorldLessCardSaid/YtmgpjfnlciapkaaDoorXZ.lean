/- Drawn regions where a row of one's own grows beside looks at blocks that nothing turns. No condition, no program. (Printed by xz.py.) -/
import Derived.Test.YtmgpjfnlciapkaaDoorYR
noncomputable section
namespace Go.CM
set_option linter.unusedVariables false
set_option linter.unusedSimpArgs false
section
variable {h h' H : Heap} {lo z : Nat} {v : CV} {l : List (List CV)} {E : Env} {tm : Tm} {Q : R → Prop} {all rest : List Oper} {o : Oper} {B : Nat → Prop} {bs : List Bits} {recs : List Rec} {i : Nat} {idx nr : List Nat}
/-- The same; those that are no looks at protected blocks have these numbers. -/
structure DV (B : Nat → Prop) (h : Heap) (idx nr : List Nat) (recs : List Rec) : Prop where
  d : DY B h idx recs
  r : ∀ r ∈ recs, recIdx r ∈ nr ∨ ∃ i fp lo, r = .op i fp false lo lo ∧ (∀ k ∈ fp, B k) ∧ ∀ k ∈ fp, k < h.next
theorem DV.start (hb : ∀ b, B b → b < h.next) : DV B h [] [] [] := ⟨DY.start hb, fun _ h => by cases h⟩
theorem DV.more {h' : Heap} {idx' nr' : List Nat} {r0 : Rec} (dv : DV B h idx nr recs) (d : DY B h' idx' (r0 :: recs)) (hn : h.next ≤ h'.next) (h0 : recIdx r0 ∈ nr' ∨ ∃ i fp lo, r0 = .op i fp false lo lo ∧ (∀ k ∈ fp, B k) ∧ ∀ k ∈ fp, k < h'.next) (hs : ∀ j ∈ nr, j ∈ nr') : DV B h' idx' nr' (r0 :: recs) := ⟨d, fun r hr => by
  rcases List.mem_cons.1 hr with rfl | hr
  · exact h0
  · rcases dv.r r hr with h1 | ⟨i, fp, lo, h1, h2, h3⟩
    · exact .inl (hs _ h1)
    · exact .inr ⟨i, fp, lo, h1, h2, fun k hk => Nat.lt_of_lt_of_le (h3 k hk) hn⟩⟩
theorem DV.pairs {ahead : Bits} {fp : List Nat} {news : List Nat} (hB : ∀ b, B b → b ∉ fp) (hnew : ∀ k ∈ news, h.next ≤ k) (hnr : ∀ j ∈ nr, bit j ahead = true) : ∀ {recs : List Rec}, (∀ r ∈ recs, recIdx r ∈ nr ∨ ∃ i fp lo, r = .op i fp false lo lo ∧ (∀ k ∈ fp, B k) ∧ ∀ k ∈ fp, k < h.next) → okPairs ahead fp true news recs = true
  | [], _ => rfl
  | r :: rs, hr => by
    unfold okPairs
    have ih := DV.pairs (fp := fp) (news := news) hB hnew hnr (recs := rs) fun x hx => hr x (List.mem_cons_of_mem _ hx)
    rcases hr r (by simp) with h1 | ⟨i, fp', lo, rfl, h2, h3⟩
    · rw [hnr _ h1, ih]
      cases okPair fp true news r <;> rfl
    · have : okPair fp true news (.op i fp' false lo lo) = true := by
        rw [okPair_op, all1_each fun k hk => by
          unfold opApart
          rw [within_self]
          show (!mem k fp') = true
          rw [mem_false fun x hx e => hB x (h2 x hx) (by rw [e]; exact hk)]; rfl]
        show all1 news (fun k => !mem k fp') = true
        refine all1_each fun k hk => ?_
        rw [mem_false fun x hx e => by have := h3 x hx; have := hnew k hk; omega]; rfl
      rw [this]
      exact ih
/-- A cell of a place that nothing turns. -/
theorem W.ldV {t : TypeId} {x : Operand} {id off k : Nat} {e : List CV} {s : TyS} {v : CV} (dv : DV B h idx nr recs) (hB : B id) (L : LocE h id off e) (hgd : guardOn all tm o = some true) (hop : o.op = .load t x) (hx : cvOf E.globs tm x = .ptr (some (id, off + k))) (hs : E.ty t = some s) (h1 : s.size = 1) (h2 : s.agg = false) (he : e[k]? = some v)
    (w : ∀ recs' h', DV B h' (i :: idx) nr recs' → Same h h' → LocE h' id off e → W E (.draw bs all rest (i + 1) recs') (putTmp tm o.dst v) h' Q) : W E (.draw bs all (o :: rest) i recs) tm h Q := by
  obtain ⟨cs, ro, g1, g2, g3⟩ := L
  have hn := cut_nth g3 he
  have hfp : fpAny E o tm = [id] := by
    unfold fpAny
    rw [hop]
    show idOf (cvOf E.globs tm x) = [id]
    rw [hx]; rfl
  have hwr : wrOf o.op = false := by rw [hop]; rfl
  have hget : (only h [id]).get id = some (.cells cs ro) := by rw [only_get]; simpa using g1
  have ho : opAny E o tm (only h (fpAny E o tm)) = some (v, only h [id]) := by
    rw [hfp]
    unfold opAny
    rw [hop]
    show oLoad E t (cvOf E.globs tm x) (only h [id]) = _
    rw [hx]
    have hp : CM.part cs (off + k) s.size s.agg = some v := by rw [h1, h2]; exact hn
    unfold oLoad CM.load loadB
    simp only [hget, hs, hp, withH]
  have hsame : Same h (back h (only h [id]) ([id] ++ span h.next 0)) := by
    refine ⟨by rw [back_next, only_next], fun k => ?_⟩
    rw [back_get]
    split
    · rename_i hk
      have : k = id := by
        have hk : k ∈ [id] := hk
        simpa using hk
      subst this
      rw [hget, g1]
    · rfl
  obtain ⟨r, ⟨N, e⟩, q⟩ := w (.op i [id] false h.next h.next :: recs) _ (dv.more ((dv.d.cons (Nat.le_refl _) (fun k hk => by rw [List.mem_singleton] at hk; rw [hk]; exact g2) fun b hb => ⟨dv.d.b b hb, fun h => by cases h⟩).same hsame.next) (Nat.le_of_eq hsame.next.symm) (.inr ⟨i, [id], h.next, rfl, fun k hk => by rw [List.mem_singleton] at hk; rw [hk]; exact hB, fun k hk => by rw [List.mem_singleton] at hk; rw [hk, hsame.next]; exact g2⟩) fun j hj => hj) hsame (LocE.ext ⟨cs, ro, g1, g2, g3⟩ hsame.ext)
  refine ⟨r, .step ⟨N, fun m hm => ?_⟩, q⟩
  show (match guardOn all tm o with
      | some true => dOp E (run E m) bs all rest o i recs tm h
      | some false => run E m (.draw bs all rest (i + 1) recs) (putTmp tm o.dst (.tup [])) h
      | none => .stop) = r
  rw [hgd]
  show dOp E (run E m) bs all rest o i recs tm h = r
  rw [dOp_any ho, hfp, hwr]
  have hnx : (only h [id]).next = h.next := only_next _ _
  show (match okPairs ((nth bs i).getD Bits.nil) [id] false (span h.next ((only h [id]).next - h.next)) recs with
    | true => run E m (.draw bs all rest (i + 1) (.op i [id] false h.next (only h [id]).next :: recs)) (putTmp tm o.dst v) (back h (only h [id]) ([id] ++ span h.next ((only h [id]).next - h.next)))
    | false => .stop) = r
  rw [hnx, Nat.sub_self]
  have : okPairs ((nth bs i).getD Bits.nil) [id] false (span h.next 0) recs = true := DY.pairs_read hB dv.d
  rw [this]
  exact e m hm
/-- A new block. -/
theorem W.newV {b : Blk} {v : CV} (dv : DV B h idx nr recs) (hgd : guardOn all tm o = some true) (hfp : fpAny E o tm = []) (hwr : wrOf o.op = false) (ho : opAny E o tm (only h []) = some (v, (only h []).new b))
    (w : ∀ recs' h', DV B h' (i :: idx) (i :: nr) recs' → Ext h h' → h'.next = h.next + 1 → h'.get h.next = some b → W E (.draw bs all rest (i + 1) recs') (putTmp tm o.dst v) h' Q) : W E (.draw bs all (o :: rest) i recs) tm h Q := by
  have ho : opAny E o tm (only h (fpAny E o tm)) = some (v, (only h []).new b) := by rw [hfp]; exact ho
  have hb : ∀ k, (back h ((only h []).new b) ([] ++ [h.next])).get k = if k = h.next then some b else h.get k := by
    intro k
    rw [back_get]
    by_cases e : k = h.next
    · subst e
      rw [if_pos (by simp), if_pos rfl]
      exact new_same (only h []) _
    · rw [if_neg (by simpa using e), if_neg e]
  have hnx : (back h ((only h []).new b) ([] ++ [h.next])).next = h.next + 1 := by rw [back_next]; rfl
  have hx : Ext h (back h ((only h []).new b) ([] ++ [h.next])) := by
    refine ⟨by omega, fun k hk => ?_, fun f k hk => ?_⟩
    · rw [hb, if_neg (by omega)]
    · rw [hnx] at hk
      rw [hb, if_neg (by omega)]
      exact f k (by omega)
  obtain ⟨r, ⟨N, e⟩, q⟩ := w (.op i [] false h.next (h.next + 1) :: recs) _ (dv.more (dv.d.cons (by omega) (fun k hk => by cases hk) fun b hb => ⟨dv.d.b b hb, fun h => by cases h⟩) (by omega) (.inl (by simp [recIdx])) fun j hj => List.mem_cons_of_mem _ hj) hx hnx (by rw [hb, if_pos rfl])
  refine ⟨r, .step ⟨N, fun m hm => ?_⟩, q⟩
  show (match guardOn all tm o with
      | some true => dOp E (run E m) bs all rest o i recs tm h
      | some false => run E m (.draw bs all rest (i + 1) recs) (putTmp tm o.dst (.tup [])) h
      | none => .stop) = r
  rw [hgd]
  show dOp E (run E m) bs all rest o i recs tm h = r
  rw [dOp_any ho, hfp, hwr]
  have hnb : Nat.beq (h.next + 1) h.next = false := by
    cases hb : Nat.beq (h.next + 1) h.next with
    | true => have := Nat.eq_of_beq_eq_true hb; omega
    | false => rfl
  have hsp : span h.next (h.next + 1 - h.next) = [h.next] := by
    rw [show h.next + 1 - h.next = 1 by omega]; rfl
  show (match isNil ([] : List Nat) && Nat.beq (h.next + 1) h.next with
    | true => _
    | false => match okPairs ((nth bs i).getD Bits.nil) [] false (span h.next (h.next + 1 - h.next)) recs with
      | true => run E m (.draw bs all rest (i + 1) (.op i [] false h.next (h.next + 1) :: recs)) (putTmp tm o.dst v) (back h ((only h []).new b) ([] ++ span h.next (h.next + 1 - h.next)))
      | false => .stop) = r
  rw [hnb, hsp, DY.pairs_new dv.d]
  exact e m hm
/-- A row behind a row of one's own, behind all that was done. -/
theorem W.apV {c : Call} {t t2 e : TypeId} {ts es t2s : TyS} {s s2 : CV} {l2 : List (List CV)} (dv : DV B h idx nr recs) (X : Ext H h) (so : OwnR h H.next z s l) (s2l : SlG h z s2 l2) (hB : ∀ b, B b → b ∉ idOf s ++ idOf s2) (hid : (nr.all fun j => bit j ((nth bs i).getD Bits.nil)) = true)
    (hgd : guardOn all tm o = some true) (hop : o.op = .call c) (hb : c.callee = .builtin .append) (hty : c.argTypes.toList = [t, t2]) (ha : c.args.toList.map (cvOf E.globs tm) = [s, s2])
    (hts : E.ty t = some ts) (hk : ts.kind = .slice e) (hes : E.ty e = some es) (hz : es.size = z) (hz0 : (Nat.beq es.size 0 || Nat.beq es.bytes 0) = false) (ht2 : E.ty t2 = some t2s) (hk2 : t2s.kind = .slice e) (hm : (l.length + l2.length) * es.bytes ≤ 70368744177664)
    (w : ∀ recs' v' h', DV B h' (i :: idx) (i :: nr) recs' → Ext H h' → (∀ b, B b → h'.get b = h.get b) → h.next ≤ h'.next → OwnR h' H.next z v' (l ++ l2) → (∀ c, c < h.next → idOf s ≠ [c] → idOf v' ≠ [c]) → W E (.draw bs all rest (i + 1) recs') (putTmp tm o.dst v') h' Q) : W E (.draw bs all (o :: rest) i recs) tm h Q := by
  have d := dv.d
  have hfp : fpAny E o tm = idOf s ++ idOf s2 := by
    unfold fpAny
    rw [hop]
    simp only [fpOf, hb]
    rw [show (c.args.toList.map fun x => idOf (cvOf E.globs tm x)) = (c.args.toList.map (cvOf E.globs tm)).map idOf by rw [List.map_map]; rfl, ha]
    simp
  have hwr : wrOf o.op = true := by rw [hop]; simp only [wrOf, hb]
  obtain ⟨fp, hfpe⟩ : ∃ fp, fp = idOf s ++ idOf s2 := ⟨_, rfl⟩
  rw [← hfpe] at hfp hB
  have g0 : ∀ k, k ∈ fp → (only h fp).get k = h.get k := fun k hk => by rw [only_get, if_pos hk]
  have nx : (only h fp).next = h.next := only_next _ _
  have so' : OwnR (only h fp) H.next z s l := so.other (by rw [nx]; exact Nat.le_refl _) fun k _ _ hk => g0 k (by rw [hfpe, hk]; simp)
  have s2' : SlG (only h fp) z s2 l2 := by
    rcases s2l with ⟨rfl, rfl⟩ | ⟨rfl, rfl⟩ | ⟨i, o, c, x, cs, ro, rfl, g2, g3, g4, g5, g6⟩
    · exact .inl ⟨rfl, rfl⟩
    · exact .inr (.inl ⟨rfl, rfl⟩)
    · exact .inr (.inr ⟨i, o, c, x, cs, ro, rfl, by rw [nx]; exact g2, (g0 i (by rw [hfpe]; simp [idOf])).trans g3, g4, g5, g6⟩)
  have hlt : ∀ k, k ∈ fp → k < h.next := fun k hk => by
    rw [hfpe] at hk
    rcases List.mem_append.1 hk with hk | hk
    · rcases so with ⟨rfl, rfl⟩ | ⟨i, y, ro, rfl, h1, h2, _⟩
      · cases hk
      · have : k = i := by simpa [idOf] using hk
        rw [this]; exact h2
    · rcases s2l with ⟨rfl, rfl⟩ | ⟨rfl, rfl⟩ | ⟨i, o, c, x, cs, ro, rfl, g2, g3, g4, g5, g6⟩
      · cases hk
      · cases hk
      · have : k = i := by simpa [idOf] using hk
        rw [this]; exact g2
  obtain ⟨v', hh, k1, k2, k2b, k3, k4, k5, k6, k7⟩ := append_own (by rw [nx]; exact X.next) so' s2' hts hk hes hz hz0 ht2 hk2 hm
  rw [nx] at k2 k2b k3
  have ho : opAny E o tm (only h (fpAny E o tm)) = some (v', hh) := by
    rw [hfp]
    unfold opAny
    rw [hop]
    simp only [hb]
    show builtinV E _ .append c.argTypes.toList (c.args.toList.map (cvOf E.globs tm)) = _
    rw [hty, ha]
    exact k1
  have hbk : ∀ k, k < h.next → k < H.next ∨ idOf s ≠ [k] → (back h hh (fp ++ span h.next (hh.next - h.next))).get k = h.get k := by
    intro k hk hc
    rw [back_get]
    split
    · rename_i hm
      rcases List.mem_append.1 hm with hm | hm
      · rw [k3 k hk hc, g0 k hm]
      · exfalso
        have : hh.next = h.next ∨ hh.next = h.next + 1 := by omega
        rcases this with e | e
        · rw [e, Nat.sub_self] at hm; cases hm
        · rw [e, show h.next + 1 - h.next = 1 by omega] at hm
          have : k = h.next := by
            have hm : k ∈ [h.next + 0] := hm
            simpa using hm
          omega
    · rfl
  have hbn : (back h hh (fp ++ span h.next (hh.next - h.next))).next = hh.next := back_next _ _ _
  have X' : Ext H (back h hh (fp ++ span h.next (hh.next - h.next))) := by
    refine ⟨by rw [hbn]; exact Nat.le_trans X.next k2, fun k hk => (hbk k (Nat.lt_of_lt_of_le hk X.next) (.inl hk)).trans (X.old k hk), fun f k hk => ?_⟩
    rw [hbn] at hk
    rw [back_get]
    have fh := X.fr f
    split
    · rename_i hm
      rcases List.mem_append.1 hm with hm | hm
      · have := hlt k hm; omega
      · exfalso
        have : hh.next = h.next ∨ hh.next = h.next + 1 := by omega
        rcases this with e | e
        · rw [e, Nat.sub_self] at hm; cases hm
        · rw [e, show h.next + 1 - h.next = 1 by omega] at hm
          have : k = h.next := by
            have hm : k ∈ [h.next + 0] := hm
            simpa using hm
          omega
    · exact fh k (by omega)
  have k5' : OwnR (back h hh (fp ++ span h.next (hh.next - h.next))) H.next z v' (l ++ l2) := by
    have gg : ∀ k, k ∈ fp ∨ (h.next ≤ k ∧ k < hh.next) → (back h hh (fp ++ span h.next (hh.next - h.next))).get k = hh.get k := by
      intro k hc
      rw [back_get, if_pos]
      rcases hc with hc | ⟨c1, c2⟩
      · exact List.mem_append_left _ hc
      · refine List.mem_append_right _ ?_
        have : k = h.next := by omega
        rw [show hh.next - h.next = 1 by omega, this]
        show h.next ∈ [h.next + 0]
        simp
    rw [nx] at k7
    have inn : ∀ i, idOf v' = [i] → i < hh.next → i ∈ fp ∨ (h.next ≤ i ∧ i < hh.next) := by
      intro i hi hlt2
      by_cases hl2 : l2 = []
      · left
        rw [hfpe, ← (k6 hl2).1, hi]
        simp
      · right
        have := (k7 hl2).1
        rw [hi] at this
        have : i = h.next := by simpa using this
        omega
    rcases k5 with ⟨e0, rfl⟩ | ⟨i, y, ro, rfl, h1, h2, h3, h4, h5⟩
    · exact .inl ⟨e0, rfl⟩
    · exact .inr ⟨i, y, ro, rfl, h1, by rw [hbn]; exact h2, (gg i (inn i rfl h2)).trans h3, h4, h5⟩
  have hall : okPairs ((nth bs i).getD Bits.nil) fp true (span h.next (hh.next - h.next)) recs = true := DV.pairs hB (fun k hk => by
    have : hh.next = h.next ∨ hh.next = h.next + 1 := by omega
    rcases this with e | e
    · rw [e, Nat.sub_self] at hk; cases hk
    · rw [e, show h.next + 1 - h.next = 1 by omega] at hk
      have hk : k ∈ [h.next + 0] := hk
      have : k = h.next := by simpa using hk
      omega) (fun j hj => List.all_eq_true.1 hid j hj) dv.r
  have kid : ∀ c, c < h.next → idOf s ≠ [c] → idOf v' ≠ [c] := by
    intro c hc hs
    by_cases hl2 : l2 = []
    · rw [(k6 hl2).1]; exact hs
    · have := (k7 hl2).1
      rw [nx] at this
      rw [this]
      intro e
      have : h.next = c := by simpa using e
      omega
  by_cases hno : fp = [] ∧ hh.next = h.next
  · have hl2 : l2 = [] := by
      by_cases hl2 : l2 = []
      · exact hl2
      · have := (k7 hl2).2
        rw [nx] at this
        omega
    have hv := (k6 hl2).1
    obtain ⟨r, ⟨N, e⟩, q⟩ := w recs v' h ⟨⟨fun r hr => ⟨List.mem_cons_of_mem _ (d.r r hr).1, (d.r r hr).2⟩, d.b⟩, fun r hr => (dv.r r hr).imp (List.mem_cons_of_mem _) id⟩ X (fun _ _ => rfl) (Nat.le_refl _) (by rw [hl2, List.append_nil, hv]; exact so) (fun c _ hc => by rw [hv]; exact hc)
    refine ⟨r, .step ⟨N, fun m hm => ?_⟩, q⟩
    show (match guardOn all tm o with
      | some true => dOp E (run E m) bs all rest o i recs tm h
      | some false => run E m (.draw bs all rest (i + 1) recs) (putTmp tm o.dst (.tup [])) h
      | none => .stop) = r
    rw [hgd]
    show dOp E (run E m) bs all rest o i recs tm h = r
    rw [dOp_any ho, hfp, hwr, hno.1]
    show (match isNil ([] : List Nat) && Nat.beq hh.next h.next with
      | true => run E m (.draw bs all rest (i + 1) recs) (putTmp tm o.dst v') h
      | false => _) = r
    rw [hno.2, Nat.beq_refl]
    exact e m hm
  · obtain ⟨r, ⟨N, e⟩, q⟩ := w (.op i fp true h.next hh.next :: recs) v' _ (dv.more (d.cons (by rw [hbn]; exact k2) (fun k hk => Nat.lt_of_lt_of_le (hlt k hk) (by rw [hbn]; exact k2)) fun b hb => ⟨d.b b hb, fun _ => hB b hb⟩) (by rw [hbn]; exact k2) (.inl (by simp [recIdx])) fun j hj => List.mem_cons_of_mem _ hj) X' (fun b hb => hbk b (d.b b hb) (.inr (fun e => hB b hb (by rw [hfpe, e]; simp)))) (by rw [hbn]; exact k2) k5' kid
    refine ⟨r, .step ⟨N, fun m hm => ?_⟩, q⟩
    show (match guardOn all tm o with
      | some true => dOp E (run E m) bs all rest o i recs tm h
      | some false => run E m (.draw bs all rest (i + 1) recs) (putTmp tm o.dst (.tup [])) h
      | none => .stop) = r
    rw [hgd]
    show dOp E (run E m) bs all rest o i recs tm h = r
    rw [dOp_any ho, hfp, hwr]
    have hcond : (isNil fp && Nat.beq hh.next h.next) = false := by
      cases hf : fp with
      | cons a b => rfl
      | nil =>
        cases hb : Nat.beq hh.next h.next with
        | false => rfl
        | true => exact absurd ⟨hf, Nat.eq_of_beq_eq_true hb⟩ hno
    show (match isNil fp && Nat.beq hh.next h.next with
      | true => run E m (.draw bs all rest (i + 1) recs) (putTmp tm o.dst v') h
      | false => match okPairs ((nth bs i).getD Bits.nil) fp true (span h.next (hh.next - h.next)) recs with
        | true => run E m (.draw bs all rest (i + 1) (.op i fp true h.next hh.next :: recs)) (putTmp tm o.dst v') (back h hh (fp ++ span h.next (hh.next - h.next)))
        | false => .stop) = r
    rw [hcond, hall]
    exact e m hm
/-- An operation behind all that was done that turns one block. -/
theorem W.dput {id : Nat} {B1 B2 : Blk} {v : CV} (hri : ∀ r ∈ recs, recIdx r ∈ idx) (hid : (idx.all fun j => bit j ((nth bs i).getD Bits.nil)) = true) (hgd : guardOn all tm o = some true) (hfp : fpAny E o tm = [id]) (hwr : wrOf o.op = true) (hg : h.get id = some B1)
    (ho : ∀ h0 : Heap, h0.get id = some B1 → opAny E o tm h0 = some (v, h0.put id B2))
    (w : ∀ recs' h', (∀ r ∈ recs', recIdx r ∈ i :: idx) → Same (h.put id B2) h' → W E (.draw bs all rest (i + 1) recs') (putTmp tm o.dst v) h' Q) : W E (.draw bs all (o :: rest) i recs) tm h Q := by
  have hget : (only h [id]).get id = some B1 := by rw [only_get]; simpa using hg
  have ho : opAny E o tm (only h (fpAny E o tm)) = some (v, (only h [id]).put id B2) := by
    rw [hfp]
    exact ho _ hget
  have hnx : ((only h [id]).put id B2).next = h.next := only_next _ _
  have hsame : Same (h.put id B2) (back h ((only h [id]).put id B2) ([id] ++ span h.next 0)) := by
    refine ⟨by rw [back_next, hnx]; rfl, fun k => ?_⟩
    rw [back_get, Heap.get_put, Heap.get_put]
    split
    · rename_i hk
      have : k = id := by
        have hk : k ∈ [id] := hk
        simpa using hk
      subst this
      simp
    · rename_i hk
      have : ¬ id = k := by
        intro e; subst e
        exact hk (by show id ∈ [id]; simp)
      rw [if_neg this]
  have hall : ∀ r ∈ recs, bit (recIdx r) ((nth bs i).getD Bits.nil) = true := fun r hm => List.all_eq_true.1 hid _ (hri r hm)
  obtain ⟨r, ⟨N, e⟩, q⟩ := w (.op i [id] true h.next h.next :: recs) _ (fun r hm => by
    rcases List.mem_cons.1 hm with rfl | hm
    · simp [recIdx]
    · exact List.mem_cons_of_mem _ (hri r hm)) hsame
  refine ⟨r, .step ⟨N, fun m hm => ?_⟩, q⟩
  show (match guardOn all tm o with
      | some true => dOp E (run E m) bs all rest o i recs tm h
      | some false => run E m (.draw bs all rest (i + 1) recs) (putTmp tm o.dst (.tup [])) h
      | none => .stop) = r
  rw [hgd]
  show dOp E (run E m) bs all rest o i recs tm h = r
  rw [dOp_any ho, hfp, hwr]
  show (match okPairs ((nth bs i).getD Bits.nil) [id] true (span h.next (((only h [id]).put id B2).next - h.next)) recs with
    | true => run E m (.draw bs all rest (i + 1) (.op i [id] true h.next ((only h [id]).put id B2).next :: recs)) (putTmp tm o.dst v) (back h ((only h [id]).put id B2) ([id] ++ span h.next (((only h [id]).put id B2).next - h.next)))
    | false => .stop) = r
  rw [hnx, Nat.sub_self, okPairs_ahead hall]
  exact e m hm
end
end Go.CM

noncomputable section
namespace Go.CM
set_option linter.unusedVariables false
set_option linter.unusedSimpArgs false

theorem findKey_str {E : Env} {kt : TypeId} (hq : ∀ a b : Str, eqT E 20 kt (.str a) (.str b) = some (bytesEq a b)) {s : Str} : ∀ {es : List ME} {names : List Str} {i : Nat}, es.map (·.key) = names.map CV.str →
    (s ∈ names → ∃ p, findKey E kt (.str s) es i = some (some p)) ∧ (s ∉ names → findKey E kt (.str s) es i = some none)
  | [], [], i, _ => ⟨fun h => (by cases h), fun _ => rfl⟩
  | [], a :: names, i, h => by simp at h
  | e :: es, [], i, h => by simp at h
  | e :: es, a :: names, i, h => by
    have h1 : e.key = .str a := by simpa using (List.cons.inj h).1
    have h2 : es.map (·.key) = names.map CV.str := (List.cons.inj h).2
    have ih := findKey_str hq (s := s) (es := es) (names := names) (i := i + 1) h2
    unfold findKey
    rw [h1, hq, bytesEq_eq]
    by_cases c : s = a
    · rw [decide_eq_true c]
      exact ⟨fun _ => ⟨_, rfl⟩, fun h => absurd (by rw [c]; simp) h⟩
    · rw [decide_eq_false c]
      refine ⟨fun h => ih.1 ?_, fun h => ih.2 fun h2 => h (List.mem_cons_of_mem _ h2)⟩
      rcases List.mem_cons.1 h with h | h
      · exact absurd h c
      · exact h
theorem findBorn_some {n : Nat} : ∀ {es : List ME} {j : Nat}, (∃ e ∈ es, e.born = n) → ∃ i, findBorn (Int.ofNat n) es j = some i
  | [], j, h => by obtain ⟨e, he, _⟩ := h; cases he
  | e :: es, j, h => by
    unfold findBorn
    cases hb : intEq (Int.ofNat e.born) (Int.ofNat n) with
    | true => exact ⟨j, rfl⟩
    | false =>
      obtain ⟨e', he, hn⟩ := h
      rcases List.mem_cons.1 he with rfl | he
      · rw [hn, intEq_eq] at hb
        simp at hb
      · exact findBorn_some ⟨e', he, hn⟩
theorem setME_keys {f : ME → ME} (hf : ∀ e, (f e).key = e.key) : ∀ (es : List ME) (i : Nat), (setME es f i).map (·.key) = es.map (·.key)
  | [], _ => rfl
  | e :: es, 0 => by show ((f e) :: es).map (·.key) = _; simp [hf]
  | e :: es, i + 1 => by show (e :: setME es f i).map (·.key) = _; rw [List.map_cons, setME_keys hf es i]; rfl
section
variable {E : Env} {tm : Tm} {h : Heap} {Q : R → Prop} {all rest : List Oper} {o : Oper} {bs : List Bits} {recs : List Rec} {i : Nat} {idx : List Nat}
/-- A look into a map. -/
theorem W.look {t : TypeId} {x y : Operand} {st : TyS} {kt et : TypeId} {es : List ME} {clock mb : Nat} {s : Str} {r : Option (Nat × CV)} {v : CV} (hgd : guardOn all tm o = some true) (hop : o.op = .lookup t x y true) (hx : cvOf E.globs tm x = .map (some mb)) (hy : cvOf E.globs tm y = .str s) (hg : h.get mb = some (.map es clock)) (hs : E.ty t = some st) (hk : st.kind = .map kt et) (hkey : keyOk E kt (.str s) = true) (hf : findKey E kt (.str s) es 0 = some r) (hv : found E et true (some r) = some v)
    (w : W E (.ops all rest) (putTmp tm o.dst v) h Q) : W E (.ops all (o :: rest)) tm h Q := by
  refine W.op hgd (v := v) (h1 := h) ?_ w
  unfold opAny
  rw [hop]
  show withH h (oLookup E (E.ty t) (cvOf E.globs tm x) (cvOf E.globs tm y) true h) = _
  rw [hx, hy, hs]
  unfold oLookup mapEs
  simp only [hk, hkey, hg, hf, hv, withH]
/-- A new entry. -/
theorem W.dment {t : TypeId} {x y : Operand} {st : TyS} {kt et : TypeId} {es : List ME} {clock mb : Nat} {s : Str} {z : CV} (hri : ∀ r ∈ recs, recIdx r ∈ idx) (hid : (idx.all fun j => bit j ((nth bs i).getD Bits.nil)) = true) (hgd : guardOn all tm o = some true) (hop : o.op = .mapEntry t x y) (hx : cvOf E.globs tm x = .map (some mb)) (hy : cvOf E.globs tm y = .str s) (hg : h.get mb = some (.map es clock)) (hs : E.ty t = some st) (hk : st.kind = .map kt et) (hkey : keyOk E kt (.str s) = true) (hf : findKey E kt (.str s) es 0 = some none) (hz : zeroV E et = some z)
    (w : ∀ recs' h', (∀ r ∈ recs', recIdx r ∈ i :: idx) → Same (h.put mb (.map (es ++ [⟨.str s, z, clock⟩]) (clock + 1))) h' → W E (.draw bs all rest (i + 1) recs') (putTmp tm o.dst (.tup [z, .int .i64 (Int.ofNat clock)])) h' Q) : W E (.draw bs all (o :: rest) i recs) tm h Q := by
  refine W.dput (B1 := .map es clock) hri hid hgd (by unfold fpAny; rw [hop]; show idOf (cvOf E.globs tm x) = [mb]; rw [hx]; rfl) (by rw [hop]; rfl) hg (fun h0 g0 => ?_) w
  unfold opAny
  rw [hop]
  show oMapEntry E (E.ty t) (cvOf E.globs tm x) (cvOf E.globs tm y) h0 = _
  rw [hx, hy, hs]
  unfold oMapEntry
  simp only [hk, hkey, g0, hf, hz]
/-- The entry's value. -/
theorem W.dest {t : TypeId} {x y u : Operand} {es : List ME} {clock mb b : Nat} {kk : IntKind} {v : CV} (hri : ∀ r ∈ recs, recIdx r ∈ idx) (hid : (idx.all fun j => bit j ((nth bs i).getD Bits.nil)) = true) (hgd : guardOn all tm o = some true) (hop : o.op = .entryStore t x y u) (hx : cvOf E.globs tm x = .map (some mb)) (hy : cvOf E.globs tm y = .int kk (Int.ofNat b)) (hu : cvOf E.globs tm u = v) (hg : h.get mb = some (.map es clock)) (hb : ∃ e ∈ es, e.born = b)
    (w : ∀ recs' h' es', (∀ r ∈ recs', recIdx r ∈ i :: idx) → es'.map (·.key) = es.map (·.key) → Same (h.put mb (.map es' clock)) h' → W E (.draw bs all rest (i + 1) recs') (putTmp tm o.dst .undef) h' Q) : W E (.draw bs all (o :: rest) i recs) tm h Q := by
  obtain ⟨j, hj⟩ := findBorn_some (j := 0) hb
  refine W.dput (B1 := .map es clock) (B2 := .map (setME es (fun e => ⟨e.key, v, e.born⟩) j) clock) hri hid hgd (by unfold fpAny; rw [hop]; show idOf (cvOf E.globs tm x) = [mb]; rw [hx]; rfl) (by rw [hop]; rfl) hg (fun h0 g0 => ?_) fun recs' h' h1 h2 => w recs' h' (setME es (fun e => ⟨e.key, v, e.born⟩) j) h1 (setME_keys (f := fun e => ⟨e.key, v, e.born⟩) (fun e => rfl) es j) h2
  unfold opAny
  rw [hop]
  show oEntryStore (cvOf E.globs tm x) (cvOf E.globs tm y) (cvOf E.globs tm u) h0 = _
  rw [hx, hy, hu]
  unfold oEntryStore
  simp only [g0, hj]
end
end Go.CM

namespace Go.Proofs.YtmgpjfnlciapkaaDoor
set_option linter.unusedVariables false
set_option linter.unusedSimpArgs false
open Go Go.CM Go.CM.Tt
noncomputable section
set_option maxHeartbeats 16000000

theorem add_w {H h : Heap} {tm : Tm} {Q : R → Prop} {tb : Nat} {P : Nat → Prop} {names : List Str} {s : Str} (X : Ext H h) (rh : RH h) (tr : TabR h H.next tb P names) (ok : NameOk s) (hm : names.length < 4096)
    (q : ∀ h', Ext H h' → (∀ k, P k → h'.get k = h.get k) → s ∈ names → TabR h' H.next tb P names → Q (.val (.tup [.int .i64 0, .int .i64 6]) h'))
    (q2 : ∀ h' (n : Int), Ext H h' → h.next ≤ h'.next → (∀ k, P k → h'.get k = h.get k) → s ∉ names → TabR h' H.next tb P (names ++ [s]) → Q (.val (.tup [.int .i64 n, .int .i64 0]) h')) : W E1 (.call (.fn 66 [] []) [.ptr (some (tb, 0)), .str s]) tm h Q := by
  obtain ⟨v, mb, es, clock, gt, lt, O, gm, lm, ek, lo1, lo2, ne1, ne2, ne3, hp5⟩ := tr.c
  obtain ⟨pv, nv, cv, xv, ev⟩ := O.form
  cases ev
  have fk := fun (hq : ∀ a b : Str, eqT E1 20 _ (.str a) (.str b) = some (bytesEq a b)) => findKey_str (E := E1) (kt := 9) hq (s := s) (i := 0) ek
  have fk := fk (fun _ _ => rfl)
  have Lt : LocE h tb 0 [.slice pv nv cv xv, .map (some mb)] := ⟨_, _, gt, lt, rfl⟩
  refine W.fn (s := fnOf Tryd.f66) rfl rfl rfl rfl ?_
  repeat (first | (with_reducible first | refine W.seq ?_ | refine W.region ?_ | refine W.skip ?_ | refine SeqQ.normal ?_) | refine W.opn (v := .int _ _) rfl rfl rfl ?_ | refine W.opn (v := .ptr _) rfl rfl rfl ?_ | refine W.opn (v := .bool _) rfl rfl rfl ?_ | refine W.opn rfl rfl rfl ?_ | refine W.nil ?_ | refine W.ldk (by assumption) (by first | assumption | exact Ext.refl _ | ((repeat (first | assumption | refine Ext.trans ?_ (by assumption))); done)) rfl rfl rfl rfl rfl rfl rfl rfl ?_ | refine W.cond (x := false) rfl (fun hc => by cases hc) (fun _ => ?_))
  by_cases c : s ∈ names
  · obtain ⟨p, hp⟩ := fk.1 c
    refine W.look rfl rfl rfl rfl gm rfl rfl rfl hp rfl ?_
    refine W.keep3 0 1 17 fun T k0 k1 k17 => ?_
    conv at k0 => rhs; whnf
    conv at k1 => rhs; whnf
    conv at k17 => rhs; whnf
    rw [show T = (((T.set 0 (some (T.look 0))).set 1 (some (T.look 1))).set 17 (some (T.look 17))) from rfl, k0, k1, k17]
    clear k0 k1 k17
    repeat (first | (with_reducible first | refine W.seq ?_ | refine W.block ?_ | refine W.region ?_ | refine SeqQ.normal ?_) | refine W.opn (v := .bool _) rfl rfl rfl ?_ | refine W.opn (v := .tup _) rfl rfl rfl ?_ | refine W.opn rfl rfl rfl ?_ | refine W.nil ?_)
    refine W.call rfl rfl rfl (name_w s rh fun h1 b X1 hb => ?_)
    have hb := hb.2 ok
    subst hb
    repeat (first | (with_reducible first | refine W.seq ?_ | refine W.region ?_ | refine W.ret ?_ | refine SeqQ.normal ?_ | refine SeqQ.ret ?_ | refine BlockQ.ret ?_ | refine CallQ.val ?_) | refine W.opn (v := .int _ _) rfl rfl rfl ?_ | refine W.opn (v := .bool _) rfl rfl rfl ?_ | refine W.nil ?_ | refine W.cond (x := true) rfl (fun _ => ?_) (fun hc => by cases hc) | refine W.cond (x := false) rfl (fun hc => by cases hc) (fun _ => ?_))
    exact q _ (X.trans X1) (fun k hk => X1.old k (hp5 k hk).1) c (tr.ext X1)
  have hp := fk.2 c
  refine W.look rfl rfl rfl rfl gm rfl rfl rfl hp rfl ?_
  refine W.keep3 0 1 17 fun T k0 k1 k17 => ?_
  conv at k0 => rhs; whnf
  conv at k1 => rhs; whnf
  conv at k17 => rhs; whnf
  rw [show T = (((T.set 0 (some (T.look 0))).set 1 (some (T.look 1))).set 17 (some (T.look 17))) from rfl, k0, k1, k17]
  clear k0 k1 k17
  repeat (first | (with_reducible first | refine W.seq ?_ | refine W.block ?_ | refine W.region ?_ | refine SeqQ.normal ?_) | refine W.opn (v := .int _ _) rfl rfl rfl ?_ | refine W.opn (v := .bool _) rfl rfl rfl ?_ | refine W.opn (v := .tup _) rfl rfl rfl ?_ | refine W.opn rfl rfl rfl ?_ | refine W.nil ?_)
  refine W.call rfl rfl rfl (name_w s rh fun h1 b X1 hb => ?_)
  have hb := hb.2 ok
  subst hb
  have O1 := O.ext X1
  have sl : Sl h1 (.slice pv nv cv xv) names := O1.toSl
  repeat (first | (with_reducible first | refine W.seq ?_ | refine W.region ?_ | refine W.draws ?_ | refine W.skip ?_ | refine SeqQ.normal ?_ | refine BlockQ.normal ?_ | refine CallQ.val ?_) | refine W.lnS (by assumption) rfl rfl rfl rfl rfl rfl rfl rfl ?_ | refine W.opn rfl op_leq rfl ?_ | refine W.opn (v := .ptr _) rfl rfl rfl ?_ | refine W.opn (v := .bool _) rfl rfl rfl ?_ | refine W.nil ?_ | refine W.ldk (by assumption) (by first | assumption | exact Ext.refl _ | ((repeat (first | assumption | refine Ext.trans ?_ (by assumption))); done)) rfl rfl rfl rfl rfl rfl rfl rfl ?_ | refine W.cond (x := false) rfl (fun hc => by cases hc) (fun _ => ?_) | rw [decide_eq_false (by first | assumption | omega)])
  have gt1 := (X1.old tb lt).trans gt
  have gm1 := (X1.old mb lm).trans gm
  have lt1 := Nat.lt_of_lt_of_le lt X1.next
  have lm1 := Nat.lt_of_lt_of_le lm X1.next
  have XH := X.trans X1
  have L1 : LocE h1 tb 0 [.slice pv nv cv xv, .map (some mb)] := ⟨_, _, gt1, lt1, rfl⟩
  have dv : DV (fun c => c = tb ∨ c = mb ∨ P c) h1 [] [] [] := DV.start (fun b hb => by rcases hb with rfl | rfl | hb; exact lt1; exact lm1; exact Nat.lt_of_lt_of_le (hp5 b hb).1 X1.next)
  clear Lt gt gm fk
  repeat (first | refine W.dopn (v := .ptr _) rfl rfl rfl rfl ?_)
  refine W.ldV (k := 1) dv (.inl rfl) L1 rfl rfl rfl rfl rfl rfl rfl fun r1 a1 dv s1 L1 => ?_
  repeat (first | refine W.dopn (v := .ptr _) rfl rfl rfl rfl ?_ | refine W.dopn rfl rfl rfl rfl ?_)
  refine W.ldV (k := 0) dv (.inl rfl) L1 rfl rfl rfl rfl rfl rfl rfl fun r2 a2 dv s2 L1 => ?_
  repeat (first | refine W.dopn rfl rfl rfl rfl ?_)
  refine W.newV dv rfl rfl rfl rfl fun r3 a3 dv x3 n3 g3 => ?_
  have g3 : a3.get a2.next = some (.cells (Flat.enc s) false) := g3
  have L3 := L1.ext x3
  have e2 : a2.next = h1.next := s2.next.trans s1.next
  have X3 : Ext h1 a3 := (s1.ext.trans s2.ext).trans x3
  skip
  refine W.apV (H := H) (z := 1) (l2 := [Flat.enc s]) dv (XH.trans X3) (O1.ext X3) (SlG.one (by show a2.next < a3.next; omega) g3) (fun b hb => ?_) rfl rfl rfl rfl rfl rfl rfl rfl rfl rfl rfl rfl rfl (by
    simp only [List.length_map, List.length_cons, List.length_nil]
    show _ * 16 ≤ _
    omega) fun r4 v4 a4 dv X4 b4 n4 O4 i4 => ?_
  · have hlt : b < a2.next := by
      rcases hb with rfl | rfl | hb
      · omega
      · omega
      · have := (hp5 b hb).1; have := X1.next; omega
    have hne : idOf (CV.slice pv nv cv xv) ≠ [b] := by rcases hb with rfl | rfl | hb; exact ne2; exact ne3; exact (hp5 b hb).2.2.2
    intro hm
    rcases List.mem_append.1 hm with hm | hm
    · rcases O1.notIn (b := h1.next) (Nat.le_refl _) with e | ⟨i, e, _, _⟩
      · rw [e] at hm; cases hm
      · rw [e] at hm
        have : b = i := by simpa using hm
        exact hne (by rw [e, this])
    · have hm : b ∈ [a2.next] := hm
      have : b = a2.next := by simpa using hm
      omega
  have i4t := i4 tb (by omega) ne2
  have i4m := i4 mb (by omega) ne3
  obtain ⟨p4, m4, c4, y4, ee⟩ := O4.form
  cases ee
  repeat (first | refine W.dopn (v := .ptr _) rfl rfl rfl rfl ?_)
  refine W.ldV (k := 0) dv (.inl rfl) (L3.of_get (b4 tb (.inl rfl)) n4) rfl rfl rfl rfl rfl rfl rfl fun r5 a5 dv s5 L5 => ?_
  repeat (first | refine W.dopn (v := .int _ _) rfl rfl rfl rfl ?_ | refine W.dopn (v := .ptr _) rfl rfl rfl rfl ?_)
  have gt5 : a5.get tb = some (.cells [.slice pv nv cv xv, .map (some mb)] false) := (s5.get tb).trans ((b4 tb (.inl rfl)).trans ((X3.old tb lt1).trans gt1))
  have gm5 : a5.get mb = some (.map es clock) := (s5.get mb).trans ((b4 mb (.inr (.inl rfl))).trans ((X3.old mb lm1).trans gm1))
  have n35 : h1.next ≤ a5.next := by have := s5.next; have := X3.next; omega
  refine W.dst (vs := [.slice p4 m4 c4 y4]) (cs' := [.slice p4 m4 c4 y4, .map (some mb)]) (fun r hr => (dv.d.r r hr).1) rfl rfl rfl rfl rfl rfl rfl gt5 rfl fun r6 a6 hr6 s6 => ?_
  skip
  have gm6 : a6.get mb = some (.map es clock) := by rw [s6.get, Heap.get_put, if_neg ne1]; exact gm5
  refine W.dment hr6 rfl rfl rfl rfl rfl gm6 rfl rfl rfl hp rfl fun r7 a7 hr7 s7 => ?_
  repeat (first | refine W.dopn (v := .int _ _) rfl rfl rfl rfl ?_)
  have gm7 : a7.get mb = some (.map (es ++ [⟨.str s, .int .i64 0, clock⟩]) (clock + 1)) := by rw [s7.get, put_same]
  refine W.dest (b := clock) hr7 rfl rfl rfl rfl rfl rfl gm7 ⟨⟨.str s, .int .i64 0, clock⟩, List.mem_append_right _ (by simp), rfl⟩ fun r8 a8 es' hr8 hk8 s8 => ?_
  repeat (first | refine W.dnil ?_)
  have gt8 : a8.get tb = some (.cells [.slice p4 m4 c4 y4, .map (some mb)] false) := by rw [s8.get, Heap.get_put, if_neg (Ne.symm ne1), s7.get, Heap.get_put, if_neg (Ne.symm ne1), s6.get, put_same]
  have gm8 : a8.get mb = some (.map es' (clock + 1)) := by rw [s8.get, put_same]
  have n8 : a8.next = a5.next := by rw [s8.next]; show a7.next = _; rw [s7.next]; show a6.next = _; rw [s6.next]; rfl
  have k8 : ∀ k, k ≠ tb → k ≠ mb → a8.get k = a5.get k := fun k h1 h2 => by rw [s8.get, Heap.get_put, if_neg (Ne.symm h2), s7.get, Heap.get_put, if_neg (Ne.symm h2), s6.get, Heap.get_put, if_neg (Ne.symm h1)]
  have X5 : Ext H a5 := X4.trans s5.ext
  have X8 : Ext H a8 := ⟨by rw [n8]; exact X5.next, fun k hk => (k8 k (by omega) (by omega)).trans (X5.old k hk), fun f k hk => by
    rw [n8] at hk
    exact (k8 k (by omega) (by omega)).trans (X5.fr f k hk)⟩
  have O8 := (O4.ext s5.ext).other (h' := a8) (by rw [n8]; exact Nat.le_refl _) fun k _ _ hk => k8 k (fun e => i4t (by rw [hk, e])) (fun e => i4m (by rw [hk, e]))
  have ek8 : es'.map (·.key) = (names ++ [s]).map CV.str := by
    rw [hk8, List.map_append, List.map_append, ek]
    rfl
  have L8 : LocE a8 tb 0 [.slice p4 m4 c4 y4, .map (some mb)] := ⟨_, _, gt8, by omega, rfl⟩
  have O8 : OwnR a8 H.next 1 (.slice p4 m4 c4 y4) ((names ++ [s]).map Flat.enc) := by rw [map_app]; exact O8
  have sl8 : Sl a8 (.slice p4 m4 c4 y4) (names ++ [s]) := O8.toSl
  have hlen : (names ++ [s]).length = names.length + 1 := by simp
  clear L1 L3 L5 sl
  repeat (first | (with_reducible first | refine W.seq ?_ | refine W.region ?_ | refine W.ret ?_ | refine SeqQ.normal ?_) | refine W.lnS (by assumption) rfl rfl rfl rfl rfl rfl rfl rfl ?_ | refine W.opn rfl (op_sub (by omega) (by omega)) rfl ?_ | refine W.opn (v := .int _ _) rfl rfl rfl ?_ | refine W.opn (v := .ptr _) rfl rfl rfl ?_ | refine W.nil ?_ | refine W.ldk (by assumption) (by first | assumption | exact Ext.refl _ | ((repeat (first | assumption | refine Ext.trans ?_ (by assumption))); done)) rfl rfl rfl rfl rfl rfl rfl rfl ?_)
  refine q2 _ _ X8 (by have := X1.next; omega) (fun k hk => ?_) c ⟨_, mb, es', clock + 1, gt8, by omega, O8, gm8, by omega, ek8, lo1, lo2, ne1, i4t, i4m, fun k hk => ?_⟩
  · obtain ⟨p1, p2, p3, p4⟩ := hp5 k hk
    have hk1 : k < h1.next := Nat.lt_of_lt_of_le p1 X1.next
    exact (k8 k p2 p3).trans ((s5.get k).trans ((b4 k (.inr (.inr hk))).trans ((X3.old k hk1).trans (X1.old k p1))))
  · obtain ⟨p1, p2, p3, p4⟩ := hp5 k hk
    have := X1.next
    have := X3.next
    exact ⟨by omega, p2, p3, i4 k (by omega) p4⟩
end
end Go.Proofs.YtmgpjfnlciapkaaDoor
