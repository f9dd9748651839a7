/- Tables of texts: what a map says of its keys. No condition, no program. -/
import Derived.Test.YtmgpjfnlciapkaaGreatDoorXY
import Derived.Test.YtmgpjfnlciapkaaGreatDoorYA
set_option linter.unusedVariables false
set_option linter.unusedSimpArgs false
noncomputable section
namespace Go.CM
theorem findKey_str {E : Env} {kt : TypeId} (hq : ∀ a b : Str, eqT E 20 kt (.str a) (.str b) = some (bytesEq a b)) {s : Str} : ∀ {es : List ME} {names : List Str} {i : Nat}, es.map (·.key) = names.map CV.str →
    (s ∈ names → ∃ p, findKey E kt (.str s) es i = some (some p)) ∧ (s ∉ names → findKey E kt (.str s) es i = some none)
  | [], [], i, _ => ⟨fun h => (by cases h), fun _ => rfl⟩
  | [], a :: names, i, h => by simp at h
  | e :: es, [], i, h => by simp at h
  | e :: es, a :: names, i, h => by
    have h1 : e.key = .str a := by simpa using (List.cons.inj h).1
    have h2 : es.map (·.key) = names.map CV.str := (List.cons.inj h).2
    have ih := findKey_str hq (s := s) (es := es) (names := names) (i := i + 1) h2
    unfold findKey
    rw [h1, hq, bytesEq_eq]
    by_cases c : s = a
    · rw [decide_eq_true c]
      exact ⟨fun _ => ⟨_, rfl⟩, fun h => absurd (by rw [c]; simp) h⟩
    · rw [decide_eq_false c]
      refine ⟨fun h => ih.1 ?_, fun h => ih.2 fun h2 => h (List.mem_cons_of_mem _ h2)⟩
      rcases List.mem_cons.1 h with h | h
      · exact absurd h c
      · exact h
theorem findBorn_some {n : Nat} : ∀ {es : List ME} {j : Nat}, (∃ e ∈ es, e.born = n) → ∃ i, findBorn (Int.ofNat n) es j = some i
  | [], j, h => by obtain ⟨e, he, _⟩ := h; cases he
  | e :: es, j, h => by
    unfold findBorn
    cases hb : intEq (Int.ofNat e.born) (Int.ofNat n) with
    | true => exact ⟨j, rfl⟩
    | false =>
      obtain ⟨e', he, hn⟩ := h
      rcases List.mem_cons.1 he with rfl | he
      · rw [hn, intEq_eq] at hb
        simp at hb
      · exact findBorn_some ⟨e', he, hn⟩
theorem setME_keys {f : ME → ME} (hf : ∀ e, (f e).key = e.key) : ∀ (es : List ME) (i : Nat), (setME es f i).map (·.key) = es.map (·.key)
  | [], _ => rfl
  | e :: es, 0 => by show ((f e) :: es).map (·.key) = _; simp [hf]
  | e :: es, i + 1 => by show (e :: setME es f i).map (·.key) = _; rw [List.map_cons, setME_keys hf es i]; rfl
section
variable {E : Env} {tm : Tm} {h : Heap} {Q : R → Prop} {all rest : List Oper} {o : Oper} {bs : List Bits} {recs : List Rec} {i : Nat} {idx : List Nat}
theorem W.look {t : TypeId} {x y : Operand} {st : TyS} {kt et : TypeId} {es : List ME} {clock mb : Nat} {s : Str} {r : Option (Nat × CV)} {v : CV} (hgd : guardOn all tm o = some true) (hop : o.op = .lookup t x y true) (hx : cvOf E.globs tm x = .map (some mb)) (hy : cvOf E.globs tm y = .str s) (hg : h.get mb = some (.map es clock)) (hs : E.ty t = some st) (hk : st.kind = .map kt et) (hkey : keyOk E kt (.str s) = true) (hf : findKey E kt (.str s) es 0 = some r) (hv : found E et true (some r) = some v)
    (w : W E (.ops all rest) (putTmp tm o.dst v) h Q) : W E (.ops all (o :: rest)) tm h Q := by
  refine W.op hgd (v := v) (h1 := h) ?_ w
  unfold opAny
  rw [hop]
  show withH h (oLookup E (E.ty t) (cvOf E.globs tm x) (cvOf E.globs tm y) true h) = _
  rw [hx, hy, hs]
  unfold oLookup mapEs
  simp only [hk, hkey, hg, hf, hv, withH]
theorem W.dment {t : TypeId} {x y : Operand} {st : TyS} {kt et : TypeId} {es : List ME} {clock mb : Nat} {s : Str} {z : CV} (hri : ∀ r ∈ recs, recIdx r ∈ idx) (hid : (idx.all fun j => bit j ((nth bs i).getD Bits.nil)) = true) (hgd : guardOn all tm o = some true) (hop : o.op = .mapEntry t x y) (hx : cvOf E.globs tm x = .map (some mb)) (hy : cvOf E.globs tm y = .str s) (hg : h.get mb = some (.map es clock)) (hs : E.ty t = some st) (hk : st.kind = .map kt et) (hkey : keyOk E kt (.str s) = true) (hf : findKey E kt (.str s) es 0 = some none) (hz : zeroV E et = some z)
    (w : ∀ recs' h', (∀ r ∈ recs', recIdx r ∈ i :: idx) → Same (h.put mb (.map (es ++ [⟨.str s, z, clock⟩]) (clock + 1))) h' → W E (.draw bs all rest (i + 1) recs') (putTmp tm o.dst (.tup [z, .int .i64 (Int.ofNat clock)])) h' Q) : W E (.draw bs all (o :: rest) i recs) tm h Q := by
  refine W.dput (B1 := .map es clock) hri hid hgd (by unfold fpAny; rw [hop]; show idOf (cvOf E.globs tm x) = [mb]; rw [hx]; rfl) (by rw [hop]; rfl) hg (fun h0 g0 => ?_) w
  unfold opAny
  rw [hop]
  show oMapEntry E (E.ty t) (cvOf E.globs tm x) (cvOf E.globs tm y) h0 = _
  rw [hx, hy, hs]
  unfold oMapEntry
  simp only [hk, hkey, g0, hf, hz]
theorem W.dest {t : TypeId} {x y u : Operand} {es : List ME} {clock mb b : Nat} {kk : IntKind} {v : CV} (hri : ∀ r ∈ recs, recIdx r ∈ idx) (hid : (idx.all fun j => bit j ((nth bs i).getD Bits.nil)) = true) (hgd : guardOn all tm o = some true) (hop : o.op = .entryStore t x y u) (hx : cvOf E.globs tm x = .map (some mb)) (hy : cvOf E.globs tm y = .int kk (Int.ofNat b)) (hu : cvOf E.globs tm u = v) (hg : h.get mb = some (.map es clock)) (hb : ∃ e ∈ es, e.born = b)
    (w : ∀ recs' h' es', (∀ r ∈ recs', recIdx r ∈ i :: idx) → es'.map (·.key) = es.map (·.key) → Same (h.put mb (.map es' clock)) h' → W E (.draw bs all rest (i + 1) recs') (putTmp tm o.dst .undef) h' Q) : W E (.draw bs all (o :: rest) i recs) tm h Q := by
  obtain ⟨j, hj⟩ := findBorn_some (j := 0) hb
  refine W.dput (B1 := .map es clock) (B2 := .map (setME es (fun e => ⟨e.key, v, e.born⟩) j) clock) hri hid hgd (by unfold fpAny; rw [hop]; show idOf (cvOf E.globs tm x) = [mb]; rw [hx]; rfl) (by rw [hop]; rfl) hg (fun h0 g0 => ?_) fun recs' h' h1 h2 => w recs' h' (setME es (fun e => ⟨e.key, v, e.born⟩) j) h1 (setME_keys (f := fun e => ⟨e.key, v, e.born⟩) (fun e => rfl) es j) h2
  unfold opAny
  rw [hop]
  show oEntryStore (cvOf E.globs tm x) (cvOf E.globs tm y) (cvOf E.globs tm u) h0 = _
  rw [hx, hy, hu]
  unfold oEntryStore
  simp only [g0, hj]
end
end Go.CM

namespace Go.Proofs.YtmgpjfnlciapkaaGreatDoor
open Go Go.CM Go.CM.Tt
noncomputable section
set_option maxHeartbeats 16000000
theorem add_w {H h : Heap} {tm : Tm} {Q : R → Prop} {tb : Nat} {P : Nat → Prop} {names : List Str} {s : Str} (X : Ext H h) (rh : RH h) (tr : TabR h H.next tb P names) (ok : NameOk s) (hm : names.length < 4096)
    (q : ∀ h', Ext H h' → (∀ k, P k → h'.get k = h.get k) → s ∈ names → TabR h' H.next tb P names → Q (.val (.tup [.int .i64 0, .int .i64 6]) h'))
    (q2 : ∀ h' (n : Int), Ext H h' → h.next ≤ h'.next → (∀ k, P k → h'.get k = h.get k) → s ∉ names → TabR h' H.next tb P (names ++ [s]) → Q (.val (.tup [.int .i64 n, .int .i64 0]) h')) : W E1 (.call (.fn 108 [] []) [.ptr (some (tb, 0)), .str s]) tm h Q := by
  obtain ⟨v, mb, es, clock, gt, lt, O, gm, lm, ek, lo1, lo2, ne1, ne2, ne3, hp5⟩ := tr.c
  obtain ⟨pv, nv, cv, xv, ev⟩ := O.form
  cases ev
  have fk := fun (hq : ∀ a b : Str, eqT E1 20 _ (.str a) (.str b) = some (bytesEq a b)) => findKey_str (E := E1) (kt := 9) hq (s := s) (i := 0) ek
  have fk := fk (fun _ _ => rfl)
  have Lt : LocE h tb 0 [.slice pv nv cv xv, .map (some mb)] := ⟨_, _, gt, lt, rfl⟩
  refine W.fn (s := fnOf Tryz.f108) rfl rfl rfl rfl ?_
  repeat (first | (with_reducible first | refine W.seq ?_ | refine W.region ?_ | refine W.skip ?_ | refine SeqQ.normal ?_) | refine W.opn (v := .int _ _) rfl rfl rfl ?_ | refine W.opn (v := .ptr _) rfl rfl rfl ?_ | refine W.opn (v := .bool _) rfl rfl rfl ?_ | refine W.opn rfl rfl rfl ?_ | refine W.nil ?_ | refine W.ldk (by assumption) (by (repeat (first | assumption | exact Ext.refl _ | refine Ext.trans ?_ (by assumption))); done) rfl rfl rfl rfl rfl rfl rfl rfl ?_ | refine W.cond (x := false) rfl (fun hc => by cases hc) (fun _ => ?_))
  by_cases c : s ∈ names
  · obtain ⟨p, hp⟩ := fk.1 c
    refine W.look rfl rfl rfl rfl gm rfl rfl rfl hp rfl ?_
    refine W.keep3 0 1 17 fun T k0 k1 k17 => ?_
    conv at k0 => rhs; whnf
    conv at k1 => rhs; whnf
    conv at k17 => rhs; whnf
    rw [show T = (((T.set 0 (some (T.look 0))).set 1 (some (T.look 1))).set 17 (some (T.look 17))) from rfl, k0, k1, k17]
    clear k0 k1 k17
    repeat (first | (with_reducible first | refine W.seq ?_ | refine W.block ?_ | refine W.region ?_ | refine SeqQ.normal ?_) | refine W.opn (v := .bool _) rfl rfl rfl ?_ | refine W.opn (v := .tup _) rfl rfl rfl ?_ | refine W.opn rfl rfl rfl ?_ | refine W.nil ?_)
    refine W.call rfl rfl rfl (name_w s rh fun h1 b X1 hb => ?_)
    have hb := hb.2 ok
    subst hb
    repeat (first | (with_reducible first | refine W.seq ?_ | refine W.region ?_ | refine W.ret ?_ | refine SeqQ.normal ?_ | refine SeqQ.ret ?_ | refine BlockQ.ret ?_ | refine CallQ.val ?_) | refine W.opn (v := .int _ _) rfl rfl rfl ?_ | refine W.opn (v := .bool _) rfl rfl rfl ?_ | refine W.nil ?_ | refine W.cond (x := true) rfl (fun _ => ?_) (fun hc => by cases hc) | refine W.cond (x := false) rfl (fun hc => by cases hc) (fun _ => ?_))
    exact q _ (X.trans X1) (fun k hk => X1.old k (hp5 k hk).1) c (tr.ext X1)
  have hp := fk.2 c
  refine W.look rfl rfl rfl rfl gm rfl rfl rfl hp rfl ?_
  refine W.keep3 0 1 17 fun T k0 k1 k17 => ?_
  conv at k0 => rhs; whnf
  conv at k1 => rhs; whnf
  conv at k17 => rhs; whnf
  rw [show T = (((T.set 0 (some (T.look 0))).set 1 (some (T.look 1))).set 17 (some (T.look 17))) from rfl, k0, k1, k17]
  clear k0 k1 k17
  repeat (first | (with_reducible first | refine W.seq ?_ | refine W.block ?_ | refine W.region ?_ | refine SeqQ.normal ?_) | refine W.opn (v := .int _ _) rfl rfl rfl ?_ | refine W.opn (v := .bool _) rfl rfl rfl ?_ | refine W.opn (v := .tup _) rfl rfl rfl ?_ | refine W.opn rfl rfl rfl ?_ | refine W.nil ?_)
  refine W.call rfl rfl rfl (name_w s rh fun h1 b X1 hb => ?_)
  have hb := hb.2 ok
  subst hb
  have O1 := O.ext X1
  have sl : Sl h1 (.slice pv nv cv xv) names := O1.toSl
  repeat (first | (with_reducible first | refine W.seq ?_ | refine W.region ?_ | refine W.draws ?_ | refine W.skip ?_ | refine SeqQ.normal ?_ | refine BlockQ.normal ?_ | refine CallQ.val ?_) | refine W.lnS (by assumption) rfl rfl rfl rfl rfl rfl rfl rfl ?_ | refine W.opn rfl op_leq rfl ?_ | refine W.opn (v := .ptr _) rfl rfl rfl ?_ | refine W.opn (v := .bool _) rfl rfl rfl ?_ | refine W.nil ?_ | refine W.ldk (by assumption) (by (repeat (first | assumption | exact Ext.refl _ | refine Ext.trans ?_ (by assumption))); done) rfl rfl rfl rfl rfl rfl rfl rfl ?_ | refine W.cond (x := false) rfl (fun hc => by cases hc) (fun _ => ?_) | rw [decide_eq_false (by first | assumption | omega)])
  have gt1 := (X1.old tb lt).trans gt
  have gm1 := (X1.old mb lm).trans gm
  have lt1 := Nat.lt_of_lt_of_le lt X1.next
  have lm1 := Nat.lt_of_lt_of_le lm X1.next
  have XH := X.trans X1
  have L1 : LocE h1 tb 0 [.slice pv nv cv xv, .map (some mb)] := ⟨_, _, gt1, lt1, rfl⟩
  have dv : DV (fun c => c = tb ∨ c = mb ∨ P c) h1 [] [] [] := DV.start (fun b hb => by rcases hb with rfl | rfl | hb; exact lt1; exact lm1; exact Nat.lt_of_lt_of_le (hp5 b hb).1 X1.next)
  clear Lt gt gm fk
  repeat (first | refine W.dopn (v := .ptr _) rfl rfl rfl rfl ?_)
  refine W.ldV (k := 1) dv (.inl rfl) L1 rfl rfl rfl rfl rfl rfl rfl fun r1 a1 dv s1 L1 => ?_
  repeat (first | refine W.dopn (v := .ptr _) rfl rfl rfl rfl ?_ | refine W.dopn rfl rfl rfl rfl ?_)
  refine W.ldV (k := 0) dv (.inl rfl) L1 rfl rfl rfl rfl rfl rfl rfl fun r2 a2 dv s2 L1 => ?_
  repeat (first | refine W.dopn rfl rfl rfl rfl ?_)
  refine W.newV dv rfl rfl rfl rfl fun r3 a3 dv x3 n3 g3 => ?_
  have g3 : a3.get a2.next = some (.cells (Flat.enc s) false) := g3
  have L3 := L1.ext x3
  have e2 : a2.next = h1.next := s2.next.trans s1.next
  have X3 : Ext h1 a3 := (s1.ext.trans s2.ext).trans x3
  skip
  refine W.apV (H := H) (z := 1) (l2 := [Flat.enc s]) dv (XH.trans X3) (O1.ext X3) (SlG.one (by show a2.next < a3.next; omega) g3) (fun b hb => ?_) rfl rfl rfl rfl rfl rfl rfl rfl rfl rfl rfl rfl rfl (by
    simp only [List.length_map, List.length_cons, List.length_nil]
    show _ * 16 ≤ _
    omega) fun r4 v4 a4 dv X4 b4 n4 O4 i4 => ?_
  · have hlt : b < a2.next := by
      rcases hb with rfl | rfl | hb
      · omega
      · omega
      · have := (hp5 b hb).1; have := X1.next; omega
    have hne : idOf (CV.slice pv nv cv xv) ≠ [b] := by rcases hb with rfl | rfl | hb; exact ne2; exact ne3; exact (hp5 b hb).2.2.2
    intro hm
    rcases List.mem_append.1 hm with hm | hm
    · rcases O1.notIn (b := h1.next) (Nat.le_refl _) with e | ⟨i, e, _, _⟩
      · rw [e] at hm; cases hm
      · rw [e] at hm
        have : b = i := by simpa using hm
        exact hne (by rw [e, this])
    · have hm : b ∈ [a2.next] := hm
      have : b = a2.next := by simpa using hm
      omega
  have i4t := i4 tb (by omega) ne2
  have i4m := i4 mb (by omega) ne3
  obtain ⟨p4, m4, c4, y4, ee⟩ := O4.form
  cases ee
  repeat (first | refine W.dopn (v := .ptr _) rfl rfl rfl rfl ?_)
  refine W.ldV (k := 0) dv (.inl rfl) (L3.of_get (b4 tb (.inl rfl)) n4) rfl rfl rfl rfl rfl rfl rfl fun r5 a5 dv s5 L5 => ?_
  repeat (first | refine W.dopn (v := .int _ _) rfl rfl rfl rfl ?_ | refine W.dopn (v := .ptr _) rfl rfl rfl rfl ?_)
  have gt5 : a5.get tb = some (.cells [.slice pv nv cv xv, .map (some mb)] false) := (s5.get tb).trans ((b4 tb (.inl rfl)).trans ((X3.old tb lt1).trans gt1))
  have gm5 : a5.get mb = some (.map es clock) := (s5.get mb).trans ((b4 mb (.inr (.inl rfl))).trans ((X3.old mb lm1).trans gm1))
  have n35 : h1.next ≤ a5.next := by have := s5.next; have := X3.next; omega
  refine W.dst (vs := [.slice p4 m4 c4 y4]) (cs' := [.slice p4 m4 c4 y4, .map (some mb)]) (fun r hr => (dv.d.r r hr).1) rfl rfl rfl rfl rfl rfl rfl gt5 rfl fun r6 a6 hr6 s6 => ?_
  skip
  have gm6 : a6.get mb = some (.map es clock) := by rw [s6.get, Heap.get_put, if_neg ne1]; exact gm5
  refine W.dment hr6 rfl rfl rfl rfl rfl gm6 rfl rfl rfl hp rfl fun r7 a7 hr7 s7 => ?_
  repeat (first | refine W.dopn (v := .int _ _) rfl rfl rfl rfl ?_)
  have gm7 : a7.get mb = some (.map (es ++ [⟨.str s, .int .i64 0, clock⟩]) (clock + 1)) := by rw [s7.get, put_same]
  refine W.dest (b := clock) hr7 rfl rfl rfl rfl rfl rfl gm7 ⟨⟨.str s, .int .i64 0, clock⟩, List.mem_append_right _ (by simp), rfl⟩ fun r8 a8 es' hr8 hk8 s8 => ?_
  repeat (first | refine W.dnil ?_)
  have gt8 : a8.get tb = some (.cells [.slice p4 m4 c4 y4, .map (some mb)] false) := by rw [s8.get, Heap.get_put, if_neg (Ne.symm ne1), s7.get, Heap.get_put, if_neg (Ne.symm ne1), s6.get, put_same]
  have gm8 : a8.get mb = some (.map es' (clock + 1)) := by rw [s8.get, put_same]
  have n8 : a8.next = a5.next := by rw [s8.next]; show a7.next = _; rw [s7.next]; show a6.next = _; rw [s6.next]; rfl
  have k8 : ∀ k, k ≠ tb → k ≠ mb → a8.get k = a5.get k := fun k h1 h2 => by rw [s8.get, Heap.get_put, if_neg (Ne.symm h2), s7.get, Heap.get_put, if_neg (Ne.symm h2), s6.get, Heap.get_put, if_neg (Ne.symm h1)]
  have X5 : Ext H a5 := X4.trans s5.ext
  have X8 : Ext H a8 := ⟨by rw [n8]; exact X5.next, fun k hk => (k8 k (by omega) (by omega)).trans (X5.old k hk), fun f k hk => by
    rw [n8] at hk
    exact (k8 k (by omega) (by omega)).trans (X5.fr f k hk)⟩
  have O8 := (O4.ext s5.ext).other (h' := a8) (by rw [n8]; exact Nat.le_refl _) fun k _ _ hk => k8 k (fun e => i4t (by rw [hk, e])) (fun e => i4m (by rw [hk, e]))
  have ek8 : es'.map (·.key) = (names ++ [s]).map CV.str := by
    rw [hk8, List.map_append, List.map_append, ek]
    rfl
  have L8 : LocE a8 tb 0 [.slice p4 m4 c4 y4, .map (some mb)] := ⟨_, _, gt8, by omega, rfl⟩
  have O8 : OwnR a8 H.next 1 (.slice p4 m4 c4 y4) ((names ++ [s]).map Flat.enc) := by rw [map_app]; exact O8
  have sl8 : Sl a8 (.slice p4 m4 c4 y4) (names ++ [s]) := O8.toSl
  have hlen : (names ++ [s]).length = names.length + 1 := by simp
  clear L1 L3 L5 sl
  repeat (first | (with_reducible first | refine W.seq ?_ | refine W.region ?_ | refine W.ret ?_ | refine SeqQ.normal ?_) | refine W.lnS (by assumption) rfl rfl rfl rfl rfl rfl rfl rfl ?_ | refine W.opn rfl (op_sub (by omega) (by omega)) rfl ?_ | refine W.opn (v := .int _ _) rfl rfl rfl ?_ | refine W.opn (v := .ptr _) rfl rfl rfl ?_ | refine W.nil ?_ | refine W.ldk (by assumption) (by (repeat (first | assumption | exact Ext.refl _ | refine Ext.trans ?_ (by assumption))); done) rfl rfl rfl rfl rfl rfl rfl rfl ?_)
  refine q2 _ _ X8 (by have := X1.next; omega) (fun k hk => ?_) c ⟨_, mb, es', clock + 1, gt8, by omega, O8, gm8, by omega, ek8, lo1, lo2, ne1, i4t, i4m, fun k hk => ?_⟩
  · obtain ⟨p1, p2, p3, p4⟩ := hp5 k hk
    have hk1 : k < h1.next := Nat.lt_of_lt_of_le p1 X1.next
    exact (k8 k p2 p3).trans ((s5.get k).trans ((b4 k (.inr (.inr hk))).trans ((X3.old k hk1).trans (X1.old k p1))))
  · obtain ⟨p1, p2, p3, p4⟩ := hp5 k hk
    have := X1.next
    have := X3.next
    exact ⟨by omega, p2, p3, i4 k (by omega) p4⟩
end
end Go.Proofs.YtmgpjfnlciapkaaGreatDoor

namespace Go.CM.Tt
def Clean (seen l : List Str) (n : Nat) : Prop := ∀ m a, m < n → l[m]? = some a → a ∉ seen ++ l.take m
theorem dupIn_no : ∀ {l seen : List Str} {i : Nat}, Clean seen l l.length → dupIn seen l i = none
  | [], _, _, _ => rfl
  | a :: l, seen, i, h => by
    have h0 : a ∉ seen := by simpa using h 0 a (by simp) rfl
    have ih := dupIn_no (l := l) (seen := seen ++ [a]) (i := i + 1) fun m b hm hb => by
      have := h (m + 1) b (by simpa using hm) (by simpa using hb)
      simpa [List.append_assoc] using this
    unfold dupIn
    rw [if_neg h0, ih]
theorem dupIn_some : ∀ {l seen : List Str} {i j : Nat} {a : Str}, Clean seen l j → l[j]? = some a → a ∈ seen ++ l.take j → dupIn seen l i = some (i + j)
  | [], _, _, _, _, _, h, _ => by simp at h
  | b :: l, seen, i, 0, a, _, h, hm => by
    have : b = a := by simpa using h
    unfold dupIn
    rw [if_pos (by rw [this]; simpa using hm)]; rfl
  | b :: l, seen, i, j + 1, a, hc, h, hm => by
    have h0 : b ∉ seen := by simpa using hc 0 b (by omega) rfl
    have ih := dupIn_some (l := l) (seen := seen ++ [b]) (i := i + 1) (j := j) (a := a) (fun m c hm hc' => by
      have := hc (m + 1) c (by omega) (by simpa using hc')
      simpa [List.append_assoc] using this) (by simpa using h) (by simpa [List.append_assoc] using hm)
    unfold dupIn
    rw [if_neg h0, ih]
    congr 1
    omega
theorem dups_no : ∀ {L : List (List Str)} {seen : List Str} {k : Int}, (∀ n l, L[n]? = some l → Clean (seen ++ (L.take n).flatten) l l.length) → dups seen L k = none
  | [], _, _, _ => rfl
  | l :: L, seen, k, h => by
    have h0 := h 0 l rfl
    have ih := dups_no (L := L) (seen := seen ++ l) (k := k + 1) fun n m hm => by
      have := h (n + 1) m (by simpa using hm)
      simpa [List.append_assoc] using this
    unfold dups
    rw [dupIn_no (by simpa using h0)]
    exact ih
theorem dups_some : ∀ {L : List (List Str)} {seen : List Str} {k : Int} {n : Nat} {l : List Str} {j : Nat} {a : Str}, (∀ n' l', n' < n → L[n']? = some l' → Clean (seen ++ (L.take n').flatten) l' l'.length) → L[n]? = some l → Clean (seen ++ (L.take n).flatten) l j → l[j]? = some a → a ∈ (seen ++ (L.take n).flatten) ++ l.take j → dups seen L k = some ⟨6, k + n, j⟩
  | [], _, _, _, _, _, _, _, h, _, _, _ => by simp at h
  | l0 :: L, seen, k, 0, l, j, a, _, h, hc, ha, hm => by
    have : l0 = l := by simpa using h
    subst this
    unfold dups
    rw [dupIn_some (i := 0) (j := j) (by simpa using hc) ha (by simpa using hm)]
    simp
  | l0 :: L, seen, k, n + 1, l, j, a, hp, h, hc, ha, hm => by
    have h0 := hp 0 l0 (by omega) rfl
    have ih := dups_some (L := L) (seen := seen ++ l0) (k := k + 1) (n := n) (l := l) (j := j) (a := a) (fun n' l' hn' hl' => by
      have := hp (n' + 1) l' (by omega) (by simpa using hl')
      simpa [List.append_assoc] using this) (by simpa using h) (by simpa [List.append_assoc] using hc) ha (by simpa [List.append_assoc] using hm)
    unfold dups
    rw [dupIn_no (by simpa using h0)]
    simp only
    rw [ih]
    congr 2
    omega
theorem firstErr_no {α : Type} {f : α → Int} : ∀ {l : List α} {i : Nat}, (∀ a ∈ l, f a = 0) → firstErr f l i = none
  | [], _, _ => rfl
  | a :: l, i, h => by
    unfold firstErr
    rw [if_pos (h a (by simp))]
    exact firstErr_no fun b hb => h b (List.mem_cons_of_mem _ hb)
theorem firstErr_none {α : Type} {f : α → Int} : ∀ {l : List α} {i : Nat}, firstErr f l i = none → ∀ a ∈ l, f a = 0
  | [], _, _, a, h => by cases h
  | b :: l, i, h, a, ha => by
    unfold firstErr at h
    split at h
    · rename_i hb
      rcases List.mem_cons.1 ha with rfl | ha
      · exact hb
      · exact firstErr_none h a ha
    · cases h
theorem firstErr_some {α : Type} {f : α → Int} : ∀ {l : List α} {i j : Nat} {a : α}, (∀ m b, m < j → l[m]? = some b → f b = 0) → l[j]? = some a → f a ≠ 0 → firstErr f l i = some (f a, i + j)
  | [], _, _, _, _, h, _ => by simp at h
  | b :: l, i, 0, a, _, h, hf => by
    have : b = a := by simpa using h
    subst this
    unfold firstErr
    rw [if_neg hf]; rfl
  | b :: l, i, j + 1, a, hc, h, hf => by
    have h0 := hc 0 b (by omega) rfl
    have ih := firstErr_some (l := l) (i := i + 1) (j := j) (a := a) (fun m c hm hc' => hc (m + 1) c (by omega) (by simpa using hc')) (by simpa using h) hf
    unfold firstErr
    rw [if_pos h0, ih]
    congr 2
    omega
end Go.CM.Tt

noncomputable section
namespace Go.CM
theorem W.ixv {E : Env} {tm : Tm} {h : Heap} {Q : R → Prop} {all rest : List Oper} {o : Oper} {t e : TypeId} {x y : Operand} {cs : List CV} {s es : TyS} {kk : IntKind} {j n : Nat} {m : Int} {v : CV} (hgd : guardOn all tm o = some true) (hop : o.op = .index t x y) (hx : cvOf E.globs tm x = .agg cs) (hy : cvOf E.globs tm y = .int kk m) (hs : E.ty t = some s) (hk : s.kind = .array n e) (hes : E.ty e = some es) (hz : es.size = 1) (hag : es.agg = false) (hn : place m n = some j) (hv : nth cs j = some v)
    (w : W E (.ops all rest) (putTmp tm o.dst v) h Q) : W E (.ops all (o :: rest)) tm h Q := by
  refine W.op hgd (v := v) (h1 := h) ?_ w
  unfold opAny
  rw [hop]
  show oIndex E (E.ty t) (cvOf E.globs tm x) (cvOf E.globs tm y) h = _
  rw [hx, hy, hs]
  unfold oIndex
  have hp : CM.part cs (j * es.size) es.size es.agg = some v := by
    rw [hag, hz, Nat.mul_one]; exact hv
  simp only [hk, hn, hes, hp, withH]
end Go.CM

noncomputable section
namespace Go.CM
theorem W.ixp {E : Env} {tm : Tm} {h : Heap} {Q : R → Prop} {all rest : List Oper} {o : Oper} {t e : TypeId} {x y : Operand} {s : TyS} {kk : IntKind} {i off j n : Nat} {m : Int} (hgd : guardOn all tm o = some true) (hop : o.op = .indexAddr t x y) (hx : cvOf E.globs tm x = .ptr (some (i, off))) (hy : cvOf E.globs tm y = .int kk m) (hs : E.ty t = some s) (hk : s.kind = .array n e) (hz : sizeOf? E e = some 1) (hn : place m n = some j)
    (w : W E (.ops all rest) (putTmp tm o.dst (.ptr (some (i, off + j)))) h Q) : W E (.ops all (o :: rest)) tm h Q := by
  refine W.op hgd (v := .ptr (some (i, off + j))) (h1 := h) ?_ w
  unfold opAny
  rw [hop]
  show oIndexAddr E (E.ty t) (cvOf E.globs tm x) (cvOf E.globs tm y) h = _
  rw [hx, hy, hs]
  unfold oIndexAddr
  simp only [hk, hz, hn, addrAt, Nat.mul_one]
end Go.CM

namespace Go.CM.Tt
theorem firstErr_map {α : Type} (f : α → Int) : ∀ (l : List α) (i : Nat), firstErr f l i = firstErr id (l.map f) i
  | [], _ => rfl
  | a :: l, i => by
    rw [List.map_cons]
    unfold firstErr
    rw [firstErr_map f l (i + 1)]
    rfl
theorem len_le_flatten {α : Type} : ∀ {L : List (List α)} {l : List α}, l ∈ L → l.length ≤ L.flatten.length
  | [], _, h => by cases h
  | a :: L, l, h => by
    rw [List.flatten_cons, List.length_append]
    rcases List.mem_cons.1 h with rfl | h
    · omega
    · have := len_le_flatten h
      omega
noncomputable def WorldD.errs (w : WorldD) : List (List Int) := [[], w.names.stops.map fun _ => 0, w.paths.map PathW.err, w.doors.map (DoorW.err w.hz), w.routes.map RouteW.err, w.trips.map TripW.err, w.hazards.map (HazW.err w.hz)]
theorem wrong_err {w : WorldD} (hd : dups [] w.names.lists 0 = none) {k j : Nat} {l : List Int} {e : Int} (hp : ∀ n l', n < k → w.errs[n]? = some l' → ∀ x ∈ l', x = 0) (hl : w.errs[k]? = some l) (hj : ∀ m b, m < j → l[m]? = some b → b = 0) (he : l[j]? = some e) (h0 : e ≠ 0) : w.wrong = ⟨e, k, j⟩ := by
  have hs : firstErr id l 0 = some (e, j) := by
    have := firstErr_some (f := id) (i := 0) hj he h0
    simpa using this
  have no : ∀ n l', n < k → w.errs[n]? = some l' → firstErr id l' 0 = none := fun n l' hn hl' => firstErr_no (hp n l' hn hl')
  unfold WorldD.wrong
  rw [hd, firstErr_map PathW.err, firstErr_map (DoorW.err w.hz), firstErr_map RouteW.err, firstErr_map TripW.err, firstErr_map (HazW.err w.hz)]
  have hk : k < 7 := (List.getElem?_eq_some_iff.1 hl).1
  unfold WorldD.errs at hl no
  rcases k with _ | _ | _ | _ | _ | _ | _ | k
  · cases hl; simp at he
  · cases hl
    rw [List.getElem?_map] at he
    cases hx : w.names.stops[j]? with
    | none => rw [hx] at he; cases he
    | some x => rw [hx] at he; exact absurd (Option.some.inj he).symm h0
  · cases hl
    rw [hs]; rfl
  · have n2 := no 2 _ (by omega) rfl
    cases hl
    rw [n2, hs]; rfl
  · have n2 := no 2 _ (by omega) rfl
    have n3 := no 3 _ (by omega) rfl
    cases hl
    rw [n2, n3, hs]; rfl
  · have n2 := no 2 _ (by omega) rfl
    have n3 := no 3 _ (by omega) rfl
    have n4 := no 4 _ (by omega) rfl
    cases hl
    rw [n2, n3, n4, hs]; rfl
  · have n2 := no 2 _ (by omega) rfl
    have n3 := no 3 _ (by omega) rfl
    have n4 := no 4 _ (by omega) rfl
    have n5 := no 5 _ (by omega) rfl
    cases hl
    rw [n2, n3, n4, n5, hs]; rfl
  · omega
theorem wrong_none {w : WorldD} (hd : dups [] w.names.lists 0 = none) (hp : ∀ (n : Nat) (l' : List Int), w.errs[n]? = some l' → ∀ x ∈ l', x = 0) : w.wrong = Wrong0 := by
  have no : ∀ (n : Nat) (l' : List Int), w.errs[n]? = some l' → firstErr id l' 0 = none := fun n l' hl' => firstErr_no (hp n l' hl')
  unfold WorldD.wrong
  rw [hd, firstErr_map PathW.err, firstErr_map (DoorW.err w.hz), firstErr_map RouteW.err, firstErr_map TripW.err, firstErr_map (HazW.err w.hz)]
  rw [no 2 _ rfl, no 3 _ rfl, no 4 _ rfl, no 5 _ rfl, no 6 _ rfl]
  rfl
end Go.CM.Tt
