/- The document's own union of two rows of windows. No condition. -/
import Derived.Test.YtdcegklfbhfddaaXP7
namespace Go.Proofs.Ytdcegklfbhfddaa
set_option linter.unusedVariables false
set_option linter.unusedSimpArgs false
open Go Go.CM
noncomputable section
set_option maxHeartbeats 16000000

theorem W.dln {E : Env} {tm : Tm} {h : Heap} {Q : R → Prop} {all rest : List Oper} {o : Oper} {bs : List Bits} {recs : List Rec} {i : Nat} {c : Call} {t e : TypeId} {s : TyS} {v : CV} {n : Nat} {a0 a1 a2 a3 a4 a5 a6 a7 a8 a9 a10 a11 a12 a13 a14 a15 : NA} {a16 : Tree CV} (hl : LenOf v n)
    (hgd : guardOn all tm o = some true) (hop : o.op = .call c) (hb : c.callee = .builtin .len) (hty : c.argTypes.toList = [t]) (ha : c.args.toList.map (cvOf E.globs tm) = [v]) (hts : E.ty t = some s) (hk : s.kind = .slice e)
    (ht : putTmp tm o.dst (.int .i64 (Int.ofNat n)) = (Tm.mk a0 a1 a2 a3 a4 a5 a6 a7 a8 a9 a10 a11 a12 a13 a14 a15 a16)) (w : W E (.draw bs all rest (i + 1) recs) (Tm.mk a0 a1 a2 a3 a4 a5 a6 a7 a8 a9 a10 a11 a12 a13 a14 a15 a16) h Q) : W E (.draw bs all (o :: rest) i recs) tm h Q := by
  have hfp : fpAny E o tm = [] := by
    unfold fpAny
    rw [hop]
    simp only [fpOf, hb, ha]
    rcases hl with ⟨rfl, rfl⟩ | ⟨p, c', x, rfl⟩ <;> rfl
  have hb : isBuiltin c.callee = some .len := by rw [hb]; rfl
  refine W.dop hgd hfp (v := .int .i64 (Int.ofNat n)) ?_ (by rw [ht]; exact w)
  unfold opAny
  rw [hop]
  simp only [hb]
  show builtinV E _ .len c.argTypes.toList (c.args.toList.map (cvOf E.globs tm)) = _
  rw [hty, ha]
  rcases hl with ⟨rfl, rfl⟩ | ⟨p, c', x, rfl⟩
  · simp [builtinV, lenV, hts, hk]; rfl
  · simp [builtinV, lenV, hts, hk]; rfl

theorem merge_nl {b : List (Int × Int)} : Wins.merge [] b = b := by
  cases b with
  | nil => rfl
  | cons y b => unfold Wins.merge; rw [show ([] : List (Int × Int)).length + (y :: b).length = b.length + 1 from Nat.zero_add _]; rfl
theorem merge_nr {a : List (Int × Int)} : Wins.merge a [] = a := by
  cases a with
  | nil => rfl
  | cons x a => rfl
theorem merge_cc {x y : Int × Int} {a b : List (Int × Int)} : Wins.merge (x :: a) (y :: b) = if x.1 ≤ y.1 then x :: Wins.merge a (y :: b) else y :: Wins.merge (x :: a) b := by
  unfold Wins.merge
  rw [show (x :: a).length + (y :: b).length = (a.length + (y :: b).length) + 1 by simp only [List.length_cons]; omega, Wins.mergeF_cons]
  rw [show a.length + (y :: b).length = (x :: a).length + b.length by simp only [List.length_cons]; omega]
theorem len_mergeF : ∀ {n : Nat} {a b : List (Int × Int)}, (Wins.mergeF n a b).length = a.length + b.length
  | 0, a, b => List.length_append
  | n + 1, [], b => by show b.length = _; simp
  | n + 1, x :: a, [] => rfl
  | n + 1, x :: a, y :: b => by
    rw [Wins.mergeF_cons]
    split
    · rw [List.length_cons, len_mergeF]; simp only [List.length_cons]; omega
    · rw [List.length_cons, len_mergeF]; simp only [List.length_cons]; omega
theorem len_joinP : ∀ {r : List (Int × Int)} {p : Int × Int}, (Wins.joinP p r).length ≤ r.length + 1
  | [], p => Nat.le_refl _
  | w :: r, p => by
    unfold Wins.joinP
    split
    · have := len_joinP (r := r) (p := (p.1, if w.2 ≤ p.2 then p.2 else w.2)); simp only [List.length_cons]; omega
    · have := len_joinP (r := r) (p := w); simp only [List.length_cons]; omega
theorem len_union {a b : List (Int × Int)} : (Wins.union a b).length ≤ a.length + b.length := by
  have h : (Wins.merge a b).length = a.length + b.length := len_mergeF
  unfold Wins.union
  rw [← h]
  cases Wins.merge a b with
  | nil => exact Nat.le_refl _
  | cons p r => exact len_joinP
theorem drop_of {α : Type} {l : List α} {k : Nat} {u : α} (hu : l[k]? = some u) : l.drop k = u :: l.drop (k + 1) := by
  have hk := (List.getElem?_eq_some_iff.1 hu).1
  rw [List.drop_eq_getElem_cons hk]
  congr 1
  rw [List.getElem?_eq_getElem hk] at hu
  exact Option.some.inj hu

theorem union_w {h : Heap} {tm : Tm} {Q : R → Prop} {va vb : CV} {a b : List (Int × Int)} (sa : SlW h va a) (sb : SlW h vb b) (hma : a.length ≤ 100000) (hmb : b.length ≤ 100000) (ga : Wins.Good a (-1)) (gb : Wins.Good b (-1))
    (q : ∀ v' h', Ext h h' → OwnT h' K5 h.next 2 (5, 0) v' ((Wins.union a b).map winC) → Q (.val v' h')) : W E1 (.call (.fn 11 [] []) [va, vb]) tm h Q := by
  refine W.fn (s := fnOf Try.f11) rfl rfl rfl rfl ?_
  repeat (first | (with_reducible first | refine W.seq ?_ | refine W.block ?_ | refine W.region ?_ | refine W.draws ?_ | refine W.skip ?_ | refine W.exit ?_ | refine W.ret ?_ | refine SeqQ.normal ?_ | refine SeqQ.exit ?_ | refine SeqQ.ret ?_ | refine BlockQ.exit ?_ | refine BlockQ.normal ?_ | refine BlockQ.ret ?_ | refine BlockQ.other rfl ?_ | refine LoopQ.exit ?_ | refine CallQ.val ?_ | refine CutQ.normal ?_ | refine LoopQ.ret ?_) | refine W.offn rfl rfl ?_ | refine W.opn rfl op_lss rfl ?_ | refine W.opn rfl op_leq rfl ?_ | refine W.opn rfl op_eql rfl ?_ | refine W.opn rfl op_neq rfl ?_ | refine W.opn rfl (op_sub (by omega) (by omega)) rfl ?_ | refine W.opn rfl (op_add (by omega) (by omega)) rfl ?_ | refine W.opn (v := .int _ _) rfl rfl rfl ?_ | refine W.opn (v := .ptr _) rfl rfl rfl ?_ | refine W.opn (v := .bool _) rfl rfl rfl ?_ | refine W.opn (v := .slice _ _ _ _) rfl rfl rfl ?_ | refine W.opn (v := .agg _) rfl rfl rfl ?_ | refine W.opn (v := .tup _) rfl rfl rfl ?_ | refine W.opn rfl rfl rfl ?_ | refine W.offn rfl rfl ?_ | refine W.nil ?_)
  refine W.call rfl rfl rfl (rgood_w sa (by omega) fun H1 b1 X1 h1 => ?_)
  have h1 := h1.2 ga
  subst h1
  refine W.anyTm (fun tm => tm.look 0 = va ∧ tm.look 1 = vb ∧ tm.look 4 = .slice none 0 0 0 ∧ tm.look 9 = .bool true) ⟨rfl, rfl, rfl, rfl⟩ ?_
  rintro tm ⟨w0, w1, w4, w9⟩
  obtain ⟨T, rfl⟩ : ∃ T : Tm, tm = ((((T.set 0 (some (va))).set 1 (some (vb))).set 4 (some (.slice none 0 0 0))).set 9 (some (.bool true))) := ⟨tm, (show tm = ((((tm.set 0 (some (tm.look 0))).set 1 (some (tm.look 1))).set 4 (some (tm.look 4))).set 9 (some (tm.look 9))) by rfl).trans (by rw [w0, w1, w4, w9])⟩
  clear w0 w1 w4 w9
  repeat (first | (with_reducible first | refine W.seq ?_ | refine W.block ?_ | refine W.region ?_ | refine W.draws ?_ | refine W.skip ?_ | refine W.exit ?_ | refine W.ret ?_ | refine SeqQ.normal ?_ | refine SeqQ.exit ?_ | refine SeqQ.ret ?_ | refine BlockQ.exit ?_ | refine BlockQ.normal ?_ | refine BlockQ.ret ?_ | refine BlockQ.other rfl ?_ | refine LoopQ.exit ?_ | refine CallQ.val ?_ | refine CutQ.normal ?_ | refine LoopQ.ret ?_) | refine W.offn rfl rfl ?_ | refine W.opn rfl op_lss rfl ?_ | refine W.opn rfl op_leq rfl ?_ | refine W.opn rfl op_eql rfl ?_ | refine W.opn rfl op_neq rfl ?_ | refine W.opn rfl (op_sub (by omega) (by omega)) rfl ?_ | refine W.opn rfl (op_add (by omega) (by omega)) rfl ?_ | refine W.opn (v := .int _ _) rfl rfl rfl ?_ | refine W.opn (v := .ptr _) rfl rfl rfl ?_ | refine W.opn (v := .bool _) rfl rfl rfl ?_ | refine W.opn (v := .slice _ _ _ _) rfl rfl rfl ?_ | refine W.opn (v := .agg _) rfl rfl rfl ?_ | refine W.opn (v := .tup _) rfl rfl rfl ?_ | refine W.opn rfl rfl rfl ?_ | refine W.offn rfl rfl ?_ | refine W.nil ?_)
  refine W.call rfl rfl rfl (rgood_w (sb.ext X1) (by omega) fun H2 b2 X2 h2 => ?_)
  have h2 := h2.2 gb
  subst h2
  have Y := X1.trans X2
  have sa2 := sa.ext Y
  have sb2 := sb.ext Y
  refine W.anyTm (fun tm => tm.look 0 = va ∧ tm.look 1 = vb ∧ tm.look 4 = .slice none 0 0 0 ∧ tm.look 11 = .bool false ∧ tm.look 13 = .bool true) ⟨rfl, rfl, rfl, rfl, rfl⟩ ?_
  rintro tm ⟨w0, w1, w4, w11, w13⟩
  obtain ⟨T, rfl⟩ : ∃ T : Tm, tm = (((((T.set 0 (some (va))).set 1 (some (vb))).set 4 (some (.slice none 0 0 0))).set 11 (some (.bool false))).set 13 (some (.bool true))) := ⟨tm, (show tm = (((((tm.set 0 (some (tm.look 0))).set 1 (some (tm.look 1))).set 4 (some (tm.look 4))).set 11 (some (tm.look 11))).set 13 (some (tm.look 13))) by rfl).trans (by rw [w0, w1, w4, w11, w13])⟩
  clear w0 w1 w4 w11 w13
  repeat (first | (with_reducible first | refine W.seq ?_ | refine W.block ?_ | refine W.region ?_ | refine W.draws ?_ | refine W.skip ?_ | refine W.exit ?_ | refine W.ret ?_ | refine SeqQ.normal ?_ | refine SeqQ.exit ?_ | refine SeqQ.ret ?_ | refine BlockQ.exit ?_ | refine BlockQ.normal ?_ | refine BlockQ.ret ?_ | refine BlockQ.other rfl ?_ | refine LoopQ.exit ?_ | refine CallQ.val ?_ | refine CutQ.normal ?_ | refine LoopQ.ret ?_) | refine W.offn rfl rfl ?_ | refine W.opn rfl op_lss rfl ?_ | refine W.opn rfl op_leq rfl ?_ | refine W.opn rfl op_eql rfl ?_ | refine W.opn rfl op_neq rfl ?_ | refine W.opn rfl (op_sub (by omega) (by omega)) rfl ?_ | refine W.opn rfl (op_add (by omega) (by omega)) rfl ?_ | refine W.opn (v := .int _ _) rfl rfl rfl ?_ | refine W.opn (v := .ptr _) rfl rfl rfl ?_ | refine W.opn (v := .bool _) rfl rfl rfl ?_ | refine W.opn (v := .slice _ _ _ _) rfl rfl rfl ?_ | refine W.opn (v := .agg _) rfl rfl rfl ?_ | refine W.opn (v := .tup _) rfl rfl rfl ?_ | refine W.opn rfl rfl rfl ?_ | refine W.offn rfl rfl ?_ | refine W.nil ?_)
  refine W.cond (x := false) rfl (fun hc => by cases hc) (fun _ => ?_)
  repeat (first | (with_reducible first | refine W.seq ?_ | refine W.block ?_ | refine W.region ?_ | refine W.draws ?_ | refine W.skip ?_ | refine W.exit ?_ | refine W.ret ?_ | refine SeqQ.normal ?_ | refine SeqQ.exit ?_ | refine SeqQ.ret ?_ | refine BlockQ.exit ?_ | refine BlockQ.normal ?_ | refine BlockQ.ret ?_ | refine BlockQ.other rfl ?_ | refine LoopQ.exit ?_ | refine CallQ.val ?_ | refine CutQ.normal ?_ | refine LoopQ.ret ?_) | refine W.offn rfl rfl ?_ | refine W.opn rfl op_lss rfl ?_ | refine W.opn rfl op_leq rfl ?_ | refine W.opn rfl op_eql rfl ?_ | refine W.opn rfl op_neq rfl ?_ | refine W.opn rfl (op_sub (by omega) (by omega)) rfl ?_ | refine W.opn rfl (op_add (by omega) (by omega)) rfl ?_ | refine W.opn (v := .int _ _) rfl rfl rfl ?_ | refine W.opn (v := .ptr _) rfl rfl rfl ?_ | refine W.opn (v := .bool _) rfl rfl rfl ?_ | refine W.opn (v := .slice _ _ _ _) rfl rfl rfl ?_ | refine W.opn (v := .agg _) rfl rfl rfl ?_ | refine W.opn (v := .tup _) rfl rfl rfl ?_ | refine W.opn rfl rfl rfl ?_ | refine W.offn rfl rfl ?_ | refine W.nil ?_)
  have hca : (Int.ofNat a.length) = (a.length : Int) := rfl
  have hcb : (Int.ofNat b.length) = (b.length : Int) := rfl
  refine W.loop (σ := Nat × Nat) (fun s tm h' => tm.look 0 = va ∧ tm.look 1 = vb ∧ tm.look 6 = .int .i64 (s.1 : Int) ∧ tm.look 7 = .int .i64 (s.2 : Int) ∧ (∃ vo ws, tm.look 5 = vo ∧ OwnT h' K5 H2.next 2 (5, 0) vo (ws.map winC) ∧ ws.length = s.1 + s.2 ∧ Wins.merge a b = ws ++ Wins.merge (a.drop s.1) (b.drop s.2)) ∧ s.1 ≤ a.length ∧ s.2 ≤ b.length ∧ Ext H2 h') (fun s => (a.length - s.1) + (b.length - s.2)) ?_ (s := (0, 0))
    ⟨rfl, rfl, rfl, rfl, ⟨_, [], rfl, OwnT.nil, rfl, rfl⟩, Nat.zero_le _, Nat.zero_le _, Ext.refl _⟩
  rintro ⟨i, k⟩ tm h' ⟨w0, w1, w6, w7, ⟨vo, ws, w5, hO, hwk, hst⟩, hi, hk, X⟩
  simp only at w6 w7 hwk hst hi hk
  obtain ⟨T, rfl⟩ : ∃ T : Tm, tm = (((((T.set 0 (some (va))).set 1 (some (vb))).set 5 (some (vo))).set 6 (some (.int .i64 (i : Int)))).set 7 (some (.int .i64 (k : Int)))) := ⟨tm, (show tm = (((((tm.set 0 (some (tm.look 0))).set 1 (some (tm.look 1))).set 5 (some (tm.look 5))).set 6 (some (tm.look 6))).set 7 (some (tm.look 7))) by rfl).trans (by rw [w0, w1, w5, w6, w7])⟩
  clear w0 w1 w5 w6 w7
  have sa3 := sa2.ext X
  have sb3 := sb2.ext X
  have hO' := hO.lenOf
  rw [List.length_map] at hO'
  refine W.seq ?_
  refine W.cutAt (fun tm h2 => (tm.look 0 = va ∧ tm.look 1 = vb ∧ tm.look 5 = vo ∧ tm.look 6 = .int .i64 (i : Int) ∧ tm.look 7 = .int .i64 (k : Int)) ∧ h' = h2 ∧ ∃ bb, tm.look 25 = .bool bb ∧ (bb = true ↔ i < a.length ∨ k < b.length)) ?_ ?_
  · repeat (first | (with_reducible first | refine W.seq ?_ | refine W.block ?_ | refine W.region ?_ | refine W.draws ?_ | refine W.skip ?_ | refine W.exit ?_ | refine W.ret ?_ | refine SeqQ.normal ?_ | refine SeqQ.exit ?_ | refine SeqQ.ret ?_ | refine BlockQ.exit ?_ | refine BlockQ.normal ?_ | refine BlockQ.ret ?_ | refine BlockQ.other rfl ?_ | refine LoopQ.exit ?_ | refine CallQ.val ?_ | refine CutQ.normal ?_ | refine LoopQ.ret ?_) | refine W.offn rfl rfl ?_ | refine W.opn rfl op_lss rfl ?_ | refine W.opn rfl op_leq rfl ?_ | refine W.opn rfl op_eql rfl ?_ | refine W.opn rfl op_neq rfl ?_ | refine W.opn rfl (op_sub (by omega) (by omega)) rfl ?_ | refine W.opn rfl (op_add (by omega) (by omega)) rfl ?_ | refine W.opn (v := .int _ _) rfl rfl rfl ?_ | refine W.opn (v := .ptr _) rfl rfl rfl ?_ | refine W.opn (v := .bool _) rfl rfl rfl ?_ | refine W.opn (v := .slice _ _ _ _) rfl rfl rfl ?_ | refine W.opn (v := .agg _) rfl rfl rfl ?_ | refine W.opn (v := .tup _) rfl rfl rfl ?_ | refine W.opn rfl rfl rfl ?_ | refine W.offn rfl rfl ?_ | refine W.nil ?_)
    refine W.ln sa.lenOf rfl rfl rfl rfl rfl rfl rfl rfl ?_
    repeat (first | (with_reducible first | refine W.seq ?_ | refine W.block ?_ | refine W.region ?_ | refine W.draws ?_ | refine W.skip ?_ | refine W.exit ?_ | refine W.ret ?_ | refine SeqQ.normal ?_ | refine SeqQ.exit ?_ | refine SeqQ.ret ?_ | refine BlockQ.exit ?_ | refine BlockQ.normal ?_ | refine BlockQ.ret ?_ | refine BlockQ.other rfl ?_ | refine LoopQ.exit ?_ | refine CallQ.val ?_ | refine CutQ.normal ?_ | refine LoopQ.ret ?_) | refine W.offn rfl rfl ?_ | refine W.opn rfl op_lss rfl ?_ | refine W.opn rfl op_leq rfl ?_ | refine W.opn rfl op_eql rfl ?_ | refine W.opn rfl op_neq rfl ?_ | refine W.opn rfl (op_sub (by omega) (by omega)) rfl ?_ | refine W.opn rfl (op_add (by omega) (by omega)) rfl ?_ | refine W.opn (v := .int _ _) rfl rfl rfl ?_ | refine W.opn (v := .ptr _) rfl rfl rfl ?_ | refine W.opn (v := .bool _) rfl rfl rfl ?_ | refine W.opn (v := .slice _ _ _ _) rfl rfl rfl ?_ | refine W.opn (v := .agg _) rfl rfl rfl ?_ | refine W.opn (v := .tup _) rfl rfl rfl ?_ | refine W.opn rfl rfl rfl ?_ | refine W.offn rfl rfl ?_ | refine W.nil ?_)
    by_cases ci : (i : Int) < Int.ofNat a.length
    · rw [decide_eq_true ci]
      repeat (first | (with_reducible first | refine W.seq ?_ | refine W.block ?_ | refine W.region ?_ | refine W.draws ?_ | refine W.skip ?_ | refine W.exit ?_ | refine W.ret ?_ | refine SeqQ.normal ?_ | refine SeqQ.exit ?_ | refine SeqQ.ret ?_ | refine BlockQ.exit ?_ | refine BlockQ.normal ?_ | refine BlockQ.ret ?_ | refine BlockQ.other rfl ?_ | refine LoopQ.exit ?_ | refine CallQ.val ?_ | refine CutQ.normal ?_ | refine LoopQ.ret ?_) | refine W.offn rfl rfl ?_ | refine W.opn rfl op_lss rfl ?_ | refine W.opn rfl op_leq rfl ?_ | refine W.opn rfl op_eql rfl ?_ | refine W.opn rfl op_neq rfl ?_ | refine W.opn rfl (op_sub (by omega) (by omega)) rfl ?_ | refine W.opn rfl (op_add (by omega) (by omega)) rfl ?_ | refine W.opn (v := .int _ _) rfl rfl rfl ?_ | refine W.opn (v := .ptr _) rfl rfl rfl ?_ | refine W.opn (v := .bool _) rfl rfl rfl ?_ | refine W.opn (v := .slice _ _ _ _) rfl rfl rfl ?_ | refine W.opn (v := .agg _) rfl rfl rfl ?_ | refine W.opn (v := .tup _) rfl rfl rfl ?_ | refine W.opn rfl rfl rfl ?_ | refine W.offn rfl rfl ?_ | refine W.nil ?_)
      exact ⟨⟨rfl, rfl, rfl, rfl, rfl⟩, rfl, true, rfl, (fun _ => .inl (by omega)), fun _ => rfl⟩
    · rw [decide_eq_false ci]
      repeat (first | (with_reducible first | refine W.seq ?_ | refine W.block ?_ | refine W.region ?_ | refine W.draws ?_ | refine W.skip ?_ | refine W.exit ?_ | refine W.ret ?_ | refine SeqQ.normal ?_ | refine SeqQ.exit ?_ | refine SeqQ.ret ?_ | refine BlockQ.exit ?_ | refine BlockQ.normal ?_ | refine BlockQ.ret ?_ | refine BlockQ.other rfl ?_ | refine LoopQ.exit ?_ | refine CallQ.val ?_ | refine CutQ.normal ?_ | refine LoopQ.ret ?_) | refine W.offn rfl rfl ?_ | refine W.opn rfl op_lss rfl ?_ | refine W.opn rfl op_leq rfl ?_ | refine W.opn rfl op_eql rfl ?_ | refine W.opn rfl op_neq rfl ?_ | refine W.opn rfl (op_sub (by omega) (by omega)) rfl ?_ | refine W.opn rfl (op_add (by omega) (by omega)) rfl ?_ | refine W.opn (v := .int _ _) rfl rfl rfl ?_ | refine W.opn (v := .ptr _) rfl rfl rfl ?_ | refine W.opn (v := .bool _) rfl rfl rfl ?_ | refine W.opn (v := .slice _ _ _ _) rfl rfl rfl ?_ | refine W.opn (v := .agg _) rfl rfl rfl ?_ | refine W.opn (v := .tup _) rfl rfl rfl ?_ | refine W.opn rfl rfl rfl ?_ | refine W.offn rfl rfl ?_ | refine W.nil ?_)
      refine W.ln sb.lenOf rfl rfl rfl rfl rfl rfl rfl rfl ?_
      repeat (first | (with_reducible first | refine W.seq ?_ | refine W.block ?_ | refine W.region ?_ | refine W.draws ?_ | refine W.skip ?_ | refine W.exit ?_ | refine W.ret ?_ | refine SeqQ.normal ?_ | refine SeqQ.exit ?_ | refine SeqQ.ret ?_ | refine BlockQ.exit ?_ | refine BlockQ.normal ?_ | refine BlockQ.ret ?_ | refine BlockQ.other rfl ?_ | refine LoopQ.exit ?_ | refine CallQ.val ?_ | refine CutQ.normal ?_ | refine LoopQ.ret ?_) | refine W.offn rfl rfl ?_ | refine W.opn rfl op_lss rfl ?_ | refine W.opn rfl op_leq rfl ?_ | refine W.opn rfl op_eql rfl ?_ | refine W.opn rfl op_neq rfl ?_ | refine W.opn rfl (op_sub (by omega) (by omega)) rfl ?_ | refine W.opn rfl (op_add (by omega) (by omega)) rfl ?_ | refine W.opn (v := .int _ _) rfl rfl rfl ?_ | refine W.opn (v := .ptr _) rfl rfl rfl ?_ | refine W.opn (v := .bool _) rfl rfl rfl ?_ | refine W.opn (v := .slice _ _ _ _) rfl rfl rfl ?_ | refine W.opn (v := .agg _) rfl rfl rfl ?_ | refine W.opn (v := .tup _) rfl rfl rfl ?_ | refine W.opn rfl rfl rfl ?_ | refine W.offn rfl rfl ?_ | refine W.nil ?_)
      refine ⟨⟨rfl, rfl, rfl, rfl, rfl⟩, rfl, _, rfl, fun h => .inr ?_, fun h => decide_eq_true ?_⟩
      · have := of_decide_eq_true h
        omega
      · show (k : Int) < Int.ofNat b.length
        omega
  rintro tm h2 ⟨⟨w0, w1, w5, w6, w7⟩, rfl, bb, w25, hbb⟩
  obtain ⟨T, rfl⟩ : ∃ T : Tm, tm = ((((((T.set 0 (some (va))).set 1 (some (vb))).set 5 (some (vo))).set 6 (some (.int .i64 (i : Int)))).set 7 (some (.int .i64 (k : Int)))).set 25 (some (.bool bb))) := ⟨tm, (show tm = ((((((tm.set 0 (some (tm.look 0))).set 1 (some (tm.look 1))).set 5 (some (tm.look 5))).set 6 (some (tm.look 6))).set 7 (some (tm.look 7))).set 25 (some (tm.look 25))) by rfl).trans (by rw [w0, w1, w5, w6, w7, w25])⟩
  clear w0 w1 w5 w6 w7 w25
  cases bb
  · have hn : ¬ (i < a.length ∨ k < b.length) := fun h => by cases hbb.2 h
    repeat (first | (with_reducible first | refine W.seq ?_ | refine W.block ?_ | refine W.region ?_ | refine W.draws ?_ | refine W.skip ?_ | refine W.exit ?_ | refine W.ret ?_ | refine SeqQ.normal ?_ | refine SeqQ.exit ?_ | refine SeqQ.ret ?_ | refine BlockQ.exit ?_ | refine BlockQ.normal ?_ | refine BlockQ.ret ?_ | refine BlockQ.other rfl ?_ | refine LoopQ.exit ?_ | refine CallQ.val ?_ | refine CutQ.normal ?_ | refine LoopQ.ret ?_) | refine W.offn rfl rfl ?_ | refine W.opn rfl op_lss rfl ?_ | refine W.opn rfl op_leq rfl ?_ | refine W.opn rfl op_eql rfl ?_ | refine W.opn rfl op_neq rfl ?_ | refine W.opn rfl (op_sub (by omega) (by omega)) rfl ?_ | refine W.opn rfl (op_add (by omega) (by omega)) rfl ?_ | refine W.opn (v := .int _ _) rfl rfl rfl ?_ | refine W.opn (v := .ptr _) rfl rfl rfl ?_ | refine W.opn (v := .bool _) rfl rfl rfl ?_ | refine W.opn (v := .slice _ _ _ _) rfl rfl rfl ?_ | refine W.opn (v := .agg _) rfl rfl rfl ?_ | refine W.opn (v := .tup _) rfl rfl rfl ?_ | refine W.opn rfl rfl rfl ?_ | refine W.offn rfl rfl ?_ | refine W.nil ?_)
    refine W.cond (x := false) rfl (fun hc => by cases hc) (fun _ => ?_)
    repeat (first | (with_reducible first | refine W.seq ?_ | refine W.block ?_ | refine W.region ?_ | refine W.draws ?_ | refine W.skip ?_ | refine W.exit ?_ | refine W.ret ?_ | refine SeqQ.normal ?_ | refine SeqQ.exit ?_ | refine SeqQ.ret ?_ | refine BlockQ.exit ?_ | refine BlockQ.normal ?_ | refine BlockQ.ret ?_ | refine BlockQ.other rfl ?_ | refine LoopQ.exit ?_ | refine CallQ.val ?_ | refine CutQ.normal ?_ | refine LoopQ.ret ?_) | refine W.offn rfl rfl ?_ | refine W.opn rfl op_lss rfl ?_ | refine W.opn rfl op_leq rfl ?_ | refine W.opn rfl op_eql rfl ?_ | refine W.opn rfl op_neq rfl ?_ | refine W.opn rfl (op_sub (by omega) (by omega)) rfl ?_ | refine W.opn rfl (op_add (by omega) (by omega)) rfl ?_ | refine W.opn (v := .int _ _) rfl rfl rfl ?_ | refine W.opn (v := .ptr _) rfl rfl rfl ?_ | refine W.opn (v := .bool _) rfl rfl rfl ?_ | refine W.opn (v := .slice _ _ _ _) rfl rfl rfl ?_ | refine W.opn (v := .agg _) rfl rfl rfl ?_ | refine W.opn (v := .tup _) rfl rfl rfl ?_ | refine W.opn rfl rfl rfl ?_ | refine W.offn rfl rfl ?_ | refine W.nil ?_)
    have hws : Wins.merge a b = ws := by
      rw [hst, List.drop_of_length_le (by omega), List.drop_of_length_le (by omega)]
      exact List.append_nil _
    refine W.call rfl rfl rfl (joined_w hO.sl (by omega) fun v4 h4 X4 s4 => ?_)
    repeat (first | (with_reducible first | refine W.seq ?_ | refine W.block ?_ | refine W.region ?_ | refine W.draws ?_ | refine W.skip ?_ | refine W.exit ?_ | refine W.ret ?_ | refine SeqQ.normal ?_ | refine SeqQ.exit ?_ | refine SeqQ.ret ?_ | refine BlockQ.exit ?_ | refine BlockQ.normal ?_ | refine BlockQ.ret ?_ | refine BlockQ.other rfl ?_ | refine LoopQ.exit ?_ | refine CallQ.val ?_ | refine CutQ.normal ?_ | refine LoopQ.ret ?_) | refine W.offn rfl rfl ?_ | refine W.opn rfl op_lss rfl ?_ | refine W.opn rfl op_leq rfl ?_ | refine W.opn rfl op_eql rfl ?_ | refine W.opn rfl op_neq rfl ?_ | refine W.opn rfl (op_sub (by omega) (by omega)) rfl ?_ | refine W.opn rfl (op_add (by omega) (by omega)) rfl ?_ | refine W.opn (v := .int _ _) rfl rfl rfl ?_ | refine W.opn (v := .ptr _) rfl rfl rfl ?_ | refine W.opn (v := .bool _) rfl rfl rfl ?_ | refine W.opn (v := .slice _ _ _ _) rfl rfl rfl ?_ | refine W.opn (v := .agg _) rfl rfl rfl ?_ | refine W.opn (v := .tup _) rfl rfl rfl ?_ | refine W.opn rfl rfl rfl ?_ | refine W.offn rfl rfl ?_ | refine W.nil ?_)
    refine q _ _ (Y.trans (X.trans X4)) ?_
    unfold Wins.union
    rw [hws]
    exact s4.low (Y.trans X).next
  have hbb := hbb.1 rfl
  refine W.cond (x := true) rfl (fun _ => ?_) (fun hc => by cases hc)
  refine W.skip ?_
  refine SeqQ.normal ?_
  refine W.block ?_
  refine W.cutAt (fun tm h2 => (tm.look 0 = va ∧ tm.look 1 = vb ∧ tm.look 5 = vo ∧ tm.look 6 = .int .i64 (i : Int) ∧ tm.look 7 = .int .i64 (k : Int)) ∧ Ext h' h2 ∧ ∃ bb, tm.look 48 = .bool bb ∧ (bb = true → ∃ x, a[i]? = some x ∧ Wins.merge (a.drop i) (b.drop k) = x :: Wins.merge (a.drop (i + 1)) (b.drop k)) ∧ (bb = false → ∃ y, b[k]? = some y ∧ Wins.merge (a.drop i) (b.drop k) = y :: Wins.merge (a.drop i) (b.drop (k + 1)))) ?_ ?_
  · have ds := DS.start (Ext.refl h')
    repeat (first | (with_reducible first | refine W.seq ?_ | refine W.block ?_ | refine W.region ?_ | refine W.draws ?_ | refine W.skip ?_ | refine W.exit ?_ | refine W.ret ?_ | refine SeqQ.normal ?_ | refine SeqQ.exit ?_ | refine SeqQ.ret ?_ | refine BlockQ.exit ?_ | refine BlockQ.normal ?_ | refine BlockQ.ret ?_ | refine BlockQ.other rfl ?_ | refine LoopQ.exit ?_ | refine CallQ.val ?_ | refine CutQ.normal ?_ | refine LoopQ.ret ?_) | refine W.offn rfl rfl ?_ | refine W.opn rfl op_lss rfl ?_ | refine W.opn rfl op_leq rfl ?_ | refine W.opn rfl op_eql rfl ?_ | refine W.opn rfl op_neq rfl ?_ | refine W.opn rfl (op_sub (by omega) (by omega)) rfl ?_ | refine W.opn rfl (op_add (by omega) (by omega)) rfl ?_ | refine W.opn (v := .int _ _) rfl rfl rfl ?_ | refine W.opn (v := .ptr _) rfl rfl rfl ?_ | refine W.opn (v := .bool _) rfl rfl rfl ?_ | refine W.opn (v := .slice _ _ _ _) rfl rfl rfl ?_ | refine W.opn (v := .agg _) rfl rfl rfl ?_ | refine W.opn (v := .tup _) rfl rfl rfl ?_ | refine W.opn rfl rfl rfl ?_ | refine W.offn rfl rfl ?_ | refine W.nil ?_)
    repeat (first | refine W.doffn rfl rfl ?_ | refine W.dopn rfl rfl op_lss rfl ?_ | refine W.dopn rfl rfl op_leq rfl ?_ | refine W.dopn rfl rfl op_eql rfl ?_ | refine W.dopn rfl rfl op_neq rfl ?_ | refine W.dopn rfl rfl (op_sub (by omega) (by omega)) rfl ?_ | refine W.dopn rfl rfl (op_add (by omega) (by omega)) rfl ?_ | refine W.dopn (v := .int _ _) rfl rfl rfl rfl ?_ | refine W.dopn (v := .ptr _) rfl rfl rfl rfl ?_ | refine W.dopn (v := .bool _) rfl rfl rfl rfl ?_ | refine W.dopn (v := .slice _ _ _ _) rfl rfl rfl rfl ?_ | refine W.dopn (v := .agg _) rfl rfl rfl rfl ?_ | refine W.dopn (v := .tup _) rfl rfl rfl rfl ?_ | refine W.dopn rfl rfl rfl rfl ?_ | refine W.doffn rfl rfl ?_ | refine W.dnil ?_)
    refine W.dln sb.lenOf rfl rfl rfl rfl rfl rfl rfl rfl ?_
    repeat (first | refine W.doffn rfl rfl ?_ | refine W.dopn rfl rfl op_lss rfl ?_ | refine W.dopn rfl rfl op_leq rfl ?_ | refine W.dopn rfl rfl op_eql rfl ?_ | refine W.dopn rfl rfl op_neq rfl ?_ | refine W.dopn rfl rfl (op_sub (by omega) (by omega)) rfl ?_ | refine W.dopn rfl rfl (op_add (by omega) (by omega)) rfl ?_ | refine W.dopn (v := .int _ _) rfl rfl rfl rfl ?_ | refine W.dopn (v := .ptr _) rfl rfl rfl rfl ?_ | refine W.dopn (v := .bool _) rfl rfl rfl rfl ?_ | refine W.dopn (v := .slice _ _ _ _) rfl rfl rfl rfl ?_ | refine W.dopn (v := .agg _) rfl rfl rfl rfl ?_ | refine W.dopn (v := .tup _) rfl rfl rfl rfl ?_ | refine W.dopn rfl rfl rfl rfl ?_ | refine W.doffn rfl rfl ?_ | refine W.dnil ?_)
    by_cases ck : (k : Int) = Int.ofNat b.length
    · rw [decide_eq_true ck]
      repeat (first | refine W.doffn rfl rfl ?_ | refine W.dopn rfl rfl op_lss rfl ?_ | refine W.dopn rfl rfl op_leq rfl ?_ | refine W.dopn rfl rfl op_eql rfl ?_ | refine W.dopn rfl rfl op_neq rfl ?_ | refine W.dopn rfl rfl (op_sub (by omega) (by omega)) rfl ?_ | refine W.dopn rfl rfl (op_add (by omega) (by omega)) rfl ?_ | refine W.dopn (v := .int _ _) rfl rfl rfl rfl ?_ | refine W.dopn (v := .ptr _) rfl rfl rfl rfl ?_ | refine W.dopn (v := .bool _) rfl rfl rfl rfl ?_ | refine W.dopn (v := .slice _ _ _ _) rfl rfl rfl rfl ?_ | refine W.dopn (v := .agg _) rfl rfl rfl rfl ?_ | refine W.dopn (v := .tup _) rfl rfl rfl rfl ?_ | refine W.dopn rfl rfl rfl rfl ?_ | refine W.doffn rfl rfl ?_ | refine W.dnil ?_)
      repeat (first | (with_reducible first | refine W.seq ?_ | refine W.block ?_ | refine W.region ?_ | refine W.draws ?_ | refine W.skip ?_ | refine W.exit ?_ | refine W.ret ?_ | refine SeqQ.normal ?_ | refine SeqQ.exit ?_ | refine SeqQ.ret ?_ | refine BlockQ.exit ?_ | refine BlockQ.normal ?_ | refine BlockQ.ret ?_ | refine BlockQ.other rfl ?_ | refine LoopQ.exit ?_ | refine CallQ.val ?_ | refine CutQ.normal ?_ | refine LoopQ.ret ?_) | refine W.offn rfl rfl ?_ | refine W.opn rfl op_lss rfl ?_ | refine W.opn rfl op_leq rfl ?_ | refine W.opn rfl op_eql rfl ?_ | refine W.opn rfl op_neq rfl ?_ | refine W.opn rfl (op_sub (by omega) (by omega)) rfl ?_ | refine W.opn rfl (op_add (by omega) (by omega)) rfl ?_ | refine W.opn (v := .int _ _) rfl rfl rfl ?_ | refine W.opn (v := .ptr _) rfl rfl rfl ?_ | refine W.opn (v := .bool _) rfl rfl rfl ?_ | refine W.opn (v := .slice _ _ _ _) rfl rfl rfl ?_ | refine W.opn (v := .agg _) rfl rfl rfl ?_ | refine W.opn (v := .tup _) rfl rfl rfl ?_ | refine W.opn rfl rfl rfl ?_ | refine W.offn rfl rfl ?_ | refine W.nil ?_)
      refine ⟨⟨rfl, rfl, rfl, rfl, rfl⟩, Ext.refl _, true, rfl, (fun _ => ?_), (fun h => by cases h)⟩
      have hi2 : i < a.length := by omega
      refine ⟨_, List.getElem?_eq_getElem hi2, ?_⟩
      rw [List.drop_of_length_le (l := b) (by omega), merge_nr, merge_nr, drop_of (List.getElem?_eq_getElem hi2)]
    rw [decide_eq_false ck]
    have hk2 : k < b.length := by omega
    repeat (first | refine W.doffn rfl rfl ?_ | refine W.dopn rfl rfl op_lss rfl ?_ | refine W.dopn rfl rfl op_leq rfl ?_ | refine W.dopn rfl rfl op_eql rfl ?_ | refine W.dopn rfl rfl op_neq rfl ?_ | refine W.dopn rfl rfl (op_sub (by omega) (by omega)) rfl ?_ | refine W.dopn rfl rfl (op_add (by omega) (by omega)) rfl ?_ | refine W.dopn (v := .int _ _) rfl rfl rfl rfl ?_ | refine W.dopn (v := .ptr _) rfl rfl rfl rfl ?_ | refine W.dopn (v := .bool _) rfl rfl rfl rfl ?_ | refine W.dopn (v := .slice _ _ _ _) rfl rfl rfl rfl ?_ | refine W.dopn (v := .agg _) rfl rfl rfl rfl ?_ | refine W.dopn (v := .tup _) rfl rfl rfl rfl ?_ | refine W.dopn rfl rfl rfl rfl ?_ | refine W.doffn rfl rfl ?_ | refine W.dnil ?_)
    refine W.dln sa.lenOf rfl rfl rfl rfl rfl rfl rfl rfl ?_
    repeat (first | refine W.doffn rfl rfl ?_ | refine W.dopn rfl rfl op_lss rfl ?_ | refine W.dopn rfl rfl op_leq rfl ?_ | refine W.dopn rfl rfl op_eql rfl ?_ | refine W.dopn rfl rfl op_neq rfl ?_ | refine W.dopn rfl rfl (op_sub (by omega) (by omega)) rfl ?_ | refine W.dopn rfl rfl (op_add (by omega) (by omega)) rfl ?_ | refine W.dopn (v := .int _ _) rfl rfl rfl rfl ?_ | refine W.dopn (v := .ptr _) rfl rfl rfl rfl ?_ | refine W.dopn (v := .bool _) rfl rfl rfl rfl ?_ | refine W.dopn (v := .slice _ _ _ _) rfl rfl rfl rfl ?_ | refine W.dopn (v := .agg _) rfl rfl rfl rfl ?_ | refine W.dopn (v := .tup _) rfl rfl rfl rfl ?_ | refine W.dopn rfl rfl rfl rfl ?_ | refine W.doffn rfl rfl ?_ | refine W.dnil ?_)
    by_cases ci : (i : Int) < Int.ofNat a.length
    rotate_left
    · rw [decide_eq_false ci]
      repeat (first | refine W.doffn rfl rfl ?_ | refine W.dopn rfl rfl op_lss rfl ?_ | refine W.dopn rfl rfl op_leq rfl ?_ | refine W.dopn rfl rfl op_eql rfl ?_ | refine W.dopn rfl rfl op_neq rfl ?_ | refine W.dopn rfl rfl (op_sub (by omega) (by omega)) rfl ?_ | refine W.dopn rfl rfl (op_add (by omega) (by omega)) rfl ?_ | refine W.dopn (v := .int _ _) rfl rfl rfl rfl ?_ | refine W.dopn (v := .ptr _) rfl rfl rfl rfl ?_ | refine W.dopn (v := .bool _) rfl rfl rfl rfl ?_ | refine W.dopn (v := .slice _ _ _ _) rfl rfl rfl rfl ?_ | refine W.dopn (v := .agg _) rfl rfl rfl rfl ?_ | refine W.dopn (v := .tup _) rfl rfl rfl rfl ?_ | refine W.dopn rfl rfl rfl rfl ?_ | refine W.doffn rfl rfl ?_ | refine W.dnil ?_)
      repeat (first | (with_reducible first | refine W.seq ?_ | refine W.block ?_ | refine W.region ?_ | refine W.draws ?_ | refine W.skip ?_ | refine W.exit ?_ | refine W.ret ?_ | refine SeqQ.normal ?_ | refine SeqQ.exit ?_ | refine SeqQ.ret ?_ | refine BlockQ.exit ?_ | refine BlockQ.normal ?_ | refine BlockQ.ret ?_ | refine BlockQ.other rfl ?_ | refine LoopQ.exit ?_ | refine CallQ.val ?_ | refine CutQ.normal ?_ | refine LoopQ.ret ?_) | refine W.offn rfl rfl ?_ | refine W.opn rfl op_lss rfl ?_ | refine W.opn rfl op_leq rfl ?_ | refine W.opn rfl op_eql rfl ?_ | refine W.opn rfl op_neq rfl ?_ | refine W.opn rfl (op_sub (by omega) (by omega)) rfl ?_ | refine W.opn rfl (op_add (by omega) (by omega)) rfl ?_ | refine W.opn (v := .int _ _) rfl rfl rfl ?_ | refine W.opn (v := .ptr _) rfl rfl rfl ?_ | refine W.opn (v := .bool _) rfl rfl rfl ?_ | refine W.opn (v := .slice _ _ _ _) rfl rfl rfl ?_ | refine W.opn (v := .agg _) rfl rfl rfl ?_ | refine W.opn (v := .tup _) rfl rfl rfl ?_ | refine W.opn rfl rfl rfl ?_ | refine W.offn rfl rfl ?_ | refine W.nil ?_)
      refine ⟨⟨rfl, rfl, rfl, rfl, rfl⟩, Ext.refl _, false, rfl, (fun h => by cases h), (fun _ => ?_)⟩
      refine ⟨_, List.getElem?_eq_getElem hk2, ?_⟩
      rw [List.drop_of_length_le (l := a) (by omega), merge_nl, merge_nl, drop_of (List.getElem?_eq_getElem hk2)]
    rw [decide_eq_true ci]
    have hi2 : i < a.length := by omega
    obtain ⟨x, hx⟩ : ∃ x, a[i]? = some x := ⟨_, List.getElem?_eq_getElem hi2⟩
    obtain ⟨y, hy⟩ : ∃ y, b[k]? = some y := ⟨_, List.getElem?_eq_getElem hk2⟩
    obtain ⟨ia, oa, ca, xa, csa, roa, eva, hia, hga, hcsa⟩ := sa3.at hi2
    obtain ⟨ib, ob, cb, xb, csb, rob, evb, hib, hgb, hcsb⟩ := sb3.at hk2
    cases eva
    cases evb
    repeat (first | refine W.doffn rfl rfl ?_ | refine W.dopn rfl rfl op_lss rfl ?_ | refine W.dopn rfl rfl op_leq rfl ?_ | refine W.dopn rfl rfl op_eql rfl ?_ | refine W.dopn rfl rfl op_neq rfl ?_ | refine W.dopn rfl rfl (op_sub (by omega) (by omega)) rfl ?_ | refine W.dopn rfl rfl (op_add (by omega) (by omega)) rfl ?_ | refine W.dopn (v := .int _ _) rfl rfl rfl rfl ?_ | refine W.dopn (v := .ptr _) rfl rfl rfl rfl ?_ | refine W.dopn (v := .bool _) rfl rfl rfl rfl ?_ | refine W.dopn (v := .slice _ _ _ _) rfl rfl rfl rfl ?_ | refine W.dopn (v := .agg _) rfl rfl rfl rfl ?_ | refine W.dopn (v := .tup _) rfl rfl rfl rfl ?_ | refine W.dopn rfl rfl rfl rfl ?_ | refine W.doffn rfl rfl ?_ | refine W.dnil ?_)
    refine W.dix rfl rfl rfl rfl rfl rfl rfl (place_of (j := i) rfl hi2) ?_
    repeat (first | refine W.doffn rfl rfl ?_ | refine W.dopn rfl rfl op_lss rfl ?_ | refine W.dopn rfl rfl op_leq rfl ?_ | refine W.dopn rfl rfl op_eql rfl ?_ | refine W.dopn rfl rfl op_neq rfl ?_ | refine W.dopn rfl rfl (op_sub (by omega) (by omega)) rfl ?_ | refine W.dopn rfl rfl (op_add (by omega) (by omega)) rfl ?_ | refine W.dopn (v := .int _ _) rfl rfl rfl rfl ?_ | refine W.dopn (v := .ptr _) rfl rfl rfl rfl ?_ | refine W.dopn (v := .bool _) rfl rfl rfl rfl ?_ | refine W.dopn (v := .slice _ _ _ _) rfl rfl rfl rfl ?_ | refine W.dopn (v := .agg _) rfl rfl rfl rfl ?_ | refine W.dopn (v := .tup _) rfl rfl rfl rfl ?_ | refine W.dopn rfl rfl rfl rfl ?_ | refine W.doffn rfl rfl ?_ | refine W.dnil ?_)
    refine W.dldX ds rfl rfl rfl hga hia rfl (v := .int .i64 x.1) (cut_nth (hcsa i x hx) rfl) fun r1 h1 ds => ?_
    repeat (first | refine W.doffn rfl rfl ?_ | refine W.dopn rfl rfl op_lss rfl ?_ | refine W.dopn rfl rfl op_leq rfl ?_ | refine W.dopn rfl rfl op_eql rfl ?_ | refine W.dopn rfl rfl op_neq rfl ?_ | refine W.dopn rfl rfl (op_sub (by omega) (by omega)) rfl ?_ | refine W.dopn rfl rfl (op_add (by omega) (by omega)) rfl ?_ | refine W.dopn (v := .int _ _) rfl rfl rfl rfl ?_ | refine W.dopn (v := .ptr _) rfl rfl rfl rfl ?_ | refine W.dopn (v := .bool _) rfl rfl rfl rfl ?_ | refine W.dopn (v := .slice _ _ _ _) rfl rfl rfl rfl ?_ | refine W.dopn (v := .agg _) rfl rfl rfl rfl ?_ | refine W.dopn (v := .tup _) rfl rfl rfl rfl ?_ | refine W.dopn rfl rfl rfl rfl ?_ | refine W.doffn rfl rfl ?_ | refine W.dnil ?_)
    refine W.dix rfl rfl rfl rfl rfl rfl rfl (place_of (j := k) rfl hk2) ?_
    repeat (first | refine W.doffn rfl rfl ?_ | refine W.dopn rfl rfl op_lss rfl ?_ | refine W.dopn rfl rfl op_leq rfl ?_ | refine W.dopn rfl rfl op_eql rfl ?_ | refine W.dopn rfl rfl op_neq rfl ?_ | refine W.dopn rfl rfl (op_sub (by omega) (by omega)) rfl ?_ | refine W.dopn rfl rfl (op_add (by omega) (by omega)) rfl ?_ | refine W.dopn (v := .int _ _) rfl rfl rfl rfl ?_ | refine W.dopn (v := .ptr _) rfl rfl rfl rfl ?_ | refine W.dopn (v := .bool _) rfl rfl rfl rfl ?_ | refine W.dopn (v := .slice _ _ _ _) rfl rfl rfl rfl ?_ | refine W.dopn (v := .agg _) rfl rfl rfl rfl ?_ | refine W.dopn (v := .tup _) rfl rfl rfl rfl ?_ | refine W.dopn rfl rfl rfl rfl ?_ | refine W.doffn rfl rfl ?_ | refine W.dnil ?_)
    refine W.dldX ds rfl rfl rfl hgb hib rfl (v := .int .i64 y.1) (cut_nth (hcsb k y hy) rfl) fun r2 h2 ds => ?_
    repeat (first | refine W.doffn rfl rfl ?_ | refine W.dopn rfl rfl op_lss rfl ?_ | refine W.dopn rfl rfl op_leq rfl ?_ | refine W.dopn rfl rfl op_eql rfl ?_ | refine W.dopn rfl rfl op_neq rfl ?_ | refine W.dopn rfl rfl (op_sub (by omega) (by omega)) rfl ?_ | refine W.dopn rfl rfl (op_add (by omega) (by omega)) rfl ?_ | refine W.dopn (v := .int _ _) rfl rfl rfl rfl ?_ | refine W.dopn (v := .ptr _) rfl rfl rfl rfl ?_ | refine W.dopn (v := .bool _) rfl rfl rfl rfl ?_ | refine W.dopn (v := .slice _ _ _ _) rfl rfl rfl rfl ?_ | refine W.dopn (v := .agg _) rfl rfl rfl rfl ?_ | refine W.dopn (v := .tup _) rfl rfl rfl rfl ?_ | refine W.dopn rfl rfl rfl rfl ?_ | refine W.doffn rfl rfl ?_ | refine W.dnil ?_)
    repeat (first | (with_reducible first | refine W.seq ?_ | refine W.block ?_ | refine W.region ?_ | refine W.draws ?_ | refine W.skip ?_ | refine W.exit ?_ | refine W.ret ?_ | refine SeqQ.normal ?_ | refine SeqQ.exit ?_ | refine SeqQ.ret ?_ | refine BlockQ.exit ?_ | refine BlockQ.normal ?_ | refine BlockQ.ret ?_ | refine BlockQ.other rfl ?_ | refine LoopQ.exit ?_ | refine CallQ.val ?_ | refine CutQ.normal ?_ | refine LoopQ.ret ?_) | refine W.offn rfl rfl ?_ | refine W.opn rfl op_lss rfl ?_ | refine W.opn rfl op_leq rfl ?_ | refine W.opn rfl op_eql rfl ?_ | refine W.opn rfl op_neq rfl ?_ | refine W.opn rfl (op_sub (by omega) (by omega)) rfl ?_ | refine W.opn rfl (op_add (by omega) (by omega)) rfl ?_ | refine W.opn (v := .int _ _) rfl rfl rfl ?_ | refine W.opn (v := .ptr _) rfl rfl rfl ?_ | refine W.opn (v := .bool _) rfl rfl rfl ?_ | refine W.opn (v := .slice _ _ _ _) rfl rfl rfl ?_ | refine W.opn (v := .agg _) rfl rfl rfl ?_ | refine W.opn (v := .tup _) rfl rfl rfl ?_ | refine W.opn rfl rfl rfl ?_ | refine W.offn rfl rfl ?_ | refine W.nil ?_)
    refine ⟨⟨rfl, rfl, rfl, rfl, rfl⟩, ds.x, decide (x.1 ≤ y.1), rfl, (fun h => ⟨x, hx, ?_⟩), (fun h => ⟨y, hy, ?_⟩)⟩
    · rw [drop_of hx, drop_of hy, merge_cc, if_pos (of_decide_eq_true h)]
    · rw [drop_of hx, drop_of hy, merge_cc, if_neg (of_decide_eq_false h)]
  rintro tm h2 ⟨⟨w0, w1, w5, w6, w7⟩, X2, bb, w48, hb1, hb2⟩
  obtain ⟨T, rfl⟩ : ∃ T : Tm, tm = ((((((T.set 0 (some (va))).set 1 (some (vb))).set 5 (some (vo))).set 6 (some (.int .i64 (i : Int)))).set 7 (some (.int .i64 (k : Int)))).set 48 (some (.bool bb))) := ⟨tm, (show tm = ((((((tm.set 0 (some (tm.look 0))).set 1 (some (tm.look 1))).set 5 (some (tm.look 5))).set 6 (some (tm.look 6))).set 7 (some (tm.look 7))).set 48 (some (tm.look 48))) by rfl).trans (by rw [w0, w1, w5, w6, w7, w48])⟩
  clear w0 w1 w5 w6 w7 w48
  have O2 := hO.ext X2
  have Z2 := X.trans X2
  obtain ⟨pv, nv, cv, ev, ee⟩ := O2.form
  cases ee
  cases bb
  · obtain ⟨y, hy, hm⟩ := hb2 rfl
    have hk2 := (List.getElem?_eq_some_iff.1 hy).1
    obtain ⟨ib, ob, cb, xb, csb, rob, evb, hib, hgb, hcsb⟩ := (sb3.ext X2).at hk2
    have hcu := hcsb k y hy
    cases evb
    refine W.cond (x := false) rfl (fun hc => by cases hc) (fun _ => ?_)
    repeat (first | (with_reducible first | refine W.seq ?_ | refine W.block ?_ | refine W.region ?_ | refine W.draws ?_ | refine W.skip ?_ | refine W.exit ?_ | refine W.ret ?_ | refine SeqQ.normal ?_ | refine SeqQ.exit ?_ | refine SeqQ.ret ?_ | refine BlockQ.exit ?_ | refine BlockQ.normal ?_ | refine BlockQ.ret ?_ | refine BlockQ.other rfl ?_ | refine LoopQ.exit ?_ | refine CallQ.val ?_ | refine CutQ.normal ?_ | refine LoopQ.ret ?_) | refine W.offn rfl rfl ?_ | refine W.opn rfl op_lss rfl ?_ | refine W.opn rfl op_leq rfl ?_ | refine W.opn rfl op_eql rfl ?_ | refine W.opn rfl op_neq rfl ?_ | refine W.opn rfl (op_sub (by omega) (by omega)) rfl ?_ | refine W.opn rfl (op_add (by omega) (by omega)) rfl ?_ | refine W.opn (v := .int _ _) rfl rfl rfl ?_ | refine W.opn (v := .ptr _) rfl rfl rfl ?_ | refine W.opn (v := .bool _) rfl rfl rfl ?_ | refine W.opn (v := .slice _ _ _ _) rfl rfl rfl ?_ | refine W.opn (v := .agg _) rfl rfl rfl ?_ | refine W.opn (v := .tup _) rfl rfl rfl ?_ | refine W.opn rfl rfl rfl ?_ | refine W.offn rfl rfl ?_ | refine W.nil ?_)
    refine W.ix rfl rfl rfl rfl rfl rfl rfl (place_of (j := k) rfl hk2) ?_
    refine W.ld rfl rfl rfl hgb rfl (v := .agg (winC y)) (by show (cut csb (ob + k * 2) 2).map CV.agg = _; rw [hcu]; rfl) ?_
    repeat (first | refine W.offn rfl rfl ?_ | refine W.opn rfl op_lss rfl ?_ | refine W.opn rfl op_leq rfl ?_ | refine W.opn rfl op_eql rfl ?_ | refine W.opn rfl op_neq rfl ?_ | refine W.opn rfl (op_sub (by omega) (by omega)) rfl ?_ | refine W.opn rfl (op_add (by omega) (by omega)) rfl ?_ | refine W.opn (v := .int _ _) rfl rfl rfl ?_ | refine W.opn (v := .ptr _) rfl rfl rfl ?_ | refine W.opn (v := .bool _) rfl rfl rfl ?_ | refine W.opn (v := .slice _ _ _ _) rfl rfl rfl ?_ | refine W.opn (v := .agg _) rfl rfl rfl ?_ | refine W.opn (v := .tup _) rfl rfl rfl ?_ | refine W.opn rfl rfl rfl ?_ | refine W.offn rfl rfl ?_)
    have X3 : Ext h2 (h2.new (.cells (winC y) false)) := Ext.new _ _
    refine W.apT (O2.ext X3) (by decide) (by show H2.next ≤ h2.next + 1; have := Z2.next; omega) (new_same _ _) rfl rfl rfl rfl rfl rfl rfl rfl rfl rfl rfl rfl rfl (by rw [List.length_map]; show (ws.length + 1) * 16 ≤ _; omega) fun v4 h4 hn4 O4 o4 => ?_
    rw [K5_upd] at o4
    have o5 : OwnT h4 K5 H2.next 2 (5, 0) v4 ((ws ++ [y]).map winC) := by rw [List.map_append]; exact o4
    have Y4 := O4.ext (Z2.trans X3) (Nat.le_refl _)
    clear o4 O4 hn4 X3 O2
    repeat (first | refine W.offn rfl rfl ?_ | refine W.opn rfl op_lss rfl ?_ | refine W.opn rfl op_leq rfl ?_ | refine W.opn rfl op_eql rfl ?_ | refine W.opn rfl op_neq rfl ?_ | refine W.opn rfl (op_sub (by omega) (by omega)) rfl ?_ | refine W.opn rfl (op_add (by omega) (by omega)) rfl ?_ | refine W.opn (v := .int _ _) rfl rfl rfl ?_ | refine W.opn (v := .ptr _) rfl rfl rfl ?_ | refine W.opn (v := .bool _) rfl rfl rfl ?_ | refine W.opn (v := .slice _ _ _ _) rfl rfl rfl ?_ | refine W.opn (v := .agg _) rfl rfl rfl ?_ | refine W.opn (v := .tup _) rfl rfl rfl ?_ | refine W.opn rfl rfl rfl ?_ | refine W.offn rfl rfl ?_)
    refine W.nil ?_
    refine W.anyTm (fun tm => tm.look 0 = va ∧ tm.look 1 = .slice (some (ib, ob)) b.length cb xb ∧ tm.look 5 = v4 ∧ tm.look 6 = .int .i64 (i : Int) ∧ tm.look 7 = .int .i64 (k : Int)) ⟨rfl, rfl, rfl, rfl, rfl⟩ ?_
    rintro tm ⟨w0, w1, w5, w6, w7⟩
    obtain ⟨T, rfl⟩ : ∃ T : Tm, tm = (((((T.set 0 (some (va))).set 1 (some (.slice (some (ib, ob)) b.length cb xb))).set 5 (some (v4))).set 6 (some (.int .i64 (i : Int)))).set 7 (some (.int .i64 (k : Int)))) := ⟨tm, (show tm = (((((tm.set 0 (some (tm.look 0))).set 1 (some (tm.look 1))).set 5 (some (tm.look 5))).set 6 (some (tm.look 6))).set 7 (some (tm.look 7))) by rfl).trans (by rw [w0, w1, w5, w6, w7])⟩
    clear w0 w1 w5 w6 w7
    repeat (first | (with_reducible first | refine W.seq ?_ | refine W.block ?_ | refine W.region ?_ | refine W.draws ?_ | refine W.skip ?_ | refine W.exit ?_ | refine W.ret ?_ | refine SeqQ.normal ?_ | refine SeqQ.exit ?_ | refine SeqQ.ret ?_ | refine BlockQ.exit ?_ | refine BlockQ.normal ?_ | refine BlockQ.ret ?_ | refine BlockQ.other rfl ?_ | refine LoopQ.exit ?_ | refine CallQ.val ?_ | refine CutQ.normal ?_ | refine LoopQ.ret ?_) | refine W.offn rfl rfl ?_ | refine W.opn rfl op_lss rfl ?_ | refine W.opn rfl op_leq rfl ?_ | refine W.opn rfl op_eql rfl ?_ | refine W.opn rfl op_neq rfl ?_ | refine W.opn rfl (op_sub (by omega) (by omega)) rfl ?_ | refine W.opn rfl (op_add (by omega) (by omega)) rfl ?_ | refine W.opn (v := .int _ _) rfl rfl rfl ?_ | refine W.opn (v := .ptr _) rfl rfl rfl ?_ | refine W.opn (v := .bool _) rfl rfl rfl ?_ | refine W.opn (v := .slice _ _ _ _) rfl rfl rfl ?_ | refine W.opn (v := .agg _) rfl rfl rfl ?_ | refine W.opn (v := .tup _) rfl rfl rfl ?_ | refine W.opn rfl rfl rfl ?_ | refine W.offn rfl rfl ?_ | refine W.nil ?_)
    exact ⟨(i, k + 1), by show (a.length - i) + (b.length - (k + 1)) < (a.length - i) + (b.length - k); omega, rfl, rfl, rfl, rfl, ⟨_, ws ++ [y], rfl, o5, by rw [List.length_append]; show ws.length + 1 = i + (k + 1); omega, by rw [hst, hm, List.append_assoc]; rfl⟩, hi, by show k + 1 ≤ b.length; omega, Y4⟩
  · obtain ⟨x, hx, hm⟩ := hb1 rfl
    have hi2 := (List.getElem?_eq_some_iff.1 hx).1
    obtain ⟨ia, oa, ca, xa, csa, roa, eva, hia, hga, hcsa⟩ := (sa3.ext X2).at hi2
    have hcu := hcsa i x hx
    cases eva
    refine W.cond (x := true) rfl (fun _ => ?_) (fun hc => by cases hc)
    repeat (first | (with_reducible first | refine W.seq ?_ | refine W.block ?_ | refine W.region ?_ | refine W.draws ?_ | refine W.skip ?_ | refine W.exit ?_ | refine W.ret ?_ | refine SeqQ.normal ?_ | refine SeqQ.exit ?_ | refine SeqQ.ret ?_ | refine BlockQ.exit ?_ | refine BlockQ.normal ?_ | refine BlockQ.ret ?_ | refine BlockQ.other rfl ?_ | refine LoopQ.exit ?_ | refine CallQ.val ?_ | refine CutQ.normal ?_ | refine LoopQ.ret ?_) | refine W.offn rfl rfl ?_ | refine W.opn rfl op_lss rfl ?_ | refine W.opn rfl op_leq rfl ?_ | refine W.opn rfl op_eql rfl ?_ | refine W.opn rfl op_neq rfl ?_ | refine W.opn rfl (op_sub (by omega) (by omega)) rfl ?_ | refine W.opn rfl (op_add (by omega) (by omega)) rfl ?_ | refine W.opn (v := .int _ _) rfl rfl rfl ?_ | refine W.opn (v := .ptr _) rfl rfl rfl ?_ | refine W.opn (v := .bool _) rfl rfl rfl ?_ | refine W.opn (v := .slice _ _ _ _) rfl rfl rfl ?_ | refine W.opn (v := .agg _) rfl rfl rfl ?_ | refine W.opn (v := .tup _) rfl rfl rfl ?_ | refine W.opn rfl rfl rfl ?_ | refine W.offn rfl rfl ?_ | refine W.nil ?_)
    refine W.ix rfl rfl rfl rfl rfl rfl rfl (place_of (j := i) rfl hi2) ?_
    refine W.ld rfl rfl rfl hga rfl (v := .agg (winC x)) (by show (cut csa (oa + i * 2) 2).map CV.agg = _; rw [hcu]; rfl) ?_
    repeat (first | refine W.offn rfl rfl ?_ | refine W.opn rfl op_lss rfl ?_ | refine W.opn rfl op_leq rfl ?_ | refine W.opn rfl op_eql rfl ?_ | refine W.opn rfl op_neq rfl ?_ | refine W.opn rfl (op_sub (by omega) (by omega)) rfl ?_ | refine W.opn rfl (op_add (by omega) (by omega)) rfl ?_ | refine W.opn (v := .int _ _) rfl rfl rfl ?_ | refine W.opn (v := .ptr _) rfl rfl rfl ?_ | refine W.opn (v := .bool _) rfl rfl rfl ?_ | refine W.opn (v := .slice _ _ _ _) rfl rfl rfl ?_ | refine W.opn (v := .agg _) rfl rfl rfl ?_ | refine W.opn (v := .tup _) rfl rfl rfl ?_ | refine W.opn rfl rfl rfl ?_ | refine W.offn rfl rfl ?_)
    have X3 : Ext h2 (h2.new (.cells (winC x) false)) := Ext.new _ _
    refine W.apT (O2.ext X3) (by decide) (by show H2.next ≤ h2.next + 1; have := Z2.next; omega) (new_same _ _) rfl rfl rfl rfl rfl rfl rfl rfl rfl rfl rfl rfl rfl (by rw [List.length_map]; show (ws.length + 1) * 16 ≤ _; omega) fun v4 h4 hn4 O4 o4 => ?_
    rw [K5_upd] at o4
    have o5 : OwnT h4 K5 H2.next 2 (5, 0) v4 ((ws ++ [x]).map winC) := by rw [List.map_append]; exact o4
    have Y4 := O4.ext (Z2.trans X3) (Nat.le_refl _)
    clear o4 O4 hn4 X3 O2
    repeat (first | refine W.offn rfl rfl ?_ | refine W.opn rfl op_lss rfl ?_ | refine W.opn rfl op_leq rfl ?_ | refine W.opn rfl op_eql rfl ?_ | refine W.opn rfl op_neq rfl ?_ | refine W.opn rfl (op_sub (by omega) (by omega)) rfl ?_ | refine W.opn rfl (op_add (by omega) (by omega)) rfl ?_ | refine W.opn (v := .int _ _) rfl rfl rfl ?_ | refine W.opn (v := .ptr _) rfl rfl rfl ?_ | refine W.opn (v := .bool _) rfl rfl rfl ?_ | refine W.opn (v := .slice _ _ _ _) rfl rfl rfl ?_ | refine W.opn (v := .agg _) rfl rfl rfl ?_ | refine W.opn (v := .tup _) rfl rfl rfl ?_ | refine W.opn rfl rfl rfl ?_ | refine W.offn rfl rfl ?_)
    refine W.nil ?_
    refine W.anyTm (fun tm => tm.look 0 = .slice (some (ia, oa)) a.length ca xa ∧ tm.look 1 = vb ∧ tm.look 5 = v4 ∧ tm.look 6 = .int .i64 (i : Int) ∧ tm.look 7 = .int .i64 (k : Int)) ⟨rfl, rfl, rfl, rfl, rfl⟩ ?_
    rintro tm ⟨w0, w1, w5, w6, w7⟩
    obtain ⟨T, rfl⟩ : ∃ T : Tm, tm = (((((T.set 0 (some (.slice (some (ia, oa)) a.length ca xa))).set 1 (some (vb))).set 5 (some (v4))).set 6 (some (.int .i64 (i : Int)))).set 7 (some (.int .i64 (k : Int)))) := ⟨tm, (show tm = (((((tm.set 0 (some (tm.look 0))).set 1 (some (tm.look 1))).set 5 (some (tm.look 5))).set 6 (some (tm.look 6))).set 7 (some (tm.look 7))) by rfl).trans (by rw [w0, w1, w5, w6, w7])⟩
    clear w0 w1 w5 w6 w7
    repeat (first | (with_reducible first | refine W.seq ?_ | refine W.block ?_ | refine W.region ?_ | refine W.draws ?_ | refine W.skip ?_ | refine W.exit ?_ | refine W.ret ?_ | refine SeqQ.normal ?_ | refine SeqQ.exit ?_ | refine SeqQ.ret ?_ | refine BlockQ.exit ?_ | refine BlockQ.normal ?_ | refine BlockQ.ret ?_ | refine BlockQ.other rfl ?_ | refine LoopQ.exit ?_ | refine CallQ.val ?_ | refine CutQ.normal ?_ | refine LoopQ.ret ?_) | refine W.offn rfl rfl ?_ | refine W.opn rfl op_lss rfl ?_ | refine W.opn rfl op_leq rfl ?_ | refine W.opn rfl op_eql rfl ?_ | refine W.opn rfl op_neq rfl ?_ | refine W.opn rfl (op_sub (by omega) (by omega)) rfl ?_ | refine W.opn rfl (op_add (by omega) (by omega)) rfl ?_ | refine W.opn (v := .int _ _) rfl rfl rfl ?_ | refine W.opn (v := .ptr _) rfl rfl rfl ?_ | refine W.opn (v := .bool _) rfl rfl rfl ?_ | refine W.opn (v := .slice _ _ _ _) rfl rfl rfl ?_ | refine W.opn (v := .agg _) rfl rfl rfl ?_ | refine W.opn (v := .tup _) rfl rfl rfl ?_ | refine W.opn rfl rfl rfl ?_ | refine W.offn rfl rfl ?_ | refine W.nil ?_)
    exact ⟨(i + 1, k), by show (a.length - (i + 1)) + (b.length - k) < (a.length - i) + (b.length - k); omega, rfl, rfl, rfl, rfl, ⟨_, ws ++ [x], rfl, o5, by rw [List.length_append]; show ws.length + 1 = i + 1 + k; omega, by rw [hst, hm, List.append_assoc]; rfl⟩, by show i + 1 ≤ a.length; omega, hk, Y4⟩
end
end Go.Proofs.Ytdcegklfbhfddaa
