/- Copies; all names of a sheet. No condition. -/
import Derived.Test.YtmgpjfnlciapkaaGreatDoorYD
set_option linter.unusedVariables false
set_option linter.unusedSimpArgs false
namespace Go.Proofs.YtmgpjfnlciapkaaGreatDoor
open Go Go.CM Go.CM.Tt
noncomputable section
set_option maxHeartbeats 8000000
theorem clone_str {h : Heap} {tm : Tm} {Q : R → Prop} {v : CV} {l : List Str} (sl : Sl h v l) (hm : l.length ≤ 1073741824)
    (q : ∀ h' v', Ext h h' → OwnR h' h.next 1 v' (l.map Flat.enc) → Q (.val v' h')) : W E1 (.call (.fn 83 [] []) [v]) tm h Q := by
  refine W.fn (s := fnOf Tryz.f83) rfl rfl rfl rfl ?_
  have sg := Sl.to_map Flat.iff sl
  have hlen : (l.map Flat.enc).length = l.length := List.length_map _
  have e0 : ∀ {h' : Heap}, OwnR h' h'.next 1 (.slice none 0 0 0) [] := OwnR.nil
  rcases sg with ⟨rfl, h0⟩ | ⟨rfl, h0⟩ | ⟨i, o, c, x, cs, ro, rfl, h2, h3, h4, h5, h6⟩
  · repeat (first | (with_reducible first | refine W.seq ?_ | refine W.region ?_ | refine W.ret ?_ | refine SeqQ.normal ?_ | refine SeqQ.ret ?_) | refine W.opn (v := .bool _) rfl rfl rfl ?_ | refine W.opn (v := .slice _ _ _ _) rfl rfl rfl ?_ | refine W.nil ?_ | refine W.cond (x := true) rfl (fun _ => ?_) (fun hc => by cases hc))
    exact q _ _ (Ext.refl _) (by rw [h0]; exact OwnR.nil)
  · repeat (first | (with_reducible first | refine W.seq ?_ | refine W.region ?_ | refine W.skip ?_ | refine W.ret ?_ | refine SeqQ.normal ?_) | refine W.bs1 rfl rfl rfl rfl fun h_ X_ n_ g_ S_ => ?_ | refine W.opn (v := .bool _) rfl rfl rfl ?_ | refine W.opn (v := .slice _ _ _ _) rfl rfl rfl ?_ | refine W.opn rfl rfl rfl ?_ | refine W.nil ?_ | refine W.cond (x := false) rfl (fun hc => by cases hc) (fun _ => ?_))
    exact q _ _ X_ (by rw [h0]; exact .inr ⟨h.next, 0, false, rfl, Nat.le_refl _, by omega, g_, fun e he => (by cases he), .inl ⟨rfl, .inl rfl⟩⟩)
  · have sg : SlG h 1 (.slice (some (i, o)) (l.map (Flat.enc : Str → List CV)).length c x) (l.map Flat.enc) := .inr (.inr ⟨i, o, c, x, cs, ro, rfl, h2, h3, h4, h5, h6⟩)
    repeat (first | (with_reducible first | refine W.seq ?_ | refine W.region ?_ | refine W.skip ?_ | refine SeqQ.normal ?_) | refine W.bs1 rfl rfl rfl rfl fun h_ X_ n_ g_ S_ => ?_ | refine W.opn (v := .bool _) rfl rfl rfl ?_ | refine W.opn (v := .slice _ _ _ _) rfl rfl rfl ?_ | refine W.nil ?_ | refine W.cond (x := false) rfl (fun hc => by cases hc) (fun _ => ?_))
    refine W.apR X_ (z := 1) (l := []) (l2 := l.map Flat.enc) (.inr ⟨h.next, 0, false, rfl, Nat.le_refl _, by omega, g_, fun e he => (by cases he), .inl ⟨rfl, .inl rfl⟩⟩) (sg.ext X_) rfl rfl rfl rfl rfl rfl rfl rfl rfl rfl rfl rfl (by rw [hlen]; show (0 + l.length) * 16 ≤ _; omega) fun v' h' X O => ?_
    repeat (first | (with_reducible first | refine W.ret ?_ | refine SeqQ.normal ?_) | refine W.opn rfl rfl rfl ?_ | refine W.nil ?_)
    exact q _ _ X O
theorem clone_int {h : Heap} {tm : Tm} {Q : R → Prop} {v : CV} {l : List Int} (sl : Sl h v l) (hm : l.length ≤ 1073741824)
    (q : ∀ h' v', Ext h h' → OwnR h' h.next 1 v' (l.map Flat.enc) → Q (.val v' h')) : W E1 (.call (.fn 102 [] []) [v]) tm h Q := by
  refine W.fn (s := fnOf Tryz.f102) rfl rfl rfl rfl ?_
  have sg := Sl.to_map Flat.iff sl
  have hlen : (l.map Flat.enc).length = l.length := List.length_map _
  have e0 : ∀ {h' : Heap}, OwnR h' h'.next 1 (.slice none 0 0 0) [] := OwnR.nil
  rcases sg with ⟨rfl, h0⟩ | ⟨rfl, h0⟩ | ⟨i, o, c, x, cs, ro, rfl, h2, h3, h4, h5, h6⟩
  · repeat (first | (with_reducible first | refine W.seq ?_ | refine W.region ?_ | refine W.ret ?_ | refine SeqQ.normal ?_ | refine SeqQ.ret ?_) | refine W.opn (v := .bool _) rfl rfl rfl ?_ | refine W.opn (v := .slice _ _ _ _) rfl rfl rfl ?_ | refine W.nil ?_ | refine W.cond (x := true) rfl (fun _ => ?_) (fun hc => by cases hc))
    exact q _ _ (Ext.refl _) (by rw [h0]; exact OwnR.nil)
  · repeat (first | (with_reducible first | refine W.seq ?_ | refine W.region ?_ | refine W.skip ?_ | refine W.ret ?_ | refine SeqQ.normal ?_) | refine W.bs1 rfl rfl rfl rfl fun h_ X_ n_ g_ S_ => ?_ | refine W.opn (v := .bool _) rfl rfl rfl ?_ | refine W.opn (v := .slice _ _ _ _) rfl rfl rfl ?_ | refine W.opn rfl rfl rfl ?_ | refine W.nil ?_ | refine W.cond (x := false) rfl (fun hc => by cases hc) (fun _ => ?_))
    exact q _ _ X_ (by rw [h0]; exact .inr ⟨h.next, 0, false, rfl, Nat.le_refl _, by omega, g_, fun e he => (by cases he), .inl ⟨rfl, .inl rfl⟩⟩)
  · have sg : SlG h 1 (.slice (some (i, o)) (l.map (Flat.enc : Int → List CV)).length c x) (l.map Flat.enc) := .inr (.inr ⟨i, o, c, x, cs, ro, rfl, h2, h3, h4, h5, h6⟩)
    repeat (first | (with_reducible first | refine W.seq ?_ | refine W.region ?_ | refine W.skip ?_ | refine SeqQ.normal ?_) | refine W.bs1 rfl rfl rfl rfl fun h_ X_ n_ g_ S_ => ?_ | refine W.opn (v := .bool _) rfl rfl rfl ?_ | refine W.opn (v := .slice _ _ _ _) rfl rfl rfl ?_ | refine W.nil ?_ | refine W.cond (x := false) rfl (fun hc => by cases hc) (fun _ => ?_))
    refine W.apR X_ (z := 1) (l := []) (l2 := l.map Flat.enc) (.inr ⟨h.next, 0, false, rfl, Nat.le_refl _, by omega, g_, fun e he => (by cases he), .inl ⟨rfl, .inl rfl⟩⟩) (sg.ext X_) rfl rfl rfl rfl rfl rfl rfl rfl rfl rfl rfl rfl (by rw [hlen]; show (0 + l.length) * 8 ≤ _; omega) fun v' h' X O => ?_
    repeat (first | (with_reducible first | refine W.ret ?_ | refine SeqQ.normal ?_) | refine W.opn rfl rfl rfl ?_ | refine W.nil ?_)
    exact q _ _ X O
theorem take_flat {α β : Type} {l : List α} {f : α → List β} {k : Nat} (h : k < l.length) : (l.take (k + 1)).flatMap f = (l.take k).flatMap f ++ f l[k] := by
  rw [List.take_add_one, List.getElem?_eq_getElem h, List.flatMap_append]
  simp
theorem flat_le {α β : Type} {l : List α} {f : α → List β} {k : Nat} : ((l.take k).flatMap f).length ≤ (l.flatMap f).length := by
  conv => rhs; rw [← List.take_append_drop k l, List.flatMap_append, List.length_append]
  omega
theorem map_app {α β : Type} {f : α → β} {a b : List α} : (a ++ b).map f = a.map f ++ b.map f := List.map_append
theorem names_w {h : Heap} {tm : Tm} {Q : R → Prop} {cs : List CV} {x : SheetD} (r : Rp.R h cs x) (few : x.few) (hl : x.all.length ≤ 1073741824)
    (q : ∀ h' v', Ext h h' → Sl h' v' x.all → Q (.val v' h')) : W E1 (.call (.fn 74 [] []) [.agg cs]) tm h Q := by
  obtain ⟨v1, v2, v3, v4, v5, v6, rfl, s1, s2, s3, s4, s5, s6⟩ := r
  obtain ⟨f1, f2, f3, f4, f5, f6⟩ := few
  refine W.fn (s := fnOf Tryz.f74) rfl rfl rfl rfl ?_
  unfold SheetD.all at hl q
  obtain ⟨pA, hpA⟩ : ∃ pA, pA = x.paths.flatMap fun p => [p.name, p.a, p.b] := ⟨_, rfl⟩
  obtain ⟨dA, hdA⟩ : ∃ dA, dA = x.doors.flatMap fun d => [d.name, d.a, d.b] := ⟨_, rfl⟩
  obtain ⟨rA, hrA⟩ : ∃ rA, rA = x.routes.flatMap fun r => r.name :: r.stops := ⟨_, rfl⟩
  obtain ⟨tA, htA⟩ : ∃ tA, tA = x.trips.flatMap fun t => [t.name, t.route] := ⟨_, rfl⟩
  obtain ⟨hA, hhA⟩ : ∃ hA, hA = x.hazards.flatMap fun h => [h.name, h.on] := ⟨_, rfl⟩
  rw [← hpA, ← hdA, ← hrA, ← htA, ← hhA] at hl q
  simp only [List.length_append] at hl
  repeat (refine W.seq ?_)
  refine W.region ?_
  refine W.box rfl rfl rfl fun H XH nH gH LH => ?_
  repeat (first | (with_reducible first | refine W.seq ?_ | refine W.region ?_ | refine SeqQ.normal ?_) | refine W.opn (v := .ptr _) rfl rfl rfl ?_ | refine W.opn (v := .slice _ _ _ _) rfl rfl rfl ?_ | refine W.nil ?_ | refine W.ldk (by assumption) (by (repeat (first | assumption | exact Ext.refl _ | refine Ext.trans ?_ (by assumption))); done) rfl rfl rfl rfl rfl rfl rfl rfl ?_)
  refine W.call rfl rfl rfl (clone_str (s1.ext XH) (by omega) fun h1 vo X1 O => ?_)
  obtain ⟨pv, nv, cv, xv, e⟩ := O.form
  cases e
  refine W.keep2 1 16 fun T k1 k16 => ?_
  conv at k1 => rhs; whnf
  conv at k16 => rhs; whnf
  rw [show T = ((T.set 1 (some (T.look 1))).set 16 (some (T.look 16))) from rfl, k1, k16]
  clear k1 k16
  repeat (first | (with_reducible first | refine W.seq ?_ | refine W.block ?_ | refine W.region ?_ | refine SeqQ.normal ?_) | refine W.lnS (by assumption) rfl rfl rfl rfl rfl rfl rfl rfl ?_ | refine W.opn (v := .int _ _) rfl rfl rfl ?_ | refine W.opn (v := .ptr _) rfl rfl rfl ?_ | refine W.opn (v := .slice _ _ _ _) rfl rfl rfl ?_ | refine W.nil ?_ | refine W.ldk (by assumption) (by (repeat (first | assumption | exact Ext.refl _ | refine Ext.trans ?_ (by assumption))); done) rfl rfl rfl rfl rfl rfl rfl rfl ?_)
  have X := X1
  refine W.keep5 1 3 18 19 20 fun T k1 k3 k18 k19 k20 => ?_
  conv at k1 => rhs; whnf
  conv at k3 => rhs; whnf
  conv at k18 => rhs; whnf
  conv at k19 => rhs; whnf
  conv at k20 => rhs; whnf
  rw [show T = (((((T.set 1 (some (T.look 1))).set 3 (some (T.look 3))).set 18 (some (T.look 18))).set 19 (some (T.look 19))).set 20 (some (T.look 20))) from rfl, k1, k3, k18, k19, k20]
  clear k1 k3 k18 k19 k20
  refine W.loop (σ := Nat) (fun k tm h' => Ext H h' ∧ tm.look 1 = .ptr (some (h.next, 0)) ∧ tm.look 18 = v2 ∧ tm.look 19 = .int .i64 (x.paths.length : Int) ∧ tm.look 20 = .int .i64 (k : Int) ∧ k ≤ x.paths.length ∧ ∃ vo, tm.look 3 = vo ∧ OwnR h' H.next 1 vo ((x.stops ++ (x.paths.take k).flatMap (fun p => [p.name, p.a, p.b])).map Flat.enc)) (fun k => x.paths.length - k) ?_ (s := 0)
    ⟨(by (repeat (first | assumption | exact Ext.refl _ | refine Ext.trans ?_ (by assumption))); done), rfl, rfl, rfl, rfl, Nat.zero_le _, _, rfl, by rw [List.take_zero, List.flatMap_nil, List.append_nil]; exact O⟩
  clear O
  rintro k tm h' ⟨X, w1, w18, w19, w20, hk, vo, w3, O⟩
  obtain ⟨pv, nv, cv, xv, e⟩ := O.form
  cases e
  obtain ⟨T, rfl⟩ : ∃ T : Tm, tm = (((((T.set 1 (some (.ptr (some (h.next, 0))))).set 3 (some (.slice pv nv cv xv))).set 18 (some (v2))).set 19 (some (.int .i64 (x.paths.length : Int)))).set 20 (some (.int .i64 (k : Int)))) := ⟨tm, (show tm = (((((tm.set 1 (some (tm.look 1))).set 3 (some (tm.look 3))).set 18 (some (tm.look 18))).set 19 (some (tm.look 19))).set 20 (some (tm.look 20))) by rfl).trans (by rw [w1, w3, w18, w19, w20])⟩
  clear w1 w3 w18 w19 w20
  by_cases c1 : k < x.paths.length
  · repeat (first | (with_reducible first | refine W.seq ?_ | refine W.block ?_ | refine W.region ?_ | refine W.skip ?_ | refine SeqQ.normal ?_) | refine W.opn rfl op_lss rfl ?_ | refine W.nil ?_ | refine W.cond (x := true) rfl (fun _ => ?_) (fun hc => by cases hc) | rw [decide_eq_true (by first | assumption | omega)])
    refine W.ixF (by assumption) (by first | assumption | omega) rfl rfl rfl rfl rfl rfl rfl fun i_ o_ L_ => ?_
    repeat (first | (with_reducible first | refine W.region ?_ | refine SeqQ.normal ?_) | refine W.var rfl rfl rfl rfl rfl rfl rfl rfl rfl (by first | rfl | assumption) rfl fun h_ X_ n_ g_ L_ => ?_ | refine W.bs1 rfl rfl rfl rfl fun h_ X_ n_ g_ S_ => ?_ | refine W.opn (v := .ptr _) rfl rfl rfl ?_ | refine W.opn (v := .slice _ _ _ _) rfl rfl rfl ?_ | refine W.nil ?_ | refine W.ldk (by assumption) (by (repeat (first | assumption | exact Ext.refl _ | refine Ext.trans ?_ (by assumption))); done) rfl rfl rfl rfl rfl rfl rfl rfl ?_ | refine W.ldw (by assumption) (by (repeat (first | assumption | exact Ext.refl _ | refine Ext.trans ?_ (by assumption))); done) rfl rfl rfl rfl (by first | rfl | assumption) rfl rfl ?_)
    have hfl := flat_le (l := x.paths) (f := (fun p => [p.name, p.a, p.b])) (k := k + 1)
    rw [take_flat c1] at hfl
    simp only [List.length_append, List.length_cons, List.length_nil] at hfl
    rw [← hpA] at hfl
    have S_ : SlG _ 1 _ (([x.paths[k].name, x.paths[k].a, x.paths[k].b] : List Str).map Flat.enc) := S_
    refine W.apR (H := H) (z := 1) (by (repeat (first | assumption | exact Ext.refl _ | refine Ext.trans ?_ (by assumption))); done) (O.ext (by (repeat (first | assumption | exact Ext.refl _ | refine Ext.trans ?_ (by assumption))); done)) S_ rfl rfl rfl rfl rfl rfl rfl rfl rfl rfl rfl rfl (by
      simp only [List.length_map, List.length_append, List.length_cons, List.length_nil]
      show _ * 16 ≤ _
      omega) fun v' h2 X2 O2 => ?_
    obtain ⟨pv, nv, cv, xv, e⟩ := O2.form
    cases e
    repeat (first | (with_reducible first | refine W.region ?_ | refine SeqQ.normal ?_ | refine BlockQ.normal ?_) | refine W.opn rfl (op_add (by omega) (by omega)) rfl ?_ | refine W.opn (v := .int _ _) rfl rfl rfl ?_ | refine W.opn (v := .slice _ _ _ _) rfl rfl rfl ?_ | refine W.nil ?_)
    exact ⟨k + 1, lessN c1, X2, rfl, rfl, rfl, rfl, c1, _, rfl, by rw [take_flat c1, ← List.append_assoc, map_app]; exact O2⟩
  repeat (first | (with_reducible first | refine W.seq ?_ | refine W.block ?_ | refine W.region ?_ | refine W.exit ?_ | refine SeqQ.normal ?_ | refine SeqQ.exit ?_ | refine BlockQ.exit ?_ | refine LoopQ.exit ?_) | refine W.lnS (by assumption) rfl rfl rfl rfl rfl rfl rfl rfl ?_ | refine W.opn rfl op_lss rfl ?_ | refine W.opn (v := .int _ _) rfl rfl rfl ?_ | refine W.opn (v := .ptr _) rfl rfl rfl ?_ | refine W.nil ?_ | refine W.ldk (by assumption) (by (repeat (first | assumption | exact Ext.refl _ | refine Ext.trans ?_ (by assumption))); done) rfl rfl rfl rfl rfl rfl rfl rfl ?_ | refine W.cond (x := false) rfl (fun hc => by cases hc) (fun _ => ?_) | rw [decide_eq_false (by first | assumption | omega)])
  rw [show k = x.paths.length by omega, List.take_length] at O
  refine W.keep5 1 3 35 36 37 fun T k1 k3 k35 k36 k37 => ?_
  conv at k1 => rhs; whnf
  conv at k3 => rhs; whnf
  conv at k35 => rhs; whnf
  conv at k36 => rhs; whnf
  conv at k37 => rhs; whnf
  rw [show T = (((((T.set 1 (some (T.look 1))).set 3 (some (T.look 3))).set 35 (some (T.look 35))).set 36 (some (T.look 36))).set 37 (some (T.look 37))) from rfl, k1, k3, k35, k36, k37]
  clear k1 k3 k35 k36 k37
  rw [← hpA] at O
  refine W.loop (σ := Nat) (fun k tm h' => Ext H h' ∧ tm.look 1 = .ptr (some (h.next, 0)) ∧ tm.look 35 = v3 ∧ tm.look 36 = .int .i64 (x.doors.length : Int) ∧ tm.look 37 = .int .i64 (k : Int) ∧ k ≤ x.doors.length ∧ ∃ vo, tm.look 3 = vo ∧ OwnR h' H.next 1 vo (((x.stops ++ pA) ++ (x.doors.take k).flatMap (fun d => [d.name, d.a, d.b])).map Flat.enc)) (fun k => x.doors.length - k) ?_ (s := 0)
    ⟨(by (repeat (first | assumption | exact Ext.refl _ | refine Ext.trans ?_ (by assumption))); done), rfl, rfl, rfl, rfl, Nat.zero_le _, _, rfl, by rw [List.take_zero, List.flatMap_nil, List.append_nil]; exact O⟩
  clear O
  rintro k tm h' ⟨X, w1, w35, w36, w37, hk, vo, w3, O⟩
  obtain ⟨pv, nv, cv, xv, e⟩ := O.form
  cases e
  obtain ⟨T, rfl⟩ : ∃ T : Tm, tm = (((((T.set 1 (some (.ptr (some (h.next, 0))))).set 3 (some (.slice pv nv cv xv))).set 35 (some (v3))).set 36 (some (.int .i64 (x.doors.length : Int)))).set 37 (some (.int .i64 (k : Int)))) := ⟨tm, (show tm = (((((tm.set 1 (some (tm.look 1))).set 3 (some (tm.look 3))).set 35 (some (tm.look 35))).set 36 (some (tm.look 36))).set 37 (some (tm.look 37))) by rfl).trans (by rw [w1, w3, w35, w36, w37])⟩
  clear w1 w3 w35 w36 w37
  by_cases c1 : k < x.doors.length
  · repeat (first | (with_reducible first | refine W.seq ?_ | refine W.block ?_ | refine W.region ?_ | refine W.skip ?_ | refine SeqQ.normal ?_) | refine W.opn rfl op_lss rfl ?_ | refine W.nil ?_ | refine W.cond (x := true) rfl (fun _ => ?_) (fun hc => by cases hc) | rw [decide_eq_true (by first | assumption | omega)])
    refine W.ixF (by assumption) (by first | assumption | omega) rfl rfl rfl rfl rfl rfl rfl fun i_ o_ L_ => ?_
    repeat (first | (with_reducible first | refine W.region ?_ | refine SeqQ.normal ?_) | refine W.var rfl rfl rfl rfl rfl rfl rfl rfl rfl (by first | rfl | assumption) rfl fun h_ X_ n_ g_ L_ => ?_ | refine W.bs1 rfl rfl rfl rfl fun h_ X_ n_ g_ S_ => ?_ | refine W.opn (v := .ptr _) rfl rfl rfl ?_ | refine W.opn (v := .slice _ _ _ _) rfl rfl rfl ?_ | refine W.nil ?_ | refine W.ldk (by assumption) (by (repeat (first | assumption | exact Ext.refl _ | refine Ext.trans ?_ (by assumption))); done) rfl rfl rfl rfl rfl rfl rfl rfl ?_ | refine W.ldw (by assumption) (by (repeat (first | assumption | exact Ext.refl _ | refine Ext.trans ?_ (by assumption))); done) rfl rfl rfl rfl (by first | rfl | assumption) rfl rfl ?_)
    have hfl := flat_le (l := x.doors) (f := (fun d => [d.name, d.a, d.b])) (k := k + 1)
    rw [take_flat c1] at hfl
    simp only [List.length_append, List.length_cons, List.length_nil] at hfl
    rw [← hdA] at hfl
    have S_ : SlG _ 1 _ (([x.doors[k].name, x.doors[k].a, x.doors[k].b] : List Str).map Flat.enc) := S_
    refine W.apR (H := H) (z := 1) (by (repeat (first | assumption | exact Ext.refl _ | refine Ext.trans ?_ (by assumption))); done) (O.ext (by (repeat (first | assumption | exact Ext.refl _ | refine Ext.trans ?_ (by assumption))); done)) S_ rfl rfl rfl rfl rfl rfl rfl rfl rfl rfl rfl rfl (by
      simp only [List.length_map, List.length_append, List.length_cons, List.length_nil]
      show _ * 16 ≤ _
      omega) fun v' h2 X2 O2 => ?_
    obtain ⟨pv, nv, cv, xv, e⟩ := O2.form
    cases e
    repeat (first | (with_reducible first | refine W.region ?_ | refine SeqQ.normal ?_ | refine BlockQ.normal ?_) | refine W.opn rfl (op_add (by omega) (by omega)) rfl ?_ | refine W.opn (v := .int _ _) rfl rfl rfl ?_ | refine W.opn (v := .slice _ _ _ _) rfl rfl rfl ?_ | refine W.nil ?_)
    exact ⟨k + 1, lessN c1, X2, rfl, rfl, rfl, rfl, c1, _, rfl, by rw [take_flat c1, ← List.append_assoc, map_app]; exact O2⟩
  repeat (first | (with_reducible first | refine W.seq ?_ | refine W.block ?_ | refine W.region ?_ | refine W.exit ?_ | refine SeqQ.normal ?_ | refine SeqQ.exit ?_ | refine BlockQ.exit ?_ | refine LoopQ.exit ?_) | refine W.lnS (by assumption) rfl rfl rfl rfl rfl rfl rfl rfl ?_ | refine W.opn rfl op_lss rfl ?_ | refine W.opn (v := .int _ _) rfl rfl rfl ?_ | refine W.opn (v := .ptr _) rfl rfl rfl ?_ | refine W.nil ?_ | refine W.ldk (by assumption) (by (repeat (first | assumption | exact Ext.refl _ | refine Ext.trans ?_ (by assumption))); done) rfl rfl rfl rfl rfl rfl rfl rfl ?_ | refine W.cond (x := false) rfl (fun hc => by cases hc) (fun _ => ?_) | rw [decide_eq_false (by first | assumption | omega)])
  rw [show k = x.doors.length by omega, List.take_length] at O
  rw [← hdA] at O
  refine W.keep5 1 3 52 53 54 fun T k1 k3 k52 k53 k54 => ?_
  conv at k1 => rhs; whnf
  conv at k3 => rhs; whnf
  conv at k52 => rhs; whnf
  conv at k53 => rhs; whnf
  conv at k54 => rhs; whnf
  rw [show T = (((((T.set 1 (some (T.look 1))).set 3 (some (T.look 3))).set 52 (some (T.look 52))).set 53 (some (T.look 53))).set 54 (some (T.look 54))) from rfl, k1, k3, k52, k53, k54]
  clear k1 k3 k52 k53 k54
  refine W.loop (σ := Nat) (fun k tm h' => Ext H h' ∧ tm.look 1 = .ptr (some (h.next, 0)) ∧ tm.look 52 = v4 ∧ tm.look 53 = .int .i64 (x.routes.length : Int) ∧ tm.look 54 = .int .i64 (k : Int) ∧ k ≤ x.routes.length ∧ ∃ vo, tm.look 3 = vo ∧ OwnR h' H.next 1 vo ((x.stops ++ pA ++ dA ++ (x.routes.take k).flatMap (fun r => r.name :: r.stops)).map Flat.enc)) (fun k => x.routes.length - k) ?_ (s := 0)
    ⟨(by (repeat (first | assumption | exact Ext.refl _ | refine Ext.trans ?_ (by assumption))); done), rfl, rfl, rfl, rfl, Nat.zero_le _, _, rfl, by rw [List.take_zero, List.flatMap_nil, List.append_nil]; exact O⟩
  clear O
  rintro k tm h' ⟨X, w1, w52, w53, w54, hk, vo, w3, O⟩
  obtain ⟨pv, nv, cv, xv, e⟩ := O.form
  cases e
  obtain ⟨T, rfl⟩ : ∃ T : Tm, tm = (((((T.set 1 (some (.ptr (some (h.next, 0))))).set 3 (some (.slice pv nv cv xv))).set 52 (some (v4))).set 53 (some (.int .i64 (x.routes.length : Int)))).set 54 (some (.int .i64 (k : Int)))) := ⟨tm, (show tm = (((((tm.set 1 (some (tm.look 1))).set 3 (some (tm.look 3))).set 52 (some (tm.look 52))).set 53 (some (tm.look 53))).set 54 (some (tm.look 54))) by rfl).trans (by rw [w1, w3, w52, w53, w54])⟩
  clear w1 w3 w52 w53 w54
  by_cases c1 : k < x.routes.length
  · repeat (first | (with_reducible first | refine W.seq ?_ | refine W.block ?_ | refine W.region ?_ | refine W.skip ?_ | refine SeqQ.normal ?_) | refine W.opn rfl op_lss rfl ?_ | refine W.nil ?_ | refine W.cond (x := true) rfl (fun _ => ?_) (fun hc => by cases hc) | rw [decide_eq_true (by first | assumption | omega)])
    refine W.ixR s4 c1 rfl rfl rfl rfl rfl rfl rfl fun i_ o_ e L_ r_ => ?_
    obtain ⟨u1, u2, u3, rfl, t1, t2, t3⟩ := r_
    have hfl := flat_le (l := x.routes) (f := (fun r => r.name :: r.stops)) (k := k + 1)
    rw [take_flat c1] at hfl
    simp only [List.length_append, List.length_cons, List.length_nil] at hfl
    rw [← hrA] at hfl
    repeat (first | (with_reducible first | refine W.draws ?_ | refine SeqQ.normal ?_) | refine W.var rfl rfl rfl rfl rfl rfl rfl rfl rfl (by first | rfl | assumption) rfl fun h_ X_ n_ g_ L_ => ?_ | refine W.nil ?_ | refine W.ldw (by assumption) (by (repeat (first | assumption | exact Ext.refl _ | refine Ext.trans ?_ (by assumption))); done) rfl rfl rfl rfl (by first | rfl | assumption) rfl rfl ?_)
    have dy : DY (fun b => b = h'.next) h_ [] [] := DY.start (fun b hb => by omega)
    repeat (first | refine W.dopn (v := .ptr _) rfl rfl rfl rfl ?_ | refine W.dopn (v := .slice _ _ _ _) rfl rfl rfl rfl ?_)
    refine W.ldY dy rfl L_ rfl rfl rfl rfl rfl rfl rfl fun r1 ha dy sa La => ?_
    skip
    refine W.newY dy rfl rfl rfl rfl fun r2 hb dy xb nb gb => ?_
    have gb : hb.get ha.next = some (.cells (Flat.enc x.routes[k].name) false) := gb
    have na : ha.next = h_.next := sa.next
    have Xb : Ext h' hb := (X_.trans sa.ext).trans xb
    skip
    refine W.apY (H := H) (z := 1) (l2 := [Flat.enc x.routes[k].name]) dy (X.trans Xb) (O.ext Xb) (SlG.one (by show ha.next < hb.next; omega) gb) (fun b hb2 => ?_) rfl rfl rfl rfl rfl rfl rfl rfl rfl rfl rfl rfl rfl (by
      simp only [List.length_map, List.length_append, List.length_cons, List.length_nil]
      show _ * 16 ≤ _
      omega) fun r3 v3 hc dy Xc bc nc O3 _ => ?_
    · subst hb2
      rcases O.notIn (Nat.le_refl _) with e | ⟨i, e, hi, _⟩
      · rw [e]
        show h'.next ∉ [ha.next]
        simp only [List.mem_singleton]
        omega
      · rw [e]
        show h'.next ∉ [i, ha.next]
        simp only [List.mem_cons, List.not_mem_nil, or_false]
        omega
    obtain ⟨pv, nv, cv, xv, e⟩ := O3.form
    cases e
    repeat (first | refine W.dopn (v := .ptr _) rfl rfl rfl rfl ?_)
    refine W.ldY dy rfl ((La.ext xb).of_get (bc _ rfl) nc) rfl rfl rfl rfl rfl rfl rfl fun r4 hd dy sd Ld => ?_
    skip
    have Xd : Ext H hd := Xc.trans sd.ext
    refine W.apY (H := H) (z := 1) (l2 := x.routes[k].stops.map Flat.enc) dy.drop Xd (O3.ext sd.ext) ((Sl.to_map Flat.iff t1).ext (XH.trans Xd)) (fun b hb2 => hb2.elim) rfl rfl rfl rfl rfl rfl rfl rfl rfl rfl rfl rfl rfl (by
      simp only [List.length_map, List.length_append, List.length_cons, List.length_nil]
      show _ * 16 ≤ _
      omega) fun r5 v5 he dy Xe be ne O5 _ => ?_
    obtain ⟨pv, nv, cv, xv, e⟩ := O5.form
    cases e
    repeat (first | refine W.dopn (v := .slice _ _ _ _) rfl rfl rfl rfl ?_ | refine W.dnil ?_)
    repeat (first | (with_reducible first | refine W.region ?_ | refine SeqQ.normal ?_ | refine BlockQ.normal ?_) | refine W.opn rfl (op_add (by omega) (by omega)) rfl ?_ | refine W.opn (v := .int _ _) rfl rfl rfl ?_ | refine W.nil ?_)
    exact ⟨k + 1, lessN c1, Xe, rfl, rfl, rfl, rfl, c1, _, rfl, by rw [take_flat c1, ← List.append_assoc, map_app, List.map_cons]; rw [List.append_assoc] at O5; exact O5⟩
  repeat (first | (with_reducible first | refine W.seq ?_ | refine W.block ?_ | refine W.region ?_ | refine W.exit ?_ | refine SeqQ.normal ?_ | refine SeqQ.exit ?_ | refine BlockQ.exit ?_ | refine LoopQ.exit ?_) | refine W.lnS (by assumption) rfl rfl rfl rfl rfl rfl rfl rfl ?_ | refine W.opn rfl op_lss rfl ?_ | refine W.opn (v := .int _ _) rfl rfl rfl ?_ | refine W.opn (v := .ptr _) rfl rfl rfl ?_ | refine W.nil ?_ | refine W.ldk (by assumption) (by (repeat (first | assumption | exact Ext.refl _ | refine Ext.trans ?_ (by assumption))); done) rfl rfl rfl rfl rfl rfl rfl rfl ?_ | refine W.cond (x := false) rfl (fun hc => by cases hc) (fun _ => ?_) | rw [decide_eq_false (by first | assumption | omega)])
  rw [show k = x.routes.length by omega, List.take_length, ← hrA] at O
  refine W.keep5 1 3 68 69 70 fun T k1 k3 k68 k69 k70 => ?_
  conv at k1 => rhs; whnf
  conv at k3 => rhs; whnf
  conv at k68 => rhs; whnf
  conv at k69 => rhs; whnf
  conv at k70 => rhs; whnf
  rw [show T = (((((T.set 1 (some (T.look 1))).set 3 (some (T.look 3))).set 68 (some (T.look 68))).set 69 (some (T.look 69))).set 70 (some (T.look 70))) from rfl, k1, k3, k68, k69, k70]
  clear k1 k3 k68 k69 k70
  refine W.loop (σ := Nat) (fun k tm h' => Ext H h' ∧ tm.look 1 = .ptr (some (h.next, 0)) ∧ tm.look 68 = v5 ∧ tm.look 69 = .int .i64 (x.trips.length : Int) ∧ tm.look 70 = .int .i64 (k : Int) ∧ k ≤ x.trips.length ∧ ∃ vo, tm.look 3 = vo ∧ OwnR h' H.next 1 vo (((x.stops ++ pA ++ dA ++ rA) ++ (x.trips.take k).flatMap (fun t => [t.name, t.route])).map Flat.enc)) (fun k => x.trips.length - k) ?_ (s := 0)
    ⟨(by (repeat (first | assumption | exact Ext.refl _ | refine Ext.trans ?_ (by assumption))); done), rfl, rfl, rfl, rfl, Nat.zero_le _, _, rfl, by rw [List.take_zero, List.flatMap_nil, List.append_nil]; exact O⟩
  clear O
  rintro k tm h' ⟨X, w1, w68, w69, w70, hk, vo, w3, O⟩
  obtain ⟨pv, nv, cv, xv, e⟩ := O.form
  cases e
  obtain ⟨T, rfl⟩ : ∃ T : Tm, tm = (((((T.set 1 (some (.ptr (some (h.next, 0))))).set 3 (some (.slice pv nv cv xv))).set 68 (some (v5))).set 69 (some (.int .i64 (x.trips.length : Int)))).set 70 (some (.int .i64 (k : Int)))) := ⟨tm, (show tm = (((((tm.set 1 (some (tm.look 1))).set 3 (some (tm.look 3))).set 68 (some (tm.look 68))).set 69 (some (tm.look 69))).set 70 (some (tm.look 70))) by rfl).trans (by rw [w1, w3, w68, w69, w70])⟩
  clear w1 w3 w68 w69 w70
  by_cases c1 : k < x.trips.length
  · repeat (first | (with_reducible first | refine W.seq ?_ | refine W.block ?_ | refine W.region ?_ | refine W.skip ?_ | refine SeqQ.normal ?_) | refine W.opn rfl op_lss rfl ?_ | refine W.nil ?_ | refine W.cond (x := true) rfl (fun _ => ?_) (fun hc => by cases hc) | rw [decide_eq_true (by first | assumption | omega)])
    refine W.ixF (by assumption) (by first | assumption | omega) rfl rfl rfl rfl rfl rfl rfl fun i_ o_ L_ => ?_
    repeat (first | (with_reducible first | refine W.region ?_ | refine SeqQ.normal ?_) | refine W.var rfl rfl rfl rfl rfl rfl rfl rfl rfl (by first | rfl | assumption) rfl fun h_ X_ n_ g_ L_ => ?_ | refine W.bs1 rfl rfl rfl rfl fun h_ X_ n_ g_ S_ => ?_ | refine W.opn (v := .ptr _) rfl rfl rfl ?_ | refine W.opn (v := .slice _ _ _ _) rfl rfl rfl ?_ | refine W.nil ?_ | refine W.ldk (by assumption) (by (repeat (first | assumption | exact Ext.refl _ | refine Ext.trans ?_ (by assumption))); done) rfl rfl rfl rfl rfl rfl rfl rfl ?_ | refine W.ldw (by assumption) (by (repeat (first | assumption | exact Ext.refl _ | refine Ext.trans ?_ (by assumption))); done) rfl rfl rfl rfl (by first | rfl | assumption) rfl rfl ?_)
    have hfl := flat_le (l := x.trips) (f := (fun t => [t.name, t.route])) (k := k + 1)
    rw [take_flat c1] at hfl
    simp only [List.length_append, List.length_cons, List.length_nil] at hfl
    rw [← htA] at hfl
    have S_ : SlG _ 1 _ (([x.trips[k].name, x.trips[k].route] : List Str).map Flat.enc) := S_
    refine W.apR (H := H) (z := 1) (by (repeat (first | assumption | exact Ext.refl _ | refine Ext.trans ?_ (by assumption))); done) (O.ext (by (repeat (first | assumption | exact Ext.refl _ | refine Ext.trans ?_ (by assumption))); done)) S_ rfl rfl rfl rfl rfl rfl rfl rfl rfl rfl rfl rfl (by
      simp only [List.length_map, List.length_append, List.length_cons, List.length_nil]
      show _ * 16 ≤ _
      omega) fun v' h2 X2 O2 => ?_
    obtain ⟨pv, nv, cv, xv, e⟩ := O2.form
    cases e
    repeat (first | (with_reducible first | refine W.region ?_ | refine SeqQ.normal ?_ | refine BlockQ.normal ?_) | refine W.opn rfl (op_add (by omega) (by omega)) rfl ?_ | refine W.opn (v := .int _ _) rfl rfl rfl ?_ | refine W.opn (v := .slice _ _ _ _) rfl rfl rfl ?_ | refine W.nil ?_)
    exact ⟨k + 1, lessN c1, X2, rfl, rfl, rfl, rfl, c1, _, rfl, by rw [take_flat c1, ← List.append_assoc, map_app]; exact O2⟩
  repeat (first | (with_reducible first | refine W.seq ?_ | refine W.block ?_ | refine W.region ?_ | refine W.exit ?_ | refine SeqQ.normal ?_ | refine SeqQ.exit ?_ | refine BlockQ.exit ?_ | refine LoopQ.exit ?_) | refine W.lnS (by assumption) rfl rfl rfl rfl rfl rfl rfl rfl ?_ | refine W.opn rfl op_lss rfl ?_ | refine W.opn (v := .int _ _) rfl rfl rfl ?_ | refine W.opn (v := .ptr _) rfl rfl rfl ?_ | refine W.nil ?_ | refine W.ldk (by assumption) (by (repeat (first | assumption | exact Ext.refl _ | refine Ext.trans ?_ (by assumption))); done) rfl rfl rfl rfl rfl rfl rfl rfl ?_ | refine W.cond (x := false) rfl (fun hc => by cases hc) (fun _ => ?_) | rw [decide_eq_false (by first | assumption | omega)])
  rw [show k = x.trips.length by omega, List.take_length] at O
  refine W.keep5 1 3 83 84 85 fun T k1 k3 k83 k84 k85 => ?_
  conv at k1 => rhs; whnf
  conv at k3 => rhs; whnf
  conv at k83 => rhs; whnf
  conv at k84 => rhs; whnf
  conv at k85 => rhs; whnf
  rw [show T = (((((T.set 1 (some (T.look 1))).set 3 (some (T.look 3))).set 83 (some (T.look 83))).set 84 (some (T.look 84))).set 85 (some (T.look 85))) from rfl, k1, k3, k83, k84, k85]
  clear k1 k3 k83 k84 k85
  rw [← htA] at O
  refine W.loop (σ := Nat) (fun k tm h' => Ext H h' ∧ tm.look 1 = .ptr (some (h.next, 0)) ∧ tm.look 83 = v6 ∧ tm.look 84 = .int .i64 (x.hazards.length : Int) ∧ tm.look 85 = .int .i64 (k : Int) ∧ k ≤ x.hazards.length ∧ ∃ vo, tm.look 3 = vo ∧ OwnR h' H.next 1 vo (((x.stops ++ pA ++ dA ++ rA ++ tA) ++ (x.hazards.take k).flatMap (fun h => [h.name, h.on])).map Flat.enc)) (fun k => x.hazards.length - k) ?_ (s := 0)
    ⟨(by (repeat (first | assumption | exact Ext.refl _ | refine Ext.trans ?_ (by assumption))); done), rfl, rfl, rfl, rfl, Nat.zero_le _, _, rfl, by rw [List.take_zero, List.flatMap_nil, List.append_nil]; exact O⟩
  clear O
  rintro k tm h' ⟨X, w1, w83, w84, w85, hk, vo, w3, O⟩
  obtain ⟨pv, nv, cv, xv, e⟩ := O.form
  cases e
  obtain ⟨T, rfl⟩ : ∃ T : Tm, tm = (((((T.set 1 (some (.ptr (some (h.next, 0))))).set 3 (some (.slice pv nv cv xv))).set 83 (some (v6))).set 84 (some (.int .i64 (x.hazards.length : Int)))).set 85 (some (.int .i64 (k : Int)))) := ⟨tm, (show tm = (((((tm.set 1 (some (tm.look 1))).set 3 (some (tm.look 3))).set 83 (some (tm.look 83))).set 84 (some (tm.look 84))).set 85 (some (tm.look 85))) by rfl).trans (by rw [w1, w3, w83, w84, w85])⟩
  clear w1 w3 w83 w84 w85
  by_cases c1 : k < x.hazards.length
  · repeat (first | (with_reducible first | refine W.seq ?_ | refine W.block ?_ | refine W.region ?_ | refine W.skip ?_ | refine SeqQ.normal ?_) | refine W.opn rfl op_lss rfl ?_ | refine W.nil ?_ | refine W.cond (x := true) rfl (fun _ => ?_) (fun hc => by cases hc) | rw [decide_eq_true (by first | assumption | omega)])
    refine W.ixF (by assumption) (by first | assumption | omega) rfl rfl rfl rfl rfl rfl rfl fun i_ o_ L_ => ?_
    repeat (first | (with_reducible first | refine W.region ?_ | refine SeqQ.normal ?_) | refine W.var rfl rfl rfl rfl rfl rfl rfl rfl rfl (by first | rfl | assumption) rfl fun h_ X_ n_ g_ L_ => ?_ | refine W.bs1 rfl rfl rfl rfl fun h_ X_ n_ g_ S_ => ?_ | refine W.opn (v := .ptr _) rfl rfl rfl ?_ | refine W.opn (v := .slice _ _ _ _) rfl rfl rfl ?_ | refine W.nil ?_ | refine W.ldk (by assumption) (by (repeat (first | assumption | exact Ext.refl _ | refine Ext.trans ?_ (by assumption))); done) rfl rfl rfl rfl rfl rfl rfl rfl ?_ | refine W.ldw (by assumption) (by (repeat (first | assumption | exact Ext.refl _ | refine Ext.trans ?_ (by assumption))); done) rfl rfl rfl rfl (by first | rfl | assumption) rfl rfl ?_)
    have hfl := flat_le (l := x.hazards) (f := (fun h => [h.name, h.on])) (k := k + 1)
    rw [take_flat c1] at hfl
    simp only [List.length_append, List.length_cons, List.length_nil] at hfl
    rw [← hhA] at hfl
    have S_ : SlG _ 1 _ (([x.hazards[k].name, x.hazards[k].on] : List Str).map Flat.enc) := S_
    refine W.apR (H := H) (z := 1) (by (repeat (first | assumption | exact Ext.refl _ | refine Ext.trans ?_ (by assumption))); done) (O.ext (by (repeat (first | assumption | exact Ext.refl _ | refine Ext.trans ?_ (by assumption))); done)) S_ rfl rfl rfl rfl rfl rfl rfl rfl rfl rfl rfl rfl (by
      simp only [List.length_map, List.length_append, List.length_cons, List.length_nil]
      show _ * 16 ≤ _
      omega) fun v' h2 X2 O2 => ?_
    obtain ⟨pv, nv, cv, xv, e⟩ := O2.form
    cases e
    repeat (first | (with_reducible first | refine W.region ?_ | refine SeqQ.normal ?_ | refine BlockQ.normal ?_) | refine W.opn rfl (op_add (by omega) (by omega)) rfl ?_ | refine W.opn (v := .int _ _) rfl rfl rfl ?_ | refine W.opn (v := .slice _ _ _ _) rfl rfl rfl ?_ | refine W.nil ?_)
    exact ⟨k + 1, lessN c1, X2, rfl, rfl, rfl, rfl, c1, _, rfl, by rw [take_flat c1, ← List.append_assoc, map_app]; exact O2⟩
  repeat (first | (with_reducible first | refine W.seq ?_ | refine W.region ?_ | refine W.exit ?_ | refine W.ret ?_ | refine SeqQ.normal ?_ | refine SeqQ.exit ?_ | refine BlockQ.exit ?_ | refine LoopQ.exit ?_) | refine W.opn rfl op_lss rfl ?_ | refine W.opn (v := .slice _ _ _ _) rfl rfl rfl ?_ | refine W.nil ?_ | refine W.cond (x := false) rfl (fun hc => by cases hc) (fun _ => ?_) | rw [decide_eq_false (by first | assumption | omega)])
  rw [show k = x.hazards.length by omega, List.take_length] at O
  rw [← hhA] at O
  exact q _ _ (XH.trans X) O.toSl
end
end Go.Proofs.YtmgpjfnlciapkaaGreatDoor
